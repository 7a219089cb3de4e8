/-
  What the functions of this part hand back: each as a plain function of its arguments. Conditions: none.
-/
import Derived.ProofKit
import Derived.OpenShut
import Derived.Below
import Derived.ChangeSame
import Derived.Test.YtchbkidlmcpiiaaM1
import Derived.Test.YtchbkidlmcpiiaaM2
import Derived.Test.YtchbkidlmcpiiaaM3
import Derived.Test.YtchbkidlmcpiiaaM4
import Derived.Test.YtchbkidlmcpiiaaM5
namespace Go.Proofs
open Go.W8
set_option linter.unusedVariables false
set_option linter.unusedSimpArgs false
set_option linter.unusedSectionVars false
set_option maxRecDepth 8000
set_option maxHeartbeats 4000000
theorem Equal_c (l1 l2 : List Int) (R : Rd) (v1 v2 : Value) (h1 : RdS R 1 (ints .i64 l1) v1) (h2 : RdS R 1 (ints .i64 l2) v2) (b1 : l1.length ≤ 100000000) (b2 : l2.length ≤ 100000000) :
    GivesR Try.prog 33 #[v1, v2] R (.bool (decide (l1 = l2))) := by
  obtain ⟨a, m1, cap, rfl, hm1, _⟩ := id h1
  obtain rfl := lauLen hm1
  obtain ⟨a', m2, cap', rfl, hm2, _⟩ := id h2
  obtain rfl := lauLen hm2
  refine GivesR.of (callable_of Try.func33 rfl (by decide)) fun w hR => ?_
  refine acall_of (N := 26) (c := _) (rs := [.tmp 4]) (args := [_, _]) Try.func33 rfl (by decide) rfl rfl (Nat.le_of_ble_eq_true rfl) ?_
  refine Cd.rs [0, 1] fun K hK => ?_
  simp (maxSteps := 2000000) (disch := first | (simp only [E4] <;> omega) | omega | fail) only [↓E2, E3, bare, bareJ, ↓E0, E1, env0, envN, evOps, evOp, evQs, evQ, evV, setD, pureOp, ev, upd, updL, hav, delB, ↓reduceIte, Zj, Zk, Nat.reduceAdd, Nat.reduceLT, Nat.reduceEqDiff, Nat.reduceMul, Nat.reduceLeDiff, if_true, Zn, reduceCtorEq, ZA, eq_self, Int.reduceLE, Int.reduceLT, Int.reduceToNat, ne_eq, Nat.reduceSub]
  repeat refine And.intro (by omega) ?_
  repeat refine And.intro (by omega) ?_
  intro g
  simp only [List.map_cons, List.map_nil, updL, upd, Nat.reduceEqDiff, if_true, if_false, ↓reduceIte]
  refine hK _ _ ?_; clear hK K
  refine Cd.seq ?_
  refine Cd.rs [0, 1, 10] fun K hK => ?_
  simp (maxSteps := 2000000) (disch := first | (simp only [E4] <;> omega) | omega | fail) only [↓E2, E3, bare, bareJ, ↓E0, E1, env0, envN, evOps, evOp, evQs, evQ, evV, setD, pureOp, ev, upd, updL, binW, eqOp, binV, intOp, shOp, boolOp, lenV, hav, delB, eqL, SameI, strOp, ↓reduceIte, Zj, Zk, Nat.reduceAdd, Nat.reduceLT, Nat.reduceEqDiff, Nat.reduceMul, Nat.reduceLeDiff, if_true, Zn, reduceCtorEq, ZA, eq_self, Int.reduceLE, Int.reduceLT, Int.reduceToNat, ne_eq, Nat.reduceSub, Tslce31]
  repeat refine And.intro (by omega) ?_
  repeat refine And.intro (by omega) ?_
  intro g
  simp only [List.map_cons, List.map_nil, updL, upd, Nat.reduceEqDiff, if_true, if_false, ↓reduceIte]
  refine hK _ _ ?_; clear hK K
  refine Cd.cond rfl (fun c1 => ?_) (fun c1 => ?_)
  · simp only [decide_eq_true_eq, decide_eq_false_iff_not, beq_iff_eq, beq_eq_false_iff_ne, bne_iff_ne, bne_eq_false_iff_eq, Bool.and_eq_true, Bool.or_eq_true, Bool.or_eq_false_iff, Bool.not_eq_true', Bool.not_eq_false', Bool.and_eq_false_imp, ne_eq, gt_iff_lt, ge_iff_le, Int.not_lt, Int.not_le, Classical.not_not] at c1
    refine Cd.rs [4] fun K hK => ?_
    simp (maxSteps := 2000000) (disch := first | (simp only [E4] <;> omega) | omega | fail) only [↓E2, E3, bare, bareJ, ↓E0, E1, env0, envN, evOps, evOp, evQs, evQ, evV, setD, pureOp, ev, upd, updL, hav, delB, ↓reduceIte, Zj, Zk, Nat.reduceAdd, Nat.reduceLT, Nat.reduceEqDiff, Nat.reduceMul, Nat.reduceLeDiff, if_true, Zn, reduceCtorEq, ZA, eq_self, Int.reduceLE, Int.reduceLT, Int.reduceToNat, ne_eq, Nat.reduceSub]
    repeat refine And.intro (by omega) ?_
    repeat refine And.intro (by omega) ?_
    intro g
    simp only [List.map_cons, List.map_nil, updL, upd, Nat.reduceEqDiff, if_true, if_false, ↓reduceIte]
    refine hK _ _ ?_; clear hK K
    refine Cd.ret (thenR ?_)
    simp (maxSteps := 2000000) (disch := first | (simp only [E4] <;> omega) | omega | fail) only [↓E2, E3, bare, bareJ, ↓E0, E1, evP, evPlan, env0, envN, evOps, evOp, evQs, evQ, evV, setD, pureOp, ev, upd, updL, gate, binW, eqOp, binV, intOp, shOp, boolOp, unV, convV, nilV, fieldAddrV, indexAddrV, extractV, cellAt, cellsAt, findB, setB, fillL, buildV, Value.cells, lenV, minV, maxV, hav, sliceV, loV, hiV, bslQ, mksQ, appQ, partsOk, partsCells, delB, eqL, SameI, strOp, apzQ, cvtQ, capV, ↓reduceIte, Zj, Zk, Nat.reduceAdd, Nat.reduceLT, Nat.reduceEqDiff, Nat.reduceMul, Nat.reduceLeDiff, if_true, Zn, reduceCtorEq, ZA, eq_self, Int.reduceLE, Int.reduceLT, Int.reduceToNat, ne_eq, Nat.reduceSub]
    repeat refine And.intro (by omega) ?_
    rw [decide_eq_false]
    intro e
    rw [e] at c1
    exact c1 rfl
  · simp only [decide_eq_true_eq, decide_eq_false_iff_not, beq_iff_eq, beq_eq_false_iff_ne, bne_iff_ne, bne_eq_false_iff_eq, Bool.and_eq_true, Bool.or_eq_true, Bool.or_eq_false_iff, Bool.not_eq_true', Bool.not_eq_false', Bool.and_eq_false_imp, ne_eq, gt_iff_lt, ge_iff_le, Int.not_lt, Int.not_le, Classical.not_not] at c1
    have hlen : l1.length = l2.length := by omega
    refine Cd.skip ?_
    refine thenN ?_
    refine Cd.seq ?_
    refine Cd.rs [0, 1, 12, 13] fun K hK => ?_
    simp (maxSteps := 2000000) (disch := first | (simp only [E4] <;> omega) | omega | fail) only [↓E2, E3, bare, bareJ, ↓E0, E1, env0, envN, evOps, evOp, evQs, evQ, evV, setD, pureOp, ev, upd, updL, lenV, hav, delB, ↓reduceIte, Zj, Zk, Nat.reduceAdd, Nat.reduceLT, Nat.reduceEqDiff, Nat.reduceMul, Nat.reduceLeDiff, if_true, Zn, reduceCtorEq, ZA, eq_self, Int.reduceLE, Int.reduceLT, Int.reduceToNat, ne_eq, Nat.reduceSub, Tslce31]
    repeat refine And.intro (by omega) ?_
    repeat refine And.intro (by omega) ?_
    intro g
    simp only [List.map_cons, List.map_nil, updL, upd, Nat.reduceEqDiff, if_true, if_false, ↓reduceIte]
    refine hK _ _ ?_; clear hK K
    refine Cd.block ?_
    refine Cd.loop (fun n ρ M => ∃ g k, k + n = l1.length ∧ (∀ j, j < k → l1.getD j 0 = l2.getD j 0) ∧ ρ = updL [(0, .slice a l1.length cap), (1, .slice a' l2.length cap'), (12, .int .i64 (l1.length : Int)), (13, .int .i64 (k : Int))] g ∧ M = []) l1.length ⟨_, 0, Nat.zero_add _, fun j hj => absurd hj (Nat.not_lt_zero _), rfl, rfl⟩ ?_
    rintro n ρ M ⟨g, k, hk, hall, rfl, rfl⟩
    refine Cd.rs [0, 1, 12, 13, 14] fun K hK => ?_
    simp (maxSteps := 2000000) (disch := first | (simp only [E4] <;> omega) | omega | fail) only [↓E2, E3, bare, bareJ, ↓E0, E1, env0, envN, evOps, evOp, evQs, evQ, evV, setD, pureOp, ev, upd, updL, binW, eqOp, binV, intOp, shOp, boolOp, hav, delB, eqL, SameI, strOp, ↓reduceIte, Zj, Zk, Nat.reduceAdd, Nat.reduceLT, Nat.reduceEqDiff, Nat.reduceMul, Nat.reduceLeDiff, if_true, Zn, reduceCtorEq, ZA, eq_self, Int.reduceLE, Int.reduceLT, Int.reduceToNat, ne_eq, Nat.reduceSub]
    repeat refine And.intro (by omega) ?_
    repeat refine And.intro (by omega) ?_
    intro g
    simp only [List.map_cons, List.map_nil, updL, upd, Nat.reduceEqDiff, if_true, if_false, ↓reduceIte]
    refine hK _ _ ?_; clear hK K
    refine Cd.seq ?_
    refine Cd.condd rfl (fun c2 => ?_) (fun c2 => ?_)
    · obtain ⟨b, rfl, g1⟩ := rd_int h1 hR (k := k) (by omega)
      obtain ⟨b', rfl, g2⟩ := rd_int h2 hR (k := k) (by omega)
      refine Cd.skip ?_
      refine thenN ?_
      refine Cd.seq ?_
      refine Cd.block ?_
      refine Cd.rs [0, 1, 5, 12, 13] fun K hK => ?_
      simp (maxSteps := 2000000) (disch := first | (simp only [E4] <;> omega) | omega | fail) only [↓E2, E3, bare, bareJ, ↓E0, E1, env0, envN, evOps, evOp, evQs, evQ, evV, setD, pureOp, ev, upd, updL, hav, delB, ↓reduceIte, Zj, Zk, Nat.reduceAdd, Nat.reduceLT, Nat.reduceEqDiff, Nat.reduceMul, Nat.reduceLeDiff, if_true, Zn, reduceCtorEq, ZA, eq_self, Int.reduceLE, Int.reduceLT, Int.reduceToNat, ne_eq, Nat.reduceSub]
      repeat refine And.intro (by omega) ?_
      repeat refine And.intro (by omega) ?_
      intro g
      simp only [List.map_cons, List.map_nil, updL, upd, Nat.reduceEqDiff, if_true, if_false, ↓reduceIte]
      refine hK _ _ ?_; clear hK K
      skip
      refine Cd.qs [0, 1, 12, 13, 24] fol (by kernel_rfl) fun K hK => ?_
      simp (maxSteps := 2000000) (disch := first | (simp only [E4, g1, g2] <;> omega) | omega | fail) only [↓E2, E3, bare, bareJ, ↓E0, E1, evPlan, env0, envN, evOps, evOp, evQs, evQ, evV, setD, pureOp, ev, upd, updL, binW, eqOp, binV, intOp, shOp, boolOp, indexAddrV, cellAt, cellsAt, findB, hav, delB, eqL, SameI, strOp, ↓reduceIte, Zj, Zk, Nat.reduceAdd, Nat.reduceLT, Nat.reduceEqDiff, Nat.reduceMul, Nat.reduceLeDiff, if_true, Zn, reduceCtorEq, ZA, eq_self, Int.reduceLE, Int.reduceLT, Int.reduceToNat, ne_eq, Nat.reduceSub, Tld2, Tslc31, g1, g2]
      repeat refine And.intro (by omega) ?_
      repeat refine And.intro (by omega) ?_
      intro g
      simp only [List.map_cons, List.map_nil, updL, upd, Nat.reduceEqDiff, if_true, if_false, ↓reduceIte]
      refine hK _ ?_; clear hK K
      refine Cd.cond rfl (fun c3 => ?_) (fun c3 => ?_)
      · simp only [decide_eq_true_eq, decide_eq_false_iff_not, beq_iff_eq, beq_eq_false_iff_ne, bne_iff_ne, bne_eq_false_iff_eq, Bool.and_eq_true, Bool.or_eq_true, Bool.or_eq_false_iff, Bool.not_eq_true', Bool.not_eq_false', Bool.and_eq_false_imp, ne_eq, gt_iff_lt, ge_iff_le, Int.not_lt, Int.not_le, Classical.not_not] at c3
        refine Cd.rs [4] fun K hK => ?_
        simp (maxSteps := 2000000) (disch := first | (simp only [E4, g1, g2] <;> omega) | omega | fail) only [↓E2, E3, bare, bareJ, ↓E0, E1, env0, envN, evOps, evOp, evQs, evQ, evV, setD, pureOp, ev, upd, updL, hav, delB, ↓reduceIte, Zj, Zk, Nat.reduceAdd, Nat.reduceLT, Nat.reduceEqDiff, Nat.reduceMul, Nat.reduceLeDiff, if_true, Zn, reduceCtorEq, ZA, eq_self, Int.reduceLE, Int.reduceLT, Int.reduceToNat, ne_eq, Nat.reduceSub, g1, g2]
        repeat refine And.intro (by omega) ?_
        repeat refine And.intro (by omega) ?_
        intro g
        simp only [List.map_cons, List.map_nil, updL, upd, Nat.reduceEqDiff, if_true, if_false, ↓reduceIte]
        refine hK _ _ ?_; clear hK K
        refine Cd.ret (inBR (thenR (roundR (inBR (thenR ?_)))))
        simp (maxSteps := 2000000) (disch := first | (simp only [E4, g1, g2] <;> omega) | omega | fail) only [↓E2, E3, bare, bareJ, ↓E0, E1, evP, evPlan, env0, envN, evOps, evOp, evQs, evQ, evV, setD, pureOp, ev, upd, updL, gate, binW, eqOp, binV, intOp, shOp, boolOp, unV, convV, nilV, fieldAddrV, indexAddrV, extractV, cellAt, cellsAt, findB, setB, fillL, buildV, Value.cells, lenV, minV, maxV, hav, sliceV, loV, hiV, bslQ, mksQ, appQ, partsOk, partsCells, delB, eqL, SameI, strOp, apzQ, cvtQ, capV, ↓reduceIte, Zj, Zk, Nat.reduceAdd, Nat.reduceLT, Nat.reduceEqDiff, Nat.reduceMul, Nat.reduceLeDiff, if_true, Zn, reduceCtorEq, ZA, eq_self, Int.reduceLE, Int.reduceLT, Int.reduceToNat, ne_eq, Nat.reduceSub, g1, g2]
        repeat refine And.intro (by omega) ?_
        rw [decide_eq_false]
        intro e
        rw [e] at c3
        exact c3 rfl
      · simp only [decide_eq_true_eq, decide_eq_false_iff_not, beq_iff_eq, beq_eq_false_iff_ne, bne_iff_ne, bne_eq_false_iff_eq, Bool.and_eq_true, Bool.or_eq_true, Bool.or_eq_false_iff, Bool.not_eq_true', Bool.not_eq_false', Bool.and_eq_false_imp, ne_eq, gt_iff_lt, ge_iff_le, Int.not_lt, Int.not_le, Classical.not_not] at c3
        refine Cd.skip ?_
        refine inBN ?_
        refine thenN ?_
        refine Cd.rr [0, 1, 12, 13] fun K hK => ?_
        simp (maxSteps := 2000000) (disch := first | (simp only [E4, g1, g2] <;> omega) | omega | fail) only [↓E2, E3, bare, bareJ, ↓E0, E1, env0, envN, evOps, evOp, evQs, evQ, evV, setD, pureOp, ev, upd, updL, binW, eqOp, binV, intOp, shOp, boolOp, hav, delB, eqL, SameI, strOp, ↓reduceIte, Zj, Zk, Nat.reduceAdd, Nat.reduceLT, Nat.reduceEqDiff, Nat.reduceMul, Nat.reduceLeDiff, if_true, Zn, reduceCtorEq, ZA, eq_self, Int.reduceLE, Int.reduceLT, Int.reduceToNat, ne_eq, Nat.reduceSub, g1, g2]
        repeat refine And.intro (by omega) ?_
        repeat refine And.intro (by omega) ?_
        intro g
        simp only [List.map_cons, List.map_nil, updL, upd, Nat.reduceEqDiff, if_true, if_false, ↓reduceIte]
        refine hK _ _ ?_; clear hK K
        refine roundN (m := n - 1) (by omega) ⟨_, k + 1, by omega, fun j hj => ?_, rfl, rfl⟩
        rcases Nat.lt_succ_iff_lt_or_eq.1 hj with h | rfl
        · exact hall j h
        · exact c3
    · obtain rfl : k = l1.length := by omega
      refine Cd.exit (thenX (roundX (inBX ?_)))
      refine thenN ?_
      refine Cd.rs [4] fun K hK => ?_
      simp (maxSteps := 2000000) (disch := first | (simp only [E4] <;> omega) | omega | fail) only [↓E2, E3, bare, bareJ, ↓E0, E1, env0, envN, evOps, evOp, evQs, evQ, evV, setD, pureOp, ev, upd, updL, hav, delB, ↓reduceIte, Zj, Zk, Nat.reduceAdd, Nat.reduceLT, Nat.reduceEqDiff, Nat.reduceMul, Nat.reduceLeDiff, if_true, Zn, reduceCtorEq, ZA, eq_self, Int.reduceLE, Int.reduceLT, Int.reduceToNat, ne_eq, Nat.reduceSub]
      repeat refine And.intro (by omega) ?_
      repeat refine And.intro (by omega) ?_
      intro g
      simp only [List.map_cons, List.map_nil, updL, upd, Nat.reduceEqDiff, if_true, if_false, ↓reduceIte]
      refine hK _ _ ?_; clear hK K
      refine Cd.ret ?_
      simp (maxSteps := 2000000) (disch := first | (simp only [E4] <;> omega) | omega | fail) only [↓E2, E3, bare, bareJ, ↓E0, E1, evP, evPlan, env0, envN, evOps, evOp, evQs, evQ, evV, setD, pureOp, ev, upd, updL, gate, binW, eqOp, binV, intOp, shOp, boolOp, unV, convV, nilV, fieldAddrV, indexAddrV, extractV, cellAt, cellsAt, findB, setB, fillL, buildV, Value.cells, lenV, minV, maxV, hav, sliceV, loV, hiV, bslQ, mksQ, appQ, partsOk, partsCells, delB, eqL, SameI, strOp, apzQ, cvtQ, capV, ↓reduceIte, Zj, Zk, Nat.reduceAdd, Nat.reduceLT, Nat.reduceEqDiff, Nat.reduceMul, Nat.reduceLeDiff, if_true, Zn, reduceCtorEq, ZA, eq_self, Int.reduceLE, Int.reduceLT, Int.reduceToNat, ne_eq, Nat.reduceSub]
      repeat refine And.intro (by omega) ?_
      rw [decide_eq_true (getD_ext0 hlen hall)]
theorem holds_drop {W : List Nat} {w0 : World} {M : Blks} {b m cap d : Nat} {l : List Int} {cs : List Value} (hn : (M.map (·.1)).Nodup) (hm : (b, cs) ∈ M) (hr : Row 1 (ints .i64 l) m cap cs) : HoldsAll W w0 M [(b, d, ints .i64 (l.drop d))] := by
  intro r hr1
  rw [List.mem_singleton.1 hr1]
  intro j u hu
  simp only at hu ⊢
  unfold cellAt
  rw [findB_of hn hm]
  have hj : j < (ints .i64 (l.drop d)).length := by
    rcases Nat.lt_or_ge j (ints .i64 (l.drop d)).length with h1 | h1
    · exact h1
    · rw [List.getElem?_eq_none h1] at hu; cases hu
  rw [ints_length, List.length_drop] at hj
  rw [ints_get (by rw [List.length_drop]; exact hj)] at hu
  have := hr.get (ints_get (k := .i64) (l := l) (i := d + j) (by omega))
  rw [show (l.drop d).getD j 0 = l.getD (d + j) 0 by rw [List.getD_eq_getElem?_getD, List.getElem?_drop, List.getD_eq_getElem?_getD]] at hu
  rw [← hu]
  exact this
theorem cw_loop_in {k j : Nat} {Lc : List Int} (h : ∀ i, i < j → coOk (cwV k Lc i) = true) (h2 : coOk (cwV k Lc j) = true) : ∀ i, i < j + 1 → coOk (cwV k Lc i) = true := fun i hi => by
  rcases Nat.lt_succ_iff_lt_or_eq.1 hi with h3 | rfl
  · exact h i h3
  · exact h2
section
variable (low : Int) (l : List Int) (v : Value) (L : Blks) (hv : LauV low l v L) (hL : (L.map (·.1)).Nodup) (hb : l.length ≤ 100000000) (hw : -9223372036854775808 ≤ low ∧ low < 9223372036854775808)
include hv hL hb hw
theorem iConway_c : GivesK Try.prog 16 #[v] L (conRes (conAns low l)) := by
  unfold GivesK
  have hrd := hv.reads (R := toldOf L) fun p hp => mem_toldOf hp
  obtain ⟨a, cap, rfl, hsl⟩ := id hrd.form
  refine GivesX.of (callable_of Try.func16 rfl (by decide)) ?_ fun w hnd hlt hR => ?_
  · simp
  refine acall_of (N := 106) (c := _) (rs := [.tmp 2, .tmp 3]) (args := [_]) Try.func16 rfl (by decide) rfl rfl (Nat.le_of_ble_eq_true rfl) ?_
  refine Cd.rs [1] fun K hK => ?_
  simp (maxSteps := 2000000) (disch := first | (simp only [E4] <;> omega) | omega | fail) only [↓E2, E3, bare, bareJ, ↓E0, E1, env0, envN, evOps, evOp, evQs, evQ, evV, setD, pureOp, ev, upd, updL, Value.cells, hav, delB, ↓reduceIte, Zj, Zk, Nat.reduceAdd, Nat.reduceLT, Nat.reduceEqDiff, Nat.reduceMul, Nat.reduceLeDiff, if_true, Zn, reduceCtorEq, ZA, eq_self, Int.reduceLE, Int.reduceLT, Int.reduceToNat, ne_eq, Nat.reduceSub]
  repeat refine And.intro (by omega) ?_
  intro b1 hb1
  try simp (maxSteps := 2000000) (disch := first | (simp only [E4] <;> omega) | omega | fail) only [↓E2, E3, bare, bareJ, ↓E0, E1, env0, envN, evOps, evOp, evQs, evQ, evV, setD, pureOp, ev, upd, updL, Value.cells, hav, delB, ↓reduceIte, Zj, Zk, Nat.reduceAdd, Nat.reduceLT, Nat.reduceEqDiff, Nat.reduceMul, Nat.reduceLeDiff, if_true, Zn, reduceCtorEq, ZA, eq_self, Int.reduceLE, Int.reduceLT, Int.reduceToNat, ne_eq, Nat.reduceSub]
  repeat refine And.intro (by omega) ?_
  repeat refine And.intro (by omega) ?_
  intro g
  simp only [List.map_cons, List.map_nil, updL, upd, Nat.reduceEqDiff, if_true, if_false, ↓reduceIte]
  refine hK _ _ ?_; clear hK K
  refine Cd.nodup fun hnd => ?_
  refine Cd.seq ?_
  refine Cd.block ?_
  refine Cd.rs [1, 12] fun K hK => ?_
  simp (maxSteps := 2000000) (disch := first | (simp only [E4] <;> omega) | omega | fail) only [↓E2, E3, bare, bareJ, ↓E0, E1, env0, envN, evOps, evOp, evQs, evQ, evV, setD, pureOp, ev, upd, updL, unV, cellAt, cellsAt, findB, setB, hav, delB, ↓reduceIte, Zj, Zk, Nat.reduceAdd, Nat.reduceLT, Nat.reduceEqDiff, Nat.reduceMul, Nat.reduceLeDiff, if_true, Zn, reduceCtorEq, ZA, eq_self, Int.reduceLE, Int.reduceLT, Int.reduceToNat, ne_eq, Nat.reduceSub, Tld35]
  repeat refine And.intro (by omega) ?_
  refine callK_reads0 (IsLaurent_c _ _ (toldOf L) _ hrd hb hw) (holds_mem hnd fun p hp => by simp [hp]) ?_
  simp (maxSteps := 2000000) (disch := first | (simp only [E4] <;> omega) | omega | fail) only [↓E2, E3, bare, bareJ, ↓E0, E1, env0, envN, evOps, evOp, evQs, evQ, evV, setD, pureOp, ev, upd, updL, unV, cellAt, cellsAt, findB, setB, hav, delB, ↓reduceIte, Zj, Zk, Nat.reduceAdd, Nat.reduceLT, Nat.reduceEqDiff, Nat.reduceMul, Nat.reduceLeDiff, if_true, Zn, reduceCtorEq, ZA, eq_self, Int.reduceLE, Int.reduceLT, Int.reduceToNat, ne_eq, Nat.reduceSub, Tld35]
  repeat refine And.intro (by omega) ?_
  repeat refine And.intro (by omega) ?_
  intro g
  simp only [List.map_cons, List.map_nil, updL, upd, Nat.reduceEqDiff, if_true, if_false, ↓reduceIte]
  refine hK _ _ ?_; clear hK K
  refine Cd.cond rfl (fun h1 => ?_) (fun h1 => ?_)
  · refine Cd.rs [2, 3] fun K hK => ?_
    simp (maxSteps := 2000000) (disch := first | (simp only [E4] <;> omega) | omega | fail) only [↓E2, E3, bare, bareJ, ↓E0, E1, env0, envN, evOps, evOp, evQs, evQ, evV, setD, pureOp, ev, upd, updL, hav, delB, ↓reduceIte, Zj, Zk, Nat.reduceAdd, Nat.reduceLT, Nat.reduceEqDiff, Nat.reduceMul, Nat.reduceLeDiff, if_true, Zn, reduceCtorEq, ZA, eq_self, Int.reduceLE, Int.reduceLT, Int.reduceToNat, ne_eq, Nat.reduceSub]
    repeat refine And.intro (by omega) ?_
    repeat refine And.intro (by omega) ?_
    intro g
    simp only [List.map_cons, List.map_nil, updL, upd, Nat.reduceEqDiff, if_true, if_false, ↓reduceIte]
    refine hK _ _ ?_; clear hK K
    refine Cd.ret (inBR (thenR ?_))
    simp (maxSteps := 2000000) (disch := first | (simp only [E4] <;> omega) | omega | fail) only [↓E2, E3, bare, bareJ, ↓E0, E1, evP, evPlan, env0, envN, evOps, evOp, evQs, evQ, evV, setD, pureOp, ev, upd, updL, gate, binW, eqOp, binV, intOp, shOp, boolOp, unV, convV, nilV, fieldAddrV, indexAddrV, extractV, cellAt, cellsAt, findB, setB, fillL, buildV, Value.cells, lenV, minV, maxV, hav, sliceV, loV, hiV, bslQ, mksQ, appQ, partsOk, partsCells, delB, eqL, SameI, strOp, apzQ, cvtQ, capV, ↓reduceIte, Zj, Zk, Nat.reduceAdd, Nat.reduceLT, Nat.reduceEqDiff, Nat.reduceMul, Nat.reduceLeDiff, if_true, Zn, reduceCtorEq, ZA, eq_self, Int.reduceLE, Int.reduceLT, Int.reduceToNat, ne_eq, Nat.reduceSub]
    repeat refine And.intro (by omega) ?_
    refine keepQ.none hL (fun p hp => by simp [hp]) (conRes_no ?_ rfl)
    unfold conAns
    rw [if_neg (by simpa using h1)]
  · have hok : lauOk low l = true := by simpa using h1
    have hmi := lauOk_mir hok
    have hlo := lauOk_low hok
    have hln := lauOk_len hok
    refine Cd.rs [1, 16] fun K hK => ?_
    simp (maxSteps := 2000000) (disch := first | (simp only [E4] <;> omega) | omega | fail) only [↓E2, E3, bare, bareJ, ↓E0, E1, env0, envN, evOps, evOp, evQs, evQ, evV, setD, pureOp, ev, upd, updL, cellAt, cellsAt, findB, setB, hav, delB, ↓reduceIte, Zj, Zk, Nat.reduceAdd, Nat.reduceLT, Nat.reduceEqDiff, Nat.reduceMul, Nat.reduceLeDiff, if_true, Zn, reduceCtorEq, ZA, eq_self, Int.reduceLE, Int.reduceLT, Int.reduceToNat, ne_eq, Nat.reduceSub, Tld35]
    repeat refine And.intro (by omega) ?_
    refine callK_gives (isZero_c low l a cap) ?_
    simp (maxSteps := 2000000) (disch := first | (simp only [E4] <;> omega) | omega | fail) only [↓E2, E3, bare, bareJ, ↓E0, E1, env0, envN, evOps, evOp, evQs, evQ, evV, setD, pureOp, ev, upd, updL, cellAt, cellsAt, findB, setB, hav, delB, ↓reduceIte, Zj, Zk, Nat.reduceAdd, Nat.reduceLT, Nat.reduceEqDiff, Nat.reduceMul, Nat.reduceLeDiff, if_true, Zn, reduceCtorEq, ZA, eq_self, Int.reduceLE, Int.reduceLT, Int.reduceToNat, ne_eq, Nat.reduceSub, Tld35]
    repeat refine And.intro (by omega) ?_
    repeat refine And.intro (by omega) ?_
    intro g
    simp only [List.map_cons, List.map_nil, updL, upd, Nat.reduceEqDiff, if_true, if_false, ↓reduceIte]
    refine hK _ _ ?_; clear hK K
    refine Cd.cond rfl (fun h2 => ?_) (fun h2 => ?_)
    · simp only [decide_eq_true_eq, decide_eq_false_iff_not, beq_iff_eq, beq_eq_false_iff_ne, bne_iff_ne, bne_eq_false_iff_eq, Bool.and_eq_true, Bool.or_eq_true, Bool.or_eq_false_iff, Bool.not_eq_true', Bool.not_eq_false', Bool.and_eq_false_imp, ne_eq, gt_iff_lt, ge_iff_le, Int.not_lt, Int.not_le, Classical.not_not] at h2
      refine Cd.rs [2, 3] fun K hK => ?_
      simp (maxSteps := 2000000) (disch := first | (simp only [E4] <;> omega) | omega | fail) only [↓E2, E3, bare, bareJ, ↓E0, E1, evP, env0, envN, evOps, evOp, evQs, evQ, evV, setD, pureOp, ev, upd, updL, Value.cells, hav, bslQ, partsOk, partsCells, delB, ↓reduceIte, Zj, Zk, Nat.reduceAdd, Nat.reduceLT, Nat.reduceEqDiff, Nat.reduceMul, Nat.reduceLeDiff, if_true, Zn, reduceCtorEq, ZA, eq_self, Int.reduceLE, Int.reduceLT, Int.reduceToNat, ne_eq, Nat.reduceSub, Tby2, Tslc31, Tslce31, Tzero2]
      repeat refine And.intro (by omega) ?_
      intro b2 hb2
      have nb2_b1 := hb2.ne
      try simp (maxSteps := 2000000) (disch := first | (simp only [E4] <;> omega) | omega | fail) only [↓E2, E3, bare, bareJ, ↓E0, E1, evP, env0, envN, evOps, evOp, evQs, evQ, evV, setD, pureOp, ev, upd, updL, Value.cells, hav, bslQ, partsOk, partsCells, delB, ↓reduceIte, Zj, Zk, Nat.reduceAdd, Nat.reduceLT, Nat.reduceEqDiff, Nat.reduceMul, Nat.reduceLeDiff, if_true, Zn, reduceCtorEq, ZA, eq_self, Int.reduceLE, Int.reduceLT, Int.reduceToNat, ne_eq, Nat.reduceSub, Tby2, Tslc31, Tslce31, Tzero2, nb2_b1]
      repeat refine And.intro (by omega) ?_
      repeat refine And.intro (by omega) ?_
      intro g
      simp only [List.map_cons, List.map_nil, updL, upd, Nat.reduceEqDiff, if_true, if_false, ↓reduceIte]
      refine hK _ _ ?_; clear hK K
      refine Cd.ret (inBR (thenR ?_))
      simp (maxSteps := 2000000) (disch := first | (simp only [E4] <;> omega) | omega | fail) only [↓E2, E3, bare, bareJ, ↓E0, E1, evP, evPlan, env0, envN, evOps, evOp, evQs, evQ, evV, setD, pureOp, ev, upd, updL, gate, binW, eqOp, binV, intOp, shOp, boolOp, unV, convV, nilV, fieldAddrV, indexAddrV, extractV, cellAt, cellsAt, findB, setB, fillL, buildV, Value.cells, lenV, minV, maxV, hav, sliceV, loV, hiV, bslQ, mksQ, appQ, partsOk, partsCells, delB, eqL, SameI, strOp, apzQ, cvtQ, capV, ↓reduceIte, Zj, Zk, Nat.reduceAdd, Nat.reduceLT, Nat.reduceEqDiff, Nat.reduceMul, Nat.reduceLeDiff, if_true, Zn, reduceCtorEq, ZA, eq_self, Int.reduceLE, Int.reduceLT, Int.reduceToNat, ne_eq, Nat.reduceSub, nb2_b1]
      repeat refine And.intro (by omega) ?_
      have e : conAns low l = ([], 0) := by unfold conAns; rw [if_pos hok, if_pos (by omega)]
      rw [e]
      refine ⟨[(b2, [])], fun p hp => by simp [hp], fun p hp => by rw [List.mem_singleton.1 hp]; simp, nodup_add hL (fun p hp => hp) fun p hp => hb2.2 p (List.mem_cons_of_mem _ hp), _, rfl, SlN.row (Row.nil 1)⟩
    · simp only [decide_eq_true_eq, decide_eq_false_iff_not, beq_iff_eq, beq_eq_false_iff_ne, bne_iff_ne, bne_eq_false_iff_eq, Bool.and_eq_true, Bool.or_eq_true, Bool.or_eq_false_iff, Bool.not_eq_true', Bool.not_eq_false', Bool.and_eq_false_imp, ne_eq, gt_iff_lt, ge_iff_le, Int.not_lt, Int.not_le, Classical.not_not] at h2
      have h0 : l.length ≠ 0 := by omega
      have hml : mirLow low l = 1 - low - l.length := by unfold mirLow; rw [if_neg h0]
      refine Cd.ps [1, 20] (Plan.take 0 (Plan.take 3 (Plan.more 1 (Plan.take 2 (Plan.take 4 (Plan.take 5 (Plan.take 6 (Plan.take 7 (Plan.more 8 (Plan.more 9 (Plan.more 10 (Plan.one 11 (Plan.one 12 (Plan.one 13 (Plan.take 14 (Plan.take 15 (Plan.done)))))) (Plan.one 11 (Plan.more 10 (Plan.one 12 (Plan.one 13 (Plan.take 14 (Plan.take 15 (Plan.done))))) (Plan.one 12 (Plan.one 10 (Plan.one 13 (Plan.take 14 (Plan.take 15 (Plan.done))))))))) (Plan.one 11 (Plan.more 9 (Plan.more 10 (Plan.one 12 (Plan.one 13 (Plan.take 14 (Plan.take 15 (Plan.done))))) (Plan.one 12 (Plan.one 10 (Plan.one 13 (Plan.take 14 (Plan.take 15 (Plan.done))))))) (Plan.one 12 (Plan.one 9 (Plan.one 10 (Plan.one 13 (Plan.take 14 (Plan.take 15 (Plan.done)))))))))) (Plan.one 11 (Plan.more 8 (Plan.more 9 (Plan.more 10 (Plan.one 12 (Plan.one 13 (Plan.take 14 (Plan.take 15 (Plan.done))))) (Plan.one 12 (Plan.one 10 (Plan.one 13 (Plan.take 14 (Plan.take 15 (Plan.done))))))) (Plan.one 12 (Plan.one 9 (Plan.one 10 (Plan.one 13 (Plan.take 14 (Plan.take 15 (Plan.done)))))))) (Plan.one 12 (Plan.one 8 (Plan.one 9 (Plan.one 10 (Plan.one 13 (Plan.take 14 (Plan.take 15 (Plan.done)))))))))))))))) (Plan.one 4 (Plan.one 1 (Plan.take 2 (Plan.take 5 (Plan.take 6 (Plan.take 7 (Plan.more 8 (Plan.more 9 (Plan.more 10 (Plan.one 11 (Plan.one 12 (Plan.one 13 (Plan.take 14 (Plan.take 15 (Plan.done)))))) (Plan.one 11 (Plan.more 10 (Plan.one 12 (Plan.one 13 (Plan.take 14 (Plan.take 15 (Plan.done))))) (Plan.one 12 (Plan.one 10 (Plan.one 13 (Plan.take 14 (Plan.take 15 (Plan.done))))))))) (Plan.one 11 (Plan.more 9 (Plan.more 10 (Plan.one 12 (Plan.one 13 (Plan.take 14 (Plan.take 15 (Plan.done))))) (Plan.one 12 (Plan.one 10 (Plan.one 13 (Plan.take 14 (Plan.take 15 (Plan.done))))))) (Plan.one 12 (Plan.one 9 (Plan.one 10 (Plan.one 13 (Plan.take 14 (Plan.take 15 (Plan.done)))))))))) (Plan.one 11 (Plan.more 8 (Plan.more 9 (Plan.more 10 (Plan.one 12 (Plan.one 13 (Plan.take 14 (Plan.take 15 (Plan.done))))) (Plan.one 12 (Plan.one 10 (Plan.one 13 (Plan.take 14 (Plan.take 15 (Plan.done))))))) (Plan.one 12 (Plan.one 9 (Plan.one 10 (Plan.one 13 (Plan.take 14 (Plan.take 15 (Plan.done)))))))) (Plan.one 12 (Plan.one 8 (Plan.one 9 (Plan.one 10 (Plan.one 13 (Plan.take 14 (Plan.take 15 (Plan.done)))))))))))))))))))) fol (by kernel_rfl) (Nat.le_of_ble_eq_true rfl) fun K hK => ?_
      have J : ∀ g M, SubP ((b1, [.int .i64 low, .slice a l.length cap]) :: L) M → K (updL [(1, .pointer (some ⟨b1, 0, none⟩)), (20, .bool (decide (¬ isSym low l)))] g) M := by
        intro g M hM
        refine hK _ _ ?_
        clear hK K
        refine Cd.sub hM ?_
        clear hM M
        refine Cd.cond rfl (fun h3 => ?_) (fun h3 => ?_)
        · rw [decide_eq_true_eq] at h3
          refine Cd.rs [2, 3] fun K hK => ?_
          simp (maxSteps := 2000000) (disch := first | (simp only [E4] <;> omega) | omega | fail) only [↓E2, E3, bare, bareJ, ↓E0, E1, env0, envN, evOps, evOp, evQs, evQ, evV, setD, pureOp, ev, upd, updL, hav, delB, ↓reduceIte, Zj, Zk, Nat.reduceAdd, Nat.reduceLT, Nat.reduceEqDiff, Nat.reduceMul, Nat.reduceLeDiff, if_true, Zn, reduceCtorEq, ZA, eq_self, Int.reduceLE, Int.reduceLT, Int.reduceToNat, ne_eq, Nat.reduceSub]
          repeat refine And.intro (by omega) ?_
          repeat refine And.intro (by omega) ?_
          intro g
          simp only [List.map_cons, List.map_nil, updL, upd, Nat.reduceEqDiff, if_true, if_false, ↓reduceIte]
          refine hK _ _ ?_; clear hK K
          refine Cd.ret (inBR (thenR ?_))
          simp (maxSteps := 2000000) (disch := first | (simp only [E4] <;> omega) | omega | fail) only [↓E2, E3, bare, bareJ, ↓E0, E1, evP, evPlan, env0, envN, evOps, evOp, evQs, evQ, evV, setD, pureOp, ev, upd, updL, gate, binW, eqOp, binV, intOp, shOp, boolOp, unV, convV, nilV, fieldAddrV, indexAddrV, extractV, cellAt, cellsAt, findB, setB, fillL, buildV, Value.cells, lenV, minV, maxV, hav, sliceV, loV, hiV, bslQ, mksQ, appQ, partsOk, partsCells, delB, eqL, SameI, strOp, apzQ, cvtQ, capV, ↓reduceIte, Zj, Zk, Nat.reduceAdd, Nat.reduceLT, Nat.reduceEqDiff, Nat.reduceMul, Nat.reduceLeDiff, if_true, Zn, reduceCtorEq, ZA, eq_self, Int.reduceLE, Int.reduceLT, Int.reduceToNat, ne_eq, Nat.reduceSub]
          repeat refine And.intro (by omega) ?_
          refine keepQ.none hL (fun p hp => by simp [hp]) (conRes_no ?_ rfl)
          unfold conAns
          rw [if_pos hok, if_neg h0, if_neg h3]
        · rw [decide_eq_false_iff_not, Classical.not_not] at h3
          obtain ⟨d, e1, e2, e3, e4, e5, e6⟩ := sym_core hok h3 h0
          have hl2 : l.length = 2 * d + 1 := by
            have := congrArg List.length e2
            rw [symL_len] at this
            exact this
          refine Cd.rs [1, 36] fun K hK => ?_
          simp (maxSteps := 2000000) (disch := first | (simp only [E4] <;> omega) | omega | fail) only [↓E2, E3, bare, bareJ, ↓E0, E1, env0, envN, evOps, evOp, evQs, evQ, evV, setD, pureOp, ev, upd, updL, binW, eqOp, binV, intOp, shOp, boolOp, cellAt, cellsAt, findB, setB, hav, delB, eqL, SameI, strOp, ↓reduceIte, Zj, Zk, Nat.reduceAdd, Nat.reduceLT, Nat.reduceEqDiff, Nat.reduceMul, Nat.reduceLeDiff, if_true, Zn, reduceCtorEq, ZA, eq_self, Int.reduceLE, Int.reduceLT, Int.reduceToNat, ne_eq, Nat.reduceSub, Tld35]
          repeat refine And.intro (by omega) ?_
          refine callK_gives (high_c low l a cap (by omega) (by omega)) ?_
          have ehi : low + (l.length : Int) - 1 = (d : Int) := by omega
          rw [ehi]
          simp (maxSteps := 2000000) (disch := first | (simp only [E4] <;> omega) | omega | fail) only [↓E2, E3, bare, bareJ, ↓E0, E1, env0, envN, evOps, evOp, evQs, evQ, evV, setD, pureOp, ev, upd, updL, binW, eqOp, binV, intOp, shOp, boolOp, cellAt, cellsAt, findB, setB, hav, delB, eqL, SameI, strOp, ↓reduceIte, Zj, Zk, Nat.reduceAdd, Nat.reduceLT, Nat.reduceEqDiff, Nat.reduceMul, Nat.reduceLeDiff, if_true, Zn, reduceCtorEq, ZA, eq_self, Int.reduceLE, Int.reduceLT, Int.reduceToNat, ne_eq, Nat.reduceSub, Tld35]
          repeat refine And.intro (by omega) ?_
          repeat refine And.intro (by omega) ?_
          intro g
          simp only [List.map_cons, List.map_nil, updL, upd, Nat.reduceEqDiff, if_true, if_false, ↓reduceIte]
          refine hK _ _ ?_; clear hK K
          refine Cd.condd rfl (fun h4 => ?_) (fun h4 => ?_)
          · refine Cd.rs [2, 3] fun K hK => ?_
            simp (maxSteps := 2000000) (disch := first | (simp only [E4] <;> omega) | omega | fail) only [↓E2, E3, bare, bareJ, ↓E0, E1, env0, envN, evOps, evOp, evQs, evQ, evV, setD, pureOp, ev, upd, updL, hav, delB, ↓reduceIte, Zj, Zk, Nat.reduceAdd, Nat.reduceLT, Nat.reduceEqDiff, Nat.reduceMul, Nat.reduceLeDiff, if_true, Zn, reduceCtorEq, ZA, eq_self, Int.reduceLE, Int.reduceLT, Int.reduceToNat, ne_eq, Nat.reduceSub]
            repeat refine And.intro (by omega) ?_
            repeat refine And.intro (by omega) ?_
            intro g
            simp only [List.map_cons, List.map_nil, updL, upd, Nat.reduceEqDiff, if_true, if_false, ↓reduceIte]
            refine hK _ _ ?_; clear hK K
            refine Cd.ret (inBR (thenR ?_))
            simp (maxSteps := 2000000) (disch := first | (simp only [E4] <;> omega) | omega | fail) only [↓E2, E3, bare, bareJ, ↓E0, E1, evP, evPlan, env0, envN, evOps, evOp, evQs, evQ, evV, setD, pureOp, ev, upd, updL, gate, binW, eqOp, binV, intOp, shOp, boolOp, unV, convV, nilV, fieldAddrV, indexAddrV, extractV, cellAt, cellsAt, findB, setB, fillL, buildV, Value.cells, lenV, minV, maxV, hav, sliceV, loV, hiV, bslQ, mksQ, appQ, partsOk, partsCells, delB, eqL, SameI, strOp, apzQ, cvtQ, capV, ↓reduceIte, Zj, Zk, Nat.reduceAdd, Nat.reduceLT, Nat.reduceEqDiff, Nat.reduceMul, Nat.reduceLeDiff, if_true, Zn, reduceCtorEq, ZA, eq_self, Int.reduceLE, Int.reduceLT, Int.reduceToNat, ne_eq, Nat.reduceSub]
            repeat refine And.intro (by omega) ?_
            refine keepQ.none hL (fun p hp => by simp [hp]) (conRes_no ?_ rfl)
            unfold conAns
            rw [if_pos hok, if_neg h0, if_pos h3, if_pos (by omega)]
          · have hans : conAns low l = conOut (cwK (d + 1) (l.drop d) (List.replicate (d + 1) 0)) := by
              unfold conAns
              rw [if_pos hok, if_neg h0, if_pos h3, if_neg (by omega), e6]
            refine Cd.skip ?_
            refine inBN ?_
            refine thenN ?_
            refine Cd.rs [1, 4] fun K hK => ?_
            simp (maxSteps := 2000000) (disch := first | (simp only [E4] <;> omega) | omega | fail) only [↓E2, E3, bare, bareJ, ↓E0, E1, env0, envN, evOps, evOp, evQs, evQ, evV, setD, pureOp, ev, upd, updL, cellAt, cellsAt, findB, setB, hav, delB, ↓reduceIte, Zj, Zk, Nat.reduceAdd, Nat.reduceLT, Nat.reduceEqDiff, Nat.reduceMul, Nat.reduceLeDiff, if_true, Zn, reduceCtorEq, ZA, eq_self, Int.reduceLE, Int.reduceLT, Int.reduceToNat, ne_eq, Nat.reduceSub, Tld35]
            repeat refine And.intro (by omega) ?_
            refine callK_gives (high_c low l a cap (by omega) (by omega)) ?_
            rw [ehi]
            simp (maxSteps := 2000000) (disch := first | (simp only [E4] <;> omega) | omega | fail) only [↓E2, E3, bare, bareJ, ↓E0, E1, env0, envN, evOps, evOp, evQs, evQ, evV, setD, pureOp, ev, upd, updL, cellAt, cellsAt, findB, setB, hav, delB, ↓reduceIte, Zj, Zk, Nat.reduceAdd, Nat.reduceLT, Nat.reduceEqDiff, Nat.reduceMul, Nat.reduceLeDiff, if_true, Zn, reduceCtorEq, ZA, eq_self, Int.reduceLE, Int.reduceLT, Int.reduceToNat, ne_eq, Nat.reduceSub, Tld35]
            repeat refine And.intro (by omega) ?_
            repeat refine And.intro (by omega) ?_
            intro g
            simp only [List.map_cons, List.map_nil, updL, upd, Nat.reduceEqDiff, if_true, if_false, ↓reduceIte]
            refine hK _ _ ?_; clear hK K
            have hld : (l.drop d).length = d + 1 := e3
            obtain ⟨sv, ev, hsv⟩ := hv
            cases ev
            rcases hsv with ⟨e, _, _⟩ | ⟨bq, mq, cq, csq, e, hLq, hrq⟩
            · have := congrArg List.length e
              rw [ints_length] at this
              simp only [List.length_nil] at this
              omega
            cases e
            have hmem : (bq, csq) ∈ L := by rw [hLq]; exact List.mem_singleton.2 rfl
            have edl : l.length - d = d + 1 := by omega
            refine Cd.ps [4, 5, 6] (Plan.take 0 (Plan.take 2 (Plan.take 5 (Plan.take 6 (Plan.more 1 (Plan.take 3 (Plan.more 4 (Plan.take 8 (Plan.one 7 (Plan.take 9 (Plan.done)))) (Plan.one 7 (Plan.one 4 (Plan.take 8 (Plan.take 9 (Plan.done))))))) (Plan.one 7 (Plan.take 1 (Plan.take 3 (Plan.one 4 (Plan.take 8 (Plan.take 9 (Plan.done)))))))))))) fol (by kernel_rfl) (Nat.le_of_ble_eq_true rfl) fun K hK => ?_
            have J2 : ∀ g bl capl csl bo M, Row 1 (ints .i64 (l.drop d)) (d + 1) capl csl → SubP ((bl, csl) :: (bo, ints .i64 (List.replicate (d + 1) 0)) :: (b1, [.int .i64 low, .slice (some ⟨bq, 0, none⟩) l.length cap]) :: L) M → K (updL [(4, .int .i64 (d : Int)), (5, .slice (some ⟨bl, 0, none⟩) (d + 1) capl), (6, .slice (some ⟨bo, 0, none⟩) (d + 1) (d + 1))] g) M := by
              intro g bl capl csl bo M hrow hM
              refine hK _ _ ?_
              clear hK K
              refine Cd.sub hM ?_
              clear hM M
              have hd20 : d < 21 := by omega
              skip
              refine Cd.seq ?_
              refine Cd.rs [5, 6, 7] fun K hK => ?_
              simp (maxSteps := 2000000) (disch := first | (simp only [E4] <;> omega) | omega | fail) only [↓E2, E3, bare, bareJ, ↓E0, E1, env0, envN, evOps, evOp, evQs, evQ, evV, setD, pureOp, ev, upd, updL, hav, delB, ↓reduceIte, Zj, Zk, Nat.reduceAdd, Nat.reduceLT, Nat.reduceEqDiff, Nat.reduceMul, Nat.reduceLeDiff, if_true, Zn, reduceCtorEq, ZA, eq_self, Int.reduceLE, Int.reduceLT, Int.reduceToNat, ne_eq, Nat.reduceSub]
              repeat refine And.intro (by omega) ?_
              repeat refine And.intro (by omega) ?_
              intro g
              simp only [List.map_cons, List.map_nil, updL, upd, Nat.reduceEqDiff, if_true, if_false, ↓reduceIte]
              refine hK _ _ ?_; clear hK K
              refine Cd.block ?_
              refine Cd.loop (fun n ρ M => ∃ g Lc O csl, n ≤ d + 1 ∧ Lc.length = d + 1 ∧ O.length = d + 1 ∧ (∀ j, coOk (Lc.getD j 0) = true) ∧ cwK (d + 1) (l.drop d) (List.replicate (d + 1) 0) = cwK n Lc O ∧ Row 1 (ints .i64 Lc) (d + 1) capl csl ∧ ρ = updL [(5, .slice (some ⟨bl, 0, none⟩) (d + 1) capl), (6, .slice (some ⟨bo, 0, none⟩) (d + 1) (d + 1)), (7, .int .i64 ((n : Int) - 1))] g ∧
                M = (bl, csl) :: (bo, ints .i64 O) :: (b1, [.int .i64 low, .slice (some ⟨bq, 0, none⟩) l.length cap]) :: L) (d + 1) ⟨_, l.drop d, List.replicate (d + 1) 0, csl, Nat.le_refl _, hld, List.length_replicate, e5, rfl, hrow, by rw [show ((d + 1 : Nat) : Int) - 1 = (d : Int) by omega]; rfl, rfl⟩ ?_
              clear hrow csl
              rintro n ρ M ⟨g, Lc, O, csl, hn, hLc, hO, hcc, hcw, hrow, rfl, rfl⟩
              have s1 := hrow.size1
              have s2 := hrow.le
              refine Cd.nodup fun hnd5 => ?_
              have d1 : (bl = bo) = False := eq_false ((nodup_cases hnd5).1 (bo, ints .i64 O) (by simp))
              skip
              refine Cd.seq ?_
              refine Cd.rs [5, 6, 7, 52] fun K hK => ?_
              simp (maxSteps := 2000000) (disch := first | (simp only [E4, d1, hO, hLc] <;> omega) | omega | fail) only [↓E2, E3, bare, bareJ, ↓E0, E1, env0, envN, evOps, evOp, evQs, evQ, evV, setD, pureOp, ev, upd, updL, binW, eqOp, binV, intOp, shOp, boolOp, hav, delB, eqL, SameI, strOp, ↓reduceIte, Zj, Zk, Nat.reduceAdd, Nat.reduceLT, Nat.reduceEqDiff, Nat.reduceMul, Nat.reduceLeDiff, if_true, Zn, reduceCtorEq, ZA, eq_self, Int.reduceLE, Int.reduceLT, Int.reduceToNat, ne_eq, Nat.reduceSub, d1, hO, hLc]
              repeat refine And.intro (by omega) ?_
              repeat refine And.intro (by omega) ?_
              intro g
              simp only [List.map_cons, List.map_nil, updL, upd, Nat.reduceEqDiff, if_true, if_false, ↓reduceIte]
              refine hK _ _ ?_; clear hK K
              refine Cd.condd rfl (fun h5 => ?_) (fun h5 => ?_)
              · obtain ⟨t, rfl⟩ : ∃ t, n = t + 1 := ⟨n - 1, by omega⟩
                rw [show ((t + 1 : Nat) : Int) - 1 = (t : Int) by omega]
                have gt := hrow.get (ints_get (k := .i64) (l := Lc) (i := t) (by omega))
                have hct := hcc t
                have hcb : -1000000000000 ≤ Lc.getD t 0 ∧ Lc.getD t 0 ≤ 1000000000000 := by
                  unfold coOk at hct
                  simpa using hct
                generalize hcd : Lc.getD t 0 = cc at *
                refine Cd.skip ?_
                refine thenN ?_
                refine Cd.seq ?_
                refine Cd.block ?_
                skip
                refine Cd.rs [5, 6, 7, 8] fun K hK => ?_
                simp (maxSteps := 2000000) (disch := first | (simp only [E4, d1, hO, hLc, gt] <;> omega) | omega | fail) only [↓E2, E3, bare, bareJ, ↓E0, E1, env0, envN, evOps, evOp, evQs, evQ, evV, setD, pureOp, ev, upd, updL, indexAddrV, cellAt, cellsAt, findB, hav, delB, ↓reduceIte, Zj, Zk, Nat.reduceAdd, Nat.reduceLT, Nat.reduceEqDiff, Nat.reduceMul, Nat.reduceLeDiff, if_true, Zn, reduceCtorEq, ZA, eq_self, Int.reduceLE, Int.reduceLT, Int.reduceToNat, ne_eq, Nat.reduceSub, Tld2, Tslc31, d1, hO, hLc, gt]
                repeat refine And.intro (by omega) ?_
                repeat refine And.intro (by omega) ?_
                intro g
                simp only [List.map_cons, List.map_nil, updL, upd, Nat.reduceEqDiff, if_true, if_false, ↓reduceIte]
                refine hK _ _ ?_; clear hK K
                refine Cd.rs [5, 6, 7, 8] fun K hK => ?_
                simp (maxSteps := 2000000) (disch := first | (simp only [E4, d1, hO, hLc, gt] <;> omega) | omega | fail) only [↓E2, E3, bare, bareJ, ↓E0, E1, env0, envN, evOps, evOp, evQs, evQ, evV, setD, pureOp, ev, upd, updL, indexAddrV, cellAt, cellsAt, findB, setB, Value.cells, hav, delB, ↓reduceIte, Zj, Zk, Nat.reduceAdd, Nat.reduceLT, Nat.reduceEqDiff, Nat.reduceMul, Nat.reduceLeDiff, if_true, Zn, reduceCtorEq, ZA, eq_self, Int.reduceLE, Int.reduceLT, Int.reduceToNat, ne_eq, Nat.reduceSub, Tslc31, Tst2, d1, hO, hLc, gt]
                repeat refine And.intro (by omega) ?_
                repeat refine And.intro (by omega) ?_
                intro g
                simp only [List.map_cons, List.map_nil, updL, upd, Nat.reduceEqDiff, if_true, if_false, ↓reduceIte]
                refine hK _ _ ?_; clear hK K
                refine Cd.rs [5, 6, 7, 8, 64, 65] fun K hK => ?_
                simp (maxSteps := 2000000) (disch := first | (simp only [E4, d1, hO, hLc, gt] <;> omega) | omega | fail) only [↓E2, E3, bare, bareJ, ↓E0, E1, env0, envN, evOps, evOp, evQs, evQ, evV, setD, pureOp, ev, upd, updL, binW, eqOp, binV, intOp, shOp, boolOp, hav, delB, eqL, SameI, strOp, ↓reduceIte, Zj, Zk, Nat.reduceAdd, Nat.reduceLT, Nat.reduceEqDiff, Nat.reduceMul, Nat.reduceLeDiff, if_true, Zn, reduceCtorEq, ZA, eq_self, Int.reduceLE, Int.reduceLT, Int.reduceToNat, ne_eq, Nat.reduceSub, d1, hO, hLc, gt]
                repeat refine And.intro (by omega) ?_
                repeat refine And.intro (by omega) ?_
                intro g
                simp only [List.map_cons, List.map_nil, updL, upd, Nat.reduceEqDiff, if_true, if_false, ↓reduceIte]
                refine hK _ _ ?_; clear hK K
                refine Cd.block ?_
                have hO2 : (O.set t cc).length = d + 1 := by rw [List.length_set, hO]
                generalize hOO : O.set t cc = O2 at *
                skip
                refine Cd.loop (fun q ρ M => ∃ g j csl, j + q = t + 1 ∧ (∀ i, i < j → coOk (cwV t Lc i) = true) ∧ Row 1 (ints .i64 (cwP t Lc j)) (d + 1) capl csl ∧ ρ = updL [(5, .slice (some ⟨bl, 0, none⟩) (d + 1) capl), (6, .slice (some ⟨bo, 0, none⟩) (d + 1) (d + 1)), (7, .int .i64 (t : Int)), (8, .int .i64 cc), (64, .int .i64 ((t : Int) + 1)), (65, .int .i64 (j : Int))] g ∧
                  M = (bl, csl) :: (bo, ints .i64 O2) :: (b1, [.int .i64 low, .slice (some ⟨bq, 0, none⟩) l.length cap]) :: L) (t + 1) ⟨_, 0, csl, Nat.zero_add _, fun i hi => absurd hi (Nat.not_lt_zero _), by rw [cwP_zero]; exact hrow, rfl, rfl⟩ ?_
                clear hrow s1 s2 hnd5
                rintro q ρ M ⟨g, j, csl, hj, hall, hrow, rfl, rfl⟩
                have s1 := hrow.size1
                have s2 := hrow.le
                refine Cd.rs [5, 6, 7, 8, 64, 65, 66] fun K hK => ?_
                simp (maxSteps := 2000000) (disch := first | (simp only [E4, d1, hO, hLc, gt, hO2] <;> omega) | omega | fail) only [↓E2, E3, bare, bareJ, ↓E0, E1, env0, envN, evOps, evOp, evQs, evQ, evV, setD, pureOp, ev, upd, updL, binW, eqOp, binV, intOp, shOp, boolOp, hav, delB, eqL, SameI, strOp, ↓reduceIte, Zj, Zk, Nat.reduceAdd, Nat.reduceLT, Nat.reduceEqDiff, Nat.reduceMul, Nat.reduceLeDiff, if_true, Zn, reduceCtorEq, ZA, eq_self, Int.reduceLE, Int.reduceLT, Int.reduceToNat, ne_eq, Nat.reduceSub, d1, hO, hLc, gt, hO2]
                repeat refine And.intro (by omega) ?_
                repeat refine And.intro (by omega) ?_
                intro g
                simp only [List.map_cons, List.map_nil, updL, upd, Nat.reduceEqDiff, if_true, if_false, ↓reduceIte]
                refine hK _ _ ?_; clear hK K
                refine Cd.seq ?_
                refine Cd.condd rfl (fun h6 => ?_) (fun h6 => ?_)
                · have hb := binR_bound t (by omega) (t + j) (by omega)
                  have hbin := binomial_c t (by omega) (t + j) (by omega)
                  have ekj : (t : Int) + (j : Int) = ((t + j : Nat) : Int) := by omega
                  have hV : cwV t Lc j = Lc.getD j 0 - cc * (sg (t - j) * binR (2 * (t : Int)) (t + j)) := by unfold cwV; rw [hcd]
                  have hLj := hcc j
                  have hLjb : -1000000000000 ≤ Lc.getD j 0 ∧ Lc.getD j 0 ≤ 1000000000000 := by
                    unfold coOk at hLj
                    simpa using hLj
                  have gj := hrow.get (ints_get (k := .i64) (l := cwP t Lc j) (i := j) (by rw [cwP_len]; omega))
                  rw [cwP_get (by omega), if_neg (Nat.lt_irrefl _)] at gj
                  have hset := hrow.set (j := j) (by omega) (.int .i64 (cwV t Lc j))
                  rw [ints_set, cwP_set (by omega)] at hset
                  have hsp := hcw
                  generalize binR (2 * (t : Int)) (t + j) = bb at *
                  have hdq : (2000000000000 : Int).tdiv bb = 2000000000000 / bb := Int.tdiv_eq_ediv_of_nonneg (by decide)
                  have hq0 : 0 ≤ (2000000000000 : Int) / bb ∧ (2000000000000 : Int) / bb ≤ 2000000000000 := ⟨Int.ediv_nonneg (by decide) (by omega), Int.ediv_le_self _ (by decide)⟩
                  have hno := big_no (c := cc) hLj hb.1 (sg_cases (t - j))
                  have hyes := small_yes (c := cc) hb.1
                  generalize hqq : (2000000000000 : Int) / bb = qq at *
                  refine Cd.skip ?_
                  refine thenN ?_
                  refine Cd.seq ?_
                  refine Cd.block ?_
                  skip
                  refine Cd.rs [5, 6, 7, 8, 9, 64, 65] fun K hK => ?_
                  simp (maxSteps := 2000000) (disch := first | (simp only [E4, d1, hO, hLc, gt, hO2, ekj] <;> omega) | omega | fail) only [↓E2, E3, bare, bareJ, ↓E0, E1, env0, envN, evOps, evOp, evQs, evQ, evV, setD, pureOp, ev, upd, updL, hav, delB, ↓reduceIte, Zj, Zk, Nat.reduceAdd, Nat.reduceLT, Nat.reduceEqDiff, Nat.reduceMul, Nat.reduceLeDiff, if_true, Zn, reduceCtorEq, ZA, eq_self, Int.reduceLE, Int.reduceLT, Int.reduceToNat, ne_eq, Nat.reduceSub, d1, hO, hLc, gt, hO2, ekj]
                  repeat refine And.intro (by omega) ?_
                  repeat refine And.intro (by omega) ?_
                  intro g
                  simp only [List.map_cons, List.map_nil, updL, upd, Nat.reduceEqDiff, if_true, if_false, ↓reduceIte]
                  refine hK _ _ ?_; clear hK K
                  refine Cd.rs [5, 6, 7, 8, 9, 10, 64, 65] fun K hK => ?_
                  simp (maxSteps := 2000000) (disch := first | (simp only [E4, d1, hO, hLc, gt, hO2, ekj] <;> omega) | omega | fail) only [↓E2, E3, bare, bareJ, ↓E0, E1, env0, envN, evOps, evOp, evQs, evQ, evV, setD, pureOp, ev, upd, updL, binW, eqOp, binV, intOp, shOp, boolOp, cellAt, cellsAt, findB, setB, hav, delB, eqL, SameI, strOp, ↓reduceIte, Zj, Zk, Nat.reduceAdd, Nat.reduceLT, Nat.reduceEqDiff, Nat.reduceMul, Nat.reduceLeDiff, if_true, Zn, reduceCtorEq, ZA, eq_self, Int.reduceLE, Int.reduceLT, Int.reduceToNat, ne_eq, Nat.reduceSub, d1, hO, hLc, gt, hO2, ekj]
                  repeat refine And.intro (by omega) ?_
                  refine callK_gives hbin ?_
                  simp (maxSteps := 2000000) (disch := first | (simp only [E4, d1, hO, hLc, gt, hO2, ekj] <;> omega) | omega | fail) only [↓E2, E3, bare, bareJ, ↓E0, E1, env0, envN, evOps, evOp, evQs, evQ, evV, setD, pureOp, ev, upd, updL, binW, eqOp, binV, intOp, shOp, boolOp, cellAt, cellsAt, findB, setB, hav, delB, eqL, SameI, strOp, ↓reduceIte, Zj, Zk, Nat.reduceAdd, Nat.reduceLT, Nat.reduceEqDiff, Nat.reduceMul, Nat.reduceLeDiff, if_true, Zn, reduceCtorEq, ZA, eq_self, Int.reduceLE, Int.reduceLT, Int.reduceToNat, ne_eq, Nat.reduceSub, d1, hO, hLc, gt, hO2, ekj]
                  repeat refine And.intro (by omega) ?_
                  repeat refine And.intro (by omega) ?_
                  intro g
                  simp only [List.map_cons, List.map_nil, updL, upd, Nat.reduceEqDiff, if_true, if_false, ↓reduceIte]
                  refine hK _ _ ?_; clear hK K
                  refine Cd.seq ?_
                  refine Cd.rs [5, 6, 7, 8, 9, 10, 11, 64, 65] fun K hK => ?_
                  simp (maxSteps := 2000000) (disch := first | (simp only [E4, d1, hO, hLc, gt, hO2, ekj] <;> omega) | omega | fail) only [↓E2, E3, bare, bareJ, ↓E0, E1, env0, envN, evOps, evOp, evQs, evQ, evV, setD, pureOp, ev, upd, updL, unV, maxV, hav, delB, ↓reduceIte, Zj, Zk, Nat.reduceAdd, Nat.reduceLT, Nat.reduceEqDiff, Nat.reduceMul, Nat.reduceLeDiff, if_true, Zn, reduceCtorEq, ZA, eq_self, Int.reduceLE, Int.reduceLT, Int.reduceToNat, ne_eq, Nat.reduceSub, d1, hO, hLc, gt, hO2, ekj]
                  repeat refine And.intro (by omega) ?_
                  repeat refine And.intro (by omega) ?_
                  intro g
                  simp only [List.map_cons, List.map_nil, updL, upd, Nat.reduceEqDiff, if_true, if_false, ↓reduceIte]
                  refine hK _ _ ?_; clear hK K
                  skip
                  refine Cd.rs [5, 6, 7, 8, 9, 10, 64, 65, 81] fun K hK => ?_
                  simp (maxSteps := 2000000) (disch := first | (simp only [E4, d1, hO, hLc, gt, hO2, ekj, hdq, hqq] <;> omega) | omega | fail) only [↓E2, E3, bare, bareJ, ↓E0, E1, env0, envN, evOps, evOp, evQs, evQ, evV, setD, pureOp, ev, upd, updL, binW, eqOp, binV, intOp, shOp, boolOp, hav, delB, eqL, SameI, strOp, ↓reduceIte, Zj, Zk, Nat.reduceAdd, Nat.reduceLT, Nat.reduceEqDiff, Nat.reduceMul, Nat.reduceLeDiff, if_true, Zn, reduceCtorEq, ZA, eq_self, Int.reduceLE, Int.reduceLT, Int.reduceToNat, ne_eq, Nat.reduceSub, d1, hO, hLc, gt, hO2, ekj, hdq, hqq]
                  repeat refine And.intro (by omega) ?_
                  repeat refine And.intro (by omega) ?_
                  intro g
                  simp only [List.map_cons, List.map_nil, updL, upd, Nat.reduceEqDiff, if_true, if_false, ↓reduceIte]
                  refine hK _ _ ?_; clear hK K
                  refine Cd.cond rfl (fun h7 => ?_) (fun h7 => ?_)
                  · rw [decide_eq_true_eq] at h7
                    have hbad := hno h7
                    rw [← hV] at hbad
                    have hnk : ¬ cwOk t Lc := fun hk => by rw [hk j (by omega)] at hbad; cases hbad
                    rw [cwK_no hnk] at hcw
                    refine Cd.rs [2, 3] fun K hK => ?_
                    simp (maxSteps := 2000000) (disch := first | (simp only [E4, d1, hO, hLc, gt, hO2, ekj, hdq, hqq] <;> omega) | omega | fail) only [↓E2, E3, bare, bareJ, ↓E0, E1, env0, envN, evOps, evOp, evQs, evQ, evV, setD, pureOp, ev, upd, updL, hav, delB, ↓reduceIte, Zj, Zk, Nat.reduceAdd, Nat.reduceLT, Nat.reduceEqDiff, Nat.reduceMul, Nat.reduceLeDiff, if_true, Zn, reduceCtorEq, ZA, eq_self, Int.reduceLE, Int.reduceLT, Int.reduceToNat, ne_eq, Nat.reduceSub, d1, hO, hLc, gt, hO2, ekj, hdq, hqq]
                    repeat refine And.intro (by omega) ?_
                    repeat refine And.intro (by omega) ?_
                    intro g
                    simp only [List.map_cons, List.map_nil, updL, upd, Nat.reduceEqDiff, if_true, if_false, ↓reduceIte]
                    refine hK _ _ ?_; clear hK K
                    refine Cd.ret (thenR (inBR (thenR (roundR (inBR (inBR (thenR (roundR (inBR (thenR ?_))))))))))
                    simp (maxSteps := 2000000) (disch := first | (simp only [E4, d1, hO, hLc, gt, hO2, ekj, hdq, hqq] <;> omega) | omega | fail) only [↓E2, E3, bare, bareJ, ↓E0, E1, evP, evPlan, env0, envN, evOps, evOp, evQs, evQ, evV, setD, pureOp, ev, upd, updL, gate, binW, eqOp, binV, intOp, shOp, boolOp, unV, convV, nilV, fieldAddrV, indexAddrV, extractV, cellAt, cellsAt, findB, setB, fillL, buildV, Value.cells, lenV, minV, maxV, hav, sliceV, loV, hiV, bslQ, mksQ, appQ, partsOk, partsCells, delB, eqL, SameI, strOp, apzQ, cvtQ, capV, ↓reduceIte, Zj, Zk, Nat.reduceAdd, Nat.reduceLT, Nat.reduceEqDiff, Nat.reduceMul, Nat.reduceLeDiff, if_true, Zn, reduceCtorEq, ZA, eq_self, Int.reduceLE, Int.reduceLT, Int.reduceToNat, ne_eq, Nat.reduceSub, d1, hO, hLc, gt, hO2, ekj, hdq, hqq]
                    repeat refine And.intro (by omega) ?_
                    rw [hans, hcw]
                    exact keepQ.none hL (fun p hp => by simp [hp]) (conRes_no rfl rfl)
                  · rw [decide_eq_false_iff_not] at h7
                    have hcbb := hyes h7
                    refine Cd.skip ?_
                    refine thenN ?_
                    refine Cd.midq (fun ρ M => ∃ g, ρ = updL [(5, .slice (some ⟨bl, 0, none⟩) (d + 1) capl), (6, .slice (some ⟨bo, 0, none⟩) (d + 1) (d + 1)), (7, .int .i64 (t : Int)), (8, .int .i64 cc), (9, .int .i64 (j : Int)), (10, .int .i64 (sg (t - j) * bb)), (64, .int .i64 ((t : Int) + 1)), (65, .int .i64 (j : Int))] g ∧
                      M = (bl, csl) :: (bo, ints .i64 O2) :: (b1, [.int .i64 low, .slice (some ⟨bq, 0, none⟩) l.length cap]) :: L) ?_ ?_
                    · refine Cd.rs [5, 6, 7, 8, 9, 10, 64, 65, 86] fun K hK => ?_
                      simp (maxSteps := 2000000) (disch := first | (simp only [E4, d1, hO, hLc, gt, hO2, ekj, hdq, hqq] <;> omega) | omega | fail) only [↓E2, E3, bare, bareJ, ↓E0, E1, env0, envN, evOps, evOp, evQs, evQ, evV, setD, pureOp, ev, upd, updL, binW, eqOp, binV, intOp, shOp, boolOp, hav, delB, eqL, SameI, strOp, ↓reduceIte, Zj, Zk, Nat.reduceAdd, Nat.reduceLT, Nat.reduceEqDiff, Nat.reduceMul, Nat.reduceLeDiff, if_true, Zn, reduceCtorEq, ZA, eq_self, Int.reduceLE, Int.reduceLT, Int.reduceToNat, ne_eq, Nat.reduceSub, d1, hO, hLc, gt, hO2, ekj, hdq, hqq]
                      repeat refine And.intro (by omega) ?_
                      repeat refine And.intro (by omega) ?_
                      intro g
                      simp only [List.map_cons, List.map_nil, updL, upd, Nat.reduceEqDiff, if_true, if_false, ↓reduceIte]
                      refine hK _ _ ?_; clear hK K
                      refine Cd.cond rfl (fun h8 => ?_) (fun h8 => ?_)
                      · have hs : sg (t - j) * bb = 0 - bb := by
                          have : sg (t - j) = -1 := by
                            simp only [bne_iff_ne, ne_eq] at h8
                            unfold sg
                            rw [if_neg (by omega)]
                          rw [this]; omega
                        refine Cd.rr [5, 6, 7, 8, 9, 10, 64, 65] fun K hK => ?_
                        simp (maxSteps := 2000000) (disch := first | (simp only [E4, d1, hO, hLc, gt, hO2, ekj, hdq, hqq] <;> omega) | omega | fail) only [↓E2, E3, bare, bareJ, ↓E0, E1, env0, envN, evOps, evOp, evQs, evQ, evV, setD, pureOp, ev, upd, updL, unV, hav, delB, ↓reduceIte, Zj, Zk, Nat.reduceAdd, Nat.reduceLT, Nat.reduceEqDiff, Nat.reduceMul, Nat.reduceLeDiff, if_true, Zn, reduceCtorEq, ZA, eq_self, Int.reduceLE, Int.reduceLT, Int.reduceToNat, ne_eq, Nat.reduceSub, d1, hO, hLc, gt, hO2, ekj, hdq, hqq]
                        repeat refine And.intro (by omega) ?_
                        rw [← hs]
                        repeat refine And.intro (by omega) ?_
                        intro g
                        simp only [List.map_cons, List.map_nil, updL, upd, Nat.reduceEqDiff, if_true, if_false, ↓reduceIte]
                        refine hK _ _ ?_; clear hK K
                        exact midN ⟨_, rfl, rfl⟩
                      · have hs : sg (t - j) * bb = bb := by
                          have : sg (t - j) = 1 := by
                            simp only [bne_eq_false_iff_eq] at h8
                            unfold sg
                            rw [if_pos (by omega)]
                          rw [this]; omega
                        refine Cd.skip ?_
                        exact midN ⟨_, by rw [hs]; exact (norm_of (by repeat (first | exact trivial | refine And.intro rfl ?_))), rfl⟩
                    · rintro ρ M ⟨g, rfl, rfl⟩
                      have hpp : -2000000000000 ≤ cc * (sg (t - j) * bb) ∧ cc * (sg (t - j) * bb) ≤ 2000000000000 := by
                        rcases sg_cases (t - j) with h | h
                        · rw [h, Int.one_mul]; exact hcbb
                        · rw [h, show cc * (-1 * bb) = -(cc * bb) by rw [Int.neg_mul, Int.one_mul, Int.mul_neg]]; omega
                      have hV2 : cwV t Lc j = Lc.getD j 0 - cc * (sg (t - j) * bb) := hV
                      generalize hpq : cc * (sg (t - j) * bb) = pq at *
                      have gset : (csl.set j (.int .i64 (cwV t Lc j)))[j]? = some (.int .i64 (cwV t Lc j)) := by
                        rw [List.getElem?_set_self (by omega)]
                      skip
                      refine Cd.rs [5, 6, 7, 8, 9, 64, 65] fun K hK => ?_
                      simp (maxSteps := 2000000) (disch := first | (simp only [E4, d1, hO, hLc, gt, hO2, ekj, hdq, hqq, gj, hpq] <;> omega) | omega | fail) only [↓E2, E3, bare, bareJ, ↓E0, E1, env0, envN, evOps, evOp, evQs, evQ, evV, setD, pureOp, ev, upd, updL, binW, eqOp, binV, intOp, shOp, boolOp, indexAddrV, cellAt, cellsAt, findB, setB, Value.cells, hav, delB, eqL, SameI, strOp, ↓reduceIte, Zj, Zk, Nat.reduceAdd, Nat.reduceLT, Nat.reduceEqDiff, Nat.reduceMul, Nat.reduceLeDiff, if_true, Zn, reduceCtorEq, ZA, eq_self, Int.reduceLE, Int.reduceLT, Int.reduceToNat, ne_eq, Nat.reduceSub, Tld2, Tslc31, Tst2, d1, hO, hLc, gt, hO2, ekj, hdq, hqq, gj, hpq]
                      repeat refine And.intro (by omega) ?_
                      rw [← hV2]
                      repeat refine And.intro (by omega) ?_
                      intro g
                      simp only [List.map_cons, List.map_nil, updL, upd, Nat.reduceEqDiff, if_true, if_false, ↓reduceIte]
                      refine hK _ _ ?_; clear hK K
                      skip
                      refine Cd.rs [5, 6, 7, 8, 64, 65, 103] fun K hK => ?_
                      simp (maxSteps := 2000000) (disch := first | (simp only [E4, d1, hO, hLc, gt, hO2, ekj, hdq, hqq, gj, hpq, gset] <;> omega) | omega | fail) only [↓E2, E3, bare, bareJ, ↓E0, E1, env0, envN, evOps, evOp, evQs, evQ, evV, setD, pureOp, ev, upd, updL, unV, indexAddrV, cellAt, cellsAt, findB, setB, hav, delB, ↓reduceIte, Zj, Zk, Nat.reduceAdd, Nat.reduceLT, Nat.reduceEqDiff, Nat.reduceMul, Nat.reduceLeDiff, if_true, Zn, reduceCtorEq, ZA, eq_self, Int.reduceLE, Int.reduceLT, Int.reduceToNat, ne_eq, Nat.reduceSub, Tld2, Tslc31, d1, hO, hLc, gt, hO2, ekj, hdq, hqq, gj, hpq, gset]
                      repeat refine And.intro (by omega) ?_
                      refine callK_gives (isCoefficient_c _) ?_
                      simp (maxSteps := 2000000) (disch := first | (simp only [E4, d1, hO, hLc, gt, hO2, ekj, hdq, hqq, gj, hpq, gset] <;> omega) | omega | fail) only [↓E2, E3, bare, bareJ, ↓E0, E1, env0, envN, evOps, evOp, evQs, evQ, evV, setD, pureOp, ev, upd, updL, unV, indexAddrV, cellAt, cellsAt, findB, setB, hav, delB, ↓reduceIte, Zj, Zk, Nat.reduceAdd, Nat.reduceLT, Nat.reduceEqDiff, Nat.reduceMul, Nat.reduceLeDiff, if_true, Zn, reduceCtorEq, ZA, eq_self, Int.reduceLE, Int.reduceLT, Int.reduceToNat, ne_eq, Nat.reduceSub, Tld2, Tslc31, d1, hO, hLc, gt, hO2, ekj, hdq, hqq, gj, hpq, gset]
                      repeat refine And.intro (by omega) ?_
                      repeat refine And.intro (by omega) ?_
                      intro g
                      simp only [List.map_cons, List.map_nil, updL, upd, Nat.reduceEqDiff, if_true, if_false, ↓reduceIte]
                      refine hK _ _ ?_; clear hK K
                      refine Cd.cond rfl (fun h9 => ?_) (fun h9 => ?_)
                      · have hbad : coOk (cwV t Lc j) = false := by simpa using h9
                        have hnk : ¬ cwOk t Lc := fun hk => by rw [hk j (by omega)] at hbad; cases hbad
                        rw [cwK_no hnk] at hcw
                        refine Cd.rs [2, 3] fun K hK => ?_
                        simp (maxSteps := 2000000) (disch := first | (simp only [E4, d1, hO, hLc, gt, hO2, ekj, hdq, hqq, gj, hpq, gset] <;> omega) | omega | fail) only [↓E2, E3, bare, bareJ, ↓E0, E1, env0, envN, evOps, evOp, evQs, evQ, evV, setD, pureOp, ev, upd, updL, hav, delB, ↓reduceIte, Zj, Zk, Nat.reduceAdd, Nat.reduceLT, Nat.reduceEqDiff, Nat.reduceMul, Nat.reduceLeDiff, if_true, Zn, reduceCtorEq, ZA, eq_self, Int.reduceLE, Int.reduceLT, Int.reduceToNat, ne_eq, Nat.reduceSub, d1, hO, hLc, gt, hO2, ekj, hdq, hqq, gj, hpq, gset]
                        repeat refine And.intro (by omega) ?_
                        repeat refine And.intro (by omega) ?_
                        intro g
                        simp only [List.map_cons, List.map_nil, updL, upd, Nat.reduceEqDiff, if_true, if_false, ↓reduceIte]
                        refine hK _ _ ?_; clear hK K
                        refine Cd.ret (inBR (thenR (roundR (inBR (inBR (thenR (roundR (inBR (thenR ?_)))))))))
                        simp (maxSteps := 2000000) (disch := first | (simp only [E4, d1, hO, hLc, gt, hO2, ekj, hdq, hqq, gj, hpq, gset] <;> omega) | omega | fail) only [↓E2, E3, bare, bareJ, ↓E0, E1, evP, evPlan, env0, envN, evOps, evOp, evQs, evQ, evV, setD, pureOp, ev, upd, updL, gate, binW, eqOp, binV, intOp, shOp, boolOp, unV, convV, nilV, fieldAddrV, indexAddrV, extractV, cellAt, cellsAt, findB, setB, fillL, buildV, Value.cells, lenV, minV, maxV, hav, sliceV, loV, hiV, bslQ, mksQ, appQ, partsOk, partsCells, delB, eqL, SameI, strOp, apzQ, cvtQ, capV, ↓reduceIte, Zj, Zk, Nat.reduceAdd, Nat.reduceLT, Nat.reduceEqDiff, Nat.reduceMul, Nat.reduceLeDiff, if_true, Zn, reduceCtorEq, ZA, eq_self, Int.reduceLE, Int.reduceLT, Int.reduceToNat, ne_eq, Nat.reduceSub, d1, hO, hLc, gt, hO2, ekj, hdq, hqq, gj, hpq, gset]
                        repeat refine And.intro (by omega) ?_
                        rw [hans, hcw]
                        exact keepQ.none hL (fun p hp => by simp [hp]) (conRes_no rfl rfl)
                      · have hgood : coOk (cwV t Lc j) = true := by simpa using h9
                        refine Cd.skip ?_
                        refine inBN ?_
                        refine thenN ?_
                        refine Cd.rr [5, 6, 7, 8, 64, 65] fun K hK => ?_
                        simp (maxSteps := 2000000) (disch := first | (simp only [E4, d1, hO, hLc, gt, hO2, ekj, hdq, hqq, gj, hpq, gset] <;> omega) | omega | fail) only [↓E2, E3, bare, bareJ, ↓E0, E1, env0, envN, evOps, evOp, evQs, evQ, evV, setD, pureOp, ev, upd, updL, binW, eqOp, binV, intOp, shOp, boolOp, hav, delB, eqL, SameI, strOp, ↓reduceIte, Zj, Zk, Nat.reduceAdd, Nat.reduceLT, Nat.reduceEqDiff, Nat.reduceMul, Nat.reduceLeDiff, if_true, Zn, reduceCtorEq, ZA, eq_self, Int.reduceLE, Int.reduceLT, Int.reduceToNat, ne_eq, Nat.reduceSub, d1, hO, hLc, gt, hO2, ekj, hdq, hqq, gj, hpq, gset]
                        repeat refine And.intro (by omega) ?_
                        repeat refine And.intro (by omega) ?_
                        intro g
                        simp only [List.map_cons, List.map_nil, updL, upd, Nat.reduceEqDiff, if_true, if_false, ↓reduceIte]
                        refine hK _ _ ?_; clear hK K
                        exact roundN (m := q - 1) (by omega) ⟨_, j + 1, _, by omega, cw_loop_in hall hgood, hset, rfl, rfl⟩
                · obtain rfl : j = t + 1 := by omega
                  have hokk : cwOk t Lc := fun i hi => hall i (by omega)
                  rw [cwK_yes hokk, hcd, hOO] at hcw
                  refine Cd.exit (thenX (roundX (inBX ?_)))
                  refine inBN ?_
                  refine thenN ?_
                  refine Cd.rr [5, 6, 7] fun K hK => ?_
                  simp (maxSteps := 2000000) (disch := first | (simp only [E4, d1, hO, hLc, gt, hO2] <;> omega) | omega | fail) only [↓E2, E3, bare, bareJ, ↓E0, E1, env0, envN, evOps, evOp, evQs, evQ, evV, setD, pureOp, ev, upd, updL, binW, eqOp, binV, intOp, shOp, boolOp, hav, delB, eqL, SameI, strOp, ↓reduceIte, Zj, Zk, Nat.reduceAdd, Nat.reduceLT, Nat.reduceEqDiff, Nat.reduceMul, Nat.reduceLeDiff, if_true, Zn, reduceCtorEq, ZA, eq_self, Int.reduceLE, Int.reduceLT, Int.reduceToNat, ne_eq, Nat.reduceSub, d1, hO, hLc, gt, hO2]
                  repeat refine And.intro (by omega) ?_
                  repeat refine And.intro (by omega) ?_
                  intro g
                  simp only [List.map_cons, List.map_nil, updL, upd, Nat.reduceEqDiff, if_true, if_false, ↓reduceIte]
                  refine hK _ _ ?_; clear hK K
                  exact roundN (m := t) (by omega) ⟨_, cwN t Lc, O2, csl, by omega, by rw [cwN_len, hLc], hO2, cwN_ok hokk hcc, hcw, hrow, rfl, rfl⟩
              · obtain rfl : n = 0 := by omega
                have hcw : cwK (d + 1) (l.drop d) (List.replicate (d + 1) 0) = some O := hcw
                refine Cd.exit (thenX (roundX (inBX ?_)))
                refine thenN ?_
                refine Cd.rs [2, 3] fun K hK => ?_
                simp (maxSteps := 2000000) (disch := first | (simp only [E4, d1, hO, hLc] <;> omega) | omega | fail) only [↓E2, E3, bare, bareJ, ↓E0, E1, env0, envN, evOps, evOp, evQs, evQ, evV, setD, pureOp, ev, upd, updL, hav, delB, ↓reduceIte, Zj, Zk, Nat.reduceAdd, Nat.reduceLT, Nat.reduceEqDiff, Nat.reduceMul, Nat.reduceLeDiff, if_true, Zn, reduceCtorEq, ZA, eq_self, Int.reduceLE, Int.reduceLT, Int.reduceToNat, ne_eq, Nat.reduceSub, d1, hO, hLc]
                repeat refine And.intro (by omega) ?_
                repeat refine And.intro (by omega) ?_
                intro g
                simp only [List.map_cons, List.map_nil, updL, upd, Nat.reduceEqDiff, if_true, if_false, ↓reduceIte]
                refine hK _ _ ?_; clear hK K
                refine Cd.ret ?_
                simp (maxSteps := 2000000) (disch := first | (simp only [E4, d1, hO, hLc] <;> omega) | omega | fail) only [↓E2, E3, bare, bareJ, ↓E0, E1, evP, evPlan, env0, envN, evOps, evOp, evQs, evQ, evV, setD, pureOp, ev, upd, updL, gate, binW, eqOp, binV, intOp, shOp, boolOp, unV, convV, nilV, fieldAddrV, indexAddrV, extractV, cellAt, cellsAt, findB, setB, fillL, buildV, Value.cells, lenV, minV, maxV, hav, sliceV, loV, hiV, bslQ, mksQ, appQ, partsOk, partsCells, delB, eqL, SameI, strOp, apzQ, cvtQ, capV, ↓reduceIte, Zj, Zk, Nat.reduceAdd, Nat.reduceLT, Nat.reduceEqDiff, Nat.reduceMul, Nat.reduceLeDiff, if_true, Zn, reduceCtorEq, ZA, eq_self, Int.reduceLE, Int.reduceLT, Int.reduceToNat, ne_eq, Nat.reduceSub, d1, hO, hLc]
                repeat refine And.intro (by omega) ?_
                rw [hans, hcw, show conOut (some O) = (O, 0) from rfl]
                refine ⟨[(bo, ints .i64 O)], fun p hp => by simp [hp], fun p hp => by rw [List.mem_singleton.1 hp]; simp, nodup_add hL (fun p hp => hp) fun p hp => (nodup_cases (nodup_cases hnd5).2).1 p (List.mem_cons_of_mem _ hp), _, rfl, SlN.row (Row.full (by rw [ints_length, hO, Nat.mul_one]))⟩
            clear hK
            have hle := hrq.le
            have hcd : (cap = d) = False := eq_false (by omega)
            have ed1 : ((d : Int) + 1).toNat = d + 1 := by omega
            have hz : List.replicate (d + 1) (Value.int .i64 0) = ints .i64 (List.replicate (d + 1) 0) := by simp [ints]
            have hpm : ∀ bo bl csl, SubP ((bl, csl) :: (bo, ints .i64 (List.replicate (d + 1) 0)) :: (b1, [.int .i64 low, .slice (some ⟨bq, 0, none⟩) l.length cap]) :: L) ((bo, ints .i64 (List.replicate (d + 1) 0)) :: (b1, [.int .i64 low, .slice (some ⟨bq, 0, none⟩) l.length cap]) :: (L ++ [(bl, csl)])) := fun bo bl csl =>
              .perm (M1 := (bo, ints .i64 (List.replicate (d + 1) 0)) :: (b1, [.int .i64 low, .slice (some ⟨bq, 0, none⟩) l.length cap]) :: (L ++ [(bl, csl)])) (List.perm_append_comm (l₁ := [(bl, csl)]) (l₂ := (bo, ints .i64 (List.replicate (d + 1) 0)) :: (b1, [.int .i64 low, .slice (some ⟨bq, 0, none⟩) l.length cap]) :: L)) (.refl _)
            skip
            simp (maxSteps := 2000000) (disch := first | (simp only [E4, hcd, edl] <;> omega) | omega | fail) only [↓E2, E3, bare, bareJ, ↓E0, E1, evPlan, env0, envN, evOps, evOp, evQs, evQ, evV, setD, pureOp, ev, upd, updL, binW, eqOp, binV, intOp, shOp, boolOp, fieldAddrV, cellAt, cellsAt, findB, setB, Value.cells, hav, sliceV, loV, hiV, mksQ, delB, eqL, SameI, strOp, ↓reduceIte, Zj, Zk, Nat.reduceAdd, Nat.reduceLT, Nat.reduceEqDiff, Nat.reduceMul, Nat.reduceLeDiff, if_true, Zn, reduceCtorEq, ZA, eq_self, Int.reduceLE, Int.reduceLT, Int.reduceToNat, ne_eq, Nat.reduceSub, Tby2, Tfld35_1, Tld31, Tslc31, Tslce31, Tzero2, ↓YR, hcd, edl]
            refine moreX_go ?_ ?_
            · try simp (maxSteps := 2000000) (disch := first | (simp only [E4, hcd, edl] <;> omega) | omega | fail) only [↓E2, E3, bare, bareJ, ↓E0, E1, evPlan, env0, envN, evOps, evOp, evQs, evQ, evV, setD, pureOp, ev, upd, updL, binW, eqOp, binV, intOp, shOp, boolOp, fieldAddrV, cellAt, cellsAt, findB, setB, Value.cells, hav, sliceV, loV, hiV, mksQ, delB, eqL, SameI, strOp, ↓reduceIte, Zj, Zk, Nat.reduceAdd, Nat.reduceLT, Nat.reduceEqDiff, Nat.reduceMul, Nat.reduceLeDiff, if_true, Zn, reduceCtorEq, ZA, eq_self, Int.reduceLE, Int.reduceLT, Int.reduceToNat, ne_eq, Nat.reduceSub, Tby2, Tfld35_1, Tld31, Tslc31, Tslce31, Tzero2, ↓YR, hcd, edl]
              repeat refine And.intro (by omega) ?_
              repeat refine And.intro (by omega) ?_
              refine moreX_go ?_ ?_
              · try simp (maxSteps := 2000000) (disch := first | (simp only [E4, hcd, edl] <;> omega) | omega | fail) only [↓E2, E3, bare, bareJ, ↓E0, E1, evPlan, env0, envN, evOps, evOp, evQs, evQ, evV, setD, pureOp, ev, upd, updL, binW, eqOp, binV, intOp, shOp, boolOp, fieldAddrV, cellAt, cellsAt, findB, setB, Value.cells, hav, sliceV, loV, hiV, mksQ, delB, eqL, SameI, strOp, ↓reduceIte, Zj, Zk, Nat.reduceAdd, Nat.reduceLT, Nat.reduceEqDiff, Nat.reduceMul, Nat.reduceLeDiff, if_true, Zn, reduceCtorEq, ZA, eq_self, Int.reduceLE, Int.reduceLT, Int.reduceToNat, ne_eq, Nat.reduceSub, Tby2, Tfld35_1, Tld31, Tslc31, Tslce31, Tzero2, ↓YR, hcd, edl]
                repeat refine And.intro (by omega) ?_
                refine callO_newR0 (Clone_c (l.drop d) [(bq, d, ints .i64 (l.drop d))] _ (.inr ⟨bq, d, _, by rw [hld], fun h => by rw [h] at hld; simp at hld, fun _ => List.mem_singleton.2 rfl⟩) (by omega)) (HoldsAll.toldW (holds_drop hnd (by simp [hmem]) hrq)) ?_
                rintro v4 M4 hv4 nd4 _
                rcases hv4 with ⟨e, _, _⟩ | ⟨bl, m4, capl, csl, rfl, rfl, hr4⟩
                · have := congrArg List.length e
                  rw [ints_length, hld] at this
                  simp at this
                have hm4 := hr4.len1
                rw [ints_length, hld] at hm4
                subst hm4
                simp only [List.cons_append, List.nil_append]
                simp (maxSteps := 2000000) (disch := first | (simp only [E4, hcd, edl, ed1, hz] <;> omega) | omega | fail) only [↓E2, E3, bare, bareJ, ↓E0, E1, evPlan, env0, envN, evOps, evOp, evQs, evQ, evV, setD, pureOp, ev, upd, updL, binW, eqOp, binV, intOp, shOp, boolOp, fieldAddrV, cellAt, cellsAt, findB, setB, Value.cells, hav, sliceV, loV, hiV, mksQ, delB, eqL, SameI, strOp, ↓reduceIte, Zj, Zk, Nat.reduceAdd, Nat.reduceLT, Nat.reduceEqDiff, Nat.reduceMul, Nat.reduceLeDiff, if_true, Zn, reduceCtorEq, ZA, eq_self, Int.reduceLE, Int.reduceLT, Int.reduceToNat, ne_eq, Nat.reduceSub, Tby2, Tfld35_1, Tld31, Tslc31, Tslce31, Tzero2, ↓YR, hcd, edl, ed1, hz]
                repeat refine And.intro (by omega) ?_
                intro bo hbo
                repeat refine And.intro (by omega) ?_
                intro g
                simp only [List.map_cons, List.map_nil, updL, upd, Nat.reduceEqDiff, if_true, if_false, ↓reduceIte]
                exact J2 g bl capl csl bo _ hr4 (hpm bo bl csl)
              · simp (maxSteps := 2000000) (disch := first | (simp only [E4, hcd, edl, ed1, hz] <;> omega) | omega | fail) only [↓E2, E3, bare, bareJ, ↓E0, E1, evPlan, env0, envN, evOps, evOp, evQs, evQ, evV, setD, pureOp, ev, upd, updL, binW, eqOp, binV, intOp, shOp, boolOp, fieldAddrV, cellAt, cellsAt, findB, setB, Value.cells, hav, sliceV, loV, hiV, mksQ, delB, eqL, SameI, strOp, ↓reduceIte, Zj, Zk, Nat.reduceAdd, Nat.reduceLT, Nat.reduceEqDiff, Nat.reduceMul, Nat.reduceLeDiff, if_true, Zn, reduceCtorEq, ZA, eq_self, Int.reduceLE, Int.reduceLT, Int.reduceToNat, ne_eq, Nat.reduceSub, Tby2, Tfld35_1, Tld31, Tslc31, Tslce31, Tzero2, ↓YR, hcd, edl, ed1, hz]
                repeat refine And.intro (by omega) ?_
                intro bo hbo
                have hndo := nodup_fr (cs := ints .i64 (List.replicate (d + 1) 0)) hbo hnd
                try simp (maxSteps := 2000000) (disch := first | (simp only [E4, hcd, edl] <;> omega) | omega | fail) only [↓E2, E3, bare, bareJ, ↓E0, E1, evPlan, env0, envN, evOps, evOp, evQs, evQ, evV, setD, pureOp, ev, upd, updL, binW, eqOp, binV, intOp, shOp, boolOp, fieldAddrV, cellAt, cellsAt, findB, setB, Value.cells, hav, sliceV, loV, hiV, mksQ, delB, eqL, SameI, strOp, ↓reduceIte, Zj, Zk, Nat.reduceAdd, Nat.reduceLT, Nat.reduceEqDiff, Nat.reduceMul, Nat.reduceLeDiff, if_true, Zn, reduceCtorEq, ZA, eq_self, Int.reduceLE, Int.reduceLT, Int.reduceToNat, ne_eq, Nat.reduceSub, Tby2, Tfld35_1, Tld31, Tslc31, Tslce31, Tzero2, ↓YR, hcd, edl]
                repeat refine And.intro (by omega) ?_
                refine callO_newR0 (Clone_c (l.drop d) [(bq, d, ints .i64 (l.drop d))] _ (.inr ⟨bq, d, _, by rw [hld], fun h => by rw [h] at hld; simp at hld, fun _ => List.mem_singleton.2 rfl⟩) (by omega)) (HoldsAll.toldW (holds_drop hndo (by simp [hmem]) hrq)) ?_
                rintro v4 M4 hv4 nd4 _
                rcases hv4 with ⟨e, _, _⟩ | ⟨bl, m4, capl, csl, rfl, rfl, hr4⟩
                · have := congrArg List.length e
                  rw [ints_length, hld] at this
                  simp at this
                have hm4 := hr4.len1
                rw [ints_length, hld] at hm4
                subst hm4
                simp only [List.cons_append, List.nil_append]
                simp (maxSteps := 2000000) (disch := first | (simp only [E4, hcd, edl, ed1, hz] <;> omega) | omega | fail) only [↓E2, E3, bare, bareJ, ↓E0, E1, evPlan, env0, envN, evOps, evOp, evQs, evQ, evV, setD, pureOp, ev, upd, updL, binW, eqOp, binV, intOp, shOp, boolOp, fieldAddrV, cellAt, cellsAt, findB, setB, Value.cells, hav, sliceV, loV, hiV, mksQ, delB, eqL, SameI, strOp, ↓reduceIte, Zj, Zk, Nat.reduceAdd, Nat.reduceLT, Nat.reduceEqDiff, Nat.reduceMul, Nat.reduceLeDiff, if_true, Zn, reduceCtorEq, ZA, eq_self, Int.reduceLE, Int.reduceLT, Int.reduceToNat, ne_eq, Nat.reduceSub, Tby2, Tfld35_1, Tld31, Tslc31, Tslce31, Tzero2, ↓YR, hcd, edl, ed1, hz]
                repeat refine And.intro (by omega) ?_
                intro g
                simp only [List.map_cons, List.map_nil, updL, upd, Nat.reduceEqDiff, if_true, if_false, ↓reduceIte]
                exact J2 g bl capl csl bo _ hr4 (hpm bo bl csl)
            · simp (maxSteps := 2000000) (disch := first | (simp only [E4, hcd, edl, ed1, hz] <;> omega) | omega | fail) only [↓E2, E3, bare, bareJ, ↓E0, E1, evPlan, env0, envN, evOps, evOp, evQs, evQ, evV, setD, pureOp, ev, upd, updL, binW, eqOp, binV, intOp, shOp, boolOp, fieldAddrV, cellAt, cellsAt, findB, setB, Value.cells, hav, sliceV, loV, hiV, mksQ, delB, eqL, SameI, strOp, ↓reduceIte, Zj, Zk, Nat.reduceAdd, Nat.reduceLT, Nat.reduceEqDiff, Nat.reduceMul, Nat.reduceLeDiff, if_true, Zn, reduceCtorEq, ZA, eq_self, Int.reduceLE, Int.reduceLT, Int.reduceToNat, ne_eq, Nat.reduceSub, Tby2, Tfld35_1, Tld31, Tslc31, Tslce31, Tzero2, ↓YR, hcd, edl, ed1, hz]
              repeat refine And.intro (by omega) ?_
              intro bo hbo
              have hndo := nodup_fr (cs := ints .i64 (List.replicate (d + 1) 0)) hbo hnd
              have nbo : (bo = b1) = False := eq_false (hbo.2 (b1, [.int .i64 low, .slice (some ⟨bq, 0, none⟩) l.length cap]) (by simp))
              simp (maxSteps := 2000000) (disch := first | (simp only [E4, hcd, edl, nbo] <;> omega) | omega | fail) only [↓E2, E3, bare, bareJ, ↓E0, E1, evPlan, env0, envN, evOps, evOp, evQs, evQ, evV, setD, pureOp, ev, upd, updL, binW, eqOp, binV, intOp, shOp, boolOp, fieldAddrV, cellAt, cellsAt, findB, setB, Value.cells, hav, sliceV, loV, hiV, mksQ, delB, eqL, SameI, strOp, ↓reduceIte, Zj, Zk, Nat.reduceAdd, Nat.reduceLT, Nat.reduceEqDiff, Nat.reduceMul, Nat.reduceLeDiff, if_true, Zn, reduceCtorEq, ZA, eq_self, Int.reduceLE, Int.reduceLT, Int.reduceToNat, ne_eq, Nat.reduceSub, Tby2, Tfld35_1, Tld31, Tslc31, Tslce31, Tzero2, ↓YR, hcd, edl, nbo]
              repeat refine And.intro (by omega) ?_
              refine callO_newR0 (Clone_c (l.drop d) [(bq, d, ints .i64 (l.drop d))] _ (.inr ⟨bq, d, _, by rw [hld], fun h => by rw [h] at hld; simp at hld, fun _ => List.mem_singleton.2 rfl⟩) (by omega)) (HoldsAll.toldW (holds_drop hndo (by simp [hmem]) hrq)) ?_
              rintro v4 M4 hv4 nd4 _
              rcases hv4 with ⟨e, _, _⟩ | ⟨bl, m4, capl, csl, rfl, rfl, hr4⟩
              · have := congrArg List.length e
                rw [ints_length, hld] at this
                simp at this
              have hm4 := hr4.len1
              rw [ints_length, hld] at hm4
              subst hm4
              simp only [List.cons_append, List.nil_append]
              simp (maxSteps := 2000000) (disch := first | (simp only [E4, hcd, edl, ed1, hz] <;> omega) | omega | fail) only [↓E2, E3, bare, bareJ, ↓E0, E1, evPlan, env0, envN, evOps, evOp, evQs, evQ, evV, setD, pureOp, ev, upd, updL, binW, eqOp, binV, intOp, shOp, boolOp, fieldAddrV, cellAt, cellsAt, findB, setB, Value.cells, hav, sliceV, loV, hiV, mksQ, delB, eqL, SameI, strOp, ↓reduceIte, Zj, Zk, Nat.reduceAdd, Nat.reduceLT, Nat.reduceEqDiff, Nat.reduceMul, Nat.reduceLeDiff, if_true, Zn, reduceCtorEq, ZA, eq_self, Int.reduceLE, Int.reduceLT, Int.reduceToNat, ne_eq, Nat.reduceSub, Tby2, Tfld35_1, Tld31, Tslc31, Tslce31, Tzero2, ↓YR, hcd, edl, ed1, hz]
              repeat refine And.intro (by omega) ?_
              intro g
              simp only [List.map_cons, List.map_nil, updL, upd, Nat.reduceEqDiff, if_true, if_false, ↓reduceIte]
              exact J2 g bl capl csl bo _ hr4 (hpm bo bl csl)
      clear hK
      have hsub1 : ∀ A B : Blks, SubP ((b1, [.int .i64 low, .slice a l.length cap]) :: L) ((b1, [.int .i64 low, .slice a l.length cap]) :: (L ++ (A ++ B))) := fun A B => SubP.of (.cons_cons _ (List.sublist_append_left _ _))
      have hsub2 : ∀ A : Blks, SubP ((b1, [.int .i64 low, .slice a l.length cap]) :: L) ((b1, [.int .i64 low, .slice a l.length cap]) :: (L ++ A)) := fun A => SubP.of (.cons_cons _ (List.sublist_append_left _ _))
      by_cases hrev : l.reverse = l
      · have hEq : decide (l.reverse = l) = true := decide_eq_true hrev
        have hbn : (mirLow low l != low) = decide (¬ isSym low l) := by
          rw [hml]
          unfold isSym
          rw [Bool.eq_iff_iff, bne_iff_ne, decide_eq_true_eq]
          constructor
          · rintro h ⟨_, h2⟩; omega
          · intro h e; exact h ⟨hrev, by omega⟩
        simp (maxSteps := 2000000) (disch := first | (simp only [E4] <;> omega) | omega | fail) only [↓E2, E3, bare, bareJ, ↓E0, E1, evPlan, env0, envN, evOps, evOp, evQs, evQ, evV, setD, pureOp, ev, upd, updL, gate, binW, eqOp, binV, intOp, shOp, boolOp, unV, fieldAddrV, cellAt, cellsAt, findB, setB, Value.cells, hav, delB, eqL, SameI, strOp, ↓reduceIte, Zj, Zk, Nat.reduceAdd, Nat.reduceLT, Nat.reduceEqDiff, Nat.reduceMul, Nat.reduceLeDiff, if_true, Zn, reduceCtorEq, ZA, eq_self, Int.reduceLE, Int.reduceLT, Int.reduceToNat, ne_eq, Nat.reduceSub, Tagg2, Tagg31, Tfld35_0, Tfld35_1, Thas2, Thas31, Tld2, Tld31, Tld35, Tpar2, Tpar31, Tsz2, Tsz31, ↓YR]
        refine moreX_go ?_ ?_
        all_goals
          try simp (maxSteps := 2000000) (disch := first | (simp only [E4] <;> omega) | omega | fail) only [↓E2, E3, bare, bareJ, ↓E0, E1, evPlan, env0, envN, evOps, evOp, evQs, evQ, evV, setD, pureOp, ev, upd, updL, gate, binW, eqOp, binV, intOp, shOp, boolOp, unV, fieldAddrV, cellAt, cellsAt, findB, setB, Value.cells, hav, delB, eqL, SameI, strOp, ↓reduceIte, Zj, Zk, Nat.reduceAdd, Nat.reduceLT, Nat.reduceEqDiff, Nat.reduceMul, Nat.reduceLeDiff, if_true, Zn, reduceCtorEq, ZA, eq_self, Int.reduceLE, Int.reduceLT, Int.reduceToNat, ne_eq, Nat.reduceSub, Tagg2, Tagg31, Tfld35_0, Tfld35_1, Thas2, Thas31, Tld2, Tld31, Tld35, Tpar2, Tpar31, Tsz2, Tsz31, ↓YR]
          repeat refine And.intro (by omega) ?_
          refine callO_newR0 (mirror_c low l (toldOf L) _ hrd hok) (HoldsAll.toldW (holds_mem hnd fun p hp => by simp [hp])) ?_
          rintro vm Mm ⟨sm, rfl, hsm⟩ ndm _
          obtain ⟨am, mm, cm, rfl⟩ := hsm.form
          simp only [List.cons_append, List.nil_append] at ndm ⊢
          simp (maxSteps := 2000000) (disch := first | (simp only [E4, fieldV, partV, Bool.and_self, agg2_0, agg2_1] <;> omega) | omega | fail) only [↓E2, E3, bare, bareJ, ↓E0, E1, evPlan, env0, envN, evOps, evOp, evQs, evQ, evV, setD, pureOp, ev, upd, updL, gate, binW, eqOp, binV, intOp, shOp, boolOp, unV, fieldAddrV, cellAt, cellsAt, findB, setB, Value.cells, hav, delB, eqL, SameI, strOp, ↓reduceIte, Zj, Zk, Nat.reduceAdd, Nat.reduceLT, Nat.reduceEqDiff, Nat.reduceMul, Nat.reduceLeDiff, if_true, Zn, reduceCtorEq, ZA, eq_self, Int.reduceLE, Int.reduceLT, Int.reduceToNat, ne_eq, Nat.reduceSub, Tagg2, Tagg31, Tfld35_0, Tfld35_1, Thas2, Thas31, Tld2, Tld31, Tld35, Tpar2, Tpar31, Tsz2, Tsz31, ↓YR, fieldV, partV, Bool.and_self, agg2_0, agg2_1]
          refine callP_reads0 (Equal_c l.reverse l (toldOf (L ++ Mm)) _ _ (hsm.reads fun p hp => mem_toldOf (List.mem_append_right _ hp)) (hsl.more (by rw [toldOf_append]; exact fun r hr => List.mem_append_left _ hr)) (by simp; omega) (by omega)) (holds_mem ndm fun p hp => by simp only [List.mem_append] at hp; rcases hp with hp | hp <;> simp [hp]) ?_
          rw [hEq]
          simp (maxSteps := 2000000) (disch := first | (simp only [E4] <;> omega) | omega | fail) only [↓E2, E3, bare, bareJ, ↓E0, E1, evPlan, env0, envN, evOps, evOp, evQs, evQ, evV, setD, pureOp, ev, upd, updL, gate, binW, eqOp, binV, intOp, shOp, boolOp, unV, fieldAddrV, cellAt, cellsAt, findB, setB, Value.cells, hav, delB, eqL, SameI, strOp, ↓reduceIte, Zj, Zk, Nat.reduceAdd, Nat.reduceLT, Nat.reduceEqDiff, Nat.reduceMul, Nat.reduceLeDiff, if_true, Zn, reduceCtorEq, ZA, eq_self, Int.reduceLE, Int.reduceLT, Int.reduceToNat, ne_eq, Nat.reduceSub, Tagg2, Tagg31, Tfld35_0, Tfld35_1, Thas2, Thas31, Tld2, Tld31, Tld35, Tpar2, Tpar31, Tsz2, Tsz31, ↓YR]
          repeat' first
              | with_reducible refine moreX_go ?_ ?_
              | simp (maxSteps := 2000000) (disch := first | (simp only [E4] <;> omega) | omega | fail) only [↓E2, E3, bare, bareJ, ↓E0, E1, evPlan, env0, envN, evOps, evOp, evQs, evQ, evV, setD, pureOp, ev, upd, updL, gate, binW, eqOp, binV, intOp, shOp, boolOp, unV, fieldAddrV, cellAt, cellsAt, findB, setB, Value.cells, hav, delB, eqL, SameI, strOp, ↓reduceIte, Zj, Zk, Nat.reduceAdd, Nat.reduceLT, Nat.reduceEqDiff, Nat.reduceMul, Nat.reduceLeDiff, if_true, Zn, reduceCtorEq, ZA, eq_self, Int.reduceLE, Int.reduceLT, Int.reduceToNat, ne_eq, Nat.reduceSub, Tagg2, Tagg31, Tfld35_0, Tfld35_1, Thas2, Thas31, Tld2, Tld31, Tld35, Tpar2, Tpar31, Tsz2, Tsz31, ↓YR, fieldV, partV, Bool.and_self, agg2_0, agg2_1, hbn]
              | (refine callO_newR0 (mirror_c low l (toldOf L) _ hrd hok) (HoldsAll.toldW (holds_mem ndm fun p hp => by simp [hp])) ?_; rintro v2 M2 ⟨s2, rfl, h2⟩ nd2 _; obtain ⟨a2, m2, c2, rfl⟩ := h2.form; simp only [List.cons_append, List.nil_append, List.append_assoc])
          all_goals
            repeat refine And.intro (by omega) ?_
            intro g
            simp only [List.map_cons, List.map_nil, updL, upd, Nat.reduceEqDiff, if_true, if_false, ↓reduceIte]
            first | exact J g _ (hsub2 _) | exact J g _ (hsub1 _ _)
      · have hEq : decide (l.reverse = l) = false := decide_eq_false hrev
        have hbn : decide (¬ isSym low l) = true := decide_eq_true fun h => hrev h.1
        rw [hbn] at J
        simp (maxSteps := 2000000) (disch := first | (simp only [E4] <;> omega) | omega | fail) only [↓E2, E3, bare, bareJ, ↓E0, E1, evPlan, env0, envN, evOps, evOp, evQs, evQ, evV, setD, pureOp, ev, upd, updL, gate, binW, eqOp, binV, intOp, shOp, boolOp, unV, fieldAddrV, cellAt, cellsAt, findB, setB, Value.cells, hav, delB, eqL, SameI, strOp, ↓reduceIte, Zj, Zk, Nat.reduceAdd, Nat.reduceLT, Nat.reduceEqDiff, Nat.reduceMul, Nat.reduceLeDiff, if_true, Zn, reduceCtorEq, ZA, eq_self, Int.reduceLE, Int.reduceLT, Int.reduceToNat, ne_eq, Nat.reduceSub, Tagg2, Tagg31, Tfld35_0, Tfld35_1, Thas2, Thas31, Tld2, Tld31, Tld35, Tpar2, Tpar31, Tsz2, Tsz31, ↓YR]
        refine moreX_go ?_ ?_
        all_goals
          try simp (maxSteps := 2000000) (disch := first | (simp only [E4] <;> omega) | omega | fail) only [↓E2, E3, bare, bareJ, ↓E0, E1, evPlan, env0, envN, evOps, evOp, evQs, evQ, evV, setD, pureOp, ev, upd, updL, gate, binW, eqOp, binV, intOp, shOp, boolOp, unV, fieldAddrV, cellAt, cellsAt, findB, setB, Value.cells, hav, delB, eqL, SameI, strOp, ↓reduceIte, Zj, Zk, Nat.reduceAdd, Nat.reduceLT, Nat.reduceEqDiff, Nat.reduceMul, Nat.reduceLeDiff, if_true, Zn, reduceCtorEq, ZA, eq_self, Int.reduceLE, Int.reduceLT, Int.reduceToNat, ne_eq, Nat.reduceSub, Tagg2, Tagg31, Tfld35_0, Tfld35_1, Thas2, Thas31, Tld2, Tld31, Tld35, Tpar2, Tpar31, Tsz2, Tsz31, ↓YR]
          repeat refine And.intro (by omega) ?_
          refine callO_newR0 (mirror_c low l (toldOf L) _ hrd hok) (HoldsAll.toldW (holds_mem hnd fun p hp => by simp [hp])) ?_
          rintro vm Mm ⟨sm, rfl, hsm⟩ ndm _
          obtain ⟨am, mm, cm, rfl⟩ := hsm.form
          simp only [List.cons_append, List.nil_append] at ndm ⊢
          simp (maxSteps := 2000000) (disch := first | (simp only [E4, fieldV, partV, Bool.and_self, agg2_0, agg2_1] <;> omega) | omega | fail) only [↓E2, E3, bare, bareJ, ↓E0, E1, evPlan, env0, envN, evOps, evOp, evQs, evQ, evV, setD, pureOp, ev, upd, updL, gate, binW, eqOp, binV, intOp, shOp, boolOp, unV, fieldAddrV, cellAt, cellsAt, findB, setB, Value.cells, hav, delB, eqL, SameI, strOp, ↓reduceIte, Zj, Zk, Nat.reduceAdd, Nat.reduceLT, Nat.reduceEqDiff, Nat.reduceMul, Nat.reduceLeDiff, if_true, Zn, reduceCtorEq, ZA, eq_self, Int.reduceLE, Int.reduceLT, Int.reduceToNat, ne_eq, Nat.reduceSub, Tagg2, Tagg31, Tfld35_0, Tfld35_1, Thas2, Thas31, Tld2, Tld31, Tld35, Tpar2, Tpar31, Tsz2, Tsz31, ↓YR, fieldV, partV, Bool.and_self, agg2_0, agg2_1]
          refine callP_reads0 (Equal_c l.reverse l (toldOf (L ++ Mm)) _ _ (hsm.reads fun p hp => mem_toldOf (List.mem_append_right _ hp)) (hsl.more (by rw [toldOf_append]; exact fun r hr => List.mem_append_left _ hr)) (by simp; omega) (by omega)) (holds_mem ndm fun p hp => by simp only [List.mem_append] at hp; rcases hp with hp | hp <;> simp [hp]) ?_
          rw [hEq]
          simp (maxSteps := 2000000) (disch := first | (simp only [E4] <;> omega) | omega | fail) only [↓E2, E3, bare, bareJ, ↓E0, E1, evPlan, env0, envN, evOps, evOp, evQs, evQ, evV, setD, pureOp, ev, upd, updL, gate, binW, eqOp, binV, intOp, shOp, boolOp, unV, fieldAddrV, cellAt, cellsAt, findB, setB, Value.cells, hav, delB, eqL, SameI, strOp, ↓reduceIte, Zj, Zk, Nat.reduceAdd, Nat.reduceLT, Nat.reduceEqDiff, Nat.reduceMul, Nat.reduceLeDiff, if_true, Zn, reduceCtorEq, ZA, eq_self, Int.reduceLE, Int.reduceLT, Int.reduceToNat, ne_eq, Nat.reduceSub, Tagg2, Tagg31, Tfld35_0, Tfld35_1, Thas2, Thas31, Tld2, Tld31, Tld35, Tpar2, Tpar31, Tsz2, Tsz31, ↓YR]
          repeat' first
              | with_reducible refine moreX_go ?_ ?_
              | simp (maxSteps := 2000000) (disch := first | (simp only [E4] <;> omega) | omega | fail) only [↓E2, E3, bare, bareJ, ↓E0, E1, evPlan, env0, envN, evOps, evOp, evQs, evQ, evV, setD, pureOp, ev, upd, updL, gate, binW, eqOp, binV, intOp, shOp, boolOp, unV, fieldAddrV, cellAt, cellsAt, findB, setB, Value.cells, hav, delB, eqL, SameI, strOp, ↓reduceIte, Zj, Zk, Nat.reduceAdd, Nat.reduceLT, Nat.reduceEqDiff, Nat.reduceMul, Nat.reduceLeDiff, if_true, Zn, reduceCtorEq, ZA, eq_self, Int.reduceLE, Int.reduceLT, Int.reduceToNat, ne_eq, Nat.reduceSub, Tagg2, Tagg31, Tfld35_0, Tfld35_1, Thas2, Thas31, Tld2, Tld31, Tld35, Tpar2, Tpar31, Tsz2, Tsz31, ↓YR, fieldV, partV, Bool.and_self, agg2_0, agg2_1, hbn]
          all_goals
            repeat refine And.intro (by omega) ?_
            intro g
            simp only [List.map_cons, List.map_nil, updL, upd, Nat.reduceEqDiff, if_true, if_false, ↓reduceIte]
            first | exact J g _ (hsub2 _) | exact J g _ (hsub1 _ _)
end

end Go.Proofs

/-
  What the functions of this part hand back: each as a plain function of its arguments. Conditions: none.
-/
namespace Go.Proofs
open Go.W8
set_option linter.unusedVariables false
set_option linter.unusedSimpArgs false
set_option linter.unusedSectionVars false
set_option maxRecDepth 8000
set_option maxHeartbeats 4000000
def arfN (l : List Int) : Int := if l.length < 2 then 0 else l.getD 1 0 % 2
def arfO (n : Nat) (x o : List Int) : List Int := (conAns (loL (alL n x o)) (alL n x o)).1
def arfV (n : Nat) (x o : List Int) : Int := arfN (arfO n x o)
theorem arf_shape (s : Int) (x o : List Int) (hx : Bytes8 x) (ho : Bytes8 o) : ∃ v c, knotI s x o (arfV s.toNat x o) = .tuple #[.int .i64 v, .int .i64 c] := ⟨_, _, rfl⟩
theorem and_one (a : Int) : IntKind.i64.wrap (((BitVec.ofInt IntKind.i64.bits a &&& BitVec.ofInt IntKind.i64.bits 1).toNat : Nat) : Int) = a % 2 := by
  have h1 : (BitVec.ofInt IntKind.i64.bits a &&& BitVec.ofInt IntKind.i64.bits 1).toNat = (a % 2).toNat := by
    rw [BitVec.toNat_and, BitVec.toNat_ofInt, BitVec.toNat_ofInt]
    show (a % 18446744073709551616).toNat &&& 1 = _
    rw [Nat.and_one_is_mod]
    omega
  rw [h1]
  have h2 : a % 2 = 0 ∨ a % 2 = 1 := by omega
  rcases h2 with h | h <;> rw [h] <;> rfl
theorem rem_two (a : Int) : ∃ y, a.tmod 2 = y ∧ -2 < y ∧ y < 2 ∧ (y + 2).tmod 2 = a % 2 := by
  refine ⟨_, rfl, ?_⟩
  rcases Int.le_total 0 a with h | h
  · rw [Int.tmod_eq_emod_of_nonneg h]
    refine ⟨by omega, by omega, ?_⟩
    rw [Int.tmod_eq_emod_of_nonneg (by omega)]
    omega
  · obtain ⟨b, rfl⟩ : ∃ b, a = -b := ⟨-a, by omega⟩
    rw [Int.neg_tmod, Int.tmod_eq_emod_of_nonneg (by omega)]
    refine ⟨by omega, by omega, ?_⟩
    rw [Int.tmod_eq_emod_of_nonneg (by omega)]
    omega
/-- A knot's polynomial is one that Conway's coefficients are told of. -/
theorem con_knot {low : Int} {l : List Int} {d : Nat} (hok : lauOk low l = true) (hlow : low = -(d : Int)) (hd : d ≤ 16) (hl : l.length = 2 * d + 1) (hr : l.reverse = l) : isSym low l ∧ conAns low l = conOut (conCore low l) := by
  have hs : isSym low l := ⟨hr, by omega⟩
  refine ⟨hs, ?_⟩
  unfold conAns
  rw [if_pos hok, if_neg (by omega), if_pos hs, if_neg (by omega)]
section
variable (n : Nat) (x o : List Int) (hx : Bytes8 x) (ho : Bytes8 o) (hn : n ≤ 8) (hn2 : 2 ≤ n) (hk : ∃ d : Nat, d ≤ 16 ∧ (alL n x o).length = 2 * d + 1 ∧ (alL n x o).reverse = alL n x o)
include hx ho hn hn2 hk
theorem ArfOf1_c : Gives Try.prog 15 #[.agg (gc (n : Int) x o).toArray] (.int .i64 (arfV n x o)) := by
  have hl := hx.len
  have hm := ho.len
  obtain ⟨d, hd, h1, _⟩ := hk
  have hlo := loL_odd h1
  have hlen := conAns_len (loL (alL n x o)) (alL n x o)
  skip
  refine Gives.of fun w => ?_
  refine acall_of (N := 18) (c := _) (rs := [.tmp 2]) (args := [_]) Try.func15 rfl (by decide) rfl rfl (Nat.le_of_ble_eq_true rfl) ?_
  refine Cd.rs [1] fun K hK => ?_
  simp (maxSteps := 2000000) (disch := first | (simp only [E4, hl, hm] <;> omega) | omega | fail) only [↓E2, E3, bare, bareJ, ↓E0, E1, env0, envN, evOps, evOp, evQs, evQ, evV, setD, pureOp, ev, upd, updL, Value.cells, hav, delB, ↓reduceIte, Zj, Zk, Nat.reduceAdd, Nat.reduceLT, Nat.reduceEqDiff, Nat.reduceMul, Nat.reduceLeDiff, if_true, Zn, reduceCtorEq, ZA, eq_self, Int.reduceLE, Int.reduceLT, Int.reduceToNat, ne_eq, Nat.reduceSub, hl, hm]
  repeat refine And.intro (by omega) ?_
  intro b1 hb1
  try simp (maxSteps := 2000000) (disch := first | (simp only [E4, hl, hm] <;> omega) | omega | fail) only [↓E2, E3, bare, bareJ, ↓E0, E1, env0, envN, evOps, evOp, evQs, evQ, evV, setD, pureOp, ev, upd, updL, Value.cells, hav, delB, ↓reduceIte, Zj, Zk, Nat.reduceAdd, Nat.reduceLT, Nat.reduceEqDiff, Nat.reduceMul, Nat.reduceLeDiff, if_true, Zn, reduceCtorEq, ZA, eq_self, Int.reduceLE, Int.reduceLT, Int.reduceToNat, ne_eq, Nat.reduceSub, hl, hm]
  repeat refine And.intro (by omega) ?_
  repeat refine And.intro (by omega) ?_
  intro g
  simp only [List.map_cons, List.map_nil, updL, upd, Nat.reduceEqDiff, if_true, if_false, ↓reduceIte]
  refine hK _ _ ?_; clear hK K
  refine Cd.rs [3] fun K hK => ?_
  simp (maxSteps := 2000000) (disch := first | (simp only [E4, hl, hm] <;> omega) | omega | fail) only [↓E2, E3, bare, bareJ, ↓E0, E1, env0, envN, evOps, evOp, evQs, evQ, evV, setD, pureOp, ev, upd, updL, extractV, cellAt, cellsAt, findB, setB, hav, delB, ↓reduceIte, Zj, Zk, Nat.reduceAdd, Nat.reduceLT, Nat.reduceEqDiff, Nat.reduceMul, Nat.reduceLeDiff, if_true, Zn, reduceCtorEq, ZA, eq_self, Int.reduceLE, Int.reduceLT, Int.reduceToNat, ne_eq, Nat.reduceSub, Tld27, hl, hm]
  repeat refine And.intro (by omega) ?_
  refine callK_newR0 (alexander_c n x o hx ho hn hn2) (fun _ _ => toldW_nil) ?_
  intro v' M' hv' nd' _
  simp only [List.cons_append, List.nil_append] at nd' ⊢
  simp (maxSteps := 2000000) (disch := first | (simp only [E4, hl, hm] <;> omega) | omega | fail) only [↓E2, E3, bare, bareJ, ↓E0, E1, env0, envN, evOps, evOp, evQs, evQ, evV, setD, pureOp, ev, upd, updL, extractV, cellAt, cellsAt, findB, setB, hav, delB, ↓reduceIte, Zj, Zk, Nat.reduceAdd, Nat.reduceLT, Nat.reduceEqDiff, Nat.reduceMul, Nat.reduceLeDiff, if_true, Zn, reduceCtorEq, ZA, eq_self, Int.reduceLE, Int.reduceLT, Int.reduceToNat, ne_eq, Nat.reduceSub, Tld27, hl, hm]
  repeat refine And.intro (by omega) ?_
  refine callK_keep0 (iConway_c (loL (alL n x o)) (alL n x o) v' M' hv' (nodup_cases nd').2 (by omega) (by omega)) nd' (fun p hp => List.mem_cons_of_mem _ hp) (nodup_cases nd').2 ?_
  rintro r M1 ⟨s', rfl, hs'⟩ nd2 _
  obtain ⟨a', m', c', rfl⟩ := hs'.form
  obtain rfl := hs'.len1
  change SlN 1 (ints .i64 (arfO n x o)) _ _ at hs'
  have hlen : (arfO n x o).length ≤ 2001 := hlen
  have hA : (conAns (loL (alL n x o)) (alL n x o)).1 = arfO n x o := rfl
  have hV : arfV n x o = arfN (arfO n x o) := rfl
  rw [hA]
  rw [hV] at hK
  generalize (conAns (loL (alL n x o)) (alL n x o)).2 = code at *
  generalize arfO n x o = out at *
  simp only [List.cons_append, List.nil_append] at nd2 ⊢
  have hin : ∀ p ∈ M1, p ∈ M' ++ M1 := fun p hp => List.mem_append_right _ hp
  generalize M' ++ M1 = MM at *
  simp (maxSteps := 2000000) (disch := first | (simp only [E4, hl, hm] <;> omega) | omega | fail) only [↓E2, E3, bare, bareJ, ↓E0, E1, env0, envN, evOps, evOp, evQs, evQ, evV, setD, pureOp, ev, upd, updL, extractV, cellAt, cellsAt, findB, setB, hav, delB, ↓reduceIte, Zj, Zk, Nat.reduceAdd, Nat.reduceLT, Nat.reduceEqDiff, Nat.reduceMul, Nat.reduceLeDiff, if_true, Zn, reduceCtorEq, ZA, eq_self, Int.reduceLE, Int.reduceLT, Int.reduceToNat, ne_eq, Nat.reduceSub, Tld27, hl, hm]
  repeat refine And.intro (by omega) ?_
  repeat refine And.intro (by omega) ?_
  intro g
  simp only [List.map_cons, List.map_nil, updL, upd, Nat.reduceEqDiff, if_true, if_false, ↓reduceIte]
  refine hK _ _ ?_; clear hK K
  refine Cd.seq ?_
  refine Cd.rs [3, 13] fun K hK => ?_
  simp (maxSteps := 2000000) (disch := first | (simp only [E4, hl, hm] <;> omega) | omega | fail) only [↓E2, E3, bare, bareJ, ↓E0, E1, env0, envN, evOps, evOp, evQs, evQ, evV, setD, pureOp, ev, upd, updL, binW, eqOp, binV, intOp, shOp, boolOp, lenV, hav, delB, eqL, SameI, strOp, ↓reduceIte, Zj, Zk, Nat.reduceAdd, Nat.reduceLT, Nat.reduceEqDiff, Nat.reduceMul, Nat.reduceLeDiff, if_true, Zn, reduceCtorEq, ZA, eq_self, Int.reduceLE, Int.reduceLT, Int.reduceToNat, ne_eq, Nat.reduceSub, Tslce31, hl, hm]
  repeat refine And.intro (by omega) ?_
  repeat refine And.intro (by omega) ?_
  intro g
  simp only [List.map_cons, List.map_nil, updL, upd, Nat.reduceEqDiff, if_true, if_false, ↓reduceIte]
  refine hK _ _ ?_; clear hK K
  refine Cd.condd rfl (fun h2 => ?_) (fun h2 => ?_)
  · refine Cd.rs [2] fun K hK => ?_
    simp (maxSteps := 2000000) (disch := first | (simp only [E4, hl, hm] <;> omega) | omega | fail) only [↓E2, E3, bare, bareJ, ↓E0, E1, env0, envN, evOps, evOp, evQs, evQ, evV, setD, pureOp, ev, upd, updL, hav, delB, ↓reduceIte, Zj, Zk, Nat.reduceAdd, Nat.reduceLT, Nat.reduceEqDiff, Nat.reduceMul, Nat.reduceLeDiff, if_true, Zn, reduceCtorEq, ZA, eq_self, Int.reduceLE, Int.reduceLT, Int.reduceToNat, ne_eq, Nat.reduceSub, hl, hm]
    repeat refine And.intro (by omega) ?_
    repeat refine And.intro (by omega) ?_
    intro g
    simp only [List.map_cons, List.map_nil, updL, upd, Nat.reduceEqDiff, if_true, if_false, ↓reduceIte]
    refine hK _ _ ?_; clear hK K
    refine Cd.ret (thenR ?_)
    simp (maxSteps := 2000000) (disch := first | (simp only [E4, hl, hm] <;> omega) | omega | fail) only [↓E2, E3, bare, bareJ, ↓E0, E1, evP, evPlan, env0, envN, evOps, evOp, evQs, evQ, evV, setD, pureOp, ev, upd, updL, gate, binW, eqOp, binV, intOp, shOp, boolOp, unV, convV, nilV, fieldAddrV, indexAddrV, extractV, cellAt, cellsAt, findB, setB, fillL, buildV, Value.cells, lenV, minV, maxV, hav, sliceV, loV, hiV, bslQ, mksQ, appQ, partsOk, partsCells, delB, eqL, SameI, strOp, apzQ, cvtQ, capV, ↓reduceIte, Zj, Zk, Nat.reduceAdd, Nat.reduceLT, Nat.reduceEqDiff, Nat.reduceMul, Nat.reduceLeDiff, if_true, Zn, reduceCtorEq, ZA, eq_self, Int.reduceLE, Int.reduceLT, Int.reduceToNat, ne_eq, Nat.reduceSub, hl, hm]
    repeat refine And.intro (by omega) ?_
    refine congrArg (Value.int .i64) ?_
    unfold arfN
    rw [if_pos (by omega)]
  · rcases hs' with ⟨e, _, _⟩ | ⟨bo, mo, co, cs, e, rfl, hr⟩
    · have := congrArg List.length e
      rw [ints_length] at this
      simp only [List.length_nil] at this
      omega
    · cases e
      have e1 : (b1 = bo) = False := eq_false ((nodup_cases nd2).1 (bo, cs) (hin _ (by simp)))
      have fq := findB_of (nodup_cases nd2).2 (b := bo) (cs := cs) (hin _ (by simp))
      have g1 := hr.get (ints_get (k := .i64) (l := out) (i := 1) (by omega))
      have ha := and_one (out.getD 1 0)
      refine Cd.skip ?_
      refine thenN ?_
      skip
      refine Cd.rs [2] fun K hK => ?_
      simp (maxSteps := 2000000) (disch := first | (simp only [E4, hl, hm, e1, fq, g1, ha] <;> omega) | omega | fail) only [↓E2, E3, bare, bareJ, ↓E0, E1, env0, envN, evOps, evOp, evQs, evQ, evV, setD, pureOp, ev, upd, updL, binW, eqOp, binV, intOp, shOp, boolOp, indexAddrV, cellAt, cellsAt, findB, hav, delB, eqL, SameI, strOp, ↓reduceIte, Zj, Zk, Nat.reduceAdd, Nat.reduceLT, Nat.reduceEqDiff, Nat.reduceMul, Nat.reduceLeDiff, if_true, Zn, reduceCtorEq, ZA, eq_self, Int.reduceLE, Int.reduceLT, Int.reduceToNat, ne_eq, Nat.reduceSub, Tld2, Tslc31, hl, hm, e1, fq, g1, ha]
      repeat refine And.intro (by omega) ?_
      repeat refine And.intro (by omega) ?_
      intro g
      simp only [List.map_cons, List.map_nil, updL, upd, Nat.reduceEqDiff, if_true, if_false, ↓reduceIte]
      refine hK _ _ ?_; clear hK K
      refine Cd.ret ?_
      simp (maxSteps := 2000000) (disch := first | (simp only [E4, hl, hm, e1, fq, g1, ha] <;> omega) | omega | fail) only [↓E2, E3, bare, bareJ, ↓E0, E1, evP, evPlan, env0, envN, evOps, evOp, evQs, evQ, evV, setD, pureOp, ev, upd, updL, gate, binW, eqOp, binV, intOp, shOp, boolOp, unV, convV, nilV, fieldAddrV, indexAddrV, extractV, cellAt, cellsAt, findB, setB, fillL, buildV, Value.cells, lenV, minV, maxV, hav, sliceV, loV, hiV, bslQ, mksQ, appQ, partsOk, partsCells, delB, eqL, SameI, strOp, apzQ, cvtQ, capV, ↓reduceIte, Zj, Zk, Nat.reduceAdd, Nat.reduceLT, Nat.reduceEqDiff, Nat.reduceMul, Nat.reduceLeDiff, if_true, Zn, reduceCtorEq, ZA, eq_self, Int.reduceLE, Int.reduceLT, Int.reduceToNat, ne_eq, Nat.reduceSub, hl, hm, e1, fq, g1, ha]
      repeat refine And.intro (by omega) ?_
      refine congrArg (Value.int .i64) ?_
      unfold arfN
      rw [if_neg (by omega)]
end
section
variable (s : Int) (x o : List Int) (hx : Bytes8 x) (ho : Bytes8 o)
include hx ho
theorem iArf_c : Gives Try.prog 7 #[.agg (gc s x o).toArray] (knotI s x o (arfV s.toNat x o)) := by
  have hl := hx.len
  have hm := ho.len
  obtain ⟨v, c, hR⟩ := arf_shape s x o hx ho
  have hW := knottedInt_c s x o hx ho 15 (arfV s.toNat x o) fun hk => by
    obtain ⟨hg, hkb⟩ := knotC_zero.1 hk
    have ha := knot_al hx ho hg hkb
    obtain ⟨n, rfl, hn2, hn⟩ := gridB_s hg
    rw [Int.toNat_natCast] at ha ⊢
    exact ArfOf1_c n x o hx ho hn hn2 ha
  rw [hR] at hW ⊢
  skip
  refine Gives.of fun w => ?_
  refine acall_of (N := 8) (c := _) (rs := [.tmp 2, .tmp 3]) (args := [_]) Try.func7 rfl (by decide) rfl rfl (Nat.le_of_ble_eq_true rfl) ?_
  refine Cd.rs [1] fun K hK => ?_
  simp (maxSteps := 2000000) (disch := first | (simp only [E4, hl, hm] <;> omega) | omega | fail) only [↓E2, E3, bare, bareJ, ↓E0, E1, env0, envN, evOps, evOp, evQs, evQ, evV, setD, pureOp, ev, upd, updL, Value.cells, hav, delB, ↓reduceIte, Zj, Zk, Nat.reduceAdd, Nat.reduceLT, Nat.reduceEqDiff, Nat.reduceMul, Nat.reduceLeDiff, if_true, Zn, reduceCtorEq, ZA, eq_self, Int.reduceLE, Int.reduceLT, Int.reduceToNat, ne_eq, Nat.reduceSub, hl, hm]
  repeat refine And.intro (by omega) ?_
  intro b1 hb1
  try simp (maxSteps := 2000000) (disch := first | (simp only [E4, hl, hm] <;> omega) | omega | fail) only [↓E2, E3, bare, bareJ, ↓E0, E1, env0, envN, evOps, evOp, evQs, evQ, evV, setD, pureOp, ev, upd, updL, Value.cells, hav, delB, ↓reduceIte, Zj, Zk, Nat.reduceAdd, Nat.reduceLT, Nat.reduceEqDiff, Nat.reduceMul, Nat.reduceLeDiff, if_true, Zn, reduceCtorEq, ZA, eq_self, Int.reduceLE, Int.reduceLT, Int.reduceToNat, ne_eq, Nat.reduceSub, hl, hm]
  repeat refine And.intro (by omega) ?_
  repeat refine And.intro (by omega) ?_
  intro g
  simp only [List.map_cons, List.map_nil, updL, upd, Nat.reduceEqDiff, if_true, if_false, ↓reduceIte]
  refine hK _ _ ?_; clear hK K
  refine Cd.rs [2, 3] fun K hK => ?_
  simp (maxSteps := 2000000) (disch := first | (simp only [E4, hl, hm] <;> omega) | omega | fail) only [↓E2, E3, bare, bareJ, ↓E0, E1, env0, envN, evOps, evOp, evQs, evQ, evV, setD, pureOp, ev, upd, updL, extractV, cellAt, cellsAt, findB, setB, hav, delB, ↓reduceIte, Zj, Zk, Nat.reduceAdd, Nat.reduceLT, Nat.reduceEqDiff, Nat.reduceMul, Nat.reduceLeDiff, if_true, Zn, reduceCtorEq, ZA, eq_self, Int.reduceLE, Int.reduceLT, Int.reduceToNat, ne_eq, Nat.reduceSub, Tld27, hl, hm]
  repeat refine And.intro (by omega) ?_
  refine callK_gives hW ?_
  simp (maxSteps := 2000000) (disch := first | (simp only [E4, hl, hm] <;> omega) | omega | fail) only [↓E2, E3, bare, bareJ, ↓E0, E1, env0, envN, evOps, evOp, evQs, evQ, evV, setD, pureOp, ev, upd, updL, extractV, cellAt, cellsAt, findB, setB, hav, delB, ↓reduceIte, Zj, Zk, Nat.reduceAdd, Nat.reduceLT, Nat.reduceEqDiff, Nat.reduceMul, Nat.reduceLeDiff, if_true, Zn, reduceCtorEq, ZA, eq_self, Int.reduceLE, Int.reduceLT, Int.reduceToNat, ne_eq, Nat.reduceSub, Tld27, hl, hm]
  repeat refine And.intro (by omega) ?_
  repeat refine And.intro (by omega) ?_
  intro g
  simp only [List.map_cons, List.map_nil, updL, upd, Nat.reduceEqDiff, if_true, if_false, ↓reduceIte]
  refine hK _ _ ?_; clear hK K
  refine Cd.ret ?_
  simp (maxSteps := 2000000) (disch := first | (simp only [E4, hl, hm] <;> omega) | omega | fail) only [↓E2, E3, bare, bareJ, ↓E0, E1, evP, evPlan, env0, envN, evOps, evOp, evQs, evQ, evV, setD, pureOp, ev, upd, updL, gate, binW, eqOp, binV, intOp, shOp, boolOp, unV, convV, nilV, fieldAddrV, indexAddrV, extractV, cellAt, cellsAt, findB, setB, fillL, buildV, Value.cells, lenV, minV, maxV, hav, sliceV, loV, hiV, bslQ, mksQ, appQ, partsOk, partsCells, delB, eqL, SameI, strOp, apzQ, cvtQ, capV, ↓reduceIte, Zj, Zk, Nat.reduceAdd, Nat.reduceLT, Nat.reduceEqDiff, Nat.reduceMul, Nat.reduceLeDiff, if_true, Zn, reduceCtorEq, ZA, eq_self, Int.reduceLE, Int.reduceLT, Int.reduceToNat, ne_eq, Nat.reduceSub, hl, hm]
  repeat refine And.intro (by omega) ?_
theorem sArf_c : Gives Try.prog 5 #[.agg (gc s x o).toArray] (knotI s x o (arfV s.toNat x o)) := by
  have hl := hx.len
  have hm := ho.len
  skip
  refine Gives.of fun w => ?_
  refine acall_of (N := 27) (c := _) (rs := [.tmp 2, .tmp 3]) (args := [_]) Try.func5 rfl (by decide) rfl rfl (Nat.le_of_ble_eq_true rfl) ?_
  refine Cd.rs [1] fun K hK => ?_
  simp (maxSteps := 2000000) (disch := first | (simp only [E4, hl, hm] <;> omega) | omega | fail) only [↓E2, E3, bare, bareJ, ↓E0, E1, env0, envN, evOps, evOp, evQs, evQ, evV, setD, pureOp, ev, upd, updL, Value.cells, hav, delB, ↓reduceIte, Zj, Zk, Nat.reduceAdd, Nat.reduceLT, Nat.reduceEqDiff, Nat.reduceMul, Nat.reduceLeDiff, if_true, Zn, reduceCtorEq, ZA, eq_self, Int.reduceLE, Int.reduceLT, Int.reduceToNat, ne_eq, Nat.reduceSub, hl, hm]
  repeat refine And.intro (by omega) ?_
  intro b1 hb1
  try simp (maxSteps := 2000000) (disch := first | (simp only [E4, hl, hm] <;> omega) | omega | fail) only [↓E2, E3, bare, bareJ, ↓E0, E1, env0, envN, evOps, evOp, evQs, evQ, evV, setD, pureOp, ev, upd, updL, Value.cells, hav, delB, ↓reduceIte, Zj, Zk, Nat.reduceAdd, Nat.reduceLT, Nat.reduceEqDiff, Nat.reduceMul, Nat.reduceLeDiff, if_true, Zn, reduceCtorEq, ZA, eq_self, Int.reduceLE, Int.reduceLT, Int.reduceToNat, ne_eq, Nat.reduceSub, hl, hm]
  repeat refine And.intro (by omega) ?_
  repeat refine And.intro (by omega) ?_
  intro g
  simp only [List.map_cons, List.map_nil, updL, upd, Nat.reduceEqDiff, if_true, if_false, ↓reduceIte]
  refine hK _ _ ?_; clear hK K
  refine Cd.seq ?_
  refine Cd.rs [1, 4] fun K hK => ?_
  simp (maxSteps := 2000000) (disch := first | (simp only [E4, hl, hm] <;> omega) | omega | fail) only [↓E2, E3, bare, bareJ, ↓E0, E1, env0, envN, evOps, evOp, evQs, evQ, evV, setD, pureOp, ev, upd, updL, cellAt, cellsAt, findB, setB, hav, delB, ↓reduceIte, Zj, Zk, Nat.reduceAdd, Nat.reduceLT, Nat.reduceEqDiff, Nat.reduceMul, Nat.reduceLeDiff, if_true, Zn, reduceCtorEq, ZA, eq_self, Int.reduceLE, Int.reduceLT, Int.reduceToNat, ne_eq, Nat.reduceSub, Tld27, hl, hm]
  repeat refine And.intro (by omega) ?_
  refine callK_gives (l04Knot_c s x o hx ho) ?_
  simp (maxSteps := 2000000) (disch := first | (simp only [E4, hl, hm] <;> omega) | omega | fail) only [↓E2, E3, bare, bareJ, ↓E0, E1, env0, envN, evOps, evOp, evQs, evQ, evV, setD, pureOp, ev, upd, updL, cellAt, cellsAt, findB, setB, hav, delB, ↓reduceIte, Zj, Zk, Nat.reduceAdd, Nat.reduceLT, Nat.reduceEqDiff, Nat.reduceMul, Nat.reduceLeDiff, if_true, Zn, reduceCtorEq, ZA, eq_self, Int.reduceLE, Int.reduceLT, Int.reduceToNat, ne_eq, Nat.reduceSub, Tld27, hl, hm]
  repeat refine And.intro (by omega) ?_
  repeat refine And.intro (by omega) ?_
  intro g
  simp only [List.map_cons, List.map_nil, updL, upd, Nat.reduceEqDiff, if_true, if_false, ↓reduceIte]
  refine hK _ _ ?_; clear hK K
  refine Cd.rs [1, 4, 10] fun K hK => ?_
  simp (maxSteps := 2000000) (disch := first | (simp only [E4, hl, hm] <;> omega) | omega | fail) only [↓E2, E3, bare, bareJ, ↓E0, E1, env0, envN, evOps, evOp, evQs, evQ, evV, setD, pureOp, ev, upd, updL, binW, eqOp, binV, intOp, shOp, boolOp, hav, delB, eqL, SameI, strOp, ↓reduceIte, Zj, Zk, Nat.reduceAdd, Nat.reduceLT, Nat.reduceEqDiff, Nat.reduceMul, Nat.reduceLeDiff, if_true, Zn, reduceCtorEq, ZA, eq_self, Int.reduceLE, Int.reduceLT, Int.reduceToNat, ne_eq, Nat.reduceSub, hl, hm]
  repeat refine And.intro (by omega) ?_
  repeat refine And.intro (by omega) ?_
  intro g
  simp only [List.map_cons, List.map_nil, updL, upd, Nat.reduceEqDiff, if_true, if_false, ↓reduceIte]
  refine hK _ _ ?_; clear hK K
  refine Cd.cond rfl (fun h1 => ?_) (fun h1 => ?_)
  · simp only [decide_eq_true_eq, decide_eq_false_iff_not, beq_iff_eq, beq_eq_false_iff_ne, bne_iff_ne, bne_eq_false_iff_eq, Bool.and_eq_true, Bool.or_eq_true, Bool.or_eq_false_iff, Bool.not_eq_true', Bool.not_eq_false', Bool.and_eq_false_imp, ne_eq, gt_iff_lt, ge_iff_le, Int.not_lt, Int.not_le, Classical.not_not] at h1
    rw [knotI_no h1]
    refine Cd.rs [2, 3] fun K hK => ?_
    simp (maxSteps := 2000000) (disch := first | (simp only [E4, hl, hm] <;> omega) | omega | fail) only [↓E2, E3, bare, bareJ, ↓E0, E1, env0, envN, evOps, evOp, evQs, evQ, evV, setD, pureOp, ev, upd, updL, hav, delB, ↓reduceIte, Zj, Zk, Nat.reduceAdd, Nat.reduceLT, Nat.reduceEqDiff, Nat.reduceMul, Nat.reduceLeDiff, if_true, Zn, reduceCtorEq, ZA, eq_self, Int.reduceLE, Int.reduceLT, Int.reduceToNat, ne_eq, Nat.reduceSub, hl, hm]
    repeat refine And.intro (by omega) ?_
    repeat refine And.intro (by omega) ?_
    intro g
    simp only [List.map_cons, List.map_nil, updL, upd, Nat.reduceEqDiff, if_true, if_false, ↓reduceIte]
    refine hK _ _ ?_; clear hK K
    refine Cd.ret (thenR ?_)
    simp (maxSteps := 2000000) (disch := first | (simp only [E4, hl, hm] <;> omega) | omega | fail) only [↓E2, E3, bare, bareJ, ↓E0, E1, evP, evPlan, env0, envN, evOps, evOp, evQs, evQ, evV, setD, pureOp, ev, upd, updL, gate, binW, eqOp, binV, intOp, shOp, boolOp, unV, convV, nilV, fieldAddrV, indexAddrV, extractV, cellAt, cellsAt, findB, setB, fillL, buildV, Value.cells, lenV, minV, maxV, hav, sliceV, loV, hiV, bslQ, mksQ, appQ, partsOk, partsCells, delB, eqL, SameI, strOp, apzQ, cvtQ, capV, ↓reduceIte, Zj, Zk, Nat.reduceAdd, Nat.reduceLT, Nat.reduceEqDiff, Nat.reduceMul, Nat.reduceLeDiff, if_true, Zn, reduceCtorEq, ZA, eq_self, Int.reduceLE, Int.reduceLT, Int.reduceToNat, ne_eq, Nat.reduceSub, hl, hm]
    repeat refine And.intro (by omega) ?_
  · simp only [decide_eq_true_eq, decide_eq_false_iff_not, beq_iff_eq, beq_eq_false_iff_ne, bne_iff_ne, bne_eq_false_iff_eq, Bool.and_eq_true, Bool.or_eq_true, Bool.or_eq_false_iff, Bool.not_eq_true', Bool.not_eq_false', Bool.and_eq_false_imp, ne_eq, gt_iff_lt, ge_iff_le, Int.not_lt, Int.not_le, Classical.not_not] at h1
    obtain ⟨hg, hkb⟩ := knotC_zero.1 h1
    have hal := knot_al hx ho hg hkb
    rw [knotI_yes h1]
    obtain ⟨n, rfl, hn2, hn⟩ := gridB_s hg
    rw [Int.toNat_natCast] at hal ⊢
    obtain ⟨d, hd, hl1, hrev⟩ := hal
    have hok := alL_ok x o hn
    have hlo := loL_odd hl1
    obtain ⟨hsy, hcon⟩ := con_knot hok hlo hd hl1 hrev
    obtain ⟨d', z1, z2, z3, z4, z5, z6⟩ := sym_core hok hsy (by omega)
    have hlen := conAns_len (loL (alL n x o)) (alL n x o)
    have hA : (conAns (loL (alL n x o)) (alL n x o)).1 = arfO n x o := rfl
    have hV : arfV n x o = arfN (arfO n x o) := rfl
    rw [hV]
    rw [hA] at hlen
    have hO : (conOut (conCore (loL (alL n x o)) (alL n x o))).1 = arfO n x o := by rw [← hcon]; rfl
    refine Cd.skip ?_
    refine thenN ?_
    refine Cd.rs [5] fun K hK => ?_
    simp (maxSteps := 2000000) (disch := first | (simp only [E4, hl, hm] <;> omega) | omega | fail) only [↓E2, E3, bare, bareJ, ↓E0, E1, env0, envN, evOps, evOp, evQs, evQ, evV, setD, pureOp, ev, upd, updL, extractV, cellAt, cellsAt, findB, setB, hav, delB, ↓reduceIte, Zj, Zk, Nat.reduceAdd, Nat.reduceLT, Nat.reduceEqDiff, Nat.reduceMul, Nat.reduceLeDiff, if_true, Zn, reduceCtorEq, ZA, eq_self, Int.reduceLE, Int.reduceLT, Int.reduceToNat, ne_eq, Nat.reduceSub, Tld27, hl, hm]
    repeat refine And.intro (by omega) ?_
    refine callK_newR0 (l04Alexander_c n x o hx ho hn hn2) (fun _ _ => toldW_nil) ?_
    intro v' M' hv' nd' _
    simp only [List.cons_append, List.nil_append] at nd' ⊢
    have hcall := l04Conway_c d' (by omega) ((alL n x o).drop d') z3 z4 z5 v' M' (by rw [← z1, ← z2]; exact hv')
    rw [← z6] at hcall
    simp (maxSteps := 2000000) (disch := first | (simp only [E4, hl, hm] <;> omega) | omega | fail) only [↓E2, E3, bare, bareJ, ↓E0, E1, env0, envN, evOps, evOp, evQs, evQ, evV, setD, pureOp, ev, upd, updL, extractV, cellAt, cellsAt, findB, setB, hav, delB, ↓reduceIte, Zj, Zk, Nat.reduceAdd, Nat.reduceLT, Nat.reduceEqDiff, Nat.reduceMul, Nat.reduceLeDiff, if_true, Zn, reduceCtorEq, ZA, eq_self, Int.reduceLE, Int.reduceLT, Int.reduceToNat, ne_eq, Nat.reduceSub, Tld27, hl, hm]
    repeat refine And.intro (by omega) ?_
    refine callK_lentB0 (Mr := [(b1, gc (n : Int) x o)]) hcall nd' rfl (fun w _ => toldW_nil) ?_
    intro r M2 hr2 nd2 _
    obtain ⟨s', Mo, c, rfl, hs', hMo⟩ : ∃ s' Mo c, r = .tuple #[s', .bool c] ∧ SlN 1 (ints .i64 (arfO n x o)) s' Mo ∧ ∀ p ∈ Mo, p ∈ M2 := by
      obtain ⟨_, hcase⟩ := hr2
      rw [← hO]
      cases hc : conCore (loL (alL n x o)) (alL n x o) with
      | none =>
        rw [hc] at hcase
        exact ⟨_, [], _, hcase, SlN.nil 1, fun p hp => nomatch hp⟩
      | some out =>
        rw [hc] at hcase
        obtain ⟨s, Mo, e, hso, hMo, _⟩ := hcase
        exact ⟨s, Mo, _, e, hso, hMo⟩
    obtain ⟨a', m', c', rfl⟩ := hs'.form
    obtain rfl := hs'.len1
    clear hr2 hcall hcon hA hV hO
    generalize arfO n x o = out at *
    simp only [List.cons_append, List.nil_append] at nd2 ⊢
    simp (maxSteps := 2000000) (disch := first | (simp only [E4, hl, hm] <;> omega) | omega | fail) only [↓E2, E3, bare, bareJ, ↓E0, E1, env0, envN, evOps, evOp, evQs, evQ, evV, setD, pureOp, ev, upd, updL, extractV, cellAt, cellsAt, findB, setB, hav, delB, ↓reduceIte, Zj, Zk, Nat.reduceAdd, Nat.reduceLT, Nat.reduceEqDiff, Nat.reduceMul, Nat.reduceLeDiff, if_true, Zn, reduceCtorEq, ZA, eq_self, Int.reduceLE, Int.reduceLT, Int.reduceToNat, ne_eq, Nat.reduceSub, Tld27, hl, hm]
    repeat refine And.intro (by omega) ?_
    repeat refine And.intro (by omega) ?_
    intro g
    simp only [List.map_cons, List.map_nil, updL, upd, Nat.reduceEqDiff, if_true, if_false, ↓reduceIte]
    refine hK _ _ ?_; clear hK K
    refine Cd.seq ?_
    refine Cd.rs [5, 20] fun K hK => ?_
    simp (maxSteps := 2000000) (disch := first | (simp only [E4, hl, hm] <;> omega) | omega | fail) only [↓E2, E3, bare, bareJ, ↓E0, E1, env0, envN, evOps, evOp, evQs, evQ, evV, setD, pureOp, ev, upd, updL, binW, eqOp, binV, intOp, shOp, boolOp, lenV, hav, delB, eqL, SameI, strOp, ↓reduceIte, Zj, Zk, Nat.reduceAdd, Nat.reduceLT, Nat.reduceEqDiff, Nat.reduceMul, Nat.reduceLeDiff, if_true, Zn, reduceCtorEq, ZA, eq_self, Int.reduceLE, Int.reduceLT, Int.reduceToNat, ne_eq, Nat.reduceSub, Tslce31, hl, hm]
    repeat refine And.intro (by omega) ?_
    repeat refine And.intro (by omega) ?_
    intro g
    simp only [List.map_cons, List.map_nil, updL, upd, Nat.reduceEqDiff, if_true, if_false, ↓reduceIte]
    refine hK _ _ ?_; clear hK K
    refine Cd.condd rfl (fun h2 => ?_) (fun h2 => ?_)
    · refine Cd.rs [2, 3] fun K hK => ?_
      simp (maxSteps := 2000000) (disch := first | (simp only [E4, hl, hm] <;> omega) | omega | fail) only [↓E2, E3, bare, bareJ, ↓E0, E1, env0, envN, evOps, evOp, evQs, evQ, evV, setD, pureOp, ev, upd, updL, hav, delB, ↓reduceIte, Zj, Zk, Nat.reduceAdd, Nat.reduceLT, Nat.reduceEqDiff, Nat.reduceMul, Nat.reduceLeDiff, if_true, Zn, reduceCtorEq, ZA, eq_self, Int.reduceLE, Int.reduceLT, Int.reduceToNat, ne_eq, Nat.reduceSub, hl, hm]
      repeat refine And.intro (by omega) ?_
      repeat refine And.intro (by omega) ?_
      intro g
      simp only [List.map_cons, List.map_nil, updL, upd, Nat.reduceEqDiff, if_true, if_false, ↓reduceIte]
      refine hK _ _ ?_; clear hK K
      refine Cd.ret (thenR ?_)
      simp (maxSteps := 2000000) (disch := first | (simp only [E4, hl, hm] <;> omega) | omega | fail) only [↓E2, E3, bare, bareJ, ↓E0, E1, evP, evPlan, env0, envN, evOps, evOp, evQs, evQ, evV, setD, pureOp, ev, upd, updL, gate, binW, eqOp, binV, intOp, shOp, boolOp, unV, convV, nilV, fieldAddrV, indexAddrV, extractV, cellAt, cellsAt, findB, setB, fillL, buildV, Value.cells, lenV, minV, maxV, hav, sliceV, loV, hiV, bslQ, mksQ, appQ, partsOk, partsCells, delB, eqL, SameI, strOp, apzQ, cvtQ, capV, ↓reduceIte, Zj, Zk, Nat.reduceAdd, Nat.reduceLT, Nat.reduceEqDiff, Nat.reduceMul, Nat.reduceLeDiff, if_true, Zn, reduceCtorEq, ZA, eq_self, Int.reduceLE, Int.reduceLT, Int.reduceToNat, ne_eq, Nat.reduceSub, hl, hm]
      repeat refine And.intro (by omega) ?_
      unfold arfN
      rw [if_pos (by omega)]
    · rcases hs' with ⟨e, _, _⟩ | ⟨bo, mo, co, cs, e, rfl, hr⟩
      · have := congrArg List.length e
        rw [ints_length] at this
        simp only [List.length_nil] at this
        omega
      · cases e
        have e1 : (b1 = bo) = False := eq_false ((nodup_cases nd2).1 (bo, cs) (hMo _ (by simp)))
        have fq := findB_of (nodup_cases nd2).2 (b := bo) (cs := cs) (hMo _ (by simp))
        have g1 := hr.get (ints_get (k := .i64) (l := out) (i := 1) (by omega))
        obtain ⟨y, y1, y2, y3, y4⟩ := rem_two (out.getD 1 0)
        refine Cd.skip ?_
        refine thenN ?_
        skip
        refine Cd.rs [2, 3] fun K hK => ?_
        simp (maxSteps := 2000000) (disch := first | (simp only [E4, hl, hm, e1, fq, g1, y1, y4] <;> omega) | omega | fail) only [↓E2, E3, bare, bareJ, ↓E0, E1, env0, envN, evOps, evOp, evQs, evQ, evV, setD, pureOp, ev, upd, updL, binW, eqOp, binV, intOp, shOp, boolOp, indexAddrV, cellAt, cellsAt, findB, hav, delB, eqL, SameI, strOp, ↓reduceIte, Zj, Zk, Nat.reduceAdd, Nat.reduceLT, Nat.reduceEqDiff, Nat.reduceMul, Nat.reduceLeDiff, if_true, Zn, reduceCtorEq, ZA, eq_self, Int.reduceLE, Int.reduceLT, Int.reduceToNat, ne_eq, Nat.reduceSub, Tld2, Tslc31, hl, hm, e1, fq, g1, y1, y4]
        repeat refine And.intro (by omega) ?_
        repeat refine And.intro (by omega) ?_
        intro g
        simp only [List.map_cons, List.map_nil, updL, upd, Nat.reduceEqDiff, if_true, if_false, ↓reduceIte]
        refine hK _ _ ?_; clear hK K
        refine Cd.ret ?_
        simp (maxSteps := 2000000) (disch := first | (simp only [E4, hl, hm, e1, fq, g1, y1, y4] <;> omega) | omega | fail) only [↓E2, E3, bare, bareJ, ↓E0, E1, evP, evPlan, env0, envN, evOps, evOp, evQs, evQ, evV, setD, pureOp, ev, upd, updL, gate, binW, eqOp, binV, intOp, shOp, boolOp, unV, convV, nilV, fieldAddrV, indexAddrV, extractV, cellAt, cellsAt, findB, setB, fillL, buildV, Value.cells, lenV, minV, maxV, hav, sliceV, loV, hiV, bslQ, mksQ, appQ, partsOk, partsCells, delB, eqL, SameI, strOp, apzQ, cvtQ, capV, ↓reduceIte, Zj, Zk, Nat.reduceAdd, Nat.reduceLT, Nat.reduceEqDiff, Nat.reduceMul, Nat.reduceLeDiff, if_true, Zn, reduceCtorEq, ZA, eq_self, Int.reduceLE, Int.reduceLT, Int.reduceToNat, ne_eq, Nat.reduceSub, hl, hm, e1, fq, g1, y1, y4]
        repeat refine And.intro (by omega) ?_
        unfold arfN
        rw [Int.tmod_eq_emod_of_nonneg (by omega)] at y4
        rw [if_neg (by omega), y4]
end

end Go.Proofs

/-
  What the functions of this part hand back: each as a plain function of its arguments. Conditions: none.
-/
namespace Go.Proofs
open Go.W8
set_option linter.unusedVariables false
set_option linter.unusedSimpArgs false
set_option linter.unusedSectionVars false
set_option maxRecDepth 8000
set_option maxHeartbeats 4000000
theorem lawArfOf_c (s0 : Int) (x0 o0 : List Int) (w0 : -9223372036854775808 ≤ s0 ∧ s0 < 9223372036854775808) (y0 : Bytes8 x0) (z0 : Bytes8 o0) : Gives Try.prog 3 #[.agg (gc s0 x0 o0).toArray] (.bool true) := by
  have hl0 := y0.len
  have hm0 := z0.len
  skip
  have hS := sArf_c s0 x0 o0 y0 z0
  have hI := iArf_c s0 x0 o0 y0 z0
  obtain ⟨v, c, hR⟩ := arf_shape s0 x0 o0 y0 z0
  rw [hR] at hS hI
  refine Gives.of fun w => ?_
  refine acall_of (N := 27) (c := _) (rs := [.tmp 2]) (args := [_]) Try.func3 rfl (by decide) rfl rfl (Nat.le_of_ble_eq_true rfl) ?_
  refine Cd.rs [1] fun K hK => ?_
  simp (maxSteps := 2000000) (disch := first | omega | (simp only [E4, hl0, hm0, *] <;> omega) | fail) only [↓E0, E1, env0, envN, evOps, evOp, evQs, evQ, evV, setD, pureOp, ev, upd, updL, Value.cells, hav, delB, ↓reduceIte, Zj, Zk, Nat.reduceAdd, Nat.reduceLT, Nat.reduceEqDiff, Nat.reduceMul, Nat.reduceLeDiff, if_true, Zn, reduceCtorEq, ZA, eq_self, Int.reduceLE, Int.reduceLT, Int.reduceToNat, ne_eq, Nat.reduceSub, hl0, hm0]
  intro b1 hb1
  try simp (maxSteps := 2000000) (disch := first | omega | (simp only [E4, hl0, hm0, *] <;> omega) | fail) only [↓E0, E1, env0, envN, evOps, evOp, evQs, evQ, evV, setD, pureOp, ev, upd, updL, Value.cells, hav, delB, ↓reduceIte, Zj, Zk, Nat.reduceAdd, Nat.reduceLT, Nat.reduceEqDiff, Nat.reduceMul, Nat.reduceLeDiff, if_true, Zn, reduceCtorEq, ZA, eq_self, Int.reduceLE, Int.reduceLT, Int.reduceToNat, ne_eq, Nat.reduceSub, hl0, hm0]
  repeat refine And.intro (by omega) ?_
  intro g
  simp only [List.map_cons, List.map_nil, updL, upd, Nat.reduceEqDiff, if_true, if_false, ↓reduceIte]
  refine hK _ _ ?_; clear hK K
  refine Cd.rs [1, 3, 4] fun K hK => ?_
  simp (maxSteps := 2000000) (disch := first | omega | (simp only [E4, hl0, hm0, *] <;> omega) | fail) only [↓E0, E1, env0, envN, evOps, evOp, evQs, evQ, evV, setD, pureOp, ev, upd, updL, extractV, cellAt, cellsAt, findB, setB, hav, delB, ↓reduceIte, Zj, Zk, Nat.reduceAdd, Nat.reduceLT, Nat.reduceEqDiff, Nat.reduceMul, Nat.reduceLeDiff, if_true, Zn, reduceCtorEq, ZA, eq_self, Int.reduceLE, Int.reduceLT, Int.reduceToNat, ne_eq, Nat.reduceSub, Tld24, hl0, hm0]
  refine callK_gives (toGrid_c _ _ _ hl0 hm0) ?_
  simp (maxSteps := 2000000) (disch := first | omega | (simp only [E4, hl0, hm0, *] <;> omega) | fail) only [↓E0, E1, env0, envN, evOps, evOp, evQs, evQ, evV, setD, pureOp, ev, upd, updL, extractV, cellAt, cellsAt, findB, setB, hav, delB, ↓reduceIte, Zj, Zk, Nat.reduceAdd, Nat.reduceLT, Nat.reduceEqDiff, Nat.reduceMul, Nat.reduceLeDiff, if_true, Zn, reduceCtorEq, ZA, eq_self, Int.reduceLE, Int.reduceLT, Int.reduceToNat, ne_eq, Nat.reduceSub, Tld24, hl0, hm0]
  refine callK_gives hS ?_
  simp (maxSteps := 2000000) (disch := first | omega | (simp only [E4, hl0, hm0, *] <;> omega) | fail) only [↓E0, E1, env0, envN, evOps, evOp, evQs, evQ, evV, setD, pureOp, ev, upd, updL, extractV, cellAt, cellsAt, findB, setB, hav, delB, ↓reduceIte, Zj, Zk, Nat.reduceAdd, Nat.reduceLT, Nat.reduceEqDiff, Nat.reduceMul, Nat.reduceLeDiff, if_true, Zn, reduceCtorEq, ZA, eq_self, Int.reduceLE, Int.reduceLT, Int.reduceToNat, ne_eq, Nat.reduceSub, Tld24, hl0, hm0]
  repeat refine And.intro (by omega) ?_
  intro g
  simp only [List.map_cons, List.map_nil, updL, upd, Nat.reduceEqDiff, if_true, if_false, ↓reduceIte]
  refine hK _ _ ?_; clear hK K
  refine Cd.rs [3, 4, 5, 6] fun K hK => ?_
  simp (maxSteps := 2000000) (disch := first | omega | (simp only [E4, hl0, hm0, *] <;> omega) | fail) only [↓E0, E1, env0, envN, evOps, evOp, evQs, evQ, evV, setD, pureOp, ev, upd, updL, extractV, cellAt, cellsAt, findB, setB, hav, delB, ↓reduceIte, Zj, Zk, Nat.reduceAdd, Nat.reduceLT, Nat.reduceEqDiff, Nat.reduceMul, Nat.reduceLeDiff, if_true, Zn, reduceCtorEq, ZA, eq_self, Int.reduceLE, Int.reduceLT, Int.reduceToNat, ne_eq, Nat.reduceSub, Tld24, hl0, hm0]
  refine callK_gives (toGrid_c _ _ _ hl0 hm0) ?_
  simp (maxSteps := 2000000) (disch := first | omega | (simp only [E4, hl0, hm0, *] <;> omega) | fail) only [↓E0, E1, env0, envN, evOps, evOp, evQs, evQ, evV, setD, pureOp, ev, upd, updL, extractV, cellAt, cellsAt, findB, setB, hav, delB, ↓reduceIte, Zj, Zk, Nat.reduceAdd, Nat.reduceLT, Nat.reduceEqDiff, Nat.reduceMul, Nat.reduceLeDiff, if_true, Zn, reduceCtorEq, ZA, eq_self, Int.reduceLE, Int.reduceLT, Int.reduceToNat, ne_eq, Nat.reduceSub, Tld24, hl0, hm0]
  refine callK_gives hI ?_
  simp (maxSteps := 2000000) (disch := first | omega | (simp only [E4, hl0, hm0, *] <;> omega) | fail) only [↓E0, E1, env0, envN, evOps, evOp, evQs, evQ, evV, setD, pureOp, ev, upd, updL, extractV, cellAt, cellsAt, findB, setB, hav, delB, ↓reduceIte, Zj, Zk, Nat.reduceAdd, Nat.reduceLT, Nat.reduceEqDiff, Nat.reduceMul, Nat.reduceLeDiff, if_true, Zn, reduceCtorEq, ZA, eq_self, Int.reduceLE, Int.reduceLT, Int.reduceToNat, ne_eq, Nat.reduceSub, Tld24, hl0, hm0]
  repeat refine And.intro (by omega) ?_
  intro g
  simp only [List.map_cons, List.map_nil, updL, upd, Nat.reduceEqDiff, if_true, if_false, ↓reduceIte]
  refine hK _ _ ?_; clear hK K
  refine Cd.seq ?_
  refine Cd.rs [26] fun K hK => ?_
  simp (maxSteps := 2000000) (disch := first | omega | (simp only [E4, hl0, hm0, *] <;> omega) | fail) only [↓E0, E1, env0, envN, evOps, evOp, evQs, evQ, evV, setD, pureOp, ev, upd, updL, gate, binW, eqOp, binV, intOp, shOp, boolOp, hav, delB, eqL, SameI, strOp, ↓reduceIte, Zj, Zk, Nat.reduceAdd, Nat.reduceLT, Nat.reduceEqDiff, Nat.reduceMul, Nat.reduceLeDiff, if_true, Zn, reduceCtorEq, ZA, eq_self, Int.reduceLE, Int.reduceLT, Int.reduceToNat, ne_eq, Nat.reduceSub, hl0, hm0]
  repeat refine And.intro (by omega) ?_
  intro g
  simp only [List.map_cons, List.map_nil, updL, upd, Nat.reduceEqDiff, if_true, if_false, ↓reduceIte]
  refine hK _ _ ?_; clear hK K
  refine Cd.no rfl ?_
  refine Cd.skip ?_
  refine thenN ?_
  refine Cd.rs [2] fun K hK => ?_
  simp (maxSteps := 2000000) (disch := first | omega | (simp only [E4, hl0, hm0, *] <;> omega) | fail) only [↓E0, E1, env0, envN, evOps, evOp, evQs, evQ, evV, setD, pureOp, ev, upd, updL, hav, delB, ↓reduceIte, Zj, Zk, Nat.reduceAdd, Nat.reduceLT, Nat.reduceEqDiff, Nat.reduceMul, Nat.reduceLeDiff, if_true, Zn, reduceCtorEq, ZA, eq_self, Int.reduceLE, Int.reduceLT, Int.reduceToNat, ne_eq, Nat.reduceSub, hl0, hm0]
  repeat refine And.intro (by omega) ?_
  intro g
  simp only [List.map_cons, List.map_nil, updL, upd, Nat.reduceEqDiff, if_true, if_false, ↓reduceIte]
  refine hK _ _ ?_; clear hK K
  refine Cd.ret ?_
  simp (maxSteps := 2000000) (disch := first | omega | (simp only [E4, hl0, hm0, *] <;> omega) | fail) only [↓E0, E1, evP, evPlan, env0, envN, evOps, evOp, evQs, evQ, evV, setD, pureOp, ev, upd, updL, gate, binW, eqOp, binV, intOp, shOp, boolOp, unV, convV, nilV, fieldAddrV, indexAddrV, extractV, cellAt, cellsAt, findB, setB, fillL, buildV, Value.cells, lenV, minV, maxV, hav, sliceV, loV, hiV, bslQ, mksQ, appQ, partsOk, partsCells, delB, eqL, SameI, strOp, apzQ, cvtQ, capV, ↓reduceIte, Zj, Zk, Nat.reduceAdd, Nat.reduceLT, Nat.reduceEqDiff, Nat.reduceMul, Nat.reduceLeDiff, if_true, Zn, reduceCtorEq, ZA, eq_self, Int.reduceLE, Int.reduceLT, Int.reduceToNat, ne_eq, Nat.reduceSub, hl0, hm0]


end Go.Proofs

/-
  What the functions of this part hand back: each as a plain function of its arguments. Conditions: none.
-/
namespace Go.Proofs
open Go.W8
set_option linter.unusedVariables false
set_option linter.unusedSimpArgs false
set_option linter.unusedSectionVars false
set_option maxRecDepth 8000
set_option maxHeartbeats 4000000
--@plain
open Go.ChangeShapes Go.WideShapes Go.ChangeAt Go.RowKit in
/-- A law that hands back a value of numbers and truths and leaves what was there as it was meets its row's postcondition. -/
theorem post_own {H : Type} {enc : TypeId × Value → H} {P : Program} {f : Func} {s : ChangeSpec} {apart fresh handsOn again : Bool} {w w' : World} {args : Array Value} {v : Value} {ds gs : List (DataW H)} {before pa pv : List MemPlace}
    (hW : DataW.Whole enc P f.params.toList s.vars apart w args.toList ds gs before)
    (hres : ∀ (b : Nat) (sp : Nat → Bool) (hd : Bool), DataW.TrodAll enc P w' b sp hd f.resultTypes.toList (v.resultList f.resultTypes.size) (s.fn H (ds ++ gs)).results [])
    (hargs : ∀ sp : Nat → Bool, (∀ p ∈ before, sp p.block = true) → DataW.TrodAll enc P w' 0 sp true f.params.toList args.toList (s.fn H (ds ++ gs)).args pa)
    (hvars : ∀ sp : Nat → Bool, (∀ p ∈ before, sp p.block = true) → DataW.TrodVars enc P w' sp s.vars (s.fn H (ds ++ gs)).vars pv)
    (hps : before = pa ++ pv) (ho : Own [] w [] w')
    (hok : ∀ (j : Nat) (t : TypeId) (r : Value), f.resultTypes[j]? = some t → (v.resultList f.resultTypes.size)[j]? = some r → Value.okWide P w' .any 0 t r) :
    s.post enc P f apart fresh handsOn again w args v w' := by
  have hb : Below w.heap.size w w' := ⟨ho.os, ho.tape, ho.output, ho.size, fun k hk => ho.frame k hk (by simp)⟩
  have old : ∀ p ∈ before, p.block < w.heap.size := fun p hp => hW.lt p hp
  have told : ∀ p ∈ before, (fun b => decide (b < w.heap.size)) p.block = true := fun p hp => decide_eq_true (old p hp)
  refine ⟨ds, gs, before, [], pa, pv, hW, hres _ _ _, hargs _ told, hvars _ told, ?_, fun _ => ?_⟩
  · exact World.keptBut_mono (fun p hp => ⟨hp, by
      rw [hps] at hp
      exact List.mem_append.1 hp |>.elim (fun h => by simp [h]) (fun h => by simp [h])⟩) (hb.frame (· ∈ before))
  · obtain ⟨_, _, _, _, _, hz, hn⟩ := hW
    refine ⟨hok, _, _, ([] ++ pa) ++ pv, ⟨[] ++ pa, pv, trodAll_append (hargs _ (fun _ _ => rfl)) (hres _ _ _), hvars _ (fun _ _ => rfl), rfl, fun b off hp => ?_, fun ha => ?_⟩, fun p hp _ => ?_⟩
    · have hin : MemPlace.cell b off ∈ before := by rw [hps]; simpa using hp
      rw [hb.frozen (old _ hin)]
      exact hz b off hin
    · have h1 := hn ha
      rw [hps] at h1
      simpa using h1
    · rw [hps]
      simpa using hp

end Go.Proofs

