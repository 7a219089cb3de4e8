/-
  What the functions of this part hand back: each as a plain function of its arguments. Conditions: none.
-/
import Derived.ProofKit
import Derived.OpenShut
import Derived.Below
import Derived.ChangeSame
import Derived.Test.YtchbkidlmcpiiaaM1
import Derived.Test.YtchbkidlmcpiiaaM2
import Derived.Test.YtchbkidlmcpiiaaM3
namespace Go.Proofs
open Go.W8
set_option linter.unusedVariables false
set_option linter.unusedSimpArgs false
set_option linter.unusedSectionVars false
set_option maxRecDepth 8000
set_option maxHeartbeats 4000000
def valOdd (low sign : Int) (k : Nat) : Bool := decide (sign < 0) && (Int.tmod (low + (k : Int)) 2 != 0)
def valTo (low sign : Int) (l : List Int) : Nat → Int
  | 0 => 0
  | k + 1 => valTo low sign l k + if valOdd low sign k = true then 0 - l.getD k 0 else l.getD k 0
theorem valTo_bound {low sign : Int} {l : List Int} (hc : ∀ k, -2000000000000 ≤ l.getD k 0 ∧ l.getD k 0 ≤ 2000000000000) : ∀ k : Nat, -2000000000000 * (k : Int) ≤ valTo low sign l k ∧ valTo low sign l k ≤ 2000000000000 * (k : Int)
  | 0 => by simp [valTo]
  | k + 1 => by
    have ih := valTo_bound (low := low) (sign := sign) hc k
    have := hc k
    unfold valTo
    split <;> omega
theorem valTo_yes {low sign : Int} {l : List Int} {k : Nat} (h : valOdd low sign k = true) : valTo low sign l (k + 1) = valTo low sign l k - l.getD k 0 := by
  show _ + (if _ then _ else _) = _
  rw [if_pos h]; omega
theorem valTo_no {low sign : Int} {l : List Int} {k : Nat} (h : valOdd low sign k = false) : valTo low sign l (k + 1) = valTo low sign l k + l.getD k 0 := by
  show _ + (if _ then _ else _) = _
  rw [if_neg (by rw [h]; simp)]
section
variable (low sign : Int) (l : List Int) (R : Rd) (v : Value) (h : RdL R low l v) (hlow : -100000 ≤ low ∧ low ≤ 100000) (hlen : l.length ≤ 100000) (hc : ∀ k, -2000000000000 ≤ l.getD k 0 ∧ l.getD k 0 ≤ 2000000000000)
include h hlow hlen hc
theorem l04Value_c : GivesR Try.prog 27 #[v, .int .i64 sign] R (.int .i64 (valTo low sign l l.length)) := by
  obtain ⟨a, cap, rfl, hs⟩ := h.form
  refine GivesR.of (callable_of Try.func27 rfl (by decide)) fun w hR => ?_
  refine acall_of (N := 39) (c := _) (rs := [.tmp 4]) (args := [_, _]) Try.func27 rfl (by decide) rfl rfl (Nat.le_of_ble_eq_true rfl) ?_
  refine Cd.rs [1, 2] fun K hK => ?_
  simp (maxSteps := 2000000) (disch := first | (simp only [E4] <;> omega) | omega | fail) only [↓E2, E3, bare, bareJ, ↓E0, E1, env0, envN, evOps, evOp, evQs, evQ, evV, setD, pureOp, ev, upd, updL, Value.cells, hav, delB, ↓reduceIte, Zj, Zk, Nat.reduceAdd, Nat.reduceLT, Nat.reduceEqDiff, Nat.reduceMul, Nat.reduceLeDiff, if_true, Zn, reduceCtorEq, ZA, eq_self, Int.reduceLE, Int.reduceLT, Int.reduceToNat, ne_eq, Nat.reduceSub]
  repeat refine And.intro (by omega) ?_
  intro b1 hb1
  try simp (maxSteps := 2000000) (disch := first | (simp only [E4] <;> omega) | omega | fail) only [↓E2, E3, bare, bareJ, ↓E0, E1, env0, envN, evOps, evOp, evQs, evQ, evV, setD, pureOp, ev, upd, updL, Value.cells, hav, delB, ↓reduceIte, Zj, Zk, Nat.reduceAdd, Nat.reduceLT, Nat.reduceEqDiff, Nat.reduceMul, Nat.reduceLeDiff, if_true, Zn, reduceCtorEq, ZA, eq_self, Int.reduceLE, Int.reduceLT, Int.reduceToNat, ne_eq, Nat.reduceSub]
  repeat refine And.intro (by omega) ?_
  repeat refine And.intro (by omega) ?_
  intro g
  simp only [List.map_cons, List.map_nil, updL, upd, Nat.reduceEqDiff, if_true, if_false, ↓reduceIte]
  refine hK _ _ ?_; clear hK K
  refine Cd.rs [1, 2, 5] fun K hK => ?_
  simp (maxSteps := 2000000) (disch := first | (simp only [E4] <;> omega) | omega | fail) only [↓E2, E3, bare, bareJ, ↓E0, E1, env0, envN, evOps, evOp, evQs, evQ, evV, setD, pureOp, ev, upd, updL, hav, delB, ↓reduceIte, Zj, Zk, Nat.reduceAdd, Nat.reduceLT, Nat.reduceEqDiff, Nat.reduceMul, Nat.reduceLeDiff, if_true, Zn, reduceCtorEq, ZA, eq_self, Int.reduceLE, Int.reduceLT, Int.reduceToNat, ne_eq, Nat.reduceSub]
  repeat refine And.intro (by omega) ?_
  repeat refine And.intro (by omega) ?_
  intro g
  simp only [List.map_cons, List.map_nil, updL, upd, Nat.reduceEqDiff, if_true, if_false, ↓reduceIte]
  refine hK _ _ ?_; clear hK K
  refine Cd.seq ?_
  refine Cd.rs [1, 2, 5, 6] fun K hK => ?_
  simp (maxSteps := 2000000) (disch := first | (simp only [E4] <;> omega) | omega | fail) only [↓E2, E3, bare, bareJ, ↓E0, E1, env0, envN, evOps, evOp, evQs, evQ, evV, setD, pureOp, ev, upd, updL, hav, delB, ↓reduceIte, Zj, Zk, Nat.reduceAdd, Nat.reduceLT, Nat.reduceEqDiff, Nat.reduceMul, Nat.reduceLeDiff, if_true, Zn, reduceCtorEq, ZA, eq_self, Int.reduceLE, Int.reduceLT, Int.reduceToNat, ne_eq, Nat.reduceSub]
  repeat refine And.intro (by omega) ?_
  repeat refine And.intro (by omega) ?_
  intro g
  simp only [List.map_cons, List.map_nil, updL, upd, Nat.reduceEqDiff, if_true, if_false, ↓reduceIte]
  refine hK _ _ ?_; clear hK K
  refine Cd.block ?_
  refine Cd.loop (fun q ρ M => ∃ g k, k + q = l.length ∧ ρ = updL [(1, .int .i64 sign), (2, .pointer (some ⟨b1, 0, none⟩)), (5, .int .i64 (valTo low sign l k)), (6, .int .i64 (k : Int))] g ∧ M = [(b1, [.int .i64 low, .slice a l.length cap])]) l.length ⟨_, 0, Nat.zero_add _, rfl, rfl⟩ ?_
  rintro q ρ M ⟨g, k, hk, rfl, rfl⟩
  refine Cd.seq ?_
  refine Cd.rs [1, 2, 5, 6, 11] fun K hK => ?_
  simp (maxSteps := 2000000) (disch := first | (simp only [E4] <;> omega) | omega | fail) only [↓E2, E3, bare, bareJ, ↓E0, E1, env0, envN, evOps, evOp, evQs, evQ, evV, setD, pureOp, ev, upd, updL, binW, eqOp, binV, intOp, shOp, boolOp, fieldAddrV, cellAt, cellsAt, findB, lenV, hav, delB, eqL, SameI, strOp, ↓reduceIte, Zj, Zk, Nat.reduceAdd, Nat.reduceLT, Nat.reduceEqDiff, Nat.reduceMul, Nat.reduceLeDiff, if_true, Zn, reduceCtorEq, ZA, eq_self, Int.reduceLE, Int.reduceLT, Int.reduceToNat, ne_eq, Nat.reduceSub, Tfld35_1, Tld31, Tslce31]
  repeat refine And.intro (by omega) ?_
  repeat refine And.intro (by omega) ?_
  intro g
  simp only [List.map_cons, List.map_nil, updL, upd, Nat.reduceEqDiff, if_true, if_false, ↓reduceIte]
  refine hK _ _ ?_; clear hK K
  refine Cd.condd rfl (fun h1 => ?_) (fun h1 => ?_)
  · obtain ⟨b, rfl, qk⟩ := rd_int hs hR (k := k) (by omega)
    have n1 := told_ne hb1 qk
    have kb := valTo_bound (low := low) (sign := sign) hc k
    have ck := hc k
    refine Cd.skip ?_
    refine thenN ?_
    refine Cd.seq ?_
    refine Cd.block ?_
    skip
    refine Cd.rs [1, 2, 5, 6, 23] fun K hK => ?_
    simp (maxSteps := 2000000) (disch := first | (simp only [E4, qk] <;> omega) | omega | fail) only [↓E2, E3, bare, bareJ, ↓E0, E1, env0, envN, evOps, evOp, evQs, evQ, evV, setD, pureOp, ev, upd, updL, gate, binW, eqOp, binV, intOp, shOp, boolOp, fieldAddrV, cellAt, cellsAt, findB, hav, delB, eqL, SameI, strOp, ↓reduceIte, Zj, Zk, Nat.reduceAdd, Nat.reduceLT, Nat.reduceEqDiff, Nat.reduceMul, Nat.reduceLeDiff, if_true, Zn, reduceCtorEq, ZA, eq_self, Int.reduceLE, Int.reduceLT, Int.reduceToNat, ne_eq, Nat.reduceSub, Tfld35_0, Tld2, qk, n1]
    repeat refine And.intro (by omega) ?_
    apply guardX_and 6 [17, 18, 19, 20, 21, 22] (j := 2) (d := 16) (tp := 23) (tl := 22) rfl rfl rfl rfl rfl
    · intro hq
      simp (maxSteps := 2000000) (disch := first | (simp only [E4, qk] <;> omega) | omega | fail) only [↓E2, E3, bare, bareJ, ↓E0, E1, env0, envN, evOps, evOp, evQs, evQ, evV, setD, pureOp, ev, upd, updL, gate, binW, eqOp, binV, intOp, shOp, boolOp, fieldAddrV, cellAt, cellsAt, findB, hav, delB, eqL, SameI, strOp, ↓reduceIte, Zj, Zk, Nat.reduceAdd, Nat.reduceLT, Nat.reduceEqDiff, Nat.reduceMul, Nat.reduceLeDiff, if_true, Zn, reduceCtorEq, ZA, eq_self, Int.reduceLE, Int.reduceLT, Int.reduceToNat, ne_eq, Nat.reduceSub, Tfld35_0, Tld2, qk, n1]
      repeat refine And.intro (by omega) ?_
      exact rfl
    intro g
    simp (maxSteps := 2000000) (disch := first | (simp only [E4, qk] <;> omega) | omega | fail) only [↓E2, E3, bare, bareJ, ↓E0, E1, env0, envN, evOps, evOp, evQs, evQ, evV, setD, pureOp, ev, upd, updL, gate, binW, eqOp, binV, intOp, shOp, boolOp, fieldAddrV, cellAt, cellsAt, findB, hav, delB, eqL, SameI, strOp, ↓reduceIte, Zj, Zk, Nat.reduceAdd, Nat.reduceLT, Nat.reduceEqDiff, Nat.reduceMul, Nat.reduceLeDiff, if_true, Zn, reduceCtorEq, ZA, eq_self, Int.reduceLE, Int.reduceLT, Int.reduceToNat, ne_eq, Nat.reduceSub, Tfld35_0, Tld2, qk, n1]
    repeat refine And.intro (by omega) ?_
    repeat refine And.intro (by omega) ?_
    intro g
    simp only [List.map_cons, List.map_nil, updL, upd, Nat.reduceEqDiff, if_true, if_false, ↓reduceIte]
    refine hK _ _ ?_; clear hK K
    refine Cd.cond rfl (fun h2 => ?_) (fun h2 => ?_)
    · have e := valTo_yes (l := l) (show valOdd low sign k = true from h2)
      refine Cd.rr [1, 2, 5, 6] fun K hK => ?_
      simp (maxSteps := 2000000) (disch := first | (simp only [E4, qk] <;> omega) | omega | fail) only [↓E2, E3, bare, bareJ, ↓E0, E1, env0, envN, evOps, evOp, evQs, evQ, evV, setD, pureOp, ev, upd, updL, binW, eqOp, binV, intOp, shOp, boolOp, fieldAddrV, indexAddrV, cellAt, cellsAt, findB, hav, delB, eqL, SameI, strOp, ↓reduceIte, Zj, Zk, Nat.reduceAdd, Nat.reduceLT, Nat.reduceEqDiff, Nat.reduceMul, Nat.reduceLeDiff, if_true, Zn, reduceCtorEq, ZA, eq_self, Int.reduceLE, Int.reduceLT, Int.reduceToNat, ne_eq, Nat.reduceSub, Tfld35_1, Tld2, Tld31, Tslc31, qk, n1]
      repeat refine And.intro (by omega) ?_
      rw [← e]
      repeat refine And.intro (by omega) ?_
      intro g
      simp only [List.map_cons, List.map_nil, updL, upd, Nat.reduceEqDiff, if_true, if_false, ↓reduceIte]
      refine hK _ _ ?_; clear hK K
      refine inBN ?_
      refine thenN ?_
      refine Cd.rr [1, 2, 5, 6] fun K hK => ?_
      simp (maxSteps := 2000000) (disch := first | (simp only [E4, qk] <;> omega) | omega | fail) only [↓E2, E3, bare, bareJ, ↓E0, E1, env0, envN, evOps, evOp, evQs, evQ, evV, setD, pureOp, ev, upd, updL, binW, eqOp, binV, intOp, shOp, boolOp, hav, delB, eqL, SameI, strOp, ↓reduceIte, Zj, Zk, Nat.reduceAdd, Nat.reduceLT, Nat.reduceEqDiff, Nat.reduceMul, Nat.reduceLeDiff, if_true, Zn, reduceCtorEq, ZA, eq_self, Int.reduceLE, Int.reduceLT, Int.reduceToNat, ne_eq, Nat.reduceSub, qk, n1]
      repeat refine And.intro (by omega) ?_
      repeat refine And.intro (by omega) ?_
      intro g
      simp only [List.map_cons, List.map_nil, updL, upd, Nat.reduceEqDiff, if_true, if_false, ↓reduceIte]
      refine hK _ _ ?_; clear hK K
      exact roundN (m := q - 1) (by omega) ⟨_, k + 1, by omega, rfl, rfl⟩
    · have e := valTo_no (l := l) (show valOdd low sign k = false from h2)
      refine Cd.rr [1, 2, 5, 6] fun K hK => ?_
      simp (maxSteps := 2000000) (disch := first | (simp only [E4, qk] <;> omega) | omega | fail) only [↓E2, E3, bare, bareJ, ↓E0, E1, env0, envN, evOps, evOp, evQs, evQ, evV, setD, pureOp, ev, upd, updL, binW, eqOp, binV, intOp, shOp, boolOp, fieldAddrV, indexAddrV, cellAt, cellsAt, findB, hav, delB, eqL, SameI, strOp, ↓reduceIte, Zj, Zk, Nat.reduceAdd, Nat.reduceLT, Nat.reduceEqDiff, Nat.reduceMul, Nat.reduceLeDiff, if_true, Zn, reduceCtorEq, ZA, eq_self, Int.reduceLE, Int.reduceLT, Int.reduceToNat, ne_eq, Nat.reduceSub, Tfld35_1, Tld2, Tld31, Tslc31, qk, n1]
      repeat refine And.intro (by omega) ?_
      rw [← e]
      repeat refine And.intro (by omega) ?_
      intro g
      simp only [List.map_cons, List.map_nil, updL, upd, Nat.reduceEqDiff, if_true, if_false, ↓reduceIte]
      refine hK _ _ ?_; clear hK K
      refine inBN ?_
      refine thenN ?_
      refine Cd.rr [1, 2, 5, 6] fun K hK => ?_
      simp (maxSteps := 2000000) (disch := first | (simp only [E4, qk] <;> omega) | omega | fail) only [↓E2, E3, bare, bareJ, ↓E0, E1, env0, envN, evOps, evOp, evQs, evQ, evV, setD, pureOp, ev, upd, updL, binW, eqOp, binV, intOp, shOp, boolOp, hav, delB, eqL, SameI, strOp, ↓reduceIte, Zj, Zk, Nat.reduceAdd, Nat.reduceLT, Nat.reduceEqDiff, Nat.reduceMul, Nat.reduceLeDiff, if_true, Zn, reduceCtorEq, ZA, eq_self, Int.reduceLE, Int.reduceLT, Int.reduceToNat, ne_eq, Nat.reduceSub, qk, n1]
      repeat refine And.intro (by omega) ?_
      repeat refine And.intro (by omega) ?_
      intro g
      simp only [List.map_cons, List.map_nil, updL, upd, Nat.reduceEqDiff, if_true, if_false, ↓reduceIte]
      refine hK _ _ ?_; clear hK K
      exact roundN (m := q - 1) (by omega) ⟨_, k + 1, by omega, rfl, rfl⟩
  · refine Cd.exit (thenX (roundX (inBX ?_)))
    refine thenN ?_
    obtain rfl : k = l.length := by omega
    refine Cd.rs [4] fun K hK => ?_
    simp (maxSteps := 2000000) (disch := first | (simp only [E4] <;> omega) | omega | fail) only [↓E2, E3, bare, bareJ, ↓E0, E1, env0, envN, evOps, evOp, evQs, evQ, evV, setD, pureOp, ev, upd, updL, hav, delB, ↓reduceIte, Zj, Zk, Nat.reduceAdd, Nat.reduceLT, Nat.reduceEqDiff, Nat.reduceMul, Nat.reduceLeDiff, if_true, Zn, reduceCtorEq, ZA, eq_self, Int.reduceLE, Int.reduceLT, Int.reduceToNat, ne_eq, Nat.reduceSub]
    repeat refine And.intro (by omega) ?_
    repeat refine And.intro (by omega) ?_
    intro g
    simp only [List.map_cons, List.map_nil, updL, upd, Nat.reduceEqDiff, if_true, if_false, ↓reduceIte]
    refine hK _ _ ?_; clear hK K
    refine Cd.ret ?_
    simp (maxSteps := 2000000) (disch := first | (simp only [E4] <;> omega) | omega | fail) only [↓E2, E3, bare, bareJ, ↓E0, E1, evP, evPlan, env0, envN, evOps, evOp, evQs, evQ, evV, setD, pureOp, ev, upd, updL, gate, binW, eqOp, binV, intOp, shOp, boolOp, unV, convV, nilV, fieldAddrV, indexAddrV, extractV, cellAt, cellsAt, findB, setB, fillL, buildV, Value.cells, lenV, minV, maxV, hav, sliceV, loV, hiV, bslQ, mksQ, appQ, partsOk, partsCells, delB, eqL, SameI, strOp, apzQ, cvtQ, capV, ↓reduceIte, Zj, Zk, Nat.reduceAdd, Nat.reduceLT, Nat.reduceEqDiff, Nat.reduceMul, Nat.reduceLeDiff, if_true, Zn, reduceCtorEq, ZA, eq_self, Int.reduceLE, Int.reduceLT, Int.reduceToNat, ne_eq, Nat.reduceSub]
    repeat refine And.intro (by omega) ?_
theorem valueAt_c : GivesR Try.prog 41 #[v, .int .i64 sign] R (.int .i64 (valTo low sign l l.length)) := by
  obtain ⟨a, cap, rfl, hs⟩ := h.form
  refine GivesR.of (callable_of Try.func41 rfl (by decide)) fun w hR => ?_
  refine acall_of (N := 33) (c := _) (rs := [.tmp 4]) (args := [_, _]) Try.func41 rfl (by decide) rfl rfl (Nat.le_of_ble_eq_true rfl) ?_
  refine Cd.rs [1, 2] fun K hK => ?_
  simp (maxSteps := 2000000) (disch := first | (simp only [E4] <;> omega) | omega | fail) only [↓E2, E3, bare, bareJ, ↓E0, E1, env0, envN, evOps, evOp, evQs, evQ, evV, setD, pureOp, ev, upd, updL, Value.cells, hav, delB, ↓reduceIte, Zj, Zk, Nat.reduceAdd, Nat.reduceLT, Nat.reduceEqDiff, Nat.reduceMul, Nat.reduceLeDiff, if_true, Zn, reduceCtorEq, ZA, eq_self, Int.reduceLE, Int.reduceLT, Int.reduceToNat, ne_eq, Nat.reduceSub]
  repeat refine And.intro (by omega) ?_
  intro b1 hb1
  try simp (maxSteps := 2000000) (disch := first | (simp only [E4] <;> omega) | omega | fail) only [↓E2, E3, bare, bareJ, ↓E0, E1, env0, envN, evOps, evOp, evQs, evQ, evV, setD, pureOp, ev, upd, updL, Value.cells, hav, delB, ↓reduceIte, Zj, Zk, Nat.reduceAdd, Nat.reduceLT, Nat.reduceEqDiff, Nat.reduceMul, Nat.reduceLeDiff, if_true, Zn, reduceCtorEq, ZA, eq_self, Int.reduceLE, Int.reduceLT, Int.reduceToNat, ne_eq, Nat.reduceSub]
  repeat refine And.intro (by omega) ?_
  repeat refine And.intro (by omega) ?_
  intro g
  simp only [List.map_cons, List.map_nil, updL, upd, Nat.reduceEqDiff, if_true, if_false, ↓reduceIte]
  refine hK _ _ ?_; clear hK K
  refine Cd.rs [1, 2, 5] fun K hK => ?_
  simp (maxSteps := 2000000) (disch := first | (simp only [E4] <;> omega) | omega | fail) only [↓E2, E3, bare, bareJ, ↓E0, E1, env0, envN, evOps, evOp, evQs, evQ, evV, setD, pureOp, ev, upd, updL, hav, delB, ↓reduceIte, Zj, Zk, Nat.reduceAdd, Nat.reduceLT, Nat.reduceEqDiff, Nat.reduceMul, Nat.reduceLeDiff, if_true, Zn, reduceCtorEq, ZA, eq_self, Int.reduceLE, Int.reduceLT, Int.reduceToNat, ne_eq, Nat.reduceSub]
  repeat refine And.intro (by omega) ?_
  repeat refine And.intro (by omega) ?_
  intro g
  simp only [List.map_cons, List.map_nil, updL, upd, Nat.reduceEqDiff, if_true, if_false, ↓reduceIte]
  refine hK _ _ ?_; clear hK K
  refine Cd.seq ?_
  refine Cd.rs [1, 2, 5, 9, 10, 11] fun K hK => ?_
  simp (maxSteps := 2000000) (disch := first | (simp only [E4] <;> omega) | omega | fail) only [↓E2, E3, bare, bareJ, ↓E0, E1, env0, envN, evOps, evOp, evQs, evQ, evV, setD, pureOp, ev, upd, updL, fieldAddrV, cellAt, cellsAt, findB, lenV, hav, delB, ↓reduceIte, Zj, Zk, Nat.reduceAdd, Nat.reduceLT, Nat.reduceEqDiff, Nat.reduceMul, Nat.reduceLeDiff, if_true, Zn, reduceCtorEq, ZA, eq_self, Int.reduceLE, Int.reduceLT, Int.reduceToNat, ne_eq, Nat.reduceSub, Tfld35_1, Tld31, Tslce31]
  repeat refine And.intro (by omega) ?_
  repeat refine And.intro (by omega) ?_
  intro g
  simp only [List.map_cons, List.map_nil, updL, upd, Nat.reduceEqDiff, if_true, if_false, ↓reduceIte]
  refine hK _ _ ?_; clear hK K
  refine Cd.block ?_
  refine Cd.loop (fun q ρ M => ∃ g k, k + q = l.length ∧ ρ = updL [(1, .int .i64 sign), (2, .pointer (some ⟨b1, 0, none⟩)), (5, .int .i64 (valTo low sign l k)), (9, .slice a l.length cap), (10, .int .i64 (l.length : Int)), (11, .int .i64 (k : Int))] g ∧ M = [(b1, [.int .i64 low, .slice a l.length cap])]) l.length ⟨_, 0, Nat.zero_add _, rfl, rfl⟩ ?_
  rintro q ρ M ⟨g, k, hk, rfl, rfl⟩
  refine Cd.rs [1, 2, 5, 9, 10, 11, 12] fun K hK => ?_
  simp (maxSteps := 2000000) (disch := first | (simp only [E4] <;> omega) | omega | fail) only [↓E2, E3, bare, bareJ, ↓E0, E1, env0, envN, evOps, evOp, evQs, evQ, evV, setD, pureOp, ev, upd, updL, binW, eqOp, binV, intOp, shOp, boolOp, hav, delB, eqL, SameI, strOp, ↓reduceIte, Zj, Zk, Nat.reduceAdd, Nat.reduceLT, Nat.reduceEqDiff, Nat.reduceMul, Nat.reduceLeDiff, if_true, Zn, reduceCtorEq, ZA, eq_self, Int.reduceLE, Int.reduceLT, Int.reduceToNat, ne_eq, Nat.reduceSub]
  repeat refine And.intro (by omega) ?_
  repeat refine And.intro (by omega) ?_
  intro g
  simp only [List.map_cons, List.map_nil, updL, upd, Nat.reduceEqDiff, if_true, if_false, ↓reduceIte]
  refine hK _ _ ?_; clear hK K
  refine Cd.seq ?_
  refine Cd.condd rfl (fun h1 => ?_) (fun h1 => ?_)
  · obtain ⟨b, rfl, qk⟩ := rd_int hs hR (k := k) (by omega)
    have n1 := told_ne hb1 qk
    have kb := valTo_bound (low := low) (sign := sign) hc k
    have ck := hc k
    refine Cd.skip ?_
    refine thenN ?_
    refine Cd.seq ?_
    refine Cd.block ?_
    skip
    refine Cd.rs [1, 2, 5, 6, 7, 9, 10, 11] fun K hK => ?_
    simp (maxSteps := 2000000) (disch := first | (simp only [E4, qk] <;> omega) | omega | fail) only [↓E2, E3, bare, bareJ, ↓E0, E1, env0, envN, evOps, evOp, evQs, evQ, evV, setD, pureOp, ev, upd, updL, indexAddrV, cellAt, cellsAt, findB, hav, delB, ↓reduceIte, Zj, Zk, Nat.reduceAdd, Nat.reduceLT, Nat.reduceEqDiff, Nat.reduceMul, Nat.reduceLeDiff, if_true, Zn, reduceCtorEq, ZA, eq_self, Int.reduceLE, Int.reduceLT, Int.reduceToNat, ne_eq, Nat.reduceSub, Tld2, Tslc31, qk, n1]
    repeat refine And.intro (by omega) ?_
    repeat refine And.intro (by omega) ?_
    intro g
    simp only [List.map_cons, List.map_nil, updL, upd, Nat.reduceEqDiff, if_true, if_false, ↓reduceIte]
    refine hK _ _ ?_; clear hK K
    refine Cd.midq (fun ρ M => ∃ g, ρ = updL [(1, .int .i64 sign), (2, .pointer (some ⟨b1, 0, none⟩)), (5, .int .i64 (valTo low sign l k)), (7, .int .i64 (if valOdd low sign k = true then 0 - l.getD k 0 else l.getD k 0)), (9, .slice (some ⟨b, 0, none⟩) l.length cap), (10, .int .i64 (l.length : Int)), (11, .int .i64 (k : Int))] g ∧ M = [(b1, [.int .i64 low, .slice (some ⟨b, 0, none⟩) l.length cap])]) ?_ ?_
    · refine Cd.rs [1, 2, 5, 7, 9, 10, 11, 25] fun K hK => ?_
      simp (maxSteps := 2000000) (disch := first | (simp only [E4, qk] <;> omega) | omega | fail) only [↓E2, E3, bare, bareJ, ↓E0, E1, env0, envN, evOps, evOp, evQs, evQ, evV, setD, pureOp, ev, upd, updL, gate, binW, eqOp, binV, intOp, shOp, boolOp, fieldAddrV, cellAt, cellsAt, findB, hav, delB, eqL, SameI, strOp, ↓reduceIte, Zj, Zk, Nat.reduceAdd, Nat.reduceLT, Nat.reduceEqDiff, Nat.reduceMul, Nat.reduceLeDiff, if_true, Zn, reduceCtorEq, ZA, eq_self, Int.reduceLE, Int.reduceLT, Int.reduceToNat, ne_eq, Nat.reduceSub, Tfld35_0, Tld2, qk, n1]
      repeat refine And.intro (by omega) ?_
      apply guardX_and 6 [19, 20, 21, 22, 23, 24] (j := 2) (d := 18) (tp := 25) (tl := 24) rfl rfl rfl rfl rfl
      · intro hq
        simp (maxSteps := 2000000) (disch := first | (simp only [E4, qk] <;> omega) | omega | fail) only [↓E2, E3, bare, bareJ, ↓E0, E1, env0, envN, evOps, evOp, evQs, evQ, evV, setD, pureOp, ev, upd, updL, gate, binW, eqOp, binV, intOp, shOp, boolOp, fieldAddrV, cellAt, cellsAt, findB, hav, delB, eqL, SameI, strOp, ↓reduceIte, Zj, Zk, Nat.reduceAdd, Nat.reduceLT, Nat.reduceEqDiff, Nat.reduceMul, Nat.reduceLeDiff, if_true, Zn, reduceCtorEq, ZA, eq_self, Int.reduceLE, Int.reduceLT, Int.reduceToNat, ne_eq, Nat.reduceSub, Tfld35_0, Tld2, qk, n1]
        repeat refine And.intro (by omega) ?_
        exact rfl
      intro g
      simp (maxSteps := 2000000) (disch := first | (simp only [E4, qk] <;> omega) | omega | fail) only [↓E2, E3, bare, bareJ, ↓E0, E1, env0, envN, evOps, evOp, evQs, evQ, evV, setD, pureOp, ev, upd, updL, gate, binW, eqOp, binV, intOp, shOp, boolOp, fieldAddrV, cellAt, cellsAt, findB, hav, delB, eqL, SameI, strOp, ↓reduceIte, Zj, Zk, Nat.reduceAdd, Nat.reduceLT, Nat.reduceEqDiff, Nat.reduceMul, Nat.reduceLeDiff, if_true, Zn, reduceCtorEq, ZA, eq_self, Int.reduceLE, Int.reduceLT, Int.reduceToNat, ne_eq, Nat.reduceSub, Tfld35_0, Tld2, qk, n1]
      repeat refine And.intro (by omega) ?_
      repeat refine And.intro (by omega) ?_
      intro g
      simp only [List.map_cons, List.map_nil, updL, upd, Nat.reduceEqDiff, if_true, if_false, ↓reduceIte]
      refine hK _ _ ?_; clear hK K
      refine Cd.cond rfl (fun h2 => ?_) (fun h2 => ?_)
      · refine Cd.rr [1, 2, 5, 7, 9, 10, 11] fun K hK => ?_
        simp (maxSteps := 2000000) (disch := first | (simp only [E4, qk] <;> omega) | omega | fail) only [↓E2, E3, bare, bareJ, ↓E0, E1, env0, envN, evOps, evOp, evQs, evQ, evV, setD, pureOp, ev, upd, updL, unV, hav, delB, ↓reduceIte, Zj, Zk, Nat.reduceAdd, Nat.reduceLT, Nat.reduceEqDiff, Nat.reduceMul, Nat.reduceLeDiff, if_true, Zn, reduceCtorEq, ZA, eq_self, Int.reduceLE, Int.reduceLT, Int.reduceToNat, ne_eq, Nat.reduceSub, qk, n1]
        repeat refine And.intro (by omega) ?_
        repeat refine And.intro (by omega) ?_
        intro g
        simp only [List.map_cons, List.map_nil, updL, upd, Nat.reduceEqDiff, if_true, if_false, ↓reduceIte]
        refine hK _ _ ?_; clear hK K
        rw [if_pos (show valOdd low sign k = true from h2)]
        exact midN ⟨_, rfl, rfl⟩
      · refine Cd.skip ?_
        rw [if_neg (show ¬ valOdd low sign k = true by rw [show valOdd low sign k = false from h2]; simp)]
        exact midN ⟨_, (norm_of (by repeat (first | exact trivial | refine And.intro rfl ?_))), rfl⟩
    · rintro ρ M ⟨g, rfl, rfl⟩
      have ce : -2000000000000 ≤ (if valOdd low sign k = true then 0 - l.getD k 0 else l.getD k 0) ∧ (if valOdd low sign k = true then 0 - l.getD k 0 else l.getD k 0) ≤ 2000000000000 := by split <;> omega
      have e : valTo low sign l (k + 1) = valTo low sign l k + (if valOdd low sign k = true then 0 - l.getD k 0 else l.getD k 0) := rfl
      generalize (if valOdd low sign k = true then 0 - l.getD k 0 else l.getD k 0) = ck1 at *
      refine Cd.rr [1, 2, 5, 9, 10, 11] fun K hK => ?_
      simp (maxSteps := 2000000) (disch := first | (simp only [E4, qk] <;> omega) | omega | fail) only [↓E2, E3, bare, bareJ, ↓E0, E1, env0, envN, evOps, evOp, evQs, evQ, evV, setD, pureOp, ev, upd, updL, binW, eqOp, binV, intOp, shOp, boolOp, hav, delB, eqL, SameI, strOp, ↓reduceIte, Zj, Zk, Nat.reduceAdd, Nat.reduceLT, Nat.reduceEqDiff, Nat.reduceMul, Nat.reduceLeDiff, if_true, Zn, reduceCtorEq, ZA, eq_self, Int.reduceLE, Int.reduceLT, Int.reduceToNat, ne_eq, Nat.reduceSub, qk, n1]
      repeat refine And.intro (by omega) ?_
      rw [← e]
      repeat refine And.intro (by omega) ?_
      intro g
      simp only [List.map_cons, List.map_nil, updL, upd, Nat.reduceEqDiff, if_true, if_false, ↓reduceIte]
      refine hK _ _ ?_; clear hK K
      refine inBN ?_
      refine thenN ?_
      refine Cd.rr [1, 2, 5, 9, 10, 11] fun K hK => ?_
      simp (maxSteps := 2000000) (disch := first | (simp only [E4, qk] <;> omega) | omega | fail) only [↓E2, E3, bare, bareJ, ↓E0, E1, env0, envN, evOps, evOp, evQs, evQ, evV, setD, pureOp, ev, upd, updL, binW, eqOp, binV, intOp, shOp, boolOp, hav, delB, eqL, SameI, strOp, ↓reduceIte, Zj, Zk, Nat.reduceAdd, Nat.reduceLT, Nat.reduceEqDiff, Nat.reduceMul, Nat.reduceLeDiff, if_true, Zn, reduceCtorEq, ZA, eq_self, Int.reduceLE, Int.reduceLT, Int.reduceToNat, ne_eq, Nat.reduceSub, qk, n1]
      repeat refine And.intro (by omega) ?_
      repeat refine And.intro (by omega) ?_
      intro g
      simp only [List.map_cons, List.map_nil, updL, upd, Nat.reduceEqDiff, if_true, if_false, ↓reduceIte]
      refine hK _ _ ?_; clear hK K
      exact roundN (m := q - 1) (by omega) ⟨_, k + 1, by omega, rfl, rfl⟩
  · refine Cd.exit (thenX (roundX (inBX ?_)))
    refine thenN ?_
    obtain rfl : k = l.length := by omega
    refine Cd.rs [4] fun K hK => ?_
    simp (maxSteps := 2000000) (disch := first | (simp only [E4] <;> omega) | omega | fail) only [↓E2, E3, bare, bareJ, ↓E0, E1, env0, envN, evOps, evOp, evQs, evQ, evV, setD, pureOp, ev, upd, updL, hav, delB, ↓reduceIte, Zj, Zk, Nat.reduceAdd, Nat.reduceLT, Nat.reduceEqDiff, Nat.reduceMul, Nat.reduceLeDiff, if_true, Zn, reduceCtorEq, ZA, eq_self, Int.reduceLE, Int.reduceLT, Int.reduceToNat, ne_eq, Nat.reduceSub]
    repeat refine And.intro (by omega) ?_
    repeat refine And.intro (by omega) ?_
    intro g
    simp only [List.map_cons, List.map_nil, updL, upd, Nat.reduceEqDiff, if_true, if_false, ↓reduceIte]
    refine hK _ _ ?_; clear hK K
    refine Cd.ret ?_
    simp (maxSteps := 2000000) (disch := first | (simp only [E4] <;> omega) | omega | fail) only [↓E2, E3, bare, bareJ, ↓E0, E1, evP, evPlan, env0, envN, evOps, evOp, evQs, evQ, evV, setD, pureOp, ev, upd, updL, gate, binW, eqOp, binV, intOp, shOp, boolOp, unV, convV, nilV, fieldAddrV, indexAddrV, extractV, cellAt, cellsAt, findB, setB, fillL, buildV, Value.cells, lenV, minV, maxV, hav, sliceV, loV, hiV, bslQ, mksQ, appQ, partsOk, partsCells, delB, eqL, SameI, strOp, apzQ, cvtQ, capV, ↓reduceIte, Zj, Zk, Nat.reduceAdd, Nat.reduceLT, Nat.reduceEqDiff, Nat.reduceMul, Nat.reduceLeDiff, if_true, Zn, reduceCtorEq, ZA, eq_self, Int.reduceLE, Int.reduceLT, Int.reduceToNat, ne_eq, Nat.reduceSub]
    repeat refine And.intro (by omega) ?_
end

end Go.Proofs

/-
  What the functions of this part hand back: each as a plain function of its arguments. Conditions: none.
-/
namespace Go.Proofs
open Go.W8
set_option linter.unusedVariables false
set_option linter.unusedSimpArgs false
set_option linter.unusedSectionVars false
set_option maxRecDepth 8000
set_option maxHeartbeats 4000000
--@plain
/-- The number of a polynomial at a power, of its first i only. -/
def coK (low : Int) (l : List Int) (i : Nat) (e : Int) : Int := if low ≤ e ∧ e < low + i then l.getD (e - low).toNat 0 else 0
theorem coK_zero {low : Int} {l : List Int} {e : Int} : coK low l 0 e = 0 := by unfold coK; rw [if_neg (by omega)]
theorem coK_here {low : Int} {l : List Int} {i : Nat} : coK low l i (low + i) = 0 := by unfold coK; rw [if_neg (by omega)]
theorem coK_step {low : Int} {l : List Int} {i : Nat} {e : Int} : coK low l (i + 1) e = if e = low + i then l.getD i 0 else coK low l i e := by
  unfold coK
  by_cases h : e = low + i
  · rw [if_pos (by omega), if_pos h, h, show (low + (i : Int) - low).toNat = i by omega]
  · rw [if_neg h]
    by_cases h2 : low ≤ e ∧ e < low + i
    · rw [if_pos (by omega), if_pos h2]
    · rw [if_neg (by omega), if_neg h2]
theorem coK_bound {low : Int} {l : List Int} {i : Nat} {e : Int} (h : ∀ k, -1000000000000 ≤ l.getD k 0 ∧ l.getD k 0 ≤ 1000000000000) : -1000000000000 ≤ coK low l i e ∧ coK low l i e ≤ 1000000000000 := by
  unfold coK
  split
  · exact h _
  · omega
def sumK (low : Int) (n : Nat) (p1 : Int) (l1 : List Int) (i1 : Nat) (p2 : Int) (l2 : List Int) (i2 : Nat) (k : Int) : List Int :=
  (List.range n).map fun j : Nat => coK p1 l1 i1 (low + j) + k * coK p2 l2 i2 (low + j)
section
variable {low : Int} {n : Nat} {p1 : Int} {l1 : List Int} {i1 : Nat} {p2 : Int} {l2 : List Int} {i2 : Nat} {k : Int}
theorem sumK_len : (sumK low n p1 l1 i1 p2 l2 i2 k).length = n := by simp [sumK]
theorem sumK_get {j : Nat} (h : j < n) : (sumK low n p1 l1 i1 p2 l2 i2 k).getD j 0 = coK p1 l1 i1 (low + j) + k * coK p2 l2 i2 (low + j) := by
  unfold sumK
  rw [List.getD_eq_getElem?_getD, List.getElem?_map, List.getElem?_range h]; rfl
theorem getD_ext0 {a b : List Int} (h : a.length = b.length) (hg : ∀ i, i < a.length → a.getD i 0 = b.getD i 0) : a = b := by
  apply List.ext_getElem h
  intro i h1 h2
  have := hg i h1
  rw [List.getD_eq_getElem?_getD, List.getD_eq_getElem?_getD, List.getElem?_eq_getElem h1, List.getElem?_eq_getElem h2] at this
  simpa using this
theorem getD_set0 {a : List Int} {i j : Nat} {x : Int} (h : i < a.length) : (a.set i x).getD j 0 = if i = j then x else a.getD j 0 := by
  rw [List.getD_eq_getElem?_getD, List.getD_eq_getElem?_getD, List.getElem?_set]
  split
  · simp_all
  · rfl
theorem sumK_step1 {j : Nat} (h : j < n) (e : low + j = p1 + i1) : (sumK low n p1 l1 i1 p2 l2 i2 k).set j (l1.getD i1 0 + k * coK p2 l2 i2 (low + j)) = sumK low n p1 l1 (i1 + 1) p2 l2 i2 k := by
  refine getD_ext0 (by simp [sumK_len]) fun i hi => ?_
  simp only [List.length_set, sumK_len] at hi
  rw [getD_set0 (by rw [sumK_len]; exact h), sumK_get hi, sumK_get hi, coK_step]
  by_cases hj : j = i
  · subst hj; rw [if_pos rfl, if_pos e]
  · rw [if_neg hj, if_neg (by omega)]
theorem sumK_step2 {j : Nat} (h : j < n) (e : low + j = p2 + i2) : (sumK low n p1 l1 i1 p2 l2 i2 k).set j (coK p1 l1 i1 (low + j) + k * l2.getD i2 0) = sumK low n p1 l1 i1 p2 l2 (i2 + 1) k := by
  refine getD_ext0 (by simp [sumK_len]) fun i hi => ?_
  simp only [List.length_set, sumK_len] at hi
  rw [getD_set0 (by rw [sumK_len]; exact h), sumK_get hi, sumK_get hi, coK_step]
  by_cases hj : j = i
  · subst hj; rw [if_pos rfl, if_pos e]
  · rw [if_neg hj, if_neg (by omega)]
theorem sumK_zero : sumK low n p1 l1 0 p2 l2 0 k = List.replicate n 0 := by
  refine getD_ext0 (by simp [sumK_len]) fun i hi => ?_
  rw [sumK_len] at hi
  rw [sumK_get hi, coK_zero, coK_zero]
  simp [List.getD_eq_getElem?_getD, hi]
end
def addLo (p1 : Int) (l1 : List Int) (p2 : Int) : Int := if l1.length = 0 then p2 else min p2 p1
def addHi (p1 : Int) (l1 : List Int) (p2 : Int) (l2 : List Int) : Int := if l1.length = 0 then p2 + l2.length else max (p2 + l2.length) (p1 + l1.length)
def addN (p1 : Int) (l1 : List Int) (p2 : Int) (l2 : List Int) : Nat := (addHi p1 l1 p2 l2 - addLo p1 l1 p2).toNat
def addS (p1 : Int) (l1 : List Int) (p2 : Int) (l2 : List Int) (k : Int) : List Int := sumK (addLo p1 l1 p2) (addN p1 l1 p2 l2) p1 l1 l1.length p2 l2 l2.length k
def addR (p1 : Int) (l1 : List Int) (p2 : Int) (l2 : List Int) (k : Int) : Int × List Int :=
  if l2.length = 0 then (trimLow p1 l1, trimL l1) else (trimLow (addLo p1 l1 p2) (addS p1 l1 p2 l2 k), trimL (addS p1 l1 p2 l2 k))
def addAns (p1 : Int) (l1 : List Int) (p2 : Int) (l2 : List Int) : Int × List Int × Int :=
  if lauOk p1 l1 = true ∧ lauOk p2 l2 = true then if lauOk (addR p1 l1 p2 l2 1).1 (addR p1 l1 p2 l2 1).2 = true then ((addR p1 l1 p2 l2 1).1, (addR p1 l1 p2 l2 1).2, 0) else (0, [], 3) else (0, [], 1)
end Go.Proofs

/-
  What the functions of this part hand back: each as a plain function of its arguments. Conditions: none.
-/
namespace Go.Proofs
open Go.W8
set_option linter.unusedVariables false
set_option linter.unusedSimpArgs false
set_option linter.unusedSectionVars false
set_option maxRecDepth 8000
set_option maxHeartbeats 4000000
section
variable (p1 : Int) (l1 : List Int) (p2 : Int) (l2 : List Int) (R : Rd) (v1 v2 : Value) (h1 : RdL R p1 l1 v1) (h2 : RdL R p2 l2 v2) (ok1 : lauOk p1 l1 = true) (ok2 : lauOk p2 l2 = true)
include h1 h2 ok1 ok2
theorem l04Add_c (k : Int) (hk : k = 1 ∨ k = -1) : GivesX Try.prog 28 #[v1, v2, .int .i64 k] [] R (LauV (addR p1 l1 p2 l2 k).1 (addR p1 l1 p2 l2 k).2) := by
  have a1 := lauOk_low ok1
  have a2 := lauOk_len ok1
  have a3 := lauOk_get ok1
  have a4 := lauOk_high ok1
  have c1 := lauOk_low ok2
  have c2 := lauOk_len ok2
  have c3 := lauOk_get ok2
  have c4 := lauOk_high ok2
  obtain ⟨x1, cap1, rfl, hsl1⟩ := h1.form
  obtain ⟨x2, cap2, rfl, hsl2⟩ := h2.form
  refine GivesX.part ?_
  refine GivesX.of (callable_of Try.func28 rfl (by decide)) ?_ fun w hnd hlt hR => ?_
  · simp
  refine acall_of (N := 101) (c := _) (rs := [.cell 6 35]) (args := [_, _, _]) Try.func28 rfl (by decide) rfl rfl (Nat.le_of_ble_eq_true rfl) ?_
  have hR : W8.Told [] w R := hR
  refine Cd.rs [2, 3, 4, 6] fun K hK => ?_
  simp (maxSteps := 2000000) (disch := first | (simp only [E4] <;> omega) | omega | fail) only [↓E2, E3, bare, bareJ, ↓E0, E1, env0, envN, evOps, evOp, evQs, evQ, evV, setD, pureOp, ev, upd, updL, Value.cells, hav, delB, ↓reduceIte, Zj, Zk, Nat.reduceAdd, Nat.reduceLT, Nat.reduceEqDiff, Nat.reduceMul, Nat.reduceLeDiff, if_true, Zn, reduceCtorEq, ZA, eq_self, Int.reduceLE, Int.reduceLT, Int.reduceToNat, ne_eq, Nat.reduceSub, Tzero35]
  repeat refine And.intro (by omega) ?_
  intro b1 hb1
  intro b2 hb2
  have nb2_b1 := hb2.ne
  intro b3 hb3
  have nb3_b2 := hb3.ne
  have nb3_b1 := hb3.tail.ne
  try simp (maxSteps := 2000000) (disch := first | (simp only [E4] <;> omega) | omega | fail) only [↓E2, E3, bare, bareJ, ↓E0, E1, env0, envN, evOps, evOp, evQs, evQ, evV, setD, pureOp, ev, upd, updL, Value.cells, hav, delB, ↓reduceIte, Zj, Zk, Nat.reduceAdd, Nat.reduceLT, Nat.reduceEqDiff, Nat.reduceMul, Nat.reduceLeDiff, if_true, Zn, reduceCtorEq, ZA, eq_self, Int.reduceLE, Int.reduceLT, Int.reduceToNat, ne_eq, Nat.reduceSub, Tzero35, nb2_b1, nb3_b2, nb3_b1]
  repeat refine And.intro (by omega) ?_
  repeat refine And.intro (by omega) ?_
  intro g
  simp only [List.map_cons, List.map_nil, updL, upd, Nat.reduceEqDiff, if_true, if_false, ↓reduceIte]
  refine hK _ _ ?_; clear hK K
  refine Cd.seq ?_
  refine Cd.rs [2, 3, 4, 6, 16] fun K hK => ?_
  simp (maxSteps := 2000000) (disch := first | (simp only [E4] <;> omega) | omega | fail) only [↓E2, E3, bare, bareJ, ↓E0, E1, env0, envN, evOps, evOp, evQs, evQ, evV, setD, pureOp, ev, upd, updL, binW, eqOp, binV, intOp, shOp, boolOp, fieldAddrV, cellAt, cellsAt, findB, lenV, hav, delB, eqL, SameI, strOp, ↓reduceIte, Zj, Zk, Nat.reduceAdd, Nat.reduceLT, Nat.reduceEqDiff, Nat.reduceMul, Nat.reduceLeDiff, if_true, Zn, reduceCtorEq, ZA, eq_self, Int.reduceLE, Int.reduceLT, Int.reduceToNat, ne_eq, Nat.reduceSub, Tfld35_1, Tld31, Tslce31, nb2_b1, nb3_b2, nb3_b1]
  repeat refine And.intro (by omega) ?_
  repeat refine And.intro (by omega) ?_
  intro g
  simp only [List.map_cons, List.map_nil, updL, upd, Nat.reduceEqDiff, if_true, if_false, ↓reduceIte]
  refine hK _ _ ?_; clear hK K
  refine Cd.condd rfl (fun g1 => ?_) (fun g1 => ?_)
  · have g0 : l2.length = 0 := by omega
    refine Cd.rs [6] fun K hK => ?_
    simp (maxSteps := 2000000) (disch := first | (simp only [E4] <;> omega) | omega | fail) only [↓E2, E3, bare, bareJ, ↓E0, E1, env0, envN, evOps, evOp, evQs, evQ, evV, setD, pureOp, ev, upd, updL, fieldAddrV, cellAt, cellsAt, findB, setB, Value.cells, hav, delB, ↓reduceIte, Zj, Zk, Nat.reduceAdd, Nat.reduceLT, Nat.reduceEqDiff, Nat.reduceMul, Nat.reduceLeDiff, if_true, Zn, reduceCtorEq, ZA, eq_self, Int.reduceLE, Int.reduceLT, Int.reduceToNat, ne_eq, Nat.reduceSub, Tfld35_0, Tfld35_1, Tld2, Tld31, Tst35, nb2_b1, nb3_b2, nb3_b1]
    repeat refine And.intro (by omega) ?_
    refine callK_newR0 (l04Trim_c p1 l1 _ _ hsl1 (by omega) (by omega)) (Told.toldW hR) ?_
    intro v' M' hs' nd' _
    obtain ⟨s', rfl, hs'⟩ := hs'
    obtain ⟨a', m', c', rfl⟩ := hs'.form
    simp only [List.cons_append, List.nil_append] at nd' ⊢
    simp (maxSteps := 2000000) (disch := first | (simp only [E4] <;> omega) | omega | fail) only [↓E2, E3, bare, bareJ, ↓E0, E1, env0, envN, evOps, evOp, evQs, evQ, evV, setD, pureOp, ev, upd, updL, fieldAddrV, cellAt, cellsAt, findB, setB, Value.cells, hav, delB, ↓reduceIte, Zj, Zk, Nat.reduceAdd, Nat.reduceLT, Nat.reduceEqDiff, Nat.reduceMul, Nat.reduceLeDiff, if_true, Zn, reduceCtorEq, ZA, eq_self, Int.reduceLE, Int.reduceLT, Int.reduceToNat, ne_eq, Nat.reduceSub, Tfld35_0, Tfld35_1, Tld2, Tld31, Tst35, nb2_b1, nb3_b2, nb3_b1]
    repeat refine And.intro (by omega) ?_
    repeat refine And.intro (by omega) ?_
    intro g
    simp only [List.map_cons, List.map_nil, updL, upd, Nat.reduceEqDiff, if_true, if_false, ↓reduceIte]
    refine hK _ _ ?_; clear hK K
    refine Cd.ret (thenR ?_)
    simp (maxSteps := 2000000) (disch := first | (simp only [E4] <;> omega) | omega | fail) only [↓E2, E3, bare, bareJ, ↓E0, E1, evP, evPlan, env0, envN, evOps, evOp, evQs, evQ, evV, setD, pureOp, ev, upd, updL, gate, binW, eqOp, binV, intOp, shOp, boolOp, unV, convV, nilV, fieldAddrV, indexAddrV, extractV, cellAt, cellsAt, findB, setB, fillL, buildV, Value.cells, lenV, minV, maxV, hav, sliceV, loV, hiV, bslQ, mksQ, appQ, partsOk, partsCells, delB, eqL, SameI, strOp, apzQ, cvtQ, capV, ↓reduceIte, Zj, Zk, Nat.reduceAdd, Nat.reduceLT, Nat.reduceEqDiff, Nat.reduceMul, Nat.reduceLeDiff, if_true, Zn, reduceCtorEq, ZA, eq_self, Int.reduceLE, Int.reduceLT, Int.reduceToNat, ne_eq, Nat.reduceSub, Tld35, nb2_b1, nb3_b2, nb3_b1]
    repeat refine And.intro (by omega) ?_
    unfold addR
    rw [if_pos g0]
    exact ⟨M', SubP.of (List.Sublist.cons _ (List.Sublist.cons _ (List.Sublist.cons _ (List.Sublist.refl _)))), _, rfl, hs'⟩
  · have g0 : ¬ l2.length = 0 := by omega
    refine Cd.skip ?_
    refine thenN ?_
    refine Cd.qs [2, 3, 4, 6, 7, 8] fol (by kernel_rfl) fun K hK => ?_
    simp (maxSteps := 2000000) (disch := first | (simp only [E4] <;> omega) | omega | fail) only [↓E2, E3, bare, bareJ, ↓E0, E1, evPlan, env0, envN, evOps, evOp, evQs, evQ, evV, setD, pureOp, ev, upd, updL, binW, eqOp, binV, intOp, shOp, boolOp, fieldAddrV, cellAt, cellsAt, findB, lenV, hav, delB, eqL, SameI, strOp, ↓reduceIte, Zj, Zk, Nat.reduceAdd, Nat.reduceLT, Nat.reduceEqDiff, Nat.reduceMul, Nat.reduceLeDiff, if_true, Zn, reduceCtorEq, ZA, eq_self, Int.reduceLE, Int.reduceLT, Int.reduceToNat, ne_eq, Nat.reduceSub, Tfld35_0, Tfld35_1, Tld2, Tld31, Tslce31, nb2_b1, nb3_b2, nb3_b1]
    repeat refine And.intro (by omega) ?_
    repeat refine And.intro (by omega) ?_
    intro g
    simp only [List.map_cons, List.map_nil, updL, upd, Nat.reduceEqDiff, if_true, if_false, ↓reduceIte]
    refine hK _ ?_; clear hK K
    refine Cd.midq (fun ρ M => ∃ g, ρ = updL [(2, .int .i64 k), (3, .pointer (some ⟨b1, 0, none⟩)), (4, .pointer (some ⟨b2, 0, none⟩)), (6, .pointer (some ⟨b3, 0, none⟩)), (7, .int .i64 (addLo p1 l1 p2)), (8, .int .i64 (addHi p1 l1 p2 l2))] g ∧ M = [(b3, [.int .i64 0, .slice none 0 0]), (b2, [.int .i64 p2, .slice x2 l2.length cap2]), (b1, [.int .i64 p1, .slice x1 l1.length cap1])]) ?_ ?_
    · refine Cd.rs [2, 3, 4, 6, 7, 8, 33] fun K hK => ?_
      simp (maxSteps := 2000000) (disch := first | (simp only [E4] <;> omega) | omega | fail) only [↓E2, E3, bare, bareJ, ↓E0, E1, env0, envN, evOps, evOp, evQs, evQ, evV, setD, pureOp, ev, upd, updL, binW, eqOp, binV, intOp, shOp, boolOp, fieldAddrV, cellAt, cellsAt, findB, lenV, hav, delB, eqL, SameI, strOp, ↓reduceIte, Zj, Zk, Nat.reduceAdd, Nat.reduceLT, Nat.reduceEqDiff, Nat.reduceMul, Nat.reduceLeDiff, if_true, Zn, reduceCtorEq, ZA, eq_self, Int.reduceLE, Int.reduceLT, Int.reduceToNat, ne_eq, Nat.reduceSub, Tfld35_1, Tld31, Tslce31, nb2_b1, nb3_b2, nb3_b1]
      repeat refine And.intro (by omega) ?_
      repeat refine And.intro (by omega) ?_
      intro g
      simp only [List.map_cons, List.map_nil, updL, upd, Nat.reduceEqDiff, if_true, if_false, ↓reduceIte]
      refine hK _ _ ?_; clear hK K
      refine Cd.condd rfl (fun g2 => ?_) (fun g2 => ?_)
      · refine Cd.rs [2, 3, 4, 6, 7, 8] fun K hK => ?_
        simp (maxSteps := 2000000) (disch := first | (simp only [E4] <;> omega) | omega | fail) only [↓E2, E3, bare, bareJ, ↓E0, E1, env0, envN, evOps, evOp, evQs, evQ, evV, setD, pureOp, ev, upd, updL, fieldAddrV, cellAt, cellsAt, findB, minV, hav, delB, ↓reduceIte, Zj, Zk, Nat.reduceAdd, Nat.reduceLT, Nat.reduceEqDiff, Nat.reduceMul, Nat.reduceLeDiff, if_true, Zn, reduceCtorEq, ZA, eq_self, Int.reduceLE, Int.reduceLT, Int.reduceToNat, ne_eq, Nat.reduceSub, Tfld35_0, Tld2, nb2_b1, nb3_b2, nb3_b1]
        repeat refine And.intro (by omega) ?_
        repeat refine And.intro (by omega) ?_
        intro g
        simp only [List.map_cons, List.map_nil, updL, upd, Nat.reduceEqDiff, if_true, if_false, ↓reduceIte]
        refine hK _ _ ?_; clear hK K
        refine Cd.rr [2, 3, 4, 6, 7, 8] fun K hK => ?_
        simp (maxSteps := 2000000) (disch := first | (simp only [E4] <;> omega) | omega | fail) only [↓E2, E3, bare, bareJ, ↓E0, E1, env0, envN, evOps, evOp, evQs, evQ, evV, setD, pureOp, ev, upd, updL, binW, eqOp, binV, intOp, shOp, boolOp, fieldAddrV, cellAt, cellsAt, findB, lenV, maxV, hav, delB, eqL, SameI, strOp, ↓reduceIte, Zj, Zk, Nat.reduceAdd, Nat.reduceLT, Nat.reduceEqDiff, Nat.reduceMul, Nat.reduceLeDiff, if_true, Zn, reduceCtorEq, ZA, eq_self, Int.reduceLE, Int.reduceLT, Int.reduceToNat, ne_eq, Nat.reduceSub, Tfld35_0, Tfld35_1, Tld2, Tld31, Tslce31, nb2_b1, nb3_b2, nb3_b1]
        repeat refine And.intro (by omega) ?_
        repeat refine And.intro (by omega) ?_
        intro g
        simp only [List.map_cons, List.map_nil, updL, upd, Nat.reduceEqDiff, if_true, if_false, ↓reduceIte]
        refine hK _ _ ?_; clear hK K
        have e1 : addLo p1 l1 p2 = if p1 < p2 then p1 else p2 := by unfold addLo; rw [if_neg (by omega)]; split <;> omega
        have e2 : addHi p1 l1 p2 l2 = if p1 + (l1.length : Int) > p2 + (l2.length : Int) then p1 + (l1.length : Int) else p2 + (l2.length : Int) := by unfold addHi; rw [if_neg (by omega)]; split <;> omega
        rw [e1, e2]
        exact midN ⟨_, rfl, rfl⟩
      · have e1 : addLo p1 l1 p2 = p2 := by unfold addLo; rw [if_pos (by omega)]
        have e2 : addHi p1 l1 p2 l2 = p2 + l2.length := by unfold addHi; rw [if_pos (by omega)]
        rw [e1, e2]
        refine Cd.skip ?_
        exact midN ⟨_, rfl, rfl⟩
    · rintro ρ M ⟨g, rfl, rfl⟩
      have n1 : -1000 ≤ addLo p1 l1 p2 ∧ addLo p1 l1 p2 ≤ 1000 := by unfold addLo; split <;> omega
      have n2 : addHi p1 l1 p2 l2 = addLo p1 l1 p2 + addN p1 l1 p2 l2 := by unfold addN addHi addLo; split <;> omega
      have n3 : addHi p1 l1 p2 l2 ≤ 1001 := by unfold addHi; split <;> omega
      have n4 : l1.length ≠ 0 → addLo p1 l1 p2 ≤ p1 ∧ p1 + l1.length ≤ addHi p1 l1 p2 l2 := by intro hne; unfold addHi addLo; rw [if_neg hne, if_neg hne]; omega
      have n5 : addLo p1 l1 p2 ≤ p2 ∧ p2 + l2.length ≤ addHi p1 l1 p2 l2 := by unfold addHi addLo; split <;> omega
      have eS : addS p1 l1 p2 l2 k = sumK (addLo p1 l1 p2) (addN p1 l1 p2 l2) p1 l1 l1.length p2 l2 l2.length k := rfl
      have eR : addR p1 l1 p2 l2 k = (trimLow (addLo p1 l1 p2) (addS p1 l1 p2 l2 k), trimL (addS p1 l1 p2 l2 k)) := by unfold addR; rw [if_neg g0]
      rw [eR]
      clear eR
      generalize addS p1 l1 p2 l2 k = S at *
      generalize addHi p1 l1 p2 l2 = hi at *
      generalize addLo p1 l1 p2 = lo at *
      generalize addN p1 l1 p2 l2 = N at *
      subst eS n2
      refine Cd.rs [2, 3, 4, 6, 7, 9] fun K hK => ?_
      simp (maxSteps := 2000000) (disch := first | (simp only [E4] <;> omega) | omega | fail) only [↓E2, E3, bare, bareJ, ↓E0, E1, env0, envN, evOps, evOp, evQs, evQ, evV, setD, pureOp, ev, upd, updL, binW, eqOp, binV, intOp, shOp, boolOp, Value.cells, hav, mksQ, delB, eqL, SameI, strOp, ↓reduceIte, Zj, Zk, Nat.reduceAdd, Nat.reduceLT, Nat.reduceEqDiff, Nat.reduceMul, Nat.reduceLeDiff, if_true, Zn, reduceCtorEq, ZA, eq_self, Int.reduceLE, Int.reduceLT, Int.reduceToNat, ne_eq, Nat.reduceSub, Tby2, Tslc31, Tslce31, Tzero2, nb2_b1, nb3_b2, nb3_b1]
      repeat refine And.intro (by omega) ?_
      intro b4 hb4
      have nb4_b3 := hb4.ne
      have nb4_b2 := hb4.tail.ne
      have nb4_b1 := hb4.tail.tail.ne
      try simp (maxSteps := 2000000) (disch := first | (simp only [E4] <;> omega) | omega | fail) only [↓E2, E3, bare, bareJ, ↓E0, E1, env0, envN, evOps, evOp, evQs, evQ, evV, setD, pureOp, ev, upd, updL, binW, eqOp, binV, intOp, shOp, boolOp, Value.cells, hav, mksQ, delB, eqL, SameI, strOp, ↓reduceIte, Zj, Zk, Nat.reduceAdd, Nat.reduceLT, Nat.reduceEqDiff, Nat.reduceMul, Nat.reduceLeDiff, if_true, Zn, reduceCtorEq, ZA, eq_self, Int.reduceLE, Int.reduceLT, Int.reduceToNat, ne_eq, Nat.reduceSub, Tby2, Tslc31, Tslce31, Tzero2, nb2_b1, nb3_b2, nb3_b1, nb4_b3, nb4_b2, nb4_b1]
      repeat refine And.intro (by omega) ?_
      repeat refine And.intro (by omega) ?_
      intro g
      simp only [List.map_cons, List.map_nil, updL, upd, Nat.reduceEqDiff, if_true, if_false, ↓reduceIte]
      refine hK _ _ ?_; clear hK K
      have eN : (lo + (N : Int) - lo).toNat = N := by omega
      rw [eN]
      refine Cd.seq ?_
      refine Cd.rs [2, 3, 4, 6, 7, 9, 10] fun K hK => ?_
      simp (maxSteps := 2000000) (disch := first | (simp only [E4] <;> omega) | omega | fail) only [↓E2, E3, bare, bareJ, ↓E0, E1, env0, envN, evOps, evOp, evQs, evQ, evV, setD, pureOp, ev, upd, updL, hav, delB, ↓reduceIte, Zj, Zk, Nat.reduceAdd, Nat.reduceLT, Nat.reduceEqDiff, Nat.reduceMul, Nat.reduceLeDiff, if_true, Zn, reduceCtorEq, ZA, eq_self, Int.reduceLE, Int.reduceLT, Int.reduceToNat, ne_eq, Nat.reduceSub, nb2_b1, nb3_b2, nb3_b1, nb4_b3, nb4_b2, nb4_b1]
      repeat refine And.intro (by omega) ?_
      repeat refine And.intro (by omega) ?_
      intro g
      simp only [List.map_cons, List.map_nil, updL, upd, Nat.reduceEqDiff, if_true, if_false, ↓reduceIte]
      refine hK _ _ ?_; clear hK K
      refine Cd.block ?_
      refine Cd.loop (fun q ρ M => ∃ g i cs, i + q = l1.length ∧ cs = ints .i64 (sumK lo N p1 l1 i p2 l2 0 k) ∧ ρ = updL [(2, .int .i64 k), (3, .pointer (some ⟨b1, 0, none⟩)), (4, .pointer (some ⟨b2, 0, none⟩)), (6, .pointer (some ⟨b3, 0, none⟩)), (7, .int .i64 lo), (9, .slice (some ⟨b4, 0, none⟩) N N), (10, .int .i64 (i : Int))] g ∧ M = [(b4, cs), (b3, [.int .i64 0, .slice none 0 0]), (b2, [.int .i64 p2, .slice x2 l2.length cap2]), (b1, [.int .i64 p1, .slice x1 l1.length cap1])]) l1.length ⟨_, 0, _, Nat.zero_add _, rfl, rfl, by rw [sumK_zero]; simp [ints]⟩ ?_
      rintro q ρ M ⟨g, i, cs, hi, hcs, rfl, rfl⟩
      refine Cd.seq ?_
      refine Cd.rs [2, 3, 4, 6, 7, 9, 10, 54] fun K hK => ?_
      simp (maxSteps := 2000000) (disch := first | (simp only [E4] <;> omega) | omega | fail) only [↓E2, E3, bare, bareJ, ↓E0, E1, env0, envN, evOps, evOp, evQs, evQ, evV, setD, pureOp, ev, upd, updL, binW, eqOp, binV, intOp, shOp, boolOp, fieldAddrV, cellAt, cellsAt, findB, lenV, hav, delB, eqL, SameI, strOp, ↓reduceIte, Zj, Zk, Nat.reduceAdd, Nat.reduceLT, Nat.reduceEqDiff, Nat.reduceMul, Nat.reduceLeDiff, if_true, Zn, reduceCtorEq, ZA, eq_self, Int.reduceLE, Int.reduceLT, Int.reduceToNat, ne_eq, Nat.reduceSub, Tfld35_1, Tld31, Tslce31, nb2_b1, nb3_b2, nb3_b1, nb4_b3, nb4_b2, nb4_b1]
      repeat refine And.intro (by omega) ?_
      repeat refine And.intro (by omega) ?_
      intro g
      simp only [List.map_cons, List.map_nil, updL, upd, Nat.reduceEqDiff, if_true, if_false, ↓reduceIte]
      refine hK _ _ ?_; clear hK K
      refine Cd.condd rfl (fun g2 => ?_) (fun g2 => ?_)
      · have m4 := n4 (by omega)
        obtain ⟨j, ej⟩ : ∃ j : Nat, p1 - lo + (i : Int) = j := ⟨(p1 - lo + (i : Int)).toNat, by omega⟩
        obtain ⟨bq, rfl, hg⟩ := rd_int hsl1 hR (show i < l1.length by omega)
        have e1 : ¬ b4 = bq := told_ne hb4 hg
        have e2 : ¬ b3 = bq := told_ne hb3 hg
        have e3 : ¬ b2 = bq := told_ne hb2 hg
        have e4 : ¬ b1 = bq := told_ne hb1 hg
        have ecs : cs.length = N := by rw [hcs, ints_length, sumK_len]
        have hcs2 : cs.set j (.int .i64 (l1.getD i 0)) = ints .i64 (sumK lo N p1 l1 (i + 1) p2 l2 0 k) := by
          rw [hcs, ints_set]
          have := sumK_step1 (low := lo) (n := N) (p1 := p1) (l1 := l1) (i1 := i) (p2 := p2) (l2 := l2) (i2 := 0) (k := k) (j := j) (by omega) (by omega)
          rw [coK_zero, Int.mul_zero, Int.add_zero] at this
          rw [this]
        skip
        refine Cd.skip ?_
        refine thenN ?_
        refine Cd.seq ?_
        refine Cd.block ?_
        refine Cd.pr [2, 3, 4, 6, 7, 9, 10] (Plan.take 0 (Plan.take 1 (Plan.take 2 (Plan.take 3 (Plan.take 4 (Plan.take 5 (Plan.take 6 (Plan.take 7 (Plan.take 8 (Plan.take 9 (Plan.take 10 (Plan.take 11 (Plan.take 12 (Plan.one 13 (Plan.done))))))))))))))) fol (by kernel_rfl) (Nat.le_of_ble_eq_true rfl) fun K hK => ?_
        simp (maxSteps := 2000000) (disch := first | (simp only [E4, ej, hg, e1, e2, e3, e4, ecs] <;> omega) | omega | fail) only [↓E2, E3, bare, bareJ, ↓E0, E1, evPlan, env0, envN, evOps, evOp, evQs, evQ, evV, setD, pureOp, ev, upd, updL, binW, eqOp, binV, intOp, shOp, boolOp, fieldAddrV, indexAddrV, cellAt, cellsAt, findB, setB, Value.cells, hav, delB, eqL, SameI, strOp, ↓reduceIte, Zj, Zk, Nat.reduceAdd, Nat.reduceLT, Nat.reduceEqDiff, Nat.reduceMul, Nat.reduceLeDiff, if_true, Zn, reduceCtorEq, ZA, eq_self, Int.reduceLE, Int.reduceLT, Int.reduceToNat, ne_eq, Nat.reduceSub, Tfld35_0, Tfld35_1, Tld2, Tld31, Tslc31, Tst2, nb2_b1, nb3_b2, nb3_b1, nb4_b3, nb4_b2, nb4_b1, ej, hg, e1, e2, e3, e4, ecs]
        repeat refine And.intro (by omega) ?_
        repeat refine And.intro (by omega) ?_
        intro g
        simp only [List.map_cons, List.map_nil, updL, upd, Nat.reduceEqDiff, if_true, if_false, ↓reduceIte]
        refine hK _ _ ?_; clear hK K
        refine inBN ?_
        refine thenN ?_
        refine Cd.rr [2, 3, 4, 6, 7, 9, 10] fun K hK => ?_
        simp (maxSteps := 2000000) (disch := first | (simp only [E4, ej, hg, e1, e2, e3, e4, ecs] <;> omega) | omega | fail) only [↓E2, E3, bare, bareJ, ↓E0, E1, env0, envN, evOps, evOp, evQs, evQ, evV, setD, pureOp, ev, upd, updL, binW, eqOp, binV, intOp, shOp, boolOp, hav, delB, eqL, SameI, strOp, ↓reduceIte, Zj, Zk, Nat.reduceAdd, Nat.reduceLT, Nat.reduceEqDiff, Nat.reduceMul, Nat.reduceLeDiff, if_true, Zn, reduceCtorEq, ZA, eq_self, Int.reduceLE, Int.reduceLT, Int.reduceToNat, ne_eq, Nat.reduceSub, nb2_b1, nb3_b2, nb3_b1, nb4_b3, nb4_b2, nb4_b1, ej, hg, e1, e2, e3, e4, ecs]
        repeat refine And.intro (by omega) ?_
        repeat refine And.intro (by omega) ?_
        intro g
        simp only [List.map_cons, List.map_nil, updL, upd, Nat.reduceEqDiff, if_true, if_false, ↓reduceIte]
        refine hK _ _ ?_; clear hK K
        exact roundN (m := q - 1) (by omega) ⟨_, i + 1, _, by omega, hcs2, rfl, rfl⟩
      · obtain rfl : i = l1.length := by omega
        refine Cd.exit (thenX (roundX (inBX ?_)))
        refine thenN ?_
        refine Cd.seq ?_
        refine Cd.rs [2, 4, 6, 7, 9, 11] fun K hK => ?_
        simp (maxSteps := 2000000) (disch := first | (simp only [E4] <;> omega) | omega | fail) only [↓E2, E3, bare, bareJ, ↓E0, E1, env0, envN, evOps, evOp, evQs, evQ, evV, setD, pureOp, ev, upd, updL, hav, delB, ↓reduceIte, Zj, Zk, Nat.reduceAdd, Nat.reduceLT, Nat.reduceEqDiff, Nat.reduceMul, Nat.reduceLeDiff, if_true, Zn, reduceCtorEq, ZA, eq_self, Int.reduceLE, Int.reduceLT, Int.reduceToNat, ne_eq, Nat.reduceSub, nb2_b1, nb3_b2, nb3_b1, nb4_b3, nb4_b2, nb4_b1]
        repeat refine And.intro (by omega) ?_
        repeat refine And.intro (by omega) ?_
        intro g
        simp only [List.map_cons, List.map_nil, updL, upd, Nat.reduceEqDiff, if_true, if_false, ↓reduceIte]
        refine hK _ _ ?_; clear hK K
        refine Cd.block ?_
        subst hcs
        refine Cd.loop (fun q ρ M => ∃ g i cs, i + q = l2.length ∧ cs = ints .i64 (sumK lo N p1 l1 l1.length p2 l2 i k) ∧ ρ = updL [(2, .int .i64 k), (4, .pointer (some ⟨b2, 0, none⟩)), (6, .pointer (some ⟨b3, 0, none⟩)), (7, .int .i64 lo), (9, .slice (some ⟨b4, 0, none⟩) N N), (11, .int .i64 (i : Int))] g ∧ M = [(b4, cs), (b3, [.int .i64 0, .slice none 0 0]), (b2, [.int .i64 p2, .slice x2 l2.length cap2]), (b1, [.int .i64 p1, .slice x1 l1.length cap1])]) l2.length ⟨_, 0, _, Nat.zero_add _, rfl, rfl, rfl⟩ ?_
        rintro q ρ M ⟨g, i, cs, hi, hcs, rfl, rfl⟩
        refine Cd.seq ?_
        refine Cd.rs [2, 4, 6, 7, 9, 11, 74] fun K hK => ?_
        simp (maxSteps := 2000000) (disch := first | (simp only [E4] <;> omega) | omega | fail) only [↓E2, E3, bare, bareJ, ↓E0, E1, env0, envN, evOps, evOp, evQs, evQ, evV, setD, pureOp, ev, upd, updL, binW, eqOp, binV, intOp, shOp, boolOp, fieldAddrV, cellAt, cellsAt, findB, lenV, hav, delB, eqL, SameI, strOp, ↓reduceIte, Zj, Zk, Nat.reduceAdd, Nat.reduceLT, Nat.reduceEqDiff, Nat.reduceMul, Nat.reduceLeDiff, if_true, Zn, reduceCtorEq, ZA, eq_self, Int.reduceLE, Int.reduceLT, Int.reduceToNat, ne_eq, Nat.reduceSub, Tfld35_1, Tld31, Tslce31, nb2_b1, nb3_b2, nb3_b1, nb4_b3, nb4_b2, nb4_b1]
        repeat refine And.intro (by omega) ?_
        repeat refine And.intro (by omega) ?_
        intro g
        simp only [List.map_cons, List.map_nil, updL, upd, Nat.reduceEqDiff, if_true, if_false, ↓reduceIte]
        refine hK _ _ ?_; clear hK K
        refine Cd.condd rfl (fun g3 => ?_) (fun g3 => ?_)
        · obtain ⟨j, ej⟩ : ∃ j : Nat, p2 - lo + (i : Int) = j := ⟨(p2 - lo + (i : Int)).toNat, by omega⟩
          obtain ⟨bq, rfl, hg⟩ := rd_int hsl2 hR (show i < l2.length by omega)
          have e1 : ¬ b4 = bq := told_ne hb4 hg
          have e2 : ¬ b3 = bq := told_ne hb3 hg
          have e3 : ¬ b2 = bq := told_ne hb2 hg
          have e4 : ¬ b1 = bq := told_ne hb1 hg
          have ecs : cs.length = N := by rw [hcs, ints_length, sumK_len]
          have eold : cs[j]? = some (.int .i64 (coK p1 l1 l1.length (lo + j))) := by
            rw [hcs, ints_get (by rw [sumK_len]; omega), sumK_get (by omega), show lo + (j : Int) = p2 + i by omega, coK_here, Int.mul_zero, Int.add_zero]
          have hcs2 : cs.set j (.int .i64 (coK p1 l1 l1.length (lo + j) + k * l2.getD i 0)) = ints .i64 (sumK lo N p1 l1 l1.length p2 l2 (i + 1) k) := by
            rw [hcs, ints_set, sumK_step2 (by omega) (by omega)]
          have d1 := coK_bound (low := p1) (i := l1.length) (e := lo + j) a3
          have d2 := c3 i
          have d3 : -1000000000000 ≤ k * l2.getD i 0 ∧ k * l2.getD i 0 ≤ 1000000000000 := by rcases hk with rfl | rfl <;> omega
          generalize coK p1 l1 l1.length (lo + j) = old at *
          skip
          refine Cd.skip ?_
          refine thenN ?_
          refine Cd.seq ?_
          refine Cd.block ?_
          refine Cd.rs [2, 4, 6, 7, 9, 11, 12] fun K hK => ?_
          simp (maxSteps := 2000000) (disch := first | (simp only [E4, ej, hg, e1, e2, e3, e4, ecs, eold] <;> omega) | omega | fail) only [↓E2, E3, bare, bareJ, ↓E0, E1, env0, envN, evOps, evOp, evQs, evQ, evV, setD, pureOp, ev, upd, updL, binW, eqOp, binV, intOp, shOp, boolOp, fieldAddrV, cellAt, cellsAt, findB, hav, delB, eqL, SameI, strOp, ↓reduceIte, Zj, Zk, Nat.reduceAdd, Nat.reduceLT, Nat.reduceEqDiff, Nat.reduceMul, Nat.reduceLeDiff, if_true, Zn, reduceCtorEq, ZA, eq_self, Int.reduceLE, Int.reduceLT, Int.reduceToNat, ne_eq, Nat.reduceSub, Tfld35_0, Tld2, nb2_b1, nb3_b2, nb3_b1, nb4_b3, nb4_b2, nb4_b1, ej, hg, e1, e2, e3, e4, ecs, eold]
          repeat refine And.intro (by omega) ?_
          repeat refine And.intro (by omega) ?_
          intro g
          simp only [List.map_cons, List.map_nil, updL, upd, Nat.reduceEqDiff, if_true, if_false, ↓reduceIte]
          refine hK _ _ ?_; clear hK K
          refine Cd.pr [2, 4, 6, 7, 9, 11] (Plan.take 0 (Plan.take 1 (Plan.take 2 (Plan.take 3 (Plan.take 4 (Plan.take 5 (Plan.take 6 (Plan.take 7 (Plan.take 8 (Plan.take 9 (Plan.take 10 (Plan.take 11 (Plan.take 12 (Plan.take 13 (Plan.take 14 (Plan.one 15 (Plan.done))))))))))))))))) fol (by kernel_rfl) (Nat.le_of_ble_eq_true rfl) fun K hK => ?_
          simp (maxSteps := 2000000) (disch := first | (simp only [E4, ej, hg, e1, e2, e3, e4, ecs, eold] <;> omega) | omega | fail) only [↓E2, E3, bare, bareJ, ↓E0, E1, evPlan, env0, envN, evOps, evOp, evQs, evQ, evV, setD, pureOp, ev, upd, updL, binW, eqOp, binV, intOp, shOp, boolOp, fieldAddrV, indexAddrV, cellAt, cellsAt, findB, setB, Value.cells, hav, delB, eqL, SameI, strOp, ↓reduceIte, Zj, Zk, Nat.reduceAdd, Nat.reduceLT, Nat.reduceEqDiff, Nat.reduceMul, Nat.reduceLeDiff, if_true, Zn, reduceCtorEq, ZA, eq_self, Int.reduceLE, Int.reduceLT, Int.reduceToNat, ne_eq, Nat.reduceSub, Tfld35_1, Tld2, Tld31, Tslc31, Tst2, nb2_b1, nb3_b2, nb3_b1, nb4_b3, nb4_b2, nb4_b1, ej, hg, e1, e2, e3, e4, ecs, eold]
          repeat refine And.intro (by omega) ?_
          repeat refine And.intro (by omega) ?_
          intro g
          simp only [List.map_cons, List.map_nil, updL, upd, Nat.reduceEqDiff, if_true, if_false, ↓reduceIte]
          refine hK _ _ ?_; clear hK K
          refine inBN ?_
          refine thenN ?_
          refine Cd.rr [2, 4, 6, 7, 9, 11] fun K hK => ?_
          simp (maxSteps := 2000000) (disch := first | (simp only [E4, ej, hg, e1, e2, e3, e4, ecs, eold] <;> omega) | omega | fail) only [↓E2, E3, bare, bareJ, ↓E0, E1, env0, envN, evOps, evOp, evQs, evQ, evV, setD, pureOp, ev, upd, updL, binW, eqOp, binV, intOp, shOp, boolOp, hav, delB, eqL, SameI, strOp, ↓reduceIte, Zj, Zk, Nat.reduceAdd, Nat.reduceLT, Nat.reduceEqDiff, Nat.reduceMul, Nat.reduceLeDiff, if_true, Zn, reduceCtorEq, ZA, eq_self, Int.reduceLE, Int.reduceLT, Int.reduceToNat, ne_eq, Nat.reduceSub, nb2_b1, nb3_b2, nb3_b1, nb4_b3, nb4_b2, nb4_b1, ej, hg, e1, e2, e3, e4, ecs, eold]
          repeat refine And.intro (by omega) ?_
          repeat refine And.intro (by omega) ?_
          intro g
          simp only [List.map_cons, List.map_nil, updL, upd, Nat.reduceEqDiff, if_true, if_false, ↓reduceIte]
          refine hK _ _ ?_; clear hK K
          exact roundN (m := q - 1) (by omega) ⟨_, i + 1, _, by omega, hcs2, rfl, rfl⟩
        · obtain rfl : i = l2.length := by omega
          refine Cd.exit (thenX (roundX (inBX ?_)))
          refine thenN ?_
          subst hcs
          refine Cd.nodup fun hnd => ?_
          have hrow : SlN 1 (ints .i64 (sumK lo N p1 l1 l1.length p2 l2 l2.length k)) (.slice (some ⟨b4, 0, none⟩) N N) [(b4, ints .i64 (sumK lo N p1 l1 l1.length p2 l2 l2.length k))] := SlN.row (Row.full (by rw [ints_length, sumK_len, Nat.mul_one]))
          refine Cd.rs [6] fun K hK => ?_
          simp (maxSteps := 2000000) (disch := first | (simp only [E4] <;> omega) | omega | fail) only [↓E2, E3, bare, bareJ, ↓E0, E1, env0, envN, evOps, evOp, evQs, evQ, evV, setD, pureOp, ev, upd, updL, cellAt, cellsAt, findB, setB, Value.cells, hav, delB, ↓reduceIte, Zj, Zk, Nat.reduceAdd, Nat.reduceLT, Nat.reduceEqDiff, Nat.reduceMul, Nat.reduceLeDiff, if_true, Zn, reduceCtorEq, ZA, eq_self, Int.reduceLE, Int.reduceLT, Int.reduceToNat, ne_eq, Nat.reduceSub, Tst35, nb2_b1, nb3_b2, nb3_b1, nb4_b3, nb4_b2, nb4_b1]
          repeat refine And.intro (by omega) ?_
          refine callK_newR0 (l04Trim_c lo _ _ _ (hrow.reads fun p hp => mem_toldOf hp) (by rw [sumK_len]; omega) (by omega)) (HoldsAll.toldW (holds_mem hnd fun p hp => by rw [List.mem_singleton.1 hp]; exact List.mem_cons_self)) ?_
          intro v' M' hs' nd' _
          obtain ⟨s', rfl, hs'⟩ := hs'
          obtain ⟨a', m', c', rfl⟩ := hs'.form
          simp only [List.cons_append, List.nil_append] at nd' ⊢
          simp (maxSteps := 2000000) (disch := first | (simp only [E4] <;> omega) | omega | fail) only [↓E2, E3, bare, bareJ, ↓E0, E1, env0, envN, evOps, evOp, evQs, evQ, evV, setD, pureOp, ev, upd, updL, cellAt, cellsAt, findB, setB, Value.cells, hav, delB, ↓reduceIte, Zj, Zk, Nat.reduceAdd, Nat.reduceLT, Nat.reduceEqDiff, Nat.reduceMul, Nat.reduceLeDiff, if_true, Zn, reduceCtorEq, ZA, eq_self, Int.reduceLE, Int.reduceLT, Int.reduceToNat, ne_eq, Nat.reduceSub, Tst35, nb2_b1, nb3_b2, nb3_b1, nb4_b3, nb4_b2, nb4_b1]
          repeat refine And.intro (by omega) ?_
          repeat refine And.intro (by omega) ?_
          intro g
          simp only [List.map_cons, List.map_nil, updL, upd, Nat.reduceEqDiff, if_true, if_false, ↓reduceIte]
          refine hK _ _ ?_; clear hK K
          refine Cd.ret ?_
          simp (maxSteps := 2000000) (disch := first | (simp only [E4] <;> omega) | omega | fail) only [↓E2, E3, bare, bareJ, ↓E0, E1, evP, evPlan, env0, envN, evOps, evOp, evQs, evQ, evV, setD, pureOp, ev, upd, updL, gate, binW, eqOp, binV, intOp, shOp, boolOp, unV, convV, nilV, fieldAddrV, indexAddrV, extractV, cellAt, cellsAt, findB, setB, fillL, buildV, Value.cells, lenV, minV, maxV, hav, sliceV, loV, hiV, bslQ, mksQ, appQ, partsOk, partsCells, delB, eqL, SameI, strOp, apzQ, cvtQ, capV, ↓reduceIte, Zj, Zk, Nat.reduceAdd, Nat.reduceLT, Nat.reduceEqDiff, Nat.reduceMul, Nat.reduceLeDiff, if_true, Zn, reduceCtorEq, ZA, eq_self, Int.reduceLE, Int.reduceLT, Int.reduceToNat, ne_eq, Nat.reduceSub, Tld35, nb2_b1, nb3_b2, nb3_b1, nb4_b3, nb4_b2, nb4_b1]
          repeat refine And.intro (by omega) ?_
          exact ⟨M', SubP.of (List.Sublist.cons _ (List.Sublist.cons _ (List.Sublist.cons _ (List.Sublist.cons _ (List.Sublist.refl _))))), _, rfl, hs'⟩
end

end Go.Proofs

/-
  What the functions of this part hand back: each as a plain function of its arguments. Conditions: none.
-/
namespace Go.Proofs
open Go.W8
set_option linter.unusedVariables false
set_option linter.unusedSimpArgs false
set_option linter.unusedSectionVars false
set_option maxRecDepth 8000
set_option maxHeartbeats 4000000
--@plain
/-- The first place at which a row has the entry r. -/
def rowGo (x : List Int) (r : Int) : Nat → Nat → Nat
  | _, 0 => 0
  | i, m + 1 => if x.getD i 0 = r then i else rowGo x r (i + 1) m
def rowOf (x : List Int) (n : Nat) (r : Int) : Nat := rowGo x r 0 n

theorem rowGo_hit {x : List Int} {r : Int} : ∀ (m i j : Nat), i ≤ j → j < i + m → x.getD j 0 = r → (∀ l, i ≤ l → l < j → x.getD l 0 ≠ r) → rowGo x r i m = j
  | 0, i, j, h1, h2, _, _ => by omega
  | m + 1, i, j, h1, h2, h3, h4 => by
    unfold rowGo
    by_cases h : i = j
    · subst h; rw [if_pos h3]
    · rw [if_neg (h4 i (Nat.le_refl _) (by omega))]
      exact rowGo_hit m (i + 1) j (by omega) (by omega) h3 fun l hl => h4 l (by omega)
theorem rowGo_none {x : List Int} {r : Int} : ∀ (m i : Nat), (∀ l, i ≤ l → l < i + m → x.getD l 0 ≠ r) → rowGo x r i m = 0
  | 0, _, _ => rfl
  | m + 1, i, h => by
    unfold rowGo
    rw [if_neg (h i (Nat.le_refl _) (by omega))]
    exact rowGo_none m (i + 1) fun l hl hl' => h l (by omega) (by omega)
theorem rowOf_hit {x : List Int} {n j : Nat} {r : Int} (hj : j < n) (h : x.getD j 0 = r) (h' : ∀ l, l < j → x.getD l 0 ≠ r) : rowOf x n r = j := rowGo_hit n 0 j (Nat.zero_le _) (by omega) h fun l _ => h' l
theorem rowOf_none {x : List Int} {n : Nat} {r : Int} (h : ∀ l, l < n → x.getD l 0 ≠ r) : rowOf x n r = 0 := rowGo_none n 0 fun l _ hl => h l (by omega)
theorem rowOf_perm {x : List Int} {n j : Nat} (hp : IsPerm x n) (hj : j < n) : rowOf x n (x.getD j 0) = j := rowOf_hit hj rfl fun l hl => hp.2.1 j hj l hl
theorem perm_surj {x : List Int} {n : Nat} (hx : ∀ i, i < n → 0 ≤ x.getD i 0) (hp : IsPerm x n) {r : Int} (h0 : 0 ≤ r) (h1 : r < n) : ∃ i, i < n ∧ x.getD i 0 = r := by
  obtain ⟨i, hi, h⟩ := inj_surj n (fun i => (x.getD i 0).toNat) (fun i hi => by have := hp.1 i hi; have := hx i hi; omega)
    (fun i hi j hj h => by
      have a := hx i hi
      have b := hx j hj
      have h' : (x.getD i 0).toNat = (x.getD j 0).toNat := h
      rcases Nat.lt_trichotomy i j with h2 | h2 | h2
      · exact absurd (by omega) (hp.2.1 j hj i h2)
      · exact h2
      · exact absurd (by omega) (hp.2.1 i hi j h2)) r.toNat (by omega)
  have h' : (x.getD i 0).toNat = r.toNat := h
  exact ⟨i, hi, by have := hx i hi; omega⟩
theorem rowOf_lt {x : List Int} {n : Nat} (hx : ∀ i, i < n → 0 ≤ x.getD i 0) (hp : IsPerm x n) {r : Int} (h0 : 0 ≤ r) (h1 : r < n) : rowOf x n r < n ∧ x.getD (rowOf x n r) 0 = r := by
  obtain ⟨i, hi, rfl⟩ := perm_surj hx hp h0 h1
  rw [rowOf_perm hp hi]
  exact ⟨hi, rfl⟩
/-- The columns of the rows' marks. -/
def plc (x : List Int) (n : Nat) : List Int := (List.range 8).map fun (r : Nat) => (rowOf x n (r : Int) : Int)
def plcTo (x : List Int) (n k : Nat) : List Int := (List.range 8).map fun (r : Nat) => if rowOf x n (r : Int) < k ∧ x.getD (rowOf x n (r : Int)) 0 = (r : Int) then (rowOf x n (r : Int) : Int) else 0
theorem plc_len (x : List Int) (n : Nat) : (plc x n).length = 8 := by simp [plc]
theorem plcTo_len (x : List Int) (n k : Nat) : (plcTo x n k).length = 8 := by simp [plcTo]
theorem plc_get {x : List Int} {n r : Nat} (h : r < 8) : (plc x n).getD r 0 = (rowOf x n (r : Int) : Int) := by
  unfold plc
  rw [List.getD_eq_getElem?_getD, List.getElem?_map, List.getElem?_range h]; rfl
theorem plc_geti {x : List Int} {n : Nat} {r : Int} (h0 : 0 ≤ r) (h : r < 8) : (plc x n).getD r.toNat 0 = (rowOf x n r : Int) := by
  rw [plc_get (by omega)]
  rw [Int.toNat_of_nonneg h0]
theorem plcTo_zero (x : List Int) (n : Nat) : plcTo x n 0 = z8 := by
  unfold plcTo
  simp only [Nat.not_lt_zero, false_and, if_false]
  rfl
theorem plcTo_set {x : List Int} {n k : Nat} (hp : IsPerm x n) (hk : k < n) (hn : n ≤ 8) (h0 : 0 ≤ x.getD k 0) : (plcTo x n k).set (x.getD k 0).toNat (k : Int) = plcTo x n (k + 1) := by
  have h8 := hp.1 k hk
  apply List.ext_getElem?
  intro r
  unfold plcTo
  by_cases hr : r < 8
  · by_cases e : (x.getD k 0).toNat = r
    · subst e
      rw [List.getElem?_set_self (by simpa using hr), List.getElem?_map, List.getElem?_range hr]
      simp only [Option.map_some]
      have e1 : (((x.getD k 0).toNat : Nat) : Int) = x.getD k 0 := Int.toNat_of_nonneg h0
      rw [e1, rowOf_perm hp hk, if_pos ⟨Nat.lt_succ_self k, rfl⟩]
    · rw [List.getElem?_set_ne e, List.getElem?_map, List.getElem?_map, List.getElem?_range hr]
      simp only [Option.map_some]
      congr 1
      by_cases h : rowOf x n (r : Int) < k ∧ x.getD (rowOf x n (r : Int)) 0 = (r : Int)
      · rw [if_pos h, if_pos ⟨by omega, h.2⟩]
      · rw [if_neg h, if_neg fun h' => ?_]
        by_cases h3 : rowOf x n (r : Int) = k
        · rw [h3] at h'
          exact e (by omega)
        · exact h ⟨by omega, h'.2⟩
  · rw [List.getElem?_eq_none (by simp; omega), List.getElem?_eq_none (by simp; omega)]
theorem plcTo_full {x : List Int} {n : Nat} (hx : ∀ i, i < n → 0 ≤ x.getD i 0) (hp : IsPerm x n) : plcTo x n n = plc x n := by
  unfold plcTo plc
  apply List.map_congr_left
  intro r _
  by_cases hr : (r : Int) < n
  · have := rowOf_lt hx hp (r := (r : Int)) (by omega) hr
    rw [if_pos this]
  · have h0 : rowOf x n (r : Int) = 0 := rowOf_none fun l hl he => by have := hp.1 l hl; omega
    rw [h0]
    split <;> rfl

end Go.Proofs

/-
  What the functions of this part hand back: each as a plain function of its arguments. Conditions: none.
-/
namespace Go.Proofs
open Go.W8
set_option linter.unusedVariables false
set_option linter.unusedSimpArgs false
set_option linter.unusedSectionVars false
set_option maxRecDepth 8000
set_option maxHeartbeats 4000000
theorem l01Row_c (x : List Int) (hx : Bytes8 x) (n : Nat) (hn : n ≤ 8) (r : Int) : Gives Try.prog 55 #[.agg (ints .u8 x).toArray, .int .i64 (n : Int), .int .i64 r] (.int .i64 (rowOf x n r : Int)) := by
  have hl := hx.len
  skip
  refine Gives.of fun w => ?_
  refine acall_of (N := 20) (c := _) (rs := [.tmp 6]) (args := [_, _, _]) Try.func55 rfl (by decide) rfl rfl (Nat.le_of_ble_eq_true rfl) ?_
  refine Cd.rs [1, 2, 3] fun K hK => ?_
  simp (maxSteps := 2000000) (disch := first | (simp only [E4, hl] <;> omega) | omega | fail) only [↓E2, E3, bare, bareJ, ↓E0, E1, env0, envN, evOps, evOp, evQs, evQ, evV, setD, pureOp, ev, upd, updL, Value.cells, hav, delB, ↓reduceIte, Zj, Zk, Nat.reduceAdd, Nat.reduceLT, Nat.reduceEqDiff, Nat.reduceMul, Nat.reduceLeDiff, if_true, Zn, reduceCtorEq, ZA, eq_self, Int.reduceLE, Int.reduceLT, Int.reduceToNat, ne_eq, Nat.reduceSub, hl]
  repeat refine And.intro (by omega) ?_
  intro b1 hb1
  try simp (maxSteps := 2000000) (disch := first | (simp only [E4, hl] <;> omega) | omega | fail) only [↓E2, E3, bare, bareJ, ↓E0, E1, env0, envN, evOps, evOp, evQs, evQ, evV, setD, pureOp, ev, upd, updL, Value.cells, hav, delB, ↓reduceIte, Zj, Zk, Nat.reduceAdd, Nat.reduceLT, Nat.reduceEqDiff, Nat.reduceMul, Nat.reduceLeDiff, if_true, Zn, reduceCtorEq, ZA, eq_self, Int.reduceLE, Int.reduceLT, Int.reduceToNat, ne_eq, Nat.reduceSub, hl]
  repeat refine And.intro (by omega) ?_
  intro g
  simp only [List.map_cons, List.map_nil, updL, upd, Nat.reduceEqDiff, if_true, if_false, ↓reduceIte]
  refine hK _ _ ?_; clear hK K
  refine Cd.seq ?_
  refine Cd.rs [1, 2, 3, 7] fun K hK => ?_
  simp (maxSteps := 2000000) (disch := first | (simp only [E4, hl] <;> omega) | omega | fail) only [↓E2, E3, bare, bareJ, ↓E0, E1, env0, envN, evOps, evOp, evQs, evQ, evV, setD, pureOp, ev, upd, updL, hav, delB, ↓reduceIte, Zj, Zk, Nat.reduceAdd, Nat.reduceLT, Nat.reduceEqDiff, Nat.reduceMul, Nat.reduceLeDiff, if_true, Zn, reduceCtorEq, ZA, eq_self, Int.reduceLE, Int.reduceLT, Int.reduceToNat, ne_eq, Nat.reduceSub, hl]
  repeat refine And.intro (by omega) ?_
  intro g
  simp only [List.map_cons, List.map_nil, updL, upd, Nat.reduceEqDiff, if_true, if_false, ↓reduceIte]
  refine hK _ _ ?_; clear hK K
  refine Cd.block ?_
  refine Cd.loop (fun m ρ M => ∃ g k, k + m = n ∧ (∀ l, l < k → x.getD l 0 ≠ r) ∧ ρ = updL [(1, .int .i64 (n : Int)), (2, .int .i64 r), (3, .pointer (some ⟨b1, 0, none⟩)), (7, .int .i64 (k : Int))] g ∧ M = [(b1, ints .u8 x)]) n ⟨_, 0, Nat.zero_add _, (fun _ h => absurd h (Nat.not_lt_zero _)), rfl, rfl⟩ ?_
  rintro m ρ M ⟨g, k, hk, hno, rfl, rfl⟩
  refine Cd.seq ?_
  refine Cd.rs [1, 2, 3, 7, 10] fun K hK => ?_
  simp (maxSteps := 2000000) (disch := first | (simp only [E4, hl] <;> omega) | omega | fail) only [↓E2, E3, bare, bareJ, ↓E0, E1, env0, envN, evOps, evOp, evQs, evQ, evV, setD, pureOp, ev, upd, updL, binW, eqOp, binV, intOp, shOp, boolOp, hav, delB, eqL, SameI, strOp, ↓reduceIte, Zj, Zk, Nat.reduceAdd, Nat.reduceLT, Nat.reduceEqDiff, Nat.reduceMul, Nat.reduceLeDiff, if_true, Zn, reduceCtorEq, ZA, eq_self, Int.reduceLE, Int.reduceLT, Int.reduceToNat, ne_eq, Nat.reduceSub, hl]
  repeat refine And.intro (by omega) ?_
  intro g
  simp only [List.map_cons, List.map_nil, updL, upd, Nat.reduceEqDiff, if_true, if_false, ↓reduceIte]
  refine hK _ _ ?_; clear hK K
  refine Cd.condd rfl (fun h1 => ?_) (fun h1 => ?_)
  · have c1 := bytes_get hx (i := k) (by omega)
    refine Cd.skip ?_
    refine thenN ?_
    refine Cd.seq ?_
    refine Cd.block ?_
    refine Cd.rs [1, 2, 3, 7, 18] fun K hK => ?_
    simp (maxSteps := 2000000) (disch := first | (simp only [E4, hl] <;> omega) | omega | fail) only [↓E2, E3, bare, bareJ, ↓E0, E1, env0, envN, evOps, evOp, evQs, evQ, evV, setD, pureOp, ev, upd, updL, binW, eqOp, binV, intOp, shOp, boolOp, convV, indexAddrV, cellAt, cellsAt, findB, hav, delB, eqL, SameI, strOp, cvtQ, ↓reduceIte, Zj, Zk, Nat.reduceAdd, Nat.reduceLT, Nat.reduceEqDiff, Nat.reduceMul, Nat.reduceLeDiff, if_true, Zn, reduceCtorEq, ZA, eq_self, Int.reduceLE, Int.reduceLT, Int.reduceToNat, ne_eq, Nat.reduceSub, Tarr22, Tint2, Tld5, Tpar5, hl]
    repeat refine And.intro (by omega) ?_
    repeat refine And.intro (by omega) ?_
    intro g
    simp only [List.map_cons, List.map_nil, updL, upd, Nat.reduceEqDiff, if_true, if_false, ↓reduceIte]
    refine hK _ _ ?_; clear hK K
    refine Cd.cond rfl (fun h2 => ?_) (fun h2 => ?_)
    · refine Cd.rs [6] fun K hK => ?_
      simp (maxSteps := 2000000) (disch := first | (simp only [E4, hl] <;> omega) | omega | fail) only [↓E2, E3, bare, bareJ, ↓E0, E1, env0, envN, evOps, evOp, evQs, evQ, evV, setD, pureOp, ev, upd, updL, hav, delB, ↓reduceIte, Zj, Zk, Nat.reduceAdd, Nat.reduceLT, Nat.reduceEqDiff, Nat.reduceMul, Nat.reduceLeDiff, if_true, Zn, reduceCtorEq, ZA, eq_self, Int.reduceLE, Int.reduceLT, Int.reduceToNat, ne_eq, Nat.reduceSub, hl]
      repeat refine And.intro (by omega) ?_
      intro g
      simp only [List.map_cons, List.map_nil, updL, upd, Nat.reduceEqDiff, if_true, if_false, ↓reduceIte]
      refine hK _ _ ?_; clear hK K
      refine Cd.ret (inBR (thenR (roundR (inBR (thenR ?_)))))
      simp (maxSteps := 2000000) (disch := first | (simp only [E4, hl] <;> omega) | omega | fail) only [↓E2, E3, bare, bareJ, ↓E0, E1, evP, evPlan, env0, envN, evOps, evOp, evQs, evQ, evV, setD, pureOp, ev, upd, updL, gate, binW, eqOp, binV, intOp, shOp, boolOp, unV, convV, nilV, fieldAddrV, indexAddrV, extractV, cellAt, cellsAt, findB, setB, fillL, buildV, Value.cells, lenV, minV, maxV, hav, sliceV, loV, hiV, bslQ, mksQ, appQ, partsOk, partsCells, delB, eqL, SameI, strOp, apzQ, cvtQ, capV, ↓reduceIte, Zj, Zk, Nat.reduceAdd, Nat.reduceLT, Nat.reduceEqDiff, Nat.reduceMul, Nat.reduceLeDiff, if_true, Zn, reduceCtorEq, ZA, eq_self, Int.reduceLE, Int.reduceLT, Int.reduceToNat, ne_eq, Nat.reduceSub, hl]
      rw [rowOf_hit (by omega) (by simpa using h2) hno]
    · refine Cd.skip ?_
      refine inBN ?_
      refine thenN ?_
      refine Cd.rr [1, 2, 3, 7] fun K hK => ?_
      simp (maxSteps := 2000000) (disch := first | (simp only [E4, hl] <;> omega) | omega | fail) only [↓E2, E3, bare, bareJ, ↓E0, E1, env0, envN, evOps, evOp, evQs, evQ, evV, setD, pureOp, ev, upd, updL, binW, eqOp, binV, intOp, shOp, boolOp, hav, delB, eqL, SameI, strOp, ↓reduceIte, Zj, Zk, Nat.reduceAdd, Nat.reduceLT, Nat.reduceEqDiff, Nat.reduceMul, Nat.reduceLeDiff, if_true, Zn, reduceCtorEq, ZA, eq_self, Int.reduceLE, Int.reduceLT, Int.reduceToNat, ne_eq, Nat.reduceSub, hl]
      repeat refine And.intro (by omega) ?_
      intro g
      simp only [List.map_cons, List.map_nil, updL, upd, Nat.reduceEqDiff, if_true, if_false, ↓reduceIte]
      refine hK _ _ ?_; clear hK K
      refine roundN (m := m - 1) (by omega) ⟨_, k + 1, by omega, fun l hl => ?_, rfl, rfl⟩
      rcases Nat.lt_succ_iff_lt_or_eq.1 hl with h | rfl
      · exact hno l h
      · simpa using h2
  · refine Cd.exit (thenX (roundX (inBX ?_)))
    refine thenN ?_
    obtain rfl : k = n := by omega
    refine Cd.rs [6] fun K hK => ?_
    simp (maxSteps := 2000000) (disch := first | (simp only [E4, hl] <;> omega) | omega | fail) only [↓E2, E3, bare, bareJ, ↓E0, E1, env0, envN, evOps, evOp, evQs, evQ, evV, setD, pureOp, ev, upd, updL, hav, delB, ↓reduceIte, Zj, Zk, Nat.reduceAdd, Nat.reduceLT, Nat.reduceEqDiff, Nat.reduceMul, Nat.reduceLeDiff, if_true, Zn, reduceCtorEq, ZA, eq_self, Int.reduceLE, Int.reduceLT, Int.reduceToNat, ne_eq, Nat.reduceSub, hl]
    repeat refine And.intro (by omega) ?_
    intro g
    simp only [List.map_cons, List.map_nil, updL, upd, Nat.reduceEqDiff, if_true, if_false, ↓reduceIte]
    refine hK _ _ ?_; clear hK K
    refine Cd.ret ?_
    simp (maxSteps := 2000000) (disch := first | (simp only [E4, hl] <;> omega) | omega | fail) only [↓E2, E3, bare, bareJ, ↓E0, E1, evP, evPlan, env0, envN, evOps, evOp, evQs, evQ, evV, setD, pureOp, ev, upd, updL, gate, binW, eqOp, binV, intOp, shOp, boolOp, unV, convV, nilV, fieldAddrV, indexAddrV, extractV, cellAt, cellsAt, findB, setB, fillL, buildV, Value.cells, lenV, minV, maxV, hav, sliceV, loV, hiV, bslQ, mksQ, appQ, partsOk, partsCells, delB, eqL, SameI, strOp, apzQ, cvtQ, capV, ↓reduceIte, Zj, Zk, Nat.reduceAdd, Nat.reduceLT, Nat.reduceEqDiff, Nat.reduceMul, Nat.reduceLeDiff, if_true, Zn, reduceCtorEq, ZA, eq_self, Int.reduceLE, Int.reduceLT, Int.reduceToNat, ne_eq, Nat.reduceSub, hl]
    rw [rowOf_none hno]
    rfl

end Go.Proofs

/-
  What the functions of this part hand back: each as a plain function of its arguments. Conditions: none.
-/
namespace Go.Proofs
open Go.W8
set_option linter.unusedVariables false
set_option linter.unusedSimpArgs false
set_option linter.unusedSectionVars false
set_option maxRecDepth 8000
set_option maxHeartbeats 4000000
--@plain
/-- The labels of a walk that goes on till it meets a label. -/
def walkC (nx : Nat → Nat) (c : Int) : Nat → Nat → List Int → List Int
  | 0, _, l => l
  | f + 1, k, l => if l.getD k 0 < 0 then walkC nx c f (nx k) (l.set k c) else l
/-- The labels and their number, by the columns ahead of i. -/
def compTo (nx : Nat → Nat) : Nat → List Int × Nat
  | 0 => (List.replicate 8 (-1), 0)
  | i + 1 => if 0 ≤ (compTo nx i).1.getD i 0 then compTo nx i else (walkC nx (compTo nx i).2 8 i (compTo nx i).1, (compTo nx i).2 + 1)
def negs (l : List Int) : Nat := l.countP fun e => decide (e < 0)

theorem cgetD_set {l : List Int} {i j : Nat} {v : Int} (h : i < l.length) : (l.set i v).getD j 0 = if i = j then v else l.getD j 0 := by
  rw [List.getD_eq_getElem?_getD, List.getElem?_set]
  by_cases e : i = j
  · subst e; rw [if_pos rfl, if_pos h, if_pos rfl]; rfl
  · rw [if_neg e, if_neg e, List.getD_eq_getElem?_getD]

theorem negs_set {c : Int} (hc : 0 ≤ c) : ∀ (l : List Int) (k : Nat), k < l.length → l.getD k 0 < 0 → negs (l.set k c) + 1 = negs l
  | [], k, h, _ => by simp at h
  | a :: l, 0, _, h => by
    have h : a < 0 := by simpa using h
    have h' : ¬ c < 0 := by omega
    simp [negs, h, h']
  | a :: l, k + 1, h, h1 => by
    have ih := negs_set hc l k (by simpa using h) (by simpa using h1)
    unfold negs at ih ⊢
    rw [List.set_cons_succ, List.countP_cons, List.countP_cons]
    omega
theorem negs_le {l : List Int} (h : l.length = 8) : negs l ≤ 8 := by
  unfold negs
  rw [← h]
  exact List.countP_le_length
theorem negs_pos {l : List Int} {k : Nat} (h : k < l.length) (h' : l.getD k 0 < 0) : 0 < negs l := by
  have := negs_set (c := 0) (Int.le_refl _) l k h h'
  omega

theorem walkC_end {nx : Nat → Nat} {c : Int} {k : Nat} {l : List Int} (h : ¬ l.getD k 0 < 0) : ∀ f, walkC nx c f k l = l
  | 0 => rfl
  | f + 1 => by unfold walkC; rw [if_neg h]
theorem walkC_step {nx : Nat → Nat} {c : Int} {k f : Nat} {l : List Int} (h : l.getD k 0 < 0) : walkC nx c (f + 1) k l = walkC nx c f (nx k) (l.set k c) := by
  show (if _ then _ else _) = _
  rw [if_pos h]
theorem walkC_len {nx : Nat → Nat} {c : Int} : ∀ (f k : Nat) (l : List Int), (walkC nx c f k l).length = l.length
  | 0, _, _ => rfl
  | f + 1, k, l => by
    unfold walkC
    split
    · rw [walkC_len f, List.length_set]
    · rfl
theorem walkC_get {nx : Nat → Nat} {c : Int} (hc : 0 ≤ c) : ∀ (f k : Nat) (l : List Int) (i : Nat), (walkC nx c f k l).getD i 0 = l.getD i 0 ∨ ((walkC nx c f k l).getD i 0 = c ∧ l.getD i 0 < 0)
  | 0, _, _, _ => .inl rfl
  | f + 1, k, l, i => by
    unfold walkC
    split
    · rename_i hk
      by_cases hkl : k < l.length
      · rcases walkC_get hc f (nx k) (l.set k c) i with h | ⟨h, h'⟩
        · rw [h, cgetD_set hkl]
          by_cases e : k = i
          · subst e; rw [if_pos rfl]; exact .inr ⟨rfl, hk⟩
          · rw [if_neg e]; exact .inl rfl
        · rw [cgetD_set hkl] at h'
          by_cases e : k = i
          · rw [if_pos e] at h'; omega
          · rw [if_neg e] at h'; exact .inr ⟨h, h'⟩
      · rw [List.set_eq_of_length_le (by omega)]
        exact walkC_get hc f (nx k) l i
    · exact .inl rfl
theorem walkC_self {nx : Nat → Nat} {c : Int} (hc : 0 ≤ c) {f k : Nat} {l : List Int} (hk : k < l.length) (h : l.getD k 0 < 0) : (walkC nx c (f + 1) k l).getD k 0 = c := by
  rw [walkC_step h]
  rcases walkC_get (nx := nx) hc f (nx k) (l.set k c) k with h | ⟨h, h'⟩
  · rw [h, cgetD_set hk, if_pos rfl]
  · exact h

theorem compTo_len (nx : Nat → Nat) : ∀ i, (compTo nx i).1.length = 8
  | 0 => rfl
  | i + 1 => by
    unfold compTo
    split
    · exact compTo_len nx i
    · show (walkC _ _ _ _ _).length = 8
      rw [walkC_len]; exact compTo_len nx i
theorem compTo_count (nx : Nat → Nat) : ∀ i, (compTo nx i).2 ≤ i
  | 0 => Nat.le_refl _
  | i + 1 => by
    have ih := compTo_count nx i
    unfold compTo
    split
    · omega
    · show (compTo nx i).2 + 1 ≤ _; omega
theorem compTo_bound (nx : Nat → Nat) : ∀ i j, j < 8 → -1 ≤ (compTo nx i).1.getD j 0 ∧ (compTo nx i).1.getD j 0 < ((compTo nx i).2 : Int)
  | 0, j, h => by
    have : (compTo nx 0).1.getD j 0 = -1 := by
      show (List.replicate 8 (-1 : Int)).getD j 0 = -1
      rw [List.getD_eq_getElem?_getD, List.getElem?_replicate_of_lt h]; rfl
    rw [this]
    show _ ∧ (-1 : Int) < ((0 : Nat) : Int)
    omega
  | i + 1, j, h => by
    have ih := compTo_bound nx i j h
    unfold compTo
    split
    · exact ih
    · show _ ≤ (walkC _ _ _ _ _).getD j 0 ∧ (walkC _ _ _ _ _).getD j 0 < (((compTo nx i).2 + 1 : Nat) : Int)
      rcases walkC_get (nx := nx) (c := ((compTo nx i).2 : Int)) (by omega) 8 i (compTo nx i).1 j with h1 | ⟨h1, _⟩
      · rw [h1]; omega
      · rw [h1]; omega
theorem compTo_done (nx : Nat → Nat) : ∀ i, i ≤ 8 → ∀ j, j < i → 0 ≤ (compTo nx i).1.getD j 0
  | 0, _, j, h => absurd h (Nat.not_lt_zero _)
  | i + 1, hi, j, h => by
    unfold compTo
    split
    · rename_i h0
      rcases Nat.lt_succ_iff_lt_or_eq.1 h with h1 | rfl
      · exact compTo_done nx i (by omega) j h1
      · exact h0
    · rename_i h0
      show 0 ≤ (walkC _ _ _ _ _).getD j 0
      rcases Nat.lt_succ_iff_lt_or_eq.1 h with h1 | rfl
      · have := compTo_done nx i (by omega) j h1
        rcases walkC_get (nx := nx) (c := ((compTo nx i).2 : Int)) (by omega) 8 i (compTo nx i).1 j with h1 | ⟨h1, _⟩
        · rw [h1]; exact this
        · rw [h1]; omega
      · rw [walkC_self (by omega) (by rw [compTo_len]; omega) (by omega)]
        omega
theorem compTo_same {nx : Nat → Nat} {i : Nat} (h : 0 ≤ (compTo nx i).1.getD i 0) : compTo nx (i + 1) = compTo nx i := by
  show (if _ then _ else _) = _
  rw [if_pos h]
theorem compTo_more {nx : Nat → Nat} {i : Nat} (h : ¬ 0 ≤ (compTo nx i).1.getD i 0) : compTo nx (i + 1) = (walkC nx (compTo nx i).2 8 i (compTo nx i).1, (compTo nx i).2 + 1) := by
  show (if _ then _ else _) = _
  rw [if_neg h]

/-- The next column of a component. -/
def nextOf (n : Nat) (x o : List Int) (k : Nat) : Nat := rowOf x n (o.getD k 0)
def comps (n : Nat) (x o : List Int) : List Int × Nat := compTo (nextOf n x o) n
/-- All entries one more. -/
def incL (l : List Int) : List Int := l.map (· + 1)
theorem incL_len (l : List Int) : (incL l).length = l.length := by simp [incL]
theorem incL_get {l : List Int} {i : Nat} (h : i < l.length) : (incL l).getD i 0 = l.getD i 0 + 1 := by
  unfold incL
  rw [List.getD_eq_getElem?_getD, List.getElem?_map, List.getD_eq_getElem?_getD, List.getElem?_eq_getElem h]
  rfl
theorem incL_set {l : List Int} {i : Nat} {v : Int} : (incL l).set i (v + 1) = incL (l.set i v) := by
  unfold incL
  rw [List.map_set]
/-- The first k entries one less again. -/
def decTo (l : List Int) (k : Nat) : List Int := (List.range 8).map fun j => if j < k then l.getD j 0 else l.getD j 0 + 1
theorem decTo_len (l : List Int) (k : Nat) : (decTo l k).length = 8 := by simp [decTo]
theorem decTo_get {l : List Int} {k j : Nat} (h : j < 8) : (decTo l k).getD j 0 = if j < k then l.getD j 0 else l.getD j 0 + 1 := by
  unfold decTo
  rw [List.getD_eq_getElem?_getD, List.getElem?_map, List.getElem?_range h]; rfl
theorem decTo_zero {l : List Int} (h : l.length = 8) : decTo l 0 = incL l := by
  apply List.ext_getElem?
  intro j
  unfold decTo incL
  rw [List.getElem?_map, List.getElem?_map]
  by_cases hj : j < 8
  · rw [List.getElem?_range hj, List.getElem?_eq_getElem (by omega)]
    simp [List.getD_eq_getElem?_getD, List.getElem?_eq_getElem (show j < l.length by omega)]
  · rw [List.getElem?_eq_none (by simp; omega), List.getElem?_eq_none (by omega)]; rfl
theorem decTo_set {l : List Int} {k : Nat} (hk : k < 8) : (decTo l k).set k (l.getD k 0) = decTo l (k + 1) := by
  apply List.ext_getElem?
  intro j
  unfold decTo
  by_cases hj : j < 8
  · by_cases e : k = j
    · subst e
      rw [List.getElem?_set_self (by simpa using hj), List.getElem?_map, List.getElem?_range hj]
      simp
    · rw [List.getElem?_set_ne e, List.getElem?_map, List.getElem?_map, List.getElem?_range hj]
      simp only [Option.map_some]
      by_cases h : j < k
      · rw [if_pos h, if_pos (by omega)]
      · rw [if_neg h, if_neg (by omega)]
  · rw [List.getElem?_eq_none (by simp; omega), List.getElem?_eq_none (by simp; omega)]
theorem fillTo_set (k : Nat) (hk : k < 8) : (upto 8 (fun _ => -1) 0 k).set k (-1) = upto 8 (fun _ => -1) 0 (k + 1) := upto_set rfl
theorem fillTo_full : upto 8 (fun _ => -1) 0 8 = List.replicate 8 (-1) := of_eq_true (eq_true (by decide))

end Go.Proofs

/-
  What the functions of this part hand back: each as a plain function of its arguments. Conditions: none.
-/
namespace Go.Proofs
open Go.W8
set_option linter.unusedVariables false
set_option linter.unusedSimpArgs false
set_option linter.unusedSectionVars false
set_option maxRecDepth 8000
set_option maxHeartbeats 4000000
theorem l01Follow_c (n : Nat) (x o : List Int) (hx : Bytes8 x) (ho : Bytes8 o) (hn : n ≤ 8) (k : Nat) (hk : k < 8) : Gives Try.prog 43 #[.agg (gc (n : Int) x o).toArray, .int .i64 (k : Int)] (.int .i64 (nextOf n x o k : Int)) := by
  have hl := hx.len
  have hm := ho.len
  have c1 := bytes_get ho hk
  skip
  refine Gives.of fun w => ?_
  refine acall_of (N := 15) (c := _) (rs := [.tmp 4]) (args := [_, _]) Try.func43 rfl (by decide) rfl rfl (Nat.le_of_ble_eq_true rfl) ?_
  refine Cd.rs [1, 2] fun K hK => ?_
  simp (maxSteps := 2000000) (disch := first | (simp only [E4, hl, hm] <;> omega) | omega | fail) only [↓E2, E3, bare, bareJ, ↓E0, E1, env0, envN, evOps, evOp, evQs, evQ, evV, setD, pureOp, ev, upd, updL, Value.cells, hav, delB, ↓reduceIte, Zj, Zk, Nat.reduceAdd, Nat.reduceLT, Nat.reduceEqDiff, Nat.reduceMul, Nat.reduceLeDiff, if_true, Zn, reduceCtorEq, ZA, eq_self, Int.reduceLE, Int.reduceLT, Int.reduceToNat, ne_eq, Nat.reduceSub, hl, hm]
  repeat refine And.intro (by omega) ?_
  intro b1 hb1
  try simp (maxSteps := 2000000) (disch := first | (simp only [E4, hl, hm] <;> omega) | omega | fail) only [↓E2, E3, bare, bareJ, ↓E0, E1, env0, envN, evOps, evOp, evQs, evQ, evV, setD, pureOp, ev, upd, updL, Value.cells, hav, delB, ↓reduceIte, Zj, Zk, Nat.reduceAdd, Nat.reduceLT, Nat.reduceEqDiff, Nat.reduceMul, Nat.reduceLeDiff, if_true, Zn, reduceCtorEq, ZA, eq_self, Int.reduceLE, Int.reduceLT, Int.reduceToNat, ne_eq, Nat.reduceSub, hl, hm]
  repeat refine And.intro (by omega) ?_
  intro g
  simp only [List.map_cons, List.map_nil, updL, upd, Nat.reduceEqDiff, if_true, if_false, ↓reduceIte]
  refine hK _ _ ?_; clear hK K
  refine Cd.qs [4] fol (by kernel_rfl) fun K hK => ?_
  simp (maxSteps := 2000000) (disch := first | (simp only [E4, hl, hm] <;> omega) | omega | fail) only [↓E2, E3, bare, bareJ, ↓E0, E1, evPlan, env0, envN, evOps, evOp, evQs, evQ, evV, setD, pureOp, ev, upd, updL, convV, fieldAddrV, indexAddrV, cellAt, cellsAt, findB, setB, hav, delB, cvtQ, ↓reduceIte, Zj, Zk, Nat.reduceAdd, Nat.reduceLT, Nat.reduceEqDiff, Nat.reduceMul, Nat.reduceLeDiff, if_true, Zn, reduceCtorEq, ZA, eq_self, Int.reduceLE, Int.reduceLT, Int.reduceToNat, ne_eq, Nat.reduceSub, Tarr22, Tfld27_0, Tfld27_1, Tfld27_2, Tint2, Tld2, Tld22, Tld5, Tpar5, hl, hm]
  repeat refine And.intro (by omega) ?_
  refine callQ_gives (l01Row_c _ hx _ hn _) ?_
  simp (maxSteps := 2000000) (disch := first | (simp only [E4, hl, hm] <;> omega) | omega | fail) only [↓E2, E3, bare, bareJ, ↓E0, E1, evPlan, env0, envN, evOps, evOp, evQs, evQ, evV, setD, pureOp, ev, upd, updL, convV, fieldAddrV, indexAddrV, cellAt, cellsAt, findB, setB, hav, delB, cvtQ, ↓reduceIte, Zj, Zk, Nat.reduceAdd, Nat.reduceLT, Nat.reduceEqDiff, Nat.reduceMul, Nat.reduceLeDiff, if_true, Zn, reduceCtorEq, ZA, eq_self, Int.reduceLE, Int.reduceLT, Int.reduceToNat, ne_eq, Nat.reduceSub, Tarr22, Tfld27_0, Tfld27_1, Tfld27_2, Tint2, Tld2, Tld22, Tld5, Tpar5, hl, hm]
  repeat refine And.intro (by omega) ?_
  intro g
  simp only [List.map_cons, List.map_nil, updL, upd, Nat.reduceEqDiff, if_true, if_false, ↓reduceIte]
  refine hK _ ?_; clear hK K
  refine Cd.ret ?_
  simp (maxSteps := 2000000) (disch := first | (simp only [E4, hl, hm] <;> omega) | omega | fail) only [↓E2, E3, bare, bareJ, ↓E0, E1, evP, evPlan, env0, envN, evOps, evOp, evQs, evQ, evV, setD, pureOp, ev, upd, updL, gate, binW, eqOp, binV, intOp, shOp, boolOp, unV, convV, nilV, fieldAddrV, indexAddrV, extractV, cellAt, cellsAt, findB, setB, fillL, buildV, Value.cells, lenV, minV, maxV, hav, sliceV, loV, hiV, bslQ, mksQ, appQ, partsOk, partsCells, delB, eqL, SameI, strOp, apzQ, cvtQ, capV, ↓reduceIte, Zj, Zk, Nat.reduceAdd, Nat.reduceLT, Nat.reduceEqDiff, Nat.reduceMul, Nat.reduceLeDiff, if_true, Zn, reduceCtorEq, ZA, eq_self, Int.reduceLE, Int.reduceLT, Int.reduceToNat, ne_eq, Nat.reduceSub, hl, hm]
  rfl

theorem l01Components_c (n : Nat) (x o : List Int) (hx : Bytes8 x) (ho : Bytes8 o) (hn : n ≤ 8) (hp : IsPerm x n) (hq : IsPerm o n) : Gives Try.prog 21 #[.agg (gc (n : Int) x o).toArray] (.tuple #[.agg (ints .i64 (comps n x o).1).toArray, .int .i64 ((comps n x o).2 : Int)]) := by
  have hl := hx.len
  have hm := ho.len
  skip
  refine Gives.of fun w => ?_
  refine acall_of (N := 41) (c := _) (rs := [.cell 2 44, .tmp 3]) (args := [_]) Try.func21 rfl (by decide) rfl rfl (Nat.le_of_ble_eq_true rfl) ?_
  refine Cd.rs [1, 2] fun K hK => ?_
  simp (maxSteps := 2000000) (disch := first | (simp only [E4, hl, hm] <;> omega) | omega | fail) only [↓E2, E3, bare, bareJ, ↓E0, E1, env0, envN, evOps, evOp, evQs, evQ, evV, setD, pureOp, ev, upd, updL, Value.cells, hav, delB, ↓reduceIte, Zj, Zk, Nat.reduceAdd, Nat.reduceLT, Nat.reduceEqDiff, Nat.reduceMul, Nat.reduceLeDiff, if_true, Zn, reduceCtorEq, ZA, eq_self, Int.reduceLE, Int.reduceLT, Int.reduceToNat, ne_eq, Nat.reduceSub, Tzero44, hl, hm]
  repeat refine And.intro (by omega) ?_
  intro b1 hb1
  intro b2 hb2
  have nb2_b1 := hb2.ne
  try simp (maxSteps := 2000000) (disch := first | (simp only [E4, hl, hm] <;> omega) | omega | fail) only [↓E2, E3, bare, bareJ, ↓E0, E1, env0, envN, evOps, evOp, evQs, evQ, evV, setD, pureOp, ev, upd, updL, Value.cells, hav, delB, ↓reduceIte, Zj, Zk, Nat.reduceAdd, Nat.reduceLT, Nat.reduceEqDiff, Nat.reduceMul, Nat.reduceLeDiff, if_true, Zn, reduceCtorEq, ZA, eq_self, Int.reduceLE, Int.reduceLT, Int.reduceToNat, ne_eq, Nat.reduceSub, Tzero44, hl, hm, nb2_b1]
  repeat refine And.intro (by omega) ?_
  intro g
  simp only [List.map_cons, List.map_nil, updL, upd, Nat.reduceEqDiff, if_true, if_false, ↓reduceIte]
  refine hK _ _ ?_; clear hK K
  refine Cd.rs [1, 2, 4, 5] fun K hK => ?_
  simp (maxSteps := 2000000) (disch := first | (simp only [E4, hl, hm] <;> omega) | omega | fail) only [↓E2, E3, bare, bareJ, ↓E0, E1, evP, env0, envN, evOps, evOp, evQs, evQ, evV, setD, pureOp, ev, upd, updL, cellAt, cellsAt, findB, setB, fillL, buildV, Value.cells, hav, delB, ↓reduceIte, Zj, Zk, Nat.reduceAdd, Nat.reduceLT, Nat.reduceEqDiff, Nat.reduceMul, Nat.reduceLeDiff, if_true, Zn, reduceCtorEq, ZA, eq_self, Int.reduceLE, Int.reduceLT, Int.reduceToNat, ne_eq, Nat.reduceSub, Tbld44, Tst44, Tzero44, hl, hm, nb2_b1]
  repeat refine And.intro (by omega) ?_
  intro b3 hb3
  have nb3_b2 := hb3.ne
  have nb3_b1 := hb3.tail.ne
  try simp (maxSteps := 2000000) (disch := first | (simp only [E4, hl, hm] <;> omega) | omega | fail) only [↓E2, E3, bare, bareJ, ↓E0, E1, evP, env0, envN, evOps, evOp, evQs, evQ, evV, setD, pureOp, ev, upd, updL, cellAt, cellsAt, findB, setB, fillL, buildV, Value.cells, hav, delB, ↓reduceIte, Zj, Zk, Nat.reduceAdd, Nat.reduceLT, Nat.reduceEqDiff, Nat.reduceMul, Nat.reduceLeDiff, if_true, Zn, reduceCtorEq, ZA, eq_self, Int.reduceLE, Int.reduceLT, Int.reduceToNat, ne_eq, Nat.reduceSub, Tbld44, Tst44, Tzero44, hl, hm, nb2_b1, nb3_b2, nb3_b1]
  repeat refine And.intro (by omega) ?_
  intro g
  simp only [List.map_cons, List.map_nil, updL, upd, Nat.reduceEqDiff, if_true, if_false, ↓reduceIte]
  refine hK _ _ ?_; clear hK K
  refine Cd.seq ?_
  refine Cd.rs [1, 2, 4, 5, 6] fun K hK => ?_
  simp (maxSteps := 2000000) (disch := first | (simp only [E4, hl, hm] <;> omega) | omega | fail) only [↓E2, E3, bare, bareJ, ↓E0, E1, env0, envN, evOps, evOp, evQs, evQ, evV, setD, pureOp, ev, upd, updL, hav, delB, ↓reduceIte, Zj, Zk, Nat.reduceAdd, Nat.reduceLT, Nat.reduceEqDiff, Nat.reduceMul, Nat.reduceLeDiff, if_true, Zn, reduceCtorEq, ZA, eq_self, Int.reduceLE, Int.reduceLT, Int.reduceToNat, ne_eq, Nat.reduceSub, hl, hm, nb2_b1, nb3_b2, nb3_b1]
  repeat refine And.intro (by omega) ?_
  intro g
  simp only [List.map_cons, List.map_nil, updL, upd, Nat.reduceEqDiff, if_true, if_false, ↓reduceIte]
  refine hK _ _ ?_; clear hK K
  refine Cd.block ?_
  refine Cd.loop (fun m ρ M => ∃ g k, k + m = 8 ∧ ρ = updL ([(1, .pointer (some ⟨b1, 0, none⟩)), (2, .pointer (some ⟨b2, 0, none⟩)), (4, .pointer (some ⟨b3, 0, none⟩)), (5, .int .i64 0), (6, .int .i64 (k : Int))]) g ∧ M = [(b3, ints .i64 (upto 8 (fun _ => -1) 0 k)), (b2, ints .i64 z8), (b1, gc (n : Int) x o)]) 8 ⟨_, 0, Nat.zero_add _, rfl, rfl⟩ ?_
  rintro m ρ M ⟨g, k, hk, rfl, rfl⟩
  refine Cd.seq ?_
  refine Cd.rs [1, 2, 4, 5, 6, 11] fun K hK => ?_
  simp (maxSteps := 2000000) (disch := first | (simp only [E4, hl, hm] <;> omega) | omega | fail) only [↓E2, E3, bare, bareJ, ↓E0, E1, env0, envN, evOps, evOp, evQs, evQ, evV, setD, pureOp, ev, upd, updL, binW, eqOp, binV, intOp, shOp, boolOp, hav, delB, eqL, SameI, strOp, ↓reduceIte, Zj, Zk, Nat.reduceAdd, Nat.reduceLT, Nat.reduceEqDiff, Nat.reduceMul, Nat.reduceLeDiff, if_true, Zn, reduceCtorEq, ZA, eq_self, Int.reduceLE, Int.reduceLT, Int.reduceToNat, ne_eq, Nat.reduceSub, hl, hm, nb2_b1, nb3_b2, nb3_b1]
  repeat refine And.intro (by omega) ?_
  intro g
  simp only [List.map_cons, List.map_nil, updL, upd, Nat.reduceEqDiff, if_true, if_false, ↓reduceIte]
  refine hK _ _ ?_; clear hK K
  refine Cd.condd rfl (fun h1 => ?_) (fun h1 => ?_)
  · refine Cd.skip ?_
    refine thenN ?_
    refine Cd.seq ?_
    refine Cd.block ?_
    refine Cd.rr [1, 2, 4, 5, 6] fun K hK => ?_
    simp (maxSteps := 2000000) (disch := first | (simp only [E4, hl, hm] <;> omega) | omega | fail) only [↓E2, E3, bare, bareJ, ↓E0, E1, env0, envN, evOps, evOp, evQs, evQ, evV, setD, pureOp, ev, upd, updL, indexAddrV, cellAt, cellsAt, findB, setB, Value.cells, hav, delB, ↓reduceIte, Zj, Zk, Nat.reduceAdd, Nat.reduceLT, Nat.reduceEqDiff, Nat.reduceMul, Nat.reduceLeDiff, if_true, Zn, reduceCtorEq, ZA, eq_self, Int.reduceLE, Int.reduceLT, Int.reduceToNat, ne_eq, Nat.reduceSub, Tarr44, Tst2, hl, hm, nb2_b1, nb3_b2, nb3_b1]
    repeat refine And.intro (by omega) ?_
    rw [fillTo_set k (by omega)]
    repeat refine And.intro (by omega) ?_
    intro g
    simp only [List.map_cons, List.map_nil, updL, upd, Nat.reduceEqDiff, if_true, if_false, ↓reduceIte]
    refine hK _ _ ?_; clear hK K
    refine inBN ?_
    refine thenN ?_
    refine Cd.rr [1, 2, 4, 5, 6] fun K hK => ?_
    simp (maxSteps := 2000000) (disch := first | (simp only [E4, hl, hm] <;> omega) | omega | fail) only [↓E2, E3, bare, bareJ, ↓E0, E1, env0, envN, evOps, evOp, evQs, evQ, evV, setD, pureOp, ev, upd, updL, binW, eqOp, binV, intOp, shOp, boolOp, hav, delB, eqL, SameI, strOp, ↓reduceIte, Zj, Zk, Nat.reduceAdd, Nat.reduceLT, Nat.reduceEqDiff, Nat.reduceMul, Nat.reduceLeDiff, if_true, Zn, reduceCtorEq, ZA, eq_self, Int.reduceLE, Int.reduceLT, Int.reduceToNat, ne_eq, Nat.reduceSub, hl, hm, nb2_b1, nb3_b2, nb3_b1]
    repeat refine And.intro (by omega) ?_
    intro g
    simp only [List.map_cons, List.map_nil, updL, upd, Nat.reduceEqDiff, if_true, if_false, ↓reduceIte]
    refine hK _ _ ?_; clear hK K
    refine roundN (m := m - 1) (by omega) ⟨_, k + 1, by omega, rfl, rfl⟩
  · refine Cd.exit (thenX (roundX (inBX ?_)))
    refine thenN ?_
    obtain rfl : k = 8 := by omega
    rw [fillTo_full]
    refine Cd.seq ?_
    refine Cd.rs [1, 2, 4, 5, 7] fun K hK => ?_
    simp (maxSteps := 2000000) (disch := first | (simp only [E4, hl, hm] <;> omega) | omega | fail) only [↓E2, E3, bare, bareJ, ↓E0, E1, env0, envN, evOps, evOp, evQs, evQ, evV, setD, pureOp, ev, upd, updL, hav, delB, ↓reduceIte, Zj, Zk, Nat.reduceAdd, Nat.reduceLT, Nat.reduceEqDiff, Nat.reduceMul, Nat.reduceLeDiff, if_true, Zn, reduceCtorEq, ZA, eq_self, Int.reduceLE, Int.reduceLT, Int.reduceToNat, ne_eq, Nat.reduceSub, hl, hm, nb2_b1, nb3_b2, nb3_b1]
    repeat refine And.intro (by omega) ?_
    intro g
    simp only [List.map_cons, List.map_nil, updL, upd, Nat.reduceEqDiff, if_true, if_false, ↓reduceIte]
    refine hK _ _ ?_; clear hK K
    refine Cd.block ?_
    refine Cd.loop (fun m ρ M => ∃ g k, k + m = n ∧ ρ = updL ([(1, .pointer (some ⟨b1, 0, none⟩)), (2, .pointer (some ⟨b2, 0, none⟩)), (4, .pointer (some ⟨b3, 0, none⟩)), (5, .int .i64 ((compTo (nextOf n x o) k).2 : Int)), (7, .int .i64 (k : Int))]) g ∧ M = [(b3, ints .i64 (compTo (nextOf n x o) k).1), (b2, ints .i64 z8), (b1, gc (n : Int) x o)]) n ⟨_, 0, Nat.zero_add _, rfl, rfl⟩ ?_
    rintro m ρ M ⟨g, k, hk, rfl, rfl⟩
    have cl := compTo_len (nextOf n x o) k
    have cc := compTo_count (nextOf n x o) k
    skip
    refine Cd.seq ?_
    refine Cd.rs [1, 2, 4, 5, 7, 19] fun K hK => ?_
    simp (maxSteps := 2000000) (disch := first | (simp only [E4, hl, hm, cl] <;> omega) | omega | fail) only [↓E2, E3, bare, bareJ, ↓E0, E1, env0, envN, evOps, evOp, evQs, evQ, evV, setD, pureOp, ev, upd, updL, binW, eqOp, binV, intOp, shOp, boolOp, fieldAddrV, cellAt, cellsAt, findB, hav, delB, eqL, SameI, strOp, ↓reduceIte, Zj, Zk, Nat.reduceAdd, Nat.reduceLT, Nat.reduceEqDiff, Nat.reduceMul, Nat.reduceLeDiff, if_true, Zn, reduceCtorEq, ZA, eq_self, Int.reduceLE, Int.reduceLT, Int.reduceToNat, ne_eq, Nat.reduceSub, Tfld27_0, Tld2, hl, hm, nb2_b1, nb3_b2, nb3_b1, cl]
    repeat refine And.intro (by omega) ?_
    intro g
    simp only [List.map_cons, List.map_nil, updL, upd, Nat.reduceEqDiff, if_true, if_false, ↓reduceIte]
    refine hK _ _ ?_; clear hK K
    refine Cd.condd rfl (fun h2 => ?_) (fun h2 => ?_)
    · refine Cd.skip ?_
      refine thenN ?_
      refine Cd.seq ?_
      refine Cd.block ?_
      refine Cd.seq ?_
      refine Cd.rs [1, 2, 4, 5, 7, 25] fun K hK => ?_
      simp (maxSteps := 2000000) (disch := first | (simp only [E4, hl, hm, cl] <;> omega) | omega | fail) only [↓E2, E3, bare, bareJ, ↓E0, E1, env0, envN, evOps, evOp, evQs, evQ, evV, setD, pureOp, ev, upd, updL, binW, eqOp, binV, intOp, shOp, boolOp, indexAddrV, cellAt, cellsAt, findB, hav, delB, eqL, SameI, strOp, ↓reduceIte, Zj, Zk, Nat.reduceAdd, Nat.reduceLT, Nat.reduceEqDiff, Nat.reduceMul, Nat.reduceLeDiff, if_true, Zn, reduceCtorEq, ZA, eq_self, Int.reduceLE, Int.reduceLT, Int.reduceToNat, ne_eq, Nat.reduceSub, Tarr44, Tld2, hl, hm, nb2_b1, nb3_b2, nb3_b1, cl]
      repeat refine And.intro (by omega) ?_
      repeat refine And.intro (by omega) ?_
      intro g
      simp only [List.map_cons, List.map_nil, updL, upd, Nat.reduceEqDiff, if_true, if_false, ↓reduceIte]
      refine hK _ _ ?_; clear hK K
      refine Cd.cond rfl (fun h3 => ?_) (fun h3 => ?_)
      · refine Cd.exit (thenX (inBX ?_))
        refine thenN ?_
        refine Cd.rr [1, 2, 4, 5, 7] fun K hK => ?_
        simp (maxSteps := 2000000) (disch := first | (simp only [E4, hl, hm, cl] <;> omega) | omega | fail) only [↓E2, E3, bare, bareJ, ↓E0, E1, env0, envN, evOps, evOp, evQs, evQ, evV, setD, pureOp, ev, upd, updL, binW, eqOp, binV, intOp, shOp, boolOp, hav, delB, eqL, SameI, strOp, ↓reduceIte, Zj, Zk, Nat.reduceAdd, Nat.reduceLT, Nat.reduceEqDiff, Nat.reduceMul, Nat.reduceLeDiff, if_true, Zn, reduceCtorEq, ZA, eq_self, Int.reduceLE, Int.reduceLT, Int.reduceToNat, ne_eq, Nat.reduceSub, hl, hm, nb2_b1, nb3_b2, nb3_b1, cl]
        repeat refine And.intro (by omega) ?_
        intro g
        simp only [List.map_cons, List.map_nil, updL, upd, Nat.reduceEqDiff, if_true, if_false, ↓reduceIte]
        refine hK _ _ ?_; clear hK K
        rw [← compTo_same (nx := nextOf n x o) (i := k) (by simpa using h3)]
        exact roundN (m := m - 1) (by omega) ⟨_, k + 1, by omega, rfl, rfl⟩
      · have h3 : ¬ 0 ≤ (compTo (nextOf n x o) k).1.getD k 0 := by simpa using h3
        refine Cd.skip ?_
        refine thenN ?_
        refine Cd.seq ?_
        refine Cd.rs [1, 2, 4, 5, 7, 8] fun K hK => ?_
        simp (maxSteps := 2000000) (disch := first | (simp only [E4, hl, hm, cl] <;> omega) | omega | fail) only [↓E2, E3, bare, bareJ, ↓E0, E1, env0, envN, evOps, evOp, evQs, evQ, evV, setD, pureOp, ev, upd, updL, hav, delB, ↓reduceIte, Zj, Zk, Nat.reduceAdd, Nat.reduceLT, Nat.reduceEqDiff, Nat.reduceMul, Nat.reduceLeDiff, if_true, Zn, reduceCtorEq, ZA, eq_self, Int.reduceLE, Int.reduceLT, Int.reduceToNat, ne_eq, Nat.reduceSub, hl, hm, nb2_b1, nb3_b2, nb3_b1, cl]
        repeat refine And.intro (by omega) ?_
        intro g
        simp only [List.map_cons, List.map_nil, updL, upd, Nat.reduceEqDiff, if_true, if_false, ↓reduceIte]
        refine hK _ _ ?_; clear hK K
        refine Cd.block ?_
        refine Cd.loop (fun f ρ M => ∃ g j l, j < n ∧ l.length = 8 ∧ negs l ≤ f ∧ walkC (nextOf n x o) (compTo (nextOf n x o) k).2 f j l = walkC (nextOf n x o) (compTo (nextOf n x o) k).2 8 k (compTo (nextOf n x o) k).1 ∧
          ρ = updL ([(1, .pointer (some ⟨b1, 0, none⟩)), (2, .pointer (some ⟨b2, 0, none⟩)), (4, .pointer (some ⟨b3, 0, none⟩)), (5, .int .i64 ((compTo (nextOf n x o) k).2 : Int)), (7, .int .i64 (k : Int)), (8, .int .i64 (j : Int))]) g ∧ M = [(b3, ints .i64 l), (b2, ints .i64 z8), (b1, gc (n : Int) x o)]) 8
          ⟨_, k, _, by omega, cl, negs_le cl, rfl, rfl, rfl⟩ ?_
        rintro f ρ M ⟨g, j, l, hj, hll, hng, hw, rfl, rfl⟩
        skip
        refine Cd.seq ?_
        refine Cd.rs [1, 2, 4, 5, 7, 8, 30] fun K hK => ?_
        simp (maxSteps := 2000000) (disch := first | (simp only [E4, hl, hm, cl, hll] <;> omega) | omega | fail) only [↓E2, E3, bare, bareJ, ↓E0, E1, env0, envN, evOps, evOp, evQs, evQ, evV, setD, pureOp, ev, upd, updL, binW, eqOp, binV, intOp, shOp, boolOp, indexAddrV, cellAt, cellsAt, findB, hav, delB, eqL, SameI, strOp, ↓reduceIte, Zj, Zk, Nat.reduceAdd, Nat.reduceLT, Nat.reduceEqDiff, Nat.reduceMul, Nat.reduceLeDiff, if_true, Zn, reduceCtorEq, ZA, eq_self, Int.reduceLE, Int.reduceLT, Int.reduceToNat, ne_eq, Nat.reduceSub, Tarr44, Tld2, hl, hm, nb2_b1, nb3_b2, nb3_b1, cl, hll]
        repeat refine And.intro (by omega) ?_
        repeat refine And.intro (by omega) ?_
        intro g
        simp only [List.map_cons, List.map_nil, updL, upd, Nat.reduceEqDiff, if_true, if_false, ↓reduceIte]
        refine hK _ _ ?_; clear hK K
        refine Cd.condd rfl (fun h4 => ?_) (fun h4 => ?_)
        · have hpos := negs_pos (l := l) (k := j) (by omega) h4
          obtain ⟨f', rfl⟩ : ∃ f', f = f' + 1 := ⟨f - 1, by omega⟩
          have hs := negs_set (c := ((compTo (nextOf n x o) k).2 : Int)) (by omega) l j (by omega) h4
          rw [walkC_step h4] at hw
          refine Cd.skip ?_
          refine thenN ?_
          refine Cd.seq ?_
          refine Cd.block ?_
          refine Cd.rr [1, 2, 4, 5, 7, 8] fun K hK => ?_
          simp (maxSteps := 2000000) (disch := first | (simp only [E4, hl, hm, cl, hll] <;> omega) | omega | fail) only [↓E2, E3, bare, bareJ, ↓E0, E1, env0, envN, evOps, evOp, evQs, evQ, evV, setD, pureOp, ev, upd, updL, indexAddrV, cellAt, cellsAt, findB, setB, Value.cells, hav, delB, ↓reduceIte, Zj, Zk, Nat.reduceAdd, Nat.reduceLT, Nat.reduceEqDiff, Nat.reduceMul, Nat.reduceLeDiff, if_true, Zn, reduceCtorEq, ZA, eq_self, Int.reduceLE, Int.reduceLT, Int.reduceToNat, ne_eq, Nat.reduceSub, Tarr44, Tst2, hl, hm, nb2_b1, nb3_b2, nb3_b1, cl, hll]
          repeat refine And.intro (by omega) ?_
          repeat refine And.intro (by omega) ?_
          intro g
          simp only [List.map_cons, List.map_nil, updL, upd, Nat.reduceEqDiff, if_true, if_false, ↓reduceIte]
          refine hK _ _ ?_; clear hK K
          refine inBN ?_
          refine thenN ?_
          refine Cd.rr [1, 2, 4, 5, 7, 8] fun K hK => ?_
          simp (maxSteps := 2000000) (disch := first | (simp only [E4, hl, hm, cl, hll] <;> omega) | omega | fail) only [↓E2, E3, bare, bareJ, ↓E0, E1, env0, envN, evOps, evOp, evQs, evQ, evV, setD, pureOp, ev, upd, updL, cellAt, cellsAt, findB, setB, hav, delB, ↓reduceIte, Zj, Zk, Nat.reduceAdd, Nat.reduceLT, Nat.reduceEqDiff, Nat.reduceMul, Nat.reduceLeDiff, if_true, Zn, reduceCtorEq, ZA, eq_self, Int.reduceLE, Int.reduceLT, Int.reduceToNat, ne_eq, Nat.reduceSub, Tld27, hl, hm, nb2_b1, nb3_b2, nb3_b1, cl, hll]
          refine callK_gives (l01Follow_c n x o hx ho hn j (by omega)) ?_
          simp (maxSteps := 2000000) (disch := first | (simp only [E4, hl, hm, cl, hll] <;> omega) | omega | fail) only [↓E2, E3, bare, bareJ, ↓E0, E1, env0, envN, evOps, evOp, evQs, evQ, evV, setD, pureOp, ev, upd, updL, cellAt, cellsAt, findB, setB, hav, delB, ↓reduceIte, Zj, Zk, Nat.reduceAdd, Nat.reduceLT, Nat.reduceEqDiff, Nat.reduceMul, Nat.reduceLeDiff, if_true, Zn, reduceCtorEq, ZA, eq_self, Int.reduceLE, Int.reduceLT, Int.reduceToNat, ne_eq, Nat.reduceSub, Tld27, hl, hm, nb2_b1, nb3_b2, nb3_b1, cl, hll]
          repeat refine And.intro (by omega) ?_
          intro g
          simp only [List.map_cons, List.map_nil, updL, upd, Nat.reduceEqDiff, if_true, if_false, ↓reduceIte]
          refine hK _ _ ?_; clear hK K
          have c2 := hq.1 j hj
          have c3 := bytes_get ho (i := j) (by omega)
          refine roundN (m := f') (by omega) ⟨_, nextOf n x o j, _, (rowOf_lt (fun i hi => (bytes_get hx (by omega)).1) hp c3.1 c2).1, by rw [List.length_set]; exact hll, by omega, hw, rfl, rfl⟩
        · refine Cd.exit (thenX (roundX (inBX ?_)))
          refine thenN ?_
          rw [walkC_end h4] at hw
          refine Cd.rr [1, 2, 4, 5, 7] fun K hK => ?_
          simp (maxSteps := 2000000) (disch := first | (simp only [E4, hl, hm, cl, hll] <;> omega) | omega | fail) only [↓E2, E3, bare, bareJ, ↓E0, E1, env0, envN, evOps, evOp, evQs, evQ, evV, setD, pureOp, ev, upd, updL, binW, eqOp, binV, intOp, shOp, boolOp, hav, delB, eqL, SameI, strOp, ↓reduceIte, Zj, Zk, Nat.reduceAdd, Nat.reduceLT, Nat.reduceEqDiff, Nat.reduceMul, Nat.reduceLeDiff, if_true, Zn, reduceCtorEq, ZA, eq_self, Int.reduceLE, Int.reduceLT, Int.reduceToNat, ne_eq, Nat.reduceSub, hl, hm, nb2_b1, nb3_b2, nb3_b1, cl, hll]
          repeat refine And.intro (by omega) ?_
          repeat refine And.intro (by omega) ?_
          intro g
          simp only [List.map_cons, List.map_nil, updL, upd, Nat.reduceEqDiff, if_true, if_false, ↓reduceIte]
          refine hK _ _ ?_; clear hK K
          refine inBN ?_
          refine thenN ?_
          refine Cd.rr [1, 2, 4, 5, 7] fun K hK => ?_
          simp (maxSteps := 2000000) (disch := first | (simp only [E4, hl, hm, cl, hll] <;> omega) | omega | fail) only [↓E2, E3, bare, bareJ, ↓E0, E1, env0, envN, evOps, evOp, evQs, evQ, evV, setD, pureOp, ev, upd, updL, binW, eqOp, binV, intOp, shOp, boolOp, hav, delB, eqL, SameI, strOp, ↓reduceIte, Zj, Zk, Nat.reduceAdd, Nat.reduceLT, Nat.reduceEqDiff, Nat.reduceMul, Nat.reduceLeDiff, if_true, Zn, reduceCtorEq, ZA, eq_self, Int.reduceLE, Int.reduceLT, Int.reduceToNat, ne_eq, Nat.reduceSub, hl, hm, nb2_b1, nb3_b2, nb3_b1, cl, hll]
          repeat refine And.intro (by omega) ?_
          intro g
          simp only [List.map_cons, List.map_nil, updL, upd, Nat.reduceEqDiff, if_true, if_false, ↓reduceIte]
          refine hK _ _ ?_; clear hK K
          have e1 : ((compTo (nextOf n x o) k).2 : Int) + 1 = ((compTo (nextOf n x o) (k + 1)).2 : Int) := by rw [compTo_more h3]; rfl
          have e2 : l = (compTo (nextOf n x o) (k + 1)).1 := by rw [compTo_more h3]; exact hw
          rw [e1, e2]
          exact roundN (m := m - 1) (by omega) ⟨_, k + 1, by omega, rfl, rfl⟩
    · refine Cd.exit (thenX (roundX (inBX ?_)))
      refine thenN ?_
      obtain rfl : k = n := by omega
      refine Cd.rs [2, 3] fun K hK => ?_
      simp (maxSteps := 2000000) (disch := first | (simp only [E4, hl, hm, cl] <;> omega) | omega | fail) only [↓E2, E3, bare, bareJ, ↓E0, E1, env0, envN, evOps, evOp, evQs, evQ, evV, setD, pureOp, ev, upd, updL, cellAt, cellsAt, findB, setB, Value.cells, hav, delB, ↓reduceIte, Zj, Zk, Nat.reduceAdd, Nat.reduceLT, Nat.reduceEqDiff, Nat.reduceMul, Nat.reduceLeDiff, if_true, Zn, reduceCtorEq, ZA, eq_self, Int.reduceLE, Int.reduceLT, Int.reduceToNat, ne_eq, Nat.reduceSub, Tld44, Tst44, hl, hm, nb2_b1, nb3_b2, nb3_b1, cl]
      repeat refine And.intro (by omega) ?_
      intro g
      simp only [List.map_cons, List.map_nil, updL, upd, Nat.reduceEqDiff, if_true, if_false, ↓reduceIte]
      refine hK _ _ ?_; clear hK K
      refine Cd.ret ?_
      simp (maxSteps := 2000000) (disch := first | (simp only [E4, hl, hm, cl] <;> omega) | omega | fail) only [↓E2, E3, bare, bareJ, ↓E0, E1, evP, evPlan, env0, envN, evOps, evOp, evQs, evQ, evV, setD, pureOp, ev, upd, updL, gate, binW, eqOp, binV, intOp, shOp, boolOp, unV, convV, nilV, fieldAddrV, indexAddrV, extractV, cellAt, cellsAt, findB, setB, fillL, buildV, Value.cells, lenV, minV, maxV, hav, sliceV, loV, hiV, bslQ, mksQ, appQ, partsOk, partsCells, delB, eqL, SameI, strOp, apzQ, cvtQ, capV, ↓reduceIte, Zj, Zk, Nat.reduceAdd, Nat.reduceLT, Nat.reduceEqDiff, Nat.reduceMul, Nat.reduceLeDiff, if_true, Zn, reduceCtorEq, ZA, eq_self, Int.reduceLE, Int.reduceLT, Int.reduceToNat, ne_eq, Nat.reduceSub, Tld44, hl, hm, nb2_b1, nb3_b2, nb3_b1, cl]
      rfl

end Go.Proofs

/-
  What the functions of this part hand back: each as a plain function of its arguments. Conditions: none.
-/
namespace Go.Proofs
open Go.W8
set_option linter.unusedVariables false
set_option linter.unusedSimpArgs false
set_option linter.unusedSectionVars false
set_option maxRecDepth 8000
set_option maxHeartbeats 4000000
theorem places_c (n : Nat) (x o y : List Int) (hx : Bytes8 x) (ho : Bytes8 o) (hy : Bytes8 y) (hn : n ≤ 8) (hp : IsPerm y n) : Gives Try.prog 56 #[.agg (gc (n : Int) x o).toArray, .agg (ints .u8 y).toArray] (.agg (ints .i64 (plc y n)).toArray) := by
  have hl := hx.len
  have hm := ho.len
  have hz := hy.len
  have pl := plcTo_len y n
  skip
  refine Gives.of fun w => ?_
  refine acall_of (N := 20) (c := _) (rs := [.cell 4 72]) (args := [_, _]) Try.func56 rfl (by decide) rfl rfl (Nat.le_of_ble_eq_true rfl) ?_
  refine Cd.rs [2, 3, 4] fun K hK => ?_
  simp (maxSteps := 2000000) (disch := first | (simp only [E4, hl, hm, hz, pl] <;> omega) | omega | fail) only [↓E2, E3, bare, bareJ, ↓E0, E1, env0, envN, evOps, evOp, evQs, evQ, evV, setD, pureOp, ev, upd, updL, Value.cells, hav, delB, ↓reduceIte, Zj, Zk, Nat.reduceAdd, Nat.reduceLT, Nat.reduceEqDiff, Nat.reduceMul, Nat.reduceLeDiff, if_true, Zn, reduceCtorEq, ZA, eq_self, Int.reduceLE, Int.reduceLT, Int.reduceToNat, ne_eq, Nat.reduceSub, Tzero72, hl, hm, hz, pl]
  repeat refine And.intro (by omega) ?_
  intro b1 hb1
  intro b2 hb2
  have nb2_b1 := hb2.ne
  intro b3 hb3
  have nb3_b2 := hb3.ne
  have nb3_b1 := hb3.tail.ne
  try simp (maxSteps := 2000000) (disch := first | (simp only [E4, hl, hm, hz, pl] <;> omega) | omega | fail) only [↓E2, E3, bare, bareJ, ↓E0, E1, env0, envN, evOps, evOp, evQs, evQ, evV, setD, pureOp, ev, upd, updL, Value.cells, hav, delB, ↓reduceIte, Zj, Zk, Nat.reduceAdd, Nat.reduceLT, Nat.reduceEqDiff, Nat.reduceMul, Nat.reduceLeDiff, if_true, Zn, reduceCtorEq, ZA, eq_self, Int.reduceLE, Int.reduceLT, Int.reduceToNat, ne_eq, Nat.reduceSub, Tzero72, hl, hm, hz, pl, nb2_b1, nb3_b2, nb3_b1]
  repeat refine And.intro (by omega) ?_
  intro g
  simp only [List.map_cons, List.map_nil, updL, upd, Nat.reduceEqDiff, if_true, if_false, ↓reduceIte]
  refine hK _ _ ?_; clear hK K
  refine Cd.rs [2, 3, 4, 5] fun K hK => ?_
  simp (maxSteps := 2000000) (disch := first | (simp only [E4, hl, hm, hz, pl] <;> omega) | omega | fail) only [↓E2, E3, bare, bareJ, ↓E0, E1, evP, env0, envN, evOps, evOp, evQs, evQ, evV, setD, pureOp, ev, upd, updL, cellAt, cellsAt, findB, setB, fillL, buildV, Value.cells, hav, delB, ↓reduceIte, Zj, Zk, Nat.reduceAdd, Nat.reduceLT, Nat.reduceEqDiff, Nat.reduceMul, Nat.reduceLeDiff, if_true, Zn, reduceCtorEq, ZA, eq_self, Int.reduceLE, Int.reduceLT, Int.reduceToNat, ne_eq, Nat.reduceSub, Tbld72, Tst72, Tzero72, hl, hm, hz, pl, nb2_b1, nb3_b2, nb3_b1]
  repeat refine And.intro (by omega) ?_
  intro b4 hb4
  have nb4_b3 := hb4.ne
  have nb4_b2 := hb4.tail.ne
  have nb4_b1 := hb4.tail.tail.ne
  try simp (maxSteps := 2000000) (disch := first | (simp only [E4, hl, hm, hz, pl] <;> omega) | omega | fail) only [↓E2, E3, bare, bareJ, ↓E0, E1, evP, env0, envN, evOps, evOp, evQs, evQ, evV, setD, pureOp, ev, upd, updL, cellAt, cellsAt, findB, setB, fillL, buildV, Value.cells, hav, delB, ↓reduceIte, Zj, Zk, Nat.reduceAdd, Nat.reduceLT, Nat.reduceEqDiff, Nat.reduceMul, Nat.reduceLeDiff, if_true, Zn, reduceCtorEq, ZA, eq_self, Int.reduceLE, Int.reduceLT, Int.reduceToNat, ne_eq, Nat.reduceSub, Tbld72, Tst72, Tzero72, hl, hm, hz, pl, nb2_b1, nb3_b2, nb3_b1, nb4_b3, nb4_b2, nb4_b1]
  repeat refine And.intro (by omega) ?_
  intro g
  simp only [List.map_cons, List.map_nil, updL, upd, Nat.reduceEqDiff, if_true, if_false, ↓reduceIte]
  refine hK _ _ ?_; clear hK K
  refine Cd.seq ?_
  refine Cd.rs [3, 4, 5, 9, 10] fun K hK => ?_
  simp (maxSteps := 2000000) (disch := first | (simp only [E4, hl, hm, hz, pl] <;> omega) | omega | fail) only [↓E2, E3, bare, bareJ, ↓E0, E1, env0, envN, evOps, evOp, evQs, evQ, evV, setD, pureOp, ev, upd, updL, cellAt, cellsAt, findB, setB, hav, delB, ↓reduceIte, Zj, Zk, Nat.reduceAdd, Nat.reduceLT, Nat.reduceEqDiff, Nat.reduceMul, Nat.reduceLeDiff, if_true, Zn, reduceCtorEq, ZA, eq_self, Int.reduceLE, Int.reduceLT, Int.reduceToNat, ne_eq, Nat.reduceSub, Tld27, hl, hm, hz, pl, nb2_b1, nb3_b2, nb3_b1, nb4_b3, nb4_b2, nb4_b1]
  refine callK_gives (n_c _ _ _ hl hm) ?_
  simp (maxSteps := 2000000) (disch := first | (simp only [E4, hl, hm, hz, pl] <;> omega) | omega | fail) only [↓E2, E3, bare, bareJ, ↓E0, E1, env0, envN, evOps, evOp, evQs, evQ, evV, setD, pureOp, ev, upd, updL, cellAt, cellsAt, findB, setB, hav, delB, ↓reduceIte, Zj, Zk, Nat.reduceAdd, Nat.reduceLT, Nat.reduceEqDiff, Nat.reduceMul, Nat.reduceLeDiff, if_true, Zn, reduceCtorEq, ZA, eq_self, Int.reduceLE, Int.reduceLT, Int.reduceToNat, ne_eq, Nat.reduceSub, Tld27, hl, hm, hz, pl, nb2_b1, nb3_b2, nb3_b1, nb4_b3, nb4_b2, nb4_b1]
  repeat refine And.intro (by omega) ?_
  intro g
  simp only [List.map_cons, List.map_nil, updL, upd, Nat.reduceEqDiff, if_true, if_false, ↓reduceIte]
  refine hK _ _ ?_; clear hK K
  refine Cd.block ?_
  refine Cd.loop (fun m ρ M => ∃ g k, k + m = n ∧ ρ = updL [(3, .pointer (some ⟨b2, 0, none⟩)), (4, .pointer (some ⟨b3, 0, none⟩)), (5, .pointer (some ⟨b4, 0, none⟩)), (9, .int .i64 (n : Int)), (10, .int .i64 (k : Int))] g ∧
    M = [(b4, ints .i64 (plcTo y n k)), (b3, ints .i64 z8), (b2, ints .u8 y), (b1, gc (n : Int) x o)]) n ⟨_, 0, Nat.zero_add _, rfl, by rw [plcTo_zero]⟩ ?_
  rintro m ρ M ⟨g, k, hk, rfl, rfl⟩
  refine Cd.rs [3, 4, 5, 9, 10, 11] fun K hK => ?_
  simp (maxSteps := 2000000) (disch := first | (simp only [E4, hl, hm, hz, pl] <;> omega) | omega | fail) only [↓E2, E3, bare, bareJ, ↓E0, E1, env0, envN, evOps, evOp, evQs, evQ, evV, setD, pureOp, ev, upd, updL, binW, eqOp, binV, intOp, shOp, boolOp, hav, delB, eqL, SameI, strOp, ↓reduceIte, Zj, Zk, Nat.reduceAdd, Nat.reduceLT, Nat.reduceEqDiff, Nat.reduceMul, Nat.reduceLeDiff, if_true, Zn, reduceCtorEq, ZA, eq_self, Int.reduceLE, Int.reduceLT, Int.reduceToNat, ne_eq, Nat.reduceSub, hl, hm, hz, pl, nb2_b1, nb3_b2, nb3_b1, nb4_b3, nb4_b2, nb4_b1]
  repeat refine And.intro (by omega) ?_
  intro g
  simp only [List.map_cons, List.map_nil, updL, upd, Nat.reduceEqDiff, if_true, if_false, ↓reduceIte]
  refine hK _ _ ?_; clear hK K
  refine Cd.seq ?_
  refine Cd.condd rfl (fun h1 => ?_) (fun h1 => ?_)
  · have c1 := bytes_get hy (i := k) (by omega)
    have c2 := hp.1 k (by omega)
    refine Cd.skip ?_
    refine thenN ?_
    refine Cd.seq ?_
    refine Cd.block ?_
    refine Cd.rs [3, 4, 5, 6, 9, 10] fun K hK => ?_
    simp (maxSteps := 2000000) (disch := first | (simp only [E4, hl, hm, hz, pl] <;> omega) | omega | fail) only [↓E2, E3, bare, bareJ, ↓E0, E1, env0, envN, evOps, evOp, evQs, evQ, evV, setD, pureOp, ev, upd, updL, hav, delB, ↓reduceIte, Zj, Zk, Nat.reduceAdd, Nat.reduceLT, Nat.reduceEqDiff, Nat.reduceMul, Nat.reduceLeDiff, if_true, Zn, reduceCtorEq, ZA, eq_self, Int.reduceLE, Int.reduceLT, Int.reduceToNat, ne_eq, Nat.reduceSub, hl, hm, hz, pl, nb2_b1, nb3_b2, nb3_b1, nb4_b3, nb4_b2, nb4_b1]
    repeat refine And.intro (by omega) ?_
    intro g
    simp only [List.map_cons, List.map_nil, updL, upd, Nat.reduceEqDiff, if_true, if_false, ↓reduceIte]
    refine hK _ _ ?_; clear hK K
    refine Cd.rr [3, 4, 5, 9, 10] fun K hK => ?_
    simp (maxSteps := 2000000) (disch := first | (simp only [E4, hl, hm, hz, pl] <;> omega) | omega | fail) only [↓E2, E3, bare, bareJ, ↓E0, E1, env0, envN, evOps, evOp, evQs, evQ, evV, setD, pureOp, ev, upd, updL, indexAddrV, cellAt, cellsAt, findB, setB, Value.cells, hav, delB, ↓reduceIte, Zj, Zk, Nat.reduceAdd, Nat.reduceLT, Nat.reduceEqDiff, Nat.reduceMul, Nat.reduceLeDiff, if_true, Zn, reduceCtorEq, ZA, eq_self, Int.reduceLE, Int.reduceLT, Int.reduceToNat, ne_eq, Nat.reduceSub, Tarr22, Tarr72, Tld5, Tst3, hl, hm, hz, pl, nb2_b1, nb3_b2, nb3_b1, nb4_b3, nb4_b2, nb4_b1]
    repeat refine And.intro (by omega) ?_
    rw [plcTo_set hp (by omega) hn c1.1]
    repeat refine And.intro (by omega) ?_
    intro g
    simp only [List.map_cons, List.map_nil, updL, upd, Nat.reduceEqDiff, if_true, if_false, ↓reduceIte]
    refine hK _ _ ?_; clear hK K
    refine inBN ?_
    refine thenN ?_
    refine Cd.rr [3, 4, 5, 9, 10] fun K hK => ?_
    simp (maxSteps := 2000000) (disch := first | (simp only [E4, hl, hm, hz, pl] <;> omega) | omega | fail) only [↓E2, E3, bare, bareJ, ↓E0, E1, env0, envN, evOps, evOp, evQs, evQ, evV, setD, pureOp, ev, upd, updL, binW, eqOp, binV, intOp, shOp, boolOp, hav, delB, eqL, SameI, strOp, ↓reduceIte, Zj, Zk, Nat.reduceAdd, Nat.reduceLT, Nat.reduceEqDiff, Nat.reduceMul, Nat.reduceLeDiff, if_true, Zn, reduceCtorEq, ZA, eq_self, Int.reduceLE, Int.reduceLT, Int.reduceToNat, ne_eq, Nat.reduceSub, hl, hm, hz, pl, nb2_b1, nb3_b2, nb3_b1, nb4_b3, nb4_b2, nb4_b1]
    repeat refine And.intro (by omega) ?_
    intro g
    simp only [List.map_cons, List.map_nil, updL, upd, Nat.reduceEqDiff, if_true, if_false, ↓reduceIte]
    refine hK _ _ ?_; clear hK K
    exact roundN (m := m - 1) (by omega) ⟨_, k + 1, by omega, rfl, rfl⟩
  · refine Cd.exit (thenX (roundX (inBX ?_)))
    refine thenN ?_
    obtain rfl : k = n := by omega
    rw [plcTo_full (fun i hi => (bytes_get hy (by omega)).1) hp]
    have pl := plc_len y k
    skip
    refine Cd.rs [4] fun K hK => ?_
    simp (maxSteps := 2000000) (disch := first | (simp only [E4, hl, hm, hz, pl] <;> omega) | omega | fail) only [↓E2, E3, bare, bareJ, ↓E0, E1, env0, envN, evOps, evOp, evQs, evQ, evV, setD, pureOp, ev, upd, updL, cellAt, cellsAt, findB, setB, Value.cells, hav, delB, ↓reduceIte, Zj, Zk, Nat.reduceAdd, Nat.reduceLT, Nat.reduceEqDiff, Nat.reduceMul, Nat.reduceLeDiff, if_true, Zn, reduceCtorEq, ZA, eq_self, Int.reduceLE, Int.reduceLT, Int.reduceToNat, ne_eq, Nat.reduceSub, Tld72, Tst72, hl, hm, hz, pl, nb2_b1, nb3_b2, nb3_b1, nb4_b3, nb4_b2, nb4_b1]
    repeat refine And.intro (by omega) ?_
    intro g
    simp only [List.map_cons, List.map_nil, updL, upd, Nat.reduceEqDiff, if_true, if_false, ↓reduceIte]
    refine hK _ _ ?_; clear hK K
    refine Cd.ret ?_
    simp (maxSteps := 2000000) (disch := first | (simp only [E4, hl, hm, hz, pl] <;> omega) | omega | fail) only [↓E2, E3, bare, bareJ, ↓E0, E1, evP, evPlan, env0, envN, evOps, evOp, evQs, evQ, evV, setD, pureOp, ev, upd, updL, gate, binW, eqOp, binV, intOp, shOp, boolOp, unV, convV, nilV, fieldAddrV, indexAddrV, extractV, cellAt, cellsAt, findB, setB, fillL, buildV, Value.cells, lenV, minV, maxV, hav, sliceV, loV, hiV, bslQ, mksQ, appQ, partsOk, partsCells, delB, eqL, SameI, strOp, apzQ, cvtQ, capV, ↓reduceIte, Zj, Zk, Nat.reduceAdd, Nat.reduceLT, Nat.reduceEqDiff, Nat.reduceMul, Nat.reduceLeDiff, if_true, Zn, reduceCtorEq, ZA, eq_self, Int.reduceLE, Int.reduceLT, Int.reduceToNat, ne_eq, Nat.reduceSub, Tld72, hl, hm, hz, pl, nb2_b1, nb3_b2, nb3_b1, nb4_b3, nb4_b2, nb4_b1]

end Go.Proofs

/-
  What the functions of this part hand back: each as a plain function of its arguments. Conditions: none.
-/
namespace Go.Proofs
open Go.W8
set_option linter.unusedVariables false
set_option linter.unusedSimpArgs false
set_option linter.unusedSectionVars false
set_option maxRecDepth 8000
set_option maxHeartbeats 4000000
theorem component_c (n : Nat) (x o : List Int) (hx : Bytes8 x) (ho : Bytes8 o) (hn : n ≤ 8) (hp : IsPerm x n) (hq : IsPerm o n) : Gives Try.prog 50 #[.agg (gc (n : Int) x o).toArray] (.tuple #[.agg (ints .i64 (decTo (comps n x o).1 n)).toArray, .int .i64 ((comps n x o).2 : Int)]) := by
  have hl := hx.len
  have hm := ho.len
  have pl := plc_len x n
  skip
  refine Gives.of fun w => ?_
  refine acall_of (N := 54) (c := _) (rs := [.cell 2 72, .tmp 3]) (args := [_]) Try.func50 rfl (by decide) rfl rfl (Nat.le_of_ble_eq_true rfl) ?_
  refine Cd.rs [1, 2] fun K hK => ?_
  simp (maxSteps := 2000000) (disch := first | (simp only [E4, hl, hm, pl] <;> omega) | omega | fail) only [↓E2, E3, bare, bareJ, ↓E0, E1, env0, envN, evOps, evOp, evQs, evQ, evV, setD, pureOp, ev, upd, updL, Value.cells, hav, delB, ↓reduceIte, Zj, Zk, Nat.reduceAdd, Nat.reduceLT, Nat.reduceEqDiff, Nat.reduceMul, Nat.reduceLeDiff, if_true, Zn, reduceCtorEq, ZA, eq_self, Int.reduceLE, Int.reduceLT, Int.reduceToNat, ne_eq, Nat.reduceSub, Tzero72, hl, hm, pl]
  repeat refine And.intro (by omega) ?_
  intro b1 hb1
  intro b2 hb2
  have nb2_b1 := hb2.ne
  try simp (maxSteps := 2000000) (disch := first | (simp only [E4, hl, hm, pl] <;> omega) | omega | fail) only [↓E2, E3, bare, bareJ, ↓E0, E1, env0, envN, evOps, evOp, evQs, evQ, evV, setD, pureOp, ev, upd, updL, Value.cells, hav, delB, ↓reduceIte, Zj, Zk, Nat.reduceAdd, Nat.reduceLT, Nat.reduceEqDiff, Nat.reduceMul, Nat.reduceLeDiff, if_true, Zn, reduceCtorEq, ZA, eq_self, Int.reduceLE, Int.reduceLT, Int.reduceToNat, ne_eq, Nat.reduceSub, Tzero72, hl, hm, pl, nb2_b1]
  repeat refine And.intro (by omega) ?_
  intro g
  simp only [List.map_cons, List.map_nil, updL, upd, Nat.reduceEqDiff, if_true, if_false, ↓reduceIte]
  refine hK _ _ ?_; clear hK K
  refine Cd.rs [1, 2, 4, 5, 6] fun K hK => ?_
  simp (maxSteps := 2000000) (disch := first | (simp only [E4, hl, hm, pl] <;> omega) | omega | fail) only [↓E2, E3, bare, bareJ, ↓E0, E1, evP, env0, envN, evOps, evOp, evQs, evQ, evV, setD, pureOp, ev, upd, updL, fieldAddrV, cellAt, cellsAt, findB, setB, fillL, buildV, Value.cells, hav, delB, ↓reduceIte, Zj, Zk, Nat.reduceAdd, Nat.reduceLT, Nat.reduceEqDiff, Nat.reduceMul, Nat.reduceLeDiff, if_true, Zn, reduceCtorEq, ZA, eq_self, Int.reduceLE, Int.reduceLT, Int.reduceToNat, ne_eq, Nat.reduceSub, Tbld72, Tfld27_1, Tld22, Tld27, Tst72, Tzero72, hl, hm, pl, nb2_b1]
  refine callK_gives (places_c n x o x hx ho hx hn hp) ?_
  simp (maxSteps := 2000000) (disch := first | (simp only [E4, hl, hm, pl] <;> omega) | omega | fail) only [↓E2, E3, bare, bareJ, ↓E0, E1, evP, env0, envN, evOps, evOp, evQs, evQ, evV, setD, pureOp, ev, upd, updL, fieldAddrV, cellAt, cellsAt, findB, setB, fillL, buildV, Value.cells, hav, delB, ↓reduceIte, Zj, Zk, Nat.reduceAdd, Nat.reduceLT, Nat.reduceEqDiff, Nat.reduceMul, Nat.reduceLeDiff, if_true, Zn, reduceCtorEq, ZA, eq_self, Int.reduceLE, Int.reduceLT, Int.reduceToNat, ne_eq, Nat.reduceSub, Tbld72, Tfld27_1, Tld22, Tld27, Tst72, Tzero72, hl, hm, pl, nb2_b1]
  repeat refine And.intro (by omega) ?_
  intro b3 hb3
  have nb3_b2 := hb3.ne
  have nb3_b1 := hb3.tail.ne
  intro b4 hb4
  have nb4_b3 := hb4.ne
  have nb4_b2 := hb4.tail.ne
  have nb4_b1 := hb4.tail.tail.ne
  try simp (maxSteps := 2000000) (disch := first | (simp only [E4, hl, hm, pl] <;> omega) | omega | fail) only [↓E2, E3, bare, bareJ, ↓E0, E1, evP, env0, envN, evOps, evOp, evQs, evQ, evV, setD, pureOp, ev, upd, updL, fieldAddrV, cellAt, cellsAt, findB, setB, fillL, buildV, Value.cells, hav, delB, ↓reduceIte, Zj, Zk, Nat.reduceAdd, Nat.reduceLT, Nat.reduceEqDiff, Nat.reduceMul, Nat.reduceLeDiff, if_true, Zn, reduceCtorEq, ZA, eq_self, Int.reduceLE, Int.reduceLT, Int.reduceToNat, ne_eq, Nat.reduceSub, Tbld72, Tfld27_1, Tld22, Tld27, Tst72, Tzero72, hl, hm, pl, nb2_b1, nb3_b2, nb3_b1, nb4_b3, nb4_b2, nb4_b1]
  repeat refine And.intro (by omega) ?_
  intro g
  simp only [List.map_cons, List.map_nil, updL, upd, Nat.reduceEqDiff, if_true, if_false, ↓reduceIte]
  refine hK _ _ ?_; clear hK K
  refine Cd.seq ?_
  refine Cd.rs [1, 2, 4, 5, 6, 16, 17] fun K hK => ?_
  simp (maxSteps := 2000000) (disch := first | (simp only [E4, hl, hm, pl] <;> omega) | omega | fail) only [↓E2, E3, bare, bareJ, ↓E0, E1, env0, envN, evOps, evOp, evQs, evQ, evV, setD, pureOp, ev, upd, updL, cellAt, cellsAt, findB, setB, hav, delB, ↓reduceIte, Zj, Zk, Nat.reduceAdd, Nat.reduceLT, Nat.reduceEqDiff, Nat.reduceMul, Nat.reduceLeDiff, if_true, Zn, reduceCtorEq, ZA, eq_self, Int.reduceLE, Int.reduceLT, Int.reduceToNat, ne_eq, Nat.reduceSub, Tld27, hl, hm, pl, nb2_b1, nb3_b2, nb3_b1, nb4_b3, nb4_b2, nb4_b1]
  refine callK_gives (n_c _ _ _ hl hm) ?_
  simp (maxSteps := 2000000) (disch := first | (simp only [E4, hl, hm, pl] <;> omega) | omega | fail) only [↓E2, E3, bare, bareJ, ↓E0, E1, env0, envN, evOps, evOp, evQs, evQ, evV, setD, pureOp, ev, upd, updL, cellAt, cellsAt, findB, setB, hav, delB, ↓reduceIte, Zj, Zk, Nat.reduceAdd, Nat.reduceLT, Nat.reduceEqDiff, Nat.reduceMul, Nat.reduceLeDiff, if_true, Zn, reduceCtorEq, ZA, eq_self, Int.reduceLE, Int.reduceLT, Int.reduceToNat, ne_eq, Nat.reduceSub, Tld27, hl, hm, pl, nb2_b1, nb3_b2, nb3_b1, nb4_b3, nb4_b2, nb4_b1]
  repeat refine And.intro (by omega) ?_
  intro g
  simp only [List.map_cons, List.map_nil, updL, upd, Nat.reduceEqDiff, if_true, if_false, ↓reduceIte]
  refine hK _ _ ?_; clear hK K
  refine Cd.block ?_
  refine Cd.loop (fun m ρ M => ∃ g k, k + m = n ∧ ρ = updL ([(1, .pointer (some ⟨b1, 0, none⟩)), (2, .pointer (some ⟨b2, 0, none⟩)), (4, .pointer (some ⟨b3, 0, none⟩)), (5, .int .i64 ((compTo (nextOf n x o) k).2 : Int)), (6, .pointer (some ⟨b4, 0, none⟩)), (16, .int .i64 (n : Int)), (17, .int .i64 (k : Int))]) g ∧ M = [(b4, ints .i64 (plc x n)), (b3, ints .i64 (incL (compTo (nextOf n x o) k).1)), (b2, ints .i64 z8), (b1, gc (n : Int) x o)]) n ⟨_, 0, Nat.zero_add _, rfl, rfl⟩ ?_
  rintro m ρ M ⟨g, k, hk, rfl, rfl⟩
  have cl := compTo_len (nextOf n x o) k
  have il := incL_len (compTo (nextOf n x o) k).1
  rw [cl] at il
  have cc := compTo_count (nextOf n x o) k
  skip
  refine Cd.rs [1, 2, 4, 5, 6, 16, 17, 18] fun K hK => ?_
  simp (maxSteps := 2000000) (disch := first | (simp only [E4, hl, hm, pl, cl, il] <;> omega) | omega | fail) only [↓E2, E3, bare, bareJ, ↓E0, E1, env0, envN, evOps, evOp, evQs, evQ, evV, setD, pureOp, ev, upd, updL, binW, eqOp, binV, intOp, shOp, boolOp, hav, delB, eqL, SameI, strOp, ↓reduceIte, Zj, Zk, Nat.reduceAdd, Nat.reduceLT, Nat.reduceEqDiff, Nat.reduceMul, Nat.reduceLeDiff, if_true, Zn, reduceCtorEq, ZA, eq_self, Int.reduceLE, Int.reduceLT, Int.reduceToNat, ne_eq, Nat.reduceSub, hl, hm, pl, nb2_b1, nb3_b2, nb3_b1, nb4_b3, nb4_b2, nb4_b1, cl, il]
  repeat refine And.intro (by omega) ?_
  intro g
  simp only [List.map_cons, List.map_nil, updL, upd, Nat.reduceEqDiff, if_true, if_false, ↓reduceIte]
  refine hK _ _ ?_; clear hK K
  refine Cd.seq ?_
  refine Cd.condd rfl (fun h1 => ?_) (fun h1 => ?_)
  · have cg := incL_get (l := (compTo (nextOf n x o) k).1) (i := k) (by omega)
    skip
    have cb := compTo_bound (nextOf n x o) k k (by omega)
    refine Cd.skip ?_
    refine thenN ?_
    refine Cd.seq ?_
    refine Cd.block ?_
    refine Cd.rs [1, 2, 4, 5, 6, 7, 16, 17] fun K hK => ?_
    simp (maxSteps := 2000000) (disch := first | (simp only [E4, hl, hm, pl, cl, il, cg] <;> omega) | omega | fail) only [↓E2, E3, bare, bareJ, ↓E0, E1, env0, envN, evOps, evOp, evQs, evQ, evV, setD, pureOp, ev, upd, updL, hav, delB, ↓reduceIte, Zj, Zk, Nat.reduceAdd, Nat.reduceLT, Nat.reduceEqDiff, Nat.reduceMul, Nat.reduceLeDiff, if_true, Zn, reduceCtorEq, ZA, eq_self, Int.reduceLE, Int.reduceLT, Int.reduceToNat, ne_eq, Nat.reduceSub, hl, hm, pl, nb2_b1, nb3_b2, nb3_b1, nb4_b3, nb4_b2, nb4_b1, cl, il, cg]
    repeat refine And.intro (by omega) ?_
    intro g
    simp only [List.map_cons, List.map_nil, updL, upd, Nat.reduceEqDiff, if_true, if_false, ↓reduceIte]
    refine hK _ _ ?_; clear hK K
    refine Cd.seq ?_
    refine Cd.rs [1, 2, 4, 5, 6, 7, 16, 17, 23] fun K hK => ?_
    simp (maxSteps := 2000000) (disch := first | (simp only [E4, hl, hm, pl, cl, il, cg] <;> omega) | omega | fail) only [↓E2, E3, bare, bareJ, ↓E0, E1, env0, envN, evOps, evOp, evQs, evQ, evV, setD, pureOp, ev, upd, updL, binW, eqOp, binV, intOp, shOp, boolOp, indexAddrV, cellAt, cellsAt, findB, hav, delB, eqL, SameI, strOp, ↓reduceIte, Zj, Zk, Nat.reduceAdd, Nat.reduceLT, Nat.reduceEqDiff, Nat.reduceMul, Nat.reduceLeDiff, if_true, Zn, reduceCtorEq, ZA, eq_self, Int.reduceLE, Int.reduceLT, Int.reduceToNat, ne_eq, Nat.reduceSub, Tarr72, Tld3, hl, hm, pl, nb2_b1, nb3_b2, nb3_b1, nb4_b3, nb4_b2, nb4_b1, cl, il, cg]
    repeat refine And.intro (by omega) ?_
    repeat refine And.intro (by omega) ?_
    intro g
    simp only [List.map_cons, List.map_nil, updL, upd, Nat.reduceEqDiff, if_true, if_false, ↓reduceIte]
    refine hK _ _ ?_; clear hK K
    refine Cd.cond rfl (fun h2 => ?_) (fun h2 => ?_)
    · have h2 : 0 ≤ (compTo (nextOf n x o) k).1.getD k 0 := by simp only [decide_eq_true_eq, decide_eq_false_iff_not, beq_iff_eq, beq_eq_false_iff_ne, bne_iff_ne, bne_eq_false_iff_eq, Bool.and_eq_true, Bool.or_eq_true, Bool.or_eq_false_iff, Bool.not_eq_true', Bool.not_eq_false', Bool.and_eq_false_imp, ne_eq, gt_iff_lt, ge_iff_le, Int.not_lt, Int.not_le, Classical.not_not] at h2; omega
      refine Cd.exit (thenX (inBX ?_))
      refine thenN ?_
      refine Cd.rr [1, 2, 4, 5, 6, 16, 17] fun K hK => ?_
      simp (maxSteps := 2000000) (disch := first | (simp only [E4, hl, hm, pl, cl, il, cg] <;> omega) | omega | fail) only [↓E2, E3, bare, bareJ, ↓E0, E1, env0, envN, evOps, evOp, evQs, evQ, evV, setD, pureOp, ev, upd, updL, binW, eqOp, binV, intOp, shOp, boolOp, hav, delB, eqL, SameI, strOp, ↓reduceIte, Zj, Zk, Nat.reduceAdd, Nat.reduceLT, Nat.reduceEqDiff, Nat.reduceMul, Nat.reduceLeDiff, if_true, Zn, reduceCtorEq, ZA, eq_self, Int.reduceLE, Int.reduceLT, Int.reduceToNat, ne_eq, Nat.reduceSub, hl, hm, pl, nb2_b1, nb3_b2, nb3_b1, nb4_b3, nb4_b2, nb4_b1, cl, il, cg]
      repeat refine And.intro (by omega) ?_
      intro g
      simp only [List.map_cons, List.map_nil, updL, upd, Nat.reduceEqDiff, if_true, if_false, ↓reduceIte]
      refine hK _ _ ?_; clear hK K
      rw [← compTo_same (nx := nextOf n x o) (i := k) h2]
      exact roundN (m := m - 1) (by omega) ⟨_, k + 1, by omega, rfl, rfl⟩
    · have h3 : ¬ 0 ≤ (compTo (nextOf n x o) k).1.getD k 0 := by simp only [decide_eq_true_eq, decide_eq_false_iff_not, beq_iff_eq, beq_eq_false_iff_ne, bne_iff_ne, bne_eq_false_iff_eq, Bool.and_eq_true, Bool.or_eq_true, Bool.or_eq_false_iff, Bool.not_eq_true', Bool.not_eq_false', Bool.and_eq_false_imp, ne_eq, gt_iff_lt, ge_iff_le, Int.not_lt, Int.not_le, Classical.not_not] at h2; omega
      refine Cd.skip ?_
      refine thenN ?_
      refine Cd.rs [1, 2, 4, 5, 6, 7, 16, 17] fun K hK => ?_
      simp (maxSteps := 2000000) (disch := first | (simp only [E4, hl, hm, pl, cl, il, cg] <;> omega) | omega | fail) only [↓E2, E3, bare, bareJ, ↓E0, E1, env0, envN, evOps, evOp, evQs, evQ, evV, setD, pureOp, ev, upd, updL, binW, eqOp, binV, intOp, shOp, boolOp, hav, delB, eqL, SameI, strOp, ↓reduceIte, Zj, Zk, Nat.reduceAdd, Nat.reduceLT, Nat.reduceEqDiff, Nat.reduceMul, Nat.reduceLeDiff, if_true, Zn, reduceCtorEq, ZA, eq_self, Int.reduceLE, Int.reduceLT, Int.reduceToNat, ne_eq, Nat.reduceSub, hl, hm, pl, nb2_b1, nb3_b2, nb3_b1, nb4_b3, nb4_b2, nb4_b1, cl, il, cg]
      repeat refine And.intro (by omega) ?_
      repeat refine And.intro (by omega) ?_
      intro g
      simp only [List.map_cons, List.map_nil, updL, upd, Nat.reduceEqDiff, if_true, if_false, ↓reduceIte]
      refine hK _ _ ?_; clear hK K
      refine Cd.rs [1, 2, 4, 5, 6, 8, 16, 17] fun K hK => ?_
      simp (maxSteps := 2000000) (disch := first | (simp only [E4, hl, hm, pl, cl, il, cg] <;> omega) | omega | fail) only [↓E2, E3, bare, bareJ, ↓E0, E1, env0, envN, evOps, evOp, evQs, evQ, evV, setD, pureOp, ev, upd, updL, hav, delB, ↓reduceIte, Zj, Zk, Nat.reduceAdd, Nat.reduceLT, Nat.reduceEqDiff, Nat.reduceMul, Nat.reduceLeDiff, if_true, Zn, reduceCtorEq, ZA, eq_self, Int.reduceLE, Int.reduceLT, Int.reduceToNat, ne_eq, Nat.reduceSub, hl, hm, pl, nb2_b1, nb3_b2, nb3_b1, nb4_b3, nb4_b2, nb4_b1, cl, il, cg]
      repeat refine And.intro (by omega) ?_
      intro g
      simp only [List.map_cons, List.map_nil, updL, upd, Nat.reduceEqDiff, if_true, if_false, ↓reduceIte]
      refine hK _ _ ?_; clear hK K
      refine Cd.block ?_
      refine Cd.loop (fun f ρ M => ∃ g j l, j < n ∧ l.length = 8 ∧ (∀ i, i < 8 → -1 ≤ l.getD i 0 ∧ l.getD i 0 ≤ 8) ∧ negs l ≤ f ∧ walkC (nextOf n x o) (compTo (nextOf n x o) k).2 f j l = walkC (nextOf n x o) (compTo (nextOf n x o) k).2 8 k (compTo (nextOf n x o) k).1 ∧
        ρ = updL ([(1, .pointer (some ⟨b1, 0, none⟩)), (2, .pointer (some ⟨b2, 0, none⟩)), (4, .pointer (some ⟨b3, 0, none⟩)), (5, .int .i64 (((compTo (nextOf n x o) k).2 : Int) + 1)), (6, .pointer (some ⟨b4, 0, none⟩)), (8, .int .i64 (j : Int)), (16, .int .i64 (n : Int)), (17, .int .i64 (k : Int))]) g ∧ M = [(b4, ints .i64 (plc x n)), (b3, ints .i64 (incL l)), (b2, ints .i64 z8), (b1, gc (n : Int) x o)]) 8
        ⟨_, k, _, by omega, cl, (fun i hi => by have := compTo_bound (nextOf n x o) k i hi; omega), negs_le cl, rfl, rfl, rfl⟩ ?_
      rintro f ρ M ⟨g, j, l, hj, hll, hlb, hng, hw, rfl, rfl⟩
      have il2 := incL_len l
      rw [hll] at il2
      have cg2 := incL_get (l := l) (i := j) (by omega)
      have cb2 := hlb j (by omega)
      skip
      refine Cd.seq ?_
      refine Cd.rs [1, 2, 4, 5, 6, 8, 16, 17, 30] fun K hK => ?_
      simp (maxSteps := 2000000) (disch := first | (simp only [E4, hl, hm, pl, cl, il, cg, hll, il2, cg2] <;> omega) | omega | fail) only [↓E2, E3, bare, bareJ, ↓E0, E1, env0, envN, evOps, evOp, evQs, evQ, evV, setD, pureOp, ev, upd, updL, binW, eqOp, binV, intOp, shOp, boolOp, indexAddrV, cellAt, cellsAt, findB, hav, delB, eqL, SameI, strOp, ↓reduceIte, Zj, Zk, Nat.reduceAdd, Nat.reduceLT, Nat.reduceEqDiff, Nat.reduceMul, Nat.reduceLeDiff, if_true, Zn, reduceCtorEq, ZA, eq_self, Int.reduceLE, Int.reduceLT, Int.reduceToNat, ne_eq, Nat.reduceSub, Tarr72, Tld3, hl, hm, pl, nb2_b1, nb3_b2, nb3_b1, nb4_b3, nb4_b2, nb4_b1, cl, il, cg, hll, il2, cg2]
      repeat refine And.intro (by omega) ?_
      repeat refine And.intro (by omega) ?_
      intro g
      simp only [List.map_cons, List.map_nil, updL, upd, Nat.reduceEqDiff, if_true, if_false, ↓reduceIte]
      refine hK _ _ ?_; clear hK K
      refine Cd.cond rfl (fun h4 => ?_) (fun h4 => ?_)
      · have h4 : l.getD j 0 < 0 := by simp only [decide_eq_true_eq, decide_eq_false_iff_not, beq_iff_eq, beq_eq_false_iff_ne, bne_iff_ne, bne_eq_false_iff_eq, Bool.and_eq_true, Bool.or_eq_true, Bool.or_eq_false_iff, Bool.not_eq_true', Bool.not_eq_false', Bool.and_eq_false_imp, ne_eq, gt_iff_lt, ge_iff_le, Int.not_lt, Int.not_le, Classical.not_not] at h4; omega
        have hpos := negs_pos (l := l) (k := j) (by omega) h4
        obtain ⟨f', rfl⟩ : ∃ f', f = f' + 1 := ⟨f - 1, by omega⟩
        have hs := negs_set (c := ((compTo (nextOf n x o) k).2 : Int)) (by omega) l j (by omega) h4
        rw [walkC_step h4] at hw
        have c2 := hq.1 j hj
        have c3 := bytes_get ho (i := j) (by omega)
        have c4 := plc_geti (x := x) (n := n) c3.1 (by omega)
        skip
        refine Cd.skip ?_
        refine thenN ?_
        refine Cd.seq ?_
        refine Cd.block ?_
        refine Cd.rr [1, 2, 4, 5, 6, 8, 16, 17] fun K hK => ?_
        simp (maxSteps := 2000000) (disch := first | (simp only [E4, hl, hm, pl, cl, il, cg, hll, il2, cg2, c4] <;> omega) | omega | fail) only [↓E2, E3, bare, bareJ, ↓E0, E1, env0, envN, evOps, evOp, evQs, evQ, evV, setD, pureOp, ev, upd, updL, indexAddrV, cellAt, cellsAt, findB, setB, Value.cells, hav, delB, ↓reduceIte, Zj, Zk, Nat.reduceAdd, Nat.reduceLT, Nat.reduceEqDiff, Nat.reduceMul, Nat.reduceLeDiff, if_true, Zn, reduceCtorEq, ZA, eq_self, Int.reduceLE, Int.reduceLT, Int.reduceToNat, ne_eq, Nat.reduceSub, Tarr72, Tst3, hl, hm, pl, nb2_b1, nb3_b2, nb3_b1, nb4_b3, nb4_b2, nb4_b1, cl, il, cg, hll, il2, cg2, c4]
        repeat refine And.intro (by omega) ?_
        rw [incL_set]
        repeat refine And.intro (by omega) ?_
        intro g
        simp only [List.map_cons, List.map_nil, updL, upd, Nat.reduceEqDiff, if_true, if_false, ↓reduceIte]
        refine hK _ _ ?_; clear hK K
        refine inBN ?_
        refine thenN ?_
        refine Cd.rr [1, 2, 4, 5, 6, 8, 16, 17] fun K hK => ?_
        simp (maxSteps := 2000000) (disch := first | (simp only [E4, hl, hm, pl, cl, il, cg, hll, il2, cg2, c4] <;> omega) | omega | fail) only [↓E2, E3, bare, bareJ, ↓E0, E1, env0, envN, evOps, evOp, evQs, evQ, evV, setD, pureOp, ev, upd, updL, fieldAddrV, indexAddrV, cellAt, cellsAt, findB, hav, delB, ↓reduceIte, Zj, Zk, Nat.reduceAdd, Nat.reduceLT, Nat.reduceEqDiff, Nat.reduceMul, Nat.reduceLeDiff, if_true, Zn, reduceCtorEq, ZA, eq_self, Int.reduceLE, Int.reduceLT, Int.reduceToNat, ne_eq, Nat.reduceSub, Tarr22, Tarr72, Tfld27_2, Tld3, Tld5, hl, hm, pl, nb2_b1, nb3_b2, nb3_b1, nb4_b3, nb4_b2, nb4_b1, cl, il, cg, hll, il2, cg2, c4]
        repeat refine And.intro (by omega) ?_
        repeat refine And.intro (by omega) ?_
        intro g
        simp only [List.map_cons, List.map_nil, updL, upd, Nat.reduceEqDiff, if_true, if_false, ↓reduceIte]
        refine hK _ _ ?_; clear hK K
        refine roundN (m := f') (by omega) ⟨_, nextOf n x o j, _, (rowOf_lt (fun i hi => (bytes_get hx (by omega)).1) hp c3.1 c2).1, by rw [List.length_set]; exact hll, fun i hi => ?_, by omega, hw, rfl, rfl⟩
        rw [cgetD_set (by omega)]
        split
        · omega
        · exact hlb i hi
      · have h4 : ¬ l.getD j 0 < 0 := by simp only [decide_eq_true_eq, decide_eq_false_iff_not, beq_iff_eq, beq_eq_false_iff_ne, bne_iff_ne, bne_eq_false_iff_eq, Bool.and_eq_true, Bool.or_eq_true, Bool.or_eq_false_iff, Bool.not_eq_true', Bool.not_eq_false', Bool.and_eq_false_imp, ne_eq, gt_iff_lt, ge_iff_le, Int.not_lt, Int.not_le, Classical.not_not] at h4; omega
        refine Cd.exit (thenX (roundX (inBX ?_)))
        refine inBN ?_
        refine thenN ?_
        rw [walkC_end h4] at hw
        refine Cd.rr [1, 2, 4, 5, 6, 16, 17] fun K hK => ?_
        simp (maxSteps := 2000000) (disch := first | (simp only [E4, hl, hm, pl, cl, il, cg, hll, il2, cg2] <;> omega) | omega | fail) only [↓E2, E3, bare, bareJ, ↓E0, E1, env0, envN, evOps, evOp, evQs, evQ, evV, setD, pureOp, ev, upd, updL, binW, eqOp, binV, intOp, shOp, boolOp, hav, delB, eqL, SameI, strOp, ↓reduceIte, Zj, Zk, Nat.reduceAdd, Nat.reduceLT, Nat.reduceEqDiff, Nat.reduceMul, Nat.reduceLeDiff, if_true, Zn, reduceCtorEq, ZA, eq_self, Int.reduceLE, Int.reduceLT, Int.reduceToNat, ne_eq, Nat.reduceSub, hl, hm, pl, nb2_b1, nb3_b2, nb3_b1, nb4_b3, nb4_b2, nb4_b1, cl, il, cg, hll, il2, cg2]
        repeat refine And.intro (by omega) ?_
        intro g
        simp only [List.map_cons, List.map_nil, updL, upd, Nat.reduceEqDiff, if_true, if_false, ↓reduceIte]
        refine hK _ _ ?_; clear hK K
        have e1 : ((compTo (nextOf n x o) k).2 : Int) + 1 = ((compTo (nextOf n x o) (k + 1)).2 : Int) := by rw [compTo_more h3]; rfl
        have e2 : l = (compTo (nextOf n x o) (k + 1)).1 := by rw [compTo_more h3]; exact hw
        rw [e1, e2]
        exact roundN (m := m - 1) (by omega) ⟨_, k + 1, by omega, rfl, rfl⟩
  · refine Cd.exit (thenX (roundX (inBX ?_)))
    refine thenN ?_
    obtain rfl : k = n := by omega
    refine Cd.seq ?_
    refine Cd.rs [2, 4, 5, 42, 43] fun K hK => ?_
    simp (maxSteps := 2000000) (disch := first | (simp only [E4, hl, hm, pl, cl, il] <;> omega) | omega | fail) only [↓E2, E3, bare, bareJ, ↓E0, E1, env0, envN, evOps, evOp, evQs, evQ, evV, setD, pureOp, ev, upd, updL, cellAt, cellsAt, findB, setB, hav, delB, ↓reduceIte, Zj, Zk, Nat.reduceAdd, Nat.reduceLT, Nat.reduceEqDiff, Nat.reduceMul, Nat.reduceLeDiff, if_true, Zn, reduceCtorEq, ZA, eq_self, Int.reduceLE, Int.reduceLT, Int.reduceToNat, ne_eq, Nat.reduceSub, Tld27, hl, hm, pl, nb2_b1, nb3_b2, nb3_b1, nb4_b3, nb4_b2, nb4_b1, cl, il]
    refine callK_gives (n_c _ _ _ hl hm) ?_
    simp (maxSteps := 2000000) (disch := first | (simp only [E4, hl, hm, pl, cl, il] <;> omega) | omega | fail) only [↓E2, E3, bare, bareJ, ↓E0, E1, env0, envN, evOps, evOp, evQs, evQ, evV, setD, pureOp, ev, upd, updL, cellAt, cellsAt, findB, setB, hav, delB, ↓reduceIte, Zj, Zk, Nat.reduceAdd, Nat.reduceLT, Nat.reduceEqDiff, Nat.reduceMul, Nat.reduceLeDiff, if_true, Zn, reduceCtorEq, ZA, eq_self, Int.reduceLE, Int.reduceLT, Int.reduceToNat, ne_eq, Nat.reduceSub, Tld27, hl, hm, pl, nb2_b1, nb3_b2, nb3_b1, nb4_b3, nb4_b2, nb4_b1, cl, il]
    repeat refine And.intro (by omega) ?_
    intro g
    simp only [List.map_cons, List.map_nil, updL, upd, Nat.reduceEqDiff, if_true, if_false, ↓reduceIte]
    refine hK _ _ ?_; clear hK K
    refine Cd.block ?_
    refine Cd.loop (fun m ρ M => ∃ g j, j + m = k ∧ ρ = updL [(2, .pointer (some ⟨b2, 0, none⟩)), (4, .pointer (some ⟨b3, 0, none⟩)), (5, .int .i64 ((compTo (nextOf k x o) k).2 : Int)), (42, .int .i64 (k : Int)), (43, .int .i64 (j : Int))] g ∧ M = [(b4, ints .i64 (plc x k)), (b3, ints .i64 (decTo (compTo (nextOf k x o) k).1 j)), (b2, ints .i64 z8), (b1, gc (k : Int) x o)]) k ⟨_, 0, Nat.zero_add _, rfl, by rw [decTo_zero cl]⟩ ?_
    rintro m ρ M ⟨g, j, hj, rfl, rfl⟩
    have dl := decTo_len (compTo (nextOf k x o) k).1 j
    skip
    refine Cd.rs [2, 4, 5, 42, 43, 44] fun K hK => ?_
    simp (maxSteps := 2000000) (disch := first | (simp only [E4, hl, hm, pl, cl, il, dl] <;> omega) | omega | fail) only [↓E2, E3, bare, bareJ, ↓E0, E1, env0, envN, evOps, evOp, evQs, evQ, evV, setD, pureOp, ev, upd, updL, binW, eqOp, binV, intOp, shOp, boolOp, hav, delB, eqL, SameI, strOp, ↓reduceIte, Zj, Zk, Nat.reduceAdd, Nat.reduceLT, Nat.reduceEqDiff, Nat.reduceMul, Nat.reduceLeDiff, if_true, Zn, reduceCtorEq, ZA, eq_self, Int.reduceLE, Int.reduceLT, Int.reduceToNat, ne_eq, Nat.reduceSub, hl, hm, pl, nb2_b1, nb3_b2, nb3_b1, nb4_b3, nb4_b2, nb4_b1, cl, il, dl]
    repeat refine And.intro (by omega) ?_
    intro g
    simp only [List.map_cons, List.map_nil, updL, upd, Nat.reduceEqDiff, if_true, if_false, ↓reduceIte]
    refine hK _ _ ?_; clear hK K
    refine Cd.seq ?_
    refine Cd.condd rfl (fun h4 => ?_) (fun h4 => ?_)
    · have dg : (decTo (compTo (nextOf k x o) k).1 j).getD j 0 = (compTo (nextOf k x o) k).1.getD j 0 + 1 := by rw [decTo_get (by omega), if_neg (by omega)]
      have db := compTo_bound (nextOf k x o) k j (by omega)
      skip
      refine Cd.skip ?_
      refine thenN ?_
      refine Cd.seq ?_
      refine Cd.block ?_
      refine Cd.rs [2, 4, 5, 9, 42, 43] fun K hK => ?_
      simp (maxSteps := 2000000) (disch := first | (simp only [E4, hl, hm, pl, cl, il, dl, dg] <;> omega) | omega | fail) only [↓E2, E3, bare, bareJ, ↓E0, E1, env0, envN, evOps, evOp, evQs, evQ, evV, setD, pureOp, ev, upd, updL, hav, delB, ↓reduceIte, Zj, Zk, Nat.reduceAdd, Nat.reduceLT, Nat.reduceEqDiff, Nat.reduceMul, Nat.reduceLeDiff, if_true, Zn, reduceCtorEq, ZA, eq_self, Int.reduceLE, Int.reduceLT, Int.reduceToNat, ne_eq, Nat.reduceSub, hl, hm, pl, nb2_b1, nb3_b2, nb3_b1, nb4_b3, nb4_b2, nb4_b1, cl, il, dl, dg]
      repeat refine And.intro (by omega) ?_
      intro g
      simp only [List.map_cons, List.map_nil, updL, upd, Nat.reduceEqDiff, if_true, if_false, ↓reduceIte]
      refine hK _ _ ?_; clear hK K
      refine Cd.rr [2, 4, 5, 42, 43] fun K hK => ?_
      simp (maxSteps := 2000000) (disch := first | (simp only [E4, hl, hm, pl, cl, il, dl, dg] <;> omega) | omega | fail) only [↓E2, E3, bare, bareJ, ↓E0, E1, env0, envN, evOps, evOp, evQs, evQ, evV, setD, pureOp, ev, upd, updL, binW, eqOp, binV, intOp, shOp, boolOp, indexAddrV, cellAt, cellsAt, findB, setB, Value.cells, hav, delB, eqL, SameI, strOp, ↓reduceIte, Zj, Zk, Nat.reduceAdd, Nat.reduceLT, Nat.reduceEqDiff, Nat.reduceMul, Nat.reduceLeDiff, if_true, Zn, reduceCtorEq, ZA, eq_self, Int.reduceLE, Int.reduceLT, Int.reduceToNat, ne_eq, Nat.reduceSub, Tarr72, Tld3, Tst3, hl, hm, pl, nb2_b1, nb3_b2, nb3_b1, nb4_b3, nb4_b2, nb4_b1, cl, il, dl, dg]
      repeat refine And.intro (by omega) ?_
      rw [Int.add_sub_cancel, decTo_set (by omega)]
      repeat refine And.intro (by omega) ?_
      intro g
      simp only [List.map_cons, List.map_nil, updL, upd, Nat.reduceEqDiff, if_true, if_false, ↓reduceIte]
      refine hK _ _ ?_; clear hK K
      refine inBN ?_
      refine thenN ?_
      refine Cd.rr [2, 4, 5, 42, 43] fun K hK => ?_
      simp (maxSteps := 2000000) (disch := first | (simp only [E4, hl, hm, pl, cl, il, dl, dg] <;> omega) | omega | fail) only [↓E2, E3, bare, bareJ, ↓E0, E1, env0, envN, evOps, evOp, evQs, evQ, evV, setD, pureOp, ev, upd, updL, binW, eqOp, binV, intOp, shOp, boolOp, hav, delB, eqL, SameI, strOp, ↓reduceIte, Zj, Zk, Nat.reduceAdd, Nat.reduceLT, Nat.reduceEqDiff, Nat.reduceMul, Nat.reduceLeDiff, if_true, Zn, reduceCtorEq, ZA, eq_self, Int.reduceLE, Int.reduceLT, Int.reduceToNat, ne_eq, Nat.reduceSub, hl, hm, pl, nb2_b1, nb3_b2, nb3_b1, nb4_b3, nb4_b2, nb4_b1, cl, il, dl, dg]
      repeat refine And.intro (by omega) ?_
      intro g
      simp only [List.map_cons, List.map_nil, updL, upd, Nat.reduceEqDiff, if_true, if_false, ↓reduceIte]
      refine hK _ _ ?_; clear hK K
      refine roundN (m := m - 1) (by omega) ⟨_, j + 1, by omega, rfl, rfl⟩
    · refine Cd.exit (thenX (roundX (inBX ?_)))
      refine thenN ?_
      obtain rfl : j = k := by omega
      refine Cd.rs [2, 3] fun K hK => ?_
      simp (maxSteps := 2000000) (disch := first | (simp only [E4, hl, hm, pl, cl, il, dl] <;> omega) | omega | fail) only [↓E2, E3, bare, bareJ, ↓E0, E1, env0, envN, evOps, evOp, evQs, evQ, evV, setD, pureOp, ev, upd, updL, cellAt, cellsAt, findB, setB, Value.cells, hav, delB, ↓reduceIte, Zj, Zk, Nat.reduceAdd, Nat.reduceLT, Nat.reduceEqDiff, Nat.reduceMul, Nat.reduceLeDiff, if_true, Zn, reduceCtorEq, ZA, eq_self, Int.reduceLE, Int.reduceLT, Int.reduceToNat, ne_eq, Nat.reduceSub, Tld72, Tst72, hl, hm, pl, nb2_b1, nb3_b2, nb3_b1, nb4_b3, nb4_b2, nb4_b1, cl, il, dl]
      repeat refine And.intro (by omega) ?_
      intro g
      simp only [List.map_cons, List.map_nil, updL, upd, Nat.reduceEqDiff, if_true, if_false, ↓reduceIte]
      refine hK _ _ ?_; clear hK K
      refine Cd.ret ?_
      simp (maxSteps := 2000000) (disch := first | (simp only [E4, hl, hm, pl, cl, il, dl] <;> omega) | omega | fail) only [↓E2, E3, bare, bareJ, ↓E0, E1, evP, evPlan, env0, envN, evOps, evOp, evQs, evQ, evV, setD, pureOp, ev, upd, updL, gate, binW, eqOp, binV, intOp, shOp, boolOp, unV, convV, nilV, fieldAddrV, indexAddrV, extractV, cellAt, cellsAt, findB, setB, fillL, buildV, Value.cells, lenV, minV, maxV, hav, sliceV, loV, hiV, bslQ, mksQ, appQ, partsOk, partsCells, delB, eqL, SameI, strOp, apzQ, cvtQ, capV, ↓reduceIte, Zj, Zk, Nat.reduceAdd, Nat.reduceLT, Nat.reduceEqDiff, Nat.reduceMul, Nat.reduceLeDiff, if_true, Zn, reduceCtorEq, ZA, eq_self, Int.reduceLE, Int.reduceLT, Int.reduceToNat, ne_eq, Nat.reduceSub, Tld72, hl, hm, pl, nb2_b1, nb3_b2, nb3_b1, nb4_b3, nb4_b2, nb4_b1, cl, il, dl]
      rfl

end Go.Proofs

/-
  What the functions of this part hand back: each as a plain function of its arguments. Conditions: none.
-/
namespace Go.Proofs
open Go.W8
set_option linter.unusedVariables false
set_option linter.unusedSimpArgs false
set_option linter.unusedSectionVars false
set_option maxRecDepth 8000
set_option maxHeartbeats 4000000
def knotB (s : Int) (x o : List Int) : Bool := (comps s.toNat x o).2 == 1
def knotR (s : Int) (x o : List Int) : Value := if gridB s x o then .tuple #[.bool (knotB s x o), .int .i64 0] else .tuple #[.bool false, .int .i64 1]

section
variable (s : Int) (x o : List Int) (hx : Bytes8 x) (ho : Bytes8 o)
include hx ho

theorem isKnot_c (hg : gridB s x o = true) : Gives Try.prog 30 #[.agg (gc s x o).toArray] (.bool (knotB s x o)) := by
  have hl := hx.len
  have hm := ho.len
  unfold knotB
  obtain ⟨n, rfl, hn2, hn, px, po⟩ := gridB_perm hg
  rw [Int.toNat_natCast]
  have cl : (decTo (comps n x o).1 n).length = 8 := decTo_len _ _
  skip
  refine Gives.of fun w => ?_
  refine acall_of (N := 12) (c := _) (rs := [.tmp 2]) (args := [_]) Try.func30 rfl (by decide) rfl rfl (Nat.le_of_ble_eq_true rfl) ?_
  refine Cd.rs [1] fun K hK => ?_
  simp (maxSteps := 2000000) (disch := first | (simp only [E4, hl, hm, cl] <;> omega) | omega | fail) only [↓E2, E3, bare, bareJ, ↓E0, E1, env0, envN, evOps, evOp, evQs, evQ, evV, setD, pureOp, ev, upd, updL, Value.cells, hav, delB, ↓reduceIte, Zj, Zk, Nat.reduceAdd, Nat.reduceLT, Nat.reduceEqDiff, Nat.reduceMul, Nat.reduceLeDiff, if_true, Zn, reduceCtorEq, ZA, eq_self, Int.reduceLE, Int.reduceLT, Int.reduceToNat, ne_eq, Nat.reduceSub, hl, hm, cl]
  repeat refine And.intro (by omega) ?_
  intro b1 hb1
  try simp (maxSteps := 2000000) (disch := first | (simp only [E4, hl, hm, cl] <;> omega) | omega | fail) only [↓E2, E3, bare, bareJ, ↓E0, E1, env0, envN, evOps, evOp, evQs, evQ, evV, setD, pureOp, ev, upd, updL, Value.cells, hav, delB, ↓reduceIte, Zj, Zk, Nat.reduceAdd, Nat.reduceLT, Nat.reduceEqDiff, Nat.reduceMul, Nat.reduceLeDiff, if_true, Zn, reduceCtorEq, ZA, eq_self, Int.reduceLE, Int.reduceLT, Int.reduceToNat, ne_eq, Nat.reduceSub, hl, hm, cl]
  repeat refine And.intro (by omega) ?_
  intro g
  simp only [List.map_cons, List.map_nil, updL, upd, Nat.reduceEqDiff, if_true, if_false, ↓reduceIte]
  refine hK _ _ ?_; clear hK K
  refine Cd.rs [4] fun K hK => ?_
  simp (maxSteps := 2000000) (disch := first | (simp only [E4, hl, hm, cl] <;> omega) | omega | fail) only [↓E2, E3, bare, bareJ, ↓E0, E1, env0, envN, evOps, evOp, evQs, evQ, evV, setD, pureOp, ev, upd, updL, extractV, cellAt, cellsAt, findB, setB, Value.cells, hav, delB, ↓reduceIte, Zj, Zk, Nat.reduceAdd, Nat.reduceLT, Nat.reduceEqDiff, Nat.reduceMul, Nat.reduceLeDiff, if_true, Zn, reduceCtorEq, ZA, eq_self, Int.reduceLE, Int.reduceLT, Int.reduceToNat, ne_eq, Nat.reduceSub, Tld27, Tst72, Tzero72, hl, hm, cl]
  refine callK_gives (component_c n x o hx ho hn px po) ?_
  simp (maxSteps := 2000000) (disch := first | (simp only [E4, hl, hm, cl] <;> omega) | omega | fail) only [↓E2, E3, bare, bareJ, ↓E0, E1, env0, envN, evOps, evOp, evQs, evQ, evV, setD, pureOp, ev, upd, updL, extractV, cellAt, cellsAt, findB, setB, Value.cells, hav, delB, ↓reduceIte, Zj, Zk, Nat.reduceAdd, Nat.reduceLT, Nat.reduceEqDiff, Nat.reduceMul, Nat.reduceLeDiff, if_true, Zn, reduceCtorEq, ZA, eq_self, Int.reduceLE, Int.reduceLT, Int.reduceToNat, ne_eq, Nat.reduceSub, Tld27, Tst72, Tzero72, hl, hm, cl]
  repeat refine And.intro (by omega) ?_
  intro b2 hb2
  have nb2_b1 := hb2.ne
  try simp (maxSteps := 2000000) (disch := first | (simp only [E4, hl, hm, cl] <;> omega) | omega | fail) only [↓E2, E3, bare, bareJ, ↓E0, E1, env0, envN, evOps, evOp, evQs, evQ, evV, setD, pureOp, ev, upd, updL, extractV, cellAt, cellsAt, findB, setB, Value.cells, hav, delB, ↓reduceIte, Zj, Zk, Nat.reduceAdd, Nat.reduceLT, Nat.reduceEqDiff, Nat.reduceMul, Nat.reduceLeDiff, if_true, Zn, reduceCtorEq, ZA, eq_self, Int.reduceLE, Int.reduceLT, Int.reduceToNat, ne_eq, Nat.reduceSub, Tld27, Tst72, Tzero72, hl, hm, cl, nb2_b1]
  repeat refine And.intro (by omega) ?_
  intro g
  simp only [List.map_cons, List.map_nil, updL, upd, Nat.reduceEqDiff, if_true, if_false, ↓reduceIte]
  refine hK _ _ ?_; clear hK K
  refine Cd.rs [2] fun K hK => ?_
  simp (maxSteps := 2000000) (disch := first | (simp only [E4, hl, hm, cl] <;> omega) | omega | fail) only [↓E2, E3, bare, bareJ, ↓E0, E1, env0, envN, evOps, evOp, evQs, evQ, evV, setD, pureOp, ev, upd, updL, binW, eqOp, binV, intOp, shOp, boolOp, hav, delB, eqL, SameI, strOp, ↓reduceIte, Zj, Zk, Nat.reduceAdd, Nat.reduceLT, Nat.reduceEqDiff, Nat.reduceMul, Nat.reduceLeDiff, if_true, Zn, reduceCtorEq, ZA, eq_self, Int.reduceLE, Int.reduceLT, Int.reduceToNat, ne_eq, Nat.reduceSub, hl, hm, cl, nb2_b1]
  repeat refine And.intro (by omega) ?_
  intro g
  simp only [List.map_cons, List.map_nil, updL, upd, Nat.reduceEqDiff, if_true, if_false, ↓reduceIte]
  refine hK _ _ ?_; clear hK K
  refine Cd.ret ?_
  simp (maxSteps := 2000000) (disch := first | (simp only [E4, hl, hm, cl] <;> omega) | omega | fail) only [↓E2, E3, bare, bareJ, ↓E0, E1, evP, evPlan, env0, envN, evOps, evOp, evQs, evQ, evV, setD, pureOp, ev, upd, updL, gate, binW, eqOp, binV, intOp, shOp, boolOp, unV, convV, nilV, fieldAddrV, indexAddrV, extractV, cellAt, cellsAt, findB, setB, fillL, buildV, Value.cells, lenV, minV, maxV, hav, sliceV, loV, hiV, bslQ, mksQ, appQ, partsOk, partsCells, delB, eqL, SameI, strOp, apzQ, cvtQ, capV, ↓reduceIte, Zj, Zk, Nat.reduceAdd, Nat.reduceLT, Nat.reduceEqDiff, Nat.reduceMul, Nat.reduceLeDiff, if_true, Zn, reduceCtorEq, ZA, eq_self, Int.reduceLE, Int.reduceLT, Int.reduceToNat, ne_eq, Nat.reduceSub, hl, hm, cl, nb2_b1]
  refine congrArg Value.bool ?_
  rw [Bool.eq_iff_iff, beq_iff_eq, beq_iff_eq]
  omega

end

end Go.Proofs

/-
  What the functions of this part hand back: each as a plain function of its arguments. Conditions: none.
-/
namespace Go.Proofs
open Go.W8
set_option linter.unusedVariables false
set_option linter.unusedSimpArgs false
set_option linter.unusedSectionVars false
set_option maxRecDepth 8000
set_option maxHeartbeats 4000000
def alQ (n : Nat) (x o : List Int) : Int × List Int := (qIter (detLow n x o, detL n x o) (n - 1)).getD (0, [])
def alV (n : Nat) (x o : List Int) : Int := valTo 0 1 (alQ n x o).2 (alQ n x o).2.length
def negL (l : List Int) : List Int := l.map fun c => -c
def alL (n : Nat) (x o : List Int) : List Int := if alV n x o < 0 then negL (alQ n x o).2 else (alQ n x o).2
def loL (l : List Int) : Int := (0 - ((l.length : Int) - 1)).tdiv 2
theorem negL_len (l : List Int) : (negL l).length = l.length := by simp [negL]
theorem negL_get (l : List Int) (i : Nat) : (negL l).getD i 0 = -l.getD i 0 := by
  unfold negL
  rw [List.getD_eq_getElem?_getD, List.getElem?_map, List.getD_eq_getElem?_getD]
  cases l[i]? <;> simp
theorem alL_len (n : Nat) (x o : List Int) : (alL n x o).length = (alQ n x o).2.length := by
  unfold alL
  split
  · exact negL_len _
  · rfl
theorem alQ_ok {n : Nat} (x o : List Int) (hn : n ≤ 8) : lauOk (alQ n x o).1 (alQ n x o).2 = true := by
  unfold alQ
  cases h : qIter (detLow n x o, detL n x o) (n - 1) with
  | none => rfl
  | some q => exact qIter_ok (p := (detLow n x o, detL n x o)) (detL_ok x o hn) _ q h
theorem loL_ok {low : Int} {l : List Int} (h : lauOk low l = true) : lauOk (loL l) l = true := by
  by_cases h0 : l.length = 0
  · rw [lauOk_zero h0]
    unfold loL
    rw [h0]
    decide
  · have h1 := lauOk_len h
    have h2 : loL l = -(((l.length : Int) - 1) / 2) := by
      unfold loL
      rw [Int.zero_sub, Int.neg_tdiv, Int.tdiv_eq_ediv_of_nonneg (by omega)]
    rw [lauOk_pos h0] at h ⊢
    simp only [Bool.and_eq_true] at h ⊢
    obtain ⟨⟨⟨⟨⟨a1, a2⟩, a3⟩, a4⟩, a5⟩, a6⟩ := h
    refine ⟨⟨⟨⟨⟨a1, ?_, ?_⟩, ?_⟩, a4⟩, a5⟩, a6⟩ <;> rw [h2, decide_eq_true_eq] <;> omega
theorem negL_ok {low : Int} {l : List Int} (h : lauOk low l = true) : lauOk low (negL l) = true := by
  by_cases h0 : l.length = 0
  · rw [lauOk_zero h0] at h
    rw [lauOk_zero (by rw [negL_len]; exact h0)]
    exact h
  · rw [lauOk_pos h0] at h
    rw [lauOk_pos (by rw [negL_len]; exact h0), negL_len, negL_get, negL_get]
    simp only [Bool.and_eq_true] at h ⊢
    obtain ⟨⟨⟨a123, a4⟩, a5⟩, a6⟩ := h
    refine ⟨⟨⟨a123, ?_⟩, ?_⟩, ?_⟩
    · simp only [Bool.not_eq_true', beq_eq_false_iff_ne] at a4 ⊢; omega
    · simp only [Bool.not_eq_true', beq_eq_false_iff_ne] at a5 ⊢; omega
    · rw [all_get] at a6 ⊢
      intro i hi
      rw [negL_len] at hi
      have := a6 i hi
      rw [negL_get]
      unfold coOk at this ⊢
      simp only [Bool.and_eq_true, decide_eq_true_eq] at this ⊢
      omega
theorem addR_neg {low : Int} {l : List Int} (h : lauOk low l = true) (h0 : l.length ≠ 0) : addR 0 [] low l (-1) = (low, negL l) := by
  have eN : addN 0 [] low l = l.length := by
    unfold addN addHi addLo
    rw [if_pos List.length_nil, if_pos List.length_nil]
    omega
  have eL : addLo 0 [] low = low := by unfold addLo; rw [if_pos List.length_nil]
  have eS : addS 0 [] low l (-1) = negL l := by
    unfold addS
    rw [eN, eL]
    refine getD_ext0 (by rw [sumK_len, negL_len]) fun i hi => ?_
    rw [sumK_len] at hi
    rw [sumK_get hi, negL_get]
    unfold coK
    rw [if_neg (by simp), if_pos (by omega), show (low + (i : Int) - low).toNat = i by omega]
    omega
  unfold addR
  rw [if_neg h0, eS, eL, (trim_same (negL_ok h)).1, (trim_same (negL_ok h)).2]
theorem quotP_any {low : Int} {l : List Int} {k : Nat} {L M' : Blks} {r : Value} (h : quotP low l k L r M') : ∃ ok pv Mq, r = .tuple #[pv, .bool ok] ∧ LauV ((qIter (low, l) k).getD (0, [])).1 ((qIter (low, l) k).getD (0, [])).2 pv Mq ∧ SubP Mq M' := by
  obtain ⟨_, ⟨q, pv, Mq, hq, rfl, hm, hv⟩ | ⟨hq, rfl⟩⟩ := h
  · rw [hq]
    refine ⟨_, pv, Mq, rfl, hv, ?_⟩
    obtain ⟨s, rfl, hs⟩ := hv
    rcases hs with ⟨_, _, rfl⟩ | ⟨b, m, cap, cs, _, rfl, _⟩
    · exact SubP.of (List.nil_sublist _)
    · exact SubP.of (List.singleton_sublist.2 (hm _ (List.mem_singleton.2 rfl)))
  · rw [hq]
    exact ⟨_, _, [], rfl, ⟨_, rfl, SlN.nil 1⟩, SubP.of (List.nil_sublist _)⟩
theorem _root_.Go.W8.SlN.len1 {l : List Int} {a : Option Addr} {m c : Nat} {M : Blks} (h : SlN 1 (ints .i64 l) (.slice a m c) M) : m = l.length := by
  rcases h with ⟨e1, e2, _⟩ | ⟨_, _, _, _, e, _, hr⟩
  · cases e2
    have := congrArg List.length e1
    rw [ints_length] at this
    simpa using this.symm
  · cases e
    exact lauLen hr.len
theorem subP_two {p q r : Nat × List Value} {A B : Blks} (h : SubP A B) : SubP (p :: q :: A) (p :: q :: r :: B) := by
  obtain ⟨M1, h1, h2⟩ := h
  exact ⟨p :: q :: M1, (h1.symm.cons q).cons p |>.symm, .cons_cons _ (.cons_cons _ (.cons _ h2))⟩
theorem nodup_new {w0 : World} {M : Blks} {b : Nat} {cs : List Value} (hb : Fresh w0 M b) (h : (M.map (·.1)).Nodup) : (((b, cs) :: M).map (·.1)).Nodup := by
  simp only [List.map_cons, List.nodup_cons]
  refine ⟨fun hm => ?_, h⟩
  obtain ⟨p, hp, e⟩ := List.mem_map.1 hm
  exact hb.2 p hp e.symm
theorem valTo_one {l : List Int} (low : Int) : ∀ k, valTo low 1 l k = valTo 0 1 l k
  | 0 => rfl
  | k + 1 => by
    show valTo low 1 l k + (if valOdd low 1 k = true then _ else _) = valTo 0 1 l k + (if valOdd 0 1 k = true then _ else _)
    rw [valTo_one low k]
    rfl
section
variable (n : Nat) (x o : List Int) (hx : Bytes8 x) (ho : Bytes8 o) (hn : n ≤ 8) (hn2 : 2 ≤ n)
include hx ho hn hn2
theorem l04Alexander_c : GivesX Try.prog 12 #[.agg (gc (n : Int) x o).toArray] [] [] (LauV (loL (alL n x o)) (alL n x o)) := by
  have hl := hx.len
  have hm := ho.len
  have hq := fun v L (hv : LauV (detLow n x o) (detL n x o) v L) => l04Quotient_c (detLow n x o) (detL n x o) v L hv (detL_ok x o hn) (n - 1) (by omega)
  have en : (n : Int) - 1 = ((n - 1 : Nat) : Int) := by omega
  refine GivesX.part ?_
  skip
  refine GivesX.of (callable_of Try.func12 rfl (by decide)) ?_ fun w hnd hlt hR => ?_
  · simp
  refine acall_of (N := 28) (c := _) (rs := [.cell 2 35]) (args := [_]) Try.func12 rfl (by decide) rfl rfl (Nat.le_of_ble_eq_true rfl) ?_
  refine Cd.rs [1, 2] fun K hK => ?_
  simp (maxSteps := 2000000) (disch := first | (simp only [E4, hl, hm] <;> omega) | omega | fail) only [↓E2, E3, bare, bareJ, ↓E0, E1, env0, envN, evOps, evOp, evQs, evQ, evV, setD, pureOp, ev, upd, updL, Value.cells, hav, delB, ↓reduceIte, Zj, Zk, Nat.reduceAdd, Nat.reduceLT, Nat.reduceEqDiff, Nat.reduceMul, Nat.reduceLeDiff, if_true, Zn, reduceCtorEq, ZA, eq_self, Int.reduceLE, Int.reduceLT, Int.reduceToNat, ne_eq, Nat.reduceSub, Tzero35, hl, hm]
  repeat refine And.intro (by omega) ?_
  intro b1 hb1
  intro b2 hb2
  have nb2_b1 := hb2.ne
  try simp (maxSteps := 2000000) (disch := first | (simp only [E4, hl, hm] <;> omega) | omega | fail) only [↓E2, E3, bare, bareJ, ↓E0, E1, env0, envN, evOps, evOp, evQs, evQ, evV, setD, pureOp, ev, upd, updL, Value.cells, hav, delB, ↓reduceIte, Zj, Zk, Nat.reduceAdd, Nat.reduceLT, Nat.reduceEqDiff, Nat.reduceMul, Nat.reduceLeDiff, if_true, Zn, reduceCtorEq, ZA, eq_self, Int.reduceLE, Int.reduceLT, Int.reduceToNat, ne_eq, Nat.reduceSub, Tzero35, hl, hm, nb2_b1]
  repeat refine And.intro (by omega) ?_
  repeat refine And.intro (by omega) ?_
  intro g
  simp only [List.map_cons, List.map_nil, updL, upd, Nat.reduceEqDiff, if_true, if_false, ↓reduceIte]
  refine hK _ _ ?_; clear hK K
  have n2 : ¬ b2 = b1 := hb2.2 (b1, gc (n : Int) x o) (by simp)
  skip
  skip
  refine Cd.ps [2, 3] (Plan.take 0 (Plan.take 2 (Plan.more 1 (Plan.take 3 (Plan.take 4 (Plan.more 5 (Plan.take 6 (Plan.take 7 (Plan.take 8 (Plan.one 9 (Plan.one 10 (Plan.take 11 (Plan.done))))))) (Plan.one 9 (Plan.one 5 (Plan.take 6 (Plan.take 7 (Plan.take 8 (Plan.one 10 (Plan.take 11 (Plan.done))))))))))) (Plan.more 3 (Plan.take 4 (Plan.more 1 (Plan.more 5 (Plan.take 6 (Plan.take 7 (Plan.take 8 (Plan.one 9 (Plan.one 10 (Plan.take 11 (Plan.done))))))) (Plan.one 9 (Plan.one 5 (Plan.take 6 (Plan.take 7 (Plan.take 8 (Plan.one 10 (Plan.take 11 (Plan.done))))))))) (Plan.one 9 (Plan.one 1 (Plan.one 5 (Plan.take 6 (Plan.take 7 (Plan.take 8 (Plan.one 10 (Plan.take 11 (Plan.done))))))))))) (Plan.one 9 (Plan.more 1 (Plan.take 3 (Plan.take 4 (Plan.one 5 (Plan.take 6 (Plan.take 7 (Plan.take 8 (Plan.one 10 (Plan.take 11 (Plan.done))))))))) (Plan.one 3 (Plan.take 4 (Plan.one 1 (Plan.one 5 (Plan.take 6 (Plan.take 7 (Plan.take 8 (Plan.one 10 (Plan.take 11 (Plan.done)))))))))))))))) fol (by kernel_rfl) (Nat.le_of_ble_eq_true rfl) fun K hK => ?_
  have J : ∀ g b3 pv Mq M, LauV (alQ n x o).1 (alQ n x o).2 pv Mq → (∃ a m c, pv = .agg #[.int .i64 (alQ n x o).1, .slice a m c] ∧ SubP ((b3, [.int .i64 (alQ n x o).1, .slice a m c]) :: (b2, [.int .i64 0, .slice none 0 0]) :: Mq) M) → K (updL [(2, .pointer (some ⟨b2, 0, none⟩)), (3, .pointer (some ⟨b3, 0, none⟩))] g) M := by
    rintro g b3 pv Mq M ⟨s', rfl, hs'⟩ ⟨a, m, c, e, hM⟩
    cases e
    refine hK _ _ ?_
    clear hK K
    refine Cd.sub hM ?_
    clear hM
    have hok := alQ_ok x o hn
    have hln := alL_len n x o
    have hvl : valTo 0 1 (alQ n x o).2 (alQ n x o).2.length = alV n x o := rfl
    have hal : alL n x o = if alV n x o < 0 then negL (alQ n x o).2 else (alQ n x o).2 := rfl
    generalize (alQ n x o).1 = ql at *
    generalize (alQ n x o).2 = qq at *
    obtain rfl := hs'.len1
    have q2 := lauOk_len hok
    have q3 := lauOk_get hok
    have hlo := lauOk_low (loL_ok hok)
    have hlw : (0 - ((qq.length : Int) - 1)).tdiv 2 = loL qq := rfl
    refine Cd.nodup fun hnd => ?_
    have n3 : ¬ b3 = b2 := (nodup_cases hnd).1 (b2, [.int .i64 0, .slice none 0 0]) (by simp)
    skip
    skip
    have hrd : RdS (toldOf Mq) 1 (ints .i64 qq) (.slice a qq.length c) := hs'.reads fun p hp => mem_toldOf hp
    refine Cd.rs [2, 3] fun K hK => ?_
    simp (maxSteps := 2000000) (disch := first | (simp only [E4, hl, hm, hlw] <;> omega) | omega | fail) only [↓E2, E3, bare, bareJ, ↓E0, E1, env0, envN, evOps, evOp, evQs, evQ, evV, setD, pureOp, ev, upd, updL, binW, eqOp, binV, intOp, shOp, boolOp, unV, fieldAddrV, cellAt, cellsAt, findB, setB, Value.cells, lenV, hav, delB, eqL, SameI, strOp, ↓reduceIte, Zj, Zk, Nat.reduceAdd, Nat.reduceLT, Nat.reduceEqDiff, Nat.reduceMul, Nat.reduceLeDiff, if_true, Zn, reduceCtorEq, ZA, eq_self, Int.reduceLE, Int.reduceLT, Int.reduceToNat, ne_eq, Nat.reduceSub, Tfld35_0, Tfld35_1, Tld31, Tslce31, Tst2, hl, hm, nb2_b1, n2, n3, hlw]
    repeat refine And.intro (by omega) ?_
    repeat refine And.intro (by omega) ?_
    intro g
    simp only [List.map_cons, List.map_nil, updL, upd, Nat.reduceEqDiff, if_true, if_false, ↓reduceIte]
    refine hK _ _ ?_; clear hK K
    refine Cd.nodup fun hnd => ?_
    refine Cd.seq ?_
    refine Cd.rs [2, 3, 23] fun K hK => ?_
    simp (maxSteps := 2000000) (disch := first | (simp only [E4, hl, hm] <;> omega) | omega | fail) only [↓E2, E3, bare, bareJ, ↓E0, E1, env0, envN, evOps, evOp, evQs, evQ, evV, setD, pureOp, ev, upd, updL, binW, eqOp, binV, intOp, shOp, boolOp, cellAt, cellsAt, findB, setB, hav, delB, eqL, SameI, strOp, ↓reduceIte, Zj, Zk, Nat.reduceAdd, Nat.reduceLT, Nat.reduceEqDiff, Nat.reduceMul, Nat.reduceLeDiff, if_true, Zn, reduceCtorEq, ZA, eq_self, Int.reduceLE, Int.reduceLT, Int.reduceToNat, ne_eq, Nat.reduceSub, Tld35, hl, hm, nb2_b1, n2, n3]
    repeat refine And.intro (by omega) ?_
    refine callK_reads0 (l04Value_c (loL qq) 1 qq (toldOf Mq) _ ⟨_, rfl, hrd⟩ (by omega) (by omega) (fun k => by have := q3 k; omega)) (holds_mem hnd fun p hp => by simp [hp]) ?_
    rw [valTo_one, hvl]
    simp (maxSteps := 2000000) (disch := first | (simp only [E4, hl, hm] <;> omega) | omega | fail) only [↓E2, E3, bare, bareJ, ↓E0, E1, env0, envN, evOps, evOp, evQs, evQ, evV, setD, pureOp, ev, upd, updL, binW, eqOp, binV, intOp, shOp, boolOp, cellAt, cellsAt, findB, setB, hav, delB, eqL, SameI, strOp, ↓reduceIte, Zj, Zk, Nat.reduceAdd, Nat.reduceLT, Nat.reduceEqDiff, Nat.reduceMul, Nat.reduceLeDiff, if_true, Zn, reduceCtorEq, ZA, eq_self, Int.reduceLE, Int.reduceLT, Int.reduceToNat, ne_eq, Nat.reduceSub, Tld35, hl, hm, nb2_b1, n2, n3]
    repeat refine And.intro (by omega) ?_
    repeat refine And.intro (by omega) ?_
    intro g
    simp only [List.map_cons, List.map_nil, updL, upd, Nat.reduceEqDiff, if_true, if_false, ↓reduceIte]
    refine hK _ _ ?_; clear hK K
    refine Cd.condd rfl (fun h1 => ?_) (fun h1 => ?_)
    · rw [if_pos h1] at hal
      have h0 : qq.length ≠ 0 := by
        intro h0
        have : alV n x o = 0 := by rw [← hvl, h0]; rfl
        omega
      have hadd := addR_neg (loL_ok hok) h0
      have hlq : loL (negL qq) = loL qq := by unfold loL; rw [negL_len]
      refine Cd.rs [2] fun K hK => ?_
      simp (maxSteps := 2000000) (disch := first | (simp only [E4, hl, hm] <;> omega) | omega | fail) only [↓E2, E3, bare, bareJ, ↓E0, E1, evP, env0, envN, evOps, evOp, evQs, evQ, evV, setD, pureOp, ev, upd, updL, cellAt, cellsAt, findB, setB, fillL, buildV, Value.cells, hav, delB, ↓reduceIte, Zj, Zk, Nat.reduceAdd, Nat.reduceLT, Nat.reduceEqDiff, Nat.reduceMul, Nat.reduceLeDiff, if_true, Zn, reduceCtorEq, ZA, eq_self, Int.reduceLE, Int.reduceLT, Int.reduceToNat, ne_eq, Nat.reduceSub, Tbld35, Tld35, Tst35, hl, hm, nb2_b1, n2, n3]
      repeat refine And.intro (by omega) ?_
      refine callK_newR0 (l04Add_c 0 [] (loL qq) qq (toldOf Mq) _ _ ⟨_, rfl, (SlN.nil 1).reads (M := []) fun p hp => nomatch hp⟩ ⟨_, rfl, hrd⟩ rfl (loL_ok hok) (-1) (.inr rfl)) (HoldsAll.toldW (holds_mem hnd fun p hp => by simp [hp])) ?_
      rw [hadd]
      rintro v' M' ⟨s2, rfl, hs2⟩ nd' _
      obtain ⟨a2, m2, c2, rfl⟩ := hs2.form
      simp only [List.cons_append, List.nil_append] at nd' ⊢
      simp (maxSteps := 2000000) (disch := first | (simp only [E4, hl, hm] <;> omega) | omega | fail) only [↓E2, E3, bare, bareJ, ↓E0, E1, evP, env0, envN, evOps, evOp, evQs, evQ, evV, setD, pureOp, ev, upd, updL, cellAt, cellsAt, findB, setB, fillL, buildV, Value.cells, hav, delB, ↓reduceIte, Zj, Zk, Nat.reduceAdd, Nat.reduceLT, Nat.reduceEqDiff, Nat.reduceMul, Nat.reduceLeDiff, if_true, Zn, reduceCtorEq, ZA, eq_self, Int.reduceLE, Int.reduceLT, Int.reduceToNat, ne_eq, Nat.reduceSub, Tbld35, Tld35, Tst35, hl, hm, nb2_b1, n2, n3]
      repeat refine And.intro (by omega) ?_
      repeat refine And.intro (by omega) ?_
      intro g
      simp only [List.map_cons, List.map_nil, updL, upd, Nat.reduceEqDiff, if_true, if_false, ↓reduceIte]
      refine hK _ _ ?_; clear hK K
      refine Cd.ret (thenR ?_)
      simp (maxSteps := 2000000) (disch := first | (simp only [E4, hl, hm] <;> omega) | omega | fail) only [↓E2, E3, bare, bareJ, ↓E0, E1, evP, evPlan, env0, envN, evOps, evOp, evQs, evQ, evV, setD, pureOp, ev, upd, updL, gate, binW, eqOp, binV, intOp, shOp, boolOp, unV, convV, nilV, fieldAddrV, indexAddrV, extractV, cellAt, cellsAt, findB, setB, fillL, buildV, Value.cells, lenV, minV, maxV, hav, sliceV, loV, hiV, bslQ, mksQ, appQ, partsOk, partsCells, delB, eqL, SameI, strOp, apzQ, cvtQ, capV, ↓reduceIte, Zj, Zk, Nat.reduceAdd, Nat.reduceLT, Nat.reduceEqDiff, Nat.reduceMul, Nat.reduceLeDiff, if_true, Zn, reduceCtorEq, ZA, eq_self, Int.reduceLE, Int.reduceLT, Int.reduceToNat, ne_eq, Nat.reduceSub, Tld35, hl, hm, nb2_b1, n2, n3]
      repeat refine And.intro (by omega) ?_
      rw [hal, hlq]
      exact ⟨M', SubP.of (List.Sublist.cons _ (List.Sublist.cons _ (List.sublist_append_right _ _))), _, rfl, hs2⟩
    · rw [if_neg h1] at hal
      refine Cd.skip ?_
      refine thenN ?_
      refine Cd.rs [2] fun K hK => ?_
      simp (maxSteps := 2000000) (disch := first | (simp only [E4, hl, hm] <;> omega) | omega | fail) only [↓E2, E3, bare, bareJ, ↓E0, E1, env0, envN, evOps, evOp, evQs, evQ, evV, setD, pureOp, ev, upd, updL, cellAt, cellsAt, findB, setB, Value.cells, hav, delB, ↓reduceIte, Zj, Zk, Nat.reduceAdd, Nat.reduceLT, Nat.reduceEqDiff, Nat.reduceMul, Nat.reduceLeDiff, if_true, Zn, reduceCtorEq, ZA, eq_self, Int.reduceLE, Int.reduceLT, Int.reduceToNat, ne_eq, Nat.reduceSub, Tld35, Tst35, hl, hm, nb2_b1, n2, n3]
      repeat refine And.intro (by omega) ?_
      repeat refine And.intro (by omega) ?_
      intro g
      simp only [List.map_cons, List.map_nil, updL, upd, Nat.reduceEqDiff, if_true, if_false, ↓reduceIte]
      refine hK _ _ ?_; clear hK K
      refine Cd.ret ?_
      simp (maxSteps := 2000000) (disch := first | (simp only [E4, hl, hm] <;> omega) | omega | fail) only [↓E2, E3, bare, bareJ, ↓E0, E1, evP, evPlan, env0, envN, evOps, evOp, evQs, evQ, evV, setD, pureOp, ev, upd, updL, gate, binW, eqOp, binV, intOp, shOp, boolOp, unV, convV, nilV, fieldAddrV, indexAddrV, extractV, cellAt, cellsAt, findB, setB, fillL, buildV, Value.cells, lenV, minV, maxV, hav, sliceV, loV, hiV, bslQ, mksQ, appQ, partsOk, partsCells, delB, eqL, SameI, strOp, apzQ, cvtQ, capV, ↓reduceIte, Zj, Zk, Nat.reduceAdd, Nat.reduceLT, Nat.reduceEqDiff, Nat.reduceMul, Nat.reduceLeDiff, if_true, Zn, reduceCtorEq, ZA, eq_self, Int.reduceLE, Int.reduceLT, Int.reduceToNat, ne_eq, Nat.reduceSub, Tld35, hl, hm, nb2_b1, n2, n3]
      repeat refine And.intro (by omega) ?_
      rw [hal]
      exact ⟨Mq, SubP.of (List.Sublist.cons _ (List.Sublist.cons _ (List.Sublist.refl _))), _, rfl, hs'⟩
  clear hK
  simp (maxSteps := 2000000) (disch := first | (simp only [E4, hl, hm] <;> omega) | omega | fail) only [↓E2, E3, bare, bareJ, ↓E0, E1, evPlan, env0, envN, evOps, evOp, evQs, evQ, evV, setD, pureOp, ev, upd, updL, binW, eqOp, binV, intOp, shOp, boolOp, fieldAddrV, extractV, cellAt, cellsAt, findB, setB, Value.cells, hav, delB, eqL, SameI, strOp, ↓reduceIte, Zj, Zk, Nat.reduceAdd, Nat.reduceLT, Nat.reduceEqDiff, Nat.reduceMul, Nat.reduceLeDiff, if_true, Zn, reduceCtorEq, ZA, eq_self, Int.reduceLE, Int.reduceLT, Int.reduceToNat, ne_eq, Nat.reduceSub, Tfld27_0, Tld2, Tld27, Tst35, Tzero35, ↓YR, hl, hm, nb2_b1, n2]
  refine moreX_go ?_ ?_
  · simp (maxSteps := 2000000) (disch := first | (simp only [E4, hl, hm, en] <;> omega) | omega | fail) only [↓E2, E3, bare, bareJ, ↓E0, E1, evPlan, env0, envN, evOps, evOp, evQs, evQ, evV, setD, pureOp, ev, upd, updL, binW, eqOp, binV, intOp, shOp, boolOp, fieldAddrV, extractV, cellAt, cellsAt, findB, setB, Value.cells, hav, delB, eqL, SameI, strOp, ↓reduceIte, Zj, Zk, Nat.reduceAdd, Nat.reduceLT, Nat.reduceEqDiff, Nat.reduceMul, Nat.reduceLeDiff, if_true, Zn, reduceCtorEq, ZA, eq_self, Int.reduceLE, Int.reduceLT, Int.reduceToNat, ne_eq, Nat.reduceSub, Tfld27_0, Tld2, Tld27, Tst35, Tzero35, ↓YR, hl, hm, nb2_b1, n2, en]
    refine callO_newR0 (l04Determinant_c n x o hx ho hn hn2) (fun _ _ => toldW_nil) ?_
    intro v1 M1 hv1 nd1 _
    simp only [List.cons_append, List.nil_append] at nd1 ⊢
    simp (maxSteps := 2000000) (disch := first | (simp only [E4, hl, hm, en] <;> omega) | omega | fail) only [↓E2, E3, bare, bareJ, ↓E0, E1, evPlan, env0, envN, evOps, evOp, evQs, evQ, evV, setD, pureOp, ev, upd, updL, binW, eqOp, binV, intOp, shOp, boolOp, fieldAddrV, extractV, cellAt, cellsAt, findB, setB, Value.cells, hav, delB, eqL, SameI, strOp, ↓reduceIte, Zj, Zk, Nat.reduceAdd, Nat.reduceLT, Nat.reduceEqDiff, Nat.reduceMul, Nat.reduceLeDiff, if_true, Zn, reduceCtorEq, ZA, eq_self, Int.reduceLE, Int.reduceLT, Int.reduceToNat, ne_eq, Nat.reduceSub, Tfld27_0, Tld2, Tld27, Tst35, Tzero35, ↓YR, hl, hm, nb2_b1, n2, en]
    refine moreX_go ?_ ?_
    · simp (maxSteps := 2000000) (disch := first | (simp only [E4, hl, hm] <;> omega) | omega | fail) only [↓E2, E3, bare, bareJ, ↓E0, E1, evPlan, env0, envN, evOps, evOp, evQs, evQ, evV, setD, pureOp, ev, upd, updL, binW, eqOp, binV, intOp, shOp, boolOp, fieldAddrV, extractV, cellAt, cellsAt, findB, setB, Value.cells, hav, delB, eqL, SameI, strOp, ↓reduceIte, Zj, Zk, Nat.reduceAdd, Nat.reduceLT, Nat.reduceEqDiff, Nat.reduceMul, Nat.reduceLeDiff, if_true, Zn, reduceCtorEq, ZA, eq_self, Int.reduceLE, Int.reduceLT, Int.reduceToNat, ne_eq, Nat.reduceSub, Tfld27_0, Tld2, Tld27, Tst35, Tzero35, ↓YR, hl, hm, nb2_b1, n2]
      refine callO_lentC (cs := []) (Mr := [(b2, [.int .i64 0, .slice none 0 0]), (b1, gc (n : Int) x o)]) (hq v1 M1 hv1) nd1 rfl (fun _ _ => toldW_nil) ?_
      intro r M' hr nd2 _
      obtain ⟨ok, pv, Mq, rfl, ⟨s', rfl, hs'⟩, hsub⟩ := quotP_any hr
      obtain ⟨a', m', c', rfl⟩ := hs'.form
      simp only [List.cons_append, List.nil_append] at nd2 ⊢
      simp (maxSteps := 2000000) (disch := first | (simp only [E4, hl, hm] <;> omega) | omega | fail) only [↓E2, E3, bare, bareJ, ↓E0, E1, evPlan, env0, envN, evOps, evOp, evQs, evQ, evV, setD, pureOp, ev, upd, updL, binW, eqOp, binV, intOp, shOp, boolOp, fieldAddrV, extractV, cellAt, cellsAt, findB, setB, Value.cells, hav, delB, eqL, SameI, strOp, ↓reduceIte, Zj, Zk, Nat.reduceAdd, Nat.reduceLT, Nat.reduceEqDiff, Nat.reduceMul, Nat.reduceLeDiff, if_true, Zn, reduceCtorEq, ZA, eq_self, Int.reduceLE, Int.reduceLT, Int.reduceToNat, ne_eq, Nat.reduceSub, Tfld27_0, Tld2, Tld27, Tst35, Tzero35, ↓YR, hl, hm, nb2_b1, n2]
      intro b3 hb3
      repeat refine And.intro (by omega) ?_
      intro g
      simp only [List.map_cons, List.map_nil, updL, upd, Nat.reduceEqDiff, if_true, if_false, ↓reduceIte]
      exact J g b3 _ Mq _ ⟨_, rfl, hs'⟩ ⟨_, _, _, rfl, subP_two hsub⟩
    · simp (maxSteps := 2000000) (disch := first | (simp only [E4, hl, hm] <;> omega) | omega | fail) only [↓E2, E3, bare, bareJ, ↓E0, E1, evPlan, env0, envN, evOps, evOp, evQs, evQ, evV, setD, pureOp, ev, upd, updL, binW, eqOp, binV, intOp, shOp, boolOp, fieldAddrV, extractV, cellAt, cellsAt, findB, setB, Value.cells, hav, delB, eqL, SameI, strOp, ↓reduceIte, Zj, Zk, Nat.reduceAdd, Nat.reduceLT, Nat.reduceEqDiff, Nat.reduceMul, Nat.reduceLeDiff, if_true, Zn, reduceCtorEq, ZA, eq_self, Int.reduceLE, Int.reduceLT, Int.reduceToNat, ne_eq, Nat.reduceSub, Tfld27_0, Tld2, Tld27, Tst35, Tzero35, ↓YR, hl, hm, nb2_b1, n2]
      intro b3 hb3
      have nd1 := nodup_new (cs := [.int .i64 0, .slice none 0 0]) hb3 nd1
      try simp only [List.cons_append, List.nil_append] at nd1
      refine callO_lentC (cs := []) (Mr := [(b3, [.int .i64 0, .slice none 0 0]), (b2, [.int .i64 0, .slice none 0 0]), (b1, gc (n : Int) x o)]) (hq v1 M1 hv1) nd1 rfl (fun _ _ => toldW_nil) ?_
      intro r M' hr nd2 _
      obtain ⟨ok, pv, Mq, rfl, ⟨s', rfl, hs'⟩, hsub⟩ := quotP_any hr
      obtain ⟨a', m', c', rfl⟩ := hs'.form
      simp only [List.cons_append, List.nil_append] at nd2 ⊢
      simp (maxSteps := 2000000) (disch := first | (simp only [E4, hl, hm] <;> omega) | omega | fail) only [↓E2, E3, bare, bareJ, ↓E0, E1, evPlan, env0, envN, evOps, evOp, evQs, evQ, evV, setD, pureOp, ev, upd, updL, binW, eqOp, binV, intOp, shOp, boolOp, fieldAddrV, extractV, cellAt, cellsAt, findB, setB, Value.cells, hav, delB, eqL, SameI, strOp, ↓reduceIte, Zj, Zk, Nat.reduceAdd, Nat.reduceLT, Nat.reduceEqDiff, Nat.reduceMul, Nat.reduceLeDiff, if_true, Zn, reduceCtorEq, ZA, eq_self, Int.reduceLE, Int.reduceLT, Int.reduceToNat, ne_eq, Nat.reduceSub, Tfld27_0, Tld2, Tld27, Tst35, Tzero35, ↓YR, hl, hm, nb2_b1, n2]
      repeat refine And.intro (by omega) ?_
      intro g
      simp only [List.map_cons, List.map_nil, updL, upd, Nat.reduceEqDiff, if_true, if_false, ↓reduceIte]
      exact J g b3 _ Mq _ ⟨_, rfl, hs'⟩ ⟨_, _, _, rfl, subP_two hsub⟩
  · refine moreX_go ?_ ?_
    · simp (maxSteps := 2000000) (disch := first | (simp only [E4, hl, hm, en] <;> omega) | omega | fail) only [↓E2, E3, bare, bareJ, ↓E0, E1, evPlan, env0, envN, evOps, evOp, evQs, evQ, evV, setD, pureOp, ev, upd, updL, binW, eqOp, binV, intOp, shOp, boolOp, fieldAddrV, extractV, cellAt, cellsAt, findB, setB, Value.cells, hav, delB, eqL, SameI, strOp, ↓reduceIte, Zj, Zk, Nat.reduceAdd, Nat.reduceLT, Nat.reduceEqDiff, Nat.reduceMul, Nat.reduceLeDiff, if_true, Zn, reduceCtorEq, ZA, eq_self, Int.reduceLE, Int.reduceLT, Int.reduceToNat, ne_eq, Nat.reduceSub, Tfld27_0, Tld2, Tld27, Tst35, Tzero35, ↓YR, hl, hm, nb2_b1, n2, en]
      refine moreX_go ?_ ?_
      · simp (maxSteps := 2000000) (disch := first | (simp only [E4, hl, hm] <;> omega) | omega | fail) only [↓E2, E3, bare, bareJ, ↓E0, E1, evPlan, env0, envN, evOps, evOp, evQs, evQ, evV, setD, pureOp, ev, upd, updL, binW, eqOp, binV, intOp, shOp, boolOp, fieldAddrV, extractV, cellAt, cellsAt, findB, setB, Value.cells, hav, delB, eqL, SameI, strOp, ↓reduceIte, Zj, Zk, Nat.reduceAdd, Nat.reduceLT, Nat.reduceEqDiff, Nat.reduceMul, Nat.reduceLeDiff, if_true, Zn, reduceCtorEq, ZA, eq_self, Int.reduceLE, Int.reduceLT, Int.reduceToNat, ne_eq, Nat.reduceSub, Tfld27_0, Tld2, Tld27, Tst35, Tzero35, ↓YR, hl, hm, nb2_b1, n2]
        refine callO_newR0 (l04Determinant_c n x o hx ho hn hn2) (fun _ _ => toldW_nil) ?_
        intro v1 M1 hv1 nd1 _
        simp only [List.cons_append, List.nil_append] at nd1 ⊢
        simp (maxSteps := 2000000) (disch := first | (simp only [E4, hl, hm, en] <;> omega) | omega | fail) only [↓E2, E3, bare, bareJ, ↓E0, E1, evPlan, env0, envN, evOps, evOp, evQs, evQ, evV, setD, pureOp, ev, upd, updL, binW, eqOp, binV, intOp, shOp, boolOp, fieldAddrV, extractV, cellAt, cellsAt, findB, setB, Value.cells, hav, delB, eqL, SameI, strOp, ↓reduceIte, Zj, Zk, Nat.reduceAdd, Nat.reduceLT, Nat.reduceEqDiff, Nat.reduceMul, Nat.reduceLeDiff, if_true, Zn, reduceCtorEq, ZA, eq_self, Int.reduceLE, Int.reduceLT, Int.reduceToNat, ne_eq, Nat.reduceSub, Tfld27_0, Tld2, Tld27, Tst35, Tzero35, ↓YR, hl, hm, nb2_b1, n2, en]
        refine moreX_go ?_ ?_
        · simp (maxSteps := 2000000) (disch := first | (simp only [E4, hl, hm] <;> omega) | omega | fail) only [↓E2, E3, bare, bareJ, ↓E0, E1, evPlan, env0, envN, evOps, evOp, evQs, evQ, evV, setD, pureOp, ev, upd, updL, binW, eqOp, binV, intOp, shOp, boolOp, fieldAddrV, extractV, cellAt, cellsAt, findB, setB, Value.cells, hav, delB, eqL, SameI, strOp, ↓reduceIte, Zj, Zk, Nat.reduceAdd, Nat.reduceLT, Nat.reduceEqDiff, Nat.reduceMul, Nat.reduceLeDiff, if_true, Zn, reduceCtorEq, ZA, eq_self, Int.reduceLE, Int.reduceLT, Int.reduceToNat, ne_eq, Nat.reduceSub, Tfld27_0, Tld2, Tld27, Tst35, Tzero35, ↓YR, hl, hm, nb2_b1, n2]
          refine callO_lentC (cs := []) (Mr := [(b2, [.int .i64 0, .slice none 0 0]), (b1, gc (n : Int) x o)]) (hq v1 M1 hv1) nd1 rfl (fun _ _ => toldW_nil) ?_
          intro r M' hr nd2 _
          obtain ⟨ok, pv, Mq, rfl, ⟨s', rfl, hs'⟩, hsub⟩ := quotP_any hr
          obtain ⟨a', m', c', rfl⟩ := hs'.form
          simp only [List.cons_append, List.nil_append] at nd2 ⊢
          simp (maxSteps := 2000000) (disch := first | (simp only [E4, hl, hm] <;> omega) | omega | fail) only [↓E2, E3, bare, bareJ, ↓E0, E1, evPlan, env0, envN, evOps, evOp, evQs, evQ, evV, setD, pureOp, ev, upd, updL, binW, eqOp, binV, intOp, shOp, boolOp, fieldAddrV, extractV, cellAt, cellsAt, findB, setB, Value.cells, hav, delB, eqL, SameI, strOp, ↓reduceIte, Zj, Zk, Nat.reduceAdd, Nat.reduceLT, Nat.reduceEqDiff, Nat.reduceMul, Nat.reduceLeDiff, if_true, Zn, reduceCtorEq, ZA, eq_self, Int.reduceLE, Int.reduceLT, Int.reduceToNat, ne_eq, Nat.reduceSub, Tfld27_0, Tld2, Tld27, Tst35, Tzero35, ↓YR, hl, hm, nb2_b1, n2]
          intro b3 hb3
          repeat refine And.intro (by omega) ?_
          intro g
          simp only [List.map_cons, List.map_nil, updL, upd, Nat.reduceEqDiff, if_true, if_false, ↓reduceIte]
          exact J g b3 _ Mq _ ⟨_, rfl, hs'⟩ ⟨_, _, _, rfl, subP_two hsub⟩
        · simp (maxSteps := 2000000) (disch := first | (simp only [E4, hl, hm] <;> omega) | omega | fail) only [↓E2, E3, bare, bareJ, ↓E0, E1, evPlan, env0, envN, evOps, evOp, evQs, evQ, evV, setD, pureOp, ev, upd, updL, binW, eqOp, binV, intOp, shOp, boolOp, fieldAddrV, extractV, cellAt, cellsAt, findB, setB, Value.cells, hav, delB, eqL, SameI, strOp, ↓reduceIte, Zj, Zk, Nat.reduceAdd, Nat.reduceLT, Nat.reduceEqDiff, Nat.reduceMul, Nat.reduceLeDiff, if_true, Zn, reduceCtorEq, ZA, eq_self, Int.reduceLE, Int.reduceLT, Int.reduceToNat, ne_eq, Nat.reduceSub, Tfld27_0, Tld2, Tld27, Tst35, Tzero35, ↓YR, hl, hm, nb2_b1, n2]
          intro b3 hb3
          have nd1 := nodup_new (cs := [.int .i64 0, .slice none 0 0]) hb3 nd1
          try simp only [List.cons_append, List.nil_append] at nd1
          refine callO_lentC (cs := []) (Mr := [(b3, [.int .i64 0, .slice none 0 0]), (b2, [.int .i64 0, .slice none 0 0]), (b1, gc (n : Int) x o)]) (hq v1 M1 hv1) nd1 rfl (fun _ _ => toldW_nil) ?_
          intro r M' hr nd2 _
          obtain ⟨ok, pv, Mq, rfl, ⟨s', rfl, hs'⟩, hsub⟩ := quotP_any hr
          obtain ⟨a', m', c', rfl⟩ := hs'.form
          simp only [List.cons_append, List.nil_append] at nd2 ⊢
          simp (maxSteps := 2000000) (disch := first | (simp only [E4, hl, hm] <;> omega) | omega | fail) only [↓E2, E3, bare, bareJ, ↓E0, E1, evPlan, env0, envN, evOps, evOp, evQs, evQ, evV, setD, pureOp, ev, upd, updL, binW, eqOp, binV, intOp, shOp, boolOp, fieldAddrV, extractV, cellAt, cellsAt, findB, setB, Value.cells, hav, delB, eqL, SameI, strOp, ↓reduceIte, Zj, Zk, Nat.reduceAdd, Nat.reduceLT, Nat.reduceEqDiff, Nat.reduceMul, Nat.reduceLeDiff, if_true, Zn, reduceCtorEq, ZA, eq_self, Int.reduceLE, Int.reduceLT, Int.reduceToNat, ne_eq, Nat.reduceSub, Tfld27_0, Tld2, Tld27, Tst35, Tzero35, ↓YR, hl, hm, nb2_b1, n2]
          repeat refine And.intro (by omega) ?_
          intro g
          simp only [List.map_cons, List.map_nil, updL, upd, Nat.reduceEqDiff, if_true, if_false, ↓reduceIte]
          exact J g b3 _ Mq _ ⟨_, rfl, hs'⟩ ⟨_, _, _, rfl, subP_two hsub⟩
      · simp (maxSteps := 2000000) (disch := first | (simp only [E4, hl, hm] <;> omega) | omega | fail) only [↓E2, E3, bare, bareJ, ↓E0, E1, evPlan, env0, envN, evOps, evOp, evQs, evQ, evV, setD, pureOp, ev, upd, updL, binW, eqOp, binV, intOp, shOp, boolOp, fieldAddrV, extractV, cellAt, cellsAt, findB, setB, Value.cells, hav, delB, eqL, SameI, strOp, ↓reduceIte, Zj, Zk, Nat.reduceAdd, Nat.reduceLT, Nat.reduceEqDiff, Nat.reduceMul, Nat.reduceLeDiff, if_true, Zn, reduceCtorEq, ZA, eq_self, Int.reduceLE, Int.reduceLT, Int.reduceToNat, ne_eq, Nat.reduceSub, Tfld27_0, Tld2, Tld27, Tst35, Tzero35, ↓YR, hl, hm, nb2_b1, n2]
        intro b3 hb3
        have n32 : ¬ b3 = b2 := hb3.2 (b2, [.int .i64 0, .slice none 0 0]) (by simp)
        have n31 : ¬ b3 = b1 := hb3.2 (b1, gc (n : Int) x o) (by simp)
        refine callO_newR0 (l04Determinant_c n x o hx ho hn hn2) (fun _ _ => toldW_nil) ?_
        intro v1 M1 hv1 nd1 _
        simp only [List.cons_append, List.nil_append] at nd1 ⊢
        simp (maxSteps := 2000000) (disch := first | (simp only [E4, hl, hm, en] <;> omega) | omega | fail) only [↓E2, E3, bare, bareJ, ↓E0, E1, evPlan, env0, envN, evOps, evOp, evQs, evQ, evV, setD, pureOp, ev, upd, updL, binW, eqOp, binV, intOp, shOp, boolOp, fieldAddrV, extractV, cellAt, cellsAt, findB, setB, Value.cells, hav, delB, eqL, SameI, strOp, ↓reduceIte, Zj, Zk, Nat.reduceAdd, Nat.reduceLT, Nat.reduceEqDiff, Nat.reduceMul, Nat.reduceLeDiff, if_true, Zn, reduceCtorEq, ZA, eq_self, Int.reduceLE, Int.reduceLT, Int.reduceToNat, ne_eq, Nat.reduceSub, Tfld27_0, Tld2, Tld27, Tst35, Tzero35, ↓YR, hl, hm, nb2_b1, n2, en]
        refine callO_lentC (cs := []) (Mr := [(b3, [.int .i64 0, .slice none 0 0]), (b2, [.int .i64 0, .slice none 0 0]), (b1, gc (n : Int) x o)]) (hq v1 M1 hv1) nd1 rfl (fun _ _ => toldW_nil) ?_
        intro r M' hr nd2 _
        obtain ⟨ok, pv, Mq, rfl, ⟨s', rfl, hs'⟩, hsub⟩ := quotP_any hr
        obtain ⟨a', m', c', rfl⟩ := hs'.form
        simp only [List.cons_append, List.nil_append] at nd2 ⊢
        simp (maxSteps := 2000000) (disch := first | (simp only [E4, hl, hm] <;> omega) | omega | fail) only [↓E2, E3, bare, bareJ, ↓E0, E1, evPlan, env0, envN, evOps, evOp, evQs, evQ, evV, setD, pureOp, ev, upd, updL, binW, eqOp, binV, intOp, shOp, boolOp, fieldAddrV, extractV, cellAt, cellsAt, findB, setB, Value.cells, hav, delB, eqL, SameI, strOp, ↓reduceIte, Zj, Zk, Nat.reduceAdd, Nat.reduceLT, Nat.reduceEqDiff, Nat.reduceMul, Nat.reduceLeDiff, if_true, Zn, reduceCtorEq, ZA, eq_self, Int.reduceLE, Int.reduceLT, Int.reduceToNat, ne_eq, Nat.reduceSub, Tfld27_0, Tld2, Tld27, Tst35, Tzero35, ↓YR, hl, hm, nb2_b1, n2]
        repeat refine And.intro (by omega) ?_
        intro g
        simp only [List.map_cons, List.map_nil, updL, upd, Nat.reduceEqDiff, if_true, if_false, ↓reduceIte]
        exact J g b3 _ Mq _ ⟨_, rfl, hs'⟩ ⟨_, _, _, rfl, subP_two hsub⟩
    · simp (maxSteps := 2000000) (disch := first | (simp only [E4, hl, hm] <;> omega) | omega | fail) only [↓E2, E3, bare, bareJ, ↓E0, E1, evPlan, env0, envN, evOps, evOp, evQs, evQ, evV, setD, pureOp, ev, upd, updL, binW, eqOp, binV, intOp, shOp, boolOp, fieldAddrV, extractV, cellAt, cellsAt, findB, setB, Value.cells, hav, delB, eqL, SameI, strOp, ↓reduceIte, Zj, Zk, Nat.reduceAdd, Nat.reduceLT, Nat.reduceEqDiff, Nat.reduceMul, Nat.reduceLeDiff, if_true, Zn, reduceCtorEq, ZA, eq_self, Int.reduceLE, Int.reduceLT, Int.reduceToNat, ne_eq, Nat.reduceSub, Tfld27_0, Tld2, Tld27, Tst35, Tzero35, ↓YR, hl, hm, nb2_b1, n2]
      intro b3 hb3
      have n32 : ¬ b3 = b2 := hb3.2 (b2, [.int .i64 0, .slice none 0 0]) (by simp)
      have n31 : ¬ b3 = b1 := hb3.2 (b1, gc (n : Int) x o) (by simp)
      refine moreX_go ?_ ?_
      · simp (maxSteps := 2000000) (disch := first | (simp only [E4, hl, hm] <;> omega) | omega | fail) only [↓E2, E3, bare, bareJ, ↓E0, E1, evPlan, env0, envN, evOps, evOp, evQs, evQ, evV, setD, pureOp, ev, upd, updL, binW, eqOp, binV, intOp, shOp, boolOp, fieldAddrV, extractV, cellAt, cellsAt, findB, setB, Value.cells, hav, delB, eqL, SameI, strOp, ↓reduceIte, Zj, Zk, Nat.reduceAdd, Nat.reduceLT, Nat.reduceEqDiff, Nat.reduceMul, Nat.reduceLeDiff, if_true, Zn, reduceCtorEq, ZA, eq_self, Int.reduceLE, Int.reduceLT, Int.reduceToNat, ne_eq, Nat.reduceSub, Tfld27_0, Tld2, Tld27, Tst35, Tzero35, ↓YR, hl, hm, nb2_b1, n2]
        refine callO_newR0 (l04Determinant_c n x o hx ho hn hn2) (fun _ _ => toldW_nil) ?_
        intro v1 M1 hv1 nd1 _
        simp only [List.cons_append, List.nil_append] at nd1 ⊢
        simp (maxSteps := 2000000) (disch := first | (simp only [E4, hl, hm, en] <;> omega) | omega | fail) only [↓E2, E3, bare, bareJ, ↓E0, E1, evPlan, env0, envN, evOps, evOp, evQs, evQ, evV, setD, pureOp, ev, upd, updL, binW, eqOp, binV, intOp, shOp, boolOp, fieldAddrV, extractV, cellAt, cellsAt, findB, setB, Value.cells, hav, delB, eqL, SameI, strOp, ↓reduceIte, Zj, Zk, Nat.reduceAdd, Nat.reduceLT, Nat.reduceEqDiff, Nat.reduceMul, Nat.reduceLeDiff, if_true, Zn, reduceCtorEq, ZA, eq_self, Int.reduceLE, Int.reduceLT, Int.reduceToNat, ne_eq, Nat.reduceSub, Tfld27_0, Tld2, Tld27, Tst35, Tzero35, ↓YR, hl, hm, nb2_b1, n2, en, n31, n32]
        refine callO_lentC (cs := []) (Mr := [(b3, [.int .i64 0, .slice none 0 0]), (b2, [.int .i64 0, .slice none 0 0]), (b1, gc (n : Int) x o)]) (hq v1 M1 hv1) nd1 rfl (fun _ _ => toldW_nil) ?_
        intro r M' hr nd2 _
        obtain ⟨ok, pv, Mq, rfl, ⟨s', rfl, hs'⟩, hsub⟩ := quotP_any hr
        obtain ⟨a', m', c', rfl⟩ := hs'.form
        simp only [List.cons_append, List.nil_append] at nd2 ⊢
        simp (maxSteps := 2000000) (disch := first | (simp only [E4, hl, hm] <;> omega) | omega | fail) only [↓E2, E3, bare, bareJ, ↓E0, E1, evPlan, env0, envN, evOps, evOp, evQs, evQ, evV, setD, pureOp, ev, upd, updL, binW, eqOp, binV, intOp, shOp, boolOp, fieldAddrV, extractV, cellAt, cellsAt, findB, setB, Value.cells, hav, delB, eqL, SameI, strOp, ↓reduceIte, Zj, Zk, Nat.reduceAdd, Nat.reduceLT, Nat.reduceEqDiff, Nat.reduceMul, Nat.reduceLeDiff, if_true, Zn, reduceCtorEq, ZA, eq_self, Int.reduceLE, Int.reduceLT, Int.reduceToNat, ne_eq, Nat.reduceSub, Tfld27_0, Tld2, Tld27, Tst35, Tzero35, ↓YR, hl, hm, nb2_b1, n2]
        repeat refine And.intro (by omega) ?_
        intro g
        simp only [List.map_cons, List.map_nil, updL, upd, Nat.reduceEqDiff, if_true, if_false, ↓reduceIte]
        exact J g b3 _ Mq _ ⟨_, rfl, hs'⟩ ⟨_, _, _, rfl, subP_two hsub⟩
      · simp (maxSteps := 2000000) (disch := first | (simp only [E4, hl, hm, en] <;> omega) | omega | fail) only [↓E2, E3, bare, bareJ, ↓E0, E1, evPlan, env0, envN, evOps, evOp, evQs, evQ, evV, setD, pureOp, ev, upd, updL, binW, eqOp, binV, intOp, shOp, boolOp, fieldAddrV, extractV, cellAt, cellsAt, findB, setB, Value.cells, hav, delB, eqL, SameI, strOp, ↓reduceIte, Zj, Zk, Nat.reduceAdd, Nat.reduceLT, Nat.reduceEqDiff, Nat.reduceMul, Nat.reduceLeDiff, if_true, Zn, reduceCtorEq, ZA, eq_self, Int.reduceLE, Int.reduceLT, Int.reduceToNat, ne_eq, Nat.reduceSub, Tfld27_0, Tld2, Tld27, Tst35, Tzero35, ↓YR, hl, hm, nb2_b1, n2, en, n31, n32]
        refine callO_newR0 (l04Determinant_c n x o hx ho hn hn2) (fun _ _ => toldW_nil) ?_
        intro v1 M1 hv1 nd1 _
        simp only [List.cons_append, List.nil_append] at nd1 ⊢
        simp (maxSteps := 2000000) (disch := first | (simp only [E4, hl, hm, en] <;> omega) | omega | fail) only [↓E2, E3, bare, bareJ, ↓E0, E1, evPlan, env0, envN, evOps, evOp, evQs, evQ, evV, setD, pureOp, ev, upd, updL, binW, eqOp, binV, intOp, shOp, boolOp, fieldAddrV, extractV, cellAt, cellsAt, findB, setB, Value.cells, hav, delB, eqL, SameI, strOp, ↓reduceIte, Zj, Zk, Nat.reduceAdd, Nat.reduceLT, Nat.reduceEqDiff, Nat.reduceMul, Nat.reduceLeDiff, if_true, Zn, reduceCtorEq, ZA, eq_self, Int.reduceLE, Int.reduceLT, Int.reduceToNat, ne_eq, Nat.reduceSub, Tfld27_0, Tld2, Tld27, Tst35, Tzero35, ↓YR, hl, hm, nb2_b1, n2, en, n31, n32]
        refine callO_lentC (cs := []) (Mr := [(b3, [.int .i64 0, .slice none 0 0]), (b2, [.int .i64 0, .slice none 0 0]), (b1, gc (n : Int) x o)]) (hq v1 M1 hv1) nd1 rfl (fun _ _ => toldW_nil) ?_
        intro r M' hr nd2 _
        obtain ⟨ok, pv, Mq, rfl, ⟨s', rfl, hs'⟩, hsub⟩ := quotP_any hr
        obtain ⟨a', m', c', rfl⟩ := hs'.form
        simp only [List.cons_append, List.nil_append] at nd2 ⊢
        simp (maxSteps := 2000000) (disch := first | (simp only [E4, hl, hm] <;> omega) | omega | fail) only [↓E2, E3, bare, bareJ, ↓E0, E1, evPlan, env0, envN, evOps, evOp, evQs, evQ, evV, setD, pureOp, ev, upd, updL, binW, eqOp, binV, intOp, shOp, boolOp, fieldAddrV, extractV, cellAt, cellsAt, findB, setB, Value.cells, hav, delB, eqL, SameI, strOp, ↓reduceIte, Zj, Zk, Nat.reduceAdd, Nat.reduceLT, Nat.reduceEqDiff, Nat.reduceMul, Nat.reduceLeDiff, if_true, Zn, reduceCtorEq, ZA, eq_self, Int.reduceLE, Int.reduceLT, Int.reduceToNat, ne_eq, Nat.reduceSub, Tfld27_0, Tld2, Tld27, Tst35, Tzero35, ↓YR, hl, hm, nb2_b1, n2]
        repeat refine And.intro (by omega) ?_
        intro g
        simp only [List.map_cons, List.map_nil, updL, upd, Nat.reduceEqDiff, if_true, if_false, ↓reduceIte]
        exact J g b3 _ Mq _ ⟨_, rfl, hs'⟩ ⟨_, _, _, rfl, subP_two hsub⟩
end

end Go.Proofs

/-
  What the functions of this part hand back: each as a plain function of its arguments. Conditions: none.
-/
namespace Go.Proofs
open Go.W8
set_option linter.unusedVariables false
set_option linter.unusedSimpArgs false
set_option linter.unusedSectionVars false
set_option maxRecDepth 8000
set_option maxHeartbeats 4000000
def negTo (l : List Int) (k : Nat) : List Int := (List.range l.length).map fun i => if i < k then 0 - l.getD i 0 else l.getD i 0
theorem negTo_len (l : List Int) (k : Nat) : (negTo l k).length = l.length := by simp [negTo]
theorem negTo_get {l : List Int} {k i : Nat} (h : i < l.length) : (negTo l k).getD i 0 = if i < k then 0 - l.getD i 0 else l.getD i 0 := by
  unfold negTo
  rw [List.getD_eq_getElem?_getD, List.getElem?_map, List.getElem?_range h]; rfl
theorem negTo_zero (l : List Int) : negTo l 0 = l := by
  refine getD_ext0 (negTo_len l 0) fun i hi => ?_
  rw [negTo_len] at hi
  rw [negTo_get hi, if_neg (by omega)]
theorem negTo_full (l : List Int) : negTo l l.length = negL l := by
  refine getD_ext0 (by rw [negTo_len, negL_len]) fun i hi => ?_
  rw [negTo_len] at hi
  rw [negTo_get hi, if_pos hi, negL_get, Int.zero_sub]
theorem negTo_here {l : List Int} {k : Nat} (h : k < l.length) : (negTo l k).getD k 0 = l.getD k 0 := by
  rw [negTo_get h, if_neg (Nat.lt_irrefl _)]
theorem negTo_step {l : List Int} {k : Nat} (h : k < l.length) : (negTo l k).set k (0 - l.getD k 0) = negTo l (k + 1) := by
  refine getD_ext0 (by simp [negTo_len]) fun i hi => ?_
  rw [List.length_set, negTo_len] at hi
  rw [getD_set0 (by rw [negTo_len]; exact h), negTo_get hi, negTo_get hi]
  by_cases e : k = i
  · subst e
    rw [if_pos rfl, if_pos (by omega)]
  · rw [if_neg e]
    by_cases h2 : i < k
    · rw [if_pos h2, if_pos (by omega)]
    · rw [if_neg h2, if_neg (by omega)]
section
variable (n : Nat) (x o : List Int) (hx : Bytes8 x) (ho : Bytes8 o) (hn : n ≤ 8) (hn2 : 2 ≤ n)
include hx ho hn hn2
theorem alexander_c : GivesX Try.prog 17 #[.agg (gc (n : Int) x o).toArray] [] [] (LauV (loL (alL n x o)) (alL n x o)) := by
  have hl := hx.len
  have hm := ho.len
  have hq := fun v L (hv : LauV (detLow n x o) (detL n x o) v L) => iquotient_c (detLow n x o) (detL n x o) v L hv (detL_ok x o hn) (n - 1) (by omega)
  have en : (n : Int) - 1 = ((n - 1 : Nat) : Int) := by omega
  refine GivesX.part ?_
  skip
  refine GivesX.of (callable_of Try.func17 rfl (by decide)) ?_ fun w hnd hlt hR => ?_
  · simp
  refine acall_of (N := 43) (c := _) (rs := [.cell 2 35]) (args := [_]) Try.func17 rfl (by decide) rfl rfl (Nat.le_of_ble_eq_true rfl) ?_
  refine Cd.rs [1, 2] fun K hK => ?_
  simp (maxSteps := 2000000) (disch := first | (simp only [E4, hl, hm] <;> omega) | omega | fail) only [↓E2, E3, bare, bareJ, ↓E0, E1, env0, envN, evOps, evOp, evQs, evQ, evV, setD, pureOp, ev, upd, updL, Value.cells, hav, delB, ↓reduceIte, Zj, Zk, Nat.reduceAdd, Nat.reduceLT, Nat.reduceEqDiff, Nat.reduceMul, Nat.reduceLeDiff, if_true, Zn, reduceCtorEq, ZA, eq_self, Int.reduceLE, Int.reduceLT, Int.reduceToNat, ne_eq, Nat.reduceSub, Tzero35, hl, hm]
  repeat refine And.intro (by omega) ?_
  intro b1 hb1
  intro b2 hb2
  have nb2_b1 := hb2.ne
  try simp (maxSteps := 2000000) (disch := first | (simp only [E4, hl, hm] <;> omega) | omega | fail) only [↓E2, E3, bare, bareJ, ↓E0, E1, env0, envN, evOps, evOp, evQs, evQ, evV, setD, pureOp, ev, upd, updL, Value.cells, hav, delB, ↓reduceIte, Zj, Zk, Nat.reduceAdd, Nat.reduceLT, Nat.reduceEqDiff, Nat.reduceMul, Nat.reduceLeDiff, if_true, Zn, reduceCtorEq, ZA, eq_self, Int.reduceLE, Int.reduceLT, Int.reduceToNat, ne_eq, Nat.reduceSub, Tzero35, hl, hm, nb2_b1]
  repeat refine And.intro (by omega) ?_
  repeat refine And.intro (by omega) ?_
  intro g
  simp only [List.map_cons, List.map_nil, updL, upd, Nat.reduceEqDiff, if_true, if_false, ↓reduceIte]
  refine hK _ _ ?_; clear hK K
  have n2 : ¬ b2 = b1 := hb2.2 (b1, gc (n : Int) x o) (by simp)
  skip
  skip
  refine Cd.ps [2, 3] (Plan.take 0 (Plan.more 1 (Plan.take 2 (Plan.take 3 (Plan.take 4 (Plan.more 5 (Plan.take 6 (Plan.take 7 (Plan.take 8 (Plan.one 9 (Plan.one 10 (Plan.take 11 (Plan.done))))))) (Plan.one 9 (Plan.one 5 (Plan.take 6 (Plan.take 7 (Plan.take 8 (Plan.one 10 (Plan.take 11 (Plan.done)))))))))))) (Plan.more 2 (Plan.more 1 (Plan.take 3 (Plan.take 4 (Plan.more 5 (Plan.take 6 (Plan.take 7 (Plan.take 8 (Plan.one 9 (Plan.one 10 (Plan.take 11 (Plan.done))))))) (Plan.one 9 (Plan.one 5 (Plan.take 6 (Plan.take 7 (Plan.take 8 (Plan.one 10 (Plan.take 11 (Plan.done))))))))))) (Plan.one 9 (Plan.one 1 (Plan.take 3 (Plan.take 4 (Plan.one 5 (Plan.take 6 (Plan.take 7 (Plan.take 8 (Plan.one 10 (Plan.take 11 (Plan.done)))))))))))) (Plan.one 9 (Plan.more 1 (Plan.take 2 (Plan.take 3 (Plan.take 4 (Plan.one 5 (Plan.take 6 (Plan.take 7 (Plan.take 8 (Plan.one 10 (Plan.take 11 (Plan.done)))))))))) (Plan.one 2 (Plan.one 1 (Plan.take 3 (Plan.take 4 (Plan.one 5 (Plan.take 6 (Plan.take 7 (Plan.take 8 (Plan.one 10 (Plan.take 11 (Plan.done)))))))))))))))) fol (by kernel_rfl) (Nat.le_of_ble_eq_true rfl) fun K hK => ?_
  have J : ∀ g b3 pv Mq M, LauV (alQ n x o).1 (alQ n x o).2 pv Mq → (∃ a m c, pv = .agg #[.int .i64 (alQ n x o).1, .slice a m c] ∧ SubP ((b3, [.int .i64 (alQ n x o).1, .slice a m c]) :: (b2, [.int .i64 0, .slice none 0 0]) :: Mq) M) → K (updL [(2, .pointer (some ⟨b2, 0, none⟩)), (3, .pointer (some ⟨b3, 0, none⟩))] g) M := by
    rintro g b3 pv Mq M ⟨s', rfl, hs'⟩ ⟨a, m, c, e, hM⟩
    cases e
    refine hK _ _ ?_
    clear hK K
    refine Cd.sub hM ?_
    clear hM
    have hok := alQ_ok x o hn
    have hln := alL_len n x o
    have hvl : valTo 0 1 (alQ n x o).2 (alQ n x o).2.length = alV n x o := rfl
    have hal : alL n x o = if alV n x o < 0 then negL (alQ n x o).2 else (alQ n x o).2 := rfl
    generalize (alQ n x o).1 = ql at *
    generalize (alQ n x o).2 = qq at *
    obtain rfl := hs'.len1
    have q2 := lauOk_len hok
    have q3 := lauOk_get hok
    refine Cd.nodup fun hnd => ?_
    have n3 : ¬ b3 = b2 := (nodup_cases hnd).1 (b2, [.int .i64 0, .slice none 0 0]) (by simp)
    skip
    skip
    have hrd : RdS (toldOf Mq) 1 (ints .i64 qq) (.slice a qq.length c) := hs'.reads fun p hp => mem_toldOf hp
    obtain ⟨R, hO, hRO⟩ := hs'.toO (W := []) (w0 := w) (l := qq) hnd (fun p hp => by simp [hp])
    refine Cd.rs [2, 3, 5] fun K hK => ?_
    simp (maxSteps := 2000000) (disch := first | (simp only [E4, hl, hm] <;> omega) | omega | fail) only [↓E2, E3, bare, bareJ, ↓E0, E1, env0, envN, evOps, evOp, evQs, evQ, evV, setD, pureOp, ev, upd, updL, fieldAddrV, cellAt, cellsAt, findB, setB, hav, delB, ↓reduceIte, Zj, Zk, Nat.reduceAdd, Nat.reduceLT, Nat.reduceEqDiff, Nat.reduceMul, Nat.reduceLeDiff, if_true, Zn, reduceCtorEq, ZA, eq_self, Int.reduceLE, Int.reduceLT, Int.reduceToNat, ne_eq, Nat.reduceSub, Tfld35_1, Tld31, hl, hm, nb2_b1, n2, n3]
    repeat refine And.intro (by omega) ?_
    refine callK_newR0 (Clone_c qq _ _ hO (by omega)) (HoldsAll.toldW hRO) ?_
    intro v4 M4 hv4 nd4 _
    obtain ⟨a4, m4, c4, rfl⟩ := hv4.form
    obtain rfl := hv4.len1
    simp only [List.cons_append, List.nil_append] at nd4 ⊢
    simp (maxSteps := 2000000) (disch := first | (simp only [E4, hl, hm] <;> omega) | omega | fail) only [↓E2, E3, bare, bareJ, ↓E0, E1, env0, envN, evOps, evOp, evQs, evQ, evV, setD, pureOp, ev, upd, updL, fieldAddrV, cellAt, cellsAt, findB, setB, hav, delB, ↓reduceIte, Zj, Zk, Nat.reduceAdd, Nat.reduceLT, Nat.reduceEqDiff, Nat.reduceMul, Nat.reduceLeDiff, if_true, Zn, reduceCtorEq, ZA, eq_self, Int.reduceLE, Int.reduceLT, Int.reduceToNat, ne_eq, Nat.reduceSub, Tfld35_1, Tld31, hl, hm, nb2_b1, n2, n3]
    repeat refine And.intro (by omega) ?_
    repeat refine And.intro (by omega) ?_
    intro g
    simp only [List.map_cons, List.map_nil, updL, upd, Nat.reduceEqDiff, if_true, if_false, ↓reduceIte]
    refine hK _ _ ?_; clear hK K
    have q4 := lauOk_low hok
    refine Cd.midq (fun ρ M => ∃ g ll M5, ρ = updL [(2, .pointer (some ⟨b2, 0, none⟩)), (5, .slice a4 qq.length c4)] g ∧ ll.length = qq.length ∧ alL n x o = ll ∧ SlN 1 (ints .i64 ll) (.slice a4 qq.length c4) M5 ∧ SubP ((b2, [.int .i64 0, .slice none 0 0]) :: M5) M) ?_ ?_
    · refine Cd.rs [2, 5, 21] fun K hK => ?_
      simp (maxSteps := 2000000) (disch := first | (simp only [E4, hl, hm] <;> omega) | omega | fail) only [↓E2, E3, bare, bareJ, ↓E0, E1, env0, envN, evOps, evOp, evQs, evQ, evV, setD, pureOp, ev, upd, updL, binW, eqOp, binV, intOp, shOp, boolOp, cellAt, cellsAt, findB, setB, hav, delB, eqL, SameI, strOp, ↓reduceIte, Zj, Zk, Nat.reduceAdd, Nat.reduceLT, Nat.reduceEqDiff, Nat.reduceMul, Nat.reduceLeDiff, if_true, Zn, reduceCtorEq, ZA, eq_self, Int.reduceLE, Int.reduceLT, Int.reduceToNat, ne_eq, Nat.reduceSub, Tld35, hl, hm, nb2_b1, n2, n3]
      repeat refine And.intro (by omega) ?_
      refine callK_reads0 (valueAt_c ql 1 qq (toldOf Mq) _ ⟨_, rfl, hrd⟩ (by omega) (by omega) (fun k => by have := q3 k; omega)) (holds_mem nd4 fun p hp => by simp [hp]) ?_
      rw [valTo_one, hvl]
      simp (maxSteps := 2000000) (disch := first | (simp only [E4, hl, hm] <;> omega) | omega | fail) only [↓E2, E3, bare, bareJ, ↓E0, E1, env0, envN, evOps, evOp, evQs, evQ, evV, setD, pureOp, ev, upd, updL, binW, eqOp, binV, intOp, shOp, boolOp, cellAt, cellsAt, findB, setB, hav, delB, eqL, SameI, strOp, ↓reduceIte, Zj, Zk, Nat.reduceAdd, Nat.reduceLT, Nat.reduceEqDiff, Nat.reduceMul, Nat.reduceLeDiff, if_true, Zn, reduceCtorEq, ZA, eq_self, Int.reduceLE, Int.reduceLT, Int.reduceToNat, ne_eq, Nat.reduceSub, Tld35, hl, hm, nb2_b1, n2, n3]
      repeat refine And.intro (by omega) ?_
      repeat refine And.intro (by omega) ?_
      intro g
      simp only [List.map_cons, List.map_nil, updL, upd, Nat.reduceEqDiff, if_true, if_false, ↓reduceIte]
      refine hK _ _ ?_; clear hK K
      have hsub0 : ∀ M5, SubP ((b2, [.int .i64 0, .slice none 0 0]) :: M5) ((b3, [.int .i64 ql, .slice a qq.length c]) :: (b2, [.int .i64 0, .slice none 0 0]) :: (Mq ++ M5)) := fun M5 => SubP.of (List.Sublist.cons _ (List.Sublist.cons_cons _ (List.sublist_append_right _ _)))
      refine Cd.condd rfl (fun h1 => ?_) (fun h1 => ?_)
      · rw [if_pos h1] at hal
        refine Cd.rs [2, 5, 23, 24] fun K hK => ?_
        simp (maxSteps := 2000000) (disch := first | (simp only [E4, hl, hm] <;> omega) | omega | fail) only [↓E2, E3, bare, bareJ, ↓E0, E1, env0, envN, evOps, evOp, evQs, evQ, evV, setD, pureOp, ev, upd, updL, lenV, hav, delB, ↓reduceIte, Zj, Zk, Nat.reduceAdd, Nat.reduceLT, Nat.reduceEqDiff, Nat.reduceMul, Nat.reduceLeDiff, if_true, Zn, reduceCtorEq, ZA, eq_self, Int.reduceLE, Int.reduceLT, Int.reduceToNat, ne_eq, Nat.reduceSub, Tslce31, hl, hm, nb2_b1, n2, n3]
        repeat refine And.intro (by omega) ?_
        repeat refine And.intro (by omega) ?_
        intro g
        simp only [List.map_cons, List.map_nil, updL, upd, Nat.reduceEqDiff, if_true, if_false, ↓reduceIte]
        refine hK _ _ ?_; clear hK K
        refine Cd.block ?_
        refine Cd.loop (fun q ρ M => ∃ g k M5, k + q = qq.length ∧ ρ = updL [(2, .pointer (some ⟨b2, 0, none⟩)), (5, .slice a4 qq.length c4), (23, .int .i64 (qq.length : Int)), (24, .int .i64 (k : Int))] g ∧ SlN 1 (ints .i64 (negTo qq k)) (.slice a4 qq.length c4) M5 ∧ SubP ((b2, [.int .i64 0, .slice none 0 0]) :: M5) M) qq.length
          ⟨_, 0, M4, Nat.zero_add _, rfl, by rw [negTo_zero]; exact hv4, hsub0 M4⟩ ?_
        clear hsub0 nd4 hv4
        rintro q ρ M ⟨g, k, M5, hk, rfl, hs5, hM⟩
        refine Cd.sub hM ?_
        clear hM
        refine Cd.rs [2, 5, 23, 24, 25] fun K hK => ?_
        simp (maxSteps := 2000000) (disch := first | (simp only [E4, hl, hm] <;> omega) | omega | fail) only [↓E2, E3, bare, bareJ, ↓E0, E1, env0, envN, evOps, evOp, evQs, evQ, evV, setD, pureOp, ev, upd, updL, binW, eqOp, binV, intOp, shOp, boolOp, hav, delB, eqL, SameI, strOp, ↓reduceIte, Zj, Zk, Nat.reduceAdd, Nat.reduceLT, Nat.reduceEqDiff, Nat.reduceMul, Nat.reduceLeDiff, if_true, Zn, reduceCtorEq, ZA, eq_self, Int.reduceLE, Int.reduceLT, Int.reduceToNat, ne_eq, Nat.reduceSub, hl, hm, nb2_b1, n2, n3]
        repeat refine And.intro (by omega) ?_
        repeat refine And.intro (by omega) ?_
        intro g
        simp only [List.map_cons, List.map_nil, updL, upd, Nat.reduceEqDiff, if_true, if_false, ↓reduceIte]
        refine hK _ _ ?_; clear hK K
        refine Cd.seq ?_
        refine Cd.condd rfl (fun h2 => ?_) (fun h2 => ?_)
        · rcases hs5 with ⟨e, _, _⟩ | ⟨b, m, cap', cs, e, rfl, hr⟩
          · have := congrArg List.length e
            rw [ints_length, negTo_len] at this
            simp only [List.length_nil] at this
            omega
          cases e
          refine Cd.nodup fun hnd5 => ?_
          have n5 : ¬ b2 = b := (nodup_cases hnd5).1 (b, cs) (by simp)
          have g1 := hr.get (ints_get (k := .i64) (l := negTo qq k) (i := k) (by rw [negTo_len]; omega))
          rw [negTo_here (by omega)] at g1
          have hr1 := hr.set (j := k) (by omega) (.int .i64 (0 - qq.getD k 0))
          rw [ints_set, negTo_step (by omega)] at hr1
          have f1 := hr.fits (k := k + 1) (by omega)
          have q5 := q3 k
          refine Cd.skip ?_
          refine thenN ?_
          refine Cd.seq ?_
          refine Cd.block ?_
          skip
          refine Cd.rs [2, 5, 6, 23, 24] fun K hK => ?_
          simp (maxSteps := 2000000) (disch := first | (simp only [E4, hl, hm, g1, f1] <;> omega) | omega | fail) only [↓E2, E3, bare, bareJ, ↓E0, E1, env0, envN, evOps, evOp, evQs, evQ, evV, setD, pureOp, ev, upd, updL, hav, delB, ↓reduceIte, Zj, Zk, Nat.reduceAdd, Nat.reduceLT, Nat.reduceEqDiff, Nat.reduceMul, Nat.reduceLeDiff, if_true, Zn, reduceCtorEq, ZA, eq_self, Int.reduceLE, Int.reduceLT, Int.reduceToNat, ne_eq, Nat.reduceSub, hl, hm, nb2_b1, n2, n3, n5, g1, f1]
          repeat refine And.intro (by omega) ?_
          repeat refine And.intro (by omega) ?_
          intro g
          simp only [List.map_cons, List.map_nil, updL, upd, Nat.reduceEqDiff, if_true, if_false, ↓reduceIte]
          refine hK _ _ ?_; clear hK K
          refine Cd.rr [2, 5, 23, 24] fun K hK => ?_
          simp (maxSteps := 2000000) (disch := first | (simp only [E4, hl, hm, g1, f1] <;> omega) | omega | fail) only [↓E2, E3, bare, bareJ, ↓E0, E1, env0, envN, evOps, evOp, evQs, evQ, evV, setD, pureOp, ev, upd, updL, unV, indexAddrV, cellAt, cellsAt, findB, setB, Value.cells, hav, delB, ↓reduceIte, Zj, Zk, Nat.reduceAdd, Nat.reduceLT, Nat.reduceEqDiff, Nat.reduceMul, Nat.reduceLeDiff, if_true, Zn, reduceCtorEq, ZA, eq_self, Int.reduceLE, Int.reduceLT, Int.reduceToNat, ne_eq, Nat.reduceSub, Tld2, Tslc31, Tst2, hl, hm, nb2_b1, n2, n3, n5, g1, f1]
          repeat refine And.intro (by omega) ?_
          repeat refine And.intro (by omega) ?_
          intro g
          simp only [List.map_cons, List.map_nil, updL, upd, Nat.reduceEqDiff, if_true, if_false, ↓reduceIte]
          refine hK _ _ ?_; clear hK K
          refine inBN ?_
          refine thenN ?_
          refine Cd.rr [2, 5, 23, 24] fun K hK => ?_
          simp (maxSteps := 2000000) (disch := first | (simp only [E4, hl, hm, g1, f1] <;> omega) | omega | fail) only [↓E2, E3, bare, bareJ, ↓E0, E1, env0, envN, evOps, evOp, evQs, evQ, evV, setD, pureOp, ev, upd, updL, binW, eqOp, binV, intOp, shOp, boolOp, hav, delB, eqL, SameI, strOp, ↓reduceIte, Zj, Zk, Nat.reduceAdd, Nat.reduceLT, Nat.reduceEqDiff, Nat.reduceMul, Nat.reduceLeDiff, if_true, Zn, reduceCtorEq, ZA, eq_self, Int.reduceLE, Int.reduceLT, Int.reduceToNat, ne_eq, Nat.reduceSub, hl, hm, nb2_b1, n2, n3, n5, g1, f1]
          repeat refine And.intro (by omega) ?_
          repeat refine And.intro (by omega) ?_
          intro g
          simp only [List.map_cons, List.map_nil, updL, upd, Nat.reduceEqDiff, if_true, if_false, ↓reduceIte]
          refine hK _ _ ?_; clear hK K
          exact roundN (m := q - 1) (by omega) ⟨_, k + 1, _, by omega, rfl, SlN.row hr1, SubP.refl _⟩
        · obtain rfl : k = qq.length := by omega
          rw [negTo_full] at hs5
          refine Cd.exit (thenX (roundX (inBX ?_)))
          exact midN ⟨_, negL qq, M5, rfl, negL_len _, hal, hs5, SubP.refl _⟩
      · rw [if_neg h1] at hal
        refine Cd.skip ?_
        exact midN ⟨_, qq, M4, rfl, rfl, hal, hv4, hsub0 M4⟩
    · rintro ρ M ⟨g, ll, M5, rfl, hll, hal2, hs5, hM⟩
      refine Cd.sub hM ?_
      have hlw : (0 - ((qq.length : Int) - 1)).tdiv 2 = loL ll := by unfold loL; rw [hll]
      have hlo : -1000 ≤ loL ll ∧ loL ll ≤ 1000 := by
        have h1 := lauOk_low (loL_ok hok)
        have e : loL ll = loL qq := by unfold loL; rw [hll]
        omega
      refine Cd.rs [2] fun K hK => ?_
      simp (maxSteps := 2000000) (disch := first | (simp only [E4, hl, hm, hlw] <;> omega) | omega | fail) only [↓E2, E3, bare, bareJ, ↓E0, E1, evP, env0, envN, evOps, evOp, evQs, evQ, evV, setD, pureOp, ev, upd, updL, binW, eqOp, binV, intOp, shOp, boolOp, unV, cellAt, cellsAt, findB, setB, fillL, buildV, Value.cells, lenV, hav, delB, eqL, SameI, strOp, ↓reduceIte, Zj, Zk, Nat.reduceAdd, Nat.reduceLT, Nat.reduceEqDiff, Nat.reduceMul, Nat.reduceLeDiff, if_true, Zn, reduceCtorEq, ZA, eq_self, Int.reduceLE, Int.reduceLT, Int.reduceToNat, ne_eq, Nat.reduceSub, Tbld35, Tslce31, Tst35, hl, hm, nb2_b1, n2, n3, hlw]
      repeat refine And.intro (by omega) ?_
      repeat refine And.intro (by omega) ?_
      intro g
      simp only [List.map_cons, List.map_nil, updL, upd, Nat.reduceEqDiff, if_true, if_false, ↓reduceIte]
      refine hK _ _ ?_; clear hK K
      refine Cd.ret ?_
      simp (maxSteps := 2000000) (disch := first | (simp only [E4, hl, hm] <;> omega) | omega | fail) only [↓E2, E3, bare, bareJ, ↓E0, E1, evP, evPlan, env0, envN, evOps, evOp, evQs, evQ, evV, setD, pureOp, ev, upd, updL, gate, binW, eqOp, binV, intOp, shOp, boolOp, unV, convV, nilV, fieldAddrV, indexAddrV, extractV, cellAt, cellsAt, findB, setB, fillL, buildV, Value.cells, lenV, minV, maxV, hav, sliceV, loV, hiV, bslQ, mksQ, appQ, partsOk, partsCells, delB, eqL, SameI, strOp, apzQ, cvtQ, capV, ↓reduceIte, Zj, Zk, Nat.reduceAdd, Nat.reduceLT, Nat.reduceEqDiff, Nat.reduceMul, Nat.reduceLeDiff, if_true, Zn, reduceCtorEq, ZA, eq_self, Int.reduceLE, Int.reduceLT, Int.reduceToNat, ne_eq, Nat.reduceSub, Tld35, hl, hm, nb2_b1, n2, n3]
      repeat refine And.intro (by omega) ?_
      rw [hal2]
      exact ⟨M5, SubP.of (List.Sublist.cons _ (List.Sublist.refl _)), _, rfl, hs5⟩
  clear hK
  simp (maxSteps := 2000000) (disch := first | (simp only [E4, hl, hm] <;> omega) | omega | fail) only [↓E2, E3, bare, bareJ, ↓E0, E1, evPlan, env0, envN, evOps, evOp, evQs, evQ, evV, setD, pureOp, ev, upd, updL, binW, eqOp, binV, intOp, shOp, boolOp, extractV, cellAt, cellsAt, findB, setB, Value.cells, hav, delB, eqL, SameI, strOp, ↓reduceIte, Zj, Zk, Nat.reduceAdd, Nat.reduceLT, Nat.reduceEqDiff, Nat.reduceMul, Nat.reduceLeDiff, if_true, Zn, reduceCtorEq, ZA, eq_self, Int.reduceLE, Int.reduceLT, Int.reduceToNat, ne_eq, Nat.reduceSub, Tld27, Tst35, Tzero35, ↓YR, hl, hm, nb2_b1, n2]
  refine moreX_go ?_ ?_
  · simp (maxSteps := 2000000) (disch := first | (simp only [E4, hl, hm, en] <;> omega) | omega | fail) only [↓E2, E3, bare, bareJ, ↓E0, E1, evPlan, env0, envN, evOps, evOp, evQs, evQ, evV, setD, pureOp, ev, upd, updL, binW, eqOp, binV, intOp, shOp, boolOp, extractV, cellAt, cellsAt, findB, setB, Value.cells, hav, delB, eqL, SameI, strOp, ↓reduceIte, Zj, Zk, Nat.reduceAdd, Nat.reduceLT, Nat.reduceEqDiff, Nat.reduceMul, Nat.reduceLeDiff, if_true, Zn, reduceCtorEq, ZA, eq_self, Int.reduceLE, Int.reduceLT, Int.reduceToNat, ne_eq, Nat.reduceSub, Tld27, Tst35, Tzero35, ↓YR, hl, hm, nb2_b1, n2, en]
    refine callO_newR0 (determinant_c n x o hx ho hn hn2) (fun _ _ => toldW_nil) ?_
    intro v1 M1 hv1 nd1 _
    simp only [List.cons_append, List.nil_append] at nd1 ⊢
    simp (maxSteps := 2000000) (disch := first | (simp only [E4, hl, hm, en] <;> omega) | omega | fail) only [↓E2, E3, bare, bareJ, ↓E0, E1, evPlan, env0, envN, evOps, evOp, evQs, evQ, evV, setD, pureOp, ev, upd, updL, binW, eqOp, binV, intOp, shOp, boolOp, extractV, cellAt, cellsAt, findB, setB, Value.cells, hav, delB, eqL, SameI, strOp, ↓reduceIte, Zj, Zk, Nat.reduceAdd, Nat.reduceLT, Nat.reduceEqDiff, Nat.reduceMul, Nat.reduceLeDiff, if_true, Zn, reduceCtorEq, ZA, eq_self, Int.reduceLE, Int.reduceLT, Int.reduceToNat, ne_eq, Nat.reduceSub, Tld27, Tst35, Tzero35, ↓YR, hl, hm, nb2_b1, n2, en]
    refine callP_gives (n_c _ _ _ hl hm) ?_
    simp (maxSteps := 2000000) (disch := first | (simp only [E4, hl, hm, en] <;> omega) | omega | fail) only [↓E2, E3, bare, bareJ, ↓E0, E1, evPlan, env0, envN, evOps, evOp, evQs, evQ, evV, setD, pureOp, ev, upd, updL, binW, eqOp, binV, intOp, shOp, boolOp, extractV, cellAt, cellsAt, findB, setB, Value.cells, hav, delB, eqL, SameI, strOp, ↓reduceIte, Zj, Zk, Nat.reduceAdd, Nat.reduceLT, Nat.reduceEqDiff, Nat.reduceMul, Nat.reduceLeDiff, if_true, Zn, reduceCtorEq, ZA, eq_self, Int.reduceLE, Int.reduceLT, Int.reduceToNat, ne_eq, Nat.reduceSub, Tld27, Tst35, Tzero35, ↓YR, hl, hm, nb2_b1, n2, en]
    refine moreX_go ?_ ?_
    · simp (maxSteps := 2000000) (disch := first | (simp only [E4, hl, hm] <;> omega) | omega | fail) only [↓E2, E3, bare, bareJ, ↓E0, E1, evPlan, env0, envN, evOps, evOp, evQs, evQ, evV, setD, pureOp, ev, upd, updL, binW, eqOp, binV, intOp, shOp, boolOp, extractV, cellAt, cellsAt, findB, setB, Value.cells, hav, delB, eqL, SameI, strOp, ↓reduceIte, Zj, Zk, Nat.reduceAdd, Nat.reduceLT, Nat.reduceEqDiff, Nat.reduceMul, Nat.reduceLeDiff, if_true, Zn, reduceCtorEq, ZA, eq_self, Int.reduceLE, Int.reduceLT, Int.reduceToNat, ne_eq, Nat.reduceSub, Tld27, Tst35, Tzero35, ↓YR, hl, hm, nb2_b1, n2]
      refine callO_lentC (cs := []) (Mr := [(b2, [.int .i64 0, .slice none 0 0]), (b1, gc (n : Int) x o)]) (hq v1 M1 hv1) nd1 rfl (fun _ _ => toldW_nil) ?_
      intro r M' hr nd2 _
      obtain ⟨ok, pv, Mq, rfl, ⟨s', rfl, hs'⟩, hsub⟩ := quotP_any hr
      obtain ⟨a', m', c', rfl⟩ := hs'.form
      simp only [List.cons_append, List.nil_append] at nd2 ⊢
      simp (maxSteps := 2000000) (disch := first | (simp only [E4, hl, hm] <;> omega) | omega | fail) only [↓E2, E3, bare, bareJ, ↓E0, E1, evPlan, env0, envN, evOps, evOp, evQs, evQ, evV, setD, pureOp, ev, upd, updL, binW, eqOp, binV, intOp, shOp, boolOp, extractV, cellAt, cellsAt, findB, setB, Value.cells, hav, delB, eqL, SameI, strOp, ↓reduceIte, Zj, Zk, Nat.reduceAdd, Nat.reduceLT, Nat.reduceEqDiff, Nat.reduceMul, Nat.reduceLeDiff, if_true, Zn, reduceCtorEq, ZA, eq_self, Int.reduceLE, Int.reduceLT, Int.reduceToNat, ne_eq, Nat.reduceSub, Tld27, Tst35, Tzero35, ↓YR, hl, hm, nb2_b1, n2]
      intro b3 hb3
      repeat refine And.intro (by omega) ?_
      intro g
      simp only [List.map_cons, List.map_nil, updL, upd, Nat.reduceEqDiff, if_true, if_false, ↓reduceIte]
      exact J g b3 _ Mq _ ⟨_, rfl, hs'⟩ ⟨_, _, _, rfl, subP_two hsub⟩
    · simp (maxSteps := 2000000) (disch := first | (simp only [E4, hl, hm] <;> omega) | omega | fail) only [↓E2, E3, bare, bareJ, ↓E0, E1, evPlan, env0, envN, evOps, evOp, evQs, evQ, evV, setD, pureOp, ev, upd, updL, binW, eqOp, binV, intOp, shOp, boolOp, extractV, cellAt, cellsAt, findB, setB, Value.cells, hav, delB, eqL, SameI, strOp, ↓reduceIte, Zj, Zk, Nat.reduceAdd, Nat.reduceLT, Nat.reduceEqDiff, Nat.reduceMul, Nat.reduceLeDiff, if_true, Zn, reduceCtorEq, ZA, eq_self, Int.reduceLE, Int.reduceLT, Int.reduceToNat, ne_eq, Nat.reduceSub, Tld27, Tst35, Tzero35, ↓YR, hl, hm, nb2_b1, n2]
      intro b3 hb3
      have nd1 := nodup_new (cs := [.int .i64 0, .slice none 0 0]) hb3 nd1
      try simp only [List.cons_append, List.nil_append] at nd1
      refine callO_lentC (cs := []) (Mr := [(b3, [.int .i64 0, .slice none 0 0]), (b2, [.int .i64 0, .slice none 0 0]), (b1, gc (n : Int) x o)]) (hq v1 M1 hv1) nd1 rfl (fun _ _ => toldW_nil) ?_
      intro r M' hr nd2 _
      obtain ⟨ok, pv, Mq, rfl, ⟨s', rfl, hs'⟩, hsub⟩ := quotP_any hr
      obtain ⟨a', m', c', rfl⟩ := hs'.form
      simp only [List.cons_append, List.nil_append] at nd2 ⊢
      simp (maxSteps := 2000000) (disch := first | (simp only [E4, hl, hm] <;> omega) | omega | fail) only [↓E2, E3, bare, bareJ, ↓E0, E1, evPlan, env0, envN, evOps, evOp, evQs, evQ, evV, setD, pureOp, ev, upd, updL, binW, eqOp, binV, intOp, shOp, boolOp, extractV, cellAt, cellsAt, findB, setB, Value.cells, hav, delB, eqL, SameI, strOp, ↓reduceIte, Zj, Zk, Nat.reduceAdd, Nat.reduceLT, Nat.reduceEqDiff, Nat.reduceMul, Nat.reduceLeDiff, if_true, Zn, reduceCtorEq, ZA, eq_self, Int.reduceLE, Int.reduceLT, Int.reduceToNat, ne_eq, Nat.reduceSub, Tld27, Tst35, Tzero35, ↓YR, hl, hm, nb2_b1, n2]
      repeat refine And.intro (by omega) ?_
      intro g
      simp only [List.map_cons, List.map_nil, updL, upd, Nat.reduceEqDiff, if_true, if_false, ↓reduceIte]
      exact J g b3 _ Mq _ ⟨_, rfl, hs'⟩ ⟨_, _, _, rfl, subP_two hsub⟩
  · refine moreX_go ?_ ?_
    · simp (maxSteps := 2000000) (disch := first | (simp only [E4, hl, hm, en] <;> omega) | omega | fail) only [↓E2, E3, bare, bareJ, ↓E0, E1, evPlan, env0, envN, evOps, evOp, evQs, evQ, evV, setD, pureOp, ev, upd, updL, binW, eqOp, binV, intOp, shOp, boolOp, extractV, cellAt, cellsAt, findB, setB, Value.cells, hav, delB, eqL, SameI, strOp, ↓reduceIte, Zj, Zk, Nat.reduceAdd, Nat.reduceLT, Nat.reduceEqDiff, Nat.reduceMul, Nat.reduceLeDiff, if_true, Zn, reduceCtorEq, ZA, eq_self, Int.reduceLE, Int.reduceLT, Int.reduceToNat, ne_eq, Nat.reduceSub, Tld27, Tst35, Tzero35, ↓YR, hl, hm, nb2_b1, n2, en]
      refine moreX_go ?_ ?_
      · simp (maxSteps := 2000000) (disch := first | (simp only [E4, hl, hm] <;> omega) | omega | fail) only [↓E2, E3, bare, bareJ, ↓E0, E1, evPlan, env0, envN, evOps, evOp, evQs, evQ, evV, setD, pureOp, ev, upd, updL, binW, eqOp, binV, intOp, shOp, boolOp, extractV, cellAt, cellsAt, findB, setB, Value.cells, hav, delB, eqL, SameI, strOp, ↓reduceIte, Zj, Zk, Nat.reduceAdd, Nat.reduceLT, Nat.reduceEqDiff, Nat.reduceMul, Nat.reduceLeDiff, if_true, Zn, reduceCtorEq, ZA, eq_self, Int.reduceLE, Int.reduceLT, Int.reduceToNat, ne_eq, Nat.reduceSub, Tld27, Tst35, Tzero35, ↓YR, hl, hm, nb2_b1, n2]
        refine callO_newR0 (determinant_c n x o hx ho hn hn2) (fun _ _ => toldW_nil) ?_
        intro v1 M1 hv1 nd1 _
        simp only [List.cons_append, List.nil_append] at nd1 ⊢
        simp (maxSteps := 2000000) (disch := first | (simp only [E4, hl, hm, en] <;> omega) | omega | fail) only [↓E2, E3, bare, bareJ, ↓E0, E1, evPlan, env0, envN, evOps, evOp, evQs, evQ, evV, setD, pureOp, ev, upd, updL, binW, eqOp, binV, intOp, shOp, boolOp, extractV, cellAt, cellsAt, findB, setB, Value.cells, hav, delB, eqL, SameI, strOp, ↓reduceIte, Zj, Zk, Nat.reduceAdd, Nat.reduceLT, Nat.reduceEqDiff, Nat.reduceMul, Nat.reduceLeDiff, if_true, Zn, reduceCtorEq, ZA, eq_self, Int.reduceLE, Int.reduceLT, Int.reduceToNat, ne_eq, Nat.reduceSub, Tld27, Tst35, Tzero35, ↓YR, hl, hm, nb2_b1, n2, en]
        refine callP_gives (n_c _ _ _ hl hm) ?_
        simp (maxSteps := 2000000) (disch := first | (simp only [E4, hl, hm, en] <;> omega) | omega | fail) only [↓E2, E3, bare, bareJ, ↓E0, E1, evPlan, env0, envN, evOps, evOp, evQs, evQ, evV, setD, pureOp, ev, upd, updL, binW, eqOp, binV, intOp, shOp, boolOp, extractV, cellAt, cellsAt, findB, setB, Value.cells, hav, delB, eqL, SameI, strOp, ↓reduceIte, Zj, Zk, Nat.reduceAdd, Nat.reduceLT, Nat.reduceEqDiff, Nat.reduceMul, Nat.reduceLeDiff, if_true, Zn, reduceCtorEq, ZA, eq_self, Int.reduceLE, Int.reduceLT, Int.reduceToNat, ne_eq, Nat.reduceSub, Tld27, Tst35, Tzero35, ↓YR, hl, hm, nb2_b1, n2, en]
        refine moreX_go ?_ ?_
        · simp (maxSteps := 2000000) (disch := first | (simp only [E4, hl, hm] <;> omega) | omega | fail) only [↓E2, E3, bare, bareJ, ↓E0, E1, evPlan, env0, envN, evOps, evOp, evQs, evQ, evV, setD, pureOp, ev, upd, updL, binW, eqOp, binV, intOp, shOp, boolOp, extractV, cellAt, cellsAt, findB, setB, Value.cells, hav, delB, eqL, SameI, strOp, ↓reduceIte, Zj, Zk, Nat.reduceAdd, Nat.reduceLT, Nat.reduceEqDiff, Nat.reduceMul, Nat.reduceLeDiff, if_true, Zn, reduceCtorEq, ZA, eq_self, Int.reduceLE, Int.reduceLT, Int.reduceToNat, ne_eq, Nat.reduceSub, Tld27, Tst35, Tzero35, ↓YR, hl, hm, nb2_b1, n2]
          refine callO_lentC (cs := []) (Mr := [(b2, [.int .i64 0, .slice none 0 0]), (b1, gc (n : Int) x o)]) (hq v1 M1 hv1) nd1 rfl (fun _ _ => toldW_nil) ?_
          intro r M' hr nd2 _
          obtain ⟨ok, pv, Mq, rfl, ⟨s', rfl, hs'⟩, hsub⟩ := quotP_any hr
          obtain ⟨a', m', c', rfl⟩ := hs'.form
          simp only [List.cons_append, List.nil_append] at nd2 ⊢
          simp (maxSteps := 2000000) (disch := first | (simp only [E4, hl, hm] <;> omega) | omega | fail) only [↓E2, E3, bare, bareJ, ↓E0, E1, evPlan, env0, envN, evOps, evOp, evQs, evQ, evV, setD, pureOp, ev, upd, updL, binW, eqOp, binV, intOp, shOp, boolOp, extractV, cellAt, cellsAt, findB, setB, Value.cells, hav, delB, eqL, SameI, strOp, ↓reduceIte, Zj, Zk, Nat.reduceAdd, Nat.reduceLT, Nat.reduceEqDiff, Nat.reduceMul, Nat.reduceLeDiff, if_true, Zn, reduceCtorEq, ZA, eq_self, Int.reduceLE, Int.reduceLT, Int.reduceToNat, ne_eq, Nat.reduceSub, Tld27, Tst35, Tzero35, ↓YR, hl, hm, nb2_b1, n2]
          intro b3 hb3
          repeat refine And.intro (by omega) ?_
          intro g
          simp only [List.map_cons, List.map_nil, updL, upd, Nat.reduceEqDiff, if_true, if_false, ↓reduceIte]
          exact J g b3 _ Mq _ ⟨_, rfl, hs'⟩ ⟨_, _, _, rfl, subP_two hsub⟩
        · simp (maxSteps := 2000000) (disch := first | (simp only [E4, hl, hm] <;> omega) | omega | fail) only [↓E2, E3, bare, bareJ, ↓E0, E1, evPlan, env0, envN, evOps, evOp, evQs, evQ, evV, setD, pureOp, ev, upd, updL, binW, eqOp, binV, intOp, shOp, boolOp, extractV, cellAt, cellsAt, findB, setB, Value.cells, hav, delB, eqL, SameI, strOp, ↓reduceIte, Zj, Zk, Nat.reduceAdd, Nat.reduceLT, Nat.reduceEqDiff, Nat.reduceMul, Nat.reduceLeDiff, if_true, Zn, reduceCtorEq, ZA, eq_self, Int.reduceLE, Int.reduceLT, Int.reduceToNat, ne_eq, Nat.reduceSub, Tld27, Tst35, Tzero35, ↓YR, hl, hm, nb2_b1, n2]
          intro b3 hb3
          have nd1 := nodup_new (cs := [.int .i64 0, .slice none 0 0]) hb3 nd1
          try simp only [List.cons_append, List.nil_append] at nd1
          refine callO_lentC (cs := []) (Mr := [(b3, [.int .i64 0, .slice none 0 0]), (b2, [.int .i64 0, .slice none 0 0]), (b1, gc (n : Int) x o)]) (hq v1 M1 hv1) nd1 rfl (fun _ _ => toldW_nil) ?_
          intro r M' hr nd2 _
          obtain ⟨ok, pv, Mq, rfl, ⟨s', rfl, hs'⟩, hsub⟩ := quotP_any hr
          obtain ⟨a', m', c', rfl⟩ := hs'.form
          simp only [List.cons_append, List.nil_append] at nd2 ⊢
          simp (maxSteps := 2000000) (disch := first | (simp only [E4, hl, hm] <;> omega) | omega | fail) only [↓E2, E3, bare, bareJ, ↓E0, E1, evPlan, env0, envN, evOps, evOp, evQs, evQ, evV, setD, pureOp, ev, upd, updL, binW, eqOp, binV, intOp, shOp, boolOp, extractV, cellAt, cellsAt, findB, setB, Value.cells, hav, delB, eqL, SameI, strOp, ↓reduceIte, Zj, Zk, Nat.reduceAdd, Nat.reduceLT, Nat.reduceEqDiff, Nat.reduceMul, Nat.reduceLeDiff, if_true, Zn, reduceCtorEq, ZA, eq_self, Int.reduceLE, Int.reduceLT, Int.reduceToNat, ne_eq, Nat.reduceSub, Tld27, Tst35, Tzero35, ↓YR, hl, hm, nb2_b1, n2]
          repeat refine And.intro (by omega) ?_
          intro g
          simp only [List.map_cons, List.map_nil, updL, upd, Nat.reduceEqDiff, if_true, if_false, ↓reduceIte]
          exact J g b3 _ Mq _ ⟨_, rfl, hs'⟩ ⟨_, _, _, rfl, subP_two hsub⟩
      · simp (maxSteps := 2000000) (disch := first | (simp only [E4, hl, hm] <;> omega) | omega | fail) only [↓E2, E3, bare, bareJ, ↓E0, E1, evPlan, env0, envN, evOps, evOp, evQs, evQ, evV, setD, pureOp, ev, upd, updL, binW, eqOp, binV, intOp, shOp, boolOp, extractV, cellAt, cellsAt, findB, setB, Value.cells, hav, delB, eqL, SameI, strOp, ↓reduceIte, Zj, Zk, Nat.reduceAdd, Nat.reduceLT, Nat.reduceEqDiff, Nat.reduceMul, Nat.reduceLeDiff, if_true, Zn, reduceCtorEq, ZA, eq_self, Int.reduceLE, Int.reduceLT, Int.reduceToNat, ne_eq, Nat.reduceSub, Tld27, Tst35, Tzero35, ↓YR, hl, hm, nb2_b1, n2]
        intro b3 hb3
        have n32 : ¬ b3 = b2 := hb3.2 (b2, [.int .i64 0, .slice none 0 0]) (by simp)
        have n31 : ¬ b3 = b1 := hb3.2 (b1, gc (n : Int) x o) (by simp)
        refine callO_newR0 (determinant_c n x o hx ho hn hn2) (fun _ _ => toldW_nil) ?_
        intro v1 M1 hv1 nd1 _
        simp only [List.cons_append, List.nil_append] at nd1 ⊢
        simp (maxSteps := 2000000) (disch := first | (simp only [E4, hl, hm, en] <;> omega) | omega | fail) only [↓E2, E3, bare, bareJ, ↓E0, E1, evPlan, env0, envN, evOps, evOp, evQs, evQ, evV, setD, pureOp, ev, upd, updL, binW, eqOp, binV, intOp, shOp, boolOp, extractV, cellAt, cellsAt, findB, setB, Value.cells, hav, delB, eqL, SameI, strOp, ↓reduceIte, Zj, Zk, Nat.reduceAdd, Nat.reduceLT, Nat.reduceEqDiff, Nat.reduceMul, Nat.reduceLeDiff, if_true, Zn, reduceCtorEq, ZA, eq_self, Int.reduceLE, Int.reduceLT, Int.reduceToNat, ne_eq, Nat.reduceSub, Tld27, Tst35, Tzero35, ↓YR, hl, hm, nb2_b1, n2, en]
        refine callP_gives (n_c _ _ _ hl hm) ?_
        simp (maxSteps := 2000000) (disch := first | (simp only [E4, hl, hm, en] <;> omega) | omega | fail) only [↓E2, E3, bare, bareJ, ↓E0, E1, evPlan, env0, envN, evOps, evOp, evQs, evQ, evV, setD, pureOp, ev, upd, updL, binW, eqOp, binV, intOp, shOp, boolOp, extractV, cellAt, cellsAt, findB, setB, Value.cells, hav, delB, eqL, SameI, strOp, ↓reduceIte, Zj, Zk, Nat.reduceAdd, Nat.reduceLT, Nat.reduceEqDiff, Nat.reduceMul, Nat.reduceLeDiff, if_true, Zn, reduceCtorEq, ZA, eq_self, Int.reduceLE, Int.reduceLT, Int.reduceToNat, ne_eq, Nat.reduceSub, Tld27, Tst35, Tzero35, ↓YR, hl, hm, nb2_b1, n2, en]
        refine callO_lentC (cs := []) (Mr := [(b3, [.int .i64 0, .slice none 0 0]), (b2, [.int .i64 0, .slice none 0 0]), (b1, gc (n : Int) x o)]) (hq v1 M1 hv1) nd1 rfl (fun _ _ => toldW_nil) ?_
        intro r M' hr nd2 _
        obtain ⟨ok, pv, Mq, rfl, ⟨s', rfl, hs'⟩, hsub⟩ := quotP_any hr
        obtain ⟨a', m', c', rfl⟩ := hs'.form
        simp only [List.cons_append, List.nil_append] at nd2 ⊢
        simp (maxSteps := 2000000) (disch := first | (simp only [E4, hl, hm] <;> omega) | omega | fail) only [↓E2, E3, bare, bareJ, ↓E0, E1, evPlan, env0, envN, evOps, evOp, evQs, evQ, evV, setD, pureOp, ev, upd, updL, binW, eqOp, binV, intOp, shOp, boolOp, extractV, cellAt, cellsAt, findB, setB, Value.cells, hav, delB, eqL, SameI, strOp, ↓reduceIte, Zj, Zk, Nat.reduceAdd, Nat.reduceLT, Nat.reduceEqDiff, Nat.reduceMul, Nat.reduceLeDiff, if_true, Zn, reduceCtorEq, ZA, eq_self, Int.reduceLE, Int.reduceLT, Int.reduceToNat, ne_eq, Nat.reduceSub, Tld27, Tst35, Tzero35, ↓YR, hl, hm, nb2_b1, n2]
        repeat refine And.intro (by omega) ?_
        intro g
        simp only [List.map_cons, List.map_nil, updL, upd, Nat.reduceEqDiff, if_true, if_false, ↓reduceIte]
        exact J g b3 _ Mq _ ⟨_, rfl, hs'⟩ ⟨_, _, _, rfl, subP_two hsub⟩
    · simp (maxSteps := 2000000) (disch := first | (simp only [E4, hl, hm] <;> omega) | omega | fail) only [↓E2, E3, bare, bareJ, ↓E0, E1, evPlan, env0, envN, evOps, evOp, evQs, evQ, evV, setD, pureOp, ev, upd, updL, binW, eqOp, binV, intOp, shOp, boolOp, extractV, cellAt, cellsAt, findB, setB, Value.cells, hav, delB, eqL, SameI, strOp, ↓reduceIte, Zj, Zk, Nat.reduceAdd, Nat.reduceLT, Nat.reduceEqDiff, Nat.reduceMul, Nat.reduceLeDiff, if_true, Zn, reduceCtorEq, ZA, eq_self, Int.reduceLE, Int.reduceLT, Int.reduceToNat, ne_eq, Nat.reduceSub, Tld27, Tst35, Tzero35, ↓YR, hl, hm, nb2_b1, n2]
      intro b3 hb3
      have n32 : ¬ b3 = b2 := hb3.2 (b2, [.int .i64 0, .slice none 0 0]) (by simp)
      have n31 : ¬ b3 = b1 := hb3.2 (b1, gc (n : Int) x o) (by simp)
      refine moreX_go ?_ ?_
      · simp (maxSteps := 2000000) (disch := first | (simp only [E4, hl, hm] <;> omega) | omega | fail) only [↓E2, E3, bare, bareJ, ↓E0, E1, evPlan, env0, envN, evOps, evOp, evQs, evQ, evV, setD, pureOp, ev, upd, updL, binW, eqOp, binV, intOp, shOp, boolOp, extractV, cellAt, cellsAt, findB, setB, Value.cells, hav, delB, eqL, SameI, strOp, ↓reduceIte, Zj, Zk, Nat.reduceAdd, Nat.reduceLT, Nat.reduceEqDiff, Nat.reduceMul, Nat.reduceLeDiff, if_true, Zn, reduceCtorEq, ZA, eq_self, Int.reduceLE, Int.reduceLT, Int.reduceToNat, ne_eq, Nat.reduceSub, Tld27, Tst35, Tzero35, ↓YR, hl, hm, nb2_b1, n2]
        refine callO_newR0 (determinant_c n x o hx ho hn hn2) (fun _ _ => toldW_nil) ?_
        intro v1 M1 hv1 nd1 _
        simp only [List.cons_append, List.nil_append] at nd1 ⊢
        simp (maxSteps := 2000000) (disch := first | (simp only [E4, hl, hm, en] <;> omega) | omega | fail) only [↓E2, E3, bare, bareJ, ↓E0, E1, evPlan, env0, envN, evOps, evOp, evQs, evQ, evV, setD, pureOp, ev, upd, updL, binW, eqOp, binV, intOp, shOp, boolOp, extractV, cellAt, cellsAt, findB, setB, Value.cells, hav, delB, eqL, SameI, strOp, ↓reduceIte, Zj, Zk, Nat.reduceAdd, Nat.reduceLT, Nat.reduceEqDiff, Nat.reduceMul, Nat.reduceLeDiff, if_true, Zn, reduceCtorEq, ZA, eq_self, Int.reduceLE, Int.reduceLT, Int.reduceToNat, ne_eq, Nat.reduceSub, Tld27, Tst35, Tzero35, ↓YR, hl, hm, nb2_b1, n2, en, n31, n32]
        refine callP_gives (n_c _ _ _ hl hm) ?_
        simp (maxSteps := 2000000) (disch := first | (simp only [E4, hl, hm, en] <;> omega) | omega | fail) only [↓E2, E3, bare, bareJ, ↓E0, E1, evPlan, env0, envN, evOps, evOp, evQs, evQ, evV, setD, pureOp, ev, upd, updL, binW, eqOp, binV, intOp, shOp, boolOp, extractV, cellAt, cellsAt, findB, setB, Value.cells, hav, delB, eqL, SameI, strOp, ↓reduceIte, Zj, Zk, Nat.reduceAdd, Nat.reduceLT, Nat.reduceEqDiff, Nat.reduceMul, Nat.reduceLeDiff, if_true, Zn, reduceCtorEq, ZA, eq_self, Int.reduceLE, Int.reduceLT, Int.reduceToNat, ne_eq, Nat.reduceSub, Tld27, Tst35, Tzero35, ↓YR, hl, hm, nb2_b1, n2, en]
        refine callO_lentC (cs := []) (Mr := [(b3, [.int .i64 0, .slice none 0 0]), (b2, [.int .i64 0, .slice none 0 0]), (b1, gc (n : Int) x o)]) (hq v1 M1 hv1) nd1 rfl (fun _ _ => toldW_nil) ?_
        intro r M' hr nd2 _
        obtain ⟨ok, pv, Mq, rfl, ⟨s', rfl, hs'⟩, hsub⟩ := quotP_any hr
        obtain ⟨a', m', c', rfl⟩ := hs'.form
        simp only [List.cons_append, List.nil_append] at nd2 ⊢
        simp (maxSteps := 2000000) (disch := first | (simp only [E4, hl, hm] <;> omega) | omega | fail) only [↓E2, E3, bare, bareJ, ↓E0, E1, evPlan, env0, envN, evOps, evOp, evQs, evQ, evV, setD, pureOp, ev, upd, updL, binW, eqOp, binV, intOp, shOp, boolOp, extractV, cellAt, cellsAt, findB, setB, Value.cells, hav, delB, eqL, SameI, strOp, ↓reduceIte, Zj, Zk, Nat.reduceAdd, Nat.reduceLT, Nat.reduceEqDiff, Nat.reduceMul, Nat.reduceLeDiff, if_true, Zn, reduceCtorEq, ZA, eq_self, Int.reduceLE, Int.reduceLT, Int.reduceToNat, ne_eq, Nat.reduceSub, Tld27, Tst35, Tzero35, ↓YR, hl, hm, nb2_b1, n2]
        repeat refine And.intro (by omega) ?_
        intro g
        simp only [List.map_cons, List.map_nil, updL, upd, Nat.reduceEqDiff, if_true, if_false, ↓reduceIte]
        exact J g b3 _ Mq _ ⟨_, rfl, hs'⟩ ⟨_, _, _, rfl, subP_two hsub⟩
      · simp (maxSteps := 2000000) (disch := first | (simp only [E4, hl, hm, en] <;> omega) | omega | fail) only [↓E2, E3, bare, bareJ, ↓E0, E1, evPlan, env0, envN, evOps, evOp, evQs, evQ, evV, setD, pureOp, ev, upd, updL, binW, eqOp, binV, intOp, shOp, boolOp, extractV, cellAt, cellsAt, findB, setB, Value.cells, hav, delB, eqL, SameI, strOp, ↓reduceIte, Zj, Zk, Nat.reduceAdd, Nat.reduceLT, Nat.reduceEqDiff, Nat.reduceMul, Nat.reduceLeDiff, if_true, Zn, reduceCtorEq, ZA, eq_self, Int.reduceLE, Int.reduceLT, Int.reduceToNat, ne_eq, Nat.reduceSub, Tld27, Tst35, Tzero35, ↓YR, hl, hm, nb2_b1, n2, en, n31, n32]
        refine callO_newR0 (determinant_c n x o hx ho hn hn2) (fun _ _ => toldW_nil) ?_
        intro v1 M1 hv1 nd1 _
        simp only [List.cons_append, List.nil_append] at nd1 ⊢
        simp (maxSteps := 2000000) (disch := first | (simp only [E4, hl, hm, en] <;> omega) | omega | fail) only [↓E2, E3, bare, bareJ, ↓E0, E1, evPlan, env0, envN, evOps, evOp, evQs, evQ, evV, setD, pureOp, ev, upd, updL, binW, eqOp, binV, intOp, shOp, boolOp, extractV, cellAt, cellsAt, findB, setB, Value.cells, hav, delB, eqL, SameI, strOp, ↓reduceIte, Zj, Zk, Nat.reduceAdd, Nat.reduceLT, Nat.reduceEqDiff, Nat.reduceMul, Nat.reduceLeDiff, if_true, Zn, reduceCtorEq, ZA, eq_self, Int.reduceLE, Int.reduceLT, Int.reduceToNat, ne_eq, Nat.reduceSub, Tld27, Tst35, Tzero35, ↓YR, hl, hm, nb2_b1, n2, en]
        refine callP_gives (n_c _ _ _ hl hm) ?_
        simp (maxSteps := 2000000) (disch := first | (simp only [E4, hl, hm, en] <;> omega) | omega | fail) only [↓E2, E3, bare, bareJ, ↓E0, E1, evPlan, env0, envN, evOps, evOp, evQs, evQ, evV, setD, pureOp, ev, upd, updL, binW, eqOp, binV, intOp, shOp, boolOp, extractV, cellAt, cellsAt, findB, setB, Value.cells, hav, delB, eqL, SameI, strOp, ↓reduceIte, Zj, Zk, Nat.reduceAdd, Nat.reduceLT, Nat.reduceEqDiff, Nat.reduceMul, Nat.reduceLeDiff, if_true, Zn, reduceCtorEq, ZA, eq_self, Int.reduceLE, Int.reduceLT, Int.reduceToNat, ne_eq, Nat.reduceSub, Tld27, Tst35, Tzero35, ↓YR, hl, hm, nb2_b1, n2, en]
        refine callO_lentC (cs := []) (Mr := [(b3, [.int .i64 0, .slice none 0 0]), (b2, [.int .i64 0, .slice none 0 0]), (b1, gc (n : Int) x o)]) (hq v1 M1 hv1) nd1 rfl (fun _ _ => toldW_nil) ?_
        intro r M' hr nd2 _
        obtain ⟨ok, pv, Mq, rfl, ⟨s', rfl, hs'⟩, hsub⟩ := quotP_any hr
        obtain ⟨a', m', c', rfl⟩ := hs'.form
        simp only [List.cons_append, List.nil_append] at nd2 ⊢
        simp (maxSteps := 2000000) (disch := first | (simp only [E4, hl, hm] <;> omega) | omega | fail) only [↓E2, E3, bare, bareJ, ↓E0, E1, evPlan, env0, envN, evOps, evOp, evQs, evQ, evV, setD, pureOp, ev, upd, updL, binW, eqOp, binV, intOp, shOp, boolOp, extractV, cellAt, cellsAt, findB, setB, Value.cells, hav, delB, eqL, SameI, strOp, ↓reduceIte, Zj, Zk, Nat.reduceAdd, Nat.reduceLT, Nat.reduceEqDiff, Nat.reduceMul, Nat.reduceLeDiff, if_true, Zn, reduceCtorEq, ZA, eq_self, Int.reduceLE, Int.reduceLT, Int.reduceToNat, ne_eq, Nat.reduceSub, Tld27, Tst35, Tzero35, ↓YR, hl, hm, nb2_b1, n2]
        repeat refine And.intro (by omega) ?_
        intro g
        simp only [List.map_cons, List.map_nil, updL, upd, Nat.reduceEqDiff, if_true, if_false, ↓reduceIte]
        exact J g b3 _ Mq _ ⟨_, rfl, hs'⟩ ⟨_, _, _, rfl, subP_two hsub⟩
end

end Go.Proofs

/-
  What the functions of this part hand back: each as a plain function of its arguments. Conditions: none.
-/
namespace Go.Proofs
open Go.W8
set_option linter.unusedVariables false
set_option linter.unusedSimpArgs false
set_option linter.unusedSectionVars false
set_option maxRecDepth 8000
set_option maxHeartbeats 4000000
def knotC (s : Int) (x o : List Int) : Int := if gridB s x o then if knotB s x o then 0 else 5 else 1
theorem knotC_zero {s : Int} {x o : List Int} : knotC s x o = 0 ↔ gridB s x o = true ∧ knotB s x o = true := by
  unfold knotC
  split
  · split
    · simp_all
    · simp_all
  · simp_all
def alAns (s : Int) (x o : List Int) : Int × List Int × Int := if knotC s x o = 0 then (loL (alL s.toNat x o), alL s.toNat x o, 0) else (0, [], knotC s x o)
def alDet (s : Int) (x o : List Int) : Int := valTo 0 (-1) (alL s.toNat x o) (alL s.toNat x o).length
theorem alL_ok {n : Nat} (x o : List Int) (hn : n ≤ 8) : lauOk (loL (alL n x o)) (alL n x o) = true := by
  have hok := alQ_ok x o hn
  unfold alL
  split
  · have := loL_ok (negL_ok hok)
    exact this
  · exact loL_ok hok
section
variable (s : Int) (x o : List Int) (hx : Bytes8 x) (ho : Bytes8 o)
include hx ho
theorem l04Knot_c : Gives Try.prog 10 #[.agg (gc s x o).toArray] (.int .i64 (knotC s x o)) := by
  have hl := hx.len
  have hm := ho.len
  skip
  refine Gives.of fun w => ?_
  refine acall_of (N := 15) (c := _) (rs := [.tmp 2]) (args := [_]) Try.func10 rfl (by decide) rfl rfl (Nat.le_of_ble_eq_true rfl) ?_
  refine Cd.rs [1] fun K hK => ?_
  simp (maxSteps := 2000000) (disch := first | (simp only [E4, hl, hm] <;> omega) | omega | fail) only [↓E2, E3, bare, bareJ, ↓E0, E1, env0, envN, evOps, evOp, evQs, evQ, evV, setD, pureOp, ev, upd, updL, Value.cells, hav, delB, ↓reduceIte, Zj, Zk, Nat.reduceAdd, Nat.reduceLT, Nat.reduceEqDiff, Nat.reduceMul, Nat.reduceLeDiff, if_true, Zn, reduceCtorEq, ZA, eq_self, Int.reduceLE, Int.reduceLT, Int.reduceToNat, ne_eq, Nat.reduceSub, hl, hm]
  repeat refine And.intro (by omega) ?_
  intro b1 hb1
  try simp (maxSteps := 2000000) (disch := first | (simp only [E4, hl, hm] <;> omega) | omega | fail) only [↓E2, E3, bare, bareJ, ↓E0, E1, env0, envN, evOps, evOp, evQs, evQ, evV, setD, pureOp, ev, upd, updL, Value.cells, hav, delB, ↓reduceIte, Zj, Zk, Nat.reduceAdd, Nat.reduceLT, Nat.reduceEqDiff, Nat.reduceMul, Nat.reduceLeDiff, if_true, Zn, reduceCtorEq, ZA, eq_self, Int.reduceLE, Int.reduceLT, Int.reduceToNat, ne_eq, Nat.reduceSub, hl, hm]
  repeat refine And.intro (by omega) ?_
  repeat refine And.intro (by omega) ?_
  intro g
  simp only [List.map_cons, List.map_nil, updL, upd, Nat.reduceEqDiff, if_true, if_false, ↓reduceIte]
  refine hK _ _ ?_; clear hK K
  refine Cd.seq ?_
  refine Cd.rs [1, 7] fun K hK => ?_
  simp (maxSteps := 2000000) (disch := first | (simp only [E4, hl, hm] <;> omega) | omega | fail) only [↓E2, E3, bare, bareJ, ↓E0, E1, env0, envN, evOps, evOp, evQs, evQ, evV, setD, pureOp, ev, upd, updL, unV, cellAt, cellsAt, findB, setB, hav, delB, ↓reduceIte, Zj, Zk, Nat.reduceAdd, Nat.reduceLT, Nat.reduceEqDiff, Nat.reduceMul, Nat.reduceLeDiff, if_true, Zn, reduceCtorEq, ZA, eq_self, Int.reduceLE, Int.reduceLT, Int.reduceToNat, ne_eq, Nat.reduceSub, Tld27, hl, hm]
  repeat refine And.intro (by omega) ?_
  refine callK_gives (l01Is_c _ _ _ hx ho) ?_
  simp (maxSteps := 2000000) (disch := first | (simp only [E4, hl, hm] <;> omega) | omega | fail) only [↓E2, E3, bare, bareJ, ↓E0, E1, env0, envN, evOps, evOp, evQs, evQ, evV, setD, pureOp, ev, upd, updL, unV, cellAt, cellsAt, findB, setB, hav, delB, ↓reduceIte, Zj, Zk, Nat.reduceAdd, Nat.reduceLT, Nat.reduceEqDiff, Nat.reduceMul, Nat.reduceLeDiff, if_true, Zn, reduceCtorEq, ZA, eq_self, Int.reduceLE, Int.reduceLT, Int.reduceToNat, ne_eq, Nat.reduceSub, Tld27, hl, hm]
  repeat refine And.intro (by omega) ?_
  repeat refine And.intro (by omega) ?_
  intro g
  simp only [List.map_cons, List.map_nil, updL, upd, Nat.reduceEqDiff, if_true, if_false, ↓reduceIte]
  refine hK _ _ ?_; clear hK K
  refine Cd.cond rfl (fun h1 => ?_) (fun h1 => ?_)
  · refine Cd.rs [2] fun K hK => ?_
    simp (maxSteps := 2000000) (disch := first | (simp only [E4, hl, hm] <;> omega) | omega | fail) only [↓E2, E3, bare, bareJ, ↓E0, E1, env0, envN, evOps, evOp, evQs, evQ, evV, setD, pureOp, ev, upd, updL, hav, delB, ↓reduceIte, Zj, Zk, Nat.reduceAdd, Nat.reduceLT, Nat.reduceEqDiff, Nat.reduceMul, Nat.reduceLeDiff, if_true, Zn, reduceCtorEq, ZA, eq_self, Int.reduceLE, Int.reduceLT, Int.reduceToNat, ne_eq, Nat.reduceSub, hl, hm]
    repeat refine And.intro (by omega) ?_
    repeat refine And.intro (by omega) ?_
    intro g
    simp only [List.map_cons, List.map_nil, updL, upd, Nat.reduceEqDiff, if_true, if_false, ↓reduceIte]
    refine hK _ _ ?_; clear hK K
    refine Cd.ret (thenR ?_)
    simp (maxSteps := 2000000) (disch := first | (simp only [E4, hl, hm] <;> omega) | omega | fail) only [↓E2, E3, bare, bareJ, ↓E0, E1, evP, evPlan, env0, envN, evOps, evOp, evQs, evQ, evV, setD, pureOp, ev, upd, updL, gate, binW, eqOp, binV, intOp, shOp, boolOp, unV, convV, nilV, fieldAddrV, indexAddrV, extractV, cellAt, cellsAt, findB, setB, fillL, buildV, Value.cells, lenV, minV, maxV, hav, sliceV, loV, hiV, bslQ, mksQ, appQ, partsOk, partsCells, delB, eqL, SameI, strOp, apzQ, cvtQ, capV, ↓reduceIte, Zj, Zk, Nat.reduceAdd, Nat.reduceLT, Nat.reduceEqDiff, Nat.reduceMul, Nat.reduceLeDiff, if_true, Zn, reduceCtorEq, ZA, eq_self, Int.reduceLE, Int.reduceLT, Int.reduceToNat, ne_eq, Nat.reduceSub, hl, hm]
    repeat refine And.intro (by omega) ?_
    unfold knotC
    rw [if_neg (by simpa using h1)]
  · have hg : gridB s x o = true := by simpa using h1
    unfold knotC knotB
    rw [if_pos hg]
    obtain ⟨n, rfl, hn2, hn, px, po⟩ := gridB_perm hg
    rw [Int.toNat_natCast]
    have cl : (comps n x o).1.length = 8 := compTo_len _ _
    skip
    refine Cd.skip ?_
    refine thenN ?_
    refine Cd.seq ?_
    refine Cd.rs [4] fun K hK => ?_
    simp (maxSteps := 2000000) (disch := first | (simp only [E4, hl, hm, cl] <;> omega) | omega | fail) only [↓E2, E3, bare, bareJ, ↓E0, E1, env0, envN, evOps, evOp, evQs, evQ, evV, setD, pureOp, ev, upd, updL, extractV, cellAt, cellsAt, findB, setB, Value.cells, hav, delB, ↓reduceIte, Zj, Zk, Nat.reduceAdd, Nat.reduceLT, Nat.reduceEqDiff, Nat.reduceMul, Nat.reduceLeDiff, if_true, Zn, reduceCtorEq, ZA, eq_self, Int.reduceLE, Int.reduceLT, Int.reduceToNat, ne_eq, Nat.reduceSub, Tld27, Tst44, Tzero44, hl, hm, cl]
    repeat refine And.intro (by omega) ?_
    refine callK_gives (l01Components_c n x o hx ho hn px po) ?_
    simp (maxSteps := 2000000) (disch := first | (simp only [E4, hl, hm, cl] <;> omega) | omega | fail) only [↓E2, E3, bare, bareJ, ↓E0, E1, env0, envN, evOps, evOp, evQs, evQ, evV, setD, pureOp, ev, upd, updL, extractV, cellAt, cellsAt, findB, setB, Value.cells, hav, delB, ↓reduceIte, Zj, Zk, Nat.reduceAdd, Nat.reduceLT, Nat.reduceEqDiff, Nat.reduceMul, Nat.reduceLeDiff, if_true, Zn, reduceCtorEq, ZA, eq_self, Int.reduceLE, Int.reduceLT, Int.reduceToNat, ne_eq, Nat.reduceSub, Tld27, Tst44, Tzero44, hl, hm, cl]
    repeat refine And.intro (by omega) ?_
    intro b2 hb2
    have nb2_b1 := hb2.ne
    try simp (maxSteps := 2000000) (disch := first | (simp only [E4, hl, hm, cl] <;> omega) | omega | fail) only [↓E2, E3, bare, bareJ, ↓E0, E1, env0, envN, evOps, evOp, evQs, evQ, evV, setD, pureOp, ev, upd, updL, extractV, cellAt, cellsAt, findB, setB, Value.cells, hav, delB, ↓reduceIte, Zj, Zk, Nat.reduceAdd, Nat.reduceLT, Nat.reduceEqDiff, Nat.reduceMul, Nat.reduceLeDiff, if_true, Zn, reduceCtorEq, ZA, eq_self, Int.reduceLE, Int.reduceLT, Int.reduceToNat, ne_eq, Nat.reduceSub, Tld27, Tst44, Tzero44, hl, hm, cl, nb2_b1]
    repeat refine And.intro (by omega) ?_
    repeat refine And.intro (by omega) ?_
    intro g
    simp only [List.map_cons, List.map_nil, updL, upd, Nat.reduceEqDiff, if_true, if_false, ↓reduceIte]
    refine hK _ _ ?_; clear hK K
    refine Cd.rs [14] fun K hK => ?_
    simp (maxSteps := 2000000) (disch := first | (simp only [E4, hl, hm, cl] <;> omega) | omega | fail) only [↓E2, E3, bare, bareJ, ↓E0, E1, env0, envN, evOps, evOp, evQs, evQ, evV, setD, pureOp, ev, upd, updL, binW, eqOp, binV, intOp, shOp, boolOp, hav, delB, eqL, SameI, strOp, ↓reduceIte, Zj, Zk, Nat.reduceAdd, Nat.reduceLT, Nat.reduceEqDiff, Nat.reduceMul, Nat.reduceLeDiff, if_true, Zn, reduceCtorEq, ZA, eq_self, Int.reduceLE, Int.reduceLT, Int.reduceToNat, ne_eq, Nat.reduceSub, hl, hm, cl, nb2_b1]
    repeat refine And.intro (by omega) ?_
    repeat refine And.intro (by omega) ?_
    intro g
    simp only [List.map_cons, List.map_nil, updL, upd, Nat.reduceEqDiff, if_true, if_false, ↓reduceIte]
    refine hK _ _ ?_; clear hK K
    refine Cd.cond rfl (fun h2 => ?_) (fun h2 => ?_)
    · simp only [decide_eq_true_eq, decide_eq_false_iff_not, beq_iff_eq, beq_eq_false_iff_ne, bne_iff_ne, bne_eq_false_iff_eq, Bool.and_eq_true, Bool.or_eq_true, Bool.or_eq_false_iff, Bool.not_eq_true', Bool.not_eq_false', Bool.and_eq_false_imp, ne_eq, gt_iff_lt, ge_iff_le, Int.not_lt, Int.not_le, Classical.not_not] at h2
      refine Cd.rs [2] fun K hK => ?_
      simp (maxSteps := 2000000) (disch := first | (simp only [E4, hl, hm, cl] <;> omega) | omega | fail) only [↓E2, E3, bare, bareJ, ↓E0, E1, env0, envN, evOps, evOp, evQs, evQ, evV, setD, pureOp, ev, upd, updL, hav, delB, ↓reduceIte, Zj, Zk, Nat.reduceAdd, Nat.reduceLT, Nat.reduceEqDiff, Nat.reduceMul, Nat.reduceLeDiff, if_true, Zn, reduceCtorEq, ZA, eq_self, Int.reduceLE, Int.reduceLT, Int.reduceToNat, ne_eq, Nat.reduceSub, hl, hm, cl, nb2_b1]
      repeat refine And.intro (by omega) ?_
      repeat refine And.intro (by omega) ?_
      intro g
      simp only [List.map_cons, List.map_nil, updL, upd, Nat.reduceEqDiff, if_true, if_false, ↓reduceIte]
      refine hK _ _ ?_; clear hK K
      refine Cd.ret (thenR ?_)
      simp (maxSteps := 2000000) (disch := first | (simp only [E4, hl, hm, cl] <;> omega) | omega | fail) only [↓E2, E3, bare, bareJ, ↓E0, E1, evP, evPlan, env0, envN, evOps, evOp, evQs, evQ, evV, setD, pureOp, ev, upd, updL, gate, binW, eqOp, binV, intOp, shOp, boolOp, unV, convV, nilV, fieldAddrV, indexAddrV, extractV, cellAt, cellsAt, findB, setB, fillL, buildV, Value.cells, lenV, minV, maxV, hav, sliceV, loV, hiV, bslQ, mksQ, appQ, partsOk, partsCells, delB, eqL, SameI, strOp, apzQ, cvtQ, capV, ↓reduceIte, Zj, Zk, Nat.reduceAdd, Nat.reduceLT, Nat.reduceEqDiff, Nat.reduceMul, Nat.reduceLeDiff, if_true, Zn, reduceCtorEq, ZA, eq_self, Int.reduceLE, Int.reduceLT, Int.reduceToNat, ne_eq, Nat.reduceSub, hl, hm, cl, nb2_b1]
      repeat refine And.intro (by omega) ?_
      rw [if_neg (by rw [beq_iff_eq]; omega)]
    · simp only [decide_eq_true_eq, decide_eq_false_iff_not, beq_iff_eq, beq_eq_false_iff_ne, bne_iff_ne, bne_eq_false_iff_eq, Bool.and_eq_true, Bool.or_eq_true, Bool.or_eq_false_iff, Bool.not_eq_true', Bool.not_eq_false', Bool.and_eq_false_imp, ne_eq, gt_iff_lt, ge_iff_le, Int.not_lt, Int.not_le, Classical.not_not] at h2
      refine Cd.skip ?_
      refine thenN ?_
      refine Cd.rs [2] fun K hK => ?_
      simp (maxSteps := 2000000) (disch := first | (simp only [E4, hl, hm, cl] <;> omega) | omega | fail) only [↓E2, E3, bare, bareJ, ↓E0, E1, env0, envN, evOps, evOp, evQs, evQ, evV, setD, pureOp, ev, upd, updL, hav, delB, ↓reduceIte, Zj, Zk, Nat.reduceAdd, Nat.reduceLT, Nat.reduceEqDiff, Nat.reduceMul, Nat.reduceLeDiff, if_true, Zn, reduceCtorEq, ZA, eq_self, Int.reduceLE, Int.reduceLT, Int.reduceToNat, ne_eq, Nat.reduceSub, hl, hm, cl, nb2_b1]
      repeat refine And.intro (by omega) ?_
      repeat refine And.intro (by omega) ?_
      intro g
      simp only [List.map_cons, List.map_nil, updL, upd, Nat.reduceEqDiff, if_true, if_false, ↓reduceIte]
      refine hK _ _ ?_; clear hK K
      refine Cd.ret ?_
      simp (maxSteps := 2000000) (disch := first | (simp only [E4, hl, hm, cl] <;> omega) | omega | fail) only [↓E2, E3, bare, bareJ, ↓E0, E1, evP, evPlan, env0, envN, evOps, evOp, evQs, evQ, evV, setD, pureOp, ev, upd, updL, gate, binW, eqOp, binV, intOp, shOp, boolOp, unV, convV, nilV, fieldAddrV, indexAddrV, extractV, cellAt, cellsAt, findB, setB, fillL, buildV, Value.cells, lenV, minV, maxV, hav, sliceV, loV, hiV, bslQ, mksQ, appQ, partsOk, partsCells, delB, eqL, SameI, strOp, apzQ, cvtQ, capV, ↓reduceIte, Zj, Zk, Nat.reduceAdd, Nat.reduceLT, Nat.reduceEqDiff, Nat.reduceMul, Nat.reduceLeDiff, if_true, Zn, reduceCtorEq, ZA, eq_self, Int.reduceLE, Int.reduceLT, Int.reduceToNat, ne_eq, Nat.reduceSub, hl, hm, cl, nb2_b1]
      repeat refine And.intro (by omega) ?_
      rw [if_pos (by rw [beq_iff_eq]; omega)]
end

end Go.Proofs

/-
  What the functions of this part hand back: each as a plain function of its arguments. Conditions: none.
-/
namespace Go.Proofs
open Go.W8
set_option linter.unusedVariables false
set_option linter.unusedSimpArgs false
set_option linter.unusedSectionVars false
set_option maxRecDepth 8000
set_option maxHeartbeats 4000000
def alVal (n : Nat) (x o : List Int) : Int := valTo (loL (alL n x o)) (-1) (alL n x o) (alL n x o).length
def mxN (d : Int) : Int := if 0 - d > d then 0 - d else d
def knotI (s : Int) (x o : List Int) (v : Int) : Value := .tuple #[.int .i64 (if knotC s x o = 0 then v else 0), .int .i64 (knotC s x o)]
theorem knotI_yes {s : Int} {x o : List Int} {v : Int} (h : knotC s x o = 0) : knotI s x o v = .tuple #[.int .i64 v, .int .i64 0] := by
  unfold knotI; rw [if_pos h, h]
theorem knotI_no {s : Int} {x o : List Int} {v : Int} (h : ¬ knotC s x o = 0) : knotI s x o v = .tuple #[.int .i64 0, .int .i64 (knotC s x o)] := by
  unfold knotI; rw [if_neg h]
section
variable (s : Int) (x o : List Int) (hx : Bytes8 x) (ho : Bytes8 o)
include hx ho
theorem knottedInt_c (n : Nat) (v : Int) (h : knotC s x o = 0 → Gives Try.prog n #[.agg (gc s x o).toArray] (.int .i64 v)) :
    Gives Try.prog 14 #[.agg (gc s x o).toArray, .func (.func n) #[] #[]] (knotI s x o v) := by
  have hl := hx.len
  have hm := ho.len
  skip
  refine Gives.of fun w => ?_
  refine acall_of (N := 20) (c := _) (rs := [.tmp 4, .tmp 5]) (args := [_, _]) Try.func14 rfl (by decide) rfl rfl (Nat.le_of_ble_eq_true rfl) ?_
  refine Cd.rs [1, 2] fun K hK => ?_
  simp (maxSteps := 2000000) (disch := first | (simp only [E4, hl, hm] <;> omega) | omega | fail) only [↓E2, E3, bare, bareJ, ↓E0, E1, env0, envN, evOps, evOp, evQs, evQ, evV, setD, pureOp, ev, upd, updL, Value.cells, hav, delB, ↓reduceIte, Zj, Zk, Nat.reduceAdd, Nat.reduceLT, Nat.reduceEqDiff, Nat.reduceMul, Nat.reduceLeDiff, if_true, Zn, reduceCtorEq, ZA, eq_self, Int.reduceLE, Int.reduceLT, Int.reduceToNat, ne_eq, Nat.reduceSub, hl, hm]
  repeat refine And.intro (by omega) ?_
  intro b1 hb1
  try simp (maxSteps := 2000000) (disch := first | (simp only [E4, hl, hm] <;> omega) | omega | fail) only [↓E2, E3, bare, bareJ, ↓E0, E1, env0, envN, evOps, evOp, evQs, evQ, evV, setD, pureOp, ev, upd, updL, Value.cells, hav, delB, ↓reduceIte, Zj, Zk, Nat.reduceAdd, Nat.reduceLT, Nat.reduceEqDiff, Nat.reduceMul, Nat.reduceLeDiff, if_true, Zn, reduceCtorEq, ZA, eq_self, Int.reduceLE, Int.reduceLT, Int.reduceToNat, ne_eq, Nat.reduceSub, hl, hm]
  repeat refine And.intro (by omega) ?_
  repeat refine And.intro (by omega) ?_
  intro g
  simp only [List.map_cons, List.map_nil, updL, upd, Nat.reduceEqDiff, if_true, if_false, ↓reduceIte]
  refine hK _ _ ?_; clear hK K
  refine Cd.rs [1, 2, 6] fun K hK => ?_
  simp (maxSteps := 2000000) (disch := first | (simp only [E4, hl, hm] <;> omega) | omega | fail) only [↓E2, E3, bare, bareJ, ↓E0, E1, env0, envN, evOps, evOp, evQs, evQ, evV, setD, pureOp, ev, upd, updL, hav, delB, ↓reduceIte, Zj, Zk, Nat.reduceAdd, Nat.reduceLT, Nat.reduceEqDiff, Nat.reduceMul, Nat.reduceLeDiff, if_true, Zn, reduceCtorEq, ZA, eq_self, Int.reduceLE, Int.reduceLT, Int.reduceToNat, ne_eq, Nat.reduceSub, hl, hm]
  repeat refine And.intro (by omega) ?_
  repeat refine And.intro (by omega) ?_
  intro g
  simp only [List.map_cons, List.map_nil, updL, upd, Nat.reduceEqDiff, if_true, if_false, ↓reduceIte]
  refine hK _ _ ?_; clear hK K
  refine Cd.seq ?_
  refine Cd.block ?_
  refine Cd.rs [1, 2, 6, 7] fun K hK => ?_
  simp (maxSteps := 2000000) (disch := first | (simp only [E4, hl, hm] <;> omega) | omega | fail) only [↓E2, E3, bare, bareJ, ↓E0, E1, env0, envN, evOps, evOp, evQs, evQ, evV, setD, pureOp, ev, upd, updL, unV, cellAt, cellsAt, findB, setB, hav, delB, ↓reduceIte, Zj, Zk, Nat.reduceAdd, Nat.reduceLT, Nat.reduceEqDiff, Nat.reduceMul, Nat.reduceLeDiff, if_true, Zn, reduceCtorEq, ZA, eq_self, Int.reduceLE, Int.reduceLT, Int.reduceToNat, ne_eq, Nat.reduceSub, Tld27, hl, hm]
  repeat refine And.intro (by omega) ?_
  refine callK_gives (IsGrid_c _ _ _ hx ho) ?_
  simp (maxSteps := 2000000) (disch := first | (simp only [E4, hl, hm] <;> omega) | omega | fail) only [↓E2, E3, bare, bareJ, ↓E0, E1, env0, envN, evOps, evOp, evQs, evQ, evV, setD, pureOp, ev, upd, updL, unV, cellAt, cellsAt, findB, setB, hav, delB, ↓reduceIte, Zj, Zk, Nat.reduceAdd, Nat.reduceLT, Nat.reduceEqDiff, Nat.reduceMul, Nat.reduceLeDiff, if_true, Zn, reduceCtorEq, ZA, eq_self, Int.reduceLE, Int.reduceLT, Int.reduceToNat, ne_eq, Nat.reduceSub, Tld27, hl, hm]
  repeat refine And.intro (by omega) ?_
  repeat refine And.intro (by omega) ?_
  intro g
  simp only [List.map_cons, List.map_nil, updL, upd, Nat.reduceEqDiff, if_true, if_false, ↓reduceIte]
  refine hK _ _ ?_; clear hK K
  refine Cd.cond rfl (fun h1 => ?_) (fun h1 => ?_)
  · have hg : ¬ gridB s x o = true := by simpa using h1
    have hk : knotC s x o = 1 := by unfold knotC; rw [if_neg hg]
    rw [knotI_no (by rw [hk]; decide), hk]
    refine Cd.rs [4, 5] fun K hK => ?_
    simp (maxSteps := 2000000) (disch := first | (simp only [E4, hl, hm] <;> omega) | omega | fail) only [↓E2, E3, bare, bareJ, ↓E0, E1, env0, envN, evOps, evOp, evQs, evQ, evV, setD, pureOp, ev, upd, updL, hav, delB, ↓reduceIte, Zj, Zk, Nat.reduceAdd, Nat.reduceLT, Nat.reduceEqDiff, Nat.reduceMul, Nat.reduceLeDiff, if_true, Zn, reduceCtorEq, ZA, eq_self, Int.reduceLE, Int.reduceLT, Int.reduceToNat, ne_eq, Nat.reduceSub, hl, hm]
    repeat refine And.intro (by omega) ?_
    repeat refine And.intro (by omega) ?_
    intro g
    simp only [List.map_cons, List.map_nil, updL, upd, Nat.reduceEqDiff, if_true, if_false, ↓reduceIte]
    refine hK _ _ ?_; clear hK K
    refine Cd.ret (inBR (thenR ?_))
    simp (maxSteps := 2000000) (disch := first | (simp only [E4, hl, hm] <;> omega) | omega | fail) only [↓E2, E3, bare, bareJ, ↓E0, E1, evP, evPlan, env0, envN, evOps, evOp, evQs, evQ, evV, setD, pureOp, ev, upd, updL, gate, binW, eqOp, binV, intOp, shOp, boolOp, unV, convV, nilV, fieldAddrV, indexAddrV, extractV, cellAt, cellsAt, findB, setB, fillL, buildV, Value.cells, lenV, minV, maxV, hav, sliceV, loV, hiV, bslQ, mksQ, appQ, partsOk, partsCells, delB, eqL, SameI, strOp, apzQ, cvtQ, capV, ↓reduceIte, Zj, Zk, Nat.reduceAdd, Nat.reduceLT, Nat.reduceEqDiff, Nat.reduceMul, Nat.reduceLeDiff, if_true, Zn, reduceCtorEq, ZA, eq_self, Int.reduceLE, Int.reduceLT, Int.reduceToNat, ne_eq, Nat.reduceSub, hl, hm]
    repeat refine And.intro (by omega) ?_
  · have hg : gridB s x o = true := by simpa using h1
    refine Cd.rs [1, 2, 6, 12] fun K hK => ?_
    simp (maxSteps := 2000000) (disch := first | (simp only [E4, hl, hm] <;> omega) | omega | fail) only [↓E2, E3, bare, bareJ, ↓E0, E1, env0, envN, evOps, evOp, evQs, evQ, evV, setD, pureOp, ev, upd, updL, unV, cellAt, cellsAt, findB, setB, hav, delB, ↓reduceIte, Zj, Zk, Nat.reduceAdd, Nat.reduceLT, Nat.reduceEqDiff, Nat.reduceMul, Nat.reduceLeDiff, if_true, Zn, reduceCtorEq, ZA, eq_self, Int.reduceLE, Int.reduceLT, Int.reduceToNat, ne_eq, Nat.reduceSub, Tld27, hl, hm]
    repeat refine And.intro (by omega) ?_
    refine callK_gives (isKnot_c _ _ _ hx ho hg) ?_
    simp (maxSteps := 2000000) (disch := first | (simp only [E4, hl, hm] <;> omega) | omega | fail) only [↓E2, E3, bare, bareJ, ↓E0, E1, env0, envN, evOps, evOp, evQs, evQ, evV, setD, pureOp, ev, upd, updL, unV, cellAt, cellsAt, findB, setB, hav, delB, ↓reduceIte, Zj, Zk, Nat.reduceAdd, Nat.reduceLT, Nat.reduceEqDiff, Nat.reduceMul, Nat.reduceLeDiff, if_true, Zn, reduceCtorEq, ZA, eq_self, Int.reduceLE, Int.reduceLT, Int.reduceToNat, ne_eq, Nat.reduceSub, Tld27, hl, hm]
    repeat refine And.intro (by omega) ?_
    repeat refine And.intro (by omega) ?_
    intro g
    simp only [List.map_cons, List.map_nil, updL, upd, Nat.reduceEqDiff, if_true, if_false, ↓reduceIte]
    refine hK _ _ ?_; clear hK K
    refine Cd.cond rfl (fun h2 => ?_) (fun h2 => ?_)
    · have hkb : ¬ knotB s x o = true := by simpa using h2
      have hk : knotC s x o = 5 := by unfold knotC; rw [if_pos hg, if_neg hkb]
      rw [knotI_no (by rw [hk]; decide), hk]
      refine Cd.rs [4, 5] fun K hK => ?_
      simp (maxSteps := 2000000) (disch := first | (simp only [E4, hl, hm] <;> omega) | omega | fail) only [↓E2, E3, bare, bareJ, ↓E0, E1, env0, envN, evOps, evOp, evQs, evQ, evV, setD, pureOp, ev, upd, updL, hav, delB, ↓reduceIte, Zj, Zk, Nat.reduceAdd, Nat.reduceLT, Nat.reduceEqDiff, Nat.reduceMul, Nat.reduceLeDiff, if_true, Zn, reduceCtorEq, ZA, eq_self, Int.reduceLE, Int.reduceLT, Int.reduceToNat, ne_eq, Nat.reduceSub, hl, hm]
      repeat refine And.intro (by omega) ?_
      repeat refine And.intro (by omega) ?_
      intro g
      simp only [List.map_cons, List.map_nil, updL, upd, Nat.reduceEqDiff, if_true, if_false, ↓reduceIte]
      refine hK _ _ ?_; clear hK K
      refine Cd.ret (inBR (thenR ?_))
      simp (maxSteps := 2000000) (disch := first | (simp only [E4, hl, hm] <;> omega) | omega | fail) only [↓E2, E3, bare, bareJ, ↓E0, E1, evP, evPlan, env0, envN, evOps, evOp, evQs, evQ, evV, setD, pureOp, ev, upd, updL, gate, binW, eqOp, binV, intOp, shOp, boolOp, unV, convV, nilV, fieldAddrV, indexAddrV, extractV, cellAt, cellsAt, findB, setB, fillL, buildV, Value.cells, lenV, minV, maxV, hav, sliceV, loV, hiV, bslQ, mksQ, appQ, partsOk, partsCells, delB, eqL, SameI, strOp, apzQ, cvtQ, capV, ↓reduceIte, Zj, Zk, Nat.reduceAdd, Nat.reduceLT, Nat.reduceEqDiff, Nat.reduceMul, Nat.reduceLeDiff, if_true, Zn, reduceCtorEq, ZA, eq_self, Int.reduceLE, Int.reduceLT, Int.reduceToNat, ne_eq, Nat.reduceSub, hl, hm]
      repeat refine And.intro (by omega) ?_
    · have hkb : knotB s x o = true := by simpa using h2
      have hk := knotC_zero.2 ⟨hg, hkb⟩
      rw [knotI_yes hk]
      refine Cd.skip ?_
      refine inBN ?_
      refine thenN ?_
      refine Cd.rs [4, 5] fun K hK => ?_
      simp (maxSteps := 2000000) (disch := first | (simp only [E4, hl, hm] <;> omega) | omega | fail) only [↓E2, E3, bare, bareJ, ↓E0, E1, env0, envN, evOps, evOp, evQs, evQ, evV, setD, pureOp, ev, upd, updL, cellAt, cellsAt, findB, setB, hav, delB, ↓reduceIte, Zj, Zk, Nat.reduceAdd, Nat.reduceLT, Nat.reduceEqDiff, Nat.reduceMul, Nat.reduceLeDiff, if_true, Zn, reduceCtorEq, ZA, eq_self, Int.reduceLE, Int.reduceLT, Int.reduceToNat, ne_eq, Nat.reduceSub, Tld27, hl, hm]
      repeat refine And.intro (by omega) ?_
      refine callK_gives (h hk) ?_
      simp (maxSteps := 2000000) (disch := first | (simp only [E4, hl, hm] <;> omega) | omega | fail) only [↓E2, E3, bare, bareJ, ↓E0, E1, env0, envN, evOps, evOp, evQs, evQ, evV, setD, pureOp, ev, upd, updL, cellAt, cellsAt, findB, setB, hav, delB, ↓reduceIte, Zj, Zk, Nat.reduceAdd, Nat.reduceLT, Nat.reduceEqDiff, Nat.reduceMul, Nat.reduceLeDiff, if_true, Zn, reduceCtorEq, ZA, eq_self, Int.reduceLE, Int.reduceLT, Int.reduceToNat, ne_eq, Nat.reduceSub, Tld27, hl, hm]
      repeat refine And.intro (by omega) ?_
      repeat refine And.intro (by omega) ?_
      intro g
      simp only [List.map_cons, List.map_nil, updL, upd, Nat.reduceEqDiff, if_true, if_false, ↓reduceIte]
      refine hK _ _ ?_; clear hK K
      refine Cd.ret ?_
      simp (maxSteps := 2000000) (disch := first | (simp only [E4, hl, hm] <;> omega) | omega | fail) only [↓E2, E3, bare, bareJ, ↓E0, E1, evP, evPlan, env0, envN, evOps, evOp, evQs, evQ, evV, setD, pureOp, ev, upd, updL, gate, binW, eqOp, binV, intOp, shOp, boolOp, unV, convV, nilV, fieldAddrV, indexAddrV, extractV, cellAt, cellsAt, findB, setB, fillL, buildV, Value.cells, lenV, minV, maxV, hav, sliceV, loV, hiV, bslQ, mksQ, appQ, partsOk, partsCells, delB, eqL, SameI, strOp, apzQ, cvtQ, capV, ↓reduceIte, Zj, Zk, Nat.reduceAdd, Nat.reduceLT, Nat.reduceEqDiff, Nat.reduceMul, Nat.reduceLeDiff, if_true, Zn, reduceCtorEq, ZA, eq_self, Int.reduceLE, Int.reduceLT, Int.reduceToNat, ne_eq, Nat.reduceSub, hl, hm]
      repeat refine And.intro (by omega) ?_
end
section
variable (n : Nat) (x o : List Int) (hx : Bytes8 x) (ho : Bytes8 o) (hn : n ≤ 8) (hn2 : 2 ≤ n)
include hx ho hn hn2
end
section
variable (s : Int) (x o : List Int) (hx : Bytes8 x) (ho : Bytes8 o)
include hx ho
end

end Go.Proofs

/-
  What the functions of this part hand back: each as a plain function of its arguments. Conditions: none.
-/
namespace Go.Proofs
open Go.W8
set_option linter.unusedVariables false
set_option linter.unusedSimpArgs false
set_option linter.unusedSectionVars false
set_option maxRecDepth 8000
set_option maxHeartbeats 4000000
--@plain
/-- Laurent polynomials are told by their coefficients; a column of monomials by its powers. -/
abbrev Cf := Int → Int
abbrev Cl := Nat → Int
/-- The sum with signs in turn over the entries of a list, each with the rest of the list. -/
def ex {α : Type} (G : List α → α → Int) : List α → List α → Int
  | _, [] => 0
  | pre, c :: s => G (pre ++ s) c - ex G (pre ++ [c]) s
/-- The determinant of monomials, by its first row; its columns are a list. -/
def dt : Nat → List Cl → Nat → Cf
  | 0, _, _, e => if e = 0 then 1 else 0
  | m + 1, cs, r, e => ex (fun rest c => dt m rest (r + 1) (e - c r)) [] cs
theorem dt_succ (m : Nat) (cs : List Cl) (r : Nat) (e : Int) : dt (m + 1) cs r e = ex (fun rest c => dt m rest (r + 1) (e - c r)) [] cs := rfl
theorem ex_congr {α : Type} {G H : List α → α → Int} : ∀ (s pre : List α), (∀ s1 c s2, s = s1 ++ c :: s2 → G (pre ++ s1 ++ s2) c = H (pre ++ s1 ++ s2) c) → ex G pre s = ex H pre s
  | [], _, _ => rfl
  | c :: s, pre, h => by
    show G (pre ++ s) c - _ = H (pre ++ s) c - _
    have h0 := h [] c s rfl
    rw [List.append_nil] at h0
    rw [h0, ex_congr s (pre ++ [c]) fun s1 d s2 e => by
      have := h (c :: s1) d s2 (by rw [e]; rfl)
      simpa using this]
/-- A sum of multiples, over a list of factors and functions. -/
def sumJ {α : Type} (J : List α) (f : α → Int) : Int := (J.map f).sum
theorem sumJ_nil {α : Type} (f : α → Int) : sumJ [] f = 0 := rfl
theorem sumJ_cons {α : Type} (a : α) (J : List α) (f : α → Int) : sumJ (a :: J) f = f a + sumJ J f := by simp [sumJ]
theorem sumJ_sub {α : Type} (f g : α → Int) : ∀ J : List α, sumJ J (fun a => f a - g a) = sumJ J f - sumJ J g
  | [] => rfl
  | a :: J => by rw [sumJ_cons, sumJ_cons, sumJ_cons, sumJ_sub f g J]; omega
theorem sumJ_zero {α : Type} : ∀ J : List α, sumJ J (fun _ => (0 : Int)) = 0
  | [] => rfl
  | a :: J => by rw [sumJ_cons, sumJ_zero J]; rfl
theorem sumJ_congr {α : Type} {f g : α → Int} : ∀ J : List α, (∀ a, f a = g a) → sumJ J f = sumJ J g
  | [], _ => rfl
  | a :: J, h => by rw [sumJ_cons, sumJ_cons, sumJ_congr J h, h]
/-- A relation among columns of monomials: factor, power, column. -/
def Rel (J : List (Int × Int × Cl)) : Prop := ∀ (b : Nat) (G : Cf), sumJ J (fun j => j.1 * G (j.2.1 + j.2.2 b)) = 0
theorem ex_behind {α : Type} {J : List (Int × Int × α)} {G : Int × Int × α → List α → α → Int} : ∀ (S A B : List α), (∀ s1 c s2, S = s1 ++ c :: s2 → sumJ J (fun j => j.1 * G j (A ++ j.2.2 :: (B ++ s1 ++ s2)) c) = 0) → sumJ J (fun j => j.1 * ex (G j) (A ++ j.2.2 :: B) S) = 0
  | [], A, B, _ => by
    show sumJ J (fun j => j.1 * 0) = 0
    rw [sumJ_congr J (g := fun _ => 0) fun j => Int.mul_zero _, sumJ_zero]
  | c :: S, A, B, h => by
    have h0 := h [] c S rfl
    have h1 := ex_behind (J := J) (G := G) S A (B ++ [c]) fun s1 d s2 e => by
      have := h (c :: s1) d s2 (by rw [e]; rfl)
      simpa using this
    have e : ∀ j : Int × Int × α, j.1 * ex (G j) (A ++ j.2.2 :: B) (c :: S) = j.1 * G j (A ++ j.2.2 :: (B ++ [] ++ S)) c - j.1 * ex (G j) (A ++ j.2.2 :: (B ++ [c])) S := fun j => by
      rw [← Int.mul_sub]
      show j.1 * (G j ((A ++ j.2.2 :: B) ++ S) c - ex (G j) ((A ++ j.2.2 :: B) ++ [c]) S) = _
      simp
    rw [sumJ_congr J e, sumJ_sub, h0, h1]; rfl
/-- The determinant is linear in a column. -/
theorem dt_lin {J : List (Int × Int × Cl)} (hJ : Rel J) : ∀ (m : Nat) (P S : List Cl) (r : Nat) (e : Int), m = P.length + 1 + S.length → sumJ J (fun j => j.1 * dt m (P ++ j.2.2 :: S) r (e - j.2.1)) = 0
  | 0, P, S, r, e, h => by omega
  | m + 1, P, S, r, e, h => by
    have key : ∀ (P' pre : List Cl), pre ++ P' = P → sumJ J (fun j => j.1 * ex (fun rest c => dt m rest (r + 1) (e - j.2.1 - c r)) pre (P' ++ j.2.2 :: S)) = 0 := by
      intro P'
      induction P' with
      | nil =>
        intro pre hp
        rw [List.append_nil] at hp
        subst hp
        have h1 := hJ r fun z => dt m (pre ++ S) (r + 1) (e - z)
        have h2 := ex_behind (J := J) (G := fun j rest c => dt m rest (r + 1) (e - j.2.1 - c r)) S pre [] fun s1 c s2 es => by
          have hl : m = pre.length + 1 + (s1 ++ s2).length := by
            rw [es] at h
            simp only [List.length_append, List.length_cons] at h ⊢
            omega
          have := dt_lin hJ m pre (s1 ++ s2) (r + 1) (e - c r) hl
          rw [← this]
          refine sumJ_congr J fun j => ?_
          simp only [List.nil_append]
          rw [show e - j.2.1 - c r = e - c r - j.2.1 by omega]
        rw [sumJ_congr J (g := fun j => j.1 * dt m (pre ++ S) (r + 1) (e - (j.2.1 + j.2.2 r)) - j.1 * ex (fun rest c => dt m rest (r + 1) (e - j.2.1 - c r)) (pre ++ j.2.2 :: []) S) fun j => ?_, sumJ_sub, h1, h2]
        · rfl
        · rw [← Int.mul_sub, show e - (j.2.1 + j.2.2 r) = e - j.2.1 - j.2.2 r by omega]
          rfl
      | cons c P' ih =>
        intro pre hp
        have h1 := ih (pre ++ [c]) (by rw [← hp]; simp)
        have hl : m = (pre ++ P').length + 1 + S.length := by
          rw [← hp] at h
          simp only [List.length_append, List.length_cons] at h ⊢
          omega
        have h2 := dt_lin hJ m (pre ++ P') S (r + 1) (e - c r) hl
        rw [sumJ_congr J (g := fun j => j.1 * dt m ((pre ++ P') ++ j.2.2 :: S) (r + 1) (e - c r - j.2.1) - j.1 * ex (fun rest c => dt m rest (r + 1) (e - j.2.1 - c r)) (pre ++ [c]) (P' ++ j.2.2 :: S)) fun j => ?_, sumJ_sub, h1, h2]
        · rfl
        · rw [← Int.mul_sub]
          show j.1 * (dt m (pre ++ (P' ++ j.2.2 :: S)) (r + 1) (e - j.2.1 - c r) - _) = _
          rw [List.append_assoc, show e - j.2.1 - c r = e - c r - j.2.1 by omega]
          rfl
    exact key P [] rfl
theorem ex_zero {α : Type} {G : List α → α → Int} {pre s : List α} (h : ∀ s1 c s2, s = s1 ++ c :: s2 → G (pre ++ s1 ++ s2) c = 0) : ex G pre s = 0 := by
  rw [ex_congr (H := fun _ _ => 0) s pre h]
  clear h
  induction s generalizing pre with
  | nil => rfl
  | cons c s ih =>
    show 0 - ex (fun _ _ => 0) (pre ++ [c]) s = 0
    rw [ih]; rfl
/-- Two neighbouring columns are alike: the determinant is 0. -/
theorem dt_alt (u : Cl) : ∀ (m : Nat) (P S : List Cl) (r : Nat) (e : Int), m = P.length + 2 + S.length → dt m (P ++ u :: u :: S) r e = 0
  | 0, P, S, r, e, h => by omega
  | m + 1, P, S, r, e, h => by
    have key : ∀ (P' pre : List Cl), pre ++ P' = P → ex (fun rest c => dt m rest (r + 1) (e - c r)) pre (P' ++ u :: u :: S) = 0 := by
      intro P'
      induction P' with
      | nil =>
        intro pre hp
        rw [List.append_nil] at hp
        subst hp
        have h2 : ex (fun rest c => dt m rest (r + 1) (e - c r)) ((pre ++ [u]) ++ [u]) S = 0 := ex_zero fun s1 c s2 es => by
          have hl : m = pre.length + 2 + (s1 ++ s2).length := by
            rw [es] at h
            simp only [List.length_append, List.length_cons] at h ⊢
            omega
          have := dt_alt u m pre (s1 ++ s2) (r + 1) (e - c r) hl
          simpa using this
        show dt m (pre ++ u :: S) (r + 1) (e - u r) - (dt m ((pre ++ [u]) ++ S) (r + 1) (e - u r) - ex (fun rest c => dt m rest (r + 1) (e - c r)) ((pre ++ [u]) ++ [u]) S) = 0
        rw [h2]
        simp
      | cons c P' ih =>
        intro pre hp
        have h1 := ih (pre ++ [c]) (by rw [← hp]; simp)
        have hl : m = (pre ++ P').length + 2 + S.length := by
          rw [← hp] at h
          simp only [List.length_append, List.length_cons] at h ⊢
          omega
        have h2 := dt_alt u m (pre ++ P') S (r + 1) (e - c r) hl
        show dt m (pre ++ (P' ++ u :: u :: S)) (r + 1) (e - c r) - ex (fun rest c => dt m rest (r + 1) (e - c r)) (pre ++ [c]) (P' ++ u :: u :: S) = 0
        rw [h1, ← List.append_assoc, h2]; rfl
    exact key P [] rfl
theorem ex_front (G : List Cl → Cl → Int) (c : Cl) : ∀ (s pre : List Cl), ex G (c :: pre) s = ex (fun rest x => G (c :: rest) x) pre s
  | [], _ => rfl
  | d :: s, pre => by
    show G (c :: pre ++ s) d - ex G (c :: pre ++ [d]) s = G (c :: (pre ++ s)) d - ex (fun rest x => G (c :: rest) x) (pre ++ [d]) s
    rw [← ex_front G c s (pre ++ [d])]
    rfl
theorem ex_sub (G H : List Cl → Cl → Int) : ∀ (s pre : List Cl), ex (fun rest c => G rest c - H rest c) pre s = ex G pre s - ex H pre s
  | [], _ => rfl
  | c :: s, pre => by
    show G (pre ++ s) c - H (pre ++ s) c - ex _ (pre ++ [c]) s = G (pre ++ s) c - ex G (pre ++ [c]) s - (H (pre ++ s) c - ex H (pre ++ [c]) s)
    rw [ex_sub G H s (pre ++ [c])]; omega
/-- Two rows are alike: pairs cancel. -/
theorem ex_two : ∀ (cs : List Cl) (H : List Cl → Cl → Cl → Int), (∀ rest c d, H rest c d = H rest d c) → ex (fun rest c => ex (fun rest' d => H rest' c d) [] rest) [] cs = 0
  | [], _, _ => rfl
  | c :: cs, H, hs => by
    show ex (fun rest' d => H rest' c d) [] ([] ++ cs) - ex (fun rest c => ex (fun rest' d => H rest' c d) [] rest) [c] cs = 0
    rw [ex_front]
    have e : ∀ rest (d : Cl), ex (fun rest' d' => H rest' d d') [] (c :: rest) = H rest d c - ex (fun rest' d' => H (c :: rest') d d') [] rest := fun rest d => by
      show H ([] ++ rest) d c - ex (fun rest' d' => H rest' d d') ([] ++ [c]) rest = _
      rw [List.nil_append, List.nil_append, ex_front]
    rw [show (fun rest d => ex (fun rest' d' => H rest' d d') [] (c :: rest)) = fun rest d => H rest d c - ex (fun rest' d' => H (c :: rest') d d') [] rest from funext fun rest => funext fun d => e rest d]
    rw [ex_sub, ex_two cs (fun rest' => H (c :: rest')) fun rest a b => hs _ a b]
    rw [show (fun rest' d => H rest' c d) = fun rest d => H rest d c from funext fun rest => funext fun d => hs rest c d, List.nil_append]
    omega
theorem ex_diff {G H : List Cl → Cl → Int} {u : Cl} {S : List Cl} (hS : ∀ c ∈ S, ∀ rest, G rest c = H rest c) : ∀ (P pre : List Cl), (∀ c ∈ P, ∀ rest, G rest c = H rest c) → ∃ σ : Int, σ = (-1) ^ P.length ∧ ex G pre (P ++ u :: S) - ex H pre (P ++ u :: S) = σ * (G (pre ++ P ++ S) u - H (pre ++ P ++ S) u)
  | [], pre, _ => by
    refine ⟨1, rfl, ?_⟩
    show G (pre ++ S) u - ex G (pre ++ [u]) S - (H (pre ++ S) u - ex H (pre ++ [u]) S) = _
    rw [ex_congr (G := G) (H := H) S (pre ++ [u]) fun s1 c s2 e => hS c (by rw [e]; simp) _, List.append_nil]
    omega
  | c :: P, pre, h => by
    obtain ⟨σ, h1, h2⟩ := ex_diff hS P (pre ++ [c]) fun d hd => h d (List.mem_cons_of_mem _ hd)
    refine ⟨-σ, by rw [h1, List.length_cons, Int.pow_succ, Int.mul_neg, Int.mul_one], ?_⟩
    show G (pre ++ (P ++ u :: S)) c - ex G (pre ++ [c]) (P ++ u :: S) - (H (pre ++ (P ++ u :: S)) c - ex H (pre ++ [c]) (P ++ u :: S)) = _
    rw [h c List.mem_cons_self]
    rw [show pre ++ [c] ++ P = pre ++ c :: P by simp] at h2
    rw [Int.neg_mul, ← h2]
    omega
/-- Rows r and r + 1 are alike but for one column. -/
theorem dt_rows {m : Nat} {P S : List Cl} {u : Cl} {r : Nat} (hP : ∀ c ∈ P, c r = c (r + 1)) (hS : ∀ c ∈ S, c r = c (r + 1)) (e : Int) :
    dt (m + 2) (P ++ u :: S) r e = (-1) ^ P.length * (dt (m + 1) (P ++ S) (r + 1) (e - u r) - dt (m + 1) (P ++ S) (r + 1) (e - u (r + 1))) := by
  have h0 := ex_two (P ++ u :: S) (fun rest c d => dt m rest (r + 2) (e - c (r + 1) - d (r + 1))) fun rest c d => by rw [show e - c (r + 1) - d (r + 1) = e - d (r + 1) - c (r + 1) by omega]
  obtain ⟨σ, h1, h2⟩ := ex_diff (G := fun rest c => dt (m + 1) rest (r + 1) (e - c r)) (H := fun rest c => dt (m + 1) rest (r + 1) (e - c (r + 1))) (u := u) (S := S) (fun c hc rest => by rw [hS c hc]) P [] (fun c hc rest => by rw [hP c hc])
  have h0 : ex (fun rest c => dt (m + 1) rest (r + 1) (e - c (r + 1))) [] (P ++ u :: S) = 0 := h0
  rw [h0, Int.sub_zero] at h2
  rw [dt_succ, h2, h1]
  rfl
theorem dt_same {m : Nat} {cs : List Cl} {r : Nat} (h : ∀ c ∈ cs, c r = c (r + 1)) (e : Int) : dt (m + 2) cs r e = 0 := by
  have h0 := ex_two cs (fun rest c d => dt m rest (r + 2) (e - c (r + 1) - d (r + 1))) fun rest c d => by rw [show e - c (r + 1) - d (r + 1) = e - d (r + 1) - c (r + 1) by omega]
  rw [dt_succ, ← h0]
  refine ex_congr cs [] fun s1 c s2 es => ?_
  show dt (m + 1) _ (r + 1) (e - c r) = ex (fun rest d => dt m rest (r + 2) (e - c (r + 1) - d (r + 1))) [] _
  rw [h c (by rw [es]; simp)]
  rfl
theorem ex_map {α β : Type} {G : List β → β → Int} {H : List α → α → Int} (φ : α → β) (h : ∀ rest c, G (rest.map φ) (φ c) = H rest c) : ∀ (s pre : List α), ex G (pre.map φ) (s.map φ) = ex H pre s
  | [], _ => rfl
  | c :: s, pre => by
    show G (pre.map φ ++ s.map φ) (φ c) - ex G (pre.map φ ++ [φ c]) (s.map φ) = _
    rw [← List.map_append, h, show pre.map φ ++ [φ c] = (pre ++ [c]).map φ by simp, ex_map φ h s]
    rfl
/-- Rows may be told from the next one on. -/
theorem dt_shift : ∀ (m : Nat) (cs : List Cl) (r : Nat) (e : Int), dt m (cs.map fun c b => c (b + 1)) r e = dt m cs (r + 1) e
  | 0, _, _, _ => rfl
  | m + 1, cs, r, e => ex_map (G := fun rest c => dt m rest (r + 1) (e - c r)) (H := fun rest c => dt m rest (r + 1 + 1) (e - c (r + 1))) (fun c b => c (b + 1)) (fun rest c => dt_shift m rest (r + 1) (e - c (r + 1))) cs []
/-- All powers with the other sign. -/
theorem dt_neg : ∀ (m : Nat) (cs : List Cl) (r : Nat) (e : Int), dt m (cs.map fun c b => -c b) r e = dt m cs r (-e)
  | 0, _, _, e => by
    show (if e = 0 then (1 : Int) else 0) = if -e = 0 then 1 else 0
    by_cases h : e = 0
    · rw [if_pos h, if_pos (by omega)]
    · rw [if_neg h, if_neg (by omega)]
  | m + 1, cs, r, e => ex_map (G := fun rest c => dt m rest (r + 1) (e - c r)) (H := fun rest c => dt m rest (r + 1) (-e - c r)) (fun c b => -c b) (fun rest c => by
      show dt m (rest.map fun c b => -c b) (r + 1) (e - -c r) = _
      rw [dt_neg m rest (r + 1), show -(e - -c r) = -e - c r by omega]) cs []

end Go.Proofs

