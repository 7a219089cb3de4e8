/-
  What the functions of this part hand back: each as a plain function of its arguments. Conditions: none.
-/
import Derived.ProofKit
import Derived.OpenShut
import Derived.Below
import Derived.ChangeSame
import Derived.Test.YtdfddcfgagfdoaaM1
import Derived.Test.YtdfddcfgagfdoaaM2
import Derived.Test.YtdfddcfgagfdoaaM3
namespace Go.Proofs
open Go.W8
set_option linter.unusedVariables false
set_option linter.unusedSimpArgs false
set_option linter.unusedSectionVars false
set_option maxRecDepth 8000
set_option maxHeartbeats 4000000
def quotAns (low : Int) (l : List Int) (k : Int) : Int × List Int × Int :=
  if lauOk low l = true then if 0 ≤ k ∧ k ≤ 20 then match qIter (low, l) k.toNat with
    | some q => (q.1, q.2, 0)
    | none => (0, [], 5) else (0, [], 2) else (0, [], 1)
def lauRes (A : Int × List Int × Int) : Value → Blks → Prop := ResS (LauV A.1 A.2.1) A.2.2
section
variable (low : Int) (l : List Int) (v : Value) (L : Blks) (hv : LauV low l v L) (hL : (L.map (·.1)).Nodup) (hb : l.length ≤ 100000000) (hw : -9223372036854775808 ≤ low ∧ low < 9223372036854775808) (k : Int)
include hv hL hb hw
end
section
variable (low : Int) (l : List Int) (v : Value) (L : Blks) (hv : LauV low l v L) (hL : (L.map (·.1)).Nodup) (hb : l.length ≤ 100000000) (hw : -9223372036854775808 ≤ low ∧ low < 9223372036854775808) (k : Int)
include hv hL hb hw
end

end Go.Proofs

/-
  What the functions of this part hand back: each as a plain function of its arguments. Conditions: none.
-/
namespace Go.Proofs
open Go.W8
set_option linter.unusedVariables false
set_option linter.unusedSimpArgs false
set_option linter.unusedSectionVars false
set_option maxRecDepth 8000
set_option maxHeartbeats 4000000
def mirLow (low : Int) (l : List Int) : Int := if l.length = 0 then 0 else 1 - low - l.length
theorem rev_get {l : List Int} {i : Nat} (h : i < l.length) : l.reverse.getD i 0 = l.getD (l.length - 1 - i) 0 := by
  rw [List.getD_eq_getElem?_getD, List.getD_eq_getElem?_getD, List.getElem?_reverse h]
def revs (l : List Int) (k : Nat) : List Int := (List.range k).map fun i => l.getD (l.length - 1 - i) 0
end Go.Proofs

/-
  What the functions of this part hand back: each as a plain function of its arguments. Conditions: none.
-/
namespace Go.Proofs
open Go.W8
set_option linter.unusedVariables false
set_option linter.unusedSimpArgs false
set_option linter.unusedSectionVars false
set_option maxRecDepth 8000
set_option maxHeartbeats 4000000
--@plain
/-- The number of a polynomial at a power, of its first i only. -/
def coK (low : Int) (l : List Int) (i : Nat) (e : Int) : Int := if low ≤ e ∧ e < low + i then l.getD (e - low).toNat 0 else 0
def sumK (low : Int) (n : Nat) (p1 : Int) (l1 : List Int) (i1 : Nat) (p2 : Int) (l2 : List Int) (i2 : Nat) (k : Int) : List Int :=
  (List.range n).map fun j : Nat => coK p1 l1 i1 (low + j) + k * coK p2 l2 i2 (low + j)
section
variable {low : Int} {n : Nat} {p1 : Int} {l1 : List Int} {i1 : Nat} {p2 : Int} {l2 : List Int} {i2 : Nat} {k : Int}
end
def addLo (p1 : Int) (l1 : List Int) (p2 : Int) : Int := if l1.length = 0 then p2 else min p2 p1
def addHi (p1 : Int) (l1 : List Int) (p2 : Int) (l2 : List Int) : Int := if l1.length = 0 then p2 + l2.length else max (p2 + l2.length) (p1 + l1.length)
def addN (p1 : Int) (l1 : List Int) (p2 : Int) (l2 : List Int) : Nat := (addHi p1 l1 p2 l2 - addLo p1 l1 p2).toNat
def addS (p1 : Int) (l1 : List Int) (p2 : Int) (l2 : List Int) (k : Int) : List Int := sumK (addLo p1 l1 p2) (addN p1 l1 p2 l2) p1 l1 l1.length p2 l2 l2.length k
def addR (p1 : Int) (l1 : List Int) (p2 : Int) (l2 : List Int) (k : Int) : Int × List Int :=
  if l2.length = 0 then (trimLow p1 l1, trimL l1) else (trimLow (addLo p1 l1 p2) (addS p1 l1 p2 l2 k), trimL (addS p1 l1 p2 l2 k))
def addAns (p1 : Int) (l1 : List Int) (p2 : Int) (l2 : List Int) : Int × List Int × Int :=
  if lauOk p1 l1 = true ∧ lauOk p2 l2 = true then if lauOk (addR p1 l1 p2 l2 1).1 (addR p1 l1 p2 l2 1).2 = true then ((addR p1 l1 p2 l2 1).1, (addR p1 l1 p2 l2 1).2, 0) else (0, [], 3) else (0, [], 1)
end Go.Proofs

/-
  What the functions of this part hand back: each as a plain function of its arguments. Conditions: none.
-/
namespace Go.Proofs
open Go.W8
set_option linter.unusedVariables false
set_option linter.unusedSimpArgs false
set_option linter.unusedSectionVars false
set_option maxRecDepth 8000
set_option maxHeartbeats 4000000
def growP (n : Nat) (v : Value) (M : Blks) : Prop := (n = 0 ∧ v = .slice none 0 0 ∧ M = []) ∨ ∃ b cap cs, v = .slice (some ⟨b, 0, none⟩) 0 cap ∧ M = [(b, cs)] ∧ Row 1 (ints .i64 []) 0 cap cs
theorem Grow_c (n : Nat) (hn : n ≤ 100000000) : GivesX Try.prog 196 #[.slice none 0 0, .int .i64 (n : Int)] [] [] (growP n) := by
  refine GivesX.of (callable_of Try.func196 rfl (by decide)) ?_ fun w hnd hlt hR => ?_
  · simp
  refine acall_of (N := 27) (c := _) (rs := [.tmp 4]) (args := [_, _]) Try.func196 rfl (by decide) rfl rfl (Nat.le_of_ble_eq_true rfl) ?_
  refine Cd.rs [0, 1] fun K hK => ?_
  simp (maxSteps := 2000000) (disch := first | (simp only [E4] <;> omega) | omega | fail) only [↓E2, E3, bare, bareJ, ↓E0, E1, evP, evPlan, env0, envN, evOps, evOp, evQs, evQ, evV, setD, pureOp, ev, upd, updL, gate, binW, eqOp, binV, intOp, shOp, boolOp, unV, convV, nilV, fieldAddrV, indexAddrV, extractV, cellAt, cellsAt, findB, setB, fillL, buildV, Value.cells, lenV, minV, maxV, hav, sliceV, loV, hiV, bslQ, mksQ, appQ, partsOk, partsCells, delB, eqL, SameI, strOp, apzQ, cvtQ, capV, ↓reduceIte, Zj, Zk, Nat.reduceAdd, Nat.reduceLT, Nat.reduceEqDiff, Nat.reduceMul, Nat.reduceLeDiff, if_true, Zn, reduceCtorEq, ZA, eq_self, Int.reduceLE, Int.reduceLT, Int.reduceToNat, ne_eq, Nat.reduceSub]
  repeat refine And.intro (by omega) ?_
  repeat refine And.intro (by omega) ?_
  intro g
  simp only [List.map_cons, List.map_nil, updL, upd, Nat.reduceEqDiff, if_true, if_false, ↓reduceIte]
  refine hK _ _ ?_; clear hK K
  refine Cd.seq ?_
  refine Cd.rs [0, 1, 6] fun K hK => ?_
  simp (maxSteps := 2000000) (disch := first | (simp only [E4] <;> omega) | omega | fail) only [↓E2, E3, bare, bareJ, ↓E0, E1, evP, evPlan, env0, envN, evOps, evOp, evQs, evQ, evV, setD, pureOp, ev, upd, updL, gate, binW, eqOp, binV, intOp, shOp, boolOp, unV, convV, nilV, fieldAddrV, indexAddrV, extractV, cellAt, cellsAt, findB, setB, fillL, buildV, Value.cells, lenV, minV, maxV, hav, sliceV, loV, hiV, bslQ, mksQ, appQ, partsOk, partsCells, delB, eqL, SameI, strOp, apzQ, cvtQ, capV, ↓reduceIte, Zj, Zk, Nat.reduceAdd, Nat.reduceLT, Nat.reduceEqDiff, Nat.reduceMul, Nat.reduceLeDiff, if_true, Zn, reduceCtorEq, ZA, eq_self, Int.reduceLE, Int.reduceLT, Int.reduceToNat, ne_eq, Nat.reduceSub]
  repeat refine And.intro (by omega) ?_
  repeat refine And.intro (by omega) ?_
  intro g
  simp only [List.map_cons, List.map_nil, updL, upd, Nat.reduceEqDiff, if_true, if_false, ↓reduceIte]
  refine hK _ _ ?_; clear hK K
  refine Cd.condd rfl (fun h1 => absurd h1 (by omega)) (fun h1 => ?_)
  refine Cd.skip ?_
  refine thenN ?_
  refine Cd.seq ?_
  refine Cd.rs [0, 1] fun K hK => ?_
  simp (maxSteps := 2000000) (disch := first | (simp only [E4] <;> omega) | omega | fail) only [↓E2, E3, bare, bareJ, ↓E0, E1, evP, evPlan, env0, envN, evOps, evOp, evQs, evQ, evV, setD, pureOp, ev, upd, updL, gate, binW, eqOp, binV, intOp, shOp, boolOp, unV, convV, nilV, fieldAddrV, indexAddrV, extractV, cellAt, cellsAt, findB, setB, fillL, buildV, Value.cells, lenV, minV, maxV, hav, sliceV, loV, hiV, bslQ, mksQ, appQ, partsOk, partsCells, delB, eqL, SameI, strOp, apzQ, cvtQ, capV, ↓reduceIte, Zj, Zk, Nat.reduceAdd, Nat.reduceLT, Nat.reduceEqDiff, Nat.reduceMul, Nat.reduceLeDiff, if_true, Zn, reduceCtorEq, ZA, eq_self, Int.reduceLE, Int.reduceLT, Int.reduceToNat, ne_eq, Nat.reduceSub, Tslce47]
  repeat refine And.intro (by omega) ?_
  repeat refine And.intro (by omega) ?_
  intro g
  simp only [List.map_cons, List.map_nil, updL, upd, Nat.reduceEqDiff, if_true, if_false, ↓reduceIte]
  refine hK _ _ ?_; clear hK K
  refine Cd.rs [0, 1, 16] fun K hK => ?_
  simp (maxSteps := 2000000) (disch := first | (simp only [E4] <;> omega) | omega | fail) only [↓E2, E3, bare, bareJ, ↓E0, E1, evP, evPlan, env0, envN, evOps, evOp, evQs, evQ, evV, setD, pureOp, ev, upd, updL, gate, binW, eqOp, binV, intOp, shOp, boolOp, unV, convV, nilV, fieldAddrV, indexAddrV, extractV, cellAt, cellsAt, findB, setB, fillL, buildV, Value.cells, lenV, minV, maxV, hav, sliceV, loV, hiV, bslQ, mksQ, appQ, partsOk, partsCells, delB, eqL, SameI, strOp, apzQ, cvtQ, capV, ↓reduceIte, Zj, Zk, Nat.reduceAdd, Nat.reduceLT, Nat.reduceEqDiff, Nat.reduceMul, Nat.reduceLeDiff, if_true, Zn, reduceCtorEq, ZA, eq_self, Int.reduceLE, Int.reduceLT, Int.reduceToNat, ne_eq, Nat.reduceSub]
  repeat refine And.intro (by omega) ?_
  repeat refine And.intro (by omega) ?_
  intro g
  simp only [List.map_cons, List.map_nil, updL, upd, Nat.reduceEqDiff, if_true, if_false, ↓reduceIte]
  refine hK _ _ ?_; clear hK K
  refine Cd.condd rfl (fun h2 => ?_) (fun h2 => ?_)
  · refine Cd.rr [0] fun K hK => ?_
    simp (maxSteps := 2000000) (disch := first | (simp only [E4] <;> omega) | omega | fail) only [↓E2, E3, bare, bareJ, ↓E0, E1, evP, evPlan, env0, envN, evOps, evOp, evQs, evQ, evV, setD, pureOp, ev, upd, updL, gate, binW, eqOp, binV, intOp, shOp, boolOp, unV, convV, nilV, fieldAddrV, indexAddrV, extractV, cellAt, cellsAt, findB, setB, fillL, buildV, Value.cells, lenV, minV, maxV, hav, sliceV, loV, hiV, bslQ, mksQ, appQ, partsOk, partsCells, delB, eqL, SameI, strOp, apzQ, cvtQ, capV, ↓reduceIte, Zj, Zk, Nat.reduceAdd, Nat.reduceLT, Nat.reduceEqDiff, Nat.reduceMul, Nat.reduceLeDiff, if_true, Zn, reduceCtorEq, ZA, eq_self, Int.reduceLE, Int.reduceLT, Int.reduceToNat, ne_eq, Nat.reduceSub, Tby2, Tint3, Tslc47, Tslce47, Tzero2]
    repeat refine And.intro (by omega) ?_
    intro b' cap' rest' hf hc hr'
    repeat refine And.intro (by omega) ?_
    intro g
    simp only [List.map_cons, List.map_nil, updL, upd, Nat.reduceEqDiff, if_true, if_false, ↓reduceIte]
    refine hK _ _ ?_; clear hK K
    refine thenN ?_
    refine Cd.rs [4] fun K hK => ?_
    simp (maxSteps := 2000000) (disch := first | (simp only [E4] <;> omega) | omega | fail) only [↓E2, E3, bare, bareJ, ↓E0, E1, evP, evPlan, env0, envN, evOps, evOp, evQs, evQ, evV, setD, pureOp, ev, upd, updL, gate, binW, eqOp, binV, intOp, shOp, boolOp, unV, convV, nilV, fieldAddrV, indexAddrV, extractV, cellAt, cellsAt, findB, setB, fillL, buildV, Value.cells, lenV, minV, maxV, hav, sliceV, loV, hiV, bslQ, mksQ, appQ, partsOk, partsCells, delB, eqL, SameI, strOp, apzQ, cvtQ, capV, ↓reduceIte, Zj, Zk, Nat.reduceAdd, Nat.reduceLT, Nat.reduceEqDiff, Nat.reduceMul, Nat.reduceLeDiff, if_true, Zn, reduceCtorEq, ZA, eq_self, Int.reduceLE, Int.reduceLT, Int.reduceToNat, ne_eq, Nat.reduceSub]
    repeat refine And.intro (by omega) ?_
    repeat refine And.intro (by omega) ?_
    intro g
    simp only [List.map_cons, List.map_nil, updL, upd, Nat.reduceEqDiff, if_true, if_false, ↓reduceIte]
    refine hK _ _ ?_; clear hK K
    refine Cd.ret ?_
    simp (maxSteps := 2000000) (disch := first | (simp only [E4] <;> omega) | omega | fail) only [↓E2, E3, bare, bareJ, ↓E0, E1, evP, evPlan, env0, envN, evOps, evOp, evQs, evQ, evV, setD, pureOp, ev, upd, updL, gate, binW, eqOp, binV, intOp, shOp, boolOp, unV, convV, nilV, fieldAddrV, indexAddrV, extractV, cellAt, cellsAt, findB, setB, fillL, buildV, Value.cells, lenV, minV, maxV, hav, sliceV, loV, hiV, bslQ, mksQ, appQ, partsOk, partsCells, delB, eqL, SameI, strOp, apzQ, cvtQ, capV, ↓reduceIte, Zj, Zk, Nat.reduceAdd, Nat.reduceLT, Nat.reduceEqDiff, Nat.reduceMul, Nat.reduceLeDiff, if_true, Zn, reduceCtorEq, ZA, eq_self, Int.reduceLE, Int.reduceLT, Int.reduceToNat, ne_eq, Nat.reduceSub]
    repeat refine And.intro (by omega) ?_
    have e0 : ((n : Int) - (0 - 0)).toNat = n := by omega
    rw [e0] at hr' hc ⊢
    refine .inr ⟨b', cap', _, by split <;> rfl, rfl, rfl, Nat.zero_le _, ?_, _, rfl⟩
    simp only [List.length_append, List.length_replicate, Nat.mul_one] at hr' ⊢
    omega
  · refine Cd.skip ?_
    refine thenN ?_
    refine Cd.rs [4] fun K hK => ?_
    simp (maxSteps := 2000000) (disch := first | (simp only [E4] <;> omega) | omega | fail) only [↓E2, E3, bare, bareJ, ↓E0, E1, evP, evPlan, env0, envN, evOps, evOp, evQs, evQ, evV, setD, pureOp, ev, upd, updL, gate, binW, eqOp, binV, intOp, shOp, boolOp, unV, convV, nilV, fieldAddrV, indexAddrV, extractV, cellAt, cellsAt, findB, setB, fillL, buildV, Value.cells, lenV, minV, maxV, hav, sliceV, loV, hiV, bslQ, mksQ, appQ, partsOk, partsCells, delB, eqL, SameI, strOp, apzQ, cvtQ, capV, ↓reduceIte, Zj, Zk, Nat.reduceAdd, Nat.reduceLT, Nat.reduceEqDiff, Nat.reduceMul, Nat.reduceLeDiff, if_true, Zn, reduceCtorEq, ZA, eq_self, Int.reduceLE, Int.reduceLT, Int.reduceToNat, ne_eq, Nat.reduceSub]
    repeat refine And.intro (by omega) ?_
    repeat refine And.intro (by omega) ?_
    intro g
    simp only [List.map_cons, List.map_nil, updL, upd, Nat.reduceEqDiff, if_true, if_false, ↓reduceIte]
    refine hK _ _ ?_; clear hK K
    refine Cd.ret ?_
    simp (maxSteps := 2000000) (disch := first | (simp only [E4] <;> omega) | omega | fail) only [↓E2, E3, bare, bareJ, ↓E0, E1, evP, evPlan, env0, envN, evOps, evOp, evQs, evQ, evV, setD, pureOp, ev, upd, updL, gate, binW, eqOp, binV, intOp, shOp, boolOp, unV, convV, nilV, fieldAddrV, indexAddrV, extractV, cellAt, cellsAt, findB, setB, fillL, buildV, Value.cells, lenV, minV, maxV, hav, sliceV, loV, hiV, bslQ, mksQ, appQ, partsOk, partsCells, delB, eqL, SameI, strOp, apzQ, cvtQ, capV, ↓reduceIte, Zj, Zk, Nat.reduceAdd, Nat.reduceLT, Nat.reduceEqDiff, Nat.reduceMul, Nat.reduceLeDiff, if_true, Zn, reduceCtorEq, ZA, eq_self, Int.reduceLE, Int.reduceLT, Int.reduceToNat, ne_eq, Nat.reduceSub]
    repeat refine And.intro (by omega) ?_
    exact .inl ⟨by omega, rfl, rfl⟩

def accs (l1 l2 : List Int) (k : Nat) : List Int := if k = 0 then [] else if k = 1 then l1 else l1 ++ l2
section
variable (l1 l2 : List Int) (R : Rd) (v s1 s2 : Value) (hv : RdS R 1 [s1, s2] v) (h1 : RdS R 1 (ints .i64 l1) s1) (h2 : RdS R 1 (ints .i64 l2) s2) (n1 : l1.length ≤ 10000000) (n2 : l2.length ≤ 10000000)
include hv h1 h2 n1 n2
end

end Go.Proofs

/-
  What the functions of this part hand back: each as a plain function of its arguments. Conditions: none.
-/
namespace Go.Proofs
open Go.W8
set_option linter.unusedVariables false
set_option linter.unusedSimpArgs false
set_option linter.unusedSectionVars false
set_option maxRecDepth 8000
set_option maxHeartbeats 4000000
def acc3 (l1 l2 l3 : List Int) (k : Nat) : List Int := if k = 0 then [] else if k = 1 then l1 else if k = 2 then l1 ++ l2 else l1 ++ (l2 ++ l3)
section
variable (l1 l2 l3 : List Int) (R : Rd) (v s1 s2 s3 : Value) (hv : RdS R 1 [s1, s2, s3] v) (h1 : RdS R 1 (ints .i64 l1) s1) (h2 : RdS R 1 (ints .i64 l2) s2) (h3 : RdS R 1 (ints .i64 l3) s3) (n1 : l1.length ≤ 10000000) (n2 : l2.length ≤ 10000000) (n3 : l3.length ≤ 10000000)
include hv h1 h2 h3 n1 n2 n3
theorem Concat3_c : GivesX Try.prog 184 #[v] [] R (SlN 1 (ints .i64 (l1 ++ (l2 ++ l3)))) := by
  obtain ⟨a, m, cap, rfl, hm, hh⟩ := id hv
  obtain rfl : m = 3 := by simpa using hm.symm
  obtain ⟨a1, m1, cap1, rfl, hm1, hh1⟩ := id h1
  obtain rfl := lauLen hm1
  obtain ⟨a2, m2, cap2, rfl, hm2, hh2⟩ := id h2
  obtain rfl := lauLen hm2
  obtain ⟨a3, m3, cap3, rfl, hm3, hh3⟩ := id h3
  obtain rfl := lauLen hm3
  refine GivesX.part ?_
  refine GivesX.of (callable_of Try.func184 rfl (by decide)) ?_ fun w hnd hlt hR => ?_
  · simp
  refine acall_of (N := 36) (c := _) (rs := [.tmp 2]) (args := [_]) Try.func184 rfl (by decide) rfl rfl (Nat.le_of_ble_eq_true rfl) ?_
  have hR : W8.Told [] w R := hR
  obtain ⟨b0, rfl, g0⟩ := hv.get hR (j := 0) rfl
  obtain ⟨_, e, g1⟩ := hv.get hR (j := 1) rfl
  cases e
  obtain ⟨_, e, g2⟩ := hv.get hR (j := 2) rfl
  cases e
  refine Cd.rs [0] fun K hK => ?_
  simp (maxSteps := 2000000) (disch := first | (simp only [E4] <;> omega) | omega | fail) only [↓E2, E3, bare, bareJ, ↓E0, E1, evP, evPlan, env0, envN, evOps, evOp, evQs, evQ, evV, setD, pureOp, ev, upd, updL, gate, binW, eqOp, binV, intOp, shOp, boolOp, unV, convV, nilV, fieldAddrV, indexAddrV, extractV, cellAt, cellsAt, findB, setB, fillL, buildV, Value.cells, lenV, minV, maxV, hav, sliceV, loV, hiV, bslQ, mksQ, appQ, partsOk, partsCells, delB, eqL, SameI, strOp, apzQ, cvtQ, capV, ↓reduceIte, Zj, Zk, Nat.reduceAdd, Nat.reduceLT, Nat.reduceEqDiff, Nat.reduceMul, Nat.reduceLeDiff, if_true, Zn, reduceCtorEq, ZA, eq_self, Int.reduceLE, Int.reduceLT, Int.reduceToNat, ne_eq, Nat.reduceSub]
  repeat refine And.intro (by omega) ?_
  repeat refine And.intro (by omega) ?_
  intro g
  simp only [List.map_cons, List.map_nil, updL, upd, Nat.reduceEqDiff, if_true, if_false, ↓reduceIte]
  refine hK _ _ ?_; clear hK K
  refine Cd.rs [0, 3] fun K hK => ?_
  simp (maxSteps := 2000000) (disch := first | (simp only [E4] <;> omega) | omega | fail) only [↓E2, E3, bare, bareJ, ↓E0, E1, evP, evPlan, env0, envN, evOps, evOp, evQs, evQ, evV, setD, pureOp, ev, upd, updL, gate, binW, eqOp, binV, intOp, shOp, boolOp, unV, convV, nilV, fieldAddrV, indexAddrV, extractV, cellAt, cellsAt, findB, setB, fillL, buildV, Value.cells, lenV, minV, maxV, hav, sliceV, loV, hiV, bslQ, mksQ, appQ, partsOk, partsCells, delB, eqL, SameI, strOp, apzQ, cvtQ, capV, ↓reduceIte, Zj, Zk, Nat.reduceAdd, Nat.reduceLT, Nat.reduceEqDiff, Nat.reduceMul, Nat.reduceLeDiff, if_true, Zn, reduceCtorEq, ZA, eq_self, Int.reduceLE, Int.reduceLT, Int.reduceToNat, ne_eq, Nat.reduceSub]
  repeat refine And.intro (by omega) ?_
  repeat refine And.intro (by omega) ?_
  intro g
  simp only [List.map_cons, List.map_nil, updL, upd, Nat.reduceEqDiff, if_true, if_false, ↓reduceIte]
  refine hK _ _ ?_; clear hK K
  refine Cd.seq ?_
  refine Cd.rs [0, 3, 9, 10, 11] fun K hK => ?_
  simp (maxSteps := 2000000) (disch := first | (simp only [E4] <;> omega) | omega | fail) only [↓E2, E3, bare, bareJ, ↓E0, E1, evP, evPlan, env0, envN, evOps, evOp, evQs, evQ, evV, setD, pureOp, ev, upd, updL, gate, binW, eqOp, binV, intOp, shOp, boolOp, unV, convV, nilV, fieldAddrV, indexAddrV, extractV, cellAt, cellsAt, findB, setB, fillL, buildV, Value.cells, lenV, minV, maxV, hav, sliceV, loV, hiV, bslQ, mksQ, appQ, partsOk, partsCells, delB, eqL, SameI, strOp, apzQ, cvtQ, capV, ↓reduceIte, Zj, Zk, Nat.reduceAdd, Nat.reduceLT, Nat.reduceEqDiff, Nat.reduceMul, Nat.reduceLeDiff, if_true, Zn, reduceCtorEq, ZA, eq_self, Int.reduceLE, Int.reduceLT, Int.reduceToNat, ne_eq, Nat.reduceSub, Tslce43]
  repeat refine And.intro (by omega) ?_
  repeat refine And.intro (by omega) ?_
  intro g
  simp only [List.map_cons, List.map_nil, updL, upd, Nat.reduceEqDiff, if_true, if_false, ↓reduceIte]
  refine hK _ _ ?_; clear hK K
  refine Cd.block ?_
  refine Cd.loop (fun n ρ M => ∃ g k sz, k + n = 3 ∧ sz = (acc3 l1 l2 l3 k).length ∧ ρ = updL [(0, .slice (some ⟨b0, 0, none⟩) 3 cap), (3, .int .i64 (sz : Int)), (9, .slice (some ⟨b0, 0, none⟩) 3 cap), (10, .int .i64 3), (11, .int .i64 (k : Int))] g ∧ M = []) 3 ⟨_, 0, 0, rfl, rfl, rfl, rfl⟩ ?_
  rintro n ρ M ⟨g, k, sz, hk, hsz, rfl, rfl⟩
  refine Cd.rs [0, 3, 9, 10, 11, 12] fun K hK => ?_
  simp (maxSteps := 2000000) (disch := first | (simp only [E4] <;> omega) | omega | fail) only [↓E2, E3, bare, bareJ, ↓E0, E1, evP, evPlan, env0, envN, evOps, evOp, evQs, evQ, evV, setD, pureOp, ev, upd, updL, gate, binW, eqOp, binV, intOp, shOp, boolOp, unV, convV, nilV, fieldAddrV, indexAddrV, extractV, cellAt, cellsAt, findB, setB, fillL, buildV, Value.cells, lenV, minV, maxV, hav, sliceV, loV, hiV, bslQ, mksQ, appQ, partsOk, partsCells, delB, eqL, SameI, strOp, apzQ, cvtQ, capV, ↓reduceIte, Zj, Zk, Nat.reduceAdd, Nat.reduceLT, Nat.reduceEqDiff, Nat.reduceMul, Nat.reduceLeDiff, if_true, Zn, reduceCtorEq, ZA, eq_self, Int.reduceLE, Int.reduceLT, Int.reduceToNat, ne_eq, Nat.reduceSub]
  repeat refine And.intro (by omega) ?_
  repeat refine And.intro (by omega) ?_
  intro g
  simp only [List.map_cons, List.map_nil, updL, upd, Nat.reduceEqDiff, if_true, if_false, ↓reduceIte]
  refine hK _ _ ?_; clear hK K
  refine Cd.seq ?_
  refine Cd.condd rfl (fun c1 => ?_) (fun c1 => ?_)
  · obtain ⟨ae, le, ce, hget, hle, hn⟩ : ∃ (ae : Option Addr) (le ce : Nat), frn [] w b0 k = some (.slice ae le ce) ∧ le ≤ 10000000 ∧ (acc3 l1 l2 l3 (k + 1)).length = (acc3 l1 l2 l3 k).length + le := by
      rcases (show k = 0 ∨ k = 1 ∨ k = 2 by omega) with rfl | rfl | rfl
      · exact ⟨_, _, _, g0, n1, by simp [acc3]⟩
      · exact ⟨_, _, _, g1, n2, by simp [acc3]⟩
      · exact ⟨_, _, _, g2, n3, by simp [acc3] <;> omega⟩
    have hsz2 : sz ≤ 30000000 := by
      rw [hsz]
      rcases (show k = 0 ∨ k = 1 ∨ k = 2 by omega) with rfl | rfl | rfl
      · simp [acc3]
      · simp [acc3]; omega
      · simp [acc3]; omega
    skip
    refine Cd.skip ?_
    refine thenN ?_
    refine Cd.seq ?_
    refine Cd.block ?_
    refine Cd.rs [0, 3, 5, 9, 10, 11] fun K hK => ?_
    simp (maxSteps := 2000000) (disch := first | (simp only [E4, hget] <;> omega) | omega | fail) only [↓E2, E3, bare, bareJ, ↓E0, E1, evP, evPlan, env0, envN, evOps, evOp, evQs, evQ, evV, setD, pureOp, ev, upd, updL, gate, binW, eqOp, binV, intOp, shOp, boolOp, unV, convV, nilV, fieldAddrV, indexAddrV, extractV, cellAt, cellsAt, findB, setB, fillL, buildV, Value.cells, lenV, minV, maxV, hav, sliceV, loV, hiV, bslQ, mksQ, appQ, partsOk, partsCells, delB, eqL, SameI, strOp, apzQ, cvtQ, capV, ↓reduceIte, Zj, Zk, Nat.reduceAdd, Nat.reduceLT, Nat.reduceEqDiff, Nat.reduceMul, Nat.reduceLeDiff, if_true, Zn, reduceCtorEq, ZA, eq_self, Int.reduceLE, Int.reduceLT, Int.reduceToNat, ne_eq, Nat.reduceSub, Tld47, Tslc43, hget]
    repeat refine And.intro (by omega) ?_
    repeat refine And.intro (by omega) ?_
    intro g
    simp only [List.map_cons, List.map_nil, updL, upd, Nat.reduceEqDiff, if_true, if_false, ↓reduceIte]
    refine hK _ _ ?_; clear hK K
    refine Cd.rs [0, 3, 9, 10, 11] fun K hK => ?_
    simp (maxSteps := 2000000) (disch := first | (simp only [E4, hget] <;> omega) | omega | fail) only [↓E2, E3, bare, bareJ, ↓E0, E1, evP, evPlan, env0, envN, evOps, evOp, evQs, evQ, evV, setD, pureOp, ev, upd, updL, gate, binW, eqOp, binV, intOp, shOp, boolOp, unV, convV, nilV, fieldAddrV, indexAddrV, extractV, cellAt, cellsAt, findB, setB, fillL, buildV, Value.cells, lenV, minV, maxV, hav, sliceV, loV, hiV, bslQ, mksQ, appQ, partsOk, partsCells, delB, eqL, SameI, strOp, apzQ, cvtQ, capV, ↓reduceIte, Zj, Zk, Nat.reduceAdd, Nat.reduceLT, Nat.reduceEqDiff, Nat.reduceMul, Nat.reduceLeDiff, if_true, Zn, reduceCtorEq, ZA, eq_self, Int.reduceLE, Int.reduceLT, Int.reduceToNat, ne_eq, Nat.reduceSub, Tslce47, hget]
    repeat refine And.intro (by omega) ?_
    repeat refine And.intro (by omega) ?_
    intro g
    simp only [List.map_cons, List.map_nil, updL, upd, Nat.reduceEqDiff, if_true, if_false, ↓reduceIte]
    refine hK _ _ ?_; clear hK K
    refine Cd.rs [0, 3, 9, 10, 11, 20] fun K hK => ?_
    simp (maxSteps := 2000000) (disch := first | (simp only [E4, hget] <;> omega) | omega | fail) only [↓E2, E3, bare, bareJ, ↓E0, E1, evP, evPlan, env0, envN, evOps, evOp, evQs, evQ, evV, setD, pureOp, ev, upd, updL, gate, binW, eqOp, binV, intOp, shOp, boolOp, unV, convV, nilV, fieldAddrV, indexAddrV, extractV, cellAt, cellsAt, findB, setB, fillL, buildV, Value.cells, lenV, minV, maxV, hav, sliceV, loV, hiV, bslQ, mksQ, appQ, partsOk, partsCells, delB, eqL, SameI, strOp, apzQ, cvtQ, capV, ↓reduceIte, Zj, Zk, Nat.reduceAdd, Nat.reduceLT, Nat.reduceEqDiff, Nat.reduceMul, Nat.reduceLeDiff, if_true, Zn, reduceCtorEq, ZA, eq_self, Int.reduceLE, Int.reduceLT, Int.reduceToNat, ne_eq, Nat.reduceSub, hget]
    repeat refine And.intro (by omega) ?_
    repeat refine And.intro (by omega) ?_
    intro g
    simp only [List.map_cons, List.map_nil, updL, upd, Nat.reduceEqDiff, if_true, if_false, ↓reduceIte]
    refine hK _ _ ?_; clear hK K
    refine Cd.condd rfl (fun c2 => absurd c2 (by omega)) (fun c2 => ?_)
    refine Cd.skip ?_
    refine inBN ?_
    refine thenN ?_
    refine Cd.rr [0, 3, 9, 10, 11] fun K hK => ?_
    simp (maxSteps := 2000000) (disch := first | (simp only [E4, hget] <;> omega) | omega | fail) only [↓E2, E3, bare, bareJ, ↓E0, E1, evP, evPlan, env0, envN, evOps, evOp, evQs, evQ, evV, setD, pureOp, ev, upd, updL, gate, binW, eqOp, binV, intOp, shOp, boolOp, unV, convV, nilV, fieldAddrV, indexAddrV, extractV, cellAt, cellsAt, findB, setB, fillL, buildV, Value.cells, lenV, minV, maxV, hav, sliceV, loV, hiV, bslQ, mksQ, appQ, partsOk, partsCells, delB, eqL, SameI, strOp, apzQ, cvtQ, capV, ↓reduceIte, Zj, Zk, Nat.reduceAdd, Nat.reduceLT, Nat.reduceEqDiff, Nat.reduceMul, Nat.reduceLeDiff, if_true, Zn, reduceCtorEq, ZA, eq_self, Int.reduceLE, Int.reduceLT, Int.reduceToNat, ne_eq, Nat.reduceSub, hget]
    repeat refine And.intro (by omega) ?_
    repeat refine And.intro (by omega) ?_
    intro g
    simp only [List.map_cons, List.map_nil, updL, upd, Nat.reduceEqDiff, if_true, if_false, ↓reduceIte]
    refine hK _ _ ?_; clear hK K
    exact roundN (m := n - 1) (by omega) ⟨_, k + 1, sz + le, by omega, by rw [hn, hsz], rfl, rfl⟩
  · obtain rfl : k = 3 := by omega
    have hs2 : sz = l1.length + (l2.length + l3.length) := by rw [hsz]; simp [acc3]
    subst hs2
    clear hsz
    refine Cd.exit (thenX (roundX (inBX ?_)))
    refine thenN ?_
    refine Cd.rs [0, 6] fun K hK => ?_
    simp (maxSteps := 2000000) (disch := first | (simp only [E4] <;> omega) | omega | fail) only [↓E2, E3, bare, bareJ, ↓E0, E1, evP, evPlan, env0, envN, evOps, evOp, evQs, evQ, evV, setD, pureOp, ev, upd, updL, gate, binW, eqOp, binV, intOp, shOp, boolOp, unV, convV, nilV, fieldAddrV, indexAddrV, extractV, cellAt, cellsAt, findB, setB, fillL, buildV, Value.cells, lenV, minV, maxV, hav, sliceV, loV, hiV, bslQ, mksQ, appQ, partsOk, partsCells, delB, eqL, SameI, strOp, apzQ, cvtQ, capV, ↓reduceIte, Zj, Zk, Nat.reduceAdd, Nat.reduceLT, Nat.reduceEqDiff, Nat.reduceMul, Nat.reduceLeDiff, if_true, Zn, reduceCtorEq, ZA, eq_self, Int.reduceLE, Int.reduceLT, Int.reduceToNat, ne_eq, Nat.reduceSub]
    repeat refine And.intro (by omega) ?_
    refine callK_newR0 (Grow_c (l1.length + (l2.length + l3.length)) (by omega)) (fun w _ => toldW_nil) ?_
    intro vg M hvg nd _
    simp only [List.nil_append] at nd ⊢
    rcases hvg with ⟨hz, rfl, rfl⟩ | ⟨bg, capg, csg, rfl, rfl, hrow⟩
    · have e1 := List.eq_nil_of_length_eq_zero (show l1.length = 0 by omega)
      have e2 := List.eq_nil_of_length_eq_zero (show l2.length = 0 by omega)
      have e3 := List.eq_nil_of_length_eq_zero (show l3.length = 0 by omega)
      subst e1 e2 e3
      simp (maxSteps := 2000000) (disch := first | (simp only [E4] <;> omega) | omega | fail) only [↓E2, E3, bare, bareJ, ↓E0, E1, evP, evPlan, env0, envN, evOps, evOp, evQs, evQ, evV, setD, pureOp, ev, upd, updL, gate, binW, eqOp, binV, intOp, shOp, boolOp, unV, convV, nilV, fieldAddrV, indexAddrV, extractV, cellAt, cellsAt, findB, setB, fillL, buildV, Value.cells, lenV, minV, maxV, hav, sliceV, loV, hiV, bslQ, mksQ, appQ, partsOk, partsCells, delB, eqL, SameI, strOp, apzQ, cvtQ, capV, ↓reduceIte, Zj, Zk, Nat.reduceAdd, Nat.reduceLT, Nat.reduceEqDiff, Nat.reduceMul, Nat.reduceLeDiff, if_true, Zn, reduceCtorEq, ZA, eq_self, Int.reduceLE, Int.reduceLT, Int.reduceToNat, ne_eq, Nat.reduceSub]
      repeat refine And.intro (by omega) ?_
      repeat refine And.intro (by omega) ?_
      intro g
      simp only [List.map_cons, List.map_nil, updL, upd, Nat.reduceEqDiff, if_true, if_false, ↓reduceIte]
      refine hK _ _ ?_; clear hK K
      refine Cd.seq ?_
      refine Cd.rs [6, 25, 26, 27] fun K hK => ?_
      simp (maxSteps := 2000000) (disch := first | (simp only [E4] <;> omega) | omega | fail) only [↓E2, E3, bare, bareJ, ↓E0, E1, evP, evPlan, env0, envN, evOps, evOp, evQs, evQ, evV, setD, pureOp, ev, upd, updL, gate, binW, eqOp, binV, intOp, shOp, boolOp, unV, convV, nilV, fieldAddrV, indexAddrV, extractV, cellAt, cellsAt, findB, setB, fillL, buildV, Value.cells, lenV, minV, maxV, hav, sliceV, loV, hiV, bslQ, mksQ, appQ, partsOk, partsCells, delB, eqL, SameI, strOp, apzQ, cvtQ, capV, ↓reduceIte, Zj, Zk, Nat.reduceAdd, Nat.reduceLT, Nat.reduceEqDiff, Nat.reduceMul, Nat.reduceLeDiff, if_true, Zn, reduceCtorEq, ZA, eq_self, Int.reduceLE, Int.reduceLT, Int.reduceToNat, ne_eq, Nat.reduceSub, Tslce43]
      repeat refine And.intro (by omega) ?_
      repeat refine And.intro (by omega) ?_
      intro g
      simp only [List.map_cons, List.map_nil, updL, upd, Nat.reduceEqDiff, if_true, if_false, ↓reduceIte]
      refine hK _ _ ?_; clear hK K
      refine Cd.block ?_
      refine Cd.loop (fun n ρ M => ∃ g k, k + n = 3 ∧ ρ = updL [(6, .slice none 0 0), (25, .slice (some ⟨b0, 0, none⟩) 3 cap), (26, .int .i64 3), (27, .int .i64 (k : Int))] g ∧ M = []) 3 ⟨_, 0, rfl, rfl, rfl⟩ ?_
      rintro n ρ M ⟨g, k, hk, rfl, rfl⟩
      refine Cd.rs [6, 25, 26, 27, 28] fun K hK => ?_
      simp (maxSteps := 2000000) (disch := first | (simp only [E4] <;> omega) | omega | fail) only [↓E2, E3, bare, bareJ, ↓E0, E1, evP, evPlan, env0, envN, evOps, evOp, evQs, evQ, evV, setD, pureOp, ev, upd, updL, gate, binW, eqOp, binV, intOp, shOp, boolOp, unV, convV, nilV, fieldAddrV, indexAddrV, extractV, cellAt, cellsAt, findB, setB, fillL, buildV, Value.cells, lenV, minV, maxV, hav, sliceV, loV, hiV, bslQ, mksQ, appQ, partsOk, partsCells, delB, eqL, SameI, strOp, apzQ, cvtQ, capV, ↓reduceIte, Zj, Zk, Nat.reduceAdd, Nat.reduceLT, Nat.reduceEqDiff, Nat.reduceMul, Nat.reduceLeDiff, if_true, Zn, reduceCtorEq, ZA, eq_self, Int.reduceLE, Int.reduceLT, Int.reduceToNat, ne_eq, Nat.reduceSub]
      repeat refine And.intro (by omega) ?_
      repeat refine And.intro (by omega) ?_
      intro g
      simp only [List.map_cons, List.map_nil, updL, upd, Nat.reduceEqDiff, if_true, if_false, ↓reduceIte]
      refine hK _ _ ?_; clear hK K
      refine Cd.seq ?_
      refine Cd.condd rfl (fun c3 => ?_) (fun c3 => ?_)
      · obtain ⟨ae, ce, hget, hoff⟩ : ∃ (ae : Option Addr) (ce : Nat), frn [] w b0 k = some (.slice ae 0 ce) ∧ ∀ a', ae = some a' → ∃ b, a' = ⟨b, 0, none⟩ := by
          rcases (show k = 0 ∨ k = 1 ∨ k = 2 by omega) with rfl | rfl | rfl
          · exact ⟨_, _, g0, hh1.2.1⟩
          · exact ⟨_, _, g1, hh2.2.1⟩
          · exact ⟨_, _, g2, hh3.2.1⟩
        have mz : ∀ f : Nat → Option Value, (List.range 0).mapM f = some [] := fun _ => rfl
        refine Cd.skip ?_
        refine thenN ?_
        refine Cd.seq ?_
        refine Cd.block ?_
        skip
        refine Cd.rs [6, 8, 25, 26, 27] fun K hK => ?_
        simp (maxSteps := 2000000) (disch := first | (simp only [E4, hget, mz] <;> omega) | omega | fail) only [↓E2, E3, bare, bareJ, ↓E0, E1, evP, evPlan, env0, envN, evOps, evOp, evQs, evQ, evV, setD, pureOp, ev, upd, updL, gate, binW, eqOp, binV, intOp, shOp, boolOp, unV, convV, nilV, fieldAddrV, indexAddrV, extractV, cellAt, cellsAt, findB, setB, fillL, buildV, Value.cells, lenV, minV, maxV, hav, sliceV, loV, hiV, bslQ, mksQ, appQ, partsOk, partsCells, delB, eqL, SameI, strOp, apzQ, cvtQ, capV, ↓reduceIte, Zj, Zk, Nat.reduceAdd, Nat.reduceLT, Nat.reduceEqDiff, Nat.reduceMul, Nat.reduceLeDiff, if_true, Zn, reduceCtorEq, ZA, eq_self, Int.reduceLE, Int.reduceLT, Int.reduceToNat, ne_eq, Nat.reduceSub, Tld47, Tslc43, hget, mz]
        repeat refine And.intro (by omega) ?_
        repeat refine And.intro (by omega) ?_
        intro g
        simp only [List.map_cons, List.map_nil, updL, upd, Nat.reduceEqDiff, if_true, if_false, ↓reduceIte]
        refine hK _ _ ?_; clear hK K
        cases ae with
        | none =>
          refine Cd.rr [6, 25, 26, 27] fun K hK => ?_
          simp (maxSteps := 2000000) (disch := first | (simp only [E4, hget, mz] <;> omega) | omega | fail) only [↓E2, E3, bare, bareJ, ↓E0, E1, evP, evPlan, env0, envN, evOps, evOp, evQs, evQ, evV, setD, pureOp, ev, upd, updL, gate, binW, eqOp, binV, intOp, shOp, boolOp, unV, convV, nilV, fieldAddrV, indexAddrV, extractV, cellAt, cellsAt, findB, setB, fillL, buildV, Value.cells, lenV, minV, maxV, hav, sliceV, loV, hiV, bslQ, mksQ, appQ, partsOk, partsCells, delB, eqL, SameI, strOp, apzQ, cvtQ, capV, ↓reduceIte, Zj, Zk, Nat.reduceAdd, Nat.reduceLT, Nat.reduceEqDiff, Nat.reduceMul, Nat.reduceLeDiff, if_true, Zn, reduceCtorEq, ZA, eq_self, Int.reduceLE, Int.reduceLT, Int.reduceToNat, ne_eq, Nat.reduceSub, Tby2, Tslc47, Tslce47, Tzero2, hget, mz]
          repeat refine And.intro (by omega) ?_
          repeat refine And.intro (by omega) ?_
          intro g
          simp only [List.map_cons, List.map_nil, updL, upd, Nat.reduceEqDiff, if_true, if_false, ↓reduceIte]
          refine hK _ _ ?_; clear hK K
          refine inBN ?_
          refine thenN ?_
          refine Cd.rr [6, 25, 26, 27] fun K hK => ?_
          simp (maxSteps := 2000000) (disch := first | (simp only [E4, hget, mz] <;> omega) | omega | fail) only [↓E2, E3, bare, bareJ, ↓E0, E1, evP, evPlan, env0, envN, evOps, evOp, evQs, evQ, evV, setD, pureOp, ev, upd, updL, gate, binW, eqOp, binV, intOp, shOp, boolOp, unV, convV, nilV, fieldAddrV, indexAddrV, extractV, cellAt, cellsAt, findB, setB, fillL, buildV, Value.cells, lenV, minV, maxV, hav, sliceV, loV, hiV, bslQ, mksQ, appQ, partsOk, partsCells, delB, eqL, SameI, strOp, apzQ, cvtQ, capV, ↓reduceIte, Zj, Zk, Nat.reduceAdd, Nat.reduceLT, Nat.reduceEqDiff, Nat.reduceMul, Nat.reduceLeDiff, if_true, Zn, reduceCtorEq, ZA, eq_self, Int.reduceLE, Int.reduceLT, Int.reduceToNat, ne_eq, Nat.reduceSub, hget, mz]
          repeat refine And.intro (by omega) ?_
          repeat refine And.intro (by omega) ?_
          intro g
          simp only [List.map_cons, List.map_nil, updL, upd, Nat.reduceEqDiff, if_true, if_false, ↓reduceIte]
          refine hK _ _ ?_; clear hK K
          exact roundN (m := n - 1) (by omega) ⟨_, k + 1, by omega, rfl, rfl⟩
        | some ad =>
          obtain ⟨be, rfl⟩ := hoff ad rfl
          refine Cd.rr [6, 25, 26, 27] fun K hK => ?_
          simp (maxSteps := 2000000) (disch := first | (simp only [E4, hget, mz] <;> omega) | omega | fail) only [↓E2, E3, bare, bareJ, ↓E0, E1, evP, evPlan, env0, envN, evOps, evOp, evQs, evQ, evV, setD, pureOp, ev, upd, updL, gate, binW, eqOp, binV, intOp, shOp, boolOp, unV, convV, nilV, fieldAddrV, indexAddrV, extractV, cellAt, cellsAt, findB, setB, fillL, buildV, Value.cells, lenV, minV, maxV, hav, sliceV, loV, hiV, bslQ, mksQ, appQ, partsOk, partsCells, delB, eqL, SameI, strOp, apzQ, cvtQ, capV, ↓reduceIte, Zj, Zk, Nat.reduceAdd, Nat.reduceLT, Nat.reduceEqDiff, Nat.reduceMul, Nat.reduceLeDiff, if_true, Zn, reduceCtorEq, ZA, eq_self, Int.reduceLE, Int.reduceLT, Int.reduceToNat, ne_eq, Nat.reduceSub, Tby2, Tslc47, Tslce47, Tzero2, hget, mz]
          repeat refine And.intro (by omega) ?_
          repeat refine And.intro (by omega) ?_
          intro g
          simp only [List.map_cons, List.map_nil, updL, upd, Nat.reduceEqDiff, if_true, if_false, ↓reduceIte]
          refine hK _ _ ?_; clear hK K
          refine inBN ?_
          refine thenN ?_
          refine Cd.rr [6, 25, 26, 27] fun K hK => ?_
          simp (maxSteps := 2000000) (disch := first | (simp only [E4, hget, mz] <;> omega) | omega | fail) only [↓E2, E3, bare, bareJ, ↓E0, E1, evP, evPlan, env0, envN, evOps, evOp, evQs, evQ, evV, setD, pureOp, ev, upd, updL, gate, binW, eqOp, binV, intOp, shOp, boolOp, unV, convV, nilV, fieldAddrV, indexAddrV, extractV, cellAt, cellsAt, findB, setB, fillL, buildV, Value.cells, lenV, minV, maxV, hav, sliceV, loV, hiV, bslQ, mksQ, appQ, partsOk, partsCells, delB, eqL, SameI, strOp, apzQ, cvtQ, capV, ↓reduceIte, Zj, Zk, Nat.reduceAdd, Nat.reduceLT, Nat.reduceEqDiff, Nat.reduceMul, Nat.reduceLeDiff, if_true, Zn, reduceCtorEq, ZA, eq_self, Int.reduceLE, Int.reduceLT, Int.reduceToNat, ne_eq, Nat.reduceSub, hget, mz]
          repeat refine And.intro (by omega) ?_
          repeat refine And.intro (by omega) ?_
          intro g
          simp only [List.map_cons, List.map_nil, updL, upd, Nat.reduceEqDiff, if_true, if_false, ↓reduceIte]
          refine hK _ _ ?_; clear hK K
          exact roundN (m := n - 1) (by omega) ⟨_, k + 1, by omega, rfl, rfl⟩
      · refine Cd.exit (thenX (roundX (inBX ?_)))
        refine thenN ?_
        refine Cd.rs [2] fun K hK => ?_
        simp (maxSteps := 2000000) (disch := first | (simp only [E4] <;> omega) | omega | fail) only [↓E2, E3, bare, bareJ, ↓E0, E1, evP, evPlan, env0, envN, evOps, evOp, evQs, evQ, evV, setD, pureOp, ev, upd, updL, gate, binW, eqOp, binV, intOp, shOp, boolOp, unV, convV, nilV, fieldAddrV, indexAddrV, extractV, cellAt, cellsAt, findB, setB, fillL, buildV, Value.cells, lenV, minV, maxV, hav, sliceV, loV, hiV, bslQ, mksQ, appQ, partsOk, partsCells, delB, eqL, SameI, strOp, apzQ, cvtQ, capV, ↓reduceIte, Zj, Zk, Nat.reduceAdd, Nat.reduceLT, Nat.reduceEqDiff, Nat.reduceMul, Nat.reduceLeDiff, if_true, Zn, reduceCtorEq, ZA, eq_self, Int.reduceLE, Int.reduceLT, Int.reduceToNat, ne_eq, Nat.reduceSub]
        repeat refine And.intro (by omega) ?_
        repeat refine And.intro (by omega) ?_
        intro g
        simp only [List.map_cons, List.map_nil, updL, upd, Nat.reduceEqDiff, if_true, if_false, ↓reduceIte]
        refine hK _ _ ?_; clear hK K
        refine Cd.ret ?_
        simp (maxSteps := 2000000) (disch := first | (simp only [E4] <;> omega) | omega | fail) only [↓E2, E3, bare, bareJ, ↓E0, E1, evP, evPlan, env0, envN, evOps, evOp, evQs, evQ, evV, setD, pureOp, ev, upd, updL, gate, binW, eqOp, binV, intOp, shOp, boolOp, unV, convV, nilV, fieldAddrV, indexAddrV, extractV, cellAt, cellsAt, findB, setB, fillL, buildV, Value.cells, lenV, minV, maxV, hav, sliceV, loV, hiV, bslQ, mksQ, appQ, partsOk, partsCells, delB, eqL, SameI, strOp, apzQ, cvtQ, capV, ↓reduceIte, Zj, Zk, Nat.reduceAdd, Nat.reduceLT, Nat.reduceEqDiff, Nat.reduceMul, Nat.reduceLeDiff, if_true, Zn, reduceCtorEq, ZA, eq_self, Int.reduceLE, Int.reduceLT, Int.reduceToNat, ne_eq, Nat.reduceSub]
        repeat refine And.intro (by omega) ?_
        exact ⟨_, SubP.refl _, SlN.nil 1⟩
    · simp (maxSteps := 2000000) (disch := first | (simp only [E4] <;> omega) | omega | fail) only [↓E2, E3, bare, bareJ, ↓E0, E1, evP, evPlan, env0, envN, evOps, evOp, evQs, evQ, evV, setD, pureOp, ev, upd, updL, gate, binW, eqOp, binV, intOp, shOp, boolOp, unV, convV, nilV, fieldAddrV, indexAddrV, extractV, cellAt, cellsAt, findB, setB, fillL, buildV, Value.cells, lenV, minV, maxV, hav, sliceV, loV, hiV, bslQ, mksQ, appQ, partsOk, partsCells, delB, eqL, SameI, strOp, apzQ, cvtQ, capV, ↓reduceIte, Zj, Zk, Nat.reduceAdd, Nat.reduceLT, Nat.reduceEqDiff, Nat.reduceMul, Nat.reduceLeDiff, if_true, Zn, reduceCtorEq, ZA, eq_self, Int.reduceLE, Int.reduceLT, Int.reduceToNat, ne_eq, Nat.reduceSub]
      repeat refine And.intro (by omega) ?_
      repeat refine And.intro (by omega) ?_
      intro g
      simp only [List.map_cons, List.map_nil, updL, upd, Nat.reduceEqDiff, if_true, if_false, ↓reduceIte]
      refine hK _ _ ?_; clear hK K
      refine Cd.seq ?_
      refine Cd.rs [6, 25, 26, 27] fun K hK => ?_
      simp (maxSteps := 2000000) (disch := first | (simp only [E4] <;> omega) | omega | fail) only [↓E2, E3, bare, bareJ, ↓E0, E1, evP, evPlan, env0, envN, evOps, evOp, evQs, evQ, evV, setD, pureOp, ev, upd, updL, gate, binW, eqOp, binV, intOp, shOp, boolOp, unV, convV, nilV, fieldAddrV, indexAddrV, extractV, cellAt, cellsAt, findB, setB, fillL, buildV, Value.cells, lenV, minV, maxV, hav, sliceV, loV, hiV, bslQ, mksQ, appQ, partsOk, partsCells, delB, eqL, SameI, strOp, apzQ, cvtQ, capV, ↓reduceIte, Zj, Zk, Nat.reduceAdd, Nat.reduceLT, Nat.reduceEqDiff, Nat.reduceMul, Nat.reduceLeDiff, if_true, Zn, reduceCtorEq, ZA, eq_self, Int.reduceLE, Int.reduceLT, Int.reduceToNat, ne_eq, Nat.reduceSub, Tslce43]
      repeat refine And.intro (by omega) ?_
      repeat refine And.intro (by omega) ?_
      intro g
      simp only [List.map_cons, List.map_nil, updL, upd, Nat.reduceEqDiff, if_true, if_false, ↓reduceIte]
      refine hK _ _ ?_; clear hK K
      refine Cd.block ?_
      refine Cd.loop (fun n ρ M => ∃ g k bl cap' cs, k + n = 3 ∧ Row 1 (ints .i64 (acc3 l1 l2 l3 k)) (acc3 l1 l2 l3 k).length cap' cs ∧ ρ = updL [(6, .slice (some ⟨bl, 0, none⟩) (acc3 l1 l2 l3 k).length cap'), (25, .slice (some ⟨b0, 0, none⟩) 3 cap), (26, .int .i64 3), (27, .int .i64 (k : Int))] g ∧ M = [(bl, cs)]) 3 ⟨_, 0, bg, capg, csg, rfl, hrow, rfl, rfl⟩ ?_
      rintro n ρ M ⟨g, k, bl, cap', cs, hk, hrw, rfl, rfl⟩
      have s1 := hrw.size1
      have s2 := hrw.le
      refine Cd.rs [6, 25, 26, 27, 28] fun K hK => ?_
      simp (maxSteps := 2000000) (disch := first | (simp only [E4] <;> omega) | omega | fail) only [↓E2, E3, bare, bareJ, ↓E0, E1, evP, evPlan, env0, envN, evOps, evOp, evQs, evQ, evV, setD, pureOp, ev, upd, updL, gate, binW, eqOp, binV, intOp, shOp, boolOp, unV, convV, nilV, fieldAddrV, indexAddrV, extractV, cellAt, cellsAt, findB, setB, fillL, buildV, Value.cells, lenV, minV, maxV, hav, sliceV, loV, hiV, bslQ, mksQ, appQ, partsOk, partsCells, delB, eqL, SameI, strOp, apzQ, cvtQ, capV, ↓reduceIte, Zj, Zk, Nat.reduceAdd, Nat.reduceLT, Nat.reduceEqDiff, Nat.reduceMul, Nat.reduceLeDiff, if_true, Zn, reduceCtorEq, ZA, eq_self, Int.reduceLE, Int.reduceLT, Int.reduceToNat, ne_eq, Nat.reduceSub]
      repeat refine And.intro (by omega) ?_
      repeat refine And.intro (by omega) ?_
      intro g
      simp only [List.map_cons, List.map_nil, updL, upd, Nat.reduceEqDiff, if_true, if_false, ↓reduceIte]
      refine hK _ _ ?_; clear hK K
      refine Cd.seq ?_
      refine Cd.condd rfl (fun c3 => ?_) (fun c3 => ?_)
      · obtain ⟨ae, le, ce, hget, hle, hn, hrd⟩ : ∃ (ae : Option Addr) (le : List Int) (ce : Nat), frn [] w b0 k = some (.slice ae le.length ce) ∧ le.length ≤ 10000000 ∧ acc3 l1 l2 l3 (k + 1) = acc3 l1 l2 l3 k ++ le ∧ RdS R 1 (ints .i64 le) (.slice ae le.length ce) := by
          rcases (show k = 0 ∨ k = 1 ∨ k = 2 by omega) with rfl | rfl | rfl
          · exact ⟨_, _, _, g0, n1, by simp [acc3], h1⟩
          · exact ⟨_, _, _, g1, n2, by simp [acc3], h2⟩
          · exact ⟨_, _, _, g2, n3, by simp [acc3], h3⟩
        have hac : (acc3 l1 l2 l3 k).length ≤ 30000000 := by
          rcases (show k = 0 ∨ k = 1 ∨ k = 2 by omega) with rfl | rfl | rfl
          · simp [acc3]
          · simp [acc3]; omega
          · simp [acc3]; omega
        refine Cd.newer fun hnw => ?_
        have nb0 : ¬ bl = b0 := new_ne (hnw (bl, cs) (by simp)) (by simp) hget
        skip
        refine Cd.skip ?_
        refine thenN ?_
        refine Cd.seq ?_
        refine Cd.block ?_
        refine Cd.rs [6, 8, 25, 26, 27] fun K hK => ?_
        simp (maxSteps := 2000000) (disch := first | (simp only [E4, hget, nb0] <;> omega) | omega | fail) only [↓E2, E3, bare, bareJ, ↓E0, E1, evP, evPlan, env0, envN, evOps, evOp, evQs, evQ, evV, setD, pureOp, ev, upd, updL, gate, binW, eqOp, binV, intOp, shOp, boolOp, unV, convV, nilV, fieldAddrV, indexAddrV, extractV, cellAt, cellsAt, findB, setB, fillL, buildV, Value.cells, lenV, minV, maxV, hav, sliceV, loV, hiV, bslQ, mksQ, appQ, partsOk, partsCells, delB, eqL, SameI, strOp, apzQ, cvtQ, capV, ↓reduceIte, Zj, Zk, Nat.reduceAdd, Nat.reduceLT, Nat.reduceEqDiff, Nat.reduceMul, Nat.reduceLeDiff, if_true, Zn, reduceCtorEq, ZA, eq_self, Int.reduceLE, Int.reduceLT, Int.reduceToNat, ne_eq, Nat.reduceSub, Tld47, Tslc43, hget, nb0]
        repeat refine And.intro (by omega) ?_
        repeat refine And.intro (by omega) ?_
        intro g
        simp only [List.map_cons, List.map_nil, updL, upd, Nat.reduceEqDiff, if_true, if_false, ↓reduceIte]
        refine hK _ _ ?_; clear hK K
        by_cases hle0 : le.length = 0
        · have ele := List.eq_nil_of_length_eq_zero hle0
          rw [ele, List.append_nil] at hn
          subst ele
          cases ae with
          | none =>
            refine Cd.rr [6, 25, 26, 27] fun K hK => ?_
            simp (maxSteps := 2000000) (disch := first | (simp only [E4, hget, nb0] <;> omega) | omega | fail) only [↓E2, E3, bare, bareJ, ↓E0, E1, evP, evPlan, env0, envN, evOps, evOp, evQs, evQ, evV, setD, pureOp, ev, upd, updL, gate, binW, eqOp, binV, intOp, shOp, boolOp, unV, convV, nilV, fieldAddrV, indexAddrV, extractV, cellAt, cellsAt, findB, setB, fillL, buildV, Value.cells, lenV, minV, maxV, hav, sliceV, loV, hiV, bslQ, mksQ, appQ, partsOk, partsCells, delB, eqL, SameI, strOp, apzQ, cvtQ, capV, ↓reduceIte, Zj, Zk, Nat.reduceAdd, Nat.reduceLT, Nat.reduceEqDiff, Nat.reduceMul, Nat.reduceLeDiff, if_true, Zn, reduceCtorEq, ZA, eq_self, Int.reduceLE, Int.reduceLT, Int.reduceToNat, ne_eq, Nat.reduceSub, Tby2, Tslc47, Tslce47, Tzero2, hget, nb0]
            repeat refine And.intro (by omega) ?_
            repeat refine And.intro (by omega) ?_
            intro g
            simp only [List.map_cons, List.map_nil, updL, upd, Nat.reduceEqDiff, if_true, if_false, ↓reduceIte]
            refine hK _ _ ?_; clear hK K
            refine inBN ?_
            refine thenN ?_
            refine Cd.rr [6, 25, 26, 27] fun K hK => ?_
            simp (maxSteps := 2000000) (disch := first | (simp only [E4, hget, nb0] <;> omega) | omega | fail) only [↓E2, E3, bare, bareJ, ↓E0, E1, evP, evPlan, env0, envN, evOps, evOp, evQs, evQ, evV, setD, pureOp, ev, upd, updL, gate, binW, eqOp, binV, intOp, shOp, boolOp, unV, convV, nilV, fieldAddrV, indexAddrV, extractV, cellAt, cellsAt, findB, setB, fillL, buildV, Value.cells, lenV, minV, maxV, hav, sliceV, loV, hiV, bslQ, mksQ, appQ, partsOk, partsCells, delB, eqL, SameI, strOp, apzQ, cvtQ, capV, ↓reduceIte, Zj, Zk, Nat.reduceAdd, Nat.reduceLT, Nat.reduceEqDiff, Nat.reduceMul, Nat.reduceLeDiff, if_true, Zn, reduceCtorEq, ZA, eq_self, Int.reduceLE, Int.reduceLT, Int.reduceToNat, ne_eq, Nat.reduceSub, hget, nb0]
            repeat refine And.intro (by omega) ?_
            repeat refine And.intro (by omega) ?_
            intro g
            simp only [List.map_cons, List.map_nil, updL, upd, Nat.reduceEqDiff, if_true, if_false, ↓reduceIte]
            refine hK _ _ ?_; clear hK K
            exact roundN (m := n - 1) (by omega) ⟨_, k + 1, bl, cap', cs, by omega, by rw [hn]; exact hrw, by rw [hn]; rfl, rfl⟩
          | some ad =>
            obtain ⟨be, rfl⟩ : ∃ b, ad = ⟨b, 0, none⟩ := by
              obtain ⟨_, _, _, e, _, _, hoff, _⟩ := hrd
              cases e
              exact hoff ad rfl
            have mz : ∀ f : Nat → Option Value, (List.range 0).mapM f = some [] := fun _ => rfl
            have sz : ∀ l, subL l 0 0 = [] := fun _ => rfl
            by_cases e : bl = be
            all_goals
              skip
              refine Cd.rr [6, 25, 26, 27] fun K hK => ?_
              simp (maxSteps := 2000000) (disch := first | (simp only [E4, hget, nb0, e, mz, sz] <;> omega) | omega | fail) only [↓E2, E3, bare, bareJ, ↓E0, E1, evP, evPlan, env0, envN, evOps, evOp, evQs, evQ, evV, setD, pureOp, ev, upd, updL, gate, binW, eqOp, binV, intOp, shOp, boolOp, unV, convV, nilV, fieldAddrV, indexAddrV, extractV, cellAt, cellsAt, findB, setB, fillL, buildV, Value.cells, lenV, minV, maxV, hav, sliceV, loV, hiV, bslQ, mksQ, appQ, partsOk, partsCells, delB, eqL, SameI, strOp, apzQ, cvtQ, capV, ↓reduceIte, Zj, Zk, Nat.reduceAdd, Nat.reduceLT, Nat.reduceEqDiff, Nat.reduceMul, Nat.reduceLeDiff, if_true, Zn, reduceCtorEq, ZA, eq_self, Int.reduceLE, Int.reduceLT, Int.reduceToNat, ne_eq, Nat.reduceSub, Tby2, Tslc47, Tslce47, Tzero2, hget, nb0, e, mz, sz]
              repeat refine And.intro (by omega) ?_
              intro b' capx rest' hf hc hr'
              have hr2 := hrw.snoc1 (news := []) (m' := 0) rfl (by omega) (by omega)
              simp only [List.append_nil, Nat.add_zero] at hr2
              repeat refine And.intro (by omega) ?_
              intro g
              simp only [List.map_cons, List.map_nil, updL, upd, Nat.reduceEqDiff, if_true, if_false, ↓reduceIte]
              refine hK _ _ ?_; clear hK K
              refine inBN ?_
              refine thenN ?_
              refine Cd.rr [6, 25, 26, 27] fun K hK => ?_
              simp (maxSteps := 2000000) (disch := first | (simp only [E4, hget, nb0, e, mz, sz] <;> omega) | omega | fail) only [↓E2, E3, bare, bareJ, ↓E0, E1, evP, evPlan, env0, envN, evOps, evOp, evQs, evQ, evV, setD, pureOp, ev, upd, updL, gate, binW, eqOp, binV, intOp, shOp, boolOp, unV, convV, nilV, fieldAddrV, indexAddrV, extractV, cellAt, cellsAt, findB, setB, fillL, buildV, Value.cells, lenV, minV, maxV, hav, sliceV, loV, hiV, bslQ, mksQ, appQ, partsOk, partsCells, delB, eqL, SameI, strOp, apzQ, cvtQ, capV, ↓reduceIte, Zj, Zk, Nat.reduceAdd, Nat.reduceLT, Nat.reduceEqDiff, Nat.reduceMul, Nat.reduceLeDiff, if_true, Zn, reduceCtorEq, ZA, eq_self, Int.reduceLE, Int.reduceLT, Int.reduceToNat, ne_eq, Nat.reduceSub, hget, nb0, e, mz, sz]
              repeat refine And.intro (by omega) ?_
              repeat refine And.intro (by omega) ?_
              intro g
              simp only [List.map_cons, List.map_nil, updL, upd, Nat.reduceEqDiff, if_true, if_false, ↓reduceIte]
              refine hK _ _ ?_; clear hK K
              exact roundN (m := n - 1) (by omega) ⟨_, k + 1, b', capx, _, by omega, by rw [hn]; exact hr2, by rw [hn]; rfl, rfl⟩
        · obtain ⟨be, ebe, htold⟩ := hrd.many hR (o := 0) (n := le.length) (by rw [ints_length]; omega) hle0
          cases ebe
          have hsub : subL (ints .i64 le) 0 le.length = ints .i64 le := by
            unfold subL
            rw [List.drop_zero, List.take_of_length_le (by rw [ints_length]; omega)]
          rw [hsub] at htold
          simp only [Nat.zero_add] at htold
          obtain ⟨_, ebe, hg0⟩ := rd_int hrd hR (show 0 < le.length by omega)
          cases ebe
          have e : ¬ bl = be := new_ne (hnw (bl, cs) (by simp)) (by simp) hg0
          skip
          refine Cd.rr [6, 25, 26, 27] fun K hK => ?_
          simp (maxSteps := 2000000) (disch := first | (simp only [E4, hget, nb0, e, htold] <;> omega) | omega | fail) only [↓E2, E3, bare, bareJ, ↓E0, E1, evP, evPlan, env0, envN, evOps, evOp, evQs, evQ, evV, setD, pureOp, ev, upd, updL, gate, binW, eqOp, binV, intOp, shOp, boolOp, unV, convV, nilV, fieldAddrV, indexAddrV, extractV, cellAt, cellsAt, findB, setB, fillL, buildV, Value.cells, lenV, minV, maxV, hav, sliceV, loV, hiV, bslQ, mksQ, appQ, partsOk, partsCells, delB, eqL, SameI, strOp, apzQ, cvtQ, capV, ↓reduceIte, Zj, Zk, Nat.reduceAdd, Nat.reduceLT, Nat.reduceEqDiff, Nat.reduceMul, Nat.reduceLeDiff, if_true, Zn, reduceCtorEq, ZA, eq_self, Int.reduceLE, Int.reduceLT, Int.reduceToNat, ne_eq, Nat.reduceSub, Tby2, Tslc47, Tslce47, Tzero2, hget, nb0, e, htold]
          repeat refine And.intro (by omega) ?_
          intro b' capx rest' hf hc hr'
          have hr2 := hrw.snoc1 (news := ints .i64 le) (m' := le.length) (ints_length ..) (by omega) (by omega)
          have eL : (acc3 l1 l2 l3 (k + 1)).length = (acc3 l1 l2 l3 k).length + le.length := by rw [hn, List.length_append]
          have eI : ints .i64 (acc3 l1 l2 l3 (k + 1)) = ints .i64 (acc3 l1 l2 l3 k) ++ ints .i64 le := by rw [hn]; simp [ints]
          rw [← eL, ← eI] at hr2
          repeat refine And.intro (by omega) ?_
          intro g
          simp only [List.map_cons, List.map_nil, updL, upd, Nat.reduceEqDiff, if_true, if_false, ↓reduceIte]
          refine hK _ _ ?_; clear hK K
          refine inBN ?_
          refine thenN ?_
          refine Cd.rr [6, 25, 26, 27] fun K hK => ?_
          simp (maxSteps := 2000000) (disch := first | (simp only [E4, hget, nb0, e, htold] <;> omega) | omega | fail) only [↓E2, E3, bare, bareJ, ↓E0, E1, evP, evPlan, env0, envN, evOps, evOp, evQs, evQ, evV, setD, pureOp, ev, upd, updL, gate, binW, eqOp, binV, intOp, shOp, boolOp, unV, convV, nilV, fieldAddrV, indexAddrV, extractV, cellAt, cellsAt, findB, setB, fillL, buildV, Value.cells, lenV, minV, maxV, hav, sliceV, loV, hiV, bslQ, mksQ, appQ, partsOk, partsCells, delB, eqL, SameI, strOp, apzQ, cvtQ, capV, ↓reduceIte, Zj, Zk, Nat.reduceAdd, Nat.reduceLT, Nat.reduceEqDiff, Nat.reduceMul, Nat.reduceLeDiff, if_true, Zn, reduceCtorEq, ZA, eq_self, Int.reduceLE, Int.reduceLT, Int.reduceToNat, ne_eq, Nat.reduceSub, hget, nb0, e, htold]
          repeat refine And.intro (by omega) ?_
          repeat refine And.intro (by omega) ?_
          intro g
          simp only [List.map_cons, List.map_nil, updL, upd, Nat.reduceEqDiff, if_true, if_false, ↓reduceIte]
          refine hK _ _ ?_; clear hK K
          exact roundN (m := n - 1) (by omega) ⟨_, k + 1, b', capx, _, by omega, hr2, by rw [eL]; rfl, rfl⟩
      · obtain rfl : k = 3 := by omega
        refine Cd.exit (thenX (roundX (inBX ?_)))
        refine thenN ?_
        refine Cd.rs [2] fun K hK => ?_
        simp (maxSteps := 2000000) (disch := first | (simp only [E4] <;> omega) | omega | fail) only [↓E2, E3, bare, bareJ, ↓E0, E1, evP, evPlan, env0, envN, evOps, evOp, evQs, evQ, evV, setD, pureOp, ev, upd, updL, gate, binW, eqOp, binV, intOp, shOp, boolOp, unV, convV, nilV, fieldAddrV, indexAddrV, extractV, cellAt, cellsAt, findB, setB, fillL, buildV, Value.cells, lenV, minV, maxV, hav, sliceV, loV, hiV, bslQ, mksQ, appQ, partsOk, partsCells, delB, eqL, SameI, strOp, apzQ, cvtQ, capV, ↓reduceIte, Zj, Zk, Nat.reduceAdd, Nat.reduceLT, Nat.reduceEqDiff, Nat.reduceMul, Nat.reduceLeDiff, if_true, Zn, reduceCtorEq, ZA, eq_self, Int.reduceLE, Int.reduceLT, Int.reduceToNat, ne_eq, Nat.reduceSub]
        repeat refine And.intro (by omega) ?_
        repeat refine And.intro (by omega) ?_
        intro g
        simp only [List.map_cons, List.map_nil, updL, upd, Nat.reduceEqDiff, if_true, if_false, ↓reduceIte]
        refine hK _ _ ?_; clear hK K
        refine Cd.ret ?_
        simp (maxSteps := 2000000) (disch := first | (simp only [E4] <;> omega) | omega | fail) only [↓E2, E3, bare, bareJ, ↓E0, E1, evP, evPlan, env0, envN, evOps, evOp, evQs, evQ, evV, setD, pureOp, ev, upd, updL, gate, binW, eqOp, binV, intOp, shOp, boolOp, unV, convV, nilV, fieldAddrV, indexAddrV, extractV, cellAt, cellsAt, findB, setB, fillL, buildV, Value.cells, lenV, minV, maxV, hav, sliceV, loV, hiV, bslQ, mksQ, appQ, partsOk, partsCells, delB, eqL, SameI, strOp, apzQ, cvtQ, capV, ↓reduceIte, Zj, Zk, Nat.reduceAdd, Nat.reduceLT, Nat.reduceEqDiff, Nat.reduceMul, Nat.reduceLeDiff, if_true, Zn, reduceCtorEq, ZA, eq_self, Int.reduceLE, Int.reduceLT, Int.reduceToNat, ne_eq, Nat.reduceSub]
        repeat refine And.intro (by omega) ?_
        exact ⟨_, SubP.refl _, SlN.row hrw⟩
end

end Go.Proofs

/-
  What the functions of this part hand back: each as a plain function of its arguments. Conditions: none.
-/
namespace Go.Proofs
open Go.W8
set_option linter.unusedVariables false
set_option linter.unusedSimpArgs false
set_option linter.unusedSectionVars false
set_option maxRecDepth 8000
set_option maxHeartbeats 4000000
def rvL (l : List Int) (k : Nat) : List Int := (List.range l.length).map fun i => if i < k ∨ l.length ≤ i + k then l.getD (l.length - 1 - i) 0 else l.getD i 0
theorem rvL_len (l : List Int) (k : Nat) : (rvL l k).length = l.length := by simp [rvL]
theorem rvL_get {l : List Int} {k i : Nat} (h : i < l.length) : (rvL l k).getD i 0 = if i < k ∨ l.length ≤ i + k then l.getD (l.length - 1 - i) 0 else l.getD i 0 := by
  unfold rvL
  rw [List.getD_eq_getElem?_getD, List.getElem?_map, List.getElem?_range h]; rfl
theorem getD_ext {a b : List Int} (h : a.length = b.length) (hg : ∀ i, i < a.length → a.getD i 0 = b.getD i 0) : a = b := by
  apply List.ext_getElem h
  intro i h1 h2
  have := hg i h1
  rw [List.getD_eq_getElem?_getD, List.getD_eq_getElem?_getD, List.getElem?_eq_getElem h1, List.getElem?_eq_getElem h2] at this
  simpa using this
theorem getD_setR {a : List Int} {i j : Nat} {x : Int} (h : i < a.length) : (a.set i x).getD j 0 = if i = j then x else a.getD j 0 := by
  rw [List.getD_eq_getElem?_getD, List.getD_eq_getElem?_getD, List.getElem?_set]
  split
  · simp_all
  · rfl
theorem rvL_zero (l : List Int) : rvL l 0 = l := by
  refine getD_ext (rvL_len _ _) fun i hi => ?_
  rw [rvL_len] at hi
  rw [rvL_get hi, if_neg (by omega)]
theorem rvL_end {l : List Int} {k : Nat} (h : l.length ≤ 2 * k + 1) : rvL l k = l.reverse := by
  refine getD_ext (by rw [rvL_len, List.length_reverse]) fun i hi => ?_
  rw [rvL_len] at hi
  rw [rvL_get hi, rev_get hi]
  split
  · rfl
  · rw [show l.length - 1 - i = i by omega]
theorem rvL_step {l : List Int} {k : Nat} (h : 2 * k + 1 < l.length) : ((rvL l k).set k (l.getD (l.length - 1 - k) 0)).set (l.length - 1 - k) (l.getD k 0) = rvL l (k + 1) := by
  refine getD_ext (by simp [rvL_len]) fun i hi => ?_
  simp only [List.length_set, rvL_len] at hi
  rw [getD_setR (by rw [List.length_set, rvL_len]; omega), getD_setR (by rw [rvL_len]; omega), rvL_get hi, rvL_get hi]
  by_cases e1 : l.length - 1 - k = i
  · rw [if_pos e1, if_pos (by omega), ← e1, show l.length - 1 - (l.length - 1 - k) = k by omega]
  · rw [if_neg e1]
    by_cases e2 : k = i
    · rw [if_pos e2, if_pos (by omega), e2]
    · rw [if_neg e2]
      by_cases e3 : i < k ∨ l.length ≤ i + k
      · rw [if_pos e3, if_pos (by omega)]
      · rw [if_neg e3, if_neg (by omega)]
theorem Reverse_c (l : List Int) (v : Value) (L : Blks) (h : SlN 1 (ints .i64 l) v L) (hb : l.length ≤ 100000000) : GivesX Try.prog 179 #[v] L [] (fun _ M' => SlN 1 (ints .i64 l.reverse) v M') := by
  obtain ⟨a, cap, rfl⟩ : ∃ a cap, v = .slice a l.length cap := by
    rcases h with ⟨h1, h2, h3⟩ | ⟨b, m, cap, cs, h1, h2, h3⟩
    · have := congrArg List.length h1
      rw [ints_length] at this
      exact ⟨_, _, by rw [this]; exact h2⟩
    · obtain rfl := int64_len h3.len
      exact ⟨_, _, h1⟩
  refine GivesX.of (callable_of Try.func179 rfl (by decide)) ?_ fun w hnd hlt hR => ?_
  · simp
  refine acall_of (N := 28) (c := _) (rs := []) (args := [_]) Try.func179 rfl (by decide) rfl rfl (Nat.le_of_ble_eq_true rfl) ?_
  refine Cd.rs [0, 2, 3] fun K hK => ?_
  simp (maxSteps := 2000000) (disch := first | (simp only [E4] <;> omega) | omega | fail) only [↓E2, E3, bare, bareJ, ↓E0, E1, evP, evPlan, env0, envN, evOps, evOp, evQs, evQ, evV, setD, pureOp, ev, upd, updL, gate, binW, eqOp, binV, intOp, shOp, boolOp, unV, convV, nilV, fieldAddrV, indexAddrV, extractV, cellAt, cellsAt, findB, setB, fillL, buildV, Value.cells, lenV, minV, maxV, hav, sliceV, loV, hiV, bslQ, mksQ, appQ, partsOk, partsCells, delB, eqL, SameI, strOp, apzQ, cvtQ, capV, ↓reduceIte, Zj, Zk, Nat.reduceAdd, Nat.reduceLT, Nat.reduceEqDiff, Nat.reduceMul, Nat.reduceLeDiff, if_true, Zn, reduceCtorEq, ZA, eq_self, Int.reduceLE, Int.reduceLT, Int.reduceToNat, ne_eq, Nat.reduceSub, Tslce47]
  repeat refine And.intro (by omega) ?_
  repeat refine And.intro (by omega) ?_
  intro g
  simp only [List.map_cons, List.map_nil, updL, upd, Nat.reduceEqDiff, if_true, if_false, ↓reduceIte]
  refine hK _ _ ?_; clear hK K
  refine Cd.block ?_
  refine Cd.loop (fun n ρ M => ∃ g k iv, k + n = l.length ∧ (2 * k ≤ l.length + 1) ∧ iv = (l.length : Int) - 1 - k ∧ ρ = updL [(0, .slice a l.length cap), (2, .int .i64 (k : Int)), (3, .int .i64 iv)] g ∧ SlN 1 (ints .i64 (rvL l k)) (.slice a l.length cap) M) l.length ⟨_, 0, _, Nat.zero_add _, by omega, by omega, rfl, by rw [rvL_zero]; exact h⟩ ?_
  rintro q ρ M ⟨g, k, iv, hk, hk2, hiv, rfl, hM⟩
  refine Cd.seq ?_
  refine Cd.rs [0, 2, 3, 9] fun K hK => ?_
  simp (maxSteps := 2000000) (disch := first | (simp only [E4] <;> omega) | omega | fail) only [↓E2, E3, bare, bareJ, ↓E0, E1, evP, evPlan, env0, envN, evOps, evOp, evQs, evQ, evV, setD, pureOp, ev, upd, updL, gate, binW, eqOp, binV, intOp, shOp, boolOp, unV, convV, nilV, fieldAddrV, indexAddrV, extractV, cellAt, cellsAt, findB, setB, fillL, buildV, Value.cells, lenV, minV, maxV, hav, sliceV, loV, hiV, bslQ, mksQ, appQ, partsOk, partsCells, delB, eqL, SameI, strOp, apzQ, cvtQ, capV, ↓reduceIte, Zj, Zk, Nat.reduceAdd, Nat.reduceLT, Nat.reduceEqDiff, Nat.reduceMul, Nat.reduceLeDiff, if_true, Zn, reduceCtorEq, ZA, eq_self, Int.reduceLE, Int.reduceLT, Int.reduceToNat, ne_eq, Nat.reduceSub]
  repeat refine And.intro (by omega) ?_
  repeat refine And.intro (by omega) ?_
  intro g
  simp only [List.map_cons, List.map_nil, updL, upd, Nat.reduceEqDiff, if_true, if_false, ↓reduceIte]
  refine hK _ _ ?_; clear hK K
  refine Cd.condd rfl (fun h1 => ?_) (fun h1 => ?_)
  · obtain rfl : iv = ((l.length - 1 - k : Nat) : Int) := by omega
    rcases hM with ⟨e, _, _⟩ | ⟨b, m, cap', cs, e, rfl, hr⟩
    · have := congrArg List.length e
      rw [ints_length, rvL_len] at this
      simp only [List.length_nil] at this
      omega
    cases e
    have g1 := hr.get (ints_get (k := .i64) (l := rvL l k) (i := k) (by rw [rvL_len]; omega))
    have g2 := hr.get (ints_get (k := .i64) (l := rvL l k) (i := l.length - 1 - k) (by rw [rvL_len]; omega))
    rw [rvL_get (by omega), if_neg (by omega)] at g1 g2
    have hr1 := hr.set (j := k) (by omega) (.int .i64 (l.getD (l.length - 1 - k) 0))
    have hr2 := hr1.set (j := l.length - 1 - k) (by omega) (.int .i64 (l.getD k 0))
    rw [ints_set, ints_set, rvL_step (by omega)] at hr2
    have f1 := hr.fits (k := k + 1) (by omega)
    have f2 := hr.fits (k := l.length - 1 - k + 1) (by omega)
    skip
    refine Cd.skip ?_
    refine thenN ?_
    refine Cd.seq ?_
    refine Cd.block ?_
    refine Cd.pr [0, 2, 3] (Plan.take 0 (Plan.take 1 (Plan.take 2 (Plan.take 3 (Plan.take 4 (Plan.take 5 (Plan.take 6 (Plan.take 7 (Plan.take 8 (Plan.take 9 (Plan.take 10 (Plan.take 11 (Plan.take 12 (Plan.one 13 (Plan.take 14 (Plan.one 15 (Plan.done))))))))))))))))) fol (by kernel_rfl) (Nat.le_of_ble_eq_true rfl) fun K hK => ?_
    simp (maxSteps := 2000000) (disch := first | (simp only [E4, g1, g2, f1, f2] <;> omega) | omega | fail) only [↓E2, E3, bare, bareJ, ↓E0, E1, evP, evPlan, env0, envN, evOps, evOp, evQs, evQ, evV, setD, pureOp, ev, upd, updL, gate, binW, eqOp, binV, intOp, shOp, boolOp, unV, convV, nilV, fieldAddrV, indexAddrV, extractV, cellAt, cellsAt, findB, setB, fillL, buildV, Value.cells, lenV, minV, maxV, hav, sliceV, loV, hiV, bslQ, mksQ, appQ, partsOk, partsCells, delB, eqL, SameI, strOp, apzQ, cvtQ, capV, ↓reduceIte, Zj, Zk, Nat.reduceAdd, Nat.reduceLT, Nat.reduceEqDiff, Nat.reduceMul, Nat.reduceLeDiff, if_true, Zn, reduceCtorEq, ZA, eq_self, Int.reduceLE, Int.reduceLT, Int.reduceToNat, ne_eq, Nat.reduceSub, Tld2, Tslc47, Tst2, g1, g2, f1, f2]
    repeat refine And.intro (by omega) ?_
    repeat refine And.intro (by omega) ?_
    intro g
    simp only [List.map_cons, List.map_nil, updL, upd, Nat.reduceEqDiff, if_true, if_false, ↓reduceIte]
    refine hK _ _ ?_; clear hK K
    refine inBN ?_
    refine thenN ?_
    refine Cd.rr [0, 2, 3] fun K hK => ?_
    simp (maxSteps := 2000000) (disch := first | (simp only [E4, g1, g2, f1, f2] <;> omega) | omega | fail) only [↓E2, E3, bare, bareJ, ↓E0, E1, evP, evPlan, env0, envN, evOps, evOp, evQs, evQ, evV, setD, pureOp, ev, upd, updL, gate, binW, eqOp, binV, intOp, shOp, boolOp, unV, convV, nilV, fieldAddrV, indexAddrV, extractV, cellAt, cellsAt, findB, setB, fillL, buildV, Value.cells, lenV, minV, maxV, hav, sliceV, loV, hiV, bslQ, mksQ, appQ, partsOk, partsCells, delB, eqL, SameI, strOp, apzQ, cvtQ, capV, ↓reduceIte, Zj, Zk, Nat.reduceAdd, Nat.reduceLT, Nat.reduceEqDiff, Nat.reduceMul, Nat.reduceLeDiff, if_true, Zn, reduceCtorEq, ZA, eq_self, Int.reduceLE, Int.reduceLT, Int.reduceToNat, ne_eq, Nat.reduceSub, g1, g2, f1, f2]
    repeat refine And.intro (by omega) ?_
    repeat refine And.intro (by omega) ?_
    intro g
    simp only [List.map_cons, List.map_nil, updL, upd, Nat.reduceEqDiff, if_true, if_false, ↓reduceIte]
    refine hK _ _ ?_; clear hK K
    exact roundN (m := q - 1) (by omega) ⟨_, k + 1, _, by omega, by omega, by omega, rfl, SlN.row hr2⟩
  · refine Cd.exit (thenX (roundX (inBX ?_)))
    rw [rvL_end (by omega)] at hM
    exact ⟨[], rfl, hM⟩
end Go.Proofs

/-
  What the functions of this part hand back: each as a plain function of its arguments. Conditions: none.
-/
namespace Go.Proofs
open Go.W8
set_option linter.unusedVariables false
set_option linter.unusedSimpArgs false
set_option linter.unusedSectionVars false
set_option maxRecDepth 8000
set_option maxHeartbeats 4000000
theorem dn_len (T : List Int) (i : Int) : ∀ k, (dnT T i k).length ≤ k
  | 0 => Nat.le_refl _
  | k + 1 => by
    show (dnT T i k ++ if T.getD (k * 3) 0 = i then [(k : Int) + 1] else []).length ≤ _
    have := dn_len T i k
    split <;> simp <;> omega
theorem ac_len (T : List Int) (r : Int) : ∀ k, (acT T r k).length ≤ k
  | 0 => Nat.le_refl _
  | k + 1 => by
    show (acT T r k ++ if T.getD (k * 3 + 1) 0 = r then [-((k : Int) + 1)] else []).length ≤ _
    have := ac_len T r k
    split <;> simp <;> omega
theorem row3 {l : List Int} {m cap : Nat} {cs : List Value} (h : Row 3 (ints .i64 l) m cap cs) {k : Nat} (hk : k < m) : k * 3 + 3 ≤ cs.length ∧ subL cs (k * 3) 3 = [.int .i64 (l.getD (k * 3) 0), .int .i64 (l.getD (k * 3 + 1) 0), .int .i64 (l.getD (k * 3 + 2) 0)] := by
  have h1 := h.len
  rw [ints_length] at h1
  refine ⟨h.fits (k := k * 3 + 3) (by omega), ?_⟩
  rw [h.sub (by omega)]
  have g0 : (ints .i64 l)[k * 3]? = some (.int .i64 (l.getD (k * 3) 0)) := by rw [ints_get (by omega)]
  have g1 : (ints .i64 l)[k * 3 + 1]? = some (.int .i64 (l.getD (k * 3 + 1) 0)) := by rw [ints_get (by omega)]
  have g2 : (ints .i64 l)[k * 3 + 2]? = some (.int .i64 (l.getD (k * 3 + 2) 0)) := by rw [ints_get (by omega)]
  unfold subL
  apply List.ext_getElem?
  intro j
  rcases j with _ | _ | _ | j
  · simpa [List.getElem?_take, List.getElem?_drop] using g0
  · simpa [List.getElem?_take, List.getElem?_drop] using g1
  · simpa [List.getElem?_take, List.getElem?_drop] using g2
  · simp [List.getElem?_take]; omega
theorem slsl_form {ll : List (List Int)} {v : Value} {M : Blks} (h : SlSl ll v M) : ∃ a m cap, v = .slice a m cap ∧ m = ll.length := by
  rcases h with ⟨rfl, rfl, rfl⟩ | ⟨b, m, cap, cs, vs, Mi, rfl, rfl, h1, h2⟩
  · exact ⟨_, _, _, rfl, rfl⟩
  · exact ⟨_, _, _, rfl, by rw [← h2.len, h1.len1]⟩
theorem ch_lt {nx : Nat → Nat} {n i0 : Nat} : ∀ (W : List Nat) (k : Nat), Ch nx n i0 k W → ∀ j, j < W.length → W.getD j 0 < n
  | [], _, _, j, hj => by simp at hj
  | a :: W, k, h, 0, _ => by
    obtain ⟨h1, h2, _⟩ := h
    show a < n
    omega
  | a :: W, k, h, j + 1, hj => by
    obtain ⟨_, _, _, h4⟩ := h
    have := ch_lt W _ h4 j (by simpa using hj)
    simpa using this
section
variable (n : Nat) (x o : List Int) (hx : Bytes8 x) (ho : Bytes8 o) (hn : n ≤ 8) (hp : IsPerm x n) (hq : IsPerm o n)
include hx ho hn hp hq
theorem gauss_c : GivesX Try.prog 147 #[.agg (gc (n : Int) x o).toArray] [] [] (SlSl (gaussL n x o)) := by
  have hl := hx.len
  have hm := ho.len
  have pl := plc_len x n
  have hcr := crossings_c n x o hx ho hn hp hq
  have hpc := places_c n x o x hx ho hx hn hp
  have hwk := walks_c n x o hx ho hn hp hq
  have hst := comp_start (nextOf_lt hx ho hn hp hq) (nextOf_inj hx ho hn hp hq) hn n (Nat.le_refl _)
  have hwn : (wTo (nextOf n x o) n).length = (compTo (nextOf n x o) n).2 := wTo_len _ _
  have cb : (compTo (nextOf n x o) n).2 ≤ n := compTo_count (nextOf n x o) n
  obtain ⟨m, hm64, htr⟩ := crTo_trip n x o n (Nat.le_refl _)
  have hm64' : m ≤ 64 := by have := Nat.mul_le_mul hn hn; omega
  have hcC : cC n x o n = m := by have := cC_len n x o n; have := htr.1; omega
  have hdn : ∀ i, i < n → dnT (crTo n x o n) (i : Int) m = fz (nm n x o i) n := fun i hi => by rw [← hcC]; exact dn_all hi
  have hac : ∀ i, i < n → acT (crTo n x o n) (i : Int) m = fz (fun j => -nm n x o j i) n := fun i hi => by rw [← hcC]; exact ac_all hi
  have hTl := htr.1
  refine GivesX.part ?_
  skip
  refine GivesX.of (callable_of Try.func147 rfl (by decide)) ?_ fun w hnd hlt hR => ?_
  · simp
  refine acall_of (N := 101) (c := _) (rs := [.tmp 2]) (args := [_]) Try.func147 rfl (by decide) rfl rfl (Nat.le_of_ble_eq_true rfl) ?_
  refine Cd.rs [1] fun K hK => ?_
  simp (maxSteps := 2000000) (disch := first | (simp only [E4, hl, hm, pl] <;> omega) | omega | fail) only [↓E2, E3, bare, bareJ, ↓E0, E1, evP, evPlan, env0, envN, evOps, evOp, evQs, evQ, evV, setD, pureOp, ev, upd, updL, gate, binW, eqOp, binV, intOp, shOp, boolOp, unV, convV, nilV, fieldAddrV, indexAddrV, extractV, cellAt, cellsAt, findB, setB, fillL, buildV, Value.cells, lenV, minV, maxV, hav, sliceV, loV, hiV, bslQ, mksQ, appQ, partsOk, partsCells, delB, eqL, SameI, strOp, apzQ, cvtQ, capV, ↓reduceIte, Zj, Zk, Nat.reduceAdd, Nat.reduceLT, Nat.reduceEqDiff, Nat.reduceMul, Nat.reduceLeDiff, if_true, Zn, reduceCtorEq, ZA, eq_self, Int.reduceLE, Int.reduceLT, Int.reduceToNat, ne_eq, Nat.reduceSub, hl, hm, pl]
  repeat refine And.intro (by omega) ?_
  intro b1 hb1
  try simp (maxSteps := 2000000) (disch := first | (simp only [E4, hl, hm, pl] <;> omega) | omega | fail) only [↓E2, E3, bare, bareJ, ↓E0, E1, evP, evPlan, env0, envN, evOps, evOp, evQs, evQ, evV, setD, pureOp, ev, upd, updL, gate, binW, eqOp, binV, intOp, shOp, boolOp, unV, convV, nilV, fieldAddrV, indexAddrV, extractV, cellAt, cellsAt, findB, setB, fillL, buildV, Value.cells, lenV, minV, maxV, hav, sliceV, loV, hiV, bslQ, mksQ, appQ, partsOk, partsCells, delB, eqL, SameI, strOp, apzQ, cvtQ, capV, ↓reduceIte, Zj, Zk, Nat.reduceAdd, Nat.reduceLT, Nat.reduceEqDiff, Nat.reduceMul, Nat.reduceLeDiff, if_true, Zn, reduceCtorEq, ZA, eq_self, Int.reduceLE, Int.reduceLT, Int.reduceToNat, ne_eq, Nat.reduceSub, hl, hm, pl]
  repeat refine And.intro (by omega) ?_
  repeat refine And.intro (by omega) ?_
  intro g
  simp only [List.map_cons, List.map_nil, updL, upd, Nat.reduceEqDiff, if_true, if_false, ↓reduceIte]
  refine hK _ _ ?_; clear hK K
  refine Cd.ps [1, 3, 4, 5] (Plan.take 0 (Plan.take 2 (Plan.take 3 (Plan.take 4 (Plan.mox 1 (Plan.take 5 (Plan.more 6 (Plan.one 7 (Plan.take 8 (Plan.one 9 (Plan.take 10 (Plan.done))))) (Plan.one 7 (Plan.take 8 (Plan.more 6 (Plan.one 9 (Plan.take 10 (Plan.done))) (Plan.one 9 (Plan.one 6 (Plan.take 10 (Plan.done))))))))) (Plan.more 6 (Plan.mox 1 (Plan.take 5 (Plan.one 7 (Plan.take 8 (Plan.one 9 (Plan.take 10 (Plan.done)))))) (Plan.one 7 (Plan.onx 1 (Plan.take 5 (Plan.take 8 (Plan.one 9 (Plan.take 10 (Plan.done)))))))) (Plan.one 7 (Plan.mox 1 (Plan.take 5 (Plan.take 8 (Plan.more 6 (Plan.one 9 (Plan.take 10 (Plan.done))) (Plan.one 9 (Plan.one 6 (Plan.take 10 (Plan.done))))))) (Plan.one 6 (Plan.onx 1 (Plan.take 5 (Plan.take 8 (Plan.one 9 (Plan.take 10 (Plan.done))))))))))))))) fol (by kernel_rfl) (Nat.le_of_ble_eq_true rfl) fun K hK => ?_
  have J : ∀ g bo b4 bc capc csc M, Row 3 (ints .i64 (crTo n x o n)) m capc csc → SubP [(bo, []), (b4, ints .i64 (plc x n)), (b1, gc (n : Int) x o), (bc, csc)] M → K (updL [(1, .pointer (some ⟨b1, 0, none⟩)), (3, .slice (some ⟨bc, 0, none⟩) m capc), (4, .pointer (some ⟨b4, 0, none⟩)), (5, .slice (some ⟨bo, 0, none⟩) 0 0)] g) M := by
    intro g bo b4 bc capc csc M hrc hM
    refine hK _ _ (Cd.sub hM ?_)
    clear hM M hK K hcr
    generalize crTo n x o n = l at *
    refine Cd.nodup fun hndJ => ?_
    have c0_1 : (bo = b4) = False := eq_false ((nodup_cases hndJ).1 (b4, ints .i64 (plc x n)) (by simp))
    have c0_2 : (bo = b1) = False := eq_false ((nodup_cases hndJ).1 (b1, gc (n : Int) x o) (by simp))
    have c0_3 : (bo = bc) = False := eq_false ((nodup_cases hndJ).1 (bc, csc) (by simp))
    have c1_2 : (b4 = b1) = False := eq_false ((nodup_cases (nodup_cases hndJ).2).1 (b1, gc (n : Int) x o) (by simp))
    have c1_3 : (b4 = bc) = False := eq_false ((nodup_cases (nodup_cases hndJ).2).1 (bc, csc) (by simp))
    have c2_3 : (b1 = bc) = False := eq_false ((nodup_cases (nodup_cases (nodup_cases hndJ).2).2).1 (bc, csc) (by simp))
    skip
    skip
    clear hndJ
    refine Cd.seq ?_
    refine Cd.rs [1, 3, 4, 5, 24, 25, 26] fun K hK => ?_
    simp (maxSteps := 2000000) (disch := first | (simp only [E4, hl, hm, pl, c0_1, c0_2, c0_3, c1_2, c1_3, c2_3] <;> omega) | omega | fail) only [↓E2, E3, bare, bareJ, ↓E0, E1, evP, evPlan, env0, envN, evOps, evOp, evQs, evQ, evV, setD, pureOp, ev, upd, updL, gate, binW, eqOp, binV, intOp, shOp, boolOp, unV, convV, nilV, fieldAddrV, indexAddrV, extractV, cellAt, cellsAt, findB, setB, fillL, buildV, Value.cells, lenV, minV, maxV, hav, sliceV, loV, hiV, bslQ, mksQ, appQ, partsOk, partsCells, delB, eqL, SameI, strOp, apzQ, cvtQ, capV, ↓reduceIte, Zj, Zk, Nat.reduceAdd, Nat.reduceLT, Nat.reduceEqDiff, Nat.reduceMul, Nat.reduceLeDiff, if_true, Zn, reduceCtorEq, ZA, eq_self, Int.reduceLE, Int.reduceLT, Int.reduceToNat, ne_eq, Nat.reduceSub, Tld32, Tslce171, hl, hm, pl, c0_1, c0_2, c0_3, c1_2, c1_3, c2_3]
    repeat refine And.intro (by omega) ?_
    refine callK_newR0 hwk (fun _ _ => toldW_nil) ?_
    rintro vw Mw hw nd1 _
    obtain ⟨aw, mw, capw, rfl, hmw⟩ := slsl_form hw
    rw [List.length_map, hwn] at hmw
    simp only [List.cons_append, List.nil_append]
    simp (maxSteps := 2000000) (disch := first | (simp only [E4, hl, hm, pl, c0_1, c0_2, c0_3, c1_2, c1_3, c2_3] <;> omega) | omega | fail) only [↓E2, E3, bare, bareJ, ↓E0, E1, evP, evPlan, env0, envN, evOps, evOp, evQs, evQ, evV, setD, pureOp, ev, upd, updL, gate, binW, eqOp, binV, intOp, shOp, boolOp, unV, convV, nilV, fieldAddrV, indexAddrV, extractV, cellAt, cellsAt, findB, setB, fillL, buildV, Value.cells, lenV, minV, maxV, hav, sliceV, loV, hiV, bslQ, mksQ, appQ, partsOk, partsCells, delB, eqL, SameI, strOp, apzQ, cvtQ, capV, ↓reduceIte, Zj, Zk, Nat.reduceAdd, Nat.reduceLT, Nat.reduceEqDiff, Nat.reduceMul, Nat.reduceLeDiff, if_true, Zn, reduceCtorEq, ZA, eq_self, Int.reduceLE, Int.reduceLT, Int.reduceToNat, ne_eq, Nat.reduceSub, Tld32, Tslce171, hl, hm, pl, c0_1, c0_2, c0_3, c1_2, c1_3, c2_3]
    repeat refine And.intro (by omega) ?_
    repeat refine And.intro (by omega) ?_
    intro g
    simp only [List.map_cons, List.map_nil, updL, upd, Nat.reduceEqDiff, if_true, if_false, ↓reduceIte]
    refine hK _ _ ?_; clear hK K
    refine Cd.block ?_
    refine Cd.loop (fun q ρ M => ∃ g p bo cap cs vs Mi, p + q = mw ∧ Row 1 vs p cap cs ∧ RowsI ((gaussL n x o).take p) vs Mi ∧ ρ = updL [(1, .pointer (some ⟨b1, 0, none⟩)), (3, .slice (some ⟨bc, 0, none⟩) m capc), (4, .pointer (some ⟨b4, 0, none⟩)), (5, .slice (some ⟨bo, 0, none⟩) p cap), (24, .slice aw mw capw), (25, .int .i64 (mw : Int)), (26, .int .i64 (p : Int))] g ∧ SubP ((bo, cs) :: (b4, ints .i64 (plc x n)) :: (b1, gc (n : Int) x o) :: (bc, csc) :: (Mw ++ Mi)) M) mw ⟨_, 0, bo, 0, [], [], [], Nat.zero_add _, Row.nil 1, RowsI.nil, rfl, by rw [List.append_nil]; exact SubP.refl _⟩ ?_
    rintro q ρ M ⟨g, p, bo, cap, cs, vs, Mi, hpq, hrow, hrows, rfl, hM⟩
    refine Cd.sub hM ?_
    clear hM M
    refine Cd.rs [1, 3, 4, 5, 24, 25, 26, 27] fun K hK => ?_
    simp (maxSteps := 2000000) (disch := first | (simp only [E4, hl, hm, pl, c0_1, c0_2, c0_3, c1_2, c1_3, c2_3] <;> omega) | omega | fail) only [↓E2, E3, bare, bareJ, ↓E0, E1, evP, evPlan, env0, envN, evOps, evOp, evQs, evQ, evV, setD, pureOp, ev, upd, updL, gate, binW, eqOp, binV, intOp, shOp, boolOp, unV, convV, nilV, fieldAddrV, indexAddrV, extractV, cellAt, cellsAt, findB, setB, fillL, buildV, Value.cells, lenV, minV, maxV, hav, sliceV, loV, hiV, bslQ, mksQ, appQ, partsOk, partsCells, delB, eqL, SameI, strOp, apzQ, cvtQ, capV, ↓reduceIte, Zj, Zk, Nat.reduceAdd, Nat.reduceLT, Nat.reduceEqDiff, Nat.reduceMul, Nat.reduceLeDiff, if_true, Zn, reduceCtorEq, ZA, eq_self, Int.reduceLE, Int.reduceLT, Int.reduceToNat, ne_eq, Nat.reduceSub, hl, hm, pl, c0_1, c0_2, c0_3, c1_2, c1_3, c2_3]
    repeat refine And.intro (by omega) ?_
    repeat refine And.intro (by omega) ?_
    intro g
    simp only [List.map_cons, List.map_nil, updL, upd, Nat.reduceEqDiff, if_true, if_false, ↓reduceIte]
    refine hK _ _ ?_; clear hK K
    refine Cd.seq ?_
    refine Cd.condd rfl (fun h1 => ?_) (fun h1 => ?_)
    · have hpl : p < mw := by omega
      obtain ⟨i0, hi0, _, _, W, hW, hCh⟩ := hst p (by omega)
      rcases hw with ⟨e, _, _⟩ | ⟨bw, m', cap', csw, vsw, Miw, e, rfl, hroww, hrowsw⟩
      · rw [List.map_eq_nil_iff] at e
        rw [e] at hW
        cases hW
      cases e
      obtain ⟨ll, v, A, Mj, B, q1, q2, rfl, q4, _⟩ := hrowsw.split (j := p) (by rw [List.length_map]; omega)
      have hll : ll = natL (i0 :: W) := by rw [List.getElem?_map, hW] at q1; exact (Option.some.inj q1).symm
      subst hll
      have hgw := hroww.get q2
      rcases q4 with ⟨e, _, _⟩ | ⟨bj, mj, capj, csj, rfl, rfl, hrowj⟩
      · exact absurd e (by simp [natL, ints])
      have hwl := wTo_each n _ (List.mem_of_getElem? hW)
      have hlt := ch_lt _ _ hCh
      have hgr := gauss_row hW
      have hWl2 := cdW_len n x o (i0 :: W)
      obtain ⟨LW, hLW⟩ : ∃ LW, LW = i0 :: W := ⟨_, rfl⟩
      rw [← hLW] at hwl hlt hgr hWl2 hrowj
      clear hLW hCh hW q1
      have hmj := hrowj.len1
      rw [ints_length, natL_len] at hmj
      subst hmj
      clear hrowsw q2
      refine Cd.skip ?_
      refine thenN ?_
      refine Cd.seq ?_
      refine Cd.block ?_
      refine Cd.sub (M' := (bw, csw) :: (bj, csj) :: (b4, ints .i64 (plc x n)) :: (b1, gc (n : Int) x o) :: (bc, csc) :: (bo, cs) :: (A ++ (B ++ Mi))) (by exact subP_cnt [] fun _ => by simp only [cnt_cons, cnt_append, cnt_nil]; omega) ?_
      skip
      skip
      refine Cd.rs [1, 3, 4, 5, 7, 24, 25, 26] fun K hK => ?_
      simp (maxSteps := 2000000) (disch := first | (simp only [E4, hl, hm, pl, c0_1, c0_2, c0_3, c1_2, c1_3, c2_3, hgw] <;> omega) | omega | fail) only [↓E2, E3, bare, bareJ, ↓E0, E1, evP, evPlan, env0, envN, evOps, evOp, evQs, evQ, evV, setD, pureOp, ev, upd, updL, gate, binW, eqOp, binV, intOp, shOp, boolOp, unV, convV, nilV, fieldAddrV, indexAddrV, extractV, cellAt, cellsAt, findB, setB, fillL, buildV, Value.cells, lenV, minV, maxV, hav, sliceV, loV, hiV, bslQ, mksQ, appQ, partsOk, partsCells, delB, eqL, SameI, strOp, apzQ, cvtQ, capV, ↓reduceIte, Zj, Zk, Nat.reduceAdd, Nat.reduceLT, Nat.reduceEqDiff, Nat.reduceMul, Nat.reduceLeDiff, if_true, Zn, reduceCtorEq, ZA, eq_self, Int.reduceLE, Int.reduceLT, Int.reduceToNat, ne_eq, Nat.reduceSub, Tld132, Tslc171, hl, hm, pl, c0_1, c0_2, c0_3, c1_2, c1_3, c2_3, hgw]
      repeat refine And.intro (by omega) ?_
      repeat refine And.intro (by omega) ?_
      intro g
      simp only [List.map_cons, List.map_nil, updL, upd, Nat.reduceEqDiff, if_true, if_false, ↓reduceIte]
      refine hK _ _ ?_; clear hK K
      refine Cd.rs [1, 3, 4, 5, 7, 8, 24, 25, 26] fun K hK => ?_
      simp (maxSteps := 2000000) (disch := first | (simp only [E4, hl, hm, pl, c0_1, c0_2, c0_3, c1_2, c1_3, c2_3, hgw] <;> omega) | omega | fail) only [↓E2, E3, bare, bareJ, ↓E0, E1, evP, evPlan, env0, envN, evOps, evOp, evQs, evQ, evV, setD, pureOp, ev, upd, updL, gate, binW, eqOp, binV, intOp, shOp, boolOp, unV, convV, nilV, fieldAddrV, indexAddrV, extractV, cellAt, cellsAt, findB, setB, fillL, buildV, Value.cells, lenV, minV, maxV, hav, sliceV, loV, hiV, bslQ, mksQ, appQ, partsOk, partsCells, delB, eqL, SameI, strOp, apzQ, cvtQ, capV, ↓reduceIte, Zj, Zk, Nat.reduceAdd, Nat.reduceLT, Nat.reduceEqDiff, Nat.reduceMul, Nat.reduceLeDiff, if_true, Zn, reduceCtorEq, ZA, eq_self, Int.reduceLE, Int.reduceLT, Int.reduceToNat, ne_eq, Nat.reduceSub, Tby2, Tslc47, Tslce47, Tzero2, hl, hm, pl, c0_1, c0_2, c0_3, c1_2, c1_3, c2_3, hgw]
      repeat refine And.intro (by omega) ?_
      intro b5 hb5
      have nb5_bo := hb5.ne
      have nb5_bc := hb5.tail.ne
      have nb5_b1 := hb5.tail.tail.ne
      have nb5_b4 := hb5.tail.tail.tail.ne
      have nb5_bj := hb5.tail.tail.tail.tail.ne
      have nb5_bw := hb5.tail.tail.tail.tail.tail.ne
      try simp (maxSteps := 2000000) (disch := first | (simp only [E4, hl, hm, pl, c0_1, c0_2, c0_3, c1_2, c1_3, c2_3, hgw, nb5_bo, nb5_bc, nb5_b1, nb5_b4, nb5_bj, nb5_bw] <;> omega) | omega | fail) only [↓E2, E3, bare, bareJ, ↓E0, E1, evP, evPlan, env0, envN, evOps, evOp, evQs, evQ, evV, setD, pureOp, ev, upd, updL, gate, binW, eqOp, binV, intOp, shOp, boolOp, unV, convV, nilV, fieldAddrV, indexAddrV, extractV, cellAt, cellsAt, findB, setB, fillL, buildV, Value.cells, lenV, minV, maxV, hav, sliceV, loV, hiV, bslQ, mksQ, appQ, partsOk, partsCells, delB, eqL, SameI, strOp, apzQ, cvtQ, capV, ↓reduceIte, Zj, Zk, Nat.reduceAdd, Nat.reduceLT, Nat.reduceEqDiff, Nat.reduceMul, Nat.reduceLeDiff, if_true, Zn, reduceCtorEq, ZA, eq_self, Int.reduceLE, Int.reduceLT, Int.reduceToNat, ne_eq, Nat.reduceSub, Tby2, Tslc47, Tslce47, Tzero2, hl, hm, pl, c0_1, c0_2, c0_3, c1_2, c1_3, c2_3, hgw, nb5_bo, nb5_bc, nb5_b1, nb5_b4, nb5_bj, nb5_bw]
      repeat refine And.intro (by omega) ?_
      repeat refine And.intro (by omega) ?_
      intro g
      simp only [List.map_cons, List.map_nil, updL, upd, Nat.reduceEqDiff, if_true, if_false, ↓reduceIte]
      refine hK _ _ ?_; clear hK K
      refine Cd.seq ?_
      refine Cd.rs [1, 3, 4, 5, 8, 24, 25, 26, 31, 32, 33] fun K hK => ?_
      simp (maxSteps := 2000000) (disch := first | (simp only [E4, hl, hm, pl, c0_1, c0_2, c0_3, c1_2, c1_3, c2_3, hgw, nb5_bo, nb5_bc, nb5_b1, nb5_b4, nb5_bj, nb5_bw] <;> omega) | omega | fail) only [↓E2, E3, bare, bareJ, ↓E0, E1, evP, evPlan, env0, envN, evOps, evOp, evQs, evQ, evV, setD, pureOp, ev, upd, updL, gate, binW, eqOp, binV, intOp, shOp, boolOp, unV, convV, nilV, fieldAddrV, indexAddrV, extractV, cellAt, cellsAt, findB, setB, fillL, buildV, Value.cells, lenV, minV, maxV, hav, sliceV, loV, hiV, bslQ, mksQ, appQ, partsOk, partsCells, delB, eqL, SameI, strOp, apzQ, cvtQ, capV, ↓reduceIte, Zj, Zk, Nat.reduceAdd, Nat.reduceLT, Nat.reduceEqDiff, Nat.reduceMul, Nat.reduceLeDiff, if_true, Zn, reduceCtorEq, ZA, eq_self, Int.reduceLE, Int.reduceLT, Int.reduceToNat, ne_eq, Nat.reduceSub, Tslce132, hl, hm, pl, c0_1, c0_2, c0_3, c1_2, c1_3, c2_3, hgw, nb5_bo, nb5_bc, nb5_b1, nb5_b4, nb5_bj, nb5_bw]
      repeat refine And.intro (by omega) ?_
      repeat refine And.intro (by omega) ?_
      intro g
      simp only [List.map_cons, List.map_nil, updL, upd, Nat.reduceEqDiff, if_true, if_false, ↓reduceIte]
      refine hK _ _ ?_; clear hK K
      refine Cd.sub (M' := (bj, csj) :: (b4, ints .i64 (plc x n)) :: (b1, gc (n : Int) x o) :: (bc, csc) :: (((bw, csw) :: (bo, cs) :: (A ++ (B ++ Mi))) ++ [(b5, [])])) (by exact subP_cnt [] fun _ => by simp only [cnt_cons, cnt_append, cnt_nil]; omega) ?_
      obtain ⟨R0, hR0⟩ : ∃ R0, R0 = (bw, csw) :: (bo, cs) :: (A ++ (B ++ Mi)) := ⟨_, rfl⟩
      rw [← hR0]
      refine Cd.block ?_
      refine Cd.loop (fun q ρ M => ∃ g j v1 L1, j + q = LW.length ∧ SlN 1 (ints .i64 (cdW n x o (LW.take j))) v1 L1 ∧ ρ = updL [(1, .pointer (some ⟨b1, 0, none⟩)), (3, .slice (some ⟨bc, 0, none⟩) m capc), (4, .pointer (some ⟨b4, 0, none⟩)), (5, .slice (some ⟨bo, 0, none⟩) p cap), (8, v1), (24, .slice (some ⟨bw, 0, none⟩) mw capw), (25, .int .i64 (mw : Int)), (26, .int .i64 (p : Int)), (31, .slice (some ⟨bj, 0, none⟩) LW.length capj), (32, .int .i64 (LW.length : Int)), (33, .int .i64 (j : Int))] g ∧ SubP ((bj, csj) :: (b4, ints .i64 (plc x n)) :: (b1, gc (n : Int) x o) :: (bc, csc) :: (R0 ++ L1)) M) LW.length ⟨_, 0, _, _, Nat.zero_add _, SlN.row (Row.nil 1), rfl, SubP.refl _⟩ ?_
      rintro q2 ρ M ⟨g, j, v1, L1, hj, hv1, rfl, hM⟩
      refine Cd.sub hM ?_
      clear hM M
      refine Cd.nodup fun hnd => ?_
      have d0_1 : (bj = b4) = False := eq_false ((nodup_cases hnd).1 (b4, ints .i64 (plc x n)) (by simp))
      have d0_2 : (bj = b1) = False := eq_false ((nodup_cases hnd).1 (b1, gc (n : Int) x o) (by simp))
      have d0_3 : (bj = bc) = False := eq_false ((nodup_cases hnd).1 (bc, csc) (by simp))
      have d1_2 : (b4 = b1) = False := eq_false ((nodup_cases (nodup_cases hnd).2).1 (b1, gc (n : Int) x o) (by simp))
      have d1_3 : (b4 = bc) = False := eq_false ((nodup_cases (nodup_cases hnd).2).1 (bc, csc) (by simp))
      have d2_3 : (b1 = bc) = False := eq_false ((nodup_cases (nodup_cases (nodup_cases hnd).2).2).1 (bc, csc) (by simp))
      skip
      skip
      clear hnd
      refine Cd.rs [1, 3, 4, 5, 8, 24, 25, 26, 31, 32, 33, 34] fun K hK => ?_
      simp (maxSteps := 2000000) (disch := first | (simp only [E4, hl, hm, pl, c0_1, c0_2, c0_3, c1_2, c1_3, c2_3, hgw, nb5_bo, nb5_bc, nb5_b1, nb5_b4, nb5_bj, nb5_bw, d0_1, d0_2, d0_3, d1_2, d1_3, d2_3] <;> omega) | omega | fail) only [↓E2, E3, bare, bareJ, ↓E0, E1, evP, evPlan, env0, envN, evOps, evOp, evQs, evQ, evV, setD, pureOp, ev, upd, updL, gate, binW, eqOp, binV, intOp, shOp, boolOp, unV, convV, nilV, fieldAddrV, indexAddrV, extractV, cellAt, cellsAt, findB, setB, fillL, buildV, Value.cells, lenV, minV, maxV, hav, sliceV, loV, hiV, bslQ, mksQ, appQ, partsOk, partsCells, delB, eqL, SameI, strOp, apzQ, cvtQ, capV, ↓reduceIte, Zj, Zk, Nat.reduceAdd, Nat.reduceLT, Nat.reduceEqDiff, Nat.reduceMul, Nat.reduceLeDiff, if_true, Zn, reduceCtorEq, ZA, eq_self, Int.reduceLE, Int.reduceLT, Int.reduceToNat, ne_eq, Nat.reduceSub, hl, hm, pl, c0_1, c0_2, c0_3, c1_2, c1_3, c2_3, hgw, nb5_bo, nb5_bc, nb5_b1, nb5_b4, nb5_bj, nb5_bw, d0_1, d0_2, d0_3, d1_2, d1_3, d2_3]
      repeat refine And.intro (by omega) ?_
      repeat refine And.intro (by omega) ?_
      intro g
      simp only [List.map_cons, List.map_nil, updL, upd, Nat.reduceEqDiff, if_true, if_false, ↓reduceIte]
      refine hK _ _ ?_; clear hK K
      refine Cd.seq ?_
      refine Cd.condd rfl (fun h2 => ?_) (fun h2 => ?_)
      · have hjl : j < LW.length := by omega
        have hi := hlt j hjl
        have hgj : csj[j]? = some (.int .i64 ((LW.getD j 0 : Nat) : Int)) := hrowj.get (by rw [ints_get (by rw [natL_len]; omega)]; simp [natL, List.getD_eq_getElem?_getD, List.getElem?_eq_getElem hjl])
        have htk : cdW n x o (LW.take (j + 1)) = cdW n x o (LW.take j) ++ cdL n x o (LW.getD j 0) := by
          rw [List.take_add_one, cdW_app, List.getD_eq_getElem?_getD, List.getElem?_eq_getElem hjl]
          show _ ++ (cdL n x o _ ++ []) = _
          rw [List.append_nil]; rfl
        have hcl : (cdW n x o (LW.take j)).length ≤ 200 := by
          have h1 := cdW_len n x o (LW.take j)
          have h2 : (LW.take j).length ≤ 8 := by rw [List.length_take]; omega
          have h3 := Nat.mul_le_mul (Nat.mul_le_mul (Nat.le_refl 2) hn) h2
          omega
        generalize LW.getD j 0 = i at *
        obtain ⟨a, ea, ha⟩ := nat_at hx hn hi hp
        obtain ⟨b, eb, hb⟩ := nat_at ho hn hi hq
        have hcd := cdL_eq (n := n) (x := x) (o := o) ea eb
        rw [hcd] at htk
        clear hcd
        have hpg : (plc x n).getD b 0 = (nextOf n x o i : Int) := by
          have h1 := plc_geti (x := x) (n := n) (r := (b : Int)) (by omega) (by omega)
          rw [Int.toNat_natCast] at h1
          rw [h1]; unfold nextOf; rw [eb]
        have hnl := nextOf_lt hx ho hn hp hq i hi
        refine Cd.skip ?_
        refine thenN ?_
        refine Cd.midq (fun ρ M => ∃ g v1 L1, SlN 1 (ints .i64 (cdW n x o (LW.take j) ++ ((if b < a then (fz (nm n x o i) n).reverse else fz (nm n x o i) n) ++ (if nextOf n x o i < i then (fz (fun j => -nm n x o j b) n).reverse else fz (fun j => -nm n x o j b) n)))) v1 L1 ∧ ρ = updL [(1, .pointer (some ⟨b1, 0, none⟩)), (3, .slice (some ⟨bc, 0, none⟩) m capc), (4, .pointer (some ⟨b4, 0, none⟩)), (5, .slice (some ⟨bo, 0, none⟩) p cap), (8, v1), (24, .slice (some ⟨bw, 0, none⟩) mw capw), (25, .int .i64 (mw : Int)), (26, .int .i64 (p : Int)), (31, .slice (some ⟨bj, 0, none⟩) LW.length capj), (32, .int .i64 (LW.length : Int)), (33, .int .i64 (j : Int))] g ∧ SubP ((bj, csj) :: (b4, ints .i64 (plc x n)) :: (b1, gc (n : Int) x o) :: (bc, csc) :: (R0 ++ L1)) M) ?_ ?_
        · refine Cd.block ?_
          skip
          refine Cd.rs [1, 3, 4, 5, 8, 10, 24, 25, 26, 31, 32, 33] fun K hK => ?_
          simp (maxSteps := 2000000) (disch := first | (simp only [E4, hl, hm, pl, c0_1, c0_2, c0_3, c1_2, c1_3, c2_3, hgw, nb5_bo, nb5_bc, nb5_b1, nb5_b4, nb5_bj, nb5_bw, d0_1, d0_2, d0_3, d1_2, d1_3, d2_3, hgj, ea, eb] <;> omega) | omega | fail) only [↓E2, E3, bare, bareJ, ↓E0, E1, evP, evPlan, env0, envN, evOps, evOp, evQs, evQ, evV, setD, pureOp, ev, upd, updL, gate, binW, eqOp, binV, intOp, shOp, boolOp, unV, convV, nilV, fieldAddrV, indexAddrV, extractV, cellAt, cellsAt, findB, setB, fillL, buildV, Value.cells, lenV, minV, maxV, hav, sliceV, loV, hiV, bslQ, mksQ, appQ, partsOk, partsCells, delB, eqL, SameI, strOp, apzQ, cvtQ, capV, ↓reduceIte, Zj, Zk, Nat.reduceAdd, Nat.reduceLT, Nat.reduceEqDiff, Nat.reduceMul, Nat.reduceLeDiff, if_true, Zn, reduceCtorEq, ZA, eq_self, Int.reduceLE, Int.reduceLT, Int.reduceToNat, ne_eq, Nat.reduceSub, Tld3, Tslc132, hl, hm, pl, c0_1, c0_2, c0_3, c1_2, c1_3, c2_3, hgw, nb5_bo, nb5_bc, nb5_b1, nb5_b4, nb5_bj, nb5_bw, d0_1, d0_2, d0_3, d1_2, d1_3, d2_3, hgj, ea, eb]
          repeat refine And.intro (by omega) ?_
          repeat refine And.intro (by omega) ?_
          intro g
          simp only [List.map_cons, List.map_nil, updL, upd, Nat.reduceEqDiff, if_true, if_false, ↓reduceIte]
          refine hK _ _ ?_; clear hK K
          refine Cd.rs [1, 3, 4, 5, 8, 10, 11, 24, 25, 26, 31, 32, 33] fun K hK => ?_
          simp (maxSteps := 2000000) (disch := first | (simp only [E4, hl, hm, pl, c0_1, c0_2, c0_3, c1_2, c1_3, c2_3, hgw, nb5_bo, nb5_bc, nb5_b1, nb5_b4, nb5_bj, nb5_bw, d0_1, d0_2, d0_3, d1_2, d1_3, d2_3, hgj, ea, eb] <;> omega) | omega | fail) only [↓E2, E3, bare, bareJ, ↓E0, E1, evP, evPlan, env0, envN, evOps, evOp, evQs, evQ, evV, setD, pureOp, ev, upd, updL, gate, binW, eqOp, binV, intOp, shOp, boolOp, unV, convV, nilV, fieldAddrV, indexAddrV, extractV, cellAt, cellsAt, findB, setB, fillL, buildV, Value.cells, lenV, minV, maxV, hav, sliceV, loV, hiV, bslQ, mksQ, appQ, partsOk, partsCells, delB, eqL, SameI, strOp, apzQ, cvtQ, capV, ↓reduceIte, Zj, Zk, Nat.reduceAdd, Nat.reduceLT, Nat.reduceEqDiff, Nat.reduceMul, Nat.reduceLeDiff, if_true, Zn, reduceCtorEq, ZA, eq_self, Int.reduceLE, Int.reduceLT, Int.reduceToNat, ne_eq, Nat.reduceSub, Tarr30, Tfld32_2, Tint3, Tld5, Tpar5, hl, hm, pl, c0_1, c0_2, c0_3, c1_2, c1_3, c2_3, hgw, nb5_bo, nb5_bc, nb5_b1, nb5_b4, nb5_bj, nb5_bw, d0_1, d0_2, d0_3, d1_2, d1_3, d2_3, hgj, ea, eb]
          repeat refine And.intro (by omega) ?_
          repeat refine And.intro (by omega) ?_
          intro g
          simp only [List.map_cons, List.map_nil, updL, upd, Nat.reduceEqDiff, if_true, if_false, ↓reduceIte]
          refine hK _ _ ?_; clear hK K
          refine Cd.rs [1, 3, 4, 5, 8, 10, 11, 12, 13, 24, 25, 26, 31, 32, 33] fun K hK => ?_
          simp (maxSteps := 2000000) (disch := first | (simp only [E4, hl, hm, pl, c0_1, c0_2, c0_3, c1_2, c1_3, c2_3, hgw, nb5_bo, nb5_bc, nb5_b1, nb5_b4, nb5_bj, nb5_bw, d0_1, d0_2, d0_3, d1_2, d1_3, d2_3, hgj, ea, eb] <;> omega) | omega | fail) only [↓E2, E3, bare, bareJ, ↓E0, E1, evP, evPlan, env0, envN, evOps, evOp, evQs, evQ, evV, setD, pureOp, ev, upd, updL, gate, binW, eqOp, binV, intOp, shOp, boolOp, unV, convV, nilV, fieldAddrV, indexAddrV, extractV, cellAt, cellsAt, findB, setB, fillL, buildV, Value.cells, lenV, minV, maxV, hav, sliceV, loV, hiV, bslQ, mksQ, appQ, partsOk, partsCells, delB, eqL, SameI, strOp, apzQ, cvtQ, capV, ↓reduceIte, Zj, Zk, Nat.reduceAdd, Nat.reduceLT, Nat.reduceEqDiff, Nat.reduceMul, Nat.reduceLeDiff, if_true, Zn, reduceCtorEq, ZA, eq_self, Int.reduceLE, Int.reduceLT, Int.reduceToNat, ne_eq, Nat.reduceSub, Tby2, Tslc47, Tslce47, Tzero2, hl, hm, pl, c0_1, c0_2, c0_3, c1_2, c1_3, c2_3, hgw, nb5_bo, nb5_bc, nb5_b1, nb5_b4, nb5_bj, nb5_bw, d0_1, d0_2, d0_3, d1_2, d1_3, d2_3, hgj, ea, eb]
          repeat refine And.intro (by omega) ?_
          intro b6 hb6
          have nb6_bc := hb6.ne
          have nb6_b1 := hb6.tail.ne
          have nb6_b4 := hb6.tail.tail.ne
          have nb6_bj := hb6.tail.tail.tail.ne
          intro b7 hb7
          have nb7_b6 := hb7.ne
          have nb7_bc := hb7.tail.ne
          have nb7_b1 := hb7.tail.tail.ne
          have nb7_b4 := hb7.tail.tail.tail.ne
          have nb7_bj := hb7.tail.tail.tail.tail.ne
          try simp (maxSteps := 2000000) (disch := first | (simp only [E4, hl, hm, pl, c0_1, c0_2, c0_3, c1_2, c1_3, c2_3, hgw, nb5_bo, nb5_bc, nb5_b1, nb5_b4, nb5_bj, nb5_bw, d0_1, d0_2, d0_3, d1_2, d1_3, d2_3, hgj, ea, eb, nb6_bc, nb6_b1, nb6_b4, nb6_bj, nb7_b6, nb7_bc, nb7_b1, nb7_b4, nb7_bj] <;> omega) | omega | fail) only [↓E2, E3, bare, bareJ, ↓E0, E1, evP, evPlan, env0, envN, evOps, evOp, evQs, evQ, evV, setD, pureOp, ev, upd, updL, gate, binW, eqOp, binV, intOp, shOp, boolOp, unV, convV, nilV, fieldAddrV, indexAddrV, extractV, cellAt, cellsAt, findB, setB, fillL, buildV, Value.cells, lenV, minV, maxV, hav, sliceV, loV, hiV, bslQ, mksQ, appQ, partsOk, partsCells, delB, eqL, SameI, strOp, apzQ, cvtQ, capV, ↓reduceIte, Zj, Zk, Nat.reduceAdd, Nat.reduceLT, Nat.reduceEqDiff, Nat.reduceMul, Nat.reduceLeDiff, if_true, Zn, reduceCtorEq, ZA, eq_self, Int.reduceLE, Int.reduceLT, Int.reduceToNat, ne_eq, Nat.reduceSub, Tby2, Tslc47, Tslce47, Tzero2, hl, hm, pl, c0_1, c0_2, c0_3, c1_2, c1_3, c2_3, hgw, nb5_bo, nb5_bc, nb5_b1, nb5_b4, nb5_bj, nb5_bw, d0_1, d0_2, d0_3, d1_2, d1_3, d2_3, hgj, ea, eb, nb6_bc, nb6_b1, nb6_b4, nb6_bj, nb7_b6, nb7_bc, nb7_b1, nb7_b4, nb7_bj]
          repeat refine And.intro (by omega) ?_
          repeat refine And.intro (by omega) ?_
          intro g
          simp only [List.map_cons, List.map_nil, updL, upd, Nat.reduceEqDiff, if_true, if_false, ↓reduceIte]
          refine hK _ _ ?_; clear hK K
          refine Cd.seq ?_
          refine Cd.rs [1, 3, 4, 5, 8, 10, 11, 12, 13, 24, 25, 26, 31, 32, 33, 44, 45, 46] fun K hK => ?_
          simp (maxSteps := 2000000) (disch := first | (simp only [E4, hl, hm, pl, c0_1, c0_2, c0_3, c1_2, c1_3, c2_3, hgw, nb5_bo, nb5_bc, nb5_b1, nb5_b4, nb5_bj, nb5_bw, d0_1, d0_2, d0_3, d1_2, d1_3, d2_3, hgj, ea, eb, nb6_bc, nb6_b1, nb6_b4, nb6_bj, nb7_b6, nb7_bc, nb7_b1, nb7_b4, nb7_bj] <;> omega) | omega | fail) only [↓E2, E3, bare, bareJ, ↓E0, E1, evP, evPlan, env0, envN, evOps, evOp, evQs, evQ, evV, setD, pureOp, ev, upd, updL, gate, binW, eqOp, binV, intOp, shOp, boolOp, unV, convV, nilV, fieldAddrV, indexAddrV, extractV, cellAt, cellsAt, findB, setB, fillL, buildV, Value.cells, lenV, minV, maxV, hav, sliceV, loV, hiV, bslQ, mksQ, appQ, partsOk, partsCells, delB, eqL, SameI, strOp, apzQ, cvtQ, capV, ↓reduceIte, Zj, Zk, Nat.reduceAdd, Nat.reduceLT, Nat.reduceEqDiff, Nat.reduceMul, Nat.reduceLeDiff, if_true, Zn, reduceCtorEq, ZA, eq_self, Int.reduceLE, Int.reduceLT, Int.reduceToNat, ne_eq, Nat.reduceSub, Tslce114, hl, hm, pl, c0_1, c0_2, c0_3, c1_2, c1_3, c2_3, hgw, nb5_bo, nb5_bc, nb5_b1, nb5_b4, nb5_bj, nb5_bw, d0_1, d0_2, d0_3, d1_2, d1_3, d2_3, hgj, ea, eb, nb6_bc, nb6_b1, nb6_b4, nb6_bj, nb7_b6, nb7_bc, nb7_b1, nb7_b4, nb7_bj]
          repeat refine And.intro (by omega) ?_
          repeat refine And.intro (by omega) ?_
          intro g
          simp only [List.map_cons, List.map_nil, updL, upd, Nat.reduceEqDiff, if_true, if_false, ↓reduceIte]
          refine hK _ _ ?_; clear hK K
          refine Cd.block ?_
          refine Cd.loop (fun q ρ M => ∃ g k bd nd capd csd ba na capa csa, k + q = m ∧ Row 1 (ints .i64 (dnT l (i : Int) k)) nd capd csd ∧ Row 1 (ints .i64 (acT l (b : Int) k)) na capa csa ∧ ρ = updL [(1, .pointer (some ⟨b1, 0, none⟩)), (3, .slice (some ⟨bc, 0, none⟩) m capc), (4, .pointer (some ⟨b4, 0, none⟩)), (5, .slice (some ⟨bo, 0, none⟩) p cap), (8, v1), (10, .int .i64 (i : Int)), (11, .int .i64 (b : Int)), (12, .slice (some ⟨bd, 0, none⟩) nd capd), (13, .slice (some ⟨ba, 0, none⟩) na capa), (24, .slice (some ⟨bw, 0, none⟩) mw capw), (25, .int .i64 (mw : Int)), (26, .int .i64 (p : Int)), (31, .slice (some ⟨bj, 0, none⟩) LW.length capj), (32, .int .i64 (LW.length : Int)), (33, .int .i64 (j : Int)), (44, .slice (some ⟨bc, 0, none⟩) m capc), (45, .int .i64 (m : Int)), (46, .int .i64 (k : Int))] g ∧ SubP ((bd, csd) :: (ba, csa) :: (bc, csc) :: (b4, ints .i64 (plc x n)) :: (b1, gc (n : Int) x o) :: (bj, csj) :: (R0 ++ L1)) M) m ⟨_, 0, b6, 0, 0, [], b7, 0, 0, [], Nat.zero_add _, Row.nil 1, Row.nil 1, rfl, ?_⟩ ?_
          · exact subP_cnt [] fun _ => by simp only [cnt_cons, cnt_append, cnt_nil]; omega
          rintro q3 ρ M ⟨g, k, bd, nd, capd, csd, ba, na, capa, csa, hk, hrd, hra, rfl, hM⟩
          refine Cd.sub hM ?_
          clear hM M
          refine Cd.nodup fun hnd3 => ?_
          have e0_1 : (bd = ba) = False := eq_false ((nodup_cases hnd3).1 (ba, csa) (by simp))
          have e0_2 : (bd = bc) = False := eq_false ((nodup_cases hnd3).1 (bc, csc) (by simp))
          have e1_2 : (ba = bc) = False := eq_false ((nodup_cases (nodup_cases hnd3).2).1 (bc, csc) (by simp))
          skip
          skip
          clear hnd3
          refine Cd.rs [1, 3, 4, 5, 8, 10, 11, 12, 13, 24, 25, 26, 31, 32, 33, 44, 45, 46, 47] fun K hK => ?_
          simp (maxSteps := 2000000) (disch := first | (simp only [E4, hl, hm, pl, c0_1, c0_2, c0_3, c1_2, c1_3, c2_3, hgw, nb5_bo, nb5_bc, nb5_b1, nb5_b4, nb5_bj, nb5_bw, d0_1, d0_2, d0_3, d1_2, d1_3, d2_3, hgj, ea, eb, nb6_bc, nb6_b1, nb6_b4, nb6_bj, nb7_b6, nb7_bc, nb7_b1, nb7_b4, nb7_bj, e0_1, e0_2, e1_2] <;> omega) | omega | fail) only [↓E2, E3, bare, bareJ, ↓E0, E1, evP, evPlan, env0, envN, evOps, evOp, evQs, evQ, evV, setD, pureOp, ev, upd, updL, gate, binW, eqOp, binV, intOp, shOp, boolOp, unV, convV, nilV, fieldAddrV, indexAddrV, extractV, cellAt, cellsAt, findB, setB, fillL, buildV, Value.cells, lenV, minV, maxV, hav, sliceV, loV, hiV, bslQ, mksQ, appQ, partsOk, partsCells, delB, eqL, SameI, strOp, apzQ, cvtQ, capV, ↓reduceIte, Zj, Zk, Nat.reduceAdd, Nat.reduceLT, Nat.reduceEqDiff, Nat.reduceMul, Nat.reduceLeDiff, if_true, Zn, reduceCtorEq, ZA, eq_self, Int.reduceLE, Int.reduceLT, Int.reduceToNat, ne_eq, Nat.reduceSub, hl, hm, pl, c0_1, c0_2, c0_3, c1_2, c1_3, c2_3, hgw, nb5_bo, nb5_bc, nb5_b1, nb5_b4, nb5_bj, nb5_bw, d0_1, d0_2, d0_3, d1_2, d1_3, d2_3, hgj, ea, eb, nb6_bc, nb6_b1, nb6_b4, nb6_bj, nb7_b6, nb7_bc, nb7_b1, nb7_b4, nb7_bj, e0_1, e0_2, e1_2]
          repeat refine And.intro (by omega) ?_
          repeat refine And.intro (by omega) ?_
          intro g
          simp only [List.map_cons, List.map_nil, updL, upd, Nat.reduceEqDiff, if_true, if_false, ↓reduceIte]
          refine hK _ _ ?_; clear hK K
          refine Cd.seq ?_
          refine Cd.condd rfl (fun h3 => ?_) (fun h3 => ?_)
          · have hkm : k < m := by omega
            obtain ⟨hlen3, hs3⟩ := row3 hrc hkm
            have dl := dn_len l (i : Int) k
            have dl2 := ac_len l (b : Int) k
            have dl3 := hrd.len1
            have dl4 := hra.len1
            rw [ints_length] at dl3 dl4
            refine Cd.skip ?_
            refine thenN ?_
            refine Cd.midq (fun ρ M => ∃ g bd nd capd csd ba na capa csa, Row 1 (ints .i64 (dnT l (i : Int) (k + 1))) nd capd csd ∧ Row 1 (ints .i64 (acT l (b : Int) (k + 1))) na capa csa ∧ ρ = updL [(1, .pointer (some ⟨b1, 0, none⟩)), (3, .slice (some ⟨bc, 0, none⟩) m capc), (4, .pointer (some ⟨b4, 0, none⟩)), (5, .slice (some ⟨bo, 0, none⟩) p cap), (8, v1), (10, .int .i64 (i : Int)), (11, .int .i64 (b : Int)), (12, .slice (some ⟨bd, 0, none⟩) nd capd), (13, .slice (some ⟨ba, 0, none⟩) na capa), (24, .slice (some ⟨bw, 0, none⟩) mw capw), (25, .int .i64 (mw : Int)), (26, .int .i64 (p : Int)), (31, .slice (some ⟨bj, 0, none⟩) LW.length capj), (32, .int .i64 (LW.length : Int)), (33, .int .i64 (j : Int)), (44, .slice (some ⟨bc, 0, none⟩) m capc), (45, .int .i64 (m : Int)), (46, .int .i64 (k : Int))] g ∧ SubP ((bd, csd) :: (ba, csa) :: (bc, csc) :: (b4, ints .i64 (plc x n)) :: (b1, gc (n : Int) x o) :: (bj, csj) :: (R0 ++ L1)) M) ?_ ?_
            · refine Cd.block ?_
              refine Cd.rs [1, 3, 4, 5, 8, 10, 11, 12, 13, 14, 15, 24, 25, 26, 31, 32, 33, 44, 45, 46] fun K hK => ?_
              simp (maxSteps := 2000000) (disch := first | (simp only [E4, hl, hm, pl, c0_1, c0_2, c0_3, c1_2, c1_3, c2_3, hgw, nb5_bo, nb5_bc, nb5_b1, nb5_b4, nb5_bj, nb5_bw, d0_1, d0_2, d0_3, d1_2, d1_3, d2_3, hgj, ea, eb, nb6_bc, nb6_b1, nb6_b4, nb6_bj, nb7_b6, nb7_bc, nb7_b1, nb7_b4, nb7_bj, e0_1, e0_2, e1_2] <;> omega) | omega | fail) only [↓E2, E3, bare, bareJ, ↓E0, E1, evP, evPlan, env0, envN, evOps, evOp, evQs, evQ, evV, setD, pureOp, ev, upd, updL, gate, binW, eqOp, binV, intOp, shOp, boolOp, unV, convV, nilV, fieldAddrV, indexAddrV, extractV, cellAt, cellsAt, findB, setB, fillL, buildV, Value.cells, lenV, minV, maxV, hav, sliceV, loV, hiV, bslQ, mksQ, appQ, partsOk, partsCells, delB, eqL, SameI, strOp, apzQ, cvtQ, capV, ↓reduceIte, Zj, Zk, Nat.reduceAdd, Nat.reduceLT, Nat.reduceEqDiff, Nat.reduceMul, Nat.reduceLeDiff, if_true, Zn, reduceCtorEq, ZA, eq_self, Int.reduceLE, Int.reduceLT, Int.reduceToNat, ne_eq, Nat.reduceSub, Tld117, Tslc114, Tst117, Tzero117, hl, hm, pl, c0_1, c0_2, c0_3, c1_2, c1_3, c2_3, hgw, nb5_bo, nb5_bc, nb5_b1, nb5_b4, nb5_bj, nb5_bw, d0_1, d0_2, d0_3, d1_2, d1_3, d2_3, hgj, ea, eb, nb6_bc, nb6_b1, nb6_b4, nb6_bj, nb7_b6, nb7_bc, nb7_b1, nb7_b4, nb7_bj, e0_1, e0_2, e1_2]
              repeat refine And.intro (by omega) ?_
              rw [if_pos hlen3, hs3]
              simp (maxSteps := 2000000) (disch := first | (simp only [E4, hl, hm, pl, c0_1, c0_2, c0_3, c1_2, c1_3, c2_3, hgw, nb5_bo, nb5_bc, nb5_b1, nb5_b4, nb5_bj, nb5_bw, d0_1, d0_2, d0_3, d1_2, d1_3, d2_3, hgj, ea, eb, nb6_bc, nb6_b1, nb6_b4, nb6_bj, nb7_b6, nb7_bc, nb7_b1, nb7_b4, nb7_bj, e0_1, e0_2, e1_2] <;> omega) | omega | fail) only [↓E2, E3, bare, bareJ, ↓E0, E1, evP, evPlan, env0, envN, evOps, evOp, evQs, evQ, evV, setD, pureOp, ev, upd, updL, gate, binW, eqOp, binV, intOp, shOp, boolOp, unV, convV, nilV, fieldAddrV, indexAddrV, extractV, cellAt, cellsAt, findB, setB, fillL, buildV, Value.cells, lenV, minV, maxV, hav, sliceV, loV, hiV, bslQ, mksQ, appQ, partsOk, partsCells, delB, eqL, SameI, strOp, apzQ, cvtQ, capV, ↓reduceIte, Zj, Zk, Nat.reduceAdd, Nat.reduceLT, Nat.reduceEqDiff, Nat.reduceMul, Nat.reduceLeDiff, if_true, Zn, reduceCtorEq, ZA, eq_self, Int.reduceLE, Int.reduceLT, Int.reduceToNat, ne_eq, Nat.reduceSub, Tld117, Tslc114, Tst117, Tzero117, hl, hm, pl, c0_1, c0_2, c0_3, c1_2, c1_3, c2_3, hgw, nb5_bo, nb5_bc, nb5_b1, nb5_b4, nb5_bj, nb5_bw, d0_1, d0_2, d0_3, d1_2, d1_3, d2_3, hgj, ea, eb, nb6_bc, nb6_b1, nb6_b4, nb6_bj, nb7_b6, nb7_bc, nb7_b1, nb7_b4, nb7_bj, e0_1, e0_2, e1_2]
              repeat refine And.intro (by omega) ?_
              intro b8 hb8
              have nb8_bc := hb8.ne
              have nb8_ba := hb8.tail.ne
              have nb8_bd := hb8.tail.tail.ne
              try simp (maxSteps := 2000000) (disch := first | (simp only [E4, hl, hm, pl, c0_1, c0_2, c0_3, c1_2, c1_3, c2_3, hgw, nb5_bo, nb5_bc, nb5_b1, nb5_b4, nb5_bj, nb5_bw, d0_1, d0_2, d0_3, d1_2, d1_3, d2_3, hgj, ea, eb, nb6_bc, nb6_b1, nb6_b4, nb6_bj, nb7_b6, nb7_bc, nb7_b1, nb7_b4, nb7_bj, e0_1, e0_2, e1_2, nb8_bc, nb8_ba, nb8_bd] <;> omega) | omega | fail) only [↓E2, E3, bare, bareJ, ↓E0, E1, evP, evPlan, env0, envN, evOps, evOp, evQs, evQ, evV, setD, pureOp, ev, upd, updL, gate, binW, eqOp, binV, intOp, shOp, boolOp, unV, convV, nilV, fieldAddrV, indexAddrV, extractV, cellAt, cellsAt, findB, setB, fillL, buildV, Value.cells, lenV, minV, maxV, hav, sliceV, loV, hiV, bslQ, mksQ, appQ, partsOk, partsCells, delB, eqL, SameI, strOp, apzQ, cvtQ, capV, ↓reduceIte, Zj, Zk, Nat.reduceAdd, Nat.reduceLT, Nat.reduceEqDiff, Nat.reduceMul, Nat.reduceLeDiff, if_true, Zn, reduceCtorEq, ZA, eq_self, Int.reduceLE, Int.reduceLT, Int.reduceToNat, ne_eq, Nat.reduceSub, Tld117, Tslc114, Tst117, Tzero117, hl, hm, pl, c0_1, c0_2, c0_3, c1_2, c1_3, c2_3, hgw, nb5_bo, nb5_bc, nb5_b1, nb5_b4, nb5_bj, nb5_bw, d0_1, d0_2, d0_3, d1_2, d1_3, d2_3, hgj, ea, eb, nb6_bc, nb6_b1, nb6_b4, nb6_bj, nb7_b6, nb7_bc, nb7_b1, nb7_b4, nb7_bj, e0_1, e0_2, e1_2, nb8_bc, nb8_ba, nb8_bd]
              repeat refine And.intro (by omega) ?_
              repeat refine And.intro (by omega) ?_
              intro g
              simp only [List.map_cons, List.map_nil, updL, upd, Nat.reduceEqDiff, if_true, if_false, ↓reduceIte]
              refine hK _ _ ?_; clear hK K
              have hd1 : dnT l (i : Int) (k + 1) = dnT l (i : Int) k ++ if l.getD (k * 3) 0 = (i : Int) then [(k : Int) + 1] else [] := rfl
              have ha1 : acT l (b : Int) (k + 1) = acT l (b : Int) k ++ if l.getD (k * 3 + 1) 0 = (b : Int) then [0 - ((k : Int) + 1)] else [] := by rw [Int.zero_sub]; rfl
              rw [hd1, ha1]
              have s1 := hrd.size1
              have s2 := hrd.le
              have s3 := hra.size1
              have s4 := hra.le
              refine Cd.midq (fun ρ M => ∃ g bd nd capd csd, Row 1 (ints .i64 (dnT l (i : Int) k ++ if l.getD (k * 3) 0 = (i : Int) then [(k : Int) + 1] else [])) nd capd csd ∧ ρ = updL [(1, .pointer (some ⟨b1, 0, none⟩)), (3, .slice (some ⟨bc, 0, none⟩) m capc), (4, .pointer (some ⟨b4, 0, none⟩)), (5, .slice (some ⟨bo, 0, none⟩) p cap), (8, v1), (10, .int .i64 (i : Int)), (11, .int .i64 (b : Int)), (12, .slice (some ⟨bd, 0, none⟩) nd capd), (13, .slice (some ⟨ba, 0, none⟩) na capa), (14, .int .i64 (k : Int)), (15, .pointer (some ⟨b8, 0, none⟩)), (24, .slice (some ⟨bw, 0, none⟩) mw capw), (25, .int .i64 (mw : Int)), (26, .int .i64 (p : Int)), (31, .slice (some ⟨bj, 0, none⟩) LW.length capj), (32, .int .i64 (LW.length : Int)), (33, .int .i64 (j : Int)), (44, .slice (some ⟨bc, 0, none⟩) m capc), (45, .int .i64 (m : Int)), (46, .int .i64 (k : Int))] g ∧ SubP ((b8, [.int .i64 (l.getD (k * 3) 0), .int .i64 (l.getD (k * 3 + 1) 0), .int .i64 (l.getD (k * 3 + 2) 0)]) :: (bd, csd) :: (ba, csa) :: (bc, csc) :: (b4, ints .i64 (plc x n)) :: (b1, gc (n : Int) x o) :: (bj, csj) :: (R0 ++ L1)) M) ?_ ?_
              · refine Cd.rs [1, 3, 4, 5, 8, 10, 11, 12, 13, 14, 15, 24, 25, 26, 31, 32, 33, 44, 45, 46, 54] fun K hK => ?_
                simp (maxSteps := 2000000) (disch := first | (simp only [E4, hl, hm, pl, c0_1, c0_2, c0_3, c1_2, c1_3, c2_3, hgw, nb5_bo, nb5_bc, nb5_b1, nb5_b4, nb5_bj, nb5_bw, d0_1, d0_2, d0_3, d1_2, d1_3, d2_3, hgj, ea, eb, nb6_bc, nb6_b1, nb6_b4, nb6_bj, nb7_b6, nb7_bc, nb7_b1, nb7_b4, nb7_bj, e0_1, e0_2, e1_2, nb8_bc, nb8_ba, nb8_bd] <;> omega) | omega | fail) only [↓E2, E3, bare, bareJ, ↓E0, E1, evP, evPlan, env0, envN, evOps, evOp, evQs, evQ, evV, setD, pureOp, ev, upd, updL, gate, binW, eqOp, binV, intOp, shOp, boolOp, unV, convV, nilV, fieldAddrV, indexAddrV, extractV, cellAt, cellsAt, findB, setB, fillL, buildV, Value.cells, lenV, minV, maxV, hav, sliceV, loV, hiV, bslQ, mksQ, appQ, partsOk, partsCells, delB, eqL, SameI, strOp, apzQ, cvtQ, capV, ↓reduceIte, Zj, Zk, Nat.reduceAdd, Nat.reduceLT, Nat.reduceEqDiff, Nat.reduceMul, Nat.reduceLeDiff, if_true, Zn, reduceCtorEq, ZA, eq_self, Int.reduceLE, Int.reduceLT, Int.reduceToNat, ne_eq, Nat.reduceSub, Tfld117_0, Tld2, hl, hm, pl, c0_1, c0_2, c0_3, c1_2, c1_3, c2_3, hgw, nb5_bo, nb5_bc, nb5_b1, nb5_b4, nb5_bj, nb5_bw, d0_1, d0_2, d0_3, d1_2, d1_3, d2_3, hgj, ea, eb, nb6_bc, nb6_b1, nb6_b4, nb6_bj, nb7_b6, nb7_bc, nb7_b1, nb7_b4, nb7_bj, e0_1, e0_2, e1_2, nb8_bc, nb8_ba, nb8_bd]
                repeat refine And.intro (by omega) ?_
                repeat refine And.intro (by omega) ?_
                intro g
                simp only [List.map_cons, List.map_nil, updL, upd, Nat.reduceEqDiff, if_true, if_false, ↓reduceIte]
                refine hK _ _ ?_; clear hK K
                refine Cd.cond rfl (fun h4 => ?_) (fun h4 => ?_)
                · simp only [decide_eq_true_eq, decide_eq_false_iff_not, beq_iff_eq, beq_eq_false_iff_ne, bne_iff_ne, bne_eq_false_iff_eq, Bool.and_eq_true, Bool.or_eq_true, Bool.or_eq_false_iff, Bool.not_eq_true', Bool.not_eq_false', Bool.and_eq_false_imp, ne_eq, gt_iff_lt, ge_iff_le, Int.not_lt, Int.not_le, Classical.not_not] at h4
                  rw [if_pos h4]
                  refine Cd.rr [1, 3, 4, 5, 8, 10, 11, 12, 13, 14, 15, 24, 25, 26, 31, 32, 33, 44, 45, 46] fun K hK => ?_
                  simp (maxSteps := 2000000) (disch := first | (simp only [E4, hl, hm, pl, c0_1, c0_2, c0_3, c1_2, c1_3, c2_3, hgw, nb5_bo, nb5_bc, nb5_b1, nb5_b4, nb5_bj, nb5_bw, d0_1, d0_2, d0_3, d1_2, d1_3, d2_3, hgj, ea, eb, nb6_bc, nb6_b1, nb6_b4, nb6_bj, nb7_b6, nb7_bc, nb7_b1, nb7_b4, nb7_bj, e0_1, e0_2, e1_2, nb8_bc, nb8_ba, nb8_bd] <;> omega) | omega | fail) only [↓E2, E3, bare, bareJ, ↓E0, E1, evP, evPlan, env0, envN, evOps, evOp, evQs, evQ, evV, setD, pureOp, ev, upd, updL, gate, binW, eqOp, binV, intOp, shOp, boolOp, unV, convV, nilV, fieldAddrV, indexAddrV, extractV, cellAt, cellsAt, findB, setB, fillL, buildV, Value.cells, lenV, minV, maxV, hav, sliceV, loV, hiV, bslQ, mksQ, appQ, partsOk, partsCells, delB, eqL, SameI, strOp, apzQ, cvtQ, capV, ↓reduceIte, Zj, Zk, Nat.reduceAdd, Nat.reduceLT, Nat.reduceEqDiff, Nat.reduceMul, Nat.reduceLeDiff, if_true, Zn, reduceCtorEq, ZA, eq_self, Int.reduceLE, Int.reduceLT, Int.reduceToNat, ne_eq, Nat.reduceSub, Tby2, Tslc47, Tslce47, Tzero2, hl, hm, pl, c0_1, c0_2, c0_3, c1_2, c1_3, c2_3, hgw, nb5_bo, nb5_bc, nb5_b1, nb5_b4, nb5_bj, nb5_bw, d0_1, d0_2, d0_3, d1_2, d1_3, d2_3, hgj, ea, eb, nb6_bc, nb6_b1, nb6_b4, nb6_bj, nb7_b6, nb7_bc, nb7_b1, nb7_b4, nb7_bj, e0_1, e0_2, e1_2, nb8_bc, nb8_ba, nb8_bd]
                  repeat refine And.intro (by omega) ?_
                  intro b9 hb9
                  have nb9_b8 := hb9.ne
                  have nb9_bc := hb9.tail.ne
                  have nb9_ba := hb9.tail.tail.ne
                  have nb9_bd := hb9.tail.tail.tail.ne
                  try simp (maxSteps := 2000000) (disch := first | (simp only [E4, hl, hm, pl, c0_1, c0_2, c0_3, c1_2, c1_3, c2_3, hgw, nb5_bo, nb5_bc, nb5_b1, nb5_b4, nb5_bj, nb5_bw, d0_1, d0_2, d0_3, d1_2, d1_3, d2_3, hgj, ea, eb, nb6_bc, nb6_b1, nb6_b4, nb6_bj, nb7_b6, nb7_bc, nb7_b1, nb7_b4, nb7_bj, e0_1, e0_2, e1_2, nb8_bc, nb8_ba, nb8_bd, nb9_b8, nb9_bc, nb9_ba, nb9_bd] <;> omega) | omega | fail) only [↓E2, E3, bare, bareJ, ↓E0, E1, evP, evPlan, env0, envN, evOps, evOp, evQs, evQ, evV, setD, pureOp, ev, upd, updL, gate, binW, eqOp, binV, intOp, shOp, boolOp, unV, convV, nilV, fieldAddrV, indexAddrV, extractV, cellAt, cellsAt, findB, setB, fillL, buildV, Value.cells, lenV, minV, maxV, hav, sliceV, loV, hiV, bslQ, mksQ, appQ, partsOk, partsCells, delB, eqL, SameI, strOp, apzQ, cvtQ, capV, ↓reduceIte, Zj, Zk, Nat.reduceAdd, Nat.reduceLT, Nat.reduceEqDiff, Nat.reduceMul, Nat.reduceLeDiff, if_true, Zn, reduceCtorEq, ZA, eq_self, Int.reduceLE, Int.reduceLT, Int.reduceToNat, ne_eq, Nat.reduceSub, Tby2, Tslc47, Tslce47, Tzero2, hl, hm, pl, c0_1, c0_2, c0_3, c1_2, c1_3, c2_3, hgw, nb5_bo, nb5_bc, nb5_b1, nb5_b4, nb5_bj, nb5_bw, d0_1, d0_2, d0_3, d1_2, d1_3, d2_3, hgj, ea, eb, nb6_bc, nb6_b1, nb6_b4, nb6_bj, nb7_b6, nb7_bc, nb7_b1, nb7_b4, nb7_bj, e0_1, e0_2, e1_2, nb8_bc, nb8_ba, nb8_bd, nb9_b8, nb9_bc, nb9_ba, nb9_bd]
                  repeat refine And.intro (by omega) ?_
                  intro b' cap' rest' hf hc hr'
                  have hr2 := hrd.snoc1 (m' := 1) (news := [.int .i64 ((k : Int) + 1)]) rfl hc hr'
                  rw [ints_snoc] at hr2
                  repeat refine And.intro (by omega) ?_
                  intro g
                  simp only [List.map_cons, List.map_nil, updL, upd, Nat.reduceEqDiff, if_true, if_false, ↓reduceIte]
                  refine hK _ _ ?_; clear hK K
                  exact midN ⟨_, b', _, cap', _, hr2, rfl, by exact subP_cnt [(b9, [.int .i64 ((k : Int) + 1)])] fun _ => by simp only [cnt_cons, cnt_append, cnt_nil]; omega⟩
                · simp only [decide_eq_true_eq, decide_eq_false_iff_not, beq_iff_eq, beq_eq_false_iff_ne, bne_iff_ne, bne_eq_false_iff_eq, Bool.and_eq_true, Bool.or_eq_true, Bool.or_eq_false_iff, Bool.not_eq_true', Bool.not_eq_false', Bool.and_eq_false_imp, ne_eq, gt_iff_lt, ge_iff_le, Int.not_lt, Int.not_le, Classical.not_not] at h4
                  rw [if_neg h4, List.append_nil]
                  refine Cd.skip ?_
                  exact midN ⟨_, bd, nd, capd, csd, hrd, rfl, SubP.refl _⟩
              · rintro ρ M ⟨g, bd, nd, capd, csd, hrd, rfl, hM⟩
                refine Cd.sub hM ?_
                clear hM M
                refine Cd.nodup fun hnd4 => ?_
                have f0_1 : (b8 = bd) = False := eq_false ((nodup_cases hnd4).1 (bd, csd) (by simp))
                have f0_2 : (b8 = ba) = False := eq_false ((nodup_cases hnd4).1 (ba, csa) (by simp))
                have f1_2 : (bd = ba) = False := eq_false ((nodup_cases (nodup_cases hnd4).2).1 (ba, csa) (by simp))
                skip
                skip
                clear hnd4
                refine Cd.rs [1, 3, 4, 5, 8, 10, 11, 12, 13, 14, 24, 25, 26, 31, 32, 33, 44, 45, 46, 63] fun K hK => ?_
                simp (maxSteps := 2000000) (disch := first | (simp only [E4, hl, hm, pl, c0_1, c0_2, c0_3, c1_2, c1_3, c2_3, hgw, nb5_bo, nb5_bc, nb5_b1, nb5_b4, nb5_bj, nb5_bw, d0_1, d0_2, d0_3, d1_2, d1_3, d2_3, hgj, ea, eb, nb6_bc, nb6_b1, nb6_b4, nb6_bj, nb7_b6, nb7_bc, nb7_b1, nb7_b4, nb7_bj, e0_1, e0_2, e1_2, nb8_bc, nb8_ba, nb8_bd, f0_1, f0_2, f1_2] <;> omega) | omega | fail) only [↓E2, E3, bare, bareJ, ↓E0, E1, evP, evPlan, env0, envN, evOps, evOp, evQs, evQ, evV, setD, pureOp, ev, upd, updL, gate, binW, eqOp, binV, intOp, shOp, boolOp, unV, convV, nilV, fieldAddrV, indexAddrV, extractV, cellAt, cellsAt, findB, setB, fillL, buildV, Value.cells, lenV, minV, maxV, hav, sliceV, loV, hiV, bslQ, mksQ, appQ, partsOk, partsCells, delB, eqL, SameI, strOp, apzQ, cvtQ, capV, ↓reduceIte, Zj, Zk, Nat.reduceAdd, Nat.reduceLT, Nat.reduceEqDiff, Nat.reduceMul, Nat.reduceLeDiff, if_true, Zn, reduceCtorEq, ZA, eq_self, Int.reduceLE, Int.reduceLT, Int.reduceToNat, ne_eq, Nat.reduceSub, Tfld117_1, Tld2, hl, hm, pl, c0_1, c0_2, c0_3, c1_2, c1_3, c2_3, hgw, nb5_bo, nb5_bc, nb5_b1, nb5_b4, nb5_bj, nb5_bw, d0_1, d0_2, d0_3, d1_2, d1_3, d2_3, hgj, ea, eb, nb6_bc, nb6_b1, nb6_b4, nb6_bj, nb7_b6, nb7_bc, nb7_b1, nb7_b4, nb7_bj, e0_1, e0_2, e1_2, nb8_bc, nb8_ba, nb8_bd, f0_1, f0_2, f1_2]
                repeat refine And.intro (by omega) ?_
                repeat refine And.intro (by omega) ?_
                intro g
                simp only [List.map_cons, List.map_nil, updL, upd, Nat.reduceEqDiff, if_true, if_false, ↓reduceIte]
                refine hK _ _ ?_; clear hK K
                refine Cd.cond rfl (fun h5 => ?_) (fun h5 => ?_)
                · simp only [decide_eq_true_eq, decide_eq_false_iff_not, beq_iff_eq, beq_eq_false_iff_ne, bne_iff_ne, bne_eq_false_iff_eq, Bool.and_eq_true, Bool.or_eq_true, Bool.or_eq_false_iff, Bool.not_eq_true', Bool.not_eq_false', Bool.and_eq_false_imp, ne_eq, gt_iff_lt, ge_iff_le, Int.not_lt, Int.not_le, Classical.not_not] at h5
                  rw [if_pos h5]
                  refine Cd.rr [1, 3, 4, 5, 8, 10, 11, 12, 13, 24, 25, 26, 31, 32, 33, 44, 45, 46] fun K hK => ?_
                  simp (maxSteps := 2000000) (disch := first | (simp only [E4, hl, hm, pl, c0_1, c0_2, c0_3, c1_2, c1_3, c2_3, hgw, nb5_bo, nb5_bc, nb5_b1, nb5_b4, nb5_bj, nb5_bw, d0_1, d0_2, d0_3, d1_2, d1_3, d2_3, hgj, ea, eb, nb6_bc, nb6_b1, nb6_b4, nb6_bj, nb7_b6, nb7_bc, nb7_b1, nb7_b4, nb7_bj, e0_1, e0_2, e1_2, nb8_bc, nb8_ba, nb8_bd, f0_1, f0_2, f1_2] <;> omega) | omega | fail) only [↓E2, E3, bare, bareJ, ↓E0, E1, evP, evPlan, env0, envN, evOps, evOp, evQs, evQ, evV, setD, pureOp, ev, upd, updL, gate, binW, eqOp, binV, intOp, shOp, boolOp, unV, convV, nilV, fieldAddrV, indexAddrV, extractV, cellAt, cellsAt, findB, setB, fillL, buildV, Value.cells, lenV, minV, maxV, hav, sliceV, loV, hiV, bslQ, mksQ, appQ, partsOk, partsCells, delB, eqL, SameI, strOp, apzQ, cvtQ, capV, ↓reduceIte, Zj, Zk, Nat.reduceAdd, Nat.reduceLT, Nat.reduceEqDiff, Nat.reduceMul, Nat.reduceLeDiff, if_true, Zn, reduceCtorEq, ZA, eq_self, Int.reduceLE, Int.reduceLT, Int.reduceToNat, ne_eq, Nat.reduceSub, Tby2, Tslc47, Tslce47, Tzero2, hl, hm, pl, c0_1, c0_2, c0_3, c1_2, c1_3, c2_3, hgw, nb5_bo, nb5_bc, nb5_b1, nb5_b4, nb5_bj, nb5_bw, d0_1, d0_2, d0_3, d1_2, d1_3, d2_3, hgj, ea, eb, nb6_bc, nb6_b1, nb6_b4, nb6_bj, nb7_b6, nb7_bc, nb7_b1, nb7_b4, nb7_bj, e0_1, e0_2, e1_2, nb8_bc, nb8_ba, nb8_bd, f0_1, f0_2, f1_2]
                  repeat refine And.intro (by omega) ?_
                  intro b9 hb9
                  have nb9_ba := hb9.ne
                  have nb9_bd := hb9.tail.ne
                  have nb9_b8 := hb9.tail.tail.ne
                  try simp (maxSteps := 2000000) (disch := first | (simp only [E4, hl, hm, pl, c0_1, c0_2, c0_3, c1_2, c1_3, c2_3, hgw, nb5_bo, nb5_bc, nb5_b1, nb5_b4, nb5_bj, nb5_bw, d0_1, d0_2, d0_3, d1_2, d1_3, d2_3, hgj, ea, eb, nb6_bc, nb6_b1, nb6_b4, nb6_bj, nb7_b6, nb7_bc, nb7_b1, nb7_b4, nb7_bj, e0_1, e0_2, e1_2, nb8_bc, nb8_ba, nb8_bd, f0_1, f0_2, f1_2, nb9_ba, nb9_bd, nb9_b8] <;> omega) | omega | fail) only [↓E2, E3, bare, bareJ, ↓E0, E1, evP, evPlan, env0, envN, evOps, evOp, evQs, evQ, evV, setD, pureOp, ev, upd, updL, gate, binW, eqOp, binV, intOp, shOp, boolOp, unV, convV, nilV, fieldAddrV, indexAddrV, extractV, cellAt, cellsAt, findB, setB, fillL, buildV, Value.cells, lenV, minV, maxV, hav, sliceV, loV, hiV, bslQ, mksQ, appQ, partsOk, partsCells, delB, eqL, SameI, strOp, apzQ, cvtQ, capV, ↓reduceIte, Zj, Zk, Nat.reduceAdd, Nat.reduceLT, Nat.reduceEqDiff, Nat.reduceMul, Nat.reduceLeDiff, if_true, Zn, reduceCtorEq, ZA, eq_self, Int.reduceLE, Int.reduceLT, Int.reduceToNat, ne_eq, Nat.reduceSub, Tby2, Tslc47, Tslce47, Tzero2, hl, hm, pl, c0_1, c0_2, c0_3, c1_2, c1_3, c2_3, hgw, nb5_bo, nb5_bc, nb5_b1, nb5_b4, nb5_bj, nb5_bw, d0_1, d0_2, d0_3, d1_2, d1_3, d2_3, hgj, ea, eb, nb6_bc, nb6_b1, nb6_b4, nb6_bj, nb7_b6, nb7_bc, nb7_b1, nb7_b4, nb7_bj, e0_1, e0_2, e1_2, nb8_bc, nb8_ba, nb8_bd, f0_1, f0_2, f1_2, nb9_ba, nb9_bd, nb9_b8]
                  repeat refine And.intro (by omega) ?_
                  intro b' cap' rest' hf hc hr'
                  have hr2 := hra.snoc1 (m' := 1) (news := [.int .i64 (0 - ((k : Int) + 1))]) rfl hc hr'
                  rw [ints_snoc] at hr2
                  repeat refine And.intro (by omega) ?_
                  intro g
                  simp only [List.map_cons, List.map_nil, updL, upd, Nat.reduceEqDiff, if_true, if_false, ↓reduceIte]
                  refine hK _ _ ?_; clear hK K
                  refine inBN ?_
                  exact midN ⟨_, bd, nd, capd, csd, b', _, cap', _, hrd, hr2, rfl, by exact subP_cnt [(b9, [.int .i64 (0 - ((k : Int) + 1))]), (b8, [.int .i64 (l.getD (k * 3) 0), .int .i64 (l.getD (k * 3 + 1) 0), .int .i64 (l.getD (k * 3 + 2) 0)])] fun _ => by simp only [cnt_cons, cnt_append, cnt_nil]; omega⟩
                · simp only [decide_eq_true_eq, decide_eq_false_iff_not, beq_iff_eq, beq_eq_false_iff_ne, bne_iff_ne, bne_eq_false_iff_eq, Bool.and_eq_true, Bool.or_eq_true, Bool.or_eq_false_iff, Bool.not_eq_true', Bool.not_eq_false', Bool.and_eq_false_imp, ne_eq, gt_iff_lt, ge_iff_le, Int.not_lt, Int.not_le, Classical.not_not] at h5
                  rw [if_neg h5, List.append_nil]
                  refine Cd.skip ?_
                  refine inBN ?_
                  exact midN ⟨_, bd, nd, capd, csd, ba, na, capa, csa, hrd, hra, (norm_of (by repeat (first | exact trivial | refine And.intro rfl ?_))), by exact subP_cnt [(b8, [.int .i64 (l.getD (k * 3) 0), .int .i64 (l.getD (k * 3 + 1) 0), .int .i64 (l.getD (k * 3 + 2) 0)])] fun _ => by simp only [cnt_cons, cnt_append, cnt_nil]; omega⟩
            · rintro ρ M ⟨g, bd, nd, capd, csd, ba, na, capa, csa, hrd, hra, rfl, hM⟩
              refine Cd.sub hM ?_
              clear hM M
              refine Cd.rr [1, 3, 4, 5, 8, 10, 11, 12, 13, 24, 25, 26, 31, 32, 33, 44, 45, 46] fun K hK => ?_
              simp (maxSteps := 2000000) (disch := first | (simp only [E4, hl, hm, pl, c0_1, c0_2, c0_3, c1_2, c1_3, c2_3, hgw, nb5_bo, nb5_bc, nb5_b1, nb5_b4, nb5_bj, nb5_bw, d0_1, d0_2, d0_3, d1_2, d1_3, d2_3, hgj, ea, eb, nb6_bc, nb6_b1, nb6_b4, nb6_bj, nb7_b6, nb7_bc, nb7_b1, nb7_b4, nb7_bj, e0_1, e0_2, e1_2] <;> omega) | omega | fail) only [↓E2, E3, bare, bareJ, ↓E0, E1, evP, evPlan, env0, envN, evOps, evOp, evQs, evQ, evV, setD, pureOp, ev, upd, updL, gate, binW, eqOp, binV, intOp, shOp, boolOp, unV, convV, nilV, fieldAddrV, indexAddrV, extractV, cellAt, cellsAt, findB, setB, fillL, buildV, Value.cells, lenV, minV, maxV, hav, sliceV, loV, hiV, bslQ, mksQ, appQ, partsOk, partsCells, delB, eqL, SameI, strOp, apzQ, cvtQ, capV, ↓reduceIte, Zj, Zk, Nat.reduceAdd, Nat.reduceLT, Nat.reduceEqDiff, Nat.reduceMul, Nat.reduceLeDiff, if_true, Zn, reduceCtorEq, ZA, eq_self, Int.reduceLE, Int.reduceLT, Int.reduceToNat, ne_eq, Nat.reduceSub, hl, hm, pl, c0_1, c0_2, c0_3, c1_2, c1_3, c2_3, hgw, nb5_bo, nb5_bc, nb5_b1, nb5_b4, nb5_bj, nb5_bw, d0_1, d0_2, d0_3, d1_2, d1_3, d2_3, hgj, ea, eb, nb6_bc, nb6_b1, nb6_b4, nb6_bj, nb7_b6, nb7_bc, nb7_b1, nb7_b4, nb7_bj, e0_1, e0_2, e1_2]
              repeat refine And.intro (by omega) ?_
              repeat refine And.intro (by omega) ?_
              intro g
              simp only [List.map_cons, List.map_nil, updL, upd, Nat.reduceEqDiff, if_true, if_false, ↓reduceIte]
              refine hK _ _ ?_; clear hK K
              exact roundN (m := q3 - 1) (by omega) ⟨_, k + 1, bd, nd, capd, csd, ba, na, capa, csa, by omega, hrd, hra, rfl, SubP.refl _⟩
          · refine Cd.exit (thenX (roundX (inBX ?_)))
            refine thenN ?_
            obtain rfl : m = k := by omega
            rw [hdn i hi] at hrd
            rw [hac b hb] at hra
            have fl1 := fz_len (F := nm n x o i) n
            have fl2 := fz_len (F := fun j => -nm n x o j b) n
            refine Cd.sub (M' := (b4, ints .i64 (plc x n)) :: (b1, gc (n : Int) x o) :: (ba, csa) :: (bc, csc) :: (bj, csj) :: ((R0 ++ L1) ++ [(bd, csd)])) (by exact subP_cnt [] fun _ => by simp only [cnt_cons, cnt_append, cnt_nil]; omega) ?_
            skip
            refine Cd.midq (fun ρ M => ∃ g v12 Ld, SlN 1 (ints .i64 (if b < a then (fz (nm n x o i) n).reverse else fz (nm n x o i) n)) v12 Ld ∧ ρ = updL [(1, .pointer (some ⟨b1, 0, none⟩)), (3, .slice (some ⟨bc, 0, none⟩) m capc), (4, .pointer (some ⟨b4, 0, none⟩)), (5, .slice (some ⟨bo, 0, none⟩) p cap), (8, v1), (10, .int .i64 (i : Int)), (11, .int .i64 (b : Int)), (12, v12), (13, .slice (some ⟨ba, 0, none⟩) na capa), (24, .slice (some ⟨bw, 0, none⟩) mw capw), (25, .int .i64 (mw : Int)), (26, .int .i64 (p : Int)), (31, .slice (some ⟨bj, 0, none⟩) LW.length capj), (32, .int .i64 (LW.length : Int)), (33, .int .i64 (j : Int))] g ∧ SubP ((b4, ints .i64 (plc x n)) :: (b1, gc (n : Int) x o) :: (ba, csa) :: (bc, csc) :: (bj, csj) :: ((R0 ++ L1) ++ Ld)) M) ?_ ?_
            · refine Cd.qs [1, 3, 4, 5, 8, 10, 11, 12, 13, 24, 25, 26, 31, 32, 33, 79] fol (by kernel_rfl) fun K hK => ?_
              simp (maxSteps := 2000000) (disch := first | (simp only [E4, hl, hm, pl, c0_1, c0_2, c0_3, c1_2, c1_3, c2_3, hgw, nb5_bo, nb5_bc, nb5_b1, nb5_b4, nb5_bj, nb5_bw, d0_1, d0_2, d0_3, d1_2, d1_3, d2_3, hgj, ea, eb, nb6_bc, nb6_b1, nb6_b4, nb6_bj, nb7_b6, nb7_bc, nb7_b1, nb7_b4, nb7_bj, e0_1, e0_2, e1_2] <;> omega) | omega | fail) only [↓E2, E3, bare, bareJ, ↓E0, E1, evP, evPlan, env0, envN, evOps, evOp, evQs, evQ, evV, setD, pureOp, ev, upd, updL, gate, binW, eqOp, binV, intOp, shOp, boolOp, unV, convV, nilV, fieldAddrV, indexAddrV, extractV, cellAt, cellsAt, findB, setB, fillL, buildV, Value.cells, lenV, minV, maxV, hav, sliceV, loV, hiV, bslQ, mksQ, appQ, partsOk, partsCells, delB, eqL, SameI, strOp, apzQ, cvtQ, capV, ↓reduceIte, Zj, Zk, Nat.reduceAdd, Nat.reduceLT, Nat.reduceEqDiff, Nat.reduceMul, Nat.reduceLeDiff, if_true, Zn, reduceCtorEq, ZA, eq_self, Int.reduceLE, Int.reduceLT, Int.reduceToNat, ne_eq, Nat.reduceSub, Tarr30, Tfld32_1, Tfld32_2, Tld5, hl, hm, pl, c0_1, c0_2, c0_3, c1_2, c1_3, c2_3, hgw, nb5_bo, nb5_bc, nb5_b1, nb5_b4, nb5_bj, nb5_bw, d0_1, d0_2, d0_3, d1_2, d1_3, d2_3, hgj, ea, eb, nb6_bc, nb6_b1, nb6_b4, nb6_bj, nb7_b6, nb7_bc, nb7_b1, nb7_b4, nb7_bj, e0_1, e0_2, e1_2]
              repeat refine And.intro (by omega) ?_
              repeat refine And.intro (by omega) ?_
              intro g
              simp only [List.map_cons, List.map_nil, updL, upd, Nat.reduceEqDiff, if_true, if_false, ↓reduceIte]
              refine hK _ ?_; clear hK K
              refine Cd.cond rfl (fun h6 => ?_) (fun h6 => ?_)
              · simp only [decide_eq_true_eq, decide_eq_false_iff_not, beq_iff_eq, beq_eq_false_iff_ne, bne_iff_ne, bne_eq_false_iff_eq, Bool.and_eq_true, Bool.or_eq_true, Bool.or_eq_false_iff, Bool.not_eq_true', Bool.not_eq_false', Bool.and_eq_false_imp, ne_eq, gt_iff_lt, ge_iff_le, Int.not_lt, Int.not_le, Classical.not_not] at h6
                rw [if_pos (show b < a by omega)]
                refine Cd.sub (M' := ((b4, ints .i64 (plc x n)) :: (b1, gc (n : Int) x o) :: (ba, csa) :: (bc, csc) :: (bj, csj) :: (R0 ++ L1)) ++ [(bd, csd)]) (by exact subP_cnt [] fun _ => by simp only [cnt_cons, cnt_append, cnt_nil]; omega) ?_
                refine Cd.nodup fun hnd6 => ?_
                refine Cd.rr [1, 3, 4, 5, 8, 10, 11, 12, 13, 24, 25, 26, 31, 32, 33] fun K hK => ?_
                simp (maxSteps := 2000000) (disch := first | (simp only [E4, hl, hm, pl, c0_1, c0_2, c0_3, c1_2, c1_3, c2_3, hgw, nb5_bo, nb5_bc, nb5_b1, nb5_b4, nb5_bj, nb5_bw, d0_1, d0_2, d0_3, d1_2, d1_3, d2_3, hgj, ea, eb, nb6_bc, nb6_b1, nb6_b4, nb6_bj, nb7_b6, nb7_bc, nb7_b1, nb7_b4, nb7_bj, e0_1, e0_2, e1_2] <;> omega) | omega | fail) only [↓E2, E3, bare, bareJ, ↓E0, E1, evP, evPlan, env0, envN, evOps, evOp, evQs, evQ, evV, setD, pureOp, ev, upd, updL, gate, binW, eqOp, binV, intOp, shOp, boolOp, unV, convV, nilV, fieldAddrV, indexAddrV, extractV, cellAt, cellsAt, findB, setB, fillL, buildV, Value.cells, lenV, minV, maxV, hav, sliceV, loV, hiV, bslQ, mksQ, appQ, partsOk, partsCells, delB, eqL, SameI, strOp, apzQ, cvtQ, capV, ↓reduceIte, Zj, Zk, Nat.reduceAdd, Nat.reduceLT, Nat.reduceEqDiff, Nat.reduceMul, Nat.reduceLeDiff, if_true, Zn, reduceCtorEq, ZA, eq_self, Int.reduceLE, Int.reduceLT, Int.reduceToNat, ne_eq, Nat.reduceSub, hl, hm, pl, c0_1, c0_2, c0_3, c1_2, c1_3, c2_3, hgw, nb5_bo, nb5_bc, nb5_b1, nb5_b4, nb5_bj, nb5_bw, d0_1, d0_2, d0_3, d1_2, d1_3, d2_3, hgj, ea, eb, nb6_bc, nb6_b1, nb6_b4, nb6_bj, nb7_b6, nb7_bc, nb7_b1, nb7_b4, nb7_bj, e0_1, e0_2, e1_2]
                repeat refine And.intro (by omega) ?_
                refine callK_lentB0 (Mr := (b4, ints .i64 (plc x n)) :: (b1, gc (n : Int) x o) :: (ba, csa) :: (bc, csc) :: (bj, csj) :: (R0 ++ L1)) (Reverse_c _ _ _ (SlN.row hrd) (by omega)) hnd6 rfl (fun w _ => toldW_nil) ?_
                intro r M3 hs3 nd3 _
                simp (maxSteps := 2000000) (disch := first | (simp only [E4, hl, hm, pl, c0_1, c0_2, c0_3, c1_2, c1_3, c2_3, hgw, nb5_bo, nb5_bc, nb5_b1, nb5_b4, nb5_bj, nb5_bw, d0_1, d0_2, d0_3, d1_2, d1_3, d2_3, hgj, ea, eb, nb6_bc, nb6_b1, nb6_b4, nb6_bj, nb7_b6, nb7_bc, nb7_b1, nb7_b4, nb7_bj, e0_1, e0_2, e1_2] <;> omega) | omega | fail) only [↓E2, E3, bare, bareJ, ↓E0, E1, evP, evPlan, env0, envN, evOps, evOp, evQs, evQ, evV, setD, pureOp, ev, upd, updL, gate, binW, eqOp, binV, intOp, shOp, boolOp, unV, convV, nilV, fieldAddrV, indexAddrV, extractV, cellAt, cellsAt, findB, setB, fillL, buildV, Value.cells, lenV, minV, maxV, hav, sliceV, loV, hiV, bslQ, mksQ, appQ, partsOk, partsCells, delB, eqL, SameI, strOp, apzQ, cvtQ, capV, ↓reduceIte, Zj, Zk, Nat.reduceAdd, Nat.reduceLT, Nat.reduceEqDiff, Nat.reduceMul, Nat.reduceLeDiff, if_true, Zn, reduceCtorEq, ZA, eq_self, Int.reduceLE, Int.reduceLT, Int.reduceToNat, ne_eq, Nat.reduceSub, hl, hm, pl, c0_1, c0_2, c0_3, c1_2, c1_3, c2_3, hgw, nb5_bo, nb5_bc, nb5_b1, nb5_b4, nb5_bj, nb5_bw, d0_1, d0_2, d0_3, d1_2, d1_3, d2_3, hgj, ea, eb, nb6_bc, nb6_b1, nb6_b4, nb6_bj, nb7_b6, nb7_bc, nb7_b1, nb7_b4, nb7_bj, e0_1, e0_2, e1_2]
                repeat refine And.intro (by omega) ?_
                repeat refine And.intro (by omega) ?_
                intro g
                simp only [List.map_cons, List.map_nil, updL, upd, Nat.reduceEqDiff, if_true, if_false, ↓reduceIte]
                refine hK _ _ ?_; clear hK K
                exact midN ⟨_, _, M3, hs3, rfl, by exact subP_cnt [] fun _ => by simp only [cnt_cons, cnt_append, cnt_nil]; omega⟩
              · simp only [decide_eq_true_eq, decide_eq_false_iff_not, beq_iff_eq, beq_eq_false_iff_ne, bne_iff_ne, bne_eq_false_iff_eq, Bool.and_eq_true, Bool.or_eq_true, Bool.or_eq_false_iff, Bool.not_eq_true', Bool.not_eq_false', Bool.and_eq_false_imp, ne_eq, gt_iff_lt, ge_iff_le, Int.not_lt, Int.not_le, Classical.not_not] at h6
                rw [if_neg (show ¬ b < a by omega)]
                refine Cd.skip ?_
                exact midN ⟨_, _, [(bd, csd)], SlN.row hrd, (norm_of (by repeat (first | exact trivial | refine And.intro rfl ?_))), SubP.refl _⟩
            · rintro ρ M ⟨g, v12, Ld, hv12, rfl, hM⟩
              refine Cd.sub hM ?_
              clear hM M
              skip
              refine Cd.midq (fun ρ M => ∃ g v13 La, SlN 1 (ints .i64 (if nextOf n x o i < i then (fz (fun j => -nm n x o j b) n).reverse else fz (fun j => -nm n x o j b) n)) v13 La ∧ ρ = updL [(1, .pointer (some ⟨b1, 0, none⟩)), (3, .slice (some ⟨bc, 0, none⟩) m capc), (4, .pointer (some ⟨b4, 0, none⟩)), (5, .slice (some ⟨bo, 0, none⟩) p cap), (8, v1), (12, v12), (13, v13), (24, .slice (some ⟨bw, 0, none⟩) mw capw), (25, .int .i64 (mw : Int)), (26, .int .i64 (p : Int)), (31, .slice (some ⟨bj, 0, none⟩) LW.length capj), (32, .int .i64 (LW.length : Int)), (33, .int .i64 (j : Int))] g ∧ SubP ((b4, ints .i64 (plc x n)) :: (b1, gc (n : Int) x o) :: (bc, csc) :: (bj, csj) :: (((R0 ++ L1) ++ Ld) ++ La)) M) ?_ ?_
              · skip
                refine Cd.rs [1, 3, 4, 5, 8, 12, 13, 24, 25, 26, 31, 32, 33, 86] fun K hK => ?_
                simp (maxSteps := 2000000) (disch := first | (simp only [E4, hl, hm, pl, c0_1, c0_2, c0_3, c1_2, c1_3, c2_3, hgw, nb5_bo, nb5_bc, nb5_b1, nb5_b4, nb5_bj, nb5_bw, d0_1, d0_2, d0_3, d1_2, d1_3, d2_3, hgj, ea, eb, nb6_bc, nb6_b1, nb6_b4, nb6_bj, nb7_b6, nb7_bc, nb7_b1, nb7_b4, nb7_bj, e0_1, e0_2, e1_2, hpg] <;> omega) | omega | fail) only [↓E2, E3, bare, bareJ, ↓E0, E1, evP, evPlan, env0, envN, evOps, evOp, evQs, evQ, evV, setD, pureOp, ev, upd, updL, gate, binW, eqOp, binV, intOp, shOp, boolOp, unV, convV, nilV, fieldAddrV, indexAddrV, extractV, cellAt, cellsAt, findB, setB, fillL, buildV, Value.cells, lenV, minV, maxV, hav, sliceV, loV, hiV, bslQ, mksQ, appQ, partsOk, partsCells, delB, eqL, SameI, strOp, apzQ, cvtQ, capV, ↓reduceIte, Zj, Zk, Nat.reduceAdd, Nat.reduceLT, Nat.reduceEqDiff, Nat.reduceMul, Nat.reduceLeDiff, if_true, Zn, reduceCtorEq, ZA, eq_self, Int.reduceLE, Int.reduceLT, Int.reduceToNat, ne_eq, Nat.reduceSub, Tarr100, Tld3, hl, hm, pl, c0_1, c0_2, c0_3, c1_2, c1_3, c2_3, hgw, nb5_bo, nb5_bc, nb5_b1, nb5_b4, nb5_bj, nb5_bw, d0_1, d0_2, d0_3, d1_2, d1_3, d2_3, hgj, ea, eb, nb6_bc, nb6_b1, nb6_b4, nb6_bj, nb7_b6, nb7_bc, nb7_b1, nb7_b4, nb7_bj, e0_1, e0_2, e1_2, hpg]
                repeat refine And.intro (by omega) ?_
                repeat refine And.intro (by omega) ?_
                intro g
                simp only [List.map_cons, List.map_nil, updL, upd, Nat.reduceEqDiff, if_true, if_false, ↓reduceIte]
                refine hK _ _ ?_; clear hK K
                refine Cd.cond rfl (fun h7 => ?_) (fun h7 => ?_)
                · simp only [decide_eq_true_eq, decide_eq_false_iff_not, beq_iff_eq, beq_eq_false_iff_ne, bne_iff_ne, bne_eq_false_iff_eq, Bool.and_eq_true, Bool.or_eq_true, Bool.or_eq_false_iff, Bool.not_eq_true', Bool.not_eq_false', Bool.and_eq_false_imp, ne_eq, gt_iff_lt, ge_iff_le, Int.not_lt, Int.not_le, Classical.not_not] at h7
                  rw [if_pos (show nextOf n x o i < i by omega)]
                  refine Cd.sub (M' := ((b4, ints .i64 (plc x n)) :: (b1, gc (n : Int) x o) :: (bc, csc) :: (bj, csj) :: ((R0 ++ L1) ++ Ld)) ++ [(ba, csa)]) (by exact subP_cnt [] fun _ => by simp only [cnt_cons, cnt_append, cnt_nil]; omega) ?_
                  refine Cd.nodup fun hnd6 => ?_
                  refine Cd.rr [1, 3, 4, 5, 8, 12, 13, 24, 25, 26, 31, 32, 33] fun K hK => ?_
                  simp (maxSteps := 2000000) (disch := first | (simp only [E4, hl, hm, pl, c0_1, c0_2, c0_3, c1_2, c1_3, c2_3, hgw, nb5_bo, nb5_bc, nb5_b1, nb5_b4, nb5_bj, nb5_bw, d0_1, d0_2, d0_3, d1_2, d1_3, d2_3, hgj, ea, eb, nb6_bc, nb6_b1, nb6_b4, nb6_bj, nb7_b6, nb7_bc, nb7_b1, nb7_b4, nb7_bj, e0_1, e0_2, e1_2, hpg] <;> omega) | omega | fail) only [↓E2, E3, bare, bareJ, ↓E0, E1, evP, evPlan, env0, envN, evOps, evOp, evQs, evQ, evV, setD, pureOp, ev, upd, updL, gate, binW, eqOp, binV, intOp, shOp, boolOp, unV, convV, nilV, fieldAddrV, indexAddrV, extractV, cellAt, cellsAt, findB, setB, fillL, buildV, Value.cells, lenV, minV, maxV, hav, sliceV, loV, hiV, bslQ, mksQ, appQ, partsOk, partsCells, delB, eqL, SameI, strOp, apzQ, cvtQ, capV, ↓reduceIte, Zj, Zk, Nat.reduceAdd, Nat.reduceLT, Nat.reduceEqDiff, Nat.reduceMul, Nat.reduceLeDiff, if_true, Zn, reduceCtorEq, ZA, eq_self, Int.reduceLE, Int.reduceLT, Int.reduceToNat, ne_eq, Nat.reduceSub, hl, hm, pl, c0_1, c0_2, c0_3, c1_2, c1_3, c2_3, hgw, nb5_bo, nb5_bc, nb5_b1, nb5_b4, nb5_bj, nb5_bw, d0_1, d0_2, d0_3, d1_2, d1_3, d2_3, hgj, ea, eb, nb6_bc, nb6_b1, nb6_b4, nb6_bj, nb7_b6, nb7_bc, nb7_b1, nb7_b4, nb7_bj, e0_1, e0_2, e1_2, hpg]
                  repeat refine And.intro (by omega) ?_
                  refine callK_lentB0 (Mr := (b4, ints .i64 (plc x n)) :: (b1, gc (n : Int) x o) :: (bc, csc) :: (bj, csj) :: ((R0 ++ L1) ++ Ld)) (Reverse_c _ _ _ (SlN.row hra) (by omega)) hnd6 rfl (fun w _ => toldW_nil) ?_
                  intro r M3 hs3 nd3 _
                  simp (maxSteps := 2000000) (disch := first | (simp only [E4, hl, hm, pl, c0_1, c0_2, c0_3, c1_2, c1_3, c2_3, hgw, nb5_bo, nb5_bc, nb5_b1, nb5_b4, nb5_bj, nb5_bw, d0_1, d0_2, d0_3, d1_2, d1_3, d2_3, hgj, ea, eb, nb6_bc, nb6_b1, nb6_b4, nb6_bj, nb7_b6, nb7_bc, nb7_b1, nb7_b4, nb7_bj, e0_1, e0_2, e1_2, hpg] <;> omega) | omega | fail) only [↓E2, E3, bare, bareJ, ↓E0, E1, evP, evPlan, env0, envN, evOps, evOp, evQs, evQ, evV, setD, pureOp, ev, upd, updL, gate, binW, eqOp, binV, intOp, shOp, boolOp, unV, convV, nilV, fieldAddrV, indexAddrV, extractV, cellAt, cellsAt, findB, setB, fillL, buildV, Value.cells, lenV, minV, maxV, hav, sliceV, loV, hiV, bslQ, mksQ, appQ, partsOk, partsCells, delB, eqL, SameI, strOp, apzQ, cvtQ, capV, ↓reduceIte, Zj, Zk, Nat.reduceAdd, Nat.reduceLT, Nat.reduceEqDiff, Nat.reduceMul, Nat.reduceLeDiff, if_true, Zn, reduceCtorEq, ZA, eq_self, Int.reduceLE, Int.reduceLT, Int.reduceToNat, ne_eq, Nat.reduceSub, hl, hm, pl, c0_1, c0_2, c0_3, c1_2, c1_3, c2_3, hgw, nb5_bo, nb5_bc, nb5_b1, nb5_b4, nb5_bj, nb5_bw, d0_1, d0_2, d0_3, d1_2, d1_3, d2_3, hgj, ea, eb, nb6_bc, nb6_b1, nb6_b4, nb6_bj, nb7_b6, nb7_bc, nb7_b1, nb7_b4, nb7_bj, e0_1, e0_2, e1_2, hpg]
                  repeat refine And.intro (by omega) ?_
                  repeat refine And.intro (by omega) ?_
                  intro g
                  simp only [List.map_cons, List.map_nil, updL, upd, Nat.reduceEqDiff, if_true, if_false, ↓reduceIte]
                  refine hK _ _ ?_; clear hK K
                  exact midN ⟨_, _, M3, hs3, rfl, by exact subP_cnt [] fun _ => by simp only [cnt_cons, cnt_append, cnt_nil]; omega⟩
                · simp only [decide_eq_true_eq, decide_eq_false_iff_not, beq_iff_eq, beq_eq_false_iff_ne, bne_iff_ne, bne_eq_false_iff_eq, Bool.and_eq_true, Bool.or_eq_true, Bool.or_eq_false_iff, Bool.not_eq_true', Bool.not_eq_false', Bool.and_eq_false_imp, ne_eq, gt_iff_lt, ge_iff_le, Int.not_lt, Int.not_le, Classical.not_not] at h7
                  rw [if_neg (show ¬ nextOf n x o i < i by omega)]
                  refine Cd.skip ?_
                  exact midN ⟨_, _, [(ba, csa)], SlN.row hra, (norm_of (by repeat (first | exact trivial | refine And.intro rfl ?_))), by exact subP_cnt [] fun _ => by simp only [cnt_cons, cnt_append, cnt_nil]; omega⟩
              · rintro ρ M ⟨g, v13, La, hv13, rfl, hM⟩
                refine Cd.sub hM ?_
                clear hM M
                have dnl : (if b < a then (fz (nm n x o i) n).reverse else fz (nm n x o i) n).length ≤ 8 := by
                  split <;> first | omega | (rw [List.length_reverse]; omega)
                have acl : (if nextOf n x o i < i then (fz (fun j => -nm n x o j b) n).reverse else fz (fun j => -nm n x o j b) n).length ≤ 8 := by
                  split <;> first | omega | (rw [List.length_reverse]; omega)
                generalize (if b < a then (fz (nm n x o i) n).reverse else fz (nm n x o i) n) = DN at *
                generalize (if nextOf n x o i < i then (fz (fun j => -nm n x o j b) n).reverse else fz (fun j => -nm n x o j b) n) = AC at *
                obtain ⟨a1, m1, c1, rfl⟩ := id hv1.form
                obtain ⟨a2, m2, c2, rfl⟩ := id hv12.form
                obtain ⟨a3, m3, c3, rfl⟩ := id hv13.form
                refine Cd.rr [1, 3, 4, 5, 8, 24, 25, 26, 31, 32, 33] fun K hK => ?_
                simp (maxSteps := 2000000) (disch := first | (simp only [E4, hl, hm, pl, c0_1, c0_2, c0_3, c1_2, c1_3, c2_3, hgw, nb5_bo, nb5_bc, nb5_b1, nb5_b4, nb5_bj, nb5_bw, d0_1, d0_2, d0_3, d1_2, d1_3, d2_3, hgj, ea, eb, nb6_bc, nb6_b1, nb6_b4, nb6_bj, nb7_b6, nb7_bc, nb7_b1, nb7_b4, nb7_bj, e0_1, e0_2, e1_2] <;> omega) | omega | fail) only [↓E2, E3, bare, bareJ, ↓E0, E1, evP, evPlan, env0, envN, evOps, evOp, evQs, evQ, evV, setD, pureOp, ev, upd, updL, gate, binW, eqOp, binV, intOp, shOp, boolOp, unV, convV, nilV, fieldAddrV, indexAddrV, extractV, cellAt, cellsAt, findB, setB, fillL, buildV, Value.cells, lenV, minV, maxV, hav, sliceV, loV, hiV, bslQ, mksQ, appQ, partsOk, partsCells, delB, eqL, SameI, strOp, apzQ, cvtQ, capV, ↓reduceIte, Zj, Zk, Nat.reduceAdd, Nat.reduceLT, Nat.reduceEqDiff, Nat.reduceMul, Nat.reduceLeDiff, if_true, Zn, reduceCtorEq, ZA, eq_self, Int.reduceLE, Int.reduceLT, Int.reduceToNat, ne_eq, Nat.reduceSub, Tby47, Tslc43, Tslce43, Tzero47, hl, hm, pl, c0_1, c0_2, c0_3, c1_2, c1_3, c2_3, hgw, nb5_bo, nb5_bc, nb5_b1, nb5_b4, nb5_bj, nb5_bw, d0_1, d0_2, d0_3, d1_2, d1_3, d2_3, hgj, ea, eb, nb6_bc, nb6_b1, nb6_b4, nb6_bj, nb7_b6, nb7_bc, nb7_b1, nb7_b4, nb7_bj, e0_1, e0_2, e1_2]
                repeat refine And.intro (by omega) ?_
                intro b10 hb10
                have nb10_b1 := hb10.ne
                have nb10_b4 := hb10.tail.ne
                try simp (maxSteps := 2000000) (disch := first | (simp only [E4, hl, hm, pl, c0_1, c0_2, c0_3, c1_2, c1_3, c2_3, hgw, nb5_bo, nb5_bc, nb5_b1, nb5_b4, nb5_bj, nb5_bw, d0_1, d0_2, d0_3, d1_2, d1_3, d2_3, hgj, ea, eb, nb6_bc, nb6_b1, nb6_b4, nb6_bj, nb7_b6, nb7_bc, nb7_b1, nb7_b4, nb7_bj, e0_1, e0_2, e1_2, nb10_b1, nb10_b4] <;> omega) | omega | fail) only [↓E2, E3, bare, bareJ, ↓E0, E1, evP, evPlan, env0, envN, evOps, evOp, evQs, evQ, evV, setD, pureOp, ev, upd, updL, gate, binW, eqOp, binV, intOp, shOp, boolOp, unV, convV, nilV, fieldAddrV, indexAddrV, extractV, cellAt, cellsAt, findB, setB, fillL, buildV, Value.cells, lenV, minV, maxV, hav, sliceV, loV, hiV, bslQ, mksQ, appQ, partsOk, partsCells, delB, eqL, SameI, strOp, apzQ, cvtQ, capV, ↓reduceIte, Zj, Zk, Nat.reduceAdd, Nat.reduceLT, Nat.reduceEqDiff, Nat.reduceMul, Nat.reduceLeDiff, if_true, Zn, reduceCtorEq, ZA, eq_self, Int.reduceLE, Int.reduceLT, Int.reduceToNat, ne_eq, Nat.reduceSub, Tby47, Tslc43, Tslce43, Tzero47, hl, hm, pl, c0_1, c0_2, c0_3, c1_2, c1_3, c2_3, hgw, nb5_bo, nb5_bc, nb5_b1, nb5_b4, nb5_bj, nb5_bw, d0_1, d0_2, d0_3, d1_2, d1_3, d2_3, hgj, ea, eb, nb6_bc, nb6_b1, nb6_b4, nb6_bj, nb7_b6, nb7_bc, nb7_b1, nb7_b4, nb7_bj, e0_1, e0_2, e1_2, nb10_b1, nb10_b4]
                repeat refine And.intro (by omega) ?_
                refine callK_newR0 (Concat3_c (cdW n x o (LW.take j)) DN AC (toldOf ((b10, [.slice a1 m1 c1, .slice a2 m2 c2, .slice a3 m3 c3]) :: (L1 ++ (Ld ++ La)))) _ _ _ _ ((SlN.row (Row.full (w := 1) (m := 3) rfl)).reads fun p hp => mem_toldOf (by simp only [List.mem_singleton] at hp; simp [hp])) (hv1.reads fun p hp => mem_toldOf (by simp [hp])) (hv12.reads fun p hp => mem_toldOf (by simp [hp])) (hv13.reads fun p hp => mem_toldOf (by simp [hp])) (by omega) (by omega) (by omega)) (toldW_mem fun p hp => by simp only [List.mem_cons, List.mem_append] at hp ⊢; rcases hp with h | h | h | h <;> simp [h]) ?_
                rintro v5 M5 hv5 nd5 _
                simp (maxSteps := 2000000) (disch := first | (simp only [E4, hl, hm, pl, c0_1, c0_2, c0_3, c1_2, c1_3, c2_3, hgw, nb5_bo, nb5_bc, nb5_b1, nb5_b4, nb5_bj, nb5_bw, d0_1, d0_2, d0_3, d1_2, d1_3, d2_3, hgj, ea, eb, nb6_bc, nb6_b1, nb6_b4, nb6_bj, nb7_b6, nb7_bc, nb7_b1, nb7_b4, nb7_bj, e0_1, e0_2, e1_2, nb10_b1, nb10_b4] <;> omega) | omega | fail) only [↓E2, E3, bare, bareJ, ↓E0, E1, evP, evPlan, env0, envN, evOps, evOp, evQs, evQ, evV, setD, pureOp, ev, upd, updL, gate, binW, eqOp, binV, intOp, shOp, boolOp, unV, convV, nilV, fieldAddrV, indexAddrV, extractV, cellAt, cellsAt, findB, setB, fillL, buildV, Value.cells, lenV, minV, maxV, hav, sliceV, loV, hiV, bslQ, mksQ, appQ, partsOk, partsCells, delB, eqL, SameI, strOp, apzQ, cvtQ, capV, ↓reduceIte, Zj, Zk, Nat.reduceAdd, Nat.reduceLT, Nat.reduceEqDiff, Nat.reduceMul, Nat.reduceLeDiff, if_true, Zn, reduceCtorEq, ZA, eq_self, Int.reduceLE, Int.reduceLT, Int.reduceToNat, ne_eq, Nat.reduceSub, Tby47, Tslc43, Tslce43, Tzero47, hl, hm, pl, c0_1, c0_2, c0_3, c1_2, c1_3, c2_3, hgw, nb5_bo, nb5_bc, nb5_b1, nb5_b4, nb5_bj, nb5_bw, d0_1, d0_2, d0_3, d1_2, d1_3, d2_3, hgj, ea, eb, nb6_bc, nb6_b1, nb6_b4, nb6_bj, nb7_b6, nb7_bc, nb7_b1, nb7_b4, nb7_bj, e0_1, e0_2, e1_2, nb10_b1, nb10_b4]
                repeat refine And.intro (by omega) ?_
                repeat refine And.intro (by omega) ?_
                intro g
                simp only [List.map_cons, List.map_nil, updL, upd, Nat.reduceEqDiff, if_true, if_false, ↓reduceIte]
                refine hK _ _ ?_; clear hK K
                refine inBN ?_
                exact midN ⟨_, v5, M5, hv5, rfl, by exact subP_cnt ((b10, [.slice a1 m1 c1] ++ ([.slice a2 m2 c2] ++ [.slice a3 m3 c3])) :: (L1 ++ (Ld ++ La))) fun _ => by simp only [cnt_cons, cnt_append, cnt_nil]; omega⟩
        · rintro ρ M ⟨g, v1, L1, hv1, rfl, hM⟩
          refine Cd.sub hM ?_
          clear hM M
          refine Cd.rr [1, 3, 4, 5, 8, 24, 25, 26, 31, 32, 33] fun K hK => ?_
          simp (maxSteps := 2000000) (disch := first | (simp only [E4, hl, hm, pl, c0_1, c0_2, c0_3, c1_2, c1_3, c2_3, hgw, nb5_bo, nb5_bc, nb5_b1, nb5_b4, nb5_bj, nb5_bw, d0_1, d0_2, d0_3, d1_2, d1_3, d2_3] <;> omega) | omega | fail) only [↓E2, E3, bare, bareJ, ↓E0, E1, evP, evPlan, env0, envN, evOps, evOp, evQs, evQ, evV, setD, pureOp, ev, upd, updL, gate, binW, eqOp, binV, intOp, shOp, boolOp, unV, convV, nilV, fieldAddrV, indexAddrV, extractV, cellAt, cellsAt, findB, setB, fillL, buildV, Value.cells, lenV, minV, maxV, hav, sliceV, loV, hiV, bslQ, mksQ, appQ, partsOk, partsCells, delB, eqL, SameI, strOp, apzQ, cvtQ, capV, ↓reduceIte, Zj, Zk, Nat.reduceAdd, Nat.reduceLT, Nat.reduceEqDiff, Nat.reduceMul, Nat.reduceLeDiff, if_true, Zn, reduceCtorEq, ZA, eq_self, Int.reduceLE, Int.reduceLT, Int.reduceToNat, ne_eq, Nat.reduceSub, hl, hm, pl, c0_1, c0_2, c0_3, c1_2, c1_3, c2_3, hgw, nb5_bo, nb5_bc, nb5_b1, nb5_b4, nb5_bj, nb5_bw, d0_1, d0_2, d0_3, d1_2, d1_3, d2_3]
          repeat refine And.intro (by omega) ?_
          repeat refine And.intro (by omega) ?_
          intro g
          simp only [List.map_cons, List.map_nil, updL, upd, Nat.reduceEqDiff, if_true, if_false, ↓reduceIte]
          refine hK _ _ ?_; clear hK K
          exact roundN (m := q2 - 1) (by omega) ⟨_, j + 1, v1, L1, by omega, by rw [htk]; exact hv1, rfl, SubP.refl _⟩
      · refine Cd.exit (thenX (roundX (inBX ?_)))
        refine thenN ?_
        rw [List.take_of_length_le (by omega)] at hv1
        obtain ⟨a1, m1, c1, rfl⟩ := id hv1.form
        subst hR0
        refine Cd.sub (M' := (bo, cs) :: (b4, ints .i64 (plc x n)) :: (b1, gc (n : Int) x o) :: (bc, csc) :: ((bw, csw) :: (bj, csj) :: (A ++ (B ++ (Mi ++ L1))))) (by exact subP_cnt [] fun _ => by simp only [cnt_cons, cnt_append, cnt_nil]; omega) ?_
        have t1 := hrow.size1
        have t2 := hrow.le
        skip
        refine Cd.rr [1, 3, 4, 5, 24, 25, 26] fun K hK => ?_
        simp (maxSteps := 2000000) (disch := first | (simp only [E4, hl, hm, pl, c0_1, c0_2, c0_3, c1_2, c1_3, c2_3, hgw, nb5_bo, nb5_bc, nb5_b1, nb5_b4, nb5_bj, nb5_bw, d0_1, d0_2, d0_3, d1_2, d1_3, d2_3] <;> omega) | omega | fail) only [↓E2, E3, bare, bareJ, ↓E0, E1, evP, evPlan, env0, envN, evOps, evOp, evQs, evQ, evV, setD, pureOp, ev, upd, updL, gate, binW, eqOp, binV, intOp, shOp, boolOp, unV, convV, nilV, fieldAddrV, indexAddrV, extractV, cellAt, cellsAt, findB, setB, fillL, buildV, Value.cells, lenV, minV, maxV, hav, sliceV, loV, hiV, bslQ, mksQ, appQ, partsOk, partsCells, delB, eqL, SameI, strOp, apzQ, cvtQ, capV, ↓reduceIte, Zj, Zk, Nat.reduceAdd, Nat.reduceLT, Nat.reduceEqDiff, Nat.reduceMul, Nat.reduceLeDiff, if_true, Zn, reduceCtorEq, ZA, eq_self, Int.reduceLE, Int.reduceLT, Int.reduceToNat, ne_eq, Nat.reduceSub, Tby47, Tslc43, Tslce43, Tzero47, hl, hm, pl, c0_1, c0_2, c0_3, c1_2, c1_3, c2_3, hgw, nb5_bo, nb5_bc, nb5_b1, nb5_b4, nb5_bj, nb5_bw, d0_1, d0_2, d0_3, d1_2, d1_3, d2_3]
        repeat refine And.intro (by omega) ?_
        intro b8 hb8
        have nb8_bc := hb8.ne
        have nb8_b1 := hb8.tail.ne
        have nb8_b4 := hb8.tail.tail.ne
        have nb8_bo := hb8.tail.tail.tail.ne
        try simp (maxSteps := 2000000) (disch := first | (simp only [E4, hl, hm, pl, c0_1, c0_2, c0_3, c1_2, c1_3, c2_3, hgw, nb5_bo, nb5_bc, nb5_b1, nb5_b4, nb5_bj, nb5_bw, d0_1, d0_2, d0_3, d1_2, d1_3, d2_3, nb8_bc, nb8_b1, nb8_b4, nb8_bo] <;> omega) | omega | fail) only [↓E2, E3, bare, bareJ, ↓E0, E1, evP, evPlan, env0, envN, evOps, evOp, evQs, evQ, evV, setD, pureOp, ev, upd, updL, gate, binW, eqOp, binV, intOp, shOp, boolOp, unV, convV, nilV, fieldAddrV, indexAddrV, extractV, cellAt, cellsAt, findB, setB, fillL, buildV, Value.cells, lenV, minV, maxV, hav, sliceV, loV, hiV, bslQ, mksQ, appQ, partsOk, partsCells, delB, eqL, SameI, strOp, apzQ, cvtQ, capV, ↓reduceIte, Zj, Zk, Nat.reduceAdd, Nat.reduceLT, Nat.reduceEqDiff, Nat.reduceMul, Nat.reduceLeDiff, if_true, Zn, reduceCtorEq, ZA, eq_self, Int.reduceLE, Int.reduceLT, Int.reduceToNat, ne_eq, Nat.reduceSub, Tby47, Tslc43, Tslce43, Tzero47, hl, hm, pl, c0_1, c0_2, c0_3, c1_2, c1_3, c2_3, hgw, nb5_bo, nb5_bc, nb5_b1, nb5_b4, nb5_bj, nb5_bw, d0_1, d0_2, d0_3, d1_2, d1_3, d2_3, nb8_bc, nb8_b1, nb8_b4, nb8_bo]
        repeat refine And.intro (by omega) ?_
        intro b' cap' rest' hf hc hr'
        have hr2 := hrow.snoc1 (m' := 1) (news := [.slice a1 m1 c1]) rfl hc hr'
        repeat refine And.intro (by omega) ?_
        intro g
        simp only [List.map_cons, List.map_nil, updL, upd, Nat.reduceEqDiff, if_true, if_false, ↓reduceIte]
        refine hK _ _ ?_; clear hK K
        refine inBN ?_
        refine thenN ?_
        refine Cd.rr [1, 3, 4, 5, 24, 25, 26] fun K hK => ?_
        simp (maxSteps := 2000000) (disch := first | (simp only [E4, hl, hm, pl, c0_1, c0_2, c0_3, c1_2, c1_3, c2_3, hgw, nb5_bo, nb5_bc, nb5_b1, nb5_b4, nb5_bj, nb5_bw, d0_1, d0_2, d0_3, d1_2, d1_3, d2_3, nb8_bc, nb8_b1, nb8_b4, nb8_bo] <;> omega) | omega | fail) only [↓E2, E3, bare, bareJ, ↓E0, E1, evP, evPlan, env0, envN, evOps, evOp, evQs, evQ, evV, setD, pureOp, ev, upd, updL, gate, binW, eqOp, binV, intOp, shOp, boolOp, unV, convV, nilV, fieldAddrV, indexAddrV, extractV, cellAt, cellsAt, findB, setB, fillL, buildV, Value.cells, lenV, minV, maxV, hav, sliceV, loV, hiV, bslQ, mksQ, appQ, partsOk, partsCells, delB, eqL, SameI, strOp, apzQ, cvtQ, capV, ↓reduceIte, Zj, Zk, Nat.reduceAdd, Nat.reduceLT, Nat.reduceEqDiff, Nat.reduceMul, Nat.reduceLeDiff, if_true, Zn, reduceCtorEq, ZA, eq_self, Int.reduceLE, Int.reduceLT, Int.reduceToNat, ne_eq, Nat.reduceSub, hl, hm, pl, c0_1, c0_2, c0_3, c1_2, c1_3, c2_3, hgw, nb5_bo, nb5_bc, nb5_b1, nb5_b4, nb5_bj, nb5_bw, d0_1, d0_2, d0_3, d1_2, d1_3, d2_3, nb8_bc, nb8_b1, nb8_b4, nb8_bo]
        repeat refine And.intro (by omega) ?_
        repeat refine And.intro (by omega) ?_
        intro g
        simp only [List.map_cons, List.map_nil, updL, upd, Nat.reduceEqDiff, if_true, if_false, ↓reduceIte]
        refine hK _ _ ?_; clear hK K
        refine roundN (m := q - 1) (by omega) ⟨_, p + 1, b', cap', _, _, L1 ++ Mi, by omega, hr2, ?_, rfl, by exact subP_cnt [(b8, [.slice a1 m1 c1])] fun _ => by simp only [cnt_cons, cnt_append, cnt_nil]; omega⟩
        rw [hgr]
        exact .snoc hrows hv1
    · refine Cd.exit (thenX (roundX (inBX ?_)))
      refine thenN ?_
      obtain rfl : p = mw := by omega
      have hgl : (gaussL n x o).length = p := by unfold gaussL; rw [List.length_map, hwn, hmw]
      rw [List.take_of_length_le (by omega)] at hrows
      refine Cd.rs [2] fun K hK => ?_
      simp (maxSteps := 2000000) (disch := first | (simp only [E4, hl, hm, pl, c0_1, c0_2, c0_3, c1_2, c1_3, c2_3] <;> omega) | omega | fail) only [↓E2, E3, bare, bareJ, ↓E0, E1, evP, evPlan, env0, envN, evOps, evOp, evQs, evQ, evV, setD, pureOp, ev, upd, updL, gate, binW, eqOp, binV, intOp, shOp, boolOp, unV, convV, nilV, fieldAddrV, indexAddrV, extractV, cellAt, cellsAt, findB, setB, fillL, buildV, Value.cells, lenV, minV, maxV, hav, sliceV, loV, hiV, bslQ, mksQ, appQ, partsOk, partsCells, delB, eqL, SameI, strOp, apzQ, cvtQ, capV, ↓reduceIte, Zj, Zk, Nat.reduceAdd, Nat.reduceLT, Nat.reduceEqDiff, Nat.reduceMul, Nat.reduceLeDiff, if_true, Zn, reduceCtorEq, ZA, eq_self, Int.reduceLE, Int.reduceLT, Int.reduceToNat, ne_eq, Nat.reduceSub, hl, hm, pl, c0_1, c0_2, c0_3, c1_2, c1_3, c2_3]
      repeat refine And.intro (by omega) ?_
      repeat refine And.intro (by omega) ?_
      intro g
      simp only [List.map_cons, List.map_nil, updL, upd, Nat.reduceEqDiff, if_true, if_false, ↓reduceIte]
      refine hK _ _ ?_; clear hK K
      refine Cd.ret ?_
      simp (maxSteps := 2000000) (disch := first | (simp only [E4, hl, hm, pl, c0_1, c0_2, c0_3, c1_2, c1_3, c2_3] <;> omega) | omega | fail) only [↓E2, E3, bare, bareJ, ↓E0, E1, evP, evPlan, env0, envN, evOps, evOp, evQs, evQ, evV, setD, pureOp, ev, upd, updL, gate, binW, eqOp, binV, intOp, shOp, boolOp, unV, convV, nilV, fieldAddrV, indexAddrV, extractV, cellAt, cellsAt, findB, setB, fillL, buildV, Value.cells, lenV, minV, maxV, hav, sliceV, loV, hiV, bslQ, mksQ, appQ, partsOk, partsCells, delB, eqL, SameI, strOp, apzQ, cvtQ, capV, ↓reduceIte, Zj, Zk, Nat.reduceAdd, Nat.reduceLT, Nat.reduceEqDiff, Nat.reduceMul, Nat.reduceLeDiff, if_true, Zn, reduceCtorEq, ZA, eq_self, Int.reduceLE, Int.reduceLT, Int.reduceToNat, ne_eq, Nat.reduceSub, hl, hm, pl, c0_1, c0_2, c0_3, c1_2, c1_3, c2_3]
      repeat refine And.intro (by omega) ?_
      exact ⟨(bo, cs) :: Mi, subP_cnt ((b4, ints .i64 (plc x n)) :: (b1, gc (n : Int) x o) :: (bc, csc) :: Mw) fun _ => by simp only [cnt_cons, cnt_append, cnt_nil]; omega, .inr ⟨bo, p, cap, cs, vs, Mi, rfl, rfl, hrow, hrows⟩⟩
  clear hK hst hwk hdn hac cb hwn htr hcC
  skip
  simp (maxSteps := 2000000) (disch := first | (simp only [E4, hl, hm, pl] <;> omega) | omega | fail) only [↓E2, E3, bare, bareJ, ↓E0, E1, evP, evPlan, env0, envN, evOps, evOp, evQs, evQ, evV, setD, pureOp, ev, upd, updL, gate, binW, eqOp, binV, intOp, shOp, boolOp, unV, convV, nilV, fieldAddrV, indexAddrV, extractV, cellAt, cellsAt, findB, setB, fillL, buildV, Value.cells, lenV, minV, maxV, hav, sliceV, loV, hiV, bslQ, mksQ, appQ, partsOk, partsCells, delB, eqL, SameI, strOp, apzQ, cvtQ, capV, ↓reduceIte, Zj, Zk, Nat.reduceAdd, Nat.reduceLT, Nat.reduceEqDiff, Nat.reduceMul, Nat.reduceLeDiff, if_true, Zn, reduceCtorEq, ZA, eq_self, Int.reduceLE, Int.reduceLT, Int.reduceToNat, ne_eq, Nat.reduceSub, Tby47, Tfld32_1, Tld30, Tld32, Tslc43, Tslce43, Tst100, Tzero100, Tzero47, ↓YR, hl, hm, pl, ↓evOp_callX]
  repeat' first
      | with_reducible refine moreX_go ?_ ?_
      | simp (maxSteps := 2000000) (disch := first | (simp only [E4, hl, hm, pl] <;> omega) | omega | fail) only [↓E2, E3, bare, bareJ, ↓E0, E1, evP, evPlan, env0, envN, evOps, evOp, evQs, evQ, evV, setD, pureOp, ev, upd, updL, gate, binW, eqOp, binV, intOp, shOp, boolOp, unV, convV, nilV, fieldAddrV, indexAddrV, extractV, cellAt, cellsAt, findB, setB, fillL, buildV, Value.cells, lenV, minV, maxV, hav, sliceV, loV, hiV, bslQ, mksQ, appQ, partsOk, partsCells, delB, eqL, SameI, strOp, apzQ, cvtQ, capV, ↓reduceIte, Zj, Zk, Nat.reduceAdd, Nat.reduceLT, Nat.reduceEqDiff, Nat.reduceMul, Nat.reduceLeDiff, if_true, Zn, reduceCtorEq, ZA, eq_self, Int.reduceLE, Int.reduceLT, Int.reduceToNat, ne_eq, Nat.reduceSub, Tby47, Tfld32_1, Tld30, Tld32, Tslc43, Tslce43, Tst100, Tzero100, Tzero47, ↓YR, hl, hm, pl, ↓evOp_callX, *]
      | (first | with_reducible refine And.intro ?_ ?_ | (refine callX_new0 hcr (fun _ _ => toldW_nil) ?_; rintro _ _ ⟨bc, mc, capc, rest, rfl, r1, r2, r3, rfl⟩ nd hf; obtain rfl : mc = m := (by omega); have hrow : Row 3 (ints .i64 (crTo n x o n)) mc capc (ints .i64 (crTo n x o n) ++ rest) := ⟨by rw [ints_length]; exact r1, r2, r3, rest, rfl⟩; have hfb := (hf _ (List.mem_singleton_self _)).all; clear hf nd; generalize ints .i64 (crTo n x o n) ++ rest = csc at *; simp only [List.mem_cons, List.not_mem_nil, forall_eq_or_imp, or_false, forall_eq, false_implies, implies_true, and_true, List.cons_append, List.nil_append] at hfb ⊢) | refine callP_gives hpc ?_ | (with_reducible intro (b : Nat) (hb : Fresh _ _ b); have hb := hb.all; simp only [List.mem_cons, List.not_mem_nil, forall_eq_or_imp, or_false, forall_eq, false_implies, implies_true, and_true] at hb))
  all_goals
    repeat refine And.intro (by omega) ?_
    intro g
    simp only [List.map_cons, List.map_nil, updL, upd, Nat.reduceEqDiff, if_true, if_false, ↓reduceIte]
    exact J _ _ _ _ _ _ _ hrow (by exact subP_cnt [] fun _ => by simp only [cnt_cons, cnt_append, cnt_nil]; omega)
end

end Go.Proofs

/-
  What the functions of this part hand back: each as a plain function of its arguments. Conditions: none.
-/
namespace Go.Proofs
open Go.W8
set_option linter.unusedVariables false
set_option linter.unusedSimpArgs false
set_option linter.unusedSectionVars false
set_option maxRecDepth 8000
set_option maxHeartbeats 4000000
def gaL (s : Int) (x o : List Int) : List (List Int) := if gridB s x o then gaussL s.toNat x o else []
theorem sumL_each {c : Nat} : ∀ ll : List (List Int), (∀ l ∈ ll, l.length ≤ c) → sumL ll ≤ ll.length * c
  | [], _ => by simp [sumL]
  | a :: ll, h => by
    have h1 := h a (by simp)
    have h2 := sumL_each ll fun l hl => h l (by simp [hl])
    simp only [sumL, List.length_cons, Nat.succ_mul]
    omega
theorem gaL_bound (s : Int) (x o : List Int) : (gaL s x o).length < 1000000 ∧ sumL (gaL s x o) < 1000000 := by
  unfold gaL
  split
  · rename_i h
    obtain ⟨n, rfl, h2, h8⟩ := gridB_s h
    rw [Int.toNat_natCast]
    have hlen : (gaussL n x o).length ≤ 8 := by
      unfold gaussL
      rw [List.length_map, wTo_len]
      exact Nat.le_trans (compTo_count (nextOf n x o) n) h8
    have := sumL_each (c := 128) (gaussL n x o) fun l hl => by
      unfold gaussL at hl
      obtain ⟨W, hW, rfl⟩ := List.mem_map.1 hl
      have h1 := cdW_len n x o W
      have h3 := Nat.mul_le_mul (Nat.mul_le_mul (Nat.le_refl 2) h8) (wTo_each n W hW)
      omega
    omega
  · simp [sumL]
theorem iGaussCodes_c (s : Int) (x o : List Int) (hx : Bytes8 x) (ho : Bytes8 o) (Post : Value → Blks → Prop) (h : gridB s x o = true → GivesX Try.prog 147 #[.agg (gc s x o).toArray] [] [] Post) :
    GivesX Try.prog 69 #[.agg (gc s x o).toArray] [] [] (wrapP s x o Post (.slice none 0 0)) := by
  have hl := hx.len
  have hm := ho.len
  skip
  have hW := wholeSS_c s x o hx ho 147 #[] #[] Post h
  refine GivesX.of (callable_of Try.func69 rfl (by decide)) ?_ fun w hnd hlt hR => ?_
  · simp
  refine acall_of (N := 8) (c := _) (rs := [.tmp 2, .tmp 3]) (args := [_]) Try.func69 rfl (by decide) rfl rfl (Nat.le_of_ble_eq_true rfl) ?_
  refine Cd.rs [1] fun K hK => ?_
  simp (maxSteps := 2000000) (disch := first | (simp only [E4, hl, hm] <;> omega) | omega | fail) only [↓E2, E3, bare, bareJ, ↓E0, E1, evP, evPlan, env0, envN, evOps, evOp, evQs, evQ, evV, setD, pureOp, ev, upd, updL, gate, binW, eqOp, binV, intOp, shOp, boolOp, unV, convV, nilV, fieldAddrV, indexAddrV, extractV, cellAt, cellsAt, findB, setB, fillL, buildV, Value.cells, lenV, minV, maxV, hav, sliceV, loV, hiV, bslQ, mksQ, appQ, partsOk, partsCells, delB, eqL, SameI, strOp, apzQ, cvtQ, capV, ↓reduceIte, Zj, Zk, Nat.reduceAdd, Nat.reduceLT, Nat.reduceEqDiff, Nat.reduceMul, Nat.reduceLeDiff, if_true, Zn, reduceCtorEq, ZA, eq_self, Int.reduceLE, Int.reduceLT, Int.reduceToNat, ne_eq, Nat.reduceSub, hl, hm]
  repeat refine And.intro (by omega) ?_
  intro b1 hb1
  try simp (maxSteps := 2000000) (disch := first | (simp only [E4, hl, hm] <;> omega) | omega | fail) only [↓E2, E3, bare, bareJ, ↓E0, E1, evP, evPlan, env0, envN, evOps, evOp, evQs, evQ, evV, setD, pureOp, ev, upd, updL, gate, binW, eqOp, binV, intOp, shOp, boolOp, unV, convV, nilV, fieldAddrV, indexAddrV, extractV, cellAt, cellsAt, findB, setB, fillL, buildV, Value.cells, lenV, minV, maxV, hav, sliceV, loV, hiV, bslQ, mksQ, appQ, partsOk, partsCells, delB, eqL, SameI, strOp, apzQ, cvtQ, capV, ↓reduceIte, Zj, Zk, Nat.reduceAdd, Nat.reduceLT, Nat.reduceEqDiff, Nat.reduceMul, Nat.reduceLeDiff, if_true, Zn, reduceCtorEq, ZA, eq_self, Int.reduceLE, Int.reduceLT, Int.reduceToNat, ne_eq, Nat.reduceSub, hl, hm]
  repeat refine And.intro (by omega) ?_
  repeat refine And.intro (by omega) ?_
  intro g
  simp only [List.map_cons, List.map_nil, updL, upd, Nat.reduceEqDiff, if_true, if_false, ↓reduceIte]
  refine hK _ _ ?_; clear hK K
  refine Cd.rs [2, 3] fun K hK => ?_
  simp (maxSteps := 2000000) (disch := first | (simp only [E4, hl, hm] <;> omega) | omega | fail) only [↓E2, E3, bare, bareJ, ↓E0, E1, evP, evPlan, env0, envN, evOps, evOp, evQs, evQ, evV, setD, pureOp, ev, upd, updL, gate, binW, eqOp, binV, intOp, shOp, boolOp, unV, convV, nilV, fieldAddrV, indexAddrV, extractV, cellAt, cellsAt, findB, setB, fillL, buildV, Value.cells, lenV, minV, maxV, hav, sliceV, loV, hiV, bslQ, mksQ, appQ, partsOk, partsCells, delB, eqL, SameI, strOp, apzQ, cvtQ, capV, ↓reduceIte, Zj, Zk, Nat.reduceAdd, Nat.reduceLT, Nat.reduceEqDiff, Nat.reduceMul, Nat.reduceLeDiff, if_true, Zn, reduceCtorEq, ZA, eq_self, Int.reduceLE, Int.reduceLT, Int.reduceToNat, ne_eq, Nat.reduceSub, Tld32, hl, hm]
  repeat refine And.intro (by omega) ?_
  refine callK_new0 hW (fun _ _ => toldW_nil) ?_
  intro v M' hP _ _
  obtain ⟨u, c, rfl⟩ := wrapP_pair hP
  simp (maxSteps := 2000000) (disch := first | (simp only [E4, hl, hm] <;> omega) | omega | fail) only [↓E2, E3, bare, bareJ, ↓E0, E1, evP, evPlan, env0, envN, evOps, evOp, evQs, evQ, evV, setD, pureOp, ev, upd, updL, gate, binW, eqOp, binV, intOp, shOp, boolOp, unV, convV, nilV, fieldAddrV, indexAddrV, extractV, cellAt, cellsAt, findB, setB, fillL, buildV, Value.cells, lenV, minV, maxV, hav, sliceV, loV, hiV, bslQ, mksQ, appQ, partsOk, partsCells, delB, eqL, SameI, strOp, apzQ, cvtQ, capV, ↓reduceIte, Zj, Zk, Nat.reduceAdd, Nat.reduceLT, Nat.reduceEqDiff, Nat.reduceMul, Nat.reduceLeDiff, if_true, Zn, reduceCtorEq, ZA, eq_self, Int.reduceLE, Int.reduceLT, Int.reduceToNat, ne_eq, Nat.reduceSub, Tld32, hl, hm]
  repeat refine And.intro (by omega) ?_
  repeat refine And.intro (by omega) ?_
  intro g
  simp only [List.map_cons, List.map_nil, updL, upd, Nat.reduceEqDiff, if_true, if_false, ↓reduceIte]
  refine hK _ _ ?_; clear hK K
  refine Cd.drop (List.sublist_append_left _ _) ?_
  refine Cd.ret ?_
  simp (maxSteps := 2000000) (disch := first | (simp only [E4, hl, hm] <;> omega) | omega | fail) only [↓E2, E3, bare, bareJ, ↓E0, E1, evP, evPlan, env0, envN, evOps, evOp, evQs, evQ, evV, setD, pureOp, ev, upd, updL, gate, binW, eqOp, binV, intOp, shOp, boolOp, unV, convV, nilV, fieldAddrV, indexAddrV, extractV, cellAt, cellsAt, findB, setB, fillL, buildV, Value.cells, lenV, minV, maxV, hav, sliceV, loV, hiV, bslQ, mksQ, appQ, partsOk, partsCells, delB, eqL, SameI, strOp, apzQ, cvtQ, capV, ↓reduceIte, Zj, Zk, Nat.reduceAdd, Nat.reduceLT, Nat.reduceEqDiff, Nat.reduceMul, Nat.reduceLeDiff, if_true, Zn, reduceCtorEq, ZA, eq_self, Int.reduceLE, Int.reduceLT, Int.reduceToNat, ne_eq, Nat.reduceSub, hl, hm]
  repeat refine And.intro (by omega) ?_
  exact hP

theorem specGaussCodes_c (s : Int) (x o : List Int) (hx : Bytes8 x) (ho : Bytes8 o) : GivesX Try.prog 68 #[.agg (gc s x o).toArray] [] [] (ResS (SlSl (gaL s x o)) (codeG s x o)) :=
  (sGaussCodes_c s x o hx ho).mono fun v M h => wrapP_res h (fun hg _ _ h => by unfold gaL; rw [if_pos hg]; exact h) fun hn => by unfold gaL; rw [if_neg hn]; exact .inl ⟨rfl, rfl, rfl⟩
theorem implGaussCodes_c (s : Int) (x o : List Int) (hx : Bytes8 x) (ho : Bytes8 o) : GivesX Try.prog 69 #[.agg (gc s x o).toArray] [] [] (ResS (SlSl (gaL s x o)) (codeG s x o)) := by
  refine (iGaussCodes_c s x o hx ho (SlSl (gaussL s.toNat x o)) fun h1 => ?_).mono fun v M h => wrapP_res h (fun hg _ _ h => by unfold gaL; rw [if_pos hg]; exact h) fun hn => by unfold gaL; rw [if_neg hn]; exact .inl ⟨rfl, rfl, rfl⟩
  obtain ⟨n, rfl, h2, h8, px, po⟩ := gridB_perm h1
  rw [Int.toNat_natCast]
  exact gauss_c n x o hx ho h8 px po

end Go.Proofs

/-
  What the functions of this part hand back: each as a plain function of its arguments. Conditions: none.
-/
namespace Go.Proofs
open Go.W8
set_option linter.unusedVariables false
set_option linter.unusedSimpArgs false
set_option linter.unusedSectionVars false
set_option maxRecDepth 8000
set_option maxHeartbeats 4000000
theorem lawGaussCodes_c_eq (s : Int) (x o : List Int) (hx : Bytes8 x) (ho : Bytes8 o) {v : Value} {M : Blks} {v' : Value} {M' : Blks} (h : SlSl (gaL s x o) v M) (h' : SlSl (gaL s x o) v' M') : GivesR Try.prog 40 #[v, v'] (toldOf (M ++ M')) (.bool true) :=
  eqInt64SS_c _ _ v v' (h.reads fun p hp => mem_toldOf (List.mem_append_left _ hp)) (h'.reads fun p hp => mem_toldOf (List.mem_append_right _ hp)) (Nat.lt_trans (gaL_bound s x o).1 (by decide)) (Nat.lt_trans (gaL_bound s x o).2 (by decide))
theorem lawGaussCodes_c_mark (s : Int) (x o : List Int) (hx : Bytes8 x) (ho : Bytes8 o) {v : Value} {M : Blks} (h : SlSl (gaL s x o) v M) : GivesX Try.prog 41 #[v, .int .i64 1] M [] (fun r M' => r = .int .i64 ((1 + sumL (gaL s x o) : Nat) : Int) ∧ SlSl (markSS ((1 : Nat) : Int) (gaL s x o)) v M') :=
  markInt64SS_c _ v M h 1 (by have := (gaL_bound s x o).2; omega) (by have := (gaL_bound s x o).1; omega)
theorem lawGaussCodes_c_held (s : Int) (x o : List Int) (hx : Bytes8 x) (ho : Bytes8 o) {v : Value} {M : Blks} (h : SlSl (markSS ((1 : Nat) : Int) (gaL s x o)) v M) : GivesR Try.prog 42 #[v, .int .i64 1] (toldOf M) (.int .i64 ((1 + sumL (gaL s x o) : Nat) : Int)) :=
  heldInt64SS_c _ 1 v _ (h.reads fun p hp => mem_toldOf hp) (by have := (gaL_bound s x o).2; omega) (by have := (gaL_bound s x o).1; omega)
theorem lawGaussCodes_c (s0 : Int) (x0 o0 : List Int) (w0 : -9223372036854775808 ≤ s0 ∧ s0 < 9223372036854775808) (y0 : Bytes8 x0) (z0 : Bytes8 o0) : Gives Try.prog 10 #[.agg (gc s0 x0 o0).toArray] (.bool true) := by
  have hl0 := y0.len
  have hm0 := z0.len
  skip
  refine Gives.of fun w => ?_
  refine acall_of (N := 66) (c := _) (rs := [.tmp 2]) (args := [_]) Try.func10 rfl (by decide) rfl rfl (Nat.le_of_ble_eq_true rfl) ?_
  refine Cd.rs [1] fun K hK => ?_
  simp (maxSteps := 2000000) (disch := first | omega | (simp only [E4, hl0, hm0, *] <;> omega) | fail) only [↓E0, E1, evP, evPlan, env0, envN, evOps, evOp, evQs, evQ, evV, setD, pureOp, ev, upd, updL, gate, binW, eqOp, binV, intOp, shOp, boolOp, unV, convV, nilV, fieldAddrV, indexAddrV, extractV, cellAt, cellsAt, findB, setB, fillL, buildV, Value.cells, lenV, minV, maxV, hav, sliceV, loV, hiV, bslQ, mksQ, appQ, partsOk, partsCells, delB, eqL, SameI, strOp, apzQ, cvtQ, capV, ↓reduceIte, Zj, Zk, Nat.reduceAdd, Nat.reduceLT, Nat.reduceEqDiff, Nat.reduceMul, Nat.reduceLeDiff, if_true, Zn, reduceCtorEq, ZA, eq_self, Int.reduceLE, Int.reduceLT, Int.reduceToNat, ne_eq, Nat.reduceSub, hl0, hm0]
  intro b1 hb1
  try simp (maxSteps := 2000000) (disch := first | omega | (simp only [E4, hl0, hm0, *] <;> omega) | fail) only [↓E0, E1, evP, evPlan, env0, envN, evOps, evOp, evQs, evQ, evV, setD, pureOp, ev, upd, updL, gate, binW, eqOp, binV, intOp, shOp, boolOp, unV, convV, nilV, fieldAddrV, indexAddrV, extractV, cellAt, cellsAt, findB, setB, fillL, buildV, Value.cells, lenV, minV, maxV, hav, sliceV, loV, hiV, bslQ, mksQ, appQ, partsOk, partsCells, delB, eqL, SameI, strOp, apzQ, cvtQ, capV, ↓reduceIte, Zj, Zk, Nat.reduceAdd, Nat.reduceLT, Nat.reduceEqDiff, Nat.reduceMul, Nat.reduceLeDiff, if_true, Zn, reduceCtorEq, ZA, eq_self, Int.reduceLE, Int.reduceLT, Int.reduceToNat, ne_eq, Nat.reduceSub, hl0, hm0]
  repeat refine And.intro (by omega) ?_
  intro g
  simp only [List.map_cons, List.map_nil, updL, upd, Nat.reduceEqDiff, if_true, if_false, ↓reduceIte]
  refine hK _ _ ?_; clear hK K
  refine Cd.rs [1, 3, 4] fun K hK => ?_
  simp (maxSteps := 2000000) (disch := first | omega | (simp only [E4, hl0, hm0, *] <;> omega) | fail) only [↓E0, E1, evP, evPlan, env0, envN, evOps, evOp, evQs, evQ, evV, setD, pureOp, ev, upd, updL, gate, binW, eqOp, binV, intOp, shOp, boolOp, unV, convV, nilV, fieldAddrV, indexAddrV, extractV, cellAt, cellsAt, findB, setB, fillL, buildV, Value.cells, lenV, minV, maxV, hav, sliceV, loV, hiV, bslQ, mksQ, appQ, partsOk, partsCells, delB, eqL, SameI, strOp, apzQ, cvtQ, capV, ↓reduceIte, Zj, Zk, Nat.reduceAdd, Nat.reduceLT, Nat.reduceEqDiff, Nat.reduceMul, Nat.reduceLeDiff, if_true, Zn, reduceCtorEq, ZA, eq_self, Int.reduceLE, Int.reduceLT, Int.reduceToNat, ne_eq, Nat.reduceSub, Tld49, hl0, hm0]
  refine callK_gives (toGrid_c _ _ _ hl0 hm0) ?_
  simp (maxSteps := 2000000) (disch := first | omega | (simp only [E4, hl0, hm0, *] <;> omega) | fail) only [↓E0, E1, evP, evPlan, env0, envN, evOps, evOp, evQs, evQ, evV, setD, pureOp, ev, upd, updL, gate, binW, eqOp, binV, intOp, shOp, boolOp, unV, convV, nilV, fieldAddrV, indexAddrV, extractV, cellAt, cellsAt, findB, setB, fillL, buildV, Value.cells, lenV, minV, maxV, hav, sliceV, loV, hiV, bslQ, mksQ, appQ, partsOk, partsCells, delB, eqL, SameI, strOp, apzQ, cvtQ, capV, ↓reduceIte, Zj, Zk, Nat.reduceAdd, Nat.reduceLT, Nat.reduceEqDiff, Nat.reduceMul, Nat.reduceLeDiff, if_true, Zn, reduceCtorEq, ZA, eq_self, Int.reduceLE, Int.reduceLT, Int.reduceToNat, ne_eq, Nat.reduceSub, Tld49, hl0, hm0]
  refine callK_new0 (specGaussCodes_c s0 x0 o0 y0 z0) (fun _ _ => toldW_nil) ?_
  rintro vw Mw ⟨sw, rfl, rw0⟩ _ _
  simp (maxSteps := 2000000) (disch := first | omega | (simp only [E4, hl0, hm0, *] <;> omega) | fail) only [↓E0, E1, evP, evPlan, env0, envN, evOps, evOp, evQs, evQ, evV, setD, pureOp, ev, upd, updL, gate, binW, eqOp, binV, intOp, shOp, boolOp, unV, convV, nilV, fieldAddrV, indexAddrV, extractV, cellAt, cellsAt, findB, setB, fillL, buildV, Value.cells, lenV, minV, maxV, hav, sliceV, loV, hiV, bslQ, mksQ, appQ, partsOk, partsCells, delB, eqL, SameI, strOp, apzQ, cvtQ, capV, ↓reduceIte, Zj, Zk, Nat.reduceAdd, Nat.reduceLT, Nat.reduceEqDiff, Nat.reduceMul, Nat.reduceLeDiff, if_true, Zn, reduceCtorEq, ZA, eq_self, Int.reduceLE, Int.reduceLT, Int.reduceToNat, ne_eq, Nat.reduceSub, Tld49, hl0, hm0]
  repeat refine And.intro (by omega) ?_
  intro g
  simp only [List.map_cons, List.map_nil, updL, upd, Nat.reduceEqDiff, if_true, if_false, ↓reduceIte]
  refine hK _ _ ?_; clear hK K
  refine Cd.nodup fun nd1 => ?_
  have f1 := findB_of nd1 (b := b1) (cs := gc s0 x0 o0) (by simp)
  skip
  refine Cd.rs [1, 3, 4, 5, 6] fun K hK => ?_
  simp (maxSteps := 2000000) (disch := first | omega | (simp only [E4, hl0, hm0, f1, *] <;> omega) | fail) only [↓E0, E1, evP, evPlan, env0, envN, evOps, evOp, evQs, evQ, evV, setD, pureOp, ev, upd, updL, gate, binW, eqOp, binV, intOp, shOp, boolOp, unV, convV, nilV, fieldAddrV, indexAddrV, extractV, cellAt, cellsAt, findB, setB, fillL, buildV, Value.cells, lenV, minV, maxV, hav, sliceV, loV, hiV, bslQ, mksQ, appQ, partsOk, partsCells, delB, eqL, SameI, strOp, apzQ, cvtQ, capV, ↓reduceIte, Zj, Zk, Nat.reduceAdd, Nat.reduceLT, Nat.reduceEqDiff, Nat.reduceMul, Nat.reduceLeDiff, if_true, Zn, reduceCtorEq, ZA, eq_self, Int.reduceLE, Int.reduceLT, Int.reduceToNat, ne_eq, Nat.reduceSub, Tld49, hl0, hm0, f1]
  refine callK_gives (toGrid_c _ _ _ hl0 hm0) ?_
  simp (maxSteps := 2000000) (disch := first | omega | (simp only [E4, hl0, hm0, f1, *] <;> omega) | fail) only [↓E0, E1, evP, evPlan, env0, envN, evOps, evOp, evQs, evQ, evV, setD, pureOp, ev, upd, updL, gate, binW, eqOp, binV, intOp, shOp, boolOp, unV, convV, nilV, fieldAddrV, indexAddrV, extractV, cellAt, cellsAt, findB, setB, fillL, buildV, Value.cells, lenV, minV, maxV, hav, sliceV, loV, hiV, bslQ, mksQ, appQ, partsOk, partsCells, delB, eqL, SameI, strOp, apzQ, cvtQ, capV, ↓reduceIte, Zj, Zk, Nat.reduceAdd, Nat.reduceLT, Nat.reduceEqDiff, Nat.reduceMul, Nat.reduceLeDiff, if_true, Zn, reduceCtorEq, ZA, eq_self, Int.reduceLE, Int.reduceLT, Int.reduceToNat, ne_eq, Nat.reduceSub, Tld49, hl0, hm0, f1]
  refine callK_new0 (implGaussCodes_c s0 x0 o0 y0 z0) (fun _ _ => toldW_nil) ?_
  rintro vg Mg ⟨sg, rfl, rg⟩ _ _
  simp (maxSteps := 2000000) (disch := first | omega | (simp only [E4, hl0, hm0, f1, *] <;> omega) | fail) only [↓E0, E1, evP, evPlan, env0, envN, evOps, evOp, evQs, evQ, evV, setD, pureOp, ev, upd, updL, gate, binW, eqOp, binV, intOp, shOp, boolOp, unV, convV, nilV, fieldAddrV, indexAddrV, extractV, cellAt, cellsAt, findB, setB, fillL, buildV, Value.cells, lenV, minV, maxV, hav, sliceV, loV, hiV, bslQ, mksQ, appQ, partsOk, partsCells, delB, eqL, SameI, strOp, apzQ, cvtQ, capV, ↓reduceIte, Zj, Zk, Nat.reduceAdd, Nat.reduceLT, Nat.reduceEqDiff, Nat.reduceMul, Nat.reduceLeDiff, if_true, Zn, reduceCtorEq, ZA, eq_self, Int.reduceLE, Int.reduceLT, Int.reduceToNat, ne_eq, Nat.reduceSub, Tld49, hl0, hm0, f1]
  repeat refine And.intro (by omega) ?_
  intro g
  simp only [List.map_cons, List.map_nil, updL, upd, Nat.reduceEqDiff, if_true, if_false, ↓reduceIte]
  refine hK _ _ ?_; clear hK K
  refine Cd.nodup fun nd2 => ?_
  refine Cd.seq ?_
  refine Cd.rs [1, 3, 4, 5, 31] fun K hK => ?_
  simp (maxSteps := 2000000) (disch := first | omega | (simp only [E4, hl0, hm0, f1, *] <;> omega) | fail) only [↓E0, E1, evP, evPlan, env0, envN, evOps, evOp, evQs, evQ, evV, setD, pureOp, ev, upd, updL, gate, binW, eqOp, binV, intOp, shOp, boolOp, unV, convV, nilV, fieldAddrV, indexAddrV, extractV, cellAt, cellsAt, findB, setB, fillL, buildV, Value.cells, lenV, minV, maxV, hav, sliceV, loV, hiV, bslQ, mksQ, appQ, partsOk, partsCells, delB, eqL, SameI, strOp, apzQ, cvtQ, capV, ↓reduceIte, Zj, Zk, Nat.reduceAdd, Nat.reduceLT, Nat.reduceEqDiff, Nat.reduceMul, Nat.reduceLeDiff, if_true, Zn, reduceCtorEq, ZA, eq_self, Int.reduceLE, Int.reduceLT, Int.reduceToNat, ne_eq, Nat.reduceSub, hl0, hm0, f1]
  refine callK_reads0 (lawGaussCodes_c_eq s0 x0 o0 y0 z0 rg rw0) (holds_mem nd2 (fun p hp => by simp only [List.mem_append] at hp ⊢; rcases hp with hp | hp <;> simp [hp])) ?_
  simp (maxSteps := 2000000) (disch := first | omega | (simp only [E4, hl0, hm0, f1, *] <;> omega) | fail) only [↓E0, E1, evP, evPlan, env0, envN, evOps, evOp, evQs, evQ, evV, setD, pureOp, ev, upd, updL, gate, binW, eqOp, binV, intOp, shOp, boolOp, unV, convV, nilV, fieldAddrV, indexAddrV, extractV, cellAt, cellsAt, findB, setB, fillL, buildV, Value.cells, lenV, minV, maxV, hav, sliceV, loV, hiV, bslQ, mksQ, appQ, partsOk, partsCells, delB, eqL, SameI, strOp, apzQ, cvtQ, capV, ↓reduceIte, Zj, Zk, Nat.reduceAdd, Nat.reduceLT, Nat.reduceEqDiff, Nat.reduceMul, Nat.reduceLeDiff, if_true, Zn, reduceCtorEq, ZA, eq_self, Int.reduceLE, Int.reduceLT, Int.reduceToNat, ne_eq, Nat.reduceSub, hl0, hm0, f1]
  repeat refine And.intro (by omega) ?_
  intro g
  simp only [List.map_cons, List.map_nil, updL, upd, Nat.reduceEqDiff, if_true, if_false, ↓reduceIte]
  refine hK _ _ ?_; clear hK K
  refine Cd.no rfl ?_
  refine Cd.skip ?_
  refine thenN ?_
  refine Cd.rs [1, 3, 4, 5, 7] fun K hK => ?_
  simp (maxSteps := 2000000) (disch := first | omega | (simp only [E4, hl0, hm0, f1, *] <;> omega) | fail) only [↓E0, E1, evP, evPlan, env0, envN, evOps, evOp, evQs, evQ, evV, setD, pureOp, ev, upd, updL, gate, binW, eqOp, binV, intOp, shOp, boolOp, unV, convV, nilV, fieldAddrV, indexAddrV, extractV, cellAt, cellsAt, findB, setB, fillL, buildV, Value.cells, lenV, minV, maxV, hav, sliceV, loV, hiV, bslQ, mksQ, appQ, partsOk, partsCells, delB, eqL, SameI, strOp, apzQ, cvtQ, capV, ↓reduceIte, Zj, Zk, Nat.reduceAdd, Nat.reduceLT, Nat.reduceEqDiff, Nat.reduceMul, Nat.reduceLeDiff, if_true, Zn, reduceCtorEq, ZA, eq_self, Int.reduceLE, Int.reduceLT, Int.reduceToNat, ne_eq, Nat.reduceSub, hl0, hm0, f1]
  repeat refine And.intro (by omega) ?_
  intro g
  simp only [List.map_cons, List.map_nil, updL, upd, Nat.reduceEqDiff, if_true, if_false, ↓reduceIte]
  refine hK _ _ ?_; clear hK K
  refine Cd.rs [1, 3, 4, 5, 7] fun K hK => ?_
  simp (maxSteps := 2000000) (disch := first | omega | (simp only [E4, hl0, hm0, f1, *] <;> omega) | fail) only [↓E0, E1, evP, evPlan, env0, envN, evOps, evOp, evQs, evQ, evV, setD, pureOp, ev, upd, updL, gate, binW, eqOp, binV, intOp, shOp, boolOp, unV, convV, nilV, fieldAddrV, indexAddrV, extractV, cellAt, cellsAt, findB, setB, fillL, buildV, Value.cells, lenV, minV, maxV, hav, sliceV, loV, hiV, bslQ, mksQ, appQ, partsOk, partsCells, delB, eqL, SameI, strOp, apzQ, cvtQ, capV, ↓reduceIte, Zj, Zk, Nat.reduceAdd, Nat.reduceLT, Nat.reduceEqDiff, Nat.reduceMul, Nat.reduceLeDiff, if_true, Zn, reduceCtorEq, ZA, eq_self, Int.reduceLE, Int.reduceLT, Int.reduceToNat, ne_eq, Nat.reduceSub, hl0, hm0, f1]
  refine callK_lent0 (lawGaussCodes_c_mark s0 x0 o0 y0 z0 rg) (nodup_left nd2) (fun p hp => List.mem_append_left _ hp) (List.sublist_append_right _ _) (nodup_right nd2) (fun _ _ => toldW_nil) ?_
  rintro vm Mk ⟨rfl, rk⟩ _ _
  simp (maxSteps := 2000000) (disch := first | omega | (simp only [E4, hl0, hm0, f1, *] <;> omega) | fail) only [↓E0, E1, evP, evPlan, env0, envN, evOps, evOp, evQs, evQ, evV, setD, pureOp, ev, upd, updL, gate, binW, eqOp, binV, intOp, shOp, boolOp, unV, convV, nilV, fieldAddrV, indexAddrV, extractV, cellAt, cellsAt, findB, setB, fillL, buildV, Value.cells, lenV, minV, maxV, hav, sliceV, loV, hiV, bslQ, mksQ, appQ, partsOk, partsCells, delB, eqL, SameI, strOp, apzQ, cvtQ, capV, ↓reduceIte, Zj, Zk, Nat.reduceAdd, Nat.reduceLT, Nat.reduceEqDiff, Nat.reduceMul, Nat.reduceLeDiff, if_true, Zn, reduceCtorEq, ZA, eq_self, Int.reduceLE, Int.reduceLT, Int.reduceToNat, ne_eq, Nat.reduceSub, hl0, hm0, f1]
  repeat refine And.intro (by omega) ?_
  intro g
  simp only [List.map_cons, List.map_nil, updL, upd, Nat.reduceEqDiff, if_true, if_false, ↓reduceIte]
  refine hK _ _ ?_; clear hK K
  refine Cd.nodup fun nd3 => ?_
  refine Cd.rs [1, 3, 4, 5, 7, 8] fun K hK => ?_
  simp (maxSteps := 2000000) (disch := first | omega | (simp only [E4, hl0, hm0, f1, *] <;> omega) | fail) only [↓E0, E1, evP, evPlan, env0, envN, evOps, evOp, evQs, evQ, evV, setD, pureOp, ev, upd, updL, gate, binW, eqOp, binV, intOp, shOp, boolOp, unV, convV, nilV, fieldAddrV, indexAddrV, extractV, cellAt, cellsAt, findB, setB, fillL, buildV, Value.cells, lenV, minV, maxV, hav, sliceV, loV, hiV, bslQ, mksQ, appQ, partsOk, partsCells, delB, eqL, SameI, strOp, apzQ, cvtQ, capV, ↓reduceIte, Zj, Zk, Nat.reduceAdd, Nat.reduceLT, Nat.reduceEqDiff, Nat.reduceMul, Nat.reduceLeDiff, if_true, Zn, reduceCtorEq, ZA, eq_self, Int.reduceLE, Int.reduceLT, Int.reduceToNat, ne_eq, Nat.reduceSub, hl0, hm0, f1]
  repeat refine And.intro (by omega) ?_
  intro g
  simp only [List.map_cons, List.map_nil, updL, upd, Nat.reduceEqDiff, if_true, if_false, ↓reduceIte]
  refine hK _ _ ?_; clear hK K
  refine Cd.rs [1, 3, 4, 5, 7, 8] fun K hK => ?_
  simp (maxSteps := 2000000) (disch := first | omega | (simp only [E4, hl0, hm0, f1, *] <;> omega) | fail) only [↓E0, E1, evP, evPlan, env0, envN, evOps, evOp, evQs, evQ, evV, setD, pureOp, ev, upd, updL, gate, binW, eqOp, binV, intOp, shOp, boolOp, unV, convV, nilV, fieldAddrV, indexAddrV, extractV, cellAt, cellsAt, findB, setB, fillL, buildV, Value.cells, lenV, minV, maxV, hav, sliceV, loV, hiV, bslQ, mksQ, appQ, partsOk, partsCells, delB, eqL, SameI, strOp, apzQ, cvtQ, capV, ↓reduceIte, Zj, Zk, Nat.reduceAdd, Nat.reduceLT, Nat.reduceEqDiff, Nat.reduceMul, Nat.reduceLeDiff, if_true, Zn, reduceCtorEq, ZA, eq_self, Int.reduceLE, Int.reduceLT, Int.reduceToNat, ne_eq, Nat.reduceSub, hl0, hm0, f1]
  refine callK_reads0 (lawGaussCodes_c_held s0 x0 o0 y0 z0 rk) (holds_mem nd3 (fun p hp => List.mem_append_left _ hp)) ?_
  simp (maxSteps := 2000000) (disch := first | omega | (simp only [E4, hl0, hm0, f1, *] <;> omega) | fail) only [↓E0, E1, evP, evPlan, env0, envN, evOps, evOp, evQs, evQ, evV, setD, pureOp, ev, upd, updL, gate, binW, eqOp, binV, intOp, shOp, boolOp, unV, convV, nilV, fieldAddrV, indexAddrV, extractV, cellAt, cellsAt, findB, setB, fillL, buildV, Value.cells, lenV, minV, maxV, hav, sliceV, loV, hiV, bslQ, mksQ, appQ, partsOk, partsCells, delB, eqL, SameI, strOp, apzQ, cvtQ, capV, ↓reduceIte, Zj, Zk, Nat.reduceAdd, Nat.reduceLT, Nat.reduceEqDiff, Nat.reduceMul, Nat.reduceLeDiff, if_true, Zn, reduceCtorEq, ZA, eq_self, Int.reduceLE, Int.reduceLT, Int.reduceToNat, ne_eq, Nat.reduceSub, hl0, hm0, f1]
  repeat refine And.intro (by omega) ?_
  intro g
  simp only [List.map_cons, List.map_nil, updL, upd, Nat.reduceEqDiff, if_true, if_false, ↓reduceIte]
  refine hK _ _ ?_; clear hK K
  refine Cd.seq ?_
  refine Cd.rs [1, 3, 4, 5, 7, 8, 39] fun K hK => ?_
  simp (maxSteps := 2000000) (disch := first | omega | (simp only [E4, hl0, hm0, f1, *] <;> omega) | fail) only [↓E0, E1, evP, evPlan, env0, envN, evOps, evOp, evQs, evQ, evV, setD, pureOp, ev, upd, updL, gate, binW, eqOp, binV, intOp, shOp, boolOp, unV, convV, nilV, fieldAddrV, indexAddrV, extractV, cellAt, cellsAt, findB, setB, fillL, buildV, Value.cells, lenV, minV, maxV, hav, sliceV, loV, hiV, bslQ, mksQ, appQ, partsOk, partsCells, delB, eqL, SameI, strOp, apzQ, cvtQ, capV, ↓reduceIte, Zj, Zk, Nat.reduceAdd, Nat.reduceLT, Nat.reduceEqDiff, Nat.reduceMul, Nat.reduceLeDiff, if_true, Zn, reduceCtorEq, ZA, eq_self, Int.reduceLE, Int.reduceLT, Int.reduceToNat, ne_eq, Nat.reduceSub, hl0, hm0, f1]
  repeat refine And.intro (by omega) ?_
  intro g
  simp only [List.map_cons, List.map_nil, updL, upd, Nat.reduceEqDiff, if_true, if_false, ↓reduceIte]
  refine hK _ _ ?_; clear hK K
  refine Cd.condd rfl (fun h9 => absurd h9 (by omega)) (fun _ => ?_)
  refine Cd.skip ?_
  refine thenN ?_
  refine Cd.seq ?_
  refine Cd.rs [1, 3, 4, 5, 7, 42] fun K hK => ?_
  simp (maxSteps := 2000000) (disch := first | omega | (simp only [E4, hl0, hm0, f1, *] <;> omega) | fail) only [↓E0, E1, evP, evPlan, env0, envN, evOps, evOp, evQs, evQ, evV, setD, pureOp, ev, upd, updL, gate, binW, eqOp, binV, intOp, shOp, boolOp, unV, convV, nilV, fieldAddrV, indexAddrV, extractV, cellAt, cellsAt, findB, setB, fillL, buildV, Value.cells, lenV, minV, maxV, hav, sliceV, loV, hiV, bslQ, mksQ, appQ, partsOk, partsCells, delB, eqL, SameI, strOp, apzQ, cvtQ, capV, ↓reduceIte, Zj, Zk, Nat.reduceAdd, Nat.reduceLT, Nat.reduceEqDiff, Nat.reduceMul, Nat.reduceLeDiff, if_true, Zn, reduceCtorEq, ZA, eq_self, Int.reduceLE, Int.reduceLT, Int.reduceToNat, ne_eq, Nat.reduceSub, hl0, hm0, f1]
  repeat refine And.intro (by omega) ?_
  intro g
  simp only [List.map_cons, List.map_nil, updL, upd, Nat.reduceEqDiff, if_true, if_false, ↓reduceIte]
  refine hK _ _ ?_; clear hK K
  refine Cd.no rfl ?_
  refine Cd.skip ?_
  refine thenN ?_
  have f2 := findB_of nd3 (b := b1) (cs := gc s0 x0 o0) (by simp)
  skip
  refine Cd.rs [3, 4, 5, 7, 9, 10] fun K hK => ?_
  simp (maxSteps := 2000000) (disch := first | omega | (simp only [E4, hl0, hm0, f1, f2, *] <;> omega) | fail) only [↓E0, E1, evP, evPlan, env0, envN, evOps, evOp, evQs, evQ, evV, setD, pureOp, ev, upd, updL, gate, binW, eqOp, binV, intOp, shOp, boolOp, unV, convV, nilV, fieldAddrV, indexAddrV, extractV, cellAt, cellsAt, findB, setB, fillL, buildV, Value.cells, lenV, minV, maxV, hav, sliceV, loV, hiV, bslQ, mksQ, appQ, partsOk, partsCells, delB, eqL, SameI, strOp, apzQ, cvtQ, capV, ↓reduceIte, Zj, Zk, Nat.reduceAdd, Nat.reduceLT, Nat.reduceEqDiff, Nat.reduceMul, Nat.reduceLeDiff, if_true, Zn, reduceCtorEq, ZA, eq_self, Int.reduceLE, Int.reduceLT, Int.reduceToNat, ne_eq, Nat.reduceSub, Tld49, hl0, hm0, f1, f2]
  refine callK_gives (toGrid_c _ _ _ hl0 hm0) ?_
  simp (maxSteps := 2000000) (disch := first | omega | (simp only [E4, hl0, hm0, f1, f2, *] <;> omega) | fail) only [↓E0, E1, evP, evPlan, env0, envN, evOps, evOp, evQs, evQ, evV, setD, pureOp, ev, upd, updL, gate, binW, eqOp, binV, intOp, shOp, boolOp, unV, convV, nilV, fieldAddrV, indexAddrV, extractV, cellAt, cellsAt, findB, setB, fillL, buildV, Value.cells, lenV, minV, maxV, hav, sliceV, loV, hiV, bslQ, mksQ, appQ, partsOk, partsCells, delB, eqL, SameI, strOp, apzQ, cvtQ, capV, ↓reduceIte, Zj, Zk, Nat.reduceAdd, Nat.reduceLT, Nat.reduceEqDiff, Nat.reduceMul, Nat.reduceLeDiff, if_true, Zn, reduceCtorEq, ZA, eq_self, Int.reduceLE, Int.reduceLT, Int.reduceToNat, ne_eq, Nat.reduceSub, Tld49, hl0, hm0, f1, f2]
  refine callK_new0 (implGaussCodes_c s0 x0 o0 y0 z0) (fun _ _ => toldW_nil) ?_
  rintro vh Mh ⟨sh, rfl, rh⟩ _ _
  simp (maxSteps := 2000000) (disch := first | omega | (simp only [E4, hl0, hm0, f1, f2, *] <;> omega) | fail) only [↓E0, E1, evP, evPlan, env0, envN, evOps, evOp, evQs, evQ, evV, setD, pureOp, ev, upd, updL, gate, binW, eqOp, binV, intOp, shOp, boolOp, unV, convV, nilV, fieldAddrV, indexAddrV, extractV, cellAt, cellsAt, findB, setB, fillL, buildV, Value.cells, lenV, minV, maxV, hav, sliceV, loV, hiV, bslQ, mksQ, appQ, partsOk, partsCells, delB, eqL, SameI, strOp, apzQ, cvtQ, capV, ↓reduceIte, Zj, Zk, Nat.reduceAdd, Nat.reduceLT, Nat.reduceEqDiff, Nat.reduceMul, Nat.reduceLeDiff, if_true, Zn, reduceCtorEq, ZA, eq_self, Int.reduceLE, Int.reduceLT, Int.reduceToNat, ne_eq, Nat.reduceSub, Tld49, hl0, hm0, f1, f2]
  repeat refine And.intro (by omega) ?_
  intro g
  simp only [List.map_cons, List.map_nil, updL, upd, Nat.reduceEqDiff, if_true, if_false, ↓reduceIte]
  refine hK _ _ ?_; clear hK K
  refine Cd.nodup fun nd4 => ?_
  refine Cd.seq ?_
  refine Cd.rs [5, 7, 57] fun K hK => ?_
  simp (maxSteps := 2000000) (disch := first | omega | (simp only [E4, hl0, hm0, f1, f2, *] <;> omega) | fail) only [↓E0, E1, evP, evPlan, env0, envN, evOps, evOp, evQs, evQ, evV, setD, pureOp, ev, upd, updL, gate, binW, eqOp, binV, intOp, shOp, boolOp, unV, convV, nilV, fieldAddrV, indexAddrV, extractV, cellAt, cellsAt, findB, setB, fillL, buildV, Value.cells, lenV, minV, maxV, hav, sliceV, loV, hiV, bslQ, mksQ, appQ, partsOk, partsCells, delB, eqL, SameI, strOp, apzQ, cvtQ, capV, ↓reduceIte, Zj, Zk, Nat.reduceAdd, Nat.reduceLT, Nat.reduceEqDiff, Nat.reduceMul, Nat.reduceLeDiff, if_true, Zn, reduceCtorEq, ZA, eq_self, Int.reduceLE, Int.reduceLT, Int.reduceToNat, ne_eq, Nat.reduceSub, hl0, hm0, f1, f2]
  refine callK_reads0 (lawGaussCodes_c_eq s0 x0 o0 y0 z0 rh rw0) (holds_mem nd4 (fun p hp => by simp only [List.mem_append] at hp ⊢; rcases hp with hp | hp <;> simp [hp])) ?_
  simp (maxSteps := 2000000) (disch := first | omega | (simp only [E4, hl0, hm0, f1, f2, *] <;> omega) | fail) only [↓E0, E1, evP, evPlan, env0, envN, evOps, evOp, evQs, evQ, evV, setD, pureOp, ev, upd, updL, gate, binW, eqOp, binV, intOp, shOp, boolOp, unV, convV, nilV, fieldAddrV, indexAddrV, extractV, cellAt, cellsAt, findB, setB, fillL, buildV, Value.cells, lenV, minV, maxV, hav, sliceV, loV, hiV, bslQ, mksQ, appQ, partsOk, partsCells, delB, eqL, SameI, strOp, apzQ, cvtQ, capV, ↓reduceIte, Zj, Zk, Nat.reduceAdd, Nat.reduceLT, Nat.reduceEqDiff, Nat.reduceMul, Nat.reduceLeDiff, if_true, Zn, reduceCtorEq, ZA, eq_self, Int.reduceLE, Int.reduceLT, Int.reduceToNat, ne_eq, Nat.reduceSub, hl0, hm0, f1, f2]
  repeat refine And.intro (by omega) ?_
  intro g
  simp only [List.map_cons, List.map_nil, updL, upd, Nat.reduceEqDiff, if_true, if_false, ↓reduceIte]
  refine hK _ _ ?_; clear hK K
  refine Cd.no rfl ?_
  refine Cd.skip ?_
  refine thenN ?_
  refine Cd.rs [5, 7, 8] fun K hK => ?_
  simp (maxSteps := 2000000) (disch := first | omega | (simp only [E4, hl0, hm0, f1, f2, *] <;> omega) | fail) only [↓E0, E1, evP, evPlan, env0, envN, evOps, evOp, evQs, evQ, evV, setD, pureOp, ev, upd, updL, gate, binW, eqOp, binV, intOp, shOp, boolOp, unV, convV, nilV, fieldAddrV, indexAddrV, extractV, cellAt, cellsAt, findB, setB, fillL, buildV, Value.cells, lenV, minV, maxV, hav, sliceV, loV, hiV, bslQ, mksQ, appQ, partsOk, partsCells, delB, eqL, SameI, strOp, apzQ, cvtQ, capV, ↓reduceIte, Zj, Zk, Nat.reduceAdd, Nat.reduceLT, Nat.reduceEqDiff, Nat.reduceMul, Nat.reduceLeDiff, if_true, Zn, reduceCtorEq, ZA, eq_self, Int.reduceLE, Int.reduceLT, Int.reduceToNat, ne_eq, Nat.reduceSub, hl0, hm0, f1, f2]
  repeat refine And.intro (by omega) ?_
  intro g
  simp only [List.map_cons, List.map_nil, updL, upd, Nat.reduceEqDiff, if_true, if_false, ↓reduceIte]
  refine hK _ _ ?_; clear hK K
  refine Cd.rs [7, 8] fun K hK => ?_
  simp (maxSteps := 2000000) (disch := first | omega | (simp only [E4, hl0, hm0, f1, f2, *] <;> omega) | fail) only [↓E0, E1, evP, evPlan, env0, envN, evOps, evOp, evQs, evQ, evV, setD, pureOp, ev, upd, updL, gate, binW, eqOp, binV, intOp, shOp, boolOp, unV, convV, nilV, fieldAddrV, indexAddrV, extractV, cellAt, cellsAt, findB, setB, fillL, buildV, Value.cells, lenV, minV, maxV, hav, sliceV, loV, hiV, bslQ, mksQ, appQ, partsOk, partsCells, delB, eqL, SameI, strOp, apzQ, cvtQ, capV, ↓reduceIte, Zj, Zk, Nat.reduceAdd, Nat.reduceLT, Nat.reduceEqDiff, Nat.reduceMul, Nat.reduceLeDiff, if_true, Zn, reduceCtorEq, ZA, eq_self, Int.reduceLE, Int.reduceLT, Int.reduceToNat, ne_eq, Nat.reduceSub, hl0, hm0, f1, f2]
  refine callK_reads0 (lawGaussCodes_c_held s0 x0 o0 y0 z0 rk) (holds_mem nd4 (fun p hp => by simp [hp])) ?_
  simp (maxSteps := 2000000) (disch := first | omega | (simp only [E4, hl0, hm0, f1, f2, *] <;> omega) | fail) only [↓E0, E1, evP, evPlan, env0, envN, evOps, evOp, evQs, evQ, evV, setD, pureOp, ev, upd, updL, gate, binW, eqOp, binV, intOp, shOp, boolOp, unV, convV, nilV, fieldAddrV, indexAddrV, extractV, cellAt, cellsAt, findB, setB, fillL, buildV, Value.cells, lenV, minV, maxV, hav, sliceV, loV, hiV, bslQ, mksQ, appQ, partsOk, partsCells, delB, eqL, SameI, strOp, apzQ, cvtQ, capV, ↓reduceIte, Zj, Zk, Nat.reduceAdd, Nat.reduceLT, Nat.reduceEqDiff, Nat.reduceMul, Nat.reduceLeDiff, if_true, Zn, reduceCtorEq, ZA, eq_self, Int.reduceLE, Int.reduceLT, Int.reduceToNat, ne_eq, Nat.reduceSub, hl0, hm0, f1, f2]
  repeat refine And.intro (by omega) ?_
  intro g
  simp only [List.map_cons, List.map_nil, updL, upd, Nat.reduceEqDiff, if_true, if_false, ↓reduceIte]
  refine hK _ _ ?_; clear hK K
  refine Cd.seq ?_
  refine Cd.rs [7, 8, 62] fun K hK => ?_
  simp (maxSteps := 2000000) (disch := first | omega | (simp only [E4, hl0, hm0, f1, f2, *] <;> omega) | fail) only [↓E0, E1, evP, evPlan, env0, envN, evOps, evOp, evQs, evQ, evV, setD, pureOp, ev, upd, updL, gate, binW, eqOp, binV, intOp, shOp, boolOp, unV, convV, nilV, fieldAddrV, indexAddrV, extractV, cellAt, cellsAt, findB, setB, fillL, buildV, Value.cells, lenV, minV, maxV, hav, sliceV, loV, hiV, bslQ, mksQ, appQ, partsOk, partsCells, delB, eqL, SameI, strOp, apzQ, cvtQ, capV, ↓reduceIte, Zj, Zk, Nat.reduceAdd, Nat.reduceLT, Nat.reduceEqDiff, Nat.reduceMul, Nat.reduceLeDiff, if_true, Zn, reduceCtorEq, ZA, eq_self, Int.reduceLE, Int.reduceLT, Int.reduceToNat, ne_eq, Nat.reduceSub, hl0, hm0, f1, f2]
  repeat refine And.intro (by omega) ?_
  intro g
  simp only [List.map_cons, List.map_nil, updL, upd, Nat.reduceEqDiff, if_true, if_false, ↓reduceIte]
  refine hK _ _ ?_; clear hK K
  refine Cd.condd rfl (fun h9 => absurd h9 (by omega)) (fun _ => ?_)
  refine Cd.skip ?_
  refine thenN ?_
  refine Cd.seq ?_
  refine Cd.rs [65] fun K hK => ?_
  simp (maxSteps := 2000000) (disch := first | omega | (simp only [E4, hl0, hm0, f1, f2, *] <;> omega) | fail) only [↓E0, E1, evP, evPlan, env0, envN, evOps, evOp, evQs, evQ, evV, setD, pureOp, ev, upd, updL, gate, binW, eqOp, binV, intOp, shOp, boolOp, unV, convV, nilV, fieldAddrV, indexAddrV, extractV, cellAt, cellsAt, findB, setB, fillL, buildV, Value.cells, lenV, minV, maxV, hav, sliceV, loV, hiV, bslQ, mksQ, appQ, partsOk, partsCells, delB, eqL, SameI, strOp, apzQ, cvtQ, capV, ↓reduceIte, Zj, Zk, Nat.reduceAdd, Nat.reduceLT, Nat.reduceEqDiff, Nat.reduceMul, Nat.reduceLeDiff, if_true, Zn, reduceCtorEq, ZA, eq_self, Int.reduceLE, Int.reduceLT, Int.reduceToNat, ne_eq, Nat.reduceSub, hl0, hm0, f1, f2]
  repeat refine And.intro (by omega) ?_
  intro g
  simp only [List.map_cons, List.map_nil, updL, upd, Nat.reduceEqDiff, if_true, if_false, ↓reduceIte]
  refine hK _ _ ?_; clear hK K
  refine Cd.no rfl ?_
  refine Cd.skip ?_
  refine thenN ?_
  refine Cd.rs [2] fun K hK => ?_
  simp (maxSteps := 2000000) (disch := first | omega | (simp only [E4, hl0, hm0, f1, f2, *] <;> omega) | fail) only [↓E0, E1, evP, evPlan, env0, envN, evOps, evOp, evQs, evQ, evV, setD, pureOp, ev, upd, updL, gate, binW, eqOp, binV, intOp, shOp, boolOp, unV, convV, nilV, fieldAddrV, indexAddrV, extractV, cellAt, cellsAt, findB, setB, fillL, buildV, Value.cells, lenV, minV, maxV, hav, sliceV, loV, hiV, bslQ, mksQ, appQ, partsOk, partsCells, delB, eqL, SameI, strOp, apzQ, cvtQ, capV, ↓reduceIte, Zj, Zk, Nat.reduceAdd, Nat.reduceLT, Nat.reduceEqDiff, Nat.reduceMul, Nat.reduceLeDiff, if_true, Zn, reduceCtorEq, ZA, eq_self, Int.reduceLE, Int.reduceLT, Int.reduceToNat, ne_eq, Nat.reduceSub, hl0, hm0, f1, f2]
  repeat refine And.intro (by omega) ?_
  intro g
  simp only [List.map_cons, List.map_nil, updL, upd, Nat.reduceEqDiff, if_true, if_false, ↓reduceIte]
  refine hK _ _ ?_; clear hK K
  refine Cd.ret ?_
  simp (maxSteps := 2000000) (disch := first | omega | (simp only [E4, hl0, hm0, f1, f2, *] <;> omega) | fail) only [↓E0, E1, evP, evPlan, env0, envN, evOps, evOp, evQs, evQ, evV, setD, pureOp, ev, upd, updL, gate, binW, eqOp, binV, intOp, shOp, boolOp, unV, convV, nilV, fieldAddrV, indexAddrV, extractV, cellAt, cellsAt, findB, setB, fillL, buildV, Value.cells, lenV, minV, maxV, hav, sliceV, loV, hiV, bslQ, mksQ, appQ, partsOk, partsCells, delB, eqL, SameI, strOp, apzQ, cvtQ, capV, ↓reduceIte, Zj, Zk, Nat.reduceAdd, Nat.reduceLT, Nat.reduceEqDiff, Nat.reduceMul, Nat.reduceLeDiff, if_true, Zn, reduceCtorEq, ZA, eq_self, Int.reduceLE, Int.reduceLT, Int.reduceToNat, ne_eq, Nat.reduceSub, hl0, hm0, f1, f2]


end Go.Proofs

/-
  What the functions of this part hand back: each as a plain function of its arguments. Conditions: none.
-/
namespace Go.Proofs
open Go.W8
set_option linter.unusedVariables false
set_option linter.unusedSimpArgs false
set_option linter.unusedSectionVars false
set_option maxRecDepth 8000
set_option maxHeartbeats 4000000
--@plain
open Go.ChangeShapes Go.WideShapes Go.ChangeAt Go.RowKit in
/-- A law that hands back a value of numbers and truths and leaves what was there as it was meets its row's postcondition. -/
theorem post_own {H : Type} {enc : TypeId × Value → H} {P : Program} {f : Func} {s : ChangeSpec} {apart fresh handsOn again : Bool} {w w' : World} {args : Array Value} {v : Value} {ds gs : List (DataW H)} {before pa pv : List MemPlace}
    (hW : DataW.Whole enc P f.params.toList s.vars apart w args.toList ds gs before)
    (hres : ∀ (b : Nat) (sp : Nat → Bool) (hd : Bool), DataW.TrodAll enc P w' b sp hd f.resultTypes.toList (v.resultList f.resultTypes.size) (s.fn H (ds ++ gs)).results [])
    (hargs : ∀ sp : Nat → Bool, (∀ p ∈ before, sp p.block = true) → DataW.TrodAll enc P w' 0 sp true f.params.toList args.toList (s.fn H (ds ++ gs)).args pa)
    (hvars : ∀ sp : Nat → Bool, (∀ p ∈ before, sp p.block = true) → DataW.TrodVars enc P w' sp s.vars (s.fn H (ds ++ gs)).vars pv)
    (hps : before = pa ++ pv) (ho : Own [] w [] w')
    (hok : ∀ (j : Nat) (t : TypeId) (r : Value), f.resultTypes[j]? = some t → (v.resultList f.resultTypes.size)[j]? = some r → Value.okWide P w' .any 0 t r) :
    s.post enc P f apart fresh handsOn again w args v w' := by
  have hb : Below w.heap.size w w' := ⟨ho.os, ho.tape, ho.output, ho.size, fun k hk => ho.frame k hk (by simp)⟩
  have old : ∀ p ∈ before, p.block < w.heap.size := fun p hp => hW.lt p hp
  have told : ∀ p ∈ before, (fun b => decide (b < w.heap.size)) p.block = true := fun p hp => decide_eq_true (old p hp)
  refine ⟨ds, gs, before, [], pa, pv, hW, hres _ _ _, hargs _ told, hvars _ told, ?_, fun _ => ?_⟩
  · exact World.keptBut_mono (fun p hp => ⟨hp, by
      rw [hps] at hp
      exact List.mem_append.1 hp |>.elim (fun h => by simp [h]) (fun h => by simp [h])⟩) (hb.frame (· ∈ before))
  · obtain ⟨_, _, _, _, _, hz, hn⟩ := hW
    refine ⟨hok, _, _, ([] ++ pa) ++ pv, ⟨[] ++ pa, pv, trodAll_append (hargs _ (fun _ _ => rfl)) (hres _ _ _), hvars _ (fun _ _ => rfl), rfl, fun b off hp => ?_, fun ha => ?_⟩, fun p hp _ => ?_⟩
    · have hin : MemPlace.cell b off ∈ before := by rw [hps]; simpa using hp
      rw [hb.frozen (old _ hin)]
      exact hz b off hin
    · have h1 := hn ha
      rw [hps] at h1
      simpa using h1
    · rw [hps]
      simpa using hp

end Go.Proofs

