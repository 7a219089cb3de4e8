/-
  What the functions of this part hand back: each as a plain function of its arguments. Conditions: none.
-/
import Derived.ProofKit
import Derived.OpenShut
import Derived.Below
import Derived.ChangeSame
import Derived.Test.YtchbkidlmcpiiaaM1
import Derived.Test.YtchbkidlmcpiiaaM2
import Derived.Test.YtchbkidlmcpiiaaM3
namespace Go.Proofs
open Go.W8
set_option linter.unusedVariables false
set_option linter.unusedSimpArgs false
set_option linter.unusedSectionVars false
set_option maxRecDepth 8000
set_option maxHeartbeats 4000000
--@plain
/-- The first place at which a row has the entry r. -/
def rowGo (x : List Int) (r : Int) : Nat → Nat → Nat
  | _, 0 => 0
  | i, m + 1 => if x.getD i 0 = r then i else rowGo x r (i + 1) m
def rowOf (x : List Int) (n : Nat) (r : Int) : Nat := rowGo x r 0 n

theorem rowGo_hit {x : List Int} {r : Int} : ∀ (m i j : Nat), i ≤ j → j < i + m → x.getD j 0 = r → (∀ l, i ≤ l → l < j → x.getD l 0 ≠ r) → rowGo x r i m = j
  | 0, i, j, h1, h2, _, _ => by omega
  | m + 1, i, j, h1, h2, h3, h4 => by
    unfold rowGo
    by_cases h : i = j
    · subst h; rw [if_pos h3]
    · rw [if_neg (h4 i (Nat.le_refl _) (by omega))]
      exact rowGo_hit m (i + 1) j (by omega) (by omega) h3 fun l hl => h4 l (by omega)
theorem rowGo_none {x : List Int} {r : Int} : ∀ (m i : Nat), (∀ l, i ≤ l → l < i + m → x.getD l 0 ≠ r) → rowGo x r i m = 0
  | 0, _, _ => rfl
  | m + 1, i, h => by
    unfold rowGo
    rw [if_neg (h i (Nat.le_refl _) (by omega))]
    exact rowGo_none m (i + 1) fun l hl hl' => h l (by omega) (by omega)
theorem rowOf_hit {x : List Int} {n j : Nat} {r : Int} (hj : j < n) (h : x.getD j 0 = r) (h' : ∀ l, l < j → x.getD l 0 ≠ r) : rowOf x n r = j := rowGo_hit n 0 j (Nat.zero_le _) (by omega) h fun l _ => h' l
theorem rowOf_none {x : List Int} {n : Nat} {r : Int} (h : ∀ l, l < n → x.getD l 0 ≠ r) : rowOf x n r = 0 := rowGo_none n 0 fun l _ hl => h l (by omega)
theorem rowOf_perm {x : List Int} {n j : Nat} (hp : IsPerm x n) (hj : j < n) : rowOf x n (x.getD j 0) = j := rowOf_hit hj rfl fun l hl => hp.2.1 j hj l hl
theorem perm_surj {x : List Int} {n : Nat} (hx : ∀ i, i < n → 0 ≤ x.getD i 0) (hp : IsPerm x n) {r : Int} (h0 : 0 ≤ r) (h1 : r < n) : ∃ i, i < n ∧ x.getD i 0 = r := by
  obtain ⟨i, hi, h⟩ := inj_surj n (fun i => (x.getD i 0).toNat) (fun i hi => by have := hp.1 i hi; have := hx i hi; omega)
    (fun i hi j hj h => by
      have a := hx i hi
      have b := hx j hj
      have h' : (x.getD i 0).toNat = (x.getD j 0).toNat := h
      rcases Nat.lt_trichotomy i j with h2 | h2 | h2
      · exact absurd (by omega) (hp.2.1 j hj i h2)
      · exact h2
      · exact absurd (by omega) (hp.2.1 i hi j h2)) r.toNat (by omega)
  have h' : (x.getD i 0).toNat = r.toNat := h
  exact ⟨i, hi, by have := hx i hi; omega⟩
theorem rowOf_lt {x : List Int} {n : Nat} (hx : ∀ i, i < n → 0 ≤ x.getD i 0) (hp : IsPerm x n) {r : Int} (h0 : 0 ≤ r) (h1 : r < n) : rowOf x n r < n ∧ x.getD (rowOf x n r) 0 = r := by
  obtain ⟨i, hi, rfl⟩ := perm_surj hx hp h0 h1
  rw [rowOf_perm hp hi]
  exact ⟨hi, rfl⟩
/-- The columns of the rows' marks. -/
def plc (x : List Int) (n : Nat) : List Int := (List.range 8).map fun (r : Nat) => (rowOf x n (r : Int) : Int)
def plcTo (x : List Int) (n k : Nat) : List Int := (List.range 8).map fun (r : Nat) => if rowOf x n (r : Int) < k ∧ x.getD (rowOf x n (r : Int)) 0 = (r : Int) then (rowOf x n (r : Int) : Int) else 0
theorem plc_len (x : List Int) (n : Nat) : (plc x n).length = 8 := by simp [plc]
theorem plcTo_len (x : List Int) (n k : Nat) : (plcTo x n k).length = 8 := by simp [plcTo]
theorem plc_get {x : List Int} {n r : Nat} (h : r < 8) : (plc x n).getD r 0 = (rowOf x n (r : Int) : Int) := by
  unfold plc
  rw [List.getD_eq_getElem?_getD, List.getElem?_map, List.getElem?_range h]; rfl
theorem plc_geti {x : List Int} {n : Nat} {r : Int} (h0 : 0 ≤ r) (h : r < 8) : (plc x n).getD r.toNat 0 = (rowOf x n r : Int) := by
  rw [plc_get (by omega)]
  rw [Int.toNat_of_nonneg h0]
theorem plcTo_zero (x : List Int) (n : Nat) : plcTo x n 0 = z8 := by
  unfold plcTo
  simp only [Nat.not_lt_zero, false_and, if_false]
  rfl
theorem plcTo_set {x : List Int} {n k : Nat} (hp : IsPerm x n) (hk : k < n) (hn : n ≤ 8) (h0 : 0 ≤ x.getD k 0) : (plcTo x n k).set (x.getD k 0).toNat (k : Int) = plcTo x n (k + 1) := by
  have h8 := hp.1 k hk
  apply List.ext_getElem?
  intro r
  unfold plcTo
  by_cases hr : r < 8
  · by_cases e : (x.getD k 0).toNat = r
    · subst e
      rw [List.getElem?_set_self (by simpa using hr), List.getElem?_map, List.getElem?_range hr]
      simp only [Option.map_some]
      have e1 : (((x.getD k 0).toNat : Nat) : Int) = x.getD k 0 := Int.toNat_of_nonneg h0
      rw [e1, rowOf_perm hp hk, if_pos ⟨Nat.lt_succ_self k, rfl⟩]
    · rw [List.getElem?_set_ne e, List.getElem?_map, List.getElem?_map, List.getElem?_range hr]
      simp only [Option.map_some]
      congr 1
      by_cases h : rowOf x n (r : Int) < k ∧ x.getD (rowOf x n (r : Int)) 0 = (r : Int)
      · rw [if_pos h, if_pos ⟨by omega, h.2⟩]
      · rw [if_neg h, if_neg fun h' => ?_]
        by_cases h3 : rowOf x n (r : Int) = k
        · rw [h3] at h'
          exact e (by omega)
        · exact h ⟨by omega, h'.2⟩
  · rw [List.getElem?_eq_none (by simp; omega), List.getElem?_eq_none (by simp; omega)]
theorem plcTo_full {x : List Int} {n : Nat} (hx : ∀ i, i < n → 0 ≤ x.getD i 0) (hp : IsPerm x n) : plcTo x n n = plc x n := by
  unfold plcTo plc
  apply List.map_congr_left
  intro r _
  by_cases hr : (r : Int) < n
  · have := rowOf_lt hx hp (r := (r : Int)) (by omega) hr
    rw [if_pos this]
  · have h0 : rowOf x n (r : Int) = 0 := rowOf_none fun l hl he => by have := hp.1 l hl; omega
    rw [h0]
    split <;> rfl

end Go.Proofs

/-
  What the functions of this part hand back: each as a plain function of its arguments. Conditions: none.
-/
namespace Go.Proofs
open Go.W8
set_option linter.unusedVariables false
set_option linter.unusedSimpArgs false
set_option linter.unusedSectionVars false
set_option maxRecDepth 8000
set_option maxHeartbeats 4000000
theorem l01Row_c (x : List Int) (hx : Bytes8 x) (n : Nat) (hn : n ≤ 8) (r : Int) : Gives Try.prog 55 #[.agg (ints .u8 x).toArray, .int .i64 (n : Int), .int .i64 r] (.int .i64 (rowOf x n r : Int)) := by
  have hl := hx.len
  skip
  refine Gives.of fun w => ?_
  refine acall_of (N := 20) (c := _) (rs := [.tmp 6]) (args := [_, _, _]) Try.func55 rfl (by decide) rfl rfl (Nat.le_of_ble_eq_true rfl) ?_
  refine Cd.rs [1, 2, 3] fun K hK => ?_
  simp (maxSteps := 2000000) (disch := first | (simp only [E4, hl] <;> omega) | omega | fail) only [↓E2, E3, bare, bareJ, ↓E0, E1, env0, envN, evOps, evOp, evQs, evQ, evV, setD, pureOp, ev, upd, updL, Value.cells, hav, delB, ↓reduceIte, Zj, Zk, Nat.reduceAdd, Nat.reduceLT, Nat.reduceEqDiff, Nat.reduceMul, Nat.reduceLeDiff, if_true, Zn, reduceCtorEq, ZA, eq_self, Int.reduceLE, Int.reduceLT, Int.reduceToNat, ne_eq, Nat.reduceSub, hl]
  repeat refine And.intro (by omega) ?_
  intro b1 hb1
  try simp (maxSteps := 2000000) (disch := first | (simp only [E4, hl] <;> omega) | omega | fail) only [↓E2, E3, bare, bareJ, ↓E0, E1, env0, envN, evOps, evOp, evQs, evQ, evV, setD, pureOp, ev, upd, updL, Value.cells, hav, delB, ↓reduceIte, Zj, Zk, Nat.reduceAdd, Nat.reduceLT, Nat.reduceEqDiff, Nat.reduceMul, Nat.reduceLeDiff, if_true, Zn, reduceCtorEq, ZA, eq_self, Int.reduceLE, Int.reduceLT, Int.reduceToNat, ne_eq, Nat.reduceSub, hl]
  repeat refine And.intro (by omega) ?_
  intro g
  simp only [List.map_cons, List.map_nil, updL, upd, Nat.reduceEqDiff, if_true, if_false, ↓reduceIte]
  refine hK _ _ ?_; clear hK K
  refine Cd.seq ?_
  refine Cd.rs [1, 2, 3, 7] fun K hK => ?_
  simp (maxSteps := 2000000) (disch := first | (simp only [E4, hl] <;> omega) | omega | fail) only [↓E2, E3, bare, bareJ, ↓E0, E1, env0, envN, evOps, evOp, evQs, evQ, evV, setD, pureOp, ev, upd, updL, hav, delB, ↓reduceIte, Zj, Zk, Nat.reduceAdd, Nat.reduceLT, Nat.reduceEqDiff, Nat.reduceMul, Nat.reduceLeDiff, if_true, Zn, reduceCtorEq, ZA, eq_self, Int.reduceLE, Int.reduceLT, Int.reduceToNat, ne_eq, Nat.reduceSub, hl]
  repeat refine And.intro (by omega) ?_
  intro g
  simp only [List.map_cons, List.map_nil, updL, upd, Nat.reduceEqDiff, if_true, if_false, ↓reduceIte]
  refine hK _ _ ?_; clear hK K
  refine Cd.block ?_
  refine Cd.loop (fun m ρ M => ∃ g k, k + m = n ∧ (∀ l, l < k → x.getD l 0 ≠ r) ∧ ρ = updL [(1, .int .i64 (n : Int)), (2, .int .i64 r), (3, .pointer (some ⟨b1, 0, none⟩)), (7, .int .i64 (k : Int))] g ∧ M = [(b1, ints .u8 x)]) n ⟨_, 0, Nat.zero_add _, (fun _ h => absurd h (Nat.not_lt_zero _)), rfl, rfl⟩ ?_
  rintro m ρ M ⟨g, k, hk, hno, rfl, rfl⟩
  refine Cd.seq ?_
  refine Cd.rs [1, 2, 3, 7, 10] fun K hK => ?_
  simp (maxSteps := 2000000) (disch := first | (simp only [E4, hl] <;> omega) | omega | fail) only [↓E2, E3, bare, bareJ, ↓E0, E1, env0, envN, evOps, evOp, evQs, evQ, evV, setD, pureOp, ev, upd, updL, binW, eqOp, binV, intOp, shOp, boolOp, hav, delB, eqL, SameI, strOp, ↓reduceIte, Zj, Zk, Nat.reduceAdd, Nat.reduceLT, Nat.reduceEqDiff, Nat.reduceMul, Nat.reduceLeDiff, if_true, Zn, reduceCtorEq, ZA, eq_self, Int.reduceLE, Int.reduceLT, Int.reduceToNat, ne_eq, Nat.reduceSub, hl]
  repeat refine And.intro (by omega) ?_
  intro g
  simp only [List.map_cons, List.map_nil, updL, upd, Nat.reduceEqDiff, if_true, if_false, ↓reduceIte]
  refine hK _ _ ?_; clear hK K
  refine Cd.condd rfl (fun h1 => ?_) (fun h1 => ?_)
  · have c1 := bytes_get hx (i := k) (by omega)
    refine Cd.skip ?_
    refine thenN ?_
    refine Cd.seq ?_
    refine Cd.block ?_
    refine Cd.rs [1, 2, 3, 7, 18] fun K hK => ?_
    simp (maxSteps := 2000000) (disch := first | (simp only [E4, hl] <;> omega) | omega | fail) only [↓E2, E3, bare, bareJ, ↓E0, E1, env0, envN, evOps, evOp, evQs, evQ, evV, setD, pureOp, ev, upd, updL, binW, eqOp, binV, intOp, shOp, boolOp, convV, indexAddrV, cellAt, cellsAt, findB, hav, delB, eqL, SameI, strOp, cvtQ, ↓reduceIte, Zj, Zk, Nat.reduceAdd, Nat.reduceLT, Nat.reduceEqDiff, Nat.reduceMul, Nat.reduceLeDiff, if_true, Zn, reduceCtorEq, ZA, eq_self, Int.reduceLE, Int.reduceLT, Int.reduceToNat, ne_eq, Nat.reduceSub, Tarr22, Tint2, Tld5, Tpar5, hl]
    repeat refine And.intro (by omega) ?_
    repeat refine And.intro (by omega) ?_
    intro g
    simp only [List.map_cons, List.map_nil, updL, upd, Nat.reduceEqDiff, if_true, if_false, ↓reduceIte]
    refine hK _ _ ?_; clear hK K
    refine Cd.cond rfl (fun h2 => ?_) (fun h2 => ?_)
    · refine Cd.rs [6] fun K hK => ?_
      simp (maxSteps := 2000000) (disch := first | (simp only [E4, hl] <;> omega) | omega | fail) only [↓E2, E3, bare, bareJ, ↓E0, E1, env0, envN, evOps, evOp, evQs, evQ, evV, setD, pureOp, ev, upd, updL, hav, delB, ↓reduceIte, Zj, Zk, Nat.reduceAdd, Nat.reduceLT, Nat.reduceEqDiff, Nat.reduceMul, Nat.reduceLeDiff, if_true, Zn, reduceCtorEq, ZA, eq_self, Int.reduceLE, Int.reduceLT, Int.reduceToNat, ne_eq, Nat.reduceSub, hl]
      repeat refine And.intro (by omega) ?_
      intro g
      simp only [List.map_cons, List.map_nil, updL, upd, Nat.reduceEqDiff, if_true, if_false, ↓reduceIte]
      refine hK _ _ ?_; clear hK K
      refine Cd.ret (inBR (thenR (roundR (inBR (thenR ?_)))))
      simp (maxSteps := 2000000) (disch := first | (simp only [E4, hl] <;> omega) | omega | fail) only [↓E2, E3, bare, bareJ, ↓E0, E1, evP, evPlan, env0, envN, evOps, evOp, evQs, evQ, evV, setD, pureOp, ev, upd, updL, gate, binW, eqOp, binV, intOp, shOp, boolOp, unV, convV, nilV, fieldAddrV, indexAddrV, extractV, cellAt, cellsAt, findB, setB, fillL, buildV, Value.cells, lenV, minV, maxV, hav, sliceV, loV, hiV, bslQ, mksQ, appQ, partsOk, partsCells, delB, eqL, SameI, strOp, apzQ, cvtQ, capV, ↓reduceIte, Zj, Zk, Nat.reduceAdd, Nat.reduceLT, Nat.reduceEqDiff, Nat.reduceMul, Nat.reduceLeDiff, if_true, Zn, reduceCtorEq, ZA, eq_self, Int.reduceLE, Int.reduceLT, Int.reduceToNat, ne_eq, Nat.reduceSub, hl]
      rw [rowOf_hit (by omega) (by simpa using h2) hno]
    · refine Cd.skip ?_
      refine inBN ?_
      refine thenN ?_
      refine Cd.rr [1, 2, 3, 7] fun K hK => ?_
      simp (maxSteps := 2000000) (disch := first | (simp only [E4, hl] <;> omega) | omega | fail) only [↓E2, E3, bare, bareJ, ↓E0, E1, env0, envN, evOps, evOp, evQs, evQ, evV, setD, pureOp, ev, upd, updL, binW, eqOp, binV, intOp, shOp, boolOp, hav, delB, eqL, SameI, strOp, ↓reduceIte, Zj, Zk, Nat.reduceAdd, Nat.reduceLT, Nat.reduceEqDiff, Nat.reduceMul, Nat.reduceLeDiff, if_true, Zn, reduceCtorEq, ZA, eq_self, Int.reduceLE, Int.reduceLT, Int.reduceToNat, ne_eq, Nat.reduceSub, hl]
      repeat refine And.intro (by omega) ?_
      intro g
      simp only [List.map_cons, List.map_nil, updL, upd, Nat.reduceEqDiff, if_true, if_false, ↓reduceIte]
      refine hK _ _ ?_; clear hK K
      refine roundN (m := m - 1) (by omega) ⟨_, k + 1, by omega, fun l hl => ?_, rfl, rfl⟩
      rcases Nat.lt_succ_iff_lt_or_eq.1 hl with h | rfl
      · exact hno l h
      · simpa using h2
  · refine Cd.exit (thenX (roundX (inBX ?_)))
    refine thenN ?_
    obtain rfl : k = n := by omega
    refine Cd.rs [6] fun K hK => ?_
    simp (maxSteps := 2000000) (disch := first | (simp only [E4, hl] <;> omega) | omega | fail) only [↓E2, E3, bare, bareJ, ↓E0, E1, env0, envN, evOps, evOp, evQs, evQ, evV, setD, pureOp, ev, upd, updL, hav, delB, ↓reduceIte, Zj, Zk, Nat.reduceAdd, Nat.reduceLT, Nat.reduceEqDiff, Nat.reduceMul, Nat.reduceLeDiff, if_true, Zn, reduceCtorEq, ZA, eq_self, Int.reduceLE, Int.reduceLT, Int.reduceToNat, ne_eq, Nat.reduceSub, hl]
    repeat refine And.intro (by omega) ?_
    intro g
    simp only [List.map_cons, List.map_nil, updL, upd, Nat.reduceEqDiff, if_true, if_false, ↓reduceIte]
    refine hK _ _ ?_; clear hK K
    refine Cd.ret ?_
    simp (maxSteps := 2000000) (disch := first | (simp only [E4, hl] <;> omega) | omega | fail) only [↓E2, E3, bare, bareJ, ↓E0, E1, evP, evPlan, env0, envN, evOps, evOp, evQs, evQ, evV, setD, pureOp, ev, upd, updL, gate, binW, eqOp, binV, intOp, shOp, boolOp, unV, convV, nilV, fieldAddrV, indexAddrV, extractV, cellAt, cellsAt, findB, setB, fillL, buildV, Value.cells, lenV, minV, maxV, hav, sliceV, loV, hiV, bslQ, mksQ, appQ, partsOk, partsCells, delB, eqL, SameI, strOp, apzQ, cvtQ, capV, ↓reduceIte, Zj, Zk, Nat.reduceAdd, Nat.reduceLT, Nat.reduceEqDiff, Nat.reduceMul, Nat.reduceLeDiff, if_true, Zn, reduceCtorEq, ZA, eq_self, Int.reduceLE, Int.reduceLT, Int.reduceToNat, ne_eq, Nat.reduceSub, hl]
    rw [rowOf_none hno]
    rfl

end Go.Proofs

/-
  What the functions of this part hand back: each as a plain function of its arguments. Conditions: none.
-/
namespace Go.Proofs
open Go.W8
set_option linter.unusedVariables false
set_option linter.unusedSimpArgs false
set_option linter.unusedSectionVars false
set_option maxRecDepth 8000
set_option maxHeartbeats 4000000
--@plain
/-- The labels of a walk that goes on till it meets a label. -/
def walkC (nx : Nat → Nat) (c : Int) : Nat → Nat → List Int → List Int
  | 0, _, l => l
  | f + 1, k, l => if l.getD k 0 < 0 then walkC nx c f (nx k) (l.set k c) else l
/-- The labels and their number, by the columns ahead of i. -/
def compTo (nx : Nat → Nat) : Nat → List Int × Nat
  | 0 => (List.replicate 8 (-1), 0)
  | i + 1 => if 0 ≤ (compTo nx i).1.getD i 0 then compTo nx i else (walkC nx (compTo nx i).2 8 i (compTo nx i).1, (compTo nx i).2 + 1)
def negs (l : List Int) : Nat := l.countP fun e => decide (e < 0)

theorem cgetD_set {l : List Int} {i j : Nat} {v : Int} (h : i < l.length) : (l.set i v).getD j 0 = if i = j then v else l.getD j 0 := by
  rw [List.getD_eq_getElem?_getD, List.getElem?_set]
  by_cases e : i = j
  · subst e; rw [if_pos rfl, if_pos h, if_pos rfl]; rfl
  · rw [if_neg e, if_neg e, List.getD_eq_getElem?_getD]

theorem negs_set {c : Int} (hc : 0 ≤ c) : ∀ (l : List Int) (k : Nat), k < l.length → l.getD k 0 < 0 → negs (l.set k c) + 1 = negs l
  | [], k, h, _ => by simp at h
  | a :: l, 0, _, h => by
    have h : a < 0 := by simpa using h
    have h' : ¬ c < 0 := by omega
    simp [negs, h, h']
  | a :: l, k + 1, h, h1 => by
    have ih := negs_set hc l k (by simpa using h) (by simpa using h1)
    unfold negs at ih ⊢
    rw [List.set_cons_succ, List.countP_cons, List.countP_cons]
    omega
theorem negs_le {l : List Int} (h : l.length = 8) : negs l ≤ 8 := by
  unfold negs
  rw [← h]
  exact List.countP_le_length
theorem negs_pos {l : List Int} {k : Nat} (h : k < l.length) (h' : l.getD k 0 < 0) : 0 < negs l := by
  have := negs_set (c := 0) (Int.le_refl _) l k h h'
  omega

theorem walkC_end {nx : Nat → Nat} {c : Int} {k : Nat} {l : List Int} (h : ¬ l.getD k 0 < 0) : ∀ f, walkC nx c f k l = l
  | 0 => rfl
  | f + 1 => by unfold walkC; rw [if_neg h]
theorem walkC_step {nx : Nat → Nat} {c : Int} {k f : Nat} {l : List Int} (h : l.getD k 0 < 0) : walkC nx c (f + 1) k l = walkC nx c f (nx k) (l.set k c) := by
  show (if _ then _ else _) = _
  rw [if_pos h]
theorem walkC_len {nx : Nat → Nat} {c : Int} : ∀ (f k : Nat) (l : List Int), (walkC nx c f k l).length = l.length
  | 0, _, _ => rfl
  | f + 1, k, l => by
    unfold walkC
    split
    · rw [walkC_len f, List.length_set]
    · rfl
theorem walkC_get {nx : Nat → Nat} {c : Int} (hc : 0 ≤ c) : ∀ (f k : Nat) (l : List Int) (i : Nat), (walkC nx c f k l).getD i 0 = l.getD i 0 ∨ ((walkC nx c f k l).getD i 0 = c ∧ l.getD i 0 < 0)
  | 0, _, _, _ => .inl rfl
  | f + 1, k, l, i => by
    unfold walkC
    split
    · rename_i hk
      by_cases hkl : k < l.length
      · rcases walkC_get hc f (nx k) (l.set k c) i with h | ⟨h, h'⟩
        · rw [h, cgetD_set hkl]
          by_cases e : k = i
          · subst e; rw [if_pos rfl]; exact .inr ⟨rfl, hk⟩
          · rw [if_neg e]; exact .inl rfl
        · rw [cgetD_set hkl] at h'
          by_cases e : k = i
          · rw [if_pos e] at h'; omega
          · rw [if_neg e] at h'; exact .inr ⟨h, h'⟩
      · rw [List.set_eq_of_length_le (by omega)]
        exact walkC_get hc f (nx k) l i
    · exact .inl rfl
theorem walkC_self {nx : Nat → Nat} {c : Int} (hc : 0 ≤ c) {f k : Nat} {l : List Int} (hk : k < l.length) (h : l.getD k 0 < 0) : (walkC nx c (f + 1) k l).getD k 0 = c := by
  rw [walkC_step h]
  rcases walkC_get (nx := nx) hc f (nx k) (l.set k c) k with h | ⟨h, h'⟩
  · rw [h, cgetD_set hk, if_pos rfl]
  · exact h

theorem compTo_len (nx : Nat → Nat) : ∀ i, (compTo nx i).1.length = 8
  | 0 => rfl
  | i + 1 => by
    unfold compTo
    split
    · exact compTo_len nx i
    · show (walkC _ _ _ _ _).length = 8
      rw [walkC_len]; exact compTo_len nx i
theorem compTo_count (nx : Nat → Nat) : ∀ i, (compTo nx i).2 ≤ i
  | 0 => Nat.le_refl _
  | i + 1 => by
    have ih := compTo_count nx i
    unfold compTo
    split
    · omega
    · show (compTo nx i).2 + 1 ≤ _; omega
theorem compTo_bound (nx : Nat → Nat) : ∀ i j, j < 8 → -1 ≤ (compTo nx i).1.getD j 0 ∧ (compTo nx i).1.getD j 0 < ((compTo nx i).2 : Int)
  | 0, j, h => by
    have : (compTo nx 0).1.getD j 0 = -1 := by
      show (List.replicate 8 (-1 : Int)).getD j 0 = -1
      rw [List.getD_eq_getElem?_getD, List.getElem?_replicate_of_lt h]; rfl
    rw [this]
    show _ ∧ (-1 : Int) < ((0 : Nat) : Int)
    omega
  | i + 1, j, h => by
    have ih := compTo_bound nx i j h
    unfold compTo
    split
    · exact ih
    · show _ ≤ (walkC _ _ _ _ _).getD j 0 ∧ (walkC _ _ _ _ _).getD j 0 < (((compTo nx i).2 + 1 : Nat) : Int)
      rcases walkC_get (nx := nx) (c := ((compTo nx i).2 : Int)) (by omega) 8 i (compTo nx i).1 j with h1 | ⟨h1, _⟩
      · rw [h1]; omega
      · rw [h1]; omega
theorem compTo_done (nx : Nat → Nat) : ∀ i, i ≤ 8 → ∀ j, j < i → 0 ≤ (compTo nx i).1.getD j 0
  | 0, _, j, h => absurd h (Nat.not_lt_zero _)
  | i + 1, hi, j, h => by
    unfold compTo
    split
    · rename_i h0
      rcases Nat.lt_succ_iff_lt_or_eq.1 h with h1 | rfl
      · exact compTo_done nx i (by omega) j h1
      · exact h0
    · rename_i h0
      show 0 ≤ (walkC _ _ _ _ _).getD j 0
      rcases Nat.lt_succ_iff_lt_or_eq.1 h with h1 | rfl
      · have := compTo_done nx i (by omega) j h1
        rcases walkC_get (nx := nx) (c := ((compTo nx i).2 : Int)) (by omega) 8 i (compTo nx i).1 j with h1 | ⟨h1, _⟩
        · rw [h1]; exact this
        · rw [h1]; omega
      · rw [walkC_self (by omega) (by rw [compTo_len]; omega) (by omega)]
        omega
theorem compTo_same {nx : Nat → Nat} {i : Nat} (h : 0 ≤ (compTo nx i).1.getD i 0) : compTo nx (i + 1) = compTo nx i := by
  show (if _ then _ else _) = _
  rw [if_pos h]
theorem compTo_more {nx : Nat → Nat} {i : Nat} (h : ¬ 0 ≤ (compTo nx i).1.getD i 0) : compTo nx (i + 1) = (walkC nx (compTo nx i).2 8 i (compTo nx i).1, (compTo nx i).2 + 1) := by
  show (if _ then _ else _) = _
  rw [if_neg h]

/-- The next column of a component. -/
def nextOf (n : Nat) (x o : List Int) (k : Nat) : Nat := rowOf x n (o.getD k 0)
def comps (n : Nat) (x o : List Int) : List Int × Nat := compTo (nextOf n x o) n
/-- All entries one more. -/
def incL (l : List Int) : List Int := l.map (· + 1)
theorem incL_len (l : List Int) : (incL l).length = l.length := by simp [incL]
theorem incL_get {l : List Int} {i : Nat} (h : i < l.length) : (incL l).getD i 0 = l.getD i 0 + 1 := by
  unfold incL
  rw [List.getD_eq_getElem?_getD, List.getElem?_map, List.getD_eq_getElem?_getD, List.getElem?_eq_getElem h]
  rfl
theorem incL_set {l : List Int} {i : Nat} {v : Int} : (incL l).set i (v + 1) = incL (l.set i v) := by
  unfold incL
  rw [List.map_set]
/-- The first k entries one less again. -/
def decTo (l : List Int) (k : Nat) : List Int := (List.range 8).map fun j => if j < k then l.getD j 0 else l.getD j 0 + 1
theorem decTo_len (l : List Int) (k : Nat) : (decTo l k).length = 8 := by simp [decTo]
theorem decTo_get {l : List Int} {k j : Nat} (h : j < 8) : (decTo l k).getD j 0 = if j < k then l.getD j 0 else l.getD j 0 + 1 := by
  unfold decTo
  rw [List.getD_eq_getElem?_getD, List.getElem?_map, List.getElem?_range h]; rfl
theorem decTo_zero {l : List Int} (h : l.length = 8) : decTo l 0 = incL l := by
  apply List.ext_getElem?
  intro j
  unfold decTo incL
  rw [List.getElem?_map, List.getElem?_map]
  by_cases hj : j < 8
  · rw [List.getElem?_range hj, List.getElem?_eq_getElem (by omega)]
    simp [List.getD_eq_getElem?_getD, List.getElem?_eq_getElem (show j < l.length by omega)]
  · rw [List.getElem?_eq_none (by simp; omega), List.getElem?_eq_none (by omega)]; rfl
theorem decTo_set {l : List Int} {k : Nat} (hk : k < 8) : (decTo l k).set k (l.getD k 0) = decTo l (k + 1) := by
  apply List.ext_getElem?
  intro j
  unfold decTo
  by_cases hj : j < 8
  · by_cases e : k = j
    · subst e
      rw [List.getElem?_set_self (by simpa using hj), List.getElem?_map, List.getElem?_range hj]
      simp
    · rw [List.getElem?_set_ne e, List.getElem?_map, List.getElem?_map, List.getElem?_range hj]
      simp only [Option.map_some]
      by_cases h : j < k
      · rw [if_pos h, if_pos (by omega)]
      · rw [if_neg h, if_neg (by omega)]
  · rw [List.getElem?_eq_none (by simp; omega), List.getElem?_eq_none (by simp; omega)]
theorem fillTo_set (k : Nat) (hk : k < 8) : (upto 8 (fun _ => -1) 0 k).set k (-1) = upto 8 (fun _ => -1) 0 (k + 1) := upto_set rfl
theorem fillTo_full : upto 8 (fun _ => -1) 0 8 = List.replicate 8 (-1) := of_eq_true (eq_true (by decide))

end Go.Proofs

/-
  What the functions of this part hand back: each as a plain function of its arguments. Conditions: none.
-/
namespace Go.Proofs
open Go.W8
set_option linter.unusedVariables false
set_option linter.unusedSimpArgs false
set_option linter.unusedSectionVars false
set_option maxRecDepth 8000
set_option maxHeartbeats 4000000
theorem l01Follow_c (n : Nat) (x o : List Int) (hx : Bytes8 x) (ho : Bytes8 o) (hn : n ≤ 8) (k : Nat) (hk : k < 8) : Gives Try.prog 43 #[.agg (gc (n : Int) x o).toArray, .int .i64 (k : Int)] (.int .i64 (nextOf n x o k : Int)) := by
  have hl := hx.len
  have hm := ho.len
  have c1 := bytes_get ho hk
  skip
  refine Gives.of fun w => ?_
  refine acall_of (N := 15) (c := _) (rs := [.tmp 4]) (args := [_, _]) Try.func43 rfl (by decide) rfl rfl (Nat.le_of_ble_eq_true rfl) ?_
  refine Cd.rs [1, 2] fun K hK => ?_
  simp (maxSteps := 2000000) (disch := first | (simp only [E4, hl, hm] <;> omega) | omega | fail) only [↓E2, E3, bare, bareJ, ↓E0, E1, env0, envN, evOps, evOp, evQs, evQ, evV, setD, pureOp, ev, upd, updL, Value.cells, hav, delB, ↓reduceIte, Zj, Zk, Nat.reduceAdd, Nat.reduceLT, Nat.reduceEqDiff, Nat.reduceMul, Nat.reduceLeDiff, if_true, Zn, reduceCtorEq, ZA, eq_self, Int.reduceLE, Int.reduceLT, Int.reduceToNat, ne_eq, Nat.reduceSub, hl, hm]
  repeat refine And.intro (by omega) ?_
  intro b1 hb1
  try simp (maxSteps := 2000000) (disch := first | (simp only [E4, hl, hm] <;> omega) | omega | fail) only [↓E2, E3, bare, bareJ, ↓E0, E1, env0, envN, evOps, evOp, evQs, evQ, evV, setD, pureOp, ev, upd, updL, Value.cells, hav, delB, ↓reduceIte, Zj, Zk, Nat.reduceAdd, Nat.reduceLT, Nat.reduceEqDiff, Nat.reduceMul, Nat.reduceLeDiff, if_true, Zn, reduceCtorEq, ZA, eq_self, Int.reduceLE, Int.reduceLT, Int.reduceToNat, ne_eq, Nat.reduceSub, hl, hm]
  repeat refine And.intro (by omega) ?_
  intro g
  simp only [List.map_cons, List.map_nil, updL, upd, Nat.reduceEqDiff, if_true, if_false, ↓reduceIte]
  refine hK _ _ ?_; clear hK K
  refine Cd.qs [4] fol (by kernel_rfl) fun K hK => ?_
  simp (maxSteps := 2000000) (disch := first | (simp only [E4, hl, hm] <;> omega) | omega | fail) only [↓E2, E3, bare, bareJ, ↓E0, E1, evPlan, env0, envN, evOps, evOp, evQs, evQ, evV, setD, pureOp, ev, upd, updL, convV, fieldAddrV, indexAddrV, cellAt, cellsAt, findB, setB, hav, delB, cvtQ, ↓reduceIte, Zj, Zk, Nat.reduceAdd, Nat.reduceLT, Nat.reduceEqDiff, Nat.reduceMul, Nat.reduceLeDiff, if_true, Zn, reduceCtorEq, ZA, eq_self, Int.reduceLE, Int.reduceLT, Int.reduceToNat, ne_eq, Nat.reduceSub, Tarr22, Tfld27_0, Tfld27_1, Tfld27_2, Tint2, Tld2, Tld22, Tld5, Tpar5, hl, hm]
  repeat refine And.intro (by omega) ?_
  refine callQ_gives (l01Row_c _ hx _ hn _) ?_
  simp (maxSteps := 2000000) (disch := first | (simp only [E4, hl, hm] <;> omega) | omega | fail) only [↓E2, E3, bare, bareJ, ↓E0, E1, evPlan, env0, envN, evOps, evOp, evQs, evQ, evV, setD, pureOp, ev, upd, updL, convV, fieldAddrV, indexAddrV, cellAt, cellsAt, findB, setB, hav, delB, cvtQ, ↓reduceIte, Zj, Zk, Nat.reduceAdd, Nat.reduceLT, Nat.reduceEqDiff, Nat.reduceMul, Nat.reduceLeDiff, if_true, Zn, reduceCtorEq, ZA, eq_self, Int.reduceLE, Int.reduceLT, Int.reduceToNat, ne_eq, Nat.reduceSub, Tarr22, Tfld27_0, Tfld27_1, Tfld27_2, Tint2, Tld2, Tld22, Tld5, Tpar5, hl, hm]
  repeat refine And.intro (by omega) ?_
  intro g
  simp only [List.map_cons, List.map_nil, updL, upd, Nat.reduceEqDiff, if_true, if_false, ↓reduceIte]
  refine hK _ ?_; clear hK K
  refine Cd.ret ?_
  simp (maxSteps := 2000000) (disch := first | (simp only [E4, hl, hm] <;> omega) | omega | fail) only [↓E2, E3, bare, bareJ, ↓E0, E1, evP, evPlan, env0, envN, evOps, evOp, evQs, evQ, evV, setD, pureOp, ev, upd, updL, gate, binW, eqOp, binV, intOp, shOp, boolOp, unV, convV, nilV, fieldAddrV, indexAddrV, extractV, cellAt, cellsAt, findB, setB, fillL, buildV, Value.cells, lenV, minV, maxV, hav, sliceV, loV, hiV, bslQ, mksQ, appQ, partsOk, partsCells, delB, eqL, SameI, strOp, apzQ, cvtQ, capV, ↓reduceIte, Zj, Zk, Nat.reduceAdd, Nat.reduceLT, Nat.reduceEqDiff, Nat.reduceMul, Nat.reduceLeDiff, if_true, Zn, reduceCtorEq, ZA, eq_self, Int.reduceLE, Int.reduceLT, Int.reduceToNat, ne_eq, Nat.reduceSub, hl, hm]
  rfl

theorem l01Components_c (n : Nat) (x o : List Int) (hx : Bytes8 x) (ho : Bytes8 o) (hn : n ≤ 8) (hp : IsPerm x n) (hq : IsPerm o n) : Gives Try.prog 21 #[.agg (gc (n : Int) x o).toArray] (.tuple #[.agg (ints .i64 (comps n x o).1).toArray, .int .i64 ((comps n x o).2 : Int)]) := by
  have hl := hx.len
  have hm := ho.len
  skip
  refine Gives.of fun w => ?_
  refine acall_of (N := 41) (c := _) (rs := [.cell 2 44, .tmp 3]) (args := [_]) Try.func21 rfl (by decide) rfl rfl (Nat.le_of_ble_eq_true rfl) ?_
  refine Cd.rs [1, 2] fun K hK => ?_
  simp (maxSteps := 2000000) (disch := first | (simp only [E4, hl, hm] <;> omega) | omega | fail) only [↓E2, E3, bare, bareJ, ↓E0, E1, env0, envN, evOps, evOp, evQs, evQ, evV, setD, pureOp, ev, upd, updL, Value.cells, hav, delB, ↓reduceIte, Zj, Zk, Nat.reduceAdd, Nat.reduceLT, Nat.reduceEqDiff, Nat.reduceMul, Nat.reduceLeDiff, if_true, Zn, reduceCtorEq, ZA, eq_self, Int.reduceLE, Int.reduceLT, Int.reduceToNat, ne_eq, Nat.reduceSub, Tzero44, hl, hm]
  repeat refine And.intro (by omega) ?_
  intro b1 hb1
  intro b2 hb2
  have nb2_b1 := hb2.ne
  try simp (maxSteps := 2000000) (disch := first | (simp only [E4, hl, hm] <;> omega) | omega | fail) only [↓E2, E3, bare, bareJ, ↓E0, E1, env0, envN, evOps, evOp, evQs, evQ, evV, setD, pureOp, ev, upd, updL, Value.cells, hav, delB, ↓reduceIte, Zj, Zk, Nat.reduceAdd, Nat.reduceLT, Nat.reduceEqDiff, Nat.reduceMul, Nat.reduceLeDiff, if_true, Zn, reduceCtorEq, ZA, eq_self, Int.reduceLE, Int.reduceLT, Int.reduceToNat, ne_eq, Nat.reduceSub, Tzero44, hl, hm, nb2_b1]
  repeat refine And.intro (by omega) ?_
  intro g
  simp only [List.map_cons, List.map_nil, updL, upd, Nat.reduceEqDiff, if_true, if_false, ↓reduceIte]
  refine hK _ _ ?_; clear hK K
  refine Cd.rs [1, 2, 4, 5] fun K hK => ?_
  simp (maxSteps := 2000000) (disch := first | (simp only [E4, hl, hm] <;> omega) | omega | fail) only [↓E2, E3, bare, bareJ, ↓E0, E1, evP, env0, envN, evOps, evOp, evQs, evQ, evV, setD, pureOp, ev, upd, updL, cellAt, cellsAt, findB, setB, fillL, buildV, Value.cells, hav, delB, ↓reduceIte, Zj, Zk, Nat.reduceAdd, Nat.reduceLT, Nat.reduceEqDiff, Nat.reduceMul, Nat.reduceLeDiff, if_true, Zn, reduceCtorEq, ZA, eq_self, Int.reduceLE, Int.reduceLT, Int.reduceToNat, ne_eq, Nat.reduceSub, Tbld44, Tst44, Tzero44, hl, hm, nb2_b1]
  repeat refine And.intro (by omega) ?_
  intro b3 hb3
  have nb3_b2 := hb3.ne
  have nb3_b1 := hb3.tail.ne
  try simp (maxSteps := 2000000) (disch := first | (simp only [E4, hl, hm] <;> omega) | omega | fail) only [↓E2, E3, bare, bareJ, ↓E0, E1, evP, env0, envN, evOps, evOp, evQs, evQ, evV, setD, pureOp, ev, upd, updL, cellAt, cellsAt, findB, setB, fillL, buildV, Value.cells, hav, delB, ↓reduceIte, Zj, Zk, Nat.reduceAdd, Nat.reduceLT, Nat.reduceEqDiff, Nat.reduceMul, Nat.reduceLeDiff, if_true, Zn, reduceCtorEq, ZA, eq_self, Int.reduceLE, Int.reduceLT, Int.reduceToNat, ne_eq, Nat.reduceSub, Tbld44, Tst44, Tzero44, hl, hm, nb2_b1, nb3_b2, nb3_b1]
  repeat refine And.intro (by omega) ?_
  intro g
  simp only [List.map_cons, List.map_nil, updL, upd, Nat.reduceEqDiff, if_true, if_false, ↓reduceIte]
  refine hK _ _ ?_; clear hK K
  refine Cd.seq ?_
  refine Cd.rs [1, 2, 4, 5, 6] fun K hK => ?_
  simp (maxSteps := 2000000) (disch := first | (simp only [E4, hl, hm] <;> omega) | omega | fail) only [↓E2, E3, bare, bareJ, ↓E0, E1, env0, envN, evOps, evOp, evQs, evQ, evV, setD, pureOp, ev, upd, updL, hav, delB, ↓reduceIte, Zj, Zk, Nat.reduceAdd, Nat.reduceLT, Nat.reduceEqDiff, Nat.reduceMul, Nat.reduceLeDiff, if_true, Zn, reduceCtorEq, ZA, eq_self, Int.reduceLE, Int.reduceLT, Int.reduceToNat, ne_eq, Nat.reduceSub, hl, hm, nb2_b1, nb3_b2, nb3_b1]
  repeat refine And.intro (by omega) ?_
  intro g
  simp only [List.map_cons, List.map_nil, updL, upd, Nat.reduceEqDiff, if_true, if_false, ↓reduceIte]
  refine hK _ _ ?_; clear hK K
  refine Cd.block ?_
  refine Cd.loop (fun m ρ M => ∃ g k, k + m = 8 ∧ ρ = updL ([(1, .pointer (some ⟨b1, 0, none⟩)), (2, .pointer (some ⟨b2, 0, none⟩)), (4, .pointer (some ⟨b3, 0, none⟩)), (5, .int .i64 0), (6, .int .i64 (k : Int))]) g ∧ M = [(b3, ints .i64 (upto 8 (fun _ => -1) 0 k)), (b2, ints .i64 z8), (b1, gc (n : Int) x o)]) 8 ⟨_, 0, Nat.zero_add _, rfl, rfl⟩ ?_
  rintro m ρ M ⟨g, k, hk, rfl, rfl⟩
  refine Cd.seq ?_
  refine Cd.rs [1, 2, 4, 5, 6, 11] fun K hK => ?_
  simp (maxSteps := 2000000) (disch := first | (simp only [E4, hl, hm] <;> omega) | omega | fail) only [↓E2, E3, bare, bareJ, ↓E0, E1, env0, envN, evOps, evOp, evQs, evQ, evV, setD, pureOp, ev, upd, updL, binW, eqOp, binV, intOp, shOp, boolOp, hav, delB, eqL, SameI, strOp, ↓reduceIte, Zj, Zk, Nat.reduceAdd, Nat.reduceLT, Nat.reduceEqDiff, Nat.reduceMul, Nat.reduceLeDiff, if_true, Zn, reduceCtorEq, ZA, eq_self, Int.reduceLE, Int.reduceLT, Int.reduceToNat, ne_eq, Nat.reduceSub, hl, hm, nb2_b1, nb3_b2, nb3_b1]
  repeat refine And.intro (by omega) ?_
  intro g
  simp only [List.map_cons, List.map_nil, updL, upd, Nat.reduceEqDiff, if_true, if_false, ↓reduceIte]
  refine hK _ _ ?_; clear hK K
  refine Cd.condd rfl (fun h1 => ?_) (fun h1 => ?_)
  · refine Cd.skip ?_
    refine thenN ?_
    refine Cd.seq ?_
    refine Cd.block ?_
    refine Cd.rr [1, 2, 4, 5, 6] fun K hK => ?_
    simp (maxSteps := 2000000) (disch := first | (simp only [E4, hl, hm] <;> omega) | omega | fail) only [↓E2, E3, bare, bareJ, ↓E0, E1, env0, envN, evOps, evOp, evQs, evQ, evV, setD, pureOp, ev, upd, updL, indexAddrV, cellAt, cellsAt, findB, setB, Value.cells, hav, delB, ↓reduceIte, Zj, Zk, Nat.reduceAdd, Nat.reduceLT, Nat.reduceEqDiff, Nat.reduceMul, Nat.reduceLeDiff, if_true, Zn, reduceCtorEq, ZA, eq_self, Int.reduceLE, Int.reduceLT, Int.reduceToNat, ne_eq, Nat.reduceSub, Tarr44, Tst2, hl, hm, nb2_b1, nb3_b2, nb3_b1]
    repeat refine And.intro (by omega) ?_
    rw [fillTo_set k (by omega)]
    repeat refine And.intro (by omega) ?_
    intro g
    simp only [List.map_cons, List.map_nil, updL, upd, Nat.reduceEqDiff, if_true, if_false, ↓reduceIte]
    refine hK _ _ ?_; clear hK K
    refine inBN ?_
    refine thenN ?_
    refine Cd.rr [1, 2, 4, 5, 6] fun K hK => ?_
    simp (maxSteps := 2000000) (disch := first | (simp only [E4, hl, hm] <;> omega) | omega | fail) only [↓E2, E3, bare, bareJ, ↓E0, E1, env0, envN, evOps, evOp, evQs, evQ, evV, setD, pureOp, ev, upd, updL, binW, eqOp, binV, intOp, shOp, boolOp, hav, delB, eqL, SameI, strOp, ↓reduceIte, Zj, Zk, Nat.reduceAdd, Nat.reduceLT, Nat.reduceEqDiff, Nat.reduceMul, Nat.reduceLeDiff, if_true, Zn, reduceCtorEq, ZA, eq_self, Int.reduceLE, Int.reduceLT, Int.reduceToNat, ne_eq, Nat.reduceSub, hl, hm, nb2_b1, nb3_b2, nb3_b1]
    repeat refine And.intro (by omega) ?_
    intro g
    simp only [List.map_cons, List.map_nil, updL, upd, Nat.reduceEqDiff, if_true, if_false, ↓reduceIte]
    refine hK _ _ ?_; clear hK K
    refine roundN (m := m - 1) (by omega) ⟨_, k + 1, by omega, rfl, rfl⟩
  · refine Cd.exit (thenX (roundX (inBX ?_)))
    refine thenN ?_
    obtain rfl : k = 8 := by omega
    rw [fillTo_full]
    refine Cd.seq ?_
    refine Cd.rs [1, 2, 4, 5, 7] fun K hK => ?_
    simp (maxSteps := 2000000) (disch := first | (simp only [E4, hl, hm] <;> omega) | omega | fail) only [↓E2, E3, bare, bareJ, ↓E0, E1, env0, envN, evOps, evOp, evQs, evQ, evV, setD, pureOp, ev, upd, updL, hav, delB, ↓reduceIte, Zj, Zk, Nat.reduceAdd, Nat.reduceLT, Nat.reduceEqDiff, Nat.reduceMul, Nat.reduceLeDiff, if_true, Zn, reduceCtorEq, ZA, eq_self, Int.reduceLE, Int.reduceLT, Int.reduceToNat, ne_eq, Nat.reduceSub, hl, hm, nb2_b1, nb3_b2, nb3_b1]
    repeat refine And.intro (by omega) ?_
    intro g
    simp only [List.map_cons, List.map_nil, updL, upd, Nat.reduceEqDiff, if_true, if_false, ↓reduceIte]
    refine hK _ _ ?_; clear hK K
    refine Cd.block ?_
    refine Cd.loop (fun m ρ M => ∃ g k, k + m = n ∧ ρ = updL ([(1, .pointer (some ⟨b1, 0, none⟩)), (2, .pointer (some ⟨b2, 0, none⟩)), (4, .pointer (some ⟨b3, 0, none⟩)), (5, .int .i64 ((compTo (nextOf n x o) k).2 : Int)), (7, .int .i64 (k : Int))]) g ∧ M = [(b3, ints .i64 (compTo (nextOf n x o) k).1), (b2, ints .i64 z8), (b1, gc (n : Int) x o)]) n ⟨_, 0, Nat.zero_add _, rfl, rfl⟩ ?_
    rintro m ρ M ⟨g, k, hk, rfl, rfl⟩
    have cl := compTo_len (nextOf n x o) k
    have cc := compTo_count (nextOf n x o) k
    skip
    refine Cd.seq ?_
    refine Cd.rs [1, 2, 4, 5, 7, 19] fun K hK => ?_
    simp (maxSteps := 2000000) (disch := first | (simp only [E4, hl, hm, cl] <;> omega) | omega | fail) only [↓E2, E3, bare, bareJ, ↓E0, E1, env0, envN, evOps, evOp, evQs, evQ, evV, setD, pureOp, ev, upd, updL, binW, eqOp, binV, intOp, shOp, boolOp, fieldAddrV, cellAt, cellsAt, findB, hav, delB, eqL, SameI, strOp, ↓reduceIte, Zj, Zk, Nat.reduceAdd, Nat.reduceLT, Nat.reduceEqDiff, Nat.reduceMul, Nat.reduceLeDiff, if_true, Zn, reduceCtorEq, ZA, eq_self, Int.reduceLE, Int.reduceLT, Int.reduceToNat, ne_eq, Nat.reduceSub, Tfld27_0, Tld2, hl, hm, nb2_b1, nb3_b2, nb3_b1, cl]
    repeat refine And.intro (by omega) ?_
    intro g
    simp only [List.map_cons, List.map_nil, updL, upd, Nat.reduceEqDiff, if_true, if_false, ↓reduceIte]
    refine hK _ _ ?_; clear hK K
    refine Cd.condd rfl (fun h2 => ?_) (fun h2 => ?_)
    · refine Cd.skip ?_
      refine thenN ?_
      refine Cd.seq ?_
      refine Cd.block ?_
      refine Cd.seq ?_
      refine Cd.rs [1, 2, 4, 5, 7, 25] fun K hK => ?_
      simp (maxSteps := 2000000) (disch := first | (simp only [E4, hl, hm, cl] <;> omega) | omega | fail) only [↓E2, E3, bare, bareJ, ↓E0, E1, env0, envN, evOps, evOp, evQs, evQ, evV, setD, pureOp, ev, upd, updL, binW, eqOp, binV, intOp, shOp, boolOp, indexAddrV, cellAt, cellsAt, findB, hav, delB, eqL, SameI, strOp, ↓reduceIte, Zj, Zk, Nat.reduceAdd, Nat.reduceLT, Nat.reduceEqDiff, Nat.reduceMul, Nat.reduceLeDiff, if_true, Zn, reduceCtorEq, ZA, eq_self, Int.reduceLE, Int.reduceLT, Int.reduceToNat, ne_eq, Nat.reduceSub, Tarr44, Tld2, hl, hm, nb2_b1, nb3_b2, nb3_b1, cl]
      repeat refine And.intro (by omega) ?_
      repeat refine And.intro (by omega) ?_
      intro g
      simp only [List.map_cons, List.map_nil, updL, upd, Nat.reduceEqDiff, if_true, if_false, ↓reduceIte]
      refine hK _ _ ?_; clear hK K
      refine Cd.cond rfl (fun h3 => ?_) (fun h3 => ?_)
      · refine Cd.exit (thenX (inBX ?_))
        refine thenN ?_
        refine Cd.rr [1, 2, 4, 5, 7] fun K hK => ?_
        simp (maxSteps := 2000000) (disch := first | (simp only [E4, hl, hm, cl] <;> omega) | omega | fail) only [↓E2, E3, bare, bareJ, ↓E0, E1, env0, envN, evOps, evOp, evQs, evQ, evV, setD, pureOp, ev, upd, updL, binW, eqOp, binV, intOp, shOp, boolOp, hav, delB, eqL, SameI, strOp, ↓reduceIte, Zj, Zk, Nat.reduceAdd, Nat.reduceLT, Nat.reduceEqDiff, Nat.reduceMul, Nat.reduceLeDiff, if_true, Zn, reduceCtorEq, ZA, eq_self, Int.reduceLE, Int.reduceLT, Int.reduceToNat, ne_eq, Nat.reduceSub, hl, hm, nb2_b1, nb3_b2, nb3_b1, cl]
        repeat refine And.intro (by omega) ?_
        intro g
        simp only [List.map_cons, List.map_nil, updL, upd, Nat.reduceEqDiff, if_true, if_false, ↓reduceIte]
        refine hK _ _ ?_; clear hK K
        rw [← compTo_same (nx := nextOf n x o) (i := k) (by simpa using h3)]
        exact roundN (m := m - 1) (by omega) ⟨_, k + 1, by omega, rfl, rfl⟩
      · have h3 : ¬ 0 ≤ (compTo (nextOf n x o) k).1.getD k 0 := by simpa using h3
        refine Cd.skip ?_
        refine thenN ?_
        refine Cd.seq ?_
        refine Cd.rs [1, 2, 4, 5, 7, 8] fun K hK => ?_
        simp (maxSteps := 2000000) (disch := first | (simp only [E4, hl, hm, cl] <;> omega) | omega | fail) only [↓E2, E3, bare, bareJ, ↓E0, E1, env0, envN, evOps, evOp, evQs, evQ, evV, setD, pureOp, ev, upd, updL, hav, delB, ↓reduceIte, Zj, Zk, Nat.reduceAdd, Nat.reduceLT, Nat.reduceEqDiff, Nat.reduceMul, Nat.reduceLeDiff, if_true, Zn, reduceCtorEq, ZA, eq_self, Int.reduceLE, Int.reduceLT, Int.reduceToNat, ne_eq, Nat.reduceSub, hl, hm, nb2_b1, nb3_b2, nb3_b1, cl]
        repeat refine And.intro (by omega) ?_
        intro g
        simp only [List.map_cons, List.map_nil, updL, upd, Nat.reduceEqDiff, if_true, if_false, ↓reduceIte]
        refine hK _ _ ?_; clear hK K
        refine Cd.block ?_
        refine Cd.loop (fun f ρ M => ∃ g j l, j < n ∧ l.length = 8 ∧ negs l ≤ f ∧ walkC (nextOf n x o) (compTo (nextOf n x o) k).2 f j l = walkC (nextOf n x o) (compTo (nextOf n x o) k).2 8 k (compTo (nextOf n x o) k).1 ∧
          ρ = updL ([(1, .pointer (some ⟨b1, 0, none⟩)), (2, .pointer (some ⟨b2, 0, none⟩)), (4, .pointer (some ⟨b3, 0, none⟩)), (5, .int .i64 ((compTo (nextOf n x o) k).2 : Int)), (7, .int .i64 (k : Int)), (8, .int .i64 (j : Int))]) g ∧ M = [(b3, ints .i64 l), (b2, ints .i64 z8), (b1, gc (n : Int) x o)]) 8
          ⟨_, k, _, by omega, cl, negs_le cl, rfl, rfl, rfl⟩ ?_
        rintro f ρ M ⟨g, j, l, hj, hll, hng, hw, rfl, rfl⟩
        skip
        refine Cd.seq ?_
        refine Cd.rs [1, 2, 4, 5, 7, 8, 30] fun K hK => ?_
        simp (maxSteps := 2000000) (disch := first | (simp only [E4, hl, hm, cl, hll] <;> omega) | omega | fail) only [↓E2, E3, bare, bareJ, ↓E0, E1, env0, envN, evOps, evOp, evQs, evQ, evV, setD, pureOp, ev, upd, updL, binW, eqOp, binV, intOp, shOp, boolOp, indexAddrV, cellAt, cellsAt, findB, hav, delB, eqL, SameI, strOp, ↓reduceIte, Zj, Zk, Nat.reduceAdd, Nat.reduceLT, Nat.reduceEqDiff, Nat.reduceMul, Nat.reduceLeDiff, if_true, Zn, reduceCtorEq, ZA, eq_self, Int.reduceLE, Int.reduceLT, Int.reduceToNat, ne_eq, Nat.reduceSub, Tarr44, Tld2, hl, hm, nb2_b1, nb3_b2, nb3_b1, cl, hll]
        repeat refine And.intro (by omega) ?_
        repeat refine And.intro (by omega) ?_
        intro g
        simp only [List.map_cons, List.map_nil, updL, upd, Nat.reduceEqDiff, if_true, if_false, ↓reduceIte]
        refine hK _ _ ?_; clear hK K
        refine Cd.condd rfl (fun h4 => ?_) (fun h4 => ?_)
        · have hpos := negs_pos (l := l) (k := j) (by omega) h4
          obtain ⟨f', rfl⟩ : ∃ f', f = f' + 1 := ⟨f - 1, by omega⟩
          have hs := negs_set (c := ((compTo (nextOf n x o) k).2 : Int)) (by omega) l j (by omega) h4
          rw [walkC_step h4] at hw
          refine Cd.skip ?_
          refine thenN ?_
          refine Cd.seq ?_
          refine Cd.block ?_
          refine Cd.rr [1, 2, 4, 5, 7, 8] fun K hK => ?_
          simp (maxSteps := 2000000) (disch := first | (simp only [E4, hl, hm, cl, hll] <;> omega) | omega | fail) only [↓E2, E3, bare, bareJ, ↓E0, E1, env0, envN, evOps, evOp, evQs, evQ, evV, setD, pureOp, ev, upd, updL, indexAddrV, cellAt, cellsAt, findB, setB, Value.cells, hav, delB, ↓reduceIte, Zj, Zk, Nat.reduceAdd, Nat.reduceLT, Nat.reduceEqDiff, Nat.reduceMul, Nat.reduceLeDiff, if_true, Zn, reduceCtorEq, ZA, eq_self, Int.reduceLE, Int.reduceLT, Int.reduceToNat, ne_eq, Nat.reduceSub, Tarr44, Tst2, hl, hm, nb2_b1, nb3_b2, nb3_b1, cl, hll]
          repeat refine And.intro (by omega) ?_
          repeat refine And.intro (by omega) ?_
          intro g
          simp only [List.map_cons, List.map_nil, updL, upd, Nat.reduceEqDiff, if_true, if_false, ↓reduceIte]
          refine hK _ _ ?_; clear hK K
          refine inBN ?_
          refine thenN ?_
          refine Cd.rr [1, 2, 4, 5, 7, 8] fun K hK => ?_
          simp (maxSteps := 2000000) (disch := first | (simp only [E4, hl, hm, cl, hll] <;> omega) | omega | fail) only [↓E2, E3, bare, bareJ, ↓E0, E1, env0, envN, evOps, evOp, evQs, evQ, evV, setD, pureOp, ev, upd, updL, cellAt, cellsAt, findB, setB, hav, delB, ↓reduceIte, Zj, Zk, Nat.reduceAdd, Nat.reduceLT, Nat.reduceEqDiff, Nat.reduceMul, Nat.reduceLeDiff, if_true, Zn, reduceCtorEq, ZA, eq_self, Int.reduceLE, Int.reduceLT, Int.reduceToNat, ne_eq, Nat.reduceSub, Tld27, hl, hm, nb2_b1, nb3_b2, nb3_b1, cl, hll]
          refine callK_gives (l01Follow_c n x o hx ho hn j (by omega)) ?_
          simp (maxSteps := 2000000) (disch := first | (simp only [E4, hl, hm, cl, hll] <;> omega) | omega | fail) only [↓E2, E3, bare, bareJ, ↓E0, E1, env0, envN, evOps, evOp, evQs, evQ, evV, setD, pureOp, ev, upd, updL, cellAt, cellsAt, findB, setB, hav, delB, ↓reduceIte, Zj, Zk, Nat.reduceAdd, Nat.reduceLT, Nat.reduceEqDiff, Nat.reduceMul, Nat.reduceLeDiff, if_true, Zn, reduceCtorEq, ZA, eq_self, Int.reduceLE, Int.reduceLT, Int.reduceToNat, ne_eq, Nat.reduceSub, Tld27, hl, hm, nb2_b1, nb3_b2, nb3_b1, cl, hll]
          repeat refine And.intro (by omega) ?_
          intro g
          simp only [List.map_cons, List.map_nil, updL, upd, Nat.reduceEqDiff, if_true, if_false, ↓reduceIte]
          refine hK _ _ ?_; clear hK K
          have c2 := hq.1 j hj
          have c3 := bytes_get ho (i := j) (by omega)
          refine roundN (m := f') (by omega) ⟨_, nextOf n x o j, _, (rowOf_lt (fun i hi => (bytes_get hx (by omega)).1) hp c3.1 c2).1, by rw [List.length_set]; exact hll, by omega, hw, rfl, rfl⟩
        · refine Cd.exit (thenX (roundX (inBX ?_)))
          refine thenN ?_
          rw [walkC_end h4] at hw
          refine Cd.rr [1, 2, 4, 5, 7] fun K hK => ?_
          simp (maxSteps := 2000000) (disch := first | (simp only [E4, hl, hm, cl, hll] <;> omega) | omega | fail) only [↓E2, E3, bare, bareJ, ↓E0, E1, env0, envN, evOps, evOp, evQs, evQ, evV, setD, pureOp, ev, upd, updL, binW, eqOp, binV, intOp, shOp, boolOp, hav, delB, eqL, SameI, strOp, ↓reduceIte, Zj, Zk, Nat.reduceAdd, Nat.reduceLT, Nat.reduceEqDiff, Nat.reduceMul, Nat.reduceLeDiff, if_true, Zn, reduceCtorEq, ZA, eq_self, Int.reduceLE, Int.reduceLT, Int.reduceToNat, ne_eq, Nat.reduceSub, hl, hm, nb2_b1, nb3_b2, nb3_b1, cl, hll]
          repeat refine And.intro (by omega) ?_
          repeat refine And.intro (by omega) ?_
          intro g
          simp only [List.map_cons, List.map_nil, updL, upd, Nat.reduceEqDiff, if_true, if_false, ↓reduceIte]
          refine hK _ _ ?_; clear hK K
          refine inBN ?_
          refine thenN ?_
          refine Cd.rr [1, 2, 4, 5, 7] fun K hK => ?_
          simp (maxSteps := 2000000) (disch := first | (simp only [E4, hl, hm, cl, hll] <;> omega) | omega | fail) only [↓E2, E3, bare, bareJ, ↓E0, E1, env0, envN, evOps, evOp, evQs, evQ, evV, setD, pureOp, ev, upd, updL, binW, eqOp, binV, intOp, shOp, boolOp, hav, delB, eqL, SameI, strOp, ↓reduceIte, Zj, Zk, Nat.reduceAdd, Nat.reduceLT, Nat.reduceEqDiff, Nat.reduceMul, Nat.reduceLeDiff, if_true, Zn, reduceCtorEq, ZA, eq_self, Int.reduceLE, Int.reduceLT, Int.reduceToNat, ne_eq, Nat.reduceSub, hl, hm, nb2_b1, nb3_b2, nb3_b1, cl, hll]
          repeat refine And.intro (by omega) ?_
          intro g
          simp only [List.map_cons, List.map_nil, updL, upd, Nat.reduceEqDiff, if_true, if_false, ↓reduceIte]
          refine hK _ _ ?_; clear hK K
          have e1 : ((compTo (nextOf n x o) k).2 : Int) + 1 = ((compTo (nextOf n x o) (k + 1)).2 : Int) := by rw [compTo_more h3]; rfl
          have e2 : l = (compTo (nextOf n x o) (k + 1)).1 := by rw [compTo_more h3]; exact hw
          rw [e1, e2]
          exact roundN (m := m - 1) (by omega) ⟨_, k + 1, by omega, rfl, rfl⟩
    · refine Cd.exit (thenX (roundX (inBX ?_)))
      refine thenN ?_
      obtain rfl : k = n := by omega
      refine Cd.rs [2, 3] fun K hK => ?_
      simp (maxSteps := 2000000) (disch := first | (simp only [E4, hl, hm, cl] <;> omega) | omega | fail) only [↓E2, E3, bare, bareJ, ↓E0, E1, env0, envN, evOps, evOp, evQs, evQ, evV, setD, pureOp, ev, upd, updL, cellAt, cellsAt, findB, setB, Value.cells, hav, delB, ↓reduceIte, Zj, Zk, Nat.reduceAdd, Nat.reduceLT, Nat.reduceEqDiff, Nat.reduceMul, Nat.reduceLeDiff, if_true, Zn, reduceCtorEq, ZA, eq_self, Int.reduceLE, Int.reduceLT, Int.reduceToNat, ne_eq, Nat.reduceSub, Tld44, Tst44, hl, hm, nb2_b1, nb3_b2, nb3_b1, cl]
      repeat refine And.intro (by omega) ?_
      intro g
      simp only [List.map_cons, List.map_nil, updL, upd, Nat.reduceEqDiff, if_true, if_false, ↓reduceIte]
      refine hK _ _ ?_; clear hK K
      refine Cd.ret ?_
      simp (maxSteps := 2000000) (disch := first | (simp only [E4, hl, hm, cl] <;> omega) | omega | fail) only [↓E2, E3, bare, bareJ, ↓E0, E1, evP, evPlan, env0, envN, evOps, evOp, evQs, evQ, evV, setD, pureOp, ev, upd, updL, gate, binW, eqOp, binV, intOp, shOp, boolOp, unV, convV, nilV, fieldAddrV, indexAddrV, extractV, cellAt, cellsAt, findB, setB, fillL, buildV, Value.cells, lenV, minV, maxV, hav, sliceV, loV, hiV, bslQ, mksQ, appQ, partsOk, partsCells, delB, eqL, SameI, strOp, apzQ, cvtQ, capV, ↓reduceIte, Zj, Zk, Nat.reduceAdd, Nat.reduceLT, Nat.reduceEqDiff, Nat.reduceMul, Nat.reduceLeDiff, if_true, Zn, reduceCtorEq, ZA, eq_self, Int.reduceLE, Int.reduceLT, Int.reduceToNat, ne_eq, Nat.reduceSub, Tld44, hl, hm, nb2_b1, nb3_b2, nb3_b1, cl]
      rfl

end Go.Proofs

/-
  What the functions of this part hand back: each as a plain function of its arguments. Conditions: none.
-/
namespace Go.Proofs
open Go.W8
set_option linter.unusedVariables false
set_option linter.unusedSimpArgs false
set_option linter.unusedSectionVars false
set_option maxRecDepth 8000
set_option maxHeartbeats 4000000
theorem places_c (n : Nat) (x o y : List Int) (hx : Bytes8 x) (ho : Bytes8 o) (hy : Bytes8 y) (hn : n ≤ 8) (hp : IsPerm y n) : Gives Try.prog 56 #[.agg (gc (n : Int) x o).toArray, .agg (ints .u8 y).toArray] (.agg (ints .i64 (plc y n)).toArray) := by
  have hl := hx.len
  have hm := ho.len
  have hz := hy.len
  have pl := plcTo_len y n
  skip
  refine Gives.of fun w => ?_
  refine acall_of (N := 20) (c := _) (rs := [.cell 4 72]) (args := [_, _]) Try.func56 rfl (by decide) rfl rfl (Nat.le_of_ble_eq_true rfl) ?_
  refine Cd.rs [2, 3, 4] fun K hK => ?_
  simp (maxSteps := 2000000) (disch := first | (simp only [E4, hl, hm, hz, pl] <;> omega) | omega | fail) only [↓E2, E3, bare, bareJ, ↓E0, E1, env0, envN, evOps, evOp, evQs, evQ, evV, setD, pureOp, ev, upd, updL, Value.cells, hav, delB, ↓reduceIte, Zj, Zk, Nat.reduceAdd, Nat.reduceLT, Nat.reduceEqDiff, Nat.reduceMul, Nat.reduceLeDiff, if_true, Zn, reduceCtorEq, ZA, eq_self, Int.reduceLE, Int.reduceLT, Int.reduceToNat, ne_eq, Nat.reduceSub, Tzero72, hl, hm, hz, pl]
  repeat refine And.intro (by omega) ?_
  intro b1 hb1
  intro b2 hb2
  have nb2_b1 := hb2.ne
  intro b3 hb3
  have nb3_b2 := hb3.ne
  have nb3_b1 := hb3.tail.ne
  try simp (maxSteps := 2000000) (disch := first | (simp only [E4, hl, hm, hz, pl] <;> omega) | omega | fail) only [↓E2, E3, bare, bareJ, ↓E0, E1, env0, envN, evOps, evOp, evQs, evQ, evV, setD, pureOp, ev, upd, updL, Value.cells, hav, delB, ↓reduceIte, Zj, Zk, Nat.reduceAdd, Nat.reduceLT, Nat.reduceEqDiff, Nat.reduceMul, Nat.reduceLeDiff, if_true, Zn, reduceCtorEq, ZA, eq_self, Int.reduceLE, Int.reduceLT, Int.reduceToNat, ne_eq, Nat.reduceSub, Tzero72, hl, hm, hz, pl, nb2_b1, nb3_b2, nb3_b1]
  repeat refine And.intro (by omega) ?_
  intro g
  simp only [List.map_cons, List.map_nil, updL, upd, Nat.reduceEqDiff, if_true, if_false, ↓reduceIte]
  refine hK _ _ ?_; clear hK K
  refine Cd.rs [2, 3, 4, 5] fun K hK => ?_
  simp (maxSteps := 2000000) (disch := first | (simp only [E4, hl, hm, hz, pl] <;> omega) | omega | fail) only [↓E2, E3, bare, bareJ, ↓E0, E1, evP, env0, envN, evOps, evOp, evQs, evQ, evV, setD, pureOp, ev, upd, updL, cellAt, cellsAt, findB, setB, fillL, buildV, Value.cells, hav, delB, ↓reduceIte, Zj, Zk, Nat.reduceAdd, Nat.reduceLT, Nat.reduceEqDiff, Nat.reduceMul, Nat.reduceLeDiff, if_true, Zn, reduceCtorEq, ZA, eq_self, Int.reduceLE, Int.reduceLT, Int.reduceToNat, ne_eq, Nat.reduceSub, Tbld72, Tst72, Tzero72, hl, hm, hz, pl, nb2_b1, nb3_b2, nb3_b1]
  repeat refine And.intro (by omega) ?_
  intro b4 hb4
  have nb4_b3 := hb4.ne
  have nb4_b2 := hb4.tail.ne
  have nb4_b1 := hb4.tail.tail.ne
  try simp (maxSteps := 2000000) (disch := first | (simp only [E4, hl, hm, hz, pl] <;> omega) | omega | fail) only [↓E2, E3, bare, bareJ, ↓E0, E1, evP, env0, envN, evOps, evOp, evQs, evQ, evV, setD, pureOp, ev, upd, updL, cellAt, cellsAt, findB, setB, fillL, buildV, Value.cells, hav, delB, ↓reduceIte, Zj, Zk, Nat.reduceAdd, Nat.reduceLT, Nat.reduceEqDiff, Nat.reduceMul, Nat.reduceLeDiff, if_true, Zn, reduceCtorEq, ZA, eq_self, Int.reduceLE, Int.reduceLT, Int.reduceToNat, ne_eq, Nat.reduceSub, Tbld72, Tst72, Tzero72, hl, hm, hz, pl, nb2_b1, nb3_b2, nb3_b1, nb4_b3, nb4_b2, nb4_b1]
  repeat refine And.intro (by omega) ?_
  intro g
  simp only [List.map_cons, List.map_nil, updL, upd, Nat.reduceEqDiff, if_true, if_false, ↓reduceIte]
  refine hK _ _ ?_; clear hK K
  refine Cd.seq ?_
  refine Cd.rs [3, 4, 5, 9, 10] fun K hK => ?_
  simp (maxSteps := 2000000) (disch := first | (simp only [E4, hl, hm, hz, pl] <;> omega) | omega | fail) only [↓E2, E3, bare, bareJ, ↓E0, E1, env0, envN, evOps, evOp, evQs, evQ, evV, setD, pureOp, ev, upd, updL, cellAt, cellsAt, findB, setB, hav, delB, ↓reduceIte, Zj, Zk, Nat.reduceAdd, Nat.reduceLT, Nat.reduceEqDiff, Nat.reduceMul, Nat.reduceLeDiff, if_true, Zn, reduceCtorEq, ZA, eq_self, Int.reduceLE, Int.reduceLT, Int.reduceToNat, ne_eq, Nat.reduceSub, Tld27, hl, hm, hz, pl, nb2_b1, nb3_b2, nb3_b1, nb4_b3, nb4_b2, nb4_b1]
  refine callK_gives (n_c _ _ _ hl hm) ?_
  simp (maxSteps := 2000000) (disch := first | (simp only [E4, hl, hm, hz, pl] <;> omega) | omega | fail) only [↓E2, E3, bare, bareJ, ↓E0, E1, env0, envN, evOps, evOp, evQs, evQ, evV, setD, pureOp, ev, upd, updL, cellAt, cellsAt, findB, setB, hav, delB, ↓reduceIte, Zj, Zk, Nat.reduceAdd, Nat.reduceLT, Nat.reduceEqDiff, Nat.reduceMul, Nat.reduceLeDiff, if_true, Zn, reduceCtorEq, ZA, eq_self, Int.reduceLE, Int.reduceLT, Int.reduceToNat, ne_eq, Nat.reduceSub, Tld27, hl, hm, hz, pl, nb2_b1, nb3_b2, nb3_b1, nb4_b3, nb4_b2, nb4_b1]
  repeat refine And.intro (by omega) ?_
  intro g
  simp only [List.map_cons, List.map_nil, updL, upd, Nat.reduceEqDiff, if_true, if_false, ↓reduceIte]
  refine hK _ _ ?_; clear hK K
  refine Cd.block ?_
  refine Cd.loop (fun m ρ M => ∃ g k, k + m = n ∧ ρ = updL [(3, .pointer (some ⟨b2, 0, none⟩)), (4, .pointer (some ⟨b3, 0, none⟩)), (5, .pointer (some ⟨b4, 0, none⟩)), (9, .int .i64 (n : Int)), (10, .int .i64 (k : Int))] g ∧
    M = [(b4, ints .i64 (plcTo y n k)), (b3, ints .i64 z8), (b2, ints .u8 y), (b1, gc (n : Int) x o)]) n ⟨_, 0, Nat.zero_add _, rfl, by rw [plcTo_zero]⟩ ?_
  rintro m ρ M ⟨g, k, hk, rfl, rfl⟩
  refine Cd.rs [3, 4, 5, 9, 10, 11] fun K hK => ?_
  simp (maxSteps := 2000000) (disch := first | (simp only [E4, hl, hm, hz, pl] <;> omega) | omega | fail) only [↓E2, E3, bare, bareJ, ↓E0, E1, env0, envN, evOps, evOp, evQs, evQ, evV, setD, pureOp, ev, upd, updL, binW, eqOp, binV, intOp, shOp, boolOp, hav, delB, eqL, SameI, strOp, ↓reduceIte, Zj, Zk, Nat.reduceAdd, Nat.reduceLT, Nat.reduceEqDiff, Nat.reduceMul, Nat.reduceLeDiff, if_true, Zn, reduceCtorEq, ZA, eq_self, Int.reduceLE, Int.reduceLT, Int.reduceToNat, ne_eq, Nat.reduceSub, hl, hm, hz, pl, nb2_b1, nb3_b2, nb3_b1, nb4_b3, nb4_b2, nb4_b1]
  repeat refine And.intro (by omega) ?_
  intro g
  simp only [List.map_cons, List.map_nil, updL, upd, Nat.reduceEqDiff, if_true, if_false, ↓reduceIte]
  refine hK _ _ ?_; clear hK K
  refine Cd.seq ?_
  refine Cd.condd rfl (fun h1 => ?_) (fun h1 => ?_)
  · have c1 := bytes_get hy (i := k) (by omega)
    have c2 := hp.1 k (by omega)
    refine Cd.skip ?_
    refine thenN ?_
    refine Cd.seq ?_
    refine Cd.block ?_
    refine Cd.rs [3, 4, 5, 6, 9, 10] fun K hK => ?_
    simp (maxSteps := 2000000) (disch := first | (simp only [E4, hl, hm, hz, pl] <;> omega) | omega | fail) only [↓E2, E3, bare, bareJ, ↓E0, E1, env0, envN, evOps, evOp, evQs, evQ, evV, setD, pureOp, ev, upd, updL, hav, delB, ↓reduceIte, Zj, Zk, Nat.reduceAdd, Nat.reduceLT, Nat.reduceEqDiff, Nat.reduceMul, Nat.reduceLeDiff, if_true, Zn, reduceCtorEq, ZA, eq_self, Int.reduceLE, Int.reduceLT, Int.reduceToNat, ne_eq, Nat.reduceSub, hl, hm, hz, pl, nb2_b1, nb3_b2, nb3_b1, nb4_b3, nb4_b2, nb4_b1]
    repeat refine And.intro (by omega) ?_
    intro g
    simp only [List.map_cons, List.map_nil, updL, upd, Nat.reduceEqDiff, if_true, if_false, ↓reduceIte]
    refine hK _ _ ?_; clear hK K
    refine Cd.rr [3, 4, 5, 9, 10] fun K hK => ?_
    simp (maxSteps := 2000000) (disch := first | (simp only [E4, hl, hm, hz, pl] <;> omega) | omega | fail) only [↓E2, E3, bare, bareJ, ↓E0, E1, env0, envN, evOps, evOp, evQs, evQ, evV, setD, pureOp, ev, upd, updL, indexAddrV, cellAt, cellsAt, findB, setB, Value.cells, hav, delB, ↓reduceIte, Zj, Zk, Nat.reduceAdd, Nat.reduceLT, Nat.reduceEqDiff, Nat.reduceMul, Nat.reduceLeDiff, if_true, Zn, reduceCtorEq, ZA, eq_self, Int.reduceLE, Int.reduceLT, Int.reduceToNat, ne_eq, Nat.reduceSub, Tarr22, Tarr72, Tld5, Tst3, hl, hm, hz, pl, nb2_b1, nb3_b2, nb3_b1, nb4_b3, nb4_b2, nb4_b1]
    repeat refine And.intro (by omega) ?_
    rw [plcTo_set hp (by omega) hn c1.1]
    repeat refine And.intro (by omega) ?_
    intro g
    simp only [List.map_cons, List.map_nil, updL, upd, Nat.reduceEqDiff, if_true, if_false, ↓reduceIte]
    refine hK _ _ ?_; clear hK K
    refine inBN ?_
    refine thenN ?_
    refine Cd.rr [3, 4, 5, 9, 10] fun K hK => ?_
    simp (maxSteps := 2000000) (disch := first | (simp only [E4, hl, hm, hz, pl] <;> omega) | omega | fail) only [↓E2, E3, bare, bareJ, ↓E0, E1, env0, envN, evOps, evOp, evQs, evQ, evV, setD, pureOp, ev, upd, updL, binW, eqOp, binV, intOp, shOp, boolOp, hav, delB, eqL, SameI, strOp, ↓reduceIte, Zj, Zk, Nat.reduceAdd, Nat.reduceLT, Nat.reduceEqDiff, Nat.reduceMul, Nat.reduceLeDiff, if_true, Zn, reduceCtorEq, ZA, eq_self, Int.reduceLE, Int.reduceLT, Int.reduceToNat, ne_eq, Nat.reduceSub, hl, hm, hz, pl, nb2_b1, nb3_b2, nb3_b1, nb4_b3, nb4_b2, nb4_b1]
    repeat refine And.intro (by omega) ?_
    intro g
    simp only [List.map_cons, List.map_nil, updL, upd, Nat.reduceEqDiff, if_true, if_false, ↓reduceIte]
    refine hK _ _ ?_; clear hK K
    exact roundN (m := m - 1) (by omega) ⟨_, k + 1, by omega, rfl, rfl⟩
  · refine Cd.exit (thenX (roundX (inBX ?_)))
    refine thenN ?_
    obtain rfl : k = n := by omega
    rw [plcTo_full (fun i hi => (bytes_get hy (by omega)).1) hp]
    have pl := plc_len y k
    skip
    refine Cd.rs [4] fun K hK => ?_
    simp (maxSteps := 2000000) (disch := first | (simp only [E4, hl, hm, hz, pl] <;> omega) | omega | fail) only [↓E2, E3, bare, bareJ, ↓E0, E1, env0, envN, evOps, evOp, evQs, evQ, evV, setD, pureOp, ev, upd, updL, cellAt, cellsAt, findB, setB, Value.cells, hav, delB, ↓reduceIte, Zj, Zk, Nat.reduceAdd, Nat.reduceLT, Nat.reduceEqDiff, Nat.reduceMul, Nat.reduceLeDiff, if_true, Zn, reduceCtorEq, ZA, eq_self, Int.reduceLE, Int.reduceLT, Int.reduceToNat, ne_eq, Nat.reduceSub, Tld72, Tst72, hl, hm, hz, pl, nb2_b1, nb3_b2, nb3_b1, nb4_b3, nb4_b2, nb4_b1]
    repeat refine And.intro (by omega) ?_
    intro g
    simp only [List.map_cons, List.map_nil, updL, upd, Nat.reduceEqDiff, if_true, if_false, ↓reduceIte]
    refine hK _ _ ?_; clear hK K
    refine Cd.ret ?_
    simp (maxSteps := 2000000) (disch := first | (simp only [E4, hl, hm, hz, pl] <;> omega) | omega | fail) only [↓E2, E3, bare, bareJ, ↓E0, E1, evP, evPlan, env0, envN, evOps, evOp, evQs, evQ, evV, setD, pureOp, ev, upd, updL, gate, binW, eqOp, binV, intOp, shOp, boolOp, unV, convV, nilV, fieldAddrV, indexAddrV, extractV, cellAt, cellsAt, findB, setB, fillL, buildV, Value.cells, lenV, minV, maxV, hav, sliceV, loV, hiV, bslQ, mksQ, appQ, partsOk, partsCells, delB, eqL, SameI, strOp, apzQ, cvtQ, capV, ↓reduceIte, Zj, Zk, Nat.reduceAdd, Nat.reduceLT, Nat.reduceEqDiff, Nat.reduceMul, Nat.reduceLeDiff, if_true, Zn, reduceCtorEq, ZA, eq_self, Int.reduceLE, Int.reduceLT, Int.reduceToNat, ne_eq, Nat.reduceSub, Tld72, hl, hm, hz, pl, nb2_b1, nb3_b2, nb3_b1, nb4_b3, nb4_b2, nb4_b1]

end Go.Proofs

/-
  What the functions of this part hand back: each as a plain function of its arguments. Conditions: none.
-/
namespace Go.Proofs
open Go.W8
set_option linter.unusedVariables false
set_option linter.unusedSimpArgs false
set_option linter.unusedSectionVars false
set_option maxRecDepth 8000
set_option maxHeartbeats 4000000
theorem component_c (n : Nat) (x o : List Int) (hx : Bytes8 x) (ho : Bytes8 o) (hn : n ≤ 8) (hp : IsPerm x n) (hq : IsPerm o n) : Gives Try.prog 50 #[.agg (gc (n : Int) x o).toArray] (.tuple #[.agg (ints .i64 (decTo (comps n x o).1 n)).toArray, .int .i64 ((comps n x o).2 : Int)]) := by
  have hl := hx.len
  have hm := ho.len
  have pl := plc_len x n
  skip
  refine Gives.of fun w => ?_
  refine acall_of (N := 54) (c := _) (rs := [.cell 2 72, .tmp 3]) (args := [_]) Try.func50 rfl (by decide) rfl rfl (Nat.le_of_ble_eq_true rfl) ?_
  refine Cd.rs [1, 2] fun K hK => ?_
  simp (maxSteps := 2000000) (disch := first | (simp only [E4, hl, hm, pl] <;> omega) | omega | fail) only [↓E2, E3, bare, bareJ, ↓E0, E1, env0, envN, evOps, evOp, evQs, evQ, evV, setD, pureOp, ev, upd, updL, Value.cells, hav, delB, ↓reduceIte, Zj, Zk, Nat.reduceAdd, Nat.reduceLT, Nat.reduceEqDiff, Nat.reduceMul, Nat.reduceLeDiff, if_true, Zn, reduceCtorEq, ZA, eq_self, Int.reduceLE, Int.reduceLT, Int.reduceToNat, ne_eq, Nat.reduceSub, Tzero72, hl, hm, pl]
  repeat refine And.intro (by omega) ?_
  intro b1 hb1
  intro b2 hb2
  have nb2_b1 := hb2.ne
  try simp (maxSteps := 2000000) (disch := first | (simp only [E4, hl, hm, pl] <;> omega) | omega | fail) only [↓E2, E3, bare, bareJ, ↓E0, E1, env0, envN, evOps, evOp, evQs, evQ, evV, setD, pureOp, ev, upd, updL, Value.cells, hav, delB, ↓reduceIte, Zj, Zk, Nat.reduceAdd, Nat.reduceLT, Nat.reduceEqDiff, Nat.reduceMul, Nat.reduceLeDiff, if_true, Zn, reduceCtorEq, ZA, eq_self, Int.reduceLE, Int.reduceLT, Int.reduceToNat, ne_eq, Nat.reduceSub, Tzero72, hl, hm, pl, nb2_b1]
  repeat refine And.intro (by omega) ?_
  intro g
  simp only [List.map_cons, List.map_nil, updL, upd, Nat.reduceEqDiff, if_true, if_false, ↓reduceIte]
  refine hK _ _ ?_; clear hK K
  refine Cd.rs [1, 2, 4, 5, 6] fun K hK => ?_
  simp (maxSteps := 2000000) (disch := first | (simp only [E4, hl, hm, pl] <;> omega) | omega | fail) only [↓E2, E3, bare, bareJ, ↓E0, E1, evP, env0, envN, evOps, evOp, evQs, evQ, evV, setD, pureOp, ev, upd, updL, fieldAddrV, cellAt, cellsAt, findB, setB, fillL, buildV, Value.cells, hav, delB, ↓reduceIte, Zj, Zk, Nat.reduceAdd, Nat.reduceLT, Nat.reduceEqDiff, Nat.reduceMul, Nat.reduceLeDiff, if_true, Zn, reduceCtorEq, ZA, eq_self, Int.reduceLE, Int.reduceLT, Int.reduceToNat, ne_eq, Nat.reduceSub, Tbld72, Tfld27_1, Tld22, Tld27, Tst72, Tzero72, hl, hm, pl, nb2_b1]
  refine callK_gives (places_c n x o x hx ho hx hn hp) ?_
  simp (maxSteps := 2000000) (disch := first | (simp only [E4, hl, hm, pl] <;> omega) | omega | fail) only [↓E2, E3, bare, bareJ, ↓E0, E1, evP, env0, envN, evOps, evOp, evQs, evQ, evV, setD, pureOp, ev, upd, updL, fieldAddrV, cellAt, cellsAt, findB, setB, fillL, buildV, Value.cells, hav, delB, ↓reduceIte, Zj, Zk, Nat.reduceAdd, Nat.reduceLT, Nat.reduceEqDiff, Nat.reduceMul, Nat.reduceLeDiff, if_true, Zn, reduceCtorEq, ZA, eq_self, Int.reduceLE, Int.reduceLT, Int.reduceToNat, ne_eq, Nat.reduceSub, Tbld72, Tfld27_1, Tld22, Tld27, Tst72, Tzero72, hl, hm, pl, nb2_b1]
  repeat refine And.intro (by omega) ?_
  intro b3 hb3
  have nb3_b2 := hb3.ne
  have nb3_b1 := hb3.tail.ne
  intro b4 hb4
  have nb4_b3 := hb4.ne
  have nb4_b2 := hb4.tail.ne
  have nb4_b1 := hb4.tail.tail.ne
  try simp (maxSteps := 2000000) (disch := first | (simp only [E4, hl, hm, pl] <;> omega) | omega | fail) only [↓E2, E3, bare, bareJ, ↓E0, E1, evP, env0, envN, evOps, evOp, evQs, evQ, evV, setD, pureOp, ev, upd, updL, fieldAddrV, cellAt, cellsAt, findB, setB, fillL, buildV, Value.cells, hav, delB, ↓reduceIte, Zj, Zk, Nat.reduceAdd, Nat.reduceLT, Nat.reduceEqDiff, Nat.reduceMul, Nat.reduceLeDiff, if_true, Zn, reduceCtorEq, ZA, eq_self, Int.reduceLE, Int.reduceLT, Int.reduceToNat, ne_eq, Nat.reduceSub, Tbld72, Tfld27_1, Tld22, Tld27, Tst72, Tzero72, hl, hm, pl, nb2_b1, nb3_b2, nb3_b1, nb4_b3, nb4_b2, nb4_b1]
  repeat refine And.intro (by omega) ?_
  intro g
  simp only [List.map_cons, List.map_nil, updL, upd, Nat.reduceEqDiff, if_true, if_false, ↓reduceIte]
  refine hK _ _ ?_; clear hK K
  refine Cd.seq ?_
  refine Cd.rs [1, 2, 4, 5, 6, 16, 17] fun K hK => ?_
  simp (maxSteps := 2000000) (disch := first | (simp only [E4, hl, hm, pl] <;> omega) | omega | fail) only [↓E2, E3, bare, bareJ, ↓E0, E1, env0, envN, evOps, evOp, evQs, evQ, evV, setD, pureOp, ev, upd, updL, cellAt, cellsAt, findB, setB, hav, delB, ↓reduceIte, Zj, Zk, Nat.reduceAdd, Nat.reduceLT, Nat.reduceEqDiff, Nat.reduceMul, Nat.reduceLeDiff, if_true, Zn, reduceCtorEq, ZA, eq_self, Int.reduceLE, Int.reduceLT, Int.reduceToNat, ne_eq, Nat.reduceSub, Tld27, hl, hm, pl, nb2_b1, nb3_b2, nb3_b1, nb4_b3, nb4_b2, nb4_b1]
  refine callK_gives (n_c _ _ _ hl hm) ?_
  simp (maxSteps := 2000000) (disch := first | (simp only [E4, hl, hm, pl] <;> omega) | omega | fail) only [↓E2, E3, bare, bareJ, ↓E0, E1, env0, envN, evOps, evOp, evQs, evQ, evV, setD, pureOp, ev, upd, updL, cellAt, cellsAt, findB, setB, hav, delB, ↓reduceIte, Zj, Zk, Nat.reduceAdd, Nat.reduceLT, Nat.reduceEqDiff, Nat.reduceMul, Nat.reduceLeDiff, if_true, Zn, reduceCtorEq, ZA, eq_self, Int.reduceLE, Int.reduceLT, Int.reduceToNat, ne_eq, Nat.reduceSub, Tld27, hl, hm, pl, nb2_b1, nb3_b2, nb3_b1, nb4_b3, nb4_b2, nb4_b1]
  repeat refine And.intro (by omega) ?_
  intro g
  simp only [List.map_cons, List.map_nil, updL, upd, Nat.reduceEqDiff, if_true, if_false, ↓reduceIte]
  refine hK _ _ ?_; clear hK K
  refine Cd.block ?_
  refine Cd.loop (fun m ρ M => ∃ g k, k + m = n ∧ ρ = updL ([(1, .pointer (some ⟨b1, 0, none⟩)), (2, .pointer (some ⟨b2, 0, none⟩)), (4, .pointer (some ⟨b3, 0, none⟩)), (5, .int .i64 ((compTo (nextOf n x o) k).2 : Int)), (6, .pointer (some ⟨b4, 0, none⟩)), (16, .int .i64 (n : Int)), (17, .int .i64 (k : Int))]) g ∧ M = [(b4, ints .i64 (plc x n)), (b3, ints .i64 (incL (compTo (nextOf n x o) k).1)), (b2, ints .i64 z8), (b1, gc (n : Int) x o)]) n ⟨_, 0, Nat.zero_add _, rfl, rfl⟩ ?_
  rintro m ρ M ⟨g, k, hk, rfl, rfl⟩
  have cl := compTo_len (nextOf n x o) k
  have il := incL_len (compTo (nextOf n x o) k).1
  rw [cl] at il
  have cc := compTo_count (nextOf n x o) k
  skip
  refine Cd.rs [1, 2, 4, 5, 6, 16, 17, 18] fun K hK => ?_
  simp (maxSteps := 2000000) (disch := first | (simp only [E4, hl, hm, pl, cl, il] <;> omega) | omega | fail) only [↓E2, E3, bare, bareJ, ↓E0, E1, env0, envN, evOps, evOp, evQs, evQ, evV, setD, pureOp, ev, upd, updL, binW, eqOp, binV, intOp, shOp, boolOp, hav, delB, eqL, SameI, strOp, ↓reduceIte, Zj, Zk, Nat.reduceAdd, Nat.reduceLT, Nat.reduceEqDiff, Nat.reduceMul, Nat.reduceLeDiff, if_true, Zn, reduceCtorEq, ZA, eq_self, Int.reduceLE, Int.reduceLT, Int.reduceToNat, ne_eq, Nat.reduceSub, hl, hm, pl, nb2_b1, nb3_b2, nb3_b1, nb4_b3, nb4_b2, nb4_b1, cl, il]
  repeat refine And.intro (by omega) ?_
  intro g
  simp only [List.map_cons, List.map_nil, updL, upd, Nat.reduceEqDiff, if_true, if_false, ↓reduceIte]
  refine hK _ _ ?_; clear hK K
  refine Cd.seq ?_
  refine Cd.condd rfl (fun h1 => ?_) (fun h1 => ?_)
  · have cg := incL_get (l := (compTo (nextOf n x o) k).1) (i := k) (by omega)
    skip
    have cb := compTo_bound (nextOf n x o) k k (by omega)
    refine Cd.skip ?_
    refine thenN ?_
    refine Cd.seq ?_
    refine Cd.block ?_
    refine Cd.rs [1, 2, 4, 5, 6, 7, 16, 17] fun K hK => ?_
    simp (maxSteps := 2000000) (disch := first | (simp only [E4, hl, hm, pl, cl, il, cg] <;> omega) | omega | fail) only [↓E2, E3, bare, bareJ, ↓E0, E1, env0, envN, evOps, evOp, evQs, evQ, evV, setD, pureOp, ev, upd, updL, hav, delB, ↓reduceIte, Zj, Zk, Nat.reduceAdd, Nat.reduceLT, Nat.reduceEqDiff, Nat.reduceMul, Nat.reduceLeDiff, if_true, Zn, reduceCtorEq, ZA, eq_self, Int.reduceLE, Int.reduceLT, Int.reduceToNat, ne_eq, Nat.reduceSub, hl, hm, pl, nb2_b1, nb3_b2, nb3_b1, nb4_b3, nb4_b2, nb4_b1, cl, il, cg]
    repeat refine And.intro (by omega) ?_
    intro g
    simp only [List.map_cons, List.map_nil, updL, upd, Nat.reduceEqDiff, if_true, if_false, ↓reduceIte]
    refine hK _ _ ?_; clear hK K
    refine Cd.seq ?_
    refine Cd.rs [1, 2, 4, 5, 6, 7, 16, 17, 23] fun K hK => ?_
    simp (maxSteps := 2000000) (disch := first | (simp only [E4, hl, hm, pl, cl, il, cg] <;> omega) | omega | fail) only [↓E2, E3, bare, bareJ, ↓E0, E1, env0, envN, evOps, evOp, evQs, evQ, evV, setD, pureOp, ev, upd, updL, binW, eqOp, binV, intOp, shOp, boolOp, indexAddrV, cellAt, cellsAt, findB, hav, delB, eqL, SameI, strOp, ↓reduceIte, Zj, Zk, Nat.reduceAdd, Nat.reduceLT, Nat.reduceEqDiff, Nat.reduceMul, Nat.reduceLeDiff, if_true, Zn, reduceCtorEq, ZA, eq_self, Int.reduceLE, Int.reduceLT, Int.reduceToNat, ne_eq, Nat.reduceSub, Tarr72, Tld3, hl, hm, pl, nb2_b1, nb3_b2, nb3_b1, nb4_b3, nb4_b2, nb4_b1, cl, il, cg]
    repeat refine And.intro (by omega) ?_
    repeat refine And.intro (by omega) ?_
    intro g
    simp only [List.map_cons, List.map_nil, updL, upd, Nat.reduceEqDiff, if_true, if_false, ↓reduceIte]
    refine hK _ _ ?_; clear hK K
    refine Cd.cond rfl (fun h2 => ?_) (fun h2 => ?_)
    · have h2 : 0 ≤ (compTo (nextOf n x o) k).1.getD k 0 := by simp only [decide_eq_true_eq, decide_eq_false_iff_not, beq_iff_eq, beq_eq_false_iff_ne, bne_iff_ne, bne_eq_false_iff_eq, Bool.and_eq_true, Bool.or_eq_true, Bool.or_eq_false_iff, Bool.not_eq_true', Bool.not_eq_false', Bool.and_eq_false_imp, ne_eq, gt_iff_lt, ge_iff_le, Int.not_lt, Int.not_le, Classical.not_not] at h2; omega
      refine Cd.exit (thenX (inBX ?_))
      refine thenN ?_
      refine Cd.rr [1, 2, 4, 5, 6, 16, 17] fun K hK => ?_
      simp (maxSteps := 2000000) (disch := first | (simp only [E4, hl, hm, pl, cl, il, cg] <;> omega) | omega | fail) only [↓E2, E3, bare, bareJ, ↓E0, E1, env0, envN, evOps, evOp, evQs, evQ, evV, setD, pureOp, ev, upd, updL, binW, eqOp, binV, intOp, shOp, boolOp, hav, delB, eqL, SameI, strOp, ↓reduceIte, Zj, Zk, Nat.reduceAdd, Nat.reduceLT, Nat.reduceEqDiff, Nat.reduceMul, Nat.reduceLeDiff, if_true, Zn, reduceCtorEq, ZA, eq_self, Int.reduceLE, Int.reduceLT, Int.reduceToNat, ne_eq, Nat.reduceSub, hl, hm, pl, nb2_b1, nb3_b2, nb3_b1, nb4_b3, nb4_b2, nb4_b1, cl, il, cg]
      repeat refine And.intro (by omega) ?_
      intro g
      simp only [List.map_cons, List.map_nil, updL, upd, Nat.reduceEqDiff, if_true, if_false, ↓reduceIte]
      refine hK _ _ ?_; clear hK K
      rw [← compTo_same (nx := nextOf n x o) (i := k) h2]
      exact roundN (m := m - 1) (by omega) ⟨_, k + 1, by omega, rfl, rfl⟩
    · have h3 : ¬ 0 ≤ (compTo (nextOf n x o) k).1.getD k 0 := by simp only [decide_eq_true_eq, decide_eq_false_iff_not, beq_iff_eq, beq_eq_false_iff_ne, bne_iff_ne, bne_eq_false_iff_eq, Bool.and_eq_true, Bool.or_eq_true, Bool.or_eq_false_iff, Bool.not_eq_true', Bool.not_eq_false', Bool.and_eq_false_imp, ne_eq, gt_iff_lt, ge_iff_le, Int.not_lt, Int.not_le, Classical.not_not] at h2; omega
      refine Cd.skip ?_
      refine thenN ?_
      refine Cd.rs [1, 2, 4, 5, 6, 7, 16, 17] fun K hK => ?_
      simp (maxSteps := 2000000) (disch := first | (simp only [E4, hl, hm, pl, cl, il, cg] <;> omega) | omega | fail) only [↓E2, E3, bare, bareJ, ↓E0, E1, env0, envN, evOps, evOp, evQs, evQ, evV, setD, pureOp, ev, upd, updL, binW, eqOp, binV, intOp, shOp, boolOp, hav, delB, eqL, SameI, strOp, ↓reduceIte, Zj, Zk, Nat.reduceAdd, Nat.reduceLT, Nat.reduceEqDiff, Nat.reduceMul, Nat.reduceLeDiff, if_true, Zn, reduceCtorEq, ZA, eq_self, Int.reduceLE, Int.reduceLT, Int.reduceToNat, ne_eq, Nat.reduceSub, hl, hm, pl, nb2_b1, nb3_b2, nb3_b1, nb4_b3, nb4_b2, nb4_b1, cl, il, cg]
      repeat refine And.intro (by omega) ?_
      repeat refine And.intro (by omega) ?_
      intro g
      simp only [List.map_cons, List.map_nil, updL, upd, Nat.reduceEqDiff, if_true, if_false, ↓reduceIte]
      refine hK _ _ ?_; clear hK K
      refine Cd.rs [1, 2, 4, 5, 6, 8, 16, 17] fun K hK => ?_
      simp (maxSteps := 2000000) (disch := first | (simp only [E4, hl, hm, pl, cl, il, cg] <;> omega) | omega | fail) only [↓E2, E3, bare, bareJ, ↓E0, E1, env0, envN, evOps, evOp, evQs, evQ, evV, setD, pureOp, ev, upd, updL, hav, delB, ↓reduceIte, Zj, Zk, Nat.reduceAdd, Nat.reduceLT, Nat.reduceEqDiff, Nat.reduceMul, Nat.reduceLeDiff, if_true, Zn, reduceCtorEq, ZA, eq_self, Int.reduceLE, Int.reduceLT, Int.reduceToNat, ne_eq, Nat.reduceSub, hl, hm, pl, nb2_b1, nb3_b2, nb3_b1, nb4_b3, nb4_b2, nb4_b1, cl, il, cg]
      repeat refine And.intro (by omega) ?_
      intro g
      simp only [List.map_cons, List.map_nil, updL, upd, Nat.reduceEqDiff, if_true, if_false, ↓reduceIte]
      refine hK _ _ ?_; clear hK K
      refine Cd.block ?_
      refine Cd.loop (fun f ρ M => ∃ g j l, j < n ∧ l.length = 8 ∧ (∀ i, i < 8 → -1 ≤ l.getD i 0 ∧ l.getD i 0 ≤ 8) ∧ negs l ≤ f ∧ walkC (nextOf n x o) (compTo (nextOf n x o) k).2 f j l = walkC (nextOf n x o) (compTo (nextOf n x o) k).2 8 k (compTo (nextOf n x o) k).1 ∧
        ρ = updL ([(1, .pointer (some ⟨b1, 0, none⟩)), (2, .pointer (some ⟨b2, 0, none⟩)), (4, .pointer (some ⟨b3, 0, none⟩)), (5, .int .i64 (((compTo (nextOf n x o) k).2 : Int) + 1)), (6, .pointer (some ⟨b4, 0, none⟩)), (8, .int .i64 (j : Int)), (16, .int .i64 (n : Int)), (17, .int .i64 (k : Int))]) g ∧ M = [(b4, ints .i64 (plc x n)), (b3, ints .i64 (incL l)), (b2, ints .i64 z8), (b1, gc (n : Int) x o)]) 8
        ⟨_, k, _, by omega, cl, (fun i hi => by have := compTo_bound (nextOf n x o) k i hi; omega), negs_le cl, rfl, rfl, rfl⟩ ?_
      rintro f ρ M ⟨g, j, l, hj, hll, hlb, hng, hw, rfl, rfl⟩
      have il2 := incL_len l
      rw [hll] at il2
      have cg2 := incL_get (l := l) (i := j) (by omega)
      have cb2 := hlb j (by omega)
      skip
      refine Cd.seq ?_
      refine Cd.rs [1, 2, 4, 5, 6, 8, 16, 17, 30] fun K hK => ?_
      simp (maxSteps := 2000000) (disch := first | (simp only [E4, hl, hm, pl, cl, il, cg, hll, il2, cg2] <;> omega) | omega | fail) only [↓E2, E3, bare, bareJ, ↓E0, E1, env0, envN, evOps, evOp, evQs, evQ, evV, setD, pureOp, ev, upd, updL, binW, eqOp, binV, intOp, shOp, boolOp, indexAddrV, cellAt, cellsAt, findB, hav, delB, eqL, SameI, strOp, ↓reduceIte, Zj, Zk, Nat.reduceAdd, Nat.reduceLT, Nat.reduceEqDiff, Nat.reduceMul, Nat.reduceLeDiff, if_true, Zn, reduceCtorEq, ZA, eq_self, Int.reduceLE, Int.reduceLT, Int.reduceToNat, ne_eq, Nat.reduceSub, Tarr72, Tld3, hl, hm, pl, nb2_b1, nb3_b2, nb3_b1, nb4_b3, nb4_b2, nb4_b1, cl, il, cg, hll, il2, cg2]
      repeat refine And.intro (by omega) ?_
      repeat refine And.intro (by omega) ?_
      intro g
      simp only [List.map_cons, List.map_nil, updL, upd, Nat.reduceEqDiff, if_true, if_false, ↓reduceIte]
      refine hK _ _ ?_; clear hK K
      refine Cd.cond rfl (fun h4 => ?_) (fun h4 => ?_)
      · have h4 : l.getD j 0 < 0 := by simp only [decide_eq_true_eq, decide_eq_false_iff_not, beq_iff_eq, beq_eq_false_iff_ne, bne_iff_ne, bne_eq_false_iff_eq, Bool.and_eq_true, Bool.or_eq_true, Bool.or_eq_false_iff, Bool.not_eq_true', Bool.not_eq_false', Bool.and_eq_false_imp, ne_eq, gt_iff_lt, ge_iff_le, Int.not_lt, Int.not_le, Classical.not_not] at h4; omega
        have hpos := negs_pos (l := l) (k := j) (by omega) h4
        obtain ⟨f', rfl⟩ : ∃ f', f = f' + 1 := ⟨f - 1, by omega⟩
        have hs := negs_set (c := ((compTo (nextOf n x o) k).2 : Int)) (by omega) l j (by omega) h4
        rw [walkC_step h4] at hw
        have c2 := hq.1 j hj
        have c3 := bytes_get ho (i := j) (by omega)
        have c4 := plc_geti (x := x) (n := n) c3.1 (by omega)
        skip
        refine Cd.skip ?_
        refine thenN ?_
        refine Cd.seq ?_
        refine Cd.block ?_
        refine Cd.rr [1, 2, 4, 5, 6, 8, 16, 17] fun K hK => ?_
        simp (maxSteps := 2000000) (disch := first | (simp only [E4, hl, hm, pl, cl, il, cg, hll, il2, cg2, c4] <;> omega) | omega | fail) only [↓E2, E3, bare, bareJ, ↓E0, E1, env0, envN, evOps, evOp, evQs, evQ, evV, setD, pureOp, ev, upd, updL, indexAddrV, cellAt, cellsAt, findB, setB, Value.cells, hav, delB, ↓reduceIte, Zj, Zk, Nat.reduceAdd, Nat.reduceLT, Nat.reduceEqDiff, Nat.reduceMul, Nat.reduceLeDiff, if_true, Zn, reduceCtorEq, ZA, eq_self, Int.reduceLE, Int.reduceLT, Int.reduceToNat, ne_eq, Nat.reduceSub, Tarr72, Tst3, hl, hm, pl, nb2_b1, nb3_b2, nb3_b1, nb4_b3, nb4_b2, nb4_b1, cl, il, cg, hll, il2, cg2, c4]
        repeat refine And.intro (by omega) ?_
        rw [incL_set]
        repeat refine And.intro (by omega) ?_
        intro g
        simp only [List.map_cons, List.map_nil, updL, upd, Nat.reduceEqDiff, if_true, if_false, ↓reduceIte]
        refine hK _ _ ?_; clear hK K
        refine inBN ?_
        refine thenN ?_
        refine Cd.rr [1, 2, 4, 5, 6, 8, 16, 17] fun K hK => ?_
        simp (maxSteps := 2000000) (disch := first | (simp only [E4, hl, hm, pl, cl, il, cg, hll, il2, cg2, c4] <;> omega) | omega | fail) only [↓E2, E3, bare, bareJ, ↓E0, E1, env0, envN, evOps, evOp, evQs, evQ, evV, setD, pureOp, ev, upd, updL, fieldAddrV, indexAddrV, cellAt, cellsAt, findB, hav, delB, ↓reduceIte, Zj, Zk, Nat.reduceAdd, Nat.reduceLT, Nat.reduceEqDiff, Nat.reduceMul, Nat.reduceLeDiff, if_true, Zn, reduceCtorEq, ZA, eq_self, Int.reduceLE, Int.reduceLT, Int.reduceToNat, ne_eq, Nat.reduceSub, Tarr22, Tarr72, Tfld27_2, Tld3, Tld5, hl, hm, pl, nb2_b1, nb3_b2, nb3_b1, nb4_b3, nb4_b2, nb4_b1, cl, il, cg, hll, il2, cg2, c4]
        repeat refine And.intro (by omega) ?_
        repeat refine And.intro (by omega) ?_
        intro g
        simp only [List.map_cons, List.map_nil, updL, upd, Nat.reduceEqDiff, if_true, if_false, ↓reduceIte]
        refine hK _ _ ?_; clear hK K
        refine roundN (m := f') (by omega) ⟨_, nextOf n x o j, _, (rowOf_lt (fun i hi => (bytes_get hx (by omega)).1) hp c3.1 c2).1, by rw [List.length_set]; exact hll, fun i hi => ?_, by omega, hw, rfl, rfl⟩
        rw [cgetD_set (by omega)]
        split
        · omega
        · exact hlb i hi
      · have h4 : ¬ l.getD j 0 < 0 := by simp only [decide_eq_true_eq, decide_eq_false_iff_not, beq_iff_eq, beq_eq_false_iff_ne, bne_iff_ne, bne_eq_false_iff_eq, Bool.and_eq_true, Bool.or_eq_true, Bool.or_eq_false_iff, Bool.not_eq_true', Bool.not_eq_false', Bool.and_eq_false_imp, ne_eq, gt_iff_lt, ge_iff_le, Int.not_lt, Int.not_le, Classical.not_not] at h4; omega
        refine Cd.exit (thenX (roundX (inBX ?_)))
        refine inBN ?_
        refine thenN ?_
        rw [walkC_end h4] at hw
        refine Cd.rr [1, 2, 4, 5, 6, 16, 17] fun K hK => ?_
        simp (maxSteps := 2000000) (disch := first | (simp only [E4, hl, hm, pl, cl, il, cg, hll, il2, cg2] <;> omega) | omega | fail) only [↓E2, E3, bare, bareJ, ↓E0, E1, env0, envN, evOps, evOp, evQs, evQ, evV, setD, pureOp, ev, upd, updL, binW, eqOp, binV, intOp, shOp, boolOp, hav, delB, eqL, SameI, strOp, ↓reduceIte, Zj, Zk, Nat.reduceAdd, Nat.reduceLT, Nat.reduceEqDiff, Nat.reduceMul, Nat.reduceLeDiff, if_true, Zn, reduceCtorEq, ZA, eq_self, Int.reduceLE, Int.reduceLT, Int.reduceToNat, ne_eq, Nat.reduceSub, hl, hm, pl, nb2_b1, nb3_b2, nb3_b1, nb4_b3, nb4_b2, nb4_b1, cl, il, cg, hll, il2, cg2]
        repeat refine And.intro (by omega) ?_
        intro g
        simp only [List.map_cons, List.map_nil, updL, upd, Nat.reduceEqDiff, if_true, if_false, ↓reduceIte]
        refine hK _ _ ?_; clear hK K
        have e1 : ((compTo (nextOf n x o) k).2 : Int) + 1 = ((compTo (nextOf n x o) (k + 1)).2 : Int) := by rw [compTo_more h3]; rfl
        have e2 : l = (compTo (nextOf n x o) (k + 1)).1 := by rw [compTo_more h3]; exact hw
        rw [e1, e2]
        exact roundN (m := m - 1) (by omega) ⟨_, k + 1, by omega, rfl, rfl⟩
  · refine Cd.exit (thenX (roundX (inBX ?_)))
    refine thenN ?_
    obtain rfl : k = n := by omega
    refine Cd.seq ?_
    refine Cd.rs [2, 4, 5, 42, 43] fun K hK => ?_
    simp (maxSteps := 2000000) (disch := first | (simp only [E4, hl, hm, pl, cl, il] <;> omega) | omega | fail) only [↓E2, E3, bare, bareJ, ↓E0, E1, env0, envN, evOps, evOp, evQs, evQ, evV, setD, pureOp, ev, upd, updL, cellAt, cellsAt, findB, setB, hav, delB, ↓reduceIte, Zj, Zk, Nat.reduceAdd, Nat.reduceLT, Nat.reduceEqDiff, Nat.reduceMul, Nat.reduceLeDiff, if_true, Zn, reduceCtorEq, ZA, eq_self, Int.reduceLE, Int.reduceLT, Int.reduceToNat, ne_eq, Nat.reduceSub, Tld27, hl, hm, pl, nb2_b1, nb3_b2, nb3_b1, nb4_b3, nb4_b2, nb4_b1, cl, il]
    refine callK_gives (n_c _ _ _ hl hm) ?_
    simp (maxSteps := 2000000) (disch := first | (simp only [E4, hl, hm, pl, cl, il] <;> omega) | omega | fail) only [↓E2, E3, bare, bareJ, ↓E0, E1, env0, envN, evOps, evOp, evQs, evQ, evV, setD, pureOp, ev, upd, updL, cellAt, cellsAt, findB, setB, hav, delB, ↓reduceIte, Zj, Zk, Nat.reduceAdd, Nat.reduceLT, Nat.reduceEqDiff, Nat.reduceMul, Nat.reduceLeDiff, if_true, Zn, reduceCtorEq, ZA, eq_self, Int.reduceLE, Int.reduceLT, Int.reduceToNat, ne_eq, Nat.reduceSub, Tld27, hl, hm, pl, nb2_b1, nb3_b2, nb3_b1, nb4_b3, nb4_b2, nb4_b1, cl, il]
    repeat refine And.intro (by omega) ?_
    intro g
    simp only [List.map_cons, List.map_nil, updL, upd, Nat.reduceEqDiff, if_true, if_false, ↓reduceIte]
    refine hK _ _ ?_; clear hK K
    refine Cd.block ?_
    refine Cd.loop (fun m ρ M => ∃ g j, j + m = k ∧ ρ = updL [(2, .pointer (some ⟨b2, 0, none⟩)), (4, .pointer (some ⟨b3, 0, none⟩)), (5, .int .i64 ((compTo (nextOf k x o) k).2 : Int)), (42, .int .i64 (k : Int)), (43, .int .i64 (j : Int))] g ∧ M = [(b4, ints .i64 (plc x k)), (b3, ints .i64 (decTo (compTo (nextOf k x o) k).1 j)), (b2, ints .i64 z8), (b1, gc (k : Int) x o)]) k ⟨_, 0, Nat.zero_add _, rfl, by rw [decTo_zero cl]⟩ ?_
    rintro m ρ M ⟨g, j, hj, rfl, rfl⟩
    have dl := decTo_len (compTo (nextOf k x o) k).1 j
    skip
    refine Cd.rs [2, 4, 5, 42, 43, 44] fun K hK => ?_
    simp (maxSteps := 2000000) (disch := first | (simp only [E4, hl, hm, pl, cl, il, dl] <;> omega) | omega | fail) only [↓E2, E3, bare, bareJ, ↓E0, E1, env0, envN, evOps, evOp, evQs, evQ, evV, setD, pureOp, ev, upd, updL, binW, eqOp, binV, intOp, shOp, boolOp, hav, delB, eqL, SameI, strOp, ↓reduceIte, Zj, Zk, Nat.reduceAdd, Nat.reduceLT, Nat.reduceEqDiff, Nat.reduceMul, Nat.reduceLeDiff, if_true, Zn, reduceCtorEq, ZA, eq_self, Int.reduceLE, Int.reduceLT, Int.reduceToNat, ne_eq, Nat.reduceSub, hl, hm, pl, nb2_b1, nb3_b2, nb3_b1, nb4_b3, nb4_b2, nb4_b1, cl, il, dl]
    repeat refine And.intro (by omega) ?_
    intro g
    simp only [List.map_cons, List.map_nil, updL, upd, Nat.reduceEqDiff, if_true, if_false, ↓reduceIte]
    refine hK _ _ ?_; clear hK K
    refine Cd.seq ?_
    refine Cd.condd rfl (fun h4 => ?_) (fun h4 => ?_)
    · have dg : (decTo (compTo (nextOf k x o) k).1 j).getD j 0 = (compTo (nextOf k x o) k).1.getD j 0 + 1 := by rw [decTo_get (by omega), if_neg (by omega)]
      have db := compTo_bound (nextOf k x o) k j (by omega)
      skip
      refine Cd.skip ?_
      refine thenN ?_
      refine Cd.seq ?_
      refine Cd.block ?_
      refine Cd.rs [2, 4, 5, 9, 42, 43] fun K hK => ?_
      simp (maxSteps := 2000000) (disch := first | (simp only [E4, hl, hm, pl, cl, il, dl, dg] <;> omega) | omega | fail) only [↓E2, E3, bare, bareJ, ↓E0, E1, env0, envN, evOps, evOp, evQs, evQ, evV, setD, pureOp, ev, upd, updL, hav, delB, ↓reduceIte, Zj, Zk, Nat.reduceAdd, Nat.reduceLT, Nat.reduceEqDiff, Nat.reduceMul, Nat.reduceLeDiff, if_true, Zn, reduceCtorEq, ZA, eq_self, Int.reduceLE, Int.reduceLT, Int.reduceToNat, ne_eq, Nat.reduceSub, hl, hm, pl, nb2_b1, nb3_b2, nb3_b1, nb4_b3, nb4_b2, nb4_b1, cl, il, dl, dg]
      repeat refine And.intro (by omega) ?_
      intro g
      simp only [List.map_cons, List.map_nil, updL, upd, Nat.reduceEqDiff, if_true, if_false, ↓reduceIte]
      refine hK _ _ ?_; clear hK K
      refine Cd.rr [2, 4, 5, 42, 43] fun K hK => ?_
      simp (maxSteps := 2000000) (disch := first | (simp only [E4, hl, hm, pl, cl, il, dl, dg] <;> omega) | omega | fail) only [↓E2, E3, bare, bareJ, ↓E0, E1, env0, envN, evOps, evOp, evQs, evQ, evV, setD, pureOp, ev, upd, updL, binW, eqOp, binV, intOp, shOp, boolOp, indexAddrV, cellAt, cellsAt, findB, setB, Value.cells, hav, delB, eqL, SameI, strOp, ↓reduceIte, Zj, Zk, Nat.reduceAdd, Nat.reduceLT, Nat.reduceEqDiff, Nat.reduceMul, Nat.reduceLeDiff, if_true, Zn, reduceCtorEq, ZA, eq_self, Int.reduceLE, Int.reduceLT, Int.reduceToNat, ne_eq, Nat.reduceSub, Tarr72, Tld3, Tst3, hl, hm, pl, nb2_b1, nb3_b2, nb3_b1, nb4_b3, nb4_b2, nb4_b1, cl, il, dl, dg]
      repeat refine And.intro (by omega) ?_
      rw [Int.add_sub_cancel, decTo_set (by omega)]
      repeat refine And.intro (by omega) ?_
      intro g
      simp only [List.map_cons, List.map_nil, updL, upd, Nat.reduceEqDiff, if_true, if_false, ↓reduceIte]
      refine hK _ _ ?_; clear hK K
      refine inBN ?_
      refine thenN ?_
      refine Cd.rr [2, 4, 5, 42, 43] fun K hK => ?_
      simp (maxSteps := 2000000) (disch := first | (simp only [E4, hl, hm, pl, cl, il, dl, dg] <;> omega) | omega | fail) only [↓E2, E3, bare, bareJ, ↓E0, E1, env0, envN, evOps, evOp, evQs, evQ, evV, setD, pureOp, ev, upd, updL, binW, eqOp, binV, intOp, shOp, boolOp, hav, delB, eqL, SameI, strOp, ↓reduceIte, Zj, Zk, Nat.reduceAdd, Nat.reduceLT, Nat.reduceEqDiff, Nat.reduceMul, Nat.reduceLeDiff, if_true, Zn, reduceCtorEq, ZA, eq_self, Int.reduceLE, Int.reduceLT, Int.reduceToNat, ne_eq, Nat.reduceSub, hl, hm, pl, nb2_b1, nb3_b2, nb3_b1, nb4_b3, nb4_b2, nb4_b1, cl, il, dl, dg]
      repeat refine And.intro (by omega) ?_
      intro g
      simp only [List.map_cons, List.map_nil, updL, upd, Nat.reduceEqDiff, if_true, if_false, ↓reduceIte]
      refine hK _ _ ?_; clear hK K
      refine roundN (m := m - 1) (by omega) ⟨_, j + 1, by omega, rfl, rfl⟩
    · refine Cd.exit (thenX (roundX (inBX ?_)))
      refine thenN ?_
      obtain rfl : j = k := by omega
      refine Cd.rs [2, 3] fun K hK => ?_
      simp (maxSteps := 2000000) (disch := first | (simp only [E4, hl, hm, pl, cl, il, dl] <;> omega) | omega | fail) only [↓E2, E3, bare, bareJ, ↓E0, E1, env0, envN, evOps, evOp, evQs, evQ, evV, setD, pureOp, ev, upd, updL, cellAt, cellsAt, findB, setB, Value.cells, hav, delB, ↓reduceIte, Zj, Zk, Nat.reduceAdd, Nat.reduceLT, Nat.reduceEqDiff, Nat.reduceMul, Nat.reduceLeDiff, if_true, Zn, reduceCtorEq, ZA, eq_self, Int.reduceLE, Int.reduceLT, Int.reduceToNat, ne_eq, Nat.reduceSub, Tld72, Tst72, hl, hm, pl, nb2_b1, nb3_b2, nb3_b1, nb4_b3, nb4_b2, nb4_b1, cl, il, dl]
      repeat refine And.intro (by omega) ?_
      intro g
      simp only [List.map_cons, List.map_nil, updL, upd, Nat.reduceEqDiff, if_true, if_false, ↓reduceIte]
      refine hK _ _ ?_; clear hK K
      refine Cd.ret ?_
      simp (maxSteps := 2000000) (disch := first | (simp only [E4, hl, hm, pl, cl, il, dl] <;> omega) | omega | fail) only [↓E2, E3, bare, bareJ, ↓E0, E1, evP, evPlan, env0, envN, evOps, evOp, evQs, evQ, evV, setD, pureOp, ev, upd, updL, gate, binW, eqOp, binV, intOp, shOp, boolOp, unV, convV, nilV, fieldAddrV, indexAddrV, extractV, cellAt, cellsAt, findB, setB, fillL, buildV, Value.cells, lenV, minV, maxV, hav, sliceV, loV, hiV, bslQ, mksQ, appQ, partsOk, partsCells, delB, eqL, SameI, strOp, apzQ, cvtQ, capV, ↓reduceIte, Zj, Zk, Nat.reduceAdd, Nat.reduceLT, Nat.reduceEqDiff, Nat.reduceMul, Nat.reduceLeDiff, if_true, Zn, reduceCtorEq, ZA, eq_self, Int.reduceLE, Int.reduceLT, Int.reduceToNat, ne_eq, Nat.reduceSub, Tld72, hl, hm, pl, nb2_b1, nb3_b2, nb3_b1, nb4_b3, nb4_b2, nb4_b1, cl, il, dl]
      rfl

end Go.Proofs

/-
  What the functions of this part hand back: each as a plain function of its arguments. Conditions: none.
-/
namespace Go.Proofs
open Go.W8
set_option linter.unusedVariables false
set_option linter.unusedSimpArgs false
set_option linter.unusedSectionVars false
set_option maxRecDepth 8000
set_option maxHeartbeats 4000000
def knotB (s : Int) (x o : List Int) : Bool := (comps s.toNat x o).2 == 1
def knotR (s : Int) (x o : List Int) : Value := if gridB s x o then .tuple #[.bool (knotB s x o), .int .i64 0] else .tuple #[.bool false, .int .i64 1]

section
variable (s : Int) (x o : List Int) (hx : Bytes8 x) (ho : Bytes8 o)
include hx ho

theorem isKnot_c (hg : gridB s x o = true) : Gives Try.prog 30 #[.agg (gc s x o).toArray] (.bool (knotB s x o)) := by
  have hl := hx.len
  have hm := ho.len
  unfold knotB
  obtain ⟨n, rfl, hn2, hn, px, po⟩ := gridB_perm hg
  rw [Int.toNat_natCast]
  have cl : (decTo (comps n x o).1 n).length = 8 := decTo_len _ _
  skip
  refine Gives.of fun w => ?_
  refine acall_of (N := 12) (c := _) (rs := [.tmp 2]) (args := [_]) Try.func30 rfl (by decide) rfl rfl (Nat.le_of_ble_eq_true rfl) ?_
  refine Cd.rs [1] fun K hK => ?_
  simp (maxSteps := 2000000) (disch := first | (simp only [E4, hl, hm, cl] <;> omega) | omega | fail) only [↓E2, E3, bare, bareJ, ↓E0, E1, env0, envN, evOps, evOp, evQs, evQ, evV, setD, pureOp, ev, upd, updL, Value.cells, hav, delB, ↓reduceIte, Zj, Zk, Nat.reduceAdd, Nat.reduceLT, Nat.reduceEqDiff, Nat.reduceMul, Nat.reduceLeDiff, if_true, Zn, reduceCtorEq, ZA, eq_self, Int.reduceLE, Int.reduceLT, Int.reduceToNat, ne_eq, Nat.reduceSub, hl, hm, cl]
  repeat refine And.intro (by omega) ?_
  intro b1 hb1
  try simp (maxSteps := 2000000) (disch := first | (simp only [E4, hl, hm, cl] <;> omega) | omega | fail) only [↓E2, E3, bare, bareJ, ↓E0, E1, env0, envN, evOps, evOp, evQs, evQ, evV, setD, pureOp, ev, upd, updL, Value.cells, hav, delB, ↓reduceIte, Zj, Zk, Nat.reduceAdd, Nat.reduceLT, Nat.reduceEqDiff, Nat.reduceMul, Nat.reduceLeDiff, if_true, Zn, reduceCtorEq, ZA, eq_self, Int.reduceLE, Int.reduceLT, Int.reduceToNat, ne_eq, Nat.reduceSub, hl, hm, cl]
  repeat refine And.intro (by omega) ?_
  intro g
  simp only [List.map_cons, List.map_nil, updL, upd, Nat.reduceEqDiff, if_true, if_false, ↓reduceIte]
  refine hK _ _ ?_; clear hK K
  refine Cd.rs [4] fun K hK => ?_
  simp (maxSteps := 2000000) (disch := first | (simp only [E4, hl, hm, cl] <;> omega) | omega | fail) only [↓E2, E3, bare, bareJ, ↓E0, E1, env0, envN, evOps, evOp, evQs, evQ, evV, setD, pureOp, ev, upd, updL, extractV, cellAt, cellsAt, findB, setB, Value.cells, hav, delB, ↓reduceIte, Zj, Zk, Nat.reduceAdd, Nat.reduceLT, Nat.reduceEqDiff, Nat.reduceMul, Nat.reduceLeDiff, if_true, Zn, reduceCtorEq, ZA, eq_self, Int.reduceLE, Int.reduceLT, Int.reduceToNat, ne_eq, Nat.reduceSub, Tld27, Tst72, Tzero72, hl, hm, cl]
  refine callK_gives (component_c n x o hx ho hn px po) ?_
  simp (maxSteps := 2000000) (disch := first | (simp only [E4, hl, hm, cl] <;> omega) | omega | fail) only [↓E2, E3, bare, bareJ, ↓E0, E1, env0, envN, evOps, evOp, evQs, evQ, evV, setD, pureOp, ev, upd, updL, extractV, cellAt, cellsAt, findB, setB, Value.cells, hav, delB, ↓reduceIte, Zj, Zk, Nat.reduceAdd, Nat.reduceLT, Nat.reduceEqDiff, Nat.reduceMul, Nat.reduceLeDiff, if_true, Zn, reduceCtorEq, ZA, eq_self, Int.reduceLE, Int.reduceLT, Int.reduceToNat, ne_eq, Nat.reduceSub, Tld27, Tst72, Tzero72, hl, hm, cl]
  repeat refine And.intro (by omega) ?_
  intro b2 hb2
  have nb2_b1 := hb2.ne
  try simp (maxSteps := 2000000) (disch := first | (simp only [E4, hl, hm, cl] <;> omega) | omega | fail) only [↓E2, E3, bare, bareJ, ↓E0, E1, env0, envN, evOps, evOp, evQs, evQ, evV, setD, pureOp, ev, upd, updL, extractV, cellAt, cellsAt, findB, setB, Value.cells, hav, delB, ↓reduceIte, Zj, Zk, Nat.reduceAdd, Nat.reduceLT, Nat.reduceEqDiff, Nat.reduceMul, Nat.reduceLeDiff, if_true, Zn, reduceCtorEq, ZA, eq_self, Int.reduceLE, Int.reduceLT, Int.reduceToNat, ne_eq, Nat.reduceSub, Tld27, Tst72, Tzero72, hl, hm, cl, nb2_b1]
  repeat refine And.intro (by omega) ?_
  intro g
  simp only [List.map_cons, List.map_nil, updL, upd, Nat.reduceEqDiff, if_true, if_false, ↓reduceIte]
  refine hK _ _ ?_; clear hK K
  refine Cd.rs [2] fun K hK => ?_
  simp (maxSteps := 2000000) (disch := first | (simp only [E4, hl, hm, cl] <;> omega) | omega | fail) only [↓E2, E3, bare, bareJ, ↓E0, E1, env0, envN, evOps, evOp, evQs, evQ, evV, setD, pureOp, ev, upd, updL, binW, eqOp, binV, intOp, shOp, boolOp, hav, delB, eqL, SameI, strOp, ↓reduceIte, Zj, Zk, Nat.reduceAdd, Nat.reduceLT, Nat.reduceEqDiff, Nat.reduceMul, Nat.reduceLeDiff, if_true, Zn, reduceCtorEq, ZA, eq_self, Int.reduceLE, Int.reduceLT, Int.reduceToNat, ne_eq, Nat.reduceSub, hl, hm, cl, nb2_b1]
  repeat refine And.intro (by omega) ?_
  intro g
  simp only [List.map_cons, List.map_nil, updL, upd, Nat.reduceEqDiff, if_true, if_false, ↓reduceIte]
  refine hK _ _ ?_; clear hK K
  refine Cd.ret ?_
  simp (maxSteps := 2000000) (disch := first | (simp only [E4, hl, hm, cl] <;> omega) | omega | fail) only [↓E2, E3, bare, bareJ, ↓E0, E1, evP, evPlan, env0, envN, evOps, evOp, evQs, evQ, evV, setD, pureOp, ev, upd, updL, gate, binW, eqOp, binV, intOp, shOp, boolOp, unV, convV, nilV, fieldAddrV, indexAddrV, extractV, cellAt, cellsAt, findB, setB, fillL, buildV, Value.cells, lenV, minV, maxV, hav, sliceV, loV, hiV, bslQ, mksQ, appQ, partsOk, partsCells, delB, eqL, SameI, strOp, apzQ, cvtQ, capV, ↓reduceIte, Zj, Zk, Nat.reduceAdd, Nat.reduceLT, Nat.reduceEqDiff, Nat.reduceMul, Nat.reduceLeDiff, if_true, Zn, reduceCtorEq, ZA, eq_self, Int.reduceLE, Int.reduceLT, Int.reduceToNat, ne_eq, Nat.reduceSub, hl, hm, cl, nb2_b1]
  refine congrArg Value.bool ?_
  rw [Bool.eq_iff_iff, beq_iff_eq, beq_iff_eq]
  omega

end

end Go.Proofs

/-
  What the functions of this part hand back: each as a plain function of its arguments. Conditions: none.
-/
namespace Go.Proofs
open Go.W8
set_option linter.unusedVariables false
set_option linter.unusedSimpArgs false
set_option linter.unusedSectionVars false
set_option maxRecDepth 8000
set_option maxHeartbeats 4000000
def alQ (n : Nat) (x o : List Int) : Int × List Int := (qIter (detLow n x o, detL n x o) (n - 1)).getD (0, [])
def alV (n : Nat) (x o : List Int) : Int := valTo 0 1 (alQ n x o).2 (alQ n x o).2.length
def negL (l : List Int) : List Int := l.map fun c => -c
def alL (n : Nat) (x o : List Int) : List Int := if alV n x o < 0 then negL (alQ n x o).2 else (alQ n x o).2
def loL (l : List Int) : Int := (0 - ((l.length : Int) - 1)).tdiv 2
theorem negL_len (l : List Int) : (negL l).length = l.length := by simp [negL]
theorem negL_get (l : List Int) (i : Nat) : (negL l).getD i 0 = -l.getD i 0 := by
  unfold negL
  rw [List.getD_eq_getElem?_getD, List.getElem?_map, List.getD_eq_getElem?_getD]
  cases l[i]? <;> simp
theorem alL_len (n : Nat) (x o : List Int) : (alL n x o).length = (alQ n x o).2.length := by
  unfold alL
  split
  · exact negL_len _
  · rfl
theorem alQ_ok {n : Nat} (x o : List Int) (hn : n ≤ 8) : lauOk (alQ n x o).1 (alQ n x o).2 = true := by
  unfold alQ
  cases h : qIter (detLow n x o, detL n x o) (n - 1) with
  | none => rfl
  | some q => exact qIter_ok (p := (detLow n x o, detL n x o)) (detL_ok x o hn) _ q h
theorem loL_ok {low : Int} {l : List Int} (h : lauOk low l = true) : lauOk (loL l) l = true := by
  by_cases h0 : l.length = 0
  · rw [lauOk_zero h0]
    unfold loL
    rw [h0]
    decide
  · have h1 := lauOk_len h
    have h2 : loL l = -(((l.length : Int) - 1) / 2) := by
      unfold loL
      rw [Int.zero_sub, Int.neg_tdiv, Int.tdiv_eq_ediv_of_nonneg (by omega)]
    rw [lauOk_pos h0] at h ⊢
    simp only [Bool.and_eq_true] at h ⊢
    obtain ⟨⟨⟨⟨⟨a1, a2⟩, a3⟩, a4⟩, a5⟩, a6⟩ := h
    refine ⟨⟨⟨⟨⟨a1, ?_, ?_⟩, ?_⟩, a4⟩, a5⟩, a6⟩ <;> rw [h2, decide_eq_true_eq] <;> omega
theorem negL_ok {low : Int} {l : List Int} (h : lauOk low l = true) : lauOk low (negL l) = true := by
  by_cases h0 : l.length = 0
  · rw [lauOk_zero h0] at h
    rw [lauOk_zero (by rw [negL_len]; exact h0)]
    exact h
  · rw [lauOk_pos h0] at h
    rw [lauOk_pos (by rw [negL_len]; exact h0), negL_len, negL_get, negL_get]
    simp only [Bool.and_eq_true] at h ⊢
    obtain ⟨⟨⟨a123, a4⟩, a5⟩, a6⟩ := h
    refine ⟨⟨⟨a123, ?_⟩, ?_⟩, ?_⟩
    · simp only [Bool.not_eq_true', beq_eq_false_iff_ne] at a4 ⊢; omega
    · simp only [Bool.not_eq_true', beq_eq_false_iff_ne] at a5 ⊢; omega
    · rw [all_get] at a6 ⊢
      intro i hi
      rw [negL_len] at hi
      have := a6 i hi
      rw [negL_get]
      unfold coOk at this ⊢
      simp only [Bool.and_eq_true, decide_eq_true_eq] at this ⊢
      omega
theorem addR_neg {low : Int} {l : List Int} (h : lauOk low l = true) (h0 : l.length ≠ 0) : addR 0 [] low l (-1) = (low, negL l) := by
  have eN : addN 0 [] low l = l.length := by
    unfold addN addHi addLo
    rw [if_pos List.length_nil, if_pos List.length_nil]
    omega
  have eL : addLo 0 [] low = low := by unfold addLo; rw [if_pos List.length_nil]
  have eS : addS 0 [] low l (-1) = negL l := by
    unfold addS
    rw [eN, eL]
    refine getD_ext0 (by rw [sumK_len, negL_len]) fun i hi => ?_
    rw [sumK_len] at hi
    rw [sumK_get hi, negL_get]
    unfold coK
    rw [if_neg (by simp), if_pos (by omega), show (low + (i : Int) - low).toNat = i by omega]
    omega
  unfold addR
  rw [if_neg h0, eS, eL, (trim_same (negL_ok h)).1, (trim_same (negL_ok h)).2]
theorem quotP_any {low : Int} {l : List Int} {k : Nat} {L M' : Blks} {r : Value} (h : quotP low l k L r M') : ∃ ok pv Mq, r = .tuple #[pv, .bool ok] ∧ LauV ((qIter (low, l) k).getD (0, [])).1 ((qIter (low, l) k).getD (0, [])).2 pv Mq ∧ SubP Mq M' := by
  obtain ⟨_, ⟨q, pv, Mq, hq, rfl, hm, hv⟩ | ⟨hq, rfl⟩⟩ := h
  · rw [hq]
    refine ⟨_, pv, Mq, rfl, hv, ?_⟩
    obtain ⟨s, rfl, hs⟩ := hv
    rcases hs with ⟨_, _, rfl⟩ | ⟨b, m, cap, cs, _, rfl, _⟩
    · exact SubP.of (List.nil_sublist _)
    · exact SubP.of (List.singleton_sublist.2 (hm _ (List.mem_singleton.2 rfl)))
  · rw [hq]
    exact ⟨_, _, [], rfl, ⟨_, rfl, SlN.nil 1⟩, SubP.of (List.nil_sublist _)⟩
theorem _root_.Go.W8.SlN.len1 {l : List Int} {a : Option Addr} {m c : Nat} {M : Blks} (h : SlN 1 (ints .i64 l) (.slice a m c) M) : m = l.length := by
  rcases h with ⟨e1, e2, _⟩ | ⟨_, _, _, _, e, _, hr⟩
  · cases e2
    have := congrArg List.length e1
    rw [ints_length] at this
    simpa using this.symm
  · cases e
    exact lauLen hr.len
theorem subP_two {p q r : Nat × List Value} {A B : Blks} (h : SubP A B) : SubP (p :: q :: A) (p :: q :: r :: B) := by
  obtain ⟨M1, h1, h2⟩ := h
  exact ⟨p :: q :: M1, (h1.symm.cons q).cons p |>.symm, .cons_cons _ (.cons_cons _ (.cons _ h2))⟩
theorem nodup_new {w0 : World} {M : Blks} {b : Nat} {cs : List Value} (hb : Fresh w0 M b) (h : (M.map (·.1)).Nodup) : (((b, cs) :: M).map (·.1)).Nodup := by
  simp only [List.map_cons, List.nodup_cons]
  refine ⟨fun hm => ?_, h⟩
  obtain ⟨p, hp, e⟩ := List.mem_map.1 hm
  exact hb.2 p hp e.symm
theorem valTo_one {l : List Int} (low : Int) : ∀ k, valTo low 1 l k = valTo 0 1 l k
  | 0 => rfl
  | k + 1 => by
    show valTo low 1 l k + (if valOdd low 1 k = true then _ else _) = valTo 0 1 l k + (if valOdd 0 1 k = true then _ else _)
    rw [valTo_one low k]
    rfl
section
variable (n : Nat) (x o : List Int) (hx : Bytes8 x) (ho : Bytes8 o) (hn : n ≤ 8) (hn2 : 2 ≤ n)
include hx ho hn hn2
theorem l04Alexander_c : GivesX Try.prog 12 #[.agg (gc (n : Int) x o).toArray] [] [] (LauV (loL (alL n x o)) (alL n x o)) := by
  have hl := hx.len
  have hm := ho.len
  have hq := fun v L (hv : LauV (detLow n x o) (detL n x o) v L) => l04Quotient_c (detLow n x o) (detL n x o) v L hv (detL_ok x o hn) (n - 1) (by omega)
  have en : (n : Int) - 1 = ((n - 1 : Nat) : Int) := by omega
  refine GivesX.part ?_
  skip
  refine GivesX.of (callable_of Try.func12 rfl (by decide)) ?_ fun w hnd hlt hR => ?_
  · simp
  refine acall_of (N := 28) (c := _) (rs := [.cell 2 35]) (args := [_]) Try.func12 rfl (by decide) rfl rfl (Nat.le_of_ble_eq_true rfl) ?_
  refine Cd.rs [1, 2] fun K hK => ?_
  simp (maxSteps := 2000000) (disch := first | (simp only [E4, hl, hm] <;> omega) | omega | fail) only [↓E2, E3, bare, bareJ, ↓E0, E1, env0, envN, evOps, evOp, evQs, evQ, evV, setD, pureOp, ev, upd, updL, Value.cells, hav, delB, ↓reduceIte, Zj, Zk, Nat.reduceAdd, Nat.reduceLT, Nat.reduceEqDiff, Nat.reduceMul, Nat.reduceLeDiff, if_true, Zn, reduceCtorEq, ZA, eq_self, Int.reduceLE, Int.reduceLT, Int.reduceToNat, ne_eq, Nat.reduceSub, Tzero35, hl, hm]
  repeat refine And.intro (by omega) ?_
  intro b1 hb1
  intro b2 hb2
  have nb2_b1 := hb2.ne
  try simp (maxSteps := 2000000) (disch := first | (simp only [E4, hl, hm] <;> omega) | omega | fail) only [↓E2, E3, bare, bareJ, ↓E0, E1, env0, envN, evOps, evOp, evQs, evQ, evV, setD, pureOp, ev, upd, updL, Value.cells, hav, delB, ↓reduceIte, Zj, Zk, Nat.reduceAdd, Nat.reduceLT, Nat.reduceEqDiff, Nat.reduceMul, Nat.reduceLeDiff, if_true, Zn, reduceCtorEq, ZA, eq_self, Int.reduceLE, Int.reduceLT, Int.reduceToNat, ne_eq, Nat.reduceSub, Tzero35, hl, hm, nb2_b1]
  repeat refine And.intro (by omega) ?_
  repeat refine And.intro (by omega) ?_
  intro g
  simp only [List.map_cons, List.map_nil, updL, upd, Nat.reduceEqDiff, if_true, if_false, ↓reduceIte]
  refine hK _ _ ?_; clear hK K
  have n2 : ¬ b2 = b1 := hb2.2 (b1, gc (n : Int) x o) (by simp)
  skip
  skip
  refine Cd.ps [2, 3] (Plan.take 0 (Plan.take 2 (Plan.more 1 (Plan.take 3 (Plan.take 4 (Plan.more 5 (Plan.take 6 (Plan.take 7 (Plan.take 8 (Plan.one 9 (Plan.one 10 (Plan.take 11 (Plan.done))))))) (Plan.one 9 (Plan.one 5 (Plan.take 6 (Plan.take 7 (Plan.take 8 (Plan.one 10 (Plan.take 11 (Plan.done))))))))))) (Plan.more 3 (Plan.take 4 (Plan.more 1 (Plan.more 5 (Plan.take 6 (Plan.take 7 (Plan.take 8 (Plan.one 9 (Plan.one 10 (Plan.take 11 (Plan.done))))))) (Plan.one 9 (Plan.one 5 (Plan.take 6 (Plan.take 7 (Plan.take 8 (Plan.one 10 (Plan.take 11 (Plan.done))))))))) (Plan.one 9 (Plan.one 1 (Plan.one 5 (Plan.take 6 (Plan.take 7 (Plan.take 8 (Plan.one 10 (Plan.take 11 (Plan.done))))))))))) (Plan.one 9 (Plan.more 1 (Plan.take 3 (Plan.take 4 (Plan.one 5 (Plan.take 6 (Plan.take 7 (Plan.take 8 (Plan.one 10 (Plan.take 11 (Plan.done))))))))) (Plan.one 3 (Plan.take 4 (Plan.one 1 (Plan.one 5 (Plan.take 6 (Plan.take 7 (Plan.take 8 (Plan.one 10 (Plan.take 11 (Plan.done)))))))))))))))) fol (by kernel_rfl) (Nat.le_of_ble_eq_true rfl) fun K hK => ?_
  have J : ∀ g b3 pv Mq M, LauV (alQ n x o).1 (alQ n x o).2 pv Mq → (∃ a m c, pv = .agg #[.int .i64 (alQ n x o).1, .slice a m c] ∧ SubP ((b3, [.int .i64 (alQ n x o).1, .slice a m c]) :: (b2, [.int .i64 0, .slice none 0 0]) :: Mq) M) → K (updL [(2, .pointer (some ⟨b2, 0, none⟩)), (3, .pointer (some ⟨b3, 0, none⟩))] g) M := by
    rintro g b3 pv Mq M ⟨s', rfl, hs'⟩ ⟨a, m, c, e, hM⟩
    cases e
    refine hK _ _ ?_
    clear hK K
    refine Cd.sub hM ?_
    clear hM
    have hok := alQ_ok x o hn
    have hln := alL_len n x o
    have hvl : valTo 0 1 (alQ n x o).2 (alQ n x o).2.length = alV n x o := rfl
    have hal : alL n x o = if alV n x o < 0 then negL (alQ n x o).2 else (alQ n x o).2 := rfl
    generalize (alQ n x o).1 = ql at *
    generalize (alQ n x o).2 = qq at *
    obtain rfl := hs'.len1
    have q2 := lauOk_len hok
    have q3 := lauOk_get hok
    have hlo := lauOk_low (loL_ok hok)
    have hlw : (0 - ((qq.length : Int) - 1)).tdiv 2 = loL qq := rfl
    refine Cd.nodup fun hnd => ?_
    have n3 : ¬ b3 = b2 := (nodup_cases hnd).1 (b2, [.int .i64 0, .slice none 0 0]) (by simp)
    skip
    skip
    have hrd : RdS (toldOf Mq) 1 (ints .i64 qq) (.slice a qq.length c) := hs'.reads fun p hp => mem_toldOf hp
    refine Cd.rs [2, 3] fun K hK => ?_
    simp (maxSteps := 2000000) (disch := first | (simp only [E4, hl, hm, hlw] <;> omega) | omega | fail) only [↓E2, E3, bare, bareJ, ↓E0, E1, env0, envN, evOps, evOp, evQs, evQ, evV, setD, pureOp, ev, upd, updL, binW, eqOp, binV, intOp, shOp, boolOp, unV, fieldAddrV, cellAt, cellsAt, findB, setB, Value.cells, lenV, hav, delB, eqL, SameI, strOp, ↓reduceIte, Zj, Zk, Nat.reduceAdd, Nat.reduceLT, Nat.reduceEqDiff, Nat.reduceMul, Nat.reduceLeDiff, if_true, Zn, reduceCtorEq, ZA, eq_self, Int.reduceLE, Int.reduceLT, Int.reduceToNat, ne_eq, Nat.reduceSub, Tfld35_0, Tfld35_1, Tld31, Tslce31, Tst2, hl, hm, nb2_b1, n2, n3, hlw]
    repeat refine And.intro (by omega) ?_
    repeat refine And.intro (by omega) ?_
    intro g
    simp only [List.map_cons, List.map_nil, updL, upd, Nat.reduceEqDiff, if_true, if_false, ↓reduceIte]
    refine hK _ _ ?_; clear hK K
    refine Cd.nodup fun hnd => ?_
    refine Cd.seq ?_
    refine Cd.rs [2, 3, 23] fun K hK => ?_
    simp (maxSteps := 2000000) (disch := first | (simp only [E4, hl, hm] <;> omega) | omega | fail) only [↓E2, E3, bare, bareJ, ↓E0, E1, env0, envN, evOps, evOp, evQs, evQ, evV, setD, pureOp, ev, upd, updL, binW, eqOp, binV, intOp, shOp, boolOp, cellAt, cellsAt, findB, setB, hav, delB, eqL, SameI, strOp, ↓reduceIte, Zj, Zk, Nat.reduceAdd, Nat.reduceLT, Nat.reduceEqDiff, Nat.reduceMul, Nat.reduceLeDiff, if_true, Zn, reduceCtorEq, ZA, eq_self, Int.reduceLE, Int.reduceLT, Int.reduceToNat, ne_eq, Nat.reduceSub, Tld35, hl, hm, nb2_b1, n2, n3]
    repeat refine And.intro (by omega) ?_
    refine callK_reads0 (l04Value_c (loL qq) 1 qq (toldOf Mq) _ ⟨_, rfl, hrd⟩ (by omega) (by omega) (fun k => by have := q3 k; omega)) (holds_mem hnd fun p hp => by simp [hp]) ?_
    rw [valTo_one, hvl]
    simp (maxSteps := 2000000) (disch := first | (simp only [E4, hl, hm] <;> omega) | omega | fail) only [↓E2, E3, bare, bareJ, ↓E0, E1, env0, envN, evOps, evOp, evQs, evQ, evV, setD, pureOp, ev, upd, updL, binW, eqOp, binV, intOp, shOp, boolOp, cellAt, cellsAt, findB, setB, hav, delB, eqL, SameI, strOp, ↓reduceIte, Zj, Zk, Nat.reduceAdd, Nat.reduceLT, Nat.reduceEqDiff, Nat.reduceMul, Nat.reduceLeDiff, if_true, Zn, reduceCtorEq, ZA, eq_self, Int.reduceLE, Int.reduceLT, Int.reduceToNat, ne_eq, Nat.reduceSub, Tld35, hl, hm, nb2_b1, n2, n3]
    repeat refine And.intro (by omega) ?_
    repeat refine And.intro (by omega) ?_
    intro g
    simp only [List.map_cons, List.map_nil, updL, upd, Nat.reduceEqDiff, if_true, if_false, ↓reduceIte]
    refine hK _ _ ?_; clear hK K
    refine Cd.condd rfl (fun h1 => ?_) (fun h1 => ?_)
    · rw [if_pos h1] at hal
      have h0 : qq.length ≠ 0 := by
        intro h0
        have : alV n x o = 0 := by rw [← hvl, h0]; rfl
        omega
      have hadd := addR_neg (loL_ok hok) h0
      have hlq : loL (negL qq) = loL qq := by unfold loL; rw [negL_len]
      refine Cd.rs [2] fun K hK => ?_
      simp (maxSteps := 2000000) (disch := first | (simp only [E4, hl, hm] <;> omega) | omega | fail) only [↓E2, E3, bare, bareJ, ↓E0, E1, evP, env0, envN, evOps, evOp, evQs, evQ, evV, setD, pureOp, ev, upd, updL, cellAt, cellsAt, findB, setB, fillL, buildV, Value.cells, hav, delB, ↓reduceIte, Zj, Zk, Nat.reduceAdd, Nat.reduceLT, Nat.reduceEqDiff, Nat.reduceMul, Nat.reduceLeDiff, if_true, Zn, reduceCtorEq, ZA, eq_self, Int.reduceLE, Int.reduceLT, Int.reduceToNat, ne_eq, Nat.reduceSub, Tbld35, Tld35, Tst35, hl, hm, nb2_b1, n2, n3]
      repeat refine And.intro (by omega) ?_
      refine callK_newR0 (l04Add_c 0 [] (loL qq) qq (toldOf Mq) _ _ ⟨_, rfl, (SlN.nil 1).reads (M := []) fun p hp => nomatch hp⟩ ⟨_, rfl, hrd⟩ rfl (loL_ok hok) (-1) (.inr rfl)) (HoldsAll.toldW (holds_mem hnd fun p hp => by simp [hp])) ?_
      rw [hadd]
      rintro v' M' ⟨s2, rfl, hs2⟩ nd' _
      obtain ⟨a2, m2, c2, rfl⟩ := hs2.form
      simp only [List.cons_append, List.nil_append] at nd' ⊢
      simp (maxSteps := 2000000) (disch := first | (simp only [E4, hl, hm] <;> omega) | omega | fail) only [↓E2, E3, bare, bareJ, ↓E0, E1, evP, env0, envN, evOps, evOp, evQs, evQ, evV, setD, pureOp, ev, upd, updL, cellAt, cellsAt, findB, setB, fillL, buildV, Value.cells, hav, delB, ↓reduceIte, Zj, Zk, Nat.reduceAdd, Nat.reduceLT, Nat.reduceEqDiff, Nat.reduceMul, Nat.reduceLeDiff, if_true, Zn, reduceCtorEq, ZA, eq_self, Int.reduceLE, Int.reduceLT, Int.reduceToNat, ne_eq, Nat.reduceSub, Tbld35, Tld35, Tst35, hl, hm, nb2_b1, n2, n3]
      repeat refine And.intro (by omega) ?_
      repeat refine And.intro (by omega) ?_
      intro g
      simp only [List.map_cons, List.map_nil, updL, upd, Nat.reduceEqDiff, if_true, if_false, ↓reduceIte]
      refine hK _ _ ?_; clear hK K
      refine Cd.ret (thenR ?_)
      simp (maxSteps := 2000000) (disch := first | (simp only [E4, hl, hm] <;> omega) | omega | fail) only [↓E2, E3, bare, bareJ, ↓E0, E1, evP, evPlan, env0, envN, evOps, evOp, evQs, evQ, evV, setD, pureOp, ev, upd, updL, gate, binW, eqOp, binV, intOp, shOp, boolOp, unV, convV, nilV, fieldAddrV, indexAddrV, extractV, cellAt, cellsAt, findB, setB, fillL, buildV, Value.cells, lenV, minV, maxV, hav, sliceV, loV, hiV, bslQ, mksQ, appQ, partsOk, partsCells, delB, eqL, SameI, strOp, apzQ, cvtQ, capV, ↓reduceIte, Zj, Zk, Nat.reduceAdd, Nat.reduceLT, Nat.reduceEqDiff, Nat.reduceMul, Nat.reduceLeDiff, if_true, Zn, reduceCtorEq, ZA, eq_self, Int.reduceLE, Int.reduceLT, Int.reduceToNat, ne_eq, Nat.reduceSub, Tld35, hl, hm, nb2_b1, n2, n3]
      repeat refine And.intro (by omega) ?_
      rw [hal, hlq]
      exact ⟨M', SubP.of (List.Sublist.cons _ (List.Sublist.cons _ (List.sublist_append_right _ _))), _, rfl, hs2⟩
    · rw [if_neg h1] at hal
      refine Cd.skip ?_
      refine thenN ?_
      refine Cd.rs [2] fun K hK => ?_
      simp (maxSteps := 2000000) (disch := first | (simp only [E4, hl, hm] <;> omega) | omega | fail) only [↓E2, E3, bare, bareJ, ↓E0, E1, env0, envN, evOps, evOp, evQs, evQ, evV, setD, pureOp, ev, upd, updL, cellAt, cellsAt, findB, setB, Value.cells, hav, delB, ↓reduceIte, Zj, Zk, Nat.reduceAdd, Nat.reduceLT, Nat.reduceEqDiff, Nat.reduceMul, Nat.reduceLeDiff, if_true, Zn, reduceCtorEq, ZA, eq_self, Int.reduceLE, Int.reduceLT, Int.reduceToNat, ne_eq, Nat.reduceSub, Tld35, Tst35, hl, hm, nb2_b1, n2, n3]
      repeat refine And.intro (by omega) ?_
      repeat refine And.intro (by omega) ?_
      intro g
      simp only [List.map_cons, List.map_nil, updL, upd, Nat.reduceEqDiff, if_true, if_false, ↓reduceIte]
      refine hK _ _ ?_; clear hK K
      refine Cd.ret ?_
      simp (maxSteps := 2000000) (disch := first | (simp only [E4, hl, hm] <;> omega) | omega | fail) only [↓E2, E3, bare, bareJ, ↓E0, E1, evP, evPlan, env0, envN, evOps, evOp, evQs, evQ, evV, setD, pureOp, ev, upd, updL, gate, binW, eqOp, binV, intOp, shOp, boolOp, unV, convV, nilV, fieldAddrV, indexAddrV, extractV, cellAt, cellsAt, findB, setB, fillL, buildV, Value.cells, lenV, minV, maxV, hav, sliceV, loV, hiV, bslQ, mksQ, appQ, partsOk, partsCells, delB, eqL, SameI, strOp, apzQ, cvtQ, capV, ↓reduceIte, Zj, Zk, Nat.reduceAdd, Nat.reduceLT, Nat.reduceEqDiff, Nat.reduceMul, Nat.reduceLeDiff, if_true, Zn, reduceCtorEq, ZA, eq_self, Int.reduceLE, Int.reduceLT, Int.reduceToNat, ne_eq, Nat.reduceSub, Tld35, hl, hm, nb2_b1, n2, n3]
      repeat refine And.intro (by omega) ?_
      rw [hal]
      exact ⟨Mq, SubP.of (List.Sublist.cons _ (List.Sublist.cons _ (List.Sublist.refl _))), _, rfl, hs'⟩
  clear hK
  simp (maxSteps := 2000000) (disch := first | (simp only [E4, hl, hm] <;> omega) | omega | fail) only [↓E2, E3, bare, bareJ, ↓E0, E1, evPlan, env0, envN, evOps, evOp, evQs, evQ, evV, setD, pureOp, ev, upd, updL, binW, eqOp, binV, intOp, shOp, boolOp, fieldAddrV, extractV, cellAt, cellsAt, findB, setB, Value.cells, hav, delB, eqL, SameI, strOp, ↓reduceIte, Zj, Zk, Nat.reduceAdd, Nat.reduceLT, Nat.reduceEqDiff, Nat.reduceMul, Nat.reduceLeDiff, if_true, Zn, reduceCtorEq, ZA, eq_self, Int.reduceLE, Int.reduceLT, Int.reduceToNat, ne_eq, Nat.reduceSub, Tfld27_0, Tld2, Tld27, Tst35, Tzero35, ↓YR, hl, hm, nb2_b1, n2]
  refine moreX_go ?_ ?_
  · simp (maxSteps := 2000000) (disch := first | (simp only [E4, hl, hm, en] <;> omega) | omega | fail) only [↓E2, E3, bare, bareJ, ↓E0, E1, evPlan, env0, envN, evOps, evOp, evQs, evQ, evV, setD, pureOp, ev, upd, updL, binW, eqOp, binV, intOp, shOp, boolOp, fieldAddrV, extractV, cellAt, cellsAt, findB, setB, Value.cells, hav, delB, eqL, SameI, strOp, ↓reduceIte, Zj, Zk, Nat.reduceAdd, Nat.reduceLT, Nat.reduceEqDiff, Nat.reduceMul, Nat.reduceLeDiff, if_true, Zn, reduceCtorEq, ZA, eq_self, Int.reduceLE, Int.reduceLT, Int.reduceToNat, ne_eq, Nat.reduceSub, Tfld27_0, Tld2, Tld27, Tst35, Tzero35, ↓YR, hl, hm, nb2_b1, n2, en]
    refine callO_newR0 (l04Determinant_c n x o hx ho hn hn2) (fun _ _ => toldW_nil) ?_
    intro v1 M1 hv1 nd1 _
    simp only [List.cons_append, List.nil_append] at nd1 ⊢
    simp (maxSteps := 2000000) (disch := first | (simp only [E4, hl, hm, en] <;> omega) | omega | fail) only [↓E2, E3, bare, bareJ, ↓E0, E1, evPlan, env0, envN, evOps, evOp, evQs, evQ, evV, setD, pureOp, ev, upd, updL, binW, eqOp, binV, intOp, shOp, boolOp, fieldAddrV, extractV, cellAt, cellsAt, findB, setB, Value.cells, hav, delB, eqL, SameI, strOp, ↓reduceIte, Zj, Zk, Nat.reduceAdd, Nat.reduceLT, Nat.reduceEqDiff, Nat.reduceMul, Nat.reduceLeDiff, if_true, Zn, reduceCtorEq, ZA, eq_self, Int.reduceLE, Int.reduceLT, Int.reduceToNat, ne_eq, Nat.reduceSub, Tfld27_0, Tld2, Tld27, Tst35, Tzero35, ↓YR, hl, hm, nb2_b1, n2, en]
    refine moreX_go ?_ ?_
    · simp (maxSteps := 2000000) (disch := first | (simp only [E4, hl, hm] <;> omega) | omega | fail) only [↓E2, E3, bare, bareJ, ↓E0, E1, evPlan, env0, envN, evOps, evOp, evQs, evQ, evV, setD, pureOp, ev, upd, updL, binW, eqOp, binV, intOp, shOp, boolOp, fieldAddrV, extractV, cellAt, cellsAt, findB, setB, Value.cells, hav, delB, eqL, SameI, strOp, ↓reduceIte, Zj, Zk, Nat.reduceAdd, Nat.reduceLT, Nat.reduceEqDiff, Nat.reduceMul, Nat.reduceLeDiff, if_true, Zn, reduceCtorEq, ZA, eq_self, Int.reduceLE, Int.reduceLT, Int.reduceToNat, ne_eq, Nat.reduceSub, Tfld27_0, Tld2, Tld27, Tst35, Tzero35, ↓YR, hl, hm, nb2_b1, n2]
      refine callO_lentC (cs := []) (Mr := [(b2, [.int .i64 0, .slice none 0 0]), (b1, gc (n : Int) x o)]) (hq v1 M1 hv1) nd1 rfl (fun _ _ => toldW_nil) ?_
      intro r M' hr nd2 _
      obtain ⟨ok, pv, Mq, rfl, ⟨s', rfl, hs'⟩, hsub⟩ := quotP_any hr
      obtain ⟨a', m', c', rfl⟩ := hs'.form
      simp only [List.cons_append, List.nil_append] at nd2 ⊢
      simp (maxSteps := 2000000) (disch := first | (simp only [E4, hl, hm] <;> omega) | omega | fail) only [↓E2, E3, bare, bareJ, ↓E0, E1, evPlan, env0, envN, evOps, evOp, evQs, evQ, evV, setD, pureOp, ev, upd, updL, binW, eqOp, binV, intOp, shOp, boolOp, fieldAddrV, extractV, cellAt, cellsAt, findB, setB, Value.cells, hav, delB, eqL, SameI, strOp, ↓reduceIte, Zj, Zk, Nat.reduceAdd, Nat.reduceLT, Nat.reduceEqDiff, Nat.reduceMul, Nat.reduceLeDiff, if_true, Zn, reduceCtorEq, ZA, eq_self, Int.reduceLE, Int.reduceLT, Int.reduceToNat, ne_eq, Nat.reduceSub, Tfld27_0, Tld2, Tld27, Tst35, Tzero35, ↓YR, hl, hm, nb2_b1, n2]
      intro b3 hb3
      repeat refine And.intro (by omega) ?_
      intro g
      simp only [List.map_cons, List.map_nil, updL, upd, Nat.reduceEqDiff, if_true, if_false, ↓reduceIte]
      exact J g b3 _ Mq _ ⟨_, rfl, hs'⟩ ⟨_, _, _, rfl, subP_two hsub⟩
    · simp (maxSteps := 2000000) (disch := first | (simp only [E4, hl, hm] <;> omega) | omega | fail) only [↓E2, E3, bare, bareJ, ↓E0, E1, evPlan, env0, envN, evOps, evOp, evQs, evQ, evV, setD, pureOp, ev, upd, updL, binW, eqOp, binV, intOp, shOp, boolOp, fieldAddrV, extractV, cellAt, cellsAt, findB, setB, Value.cells, hav, delB, eqL, SameI, strOp, ↓reduceIte, Zj, Zk, Nat.reduceAdd, Nat.reduceLT, Nat.reduceEqDiff, Nat.reduceMul, Nat.reduceLeDiff, if_true, Zn, reduceCtorEq, ZA, eq_self, Int.reduceLE, Int.reduceLT, Int.reduceToNat, ne_eq, Nat.reduceSub, Tfld27_0, Tld2, Tld27, Tst35, Tzero35, ↓YR, hl, hm, nb2_b1, n2]
      intro b3 hb3
      have nd1 := nodup_new (cs := [.int .i64 0, .slice none 0 0]) hb3 nd1
      try simp only [List.cons_append, List.nil_append] at nd1
      refine callO_lentC (cs := []) (Mr := [(b3, [.int .i64 0, .slice none 0 0]), (b2, [.int .i64 0, .slice none 0 0]), (b1, gc (n : Int) x o)]) (hq v1 M1 hv1) nd1 rfl (fun _ _ => toldW_nil) ?_
      intro r M' hr nd2 _
      obtain ⟨ok, pv, Mq, rfl, ⟨s', rfl, hs'⟩, hsub⟩ := quotP_any hr
      obtain ⟨a', m', c', rfl⟩ := hs'.form
      simp only [List.cons_append, List.nil_append] at nd2 ⊢
      simp (maxSteps := 2000000) (disch := first | (simp only [E4, hl, hm] <;> omega) | omega | fail) only [↓E2, E3, bare, bareJ, ↓E0, E1, evPlan, env0, envN, evOps, evOp, evQs, evQ, evV, setD, pureOp, ev, upd, updL, binW, eqOp, binV, intOp, shOp, boolOp, fieldAddrV, extractV, cellAt, cellsAt, findB, setB, Value.cells, hav, delB, eqL, SameI, strOp, ↓reduceIte, Zj, Zk, Nat.reduceAdd, Nat.reduceLT, Nat.reduceEqDiff, Nat.reduceMul, Nat.reduceLeDiff, if_true, Zn, reduceCtorEq, ZA, eq_self, Int.reduceLE, Int.reduceLT, Int.reduceToNat, ne_eq, Nat.reduceSub, Tfld27_0, Tld2, Tld27, Tst35, Tzero35, ↓YR, hl, hm, nb2_b1, n2]
      repeat refine And.intro (by omega) ?_
      intro g
      simp only [List.map_cons, List.map_nil, updL, upd, Nat.reduceEqDiff, if_true, if_false, ↓reduceIte]
      exact J g b3 _ Mq _ ⟨_, rfl, hs'⟩ ⟨_, _, _, rfl, subP_two hsub⟩
  · refine moreX_go ?_ ?_
    · simp (maxSteps := 2000000) (disch := first | (simp only [E4, hl, hm, en] <;> omega) | omega | fail) only [↓E2, E3, bare, bareJ, ↓E0, E1, evPlan, env0, envN, evOps, evOp, evQs, evQ, evV, setD, pureOp, ev, upd, updL, binW, eqOp, binV, intOp, shOp, boolOp, fieldAddrV, extractV, cellAt, cellsAt, findB, setB, Value.cells, hav, delB, eqL, SameI, strOp, ↓reduceIte, Zj, Zk, Nat.reduceAdd, Nat.reduceLT, Nat.reduceEqDiff, Nat.reduceMul, Nat.reduceLeDiff, if_true, Zn, reduceCtorEq, ZA, eq_self, Int.reduceLE, Int.reduceLT, Int.reduceToNat, ne_eq, Nat.reduceSub, Tfld27_0, Tld2, Tld27, Tst35, Tzero35, ↓YR, hl, hm, nb2_b1, n2, en]
      refine moreX_go ?_ ?_
      · simp (maxSteps := 2000000) (disch := first | (simp only [E4, hl, hm] <;> omega) | omega | fail) only [↓E2, E3, bare, bareJ, ↓E0, E1, evPlan, env0, envN, evOps, evOp, evQs, evQ, evV, setD, pureOp, ev, upd, updL, binW, eqOp, binV, intOp, shOp, boolOp, fieldAddrV, extractV, cellAt, cellsAt, findB, setB, Value.cells, hav, delB, eqL, SameI, strOp, ↓reduceIte, Zj, Zk, Nat.reduceAdd, Nat.reduceLT, Nat.reduceEqDiff, Nat.reduceMul, Nat.reduceLeDiff, if_true, Zn, reduceCtorEq, ZA, eq_self, Int.reduceLE, Int.reduceLT, Int.reduceToNat, ne_eq, Nat.reduceSub, Tfld27_0, Tld2, Tld27, Tst35, Tzero35, ↓YR, hl, hm, nb2_b1, n2]
        refine callO_newR0 (l04Determinant_c n x o hx ho hn hn2) (fun _ _ => toldW_nil) ?_
        intro v1 M1 hv1 nd1 _
        simp only [List.cons_append, List.nil_append] at nd1 ⊢
        simp (maxSteps := 2000000) (disch := first | (simp only [E4, hl, hm, en] <;> omega) | omega | fail) only [↓E2, E3, bare, bareJ, ↓E0, E1, evPlan, env0, envN, evOps, evOp, evQs, evQ, evV, setD, pureOp, ev, upd, updL, binW, eqOp, binV, intOp, shOp, boolOp, fieldAddrV, extractV, cellAt, cellsAt, findB, setB, Value.cells, hav, delB, eqL, SameI, strOp, ↓reduceIte, Zj, Zk, Nat.reduceAdd, Nat.reduceLT, Nat.reduceEqDiff, Nat.reduceMul, Nat.reduceLeDiff, if_true, Zn, reduceCtorEq, ZA, eq_self, Int.reduceLE, Int.reduceLT, Int.reduceToNat, ne_eq, Nat.reduceSub, Tfld27_0, Tld2, Tld27, Tst35, Tzero35, ↓YR, hl, hm, nb2_b1, n2, en]
        refine moreX_go ?_ ?_
        · simp (maxSteps := 2000000) (disch := first | (simp only [E4, hl, hm] <;> omega) | omega | fail) only [↓E2, E3, bare, bareJ, ↓E0, E1, evPlan, env0, envN, evOps, evOp, evQs, evQ, evV, setD, pureOp, ev, upd, updL, binW, eqOp, binV, intOp, shOp, boolOp, fieldAddrV, extractV, cellAt, cellsAt, findB, setB, Value.cells, hav, delB, eqL, SameI, strOp, ↓reduceIte, Zj, Zk, Nat.reduceAdd, Nat.reduceLT, Nat.reduceEqDiff, Nat.reduceMul, Nat.reduceLeDiff, if_true, Zn, reduceCtorEq, ZA, eq_self, Int.reduceLE, Int.reduceLT, Int.reduceToNat, ne_eq, Nat.reduceSub, Tfld27_0, Tld2, Tld27, Tst35, Tzero35, ↓YR, hl, hm, nb2_b1, n2]
          refine callO_lentC (cs := []) (Mr := [(b2, [.int .i64 0, .slice none 0 0]), (b1, gc (n : Int) x o)]) (hq v1 M1 hv1) nd1 rfl (fun _ _ => toldW_nil) ?_
          intro r M' hr nd2 _
          obtain ⟨ok, pv, Mq, rfl, ⟨s', rfl, hs'⟩, hsub⟩ := quotP_any hr
          obtain ⟨a', m', c', rfl⟩ := hs'.form
          simp only [List.cons_append, List.nil_append] at nd2 ⊢
          simp (maxSteps := 2000000) (disch := first | (simp only [E4, hl, hm] <;> omega) | omega | fail) only [↓E2, E3, bare, bareJ, ↓E0, E1, evPlan, env0, envN, evOps, evOp, evQs, evQ, evV, setD, pureOp, ev, upd, updL, binW, eqOp, binV, intOp, shOp, boolOp, fieldAddrV, extractV, cellAt, cellsAt, findB, setB, Value.cells, hav, delB, eqL, SameI, strOp, ↓reduceIte, Zj, Zk, Nat.reduceAdd, Nat.reduceLT, Nat.reduceEqDiff, Nat.reduceMul, Nat.reduceLeDiff, if_true, Zn, reduceCtorEq, ZA, eq_self, Int.reduceLE, Int.reduceLT, Int.reduceToNat, ne_eq, Nat.reduceSub, Tfld27_0, Tld2, Tld27, Tst35, Tzero35, ↓YR, hl, hm, nb2_b1, n2]
          intro b3 hb3
          repeat refine And.intro (by omega) ?_
          intro g
          simp only [List.map_cons, List.map_nil, updL, upd, Nat.reduceEqDiff, if_true, if_false, ↓reduceIte]
          exact J g b3 _ Mq _ ⟨_, rfl, hs'⟩ ⟨_, _, _, rfl, subP_two hsub⟩
        · simp (maxSteps := 2000000) (disch := first | (simp only [E4, hl, hm] <;> omega) | omega | fail) only [↓E2, E3, bare, bareJ, ↓E0, E1, evPlan, env0, envN, evOps, evOp, evQs, evQ, evV, setD, pureOp, ev, upd, updL, binW, eqOp, binV, intOp, shOp, boolOp, fieldAddrV, extractV, cellAt, cellsAt, findB, setB, Value.cells, hav, delB, eqL, SameI, strOp, ↓reduceIte, Zj, Zk, Nat.reduceAdd, Nat.reduceLT, Nat.reduceEqDiff, Nat.reduceMul, Nat.reduceLeDiff, if_true, Zn, reduceCtorEq, ZA, eq_self, Int.reduceLE, Int.reduceLT, Int.reduceToNat, ne_eq, Nat.reduceSub, Tfld27_0, Tld2, Tld27, Tst35, Tzero35, ↓YR, hl, hm, nb2_b1, n2]
          intro b3 hb3
          have nd1 := nodup_new (cs := [.int .i64 0, .slice none 0 0]) hb3 nd1
          try simp only [List.cons_append, List.nil_append] at nd1
          refine callO_lentC (cs := []) (Mr := [(b3, [.int .i64 0, .slice none 0 0]), (b2, [.int .i64 0, .slice none 0 0]), (b1, gc (n : Int) x o)]) (hq v1 M1 hv1) nd1 rfl (fun _ _ => toldW_nil) ?_
          intro r M' hr nd2 _
          obtain ⟨ok, pv, Mq, rfl, ⟨s', rfl, hs'⟩, hsub⟩ := quotP_any hr
          obtain ⟨a', m', c', rfl⟩ := hs'.form
          simp only [List.cons_append, List.nil_append] at nd2 ⊢
          simp (maxSteps := 2000000) (disch := first | (simp only [E4, hl, hm] <;> omega) | omega | fail) only [↓E2, E3, bare, bareJ, ↓E0, E1, evPlan, env0, envN, evOps, evOp, evQs, evQ, evV, setD, pureOp, ev, upd, updL, binW, eqOp, binV, intOp, shOp, boolOp, fieldAddrV, extractV, cellAt, cellsAt, findB, setB, Value.cells, hav, delB, eqL, SameI, strOp, ↓reduceIte, Zj, Zk, Nat.reduceAdd, Nat.reduceLT, Nat.reduceEqDiff, Nat.reduceMul, Nat.reduceLeDiff, if_true, Zn, reduceCtorEq, ZA, eq_self, Int.reduceLE, Int.reduceLT, Int.reduceToNat, ne_eq, Nat.reduceSub, Tfld27_0, Tld2, Tld27, Tst35, Tzero35, ↓YR, hl, hm, nb2_b1, n2]
          repeat refine And.intro (by omega) ?_
          intro g
          simp only [List.map_cons, List.map_nil, updL, upd, Nat.reduceEqDiff, if_true, if_false, ↓reduceIte]
          exact J g b3 _ Mq _ ⟨_, rfl, hs'⟩ ⟨_, _, _, rfl, subP_two hsub⟩
      · simp (maxSteps := 2000000) (disch := first | (simp only [E4, hl, hm] <;> omega) | omega | fail) only [↓E2, E3, bare, bareJ, ↓E0, E1, evPlan, env0, envN, evOps, evOp, evQs, evQ, evV, setD, pureOp, ev, upd, updL, binW, eqOp, binV, intOp, shOp, boolOp, fieldAddrV, extractV, cellAt, cellsAt, findB, setB, Value.cells, hav, delB, eqL, SameI, strOp, ↓reduceIte, Zj, Zk, Nat.reduceAdd, Nat.reduceLT, Nat.reduceEqDiff, Nat.reduceMul, Nat.reduceLeDiff, if_true, Zn, reduceCtorEq, ZA, eq_self, Int.reduceLE, Int.reduceLT, Int.reduceToNat, ne_eq, Nat.reduceSub, Tfld27_0, Tld2, Tld27, Tst35, Tzero35, ↓YR, hl, hm, nb2_b1, n2]
        intro b3 hb3
        have n32 : ¬ b3 = b2 := hb3.2 (b2, [.int .i64 0, .slice none 0 0]) (by simp)
        have n31 : ¬ b3 = b1 := hb3.2 (b1, gc (n : Int) x o) (by simp)
        refine callO_newR0 (l04Determinant_c n x o hx ho hn hn2) (fun _ _ => toldW_nil) ?_
        intro v1 M1 hv1 nd1 _
        simp only [List.cons_append, List.nil_append] at nd1 ⊢
        simp (maxSteps := 2000000) (disch := first | (simp only [E4, hl, hm, en] <;> omega) | omega | fail) only [↓E2, E3, bare, bareJ, ↓E0, E1, evPlan, env0, envN, evOps, evOp, evQs, evQ, evV, setD, pureOp, ev, upd, updL, binW, eqOp, binV, intOp, shOp, boolOp, fieldAddrV, extractV, cellAt, cellsAt, findB, setB, Value.cells, hav, delB, eqL, SameI, strOp, ↓reduceIte, Zj, Zk, Nat.reduceAdd, Nat.reduceLT, Nat.reduceEqDiff, Nat.reduceMul, Nat.reduceLeDiff, if_true, Zn, reduceCtorEq, ZA, eq_self, Int.reduceLE, Int.reduceLT, Int.reduceToNat, ne_eq, Nat.reduceSub, Tfld27_0, Tld2, Tld27, Tst35, Tzero35, ↓YR, hl, hm, nb2_b1, n2, en]
        refine callO_lentC (cs := []) (Mr := [(b3, [.int .i64 0, .slice none 0 0]), (b2, [.int .i64 0, .slice none 0 0]), (b1, gc (n : Int) x o)]) (hq v1 M1 hv1) nd1 rfl (fun _ _ => toldW_nil) ?_
        intro r M' hr nd2 _
        obtain ⟨ok, pv, Mq, rfl, ⟨s', rfl, hs'⟩, hsub⟩ := quotP_any hr
        obtain ⟨a', m', c', rfl⟩ := hs'.form
        simp only [List.cons_append, List.nil_append] at nd2 ⊢
        simp (maxSteps := 2000000) (disch := first | (simp only [E4, hl, hm] <;> omega) | omega | fail) only [↓E2, E3, bare, bareJ, ↓E0, E1, evPlan, env0, envN, evOps, evOp, evQs, evQ, evV, setD, pureOp, ev, upd, updL, binW, eqOp, binV, intOp, shOp, boolOp, fieldAddrV, extractV, cellAt, cellsAt, findB, setB, Value.cells, hav, delB, eqL, SameI, strOp, ↓reduceIte, Zj, Zk, Nat.reduceAdd, Nat.reduceLT, Nat.reduceEqDiff, Nat.reduceMul, Nat.reduceLeDiff, if_true, Zn, reduceCtorEq, ZA, eq_self, Int.reduceLE, Int.reduceLT, Int.reduceToNat, ne_eq, Nat.reduceSub, Tfld27_0, Tld2, Tld27, Tst35, Tzero35, ↓YR, hl, hm, nb2_b1, n2]
        repeat refine And.intro (by omega) ?_
        intro g
        simp only [List.map_cons, List.map_nil, updL, upd, Nat.reduceEqDiff, if_true, if_false, ↓reduceIte]
        exact J g b3 _ Mq _ ⟨_, rfl, hs'⟩ ⟨_, _, _, rfl, subP_two hsub⟩
    · simp (maxSteps := 2000000) (disch := first | (simp only [E4, hl, hm] <;> omega) | omega | fail) only [↓E2, E3, bare, bareJ, ↓E0, E1, evPlan, env0, envN, evOps, evOp, evQs, evQ, evV, setD, pureOp, ev, upd, updL, binW, eqOp, binV, intOp, shOp, boolOp, fieldAddrV, extractV, cellAt, cellsAt, findB, setB, Value.cells, hav, delB, eqL, SameI, strOp, ↓reduceIte, Zj, Zk, Nat.reduceAdd, Nat.reduceLT, Nat.reduceEqDiff, Nat.reduceMul, Nat.reduceLeDiff, if_true, Zn, reduceCtorEq, ZA, eq_self, Int.reduceLE, Int.reduceLT, Int.reduceToNat, ne_eq, Nat.reduceSub, Tfld27_0, Tld2, Tld27, Tst35, Tzero35, ↓YR, hl, hm, nb2_b1, n2]
      intro b3 hb3
      have n32 : ¬ b3 = b2 := hb3.2 (b2, [.int .i64 0, .slice none 0 0]) (by simp)
      have n31 : ¬ b3 = b1 := hb3.2 (b1, gc (n : Int) x o) (by simp)
      refine moreX_go ?_ ?_
      · simp (maxSteps := 2000000) (disch := first | (simp only [E4, hl, hm] <;> omega) | omega | fail) only [↓E2, E3, bare, bareJ, ↓E0, E1, evPlan, env0, envN, evOps, evOp, evQs, evQ, evV, setD, pureOp, ev, upd, updL, binW, eqOp, binV, intOp, shOp, boolOp, fieldAddrV, extractV, cellAt, cellsAt, findB, setB, Value.cells, hav, delB, eqL, SameI, strOp, ↓reduceIte, Zj, Zk, Nat.reduceAdd, Nat.reduceLT, Nat.reduceEqDiff, Nat.reduceMul, Nat.reduceLeDiff, if_true, Zn, reduceCtorEq, ZA, eq_self, Int.reduceLE, Int.reduceLT, Int.reduceToNat, ne_eq, Nat.reduceSub, Tfld27_0, Tld2, Tld27, Tst35, Tzero35, ↓YR, hl, hm, nb2_b1, n2]
        refine callO_newR0 (l04Determinant_c n x o hx ho hn hn2) (fun _ _ => toldW_nil) ?_
        intro v1 M1 hv1 nd1 _
        simp only [List.cons_append, List.nil_append] at nd1 ⊢
        simp (maxSteps := 2000000) (disch := first | (simp only [E4, hl, hm, en] <;> omega) | omega | fail) only [↓E2, E3, bare, bareJ, ↓E0, E1, evPlan, env0, envN, evOps, evOp, evQs, evQ, evV, setD, pureOp, ev, upd, updL, binW, eqOp, binV, intOp, shOp, boolOp, fieldAddrV, extractV, cellAt, cellsAt, findB, setB, Value.cells, hav, delB, eqL, SameI, strOp, ↓reduceIte, Zj, Zk, Nat.reduceAdd, Nat.reduceLT, Nat.reduceEqDiff, Nat.reduceMul, Nat.reduceLeDiff, if_true, Zn, reduceCtorEq, ZA, eq_self, Int.reduceLE, Int.reduceLT, Int.reduceToNat, ne_eq, Nat.reduceSub, Tfld27_0, Tld2, Tld27, Tst35, Tzero35, ↓YR, hl, hm, nb2_b1, n2, en, n31, n32]
        refine callO_lentC (cs := []) (Mr := [(b3, [.int .i64 0, .slice none 0 0]), (b2, [.int .i64 0, .slice none 0 0]), (b1, gc (n : Int) x o)]) (hq v1 M1 hv1) nd1 rfl (fun _ _ => toldW_nil) ?_
        intro r M' hr nd2 _
        obtain ⟨ok, pv, Mq, rfl, ⟨s', rfl, hs'⟩, hsub⟩ := quotP_any hr
        obtain ⟨a', m', c', rfl⟩ := hs'.form
        simp only [List.cons_append, List.nil_append] at nd2 ⊢
        simp (maxSteps := 2000000) (disch := first | (simp only [E4, hl, hm] <;> omega) | omega | fail) only [↓E2, E3, bare, bareJ, ↓E0, E1, evPlan, env0, envN, evOps, evOp, evQs, evQ, evV, setD, pureOp, ev, upd, updL, binW, eqOp, binV, intOp, shOp, boolOp, fieldAddrV, extractV, cellAt, cellsAt, findB, setB, Value.cells, hav, delB, eqL, SameI, strOp, ↓reduceIte, Zj, Zk, Nat.reduceAdd, Nat.reduceLT, Nat.reduceEqDiff, Nat.reduceMul, Nat.reduceLeDiff, if_true, Zn, reduceCtorEq, ZA, eq_self, Int.reduceLE, Int.reduceLT, Int.reduceToNat, ne_eq, Nat.reduceSub, Tfld27_0, Tld2, Tld27, Tst35, Tzero35, ↓YR, hl, hm, nb2_b1, n2]
        repeat refine And.intro (by omega) ?_
        intro g
        simp only [List.map_cons, List.map_nil, updL, upd, Nat.reduceEqDiff, if_true, if_false, ↓reduceIte]
        exact J g b3 _ Mq _ ⟨_, rfl, hs'⟩ ⟨_, _, _, rfl, subP_two hsub⟩
      · simp (maxSteps := 2000000) (disch := first | (simp only [E4, hl, hm, en] <;> omega) | omega | fail) only [↓E2, E3, bare, bareJ, ↓E0, E1, evPlan, env0, envN, evOps, evOp, evQs, evQ, evV, setD, pureOp, ev, upd, updL, binW, eqOp, binV, intOp, shOp, boolOp, fieldAddrV, extractV, cellAt, cellsAt, findB, setB, Value.cells, hav, delB, eqL, SameI, strOp, ↓reduceIte, Zj, Zk, Nat.reduceAdd, Nat.reduceLT, Nat.reduceEqDiff, Nat.reduceMul, Nat.reduceLeDiff, if_true, Zn, reduceCtorEq, ZA, eq_self, Int.reduceLE, Int.reduceLT, Int.reduceToNat, ne_eq, Nat.reduceSub, Tfld27_0, Tld2, Tld27, Tst35, Tzero35, ↓YR, hl, hm, nb2_b1, n2, en, n31, n32]
        refine callO_newR0 (l04Determinant_c n x o hx ho hn hn2) (fun _ _ => toldW_nil) ?_
        intro v1 M1 hv1 nd1 _
        simp only [List.cons_append, List.nil_append] at nd1 ⊢
        simp (maxSteps := 2000000) (disch := first | (simp only [E4, hl, hm, en] <;> omega) | omega | fail) only [↓E2, E3, bare, bareJ, ↓E0, E1, evPlan, env0, envN, evOps, evOp, evQs, evQ, evV, setD, pureOp, ev, upd, updL, binW, eqOp, binV, intOp, shOp, boolOp, fieldAddrV, extractV, cellAt, cellsAt, findB, setB, Value.cells, hav, delB, eqL, SameI, strOp, ↓reduceIte, Zj, Zk, Nat.reduceAdd, Nat.reduceLT, Nat.reduceEqDiff, Nat.reduceMul, Nat.reduceLeDiff, if_true, Zn, reduceCtorEq, ZA, eq_self, Int.reduceLE, Int.reduceLT, Int.reduceToNat, ne_eq, Nat.reduceSub, Tfld27_0, Tld2, Tld27, Tst35, Tzero35, ↓YR, hl, hm, nb2_b1, n2, en, n31, n32]
        refine callO_lentC (cs := []) (Mr := [(b3, [.int .i64 0, .slice none 0 0]), (b2, [.int .i64 0, .slice none 0 0]), (b1, gc (n : Int) x o)]) (hq v1 M1 hv1) nd1 rfl (fun _ _ => toldW_nil) ?_
        intro r M' hr nd2 _
        obtain ⟨ok, pv, Mq, rfl, ⟨s', rfl, hs'⟩, hsub⟩ := quotP_any hr
        obtain ⟨a', m', c', rfl⟩ := hs'.form
        simp only [List.cons_append, List.nil_append] at nd2 ⊢
        simp (maxSteps := 2000000) (disch := first | (simp only [E4, hl, hm] <;> omega) | omega | fail) only [↓E2, E3, bare, bareJ, ↓E0, E1, evPlan, env0, envN, evOps, evOp, evQs, evQ, evV, setD, pureOp, ev, upd, updL, binW, eqOp, binV, intOp, shOp, boolOp, fieldAddrV, extractV, cellAt, cellsAt, findB, setB, Value.cells, hav, delB, eqL, SameI, strOp, ↓reduceIte, Zj, Zk, Nat.reduceAdd, Nat.reduceLT, Nat.reduceEqDiff, Nat.reduceMul, Nat.reduceLeDiff, if_true, Zn, reduceCtorEq, ZA, eq_self, Int.reduceLE, Int.reduceLT, Int.reduceToNat, ne_eq, Nat.reduceSub, Tfld27_0, Tld2, Tld27, Tst35, Tzero35, ↓YR, hl, hm, nb2_b1, n2]
        repeat refine And.intro (by omega) ?_
        intro g
        simp only [List.map_cons, List.map_nil, updL, upd, Nat.reduceEqDiff, if_true, if_false, ↓reduceIte]
        exact J g b3 _ Mq _ ⟨_, rfl, hs'⟩ ⟨_, _, _, rfl, subP_two hsub⟩
end

end Go.Proofs

/-
  What the functions of this part hand back: each as a plain function of its arguments. Conditions: none.
-/
namespace Go.Proofs
open Go.W8
set_option linter.unusedVariables false
set_option linter.unusedSimpArgs false
set_option linter.unusedSectionVars false
set_option maxRecDepth 8000
set_option maxHeartbeats 4000000
def negTo (l : List Int) (k : Nat) : List Int := (List.range l.length).map fun i => if i < k then 0 - l.getD i 0 else l.getD i 0
theorem negTo_len (l : List Int) (k : Nat) : (negTo l k).length = l.length := by simp [negTo]
theorem negTo_get {l : List Int} {k i : Nat} (h : i < l.length) : (negTo l k).getD i 0 = if i < k then 0 - l.getD i 0 else l.getD i 0 := by
  unfold negTo
  rw [List.getD_eq_getElem?_getD, List.getElem?_map, List.getElem?_range h]; rfl
theorem negTo_zero (l : List Int) : negTo l 0 = l := by
  refine getD_ext0 (negTo_len l 0) fun i hi => ?_
  rw [negTo_len] at hi
  rw [negTo_get hi, if_neg (by omega)]
theorem negTo_full (l : List Int) : negTo l l.length = negL l := by
  refine getD_ext0 (by rw [negTo_len, negL_len]) fun i hi => ?_
  rw [negTo_len] at hi
  rw [negTo_get hi, if_pos hi, negL_get, Int.zero_sub]
theorem negTo_here {l : List Int} {k : Nat} (h : k < l.length) : (negTo l k).getD k 0 = l.getD k 0 := by
  rw [negTo_get h, if_neg (Nat.lt_irrefl _)]
theorem negTo_step {l : List Int} {k : Nat} (h : k < l.length) : (negTo l k).set k (0 - l.getD k 0) = negTo l (k + 1) := by
  refine getD_ext0 (by simp [negTo_len]) fun i hi => ?_
  rw [List.length_set, negTo_len] at hi
  rw [getD_set0 (by rw [negTo_len]; exact h), negTo_get hi, negTo_get hi]
  by_cases e : k = i
  · subst e
    rw [if_pos rfl, if_pos (by omega)]
  · rw [if_neg e]
    by_cases h2 : i < k
    · rw [if_pos h2, if_pos (by omega)]
    · rw [if_neg h2, if_neg (by omega)]
section
variable (n : Nat) (x o : List Int) (hx : Bytes8 x) (ho : Bytes8 o) (hn : n ≤ 8) (hn2 : 2 ≤ n)
include hx ho hn hn2
theorem alexander_c : GivesX Try.prog 17 #[.agg (gc (n : Int) x o).toArray] [] [] (LauV (loL (alL n x o)) (alL n x o)) := by
  have hl := hx.len
  have hm := ho.len
  have hq := fun v L (hv : LauV (detLow n x o) (detL n x o) v L) => iquotient_c (detLow n x o) (detL n x o) v L hv (detL_ok x o hn) (n - 1) (by omega)
  have en : (n : Int) - 1 = ((n - 1 : Nat) : Int) := by omega
  refine GivesX.part ?_
  skip
  refine GivesX.of (callable_of Try.func17 rfl (by decide)) ?_ fun w hnd hlt hR => ?_
  · simp
  refine acall_of (N := 43) (c := _) (rs := [.cell 2 35]) (args := [_]) Try.func17 rfl (by decide) rfl rfl (Nat.le_of_ble_eq_true rfl) ?_
  refine Cd.rs [1, 2] fun K hK => ?_
  simp (maxSteps := 2000000) (disch := first | (simp only [E4, hl, hm] <;> omega) | omega | fail) only [↓E2, E3, bare, bareJ, ↓E0, E1, env0, envN, evOps, evOp, evQs, evQ, evV, setD, pureOp, ev, upd, updL, Value.cells, hav, delB, ↓reduceIte, Zj, Zk, Nat.reduceAdd, Nat.reduceLT, Nat.reduceEqDiff, Nat.reduceMul, Nat.reduceLeDiff, if_true, Zn, reduceCtorEq, ZA, eq_self, Int.reduceLE, Int.reduceLT, Int.reduceToNat, ne_eq, Nat.reduceSub, Tzero35, hl, hm]
  repeat refine And.intro (by omega) ?_
  intro b1 hb1
  intro b2 hb2
  have nb2_b1 := hb2.ne
  try simp (maxSteps := 2000000) (disch := first | (simp only [E4, hl, hm] <;> omega) | omega | fail) only [↓E2, E3, bare, bareJ, ↓E0, E1, env0, envN, evOps, evOp, evQs, evQ, evV, setD, pureOp, ev, upd, updL, Value.cells, hav, delB, ↓reduceIte, Zj, Zk, Nat.reduceAdd, Nat.reduceLT, Nat.reduceEqDiff, Nat.reduceMul, Nat.reduceLeDiff, if_true, Zn, reduceCtorEq, ZA, eq_self, Int.reduceLE, Int.reduceLT, Int.reduceToNat, ne_eq, Nat.reduceSub, Tzero35, hl, hm, nb2_b1]
  repeat refine And.intro (by omega) ?_
  repeat refine And.intro (by omega) ?_
  intro g
  simp only [List.map_cons, List.map_nil, updL, upd, Nat.reduceEqDiff, if_true, if_false, ↓reduceIte]
  refine hK _ _ ?_; clear hK K
  have n2 : ¬ b2 = b1 := hb2.2 (b1, gc (n : Int) x o) (by simp)
  skip
  skip
  refine Cd.ps [2, 3] (Plan.take 0 (Plan.more 1 (Plan.take 2 (Plan.take 3 (Plan.take 4 (Plan.more 5 (Plan.take 6 (Plan.take 7 (Plan.take 8 (Plan.one 9 (Plan.one 10 (Plan.take 11 (Plan.done))))))) (Plan.one 9 (Plan.one 5 (Plan.take 6 (Plan.take 7 (Plan.take 8 (Plan.one 10 (Plan.take 11 (Plan.done)))))))))))) (Plan.more 2 (Plan.more 1 (Plan.take 3 (Plan.take 4 (Plan.more 5 (Plan.take 6 (Plan.take 7 (Plan.take 8 (Plan.one 9 (Plan.one 10 (Plan.take 11 (Plan.done))))))) (Plan.one 9 (Plan.one 5 (Plan.take 6 (Plan.take 7 (Plan.take 8 (Plan.one 10 (Plan.take 11 (Plan.done))))))))))) (Plan.one 9 (Plan.one 1 (Plan.take 3 (Plan.take 4 (Plan.one 5 (Plan.take 6 (Plan.take 7 (Plan.take 8 (Plan.one 10 (Plan.take 11 (Plan.done)))))))))))) (Plan.one 9 (Plan.more 1 (Plan.take 2 (Plan.take 3 (Plan.take 4 (Plan.one 5 (Plan.take 6 (Plan.take 7 (Plan.take 8 (Plan.one 10 (Plan.take 11 (Plan.done)))))))))) (Plan.one 2 (Plan.one 1 (Plan.take 3 (Plan.take 4 (Plan.one 5 (Plan.take 6 (Plan.take 7 (Plan.take 8 (Plan.one 10 (Plan.take 11 (Plan.done)))))))))))))))) fol (by kernel_rfl) (Nat.le_of_ble_eq_true rfl) fun K hK => ?_
  have J : ∀ g b3 pv Mq M, LauV (alQ n x o).1 (alQ n x o).2 pv Mq → (∃ a m c, pv = .agg #[.int .i64 (alQ n x o).1, .slice a m c] ∧ SubP ((b3, [.int .i64 (alQ n x o).1, .slice a m c]) :: (b2, [.int .i64 0, .slice none 0 0]) :: Mq) M) → K (updL [(2, .pointer (some ⟨b2, 0, none⟩)), (3, .pointer (some ⟨b3, 0, none⟩))] g) M := by
    rintro g b3 pv Mq M ⟨s', rfl, hs'⟩ ⟨a, m, c, e, hM⟩
    cases e
    refine hK _ _ ?_
    clear hK K
    refine Cd.sub hM ?_
    clear hM
    have hok := alQ_ok x o hn
    have hln := alL_len n x o
    have hvl : valTo 0 1 (alQ n x o).2 (alQ n x o).2.length = alV n x o := rfl
    have hal : alL n x o = if alV n x o < 0 then negL (alQ n x o).2 else (alQ n x o).2 := rfl
    generalize (alQ n x o).1 = ql at *
    generalize (alQ n x o).2 = qq at *
    obtain rfl := hs'.len1
    have q2 := lauOk_len hok
    have q3 := lauOk_get hok
    refine Cd.nodup fun hnd => ?_
    have n3 : ¬ b3 = b2 := (nodup_cases hnd).1 (b2, [.int .i64 0, .slice none 0 0]) (by simp)
    skip
    skip
    have hrd : RdS (toldOf Mq) 1 (ints .i64 qq) (.slice a qq.length c) := hs'.reads fun p hp => mem_toldOf hp
    obtain ⟨R, hO, hRO⟩ := hs'.toO (W := []) (w0 := w) (l := qq) hnd (fun p hp => by simp [hp])
    refine Cd.rs [2, 3, 5] fun K hK => ?_
    simp (maxSteps := 2000000) (disch := first | (simp only [E4, hl, hm] <;> omega) | omega | fail) only [↓E2, E3, bare, bareJ, ↓E0, E1, env0, envN, evOps, evOp, evQs, evQ, evV, setD, pureOp, ev, upd, updL, fieldAddrV, cellAt, cellsAt, findB, setB, hav, delB, ↓reduceIte, Zj, Zk, Nat.reduceAdd, Nat.reduceLT, Nat.reduceEqDiff, Nat.reduceMul, Nat.reduceLeDiff, if_true, Zn, reduceCtorEq, ZA, eq_self, Int.reduceLE, Int.reduceLT, Int.reduceToNat, ne_eq, Nat.reduceSub, Tfld35_1, Tld31, hl, hm, nb2_b1, n2, n3]
    repeat refine And.intro (by omega) ?_
    refine callK_newR0 (Clone_c qq _ _ hO (by omega)) (HoldsAll.toldW hRO) ?_
    intro v4 M4 hv4 nd4 _
    obtain ⟨a4, m4, c4, rfl⟩ := hv4.form
    obtain rfl := hv4.len1
    simp only [List.cons_append, List.nil_append] at nd4 ⊢
    simp (maxSteps := 2000000) (disch := first | (simp only [E4, hl, hm] <;> omega) | omega | fail) only [↓E2, E3, bare, bareJ, ↓E0, E1, env0, envN, evOps, evOp, evQs, evQ, evV, setD, pureOp, ev, upd, updL, fieldAddrV, cellAt, cellsAt, findB, setB, hav, delB, ↓reduceIte, Zj, Zk, Nat.reduceAdd, Nat.reduceLT, Nat.reduceEqDiff, Nat.reduceMul, Nat.reduceLeDiff, if_true, Zn, reduceCtorEq, ZA, eq_self, Int.reduceLE, Int.reduceLT, Int.reduceToNat, ne_eq, Nat.reduceSub, Tfld35_1, Tld31, hl, hm, nb2_b1, n2, n3]
    repeat refine And.intro (by omega) ?_
    repeat refine And.intro (by omega) ?_
    intro g
    simp only [List.map_cons, List.map_nil, updL, upd, Nat.reduceEqDiff, if_true, if_false, ↓reduceIte]
    refine hK _ _ ?_; clear hK K
    have q4 := lauOk_low hok
    refine Cd.midq (fun ρ M => ∃ g ll M5, ρ = updL [(2, .pointer (some ⟨b2, 0, none⟩)), (5, .slice a4 qq.length c4)] g ∧ ll.length = qq.length ∧ alL n x o = ll ∧ SlN 1 (ints .i64 ll) (.slice a4 qq.length c4) M5 ∧ SubP ((b2, [.int .i64 0, .slice none 0 0]) :: M5) M) ?_ ?_
    · refine Cd.rs [2, 5, 21] fun K hK => ?_
      simp (maxSteps := 2000000) (disch := first | (simp only [E4, hl, hm] <;> omega) | omega | fail) only [↓E2, E3, bare, bareJ, ↓E0, E1, env0, envN, evOps, evOp, evQs, evQ, evV, setD, pureOp, ev, upd, updL, binW, eqOp, binV, intOp, shOp, boolOp, cellAt, cellsAt, findB, setB, hav, delB, eqL, SameI, strOp, ↓reduceIte, Zj, Zk, Nat.reduceAdd, Nat.reduceLT, Nat.reduceEqDiff, Nat.reduceMul, Nat.reduceLeDiff, if_true, Zn, reduceCtorEq, ZA, eq_self, Int.reduceLE, Int.reduceLT, Int.reduceToNat, ne_eq, Nat.reduceSub, Tld35, hl, hm, nb2_b1, n2, n3]
      repeat refine And.intro (by omega) ?_
      refine callK_reads0 (valueAt_c ql 1 qq (toldOf Mq) _ ⟨_, rfl, hrd⟩ (by omega) (by omega) (fun k => by have := q3 k; omega)) (holds_mem nd4 fun p hp => by simp [hp]) ?_
      rw [valTo_one, hvl]
      simp (maxSteps := 2000000) (disch := first | (simp only [E4, hl, hm] <;> omega) | omega | fail) only [↓E2, E3, bare, bareJ, ↓E0, E1, env0, envN, evOps, evOp, evQs, evQ, evV, setD, pureOp, ev, upd, updL, binW, eqOp, binV, intOp, shOp, boolOp, cellAt, cellsAt, findB, setB, hav, delB, eqL, SameI, strOp, ↓reduceIte, Zj, Zk, Nat.reduceAdd, Nat.reduceLT, Nat.reduceEqDiff, Nat.reduceMul, Nat.reduceLeDiff, if_true, Zn, reduceCtorEq, ZA, eq_self, Int.reduceLE, Int.reduceLT, Int.reduceToNat, ne_eq, Nat.reduceSub, Tld35, hl, hm, nb2_b1, n2, n3]
      repeat refine And.intro (by omega) ?_
      repeat refine And.intro (by omega) ?_
      intro g
      simp only [List.map_cons, List.map_nil, updL, upd, Nat.reduceEqDiff, if_true, if_false, ↓reduceIte]
      refine hK _ _ ?_; clear hK K
      have hsub0 : ∀ M5, SubP ((b2, [.int .i64 0, .slice none 0 0]) :: M5) ((b3, [.int .i64 ql, .slice a qq.length c]) :: (b2, [.int .i64 0, .slice none 0 0]) :: (Mq ++ M5)) := fun M5 => SubP.of (List.Sublist.cons _ (List.Sublist.cons_cons _ (List.sublist_append_right _ _)))
      refine Cd.condd rfl (fun h1 => ?_) (fun h1 => ?_)
      · rw [if_pos h1] at hal
        refine Cd.rs [2, 5, 23, 24] fun K hK => ?_
        simp (maxSteps := 2000000) (disch := first | (simp only [E4, hl, hm] <;> omega) | omega | fail) only [↓E2, E3, bare, bareJ, ↓E0, E1, env0, envN, evOps, evOp, evQs, evQ, evV, setD, pureOp, ev, upd, updL, lenV, hav, delB, ↓reduceIte, Zj, Zk, Nat.reduceAdd, Nat.reduceLT, Nat.reduceEqDiff, Nat.reduceMul, Nat.reduceLeDiff, if_true, Zn, reduceCtorEq, ZA, eq_self, Int.reduceLE, Int.reduceLT, Int.reduceToNat, ne_eq, Nat.reduceSub, Tslce31, hl, hm, nb2_b1, n2, n3]
        repeat refine And.intro (by omega) ?_
        repeat refine And.intro (by omega) ?_
        intro g
        simp only [List.map_cons, List.map_nil, updL, upd, Nat.reduceEqDiff, if_true, if_false, ↓reduceIte]
        refine hK _ _ ?_; clear hK K
        refine Cd.block ?_
        refine Cd.loop (fun q ρ M => ∃ g k M5, k + q = qq.length ∧ ρ = updL [(2, .pointer (some ⟨b2, 0, none⟩)), (5, .slice a4 qq.length c4), (23, .int .i64 (qq.length : Int)), (24, .int .i64 (k : Int))] g ∧ SlN 1 (ints .i64 (negTo qq k)) (.slice a4 qq.length c4) M5 ∧ SubP ((b2, [.int .i64 0, .slice none 0 0]) :: M5) M) qq.length
          ⟨_, 0, M4, Nat.zero_add _, rfl, by rw [negTo_zero]; exact hv4, hsub0 M4⟩ ?_
        clear hsub0 nd4 hv4
        rintro q ρ M ⟨g, k, M5, hk, rfl, hs5, hM⟩
        refine Cd.sub hM ?_
        clear hM
        refine Cd.rs [2, 5, 23, 24, 25] fun K hK => ?_
        simp (maxSteps := 2000000) (disch := first | (simp only [E4, hl, hm] <;> omega) | omega | fail) only [↓E2, E3, bare, bareJ, ↓E0, E1, env0, envN, evOps, evOp, evQs, evQ, evV, setD, pureOp, ev, upd, updL, binW, eqOp, binV, intOp, shOp, boolOp, hav, delB, eqL, SameI, strOp, ↓reduceIte, Zj, Zk, Nat.reduceAdd, Nat.reduceLT, Nat.reduceEqDiff, Nat.reduceMul, Nat.reduceLeDiff, if_true, Zn, reduceCtorEq, ZA, eq_self, Int.reduceLE, Int.reduceLT, Int.reduceToNat, ne_eq, Nat.reduceSub, hl, hm, nb2_b1, n2, n3]
        repeat refine And.intro (by omega) ?_
        repeat refine And.intro (by omega) ?_
        intro g
        simp only [List.map_cons, List.map_nil, updL, upd, Nat.reduceEqDiff, if_true, if_false, ↓reduceIte]
        refine hK _ _ ?_; clear hK K
        refine Cd.seq ?_
        refine Cd.condd rfl (fun h2 => ?_) (fun h2 => ?_)
        · rcases hs5 with ⟨e, _, _⟩ | ⟨b, m, cap', cs, e, rfl, hr⟩
          · have := congrArg List.length e
            rw [ints_length, negTo_len] at this
            simp only [List.length_nil] at this
            omega
          cases e
          refine Cd.nodup fun hnd5 => ?_
          have n5 : ¬ b2 = b := (nodup_cases hnd5).1 (b, cs) (by simp)
          have g1 := hr.get (ints_get (k := .i64) (l := negTo qq k) (i := k) (by rw [negTo_len]; omega))
          rw [negTo_here (by omega)] at g1
          have hr1 := hr.set (j := k) (by omega) (.int .i64 (0 - qq.getD k 0))
          rw [ints_set, negTo_step (by omega)] at hr1
          have f1 := hr.fits (k := k + 1) (by omega)
          have q5 := q3 k
          refine Cd.skip ?_
          refine thenN ?_
          refine Cd.seq ?_
          refine Cd.block ?_
          skip
          refine Cd.rs [2, 5, 6, 23, 24] fun K hK => ?_
          simp (maxSteps := 2000000) (disch := first | (simp only [E4, hl, hm, g1, f1] <;> omega) | omega | fail) only [↓E2, E3, bare, bareJ, ↓E0, E1, env0, envN, evOps, evOp, evQs, evQ, evV, setD, pureOp, ev, upd, updL, hav, delB, ↓reduceIte, Zj, Zk, Nat.reduceAdd, Nat.reduceLT, Nat.reduceEqDiff, Nat.reduceMul, Nat.reduceLeDiff, if_true, Zn, reduceCtorEq, ZA, eq_self, Int.reduceLE, Int.reduceLT, Int.reduceToNat, ne_eq, Nat.reduceSub, hl, hm, nb2_b1, n2, n3, n5, g1, f1]
          repeat refine And.intro (by omega) ?_
          repeat refine And.intro (by omega) ?_
          intro g
          simp only [List.map_cons, List.map_nil, updL, upd, Nat.reduceEqDiff, if_true, if_false, ↓reduceIte]
          refine hK _ _ ?_; clear hK K
          refine Cd.rr [2, 5, 23, 24] fun K hK => ?_
          simp (maxSteps := 2000000) (disch := first | (simp only [E4, hl, hm, g1, f1] <;> omega) | omega | fail) only [↓E2, E3, bare, bareJ, ↓E0, E1, env0, envN, evOps, evOp, evQs, evQ, evV, setD, pureOp, ev, upd, updL, unV, indexAddrV, cellAt, cellsAt, findB, setB, Value.cells, hav, delB, ↓reduceIte, Zj, Zk, Nat.reduceAdd, Nat.reduceLT, Nat.reduceEqDiff, Nat.reduceMul, Nat.reduceLeDiff, if_true, Zn, reduceCtorEq, ZA, eq_self, Int.reduceLE, Int.reduceLT, Int.reduceToNat, ne_eq, Nat.reduceSub, Tld2, Tslc31, Tst2, hl, hm, nb2_b1, n2, n3, n5, g1, f1]
          repeat refine And.intro (by omega) ?_
          repeat refine And.intro (by omega) ?_
          intro g
          simp only [List.map_cons, List.map_nil, updL, upd, Nat.reduceEqDiff, if_true, if_false, ↓reduceIte]
          refine hK _ _ ?_; clear hK K
          refine inBN ?_
          refine thenN ?_
          refine Cd.rr [2, 5, 23, 24] fun K hK => ?_
          simp (maxSteps := 2000000) (disch := first | (simp only [E4, hl, hm, g1, f1] <;> omega) | omega | fail) only [↓E2, E3, bare, bareJ, ↓E0, E1, env0, envN, evOps, evOp, evQs, evQ, evV, setD, pureOp, ev, upd, updL, binW, eqOp, binV, intOp, shOp, boolOp, hav, delB, eqL, SameI, strOp, ↓reduceIte, Zj, Zk, Nat.reduceAdd, Nat.reduceLT, Nat.reduceEqDiff, Nat.reduceMul, Nat.reduceLeDiff, if_true, Zn, reduceCtorEq, ZA, eq_self, Int.reduceLE, Int.reduceLT, Int.reduceToNat, ne_eq, Nat.reduceSub, hl, hm, nb2_b1, n2, n3, n5, g1, f1]
          repeat refine And.intro (by omega) ?_
          repeat refine And.intro (by omega) ?_
          intro g
          simp only [List.map_cons, List.map_nil, updL, upd, Nat.reduceEqDiff, if_true, if_false, ↓reduceIte]
          refine hK _ _ ?_; clear hK K
          exact roundN (m := q - 1) (by omega) ⟨_, k + 1, _, by omega, rfl, SlN.row hr1, SubP.refl _⟩
        · obtain rfl : k = qq.length := by omega
          rw [negTo_full] at hs5
          refine Cd.exit (thenX (roundX (inBX ?_)))
          exact midN ⟨_, negL qq, M5, rfl, negL_len _, hal, hs5, SubP.refl _⟩
      · rw [if_neg h1] at hal
        refine Cd.skip ?_
        exact midN ⟨_, qq, M4, rfl, rfl, hal, hv4, hsub0 M4⟩
    · rintro ρ M ⟨g, ll, M5, rfl, hll, hal2, hs5, hM⟩
      refine Cd.sub hM ?_
      have hlw : (0 - ((qq.length : Int) - 1)).tdiv 2 = loL ll := by unfold loL; rw [hll]
      have hlo : -1000 ≤ loL ll ∧ loL ll ≤ 1000 := by
        have h1 := lauOk_low (loL_ok hok)
        have e : loL ll = loL qq := by unfold loL; rw [hll]
        omega
      refine Cd.rs [2] fun K hK => ?_
      simp (maxSteps := 2000000) (disch := first | (simp only [E4, hl, hm, hlw] <;> omega) | omega | fail) only [↓E2, E3, bare, bareJ, ↓E0, E1, evP, env0, envN, evOps, evOp, evQs, evQ, evV, setD, pureOp, ev, upd, updL, binW, eqOp, binV, intOp, shOp, boolOp, unV, cellAt, cellsAt, findB, setB, fillL, buildV, Value.cells, lenV, hav, delB, eqL, SameI, strOp, ↓reduceIte, Zj, Zk, Nat.reduceAdd, Nat.reduceLT, Nat.reduceEqDiff, Nat.reduceMul, Nat.reduceLeDiff, if_true, Zn, reduceCtorEq, ZA, eq_self, Int.reduceLE, Int.reduceLT, Int.reduceToNat, ne_eq, Nat.reduceSub, Tbld35, Tslce31, Tst35, hl, hm, nb2_b1, n2, n3, hlw]
      repeat refine And.intro (by omega) ?_
      repeat refine And.intro (by omega) ?_
      intro g
      simp only [List.map_cons, List.map_nil, updL, upd, Nat.reduceEqDiff, if_true, if_false, ↓reduceIte]
      refine hK _ _ ?_; clear hK K
      refine Cd.ret ?_
      simp (maxSteps := 2000000) (disch := first | (simp only [E4, hl, hm] <;> omega) | omega | fail) only [↓E2, E3, bare, bareJ, ↓E0, E1, evP, evPlan, env0, envN, evOps, evOp, evQs, evQ, evV, setD, pureOp, ev, upd, updL, gate, binW, eqOp, binV, intOp, shOp, boolOp, unV, convV, nilV, fieldAddrV, indexAddrV, extractV, cellAt, cellsAt, findB, setB, fillL, buildV, Value.cells, lenV, minV, maxV, hav, sliceV, loV, hiV, bslQ, mksQ, appQ, partsOk, partsCells, delB, eqL, SameI, strOp, apzQ, cvtQ, capV, ↓reduceIte, Zj, Zk, Nat.reduceAdd, Nat.reduceLT, Nat.reduceEqDiff, Nat.reduceMul, Nat.reduceLeDiff, if_true, Zn, reduceCtorEq, ZA, eq_self, Int.reduceLE, Int.reduceLT, Int.reduceToNat, ne_eq, Nat.reduceSub, Tld35, hl, hm, nb2_b1, n2, n3]
      repeat refine And.intro (by omega) ?_
      rw [hal2]
      exact ⟨M5, SubP.of (List.Sublist.cons _ (List.Sublist.refl _)), _, rfl, hs5⟩
  clear hK
  simp (maxSteps := 2000000) (disch := first | (simp only [E4, hl, hm] <;> omega) | omega | fail) only [↓E2, E3, bare, bareJ, ↓E0, E1, evPlan, env0, envN, evOps, evOp, evQs, evQ, evV, setD, pureOp, ev, upd, updL, binW, eqOp, binV, intOp, shOp, boolOp, extractV, cellAt, cellsAt, findB, setB, Value.cells, hav, delB, eqL, SameI, strOp, ↓reduceIte, Zj, Zk, Nat.reduceAdd, Nat.reduceLT, Nat.reduceEqDiff, Nat.reduceMul, Nat.reduceLeDiff, if_true, Zn, reduceCtorEq, ZA, eq_self, Int.reduceLE, Int.reduceLT, Int.reduceToNat, ne_eq, Nat.reduceSub, Tld27, Tst35, Tzero35, ↓YR, hl, hm, nb2_b1, n2]
  refine moreX_go ?_ ?_
  · simp (maxSteps := 2000000) (disch := first | (simp only [E4, hl, hm, en] <;> omega) | omega | fail) only [↓E2, E3, bare, bareJ, ↓E0, E1, evPlan, env0, envN, evOps, evOp, evQs, evQ, evV, setD, pureOp, ev, upd, updL, binW, eqOp, binV, intOp, shOp, boolOp, extractV, cellAt, cellsAt, findB, setB, Value.cells, hav, delB, eqL, SameI, strOp, ↓reduceIte, Zj, Zk, Nat.reduceAdd, Nat.reduceLT, Nat.reduceEqDiff, Nat.reduceMul, Nat.reduceLeDiff, if_true, Zn, reduceCtorEq, ZA, eq_self, Int.reduceLE, Int.reduceLT, Int.reduceToNat, ne_eq, Nat.reduceSub, Tld27, Tst35, Tzero35, ↓YR, hl, hm, nb2_b1, n2, en]
    refine callO_newR0 (determinant_c n x o hx ho hn hn2) (fun _ _ => toldW_nil) ?_
    intro v1 M1 hv1 nd1 _
    simp only [List.cons_append, List.nil_append] at nd1 ⊢
    simp (maxSteps := 2000000) (disch := first | (simp only [E4, hl, hm, en] <;> omega) | omega | fail) only [↓E2, E3, bare, bareJ, ↓E0, E1, evPlan, env0, envN, evOps, evOp, evQs, evQ, evV, setD, pureOp, ev, upd, updL, binW, eqOp, binV, intOp, shOp, boolOp, extractV, cellAt, cellsAt, findB, setB, Value.cells, hav, delB, eqL, SameI, strOp, ↓reduceIte, Zj, Zk, Nat.reduceAdd, Nat.reduceLT, Nat.reduceEqDiff, Nat.reduceMul, Nat.reduceLeDiff, if_true, Zn, reduceCtorEq, ZA, eq_self, Int.reduceLE, Int.reduceLT, Int.reduceToNat, ne_eq, Nat.reduceSub, Tld27, Tst35, Tzero35, ↓YR, hl, hm, nb2_b1, n2, en]
    refine callP_gives (n_c _ _ _ hl hm) ?_
    simp (maxSteps := 2000000) (disch := first | (simp only [E4, hl, hm, en] <;> omega) | omega | fail) only [↓E2, E3, bare, bareJ, ↓E0, E1, evPlan, env0, envN, evOps, evOp, evQs, evQ, evV, setD, pureOp, ev, upd, updL, binW, eqOp, binV, intOp, shOp, boolOp, extractV, cellAt, cellsAt, findB, setB, Value.cells, hav, delB, eqL, SameI, strOp, ↓reduceIte, Zj, Zk, Nat.reduceAdd, Nat.reduceLT, Nat.reduceEqDiff, Nat.reduceMul, Nat.reduceLeDiff, if_true, Zn, reduceCtorEq, ZA, eq_self, Int.reduceLE, Int.reduceLT, Int.reduceToNat, ne_eq, Nat.reduceSub, Tld27, Tst35, Tzero35, ↓YR, hl, hm, nb2_b1, n2, en]
    refine moreX_go ?_ ?_
    · simp (maxSteps := 2000000) (disch := first | (simp only [E4, hl, hm] <;> omega) | omega | fail) only [↓E2, E3, bare, bareJ, ↓E0, E1, evPlan, env0, envN, evOps, evOp, evQs, evQ, evV, setD, pureOp, ev, upd, updL, binW, eqOp, binV, intOp, shOp, boolOp, extractV, cellAt, cellsAt, findB, setB, Value.cells, hav, delB, eqL, SameI, strOp, ↓reduceIte, Zj, Zk, Nat.reduceAdd, Nat.reduceLT, Nat.reduceEqDiff, Nat.reduceMul, Nat.reduceLeDiff, if_true, Zn, reduceCtorEq, ZA, eq_self, Int.reduceLE, Int.reduceLT, Int.reduceToNat, ne_eq, Nat.reduceSub, Tld27, Tst35, Tzero35, ↓YR, hl, hm, nb2_b1, n2]
      refine callO_lentC (cs := []) (Mr := [(b2, [.int .i64 0, .slice none 0 0]), (b1, gc (n : Int) x o)]) (hq v1 M1 hv1) nd1 rfl (fun _ _ => toldW_nil) ?_
      intro r M' hr nd2 _
      obtain ⟨ok, pv, Mq, rfl, ⟨s', rfl, hs'⟩, hsub⟩ := quotP_any hr
      obtain ⟨a', m', c', rfl⟩ := hs'.form
      simp only [List.cons_append, List.nil_append] at nd2 ⊢
      simp (maxSteps := 2000000) (disch := first | (simp only [E4, hl, hm] <;> omega) | omega | fail) only [↓E2, E3, bare, bareJ, ↓E0, E1, evPlan, env0, envN, evOps, evOp, evQs, evQ, evV, setD, pureOp, ev, upd, updL, binW, eqOp, binV, intOp, shOp, boolOp, extractV, cellAt, cellsAt, findB, setB, Value.cells, hav, delB, eqL, SameI, strOp, ↓reduceIte, Zj, Zk, Nat.reduceAdd, Nat.reduceLT, Nat.reduceEqDiff, Nat.reduceMul, Nat.reduceLeDiff, if_true, Zn, reduceCtorEq, ZA, eq_self, Int.reduceLE, Int.reduceLT, Int.reduceToNat, ne_eq, Nat.reduceSub, Tld27, Tst35, Tzero35, ↓YR, hl, hm, nb2_b1, n2]
      intro b3 hb3
      repeat refine And.intro (by omega) ?_
      intro g
      simp only [List.map_cons, List.map_nil, updL, upd, Nat.reduceEqDiff, if_true, if_false, ↓reduceIte]
      exact J g b3 _ Mq _ ⟨_, rfl, hs'⟩ ⟨_, _, _, rfl, subP_two hsub⟩
    · simp (maxSteps := 2000000) (disch := first | (simp only [E4, hl, hm] <;> omega) | omega | fail) only [↓E2, E3, bare, bareJ, ↓E0, E1, evPlan, env0, envN, evOps, evOp, evQs, evQ, evV, setD, pureOp, ev, upd, updL, binW, eqOp, binV, intOp, shOp, boolOp, extractV, cellAt, cellsAt, findB, setB, Value.cells, hav, delB, eqL, SameI, strOp, ↓reduceIte, Zj, Zk, Nat.reduceAdd, Nat.reduceLT, Nat.reduceEqDiff, Nat.reduceMul, Nat.reduceLeDiff, if_true, Zn, reduceCtorEq, ZA, eq_self, Int.reduceLE, Int.reduceLT, Int.reduceToNat, ne_eq, Nat.reduceSub, Tld27, Tst35, Tzero35, ↓YR, hl, hm, nb2_b1, n2]
      intro b3 hb3
      have nd1 := nodup_new (cs := [.int .i64 0, .slice none 0 0]) hb3 nd1
      try simp only [List.cons_append, List.nil_append] at nd1
      refine callO_lentC (cs := []) (Mr := [(b3, [.int .i64 0, .slice none 0 0]), (b2, [.int .i64 0, .slice none 0 0]), (b1, gc (n : Int) x o)]) (hq v1 M1 hv1) nd1 rfl (fun _ _ => toldW_nil) ?_
      intro r M' hr nd2 _
      obtain ⟨ok, pv, Mq, rfl, ⟨s', rfl, hs'⟩, hsub⟩ := quotP_any hr
      obtain ⟨a', m', c', rfl⟩ := hs'.form
      simp only [List.cons_append, List.nil_append] at nd2 ⊢
      simp (maxSteps := 2000000) (disch := first | (simp only [E4, hl, hm] <;> omega) | omega | fail) only [↓E2, E3, bare, bareJ, ↓E0, E1, evPlan, env0, envN, evOps, evOp, evQs, evQ, evV, setD, pureOp, ev, upd, updL, binW, eqOp, binV, intOp, shOp, boolOp, extractV, cellAt, cellsAt, findB, setB, Value.cells, hav, delB, eqL, SameI, strOp, ↓reduceIte, Zj, Zk, Nat.reduceAdd, Nat.reduceLT, Nat.reduceEqDiff, Nat.reduceMul, Nat.reduceLeDiff, if_true, Zn, reduceCtorEq, ZA, eq_self, Int.reduceLE, Int.reduceLT, Int.reduceToNat, ne_eq, Nat.reduceSub, Tld27, Tst35, Tzero35, ↓YR, hl, hm, nb2_b1, n2]
      repeat refine And.intro (by omega) ?_
      intro g
      simp only [List.map_cons, List.map_nil, updL, upd, Nat.reduceEqDiff, if_true, if_false, ↓reduceIte]
      exact J g b3 _ Mq _ ⟨_, rfl, hs'⟩ ⟨_, _, _, rfl, subP_two hsub⟩
  · refine moreX_go ?_ ?_
    · simp (maxSteps := 2000000) (disch := first | (simp only [E4, hl, hm, en] <;> omega) | omega | fail) only [↓E2, E3, bare, bareJ, ↓E0, E1, evPlan, env0, envN, evOps, evOp, evQs, evQ, evV, setD, pureOp, ev, upd, updL, binW, eqOp, binV, intOp, shOp, boolOp, extractV, cellAt, cellsAt, findB, setB, Value.cells, hav, delB, eqL, SameI, strOp, ↓reduceIte, Zj, Zk, Nat.reduceAdd, Nat.reduceLT, Nat.reduceEqDiff, Nat.reduceMul, Nat.reduceLeDiff, if_true, Zn, reduceCtorEq, ZA, eq_self, Int.reduceLE, Int.reduceLT, Int.reduceToNat, ne_eq, Nat.reduceSub, Tld27, Tst35, Tzero35, ↓YR, hl, hm, nb2_b1, n2, en]
      refine moreX_go ?_ ?_
      · simp (maxSteps := 2000000) (disch := first | (simp only [E4, hl, hm] <;> omega) | omega | fail) only [↓E2, E3, bare, bareJ, ↓E0, E1, evPlan, env0, envN, evOps, evOp, evQs, evQ, evV, setD, pureOp, ev, upd, updL, binW, eqOp, binV, intOp, shOp, boolOp, extractV, cellAt, cellsAt, findB, setB, Value.cells, hav, delB, eqL, SameI, strOp, ↓reduceIte, Zj, Zk, Nat.reduceAdd, Nat.reduceLT, Nat.reduceEqDiff, Nat.reduceMul, Nat.reduceLeDiff, if_true, Zn, reduceCtorEq, ZA, eq_self, Int.reduceLE, Int.reduceLT, Int.reduceToNat, ne_eq, Nat.reduceSub, Tld27, Tst35, Tzero35, ↓YR, hl, hm, nb2_b1, n2]
        refine callO_newR0 (determinant_c n x o hx ho hn hn2) (fun _ _ => toldW_nil) ?_
        intro v1 M1 hv1 nd1 _
        simp only [List.cons_append, List.nil_append] at nd1 ⊢
        simp (maxSteps := 2000000) (disch := first | (simp only [E4, hl, hm, en] <;> omega) | omega | fail) only [↓E2, E3, bare, bareJ, ↓E0, E1, evPlan, env0, envN, evOps, evOp, evQs, evQ, evV, setD, pureOp, ev, upd, updL, binW, eqOp, binV, intOp, shOp, boolOp, extractV, cellAt, cellsAt, findB, setB, Value.cells, hav, delB, eqL, SameI, strOp, ↓reduceIte, Zj, Zk, Nat.reduceAdd, Nat.reduceLT, Nat.reduceEqDiff, Nat.reduceMul, Nat.reduceLeDiff, if_true, Zn, reduceCtorEq, ZA, eq_self, Int.reduceLE, Int.reduceLT, Int.reduceToNat, ne_eq, Nat.reduceSub, Tld27, Tst35, Tzero35, ↓YR, hl, hm, nb2_b1, n2, en]
        refine callP_gives (n_c _ _ _ hl hm) ?_
        simp (maxSteps := 2000000) (disch := first | (simp only [E4, hl, hm, en] <;> omega) | omega | fail) only [↓E2, E3, bare, bareJ, ↓E0, E1, evPlan, env0, envN, evOps, evOp, evQs, evQ, evV, setD, pureOp, ev, upd, updL, binW, eqOp, binV, intOp, shOp, boolOp, extractV, cellAt, cellsAt, findB, setB, Value.cells, hav, delB, eqL, SameI, strOp, ↓reduceIte, Zj, Zk, Nat.reduceAdd, Nat.reduceLT, Nat.reduceEqDiff, Nat.reduceMul, Nat.reduceLeDiff, if_true, Zn, reduceCtorEq, ZA, eq_self, Int.reduceLE, Int.reduceLT, Int.reduceToNat, ne_eq, Nat.reduceSub, Tld27, Tst35, Tzero35, ↓YR, hl, hm, nb2_b1, n2, en]
        refine moreX_go ?_ ?_
        · simp (maxSteps := 2000000) (disch := first | (simp only [E4, hl, hm] <;> omega) | omega | fail) only [↓E2, E3, bare, bareJ, ↓E0, E1, evPlan, env0, envN, evOps, evOp, evQs, evQ, evV, setD, pureOp, ev, upd, updL, binW, eqOp, binV, intOp, shOp, boolOp, extractV, cellAt, cellsAt, findB, setB, Value.cells, hav, delB, eqL, SameI, strOp, ↓reduceIte, Zj, Zk, Nat.reduceAdd, Nat.reduceLT, Nat.reduceEqDiff, Nat.reduceMul, Nat.reduceLeDiff, if_true, Zn, reduceCtorEq, ZA, eq_self, Int.reduceLE, Int.reduceLT, Int.reduceToNat, ne_eq, Nat.reduceSub, Tld27, Tst35, Tzero35, ↓YR, hl, hm, nb2_b1, n2]
          refine callO_lentC (cs := []) (Mr := [(b2, [.int .i64 0, .slice none 0 0]), (b1, gc (n : Int) x o)]) (hq v1 M1 hv1) nd1 rfl (fun _ _ => toldW_nil) ?_
          intro r M' hr nd2 _
          obtain ⟨ok, pv, Mq, rfl, ⟨s', rfl, hs'⟩, hsub⟩ := quotP_any hr
          obtain ⟨a', m', c', rfl⟩ := hs'.form
          simp only [List.cons_append, List.nil_append] at nd2 ⊢
          simp (maxSteps := 2000000) (disch := first | (simp only [E4, hl, hm] <;> omega) | omega | fail) only [↓E2, E3, bare, bareJ, ↓E0, E1, evPlan, env0, envN, evOps, evOp, evQs, evQ, evV, setD, pureOp, ev, upd, updL, binW, eqOp, binV, intOp, shOp, boolOp, extractV, cellAt, cellsAt, findB, setB, Value.cells, hav, delB, eqL, SameI, strOp, ↓reduceIte, Zj, Zk, Nat.reduceAdd, Nat.reduceLT, Nat.reduceEqDiff, Nat.reduceMul, Nat.reduceLeDiff, if_true, Zn, reduceCtorEq, ZA, eq_self, Int.reduceLE, Int.reduceLT, Int.reduceToNat, ne_eq, Nat.reduceSub, Tld27, Tst35, Tzero35, ↓YR, hl, hm, nb2_b1, n2]
          intro b3 hb3
          repeat refine And.intro (by omega) ?_
          intro g
          simp only [List.map_cons, List.map_nil, updL, upd, Nat.reduceEqDiff, if_true, if_false, ↓reduceIte]
          exact J g b3 _ Mq _ ⟨_, rfl, hs'⟩ ⟨_, _, _, rfl, subP_two hsub⟩
        · simp (maxSteps := 2000000) (disch := first | (simp only [E4, hl, hm] <;> omega) | omega | fail) only [↓E2, E3, bare, bareJ, ↓E0, E1, evPlan, env0, envN, evOps, evOp, evQs, evQ, evV, setD, pureOp, ev, upd, updL, binW, eqOp, binV, intOp, shOp, boolOp, extractV, cellAt, cellsAt, findB, setB, Value.cells, hav, delB, eqL, SameI, strOp, ↓reduceIte, Zj, Zk, Nat.reduceAdd, Nat.reduceLT, Nat.reduceEqDiff, Nat.reduceMul, Nat.reduceLeDiff, if_true, Zn, reduceCtorEq, ZA, eq_self, Int.reduceLE, Int.reduceLT, Int.reduceToNat, ne_eq, Nat.reduceSub, Tld27, Tst35, Tzero35, ↓YR, hl, hm, nb2_b1, n2]
          intro b3 hb3
          have nd1 := nodup_new (cs := [.int .i64 0, .slice none 0 0]) hb3 nd1
          try simp only [List.cons_append, List.nil_append] at nd1
          refine callO_lentC (cs := []) (Mr := [(b3, [.int .i64 0, .slice none 0 0]), (b2, [.int .i64 0, .slice none 0 0]), (b1, gc (n : Int) x o)]) (hq v1 M1 hv1) nd1 rfl (fun _ _ => toldW_nil) ?_
          intro r M' hr nd2 _
          obtain ⟨ok, pv, Mq, rfl, ⟨s', rfl, hs'⟩, hsub⟩ := quotP_any hr
          obtain ⟨a', m', c', rfl⟩ := hs'.form
          simp only [List.cons_append, List.nil_append] at nd2 ⊢
          simp (maxSteps := 2000000) (disch := first | (simp only [E4, hl, hm] <;> omega) | omega | fail) only [↓E2, E3, bare, bareJ, ↓E0, E1, evPlan, env0, envN, evOps, evOp, evQs, evQ, evV, setD, pureOp, ev, upd, updL, binW, eqOp, binV, intOp, shOp, boolOp, extractV, cellAt, cellsAt, findB, setB, Value.cells, hav, delB, eqL, SameI, strOp, ↓reduceIte, Zj, Zk, Nat.reduceAdd, Nat.reduceLT, Nat.reduceEqDiff, Nat.reduceMul, Nat.reduceLeDiff, if_true, Zn, reduceCtorEq, ZA, eq_self, Int.reduceLE, Int.reduceLT, Int.reduceToNat, ne_eq, Nat.reduceSub, Tld27, Tst35, Tzero35, ↓YR, hl, hm, nb2_b1, n2]
          repeat refine And.intro (by omega) ?_
          intro g
          simp only [List.map_cons, List.map_nil, updL, upd, Nat.reduceEqDiff, if_true, if_false, ↓reduceIte]
          exact J g b3 _ Mq _ ⟨_, rfl, hs'⟩ ⟨_, _, _, rfl, subP_two hsub⟩
      · simp (maxSteps := 2000000) (disch := first | (simp only [E4, hl, hm] <;> omega) | omega | fail) only [↓E2, E3, bare, bareJ, ↓E0, E1, evPlan, env0, envN, evOps, evOp, evQs, evQ, evV, setD, pureOp, ev, upd, updL, binW, eqOp, binV, intOp, shOp, boolOp, extractV, cellAt, cellsAt, findB, setB, Value.cells, hav, delB, eqL, SameI, strOp, ↓reduceIte, Zj, Zk, Nat.reduceAdd, Nat.reduceLT, Nat.reduceEqDiff, Nat.reduceMul, Nat.reduceLeDiff, if_true, Zn, reduceCtorEq, ZA, eq_self, Int.reduceLE, Int.reduceLT, Int.reduceToNat, ne_eq, Nat.reduceSub, Tld27, Tst35, Tzero35, ↓YR, hl, hm, nb2_b1, n2]
        intro b3 hb3
        have n32 : ¬ b3 = b2 := hb3.2 (b2, [.int .i64 0, .slice none 0 0]) (by simp)
        have n31 : ¬ b3 = b1 := hb3.2 (b1, gc (n : Int) x o) (by simp)
        refine callO_newR0 (determinant_c n x o hx ho hn hn2) (fun _ _ => toldW_nil) ?_
        intro v1 M1 hv1 nd1 _
        simp only [List.cons_append, List.nil_append] at nd1 ⊢
        simp (maxSteps := 2000000) (disch := first | (simp only [E4, hl, hm, en] <;> omega) | omega | fail) only [↓E2, E3, bare, bareJ, ↓E0, E1, evPlan, env0, envN, evOps, evOp, evQs, evQ, evV, setD, pureOp, ev, upd, updL, binW, eqOp, binV, intOp, shOp, boolOp, extractV, cellAt, cellsAt, findB, setB, Value.cells, hav, delB, eqL, SameI, strOp, ↓reduceIte, Zj, Zk, Nat.reduceAdd, Nat.reduceLT, Nat.reduceEqDiff, Nat.reduceMul, Nat.reduceLeDiff, if_true, Zn, reduceCtorEq, ZA, eq_self, Int.reduceLE, Int.reduceLT, Int.reduceToNat, ne_eq, Nat.reduceSub, Tld27, Tst35, Tzero35, ↓YR, hl, hm, nb2_b1, n2, en]
        refine callP_gives (n_c _ _ _ hl hm) ?_
        simp (maxSteps := 2000000) (disch := first | (simp only [E4, hl, hm, en] <;> omega) | omega | fail) only [↓E2, E3, bare, bareJ, ↓E0, E1, evPlan, env0, envN, evOps, evOp, evQs, evQ, evV, setD, pureOp, ev, upd, updL, binW, eqOp, binV, intOp, shOp, boolOp, extractV, cellAt, cellsAt, findB, setB, Value.cells, hav, delB, eqL, SameI, strOp, ↓reduceIte, Zj, Zk, Nat.reduceAdd, Nat.reduceLT, Nat.reduceEqDiff, Nat.reduceMul, Nat.reduceLeDiff, if_true, Zn, reduceCtorEq, ZA, eq_self, Int.reduceLE, Int.reduceLT, Int.reduceToNat, ne_eq, Nat.reduceSub, Tld27, Tst35, Tzero35, ↓YR, hl, hm, nb2_b1, n2, en]
        refine callO_lentC (cs := []) (Mr := [(b3, [.int .i64 0, .slice none 0 0]), (b2, [.int .i64 0, .slice none 0 0]), (b1, gc (n : Int) x o)]) (hq v1 M1 hv1) nd1 rfl (fun _ _ => toldW_nil) ?_
        intro r M' hr nd2 _
        obtain ⟨ok, pv, Mq, rfl, ⟨s', rfl, hs'⟩, hsub⟩ := quotP_any hr
        obtain ⟨a', m', c', rfl⟩ := hs'.form
        simp only [List.cons_append, List.nil_append] at nd2 ⊢
        simp (maxSteps := 2000000) (disch := first | (simp only [E4, hl, hm] <;> omega) | omega | fail) only [↓E2, E3, bare, bareJ, ↓E0, E1, evPlan, env0, envN, evOps, evOp, evQs, evQ, evV, setD, pureOp, ev, upd, updL, binW, eqOp, binV, intOp, shOp, boolOp, extractV, cellAt, cellsAt, findB, setB, Value.cells, hav, delB, eqL, SameI, strOp, ↓reduceIte, Zj, Zk, Nat.reduceAdd, Nat.reduceLT, Nat.reduceEqDiff, Nat.reduceMul, Nat.reduceLeDiff, if_true, Zn, reduceCtorEq, ZA, eq_self, Int.reduceLE, Int.reduceLT, Int.reduceToNat, ne_eq, Nat.reduceSub, Tld27, Tst35, Tzero35, ↓YR, hl, hm, nb2_b1, n2]
        repeat refine And.intro (by omega) ?_
        intro g
        simp only [List.map_cons, List.map_nil, updL, upd, Nat.reduceEqDiff, if_true, if_false, ↓reduceIte]
        exact J g b3 _ Mq _ ⟨_, rfl, hs'⟩ ⟨_, _, _, rfl, subP_two hsub⟩
    · simp (maxSteps := 2000000) (disch := first | (simp only [E4, hl, hm] <;> omega) | omega | fail) only [↓E2, E3, bare, bareJ, ↓E0, E1, evPlan, env0, envN, evOps, evOp, evQs, evQ, evV, setD, pureOp, ev, upd, updL, binW, eqOp, binV, intOp, shOp, boolOp, extractV, cellAt, cellsAt, findB, setB, Value.cells, hav, delB, eqL, SameI, strOp, ↓reduceIte, Zj, Zk, Nat.reduceAdd, Nat.reduceLT, Nat.reduceEqDiff, Nat.reduceMul, Nat.reduceLeDiff, if_true, Zn, reduceCtorEq, ZA, eq_self, Int.reduceLE, Int.reduceLT, Int.reduceToNat, ne_eq, Nat.reduceSub, Tld27, Tst35, Tzero35, ↓YR, hl, hm, nb2_b1, n2]
      intro b3 hb3
      have n32 : ¬ b3 = b2 := hb3.2 (b2, [.int .i64 0, .slice none 0 0]) (by simp)
      have n31 : ¬ b3 = b1 := hb3.2 (b1, gc (n : Int) x o) (by simp)
      refine moreX_go ?_ ?_
      · simp (maxSteps := 2000000) (disch := first | (simp only [E4, hl, hm] <;> omega) | omega | fail) only [↓E2, E3, bare, bareJ, ↓E0, E1, evPlan, env0, envN, evOps, evOp, evQs, evQ, evV, setD, pureOp, ev, upd, updL, binW, eqOp, binV, intOp, shOp, boolOp, extractV, cellAt, cellsAt, findB, setB, Value.cells, hav, delB, eqL, SameI, strOp, ↓reduceIte, Zj, Zk, Nat.reduceAdd, Nat.reduceLT, Nat.reduceEqDiff, Nat.reduceMul, Nat.reduceLeDiff, if_true, Zn, reduceCtorEq, ZA, eq_self, Int.reduceLE, Int.reduceLT, Int.reduceToNat, ne_eq, Nat.reduceSub, Tld27, Tst35, Tzero35, ↓YR, hl, hm, nb2_b1, n2]
        refine callO_newR0 (determinant_c n x o hx ho hn hn2) (fun _ _ => toldW_nil) ?_
        intro v1 M1 hv1 nd1 _
        simp only [List.cons_append, List.nil_append] at nd1 ⊢
        simp (maxSteps := 2000000) (disch := first | (simp only [E4, hl, hm, en] <;> omega) | omega | fail) only [↓E2, E3, bare, bareJ, ↓E0, E1, evPlan, env0, envN, evOps, evOp, evQs, evQ, evV, setD, pureOp, ev, upd, updL, binW, eqOp, binV, intOp, shOp, boolOp, extractV, cellAt, cellsAt, findB, setB, Value.cells, hav, delB, eqL, SameI, strOp, ↓reduceIte, Zj, Zk, Nat.reduceAdd, Nat.reduceLT, Nat.reduceEqDiff, Nat.reduceMul, Nat.reduceLeDiff, if_true, Zn, reduceCtorEq, ZA, eq_self, Int.reduceLE, Int.reduceLT, Int.reduceToNat, ne_eq, Nat.reduceSub, Tld27, Tst35, Tzero35, ↓YR, hl, hm, nb2_b1, n2, en, n31, n32]
        refine callP_gives (n_c _ _ _ hl hm) ?_
        simp (maxSteps := 2000000) (disch := first | (simp only [E4, hl, hm, en] <;> omega) | omega | fail) only [↓E2, E3, bare, bareJ, ↓E0, E1, evPlan, env0, envN, evOps, evOp, evQs, evQ, evV, setD, pureOp, ev, upd, updL, binW, eqOp, binV, intOp, shOp, boolOp, extractV, cellAt, cellsAt, findB, setB, Value.cells, hav, delB, eqL, SameI, strOp, ↓reduceIte, Zj, Zk, Nat.reduceAdd, Nat.reduceLT, Nat.reduceEqDiff, Nat.reduceMul, Nat.reduceLeDiff, if_true, Zn, reduceCtorEq, ZA, eq_self, Int.reduceLE, Int.reduceLT, Int.reduceToNat, ne_eq, Nat.reduceSub, Tld27, Tst35, Tzero35, ↓YR, hl, hm, nb2_b1, n2, en]
        refine callO_lentC (cs := []) (Mr := [(b3, [.int .i64 0, .slice none 0 0]), (b2, [.int .i64 0, .slice none 0 0]), (b1, gc (n : Int) x o)]) (hq v1 M1 hv1) nd1 rfl (fun _ _ => toldW_nil) ?_
        intro r M' hr nd2 _
        obtain ⟨ok, pv, Mq, rfl, ⟨s', rfl, hs'⟩, hsub⟩ := quotP_any hr
        obtain ⟨a', m', c', rfl⟩ := hs'.form
        simp only [List.cons_append, List.nil_append] at nd2 ⊢
        simp (maxSteps := 2000000) (disch := first | (simp only [E4, hl, hm] <;> omega) | omega | fail) only [↓E2, E3, bare, bareJ, ↓E0, E1, evPlan, env0, envN, evOps, evOp, evQs, evQ, evV, setD, pureOp, ev, upd, updL, binW, eqOp, binV, intOp, shOp, boolOp, extractV, cellAt, cellsAt, findB, setB, Value.cells, hav, delB, eqL, SameI, strOp, ↓reduceIte, Zj, Zk, Nat.reduceAdd, Nat.reduceLT, Nat.reduceEqDiff, Nat.reduceMul, Nat.reduceLeDiff, if_true, Zn, reduceCtorEq, ZA, eq_self, Int.reduceLE, Int.reduceLT, Int.reduceToNat, ne_eq, Nat.reduceSub, Tld27, Tst35, Tzero35, ↓YR, hl, hm, nb2_b1, n2]
        repeat refine And.intro (by omega) ?_
        intro g
        simp only [List.map_cons, List.map_nil, updL, upd, Nat.reduceEqDiff, if_true, if_false, ↓reduceIte]
        exact J g b3 _ Mq _ ⟨_, rfl, hs'⟩ ⟨_, _, _, rfl, subP_two hsub⟩
      · simp (maxSteps := 2000000) (disch := first | (simp only [E4, hl, hm, en] <;> omega) | omega | fail) only [↓E2, E3, bare, bareJ, ↓E0, E1, evPlan, env0, envN, evOps, evOp, evQs, evQ, evV, setD, pureOp, ev, upd, updL, binW, eqOp, binV, intOp, shOp, boolOp, extractV, cellAt, cellsAt, findB, setB, Value.cells, hav, delB, eqL, SameI, strOp, ↓reduceIte, Zj, Zk, Nat.reduceAdd, Nat.reduceLT, Nat.reduceEqDiff, Nat.reduceMul, Nat.reduceLeDiff, if_true, Zn, reduceCtorEq, ZA, eq_self, Int.reduceLE, Int.reduceLT, Int.reduceToNat, ne_eq, Nat.reduceSub, Tld27, Tst35, Tzero35, ↓YR, hl, hm, nb2_b1, n2, en, n31, n32]
        refine callO_newR0 (determinant_c n x o hx ho hn hn2) (fun _ _ => toldW_nil) ?_
        intro v1 M1 hv1 nd1 _
        simp only [List.cons_append, List.nil_append] at nd1 ⊢
        simp (maxSteps := 2000000) (disch := first | (simp only [E4, hl, hm, en] <;> omega) | omega | fail) only [↓E2, E3, bare, bareJ, ↓E0, E1, evPlan, env0, envN, evOps, evOp, evQs, evQ, evV, setD, pureOp, ev, upd, updL, binW, eqOp, binV, intOp, shOp, boolOp, extractV, cellAt, cellsAt, findB, setB, Value.cells, hav, delB, eqL, SameI, strOp, ↓reduceIte, Zj, Zk, Nat.reduceAdd, Nat.reduceLT, Nat.reduceEqDiff, Nat.reduceMul, Nat.reduceLeDiff, if_true, Zn, reduceCtorEq, ZA, eq_self, Int.reduceLE, Int.reduceLT, Int.reduceToNat, ne_eq, Nat.reduceSub, Tld27, Tst35, Tzero35, ↓YR, hl, hm, nb2_b1, n2, en]
        refine callP_gives (n_c _ _ _ hl hm) ?_
        simp (maxSteps := 2000000) (disch := first | (simp only [E4, hl, hm, en] <;> omega) | omega | fail) only [↓E2, E3, bare, bareJ, ↓E0, E1, evPlan, env0, envN, evOps, evOp, evQs, evQ, evV, setD, pureOp, ev, upd, updL, binW, eqOp, binV, intOp, shOp, boolOp, extractV, cellAt, cellsAt, findB, setB, Value.cells, hav, delB, eqL, SameI, strOp, ↓reduceIte, Zj, Zk, Nat.reduceAdd, Nat.reduceLT, Nat.reduceEqDiff, Nat.reduceMul, Nat.reduceLeDiff, if_true, Zn, reduceCtorEq, ZA, eq_self, Int.reduceLE, Int.reduceLT, Int.reduceToNat, ne_eq, Nat.reduceSub, Tld27, Tst35, Tzero35, ↓YR, hl, hm, nb2_b1, n2, en]
        refine callO_lentC (cs := []) (Mr := [(b3, [.int .i64 0, .slice none 0 0]), (b2, [.int .i64 0, .slice none 0 0]), (b1, gc (n : Int) x o)]) (hq v1 M1 hv1) nd1 rfl (fun _ _ => toldW_nil) ?_
        intro r M' hr nd2 _
        obtain ⟨ok, pv, Mq, rfl, ⟨s', rfl, hs'⟩, hsub⟩ := quotP_any hr
        obtain ⟨a', m', c', rfl⟩ := hs'.form
        simp only [List.cons_append, List.nil_append] at nd2 ⊢
        simp (maxSteps := 2000000) (disch := first | (simp only [E4, hl, hm] <;> omega) | omega | fail) only [↓E2, E3, bare, bareJ, ↓E0, E1, evPlan, env0, envN, evOps, evOp, evQs, evQ, evV, setD, pureOp, ev, upd, updL, binW, eqOp, binV, intOp, shOp, boolOp, extractV, cellAt, cellsAt, findB, setB, Value.cells, hav, delB, eqL, SameI, strOp, ↓reduceIte, Zj, Zk, Nat.reduceAdd, Nat.reduceLT, Nat.reduceEqDiff, Nat.reduceMul, Nat.reduceLeDiff, if_true, Zn, reduceCtorEq, ZA, eq_self, Int.reduceLE, Int.reduceLT, Int.reduceToNat, ne_eq, Nat.reduceSub, Tld27, Tst35, Tzero35, ↓YR, hl, hm, nb2_b1, n2]
        repeat refine And.intro (by omega) ?_
        intro g
        simp only [List.map_cons, List.map_nil, updL, upd, Nat.reduceEqDiff, if_true, if_false, ↓reduceIte]
        exact J g b3 _ Mq _ ⟨_, rfl, hs'⟩ ⟨_, _, _, rfl, subP_two hsub⟩
end

end Go.Proofs

/-
  What the functions of this part hand back: each as a plain function of its arguments. Conditions: none.
-/
namespace Go.Proofs
open Go.W8
set_option linter.unusedVariables false
set_option linter.unusedSimpArgs false
set_option linter.unusedSectionVars false
set_option maxRecDepth 8000
set_option maxHeartbeats 4000000
def knotC (s : Int) (x o : List Int) : Int := if gridB s x o then if knotB s x o then 0 else 5 else 1
theorem knotC_zero {s : Int} {x o : List Int} : knotC s x o = 0 ↔ gridB s x o = true ∧ knotB s x o = true := by
  unfold knotC
  split
  · split
    · simp_all
    · simp_all
  · simp_all
def alAns (s : Int) (x o : List Int) : Int × List Int × Int := if knotC s x o = 0 then (loL (alL s.toNat x o), alL s.toNat x o, 0) else (0, [], knotC s x o)
def alDet (s : Int) (x o : List Int) : Int := valTo 0 (-1) (alL s.toNat x o) (alL s.toNat x o).length
theorem alL_ok {n : Nat} (x o : List Int) (hn : n ≤ 8) : lauOk (loL (alL n x o)) (alL n x o) = true := by
  have hok := alQ_ok x o hn
  unfold alL
  split
  · have := loL_ok (negL_ok hok)
    exact this
  · exact loL_ok hok
section
variable (s : Int) (x o : List Int) (hx : Bytes8 x) (ho : Bytes8 o)
include hx ho
theorem l04Knot_c : Gives Try.prog 10 #[.agg (gc s x o).toArray] (.int .i64 (knotC s x o)) := by
  have hl := hx.len
  have hm := ho.len
  skip
  refine Gives.of fun w => ?_
  refine acall_of (N := 15) (c := _) (rs := [.tmp 2]) (args := [_]) Try.func10 rfl (by decide) rfl rfl (Nat.le_of_ble_eq_true rfl) ?_
  refine Cd.rs [1] fun K hK => ?_
  simp (maxSteps := 2000000) (disch := first | (simp only [E4, hl, hm] <;> omega) | omega | fail) only [↓E2, E3, bare, bareJ, ↓E0, E1, env0, envN, evOps, evOp, evQs, evQ, evV, setD, pureOp, ev, upd, updL, Value.cells, hav, delB, ↓reduceIte, Zj, Zk, Nat.reduceAdd, Nat.reduceLT, Nat.reduceEqDiff, Nat.reduceMul, Nat.reduceLeDiff, if_true, Zn, reduceCtorEq, ZA, eq_self, Int.reduceLE, Int.reduceLT, Int.reduceToNat, ne_eq, Nat.reduceSub, hl, hm]
  repeat refine And.intro (by omega) ?_
  intro b1 hb1
  try simp (maxSteps := 2000000) (disch := first | (simp only [E4, hl, hm] <;> omega) | omega | fail) only [↓E2, E3, bare, bareJ, ↓E0, E1, env0, envN, evOps, evOp, evQs, evQ, evV, setD, pureOp, ev, upd, updL, Value.cells, hav, delB, ↓reduceIte, Zj, Zk, Nat.reduceAdd, Nat.reduceLT, Nat.reduceEqDiff, Nat.reduceMul, Nat.reduceLeDiff, if_true, Zn, reduceCtorEq, ZA, eq_self, Int.reduceLE, Int.reduceLT, Int.reduceToNat, ne_eq, Nat.reduceSub, hl, hm]
  repeat refine And.intro (by omega) ?_
  repeat refine And.intro (by omega) ?_
  intro g
  simp only [List.map_cons, List.map_nil, updL, upd, Nat.reduceEqDiff, if_true, if_false, ↓reduceIte]
  refine hK _ _ ?_; clear hK K
  refine Cd.seq ?_
  refine Cd.rs [1, 7] fun K hK => ?_
  simp (maxSteps := 2000000) (disch := first | (simp only [E4, hl, hm] <;> omega) | omega | fail) only [↓E2, E3, bare, bareJ, ↓E0, E1, env0, envN, evOps, evOp, evQs, evQ, evV, setD, pureOp, ev, upd, updL, unV, cellAt, cellsAt, findB, setB, hav, delB, ↓reduceIte, Zj, Zk, Nat.reduceAdd, Nat.reduceLT, Nat.reduceEqDiff, Nat.reduceMul, Nat.reduceLeDiff, if_true, Zn, reduceCtorEq, ZA, eq_self, Int.reduceLE, Int.reduceLT, Int.reduceToNat, ne_eq, Nat.reduceSub, Tld27, hl, hm]
  repeat refine And.intro (by omega) ?_
  refine callK_gives (l01Is_c _ _ _ hx ho) ?_
  simp (maxSteps := 2000000) (disch := first | (simp only [E4, hl, hm] <;> omega) | omega | fail) only [↓E2, E3, bare, bareJ, ↓E0, E1, env0, envN, evOps, evOp, evQs, evQ, evV, setD, pureOp, ev, upd, updL, unV, cellAt, cellsAt, findB, setB, hav, delB, ↓reduceIte, Zj, Zk, Nat.reduceAdd, Nat.reduceLT, Nat.reduceEqDiff, Nat.reduceMul, Nat.reduceLeDiff, if_true, Zn, reduceCtorEq, ZA, eq_self, Int.reduceLE, Int.reduceLT, Int.reduceToNat, ne_eq, Nat.reduceSub, Tld27, hl, hm]
  repeat refine And.intro (by omega) ?_
  repeat refine And.intro (by omega) ?_
  intro g
  simp only [List.map_cons, List.map_nil, updL, upd, Nat.reduceEqDiff, if_true, if_false, ↓reduceIte]
  refine hK _ _ ?_; clear hK K
  refine Cd.cond rfl (fun h1 => ?_) (fun h1 => ?_)
  · refine Cd.rs [2] fun K hK => ?_
    simp (maxSteps := 2000000) (disch := first | (simp only [E4, hl, hm] <;> omega) | omega | fail) only [↓E2, E3, bare, bareJ, ↓E0, E1, env0, envN, evOps, evOp, evQs, evQ, evV, setD, pureOp, ev, upd, updL, hav, delB, ↓reduceIte, Zj, Zk, Nat.reduceAdd, Nat.reduceLT, Nat.reduceEqDiff, Nat.reduceMul, Nat.reduceLeDiff, if_true, Zn, reduceCtorEq, ZA, eq_self, Int.reduceLE, Int.reduceLT, Int.reduceToNat, ne_eq, Nat.reduceSub, hl, hm]
    repeat refine And.intro (by omega) ?_
    repeat refine And.intro (by omega) ?_
    intro g
    simp only [List.map_cons, List.map_nil, updL, upd, Nat.reduceEqDiff, if_true, if_false, ↓reduceIte]
    refine hK _ _ ?_; clear hK K
    refine Cd.ret (thenR ?_)
    simp (maxSteps := 2000000) (disch := first | (simp only [E4, hl, hm] <;> omega) | omega | fail) only [↓E2, E3, bare, bareJ, ↓E0, E1, evP, evPlan, env0, envN, evOps, evOp, evQs, evQ, evV, setD, pureOp, ev, upd, updL, gate, binW, eqOp, binV, intOp, shOp, boolOp, unV, convV, nilV, fieldAddrV, indexAddrV, extractV, cellAt, cellsAt, findB, setB, fillL, buildV, Value.cells, lenV, minV, maxV, hav, sliceV, loV, hiV, bslQ, mksQ, appQ, partsOk, partsCells, delB, eqL, SameI, strOp, apzQ, cvtQ, capV, ↓reduceIte, Zj, Zk, Nat.reduceAdd, Nat.reduceLT, Nat.reduceEqDiff, Nat.reduceMul, Nat.reduceLeDiff, if_true, Zn, reduceCtorEq, ZA, eq_self, Int.reduceLE, Int.reduceLT, Int.reduceToNat, ne_eq, Nat.reduceSub, hl, hm]
    repeat refine And.intro (by omega) ?_
    unfold knotC
    rw [if_neg (by simpa using h1)]
  · have hg : gridB s x o = true := by simpa using h1
    unfold knotC knotB
    rw [if_pos hg]
    obtain ⟨n, rfl, hn2, hn, px, po⟩ := gridB_perm hg
    rw [Int.toNat_natCast]
    have cl : (comps n x o).1.length = 8 := compTo_len _ _
    skip
    refine Cd.skip ?_
    refine thenN ?_
    refine Cd.seq ?_
    refine Cd.rs [4] fun K hK => ?_
    simp (maxSteps := 2000000) (disch := first | (simp only [E4, hl, hm, cl] <;> omega) | omega | fail) only [↓E2, E3, bare, bareJ, ↓E0, E1, env0, envN, evOps, evOp, evQs, evQ, evV, setD, pureOp, ev, upd, updL, extractV, cellAt, cellsAt, findB, setB, Value.cells, hav, delB, ↓reduceIte, Zj, Zk, Nat.reduceAdd, Nat.reduceLT, Nat.reduceEqDiff, Nat.reduceMul, Nat.reduceLeDiff, if_true, Zn, reduceCtorEq, ZA, eq_self, Int.reduceLE, Int.reduceLT, Int.reduceToNat, ne_eq, Nat.reduceSub, Tld27, Tst44, Tzero44, hl, hm, cl]
    repeat refine And.intro (by omega) ?_
    refine callK_gives (l01Components_c n x o hx ho hn px po) ?_
    simp (maxSteps := 2000000) (disch := first | (simp only [E4, hl, hm, cl] <;> omega) | omega | fail) only [↓E2, E3, bare, bareJ, ↓E0, E1, env0, envN, evOps, evOp, evQs, evQ, evV, setD, pureOp, ev, upd, updL, extractV, cellAt, cellsAt, findB, setB, Value.cells, hav, delB, ↓reduceIte, Zj, Zk, Nat.reduceAdd, Nat.reduceLT, Nat.reduceEqDiff, Nat.reduceMul, Nat.reduceLeDiff, if_true, Zn, reduceCtorEq, ZA, eq_self, Int.reduceLE, Int.reduceLT, Int.reduceToNat, ne_eq, Nat.reduceSub, Tld27, Tst44, Tzero44, hl, hm, cl]
    repeat refine And.intro (by omega) ?_
    intro b2 hb2
    have nb2_b1 := hb2.ne
    try simp (maxSteps := 2000000) (disch := first | (simp only [E4, hl, hm, cl] <;> omega) | omega | fail) only [↓E2, E3, bare, bareJ, ↓E0, E1, env0, envN, evOps, evOp, evQs, evQ, evV, setD, pureOp, ev, upd, updL, extractV, cellAt, cellsAt, findB, setB, Value.cells, hav, delB, ↓reduceIte, Zj, Zk, Nat.reduceAdd, Nat.reduceLT, Nat.reduceEqDiff, Nat.reduceMul, Nat.reduceLeDiff, if_true, Zn, reduceCtorEq, ZA, eq_self, Int.reduceLE, Int.reduceLT, Int.reduceToNat, ne_eq, Nat.reduceSub, Tld27, Tst44, Tzero44, hl, hm, cl, nb2_b1]
    repeat refine And.intro (by omega) ?_
    repeat refine And.intro (by omega) ?_
    intro g
    simp only [List.map_cons, List.map_nil, updL, upd, Nat.reduceEqDiff, if_true, if_false, ↓reduceIte]
    refine hK _ _ ?_; clear hK K
    refine Cd.rs [14] fun K hK => ?_
    simp (maxSteps := 2000000) (disch := first | (simp only [E4, hl, hm, cl] <;> omega) | omega | fail) only [↓E2, E3, bare, bareJ, ↓E0, E1, env0, envN, evOps, evOp, evQs, evQ, evV, setD, pureOp, ev, upd, updL, binW, eqOp, binV, intOp, shOp, boolOp, hav, delB, eqL, SameI, strOp, ↓reduceIte, Zj, Zk, Nat.reduceAdd, Nat.reduceLT, Nat.reduceEqDiff, Nat.reduceMul, Nat.reduceLeDiff, if_true, Zn, reduceCtorEq, ZA, eq_self, Int.reduceLE, Int.reduceLT, Int.reduceToNat, ne_eq, Nat.reduceSub, hl, hm, cl, nb2_b1]
    repeat refine And.intro (by omega) ?_
    repeat refine And.intro (by omega) ?_
    intro g
    simp only [List.map_cons, List.map_nil, updL, upd, Nat.reduceEqDiff, if_true, if_false, ↓reduceIte]
    refine hK _ _ ?_; clear hK K
    refine Cd.cond rfl (fun h2 => ?_) (fun h2 => ?_)
    · simp only [decide_eq_true_eq, decide_eq_false_iff_not, beq_iff_eq, beq_eq_false_iff_ne, bne_iff_ne, bne_eq_false_iff_eq, Bool.and_eq_true, Bool.or_eq_true, Bool.or_eq_false_iff, Bool.not_eq_true', Bool.not_eq_false', Bool.and_eq_false_imp, ne_eq, gt_iff_lt, ge_iff_le, Int.not_lt, Int.not_le, Classical.not_not] at h2
      refine Cd.rs [2] fun K hK => ?_
      simp (maxSteps := 2000000) (disch := first | (simp only [E4, hl, hm, cl] <;> omega) | omega | fail) only [↓E2, E3, bare, bareJ, ↓E0, E1, env0, envN, evOps, evOp, evQs, evQ, evV, setD, pureOp, ev, upd, updL, hav, delB, ↓reduceIte, Zj, Zk, Nat.reduceAdd, Nat.reduceLT, Nat.reduceEqDiff, Nat.reduceMul, Nat.reduceLeDiff, if_true, Zn, reduceCtorEq, ZA, eq_self, Int.reduceLE, Int.reduceLT, Int.reduceToNat, ne_eq, Nat.reduceSub, hl, hm, cl, nb2_b1]
      repeat refine And.intro (by omega) ?_
      repeat refine And.intro (by omega) ?_
      intro g
      simp only [List.map_cons, List.map_nil, updL, upd, Nat.reduceEqDiff, if_true, if_false, ↓reduceIte]
      refine hK _ _ ?_; clear hK K
      refine Cd.ret (thenR ?_)
      simp (maxSteps := 2000000) (disch := first | (simp only [E4, hl, hm, cl] <;> omega) | omega | fail) only [↓E2, E3, bare, bareJ, ↓E0, E1, evP, evPlan, env0, envN, evOps, evOp, evQs, evQ, evV, setD, pureOp, ev, upd, updL, gate, binW, eqOp, binV, intOp, shOp, boolOp, unV, convV, nilV, fieldAddrV, indexAddrV, extractV, cellAt, cellsAt, findB, setB, fillL, buildV, Value.cells, lenV, minV, maxV, hav, sliceV, loV, hiV, bslQ, mksQ, appQ, partsOk, partsCells, delB, eqL, SameI, strOp, apzQ, cvtQ, capV, ↓reduceIte, Zj, Zk, Nat.reduceAdd, Nat.reduceLT, Nat.reduceEqDiff, Nat.reduceMul, Nat.reduceLeDiff, if_true, Zn, reduceCtorEq, ZA, eq_self, Int.reduceLE, Int.reduceLT, Int.reduceToNat, ne_eq, Nat.reduceSub, hl, hm, cl, nb2_b1]
      repeat refine And.intro (by omega) ?_
      rw [if_neg (by rw [beq_iff_eq]; omega)]
    · simp only [decide_eq_true_eq, decide_eq_false_iff_not, beq_iff_eq, beq_eq_false_iff_ne, bne_iff_ne, bne_eq_false_iff_eq, Bool.and_eq_true, Bool.or_eq_true, Bool.or_eq_false_iff, Bool.not_eq_true', Bool.not_eq_false', Bool.and_eq_false_imp, ne_eq, gt_iff_lt, ge_iff_le, Int.not_lt, Int.not_le, Classical.not_not] at h2
      refine Cd.skip ?_
      refine thenN ?_
      refine Cd.rs [2] fun K hK => ?_
      simp (maxSteps := 2000000) (disch := first | (simp only [E4, hl, hm, cl] <;> omega) | omega | fail) only [↓E2, E3, bare, bareJ, ↓E0, E1, env0, envN, evOps, evOp, evQs, evQ, evV, setD, pureOp, ev, upd, updL, hav, delB, ↓reduceIte, Zj, Zk, Nat.reduceAdd, Nat.reduceLT, Nat.reduceEqDiff, Nat.reduceMul, Nat.reduceLeDiff, if_true, Zn, reduceCtorEq, ZA, eq_self, Int.reduceLE, Int.reduceLT, Int.reduceToNat, ne_eq, Nat.reduceSub, hl, hm, cl, nb2_b1]
      repeat refine And.intro (by omega) ?_
      repeat refine And.intro (by omega) ?_
      intro g
      simp only [List.map_cons, List.map_nil, updL, upd, Nat.reduceEqDiff, if_true, if_false, ↓reduceIte]
      refine hK _ _ ?_; clear hK K
      refine Cd.ret ?_
      simp (maxSteps := 2000000) (disch := first | (simp only [E4, hl, hm, cl] <;> omega) | omega | fail) only [↓E2, E3, bare, bareJ, ↓E0, E1, evP, evPlan, env0, envN, evOps, evOp, evQs, evQ, evV, setD, pureOp, ev, upd, updL, gate, binW, eqOp, binV, intOp, shOp, boolOp, unV, convV, nilV, fieldAddrV, indexAddrV, extractV, cellAt, cellsAt, findB, setB, fillL, buildV, Value.cells, lenV, minV, maxV, hav, sliceV, loV, hiV, bslQ, mksQ, appQ, partsOk, partsCells, delB, eqL, SameI, strOp, apzQ, cvtQ, capV, ↓reduceIte, Zj, Zk, Nat.reduceAdd, Nat.reduceLT, Nat.reduceEqDiff, Nat.reduceMul, Nat.reduceLeDiff, if_true, Zn, reduceCtorEq, ZA, eq_self, Int.reduceLE, Int.reduceLT, Int.reduceToNat, ne_eq, Nat.reduceSub, hl, hm, cl, nb2_b1]
      repeat refine And.intro (by omega) ?_
      rw [if_pos (by rw [beq_iff_eq]; omega)]
end

end Go.Proofs

/-
  What the functions of this part hand back: each as a plain function of its arguments. Conditions: none.
-/
namespace Go.Proofs
open Go.W8
set_option linter.unusedVariables false
set_option linter.unusedSimpArgs false
set_option linter.unusedSectionVars false
set_option maxRecDepth 8000
set_option maxHeartbeats 4000000
def alVal (n : Nat) (x o : List Int) : Int := valTo (loL (alL n x o)) (-1) (alL n x o) (alL n x o).length
def mxN (d : Int) : Int := if 0 - d > d then 0 - d else d
def knotI (s : Int) (x o : List Int) (v : Int) : Value := .tuple #[.int .i64 (if knotC s x o = 0 then v else 0), .int .i64 (knotC s x o)]
theorem knotI_yes {s : Int} {x o : List Int} {v : Int} (h : knotC s x o = 0) : knotI s x o v = .tuple #[.int .i64 v, .int .i64 0] := by
  unfold knotI; rw [if_pos h, h]
theorem knotI_no {s : Int} {x o : List Int} {v : Int} (h : ¬ knotC s x o = 0) : knotI s x o v = .tuple #[.int .i64 0, .int .i64 (knotC s x o)] := by
  unfold knotI; rw [if_neg h]
section
variable (s : Int) (x o : List Int) (hx : Bytes8 x) (ho : Bytes8 o)
include hx ho
theorem knottedInt_c (n : Nat) (v : Int) (h : knotC s x o = 0 → Gives Try.prog n #[.agg (gc s x o).toArray] (.int .i64 v)) :
    Gives Try.prog 14 #[.agg (gc s x o).toArray, .func (.func n) #[] #[]] (knotI s x o v) := by
  have hl := hx.len
  have hm := ho.len
  skip
  refine Gives.of fun w => ?_
  refine acall_of (N := 20) (c := _) (rs := [.tmp 4, .tmp 5]) (args := [_, _]) Try.func14 rfl (by decide) rfl rfl (Nat.le_of_ble_eq_true rfl) ?_
  refine Cd.rs [1, 2] fun K hK => ?_
  simp (maxSteps := 2000000) (disch := first | (simp only [E4, hl, hm] <;> omega) | omega | fail) only [↓E2, E3, bare, bareJ, ↓E0, E1, env0, envN, evOps, evOp, evQs, evQ, evV, setD, pureOp, ev, upd, updL, Value.cells, hav, delB, ↓reduceIte, Zj, Zk, Nat.reduceAdd, Nat.reduceLT, Nat.reduceEqDiff, Nat.reduceMul, Nat.reduceLeDiff, if_true, Zn, reduceCtorEq, ZA, eq_self, Int.reduceLE, Int.reduceLT, Int.reduceToNat, ne_eq, Nat.reduceSub, hl, hm]
  repeat refine And.intro (by omega) ?_
  intro b1 hb1
  try simp (maxSteps := 2000000) (disch := first | (simp only [E4, hl, hm] <;> omega) | omega | fail) only [↓E2, E3, bare, bareJ, ↓E0, E1, env0, envN, evOps, evOp, evQs, evQ, evV, setD, pureOp, ev, upd, updL, Value.cells, hav, delB, ↓reduceIte, Zj, Zk, Nat.reduceAdd, Nat.reduceLT, Nat.reduceEqDiff, Nat.reduceMul, Nat.reduceLeDiff, if_true, Zn, reduceCtorEq, ZA, eq_self, Int.reduceLE, Int.reduceLT, Int.reduceToNat, ne_eq, Nat.reduceSub, hl, hm]
  repeat refine And.intro (by omega) ?_
  repeat refine And.intro (by omega) ?_
  intro g
  simp only [List.map_cons, List.map_nil, updL, upd, Nat.reduceEqDiff, if_true, if_false, ↓reduceIte]
  refine hK _ _ ?_; clear hK K
  refine Cd.rs [1, 2, 6] fun K hK => ?_
  simp (maxSteps := 2000000) (disch := first | (simp only [E4, hl, hm] <;> omega) | omega | fail) only [↓E2, E3, bare, bareJ, ↓E0, E1, env0, envN, evOps, evOp, evQs, evQ, evV, setD, pureOp, ev, upd, updL, hav, delB, ↓reduceIte, Zj, Zk, Nat.reduceAdd, Nat.reduceLT, Nat.reduceEqDiff, Nat.reduceMul, Nat.reduceLeDiff, if_true, Zn, reduceCtorEq, ZA, eq_self, Int.reduceLE, Int.reduceLT, Int.reduceToNat, ne_eq, Nat.reduceSub, hl, hm]
  repeat refine And.intro (by omega) ?_
  repeat refine And.intro (by omega) ?_
  intro g
  simp only [List.map_cons, List.map_nil, updL, upd, Nat.reduceEqDiff, if_true, if_false, ↓reduceIte]
  refine hK _ _ ?_; clear hK K
  refine Cd.seq ?_
  refine Cd.block ?_
  refine Cd.rs [1, 2, 6, 7] fun K hK => ?_
  simp (maxSteps := 2000000) (disch := first | (simp only [E4, hl, hm] <;> omega) | omega | fail) only [↓E2, E3, bare, bareJ, ↓E0, E1, env0, envN, evOps, evOp, evQs, evQ, evV, setD, pureOp, ev, upd, updL, unV, cellAt, cellsAt, findB, setB, hav, delB, ↓reduceIte, Zj, Zk, Nat.reduceAdd, Nat.reduceLT, Nat.reduceEqDiff, Nat.reduceMul, Nat.reduceLeDiff, if_true, Zn, reduceCtorEq, ZA, eq_self, Int.reduceLE, Int.reduceLT, Int.reduceToNat, ne_eq, Nat.reduceSub, Tld27, hl, hm]
  repeat refine And.intro (by omega) ?_
  refine callK_gives (IsGrid_c _ _ _ hx ho) ?_
  simp (maxSteps := 2000000) (disch := first | (simp only [E4, hl, hm] <;> omega) | omega | fail) only [↓E2, E3, bare, bareJ, ↓E0, E1, env0, envN, evOps, evOp, evQs, evQ, evV, setD, pureOp, ev, upd, updL, unV, cellAt, cellsAt, findB, setB, hav, delB, ↓reduceIte, Zj, Zk, Nat.reduceAdd, Nat.reduceLT, Nat.reduceEqDiff, Nat.reduceMul, Nat.reduceLeDiff, if_true, Zn, reduceCtorEq, ZA, eq_self, Int.reduceLE, Int.reduceLT, Int.reduceToNat, ne_eq, Nat.reduceSub, Tld27, hl, hm]
  repeat refine And.intro (by omega) ?_
  repeat refine And.intro (by omega) ?_
  intro g
  simp only [List.map_cons, List.map_nil, updL, upd, Nat.reduceEqDiff, if_true, if_false, ↓reduceIte]
  refine hK _ _ ?_; clear hK K
  refine Cd.cond rfl (fun h1 => ?_) (fun h1 => ?_)
  · have hg : ¬ gridB s x o = true := by simpa using h1
    have hk : knotC s x o = 1 := by unfold knotC; rw [if_neg hg]
    rw [knotI_no (by rw [hk]; decide), hk]
    refine Cd.rs [4, 5] fun K hK => ?_
    simp (maxSteps := 2000000) (disch := first | (simp only [E4, hl, hm] <;> omega) | omega | fail) only [↓E2, E3, bare, bareJ, ↓E0, E1, env0, envN, evOps, evOp, evQs, evQ, evV, setD, pureOp, ev, upd, updL, hav, delB, ↓reduceIte, Zj, Zk, Nat.reduceAdd, Nat.reduceLT, Nat.reduceEqDiff, Nat.reduceMul, Nat.reduceLeDiff, if_true, Zn, reduceCtorEq, ZA, eq_self, Int.reduceLE, Int.reduceLT, Int.reduceToNat, ne_eq, Nat.reduceSub, hl, hm]
    repeat refine And.intro (by omega) ?_
    repeat refine And.intro (by omega) ?_
    intro g
    simp only [List.map_cons, List.map_nil, updL, upd, Nat.reduceEqDiff, if_true, if_false, ↓reduceIte]
    refine hK _ _ ?_; clear hK K
    refine Cd.ret (inBR (thenR ?_))
    simp (maxSteps := 2000000) (disch := first | (simp only [E4, hl, hm] <;> omega) | omega | fail) only [↓E2, E3, bare, bareJ, ↓E0, E1, evP, evPlan, env0, envN, evOps, evOp, evQs, evQ, evV, setD, pureOp, ev, upd, updL, gate, binW, eqOp, binV, intOp, shOp, boolOp, unV, convV, nilV, fieldAddrV, indexAddrV, extractV, cellAt, cellsAt, findB, setB, fillL, buildV, Value.cells, lenV, minV, maxV, hav, sliceV, loV, hiV, bslQ, mksQ, appQ, partsOk, partsCells, delB, eqL, SameI, strOp, apzQ, cvtQ, capV, ↓reduceIte, Zj, Zk, Nat.reduceAdd, Nat.reduceLT, Nat.reduceEqDiff, Nat.reduceMul, Nat.reduceLeDiff, if_true, Zn, reduceCtorEq, ZA, eq_self, Int.reduceLE, Int.reduceLT, Int.reduceToNat, ne_eq, Nat.reduceSub, hl, hm]
    repeat refine And.intro (by omega) ?_
  · have hg : gridB s x o = true := by simpa using h1
    refine Cd.rs [1, 2, 6, 12] fun K hK => ?_
    simp (maxSteps := 2000000) (disch := first | (simp only [E4, hl, hm] <;> omega) | omega | fail) only [↓E2, E3, bare, bareJ, ↓E0, E1, env0, envN, evOps, evOp, evQs, evQ, evV, setD, pureOp, ev, upd, updL, unV, cellAt, cellsAt, findB, setB, hav, delB, ↓reduceIte, Zj, Zk, Nat.reduceAdd, Nat.reduceLT, Nat.reduceEqDiff, Nat.reduceMul, Nat.reduceLeDiff, if_true, Zn, reduceCtorEq, ZA, eq_self, Int.reduceLE, Int.reduceLT, Int.reduceToNat, ne_eq, Nat.reduceSub, Tld27, hl, hm]
    repeat refine And.intro (by omega) ?_
    refine callK_gives (isKnot_c _ _ _ hx ho hg) ?_
    simp (maxSteps := 2000000) (disch := first | (simp only [E4, hl, hm] <;> omega) | omega | fail) only [↓E2, E3, bare, bareJ, ↓E0, E1, env0, envN, evOps, evOp, evQs, evQ, evV, setD, pureOp, ev, upd, updL, unV, cellAt, cellsAt, findB, setB, hav, delB, ↓reduceIte, Zj, Zk, Nat.reduceAdd, Nat.reduceLT, Nat.reduceEqDiff, Nat.reduceMul, Nat.reduceLeDiff, if_true, Zn, reduceCtorEq, ZA, eq_self, Int.reduceLE, Int.reduceLT, Int.reduceToNat, ne_eq, Nat.reduceSub, Tld27, hl, hm]
    repeat refine And.intro (by omega) ?_
    repeat refine And.intro (by omega) ?_
    intro g
    simp only [List.map_cons, List.map_nil, updL, upd, Nat.reduceEqDiff, if_true, if_false, ↓reduceIte]
    refine hK _ _ ?_; clear hK K
    refine Cd.cond rfl (fun h2 => ?_) (fun h2 => ?_)
    · have hkb : ¬ knotB s x o = true := by simpa using h2
      have hk : knotC s x o = 5 := by unfold knotC; rw [if_pos hg, if_neg hkb]
      rw [knotI_no (by rw [hk]; decide), hk]
      refine Cd.rs [4, 5] fun K hK => ?_
      simp (maxSteps := 2000000) (disch := first | (simp only [E4, hl, hm] <;> omega) | omega | fail) only [↓E2, E3, bare, bareJ, ↓E0, E1, env0, envN, evOps, evOp, evQs, evQ, evV, setD, pureOp, ev, upd, updL, hav, delB, ↓reduceIte, Zj, Zk, Nat.reduceAdd, Nat.reduceLT, Nat.reduceEqDiff, Nat.reduceMul, Nat.reduceLeDiff, if_true, Zn, reduceCtorEq, ZA, eq_self, Int.reduceLE, Int.reduceLT, Int.reduceToNat, ne_eq, Nat.reduceSub, hl, hm]
      repeat refine And.intro (by omega) ?_
      repeat refine And.intro (by omega) ?_
      intro g
      simp only [List.map_cons, List.map_nil, updL, upd, Nat.reduceEqDiff, if_true, if_false, ↓reduceIte]
      refine hK _ _ ?_; clear hK K
      refine Cd.ret (inBR (thenR ?_))
      simp (maxSteps := 2000000) (disch := first | (simp only [E4, hl, hm] <;> omega) | omega | fail) only [↓E2, E3, bare, bareJ, ↓E0, E1, evP, evPlan, env0, envN, evOps, evOp, evQs, evQ, evV, setD, pureOp, ev, upd, updL, gate, binW, eqOp, binV, intOp, shOp, boolOp, unV, convV, nilV, fieldAddrV, indexAddrV, extractV, cellAt, cellsAt, findB, setB, fillL, buildV, Value.cells, lenV, minV, maxV, hav, sliceV, loV, hiV, bslQ, mksQ, appQ, partsOk, partsCells, delB, eqL, SameI, strOp, apzQ, cvtQ, capV, ↓reduceIte, Zj, Zk, Nat.reduceAdd, Nat.reduceLT, Nat.reduceEqDiff, Nat.reduceMul, Nat.reduceLeDiff, if_true, Zn, reduceCtorEq, ZA, eq_self, Int.reduceLE, Int.reduceLT, Int.reduceToNat, ne_eq, Nat.reduceSub, hl, hm]
      repeat refine And.intro (by omega) ?_
    · have hkb : knotB s x o = true := by simpa using h2
      have hk := knotC_zero.2 ⟨hg, hkb⟩
      rw [knotI_yes hk]
      refine Cd.skip ?_
      refine inBN ?_
      refine thenN ?_
      refine Cd.rs [4, 5] fun K hK => ?_
      simp (maxSteps := 2000000) (disch := first | (simp only [E4, hl, hm] <;> omega) | omega | fail) only [↓E2, E3, bare, bareJ, ↓E0, E1, env0, envN, evOps, evOp, evQs, evQ, evV, setD, pureOp, ev, upd, updL, cellAt, cellsAt, findB, setB, hav, delB, ↓reduceIte, Zj, Zk, Nat.reduceAdd, Nat.reduceLT, Nat.reduceEqDiff, Nat.reduceMul, Nat.reduceLeDiff, if_true, Zn, reduceCtorEq, ZA, eq_self, Int.reduceLE, Int.reduceLT, Int.reduceToNat, ne_eq, Nat.reduceSub, Tld27, hl, hm]
      repeat refine And.intro (by omega) ?_
      refine callK_gives (h hk) ?_
      simp (maxSteps := 2000000) (disch := first | (simp only [E4, hl, hm] <;> omega) | omega | fail) only [↓E2, E3, bare, bareJ, ↓E0, E1, env0, envN, evOps, evOp, evQs, evQ, evV, setD, pureOp, ev, upd, updL, cellAt, cellsAt, findB, setB, hav, delB, ↓reduceIte, Zj, Zk, Nat.reduceAdd, Nat.reduceLT, Nat.reduceEqDiff, Nat.reduceMul, Nat.reduceLeDiff, if_true, Zn, reduceCtorEq, ZA, eq_self, Int.reduceLE, Int.reduceLT, Int.reduceToNat, ne_eq, Nat.reduceSub, Tld27, hl, hm]
      repeat refine And.intro (by omega) ?_
      repeat refine And.intro (by omega) ?_
      intro g
      simp only [List.map_cons, List.map_nil, updL, upd, Nat.reduceEqDiff, if_true, if_false, ↓reduceIte]
      refine hK _ _ ?_; clear hK K
      refine Cd.ret ?_
      simp (maxSteps := 2000000) (disch := first | (simp only [E4, hl, hm] <;> omega) | omega | fail) only [↓E2, E3, bare, bareJ, ↓E0, E1, evP, evPlan, env0, envN, evOps, evOp, evQs, evQ, evV, setD, pureOp, ev, upd, updL, gate, binW, eqOp, binV, intOp, shOp, boolOp, unV, convV, nilV, fieldAddrV, indexAddrV, extractV, cellAt, cellsAt, findB, setB, fillL, buildV, Value.cells, lenV, minV, maxV, hav, sliceV, loV, hiV, bslQ, mksQ, appQ, partsOk, partsCells, delB, eqL, SameI, strOp, apzQ, cvtQ, capV, ↓reduceIte, Zj, Zk, Nat.reduceAdd, Nat.reduceLT, Nat.reduceEqDiff, Nat.reduceMul, Nat.reduceLeDiff, if_true, Zn, reduceCtorEq, ZA, eq_self, Int.reduceLE, Int.reduceLT, Int.reduceToNat, ne_eq, Nat.reduceSub, hl, hm]
      repeat refine And.intro (by omega) ?_
end
section
variable (n : Nat) (x o : List Int) (hx : Bytes8 x) (ho : Bytes8 o) (hn : n ≤ 8) (hn2 : 2 ≤ n)
include hx ho hn hn2
end
section
variable (s : Int) (x o : List Int) (hx : Bytes8 x) (ho : Bytes8 o)
include hx ho
end

end Go.Proofs

/-
  What the functions of this part hand back: each as a plain function of its arguments. Conditions: none.
-/
namespace Go.Proofs
open Go.W8
set_option linter.unusedVariables false
set_option linter.unusedSimpArgs false
set_option linter.unusedSectionVars false
set_option maxRecDepth 8000
set_option maxHeartbeats 4000000
--@plain
/-- Laurent polynomials are told by their coefficients; a column of monomials by its powers. -/
abbrev Cf := Int → Int
abbrev Cl := Nat → Int
/-- The sum with signs in turn over the entries of a list, each with the rest of the list. -/
def ex {α : Type} (G : List α → α → Int) : List α → List α → Int
  | _, [] => 0
  | pre, c :: s => G (pre ++ s) c - ex G (pre ++ [c]) s
/-- The determinant of monomials, by its first row; its columns are a list. -/
def dt : Nat → List Cl → Nat → Cf
  | 0, _, _, e => if e = 0 then 1 else 0
  | m + 1, cs, r, e => ex (fun rest c => dt m rest (r + 1) (e - c r)) [] cs
theorem dt_succ (m : Nat) (cs : List Cl) (r : Nat) (e : Int) : dt (m + 1) cs r e = ex (fun rest c => dt m rest (r + 1) (e - c r)) [] cs := rfl
theorem ex_congr {α : Type} {G H : List α → α → Int} : ∀ (s pre : List α), (∀ s1 c s2, s = s1 ++ c :: s2 → G (pre ++ s1 ++ s2) c = H (pre ++ s1 ++ s2) c) → ex G pre s = ex H pre s
  | [], _, _ => rfl
  | c :: s, pre, h => by
    show G (pre ++ s) c - _ = H (pre ++ s) c - _
    have h0 := h [] c s rfl
    rw [List.append_nil] at h0
    rw [h0, ex_congr s (pre ++ [c]) fun s1 d s2 e => by
      have := h (c :: s1) d s2 (by rw [e]; rfl)
      simpa using this]
/-- A sum of multiples, over a list of factors and functions. -/
def sumJ {α : Type} (J : List α) (f : α → Int) : Int := (J.map f).sum
theorem sumJ_nil {α : Type} (f : α → Int) : sumJ [] f = 0 := rfl
theorem sumJ_cons {α : Type} (a : α) (J : List α) (f : α → Int) : sumJ (a :: J) f = f a + sumJ J f := by simp [sumJ]
theorem sumJ_sub {α : Type} (f g : α → Int) : ∀ J : List α, sumJ J (fun a => f a - g a) = sumJ J f - sumJ J g
  | [] => rfl
  | a :: J => by rw [sumJ_cons, sumJ_cons, sumJ_cons, sumJ_sub f g J]; omega
theorem sumJ_zero {α : Type} : ∀ J : List α, sumJ J (fun _ => (0 : Int)) = 0
  | [] => rfl
  | a :: J => by rw [sumJ_cons, sumJ_zero J]; rfl
theorem sumJ_congr {α : Type} {f g : α → Int} : ∀ J : List α, (∀ a, f a = g a) → sumJ J f = sumJ J g
  | [], _ => rfl
  | a :: J, h => by rw [sumJ_cons, sumJ_cons, sumJ_congr J h, h]
/-- A relation among columns of monomials: factor, power, column. -/
def Rel (J : List (Int × Int × Cl)) : Prop := ∀ (b : Nat) (G : Cf), sumJ J (fun j => j.1 * G (j.2.1 + j.2.2 b)) = 0
theorem ex_behind {α : Type} {J : List (Int × Int × α)} {G : Int × Int × α → List α → α → Int} : ∀ (S A B : List α), (∀ s1 c s2, S = s1 ++ c :: s2 → sumJ J (fun j => j.1 * G j (A ++ j.2.2 :: (B ++ s1 ++ s2)) c) = 0) → sumJ J (fun j => j.1 * ex (G j) (A ++ j.2.2 :: B) S) = 0
  | [], A, B, _ => by
    show sumJ J (fun j => j.1 * 0) = 0
    rw [sumJ_congr J (g := fun _ => 0) fun j => Int.mul_zero _, sumJ_zero]
  | c :: S, A, B, h => by
    have h0 := h [] c S rfl
    have h1 := ex_behind (J := J) (G := G) S A (B ++ [c]) fun s1 d s2 e => by
      have := h (c :: s1) d s2 (by rw [e]; rfl)
      simpa using this
    have e : ∀ j : Int × Int × α, j.1 * ex (G j) (A ++ j.2.2 :: B) (c :: S) = j.1 * G j (A ++ j.2.2 :: (B ++ [] ++ S)) c - j.1 * ex (G j) (A ++ j.2.2 :: (B ++ [c])) S := fun j => by
      rw [← Int.mul_sub]
      show j.1 * (G j ((A ++ j.2.2 :: B) ++ S) c - ex (G j) ((A ++ j.2.2 :: B) ++ [c]) S) = _
      simp
    rw [sumJ_congr J e, sumJ_sub, h0, h1]; rfl
/-- The determinant is linear in a column. -/
theorem dt_lin {J : List (Int × Int × Cl)} (hJ : Rel J) : ∀ (m : Nat) (P S : List Cl) (r : Nat) (e : Int), m = P.length + 1 + S.length → sumJ J (fun j => j.1 * dt m (P ++ j.2.2 :: S) r (e - j.2.1)) = 0
  | 0, P, S, r, e, h => by omega
  | m + 1, P, S, r, e, h => by
    have key : ∀ (P' pre : List Cl), pre ++ P' = P → sumJ J (fun j => j.1 * ex (fun rest c => dt m rest (r + 1) (e - j.2.1 - c r)) pre (P' ++ j.2.2 :: S)) = 0 := by
      intro P'
      induction P' with
      | nil =>
        intro pre hp
        rw [List.append_nil] at hp
        subst hp
        have h1 := hJ r fun z => dt m (pre ++ S) (r + 1) (e - z)
        have h2 := ex_behind (J := J) (G := fun j rest c => dt m rest (r + 1) (e - j.2.1 - c r)) S pre [] fun s1 c s2 es => by
          have hl : m = pre.length + 1 + (s1 ++ s2).length := by
            rw [es] at h
            simp only [List.length_append, List.length_cons] at h ⊢
            omega
          have := dt_lin hJ m pre (s1 ++ s2) (r + 1) (e - c r) hl
          rw [← this]
          refine sumJ_congr J fun j => ?_
          simp only [List.nil_append]
          rw [show e - j.2.1 - c r = e - c r - j.2.1 by omega]
        rw [sumJ_congr J (g := fun j => j.1 * dt m (pre ++ S) (r + 1) (e - (j.2.1 + j.2.2 r)) - j.1 * ex (fun rest c => dt m rest (r + 1) (e - j.2.1 - c r)) (pre ++ j.2.2 :: []) S) fun j => ?_, sumJ_sub, h1, h2]
        · rfl
        · rw [← Int.mul_sub, show e - (j.2.1 + j.2.2 r) = e - j.2.1 - j.2.2 r by omega]
          rfl
      | cons c P' ih =>
        intro pre hp
        have h1 := ih (pre ++ [c]) (by rw [← hp]; simp)
        have hl : m = (pre ++ P').length + 1 + S.length := by
          rw [← hp] at h
          simp only [List.length_append, List.length_cons] at h ⊢
          omega
        have h2 := dt_lin hJ m (pre ++ P') S (r + 1) (e - c r) hl
        rw [sumJ_congr J (g := fun j => j.1 * dt m ((pre ++ P') ++ j.2.2 :: S) (r + 1) (e - c r - j.2.1) - j.1 * ex (fun rest c => dt m rest (r + 1) (e - j.2.1 - c r)) (pre ++ [c]) (P' ++ j.2.2 :: S)) fun j => ?_, sumJ_sub, h1, h2]
        · rfl
        · rw [← Int.mul_sub]
          show j.1 * (dt m (pre ++ (P' ++ j.2.2 :: S)) (r + 1) (e - j.2.1 - c r) - _) = _
          rw [List.append_assoc, show e - j.2.1 - c r = e - c r - j.2.1 by omega]
          rfl
    exact key P [] rfl
theorem ex_zero {α : Type} {G : List α → α → Int} {pre s : List α} (h : ∀ s1 c s2, s = s1 ++ c :: s2 → G (pre ++ s1 ++ s2) c = 0) : ex G pre s = 0 := by
  rw [ex_congr (H := fun _ _ => 0) s pre h]
  clear h
  induction s generalizing pre with
  | nil => rfl
  | cons c s ih =>
    show 0 - ex (fun _ _ => 0) (pre ++ [c]) s = 0
    rw [ih]; rfl
/-- Two neighbouring columns are alike: the determinant is 0. -/
theorem dt_alt (u : Cl) : ∀ (m : Nat) (P S : List Cl) (r : Nat) (e : Int), m = P.length + 2 + S.length → dt m (P ++ u :: u :: S) r e = 0
  | 0, P, S, r, e, h => by omega
  | m + 1, P, S, r, e, h => by
    have key : ∀ (P' pre : List Cl), pre ++ P' = P → ex (fun rest c => dt m rest (r + 1) (e - c r)) pre (P' ++ u :: u :: S) = 0 := by
      intro P'
      induction P' with
      | nil =>
        intro pre hp
        rw [List.append_nil] at hp
        subst hp
        have h2 : ex (fun rest c => dt m rest (r + 1) (e - c r)) ((pre ++ [u]) ++ [u]) S = 0 := ex_zero fun s1 c s2 es => by
          have hl : m = pre.length + 2 + (s1 ++ s2).length := by
            rw [es] at h
            simp only [List.length_append, List.length_cons] at h ⊢
            omega
          have := dt_alt u m pre (s1 ++ s2) (r + 1) (e - c r) hl
          simpa using this
        show dt m (pre ++ u :: S) (r + 1) (e - u r) - (dt m ((pre ++ [u]) ++ S) (r + 1) (e - u r) - ex (fun rest c => dt m rest (r + 1) (e - c r)) ((pre ++ [u]) ++ [u]) S) = 0
        rw [h2]
        simp
      | cons c P' ih =>
        intro pre hp
        have h1 := ih (pre ++ [c]) (by rw [← hp]; simp)
        have hl : m = (pre ++ P').length + 2 + S.length := by
          rw [← hp] at h
          simp only [List.length_append, List.length_cons] at h ⊢
          omega
        have h2 := dt_alt u m (pre ++ P') S (r + 1) (e - c r) hl
        show dt m (pre ++ (P' ++ u :: u :: S)) (r + 1) (e - c r) - ex (fun rest c => dt m rest (r + 1) (e - c r)) (pre ++ [c]) (P' ++ u :: u :: S) = 0
        rw [h1, ← List.append_assoc, h2]; rfl
    exact key P [] rfl
theorem ex_front (G : List Cl → Cl → Int) (c : Cl) : ∀ (s pre : List Cl), ex G (c :: pre) s = ex (fun rest x => G (c :: rest) x) pre s
  | [], _ => rfl
  | d :: s, pre => by
    show G (c :: pre ++ s) d - ex G (c :: pre ++ [d]) s = G (c :: (pre ++ s)) d - ex (fun rest x => G (c :: rest) x) (pre ++ [d]) s
    rw [← ex_front G c s (pre ++ [d])]
    rfl
theorem ex_sub (G H : List Cl → Cl → Int) : ∀ (s pre : List Cl), ex (fun rest c => G rest c - H rest c) pre s = ex G pre s - ex H pre s
  | [], _ => rfl
  | c :: s, pre => by
    show G (pre ++ s) c - H (pre ++ s) c - ex _ (pre ++ [c]) s = G (pre ++ s) c - ex G (pre ++ [c]) s - (H (pre ++ s) c - ex H (pre ++ [c]) s)
    rw [ex_sub G H s (pre ++ [c])]; omega
/-- Two rows are alike: pairs cancel. -/
theorem ex_two : ∀ (cs : List Cl) (H : List Cl → Cl → Cl → Int), (∀ rest c d, H rest c d = H rest d c) → ex (fun rest c => ex (fun rest' d => H rest' c d) [] rest) [] cs = 0
  | [], _, _ => rfl
  | c :: cs, H, hs => by
    show ex (fun rest' d => H rest' c d) [] ([] ++ cs) - ex (fun rest c => ex (fun rest' d => H rest' c d) [] rest) [c] cs = 0
    rw [ex_front]
    have e : ∀ rest (d : Cl), ex (fun rest' d' => H rest' d d') [] (c :: rest) = H rest d c - ex (fun rest' d' => H (c :: rest') d d') [] rest := fun rest d => by
      show H ([] ++ rest) d c - ex (fun rest' d' => H rest' d d') ([] ++ [c]) rest = _
      rw [List.nil_append, List.nil_append, ex_front]
    rw [show (fun rest d => ex (fun rest' d' => H rest' d d') [] (c :: rest)) = fun rest d => H rest d c - ex (fun rest' d' => H (c :: rest') d d') [] rest from funext fun rest => funext fun d => e rest d]
    rw [ex_sub, ex_two cs (fun rest' => H (c :: rest')) fun rest a b => hs _ a b]
    rw [show (fun rest' d => H rest' c d) = fun rest d => H rest d c from funext fun rest => funext fun d => hs rest c d, List.nil_append]
    omega
theorem ex_diff {G H : List Cl → Cl → Int} {u : Cl} {S : List Cl} (hS : ∀ c ∈ S, ∀ rest, G rest c = H rest c) : ∀ (P pre : List Cl), (∀ c ∈ P, ∀ rest, G rest c = H rest c) → ∃ σ : Int, σ = (-1) ^ P.length ∧ ex G pre (P ++ u :: S) - ex H pre (P ++ u :: S) = σ * (G (pre ++ P ++ S) u - H (pre ++ P ++ S) u)
  | [], pre, _ => by
    refine ⟨1, rfl, ?_⟩
    show G (pre ++ S) u - ex G (pre ++ [u]) S - (H (pre ++ S) u - ex H (pre ++ [u]) S) = _
    rw [ex_congr (G := G) (H := H) S (pre ++ [u]) fun s1 c s2 e => hS c (by rw [e]; simp) _, List.append_nil]
    omega
  | c :: P, pre, h => by
    obtain ⟨σ, h1, h2⟩ := ex_diff hS P (pre ++ [c]) fun d hd => h d (List.mem_cons_of_mem _ hd)
    refine ⟨-σ, by rw [h1, List.length_cons, Int.pow_succ, Int.mul_neg, Int.mul_one], ?_⟩
    show G (pre ++ (P ++ u :: S)) c - ex G (pre ++ [c]) (P ++ u :: S) - (H (pre ++ (P ++ u :: S)) c - ex H (pre ++ [c]) (P ++ u :: S)) = _
    rw [h c List.mem_cons_self]
    rw [show pre ++ [c] ++ P = pre ++ c :: P by simp] at h2
    rw [Int.neg_mul, ← h2]
    omega
/-- Rows r and r + 1 are alike but for one column. -/
theorem dt_rows {m : Nat} {P S : List Cl} {u : Cl} {r : Nat} (hP : ∀ c ∈ P, c r = c (r + 1)) (hS : ∀ c ∈ S, c r = c (r + 1)) (e : Int) :
    dt (m + 2) (P ++ u :: S) r e = (-1) ^ P.length * (dt (m + 1) (P ++ S) (r + 1) (e - u r) - dt (m + 1) (P ++ S) (r + 1) (e - u (r + 1))) := by
  have h0 := ex_two (P ++ u :: S) (fun rest c d => dt m rest (r + 2) (e - c (r + 1) - d (r + 1))) fun rest c d => by rw [show e - c (r + 1) - d (r + 1) = e - d (r + 1) - c (r + 1) by omega]
  obtain ⟨σ, h1, h2⟩ := ex_diff (G := fun rest c => dt (m + 1) rest (r + 1) (e - c r)) (H := fun rest c => dt (m + 1) rest (r + 1) (e - c (r + 1))) (u := u) (S := S) (fun c hc rest => by rw [hS c hc]) P [] (fun c hc rest => by rw [hP c hc])
  have h0 : ex (fun rest c => dt (m + 1) rest (r + 1) (e - c (r + 1))) [] (P ++ u :: S) = 0 := h0
  rw [h0, Int.sub_zero] at h2
  rw [dt_succ, h2, h1]
  rfl
theorem dt_same {m : Nat} {cs : List Cl} {r : Nat} (h : ∀ c ∈ cs, c r = c (r + 1)) (e : Int) : dt (m + 2) cs r e = 0 := by
  have h0 := ex_two cs (fun rest c d => dt m rest (r + 2) (e - c (r + 1) - d (r + 1))) fun rest c d => by rw [show e - c (r + 1) - d (r + 1) = e - d (r + 1) - c (r + 1) by omega]
  rw [dt_succ, ← h0]
  refine ex_congr cs [] fun s1 c s2 es => ?_
  show dt (m + 1) _ (r + 1) (e - c r) = ex (fun rest d => dt m rest (r + 2) (e - c (r + 1) - d (r + 1))) [] _
  rw [h c (by rw [es]; simp)]
  rfl
theorem ex_map {α β : Type} {G : List β → β → Int} {H : List α → α → Int} (φ : α → β) (h : ∀ rest c, G (rest.map φ) (φ c) = H rest c) : ∀ (s pre : List α), ex G (pre.map φ) (s.map φ) = ex H pre s
  | [], _ => rfl
  | c :: s, pre => by
    show G (pre.map φ ++ s.map φ) (φ c) - ex G (pre.map φ ++ [φ c]) (s.map φ) = _
    rw [← List.map_append, h, show pre.map φ ++ [φ c] = (pre ++ [c]).map φ by simp, ex_map φ h s]
    rfl
/-- Rows may be told from the next one on. -/
theorem dt_shift : ∀ (m : Nat) (cs : List Cl) (r : Nat) (e : Int), dt m (cs.map fun c b => c (b + 1)) r e = dt m cs (r + 1) e
  | 0, _, _, _ => rfl
  | m + 1, cs, r, e => ex_map (G := fun rest c => dt m rest (r + 1) (e - c r)) (H := fun rest c => dt m rest (r + 1 + 1) (e - c (r + 1))) (fun c b => c (b + 1)) (fun rest c => dt_shift m rest (r + 1) (e - c (r + 1))) cs []
/-- All powers with the other sign. -/
theorem dt_neg : ∀ (m : Nat) (cs : List Cl) (r : Nat) (e : Int), dt m (cs.map fun c b => -c b) r e = dt m cs r (-e)
  | 0, _, _, e => by
    show (if e = 0 then (1 : Int) else 0) = if -e = 0 then 1 else 0
    by_cases h : e = 0
    · rw [if_pos h, if_pos (by omega)]
    · rw [if_neg h, if_neg (by omega)]
  | m + 1, cs, r, e => ex_map (G := fun rest c => dt m rest (r + 1) (e - c r)) (H := fun rest c => dt m rest (r + 1) (-e - c r)) (fun c b => -c b) (fun rest c => by
      show dt m (rest.map fun c b => -c b) (r + 1) (e - -c r) = _
      rw [dt_neg m rest (r + 1), show -(e - -c r) = -e - c r by omega]) cs []

end Go.Proofs

/-
  What the functions of this part hand back: each as a plain function of its arguments. Conditions: none.
-/
namespace Go.Proofs
open Go.W8
set_option linter.unusedVariables false
set_option linter.unusedSimpArgs false
set_option linter.unusedSectionVars false
set_option maxRecDepth 8000
set_option maxHeartbeats 4000000
--@plain
/-- A column of a grid: where its arrow begins and ends. -/
abbrev Ar := Nat × Nat
def hv (c b : Nat) : Int := if b ≤ c then 1 else 0
def stp (a : Ar) (v : Cl) : Cl := fun b => v b + hv a.2 b - hv a.1 b
/-- The columns of powers: winding numbers left of each column. -/
def clF : Cl → List Ar → List Cl
  | _, [] => []
  | v, a :: l => v :: clF (stp a v) l
def fnl : Cl → List Ar → Cl
  | v, [] => v
  | v, a :: l => fnl (stp a v) l
theorem clF_len : ∀ (l : List Ar) (v : Cl), (clF v l).length = l.length
  | [], _ => rfl
  | a :: l, v => congrArg (· + 1) (clF_len l (stp a v))
theorem clF_append : ∀ (l1 l2 : List Ar) (v : Cl), clF v (l1 ++ l2) = clF v l1 ++ clF (fnl v l1) l2
  | [], _, _ => rfl
  | a :: l1, l2, v => congrArg (v :: ·) (clF_append l1 l2 (stp a v))
def z0 : Cl := fun _ => 0
def dl (l : List Ar) : Cf := dt l.length (clF z0 l) 0
theorem stp_comm (a b : Ar) (v : Cl) : stp a (stp b v) = stp b (stp a v) := by
  funext c
  unfold stp
  omega
theorem stp_swap (p q r s : Nat) (v : Cl) : stp (r, s) (stp (p, q) v) = stp (r, q) (stp (p, s) v) := by
  funext c
  unfold stp
  show v c + hv q c - hv p c + hv s c - hv r c = v c + hv s c - hv p c + hv q c - hv r c
  omega
/-- A determinant with one column open. -/
def opn (l1 : List Ar) (l2 : List Ar) (z u : Cl) : Cf := dt (l1.length + l2.length + 2) (clF z0 l1 ++ fnl z0 l1 :: u :: clF z l2) 0
theorem dl_opn (l1 l2 : List Ar) (a b : Ar) (z : Cl) (hz : stp b (stp a (fnl z0 l1)) = z) : dl (l1 ++ a :: b :: l2) = opn l1 l2 z (stp a (fnl z0 l1)) := by
  subst hz
  unfold dl opn
  rw [clF_append, show (l1 ++ a :: b :: l2).length = l1.length + l2.length + 2 by simp; omega]
  rfl
theorem opn_v (l1 l2 : List Ar) (z : Cl) (e : Int) : opn l1 l2 z (fnl z0 l1) e = 0 := dt_alt _ _ _ _ _ _ (by rw [clF_len, clF_len]; omega)
theorem opn_z (l1 l2 : List Ar) (a : Ar) (z : Cl) (e : Int) : opn l1 (a :: l2) z z e = 0 := by
  unfold opn
  have h := dt_alt z (l1.length + (a :: l2).length + 2) (clF z0 l1 ++ [fnl z0 l1]) (clF (stp a z) l2) 0 e (by rw [List.length_append, clF_len, clF_len, List.length_cons, List.length_singleton]; omega)
  rw [List.append_assoc] at h
  exact h
theorem opn_rel (l1 l2 : List Ar) (z : Cl) {J : List (Int × Int × Cl)} (hJ : Rel J) (e : Int) : sumJ J (fun j => j.1 * opn l1 l2 z j.2.2 (e - j.2.1)) = 0 := by
  have h := dt_lin hJ (l1.length + l2.length + 2) (clF z0 l1 ++ [fnl z0 l1]) (clF z l2) 0 e (by rw [List.length_append, clF_len, clF_len, List.length_singleton]; omega)
  rw [← h]
  refine sumJ_congr J fun j => ?_
  unfold opn
  rw [List.append_assoc]
  rfl
section
variable (l1 l2 : List Ar) (a : Ar) (p r s : Nat)
/-- The grid, the grid with two columns exchanged, and with their ends exchanged as well. -/
def gA : List Ar := l1 ++ (p, 0) :: (r, s) :: a :: l2
def gB : List Ar := l1 ++ (r, s) :: (p, 0) :: a :: l2
def gC : List Ar := l1 ++ (p, s) :: (r, 0) :: a :: l2
def zz : Cl := stp (r, s) (stp (p, 0) (fnl z0 l1))
theorem gA_opn : dl (gA l1 l2 a p r s) = opn l1 (a :: l2) (zz l1 p r s) (stp (p, 0) (fnl z0 l1)) := dl_opn _ _ _ _ _ rfl
theorem gB_opn : dl (gB l1 l2 a p r s) = opn l1 (a :: l2) (zz l1 p r s) (stp (r, s) (fnl z0 l1)) := dl_opn _ _ _ _ _ (stp_comm _ _ _)
theorem gC_opn : dl (gC l1 l2 a p r s) = opn l1 (a :: l2) (zz l1 p r s) (stp (p, s) (fnl z0 l1)) := dl_opn _ _ _ _ _ (stp_swap p s r 0 _)
theorem sk1 (h1 : p < r) (h2 : p ≤ s) (e : Int) : dl (gA l1 l2 a p r s) e + dl (gB l1 l2 a p r s) e = 0 := by
  have hJ : Rel [(1, 0, stp (p, 0) (fnl z0 l1)), (1, 0, stp (r, s) (fnl z0 l1)), (-1, 0, fnl z0 l1), (-1, 0, zz l1 p r s)] := fun b G => by
    simp only [sumJ_cons, sumJ_nil, zz, stp, hv]
    generalize fnl z0 l1 b = V
    by_cases b0 : b ≤ 0 <;> by_cases bp : b ≤ p <;> by_cases br : b ≤ r <;> by_cases bs : b ≤ s <;> simp only [b0, bp, br, bs, if_true, if_false] <;> grind
  have h := opn_rel l1 (a :: l2) (zz l1 p r s) hJ e
  simp only [sumJ_cons, sumJ_nil, opn_v, opn_z] at h
  rw [← gA_opn l1 l2 a p r s, ← gB_opn l1 l2 a p r s] at h
  simp only [Int.sub_zero] at h
  omega
theorem sk2 (h1 : r < p) (h2 : s ≤ p) (e : Int) : dl (gA l1 l2 a p r s) e + dl (gB l1 l2 a p r s) (e + 1) = 0 := by
  have hJ : Rel [(1, 1, stp (p, 0) (fnl z0 l1)), (1, 0, stp (r, s) (fnl z0 l1)), (-1, 0, fnl z0 l1), (-1, 1, zz l1 p r s)] := fun b G => by
    simp only [sumJ_cons, sumJ_nil, zz, stp, hv]
    generalize fnl z0 l1 b = V
    by_cases b0 : b ≤ 0 <;> by_cases bp : b ≤ p <;> by_cases br : b ≤ r <;> by_cases bs : b ≤ s <;> simp only [b0, bp, br, bs, if_true, if_false] <;> grind
  have h := opn_rel l1 (a :: l2) (zz l1 p r s) hJ (e + 1)
  simp only [sumJ_cons, sumJ_nil, opn_v, opn_z] at h
  rw [← gA_opn l1 l2 a p r s, ← gB_opn l1 l2 a p r s] at h
  simp only [Int.sub_zero, Int.add_sub_cancel] at h
  omega
theorem sk3 (h1 : r < p) (h2 : p < s) (e : Int) : dl (gA l1 l2 a p r s) e + dl (gB l1 l2 a p r s) (e + 1) + dl (gC l1 l2 a p r s) e - dl (gC l1 l2 a p r s) (e + 1) = 0 := by
  have hJ : Rel [(1, 1, stp (p, 0) (fnl z0 l1)), (1, 0, stp (r, s) (fnl z0 l1)), (1, 1, stp (p, s) (fnl z0 l1)), (-1, 0, stp (p, s) (fnl z0 l1)), (-1, 1, fnl z0 l1), (-1, 1, zz l1 p r s)] := fun b G => by
    simp only [sumJ_cons, sumJ_nil, zz, stp, hv]
    generalize fnl z0 l1 b = V
    by_cases b0 : b ≤ 0 <;> by_cases bp : b ≤ p <;> by_cases br : b ≤ r <;> by_cases bs : b ≤ s <;> simp only [b0, bp, br, bs, if_true, if_false] <;> grind
  have h := opn_rel l1 (a :: l2) (zz l1 p r s) hJ (e + 1)
  simp only [sumJ_cons, sumJ_nil, opn_v, opn_z] at h
  rw [← gA_opn l1 l2 a p r s, ← gB_opn l1 l2 a p r s, ← gC_opn l1 l2 a p r s] at h
  simp only [Int.sub_zero, Int.add_sub_cancel] at h
  omega
theorem sk4 (h1 : p < r) (h2 : s < p) (e : Int) : dl (gA l1 l2 a p r s) e + dl (gB l1 l2 a p r s) e + dl (gC l1 l2 a p r s) (e + 1) - dl (gC l1 l2 a p r s) e = 0 := by
  have hJ : Rel [(1, 1, stp (p, 0) (fnl z0 l1)), (1, 1, stp (r, s) (fnl z0 l1)), (1, 0, stp (p, s) (fnl z0 l1)), (-1, 1, stp (p, s) (fnl z0 l1)), (-1, 0, fnl z0 l1), (-1, 1, zz l1 p r s)] := fun b G => by
    simp only [sumJ_cons, sumJ_nil, zz, stp, hv]
    generalize fnl z0 l1 b = V
    by_cases b0 : b ≤ 0 <;> by_cases bp : b ≤ p <;> by_cases br : b ≤ r <;> by_cases bs : b ≤ s <;> simp only [b0, bp, br, bs, if_true, if_false] <;> grind
  have h := opn_rel l1 (a :: l2) (zz l1 p r s) hJ (e + 1)
  simp only [sumJ_cons, sumJ_nil, opn_v, opn_z] at h
  rw [← gA_opn l1 l2 a p r s, ← gB_opn l1 l2 a p r s, ← gC_opn l1 l2 a p r s] at h
  simp only [Int.sub_zero, Int.add_sub_cancel] at h
  omega
end

end Go.Proofs

/-
  What the functions of this part hand back: each as a plain function of its arguments. Conditions: none.
-/
namespace Go.Proofs
open Go.W8
set_option linter.unusedVariables false
set_option linter.unusedSimpArgs false
set_option linter.unusedSectionVars false
set_option maxRecDepth 8000
set_option maxHeartbeats 4000000
--@plain
def sn (u v : Nat) : Int := if u < v then 1 else if v < u then -1 else 0
theorem sn_neg (u v : Nat) : sn v u = - sn u v := by
  unfold sn
  split <;> split <;> omega
def hh (c : Nat) : List Ar → Int
  | [] => 0
  | a :: l => sn c a.2 + sn c a.1 + hh c l
/-- Twice the power by which the determinant is off its mirror. -/
def K2 : List Ar → Int
  | [] => 0
  | a :: l => sn a.2 a.1 + hh a.2 l - hh a.1 l + K2 l
theorem hh_append (c : Nat) : ∀ l1 l2 : List Ar, hh c (l1 ++ l2) = hh c l1 + hh c l2
  | [], l2 => by simp [hh]
  | a :: l1, l2 => by
    show sn c a.2 + sn c a.1 + hh c (l1 ++ l2) = sn c a.2 + sn c a.1 + hh c l1 + hh c l2
    rw [hh_append c l1 l2]; omega
theorem K2_append {m m' : List Ar} (h : ∀ c, hh c m = hh c m') : ∀ l1 : List Ar, K2 (l1 ++ m) - K2 (l1 ++ m') = K2 m - K2 m'
  | [] => rfl
  | a :: l1 => by
    have ih := K2_append h l1
    show sn a.2 a.1 + hh a.2 (l1 ++ m) - hh a.1 (l1 ++ m) + K2 (l1 ++ m) - (sn a.2 a.1 + hh a.2 (l1 ++ m') - hh a.1 (l1 ++ m') + K2 (l1 ++ m')) = _
    rw [hh_append, hh_append, hh_append, hh_append, h, h]
    omega
/-- The sign of an order. -/
def pSg (c : Nat) : List Nat → Int
  | [] => 1
  | d :: l => sn c d * pSg c l
def pg : List Nat → Int
  | [] => 1
  | c :: l => pSg c l * pg l
theorem pSg_append (c : Nat) : ∀ l1 l2 : List Nat, pSg c (l1 ++ l2) = pSg c l1 * pSg c l2
  | [], l2 => by simp [pSg]
  | d :: l1, l2 => by
    show sn c d * pSg c (l1 ++ l2) = sn c d * pSg c l1 * pSg c l2
    rw [pSg_append c l1 l2, Int.mul_assoc]
theorem pg_append {m m' : List Nat} {τ : Int} (h : ∀ c, pSg c m = pSg c m') (hg : pg m' = τ * pg m) : ∀ l1 : List Nat, pg (l1 ++ m') = τ * pg (l1 ++ m)
  | [] => hg
  | c :: l1 => by
    have ih := pg_append h hg l1
    show pSg c (l1 ++ m') * pg (l1 ++ m') = τ * (pSg c (l1 ++ m) * pg (l1 ++ m))
    rw [ih, pSg_append, pSg_append, h, ← Int.mul_assoc, ← Int.mul_assoc, Int.mul_comm τ]
theorem pg_swap (a b : Nat) (l1 l2 : List Nat) : pg (l1 ++ b :: a :: l2) = -1 * pg (l1 ++ a :: b :: l2) := by
  refine pg_append (fun c => ?_) ?_ l1
  · show sn c a * (sn c b * pSg c l2) = sn c b * (sn c a * pSg c l2)
    rw [Int.mul_left_comm]
  · show sn b a * pSg b l2 * (pSg a l2 * pg l2) = -1 * (sn a b * pSg a l2 * (pSg b l2 * pg l2))
    rw [sn_neg a b]
    grind
def os (l : List Ar) : List Nat := l.map (·.1)
def xs (l : List Ar) : List Nat := l.map (·.2)
def sgL (l : List Ar) : Int := pg (os l) * pg (xs l)
section
variable (l1 l2 : List Ar) (a : Ar) (p r s : Nat)
theorem sgB : sgL (gB l1 l2 a p r s) = sgL (gA l1 l2 a p r s) := by
  unfold sgL os xs gA gB
  simp only [List.map_append, List.map_cons]
  rw [pg_swap p r, pg_swap 0 s]
  grind
theorem sgC : sgL (gC l1 l2 a p r s) = - sgL (gA l1 l2 a p r s) := by
  unfold sgL os xs gA gC
  simp only [List.map_append, List.map_cons]
  rw [pg_swap 0 s]
  grind
theorem K2B : K2 (gB l1 l2 a p r s) - K2 (gA l1 l2 a p r s) = 2 * (sn s 0 + sn p r) := by
  unfold gA gB
  rw [K2_append (m := (r, s) :: (p, 0) :: a :: l2) (m' := (p, 0) :: (r, s) :: a :: l2) fun c => by simp only [hh]; omega]
  simp only [K2, hh]
  have e1 := sn_neg 0 s
  have e2 := sn_neg p r
  have e3 := sn_neg s p
  have e4 := sn_neg 0 r
  omega
theorem K2C : K2 (gC l1 l2 a p r s) - K2 (gA l1 l2 a p r s) = 2 * sn s 0 := by
  unfold gA gC
  rw [K2_append (m := (p, s) :: (r, 0) :: a :: l2) (m' := (p, 0) :: (r, s) :: a :: l2) fun c => by simp only [hh]; omega]
  simp only [K2, hh]
  have e1 := sn_neg 0 s
  have e2 := sn_neg p r
  have e3 := sn_neg s p
  have e4 := sn_neg 0 r
  have e5 := sn_neg r s
  have e6 := sn_neg 0 p
  omega
end
/-- A polynomial has but so many terms. -/
def Fs (f : Cf) : Prop := ∃ N : Nat, ∀ e : Int, e < -(N : Int) ∨ (N : Int) < e → f e = 0
theorem Fs.neg {f : Cf} (h : Fs f) : Fs fun e => - f e := by
  obtain ⟨N, h⟩ := h
  exact ⟨N, fun e he => by show - f e = 0; rw [h e he]; rfl⟩
theorem Fs.add {f g : Cf} (h : Fs f) (h' : Fs g) : Fs fun e => f e + g e := by
  obtain ⟨N, h⟩ := h
  obtain ⟨N', h'⟩ := h'
  exact ⟨N + N', fun e he => by show f e + g e = 0; rw [h e (by omega), h' e (by omega)]; rfl⟩
theorem Fs.sub {f g : Cf} (h : Fs f) (h' : Fs g) : Fs fun e => f e - g e := by
  obtain ⟨N, h⟩ := h
  obtain ⟨N', h'⟩ := h'
  exact ⟨N + N', fun e he => by show f e - g e = 0; rw [h e (by omega), h' e (by omega)]; rfl⟩
theorem Fs.sh {f : Cf} (h : Fs f) (k : Int) : Fs fun e => f (e + k) := by
  obtain ⟨N, h⟩ := h
  exact ⟨N + k.natAbs, fun e he => h _ (by omega)⟩
theorem Fs.refl {f : Cf} (h : Fs f) : Fs fun e => f (-e) := by
  obtain ⟨N, h⟩ := h
  exact ⟨N, fun e he => h _ (by omega)⟩
theorem Fs.mul {f : Cf} (h : Fs f) (c : Int) : Fs fun e => c * f e := by
  obtain ⟨N, h⟩ := h
  exact ⟨N, fun e he => by show c * f e = 0; rw [h e he, Int.mul_zero]⟩
theorem Fs.zero : Fs fun _ => 0 := ⟨0, fun _ _ => rfl⟩
def dlt : Cf := fun e => if e = 0 then 1 else 0
theorem Fs.dlt : Fs dlt := ⟨0, fun e he => if_neg (by omega)⟩
/-- The product with 1 - t. -/
def mo (f : Cf) : Cf := fun e => f e - f (e - 1)
def itM : Nat → Cf → Cf
  | 0, f => f
  | j + 1, f => mo (itM j f)
theorem itM_sh : ∀ (j : Nat) (f : Cf) (k e : Int), itM j (fun e => f (e + k)) e = itM j f (e + k)
  | 0, _, _, _ => rfl
  | j + 1, f, k, e => by
    show itM j (fun e => f (e + k)) e - itM j (fun e => f (e + k)) (e - 1) = itM j f (e + k) - itM j f (e + k - 1)
    rw [itM_sh j, itM_sh j, show e - 1 + k = e + k - 1 by omega]
theorem itM_neg : ∀ (j : Nat) (f : Cf) (e : Int), itM j (fun e => - f e) e = - itM j f e
  | 0, _, _ => rfl
  | j + 1, f, e => by
    show itM j (fun e => - f e) e - itM j (fun e => - f e) (e - 1) = -(itM j f e - itM j f (e - 1))
    rw [itM_neg j, itM_neg j]; omega
theorem itM_add : ∀ (j : Nat) (f g : Cf) (e : Int), itM j (fun e => f e + g e) e = itM j f e + itM j g e
  | 0, _, _, _ => rfl
  | j + 1, f, g, e => by
    show itM j (fun e => f e + g e) e - itM j (fun e => f e + g e) (e - 1) = itM j f e - itM j f (e - 1) + (itM j g e - itM j g (e - 1))
    rw [itM_add j, itM_add j]; omega
theorem itM_sub (j : Nat) (f g : Cf) (e : Int) : itM j (fun e => f e - g e) e = itM j f e - itM j g e := by
  have h : (fun e => f e - g e) = fun e => f e + (fun e => - g e) e := funext fun e => by show _ = f e + - g e; omega
  rw [h, itM_add, itM_neg]; omega
theorem itM_mul : ∀ (j : Nat) (f : Cf) (c e : Int), itM j (fun e => c * f e) e = c * itM j f e
  | 0, _, _, _ => rfl
  | j + 1, f, c, e => by
    show itM j (fun e => c * f e) e - itM j (fun e => c * f e) (e - 1) = c * (itM j f e - itM j f (e - 1))
    rw [itM_mul j, itM_mul j, Int.mul_sub]
theorem itM_zero : ∀ (j : Nat) (e : Int), itM j (fun _ => 0) e = 0
  | 0, _ => rfl
  | j + 1, e => by
    show itM j (fun _ => 0) e - itM j (fun _ => 0) (e - 1) = 0
    rw [itM_zero j, itM_zero j]; rfl
theorem itM_out : ∀ (j : Nat) (f : Cf), itM j (mo f) = mo (itM j f)
  | 0, _ => rfl
  | j + 1, f => by
    show mo (itM j (mo f)) = _
    rw [itM_out j f]; rfl
/-- Up to multiples of 1 - t a polynomial is 1 or -1. -/
def On (Q : Cf) : Prop := ∃ (c : Int) (R : Cf), (c = 1 ∨ c = -1) ∧ Fs R ∧ ∀ e, Q e = c * dlt e + (R e - R (e - 1))
theorem On.neg {Q : Cf} (h : On Q) : On fun e => - Q e := by
  obtain ⟨c, R, hc, hR, h⟩ := h
  refine ⟨-c, fun e => - R e, by omega, hR.neg, fun e => ?_⟩
  show - Q e = -c * dlt e + (-R e - -R (e - 1))
  rw [h e, Int.neg_mul]; omega
theorem On.mo {Q R' : Cf} (h : On Q) (hR' : Fs R') : On fun e => Q e + (R' e - R' (e - 1)) := by
  obtain ⟨c, R, hc, hR, h⟩ := h
  refine ⟨c, fun e => R e + R' e, hc, hR.add hR', fun e => ?_⟩
  show Q e + (R' e - R' (e - 1)) = c * dlt e + (R e + R' e - (R (e - 1) + R' (e - 1)))
  rw [h e]; omega
theorem On.fs {Q : Cf} (h : On Q) : Fs Q := by
  obtain ⟨c, R, _, hR, h⟩ := h
  have h2 := (Fs.dlt.mul c).add (hR.sub (hR.sh (-1)))
  obtain ⟨N, h2⟩ := h2
  exact ⟨N, fun e he => by rw [h e]; exact h2 e he⟩
theorem On.up {Q : Cf} (h : On Q) : On fun e => Q (e + 1) := by
  have h2 := h.mo (h.fs.sh 1)
  obtain ⟨c, R, hc, hR, h2⟩ := h2
  refine ⟨c, R, hc, hR, fun e => ?_⟩
  rw [← h2 e]
  show Q (e + 1) = Q e + (Q (e + 1) - Q (e - 1 + 1))
  rw [show e - 1 + 1 = e by omega]; omega
theorem On.upN {Q : Cf} (h : On Q) : ∀ k : Nat, On fun e => Q (e + (k : Int))
  | 0 => by
    have e : (fun e => Q (e + ((0 : Nat) : Int))) = Q := funext fun e => by rw [show e + ((0 : Nat) : Int) = e by omega]
    rw [e]; exact h
  | k + 1 => by
    have h2 := (On.upN h k).up
    have e : (fun e => Q (e + ((k + 1 : Nat) : Int))) = fun e => Q (e + 1 + (k : Int)) := funext fun e => by rw [show e + ((k + 1 : Nat) : Int) = e + 1 + (k : Int) by omega]
    rw [e]; exact h2
theorem On.refl {Q : Cf} (h : On Q) : On fun e => Q (-e) := by
  obtain ⟨c, R, hc, hR, h⟩ := h
  refine ⟨c, fun e => - R (-e - 1), hc, ?_, fun e => ?_⟩
  · have h2 := (hR.refl.sh 1).neg
    obtain ⟨N, h2⟩ := h2
    exact ⟨N, fun e he => by
      have h3 : - R (-(e + 1)) = 0 := h2 e he
      show - R (-e - 1) = 0
      rw [show -e - 1 = -(e + 1) by omega]
      exact h3⟩
  · show Q (-e) = c * dlt e + (- R (-e - 1) - - R (-(e - 1) - 1))
    rw [h (-e), show -(e - 1) - 1 = -e by omega]
    have : dlt (-e) = dlt e := by
      unfold dlt
      by_cases h : e = 0
      · rw [if_pos h, if_pos (by omega)]
      · rw [if_neg h, if_neg (by omega)]
    rw [this]; omega
/-- No part of the rows is closed under the arrows. -/
def Sg (l : List Ar) : Prop := ∀ S : Nat → Prop, (∃ a ∈ l, S a.1) → (∀ a ∈ l, S a.1 → S a.2) → ∀ a ∈ l, S a.1
structure Gd (l : List Ar) : Prop where
  q : ∃ Q, Fs Q ∧ (∀ e, dl l e = itM (l.length - 1) Q e) ∧ (Sg l → On Q)
  s : ∀ f g : Int, 2 * (f + g) = - K2 l → dl l g = sgL l * dl l f
  k : Sg l → ∃ k : Int, 2 * k = K2 l

end Go.Proofs

/-
  What the functions of this part hand back: each as a plain function of its arguments. Conditions: none.
-/
namespace Go.Proofs
open Go.W8
set_option linter.unusedVariables false
set_option linter.unusedSimpArgs false
set_option linter.unusedSectionVars false
set_option maxRecDepth 8000
set_option maxHeartbeats 4000000
--@plain
theorem sn_lt {u v : Nat} (h : u < v) : sn u v = 1 := if_pos h
theorem sn_gt {u v : Nat} (h : v < u) : sn u v = -1 := by unfold sn; rw [if_neg (by omega), if_pos h]
section
variable {l1 l2 : List Ar} {a : Ar} {p r s : Nat}
theorem lenA : (gA l1 l2 a p r s).length = l1.length + l2.length + 3 := by unfold gA; simp; omega
theorem lenB : (gB l1 l2 a p r s).length = l1.length + l2.length + 3 := by unfold gB; simp; omega
theorem lenC : (gC l1 l2 a p r s).length = l1.length + l2.length + 3 := by unfold gC; simp; omega
theorem memB (b : Ar) : b ∈ gB l1 l2 a p r s ↔ b ∈ gA l1 l2 a p r s := by
  unfold gA gB
  simp only [List.mem_append, List.mem_cons]
  grind
theorem Sg_B (h : Sg (gA l1 l2 a p r s)) : Sg (gB l1 l2 a p r s) := fun S ⟨b, hb, hS⟩ hc c hcm => h S ⟨b, (memB b).1 hb, hS⟩ (fun d hd => hc d ((memB d).2 hd)) c ((memB c).1 hcm)
theorem gd_step (hp : 0 < p) (hr : 0 < r) (hs : 0 < s) (hpr : p ≠ r) (gb : Gd (gB l1 l2 a p r s)) (gc : Gd (gC l1 l2 a p r s)) : Gd (gA l1 l2 a p r s) := by
  obtain ⟨⟨QB, fB, dB, oB⟩, sB, kB⟩ := gb
  obtain ⟨⟨QC, fC, dC, _⟩, sC, _⟩ := gc
  have k1 := K2B l1 l2 a p r s
  have k2 := K2C l1 l2 a p r s
  rw [sn_gt hs] at k1 k2
  rw [sgB] at sB
  rw [sgC] at sC
  rw [lenB] at dB
  rw [lenC] at dC
  rcases Nat.lt_or_ge p r with h1 | h1
  · rw [sn_lt h1] at k1
    rcases Nat.lt_or_ge s p with h2 | h2
    · have hk := sk4 l1 l2 a p r s h1 h2
      refine ⟨⟨fun e => - QB e + (- QC (e + 1) - - QC (e - 1 + 1)), ?_, fun e => ?_, fun hg => ?_⟩, fun f g hfg => ?_, fun hg => ?_⟩
      · exact fB.neg.add ((fC.sh 1).neg.sub (by
          obtain ⟨N, h⟩ := fC.neg
          exact ⟨N, fun e he => by
            show - QC (e - 1 + 1) = 0
            rw [show e - 1 + 1 = e by omega]; exact h e he⟩))
      · rw [lenA]
        have e1 : (fun e => - QB e + (- QC (e + 1) - - QC (e - 1 + 1))) = fun e => (fun e => - QB e) e + (fun e => (fun e => - (fun e => QC (e + 1)) e) e - (fun e => - QC e) e) e := funext fun e => by show _ = - QB e + (- QC (e + 1) - - QC e); rw [show e - 1 + 1 = e by omega]
        rw [e1, itM_add, itM_sub, itM_neg, itM_neg, itM_neg, itM_sh, ← dB, ← dC, ← dC]
        have := hk e
        omega
      · exact (oB (Sg_B hg)).neg.mo (R' := fun e => - QC (e + 1)) (fC.sh 1).neg
      · have b1 := sB f g (by omega)
        have c1 := sC (f + 1) g (by omega)
        have c2 := sC f (g + 1) (by omega)
        have a1 := hk g
        have a2 := hk f
        rw [b1, c1, c2] at a1
        rw [show dl (gA l1 l2 a p r s) f = - dl (gB l1 l2 a p r s) f - dl (gC l1 l2 a p r s) (f + 1) + dl (gC l1 l2 a p r s) f by omega]
        generalize sgL (gA l1 l2 a p r s) = σ at *
        grind
      · obtain ⟨k, h⟩ := kB (Sg_B hg)
        exact ⟨k, by omega⟩
    · have hk := sk1 l1 l2 a p r s h1 h2
      refine ⟨⟨fun e => - QB e, fB.neg, fun e => ?_, fun hg => (oB (Sg_B hg)).neg⟩, fun f g hfg => ?_, fun hg => ?_⟩
      · rw [lenA, itM_neg, ← dB]
        have := hk e
        omega
      · have b1 := sB f g (by omega)
        have a1 := hk g
        have a2 := hk f
        rw [b1] at a1
        rw [show dl (gA l1 l2 a p r s) f = - dl (gB l1 l2 a p r s) f by omega]
        generalize sgL (gA l1 l2 a p r s) = σ at *
        grind
      · obtain ⟨k, h⟩ := kB (Sg_B hg)
        exact ⟨k, by omega⟩
  · have h1 : r < p := by omega
    rw [sn_gt h1] at k1
    rcases Nat.lt_or_ge p s with h2 | h2
    · have hk := sk3 l1 l2 a p r s h1 h2
      refine ⟨⟨fun e => - QB (e + 1) + (QC (e + 1) - QC (e - 1 + 1)), ?_, fun e => ?_, fun hg => ?_⟩, fun f g hfg => ?_, fun hg => ?_⟩
      · exact (fB.sh 1).neg.add ((fC.sh 1).sub (by
          obtain ⟨N, h⟩ := fC
          exact ⟨N, fun e he => by
            show QC (e - 1 + 1) = 0
            rw [show e - 1 + 1 = e by omega]; exact h e he⟩))
      · rw [lenA]
        have e1 : (fun e => - QB (e + 1) + (QC (e + 1) - QC (e - 1 + 1))) = fun e => (fun e => - (fun e => QB (e + 1)) e) e + (fun e => (fun e => QC (e + 1)) e - QC e) e := funext fun e => by show _ = - QB (e + 1) + (QC (e + 1) - QC e); rw [show e - 1 + 1 = e by omega]
        rw [e1, itM_add, itM_sub, itM_neg, itM_sh, itM_sh, ← dB, ← dC, ← dC]
        have := hk e
        omega
      · exact (oB (Sg_B hg)).up.neg.mo (R' := fun e => QC (e + 1)) (fC.sh 1)
      · have b1 := sB (f + 1) (g + 1) (by omega)
        have c1 := sC (f + 1) g (by omega)
        have c2 := sC f (g + 1) (by omega)
        have a1 := hk g
        have a2 := hk f
        rw [b1, c1, c2] at a1
        rw [show dl (gA l1 l2 a p r s) f = - dl (gB l1 l2 a p r s) (f + 1) - dl (gC l1 l2 a p r s) f + dl (gC l1 l2 a p r s) (f + 1) by omega]
        generalize sgL (gA l1 l2 a p r s) = σ at *
        grind
      · obtain ⟨k, h⟩ := kB (Sg_B hg)
        exact ⟨k + 2, by omega⟩
    · have hk := sk2 l1 l2 a p r s h1 h2
      refine ⟨⟨fun e => - QB (e + 1), (fB.sh 1).neg, fun e => ?_, fun hg => (oB (Sg_B hg)).up.neg⟩, fun f g hfg => ?_, fun hg => ?_⟩
      · have e1 : (fun e => - QB (e + 1)) = fun e => - (fun e => QB (e + 1)) e := rfl
        rw [lenA, e1, itM_neg, itM_sh, ← dB]
        have := hk e
        omega
      · have b1 := sB (f + 1) (g + 1) (by omega)
        have a1 := hk g
        have a2 := hk f
        rw [b1] at a1
        rw [show dl (gA l1 l2 a p r s) f = - dl (gB l1 l2 a p r s) (f + 1) by omega]
        generalize sgL (gA l1 l2 a p r s) = σ at *
        grind
      · obtain ⟨k, h⟩ := kB (Sg_B hg)
        exact ⟨k + 2, by omega⟩
end

/-- The next smaller rows. -/
def dn (a : Ar) : Ar := (a.1 - 1, a.2 - 1)
def Ps (l : List Ar) : Prop := ∀ a ∈ l, 0 < a.1 ∧ 0 < a.2
theorem Ps.tail {a : Ar} {l : List Ar} (h : Ps (a :: l)) : Ps l := fun b hb => h b (List.mem_cons_of_mem _ hb)
theorem Ps.head {a : Ar} {l : List Ar} (h : Ps (a :: l)) : 0 < a.1 ∧ 0 < a.2 := h a List.mem_cons_self
theorem stp_01 {a : Ar} (h : 0 < a.1 ∧ 0 < a.2) {v : Cl} (hv' : v 0 = v 1) : stp a v 0 = stp a v 1 := by
  unfold stp hv
  rw [if_pos (by omega), if_pos (by omega), if_pos (by omega), if_pos (by omega), hv']
theorem fnl_01 : ∀ {l : List Ar} {v : Cl}, Ps l → v 0 = v 1 → fnl v l 0 = fnl v l 1
  | [], _, _, h => h
  | a :: l, v, hp, h => by
    show fnl (stp a v) l 0 = fnl (stp a v) l 1
    exact fnl_01 hp.tail (stp_01 hp.head h)
theorem clF_01 : ∀ {l : List Ar} {v : Cl}, Ps l → v 0 = v 1 → ∀ c ∈ clF v l, c 0 = c 1
  | [], _, _, _, _, hc => nomatch hc
  | a :: l, v, hp, h, c, hc => by
    rcases List.mem_cons.1 hc with e | hc
    · subst e; exact h
    · exact clF_01 hp.tail (stp_01 hp.head h) c hc
theorem fnl_0 : ∀ {l : List Ar} {v : Cl}, fnl v l 0 = v 0
  | [], _ => rfl
  | a :: l, v => by
    show fnl (stp a v) l 0 = _
    rw [fnl_0]
    unfold stp hv
    rw [if_pos (by omega), if_pos (by omega)]; omega
theorem stp_dn {a : Ar} (h : 0 < a.1 ∧ 0 < a.2) (v : Cl) : stp (dn a) (fun b => v (b + 1)) = fun b => stp a v (b + 1) := by
  funext b
  unfold stp hv dn
  have e1 : (b ≤ a.2 - 1) = (b + 1 ≤ a.2) := by rw [eq_iff_iff]; omega
  have e2 : (b ≤ a.1 - 1) = (b + 1 ≤ a.1) := by rw [eq_iff_iff]; omega
  simp only [e1, e2]
theorem clF_dn : ∀ {l : List Ar} {v : Cl}, Ps l → clF (fun b => v (b + 1)) (l.map dn) = (clF v l).map fun c b => c (b + 1)
  | [], _, _ => rfl
  | a :: l, v, hp => by
    show _ :: clF (stp (dn a) fun b => v (b + 1)) (l.map dn) = _ :: (clF (stp a v) l).map _
    rw [stp_dn hp.head, clF_dn hp.tail]
theorem dl_dn {l : List Ar} (h : Ps l) (e : Int) : dl (l.map dn) e = dt l.length (clF z0 l) 1 e := by
  have h2 := clF_dn (v := z0) h
  unfold dl
  rw [show z0 = fun b => z0 (b + 1) from rfl, h2, dt_shift, List.length_map]
  rfl
section
variable {l1 l2 : List Ar} {p s : Nat} (h1 : Ps l1) (h2 : Ps l2) (hp : 0 < p) (hs : 0 < s)
include h1 h2 hp hs
theorem dl_dest (e : Int) : dl (l1 ++ (p, 0) :: (0, s) :: l2) e = (-1) ^ (l1.length + 1) * (dl ((l1 ++ (p, s) :: l2).map dn) e - dl ((l1 ++ (p, s) :: l2).map dn) (e + 1)) := by
  have hps : Ps (l1 ++ (p, s) :: l2) := fun a ha => by
    rcases List.mem_append.1 ha with h | h
    · exact h1 a h
    · rcases List.mem_cons.1 h with h | h
      · subst h; exact ⟨hp, hs⟩
      · exact h2 a h
  have hv01 : fnl z0 l1 0 = fnl z0 l1 1 := fnl_01 h1 rfl
  have hv0 : fnl z0 l1 0 = 0 := fnl_0
  have hz : stp (0, s) (stp (p, 0) (fnl z0 l1)) = stp (p, s) (fnl z0 l1) := by
    funext b
    unfold stp
    show fnl z0 l1 b + hv 0 b - hv p b + hv s b - hv 0 b = fnl z0 l1 b + hv s b - hv p b
    omega
  rw [dl_dn hps, dl_dn hps]
  unfold dl
  rw [clF_append, show (l1 ++ (p, 0) :: (0, s) :: l2).length = l1.length + l2.length + 2 by simp; omega, show (l1 ++ (p, s) :: l2).length = l1.length + l2.length + 1 by simp; omega, clF_append]
  show dt _ (clF z0 l1 ++ fnl z0 l1 :: stp (p, 0) (fnl z0 l1) :: clF (stp (0, s) (stp (p, 0) (fnl z0 l1))) l2) 0 e = _ * (dt _ (clF z0 l1 ++ fnl z0 l1 :: clF (stp (p, s) (fnl z0 l1)) l2) 1 e - dt _ (clF z0 l1 ++ fnl z0 l1 :: clF (stp (p, s) (fnl z0 l1)) l2) 1 (e + 1))
  rw [hz]
  have h := dt_rows (m := l1.length + l2.length) (P := clF z0 l1 ++ [fnl z0 l1]) (S := clF (stp (p, s) (fnl z0 l1)) l2) (u := stp (p, 0) (fnl z0 l1)) (r := 0) (fun c hc => by
    rcases List.mem_append.1 hc with h | h
    · exact clF_01 h1 rfl c h
    · rw [List.mem_singleton.1 h]; exact hv01) (clF_01 h2 (stp_01 ⟨hp, hs⟩ hv01)) e
  rw [List.append_assoc, List.append_assoc, List.length_append, clF_len, List.length_singleton] at h
  have u0 : stp (p, 0) (fnl z0 l1) 0 = 0 := by
    unfold stp hv
    rw [hv0, if_pos (Nat.le_refl _), if_pos (by omega)]; rfl
  have u1 : stp (p, 0) (fnl z0 l1) (0 + 1) = -1 := by
    unfold stp hv
    rw [← hv01, hv0, if_neg (by omega), if_pos (by omega)]; rfl
  rw [u0, u1, show e - 0 = e by omega, show e - -1 = e + 1 by omega] at h
  exact h
end
theorem sn_dn {u v : Nat} (hu : 0 < u) (hv : 0 < v) : sn (u - 1) (v - 1) = sn u v := by
  unfold sn
  have e1 : (u - 1 < v - 1) = (u < v) := by rw [eq_iff_iff]; omega
  have e2 : (v - 1 < u - 1) = (v < u) := by rw [eq_iff_iff]; omega
  simp only [e1, e2]
theorem hh_dn {c : Nat} (hc : 0 < c) : ∀ {l : List Ar}, Ps l → hh (c - 1) (l.map dn) = hh c l
  | [], _ => rfl
  | a :: l, h => by
    show sn (c - 1) (a.2 - 1) + sn (c - 1) (a.1 - 1) + hh (c - 1) (l.map dn) = sn c a.2 + sn c a.1 + hh c l
    rw [hh_dn hc h.tail, sn_dn hc h.head.1, sn_dn hc h.head.2]
theorem K2_dn : ∀ {l : List Ar}, Ps l → K2 (l.map dn) = K2 l
  | [], _ => rfl
  | a :: l, h => by
    show sn (a.2 - 1) (a.1 - 1) + hh (a.2 - 1) (l.map dn) - hh (a.1 - 1) (l.map dn) + K2 (l.map dn) = sn a.2 a.1 + hh a.2 l - hh a.1 l + K2 l
    rw [hh_dn h.head.2 h.tail, hh_dn h.head.1 h.tail, K2_dn h.tail, sn_dn h.head.2 h.head.1]
theorem K2_push {m m' : List Ar} {d : Int} (h : ∀ c, 0 < c → hh c m = hh c m' + d) : ∀ {l1 : List Ar}, Ps l1 → K2 (l1 ++ m) - K2 (l1 ++ m') = K2 m - K2 m'
  | [], _ => rfl
  | a :: l1, hp => by
    have ih := K2_push h hp.tail
    show sn a.2 a.1 + hh a.2 (l1 ++ m) - hh a.1 (l1 ++ m) + K2 (l1 ++ m) - (sn a.2 a.1 + hh a.2 (l1 ++ m') - hh a.1 (l1 ++ m') + K2 (l1 ++ m')) = _
    rw [hh_append, hh_append, hh_append, hh_append, h _ hp.head.1, h _ hp.head.2]
    omega
theorem K2_dest {l1 l2 : List Ar} {p s : Nat} (h1 : Ps l1) (hp : 0 < p) (hs : 0 < s) : K2 (l1 ++ (p, 0) :: (0, s) :: l2) = K2 (l1 ++ (p, s) :: l2) + 2 := by
  have h := K2_push (m := (p, 0) :: (0, s) :: l2) (m' := (p, s) :: l2) (d := -2) (fun c hc => by
    simp only [hh]
    rw [sn_gt hc]
    omega) h1
  have e : K2 ((p, 0) :: (0, s) :: l2) - K2 ((p, s) :: l2) = 2 := by
    simp only [K2, hh]
    rw [sn_lt hp, sn_lt hs, sn_gt hs, sn_gt hp, sn_neg p s, show sn 0 0 = 0 from rfl]
    omega
  omega
def Pn (l : List Nat) : Prop := ∀ c ∈ l, 0 < c
theorem pSg_dn {c : Nat} (hc : 0 < c) : ∀ {l : List Nat}, Pn l → pSg (c - 1) (l.map (· - 1)) = pSg c l
  | [], _ => rfl
  | d :: l, h => by
    show sn (c - 1) (d - 1) * pSg (c - 1) (l.map (· - 1)) = sn c d * pSg c l
    rw [sn_dn hc (h d List.mem_cons_self), pSg_dn hc fun e he => h e (List.mem_cons_of_mem _ he)]
theorem pg_dn : ∀ {l : List Nat}, Pn l → pg (l.map (· - 1)) = pg l
  | [], _ => rfl
  | c :: l, h => by
    have ht : Pn l := fun e he => h e (List.mem_cons_of_mem _ he)
    show pSg (c - 1) (l.map (· - 1)) * pg (l.map (· - 1)) = pSg c l * pg l
    rw [pSg_dn (h c List.mem_cons_self) ht, pg_dn ht]
theorem pSg_zero : ∀ {l : List Nat}, Pn l → pSg 0 l = 1
  | [], _ => rfl
  | d :: l, h => by
    show sn 0 d * pSg 0 l = 1
    rw [sn_lt (h d List.mem_cons_self), pSg_zero fun e he => h e (List.mem_cons_of_mem _ he)]; rfl
theorem pg_rm {B : List Nat} (hB : Pn B) : ∀ {A : List Nat}, Pn A → pg (A ++ 0 :: B) = (-1) ^ A.length * pg (A ++ B)
  | [], _ => by
    show pSg 0 B * pg B = 1 * pg B
    rw [pSg_zero hB]
  | c :: A, h => by
    show pSg c (A ++ 0 :: B) * pg (A ++ 0 :: B) = (-1) ^ (A.length + 1) * (pSg c (A ++ B) * pg (A ++ B))
    rw [pg_rm hB fun e he => h e (List.mem_cons_of_mem _ he), pSg_append, pSg_append]
    show pSg c A * (sn c 0 * pSg c B) * _ = _
    rw [sn_gt (h c List.mem_cons_self), Int.pow_succ]
    grind
theorem pow_two (k : Nat) : ((-1 : Int) ^ k) * ((-1) ^ k) = 1 := by
  induction k with
  | zero => rfl
  | succ k ih =>
    rw [Int.pow_succ]
    grind
theorem Pn_os {l : List Ar} (h : Ps l) : Pn (os l) := fun c hc => by
  obtain ⟨a, ha, rfl⟩ := List.mem_map.1 hc
  exact (h a ha).1
theorem Pn_xs {l : List Ar} (h : Ps l) : Pn (xs l) := fun c hc => by
  obtain ⟨a, ha, rfl⟩ := List.mem_map.1 hc
  exact (h a ha).2
theorem sg_dn {l : List Ar} (h : Ps l) : sgL (l.map dn) = sgL l := by
  unfold sgL
  rw [show os (l.map dn) = (os l).map (· - 1) by simp [os, dn], show xs (l.map dn) = (xs l).map (· - 1) by simp [xs, dn], pg_dn (Pn_os h), pg_dn (Pn_xs h)]
theorem sg_dest {l1 l2 : List Ar} {p s : Nat} (h1 : Ps l1) (h2 : Ps l2) (hp : 0 < p) (hs : 0 < s) : sgL (l1 ++ (p, 0) :: (0, s) :: l2) = - sgL (l1 ++ (p, s) :: l2) := by
  unfold sgL
  have a1 : os (l1 ++ (p, 0) :: (0, s) :: l2) = (os l1 ++ [p]) ++ 0 :: os l2 := by simp [os]
  have a2 : xs (l1 ++ (p, 0) :: (0, s) :: l2) = xs l1 ++ 0 :: (s :: xs l2) := by simp [xs]
  have a3 : os (l1 ++ (p, s) :: l2) = (os l1 ++ [p]) ++ os l2 := by simp [os]
  have a4 : xs (l1 ++ (p, s) :: l2) = xs l1 ++ (s :: xs l2) := by simp [xs]
  have l3 : (os l1 ++ [p]).length = l1.length + 1 := by simp [os]
  have l4 : (xs l1).length = l1.length := by simp [xs]
  rw [a1, a2, a3, a4, pg_rm (Pn_os h2) fun c hc => ?_, pg_rm (fun c hc => ?_) (Pn_xs h1), l3, l4]
  · have := pow_two l1.length
    rw [Int.pow_succ]
    generalize ((-1 : Int) ^ l1.length) = τ at *
    generalize pg (os l1 ++ [p] ++ os l2) = A
    generalize pg (xs l1 ++ s :: xs l2) = B
    grind
  · rcases List.mem_cons.1 hc with h | h
    · rw [h]; exact hs
    · exact Pn_xs h2 c h
  · rcases List.mem_append.1 hc with h | h
    · exact Pn_os h1 c h
    · rw [List.mem_singleton.1 h]; exact hp
theorem Sg_dest {l1 l2 : List Ar} {p s : Nat} (h1 : Ps l1) (h2 : Ps l2) (hp : 0 < p) (hs : 0 < s) (h : Sg (l1 ++ (p, 0) :: (0, s) :: l2)) : Sg ((l1 ++ (p, s) :: l2).map dn) := by
  intro S hne hcl
  let T : Nat → Prop := fun r => if r = 0 then S (s - 1) else S (r - 1)
  have hT : ∀ r, 0 < r → (T r ↔ S (r - 1)) := fun r hr => by
    show (if r = 0 then S (s - 1) else S (r - 1)) ↔ _
    rw [if_neg (by omega)]
  have hT0 : T 0 ↔ S (s - 1) := by
    show (if (0 : Nat) = 0 then S (s - 1) else S (0 - 1)) ↔ _
    rw [if_pos rfl]
  have hps : S (p - 1) → S (s - 1) := fun h => hcl (dn (p, s)) (List.mem_map_of_mem (by simp)) h
  have hall := h T (by
    obtain ⟨a', ha', hS⟩ := hne
    obtain ⟨a, ha, rfl⟩ := List.mem_map.1 ha'
    rcases List.mem_append.1 ha with hm | hm
    · exact ⟨a, by simp [hm], (hT _ (h1 a hm).1).2 hS⟩
    · rcases List.mem_cons.1 hm with hm | hm
      · subst hm
        exact ⟨(p, 0), by simp, (hT p hp).2 hS⟩
      · exact ⟨a, by simp [hm], (hT _ (h2 a hm).1).2 hS⟩) (by
    intro a ha hTa
    have two : ∀ b : Ar, b ∈ l1 ∨ b ∈ l2 → T b.1 → T b.2 := fun b hb hTb => by
      have hb2 : 0 < b.1 ∧ 0 < b.2 := by
        rcases hb with hb | hb
        · exact h1 b hb
        · exact h2 b hb
      have hbm : b ∈ l1 ++ (p, s) :: l2 := by
        rcases hb with hb | hb <;> simp [hb]
      exact (hT _ hb2.2).2 (hcl (dn b) (List.mem_map_of_mem hbm) ((hT _ hb2.1).1 hTb))
    rcases List.mem_append.1 ha with hm | hm
    · exact two a (.inl hm) hTa
    · rcases List.mem_cons.1 hm with hm | hm
      · subst hm
        exact hT0.2 (hps ((hT p hp).1 hTa))
      · rcases List.mem_cons.1 hm with hm | hm
        · subst hm
          exact (hT s hs).2 (hT0.1 hTa)
        · exact two a (.inr hm) hTa)
  intro a' ha'
  obtain ⟨a, ha, rfl⟩ := List.mem_map.1 ha'
  rcases List.mem_append.1 ha with hm | hm
  · exact (hT _ (h1 a hm).1).1 (hall a (by simp [hm]))
  · rcases List.mem_cons.1 hm with hm | hm
    · subst hm
      exact (hT p hp).1 (hall (p, 0) (by simp))
    · exact (hT _ (h2 a hm).1).1 (hall a (by simp [hm]))
theorem gd_dest {l1 l2 : List Ar} {p s : Nat} (h1 : Ps l1) (h2 : Ps l2) (hp : 0 < p) (hs : 0 < s) (g : Gd ((l1 ++ (p, s) :: l2).map dn)) : Gd (l1 ++ (p, 0) :: (0, s) :: l2) := by
  have hps : Ps (l1 ++ (p, s) :: l2) := fun a ha => by
    rcases List.mem_append.1 ha with h | h
    · exact h1 a h
    · rcases List.mem_cons.1 h with h | h
      · subst h; exact ⟨hp, hs⟩
      · exact h2 a h
  obtain ⟨⟨Q, fQ, dQ, oQ⟩, sQ, kQ⟩ := g
  have hD := dl_dest h1 h2 hp hs
  have hK := K2_dest (l2 := l2) h1 hp hs
  have hS := sg_dest h1 h2 hp hs
  have hg := Sg_dest h1 h2 hp hs
  rw [K2_dn hps, sg_dn hps] at sQ
  rw [K2_dn hps] at kQ
  have hl : (l1 ++ (p, 0) :: (0, s) :: l2).length - 1 = ((l1 ++ (p, s) :: l2).map dn).length - 1 + 1 := by simp; omega
  have hτ : (-1 : Int) ^ (l1.length + 1) = 1 ∨ (-1 : Int) ^ (l1.length + 1) = -1 := by
    generalize l1.length + 1 = k
    induction k with
    | zero => exact .inl rfl
    | succ k ih => rw [Int.pow_succ]; omega
  generalize ((-1 : Int) ^ (l1.length + 1)) = τ at *
  generalize (l1 ++ (p, s) :: l2).map dn = l' at *
  refine ⟨⟨fun e => (fun e => (-τ) * Q e) (e + 1), (fQ.mul (-τ)).sh 1, fun e => ?_, fun hsg => ?_⟩, fun f g' hfg => ?_, fun hsg => ?_⟩
  · rw [hD e, hl]
    refine Eq.trans ?_ (itM_sh (l'.length - 1 + 1) (fun e => (-τ) * Q e) 1 e).symm
    show _ = itM (l'.length - 1) (fun e => (-τ) * Q e) (e + 1) - itM (l'.length - 1) (fun e => (-τ) * Q e) (e + 1 - 1)
    rw [itM_mul, itM_mul, ← dQ, ← dQ, show e + 1 - 1 = e by omega]
    grind
  · have h := oQ (hg hsg)
    rcases hτ with e | e
    · rw [e]
      have e1 : (fun e => (fun e => (-1) * Q e) (e + 1)) = fun e => (fun e => - Q e) (e + 1) := funext fun e => by show -1 * _ = - _; omega
      rw [e1]
      exact h.neg.up
    · rw [e]
      have e1 : (fun e => (fun e => (- -1) * Q e) (e + 1)) = fun e => Q (e + 1) := funext fun e => by show - -1 * _ = _; omega
      rw [e1]
      exact h.up
  · rw [hD g', hD f, hS]
    have a1 := sQ (f + 1) g' (by omega)
    have a2 := sQ f (g' + 1) (by omega)
    rw [a1, a2]
    grind
  · obtain ⟨k, h⟩ := kQ (hg hsg)
    exact ⟨k + 1, by omega⟩
/-- The arrows turned round. -/
def sw (a : Ar) : Ar := (a.2, a.1)
def ng (v : Cl) : Cl := fun b => - v b
theorem stp_sw (a : Ar) (v : Cl) : stp (sw a) (ng v) = ng (stp a v) := by
  funext b
  unfold stp ng sw
  show - v b + hv a.1 b - hv a.2 b = -(v b + hv a.2 b - hv a.1 b)
  omega
theorem clF_sw : ∀ (l : List Ar) (v : Cl), clF (ng v) (l.map sw) = (clF v l).map fun c b => - c b
  | [], _ => rfl
  | a :: l, v => by
    show ng v :: clF (stp (sw a) (ng v)) (l.map sw) = _ :: (clF (stp a v) l).map _
    rw [stp_sw, clF_sw]; rfl
theorem dl_sw (l : List Ar) (e : Int) : dl (l.map sw) e = dl l (-e) := by
  have h := clF_sw l z0
  have hz : ng z0 = z0 := funext fun _ => rfl
  rw [hz] at h
  unfold dl
  rw [h, dt_neg, List.length_map]
theorem hh_sw (c : Nat) : ∀ l : List Ar, hh c (l.map sw) = hh c l
  | [] => rfl
  | a :: l => by
    show sn c a.1 + sn c a.2 + hh c (l.map sw) = sn c a.2 + sn c a.1 + hh c l
    rw [hh_sw c l]; omega
theorem K2_sw : ∀ l : List Ar, K2 (l.map sw) = - K2 l
  | [] => rfl
  | a :: l => by
    show sn a.1 a.2 + hh a.1 (l.map sw) - hh a.2 (l.map sw) + K2 (l.map sw) = -(sn a.2 a.1 + hh a.2 l - hh a.1 l + K2 l)
    rw [hh_sw, hh_sw, K2_sw l, sn_neg a.2 a.1]; omega
theorem sg_sw (l : List Ar) : sgL (l.map sw) = sgL l := by
  unfold sgL
  rw [show os (l.map sw) = xs l by simp [os, xs, sw, Function.comp_def], show xs (l.map sw) = os l by simp [os, xs, sw, Function.comp_def], Int.mul_comm]
theorem itM_refl : ∀ (j : Nat) (f : Cf) (e : Int), itM j f (-e) = (-1) ^ j * itM j (fun e => f (-e)) (e + (j : Int))
  | 0, f, e => by
    show f (-e) = 1 * f (-(e + 0))
    rw [show e + 0 = e by omega]; omega
  | j + 1, f, e => by
    show itM j f (-e) - itM j f (-e - 1) = _ * (itM j (fun e => f (-e)) (e + ((j + 1 : Nat) : Int)) - itM j (fun e => f (-e)) (e + ((j + 1 : Nat) : Int) - 1))
    rw [show -e - 1 = -(e + 1) by omega, itM_refl j f e, itM_refl j f (e + 1), show e + ((j + 1 : Nat) : Int) = e + 1 + (j : Int) by omega, show e + 1 + (j : Int) - 1 = e + (j : Int) by omega, Int.pow_succ]
    generalize itM j (fun e => f (-e)) (e + (j : Int)) = A
    generalize itM j (fun e => f (-e)) (e + 1 + (j : Int)) = B
    generalize ((-1 : Int) ^ j) = τ
    grind
theorem pow_cases (k : Nat) : (-1 : Int) ^ k = 1 ∨ (-1 : Int) ^ k = -1 := by
  induction k with
  | zero => exact .inl rfl
  | succ k ih => rw [Int.pow_succ]; omega
theorem Sg_sw {l : List Ar} (hx : (xs l).Perm (os l)) (h : Sg l) : Sg (l.map sw) := by
  intro S hne hcl
  have hcl2 : ∀ a ∈ l, S a.2 → S a.1 := fun a ha h => hcl (sw a) (List.mem_map_of_mem ha) h
  have h1 := h (fun r => ¬ S r)
  apply Classical.byContradiction
  intro hno
  obtain ⟨b', hb', hb2⟩ : ∃ b ∈ l.map sw, ¬ S b.1 := by
    apply Classical.byContradiction
    intro h2
    exact hno fun a ha => Classical.byContradiction fun h3 => h2 ⟨a, ha, h3⟩
  obtain ⟨b, hb, rfl⟩ := List.mem_map.1 hb'
  obtain ⟨b0, hb0, e0⟩ : ∃ c ∈ l, c.1 = b.2 := by
    have : b.2 ∈ os l := hx.subset (List.mem_map_of_mem hb)
    obtain ⟨c, hc, e⟩ := List.mem_map.1 this
    exact ⟨c, hc, e⟩
  have h2 := h1 ⟨b0, hb0, by rw [e0]; exact hb2⟩ fun a ha hna hs => hna (hcl2 a ha hs)
  obtain ⟨a', ha', hS⟩ := hne
  obtain ⟨a, ha, rfl⟩ := List.mem_map.1 ha'
  obtain ⟨c, hc, e⟩ : ∃ c ∈ l, c.1 = a.2 := by
    have : a.2 ∈ os l := hx.subset (List.mem_map_of_mem ha)
    obtain ⟨c, hc, e⟩ := List.mem_map.1 this
    exact ⟨c, hc, e⟩
  exact h2 c hc (by rw [e]; exact hS)
theorem gd_sw {l : List Ar} (hx : (xs l).Perm (os l)) (g : Gd (l.map sw)) : Gd l := by
  obtain ⟨⟨Q, fQ, dQ, oQ⟩, sQ, kQ⟩ := g
  rw [K2_sw, sg_sw] at sQ
  rw [K2_sw] at kQ
  rw [List.length_map] at dQ
  have hd : ∀ e, dl l e = dl (l.map sw) (-e) := fun e => by rw [dl_sw, Int.neg_neg]
  have hτ := pow_cases (l.length - 1)
  refine ⟨⟨fun e => (fun e => (-1) ^ (l.length - 1) * Q (-e)) (e + ((l.length - 1 : Nat) : Int)), (fQ.refl.mul _).sh _, fun e => ?_, fun hsg => ?_⟩, fun f g' hfg => ?_, fun hsg => ?_⟩
  · refine Eq.trans ?_ (itM_sh (l.length - 1) (fun e => (-1) ^ (l.length - 1) * Q (-e)) ((l.length - 1 : Nat) : Int) e).symm
    rw [itM_mul, hd, dQ, itM_refl]
  · have h := (oQ (Sg_sw hx hsg)).refl
    rcases hτ with e | e
    · rw [e]
      have e1 : (fun e => (fun e => 1 * Q (-e)) (e + ((l.length - 1 : Nat) : Int))) = fun e => (fun e => Q (-e)) (e + ((l.length - 1 : Nat) : Int)) := funext fun e => Int.one_mul _
      rw [e1]
      exact h.upN _
    · rw [e]
      have e1 : (fun e => (fun e => (-1) * Q (-e)) (e + ((l.length - 1 : Nat) : Int))) = fun e => (fun e => - Q (-e)) (e + ((l.length - 1 : Nat) : Int)) := funext fun e => Int.neg_one_mul _
      rw [e1]
      exact h.neg.upN _
  · rw [hd g', hd f]
    exact sQ (-f) (-g') (by omega)
  · obtain ⟨k, h⟩ := kQ (Sg_sw hx hsg)
    exact ⟨-k, by omega⟩
theorem gd_one : Gd [(0, 0)] := by
  have h : ∀ e, dl [(0, 0)] e = dlt e := fun e => by
    show (if e - 0 = 0 then (1 : Int) else 0) - 0 = dlt e
    rw [show e - 0 = e by omega]
    unfold dlt
    omega
  refine ⟨⟨dlt, Fs.dlt, h, fun _ => ⟨1, fun _ => 0, .inl rfl, Fs.zero, fun e => by show dlt e = 1 * dlt e + (0 - 0); omega⟩⟩, fun f g hfg => ?_, fun _ => ⟨0, rfl⟩⟩
  rw [h, h]
  have hfg : 2 * (f + g) = 0 := hfg
  show dlt g = 1 * dlt f
  unfold dlt
  by_cases e : f = 0
  · rw [if_pos e, if_pos (by omega)]; rfl
  · rw [if_neg e, if_neg (by omega)]; rfl
/-- Both signs of the lowest row in one column. -/
theorem gd_nil {l1 l2 : List Ar} (h1 : Ps l1) (h2 : Ps l2) (hn : 2 ≤ (l1 ++ (0, 0) :: l2).length) : Gd (l1 ++ (0, 0) :: l2) := by
  have hz : ∀ e, dl (l1 ++ (0, 0) :: l2) e = 0 := fun e => by
    unfold dl
    obtain ⟨m, hm⟩ : ∃ m, (l1 ++ (0, 0) :: l2).length = m + 2 := ⟨(l1 ++ (0, 0) :: l2).length - 2, by omega⟩
    rw [hm]
    refine dt_same (fun c hc => ?_) e
    rw [clF_append] at hc
    have hv01 : fnl z0 l1 0 = fnl z0 l1 1 := fnl_01 h1 rfl
    have hs : stp (0, 0) (fnl z0 l1) = fnl z0 l1 := funext fun b => by
      unfold stp
      show fnl z0 l1 b + hv 0 b - hv 0 b = fnl z0 l1 b
      omega
    rcases List.mem_append.1 hc with h | h
    · exact clF_01 h1 rfl c h
    · rcases List.mem_cons.1 h with h | h
      · rw [h]; exact hv01
      · have h : c ∈ clF (stp (0, 0) (fnl z0 l1)) l2 := h
        rw [hs] at h
        exact clF_01 h2 hv01 c h
  have hsg : ¬ Sg (l1 ++ (0, 0) :: l2) := fun h => by
    have h3 := h (fun r => r = 0) ⟨(0, 0), by simp, rfl⟩ fun a ha h0 => by
      rcases List.mem_append.1 ha with hm | hm
      · have := (h1 a hm).1; omega
      · rcases List.mem_cons.1 hm with hm | hm
        · rw [hm]
        · have := (h2 a hm).1; omega
    simp only [List.length_append, List.length_cons] at hn
    rcases l1 with _ | ⟨b, l1⟩
    · rcases l2 with _ | ⟨b, l2⟩
      · simp at hn
      · have := h3 b (by simp)
        have := (h2 b List.mem_cons_self).1
        omega
    · have := h3 b (by simp)
      have := (h1 b List.mem_cons_self).1
      omega
  refine ⟨⟨fun _ => 0, Fs.zero, fun e => by rw [hz, itM_zero], fun h => absurd h hsg⟩, fun f g _ => by rw [hz, hz, Int.mul_zero], fun h => absurd h hsg⟩

end Go.Proofs

/-
  What the functions of this part hand back: each as a plain function of its arguments. Conditions: none.
-/
namespace Go.Proofs
open Go.W8
set_option linter.unusedVariables false
set_option linter.unusedSimpArgs false
set_option linter.unusedSectionVars false
set_option maxRecDepth 8000
set_option maxHeartbeats 4000000
--@plain
/-- A grid: the rows of both signs are the first numbers in some order. -/
structure Pg (n : Nat) (l : List Ar) : Prop where
  o : (os l).Perm (List.range n)
  x : (xs l).Perm (List.range n)
theorem Pg.len {n : Nat} {l : List Ar} (h : Pg n l) : l.length = n := by
  have := h.o.length_eq
  simpa [os] using this
theorem Pg.no {n : Nat} {l : List Ar} (h : Pg n l) : (os l).Nodup := h.o.symm.nodup List.nodup_range
theorem Pg.nx {n : Nat} {l : List Ar} (h : Pg n l) : (xs l).Nodup := h.x.symm.nodup List.nodup_range
theorem Pg.sw {n : Nat} {l : List Ar} (h : Pg n l) : Pg n (l.map sw) := by
  refine ⟨?_, ?_⟩
  · rw [show os (l.map Go.Proofs.sw) = xs l by simp [os, xs, Go.Proofs.sw, Function.comp_def]]; exact h.x
  · rw [show xs (l.map Go.Proofs.sw) = os l by simp [os, xs, Go.Proofs.sw, Function.comp_def]]; exact h.o
section
variable {l1 l2 : List Ar} {a : Ar} {p r s n : Nat}
theorem Pg.b (h : Pg n (gA l1 l2 a p r s)) : Pg n (gB l1 l2 a p r s) := by
  refine ⟨List.Perm.trans ?_ h.o, List.Perm.trans ?_ h.x⟩
  · simp only [os, gA, gB, List.map_append, List.map_cons]
    exact (List.Perm.swap _ _ _).append_left _
  · simp only [xs, gA, gB, List.map_append, List.map_cons]
    exact (List.Perm.swap _ _ _).append_left _
theorem Pg.c (h : Pg n (gA l1 l2 a p r s)) : Pg n (gC l1 l2 a p r s) := by
  refine ⟨List.Perm.trans ?_ h.o, List.Perm.trans ?_ h.x⟩
  · simp only [os, gA, gC, List.map_append, List.map_cons]
    exact .refl _
  · simp only [xs, gA, gC, List.map_append, List.map_cons]
    exact (List.Perm.swap _ _ _).append_left _
theorem dn_range {l : List Nat} (h : (0 :: l).Perm (List.range (n + 1))) : (l.map (· - 1)).Perm (List.range n) := by
  rw [List.range_succ_eq_map] at h
  have h2 := (h.cons_inv).map (· - 1)
  refine h2.trans ?_
  rw [List.map_map, show ((· - 1) ∘ Nat.succ) = id from funext fun k => rfl, List.map_id]
theorem Pg.dest (h : Pg (n + 1) (l1 ++ (p, 0) :: (0, s) :: l2)) : Pg n ((l1 ++ (p, s) :: l2).map dn) := by
  refine ⟨?_, ?_⟩
  · have h2 : (0 :: (os l1 ++ p :: os l2)).Perm (List.range (n + 1)) := by
      refine List.Perm.trans ?_ h.o
      simp only [os, List.map_append, List.map_cons]
      have e : List.map (·.1) l1 ++ p :: 0 :: List.map (·.1) l2 = (List.map (·.1) l1 ++ [p]) ++ 0 :: List.map (·.1) l2 := by simp
      rw [e]
      refine List.Perm.trans ?_ List.perm_middle.symm
      simp
    have h3 := dn_range h2
    simp only [os, dn, List.map_append, List.map_cons, List.map_map, Function.comp_def] at h3 ⊢
    exact h3
  · have h2 : (0 :: (xs l1 ++ s :: xs l2)).Perm (List.range (n + 1)) := by
      refine List.Perm.trans ?_ h.x
      simp only [xs, List.map_append, List.map_cons]
      exact List.perm_middle.symm
    have h3 := dn_range h2
    simp only [xs, dn, List.map_append, List.map_cons, List.map_map, Function.comp_def] at h3 ⊢
    exact h3
end
theorem Ps.app {l1 l2 : List Ar} (h1 : Ps l1) (h2 : Ps l2) : Ps (l1 ++ l2) := fun a ha => by
  rcases List.mem_append.1 ha with h | h
  · exact h1 a h
  · exact h2 a h
theorem Ps.one {p s : Nat} (hp : 0 < p) (hs : 0 < s) : Ps [(p, s)] := fun a ha => by
  rw [List.mem_singleton.1 ha]; exact ⟨hp, hs⟩
theorem gd_left {n : Nat} (IH : ∀ l, Pg (n + 1) l → Gd l) : ∀ (d : Nat) (l1 m l2 : List Ar) (p s : Nat), m.length = d → Ps l1 → Ps m → Ps l2 → 0 < p → 0 < s → Pg (n + 2) (l1 ++ (p, 0) :: (m ++ (0, s) :: l2)) → Gd (l1 ++ (p, 0) :: (m ++ (0, s) :: l2))
  | 0, l1, m, l2, p, s, hm, h1, _, h2, hp, hs, hg => by
    obtain rfl := List.length_eq_zero_iff.1 hm
    exact gd_dest h1 h2 hp hs (IH _ hg.dest)
  | d + 1, l1, m, l2, p, s, hm, h1, hmp, h2, hp, hs, hg => by
    obtain ⟨⟨r, t⟩, m, rfl⟩ : ∃ b m', m = b :: m' := by
      cases m with
      | nil => simp at hm
      | cons b m' => exact ⟨b, m', rfl⟩
    have hm' : m.length = d := by simpa using hm
    have hrt := hmp.head
    obtain ⟨a, q, e⟩ : ∃ a q, m ++ (0, s) :: l2 = a :: q := by
      cases m with
      | nil => exact ⟨_, _, rfl⟩
      | cons b m' => exact ⟨_, _, rfl⟩
    have e0 : l1 ++ (p, 0) :: ((r, t) :: m ++ (0, s) :: l2) = gA l1 q a p r t := by
      show l1 ++ (p, 0) :: (r, t) :: (m ++ (0, s) :: l2) = _
      rw [e]; rfl
    have eB : gB l1 q a p r t = (l1 ++ [(r, t)]) ++ (p, 0) :: (m ++ (0, s) :: l2) := by
      rw [e]; simp [gB]
    have eC : gC l1 q a p r t = (l1 ++ [(p, t)]) ++ (r, 0) :: (m ++ (0, s) :: l2) := by
      rw [e]; simp [gC]
    rw [e0] at hg ⊢
    have hpr : p ≠ r := by
      have := hg.no
      simp only [os, gA, List.map_append, List.map_cons, List.nodup_append, List.nodup_cons, List.mem_cons, not_or] at this
      exact this.2.1.1.1
    refine gd_step hp hrt.1 hrt.2 hpr ?_ ?_
    · have := hg.b
      rw [eB] at this ⊢
      exact gd_left IH d _ m l2 p s hm' (h1.app (Ps.one hrt.1 hrt.2)) hmp.tail h2 hp hs this
    · have := hg.c
      rw [eC] at this ⊢
      exact gd_left IH d _ m l2 r s hm' (h1.app (Ps.one hp hrt.2)) hmp.tail h2 hrt.1 hs this
theorem nd_rest {A B : List Nat} {c : Nat} (h : (A ++ c :: B).Nodup) : ∀ d, d ∈ A ∨ d ∈ B → d ≠ c := by
  simp only [List.nodup_append, List.nodup_cons, List.mem_cons] at h
  rintro d (hd | hd) rfl
  · exact h.2.2 d hd d (.inl rfl) rfl
  · exact h.2.1.1 hd
theorem gd_all : ∀ (n : Nat) (l : List Ar), Pg (n + 1) l → Gd l
  | 0, l, hg => by
    have hl := hg.len
    obtain ⟨⟨u, v⟩, rfl⟩ := List.length_eq_one_iff.1 hl
    have h1 : u ∈ List.range 1 := hg.o.subset (by simp [os])
    have h2 : v ∈ List.range 1 := hg.x.subset (by simp [xs])
    rw [List.mem_range] at h1 h2
    obtain rfl : u = 0 := by omega
    obtain rfl : v = 0 := by omega
    exact gd_one
  | n + 1, l, hg => by
    have IH := gd_all n
    obtain ⟨⟨p, p0⟩, hpm, e0⟩ : ∃ b ∈ l, b.2 = 0 := List.mem_map.1 (hg.x.symm.subset (List.mem_range.2 (by omega)) : 0 ∈ xs l)
    obtain rfl : p0 = 0 := e0
    obtain ⟨A, B, rfl⟩ := List.append_of_mem hpm
    have hx := hg.nx
    have ho := hg.no
    rw [show xs (A ++ (p, 0) :: B) = xs A ++ 0 :: xs B by simp [xs]] at hx
    rw [show os (A ++ (p, 0) :: B) = os A ++ p :: os B by simp [os]] at ho
    have hx := nd_rest hx
    have ho' := nd_rest ho
    have xA : ∀ b ∈ A, 0 < b.2 := fun b hb => Nat.pos_of_ne_zero (hx _ (.inl (List.mem_map_of_mem hb)))
    have xB : ∀ b ∈ B, 0 < b.2 := fun b hb => Nat.pos_of_ne_zero (hx _ (.inr (List.mem_map_of_mem hb)))
    by_cases hp : p = 0
    · subst hp
      exact gd_nil (fun b hb => ⟨Nat.pos_of_ne_zero (ho' _ (.inl (List.mem_map_of_mem hb))), xA b hb⟩) (fun b hb => ⟨Nat.pos_of_ne_zero (ho' _ (.inr (List.mem_map_of_mem hb))), xB b hb⟩) (by rw [hg.len]; omega)
    · have hp : 0 < p := Nat.pos_of_ne_zero hp
      obtain ⟨⟨s0, s⟩, hsm, e1⟩ : ∃ b ∈ A ++ (p, 0) :: B, b.1 = 0 := List.mem_map.1 (hg.o.symm.subset (List.mem_range.2 (by omega)) : 0 ∈ os (A ++ (p, 0) :: B))
      obtain rfl : s0 = 0 := e1
      rcases List.mem_append.1 hsm with h | h
      · have hs := xA _ h
        obtain ⟨A, m, rfl⟩ := List.append_of_mem h
        rw [show os (A ++ (0, s) :: m) ++ p :: os B = os A ++ 0 :: (os m ++ p :: os B) by simp [os]] at ho
        have ho := nd_rest ho
        have hs' := hg.sw
        have e : (A ++ (0, s) :: m ++ (p, 0) :: B).map sw = A.map sw ++ (s, 0) :: (m.map sw ++ (0, p) :: B.map sw) := by simp [sw]
        refine gd_sw (hg.x.trans hg.o.symm) ?_
        rw [e] at hs' ⊢
        have swp : ∀ {C : List Ar}, (∀ b ∈ C, 0 < b.2) → (∀ b ∈ C, 0 < b.1) → Ps (C.map sw) := fun h1 h2 b hb => by
          obtain ⟨c, hc, rfl⟩ := List.mem_map.1 hb
          exact ⟨h1 c hc, h2 c hc⟩
        refine gd_left IH _ _ _ _ s p rfl (swp (fun b hb => xA b (by simp [hb])) fun b hb => Nat.pos_of_ne_zero (ho _ (.inl (List.mem_map_of_mem hb)))) (swp (fun b hb => xA b (by simp [hb])) fun b hb => Nat.pos_of_ne_zero (ho _ (.inr (List.mem_append_left _ (List.mem_map_of_mem hb))))) (swp xB fun b hb => Nat.pos_of_ne_zero (ho _ (.inr (List.mem_append_right _ (List.mem_cons_of_mem _ (List.mem_map_of_mem hb)))))) hs hp hs'
      · have h : (0, s) ∈ B := by
          rcases List.mem_cons.1 h with h | h
          · cases h; omega
          · exact h
        have hs := xB _ h
        obtain ⟨m, B, rfl⟩ := List.append_of_mem h
        rw [show os A ++ p :: os (m ++ (0, s) :: B) = (os A ++ p :: os m) ++ 0 :: os B by simp [os]] at ho
        have ho := nd_rest ho
        exact gd_left IH _ A m B p s rfl (fun b hb => ⟨Nat.pos_of_ne_zero (ho _ (.inl (List.mem_append_left _ (List.mem_map_of_mem hb)))), xA b hb⟩) (fun b hb => ⟨Nat.pos_of_ne_zero (ho _ (.inl (List.mem_append_right _ (List.mem_cons_of_mem _ (List.mem_map_of_mem hb))))), xB b (by simp [hb])⟩) (fun b hb => ⟨Nat.pos_of_ne_zero (ho _ (.inr (List.mem_map_of_mem hb))), xB b (by simp [hb])⟩) hp hs hg

end Go.Proofs

