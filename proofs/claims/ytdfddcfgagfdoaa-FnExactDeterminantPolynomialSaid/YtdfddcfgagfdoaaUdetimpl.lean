/-
  What the functions of this part hand back: each as a plain function of its arguments. Conditions: none.
-/
import Derived.Test.YtdfddcfgagfdoaaFx
import Derived.Test.YtdfddcfgagfdoaaUplaindp
import Derived.Test.YtdfddcfgagfdoaaUdetspec
import Derived.Test.YtdfddcfgagfdoaaUwindingimpl
import Derived.Test.YtdfddcfgagfdoaaUorder
namespace Go.Proofs
open Go.W8
set_option linter.unusedVariables false
set_option linter.unusedSimpArgs false
set_option linter.unusedSectionVars false
set_option maxRecDepth 8000
set_option maxHeartbeats 4000000
theorem made_rep {k : IntKind} {m n : Nat} (hm : 0 < m) : (madeCells (ints k (List.replicate m 0)).toArray n).toList = ints k (List.replicate n 0) := by
  unfold madeCells
  apply List.ext_getElem?
  intro i
  have hs : ∀ j, j < m → (ints k (List.replicate m 0)).toArray[j]! = .int k 0 := by
    intro j hj
    have : (ints k (List.replicate m 0)).toArray = (List.replicate m (Value.int k 0)).toArray := by simp [ints]
    rw [this]
    simp [hj]
  by_cases h : i < n
  · simp only [Array.toList_map, Array.toList_range, List.getElem?_map, List.getElem?_range h, Option.map_some, List.size_toArray, ints_length, List.length_replicate]
    rw [hs _ (Nat.mod_lt _ hm)]
    simp [ints, h]
  · simp [ints, h]
theorem ints_agg {k : IntKind} {l : List Int} {i : Nat} (h : i < l.length) : (ints k l).toArray.getD i undef = .int k (l.getD i 0) := by
  rw [Array.getD_eq_getD_getElem?, List.getElem?_toArray, ints_get h]; rfl
theorem sub_ints {k : IntKind} {l : List Int} {o n : Nat} : subL (ints k l) o n = ints k ((l.drop o).take n) := by simp [subL, ints]
def detF (n : Nat) (x o : List Int) : List Int := prow (dBs n (wtG x o) (2 ^ n - 1))
theorem detF_same {n : Nat} (x o : List Int) (hn : n ≤ 8) : trimLow (-64) (detF n x o) = detLow n x o ∧ trimL (detF n x o) = detL n x o := by
  have hw : ∀ r a, a < n → -8 ≤ wtG x o r a ∧ wtG x o r a ≤ 8 := fun r a ha => wtG_bound x o r a (by omega)
  have hall : ∀ a, a < n → bitsS (2 ^ n - 1) a = true := fun a ha => by unfold bitsS; rw [Nat.testBit_two_pow_sub_one]; exact decide_eq_true ha
  have hcb : cb (bitsS (2 ^ n - 1)) n = n := cb_all hall
  have hAB : ∀ e, dA n (wtG x o) n 0 (freeS (List.replicate 8 false)) e = dB n (wtG x o) n 0 (bitsS (2 ^ n - 1)) e := fun e => by
    rw [← dA_dB n (wtG x o) n n (Nat.le_refl _) 0 _ hcb]
    refine dA_congr n 0 _ _ e fun a ha => ?_
    rw [hall a ha]
    unfold freeS
    rw [List.getD_eq_getElem?_getD, List.getElem?_replicate, if_pos (by omega)]
    rfl
  refine trim_eq fun e => ?_
  have h1 : coefAt (-64) (detF n x o) e = dB n (wtG x o) n 0 (bitsS (2 ^ n - 1)) e := by
    unfold coefAt
    by_cases h : (-64 : Int) ≤ e
    · rw [if_pos h]
      by_cases h2 : (e - -64).toNat < 129
      · unfold detF
        rw [prow_get h2]
        unfold dBs
        rw [hcb, show (((e - -64).toNat : Nat) : Int) - 64 = e by omega]
      · rw [getD_far (by unfold detF; rw [prow_len]; omega), dB_far8 hw n (.inr (by omega))]
    · rw [if_neg h, dB_far8 hw n (.inl (by omega))]
  have h2 : coefAt (-8 * (n : Int)) (detC n x o) e = dB n (wtG x o) n 0 (bitsS (2 ^ n - 1)) e := by
    unfold coefAt
    by_cases h : -8 * (n : Int) ≤ e
    · rw [if_pos h]
      by_cases h2 : (e - -8 * (n : Int)).toNat < 16 * n + 1
      · unfold detC
        rw [cntL_get (by rw [List.length_replicate]; exact h2), List.getD_eq_getElem?_getD, List.getElem?_replicate, if_pos h2, hAB, show (((e - -8 * (n : Int)).toNat : Nat) : Int) - 0 - 8 * (n : Int) = e by omega]
        simp
      · rw [getD_far (by rw [detC_len]; omega), dB_far8 hw n (.inr (by omega))]
    · rw [if_neg h, dB_far8 hw n (.inl (by omega))]
  rw [h1, h2]
theorem cb_none {S : Nat → Bool} (h : ∀ a, S a = false) : ∀ k, cb S k = 0
  | 0 => rfl
  | k + 1 => by
    show cb S k + (if S k = true then 1 else 0) = 0
    rw [cb_none h k, h k]; rfl
theorem dBs_zero (n : Nat) (w : Nat → Nat → Int) (k : Nat) : dBs n w 0 k = if k = 64 then 1 else 0 := by
  unfold dBs
  rw [cb_none (S := bitsS 0) (fun a => Nat.zero_testBit a)]
  show (if _ then (1 : Int) else 0) = _
  by_cases h : k = 64
  · rw [if_pos h, if_pos (by omega)]
  · rw [if_neg h, if_neg (by omega)]
theorem mtab_start {N : Nat} (h : 0 < N) (n : Nat) (w : Nat → Nat → Int) : (List.replicate (N * 129) (0 : Int)).set 64 1 = mtab N (mF n w 1 (fun _ => 0)) := by
  rw [← mtab_zero (N := N)]
  have := mtab_set (N := N) (F := fun _ _ => 0) (s := 0) (k := 64) (v := 1) h (by decide)
  rw [show (0 : Nat) * 129 + 64 = 64 from rfl] at this
  rw [this]
  refine mtab_congr fun s hs k hk => ?_
  unfold mF
  by_cases h0 : s = 0
  · subst h0
    rw [if_pos (by decide : 0 < 1), dBs_zero]
    by_cases hk : k = 64
    · rw [if_pos ⟨rfl, hk⟩, if_pos hk]
    · rw [if_neg (fun h => hk h.2), if_neg hk]
  · rw [if_neg (fun h => h0 h.1), if_neg (by omega)]
    split <;> rfl
section
variable (n : Nat) (x o : List Int) (hx : Bytes8 x) (ho : Bytes8 o) (hn : n ≤ 8) (hn2 : 2 ≤ n)
include hx ho hn hn2
theorem determinant_c : GivesX Try.prog 119 #[.agg (gc (n : Int) x o).toArray] [] [] (LauV (detLow n x o) (detL n x o)) := by
  have hl := hx.len
  have hm := ho.len
  have hw : ∀ r a, a < n → -8 ≤ wtG x o r a ∧ wtG x o r a ≤ 8 := fun r a ha => wtG_bound x o r a (by omega)
  have hN8 : 2 ^ n ≤ 256 := Nat.pow_le_pow_right (n := 2) (by decide) hn
  have hN4 : 4 ≤ 2 ^ n := Nat.pow_le_pow_right (n := 2) (by decide) hn2
  have ew := bitW n (by omega)
  have hall : ∀ s, s < 2 ^ n → ∀ c, n ≤ c → bitsS s c = false := fun s hs c hc => Nat.testBit_lt_two_pow (Nat.lt_of_lt_of_le hs (Nat.pow_le_pow_right (by decide) hc))
  rw [← (detF_same x o hn).1, ← (detF_same x o hn).2]
  unfold detF
  generalize hNN : 2 ^ n = N at *
  refine GivesX.part ?_
  skip
  refine GivesX.of (callable_of Try.func119 rfl (by decide)) ?_ fun w hnd hlt hR => ?_
  · simp
  refine acall_of (N := 92) (c := _) (rs := [.cell 2 56]) (args := [_]) Try.func119 rfl (by decide) rfl rfl (Nat.le_of_ble_eq_true rfl) ?_
  refine Cd.rs [1, 2] fun K hK => ?_
  simp (maxSteps := 2000000) (disch := first | (simp only [E4, hl, hm, ew] <;> omega) | omega | fail) only [↓E2, E3, bare, bareJ, ↓E0, E1, evP, evPlan, env0, envN, evOps, evOp, evQs, evQ, evV, setD, pureOp, ev, upd, updL, gate, binW, eqOp, binV, intOp, shOp, boolOp, unV, convV, nilV, fieldAddrV, indexAddrV, extractV, cellAt, cellsAt, findB, setB, fillL, buildV, Value.cells, lenV, minV, maxV, hav, sliceV, loV, hiV, bslQ, mksQ, appQ, partsOk, partsCells, delB, eqL, SameI, strOp, apzQ, cvtQ, capV, ↓reduceIte, Zj, Zk, Nat.reduceAdd, Nat.reduceLT, Nat.reduceEqDiff, Nat.reduceMul, Nat.reduceLeDiff, if_true, Zn, reduceCtorEq, ZA, eq_self, Int.reduceLE, Int.reduceLT, Int.reduceToNat, ne_eq, Nat.reduceSub, Tzero56, hl, hm, ew]
  repeat refine And.intro (by omega) ?_
  intro b1 hb1
  intro b2 hb2
  have nb2_b1 := hb2.ne
  try simp (maxSteps := 2000000) (disch := first | (simp only [E4, hl, hm, ew, nb2_b1] <;> omega) | omega | fail) only [↓E2, E3, bare, bareJ, ↓E0, E1, evP, evPlan, env0, envN, evOps, evOp, evQs, evQ, evV, setD, pureOp, ev, upd, updL, gate, binW, eqOp, binV, intOp, shOp, boolOp, unV, convV, nilV, fieldAddrV, indexAddrV, extractV, cellAt, cellsAt, findB, setB, fillL, buildV, Value.cells, lenV, minV, maxV, hav, sliceV, loV, hiV, bslQ, mksQ, appQ, partsOk, partsCells, delB, eqL, SameI, strOp, apzQ, cvtQ, capV, ↓reduceIte, Zj, Zk, Nat.reduceAdd, Nat.reduceLT, Nat.reduceEqDiff, Nat.reduceMul, Nat.reduceLeDiff, if_true, Zn, reduceCtorEq, ZA, eq_self, Int.reduceLE, Int.reduceLT, Int.reduceToNat, ne_eq, Nat.reduceSub, Tzero56, hl, hm, ew, nb2_b1]
  repeat refine And.intro (by omega) ?_
  repeat refine And.intro (by omega) ?_
  intro g
  simp only [List.map_cons, List.map_nil, updL, upd, Nat.reduceEqDiff, if_true, if_false, ↓reduceIte]
  refine hK _ _ ?_; clear hK K
  have n2 : ¬ b2 = b1 := hb2.2 (b1, gc (n : Int) x o) (by simp)
  skip
  skip
  refine Cd.rs [1, 2, 3] fun K hK => ?_
  simp (maxSteps := 2000000) (disch := first | (simp only [E4, hl, hm, ew, nb2_b1, n2] <;> omega) | omega | fail) only [↓E2, E3, bare, bareJ, ↓E0, E1, evP, evPlan, env0, envN, evOps, evOp, evQs, evQ, evV, setD, pureOp, ev, upd, updL, gate, binW, eqOp, binV, intOp, shOp, boolOp, unV, convV, nilV, fieldAddrV, indexAddrV, extractV, cellAt, cellsAt, findB, setB, fillL, buildV, Value.cells, lenV, minV, maxV, hav, sliceV, loV, hiV, bslQ, mksQ, appQ, partsOk, partsCells, delB, eqL, SameI, strOp, apzQ, cvtQ, capV, ↓reduceIte, Zj, Zk, Nat.reduceAdd, Nat.reduceLT, Nat.reduceEqDiff, Nat.reduceMul, Nat.reduceLeDiff, if_true, Zn, reduceCtorEq, ZA, eq_self, Int.reduceLE, Int.reduceLT, Int.reduceToNat, ne_eq, Nat.reduceSub, Tld32, hl, hm, ew, nb2_b1, n2]
  repeat refine And.intro (by omega) ?_
  refine callK_gives (n_c _ _ _ hl hm) ?_
  simp (maxSteps := 2000000) (disch := first | (simp only [E4, hl, hm, ew, nb2_b1, n2] <;> omega) | omega | fail) only [↓E2, E3, bare, bareJ, ↓E0, E1, evP, evPlan, env0, envN, evOps, evOp, evQs, evQ, evV, setD, pureOp, ev, upd, updL, gate, binW, eqOp, binV, intOp, shOp, boolOp, unV, convV, nilV, fieldAddrV, indexAddrV, extractV, cellAt, cellsAt, findB, setB, fillL, buildV, Value.cells, lenV, minV, maxV, hav, sliceV, loV, hiV, bslQ, mksQ, appQ, partsOk, partsCells, delB, eqL, SameI, strOp, apzQ, cvtQ, capV, ↓reduceIte, Zj, Zk, Nat.reduceAdd, Nat.reduceLT, Nat.reduceEqDiff, Nat.reduceMul, Nat.reduceLeDiff, if_true, Zn, reduceCtorEq, ZA, eq_self, Int.reduceLE, Int.reduceLT, Int.reduceToNat, ne_eq, Nat.reduceSub, Tld32, hl, hm, ew, nb2_b1, n2]
  repeat refine And.intro (by omega) ?_
  repeat refine And.intro (by omega) ?_
  intro g
  simp only [List.map_cons, List.map_nil, updL, upd, Nat.reduceEqDiff, if_true, if_false, ↓reduceIte]
  refine hK _ _ ?_; clear hK K
  refine Cd.rs [1, 2, 3, 4] fun K hK => ?_
  simp (maxSteps := 2000000) (disch := first | (simp only [E4, hl, hm, ew, nb2_b1, n2] <;> omega) | omega | fail) only [↓E2, E3, bare, bareJ, ↓E0, E1, evP, evPlan, env0, envN, evOps, evOp, evQs, evQ, evV, setD, pureOp, ev, upd, updL, gate, binW, eqOp, binV, intOp, shOp, boolOp, unV, convV, nilV, fieldAddrV, indexAddrV, extractV, cellAt, cellsAt, findB, setB, fillL, buildV, Value.cells, lenV, minV, maxV, hav, sliceV, loV, hiV, bslQ, mksQ, appQ, partsOk, partsCells, delB, eqL, SameI, strOp, apzQ, cvtQ, capV, ↓reduceIte, Zj, Zk, Nat.reduceAdd, Nat.reduceLT, Nat.reduceEqDiff, Nat.reduceMul, Nat.reduceLeDiff, if_true, Zn, reduceCtorEq, ZA, eq_self, Int.reduceLE, Int.reduceLT, Int.reduceToNat, ne_eq, Nat.reduceSub, Tby166, Tslc164, Tslce164, Tzero166, hl, hm, ew, nb2_b1, n2]
  repeat refine And.intro (by omega) ?_
  intro b3 hb3
  have nb3_b2 := hb3.ne
  have nb3_b1 := hb3.tail.ne
  try simp (maxSteps := 2000000) (disch := first | (simp only [E4, hl, hm, ew, nb2_b1, n2, nb3_b2, nb3_b1] <;> omega) | omega | fail) only [↓E2, E3, bare, bareJ, ↓E0, E1, evP, evPlan, env0, envN, evOps, evOp, evQs, evQ, evV, setD, pureOp, ev, upd, updL, gate, binW, eqOp, binV, intOp, shOp, boolOp, unV, convV, nilV, fieldAddrV, indexAddrV, extractV, cellAt, cellsAt, findB, setB, fillL, buildV, Value.cells, lenV, minV, maxV, hav, sliceV, loV, hiV, bslQ, mksQ, appQ, partsOk, partsCells, delB, eqL, SameI, strOp, apzQ, cvtQ, capV, ↓reduceIte, Zj, Zk, Nat.reduceAdd, Nat.reduceLT, Nat.reduceEqDiff, Nat.reduceMul, Nat.reduceLeDiff, if_true, Zn, reduceCtorEq, ZA, eq_self, Int.reduceLE, Int.reduceLT, Int.reduceToNat, ne_eq, Nat.reduceSub, Tby166, Tslc164, Tslce164, Tzero166, hl, hm, ew, nb2_b1, n2, nb3_b2, nb3_b1]
  repeat refine And.intro (by omega) ?_
  rw [made_rep (by decide)]
  repeat refine And.intro (by omega) ?_
  intro g
  simp only [List.map_cons, List.map_nil, updL, upd, Nat.reduceEqDiff, if_true, if_false, ↓reduceIte]
  refine hK _ _ ?_; clear hK K
  refine Cd.rs [1, 2, 3, 4] fun K hK => ?_
  simp (maxSteps := 2000000) (disch := first | (simp only [E4, hl, hm, ew, nb2_b1, n2, nb3_b2, nb3_b1] <;> omega) | omega | fail) only [↓E2, E3, bare, bareJ, ↓E0, E1, evP, evPlan, env0, envN, evOps, evOp, evQs, evQ, evV, setD, pureOp, ev, upd, updL, gate, binW, eqOp, binV, intOp, shOp, boolOp, unV, convV, nilV, fieldAddrV, indexAddrV, extractV, cellAt, cellsAt, findB, setB, fillL, buildV, Value.cells, lenV, minV, maxV, hav, sliceV, loV, hiV, bslQ, mksQ, appQ, partsOk, partsCells, delB, eqL, SameI, strOp, apzQ, cvtQ, capV, ↓reduceIte, Zj, Zk, Nat.reduceAdd, Nat.reduceLT, Nat.reduceEqDiff, Nat.reduceMul, Nat.reduceLeDiff, if_true, Zn, reduceCtorEq, ZA, eq_self, Int.reduceLE, Int.reduceLT, Int.reduceToNat, ne_eq, Nat.reduceSub, Tarr166, Tslc164, Tst2, hl, hm, ew, nb2_b1, n2, nb3_b2, nb3_b1]
  repeat refine And.intro (by omega) ?_
  have est := mtab_start (N := N) (by omega) n (wtG x o)
  simp (maxSteps := 2000000) (disch := first | (simp only [E4, hl, hm, ew, nb2_b1, n2, nb3_b2, nb3_b1, est] <;> omega) | omega | fail) only [↓E2, E3, bare, bareJ, ↓E0, E1, evP, evPlan, env0, envN, evOps, evOp, evQs, evQ, evV, setD, pureOp, ev, upd, updL, gate, binW, eqOp, binV, intOp, shOp, boolOp, unV, convV, nilV, fieldAddrV, indexAddrV, extractV, cellAt, cellsAt, findB, setB, fillL, buildV, Value.cells, lenV, minV, maxV, hav, sliceV, loV, hiV, bslQ, mksQ, appQ, partsOk, partsCells, delB, eqL, SameI, strOp, apzQ, cvtQ, capV, ↓reduceIte, Zj, Zk, Nat.reduceAdd, Nat.reduceLT, Nat.reduceEqDiff, Nat.reduceMul, Nat.reduceLeDiff, if_true, Zn, reduceCtorEq, ZA, eq_self, Int.reduceLE, Int.reduceLT, Int.reduceToNat, ne_eq, Nat.reduceSub, Tarr166, Tslc164, Tst2, hl, hm, ew, nb2_b1, n2, nb3_b2, nb3_b1, est]
  repeat refine And.intro (by omega) ?_
  repeat refine And.intro (by omega) ?_
  intro g
  simp only [List.map_cons, List.map_nil, updL, upd, Nat.reduceEqDiff, if_true, if_false, ↓reduceIte]
  refine hK _ _ ?_; clear hK K
  refine Cd.seq ?_
  refine Cd.rs [1, 2, 3, 4, 5] fun K hK => ?_
  simp (maxSteps := 2000000) (disch := first | (simp only [E4, hl, hm, ew, nb2_b1, n2, nb3_b2, nb3_b1] <;> omega) | omega | fail) only [↓E2, E3, bare, bareJ, ↓E0, E1, evP, evPlan, env0, envN, evOps, evOp, evQs, evQ, evV, setD, pureOp, ev, upd, updL, gate, binW, eqOp, binV, intOp, shOp, boolOp, unV, convV, nilV, fieldAddrV, indexAddrV, extractV, cellAt, cellsAt, findB, setB, fillL, buildV, Value.cells, lenV, minV, maxV, hav, sliceV, loV, hiV, bslQ, mksQ, appQ, partsOk, partsCells, delB, eqL, SameI, strOp, apzQ, cvtQ, capV, ↓reduceIte, Zj, Zk, Nat.reduceAdd, Nat.reduceLT, Nat.reduceEqDiff, Nat.reduceMul, Nat.reduceLeDiff, if_true, Zn, reduceCtorEq, ZA, eq_self, Int.reduceLE, Int.reduceLT, Int.reduceToNat, ne_eq, Nat.reduceSub, hl, hm, ew, nb2_b1, n2, nb3_b2, nb3_b1]
  repeat refine And.intro (by omega) ?_
  repeat refine And.intro (by omega) ?_
  intro g
  simp only [List.map_cons, List.map_nil, updL, upd, Nat.reduceEqDiff, if_true, if_false, ↓reduceIte]
  refine hK _ _ ?_; clear hK K
  refine Cd.block ?_
  refine Cd.loop (fun q ρ M => ∃ g s, s + q = N ∧ 0 < s ∧ ρ = updL [(1, .pointer (some ⟨b1, 0, none⟩)), (2, .pointer (some ⟨b2, 0, none⟩)), (3, .int .i64 (n : Int)), (4, .slice (some ⟨b3, 0, none⟩) N N), (5, .int .i64 (s : Int))] g ∧
    M = [(b3, ints .i64 (mtab N (mF n (wtG x o) s (fun _ => 0)))), (b2, [.int .i64 0, .slice none 0 0]), (b1, gc (n : Int) x o)]) (N - 1) ⟨_, 1, by omega, by decide, rfl, rfl⟩ ?_
  rintro q ρ M ⟨g, s, hs, hs0, rfl, rfl⟩
  refine Cd.seq ?_
  refine Cd.rs [1, 2, 3, 4, 5, 25] fun K hK => ?_
  simp (maxSteps := 2000000) (disch := first | (simp only [E4, hl, hm, ew, nb2_b1, n2, nb3_b2, nb3_b1] <;> omega) | omega | fail) only [↓E2, E3, bare, bareJ, ↓E0, E1, evP, evPlan, env0, envN, evOps, evOp, evQs, evQ, evV, setD, pureOp, ev, upd, updL, gate, binW, eqOp, binV, intOp, shOp, boolOp, unV, convV, nilV, fieldAddrV, indexAddrV, extractV, cellAt, cellsAt, findB, setB, fillL, buildV, Value.cells, lenV, minV, maxV, hav, sliceV, loV, hiV, bslQ, mksQ, appQ, partsOk, partsCells, delB, eqL, SameI, strOp, apzQ, cvtQ, capV, ↓reduceIte, Zj, Zk, Nat.reduceAdd, Nat.reduceLT, Nat.reduceEqDiff, Nat.reduceMul, Nat.reduceLeDiff, if_true, Zn, reduceCtorEq, ZA, eq_self, Int.reduceLE, Int.reduceLT, Int.reduceToNat, ne_eq, Nat.reduceSub, hl, hm, ew, nb2_b1, n2, nb3_b2, nb3_b1]
  repeat refine And.intro (by omega) ?_
  repeat refine And.intro (by omega) ?_
  intro g
  simp only [List.map_cons, List.map_nil, updL, upd, Nat.reduceEqDiff, if_true, if_false, ↓reduceIte]
  refine hK _ _ ?_; clear hK K
  refine Cd.condd rfl (fun h1 => ?_) (fun h1 => ?_)
  · refine Cd.skip ?_
    refine thenN ?_
    refine Cd.seq ?_
    refine Cd.block ?_
    refine Cd.rs [1, 2, 3, 4, 5, 6] fun K hK => ?_
    simp (maxSteps := 2000000) (disch := first | (simp only [E4, hl, hm, ew, nb2_b1, n2, nb3_b2, nb3_b1] <;> omega) | omega | fail) only [↓E2, E3, bare, bareJ, ↓E0, E1, evP, evPlan, env0, envN, evOps, evOp, evQs, evQ, evV, setD, pureOp, ev, upd, updL, gate, binW, eqOp, binV, intOp, shOp, boolOp, unV, convV, nilV, fieldAddrV, indexAddrV, extractV, cellAt, cellsAt, findB, setB, fillL, buildV, Value.cells, lenV, minV, maxV, hav, sliceV, loV, hiV, bslQ, mksQ, appQ, partsOk, partsCells, delB, eqL, SameI, strOp, apzQ, cvtQ, capV, ↓reduceIte, Zj, Zk, Nat.reduceAdd, Nat.reduceLT, Nat.reduceEqDiff, Nat.reduceMul, Nat.reduceLeDiff, if_true, Zn, reduceCtorEq, ZA, eq_self, Int.reduceLE, Int.reduceLT, Int.reduceToNat, ne_eq, Nat.reduceSub, hl, hm, ew, nb2_b1, n2, nb3_b2, nb3_b1]
    repeat refine And.intro (by omega) ?_
    repeat refine And.intro (by omega) ?_
    intro g
    simp only [List.map_cons, List.map_nil, updL, upd, Nat.reduceEqDiff, if_true, if_false, ↓reduceIte]
    refine hK _ _ ?_; clear hK K
    refine Cd.seq ?_
    refine Cd.rs [1, 2, 3, 4, 5, 6, 28, 29] fun K hK => ?_
    simp (maxSteps := 2000000) (disch := first | (simp only [E4, hl, hm, ew, nb2_b1, n2, nb3_b2, nb3_b1] <;> omega) | omega | fail) only [↓E2, E3, bare, bareJ, ↓E0, E1, evP, evPlan, env0, envN, evOps, evOp, evQs, evQ, evV, setD, pureOp, ev, upd, updL, gate, binW, eqOp, binV, intOp, shOp, boolOp, unV, convV, nilV, fieldAddrV, indexAddrV, extractV, cellAt, cellsAt, findB, setB, fillL, buildV, Value.cells, lenV, minV, maxV, hav, sliceV, loV, hiV, bslQ, mksQ, appQ, partsOk, partsCells, delB, eqL, SameI, strOp, apzQ, cvtQ, capV, ↓reduceIte, Zj, Zk, Nat.reduceAdd, Nat.reduceLT, Nat.reduceEqDiff, Nat.reduceMul, Nat.reduceLeDiff, if_true, Zn, reduceCtorEq, ZA, eq_self, Int.reduceLE, Int.reduceLT, Int.reduceToNat, ne_eq, Nat.reduceSub, hl, hm, ew, nb2_b1, n2, nb3_b2, nb3_b1]
    repeat refine And.intro (by omega) ?_
    repeat refine And.intro (by omega) ?_
    intro g
    simp only [List.map_cons, List.map_nil, updL, upd, Nat.reduceEqDiff, if_true, if_false, ↓reduceIte]
    refine hK _ _ ?_; clear hK K
    refine Cd.block ?_
    refine Cd.loop (fun q ρ M => ∃ g i, i + q = n ∧ ρ = updL [(1, .pointer (some ⟨b1, 0, none⟩)), (2, .pointer (some ⟨b2, 0, none⟩)), (3, .int .i64 (n : Int)), (4, .slice (some ⟨b3, 0, none⟩) N N), (5, .int .i64 (s : Int)), (6, .int .i64 (((cb (bitsS s) i : Nat) : Int) - 1)), (28, .int .i64 (n : Int)), (29, .int .i64 (i : Int))] g ∧
      M = [(b3, ints .i64 (mtab N (mF n (wtG x o) s (fun _ => 0)))), (b2, [.int .i64 0, .slice none 0 0]), (b1, gc (n : Int) x o)]) n ⟨_, 0, Nat.zero_add _, rfl, rfl⟩ ?_
    rintro q2 ρ M ⟨g, i, hi, rfl, rfl⟩
    refine Cd.rs [1, 2, 3, 4, 5, 6, 28, 29, 30] fun K hK => ?_
    simp (maxSteps := 2000000) (disch := first | (simp only [E4, hl, hm, ew, nb2_b1, n2, nb3_b2, nb3_b1] <;> omega) | omega | fail) only [↓E2, E3, bare, bareJ, ↓E0, E1, evP, evPlan, env0, envN, evOps, evOp, evQs, evQ, evV, setD, pureOp, ev, upd, updL, gate, binW, eqOp, binV, intOp, shOp, boolOp, unV, convV, nilV, fieldAddrV, indexAddrV, extractV, cellAt, cellsAt, findB, setB, fillL, buildV, Value.cells, lenV, minV, maxV, hav, sliceV, loV, hiV, bslQ, mksQ, appQ, partsOk, partsCells, delB, eqL, SameI, strOp, apzQ, cvtQ, capV, ↓reduceIte, Zj, Zk, Nat.reduceAdd, Nat.reduceLT, Nat.reduceEqDiff, Nat.reduceMul, Nat.reduceLeDiff, if_true, Zn, reduceCtorEq, ZA, eq_self, Int.reduceLE, Int.reduceLT, Int.reduceToNat, ne_eq, Nat.reduceSub, hl, hm, ew, nb2_b1, n2, nb3_b2, nb3_b1]
    repeat refine And.intro (by omega) ?_
    repeat refine And.intro (by omega) ?_
    intro g
    simp only [List.map_cons, List.map_nil, updL, upd, Nat.reduceEqDiff, if_true, if_false, ↓reduceIte]
    refine hK _ _ ?_; clear hK K
    refine Cd.seq ?_
    refine Cd.condd rfl (fun h2 => ?_) (fun h2 => ?_)
    · have hcb := cb_le (bitsS s) i
      have ebv := bitV s (by omega) i (by omega)
      have ecb : ((cb (bitsS s) (i + 1) : Nat) : Int) = ((cb (bitsS s) i : Nat) : Int) + (if s.testBit i then 1 else 0) := by
        show ((cb (bitsS s) i + (if bitsS s i = true then 1 else 0) : Nat) : Int) = _
        unfold bitsS
        split <;> omega
      have eb2 : 0 ≤ (if s.testBit i then (1 : Int) else 0) ∧ (if s.testBit i then (1 : Int) else 0) ≤ 1 := by split <;> omega
      generalize (if s.testBit i then (1 : Int) else 0) = bv at *
      refine Cd.skip ?_
      refine thenN ?_
      refine Cd.seq ?_
      refine Cd.block ?_
      refine Cd.rs [1, 2, 3, 4, 5, 6, 7, 28, 29] fun K hK => ?_
      simp (maxSteps := 2000000) (disch := first | (simp only [E4, hl, hm, ew, nb2_b1, n2, nb3_b2, nb3_b1] <;> omega) | omega | fail) only [↓E2, E3, bare, bareJ, ↓E0, E1, evP, evPlan, env0, envN, evOps, evOp, evQs, evQ, evV, setD, pureOp, ev, upd, updL, gate, binW, eqOp, binV, intOp, shOp, boolOp, unV, convV, nilV, fieldAddrV, indexAddrV, extractV, cellAt, cellsAt, findB, setB, fillL, buildV, Value.cells, lenV, minV, maxV, hav, sliceV, loV, hiV, bslQ, mksQ, appQ, partsOk, partsCells, delB, eqL, SameI, strOp, apzQ, cvtQ, capV, ↓reduceIte, Zj, Zk, Nat.reduceAdd, Nat.reduceLT, Nat.reduceEqDiff, Nat.reduceMul, Nat.reduceLeDiff, if_true, Zn, reduceCtorEq, ZA, eq_self, Int.reduceLE, Int.reduceLT, Int.reduceToNat, ne_eq, Nat.reduceSub, hl, hm, ew, nb2_b1, n2, nb3_b2, nb3_b1]
      repeat refine And.intro (by omega) ?_
      repeat refine And.intro (by omega) ?_
      intro g
      simp only [List.map_cons, List.map_nil, updL, upd, Nat.reduceEqDiff, if_true, if_false, ↓reduceIte]
      refine hK _ _ ?_; clear hK K
      refine Cd.rr [1, 2, 3, 4, 5, 6, 28, 29] fun K hK => ?_
      simp (maxSteps := 2000000) (disch := first | (simp only [E4, hl, hm, ew, nb2_b1, n2, nb3_b2, nb3_b1, ebv] <;> omega) | omega | fail) only [↓E2, E3, bare, bareJ, ↓E0, E1, evP, evPlan, env0, envN, evOps, evOp, evQs, evQ, evV, setD, pureOp, ev, upd, updL, gate, binW, eqOp, binV, intOp, shOp, boolOp, unV, convV, nilV, fieldAddrV, indexAddrV, extractV, cellAt, cellsAt, findB, setB, fillL, buildV, Value.cells, lenV, minV, maxV, hav, sliceV, loV, hiV, bslQ, mksQ, appQ, partsOk, partsCells, delB, eqL, SameI, strOp, apzQ, cvtQ, capV, ↓reduceIte, Zj, Zk, Nat.reduceAdd, Nat.reduceLT, Nat.reduceEqDiff, Nat.reduceMul, Nat.reduceLeDiff, if_true, Zn, reduceCtorEq, ZA, eq_self, Int.reduceLE, Int.reduceLT, Int.reduceToNat, ne_eq, Nat.reduceSub, hl, hm, ew, nb2_b1, n2, nb3_b2, nb3_b1, ebv]
      repeat refine And.intro (by omega) ?_
      repeat refine And.intro (by omega) ?_
      intro g
      simp only [List.map_cons, List.map_nil, updL, upd, Nat.reduceEqDiff, if_true, if_false, ↓reduceIte]
      refine hK _ _ ?_; clear hK K
      refine inBN ?_
      refine thenN ?_
      refine Cd.rr [1, 2, 3, 4, 5, 6, 28, 29] fun K hK => ?_
      simp (maxSteps := 2000000) (disch := first | (simp only [E4, hl, hm, ew, nb2_b1, n2, nb3_b2, nb3_b1] <;> omega) | omega | fail) only [↓E2, E3, bare, bareJ, ↓E0, E1, evP, evPlan, env0, envN, evOps, evOp, evQs, evQ, evV, setD, pureOp, ev, upd, updL, gate, binW, eqOp, binV, intOp, shOp, boolOp, unV, convV, nilV, fieldAddrV, indexAddrV, extractV, cellAt, cellsAt, findB, setB, fillL, buildV, Value.cells, lenV, minV, maxV, hav, sliceV, loV, hiV, bslQ, mksQ, appQ, partsOk, partsCells, delB, eqL, SameI, strOp, apzQ, cvtQ, capV, ↓reduceIte, Zj, Zk, Nat.reduceAdd, Nat.reduceLT, Nat.reduceEqDiff, Nat.reduceMul, Nat.reduceLeDiff, if_true, Zn, reduceCtorEq, ZA, eq_self, Int.reduceLE, Int.reduceLT, Int.reduceToNat, ne_eq, Nat.reduceSub, hl, hm, ew, nb2_b1, n2, nb3_b2, nb3_b1]
      repeat refine And.intro (by omega) ?_
      repeat refine And.intro (by omega) ?_
      intro g
      simp only [List.map_cons, List.map_nil, updL, upd, Nat.reduceEqDiff, if_true, if_false, ↓reduceIte]
      refine hK _ _ ?_; clear hK K
      exact roundN (m := q2 - 1) (by omega) ⟨_, i + 1, by omega, by rw [ecb, show ((cb (bitsS s) i : Nat) : Int) + bv - 1 = ((cb (bitsS s) i : Nat) : Int) - 1 + bv by omega]; rfl, rfl⟩
    · obtain rfl : n = i := by omega
      refine Cd.exit (thenX (roundX (inBX ?_)))
      refine thenN ?_
      have hcp : 0 < cb (bitsS s) n := by
        obtain ⟨a, ha⟩ := Nat.exists_testBit_of_ne_zero (show s ≠ 0 by omega)
        by_cases hlt : a < n
        · exact cb_pos (S := bitsS s) ha hlt
        · rw [show s.testBit a = false from hall s (by omega) a (by omega)] at ha
          cases ha
      obtain ⟨m, hm1⟩ : ∃ m, cb (bitsS s) n = m + 1 := ⟨cb (bitsS s) n - 1, by omega⟩
      have hm7 : m ≤ 7 := by have := cb_le (bitsS s) n; omega
      rw [hm1, show ((m + 1 : Nat) : Int) - 1 = (m : Int) by omega, show (fun (_ : Nat) => (0 : Int)) = pS n (wtG x o) (bitsS s) m n from pS_top.symm]
      refine Cd.rs [1, 2, 3, 4, 5, 6, 8] fun K hK => ?_
      simp (maxSteps := 2000000) (disch := first | (simp only [E4, hl, hm, ew, nb2_b1, n2, nb3_b2, nb3_b1] <;> omega) | omega | fail) only [↓E2, E3, bare, bareJ, ↓E0, E1, evP, evPlan, env0, envN, evOps, evOp, evQs, evQ, evV, setD, pureOp, ev, upd, updL, gate, binW, eqOp, binV, intOp, shOp, boolOp, unV, convV, nilV, fieldAddrV, indexAddrV, extractV, cellAt, cellsAt, findB, setB, fillL, buildV, Value.cells, lenV, minV, maxV, hav, sliceV, loV, hiV, bslQ, mksQ, appQ, partsOk, partsCells, delB, eqL, SameI, strOp, apzQ, cvtQ, capV, ↓reduceIte, Zj, Zk, Nat.reduceAdd, Nat.reduceLT, Nat.reduceEqDiff, Nat.reduceMul, Nat.reduceLeDiff, if_true, Zn, reduceCtorEq, ZA, eq_self, Int.reduceLE, Int.reduceLT, Int.reduceToNat, ne_eq, Nat.reduceSub, hl, hm, ew, nb2_b1, n2, nb3_b2, nb3_b1]
      repeat refine And.intro (by omega) ?_
      repeat refine And.intro (by omega) ?_
      intro g
      simp only [List.map_cons, List.map_nil, updL, upd, Nat.reduceEqDiff, if_true, if_false, ↓reduceIte]
      refine hK _ _ ?_; clear hK K
      refine Cd.rs [1, 2, 3, 4, 5, 6, 8, 9] fun K hK => ?_
      simp (maxSteps := 2000000) (disch := first | (simp only [E4, hl, hm, ew, nb2_b1, n2, nb3_b2, nb3_b1] <;> omega) | omega | fail) only [↓E2, E3, bare, bareJ, ↓E0, E1, evP, evPlan, env0, envN, evOps, evOp, evQs, evQ, evV, setD, pureOp, ev, upd, updL, gate, binW, eqOp, binV, intOp, shOp, boolOp, unV, convV, nilV, fieldAddrV, indexAddrV, extractV, cellAt, cellsAt, findB, setB, fillL, buildV, Value.cells, lenV, minV, maxV, hav, sliceV, loV, hiV, bslQ, mksQ, appQ, partsOk, partsCells, delB, eqL, SameI, strOp, apzQ, cvtQ, capV, ↓reduceIte, Zj, Zk, Nat.reduceAdd, Nat.reduceLT, Nat.reduceEqDiff, Nat.reduceMul, Nat.reduceLeDiff, if_true, Zn, reduceCtorEq, ZA, eq_self, Int.reduceLE, Int.reduceLT, Int.reduceToNat, ne_eq, Nat.reduceSub, hl, hm, ew, nb2_b1, n2, nb3_b2, nb3_b1]
      repeat refine And.intro (by omega) ?_
      repeat refine And.intro (by omega) ?_
      intro g
      simp only [List.map_cons, List.map_nil, updL, upd, Nat.reduceEqDiff, if_true, if_false, ↓reduceIte]
      refine hK _ _ ?_; clear hK K
      refine Cd.block ?_
      refine Cd.loop (fun j ρ M => ∃ g, j ≤ n ∧ ρ = updL [(1, .pointer (some ⟨b1, 0, none⟩)), (2, .pointer (some ⟨b2, 0, none⟩)), (3, .int .i64 (n : Int)), (4, .slice (some ⟨b3, 0, none⟩) N N), (5, .int .i64 (s : Int)), (6, .int .i64 (m : Int)), (8, .int .i64 (sg (cb (bitsS s) n - cb (bitsS s) j))), (9, .int .i64 ((j : Int) - 1))] g ∧
        M = [(b3, ints .i64 (mtab N (mF n (wtG x o) s (pS n (wtG x o) (bitsS s) m j)))), (b2, [.int .i64 0, .slice none 0 0]), (b1, gc (n : Int) x o)]) n ⟨_, Nat.le_refl _, by rw [Nat.sub_self]; rfl, rfl⟩ ?_
      rintro j ρ M ⟨g, hj, rfl, rfl⟩
      refine Cd.seq ?_
      refine Cd.rs [1, 2, 3, 4, 5, 6, 8, 9, 42] fun K hK => ?_
      simp (maxSteps := 2000000) (disch := first | (simp only [E4, hl, hm, ew, nb2_b1, n2, nb3_b2, nb3_b1] <;> omega) | omega | fail) only [↓E2, E3, bare, bareJ, ↓E0, E1, evP, evPlan, env0, envN, evOps, evOp, evQs, evQ, evV, setD, pureOp, ev, upd, updL, gate, binW, eqOp, binV, intOp, shOp, boolOp, unV, convV, nilV, fieldAddrV, indexAddrV, extractV, cellAt, cellsAt, findB, setB, fillL, buildV, Value.cells, lenV, minV, maxV, hav, sliceV, loV, hiV, bslQ, mksQ, appQ, partsOk, partsCells, delB, eqL, SameI, strOp, apzQ, cvtQ, capV, ↓reduceIte, Zj, Zk, Nat.reduceAdd, Nat.reduceLT, Nat.reduceEqDiff, Nat.reduceMul, Nat.reduceLeDiff, if_true, Zn, reduceCtorEq, ZA, eq_self, Int.reduceLE, Int.reduceLT, Int.reduceToNat, ne_eq, Nat.reduceSub, hl, hm, ew, nb2_b1, n2, nb3_b2, nb3_b1]
      repeat refine And.intro (by omega) ?_
      repeat refine And.intro (by omega) ?_
      intro g
      simp only [List.map_cons, List.map_nil, updL, upd, Nat.reduceEqDiff, if_true, if_false, ↓reduceIte]
      refine hK _ _ ?_; clear hK K
      refine Cd.condd rfl (fun h3 => ?_) (fun h3 => ?_)
      · obtain ⟨a, rfl⟩ : ∃ a, j = a + 1 := ⟨j - 1, by omega⟩
        rw [show ((a + 1 : Nat) : Int) - 1 = (a : Int) by omega]
        have hcs : cb (bitsS s) (a + 1) = cb (bitsS s) a + if bitsS s a = true then 1 else 0 := rfl
        have hcm := cb_mono (bitsS s) (show a + 1 ≤ n from hj)
        have ebv := bitV s (by omega) a (by omega)
        have eab : ab (bitsS s) n a = cb (bitsS s) n - cb (bitsS s) (a + 1) := rfl
        refine Cd.skip ?_
        refine thenN ?_
        refine Cd.seq ?_
        refine Cd.block ?_
        refine Cd.seq ?_
        refine Cd.rs [1, 2, 3, 4, 5, 6, 8, 9, 49] fun K hK => ?_
        simp (maxSteps := 2000000) (disch := first | (simp only [E4, hl, hm, ew, nb2_b1, n2, nb3_b2, nb3_b1, ebv] <;> omega) | omega | fail) only [↓E2, E3, bare, bareJ, ↓E0, E1, evP, evPlan, env0, envN, evOps, evOp, evQs, evQ, evV, setD, pureOp, ev, upd, updL, gate, binW, eqOp, binV, intOp, shOp, boolOp, unV, convV, nilV, fieldAddrV, indexAddrV, extractV, cellAt, cellsAt, findB, setB, fillL, buildV, Value.cells, lenV, minV, maxV, hav, sliceV, loV, hiV, bslQ, mksQ, appQ, partsOk, partsCells, delB, eqL, SameI, strOp, apzQ, cvtQ, capV, ↓reduceIte, Zj, Zk, Nat.reduceAdd, Nat.reduceLT, Nat.reduceEqDiff, Nat.reduceMul, Nat.reduceLeDiff, if_true, Zn, reduceCtorEq, ZA, eq_self, Int.reduceLE, Int.reduceLT, Int.reduceToNat, ne_eq, Nat.reduceSub, hl, hm, ew, nb2_b1, n2, nb3_b2, nb3_b1, ebv]
        repeat refine And.intro (by omega) ?_
        repeat refine And.intro (by omega) ?_
        intro g
        simp only [List.map_cons, List.map_nil, updL, upd, Nat.reduceEqDiff, if_true, if_false, ↓reduceIte]
        refine hK _ _ ?_; clear hK K
        refine Cd.cond rfl (fun h4 => ?_) (fun h4 => ?_)
        · have hS : bitsS s a = false := by
            unfold bitsS
            cases hb : s.testBit a with
            | false => rfl
            | true => rw [hb] at h4; cases h4
          rw [hS] at hcs
          simp only [Bool.false_eq_true, if_false, Nat.add_zero] at hcs
          refine Cd.exit (thenX (inBX ?_))
          refine thenN ?_
          refine Cd.rr [1, 2, 3, 4, 5, 6, 8, 9] fun K hK => ?_
          simp (maxSteps := 2000000) (disch := first | (simp only [E4, hl, hm, ew, nb2_b1, n2, nb3_b2, nb3_b1] <;> omega) | omega | fail) only [↓E2, E3, bare, bareJ, ↓E0, E1, evP, evPlan, env0, envN, evOps, evOp, evQs, evQ, evV, setD, pureOp, ev, upd, updL, gate, binW, eqOp, binV, intOp, shOp, boolOp, unV, convV, nilV, fieldAddrV, indexAddrV, extractV, cellAt, cellsAt, findB, setB, fillL, buildV, Value.cells, lenV, minV, maxV, hav, sliceV, loV, hiV, bslQ, mksQ, appQ, partsOk, partsCells, delB, eqL, SameI, strOp, apzQ, cvtQ, capV, ↓reduceIte, Zj, Zk, Nat.reduceAdd, Nat.reduceLT, Nat.reduceEqDiff, Nat.reduceMul, Nat.reduceLeDiff, if_true, Zn, reduceCtorEq, ZA, eq_self, Int.reduceLE, Int.reduceLT, Int.reduceToNat, ne_eq, Nat.reduceSub, hl, hm, ew, nb2_b1, n2, nb3_b2, nb3_b1]
          repeat refine And.intro (by omega) ?_
          repeat refine And.intro (by omega) ?_
          intro g
          simp only [List.map_cons, List.map_nil, updL, upd, Nat.reduceEqDiff, if_true, if_false, ↓reduceIte]
          refine hK _ _ ?_; clear hK K
          exact roundN (m := a) (by omega) ⟨_, by omega, by rw [hcs]; rfl, by rw [pS_skip hS]⟩
        · have hS : bitsS s a = true := by
            unfold bitsS
            cases hb : s.testBit a with
            | true => rfl
            | false => rw [hb] at h4; cases h4
          rw [hS] at hcs
          simp only [if_true] at hcs
          have hcr := cb_rem hS n
          rw [if_pos (show a < n from hj)] at hcr
          have ebn := bitN s (by omega) a (by omega) hS
          have ebw := bitW a (by omega)
          have hsr := bitsS_rem (by omega) (by omega) hS
          have hsp := bitsS_pos (by omega) (by omega) hS
          obtain ⟨s', hs'⟩ : ∃ s', s' = s - 2 ^ a := ⟨_, rfl⟩
          rw [← hs'] at ebn hsr hsp
          have hold : ∀ k, dBs n (wtG x o) s' k = dB n (wtG x o) m 0 (rem (bitsS s) a) ((k : Int) - 64) := fun k => by
            unfold dBs
            rw [hsr, show cb (rem (bitsS s) a) n = m by omega]
          have hsgn : sg (cb (bitsS s) n - cb (bitsS s) (a + 1)) = sg (ab (bitsS s) n a) := rfl
          rw [hsgn]
          have hww : wnd x o (m : Int) a = wtG x o m a := rfl
          have hwb := wtG_bound x o m a (by omega)
          refine Cd.skip ?_
          refine thenN ?_
          refine Cd.rs [1, 2, 3, 4, 5, 6, 8, 9, 10] fun K hK => ?_
          simp (maxSteps := 2000000) (disch := first | (simp only [E4, hl, hm, ew, nb2_b1, n2, nb3_b2, nb3_b1] <;> omega) | omega | fail) only [↓E2, E3, bare, bareJ, ↓E0, E1, evP, evPlan, env0, envN, evOps, evOp, evQs, evQ, evV, setD, pureOp, ev, upd, updL, gate, binW, eqOp, binV, intOp, shOp, boolOp, unV, convV, nilV, fieldAddrV, indexAddrV, extractV, cellAt, cellsAt, findB, setB, fillL, buildV, Value.cells, lenV, minV, maxV, hav, sliceV, loV, hiV, bslQ, mksQ, appQ, partsOk, partsCells, delB, eqL, SameI, strOp, apzQ, cvtQ, capV, ↓reduceIte, Zj, Zk, Nat.reduceAdd, Nat.reduceLT, Nat.reduceEqDiff, Nat.reduceMul, Nat.reduceLeDiff, if_true, Zn, reduceCtorEq, ZA, eq_self, Int.reduceLE, Int.reduceLT, Int.reduceToNat, ne_eq, Nat.reduceSub, Tld32, hl, hm, ew, nb2_b1, n2, nb3_b2, nb3_b1]
          repeat refine And.intro (by omega) ?_
          refine callK_gives (winding_c _ x o hx ho _ _ (by omega)) ?_
          rw [Int.toNat_natCast, hww]
          simp (maxSteps := 2000000) (disch := first | (simp only [E4, hl, hm, ew, nb2_b1, n2, nb3_b2, nb3_b1] <;> omega) | omega | fail) only [↓E2, E3, bare, bareJ, ↓E0, E1, evP, evPlan, env0, envN, evOps, evOp, evQs, evQ, evV, setD, pureOp, ev, upd, updL, gate, binW, eqOp, binV, intOp, shOp, boolOp, unV, convV, nilV, fieldAddrV, indexAddrV, extractV, cellAt, cellsAt, findB, setB, fillL, buildV, Value.cells, lenV, minV, maxV, hav, sliceV, loV, hiV, bslQ, mksQ, appQ, partsOk, partsCells, delB, eqL, SameI, strOp, apzQ, cvtQ, capV, ↓reduceIte, Zj, Zk, Nat.reduceAdd, Nat.reduceLT, Nat.reduceEqDiff, Nat.reduceMul, Nat.reduceLeDiff, if_true, Zn, reduceCtorEq, ZA, eq_self, Int.reduceLE, Int.reduceLT, Int.reduceToNat, ne_eq, Nat.reduceSub, Tld32, hl, hm, ew, nb2_b1, n2, nb3_b2, nb3_b1]
          repeat refine And.intro (by omega) ?_
          repeat refine And.intro (by omega) ?_
          intro g
          simp only [List.map_cons, List.map_nil, updL, upd, Nat.reduceEqDiff, if_true, if_false, ↓reduceIte]
          refine hK _ _ ?_; clear hK K
          have hmt : (mtab N (mF n (wtG x o) s (pS n (wtG x o) (bitsS s) m (a + 1)))).length = N * 129 := mtab_len
          have hsub : List.take 129 (List.drop (s' * 129) (mtab N (mF n (wtG x o) s (pS n (wtG x o) (bitsS s) m (a + 1))))) = prow (dBs n (wtG x o) s') := by
            rw [mtab_sub (by omega), show mF n (wtG x o) s (pS n (wtG x o) (bitsS s) m (a + 1)) s' = dBs n (wtG x o) s' from funext fun k => mF_less hsp]
          have hle : s' * 129 + 129 ≤ N * 129 := by omega
          refine Cd.seq ?_
          skip
          refine Cd.rs [1, 2, 3, 4, 5, 6, 8, 9, 10, 60, 61] fun K hK => ?_
          simp (maxSteps := 2000000) (disch := first | (simp only [E4, hl, hm, ew, nb2_b1, n2, nb3_b2, nb3_b1, hmt, ebw, ebn, sub_ints, hsub, hle] <;> omega) | omega | fail) only [↓E2, E3, bare, bareJ, ↓E0, E1, evP, evPlan, env0, envN, evOps, evOp, evQs, evQ, evV, setD, pureOp, ev, upd, updL, gate, binW, eqOp, binV, intOp, shOp, boolOp, unV, convV, nilV, fieldAddrV, indexAddrV, extractV, cellAt, cellsAt, findB, setB, fillL, buildV, Value.cells, lenV, minV, maxV, hav, sliceV, loV, hiV, bslQ, mksQ, appQ, partsOk, partsCells, delB, eqL, SameI, strOp, apzQ, cvtQ, capV, ↓reduceIte, Zj, Zk, Nat.reduceAdd, Nat.reduceLT, Nat.reduceEqDiff, Nat.reduceMul, Nat.reduceLeDiff, if_true, Zn, reduceCtorEq, ZA, eq_self, Int.reduceLE, Int.reduceLT, Int.reduceToNat, ne_eq, Nat.reduceSub, Tld166, Tslc164, hl, hm, ew, nb2_b1, n2, nb3_b2, nb3_b1, hmt, ebw, ebn, sub_ints, hsub, hle]
          repeat refine And.intro (by omega) ?_
          repeat refine And.intro (by omega) ?_
          intro g
          simp only [List.map_cons, List.map_nil, updL, upd, Nat.reduceEqDiff, if_true, if_false, ↓reduceIte]
          refine hK _ _ ?_; clear hK K
          have hLo : (prow (dBs n (wtG x o) s')).length = 129 := prow_len _
          have hLg : ∀ k, k < 129 → (prow (dBs n (wtG x o) s')).getD k 0 = dB n (wtG x o) m 0 (rem (bitsS s) a) ((k : Int) - 64) := fun k hk => by rw [prow_get hk, hold]
          generalize prow (dBs n (wtG x o) s') = Lo at hLo hLg
          rw [← pK_zero hw hm7]
          refine Cd.block ?_
          refine Cd.loop (fun q ρ M => ∃ g kk, kk + q = 129 ∧ ρ = updL [(1, .pointer (some ⟨b1, 0, none⟩)), (2, .pointer (some ⟨b2, 0, none⟩)), (3, .int .i64 (n : Int)), (4, .slice (some ⟨b3, 0, none⟩) N N), (5, .int .i64 (s : Int)), (6, .int .i64 (m : Int)), (8, .int .i64 (sg (ab (bitsS s) n a))), (9, .int .i64 (a : Int)), (10, .int .i64 (wtG x o m a)), (60, .agg (ints .i64 Lo).toArray), (61, .int .i64 (kk : Int))] g ∧
            M = [(b3, ints .i64 (mtab N (mF n (wtG x o) s (pK n (wtG x o) (bitsS s) m a kk)))), (b2, [.int .i64 0, .slice none 0 0]), (b1, gc (n : Int) x o)]) 129 ⟨_, 0, Nat.zero_add _, rfl, rfl⟩ ?_
          rintro q2 ρ M ⟨g, kk, hkk, rfl, rfl⟩
          skip
          refine Cd.rs [1, 2, 3, 4, 5, 6, 8, 9, 10, 60, 61, 62] fun K hK => ?_
          simp (maxSteps := 2000000) (disch := first | (simp only [E4, hl, hm, ew, nb2_b1, n2, nb3_b2, nb3_b1, hmt, hLo] <;> omega) | omega | fail) only [↓E2, E3, bare, bareJ, ↓E0, E1, evP, evPlan, env0, envN, evOps, evOp, evQs, evQ, evV, setD, pureOp, ev, upd, updL, gate, binW, eqOp, binV, intOp, shOp, boolOp, unV, convV, nilV, fieldAddrV, indexAddrV, extractV, cellAt, cellsAt, findB, setB, fillL, buildV, Value.cells, lenV, minV, maxV, hav, sliceV, loV, hiV, bslQ, mksQ, appQ, partsOk, partsCells, delB, eqL, SameI, strOp, apzQ, cvtQ, capV, ↓reduceIte, Zj, Zk, Nat.reduceAdd, Nat.reduceLT, Nat.reduceEqDiff, Nat.reduceMul, Nat.reduceLeDiff, if_true, Zn, reduceCtorEq, ZA, eq_self, Int.reduceLE, Int.reduceLT, Int.reduceToNat, ne_eq, Nat.reduceSub, hl, hm, ew, nb2_b1, n2, nb3_b2, nb3_b1, hmt, hLo]
          repeat refine And.intro (by omega) ?_
          repeat refine And.intro (by omega) ?_
          intro g
          simp only [List.map_cons, List.map_nil, updL, upd, Nat.reduceEqDiff, if_true, if_false, ↓reduceIte]
          refine hK _ _ ?_; clear hK K
          refine Cd.seq ?_
          refine Cd.condd rfl (fun h5 => ?_) (fun h5 => ?_)
          · have hc := hLg kk (by omega)
            refine Cd.skip ?_
            refine thenN ?_
            refine Cd.seq ?_
            refine Cd.block ?_
            refine Cd.rs [1, 2, 3, 4, 5, 6, 8, 9, 10, 11, 12, 60, 61] fun K hK => ?_
            have hcell2 : (ints .i64 Lo).toArray.getD kk undef = .int .i64 (dB n (wtG x o) m 0 (rem (bitsS s) a) ((kk : Int) - 64)) := by rw [ints_agg (by omega), hc]
            simp (maxSteps := 2000000) (disch := first | (simp only [E4, hl, hm, ew, nb2_b1, n2, nb3_b2, nb3_b1, hmt, hLo, indexV, partV, hcell2] <;> omega) | omega | fail) only [↓E2, E3, bare, bareJ, ↓E0, E1, evP, evPlan, env0, envN, evOps, evOp, evQs, evQ, evV, setD, pureOp, ev, upd, updL, gate, binW, eqOp, binV, intOp, shOp, boolOp, unV, convV, nilV, fieldAddrV, indexAddrV, extractV, cellAt, cellsAt, findB, setB, fillL, buildV, Value.cells, lenV, minV, maxV, hav, sliceV, loV, hiV, bslQ, mksQ, appQ, partsOk, partsCells, delB, eqL, SameI, strOp, apzQ, cvtQ, capV, ↓reduceIte, Zj, Zk, Nat.reduceAdd, Nat.reduceLT, Nat.reduceEqDiff, Nat.reduceMul, Nat.reduceLeDiff, if_true, Zn, reduceCtorEq, ZA, eq_self, Int.reduceLE, Int.reduceLT, Int.reduceToNat, ne_eq, Nat.reduceSub, Tagg2, Tarr166, Tarre166, Thas2, Tpar2, Tsz2, hl, hm, ew, nb2_b1, n2, nb3_b2, nb3_b1, hmt, hLo, indexV, partV, hcell2]
            repeat refine And.intro (by omega) ?_
            repeat refine And.intro (by omega) ?_
            intro g
            simp only [List.map_cons, List.map_nil, updL, upd, Nat.reduceEqDiff, if_true, if_false, ↓reduceIte]
            refine hK _ _ ?_; clear hK K
            refine Cd.rs [1, 2, 3, 4, 5, 6, 8, 9, 10, 11, 12, 60, 61, 66] fun K hK => ?_
            simp (maxSteps := 2000000) (disch := first | (simp only [E4, hl, hm, ew, nb2_b1, n2, nb3_b2, nb3_b1, hmt, hLo] <;> omega) | omega | fail) only [↓E2, E3, bare, bareJ, ↓E0, E1, evP, evPlan, env0, envN, evOps, evOp, evQs, evQ, evV, setD, pureOp, ev, upd, updL, gate, binW, eqOp, binV, intOp, shOp, boolOp, unV, convV, nilV, fieldAddrV, indexAddrV, extractV, cellAt, cellsAt, findB, setB, fillL, buildV, Value.cells, lenV, minV, maxV, hav, sliceV, loV, hiV, bslQ, mksQ, appQ, partsOk, partsCells, delB, eqL, SameI, strOp, apzQ, cvtQ, capV, ↓reduceIte, Zj, Zk, Nat.reduceAdd, Nat.reduceLT, Nat.reduceEqDiff, Nat.reduceMul, Nat.reduceLeDiff, if_true, Zn, reduceCtorEq, ZA, eq_self, Int.reduceLE, Int.reduceLT, Int.reduceToNat, ne_eq, Nat.reduceSub, hl, hm, ew, nb2_b1, n2, nb3_b2, nb3_b1, hmt, hLo]
            repeat refine And.intro (by omega) ?_
            repeat refine And.intro (by omega) ?_
            intro g
            simp only [List.map_cons, List.map_nil, updL, upd, Nat.reduceEqDiff, if_true, if_false, ↓reduceIte]
            refine hK _ _ ?_; clear hK K
            refine Cd.cond rfl (fun h6 => ?_) (fun h6 => ?_)
            · simp only [decide_eq_true_eq, decide_eq_false_iff_not, beq_iff_eq, beq_eq_false_iff_ne, bne_iff_ne, bne_eq_false_iff_eq, Bool.and_eq_true, Bool.or_eq_true, Bool.or_eq_false_iff, Bool.not_eq_true', Bool.not_eq_false', Bool.and_eq_false_imp, ne_eq, gt_iff_lt, ge_iff_le, Int.not_lt, Int.not_le, Classical.not_not] at h6
              have hfar : -(8 * (m : Int)) ≤ (kk : Int) - 64 ∧ (kk : Int) - 64 ≤ 8 * (m : Int) := dB_far hw m 0 _ _ h6
              obtain ⟨i, hi⟩ : ∃ i : Nat, (kk : Int) - wtG x o m a = (i : Int) := ⟨((kk : Int) - wtG x o m a).toNat, by omega⟩
              have hi2 : (i : Int) + wtG x o m a = kk := by omega
              have hil : i < 129 := by omega
              have hcell : (mtab N (mF n (wtG x o) s (pK n (wtG x o) (bitsS s) m a kk))).getD (s * 129 + i) 0 = pK n (wtG x o) (bitsS s) m a kk i := by rw [mtab_get (by omega) hil, mF_self]
              have hmt : (mtab N (mF n (wtG x o) s (pK n (wtG x o) (bitsS s) m a kk))).length = N * 129 := mtab_len
              have hsm := pK_small (w := wtG x o) (S := bitsS s) (kk := kk) (k := i) hn hm7 (show a < n from hj)
              have hset := mtab_set (N := N) (F := mF n (wtG x o) s (pK n (wtG x o) (bitsS s) m a kk)) (s := s) (k := i) (v := pK n (wtG x o) (bitsS s) m a kk i + sg (ab (bitsS s) n a) * dB n (wtG x o) m 0 (rem (bitsS s) a) ((kk : Int) - 64)) (by omega) hil
              rw [mF_set, ← pK_step hi2] at hset
              have hdb := dB_bound n (wtG x o) m 0 (rem (bitsS s) a) ((kk : Int) - 64)
              have hp : (n : Int) ^ m ≤ 2097152 := by
                have h1 : n ^ m ≤ 8 ^ 7 := Nat.le_trans (Nat.pow_le_pow_left hn m) (Nat.pow_le_pow_right (by decide) hm7)
                have h2 : ((n ^ m : Nat) : Int) = (n : Int) ^ m := Int.natCast_pow n m
                omega
              generalize dB n (wtG x o) m 0 (rem (bitsS s) a) ((kk : Int) - 64) = cc at *
              have hsc : -2097152 ≤ sg (ab (bitsS s) n a) * cc ∧ sg (ab (bitsS s) n a) * cc ≤ 2097152 := by
                rcases sg_cases (ab (bitsS s) n a) with h | h <;> rw [h] <;> omega
              generalize hpp : sg (ab (bitsS s) n a) * cc = pp at *
              skip
              refine Cd.pr [1, 2, 3, 4, 5, 6, 8, 9, 10, 60, 61] (Plan.take 0 (Plan.take 1 (Plan.take 2 (Plan.take 3 (Plan.take 4 (Plan.take 5 (Plan.take 6 (Plan.take 7 (Plan.take 8 (Plan.take 9 (Plan.take 10 (Plan.take 11 (Plan.take 12 (Plan.take 13 (Plan.one 14 (Plan.done)))))))))))))))) fol (by kernel_rfl) (Nat.le_of_ble_eq_true rfl) fun K hK => ?_
              simp (maxSteps := 2000000) (disch := first | (simp only [E4, hl, hm, ew, nb2_b1, n2, nb3_b2, nb3_b1, hmt, hLo, hi, hcell, hpp] <;> omega) | omega | fail) only [↓E2, E3, bare, bareJ, ↓E0, E1, evP, evPlan, env0, envN, evOps, evOp, evQs, evQ, evV, setD, pureOp, ev, upd, updL, gate, binW, eqOp, binV, intOp, shOp, boolOp, unV, convV, nilV, fieldAddrV, indexAddrV, extractV, cellAt, cellsAt, findB, setB, fillL, buildV, Value.cells, lenV, minV, maxV, hav, sliceV, loV, hiV, bslQ, mksQ, appQ, partsOk, partsCells, delB, eqL, SameI, strOp, apzQ, cvtQ, capV, ↓reduceIte, Zj, Zk, Nat.reduceAdd, Nat.reduceLT, Nat.reduceEqDiff, Nat.reduceMul, Nat.reduceLeDiff, if_true, Zn, reduceCtorEq, ZA, eq_self, Int.reduceLE, Int.reduceLT, Int.reduceToNat, ne_eq, Nat.reduceSub, Tarr166, Tld2, Tslc164, Tst2, hl, hm, ew, nb2_b1, n2, nb3_b2, nb3_b1, hmt, hLo, hi, hcell, hpp]
              repeat refine And.intro (by omega) ?_
              rw [hset]
              repeat refine And.intro (by omega) ?_
              intro g
              simp only [List.map_cons, List.map_nil, updL, upd, Nat.reduceEqDiff, if_true, if_false, ↓reduceIte]
              refine hK _ _ ?_; clear hK K
              refine inBN ?_
              refine thenN ?_
              refine Cd.rr [1, 2, 3, 4, 5, 6, 8, 9, 10, 60, 61] fun K hK => ?_
              simp (maxSteps := 2000000) (disch := first | (simp only [E4, hl, hm, ew, nb2_b1, n2, nb3_b2, nb3_b1, hmt, hLo, hi, hcell, hpp] <;> omega) | omega | fail) only [↓E2, E3, bare, bareJ, ↓E0, E1, evP, evPlan, env0, envN, evOps, evOp, evQs, evQ, evV, setD, pureOp, ev, upd, updL, gate, binW, eqOp, binV, intOp, shOp, boolOp, unV, convV, nilV, fieldAddrV, indexAddrV, extractV, cellAt, cellsAt, findB, setB, fillL, buildV, Value.cells, lenV, minV, maxV, hav, sliceV, loV, hiV, bslQ, mksQ, appQ, partsOk, partsCells, delB, eqL, SameI, strOp, apzQ, cvtQ, capV, ↓reduceIte, Zj, Zk, Nat.reduceAdd, Nat.reduceLT, Nat.reduceEqDiff, Nat.reduceMul, Nat.reduceLeDiff, if_true, Zn, reduceCtorEq, ZA, eq_self, Int.reduceLE, Int.reduceLT, Int.reduceToNat, ne_eq, Nat.reduceSub, hl, hm, ew, nb2_b1, n2, nb3_b2, nb3_b1, hmt, hLo, hi, hcell, hpp]
              repeat refine And.intro (by omega) ?_
              repeat refine And.intro (by omega) ?_
              intro g
              simp only [List.map_cons, List.map_nil, updL, upd, Nat.reduceEqDiff, if_true, if_false, ↓reduceIte]
              refine hK _ _ ?_; clear hK K
              exact roundN (m := q2 - 1) (by omega) ⟨_, kk + 1, by omega, rfl, rfl⟩
            · simp only [decide_eq_true_eq, decide_eq_false_iff_not, beq_iff_eq, beq_eq_false_iff_ne, bne_iff_ne, bne_eq_false_iff_eq, Bool.and_eq_true, Bool.or_eq_true, Bool.or_eq_false_iff, Bool.not_eq_true', Bool.not_eq_false', Bool.and_eq_false_imp, ne_eq, gt_iff_lt, ge_iff_le, Int.not_lt, Int.not_le, Classical.not_not] at h6
              refine Cd.skip ?_
              refine inBN ?_
              refine thenN ?_
              refine Cd.rr [1, 2, 3, 4, 5, 6, 8, 9, 10, 60, 61] fun K hK => ?_
              simp (maxSteps := 2000000) (disch := first | (simp only [E4, hl, hm, ew, nb2_b1, n2, nb3_b2, nb3_b1, hmt, hLo] <;> omega) | omega | fail) only [↓E2, E3, bare, bareJ, ↓E0, E1, evP, evPlan, env0, envN, evOps, evOp, evQs, evQ, evV, setD, pureOp, ev, upd, updL, gate, binW, eqOp, binV, intOp, shOp, boolOp, unV, convV, nilV, fieldAddrV, indexAddrV, extractV, cellAt, cellsAt, findB, setB, fillL, buildV, Value.cells, lenV, minV, maxV, hav, sliceV, loV, hiV, bslQ, mksQ, appQ, partsOk, partsCells, delB, eqL, SameI, strOp, apzQ, cvtQ, capV, ↓reduceIte, Zj, Zk, Nat.reduceAdd, Nat.reduceLT, Nat.reduceEqDiff, Nat.reduceMul, Nat.reduceLeDiff, if_true, Zn, reduceCtorEq, ZA, eq_self, Int.reduceLE, Int.reduceLT, Int.reduceToNat, ne_eq, Nat.reduceSub, hl, hm, ew, nb2_b1, n2, nb3_b2, nb3_b1, hmt, hLo]
              repeat refine And.intro (by omega) ?_
              repeat refine And.intro (by omega) ?_
              intro g
              simp only [List.map_cons, List.map_nil, updL, upd, Nat.reduceEqDiff, if_true, if_false, ↓reduceIte]
              refine hK _ _ ?_; clear hK K
              exact roundN (m := q2 - 1) (by omega) ⟨_, kk + 1, by omega, rfl, by rw [pK_same h6]⟩
          · obtain rfl : kk = 129 := by omega
            refine Cd.exit (thenX (roundX (inBX ?_)))
            refine thenN ?_
            have hneg : 0 - sg (ab (bitsS s) n a) = sg (cb (bitsS s) n - cb (bitsS s) a) := by
              rw [Int.zero_sub, ← sg_succ]
              congr 1
              omega
            have hsb := sg_cases (ab (bitsS s) n a)
            have hsb2 : -1 ≤ sg (ab (bitsS s) n a) ∧ sg (ab (bitsS s) n a) ≤ 1 := by omega
            rw [pK_full hw hm7 hS]
            refine Cd.rr [1, 2, 3, 4, 5, 6, 8, 9] fun K hK => ?_
            simp (maxSteps := 2000000) (disch := first | (simp only [E4, hl, hm, ew, nb2_b1, n2, nb3_b2, nb3_b1, hmt, hLo] <;> omega) | omega | fail) only [↓E2, E3, bare, bareJ, ↓E0, E1, evP, evPlan, env0, envN, evOps, evOp, evQs, evQ, evV, setD, pureOp, ev, upd, updL, gate, binW, eqOp, binV, intOp, shOp, boolOp, unV, convV, nilV, fieldAddrV, indexAddrV, extractV, cellAt, cellsAt, findB, setB, fillL, buildV, Value.cells, lenV, minV, maxV, hav, sliceV, loV, hiV, bslQ, mksQ, appQ, partsOk, partsCells, delB, eqL, SameI, strOp, apzQ, cvtQ, capV, ↓reduceIte, Zj, Zk, Nat.reduceAdd, Nat.reduceLT, Nat.reduceEqDiff, Nat.reduceMul, Nat.reduceLeDiff, if_true, Zn, reduceCtorEq, ZA, eq_self, Int.reduceLE, Int.reduceLT, Int.reduceToNat, ne_eq, Nat.reduceSub, hl, hm, ew, nb2_b1, n2, nb3_b2, nb3_b1, hmt, hLo]
            repeat refine And.intro (by omega) ?_
            rw [hneg]
            repeat refine And.intro (by omega) ?_
            intro g
            simp only [List.map_cons, List.map_nil, updL, upd, Nat.reduceEqDiff, if_true, if_false, ↓reduceIte]
            refine hK _ _ ?_; clear hK K
            refine inBN ?_
            refine thenN ?_
            refine Cd.rr [1, 2, 3, 4, 5, 6, 8, 9] fun K hK => ?_
            simp (maxSteps := 2000000) (disch := first | (simp only [E4, hl, hm, ew, nb2_b1, n2, nb3_b2, nb3_b1, hmt, hLo] <;> omega) | omega | fail) only [↓E2, E3, bare, bareJ, ↓E0, E1, evP, evPlan, env0, envN, evOps, evOp, evQs, evQ, evV, setD, pureOp, ev, upd, updL, gate, binW, eqOp, binV, intOp, shOp, boolOp, unV, convV, nilV, fieldAddrV, indexAddrV, extractV, cellAt, cellsAt, findB, setB, fillL, buildV, Value.cells, lenV, minV, maxV, hav, sliceV, loV, hiV, bslQ, mksQ, appQ, partsOk, partsCells, delB, eqL, SameI, strOp, apzQ, cvtQ, capV, ↓reduceIte, Zj, Zk, Nat.reduceAdd, Nat.reduceLT, Nat.reduceEqDiff, Nat.reduceMul, Nat.reduceLeDiff, if_true, Zn, reduceCtorEq, ZA, eq_self, Int.reduceLE, Int.reduceLT, Int.reduceToNat, ne_eq, Nat.reduceSub, hl, hm, ew, nb2_b1, n2, nb3_b2, nb3_b1, hmt, hLo]
            repeat refine And.intro (by omega) ?_
            repeat refine And.intro (by omega) ?_
            intro g
            simp only [List.map_cons, List.map_nil, updL, upd, Nat.reduceEqDiff, if_true, if_false, ↓reduceIte]
            refine hK _ _ ?_; clear hK K
            exact roundN (m := a) (by omega) ⟨_, by omega, rfl, rfl⟩
      · obtain rfl : j = 0 := by omega
        refine Cd.exit (thenX (roundX (inBX ?_)))
        refine inBN ?_
        refine thenN ?_
        have hnx := mF_next (n := n) (w := wtG x o) (s := s) (S := bitsS s) (m := m) fun k => pS_end hm1
        rw [hnx]
        refine Cd.rr [1, 2, 3, 4, 5] fun K hK => ?_
        simp (maxSteps := 2000000) (disch := first | (simp only [E4, hl, hm, ew, nb2_b1, n2, nb3_b2, nb3_b1] <;> omega) | omega | fail) only [↓E2, E3, bare, bareJ, ↓E0, E1, evP, evPlan, env0, envN, evOps, evOp, evQs, evQ, evV, setD, pureOp, ev, upd, updL, gate, binW, eqOp, binV, intOp, shOp, boolOp, unV, convV, nilV, fieldAddrV, indexAddrV, extractV, cellAt, cellsAt, findB, setB, fillL, buildV, Value.cells, lenV, minV, maxV, hav, sliceV, loV, hiV, bslQ, mksQ, appQ, partsOk, partsCells, delB, eqL, SameI, strOp, apzQ, cvtQ, capV, ↓reduceIte, Zj, Zk, Nat.reduceAdd, Nat.reduceLT, Nat.reduceEqDiff, Nat.reduceMul, Nat.reduceLeDiff, if_true, Zn, reduceCtorEq, ZA, eq_self, Int.reduceLE, Int.reduceLT, Int.reduceToNat, ne_eq, Nat.reduceSub, hl, hm, ew, nb2_b1, n2, nb3_b2, nb3_b1]
        repeat refine And.intro (by omega) ?_
        repeat refine And.intro (by omega) ?_
        intro g
        simp only [List.map_cons, List.map_nil, updL, upd, Nat.reduceEqDiff, if_true, if_false, ↓reduceIte]
        refine hK _ _ ?_; clear hK K
        exact roundN (m := q - 1) (by omega) ⟨_, s + 1, by omega, by omega, rfl, by rw [pS_top]⟩
  · obtain rfl : s = N := by omega
    refine Cd.exit (thenX (roundX (inBX ?_)))
    refine thenN ?_
    have hmt : (mtab s (mF n (wtG x o) s (fun _ => 0))).length = s * 129 := mtab_len
    have es : ((s : Int) - 1) = ((s - 1 : Nat) : Int) := by omega
    have hsub : List.take 129 (List.drop ((s - 1) * 129) (mtab s (mF n (wtG x o) s (fun _ => 0)))) = prow (dBs n (wtG x o) (s - 1)) := by
      rw [mtab_sub (by omega), show mF n (wtG x o) s (fun _ => 0) (s - 1) = dBs n (wtG x o) (s - 1) from funext fun k => mF_less (by omega)]
    have hle : (s - 1) * 129 + 129 ≤ s * 129 := by omega
    have hpl : (prow (dBs n (wtG x o) (s - 1))).length = 129 := prow_len _
    skip
    refine Cd.rs [2, 13] fun K hK => ?_
    simp (maxSteps := 2000000) (disch := first | (simp only [E4, hl, hm, ew, nb2_b1, n2, nb3_b2, nb3_b1, hmt, hpl, es, sub_ints, hsub, hle] <;> omega) | omega | fail) only [↓E2, E3, bare, bareJ, ↓E0, E1, evP, evPlan, env0, envN, evOps, evOp, evQs, evQ, evV, setD, pureOp, ev, upd, updL, gate, binW, eqOp, binV, intOp, shOp, boolOp, unV, convV, nilV, fieldAddrV, indexAddrV, extractV, cellAt, cellsAt, findB, setB, fillL, buildV, Value.cells, lenV, minV, maxV, hav, sliceV, loV, hiV, bslQ, mksQ, appQ, partsOk, partsCells, delB, eqL, SameI, strOp, apzQ, cvtQ, capV, ↓reduceIte, Zj, Zk, Nat.reduceAdd, Nat.reduceLT, Nat.reduceEqDiff, Nat.reduceMul, Nat.reduceLeDiff, if_true, Zn, reduceCtorEq, ZA, eq_self, Int.reduceLE, Int.reduceLT, Int.reduceToNat, ne_eq, Nat.reduceSub, Tld166, Tslc164, Tst166, Tzero166, hl, hm, ew, nb2_b1, n2, nb3_b2, nb3_b1, hmt, hpl, es, sub_ints, hsub, hle]
    repeat refine And.intro (by omega) ?_
    intro b4 hb4
    have n4 : ¬ b4 = b2 := hb4.2 (b2, [.int .i64 0, .slice none 0 0]) (by simp)
    skip
    try simp (maxSteps := 2000000) (disch := first | (simp only [E4, hl, hm, ew, nb2_b1, n2, nb3_b2, nb3_b1, hmt, hpl, n4, es, sub_ints, hsub, hle] <;> omega) | omega | fail) only [↓E2, E3, bare, bareJ, ↓E0, E1, evP, evPlan, env0, envN, evOps, evOp, evQs, evQ, evV, setD, pureOp, ev, upd, updL, gate, binW, eqOp, binV, intOp, shOp, boolOp, unV, convV, nilV, fieldAddrV, indexAddrV, extractV, cellAt, cellsAt, findB, setB, fillL, buildV, Value.cells, lenV, minV, maxV, hav, sliceV, loV, hiV, bslQ, mksQ, appQ, partsOk, partsCells, delB, eqL, SameI, strOp, apzQ, cvtQ, capV, ↓reduceIte, Zj, Zk, Nat.reduceAdd, Nat.reduceLT, Nat.reduceEqDiff, Nat.reduceMul, Nat.reduceLeDiff, if_true, Zn, reduceCtorEq, ZA, eq_self, Int.reduceLE, Int.reduceLT, Int.reduceToNat, ne_eq, Nat.reduceSub, Tld166, Tslc164, Tst166, Tzero166, hl, hm, ew, nb2_b1, n2, nb3_b2, nb3_b1, hmt, hpl, n4, es, sub_ints, hsub, hle]
    repeat refine And.intro (by omega) ?_
    intro g
    simp only [List.map_cons, List.map_nil, updL, upd, Nat.reduceEqDiff, if_true, if_false, ↓reduceIte]
    refine hK _ _ ?_; clear hK K
    refine Cd.nodup fun hnd => ?_
    generalize hpr : prow (dBs n (wtG x o) (s - 1)) = Lo at *
    have hrd : RdS (toldOf [(b4, ints .i64 Lo)]) 1 (ints .i64 Lo) (.slice (some ⟨b4, 0, none⟩) 129 129) := (SlN.row (Row.full (w := 1) (by rw [ints_length, hpl]))).reads fun p hp => mem_toldOf hp
    refine Cd.rs [2] fun K hK => ?_
    simp (maxSteps := 2000000) (disch := first | (simp only [E4, hl, hm, ew, nb2_b1, n2, nb3_b2, nb3_b1, hmt, hpl, n4] <;> omega) | omega | fail) only [↓E2, E3, bare, bareJ, ↓E0, E1, evP, evPlan, env0, envN, evOps, evOp, evQs, evQ, evV, setD, pureOp, ev, upd, updL, gate, binW, eqOp, binV, intOp, shOp, boolOp, unV, convV, nilV, fieldAddrV, indexAddrV, extractV, cellAt, cellsAt, findB, setB, fillL, buildV, Value.cells, lenV, minV, maxV, hav, sliceV, loV, hiV, bslQ, mksQ, appQ, partsOk, partsCells, delB, eqL, SameI, strOp, apzQ, cvtQ, capV, ↓reduceIte, Zj, Zk, Nat.reduceAdd, Nat.reduceLT, Nat.reduceEqDiff, Nat.reduceMul, Nat.reduceLeDiff, if_true, Zn, reduceCtorEq, ZA, eq_self, Int.reduceLE, Int.reduceLT, Int.reduceToNat, ne_eq, Nat.reduceSub, Tarr166, Tst56, hl, hm, ew, nb2_b1, n2, nb3_b2, nb3_b1, hmt, hpl, n4]
    repeat refine And.intro (by omega) ?_
    refine callK_newR0 (trimmed_c (-64) Lo _ _ hrd (by omega) (by omega)) (HoldsAll.toldW (holds_mem hnd fun p hp => by rw [List.mem_singleton.1 hp]; exact List.mem_cons_self)) ?_
    rintro v' M' ⟨s', rfl, hs'⟩ nd' _
    obtain ⟨a', m', c', rfl⟩ := hs'.form
    simp only [List.cons_append, List.nil_append] at nd' ⊢
    simp (maxSteps := 2000000) (disch := first | (simp only [E4, hl, hm, ew, nb2_b1, n2, nb3_b2, nb3_b1, hmt, hpl, n4] <;> omega) | omega | fail) only [↓E2, E3, bare, bareJ, ↓E0, E1, evP, evPlan, env0, envN, evOps, evOp, evQs, evQ, evV, setD, pureOp, ev, upd, updL, gate, binW, eqOp, binV, intOp, shOp, boolOp, unV, convV, nilV, fieldAddrV, indexAddrV, extractV, cellAt, cellsAt, findB, setB, fillL, buildV, Value.cells, lenV, minV, maxV, hav, sliceV, loV, hiV, bslQ, mksQ, appQ, partsOk, partsCells, delB, eqL, SameI, strOp, apzQ, cvtQ, capV, ↓reduceIte, Zj, Zk, Nat.reduceAdd, Nat.reduceLT, Nat.reduceEqDiff, Nat.reduceMul, Nat.reduceLeDiff, if_true, Zn, reduceCtorEq, ZA, eq_self, Int.reduceLE, Int.reduceLT, Int.reduceToNat, ne_eq, Nat.reduceSub, Tarr166, Tst56, hl, hm, ew, nb2_b1, n2, nb3_b2, nb3_b1, hmt, hpl, n4]
    repeat refine And.intro (by omega) ?_
    repeat refine And.intro (by omega) ?_
    intro g
    simp only [List.map_cons, List.map_nil, updL, upd, Nat.reduceEqDiff, if_true, if_false, ↓reduceIte]
    refine hK _ _ ?_; clear hK K
    refine Cd.ret ?_
    simp (maxSteps := 2000000) (disch := first | (simp only [E4, hl, hm, ew, nb2_b1, n2, nb3_b2, nb3_b1, hmt, hpl, n4] <;> omega) | omega | fail) only [↓E2, E3, bare, bareJ, ↓E0, E1, evP, evPlan, env0, envN, evOps, evOp, evQs, evQ, evV, setD, pureOp, ev, upd, updL, gate, binW, eqOp, binV, intOp, shOp, boolOp, unV, convV, nilV, fieldAddrV, indexAddrV, extractV, cellAt, cellsAt, findB, setB, fillL, buildV, Value.cells, lenV, minV, maxV, hav, sliceV, loV, hiV, bslQ, mksQ, appQ, partsOk, partsCells, delB, eqL, SameI, strOp, apzQ, cvtQ, capV, ↓reduceIte, Zj, Zk, Nat.reduceAdd, Nat.reduceLT, Nat.reduceEqDiff, Nat.reduceMul, Nat.reduceLeDiff, if_true, Zn, reduceCtorEq, ZA, eq_self, Int.reduceLE, Int.reduceLT, Int.reduceToNat, ne_eq, Nat.reduceSub, Tld56, hl, hm, ew, nb2_b1, n2, nb3_b2, nb3_b1, hmt, hpl, n4]
    repeat refine And.intro (by omega) ?_
    exact ⟨M', SubP.of (List.Sublist.cons _ (List.Sublist.cons _ (List.Sublist.cons _ (List.Sublist.cons _ (List.Sublist.refl _))))), _, rfl, hs'⟩
end

end Go.Proofs
