/-
  What the functions of this part hand back: each as a plain function of its arguments. Conditions: none.
-/
import Derived.ProofKit
import Derived.OpenShut
import Derived.Below
import Derived.ChangeSame
import Derived.Test.YtmfaenkjiodkhaaDoorM1
import Derived.Test.YtmfaenkjiodkhaaDoorM2
namespace Go.Proofs
open Go.W8
set_option linter.unusedVariables false
set_option linter.unusedSimpArgs false
set_option linter.unusedSectionVars false
set_option maxRecDepth 8000
set_option maxHeartbeats 4000000
theorem inI_get (s : ByteArray) {k : Nat} (h : k < (inI s).length) : (spL s).getD k noB = (inI s).getD k noB := by
  unfold inI
  rw [List.getD_eq_getElem?_getD, List.getD_eq_getElem?_getD, List.getElem?_take, if_pos (by rw [inI_len] at h; exact h)]
theorem sPic_c (s : ByteArray) (hs : s.size ≤ 1048576) : Gives Tryd.prog 8 #[.string s] (sPic s) := by
  have hsp := split_c s hs
  have hlen := inI_len2 s
  have hz := sp_size s
  have hsz := inI_sizes s
  have hgt := fun k (h : k < (inI s).length) => inI_get s h
  unfold sPic
  generalize inI s = I at *
  refine Gives.of fun w => ?_
  refine acall_of (N := 76) (c := _) (rs := [.cell 2 24, .tmp 3]) (args := [_]) Tryd.func8 rfl (by decide) rfl rfl (Nat.le_of_ble_eq_true rfl) ?_
  refine Cd.rs [0, 2] fun K hK => ?_
  simp (maxSteps := 2000000) (disch := first | (simp only [E4] <;> omega) | omega | fail) only [↓E2, E3, bare, bareJ, ↓E0, E1, env0, envN, evOps, evOp, evQs, evQ, evV, setD, pureOp, ev, upd, updL, Value.cells, hav, ↓reduceIte, Zj, Zk, Nat.reduceAdd, Nat.reduceLT, Nat.reduceEqDiff, Nat.reduceMul, Nat.reduceLeDiff, if_true, Zn, reduceCtorEq, ZA, eq_self, Int.reduceLE, Int.reduceLT, Int.reduceToNat, ne_eq, Nat.reduceSub, Tzero24]
  repeat refine And.intro (by omega) ?_
  intro b1 hb1
  try simp (maxSteps := 2000000) (disch := first | (simp only [E4] <;> omega) | omega | fail) only [↓E2, E3, bare, bareJ, ↓E0, E1, env0, envN, evOps, evOp, evQs, evQ, evV, setD, pureOp, ev, upd, updL, Value.cells, hav, ↓reduceIte, Zj, Zk, Nat.reduceAdd, Nat.reduceLT, Nat.reduceEqDiff, Nat.reduceMul, Nat.reduceLeDiff, if_true, Zn, reduceCtorEq, ZA, eq_self, Int.reduceLE, Int.reduceLT, Int.reduceToNat, ne_eq, Nat.reduceSub, Tzero24]
  repeat refine And.intro (by omega) ?_
  repeat refine And.intro (by omega) ?_
  intro g
  simp only [List.map_cons, List.map_nil, updL, upd, Nat.reduceEqDiff, if_true, if_false, ↓reduceIte]
  refine hK _ _ ?_; clear hK K
  refine Cd.rs [0, 2, 4] fun K hK => ?_
  simp (maxSteps := 2000000) (disch := first | (simp only [E4] <;> omega) | omega | fail) only [↓E2, E3, bare, bareJ, ↓E0, E1, env0, envN, evOps, evOp, evQs, evQ, evV, setD, pureOp, ev, upd, updL, cellAt, cellsAt, findB, setB, hav, ↓reduceIte, Zj, Zk, Nat.reduceAdd, Nat.reduceLT, Nat.reduceEqDiff, Nat.reduceMul, Nat.reduceLeDiff, if_true, Zn, reduceCtorEq, ZA, eq_self, Int.reduceLE, Int.reduceLT, Int.reduceToNat, ne_eq, Nat.reduceSub]
  repeat refine And.intro (by omega) ?_
  refine callK_newR0 hsp (fun _ _ => toldW_nil) ?_
  rintro v M1 hv nd1 _
  rcases hv with ⟨h1, _, _⟩ | ⟨b, m, cap, cs, rfl, rfl, hrow⟩
  · have := congrArg List.length h1
    rw [strs_len] at this
    simp only [List.length_nil] at this
    omega
  have hml := hrow.len1
  rw [strs_len] at hml
  obtain rfl : m = I.length + 1 := by omega
  simp only [List.cons_append, List.nil_append] at nd1 ⊢
  have d1 : (b1 = b) = False := eq_false ((nodup_cases nd1).1 (b, cs) (by simp))
  have d2 : (b = b1) = False := eq_false (fun h => by rw [h] at d1; simp at d1)
  skip
  have hcast : (((I.length + 1 : Nat) : Int)) - 1 = (I.length : Int) := by omega
  simp (maxSteps := 2000000) (disch := first | (simp only [E4, d1, d2] <;> omega) | omega | fail) only [↓E2, E3, bare, bareJ, ↓E0, E1, env0, envN, evOps, evOp, evQs, evQ, evV, setD, pureOp, ev, upd, updL, cellAt, cellsAt, findB, setB, hav, ↓reduceIte, Zj, Zk, Nat.reduceAdd, Nat.reduceLT, Nat.reduceEqDiff, Nat.reduceMul, Nat.reduceLeDiff, if_true, Zn, reduceCtorEq, ZA, eq_self, Int.reduceLE, Int.reduceLT, Int.reduceToNat, ne_eq, Nat.reduceSub, d1, d2]
  repeat refine And.intro (by omega) ?_
  repeat refine And.intro (by omega) ?_
  intro g
  simp only [List.map_cons, List.map_nil, updL, upd, Nat.reduceEqDiff, if_true, if_false, ↓reduceIte]
  refine hK _ _ ?_; clear hK K
  refine Cd.rs [0, 2, 4, 5] fun K hK => ?_
  simp (maxSteps := 2000000) (disch := first | (simp only [E4, d1, d2] <;> omega) | omega | fail) only [↓E2, E3, bare, bareJ, ↓E0, E1, env0, envN, evOps, evOp, evQs, evQ, evV, setD, pureOp, ev, upd, updL, binW, eqOp, binV, intOp, shOp, boolOp, lenV, hav, eqL, SameI, strOp, ↓reduceIte, Zj, Zk, Nat.reduceAdd, Nat.reduceLT, Nat.reduceEqDiff, Nat.reduceMul, Nat.reduceLeDiff, if_true, Zn, reduceCtorEq, ZA, eq_self, Int.reduceLE, Int.reduceLT, Int.reduceToNat, ne_eq, Nat.reduceSub, Tslce36, d1, d2]
  repeat refine And.intro (by omega) ?_
  rw [hcast]
  repeat refine And.intro (by omega) ?_
  intro g
  simp only [List.map_cons, List.map_nil, updL, upd, Nat.reduceEqDiff, if_true, if_false, ↓reduceIte]
  refine hK _ _ ?_; clear hK K
  refine Cd.seq ?_
  refine Cd.rs [0, 2, 4, 5, 16] fun K hK => ?_
  simp (maxSteps := 2000000) (disch := first | (simp only [E4, d1, d2] <;> omega) | omega | fail) only [↓E2, E3, bare, bareJ, ↓E0, E1, env0, envN, evOps, evOp, evQs, evQ, evV, setD, pureOp, ev, upd, updL, unV, cellAt, cellsAt, findB, setB, hav, ↓reduceIte, Zj, Zk, Nat.reduceAdd, Nat.reduceLT, Nat.reduceEqDiff, Nat.reduceMul, Nat.reduceLeDiff, if_true, Zn, reduceCtorEq, ZA, eq_self, Int.reduceLE, Int.reduceLT, Int.reduceToNat, ne_eq, Nat.reduceSub, d1, d2]
  repeat refine And.intro (by omega) ?_
  refine callK_gives (l01In_c _ _ _) ?_
  simp (maxSteps := 2000000) (disch := first | (simp only [E4, d1, d2] <;> omega) | omega | fail) only [↓E2, E3, bare, bareJ, ↓E0, E1, env0, envN, evOps, evOp, evQs, evQ, evV, setD, pureOp, ev, upd, updL, unV, cellAt, cellsAt, findB, setB, hav, ↓reduceIte, Zj, Zk, Nat.reduceAdd, Nat.reduceLT, Nat.reduceEqDiff, Nat.reduceMul, Nat.reduceLeDiff, if_true, Zn, reduceCtorEq, ZA, eq_self, Int.reduceLE, Int.reduceLT, Int.reduceToNat, ne_eq, Nat.reduceSub, d1, d2]
  repeat refine And.intro (by omega) ?_
  repeat refine And.intro (by omega) ?_
  intro g
  simp only [List.map_cons, List.map_nil, updL, upd, Nat.reduceEqDiff, if_true, if_false, ↓reduceIte]
  refine hK _ _ ?_; clear hK K
  refine Cd.cond rfl (fun c1 => ?_) (fun c1 => ?_)
  · have hgd : ¬ (2 ≤ I.length ∧ I.length ≤ 8) := fun h => by
      have h2 : (2 : Int) ≤ (I.length : Int) := by omega
      have h3 : (I.length : Int) ≤ 8 := by omega
      simp [h2, h3] at c1
    rw [if_neg hgd]
    unfold badP
    refine Cd.rs [2, 3] fun K hK => ?_
    simp (maxSteps := 2000000) (disch := first | (simp only [E4, d1, d2] <;> omega) | omega | fail) only [↓E2, E3, bare, bareJ, ↓E0, E1, evP, env0, envN, evOps, evOp, evQs, evQ, evV, setD, pureOp, ev, upd, updL, cellAt, cellsAt, findB, setB, fillL, buildV, Value.cells, hav, ↓reduceIte, Zj, Zk, Nat.reduceAdd, Nat.reduceLT, Nat.reduceEqDiff, Nat.reduceMul, Nat.reduceLeDiff, if_true, Zn, reduceCtorEq, ZA, eq_self, Int.reduceLE, Int.reduceLT, Int.reduceToNat, ne_eq, Nat.reduceSub, Tbld24, Tst24, d1, d2]
    repeat refine And.intro (by omega) ?_
    repeat refine And.intro (by omega) ?_
    intro g
    simp only [List.map_cons, List.map_nil, updL, upd, Nat.reduceEqDiff, if_true, if_false, ↓reduceIte]
    refine hK _ _ ?_; clear hK K
    refine Cd.ret (thenR ?_)
    simp (maxSteps := 2000000) (disch := first | (simp only [E4, d1, d2] <;> omega) | omega | fail) only [↓E2, E3, bare, bareJ, ↓E0, E1, evP, evPlan, env0, envN, evOps, evOp, evQs, evQ, evV, setD, pureOp, ev, upd, updL, gate, binW, eqOp, binV, intOp, shOp, boolOp, unV, convV, nilV, fieldAddrV, indexAddrV, extractV, cellAt, cellsAt, findB, setB, fillL, buildV, Value.cells, lenV, minV, maxV, hav, sliceV, loV, hiV, bslQ, mksQ, appQ, partsOk, partsCells, delB, eqL, SameI, strOp, apzQ, cvtQ, capV, ↓reduceIte, Zj, Zk, Nat.reduceAdd, Nat.reduceLT, Nat.reduceEqDiff, Nat.reduceMul, Nat.reduceLeDiff, if_true, Zn, reduceCtorEq, ZA, eq_self, Int.reduceLE, Int.reduceLT, Int.reduceToNat, ne_eq, Nat.reduceSub, Tld24, d1, d2]
    repeat refine And.intro (by omega) ?_
  · have hgd : 2 ≤ I.length ∧ I.length ≤ 8 := by
      simp only [Bool.not_eq_false', Bool.and_eq_true, decide_eq_true_eq] at c1
      omega
    clear c1
    rw [if_pos hgd]
    unfold outP
    refine Cd.skip ?_
    refine thenN ?_
    refine Cd.rs [0, 2, 4, 5, 6] fun K hK => ?_
    simp (maxSteps := 2000000) (disch := first | (simp only [E4, d1, d2] <;> omega) | omega | fail) only [↓E2, E3, bare, bareJ, ↓E0, E1, evP, env0, envN, evOps, evOp, evQs, evQ, evV, setD, pureOp, ev, upd, updL, cellAt, cellsAt, findB, setB, fillL, buildV, Value.cells, hav, ↓reduceIte, Zj, Zk, Nat.reduceAdd, Nat.reduceLT, Nat.reduceEqDiff, Nat.reduceMul, Nat.reduceLeDiff, if_true, Zn, reduceCtorEq, ZA, eq_self, Int.reduceLE, Int.reduceLT, Int.reduceToNat, ne_eq, Nat.reduceSub, Tbld24, Tst24, Tzero24, d1, d2]
    repeat refine And.intro (by omega) ?_
    intro b5 hb5
    have nb5_b1 := hb5.ne
    try simp (maxSteps := 2000000) (disch := first | (simp only [E4, d1, d2] <;> omega) | omega | fail) only [↓E2, E3, bare, bareJ, ↓E0, E1, evP, env0, envN, evOps, evOp, evQs, evQ, evV, setD, pureOp, ev, upd, updL, cellAt, cellsAt, findB, setB, fillL, buildV, Value.cells, hav, ↓reduceIte, Zj, Zk, Nat.reduceAdd, Nat.reduceLT, Nat.reduceEqDiff, Nat.reduceMul, Nat.reduceLeDiff, if_true, Zn, reduceCtorEq, ZA, eq_self, Int.reduceLE, Int.reduceLT, Int.reduceToNat, ne_eq, Nat.reduceSub, Tbld24, Tst24, Tzero24, d1, d2, nb5_b1]
    repeat refine And.intro (by omega) ?_
    repeat refine And.intro (by omega) ?_
    intro g
    simp only [List.map_cons, List.map_nil, updL, upd, Nat.reduceEqDiff, if_true, if_false, ↓reduceIte]
    refine hK _ _ ?_; clear hK K
    have n5 : (b5 = b) = False := eq_false (hb5.2 (b, cs) (by simp))
    skip
    refine Cd.seq ?_
    refine Cd.rs [0, 2, 4, 5, 6, 7] fun K hK => ?_
    simp (maxSteps := 2000000) (disch := first | (simp only [E4, d1, d2] <;> omega) | omega | fail) only [↓E2, E3, bare, bareJ, ↓E0, E1, env0, envN, evOps, evOp, evQs, evQ, evV, setD, pureOp, ev, upd, updL, hav, ↓reduceIte, Zj, Zk, Nat.reduceAdd, Nat.reduceLT, Nat.reduceEqDiff, Nat.reduceMul, Nat.reduceLeDiff, if_true, Zn, reduceCtorEq, ZA, eq_self, Int.reduceLE, Int.reduceLT, Int.reduceToNat, ne_eq, Nat.reduceSub, d1, d2, nb5_b1, n5]
    repeat refine And.intro (by omega) ?_
    repeat refine And.intro (by omega) ?_
    intro g
    simp only [List.map_cons, List.map_nil, updL, upd, Nat.reduceEqDiff, if_true, if_false, ↓reduceIte]
    refine hK _ _ ?_; clear hK K
    refine Cd.block ?_
    have hvl : ∀ k, k ≤ I.length → ∀ j, j < k → 0 ≤ (I.length : Int) - 1 - ((j : Nat) : Int) ∧ (I.length : Int) - 1 - ((j : Nat) : Int) < 256 := fun k hk j hj => by omega
    have tl := fun f : Nat → Int => tab_len f
    have r1 := hrow.le
    have r2 := hrow.size1
    skip
    refine Cd.loop (fun q ρ M => ∃ g k, k + q = I.length ∧ ρ = updL [(0, .string s), (2, .pointer (some ⟨b1, 0, none⟩)), (4, .slice (some ⟨b, 0, none⟩) (I.length + 1) cap), (5, .int .i64 (I.length : Int)), (6, .pointer (some ⟨b5, 0, none⟩)), (7, .int .i64 (k : Int))] g ∧ M = (b5, gc (I.length : Int) (tab (rwF (fun k => I.getD k noB) I.length (fun k => (I.length : Int) - 1 - k) 88 k)) (tab (rwF (fun k => I.getD k noB) I.length (fun k => (I.length : Int) - 1 - k) 79 k))) :: (b1, gc 0 z8 z8) :: [(b, cs)]) I.length ⟨_, 0, Nat.zero_add _, rfl, rfl⟩ ?_
    rintro q ρ M ⟨g, k, hk, rfl, rfl⟩
    refine Cd.seq ?_
    refine Cd.rs [0, 2, 4, 5, 6, 7, 22] fun K hK => ?_
    simp (maxSteps := 2000000) (disch := first | (simp only [E4, d1, d2, tl] <;> omega) | omega | fail) only [↓E2, E3, bare, bareJ, ↓E0, E1, env0, envN, evOps, evOp, evQs, evQ, evV, setD, pureOp, ev, upd, updL, binW, eqOp, binV, intOp, shOp, boolOp, hav, eqL, SameI, strOp, ↓reduceIte, Zj, Zk, Nat.reduceAdd, Nat.reduceLT, Nat.reduceEqDiff, Nat.reduceMul, Nat.reduceLeDiff, if_true, Zn, reduceCtorEq, ZA, eq_self, Int.reduceLE, Int.reduceLT, Int.reduceToNat, ne_eq, Nat.reduceSub, d1, d2, nb5_b1, n5, tl]
    repeat refine And.intro (by omega) ?_
    repeat refine And.intro (by omega) ?_
    intro g
    simp only [List.map_cons, List.map_nil, updL, upd, Nat.reduceEqDiff, if_true, if_false, ↓reduceIte]
    refine hK _ _ ?_; clear hK K
    refine Cd.condd rfl (fun c2 => ?_) (fun c2 => ?_)
    · have hlk : I.getD k noB ∈ I := by
        rw [List.getD_eq_getElem?_getD, List.getElem?_eq_getElem (by omega)]
        exact List.getElem_mem _
      have hlz := hsz _ hlk
      have hgk := hrow.get (strs_get (l := spL s) (i := k) (by omega))
      rw [hgt k (by omega)] at hgk
      clear hlk
      obtain ⟨line, hline⟩ : ∃ l, I.getD k noB = l := ⟨_, rfl⟩
      obtain ⟨fx, hfx⟩ : ∃ f, rwF (fun k => I.getD k noB) I.length (fun k => (I.length : Int) - 1 - k) 88 k = f := ⟨_, rfl⟩
      obtain ⟨fo, hfo⟩ : ∃ f, rwF (fun k => I.getD k noB) I.length (fun k => (I.length : Int) - 1 - k) 79 k = f := ⟨_, rfl⟩
      have hsx : rwF (fun k => I.getD k noB) I.length (fun k => (I.length : Int) - 1 - k) 88 (k + 1) = mix line 88 ((I.length : Int) - 1 - (k : Int)) (min line.size I.length) fx := by
        rw [← hline, ← hfx]; rfl
      have hso : rwF (fun k => I.getD k noB) I.length (fun k => (I.length : Int) - 1 - k) 79 (k + 1) = mix line 79 ((I.length : Int) - 1 - (k : Int)) (min line.size I.length) fo := by
        rw [← hline, ← hfo]; rfl
      rw [hfx, hfo]
      rw [hline] at hgk hlz
      have hm1 : min line.size I.length ≤ I.length := by omega
      have hm2 : min line.size I.length ≤ line.size := by omega
      have hm3 : ∀ j, j < I.length → j < line.size → j < min line.size I.length := fun j h1 h2 => by omega
      skip
      clear hline hfx hfo hvl
      generalize min line.size I.length = jm at *
      refine Cd.skip ?_
      refine thenN ?_
      refine Cd.seq ?_
      refine Cd.block ?_
      refine Cd.rs [0, 2, 4, 5, 6, 7, 8] fun K hK => ?_
      simp (maxSteps := 2000000) (disch := first | (simp only [E4, d1, d2, tl, hgk] <;> omega) | omega | fail) only [↓E2, E3, bare, bareJ, ↓E0, E1, env0, envN, evOps, evOp, evQs, evQ, evV, setD, pureOp, ev, upd, updL, hav, ↓reduceIte, Zj, Zk, Nat.reduceAdd, Nat.reduceLT, Nat.reduceEqDiff, Nat.reduceMul, Nat.reduceLeDiff, if_true, Zn, reduceCtorEq, ZA, eq_self, Int.reduceLE, Int.reduceLT, Int.reduceToNat, ne_eq, Nat.reduceSub, d1, d2, nb5_b1, n5, tl, hgk]
      repeat refine And.intro (by omega) ?_
      repeat refine And.intro (by omega) ?_
      intro g
      simp only [List.map_cons, List.map_nil, updL, upd, Nat.reduceEqDiff, if_true, if_false, ↓reduceIte]
      refine hK _ _ ?_; clear hK K
      refine Cd.block ?_
      refine Cd.loop (fun q ρ M => ∃ g j, j + q = jm ∧ ρ = updL [(0, .string s), (2, .pointer (some ⟨b1, 0, none⟩)), (4, .slice (some ⟨b, 0, none⟩) (I.length + 1) cap), (5, .int .i64 (I.length : Int)), (6, .pointer (some ⟨b5, 0, none⟩)), (7, .int .i64 (k : Int)), (8, .int .i64 (j : Int))] g ∧ M = (b5, gc (I.length : Int) (tab (mix line 88 ((I.length : Int) - 1 - (k : Int)) j fx)) (tab (mix line 79 ((I.length : Int) - 1 - (k : Int)) j fo))) :: (b1, gc 0 z8 z8) :: [(b, cs)]) jm ⟨_, 0, Nat.zero_add _, rfl, by rw [mix_zero, mix_zero]⟩ ?_
      rintro q2 ρ M ⟨g, j, hj, rfl, rfl⟩
      refine Cd.seq ?_
      refine Cd.rs [0, 2, 4, 5, 6, 7, 8, 36] fun K hK => ?_
      simp (maxSteps := 2000000) (disch := first | (simp only [E4, d1, d2, tl, hgk] <;> omega) | omega | fail) only [↓E2, E3, bare, bareJ, ↓E0, E1, env0, envN, evOps, evOp, evQs, evQ, evV, setD, pureOp, ev, upd, updL, gate, binW, eqOp, binV, intOp, shOp, boolOp, indexAddrV, cellAt, cellsAt, findB, lenV, hav, eqL, SameI, strOp, ↓reduceIte, Zj, Zk, Nat.reduceAdd, Nat.reduceLT, Nat.reduceEqDiff, Nat.reduceMul, Nat.reduceLeDiff, if_true, Zn, reduceCtorEq, ZA, eq_self, Int.reduceLE, Int.reduceLT, Int.reduceToNat, ne_eq, Nat.reduceSub, Tld9, Tslc36, Tstr9, d1, d2, nb5_b1, n5, tl, hgk]
      repeat refine And.intro (by omega) ?_
      apply guardX_and 7 [29, 30, 31, 32, 33, 34, 35] (j := 3) (d := 28) (tp := 36) (tl := 35) (x := decide ((j : Int) < (line.size : Int))) rfl rfl rfl rfl rfl
      · intro hq
        simp (maxSteps := 2000000) (disch := first | (simp only [E4, d1, d2, tl, hgk] <;> omega) | omega | fail) only [↓E2, E3, bare, bareJ, ↓E0, E1, env0, envN, evOps, evOp, evQs, evQ, evV, setD, pureOp, ev, upd, updL, gate, binW, eqOp, binV, intOp, shOp, boolOp, indexAddrV, cellAt, cellsAt, findB, lenV, hav, eqL, SameI, strOp, ↓reduceIte, Zj, Zk, Nat.reduceAdd, Nat.reduceLT, Nat.reduceEqDiff, Nat.reduceMul, Nat.reduceLeDiff, if_true, Zn, reduceCtorEq, ZA, eq_self, Int.reduceLE, Int.reduceLT, Int.reduceToNat, ne_eq, Nat.reduceSub, Tld9, Tslc36, Tstr9, d1, d2, nb5_b1, n5, tl, hgk]
        repeat refine And.intro (by omega) ?_
        omega
      intro g
      simp (maxSteps := 2000000) (disch := first | (simp only [E4, d1, d2, tl, hgk] <;> omega) | omega | fail) only [↓E2, E3, bare, bareJ, ↓E0, E1, env0, envN, evOps, evOp, evQs, evQ, evV, setD, pureOp, ev, upd, updL, gate, binW, eqOp, binV, intOp, shOp, boolOp, indexAddrV, cellAt, cellsAt, findB, lenV, hav, eqL, SameI, strOp, ↓reduceIte, Zj, Zk, Nat.reduceAdd, Nat.reduceLT, Nat.reduceEqDiff, Nat.reduceMul, Nat.reduceLeDiff, if_true, Zn, reduceCtorEq, ZA, eq_self, Int.reduceLE, Int.reduceLT, Int.reduceToNat, ne_eq, Nat.reduceSub, Tld9, Tslc36, Tstr9, d1, d2, nb5_b1, n5, tl, hgk]
      repeat refine And.intro (by omega) ?_
      repeat refine And.intro (by omega) ?_
      intro g
      simp only [List.map_cons, List.map_nil, updL, upd, Nat.reduceEqDiff, if_true, if_false, ↓reduceIte]
      refine hK _ _ ?_; clear hK K
      refine Cd.cond rfl (fun c3 => ?_) (fun c3 => ?_)
      · simp only [Bool.and_eq_true, decide_eq_true_eq] at c3
        have hjj := hm3 j (by omega) (by omega)
        refine Cd.skip ?_
        refine thenN ?_
        refine Cd.seq ?_
        refine Cd.block ?_
        refine Cd.rs [0, 2, 4, 5, 6, 7, 8, 44] fun K hK => ?_
        simp (maxSteps := 2000000) (disch := first | (simp only [E4, d1, d2, tl, hgk, indexV] <;> omega) | omega | fail) only [↓E2, E3, bare, bareJ, ↓E0, E1, env0, envN, evOps, evOp, evQs, evQ, evV, setD, pureOp, ev, upd, updL, indexAddrV, cellAt, cellsAt, findB, hav, ↓reduceIte, Zj, Zk, Nat.reduceAdd, Nat.reduceLT, Nat.reduceEqDiff, Nat.reduceMul, Nat.reduceLeDiff, if_true, Zn, reduceCtorEq, ZA, eq_self, Int.reduceLE, Int.reduceLT, Int.reduceToNat, ne_eq, Nat.reduceSub, Tld9, Tslc36, Tstr9, d1, d2, nb5_b1, n5, tl, hgk, indexV]
        repeat refine And.intro (by omega) ?_
        repeat refine And.intro (by omega) ?_
        intro g
        simp only [List.map_cons, List.map_nil, updL, upd, Nat.reduceEqDiff, if_true, if_false, ↓reduceIte]
        refine hK _ _ ?_; clear hK K
        refine Cd.block ?_
        refine Cd.rs [0, 2, 4, 5, 6, 7, 8, 44, 45] fun K hK => ?_
        simp (maxSteps := 2000000) (disch := first | (simp only [E4, d1, d2, tl, hgk] <;> omega) | omega | fail) only [↓E2, E3, bare, bareJ, ↓E0, E1, env0, envN, evOps, evOp, evQs, evQ, evV, setD, pureOp, ev, upd, updL, binW, eqOp, binV, intOp, shOp, boolOp, hav, eqL, SameI, strOp, ↓reduceIte, Zj, Zk, Nat.reduceAdd, Nat.reduceLT, Nat.reduceEqDiff, Nat.reduceMul, Nat.reduceLeDiff, if_true, Zn, reduceCtorEq, ZA, eq_self, Int.reduceLE, Int.reduceLT, Int.reduceToNat, ne_eq, Nat.reduceSub, d1, d2, nb5_b1, n5, tl, hgk]
        repeat refine And.intro (by omega) ?_
        repeat refine And.intro (by omega) ?_
        intro g
        simp only [List.map_cons, List.map_nil, updL, upd, Nat.reduceEqDiff, if_true, if_false, ↓reduceIte]
        refine hK _ _ ?_; clear hK K
        refine Cd.cond rfl (fun c4 => ?_) (fun c4 => ?_)
        · simp only [decide_eq_true_eq, decide_eq_false_iff_not, beq_iff_eq, beq_eq_false_iff_ne, bne_iff_ne, bne_eq_false_iff_eq, Bool.and_eq_true, Bool.or_eq_true, Bool.or_eq_false_iff, Bool.not_eq_true', Bool.not_eq_false', Bool.and_eq_false_imp, ne_eq, gt_iff_lt, ge_iff_le, Int.not_lt, Int.not_le, Classical.not_not] at c4
          have c5 : ¬ bt line (j : Int) = 79 := by omega
          refine Cd.rr [0, 2, 4, 5, 6, 7, 8] fun K hK => ?_
          simp (maxSteps := 2000000) (disch := first | (simp only [E4, d1, d2, tl, hgk] <;> omega) | omega | fail) only [↓E2, E3, bare, bareJ, ↓E0, E1, env0, envN, evOps, evOp, evQs, evQ, evV, setD, pureOp, ev, upd, updL, binW, eqOp, binV, intOp, shOp, boolOp, convV, fieldAddrV, indexAddrV, cellAt, cellsAt, findB, setB, Value.cells, hav, eqL, SameI, strOp, cvtQ, ↓reduceIte, Zj, Zk, Nat.reduceAdd, Nat.reduceLT, Nat.reduceEqDiff, Nat.reduceMul, Nat.reduceLeDiff, if_true, Zn, reduceCtorEq, ZA, eq_self, Int.reduceLE, Int.reduceLT, Int.reduceToNat, ne_eq, Nat.reduceSub, Tarr22, Tfld24_1, Tint5, Tpar2, Tst5, d1, d2, nb5_b1, n5, tl, hgk]
          repeat refine And.intro (by omega) ?_
          rw [mix_yes c4, ← mix_no c5]
          repeat refine And.intro (by omega) ?_
          intro g
          simp only [List.map_cons, List.map_nil, updL, upd, Nat.reduceEqDiff, if_true, if_false, ↓reduceIte]
          refine hK _ _ ?_; clear hK K
          refine inBN ?_
          refine inBN ?_
          refine thenN ?_
          refine Cd.rr [0, 2, 4, 5, 6, 7, 8] fun K hK => ?_
          simp (maxSteps := 2000000) (disch := first | (simp only [E4, d1, d2, tl, hgk] <;> omega) | omega | fail) only [↓E2, E3, bare, bareJ, ↓E0, E1, env0, envN, evOps, evOp, evQs, evQ, evV, setD, pureOp, ev, upd, updL, binW, eqOp, binV, intOp, shOp, boolOp, hav, eqL, SameI, strOp, ↓reduceIte, Zj, Zk, Nat.reduceAdd, Nat.reduceLT, Nat.reduceEqDiff, Nat.reduceMul, Nat.reduceLeDiff, if_true, Zn, reduceCtorEq, ZA, eq_self, Int.reduceLE, Int.reduceLT, Int.reduceToNat, ne_eq, Nat.reduceSub, d1, d2, nb5_b1, n5, tl, hgk]
          repeat refine And.intro (by omega) ?_
          repeat refine And.intro (by omega) ?_
          intro g
          simp only [List.map_cons, List.map_nil, updL, upd, Nat.reduceEqDiff, if_true, if_false, ↓reduceIte]
          refine hK _ _ ?_; clear hK K
          exact roundN (m := q2 - 1) (by omega) ⟨_, j + 1, by omega, rfl, rfl⟩
        · simp only [decide_eq_true_eq, decide_eq_false_iff_not, beq_iff_eq, beq_eq_false_iff_ne, bne_iff_ne, bne_eq_false_iff_eq, Bool.and_eq_true, Bool.or_eq_true, Bool.or_eq_false_iff, Bool.not_eq_true', Bool.not_eq_false', Bool.and_eq_false_imp, ne_eq, gt_iff_lt, ge_iff_le, Int.not_lt, Int.not_le, Classical.not_not] at c4
          refine Cd.rs [0, 2, 4, 5, 6, 7, 8, 55] fun K hK => ?_
          simp (maxSteps := 2000000) (disch := first | (simp only [E4, d1, d2, tl, hgk] <;> omega) | omega | fail) only [↓E2, E3, bare, bareJ, ↓E0, E1, env0, envN, evOps, evOp, evQs, evQ, evV, setD, pureOp, ev, upd, updL, binW, eqOp, binV, intOp, shOp, boolOp, hav, eqL, SameI, strOp, ↓reduceIte, Zj, Zk, Nat.reduceAdd, Nat.reduceLT, Nat.reduceEqDiff, Nat.reduceMul, Nat.reduceLeDiff, if_true, Zn, reduceCtorEq, ZA, eq_self, Int.reduceLE, Int.reduceLT, Int.reduceToNat, ne_eq, Nat.reduceSub, d1, d2, nb5_b1, n5, tl, hgk]
          repeat refine And.intro (by omega) ?_
          repeat refine And.intro (by omega) ?_
          intro g
          simp only [List.map_cons, List.map_nil, updL, upd, Nat.reduceEqDiff, if_true, if_false, ↓reduceIte]
          refine hK _ _ ?_; clear hK K
          refine Cd.cond rfl (fun c5 => ?_) (fun c5 => ?_)
          · simp only [decide_eq_true_eq, decide_eq_false_iff_not, beq_iff_eq, beq_eq_false_iff_ne, bne_iff_ne, bne_eq_false_iff_eq, Bool.and_eq_true, Bool.or_eq_true, Bool.or_eq_false_iff, Bool.not_eq_true', Bool.not_eq_false', Bool.and_eq_false_imp, ne_eq, gt_iff_lt, ge_iff_le, Int.not_lt, Int.not_le, Classical.not_not] at c5
            refine Cd.rr [0, 2, 4, 5, 6, 7, 8] fun K hK => ?_
            simp (maxSteps := 2000000) (disch := first | (simp only [E4, d1, d2, tl, hgk] <;> omega) | omega | fail) only [↓E2, E3, bare, bareJ, ↓E0, E1, env0, envN, evOps, evOp, evQs, evQ, evV, setD, pureOp, ev, upd, updL, binW, eqOp, binV, intOp, shOp, boolOp, convV, fieldAddrV, indexAddrV, cellAt, cellsAt, findB, setB, Value.cells, hav, eqL, SameI, strOp, cvtQ, ↓reduceIte, Zj, Zk, Nat.reduceAdd, Nat.reduceLT, Nat.reduceEqDiff, Nat.reduceMul, Nat.reduceLeDiff, if_true, Zn, reduceCtorEq, ZA, eq_self, Int.reduceLE, Int.reduceLT, Int.reduceToNat, ne_eq, Nat.reduceSub, Tarr22, Tfld24_2, Tint5, Tpar2, Tst5, d1, d2, nb5_b1, n5, tl, hgk]
            repeat refine And.intro (by omega) ?_
            rw [mix_yes c5, ← mix_no c4]
            repeat refine And.intro (by omega) ?_
            intro g
            simp only [List.map_cons, List.map_nil, updL, upd, Nat.reduceEqDiff, if_true, if_false, ↓reduceIte]
            refine hK _ _ ?_; clear hK K
            refine inBN ?_
            refine inBN ?_
            refine thenN ?_
            refine Cd.rr [0, 2, 4, 5, 6, 7, 8] fun K hK => ?_
            simp (maxSteps := 2000000) (disch := first | (simp only [E4, d1, d2, tl, hgk] <;> omega) | omega | fail) only [↓E2, E3, bare, bareJ, ↓E0, E1, env0, envN, evOps, evOp, evQs, evQ, evV, setD, pureOp, ev, upd, updL, binW, eqOp, binV, intOp, shOp, boolOp, hav, eqL, SameI, strOp, ↓reduceIte, Zj, Zk, Nat.reduceAdd, Nat.reduceLT, Nat.reduceEqDiff, Nat.reduceMul, Nat.reduceLeDiff, if_true, Zn, reduceCtorEq, ZA, eq_self, Int.reduceLE, Int.reduceLT, Int.reduceToNat, ne_eq, Nat.reduceSub, d1, d2, nb5_b1, n5, tl, hgk]
            repeat refine And.intro (by omega) ?_
            repeat refine And.intro (by omega) ?_
            intro g
            simp only [List.map_cons, List.map_nil, updL, upd, Nat.reduceEqDiff, if_true, if_false, ↓reduceIte]
            refine hK _ _ ?_; clear hK K
            exact roundN (m := q2 - 1) (by omega) ⟨_, j + 1, by omega, rfl, rfl⟩
          · simp only [decide_eq_true_eq, decide_eq_false_iff_not, beq_iff_eq, beq_eq_false_iff_ne, bne_iff_ne, bne_eq_false_iff_eq, Bool.and_eq_true, Bool.or_eq_true, Bool.or_eq_false_iff, Bool.not_eq_true', Bool.not_eq_false', Bool.and_eq_false_imp, ne_eq, gt_iff_lt, ge_iff_le, Int.not_lt, Int.not_le, Classical.not_not] at c5
            rw [← mix_no c4, ← mix_no c5]
            refine Cd.skip ?_
            refine inBN ?_
            refine inBN ?_
            refine thenN ?_
            refine Cd.rr [0, 2, 4, 5, 6, 7, 8] fun K hK => ?_
            simp (maxSteps := 2000000) (disch := first | (simp only [E4, d1, d2, tl, hgk] <;> omega) | omega | fail) only [↓E2, E3, bare, bareJ, ↓E0, E1, env0, envN, evOps, evOp, evQs, evQ, evV, setD, pureOp, ev, upd, updL, binW, eqOp, binV, intOp, shOp, boolOp, hav, eqL, SameI, strOp, ↓reduceIte, Zj, Zk, Nat.reduceAdd, Nat.reduceLT, Nat.reduceEqDiff, Nat.reduceMul, Nat.reduceLeDiff, if_true, Zn, reduceCtorEq, ZA, eq_self, Int.reduceLE, Int.reduceLT, Int.reduceToNat, ne_eq, Nat.reduceSub, d1, d2, nb5_b1, n5, tl, hgk]
            repeat refine And.intro (by omega) ?_
            repeat refine And.intro (by omega) ?_
            intro g
            simp only [List.map_cons, List.map_nil, updL, upd, Nat.reduceEqDiff, if_true, if_false, ↓reduceIte]
            refine hK _ _ ?_; clear hK K
            exact roundN (m := q2 - 1) (by omega) ⟨_, j + 1, by omega, rfl, rfl⟩
      · simp only [Bool.and_eq_false_imp, decide_eq_true_eq, decide_eq_false_iff_not] at c3
        obtain rfl : j = jm := by
          by_cases h1 : j < jm
          · exact absurd (by omega : (j : Int) < (line.size : Int)) (c3 (by omega))
          · omega
        rw [← hsx, ← hso]
        refine Cd.exit (thenX (roundX (inBX ?_)))
        refine inBN ?_
        refine thenN ?_
        refine Cd.rr [0, 2, 4, 5, 6, 7] fun K hK => ?_
        simp (maxSteps := 2000000) (disch := first | (simp only [E4, d1, d2, tl, hgk] <;> omega) | omega | fail) only [↓E2, E3, bare, bareJ, ↓E0, E1, env0, envN, evOps, evOp, evQs, evQ, evV, setD, pureOp, ev, upd, updL, binW, eqOp, binV, intOp, shOp, boolOp, hav, eqL, SameI, strOp, ↓reduceIte, Zj, Zk, Nat.reduceAdd, Nat.reduceLT, Nat.reduceEqDiff, Nat.reduceMul, Nat.reduceLeDiff, if_true, Zn, reduceCtorEq, ZA, eq_self, Int.reduceLE, Int.reduceLT, Int.reduceToNat, ne_eq, Nat.reduceSub, d1, d2, nb5_b1, n5, tl, hgk]
        repeat refine And.intro (by omega) ?_
        repeat refine And.intro (by omega) ?_
        intro g
        simp only [List.map_cons, List.map_nil, updL, upd, Nat.reduceEqDiff, if_true, if_false, ↓reduceIte]
        refine hK _ _ ?_; clear hK K
        exact roundN (m := q - 1) (by omega) ⟨_, k + 1, by omega, rfl, rfl⟩
    · obtain rfl : k = I.length := by omega
      refine Cd.exit (thenX (roundX (inBX ?_)))
      refine thenN ?_
      have ex : sX I 88 = tab (rwF (fun k => I.getD k noB) I.length (fun k => (I.length : Int) - 1 - k) 88 I.length) := rfl
      have eo : sX I 79 = tab (rwF (fun k => I.getD k noB) I.length (fun k => (I.length : Int) - 1 - k) 79 I.length) := rfl
      rw [← ex, ← eo]
      have bx : Bytes8 (sX I 88) := tab_rng (rwF_rng _ (hvl _ (Nat.le_refl _)))
      have bo : Bytes8 (sX I 79) := tab_rng (rwF_rng _ (hvl _ (Nat.le_refl _)))
      generalize sX I 88 = x at *
      generalize sX I 79 = o at *
      have xl := bx.len
      have ol := bo.len
      have hI := l01Is_c (I.length : Int) x o bx bo
      have hP := l01Picture_c I.length x o bx bo (by omega)
      skip
      refine Cd.seq ?_
      refine Cd.rs [2, 6, 73] fun K hK => ?_
      simp (maxSteps := 2000000) (disch := first | (simp only [E4, d1, d2, tl, xl, ol] <;> omega) | omega | fail) only [↓E2, E3, bare, bareJ, ↓E0, E1, env0, envN, evOps, evOp, evQs, evQ, evV, setD, pureOp, ev, upd, updL, gate, binW, eqOp, binV, intOp, shOp, boolOp, unV, cellAt, cellsAt, findB, setB, hav, eqL, SameI, strOp, ↓reduceIte, Zj, Zk, Nat.reduceAdd, Nat.reduceLT, Nat.reduceEqDiff, Nat.reduceMul, Nat.reduceLeDiff, if_true, Zn, reduceCtorEq, ZA, eq_self, Int.reduceLE, Int.reduceLT, Int.reduceToNat, ne_eq, Nat.reduceSub, Tld24, d1, d2, nb5_b1, n5, tl, xl, ol]
      repeat refine And.intro (by omega) ?_
      refine callK_gives hI ?_
      simp (maxSteps := 2000000) (disch := first | (simp only [E4, d1, d2, tl, xl, ol] <;> omega) | omega | fail) only [↓E2, E3, bare, bareJ, ↓E0, E1, env0, envN, evOps, evOp, evQs, evQ, evV, setD, pureOp, ev, upd, updL, gate, binW, eqOp, binV, intOp, shOp, boolOp, unV, cellAt, cellsAt, findB, setB, hav, eqL, SameI, strOp, ↓reduceIte, Zj, Zk, Nat.reduceAdd, Nat.reduceLT, Nat.reduceEqDiff, Nat.reduceMul, Nat.reduceLeDiff, if_true, Zn, reduceCtorEq, ZA, eq_self, Int.reduceLE, Int.reduceLT, Int.reduceToNat, ne_eq, Nat.reduceSub, Tld24, d1, d2, nb5_b1, n5, tl, xl, ol]
      repeat refine And.intro (by omega) ?_
      apply guardX_or 4 [69, 70, 71, 72] (j := 3) (d := 68) (tp := 73) (tl := 72) (x := !sameB (strB (picTo I.length x o I.length)) s) rfl rfl rfl rfl rfl
      · intro hq
        simp (maxSteps := 2000000) (disch := first | (simp only [E4, d1, d2, tl, xl, ol] <;> omega) | omega | fail) only [↓E2, E3, bare, bareJ, ↓E0, E1, env0, envN, evOps, evOp, evQs, evQ, evV, setD, pureOp, ev, upd, updL, gate, binW, eqOp, binV, intOp, shOp, boolOp, unV, cellAt, cellsAt, findB, setB, hav, eqL, SameI, strOp, ↓reduceIte, Zj, Zk, Nat.reduceAdd, Nat.reduceLT, Nat.reduceEqDiff, Nat.reduceMul, Nat.reduceLeDiff, if_true, Zn, reduceCtorEq, ZA, eq_self, Int.reduceLE, Int.reduceLT, Int.reduceToNat, ne_eq, Nat.reduceSub, Tld24, d1, d2, nb5_b1, n5, tl, xl, ol]
        repeat refine And.intro (by omega) ?_
        refine callK_gives hP ?_
        simp (maxSteps := 2000000) (disch := first | (simp only [E4, d1, d2, tl, xl, ol] <;> omega) | omega | fail) only [↓E2, E3, bare, bareJ, ↓E0, E1, env0, envN, evOps, evOp, evQs, evQ, evV, setD, pureOp, ev, upd, updL, gate, binW, eqOp, binV, intOp, shOp, boolOp, unV, cellAt, cellsAt, findB, setB, hav, eqL, SameI, strOp, ↓reduceIte, Zj, Zk, Nat.reduceAdd, Nat.reduceLT, Nat.reduceEqDiff, Nat.reduceMul, Nat.reduceLeDiff, if_true, Zn, reduceCtorEq, ZA, eq_self, Int.reduceLE, Int.reduceLT, Int.reduceToNat, ne_eq, Nat.reduceSub, Tld24, d1, d2, nb5_b1, n5, tl, xl, ol]
        repeat refine And.intro (by omega) ?_
        exact rfl
      intro g
      simp (maxSteps := 2000000) (disch := first | (simp only [E4, d1, d2, tl, xl, ol] <;> omega) | omega | fail) only [↓E2, E3, bare, bareJ, ↓E0, E1, env0, envN, evOps, evOp, evQs, evQ, evV, setD, pureOp, ev, upd, updL, gate, binW, eqOp, binV, intOp, shOp, boolOp, unV, cellAt, cellsAt, findB, setB, hav, eqL, SameI, strOp, ↓reduceIte, Zj, Zk, Nat.reduceAdd, Nat.reduceLT, Nat.reduceEqDiff, Nat.reduceMul, Nat.reduceLeDiff, if_true, Zn, reduceCtorEq, ZA, eq_self, Int.reduceLE, Int.reduceLT, Int.reduceToNat, ne_eq, Nat.reduceSub, Tld24, d1, d2, nb5_b1, n5, tl, xl, ol]
      repeat refine And.intro (by omega) ?_
      repeat refine And.intro (by omega) ?_
      intro g
      simp only [List.map_cons, List.map_nil, updL, upd, Nat.reduceEqDiff, if_true, if_false, ↓reduceIte]
      refine hK _ _ ?_; clear hK K
      refine Cd.cond rfl (fun c6 => ?_) (fun c6 => ?_)
      · have hgo : okP I.length x o s = false := by
          unfold okP
          revert c6
          cases gridB (I.length : Int) x o <;> cases sameB (strB (picTo I.length x o I.length)) s <;> simp
        rw [hgo]
        unfold badP
        refine Cd.rs [2, 3] fun K hK => ?_
        simp (maxSteps := 2000000) (disch := first | (simp only [E4, d1, d2, tl, xl, ol] <;> omega) | omega | fail) only [↓E2, E3, bare, bareJ, ↓E0, E1, evP, env0, envN, evOps, evOp, evQs, evQ, evV, setD, pureOp, ev, upd, updL, cellAt, cellsAt, findB, setB, fillL, buildV, Value.cells, hav, ↓reduceIte, Zj, Zk, Nat.reduceAdd, Nat.reduceLT, Nat.reduceEqDiff, Nat.reduceMul, Nat.reduceLeDiff, if_true, Zn, reduceCtorEq, ZA, eq_self, Int.reduceLE, Int.reduceLT, Int.reduceToNat, ne_eq, Nat.reduceSub, Tbld24, Tst24, d1, d2, nb5_b1, n5, tl, xl, ol]
        repeat refine And.intro (by omega) ?_
        repeat refine And.intro (by omega) ?_
        intro g
        simp only [List.map_cons, List.map_nil, updL, upd, Nat.reduceEqDiff, if_true, if_false, ↓reduceIte]
        refine hK _ _ ?_; clear hK K
        refine Cd.ret (thenR ?_)
        simp (maxSteps := 2000000) (disch := first | (simp only [E4, d1, d2, tl, xl, ol] <;> omega) | omega | fail) only [↓E2, E3, bare, bareJ, ↓E0, E1, evP, evPlan, env0, envN, evOps, evOp, evQs, evQ, evV, setD, pureOp, ev, upd, updL, gate, binW, eqOp, binV, intOp, shOp, boolOp, unV, convV, nilV, fieldAddrV, indexAddrV, extractV, cellAt, cellsAt, findB, setB, fillL, buildV, Value.cells, lenV, minV, maxV, hav, sliceV, loV, hiV, bslQ, mksQ, appQ, partsOk, partsCells, delB, eqL, SameI, strOp, apzQ, cvtQ, capV, ↓reduceIte, Zj, Zk, Nat.reduceAdd, Nat.reduceLT, Nat.reduceEqDiff, Nat.reduceMul, Nat.reduceLeDiff, if_true, Zn, reduceCtorEq, ZA, eq_self, Int.reduceLE, Int.reduceLT, Int.reduceToNat, ne_eq, Nat.reduceSub, Tld24, d1, d2, nb5_b1, n5, tl, xl, ol]
        repeat refine And.intro (by omega) ?_
      · have hgo : okP I.length x o s = true := by
          unfold okP
          revert c6
          cases gridB (I.length : Int) x o <;> cases sameB (strB (picTo I.length x o I.length)) s <;> simp
        rw [hgo]
        refine Cd.skip ?_
        refine thenN ?_
        refine Cd.rs [2, 3] fun K hK => ?_
        simp (maxSteps := 2000000) (disch := first | (simp only [E4, d1, d2, tl, xl, ol] <;> omega) | omega | fail) only [↓E2, E3, bare, bareJ, ↓E0, E1, env0, envN, evOps, evOp, evQs, evQ, evV, setD, pureOp, ev, upd, updL, cellAt, cellsAt, findB, setB, Value.cells, hav, ↓reduceIte, Zj, Zk, Nat.reduceAdd, Nat.reduceLT, Nat.reduceEqDiff, Nat.reduceMul, Nat.reduceLeDiff, if_true, Zn, reduceCtorEq, ZA, eq_self, Int.reduceLE, Int.reduceLT, Int.reduceToNat, ne_eq, Nat.reduceSub, Tld24, Tst24, d1, d2, nb5_b1, n5, tl, xl, ol]
        repeat refine And.intro (by omega) ?_
        repeat refine And.intro (by omega) ?_
        intro g
        simp only [List.map_cons, List.map_nil, updL, upd, Nat.reduceEqDiff, if_true, if_false, ↓reduceIte]
        refine hK _ _ ?_; clear hK K
        refine Cd.ret ?_
        simp (maxSteps := 2000000) (disch := first | (simp only [E4, d1, d2, tl, xl, ol] <;> omega) | omega | fail) only [↓E2, E3, bare, bareJ, ↓E0, E1, evP, evPlan, env0, envN, evOps, evOp, evQs, evQ, evV, setD, pureOp, ev, upd, updL, gate, binW, eqOp, binV, intOp, shOp, boolOp, unV, convV, nilV, fieldAddrV, indexAddrV, extractV, cellAt, cellsAt, findB, setB, fillL, buildV, Value.cells, lenV, minV, maxV, hav, sliceV, loV, hiV, bslQ, mksQ, appQ, partsOk, partsCells, delB, eqL, SameI, strOp, apzQ, cvtQ, capV, ↓reduceIte, Zj, Zk, Nat.reduceAdd, Nat.reduceLT, Nat.reduceEqDiff, Nat.reduceMul, Nat.reduceLeDiff, if_true, Zn, reduceCtorEq, ZA, eq_self, Int.reduceLE, Int.reduceLT, Int.reduceToNat, ne_eq, Nat.reduceSub, Tld24, d1, d2, nb5_b1, n5, tl, xl, ol]
        repeat refine And.intro (by omega) ?_

end Go.Proofs

/-
  What the functions of this part hand back: each as a plain function of its arguments. Conditions: none.
-/
namespace Go.Proofs
open Go.W8
set_option linter.unusedVariables false
set_option linter.unusedSimpArgs false
set_option linter.unusedSectionVars false
set_option maxRecDepth 8000
set_option maxHeartbeats 4000000
section
variable {n : Nat} {x o : List Int}
theorem cell_cases (x o : List Int) (r : Int) (i : Nat) : cellB x o r i = 88 ∨ cellB x o r i = 79 ∨ cellB x o r i = 46 := by
  unfold cellB
  split
  · exact .inl rfl
  · split
    · exact .inr (.inl rfl)
    · exact .inr (.inr rfl)
theorem picTo_len2 (n : Nat) (x o : List Int) : ∀ q, (picTo n x o q).length = q * (n + 1)
  | 0 => by simp [picTo]
  | q + 1 => by
    unfold picTo
    rw [List.length_append, List.length_append, picRow_len, picTo_len2 n x o q, List.length_singleton, Nat.succ_mul, Nat.add_assoc]
theorem picTo_pre (n : Nat) (x o : List Int) : ∀ (d q : Nat), ∃ t, picTo n x o (q + d) = picTo n x o q ++ t
  | 0, q => ⟨[], by simp⟩
  | d + 1, q => by
    obtain ⟨t, ht⟩ := picTo_pre n x o d q
    refine ⟨t ++ (picRow x o ((n : Int) - 1 - ((q + d : Nat) : Int)) n ++ [10]), ?_⟩
    show picTo n x o (q + d) ++ picRow x o ((n : Int) - 1 - ((q + d : Nat) : Int)) n ++ [10] = _
    rw [ht]
    simp only [List.append_assoc]
theorem picTo_at {k i : Nat} (hk : k < n) (hi : i < n) : (picTo n x o n).getD (k * (n + 1) + i) 0 = cellB x o ((n : Int) - 1 - (k : Int)) i := by
  obtain ⟨t, ht⟩ := picTo_pre n x o (n - (k + 1)) (k + 1)
  rw [show k + 1 + (n - (k + 1)) = n by omega] at ht
  rw [ht]
  unfold picTo
  rw [List.append_assoc, List.append_assoc, List.getD_eq_getElem?_getD, List.getElem?_append_right (by rw [picTo_len2]; omega), picTo_len2, List.getElem?_append_left (by rw [picRow_len]; omega), show k * (n + 1) + i - k * (n + 1) = i by omega]
  unfold picRow
  rw [List.getElem?_map, List.getElem?_range hi]
  rfl
theorem picTo_nl {k : Nat} (hk : k < n) : (picTo n x o n).getD (k * (n + 1) + n) 0 = 10 := by
  obtain ⟨t, ht⟩ := picTo_pre n x o (n - (k + 1)) (k + 1)
  rw [show k + 1 + (n - (k + 1)) = n by omega] at ht
  rw [ht]
  unfold picTo
  rw [List.append_assoc, List.append_assoc, List.getD_eq_getElem?_getD, List.getElem?_append_right (by rw [picTo_len2]; omega), picTo_len2, List.getElem?_append_right (by rw [picRow_len]; omega), picRow_len, show k * (n + 1) + n - k * (n + 1) - n = 0 by omega]
  rfl
theorem bt_strB {l : List Int} {j : Nat} {v : Int} (hj : j < l.length) (h : l.getD j 0 = v) (h0 : 0 ≤ v) (h1 : v < 256) : bt (strB l) (j : Int) = v := by
  unfold bt
  rw [Int.toNat_natCast, strB_data, List.getD_eq_getElem?_getD, List.getElem?_map]
  rw [List.getD_eq_getElem?_getD] at h
  rw [List.getElem?_eq_getElem hj] at h ⊢
  have h : l[j] = v := h
  show (((UInt8.ofNat l[j].toNat).toNat : Nat) : Int) = v
  rw [h, UInt8.toNat_ofNat']
  omega
end
/-- The lines of a picture. -/
def lnE (s : ByteArray) (n k : Nat) : ByteArray := s.extract (k * (n + 1)) (k * (n + 1) + n)
def lnsE (s : ByteArray) (n : Nat) (q : Nat) : List ByteArray := (List.range q).map (lnE s n)
theorem lnsE_succ (s : ByteArray) (n q : Nat) : lnsE s n (q + 1) = lnsE s n q ++ [lnE s n q] := by
  unfold lnsE; rw [List.range_succ, List.map_append]; rfl
theorem lnsE_len (s : ByteArray) (n q : Nat) : (lnsE s n q).length = q := by simp [lnsE]
theorem lnsE_get {s : ByteArray} {n q k : Nat} (h : k < q) : (lnsE s n q).getD k noB = lnE s n k := by
  unfold lnsE
  rw [List.getD_eq_getElem?_getD, List.getElem?_map, List.getElem?_range h]; rfl
section
variable {n : Nat} {x o : List Int} {s : ByteArray} (hs : strB (picTo n x o n) = s)
include hs
theorem pic_size : s.size = n * (n + 1) := by rw [← hs, strB_size, picTo_len2]
theorem pic_in {k : Nat} (hk : k < n) : k * (n + 1) + n < n * (n + 1) := by
  have h : (k + 1) * (n + 1) ≤ n * (n + 1) := Nat.mul_le_mul_right _ hk
  rw [Nat.succ_mul] at h
  omega
theorem pic_at {k i : Nat} (hk : k < n) (hi : i < n) : bt s ((k * (n + 1) + i : Nat) : Int) = cellB x o ((n : Int) - 1 - (k : Int)) i := by
  have h := pic_in hs hk
  rw [← hs]
  refine bt_strB (by rw [picTo_len2]; omega) (picTo_at hk hi) ?_ ?_ <;> rcases cell_cases x o ((n : Int) - 1 - (k : Int)) i with h | h | h <;> omega
theorem pic_nl {k : Nat} (hk : k < n) : bt s ((k * (n + 1) + n : Nat) : Int) = 10 := by
  have h := pic_in hs hk
  rw [← hs]
  exact bt_strB (by rw [picTo_len2]; omega) (picTo_nl hk) (by omega) (by omega)
theorem pic_sp : ∀ q, q ≤ n → spT s (q * (n + 1)) = (lnsE s n q, q * (n + 1))
  | 0, _ => by rw [Nat.zero_mul]; rfl
  | q + 1, hq => by
    have ih := pic_sp q (by omega)
    have h := sp_from ih (q * (n + 1) + n) (by omega) fun j h1 h2 => by
      have h3 := pic_at hs (k := q) (i := j - q * (n + 1)) (by omega) (by omega)
      rw [show q * (n + 1) + (j - q * (n + 1)) = j by omega] at h3
      rw [h3]
      rcases cell_cases x o ((n : Int) - 1 - (q : Int)) (j - q * (n + 1)) with h | h | h <;> omega
    rw [Nat.succ_mul, ← Nat.add_assoc, spT_yes (pic_nl hs (by omega)), h, lnsE_succ]
    rfl
theorem pic_inI : inI s = lnsE s n n := by
  have h := pic_sp hs n (Nat.le_refl _)
  rw [← pic_size hs] at h
  unfold inI spL
  rw [h, List.length_append, List.length_singleton, Nat.add_sub_cancel, List.take_append_of_le_length (Nat.le_refl _), List.take_length]
theorem ln_size {k : Nat} (hk : k < n) : (lnE s n k).size = n := by
  have h := pic_in hs hk
  have h2 := pic_size hs
  unfold lnE
  rw [ByteArray.size_extract]
  omega
theorem ln_at {k i : Nat} (hk : k < n) (hi : i < n) : bt (lnE s n k) (i : Int) = cellB x o ((n : Int) - 1 - (k : Int)) i := by
  unfold lnE
  rw [bt_ext (by omega), pic_at hs hk hi]
end
theorem rwF_none {ln : Nat → ByteArray} {lim : Nat} {vl : Nat → Int} {ch : Int} {i : Nat} : ∀ K, (∀ k, k < K → ¬ (i < min (ln k).size lim ∧ bt (ln k) (i : Int) = ch)) → rwF ln lim vl ch K i = 0
  | 0, _ => rfl
  | K + 1, h => by
    show mix _ _ _ _ _ i = 0
    unfold mix
    rw [if_neg (h K (by omega))]
    exact rwF_none K fun k hk => h k (by omega)
theorem rwF_one {ln : Nat → ByteArray} {lim : Nat} {vl : Nat → Int} {ch : Int} {i k0 : Nat} : ∀ K, k0 < K → (i < min (ln k0).size lim ∧ bt (ln k0) (i : Int) = ch) → (∀ k, k < K → k ≠ k0 → ¬ (i < min (ln k).size lim ∧ bt (ln k) (i : Int) = ch)) → rwF ln lim vl ch K i = vl k0
  | 0, h, _, _ => nomatch h
  | K + 1, h, h1, h2 => by
    show mix _ _ _ _ _ i = _
    unfold mix
    by_cases e : k0 = K
    · subst e
      rw [if_pos h1]
    · rw [if_neg (h2 K (by omega) (fun q => e q.symm))]
      exact rwF_one K (by omega) h1 fun k hk => h2 k (by omega)
theorem rows_of {ln : Nat → ByteArray} {lim n : Nat} {vl : Nat → Int} {ch : Int} {y : List Int} (hy : y.length = 8) (h8 : n ≤ 8) (hl : n ≤ lim) (hz : ∀ k, k < n → (ln k).size = n) (hc : ∀ k, k < n → ∀ i, i < n → (bt (ln k) (i : Int) = ch ↔ vl k = y.getD i 0))
    (hv : ∀ i, i < n → ∃ k, k < n ∧ vl k = y.getD i 0) (hi : ∀ k j, k < n → j < n → vl k = vl j → k = j) (h0 : ∀ i, i < 8 → n ≤ i → y.getD i 0 = 0) : tab (rwF ln lim vl ch n) = y := by
  refine (tab_eq hy fun q hq => ?_).symm
  by_cases hqn : q < n
  · obtain ⟨k, hk, e⟩ := hv q hqn
    rw [← e]
    refine (rwF_one n hk ⟨by rw [hz k hk]; omega, (hc k hk q hqn).2 e⟩ fun j hj hne hh => hne ?_).symm
    exact hi j k hj hk (by rw [e]; exact (hc j hj q hqn).1 hh.2)
  · rw [h0 q hq (by omega)]
    refine (rwF_none n fun k hk hh => ?_).symm
    have := hh.1
    rw [hz k hk] at this
    omega
theorem cell_x {x o : List Int} {r : Int} {i : Nat} : cellB x o r i = 88 ↔ r = x.getD i 0 := by
  unfold cellB
  by_cases h : r = x.getD i 0
  · rw [if_pos h]; simp [h]
  · rw [if_neg h]
    constructor
    · intro h2
      split at h2 <;> omega
    · intro h2; exact absurd h2 h
theorem cell_o {x o : List Int} {r : Int} {i : Nat} (hne : x.getD i 0 ≠ o.getD i 0) : cellB x o r i = 79 ↔ r = o.getD i 0 := by
  unfold cellB
  by_cases h : r = x.getD i 0
  · rw [if_pos h]
    constructor
    · intro h2; omega
    · intro h2; exact absurd (h.symm.trans h2) hne
  · rw [if_neg h]
    by_cases h3 : r = o.getD i 0
    · rw [if_pos h3]; simp [h3]
    · rw [if_neg h3]
      constructor
      · intro h2; omega
      · intro h2; exact absurd h2 h3
theorem nat_of {y : List Int} {n i : Nat} (hb : Bytes8 y) (hp : IsPerm y n) (h8 : n ≤ 8) (hi : i < n) : ∃ a : Nat, a < n ∧ y.getD i 0 = (a : Int) := by
  have c1 := bytes_get hb (i := i) (by omega)
  have c2 := hp.1 i hi
  exact ⟨(y.getD i 0).toNat, by omega, by omega⟩
section
variable {n : Nat} {x o : List Int} {s : ByteArray} (hs : strB (picTo n x o n) = s) (hx : Bytes8 x) (ho : Bytes8 o) (hg : gridB (n : Int) x o = true)
include hs hx ho hg
theorem pic_both : (inI s).length = n ∧ s.size ≤ 72 ∧ sX (inI s) 88 = x ∧ sX (inI s) 79 = o ∧ iX (inI s) 88 = x ∧ iX (inI s) 79 = o := by
  have hd := (of_decide_eq_true hg).2.2.2.2
  obtain ⟨m, e, h2, h8, px, po⟩ := gridB_perm hg
  obtain rfl : n = m := by omega
  rw [Int.toNat_natCast] at hd
  rw [pic_inI hs]
  have hlen : (lnsE s n n).length = n := lnsE_len s n n
  refine ⟨hlen, ?_, ?_, ?_, ?_, ?_⟩
  · rw [pic_size hs]
    have : n * (n + 1) ≤ 8 * 9 := Nat.mul_le_mul h8 (by omega)
    omega
  · unfold sX
    rw [hlen]
    refine rows_of hx.len h8 (Nat.le_refl _) (fun k hk => ?_) (fun k hk i hi => ?_) (fun i hi => ?_) (fun k j hk hj e => by omega) px.2.2
    · rw [lnsE_get hk, ln_size hs hk]
    · rw [lnsE_get hk, ln_at hs hk hi, cell_x]
    · obtain ⟨a, ha, e⟩ := nat_of hx px h8 hi
      exact ⟨n - 1 - a, by omega, by rw [e]; omega⟩
  · unfold sX
    rw [hlen]
    refine rows_of ho.len h8 (Nat.le_refl _) (fun k hk => ?_) (fun k hk i hi => ?_) (fun i hi => ?_) (fun k j hk hj e => by omega) po.2.2
    · rw [lnsE_get hk, ln_size hs hk]
    · rw [lnsE_get hk, ln_at hs hk hi, cell_o (hd i hi)]
    · obtain ⟨a, ha, e⟩ := nat_of ho po h8 hi
      exact ⟨n - 1 - a, by omega, by rw [e]; omega⟩
  · have hr : ∀ k, k < n → (lnsE s n n).reverse.getD k noB = lnE s n (n - 1 - k) := fun k hk => by
      rw [revG_get (by rw [hlen]; exact hk), hlen, lnsE_get (by omega)]
    unfold iX
    rw [hlen]
    refine rows_of hx.len h8 h8 (fun k hk => ?_) (fun k hk i hi => ?_) (fun i hi => ?_) (fun k j hk hj e => by omega) px.2.2
    · rw [hr k hk, ln_size hs (by omega)]
    · rw [hr k hk, ln_at hs (by omega) hi, cell_x, show (n : Int) - 1 - ((n - 1 - k : Nat) : Int) = (k : Int) by omega]
    · obtain ⟨a, ha, e⟩ := nat_of hx px h8 hi
      exact ⟨a, ha, e.symm⟩
  · have hr : ∀ k, k < n → (lnsE s n n).reverse.getD k noB = lnE s n (n - 1 - k) := fun k hk => by
      rw [revG_get (by rw [hlen]; exact hk), hlen, lnsE_get (by omega)]
    unfold iX
    rw [hlen]
    refine rows_of ho.len h8 h8 (fun k hk => ?_) (fun k hk i hi => ?_) (fun i hi => ?_) (fun k j hk hj e => by omega) po.2.2
    · rw [hr k hk, ln_size hs (by omega)]
    · rw [hr k hk, ln_at hs (by omega) hi, cell_o (hd i hi), show (n : Int) - 1 - ((n - 1 - k : Nat) : Int) = (k : Int) by omega]
    · obtain ⟨a, ha, e⟩ := nat_of ho po h8 hi
      exact ⟨a, ha, e.symm⟩
end
theorem same_eq {a b : ByteArray} (h : sameB a b = true) : a = b := by
  unfold sameB at h
  rw [Lib.toList_data, Lib.toList_data, beq_iff_eq] at h
  exact bytes_ext h
theorem ok_both {n : Nat} {x o : List Int} {s : ByteArray} (h : okP n x o s = true) (hx : Bytes8 x) (ho : Bytes8 o) : 2 ≤ n ∧ n ≤ 8 ∧ (inI s).length = n ∧ s.size ≤ 72 ∧ sX (inI s) 88 = x ∧ sX (inI s) 79 = o ∧ iX (inI s) 88 = x ∧ iX (inI s) 79 = o := by
  unfold okP at h
  rw [Bool.and_eq_true] at h
  have hg := of_decide_eq_true h.1
  exact ⟨by have := hg.1; omega, by have := hg.2.1; omega, pic_both (same_eq h.2) hx ho h.1⟩
theorem outP_bad {n : Nat} {x o : List Int} {s : ByteArray} (h : ¬ okP n x o s = true) : outP n x o s = badP := by unfold outP; rw [if_neg h]
theorem iX_bytes {ls : List ByteArray} {ch : Int} (h : ls.length ≤ 8) : Bytes8 (iX ls ch) := tab_rng (rwF_rng _ fun j hj => by omega)
theorem sX_bytes {ls : List ByteArray} {ch : Int} (h : ls.length ≤ 8) : Bytes8 (sX ls ch) := tab_rng (rwF_rng _ fun j hj => by omega)
theorem pic_same (s : ByteArray) : iPic s = sPic s := by
  unfold iPic sPic
  by_cases h8 : (inI s).length ≤ 8
  · by_cases h1 : okP (inI s).length (iX (inI s) 88) (iX (inI s) 79) s = true
    · obtain ⟨q1, q2, _, q3, q4, q5, _, _⟩ := ok_both h1 (iX_bytes h8) (iX_bytes h8)
      rw [if_pos ⟨q3, q2⟩, if_pos ⟨q1, q2⟩, q4, q5]
    · by_cases h2 : okP (inI s).length (sX (inI s) 88) (sX (inI s) 79) s = true
      · obtain ⟨_, _, _, _, _, _, q6, q7⟩ := ok_both h2 (sX_bytes h8) (sX_bytes h8)
        rw [q6, q7] at h1
        exact absurd h2 h1
      · rw [outP_bad h1, outP_bad h2, ite_self, ite_self]
  · rw [if_neg (fun h => h8 h.2), if_neg (fun h => h8 h.2)]

end Go.Proofs

/-
  What the functions of this part hand back: each as a plain function of its arguments. Conditions: none.
-/
namespace Go.Proofs
open Go.W8
set_option linter.unusedVariables false
set_option linter.unusedSimpArgs false
set_option linter.unusedSectionVars false
set_option maxRecDepth 8000
set_option maxHeartbeats 4000000
theorem eqByteA8_c (a : List Int) (ha : a.length = 8) : Gives Tryd.prog 14 #[.agg (ints .u8 a).toArray, .agg (ints .u8 a).toArray] (.bool true) := by
  refine Gives.of fun w => ?_
  refine acall_of (N := 17) (c := _) (rs := [.tmp 4]) (args := [_, _]) Tryd.func14 rfl (by decide) rfl rfl (Nat.le_of_ble_eq_true rfl) ?_
  refine Cd.rs [2, 3] fun K hK => ?_
  simp (maxSteps := 2000000) (disch := first | omega | (simp only [E4, *] <;> omega) | fail) only [↓E0, E1, env0, envN, evOps, evOp, evQs, evQ, evV, setD, pureOp, ev, upd, updL, Value.cells, hav, ↓reduceIte, Zj, Zk, Nat.reduceAdd, Nat.reduceLT, Nat.reduceEqDiff, Nat.reduceMul, Nat.reduceLeDiff, if_true, Zn, reduceCtorEq, ZA, eq_self, Int.reduceLE, Int.reduceLT, Int.reduceToNat, ne_eq, Nat.reduceSub]
  intro b2 hb2 b3 hb3
  have n32 := hb3.ne
  repeat refine And.intro (by omega) ?_
  intro g
  simp only [List.map_cons, List.map_nil, updL, upd, Nat.reduceEqDiff, if_true, if_false, ↓reduceIte]
  refine hK _ _ ?_; clear hK K
  refine Cd.seq ?_
  refine Cd.rs [2, 3, 5] fun K hK => ?_
  simp (maxSteps := 2000000) (disch := first | omega | (simp only [E4, *] <;> omega) | fail) only [↓E0, E1, env0, envN, evOps, evOp, evQs, evQ, evV, setD, pureOp, ev, upd, updL, hav, ↓reduceIte, Zj, Zk, Nat.reduceAdd, Nat.reduceLT, Nat.reduceEqDiff, Nat.reduceMul, Nat.reduceLeDiff, if_true, Zn, reduceCtorEq, ZA, eq_self, Int.reduceLE, Int.reduceLT, Int.reduceToNat, ne_eq, Nat.reduceSub]
  repeat refine And.intro (by omega) ?_
  intro g
  simp only [List.map_cons, List.map_nil, updL, upd, Nat.reduceEqDiff, if_true, if_false, ↓reduceIte]
  refine hK _ _ ?_; clear hK K
  refine Cd.block ?_
  refine Cd.loop (fun n ρ M => ∃ g k, k + n = 8 ∧ ρ = updL [(2, .pointer (some ⟨b2, 0, none⟩)), (3, .pointer (some ⟨b3, 0, none⟩)), (5, .int .i64 (k : Int))] g ∧ M = [(b3, ints .u8 a), (b2, ints .u8 a)]) 8 ⟨_, 0, Nat.zero_add _, rfl, rfl⟩ ?_
  rintro n ρ M ⟨g, k, hk, rfl, rfl⟩
  refine Cd.seq ?_
  refine Cd.rs [2, 3, 5, 7] fun K hK => ?_
  simp (maxSteps := 2000000) (disch := first | omega | (simp only [E4, *] <;> omega) | fail) only [↓E0, E1, env0, envN, evOps, evOp, evQs, evQ, evV, setD, pureOp, ev, upd, updL, binW, eqOp, binV, intOp, shOp, boolOp, hav, eqL, SameI, strOp, ↓reduceIte, Zj, Zk, Nat.reduceAdd, Nat.reduceLT, Nat.reduceEqDiff, Nat.reduceMul, Nat.reduceLeDiff, if_true, Zn, reduceCtorEq, ZA, eq_self, Int.reduceLE, Int.reduceLT, Int.reduceToNat, ne_eq, Nat.reduceSub]
  repeat refine And.intro (by omega) ?_
  intro g
  simp only [List.map_cons, List.map_nil, updL, upd, Nat.reduceEqDiff, if_true, if_false, ↓reduceIte]
  refine hK _ _ ?_; clear hK K
  refine Cd.condd rfl (fun h1 => ?_) (fun h1 => ?_)
  · refine Cd.skip ?_
    refine thenN ?_
    refine Cd.seq ?_
    refine Cd.block ?_
    refine Cd.qs [2, 3, 5, 16] fol (by kernel_rfl) fun K hK => ?_
    simp (maxSteps := 2000000) (disch := first | omega | (simp only [E4, ha, *] <;> omega) | fail) only [↓E0, E1, evPlan, env0, envN, evOps, evOp, evQs, evQ, evV, setD, pureOp, ev, upd, updL, binW, eqOp, binV, intOp, shOp, boolOp, indexAddrV, cellAt, cellsAt, findB, hav, eqL, SameI, strOp, ↓reduceIte, Zj, Zk, Nat.reduceAdd, Nat.reduceLT, Nat.reduceEqDiff, Nat.reduceMul, Nat.reduceLeDiff, if_true, Zn, reduceCtorEq, ZA, eq_self, Int.reduceLE, Int.reduceLT, Int.reduceToNat, ne_eq, Nat.reduceSub, Tarr22, Tld5, n32, ha]
    repeat refine And.intro (by omega) ?_
    repeat refine And.intro (by omega) ?_
    intro g
    simp only [List.map_cons, List.map_nil, updL, upd, Nat.reduceEqDiff, if_true, if_false, ↓reduceIte]
    refine hK _ ?_; clear hK K
    refine Cd.no rfl ?_
    refine Cd.skip ?_
    refine inBN ?_
    refine thenN ?_
    refine Cd.rr [2, 3, 5] fun K hK => ?_
    simp (maxSteps := 2000000) (disch := first | omega | (simp only [E4, *] <;> omega) | fail) only [↓E0, E1, env0, envN, evOps, evOp, evQs, evQ, evV, setD, pureOp, ev, upd, updL, binW, eqOp, binV, intOp, shOp, boolOp, hav, eqL, SameI, strOp, ↓reduceIte, Zj, Zk, Nat.reduceAdd, Nat.reduceLT, Nat.reduceEqDiff, Nat.reduceMul, Nat.reduceLeDiff, if_true, Zn, reduceCtorEq, ZA, eq_self, Int.reduceLE, Int.reduceLT, Int.reduceToNat, ne_eq, Nat.reduceSub]
    repeat refine And.intro (by omega) ?_
    intro g
    simp only [List.map_cons, List.map_nil, updL, upd, Nat.reduceEqDiff, if_true, if_false, ↓reduceIte]
    refine hK _ _ ?_; clear hK K
    exact roundN (m := n - 1) (by omega) ⟨_, k + 1, by omega, rfl, rfl⟩
  · refine Cd.exit (thenX (roundX (inBX ?_)))
    refine thenN ?_
    refine Cd.rs [4] fun K hK => ?_
    simp (maxSteps := 2000000) (disch := first | omega | (simp only [E4, *] <;> omega) | fail) only [↓E0, E1, env0, envN, evOps, evOp, evQs, evQ, evV, setD, pureOp, ev, upd, updL, hav, ↓reduceIte, Zj, Zk, Nat.reduceAdd, Nat.reduceLT, Nat.reduceEqDiff, Nat.reduceMul, Nat.reduceLeDiff, if_true, Zn, reduceCtorEq, ZA, eq_self, Int.reduceLE, Int.reduceLT, Int.reduceToNat, ne_eq, Nat.reduceSub]
    repeat refine And.intro (by omega) ?_
    intro g
    simp only [List.map_cons, List.map_nil, updL, upd, Nat.reduceEqDiff, if_true, if_false, ↓reduceIte]
    refine hK _ _ ?_; clear hK K
    refine Cd.ret ?_
    simp (maxSteps := 2000000) (disch := first | omega | (simp only [E4, *] <;> omega) | fail) only [↓E0, E1, evP, evPlan, env0, envN, evOps, evOp, evQs, evQ, evV, setD, pureOp, ev, upd, updL, gate, binW, eqOp, binV, intOp, shOp, boolOp, unV, convV, nilV, fieldAddrV, indexAddrV, extractV, cellAt, cellsAt, findB, setB, fillL, buildV, Value.cells, lenV, minV, maxV, hav, sliceV, loV, hiV, bslQ, mksQ, appQ, partsOk, partsCells, delB, eqL, SameI, strOp, apzQ, cvtQ, capV, ↓reduceIte, Zj, Zk, Nat.reduceAdd, Nat.reduceLT, Nat.reduceEqDiff, Nat.reduceMul, Nat.reduceLeDiff, if_true, Zn, reduceCtorEq, ZA, eq_self, Int.reduceLE, Int.reduceLT, Int.reduceToNat, ne_eq, Nat.reduceSub]

theorem eqGrid_c (s : Int) (x o : List Int) (hx : x.length = 8) (ho : o.length = 8) : Gives Tryd.prog 7 #[.agg (gc s x o).toArray, .agg (gc s x o).toArray] (.bool true) := by
  refine Gives.of fun w => ?_
  refine acall_of (N := 22) (c := _) (rs := [.tmp 4]) (args := [_, _]) Tryd.func7 rfl (by decide) rfl rfl (Nat.le_of_ble_eq_true rfl) ?_
  refine Cd.rs [2, 3] fun K hK => ?_
  simp (maxSteps := 2000000) (disch := first | omega | (simp only [E4, *] <;> omega) | fail) only [↓E0, E1, env0, envN, evOps, evOp, evQs, evQ, evV, setD, pureOp, ev, upd, updL, Value.cells, hav, ↓reduceIte, Zj, Zk, Nat.reduceAdd, Nat.reduceLT, Nat.reduceEqDiff, Nat.reduceMul, Nat.reduceLeDiff, if_true, Zn, reduceCtorEq, ZA, eq_self, Int.reduceLE, Int.reduceLT, Int.reduceToNat, ne_eq, Nat.reduceSub]
  intro b2 hb2 b3 hb3
  have n32 := hb3.ne
  repeat refine And.intro (by omega) ?_
  intro g
  simp only [List.map_cons, List.map_nil, updL, upd, Nat.reduceEqDiff, if_true, if_false, ↓reduceIte]
  refine hK _ _ ?_; clear hK K
  refine Cd.seq ?_
  refine Cd.rs [2, 3, 9] fun K hK => ?_
  simp (maxSteps := 2000000) (disch := first | omega | (simp only [E4, hx, ho, *] <;> omega) | fail) only [↓E0, E1, env0, envN, evOps, evOp, evQs, evQ, evV, setD, pureOp, ev, upd, updL, binW, eqOp, binV, intOp, shOp, boolOp, fieldAddrV, cellAt, cellsAt, findB, hav, eqL, SameI, strOp, ↓reduceIte, Zj, Zk, Nat.reduceAdd, Nat.reduceLT, Nat.reduceEqDiff, Nat.reduceMul, Nat.reduceLeDiff, if_true, Zn, reduceCtorEq, ZA, eq_self, Int.reduceLE, Int.reduceLT, Int.reduceToNat, ne_eq, Nat.reduceSub, Tfld24_0, Tld2, n32, hx, ho]
  repeat refine And.intro (by omega) ?_
  intro g
  simp only [List.map_cons, List.map_nil, updL, upd, Nat.reduceEqDiff, if_true, if_false, ↓reduceIte]
  refine hK _ _ ?_; clear hK K
  refine Cd.no rfl ?_
  refine Cd.skip ?_
  refine thenN ?_
  refine Cd.seq ?_
  refine Cd.rs [2, 3, 15] fun K hK => ?_
  simp (maxSteps := 2000000) (disch := first | omega | (simp only [E4, hx, ho, *] <;> omega) | fail) only [↓E0, E1, env0, envN, evOps, evOp, evQs, evQ, evV, setD, pureOp, ev, upd, updL, unV, fieldAddrV, cellAt, cellsAt, findB, setB, hav, ↓reduceIte, Zj, Zk, Nat.reduceAdd, Nat.reduceLT, Nat.reduceEqDiff, Nat.reduceMul, Nat.reduceLeDiff, if_true, Zn, reduceCtorEq, ZA, eq_self, Int.reduceLE, Int.reduceLT, Int.reduceToNat, ne_eq, Nat.reduceSub, Tfld24_1, Tld22, n32, hx, ho]
  refine callK_gives (eqByteA8_c _ hx) ?_
  simp (maxSteps := 2000000) (disch := first | omega | (simp only [E4, *] <;> omega) | fail) only [↓E0, E1, env0, envN, evOps, evOp, evQs, evQ, evV, setD, pureOp, ev, upd, updL, unV, fieldAddrV, cellAt, cellsAt, findB, setB, hav, ↓reduceIte, Zj, Zk, Nat.reduceAdd, Nat.reduceLT, Nat.reduceEqDiff, Nat.reduceMul, Nat.reduceLeDiff, if_true, Zn, reduceCtorEq, ZA, eq_self, Int.reduceLE, Int.reduceLT, Int.reduceToNat, ne_eq, Nat.reduceSub, Tfld24_1, Tld22]
  repeat refine And.intro (by omega) ?_
  intro g
  simp only [List.map_cons, List.map_nil, updL, upd, Nat.reduceEqDiff, if_true, if_false, ↓reduceIte]
  refine hK _ _ ?_; clear hK K
  refine Cd.no rfl ?_
  refine Cd.skip ?_
  refine thenN ?_
  refine Cd.seq ?_
  refine Cd.rs [21] fun K hK => ?_
  simp (maxSteps := 2000000) (disch := first | omega | (simp only [E4, hx, ho, *] <;> omega) | fail) only [↓E0, E1, env0, envN, evOps, evOp, evQs, evQ, evV, setD, pureOp, ev, upd, updL, unV, fieldAddrV, cellAt, cellsAt, findB, setB, hav, ↓reduceIte, Zj, Zk, Nat.reduceAdd, Nat.reduceLT, Nat.reduceEqDiff, Nat.reduceMul, Nat.reduceLeDiff, if_true, Zn, reduceCtorEq, ZA, eq_self, Int.reduceLE, Int.reduceLT, Int.reduceToNat, ne_eq, Nat.reduceSub, Tfld24_2, Tld22, n32, hx, ho]
  refine callK_gives (eqByteA8_c _ ho) ?_
  simp (maxSteps := 2000000) (disch := first | omega | (simp only [E4, *] <;> omega) | fail) only [↓E0, E1, env0, envN, evOps, evOp, evQs, evQ, evV, setD, pureOp, ev, upd, updL, unV, fieldAddrV, cellAt, cellsAt, findB, setB, hav, ↓reduceIte, Zj, Zk, Nat.reduceAdd, Nat.reduceLT, Nat.reduceEqDiff, Nat.reduceMul, Nat.reduceLeDiff, if_true, Zn, reduceCtorEq, ZA, eq_self, Int.reduceLE, Int.reduceLT, Int.reduceToNat, ne_eq, Nat.reduceSub, Tfld24_2, Tld22]
  repeat refine And.intro (by omega) ?_
  intro g
  simp only [List.map_cons, List.map_nil, updL, upd, Nat.reduceEqDiff, if_true, if_false, ↓reduceIte]
  refine hK _ _ ?_; clear hK K
  refine Cd.no rfl ?_
  refine Cd.skip ?_
  refine thenN ?_
  refine Cd.rs [4] fun K hK => ?_
  simp (maxSteps := 2000000) (disch := first | omega | (simp only [E4, *] <;> omega) | fail) only [↓E0, E1, env0, envN, evOps, evOp, evQs, evQ, evV, setD, pureOp, ev, upd, updL, hav, ↓reduceIte, Zj, Zk, Nat.reduceAdd, Nat.reduceLT, Nat.reduceEqDiff, Nat.reduceMul, Nat.reduceLeDiff, if_true, Zn, reduceCtorEq, ZA, eq_self, Int.reduceLE, Int.reduceLT, Int.reduceToNat, ne_eq, Nat.reduceSub]
  repeat refine And.intro (by omega) ?_
  intro g
  simp only [List.map_cons, List.map_nil, updL, upd, Nat.reduceEqDiff, if_true, if_false, ↓reduceIte]
  refine hK _ _ ?_; clear hK K
  refine Cd.ret ?_
  simp (maxSteps := 2000000) (disch := first | omega | (simp only [E4, *] <;> omega) | fail) only [↓E0, E1, evP, evPlan, env0, envN, evOps, evOp, evQs, evQ, evV, setD, pureOp, ev, upd, updL, gate, binW, eqOp, binV, intOp, shOp, boolOp, unV, convV, nilV, fieldAddrV, indexAddrV, extractV, cellAt, cellsAt, findB, setB, fillL, buildV, Value.cells, lenV, minV, maxV, hav, sliceV, loV, hiV, bslQ, mksQ, appQ, partsOk, partsCells, delB, eqL, SameI, strOp, apzQ, cvtQ, capV, ↓reduceIte, Zj, Zk, Nat.reduceAdd, Nat.reduceLT, Nat.reduceEqDiff, Nat.reduceMul, Nat.reduceLeDiff, if_true, Zn, reduceCtorEq, ZA, eq_self, Int.reduceLE, Int.reduceLT, Int.reduceToNat, ne_eq, Nat.reduceSub]

end Go.Proofs

/-
  What the functions of this part hand back: each as a plain function of its arguments. Conditions: none.
-/
namespace Go.Proofs
open Go.W8
set_option linter.unusedVariables false
set_option linter.unusedSimpArgs false
set_option linter.unusedSectionVars false
set_option maxRecDepth 8000
set_option maxHeartbeats 4000000
theorem ppic_shape (s : ByteArray) : ∃ n x o c, sPic s = .tuple #[.agg (gc n x o).toArray, .int .i64 c] ∧ x.length = 8 ∧ o.length = 8 := by
  unfold sPic outP badP
  split
  · split
    · exact ⟨_, _, _, _, rfl, tab_len _, tab_len _⟩
    · exact ⟨_, _, _, _, rfl, rfl, rfl⟩
  · exact ⟨_, _, _, _, rfl, rfl, rfl⟩
theorem lawPic_c (s : ByteArray) (hm : s.size ≤ 9223372036854775807) : Gives Tryd.prog 4 #[.string s] (.bool true) := by
  obtain ⟨n, x, o, c, e, xl, ol⟩ := ppic_shape s
  skip
  refine Gives.of fun w => ?_
  refine acall_of (N := 29) (c := _) (rs := [.tmp 2]) (args := [_]) Tryd.func4 rfl (by decide) rfl rfl (Nat.le_of_ble_eq_true rfl) ?_
  refine Cd.rs [0] fun K hK => ?_
  simp (maxSteps := 2000000) (disch := first | (simp only [E4, xl, ol] <;> omega) | omega | fail) only [↓E2, E3, bare, bareJ, ↓E0, E1, env0, envN, evOps, evOp, evQs, evQ, evV, setD, pureOp, ev, upd, updL, hav, ↓reduceIte, Zj, Zk, Nat.reduceAdd, Nat.reduceLT, Nat.reduceEqDiff, Nat.reduceMul, Nat.reduceLeDiff, if_true, Zn, reduceCtorEq, ZA, eq_self, Int.reduceLE, Int.reduceLT, Int.reduceToNat, ne_eq, Nat.reduceSub, xl, ol]
  repeat refine And.intro (by omega) ?_
  repeat refine And.intro (by omega) ?_
  intro g
  simp only [List.map_cons, List.map_nil, updL, upd, Nat.reduceEqDiff, if_true, if_false, ↓reduceIte]
  refine hK _ _ ?_; clear hK K
  refine Cd.seq ?_
  refine Cd.rs [0, 9] fun K hK => ?_
  simp (maxSteps := 2000000) (disch := first | (simp only [E4, xl, ol] <;> omega) | omega | fail) only [↓E2, E3, bare, bareJ, ↓E0, E1, env0, envN, evOps, evOp, evQs, evQ, evV, setD, pureOp, ev, upd, updL, binW, eqOp, binV, intOp, shOp, boolOp, lenV, hav, eqL, SameI, strOp, ↓reduceIte, Zj, Zk, Nat.reduceAdd, Nat.reduceLT, Nat.reduceEqDiff, Nat.reduceMul, Nat.reduceLeDiff, if_true, Zn, reduceCtorEq, ZA, eq_self, Int.reduceLE, Int.reduceLT, Int.reduceToNat, ne_eq, Nat.reduceSub, Tstr9, xl, ol]
  repeat refine And.intro (by omega) ?_
  repeat refine And.intro (by omega) ?_
  intro g
  simp only [List.map_cons, List.map_nil, updL, upd, Nat.reduceEqDiff, if_true, if_false, ↓reduceIte]
  refine hK _ _ ?_; clear hK K
  refine Cd.cond rfl (fun c1 => ?_) (fun c1 => ?_)
  · refine Cd.rs [2] fun K hK => ?_
    simp (maxSteps := 2000000) (disch := first | (simp only [E4, xl, ol] <;> omega) | omega | fail) only [↓E2, E3, bare, bareJ, ↓E0, E1, env0, envN, evOps, evOp, evQs, evQ, evV, setD, pureOp, ev, upd, updL, hav, ↓reduceIte, Zj, Zk, Nat.reduceAdd, Nat.reduceLT, Nat.reduceEqDiff, Nat.reduceMul, Nat.reduceLeDiff, if_true, Zn, reduceCtorEq, ZA, eq_self, Int.reduceLE, Int.reduceLT, Int.reduceToNat, ne_eq, Nat.reduceSub, xl, ol]
    repeat refine And.intro (by omega) ?_
    repeat refine And.intro (by omega) ?_
    intro g
    simp only [List.map_cons, List.map_nil, updL, upd, Nat.reduceEqDiff, if_true, if_false, ↓reduceIte]
    refine hK _ _ ?_; clear hK K
    refine Cd.ret (thenR ?_)
    simp (maxSteps := 2000000) (disch := first | (simp only [E4, xl, ol] <;> omega) | omega | fail) only [↓E2, E3, bare, bareJ, ↓E0, E1, evP, evPlan, env0, envN, evOps, evOp, evQs, evQ, evV, setD, pureOp, ev, upd, updL, gate, binW, eqOp, binV, intOp, shOp, boolOp, unV, convV, nilV, fieldAddrV, indexAddrV, extractV, cellAt, cellsAt, findB, setB, fillL, buildV, Value.cells, lenV, minV, maxV, hav, sliceV, loV, hiV, bslQ, mksQ, appQ, partsOk, partsCells, delB, eqL, SameI, strOp, apzQ, cvtQ, capV, ↓reduceIte, Zj, Zk, Nat.reduceAdd, Nat.reduceLT, Nat.reduceEqDiff, Nat.reduceMul, Nat.reduceLeDiff, if_true, Zn, reduceCtorEq, ZA, eq_self, Int.reduceLE, Int.reduceLT, Int.reduceToNat, ne_eq, Nat.reduceSub, xl, ol]
    repeat refine And.intro (by omega) ?_
  · simp only [decide_eq_true_eq, decide_eq_false_iff_not, beq_iff_eq, beq_eq_false_iff_ne, bne_iff_ne, bne_eq_false_iff_eq, Bool.and_eq_true, Bool.or_eq_true, Bool.or_eq_false_iff, Bool.not_eq_true', Bool.not_eq_false', Bool.and_eq_false_imp, ne_eq, gt_iff_lt, ge_iff_le, Int.not_lt, Int.not_le, Classical.not_not] at c1
    have hs : s.size ≤ 1048576 := by omega
    have hS := sPic_c s hs
    have hI := iPic_c s hs
    rw [pic_same] at hI
    rw [e] at hS hI
    refine Cd.skip ?_
    refine thenN ?_
    refine Cd.rs [0, 3, 4] fun K hK => ?_
    simp (maxSteps := 2000000) (disch := first | (simp only [E4, xl, ol] <;> omega) | omega | fail) only [↓E2, E3, bare, bareJ, ↓E0, E1, env0, envN, evOps, evOp, evQs, evQ, evV, setD, pureOp, ev, upd, updL, extractV, cellAt, cellsAt, findB, setB, Value.cells, hav, ↓reduceIte, Zj, Zk, Nat.reduceAdd, Nat.reduceLT, Nat.reduceEqDiff, Nat.reduceMul, Nat.reduceLeDiff, if_true, Zn, reduceCtorEq, ZA, eq_self, Int.reduceLE, Int.reduceLT, Int.reduceToNat, ne_eq, Nat.reduceSub, Tst24, Tzero24, xl, ol]
    repeat refine And.intro (by omega) ?_
    refine callK_gives hS ?_
    simp (maxSteps := 2000000) (disch := first | (simp only [E4, xl, ol] <;> omega) | omega | fail) only [↓E2, E3, bare, bareJ, ↓E0, E1, env0, envN, evOps, evOp, evQs, evQ, evV, setD, pureOp, ev, upd, updL, extractV, cellAt, cellsAt, findB, setB, Value.cells, hav, ↓reduceIte, Zj, Zk, Nat.reduceAdd, Nat.reduceLT, Nat.reduceEqDiff, Nat.reduceMul, Nat.reduceLeDiff, if_true, Zn, reduceCtorEq, ZA, eq_self, Int.reduceLE, Int.reduceLT, Int.reduceToNat, ne_eq, Nat.reduceSub, Tst24, Tzero24, xl, ol]
    repeat refine And.intro (by omega) ?_
    intro b1 hb1
    try simp (maxSteps := 2000000) (disch := first | (simp only [E4, xl, ol] <;> omega) | omega | fail) only [↓E2, E3, bare, bareJ, ↓E0, E1, env0, envN, evOps, evOp, evQs, evQ, evV, setD, pureOp, ev, upd, updL, extractV, cellAt, cellsAt, findB, setB, Value.cells, hav, ↓reduceIte, Zj, Zk, Nat.reduceAdd, Nat.reduceLT, Nat.reduceEqDiff, Nat.reduceMul, Nat.reduceLeDiff, if_true, Zn, reduceCtorEq, ZA, eq_self, Int.reduceLE, Int.reduceLT, Int.reduceToNat, ne_eq, Nat.reduceSub, Tst24, Tzero24, xl, ol]
    repeat refine And.intro (by omega) ?_
    repeat refine And.intro (by omega) ?_
    intro g
    simp only [List.map_cons, List.map_nil, updL, upd, Nat.reduceEqDiff, if_true, if_false, ↓reduceIte]
    refine hK _ _ ?_; clear hK K
    refine Cd.rs [3, 4, 5, 6] fun K hK => ?_
    simp (maxSteps := 2000000) (disch := first | (simp only [E4, xl, ol] <;> omega) | omega | fail) only [↓E2, E3, bare, bareJ, ↓E0, E1, env0, envN, evOps, evOp, evQs, evQ, evV, setD, pureOp, ev, upd, updL, extractV, cellAt, cellsAt, findB, setB, Value.cells, hav, ↓reduceIte, Zj, Zk, Nat.reduceAdd, Nat.reduceLT, Nat.reduceEqDiff, Nat.reduceMul, Nat.reduceLeDiff, if_true, Zn, reduceCtorEq, ZA, eq_self, Int.reduceLE, Int.reduceLT, Int.reduceToNat, ne_eq, Nat.reduceSub, Tst24, Tzero24, xl, ol]
    repeat refine And.intro (by omega) ?_
    refine callK_gives hI ?_
    simp (maxSteps := 2000000) (disch := first | (simp only [E4, xl, ol] <;> omega) | omega | fail) only [↓E2, E3, bare, bareJ, ↓E0, E1, env0, envN, evOps, evOp, evQs, evQ, evV, setD, pureOp, ev, upd, updL, extractV, cellAt, cellsAt, findB, setB, Value.cells, hav, ↓reduceIte, Zj, Zk, Nat.reduceAdd, Nat.reduceLT, Nat.reduceEqDiff, Nat.reduceMul, Nat.reduceLeDiff, if_true, Zn, reduceCtorEq, ZA, eq_self, Int.reduceLE, Int.reduceLT, Int.reduceToNat, ne_eq, Nat.reduceSub, Tst24, Tzero24, xl, ol]
    repeat refine And.intro (by omega) ?_
    intro b2 hb2
    have nb2_b1 := hb2.ne
    try simp (maxSteps := 2000000) (disch := first | (simp only [E4, xl, ol] <;> omega) | omega | fail) only [↓E2, E3, bare, bareJ, ↓E0, E1, env0, envN, evOps, evOp, evQs, evQ, evV, setD, pureOp, ev, upd, updL, extractV, cellAt, cellsAt, findB, setB, Value.cells, hav, ↓reduceIte, Zj, Zk, Nat.reduceAdd, Nat.reduceLT, Nat.reduceEqDiff, Nat.reduceMul, Nat.reduceLeDiff, if_true, Zn, reduceCtorEq, ZA, eq_self, Int.reduceLE, Int.reduceLT, Int.reduceToNat, ne_eq, Nat.reduceSub, Tst24, Tzero24, xl, ol, nb2_b1]
    repeat refine And.intro (by omega) ?_
    repeat refine And.intro (by omega) ?_
    intro g
    simp only [List.map_cons, List.map_nil, updL, upd, Nat.reduceEqDiff, if_true, if_false, ↓reduceIte]
    refine hK _ _ ?_; clear hK K
    refine Cd.seq ?_
    refine Cd.rs [28] fun K hK => ?_
    simp (maxSteps := 2000000) (disch := first | (simp only [E4, xl, ol] <;> omega) | omega | fail) only [↓E2, E3, bare, bareJ, ↓E0, E1, env0, envN, evOps, evOp, evQs, evQ, evV, setD, pureOp, ev, upd, updL, gate, binW, eqOp, binV, intOp, shOp, boolOp, unV, cellAt, cellsAt, findB, setB, hav, eqL, SameI, strOp, ↓reduceIte, Zj, Zk, Nat.reduceAdd, Nat.reduceLT, Nat.reduceEqDiff, Nat.reduceMul, Nat.reduceLeDiff, if_true, Zn, reduceCtorEq, ZA, eq_self, Int.reduceLE, Int.reduceLT, Int.reduceToNat, ne_eq, Nat.reduceSub, Tld24, xl, ol, nb2_b1]
    repeat refine And.intro (by omega) ?_
    refine callK_gives (eqGrid_c n x o xl ol) ?_
    simp (maxSteps := 2000000) (disch := first | (simp only [E4, xl, ol] <;> omega) | omega | fail) only [↓E2, E3, bare, bareJ, ↓E0, E1, env0, envN, evOps, evOp, evQs, evQ, evV, setD, pureOp, ev, upd, updL, gate, binW, eqOp, binV, intOp, shOp, boolOp, unV, cellAt, cellsAt, findB, setB, hav, eqL, SameI, strOp, ↓reduceIte, Zj, Zk, Nat.reduceAdd, Nat.reduceLT, Nat.reduceEqDiff, Nat.reduceMul, Nat.reduceLeDiff, if_true, Zn, reduceCtorEq, ZA, eq_self, Int.reduceLE, Int.reduceLT, Int.reduceToNat, ne_eq, Nat.reduceSub, Tld24, xl, ol, nb2_b1]
    repeat refine And.intro (by omega) ?_
    apply guardX_or 3 [25, 26, 27] (j := 4) (d := 24) (tp := 28) (tl := 27) rfl rfl rfl rfl rfl
    · intro hq
      simp (maxSteps := 2000000) (disch := first | (simp only [E4, xl, ol] <;> omega) | omega | fail) only [↓E2, E3, bare, bareJ, ↓E0, E1, env0, envN, evOps, evOp, evQs, evQ, evV, setD, pureOp, ev, upd, updL, gate, binW, eqOp, binV, intOp, shOp, boolOp, unV, cellAt, cellsAt, findB, setB, hav, eqL, SameI, strOp, ↓reduceIte, Zj, Zk, Nat.reduceAdd, Nat.reduceLT, Nat.reduceEqDiff, Nat.reduceMul, Nat.reduceLeDiff, if_true, Zn, reduceCtorEq, ZA, eq_self, Int.reduceLE, Int.reduceLT, Int.reduceToNat, ne_eq, Nat.reduceSub, Tld24, xl, ol, nb2_b1]
      repeat refine And.intro (by omega) ?_
      exact rfl
    intro g
    simp (maxSteps := 2000000) (disch := first | (simp only [E4, xl, ol] <;> omega) | omega | fail) only [↓E2, E3, bare, bareJ, ↓E0, E1, env0, envN, evOps, evOp, evQs, evQ, evV, setD, pureOp, ev, upd, updL, gate, binW, eqOp, binV, intOp, shOp, boolOp, unV, cellAt, cellsAt, findB, setB, hav, eqL, SameI, strOp, ↓reduceIte, Zj, Zk, Nat.reduceAdd, Nat.reduceLT, Nat.reduceEqDiff, Nat.reduceMul, Nat.reduceLeDiff, if_true, Zn, reduceCtorEq, ZA, eq_self, Int.reduceLE, Int.reduceLT, Int.reduceToNat, ne_eq, Nat.reduceSub, Tld24, xl, ol, nb2_b1]
    repeat refine And.intro (by omega) ?_
    repeat refine And.intro (by omega) ?_
    intro g
    simp only [List.map_cons, List.map_nil, updL, upd, Nat.reduceEqDiff, if_true, if_false, ↓reduceIte]
    refine hK _ _ ?_; clear hK K
    refine Cd.cond rfl (fun c2 => absurd c2 (by decide)) (fun c2 => ?_)
    refine Cd.skip ?_
    refine thenN ?_
    refine Cd.rs [2] fun K hK => ?_
    simp (maxSteps := 2000000) (disch := first | (simp only [E4, xl, ol] <;> omega) | omega | fail) only [↓E2, E3, bare, bareJ, ↓E0, E1, env0, envN, evOps, evOp, evQs, evQ, evV, setD, pureOp, ev, upd, updL, hav, ↓reduceIte, Zj, Zk, Nat.reduceAdd, Nat.reduceLT, Nat.reduceEqDiff, Nat.reduceMul, Nat.reduceLeDiff, if_true, Zn, reduceCtorEq, ZA, eq_self, Int.reduceLE, Int.reduceLT, Int.reduceToNat, ne_eq, Nat.reduceSub, xl, ol, nb2_b1]
    repeat refine And.intro (by omega) ?_
    repeat refine And.intro (by omega) ?_
    intro g
    simp only [List.map_cons, List.map_nil, updL, upd, Nat.reduceEqDiff, if_true, if_false, ↓reduceIte]
    refine hK _ _ ?_; clear hK K
    refine Cd.ret ?_
    simp (maxSteps := 2000000) (disch := first | (simp only [E4, xl, ol] <;> omega) | omega | fail) only [↓E2, E3, bare, bareJ, ↓E0, E1, evP, evPlan, env0, envN, evOps, evOp, evQs, evQ, evV, setD, pureOp, ev, upd, updL, gate, binW, eqOp, binV, intOp, shOp, boolOp, unV, convV, nilV, fieldAddrV, indexAddrV, extractV, cellAt, cellsAt, findB, setB, fillL, buildV, Value.cells, lenV, minV, maxV, hav, sliceV, loV, hiV, bslQ, mksQ, appQ, partsOk, partsCells, delB, eqL, SameI, strOp, apzQ, cvtQ, capV, ↓reduceIte, Zj, Zk, Nat.reduceAdd, Nat.reduceLT, Nat.reduceEqDiff, Nat.reduceMul, Nat.reduceLeDiff, if_true, Zn, reduceCtorEq, ZA, eq_self, Int.reduceLE, Int.reduceLT, Int.reduceToNat, ne_eq, Nat.reduceSub, xl, ol, nb2_b1]
    repeat refine And.intro (by omega) ?_

end Go.Proofs

/-
  What the functions of this part hand back: each as a plain function of its arguments. Conditions: none.
-/
namespace Go.Proofs
open Go.W8
set_option linter.unusedVariables false
set_option linter.unusedSimpArgs false
set_option linter.unusedSectionVars false
set_option maxRecDepth 8000
set_option maxHeartbeats 4000000
--@plain
open Go.ChangeShapes Go.WideShapes Go.ChangeAt Go.RowKit in
/-- A law that hands back a value of numbers and truths and leaves what was there as it was meets its row's postcondition. -/
theorem post_own {H : Type} {enc : TypeId × Value → H} {P : Program} {f : Func} {s : ChangeSpec} {apart fresh handsOn again : Bool} {w w' : World} {args : Array Value} {v : Value} {ds gs : List (DataW H)} {before pa pv : List MemPlace}
    (hW : DataW.Whole enc P f.params.toList s.vars apart w args.toList ds gs before)
    (hres : ∀ (b : Nat) (sp : Nat → Bool) (hd : Bool), DataW.TrodAll enc P w' b sp hd f.resultTypes.toList (v.resultList f.resultTypes.size) (s.fn H (ds ++ gs)).results [])
    (hargs : ∀ sp : Nat → Bool, (∀ p ∈ before, sp p.block = true) → DataW.TrodAll enc P w' 0 sp true f.params.toList args.toList (s.fn H (ds ++ gs)).args pa)
    (hvars : ∀ sp : Nat → Bool, (∀ p ∈ before, sp p.block = true) → DataW.TrodVars enc P w' sp s.vars (s.fn H (ds ++ gs)).vars pv)
    (hps : before = pa ++ pv) (ho : Own [] w [] w')
    (hok : ∀ (j : Nat) (t : TypeId) (r : Value), f.resultTypes[j]? = some t → (v.resultList f.resultTypes.size)[j]? = some r → Value.okWide P w' .any 0 t r) :
    s.post enc P f apart fresh handsOn again w args v w' := by
  have hb : Below w.heap.size w w' := ⟨ho.os, ho.tape, ho.output, ho.size, fun k hk => ho.frame k hk (by simp)⟩
  have old : ∀ p ∈ before, p.block < w.heap.size := fun p hp => hW.lt p hp
  have told : ∀ p ∈ before, (fun b => decide (b < w.heap.size)) p.block = true := fun p hp => decide_eq_true (old p hp)
  refine ⟨ds, gs, before, [], pa, pv, hW, hres _ _ _, hargs _ told, hvars _ told, ?_, fun _ => ?_⟩
  · exact World.keptBut_mono (fun p hp => ⟨hp, by
      rw [hps] at hp
      exact List.mem_append.1 hp |>.elim (fun h => by simp [h]) (fun h => by simp [h])⟩) (hb.frame (· ∈ before))
  · obtain ⟨_, _, _, _, _, hz, hn⟩ := hW
    refine ⟨hok, _, _, ([] ++ pa) ++ pv, ⟨[] ++ pa, pv, trodAll_append (hargs _ (fun _ _ => rfl)) (hres _ _ _), hvars _ (fun _ _ => rfl), rfl, fun b off hp => ?_, fun ha => ?_⟩, fun p hp _ => ?_⟩
    · have hin : MemPlace.cell b off ∈ before := by rw [hps]; simpa using hp
      rw [hb.frozen (old _ hin)]
      exact hz b off hin
    · have h1 := hn ha
      rw [hps] at h1
      simpa using h1
    · rw [hps]
      simpa using hp

end Go.Proofs

