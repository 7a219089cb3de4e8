/-
  What the functions of this part hand back: each as a plain function of its arguments. Conditions: none.
-/
import Derived.ProofKit
import Derived.OpenShut
import Derived.Below
import Derived.ChangeSame
import Derived.Test.YtdfddcfgagfdoaaM1
import Derived.Test.YtdfddcfgagfdoaaM2
import Derived.Test.YtdfddcfgagfdoaaM3
import Derived.Test.YtdfddcfgagfdoaaM4
import Derived.Test.YtdfddcfgagfdoaaM5
namespace Go.Proofs
open Go.W8
set_option linter.unusedVariables false
set_option linter.unusedSimpArgs false
set_option linter.unusedSectionVars false
set_option maxRecDepth 8000
set_option maxHeartbeats 4000000
section
variable (R : Rd) (l : List Int) (hb : ∀ k, k < l.length → 0 ≤ l.getD k 0 ∧ l.getD k 0 < 256) (hbl : l.length ≤ 9223372036854775807) (s0 : Value) (hin : InB R l s0) (hne : ∀ r ∈ R, r.2.2 ≠ [])
include hb hbl hin hne
theorem lawStab_c : GivesR Try.prog 4 #[s0] R (.bool true) := by
  obtain ⟨a0, cap0, rfl⟩ := hin.form
  refine GivesR.of (callable_of Try.func4 rfl (by decide)) fun w hR => ?_
  refine acall_of (N := 255) (c := _) (rs := [.tmp 2]) (args := [_]) Try.func4 rfl (by decide) rfl rfl (Nat.le_of_ble_eq_true rfl) ?_
  have hR : W8.Told [] w R := hR
  refine Cd.rs [0] fun K hK => ?_
  simp (maxSteps := 2000000) (disch := first | (simp only [E4] <;> omega) | omega | fail) only [↓E2, E3, bare, bareJ, ↓E0, E1, env0, envN, evOps, evOp, evQs, evQ, evV, setD, pureOp, ev, upd, updL, hav, ↓reduceIte, Zj, Zk, Nat.reduceAdd, Nat.reduceLT, Nat.reduceEqDiff, Nat.reduceMul, Nat.reduceLeDiff, if_true, Zn, reduceCtorEq, ZA, eq_self, Int.reduceLE, Int.reduceLT, Int.reduceToNat, ne_eq, Nat.reduceSub]
  repeat refine And.intro (by omega) ?_
  repeat refine And.intro (by omega) ?_
  intro g
  simp only [List.map_cons, List.map_nil, updL, upd, Nat.reduceEqDiff, if_true, if_false, ↓reduceIte]
  refine hK _ _ ?_; clear hK K
  refine Cd.seq ?_
  refine Cd.rs [0, 39] fun K hK => ?_
  simp (maxSteps := 2000000) (disch := first | (simp only [E4] <;> omega) | omega | fail) only [↓E2, E3, bare, bareJ, ↓E0, E1, env0, envN, evOps, evOp, evQs, evQ, evV, setD, pureOp, ev, upd, updL, cellAt, cellsAt, findB, setB, hav, ↓reduceIte, Zj, Zk, Nat.reduceAdd, Nat.reduceLT, Nat.reduceEqDiff, Nat.reduceMul, Nat.reduceLeDiff, if_true, Zn, reduceCtorEq, ZA, eq_self, Int.reduceLE, Int.reduceLT, Int.reduceToNat, ne_eq, Nat.reduceSub]
  repeat refine And.intro (by omega) ?_
  refine callK_gives (big_c l _ R hin hbl) ?_
  simp (maxSteps := 2000000) (disch := first | (simp only [E4] <;> omega) | omega | fail) only [↓E2, E3, bare, bareJ, ↓E0, E1, env0, envN, evOps, evOp, evQs, evQ, evV, setD, pureOp, ev, upd, updL, cellAt, cellsAt, findB, setB, hav, ↓reduceIte, Zj, Zk, Nat.reduceAdd, Nat.reduceLT, Nat.reduceEqDiff, Nat.reduceMul, Nat.reduceLeDiff, if_true, Zn, reduceCtorEq, ZA, eq_self, Int.reduceLE, Int.reduceLT, Int.reduceToNat, ne_eq, Nat.reduceSub]
  repeat refine And.intro (by omega) ?_
  repeat refine And.intro (by omega) ?_
  intro g
  simp only [List.map_cons, List.map_nil, updL, upd, Nat.reduceEqDiff, if_true, if_false, ↓reduceIte]
  refine hK _ _ ?_; clear hK K
  refine Cd.cond rfl (fun e1 => ?_) (fun e1 => ?_)
  · refine Cd.rs [2] fun K hK => ?_
    simp (maxSteps := 2000000) (disch := first | (simp only [E4] <;> omega) | omega | fail) only [↓E2, E3, bare, bareJ, ↓E0, E1, env0, envN, evOps, evOp, evQs, evQ, evV, setD, pureOp, ev, upd, updL, hav, ↓reduceIte, Zj, Zk, Nat.reduceAdd, Nat.reduceLT, Nat.reduceEqDiff, Nat.reduceMul, Nat.reduceLeDiff, if_true, Zn, reduceCtorEq, ZA, eq_self, Int.reduceLE, Int.reduceLT, Int.reduceToNat, ne_eq, Nat.reduceSub]
    repeat refine And.intro (by omega) ?_
    repeat refine And.intro (by omega) ?_
    intro g
    simp only [List.map_cons, List.map_nil, updL, upd, Nat.reduceEqDiff, if_true, if_false, ↓reduceIte]
    refine hK _ _ ?_; clear hK K
    refine Cd.ret (thenR ?_)
    simp (maxSteps := 2000000) (disch := first | (simp only [E4] <;> omega) | omega | fail) only [↓E2, E3, bare, bareJ, ↓E0, E1, evP, evPlan, env0, envN, evOps, evOp, evQs, evQ, evV, setD, pureOp, ev, upd, updL, gate, binW, eqOp, binV, intOp, shOp, boolOp, unV, convV, nilV, fieldAddrV, indexAddrV, extractV, cellAt, cellsAt, findB, setB, fillL, buildV, Value.cells, lenV, minV, maxV, hav, sliceV, loV, hiV, bslQ, mksQ, appQ, partsOk, partsCells, delB, eqL, SameI, strOp, apzQ, cvtQ, capV, ↓reduceIte, Zj, Zk, Nat.reduceAdd, Nat.reduceLT, Nat.reduceEqDiff, Nat.reduceMul, Nat.reduceLeDiff, if_true, Zn, reduceCtorEq, ZA, eq_self, Int.reduceLE, Int.reduceLT, Int.reduceToNat, ne_eq, Nat.reduceSub]
    repeat refine And.intro (by omega) ?_
  · simp only [decide_eq_true_eq, decide_eq_false_iff_not, beq_iff_eq, beq_eq_false_iff_ne, bne_iff_ne, bne_eq_false_iff_eq, Bool.and_eq_true, Bool.or_eq_true, Bool.or_eq_false_iff, Bool.not_eq_true', Bool.not_eq_false', Bool.and_eq_false_imp, ne_eq, gt_iff_lt, ge_iff_le, Int.not_lt, Int.not_le, Classical.not_not] at e1
    have hl4 : l.length ≤ 4096 := by omega
    refine Cd.skip ?_
    refine thenN ?_
    refine Cd.rs [0, 3, 4, 5, 6, 7] fun K hK => ?_
    simp (maxSteps := 2000000) (disch := first | (simp only [E4] <;> omega) | omega | fail) only [↓E2, E3, bare, bareJ, ↓E0, E1, env0, envN, evOps, evOp, evQs, evQ, evV, setD, pureOp, ev, upd, updL, extractV, cellAt, cellsAt, findB, setB, Value.cells, hav, ↓reduceIte, Zj, Zk, Nat.reduceAdd, Nat.reduceLT, Nat.reduceEqDiff, Nat.reduceMul, Nat.reduceLeDiff, if_true, Zn, reduceCtorEq, ZA, eq_self, Int.reduceLE, Int.reduceLT, Int.reduceToNat, ne_eq, Nat.reduceSub, Tst32, Tzero32]
    repeat refine And.intro (by omega) ?_
    refine callK_new0 (dStab_c l _ R hin hl4 hb hne) (Told.toldW hR) ?_
    rintro v M' ⟨⟨s, x, o, i, m, r, u, rfl, hs, hx, ho, hi, hm, hr, hu⟩, rfl⟩ _ _
    have xl := hx.len
    have ol := ho.len
    skip
    simp only [List.nil_append]
    simp (maxSteps := 2000000) (disch := first | (simp only [E4, xl, ol] <;> omega) | omega | fail) only [↓E2, E3, bare, bareJ, ↓E0, E1, env0, envN, evOps, evOp, evQs, evQ, evV, setD, pureOp, ev, upd, updL, extractV, cellAt, cellsAt, findB, setB, Value.cells, hav, ↓reduceIte, Zj, Zk, Nat.reduceAdd, Nat.reduceLT, Nat.reduceEqDiff, Nat.reduceMul, Nat.reduceLeDiff, if_true, Zn, reduceCtorEq, ZA, eq_self, Int.reduceLE, Int.reduceLT, Int.reduceToNat, ne_eq, Nat.reduceSub, Tst32, Tzero32, xl, ol]
    repeat refine And.intro (by omega) ?_
    intro b1 hb1
    try simp (maxSteps := 2000000) (disch := first | (simp only [E4, xl, ol] <;> omega) | omega | fail) only [↓E2, E3, bare, bareJ, ↓E0, E1, env0, envN, evOps, evOp, evQs, evQ, evV, setD, pureOp, ev, upd, updL, extractV, cellAt, cellsAt, findB, setB, Value.cells, hav, ↓reduceIte, Zj, Zk, Nat.reduceAdd, Nat.reduceLT, Nat.reduceEqDiff, Nat.reduceMul, Nat.reduceLeDiff, if_true, Zn, reduceCtorEq, ZA, eq_self, Int.reduceLE, Int.reduceLT, Int.reduceToNat, ne_eq, Nat.reduceSub, Tst32, Tzero32, xl, ol]
    repeat refine And.intro (by omega) ?_
    repeat refine And.intro (by omega) ?_
    intro g
    simp only [List.map_cons, List.map_nil, updL, upd, Nat.reduceEqDiff, if_true, if_false, ↓reduceIte]
    refine hK _ _ ?_; clear hK K
    obtain ⟨s1, x1, o1, c1, q1, hx1, ho1, D1⟩ := stab_law (s := s) hx ho i m r u
    have hA := implStabilizeAt_c s x o hx ho i hi m hm r hr u hu
    have hB := specStabilizeAt_c s x o hx ho i hi m hm r hr u hu
    rw [q1] at hA hB
    have xl1 := hx1.len
    have ol1 := ho1.len
    skip
    refine Cd.rs [0, 3, 4, 5, 6, 7, 8, 9] fun K hK => ?_
    simp (maxSteps := 2000000) (disch := first | (simp only [E4, xl, ol, xl1, ol1] <;> omega) | omega | fail) only [↓E2, E3, bare, bareJ, ↓E0, E1, env0, envN, evOps, evOp, evQs, evQ, evV, setD, pureOp, ev, upd, updL, extractV, cellAt, cellsAt, findB, setB, Value.cells, hav, ↓reduceIte, Zj, Zk, Nat.reduceAdd, Nat.reduceLT, Nat.reduceEqDiff, Nat.reduceMul, Nat.reduceLeDiff, if_true, Zn, reduceCtorEq, ZA, eq_self, Int.reduceLE, Int.reduceLT, Int.reduceToNat, ne_eq, Nat.reduceSub, Tld32, Tst32, Tzero32, xl, ol, xl1, ol1]
    repeat refine And.intro (by omega) ?_
    refine callK_gives hA ?_
    simp (maxSteps := 2000000) (disch := first | (simp only [E4, xl, ol, xl1, ol1] <;> omega) | omega | fail) only [↓E2, E3, bare, bareJ, ↓E0, E1, env0, envN, evOps, evOp, evQs, evQ, evV, setD, pureOp, ev, upd, updL, extractV, cellAt, cellsAt, findB, setB, Value.cells, hav, ↓reduceIte, Zj, Zk, Nat.reduceAdd, Nat.reduceLT, Nat.reduceEqDiff, Nat.reduceMul, Nat.reduceLeDiff, if_true, Zn, reduceCtorEq, ZA, eq_self, Int.reduceLE, Int.reduceLT, Int.reduceToNat, ne_eq, Nat.reduceSub, Tld32, Tst32, Tzero32, xl, ol, xl1, ol1]
    repeat refine And.intro (by omega) ?_
    intro b2 hb2
    have nb2_b1 := hb2.ne
    try simp (maxSteps := 2000000) (disch := first | (simp only [E4, xl, ol, xl1, ol1] <;> omega) | omega | fail) only [↓E2, E3, bare, bareJ, ↓E0, E1, env0, envN, evOps, evOp, evQs, evQ, evV, setD, pureOp, ev, upd, updL, extractV, cellAt, cellsAt, findB, setB, Value.cells, hav, ↓reduceIte, Zj, Zk, Nat.reduceAdd, Nat.reduceLT, Nat.reduceEqDiff, Nat.reduceMul, Nat.reduceLeDiff, if_true, Zn, reduceCtorEq, ZA, eq_self, Int.reduceLE, Int.reduceLT, Int.reduceToNat, ne_eq, Nat.reduceSub, Tld32, Tst32, Tzero32, xl, ol, xl1, ol1, nb2_b1]
    repeat refine And.intro (by omega) ?_
    repeat refine And.intro (by omega) ?_
    intro g
    simp only [List.map_cons, List.map_nil, updL, upd, Nat.reduceEqDiff, if_true, if_false, ↓reduceIte]
    refine hK _ _ ?_; clear hK K
    refine Cd.seq ?_
    refine Cd.rs [0, 3, 4, 5, 8, 9, 10, 11] fun K hK => ?_
    simp (maxSteps := 2000000) (disch := first | (simp only [E4, xl, ol, xl1, ol1] <;> omega) | omega | fail) only [↓E2, E3, bare, bareJ, ↓E0, E1, env0, envN, evOps, evOp, evQs, evQ, evV, setD, pureOp, ev, upd, updL, extractV, cellAt, cellsAt, findB, setB, Value.cells, hav, ↓reduceIte, Zj, Zk, Nat.reduceAdd, Nat.reduceLT, Nat.reduceEqDiff, Nat.reduceMul, Nat.reduceLeDiff, if_true, Zn, reduceCtorEq, ZA, eq_self, Int.reduceLE, Int.reduceLT, Int.reduceToNat, ne_eq, Nat.reduceSub, Tld32, Tst32, Tzero32, xl, ol, xl1, ol1, nb2_b1]
    repeat refine And.intro (by omega) ?_
    refine callK_gives hB ?_
    simp (maxSteps := 2000000) (disch := first | (simp only [E4, xl, ol, xl1, ol1] <;> omega) | omega | fail) only [↓E2, E3, bare, bareJ, ↓E0, E1, env0, envN, evOps, evOp, evQs, evQ, evV, setD, pureOp, ev, upd, updL, extractV, cellAt, cellsAt, findB, setB, Value.cells, hav, ↓reduceIte, Zj, Zk, Nat.reduceAdd, Nat.reduceLT, Nat.reduceEqDiff, Nat.reduceMul, Nat.reduceLeDiff, if_true, Zn, reduceCtorEq, ZA, eq_self, Int.reduceLE, Int.reduceLT, Int.reduceToNat, ne_eq, Nat.reduceSub, Tld32, Tst32, Tzero32, xl, ol, xl1, ol1, nb2_b1]
    repeat refine And.intro (by omega) ?_
    intro b3 hb3
    have nb3_b2 := hb3.ne
    have nb3_b1 := hb3.tail.ne
    try simp (maxSteps := 2000000) (disch := first | (simp only [E4, xl, ol, xl1, ol1] <;> omega) | omega | fail) only [↓E2, E3, bare, bareJ, ↓E0, E1, env0, envN, evOps, evOp, evQs, evQ, evV, setD, pureOp, ev, upd, updL, extractV, cellAt, cellsAt, findB, setB, Value.cells, hav, ↓reduceIte, Zj, Zk, Nat.reduceAdd, Nat.reduceLT, Nat.reduceEqDiff, Nat.reduceMul, Nat.reduceLeDiff, if_true, Zn, reduceCtorEq, ZA, eq_self, Int.reduceLE, Int.reduceLT, Int.reduceToNat, ne_eq, Nat.reduceSub, Tld32, Tst32, Tzero32, xl, ol, xl1, ol1, nb2_b1, nb3_b2, nb3_b1]
    repeat refine And.intro (by omega) ?_
    repeat refine And.intro (by omega) ?_
    intro g
    simp only [List.map_cons, List.map_nil, updL, upd, Nat.reduceEqDiff, if_true, if_false, ↓reduceIte]
    refine hK _ _ ?_; clear hK K
    clear hA hB q1 hr hu
    refine Cd.rs [0, 3, 4, 5, 8, 9, 73] fun K hK => ?_
    simp (maxSteps := 2000000) (disch := first | (simp only [E4, xl, ol, xl1, ol1] <;> omega) | omega | fail) only [↓E2, E3, bare, bareJ, ↓E0, E1, env0, envN, evOps, evOp, evQs, evQ, evV, setD, pureOp, ev, upd, updL, gate, binW, eqOp, binV, intOp, shOp, boolOp, cellAt, cellsAt, findB, hav, eqL, SameI, strOp, ↓reduceIte, Zj, Zk, Nat.reduceAdd, Nat.reduceLT, Nat.reduceEqDiff, Nat.reduceMul, Nat.reduceLeDiff, if_true, Zn, reduceCtorEq, ZA, eq_self, Int.reduceLE, Int.reduceLT, Int.reduceToNat, ne_eq, Nat.reduceSub, Teqt32, Tld32, xl, ol, xl1, ol1, nb2_b1, nb3_b2, nb3_b1]
    repeat refine And.intro (by omega) ?_
    apply guardX_or 3 [70, 71, 72] (j := 3) (d := 69) (tp := 73) (tl := 72) rfl rfl rfl rfl rfl
    · intro hq
      simp (maxSteps := 2000000) (disch := first | (simp only [E4, xl, ol, xl1, ol1] <;> omega) | omega | fail) only [↓E2, E3, bare, bareJ, ↓E0, E1, env0, envN, evOps, evOp, evQs, evQ, evV, setD, pureOp, ev, upd, updL, gate, binW, eqOp, binV, intOp, shOp, boolOp, cellAt, cellsAt, findB, hav, eqL, SameI, strOp, ↓reduceIte, Zj, Zk, Nat.reduceAdd, Nat.reduceLT, Nat.reduceEqDiff, Nat.reduceMul, Nat.reduceLeDiff, if_true, Zn, reduceCtorEq, ZA, eq_self, Int.reduceLE, Int.reduceLT, Int.reduceToNat, ne_eq, Nat.reduceSub, Teqt32, Tld32, xl, ol, xl1, ol1, nb2_b1, nb3_b2, nb3_b1]
      repeat refine And.intro (by omega) ?_
      exact rfl
    intro g
    simp (maxSteps := 2000000) (disch := first | (simp only [E4, xl, ol, xl1, ol1] <;> omega) | omega | fail) only [↓E2, E3, bare, bareJ, ↓E0, E1, env0, envN, evOps, evOp, evQs, evQ, evV, setD, pureOp, ev, upd, updL, gate, binW, eqOp, binV, intOp, shOp, boolOp, cellAt, cellsAt, findB, hav, eqL, SameI, strOp, ↓reduceIte, Zj, Zk, Nat.reduceAdd, Nat.reduceLT, Nat.reduceEqDiff, Nat.reduceMul, Nat.reduceLeDiff, if_true, Zn, reduceCtorEq, ZA, eq_self, Int.reduceLE, Int.reduceLT, Int.reduceToNat, ne_eq, Nat.reduceSub, Teqt32, Tld32, xl, ol, xl1, ol1, nb2_b1, nb3_b2, nb3_b1]
    repeat refine And.intro (by omega) ?_
    repeat refine And.intro (by omega) ?_
    intro g
    simp only [List.map_cons, List.map_nil, updL, upd, Nat.reduceEqDiff, if_true, if_false, ↓reduceIte]
    refine hK _ _ ?_; clear hK K
    refine Cd.cond rfl (fun e2 => ?_) (fun e2 => ?_)
    · exact absurd e2 (by simp)
    · clear e2
      refine Cd.skip ?_
      refine thenN ?_
      refine Cd.sub (M' := [(b2, gc s1 x1 o1), (b1, gc s x o)]) (by exact subP_cnt [(b3, gc s1 x1 o1)] fun _ => by simp only [cnt_cons, cnt_append, cnt_nil]; omega) ?_
      skip
      refine Cd.rs [0, 3, 4, 5, 8, 9, 12, 13, 14] fun K hK => ?_
      simp (maxSteps := 2000000) (disch := first | (simp only [E4, xl, ol, xl1, ol1] <;> omega) | omega | fail) only [↓E2, E3, bare, bareJ, ↓E0, E1, env0, envN, evOps, evOp, evQs, evQ, evV, setD, pureOp, ev, upd, updL, extractV, cellAt, cellsAt, findB, setB, Value.cells, hav, ↓reduceIte, Zj, Zk, Nat.reduceAdd, Nat.reduceLT, Nat.reduceEqDiff, Nat.reduceMul, Nat.reduceLeDiff, if_true, Zn, reduceCtorEq, ZA, eq_self, Int.reduceLE, Int.reduceLT, Int.reduceToNat, ne_eq, Nat.reduceSub, Tst32, Tzero32, xl, ol, xl1, ol1, nb2_b1, nb3_b2, nb3_b1]
      repeat refine And.intro (by omega) ?_
      refine callK_new0 (dDest_c l _ R hin hl4 hb hne) (Told.toldW hR) ?_
      rintro v M' ⟨⟨s2, x2, o2, i2, r2, rfl, hs2, hx2, ho2, hi2, hr2⟩, rfl⟩ _ _
      have xl2 := hx2.len
      have ol2 := ho2.len
      skip
      simp only [List.nil_append]
      simp (maxSteps := 2000000) (disch := first | (simp only [E4, xl, ol, xl1, ol1, xl2, ol2] <;> omega) | omega | fail) only [↓E2, E3, bare, bareJ, ↓E0, E1, env0, envN, evOps, evOp, evQs, evQ, evV, setD, pureOp, ev, upd, updL, extractV, cellAt, cellsAt, findB, setB, Value.cells, hav, ↓reduceIte, Zj, Zk, Nat.reduceAdd, Nat.reduceLT, Nat.reduceEqDiff, Nat.reduceMul, Nat.reduceLeDiff, if_true, Zn, reduceCtorEq, ZA, eq_self, Int.reduceLE, Int.reduceLT, Int.reduceToNat, ne_eq, Nat.reduceSub, Tst32, Tzero32, xl, ol, xl1, ol1, nb2_b1, nb3_b2, nb3_b1, xl2, ol2]
      repeat refine And.intro (by omega) ?_
      intro b4 hb4
      have nb4_b2 := hb4.ne
      have nb4_b1 := hb4.tail.ne
      try simp (maxSteps := 2000000) (disch := first | (simp only [E4, xl, ol, xl1, ol1, xl2, ol2] <;> omega) | omega | fail) only [↓E2, E3, bare, bareJ, ↓E0, E1, env0, envN, evOps, evOp, evQs, evQ, evV, setD, pureOp, ev, upd, updL, extractV, cellAt, cellsAt, findB, setB, Value.cells, hav, ↓reduceIte, Zj, Zk, Nat.reduceAdd, Nat.reduceLT, Nat.reduceEqDiff, Nat.reduceMul, Nat.reduceLeDiff, if_true, Zn, reduceCtorEq, ZA, eq_self, Int.reduceLE, Int.reduceLT, Int.reduceToNat, ne_eq, Nat.reduceSub, Tst32, Tzero32, xl, ol, xl1, ol1, nb2_b1, nb3_b2, nb3_b1, xl2, ol2, nb4_b2, nb4_b1]
      repeat refine And.intro (by omega) ?_
      repeat refine And.intro (by omega) ?_
      intro g
      simp only [List.map_cons, List.map_nil, updL, upd, Nat.reduceEqDiff, if_true, if_false, ↓reduceIte]
      refine hK _ _ ?_; clear hK K
      obtain ⟨s3, x3, o3, c3, q3, hx3, ho3, D3⟩ := dest_law (s := s2) hx2 ho2 i2 r2
      obtain ⟨bb, cc, q4⟩ := canDest_shape s2 x2 o2 hx2 ho2 i2 hi2 r2 hr2
      have hA := implDestabilizeAt_c s2 x2 o2 hx2 ho2 i2 hi2 r2 hr2
      have hB := specDestabilizeAt_c s2 x2 o2 hx2 ho2 i2 hi2 r2 hr2
      have hC := implCanDestabilize_c s2 x2 o2 hx2 ho2 i2 hi2 r2 hr2
      have hD := specCanDestabilize_c s2 x2 o2 hx2 ho2 i2 hi2 r2 hr2
      rw [q3] at hA hB
      rw [q4] at hC hD D3
      have D3 : c3 = 0 → bb = true ∧ gridB s3 x3 o3 = true ∧ s3 = s2 - 1 ∧ 2 ≤ s2 ∧ s2 ≤ 8 := fun h => by
        obtain ⟨h1, h2⟩ := D3 h
        cases h1
        exact ⟨rfl, h2⟩
      clear q3 q4
      have xl3 := hx3.len
      have ol3 := ho3.len
      skip
      refine Cd.rs [0, 3, 4, 5, 8, 9, 12, 13, 14, 15, 16] fun K hK => ?_
      simp (maxSteps := 2000000) (disch := first | (simp only [E4, xl, ol, xl1, ol1, xl2, ol2, xl3, ol3] <;> omega) | omega | fail) only [↓E2, E3, bare, bareJ, ↓E0, E1, env0, envN, evOps, evOp, evQs, evQ, evV, setD, pureOp, ev, upd, updL, extractV, cellAt, cellsAt, findB, setB, Value.cells, hav, ↓reduceIte, Zj, Zk, Nat.reduceAdd, Nat.reduceLT, Nat.reduceEqDiff, Nat.reduceMul, Nat.reduceLeDiff, if_true, Zn, reduceCtorEq, ZA, eq_self, Int.reduceLE, Int.reduceLT, Int.reduceToNat, ne_eq, Nat.reduceSub, Tld32, Tst32, Tzero32, xl, ol, xl1, ol1, nb2_b1, nb3_b2, nb3_b1, xl2, ol2, nb4_b2, nb4_b1, xl3, ol3]
      repeat refine And.intro (by omega) ?_
      refine callK_gives hA ?_
      simp (maxSteps := 2000000) (disch := first | (simp only [E4, xl, ol, xl1, ol1, xl2, ol2, xl3, ol3] <;> omega) | omega | fail) only [↓E2, E3, bare, bareJ, ↓E0, E1, env0, envN, evOps, evOp, evQs, evQ, evV, setD, pureOp, ev, upd, updL, extractV, cellAt, cellsAt, findB, setB, Value.cells, hav, ↓reduceIte, Zj, Zk, Nat.reduceAdd, Nat.reduceLT, Nat.reduceEqDiff, Nat.reduceMul, Nat.reduceLeDiff, if_true, Zn, reduceCtorEq, ZA, eq_self, Int.reduceLE, Int.reduceLT, Int.reduceToNat, ne_eq, Nat.reduceSub, Tld32, Tst32, Tzero32, xl, ol, xl1, ol1, nb2_b1, nb3_b2, nb3_b1, xl2, ol2, nb4_b2, nb4_b1, xl3, ol3]
      repeat refine And.intro (by omega) ?_
      intro b5 hb5
      have nb5_b4 := hb5.ne
      have nb5_b2 := hb5.tail.ne
      have nb5_b1 := hb5.tail.tail.ne
      try simp (maxSteps := 2000000) (disch := first | (simp only [E4, xl, ol, xl1, ol1, xl2, ol2, xl3, ol3] <;> omega) | omega | fail) only [↓E2, E3, bare, bareJ, ↓E0, E1, env0, envN, evOps, evOp, evQs, evQ, evV, setD, pureOp, ev, upd, updL, extractV, cellAt, cellsAt, findB, setB, Value.cells, hav, ↓reduceIte, Zj, Zk, Nat.reduceAdd, Nat.reduceLT, Nat.reduceEqDiff, Nat.reduceMul, Nat.reduceLeDiff, if_true, Zn, reduceCtorEq, ZA, eq_self, Int.reduceLE, Int.reduceLT, Int.reduceToNat, ne_eq, Nat.reduceSub, Tld32, Tst32, Tzero32, xl, ol, xl1, ol1, nb2_b1, nb3_b2, nb3_b1, xl2, ol2, nb4_b2, nb4_b1, xl3, ol3, nb5_b4, nb5_b2, nb5_b1]
      repeat refine And.intro (by omega) ?_
      repeat refine And.intro (by omega) ?_
      intro g
      simp only [List.map_cons, List.map_nil, updL, upd, Nat.reduceEqDiff, if_true, if_false, ↓reduceIte]
      refine hK _ _ ?_; clear hK K
      refine Cd.seq ?_
      refine Cd.rs [0, 3, 4, 5, 8, 9, 12, 13, 14, 15, 16, 17, 18] fun K hK => ?_
      simp (maxSteps := 2000000) (disch := first | (simp only [E4, xl, ol, xl1, ol1, xl2, ol2, xl3, ol3] <;> omega) | omega | fail) only [↓E2, E3, bare, bareJ, ↓E0, E1, env0, envN, evOps, evOp, evQs, evQ, evV, setD, pureOp, ev, upd, updL, extractV, cellAt, cellsAt, findB, setB, Value.cells, hav, ↓reduceIte, Zj, Zk, Nat.reduceAdd, Nat.reduceLT, Nat.reduceEqDiff, Nat.reduceMul, Nat.reduceLeDiff, if_true, Zn, reduceCtorEq, ZA, eq_self, Int.reduceLE, Int.reduceLT, Int.reduceToNat, ne_eq, Nat.reduceSub, Tld32, Tst32, Tzero32, xl, ol, xl1, ol1, nb2_b1, nb3_b2, nb3_b1, xl2, ol2, nb4_b2, nb4_b1, xl3, ol3, nb5_b4, nb5_b2, nb5_b1]
      repeat refine And.intro (by omega) ?_
      refine callK_gives hB ?_
      simp (maxSteps := 2000000) (disch := first | (simp only [E4, xl, ol, xl1, ol1, xl2, ol2, xl3, ol3] <;> omega) | omega | fail) only [↓E2, E3, bare, bareJ, ↓E0, E1, env0, envN, evOps, evOp, evQs, evQ, evV, setD, pureOp, ev, upd, updL, extractV, cellAt, cellsAt, findB, setB, Value.cells, hav, ↓reduceIte, Zj, Zk, Nat.reduceAdd, Nat.reduceLT, Nat.reduceEqDiff, Nat.reduceMul, Nat.reduceLeDiff, if_true, Zn, reduceCtorEq, ZA, eq_self, Int.reduceLE, Int.reduceLT, Int.reduceToNat, ne_eq, Nat.reduceSub, Tld32, Tst32, Tzero32, xl, ol, xl1, ol1, nb2_b1, nb3_b2, nb3_b1, xl2, ol2, nb4_b2, nb4_b1, xl3, ol3, nb5_b4, nb5_b2, nb5_b1]
      repeat refine And.intro (by omega) ?_
      intro b6 hb6
      have nb6_b5 := hb6.ne
      have nb6_b4 := hb6.tail.ne
      have nb6_b2 := hb6.tail.tail.ne
      have nb6_b1 := hb6.tail.tail.tail.ne
      try simp (maxSteps := 2000000) (disch := first | (simp only [E4, xl, ol, xl1, ol1, xl2, ol2, xl3, ol3] <;> omega) | omega | fail) only [↓E2, E3, bare, bareJ, ↓E0, E1, env0, envN, evOps, evOp, evQs, evQ, evV, setD, pureOp, ev, upd, updL, extractV, cellAt, cellsAt, findB, setB, Value.cells, hav, ↓reduceIte, Zj, Zk, Nat.reduceAdd, Nat.reduceLT, Nat.reduceEqDiff, Nat.reduceMul, Nat.reduceLeDiff, if_true, Zn, reduceCtorEq, ZA, eq_self, Int.reduceLE, Int.reduceLT, Int.reduceToNat, ne_eq, Nat.reduceSub, Tld32, Tst32, Tzero32, xl, ol, xl1, ol1, nb2_b1, nb3_b2, nb3_b1, xl2, ol2, nb4_b2, nb4_b1, xl3, ol3, nb5_b4, nb5_b2, nb5_b1, nb6_b5, nb6_b4, nb6_b2, nb6_b1]
      repeat refine And.intro (by omega) ?_
      repeat refine And.intro (by omega) ?_
      intro g
      simp only [List.map_cons, List.map_nil, updL, upd, Nat.reduceEqDiff, if_true, if_false, ↓reduceIte]
      refine hK _ _ ?_; clear hK K
      clear hA hB
      refine Cd.rs [0, 3, 4, 5, 8, 9, 12, 13, 14, 15, 16, 101] fun K hK => ?_
      simp (maxSteps := 2000000) (disch := first | (simp only [E4, xl, ol, xl1, ol1, xl2, ol2, xl3, ol3] <;> omega) | omega | fail) only [↓E2, E3, bare, bareJ, ↓E0, E1, env0, envN, evOps, evOp, evQs, evQ, evV, setD, pureOp, ev, upd, updL, gate, binW, eqOp, binV, intOp, shOp, boolOp, cellAt, cellsAt, findB, hav, eqL, SameI, strOp, ↓reduceIte, Zj, Zk, Nat.reduceAdd, Nat.reduceLT, Nat.reduceEqDiff, Nat.reduceMul, Nat.reduceLeDiff, if_true, Zn, reduceCtorEq, ZA, eq_self, Int.reduceLE, Int.reduceLT, Int.reduceToNat, ne_eq, Nat.reduceSub, Teqt32, Tld32, xl, ol, xl1, ol1, nb2_b1, nb3_b2, nb3_b1, xl2, ol2, nb4_b2, nb4_b1, xl3, ol3, nb5_b4, nb5_b2, nb5_b1, nb6_b5, nb6_b4, nb6_b2, nb6_b1]
      repeat refine And.intro (by omega) ?_
      apply guardX_or 3 [98, 99, 100] (j := 3) (d := 97) (tp := 101) (tl := 100) rfl rfl rfl rfl rfl
      · intro hq
        simp (maxSteps := 2000000) (disch := first | (simp only [E4, xl, ol, xl1, ol1, xl2, ol2, xl3, ol3] <;> omega) | omega | fail) only [↓E2, E3, bare, bareJ, ↓E0, E1, env0, envN, evOps, evOp, evQs, evQ, evV, setD, pureOp, ev, upd, updL, gate, binW, eqOp, binV, intOp, shOp, boolOp, cellAt, cellsAt, findB, hav, eqL, SameI, strOp, ↓reduceIte, Zj, Zk, Nat.reduceAdd, Nat.reduceLT, Nat.reduceEqDiff, Nat.reduceMul, Nat.reduceLeDiff, if_true, Zn, reduceCtorEq, ZA, eq_self, Int.reduceLE, Int.reduceLT, Int.reduceToNat, ne_eq, Nat.reduceSub, Teqt32, Tld32, xl, ol, xl1, ol1, nb2_b1, nb3_b2, nb3_b1, xl2, ol2, nb4_b2, nb4_b1, xl3, ol3, nb5_b4, nb5_b2, nb5_b1, nb6_b5, nb6_b4, nb6_b2, nb6_b1]
        repeat refine And.intro (by omega) ?_
        exact rfl
      intro g
      simp (maxSteps := 2000000) (disch := first | (simp only [E4, xl, ol, xl1, ol1, xl2, ol2, xl3, ol3] <;> omega) | omega | fail) only [↓E2, E3, bare, bareJ, ↓E0, E1, env0, envN, evOps, evOp, evQs, evQ, evV, setD, pureOp, ev, upd, updL, gate, binW, eqOp, binV, intOp, shOp, boolOp, cellAt, cellsAt, findB, hav, eqL, SameI, strOp, ↓reduceIte, Zj, Zk, Nat.reduceAdd, Nat.reduceLT, Nat.reduceEqDiff, Nat.reduceMul, Nat.reduceLeDiff, if_true, Zn, reduceCtorEq, ZA, eq_self, Int.reduceLE, Int.reduceLT, Int.reduceToNat, ne_eq, Nat.reduceSub, Teqt32, Tld32, xl, ol, xl1, ol1, nb2_b1, nb3_b2, nb3_b1, xl2, ol2, nb4_b2, nb4_b1, xl3, ol3, nb5_b4, nb5_b2, nb5_b1, nb6_b5, nb6_b4, nb6_b2, nb6_b1]
      repeat refine And.intro (by omega) ?_
      repeat refine And.intro (by omega) ?_
      intro g
      simp only [List.map_cons, List.map_nil, updL, upd, Nat.reduceEqDiff, if_true, if_false, ↓reduceIte]
      refine hK _ _ ?_; clear hK K
      refine Cd.cond rfl (fun e3 => ?_) (fun e3 => ?_)
      · exact absurd e3 (by simp)
      · clear e3
        refine Cd.skip ?_
        refine thenN ?_
        refine Cd.rs [0, 3, 4, 5, 8, 9, 12, 13, 14, 15, 16, 19, 20] fun K hK => ?_
        simp (maxSteps := 2000000) (disch := first | (simp only [E4, xl, ol, xl1, ol1, xl2, ol2, xl3, ol3] <;> omega) | omega | fail) only [↓E2, E3, bare, bareJ, ↓E0, E1, env0, envN, evOps, evOp, evQs, evQ, evV, setD, pureOp, ev, upd, updL, extractV, cellAt, cellsAt, findB, setB, hav, ↓reduceIte, Zj, Zk, Nat.reduceAdd, Nat.reduceLT, Nat.reduceEqDiff, Nat.reduceMul, Nat.reduceLeDiff, if_true, Zn, reduceCtorEq, ZA, eq_self, Int.reduceLE, Int.reduceLT, Int.reduceToNat, ne_eq, Nat.reduceSub, Tld32, xl, ol, xl1, ol1, nb2_b1, nb3_b2, nb3_b1, xl2, ol2, nb4_b2, nb4_b1, xl3, ol3, nb5_b4, nb5_b2, nb5_b1, nb6_b5, nb6_b4, nb6_b2, nb6_b1]
        repeat refine And.intro (by omega) ?_
        refine callK_gives hC ?_
        simp (maxSteps := 2000000) (disch := first | (simp only [E4, xl, ol, xl1, ol1, xl2, ol2, xl3, ol3] <;> omega) | omega | fail) only [↓E2, E3, bare, bareJ, ↓E0, E1, env0, envN, evOps, evOp, evQs, evQ, evV, setD, pureOp, ev, upd, updL, extractV, cellAt, cellsAt, findB, setB, hav, ↓reduceIte, Zj, Zk, Nat.reduceAdd, Nat.reduceLT, Nat.reduceEqDiff, Nat.reduceMul, Nat.reduceLeDiff, if_true, Zn, reduceCtorEq, ZA, eq_self, Int.reduceLE, Int.reduceLT, Int.reduceToNat, ne_eq, Nat.reduceSub, Tld32, xl, ol, xl1, ol1, nb2_b1, nb3_b2, nb3_b1, xl2, ol2, nb4_b2, nb4_b1, xl3, ol3, nb5_b4, nb5_b2, nb5_b1, nb6_b5, nb6_b4, nb6_b2, nb6_b1]
        repeat refine And.intro (by omega) ?_
        repeat refine And.intro (by omega) ?_
        intro g
        simp only [List.map_cons, List.map_nil, updL, upd, Nat.reduceEqDiff, if_true, if_false, ↓reduceIte]
        refine hK _ _ ?_; clear hK K
        refine Cd.seq ?_
        refine Cd.rs [0, 3, 4, 5, 8, 9, 12, 15, 16, 19, 20, 21, 22] fun K hK => ?_
        simp (maxSteps := 2000000) (disch := first | (simp only [E4, xl, ol, xl1, ol1, xl2, ol2, xl3, ol3] <;> omega) | omega | fail) only [↓E2, E3, bare, bareJ, ↓E0, E1, env0, envN, evOps, evOp, evQs, evQ, evV, setD, pureOp, ev, upd, updL, extractV, cellAt, cellsAt, findB, setB, hav, ↓reduceIte, Zj, Zk, Nat.reduceAdd, Nat.reduceLT, Nat.reduceEqDiff, Nat.reduceMul, Nat.reduceLeDiff, if_true, Zn, reduceCtorEq, ZA, eq_self, Int.reduceLE, Int.reduceLT, Int.reduceToNat, ne_eq, Nat.reduceSub, Tld32, xl, ol, xl1, ol1, nb2_b1, nb3_b2, nb3_b1, xl2, ol2, nb4_b2, nb4_b1, xl3, ol3, nb5_b4, nb5_b2, nb5_b1, nb6_b5, nb6_b4, nb6_b2, nb6_b1]
        repeat refine And.intro (by omega) ?_
        refine callK_gives hD ?_
        simp (maxSteps := 2000000) (disch := first | (simp only [E4, xl, ol, xl1, ol1, xl2, ol2, xl3, ol3] <;> omega) | omega | fail) only [↓E2, E3, bare, bareJ, ↓E0, E1, env0, envN, evOps, evOp, evQs, evQ, evV, setD, pureOp, ev, upd, updL, extractV, cellAt, cellsAt, findB, setB, hav, ↓reduceIte, Zj, Zk, Nat.reduceAdd, Nat.reduceLT, Nat.reduceEqDiff, Nat.reduceMul, Nat.reduceLeDiff, if_true, Zn, reduceCtorEq, ZA, eq_self, Int.reduceLE, Int.reduceLT, Int.reduceToNat, ne_eq, Nat.reduceSub, Tld32, xl, ol, xl1, ol1, nb2_b1, nb3_b2, nb3_b1, xl2, ol2, nb4_b2, nb4_b1, xl3, ol3, nb5_b4, nb5_b2, nb5_b1, nb6_b5, nb6_b4, nb6_b2, nb6_b1]
        repeat refine And.intro (by omega) ?_
        repeat refine And.intro (by omega) ?_
        intro g
        simp only [List.map_cons, List.map_nil, updL, upd, Nat.reduceEqDiff, if_true, if_false, ↓reduceIte]
        refine hK _ _ ?_; clear hK K
        clear hC hD
        refine Cd.rs [0, 3, 4, 5, 8, 9, 12, 15, 16, 19, 123] fun K hK => ?_
        simp (maxSteps := 2000000) (disch := first | (simp only [E4, xl, ol, xl1, ol1, xl2, ol2, xl3, ol3] <;> omega) | omega | fail) only [↓E2, E3, bare, bareJ, ↓E0, E1, env0, envN, evOps, evOp, evQs, evQ, evV, setD, pureOp, ev, upd, updL, gate, binW, eqOp, binV, intOp, shOp, boolOp, hav, eqL, SameI, strOp, ↓reduceIte, Zj, Zk, Nat.reduceAdd, Nat.reduceLT, Nat.reduceEqDiff, Nat.reduceMul, Nat.reduceLeDiff, if_true, Zn, reduceCtorEq, ZA, eq_self, Int.reduceLE, Int.reduceLT, Int.reduceToNat, ne_eq, Nat.reduceSub, Tbool4, xl, ol, xl1, ol1, nb2_b1, nb3_b2, nb3_b1, xl2, ol2, nb4_b2, nb4_b1, xl3, ol3, nb5_b4, nb5_b2, nb5_b1, nb6_b5, nb6_b4, nb6_b2, nb6_b1]
        repeat refine And.intro (by omega) ?_
        apply guardX_or 3 [120, 121, 122] (j := 3) (d := 119) (tp := 123) (tl := 122) rfl rfl rfl rfl rfl
        · intro hq
          simp (maxSteps := 2000000) (disch := first | (simp only [E4, xl, ol, xl1, ol1, xl2, ol2, xl3, ol3] <;> omega) | omega | fail) only [↓E2, E3, bare, bareJ, ↓E0, E1, env0, envN, evOps, evOp, evQs, evQ, evV, setD, pureOp, ev, upd, updL, gate, binW, eqOp, binV, intOp, shOp, boolOp, hav, eqL, SameI, strOp, ↓reduceIte, Zj, Zk, Nat.reduceAdd, Nat.reduceLT, Nat.reduceEqDiff, Nat.reduceMul, Nat.reduceLeDiff, if_true, Zn, reduceCtorEq, ZA, eq_self, Int.reduceLE, Int.reduceLT, Int.reduceToNat, ne_eq, Nat.reduceSub, Tbool4, xl, ol, xl1, ol1, nb2_b1, nb3_b2, nb3_b1, xl2, ol2, nb4_b2, nb4_b1, xl3, ol3, nb5_b4, nb5_b2, nb5_b1, nb6_b5, nb6_b4, nb6_b2, nb6_b1]
          repeat refine And.intro (by omega) ?_
          exact rfl
        intro g
        simp (maxSteps := 2000000) (disch := first | (simp only [E4, xl, ol, xl1, ol1, xl2, ol2, xl3, ol3] <;> omega) | omega | fail) only [↓E2, E3, bare, bareJ, ↓E0, E1, env0, envN, evOps, evOp, evQs, evQ, evV, setD, pureOp, ev, upd, updL, gate, binW, eqOp, binV, intOp, shOp, boolOp, hav, eqL, SameI, strOp, ↓reduceIte, Zj, Zk, Nat.reduceAdd, Nat.reduceLT, Nat.reduceEqDiff, Nat.reduceMul, Nat.reduceLeDiff, if_true, Zn, reduceCtorEq, ZA, eq_self, Int.reduceLE, Int.reduceLT, Int.reduceToNat, ne_eq, Nat.reduceSub, Tbool4, xl, ol, xl1, ol1, nb2_b1, nb3_b2, nb3_b1, xl2, ol2, nb4_b2, nb4_b1, xl3, ol3, nb5_b4, nb5_b2, nb5_b1, nb6_b5, nb6_b4, nb6_b2, nb6_b1]
        repeat refine And.intro (by omega) ?_
        repeat refine And.intro (by omega) ?_
        intro g
        simp only [List.map_cons, List.map_nil, updL, upd, Nat.reduceEqDiff, if_true, if_false, ↓reduceIte]
        refine hK _ _ ?_; clear hK K
        refine Cd.cond rfl (fun e4 => ?_) (fun e4 => ?_)
        · exact absurd e4 (by decide)
        · clear e4
          refine Cd.skip ?_
          refine thenN ?_
          refine Cd.sub (M' := (b5, gc s3 x3 o3) :: (b4, gc s2 x2 o2) :: (b2, gc s1 x1 o1) :: [(b1, gc s x o)]) (by exact subP_cnt [(b6, gc s3 x3 o3)] fun _ => by simp only [cnt_cons, cnt_append, cnt_nil]; omega) ?_
          skip
          refine Cd.rs [3, 4, 5, 8, 9, 12, 15, 16, 19, 23] fun K hK => ?_
          simp (maxSteps := 2000000) (disch := first | (simp only [E4, xl, ol, xl1, ol1, xl2, ol2, xl3, ol3] <;> omega) | omega | fail) only [↓E2, E3, bare, bareJ, ↓E0, E1, env0, envN, evOps, evOp, evQs, evQ, evV, setD, pureOp, ev, upd, updL, cellAt, cellsAt, findB, setB, Value.cells, hav, ↓reduceIte, Zj, Zk, Nat.reduceAdd, Nat.reduceLT, Nat.reduceEqDiff, Nat.reduceMul, Nat.reduceLeDiff, if_true, Zn, reduceCtorEq, ZA, eq_self, Int.reduceLE, Int.reduceLT, Int.reduceToNat, ne_eq, Nat.reduceSub, Tst32, Tzero32, xl, ol, xl1, ol1, nb2_b1, nb3_b2, nb3_b1, xl2, ol2, nb4_b2, nb4_b1, xl3, ol3, nb5_b4, nb5_b2, nb5_b1, nb6_b5, nb6_b4, nb6_b2, nb6_b1]
          repeat refine And.intro (by omega) ?_
          refine callK_new0 (dPlaces_c l _ R hin hl4 hb hne) (Told.toldW hR) ?_
          rintro v M' ⟨⟨s4, x4, o4, rfl, hs4, hx4, ho4⟩, rfl⟩ _ _
          have xl4 := hx4.len
          have ol4 := ho4.len
          skip
          simp only [List.nil_append]
          simp (maxSteps := 2000000) (disch := first | (simp only [E4, xl, ol, xl1, ol1, xl2, ol2, xl3, ol3, xl4, ol4] <;> omega) | omega | fail) only [↓E2, E3, bare, bareJ, ↓E0, E1, env0, envN, evOps, evOp, evQs, evQ, evV, setD, pureOp, ev, upd, updL, cellAt, cellsAt, findB, setB, Value.cells, hav, ↓reduceIte, Zj, Zk, Nat.reduceAdd, Nat.reduceLT, Nat.reduceEqDiff, Nat.reduceMul, Nat.reduceLeDiff, if_true, Zn, reduceCtorEq, ZA, eq_self, Int.reduceLE, Int.reduceLT, Int.reduceToNat, ne_eq, Nat.reduceSub, Tst32, Tzero32, xl, ol, xl1, ol1, nb2_b1, nb3_b2, nb3_b1, xl2, ol2, nb4_b2, nb4_b1, xl3, ol3, nb5_b4, nb5_b2, nb5_b1, nb6_b5, nb6_b4, nb6_b2, nb6_b1, xl4, ol4]
          repeat refine And.intro (by omega) ?_
          intro b7 hb7
          have nb7_b5 := hb7.ne
          have nb7_b4 := hb7.tail.ne
          have nb7_b2 := hb7.tail.tail.ne
          have nb7_b1 := hb7.tail.tail.tail.ne
          try simp (maxSteps := 2000000) (disch := first | (simp only [E4, xl, ol, xl1, ol1, xl2, ol2, xl3, ol3, xl4, ol4] <;> omega) | omega | fail) only [↓E2, E3, bare, bareJ, ↓E0, E1, env0, envN, evOps, evOp, evQs, evQ, evV, setD, pureOp, ev, upd, updL, cellAt, cellsAt, findB, setB, Value.cells, hav, ↓reduceIte, Zj, Zk, Nat.reduceAdd, Nat.reduceLT, Nat.reduceEqDiff, Nat.reduceMul, Nat.reduceLeDiff, if_true, Zn, reduceCtorEq, ZA, eq_self, Int.reduceLE, Int.reduceLT, Int.reduceToNat, ne_eq, Nat.reduceSub, Tst32, Tzero32, xl, ol, xl1, ol1, nb2_b1, nb3_b2, nb3_b1, xl2, ol2, nb4_b2, nb4_b1, xl3, ol3, nb5_b4, nb5_b2, nb5_b1, nb6_b5, nb6_b4, nb6_b2, nb6_b1, xl4, ol4, nb7_b5, nb7_b4, nb7_b2, nb7_b1]
          repeat refine And.intro (by omega) ?_
          repeat refine And.intro (by omega) ?_
          intro g
          simp only [List.map_cons, List.map_nil, updL, upd, Nat.reduceEqDiff, if_true, if_false, ↓reduceIte]
          refine hK _ _ ?_; clear hK K
          refine Cd.rs [3, 4, 5, 8, 9, 12, 15, 16, 19, 23, 24, 25] fun K hK => ?_
          simp (maxSteps := 2000000) (disch := first | (simp only [E4, xl, ol, xl1, ol1, xl2, ol2, xl3, ol3, xl4, ol4] <;> omega) | omega | fail) only [↓E2, E3, bare, bareJ, ↓E0, E1, env0, envN, evOps, evOp, evQs, evQ, evV, setD, pureOp, ev, upd, updL, extractV, cellAt, cellsAt, findB, setB, hav, ↓reduceIte, Zj, Zk, Nat.reduceAdd, Nat.reduceLT, Nat.reduceEqDiff, Nat.reduceMul, Nat.reduceLeDiff, if_true, Zn, reduceCtorEq, ZA, eq_self, Int.reduceLE, Int.reduceLT, Int.reduceToNat, ne_eq, Nat.reduceSub, Tld32, xl, ol, xl1, ol1, nb2_b1, nb3_b2, nb3_b1, xl2, ol2, nb4_b2, nb4_b1, xl3, ol3, nb5_b4, nb5_b2, nb5_b1, nb6_b5, nb6_b4, nb6_b2, nb6_b1, xl4, ol4, nb7_b5, nb7_b4, nb7_b2, nb7_b1]
          repeat refine And.intro (by omega) ?_
          refine callK_newR0 (implDestabilizePlaces_c s4 x4 o4 hx4 ho4) (fun _ _ => toldW_nil) ?_
          rintro _ M1 ⟨v1, rfl, hm1⟩ nd1 _
          obtain ⟨a1, m1, cp1, rfl, em1⟩ := slsl_frm hm1
          simp only [List.cons_append, List.nil_append]
          simp (maxSteps := 2000000) (disch := first | (simp only [E4, xl, ol, xl1, ol1, xl2, ol2, xl3, ol3, xl4, ol4] <;> omega) | omega | fail) only [↓E2, E3, bare, bareJ, ↓E0, E1, env0, envN, evOps, evOp, evQs, evQ, evV, setD, pureOp, ev, upd, updL, extractV, cellAt, cellsAt, findB, setB, hav, ↓reduceIte, Zj, Zk, Nat.reduceAdd, Nat.reduceLT, Nat.reduceEqDiff, Nat.reduceMul, Nat.reduceLeDiff, if_true, Zn, reduceCtorEq, ZA, eq_self, Int.reduceLE, Int.reduceLT, Int.reduceToNat, ne_eq, Nat.reduceSub, Tld32, xl, ol, xl1, ol1, nb2_b1, nb3_b2, nb3_b1, xl2, ol2, nb4_b2, nb4_b1, xl3, ol3, nb5_b4, nb5_b2, nb5_b1, nb6_b5, nb6_b4, nb6_b2, nb6_b1, xl4, ol4, nb7_b5, nb7_b4, nb7_b2, nb7_b1]
          repeat refine And.intro (by omega) ?_
          repeat refine And.intro (by omega) ?_
          intro g
          simp only [List.map_cons, List.map_nil, updL, upd, Nat.reduceEqDiff, if_true, if_false, ↓reduceIte]
          refine hK _ _ ?_; clear hK K
          refine Cd.seq ?_
          refine Cd.rs [3, 4, 5, 8, 9, 12, 15, 16, 19, 23, 24, 25, 26, 27] fun K hK => ?_
          simp (maxSteps := 2000000) (disch := first | (simp only [E4, xl, ol, xl1, ol1, xl2, ol2, xl3, ol3, xl4, ol4] <;> omega) | omega | fail) only [↓E2, E3, bare, bareJ, ↓E0, E1, env0, envN, evOps, evOp, evQs, evQ, evV, setD, pureOp, ev, upd, updL, extractV, cellAt, cellsAt, findB, setB, hav, ↓reduceIte, Zj, Zk, Nat.reduceAdd, Nat.reduceLT, Nat.reduceEqDiff, Nat.reduceMul, Nat.reduceLeDiff, if_true, Zn, reduceCtorEq, ZA, eq_self, Int.reduceLE, Int.reduceLT, Int.reduceToNat, ne_eq, Nat.reduceSub, Tld32, xl, ol, xl1, ol1, nb2_b1, nb3_b2, nb3_b1, xl2, ol2, nb4_b2, nb4_b1, xl3, ol3, nb5_b4, nb5_b2, nb5_b1, nb6_b5, nb6_b4, nb6_b2, nb6_b1, xl4, ol4, nb7_b5, nb7_b4, nb7_b2, nb7_b1]
          repeat refine And.intro (by omega) ?_
          refine callK_newR0 (specDestabilizePlaces_c s4 x4 o4 hx4 ho4) (fun _ _ => toldW_nil) ?_
          rintro _ M2 ⟨v2, rfl, hm2⟩ nd2 _
          obtain ⟨a2, m2, cp2, rfl, em2⟩ := slsl_frm hm2
          simp only [List.cons_append, List.nil_append] at nd2 ⊢
          simp (maxSteps := 2000000) (disch := first | (simp only [E4, xl, ol, xl1, ol1, xl2, ol2, xl3, ol3, xl4, ol4] <;> omega) | omega | fail) only [↓E2, E3, bare, bareJ, ↓E0, E1, env0, envN, evOps, evOp, evQs, evQ, evV, setD, pureOp, ev, upd, updL, extractV, cellAt, cellsAt, findB, setB, hav, ↓reduceIte, Zj, Zk, Nat.reduceAdd, Nat.reduceLT, Nat.reduceEqDiff, Nat.reduceMul, Nat.reduceLeDiff, if_true, Zn, reduceCtorEq, ZA, eq_self, Int.reduceLE, Int.reduceLT, Int.reduceToNat, ne_eq, Nat.reduceSub, Tld32, xl, ol, xl1, ol1, nb2_b1, nb3_b2, nb3_b1, xl2, ol2, nb4_b2, nb4_b1, xl3, ol3, nb5_b4, nb5_b2, nb5_b1, nb6_b5, nb6_b4, nb6_b2, nb6_b1, xl4, ol4, nb7_b5, nb7_b4, nb7_b2, nb7_b1]
          repeat refine And.intro (by omega) ?_
          repeat refine And.intro (by omega) ?_
          intro g
          simp only [List.map_cons, List.map_nil, updL, upd, Nat.reduceEqDiff, if_true, if_false, ↓reduceIte]
          refine hK _ _ ?_; clear hK K
          have hbd := dpL_bound s4 x4 o4
          have hrows := lists9_c (dpL s4 x4 o4) (toldOf (M1 ++ M2)) _ _ (hm1.reads fun p hp => mem_toldOf (by simp [hp])) (hm2.reads fun p hp => mem_toldOf (by simp [hp])) (by omega) (by omega)
          refine Cd.rs [3, 4, 5, 8, 9, 12, 15, 16, 19, 23, 24, 25, 144] fun K hK => ?_
          simp (maxSteps := 2000000) (disch := first | (simp only [E4, xl, ol, xl1, ol1, xl2, ol2, xl3, ol3, xl4, ol4] <;> omega) | omega | fail) only [↓E2, E3, bare, bareJ, ↓E0, E1, env0, envN, evOps, evOp, evQs, evQ, evV, setD, pureOp, ev, upd, updL, gate, binW, eqOp, binV, intOp, shOp, boolOp, unV, cellAt, cellsAt, findB, setB, hav, eqL, SameI, strOp, ↓reduceIte, Zj, Zk, Nat.reduceAdd, Nat.reduceLT, Nat.reduceEqDiff, Nat.reduceMul, Nat.reduceLeDiff, if_true, Zn, reduceCtorEq, ZA, eq_self, Int.reduceLE, Int.reduceLT, Int.reduceToNat, ne_eq, Nat.reduceSub, xl, ol, xl1, ol1, nb2_b1, nb3_b2, nb3_b1, xl2, ol2, nb4_b2, nb4_b1, xl3, ol3, nb5_b4, nb5_b2, nb5_b1, nb6_b5, nb6_b4, nb6_b2, nb6_b1, xl4, ol4, nb7_b5, nb7_b4, nb7_b2, nb7_b1]
          repeat refine And.intro (by omega) ?_
          apply guardX_or 4 [140, 141, 142, 143] (j := 3) (d := 139) (tp := 144) (tl := 143) rfl rfl rfl rfl rfl
          · intro hq
            simp (maxSteps := 2000000) (disch := first | (simp only [E4, xl, ol, xl1, ol1, xl2, ol2, xl3, ol3, xl4, ol4] <;> omega) | omega | fail) only [↓E2, E3, bare, bareJ, ↓E0, E1, env0, envN, evOps, evOp, evQs, evQ, evV, setD, pureOp, ev, upd, updL, gate, binW, eqOp, binV, intOp, shOp, boolOp, unV, cellAt, cellsAt, findB, setB, hav, eqL, SameI, strOp, ↓reduceIte, Zj, Zk, Nat.reduceAdd, Nat.reduceLT, Nat.reduceEqDiff, Nat.reduceMul, Nat.reduceLeDiff, if_true, Zn, reduceCtorEq, ZA, eq_self, Int.reduceLE, Int.reduceLT, Int.reduceToNat, ne_eq, Nat.reduceSub, xl, ol, xl1, ol1, nb2_b1, nb3_b2, nb3_b1, xl2, ol2, nb4_b2, nb4_b1, xl3, ol3, nb5_b4, nb5_b2, nb5_b1, nb6_b5, nb6_b4, nb6_b2, nb6_b1, xl4, ol4, nb7_b5, nb7_b4, nb7_b2, nb7_b1]
            repeat refine And.intro (by omega) ?_
            refine callK_reads0 hrows (holds_mem nd2 fun p hp => by simp only [List.mem_cons, List.mem_append] at hp ⊢; rcases hp with h | h <;> simp [h]) ?_
            simp (maxSteps := 2000000) (disch := first | (simp only [E4, xl, ol, xl1, ol1, xl2, ol2, xl3, ol3, xl4, ol4] <;> omega) | omega | fail) only [↓E2, E3, bare, bareJ, ↓E0, E1, env0, envN, evOps, evOp, evQs, evQ, evV, setD, pureOp, ev, upd, updL, gate, binW, eqOp, binV, intOp, shOp, boolOp, unV, cellAt, cellsAt, findB, setB, hav, eqL, SameI, strOp, ↓reduceIte, Zj, Zk, Nat.reduceAdd, Nat.reduceLT, Nat.reduceEqDiff, Nat.reduceMul, Nat.reduceLeDiff, if_true, Zn, reduceCtorEq, ZA, eq_self, Int.reduceLE, Int.reduceLT, Int.reduceToNat, ne_eq, Nat.reduceSub, xl, ol, xl1, ol1, nb2_b1, nb3_b2, nb3_b1, xl2, ol2, nb4_b2, nb4_b1, xl3, ol3, nb5_b4, nb5_b2, nb5_b1, nb6_b5, nb6_b4, nb6_b2, nb6_b1, xl4, ol4, nb7_b5, nb7_b4, nb7_b2, nb7_b1]
            repeat refine And.intro (by omega) ?_
            exact rfl
          intro g
          simp (maxSteps := 2000000) (disch := first | (simp only [E4, xl, ol, xl1, ol1, xl2, ol2, xl3, ol3, xl4, ol4] <;> omega) | omega | fail) only [↓E2, E3, bare, bareJ, ↓E0, E1, env0, envN, evOps, evOp, evQs, evQ, evV, setD, pureOp, ev, upd, updL, gate, binW, eqOp, binV, intOp, shOp, boolOp, unV, cellAt, cellsAt, findB, setB, hav, eqL, SameI, strOp, ↓reduceIte, Zj, Zk, Nat.reduceAdd, Nat.reduceLT, Nat.reduceEqDiff, Nat.reduceMul, Nat.reduceLeDiff, if_true, Zn, reduceCtorEq, ZA, eq_self, Int.reduceLE, Int.reduceLT, Int.reduceToNat, ne_eq, Nat.reduceSub, xl, ol, xl1, ol1, nb2_b1, nb3_b2, nb3_b1, xl2, ol2, nb4_b2, nb4_b1, xl3, ol3, nb5_b4, nb5_b2, nb5_b1, nb6_b5, nb6_b4, nb6_b2, nb6_b1, xl4, ol4, nb7_b5, nb7_b4, nb7_b2, nb7_b1]
          repeat refine And.intro (by omega) ?_
          repeat refine And.intro (by omega) ?_
          intro g
          simp only [List.map_cons, List.map_nil, updL, upd, Nat.reduceEqDiff, if_true, if_false, ↓reduceIte]
          refine hK _ _ ?_; clear hK K
          refine Cd.cond rfl (fun e5 => ?_) (fun e5 => ?_)
          · exact absurd e5 (by decide)
          · clear e5 hrows hm2 em2 nd2 nd1
            refine Cd.skip ?_
            refine thenN ?_
            refine Cd.midq (fun ρ M => ∃ g, ρ = updL [(3, .pointer (some ⟨b1, 0, none⟩)), (4, .int .i64 i), (5, .int .i64 m), (8, .pointer (some ⟨b2, 0, none⟩)), (9, .int .i64 c1), (12, .pointer (some ⟨b4, 0, none⟩)), (15, .pointer (some ⟨b5, 0, none⟩)), (16, .int .i64 c3), (19, .bool bb)] g ∧ SubP ((b5, gc s3 x3 o3) :: (b4, gc s2 x2 o2) :: (b2, gc s1 x1 o1) :: [(b1, gc s x o)]) M) ?_ ?_
            · refine Cd.rs [3, 4, 5, 8, 9, 12, 15, 16, 19, 23, 24, 146] fun K hK => ?_
              simp (maxSteps := 2000000) (disch := first | (simp only [E4, xl, ol, xl1, ol1, xl2, ol2, xl3, ol3, xl4, ol4] <;> omega) | omega | fail) only [↓E2, E3, bare, bareJ, ↓E0, E1, env0, envN, evOps, evOp, evQs, evQ, evV, setD, pureOp, ev, upd, updL, binW, eqOp, binV, intOp, shOp, boolOp, hav, eqL, SameI, strOp, ↓reduceIte, Zj, Zk, Nat.reduceAdd, Nat.reduceLT, Nat.reduceEqDiff, Nat.reduceMul, Nat.reduceLeDiff, if_true, Zn, reduceCtorEq, ZA, eq_self, Int.reduceLE, Int.reduceLT, Int.reduceToNat, ne_eq, Nat.reduceSub, xl, ol, xl1, ol1, nb2_b1, nb3_b2, nb3_b1, xl2, ol2, nb4_b2, nb4_b1, xl3, ol3, nb5_b4, nb5_b2, nb5_b1, nb6_b5, nb6_b4, nb6_b2, nb6_b1, xl4, ol4, nb7_b5, nb7_b4, nb7_b2, nb7_b1]
              repeat refine And.intro (by omega) ?_
              repeat refine And.intro (by omega) ?_
              intro g
              simp only [List.map_cons, List.map_nil, updL, upd, Nat.reduceEqDiff, if_true, if_false, ↓reduceIte]
              refine hK _ _ ?_; clear hK K
              refine Cd.cond rfl (fun e6 => ?_) (fun e6 => ?_)
              · clear e6
                refine Cd.sub (M' := (b7, gc s4 x4 o4) :: (M1 ++ ((b5, gc s3 x3 o3) :: (b4, gc s2 x2 o2) :: (b2, gc s1 x1 o1) :: [(b1, gc s x o)]))) (by exact subP_cnt M2 fun _ => by simp only [cnt_cons, cnt_append, cnt_nil]; omega) ?_
                refine Cd.rs [3, 4, 5, 8, 9, 12, 15, 16, 19, 23, 24, 28] fun K hK => ?_
                simp (maxSteps := 2000000) (disch := first | (simp only [E4, xl, ol, xl1, ol1, xl2, ol2, xl3, ol3, xl4, ol4] <;> omega) | omega | fail) only [↓E2, E3, bare, bareJ, ↓E0, E1, env0, envN, evOps, evOp, evQs, evQ, evV, setD, pureOp, ev, upd, updL, hav, ↓reduceIte, Zj, Zk, Nat.reduceAdd, Nat.reduceLT, Nat.reduceEqDiff, Nat.reduceMul, Nat.reduceLeDiff, if_true, Zn, reduceCtorEq, ZA, eq_self, Int.reduceLE, Int.reduceLT, Int.reduceToNat, ne_eq, Nat.reduceSub, xl, ol, xl1, ol1, nb2_b1, nb3_b2, nb3_b1, xl2, ol2, nb4_b2, nb4_b1, xl3, ol3, nb5_b4, nb5_b2, nb5_b1, nb6_b5, nb6_b4, nb6_b2, nb6_b1, xl4, ol4, nb7_b5, nb7_b4, nb7_b2, nb7_b1]
                repeat refine And.intro (by omega) ?_
                repeat refine And.intro (by omega) ?_
                intro g
                simp only [List.map_cons, List.map_nil, updL, upd, Nat.reduceEqDiff, if_true, if_false, ↓reduceIte]
                refine hK _ _ ?_; clear hK K
                refine Cd.block ?_
                refine Cd.loop (fun q ρ M => ∃ g j, j + q = m1 ∧ ρ = updL [(3, .pointer (some ⟨b1, 0, none⟩)), (4, .int .i64 i), (5, .int .i64 m), (8, .pointer (some ⟨b2, 0, none⟩)), (9, .int .i64 c1), (12, .pointer (some ⟨b4, 0, none⟩)), (15, .pointer (some ⟨b5, 0, none⟩)), (16, .int .i64 c3), (19, .bool bb), (23, .pointer (some ⟨b7, 0, none⟩)), (24, .slice a1 m1 cp1), (28, .int .i64 (j : Int))] g ∧ SubP ((b7, gc s4 x4 o4) :: (M1 ++ ((b5, gc s3 x3 o3) :: (b4, gc s2 x2 o2) :: (b2, gc s1 x1 o1) :: [(b1, gc s x o)]))) M) m1 ⟨_, 0, Nat.zero_add _, rfl, SubP.refl _⟩ ?_
                rintro q ρ M ⟨g, j, hj, rfl, hM⟩
                refine Cd.sub hM ?_
                clear hM M
                refine Cd.seq ?_
                refine Cd.rs [3, 4, 5, 8, 9, 12, 15, 16, 19, 23, 24, 28, 150] fun K hK => ?_
                simp (maxSteps := 2000000) (disch := first | (simp only [E4, xl, ol, xl1, ol1, xl2, ol2, xl3, ol3, xl4, ol4] <;> omega) | omega | fail) only [↓E2, E3, bare, bareJ, ↓E0, E1, env0, envN, evOps, evOp, evQs, evQ, evV, setD, pureOp, ev, upd, updL, binW, eqOp, binV, intOp, shOp, boolOp, lenV, hav, eqL, SameI, strOp, ↓reduceIte, Zj, Zk, Nat.reduceAdd, Nat.reduceLT, Nat.reduceEqDiff, Nat.reduceMul, Nat.reduceLeDiff, if_true, Zn, reduceCtorEq, ZA, eq_self, Int.reduceLE, Int.reduceLT, Int.reduceToNat, ne_eq, Nat.reduceSub, Tslce43, xl, ol, xl1, ol1, nb2_b1, nb3_b2, nb3_b1, xl2, ol2, nb4_b2, nb4_b1, xl3, ol3, nb5_b4, nb5_b2, nb5_b1, nb6_b5, nb6_b4, nb6_b2, nb6_b1, xl4, ol4, nb7_b5, nb7_b4, nb7_b2, nb7_b1]
                repeat refine And.intro (by omega) ?_
                repeat refine And.intro (by omega) ?_
                intro g
                simp only [List.map_cons, List.map_nil, updL, upd, Nat.reduceEqDiff, if_true, if_false, ↓reduceIte]
                refine hK _ _ ?_; clear hK K
                refine Cd.condd rfl (fun e7 => ?_) (fun e7 => ?_)
                · have hjm : j < m1 := by omega
                  refine Cd.skip ?_
                  refine thenN ?_
                  rcases hm1 with ⟨e, _, _⟩ | ⟨bp, mp', cpp', csp, vsp, Mi, e, rfl, hrp, hrs⟩
                  · rw [e] at em1
                    simp at em1; omega
                  cases e
                  obtain ⟨ll, w1, A, Mj, B, u1, u2, rfl, u4, _⟩ := hrs.split (j := j) (by omega)
                  obtain ⟨i', r', rfl, hi', hr', hcan⟩ := place_law (List.mem_of_getElem? u1)
                  have u3 := hrp.get u2
                  rcases u4 with ⟨e, _, _⟩ | ⟨bj, mj, capj, csj, rfl, rfl, hrj⟩
                  · cases e
                  have hg0 : csj[0]? = some (.int .i64 (i' : Int)) := hrj.get rfl
                  have hg1 : csj[1]? = some (.int .i64 (r' : Int)) := hrj.get rfl
                  have lj : 2 = mj := hrj.len1
                  subst lj
                  have hcl := implCanDestabilize_c s4 x4 o4 hx4 ho4 (i' : Int) ⟨by omega, by omega⟩ (r' : Int) ⟨by omega, by omega⟩
                  rw [hcan] at hcl
                  refine Cd.sub (M' := (bp, csp) :: (bj, csj) :: (b7, gc s4 x4 o4) :: ((A ++ B) ++ ((b5, gc s3 x3 o3) :: (b4, gc s2 x2 o2) :: (b2, gc s1 x1 o1) :: [(b1, gc s x o)]))) (by exact subP_cnt [] fun _ => by simp only [cnt_cons, cnt_append, cnt_nil]; omega) ?_
                  refine Cd.nodup fun hnd => ?_
                  have d0_1 : (bp = bj) = False := eq_false ((nodup_cases hnd).1 (bj, csj) (by simp))
                  have d0_2 : (bp = b7) = False := eq_false ((nodup_cases hnd).1 (b7, gc s4 x4 o4) (by simp))
                  have d1_2 : (bj = b7) = False := eq_false ((nodup_cases (nodup_cases hnd).2).1 (b7, gc s4 x4 o4) (by simp))
                  skip
                  skip
                  clear hnd
                  refine Cd.seq ?_
                  refine Cd.block ?_
                  skip
                  refine Cd.qs [3, 4, 5, 8, 9, 12, 15, 16, 19, 23, 24, 28, 29, 30] fol (by kernel_rfl) fun K hK => ?_
                  simp (maxSteps := 2000000) (disch := first | (simp only [E4, xl, ol, xl1, ol1, xl2, ol2, xl3, ol3, xl4, ol4, u3, hg0, hg1] <;> omega) | omega | fail) only [↓E2, E3, bare, bareJ, ↓E0, E1, evPlan, env0, envN, evOps, evOp, evQs, evQ, evV, setD, pureOp, ev, upd, updL, indexAddrV, extractV, cellAt, cellsAt, findB, setB, hav, ↓reduceIte, Zj, Zk, Nat.reduceAdd, Nat.reduceLT, Nat.reduceEqDiff, Nat.reduceMul, Nat.reduceLeDiff, if_true, Zn, reduceCtorEq, ZA, eq_self, Int.reduceLE, Int.reduceLT, Int.reduceToNat, ne_eq, Nat.reduceSub, Tld2, Tld32, Tld47, Tslc43, Tslc47, xl, ol, xl1, ol1, nb2_b1, nb3_b2, nb3_b1, xl2, ol2, nb4_b2, nb4_b1, xl3, ol3, nb5_b4, nb5_b2, nb5_b1, nb6_b5, nb6_b4, nb6_b2, nb6_b1, xl4, ol4, nb7_b5, nb7_b4, nb7_b2, nb7_b1, d0_1, d0_2, d1_2, u3, hg0, hg1]
                  repeat refine And.intro (by omega) ?_
                  refine callQ_gives hcl ?_
                  simp (maxSteps := 2000000) (disch := first | (simp only [E4, xl, ol, xl1, ol1, xl2, ol2, xl3, ol3, xl4, ol4, u3, hg0, hg1] <;> omega) | omega | fail) only [↓E2, E3, bare, bareJ, ↓E0, E1, evPlan, env0, envN, evOps, evOp, evQs, evQ, evV, setD, pureOp, ev, upd, updL, indexAddrV, extractV, cellAt, cellsAt, findB, setB, hav, ↓reduceIte, Zj, Zk, Nat.reduceAdd, Nat.reduceLT, Nat.reduceEqDiff, Nat.reduceMul, Nat.reduceLeDiff, if_true, Zn, reduceCtorEq, ZA, eq_self, Int.reduceLE, Int.reduceLT, Int.reduceToNat, ne_eq, Nat.reduceSub, Tld2, Tld32, Tld47, Tslc43, Tslc47, xl, ol, xl1, ol1, nb2_b1, nb3_b2, nb3_b1, xl2, ol2, nb4_b2, nb4_b1, xl3, ol3, nb5_b4, nb5_b2, nb5_b1, nb6_b5, nb6_b4, nb6_b2, nb6_b1, xl4, ol4, nb7_b5, nb7_b4, nb7_b2, nb7_b1, d0_1, d0_2, d1_2, u3, hg0, hg1]
                  repeat refine And.intro (by omega) ?_
                  repeat refine And.intro (by omega) ?_
                  intro g
                  simp only [List.map_cons, List.map_nil, updL, upd, Nat.reduceEqDiff, if_true, if_false, ↓reduceIte]
                  refine hK _ ?_; clear hK K
                  refine Cd.rs [3, 4, 5, 8, 9, 12, 15, 16, 19, 23, 24, 28, 175] fun K hK => ?_
                  simp (maxSteps := 2000000) (disch := first | (simp only [E4, xl, ol, xl1, ol1, xl2, ol2, xl3, ol3, xl4, ol4, u3, hg0, hg1] <;> omega) | omega | fail) only [↓E2, E3, bare, bareJ, ↓E0, E1, env0, envN, evOps, evOp, evQs, evQ, evV, setD, pureOp, ev, upd, updL, gate, binW, eqOp, binV, intOp, shOp, boolOp, unV, hav, eqL, SameI, strOp, ↓reduceIte, Zj, Zk, Nat.reduceAdd, Nat.reduceLT, Nat.reduceEqDiff, Nat.reduceMul, Nat.reduceLeDiff, if_true, Zn, reduceCtorEq, ZA, eq_self, Int.reduceLE, Int.reduceLT, Int.reduceToNat, ne_eq, Nat.reduceSub, xl, ol, xl1, ol1, nb2_b1, nb3_b2, nb3_b1, xl2, ol2, nb4_b2, nb4_b1, xl3, ol3, nb5_b4, nb5_b2, nb5_b1, nb6_b5, nb6_b4, nb6_b2, nb6_b1, xl4, ol4, nb7_b5, nb7_b4, nb7_b2, nb7_b1, d0_1, d0_2, d1_2, u3, hg0, hg1]
                  repeat refine And.intro (by omega) ?_
                  apply guardX_or 2 [173, 174] (j := 2) (d := 172) (tp := 175) (tl := 174) rfl rfl rfl rfl rfl
                  · intro hq
                    simp (maxSteps := 2000000) (disch := first | (simp only [E4, xl, ol, xl1, ol1, xl2, ol2, xl3, ol3, xl4, ol4, u3, hg0, hg1] <;> omega) | omega | fail) only [↓E2, E3, bare, bareJ, ↓E0, E1, env0, envN, evOps, evOp, evQs, evQ, evV, setD, pureOp, ev, upd, updL, gate, binW, eqOp, binV, intOp, shOp, boolOp, unV, hav, eqL, SameI, strOp, ↓reduceIte, Zj, Zk, Nat.reduceAdd, Nat.reduceLT, Nat.reduceEqDiff, Nat.reduceMul, Nat.reduceLeDiff, if_true, Zn, reduceCtorEq, ZA, eq_self, Int.reduceLE, Int.reduceLT, Int.reduceToNat, ne_eq, Nat.reduceSub, xl, ol, xl1, ol1, nb2_b1, nb3_b2, nb3_b1, xl2, ol2, nb4_b2, nb4_b1, xl3, ol3, nb5_b4, nb5_b2, nb5_b1, nb6_b5, nb6_b4, nb6_b2, nb6_b1, xl4, ol4, nb7_b5, nb7_b4, nb7_b2, nb7_b1, d0_1, d0_2, d1_2, u3, hg0, hg1]
                    repeat refine And.intro (by omega) ?_
                    exact rfl
                  intro g
                  simp (maxSteps := 2000000) (disch := first | (simp only [E4, xl, ol, xl1, ol1, xl2, ol2, xl3, ol3, xl4, ol4, u3, hg0, hg1] <;> omega) | omega | fail) only [↓E2, E3, bare, bareJ, ↓E0, E1, env0, envN, evOps, evOp, evQs, evQ, evV, setD, pureOp, ev, upd, updL, gate, binW, eqOp, binV, intOp, shOp, boolOp, unV, hav, eqL, SameI, strOp, ↓reduceIte, Zj, Zk, Nat.reduceAdd, Nat.reduceLT, Nat.reduceEqDiff, Nat.reduceMul, Nat.reduceLeDiff, if_true, Zn, reduceCtorEq, ZA, eq_self, Int.reduceLE, Int.reduceLT, Int.reduceToNat, ne_eq, Nat.reduceSub, xl, ol, xl1, ol1, nb2_b1, nb3_b2, nb3_b1, xl2, ol2, nb4_b2, nb4_b1, xl3, ol3, nb5_b4, nb5_b2, nb5_b1, nb6_b5, nb6_b4, nb6_b2, nb6_b1, xl4, ol4, nb7_b5, nb7_b4, nb7_b2, nb7_b1, d0_1, d0_2, d1_2, u3, hg0, hg1]
                  repeat refine And.intro (by omega) ?_
                  repeat refine And.intro (by omega) ?_
                  intro g
                  simp only [List.map_cons, List.map_nil, updL, upd, Nat.reduceEqDiff, if_true, if_false, ↓reduceIte]
                  refine hK _ _ ?_; clear hK K
                  refine Cd.cond rfl (fun e8 => ?_) (fun e8 => ?_)
                  · exact absurd e8 (by decide)
                  · clear e8
                    refine Cd.skip ?_
                    refine inBN ?_
                    refine thenN ?_
                    refine Cd.rr [3, 4, 5, 8, 9, 12, 15, 16, 19, 23, 24, 28] fun K hK => ?_
                    simp (maxSteps := 2000000) (disch := first | (simp only [E4, xl, ol, xl1, ol1, xl2, ol2, xl3, ol3, xl4, ol4, u3, hg0, hg1] <;> omega) | omega | fail) only [↓E2, E3, bare, bareJ, ↓E0, E1, env0, envN, evOps, evOp, evQs, evQ, evV, setD, pureOp, ev, upd, updL, binW, eqOp, binV, intOp, shOp, boolOp, hav, eqL, SameI, strOp, ↓reduceIte, Zj, Zk, Nat.reduceAdd, Nat.reduceLT, Nat.reduceEqDiff, Nat.reduceMul, Nat.reduceLeDiff, if_true, Zn, reduceCtorEq, ZA, eq_self, Int.reduceLE, Int.reduceLT, Int.reduceToNat, ne_eq, Nat.reduceSub, xl, ol, xl1, ol1, nb2_b1, nb3_b2, nb3_b1, xl2, ol2, nb4_b2, nb4_b1, xl3, ol3, nb5_b4, nb5_b2, nb5_b1, nb6_b5, nb6_b4, nb6_b2, nb6_b1, xl4, ol4, nb7_b5, nb7_b4, nb7_b2, nb7_b1, d0_1, d0_2, d1_2, u3, hg0, hg1]
                    repeat refine And.intro (by omega) ?_
                    repeat refine And.intro (by omega) ?_
                    intro g
                    simp only [List.map_cons, List.map_nil, updL, upd, Nat.reduceEqDiff, if_true, if_false, ↓reduceIte]
                    refine hK _ _ ?_; clear hK K
                    exact roundN (m := q - 1) (by omega) ⟨_, j + 1, by omega, rfl, by exact subP_cnt [] fun _ => by simp only [cnt_cons, cnt_append, cnt_nil]; omega⟩
                · refine Cd.exit (thenX (roundX (inBX ?_)))
                  exact midN ⟨_, (norm_of (by repeat (first | exact trivial | refine And.intro rfl ?_))), by exact subP_cnt ((b7, gc s4 x4 o4) :: M1) fun _ => by simp only [cnt_cons, cnt_append, cnt_nil]; omega⟩
              · refine Cd.skip ?_
                exact midN ⟨_, (norm_of (by repeat (first | exact trivial | refine And.intro rfl ?_))), by exact subP_cnt ((b7, gc s4 x4 o4) :: (M1 ++ M2)) fun _ => by simp only [cnt_cons, cnt_append, cnt_nil]; omega⟩
            · rintro ρ M ⟨g, rfl, hM⟩
              refine Cd.sub hM ?_
              clear hM M
              skip
              refine Cd.seq ?_
              refine Cd.rs [3, 4, 5, 8, 9, 194] fun K hK => ?_
              simp (maxSteps := 2000000) (disch := first | (simp only [E4, xl, ol, xl1, ol1, xl2, ol2, xl3, ol3, xl4, ol4] <;> omega) | omega | fail) only [↓E2, E3, bare, bareJ, ↓E0, E1, env0, envN, evOps, evOp, evQs, evQ, evV, setD, pureOp, ev, upd, updL, gate, binW, eqOp, binV, intOp, shOp, boolOp, unV, fieldAddrV, cellAt, cellsAt, findB, setB, hav, eqL, SameI, strOp, ↓reduceIte, Zj, Zk, Nat.reduceAdd, Nat.reduceLT, Nat.reduceEqDiff, Nat.reduceMul, Nat.reduceLeDiff, if_true, Zn, reduceCtorEq, ZA, eq_self, Int.reduceLE, Int.reduceLT, Int.reduceToNat, ne_eq, Nat.reduceSub, Tfld32_0, Tld2, Tld32, xl, ol, xl1, ol1, nb2_b1, nb3_b2, nb3_b1, xl2, ol2, nb4_b2, nb4_b1, xl3, ol3, nb5_b4, nb5_b2, nb5_b1, nb6_b5, nb6_b4, nb6_b2, nb6_b1, xl4, ol4, nb7_b5, nb7_b4, nb7_b2, nb7_b1]
              repeat refine And.intro (by omega) ?_
              apply guardX_and 15 [179, 180, 181, 182, 183, 184, 185, 186, 187, 188, 189, 190, 191, 192, 193] (j := 2) (d := 178) (tp := 194) (tl := 193) (x := false) rfl rfl rfl rfl rfl
              · intro hq
                obtain ⟨t1, t2, t3, t4, t5⟩ := D3 (by simpa using hq)
                clear D1 hm1 hbd em1 D3
                subst t3
                have hig := IsGrid_c (s2 - 1) x3 o3 hx3 ho3
                rw [t2] at hig
                skip
                simp (maxSteps := 2000000) (disch := first | (simp only [E4, xl, ol, xl1, ol1, xl2, ol2, xl3, ol3, xl4, ol4, t1] <;> omega) | omega | fail) only [↓E2, E3, bare, bareJ, ↓E0, E1, env0, envN, evOps, evOp, evQs, evQ, evV, setD, pureOp, ev, upd, updL, gate, binW, eqOp, binV, intOp, shOp, boolOp, unV, fieldAddrV, cellAt, cellsAt, findB, setB, hav, eqL, SameI, strOp, ↓reduceIte, Zj, Zk, Nat.reduceAdd, Nat.reduceLT, Nat.reduceEqDiff, Nat.reduceMul, Nat.reduceLeDiff, if_true, Zn, reduceCtorEq, ZA, eq_self, Int.reduceLE, Int.reduceLT, Int.reduceToNat, ne_eq, Nat.reduceSub, Tfld32_0, Tld2, Tld32, xl, ol, xl1, ol1, nb2_b1, nb3_b2, nb3_b1, xl2, ol2, nb4_b2, nb4_b1, xl3, ol3, nb5_b4, nb5_b2, nb5_b1, nb6_b5, nb6_b4, nb6_b2, nb6_b1, xl4, ol4, nb7_b5, nb7_b4, nb7_b2, nb7_b1, t1]
                repeat refine And.intro (by omega) ?_
                apply guardX_or 3 [182, 183, 184] (j := 5) (d := 181) (tp := 185) (tl := 184) (x := false) rfl rfl rfl rfl rfl
                · intro hq2
                  simp (maxSteps := 2000000) (disch := first | (simp only [E4, xl, ol, xl1, ol1, xl2, ol2, xl3, ol3, xl4, ol4, t1] <;> omega) | omega | fail) only [↓E2, E3, bare, bareJ, ↓E0, E1, env0, envN, evOps, evOp, evQs, evQ, evV, setD, pureOp, ev, upd, updL, gate, binW, eqOp, binV, intOp, shOp, boolOp, unV, fieldAddrV, cellAt, cellsAt, findB, setB, hav, eqL, SameI, strOp, ↓reduceIte, Zj, Zk, Nat.reduceAdd, Nat.reduceLT, Nat.reduceEqDiff, Nat.reduceMul, Nat.reduceLeDiff, if_true, Zn, reduceCtorEq, ZA, eq_self, Int.reduceLE, Int.reduceLT, Int.reduceToNat, ne_eq, Nat.reduceSub, Tfld32_0, Tld2, Tld32, xl, ol, xl1, ol1, nb2_b1, nb3_b2, nb3_b1, xl2, ol2, nb4_b2, nb4_b1, xl3, ol3, nb5_b4, nb5_b2, nb5_b1, nb6_b5, nb6_b4, nb6_b2, nb6_b1, xl4, ol4, nb7_b5, nb7_b4, nb7_b2, nb7_b1, t1]
                  repeat refine And.intro (by omega) ?_
                  refine callK_gives hig ?_
                  simp (maxSteps := 2000000) (disch := first | (simp only [E4, xl, ol, xl1, ol1, xl2, ol2, xl3, ol3, xl4, ol4, t1] <;> omega) | omega | fail) only [↓E2, E3, bare, bareJ, ↓E0, E1, env0, envN, evOps, evOp, evQs, evQ, evV, setD, pureOp, ev, upd, updL, gate, binW, eqOp, binV, intOp, shOp, boolOp, unV, fieldAddrV, cellAt, cellsAt, findB, setB, hav, eqL, SameI, strOp, ↓reduceIte, Zj, Zk, Nat.reduceAdd, Nat.reduceLT, Nat.reduceEqDiff, Nat.reduceMul, Nat.reduceLeDiff, if_true, Zn, reduceCtorEq, ZA, eq_self, Int.reduceLE, Int.reduceLT, Int.reduceToNat, ne_eq, Nat.reduceSub, Tfld32_0, Tld2, Tld32, xl, ol, xl1, ol1, nb2_b1, nb3_b2, nb3_b1, xl2, ol2, nb4_b2, nb4_b1, xl3, ol3, nb5_b4, nb5_b2, nb5_b1, nb6_b5, nb6_b4, nb6_b2, nb6_b1, xl4, ol4, nb7_b5, nb7_b4, nb7_b2, nb7_b1, t1]
                  repeat refine And.intro (by omega) ?_
                intro g
                simp (maxSteps := 2000000) (disch := first | (simp only [E4, xl, ol, xl1, ol1, xl2, ol2, xl3, ol3, xl4, ol4, t1] <;> omega) | omega | fail) only [↓E2, E3, bare, bareJ, ↓E0, E1, env0, envN, evOps, evOp, evQs, evQ, evV, setD, pureOp, ev, upd, updL, gate, binW, eqOp, binV, intOp, shOp, boolOp, unV, fieldAddrV, cellAt, cellsAt, findB, setB, hav, eqL, SameI, strOp, ↓reduceIte, Zj, Zk, Nat.reduceAdd, Nat.reduceLT, Nat.reduceEqDiff, Nat.reduceMul, Nat.reduceLeDiff, if_true, Zn, reduceCtorEq, ZA, eq_self, Int.reduceLE, Int.reduceLT, Int.reduceToNat, ne_eq, Nat.reduceSub, Tfld32_0, Tld2, Tld32, xl, ol, xl1, ol1, nb2_b1, nb3_b2, nb3_b1, xl2, ol2, nb4_b2, nb4_b1, xl3, ol3, nb5_b4, nb5_b2, nb5_b1, nb6_b5, nb6_b4, nb6_b2, nb6_b1, xl4, ol4, nb7_b5, nb7_b4, nb7_b2, nb7_b1, t1]
                repeat refine And.intro (by omega) ?_
                apply guardX_or 6 [187, 188, 189, 190, 191, 192] (j := 10) (d := 186) (tp := 193) (tl := 192) (x := false) rfl rfl rfl rfl rfl
                · intro hq2
                  simp (maxSteps := 2000000) (disch := first | (simp only [E4, xl, ol, xl1, ol1, xl2, ol2, xl3, ol3, xl4, ol4, t1] <;> omega) | omega | fail) only [↓E2, E3, bare, bareJ, ↓E0, E1, env0, envN, evOps, evOp, evQs, evQ, evV, setD, pureOp, ev, upd, updL, gate, binW, eqOp, binV, intOp, shOp, boolOp, unV, fieldAddrV, cellAt, cellsAt, findB, setB, hav, eqL, SameI, strOp, ↓reduceIte, Zj, Zk, Nat.reduceAdd, Nat.reduceLT, Nat.reduceEqDiff, Nat.reduceMul, Nat.reduceLeDiff, if_true, Zn, reduceCtorEq, ZA, eq_self, Int.reduceLE, Int.reduceLT, Int.reduceToNat, ne_eq, Nat.reduceSub, Tfld32_0, Tld2, Tld32, xl, ol, xl1, ol1, nb2_b1, nb3_b2, nb3_b1, xl2, ol2, nb4_b2, nb4_b1, xl3, ol3, nb5_b4, nb5_b2, nb5_b1, nb6_b5, nb6_b4, nb6_b2, nb6_b1, xl4, ol4, nb7_b5, nb7_b4, nb7_b2, nb7_b1, t1]
                  repeat refine And.intro (by omega) ?_
                intro g
                simp (maxSteps := 2000000) (disch := first | (simp only [E4, xl, ol, xl1, ol1, xl2, ol2, xl3, ol3, xl4, ol4, t1] <;> omega) | omega | fail) only [↓E2, E3, bare, bareJ, ↓E0, E1, env0, envN, evOps, evOp, evQs, evQ, evV, setD, pureOp, ev, upd, updL, gate, binW, eqOp, binV, intOp, shOp, boolOp, unV, fieldAddrV, cellAt, cellsAt, findB, setB, hav, eqL, SameI, strOp, ↓reduceIte, Zj, Zk, Nat.reduceAdd, Nat.reduceLT, Nat.reduceEqDiff, Nat.reduceMul, Nat.reduceLeDiff, if_true, Zn, reduceCtorEq, ZA, eq_self, Int.reduceLE, Int.reduceLT, Int.reduceToNat, ne_eq, Nat.reduceSub, Tfld32_0, Tld2, Tld32, xl, ol, xl1, ol1, nb2_b1, nb3_b2, nb3_b1, xl2, ol2, nb4_b2, nb4_b1, xl3, ol3, nb5_b4, nb5_b2, nb5_b1, nb6_b5, nb6_b4, nb6_b2, nb6_b1, xl4, ol4, nb7_b5, nb7_b4, nb7_b2, nb7_b1, t1]
                repeat refine And.intro (by omega) ?_
                rfl
              intro g
              simp (maxSteps := 2000000) (disch := first | (simp only [E4, xl, ol, xl1, ol1, xl2, ol2, xl3, ol3, xl4, ol4] <;> omega) | omega | fail) only [↓E2, E3, bare, bareJ, ↓E0, E1, env0, envN, evOps, evOp, evQs, evQ, evV, setD, pureOp, ev, upd, updL, gate, binW, eqOp, binV, intOp, shOp, boolOp, unV, fieldAddrV, cellAt, cellsAt, findB, setB, hav, eqL, SameI, strOp, ↓reduceIte, Zj, Zk, Nat.reduceAdd, Nat.reduceLT, Nat.reduceEqDiff, Nat.reduceMul, Nat.reduceLeDiff, if_true, Zn, reduceCtorEq, ZA, eq_self, Int.reduceLE, Int.reduceLT, Int.reduceToNat, ne_eq, Nat.reduceSub, Tfld32_0, Tld2, Tld32, xl, ol, xl1, ol1, nb2_b1, nb3_b2, nb3_b1, xl2, ol2, nb4_b2, nb4_b1, xl3, ol3, nb5_b4, nb5_b2, nb5_b1, nb6_b5, nb6_b4, nb6_b2, nb6_b1, xl4, ol4, nb7_b5, nb7_b4, nb7_b2, nb7_b1]
              repeat refine And.intro (by omega) ?_
              repeat refine And.intro (by omega) ?_
              intro g
              simp only [List.map_cons, List.map_nil, updL, upd, Nat.reduceEqDiff, if_true, if_false, ↓reduceIte]
              refine hK _ _ ?_; clear hK K
              refine Cd.cond rfl (fun e9 => ?_) (fun e9 => ?_)
              · exact absurd e9 (by simp)
              · clear e9
                refine Cd.skip ?_
                refine thenN ?_
                clear D3 hm1 hbd em1
                refine Cd.seq ?_
                refine Cd.rs [3, 4, 5, 8, 196] fun K hK => ?_
                simp (maxSteps := 2000000) (disch := first | (simp only [E4, xl, ol, xl1, ol1, xl2, ol2, xl3, ol3, xl4, ol4] <;> omega) | omega | fail) only [↓E2, E3, bare, bareJ, ↓E0, E1, env0, envN, evOps, evOp, evQs, evQ, evV, setD, pureOp, ev, upd, updL, binW, eqOp, binV, intOp, shOp, boolOp, hav, eqL, SameI, strOp, ↓reduceIte, Zj, Zk, Nat.reduceAdd, Nat.reduceLT, Nat.reduceEqDiff, Nat.reduceMul, Nat.reduceLeDiff, if_true, Zn, reduceCtorEq, ZA, eq_self, Int.reduceLE, Int.reduceLT, Int.reduceToNat, ne_eq, Nat.reduceSub, xl, ol, xl1, ol1, nb2_b1, nb3_b2, nb3_b1, xl2, ol2, nb4_b2, nb4_b1, xl3, ol3, nb5_b4, nb5_b2, nb5_b1, nb6_b5, nb6_b4, nb6_b2, nb6_b1, xl4, ol4, nb7_b5, nb7_b4, nb7_b2, nb7_b1]
                repeat refine And.intro (by omega) ?_
                repeat refine And.intro (by omega) ?_
                intro g
                simp only [List.map_cons, List.map_nil, updL, upd, Nat.reduceEqDiff, if_true, if_false, ↓reduceIte]
                refine hK _ _ ?_; clear hK K
                rcases D1 with ⟨z1, z2, z3, z4⟩ | ⟨z1, z2, z3, z4, z5, z6⟩
                · refine Cd.cond rfl (fun e10 => ?_) (fun e10 => ?_)
                  · subst z2 z3 z4
                    refine Cd.rs [2] fun K hK => ?_
                    simp (maxSteps := 2000000) (disch := first | (simp only [E4, xl, ol, xl1, ol1, xl2, ol2, xl3, ol3, xl4, ol4] <;> omega) | omega | fail) only [↓E2, E3, bare, bareJ, ↓E0, E1, evP, env0, envN, evOps, evOp, evQs, evQ, evV, setD, pureOp, ev, upd, updL, binW, eqOp, binV, intOp, shOp, boolOp, cellAt, cellsAt, findB, fillL, buildV, Value.cells, hav, eqL, SameI, strOp, ↓reduceIte, Zj, Zk, Nat.reduceAdd, Nat.reduceLT, Nat.reduceEqDiff, Nat.reduceMul, Nat.reduceLeDiff, if_true, Zn, reduceCtorEq, ZA, eq_self, Int.reduceLE, Int.reduceLT, Int.reduceToNat, ne_eq, Nat.reduceSub, Tbld32, Teqt32, Tld32, xl, ol, xl1, ol1, nb2_b1, nb3_b2, nb3_b1, xl2, ol2, nb4_b2, nb4_b1, xl3, ol3, nb5_b4, nb5_b2, nb5_b1, nb6_b5, nb6_b4, nb6_b2, nb6_b1, xl4, ol4, nb7_b5, nb7_b4, nb7_b2, nb7_b1]
                    repeat refine And.intro (by omega) ?_
                    repeat refine And.intro (by omega) ?_
                    intro g
                    simp only [List.map_cons, List.map_nil, updL, upd, Nat.reduceEqDiff, if_true, if_false, ↓reduceIte]
                    refine hK _ _ ?_; clear hK K
                    refine Cd.ret (thenR ?_)
                    simp (maxSteps := 2000000) (disch := first | (simp only [E4, xl, ol, xl1, ol1, xl2, ol2, xl3, ol3, xl4, ol4] <;> omega) | omega | fail) only [↓E2, E3, bare, bareJ, ↓E0, E1, evP, evPlan, env0, envN, evOps, evOp, evQs, evQ, evV, setD, pureOp, ev, upd, updL, gate, binW, eqOp, binV, intOp, shOp, boolOp, unV, convV, nilV, fieldAddrV, indexAddrV, extractV, cellAt, cellsAt, findB, setB, fillL, buildV, Value.cells, lenV, minV, maxV, hav, sliceV, loV, hiV, bslQ, mksQ, appQ, partsOk, partsCells, delB, eqL, SameI, strOp, apzQ, cvtQ, capV, ↓reduceIte, Zj, Zk, Nat.reduceAdd, Nat.reduceLT, Nat.reduceEqDiff, Nat.reduceMul, Nat.reduceLeDiff, if_true, Zn, reduceCtorEq, ZA, eq_self, Int.reduceLE, Int.reduceLT, Int.reduceToNat, ne_eq, Nat.reduceSub, xl, ol, xl1, ol1, nb2_b1, nb3_b2, nb3_b1, xl2, ol2, nb4_b2, nb4_b1, xl3, ol3, nb5_b4, nb5_b2, nb5_b1, nb6_b5, nb6_b4, nb6_b2, nb6_b1, xl4, ol4, nb7_b5, nb7_b4, nb7_b2, nb7_b1]
                    repeat refine And.intro (by omega) ?_
                    simp
                  · simp only [decide_eq_true_eq, decide_eq_false_iff_not, beq_iff_eq, beq_eq_false_iff_ne, bne_iff_ne, bne_eq_false_iff_eq, Bool.and_eq_true, Bool.or_eq_true, Bool.or_eq_false_iff, Bool.not_eq_true', Bool.not_eq_false', Bool.and_eq_false_imp, ne_eq, gt_iff_lt, ge_iff_le, Int.not_lt, Int.not_le, Classical.not_not] at e10
                    exact absurd e10 z1
                · subst z1
                  refine Cd.cond rfl (fun e10 => absurd e10 (by decide)) (fun e10 => ?_)
                  clear e10
                  refine Cd.skip ?_
                  refine thenN ?_
                  obtain ⟨j, rfl⟩ : ∃ j : Nat, i = (j : Int) := ⟨i.toNat, by omega⟩
                  rw [Int.toNat_natCast] at z5
                  have hj8 : j < 8 := by omega
                  have hxj := bytes_get hx hj8
                  have hoj := bytes_get ho hj8
                  refine Cd.rs [3, 4, 5, 8, 31] fun K hK => ?_
                  simp (maxSteps := 2000000) (disch := first | (simp only [E4, xl, ol, xl1, ol1, xl2, ol2, xl3, ol3, xl4, ol4] <;> omega) | omega | fail) only [↓E2, E3, bare, bareJ, ↓E0, E1, env0, envN, evOps, evOp, evQs, evQ, evV, setD, pureOp, ev, upd, updL, convV, fieldAddrV, indexAddrV, cellAt, cellsAt, findB, hav, cvtQ, ↓reduceIte, Zj, Zk, Nat.reduceAdd, Nat.reduceLT, Nat.reduceEqDiff, Nat.reduceMul, Nat.reduceLeDiff, if_true, Zn, reduceCtorEq, ZA, eq_self, Int.reduceLE, Int.reduceLT, Int.reduceToNat, ne_eq, Nat.reduceSub, Tarr30, Tfld32_1, Tint2, Tld5, Tpar5, xl, ol, xl1, ol1, nb2_b1, nb3_b2, nb3_b1, xl2, ol2, nb4_b2, nb4_b1, xl3, ol3, nb5_b4, nb5_b2, nb5_b1, nb6_b5, nb6_b4, nb6_b2, nb6_b1, xl4, ol4, nb7_b5, nb7_b4, nb7_b2, nb7_b1]
                  repeat refine And.intro (by omega) ?_
                  repeat refine And.intro (by omega) ?_
                  intro g
                  simp only [List.map_cons, List.map_nil, updL, upd, Nat.reduceEqDiff, if_true, if_false, ↓reduceIte]
                  refine hK _ _ ?_; clear hK K
                  refine Cd.midq (fun ρ M => ∃ g, ρ = updL [(3, .pointer (some ⟨b1, 0, none⟩)), (4, .int .i64 (j : Int)), (8, .pointer (some ⟨b2, 0, none⟩)), (31, .int .i64 (if m = 1 then o.getD j 0 else x.getD j 0))] g ∧ M = (b5, gc s3 x3 o3) :: (b4, gc s2 x2 o2) :: (b2, gc s1 x1 o1) :: [(b1, gc s x o)]) ?_ ?_
                  · refine Cd.rs [3, 4, 8, 31, 206] fun K hK => ?_
                    simp (maxSteps := 2000000) (disch := first | (simp only [E4, xl, ol, xl1, ol1, xl2, ol2, xl3, ol3, xl4, ol4] <;> omega) | omega | fail) only [↓E2, E3, bare, bareJ, ↓E0, E1, env0, envN, evOps, evOp, evQs, evQ, evV, setD, pureOp, ev, upd, updL, binW, eqOp, binV, intOp, shOp, boolOp, hav, eqL, SameI, strOp, ↓reduceIte, Zj, Zk, Nat.reduceAdd, Nat.reduceLT, Nat.reduceEqDiff, Nat.reduceMul, Nat.reduceLeDiff, if_true, Zn, reduceCtorEq, ZA, eq_self, Int.reduceLE, Int.reduceLT, Int.reduceToNat, ne_eq, Nat.reduceSub, xl, ol, xl1, ol1, nb2_b1, nb3_b2, nb3_b1, xl2, ol2, nb4_b2, nb4_b1, xl3, ol3, nb5_b4, nb5_b2, nb5_b1, nb6_b5, nb6_b4, nb6_b2, nb6_b1, xl4, ol4, nb7_b5, nb7_b4, nb7_b2, nb7_b1]
                    repeat refine And.intro (by omega) ?_
                    repeat refine And.intro (by omega) ?_
                    intro g
                    simp only [List.map_cons, List.map_nil, updL, upd, Nat.reduceEqDiff, if_true, if_false, ↓reduceIte]
                    refine hK _ _ ?_; clear hK K
                    refine Cd.cond rfl (fun e11 => ?_) (fun e11 => ?_)
                    · simp only [decide_eq_true_eq, decide_eq_false_iff_not, beq_iff_eq, beq_eq_false_iff_ne, bne_iff_ne, bne_eq_false_iff_eq, Bool.and_eq_true, Bool.or_eq_true, Bool.or_eq_false_iff, Bool.not_eq_true', Bool.not_eq_false', Bool.and_eq_false_imp, ne_eq, gt_iff_lt, ge_iff_le, Int.not_lt, Int.not_le, Classical.not_not] at e11
                      rw [if_pos e11]
                      refine Cd.rr [3, 4, 8, 31] fun K hK => ?_
                      simp (maxSteps := 2000000) (disch := first | (simp only [E4, xl, ol, xl1, ol1, xl2, ol2, xl3, ol3, xl4, ol4] <;> omega) | omega | fail) only [↓E2, E3, bare, bareJ, ↓E0, E1, env0, envN, evOps, evOp, evQs, evQ, evV, setD, pureOp, ev, upd, updL, convV, fieldAddrV, indexAddrV, cellAt, cellsAt, findB, hav, cvtQ, ↓reduceIte, Zj, Zk, Nat.reduceAdd, Nat.reduceLT, Nat.reduceEqDiff, Nat.reduceMul, Nat.reduceLeDiff, if_true, Zn, reduceCtorEq, ZA, eq_self, Int.reduceLE, Int.reduceLT, Int.reduceToNat, ne_eq, Nat.reduceSub, Tarr30, Tfld32_2, Tint2, Tld5, Tpar5, xl, ol, xl1, ol1, nb2_b1, nb3_b2, nb3_b1, xl2, ol2, nb4_b2, nb4_b1, xl3, ol3, nb5_b4, nb5_b2, nb5_b1, nb6_b5, nb6_b4, nb6_b2, nb6_b1, xl4, ol4, nb7_b5, nb7_b4, nb7_b2, nb7_b1]
                      repeat refine And.intro (by omega) ?_
                      repeat refine And.intro (by omega) ?_
                      intro g
                      simp only [List.map_cons, List.map_nil, updL, upd, Nat.reduceEqDiff, if_true, if_false, ↓reduceIte]
                      refine hK _ _ ?_; clear hK K
                      exact midN ⟨_, rfl, rfl⟩
                    · simp only [decide_eq_true_eq, decide_eq_false_iff_not, beq_iff_eq, beq_eq_false_iff_ne, bne_iff_ne, bne_eq_false_iff_eq, Bool.and_eq_true, Bool.or_eq_true, Bool.or_eq_false_iff, Bool.not_eq_true', Bool.not_eq_false', Bool.and_eq_false_imp, ne_eq, gt_iff_lt, ge_iff_le, Int.not_lt, Int.not_le, Classical.not_not] at e11
                      rw [if_neg e11]
                      refine Cd.skip ?_
                      exact midN ⟨_, (norm_of (by repeat (first | exact trivial | refine And.intro rfl ?_))), rfl⟩
                  · rintro ρ M ⟨g, rfl, rfl⟩
                    have hrw : Rng (if m = 1 then o.getD j 0 else x.getD j 0) := by
                      split
                      · exact ⟨by omega, by omega⟩
                      · exact ⟨by omega, by omega⟩
                    have hA := implDestabilizeAt_c s1 x1 o1 hx1 ho1 (j : Int) ⟨by omega, by omega⟩ _ hrw
                    rw [z5] at hA
                    generalize (if m = 1 then o.getD j 0 else x.getD j 0) = row at *
                    have hC1 := implComponentsOf_c s x o hx ho
                    have hC2 := implComponentsOf_c s1 x1 o1 hx1 ho1
                    have k1 : codeG s x o = 0 := by unfold codeG; rw [if_pos z2]
                    have k2 : codeG s1 x1 o1 = 0 := by unfold codeG; rw [if_pos z3]
                    rw [k1] at hC1
                    rw [k2] at hC2
                    have hI := IsGrid_c s1 x1 o1 hx1 ho1
                    rw [z3] at hI
                    refine Cd.rs [3, 8, 32, 33] fun K hK => ?_
                    simp (maxSteps := 2000000) (disch := first | (simp only [E4, xl, ol, xl1, ol1, xl2, ol2, xl3, ol3, xl4, ol4] <;> omega) | omega | fail) only [↓E2, E3, bare, bareJ, ↓E0, E1, env0, envN, evOps, evOp, evQs, evQ, evV, setD, pureOp, ev, upd, updL, extractV, cellAt, cellsAt, findB, setB, Value.cells, hav, ↓reduceIte, Zj, Zk, Nat.reduceAdd, Nat.reduceLT, Nat.reduceEqDiff, Nat.reduceMul, Nat.reduceLeDiff, if_true, Zn, reduceCtorEq, ZA, eq_self, Int.reduceLE, Int.reduceLT, Int.reduceToNat, ne_eq, Nat.reduceSub, Tld32, Tst32, Tzero32, xl, ol, xl1, ol1, nb2_b1, nb3_b2, nb3_b1, xl2, ol2, nb4_b2, nb4_b1, xl3, ol3, nb5_b4, nb5_b2, nb5_b1, nb6_b5, nb6_b4, nb6_b2, nb6_b1, xl4, ol4, nb7_b5, nb7_b4, nb7_b2, nb7_b1]
                    repeat refine And.intro (by omega) ?_
                    refine callK_gives hA ?_
                    simp (maxSteps := 2000000) (disch := first | (simp only [E4, xl, ol, xl1, ol1, xl2, ol2, xl3, ol3, xl4, ol4] <;> omega) | omega | fail) only [↓E2, E3, bare, bareJ, ↓E0, E1, env0, envN, evOps, evOp, evQs, evQ, evV, setD, pureOp, ev, upd, updL, extractV, cellAt, cellsAt, findB, setB, Value.cells, hav, ↓reduceIte, Zj, Zk, Nat.reduceAdd, Nat.reduceLT, Nat.reduceEqDiff, Nat.reduceMul, Nat.reduceLeDiff, if_true, Zn, reduceCtorEq, ZA, eq_self, Int.reduceLE, Int.reduceLT, Int.reduceToNat, ne_eq, Nat.reduceSub, Tld32, Tst32, Tzero32, xl, ol, xl1, ol1, nb2_b1, nb3_b2, nb3_b1, xl2, ol2, nb4_b2, nb4_b1, xl3, ol3, nb5_b4, nb5_b2, nb5_b1, nb6_b5, nb6_b4, nb6_b2, nb6_b1, xl4, ol4, nb7_b5, nb7_b4, nb7_b2, nb7_b1]
                    repeat refine And.intro (by omega) ?_
                    intro b8 hb8
                    have nb8_b5 := hb8.ne
                    have nb8_b4 := hb8.tail.ne
                    have nb8_b2 := hb8.tail.tail.ne
                    have nb8_b1 := hb8.tail.tail.tail.ne
                    try simp (maxSteps := 2000000) (disch := first | (simp only [E4, xl, ol, xl1, ol1, xl2, ol2, xl3, ol3, xl4, ol4] <;> omega) | omega | fail) only [↓E2, E3, bare, bareJ, ↓E0, E1, env0, envN, evOps, evOp, evQs, evQ, evV, setD, pureOp, ev, upd, updL, extractV, cellAt, cellsAt, findB, setB, Value.cells, hav, ↓reduceIte, Zj, Zk, Nat.reduceAdd, Nat.reduceLT, Nat.reduceEqDiff, Nat.reduceMul, Nat.reduceLeDiff, if_true, Zn, reduceCtorEq, ZA, eq_self, Int.reduceLE, Int.reduceLT, Int.reduceToNat, ne_eq, Nat.reduceSub, Tld32, Tst32, Tzero32, xl, ol, xl1, ol1, nb2_b1, nb3_b2, nb3_b1, xl2, ol2, nb4_b2, nb4_b1, xl3, ol3, nb5_b4, nb5_b2, nb5_b1, nb6_b5, nb6_b4, nb6_b2, nb6_b1, xl4, ol4, nb7_b5, nb7_b4, nb7_b2, nb7_b1, nb8_b5, nb8_b4, nb8_b2, nb8_b1]
                    repeat refine And.intro (by omega) ?_
                    repeat refine And.intro (by omega) ?_
                    intro g
                    simp only [List.map_cons, List.map_nil, updL, upd, Nat.reduceEqDiff, if_true, if_false, ↓reduceIte]
                    refine hK _ _ ?_; clear hK K
                    refine Cd.rs [3, 8, 32, 33, 34, 35] fun K hK => ?_
                    simp (maxSteps := 2000000) (disch := first | (simp only [E4, xl, ol, xl1, ol1, xl2, ol2, xl3, ol3, xl4, ol4] <;> omega) | omega | fail) only [↓E2, E3, bare, bareJ, ↓E0, E1, env0, envN, evOps, evOp, evQs, evQ, evV, setD, pureOp, ev, upd, updL, extractV, cellAt, cellsAt, findB, setB, hav, ↓reduceIte, Zj, Zk, Nat.reduceAdd, Nat.reduceLT, Nat.reduceEqDiff, Nat.reduceMul, Nat.reduceLeDiff, if_true, Zn, reduceCtorEq, ZA, eq_self, Int.reduceLE, Int.reduceLT, Int.reduceToNat, ne_eq, Nat.reduceSub, Tld32, xl, ol, xl1, ol1, nb2_b1, nb3_b2, nb3_b1, xl2, ol2, nb4_b2, nb4_b1, xl3, ol3, nb5_b4, nb5_b2, nb5_b1, nb6_b5, nb6_b4, nb6_b2, nb6_b1, xl4, ol4, nb7_b5, nb7_b4, nb7_b2, nb7_b1, nb8_b5, nb8_b4, nb8_b2, nb8_b1]
                    repeat refine And.intro (by omega) ?_
                    refine callK_newR0 hC1 (fun _ _ => toldW_nil) ?_
                    rintro _ Ma ⟨v1, rfl, hma⟩ nda _
                    obtain ⟨a7, m7, cp7, rfl, em7⟩ := slsl_frm hma
                    simp only [List.cons_append, List.nil_append]
                    simp (maxSteps := 2000000) (disch := first | (simp only [E4, xl, ol, xl1, ol1, xl2, ol2, xl3, ol3, xl4, ol4] <;> omega) | omega | fail) only [↓E2, E3, bare, bareJ, ↓E0, E1, env0, envN, evOps, evOp, evQs, evQ, evV, setD, pureOp, ev, upd, updL, extractV, cellAt, cellsAt, findB, setB, hav, ↓reduceIte, Zj, Zk, Nat.reduceAdd, Nat.reduceLT, Nat.reduceEqDiff, Nat.reduceMul, Nat.reduceLeDiff, if_true, Zn, reduceCtorEq, ZA, eq_self, Int.reduceLE, Int.reduceLT, Int.reduceToNat, ne_eq, Nat.reduceSub, Tld32, xl, ol, xl1, ol1, nb2_b1, nb3_b2, nb3_b1, xl2, ol2, nb4_b2, nb4_b1, xl3, ol3, nb5_b4, nb5_b2, nb5_b1, nb6_b5, nb6_b4, nb6_b2, nb6_b1, xl4, ol4, nb7_b5, nb7_b4, nb7_b2, nb7_b1, nb8_b5, nb8_b4, nb8_b2, nb8_b1]
                    repeat refine And.intro (by omega) ?_
                    repeat refine And.intro (by omega) ?_
                    intro g
                    simp only [List.map_cons, List.map_nil, updL, upd, Nat.reduceEqDiff, if_true, if_false, ↓reduceIte]
                    refine hK _ _ ?_; clear hK K
                    refine Cd.rs [3, 8, 32, 33, 34, 35, 36, 37] fun K hK => ?_
                    simp (maxSteps := 2000000) (disch := first | (simp only [E4, xl, ol, xl1, ol1, xl2, ol2, xl3, ol3, xl4, ol4] <;> omega) | omega | fail) only [↓E2, E3, bare, bareJ, ↓E0, E1, env0, envN, evOps, evOp, evQs, evQ, evV, setD, pureOp, ev, upd, updL, extractV, cellAt, cellsAt, findB, setB, hav, ↓reduceIte, Zj, Zk, Nat.reduceAdd, Nat.reduceLT, Nat.reduceEqDiff, Nat.reduceMul, Nat.reduceLeDiff, if_true, Zn, reduceCtorEq, ZA, eq_self, Int.reduceLE, Int.reduceLT, Int.reduceToNat, ne_eq, Nat.reduceSub, Tld32, xl, ol, xl1, ol1, nb2_b1, nb3_b2, nb3_b1, xl2, ol2, nb4_b2, nb4_b1, xl3, ol3, nb5_b4, nb5_b2, nb5_b1, nb6_b5, nb6_b4, nb6_b2, nb6_b1, xl4, ol4, nb7_b5, nb7_b4, nb7_b2, nb7_b1, nb8_b5, nb8_b4, nb8_b2, nb8_b1]
                    repeat refine And.intro (by omega) ?_
                    refine callK_newR0 hC2 (fun _ _ => toldW_nil) ?_
                    rintro _ Mb ⟨v1, rfl, hmb⟩ ndb _
                    obtain ⟨a8, m8, cp8, rfl, em8⟩ := slsl_frm hmb
                    simp only [List.cons_append, List.nil_append]
                    simp (maxSteps := 2000000) (disch := first | (simp only [E4, xl, ol, xl1, ol1, xl2, ol2, xl3, ol3, xl4, ol4] <;> omega) | omega | fail) only [↓E2, E3, bare, bareJ, ↓E0, E1, env0, envN, evOps, evOp, evQs, evQ, evV, setD, pureOp, ev, upd, updL, extractV, cellAt, cellsAt, findB, setB, hav, ↓reduceIte, Zj, Zk, Nat.reduceAdd, Nat.reduceLT, Nat.reduceEqDiff, Nat.reduceMul, Nat.reduceLeDiff, if_true, Zn, reduceCtorEq, ZA, eq_self, Int.reduceLE, Int.reduceLT, Int.reduceToNat, ne_eq, Nat.reduceSub, Tld32, xl, ol, xl1, ol1, nb2_b1, nb3_b2, nb3_b1, xl2, ol2, nb4_b2, nb4_b1, xl3, ol3, nb5_b4, nb5_b2, nb5_b1, nb6_b5, nb6_b4, nb6_b2, nb6_b1, xl4, ol4, nb7_b5, nb7_b4, nb7_b2, nb7_b1, nb8_b5, nb8_b4, nb8_b2, nb8_b1]
                    repeat refine And.intro (by omega) ?_
                    repeat refine And.intro (by omega) ?_
                    intro g
                    simp only [List.map_cons, List.map_nil, updL, upd, Nat.reduceEqDiff, if_true, if_false, ↓reduceIte]
                    refine hK _ _ ?_; clear hK K
                    have emm : m7 = m8 := by omega
                    subst emm
                    clear em7 em8 z6 z5
                    refine Cd.rs [2] fun K hK => ?_
                    simp (maxSteps := 2000000) (disch := first | (simp only [E4, xl, ol, xl1, ol1, xl2, ol2, xl3, ol3, xl4, ol4] <;> omega) | omega | fail) only [↓E2, E3, bare, bareJ, ↓E0, E1, env0, envN, evOps, evOp, evQs, evQ, evV, setD, pureOp, ev, upd, updL, gate, binW, eqOp, binV, intOp, shOp, boolOp, cellAt, cellsAt, findB, setB, lenV, hav, eqL, SameI, strOp, ↓reduceIte, Zj, Zk, Nat.reduceAdd, Nat.reduceLT, Nat.reduceEqDiff, Nat.reduceMul, Nat.reduceLeDiff, if_true, Zn, reduceCtorEq, ZA, eq_self, Int.reduceLE, Int.reduceLT, Int.reduceToNat, ne_eq, Nat.reduceSub, Teqt32, Tld32, Tslce43, xl, ol, xl1, ol1, nb2_b1, nb3_b2, nb3_b1, xl2, ol2, nb4_b2, nb4_b1, xl3, ol3, nb5_b4, nb5_b2, nb5_b1, nb6_b5, nb6_b4, nb6_b2, nb6_b1, xl4, ol4, nb7_b5, nb7_b4, nb7_b2, nb7_b1, nb8_b5, nb8_b4, nb8_b2, nb8_b1]
                    repeat refine And.intro (by omega) ?_
                    refine callK_gives hI ?_
                    simp (maxSteps := 2000000) (disch := first | (simp only [E4, xl, ol, xl1, ol1, xl2, ol2, xl3, ol3, xl4, ol4] <;> omega) | omega | fail) only [↓E2, E3, bare, bareJ, ↓E0, E1, env0, envN, evOps, evOp, evQs, evQ, evV, setD, pureOp, ev, upd, updL, gate, binW, eqOp, binV, intOp, shOp, boolOp, cellAt, cellsAt, findB, setB, lenV, hav, eqL, SameI, strOp, ↓reduceIte, Zj, Zk, Nat.reduceAdd, Nat.reduceLT, Nat.reduceEqDiff, Nat.reduceMul, Nat.reduceLeDiff, if_true, Zn, reduceCtorEq, ZA, eq_self, Int.reduceLE, Int.reduceLT, Int.reduceToNat, ne_eq, Nat.reduceSub, Teqt32, Tld32, Tslce43, xl, ol, xl1, ol1, nb2_b1, nb3_b2, nb3_b1, xl2, ol2, nb4_b2, nb4_b1, xl3, ol3, nb5_b4, nb5_b2, nb5_b1, nb6_b5, nb6_b4, nb6_b2, nb6_b1, xl4, ol4, nb7_b5, nb7_b4, nb7_b2, nb7_b1, nb8_b5, nb8_b4, nb8_b2, nb8_b1]
                    repeat refine And.intro (by omega) ?_
                    apply guardX_and 2 [232, 233] (j := 2) (d := 231) (tp := 234) (tl := 233) rfl rfl rfl rfl rfl
                    · intro hq
                      simp (maxSteps := 2000000) (disch := first | (simp only [E4, xl, ol, xl1, ol1, xl2, ol2, xl3, ol3, xl4, ol4] <;> omega) | omega | fail) only [↓E2, E3, bare, bareJ, ↓E0, E1, env0, envN, evOps, evOp, evQs, evQ, evV, setD, pureOp, ev, upd, updL, gate, binW, eqOp, binV, intOp, shOp, boolOp, cellAt, cellsAt, findB, setB, lenV, hav, eqL, SameI, strOp, ↓reduceIte, Zj, Zk, Nat.reduceAdd, Nat.reduceLT, Nat.reduceEqDiff, Nat.reduceMul, Nat.reduceLeDiff, if_true, Zn, reduceCtorEq, ZA, eq_self, Int.reduceLE, Int.reduceLT, Int.reduceToNat, ne_eq, Nat.reduceSub, Teqt32, Tld32, Tslce43, xl, ol, xl1, ol1, nb2_b1, nb3_b2, nb3_b1, xl2, ol2, nb4_b2, nb4_b1, xl3, ol3, nb5_b4, nb5_b2, nb5_b1, nb6_b5, nb6_b4, nb6_b2, nb6_b1, xl4, ol4, nb7_b5, nb7_b4, nb7_b2, nb7_b1, nb8_b5, nb8_b4, nb8_b2, nb8_b1]
                      repeat refine And.intro (by omega) ?_
                      exact rfl
                    intro g
                    simp (maxSteps := 2000000) (disch := first | (simp only [E4, xl, ol, xl1, ol1, xl2, ol2, xl3, ol3, xl4, ol4] <;> omega) | omega | fail) only [↓E2, E3, bare, bareJ, ↓E0, E1, env0, envN, evOps, evOp, evQs, evQ, evV, setD, pureOp, ev, upd, updL, gate, binW, eqOp, binV, intOp, shOp, boolOp, cellAt, cellsAt, findB, setB, lenV, hav, eqL, SameI, strOp, ↓reduceIte, Zj, Zk, Nat.reduceAdd, Nat.reduceLT, Nat.reduceEqDiff, Nat.reduceMul, Nat.reduceLeDiff, if_true, Zn, reduceCtorEq, ZA, eq_self, Int.reduceLE, Int.reduceLT, Int.reduceToNat, ne_eq, Nat.reduceSub, Teqt32, Tld32, Tslce43, xl, ol, xl1, ol1, nb2_b1, nb3_b2, nb3_b1, xl2, ol2, nb4_b2, nb4_b1, xl3, ol3, nb5_b4, nb5_b2, nb5_b1, nb6_b5, nb6_b4, nb6_b2, nb6_b1, xl4, ol4, nb7_b5, nb7_b4, nb7_b2, nb7_b1, nb8_b5, nb8_b4, nb8_b2, nb8_b1]
                    repeat refine And.intro (by omega) ?_
                    apply guardX_and 3 [236, 237, 238] (j := 6) (d := 235) (tp := 239) (tl := 238) rfl rfl rfl rfl rfl
                    · intro hq
                      simp (maxSteps := 2000000) (disch := first | (simp only [E4, xl, ol, xl1, ol1, xl2, ol2, xl3, ol3, xl4, ol4] <;> omega) | omega | fail) only [↓E2, E3, bare, bareJ, ↓E0, E1, env0, envN, evOps, evOp, evQs, evQ, evV, setD, pureOp, ev, upd, updL, gate, binW, eqOp, binV, intOp, shOp, boolOp, cellAt, cellsAt, findB, setB, lenV, hav, eqL, SameI, strOp, ↓reduceIte, Zj, Zk, Nat.reduceAdd, Nat.reduceLT, Nat.reduceEqDiff, Nat.reduceMul, Nat.reduceLeDiff, if_true, Zn, reduceCtorEq, ZA, eq_self, Int.reduceLE, Int.reduceLT, Int.reduceToNat, ne_eq, Nat.reduceSub, Teqt32, Tld32, Tslce43, xl, ol, xl1, ol1, nb2_b1, nb3_b2, nb3_b1, xl2, ol2, nb4_b2, nb4_b1, xl3, ol3, nb5_b4, nb5_b2, nb5_b1, nb6_b5, nb6_b4, nb6_b2, nb6_b1, xl4, ol4, nb7_b5, nb7_b4, nb7_b2, nb7_b1, nb8_b5, nb8_b4, nb8_b2, nb8_b1]
                      repeat refine And.intro (by omega) ?_
                      exact rfl
                    intro g
                    simp (maxSteps := 2000000) (disch := first | (simp only [E4, xl, ol, xl1, ol1, xl2, ol2, xl3, ol3, xl4, ol4] <;> omega) | omega | fail) only [↓E2, E3, bare, bareJ, ↓E0, E1, env0, envN, evOps, evOp, evQs, evQ, evV, setD, pureOp, ev, upd, updL, gate, binW, eqOp, binV, intOp, shOp, boolOp, cellAt, cellsAt, findB, setB, lenV, hav, eqL, SameI, strOp, ↓reduceIte, Zj, Zk, Nat.reduceAdd, Nat.reduceLT, Nat.reduceEqDiff, Nat.reduceMul, Nat.reduceLeDiff, if_true, Zn, reduceCtorEq, ZA, eq_self, Int.reduceLE, Int.reduceLT, Int.reduceToNat, ne_eq, Nat.reduceSub, Teqt32, Tld32, Tslce43, xl, ol, xl1, ol1, nb2_b1, nb3_b2, nb3_b1, xl2, ol2, nb4_b2, nb4_b1, xl3, ol3, nb5_b4, nb5_b2, nb5_b1, nb6_b5, nb6_b4, nb6_b2, nb6_b1, xl4, ol4, nb7_b5, nb7_b4, nb7_b2, nb7_b1, nb8_b5, nb8_b4, nb8_b2, nb8_b1]
                    repeat refine And.intro (by omega) ?_
                    apply guardX_and 2 [241, 242] (j := 11) (d := 240) (tp := 243) (tl := 242) rfl rfl rfl rfl rfl
                    · intro hq
                      simp (maxSteps := 2000000) (disch := first | (simp only [E4, xl, ol, xl1, ol1, xl2, ol2, xl3, ol3, xl4, ol4] <;> omega) | omega | fail) only [↓E2, E3, bare, bareJ, ↓E0, E1, env0, envN, evOps, evOp, evQs, evQ, evV, setD, pureOp, ev, upd, updL, gate, binW, eqOp, binV, intOp, shOp, boolOp, cellAt, cellsAt, findB, setB, lenV, hav, eqL, SameI, strOp, ↓reduceIte, Zj, Zk, Nat.reduceAdd, Nat.reduceLT, Nat.reduceEqDiff, Nat.reduceMul, Nat.reduceLeDiff, if_true, Zn, reduceCtorEq, ZA, eq_self, Int.reduceLE, Int.reduceLT, Int.reduceToNat, ne_eq, Nat.reduceSub, Teqt32, Tld32, Tslce43, xl, ol, xl1, ol1, nb2_b1, nb3_b2, nb3_b1, xl2, ol2, nb4_b2, nb4_b1, xl3, ol3, nb5_b4, nb5_b2, nb5_b1, nb6_b5, nb6_b4, nb6_b2, nb6_b1, xl4, ol4, nb7_b5, nb7_b4, nb7_b2, nb7_b1, nb8_b5, nb8_b4, nb8_b2, nb8_b1]
                      repeat refine And.intro (by omega) ?_
                      exact rfl
                    intro g
                    simp (maxSteps := 2000000) (disch := first | (simp only [E4, xl, ol, xl1, ol1, xl2, ol2, xl3, ol3, xl4, ol4] <;> omega) | omega | fail) only [↓E2, E3, bare, bareJ, ↓E0, E1, env0, envN, evOps, evOp, evQs, evQ, evV, setD, pureOp, ev, upd, updL, gate, binW, eqOp, binV, intOp, shOp, boolOp, cellAt, cellsAt, findB, setB, lenV, hav, eqL, SameI, strOp, ↓reduceIte, Zj, Zk, Nat.reduceAdd, Nat.reduceLT, Nat.reduceEqDiff, Nat.reduceMul, Nat.reduceLeDiff, if_true, Zn, reduceCtorEq, ZA, eq_self, Int.reduceLE, Int.reduceLT, Int.reduceToNat, ne_eq, Nat.reduceSub, Teqt32, Tld32, Tslce43, xl, ol, xl1, ol1, nb2_b1, nb3_b2, nb3_b1, xl2, ol2, nb4_b2, nb4_b1, xl3, ol3, nb5_b4, nb5_b2, nb5_b1, nb6_b5, nb6_b4, nb6_b2, nb6_b1, xl4, ol4, nb7_b5, nb7_b4, nb7_b2, nb7_b1, nb8_b5, nb8_b4, nb8_b2, nb8_b1]
                    repeat refine And.intro (by omega) ?_
                    apply guardX_and 2 [245, 246] (j := 15) (d := 244) (tp := 247) (tl := 246) rfl rfl rfl rfl rfl
                    · intro hq
                      simp (maxSteps := 2000000) (disch := first | (simp only [E4, xl, ol, xl1, ol1, xl2, ol2, xl3, ol3, xl4, ol4] <;> omega) | omega | fail) only [↓E2, E3, bare, bareJ, ↓E0, E1, env0, envN, evOps, evOp, evQs, evQ, evV, setD, pureOp, ev, upd, updL, gate, binW, eqOp, binV, intOp, shOp, boolOp, cellAt, cellsAt, findB, setB, lenV, hav, eqL, SameI, strOp, ↓reduceIte, Zj, Zk, Nat.reduceAdd, Nat.reduceLT, Nat.reduceEqDiff, Nat.reduceMul, Nat.reduceLeDiff, if_true, Zn, reduceCtorEq, ZA, eq_self, Int.reduceLE, Int.reduceLT, Int.reduceToNat, ne_eq, Nat.reduceSub, Teqt32, Tld32, Tslce43, xl, ol, xl1, ol1, nb2_b1, nb3_b2, nb3_b1, xl2, ol2, nb4_b2, nb4_b1, xl3, ol3, nb5_b4, nb5_b2, nb5_b1, nb6_b5, nb6_b4, nb6_b2, nb6_b1, xl4, ol4, nb7_b5, nb7_b4, nb7_b2, nb7_b1, nb8_b5, nb8_b4, nb8_b2, nb8_b1]
                      repeat refine And.intro (by omega) ?_
                      exact rfl
                    intro g
                    simp (maxSteps := 2000000) (disch := first | (simp only [E4, xl, ol, xl1, ol1, xl2, ol2, xl3, ol3, xl4, ol4] <;> omega) | omega | fail) only [↓E2, E3, bare, bareJ, ↓E0, E1, env0, envN, evOps, evOp, evQs, evQ, evV, setD, pureOp, ev, upd, updL, gate, binW, eqOp, binV, intOp, shOp, boolOp, cellAt, cellsAt, findB, setB, lenV, hav, eqL, SameI, strOp, ↓reduceIte, Zj, Zk, Nat.reduceAdd, Nat.reduceLT, Nat.reduceEqDiff, Nat.reduceMul, Nat.reduceLeDiff, if_true, Zn, reduceCtorEq, ZA, eq_self, Int.reduceLE, Int.reduceLT, Int.reduceToNat, ne_eq, Nat.reduceSub, Teqt32, Tld32, Tslce43, xl, ol, xl1, ol1, nb2_b1, nb3_b2, nb3_b1, xl2, ol2, nb4_b2, nb4_b1, xl3, ol3, nb5_b4, nb5_b2, nb5_b1, nb6_b5, nb6_b4, nb6_b2, nb6_b1, xl4, ol4, nb7_b5, nb7_b4, nb7_b2, nb7_b1, nb8_b5, nb8_b4, nb8_b2, nb8_b1]
                    repeat refine And.intro (by omega) ?_
                    apply guardX_and 5 [249, 250, 251, 252, 253] (j := 19) (d := 248) (tp := 254) (tl := 253) rfl rfl rfl rfl rfl
                    · intro hq
                      simp (maxSteps := 2000000) (disch := first | (simp only [E4, xl, ol, xl1, ol1, xl2, ol2, xl3, ol3, xl4, ol4] <;> omega) | omega | fail) only [↓E2, E3, bare, bareJ, ↓E0, E1, env0, envN, evOps, evOp, evQs, evQ, evV, setD, pureOp, ev, upd, updL, gate, binW, eqOp, binV, intOp, shOp, boolOp, cellAt, cellsAt, findB, setB, lenV, hav, eqL, SameI, strOp, ↓reduceIte, Zj, Zk, Nat.reduceAdd, Nat.reduceLT, Nat.reduceEqDiff, Nat.reduceMul, Nat.reduceLeDiff, if_true, Zn, reduceCtorEq, ZA, eq_self, Int.reduceLE, Int.reduceLT, Int.reduceToNat, ne_eq, Nat.reduceSub, Teqt32, Tld32, Tslce43, xl, ol, xl1, ol1, nb2_b1, nb3_b2, nb3_b1, xl2, ol2, nb4_b2, nb4_b1, xl3, ol3, nb5_b4, nb5_b2, nb5_b1, nb6_b5, nb6_b4, nb6_b2, nb6_b1, xl4, ol4, nb7_b5, nb7_b4, nb7_b2, nb7_b1, nb8_b5, nb8_b4, nb8_b2, nb8_b1]
                      repeat refine And.intro (by omega) ?_
                      exact rfl
                    intro g
                    simp (maxSteps := 2000000) (disch := first | (simp only [E4, xl, ol, xl1, ol1, xl2, ol2, xl3, ol3, xl4, ol4] <;> omega) | omega | fail) only [↓E2, E3, bare, bareJ, ↓E0, E1, env0, envN, evOps, evOp, evQs, evQ, evV, setD, pureOp, ev, upd, updL, gate, binW, eqOp, binV, intOp, shOp, boolOp, cellAt, cellsAt, findB, setB, lenV, hav, eqL, SameI, strOp, ↓reduceIte, Zj, Zk, Nat.reduceAdd, Nat.reduceLT, Nat.reduceEqDiff, Nat.reduceMul, Nat.reduceLeDiff, if_true, Zn, reduceCtorEq, ZA, eq_self, Int.reduceLE, Int.reduceLT, Int.reduceToNat, ne_eq, Nat.reduceSub, Teqt32, Tld32, Tslce43, xl, ol, xl1, ol1, nb2_b1, nb3_b2, nb3_b1, xl2, ol2, nb4_b2, nb4_b1, xl3, ol3, nb5_b4, nb5_b2, nb5_b1, nb6_b5, nb6_b4, nb6_b2, nb6_b1, xl4, ol4, nb7_b5, nb7_b4, nb7_b2, nb7_b1, nb8_b5, nb8_b4, nb8_b2, nb8_b1]
                    repeat refine And.intro (by omega) ?_
                    repeat refine And.intro (by omega) ?_
                    intro g
                    simp only [List.map_cons, List.map_nil, updL, upd, Nat.reduceEqDiff, if_true, if_false, ↓reduceIte]
                    refine hK _ _ ?_; clear hK K
                    refine Cd.ret ?_
                    simp (maxSteps := 2000000) (disch := first | (simp only [E4, xl, ol, xl1, ol1, xl2, ol2, xl3, ol3, xl4, ol4] <;> omega) | omega | fail) only [↓E2, E3, bare, bareJ, ↓E0, E1, evP, evPlan, env0, envN, evOps, evOp, evQs, evQ, evV, setD, pureOp, ev, upd, updL, gate, binW, eqOp, binV, intOp, shOp, boolOp, unV, convV, nilV, fieldAddrV, indexAddrV, extractV, cellAt, cellsAt, findB, setB, fillL, buildV, Value.cells, lenV, minV, maxV, hav, sliceV, loV, hiV, bslQ, mksQ, appQ, partsOk, partsCells, delB, eqL, SameI, strOp, apzQ, cvtQ, capV, ↓reduceIte, Zj, Zk, Nat.reduceAdd, Nat.reduceLT, Nat.reduceEqDiff, Nat.reduceMul, Nat.reduceLeDiff, if_true, Zn, reduceCtorEq, ZA, eq_self, Int.reduceLE, Int.reduceLT, Int.reduceToNat, ne_eq, Nat.reduceSub, xl, ol, xl1, ol1, nb2_b1, nb3_b2, nb3_b1, xl2, ol2, nb4_b2, nb4_b1, xl3, ol3, nb5_b4, nb5_b2, nb5_b1, nb6_b5, nb6_b4, nb6_b2, nb6_b1, xl4, ol4, nb7_b5, nb7_b4, nb7_b2, nb7_b1, nb8_b5, nb8_b4, nb8_b2, nb8_b1]
                    repeat refine And.intro (by omega) ?_
                    simp
end

end Go.Proofs

/-
  What the functions of this part hand back: each as a plain function of its arguments. Conditions: none.
-/
namespace Go.Proofs
open Go.W8
set_option linter.unusedVariables false
set_option linter.unusedSimpArgs false
set_option linter.unusedSectionVars false
set_option maxRecDepth 8000
set_option maxHeartbeats 4000000
--@plain
open Go.ChangeShapes Go.WideShapes Go.ChangeAt Go.RowKit in
/-- A law that hands back a value of numbers and truths and leaves what was there as it was meets its row's postcondition. -/
theorem post_own {H : Type} {enc : TypeId × Value → H} {P : Program} {f : Func} {s : ChangeSpec} {apart fresh handsOn again : Bool} {w w' : World} {args : Array Value} {v : Value} {ds gs : List (DataW H)} {before pa pv : List MemPlace}
    (hW : DataW.Whole enc P f.params.toList s.vars apart w args.toList ds gs before)
    (hres : ∀ (b : Nat) (sp : Nat → Bool) (hd : Bool), DataW.TrodAll enc P w' b sp hd f.resultTypes.toList (v.resultList f.resultTypes.size) (s.fn H (ds ++ gs)).results [])
    (hargs : ∀ sp : Nat → Bool, (∀ p ∈ before, sp p.block = true) → DataW.TrodAll enc P w' 0 sp true f.params.toList args.toList (s.fn H (ds ++ gs)).args pa)
    (hvars : ∀ sp : Nat → Bool, (∀ p ∈ before, sp p.block = true) → DataW.TrodVars enc P w' sp s.vars (s.fn H (ds ++ gs)).vars pv)
    (hps : before = pa ++ pv) (ho : Own [] w [] w')
    (hok : ∀ (j : Nat) (t : TypeId) (r : Value), f.resultTypes[j]? = some t → (v.resultList f.resultTypes.size)[j]? = some r → Value.okWide P w' .any 0 t r) :
    s.post enc P f apart fresh handsOn again w args v w' := by
  have hb : Below w.heap.size w w' := ⟨ho.os, ho.tape, ho.output, ho.size, fun k hk => ho.frame k hk (by simp)⟩
  have old : ∀ p ∈ before, p.block < w.heap.size := fun p hp => hW.lt p hp
  have told : ∀ p ∈ before, (fun b => decide (b < w.heap.size)) p.block = true := fun p hp => decide_eq_true (old p hp)
  refine ⟨ds, gs, before, [], pa, pv, hW, hres _ _ _, hargs _ told, hvars _ told, ?_, fun _ => ?_⟩
  · exact World.keptBut_mono (fun p hp => ⟨hp, by
      rw [hps] at hp
      exact List.mem_append.1 hp |>.elim (fun h => by simp [h]) (fun h => by simp [h])⟩) (hb.frame (· ∈ before))
  · obtain ⟨_, _, _, _, _, hz, hn⟩ := hW
    refine ⟨hok, _, _, ([] ++ pa) ++ pv, ⟨[] ++ pa, pv, trodAll_append (hargs _ (fun _ _ => rfl)) (hres _ _ _), hvars _ (fun _ _ => rfl), rfl, fun b off hp => ?_, fun ha => ?_⟩, fun p hp _ => ?_⟩
    · have hin : MemPlace.cell b off ∈ before := by rw [hps]; simpa using hp
      rw [hb.frozen (old _ hin)]
      exact hz b off hin
    · have h1 := hn ha
      rw [hps] at h1
      simpa using h1
    · rw [hps]
      simpa using hp

end Go.Proofs

/-
  What the functions of this part hand back: each as a plain function of its arguments. Conditions: none.
-/
namespace Go.Proofs
open Go.W8
set_option linter.unusedVariables false
set_option linter.unusedSimpArgs false
set_option linter.unusedSectionVars false
set_option maxRecDepth 8000
set_option maxHeartbeats 4000000
--@plain
section
variable {H : Type} {enc : TypeId × Value → H} {P : Program} {w : World}
theorem open_bytesS {t e : TypeId} (ht : P.underlying t = some (.slice e)) (he : P.underlying e = some (.int .u8)) (hc : P.cellsOf e = 1) {r : Reach} {b0 : Nat} {v : Value} {d : DataW H} {p : List MemPlace} (hv : Value.okWide P w r b0 t v) (h : DataW.Trod enc P w 0 (fun _ => true) true t v d p) :
    ∃ (l : List Int) (R : Rd), (∀ k, k < l.length → 0 ≤ l.getD k 0 ∧ l.getD k 0 < 256) ∧ l.length ≤ 9223372036854775807 ∧ InB R l v ∧ (∀ r ∈ R, r.2.2 ≠ []) ∧ ToldW w R ∧
      ∀ (w' : World) (sp : Nat → Bool), Own [] w [] w' → (∀ q ∈ p, sp q.block = true) → DataW.Trod enc P w' 0 sp true t v d p := by
  obtain ⟨fuel, hf⟩ := h
  have hok : Cell.okWide P w r b0 t v := by
    unfold Value.okWide at hv
    rw [ht] at hv
    exact hv
  have hspot : ∀ a len cap, v = .slice (some a) len cap → a.spot = none := by
    rintro a len cap rfl
    unfold Cell.okWide at hok
    rw [ht] at hok
    unfold Cell.ok at hok
    simp only [ht] at hok
    exact hok.2.2.2.1
  have hag : ∀ cs, v ≠ .agg cs := by
    rintro cs rfl
    unfold Cell.okWide at hok
    rw [ht] at hok
    unfold Cell.ok at hok
    simp only [ht] at hok
  have hcells : v.cells.toList = [v] := by
    cases v with
    | agg cs => exact absurd rfl (hag cs)
    | _ => rfl
  rw [hcells] at hf
  rcases Go.ChangeShapes.open_ints ht he hc hf with ⟨hcs, e2⟩ | ⟨a, len, cap, zs, hcs, hb, hlc, hcm, hzl, e2, hcell, hwf⟩
  · simp only [List.cons.injEq, and_true] at hcs
    subst hcs
    simp only [Prod.mk.injEq] at e2
    obtain ⟨rfl, rfl⟩ := e2
    refine ⟨[], [], (fun k hk => by simp at hk), by simp, ⟨none, 0, rfl, fun h => absurd rfl h⟩, (fun _ h => nomatch h), toldW_nil, fun w' sp ho hsp => ⟨1, ?_⟩⟩
    rw [hcells]
    unfold DataW.trod
    simp [ht]
  · simp only [List.cons.injEq, and_true] at hcs
    subst hcs
    obtain ⟨b, off, spot⟩ := a
    have : spot = none := hspot _ _ _ rfl
    subst this
    simp only [if_true] at hzl
    simp only [Prod.mk.injEq] at e2
    obtain ⟨rfl, rfl⟩ := e2
    have hlen : (zs.take len).length = len := by rw [List.length_take]; omega
    refine ⟨zs.take len, if len = 0 then [] else [(b, off, ints .u8 (zs.take len))], ?_, by rw [hlen]; simp only [maxLen] at hcm; omega, ⟨some ⟨b, off, none⟩, cap, by rw [hlen], fun h0 => ⟨b, off, rfl, ?_⟩⟩, ?_, ?_, fun w' sp ho hsp => ⟨2, ?_⟩⟩
    · intro k hk
      have hm : (zs.take len).getD k 0 ∈ zs := by
        rw [List.getD_eq_getElem?_getD, List.getElem?_eq_getElem hk]
        exact List.mem_of_mem_take (List.getElem_mem hk)
      exact wf_u8.1 (hwf _ hm)
    · rw [if_neg (by omega)]; exact List.mem_singleton.2 rfl
    · intro r hr
      split at hr
      · cases hr
      · rw [List.mem_singleton.1 hr]
        intro e
        have := congrArg List.length e
        rw [ints_length, hlen] at this
        exact absurd this (by assumption)
    · intro r hr j u hu
      split at hr
      · cases hr
      rw [List.mem_singleton.1 hr] at hu ⊢
      simp only at hu ⊢
      have hj : j < len := by
        rcases Nat.lt_or_ge j len with h1 | h1
        · exact h1
        · rw [List.getElem?_eq_none (by rw [ints_length, hlen]; exact h1)] at hu; cases hu
      rw [ints_get (by rw [hlen]; exact hj)] at hu
      cases hu
      have := hcell j (by omega)
      rw [Addr.add_lit] at this
      rw [this]
      simp [List.getD_eq_getElem?_getD, List.getElem?_take, hj]
    · have hblk : ∀ i, i < zs.length → w'.cell? ((⟨b, off, none⟩ : Addr).add i) = some (.int .u8 (zs.getD i 0)) := by
        intro i hi
        have h1 := hcell i hi
        have hbs : b < w.heap.size := by
          rw [Addr.add_lit] at h1
          exact cell_lt h1
        rw [Addr.add_lit] at h1 ⊢
        unfold World.cell? at h1 ⊢
        simp only at h1 ⊢
        rw [ho.frame b hbs (by simp)]
        exact h1
      rw [hcells]
      refine Go.ChangeShapes.shut_ints 0 ht he hc (Nat.zero_le _) hlc hcm ?_ hblk hwf
      by_cases hc0 : cap = 0
      · split <;> omega
      · have hin : ∃ q ∈ MemPlace.row ⟨b, off, none⟩ zs.length, q.block = b := by
          refine ⟨.cell b off, ?_, rfl⟩
          unfold MemPlace.row
          simp only [List.mem_map, List.mem_range]
          exact ⟨0, by omega, rfl⟩
        obtain ⟨q, hq, rfl⟩ := hin
        rw [hsp q hq]
        exact hzl
end

end Go.Proofs

