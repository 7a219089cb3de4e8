/-
  What the functions of this part hand back: each as a plain function of its arguments. Conditions: none.
-/
import Derived.Test.YtdfddcfgagfdoaaM1
import Derived.Test.YtdfddcfgagfdoaaM2
namespace Go.Proofs
open Go.W8
set_option linter.unusedVariables false
set_option linter.unusedSimpArgs false
set_option linter.unusedSectionVars false
set_option maxRecDepth 8000
set_option maxHeartbeats 4000000
def backR (n : Nat) (x o : List Int) (i : Nat) (r : Int) : Value :=
  match bkFind x o i r with
  | some k => .tuple #[.agg (gc ((n : Int) - 1) (oldX x i r n k) (oldX o i r n k)).toArray, .agg #[.int .i64 2, .int .i64 (i : Int), .int .i64 0, .int .i64 ((k % 2 : Nat) : Int), .int .i64 ((k / 2 % 2 : Nat) : Int), .int .i64 ((k / 4 : Nat) : Int)], .bool true]
  | none => .tuple #[.agg (gc 0 z8 z8).toArray, .agg #[.int .i64 0, .int .i64 0, .int .i64 0, .int .i64 0, .int .i64 0, .int .i64 0], .bool false]
def ownM (m : Nat) (x o : List Int) : List Int := if m = 0 then x else o
theorem ownM_bytes {m : Nat} {x o : List Int} (hx : Bytes8 x) (ho : Bytes8 o) : Bytes8 (ownM m x o) := by
  unfold ownM
  split
  · exact hx
  · exact ho
theorem bk_back {x o : List Int} {i m rt u : Nat} {r : Int} (hm : m ≤ 1) (hrt : rt ≤ 1) (hu : u ≤ 1) : bk x o i r (m + 2 * rt + 4 * u) = decide (Back (ownM m x o) (ownM m o x) i r rt u) := by
  have e1 : (m + 2 * rt + 4 * u) % 2 = m := by omega
  have e2 : (m + 2 * rt + 4 * u) / 2 % 2 = rt := by omega
  have e3 : (m + 2 * rt + 4 * u) / 4 = u := by omega
  unfold bk ownM
  rw [e1, e2, e3]
  by_cases h : m = 0
  · rw [if_pos h, if_pos h, if_pos h]
  · rw [if_neg h, if_neg h, if_neg h]
theorem bytes_set {x : List Int} (hx : Bytes8 x) {i : Nat} {v : Int} (h0 : 0 ≤ v) (h1 : v < 256) : Bytes8 (x.set i v) := by
  refine ⟨by rw [List.length_set]; exact hx.len, fun a ha => ?_, fun a ha => ?_⟩
  · rcases List.mem_or_eq_of_mem_set ha with h | rfl
    · exact hx.lo a h
    · exact h0
  · rcases List.mem_or_eq_of_mem_set ha with h | rfl
    · exact hx.hi a h
    · exact h1

section
variable (n : Nat) (x o : List Int) (hx : Bytes8 x) (ho : Bytes8 o) (hn : n ≤ 8) (px : IsPerm x n) (po : IsPerm o n) (hd : ∀ c, c < n → x.getD c 0 ≠ o.getD c 0) (i : Nat) (hi : i + 1 < n) (r : Int) (hr0 : 0 ≤ r) (hr : r + 1 < n)
include hx ho hn px po hd hi hr0 hr
theorem bk_small (h3 : n < 3) : bkFind x o i r = none := by
  refine bkFind_none fun k hk => ?_
  have h0 : ∀ c, c < n → 0 ≤ x.getD c 0 := fun c hc => (bytes_get hx (by omega)).1
  have h0' : ∀ c, c < n → 0 ≤ o.getD c 0 := fun c hc => (bytes_get ho (by omega)).1
  cases hb : bk x o i r k with
  | false => rfl
  | true =>
    exfalso
    unfold bk at hb
    split at hb
    · have := back_three hx.len ho.len hn px po h0 h0' hd hi hr0 hr hk px po h0 h0' (by omega) (by omega) (of_decide_eq_true hb)
      omega
    · have := back_three hx.len ho.len hn px po h0 h0' hd hi hr0 hr hk po px h0' h0 (by omega) (by omega) (of_decide_eq_true hb)
      omega

theorem l02Back_c : Gives Try.prog 96 #[.agg (gc (n : Int) x o).toArray, .int .i64 (i : Int), .int .i64 r] (backR n x o i r) := by
  have hl := hx.len
  have hm := ho.len
  have h0 : ∀ c, c < n → 0 ≤ x.getD c 0 := fun c hc => (bytes_get hx (by omega)).1
  have h0' : ∀ c, c < n → 0 ≤ o.getD c 0 := fun c hc => (bytes_get ho (by omega)).1
  skip
  refine Gives.of fun w => ?_
  refine acall_of (N := 130) (c := _) (rs := [.cell 6 32, .cell 7 93, .tmp 8]) (args := [_, _, _]) Try.func96 rfl (by decide) rfl rfl (Nat.le_of_ble_eq_true rfl) ?_
  refine Cd.rs [1, 2, 3, 6, 7] fun K hK => ?_
  simp (maxSteps := 2000000) (disch := first | (simp only [E4, hl, hm] <;> omega) | omega | fail) only [↓E2, E3, bare, bareJ, ↓E0, E1, env0, envN, evOps, evOp, evQs, evQ, evV, setD, pureOp, ev, upd, updL, Value.cells, hav, ↓reduceIte, Zj, Zk, Nat.reduceAdd, Nat.reduceLT, Nat.reduceEqDiff, Nat.reduceMul, Nat.reduceLeDiff, if_true, Zn, reduceCtorEq, ZA, eq_self, Int.reduceLE, Int.reduceLT, Int.reduceToNat, ne_eq, Nat.reduceSub, Tzero32, Tzero93, hl, hm]
  repeat refine And.intro (by omega) ?_
  intro b1 hb1
  intro b2 hb2
  have nb2_b1 := hb2.ne
  intro b3 hb3
  have nb3_b2 := hb3.ne
  have nb3_b1 := hb3.tail.ne
  try simp (maxSteps := 2000000) (disch := first | (simp only [E4, hl, hm] <;> omega) | omega | fail) only [↓E2, E3, bare, bareJ, ↓E0, E1, env0, envN, evOps, evOp, evQs, evQ, evV, setD, pureOp, ev, upd, updL, Value.cells, hav, ↓reduceIte, Zj, Zk, Nat.reduceAdd, Nat.reduceLT, Nat.reduceEqDiff, Nat.reduceMul, Nat.reduceLeDiff, if_true, Zn, reduceCtorEq, ZA, eq_self, Int.reduceLE, Int.reduceLT, Int.reduceToNat, ne_eq, Nat.reduceSub, Tzero32, Tzero93, hl, hm, nb2_b1, nb3_b2, nb3_b1]
  repeat refine And.intro (by omega) ?_
  intro g
  simp only [List.map_cons, List.map_nil, updL, upd, Nat.reduceEqDiff, if_true, if_false, ↓reduceIte]
  refine hK _ _ ?_; clear hK K
  refine Cd.seq ?_
  refine Cd.rs [1, 2, 3, 6, 7, 17] fun K hK => ?_
  simp (maxSteps := 2000000) (disch := first | (simp only [E4, hl, hm] <;> omega) | omega | fail) only [↓E2, E3, bare, bareJ, ↓E0, E1, env0, envN, evOps, evOp, evQs, evQ, evV, setD, pureOp, ev, upd, updL, binW, eqOp, binV, intOp, shOp, boolOp, fieldAddrV, cellAt, cellsAt, findB, hav, eqL, SameI, strOp, ↓reduceIte, Zj, Zk, Nat.reduceAdd, Nat.reduceLT, Nat.reduceEqDiff, Nat.reduceMul, Nat.reduceLeDiff, if_true, Zn, reduceCtorEq, ZA, eq_self, Int.reduceLE, Int.reduceLT, Int.reduceToNat, ne_eq, Nat.reduceSub, Tfld32_0, Tld2, hl, hm, nb2_b1, nb3_b2, nb3_b1]
  repeat refine And.intro (by omega) ?_
  intro g
  simp only [List.map_cons, List.map_nil, updL, upd, Nat.reduceEqDiff, if_true, if_false, ↓reduceIte]
  refine hK _ _ ?_; clear hK K
  refine Cd.condd rfl (fun h1 => ?_) (fun h1 => ?_)
  · refine Cd.rs [6, 7, 8] fun K hK => ?_
    simp (maxSteps := 2000000) (disch := first | (simp only [E4, hl, hm] <;> omega) | omega | fail) only [↓E2, E3, bare, bareJ, ↓E0, E1, evP, env0, envN, evOps, evOp, evQs, evQ, evV, setD, pureOp, ev, upd, updL, cellAt, cellsAt, findB, setB, fillL, buildV, Value.cells, hav, ↓reduceIte, Zj, Zk, Nat.reduceAdd, Nat.reduceLT, Nat.reduceEqDiff, Nat.reduceMul, Nat.reduceLeDiff, if_true, Zn, reduceCtorEq, ZA, eq_self, Int.reduceLE, Int.reduceLT, Int.reduceToNat, ne_eq, Nat.reduceSub, Tbld32, Tbld93, Tst32, Tst93, hl, hm, nb2_b1, nb3_b2, nb3_b1]
    repeat refine And.intro (by omega) ?_
    intro g
    simp only [List.map_cons, List.map_nil, updL, upd, Nat.reduceEqDiff, if_true, if_false, ↓reduceIte]
    refine hK _ _ ?_; clear hK K
    refine Cd.ret (thenR ?_)
    simp (maxSteps := 2000000) (disch := first | (simp only [E4, hl, hm] <;> omega) | omega | fail) only [↓E2, E3, bare, bareJ, ↓E0, E1, evP, evPlan, env0, envN, evOps, evOp, evQs, evQ, evV, setD, pureOp, ev, upd, updL, gate, binW, eqOp, binV, intOp, shOp, boolOp, unV, convV, nilV, fieldAddrV, indexAddrV, extractV, cellAt, cellsAt, findB, setB, fillL, buildV, Value.cells, lenV, minV, maxV, hav, sliceV, loV, hiV, bslQ, mksQ, appQ, partsOk, partsCells, delB, eqL, SameI, strOp, apzQ, cvtQ, capV, ↓reduceIte, Zj, Zk, Nat.reduceAdd, Nat.reduceLT, Nat.reduceEqDiff, Nat.reduceMul, Nat.reduceLeDiff, if_true, Zn, reduceCtorEq, ZA, eq_self, Int.reduceLE, Int.reduceLT, Int.reduceToNat, ne_eq, Nat.reduceSub, Tld32, Tld93, hl, hm, nb2_b1, nb3_b2, nb3_b1]
    unfold backR
    rw [bk_small n x o hx ho hn px po hd i hi r hr0 hr (by omega)]
  · refine Cd.skip ?_
    refine thenN ?_
    refine Cd.seq ?_
    refine Cd.rs [1, 2, 3, 6, 7, 9] fun K hK => ?_
    simp (maxSteps := 2000000) (disch := first | (simp only [E4, hl, hm] <;> omega) | omega | fail) only [↓E2, E3, bare, bareJ, ↓E0, E1, env0, envN, evOps, evOp, evQs, evQ, evV, setD, pureOp, ev, upd, updL, hav, ↓reduceIte, Zj, Zk, Nat.reduceAdd, Nat.reduceLT, Nat.reduceEqDiff, Nat.reduceMul, Nat.reduceLeDiff, if_true, Zn, reduceCtorEq, ZA, eq_self, Int.reduceLE, Int.reduceLT, Int.reduceToNat, ne_eq, Nat.reduceSub, hl, hm, nb2_b1, nb3_b2, nb3_b1]
    repeat refine And.intro (by omega) ?_
    intro g
    simp only [List.map_cons, List.map_nil, updL, upd, Nat.reduceEqDiff, if_true, if_false, ↓reduceIte]
    refine hK _ _ ?_; clear hK K
    refine Cd.block ?_
    refine Cd.loop (fun q ρ M => ∃ g m, m + q = 2 ∧ (∀ m' rt u, m' < m → rt ≤ 1 → u ≤ 1 → bk x o i r (m' + 2 * rt + 4 * u) = false) ∧ ρ = updL ([(1, .int .i64 (i : Int)), (2, .int .i64 r), (3, .pointer (some ⟨b1, 0, none⟩)), (6, .pointer (some ⟨b2, 0, none⟩)), (7, .pointer (some ⟨b3, 0, none⟩)), (9, .int .i64 (m : Int))]) g ∧ List.Sublist [(b3, [.int .i64 0, .int .i64 0, .int .i64 0, .int .i64 0, .int .i64 0, .int .i64 0]), (b2, gc 0 z8 z8), (b1, gc (n : Int) x o)] M) 2 ⟨_, 0, Nat.zero_add _, (fun _ _ _ h => absurd h (Nat.not_lt_zero _)), rfl, List.Sublist.refl _⟩ ?_
    rintro q ρ M ⟨g, m, hq, hno, rfl, hM⟩
    refine Cd.drop hM ?_
    clear hM M
    refine Cd.seq ?_
    refine Cd.rs [1, 2, 3, 6, 7, 9, 21] fun K hK => ?_
    simp (maxSteps := 2000000) (disch := first | (simp only [E4, hl, hm] <;> omega) | omega | fail) only [↓E2, E3, bare, bareJ, ↓E0, E1, env0, envN, evOps, evOp, evQs, evQ, evV, setD, pureOp, ev, upd, updL, binW, eqOp, binV, intOp, shOp, boolOp, hav, eqL, SameI, strOp, ↓reduceIte, Zj, Zk, Nat.reduceAdd, Nat.reduceLT, Nat.reduceEqDiff, Nat.reduceMul, Nat.reduceLeDiff, if_true, Zn, reduceCtorEq, ZA, eq_self, Int.reduceLE, Int.reduceLT, Int.reduceToNat, ne_eq, Nat.reduceSub, hl, hm, nb2_b1, nb3_b2, nb3_b1]
    repeat refine And.intro (by omega) ?_
    intro g
    simp only [List.map_cons, List.map_nil, updL, upd, Nat.reduceEqDiff, if_true, if_false, ↓reduceIte]
    refine hK _ _ ?_; clear hK K
    refine Cd.condd rfl (fun h2 => ?_) (fun h2 => ?_)
    · have hm1 : m ≤ 1 := by omega
      refine Cd.skip ?_
      refine thenN ?_
      refine Cd.seq ?_
      refine Cd.block ?_
      refine Cd.rs [1, 2, 3, 6, 7, 9, 10] fun K hK => ?_
      simp (maxSteps := 2000000) (disch := first | (simp only [E4, hl, hm] <;> omega) | omega | fail) only [↓E2, E3, bare, bareJ, ↓E0, E1, env0, envN, evOps, evOp, evQs, evQ, evV, setD, pureOp, ev, upd, updL, hav, ↓reduceIte, Zj, Zk, Nat.reduceAdd, Nat.reduceLT, Nat.reduceEqDiff, Nat.reduceMul, Nat.reduceLeDiff, if_true, Zn, reduceCtorEq, ZA, eq_self, Int.reduceLE, Int.reduceLT, Int.reduceToNat, ne_eq, Nat.reduceSub, hl, hm, nb2_b1, nb3_b2, nb3_b1]
      repeat refine And.intro (by omega) ?_
      intro g
      simp only [List.map_cons, List.map_nil, updL, upd, Nat.reduceEqDiff, if_true, if_false, ↓reduceIte]
      refine hK _ _ ?_; clear hK K
      refine Cd.block ?_
      refine Cd.loop (fun q ρ M => ∃ g rt, rt + q = 2 ∧ (∀ rt' u, rt' < rt → u ≤ 1 → bk x o i r (m + 2 * rt' + 4 * u) = false) ∧ ρ = updL ([(1, .int .i64 (i : Int)), (2, .int .i64 r), (3, .pointer (some ⟨b1, 0, none⟩)), (6, .pointer (some ⟨b2, 0, none⟩)), (7, .pointer (some ⟨b3, 0, none⟩)), (9, .int .i64 (m : Int)), (10, .int .i64 (rt : Int))]) g ∧ List.Sublist [(b3, [.int .i64 0, .int .i64 0, .int .i64 0, .int .i64 0, .int .i64 0, .int .i64 0]), (b2, gc 0 z8 z8), (b1, gc (n : Int) x o)] M) 2 ⟨_, 0, Nat.zero_add _, (fun _ _ h => absurd h (Nat.not_lt_zero _)), rfl, List.Sublist.refl _⟩ ?_
      rintro q2 ρ M ⟨g, rt, hq2, hno2, rfl, hM⟩
      refine Cd.drop hM ?_
      clear hM M
      refine Cd.seq ?_
      refine Cd.rs [1, 2, 3, 6, 7, 9, 10, 25] fun K hK => ?_
      simp (maxSteps := 2000000) (disch := first | (simp only [E4, hl, hm] <;> omega) | omega | fail) only [↓E2, E3, bare, bareJ, ↓E0, E1, env0, envN, evOps, evOp, evQs, evQ, evV, setD, pureOp, ev, upd, updL, binW, eqOp, binV, intOp, shOp, boolOp, hav, eqL, SameI, strOp, ↓reduceIte, Zj, Zk, Nat.reduceAdd, Nat.reduceLT, Nat.reduceEqDiff, Nat.reduceMul, Nat.reduceLeDiff, if_true, Zn, reduceCtorEq, ZA, eq_self, Int.reduceLE, Int.reduceLT, Int.reduceToNat, ne_eq, Nat.reduceSub, hl, hm, nb2_b1, nb3_b2, nb3_b1]
      repeat refine And.intro (by omega) ?_
      intro g
      simp only [List.map_cons, List.map_nil, updL, upd, Nat.reduceEqDiff, if_true, if_false, ↓reduceIte]
      refine hK _ _ ?_; clear hK K
      refine Cd.condd rfl (fun h3 => ?_) (fun h3 => ?_)
      · have hrt : rt ≤ 1 := by omega
        refine Cd.skip ?_
        refine thenN ?_
        refine Cd.seq ?_
        refine Cd.block ?_
        refine Cd.rs [1, 2, 3, 6, 7, 9, 10, 11] fun K hK => ?_
        simp (maxSteps := 2000000) (disch := first | (simp only [E4, hl, hm] <;> omega) | omega | fail) only [↓E2, E3, bare, bareJ, ↓E0, E1, env0, envN, evOps, evOp, evQs, evQ, evV, setD, pureOp, ev, upd, updL, hav, ↓reduceIte, Zj, Zk, Nat.reduceAdd, Nat.reduceLT, Nat.reduceEqDiff, Nat.reduceMul, Nat.reduceLeDiff, if_true, Zn, reduceCtorEq, ZA, eq_self, Int.reduceLE, Int.reduceLT, Int.reduceToNat, ne_eq, Nat.reduceSub, hl, hm, nb2_b1, nb3_b2, nb3_b1]
        repeat refine And.intro (by omega) ?_
        intro g
        simp only [List.map_cons, List.map_nil, updL, upd, Nat.reduceEqDiff, if_true, if_false, ↓reduceIte]
        refine hK _ _ ?_; clear hK K
        refine Cd.block ?_
        refine Cd.loop (fun q ρ M => ∃ g u, u + q = 2 ∧ (∀ u', u' < u → bk x o i r (m + 2 * rt + 4 * u') = false) ∧ ρ = updL ([(1, .int .i64 (i : Int)), (2, .int .i64 r), (3, .pointer (some ⟨b1, 0, none⟩)), (6, .pointer (some ⟨b2, 0, none⟩)), (7, .pointer (some ⟨b3, 0, none⟩)), (9, .int .i64 (m : Int)), (10, .int .i64 (rt : Int)), (11, .int .i64 (u : Int))]) g ∧ List.Sublist [(b3, [.int .i64 0, .int .i64 0, .int .i64 0, .int .i64 0, .int .i64 0, .int .i64 0]), (b2, gc 0 z8 z8), (b1, gc (n : Int) x o)] M) 2 ⟨_, 0, Nat.zero_add _, (fun _ h => absurd h (Nat.not_lt_zero _)), rfl, List.Sublist.refl _⟩ ?_
        rintro q3 ρ M ⟨g, u, hq3, hno3, rfl, hM⟩
        refine Cd.drop hM ?_
        clear hM M
        refine Cd.seq ?_
        refine Cd.rs [1, 2, 3, 6, 7, 9, 10, 11, 29] fun K hK => ?_
        simp (maxSteps := 2000000) (disch := first | (simp only [E4, hl, hm] <;> omega) | omega | fail) only [↓E2, E3, bare, bareJ, ↓E0, E1, env0, envN, evOps, evOp, evQs, evQ, evV, setD, pureOp, ev, upd, updL, binW, eqOp, binV, intOp, shOp, boolOp, hav, eqL, SameI, strOp, ↓reduceIte, Zj, Zk, Nat.reduceAdd, Nat.reduceLT, Nat.reduceEqDiff, Nat.reduceMul, Nat.reduceLeDiff, if_true, Zn, reduceCtorEq, ZA, eq_self, Int.reduceLE, Int.reduceLT, Int.reduceToNat, ne_eq, Nat.reduceSub, hl, hm, nb2_b1, nb3_b2, nb3_b1]
        repeat refine And.intro (by omega) ?_
        intro g
        simp only [List.map_cons, List.map_nil, updL, upd, Nat.reduceEqDiff, if_true, if_false, ↓reduceIte]
        refine hK _ _ ?_; clear hK K
        refine Cd.condd rfl (fun h4 => ?_) (fun h4 => ?_)
        · have hu : u ≤ 1 := by omega
          have hbk := bk_back (x := x) (o := o) (i := i) (r := r) hm1 hrt hu
          refine Cd.skip ?_
          refine thenN ?_
          refine Cd.seq ?_
          refine Cd.block ?_
          refine Cd.ps [1, 2, 3, 6, 7, 9, 10, 11, 12, 13] (Plan.take 0 (Plan.take 1 (Plan.take 2 (Plan.more 3 (Plan.more 4 (Plan.one 5 (Plan.one 6 (Plan.one 7 (Plan.done)))) (Plan.one 5 (Plan.one 4 (Plan.one 6 (Plan.one 7 (Plan.done)))))) (Plan.more 4 (Plan.more 3 (Plan.one 5 (Plan.one 6 (Plan.one 7 (Plan.done)))) (Plan.one 5 (Plan.more 3 (Plan.one 6 (Plan.one 7 (Plan.done))) (Plan.one 6 (Plan.take 3 (Plan.one 7 (Plan.done))))))) (Plan.one 5 (Plan.more 3 (Plan.one 4 (Plan.one 6 (Plan.one 7 (Plan.done)))) (Plan.one 4 (Plan.more 3 (Plan.one 6 (Plan.one 7 (Plan.done))) (Plan.one 6 (Plan.take 3 (Plan.one 7 (Plan.done))))))))))))) fol (by kernel_rfl) (Nat.le_of_ble_eq_true rfl) fun K hK => ?_
          have J : ∀ g c1 c2 M, [(c2, ints .u8 o), (c1, ints .u8 x), (b3, [.int .i64 0, .int .i64 0, .int .i64 0, .int .i64 0, .int .i64 0, .int .i64 0]), (b2, gc 0 z8 z8), (b1, gc (n : Int) x o)].Perm M → K (updL ([(1, .int .i64 (i : Int)), (2, .int .i64 r), (3, .pointer (some ⟨b1, 0, none⟩)), (6, .pointer (some ⟨b2, 0, none⟩)), (7, .pointer (some ⟨b3, 0, none⟩)), (9, .int .i64 (m : Int)), (10, .int .i64 (rt : Int)), (11, .int .i64 (u : Int)), (12, .pointer (some ⟨c1, 0, none⟩)), (13, .pointer (some ⟨c2, 0, none⟩))]) g) M := by
            intro g c1 c2 M hM
            refine hK _ _ (Cd.turn hM (Cd.nodup fun hnd => ?_)); clear hK K
            obtain ⟨⟨d1, d2, d3, d4⟩, ⟨d5, d6, d7⟩, _, _⟩ := nodup5 hnd
            clear hnd hM
            skip
            skip
            refine Cd.midq (fun ρ M => ∃ g, ρ = updL ([(1, .int .i64 (i : Int)), (2, .int .i64 r), (3, .pointer (some ⟨b1, 0, none⟩)), (6, .pointer (some ⟨b2, 0, none⟩)), (7, .pointer (some ⟨b3, 0, none⟩)), (9, .int .i64 (m : Int)), (10, .int .i64 (rt : Int)), (11, .int .i64 (u : Int)), (12, .pointer (some ⟨c1, 0, none⟩)), (13, .pointer (some ⟨c2, 0, none⟩))]) g ∧ M = [(c2, ints .u8 (ownM m o x)), (c1, ints .u8 (ownM m x o)), (b3, [.int .i64 0, .int .i64 0, .int .i64 0, .int .i64 0, .int .i64 0, .int .i64 0]), (b2, gc 0 z8 z8), (b1, gc (n : Int) x o)]) ?_ ?_
            · refine Cd.rs [1, 2, 3, 6, 7, 9, 10, 11, 12, 13, 37] fun K hK => ?_
              simp (maxSteps := 2000000) (disch := first | (simp only [E4, hl, hm, d1, d2, d3, d4, d5, d6, d7] <;> omega) | omega | fail) only [↓E2, E3, bare, bareJ, ↓E0, E1, env0, envN, evOps, evOp, evQs, evQ, evV, setD, pureOp, ev, upd, updL, binW, eqOp, binV, intOp, shOp, boolOp, hav, eqL, SameI, strOp, ↓reduceIte, Zj, Zk, Nat.reduceAdd, Nat.reduceLT, Nat.reduceEqDiff, Nat.reduceMul, Nat.reduceLeDiff, if_true, Zn, reduceCtorEq, ZA, eq_self, Int.reduceLE, Int.reduceLT, Int.reduceToNat, ne_eq, Nat.reduceSub, hl, hm, nb2_b1, nb3_b2, nb3_b1, d1, d2, d3, d4, d5, d6, d7]
              repeat refine And.intro (by omega) ?_
              intro g
              simp only [List.map_cons, List.map_nil, updL, upd, Nat.reduceEqDiff, if_true, if_false, ↓reduceIte]
              refine hK _ _ ?_; clear hK K
              refine Cd.cond rfl (fun h5 => ?_) (fun h5 => ?_)
              · simp only [decide_eq_true_eq, decide_eq_false_iff_not, beq_iff_eq, beq_eq_false_iff_ne, bne_iff_ne, bne_eq_false_iff_eq, Bool.and_eq_true, Bool.or_eq_true, Bool.or_eq_false_iff, Bool.not_eq_true', Bool.not_eq_false', Bool.and_eq_false_imp, ne_eq, gt_iff_lt, ge_iff_le, Int.not_lt, Int.not_le, Classical.not_not] at h5
                obtain rfl : m = 1 := by omega
                refine Cd.rs [1, 2, 3, 6, 7, 9, 10, 11, 12, 13] fun K hK => ?_
                simp (maxSteps := 2000000) (disch := first | (simp only [E4, hl, hm, d1, d2, d3, d4, d5, d6, d7] <;> omega) | omega | fail) only [↓E2, E3, bare, bareJ, ↓E0, E1, env0, envN, evOps, evOp, evQs, evQ, evV, setD, pureOp, ev, upd, updL, fieldAddrV, cellAt, cellsAt, findB, setB, Value.cells, hav, ↓reduceIte, Zj, Zk, Nat.reduceAdd, Nat.reduceLT, Nat.reduceEqDiff, Nat.reduceMul, Nat.reduceLeDiff, if_true, Zn, reduceCtorEq, ZA, eq_self, Int.reduceLE, Int.reduceLT, Int.reduceToNat, ne_eq, Nat.reduceSub, Tfld32_2, Tld30, Tst30, hl, hm, nb2_b1, nb3_b2, nb3_b1, d1, d2, d3, d4, d5, d6, d7]
                repeat refine And.intro (by omega) ?_
                intro g
                simp only [List.map_cons, List.map_nil, updL, upd, Nat.reduceEqDiff, if_true, if_false, ↓reduceIte]
                refine hK _ _ ?_; clear hK K
                refine Cd.rr [1, 2, 3, 6, 7, 9, 10, 11, 12, 13] fun K hK => ?_
                simp (maxSteps := 2000000) (disch := first | (simp only [E4, hl, hm, d1, d2, d3, d4, d5, d6, d7] <;> omega) | omega | fail) only [↓E2, E3, bare, bareJ, ↓E0, E1, env0, envN, evOps, evOp, evQs, evQ, evV, setD, pureOp, ev, upd, updL, fieldAddrV, cellAt, cellsAt, findB, setB, Value.cells, hav, ↓reduceIte, Zj, Zk, Nat.reduceAdd, Nat.reduceLT, Nat.reduceEqDiff, Nat.reduceMul, Nat.reduceLeDiff, if_true, Zn, reduceCtorEq, ZA, eq_self, Int.reduceLE, Int.reduceLT, Int.reduceToNat, ne_eq, Nat.reduceSub, Tfld32_1, Tld30, Tst30, hl, hm, nb2_b1, nb3_b2, nb3_b1, d1, d2, d3, d4, d5, d6, d7]
                repeat refine And.intro (by omega) ?_
                intro g
                simp only [List.map_cons, List.map_nil, updL, upd, Nat.reduceEqDiff, if_true, if_false, ↓reduceIte]
                refine hK _ _ ?_; clear hK K
                exact midN ⟨_, rfl, rfl⟩
              · simp only [decide_eq_true_eq, decide_eq_false_iff_not, beq_iff_eq, beq_eq_false_iff_ne, bne_iff_ne, bne_eq_false_iff_eq, Bool.and_eq_true, Bool.or_eq_true, Bool.or_eq_false_iff, Bool.not_eq_true', Bool.not_eq_false', Bool.and_eq_false_imp, ne_eq, gt_iff_lt, ge_iff_le, Int.not_lt, Int.not_le, Classical.not_not] at h5
                obtain rfl : m = 0 := by omega
                refine Cd.skip ?_
                exact midN ⟨_, (norm_of (by repeat (first | exact trivial | refine And.intro rfl ?_))), rfl⟩
            · rintro ρ M ⟨g, rfl, rfl⟩
              have xb := ownM_bytes (m := m) hx ho
              have ob := ownM_bytes (m := m) ho hx
              have xl := xb.len
              have ol := ob.len
              have e1 : ((i : Int) + (rt : Int)).toNat = i + rt := by omega
              have e2 : ((i : Int) + 1 - (rt : Int)).toNat = i + 1 - rt := by omega
              have g1 := bytes_get xb (i := i + rt) (by omega)
              have g2 := bytes_get xb (i := i + 1 - rt) (by omega)
              have g3 := bytes_get ob (i := i + rt) (by omega)
              have g4 := bytes_get ob (i := i + 1 - rt) (by omega)
              skip
              refine Cd.seq ?_
              refine Cd.rs [1, 2, 3, 6, 7, 9, 10, 11, 91] fun K hK => ?_
              simp (maxSteps := 2000000) (disch := first | (simp only [E4, hl, hm, d1, d2, d3, d4, d5, d6, d7, xl, ol, e1, e2] <;> omega) | omega | fail) only [↓E2, E3, bare, bareJ, ↓E0, E1, env0, envN, evOps, evOp, evQs, evQ, evV, setD, pureOp, ev, upd, updL, gate, binW, eqOp, binV, intOp, shOp, boolOp, convV, indexAddrV, cellAt, cellsAt, findB, hav, eqL, SameI, strOp, cvtQ, ↓reduceIte, Zj, Zk, Nat.reduceAdd, Nat.reduceLT, Nat.reduceEqDiff, Nat.reduceMul, Nat.reduceLeDiff, if_true, Zn, reduceCtorEq, ZA, eq_self, Int.reduceLE, Int.reduceLT, Int.reduceToNat, ne_eq, Nat.reduceSub, Tarr30, Tint2, Tld5, Tpar5, hl, hm, nb2_b1, nb3_b2, nb3_b1, d1, d2, d3, d4, d5, d6, d7, xl, ol, e1, e2]
              repeat refine And.intro (by omega) ?_
              apply guardX_or 11 [54, 55, 56, 57, 58, 59, 60, 61, 62, 63, 64] (j := 11) (d := 53) (tp := 65) (tl := 64) rfl rfl rfl rfl rfl
              · intro hq
                simp (maxSteps := 2000000) (disch := first | (simp only [E4, hl, hm, d1, d2, d3, d4, d5, d6, d7, xl, ol, e1, e2] <;> omega) | omega | fail) only [↓E2, E3, bare, bareJ, ↓E0, E1, env0, envN, evOps, evOp, evQs, evQ, evV, setD, pureOp, ev, upd, updL, gate, binW, eqOp, binV, intOp, shOp, boolOp, convV, indexAddrV, cellAt, cellsAt, findB, hav, eqL, SameI, strOp, cvtQ, ↓reduceIte, Zj, Zk, Nat.reduceAdd, Nat.reduceLT, Nat.reduceEqDiff, Nat.reduceMul, Nat.reduceLeDiff, if_true, Zn, reduceCtorEq, ZA, eq_self, Int.reduceLE, Int.reduceLT, Int.reduceToNat, ne_eq, Nat.reduceSub, Tarr30, Tint2, Tld5, Tpar5, hl, hm, nb2_b1, nb3_b2, nb3_b1, d1, d2, d3, d4, d5, d6, d7, xl, ol, e1, e2]
                repeat refine And.intro (by omega) ?_
                exact rfl
              intro g
              simp (maxSteps := 2000000) (disch := first | (simp only [E4, hl, hm, d1, d2, d3, d4, d5, d6, d7, xl, ol, e1, e2] <;> omega) | omega | fail) only [↓E2, E3, bare, bareJ, ↓E0, E1, env0, envN, evOps, evOp, evQs, evQ, evV, setD, pureOp, ev, upd, updL, gate, binW, eqOp, binV, intOp, shOp, boolOp, convV, indexAddrV, cellAt, cellsAt, findB, hav, eqL, SameI, strOp, cvtQ, ↓reduceIte, Zj, Zk, Nat.reduceAdd, Nat.reduceLT, Nat.reduceEqDiff, Nat.reduceMul, Nat.reduceLeDiff, if_true, Zn, reduceCtorEq, ZA, eq_self, Int.reduceLE, Int.reduceLT, Int.reduceToNat, ne_eq, Nat.reduceSub, Tarr30, Tint2, Tld5, Tpar5, hl, hm, nb2_b1, nb3_b2, nb3_b1, d1, d2, d3, d4, d5, d6, d7, xl, ol, e1, e2]
              apply guardX_or 12 [67, 68, 69, 70, 71, 72, 73, 74, 75, 76, 77, 78] (j := 24) (d := 66) (tp := 79) (tl := 78) rfl rfl rfl rfl rfl
              · intro hq
                simp (maxSteps := 2000000) (disch := first | (simp only [E4, hl, hm, d1, d2, d3, d4, d5, d6, d7, xl, ol, e1, e2] <;> omega) | omega | fail) only [↓E2, E3, bare, bareJ, ↓E0, E1, env0, envN, evOps, evOp, evQs, evQ, evV, setD, pureOp, ev, upd, updL, gate, binW, eqOp, binV, intOp, shOp, boolOp, convV, indexAddrV, cellAt, cellsAt, findB, hav, eqL, SameI, strOp, cvtQ, ↓reduceIte, Zj, Zk, Nat.reduceAdd, Nat.reduceLT, Nat.reduceEqDiff, Nat.reduceMul, Nat.reduceLeDiff, if_true, Zn, reduceCtorEq, ZA, eq_self, Int.reduceLE, Int.reduceLT, Int.reduceToNat, ne_eq, Nat.reduceSub, Tarr30, Tint2, Tld5, Tpar5, hl, hm, nb2_b1, nb3_b2, nb3_b1, d1, d2, d3, d4, d5, d6, d7, xl, ol, e1, e2]
                repeat refine And.intro (by omega) ?_
                exact rfl
              intro g
              simp (maxSteps := 2000000) (disch := first | (simp only [E4, hl, hm, d1, d2, d3, d4, d5, d6, d7, xl, ol, e1, e2] <;> omega) | omega | fail) only [↓E2, E3, bare, bareJ, ↓E0, E1, env0, envN, evOps, evOp, evQs, evQ, evV, setD, pureOp, ev, upd, updL, gate, binW, eqOp, binV, intOp, shOp, boolOp, convV, indexAddrV, cellAt, cellsAt, findB, hav, eqL, SameI, strOp, cvtQ, ↓reduceIte, Zj, Zk, Nat.reduceAdd, Nat.reduceLT, Nat.reduceEqDiff, Nat.reduceMul, Nat.reduceLeDiff, if_true, Zn, reduceCtorEq, ZA, eq_self, Int.reduceLE, Int.reduceLT, Int.reduceToNat, ne_eq, Nat.reduceSub, Tarr30, Tint2, Tld5, Tpar5, hl, hm, nb2_b1, nb3_b2, nb3_b1, d1, d2, d3, d4, d5, d6, d7, xl, ol, e1, e2]
              apply guardX_or 10 [81, 82, 83, 84, 85, 86, 87, 88, 89, 90] (j := 38) (d := 80) (tp := 91) (tl := 90) rfl rfl rfl rfl rfl
              · intro hq
                simp (maxSteps := 2000000) (disch := first | (simp only [E4, hl, hm, d1, d2, d3, d4, d5, d6, d7, xl, ol, e1, e2] <;> omega) | omega | fail) only [↓E2, E3, bare, bareJ, ↓E0, E1, env0, envN, evOps, evOp, evQs, evQ, evV, setD, pureOp, ev, upd, updL, gate, binW, eqOp, binV, intOp, shOp, boolOp, convV, indexAddrV, cellAt, cellsAt, findB, hav, eqL, SameI, strOp, cvtQ, ↓reduceIte, Zj, Zk, Nat.reduceAdd, Nat.reduceLT, Nat.reduceEqDiff, Nat.reduceMul, Nat.reduceLeDiff, if_true, Zn, reduceCtorEq, ZA, eq_self, Int.reduceLE, Int.reduceLT, Int.reduceToNat, ne_eq, Nat.reduceSub, Tarr30, Tint2, Tld5, Tpar5, hl, hm, nb2_b1, nb3_b2, nb3_b1, d1, d2, d3, d4, d5, d6, d7, xl, ol, e1, e2]
                repeat refine And.intro (by omega) ?_
                exact rfl
              intro g
              simp (maxSteps := 2000000) (disch := first | (simp only [E4, hl, hm, d1, d2, d3, d4, d5, d6, d7, xl, ol, e1, e2] <;> omega) | omega | fail) only [↓E2, E3, bare, bareJ, ↓E0, E1, env0, envN, evOps, evOp, evQs, evQ, evV, setD, pureOp, ev, upd, updL, gate, binW, eqOp, binV, intOp, shOp, boolOp, convV, indexAddrV, cellAt, cellsAt, findB, hav, eqL, SameI, strOp, cvtQ, ↓reduceIte, Zj, Zk, Nat.reduceAdd, Nat.reduceLT, Nat.reduceEqDiff, Nat.reduceMul, Nat.reduceLeDiff, if_true, Zn, reduceCtorEq, ZA, eq_self, Int.reduceLE, Int.reduceLT, Int.reduceToNat, ne_eq, Nat.reduceSub, Tarr30, Tint2, Tld5, Tpar5, hl, hm, nb2_b1, nb3_b2, nb3_b1, d1, d2, d3, d4, d5, d6, d7, xl, ol, e1, e2]
              repeat refine And.intro (by omega) ?_
              intro g
              simp only [List.map_cons, List.map_nil, updL, upd, Nat.reduceEqDiff, if_true, if_false, ↓reduceIte]
              refine hK _ _ ?_; clear hK K
              refine Cd.cond rfl (fun h6 => ?_) (fun h6 => ?_)
              · have hb : bk x o i r (m + 2 * rt + 4 * u) = false := by
                  rw [hbk]
                  refine decide_eq_false fun hB => ?_
                  obtain ⟨c1, c2, c3, c4⟩ := hB
                  simp only [decide_eq_true_eq, decide_eq_false_iff_not, beq_iff_eq, beq_eq_false_iff_ne, bne_iff_ne, bne_eq_false_iff_eq, Bool.and_eq_true, Bool.or_eq_true, Bool.or_eq_false_iff, Bool.not_eq_true', Bool.not_eq_false', Bool.and_eq_false_imp, ne_eq, gt_iff_lt, ge_iff_le, Int.not_lt, Int.not_le, Classical.not_not] at h6
                  omega
                refine Cd.exit (thenX (inBX ?_))
                refine thenN ?_
                refine Cd.rr [1, 2, 3, 6, 7, 9, 10, 11] fun K hK => ?_
                simp (maxSteps := 2000000) (disch := first | (simp only [E4, hl, hm, d1, d2, d3, d4, d5, d6, d7, xl, ol, e1, e2] <;> omega) | omega | fail) only [↓E2, E3, bare, bareJ, ↓E0, E1, env0, envN, evOps, evOp, evQs, evQ, evV, setD, pureOp, ev, upd, updL, binW, eqOp, binV, intOp, shOp, boolOp, hav, eqL, SameI, strOp, ↓reduceIte, Zj, Zk, Nat.reduceAdd, Nat.reduceLT, Nat.reduceEqDiff, Nat.reduceMul, Nat.reduceLeDiff, if_true, Zn, reduceCtorEq, ZA, eq_self, Int.reduceLE, Int.reduceLT, Int.reduceToNat, ne_eq, Nat.reduceSub, hl, hm, nb2_b1, nb3_b2, nb3_b1, d1, d2, d3, d4, d5, d6, d7, xl, ol, e1, e2]
                repeat refine And.intro (by omega) ?_
                intro g
                simp only [List.map_cons, List.map_nil, updL, upd, Nat.reduceEqDiff, if_true, if_false, ↓reduceIte]
                refine hK _ _ ?_; clear hK K
                refine roundN (m := q3 - 1) (by omega) ⟨_, u + 1, by omega, fun u' hu' => ?_, rfl, List.sublist_append_right [_, _] _⟩
                rcases Nat.lt_succ_iff_lt_or_eq.1 hu' with h9 | rfl
                · exact hno3 u' h9
                · exact hb
              · have hB : Back (ownM m x o) (ownM m o x) i r rt u := by
                  simp only [decide_eq_true_eq, decide_eq_false_iff_not, beq_iff_eq, beq_eq_false_iff_ne, bne_iff_ne, bne_eq_false_iff_eq, Bool.and_eq_true, Bool.or_eq_true, Bool.or_eq_false_iff, Bool.not_eq_true', Bool.not_eq_false', Bool.and_eq_false_imp, ne_eq, gt_iff_lt, ge_iff_le, Int.not_lt, Int.not_le, Classical.not_not] at h6
                  exact ⟨by omega, by omega, by omega, by omega⟩
                have hb : bk x o i r (m + 2 * rt + 4 * u) = true := by rw [hbk]; exact decide_eq_true hB
                have hf := bkFind_hit (show m + 2 * rt + 4 * u < 8 by omega) hb
                have k1 : (m + 2 * rt + 4 * u) % 2 = m := by omega
                have k2 : (m + 2 * rt + 4 * u) / 2 % 2 = rt := by omega
                have k3 : (m + 2 * rt + 4 * u) / 4 = u := by omega
                have er : (r + 1 - (u : Int)) = r + 1 - u := rfl
                refine Cd.skip ?_
                refine thenN ?_
                refine Cd.rs [1, 2, 6, 7, 9, 10, 11, 14] fun K hK => ?_
                simp (maxSteps := 2000000) (disch := first | (simp only [E4, hl, hm, d1, d2, d3, d4, d5, d6, d7, xl, ol, e1, e2] <;> omega) | omega | fail) only [↓E2, E3, bare, bareJ, ↓E0, E1, env0, envN, evOps, evOp, evQs, evQ, evV, setD, pureOp, ev, upd, updL, cellAt, cellsAt, findB, setB, Value.cells, hav, ↓reduceIte, Zj, Zk, Nat.reduceAdd, Nat.reduceLT, Nat.reduceEqDiff, Nat.reduceMul, Nat.reduceLeDiff, if_true, Zn, reduceCtorEq, ZA, eq_self, Int.reduceLE, Int.reduceLT, Int.reduceToNat, ne_eq, Nat.reduceSub, Tld32, Tst32, Tzero32, hl, hm, nb2_b1, nb3_b2, nb3_b1, d1, d2, d3, d4, d5, d6, d7, xl, ol, e1, e2]
                repeat refine And.intro (by omega) ?_
                intro b6 hb6
                have nb6_c2 := hb6.ne
                have nb6_c1 := hb6.tail.ne
                have nb6_b3 := hb6.tail.tail.ne
                have nb6_b2 := hb6.tail.tail.tail.ne
                have nb6_b1 := hb6.tail.tail.tail.tail.ne
                try simp (maxSteps := 2000000) (disch := first | (simp only [E4, hl, hm, d1, d2, d3, d4, d5, d6, d7, xl, ol, e1, e2] <;> omega) | omega | fail) only [↓E2, E3, bare, bareJ, ↓E0, E1, env0, envN, evOps, evOp, evQs, evQ, evV, setD, pureOp, ev, upd, updL, cellAt, cellsAt, findB, setB, Value.cells, hav, ↓reduceIte, Zj, Zk, Nat.reduceAdd, Nat.reduceLT, Nat.reduceEqDiff, Nat.reduceMul, Nat.reduceLeDiff, if_true, Zn, reduceCtorEq, ZA, eq_self, Int.reduceLE, Int.reduceLT, Int.reduceToNat, ne_eq, Nat.reduceSub, Tld32, Tst32, Tzero32, hl, hm, nb2_b1, nb3_b2, nb3_b1, d1, d2, d3, d4, d5, d6, d7, xl, ol, e1, e2, nb6_c2, nb6_c1, nb6_b3, nb6_b2, nb6_b1]
                repeat refine And.intro (by omega) ?_
                intro g
                simp only [List.map_cons, List.map_nil, updL, upd, Nat.reduceEqDiff, if_true, if_false, ↓reduceIte]
                refine hK _ _ ?_; clear hK K
                rcases (show m = 0 ∨ m = 1 by omega) with rfl | rfl
                · have bX := bytes_set hx (i := i + rt) (v := r + (u : Int)) (by omega) (by omega)
                  have bO := bytes_set ho (i := i + rt) (v := r + (u : Int)) (by omega) (by omega)
                  refine Cd.seq ?_
                  refine Cd.rs [1, 2, 6, 7, 9, 10, 11, 14, 94] fun K hK => ?_
                  simp (maxSteps := 2000000) (disch := first | (simp only [E4, hl, hm, d1, d2, d3, d4, d5, d6, d7, xl, ol, e1, e2] <;> omega) | omega | fail) only [↓E2, E3, bare, bareJ, ↓E0, E1, env0, envN, evOps, evOp, evQs, evQ, evV, setD, pureOp, ev, upd, updL, binW, eqOp, binV, intOp, shOp, boolOp, hav, eqL, SameI, strOp, ↓reduceIte, Zj, Zk, Nat.reduceAdd, Nat.reduceLT, Nat.reduceEqDiff, Nat.reduceMul, Nat.reduceLeDiff, if_true, Zn, reduceCtorEq, ZA, eq_self, Int.reduceLE, Int.reduceLT, Int.reduceToNat, ne_eq, Nat.reduceSub, hl, hm, nb2_b1, nb3_b2, nb3_b1, d1, d2, d3, d4, d5, d6, d7, xl, ol, e1, e2, nb6_c2, nb6_c1, nb6_b3, nb6_b2, nb6_b1]
                  repeat refine And.intro (by omega) ?_
                  intro g
                  simp only [List.map_cons, List.map_nil, updL, upd, Nat.reduceEqDiff, if_true, if_false, ↓reduceIte]
                  refine hK _ _ ?_; clear hK K
                  refine Cd.no rfl ?_
                  refine Cd.rr [1, 2, 6, 7, 9, 10, 11, 14] fun K hK => ?_
                  simp (maxSteps := 2000000) (disch := first | (simp only [E4, hl, hm, d1, d2, d3, d4, d5, d6, d7, xl, ol, e1, e2] <;> omega) | omega | fail) only [↓E2, E3, bare, bareJ, ↓E0, E1, env0, envN, evOps, evOp, evQs, evQ, evV, setD, pureOp, ev, upd, updL, binW, eqOp, binV, intOp, shOp, boolOp, convV, fieldAddrV, indexAddrV, cellAt, cellsAt, findB, setB, Value.cells, hav, eqL, SameI, strOp, cvtQ, ↓reduceIte, Zj, Zk, Nat.reduceAdd, Nat.reduceLT, Nat.reduceEqDiff, Nat.reduceMul, Nat.reduceLeDiff, if_true, Zn, reduceCtorEq, ZA, eq_self, Int.reduceLE, Int.reduceLT, Int.reduceToNat, ne_eq, Nat.reduceSub, Tarr30, Tfld32_1, Tint5, Tpar2, Tst5, hl, hm, nb2_b1, nb3_b2, nb3_b1, d1, d2, d3, d4, d5, d6, d7, xl, ol, e1, e2, nb6_c2, nb6_c1, nb6_b3, nb6_b2, nb6_b1]
                  repeat refine And.intro (by omega) ?_
                  intro g
                  simp only [List.map_cons, List.map_nil, updL, upd, Nat.reduceEqDiff, if_true, if_false, ↓reduceIte]
                  refine hK _ _ ?_; clear hK K
                  refine thenN ?_
                  refine Cd.rs [6, 7, 8] fun K hK => ?_
                  simp (maxSteps := 2000000) (disch := first | (simp only [E4, hl, hm, d1, d2, d3, d4, d5, d6, d7, xl, ol, e1, e2] <;> omega) | omega | fail) only [↓E2, E3, bare, bareJ, ↓E0, E1, evP, env0, envN, evOps, evOp, evQs, evQ, evV, setD, pureOp, ev, upd, updL, binW, eqOp, binV, intOp, shOp, boolOp, cellAt, cellsAt, findB, setB, fillL, buildV, Value.cells, hav, eqL, SameI, strOp, ↓reduceIte, Zj, Zk, Nat.reduceAdd, Nat.reduceLT, Nat.reduceEqDiff, Nat.reduceMul, Nat.reduceLeDiff, if_true, Zn, reduceCtorEq, ZA, eq_self, Int.reduceLE, Int.reduceLT, Int.reduceToNat, ne_eq, Nat.reduceSub, Tbld93, Tld32, Tst32, Tst93, hl, hm, nb2_b1, nb3_b2, nb3_b1, d1, d2, d3, d4, d5, d6, d7, xl, ol, e1, e2, nb6_c2, nb6_c1, nb6_b3, nb6_b2, nb6_b1]
                  rw [show (i : Int) + 1 - (rt : Int) = ((i + 1 - rt : Nat) : Int) by omega]
                  refine callK_gives (l02Without_c n (x.set (i + rt) (r + (u : Int))) o (by assumption) (by assumption) hn (i + 1 - rt) (r + 1 - (u : Int)) (by omega)) ?_
                  rw [back_wth_own hl hi hn hrt hu (fun c hc h1 h2 => back_own_ne hn px po h0 h0' hd hi hr0 hr hrt hu hB hc h1 h2) hB.1, back_wth hi hn hrt hu (fun c hc h2 => back_oth_ne hn px po h0 h0' hd hi hr0 hr hrt hu hB hc h2)]
                  have tl := fun f : Nat → Int => tab_len f
                  skip
                  simp (maxSteps := 2000000) (disch := first | (simp only [E4, hl, hm, d1, d2, d3, d4, d5, d6, d7, xl, ol, e1, e2, tl] <;> omega) | omega | fail) only [↓E2, E3, bare, bareJ, ↓E0, E1, evP, env0, envN, evOps, evOp, evQs, evQ, evV, setD, pureOp, ev, upd, updL, binW, eqOp, binV, intOp, shOp, boolOp, cellAt, cellsAt, findB, setB, fillL, buildV, Value.cells, hav, eqL, SameI, strOp, ↓reduceIte, Zj, Zk, Nat.reduceAdd, Nat.reduceLT, Nat.reduceEqDiff, Nat.reduceMul, Nat.reduceLeDiff, if_true, Zn, reduceCtorEq, ZA, eq_self, Int.reduceLE, Int.reduceLT, Int.reduceToNat, ne_eq, Nat.reduceSub, Tbld93, Tld32, Tst32, Tst93, hl, hm, nb2_b1, nb3_b2, nb3_b1, d1, d2, d3, d4, d5, d6, d7, xl, ol, e1, e2, nb6_c2, nb6_c1, nb6_b3, nb6_b2, nb6_b1, tl]
                  repeat refine And.intro (by omega) ?_
                  intro g
                  simp only [List.map_cons, List.map_nil, updL, upd, Nat.reduceEqDiff, if_true, if_false, ↓reduceIte]
                  refine hK _ _ ?_; clear hK K
                  refine Cd.ret (inBR (thenR (roundR (inBR (inBR (thenR (roundR (inBR (inBR (thenR (roundR (inBR (thenR ?_)))))))))))))
                  simp (maxSteps := 2000000) (disch := first | (simp only [E4, hl, hm, d1, d2, d3, d4, d5, d6, d7, xl, ol, e1, e2, tl] <;> omega) | omega | fail) only [↓E2, E3, bare, bareJ, ↓E0, E1, evP, evPlan, env0, envN, evOps, evOp, evQs, evQ, evV, setD, pureOp, ev, upd, updL, gate, binW, eqOp, binV, intOp, shOp, boolOp, unV, convV, nilV, fieldAddrV, indexAddrV, extractV, cellAt, cellsAt, findB, setB, fillL, buildV, Value.cells, lenV, minV, maxV, hav, sliceV, loV, hiV, bslQ, mksQ, appQ, partsOk, partsCells, delB, eqL, SameI, strOp, apzQ, cvtQ, capV, ↓reduceIte, Zj, Zk, Nat.reduceAdd, Nat.reduceLT, Nat.reduceEqDiff, Nat.reduceMul, Nat.reduceLeDiff, if_true, Zn, reduceCtorEq, ZA, eq_self, Int.reduceLE, Int.reduceLT, Int.reduceToNat, ne_eq, Nat.reduceSub, Tld32, Tld93, hl, hm, nb2_b1, nb3_b2, nb3_b1, d1, d2, d3, d4, d5, d6, d7, xl, ol, e1, e2, nb6_c2, nb6_c1, nb6_b3, nb6_b2, nb6_b1, tl]
                  unfold backR
                  rw [hf]
                  simp only [k1, k2, k3, oldX]
                  rfl

                · have bX := bytes_set hx (i := i + rt) (v := r + (u : Int)) (by omega) (by omega)
                  have bO := bytes_set ho (i := i + rt) (v := r + (u : Int)) (by omega) (by omega)
                  refine Cd.seq ?_
                  refine Cd.rs [1, 2, 6, 7, 9, 10, 11, 14, 94] fun K hK => ?_
                  simp (maxSteps := 2000000) (disch := first | (simp only [E4, hl, hm, d1, d2, d3, d4, d5, d6, d7, xl, ol, e1, e2] <;> omega) | omega | fail) only [↓E2, E3, bare, bareJ, ↓E0, E1, env0, envN, evOps, evOp, evQs, evQ, evV, setD, pureOp, ev, upd, updL, binW, eqOp, binV, intOp, shOp, boolOp, hav, eqL, SameI, strOp, ↓reduceIte, Zj, Zk, Nat.reduceAdd, Nat.reduceLT, Nat.reduceEqDiff, Nat.reduceMul, Nat.reduceLeDiff, if_true, Zn, reduceCtorEq, ZA, eq_self, Int.reduceLE, Int.reduceLT, Int.reduceToNat, ne_eq, Nat.reduceSub, hl, hm, nb2_b1, nb3_b2, nb3_b1, d1, d2, d3, d4, d5, d6, d7, xl, ol, e1, e2, nb6_c2, nb6_c1, nb6_b3, nb6_b2, nb6_b1]
                  repeat refine And.intro (by omega) ?_
                  intro g
                  simp only [List.map_cons, List.map_nil, updL, upd, Nat.reduceEqDiff, if_true, if_false, ↓reduceIte]
                  refine hK _ _ ?_; clear hK K
                  refine Cd.yes rfl ?_
                  refine Cd.rr [1, 2, 6, 7, 9, 10, 11, 14] fun K hK => ?_
                  simp (maxSteps := 2000000) (disch := first | (simp only [E4, hl, hm, d1, d2, d3, d4, d5, d6, d7, xl, ol, e1, e2] <;> omega) | omega | fail) only [↓E2, E3, bare, bareJ, ↓E0, E1, env0, envN, evOps, evOp, evQs, evQ, evV, setD, pureOp, ev, upd, updL, binW, eqOp, binV, intOp, shOp, boolOp, convV, fieldAddrV, indexAddrV, cellAt, cellsAt, findB, setB, Value.cells, hav, eqL, SameI, strOp, cvtQ, ↓reduceIte, Zj, Zk, Nat.reduceAdd, Nat.reduceLT, Nat.reduceEqDiff, Nat.reduceMul, Nat.reduceLeDiff, if_true, Zn, reduceCtorEq, ZA, eq_self, Int.reduceLE, Int.reduceLT, Int.reduceToNat, ne_eq, Nat.reduceSub, Tarr30, Tfld32_2, Tint5, Tpar2, Tst5, hl, hm, nb2_b1, nb3_b2, nb3_b1, d1, d2, d3, d4, d5, d6, d7, xl, ol, e1, e2, nb6_c2, nb6_c1, nb6_b3, nb6_b2, nb6_b1]
                  repeat refine And.intro (by omega) ?_
                  intro g
                  simp only [List.map_cons, List.map_nil, updL, upd, Nat.reduceEqDiff, if_true, if_false, ↓reduceIte]
                  refine hK _ _ ?_; clear hK K
                  refine thenN ?_
                  refine Cd.rs [6, 7, 8] fun K hK => ?_
                  simp (maxSteps := 2000000) (disch := first | (simp only [E4, hl, hm, d1, d2, d3, d4, d5, d6, d7, xl, ol, e1, e2] <;> omega) | omega | fail) only [↓E2, E3, bare, bareJ, ↓E0, E1, evP, env0, envN, evOps, evOp, evQs, evQ, evV, setD, pureOp, ev, upd, updL, binW, eqOp, binV, intOp, shOp, boolOp, cellAt, cellsAt, findB, setB, fillL, buildV, Value.cells, hav, eqL, SameI, strOp, ↓reduceIte, Zj, Zk, Nat.reduceAdd, Nat.reduceLT, Nat.reduceEqDiff, Nat.reduceMul, Nat.reduceLeDiff, if_true, Zn, reduceCtorEq, ZA, eq_self, Int.reduceLE, Int.reduceLT, Int.reduceToNat, ne_eq, Nat.reduceSub, Tbld93, Tld32, Tst32, Tst93, hl, hm, nb2_b1, nb3_b2, nb3_b1, d1, d2, d3, d4, d5, d6, d7, xl, ol, e1, e2, nb6_c2, nb6_c1, nb6_b3, nb6_b2, nb6_b1]
                  rw [show (i : Int) + 1 - (rt : Int) = ((i + 1 - rt : Nat) : Int) by omega]
                  refine callK_gives (l02Without_c n x (o.set (i + rt) (r + (u : Int))) (by assumption) (by assumption) hn (i + 1 - rt) (r + 1 - (u : Int)) (by omega)) ?_
                  rw [back_wth hi hn hrt hu (fun c hc h2 => back_oth_ne hn po px h0' h0 (fun c hc => (hd c hc).symm) hi hr0 hr hrt hu hB hc h2), back_wth_own hm hi hn hrt hu (fun c hc h1 h2 => back_own_ne hn po px h0' h0 (fun c hc => (hd c hc).symm) hi hr0 hr hrt hu hB hc h1 h2) hB.1]
                  have tl := fun f : Nat → Int => tab_len f
                  skip
                  simp (maxSteps := 2000000) (disch := first | (simp only [E4, hl, hm, d1, d2, d3, d4, d5, d6, d7, xl, ol, e1, e2, tl] <;> omega) | omega | fail) only [↓E2, E3, bare, bareJ, ↓E0, E1, evP, env0, envN, evOps, evOp, evQs, evQ, evV, setD, pureOp, ev, upd, updL, binW, eqOp, binV, intOp, shOp, boolOp, cellAt, cellsAt, findB, setB, fillL, buildV, Value.cells, hav, eqL, SameI, strOp, ↓reduceIte, Zj, Zk, Nat.reduceAdd, Nat.reduceLT, Nat.reduceEqDiff, Nat.reduceMul, Nat.reduceLeDiff, if_true, Zn, reduceCtorEq, ZA, eq_self, Int.reduceLE, Int.reduceLT, Int.reduceToNat, ne_eq, Nat.reduceSub, Tbld93, Tld32, Tst32, Tst93, hl, hm, nb2_b1, nb3_b2, nb3_b1, d1, d2, d3, d4, d5, d6, d7, xl, ol, e1, e2, nb6_c2, nb6_c1, nb6_b3, nb6_b2, nb6_b1, tl]
                  repeat refine And.intro (by omega) ?_
                  intro g
                  simp only [List.map_cons, List.map_nil, updL, upd, Nat.reduceEqDiff, if_true, if_false, ↓reduceIte]
                  refine hK _ _ ?_; clear hK K
                  refine Cd.ret (inBR (thenR (roundR (inBR (inBR (thenR (roundR (inBR (inBR (thenR (roundR (inBR (thenR ?_)))))))))))))
                  simp (maxSteps := 2000000) (disch := first | (simp only [E4, hl, hm, d1, d2, d3, d4, d5, d6, d7, xl, ol, e1, e2, tl] <;> omega) | omega | fail) only [↓E2, E3, bare, bareJ, ↓E0, E1, evP, evPlan, env0, envN, evOps, evOp, evQs, evQ, evV, setD, pureOp, ev, upd, updL, gate, binW, eqOp, binV, intOp, shOp, boolOp, unV, convV, nilV, fieldAddrV, indexAddrV, extractV, cellAt, cellsAt, findB, setB, fillL, buildV, Value.cells, lenV, minV, maxV, hav, sliceV, loV, hiV, bslQ, mksQ, appQ, partsOk, partsCells, delB, eqL, SameI, strOp, apzQ, cvtQ, capV, ↓reduceIte, Zj, Zk, Nat.reduceAdd, Nat.reduceLT, Nat.reduceEqDiff, Nat.reduceMul, Nat.reduceLeDiff, if_true, Zn, reduceCtorEq, ZA, eq_self, Int.reduceLE, Int.reduceLT, Int.reduceToNat, ne_eq, Nat.reduceSub, Tld32, Tld93, hl, hm, nb2_b1, nb3_b2, nb3_b1, d1, d2, d3, d4, d5, d6, d7, xl, ol, e1, e2, nb6_c2, nb6_c1, nb6_b3, nb6_b2, nb6_b1, tl]
                  unfold backR
                  rw [hf]
                  simp only [k1, k2, k3, oldX]
                  rfl

          clear hK
          simp (maxSteps := 2000000) (disch := first | (simp only [E4, hl, hm] <;> omega) | omega | fail) only [↓E2, E3, bare, bareJ, ↓E0, E1, evPlan, env0, envN, evOps, evOp, evQs, evQ, evV, setD, pureOp, ev, upd, updL, fieldAddrV, cellAt, cellsAt, findB, setB, Value.cells, hav, ↓reduceIte, Zj, Zk, Nat.reduceAdd, Nat.reduceLT, Nat.reduceEqDiff, Nat.reduceMul, Nat.reduceLeDiff, if_true, Zn, reduceCtorEq, ZA, eq_self, Int.reduceLE, Int.reduceLT, Int.reduceToNat, ne_eq, Nat.reduceSub, Tfld32_1, Tfld32_2, Tld30, Tst30, Tzero30, ↓YR, hl, hm, nb2_b1, nb3_b2, nb3_b1]
          repeat' first
              | omega
              | refine moreX_go ?_ ?_
              | with_reducible refine And.intro ?_ ?_
              | (with_reducible intro (b : Nat) (hb : Fresh _ _ b); have hb := hb.all; simp only [List.mem_cons, List.not_mem_nil, forall_eq_or_imp, or_false, forall_eq, false_implies, implies_true, and_true] at hb)
              | (with_reducible intro (b' : Nat) (cap' : Nat) (rest' : List Value) (hf' : Fresh _ _ b') (hc' : _ ≤ cap') (hr' : rest'.length = _); have hfa := hf'.all; simp only [List.mem_cons, List.not_mem_nil, forall_eq_or_imp, or_false, forall_eq, false_implies, implies_true, and_true] at hfa)
              | simp (maxSteps := 2000000) (disch := first | (simp only [E4, hl, hm] <;> omega) | omega | fail) only [↓E2, E3, bare, bareJ, ↓E0, E1, evPlan, env0, envN, evOps, evOp, evQs, evQ, evV, setD, pureOp, ev, upd, updL, fieldAddrV, cellAt, cellsAt, findB, setB, Value.cells, hav, ↓reduceIte, Zj, Zk, Nat.reduceAdd, Nat.reduceLT, Nat.reduceEqDiff, Nat.reduceMul, Nat.reduceLeDiff, if_true, Zn, reduceCtorEq, ZA, eq_self, Int.reduceLE, Int.reduceLT, Int.reduceToNat, ne_eq, Nat.reduceSub, Tfld32_1, Tfld32_2, Tld30, Tst30, Tzero30, ↓YR, hl, hm, nb2_b1, nb3_b2, nb3_b1, *]
          all_goals
            repeat refine And.intro (by omega) ?_
            intro g
            simp only [List.map_cons, List.map_nil, updL, upd, Nat.reduceEqDiff, if_true, if_false, ↓reduceIte]
            first
            | exact J g _ _ _ (.refl _)
            | exact J g _ _ _ (.swap ..)
        · refine Cd.exit (thenX (roundX (inBX ?_)))
          refine inBN ?_
          refine thenN ?_
          refine Cd.rr [1, 2, 3, 6, 7, 9, 10] fun K hK => ?_
          simp (maxSteps := 2000000) (disch := first | (simp only [E4, hl, hm] <;> omega) | omega | fail) only [↓E2, E3, bare, bareJ, ↓E0, E1, env0, envN, evOps, evOp, evQs, evQ, evV, setD, pureOp, ev, upd, updL, binW, eqOp, binV, intOp, shOp, boolOp, hav, eqL, SameI, strOp, ↓reduceIte, Zj, Zk, Nat.reduceAdd, Nat.reduceLT, Nat.reduceEqDiff, Nat.reduceMul, Nat.reduceLeDiff, if_true, Zn, reduceCtorEq, ZA, eq_self, Int.reduceLE, Int.reduceLT, Int.reduceToNat, ne_eq, Nat.reduceSub, hl, hm, nb2_b1, nb3_b2, nb3_b1]
          repeat refine And.intro (by omega) ?_
          intro g
          simp only [List.map_cons, List.map_nil, updL, upd, Nat.reduceEqDiff, if_true, if_false, ↓reduceIte]
          refine hK _ _ ?_; clear hK K
          refine roundN (m := q2 - 1) (by omega) ⟨_, rt + 1, by omega, fun rt' u' hr' hu' => ?_, rfl, List.Sublist.refl _⟩
          rcases Nat.lt_succ_iff_lt_or_eq.1 hr' with h9 | rfl
          · exact hno2 rt' u' h9 hu'
          · exact hno3 u' (by omega)
      · refine Cd.exit (thenX (roundX (inBX ?_)))
        refine inBN ?_
        refine thenN ?_
        refine Cd.rr [1, 2, 3, 6, 7, 9] fun K hK => ?_
        simp (maxSteps := 2000000) (disch := first | (simp only [E4, hl, hm] <;> omega) | omega | fail) only [↓E2, E3, bare, bareJ, ↓E0, E1, env0, envN, evOps, evOp, evQs, evQ, evV, setD, pureOp, ev, upd, updL, binW, eqOp, binV, intOp, shOp, boolOp, hav, eqL, SameI, strOp, ↓reduceIte, Zj, Zk, Nat.reduceAdd, Nat.reduceLT, Nat.reduceEqDiff, Nat.reduceMul, Nat.reduceLeDiff, if_true, Zn, reduceCtorEq, ZA, eq_self, Int.reduceLE, Int.reduceLT, Int.reduceToNat, ne_eq, Nat.reduceSub, hl, hm, nb2_b1, nb3_b2, nb3_b1]
        repeat refine And.intro (by omega) ?_
        intro g
        simp only [List.map_cons, List.map_nil, updL, upd, Nat.reduceEqDiff, if_true, if_false, ↓reduceIte]
        refine hK _ _ ?_; clear hK K
        refine roundN (m := q - 1) (by omega) ⟨_, m + 1, by omega, fun m' rt' u' h' hr' hu' => ?_, rfl, List.Sublist.refl _⟩
        rcases Nat.lt_succ_iff_lt_or_eq.1 h' with h9 | rfl
        · exact hno m' rt' u' h9 hr' hu'
        · exact hno2 rt' u' (by omega) hu'
    · refine Cd.exit (thenX (roundX (inBX ?_)))
      refine thenN ?_
      refine Cd.rs [6, 7, 8] fun K hK => ?_
      simp (maxSteps := 2000000) (disch := first | (simp only [E4, hl, hm] <;> omega) | omega | fail) only [↓E2, E3, bare, bareJ, ↓E0, E1, evP, env0, envN, evOps, evOp, evQs, evQ, evV, setD, pureOp, ev, upd, updL, cellAt, cellsAt, findB, setB, fillL, buildV, Value.cells, hav, ↓reduceIte, Zj, Zk, Nat.reduceAdd, Nat.reduceLT, Nat.reduceEqDiff, Nat.reduceMul, Nat.reduceLeDiff, if_true, Zn, reduceCtorEq, ZA, eq_self, Int.reduceLE, Int.reduceLT, Int.reduceToNat, ne_eq, Nat.reduceSub, Tbld32, Tbld93, Tst32, Tst93, hl, hm, nb2_b1, nb3_b2, nb3_b1]
      repeat refine And.intro (by omega) ?_
      intro g
      simp only [List.map_cons, List.map_nil, updL, upd, Nat.reduceEqDiff, if_true, if_false, ↓reduceIte]
      refine hK _ _ ?_; clear hK K
      refine Cd.ret ?_
      simp (maxSteps := 2000000) (disch := first | (simp only [E4, hl, hm] <;> omega) | omega | fail) only [↓E2, E3, bare, bareJ, ↓E0, E1, evP, evPlan, env0, envN, evOps, evOp, evQs, evQ, evV, setD, pureOp, ev, upd, updL, gate, binW, eqOp, binV, intOp, shOp, boolOp, unV, convV, nilV, fieldAddrV, indexAddrV, extractV, cellAt, cellsAt, findB, setB, fillL, buildV, Value.cells, lenV, minV, maxV, hav, sliceV, loV, hiV, bslQ, mksQ, appQ, partsOk, partsCells, delB, eqL, SameI, strOp, apzQ, cvtQ, capV, ↓reduceIte, Zj, Zk, Nat.reduceAdd, Nat.reduceLT, Nat.reduceEqDiff, Nat.reduceMul, Nat.reduceLeDiff, if_true, Zn, reduceCtorEq, ZA, eq_self, Int.reduceLE, Int.reduceLT, Int.reduceToNat, ne_eq, Nat.reduceSub, Tld32, Tld93, hl, hm, nb2_b1, nb3_b2, nb3_b1]
      unfold backR
      rw [bkFind_none fun k hk => ?_]
      have := hno (k % 2) (k / 2 % 2) (k / 4) (by omega) (by omega) (by omega)
      rwa [show k % 2 + 2 * (k / 2 % 2) + 4 * (k / 4) = k by omega] at this
end

end Go.Proofs

/-
  What the functions of this part hand back: each as a plain function of its arguments. Conditions: none.
-/
namespace Go.Proofs
open Go.W8
set_option linter.unusedVariables false
set_option linter.unusedSimpArgs false
set_option linter.unusedSectionVars false
set_option maxRecDepth 8000
set_option maxHeartbeats 4000000
def isBytes (v : Value) : Prop := ∃ x, v = .agg (ints .u8 x).toArray ∧ Bytes8 x
theorem bytes_z8 : Bytes8 z8 := ⟨rfl, by decide, by decide⟩
section
variable (l : List Int) (cv : Value) (R : Rd) (hin : InB R l cv) (hl : l.length ≤ 4096) (hb : ∀ k, k < l.length → 0 ≤ l.getD k 0 ∧ l.getD k 0 < 256)
include hin hl hb
theorem mixed_c (b : Nat) (hRb : ∀ r ∈ R, r.1 ≠ b) (n : Nat) (n2 : 2 ≤ n) (n8 : n ≤ 8) : Draws Try.prog 201 [.pointer (some ⟨b, 0, none⟩), .int .i64 (n : Int)] b cv R l.length isBytes := by
  refine Draws.of fun t h ho => ?_
  refine GivesX.of (callable_of Try.func201 rfl (by decide)) ?_ fun w hnd hlt hR => ?_
  · simpa using hRb
  refine acall_of (N := 42) (c := _) (rs := [.cell 4 30]) (args := [_, _]) Try.func201 rfl (by decide) rfl rfl (Nat.le_of_ble_eq_true rfl) ?_
  have hR : W8.Told [b] w R := hR
  skip
  refine Cd.rs [0, 1, 4] fun K hK => ?_
  simp (maxSteps := 2000000) (disch := first | (simp only [E4] <;> omega) | omega | fail) only [↓E2, E3, bare, bareJ, ↓E0, E1, env0, envN, evOps, evOp, evQs, evQ, evV, setD, pureOp, ev, upd, updL, Value.cells, hav, ↓reduceIte, Zj, Zk, Nat.reduceAdd, Nat.reduceLT, Nat.reduceEqDiff, Nat.reduceMul, Nat.reduceLeDiff, if_true, Zn, reduceCtorEq, ZA, eq_self, Int.reduceLE, Int.reduceLT, Int.reduceToNat, ne_eq, Nat.reduceSub, Tzero30]
  repeat refine And.intro (by omega) ?_
  intro b1 hb1
  have nb1_b := hb1.ne
  try simp (maxSteps := 2000000) (disch := first | (simp only [E4] <;> omega) | omega | fail) only [↓E2, E3, bare, bareJ, ↓E0, E1, env0, envN, evOps, evOp, evQs, evQ, evV, setD, pureOp, ev, upd, updL, Value.cells, hav, ↓reduceIte, Zj, Zk, Nat.reduceAdd, Nat.reduceLT, Nat.reduceEqDiff, Nat.reduceMul, Nat.reduceLeDiff, if_true, Zn, reduceCtorEq, ZA, eq_self, Int.reduceLE, Int.reduceLT, Int.reduceToNat, ne_eq, Nat.reduceSub, Tzero30, nb1_b]
  repeat refine And.intro (by omega) ?_
  repeat refine And.intro (by omega) ?_
  intro g
  simp only [List.map_cons, List.map_nil, updL, upd, Nat.reduceEqDiff, if_true, if_false, ↓reduceIte]
  refine hK _ _ ?_; clear hK K
  refine Cd.rs [0, 1, 4, 5] fun K hK => ?_
  simp (maxSteps := 2000000) (disch := first | (simp only [E4] <;> omega) | omega | fail) only [↓E2, E3, bare, bareJ, ↓E0, E1, evP, env0, envN, evOps, evOp, evQs, evQ, evV, setD, pureOp, ev, upd, updL, cellAt, cellsAt, findB, setB, fillL, buildV, Value.cells, hav, ↓reduceIte, Zj, Zk, Nat.reduceAdd, Nat.reduceLT, Nat.reduceEqDiff, Nat.reduceMul, Nat.reduceLeDiff, if_true, Zn, reduceCtorEq, ZA, eq_self, Int.reduceLE, Int.reduceLT, Int.reduceToNat, ne_eq, Nat.reduceSub, Tbld30, Tst30, Tzero30, nb1_b]
  repeat refine And.intro (by omega) ?_
  intro b2 hb2
  have nb2_b1 := hb2.ne
  have nb2_b := hb2.tail.ne
  try simp (maxSteps := 2000000) (disch := first | (simp only [E4] <;> omega) | omega | fail) only [↓E2, E3, bare, bareJ, ↓E0, E1, evP, env0, envN, evOps, evOp, evQs, evQ, evV, setD, pureOp, ev, upd, updL, cellAt, cellsAt, findB, setB, fillL, buildV, Value.cells, hav, ↓reduceIte, Zj, Zk, Nat.reduceAdd, Nat.reduceLT, Nat.reduceEqDiff, Nat.reduceMul, Nat.reduceLeDiff, if_true, Zn, reduceCtorEq, ZA, eq_self, Int.reduceLE, Int.reduceLT, Int.reduceToNat, ne_eq, Nat.reduceSub, Tbld30, Tst30, Tzero30, nb1_b, nb2_b1, nb2_b]
  repeat refine And.intro (by omega) ?_
  repeat refine And.intro (by omega) ?_
  intro g
  simp only [List.map_cons, List.map_nil, updL, upd, Nat.reduceEqDiff, if_true, if_false, ↓reduceIte]
  refine hK _ _ ?_; clear hK K
  refine Cd.seq ?_
  refine Cd.rs [0, 1, 4, 5, 6] fun K hK => ?_
  simp (maxSteps := 2000000) (disch := first | (simp only [E4] <;> omega) | omega | fail) only [↓E2, E3, bare, bareJ, ↓E0, E1, env0, envN, evOps, evOp, evQs, evQ, evV, setD, pureOp, ev, upd, updL, hav, ↓reduceIte, Zj, Zk, Nat.reduceAdd, Nat.reduceLT, Nat.reduceEqDiff, Nat.reduceMul, Nat.reduceLeDiff, if_true, Zn, reduceCtorEq, ZA, eq_self, Int.reduceLE, Int.reduceLT, Int.reduceToNat, ne_eq, Nat.reduceSub, nb1_b, nb2_b1, nb2_b]
  repeat refine And.intro (by omega) ?_
  repeat refine And.intro (by omega) ?_
  intro g
  simp only [List.map_cons, List.map_nil, updL, upd, Nat.reduceEqDiff, if_true, if_false, ↓reduceIte]
  refine hK _ _ ?_; clear hK K
  refine Cd.block ?_
  refine Cd.loop (fun q ρ M => ∃ g k x, Bytes8 x ∧ k + q = n ∧ ρ = updL [(0, .pointer (some ⟨b, 0, none⟩)), (1, .int .i64 (n : Int)), (4, .pointer (some ⟨b1, 0, none⟩)), (5, .pointer (some ⟨b2, 0, none⟩)), (6, .int .i64 (k : Int))] g ∧ M = [(b2, ints .u8 x), (b1, ints .u8 z8), (b, srcC cv t h)]) n ⟨_, 0, z8, bytes_z8, Nat.zero_add _, rfl, rfl⟩ ?_
  rintro q ρ M ⟨g, k, x, hx, hk, rfl, rfl⟩
  have xl := hx.len
  skip
  refine Cd.seq ?_
  refine Cd.rs [0, 1, 4, 5, 6, 13] fun K hK => ?_
  simp (maxSteps := 2000000) (disch := first | (simp only [E4, xl] <;> omega) | omega | fail) only [↓E2, E3, bare, bareJ, ↓E0, E1, env0, envN, evOps, evOp, evQs, evQ, evV, setD, pureOp, ev, upd, updL, binW, eqOp, binV, intOp, shOp, boolOp, hav, eqL, SameI, strOp, ↓reduceIte, Zj, Zk, Nat.reduceAdd, Nat.reduceLT, Nat.reduceEqDiff, Nat.reduceMul, Nat.reduceLeDiff, if_true, Zn, reduceCtorEq, ZA, eq_self, Int.reduceLE, Int.reduceLT, Int.reduceToNat, ne_eq, Nat.reduceSub, nb1_b, nb2_b1, nb2_b, xl]
  repeat refine And.intro (by omega) ?_
  repeat refine And.intro (by omega) ?_
  intro g
  simp only [List.map_cons, List.map_nil, updL, upd, Nat.reduceEqDiff, if_true, if_false, ↓reduceIte]
  refine hK _ _ ?_; clear hK K
  refine Cd.condd rfl (fun c1 => ?_) (fun c1 => ?_)
  · refine Cd.skip ?_
    refine thenN ?_
    refine Cd.seq ?_
    refine Cd.block ?_
    refine Cd.rr [0, 1, 4, 5, 6] fun K hK => ?_
    simp (maxSteps := 2000000) (disch := first | (simp only [E4, xl] <;> omega) | omega | fail) only [↓E2, E3, bare, bareJ, ↓E0, E1, env0, envN, evOps, evOp, evQs, evQ, evV, setD, pureOp, ev, upd, updL, convV, indexAddrV, cellAt, cellsAt, findB, setB, Value.cells, hav, cvtQ, ↓reduceIte, Zj, Zk, Nat.reduceAdd, Nat.reduceLT, Nat.reduceEqDiff, Nat.reduceMul, Nat.reduceLeDiff, if_true, Zn, reduceCtorEq, ZA, eq_self, Int.reduceLE, Int.reduceLT, Int.reduceToNat, ne_eq, Nat.reduceSub, Tarr30, Tint5, Tpar2, Tst5, nb1_b, nb2_b1, nb2_b, xl]
    repeat refine And.intro (by omega) ?_
    repeat refine And.intro (by omega) ?_
    intro g
    simp only [List.map_cons, List.map_nil, updL, upd, Nat.reduceEqDiff, if_true, if_false, ↓reduceIte]
    refine hK _ _ ?_; clear hK K
    refine inBN ?_
    refine thenN ?_
    refine Cd.rr [0, 1, 4, 5, 6] fun K hK => ?_
    simp (maxSteps := 2000000) (disch := first | (simp only [E4, xl] <;> omega) | omega | fail) only [↓E2, E3, bare, bareJ, ↓E0, E1, env0, envN, evOps, evOp, evQs, evQ, evV, setD, pureOp, ev, upd, updL, binW, eqOp, binV, intOp, shOp, boolOp, hav, eqL, SameI, strOp, ↓reduceIte, Zj, Zk, Nat.reduceAdd, Nat.reduceLT, Nat.reduceEqDiff, Nat.reduceMul, Nat.reduceLeDiff, if_true, Zn, reduceCtorEq, ZA, eq_self, Int.reduceLE, Int.reduceLT, Int.reduceToNat, ne_eq, Nat.reduceSub, nb1_b, nb2_b1, nb2_b, xl]
    repeat refine And.intro (by omega) ?_
    repeat refine And.intro (by omega) ?_
    intro g
    simp only [List.map_cons, List.map_nil, updL, upd, Nat.reduceEqDiff, if_true, if_false, ↓reduceIte]
    refine hK _ _ ?_; clear hK K
    exact roundN (m := q - 1) (by omega) ⟨_, k + 1, _, bytes_set hx (by omega) (by omega), by omega, rfl, rfl⟩
  · refine Cd.exit (thenX (roundX (inBX ?_)))
    refine thenN ?_
    refine Cd.seq ?_
    refine Cd.rs [0, 4, 5, 7] fun K hK => ?_
    simp (maxSteps := 2000000) (disch := first | (simp only [E4, xl] <;> omega) | omega | fail) only [↓E2, E3, bare, bareJ, ↓E0, E1, env0, envN, evOps, evOp, evQs, evQ, evV, setD, pureOp, ev, upd, updL, binW, eqOp, binV, intOp, shOp, boolOp, hav, eqL, SameI, strOp, ↓reduceIte, Zj, Zk, Nat.reduceAdd, Nat.reduceLT, Nat.reduceEqDiff, Nat.reduceMul, Nat.reduceLeDiff, if_true, Zn, reduceCtorEq, ZA, eq_self, Int.reduceLE, Int.reduceLT, Int.reduceToNat, ne_eq, Nat.reduceSub, nb1_b, nb2_b1, nb2_b, xl]
    repeat refine And.intro (by omega) ?_
    repeat refine And.intro (by omega) ?_
    intro g
    simp only [List.map_cons, List.map_nil, updL, upd, Nat.reduceEqDiff, if_true, if_false, ↓reduceIte]
    refine hK _ _ ?_; clear hK K
    refine Cd.block ?_
    refine Cd.loop (fun q ρ M => ∃ g i x t h, i = (q : Int) ∧ q ≤ 7 ∧ Bytes8 x ∧ okS l.length t h ∧ ρ = updL [(0, .pointer (some ⟨b, 0, none⟩)), (4, .pointer (some ⟨b1, 0, none⟩)), (5, .pointer (some ⟨b2, 0, none⟩)), (7, .int .i64 i)] g ∧ M = [(b2, ints .u8 x), (b1, ints .u8 z8), (b, srcC cv t h)]) (n - 1) ⟨_, _, x, t, h, by omega, by omega, hx, ho, rfl, rfl⟩ ?_
    rintro q ρ M ⟨g, i, x, t, h, rfl, hq7, hx, ho, rfl, rfl⟩
    have xl := hx.len
    skip
    refine Cd.seq ?_
    refine Cd.rs [0, 4, 5, 7, 23] fun K hK => ?_
    simp (maxSteps := 2000000) (disch := first | (simp only [E4, xl] <;> omega) | omega | fail) only [↓E2, E3, bare, bareJ, ↓E0, E1, env0, envN, evOps, evOp, evQs, evQ, evV, setD, pureOp, ev, upd, updL, binW, eqOp, binV, intOp, shOp, boolOp, hav, eqL, SameI, strOp, ↓reduceIte, Zj, Zk, Nat.reduceAdd, Nat.reduceLT, Nat.reduceEqDiff, Nat.reduceMul, Nat.reduceLeDiff, if_true, Zn, reduceCtorEq, ZA, eq_self, Int.reduceLE, Int.reduceLT, Int.reduceToNat, ne_eq, Nat.reduceSub, nb1_b, nb2_b1, nb2_b, xl]
    repeat refine And.intro (by omega) ?_
    repeat refine And.intro (by omega) ?_
    intro g
    simp only [List.map_cons, List.map_nil, updL, upd, Nat.reduceEqDiff, if_true, if_false, ↓reduceIte]
    refine hK _ _ ?_; clear hK K
    refine Cd.condd rfl (fun c2 => ?_) (fun c2 => ?_)
    · refine Cd.skip ?_
      refine thenN ?_
      refine Cd.seq ?_
      refine Cd.block ?_
      refine Cd.rs [0, 4, 5, 7, 8] fun K hK => ?_
      simp (maxSteps := 2000000) (disch := first | (simp only [E4, xl] <;> omega) | omega | fail) only [↓E2, E3, bare, bareJ, ↓E0, E1, env0, envN, evOps, evOp, evQs, evQ, evV, setD, pureOp, ev, upd, updL, binW, eqOp, binV, intOp, shOp, boolOp, cellAt, cellsAt, findB, setB, hav, eqL, SameI, strOp, ↓reduceIte, Zj, Zk, Nat.reduceAdd, Nat.reduceLT, Nat.reduceEqDiff, Nat.reduceMul, Nat.reduceLeDiff, if_true, Zn, reduceCtorEq, ZA, eq_self, Int.reduceLE, Int.reduceLT, Int.reduceToNat, ne_eq, Nat.reduceSub, nb1_b, nb2_b1, nb2_b, xl]
      repeat refine And.intro (by omega) ?_
      refine callK_draw (next_c l cv R hin hl hb b hRb ((q : Int) + 1) ⟨by omega, by omega⟩) ho (by simp only [findB, nb1_b, nb2_b, if_true, if_false]) (Told.toldW hR) ?_
      rintro v t2 h2 ho2 ⟨y, rfl, y0, y1⟩
      obtain ⟨y', rfl⟩ : ∃ y' : Nat, y = (y' : Int) := ⟨y.toNat, by omega⟩
      have hy7 : y' ≤ 7 := by omega
      simp (maxSteps := 2000000) (disch := first | (simp only [E4, xl] <;> omega) | omega | fail) only [↓E2, E3, bare, bareJ, ↓E0, E1, env0, envN, evOps, evOp, evQs, evQ, evV, setD, pureOp, ev, upd, updL, binW, eqOp, binV, intOp, shOp, boolOp, cellAt, cellsAt, findB, setB, hav, eqL, SameI, strOp, ↓reduceIte, Zj, Zk, Nat.reduceAdd, Nat.reduceLT, Nat.reduceEqDiff, Nat.reduceMul, Nat.reduceLeDiff, if_true, Zn, reduceCtorEq, ZA, eq_self, Int.reduceLE, Int.reduceLT, Int.reduceToNat, ne_eq, Nat.reduceSub, nb1_b, nb2_b1, nb2_b, xl]
      repeat refine And.intro (by omega) ?_
      repeat refine And.intro (by omega) ?_
      intro g
      simp only [List.map_cons, List.map_nil, updL, upd, Nat.reduceEqDiff, if_true, if_false, ↓reduceIte]
      refine hK _ _ ?_; clear hK K
      refine Cd.rs [0, 4, 5, 7, 8, 9] fun K hK => ?_
      simp (maxSteps := 2000000) (disch := first | (simp only [E4, xl] <;> omega) | omega | fail) only [↓E2, E3, bare, bareJ, ↓E0, E1, env0, envN, evOps, evOp, evQs, evQ, evV, setD, pureOp, ev, upd, updL, indexAddrV, cellAt, cellsAt, findB, hav, ↓reduceIte, Zj, Zk, Nat.reduceAdd, Nat.reduceLT, Nat.reduceEqDiff, Nat.reduceMul, Nat.reduceLeDiff, if_true, Zn, reduceCtorEq, ZA, eq_self, Int.reduceLE, Int.reduceLT, Int.reduceToNat, ne_eq, Nat.reduceSub, Tarr30, Tld5, nb1_b, nb2_b1, nb2_b, xl]
      repeat refine And.intro (by omega) ?_
      repeat refine And.intro (by omega) ?_
      intro g
      simp only [List.map_cons, List.map_nil, updL, upd, Nat.reduceEqDiff, if_true, if_false, ↓reduceIte]
      refine hK _ _ ?_; clear hK K
      refine Cd.rs [0, 4, 5, 7, 8, 9] fun K hK => ?_
      simp (maxSteps := 2000000) (disch := first | (simp only [E4, xl] <;> omega) | omega | fail) only [↓E2, E3, bare, bareJ, ↓E0, E1, env0, envN, evOps, evOp, evQs, evQ, evV, setD, pureOp, ev, upd, updL, indexAddrV, cellAt, cellsAt, findB, setB, Value.cells, hav, ↓reduceIte, Zj, Zk, Nat.reduceAdd, Nat.reduceLT, Nat.reduceEqDiff, Nat.reduceMul, Nat.reduceLeDiff, if_true, Zn, reduceCtorEq, ZA, eq_self, Int.reduceLE, Int.reduceLT, Int.reduceToNat, ne_eq, Nat.reduceSub, Tarr30, Tld5, Tst5, nb1_b, nb2_b1, nb2_b, xl]
      repeat refine And.intro (by omega) ?_
      repeat refine And.intro (by omega) ?_
      intro g
      simp only [List.map_cons, List.map_nil, updL, upd, Nat.reduceEqDiff, if_true, if_false, ↓reduceIte]
      refine hK _ _ ?_; clear hK K
      refine Cd.rr [0, 4, 5, 7] fun K hK => ?_
      simp (maxSteps := 2000000) (disch := first | (simp only [E4, xl] <;> omega) | omega | fail) only [↓E2, E3, bare, bareJ, ↓E0, E1, env0, envN, evOps, evOp, evQs, evQ, evV, setD, pureOp, ev, upd, updL, indexAddrV, cellAt, cellsAt, findB, setB, Value.cells, hav, ↓reduceIte, Zj, Zk, Nat.reduceAdd, Nat.reduceLT, Nat.reduceEqDiff, Nat.reduceMul, Nat.reduceLeDiff, if_true, Zn, reduceCtorEq, ZA, eq_self, Int.reduceLE, Int.reduceLT, Int.reduceToNat, ne_eq, Nat.reduceSub, Tarr30, Tst5, nb1_b, nb2_b1, nb2_b, xl]
      repeat refine And.intro (by omega) ?_
      repeat refine And.intro (by omega) ?_
      intro g
      simp only [List.map_cons, List.map_nil, updL, upd, Nat.reduceEqDiff, if_true, if_false, ↓reduceIte]
      refine hK _ _ ?_; clear hK K
      refine inBN ?_
      refine thenN ?_
      refine Cd.rr [0, 4, 5, 7] fun K hK => ?_
      simp (maxSteps := 2000000) (disch := first | (simp only [E4, xl] <;> omega) | omega | fail) only [↓E2, E3, bare, bareJ, ↓E0, E1, env0, envN, evOps, evOp, evQs, evQ, evV, setD, pureOp, ev, upd, updL, binW, eqOp, binV, intOp, shOp, boolOp, hav, eqL, SameI, strOp, ↓reduceIte, Zj, Zk, Nat.reduceAdd, Nat.reduceLT, Nat.reduceEqDiff, Nat.reduceMul, Nat.reduceLeDiff, if_true, Zn, reduceCtorEq, ZA, eq_self, Int.reduceLE, Int.reduceLT, Int.reduceToNat, ne_eq, Nat.reduceSub, nb1_b, nb2_b1, nb2_b, xl]
      repeat refine And.intro (by omega) ?_
      repeat refine And.intro (by omega) ?_
      intro g
      simp only [List.map_cons, List.map_nil, updL, upd, Nat.reduceEqDiff, if_true, if_false, ↓reduceIte]
      refine hK _ _ ?_; clear hK K
      have e1 := bytes_get hx (i := q) (by omega)
      have e2 := bytes_get hx (i := y') (by omega)
      exact roundN (m := q - 1) (by omega) ⟨_, _, _, t2, h2, by omega, by omega, bytes_set (bytes_set hx e2.1 e2.2) e1.1 e1.2, ho2, rfl, rfl⟩
    · refine Cd.exit (thenX (roundX (inBX ?_)))
      refine thenN ?_
      refine Cd.rs [4] fun K hK => ?_
      simp (maxSteps := 2000000) (disch := first | (simp only [E4, xl] <;> omega) | omega | fail) only [↓E2, E3, bare, bareJ, ↓E0, E1, env0, envN, evOps, evOp, evQs, evQ, evV, setD, pureOp, ev, upd, updL, cellAt, cellsAt, findB, setB, Value.cells, hav, ↓reduceIte, Zj, Zk, Nat.reduceAdd, Nat.reduceLT, Nat.reduceEqDiff, Nat.reduceMul, Nat.reduceLeDiff, if_true, Zn, reduceCtorEq, ZA, eq_self, Int.reduceLE, Int.reduceLT, Int.reduceToNat, ne_eq, Nat.reduceSub, Tld30, Tst30, nb1_b, nb2_b1, nb2_b, xl]
      repeat refine And.intro (by omega) ?_
      repeat refine And.intro (by omega) ?_
      intro g
      simp only [List.map_cons, List.map_nil, updL, upd, Nat.reduceEqDiff, if_true, if_false, ↓reduceIte]
      refine hK _ _ ?_; clear hK K
      refine Cd.ret ?_
      simp (maxSteps := 2000000) (disch := first | (simp only [E4, xl] <;> omega) | omega | fail) only [↓E2, E3, bare, bareJ, ↓E0, E1, evP, evPlan, env0, envN, evOps, evOp, evQs, evQ, evV, setD, pureOp, ev, upd, updL, gate, binW, eqOp, binV, intOp, shOp, boolOp, unV, convV, nilV, fieldAddrV, indexAddrV, extractV, cellAt, cellsAt, findB, setB, fillL, buildV, Value.cells, lenV, minV, maxV, hav, sliceV, loV, hiV, bslQ, mksQ, appQ, partsOk, partsCells, delB, eqL, SameI, strOp, apzQ, cvtQ, capV, ↓reduceIte, Zj, Zk, Nat.reduceAdd, Nat.reduceLT, Nat.reduceEqDiff, Nat.reduceMul, Nat.reduceLeDiff, if_true, Zn, reduceCtorEq, ZA, eq_self, Int.reduceLE, Int.reduceLT, Int.reduceToNat, ne_eq, Nat.reduceSub, Tld30, nb1_b, nb2_b1, nb2_b, xl]
      repeat refine And.intro (by omega) ?_
      exact ⟨t, h, ho, ⟨x, rfl, hx⟩, SubP.of (List.Sublist.cons _ (List.Sublist.cons _ (List.Sublist.refl _)))⟩
end

end Go.Proofs

/-
  What the functions of this part hand back: each as a plain function of its arguments. Conditions: none.
-/
namespace Go.Proofs
open Go.W8
set_option linter.unusedVariables false
set_option linter.unusedSimpArgs false
set_option linter.unusedSectionVars false
set_option maxRecDepth 8000
set_option maxHeartbeats 4000000
section
variable (l : List Int) (cv : Value) (R : Rd) (hin : InB R l cv) (hl : l.length ≤ 4096) (hb : ∀ k, k < l.length → 0 ≤ l.getD k 0 ∧ l.getD k 0 < 256)
include hin hl hb
theorem drawsize_c (b : Nat) (hRb : ∀ r ∈ R, r.1 ≠ b) (n : Nat) (n2 : 2 ≤ n) (n8 : n ≤ 8) : Draws Try.prog 195 [.pointer (some ⟨b, 0, none⟩), .int .i64 (n : Int)] b cv R l.length isSized := by
  refine Draws.of fun t h ho => ?_
  refine GivesX.of (callable_of Try.func195 rfl (by decide)) ?_ fun w hnd hlt hR => ?_
  · simpa using hRb
  refine acall_of (N := 74) (c := _) (rs := [.cell 4 32]) (args := [_, _]) Try.func195 rfl (by decide) rfl rfl (Nat.le_of_ble_eq_true rfl) ?_
  have hR : W8.Told [b] w R := hR
  have hmx := mixed_c l cv R hin hl hb b hRb n n2 n8
  skip
  refine Cd.rs [0, 1, 4] fun K hK => ?_
  simp (maxSteps := 2000000) (disch := first | (simp only [E4] <;> omega) | omega | fail) only [↓E2, E3, bare, bareJ, ↓E0, E1, env0, envN, evOps, evOp, evQs, evQ, evV, setD, pureOp, ev, upd, updL, Value.cells, hav, ↓reduceIte, Zj, Zk, Nat.reduceAdd, Nat.reduceLT, Nat.reduceEqDiff, Nat.reduceMul, Nat.reduceLeDiff, if_true, Zn, reduceCtorEq, ZA, eq_self, Int.reduceLE, Int.reduceLT, Int.reduceToNat, ne_eq, Nat.reduceSub, Tzero32]
  repeat refine And.intro (by omega) ?_
  intro b1 hb1
  have nb1_b := hb1.ne
  try simp (maxSteps := 2000000) (disch := first | (simp only [E4] <;> omega) | omega | fail) only [↓E2, E3, bare, bareJ, ↓E0, E1, env0, envN, evOps, evOp, evQs, evQ, evV, setD, pureOp, ev, upd, updL, Value.cells, hav, ↓reduceIte, Zj, Zk, Nat.reduceAdd, Nat.reduceLT, Nat.reduceEqDiff, Nat.reduceMul, Nat.reduceLeDiff, if_true, Zn, reduceCtorEq, ZA, eq_self, Int.reduceLE, Int.reduceLT, Int.reduceToNat, ne_eq, Nat.reduceSub, Tzero32, nb1_b]
  repeat refine And.intro (by omega) ?_
  repeat refine And.intro (by omega) ?_
  intro g
  simp only [List.map_cons, List.map_nil, updL, upd, Nat.reduceEqDiff, if_true, if_false, ↓reduceIte]
  refine hK _ _ ?_; clear hK K
  refine Cd.rs [1, 4, 5, 6] fun K hK => ?_
  simp (maxSteps := 2000000) (disch := first | (simp only [E4] <;> omega) | omega | fail) only [↓E2, E3, bare, bareJ, ↓E0, E1, env0, envN, evOps, evOp, evQs, evQ, evV, setD, pureOp, ev, upd, updL, cellAt, cellsAt, findB, setB, Value.cells, hav, ↓reduceIte, Zj, Zk, Nat.reduceAdd, Nat.reduceLT, Nat.reduceEqDiff, Nat.reduceMul, Nat.reduceLeDiff, if_true, Zn, reduceCtorEq, ZA, eq_self, Int.reduceLE, Int.reduceLT, Int.reduceToNat, ne_eq, Nat.reduceSub, Tst30, Tzero30, nb1_b]
  repeat refine And.intro (by omega) ?_
  refine callK_draw hmx ho (by simp only [findB, nb1_b, if_true, if_false]) (Told.toldW hR) ?_
  rintro v t2 h2 ho2 ⟨x, rfl, hx⟩
  simp (maxSteps := 2000000) (disch := first | (simp only [E4] <;> omega) | omega | fail) only [↓E2, E3, bare, bareJ, ↓E0, E1, env0, envN, evOps, evOp, evQs, evQ, evV, setD, pureOp, ev, upd, updL, cellAt, cellsAt, findB, setB, Value.cells, hav, ↓reduceIte, Zj, Zk, Nat.reduceAdd, Nat.reduceLT, Nat.reduceEqDiff, Nat.reduceMul, Nat.reduceLeDiff, if_true, Zn, reduceCtorEq, ZA, eq_self, Int.reduceLE, Int.reduceLT, Int.reduceToNat, ne_eq, Nat.reduceSub, Tst30, Tzero30, nb1_b]
  repeat refine And.intro (by omega) ?_
  refine callK_draw hmx ho2 (by simp only [findB, nb1_b, if_true, if_false]) (Told.toldW hR) ?_
  rintro v t3 h3 ho3 ⟨o, rfl, hy⟩
  have xl := hx.len
  have ol := hy.len
  skip
  simp (maxSteps := 2000000) (disch := first | (simp only [E4, xl, ol] <;> omega) | omega | fail) only [↓E2, E3, bare, bareJ, ↓E0, E1, env0, envN, evOps, evOp, evQs, evQ, evV, setD, pureOp, ev, upd, updL, cellAt, cellsAt, findB, setB, Value.cells, hav, ↓reduceIte, Zj, Zk, Nat.reduceAdd, Nat.reduceLT, Nat.reduceEqDiff, Nat.reduceMul, Nat.reduceLeDiff, if_true, Zn, reduceCtorEq, ZA, eq_self, Int.reduceLE, Int.reduceLT, Int.reduceToNat, ne_eq, Nat.reduceSub, Tst30, Tzero30, nb1_b, xl, ol]
  repeat refine And.intro (by omega) ?_
  intro b2 hb2
  have nb2_b1 := hb2.ne
  have nb2_b := hb2.tail.ne
  intro b3 hb3
  have nb3_b2 := hb3.ne
  have nb3_b1 := hb3.tail.ne
  have nb3_b := hb3.tail.tail.ne
  try simp (maxSteps := 2000000) (disch := first | (simp only [E4, xl, ol] <;> omega) | omega | fail) only [↓E2, E3, bare, bareJ, ↓E0, E1, env0, envN, evOps, evOp, evQs, evQ, evV, setD, pureOp, ev, upd, updL, cellAt, cellsAt, findB, setB, Value.cells, hav, ↓reduceIte, Zj, Zk, Nat.reduceAdd, Nat.reduceLT, Nat.reduceEqDiff, Nat.reduceMul, Nat.reduceLeDiff, if_true, Zn, reduceCtorEq, ZA, eq_self, Int.reduceLE, Int.reduceLT, Int.reduceToNat, ne_eq, Nat.reduceSub, Tst30, Tzero30, nb1_b, xl, ol, nb2_b1, nb2_b, nb3_b2, nb3_b1, nb3_b]
  repeat refine And.intro (by omega) ?_
  repeat refine And.intro (by omega) ?_
  intro g
  simp only [List.map_cons, List.map_nil, updL, upd, Nat.reduceEqDiff, if_true, if_false, ↓reduceIte]
  refine hK _ _ ?_; clear hK K
  clear ho ho2 hmx
  refine Cd.seq ?_
  refine Cd.rs [1, 4, 5, 6, 7] fun K hK => ?_
  simp (maxSteps := 2000000) (disch := first | (simp only [E4, xl, ol] <;> omega) | omega | fail) only [↓E2, E3, bare, bareJ, ↓E0, E1, env0, envN, evOps, evOp, evQs, evQ, evV, setD, pureOp, ev, upd, updL, hav, ↓reduceIte, Zj, Zk, Nat.reduceAdd, Nat.reduceLT, Nat.reduceEqDiff, Nat.reduceMul, Nat.reduceLeDiff, if_true, Zn, reduceCtorEq, ZA, eq_self, Int.reduceLE, Int.reduceLT, Int.reduceToNat, ne_eq, Nat.reduceSub, nb1_b, xl, ol, nb2_b1, nb2_b, nb3_b2, nb3_b1, nb3_b]
  repeat refine And.intro (by omega) ?_
  repeat refine And.intro (by omega) ?_
  intro g
  simp only [List.map_cons, List.map_nil, updL, upd, Nat.reduceEqDiff, if_true, if_false, ↓reduceIte]
  refine hK _ _ ?_; clear hK K
  refine Cd.block ?_
  refine Cd.loop (fun q ρ M => ∃ g k o t h, Bytes8 o ∧ okS l.length t h ∧ k + q = 3 * n ∧ ρ = updL [(1, .int .i64 (n : Int)), (4, .pointer (some ⟨b1, 0, none⟩)), (5, .pointer (some ⟨b2, 0, none⟩)), (6, .pointer (some ⟨b3, 0, none⟩)), (7, .int .i64 (k : Int))] g ∧ M = [(b3, ints .u8 o), (b2, ints .u8 x), (b1, gc 0 z8 z8), (b, srcC cv t h)]) (3 * n) ⟨_, 0, o, t3, h3, hy, ho3, Nat.zero_add _, rfl, rfl⟩ ?_
  clear hy ho3 ol
  rintro q ρ M ⟨g, k, o, t, h, hy, ho, hk, rfl, rfl⟩
  have ol := hy.len
  skip
  refine Cd.seq ?_
  refine Cd.rs [1, 4, 5, 6, 7, 22] fun K hK => ?_
  simp (maxSteps := 2000000) (disch := first | (simp only [E4, xl, ol] <;> omega) | omega | fail) only [↓E2, E3, bare, bareJ, ↓E0, E1, env0, envN, evOps, evOp, evQs, evQ, evV, setD, pureOp, ev, upd, updL, binW, eqOp, binV, intOp, shOp, boolOp, hav, eqL, SameI, strOp, ↓reduceIte, Zj, Zk, Nat.reduceAdd, Nat.reduceLT, Nat.reduceEqDiff, Nat.reduceMul, Nat.reduceLeDiff, if_true, Zn, reduceCtorEq, ZA, eq_self, Int.reduceLE, Int.reduceLT, Int.reduceToNat, ne_eq, Nat.reduceSub, nb1_b, xl, ol, nb2_b1, nb2_b, nb3_b2, nb3_b1, nb3_b]
  repeat refine And.intro (by omega) ?_
  repeat refine And.intro (by omega) ?_
  intro g
  simp only [List.map_cons, List.map_nil, updL, upd, Nat.reduceEqDiff, if_true, if_false, ↓reduceIte]
  refine hK _ _ ?_; clear hK K
  refine Cd.condd rfl (fun c1 => ?_) (fun c1 => ?_)
  · refine Cd.skip ?_
    refine thenN ?_
    refine Cd.midq (fun ρ M => ∃ g o, Bytes8 o ∧ ρ = updL [(1, .int .i64 (n : Int)), (4, .pointer (some ⟨b1, 0, none⟩)), (5, .pointer (some ⟨b2, 0, none⟩)), (6, .pointer (some ⟨b3, 0, none⟩)), (7, .int .i64 (k : Int))] g ∧ M = [(b3, ints .u8 o), (b2, ints .u8 x), (b1, gc 0 z8 z8), (b, srcC cv t h)]) ?_ ?_
    · refine Cd.block ?_
      refine Cd.rs [1, 4, 5, 6, 7, 8] fun K hK => ?_
      simp (maxSteps := 2000000) (disch := first | (simp only [E4, xl, ol] <;> omega) | omega | fail) only [↓E2, E3, bare, bareJ, ↓E0, E1, env0, envN, evOps, evOp, evQs, evQ, evV, setD, pureOp, ev, upd, updL, binW, eqOp, binV, intOp, shOp, boolOp, hav, eqL, SameI, strOp, ↓reduceIte, Zj, Zk, Nat.reduceAdd, Nat.reduceLT, Nat.reduceEqDiff, Nat.reduceMul, Nat.reduceLeDiff, if_true, Zn, reduceCtorEq, ZA, eq_self, Int.reduceLE, Int.reduceLT, Int.reduceToNat, ne_eq, Nat.reduceSub, nb1_b, xl, ol, nb2_b1, nb2_b, nb3_b2, nb3_b1, nb3_b]
      repeat refine And.intro (by omega) ?_
      repeat refine And.intro (by omega) ?_
      intro g
      simp only [List.map_cons, List.map_nil, updL, upd, Nat.reduceEqDiff, if_true, if_false, ↓reduceIte]
      refine hK _ _ ?_; clear hK K
      obtain ⟨i, ei, hi⟩ : ∃ i : Nat, ((k : Int) % (n : Int)) = (i : Int) ∧ i < n := ⟨k % n, rfl, Nat.mod_lt _ (by omega)⟩
      rw [ei]
      clear ei
      refine Cd.qs [1, 4, 5, 6, 7, 8, 34] fol (by kernel_rfl) fun K hK => ?_
      simp (maxSteps := 2000000) (disch := first | (simp only [E4, xl, ol] <;> omega) | omega | fail) only [↓E2, E3, bare, bareJ, ↓E0, E1, evPlan, env0, envN, evOps, evOp, evQs, evQ, evV, setD, pureOp, ev, upd, updL, binW, eqOp, binV, intOp, shOp, boolOp, indexAddrV, cellAt, cellsAt, findB, hav, eqL, SameI, strOp, ↓reduceIte, Zj, Zk, Nat.reduceAdd, Nat.reduceLT, Nat.reduceEqDiff, Nat.reduceMul, Nat.reduceLeDiff, if_true, Zn, reduceCtorEq, ZA, eq_self, Int.reduceLE, Int.reduceLT, Int.reduceToNat, ne_eq, Nat.reduceSub, Tarr30, Tld5, nb1_b, xl, ol, nb2_b1, nb2_b, nb3_b2, nb3_b1, nb3_b]
      repeat refine And.intro (by omega) ?_
      repeat refine And.intro (by omega) ?_
      intro g
      simp only [List.map_cons, List.map_nil, updL, upd, Nat.reduceEqDiff, if_true, if_false, ↓reduceIte]
      refine hK _ ?_; clear hK K
      refine Cd.cond rfl (fun c2 => ?_) (fun c2 => ?_)
      · refine Cd.rs [1, 4, 5, 6, 7, 8, 9] fun K hK => ?_
        simp (maxSteps := 2000000) (disch := first | (simp only [E4, xl, ol] <;> omega) | omega | fail) only [↓E2, E3, bare, bareJ, ↓E0, E1, env0, envN, evOps, evOp, evQs, evQ, evV, setD, pureOp, ev, upd, updL, binW, eqOp, binV, intOp, shOp, boolOp, hav, eqL, SameI, strOp, ↓reduceIte, Zj, Zk, Nat.reduceAdd, Nat.reduceLT, Nat.reduceEqDiff, Nat.reduceMul, Nat.reduceLeDiff, if_true, Zn, reduceCtorEq, ZA, eq_self, Int.reduceLE, Int.reduceLT, Int.reduceToNat, ne_eq, Nat.reduceSub, nb1_b, xl, ol, nb2_b1, nb2_b, nb3_b2, nb3_b1, nb3_b]
        repeat refine And.intro (by omega) ?_
        repeat refine And.intro (by omega) ?_
        intro g
        simp only [List.map_cons, List.map_nil, updL, upd, Nat.reduceEqDiff, if_true, if_false, ↓reduceIte]
        refine hK _ _ ?_; clear hK K
        obtain ⟨j, ej, hj⟩ : ∃ j : Nat, (((i : Int) + 1) % (n : Int)) = (j : Int) ∧ j < n := ⟨(i + 1) % n, rfl, Nat.mod_lt _ (by omega)⟩
        rw [ej]
        clear ej
        refine Cd.rs [1, 4, 5, 6, 7, 8, 9, 10] fun K hK => ?_
        simp (maxSteps := 2000000) (disch := first | (simp only [E4, xl, ol] <;> omega) | omega | fail) only [↓E2, E3, bare, bareJ, ↓E0, E1, env0, envN, evOps, evOp, evQs, evQ, evV, setD, pureOp, ev, upd, updL, indexAddrV, cellAt, cellsAt, findB, hav, ↓reduceIte, Zj, Zk, Nat.reduceAdd, Nat.reduceLT, Nat.reduceEqDiff, Nat.reduceMul, Nat.reduceLeDiff, if_true, Zn, reduceCtorEq, ZA, eq_self, Int.reduceLE, Int.reduceLT, Int.reduceToNat, ne_eq, Nat.reduceSub, Tarr30, Tld5, nb1_b, xl, ol, nb2_b1, nb2_b, nb3_b2, nb3_b1, nb3_b]
        repeat refine And.intro (by omega) ?_
        repeat refine And.intro (by omega) ?_
        intro g
        simp only [List.map_cons, List.map_nil, updL, upd, Nat.reduceEqDiff, if_true, if_false, ↓reduceIte]
        refine hK _ _ ?_; clear hK K
        refine Cd.rs [1, 4, 5, 6, 7, 9, 10] fun K hK => ?_
        simp (maxSteps := 2000000) (disch := first | (simp only [E4, xl, ol] <;> omega) | omega | fail) only [↓E2, E3, bare, bareJ, ↓E0, E1, env0, envN, evOps, evOp, evQs, evQ, evV, setD, pureOp, ev, upd, updL, indexAddrV, cellAt, cellsAt, findB, setB, Value.cells, hav, ↓reduceIte, Zj, Zk, Nat.reduceAdd, Nat.reduceLT, Nat.reduceEqDiff, Nat.reduceMul, Nat.reduceLeDiff, if_true, Zn, reduceCtorEq, ZA, eq_self, Int.reduceLE, Int.reduceLT, Int.reduceToNat, ne_eq, Nat.reduceSub, Tarr30, Tld5, Tst5, nb1_b, xl, ol, nb2_b1, nb2_b, nb3_b2, nb3_b1, nb3_b]
        repeat refine And.intro (by omega) ?_
        repeat refine And.intro (by omega) ?_
        intro g
        simp only [List.map_cons, List.map_nil, updL, upd, Nat.reduceEqDiff, if_true, if_false, ↓reduceIte]
        refine hK _ _ ?_; clear hK K
        refine Cd.rr [1, 4, 5, 6, 7] fun K hK => ?_
        simp (maxSteps := 2000000) (disch := first | (simp only [E4, xl, ol] <;> omega) | omega | fail) only [↓E2, E3, bare, bareJ, ↓E0, E1, env0, envN, evOps, evOp, evQs, evQ, evV, setD, pureOp, ev, upd, updL, indexAddrV, cellAt, cellsAt, findB, setB, Value.cells, hav, ↓reduceIte, Zj, Zk, Nat.reduceAdd, Nat.reduceLT, Nat.reduceEqDiff, Nat.reduceMul, Nat.reduceLeDiff, if_true, Zn, reduceCtorEq, ZA, eq_self, Int.reduceLE, Int.reduceLT, Int.reduceToNat, ne_eq, Nat.reduceSub, Tarr30, Tst5, nb1_b, xl, ol, nb2_b1, nb2_b, nb3_b2, nb3_b1, nb3_b]
        repeat refine And.intro (by omega) ?_
        repeat refine And.intro (by omega) ?_
        intro g
        simp only [List.map_cons, List.map_nil, updL, upd, Nat.reduceEqDiff, if_true, if_false, ↓reduceIte]
        refine hK _ _ ?_; clear hK K
        have e1 := bytes_get hy (i := i) (by omega)
        have e2 := bytes_get hy (i := j) (by omega)
        refine inBN ?_
        exact midN ⟨_, _, bytes_set (bytes_set hy e2.1 e2.2) e1.1 e1.2, rfl, rfl⟩
      · refine Cd.skip ?_
        refine inBN ?_
        exact midN ⟨_, o, hy, (norm_of (by repeat (first | exact trivial | refine And.intro rfl ?_))), rfl⟩
    · rintro ρ M ⟨g, o, hy, rfl, rfl⟩
      refine Cd.rr [1, 4, 5, 6, 7] fun K hK => ?_
      simp (maxSteps := 2000000) (disch := first | (simp only [E4, xl, ol] <;> omega) | omega | fail) only [↓E2, E3, bare, bareJ, ↓E0, E1, env0, envN, evOps, evOp, evQs, evQ, evV, setD, pureOp, ev, upd, updL, binW, eqOp, binV, intOp, shOp, boolOp, hav, eqL, SameI, strOp, ↓reduceIte, Zj, Zk, Nat.reduceAdd, Nat.reduceLT, Nat.reduceEqDiff, Nat.reduceMul, Nat.reduceLeDiff, if_true, Zn, reduceCtorEq, ZA, eq_self, Int.reduceLE, Int.reduceLT, Int.reduceToNat, ne_eq, Nat.reduceSub, nb1_b, xl, ol, nb2_b1, nb2_b, nb3_b2, nb3_b1, nb3_b]
      repeat refine And.intro (by omega) ?_
      repeat refine And.intro (by omega) ?_
      intro g
      simp only [List.map_cons, List.map_nil, updL, upd, Nat.reduceEqDiff, if_true, if_false, ↓reduceIte]
      refine hK _ _ ?_; clear hK K
      exact roundN (m := q - 1) (by omega) ⟨_, k + 1, o, t, h, hy, ho, by omega, rfl, rfl⟩
  · refine Cd.exit (thenX (roundX (inBX ?_)))
    refine thenN ?_
    refine Cd.rs [1, 4, 5, 11] fun K hK => ?_
    simp (maxSteps := 2000000) (disch := first | (simp only [E4, xl, ol] <;> omega) | omega | fail) only [↓E2, E3, bare, bareJ, ↓E0, E1, evP, env0, envN, evOps, evOp, evQs, evQ, evV, setD, pureOp, ev, upd, updL, cellAt, cellsAt, findB, setB, fillL, buildV, Value.cells, hav, ↓reduceIte, Zj, Zk, Nat.reduceAdd, Nat.reduceLT, Nat.reduceEqDiff, Nat.reduceMul, Nat.reduceLeDiff, if_true, Zn, reduceCtorEq, ZA, eq_self, Int.reduceLE, Int.reduceLT, Int.reduceToNat, ne_eq, Nat.reduceSub, Tbld32, Tld30, Tst32, Tzero32, nb1_b, xl, ol, nb2_b1, nb2_b, nb3_b2, nb3_b1, nb3_b]
    repeat refine And.intro (by omega) ?_
    intro b4 hb4
    have nb4_b3 := hb4.ne
    have nb4_b2 := hb4.tail.ne
    have nb4_b1 := hb4.tail.tail.ne
    have nb4_b := hb4.tail.tail.tail.ne
    try simp (maxSteps := 2000000) (disch := first | (simp only [E4, xl, ol] <;> omega) | omega | fail) only [↓E2, E3, bare, bareJ, ↓E0, E1, evP, env0, envN, evOps, evOp, evQs, evQ, evV, setD, pureOp, ev, upd, updL, cellAt, cellsAt, findB, setB, fillL, buildV, Value.cells, hav, ↓reduceIte, Zj, Zk, Nat.reduceAdd, Nat.reduceLT, Nat.reduceEqDiff, Nat.reduceMul, Nat.reduceLeDiff, if_true, Zn, reduceCtorEq, ZA, eq_self, Int.reduceLE, Int.reduceLT, Int.reduceToNat, ne_eq, Nat.reduceSub, Tbld32, Tld30, Tst32, Tzero32, nb1_b, xl, ol, nb2_b1, nb2_b, nb3_b2, nb3_b1, nb3_b, nb4_b3, nb4_b2, nb4_b1, nb4_b]
    repeat refine And.intro (by omega) ?_
    repeat refine And.intro (by omega) ?_
    intro g
    simp only [List.map_cons, List.map_nil, updL, upd, Nat.reduceEqDiff, if_true, if_false, ↓reduceIte]
    refine hK _ _ ?_; clear hK K
    refine Cd.midq (fun ρ M => ∃ g o', Bytes8 o' ∧ ρ = updL [(4, .pointer (some ⟨b1, 0, none⟩)), (11, .pointer (some ⟨b4, 0, none⟩))] g ∧ M = (b4, gc (n : Int) x o') :: [(b3, ints .u8 o), (b2, ints .u8 x), (b1, gc 0 z8 z8), (b, srcC cv t h)]) ?_ ?_
    · refine Cd.rs [1, 4, 5, 11, 56] fun K hK => ?_
      simp (maxSteps := 2000000) (disch := first | (simp only [E4, xl, ol] <;> omega) | omega | fail) only [↓E2, E3, bare, bareJ, ↓E0, E1, env0, envN, evOps, evOp, evQs, evQ, evV, setD, pureOp, ev, upd, updL, unV, cellAt, cellsAt, findB, setB, hav, ↓reduceIte, Zj, Zk, Nat.reduceAdd, Nat.reduceLT, Nat.reduceEqDiff, Nat.reduceMul, Nat.reduceLeDiff, if_true, Zn, reduceCtorEq, ZA, eq_self, Int.reduceLE, Int.reduceLT, Int.reduceToNat, ne_eq, Nat.reduceSub, Tld32, nb1_b, xl, ol, nb2_b1, nb2_b, nb3_b2, nb3_b1, nb3_b, nb4_b3, nb4_b2, nb4_b1, nb4_b]
      repeat refine And.intro (by omega) ?_
      refine callK_gives (l01Is_c _ _ _ hx hy) ?_
      simp (maxSteps := 2000000) (disch := first | (simp only [E4, xl, ol] <;> omega) | omega | fail) only [↓E2, E3, bare, bareJ, ↓E0, E1, env0, envN, evOps, evOp, evQs, evQ, evV, setD, pureOp, ev, upd, updL, unV, cellAt, cellsAt, findB, setB, hav, ↓reduceIte, Zj, Zk, Nat.reduceAdd, Nat.reduceLT, Nat.reduceEqDiff, Nat.reduceMul, Nat.reduceLeDiff, if_true, Zn, reduceCtorEq, ZA, eq_self, Int.reduceLE, Int.reduceLT, Int.reduceToNat, ne_eq, Nat.reduceSub, Tld32, nb1_b, xl, ol, nb2_b1, nb2_b, nb3_b2, nb3_b1, nb3_b, nb4_b3, nb4_b2, nb4_b1, nb4_b]
      repeat refine And.intro (by omega) ?_
      repeat refine And.intro (by omega) ?_
      intro g
      simp only [List.map_cons, List.map_nil, updL, upd, Nat.reduceEqDiff, if_true, if_false, ↓reduceIte]
      refine hK _ _ ?_; clear hK K
      refine Cd.cond rfl (fun c3 => ?_) (fun c3 => ?_)
      · refine Cd.rs [1, 4, 5, 11, 12] fun K hK => ?_
        simp (maxSteps := 2000000) (disch := first | (simp only [E4, xl, ol] <;> omega) | omega | fail) only [↓E2, E3, bare, bareJ, ↓E0, E1, env0, envN, evOps, evOp, evQs, evQ, evV, setD, pureOp, ev, upd, updL, hav, ↓reduceIte, Zj, Zk, Nat.reduceAdd, Nat.reduceLT, Nat.reduceEqDiff, Nat.reduceMul, Nat.reduceLeDiff, if_true, Zn, reduceCtorEq, ZA, eq_self, Int.reduceLE, Int.reduceLT, Int.reduceToNat, ne_eq, Nat.reduceSub, nb1_b, xl, ol, nb2_b1, nb2_b, nb3_b2, nb3_b1, nb3_b, nb4_b3, nb4_b2, nb4_b1, nb4_b]
        repeat refine And.intro (by omega) ?_
        repeat refine And.intro (by omega) ?_
        intro g
        simp only [List.map_cons, List.map_nil, updL, upd, Nat.reduceEqDiff, if_true, if_false, ↓reduceIte]
        refine hK _ _ ?_; clear hK K
        refine Cd.block ?_
        refine Cd.loop (fun q ρ M => ∃ g k o', Bytes8 o' ∧ k + q = n ∧ ρ = updL [(1, .int .i64 (n : Int)), (4, .pointer (some ⟨b1, 0, none⟩)), (5, .pointer (some ⟨b2, 0, none⟩)), (11, .pointer (some ⟨b4, 0, none⟩)), (12, .int .i64 (k : Int))] g ∧ M = (b4, gc (n : Int) x o') :: [(b3, ints .u8 o), (b2, ints .u8 x), (b1, gc 0 z8 z8), (b, srcC cv t h)]) n ⟨_, 0, o, hy, Nat.zero_add _, rfl, rfl⟩ ?_
        rintro q2 ρ M ⟨g, k, o', hy', hk2, rfl, rfl⟩
        have ol' := hy'.len
        skip
        refine Cd.seq ?_
        refine Cd.rs [1, 4, 5, 11, 12, 59] fun K hK => ?_
        simp (maxSteps := 2000000) (disch := first | (simp only [E4, xl, ol, ol'] <;> omega) | omega | fail) only [↓E2, E3, bare, bareJ, ↓E0, E1, env0, envN, evOps, evOp, evQs, evQ, evV, setD, pureOp, ev, upd, updL, binW, eqOp, binV, intOp, shOp, boolOp, hav, eqL, SameI, strOp, ↓reduceIte, Zj, Zk, Nat.reduceAdd, Nat.reduceLT, Nat.reduceEqDiff, Nat.reduceMul, Nat.reduceLeDiff, if_true, Zn, reduceCtorEq, ZA, eq_self, Int.reduceLE, Int.reduceLT, Int.reduceToNat, ne_eq, Nat.reduceSub, nb1_b, xl, ol, nb2_b1, nb2_b, nb3_b2, nb3_b1, nb3_b, nb4_b3, nb4_b2, nb4_b1, nb4_b, ol']
        repeat refine And.intro (by omega) ?_
        repeat refine And.intro (by omega) ?_
        intro g
        simp only [List.map_cons, List.map_nil, updL, upd, Nat.reduceEqDiff, if_true, if_false, ↓reduceIte]
        refine hK _ _ ?_; clear hK K
        refine Cd.condd rfl (fun c4 => ?_) (fun c4 => ?_)
        · refine Cd.skip ?_
          refine thenN ?_
          refine Cd.seq ?_
          refine Cd.block ?_
          have e0 := bytes_get hx (i := k) (by omega)
          have e1 := Int.emod_nonneg (x.getD k 0 + 1) (show (n : Int) ≠ 0 by omega)
          have e2 := Int.emod_lt_of_pos (x.getD k 0 + 1) (show 0 < (n : Int) by omega)
          refine Cd.rr [1, 4, 5, 11, 12] fun K hK => ?_
          simp (maxSteps := 2000000) (disch := first | (simp only [E4, xl, ol, ol'] <;> omega) | omega | fail) only [↓E2, E3, bare, bareJ, ↓E0, E1, env0, envN, evOps, evOp, evQs, evQ, evV, setD, pureOp, ev, upd, updL, binW, eqOp, binV, intOp, shOp, boolOp, convV, fieldAddrV, indexAddrV, cellAt, cellsAt, findB, setB, Value.cells, hav, eqL, SameI, strOp, cvtQ, ↓reduceIte, Zj, Zk, Nat.reduceAdd, Nat.reduceLT, Nat.reduceEqDiff, Nat.reduceMul, Nat.reduceLeDiff, if_true, Zn, reduceCtorEq, ZA, eq_self, Int.reduceLE, Int.reduceLT, Int.reduceToNat, ne_eq, Nat.reduceSub, Tarr30, Tfld32_2, Tint2, Tint5, Tld5, Tpar2, Tpar5, Tst5, nb1_b, xl, ol, nb2_b1, nb2_b, nb3_b2, nb3_b1, nb3_b, nb4_b3, nb4_b2, nb4_b1, nb4_b, ol']
          repeat refine And.intro (by omega) ?_
          repeat refine And.intro (by omega) ?_
          intro g
          simp only [List.map_cons, List.map_nil, updL, upd, Nat.reduceEqDiff, if_true, if_false, ↓reduceIte]
          refine hK _ _ ?_; clear hK K
          refine inBN ?_
          refine thenN ?_
          refine Cd.rr [1, 4, 5, 11, 12] fun K hK => ?_
          simp (maxSteps := 2000000) (disch := first | (simp only [E4, xl, ol, ol'] <;> omega) | omega | fail) only [↓E2, E3, bare, bareJ, ↓E0, E1, env0, envN, evOps, evOp, evQs, evQ, evV, setD, pureOp, ev, upd, updL, binW, eqOp, binV, intOp, shOp, boolOp, hav, eqL, SameI, strOp, ↓reduceIte, Zj, Zk, Nat.reduceAdd, Nat.reduceLT, Nat.reduceEqDiff, Nat.reduceMul, Nat.reduceLeDiff, if_true, Zn, reduceCtorEq, ZA, eq_self, Int.reduceLE, Int.reduceLT, Int.reduceToNat, ne_eq, Nat.reduceSub, nb1_b, xl, ol, nb2_b1, nb2_b, nb3_b2, nb3_b1, nb3_b, nb4_b3, nb4_b2, nb4_b1, nb4_b, ol']
          repeat refine And.intro (by omega) ?_
          repeat refine And.intro (by omega) ?_
          intro g
          simp only [List.map_cons, List.map_nil, updL, upd, Nat.reduceEqDiff, if_true, if_false, ↓reduceIte]
          refine hK _ _ ?_; clear hK K
          exact roundN (m := q2 - 1) (by omega) ⟨_, k + 1, _, bytes_set hy' (by omega) (by omega), by omega, rfl, rfl⟩
        · refine Cd.exit (thenX (roundX (inBX ?_)))
          exact midN ⟨_, o', hy', (norm_of (by repeat (first | exact trivial | refine And.intro rfl ?_))), rfl⟩
      · refine Cd.skip ?_
        exact midN ⟨_, o, hy, (norm_of (by repeat (first | exact trivial | refine And.intro rfl ?_))), rfl⟩
    · rintro ρ M ⟨g, o', hy', rfl, rfl⟩
      have ol' := hy'.len
      skip
      refine Cd.rs [4] fun K hK => ?_
      simp (maxSteps := 2000000) (disch := first | (simp only [E4, xl, ol, ol'] <;> omega) | omega | fail) only [↓E2, E3, bare, bareJ, ↓E0, E1, env0, envN, evOps, evOp, evQs, evQ, evV, setD, pureOp, ev, upd, updL, cellAt, cellsAt, findB, setB, Value.cells, hav, ↓reduceIte, Zj, Zk, Nat.reduceAdd, Nat.reduceLT, Nat.reduceEqDiff, Nat.reduceMul, Nat.reduceLeDiff, if_true, Zn, reduceCtorEq, ZA, eq_self, Int.reduceLE, Int.reduceLT, Int.reduceToNat, ne_eq, Nat.reduceSub, Tld32, Tst32, nb1_b, xl, ol, nb2_b1, nb2_b, nb3_b2, nb3_b1, nb3_b, nb4_b3, nb4_b2, nb4_b1, nb4_b, ol']
      repeat refine And.intro (by omega) ?_
      repeat refine And.intro (by omega) ?_
      intro g
      simp only [List.map_cons, List.map_nil, updL, upd, Nat.reduceEqDiff, if_true, if_false, ↓reduceIte]
      refine hK _ _ ?_; clear hK K
      refine Cd.ret ?_
      simp (maxSteps := 2000000) (disch := first | (simp only [E4, xl, ol, ol'] <;> omega) | omega | fail) only [↓E2, E3, bare, bareJ, ↓E0, E1, evP, evPlan, env0, envN, evOps, evOp, evQs, evQ, evV, setD, pureOp, ev, upd, updL, gate, binW, eqOp, binV, intOp, shOp, boolOp, unV, convV, nilV, fieldAddrV, indexAddrV, extractV, cellAt, cellsAt, findB, setB, fillL, buildV, Value.cells, lenV, minV, maxV, hav, sliceV, loV, hiV, bslQ, mksQ, appQ, partsOk, partsCells, delB, eqL, SameI, strOp, apzQ, cvtQ, capV, ↓reduceIte, Zj, Zk, Nat.reduceAdd, Nat.reduceLT, Nat.reduceEqDiff, Nat.reduceMul, Nat.reduceLeDiff, if_true, Zn, reduceCtorEq, ZA, eq_self, Int.reduceLE, Int.reduceLT, Int.reduceToNat, ne_eq, Nat.reduceSub, Tld32, nb1_b, xl, ol, nb2_b1, nb2_b, nb3_b2, nb3_b1, nb3_b, nb4_b3, nb4_b2, nb4_b1, nb4_b, ol']
      repeat refine And.intro (by omega) ?_
      exact ⟨t, h, ho, ⟨_, x, o', rfl, ⟨by omega, by omega⟩, hx, hy'⟩, SubP.of (List.Sublist.cons _ (List.Sublist.cons _ (List.Sublist.cons _ (List.Sublist.cons _ (List.Sublist.refl _)))))⟩
omit hin hl hb
theorem rolled_c (n v u : Int) (x o : List Int) (hx : Bytes8 x) (ho : Bytes8 o) (n2 : 2 ≤ n) (n8 : n ≤ 8) (v0 : 0 ≤ v) (v8 : v ≤ 100) (u0 : 0 ≤ u) (u8 : u ≤ 100) : GivesX Try.prog 194 #[.agg (gc n x o).toArray, .int .i64 v, .int .i64 u] [] [] (fun r M' => isSized r ∧ M' = []) := by
  obtain ⟨n, rfl⟩ : ∃ k : Nat, n = (k : Int) := ⟨n.toNat, by omega⟩
  have xl := hx.len
  have ol := ho.len
  skip
  refine GivesX.part ?_
  refine GivesX.of (callable_of Try.func194 rfl (by decide)) ?_ fun w hnd hlt hR => ?_
  · simp
  refine acall_of (N := 65) (c := _) (rs := [.cell 6 32]) (args := [_, _, _]) Try.func194 rfl (by decide) rfl rfl (Nat.le_of_ble_eq_true rfl) ?_
  refine Cd.rs [1, 2, 3, 6] fun K hK => ?_
  simp (maxSteps := 2000000) (disch := first | (simp only [E4, xl, ol] <;> omega) | omega | fail) only [↓E2, E3, bare, bareJ, ↓E0, E1, env0, envN, evOps, evOp, evQs, evQ, evV, setD, pureOp, ev, upd, updL, Value.cells, hav, ↓reduceIte, Zj, Zk, Nat.reduceAdd, Nat.reduceLT, Nat.reduceEqDiff, Nat.reduceMul, Nat.reduceLeDiff, if_true, Zn, reduceCtorEq, ZA, eq_self, Int.reduceLE, Int.reduceLT, Int.reduceToNat, ne_eq, Nat.reduceSub, Tzero32, xl, ol]
  repeat refine And.intro (by omega) ?_
  intro b1 hb1
  intro b2 hb2
  have nb2_b1 := hb2.ne
  try simp (maxSteps := 2000000) (disch := first | (simp only [E4, xl, ol] <;> omega) | omega | fail) only [↓E2, E3, bare, bareJ, ↓E0, E1, env0, envN, evOps, evOp, evQs, evQ, evV, setD, pureOp, ev, upd, updL, Value.cells, hav, ↓reduceIte, Zj, Zk, Nat.reduceAdd, Nat.reduceLT, Nat.reduceEqDiff, Nat.reduceMul, Nat.reduceLeDiff, if_true, Zn, reduceCtorEq, ZA, eq_self, Int.reduceLE, Int.reduceLT, Int.reduceToNat, ne_eq, Nat.reduceSub, Tzero32, xl, ol, nb2_b1]
  repeat refine And.intro (by omega) ?_
  repeat refine And.intro (by omega) ?_
  intro g
  simp only [List.map_cons, List.map_nil, updL, upd, Nat.reduceEqDiff, if_true, if_false, ↓reduceIte]
  refine hK _ _ ?_; clear hK K
  refine Cd.ps [1, 2, 3, 6, 7, 8] (Plan.take 0 (Plan.take 1 (Plan.take 2 (Plan.take 3 (Plan.take 4 (Plan.one 5 (Plan.take 6 (Plan.one 7 (Plan.done))))))))) fol (by kernel_rfl) (Nat.le_of_ble_eq_true rfl) fun K hK => ?_
  simp (maxSteps := 2000000) (disch := first | (simp only [E4, xl, ol] <;> omega) | omega | fail) only [↓E2, E3, bare, bareJ, ↓E0, E1, evP, evPlan, env0, envN, evOps, evOp, evQs, evQ, evV, setD, pureOp, ev, upd, updL, fieldAddrV, cellAt, cellsAt, findB, setB, fillL, buildV, Value.cells, hav, ↓reduceIte, Zj, Zk, Nat.reduceAdd, Nat.reduceLT, Nat.reduceEqDiff, Nat.reduceMul, Nat.reduceLeDiff, if_true, Zn, reduceCtorEq, ZA, eq_self, Int.reduceLE, Int.reduceLT, Int.reduceToNat, ne_eq, Nat.reduceSub, Tbld32, Tfld32_0, Tld2, Tst32, Tzero32, xl, ol, nb2_b1]
  repeat refine And.intro (by omega) ?_
  intro b3 hb3
  have nb3_b2 := hb3.ne
  have nb3_b1 := hb3.tail.ne
  try simp (maxSteps := 2000000) (disch := first | (simp only [E4, xl, ol] <;> omega) | omega | fail) only [↓E2, E3, bare, bareJ, ↓E0, E1, evP, evPlan, env0, envN, evOps, evOp, evQs, evQ, evV, setD, pureOp, ev, upd, updL, fieldAddrV, cellAt, cellsAt, findB, setB, fillL, buildV, Value.cells, hav, ↓reduceIte, Zj, Zk, Nat.reduceAdd, Nat.reduceLT, Nat.reduceEqDiff, Nat.reduceMul, Nat.reduceLeDiff, if_true, Zn, reduceCtorEq, ZA, eq_self, Int.reduceLE, Int.reduceLT, Int.reduceToNat, ne_eq, Nat.reduceSub, Tbld32, Tfld32_0, Tld2, Tst32, Tzero32, xl, ol, nb2_b1, nb3_b2, nb3_b1]
  repeat refine And.intro (by omega) ?_
  repeat refine And.intro (by omega) ?_
  intro g
  simp only [List.map_cons, List.map_nil, updL, upd, Nat.reduceEqDiff, if_true, if_false, ↓reduceIte]
  refine hK _ _ ?_; clear hK K
  refine Cd.seq ?_
  refine Cd.rs [1, 2, 3, 6, 7, 8, 9] fun K hK => ?_
  simp (maxSteps := 2000000) (disch := first | (simp only [E4, xl, ol] <;> omega) | omega | fail) only [↓E2, E3, bare, bareJ, ↓E0, E1, env0, envN, evOps, evOp, evQs, evQ, evV, setD, pureOp, ev, upd, updL, hav, ↓reduceIte, Zj, Zk, Nat.reduceAdd, Nat.reduceLT, Nat.reduceEqDiff, Nat.reduceMul, Nat.reduceLeDiff, if_true, Zn, reduceCtorEq, ZA, eq_self, Int.reduceLE, Int.reduceLT, Int.reduceToNat, ne_eq, Nat.reduceSub, xl, ol, nb2_b1, nb3_b2, nb3_b1]
  repeat refine And.intro (by omega) ?_
  repeat refine And.intro (by omega) ?_
  intro g
  simp only [List.map_cons, List.map_nil, updL, upd, Nat.reduceEqDiff, if_true, if_false, ↓reduceIte]
  refine hK _ _ ?_; clear hK K
  refine Cd.block ?_
  refine Cd.loop (fun q ρ M => ∃ g k x' o', Bytes8 x' ∧ Bytes8 o' ∧ k + q = n ∧ ρ = updL [(1, .int .i64 v), (2, .int .i64 u), (3, .pointer (some ⟨b1, 0, none⟩)), (6, .pointer (some ⟨b2, 0, none⟩)), (7, .int .i64 (n : Int)), (8, .pointer (some ⟨b3, 0, none⟩)), (9, .int .i64 (k : Int))] g ∧ M = [(b3, gc (n : Int) x' o'), (b2, gc 0 z8 z8), (b1, gc (n : Int) x o)]) n ⟨_, 0, z8, z8, bytes_z8, bytes_z8, Nat.zero_add _, rfl, rfl⟩ ?_
  rintro q ρ M ⟨g, k, x', o', hx', ho', hk, rfl, rfl⟩
  have xl' := hx'.len
  have ol' := ho'.len
  skip
  refine Cd.seq ?_
  refine Cd.rs [1, 2, 3, 6, 7, 8, 9, 18] fun K hK => ?_
  simp (maxSteps := 2000000) (disch := first | (simp only [E4, xl, ol, xl', ol'] <;> omega) | omega | fail) only [↓E2, E3, bare, bareJ, ↓E0, E1, env0, envN, evOps, evOp, evQs, evQ, evV, setD, pureOp, ev, upd, updL, binW, eqOp, binV, intOp, shOp, boolOp, hav, eqL, SameI, strOp, ↓reduceIte, Zj, Zk, Nat.reduceAdd, Nat.reduceLT, Nat.reduceEqDiff, Nat.reduceMul, Nat.reduceLeDiff, if_true, Zn, reduceCtorEq, ZA, eq_self, Int.reduceLE, Int.reduceLT, Int.reduceToNat, ne_eq, Nat.reduceSub, xl, ol, nb2_b1, nb3_b2, nb3_b1, xl', ol']
  repeat refine And.intro (by omega) ?_
  repeat refine And.intro (by omega) ?_
  intro g
  simp only [List.map_cons, List.map_nil, updL, upd, Nat.reduceEqDiff, if_true, if_false, ↓reduceIte]
  refine hK _ _ ?_; clear hK K
  refine Cd.condd rfl (fun c1 => ?_) (fun c1 => ?_)
  · have m1 : ∀ a : Int, 0 ≤ a % (n : Int) ∧ a % (n : Int) < (n : Int) := fun a => ⟨Int.emod_nonneg _ (by omega), Int.emod_lt_of_pos _ (by omega)⟩
    have c2 := bytes_get hx (i := k) (by omega)
    have c3 := bytes_get ho (i := k) (by omega)
    have m2 := m1 ((k : Int) + u)
    have m3 := m1 (((k : Int) + u) % (n : Int) + (n : Int))
    have m4 := m1 (x.getD k 0 + v)
    have m5 := m1 ((x.getD k 0 + v) % (n : Int) + (n : Int))
    have m6 := m1 (o.getD k 0 + v)
    have m7 := m1 ((o.getD k 0 + v) % (n : Int) + (n : Int))
    refine Cd.skip ?_
    refine thenN ?_
    refine Cd.seq ?_
    refine Cd.block ?_
    refine Cd.rs [1, 2, 3, 6, 7, 8, 9, 10] fun K hK => ?_
    simp (maxSteps := 2000000) (disch := first | (simp only [E4, xl, ol, xl', ol'] <;> omega) | omega | fail) only [↓E2, E3, bare, bareJ, ↓E0, E1, env0, envN, evOps, evOp, evQs, evQ, evV, setD, pureOp, ev, upd, updL, binW, eqOp, binV, intOp, shOp, boolOp, hav, eqL, SameI, strOp, ↓reduceIte, Zj, Zk, Nat.reduceAdd, Nat.reduceLT, Nat.reduceEqDiff, Nat.reduceMul, Nat.reduceLeDiff, if_true, Zn, reduceCtorEq, ZA, eq_self, Int.reduceLE, Int.reduceLT, Int.reduceToNat, ne_eq, Nat.reduceSub, xl, ol, nb2_b1, nb3_b2, nb3_b1, xl', ol']
    repeat refine And.intro (by omega) ?_
    repeat refine And.intro (by omega) ?_
    intro g
    simp only [List.map_cons, List.map_nil, updL, upd, Nat.reduceEqDiff, if_true, if_false, ↓reduceIte]
    refine hK _ _ ?_; clear hK K
    obtain ⟨j, ej, hj⟩ : ∃ j : Nat, ((((k : Int) + u) % (n : Int) + (n : Int)) % (n : Int)) = (j : Int) ∧ j < n := ⟨((((k : Int) + u) % (n : Int) + (n : Int)) % (n : Int)).toNat, by omega, by omega⟩
    rw [ej]
    clear ej m3
    refine Cd.rs [1, 2, 3, 6, 7, 8, 9, 10] fun K hK => ?_
    simp (maxSteps := 2000000) (disch := first | (simp only [E4, xl, ol, xl', ol'] <;> omega) | omega | fail) only [↓E2, E3, bare, bareJ, ↓E0, E1, env0, envN, evOps, evOp, evQs, evQ, evV, setD, pureOp, ev, upd, updL, binW, eqOp, binV, intOp, shOp, boolOp, convV, fieldAddrV, indexAddrV, cellAt, cellsAt, findB, setB, Value.cells, hav, eqL, SameI, strOp, cvtQ, ↓reduceIte, Zj, Zk, Nat.reduceAdd, Nat.reduceLT, Nat.reduceEqDiff, Nat.reduceMul, Nat.reduceLeDiff, if_true, Zn, reduceCtorEq, ZA, eq_self, Int.reduceLE, Int.reduceLT, Int.reduceToNat, ne_eq, Nat.reduceSub, Tarr30, Tfld32_1, Tint2, Tint5, Tld5, Tpar2, Tpar5, Tst5, xl, ol, nb2_b1, nb3_b2, nb3_b1, xl', ol']
    repeat refine And.intro (by omega) ?_
    repeat refine And.intro (by omega) ?_
    intro g
    simp only [List.map_cons, List.map_nil, updL, upd, Nat.reduceEqDiff, if_true, if_false, ↓reduceIte]
    refine hK _ _ ?_; clear hK K
    refine Cd.rr [1, 2, 3, 6, 7, 8, 9] fun K hK => ?_
    simp (maxSteps := 2000000) (disch := first | (simp only [E4, xl, ol, xl', ol'] <;> omega) | omega | fail) only [↓E2, E3, bare, bareJ, ↓E0, E1, env0, envN, evOps, evOp, evQs, evQ, evV, setD, pureOp, ev, upd, updL, binW, eqOp, binV, intOp, shOp, boolOp, convV, fieldAddrV, indexAddrV, cellAt, cellsAt, findB, setB, Value.cells, hav, eqL, SameI, strOp, cvtQ, ↓reduceIte, Zj, Zk, Nat.reduceAdd, Nat.reduceLT, Nat.reduceEqDiff, Nat.reduceMul, Nat.reduceLeDiff, if_true, Zn, reduceCtorEq, ZA, eq_self, Int.reduceLE, Int.reduceLT, Int.reduceToNat, ne_eq, Nat.reduceSub, Tarr30, Tfld32_2, Tint2, Tint5, Tld5, Tpar2, Tpar5, Tst5, xl, ol, nb2_b1, nb3_b2, nb3_b1, xl', ol']
    repeat refine And.intro (by omega) ?_
    repeat refine And.intro (by omega) ?_
    intro g
    simp only [List.map_cons, List.map_nil, updL, upd, Nat.reduceEqDiff, if_true, if_false, ↓reduceIte]
    refine hK _ _ ?_; clear hK K
    refine inBN ?_
    refine thenN ?_
    refine Cd.rr [1, 2, 3, 6, 7, 8, 9] fun K hK => ?_
    simp (maxSteps := 2000000) (disch := first | (simp only [E4, xl, ol, xl', ol'] <;> omega) | omega | fail) only [↓E2, E3, bare, bareJ, ↓E0, E1, env0, envN, evOps, evOp, evQs, evQ, evV, setD, pureOp, ev, upd, updL, binW, eqOp, binV, intOp, shOp, boolOp, hav, eqL, SameI, strOp, ↓reduceIte, Zj, Zk, Nat.reduceAdd, Nat.reduceLT, Nat.reduceEqDiff, Nat.reduceMul, Nat.reduceLeDiff, if_true, Zn, reduceCtorEq, ZA, eq_self, Int.reduceLE, Int.reduceLT, Int.reduceToNat, ne_eq, Nat.reduceSub, xl, ol, nb2_b1, nb3_b2, nb3_b1, xl', ol']
    repeat refine And.intro (by omega) ?_
    repeat refine And.intro (by omega) ?_
    intro g
    simp only [List.map_cons, List.map_nil, updL, upd, Nat.reduceEqDiff, if_true, if_false, ↓reduceIte]
    refine hK _ _ ?_; clear hK K
    exact roundN (m := q - 1) (by omega) ⟨_, k + 1, _, _, bytes_set hx' (by omega) (by omega), bytes_set ho' (by omega) (by omega), by omega, rfl, rfl⟩
  · refine Cd.exit (thenX (roundX (inBX ?_)))
    refine thenN ?_
    refine Cd.rs [6] fun K hK => ?_
    simp (maxSteps := 2000000) (disch := first | (simp only [E4, xl, ol, xl', ol'] <;> omega) | omega | fail) only [↓E2, E3, bare, bareJ, ↓E0, E1, env0, envN, evOps, evOp, evQs, evQ, evV, setD, pureOp, ev, upd, updL, cellAt, cellsAt, findB, setB, Value.cells, hav, ↓reduceIte, Zj, Zk, Nat.reduceAdd, Nat.reduceLT, Nat.reduceEqDiff, Nat.reduceMul, Nat.reduceLeDiff, if_true, Zn, reduceCtorEq, ZA, eq_self, Int.reduceLE, Int.reduceLT, Int.reduceToNat, ne_eq, Nat.reduceSub, Tld32, Tst32, xl, ol, nb2_b1, nb3_b2, nb3_b1, xl', ol']
    repeat refine And.intro (by omega) ?_
    repeat refine And.intro (by omega) ?_
    intro g
    simp only [List.map_cons, List.map_nil, updL, upd, Nat.reduceEqDiff, if_true, if_false, ↓reduceIte]
    refine hK _ _ ?_; clear hK K
    refine Cd.ret ?_
    simp (maxSteps := 2000000) (disch := first | (simp only [E4, xl, ol, xl', ol'] <;> omega) | omega | fail) only [↓E2, E3, bare, bareJ, ↓E0, E1, evP, evPlan, env0, envN, evOps, evOp, evQs, evQ, evV, setD, pureOp, ev, upd, updL, gate, binW, eqOp, binV, intOp, shOp, boolOp, unV, convV, nilV, fieldAddrV, indexAddrV, extractV, cellAt, cellsAt, findB, setB, fillL, buildV, Value.cells, lenV, minV, maxV, hav, sliceV, loV, hiV, bslQ, mksQ, appQ, partsOk, partsCells, delB, eqL, SameI, strOp, apzQ, cvtQ, capV, ↓reduceIte, Zj, Zk, Nat.reduceAdd, Nat.reduceLT, Nat.reduceEqDiff, Nat.reduceMul, Nat.reduceLeDiff, if_true, Zn, reduceCtorEq, ZA, eq_self, Int.reduceLE, Int.reduceLT, Int.reduceToNat, ne_eq, Nat.reduceSub, Tld32, xl, ol, nb2_b1, nb3_b2, nb3_b1, xl', ol']
    repeat refine And.intro (by omega) ?_
    exact ⟨[], SubP.of (List.nil_sublist _), ⟨_, x', o', rfl, ⟨by omega, by omega⟩, hx', ho'⟩, rfl⟩
end

end Go.Proofs

/-
  What the functions of this part hand back: each as a plain function of its arguments. Conditions: none.
-/
namespace Go.Proofs
open Go.W8
set_option linter.unusedVariables false
set_option linter.unusedSimpArgs false
set_option linter.unusedSectionVars false
set_option maxRecDepth 8000
set_option maxHeartbeats 4000000
section
variable (l : List Int) (cv : Value) (R : Rd) (hin : InB R l cv) (hl : l.length ≤ 4096) (hb : ∀ k, k < l.length → 0 ≤ l.getD k 0 ∧ l.getD k 0 < 256)
include hin hl hb
theorem broken_c (b : Nat) (hRb : ∀ r ∈ R, r.1 ≠ b) (gv : Value) (hgv : isGrid gv) : Draws Try.prog 160 [.pointer (some ⟨b, 0, none⟩), gv] b cv R l.length isGrid := by
  refine Draws.of fun t h ho => ?_
  obtain ⟨s, x, o, rfl, hs, hx, hy⟩ := hgv
  have hs' : -9223372036854775808 ≤ s ∧ s < 9223372036854775808 := hs
  have xl := hx.len
  have ol := hy.len
  skip
  refine GivesX.of (callable_of Try.func160 rfl (by decide)) ?_ fun w hnd hlt hR => ?_
  · simpa using hRb
  refine acall_of (N := 31) (c := _) (rs := [.cell 4 32]) (args := [_, _]) Try.func160 rfl (by decide) rfl rfl (Nat.le_of_ble_eq_true rfl) ?_
  have hR : W8.Told [b] w R := hR
  have hnx := next_c l cv R hin hl hb b hRb
  skip
  refine Cd.rs [0, 3, 4] fun K hK => ?_
  simp (maxSteps := 2000000) (disch := first | (simp only [E4, xl, ol] <;> omega) | omega | fail) only [↓E2, E3, bare, bareJ, ↓E0, E1, env0, envN, evOps, evOp, evQs, evQ, evV, setD, pureOp, ev, upd, updL, Value.cells, hav, ↓reduceIte, Zj, Zk, Nat.reduceAdd, Nat.reduceLT, Nat.reduceEqDiff, Nat.reduceMul, Nat.reduceLeDiff, if_true, Zn, reduceCtorEq, ZA, eq_self, Int.reduceLE, Int.reduceLT, Int.reduceToNat, ne_eq, Nat.reduceSub, Tzero32, xl, ol]
  repeat refine And.intro (by omega) ?_
  intro b1 hb1
  have nb1_b := hb1.ne
  intro b2 hb2
  have nb2_b1 := hb2.ne
  have nb2_b := hb2.tail.ne
  try simp (maxSteps := 2000000) (disch := first | (simp only [E4, xl, ol] <;> omega) | omega | fail) only [↓E2, E3, bare, bareJ, ↓E0, E1, env0, envN, evOps, evOp, evQs, evQ, evV, setD, pureOp, ev, upd, updL, Value.cells, hav, ↓reduceIte, Zj, Zk, Nat.reduceAdd, Nat.reduceLT, Nat.reduceEqDiff, Nat.reduceMul, Nat.reduceLeDiff, if_true, Zn, reduceCtorEq, ZA, eq_self, Int.reduceLE, Int.reduceLT, Int.reduceToNat, ne_eq, Nat.reduceSub, Tzero32, xl, ol, nb1_b, nb2_b1, nb2_b]
  repeat refine And.intro (by omega) ?_
  repeat refine And.intro (by omega) ?_
  intro g
  simp only [List.map_cons, List.map_nil, updL, upd, Nat.reduceEqDiff, if_true, if_false, ↓reduceIte]
  refine hK _ _ ?_; clear hK K
  refine Cd.midq (fun ρ M => ∃ g s x o t h, Rng s ∧ Bytes8 x ∧ Bytes8 o ∧ okS l.length t h ∧ ρ = updL [(3, .pointer (some ⟨b1, 0, none⟩)), (4, .pointer (some ⟨b2, 0, none⟩))] g ∧ SubP [(b2, gc 0 z8 z8), (b1, gc s x o), (b, srcC cv t h)] M) ?_ ?_
  · refine Cd.rs [0, 3, 4, 6] fun K hK => ?_
    simp (maxSteps := 2000000) (disch := first | (simp only [E4, xl, ol] <;> omega) | omega | fail) only [↓E2, E3, bare, bareJ, ↓E0, E1, env0, envN, evOps, evOp, evQs, evQ, evV, setD, pureOp, ev, upd, updL, cellAt, cellsAt, findB, setB, hav, ↓reduceIte, Zj, Zk, Nat.reduceAdd, Nat.reduceLT, Nat.reduceEqDiff, Nat.reduceMul, Nat.reduceLeDiff, if_true, Zn, reduceCtorEq, ZA, eq_self, Int.reduceLE, Int.reduceLT, Int.reduceToNat, ne_eq, Nat.reduceSub, xl, ol, nb1_b, nb2_b1, nb2_b]
    repeat refine And.intro (by omega) ?_
    refine callK_draw (hnx 40 ⟨by omega, by omega⟩) ho (by simp only [findB, nb1_b, nb2_b, if_true, if_false]) (Told.toldW hR) ?_
    rintro v t2 h2 ho2 ⟨y, rfl, y0, y1⟩
    simp (maxSteps := 2000000) (disch := first | (simp only [E4, xl, ol] <;> omega) | omega | fail) only [↓E2, E3, bare, bareJ, ↓E0, E1, env0, envN, evOps, evOp, evQs, evQ, evV, setD, pureOp, ev, upd, updL, cellAt, cellsAt, findB, setB, hav, ↓reduceIte, Zj, Zk, Nat.reduceAdd, Nat.reduceLT, Nat.reduceEqDiff, Nat.reduceMul, Nat.reduceLeDiff, if_true, Zn, reduceCtorEq, ZA, eq_self, Int.reduceLE, Int.reduceLT, Int.reduceToNat, ne_eq, Nat.reduceSub, xl, ol, nb1_b, nb2_b1, nb2_b]
    repeat refine And.intro (by omega) ?_
    repeat refine And.intro (by omega) ?_
    intro g
    simp only [List.map_cons, List.map_nil, updL, upd, Nat.reduceEqDiff, if_true, if_false, ↓reduceIte]
    refine hK _ _ ?_; clear hK K
    refine Cd.block ?_
    refine Cd.rs [0, 3, 4, 6, 7] fun K hK => ?_
    simp (maxSteps := 2000000) (disch := first | (simp only [E4, xl, ol] <;> omega) | omega | fail) only [↓E2, E3, bare, bareJ, ↓E0, E1, env0, envN, evOps, evOp, evQs, evQ, evV, setD, pureOp, ev, upd, updL, binW, eqOp, binV, intOp, shOp, boolOp, hav, eqL, SameI, strOp, ↓reduceIte, Zj, Zk, Nat.reduceAdd, Nat.reduceLT, Nat.reduceEqDiff, Nat.reduceMul, Nat.reduceLeDiff, if_true, Zn, reduceCtorEq, ZA, eq_self, Int.reduceLE, Int.reduceLT, Int.reduceToNat, ne_eq, Nat.reduceSub, xl, ol, nb1_b, nb2_b1, nb2_b]
    repeat refine And.intro (by omega) ?_
    repeat refine And.intro (by omega) ?_
    intro g
    simp only [List.map_cons, List.map_nil, updL, upd, Nat.reduceEqDiff, if_true, if_false, ↓reduceIte]
    refine hK _ _ ?_; clear hK K
    refine Cd.cond rfl (fun c1 => ?_) (fun c1 => ?_)
    · clear c1
      obtain ⟨s1, es1, hs1⟩ : ∃ s1, IntKind.wrap .i64 (s - 1) = s1 ∧ Rng s1 := ⟨_, rfl, wrap_rng _⟩
      refine Cd.rr [3, 4] fun K hK => ?_
      simp (maxSteps := 2000000) (disch := first | (simp only [E4, xl, ol] <;> omega) | omega | fail) only [↓E2, E3, bare, bareJ, ↓E0, E1, evP, env0, envN, evOps, evOp, evQs, evQ, evV, setD, pureOp, ev, upd, updL, binW, eqOp, binV, intOp, shOp, boolOp, fieldAddrV, cellAt, cellsAt, findB, setB, Value.cells, hav, bslQ, partsOk, partsCells, eqL, SameI, strOp, ↓reduceIte, Zj, Zk, Nat.reduceAdd, Nat.reduceLT, Nat.reduceEqDiff, Nat.reduceMul, Nat.reduceLeDiff, if_true, Zn, reduceCtorEq, ZA, eq_self, Int.reduceLE, Int.reduceLT, Int.reduceToNat, ne_eq, Nat.reduceSub, Tby2, Tfld32_0, Tld2, Tslc47, Tslce47, Tst2, Tzero2, xl, ol, nb1_b, nb2_b1, nb2_b]
      repeat refine And.intro (by omega) ?_
      rw [es1]
      skip
      intro b3 hb3
      have nb3_b2 := hb3.ne
      have nb3_b1 := hb3.tail.ne
      have nb3_b := hb3.tail.tail.ne
      try simp (maxSteps := 2000000) (disch := first | (simp only [E4, xl, ol] <;> omega) | omega | fail) only [↓E2, E3, bare, bareJ, ↓E0, E1, evP, env0, envN, evOps, evOp, evQs, evQ, evV, setD, pureOp, ev, upd, updL, binW, eqOp, binV, intOp, shOp, boolOp, fieldAddrV, cellAt, cellsAt, findB, setB, Value.cells, hav, bslQ, partsOk, partsCells, eqL, SameI, strOp, ↓reduceIte, Zj, Zk, Nat.reduceAdd, Nat.reduceLT, Nat.reduceEqDiff, Nat.reduceMul, Nat.reduceLeDiff, if_true, Zn, reduceCtorEq, ZA, eq_self, Int.reduceLE, Int.reduceLT, Int.reduceToNat, ne_eq, Nat.reduceSub, Tby2, Tfld32_0, Tld2, Tslc47, Tslce47, Tst2, Tzero2, xl, ol, nb1_b, nb2_b1, nb2_b, nb3_b2, nb3_b1, nb3_b]
      refine callK_draw (pick_c l cv R hin hl hb b hRb b3 (fun e => by rw [nb3_b] at e; exact e) [0, 1, 9, -1, s1] (by simp) (by simp)) ho2 (by simp only [findB, nb1_b, nb2_b, nb3_b, if_true, if_false]) (toldW_pick (List.mem_cons_self ..) rfl hR) ?_
      rintro v t3 h3 ho3 ⟨y, hy', rfl⟩
      have hyr : Rng y := by
        simp only [List.mem_cons, List.not_mem_nil, or_false] at hy'
        rcases hy' with e | e | e | e | e
        · subst e; exact ⟨by omega, by omega⟩
        · subst e; exact ⟨by omega, by omega⟩
        · subst e; exact ⟨by omega, by omega⟩
        · subst e; exact ⟨by omega, by omega⟩
        · subst e; exact hs1
      simp (maxSteps := 2000000) (disch := first | (simp only [E4, xl, ol] <;> omega) | omega | fail) only [↓E2, E3, bare, bareJ, ↓E0, E1, evP, env0, envN, evOps, evOp, evQs, evQ, evV, setD, pureOp, ev, upd, updL, binW, eqOp, binV, intOp, shOp, boolOp, fieldAddrV, cellAt, cellsAt, findB, setB, Value.cells, hav, bslQ, partsOk, partsCells, eqL, SameI, strOp, ↓reduceIte, Zj, Zk, Nat.reduceAdd, Nat.reduceLT, Nat.reduceEqDiff, Nat.reduceMul, Nat.reduceLeDiff, if_true, Zn, reduceCtorEq, ZA, eq_self, Int.reduceLE, Int.reduceLT, Int.reduceToNat, ne_eq, Nat.reduceSub, Tby2, Tfld32_0, Tld2, Tslc47, Tslce47, Tst2, Tzero2, xl, ol, nb1_b, nb2_b1, nb2_b, nb3_b2, nb3_b1, nb3_b]
      repeat refine And.intro (by omega) ?_
      repeat refine And.intro (by omega) ?_
      intro g
      simp only [List.map_cons, List.map_nil, updL, upd, Nat.reduceEqDiff, if_true, if_false, ↓reduceIte]
      refine hK _ _ ?_; clear hK K
      refine inBN ?_
      exact midN ⟨_, y, x, o, t3, h3, hyr, hx, hy, ho3, rfl, SubP.of (List.Sublist.cons _ (List.Sublist.refl _))⟩
    · refine Cd.rs [0, 3, 4, 6, 16] fun K hK => ?_
      simp (maxSteps := 2000000) (disch := first | (simp only [E4, xl, ol] <;> omega) | omega | fail) only [↓E2, E3, bare, bareJ, ↓E0, E1, env0, envN, evOps, evOp, evQs, evQ, evV, setD, pureOp, ev, upd, updL, binW, eqOp, binV, intOp, shOp, boolOp, hav, eqL, SameI, strOp, ↓reduceIte, Zj, Zk, Nat.reduceAdd, Nat.reduceLT, Nat.reduceEqDiff, Nat.reduceMul, Nat.reduceLeDiff, if_true, Zn, reduceCtorEq, ZA, eq_self, Int.reduceLE, Int.reduceLT, Int.reduceToNat, ne_eq, Nat.reduceSub, xl, ol, nb1_b, nb2_b1, nb2_b]
      repeat refine And.intro (by omega) ?_
      repeat refine And.intro (by omega) ?_
      intro g
      simp only [List.map_cons, List.map_nil, updL, upd, Nat.reduceEqDiff, if_true, if_false, ↓reduceIte]
      refine hK _ _ ?_; clear hK K
      refine Cd.cond rfl (fun c2 => ?_) (fun c2 => ?_)
      · refine Cd.rr [3, 4] fun K hK => ?_
        simp (maxSteps := 2000000) (disch := first | (simp only [E4, xl, ol] <;> omega) | omega | fail) only [↓E2, E3, bare, bareJ, ↓E0, E1, env0, envN, evOps, evOp, evQs, evQ, evV, setD, pureOp, ev, upd, updL, convV, fieldAddrV, indexAddrV, cellAt, cellsAt, findB, setB, Value.cells, hav, cvtQ, ↓reduceIte, Zj, Zk, Nat.reduceAdd, Nat.reduceLT, Nat.reduceEqDiff, Nat.reduceMul, Nat.reduceLeDiff, if_true, Zn, reduceCtorEq, ZA, eq_self, Int.reduceLE, Int.reduceLT, Int.reduceToNat, ne_eq, Nat.reduceSub, Tarr30, Tfld32_2, Tint5, Tpar2, Tst5, xl, ol, nb1_b, nb2_b1, nb2_b]
        repeat refine And.intro (by omega) ?_
        refine callK_draw (hnx 8 ⟨by omega, by omega⟩) ho2 (by simp only [findB, nb1_b, nb2_b, if_true, if_false]) (Told.toldW hR) ?_
        rintro v t3 h3 ho3 ⟨p, rfl, p0, p1⟩
        obtain ⟨p, rfl⟩ : ∃ p' : Nat, p = (p' : Int) := ⟨p.toNat, by omega⟩
        simp (maxSteps := 2000000) (disch := first | (simp only [E4, xl, ol] <;> omega) | omega | fail) only [↓E2, E3, bare, bareJ, ↓E0, E1, env0, envN, evOps, evOp, evQs, evQ, evV, setD, pureOp, ev, upd, updL, convV, fieldAddrV, indexAddrV, cellAt, cellsAt, findB, setB, Value.cells, hav, cvtQ, ↓reduceIte, Zj, Zk, Nat.reduceAdd, Nat.reduceLT, Nat.reduceEqDiff, Nat.reduceMul, Nat.reduceLeDiff, if_true, Zn, reduceCtorEq, ZA, eq_self, Int.reduceLE, Int.reduceLT, Int.reduceToNat, ne_eq, Nat.reduceSub, Tarr30, Tfld32_2, Tint5, Tpar2, Tst5, xl, ol, nb1_b, nb2_b1, nb2_b]
        repeat refine And.intro (by omega) ?_
        refine callK_draw (hnx 9 ⟨by omega, by omega⟩) ho3 (by simp only [findB, nb1_b, nb2_b, if_true, if_false]) (Told.toldW hR) ?_
        rintro v t4 h4 ho4 ⟨q, rfl, q0, q1⟩
        have p8 : p < 8 := by omega
        have q8 : q < 9 := by omega
        simp (maxSteps := 2000000) (disch := first | (simp only [E4, xl, ol] <;> omega) | omega | fail) only [↓E2, E3, bare, bareJ, ↓E0, E1, env0, envN, evOps, evOp, evQs, evQ, evV, setD, pureOp, ev, upd, updL, convV, fieldAddrV, indexAddrV, cellAt, cellsAt, findB, setB, Value.cells, hav, cvtQ, ↓reduceIte, Zj, Zk, Nat.reduceAdd, Nat.reduceLT, Nat.reduceEqDiff, Nat.reduceMul, Nat.reduceLeDiff, if_true, Zn, reduceCtorEq, ZA, eq_self, Int.reduceLE, Int.reduceLT, Int.reduceToNat, ne_eq, Nat.reduceSub, Tarr30, Tfld32_2, Tint5, Tpar2, Tst5, xl, ol, nb1_b, nb2_b1, nb2_b]
        repeat refine And.intro (by omega) ?_
        repeat refine And.intro (by omega) ?_
        intro g
        simp only [List.map_cons, List.map_nil, updL, upd, Nat.reduceEqDiff, if_true, if_false, ↓reduceIte]
        refine hK _ _ ?_; clear hK K
        refine inBN ?_
        exact midN ⟨_, s, x, _, t4, h4, hs, hx, bytes_set hy (by omega) (by omega), ho4, rfl, SubP.refl _⟩
      · refine Cd.rs [3, 4, 25] fun K hK => ?_
        simp (maxSteps := 2000000) (disch := first | (simp only [E4, xl, ol] <;> omega) | omega | fail) only [↓E2, E3, bare, bareJ, ↓E0, E1, env0, envN, evOps, evOp, evQs, evQ, evV, setD, pureOp, ev, upd, updL, binW, eqOp, binV, intOp, shOp, boolOp, hav, eqL, SameI, strOp, ↓reduceIte, Zj, Zk, Nat.reduceAdd, Nat.reduceLT, Nat.reduceEqDiff, Nat.reduceMul, Nat.reduceLeDiff, if_true, Zn, reduceCtorEq, ZA, eq_self, Int.reduceLE, Int.reduceLT, Int.reduceToNat, ne_eq, Nat.reduceSub, xl, ol, nb1_b, nb2_b1, nb2_b]
        repeat refine And.intro (by omega) ?_
        repeat refine And.intro (by omega) ?_
        intro g
        simp only [List.map_cons, List.map_nil, updL, upd, Nat.reduceEqDiff, if_true, if_false, ↓reduceIte]
        refine hK _ _ ?_; clear hK K
        refine Cd.cond rfl (fun c3 => ?_) (fun c3 => ?_)
        · refine Cd.rr [3, 4] fun K hK => ?_
          simp (maxSteps := 2000000) (disch := first | (simp only [E4, xl, ol] <;> omega) | omega | fail) only [↓E2, E3, bare, bareJ, ↓E0, E1, env0, envN, evOps, evOp, evQs, evQ, evV, setD, pureOp, ev, upd, updL, fieldAddrV, cellAt, cellsAt, findB, setB, Value.cells, hav, ↓reduceIte, Zj, Zk, Nat.reduceAdd, Nat.reduceLT, Nat.reduceEqDiff, Nat.reduceMul, Nat.reduceLeDiff, if_true, Zn, reduceCtorEq, ZA, eq_self, Int.reduceLE, Int.reduceLT, Int.reduceToNat, ne_eq, Nat.reduceSub, Tfld32_1, Tfld32_2, Tld30, Tst30, xl, ol, nb1_b, nb2_b1, nb2_b]
          repeat refine And.intro (by omega) ?_
          repeat refine And.intro (by omega) ?_
          intro g
          simp only [List.map_cons, List.map_nil, updL, upd, Nat.reduceEqDiff, if_true, if_false, ↓reduceIte]
          refine hK _ _ ?_; clear hK K
          refine inBN ?_
          exact midN ⟨_, s, o, o, t2, h2, hs, hy, hy, ho2, rfl, SubP.refl _⟩
        · refine Cd.skip ?_
          refine inBN ?_
          exact midN ⟨_, s, x, o, t2, h2, hs, hx, hy, ho2, (norm_of (by repeat (first | exact trivial | refine And.intro rfl ?_))), SubP.refl _⟩
  · rintro ρ M ⟨g, s, x, o, t, h, hs, hx, hy, ho, rfl, hM⟩
    have xl := hx.len
    have ol := hy.len
    skip
    refine Cd.sub hM ?_
    refine Cd.rs [4] fun K hK => ?_
    simp (maxSteps := 2000000) (disch := first | (simp only [E4, xl, ol] <;> omega) | omega | fail) only [↓E2, E3, bare, bareJ, ↓E0, E1, env0, envN, evOps, evOp, evQs, evQ, evV, setD, pureOp, ev, upd, updL, cellAt, cellsAt, findB, setB, Value.cells, hav, ↓reduceIte, Zj, Zk, Nat.reduceAdd, Nat.reduceLT, Nat.reduceEqDiff, Nat.reduceMul, Nat.reduceLeDiff, if_true, Zn, reduceCtorEq, ZA, eq_self, Int.reduceLE, Int.reduceLT, Int.reduceToNat, ne_eq, Nat.reduceSub, Tld32, Tst32, xl, ol, nb1_b, nb2_b1, nb2_b]
    repeat refine And.intro (by omega) ?_
    repeat refine And.intro (by omega) ?_
    intro g
    simp only [List.map_cons, List.map_nil, updL, upd, Nat.reduceEqDiff, if_true, if_false, ↓reduceIte]
    refine hK _ _ ?_; clear hK K
    refine Cd.ret ?_
    simp (maxSteps := 2000000) (disch := first | (simp only [E4, xl, ol] <;> omega) | omega | fail) only [↓E2, E3, bare, bareJ, ↓E0, E1, evP, evPlan, env0, envN, evOps, evOp, evQs, evQ, evV, setD, pureOp, ev, upd, updL, gate, binW, eqOp, binV, intOp, shOp, boolOp, unV, convV, nilV, fieldAddrV, indexAddrV, extractV, cellAt, cellsAt, findB, setB, fillL, buildV, Value.cells, lenV, minV, maxV, hav, sliceV, loV, hiV, bslQ, mksQ, appQ, partsOk, partsCells, delB, eqL, SameI, strOp, apzQ, cvtQ, capV, ↓reduceIte, Zj, Zk, Nat.reduceAdd, Nat.reduceLT, Nat.reduceEqDiff, Nat.reduceMul, Nat.reduceLeDiff, if_true, Zn, reduceCtorEq, ZA, eq_self, Int.reduceLE, Int.reduceLT, Int.reduceToNat, ne_eq, Nat.reduceSub, Tld32, xl, ol, nb1_b, nb2_b1, nb2_b]
    repeat refine And.intro (by omega) ?_
    exact ⟨t, h, ho, ⟨s, x, o, rfl, hs, hx, hy⟩, SubP.of (List.Sublist.cons _ (List.Sublist.cons _ (List.Sublist.refl _)))⟩
end

end Go.Proofs

/-
  What the functions of this part hand back: each as a plain function of its arguments. Conditions: none.
-/
namespace Go.Proofs
open Go.W8
set_option linter.unusedVariables false
set_option linter.unusedSimpArgs false
set_option linter.unusedSectionVars false
set_option maxRecDepth 8000
set_option maxHeartbeats 4000000
section
variable (l : List Int) (cv : Value) (R : Rd) (hin : InB R l cv) (hl : l.length ≤ 4096) (hb : ∀ k, k < l.length → 0 ≤ l.getD k 0 ∧ l.getD k 0 < 256)
include hin hl hb
theorem draw_c (b : Nat) (hRb : ∀ r ∈ R, r.1 ≠ b) : Draws Try.prog 180 [.pointer (some ⟨b, 0, none⟩)] b cv R l.length isSized := by
  refine Draws.of fun t h ho => ?_
  refine GivesX.of (callable_of Try.func180 rfl (by decide)) ?_ fun w hnd hlt hR => ?_
  · simpa using hRb
  refine acall_of (N := 62) (c := _) (rs := [.cell 2 32]) (args := [_]) Try.func180 rfl (by decide) rfl rfl (Nat.le_of_ble_eq_true rfl) ?_
  have hR : W8.Told [b] w R := hR
  have hnx := next_c l cv R hin hl hb b hRb
  skip
  refine Cd.rs [0, 2] fun K hK => ?_
  simp (maxSteps := 2000000) (disch := first | (simp only [E4] <;> omega) | omega | fail) only [↓E2, E3, bare, bareJ, ↓E0, E1, env0, envN, evOps, evOp, evQs, evQ, evV, setD, pureOp, ev, upd, updL, Value.cells, hav, ↓reduceIte, Zj, Zk, Nat.reduceAdd, Nat.reduceLT, Nat.reduceEqDiff, Nat.reduceMul, Nat.reduceLeDiff, if_true, Zn, reduceCtorEq, ZA, eq_self, Int.reduceLE, Int.reduceLT, Int.reduceToNat, ne_eq, Nat.reduceSub, Tzero32]
  repeat refine And.intro (by omega) ?_
  intro b1 hb1
  have nb1_b := hb1.ne
  try simp (maxSteps := 2000000) (disch := first | (simp only [E4] <;> omega) | omega | fail) only [↓E2, E3, bare, bareJ, ↓E0, E1, env0, envN, evOps, evOp, evQs, evQ, evV, setD, pureOp, ev, upd, updL, Value.cells, hav, ↓reduceIte, Zj, Zk, Nat.reduceAdd, Nat.reduceLT, Nat.reduceEqDiff, Nat.reduceMul, Nat.reduceLeDiff, if_true, Zn, reduceCtorEq, ZA, eq_self, Int.reduceLE, Int.reduceLT, Int.reduceToNat, ne_eq, Nat.reduceSub, Tzero32, nb1_b]
  repeat refine And.intro (by omega) ?_
  repeat refine And.intro (by omega) ?_
  intro g
  simp only [List.map_cons, List.map_nil, updL, upd, Nat.reduceEqDiff, if_true, if_false, ↓reduceIte]
  refine hK _ _ ?_; clear hK K
  refine Cd.seq ?_
  refine Cd.rs [0, 2, 8] fun K hK => ?_
  simp (maxSteps := 2000000) (disch := first | (simp only [E4] <;> omega) | omega | fail) only [↓E2, E3, bare, bareJ, ↓E0, E1, env0, envN, evOps, evOp, evQs, evQ, evV, setD, pureOp, ev, upd, updL, cellAt, cellsAt, findB, setB, hav, ↓reduceIte, Zj, Zk, Nat.reduceAdd, Nat.reduceLT, Nat.reduceEqDiff, Nat.reduceMul, Nat.reduceLeDiff, if_true, Zn, reduceCtorEq, ZA, eq_self, Int.reduceLE, Int.reduceLT, Int.reduceToNat, ne_eq, Nat.reduceSub, nb1_b]
  repeat refine And.intro (by omega) ?_
  refine callK_draw (hnx 6 ⟨by omega, by omega⟩) ho (by simp only [findB, nb1_b, if_true, if_false]) (Told.toldW hR) ?_
  rintro v t h ho ⟨y, rfl, y0, y1⟩
  simp (maxSteps := 2000000) (disch := first | (simp only [E4] <;> omega) | omega | fail) only [↓E2, E3, bare, bareJ, ↓E0, E1, env0, envN, evOps, evOp, evQs, evQ, evV, setD, pureOp, ev, upd, updL, cellAt, cellsAt, findB, setB, hav, ↓reduceIte, Zj, Zk, Nat.reduceAdd, Nat.reduceLT, Nat.reduceEqDiff, Nat.reduceMul, Nat.reduceLeDiff, if_true, Zn, reduceCtorEq, ZA, eq_self, Int.reduceLE, Int.reduceLT, Int.reduceToNat, ne_eq, Nat.reduceSub, nb1_b]
  repeat refine And.intro (by omega) ?_
  repeat refine And.intro (by omega) ?_
  intro g
  simp only [List.map_cons, List.map_nil, updL, upd, Nat.reduceEqDiff, if_true, if_false, ↓reduceIte]
  refine hK _ _ ?_; clear hK K
  refine Cd.block ?_
  refine Cd.rs [0, 2, 8, 9] fun K hK => ?_
  simp (maxSteps := 2000000) (disch := first | (simp only [E4] <;> omega) | omega | fail) only [↓E2, E3, bare, bareJ, ↓E0, E1, env0, envN, evOps, evOp, evQs, evQ, evV, setD, pureOp, ev, upd, updL, binW, eqOp, binV, intOp, shOp, boolOp, hav, eqL, SameI, strOp, ↓reduceIte, Zj, Zk, Nat.reduceAdd, Nat.reduceLT, Nat.reduceEqDiff, Nat.reduceMul, Nat.reduceLeDiff, if_true, Zn, reduceCtorEq, ZA, eq_self, Int.reduceLE, Int.reduceLT, Int.reduceToNat, ne_eq, Nat.reduceSub, nb1_b]
  repeat refine And.intro (by omega) ?_
  repeat refine And.intro (by omega) ?_
  intro g
  simp only [List.map_cons, List.map_nil, updL, upd, Nat.reduceEqDiff, if_true, if_false, ↓reduceIte]
  refine hK _ _ ?_; clear hK K
  refine Cd.cond rfl (fun c1 => ?_) (fun c1 => ?_)
  · clear c1
    refine Cd.rs [0, 2, 3] fun K hK => ?_
    simp (maxSteps := 2000000) (disch := first | (simp only [E4] <;> omega) | omega | fail) only [↓E2, E3, bare, bareJ, ↓E0, E1, env0, envN, evOps, evOp, evQs, evQ, evV, setD, pureOp, ev, upd, updL, binW, eqOp, binV, intOp, shOp, boolOp, cellAt, cellsAt, findB, setB, hav, eqL, SameI, strOp, ↓reduceIte, Zj, Zk, Nat.reduceAdd, Nat.reduceLT, Nat.reduceEqDiff, Nat.reduceMul, Nat.reduceLeDiff, if_true, Zn, reduceCtorEq, ZA, eq_self, Int.reduceLE, Int.reduceLT, Int.reduceToNat, ne_eq, Nat.reduceSub, nb1_b]
    repeat refine And.intro (by omega) ?_
    refine callK_draw (hnx 3 ⟨by omega, by omega⟩) ho (by simp only [findB, nb1_b, if_true, if_false]) (Told.toldW hR) ?_
    rintro v t h ho ⟨p, rfl, p0, p1⟩
    simp (maxSteps := 2000000) (disch := first | (simp only [E4] <;> omega) | omega | fail) only [↓E2, E3, bare, bareJ, ↓E0, E1, env0, envN, evOps, evOp, evQs, evQ, evV, setD, pureOp, ev, upd, updL, binW, eqOp, binV, intOp, shOp, boolOp, cellAt, cellsAt, findB, setB, hav, eqL, SameI, strOp, ↓reduceIte, Zj, Zk, Nat.reduceAdd, Nat.reduceLT, Nat.reduceEqDiff, Nat.reduceMul, Nat.reduceLeDiff, if_true, Zn, reduceCtorEq, ZA, eq_self, Int.reduceLE, Int.reduceLT, Int.reduceToNat, ne_eq, Nat.reduceSub, nb1_b]
    repeat refine And.intro (by omega) ?_
    repeat refine And.intro (by omega) ?_
    intro g
    simp only [List.map_cons, List.map_nil, updL, upd, Nat.reduceEqDiff, if_true, if_false, ↓reduceIte]
    refine hK _ _ ?_; clear hK K
    refine Cd.rs [0, 2, 3, 4] fun K hK => ?_
    simp (maxSteps := 2000000) (disch := first | (simp only [E4] <;> omega) | omega | fail) only [↓E2, E3, bare, bareJ, ↓E0, E1, env0, envN, evOps, evOp, evQs, evQ, evV, setD, pureOp, ev, upd, updL, binW, eqOp, binV, intOp, shOp, boolOp, cellAt, cellsAt, findB, setB, hav, eqL, SameI, strOp, ↓reduceIte, Zj, Zk, Nat.reduceAdd, Nat.reduceLT, Nat.reduceEqDiff, Nat.reduceMul, Nat.reduceLeDiff, if_true, Zn, reduceCtorEq, ZA, eq_self, Int.reduceLE, Int.reduceLT, Int.reduceToNat, ne_eq, Nat.reduceSub, nb1_b]
    repeat refine And.intro (by omega) ?_
    refine callK_draw (hnx (5 - (1 + p)) ⟨by omega, by omega⟩) ho (by simp only [findB, nb1_b, if_true, if_false]) (Told.toldW hR) ?_
    rintro v t h ho ⟨q, rfl, q0, q1⟩
    simp (maxSteps := 2000000) (disch := first | (simp only [E4] <;> omega) | omega | fail) only [↓E2, E3, bare, bareJ, ↓E0, E1, env0, envN, evOps, evOp, evQs, evQ, evV, setD, pureOp, ev, upd, updL, binW, eqOp, binV, intOp, shOp, boolOp, cellAt, cellsAt, findB, setB, hav, eqL, SameI, strOp, ↓reduceIte, Zj, Zk, Nat.reduceAdd, Nat.reduceLT, Nat.reduceEqDiff, Nat.reduceMul, Nat.reduceLeDiff, if_true, Zn, reduceCtorEq, ZA, eq_self, Int.reduceLE, Int.reduceLT, Int.reduceToNat, ne_eq, Nat.reduceSub, nb1_b]
    repeat refine And.intro (by omega) ?_
    repeat refine And.intro (by omega) ?_
    intro g
    simp only [List.map_cons, List.map_nil, updL, upd, Nat.reduceEqDiff, if_true, if_false, ↓reduceIte]
    refine hK _ _ ?_; clear hK K
    obtain ⟨n, en, n2, n8⟩ : ∃ n : Nat, 1 + p + 1 + q = (n : Int) ∧ 2 ≤ n ∧ n ≤ 8 := ⟨(1 + p + 1 + q).toNat, by omega, by omega, by omega⟩
    rw [en]
    refine Cd.rs [0, 2, 3, 4, 5] fun K hK => ?_
    simp (maxSteps := 2000000) (disch := first | (simp only [E4] <;> omega) | omega | fail) only [↓E2, E3, bare, bareJ, ↓E0, E1, evP, env0, envN, evOps, evOp, evQs, evQ, evV, setD, pureOp, ev, upd, updL, cellAt, cellsAt, findB, setB, fillL, buildV, Value.cells, hav, ↓reduceIte, Zj, Zk, Nat.reduceAdd, Nat.reduceLT, Nat.reduceEqDiff, Nat.reduceMul, Nat.reduceLeDiff, if_true, Zn, reduceCtorEq, ZA, eq_self, Int.reduceLE, Int.reduceLT, Int.reduceToNat, ne_eq, Nat.reduceSub, Tbld32, Tst32, Tzero32, nb1_b]
    repeat refine And.intro (by omega) ?_
    intro b2 hb2
    have nb2_b1 := hb2.ne
    have nb2_b := hb2.tail.ne
    try simp (maxSteps := 2000000) (disch := first | (simp only [E4] <;> omega) | omega | fail) only [↓E2, E3, bare, bareJ, ↓E0, E1, evP, env0, envN, evOps, evOp, evQs, evQ, evV, setD, pureOp, ev, upd, updL, cellAt, cellsAt, findB, setB, fillL, buildV, Value.cells, hav, ↓reduceIte, Zj, Zk, Nat.reduceAdd, Nat.reduceLT, Nat.reduceEqDiff, Nat.reduceMul, Nat.reduceLeDiff, if_true, Zn, reduceCtorEq, ZA, eq_self, Int.reduceLE, Int.reduceLT, Int.reduceToNat, ne_eq, Nat.reduceSub, Tbld32, Tst32, Tzero32, nb1_b, nb2_b1, nb2_b]
    repeat refine And.intro (by omega) ?_
    repeat refine And.intro (by omega) ?_
    intro g
    simp only [List.map_cons, List.map_nil, updL, upd, Nat.reduceEqDiff, if_true, if_false, ↓reduceIte]
    refine hK _ _ ?_; clear hK K
    refine Cd.seq ?_
    refine Cd.rs [0, 2, 3, 4, 5, 6] fun K hK => ?_
    simp (maxSteps := 2000000) (disch := first | (simp only [E4] <;> omega) | omega | fail) only [↓E2, E3, bare, bareJ, ↓E0, E1, env0, envN, evOps, evOp, evQs, evQ, evV, setD, pureOp, ev, upd, updL, hav, ↓reduceIte, Zj, Zk, Nat.reduceAdd, Nat.reduceLT, Nat.reduceEqDiff, Nat.reduceMul, Nat.reduceLeDiff, if_true, Zn, reduceCtorEq, ZA, eq_self, Int.reduceLE, Int.reduceLT, Int.reduceToNat, ne_eq, Nat.reduceSub, nb1_b, nb2_b1, nb2_b]
    repeat refine And.intro (by omega) ?_
    repeat refine And.intro (by omega) ?_
    intro g
    simp only [List.map_cons, List.map_nil, updL, upd, Nat.reduceEqDiff, if_true, if_false, ↓reduceIte]
    refine hK _ _ ?_; clear hK K
    refine Cd.block ?_
    refine Cd.loop (fun q ρ M => ∃ g k x o, Bytes8 x ∧ Bytes8 o ∧ k + q = n ∧ ρ = updL [(0, .pointer (some ⟨b, 0, none⟩)), (2, .pointer (some ⟨b1, 0, none⟩)), (3, .int .i64 (1 + p)), (4, .int .i64 (n : Int)), (5, .pointer (some ⟨b2, 0, none⟩)), (6, .int .i64 (k : Int))] g ∧ M = [(b2, gc (n : Int) x o), (b1, gc 0 z8 z8), (b, srcC cv t h)]) n ⟨_, 0, z8, z8, bytes_z8, bytes_z8, Nat.zero_add _, rfl, rfl⟩ ?_
    rintro q ρ M ⟨g, k, x, o, hx, hy, hk, rfl, rfl⟩
    have xl := hx.len
    have ol := hy.len
    skip
    refine Cd.seq ?_
    refine Cd.rs [0, 2, 3, 4, 5, 6, 25] fun K hK => ?_
    simp (maxSteps := 2000000) (disch := first | (simp only [E4, xl, ol] <;> omega) | omega | fail) only [↓E2, E3, bare, bareJ, ↓E0, E1, env0, envN, evOps, evOp, evQs, evQ, evV, setD, pureOp, ev, upd, updL, binW, eqOp, binV, intOp, shOp, boolOp, hav, eqL, SameI, strOp, ↓reduceIte, Zj, Zk, Nat.reduceAdd, Nat.reduceLT, Nat.reduceEqDiff, Nat.reduceMul, Nat.reduceLeDiff, if_true, Zn, reduceCtorEq, ZA, eq_self, Int.reduceLE, Int.reduceLT, Int.reduceToNat, ne_eq, Nat.reduceSub, nb1_b, nb2_b1, nb2_b, xl, ol]
    repeat refine And.intro (by omega) ?_
    repeat refine And.intro (by omega) ?_
    intro g
    simp only [List.map_cons, List.map_nil, updL, upd, Nat.reduceEqDiff, if_true, if_false, ↓reduceIte]
    refine hK _ _ ?_; clear hK K
    refine Cd.condd rfl (fun c2 => ?_) (fun c2 => ?_)
    · have m1 := Int.emod_nonneg ((k : Int) + (1 + p)) (show (n : Int) ≠ 0 by omega)
      have m2 := Int.emod_lt_of_pos ((k : Int) + (1 + p)) (show 0 < (n : Int) by omega)
      refine Cd.skip ?_
      refine thenN ?_
      refine Cd.seq ?_
      refine Cd.block ?_
      refine Cd.rs [0, 2, 3, 4, 5, 6] fun K hK => ?_
      simp (maxSteps := 2000000) (disch := first | (simp only [E4, xl, ol] <;> omega) | omega | fail) only [↓E2, E3, bare, bareJ, ↓E0, E1, env0, envN, evOps, evOp, evQs, evQ, evV, setD, pureOp, ev, upd, updL, convV, fieldAddrV, indexAddrV, cellAt, cellsAt, findB, setB, Value.cells, hav, cvtQ, ↓reduceIte, Zj, Zk, Nat.reduceAdd, Nat.reduceLT, Nat.reduceEqDiff, Nat.reduceMul, Nat.reduceLeDiff, if_true, Zn, reduceCtorEq, ZA, eq_self, Int.reduceLE, Int.reduceLT, Int.reduceToNat, ne_eq, Nat.reduceSub, Tarr30, Tfld32_1, Tint5, Tpar2, Tst5, nb1_b, nb2_b1, nb2_b, xl, ol]
      repeat refine And.intro (by omega) ?_
      repeat refine And.intro (by omega) ?_
      intro g
      simp only [List.map_cons, List.map_nil, updL, upd, Nat.reduceEqDiff, if_true, if_false, ↓reduceIte]
      refine hK _ _ ?_; clear hK K
      refine Cd.rr [0, 2, 3, 4, 5, 6] fun K hK => ?_
      simp (maxSteps := 2000000) (disch := first | (simp only [E4, xl, ol] <;> omega) | omega | fail) only [↓E2, E3, bare, bareJ, ↓E0, E1, env0, envN, evOps, evOp, evQs, evQ, evV, setD, pureOp, ev, upd, updL, binW, eqOp, binV, intOp, shOp, boolOp, convV, fieldAddrV, indexAddrV, cellAt, cellsAt, findB, setB, Value.cells, hav, eqL, SameI, strOp, cvtQ, ↓reduceIte, Zj, Zk, Nat.reduceAdd, Nat.reduceLT, Nat.reduceEqDiff, Nat.reduceMul, Nat.reduceLeDiff, if_true, Zn, reduceCtorEq, ZA, eq_self, Int.reduceLE, Int.reduceLT, Int.reduceToNat, ne_eq, Nat.reduceSub, Tarr30, Tfld32_2, Tint5, Tpar2, Tst5, nb1_b, nb2_b1, nb2_b, xl, ol]
      repeat refine And.intro (by omega) ?_
      repeat refine And.intro (by omega) ?_
      intro g
      simp only [List.map_cons, List.map_nil, updL, upd, Nat.reduceEqDiff, if_true, if_false, ↓reduceIte]
      refine hK _ _ ?_; clear hK K
      refine inBN ?_
      refine thenN ?_
      refine Cd.rr [0, 2, 3, 4, 5, 6] fun K hK => ?_
      simp (maxSteps := 2000000) (disch := first | (simp only [E4, xl, ol] <;> omega) | omega | fail) only [↓E2, E3, bare, bareJ, ↓E0, E1, env0, envN, evOps, evOp, evQs, evQ, evV, setD, pureOp, ev, upd, updL, binW, eqOp, binV, intOp, shOp, boolOp, hav, eqL, SameI, strOp, ↓reduceIte, Zj, Zk, Nat.reduceAdd, Nat.reduceLT, Nat.reduceEqDiff, Nat.reduceMul, Nat.reduceLeDiff, if_true, Zn, reduceCtorEq, ZA, eq_self, Int.reduceLE, Int.reduceLT, Int.reduceToNat, ne_eq, Nat.reduceSub, nb1_b, nb2_b1, nb2_b, xl, ol]
      repeat refine And.intro (by omega) ?_
      repeat refine And.intro (by omega) ?_
      intro g
      simp only [List.map_cons, List.map_nil, updL, upd, Nat.reduceEqDiff, if_true, if_false, ↓reduceIte]
      refine hK _ _ ?_; clear hK K
      exact roundN (m := q - 1) (by omega) ⟨_, k + 1, _, _, bytes_set hx (by omega) (by omega), bytes_set hy (by omega) (by omega), by omega, rfl, rfl⟩
    · refine Cd.exit (thenX (roundX (inBX ?_)))
      refine thenN ?_
      refine Cd.ps [2] (Plan.take 1 (Plan.take 2 (Plan.take 4 (Plan.take 5 (Plan.more 0 (Plan.one 3 (Plan.one 6 (Plan.one 7 (Plan.one 8 (Plan.done))))) (Plan.one 3 (Plan.more 0 (Plan.one 6 (Plan.one 7 (Plan.one 8 (Plan.done)))) (Plan.one 6 (Plan.take 0 (Plan.one 7 (Plan.one 8 (Plan.done)))))))))))) fol (by kernel_rfl) (Nat.le_of_ble_eq_true rfl) fun K hK => ?_
      simp (maxSteps := 2000000) (disch := first | (simp only [E4, xl, ol] <;> omega) | omega | fail) only [↓E2, E3, bare, bareJ, ↓E0, E1, evPlan, env0, envN, evOps, evOp, evQs, evQ, evV, setD, pureOp, ev, upd, updL, cellAt, cellsAt, findB, setB, Value.cells, hav, ↓reduceIte, Zj, Zk, Nat.reduceAdd, Nat.reduceLT, Nat.reduceEqDiff, Nat.reduceMul, Nat.reduceLeDiff, if_true, Zn, reduceCtorEq, ZA, eq_self, Int.reduceLE, Int.reduceLT, Int.reduceToNat, ne_eq, Nat.reduceSub, Tld32, Tst32, ↓YR, nb1_b, nb2_b1, nb2_b, xl, ol]
      repeat' first
          | with_reducible refine moreX_go ?_ ?_
          | simp (maxSteps := 2000000) (disch := first | (simp only [E4, xl, ol] <;> omega) | omega | fail) only [↓E2, E3, bare, bareJ, ↓E0, E1, evPlan, env0, envN, evOps, evOp, evQs, evQ, evV, setD, pureOp, ev, upd, updL, cellAt, cellsAt, findB, setB, Value.cells, hav, ↓reduceIte, Zj, Zk, Nat.reduceAdd, Nat.reduceLT, Nat.reduceEqDiff, Nat.reduceMul, Nat.reduceLeDiff, if_true, Zn, reduceCtorEq, ZA, eq_self, Int.reduceLE, Int.reduceLT, Int.reduceToNat, ne_eq, Nat.reduceSub, Tld32, Tst32, ↓YR, nb1_b, nb2_b1, nb2_b, xl, ol]
          | (first | with_reducible refine And.intro ?_ ?_ | (refine callO_draw (hnx _ ⟨by omega, by omega⟩) (by assumption) (by simp only [findB, nb1_b, nb2_b, nb2_b1, if_true, if_false]) (Told.toldW hR) ?_; rintro _ _ _ _ ⟨_, rfl, _, _⟩) | (refine callO_newR0 (rolled_c _ _ _ _ _ hx hy (by omega) (by omega) (by omega) (by omega) (by omega) (by omega)) (fun _ _ => toldW_nil) ?_; rintro _ _ ⟨⟨s9, x9, o9, rfl, hs9, hx9, hy9⟩, rfl⟩ _ _; have xl9 := hx9.len; have ol9 := hy9.len; clear c2; simp only [List.append_nil]) | omega)
      all_goals
        repeat refine And.intro (by omega) ?_
        intro g
        simp only [List.map_cons, List.map_nil, updL, upd, Nat.reduceEqDiff, if_true, if_false, ↓reduceIte]
        refine hK _ _ ?_; clear hK K
        refine Cd.ret (inBR (thenR ?_))
        simp (maxSteps := 2000000) (disch := first | (simp only [E4, xl, ol, xl9, ol9] <;> omega) | omega | fail) only [↓E2, E3, bare, bareJ, ↓E0, E1, evP, evPlan, env0, envN, evOps, evOp, evQs, evQ, evV, setD, pureOp, ev, upd, updL, gate, binW, eqOp, binV, intOp, shOp, boolOp, unV, convV, nilV, fieldAddrV, indexAddrV, extractV, cellAt, cellsAt, findB, setB, fillL, buildV, Value.cells, lenV, minV, maxV, hav, sliceV, loV, hiV, bslQ, mksQ, appQ, partsOk, partsCells, delB, eqL, SameI, strOp, apzQ, cvtQ, capV, ↓reduceIte, Zj, Zk, Nat.reduceAdd, Nat.reduceLT, Nat.reduceEqDiff, Nat.reduceMul, Nat.reduceLeDiff, if_true, Zn, reduceCtorEq, ZA, eq_self, Int.reduceLE, Int.reduceLT, Int.reduceToNat, ne_eq, Nat.reduceSub, Tld32, nb1_b, nb2_b1, nb2_b, xl, ol, xl9, ol9]
        repeat refine And.intro (by omega) ?_
        exact ⟨_, _, by assumption, ⟨s9, x9, o9, rfl, hs9, hx9, hy9⟩, SubP.of (List.Sublist.cons _ (List.Sublist.cons _ (List.Sublist.refl _)))⟩
  · refine Cd.rs [0, 2, 50] fun K hK => ?_
    simp (maxSteps := 2000000) (disch := first | (simp only [E4] <;> omega) | omega | fail) only [↓E2, E3, bare, bareJ, ↓E0, E1, env0, envN, evOps, evOp, evQs, evQ, evV, setD, pureOp, ev, upd, updL, binW, eqOp, binV, intOp, shOp, boolOp, hav, eqL, SameI, strOp, ↓reduceIte, Zj, Zk, Nat.reduceAdd, Nat.reduceLT, Nat.reduceEqDiff, Nat.reduceMul, Nat.reduceLeDiff, if_true, Zn, reduceCtorEq, ZA, eq_self, Int.reduceLE, Int.reduceLT, Int.reduceToNat, ne_eq, Nat.reduceSub, nb1_b]
    repeat refine And.intro (by omega) ?_
    repeat refine And.intro (by omega) ?_
    intro g
    simp only [List.map_cons, List.map_nil, updL, upd, Nat.reduceEqDiff, if_true, if_false, ↓reduceIte]
    refine hK _ _ ?_; clear hK K
    refine Cd.cond rfl (fun c3 => ?_) (fun c3 => ?_)
    · refine Cd.rs [2] fun K hK => ?_
      simp (maxSteps := 2000000) (disch := first | (simp only [E4] <;> omega) | omega | fail) only [↓E2, E3, bare, bareJ, ↓E0, E1, evP, env0, envN, evOps, evOp, evQs, evQ, evV, setD, pureOp, ev, upd, updL, cellAt, cellsAt, findB, setB, Value.cells, hav, bslQ, partsOk, partsCells, ↓reduceIte, Zj, Zk, Nat.reduceAdd, Nat.reduceLT, Nat.reduceEqDiff, Nat.reduceMul, Nat.reduceLeDiff, if_true, Zn, reduceCtorEq, ZA, eq_self, Int.reduceLE, Int.reduceLT, Int.reduceToNat, ne_eq, Nat.reduceSub, Tby2, Tslc47, Tslce47, Tst32, Tzero2, nb1_b]
      repeat refine And.intro (by omega) ?_
      intro b3 hb3
      have nb3_b1 := hb3.ne
      have nb3_b := hb3.tail.ne
      try simp (maxSteps := 2000000) (disch := first | (simp only [E4] <;> omega) | omega | fail) only [↓E2, E3, bare, bareJ, ↓E0, E1, evP, env0, envN, evOps, evOp, evQs, evQ, evV, setD, pureOp, ev, upd, updL, cellAt, cellsAt, findB, setB, Value.cells, hav, bslQ, partsOk, partsCells, ↓reduceIte, Zj, Zk, Nat.reduceAdd, Nat.reduceLT, Nat.reduceEqDiff, Nat.reduceMul, Nat.reduceLeDiff, if_true, Zn, reduceCtorEq, ZA, eq_self, Int.reduceLE, Int.reduceLT, Int.reduceToNat, ne_eq, Nat.reduceSub, Tby2, Tslc47, Tslce47, Tst32, Tzero2, nb1_b, nb3_b1, nb3_b]
      repeat refine And.intro (by omega) ?_
      refine callK_draw (pick_c l cv R hin hl hb b hRb b3 (fun e => by rw [nb3_b] at e; exact e) [6, 7, 8] (by simp) (by simp)) ho (by simp only [findB, nb1_b, nb3_b, if_true, if_false]) (toldW_pick (List.mem_cons_self ..) rfl hR) ?_
      rintro v t h ho ⟨n, hn, rfl⟩
      obtain ⟨n, rfl, n2, n8⟩ : ∃ n' : Nat, n = (n' : Int) ∧ 2 ≤ n' ∧ n' ≤ 8 := by
        simp only [List.mem_cons, List.not_mem_nil, or_false] at hn
        exact ⟨n.toNat, by omega, by omega, by omega⟩
      simp (maxSteps := 2000000) (disch := first | (simp only [E4] <;> omega) | omega | fail) only [↓E2, E3, bare, bareJ, ↓E0, E1, evP, env0, envN, evOps, evOp, evQs, evQ, evV, setD, pureOp, ev, upd, updL, cellAt, cellsAt, findB, setB, Value.cells, hav, bslQ, partsOk, partsCells, ↓reduceIte, Zj, Zk, Nat.reduceAdd, Nat.reduceLT, Nat.reduceEqDiff, Nat.reduceMul, Nat.reduceLeDiff, if_true, Zn, reduceCtorEq, ZA, eq_self, Int.reduceLE, Int.reduceLT, Int.reduceToNat, ne_eq, Nat.reduceSub, Tby2, Tslc47, Tslce47, Tst32, Tzero2, nb1_b, nb3_b1, nb3_b]
      repeat refine And.intro (by omega) ?_
      refine callK_draw (drawsize_c l cv R hin hl hb b hRb n n2 n8) ho (by simp only [findB, nb1_b, nb3_b, if_true, if_false]) (Told.toldW hR) ?_
      rintro v t h ho ⟨s, x, o, rfl, hs, hx, hy⟩
      have xl := hx.len
      have ol := hy.len
      skip
      simp (maxSteps := 2000000) (disch := first | (simp only [E4, xl, ol] <;> omega) | omega | fail) only [↓E2, E3, bare, bareJ, ↓E0, E1, evP, env0, envN, evOps, evOp, evQs, evQ, evV, setD, pureOp, ev, upd, updL, cellAt, cellsAt, findB, setB, Value.cells, hav, bslQ, partsOk, partsCells, ↓reduceIte, Zj, Zk, Nat.reduceAdd, Nat.reduceLT, Nat.reduceEqDiff, Nat.reduceMul, Nat.reduceLeDiff, if_true, Zn, reduceCtorEq, ZA, eq_self, Int.reduceLE, Int.reduceLT, Int.reduceToNat, ne_eq, Nat.reduceSub, Tby2, Tslc47, Tslce47, Tst32, Tzero2, nb1_b, nb3_b1, nb3_b, xl, ol]
      repeat refine And.intro (by omega) ?_
      repeat refine And.intro (by omega) ?_
      intro g
      simp only [List.map_cons, List.map_nil, updL, upd, Nat.reduceEqDiff, if_true, if_false, ↓reduceIte]
      refine hK _ _ ?_; clear hK K
      refine Cd.ret (inBR (thenR ?_))
      simp (maxSteps := 2000000) (disch := first | (simp only [E4, xl, ol] <;> omega) | omega | fail) only [↓E2, E3, bare, bareJ, ↓E0, E1, evP, evPlan, env0, envN, evOps, evOp, evQs, evQ, evV, setD, pureOp, ev, upd, updL, gate, binW, eqOp, binV, intOp, shOp, boolOp, unV, convV, nilV, fieldAddrV, indexAddrV, extractV, cellAt, cellsAt, findB, setB, fillL, buildV, Value.cells, lenV, minV, maxV, hav, sliceV, loV, hiV, bslQ, mksQ, appQ, partsOk, partsCells, delB, eqL, SameI, strOp, apzQ, cvtQ, capV, ↓reduceIte, Zj, Zk, Nat.reduceAdd, Nat.reduceLT, Nat.reduceEqDiff, Nat.reduceMul, Nat.reduceLeDiff, if_true, Zn, reduceCtorEq, ZA, eq_self, Int.reduceLE, Int.reduceLT, Int.reduceToNat, ne_eq, Nat.reduceSub, Tld32, nb1_b, nb3_b1, nb3_b, xl, ol]
      repeat refine And.intro (by omega) ?_
      exact ⟨t, h, ho, ⟨s, x, o, rfl, hs, hx, hy⟩, SubP.of (List.Sublist.cons _ (List.Sublist.cons _ (List.Sublist.refl _)))⟩
    · refine Cd.skip ?_
      refine inBN ?_
      refine thenN ?_
      refine Cd.rs [2] fun K hK => ?_
      simp (maxSteps := 2000000) (disch := first | (simp only [E4] <;> omega) | omega | fail) only [↓E2, E3, bare, bareJ, ↓E0, E1, evP, env0, envN, evOps, evOp, evQs, evQ, evV, setD, pureOp, ev, upd, updL, cellAt, cellsAt, findB, setB, Value.cells, hav, bslQ, partsOk, partsCells, ↓reduceIte, Zj, Zk, Nat.reduceAdd, Nat.reduceLT, Nat.reduceEqDiff, Nat.reduceMul, Nat.reduceLeDiff, if_true, Zn, reduceCtorEq, ZA, eq_self, Int.reduceLE, Int.reduceLT, Int.reduceToNat, ne_eq, Nat.reduceSub, Tby2, Tslc47, Tslce47, Tst32, Tzero2, nb1_b]
      repeat refine And.intro (by omega) ?_
      intro b4 hb4
      have nb4_b1 := hb4.ne
      have nb4_b := hb4.tail.ne
      try simp (maxSteps := 2000000) (disch := first | (simp only [E4] <;> omega) | omega | fail) only [↓E2, E3, bare, bareJ, ↓E0, E1, evP, env0, envN, evOps, evOp, evQs, evQ, evV, setD, pureOp, ev, upd, updL, cellAt, cellsAt, findB, setB, Value.cells, hav, bslQ, partsOk, partsCells, ↓reduceIte, Zj, Zk, Nat.reduceAdd, Nat.reduceLT, Nat.reduceEqDiff, Nat.reduceMul, Nat.reduceLeDiff, if_true, Zn, reduceCtorEq, ZA, eq_self, Int.reduceLE, Int.reduceLT, Int.reduceToNat, ne_eq, Nat.reduceSub, Tby2, Tslc47, Tslce47, Tst32, Tzero2, nb1_b, nb4_b1, nb4_b]
      repeat refine And.intro (by omega) ?_
      refine callK_draw (pick_c l cv R hin hl hb b hRb b4 (fun e => by rw [nb4_b] at e; exact e) [2, 3, 4, 5, 5] (by simp) (by simp)) ho (by simp only [findB, nb1_b, nb4_b, if_true, if_false]) (toldW_pick (List.mem_cons_self ..) rfl hR) ?_
      rintro v t h ho ⟨n, hn, rfl⟩
      obtain ⟨n, rfl, n2, n8⟩ : ∃ n' : Nat, n = (n' : Int) ∧ 2 ≤ n' ∧ n' ≤ 8 := by
        simp only [List.mem_cons, List.not_mem_nil, or_false] at hn
        exact ⟨n.toNat, by omega, by omega, by omega⟩
      simp (maxSteps := 2000000) (disch := first | (simp only [E4] <;> omega) | omega | fail) only [↓E2, E3, bare, bareJ, ↓E0, E1, evP, env0, envN, evOps, evOp, evQs, evQ, evV, setD, pureOp, ev, upd, updL, cellAt, cellsAt, findB, setB, Value.cells, hav, bslQ, partsOk, partsCells, ↓reduceIte, Zj, Zk, Nat.reduceAdd, Nat.reduceLT, Nat.reduceEqDiff, Nat.reduceMul, Nat.reduceLeDiff, if_true, Zn, reduceCtorEq, ZA, eq_self, Int.reduceLE, Int.reduceLT, Int.reduceToNat, ne_eq, Nat.reduceSub, Tby2, Tslc47, Tslce47, Tst32, Tzero2, nb1_b, nb4_b1, nb4_b]
      repeat refine And.intro (by omega) ?_
      refine callK_draw (drawsize_c l cv R hin hl hb b hRb n n2 n8) ho (by simp only [findB, nb1_b, nb4_b, if_true, if_false]) (Told.toldW hR) ?_
      rintro v t h ho ⟨s, x, o, rfl, hs, hx, hy⟩
      have xl := hx.len
      have ol := hy.len
      skip
      simp (maxSteps := 2000000) (disch := first | (simp only [E4, xl, ol] <;> omega) | omega | fail) only [↓E2, E3, bare, bareJ, ↓E0, E1, evP, env0, envN, evOps, evOp, evQs, evQ, evV, setD, pureOp, ev, upd, updL, cellAt, cellsAt, findB, setB, Value.cells, hav, bslQ, partsOk, partsCells, ↓reduceIte, Zj, Zk, Nat.reduceAdd, Nat.reduceLT, Nat.reduceEqDiff, Nat.reduceMul, Nat.reduceLeDiff, if_true, Zn, reduceCtorEq, ZA, eq_self, Int.reduceLE, Int.reduceLT, Int.reduceToNat, ne_eq, Nat.reduceSub, Tby2, Tslc47, Tslce47, Tst32, Tzero2, nb1_b, nb4_b1, nb4_b, xl, ol]
      repeat refine And.intro (by omega) ?_
      repeat refine And.intro (by omega) ?_
      intro g
      simp only [List.map_cons, List.map_nil, updL, upd, Nat.reduceEqDiff, if_true, if_false, ↓reduceIte]
      refine hK _ _ ?_; clear hK K
      refine Cd.ret ?_
      simp (maxSteps := 2000000) (disch := first | (simp only [E4, xl, ol] <;> omega) | omega | fail) only [↓E2, E3, bare, bareJ, ↓E0, E1, evP, evPlan, env0, envN, evOps, evOp, evQs, evQ, evV, setD, pureOp, ev, upd, updL, gate, binW, eqOp, binV, intOp, shOp, boolOp, unV, convV, nilV, fieldAddrV, indexAddrV, extractV, cellAt, cellsAt, findB, setB, fillL, buildV, Value.cells, lenV, minV, maxV, hav, sliceV, loV, hiV, bslQ, mksQ, appQ, partsOk, partsCells, delB, eqL, SameI, strOp, apzQ, cvtQ, capV, ↓reduceIte, Zj, Zk, Nat.reduceAdd, Nat.reduceLT, Nat.reduceEqDiff, Nat.reduceMul, Nat.reduceLeDiff, if_true, Zn, reduceCtorEq, ZA, eq_self, Int.reduceLE, Int.reduceLT, Int.reduceToNat, ne_eq, Nat.reduceSub, Tld32, nb1_b, nb4_b1, nb4_b, xl, ol]
      repeat refine And.intro (by omega) ?_
      exact ⟨t, h, ho, ⟨s, x, o, rfl, hs, hx, hy⟩, SubP.of (List.Sublist.cons _ (List.Sublist.cons _ (List.Sublist.refl _)))⟩
end

end Go.Proofs

/-
  What the functions of this part hand back: each as a plain function of its arguments. Conditions: none.
-/
namespace Go.Proofs
open Go.W8
set_option linter.unusedVariables false
set_option linter.unusedSimpArgs false
set_option linter.unusedSectionVars false
set_option maxRecDepth 8000
set_option maxHeartbeats 4000000
theorem told_lt {W : List Nat} {w : World} {R : Rd} (hR : W8.Told W w R) (hne : ∀ r ∈ R, r.2.2 ≠ []) : ∀ r ∈ R, r.1 < w.heap.size := fun r hr => by
  obtain ⟨a, t, e⟩ := List.exists_cons_of_ne_nil (hne r hr)
  exact frn_lt (hR r hr 0 a (by rw [e]; rfl))
section
variable (l : List Int) (cv : Value) (R : Rd) (hin : InB R l cv) (hl : l.length ≤ 4096) (hb : ∀ k, k < l.length → 0 ≤ l.getD k 0 ∧ l.getD k 0 < 256) (hne : ∀ r ∈ R, r.2.2 ≠ [])
include hin hl hb hne
end

end Go.Proofs

/-
  What the functions of this part hand back: each as a plain function of its arguments. Conditions: none.
-/
namespace Go.Proofs
open Go.W8
set_option linter.unusedVariables false
set_option linter.unusedSimpArgs false
set_option linter.unusedSectionVars false
set_option maxRecDepth 8000
set_option maxHeartbeats 4000000
def lft (r u a : Int) : Int := if r < a then (a + 1) % 256 else if a = r then (r + u) % 256 else a
theorem lft_rng {r u a : Int} (h0 : 0 ≤ a) (h1 : a < 256) : 0 ≤ lft r u a ∧ lft r u a < 256 := by
  unfold lft
  split
  · omega
  · split <;> omega
theorem wrapb (z : Int) : 0 ≤ IntKind.wrap .u8 z ∧ IntKind.wrap .u8 z < 256 := by rw [wrap_u8_mod]; omega
theorem lifted_c (a r u : Int) (h0 : 0 ≤ a) (h1 : a < 256) (r0 : 0 ≤ r) (r1 : r < 256) (u0 : 0 ≤ u) (u1 : u ≤ 1) : Gives Try.prog 164 #[.int .u8 a, .int .i64 r, .int .i64 u] (.int .u8 (lft r u a)) := by
  refine Gives.of fun w => ?_
  refine acall_of (N := 24) (c := _) (rs := [.tmp 6]) (args := [_, _, _]) Try.func164 rfl (by decide) rfl rfl (Nat.le_of_ble_eq_true rfl) ?_
  refine Cd.rs [0, 1, 2] fun K hK => ?_
  simp (maxSteps := 2000000) (disch := first | (simp only [E4] <;> omega) | omega | fail) only [↓E2, E3, bare, bareJ, ↓E0, E1, env0, envN, evOps, evOp, evQs, evQ, evV, setD, pureOp, ev, upd, updL, hav, ↓reduceIte, Zj, Zk, Nat.reduceAdd, Nat.reduceLT, Nat.reduceEqDiff, Nat.reduceMul, Nat.reduceLeDiff, if_true, Zn, reduceCtorEq, ZA, eq_self, Int.reduceLE, Int.reduceLT, Int.reduceToNat, ne_eq, Nat.reduceSub]
  repeat refine And.intro (by omega) ?_
  repeat refine And.intro (by omega) ?_
  intro g
  simp only [List.map_cons, List.map_nil, updL, upd, Nat.reduceEqDiff, if_true, if_false, ↓reduceIte]
  refine hK _ _ ?_; clear hK K
  refine Cd.seq ?_
  refine Cd.block ?_
  refine Cd.rs [0, 1, 2, 7] fun K hK => ?_
  simp (maxSteps := 2000000) (disch := first | (simp only [E4] <;> omega) | omega | fail) only [↓E2, E3, bare, bareJ, ↓E0, E1, env0, envN, evOps, evOp, evQs, evQ, evV, setD, pureOp, ev, upd, updL, binW, eqOp, binV, intOp, shOp, boolOp, convV, hav, eqL, SameI, strOp, cvtQ, ↓reduceIte, Zj, Zk, Nat.reduceAdd, Nat.reduceLT, Nat.reduceEqDiff, Nat.reduceMul, Nat.reduceLeDiff, if_true, Zn, reduceCtorEq, ZA, eq_self, Int.reduceLE, Int.reduceLT, Int.reduceToNat, ne_eq, Nat.reduceSub, Tint2, Tpar5]
  repeat refine And.intro (by omega) ?_
  repeat refine And.intro (by omega) ?_
  intro g
  simp only [List.map_cons, List.map_nil, updL, upd, Nat.reduceEqDiff, if_true, if_false, ↓reduceIte]
  refine hK _ _ ?_; clear hK K
  refine Cd.cond rfl (fun c1 => ?_) (fun c1 => ?_)
  · simp only [decide_eq_true_eq, decide_eq_false_iff_not, beq_iff_eq, beq_eq_false_iff_ne, bne_iff_ne, bne_eq_false_iff_eq, Bool.and_eq_true, Bool.or_eq_true, Bool.or_eq_false_iff, Bool.not_eq_true', Bool.not_eq_false', Bool.and_eq_false_imp, ne_eq, gt_iff_lt, ge_iff_le, Int.not_lt, Int.not_le, Classical.not_not] at c1
    refine Cd.rs [6] fun K hK => ?_
    simp (maxSteps := 2000000) (disch := first | (simp only [E4] <;> omega) | omega | fail) only [↓E2, E3, bare, bareJ, ↓E0, E1, env0, envN, evOps, evOp, evQs, evQ, evV, setD, pureOp, ev, upd, updL, binW, eqOp, binV, intOp, shOp, boolOp, hav, eqL, SameI, strOp, ↓reduceIte, Zj, Zk, Nat.reduceAdd, Nat.reduceLT, Nat.reduceEqDiff, Nat.reduceMul, Nat.reduceLeDiff, if_true, Zn, reduceCtorEq, ZA, eq_self, Int.reduceLE, Int.reduceLT, Int.reduceToNat, ne_eq, Nat.reduceSub]
    repeat refine And.intro (by omega) ?_
    repeat refine And.intro (by omega) ?_
    intro g
    simp only [List.map_cons, List.map_nil, updL, upd, Nat.reduceEqDiff, if_true, if_false, ↓reduceIte]
    refine hK _ _ ?_; clear hK K
    refine Cd.ret (inBR (thenR ?_))
    simp (maxSteps := 2000000) (disch := first | (simp only [E4] <;> omega) | omega | fail) only [↓E2, E3, bare, bareJ, ↓E0, E1, evP, evPlan, env0, envN, evOps, evOp, evQs, evQ, evV, setD, pureOp, ev, upd, updL, gate, binW, eqOp, binV, intOp, shOp, boolOp, unV, convV, nilV, fieldAddrV, indexAddrV, extractV, cellAt, cellsAt, findB, setB, fillL, buildV, Value.cells, lenV, minV, maxV, hav, sliceV, loV, hiV, bslQ, mksQ, appQ, partsOk, partsCells, delB, eqL, SameI, strOp, apzQ, cvtQ, capV, ↓reduceIte, Zj, Zk, Nat.reduceAdd, Nat.reduceLT, Nat.reduceEqDiff, Nat.reduceMul, Nat.reduceLeDiff, if_true, Zn, reduceCtorEq, ZA, eq_self, Int.reduceLE, Int.reduceLT, Int.reduceToNat, ne_eq, Nat.reduceSub]
    repeat refine And.intro (by omega) ?_
    unfold lft
    rw [if_pos c1, wrap_u8_mod]
  · simp only [decide_eq_true_eq, decide_eq_false_iff_not, beq_iff_eq, beq_eq_false_iff_ne, bne_iff_ne, bne_eq_false_iff_eq, Bool.and_eq_true, Bool.or_eq_true, Bool.or_eq_false_iff, Bool.not_eq_true', Bool.not_eq_false', Bool.and_eq_false_imp, ne_eq, gt_iff_lt, ge_iff_le, Int.not_lt, Int.not_le, Classical.not_not] at c1
    refine Cd.rs [0, 1, 2, 14] fun K hK => ?_
    simp (maxSteps := 2000000) (disch := first | (simp only [E4] <;> omega) | omega | fail) only [↓E2, E3, bare, bareJ, ↓E0, E1, env0, envN, evOps, evOp, evQs, evQ, evV, setD, pureOp, ev, upd, updL, binW, eqOp, binV, intOp, shOp, boolOp, convV, hav, eqL, SameI, strOp, cvtQ, ↓reduceIte, Zj, Zk, Nat.reduceAdd, Nat.reduceLT, Nat.reduceEqDiff, Nat.reduceMul, Nat.reduceLeDiff, if_true, Zn, reduceCtorEq, ZA, eq_self, Int.reduceLE, Int.reduceLT, Int.reduceToNat, ne_eq, Nat.reduceSub, Tint2, Tpar5]
    repeat refine And.intro (by omega) ?_
    repeat refine And.intro (by omega) ?_
    intro g
    simp only [List.map_cons, List.map_nil, updL, upd, Nat.reduceEqDiff, if_true, if_false, ↓reduceIte]
    refine hK _ _ ?_; clear hK K
    refine Cd.cond rfl (fun c2 => ?_) (fun c2 => ?_)
    · simp only [decide_eq_true_eq, decide_eq_false_iff_not, beq_iff_eq, beq_eq_false_iff_ne, bne_iff_ne, bne_eq_false_iff_eq, Bool.and_eq_true, Bool.or_eq_true, Bool.or_eq_false_iff, Bool.not_eq_true', Bool.not_eq_false', Bool.and_eq_false_imp, ne_eq, gt_iff_lt, ge_iff_le, Int.not_lt, Int.not_le, Classical.not_not] at c2
      refine Cd.rs [6] fun K hK => ?_
      simp (maxSteps := 2000000) (disch := first | (simp only [E4] <;> omega) | omega | fail) only [↓E2, E3, bare, bareJ, ↓E0, E1, env0, envN, evOps, evOp, evQs, evQ, evV, setD, pureOp, ev, upd, updL, binW, eqOp, binV, intOp, shOp, boolOp, convV, hav, eqL, SameI, strOp, cvtQ, ↓reduceIte, Zj, Zk, Nat.reduceAdd, Nat.reduceLT, Nat.reduceEqDiff, Nat.reduceMul, Nat.reduceLeDiff, if_true, Zn, reduceCtorEq, ZA, eq_self, Int.reduceLE, Int.reduceLT, Int.reduceToNat, ne_eq, Nat.reduceSub, Tint5, Tpar2]
      repeat refine And.intro (by omega) ?_
      repeat refine And.intro (by omega) ?_
      intro g
      simp only [List.map_cons, List.map_nil, updL, upd, Nat.reduceEqDiff, if_true, if_false, ↓reduceIte]
      refine hK _ _ ?_; clear hK K
      refine Cd.ret (inBR (thenR ?_))
      simp (maxSteps := 2000000) (disch := first | (simp only [E4] <;> omega) | omega | fail) only [↓E2, E3, bare, bareJ, ↓E0, E1, evP, evPlan, env0, envN, evOps, evOp, evQs, evQ, evV, setD, pureOp, ev, upd, updL, gate, binW, eqOp, binV, intOp, shOp, boolOp, unV, convV, nilV, fieldAddrV, indexAddrV, extractV, cellAt, cellsAt, findB, setB, fillL, buildV, Value.cells, lenV, minV, maxV, hav, sliceV, loV, hiV, bslQ, mksQ, appQ, partsOk, partsCells, delB, eqL, SameI, strOp, apzQ, cvtQ, capV, ↓reduceIte, Zj, Zk, Nat.reduceAdd, Nat.reduceLT, Nat.reduceEqDiff, Nat.reduceMul, Nat.reduceLeDiff, if_true, Zn, reduceCtorEq, ZA, eq_self, Int.reduceLE, Int.reduceLT, Int.reduceToNat, ne_eq, Nat.reduceSub]
      repeat refine And.intro (by omega) ?_
      unfold lft
      rw [if_neg (by omega), if_pos c2, wrap_u8_mod]
    · simp only [decide_eq_true_eq, decide_eq_false_iff_not, beq_iff_eq, beq_eq_false_iff_ne, bne_iff_ne, bne_eq_false_iff_eq, Bool.and_eq_true, Bool.or_eq_true, Bool.or_eq_false_iff, Bool.not_eq_true', Bool.not_eq_false', Bool.and_eq_false_imp, ne_eq, gt_iff_lt, ge_iff_le, Int.not_lt, Int.not_le, Classical.not_not] at c2
      refine Cd.skip ?_
      refine inBN ?_
      refine thenN ?_
      refine Cd.rs [6] fun K hK => ?_
      simp (maxSteps := 2000000) (disch := first | (simp only [E4] <;> omega) | omega | fail) only [↓E2, E3, bare, bareJ, ↓E0, E1, env0, envN, evOps, evOp, evQs, evQ, evV, setD, pureOp, ev, upd, updL, hav, ↓reduceIte, Zj, Zk, Nat.reduceAdd, Nat.reduceLT, Nat.reduceEqDiff, Nat.reduceMul, Nat.reduceLeDiff, if_true, Zn, reduceCtorEq, ZA, eq_self, Int.reduceLE, Int.reduceLT, Int.reduceToNat, ne_eq, Nat.reduceSub]
      repeat refine And.intro (by omega) ?_
      repeat refine And.intro (by omega) ?_
      intro g
      simp only [List.map_cons, List.map_nil, updL, upd, Nat.reduceEqDiff, if_true, if_false, ↓reduceIte]
      refine hK _ _ ?_; clear hK K
      refine Cd.ret ?_
      simp (maxSteps := 2000000) (disch := first | (simp only [E4] <;> omega) | omega | fail) only [↓E2, E3, bare, bareJ, ↓E0, E1, evP, evPlan, env0, envN, evOps, evOp, evQs, evQ, evV, setD, pureOp, ev, upd, updL, gate, binW, eqOp, binV, intOp, shOp, boolOp, unV, convV, nilV, fieldAddrV, indexAddrV, extractV, cellAt, cellsAt, findB, setB, fillL, buildV, Value.cells, lenV, minV, maxV, hav, sliceV, loV, hiV, bslQ, mksQ, appQ, partsOk, partsCells, delB, eqL, SameI, strOp, apzQ, cvtQ, capV, ↓reduceIte, Zj, Zk, Nat.reduceAdd, Nat.reduceLT, Nat.reduceEqDiff, Nat.reduceMul, Nat.reduceLeDiff, if_true, Zn, reduceCtorEq, ZA, eq_self, Int.reduceLE, Int.reduceLT, Int.reduceToNat, ne_eq, Nat.reduceSub]
      repeat refine And.intro (by omega) ?_
      unfold lft
      rw [if_neg (by omega), if_neg c2]
theorem stabd_c (n i : Nat) (mark rt u : Int) (x o : List Int) (hx : Bytes8 x) (ho : Bytes8 o) (n2 : 2 ≤ n) (n7 : n ≤ 7) (hi : i < n) (rt0 : 0 ≤ rt) (rt1 : rt ≤ 1) (u0 : 0 ≤ u) (u1 : u ≤ 1) :
    GivesX Try.prog 91 #[.agg (gc (n : Int) x o).toArray, .int .i64 (i : Int), .int .i64 mark, .int .i64 rt, .int .i64 u] [] [] (fun v M' => (∃ x' o', v = .agg (gc ((n : Int) + 1) x' o').toArray ∧ Bytes8 x' ∧ Bytes8 o') ∧ M' = []) := by
  have xl := hx.len
  have ol := ho.len
  skip
  refine GivesX.part ?_
  refine GivesX.of (callable_of Try.func91 rfl (by decide)) ?_ fun w hnd hlt hR => ?_
  · simp
  refine acall_of (N := 117) (c := _) (rs := [.cell 10 32]) (args := [_, _, _, _, _]) Try.func91 rfl (by decide) rfl rfl (Nat.le_of_ble_eq_true rfl) ?_
  refine Cd.rs [1, 2, 3, 4, 5, 10] fun K hK => ?_
  simp (maxSteps := 2000000) (disch := first | (simp only [E4, xl, ol] <;> omega) | omega | fail) only [↓E2, E3, bare, bareJ, ↓E0, E1, env0, envN, evOps, evOp, evQs, evQ, evV, setD, pureOp, ev, upd, updL, Value.cells, hav, ↓reduceIte, Zj, Zk, Nat.reduceAdd, Nat.reduceLT, Nat.reduceEqDiff, Nat.reduceMul, Nat.reduceLeDiff, if_true, Zn, reduceCtorEq, ZA, eq_self, Int.reduceLE, Int.reduceLT, Int.reduceToNat, ne_eq, Nat.reduceSub, Tzero32, xl, ol]
  repeat refine And.intro (by omega) ?_
  intro b1 hb1
  intro b2 hb2
  have nb2_b1 := hb2.ne
  try simp (maxSteps := 2000000) (disch := first | (simp only [E4, xl, ol] <;> omega) | omega | fail) only [↓E2, E3, bare, bareJ, ↓E0, E1, env0, envN, evOps, evOp, evQs, evQ, evV, setD, pureOp, ev, upd, updL, Value.cells, hav, ↓reduceIte, Zj, Zk, Nat.reduceAdd, Nat.reduceLT, Nat.reduceEqDiff, Nat.reduceMul, Nat.reduceLeDiff, if_true, Zn, reduceCtorEq, ZA, eq_self, Int.reduceLE, Int.reduceLT, Int.reduceToNat, ne_eq, Nat.reduceSub, Tzero32, xl, ol, nb2_b1]
  repeat refine And.intro (by omega) ?_
  repeat refine And.intro (by omega) ?_
  intro g
  simp only [List.map_cons, List.map_nil, updL, upd, Nat.reduceEqDiff, if_true, if_false, ↓reduceIte]
  refine hK _ _ ?_; clear hK K
  refine Cd.ps [1, 2, 3, 4, 5, 10, 11, 12] (Plan.take 0 (Plan.take 1 (Plan.take 2 (Plan.more 3 (Plan.more 4 (Plan.one 5 (Plan.one 6 (Plan.one 7 (Plan.done)))) (Plan.one 5 (Plan.one 4 (Plan.one 6 (Plan.one 7 (Plan.done)))))) (Plan.more 4 (Plan.more 3 (Plan.one 5 (Plan.one 6 (Plan.one 7 (Plan.done)))) (Plan.one 5 (Plan.more 3 (Plan.one 6 (Plan.one 7 (Plan.done))) (Plan.one 6 (Plan.take 3 (Plan.one 7 (Plan.done))))))) (Plan.one 5 (Plan.more 3 (Plan.one 4 (Plan.one 6 (Plan.one 7 (Plan.done)))) (Plan.one 4 (Plan.more 3 (Plan.one 6 (Plan.one 7 (Plan.done))) (Plan.one 6 (Plan.take 3 (Plan.one 7 (Plan.done))))))))))))) fol (by kernel_rfl) (Nat.le_of_ble_eq_true rfl) fun K hK => ?_
  have J : ∀ g b3 b4 M, SubP [(b4, ints .u8 o), (b3, ints .u8 x), (b2, gc 0 z8 z8), (b1, gc (n : Int) x o)] M → K (updL [(1, .int .i64 (i : Int)), (2, .int .i64 mark), (3, .int .i64 rt), (4, .int .i64 u), (5, .pointer (some ⟨b1, 0, none⟩)), (10, .pointer (some ⟨b2, 0, none⟩)), (11, .pointer (some ⟨b3, 0, none⟩)), (12, .pointer (some ⟨b4, 0, none⟩))] g) M := by
    intro g b3 b4 M hM
    refine hK _ _ (Cd.sub hM ?_)
    clear hM M hK K
    refine Cd.midq (fun ρ M => ∃ g p q, Bytes8 p ∧ Bytes8 q ∧ ρ = updL [(1, .int .i64 (i : Int)), (2, .int .i64 mark), (3, .int .i64 rt), (4, .int .i64 u), (5, .pointer (some ⟨b1, 0, none⟩)), (10, .pointer (some ⟨b2, 0, none⟩)), (11, .pointer (some ⟨b3, 0, none⟩)), (12, .pointer (some ⟨b4, 0, none⟩))] g ∧ SubP [(b4, ints .u8 q), (b3, ints .u8 p), (b2, gc 0 z8 z8), (b1, gc (n : Int) x o)] M) ?_ ?_
    · refine Cd.nodup fun hnd => ?_
      have d0_1 : (b4 = b3) = False := eq_false ((nodup_cases hnd).1 (b3, ints .u8 x) (by simp))
      have d0_2 : (b4 = b2) = False := eq_false ((nodup_cases hnd).1 (b2, gc 0 z8 z8) (by simp))
      have d0_3 : (b4 = b1) = False := eq_false ((nodup_cases hnd).1 (b1, gc (n : Int) x o) (by simp))
      have d1_2 : (b3 = b2) = False := eq_false ((nodup_cases (nodup_cases hnd).2).1 (b2, gc 0 z8 z8) (by simp))
      have d1_3 : (b3 = b1) = False := eq_false ((nodup_cases (nodup_cases hnd).2).1 (b1, gc (n : Int) x o) (by simp))
      have d2_3 : (b2 = b1) = False := eq_false ((nodup_cases (nodup_cases (nodup_cases hnd).2).2).1 (b1, gc (n : Int) x o) (by simp))
      skip
      skip
      clear hnd
      refine Cd.rs [1, 2, 3, 4, 5, 10, 11, 12, 23] fun K hK => ?_
      simp (maxSteps := 2000000) (disch := first | (simp only [E4, xl, ol] <;> omega) | omega | fail) only [↓E2, E3, bare, bareJ, ↓E0, E1, env0, envN, evOps, evOp, evQs, evQ, evV, setD, pureOp, ev, upd, updL, binW, eqOp, binV, intOp, shOp, boolOp, hav, eqL, SameI, strOp, ↓reduceIte, Zj, Zk, Nat.reduceAdd, Nat.reduceLT, Nat.reduceEqDiff, Nat.reduceMul, Nat.reduceLeDiff, if_true, Zn, reduceCtorEq, ZA, eq_self, Int.reduceLE, Int.reduceLT, Int.reduceToNat, ne_eq, Nat.reduceSub, xl, ol, nb2_b1, d0_1, d0_2, d0_3, d1_2, d1_3, d2_3]
      repeat refine And.intro (by omega) ?_
      repeat refine And.intro (by omega) ?_
      intro g
      simp only [List.map_cons, List.map_nil, updL, upd, Nat.reduceEqDiff, if_true, if_false, ↓reduceIte]
      refine hK _ _ ?_; clear hK K
      refine Cd.cond rfl (fun c1 => ?_) (fun c1 => ?_)
      · refine Cd.rs [1, 2, 3, 4, 5, 10, 11, 12] fun K hK => ?_
        simp (maxSteps := 2000000) (disch := first | (simp only [E4, xl, ol] <;> omega) | omega | fail) only [↓E2, E3, bare, bareJ, ↓E0, E1, env0, envN, evOps, evOp, evQs, evQ, evV, setD, pureOp, ev, upd, updL, fieldAddrV, cellAt, cellsAt, findB, setB, Value.cells, hav, ↓reduceIte, Zj, Zk, Nat.reduceAdd, Nat.reduceLT, Nat.reduceEqDiff, Nat.reduceMul, Nat.reduceLeDiff, if_true, Zn, reduceCtorEq, ZA, eq_self, Int.reduceLE, Int.reduceLT, Int.reduceToNat, ne_eq, Nat.reduceSub, Tfld32_2, Tld30, Tst30, xl, ol, nb2_b1, d0_1, d0_2, d0_3, d1_2, d1_3, d2_3]
        repeat refine And.intro (by omega) ?_
        repeat refine And.intro (by omega) ?_
        intro g
        simp only [List.map_cons, List.map_nil, updL, upd, Nat.reduceEqDiff, if_true, if_false, ↓reduceIte]
        refine hK _ _ ?_; clear hK K
        refine Cd.rr [1, 2, 3, 4, 5, 10, 11, 12] fun K hK => ?_
        simp (maxSteps := 2000000) (disch := first | (simp only [E4, xl, ol] <;> omega) | omega | fail) only [↓E2, E3, bare, bareJ, ↓E0, E1, env0, envN, evOps, evOp, evQs, evQ, evV, setD, pureOp, ev, upd, updL, fieldAddrV, cellAt, cellsAt, findB, setB, Value.cells, hav, ↓reduceIte, Zj, Zk, Nat.reduceAdd, Nat.reduceLT, Nat.reduceEqDiff, Nat.reduceMul, Nat.reduceLeDiff, if_true, Zn, reduceCtorEq, ZA, eq_self, Int.reduceLE, Int.reduceLT, Int.reduceToNat, ne_eq, Nat.reduceSub, Tfld32_1, Tld30, Tst30, xl, ol, nb2_b1, d0_1, d0_2, d0_3, d1_2, d1_3, d2_3]
        repeat refine And.intro (by omega) ?_
        repeat refine And.intro (by omega) ?_
        intro g
        simp only [List.map_cons, List.map_nil, updL, upd, Nat.reduceEqDiff, if_true, if_false, ↓reduceIte]
        refine hK _ _ ?_; clear hK K
        exact midN ⟨_, o, x, ho, hx, rfl, SubP.refl _⟩
      · refine Cd.skip ?_
        exact midN ⟨_, x, o, hx, ho, rfl, SubP.refl _⟩
    · rintro ρ M ⟨g, p, q, hp, hq, rfl, hM⟩
      have pl := hp.len
      have ql := hq.len
      skip
      refine Cd.sub hM ?_
      clear hM M
      refine Cd.nodup fun hnd => ?_
      have e0_1 : (b4 = b3) = False := eq_false ((nodup_cases hnd).1 (b3, ints .u8 p) (by simp))
      have e0_2 : (b4 = b2) = False := eq_false ((nodup_cases hnd).1 (b2, gc 0 z8 z8) (by simp))
      have e0_3 : (b4 = b1) = False := eq_false ((nodup_cases hnd).1 (b1, gc (n : Int) x o) (by simp))
      have e1_2 : (b3 = b2) = False := eq_false ((nodup_cases (nodup_cases hnd).2).1 (b2, gc 0 z8 z8) (by simp))
      have e1_3 : (b3 = b1) = False := eq_false ((nodup_cases (nodup_cases hnd).2).1 (b1, gc (n : Int) x o) (by simp))
      have e2_3 : (b2 = b1) = False := eq_false ((nodup_cases (nodup_cases (nodup_cases hnd).2).2).1 (b1, gc (n : Int) x o) (by simp))
      skip
      skip
      clear hnd
      have hr := bytes_get hp (i := i) (by omega)
      refine Cd.rs [1, 2, 3, 4, 5, 10, 11, 12, 13] fun K hK => ?_
      simp (maxSteps := 2000000) (disch := first | (simp only [E4, xl, ol, pl, ql] <;> omega) | omega | fail) only [↓E2, E3, bare, bareJ, ↓E0, E1, env0, envN, evOps, evOp, evQs, evQ, evV, setD, pureOp, ev, upd, updL, convV, indexAddrV, cellAt, cellsAt, findB, hav, cvtQ, ↓reduceIte, Zj, Zk, Nat.reduceAdd, Nat.reduceLT, Nat.reduceEqDiff, Nat.reduceMul, Nat.reduceLeDiff, if_true, Zn, reduceCtorEq, ZA, eq_self, Int.reduceLE, Int.reduceLT, Int.reduceToNat, ne_eq, Nat.reduceSub, Tarr30, Tint2, Tld5, Tpar5, xl, ol, nb2_b1, pl, ql, e0_1, e0_2, e0_3, e1_2, e1_3, e2_3]
      repeat refine And.intro (by omega) ?_
      repeat refine And.intro (by omega) ?_
      intro g
      simp only [List.map_cons, List.map_nil, updL, upd, Nat.reduceEqDiff, if_true, if_false, ↓reduceIte]
      refine hK _ _ ?_; clear hK K
      obtain ⟨r, er, r0, r1⟩ : ∃ r, p.getD i 0 = r ∧ 0 ≤ r ∧ r < 256 := ⟨_, rfl, hr.1, hr.2⟩
      rw [er]
      clear er hr
      refine Cd.rs [1, 2, 3, 4, 5, 10, 11, 12, 13, 14, 15] fun K hK => ?_
      simp (maxSteps := 2000000) (disch := first | (simp only [E4, xl, ol, pl, ql] <;> omega) | omega | fail) only [↓E2, E3, bare, bareJ, ↓E0, E1, evP, env0, envN, evOps, evOp, evQs, evQ, evV, setD, pureOp, ev, upd, updL, cellAt, cellsAt, findB, setB, fillL, buildV, Value.cells, hav, ↓reduceIte, Zj, Zk, Nat.reduceAdd, Nat.reduceLT, Nat.reduceEqDiff, Nat.reduceMul, Nat.reduceLeDiff, if_true, Zn, reduceCtorEq, ZA, eq_self, Int.reduceLE, Int.reduceLT, Int.reduceToNat, ne_eq, Nat.reduceSub, Tbld30, Tst30, Tzero30, xl, ol, nb2_b1, pl, ql, e0_1, e0_2, e0_3, e1_2, e1_3, e2_3]
      repeat refine And.intro (by omega) ?_
      intro b5 hb5
      have nb5_b4 := hb5.ne
      have nb5_b3 := hb5.tail.ne
      have nb5_b2 := hb5.tail.tail.ne
      have nb5_b1 := hb5.tail.tail.tail.ne
      intro b6 hb6
      have nb6_b5 := hb6.ne
      have nb6_b4 := hb6.tail.ne
      have nb6_b3 := hb6.tail.tail.ne
      have nb6_b2 := hb6.tail.tail.tail.ne
      have nb6_b1 := hb6.tail.tail.tail.tail.ne
      try simp (maxSteps := 2000000) (disch := first | (simp only [E4, xl, ol, pl, ql] <;> omega) | omega | fail) only [↓E2, E3, bare, bareJ, ↓E0, E1, evP, env0, envN, evOps, evOp, evQs, evQ, evV, setD, pureOp, ev, upd, updL, cellAt, cellsAt, findB, setB, fillL, buildV, Value.cells, hav, ↓reduceIte, Zj, Zk, Nat.reduceAdd, Nat.reduceLT, Nat.reduceEqDiff, Nat.reduceMul, Nat.reduceLeDiff, if_true, Zn, reduceCtorEq, ZA, eq_self, Int.reduceLE, Int.reduceLT, Int.reduceToNat, ne_eq, Nat.reduceSub, Tbld30, Tst30, Tzero30, xl, ol, nb2_b1, pl, ql, e0_1, e0_2, e0_3, e1_2, e1_3, e2_3, nb5_b4, nb5_b3, nb5_b2, nb5_b1, nb6_b5, nb6_b4, nb6_b3, nb6_b2, nb6_b1]
      repeat refine And.intro (by omega) ?_
      repeat refine And.intro (by omega) ?_
      intro g
      simp only [List.map_cons, List.map_nil, updL, upd, Nat.reduceEqDiff, if_true, if_false, ↓reduceIte]
      refine hK _ _ ?_; clear hK K
      refine Cd.seq ?_
      refine Cd.rs [1, 2, 3, 4, 5, 10, 11, 12, 13, 14, 15, 16] fun K hK => ?_
      simp (maxSteps := 2000000) (disch := first | (simp only [E4, xl, ol, pl, ql] <;> omega) | omega | fail) only [↓E2, E3, bare, bareJ, ↓E0, E1, env0, envN, evOps, evOp, evQs, evQ, evV, setD, pureOp, ev, upd, updL, hav, ↓reduceIte, Zj, Zk, Nat.reduceAdd, Nat.reduceLT, Nat.reduceEqDiff, Nat.reduceMul, Nat.reduceLeDiff, if_true, Zn, reduceCtorEq, ZA, eq_self, Int.reduceLE, Int.reduceLT, Int.reduceToNat, ne_eq, Nat.reduceSub, xl, ol, nb2_b1, pl, ql, e0_1, e0_2, e0_3, e1_2, e1_3, e2_3, nb5_b4, nb5_b3, nb5_b2, nb5_b1, nb6_b5, nb6_b4, nb6_b3, nb6_b2, nb6_b1]
      repeat refine And.intro (by omega) ?_
      repeat refine And.intro (by omega) ?_
      intro g
      simp only [List.map_cons, List.map_nil, updL, upd, Nat.reduceEqDiff, if_true, if_false, ↓reduceIte]
      refine hK _ _ ?_; clear hK K
      refine Cd.block ?_
      refine Cd.loop (fun j ρ M => ∃ g k a c, Bytes8 a ∧ Bytes8 c ∧ k + j = n ∧ ρ = updL [(1, .int .i64 (i : Int)), (2, .int .i64 mark), (3, .int .i64 rt), (4, .int .i64 u), (5, .pointer (some ⟨b1, 0, none⟩)), (10, .pointer (some ⟨b2, 0, none⟩)), (11, .pointer (some ⟨b3, 0, none⟩)), (12, .pointer (some ⟨b4, 0, none⟩)), (13, .int .i64 r), (14, .pointer (some ⟨b5, 0, none⟩)), (15, .pointer (some ⟨b6, 0, none⟩)), (16, .int .i64 (k : Int))] g ∧ M = [(b6, ints .u8 c), (b5, ints .u8 a), (b4, ints .u8 q), (b3, ints .u8 p), (b2, gc 0 z8 z8), (b1, gc (n : Int) x o)]) n ⟨_, 0, z8, z8, bytes_z8, bytes_z8, Nat.zero_add _, rfl, rfl⟩ ?_
      rintro j ρ M ⟨g, k, a, c, ha, hc, hk, rfl, rfl⟩
      have al := ha.len
      have cl := hc.len
      skip
      refine Cd.seq ?_
      refine Cd.rs [1, 2, 3, 4, 5, 10, 11, 12, 13, 14, 15, 16, 37] fun K hK => ?_
      simp (maxSteps := 2000000) (disch := first | (simp only [E4, xl, ol, pl, ql, al, cl] <;> omega) | omega | fail) only [↓E2, E3, bare, bareJ, ↓E0, E1, env0, envN, evOps, evOp, evQs, evQ, evV, setD, pureOp, ev, upd, updL, binW, eqOp, binV, intOp, shOp, boolOp, fieldAddrV, cellAt, cellsAt, findB, hav, eqL, SameI, strOp, ↓reduceIte, Zj, Zk, Nat.reduceAdd, Nat.reduceLT, Nat.reduceEqDiff, Nat.reduceMul, Nat.reduceLeDiff, if_true, Zn, reduceCtorEq, ZA, eq_self, Int.reduceLE, Int.reduceLT, Int.reduceToNat, ne_eq, Nat.reduceSub, Tfld32_0, Tld2, xl, ol, nb2_b1, pl, ql, e0_1, e0_2, e0_3, e1_2, e1_3, e2_3, nb5_b4, nb5_b3, nb5_b2, nb5_b1, nb6_b5, nb6_b4, nb6_b3, nb6_b2, nb6_b1, al, cl]
      repeat refine And.intro (by omega) ?_
      repeat refine And.intro (by omega) ?_
      intro g
      simp only [List.map_cons, List.map_nil, updL, upd, Nat.reduceEqDiff, if_true, if_false, ↓reduceIte]
      refine hK _ _ ?_; clear hK K
      refine Cd.condd rfl (fun c2 => ?_) (fun c2 => ?_)
      · refine Cd.skip ?_
        refine thenN ?_
        refine Cd.midq (fun ρ M => ∃ g a c, Bytes8 a ∧ Bytes8 c ∧ ρ = updL [(1, .int .i64 (i : Int)), (2, .int .i64 mark), (3, .int .i64 rt), (4, .int .i64 u), (5, .pointer (some ⟨b1, 0, none⟩)), (10, .pointer (some ⟨b2, 0, none⟩)), (11, .pointer (some ⟨b3, 0, none⟩)), (12, .pointer (some ⟨b4, 0, none⟩)), (13, .int .i64 r), (14, .pointer (some ⟨b5, 0, none⟩)), (15, .pointer (some ⟨b6, 0, none⟩)), (16, .int .i64 (k : Int))] g ∧ M = [(b6, ints .u8 c), (b5, ints .u8 a), (b4, ints .u8 q), (b3, ints .u8 p), (b2, gc 0 z8 z8), (b1, gc (n : Int) x o)]) ?_ ?_
        · refine Cd.block ?_
          refine Cd.rs [1, 2, 3, 4, 5, 10, 11, 12, 13, 14, 15, 16, 17] fun K hK => ?_
          simp (maxSteps := 2000000) (disch := first | (simp only [E4, xl, ol, pl, ql, al, cl] <;> omega) | omega | fail) only [↓E2, E3, bare, bareJ, ↓E0, E1, env0, envN, evOps, evOp, evQs, evQ, evV, setD, pureOp, ev, upd, updL, hav, ↓reduceIte, Zj, Zk, Nat.reduceAdd, Nat.reduceLT, Nat.reduceEqDiff, Nat.reduceMul, Nat.reduceLeDiff, if_true, Zn, reduceCtorEq, ZA, eq_self, Int.reduceLE, Int.reduceLT, Int.reduceToNat, ne_eq, Nat.reduceSub, xl, ol, nb2_b1, pl, ql, e0_1, e0_2, e0_3, e1_2, e1_3, e2_3, nb5_b4, nb5_b3, nb5_b2, nb5_b1, nb6_b5, nb6_b4, nb6_b3, nb6_b2, nb6_b1, al, cl]
          repeat refine And.intro (by omega) ?_
          repeat refine And.intro (by omega) ?_
          intro g
          simp only [List.map_cons, List.map_nil, updL, upd, Nat.reduceEqDiff, if_true, if_false, ↓reduceIte]
          refine hK _ _ ?_; clear hK K
          refine Cd.midq (fun ρ M => ∃ g, ∃ to : Nat, to ≤ 7 ∧ ρ = updL [(1, .int .i64 (i : Int)), (2, .int .i64 mark), (3, .int .i64 rt), (4, .int .i64 u), (5, .pointer (some ⟨b1, 0, none⟩)), (10, .pointer (some ⟨b2, 0, none⟩)), (11, .pointer (some ⟨b3, 0, none⟩)), (12, .pointer (some ⟨b4, 0, none⟩)), (13, .int .i64 r), (14, .pointer (some ⟨b5, 0, none⟩)), (15, .pointer (some ⟨b6, 0, none⟩)), (16, .int .i64 (k : Int)), (17, .int .i64 (to : Int))] g ∧ M = [(b6, ints .u8 c), (b5, ints .u8 a), (b4, ints .u8 q), (b3, ints .u8 p), (b2, gc 0 z8 z8), (b1, gc (n : Int) x o)]) ?_ ?_
          · refine Cd.rs [1, 2, 3, 4, 5, 10, 11, 12, 13, 14, 15, 16, 17, 43] fun K hK => ?_
            simp (maxSteps := 2000000) (disch := first | (simp only [E4, xl, ol, pl, ql, al, cl] <;> omega) | omega | fail) only [↓E2, E3, bare, bareJ, ↓E0, E1, env0, envN, evOps, evOp, evQs, evQ, evV, setD, pureOp, ev, upd, updL, binW, eqOp, binV, intOp, shOp, boolOp, hav, eqL, SameI, strOp, ↓reduceIte, Zj, Zk, Nat.reduceAdd, Nat.reduceLT, Nat.reduceEqDiff, Nat.reduceMul, Nat.reduceLeDiff, if_true, Zn, reduceCtorEq, ZA, eq_self, Int.reduceLE, Int.reduceLT, Int.reduceToNat, ne_eq, Nat.reduceSub, xl, ol, nb2_b1, pl, ql, e0_1, e0_2, e0_3, e1_2, e1_3, e2_3, nb5_b4, nb5_b3, nb5_b2, nb5_b1, nb6_b5, nb6_b4, nb6_b3, nb6_b2, nb6_b1, al, cl]
            repeat refine And.intro (by omega) ?_
            repeat refine And.intro (by omega) ?_
            intro g
            simp only [List.map_cons, List.map_nil, updL, upd, Nat.reduceEqDiff, if_true, if_false, ↓reduceIte]
            refine hK _ _ ?_; clear hK K
            refine Cd.cond rfl (fun c3 => ?_) (fun c3 => ?_)
            · refine Cd.rr [1, 2, 3, 4, 5, 10, 11, 12, 13, 14, 15, 16, 17] fun K hK => ?_
              simp (maxSteps := 2000000) (disch := first | (simp only [E4, xl, ol, pl, ql, al, cl] <;> omega) | omega | fail) only [↓E2, E3, bare, bareJ, ↓E0, E1, env0, envN, evOps, evOp, evQs, evQ, evV, setD, pureOp, ev, upd, updL, binW, eqOp, binV, intOp, shOp, boolOp, hav, eqL, SameI, strOp, ↓reduceIte, Zj, Zk, Nat.reduceAdd, Nat.reduceLT, Nat.reduceEqDiff, Nat.reduceMul, Nat.reduceLeDiff, if_true, Zn, reduceCtorEq, ZA, eq_self, Int.reduceLE, Int.reduceLT, Int.reduceToNat, ne_eq, Nat.reduceSub, xl, ol, nb2_b1, pl, ql, e0_1, e0_2, e0_3, e1_2, e1_3, e2_3, nb5_b4, nb5_b3, nb5_b2, nb5_b1, nb6_b5, nb6_b4, nb6_b3, nb6_b2, nb6_b1, al, cl]
              repeat refine And.intro (by omega) ?_
              repeat refine And.intro (by omega) ?_
              intro g
              simp only [List.map_cons, List.map_nil, updL, upd, Nat.reduceEqDiff, if_true, if_false, ↓reduceIte]
              refine hK _ _ ?_; clear hK K
              exact midN ⟨_, k + 1, by omega, rfl, rfl⟩
            · refine Cd.skip ?_
              exact midN ⟨_, k, by omega, rfl, rfl⟩
          · rintro ρ M ⟨g, to, hto, rfl, rfl⟩
            refine Cd.rs [1, 2, 3, 4, 5, 10, 11, 12, 13, 14, 15, 16, 17, 48] fun K hK => ?_
            simp (maxSteps := 2000000) (disch := first | (simp only [E4, xl, ol, pl, ql, al, cl] <;> omega) | omega | fail) only [↓E2, E3, bare, bareJ, ↓E0, E1, env0, envN, evOps, evOp, evQs, evQ, evV, setD, pureOp, ev, upd, updL, binW, eqOp, binV, intOp, shOp, boolOp, hav, eqL, SameI, strOp, ↓reduceIte, Zj, Zk, Nat.reduceAdd, Nat.reduceLT, Nat.reduceEqDiff, Nat.reduceMul, Nat.reduceLeDiff, if_true, Zn, reduceCtorEq, ZA, eq_self, Int.reduceLE, Int.reduceLT, Int.reduceToNat, ne_eq, Nat.reduceSub, xl, ol, nb2_b1, pl, ql, e0_1, e0_2, e0_3, e1_2, e1_3, e2_3, nb5_b4, nb5_b3, nb5_b2, nb5_b1, nb6_b5, nb6_b4, nb6_b3, nb6_b2, nb6_b1, al, cl]
            repeat refine And.intro (by omega) ?_
            repeat refine And.intro (by omega) ?_
            intro g
            simp only [List.map_cons, List.map_nil, updL, upd, Nat.reduceEqDiff, if_true, if_false, ↓reduceIte]
            refine hK _ _ ?_; clear hK K
            refine Cd.cond rfl (fun c4 => ?_) (fun c4 => ?_)
            · have hpk := bytes_get hp (i := k) (by omega)
              have hqk := bytes_get hq (i := k) (by omega)
              have l1 := lft_rng (r := r) (u := u) hpk.1 hpk.2
              have l2 := lft_rng (r := r) (u := u) hqk.1 hqk.2
              refine Cd.rs [1, 2, 3, 4, 5, 10, 11, 12, 13, 14, 15, 16, 17] fun K hK => ?_
              simp (maxSteps := 2000000) (disch := first | (simp only [E4, xl, ol, pl, ql, al, cl] <;> omega) | omega | fail) only [↓E2, E3, bare, bareJ, ↓E0, E1, env0, envN, evOps, evOp, evQs, evQ, evV, setD, pureOp, ev, upd, updL, indexAddrV, cellAt, cellsAt, findB, setB, Value.cells, hav, ↓reduceIte, Zj, Zk, Nat.reduceAdd, Nat.reduceLT, Nat.reduceEqDiff, Nat.reduceMul, Nat.reduceLeDiff, if_true, Zn, reduceCtorEq, ZA, eq_self, Int.reduceLE, Int.reduceLT, Int.reduceToNat, ne_eq, Nat.reduceSub, Tarr30, Tld5, Tst5, xl, ol, nb2_b1, pl, ql, e0_1, e0_2, e0_3, e1_2, e1_3, e2_3, nb5_b4, nb5_b3, nb5_b2, nb5_b1, nb6_b5, nb6_b4, nb6_b3, nb6_b2, nb6_b1, al, cl]
              repeat refine And.intro (by omega) ?_
              refine callK_gives (lifted_c _ r u hpk.1 hpk.2 r0 r1 u0 u1) ?_
              simp (maxSteps := 2000000) (disch := first | (simp only [E4, xl, ol, pl, ql, al, cl] <;> omega) | omega | fail) only [↓E2, E3, bare, bareJ, ↓E0, E1, env0, envN, evOps, evOp, evQs, evQ, evV, setD, pureOp, ev, upd, updL, indexAddrV, cellAt, cellsAt, findB, setB, Value.cells, hav, ↓reduceIte, Zj, Zk, Nat.reduceAdd, Nat.reduceLT, Nat.reduceEqDiff, Nat.reduceMul, Nat.reduceLeDiff, if_true, Zn, reduceCtorEq, ZA, eq_self, Int.reduceLE, Int.reduceLT, Int.reduceToNat, ne_eq, Nat.reduceSub, Tarr30, Tld5, Tst5, xl, ol, nb2_b1, pl, ql, e0_1, e0_2, e0_3, e1_2, e1_3, e2_3, nb5_b4, nb5_b3, nb5_b2, nb5_b1, nb6_b5, nb6_b4, nb6_b3, nb6_b2, nb6_b1, al, cl]
              repeat refine And.intro (by omega) ?_
              repeat refine And.intro (by omega) ?_
              intro g
              simp only [List.map_cons, List.map_nil, updL, upd, Nat.reduceEqDiff, if_true, if_false, ↓reduceIte]
              refine hK _ _ ?_; clear hK K
              refine Cd.rr [1, 2, 3, 4, 5, 10, 11, 12, 13, 14, 15, 16] fun K hK => ?_
              simp (maxSteps := 2000000) (disch := first | (simp only [E4, xl, ol, pl, ql, al, cl] <;> omega) | omega | fail) only [↓E2, E3, bare, bareJ, ↓E0, E1, env0, envN, evOps, evOp, evQs, evQ, evV, setD, pureOp, ev, upd, updL, indexAddrV, cellAt, cellsAt, findB, setB, Value.cells, hav, ↓reduceIte, Zj, Zk, Nat.reduceAdd, Nat.reduceLT, Nat.reduceEqDiff, Nat.reduceMul, Nat.reduceLeDiff, if_true, Zn, reduceCtorEq, ZA, eq_self, Int.reduceLE, Int.reduceLT, Int.reduceToNat, ne_eq, Nat.reduceSub, Tarr30, Tld5, Tst5, xl, ol, nb2_b1, pl, ql, e0_1, e0_2, e0_3, e1_2, e1_3, e2_3, nb5_b4, nb5_b3, nb5_b2, nb5_b1, nb6_b5, nb6_b4, nb6_b3, nb6_b2, nb6_b1, al, cl]
              repeat refine And.intro (by omega) ?_
              refine callK_gives (lifted_c _ r u hqk.1 hqk.2 r0 r1 u0 u1) ?_
              simp (maxSteps := 2000000) (disch := first | (simp only [E4, xl, ol, pl, ql, al, cl] <;> omega) | omega | fail) only [↓E2, E3, bare, bareJ, ↓E0, E1, env0, envN, evOps, evOp, evQs, evQ, evV, setD, pureOp, ev, upd, updL, indexAddrV, cellAt, cellsAt, findB, setB, Value.cells, hav, ↓reduceIte, Zj, Zk, Nat.reduceAdd, Nat.reduceLT, Nat.reduceEqDiff, Nat.reduceMul, Nat.reduceLeDiff, if_true, Zn, reduceCtorEq, ZA, eq_self, Int.reduceLE, Int.reduceLT, Int.reduceToNat, ne_eq, Nat.reduceSub, Tarr30, Tld5, Tst5, xl, ol, nb2_b1, pl, ql, e0_1, e0_2, e0_3, e1_2, e1_3, e2_3, nb5_b4, nb5_b3, nb5_b2, nb5_b1, nb6_b5, nb6_b4, nb6_b3, nb6_b2, nb6_b1, al, cl]
              repeat refine And.intro (by omega) ?_
              repeat refine And.intro (by omega) ?_
              intro g
              simp only [List.map_cons, List.map_nil, updL, upd, Nat.reduceEqDiff, if_true, if_false, ↓reduceIte]
              refine hK _ _ ?_; clear hK K
              refine inBN ?_
              exact midN ⟨_, _, _, bytes_set ha l1.1 l1.2, bytes_set hc l2.1 l2.2, rfl, rfl⟩
            · refine Cd.skip ?_
              refine inBN ?_
              exact midN ⟨_, a, c, ha, hc, (norm_of (by repeat (first | exact trivial | refine And.intro rfl ?_))), rfl⟩
        · rintro ρ M ⟨g, a, c, ha, hc, rfl, rfl⟩
          refine Cd.rr [1, 2, 3, 4, 5, 10, 11, 12, 13, 14, 15, 16] fun K hK => ?_
          simp (maxSteps := 2000000) (disch := first | (simp only [E4, xl, ol, pl, ql, al, cl] <;> omega) | omega | fail) only [↓E2, E3, bare, bareJ, ↓E0, E1, env0, envN, evOps, evOp, evQs, evQ, evV, setD, pureOp, ev, upd, updL, binW, eqOp, binV, intOp, shOp, boolOp, hav, eqL, SameI, strOp, ↓reduceIte, Zj, Zk, Nat.reduceAdd, Nat.reduceLT, Nat.reduceEqDiff, Nat.reduceMul, Nat.reduceLeDiff, if_true, Zn, reduceCtorEq, ZA, eq_self, Int.reduceLE, Int.reduceLT, Int.reduceToNat, ne_eq, Nat.reduceSub, xl, ol, nb2_b1, pl, ql, e0_1, e0_2, e0_3, e1_2, e1_3, e2_3, nb5_b4, nb5_b3, nb5_b2, nb5_b1, nb6_b5, nb6_b4, nb6_b3, nb6_b2, nb6_b1, al, cl]
          repeat refine And.intro (by omega) ?_
          repeat refine And.intro (by omega) ?_
          intro g
          simp only [List.map_cons, List.map_nil, updL, upd, Nat.reduceEqDiff, if_true, if_false, ↓reduceIte]
          refine hK _ _ ?_; clear hK K
          exact roundN (m := j - 1) (by omega) ⟨_, k + 1, a, c, ha, hc, by omega, rfl, rfl⟩
      · refine Cd.exit (thenX (roundX (inBX ?_)))
        refine thenN ?_
        have hqi := bytes_get hq (i := i) (by omega)
        have l2 := lft_rng (r := r) (u := u) hqi.1 hqi.2
        obtain ⟨s, rfl⟩ : ∃ s : Nat, rt = (s : Int) := ⟨rt.toNat, by omega⟩
        obtain ⟨i1, ei1, hi1⟩ : ∃ i1 : Nat, (i : Int) + (s : Int) = (i1 : Int) ∧ i1 ≤ 7 := ⟨i + s, by omega, by omega⟩
        obtain ⟨i2, ei2, hi2⟩ : ∃ i2 : Nat, (i : Int) + 1 - (s : Int) = (i2 : Int) ∧ i2 ≤ 7 := ⟨i + 1 - s, by omega, by omega⟩
        have t1 := wrapb (r + 1 - u)
        have t2 := wrapb (r + u)
        skip
        refine Cd.rs [1, 2, 3, 4, 5, 10, 12, 13, 14, 15] fun K hK => ?_
        simp (maxSteps := 2000000) (disch := first | (simp only [E4, xl, ol, pl, ql, al, cl, ei1, ei2] <;> omega) | omega | fail) only [↓E2, E3, bare, bareJ, ↓E0, E1, env0, envN, evOps, evOp, evQs, evQ, evV, setD, pureOp, ev, upd, updL, binW, eqOp, binV, intOp, shOp, boolOp, convV, indexAddrV, cellAt, cellsAt, findB, setB, Value.cells, hav, eqL, SameI, strOp, cvtQ, ↓reduceIte, Zj, Zk, Nat.reduceAdd, Nat.reduceLT, Nat.reduceEqDiff, Nat.reduceMul, Nat.reduceLeDiff, if_true, Zn, reduceCtorEq, ZA, eq_self, Int.reduceLE, Int.reduceLT, Int.reduceToNat, ne_eq, Nat.reduceSub, Tarr30, Tint5, Tpar2, Tst5, xl, ol, nb2_b1, pl, ql, e0_1, e0_2, e0_3, e1_2, e1_3, e2_3, nb5_b4, nb5_b3, nb5_b2, nb5_b1, nb6_b5, nb6_b4, nb6_b3, nb6_b2, nb6_b1, al, cl, ei1, ei2]
        repeat refine And.intro (by omega) ?_
        repeat refine And.intro (by omega) ?_
        intro g
        simp only [List.map_cons, List.map_nil, updL, upd, Nat.reduceEqDiff, if_true, if_false, ↓reduceIte]
        refine hK _ _ ?_; clear hK K
        refine Cd.rs [1, 2, 3, 4, 5, 10, 12, 13, 14, 15] fun K hK => ?_
        simp (maxSteps := 2000000) (disch := first | (simp only [E4, xl, ol, pl, ql, al, cl, ei1, ei2] <;> omega) | omega | fail) only [↓E2, E3, bare, bareJ, ↓E0, E1, env0, envN, evOps, evOp, evQs, evQ, evV, setD, pureOp, ev, upd, updL, binW, eqOp, binV, intOp, shOp, boolOp, convV, indexAddrV, cellAt, cellsAt, findB, setB, Value.cells, hav, eqL, SameI, strOp, cvtQ, ↓reduceIte, Zj, Zk, Nat.reduceAdd, Nat.reduceLT, Nat.reduceEqDiff, Nat.reduceMul, Nat.reduceLeDiff, if_true, Zn, reduceCtorEq, ZA, eq_self, Int.reduceLE, Int.reduceLT, Int.reduceToNat, ne_eq, Nat.reduceSub, Tarr30, Tint5, Tpar2, Tst5, xl, ol, nb2_b1, pl, ql, e0_1, e0_2, e0_3, e1_2, e1_3, e2_3, nb5_b4, nb5_b3, nb5_b2, nb5_b1, nb6_b5, nb6_b4, nb6_b3, nb6_b2, nb6_b1, al, cl, ei1, ei2]
        repeat refine And.intro (by omega) ?_
        repeat refine And.intro (by omega) ?_
        intro g
        simp only [List.map_cons, List.map_nil, updL, upd, Nat.reduceEqDiff, if_true, if_false, ↓reduceIte]
        refine hK _ _ ?_; clear hK K
        refine Cd.rs [1, 2, 3, 4, 5, 10, 12, 13, 14, 15] fun K hK => ?_
        simp (maxSteps := 2000000) (disch := first | (simp only [E4, xl, ol, pl, ql, al, cl, ei1, ei2] <;> omega) | omega | fail) only [↓E2, E3, bare, bareJ, ↓E0, E1, env0, envN, evOps, evOp, evQs, evQ, evV, setD, pureOp, ev, upd, updL, binW, eqOp, binV, intOp, shOp, boolOp, convV, indexAddrV, cellAt, cellsAt, findB, setB, Value.cells, hav, eqL, SameI, strOp, cvtQ, ↓reduceIte, Zj, Zk, Nat.reduceAdd, Nat.reduceLT, Nat.reduceEqDiff, Nat.reduceMul, Nat.reduceLeDiff, if_true, Zn, reduceCtorEq, ZA, eq_self, Int.reduceLE, Int.reduceLT, Int.reduceToNat, ne_eq, Nat.reduceSub, Tarr30, Tint5, Tpar2, Tst5, xl, ol, nb2_b1, pl, ql, e0_1, e0_2, e0_3, e1_2, e1_3, e2_3, nb5_b4, nb5_b3, nb5_b2, nb5_b1, nb6_b5, nb6_b4, nb6_b3, nb6_b2, nb6_b1, al, cl, ei1, ei2]
        repeat refine And.intro (by omega) ?_
        repeat refine And.intro (by omega) ?_
        intro g
        simp only [List.map_cons, List.map_nil, updL, upd, Nat.reduceEqDiff, if_true, if_false, ↓reduceIte]
        refine hK _ _ ?_; clear hK K
        refine Cd.rs [2, 5, 10, 14, 15] fun K hK => ?_
        simp (maxSteps := 2000000) (disch := first | (simp only [E4, xl, ol, pl, ql, al, cl, ei1, ei2] <;> omega) | omega | fail) only [↓E2, E3, bare, bareJ, ↓E0, E1, env0, envN, evOps, evOp, evQs, evQ, evV, setD, pureOp, ev, upd, updL, binW, eqOp, binV, intOp, shOp, boolOp, indexAddrV, cellAt, cellsAt, findB, setB, Value.cells, hav, eqL, SameI, strOp, ↓reduceIte, Zj, Zk, Nat.reduceAdd, Nat.reduceLT, Nat.reduceEqDiff, Nat.reduceMul, Nat.reduceLeDiff, if_true, Zn, reduceCtorEq, ZA, eq_self, Int.reduceLE, Int.reduceLT, Int.reduceToNat, ne_eq, Nat.reduceSub, Tarr30, Tld5, Tst5, xl, ol, nb2_b1, pl, ql, e0_1, e0_2, e0_3, e1_2, e1_3, e2_3, nb5_b4, nb5_b3, nb5_b2, nb5_b1, nb6_b5, nb6_b4, nb6_b3, nb6_b2, nb6_b1, al, cl, ei1, ei2]
        repeat refine And.intro (by omega) ?_
        refine callK_gives (lifted_c _ r u hqi.1 hqi.2 r0 r1 u0 u1) ?_
        simp (maxSteps := 2000000) (disch := first | (simp only [E4, xl, ol, pl, ql, al, cl, ei1, ei2] <;> omega) | omega | fail) only [↓E2, E3, bare, bareJ, ↓E0, E1, env0, envN, evOps, evOp, evQs, evQ, evV, setD, pureOp, ev, upd, updL, binW, eqOp, binV, intOp, shOp, boolOp, indexAddrV, cellAt, cellsAt, findB, setB, Value.cells, hav, eqL, SameI, strOp, ↓reduceIte, Zj, Zk, Nat.reduceAdd, Nat.reduceLT, Nat.reduceEqDiff, Nat.reduceMul, Nat.reduceLeDiff, if_true, Zn, reduceCtorEq, ZA, eq_self, Int.reduceLE, Int.reduceLT, Int.reduceToNat, ne_eq, Nat.reduceSub, Tarr30, Tld5, Tst5, xl, ol, nb2_b1, pl, ql, e0_1, e0_2, e0_3, e1_2, e1_3, e2_3, nb5_b4, nb5_b3, nb5_b2, nb5_b1, nb6_b5, nb6_b4, nb6_b3, nb6_b2, nb6_b1, al, cl, ei1, ei2]
        repeat refine And.intro (by omega) ?_
        repeat refine And.intro (by omega) ?_
        intro g
        simp only [List.map_cons, List.map_nil, updL, upd, Nat.reduceEqDiff, if_true, if_false, ↓reduceIte]
        refine hK _ _ ?_; clear hK K
        have ha2 := bytes_set (i := i2) (bytes_set (i := i1) ha t1.1 t1.2) t2.1 t2.2
        have hc2 := bytes_set (i := i1) (bytes_set (i := i2) hc t1.1 t1.2) l2.1 l2.2
        have al2 := ha2.len
        have cl2 := hc2.len
        generalize (a.set i1 (IntKind.wrap .u8 (r + 1 - u))).set i2 (IntKind.wrap .u8 (r + u)) = A2 at *
        generalize (c.set i2 (IntKind.wrap .u8 (r + 1 - u))).set i1 (lft r u (q.getD i 0)) = C2 at *
        skip
        refine Cd.seq ?_
        refine Cd.rs [5, 10, 14, 15, 104] fun K hK => ?_
        simp (maxSteps := 2000000) (disch := first | (simp only [E4, xl, ol, pl, ql, al, cl, ei1, ei2, al2, cl2] <;> omega) | omega | fail) only [↓E2, E3, bare, bareJ, ↓E0, E1, env0, envN, evOps, evOp, evQs, evQ, evV, setD, pureOp, ev, upd, updL, binW, eqOp, binV, intOp, shOp, boolOp, hav, eqL, SameI, strOp, ↓reduceIte, Zj, Zk, Nat.reduceAdd, Nat.reduceLT, Nat.reduceEqDiff, Nat.reduceMul, Nat.reduceLeDiff, if_true, Zn, reduceCtorEq, ZA, eq_self, Int.reduceLE, Int.reduceLT, Int.reduceToNat, ne_eq, Nat.reduceSub, xl, ol, nb2_b1, pl, ql, e0_1, e0_2, e0_3, e1_2, e1_3, e2_3, nb5_b4, nb5_b3, nb5_b2, nb5_b1, nb6_b5, nb6_b4, nb6_b3, nb6_b2, nb6_b1, al, cl, ei1, ei2, al2, cl2]
        repeat refine And.intro (by omega) ?_
        repeat refine And.intro (by omega) ?_
        intro g
        simp only [List.map_cons, List.map_nil, updL, upd, Nat.reduceEqDiff, if_true, if_false, ↓reduceIte]
        refine hK _ _ ?_; clear hK K
        refine Cd.cond rfl (fun c5 => ?_) (fun c5 => ?_)
        · refine Cd.rs [10] fun K hK => ?_
          simp (maxSteps := 2000000) (disch := first | (simp only [E4, xl, ol, pl, ql, al, cl, ei1, ei2, al2, cl2] <;> omega) | omega | fail) only [↓E2, E3, bare, bareJ, ↓E0, E1, evP, env0, envN, evOps, evOp, evQs, evQ, evV, setD, pureOp, ev, upd, updL, binW, eqOp, binV, intOp, shOp, boolOp, fieldAddrV, cellAt, cellsAt, findB, setB, fillL, buildV, Value.cells, hav, eqL, SameI, strOp, ↓reduceIte, Zj, Zk, Nat.reduceAdd, Nat.reduceLT, Nat.reduceEqDiff, Nat.reduceMul, Nat.reduceLeDiff, if_true, Zn, reduceCtorEq, ZA, eq_self, Int.reduceLE, Int.reduceLT, Int.reduceToNat, ne_eq, Nat.reduceSub, Tbld32, Tfld32_0, Tld2, Tld30, Tst32, xl, ol, nb2_b1, pl, ql, e0_1, e0_2, e0_3, e1_2, e1_3, e2_3, nb5_b4, nb5_b3, nb5_b2, nb5_b1, nb6_b5, nb6_b4, nb6_b3, nb6_b2, nb6_b1, al, cl, ei1, ei2, al2, cl2]
          repeat refine And.intro (by omega) ?_
          repeat refine And.intro (by omega) ?_
          intro g
          simp only [List.map_cons, List.map_nil, updL, upd, Nat.reduceEqDiff, if_true, if_false, ↓reduceIte]
          refine hK _ _ ?_; clear hK K
          refine Cd.ret (thenR ?_)
          simp (maxSteps := 2000000) (disch := first | (simp only [E4, xl, ol, pl, ql, al, cl, ei1, ei2, al2, cl2] <;> omega) | omega | fail) only [↓E2, E3, bare, bareJ, ↓E0, E1, evP, evPlan, env0, envN, evOps, evOp, evQs, evQ, evV, setD, pureOp, ev, upd, updL, gate, binW, eqOp, binV, intOp, shOp, boolOp, unV, convV, nilV, fieldAddrV, indexAddrV, extractV, cellAt, cellsAt, findB, setB, fillL, buildV, Value.cells, lenV, minV, maxV, hav, sliceV, loV, hiV, bslQ, mksQ, appQ, partsOk, partsCells, delB, eqL, SameI, strOp, apzQ, cvtQ, capV, ↓reduceIte, Zj, Zk, Nat.reduceAdd, Nat.reduceLT, Nat.reduceEqDiff, Nat.reduceMul, Nat.reduceLeDiff, if_true, Zn, reduceCtorEq, ZA, eq_self, Int.reduceLE, Int.reduceLT, Int.reduceToNat, ne_eq, Nat.reduceSub, Tld32, xl, ol, nb2_b1, pl, ql, e0_1, e0_2, e0_3, e1_2, e1_3, e2_3, nb5_b4, nb5_b3, nb5_b2, nb5_b1, nb6_b5, nb6_b4, nb6_b3, nb6_b2, nb6_b1, al, cl, ei1, ei2, al2, cl2]
          repeat refine And.intro (by omega) ?_
          exact ⟨[], SubP.of (List.nil_sublist _), ⟨_, _, rfl, hc2, ha2⟩, rfl⟩
        · refine Cd.skip ?_
          refine thenN ?_
          refine Cd.rs [10] fun K hK => ?_
          simp (maxSteps := 2000000) (disch := first | (simp only [E4, xl, ol, pl, ql, al, cl, ei1, ei2, al2, cl2] <;> omega) | omega | fail) only [↓E2, E3, bare, bareJ, ↓E0, E1, evP, env0, envN, evOps, evOp, evQs, evQ, evV, setD, pureOp, ev, upd, updL, binW, eqOp, binV, intOp, shOp, boolOp, fieldAddrV, cellAt, cellsAt, findB, setB, fillL, buildV, Value.cells, hav, eqL, SameI, strOp, ↓reduceIte, Zj, Zk, Nat.reduceAdd, Nat.reduceLT, Nat.reduceEqDiff, Nat.reduceMul, Nat.reduceLeDiff, if_true, Zn, reduceCtorEq, ZA, eq_self, Int.reduceLE, Int.reduceLT, Int.reduceToNat, ne_eq, Nat.reduceSub, Tbld32, Tfld32_0, Tld2, Tld30, Tst32, xl, ol, nb2_b1, pl, ql, e0_1, e0_2, e0_3, e1_2, e1_3, e2_3, nb5_b4, nb5_b3, nb5_b2, nb5_b1, nb6_b5, nb6_b4, nb6_b3, nb6_b2, nb6_b1, al, cl, ei1, ei2, al2, cl2]
          repeat refine And.intro (by omega) ?_
          repeat refine And.intro (by omega) ?_
          intro g
          simp only [List.map_cons, List.map_nil, updL, upd, Nat.reduceEqDiff, if_true, if_false, ↓reduceIte]
          refine hK _ _ ?_; clear hK K
          refine Cd.ret ?_
          simp (maxSteps := 2000000) (disch := first | (simp only [E4, xl, ol, pl, ql, al, cl, ei1, ei2, al2, cl2] <;> omega) | omega | fail) only [↓E2, E3, bare, bareJ, ↓E0, E1, evP, evPlan, env0, envN, evOps, evOp, evQs, evQ, evV, setD, pureOp, ev, upd, updL, gate, binW, eqOp, binV, intOp, shOp, boolOp, unV, convV, nilV, fieldAddrV, indexAddrV, extractV, cellAt, cellsAt, findB, setB, fillL, buildV, Value.cells, lenV, minV, maxV, hav, sliceV, loV, hiV, bslQ, mksQ, appQ, partsOk, partsCells, delB, eqL, SameI, strOp, apzQ, cvtQ, capV, ↓reduceIte, Zj, Zk, Nat.reduceAdd, Nat.reduceLT, Nat.reduceEqDiff, Nat.reduceMul, Nat.reduceLeDiff, if_true, Zn, reduceCtorEq, ZA, eq_self, Int.reduceLE, Int.reduceLT, Int.reduceToNat, ne_eq, Nat.reduceSub, Tld32, xl, ol, nb2_b1, pl, ql, e0_1, e0_2, e0_3, e1_2, e1_3, e2_3, nb5_b4, nb5_b3, nb5_b2, nb5_b1, nb6_b5, nb6_b4, nb6_b3, nb6_b2, nb6_b1, al, cl, ei1, ei2, al2, cl2]
          repeat refine And.intro (by omega) ?_
          exact ⟨[], SubP.of (List.nil_sublist _), ⟨_, _, rfl, ha2, hc2⟩, rfl⟩
  clear hK
  simp (maxSteps := 2000000) (disch := first | (simp only [E4, xl, ol] <;> omega) | omega | fail) only [↓E2, E3, bare, bareJ, ↓E0, E1, evPlan, env0, envN, evOps, evOp, evQs, evQ, evV, setD, pureOp, ev, upd, updL, fieldAddrV, cellAt, cellsAt, findB, setB, Value.cells, hav, ↓reduceIte, Zj, Zk, Nat.reduceAdd, Nat.reduceLT, Nat.reduceEqDiff, Nat.reduceMul, Nat.reduceLeDiff, if_true, Zn, reduceCtorEq, ZA, eq_self, Int.reduceLE, Int.reduceLT, Int.reduceToNat, ne_eq, Nat.reduceSub, Tfld32_1, Tfld32_2, Tld30, Tst30, Tzero30, ↓YR, xl, ol, nb2_b1]
  repeat' first
      | omega
      | refine moreX_go ?_ ?_
      | with_reducible refine And.intro ?_ ?_
      | (with_reducible intro (b : Nat) (hb : Fresh _ _ b); have hb := hb.all; simp only [List.mem_cons, List.not_mem_nil, forall_eq_or_imp, or_false, forall_eq, false_implies, implies_true, and_true] at hb)
      | (with_reducible intro (b' : Nat) (cap' : Nat) (rest' : List Value) (hf' : Fresh _ _ b') (hc' : _ ≤ cap') (hr' : rest'.length = _); have hfa := hf'.all; simp only [List.mem_cons, List.not_mem_nil, forall_eq_or_imp, or_false, forall_eq, false_implies, implies_true, and_true] at hfa)
      | simp (maxSteps := 2000000) (disch := first | (simp only [E4, xl, ol] <;> omega) | omega | fail) only [↓E2, E3, bare, bareJ, ↓E0, E1, evPlan, env0, envN, evOps, evOp, evQs, evQ, evV, setD, pureOp, ev, upd, updL, fieldAddrV, cellAt, cellsAt, findB, setB, Value.cells, hav, ↓reduceIte, Zj, Zk, Nat.reduceAdd, Nat.reduceLT, Nat.reduceEqDiff, Nat.reduceMul, Nat.reduceLeDiff, if_true, Zn, reduceCtorEq, ZA, eq_self, Int.reduceLE, Int.reduceLT, Int.reduceToNat, ne_eq, Nat.reduceSub, Tfld32_1, Tfld32_2, Tld30, Tst30, Tzero30, ↓YR, xl, ol, nb2_b1, *]
  all_goals
    repeat refine And.intro (by omega) ?_
    intro g
    simp only [List.map_cons, List.map_nil, updL, upd, Nat.reduceEqDiff, if_true, if_false, ↓reduceIte]
    exact J _ _ _ _ (by exact subP_cnt [] fun _ => by simp only [cnt_cons, cnt_append, cnt_nil]; omega)

end Go.Proofs

/-
  What the functions of this part hand back: each as a plain function of its arguments. Conditions: none.
-/
namespace Go.Proofs
open Go.W8
set_option linter.unusedVariables false
set_option linter.unusedSimpArgs false
set_option linter.unusedSectionVars false
set_option maxRecDepth 8000
set_option maxHeartbeats 4000000
theorem stabd_i (n : Nat) (i mark rt u : Int) (x o : List Int) (hx : Bytes8 x) (ho : Bytes8 o) (n2 : 2 ≤ n) (n7 : n ≤ 7) (i0 : 0 ≤ i) (hi : i < n) (rt0 : 0 ≤ rt) (rt1 : rt ≤ 1) (u0 : 0 ≤ u) (u1 : u ≤ 1) :
    GivesX Try.prog 91 #[.agg (gc (n : Int) x o).toArray, .int .i64 i, .int .i64 mark, .int .i64 rt, .int .i64 u] [] [] (fun v M' => (∃ x' o', v = .agg (gc ((n : Int) + 1) x' o').toArray ∧ Bytes8 x' ∧ Bytes8 o') ∧ M' = []) := by
  obtain ⟨i, rfl⟩ : ∃ k : Nat, i = (k : Int) := ⟨i.toNat, by omega⟩
  exact stabd_c n i mark rt u x o hx ho n2 n7 (by omega) rt0 rt1 u0 u1
section
variable (l : List Int) (cv : Value) (R : Rd) (hin : InB R l cv) (hl : l.length ≤ 4096) (hb : ∀ k, k < l.length → 0 ≤ l.getD k 0 ∧ l.getD k 0 < 256)
include hin hl hb
theorem draw2_c (b : Nat) (hRb : ∀ r ∈ R, r.1 ≠ b) : Draws Try.prog 161 [.pointer (some ⟨b, 0, none⟩)] b cv R l.length isSized := by
  refine Draws.of fun t h ho => ?_
  refine GivesX.of (callable_of Try.func161 rfl (by decide)) ?_ fun w hnd hlt hR => ?_
  · simpa using hRb
  refine acall_of (N := 31) (c := _) (rs := [.cell 2 32]) (args := [_]) Try.func161 rfl (by decide) rfl rfl (Nat.le_of_ble_eq_true rfl) ?_
  have hR : W8.Told [b] w R := hR
  have hnx := next_c l cv R hin hl hb b hRb
  skip
  refine Cd.rs [0, 2] fun K hK => ?_
  simp (maxSteps := 2000000) (disch := first | (simp only [E4] <;> omega) | omega | fail) only [↓E2, E3, bare, bareJ, ↓E0, E1, env0, envN, evOps, evOp, evQs, evQ, evV, setD, pureOp, ev, upd, updL, Value.cells, hav, ↓reduceIte, Zj, Zk, Nat.reduceAdd, Nat.reduceLT, Nat.reduceEqDiff, Nat.reduceMul, Nat.reduceLeDiff, if_true, Zn, reduceCtorEq, ZA, eq_self, Int.reduceLE, Int.reduceLT, Int.reduceToNat, ne_eq, Nat.reduceSub, Tzero32]
  repeat refine And.intro (by omega) ?_
  intro b1 hb1
  have nb1_b := hb1.ne
  try simp (maxSteps := 2000000) (disch := first | (simp only [E4] <;> omega) | omega | fail) only [↓E2, E3, bare, bareJ, ↓E0, E1, env0, envN, evOps, evOp, evQs, evQ, evV, setD, pureOp, ev, upd, updL, Value.cells, hav, ↓reduceIte, Zj, Zk, Nat.reduceAdd, Nat.reduceLT, Nat.reduceEqDiff, Nat.reduceMul, Nat.reduceLeDiff, if_true, Zn, reduceCtorEq, ZA, eq_self, Int.reduceLE, Int.reduceLT, Int.reduceToNat, ne_eq, Nat.reduceSub, Tzero32, nb1_b]
  repeat refine And.intro (by omega) ?_
  repeat refine And.intro (by omega) ?_
  intro g
  simp only [List.map_cons, List.map_nil, updL, upd, Nat.reduceEqDiff, if_true, if_false, ↓reduceIte]
  refine hK _ _ ?_; clear hK K
  refine Cd.rs [0, 2, 3] fun K hK => ?_
  simp (maxSteps := 2000000) (disch := first | (simp only [E4] <;> omega) | omega | fail) only [↓E2, E3, bare, bareJ, ↓E0, E1, env0, envN, evOps, evOp, evQs, evQ, evV, setD, pureOp, ev, upd, updL, cellAt, cellsAt, findB, setB, Value.cells, hav, ↓reduceIte, Zj, Zk, Nat.reduceAdd, Nat.reduceLT, Nat.reduceEqDiff, Nat.reduceMul, Nat.reduceLeDiff, if_true, Zn, reduceCtorEq, ZA, eq_self, Int.reduceLE, Int.reduceLT, Int.reduceToNat, ne_eq, Nat.reduceSub, Tst32, Tzero32, nb1_b]
  repeat refine And.intro (by omega) ?_
  refine callK_draw (draw_c l cv R hin hl hb b hRb) ho (by simp only [findB, nb1_b, if_true, if_false]) (Told.toldW hR) ?_
  rintro v t h ho ⟨s, x, o, rfl, hs, hx, hy⟩
  obtain ⟨n, rfl⟩ : ∃ n : Nat, s = (n : Int) := ⟨s.toNat, by omega⟩
  have xl := hx.len
  have ol := hy.len
  skip
  simp (maxSteps := 2000000) (disch := first | (simp only [E4, xl, ol] <;> omega) | omega | fail) only [↓E2, E3, bare, bareJ, ↓E0, E1, env0, envN, evOps, evOp, evQs, evQ, evV, setD, pureOp, ev, upd, updL, cellAt, cellsAt, findB, setB, Value.cells, hav, ↓reduceIte, Zj, Zk, Nat.reduceAdd, Nat.reduceLT, Nat.reduceEqDiff, Nat.reduceMul, Nat.reduceLeDiff, if_true, Zn, reduceCtorEq, ZA, eq_self, Int.reduceLE, Int.reduceLT, Int.reduceToNat, ne_eq, Nat.reduceSub, Tst32, Tzero32, nb1_b, xl, ol]
  repeat refine And.intro (by omega) ?_
  intro b2 hb2
  have nb2_b1 := hb2.ne
  have nb2_b := hb2.tail.ne
  try simp (maxSteps := 2000000) (disch := first | (simp only [E4, xl, ol] <;> omega) | omega | fail) only [↓E2, E3, bare, bareJ, ↓E0, E1, env0, envN, evOps, evOp, evQs, evQ, evV, setD, pureOp, ev, upd, updL, cellAt, cellsAt, findB, setB, Value.cells, hav, ↓reduceIte, Zj, Zk, Nat.reduceAdd, Nat.reduceLT, Nat.reduceEqDiff, Nat.reduceMul, Nat.reduceLeDiff, if_true, Zn, reduceCtorEq, ZA, eq_self, Int.reduceLE, Int.reduceLT, Int.reduceToNat, ne_eq, Nat.reduceSub, Tst32, Tzero32, nb1_b, xl, ol, nb2_b1, nb2_b]
  repeat refine And.intro (by omega) ?_
  repeat refine And.intro (by omega) ?_
  intro g
  simp only [List.map_cons, List.map_nil, updL, upd, Nat.reduceEqDiff, if_true, if_false, ↓reduceIte]
  refine hK _ _ ?_; clear hK K
  refine Cd.seq ?_
  refine Cd.rs [0, 2, 3, 4] fun K hK => ?_
  simp (maxSteps := 2000000) (disch := first | (simp only [E4, xl, ol] <;> omega) | omega | fail) only [↓E2, E3, bare, bareJ, ↓E0, E1, env0, envN, evOps, evOp, evQs, evQ, evV, setD, pureOp, ev, upd, updL, cellAt, cellsAt, findB, setB, hav, ↓reduceIte, Zj, Zk, Nat.reduceAdd, Nat.reduceLT, Nat.reduceEqDiff, Nat.reduceMul, Nat.reduceLeDiff, if_true, Zn, reduceCtorEq, ZA, eq_self, Int.reduceLE, Int.reduceLT, Int.reduceToNat, ne_eq, Nat.reduceSub, nb1_b, xl, ol, nb2_b1, nb2_b]
  repeat refine And.intro (by omega) ?_
  refine callK_draw (hnx 3 ⟨by omega, by omega⟩) ho (by simp only [findB, nb1_b, nb2_b, if_true, if_false]) (Told.toldW hR) ?_
  rintro v t h ho ⟨k, rfl, k0, k1⟩
  simp (maxSteps := 2000000) (disch := first | (simp only [E4, xl, ol] <;> omega) | omega | fail) only [↓E2, E3, bare, bareJ, ↓E0, E1, env0, envN, evOps, evOp, evQs, evQ, evV, setD, pureOp, ev, upd, updL, cellAt, cellsAt, findB, setB, hav, ↓reduceIte, Zj, Zk, Nat.reduceAdd, Nat.reduceLT, Nat.reduceEqDiff, Nat.reduceMul, Nat.reduceLeDiff, if_true, Zn, reduceCtorEq, ZA, eq_self, Int.reduceLE, Int.reduceLT, Int.reduceToNat, ne_eq, Nat.reduceSub, nb1_b, xl, ol, nb2_b1, nb2_b]
  repeat refine And.intro (by omega) ?_
  repeat refine And.intro (by omega) ?_
  intro g
  simp only [List.map_cons, List.map_nil, updL, upd, Nat.reduceEqDiff, if_true, if_false, ↓reduceIte]
  refine hK _ _ ?_; clear hK K
  refine Cd.block ?_
  refine Cd.loop (fun q ρ M => ∃ g k n x o t h, k = (q : Int) ∧ q ≤ 2 ∧ 2 ≤ n ∧ n ≤ 8 ∧ Bytes8 x ∧ Bytes8 o ∧ okS l.length t h ∧ ρ = updL [(0, .pointer (some ⟨b, 0, none⟩)), (2, .pointer (some ⟨b1, 0, none⟩)), (3, .pointer (some ⟨b2, 0, none⟩)), (4, .int .i64 k)] g ∧ M = [(b2, gc ((n : Nat) : Int) x o), (b1, gc 0 z8 z8), (b, srcC cv t h)]) k.toNat ⟨_, k, n, x, o, t, h, by omega, by omega, by omega, by omega, hx, hy, ho, rfl, rfl⟩ ?_
  clear hx hy ho hs xl ol
  rintro q ρ M ⟨g, k, n, x, o, t, h, rfl, hq2, n2, n8, hx, hy, ho, rfl, rfl⟩
  have xl := hx.len
  have ol := hy.len
  refine Cd.seq ?_
  refine Cd.rs [0, 2, 3, 4, 15] fun K hK => ?_
  simp (maxSteps := 2000000) (disch := first | (simp only [E4, xl, ol] <;> omega) | omega | fail) only [↓E2, E3, bare, bareJ, ↓E0, E1, env0, envN, evOps, evOp, evQs, evQ, evV, setD, pureOp, ev, upd, updL, gate, binW, eqOp, binV, intOp, shOp, boolOp, fieldAddrV, cellAt, cellsAt, findB, hav, eqL, SameI, strOp, ↓reduceIte, Zj, Zk, Nat.reduceAdd, Nat.reduceLT, Nat.reduceEqDiff, Nat.reduceMul, Nat.reduceLeDiff, if_true, Zn, reduceCtorEq, ZA, eq_self, Int.reduceLE, Int.reduceLT, Int.reduceToNat, ne_eq, Nat.reduceSub, Tfld32_0, Tld2, nb1_b, xl, ol, nb2_b1, nb2_b]
  repeat refine And.intro (by omega) ?_
  apply guardX_and 3 [12, 13, 14] (j := 2) (d := 11) (tp := 15) (tl := 14) rfl rfl rfl rfl rfl
  · intro hq
    simp (maxSteps := 2000000) (disch := first | (simp only [E4, xl, ol] <;> omega) | omega | fail) only [↓E2, E3, bare, bareJ, ↓E0, E1, env0, envN, evOps, evOp, evQs, evQ, evV, setD, pureOp, ev, upd, updL, gate, binW, eqOp, binV, intOp, shOp, boolOp, fieldAddrV, cellAt, cellsAt, findB, hav, eqL, SameI, strOp, ↓reduceIte, Zj, Zk, Nat.reduceAdd, Nat.reduceLT, Nat.reduceEqDiff, Nat.reduceMul, Nat.reduceLeDiff, if_true, Zn, reduceCtorEq, ZA, eq_self, Int.reduceLE, Int.reduceLT, Int.reduceToNat, ne_eq, Nat.reduceSub, Tfld32_0, Tld2, nb1_b, xl, ol, nb2_b1, nb2_b]
    repeat refine And.intro (by omega) ?_
    exact rfl
  intro g
  simp (maxSteps := 2000000) (disch := first | (simp only [E4, xl, ol] <;> omega) | omega | fail) only [↓E2, E3, bare, bareJ, ↓E0, E1, env0, envN, evOps, evOp, evQs, evQ, evV, setD, pureOp, ev, upd, updL, gate, binW, eqOp, binV, intOp, shOp, boolOp, fieldAddrV, cellAt, cellsAt, findB, hav, eqL, SameI, strOp, ↓reduceIte, Zj, Zk, Nat.reduceAdd, Nat.reduceLT, Nat.reduceEqDiff, Nat.reduceMul, Nat.reduceLeDiff, if_true, Zn, reduceCtorEq, ZA, eq_self, Int.reduceLE, Int.reduceLT, Int.reduceToNat, ne_eq, Nat.reduceSub, Tfld32_0, Tld2, nb1_b, xl, ol, nb2_b1, nb2_b]
  repeat refine And.intro (by omega) ?_
  repeat refine And.intro (by omega) ?_
  intro g
  simp only [List.map_cons, List.map_nil, updL, upd, Nat.reduceEqDiff, if_true, if_false, ↓reduceIte]
  refine hK _ _ ?_; clear hK K
  refine Cd.cond rfl (fun c1 => ?_) (fun c1 => ?_)
  · simp only [decide_eq_true_eq, decide_eq_false_iff_not, beq_iff_eq, beq_eq_false_iff_ne, bne_iff_ne, bne_eq_false_iff_eq, Bool.and_eq_true, Bool.or_eq_true, Bool.or_eq_false_iff, Bool.not_eq_true', Bool.not_eq_false', Bool.and_eq_false_imp, ne_eq, gt_iff_lt, ge_iff_le, Int.not_lt, Int.not_le, Classical.not_not] at c1
    refine Cd.skip ?_
    refine thenN ?_
    refine Cd.seq ?_
    refine Cd.block ?_
    refine Cd.pr [0, 2, 3, 4] (Plan.take 1 (Plan.take 2 (Plan.take 3 (Plan.take 5 (Plan.take 7 (Plan.take 9 (Plan.more 0 (Plan.one 4 (Plan.one 6 (Plan.one 8 (Plan.one 10 (Plan.one 11 (Plan.one 12 (Plan.done))))))) (Plan.one 4 (Plan.more 0 (Plan.one 6 (Plan.one 8 (Plan.one 10 (Plan.one 11 (Plan.one 12 (Plan.done)))))) (Plan.one 6 (Plan.more 0 (Plan.one 8 (Plan.one 10 (Plan.one 11 (Plan.one 12 (Plan.done))))) (Plan.one 8 (Plan.more 0 (Plan.one 10 (Plan.one 11 (Plan.one 12 (Plan.done)))) (Plan.one 10 (Plan.take 0 (Plan.one 11 (Plan.one 12 (Plan.done)))))))))))))))))) fol (by kernel_rfl) (Nat.le_of_ble_eq_true rfl) fun K hK => ?_
    simp (maxSteps := 2000000) (disch := first | (simp only [E4, xl, ol] <;> omega) | omega | fail) only [↓E2, E3, bare, bareJ, ↓E0, E1, evPlan, env0, envN, evOps, evOp, evQs, evQ, evV, setD, pureOp, ev, upd, updL, fieldAddrV, cellAt, cellsAt, findB, setB, Value.cells, hav, ↓reduceIte, Zj, Zk, Nat.reduceAdd, Nat.reduceLT, Nat.reduceEqDiff, Nat.reduceMul, Nat.reduceLeDiff, if_true, Zn, reduceCtorEq, ZA, eq_self, Int.reduceLE, Int.reduceLT, Int.reduceToNat, ne_eq, Nat.reduceSub, Tfld32_0, Tld2, Tld32, Tst32, ↓YR, nb1_b, xl, ol, nb2_b1, nb2_b]
    repeat' first
        | with_reducible refine moreX_go ?_ ?_
        | simp (maxSteps := 2000000) (disch := first | (simp only [E4, xl, ol] <;> omega) | omega | fail) only [↓E2, E3, bare, bareJ, ↓E0, E1, evPlan, env0, envN, evOps, evOp, evQs, evQ, evV, setD, pureOp, ev, upd, updL, fieldAddrV, cellAt, cellsAt, findB, setB, Value.cells, hav, ↓reduceIte, Zj, Zk, Nat.reduceAdd, Nat.reduceLT, Nat.reduceEqDiff, Nat.reduceMul, Nat.reduceLeDiff, if_true, Zn, reduceCtorEq, ZA, eq_self, Int.reduceLE, Int.reduceLT, Int.reduceToNat, ne_eq, Nat.reduceSub, Tfld32_0, Tld2, Tld32, Tst32, ↓YR, nb1_b, xl, ol, nb2_b1, nb2_b]
        | (first | with_reducible refine And.intro ?_ ?_ | (refine callO_draw (hnx _ ⟨by omega, by omega⟩) (by assumption) (by simp only [findB, nb1_b, nb2_b, if_true, if_false]) (Told.toldW hR) ?_; rintro _ _ _ _ ⟨_, rfl, _, _⟩) | (refine callO_newR0 (stabd_i n _ _ _ _ x o hx hy n2 (by omega) (by omega) (by omega) (by omega) (by omega) (by omega) (by omega)) (fun _ _ => toldW_nil) ?_; rintro _ _ ⟨⟨x9, o9, rfl, hx9, hy9⟩, rfl⟩ _ _; have xl9 := hx9.len; have ol9 := hy9.len; simp only [List.append_nil]) | omega)
    all_goals
      repeat refine And.intro (by omega) ?_
      intro g
      simp only [List.map_cons, List.map_nil, updL, upd, Nat.reduceEqDiff, if_true, if_false, ↓reduceIte]
      refine hK _ _ ?_; clear hK K
      refine inBN ?_
      refine thenN ?_
      refine Cd.rr [0, 2, 3, 4] fun K hK => ?_
      simp (maxSteps := 2000000) (disch := first | (simp only [E4, xl, ol] <;> omega) | omega | fail) only [↓E2, E3, bare, bareJ, ↓E0, E1, env0, envN, evOps, evOp, evQs, evQ, evV, setD, pureOp, ev, upd, updL, binW, eqOp, binV, intOp, shOp, boolOp, hav, eqL, SameI, strOp, ↓reduceIte, Zj, Zk, Nat.reduceAdd, Nat.reduceLT, Nat.reduceEqDiff, Nat.reduceMul, Nat.reduceLeDiff, if_true, Zn, reduceCtorEq, ZA, eq_self, Int.reduceLE, Int.reduceLT, Int.reduceToNat, ne_eq, Nat.reduceSub, nb1_b, xl, ol, nb2_b1, nb2_b]
      repeat refine And.intro (by omega) ?_
      repeat refine And.intro (by omega) ?_
      intro g
      simp only [List.map_cons, List.map_nil, updL, upd, Nat.reduceEqDiff, if_true, if_false, ↓reduceIte]
      refine hK _ _ ?_; clear hK K
      exact roundN (m := q - 1) (by omega) ⟨_, _, n + 1, x9, o9, _, _, by omega, by omega, by omega, by omega, hx9, hy9, by assumption, rfl, rfl⟩
  · refine Cd.exit (thenX (roundX (inBX ?_)))
    refine thenN ?_
    refine Cd.rs [2] fun K hK => ?_
    simp (maxSteps := 2000000) (disch := first | (simp only [E4, xl, ol] <;> omega) | omega | fail) only [↓E2, E3, bare, bareJ, ↓E0, E1, env0, envN, evOps, evOp, evQs, evQ, evV, setD, pureOp, ev, upd, updL, cellAt, cellsAt, findB, setB, Value.cells, hav, ↓reduceIte, Zj, Zk, Nat.reduceAdd, Nat.reduceLT, Nat.reduceEqDiff, Nat.reduceMul, Nat.reduceLeDiff, if_true, Zn, reduceCtorEq, ZA, eq_self, Int.reduceLE, Int.reduceLT, Int.reduceToNat, ne_eq, Nat.reduceSub, Tld32, Tst32, nb1_b, xl, ol, nb2_b1, nb2_b]
    repeat refine And.intro (by omega) ?_
    repeat refine And.intro (by omega) ?_
    intro g
    simp only [List.map_cons, List.map_nil, updL, upd, Nat.reduceEqDiff, if_true, if_false, ↓reduceIte]
    refine hK _ _ ?_; clear hK K
    refine Cd.ret ?_
    simp (maxSteps := 2000000) (disch := first | (simp only [E4, xl, ol] <;> omega) | omega | fail) only [↓E2, E3, bare, bareJ, ↓E0, E1, evP, evPlan, env0, envN, evOps, evOp, evQs, evQ, evV, setD, pureOp, ev, upd, updL, gate, binW, eqOp, binV, intOp, shOp, boolOp, unV, convV, nilV, fieldAddrV, indexAddrV, extractV, cellAt, cellsAt, findB, setB, fillL, buildV, Value.cells, lenV, minV, maxV, hav, sliceV, loV, hiV, bslQ, mksQ, appQ, partsOk, partsCells, delB, eqL, SameI, strOp, apzQ, cvtQ, capV, ↓reduceIte, Zj, Zk, Nat.reduceAdd, Nat.reduceLT, Nat.reduceEqDiff, Nat.reduceMul, Nat.reduceLeDiff, if_true, Zn, reduceCtorEq, ZA, eq_self, Int.reduceLE, Int.reduceLT, Int.reduceToNat, ne_eq, Nat.reduceSub, Tld32, nb1_b, xl, ol, nb2_b1, nb2_b]
    repeat refine And.intro (by omega) ?_
    exact ⟨t, h, ho, ⟨_, x, o, rfl, ⟨by omega, by omega⟩, hx, hy⟩, SubP.of (List.Sublist.cons _ (List.Sublist.cons _ (List.Sublist.refl _)))⟩
theorem spoil2_c (b : Nat) (hRb : ∀ r ∈ R, r.1 ≠ b) : Draws Try.prog 87 [.pointer (some ⟨b, 0, none⟩)] b cv R l.length isGrid := by
  refine Draws.of fun t h ho => ?_
  refine GivesX.of (callable_of Try.func87 rfl (by decide)) ?_ fun w hnd hlt hR => ?_
  · simpa using hRb
  refine acall_of (N := 7) (c := _) (rs := [.cell 2 32]) (args := [_]) Try.func87 rfl (by decide) rfl rfl (Nat.le_of_ble_eq_true rfl) ?_
  have hR : W8.Told [b] w R := hR
  skip
  refine Cd.rs [0, 2] fun K hK => ?_
  simp (maxSteps := 2000000) (disch := first | (simp only [E4] <;> omega) | omega | fail) only [↓E2, E3, bare, bareJ, ↓E0, E1, env0, envN, evOps, evOp, evQs, evQ, evV, setD, pureOp, ev, upd, updL, Value.cells, hav, ↓reduceIte, Zj, Zk, Nat.reduceAdd, Nat.reduceLT, Nat.reduceEqDiff, Nat.reduceMul, Nat.reduceLeDiff, if_true, Zn, reduceCtorEq, ZA, eq_self, Int.reduceLE, Int.reduceLT, Int.reduceToNat, ne_eq, Nat.reduceSub, Tzero32]
  repeat refine And.intro (by omega) ?_
  intro b1 hb1
  have nb1_b := hb1.ne
  try simp (maxSteps := 2000000) (disch := first | (simp only [E4] <;> omega) | omega | fail) only [↓E2, E3, bare, bareJ, ↓E0, E1, env0, envN, evOps, evOp, evQs, evQ, evV, setD, pureOp, ev, upd, updL, Value.cells, hav, ↓reduceIte, Zj, Zk, Nat.reduceAdd, Nat.reduceLT, Nat.reduceEqDiff, Nat.reduceMul, Nat.reduceLeDiff, if_true, Zn, reduceCtorEq, ZA, eq_self, Int.reduceLE, Int.reduceLT, Int.reduceToNat, ne_eq, Nat.reduceSub, Tzero32, nb1_b]
  repeat refine And.intro (by omega) ?_
  repeat refine And.intro (by omega) ?_
  intro g
  simp only [List.map_cons, List.map_nil, updL, upd, Nat.reduceEqDiff, if_true, if_false, ↓reduceIte]
  refine hK _ _ ?_; clear hK K
  refine Cd.rs [2] fun K hK => ?_
  simp (maxSteps := 2000000) (disch := first | (simp only [E4] <;> omega) | omega | fail) only [↓E2, E3, bare, bareJ, ↓E0, E1, env0, envN, evOps, evOp, evQs, evQ, evV, setD, pureOp, ev, upd, updL, cellAt, cellsAt, findB, setB, Value.cells, hav, ↓reduceIte, Zj, Zk, Nat.reduceAdd, Nat.reduceLT, Nat.reduceEqDiff, Nat.reduceMul, Nat.reduceLeDiff, if_true, Zn, reduceCtorEq, ZA, eq_self, Int.reduceLE, Int.reduceLT, Int.reduceToNat, ne_eq, Nat.reduceSub, Tst32, nb1_b]
  repeat refine And.intro (by omega) ?_
  refine callK_draw (draw2_c l cv R hin hl hb b hRb) ho (by simp only [findB, nb1_b, if_true, if_false]) (Told.toldW hR) ?_
  rintro v t h ho hv
  obtain ⟨s, x, o, rfl, _, _, _⟩ := id hv
  simp (maxSteps := 2000000) (disch := first | (simp only [E4] <;> omega) | omega | fail) only [↓E2, E3, bare, bareJ, ↓E0, E1, env0, envN, evOps, evOp, evQs, evQ, evV, setD, pureOp, ev, upd, updL, cellAt, cellsAt, findB, setB, Value.cells, hav, ↓reduceIte, Zj, Zk, Nat.reduceAdd, Nat.reduceLT, Nat.reduceEqDiff, Nat.reduceMul, Nat.reduceLeDiff, if_true, Zn, reduceCtorEq, ZA, eq_self, Int.reduceLE, Int.reduceLT, Int.reduceToNat, ne_eq, Nat.reduceSub, Tst32, nb1_b]
  repeat refine And.intro (by omega) ?_
  refine callK_draw (broken_c l cv R hin hl hb b hRb _ (sized_grid hv)) ho (by simp only [findB, nb1_b, if_true, if_false]) (Told.toldW hR) ?_
  rintro v t h ho ⟨s, x, o, rfl, hs, hx, hy⟩
  have xl := hx.len
  have ol := hy.len
  skip
  simp (maxSteps := 2000000) (disch := first | (simp only [E4, xl, ol] <;> omega) | omega | fail) only [↓E2, E3, bare, bareJ, ↓E0, E1, env0, envN, evOps, evOp, evQs, evQ, evV, setD, pureOp, ev, upd, updL, cellAt, cellsAt, findB, setB, Value.cells, hav, ↓reduceIte, Zj, Zk, Nat.reduceAdd, Nat.reduceLT, Nat.reduceEqDiff, Nat.reduceMul, Nat.reduceLeDiff, if_true, Zn, reduceCtorEq, ZA, eq_self, Int.reduceLE, Int.reduceLT, Int.reduceToNat, ne_eq, Nat.reduceSub, Tst32, nb1_b, xl, ol]
  repeat refine And.intro (by omega) ?_
  repeat refine And.intro (by omega) ?_
  intro g
  simp only [List.map_cons, List.map_nil, updL, upd, Nat.reduceEqDiff, if_true, if_false, ↓reduceIte]
  refine hK _ _ ?_; clear hK K
  refine Cd.ret ?_
  simp (maxSteps := 2000000) (disch := first | (simp only [E4, xl, ol] <;> omega) | omega | fail) only [↓E2, E3, bare, bareJ, ↓E0, E1, evP, evPlan, env0, envN, evOps, evOp, evQs, evQ, evV, setD, pureOp, ev, upd, updL, gate, binW, eqOp, binV, intOp, shOp, boolOp, unV, convV, nilV, fieldAddrV, indexAddrV, extractV, cellAt, cellsAt, findB, setB, fillL, buildV, Value.cells, lenV, minV, maxV, hav, sliceV, loV, hiV, bslQ, mksQ, appQ, partsOk, partsCells, delB, eqL, SameI, strOp, apzQ, cvtQ, capV, ↓reduceIte, Zj, Zk, Nat.reduceAdd, Nat.reduceLT, Nat.reduceEqDiff, Nat.reduceMul, Nat.reduceLeDiff, if_true, Zn, reduceCtorEq, ZA, eq_self, Int.reduceLE, Int.reduceLT, Int.reduceToNat, ne_eq, Nat.reduceSub, Tld32, nb1_b, xl, ol]
  repeat refine And.intro (by omega) ?_
  exact ⟨t, h, ho, ⟨s, x, o, rfl, hs, hx, hy⟩, SubP.of (List.Sublist.cons _ (List.Sublist.refl _))⟩
end

end Go.Proofs

/-
  What the functions of this part hand back: each as a plain function of its arguments. Conditions: none.
-/
namespace Go.Proofs
open Go.W8
set_option linter.unusedVariables false
set_option linter.unusedSimpArgs false
set_option linter.unusedSectionVars false
set_option maxRecDepth 8000
set_option maxHeartbeats 4000000
theorem endQ_5 {W : List Nat} {w0 : World} {ρ : Env} {M : Blks} {P : Program} {r1 r2 r3 r4 r5 : ResultVar} {v1 v2 v3 v4 v5 : Value} {R : Value → Blks → Prop} (h1 : resV W w0 P ρ M r1 = some v1) (h2 : resV W w0 P ρ M r2 = some v2) (h3 : resV W w0 P ρ M r3 = some v3)
    (h4 : resV W w0 P ρ M r4 = some v4) (h5 : resV W w0 P ρ M r5 = some v5) (hR : R (.tuple #[v1, v2, v3, v4, v5]) M) : endQ W w0 P [r1, r2, r3, r4, r5] R ρ M := by
  refine ⟨[v1, v2, v3, v4, v5], ?_, hR⟩
  simp only [List.mapM_cons, List.mapM_nil, h1, h2, h3, h4, h5]
  rfl
section
variable (l : List Int) (cv : Value) (R : Rd) (hin : InB R l cv) (hl : l.length ≤ 4096) (hb : ∀ k, k < l.length → 0 ≤ l.getD k 0 ∧ l.getD k 0 < 256) (hne : ∀ r ∈ R, r.2.2 ≠ [])
include hin hl hb
omit hin hl hb in
theorem _root_.Go.W8.Draws_mono {P : Program} {f : FuncId} {args : List Value} {b m : Nat} {cv : Value} {R : Rd} {Post Post' : Value → Prop} (h : Draws P f args b cv R m Post) (hp : ∀ v, Post v → Post' v) : Draws P f args b cv R m Post' :=
  fun t hh ho => (h t hh ho).mono fun _ _ ⟨h1, h2⟩ => ⟨hp _ h1, h2⟩
theorem next_r (b : Nat) (hRb : ∀ r ∈ R, r.1 ≠ b) (n : Int) (hn : Rng n) : Draws Try.prog 88 [.pointer (some ⟨b, 0, none⟩), .int .i64 n] b cv R l.length (fun v => ∃ x, v = .int .i64 x ∧ 0 ≤ x ∧ x < max n 1 ∧ Rng x) :=
  Draws_mono (next_c l cv R hin hl hb b hRb n hn) fun v ⟨x, e, h0, h1⟩ => ⟨x, e, h0, h1, by obtain ⟨a1, a2⟩ := hn; exact ⟨by omega, by omega⟩⟩
include hne
theorem dPlaces_c : GivesX Try.prog 29 #[cv] [] R (fun v M' => isGrid v ∧ M' = []) := by
  refine GivesX.part ?_
  refine GivesX.of (callable_of Try.func29 rfl (by decide)) ?_ fun w hnd hlt hR => ?_
  · simp
  refine acall_of (N := 6) (c := _) (rs := [.cell 2 32]) (args := [_]) Try.func29 rfl (by decide) rfl rfl (Nat.le_of_ble_eq_true rfl) ?_
  have hR : W8.Told [] w R := hR
  refine Cd.rs [0, 2] fun K hK => ?_
  simp (maxSteps := 2000000) (disch := first | (simp only [E4] <;> omega) | omega | fail) only [↓E2, E3, bare, bareJ, ↓E0, E1, env0, envN, evOps, evOp, evQs, evQ, evV, setD, pureOp, ev, upd, updL, Value.cells, hav, ↓reduceIte, Zj, Zk, Nat.reduceAdd, Nat.reduceLT, Nat.reduceEqDiff, Nat.reduceMul, Nat.reduceLeDiff, if_true, Zn, reduceCtorEq, ZA, eq_self, Int.reduceLE, Int.reduceLT, Int.reduceToNat, ne_eq, Nat.reduceSub, Tzero32]
  repeat refine And.intro (by omega) ?_
  intro b1 hb1
  try simp (maxSteps := 2000000) (disch := first | (simp only [E4] <;> omega) | omega | fail) only [↓E2, E3, bare, bareJ, ↓E0, E1, env0, envN, evOps, evOp, evQs, evQ, evV, setD, pureOp, ev, upd, updL, Value.cells, hav, ↓reduceIte, Zj, Zk, Nat.reduceAdd, Nat.reduceLT, Nat.reduceEqDiff, Nat.reduceMul, Nat.reduceLeDiff, if_true, Zn, reduceCtorEq, ZA, eq_self, Int.reduceLE, Int.reduceLT, Int.reduceToNat, ne_eq, Nat.reduceSub, Tzero32]
  repeat refine And.intro (by omega) ?_
  repeat refine And.intro (by omega) ?_
  intro g
  simp only [List.map_cons, List.map_nil, updL, upd, Nat.reduceEqDiff, if_true, if_false, ↓reduceIte]
  refine hK _ _ ?_; clear hK K
  refine Cd.rs [2] fun K hK => ?_
  simp (maxSteps := 2000000) (disch := first | (simp only [E4] <;> omega) | omega | fail) only [↓E2, E3, bare, bareJ, ↓E0, E1, env0, envN, evOps, evOp, evQs, evQ, evV, setD, pureOp, ev, upd, updL, cellAt, cellsAt, findB, setB, Value.cells, hav, ↓reduceIte, Zj, Zk, Nat.reduceAdd, Nat.reduceLT, Nat.reduceEqDiff, Nat.reduceMul, Nat.reduceLeDiff, if_true, Zn, reduceCtorEq, ZA, eq_self, Int.reduceLE, Int.reduceLT, Int.reduceToNat, ne_eq, Nat.reduceSub, Tst32]
  repeat refine And.intro (by omega) ?_
  refine callK_new0 (from_c l cv R hin hl hb) (Told.toldW hR) ?_
  rintro v M' ⟨bs, t, h, rfl, ho, rfl⟩ nd hf
  have f1 := hf _ (List.mem_singleton_self _)
  have n1 := f1.ne
  have hRb : ∀ r ∈ R, r.1 ≠ bs := fun r hr e => by have h1 := told_lt hR hne r hr; have h2 := f1.1; omega
  skip
  simp only [List.cons_append, List.nil_append]
  simp (maxSteps := 2000000) (disch := first | (simp only [E4] <;> omega) | omega | fail) only [↓E2, E3, bare, bareJ, ↓E0, E1, env0, envN, evOps, evOp, evQs, evQ, evV, setD, pureOp, ev, upd, updL, cellAt, cellsAt, findB, setB, Value.cells, hav, ↓reduceIte, Zj, Zk, Nat.reduceAdd, Nat.reduceLT, Nat.reduceEqDiff, Nat.reduceMul, Nat.reduceLeDiff, if_true, Zn, reduceCtorEq, ZA, eq_self, Int.reduceLE, Int.reduceLT, Int.reduceToNat, ne_eq, Nat.reduceSub, Tst32, n1]
  repeat refine And.intro (by omega) ?_
  refine callK_draw (spoil2_c l cv R hin hl hb bs hRb) ho (by simp only [findB, if_true]) (Told.toldW hR) ?_
  rintro v t h ho ⟨s, x, o, rfl, hs, hx, hy⟩
  have xl := hx.len
  have ol := hy.len
  skip
  simp (maxSteps := 2000000) (disch := first | (simp only [E4, xl, ol] <;> omega) | omega | fail) only [↓E2, E3, bare, bareJ, ↓E0, E1, env0, envN, evOps, evOp, evQs, evQ, evV, setD, pureOp, ev, upd, updL, cellAt, cellsAt, findB, setB, Value.cells, hav, ↓reduceIte, Zj, Zk, Nat.reduceAdd, Nat.reduceLT, Nat.reduceEqDiff, Nat.reduceMul, Nat.reduceLeDiff, if_true, Zn, reduceCtorEq, ZA, eq_self, Int.reduceLE, Int.reduceLT, Int.reduceToNat, ne_eq, Nat.reduceSub, Tst32, n1, xl, ol]
  repeat refine And.intro (by omega) ?_
  repeat refine And.intro (by omega) ?_
  intro g
  simp only [List.map_cons, List.map_nil, updL, upd, Nat.reduceEqDiff, if_true, if_false, ↓reduceIte]
  refine hK _ _ ?_; clear hK K
  refine Cd.ret ?_
  simp (maxSteps := 2000000) (disch := first | (simp only [E4, xl, ol] <;> omega) | omega | fail) only [↓E2, E3, bare, bareJ, ↓E0, E1, evP, evPlan, env0, envN, evOps, evOp, evQs, evQ, evV, setD, pureOp, ev, upd, updL, gate, binW, eqOp, binV, intOp, shOp, boolOp, unV, convV, nilV, fieldAddrV, indexAddrV, extractV, cellAt, cellsAt, findB, setB, fillL, buildV, Value.cells, lenV, minV, maxV, hav, sliceV, loV, hiV, bslQ, mksQ, appQ, partsOk, partsCells, delB, eqL, SameI, strOp, apzQ, cvtQ, capV, ↓reduceIte, Zj, Zk, Nat.reduceAdd, Nat.reduceLT, Nat.reduceEqDiff, Nat.reduceMul, Nat.reduceLeDiff, if_true, Zn, reduceCtorEq, ZA, eq_self, Int.reduceLE, Int.reduceLT, Int.reduceToNat, ne_eq, Nat.reduceSub, Tld32, n1, xl, ol]
  repeat refine And.intro (by omega) ?_
  exact ⟨[], SubP.of (List.nil_sublist _), ⟨s, x, o, rfl, hs, hx, hy⟩, rfl⟩
theorem dStab_c : GivesX Try.prog 21 #[cv] [] R (fun v M' => (∃ s x o a m r u, v = .tuple #[.agg (gc s x o).toArray, .int .i64 a, .int .i64 m, .int .i64 r, .int .i64 u] ∧ Rng s ∧ Bytes8 x ∧ Bytes8 o ∧ Rng a ∧ Rng m ∧ Rng r ∧ Rng u) ∧ M' = []) := by
  refine GivesX.part ?_
  refine GivesX.of (callable_of Try.func21 rfl (by decide)) ?_ fun w hnd hlt hR => ?_
  · simp
  refine acall_of (N := 32) (c := _) (rs := [.cell 2 32, .tmp 3, .tmp 4, .tmp 5, .tmp 6]) (args := [_]) Try.func21 rfl (by decide) rfl rfl (Nat.le_of_ble_eq_true rfl) ?_
  have hR : W8.Told [] w R := hR
  refine Cd.rs [0, 2] fun K hK => ?_
  simp (maxSteps := 2000000) (disch := first | (simp only [E4] <;> omega) | omega | fail) only [↓E2, E3, bare, bareJ, ↓E0, E1, env0, envN, evOps, evOp, evQs, evQ, evV, setD, pureOp, ev, upd, updL, Value.cells, hav, ↓reduceIte, Zj, Zk, Nat.reduceAdd, Nat.reduceLT, Nat.reduceEqDiff, Nat.reduceMul, Nat.reduceLeDiff, if_true, Zn, reduceCtorEq, ZA, eq_self, Int.reduceLE, Int.reduceLT, Int.reduceToNat, ne_eq, Nat.reduceSub, Tzero32]
  repeat refine And.intro (by omega) ?_
  intro b1 hb1
  try simp (maxSteps := 2000000) (disch := first | (simp only [E4] <;> omega) | omega | fail) only [↓E2, E3, bare, bareJ, ↓E0, E1, env0, envN, evOps, evOp, evQs, evQ, evV, setD, pureOp, ev, upd, updL, Value.cells, hav, ↓reduceIte, Zj, Zk, Nat.reduceAdd, Nat.reduceLT, Nat.reduceEqDiff, Nat.reduceMul, Nat.reduceLeDiff, if_true, Zn, reduceCtorEq, ZA, eq_self, Int.reduceLE, Int.reduceLT, Int.reduceToNat, ne_eq, Nat.reduceSub, Tzero32]
  repeat refine And.intro (by omega) ?_
  repeat refine And.intro (by omega) ?_
  intro g
  simp only [List.map_cons, List.map_nil, updL, upd, Nat.reduceEqDiff, if_true, if_false, ↓reduceIte]
  refine hK _ _ ?_; clear hK K
  refine Cd.rs [2, 7] fun K hK => ?_
  simp (maxSteps := 2000000) (disch := first | (simp only [E4] <;> omega) | omega | fail) only [↓E2, E3, bare, bareJ, ↓E0, E1, env0, envN, evOps, evOp, evQs, evQ, evV, setD, pureOp, ev, upd, updL, cellAt, cellsAt, findB, setB, hav, ↓reduceIte, Zj, Zk, Nat.reduceAdd, Nat.reduceLT, Nat.reduceEqDiff, Nat.reduceMul, Nat.reduceLeDiff, if_true, Zn, reduceCtorEq, ZA, eq_self, Int.reduceLE, Int.reduceLT, Int.reduceToNat, ne_eq, Nat.reduceSub]
  repeat refine And.intro (by omega) ?_
  refine callK_new0 (from_c l cv R hin hl hb) (Told.toldW hR) ?_
  rintro v M' ⟨bs, t, h, rfl, ho, rfl⟩ nd hf
  have f1 := hf _ (List.mem_singleton_self _)
  have n1 := f1.ne
  have hRb : ∀ r ∈ R, r.1 ≠ bs := fun r hr e => by have h1 := told_lt hR hne r hr; have h2 := f1.1; omega
  skip
  skip
  simp only [List.cons_append, List.nil_append]
  simp (maxSteps := 2000000) (disch := first | (simp only [E4] <;> omega) | omega | fail) only [↓E2, E3, bare, bareJ, ↓E0, E1, env0, envN, evOps, evOp, evQs, evQ, evV, setD, pureOp, ev, upd, updL, cellAt, cellsAt, findB, setB, hav, ↓reduceIte, Zj, Zk, Nat.reduceAdd, Nat.reduceLT, Nat.reduceEqDiff, Nat.reduceMul, Nat.reduceLeDiff, if_true, Zn, reduceCtorEq, ZA, eq_self, Int.reduceLE, Int.reduceLT, Int.reduceToNat, ne_eq, Nat.reduceSub, n1]
  repeat refine And.intro (by omega) ?_
  repeat refine And.intro (by omega) ?_
  intro g
  simp only [List.map_cons, List.map_nil, updL, upd, Nat.reduceEqDiff, if_true, if_false, ↓reduceIte]
  refine hK _ _ ?_; clear hK K
  refine Cd.rs [2, 7, 8] fun K hK => ?_
  simp (maxSteps := 2000000) (disch := first | (simp only [E4] <;> omega) | omega | fail) only [↓E2, E3, bare, bareJ, ↓E0, E1, env0, envN, evOps, evOp, evQs, evQ, evV, setD, pureOp, ev, upd, updL, cellAt, cellsAt, findB, setB, Value.cells, hav, ↓reduceIte, Zj, Zk, Nat.reduceAdd, Nat.reduceLT, Nat.reduceEqDiff, Nat.reduceMul, Nat.reduceLeDiff, if_true, Zn, reduceCtorEq, ZA, eq_self, Int.reduceLE, Int.reduceLT, Int.reduceToNat, ne_eq, Nat.reduceSub, Tst32, Tzero32, n1]
  repeat refine And.intro (by omega) ?_
  refine callK_draw (spoil2_c l cv R hin hl hb bs hRb) ho (by simp only [findB, if_true]) (Told.toldW hR) ?_
  rintro v t h ho ⟨s, x, o, rfl, hs, hx, hy⟩
  have xl := hx.len
  have ol := hy.len
  skip
  simp (maxSteps := 2000000) (disch := first | (simp only [E4, xl, ol] <;> omega) | omega | fail) only [↓E2, E3, bare, bareJ, ↓E0, E1, env0, envN, evOps, evOp, evQs, evQ, evV, setD, pureOp, ev, upd, updL, cellAt, cellsAt, findB, setB, Value.cells, hav, ↓reduceIte, Zj, Zk, Nat.reduceAdd, Nat.reduceLT, Nat.reduceEqDiff, Nat.reduceMul, Nat.reduceLeDiff, if_true, Zn, reduceCtorEq, ZA, eq_self, Int.reduceLE, Int.reduceLT, Int.reduceToNat, ne_eq, Nat.reduceSub, Tst32, Tzero32, n1, xl, ol]
  repeat refine And.intro (by omega) ?_
  intro b2 hb2
  have nb2_bs := hb2.ne
  have nb2_b1 := hb2.tail.ne
  try simp (maxSteps := 2000000) (disch := first | (simp only [E4, xl, ol] <;> omega) | omega | fail) only [↓E2, E3, bare, bareJ, ↓E0, E1, env0, envN, evOps, evOp, evQs, evQ, evV, setD, pureOp, ev, upd, updL, cellAt, cellsAt, findB, setB, Value.cells, hav, ↓reduceIte, Zj, Zk, Nat.reduceAdd, Nat.reduceLT, Nat.reduceEqDiff, Nat.reduceMul, Nat.reduceLeDiff, if_true, Zn, reduceCtorEq, ZA, eq_self, Int.reduceLE, Int.reduceLT, Int.reduceToNat, ne_eq, Nat.reduceSub, Tst32, Tzero32, n1, xl, ol, nb2_bs, nb2_b1]
  repeat refine And.intro (by omega) ?_
  repeat refine And.intro (by omega) ?_
  intro g
  simp only [List.map_cons, List.map_nil, updL, upd, Nat.reduceEqDiff, if_true, if_false, ↓reduceIte]
  refine hK _ _ ?_; clear hK K
  have hnx := next_r l cv R hin hl hb bs hRb
  have fb : ∀ M, findB bs ((b2, gc s x o) :: (bs, M) :: [(b1, gc 0 z8 z8)]) = some M := fun M => by simp only [findB, nb2_bs, if_true, if_false]
  refine Cd.ps [2, 3, 4, 5, 6] (Plan.take 1 (Plan.take 2 (Plan.take 4 (Plan.take 9 (Plan.take 11 (Plan.take 13 (Plan.take 15 (Plan.more 0 (Plan.more 3 (Plan.one 5 (Plan.take 6 (Plan.take 7 (Plan.one 8 (Plan.one 10 (Plan.one 12 (Plan.one 14 (Plan.one 16 (Plan.take 17 (Plan.take 18 (Plan.one 19 (Plan.take 20 (Plan.take 21 (Plan.take 22 (Plan.take 23 (Plan.done)))))))))))))))) (Plan.one 5 (Plan.take 6 (Plan.one 3 (Plan.take 7 (Plan.one 8 (Plan.one 10 (Plan.one 12 (Plan.one 14 (Plan.one 16 (Plan.take 17 (Plan.take 18 (Plan.one 19 (Plan.take 20 (Plan.take 21 (Plan.take 22 (Plan.take 23 (Plan.done)))))))))))))))))) (Plan.more 3 (Plan.more 0 (Plan.one 5 (Plan.take 6 (Plan.take 7 (Plan.one 8 (Plan.one 10 (Plan.one 12 (Plan.one 14 (Plan.one 16 (Plan.take 17 (Plan.take 18 (Plan.one 19 (Plan.take 20 (Plan.take 21 (Plan.take 22 (Plan.take 23 (Plan.done)))))))))))))))) (Plan.one 5 (Plan.take 6 (Plan.take 7 (Plan.more 0 (Plan.one 8 (Plan.one 10 (Plan.one 12 (Plan.one 14 (Plan.one 16 (Plan.take 17 (Plan.take 18 (Plan.one 19 (Plan.take 20 (Plan.take 21 (Plan.take 22 (Plan.take 23 (Plan.done))))))))))))) (Plan.one 8 (Plan.more 0 (Plan.one 10 (Plan.one 12 (Plan.one 14 (Plan.one 16 (Plan.take 17 (Plan.take 18 (Plan.one 19 (Plan.take 20 (Plan.take 21 (Plan.take 22 (Plan.take 23 (Plan.done)))))))))))) (Plan.one 10 (Plan.more 0 (Plan.one 12 (Plan.one 14 (Plan.one 16 (Plan.take 17 (Plan.take 18 (Plan.one 19 (Plan.take 20 (Plan.take 21 (Plan.take 22 (Plan.take 23 (Plan.done))))))))))) (Plan.one 12 (Plan.more 0 (Plan.one 14 (Plan.one 16 (Plan.take 17 (Plan.take 18 (Plan.one 19 (Plan.take 20 (Plan.take 21 (Plan.take 22 (Plan.take 23 (Plan.done)))))))))) (Plan.one 14 (Plan.more 0 (Plan.one 16 (Plan.take 17 (Plan.take 18 (Plan.one 19 (Plan.take 20 (Plan.take 21 (Plan.take 22 (Plan.take 23 (Plan.done))))))))) (Plan.one 16 (Plan.take 0 (Plan.take 17 (Plan.take 18 (Plan.one 19 (Plan.take 20 (Plan.take 21 (Plan.take 22 (Plan.take 23 (Plan.done))))))))))))))))))))))) (Plan.one 5 (Plan.take 6 (Plan.more 0 (Plan.one 3 (Plan.take 7 (Plan.one 8 (Plan.one 10 (Plan.one 12 (Plan.one 14 (Plan.one 16 (Plan.take 17 (Plan.take 18 (Plan.one 19 (Plan.take 20 (Plan.take 21 (Plan.take 22 (Plan.take 23 (Plan.done))))))))))))))) (Plan.one 3 (Plan.take 7 (Plan.more 0 (Plan.one 8 (Plan.one 10 (Plan.one 12 (Plan.one 14 (Plan.one 16 (Plan.take 17 (Plan.take 18 (Plan.one 19 (Plan.take 20 (Plan.take 21 (Plan.take 22 (Plan.take 23 (Plan.done))))))))))))) (Plan.one 8 (Plan.more 0 (Plan.one 10 (Plan.one 12 (Plan.one 14 (Plan.one 16 (Plan.take 17 (Plan.take 18 (Plan.one 19 (Plan.take 20 (Plan.take 21 (Plan.take 22 (Plan.take 23 (Plan.done)))))))))))) (Plan.one 10 (Plan.more 0 (Plan.one 12 (Plan.one 14 (Plan.one 16 (Plan.take 17 (Plan.take 18 (Plan.one 19 (Plan.take 20 (Plan.take 21 (Plan.take 22 (Plan.take 23 (Plan.done))))))))))) (Plan.one 12 (Plan.more 0 (Plan.one 14 (Plan.one 16 (Plan.take 17 (Plan.take 18 (Plan.one 19 (Plan.take 20 (Plan.take 21 (Plan.take 22 (Plan.take 23 (Plan.done)))))))))) (Plan.one 14 (Plan.more 0 (Plan.one 16 (Plan.take 17 (Plan.take 18 (Plan.one 19 (Plan.take 20 (Plan.take 21 (Plan.take 22 (Plan.take 23 (Plan.done))))))))) (Plan.one 16 (Plan.take 0 (Plan.take 17 (Plan.take 18 (Plan.one 19 (Plan.take 20 (Plan.take 21 (Plan.take 22 (Plan.take 23 (Plan.done))))))))))))))))))))))))))))))))) fol (by kernel_rfl) (Nat.le_of_ble_eq_true rfl) fun K hK => ?_
  simp (maxSteps := 2000000) (disch := first | (simp only [E4, xl, ol] <;> omega) | omega | fail) only [↓E2, E3, bare, bareJ, ↓E0, E1, evPlan, env0, envN, evOps, evOp, evQs, evQ, evV, setD, pureOp, ev, upd, updL, binW, eqOp, binV, intOp, shOp, boolOp, fieldAddrV, cellAt, cellsAt, findB, setB, Value.cells, hav, eqL, SameI, strOp, ↓reduceIte, Zj, Zk, Nat.reduceAdd, Nat.reduceLT, Nat.reduceEqDiff, Nat.reduceMul, Nat.reduceLeDiff, if_true, Zn, reduceCtorEq, ZA, eq_self, Int.reduceLE, Int.reduceLT, Int.reduceToNat, ne_eq, Nat.reduceSub, Tfld32_0, Tld2, Tld32, Tst32, ↓YR, n1, xl, ol, nb2_bs, nb2_b1]
  repeat' first
      | with_reducible refine moreX_go ?_ ?_
      | simp (maxSteps := 2000000) (disch := first | (simp only [E4, xl, ol] <;> omega) | omega | fail) only [↓E2, E3, bare, bareJ, ↓E0, E1, evPlan, env0, envN, evOps, evOp, evQs, evQ, evV, setD, pureOp, ev, upd, updL, binW, eqOp, binV, intOp, shOp, boolOp, fieldAddrV, cellAt, cellsAt, findB, setB, Value.cells, hav, eqL, SameI, strOp, ↓reduceIte, Zj, Zk, Nat.reduceAdd, Nat.reduceLT, Nat.reduceEqDiff, Nat.reduceMul, Nat.reduceLeDiff, if_true, Zn, reduceCtorEq, ZA, eq_self, Int.reduceLE, Int.reduceLT, Int.reduceToNat, ne_eq, Nat.reduceSub, Tfld32_0, Tld2, Tld32, Tst32, ↓YR, n1, xl, ol, nb2_bs, nb2_b1]
      | (first | with_reducible refine And.intro ?_ ?_ | (refine callO_draw (hnx _ (by first | exact ⟨by omega, by omega⟩ | exact wrap_rng _)) (by assumption) (fb _) (Told.toldW hR) ?_; rintro _ _ _ _ ⟨_, rfl, _, _, _⟩) | omega)
  all_goals
    repeat refine And.intro (by omega) ?_
    intro g
    simp only [List.map_cons, List.map_nil, updL, upd, Nat.reduceEqDiff, if_true, if_false, ↓reduceIte]
    refine hK _ _ ?_; clear hK K
    refine Cd.ret ?_
    rw [retQ_ret]
    refine endQ_5 (v1 := .agg (gc s x o).toArray) ?_ rfl rfl rfl rfl ?_
    · simp (maxSteps := 2000000) (disch := first | (simp only [E4, xl, ol] <;> omega) | omega | fail) only [↓E2, E3, bare, bareJ, ↓E0, E1, evP, evPlan, env0, envN, evOps, evOp, evQs, evQ, evV, setD, pureOp, ev, upd, updL, gate, binW, eqOp, binV, intOp, shOp, boolOp, unV, convV, nilV, fieldAddrV, indexAddrV, extractV, cellAt, cellsAt, findB, setB, fillL, buildV, Value.cells, lenV, minV, maxV, hav, sliceV, loV, hiV, bslQ, mksQ, appQ, partsOk, partsCells, delB, eqL, SameI, strOp, apzQ, cvtQ, capV, ↓reduceIte, Zj, Zk, Nat.reduceAdd, Nat.reduceLT, Nat.reduceEqDiff, Nat.reduceMul, Nat.reduceLeDiff, if_true, Zn, reduceCtorEq, ZA, eq_self, Int.reduceLE, Int.reduceLT, Int.reduceToNat, ne_eq, Nat.reduceSub, Tld32, n1, xl, ol, nb2_bs, nb2_b1]
      repeat refine And.intro (by omega) ?_
    refine ⟨[], SubP.of (List.nil_sublist _), ⟨s, x, o, _, _, _, _, rfl, hs, hx, hy, ?_, ?_, ?_, ?_⟩, rfl⟩
    all_goals first | assumption | exact ⟨by omega, by omega⟩
end

end Go.Proofs

