/-
  What the functions of this part hand back: each as a plain function of its arguments. Conditions: none.
-/
import Derived.ProofKit
import Derived.OpenShut
import Derived.Below
import Derived.ChangeSame
import Derived.Test.YtdfddcfgagfdoaaM1
import Derived.Test.YtdfddcfgagfdoaaM2
import Derived.Test.YtdfddcfgagfdoaaM3
namespace Go.Proofs
open Go.W8
set_option linter.unusedVariables false
set_option linter.unusedSimpArgs false
set_option linter.unusedSectionVars false
set_option maxRecDepth 8000
set_option maxHeartbeats 4000000
theorem and1_i64 : ∀ k : Nat, k < 8 → IntKind.wrap .i64 ((BitVec.ofInt (IntKind.i64.bits) (k : Int) &&& BitVec.ofInt (IntKind.i64.bits) 1).toNat : Int) = ((k % 2 : Nat) : Int) := by decide +kernel
theorem shr_and1_i64 : ∀ k : Nat, k < 8 → IntKind.wrap .i64 ((BitVec.ofInt (IntKind.i64.bits) (Int.fdiv (k : Int) (2 ^ (min 1 (IntKind.i64.bits)))) &&& BitVec.ofInt (IntKind.i64.bits) 1).toNat : Int) = ((k / 2 % 2 : Nat) : Int) := by decide +kernel
theorem shr2_i64 : ∀ k : Nat, k < 8 → Int.fdiv (k : Int) (2 ^ (min 2 (IntKind.i64.bits))) = ((k / 4 : Nat) : Int) := by decide +kernel
def colS (i k : Nat) : Nat := if i < k then k - 1 else k

theorem tab_bytes {f : Nat → Int} (h : ∀ q, q < 8 → 0 ≤ f q ∧ f q < 256) : Bytes8 (tab f) := by
  refine ⟨tab_len f, fun a ha => ?_, fun a ha => ?_⟩
  · obtain ⟨q, hq, rfl⟩ := List.mem_map.1 ha
    exact (h q (List.mem_range.1 hq)).1
  · obtain ⟨q, hq, rfl⟩ := List.mem_map.1 ha
    exact (h q (List.mem_range.1 hq)).2
theorem old_bytes {x : List Int} (hx : Bytes8 x) {n i k : Nat} {r : Int} (hn : n ≤ 8) (hr0 : 0 ≤ r) (hi : i + 1 < n) : Bytes8 (oldX x i r n k) := by
  refine tab_bytes fun q hq => ?_
  have a := fun c (h : c < 8) => bytes_get hx h
  have hrt : k / 2 % 2 ≤ 1 := by omega
  unfold shrK lowF
  split
  · split
    · have := a q (by omega)
      split <;> omega
    · omega
  · split
    · split
      · have := a (i + k / 2 % 2) (by omega)
        split <;> omega
      · omega
    · split
      · have := a (q + 1) (by omega)
        split <;> omega
      · omega
def shrR (n : Nat) (x o : List Int) (i : Nat) (r : Int) : Value :=
  match bkFind x o i r with
  | some k => .tuple #[.agg (gc ((n - 1 : Nat) : Int) (oldX x i r n k) (oldX o i r n k)).toArray, .agg #[.int .i64 (i : Int), .int .i64 ((k % 2 : Nat) : Int), .int .i64 ((k / 2 % 2 : Nat) : Int), .int .i64 ((k / 4 : Nat) : Int)], .bool true]
  | none => .tuple #[.agg (gc 0 z8 z8).toArray, .agg #[.int .i64 0, .int .i64 0, .int .i64 0, .int .i64 0], .bool false]

section
variable (n : Nat) (x o : List Int) (hx : Bytes8 x) (ho : Bytes8 o) (hn : n ≤ 8) (px : IsPerm x n) (po : IsPerm o n) (hd : ∀ c, c < n → x.getD c 0 ≠ o.getD c 0) (i : Nat) (hi : i + 1 < n) (r : Int) (hr0 : 0 ≤ r) (hr : r + 1 < n)
include hx ho hn px po hd hi hr0 hr
theorem shrunk_c : Gives Try.prog 94 #[.agg (gc (n : Int) x o).toArray, .int .i64 (i : Int), .int .i64 r] (shrR n x o i r) := by
  have hl := hx.len
  have hm := ho.len
  have en : (n : Int) - 1 = ((n - 1 : Nat) : Int) := by omega
  have xl : ∀ k, (oldX x i r n k).length = 8 := fun k => tab_len _
  have ol : ∀ k, (oldX o i r n k).length = 8 := fun k => tab_len _
  have h0 : ∀ c, c < n → 0 ≤ x.getD c 0 := fun c hc => (bytes_get hx (by omega)).1
  have h0' : ∀ c, c < n → 0 ≤ o.getD c 0 := fun c hc => (bytes_get ho (by omega)).1
  skip
  refine Gives.of fun w => ?_
  refine acall_of (N := 117) (c := _) (rs := [.cell 6 32, .cell 7 87, .tmp 8]) (args := [_, _, _]) Try.func94 rfl (by decide) rfl rfl (Nat.le_of_ble_eq_true rfl) ?_
  refine Cd.rs [1, 2, 3, 6, 7] fun K hK => ?_
  simp (maxSteps := 2000000) (disch := first | (simp only [E4, hl, hm, en, xl, ol] <;> omega) | omega | fail) only [↓E2, E3, bare, bareJ, ↓E0, E1, env0, envN, evOps, evOp, evQs, evQ, evV, setD, pureOp, ev, upd, updL, Value.cells, hav, ↓reduceIte, Zj, Zk, Nat.reduceAdd, Nat.reduceLT, Nat.reduceEqDiff, Nat.reduceMul, Nat.reduceLeDiff, if_true, Zn, reduceCtorEq, ZA, eq_self, Int.reduceLE, Int.reduceLT, Int.reduceToNat, ne_eq, Nat.reduceSub, Tzero32, Tzero87, hl, hm, en, xl, ol]
  repeat refine And.intro (by omega) ?_
  intro b1 hb1
  intro b2 hb2
  have nb2_b1 := hb2.ne
  intro b3 hb3
  have nb3_b2 := hb3.ne
  have nb3_b1 := hb3.tail.ne
  try simp (maxSteps := 2000000) (disch := first | (simp only [E4, hl, hm, en, xl, ol] <;> omega) | omega | fail) only [↓E2, E3, bare, bareJ, ↓E0, E1, env0, envN, evOps, evOp, evQs, evQ, evV, setD, pureOp, ev, upd, updL, Value.cells, hav, ↓reduceIte, Zj, Zk, Nat.reduceAdd, Nat.reduceLT, Nat.reduceEqDiff, Nat.reduceMul, Nat.reduceLeDiff, if_true, Zn, reduceCtorEq, ZA, eq_self, Int.reduceLE, Int.reduceLT, Int.reduceToNat, ne_eq, Nat.reduceSub, Tzero32, Tzero87, hl, hm, en, xl, ol, nb2_b1, nb3_b2, nb3_b1]
  repeat refine And.intro (by omega) ?_
  intro g
  simp only [List.map_cons, List.map_nil, updL, upd, Nat.reduceEqDiff, if_true, if_false, ↓reduceIte]
  refine hK _ _ ?_; clear hK K
  refine Cd.seq ?_
  refine Cd.rs [1, 2, 3, 6, 7, 14] fun K hK => ?_
  simp (maxSteps := 2000000) (disch := first | (simp only [E4, hl, hm, en, xl, ol] <;> omega) | omega | fail) only [↓E2, E3, bare, bareJ, ↓E0, E1, env0, envN, evOps, evOp, evQs, evQ, evV, setD, pureOp, ev, upd, updL, hav, ↓reduceIte, Zj, Zk, Nat.reduceAdd, Nat.reduceLT, Nat.reduceEqDiff, Nat.reduceMul, Nat.reduceLeDiff, if_true, Zn, reduceCtorEq, ZA, eq_self, Int.reduceLE, Int.reduceLT, Int.reduceToNat, ne_eq, Nat.reduceSub, hl, hm, en, xl, ol, nb2_b1, nb3_b2, nb3_b1]
  repeat refine And.intro (by omega) ?_
  intro g
  simp only [List.map_cons, List.map_nil, updL, upd, Nat.reduceEqDiff, if_true, if_false, ↓reduceIte]
  refine hK _ _ ?_; clear hK K
  refine Cd.block ?_
  refine Cd.loop (fun m ρ M => ∃ g k, k + m = 8 ∧ (∀ j, j < k → bk x o i r j = false) ∧ ρ = updL [(1, .int .i64 (i : Int)), (2, .int .i64 r), (3, .pointer (some ⟨b1, 0, none⟩)), (6, .pointer (some ⟨b2, 0, none⟩)), (7, .pointer (some ⟨b3, 0, none⟩)), (14, .int .i64 (k : Int))] g ∧
    [(b3, [.int .i64 0, .int .i64 0, .int .i64 0, .int .i64 0]), (b2, gc 0 z8 z8), (b1, gc (n : Int) x o)].Sublist M) 8 ⟨_, 0, Nat.zero_add _, (fun _ h => absurd h (Nat.not_lt_zero _)), rfl, List.Sublist.refl _⟩ ?_
  rintro m ρ M ⟨g, k, hk, hno, rfl, hM⟩
  refine Cd.drop hM ?_
  clear hM M
  refine Cd.rs [1, 2, 3, 6, 7, 14, 15] fun K hK => ?_
  simp (maxSteps := 2000000) (disch := first | (simp only [E4, hl, hm, en, xl, ol] <;> omega) | omega | fail) only [↓E2, E3, bare, bareJ, ↓E0, E1, env0, envN, evOps, evOp, evQs, evQ, evV, setD, pureOp, ev, upd, updL, binW, eqOp, binV, intOp, shOp, boolOp, hav, eqL, SameI, strOp, ↓reduceIte, Zj, Zk, Nat.reduceAdd, Nat.reduceLT, Nat.reduceEqDiff, Nat.reduceMul, Nat.reduceLeDiff, if_true, Zn, reduceCtorEq, ZA, eq_self, Int.reduceLE, Int.reduceLT, Int.reduceToNat, ne_eq, Nat.reduceSub, hl, hm, en, xl, ol, nb2_b1, nb3_b2, nb3_b1]
  repeat refine And.intro (by omega) ?_
  intro g
  simp only [List.map_cons, List.map_nil, updL, upd, Nat.reduceEqDiff, if_true, if_false, ↓reduceIte]
  refine hK _ _ ?_; clear hK K
  refine Cd.seq ?_
  refine Cd.condd rfl (fun h1 => ?_) (fun h1 => ?_)
  · have a1 := and1_i64 k (by omega)
    have a2 := shr_and1_i64 k (by omega)
    have a3 := shr2_i64 k (by omega)
    skip
    refine Cd.skip ?_
    refine thenN ?_
    refine Cd.seq ?_
    refine Cd.block ?_
    refine Cd.rs [1, 2, 3, 6, 7, 9, 14] fun K hK => ?_
    simp (maxSteps := 2000000) (disch := first | (simp only [E4, hl, hm, en, xl, ol, a1, a2, a3] <;> omega) | omega | fail) only [↓E2, E3, bare, bareJ, ↓E0, E1, env0, envN, evOps, evOp, evQs, evQ, evV, setD, pureOp, ev, upd, updL, hav, ↓reduceIte, Zj, Zk, Nat.reduceAdd, Nat.reduceLT, Nat.reduceEqDiff, Nat.reduceMul, Nat.reduceLeDiff, if_true, Zn, reduceCtorEq, ZA, eq_self, Int.reduceLE, Int.reduceLT, Int.reduceToNat, ne_eq, Nat.reduceSub, hl, hm, en, xl, ol, nb2_b1, nb3_b2, nb3_b1, a1, a2, a3]
    repeat refine And.intro (by omega) ?_
    intro g
    simp only [List.map_cons, List.map_nil, updL, upd, Nat.reduceEqDiff, if_true, if_false, ↓reduceIte]
    refine hK _ _ ?_; clear hK K
    refine Cd.rs [1, 2, 3, 6, 7, 10, 14] fun K hK => ?_
    simp (maxSteps := 2000000) (disch := first | (simp only [E4, hl, hm, en, xl, ol, a1, a2, a3] <;> omega) | omega | fail) only [↓E2, E3, bare, bareJ, ↓E0, E1, evP, env0, envN, evOps, evOp, evQs, evQ, evV, setD, pureOp, ev, upd, updL, binW, eqOp, binV, intOp, shOp, boolOp, cellAt, cellsAt, findB, setB, fillL, buildV, Value.cells, hav, eqL, SameI, strOp, ↓reduceIte, Zj, Zk, Nat.reduceAdd, Nat.reduceLT, Nat.reduceEqDiff, Nat.reduceMul, Nat.reduceLeDiff, if_true, Zn, reduceCtorEq, ZA, eq_self, Int.reduceLE, Int.reduceLT, Int.reduceToNat, ne_eq, Nat.reduceSub, Tbld87, Tst87, Tzero87, hl, hm, en, xl, ol, nb2_b1, nb3_b2, nb3_b1, a1, a2, a3]
    repeat refine And.intro (by omega) ?_
    intro b4 hb4
    have nb4_b3 := hb4.ne
    have nb4_b2 := hb4.tail.ne
    have nb4_b1 := hb4.tail.tail.ne
    try simp (maxSteps := 2000000) (disch := first | (simp only [E4, hl, hm, en, xl, ol, a1, a2, a3] <;> omega) | omega | fail) only [↓E2, E3, bare, bareJ, ↓E0, E1, evP, env0, envN, evOps, evOp, evQs, evQ, evV, setD, pureOp, ev, upd, updL, binW, eqOp, binV, intOp, shOp, boolOp, cellAt, cellsAt, findB, setB, fillL, buildV, Value.cells, hav, eqL, SameI, strOp, ↓reduceIte, Zj, Zk, Nat.reduceAdd, Nat.reduceLT, Nat.reduceEqDiff, Nat.reduceMul, Nat.reduceLeDiff, if_true, Zn, reduceCtorEq, ZA, eq_self, Int.reduceLE, Int.reduceLT, Int.reduceToNat, ne_eq, Nat.reduceSub, Tbld87, Tst87, Tzero87, hl, hm, en, xl, ol, nb2_b1, nb3_b2, nb3_b1, a1, a2, a3, nb4_b3, nb4_b2, nb4_b1]
    repeat refine And.intro (by omega) ?_
    intro g
    simp only [List.map_cons, List.map_nil, updL, upd, Nat.reduceEqDiff, if_true, if_false, ↓reduceIte]
    refine hK _ _ ?_; clear hK K
    refine Cd.rs [1, 2, 3, 6, 7, 10, 11, 14] fun K hK => ?_
    simp (maxSteps := 2000000) (disch := first | (simp only [E4, hl, hm, en, xl, ol, a1, a2, a3] <;> omega) | omega | fail) only [↓E2, E3, bare, bareJ, ↓E0, E1, evP, env0, envN, evOps, evOp, evQs, evQ, evV, setD, pureOp, ev, upd, updL, binW, eqOp, binV, intOp, shOp, boolOp, fieldAddrV, cellAt, cellsAt, findB, setB, fillL, buildV, Value.cells, hav, eqL, SameI, strOp, ↓reduceIte, Zj, Zk, Nat.reduceAdd, Nat.reduceLT, Nat.reduceEqDiff, Nat.reduceMul, Nat.reduceLeDiff, if_true, Zn, reduceCtorEq, ZA, eq_self, Int.reduceLE, Int.reduceLT, Int.reduceToNat, ne_eq, Nat.reduceSub, Tbld32, Tfld32_0, Tld2, Tst32, Tzero32, hl, hm, en, xl, ol, nb2_b1, nb3_b2, nb3_b1, a1, a2, a3, nb4_b3, nb4_b2, nb4_b1]
    repeat refine And.intro (by omega) ?_
    intro b5 hb5
    have nb5_b4 := hb5.ne
    have nb5_b3 := hb5.tail.ne
    have nb5_b2 := hb5.tail.tail.ne
    have nb5_b1 := hb5.tail.tail.tail.ne
    try simp (maxSteps := 2000000) (disch := first | (simp only [E4, hl, hm, en, xl, ol, a1, a2, a3] <;> omega) | omega | fail) only [↓E2, E3, bare, bareJ, ↓E0, E1, evP, env0, envN, evOps, evOp, evQs, evQ, evV, setD, pureOp, ev, upd, updL, binW, eqOp, binV, intOp, shOp, boolOp, fieldAddrV, cellAt, cellsAt, findB, setB, fillL, buildV, Value.cells, hav, eqL, SameI, strOp, ↓reduceIte, Zj, Zk, Nat.reduceAdd, Nat.reduceLT, Nat.reduceEqDiff, Nat.reduceMul, Nat.reduceLeDiff, if_true, Zn, reduceCtorEq, ZA, eq_self, Int.reduceLE, Int.reduceLT, Int.reduceToNat, ne_eq, Nat.reduceSub, Tbld32, Tfld32_0, Tld2, Tst32, Tzero32, hl, hm, en, xl, ol, nb2_b1, nb3_b2, nb3_b1, a1, a2, a3, nb4_b3, nb4_b2, nb4_b1, nb5_b4, nb5_b3, nb5_b2, nb5_b1]
    repeat refine And.intro (by omega) ?_
    intro g
    simp only [List.map_cons, List.map_nil, updL, upd, Nat.reduceEqDiff, if_true, if_false, ↓reduceIte]
    refine hK _ _ ?_; clear hK K
    refine Cd.seq ?_
    refine Cd.rs [1, 2, 3, 6, 7, 10, 11, 14, 31, 32] fun K hK => ?_
    simp (maxSteps := 2000000) (disch := first | (simp only [E4, hl, hm, en, xl, ol, a1, a2, a3] <;> omega) | omega | fail) only [↓E2, E3, bare, bareJ, ↓E0, E1, env0, envN, evOps, evOp, evQs, evQ, evV, setD, pureOp, ev, upd, updL, cellAt, cellsAt, findB, setB, hav, ↓reduceIte, Zj, Zk, Nat.reduceAdd, Nat.reduceLT, Nat.reduceEqDiff, Nat.reduceMul, Nat.reduceLeDiff, if_true, Zn, reduceCtorEq, ZA, eq_self, Int.reduceLE, Int.reduceLT, Int.reduceToNat, ne_eq, Nat.reduceSub, Tld32, hl, hm, en, xl, ol, nb2_b1, nb3_b2, nb3_b1, a1, a2, a3, nb4_b3, nb4_b2, nb4_b1, nb5_b4, nb5_b3, nb5_b2, nb5_b1]
    refine callK_gives (n_c _ _ _ hl hm) ?_
    simp (maxSteps := 2000000) (disch := first | (simp only [E4, hl, hm, en, xl, ol, a1, a2, a3] <;> omega) | omega | fail) only [↓E2, E3, bare, bareJ, ↓E0, E1, env0, envN, evOps, evOp, evQs, evQ, evV, setD, pureOp, ev, upd, updL, cellAt, cellsAt, findB, setB, hav, ↓reduceIte, Zj, Zk, Nat.reduceAdd, Nat.reduceLT, Nat.reduceEqDiff, Nat.reduceMul, Nat.reduceLeDiff, if_true, Zn, reduceCtorEq, ZA, eq_self, Int.reduceLE, Int.reduceLT, Int.reduceToNat, ne_eq, Nat.reduceSub, Tld32, hl, hm, en, xl, ol, nb2_b1, nb3_b2, nb3_b1, a1, a2, a3, nb4_b3, nb4_b2, nb4_b1, nb5_b4, nb5_b3, nb5_b2, nb5_b1]
    repeat refine And.intro (by omega) ?_
    intro g
    simp only [List.map_cons, List.map_nil, updL, upd, Nat.reduceEqDiff, if_true, if_false, ↓reduceIte]
    refine hK _ _ ?_; clear hK K
    refine Cd.block ?_
    refine Cd.loop (fun m ρ M => ∃ g c, c + m = n ∧ ρ = updL ([(1, .int .i64 (i : Int)), (2, .int .i64 r), (3, .pointer (some ⟨b1, 0, none⟩)), (6, .pointer (some ⟨b2, 0, none⟩)), (7, .pointer (some ⟨b3, 0, none⟩)), (10, .pointer (some ⟨b4, 0, none⟩)), (11, .pointer (some ⟨b5, 0, none⟩)), (14, .int .i64 (k : Int)), (31, .int .i64 (n : Int)), (32, .int .i64 (c : Int))]) g ∧ M = [(b5, gc ((n - 1 : Nat) : Int) (tab (shrK x i (k / 2 % 2) r c)) (tab (shrK o i (k / 2 % 2) r c))), (b4, [.int .i64 (i : Int), .int .i64 ((k % 2 : Nat) : Int), .int .i64 ((k / 2 % 2 : Nat) : Int), .int .i64 ((k / 4 : Nat) : Int)]), (b3, [.int .i64 0, .int .i64 0, .int .i64 0, .int .i64 0]), (b2, gc 0 z8 z8), (b1, gc (n : Int) x o)]) n ⟨_, 0, Nat.zero_add _, rfl, by rw [shrK_zero, shrK_zero]⟩ ?_
    rintro m' ρ M ⟨g, c, hc, rfl, rfl⟩
    refine Cd.rs [1, 2, 3, 6, 7, 10, 11, 14, 31, 32, 33] fun K hK => ?_
    simp (maxSteps := 2000000) (disch := first | (simp only [E4, hl, hm, en, xl, ol, a1, a2, a3] <;> omega) | omega | fail) only [↓E2, E3, bare, bareJ, ↓E0, E1, env0, envN, evOps, evOp, evQs, evQ, evV, setD, pureOp, ev, upd, updL, binW, eqOp, binV, intOp, shOp, boolOp, hav, eqL, SameI, strOp, ↓reduceIte, Zj, Zk, Nat.reduceAdd, Nat.reduceLT, Nat.reduceEqDiff, Nat.reduceMul, Nat.reduceLeDiff, if_true, Zn, reduceCtorEq, ZA, eq_self, Int.reduceLE, Int.reduceLT, Int.reduceToNat, ne_eq, Nat.reduceSub, hl, hm, en, xl, ol, nb2_b1, nb3_b2, nb3_b1, a1, a2, a3, nb4_b3, nb4_b2, nb4_b1, nb5_b4, nb5_b3, nb5_b2, nb5_b1]
    repeat refine And.intro (by omega) ?_
    intro g
    simp only [List.map_cons, List.map_nil, updL, upd, Nat.reduceEqDiff, if_true, if_false, ↓reduceIte]
    refine hK _ _ ?_; clear hK K
    refine Cd.seq ?_
    refine Cd.condd rfl (fun h2 => ?_) (fun h2 => ?_)
    · have ck := bytes_get hx (i := c) (by omega)
      have dk := bytes_get ho (i := c) (by omega)
      have pk := px.1 c (by omega)
      have qk := po.1 c (by omega)
      have hcs : colS i c ≤ 7 := by unfold colS; split <;> omega
      have s1 := fun v : Int => set_get (l := (tab (shrK x i (k / 2 % 2) r c))) (i := colS i c) (v := v) (by rw [tab_len]; omega)
      have s2 := fun v : Int => set_get (l := (tab (shrK o i (k / 2 % 2) r c))) (i := colS i c) (v := v) (by rw [tab_len]; omega)
      have s3 := fun (l : List Int) (j : Nat) (v w : Int) => set_set (l := l) (i := j) (v := v) (w := w)
      skip
      refine Cd.skip ?_
      refine thenN ?_
      refine Cd.midq (fun ρ M => ∃ g, ρ = updL ([(1, .int .i64 (i : Int)), (2, .int .i64 r), (3, .pointer (some ⟨b1, 0, none⟩)), (6, .pointer (some ⟨b2, 0, none⟩)), (7, .pointer (some ⟨b3, 0, none⟩)), (10, .pointer (some ⟨b4, 0, none⟩)), (11, .pointer (some ⟨b5, 0, none⟩)), (14, .int .i64 (k : Int)), (31, .int .i64 (n : Int)), (32, .int .i64 (c : Int))]) g ∧ M = [(b5, gc ((n - 1 : Nat) : Int) (tab (shrK x i (k / 2 % 2) r (c + 1))) (tab (shrK o i (k / 2 % 2) r (c + 1)))), (b4, [.int .i64 (i : Int), .int .i64 ((k % 2 : Nat) : Int), .int .i64 ((k / 2 % 2 : Nat) : Int), .int .i64 ((k / 4 : Nat) : Int)]), (b3, [.int .i64 0, .int .i64 0, .int .i64 0, .int .i64 0]), (b2, gc 0 z8 z8), (b1, gc (n : Int) x o)]) ?_ ?_
      · refine Cd.block ?_
        refine Cd.rs [1, 2, 3, 6, 7, 10, 11, 12, 14, 31, 32] fun K hK => ?_
        simp (maxSteps := 2000000) (disch := first | (simp only [E4, hl, hm, en, xl, ol, a1, a2, a3, s1, s2, s3] <;> omega) | omega | fail) only [↓E2, E3, bare, bareJ, ↓E0, E1, env0, envN, evOps, evOp, evQs, evQ, evV, setD, pureOp, ev, upd, updL, hav, ↓reduceIte, Zj, Zk, Nat.reduceAdd, Nat.reduceLT, Nat.reduceEqDiff, Nat.reduceMul, Nat.reduceLeDiff, if_true, Zn, reduceCtorEq, ZA, eq_self, Int.reduceLE, Int.reduceLT, Int.reduceToNat, ne_eq, Nat.reduceSub, hl, hm, en, xl, ol, nb2_b1, nb3_b2, nb3_b1, a1, a2, a3, nb4_b3, nb4_b2, nb4_b1, nb5_b4, nb5_b3, nb5_b2, nb5_b1, s1, s2, s3]
        repeat refine And.intro (by omega) ?_
        intro g
        simp only [List.map_cons, List.map_nil, updL, upd, Nat.reduceEqDiff, if_true, if_false, ↓reduceIte]
        refine hK _ _ ?_; clear hK K
        refine Cd.seq ?_
        refine Cd.rs [1, 2, 3, 6, 7, 10, 11, 12, 14, 31, 32, 41] fun K hK => ?_
        simp (maxSteps := 2000000) (disch := first | (simp only [E4, hl, hm, en, xl, ol, a1, a2, a3, s1, s2, s3] <;> omega) | omega | fail) only [↓E2, E3, bare, bareJ, ↓E0, E1, env0, envN, evOps, evOp, evQs, evQ, evV, setD, pureOp, ev, upd, updL, binW, eqOp, binV, intOp, shOp, boolOp, fieldAddrV, cellAt, cellsAt, findB, hav, eqL, SameI, strOp, ↓reduceIte, Zj, Zk, Nat.reduceAdd, Nat.reduceLT, Nat.reduceEqDiff, Nat.reduceMul, Nat.reduceLeDiff, if_true, Zn, reduceCtorEq, ZA, eq_self, Int.reduceLE, Int.reduceLT, Int.reduceToNat, ne_eq, Nat.reduceSub, Tfld87_2, Tld3, hl, hm, en, xl, ol, nb2_b1, nb3_b2, nb3_b1, a1, a2, a3, nb4_b3, nb4_b2, nb4_b1, nb5_b4, nb5_b3, nb5_b2, nb5_b1, s1, s2, s3]
        repeat refine And.intro (by omega) ?_
        intro g
        simp only [List.map_cons, List.map_nil, updL, upd, Nat.reduceEqDiff, if_true, if_false, ↓reduceIte]
        refine hK _ _ ?_; clear hK K
        refine Cd.cond rfl (fun h3 => ?_) (fun h3 => ?_)
        · simp only [decide_eq_true_eq, decide_eq_false_iff_not, beq_iff_eq, beq_eq_false_iff_ne, bne_iff_ne, bne_eq_false_iff_eq, Bool.and_eq_true, Bool.or_eq_true, Bool.or_eq_false_iff, Bool.not_eq_true', Bool.not_eq_false', Bool.and_eq_false_imp, ne_eq, gt_iff_lt, ge_iff_le, Int.not_lt, Int.not_le, Classical.not_not] at h3
          rw [shrK_same (show c = i + 1 - k / 2 % 2 by omega) (by omega), shrK_same (show c = i + 1 - k / 2 % 2 by omega) (by omega)]
          refine Cd.exit (thenX (inBX ?_))
          exact midN ⟨_, (norm_of (by repeat (first | exact trivial | refine And.intro rfl ?_))), rfl⟩
        · simp only [decide_eq_true_eq, decide_eq_false_iff_not, beq_iff_eq, beq_eq_false_iff_ne, bne_iff_ne, bne_eq_false_iff_eq, Bool.and_eq_true, Bool.or_eq_true, Bool.or_eq_false_iff, Bool.not_eq_true', Bool.not_eq_false', Bool.and_eq_false_imp, ne_eq, gt_iff_lt, ge_iff_le, Int.not_lt, Int.not_le, Classical.not_not] at h3
          have h3 : c ≠ i + 1 - k / 2 % 2 := by omega
          refine Cd.skip ?_
          refine thenN ?_
          refine Cd.rs [1, 2, 3, 6, 7, 10, 11, 12, 13, 14, 31, 32] fun K hK => ?_
          simp (maxSteps := 2000000) (disch := first | (simp only [E4, hl, hm, en, xl, ol, a1, a2, a3, s1, s2, s3] <;> omega) | omega | fail) only [↓E2, E3, bare, bareJ, ↓E0, E1, env0, envN, evOps, evOp, evQs, evQ, evV, setD, pureOp, ev, upd, updL, hav, ↓reduceIte, Zj, Zk, Nat.reduceAdd, Nat.reduceLT, Nat.reduceEqDiff, Nat.reduceMul, Nat.reduceLeDiff, if_true, Zn, reduceCtorEq, ZA, eq_self, Int.reduceLE, Int.reduceLT, Int.reduceToNat, ne_eq, Nat.reduceSub, hl, hm, en, xl, ol, nb2_b1, nb3_b2, nb3_b1, a1, a2, a3, nb4_b3, nb4_b2, nb4_b1, nb5_b4, nb5_b3, nb5_b2, nb5_b1, s1, s2, s3]
          repeat refine And.intro (by omega) ?_
          intro g
          simp only [List.map_cons, List.map_nil, updL, upd, Nat.reduceEqDiff, if_true, if_false, ↓reduceIte]
          refine hK _ _ ?_; clear hK K
          refine Cd.midq (fun ρ M => ∃ g, ρ = updL ([(1, .int .i64 (i : Int)), (2, .int .i64 r), (3, .pointer (some ⟨b1, 0, none⟩)), (6, .pointer (some ⟨b2, 0, none⟩)), (7, .pointer (some ⟨b3, 0, none⟩)), (10, .pointer (some ⟨b4, 0, none⟩)), (11, .pointer (some ⟨b5, 0, none⟩)), (12, .int .i64 (c : Int)), (13, .int .i64 (colS i c : Int)), (14, .int .i64 (k : Int)), (31, .int .i64 (n : Int)), (32, .int .i64 (c : Int))]) g ∧ M = [(b5, gc ((n - 1 : Nat) : Int) (tab (shrK x i (k / 2 % 2) r c)) (tab (shrK o i (k / 2 % 2) r c))), (b4, [.int .i64 (i : Int), .int .i64 ((k % 2 : Nat) : Int), .int .i64 ((k / 2 % 2 : Nat) : Int), .int .i64 ((k / 4 : Nat) : Int)]), (b3, [.int .i64 0, .int .i64 0, .int .i64 0, .int .i64 0]), (b2, gc 0 z8 z8), (b1, gc (n : Int) x o)]) ?_ ?_
          · refine Cd.rs [1, 2, 3, 6, 7, 10, 11, 12, 13, 14, 31, 32, 45] fun K hK => ?_
            simp (maxSteps := 2000000) (disch := first | (simp only [E4, hl, hm, en, xl, ol, a1, a2, a3, s1, s2, s3] <;> omega) | omega | fail) only [↓E2, E3, bare, bareJ, ↓E0, E1, env0, envN, evOps, evOp, evQs, evQ, evV, setD, pureOp, ev, upd, updL, binW, eqOp, binV, intOp, shOp, boolOp, hav, eqL, SameI, strOp, ↓reduceIte, Zj, Zk, Nat.reduceAdd, Nat.reduceLT, Nat.reduceEqDiff, Nat.reduceMul, Nat.reduceLeDiff, if_true, Zn, reduceCtorEq, ZA, eq_self, Int.reduceLE, Int.reduceLT, Int.reduceToNat, ne_eq, Nat.reduceSub, hl, hm, en, xl, ol, nb2_b1, nb3_b2, nb3_b1, a1, a2, a3, nb4_b3, nb4_b2, nb4_b1, nb5_b4, nb5_b3, nb5_b2, nb5_b1, s1, s2, s3]
            repeat refine And.intro (by omega) ?_
            intro g
            simp only [List.map_cons, List.map_nil, updL, upd, Nat.reduceEqDiff, if_true, if_false, ↓reduceIte]
            refine hK _ _ ?_; clear hK K
            refine Cd.condd rfl (fun h4 => ?_) (fun h4 => ?_)
            · refine Cd.rr [1, 2, 3, 6, 7, 10, 11, 12, 13, 14, 31, 32] fun K hK => ?_
              simp (maxSteps := 2000000) (disch := first | (simp only [E4, hl, hm, en, xl, ol, a1, a2, a3, s1, s2, s3] <;> omega) | omega | fail) only [↓E2, E3, bare, bareJ, ↓E0, E1, env0, envN, evOps, evOp, evQs, evQ, evV, setD, pureOp, ev, upd, updL, binW, eqOp, binV, intOp, shOp, boolOp, hav, eqL, SameI, strOp, ↓reduceIte, Zj, Zk, Nat.reduceAdd, Nat.reduceLT, Nat.reduceEqDiff, Nat.reduceMul, Nat.reduceLeDiff, if_true, Zn, reduceCtorEq, ZA, eq_self, Int.reduceLE, Int.reduceLT, Int.reduceToNat, ne_eq, Nat.reduceSub, hl, hm, en, xl, ol, nb2_b1, nb3_b2, nb3_b1, a1, a2, a3, nb4_b3, nb4_b2, nb4_b1, nb5_b4, nb5_b3, nb5_b2, nb5_b1, s1, s2, s3]
              rw [show (c : Int) - 1 = (colS i c : Int) by unfold colS; rw [if_pos (by omega)]; omega]
              repeat refine And.intro (by omega) ?_
              intro g
              simp only [List.map_cons, List.map_nil, updL, upd, Nat.reduceEqDiff, if_true, if_false, ↓reduceIte]
              refine hK _ _ ?_; clear hK K
              exact midN ⟨_, rfl, rfl⟩
            · rw [show colS i c = c by unfold colS; rw [if_neg (by omega)]]
              refine Cd.skip ?_
              exact midN ⟨_, (norm_of (by repeat (first | exact trivial | refine And.intro rfl ?_))), rfl⟩
          · rintro ρ M ⟨g, rfl, rfl⟩
            refine Cd.ps [1, 2, 3, 6, 7, 10, 11, 12, 13, 14, 31, 32] (Plan.take 0 (Plan.take 1 (Plan.take 2 (Plan.take 3 (Plan.take 4 (Plan.take 5 (Plan.take 6 (Plan.take 7 (Plan.take 8 (Plan.take 10 (Plan.take 11 (Plan.take 13 (Plan.more 9 (Plan.one 12 (Plan.take 14 (Plan.one 15 (Plan.done)))) (Plan.one 12 (Plan.take 9 (Plan.take 14 (Plan.one 15 (Plan.done)))))))))))))))))) fol (by kernel_rfl) (Nat.le_of_ble_eq_true rfl) fun K hK => ?_
            simp (maxSteps := 2000000) (disch := first | (simp only [E4, hl, hm, en, xl, ol, a1, a2, a3, s1, s2, s3] <;> omega) | omega | fail) only [↓E2, E3, bare, bareJ, ↓E0, E1, evPlan, env0, envN, evOps, evOp, evQs, evQ, evV, setD, pureOp, ev, upd, updL, fieldAddrV, indexAddrV, cellAt, cellsAt, findB, setB, Value.cells, hav, ↓reduceIte, Zj, Zk, Nat.reduceAdd, Nat.reduceLT, Nat.reduceEqDiff, Nat.reduceMul, Nat.reduceLeDiff, if_true, Zn, reduceCtorEq, ZA, eq_self, Int.reduceLE, Int.reduceLT, Int.reduceToNat, ne_eq, Nat.reduceSub, Tarr30, Tfld32_1, Tfld32_2, Tld5, Tst5, hl, hm, en, xl, ol, nb2_b1, nb3_b2, nb3_b1, a1, a2, a3, nb4_b3, nb4_b2, nb4_b1, nb5_b4, nb5_b3, nb5_b2, nb5_b1, s1, s2, s3]
            repeat refine And.intro (by omega) ?_
            intro g
            simp only [List.map_cons, List.map_nil, updL, upd, Nat.reduceEqDiff, if_true, if_false, ↓reduceIte]
            refine hK _ _ ?_; clear hK K
            refine Cd.midq (fun ρ M => ∃ g, ρ = updL ([(1, .int .i64 (i : Int)), (2, .int .i64 r), (3, .pointer (some ⟨b1, 0, none⟩)), (6, .pointer (some ⟨b2, 0, none⟩)), (7, .pointer (some ⟨b3, 0, none⟩)), (10, .pointer (some ⟨b4, 0, none⟩)), (11, .pointer (some ⟨b5, 0, none⟩)), (12, .int .i64 (c : Int)), (13, .int .i64 (colS i c : Int)), (14, .int .i64 (k : Int)), (31, .int .i64 (n : Int)), (32, .int .i64 (c : Int))]) g ∧ M = [(b5, gc ((n - 1 : Nat) : Int) ((tab (shrK x i (k / 2 % 2) r c)).set (colS i c) (lowF r (x.getD c 0))) ((tab (shrK o i (k / 2 % 2) r c)).set (colS i c) (o.getD c 0))), (b4, [.int .i64 (i : Int), .int .i64 ((k % 2 : Nat) : Int), .int .i64 ((k / 2 % 2 : Nat) : Int), .int .i64 ((k / 4 : Nat) : Int)]), (b3, [.int .i64 0, .int .i64 0, .int .i64 0, .int .i64 0]), (b2, gc 0 z8 z8), (b1, gc (n : Int) x o)]) ?_ ?_
            · refine Cd.rs [1, 2, 3, 6, 7, 10, 11, 12, 13, 14, 31, 32, 68] fun K hK => ?_
              simp (maxSteps := 2000000) (disch := first | (simp only [E4, hl, hm, en, xl, ol, a1, a2, a3, s1, s2, s3] <;> omega) | omega | fail) only [↓E2, E3, bare, bareJ, ↓E0, E1, env0, envN, evOps, evOp, evQs, evQ, evV, setD, pureOp, ev, upd, updL, binW, eqOp, binV, intOp, shOp, boolOp, convV, fieldAddrV, indexAddrV, cellAt, cellsAt, findB, hav, eqL, SameI, strOp, cvtQ, ↓reduceIte, Zj, Zk, Nat.reduceAdd, Nat.reduceLT, Nat.reduceEqDiff, Nat.reduceMul, Nat.reduceLeDiff, if_true, Zn, reduceCtorEq, ZA, eq_self, Int.reduceLE, Int.reduceLT, Int.reduceToNat, ne_eq, Nat.reduceSub, Tarr30, Tfld32_1, Tint3, Tld5, Tpar5, hl, hm, en, xl, ol, nb2_b1, nb3_b2, nb3_b1, a1, a2, a3, nb4_b3, nb4_b2, nb4_b1, nb5_b4, nb5_b3, nb5_b2, nb5_b1, s1, s2, s3]
              repeat refine And.intro (by omega) ?_
              intro g
              simp only [List.map_cons, List.map_nil, updL, upd, Nat.reduceEqDiff, if_true, if_false, ↓reduceIte]
              refine hK _ _ ?_; clear hK K
              refine Cd.condd rfl (fun h5 => ?_) (fun h5 => ?_)
              · rw [show lowF r (x.getD c 0) = x.getD c 0 - 1 from if_pos h5]
                refine Cd.rr [1, 2, 3, 6, 7, 10, 11, 12, 13, 14, 31, 32] fun K hK => ?_
                simp (maxSteps := 2000000) (disch := first | (simp only [E4, hl, hm, en, xl, ol, a1, a2, a3, s1, s2, s3] <;> omega) | omega | fail) only [↓E2, E3, bare, bareJ, ↓E0, E1, env0, envN, evOps, evOp, evQs, evQ, evV, setD, pureOp, ev, upd, updL, binW, eqOp, binV, intOp, shOp, boolOp, fieldAddrV, indexAddrV, cellAt, cellsAt, findB, setB, Value.cells, hav, eqL, SameI, strOp, ↓reduceIte, Zj, Zk, Nat.reduceAdd, Nat.reduceLT, Nat.reduceEqDiff, Nat.reduceMul, Nat.reduceLeDiff, if_true, Zn, reduceCtorEq, ZA, eq_self, Int.reduceLE, Int.reduceLT, Int.reduceToNat, ne_eq, Nat.reduceSub, Tarr30, Tfld32_1, Tld5, Tst5, hl, hm, en, xl, ol, nb2_b1, nb3_b2, nb3_b1, a1, a2, a3, nb4_b3, nb4_b2, nb4_b1, nb5_b4, nb5_b3, nb5_b2, nb5_b1, s1, s2, s3]
                repeat refine And.intro (by omega) ?_
                intro g
                simp only [List.map_cons, List.map_nil, updL, upd, Nat.reduceEqDiff, if_true, if_false, ↓reduceIte]
                refine hK _ _ ?_; clear hK K
                exact midN ⟨_, rfl, rfl⟩
              · rw [show lowF r (x.getD c 0) = x.getD c 0 from if_neg h5]
                refine Cd.skip ?_
                exact midN ⟨_, (norm_of (by repeat (first | exact trivial | refine And.intro rfl ?_))), rfl⟩
            · rintro ρ M ⟨g, rfl, rfl⟩
              rw [← shrK_set (l := x) h3 (by omega) rfl, ← shrK_set (l := o) h3 (by omega) rfl]
              refine Cd.rs [1, 2, 3, 6, 7, 10, 11, 13, 14, 31, 32, 82] fun K hK => ?_
              simp (maxSteps := 2000000) (disch := first | (simp only [E4, hl, hm, en, xl, ol, a1, a2, a3, s1, s2, s3] <;> omega) | omega | fail) only [↓E2, E3, bare, bareJ, ↓E0, E1, env0, envN, evOps, evOp, evQs, evQ, evV, setD, pureOp, ev, upd, updL, binW, eqOp, binV, intOp, shOp, boolOp, convV, fieldAddrV, indexAddrV, cellAt, cellsAt, findB, hav, eqL, SameI, strOp, cvtQ, ↓reduceIte, Zj, Zk, Nat.reduceAdd, Nat.reduceLT, Nat.reduceEqDiff, Nat.reduceMul, Nat.reduceLeDiff, if_true, Zn, reduceCtorEq, ZA, eq_self, Int.reduceLE, Int.reduceLT, Int.reduceToNat, ne_eq, Nat.reduceSub, Tarr30, Tfld32_2, Tint3, Tld5, Tpar5, hl, hm, en, xl, ol, nb2_b1, nb3_b2, nb3_b1, a1, a2, a3, nb4_b3, nb4_b2, nb4_b1, nb5_b4, nb5_b3, nb5_b2, nb5_b1, s1, s2, s3]
              repeat refine And.intro (by omega) ?_
              intro g
              simp only [List.map_cons, List.map_nil, updL, upd, Nat.reduceEqDiff, if_true, if_false, ↓reduceIte]
              refine hK _ _ ?_; clear hK K
              refine Cd.condd rfl (fun h6 => ?_) (fun h6 => ?_)
              · rw [show lowF r (o.getD c 0) = o.getD c 0 - 1 from if_pos h6]
                refine Cd.rr [1, 2, 3, 6, 7, 10, 11, 14, 31, 32] fun K hK => ?_
                simp (maxSteps := 2000000) (disch := first | (simp only [E4, hl, hm, en, xl, ol, a1, a2, a3, s1, s2, s3] <;> omega) | omega | fail) only [↓E2, E3, bare, bareJ, ↓E0, E1, env0, envN, evOps, evOp, evQs, evQ, evV, setD, pureOp, ev, upd, updL, binW, eqOp, binV, intOp, shOp, boolOp, fieldAddrV, indexAddrV, cellAt, cellsAt, findB, setB, Value.cells, hav, eqL, SameI, strOp, ↓reduceIte, Zj, Zk, Nat.reduceAdd, Nat.reduceLT, Nat.reduceEqDiff, Nat.reduceMul, Nat.reduceLeDiff, if_true, Zn, reduceCtorEq, ZA, eq_self, Int.reduceLE, Int.reduceLT, Int.reduceToNat, ne_eq, Nat.reduceSub, Tarr30, Tfld32_2, Tld5, Tst5, hl, hm, en, xl, ol, nb2_b1, nb3_b2, nb3_b1, a1, a2, a3, nb4_b3, nb4_b2, nb4_b1, nb5_b4, nb5_b3, nb5_b2, nb5_b1, s1, s2, s3]
                repeat refine And.intro (by omega) ?_
                intro g
                simp only [List.map_cons, List.map_nil, updL, upd, Nat.reduceEqDiff, if_true, if_false, ↓reduceIte]
                refine hK _ _ ?_; clear hK K
                refine inBN ?_
                exact midN ⟨_, rfl, rfl⟩
              · rw [show lowF r (o.getD c 0) = o.getD c 0 from if_neg h6]
                refine Cd.skip ?_
                refine inBN ?_
                exact midN ⟨_, (norm_of (by repeat (first | exact trivial | refine And.intro rfl ?_))), rfl⟩
      · rintro ρ M ⟨g, rfl, rfl⟩
        refine Cd.rr [1, 2, 3, 6, 7, 10, 11, 14, 31, 32] fun K hK => ?_
        simp (maxSteps := 2000000) (disch := first | (simp only [E4, hl, hm, en, xl, ol, a1, a2, a3, s1, s2, s3] <;> omega) | omega | fail) only [↓E2, E3, bare, bareJ, ↓E0, E1, env0, envN, evOps, evOp, evQs, evQ, evV, setD, pureOp, ev, upd, updL, binW, eqOp, binV, intOp, shOp, boolOp, hav, eqL, SameI, strOp, ↓reduceIte, Zj, Zk, Nat.reduceAdd, Nat.reduceLT, Nat.reduceEqDiff, Nat.reduceMul, Nat.reduceLeDiff, if_true, Zn, reduceCtorEq, ZA, eq_self, Int.reduceLE, Int.reduceLT, Int.reduceToNat, ne_eq, Nat.reduceSub, hl, hm, en, xl, ol, nb2_b1, nb3_b2, nb3_b1, a1, a2, a3, nb4_b3, nb4_b2, nb4_b1, nb5_b4, nb5_b3, nb5_b2, nb5_b1, s1, s2, s3]
        repeat refine And.intro (by omega) ?_
        intro g
        simp only [List.map_cons, List.map_nil, updL, upd, Nat.reduceEqDiff, if_true, if_false, ↓reduceIte]
        refine hK _ _ ?_; clear hK K
        refine roundN (m := m' - 1) (by omega) ⟨_, c + 1, by omega, rfl, rfl⟩
    · refine Cd.exit (thenX (roundX (inBX ?_)))
      refine thenN ?_
      obtain rfl : c = n := by omega
      rw [show tab (shrK x i (k / 2 % 2) r c) = oldX x i r c k from rfl, show tab (shrK o i (k / 2 % 2) r c) = oldX o i r c k from rfl]
      have bx := old_bytes hx hn (i := i) (k := k) hr0 hi
      have bo := old_bytes ho hn (i := i) (k := k) hr0 hi
      have gbx := bytes_get bx (i := i) (by omega)
      have gbo := bytes_get bo (i := i) (by omega)
      rcases Nat.mod_two_eq_zero_or_one k with h4 | h4
      · have hB := bk_even hl hm hn px po h0 h0' hd hi hr0 hr (k := k) (by omega) h4
        have hmk : ((k % 2 : Nat) : Int) = 0 := by omega
        have tl := fun f : Nat → Int => tab_len f
        skip
        rw [hmk]
        refine Cd.qs [1, 2, 3, 6, 7, 10, 11, 14, 111] fol (by kernel_rfl) fun K hK => ?_
        simp (maxSteps := 2000000) (disch := first | (simp only [E4, hl, hm, en, xl, ol, a1, a2, a3, tl] <;> omega) | omega | fail) only [↓E2, E3, bare, bareJ, ↓E0, E1, evPlan, env0, envN, evOps, evOp, evQs, evQ, evV, setD, pureOp, ev, upd, updL, gate, binW, eqOp, binV, intOp, shOp, boolOp, convV, nilV, fieldAddrV, indexAddrV, cellAt, cellsAt, findB, setB, hav, eqL, SameI, strOp, cvtQ, ↓reduceIte, Zj, Zk, Nat.reduceAdd, Nat.reduceLT, Nat.reduceEqDiff, Nat.reduceMul, Nat.reduceLeDiff, if_true, Zn, reduceCtorEq, ZA, eq_self, Int.reduceLE, Int.reduceLT, Int.reduceToNat, ne_eq, Nat.reduceSub, Tarr30, Teqt32, Tfld87_1, Tint3, Tld3, Tld32, Tld5, Tld87, Tpar5, hl, hm, en, xl, ol, nb2_b1, nb3_b2, nb3_b1, a1, a2, a3, nb4_b3, nb4_b2, nb4_b1, nb5_b4, nb5_b3, nb5_b2, nb5_b1, tl]
        refine callQ_gives (IsGrid_c _ _ _ bx bo) ?_
        simp (maxSteps := 2000000) (disch := first | (simp only [E4, hl, hm, en, xl, ol, a1, a2, a3, tl] <;> omega) | omega | fail) only [↓E2, E3, bare, bareJ, ↓E0, E1, evPlan, env0, envN, evOps, evOp, evQs, evQ, evV, setD, pureOp, ev, upd, updL, gate, binW, eqOp, binV, intOp, shOp, boolOp, convV, nilV, fieldAddrV, indexAddrV, cellAt, cellsAt, findB, setB, hav, eqL, SameI, strOp, cvtQ, ↓reduceIte, Zj, Zk, Nat.reduceAdd, Nat.reduceLT, Nat.reduceEqDiff, Nat.reduceMul, Nat.reduceLeDiff, if_true, Zn, reduceCtorEq, ZA, eq_self, Int.reduceLE, Int.reduceLT, Int.reduceToNat, ne_eq, Nat.reduceSub, Tarr30, Teqt32, Tfld87_1, Tint3, Tld3, Tld32, Tld5, Tld87, Tpar5, hl, hm, en, xl, ol, nb2_b1, nb3_b2, nb3_b1, a1, a2, a3, nb4_b3, nb4_b2, nb4_b1, nb5_b4, nb5_b3, nb5_b2, nb5_b1, tl]
        apply guardY_and 10 [94, 95, 96, 97, 98, 99, 100, 101, 102, 103] (j := 2) (d := 93) (tp := 104) (tl := 103) rfl rfl rfl rfl rfl
        · intro hq
          simp (maxSteps := 2000000) (disch := first | (simp only [E4, hl, hm, en, xl, ol, a1, a2, a3, tl] <;> omega) | omega | fail) only [↓E2, E3, bare, bareJ, ↓E0, E1, evPlan, env0, envN, evOps, evOp, evQs, evQ, evV, setD, pureOp, ev, upd, updL, gate, binW, eqOp, binV, intOp, shOp, boolOp, convV, nilV, fieldAddrV, indexAddrV, cellAt, cellsAt, findB, setB, hav, eqL, SameI, strOp, cvtQ, ↓reduceIte, Zj, Zk, Nat.reduceAdd, Nat.reduceLT, Nat.reduceEqDiff, Nat.reduceMul, Nat.reduceLeDiff, if_true, Zn, reduceCtorEq, ZA, eq_self, Int.reduceLE, Int.reduceLT, Int.reduceToNat, ne_eq, Nat.reduceSub, Tarr30, Teqt32, Tfld87_1, Tint3, Tld3, Tld32, Tld5, Tld87, Tpar5, hl, hm, en, xl, ol, nb2_b1, nb3_b2, nb3_b1, a1, a2, a3, nb4_b3, nb4_b2, nb4_b1, nb5_b4, nb5_b3, nb5_b2, nb5_b1, tl]
          refine callQ_gives (rows0_c _ _) ?_
          simp (maxSteps := 2000000) (disch := first | (simp only [E4, hl, hm, en, xl, ol, a1, a2, a3, tl] <;> omega) | omega | fail) only [↓E2, E3, bare, bareJ, ↓E0, E1, evPlan, env0, envN, evOps, evOp, evQs, evQ, evV, setD, pureOp, ev, upd, updL, gate, binW, eqOp, binV, intOp, shOp, boolOp, convV, nilV, fieldAddrV, indexAddrV, cellAt, cellsAt, findB, setB, hav, eqL, SameI, strOp, cvtQ, ↓reduceIte, Zj, Zk, Nat.reduceAdd, Nat.reduceLT, Nat.reduceEqDiff, Nat.reduceMul, Nat.reduceLeDiff, if_true, Zn, reduceCtorEq, ZA, eq_self, Int.reduceLE, Int.reduceLT, Int.reduceToNat, ne_eq, Nat.reduceSub, Tarr30, Teqt32, Tfld87_1, Tint3, Tld3, Tld32, Tld5, Tld87, Tpar5, hl, hm, en, xl, ol, nb2_b1, nb3_b2, nb3_b1, a1, a2, a3, nb4_b3, nb4_b2, nb4_b1, nb5_b4, nb5_b3, nb5_b2, nb5_b1, tl]
          repeat refine And.intro (by omega) ?_
          exact rfl
        intro g
        simp (maxSteps := 2000000) (disch := first | (simp only [E4, hl, hm, en, xl, ol, a1, a2, a3, tl] <;> omega) | omega | fail) only [↓E2, E3, bare, bareJ, ↓E0, E1, evPlan, env0, envN, evOps, evOp, evQs, evQ, evV, setD, pureOp, ev, upd, updL, gate, binW, eqOp, binV, intOp, shOp, boolOp, convV, nilV, fieldAddrV, indexAddrV, cellAt, cellsAt, findB, setB, hav, eqL, SameI, strOp, cvtQ, ↓reduceIte, Zj, Zk, Nat.reduceAdd, Nat.reduceLT, Nat.reduceEqDiff, Nat.reduceMul, Nat.reduceLeDiff, if_true, Zn, reduceCtorEq, ZA, eq_self, Int.reduceLE, Int.reduceLT, Int.reduceToNat, ne_eq, Nat.reduceSub, Tarr30, Teqt32, Tfld87_1, Tint3, Tld3, Tld32, Tld5, Tld87, Tpar5, hl, hm, en, xl, ol, nb2_b1, nb3_b2, nb3_b1, a1, a2, a3, nb4_b3, nb4_b2, nb4_b1, nb5_b4, nb5_b3, nb5_b2, nb5_b1, tl]
        apply guardY_and 5 [106, 107, 108, 109, 110] (j := 14) (d := 105) (tp := 111) (tl := 110) rfl rfl rfl rfl rfl
        · intro hq
          have hg : gridB ((c - 1 : Nat) : Int) (oldX x i r c k) (oldX o i r c k) = true := by
            simp only [decide_eq_true_eq, decide_eq_false_iff_not, beq_iff_eq, beq_eq_false_iff_ne, bne_iff_ne, bne_eq_false_iff_eq, Bool.and_eq_true, Bool.or_eq_true, Bool.or_eq_false_iff, Bool.not_eq_true', Bool.not_eq_false', Bool.and_eq_false_imp, ne_eq, gt_iff_lt, ge_iff_le, Int.not_lt, Int.not_le, Classical.not_not] at hq
            exact hq.1
          obtain ⟨n', hn1, hn2, hn3, px', po'⟩ := gridB_perm hg
          obtain rfl : n' = c - 1 := by omega
          simp (maxSteps := 2000000) (disch := first | (simp only [E4, hl, hm, en, xl, ol, a1, a2, a3, tl] <;> omega) | omega | fail) only [↓E2, E3, bare, bareJ, ↓E0, E1, evPlan, env0, envN, evOps, evOp, evQs, evQ, evV, setD, pureOp, ev, upd, updL, gate, binW, eqOp, binV, intOp, shOp, boolOp, convV, nilV, fieldAddrV, indexAddrV, cellAt, cellsAt, findB, setB, hav, eqL, SameI, strOp, cvtQ, ↓reduceIte, Zj, Zk, Nat.reduceAdd, Nat.reduceLT, Nat.reduceEqDiff, Nat.reduceMul, Nat.reduceLeDiff, if_true, Zn, reduceCtorEq, ZA, eq_self, Int.reduceLE, Int.reduceLT, Int.reduceToNat, ne_eq, Nat.reduceSub, Tarr30, Teqt32, Tfld87_1, Tint3, Tld3, Tld32, Tld5, Tld87, Tpar5, hl, hm, en, xl, ol, nb2_b1, nb3_b2, nb3_b1, a1, a2, a3, nb4_b3, nb4_b2, nb4_b1, nb5_b4, nb5_b3, nb5_b2, nb5_b1, tl]
          refine callQ_gives (grown0_c (c - 1) _ _ bx bo (by omega) px' po' i (k / 2 % 2) (k / 4) (by omega) (by omega) (by omega)) ?_
          simp (maxSteps := 2000000) (disch := first | (simp only [E4, hl, hm, en, xl, ol, a1, a2, a3, tl] <;> omega) | omega | fail) only [↓E2, E3, bare, bareJ, ↓E0, E1, evPlan, env0, envN, evOps, evOp, evQs, evQ, evV, setD, pureOp, ev, upd, updL, gate, binW, eqOp, binV, intOp, shOp, boolOp, convV, nilV, fieldAddrV, indexAddrV, cellAt, cellsAt, findB, setB, hav, eqL, SameI, strOp, cvtQ, ↓reduceIte, Zj, Zk, Nat.reduceAdd, Nat.reduceLT, Nat.reduceEqDiff, Nat.reduceMul, Nat.reduceLeDiff, if_true, Zn, reduceCtorEq, ZA, eq_self, Int.reduceLE, Int.reduceLT, Int.reduceToNat, ne_eq, Nat.reduceSub, Tarr30, Teqt32, Tfld87_1, Tint3, Tld3, Tld32, Tld5, Tld87, Tpar5, hl, hm, en, xl, ol, nb2_b1, nb3_b2, nb3_b1, a1, a2, a3, nb4_b3, nb4_b2, nb4_b1, nb5_b4, nb5_b3, nb5_b2, nb5_b1, tl]
          exact rfl
        intro g
        simp (maxSteps := 2000000) (disch := first | (simp only [E4, hl, hm, en, xl, ol, a1, a2, a3, tl] <;> omega) | omega | fail) only [↓E2, E3, bare, bareJ, ↓E0, E1, evPlan, env0, envN, evOps, evOp, evQs, evQ, evV, setD, pureOp, ev, upd, updL, gate, binW, eqOp, binV, intOp, shOp, boolOp, convV, nilV, fieldAddrV, indexAddrV, cellAt, cellsAt, findB, setB, hav, eqL, SameI, strOp, cvtQ, ↓reduceIte, Zj, Zk, Nat.reduceAdd, Nat.reduceLT, Nat.reduceEqDiff, Nat.reduceMul, Nat.reduceLeDiff, if_true, Zn, reduceCtorEq, ZA, eq_self, Int.reduceLE, Int.reduceLT, Int.reduceToNat, ne_eq, Nat.reduceSub, Tarr30, Teqt32, Tfld87_1, Tint3, Tld3, Tld32, Tld5, Tld87, Tpar5, hl, hm, en, xl, ol, nb2_b1, nb3_b2, nb3_b1, a1, a2, a3, nb4_b3, nb4_b2, nb4_b1, nb5_b4, nb5_b3, nb5_b2, nb5_b1, tl]
        repeat refine And.intro (by omega) ?_
        intro g
        simp only [List.map_cons, List.map_nil, updL, upd, Nat.reduceEqDiff, if_true, if_false, ↓reduceIte]
        refine hK _ ?_; clear hK K
        refine Cd.cond rfl (fun h7 => ?_) (fun h7 => ?_)
        · have h8 : bk x o i r k = true := by rw [← hB]; exact h7
          refine Cd.ps [6, 7, 8] (Plan.take 0 (Plan.more 1 (Plan.one 2 (Plan.one 3 (Plan.take 4 (Plan.done)))) (Plan.one 2 (Plan.take 1 (Plan.one 3 (Plan.take 4 (Plan.done))))))) fol (by kernel_rfl) (Nat.le_of_ble_eq_true rfl) fun K hK => ?_
          simp (maxSteps := 2000000) (disch := first | (simp only [E4, hl, hm, en, xl, ol, a1, a2, a3, tl] <;> omega) | omega | fail) only [↓E2, E3, bare, bareJ, ↓E0, E1, evPlan, env0, envN, evOps, evOp, evQs, evQ, evV, setD, pureOp, ev, upd, updL, cellAt, cellsAt, findB, setB, Value.cells, hav, ↓reduceIte, Zj, Zk, Nat.reduceAdd, Nat.reduceLT, Nat.reduceEqDiff, Nat.reduceMul, Nat.reduceLeDiff, if_true, Zn, reduceCtorEq, ZA, eq_self, Int.reduceLE, Int.reduceLT, Int.reduceToNat, ne_eq, Nat.reduceSub, Tld32, Tld87, Tst32, Tst87, hl, hm, en, xl, ol, nb2_b1, nb3_b2, nb3_b1, a1, a2, a3, nb4_b3, nb4_b2, nb4_b1, nb5_b4, nb5_b3, nb5_b2, nb5_b1, tl]
          repeat refine And.intro (by omega) ?_
          intro g
          simp only [List.map_cons, List.map_nil, updL, upd, Nat.reduceEqDiff, if_true, if_false, ↓reduceIte]
          refine hK _ _ ?_; clear hK K
          refine Cd.ret (inBR (thenR (roundR (inBR (thenR ?_)))))
          simp (maxSteps := 2000000) (disch := first | (simp only [E4, hl, hm, en, xl, ol, a1, a2, a3, tl] <;> omega) | omega | fail) only [↓E2, E3, bare, bareJ, ↓E0, E1, evP, evPlan, env0, envN, evOps, evOp, evQs, evQ, evV, setD, pureOp, ev, upd, updL, gate, binW, eqOp, binV, intOp, shOp, boolOp, unV, convV, nilV, fieldAddrV, indexAddrV, extractV, cellAt, cellsAt, findB, setB, fillL, buildV, Value.cells, lenV, minV, maxV, hav, sliceV, loV, hiV, bslQ, mksQ, appQ, partsOk, partsCells, delB, eqL, SameI, strOp, apzQ, cvtQ, capV, ↓reduceIte, Zj, Zk, Nat.reduceAdd, Nat.reduceLT, Nat.reduceEqDiff, Nat.reduceMul, Nat.reduceLeDiff, if_true, Zn, reduceCtorEq, ZA, eq_self, Int.reduceLE, Int.reduceLT, Int.reduceToNat, ne_eq, Nat.reduceSub, Tld32, Tld87, hl, hm, en, xl, ol, nb2_b1, nb3_b2, nb3_b1, a1, a2, a3, nb4_b3, nb4_b2, nb4_b1, nb5_b4, nb5_b3, nb5_b2, nb5_b1, tl]
          unfold shrR
          rw [bkFind_hit (by omega) h8]
          simp only [hmk]
        · have h8 : bk x o i r k = false := by rw [← hB]; exact h7
          refine Cd.skip ?_
          refine inBN ?_
          refine thenN ?_
          refine Cd.rr [1, 2, 3, 6, 7, 14] fun K hK => ?_
          simp (maxSteps := 2000000) (disch := first | (simp only [E4, hl, hm, en, xl, ol, a1, a2, a3, tl] <;> omega) | omega | fail) only [↓E2, E3, bare, bareJ, ↓E0, E1, env0, envN, evOps, evOp, evQs, evQ, evV, setD, pureOp, ev, upd, updL, binW, eqOp, binV, intOp, shOp, boolOp, hav, eqL, SameI, strOp, ↓reduceIte, Zj, Zk, Nat.reduceAdd, Nat.reduceLT, Nat.reduceEqDiff, Nat.reduceMul, Nat.reduceLeDiff, if_true, Zn, reduceCtorEq, ZA, eq_self, Int.reduceLE, Int.reduceLT, Int.reduceToNat, ne_eq, Nat.reduceSub, hl, hm, en, xl, ol, nb2_b1, nb3_b2, nb3_b1, a1, a2, a3, nb4_b3, nb4_b2, nb4_b1, nb5_b4, nb5_b3, nb5_b2, nb5_b1, tl]
          repeat refine And.intro (by omega) ?_
          intro g
          simp only [List.map_cons, List.map_nil, updL, upd, Nat.reduceEqDiff, if_true, if_false, ↓reduceIte]
          refine hK _ _ ?_; clear hK K
          refine roundN (m := m - 1) (by omega) ⟨_, k + 1, by omega, fun j hj => ?_, rfl, List.sublist_append_right [_, _] _⟩
          rcases Nat.lt_succ_iff_lt_or_eq.1 hj with h9 | rfl
          · exact hno j h9
          · exact h8

      · have hB := bk_odd hl hm hn px po h0 h0' hd hi hr0 hr (k := k) (by omega) h4
        have hmk : ((k % 2 : Nat) : Int) = 1 := by omega
        have tl := fun f : Nat → Int => tab_len f
        skip
        rw [hmk]
        refine Cd.qs [1, 2, 3, 6, 7, 10, 11, 14, 111] fol (by kernel_rfl) fun K hK => ?_
        simp (maxSteps := 2000000) (disch := first | (simp only [E4, hl, hm, en, xl, ol, a1, a2, a3, tl] <;> omega) | omega | fail) only [↓E2, E3, bare, bareJ, ↓E0, E1, evPlan, env0, envN, evOps, evOp, evQs, evQ, evV, setD, pureOp, ev, upd, updL, gate, binW, eqOp, binV, intOp, shOp, boolOp, convV, nilV, fieldAddrV, indexAddrV, cellAt, cellsAt, findB, setB, hav, eqL, SameI, strOp, cvtQ, ↓reduceIte, Zj, Zk, Nat.reduceAdd, Nat.reduceLT, Nat.reduceEqDiff, Nat.reduceMul, Nat.reduceLeDiff, if_true, Zn, reduceCtorEq, ZA, eq_self, Int.reduceLE, Int.reduceLT, Int.reduceToNat, ne_eq, Nat.reduceSub, Tarr30, Teqt32, Tfld87_1, Tint3, Tld3, Tld32, Tld5, Tld87, Tpar5, hl, hm, en, xl, ol, nb2_b1, nb3_b2, nb3_b1, a1, a2, a3, nb4_b3, nb4_b2, nb4_b1, nb5_b4, nb5_b3, nb5_b2, nb5_b1, tl]
        refine callQ_gives (IsGrid_c _ _ _ bx bo) ?_
        simp (maxSteps := 2000000) (disch := first | (simp only [E4, hl, hm, en, xl, ol, a1, a2, a3, tl] <;> omega) | omega | fail) only [↓E2, E3, bare, bareJ, ↓E0, E1, evPlan, env0, envN, evOps, evOp, evQs, evQ, evV, setD, pureOp, ev, upd, updL, gate, binW, eqOp, binV, intOp, shOp, boolOp, convV, nilV, fieldAddrV, indexAddrV, cellAt, cellsAt, findB, setB, hav, eqL, SameI, strOp, cvtQ, ↓reduceIte, Zj, Zk, Nat.reduceAdd, Nat.reduceLT, Nat.reduceEqDiff, Nat.reduceMul, Nat.reduceLeDiff, if_true, Zn, reduceCtorEq, ZA, eq_self, Int.reduceLE, Int.reduceLT, Int.reduceToNat, ne_eq, Nat.reduceSub, Tarr30, Teqt32, Tfld87_1, Tint3, Tld3, Tld32, Tld5, Tld87, Tpar5, hl, hm, en, xl, ol, nb2_b1, nb3_b2, nb3_b1, a1, a2, a3, nb4_b3, nb4_b2, nb4_b1, nb5_b4, nb5_b3, nb5_b2, nb5_b1, tl]
        apply guardY_and 10 [94, 95, 96, 97, 98, 99, 100, 101, 102, 103] (j := 2) (d := 93) (tp := 104) (tl := 103) rfl rfl rfl rfl rfl
        · intro hq
          simp (maxSteps := 2000000) (disch := first | (simp only [E4, hl, hm, en, xl, ol, a1, a2, a3, tl] <;> omega) | omega | fail) only [↓E2, E3, bare, bareJ, ↓E0, E1, evPlan, env0, envN, evOps, evOp, evQs, evQ, evV, setD, pureOp, ev, upd, updL, gate, binW, eqOp, binV, intOp, shOp, boolOp, convV, nilV, fieldAddrV, indexAddrV, cellAt, cellsAt, findB, setB, hav, eqL, SameI, strOp, cvtQ, ↓reduceIte, Zj, Zk, Nat.reduceAdd, Nat.reduceLT, Nat.reduceEqDiff, Nat.reduceMul, Nat.reduceLeDiff, if_true, Zn, reduceCtorEq, ZA, eq_self, Int.reduceLE, Int.reduceLT, Int.reduceToNat, ne_eq, Nat.reduceSub, Tarr30, Teqt32, Tfld87_1, Tint3, Tld3, Tld32, Tld5, Tld87, Tpar5, hl, hm, en, xl, ol, nb2_b1, nb3_b2, nb3_b1, a1, a2, a3, nb4_b3, nb4_b2, nb4_b1, nb5_b4, nb5_b3, nb5_b2, nb5_b1, tl]
          refine callQ_gives (rows1_c _ _) ?_
          simp (maxSteps := 2000000) (disch := first | (simp only [E4, hl, hm, en, xl, ol, a1, a2, a3, tl] <;> omega) | omega | fail) only [↓E2, E3, bare, bareJ, ↓E0, E1, evPlan, env0, envN, evOps, evOp, evQs, evQ, evV, setD, pureOp, ev, upd, updL, gate, binW, eqOp, binV, intOp, shOp, boolOp, convV, nilV, fieldAddrV, indexAddrV, cellAt, cellsAt, findB, setB, hav, eqL, SameI, strOp, cvtQ, ↓reduceIte, Zj, Zk, Nat.reduceAdd, Nat.reduceLT, Nat.reduceEqDiff, Nat.reduceMul, Nat.reduceLeDiff, if_true, Zn, reduceCtorEq, ZA, eq_self, Int.reduceLE, Int.reduceLT, Int.reduceToNat, ne_eq, Nat.reduceSub, Tarr30, Teqt32, Tfld87_1, Tint3, Tld3, Tld32, Tld5, Tld87, Tpar5, hl, hm, en, xl, ol, nb2_b1, nb3_b2, nb3_b1, a1, a2, a3, nb4_b3, nb4_b2, nb4_b1, nb5_b4, nb5_b3, nb5_b2, nb5_b1, tl]
          repeat refine And.intro (by omega) ?_
          exact rfl
        intro g
        simp (maxSteps := 2000000) (disch := first | (simp only [E4, hl, hm, en, xl, ol, a1, a2, a3, tl] <;> omega) | omega | fail) only [↓E2, E3, bare, bareJ, ↓E0, E1, evPlan, env0, envN, evOps, evOp, evQs, evQ, evV, setD, pureOp, ev, upd, updL, gate, binW, eqOp, binV, intOp, shOp, boolOp, convV, nilV, fieldAddrV, indexAddrV, cellAt, cellsAt, findB, setB, hav, eqL, SameI, strOp, cvtQ, ↓reduceIte, Zj, Zk, Nat.reduceAdd, Nat.reduceLT, Nat.reduceEqDiff, Nat.reduceMul, Nat.reduceLeDiff, if_true, Zn, reduceCtorEq, ZA, eq_self, Int.reduceLE, Int.reduceLT, Int.reduceToNat, ne_eq, Nat.reduceSub, Tarr30, Teqt32, Tfld87_1, Tint3, Tld3, Tld32, Tld5, Tld87, Tpar5, hl, hm, en, xl, ol, nb2_b1, nb3_b2, nb3_b1, a1, a2, a3, nb4_b3, nb4_b2, nb4_b1, nb5_b4, nb5_b3, nb5_b2, nb5_b1, tl]
        apply guardY_and 5 [106, 107, 108, 109, 110] (j := 14) (d := 105) (tp := 111) (tl := 110) rfl rfl rfl rfl rfl
        · intro hq
          have hg : gridB ((c - 1 : Nat) : Int) (oldX x i r c k) (oldX o i r c k) = true := by
            simp only [decide_eq_true_eq, decide_eq_false_iff_not, beq_iff_eq, beq_eq_false_iff_ne, bne_iff_ne, bne_eq_false_iff_eq, Bool.and_eq_true, Bool.or_eq_true, Bool.or_eq_false_iff, Bool.not_eq_true', Bool.not_eq_false', Bool.and_eq_false_imp, ne_eq, gt_iff_lt, ge_iff_le, Int.not_lt, Int.not_le, Classical.not_not] at hq
            exact hq.1
          obtain ⟨n', hn1, hn2, hn3, px', po'⟩ := gridB_perm hg
          obtain rfl : n' = c - 1 := by omega
          simp (maxSteps := 2000000) (disch := first | (simp only [E4, hl, hm, en, xl, ol, a1, a2, a3, tl] <;> omega) | omega | fail) only [↓E2, E3, bare, bareJ, ↓E0, E1, evPlan, env0, envN, evOps, evOp, evQs, evQ, evV, setD, pureOp, ev, upd, updL, gate, binW, eqOp, binV, intOp, shOp, boolOp, convV, nilV, fieldAddrV, indexAddrV, cellAt, cellsAt, findB, setB, hav, eqL, SameI, strOp, cvtQ, ↓reduceIte, Zj, Zk, Nat.reduceAdd, Nat.reduceLT, Nat.reduceEqDiff, Nat.reduceMul, Nat.reduceLeDiff, if_true, Zn, reduceCtorEq, ZA, eq_self, Int.reduceLE, Int.reduceLT, Int.reduceToNat, ne_eq, Nat.reduceSub, Tarr30, Teqt32, Tfld87_1, Tint3, Tld3, Tld32, Tld5, Tld87, Tpar5, hl, hm, en, xl, ol, nb2_b1, nb3_b2, nb3_b1, a1, a2, a3, nb4_b3, nb4_b2, nb4_b1, nb5_b4, nb5_b3, nb5_b2, nb5_b1, tl]
          refine callQ_gives (grown1_c (c - 1) _ _ bx bo (by omega) px' po' i (k / 2 % 2) (k / 4) (by omega) (by omega) (by omega)) ?_
          simp (maxSteps := 2000000) (disch := first | (simp only [E4, hl, hm, en, xl, ol, a1, a2, a3, tl] <;> omega) | omega | fail) only [↓E2, E3, bare, bareJ, ↓E0, E1, evPlan, env0, envN, evOps, evOp, evQs, evQ, evV, setD, pureOp, ev, upd, updL, gate, binW, eqOp, binV, intOp, shOp, boolOp, convV, nilV, fieldAddrV, indexAddrV, cellAt, cellsAt, findB, setB, hav, eqL, SameI, strOp, cvtQ, ↓reduceIte, Zj, Zk, Nat.reduceAdd, Nat.reduceLT, Nat.reduceEqDiff, Nat.reduceMul, Nat.reduceLeDiff, if_true, Zn, reduceCtorEq, ZA, eq_self, Int.reduceLE, Int.reduceLT, Int.reduceToNat, ne_eq, Nat.reduceSub, Tarr30, Teqt32, Tfld87_1, Tint3, Tld3, Tld32, Tld5, Tld87, Tpar5, hl, hm, en, xl, ol, nb2_b1, nb3_b2, nb3_b1, a1, a2, a3, nb4_b3, nb4_b2, nb4_b1, nb5_b4, nb5_b3, nb5_b2, nb5_b1, tl]
          exact rfl
        intro g
        simp (maxSteps := 2000000) (disch := first | (simp only [E4, hl, hm, en, xl, ol, a1, a2, a3, tl] <;> omega) | omega | fail) only [↓E2, E3, bare, bareJ, ↓E0, E1, evPlan, env0, envN, evOps, evOp, evQs, evQ, evV, setD, pureOp, ev, upd, updL, gate, binW, eqOp, binV, intOp, shOp, boolOp, convV, nilV, fieldAddrV, indexAddrV, cellAt, cellsAt, findB, setB, hav, eqL, SameI, strOp, cvtQ, ↓reduceIte, Zj, Zk, Nat.reduceAdd, Nat.reduceLT, Nat.reduceEqDiff, Nat.reduceMul, Nat.reduceLeDiff, if_true, Zn, reduceCtorEq, ZA, eq_self, Int.reduceLE, Int.reduceLT, Int.reduceToNat, ne_eq, Nat.reduceSub, Tarr30, Teqt32, Tfld87_1, Tint3, Tld3, Tld32, Tld5, Tld87, Tpar5, hl, hm, en, xl, ol, nb2_b1, nb3_b2, nb3_b1, a1, a2, a3, nb4_b3, nb4_b2, nb4_b1, nb5_b4, nb5_b3, nb5_b2, nb5_b1, tl]
        repeat refine And.intro (by omega) ?_
        intro g
        simp only [List.map_cons, List.map_nil, updL, upd, Nat.reduceEqDiff, if_true, if_false, ↓reduceIte]
        refine hK _ ?_; clear hK K
        refine Cd.cond rfl (fun h7 => ?_) (fun h7 => ?_)
        · have h8 : bk x o i r k = true := by rw [← hB]; exact h7
          refine Cd.ps [6, 7, 8] (Plan.take 0 (Plan.more 1 (Plan.one 2 (Plan.one 3 (Plan.take 4 (Plan.done)))) (Plan.one 2 (Plan.take 1 (Plan.one 3 (Plan.take 4 (Plan.done))))))) fol (by kernel_rfl) (Nat.le_of_ble_eq_true rfl) fun K hK => ?_
          simp (maxSteps := 2000000) (disch := first | (simp only [E4, hl, hm, en, xl, ol, a1, a2, a3, tl] <;> omega) | omega | fail) only [↓E2, E3, bare, bareJ, ↓E0, E1, evPlan, env0, envN, evOps, evOp, evQs, evQ, evV, setD, pureOp, ev, upd, updL, cellAt, cellsAt, findB, setB, Value.cells, hav, ↓reduceIte, Zj, Zk, Nat.reduceAdd, Nat.reduceLT, Nat.reduceEqDiff, Nat.reduceMul, Nat.reduceLeDiff, if_true, Zn, reduceCtorEq, ZA, eq_self, Int.reduceLE, Int.reduceLT, Int.reduceToNat, ne_eq, Nat.reduceSub, Tld32, Tld87, Tst32, Tst87, hl, hm, en, xl, ol, nb2_b1, nb3_b2, nb3_b1, a1, a2, a3, nb4_b3, nb4_b2, nb4_b1, nb5_b4, nb5_b3, nb5_b2, nb5_b1, tl]
          repeat refine And.intro (by omega) ?_
          intro g
          simp only [List.map_cons, List.map_nil, updL, upd, Nat.reduceEqDiff, if_true, if_false, ↓reduceIte]
          refine hK _ _ ?_; clear hK K
          refine Cd.ret (inBR (thenR (roundR (inBR (thenR ?_)))))
          simp (maxSteps := 2000000) (disch := first | (simp only [E4, hl, hm, en, xl, ol, a1, a2, a3, tl] <;> omega) | omega | fail) only [↓E2, E3, bare, bareJ, ↓E0, E1, evP, evPlan, env0, envN, evOps, evOp, evQs, evQ, evV, setD, pureOp, ev, upd, updL, gate, binW, eqOp, binV, intOp, shOp, boolOp, unV, convV, nilV, fieldAddrV, indexAddrV, extractV, cellAt, cellsAt, findB, setB, fillL, buildV, Value.cells, lenV, minV, maxV, hav, sliceV, loV, hiV, bslQ, mksQ, appQ, partsOk, partsCells, delB, eqL, SameI, strOp, apzQ, cvtQ, capV, ↓reduceIte, Zj, Zk, Nat.reduceAdd, Nat.reduceLT, Nat.reduceEqDiff, Nat.reduceMul, Nat.reduceLeDiff, if_true, Zn, reduceCtorEq, ZA, eq_self, Int.reduceLE, Int.reduceLT, Int.reduceToNat, ne_eq, Nat.reduceSub, Tld32, Tld87, hl, hm, en, xl, ol, nb2_b1, nb3_b2, nb3_b1, a1, a2, a3, nb4_b3, nb4_b2, nb4_b1, nb5_b4, nb5_b3, nb5_b2, nb5_b1, tl]
          unfold shrR
          rw [bkFind_hit (by omega) h8]
          simp only [hmk]
        · have h8 : bk x o i r k = false := by rw [← hB]; exact h7
          refine Cd.skip ?_
          refine inBN ?_
          refine thenN ?_
          refine Cd.rr [1, 2, 3, 6, 7, 14] fun K hK => ?_
          simp (maxSteps := 2000000) (disch := first | (simp only [E4, hl, hm, en, xl, ol, a1, a2, a3, tl] <;> omega) | omega | fail) only [↓E2, E3, bare, bareJ, ↓E0, E1, env0, envN, evOps, evOp, evQs, evQ, evV, setD, pureOp, ev, upd, updL, binW, eqOp, binV, intOp, shOp, boolOp, hav, eqL, SameI, strOp, ↓reduceIte, Zj, Zk, Nat.reduceAdd, Nat.reduceLT, Nat.reduceEqDiff, Nat.reduceMul, Nat.reduceLeDiff, if_true, Zn, reduceCtorEq, ZA, eq_self, Int.reduceLE, Int.reduceLT, Int.reduceToNat, ne_eq, Nat.reduceSub, hl, hm, en, xl, ol, nb2_b1, nb3_b2, nb3_b1, a1, a2, a3, nb4_b3, nb4_b2, nb4_b1, nb5_b4, nb5_b3, nb5_b2, nb5_b1, tl]
          repeat refine And.intro (by omega) ?_
          intro g
          simp only [List.map_cons, List.map_nil, updL, upd, Nat.reduceEqDiff, if_true, if_false, ↓reduceIte]
          refine hK _ _ ?_; clear hK K
          refine roundN (m := m - 1) (by omega) ⟨_, k + 1, by omega, fun j hj => ?_, rfl, List.sublist_append_right [_, _] _⟩
          rcases Nat.lt_succ_iff_lt_or_eq.1 hj with h9 | rfl
          · exact hno j h9
          · exact h8

  · refine Cd.exit (thenX (roundX (inBX ?_)))
    refine thenN ?_
    obtain rfl : k = 8 := by omega
    refine Cd.rs [6, 7, 8] fun K hK => ?_
    simp (maxSteps := 2000000) (disch := first | (simp only [E4, hl, hm, en, xl, ol] <;> omega) | omega | fail) only [↓E2, E3, bare, bareJ, ↓E0, E1, evP, env0, envN, evOps, evOp, evQs, evQ, evV, setD, pureOp, ev, upd, updL, cellAt, cellsAt, findB, setB, fillL, buildV, Value.cells, hav, ↓reduceIte, Zj, Zk, Nat.reduceAdd, Nat.reduceLT, Nat.reduceEqDiff, Nat.reduceMul, Nat.reduceLeDiff, if_true, Zn, reduceCtorEq, ZA, eq_self, Int.reduceLE, Int.reduceLT, Int.reduceToNat, ne_eq, Nat.reduceSub, Tbld32, Tbld87, Tst32, Tst87, hl, hm, en, xl, ol, nb2_b1, nb3_b2, nb3_b1]
    repeat refine And.intro (by omega) ?_
    intro g
    simp only [List.map_cons, List.map_nil, updL, upd, Nat.reduceEqDiff, if_true, if_false, ↓reduceIte]
    refine hK _ _ ?_; clear hK K
    refine Cd.ret ?_
    simp (maxSteps := 2000000) (disch := first | (simp only [E4, hl, hm, en, xl, ol] <;> omega) | omega | fail) only [↓E2, E3, bare, bareJ, ↓E0, E1, evP, evPlan, env0, envN, evOps, evOp, evQs, evQ, evV, setD, pureOp, ev, upd, updL, gate, binW, eqOp, binV, intOp, shOp, boolOp, unV, convV, nilV, fieldAddrV, indexAddrV, extractV, cellAt, cellsAt, findB, setB, fillL, buildV, Value.cells, lenV, minV, maxV, hav, sliceV, loV, hiV, bslQ, mksQ, appQ, partsOk, partsCells, delB, eqL, SameI, strOp, apzQ, cvtQ, capV, ↓reduceIte, Zj, Zk, Nat.reduceAdd, Nat.reduceLT, Nat.reduceEqDiff, Nat.reduceMul, Nat.reduceLeDiff, if_true, Zn, reduceCtorEq, ZA, eq_self, Int.reduceLE, Int.reduceLT, Int.reduceToNat, ne_eq, Nat.reduceSub, Tld32, Tld87, hl, hm, en, xl, ol, nb2_b1, nb3_b2, nb3_b1]
    unfold shrR
    rw [bkFind_none fun j hj => hno j hj]
end

end Go.Proofs

/-
  What the functions of this part hand back: each as a plain function of its arguments. Conditions: none.
-/
namespace Go.Proofs
open Go.W8
set_option linter.unusedVariables false
set_option linter.unusedSimpArgs false
set_option linter.unusedSectionVars false
set_option maxRecDepth 8000
set_option maxHeartbeats 4000000
/-- The code of a grid and the first ones of pairs of neighbours. -/
def pairC (s : Int) (x o l : List Int) : Int := if gridB s x o then if ∀ a ∈ l, 0 ≤ a ∧ a ≤ s - 2 then 0 else 2 else 1
def PairTo (s : Int) (l : List Int) (k : Nat) : Prop := ∀ j, j < k → 0 ≤ l.getD j 0 ∧ l.getD j 0 ≤ s - 2
theorem pair_all {s : Int} {l : List Int} (h : PairTo s l l.length) : ∀ a ∈ l, 0 ≤ a ∧ a ≤ s - 2 := by
  intro a ha
  obtain ⟨j, hj⟩ := List.getElem?_of_mem ha
  have hl : j < l.length := by
    rcases Nat.lt_or_ge j l.length with h1 | h1
    · exact h1
    · rw [List.getElem?_eq_none h1] at hj; cases hj
  have := h j hl
  rw [List.getD_eq_getElem?_getD, hj] at this
  exact this
theorem pair_not {s : Int} {l : List Int} {k : Nat} (hk : k < l.length) (h : ¬ (0 ≤ l.getD k 0 ∧ l.getD k 0 ≤ s - 2)) : ¬ ∀ a ∈ l, 0 ≤ a ∧ a ≤ s - 2 := fun ha => h (by
  have := ha (l.getD k 0) (by rw [List.getD_eq_getElem?_getD, List.getElem?_eq_getElem hk]; exact List.getElem_mem hk)
  exact this)
theorem pair_succ {s : Int} {l : List Int} {k : Nat} (h : PairTo s l k) (h' : 0 ≤ l.getD k 0 ∧ l.getD k 0 ≤ s - 2) : PairTo s l (k + 1) := fun j hj => by
  rcases Nat.lt_succ_iff_lt_or_eq.1 hj with h1 | rfl
  · exact h j h1
  · exact h'

theorem isPair_c (s : Int) (x o : List Int) (hx : Bytes8 x) (ho : Bytes8 o) (b f cap : Nat) (l : List Int) (hlen : l.length ≤ 8) : GivesR Try.prog 93 #[.agg (gc s x o).toArray, .slice (some ⟨b, f, none⟩) l.length cap] [(b, f, ints .i64 l)] (.int .i64 (pairC s x o l)) := by
  have hl := hx.len
  have hm := ho.len
  skip
  refine GivesR.of (callable_of Try.func93 rfl (by decide)) fun w hR => ?_
  refine acall_of (N := 23) (c := _) (rs := [.tmp 4]) (args := [_, _]) Try.func93 rfl (by decide) rfl rfl (Nat.le_of_ble_eq_true rfl) ?_
  have hR := (told_ints hR).1
  refine Cd.rs [1, 2] fun K hK => ?_
  simp (maxSteps := 2000000) (disch := first | omega | (simp only [E4, hl, hm, *] <;> omega) | fail) only [↓E0, E1, env0, envN, evOps, evOp, evQs, evQ, evV, setD, pureOp, ev, upd, updL, Value.cells, hav, ↓reduceIte, Zj, Zk, Nat.reduceAdd, Nat.reduceLT, Nat.reduceEqDiff, Nat.reduceMul, Nat.reduceLeDiff, if_true, Zn, reduceCtorEq, ZA, eq_self, Int.reduceLE, Int.reduceLT, Int.reduceToNat, ne_eq, Nat.reduceSub, hl, hm]
  intro b1 hb1
  try simp (maxSteps := 2000000) (disch := first | omega | (simp only [E4, hl, hm, *] <;> omega) | fail) only [↓E0, E1, env0, envN, evOps, evOp, evQs, evQ, evV, setD, pureOp, ev, upd, updL, Value.cells, hav, ↓reduceIte, Zj, Zk, Nat.reduceAdd, Nat.reduceLT, Nat.reduceEqDiff, Nat.reduceMul, Nat.reduceLeDiff, if_true, Zn, reduceCtorEq, ZA, eq_self, Int.reduceLE, Int.reduceLT, Int.reduceToNat, ne_eq, Nat.reduceSub, hl, hm]
  repeat refine And.intro (by omega) ?_
  intro g
  simp only [List.map_cons, List.map_nil, updL, upd, Nat.reduceEqDiff, if_true, if_false, ↓reduceIte]
  refine hK _ _ ?_; clear hK K
  refine Cd.seq ?_
  refine Cd.rs [1, 2, 9] fun K hK => ?_
  simp (maxSteps := 2000000) (disch := first | omega | (simp only [E4, hl, hm, *] <;> omega) | fail) only [↓E0, E1, env0, envN, evOps, evOp, evQs, evQ, evV, setD, pureOp, ev, upd, updL, unV, cellAt, cellsAt, findB, setB, hav, ↓reduceIte, Zj, Zk, Nat.reduceAdd, Nat.reduceLT, Nat.reduceEqDiff, Nat.reduceMul, Nat.reduceLeDiff, if_true, Zn, reduceCtorEq, ZA, eq_self, Int.reduceLE, Int.reduceLT, Int.reduceToNat, ne_eq, Nat.reduceSub, Tld32, hl, hm]
  refine callK_gives (IsGrid_c _ _ _ hx ho) ?_
  simp (maxSteps := 2000000) (disch := first | omega | (simp only [E4, hl, hm, *] <;> omega) | fail) only [↓E0, E1, env0, envN, evOps, evOp, evQs, evQ, evV, setD, pureOp, ev, upd, updL, unV, cellAt, cellsAt, findB, setB, hav, ↓reduceIte, Zj, Zk, Nat.reduceAdd, Nat.reduceLT, Nat.reduceEqDiff, Nat.reduceMul, Nat.reduceLeDiff, if_true, Zn, reduceCtorEq, ZA, eq_self, Int.reduceLE, Int.reduceLT, Int.reduceToNat, ne_eq, Nat.reduceSub, Tld32, hl, hm]
  repeat refine And.intro (by omega) ?_
  intro g
  simp only [List.map_cons, List.map_nil, updL, upd, Nat.reduceEqDiff, if_true, if_false, ↓reduceIte]
  refine hK _ _ ?_; clear hK K
  refine Cd.cond rfl (fun h1 => ?_) (fun h1 => ?_)
  · refine Cd.rs [4] fun K hK => ?_
    simp (maxSteps := 2000000) (disch := first | omega | (simp only [E4, hl, hm, *] <;> omega) | fail) only [↓E0, E1, env0, envN, evOps, evOp, evQs, evQ, evV, setD, pureOp, ev, upd, updL, hav, ↓reduceIte, Zj, Zk, Nat.reduceAdd, Nat.reduceLT, Nat.reduceEqDiff, Nat.reduceMul, Nat.reduceLeDiff, if_true, Zn, reduceCtorEq, ZA, eq_self, Int.reduceLE, Int.reduceLT, Int.reduceToNat, ne_eq, Nat.reduceSub, hl, hm]
    repeat refine And.intro (by omega) ?_
    intro g
    simp only [List.map_cons, List.map_nil, updL, upd, Nat.reduceEqDiff, if_true, if_false, ↓reduceIte]
    refine hK _ _ ?_; clear hK K
    refine Cd.ret (thenR ?_)
    simp (maxSteps := 2000000) (disch := first | omega | (simp only [E4, hl, hm, *] <;> omega) | fail) only [↓E0, E1, evP, evPlan, env0, envN, evOps, evOp, evQs, evQ, evV, setD, pureOp, ev, upd, updL, gate, binW, eqOp, binV, intOp, shOp, boolOp, unV, convV, nilV, fieldAddrV, indexAddrV, extractV, cellAt, cellsAt, findB, setB, fillL, buildV, Value.cells, lenV, minV, maxV, hav, sliceV, loV, hiV, bslQ, mksQ, appQ, partsOk, partsCells, delB, eqL, SameI, strOp, apzQ, cvtQ, capV, ↓reduceIte, Zj, Zk, Nat.reduceAdd, Nat.reduceLT, Nat.reduceEqDiff, Nat.reduceMul, Nat.reduceLeDiff, if_true, Zn, reduceCtorEq, ZA, eq_self, Int.reduceLE, Int.reduceLT, Int.reduceToNat, ne_eq, Nat.reduceSub, hl, hm]
    unfold pairC
    rw [if_neg (by simpa using h1)]
  · have hg : gridB s x o = true := by simpa using h1
    obtain ⟨n, rfl, hn2, hn8⟩ := gridB_s hg
    refine Cd.skip ?_
    refine thenN ?_
    refine Cd.seq ?_
    refine Cd.rs [2, 10, 11, 12] fun K hK => ?_
    simp (maxSteps := 2000000) (disch := first | omega | (simp only [E4, hl, hm, *] <;> omega) | fail) only [↓E0, E1, env0, envN, evOps, evOp, evQs, evQ, evV, setD, pureOp, ev, upd, updL, lenV, hav, ↓reduceIte, Zj, Zk, Nat.reduceAdd, Nat.reduceLT, Nat.reduceEqDiff, Nat.reduceMul, Nat.reduceLeDiff, if_true, Zn, reduceCtorEq, ZA, eq_self, Int.reduceLE, Int.reduceLT, Int.reduceToNat, ne_eq, Nat.reduceSub, Tslce47, hl, hm]
    repeat refine And.intro (by omega) ?_
    intro g
    simp only [List.map_cons, List.map_nil, updL, upd, Nat.reduceEqDiff, if_true, if_false, ↓reduceIte]
    refine hK _ _ ?_; clear hK K
    refine Cd.block ?_
    refine Cd.loop (fun m ρ M => ∃ g k, k + m = l.length ∧ PairTo (n : Int) l k ∧ ρ = updL [(2, .pointer (some ⟨b1, 0, none⟩)), (10, .slice (some ⟨b, f, none⟩) l.length cap), (11, .int .i64 (l.length : Int)), (12, .int .i64 (k : Int))] g ∧ M = [(b1, gc (n : Int) x o)]) l.length
      ⟨_, 0, Nat.zero_add _, (fun _ h => absurd h (Nat.not_lt_zero _)), rfl, rfl⟩ ?_
    rintro m ρ M ⟨g, k, hk, hp, rfl, rfl⟩
    refine Cd.rs [2, 10, 11, 12, 13] fun K hK => ?_
    simp (maxSteps := 2000000) (disch := first | omega | (simp only [E4, hl, hm, *] <;> omega) | fail) only [↓E0, E1, env0, envN, evOps, evOp, evQs, evQ, evV, setD, pureOp, ev, upd, updL, binW, eqOp, binV, intOp, shOp, boolOp, hav, eqL, SameI, strOp, ↓reduceIte, Zj, Zk, Nat.reduceAdd, Nat.reduceLT, Nat.reduceEqDiff, Nat.reduceMul, Nat.reduceLeDiff, if_true, Zn, reduceCtorEq, ZA, eq_self, Int.reduceLE, Int.reduceLT, Int.reduceToNat, ne_eq, Nat.reduceSub, hl, hm]
    repeat refine And.intro (by omega) ?_
    intro g
    simp only [List.map_cons, List.map_nil, updL, upd, Nat.reduceEqDiff, if_true, if_false, ↓reduceIte]
    refine hK _ _ ?_; clear hK K
    refine Cd.seq ?_
    refine Cd.condd rfl (fun h2 => ?_) (fun h2 => ?_)
    · have hk' : k < l.length := by omega
      have nb := hb1.old (frn_lt (hR k hk'))
      have hv := hR k hk'
      skip
      refine Cd.skip ?_
      refine thenN ?_
      refine Cd.seq ?_
      refine Cd.block ?_
      refine Cd.rs [2, 6, 10, 11, 12] fun K hK => ?_
      simp (maxSteps := 2000000) (disch := first | omega | (simp only [E4, hl, hm, nb, hv, *] <;> omega) | fail) only [↓E0, E1, env0, envN, evOps, evOp, evQs, evQ, evV, setD, pureOp, ev, upd, updL, indexAddrV, cellAt, cellsAt, findB, hav, ↓reduceIte, Zj, Zk, Nat.reduceAdd, Nat.reduceLT, Nat.reduceEqDiff, Nat.reduceMul, Nat.reduceLeDiff, if_true, Zn, reduceCtorEq, ZA, eq_self, Int.reduceLE, Int.reduceLT, Int.reduceToNat, ne_eq, Nat.reduceSub, Tld2, Tslc47, hl, hm, nb, hv]
      repeat refine And.intro (by omega) ?_
      repeat refine And.intro (by omega) ?_
      intro g
      simp only [List.map_cons, List.map_nil, updL, upd, Nat.reduceEqDiff, if_true, if_false, ↓reduceIte]
      refine hK _ _ ?_; clear hK K
      refine Cd.rs [2, 10, 11, 12, 21] fun K hK => ?_
      simp (maxSteps := 2000000) (disch := first | omega | (simp only [E4, hl, hm, nb, hv, *] <;> omega) | fail) only [↓E0, E1, env0, envN, evOps, evOp, evQs, evQ, evV, setD, pureOp, ev, upd, updL, binW, eqOp, binV, intOp, shOp, boolOp, unV, fieldAddrV, cellAt, cellsAt, findB, setB, hav, eqL, SameI, strOp, ↓reduceIte, Zj, Zk, Nat.reduceAdd, Nat.reduceLT, Nat.reduceEqDiff, Nat.reduceMul, Nat.reduceLeDiff, if_true, Zn, reduceCtorEq, ZA, eq_self, Int.reduceLE, Int.reduceLT, Int.reduceToNat, ne_eq, Nat.reduceSub, Tfld32_0, Tld2, hl, hm, nb, hv]
      refine callK_gives (within_c _ _ _) ?_
      simp (maxSteps := 2000000) (disch := first | omega | (simp only [E4, hl, hm, nb, hv, *] <;> omega) | fail) only [↓E0, E1, env0, envN, evOps, evOp, evQs, evQ, evV, setD, pureOp, ev, upd, updL, binW, eqOp, binV, intOp, shOp, boolOp, unV, fieldAddrV, cellAt, cellsAt, findB, setB, hav, eqL, SameI, strOp, ↓reduceIte, Zj, Zk, Nat.reduceAdd, Nat.reduceLT, Nat.reduceEqDiff, Nat.reduceMul, Nat.reduceLeDiff, if_true, Zn, reduceCtorEq, ZA, eq_self, Int.reduceLE, Int.reduceLT, Int.reduceToNat, ne_eq, Nat.reduceSub, Tfld32_0, Tld2, hl, hm, nb, hv]
      repeat refine And.intro (by omega) ?_
      intro g
      simp only [List.map_cons, List.map_nil, updL, upd, Nat.reduceEqDiff, if_true, if_false, ↓reduceIte]
      refine hK _ _ ?_; clear hK K
      refine Cd.cond rfl (fun h3 => ?_) (fun h3 => ?_)
      · refine Cd.rs [4] fun K hK => ?_
        simp (maxSteps := 2000000) (disch := first | omega | (simp only [E4, hl, hm, nb, hv, *] <;> omega) | fail) only [↓E0, E1, env0, envN, evOps, evOp, evQs, evQ, evV, setD, pureOp, ev, upd, updL, hav, ↓reduceIte, Zj, Zk, Nat.reduceAdd, Nat.reduceLT, Nat.reduceEqDiff, Nat.reduceMul, Nat.reduceLeDiff, if_true, Zn, reduceCtorEq, ZA, eq_self, Int.reduceLE, Int.reduceLT, Int.reduceToNat, ne_eq, Nat.reduceSub, hl, hm, nb, hv]
        repeat refine And.intro (by omega) ?_
        intro g
        simp only [List.map_cons, List.map_nil, updL, upd, Nat.reduceEqDiff, if_true, if_false, ↓reduceIte]
        refine hK _ _ ?_; clear hK K
        refine Cd.ret (inBR (thenR (roundR (inBR (thenR ?_)))))
        simp (maxSteps := 2000000) (disch := first | omega | (simp only [E4, hl, hm, nb, hv, *] <;> omega) | fail) only [↓E0, E1, evP, evPlan, env0, envN, evOps, evOp, evQs, evQ, evV, setD, pureOp, ev, upd, updL, gate, binW, eqOp, binV, intOp, shOp, boolOp, unV, convV, nilV, fieldAddrV, indexAddrV, extractV, cellAt, cellsAt, findB, setB, fillL, buildV, Value.cells, lenV, minV, maxV, hav, sliceV, loV, hiV, bslQ, mksQ, appQ, partsOk, partsCells, delB, eqL, SameI, strOp, apzQ, cvtQ, capV, ↓reduceIte, Zj, Zk, Nat.reduceAdd, Nat.reduceLT, Nat.reduceEqDiff, Nat.reduceMul, Nat.reduceLeDiff, if_true, Zn, reduceCtorEq, ZA, eq_self, Int.reduceLE, Int.reduceLT, Int.reduceToNat, ne_eq, Nat.reduceSub, hl, hm, nb, hv]
        unfold pairC
        rw [if_pos hg, if_neg (pair_not hk' fun h => by rw [decide_eq_true h.1, decide_eq_true h.2] at h3; exact absurd h3 (by decide))]
      · refine Cd.skip ?_
        refine inBN ?_
        refine thenN ?_
        refine Cd.rr [2, 10, 11, 12] fun K hK => ?_
        simp (maxSteps := 2000000) (disch := first | omega | (simp only [E4, hl, hm, nb, hv, *] <;> omega) | fail) only [↓E0, E1, env0, envN, evOps, evOp, evQs, evQ, evV, setD, pureOp, ev, upd, updL, binW, eqOp, binV, intOp, shOp, boolOp, hav, eqL, SameI, strOp, ↓reduceIte, Zj, Zk, Nat.reduceAdd, Nat.reduceLT, Nat.reduceEqDiff, Nat.reduceMul, Nat.reduceLeDiff, if_true, Zn, reduceCtorEq, ZA, eq_self, Int.reduceLE, Int.reduceLT, Int.reduceToNat, ne_eq, Nat.reduceSub, hl, hm, nb, hv]
        repeat refine And.intro (by omega) ?_
        intro g
        simp only [List.map_cons, List.map_nil, updL, upd, Nat.reduceEqDiff, if_true, if_false, ↓reduceIte]
        refine hK _ _ ?_; clear hK K
        exact roundN (m := m - 1) (by omega) ⟨_, k + 1, by omega, pair_succ hp (by simpa using h3), rfl, rfl⟩
    · refine Cd.exit (thenX (roundX (inBX ?_)))
      refine thenN ?_
      obtain rfl : k = l.length := by omega
      refine Cd.rs [4] fun K hK => ?_
      simp (maxSteps := 2000000) (disch := first | omega | (simp only [E4, hl, hm, *] <;> omega) | fail) only [↓E0, E1, env0, envN, evOps, evOp, evQs, evQ, evV, setD, pureOp, ev, upd, updL, hav, ↓reduceIte, Zj, Zk, Nat.reduceAdd, Nat.reduceLT, Nat.reduceEqDiff, Nat.reduceMul, Nat.reduceLeDiff, if_true, Zn, reduceCtorEq, ZA, eq_self, Int.reduceLE, Int.reduceLT, Int.reduceToNat, ne_eq, Nat.reduceSub, hl, hm]
      repeat refine And.intro (by omega) ?_
      intro g
      simp only [List.map_cons, List.map_nil, updL, upd, Nat.reduceEqDiff, if_true, if_false, ↓reduceIte]
      refine hK _ _ ?_; clear hK K
      refine Cd.ret ?_
      simp (maxSteps := 2000000) (disch := first | omega | (simp only [E4, hl, hm, *] <;> omega) | fail) only [↓E0, E1, evP, evPlan, env0, envN, evOps, evOp, evQs, evQ, evV, setD, pureOp, ev, upd, updL, gate, binW, eqOp, binV, intOp, shOp, boolOp, unV, convV, nilV, fieldAddrV, indexAddrV, extractV, cellAt, cellsAt, findB, setB, fillL, buildV, Value.cells, lenV, minV, maxV, hav, sliceV, loV, hiV, bslQ, mksQ, appQ, partsOk, partsCells, delB, eqL, SameI, strOp, apzQ, cvtQ, capV, ↓reduceIte, Zj, Zk, Nat.reduceAdd, Nat.reduceLT, Nat.reduceEqDiff, Nat.reduceMul, Nat.reduceLeDiff, if_true, Zn, reduceCtorEq, ZA, eq_self, Int.reduceLE, Int.reduceLT, Int.reduceToNat, ne_eq, Nat.reduceSub, hl, hm]
      unfold pairC
      rw [if_pos hg, if_pos (pair_all hp)]

theorem l02Place_c (s : Int) (x o : List Int) (hx : Bytes8 x) (ho : Bytes8 o) (b f cap : Nat) (l : List Int) (hlen : l.length ≤ 8) : GivesR Try.prog 95 #[.agg (gc s x o).toArray, .slice (some ⟨b, f, none⟩) l.length cap] [(b, f, ints .i64 l)] (.int .i64 (pairC s x o l)) := by
  have hl := hx.len
  have hm := ho.len
  skip
  refine GivesR.of (callable_of Try.func95 rfl (by decide)) fun w hR => ?_
  refine acall_of (N := 24) (c := _) (rs := [.tmp 4]) (args := [_, _]) Try.func95 rfl (by decide) rfl rfl (Nat.le_of_ble_eq_true rfl) ?_
  have hR := (told_ints hR).1
  refine Cd.rs [1, 2] fun K hK => ?_
  simp (maxSteps := 2000000) (disch := first | omega | (simp only [E4, hl, hm, *] <;> omega) | fail) only [↓E0, E1, env0, envN, evOps, evOp, evQs, evQ, evV, setD, pureOp, ev, upd, updL, Value.cells, hav, ↓reduceIte, Zj, Zk, Nat.reduceAdd, Nat.reduceLT, Nat.reduceEqDiff, Nat.reduceMul, Nat.reduceLeDiff, if_true, Zn, reduceCtorEq, ZA, eq_self, Int.reduceLE, Int.reduceLT, Int.reduceToNat, ne_eq, Nat.reduceSub, hl, hm]
  intro b1 hb1
  try simp (maxSteps := 2000000) (disch := first | omega | (simp only [E4, hl, hm, *] <;> omega) | fail) only [↓E0, E1, env0, envN, evOps, evOp, evQs, evQ, evV, setD, pureOp, ev, upd, updL, Value.cells, hav, ↓reduceIte, Zj, Zk, Nat.reduceAdd, Nat.reduceLT, Nat.reduceEqDiff, Nat.reduceMul, Nat.reduceLeDiff, if_true, Zn, reduceCtorEq, ZA, eq_self, Int.reduceLE, Int.reduceLT, Int.reduceToNat, ne_eq, Nat.reduceSub, hl, hm]
  repeat refine And.intro (by omega) ?_
  intro g
  simp only [List.map_cons, List.map_nil, updL, upd, Nat.reduceEqDiff, if_true, if_false, ↓reduceIte]
  refine hK _ _ ?_; clear hK K
  refine Cd.seq ?_
  refine Cd.rs [1, 2, 8] fun K hK => ?_
  simp (maxSteps := 2000000) (disch := first | omega | (simp only [E4, hl, hm, *] <;> omega) | fail) only [↓E0, E1, env0, envN, evOps, evOp, evQs, evQ, evV, setD, pureOp, ev, upd, updL, unV, cellAt, cellsAt, findB, setB, hav, ↓reduceIte, Zj, Zk, Nat.reduceAdd, Nat.reduceLT, Nat.reduceEqDiff, Nat.reduceMul, Nat.reduceLeDiff, if_true, Zn, reduceCtorEq, ZA, eq_self, Int.reduceLE, Int.reduceLT, Int.reduceToNat, ne_eq, Nat.reduceSub, Tld32, hl, hm]
  refine callK_gives (l01Is_c _ _ _ hx ho) ?_
  simp (maxSteps := 2000000) (disch := first | omega | (simp only [E4, hl, hm, *] <;> omega) | fail) only [↓E0, E1, env0, envN, evOps, evOp, evQs, evQ, evV, setD, pureOp, ev, upd, updL, unV, cellAt, cellsAt, findB, setB, hav, ↓reduceIte, Zj, Zk, Nat.reduceAdd, Nat.reduceLT, Nat.reduceEqDiff, Nat.reduceMul, Nat.reduceLeDiff, if_true, Zn, reduceCtorEq, ZA, eq_self, Int.reduceLE, Int.reduceLT, Int.reduceToNat, ne_eq, Nat.reduceSub, Tld32, hl, hm]
  repeat refine And.intro (by omega) ?_
  intro g
  simp only [List.map_cons, List.map_nil, updL, upd, Nat.reduceEqDiff, if_true, if_false, ↓reduceIte]
  refine hK _ _ ?_; clear hK K
  refine Cd.cond rfl (fun h1 => ?_) (fun h1 => ?_)
  · refine Cd.rs [4] fun K hK => ?_
    simp (maxSteps := 2000000) (disch := first | omega | (simp only [E4, hl, hm, *] <;> omega) | fail) only [↓E0, E1, env0, envN, evOps, evOp, evQs, evQ, evV, setD, pureOp, ev, upd, updL, hav, ↓reduceIte, Zj, Zk, Nat.reduceAdd, Nat.reduceLT, Nat.reduceEqDiff, Nat.reduceMul, Nat.reduceLeDiff, if_true, Zn, reduceCtorEq, ZA, eq_self, Int.reduceLE, Int.reduceLT, Int.reduceToNat, ne_eq, Nat.reduceSub, hl, hm]
    repeat refine And.intro (by omega) ?_
    intro g
    simp only [List.map_cons, List.map_nil, updL, upd, Nat.reduceEqDiff, if_true, if_false, ↓reduceIte]
    refine hK _ _ ?_; clear hK K
    refine Cd.ret (thenR ?_)
    simp (maxSteps := 2000000) (disch := first | omega | (simp only [E4, hl, hm, *] <;> omega) | fail) only [↓E0, E1, evP, evPlan, env0, envN, evOps, evOp, evQs, evQ, evV, setD, pureOp, ev, upd, updL, gate, binW, eqOp, binV, intOp, shOp, boolOp, unV, convV, nilV, fieldAddrV, indexAddrV, extractV, cellAt, cellsAt, findB, setB, fillL, buildV, Value.cells, lenV, minV, maxV, hav, sliceV, loV, hiV, bslQ, mksQ, appQ, partsOk, partsCells, delB, eqL, SameI, strOp, apzQ, cvtQ, capV, ↓reduceIte, Zj, Zk, Nat.reduceAdd, Nat.reduceLT, Nat.reduceEqDiff, Nat.reduceMul, Nat.reduceLeDiff, if_true, Zn, reduceCtorEq, ZA, eq_self, Int.reduceLE, Int.reduceLT, Int.reduceToNat, ne_eq, Nat.reduceSub, hl, hm]
    unfold pairC
    rw [if_neg (by simpa using h1)]
  · have hg : gridB s x o = true := by simpa using h1
    obtain ⟨n, rfl, hn2, hn8⟩ := gridB_s hg
    refine Cd.skip ?_
    refine thenN ?_
    refine Cd.seq ?_
    refine Cd.rs [1, 2, 5] fun K hK => ?_
    simp (maxSteps := 2000000) (disch := first | omega | (simp only [E4, hl, hm, *] <;> omega) | fail) only [↓E0, E1, env0, envN, evOps, evOp, evQs, evQ, evV, setD, pureOp, ev, upd, updL, hav, ↓reduceIte, Zj, Zk, Nat.reduceAdd, Nat.reduceLT, Nat.reduceEqDiff, Nat.reduceMul, Nat.reduceLeDiff, if_true, Zn, reduceCtorEq, ZA, eq_self, Int.reduceLE, Int.reduceLT, Int.reduceToNat, ne_eq, Nat.reduceSub, hl, hm]
    repeat refine And.intro (by omega) ?_
    intro g
    simp only [List.map_cons, List.map_nil, updL, upd, Nat.reduceEqDiff, if_true, if_false, ↓reduceIte]
    refine hK _ _ ?_; clear hK K
    refine Cd.block ?_
    refine Cd.loop (fun m ρ M => ∃ g k, k + m = l.length ∧ PairTo (n : Int) l k ∧ ρ = updL [(1, .slice (some ⟨b, f, none⟩) l.length cap), (2, .pointer (some ⟨b1, 0, none⟩)), (5, .int .i64 (k : Int))] g ∧ M = [(b1, gc (n : Int) x o)]) l.length
      ⟨_, 0, Nat.zero_add _, (fun _ h => absurd h (Nat.not_lt_zero _)), rfl, rfl⟩ ?_
    rintro m ρ M ⟨g, k, hk, hp, rfl, rfl⟩
    refine Cd.seq ?_
    refine Cd.rs [1, 2, 5, 12] fun K hK => ?_
    simp (maxSteps := 2000000) (disch := first | omega | (simp only [E4, hl, hm, *] <;> omega) | fail) only [↓E0, E1, env0, envN, evOps, evOp, evQs, evQ, evV, setD, pureOp, ev, upd, updL, binW, eqOp, binV, intOp, shOp, boolOp, lenV, hav, eqL, SameI, strOp, ↓reduceIte, Zj, Zk, Nat.reduceAdd, Nat.reduceLT, Nat.reduceEqDiff, Nat.reduceMul, Nat.reduceLeDiff, if_true, Zn, reduceCtorEq, ZA, eq_self, Int.reduceLE, Int.reduceLT, Int.reduceToNat, ne_eq, Nat.reduceSub, Tslce47, hl, hm]
    repeat refine And.intro (by omega) ?_
    intro g
    simp only [List.map_cons, List.map_nil, updL, upd, Nat.reduceEqDiff, if_true, if_false, ↓reduceIte]
    refine hK _ _ ?_; clear hK K
    refine Cd.condd rfl (fun h2 => ?_) (fun h2 => ?_)
    · have hk' : k < l.length := by omega
      have nb := hb1.old (frn_lt (hR k hk'))
      have hv := hR k hk'
      skip
      refine Cd.skip ?_
      refine thenN ?_
      refine Cd.seq ?_
      refine Cd.block ?_
      refine Cd.qs [1, 2, 5, 23] fol (by kernel_rfl) fun K hK => ?_
      simp (maxSteps := 2000000) (disch := first | omega | (simp only [E4, hl, hm, nb, hv, *] <;> omega) | fail) only [↓E0, E1, evPlan, env0, envN, evOps, evOp, evQs, evQ, evV, setD, pureOp, ev, upd, updL, binW, eqOp, binV, intOp, shOp, boolOp, unV, fieldAddrV, indexAddrV, cellAt, cellsAt, findB, setB, hav, eqL, SameI, strOp, ↓reduceIte, Zj, Zk, Nat.reduceAdd, Nat.reduceLT, Nat.reduceEqDiff, Nat.reduceMul, Nat.reduceLeDiff, if_true, Zn, reduceCtorEq, ZA, eq_self, Int.reduceLE, Int.reduceLT, Int.reduceToNat, ne_eq, Nat.reduceSub, Tfld32_0, Tld2, Tslc47, hl, hm, nb, hv]
      repeat refine And.intro (by omega) ?_
      refine callQ_gives (l01In_c _ _ _) ?_
      simp (maxSteps := 2000000) (disch := first | omega | (simp only [E4, hl, hm, nb, hv, *] <;> omega) | fail) only [↓E0, E1, evPlan, env0, envN, evOps, evOp, evQs, evQ, evV, setD, pureOp, ev, upd, updL, binW, eqOp, binV, intOp, shOp, boolOp, unV, fieldAddrV, indexAddrV, cellAt, cellsAt, findB, setB, hav, eqL, SameI, strOp, ↓reduceIte, Zj, Zk, Nat.reduceAdd, Nat.reduceLT, Nat.reduceEqDiff, Nat.reduceMul, Nat.reduceLeDiff, if_true, Zn, reduceCtorEq, ZA, eq_self, Int.reduceLE, Int.reduceLT, Int.reduceToNat, ne_eq, Nat.reduceSub, Tfld32_0, Tld2, Tslc47, hl, hm, nb, hv]
      repeat refine And.intro (by omega) ?_
      intro g
      simp only [List.map_cons, List.map_nil, updL, upd, Nat.reduceEqDiff, if_true, if_false, ↓reduceIte]
      refine hK _ ?_; clear hK K
      refine Cd.cond rfl (fun h3 => ?_) (fun h3 => ?_)
      · refine Cd.rs [4] fun K hK => ?_
        simp (maxSteps := 2000000) (disch := first | omega | (simp only [E4, hl, hm, nb, hv, *] <;> omega) | fail) only [↓E0, E1, env0, envN, evOps, evOp, evQs, evQ, evV, setD, pureOp, ev, upd, updL, hav, ↓reduceIte, Zj, Zk, Nat.reduceAdd, Nat.reduceLT, Nat.reduceEqDiff, Nat.reduceMul, Nat.reduceLeDiff, if_true, Zn, reduceCtorEq, ZA, eq_self, Int.reduceLE, Int.reduceLT, Int.reduceToNat, ne_eq, Nat.reduceSub, hl, hm, nb, hv]
        repeat refine And.intro (by omega) ?_
        intro g
        simp only [List.map_cons, List.map_nil, updL, upd, Nat.reduceEqDiff, if_true, if_false, ↓reduceIte]
        refine hK _ _ ?_; clear hK K
        refine Cd.ret (inBR (thenR (roundR (inBR (thenR ?_)))))
        simp (maxSteps := 2000000) (disch := first | omega | (simp only [E4, hl, hm, nb, hv, *] <;> omega) | fail) only [↓E0, E1, evP, evPlan, env0, envN, evOps, evOp, evQs, evQ, evV, setD, pureOp, ev, upd, updL, gate, binW, eqOp, binV, intOp, shOp, boolOp, unV, convV, nilV, fieldAddrV, indexAddrV, extractV, cellAt, cellsAt, findB, setB, fillL, buildV, Value.cells, lenV, minV, maxV, hav, sliceV, loV, hiV, bslQ, mksQ, appQ, partsOk, partsCells, delB, eqL, SameI, strOp, apzQ, cvtQ, capV, ↓reduceIte, Zj, Zk, Nat.reduceAdd, Nat.reduceLT, Nat.reduceEqDiff, Nat.reduceMul, Nat.reduceLeDiff, if_true, Zn, reduceCtorEq, ZA, eq_self, Int.reduceLE, Int.reduceLT, Int.reduceToNat, ne_eq, Nat.reduceSub, hl, hm, nb, hv]
        unfold pairC
        rw [if_pos hg, if_neg (pair_not hk' fun h => by rw [decide_eq_true h.1, decide_eq_true h.2] at h3; exact absurd h3 (by decide))]
      · refine Cd.skip ?_
        refine inBN ?_
        refine thenN ?_
        refine Cd.rr [1, 2, 5] fun K hK => ?_
        simp (maxSteps := 2000000) (disch := first | omega | (simp only [E4, hl, hm, nb, hv, *] <;> omega) | fail) only [↓E0, E1, env0, envN, evOps, evOp, evQs, evQ, evV, setD, pureOp, ev, upd, updL, binW, eqOp, binV, intOp, shOp, boolOp, hav, eqL, SameI, strOp, ↓reduceIte, Zj, Zk, Nat.reduceAdd, Nat.reduceLT, Nat.reduceEqDiff, Nat.reduceMul, Nat.reduceLeDiff, if_true, Zn, reduceCtorEq, ZA, eq_self, Int.reduceLE, Int.reduceLT, Int.reduceToNat, ne_eq, Nat.reduceSub, hl, hm, nb, hv]
        repeat refine And.intro (by omega) ?_
        intro g
        simp only [List.map_cons, List.map_nil, updL, upd, Nat.reduceEqDiff, if_true, if_false, ↓reduceIte]
        refine hK _ _ ?_; clear hK K
        exact roundN (m := m - 1) (by omega) ⟨_, k + 1, by omega, pair_succ hp (by simpa using h3), rfl, rfl⟩
    · refine Cd.exit (thenX (roundX (inBX ?_)))
      refine thenN ?_
      obtain rfl : k = l.length := by omega
      refine Cd.rs [4] fun K hK => ?_
      simp (maxSteps := 2000000) (disch := first | omega | (simp only [E4, hl, hm, *] <;> omega) | fail) only [↓E0, E1, env0, envN, evOps, evOp, evQs, evQ, evV, setD, pureOp, ev, upd, updL, hav, ↓reduceIte, Zj, Zk, Nat.reduceAdd, Nat.reduceLT, Nat.reduceEqDiff, Nat.reduceMul, Nat.reduceLeDiff, if_true, Zn, reduceCtorEq, ZA, eq_self, Int.reduceLE, Int.reduceLT, Int.reduceToNat, ne_eq, Nat.reduceSub, hl, hm]
      repeat refine And.intro (by omega) ?_
      intro g
      simp only [List.map_cons, List.map_nil, updL, upd, Nat.reduceEqDiff, if_true, if_false, ↓reduceIte]
      refine hK _ _ ?_; clear hK K
      refine Cd.ret ?_
      simp (maxSteps := 2000000) (disch := first | omega | (simp only [E4, hl, hm, *] <;> omega) | fail) only [↓E0, E1, evP, evPlan, env0, envN, evOps, evOp, evQs, evQ, evV, setD, pureOp, ev, upd, updL, gate, binW, eqOp, binV, intOp, shOp, boolOp, unV, convV, nilV, fieldAddrV, indexAddrV, extractV, cellAt, cellsAt, findB, setB, fillL, buildV, Value.cells, lenV, minV, maxV, hav, sliceV, loV, hiV, bslQ, mksQ, appQ, partsOk, partsCells, delB, eqL, SameI, strOp, apzQ, cvtQ, capV, ↓reduceIte, Zj, Zk, Nat.reduceAdd, Nat.reduceLT, Nat.reduceEqDiff, Nat.reduceMul, Nat.reduceLeDiff, if_true, Zn, reduceCtorEq, ZA, eq_self, Int.reduceLE, Int.reduceLT, Int.reduceToNat, ne_eq, Nat.reduceSub, hl, hm]
      unfold pairC
      rw [if_pos hg, if_pos (pair_all hp)]

end Go.Proofs

/-
  What the functions of this part hand back: each as a plain function of its arguments. Conditions: none.
-/
namespace Go.Proofs
open Go.W8
set_option linter.unusedVariables false
set_option linter.unusedSimpArgs false
set_option linter.unusedSectionVars false
set_option maxRecDepth 8000
set_option maxHeartbeats 4000000
theorem pair_two {s : Int} {x o : List Int} {i r : Int} (h : pairC s x o [i, r] = 0) : gridB s x o = true ∧ (0 ≤ i ∧ i ≤ s - 2) ∧ 0 ≤ r ∧ r ≤ s - 2 := by
  unfold pairC at h
  split at h
  · rename_i hg
    split at h
    · rename_i ha
      exact ⟨hg, ha i List.mem_cons_self, ha r (List.mem_cons_of_mem _ List.mem_cons_self)⟩
    · cases h
  · cases h
theorem gridB_ne {s : Int} {x o : List Int} {n : Nat} (h : gridB s x o = true) (hs : s = (n : Int)) : ∀ c, c < n → x.getD c 0 ≠ o.getD c 0 := by
  have h1 := (of_decide_eq_true h).2.2.2.2
  subst hs
  rwa [Int.toNat_natCast] at h1

def canDestR (s : Int) (x o : List Int) (i r : Int) : Value := if pairC s x o [i, r] = 0 then .tuple #[.bool (bkFind x o i.toNat r).isSome, .int .i64 0] else .tuple #[.bool false, .int .i64 (pairC s x o [i, r])]
def destR (s : Int) (x o : List Int) (i r : Int) : Value :=
  if pairC s x o [i, r] = 0 then match bkFind x o i.toNat r with
    | some k => .tuple #[.agg (gc (s - 1) (oldX x i.toNat r s.toNat k) (oldX o i.toNat r s.toNat k)).toArray, .int .i64 0]
    | none => .tuple #[.agg (gc 0 z8 z8).toArray, .int .i64 5]
  else .tuple #[.agg (gc 0 z8 z8).toArray, .int .i64 (pairC s x o [i, r])]

section
variable (s : Int) (x o : List Int) (hx : Bytes8 x) (ho : Bytes8 o) (i : Int) (wi : -9223372036854775808 ≤ i ∧ i < 9223372036854775808) (r : Int) (wr : -9223372036854775808 ≤ r ∧ r < 9223372036854775808)
include hx ho wi wr
theorem canDest_shape : ∃ b c, canDestR s x o i r = .tuple #[.bool b, .int .i64 c] := by
  unfold canDestR
  split
  · exact ⟨_, _, rfl⟩
  · exact ⟨_, _, rfl⟩
theorem implCanDestabilize_c : Gives Try.prog 27 #[.agg (gc s x o).toArray, .int .i64 i, .int .i64 r] (canDestR s x o i r) := by
  have hl := hx.len
  have hm := ho.len
  have tl := fun f : Nat → Int => tab_len f
  skip
  unfold canDestR
  refine Gives.of fun w => ?_
  refine acall_of (N := 29) (c := _) (rs := [.tmp 6, .tmp 7]) (args := [_, _, _]) Try.func27 rfl (by decide) rfl rfl (Nat.le_of_ble_eq_true rfl) ?_
  refine Cd.rs [1, 2, 3] fun K hK => ?_
  simp (maxSteps := 2000000) (disch := first | (simp only [E4, hl, hm, tl] <;> omega) | omega | fail) only [↓E2, E3, bare, bareJ, ↓E0, E1, env0, envN, evOps, evOp, evQs, evQ, evV, setD, pureOp, ev, upd, updL, Value.cells, hav, ↓reduceIte, Zj, Zk, Nat.reduceAdd, Nat.reduceLT, Nat.reduceEqDiff, Nat.reduceMul, Nat.reduceLeDiff, if_true, Zn, reduceCtorEq, ZA, eq_self, Int.reduceLE, Int.reduceLT, Int.reduceToNat, ne_eq, Nat.reduceSub, hl, hm, tl]
  repeat refine And.intro (by omega) ?_
  intro b1 hb1
  try simp (maxSteps := 2000000) (disch := first | (simp only [E4, hl, hm, tl] <;> omega) | omega | fail) only [↓E2, E3, bare, bareJ, ↓E0, E1, env0, envN, evOps, evOp, evQs, evQ, evV, setD, pureOp, ev, upd, updL, Value.cells, hav, ↓reduceIte, Zj, Zk, Nat.reduceAdd, Nat.reduceLT, Nat.reduceEqDiff, Nat.reduceMul, Nat.reduceLeDiff, if_true, Zn, reduceCtorEq, ZA, eq_self, Int.reduceLE, Int.reduceLT, Int.reduceToNat, ne_eq, Nat.reduceSub, hl, hm, tl]
  repeat refine And.intro (by omega) ?_
  intro g
  simp only [List.map_cons, List.map_nil, updL, upd, Nat.reduceEqDiff, if_true, if_false, ↓reduceIte]
  refine hK _ _ ?_; clear hK K
  refine Cd.seq ?_
  refine Cd.rs [1, 2, 3, 8] fun K hK => ?_
  simp (maxSteps := 2000000) (disch := first | (simp only [E4, hl, hm, tl] <;> omega) | omega | fail) only [↓E2, E3, bare, bareJ, ↓E0, E1, evP, env0, envN, evOps, evOp, evQs, evQ, evV, setD, pureOp, ev, upd, updL, cellAt, cellsAt, findB, setB, Value.cells, hav, bslQ, partsOk, partsCells, ↓reduceIte, Zj, Zk, Nat.reduceAdd, Nat.reduceLT, Nat.reduceEqDiff, Nat.reduceMul, Nat.reduceLeDiff, if_true, Zn, reduceCtorEq, ZA, eq_self, Int.reduceLE, Int.reduceLT, Int.reduceToNat, ne_eq, Nat.reduceSub, Tby2, Tld32, Tslc47, Tslce47, Tzero2, hl, hm, tl]
  repeat refine And.intro (by omega) ?_
  intro b2 hb2
  have nb2_b1 := hb2.ne
  try simp (maxSteps := 2000000) (disch := first | (simp only [E4, hl, hm, tl] <;> omega) | omega | fail) only [↓E2, E3, bare, bareJ, ↓E0, E1, evP, env0, envN, evOps, evOp, evQs, evQ, evV, setD, pureOp, ev, upd, updL, cellAt, cellsAt, findB, setB, Value.cells, hav, bslQ, partsOk, partsCells, ↓reduceIte, Zj, Zk, Nat.reduceAdd, Nat.reduceLT, Nat.reduceEqDiff, Nat.reduceMul, Nat.reduceLeDiff, if_true, Zn, reduceCtorEq, ZA, eq_self, Int.reduceLE, Int.reduceLT, Int.reduceToNat, ne_eq, Nat.reduceSub, Tby2, Tld32, Tslc47, Tslce47, Tzero2, hl, hm, tl, nb2_b1]
  refine callK_reads0 (isPair_c s x o hx ho b2 0 2 [i, r] (by simp)) ?_ ?_
  · exact .cons (.sub (cs := [.int .i64 i, .int .i64 r]) (by simp [findB]) rfl) .nil
  simp (maxSteps := 2000000) (disch := first | (simp only [E4, hl, hm, tl] <;> omega) | omega | fail) only [↓E2, E3, bare, bareJ, ↓E0, E1, evP, env0, envN, evOps, evOp, evQs, evQ, evV, setD, pureOp, ev, upd, updL, cellAt, cellsAt, findB, setB, Value.cells, hav, bslQ, partsOk, partsCells, ↓reduceIte, Zj, Zk, Nat.reduceAdd, Nat.reduceLT, Nat.reduceEqDiff, Nat.reduceMul, Nat.reduceLeDiff, if_true, Zn, reduceCtorEq, ZA, eq_self, Int.reduceLE, Int.reduceLT, Int.reduceToNat, ne_eq, Nat.reduceSub, Tby2, Tld32, Tslc47, Tslce47, Tzero2, hl, hm, tl, nb2_b1]
  repeat refine And.intro (by omega) ?_
  intro g
  simp only [List.map_cons, List.map_nil, updL, upd, Nat.reduceEqDiff, if_true, if_false, ↓reduceIte]
  refine hK _ _ ?_; clear hK K
  refine Cd.rs [1, 2, 3, 8, 18] fun K hK => ?_
  simp (maxSteps := 2000000) (disch := first | (simp only [E4, hl, hm, tl] <;> omega) | omega | fail) only [↓E2, E3, bare, bareJ, ↓E0, E1, env0, envN, evOps, evOp, evQs, evQ, evV, setD, pureOp, ev, upd, updL, binW, eqOp, binV, intOp, shOp, boolOp, hav, eqL, SameI, strOp, ↓reduceIte, Zj, Zk, Nat.reduceAdd, Nat.reduceLT, Nat.reduceEqDiff, Nat.reduceMul, Nat.reduceLeDiff, if_true, Zn, reduceCtorEq, ZA, eq_self, Int.reduceLE, Int.reduceLT, Int.reduceToNat, ne_eq, Nat.reduceSub, hl, hm, tl, nb2_b1]
  repeat refine And.intro (by omega) ?_
  intro g
  simp only [List.map_cons, List.map_nil, updL, upd, Nat.reduceEqDiff, if_true, if_false, ↓reduceIte]
  refine hK _ _ ?_; clear hK K
  refine Cd.cond rfl (fun h1 => ?_) (fun h1 => ?_)
  · refine Cd.rs [6, 7] fun K hK => ?_
    simp (maxSteps := 2000000) (disch := first | (simp only [E4, hl, hm, tl] <;> omega) | omega | fail) only [↓E2, E3, bare, bareJ, ↓E0, E1, env0, envN, evOps, evOp, evQs, evQ, evV, setD, pureOp, ev, upd, updL, hav, ↓reduceIte, Zj, Zk, Nat.reduceAdd, Nat.reduceLT, Nat.reduceEqDiff, Nat.reduceMul, Nat.reduceLeDiff, if_true, Zn, reduceCtorEq, ZA, eq_self, Int.reduceLE, Int.reduceLT, Int.reduceToNat, ne_eq, Nat.reduceSub, hl, hm, tl, nb2_b1]
    repeat refine And.intro (by omega) ?_
    intro g
    simp only [List.map_cons, List.map_nil, updL, upd, Nat.reduceEqDiff, if_true, if_false, ↓reduceIte]
    refine hK _ _ ?_; clear hK K
    refine Cd.ret (thenR ?_)
    simp (maxSteps := 2000000) (disch := first | (simp only [E4, hl, hm, tl] <;> omega) | omega | fail) only [↓E2, E3, bare, bareJ, ↓E0, E1, evP, evPlan, env0, envN, evOps, evOp, evQs, evQ, evV, setD, pureOp, ev, upd, updL, gate, binW, eqOp, binV, intOp, shOp, boolOp, unV, convV, nilV, fieldAddrV, indexAddrV, extractV, cellAt, cellsAt, findB, setB, fillL, buildV, Value.cells, lenV, minV, maxV, hav, sliceV, loV, hiV, bslQ, mksQ, appQ, partsOk, partsCells, delB, eqL, SameI, strOp, apzQ, cvtQ, capV, ↓reduceIte, Zj, Zk, Nat.reduceAdd, Nat.reduceLT, Nat.reduceEqDiff, Nat.reduceMul, Nat.reduceLeDiff, if_true, Zn, reduceCtorEq, ZA, eq_self, Int.reduceLE, Int.reduceLT, Int.reduceToNat, ne_eq, Nat.reduceSub, hl, hm, tl, nb2_b1]
    rw [if_neg (by simpa using h1)]
  · have h2 : pairC s x o [i, r] = 0 := by simpa using h1
    rw [if_pos h2]
    obtain ⟨hg, ⟨i0, i1⟩, r0, r1⟩ := pair_two h2
    obtain ⟨n, rfl, hn2, hn8, px, po⟩ := gridB_perm hg
    obtain ⟨j, rfl⟩ : ∃ j : Nat, i = (j : Int) := ⟨i.toNat, by omega⟩
    rw [Int.toNat_natCast]
    have hS := shrunk_c n x o hx ho hn8 px po (gridB_ne hg rfl) j (by omega) r r0 (by omega)
    unfold shrR at hS
    refine Cd.skip ?_
    refine thenN ?_
    cases hb : bkFind x o j r with
    | some k =>
      rw [hb] at hS
      unfold oldX at hS
      refine Cd.rs [11] fun K hK => ?_
      simp (maxSteps := 2000000) (disch := first | (simp only [E4, hl, hm, tl] <;> omega) | omega | fail) only [↓E2, E3, bare, bareJ, ↓E0, E1, env0, envN, evOps, evOp, evQs, evQ, evV, setD, pureOp, ev, upd, updL, extractV, cellAt, cellsAt, findB, setB, Value.cells, hav, ↓reduceIte, Zj, Zk, Nat.reduceAdd, Nat.reduceLT, Nat.reduceEqDiff, Nat.reduceMul, Nat.reduceLeDiff, if_true, Zn, reduceCtorEq, ZA, eq_self, Int.reduceLE, Int.reduceLT, Int.reduceToNat, ne_eq, Nat.reduceSub, Tld32, Tst32, Tst87, Tzero32, Tzero87, hl, hm, tl, nb2_b1]
      refine callK_gives hS ?_
      simp (maxSteps := 2000000) (disch := first | (simp only [E4, hl, hm, tl] <;> omega) | omega | fail) only [↓E2, E3, bare, bareJ, ↓E0, E1, env0, envN, evOps, evOp, evQs, evQ, evV, setD, pureOp, ev, upd, updL, extractV, cellAt, cellsAt, findB, setB, Value.cells, hav, ↓reduceIte, Zj, Zk, Nat.reduceAdd, Nat.reduceLT, Nat.reduceEqDiff, Nat.reduceMul, Nat.reduceLeDiff, if_true, Zn, reduceCtorEq, ZA, eq_self, Int.reduceLE, Int.reduceLT, Int.reduceToNat, ne_eq, Nat.reduceSub, Tld32, Tst32, Tst87, Tzero32, Tzero87, hl, hm, tl, nb2_b1]
      repeat refine And.intro (by omega) ?_
      intro b3 hb3
      have nb3_b2 := hb3.ne
      have nb3_b1 := hb3.tail.ne
      intro b4 hb4
      have nb4_b3 := hb4.ne
      have nb4_b2 := hb4.tail.ne
      have nb4_b1 := hb4.tail.tail.ne
      try simp (maxSteps := 2000000) (disch := first | (simp only [E4, hl, hm, tl] <;> omega) | omega | fail) only [↓E2, E3, bare, bareJ, ↓E0, E1, env0, envN, evOps, evOp, evQs, evQ, evV, setD, pureOp, ev, upd, updL, extractV, cellAt, cellsAt, findB, setB, Value.cells, hav, ↓reduceIte, Zj, Zk, Nat.reduceAdd, Nat.reduceLT, Nat.reduceEqDiff, Nat.reduceMul, Nat.reduceLeDiff, if_true, Zn, reduceCtorEq, ZA, eq_self, Int.reduceLE, Int.reduceLT, Int.reduceToNat, ne_eq, Nat.reduceSub, Tld32, Tst32, Tst87, Tzero32, Tzero87, hl, hm, tl, nb2_b1, nb3_b2, nb3_b1, nb4_b3, nb4_b2, nb4_b1]
      repeat refine And.intro (by omega) ?_
      intro g
      simp only [List.map_cons, List.map_nil, updL, upd, Nat.reduceEqDiff, if_true, if_false, ↓reduceIte]
      refine hK _ _ ?_; clear hK K
      refine Cd.rs [6, 7] fun K hK => ?_
      simp (maxSteps := 2000000) (disch := first | (simp only [E4, hl, hm, tl] <;> omega) | omega | fail) only [↓E2, E3, bare, bareJ, ↓E0, E1, env0, envN, evOps, evOp, evQs, evQ, evV, setD, pureOp, ev, upd, updL, hav, ↓reduceIte, Zj, Zk, Nat.reduceAdd, Nat.reduceLT, Nat.reduceEqDiff, Nat.reduceMul, Nat.reduceLeDiff, if_true, Zn, reduceCtorEq, ZA, eq_self, Int.reduceLE, Int.reduceLT, Int.reduceToNat, ne_eq, Nat.reduceSub, hl, hm, tl, nb2_b1, nb3_b2, nb3_b1, nb4_b3, nb4_b2, nb4_b1]
      repeat refine And.intro (by omega) ?_
      intro g
      simp only [List.map_cons, List.map_nil, updL, upd, Nat.reduceEqDiff, if_true, if_false, ↓reduceIte]
      refine hK _ _ ?_; clear hK K
      refine Cd.ret ?_
      simp (maxSteps := 2000000) (disch := first | (simp only [E4, hl, hm, tl] <;> omega) | omega | fail) only [↓E2, E3, bare, bareJ, ↓E0, E1, evP, evPlan, env0, envN, evOps, evOp, evQs, evQ, evV, setD, pureOp, ev, upd, updL, gate, binW, eqOp, binV, intOp, shOp, boolOp, unV, convV, nilV, fieldAddrV, indexAddrV, extractV, cellAt, cellsAt, findB, setB, fillL, buildV, Value.cells, lenV, minV, maxV, hav, sliceV, loV, hiV, bslQ, mksQ, appQ, partsOk, partsCells, delB, eqL, SameI, strOp, apzQ, cvtQ, capV, ↓reduceIte, Zj, Zk, Nat.reduceAdd, Nat.reduceLT, Nat.reduceEqDiff, Nat.reduceMul, Nat.reduceLeDiff, if_true, Zn, reduceCtorEq, ZA, eq_self, Int.reduceLE, Int.reduceLT, Int.reduceToNat, ne_eq, Nat.reduceSub, hl, hm, tl, nb2_b1, nb3_b2, nb3_b1, nb4_b3, nb4_b2, nb4_b1]
      rfl
    | none =>
      rw [hb] at hS
      refine Cd.rs [11] fun K hK => ?_
      simp (maxSteps := 2000000) (disch := first | (simp only [E4, hl, hm, tl] <;> omega) | omega | fail) only [↓E2, E3, bare, bareJ, ↓E0, E1, env0, envN, evOps, evOp, evQs, evQ, evV, setD, pureOp, ev, upd, updL, extractV, cellAt, cellsAt, findB, setB, Value.cells, hav, ↓reduceIte, Zj, Zk, Nat.reduceAdd, Nat.reduceLT, Nat.reduceEqDiff, Nat.reduceMul, Nat.reduceLeDiff, if_true, Zn, reduceCtorEq, ZA, eq_self, Int.reduceLE, Int.reduceLT, Int.reduceToNat, ne_eq, Nat.reduceSub, Tld32, Tst32, Tst87, Tzero32, Tzero87, hl, hm, tl, nb2_b1]
      refine callK_gives hS ?_
      simp (maxSteps := 2000000) (disch := first | (simp only [E4, hl, hm, tl] <;> omega) | omega | fail) only [↓E2, E3, bare, bareJ, ↓E0, E1, env0, envN, evOps, evOp, evQs, evQ, evV, setD, pureOp, ev, upd, updL, extractV, cellAt, cellsAt, findB, setB, Value.cells, hav, ↓reduceIte, Zj, Zk, Nat.reduceAdd, Nat.reduceLT, Nat.reduceEqDiff, Nat.reduceMul, Nat.reduceLeDiff, if_true, Zn, reduceCtorEq, ZA, eq_self, Int.reduceLE, Int.reduceLT, Int.reduceToNat, ne_eq, Nat.reduceSub, Tld32, Tst32, Tst87, Tzero32, Tzero87, hl, hm, tl, nb2_b1]
      repeat refine And.intro (by omega) ?_
      intro b3 hb3
      have nb3_b2 := hb3.ne
      have nb3_b1 := hb3.tail.ne
      intro b4 hb4
      have nb4_b3 := hb4.ne
      have nb4_b2 := hb4.tail.ne
      have nb4_b1 := hb4.tail.tail.ne
      try simp (maxSteps := 2000000) (disch := first | (simp only [E4, hl, hm, tl] <;> omega) | omega | fail) only [↓E2, E3, bare, bareJ, ↓E0, E1, env0, envN, evOps, evOp, evQs, evQ, evV, setD, pureOp, ev, upd, updL, extractV, cellAt, cellsAt, findB, setB, Value.cells, hav, ↓reduceIte, Zj, Zk, Nat.reduceAdd, Nat.reduceLT, Nat.reduceEqDiff, Nat.reduceMul, Nat.reduceLeDiff, if_true, Zn, reduceCtorEq, ZA, eq_self, Int.reduceLE, Int.reduceLT, Int.reduceToNat, ne_eq, Nat.reduceSub, Tld32, Tst32, Tst87, Tzero32, Tzero87, hl, hm, tl, nb2_b1, nb3_b2, nb3_b1, nb4_b3, nb4_b2, nb4_b1]
      repeat refine And.intro (by omega) ?_
      intro g
      simp only [List.map_cons, List.map_nil, updL, upd, Nat.reduceEqDiff, if_true, if_false, ↓reduceIte]
      refine hK _ _ ?_; clear hK K
      refine Cd.rs [6, 7] fun K hK => ?_
      simp (maxSteps := 2000000) (disch := first | (simp only [E4, hl, hm, tl] <;> omega) | omega | fail) only [↓E2, E3, bare, bareJ, ↓E0, E1, env0, envN, evOps, evOp, evQs, evQ, evV, setD, pureOp, ev, upd, updL, hav, ↓reduceIte, Zj, Zk, Nat.reduceAdd, Nat.reduceLT, Nat.reduceEqDiff, Nat.reduceMul, Nat.reduceLeDiff, if_true, Zn, reduceCtorEq, ZA, eq_self, Int.reduceLE, Int.reduceLT, Int.reduceToNat, ne_eq, Nat.reduceSub, hl, hm, tl, nb2_b1, nb3_b2, nb3_b1, nb4_b3, nb4_b2, nb4_b1]
      repeat refine And.intro (by omega) ?_
      intro g
      simp only [List.map_cons, List.map_nil, updL, upd, Nat.reduceEqDiff, if_true, if_false, ↓reduceIte]
      refine hK _ _ ?_; clear hK K
      refine Cd.ret ?_
      simp (maxSteps := 2000000) (disch := first | (simp only [E4, hl, hm, tl] <;> omega) | omega | fail) only [↓E2, E3, bare, bareJ, ↓E0, E1, evP, evPlan, env0, envN, evOps, evOp, evQs, evQ, evV, setD, pureOp, ev, upd, updL, gate, binW, eqOp, binV, intOp, shOp, boolOp, unV, convV, nilV, fieldAddrV, indexAddrV, extractV, cellAt, cellsAt, findB, setB, fillL, buildV, Value.cells, lenV, minV, maxV, hav, sliceV, loV, hiV, bslQ, mksQ, appQ, partsOk, partsCells, delB, eqL, SameI, strOp, apzQ, cvtQ, capV, ↓reduceIte, Zj, Zk, Nat.reduceAdd, Nat.reduceLT, Nat.reduceEqDiff, Nat.reduceMul, Nat.reduceLeDiff, if_true, Zn, reduceCtorEq, ZA, eq_self, Int.reduceLE, Int.reduceLT, Int.reduceToNat, ne_eq, Nat.reduceSub, hl, hm, tl, nb2_b1, nb3_b2, nb3_b1, nb4_b3, nb4_b2, nb4_b1]
      rfl


theorem specCanDestabilize_c : Gives Try.prog 28 #[.agg (gc s x o).toArray, .int .i64 i, .int .i64 r] (canDestR s x o i r) := by
  have hl := hx.len
  have hm := ho.len
  have tl := fun f : Nat → Int => tab_len f
  skip
  unfold canDestR
  refine Gives.of fun w => ?_
  refine acall_of (N := 29) (c := _) (rs := [.tmp 6, .tmp 7]) (args := [_, _, _]) Try.func28 rfl (by decide) rfl rfl (Nat.le_of_ble_eq_true rfl) ?_
  refine Cd.rs [1, 2, 3] fun K hK => ?_
  simp (maxSteps := 2000000) (disch := first | (simp only [E4, hl, hm, tl] <;> omega) | omega | fail) only [↓E2, E3, bare, bareJ, ↓E0, E1, env0, envN, evOps, evOp, evQs, evQ, evV, setD, pureOp, ev, upd, updL, Value.cells, hav, ↓reduceIte, Zj, Zk, Nat.reduceAdd, Nat.reduceLT, Nat.reduceEqDiff, Nat.reduceMul, Nat.reduceLeDiff, if_true, Zn, reduceCtorEq, ZA, eq_self, Int.reduceLE, Int.reduceLT, Int.reduceToNat, ne_eq, Nat.reduceSub, hl, hm, tl]
  repeat refine And.intro (by omega) ?_
  intro b1 hb1
  try simp (maxSteps := 2000000) (disch := first | (simp only [E4, hl, hm, tl] <;> omega) | omega | fail) only [↓E2, E3, bare, bareJ, ↓E0, E1, env0, envN, evOps, evOp, evQs, evQ, evV, setD, pureOp, ev, upd, updL, Value.cells, hav, ↓reduceIte, Zj, Zk, Nat.reduceAdd, Nat.reduceLT, Nat.reduceEqDiff, Nat.reduceMul, Nat.reduceLeDiff, if_true, Zn, reduceCtorEq, ZA, eq_self, Int.reduceLE, Int.reduceLT, Int.reduceToNat, ne_eq, Nat.reduceSub, hl, hm, tl]
  repeat refine And.intro (by omega) ?_
  intro g
  simp only [List.map_cons, List.map_nil, updL, upd, Nat.reduceEqDiff, if_true, if_false, ↓reduceIte]
  refine hK _ _ ?_; clear hK K
  refine Cd.seq ?_
  refine Cd.rs [1, 2, 3, 8] fun K hK => ?_
  simp (maxSteps := 2000000) (disch := first | (simp only [E4, hl, hm, tl] <;> omega) | omega | fail) only [↓E2, E3, bare, bareJ, ↓E0, E1, evP, env0, envN, evOps, evOp, evQs, evQ, evV, setD, pureOp, ev, upd, updL, cellAt, cellsAt, findB, setB, Value.cells, hav, bslQ, partsOk, partsCells, ↓reduceIte, Zj, Zk, Nat.reduceAdd, Nat.reduceLT, Nat.reduceEqDiff, Nat.reduceMul, Nat.reduceLeDiff, if_true, Zn, reduceCtorEq, ZA, eq_self, Int.reduceLE, Int.reduceLT, Int.reduceToNat, ne_eq, Nat.reduceSub, Tby2, Tld32, Tslc47, Tslce47, Tzero2, hl, hm, tl]
  repeat refine And.intro (by omega) ?_
  intro b2 hb2
  have nb2_b1 := hb2.ne
  try simp (maxSteps := 2000000) (disch := first | (simp only [E4, hl, hm, tl] <;> omega) | omega | fail) only [↓E2, E3, bare, bareJ, ↓E0, E1, evP, env0, envN, evOps, evOp, evQs, evQ, evV, setD, pureOp, ev, upd, updL, cellAt, cellsAt, findB, setB, Value.cells, hav, bslQ, partsOk, partsCells, ↓reduceIte, Zj, Zk, Nat.reduceAdd, Nat.reduceLT, Nat.reduceEqDiff, Nat.reduceMul, Nat.reduceLeDiff, if_true, Zn, reduceCtorEq, ZA, eq_self, Int.reduceLE, Int.reduceLT, Int.reduceToNat, ne_eq, Nat.reduceSub, Tby2, Tld32, Tslc47, Tslce47, Tzero2, hl, hm, tl, nb2_b1]
  refine callK_reads0 (l02Place_c s x o hx ho b2 0 2 [i, r] (by simp)) ?_ ?_
  · exact .cons (.sub (cs := [.int .i64 i, .int .i64 r]) (by simp [findB]) rfl) .nil
  simp (maxSteps := 2000000) (disch := first | (simp only [E4, hl, hm, tl] <;> omega) | omega | fail) only [↓E2, E3, bare, bareJ, ↓E0, E1, evP, env0, envN, evOps, evOp, evQs, evQ, evV, setD, pureOp, ev, upd, updL, cellAt, cellsAt, findB, setB, Value.cells, hav, bslQ, partsOk, partsCells, ↓reduceIte, Zj, Zk, Nat.reduceAdd, Nat.reduceLT, Nat.reduceEqDiff, Nat.reduceMul, Nat.reduceLeDiff, if_true, Zn, reduceCtorEq, ZA, eq_self, Int.reduceLE, Int.reduceLT, Int.reduceToNat, ne_eq, Nat.reduceSub, Tby2, Tld32, Tslc47, Tslce47, Tzero2, hl, hm, tl, nb2_b1]
  repeat refine And.intro (by omega) ?_
  intro g
  simp only [List.map_cons, List.map_nil, updL, upd, Nat.reduceEqDiff, if_true, if_false, ↓reduceIte]
  refine hK _ _ ?_; clear hK K
  refine Cd.rs [1, 2, 3, 8, 18] fun K hK => ?_
  simp (maxSteps := 2000000) (disch := first | (simp only [E4, hl, hm, tl] <;> omega) | omega | fail) only [↓E2, E3, bare, bareJ, ↓E0, E1, env0, envN, evOps, evOp, evQs, evQ, evV, setD, pureOp, ev, upd, updL, binW, eqOp, binV, intOp, shOp, boolOp, hav, eqL, SameI, strOp, ↓reduceIte, Zj, Zk, Nat.reduceAdd, Nat.reduceLT, Nat.reduceEqDiff, Nat.reduceMul, Nat.reduceLeDiff, if_true, Zn, reduceCtorEq, ZA, eq_self, Int.reduceLE, Int.reduceLT, Int.reduceToNat, ne_eq, Nat.reduceSub, hl, hm, tl, nb2_b1]
  repeat refine And.intro (by omega) ?_
  intro g
  simp only [List.map_cons, List.map_nil, updL, upd, Nat.reduceEqDiff, if_true, if_false, ↓reduceIte]
  refine hK _ _ ?_; clear hK K
  refine Cd.cond rfl (fun h1 => ?_) (fun h1 => ?_)
  · refine Cd.rs [6, 7] fun K hK => ?_
    simp (maxSteps := 2000000) (disch := first | (simp only [E4, hl, hm, tl] <;> omega) | omega | fail) only [↓E2, E3, bare, bareJ, ↓E0, E1, env0, envN, evOps, evOp, evQs, evQ, evV, setD, pureOp, ev, upd, updL, hav, ↓reduceIte, Zj, Zk, Nat.reduceAdd, Nat.reduceLT, Nat.reduceEqDiff, Nat.reduceMul, Nat.reduceLeDiff, if_true, Zn, reduceCtorEq, ZA, eq_self, Int.reduceLE, Int.reduceLT, Int.reduceToNat, ne_eq, Nat.reduceSub, hl, hm, tl, nb2_b1]
    repeat refine And.intro (by omega) ?_
    intro g
    simp only [List.map_cons, List.map_nil, updL, upd, Nat.reduceEqDiff, if_true, if_false, ↓reduceIte]
    refine hK _ _ ?_; clear hK K
    refine Cd.ret (thenR ?_)
    simp (maxSteps := 2000000) (disch := first | (simp only [E4, hl, hm, tl] <;> omega) | omega | fail) only [↓E2, E3, bare, bareJ, ↓E0, E1, evP, evPlan, env0, envN, evOps, evOp, evQs, evQ, evV, setD, pureOp, ev, upd, updL, gate, binW, eqOp, binV, intOp, shOp, boolOp, unV, convV, nilV, fieldAddrV, indexAddrV, extractV, cellAt, cellsAt, findB, setB, fillL, buildV, Value.cells, lenV, minV, maxV, hav, sliceV, loV, hiV, bslQ, mksQ, appQ, partsOk, partsCells, delB, eqL, SameI, strOp, apzQ, cvtQ, capV, ↓reduceIte, Zj, Zk, Nat.reduceAdd, Nat.reduceLT, Nat.reduceEqDiff, Nat.reduceMul, Nat.reduceLeDiff, if_true, Zn, reduceCtorEq, ZA, eq_self, Int.reduceLE, Int.reduceLT, Int.reduceToNat, ne_eq, Nat.reduceSub, hl, hm, tl, nb2_b1]
    rw [if_neg (by simpa using h1)]
  · have h2 : pairC s x o [i, r] = 0 := by simpa using h1
    rw [if_pos h2]
    obtain ⟨hg, ⟨i0, i1⟩, r0, r1⟩ := pair_two h2
    obtain ⟨n, rfl, hn2, hn8, px, po⟩ := gridB_perm hg
    obtain ⟨j, rfl⟩ : ∃ j : Nat, i = (j : Int) := ⟨i.toNat, by omega⟩
    rw [Int.toNat_natCast]
    have hS := l02Back_c n x o hx ho hn8 px po (gridB_ne hg rfl) j (by omega) r r0 (by omega)
    unfold backR at hS
    refine Cd.skip ?_
    refine thenN ?_
    cases hb : bkFind x o j r with
    | some k =>
      rw [hb] at hS
      unfold oldX at hS
      refine Cd.rs [11] fun K hK => ?_
      simp (maxSteps := 2000000) (disch := first | (simp only [E4, hl, hm, tl] <;> omega) | omega | fail) only [↓E2, E3, bare, bareJ, ↓E0, E1, env0, envN, evOps, evOp, evQs, evQ, evV, setD, pureOp, ev, upd, updL, extractV, cellAt, cellsAt, findB, setB, Value.cells, hav, ↓reduceIte, Zj, Zk, Nat.reduceAdd, Nat.reduceLT, Nat.reduceEqDiff, Nat.reduceMul, Nat.reduceLeDiff, if_true, Zn, reduceCtorEq, ZA, eq_self, Int.reduceLE, Int.reduceLT, Int.reduceToNat, ne_eq, Nat.reduceSub, Tld32, Tst32, Tst93, Tzero32, Tzero93, hl, hm, tl, nb2_b1]
      refine callK_gives hS ?_
      simp (maxSteps := 2000000) (disch := first | (simp only [E4, hl, hm, tl] <;> omega) | omega | fail) only [↓E2, E3, bare, bareJ, ↓E0, E1, env0, envN, evOps, evOp, evQs, evQ, evV, setD, pureOp, ev, upd, updL, extractV, cellAt, cellsAt, findB, setB, Value.cells, hav, ↓reduceIte, Zj, Zk, Nat.reduceAdd, Nat.reduceLT, Nat.reduceEqDiff, Nat.reduceMul, Nat.reduceLeDiff, if_true, Zn, reduceCtorEq, ZA, eq_self, Int.reduceLE, Int.reduceLT, Int.reduceToNat, ne_eq, Nat.reduceSub, Tld32, Tst32, Tst93, Tzero32, Tzero93, hl, hm, tl, nb2_b1]
      repeat refine And.intro (by omega) ?_
      intro b3 hb3
      have nb3_b2 := hb3.ne
      have nb3_b1 := hb3.tail.ne
      intro b4 hb4
      have nb4_b3 := hb4.ne
      have nb4_b2 := hb4.tail.ne
      have nb4_b1 := hb4.tail.tail.ne
      try simp (maxSteps := 2000000) (disch := first | (simp only [E4, hl, hm, tl] <;> omega) | omega | fail) only [↓E2, E3, bare, bareJ, ↓E0, E1, env0, envN, evOps, evOp, evQs, evQ, evV, setD, pureOp, ev, upd, updL, extractV, cellAt, cellsAt, findB, setB, Value.cells, hav, ↓reduceIte, Zj, Zk, Nat.reduceAdd, Nat.reduceLT, Nat.reduceEqDiff, Nat.reduceMul, Nat.reduceLeDiff, if_true, Zn, reduceCtorEq, ZA, eq_self, Int.reduceLE, Int.reduceLT, Int.reduceToNat, ne_eq, Nat.reduceSub, Tld32, Tst32, Tst93, Tzero32, Tzero93, hl, hm, tl, nb2_b1, nb3_b2, nb3_b1, nb4_b3, nb4_b2, nb4_b1]
      repeat refine And.intro (by omega) ?_
      intro g
      simp only [List.map_cons, List.map_nil, updL, upd, Nat.reduceEqDiff, if_true, if_false, ↓reduceIte]
      refine hK _ _ ?_; clear hK K
      refine Cd.rs [6, 7] fun K hK => ?_
      simp (maxSteps := 2000000) (disch := first | (simp only [E4, hl, hm, tl] <;> omega) | omega | fail) only [↓E2, E3, bare, bareJ, ↓E0, E1, env0, envN, evOps, evOp, evQs, evQ, evV, setD, pureOp, ev, upd, updL, hav, ↓reduceIte, Zj, Zk, Nat.reduceAdd, Nat.reduceLT, Nat.reduceEqDiff, Nat.reduceMul, Nat.reduceLeDiff, if_true, Zn, reduceCtorEq, ZA, eq_self, Int.reduceLE, Int.reduceLT, Int.reduceToNat, ne_eq, Nat.reduceSub, hl, hm, tl, nb2_b1, nb3_b2, nb3_b1, nb4_b3, nb4_b2, nb4_b1]
      repeat refine And.intro (by omega) ?_
      intro g
      simp only [List.map_cons, List.map_nil, updL, upd, Nat.reduceEqDiff, if_true, if_false, ↓reduceIte]
      refine hK _ _ ?_; clear hK K
      refine Cd.ret ?_
      simp (maxSteps := 2000000) (disch := first | (simp only [E4, hl, hm, tl] <;> omega) | omega | fail) only [↓E2, E3, bare, bareJ, ↓E0, E1, evP, evPlan, env0, envN, evOps, evOp, evQs, evQ, evV, setD, pureOp, ev, upd, updL, gate, binW, eqOp, binV, intOp, shOp, boolOp, unV, convV, nilV, fieldAddrV, indexAddrV, extractV, cellAt, cellsAt, findB, setB, fillL, buildV, Value.cells, lenV, minV, maxV, hav, sliceV, loV, hiV, bslQ, mksQ, appQ, partsOk, partsCells, delB, eqL, SameI, strOp, apzQ, cvtQ, capV, ↓reduceIte, Zj, Zk, Nat.reduceAdd, Nat.reduceLT, Nat.reduceEqDiff, Nat.reduceMul, Nat.reduceLeDiff, if_true, Zn, reduceCtorEq, ZA, eq_self, Int.reduceLE, Int.reduceLT, Int.reduceToNat, ne_eq, Nat.reduceSub, hl, hm, tl, nb2_b1, nb3_b2, nb3_b1, nb4_b3, nb4_b2, nb4_b1]
      rfl
    | none =>
      rw [hb] at hS
      refine Cd.rs [11] fun K hK => ?_
      simp (maxSteps := 2000000) (disch := first | (simp only [E4, hl, hm, tl] <;> omega) | omega | fail) only [↓E2, E3, bare, bareJ, ↓E0, E1, env0, envN, evOps, evOp, evQs, evQ, evV, setD, pureOp, ev, upd, updL, extractV, cellAt, cellsAt, findB, setB, Value.cells, hav, ↓reduceIte, Zj, Zk, Nat.reduceAdd, Nat.reduceLT, Nat.reduceEqDiff, Nat.reduceMul, Nat.reduceLeDiff, if_true, Zn, reduceCtorEq, ZA, eq_self, Int.reduceLE, Int.reduceLT, Int.reduceToNat, ne_eq, Nat.reduceSub, Tld32, Tst32, Tst93, Tzero32, Tzero93, hl, hm, tl, nb2_b1]
      refine callK_gives hS ?_
      simp (maxSteps := 2000000) (disch := first | (simp only [E4, hl, hm, tl] <;> omega) | omega | fail) only [↓E2, E3, bare, bareJ, ↓E0, E1, env0, envN, evOps, evOp, evQs, evQ, evV, setD, pureOp, ev, upd, updL, extractV, cellAt, cellsAt, findB, setB, Value.cells, hav, ↓reduceIte, Zj, Zk, Nat.reduceAdd, Nat.reduceLT, Nat.reduceEqDiff, Nat.reduceMul, Nat.reduceLeDiff, if_true, Zn, reduceCtorEq, ZA, eq_self, Int.reduceLE, Int.reduceLT, Int.reduceToNat, ne_eq, Nat.reduceSub, Tld32, Tst32, Tst93, Tzero32, Tzero93, hl, hm, tl, nb2_b1]
      repeat refine And.intro (by omega) ?_
      intro b3 hb3
      have nb3_b2 := hb3.ne
      have nb3_b1 := hb3.tail.ne
      intro b4 hb4
      have nb4_b3 := hb4.ne
      have nb4_b2 := hb4.tail.ne
      have nb4_b1 := hb4.tail.tail.ne
      try simp (maxSteps := 2000000) (disch := first | (simp only [E4, hl, hm, tl] <;> omega) | omega | fail) only [↓E2, E3, bare, bareJ, ↓E0, E1, env0, envN, evOps, evOp, evQs, evQ, evV, setD, pureOp, ev, upd, updL, extractV, cellAt, cellsAt, findB, setB, Value.cells, hav, ↓reduceIte, Zj, Zk, Nat.reduceAdd, Nat.reduceLT, Nat.reduceEqDiff, Nat.reduceMul, Nat.reduceLeDiff, if_true, Zn, reduceCtorEq, ZA, eq_self, Int.reduceLE, Int.reduceLT, Int.reduceToNat, ne_eq, Nat.reduceSub, Tld32, Tst32, Tst93, Tzero32, Tzero93, hl, hm, tl, nb2_b1, nb3_b2, nb3_b1, nb4_b3, nb4_b2, nb4_b1]
      repeat refine And.intro (by omega) ?_
      intro g
      simp only [List.map_cons, List.map_nil, updL, upd, Nat.reduceEqDiff, if_true, if_false, ↓reduceIte]
      refine hK _ _ ?_; clear hK K
      refine Cd.rs [6, 7] fun K hK => ?_
      simp (maxSteps := 2000000) (disch := first | (simp only [E4, hl, hm, tl] <;> omega) | omega | fail) only [↓E2, E3, bare, bareJ, ↓E0, E1, env0, envN, evOps, evOp, evQs, evQ, evV, setD, pureOp, ev, upd, updL, hav, ↓reduceIte, Zj, Zk, Nat.reduceAdd, Nat.reduceLT, Nat.reduceEqDiff, Nat.reduceMul, Nat.reduceLeDiff, if_true, Zn, reduceCtorEq, ZA, eq_self, Int.reduceLE, Int.reduceLT, Int.reduceToNat, ne_eq, Nat.reduceSub, hl, hm, tl, nb2_b1, nb3_b2, nb3_b1, nb4_b3, nb4_b2, nb4_b1]
      repeat refine And.intro (by omega) ?_
      intro g
      simp only [List.map_cons, List.map_nil, updL, upd, Nat.reduceEqDiff, if_true, if_false, ↓reduceIte]
      refine hK _ _ ?_; clear hK K
      refine Cd.ret ?_
      simp (maxSteps := 2000000) (disch := first | (simp only [E4, hl, hm, tl] <;> omega) | omega | fail) only [↓E2, E3, bare, bareJ, ↓E0, E1, evP, evPlan, env0, envN, evOps, evOp, evQs, evQ, evV, setD, pureOp, ev, upd, updL, gate, binW, eqOp, binV, intOp, shOp, boolOp, unV, convV, nilV, fieldAddrV, indexAddrV, extractV, cellAt, cellsAt, findB, setB, fillL, buildV, Value.cells, lenV, minV, maxV, hav, sliceV, loV, hiV, bslQ, mksQ, appQ, partsOk, partsCells, delB, eqL, SameI, strOp, apzQ, cvtQ, capV, ↓reduceIte, Zj, Zk, Nat.reduceAdd, Nat.reduceLT, Nat.reduceEqDiff, Nat.reduceMul, Nat.reduceLeDiff, if_true, Zn, reduceCtorEq, ZA, eq_self, Int.reduceLE, Int.reduceLT, Int.reduceToNat, ne_eq, Nat.reduceSub, hl, hm, tl, nb2_b1, nb3_b2, nb3_b1, nb4_b3, nb4_b2, nb4_b1]
      rfl


theorem implDestabilizeAt_c : Gives Try.prog 25 #[.agg (gc s x o).toArray, .int .i64 i, .int .i64 r] (destR s x o i r) := by
  have hl := hx.len
  have hm := ho.len
  have tl := fun f : Nat → Int => tab_len f
  skip
  unfold destR
  refine Gives.of fun w => ?_
  refine acall_of (N := 33) (c := _) (rs := [.cell 6 32, .tmp 7]) (args := [_, _, _]) Try.func25 rfl (by decide) rfl rfl (Nat.le_of_ble_eq_true rfl) ?_
  refine Cd.rs [1, 2, 3, 6] fun K hK => ?_
  simp (maxSteps := 2000000) (disch := first | (simp only [E4, hl, hm, tl] <;> omega) | omega | fail) only [↓E2, E3, bare, bareJ, ↓E0, E1, env0, envN, evOps, evOp, evQs, evQ, evV, setD, pureOp, ev, upd, updL, Value.cells, hav, ↓reduceIte, Zj, Zk, Nat.reduceAdd, Nat.reduceLT, Nat.reduceEqDiff, Nat.reduceMul, Nat.reduceLeDiff, if_true, Zn, reduceCtorEq, ZA, eq_self, Int.reduceLE, Int.reduceLT, Int.reduceToNat, ne_eq, Nat.reduceSub, Tzero32, hl, hm, tl]
  repeat refine And.intro (by omega) ?_
  intro b1 hb1
  intro b2 hb2
  have nb2_b1 := hb2.ne
  try simp (maxSteps := 2000000) (disch := first | (simp only [E4, hl, hm, tl] <;> omega) | omega | fail) only [↓E2, E3, bare, bareJ, ↓E0, E1, env0, envN, evOps, evOp, evQs, evQ, evV, setD, pureOp, ev, upd, updL, Value.cells, hav, ↓reduceIte, Zj, Zk, Nat.reduceAdd, Nat.reduceLT, Nat.reduceEqDiff, Nat.reduceMul, Nat.reduceLeDiff, if_true, Zn, reduceCtorEq, ZA, eq_self, Int.reduceLE, Int.reduceLT, Int.reduceToNat, ne_eq, Nat.reduceSub, Tzero32, hl, hm, tl, nb2_b1]
  repeat refine And.intro (by omega) ?_
  intro g
  simp only [List.map_cons, List.map_nil, updL, upd, Nat.reduceEqDiff, if_true, if_false, ↓reduceIte]
  refine hK _ _ ?_; clear hK K
  refine Cd.seq ?_
  refine Cd.rs [1, 2, 3, 6, 8] fun K hK => ?_
  simp (maxSteps := 2000000) (disch := first | (simp only [E4, hl, hm, tl] <;> omega) | omega | fail) only [↓E2, E3, bare, bareJ, ↓E0, E1, evP, env0, envN, evOps, evOp, evQs, evQ, evV, setD, pureOp, ev, upd, updL, cellAt, cellsAt, findB, setB, Value.cells, hav, bslQ, partsOk, partsCells, ↓reduceIte, Zj, Zk, Nat.reduceAdd, Nat.reduceLT, Nat.reduceEqDiff, Nat.reduceMul, Nat.reduceLeDiff, if_true, Zn, reduceCtorEq, ZA, eq_self, Int.reduceLE, Int.reduceLT, Int.reduceToNat, ne_eq, Nat.reduceSub, Tby2, Tld32, Tslc47, Tslce47, Tzero2, hl, hm, tl, nb2_b1]
  repeat refine And.intro (by omega) ?_
  intro b3 hb3
  have nb3_b2 := hb3.ne
  have nb3_b1 := hb3.tail.ne
  try simp (maxSteps := 2000000) (disch := first | (simp only [E4, hl, hm, tl] <;> omega) | omega | fail) only [↓E2, E3, bare, bareJ, ↓E0, E1, evP, env0, envN, evOps, evOp, evQs, evQ, evV, setD, pureOp, ev, upd, updL, cellAt, cellsAt, findB, setB, Value.cells, hav, bslQ, partsOk, partsCells, ↓reduceIte, Zj, Zk, Nat.reduceAdd, Nat.reduceLT, Nat.reduceEqDiff, Nat.reduceMul, Nat.reduceLeDiff, if_true, Zn, reduceCtorEq, ZA, eq_self, Int.reduceLE, Int.reduceLT, Int.reduceToNat, ne_eq, Nat.reduceSub, Tby2, Tld32, Tslc47, Tslce47, Tzero2, hl, hm, tl, nb2_b1, nb3_b2, nb3_b1]
  refine callK_reads0 (isPair_c s x o hx ho b3 0 2 [i, r] (by simp)) ?_ ?_
  · exact .cons (.sub (cs := [.int .i64 i, .int .i64 r]) (by simp [findB]) rfl) .nil
  simp (maxSteps := 2000000) (disch := first | (simp only [E4, hl, hm, tl] <;> omega) | omega | fail) only [↓E2, E3, bare, bareJ, ↓E0, E1, evP, env0, envN, evOps, evOp, evQs, evQ, evV, setD, pureOp, ev, upd, updL, cellAt, cellsAt, findB, setB, Value.cells, hav, bslQ, partsOk, partsCells, ↓reduceIte, Zj, Zk, Nat.reduceAdd, Nat.reduceLT, Nat.reduceEqDiff, Nat.reduceMul, Nat.reduceLeDiff, if_true, Zn, reduceCtorEq, ZA, eq_self, Int.reduceLE, Int.reduceLT, Int.reduceToNat, ne_eq, Nat.reduceSub, Tby2, Tld32, Tslc47, Tslce47, Tzero2, hl, hm, tl, nb2_b1, nb3_b2, nb3_b1]
  repeat refine And.intro (by omega) ?_
  intro g
  simp only [List.map_cons, List.map_nil, updL, upd, Nat.reduceEqDiff, if_true, if_false, ↓reduceIte]
  refine hK _ _ ?_; clear hK K
  refine Cd.rs [1, 2, 3, 6, 8, 18] fun K hK => ?_
  simp (maxSteps := 2000000) (disch := first | (simp only [E4, hl, hm, tl] <;> omega) | omega | fail) only [↓E2, E3, bare, bareJ, ↓E0, E1, env0, envN, evOps, evOp, evQs, evQ, evV, setD, pureOp, ev, upd, updL, binW, eqOp, binV, intOp, shOp, boolOp, hav, eqL, SameI, strOp, ↓reduceIte, Zj, Zk, Nat.reduceAdd, Nat.reduceLT, Nat.reduceEqDiff, Nat.reduceMul, Nat.reduceLeDiff, if_true, Zn, reduceCtorEq, ZA, eq_self, Int.reduceLE, Int.reduceLT, Int.reduceToNat, ne_eq, Nat.reduceSub, hl, hm, tl, nb2_b1, nb3_b2, nb3_b1]
  repeat refine And.intro (by omega) ?_
  intro g
  simp only [List.map_cons, List.map_nil, updL, upd, Nat.reduceEqDiff, if_true, if_false, ↓reduceIte]
  refine hK _ _ ?_; clear hK K
  refine Cd.cond rfl (fun h1 => ?_) (fun h1 => ?_)
  · refine Cd.rs [6, 7] fun K hK => ?_
    simp (maxSteps := 2000000) (disch := first | (simp only [E4, hl, hm, tl] <;> omega) | omega | fail) only [↓E2, E3, bare, bareJ, ↓E0, E1, evP, env0, envN, evOps, evOp, evQs, evQ, evV, setD, pureOp, ev, upd, updL, cellAt, cellsAt, findB, setB, fillL, buildV, Value.cells, hav, ↓reduceIte, Zj, Zk, Nat.reduceAdd, Nat.reduceLT, Nat.reduceEqDiff, Nat.reduceMul, Nat.reduceLeDiff, if_true, Zn, reduceCtorEq, ZA, eq_self, Int.reduceLE, Int.reduceLT, Int.reduceToNat, ne_eq, Nat.reduceSub, Tbld32, Tst32, hl, hm, tl, nb2_b1, nb3_b2, nb3_b1]
    repeat refine And.intro (by omega) ?_
    intro g
    simp only [List.map_cons, List.map_nil, updL, upd, Nat.reduceEqDiff, if_true, if_false, ↓reduceIte]
    refine hK _ _ ?_; clear hK K
    refine Cd.ret (thenR ?_)
    simp (maxSteps := 2000000) (disch := first | (simp only [E4, hl, hm, tl] <;> omega) | omega | fail) only [↓E2, E3, bare, bareJ, ↓E0, E1, evP, evPlan, env0, envN, evOps, evOp, evQs, evQ, evV, setD, pureOp, ev, upd, updL, gate, binW, eqOp, binV, intOp, shOp, boolOp, unV, convV, nilV, fieldAddrV, indexAddrV, extractV, cellAt, cellsAt, findB, setB, fillL, buildV, Value.cells, lenV, minV, maxV, hav, sliceV, loV, hiV, bslQ, mksQ, appQ, partsOk, partsCells, delB, eqL, SameI, strOp, apzQ, cvtQ, capV, ↓reduceIte, Zj, Zk, Nat.reduceAdd, Nat.reduceLT, Nat.reduceEqDiff, Nat.reduceMul, Nat.reduceLeDiff, if_true, Zn, reduceCtorEq, ZA, eq_self, Int.reduceLE, Int.reduceLT, Int.reduceToNat, ne_eq, Nat.reduceSub, Tld32, hl, hm, tl, nb2_b1, nb3_b2, nb3_b1]
    rw [if_neg (by simpa using h1)]
  · have h2 : pairC s x o [i, r] = 0 := by simpa using h1
    rw [if_pos h2]
    obtain ⟨hg, ⟨i0, i1⟩, r0, r1⟩ := pair_two h2
    obtain ⟨n, rfl, hn2, hn8, px, po⟩ := gridB_perm hg
    obtain ⟨j, rfl⟩ : ∃ j : Nat, i = (j : Int) := ⟨i.toNat, by omega⟩
    rw [Int.toNat_natCast, Int.toNat_natCast]
    have hS := shrunk_c n x o hx ho hn8 px po (gridB_ne hg rfl) j (by omega) r r0 (by omega)
    unfold shrR at hS
    refine Cd.skip ?_
    refine thenN ?_
    cases hb : bkFind x o j r with
    | some k =>
      rw [hb] at hS
      try rw [show ((n - 1 : Nat) : Int) = (n : Int) - 1 by omega] at hS
      unfold oldX at hS
      refine Cd.rs [6, 9, 11] fun K hK => ?_
      simp (maxSteps := 2000000) (disch := first | (simp only [E4, hl, hm, tl] <;> omega) | omega | fail) only [↓E2, E3, bare, bareJ, ↓E0, E1, env0, envN, evOps, evOp, evQs, evQ, evV, setD, pureOp, ev, upd, updL, extractV, cellAt, cellsAt, findB, setB, Value.cells, hav, ↓reduceIte, Zj, Zk, Nat.reduceAdd, Nat.reduceLT, Nat.reduceEqDiff, Nat.reduceMul, Nat.reduceLeDiff, if_true, Zn, reduceCtorEq, ZA, eq_self, Int.reduceLE, Int.reduceLT, Int.reduceToNat, ne_eq, Nat.reduceSub, Tld32, Tst32, Tst87, Tzero32, Tzero87, hl, hm, tl, nb2_b1, nb3_b2, nb3_b1]
      refine callK_gives hS ?_
      simp (maxSteps := 2000000) (disch := first | (simp only [E4, hl, hm, tl] <;> omega) | omega | fail) only [↓E2, E3, bare, bareJ, ↓E0, E1, env0, envN, evOps, evOp, evQs, evQ, evV, setD, pureOp, ev, upd, updL, extractV, cellAt, cellsAt, findB, setB, Value.cells, hav, ↓reduceIte, Zj, Zk, Nat.reduceAdd, Nat.reduceLT, Nat.reduceEqDiff, Nat.reduceMul, Nat.reduceLeDiff, if_true, Zn, reduceCtorEq, ZA, eq_self, Int.reduceLE, Int.reduceLT, Int.reduceToNat, ne_eq, Nat.reduceSub, Tld32, Tst32, Tst87, Tzero32, Tzero87, hl, hm, tl, nb2_b1, nb3_b2, nb3_b1]
      repeat refine And.intro (by omega) ?_
      intro b4 hb4
      have nb4_b3 := hb4.ne
      have nb4_b2 := hb4.tail.ne
      have nb4_b1 := hb4.tail.tail.ne
      intro b5 hb5
      have nb5_b4 := hb5.ne
      have nb5_b3 := hb5.tail.ne
      have nb5_b2 := hb5.tail.tail.ne
      have nb5_b1 := hb5.tail.tail.tail.ne
      try simp (maxSteps := 2000000) (disch := first | (simp only [E4, hl, hm, tl] <;> omega) | omega | fail) only [↓E2, E3, bare, bareJ, ↓E0, E1, env0, envN, evOps, evOp, evQs, evQ, evV, setD, pureOp, ev, upd, updL, extractV, cellAt, cellsAt, findB, setB, Value.cells, hav, ↓reduceIte, Zj, Zk, Nat.reduceAdd, Nat.reduceLT, Nat.reduceEqDiff, Nat.reduceMul, Nat.reduceLeDiff, if_true, Zn, reduceCtorEq, ZA, eq_self, Int.reduceLE, Int.reduceLT, Int.reduceToNat, ne_eq, Nat.reduceSub, Tld32, Tst32, Tst87, Tzero32, Tzero87, hl, hm, tl, nb2_b1, nb3_b2, nb3_b1, nb4_b3, nb4_b2, nb4_b1, nb5_b4, nb5_b3, nb5_b2, nb5_b1]
      repeat refine And.intro (by omega) ?_
      intro g
      simp only [List.map_cons, List.map_nil, updL, upd, Nat.reduceEqDiff, if_true, if_false, ↓reduceIte]
      refine hK _ _ ?_; clear hK K
      refine Cd.seq ?_
      refine Cd.rs [6, 9, 30] fun K hK => ?_
      simp (maxSteps := 2000000) (disch := first | (simp only [E4, hl, hm, tl] <;> omega) | omega | fail) only [↓E2, E3, bare, bareJ, ↓E0, E1, env0, envN, evOps, evOp, evQs, evQ, evV, setD, pureOp, ev, upd, updL, unV, hav, ↓reduceIte, Zj, Zk, Nat.reduceAdd, Nat.reduceLT, Nat.reduceEqDiff, Nat.reduceMul, Nat.reduceLeDiff, if_true, Zn, reduceCtorEq, ZA, eq_self, Int.reduceLE, Int.reduceLT, Int.reduceToNat, ne_eq, Nat.reduceSub, hl, hm, tl, nb2_b1, nb3_b2, nb3_b1, nb4_b3, nb4_b2, nb4_b1, nb5_b4, nb5_b3, nb5_b2, nb5_b1]
      repeat refine And.intro (by omega) ?_
      intro g
      simp only [List.map_cons, List.map_nil, updL, upd, Nat.reduceEqDiff, if_true, if_false, ↓reduceIte]
      refine hK _ _ ?_; clear hK K
      refine Cd.no rfl ?_
      refine Cd.skip ?_
      refine thenN ?_
      refine Cd.rs [6, 7] fun K hK => ?_
      simp (maxSteps := 2000000) (disch := first | (simp only [E4, hl, hm, tl] <;> omega) | omega | fail) only [↓E2, E3, bare, bareJ, ↓E0, E1, env0, envN, evOps, evOp, evQs, evQ, evV, setD, pureOp, ev, upd, updL, cellAt, cellsAt, findB, setB, Value.cells, hav, ↓reduceIte, Zj, Zk, Nat.reduceAdd, Nat.reduceLT, Nat.reduceEqDiff, Nat.reduceMul, Nat.reduceLeDiff, if_true, Zn, reduceCtorEq, ZA, eq_self, Int.reduceLE, Int.reduceLT, Int.reduceToNat, ne_eq, Nat.reduceSub, Tld32, Tst32, hl, hm, tl, nb2_b1, nb3_b2, nb3_b1, nb4_b3, nb4_b2, nb4_b1, nb5_b4, nb5_b3, nb5_b2, nb5_b1]
      repeat refine And.intro (by omega) ?_
      intro g
      simp only [List.map_cons, List.map_nil, updL, upd, Nat.reduceEqDiff, if_true, if_false, ↓reduceIte]
      refine hK _ _ ?_; clear hK K
      refine Cd.ret ?_
      simp (maxSteps := 2000000) (disch := first | (simp only [E4, hl, hm, tl] <;> omega) | omega | fail) only [↓E2, E3, bare, bareJ, ↓E0, E1, evP, evPlan, env0, envN, evOps, evOp, evQs, evQ, evV, setD, pureOp, ev, upd, updL, gate, binW, eqOp, binV, intOp, shOp, boolOp, unV, convV, nilV, fieldAddrV, indexAddrV, extractV, cellAt, cellsAt, findB, setB, fillL, buildV, Value.cells, lenV, minV, maxV, hav, sliceV, loV, hiV, bslQ, mksQ, appQ, partsOk, partsCells, delB, eqL, SameI, strOp, apzQ, cvtQ, capV, ↓reduceIte, Zj, Zk, Nat.reduceAdd, Nat.reduceLT, Nat.reduceEqDiff, Nat.reduceMul, Nat.reduceLeDiff, if_true, Zn, reduceCtorEq, ZA, eq_self, Int.reduceLE, Int.reduceLT, Int.reduceToNat, ne_eq, Nat.reduceSub, Tld32, hl, hm, tl, nb2_b1, nb3_b2, nb3_b1, nb4_b3, nb4_b2, nb4_b1, nb5_b4, nb5_b3, nb5_b2, nb5_b1]
      rfl
    | none =>
      rw [hb] at hS
      refine Cd.rs [6, 9, 11] fun K hK => ?_
      simp (maxSteps := 2000000) (disch := first | (simp only [E4, hl, hm, tl] <;> omega) | omega | fail) only [↓E2, E3, bare, bareJ, ↓E0, E1, env0, envN, evOps, evOp, evQs, evQ, evV, setD, pureOp, ev, upd, updL, extractV, cellAt, cellsAt, findB, setB, Value.cells, hav, ↓reduceIte, Zj, Zk, Nat.reduceAdd, Nat.reduceLT, Nat.reduceEqDiff, Nat.reduceMul, Nat.reduceLeDiff, if_true, Zn, reduceCtorEq, ZA, eq_self, Int.reduceLE, Int.reduceLT, Int.reduceToNat, ne_eq, Nat.reduceSub, Tld32, Tst32, Tst87, Tzero32, Tzero87, hl, hm, tl, nb2_b1, nb3_b2, nb3_b1]
      refine callK_gives hS ?_
      simp (maxSteps := 2000000) (disch := first | (simp only [E4, hl, hm, tl] <;> omega) | omega | fail) only [↓E2, E3, bare, bareJ, ↓E0, E1, env0, envN, evOps, evOp, evQs, evQ, evV, setD, pureOp, ev, upd, updL, extractV, cellAt, cellsAt, findB, setB, Value.cells, hav, ↓reduceIte, Zj, Zk, Nat.reduceAdd, Nat.reduceLT, Nat.reduceEqDiff, Nat.reduceMul, Nat.reduceLeDiff, if_true, Zn, reduceCtorEq, ZA, eq_self, Int.reduceLE, Int.reduceLT, Int.reduceToNat, ne_eq, Nat.reduceSub, Tld32, Tst32, Tst87, Tzero32, Tzero87, hl, hm, tl, nb2_b1, nb3_b2, nb3_b1]
      repeat refine And.intro (by omega) ?_
      intro b4 hb4
      have nb4_b3 := hb4.ne
      have nb4_b2 := hb4.tail.ne
      have nb4_b1 := hb4.tail.tail.ne
      intro b5 hb5
      have nb5_b4 := hb5.ne
      have nb5_b3 := hb5.tail.ne
      have nb5_b2 := hb5.tail.tail.ne
      have nb5_b1 := hb5.tail.tail.tail.ne
      try simp (maxSteps := 2000000) (disch := first | (simp only [E4, hl, hm, tl] <;> omega) | omega | fail) only [↓E2, E3, bare, bareJ, ↓E0, E1, env0, envN, evOps, evOp, evQs, evQ, evV, setD, pureOp, ev, upd, updL, extractV, cellAt, cellsAt, findB, setB, Value.cells, hav, ↓reduceIte, Zj, Zk, Nat.reduceAdd, Nat.reduceLT, Nat.reduceEqDiff, Nat.reduceMul, Nat.reduceLeDiff, if_true, Zn, reduceCtorEq, ZA, eq_self, Int.reduceLE, Int.reduceLT, Int.reduceToNat, ne_eq, Nat.reduceSub, Tld32, Tst32, Tst87, Tzero32, Tzero87, hl, hm, tl, nb2_b1, nb3_b2, nb3_b1, nb4_b3, nb4_b2, nb4_b1, nb5_b4, nb5_b3, nb5_b2, nb5_b1]
      repeat refine And.intro (by omega) ?_
      intro g
      simp only [List.map_cons, List.map_nil, updL, upd, Nat.reduceEqDiff, if_true, if_false, ↓reduceIte]
      refine hK _ _ ?_; clear hK K
      refine Cd.seq ?_
      refine Cd.rs [6, 9, 30] fun K hK => ?_
      simp (maxSteps := 2000000) (disch := first | (simp only [E4, hl, hm, tl] <;> omega) | omega | fail) only [↓E2, E3, bare, bareJ, ↓E0, E1, env0, envN, evOps, evOp, evQs, evQ, evV, setD, pureOp, ev, upd, updL, unV, hav, ↓reduceIte, Zj, Zk, Nat.reduceAdd, Nat.reduceLT, Nat.reduceEqDiff, Nat.reduceMul, Nat.reduceLeDiff, if_true, Zn, reduceCtorEq, ZA, eq_self, Int.reduceLE, Int.reduceLT, Int.reduceToNat, ne_eq, Nat.reduceSub, hl, hm, tl, nb2_b1, nb3_b2, nb3_b1, nb4_b3, nb4_b2, nb4_b1, nb5_b4, nb5_b3, nb5_b2, nb5_b1]
      repeat refine And.intro (by omega) ?_
      intro g
      simp only [List.map_cons, List.map_nil, updL, upd, Nat.reduceEqDiff, if_true, if_false, ↓reduceIte]
      refine hK _ _ ?_; clear hK K
      refine Cd.yes rfl ?_
      refine Cd.rs [6, 7] fun K hK => ?_
      simp (maxSteps := 2000000) (disch := first | (simp only [E4, hl, hm, tl] <;> omega) | omega | fail) only [↓E2, E3, bare, bareJ, ↓E0, E1, evP, env0, envN, evOps, evOp, evQs, evQ, evV, setD, pureOp, ev, upd, updL, cellAt, cellsAt, findB, setB, fillL, buildV, Value.cells, hav, ↓reduceIte, Zj, Zk, Nat.reduceAdd, Nat.reduceLT, Nat.reduceEqDiff, Nat.reduceMul, Nat.reduceLeDiff, if_true, Zn, reduceCtorEq, ZA, eq_self, Int.reduceLE, Int.reduceLT, Int.reduceToNat, ne_eq, Nat.reduceSub, Tbld32, Tst32, hl, hm, tl, nb2_b1, nb3_b2, nb3_b1, nb4_b3, nb4_b2, nb4_b1, nb5_b4, nb5_b3, nb5_b2, nb5_b1]
      repeat refine And.intro (by omega) ?_
      intro g
      simp only [List.map_cons, List.map_nil, updL, upd, Nat.reduceEqDiff, if_true, if_false, ↓reduceIte]
      refine hK _ _ ?_; clear hK K
      refine Cd.ret (thenR ?_)
      simp (maxSteps := 2000000) (disch := first | (simp only [E4, hl, hm, tl] <;> omega) | omega | fail) only [↓E2, E3, bare, bareJ, ↓E0, E1, evP, evPlan, env0, envN, evOps, evOp, evQs, evQ, evV, setD, pureOp, ev, upd, updL, gate, binW, eqOp, binV, intOp, shOp, boolOp, unV, convV, nilV, fieldAddrV, indexAddrV, extractV, cellAt, cellsAt, findB, setB, fillL, buildV, Value.cells, lenV, minV, maxV, hav, sliceV, loV, hiV, bslQ, mksQ, appQ, partsOk, partsCells, delB, eqL, SameI, strOp, apzQ, cvtQ, capV, ↓reduceIte, Zj, Zk, Nat.reduceAdd, Nat.reduceLT, Nat.reduceEqDiff, Nat.reduceMul, Nat.reduceLeDiff, if_true, Zn, reduceCtorEq, ZA, eq_self, Int.reduceLE, Int.reduceLT, Int.reduceToNat, ne_eq, Nat.reduceSub, Tld32, hl, hm, tl, nb2_b1, nb3_b2, nb3_b1, nb4_b3, nb4_b2, nb4_b1, nb5_b4, nb5_b3, nb5_b2, nb5_b1]


theorem specDestabilizeAt_c : Gives Try.prog 26 #[.agg (gc s x o).toArray, .int .i64 i, .int .i64 r] (destR s x o i r) := by
  have hl := hx.len
  have hm := ho.len
  have tl := fun f : Nat → Int => tab_len f
  skip
  unfold destR
  refine Gives.of fun w => ?_
  refine acall_of (N := 33) (c := _) (rs := [.cell 6 32, .tmp 7]) (args := [_, _, _]) Try.func26 rfl (by decide) rfl rfl (Nat.le_of_ble_eq_true rfl) ?_
  refine Cd.rs [1, 2, 3, 6] fun K hK => ?_
  simp (maxSteps := 2000000) (disch := first | (simp only [E4, hl, hm, tl] <;> omega) | omega | fail) only [↓E2, E3, bare, bareJ, ↓E0, E1, env0, envN, evOps, evOp, evQs, evQ, evV, setD, pureOp, ev, upd, updL, Value.cells, hav, ↓reduceIte, Zj, Zk, Nat.reduceAdd, Nat.reduceLT, Nat.reduceEqDiff, Nat.reduceMul, Nat.reduceLeDiff, if_true, Zn, reduceCtorEq, ZA, eq_self, Int.reduceLE, Int.reduceLT, Int.reduceToNat, ne_eq, Nat.reduceSub, Tzero32, hl, hm, tl]
  repeat refine And.intro (by omega) ?_
  intro b1 hb1
  intro b2 hb2
  have nb2_b1 := hb2.ne
  try simp (maxSteps := 2000000) (disch := first | (simp only [E4, hl, hm, tl] <;> omega) | omega | fail) only [↓E2, E3, bare, bareJ, ↓E0, E1, env0, envN, evOps, evOp, evQs, evQ, evV, setD, pureOp, ev, upd, updL, Value.cells, hav, ↓reduceIte, Zj, Zk, Nat.reduceAdd, Nat.reduceLT, Nat.reduceEqDiff, Nat.reduceMul, Nat.reduceLeDiff, if_true, Zn, reduceCtorEq, ZA, eq_self, Int.reduceLE, Int.reduceLT, Int.reduceToNat, ne_eq, Nat.reduceSub, Tzero32, hl, hm, tl, nb2_b1]
  repeat refine And.intro (by omega) ?_
  intro g
  simp only [List.map_cons, List.map_nil, updL, upd, Nat.reduceEqDiff, if_true, if_false, ↓reduceIte]
  refine hK _ _ ?_; clear hK K
  refine Cd.seq ?_
  refine Cd.rs [1, 2, 3, 6, 8] fun K hK => ?_
  simp (maxSteps := 2000000) (disch := first | (simp only [E4, hl, hm, tl] <;> omega) | omega | fail) only [↓E2, E3, bare, bareJ, ↓E0, E1, evP, env0, envN, evOps, evOp, evQs, evQ, evV, setD, pureOp, ev, upd, updL, cellAt, cellsAt, findB, setB, Value.cells, hav, bslQ, partsOk, partsCells, ↓reduceIte, Zj, Zk, Nat.reduceAdd, Nat.reduceLT, Nat.reduceEqDiff, Nat.reduceMul, Nat.reduceLeDiff, if_true, Zn, reduceCtorEq, ZA, eq_self, Int.reduceLE, Int.reduceLT, Int.reduceToNat, ne_eq, Nat.reduceSub, Tby2, Tld32, Tslc47, Tslce47, Tzero2, hl, hm, tl, nb2_b1]
  repeat refine And.intro (by omega) ?_
  intro b3 hb3
  have nb3_b2 := hb3.ne
  have nb3_b1 := hb3.tail.ne
  try simp (maxSteps := 2000000) (disch := first | (simp only [E4, hl, hm, tl] <;> omega) | omega | fail) only [↓E2, E3, bare, bareJ, ↓E0, E1, evP, env0, envN, evOps, evOp, evQs, evQ, evV, setD, pureOp, ev, upd, updL, cellAt, cellsAt, findB, setB, Value.cells, hav, bslQ, partsOk, partsCells, ↓reduceIte, Zj, Zk, Nat.reduceAdd, Nat.reduceLT, Nat.reduceEqDiff, Nat.reduceMul, Nat.reduceLeDiff, if_true, Zn, reduceCtorEq, ZA, eq_self, Int.reduceLE, Int.reduceLT, Int.reduceToNat, ne_eq, Nat.reduceSub, Tby2, Tld32, Tslc47, Tslce47, Tzero2, hl, hm, tl, nb2_b1, nb3_b2, nb3_b1]
  refine callK_reads0 (l02Place_c s x o hx ho b3 0 2 [i, r] (by simp)) ?_ ?_
  · exact .cons (.sub (cs := [.int .i64 i, .int .i64 r]) (by simp [findB]) rfl) .nil
  simp (maxSteps := 2000000) (disch := first | (simp only [E4, hl, hm, tl] <;> omega) | omega | fail) only [↓E2, E3, bare, bareJ, ↓E0, E1, evP, env0, envN, evOps, evOp, evQs, evQ, evV, setD, pureOp, ev, upd, updL, cellAt, cellsAt, findB, setB, Value.cells, hav, bslQ, partsOk, partsCells, ↓reduceIte, Zj, Zk, Nat.reduceAdd, Nat.reduceLT, Nat.reduceEqDiff, Nat.reduceMul, Nat.reduceLeDiff, if_true, Zn, reduceCtorEq, ZA, eq_self, Int.reduceLE, Int.reduceLT, Int.reduceToNat, ne_eq, Nat.reduceSub, Tby2, Tld32, Tslc47, Tslce47, Tzero2, hl, hm, tl, nb2_b1, nb3_b2, nb3_b1]
  repeat refine And.intro (by omega) ?_
  intro g
  simp only [List.map_cons, List.map_nil, updL, upd, Nat.reduceEqDiff, if_true, if_false, ↓reduceIte]
  refine hK _ _ ?_; clear hK K
  refine Cd.rs [1, 2, 3, 6, 8, 18] fun K hK => ?_
  simp (maxSteps := 2000000) (disch := first | (simp only [E4, hl, hm, tl] <;> omega) | omega | fail) only [↓E2, E3, bare, bareJ, ↓E0, E1, env0, envN, evOps, evOp, evQs, evQ, evV, setD, pureOp, ev, upd, updL, binW, eqOp, binV, intOp, shOp, boolOp, hav, eqL, SameI, strOp, ↓reduceIte, Zj, Zk, Nat.reduceAdd, Nat.reduceLT, Nat.reduceEqDiff, Nat.reduceMul, Nat.reduceLeDiff, if_true, Zn, reduceCtorEq, ZA, eq_self, Int.reduceLE, Int.reduceLT, Int.reduceToNat, ne_eq, Nat.reduceSub, hl, hm, tl, nb2_b1, nb3_b2, nb3_b1]
  repeat refine And.intro (by omega) ?_
  intro g
  simp only [List.map_cons, List.map_nil, updL, upd, Nat.reduceEqDiff, if_true, if_false, ↓reduceIte]
  refine hK _ _ ?_; clear hK K
  refine Cd.cond rfl (fun h1 => ?_) (fun h1 => ?_)
  · refine Cd.rs [6, 7] fun K hK => ?_
    simp (maxSteps := 2000000) (disch := first | (simp only [E4, hl, hm, tl] <;> omega) | omega | fail) only [↓E2, E3, bare, bareJ, ↓E0, E1, evP, env0, envN, evOps, evOp, evQs, evQ, evV, setD, pureOp, ev, upd, updL, cellAt, cellsAt, findB, setB, fillL, buildV, Value.cells, hav, ↓reduceIte, Zj, Zk, Nat.reduceAdd, Nat.reduceLT, Nat.reduceEqDiff, Nat.reduceMul, Nat.reduceLeDiff, if_true, Zn, reduceCtorEq, ZA, eq_self, Int.reduceLE, Int.reduceLT, Int.reduceToNat, ne_eq, Nat.reduceSub, Tbld32, Tst32, hl, hm, tl, nb2_b1, nb3_b2, nb3_b1]
    repeat refine And.intro (by omega) ?_
    intro g
    simp only [List.map_cons, List.map_nil, updL, upd, Nat.reduceEqDiff, if_true, if_false, ↓reduceIte]
    refine hK _ _ ?_; clear hK K
    refine Cd.ret (thenR ?_)
    simp (maxSteps := 2000000) (disch := first | (simp only [E4, hl, hm, tl] <;> omega) | omega | fail) only [↓E2, E3, bare, bareJ, ↓E0, E1, evP, evPlan, env0, envN, evOps, evOp, evQs, evQ, evV, setD, pureOp, ev, upd, updL, gate, binW, eqOp, binV, intOp, shOp, boolOp, unV, convV, nilV, fieldAddrV, indexAddrV, extractV, cellAt, cellsAt, findB, setB, fillL, buildV, Value.cells, lenV, minV, maxV, hav, sliceV, loV, hiV, bslQ, mksQ, appQ, partsOk, partsCells, delB, eqL, SameI, strOp, apzQ, cvtQ, capV, ↓reduceIte, Zj, Zk, Nat.reduceAdd, Nat.reduceLT, Nat.reduceEqDiff, Nat.reduceMul, Nat.reduceLeDiff, if_true, Zn, reduceCtorEq, ZA, eq_self, Int.reduceLE, Int.reduceLT, Int.reduceToNat, ne_eq, Nat.reduceSub, Tld32, hl, hm, tl, nb2_b1, nb3_b2, nb3_b1]
    rw [if_neg (by simpa using h1)]
  · have h2 : pairC s x o [i, r] = 0 := by simpa using h1
    rw [if_pos h2]
    obtain ⟨hg, ⟨i0, i1⟩, r0, r1⟩ := pair_two h2
    obtain ⟨n, rfl, hn2, hn8, px, po⟩ := gridB_perm hg
    obtain ⟨j, rfl⟩ : ∃ j : Nat, i = (j : Int) := ⟨i.toNat, by omega⟩
    rw [Int.toNat_natCast, Int.toNat_natCast]
    have hS := l02Back_c n x o hx ho hn8 px po (gridB_ne hg rfl) j (by omega) r r0 (by omega)
    unfold backR at hS
    refine Cd.skip ?_
    refine thenN ?_
    cases hb : bkFind x o j r with
    | some k =>
      rw [hb] at hS
      try rw [show ((n - 1 : Nat) : Int) = (n : Int) - 1 by omega] at hS
      unfold oldX at hS
      refine Cd.rs [6, 9, 11] fun K hK => ?_
      simp (maxSteps := 2000000) (disch := first | (simp only [E4, hl, hm, tl] <;> omega) | omega | fail) only [↓E2, E3, bare, bareJ, ↓E0, E1, env0, envN, evOps, evOp, evQs, evQ, evV, setD, pureOp, ev, upd, updL, extractV, cellAt, cellsAt, findB, setB, Value.cells, hav, ↓reduceIte, Zj, Zk, Nat.reduceAdd, Nat.reduceLT, Nat.reduceEqDiff, Nat.reduceMul, Nat.reduceLeDiff, if_true, Zn, reduceCtorEq, ZA, eq_self, Int.reduceLE, Int.reduceLT, Int.reduceToNat, ne_eq, Nat.reduceSub, Tld32, Tst32, Tst93, Tzero32, Tzero93, hl, hm, tl, nb2_b1, nb3_b2, nb3_b1]
      refine callK_gives hS ?_
      simp (maxSteps := 2000000) (disch := first | (simp only [E4, hl, hm, tl] <;> omega) | omega | fail) only [↓E2, E3, bare, bareJ, ↓E0, E1, env0, envN, evOps, evOp, evQs, evQ, evV, setD, pureOp, ev, upd, updL, extractV, cellAt, cellsAt, findB, setB, Value.cells, hav, ↓reduceIte, Zj, Zk, Nat.reduceAdd, Nat.reduceLT, Nat.reduceEqDiff, Nat.reduceMul, Nat.reduceLeDiff, if_true, Zn, reduceCtorEq, ZA, eq_self, Int.reduceLE, Int.reduceLT, Int.reduceToNat, ne_eq, Nat.reduceSub, Tld32, Tst32, Tst93, Tzero32, Tzero93, hl, hm, tl, nb2_b1, nb3_b2, nb3_b1]
      repeat refine And.intro (by omega) ?_
      intro b4 hb4
      have nb4_b3 := hb4.ne
      have nb4_b2 := hb4.tail.ne
      have nb4_b1 := hb4.tail.tail.ne
      intro b5 hb5
      have nb5_b4 := hb5.ne
      have nb5_b3 := hb5.tail.ne
      have nb5_b2 := hb5.tail.tail.ne
      have nb5_b1 := hb5.tail.tail.tail.ne
      try simp (maxSteps := 2000000) (disch := first | (simp only [E4, hl, hm, tl] <;> omega) | omega | fail) only [↓E2, E3, bare, bareJ, ↓E0, E1, env0, envN, evOps, evOp, evQs, evQ, evV, setD, pureOp, ev, upd, updL, extractV, cellAt, cellsAt, findB, setB, Value.cells, hav, ↓reduceIte, Zj, Zk, Nat.reduceAdd, Nat.reduceLT, Nat.reduceEqDiff, Nat.reduceMul, Nat.reduceLeDiff, if_true, Zn, reduceCtorEq, ZA, eq_self, Int.reduceLE, Int.reduceLT, Int.reduceToNat, ne_eq, Nat.reduceSub, Tld32, Tst32, Tst93, Tzero32, Tzero93, hl, hm, tl, nb2_b1, nb3_b2, nb3_b1, nb4_b3, nb4_b2, nb4_b1, nb5_b4, nb5_b3, nb5_b2, nb5_b1]
      repeat refine And.intro (by omega) ?_
      intro g
      simp only [List.map_cons, List.map_nil, updL, upd, Nat.reduceEqDiff, if_true, if_false, ↓reduceIte]
      refine hK _ _ ?_; clear hK K
      refine Cd.seq ?_
      refine Cd.rs [6, 9, 30] fun K hK => ?_
      simp (maxSteps := 2000000) (disch := first | (simp only [E4, hl, hm, tl] <;> omega) | omega | fail) only [↓E2, E3, bare, bareJ, ↓E0, E1, env0, envN, evOps, evOp, evQs, evQ, evV, setD, pureOp, ev, upd, updL, unV, hav, ↓reduceIte, Zj, Zk, Nat.reduceAdd, Nat.reduceLT, Nat.reduceEqDiff, Nat.reduceMul, Nat.reduceLeDiff, if_true, Zn, reduceCtorEq, ZA, eq_self, Int.reduceLE, Int.reduceLT, Int.reduceToNat, ne_eq, Nat.reduceSub, hl, hm, tl, nb2_b1, nb3_b2, nb3_b1, nb4_b3, nb4_b2, nb4_b1, nb5_b4, nb5_b3, nb5_b2, nb5_b1]
      repeat refine And.intro (by omega) ?_
      intro g
      simp only [List.map_cons, List.map_nil, updL, upd, Nat.reduceEqDiff, if_true, if_false, ↓reduceIte]
      refine hK _ _ ?_; clear hK K
      refine Cd.no rfl ?_
      refine Cd.skip ?_
      refine thenN ?_
      refine Cd.rs [6, 7] fun K hK => ?_
      simp (maxSteps := 2000000) (disch := first | (simp only [E4, hl, hm, tl] <;> omega) | omega | fail) only [↓E2, E3, bare, bareJ, ↓E0, E1, env0, envN, evOps, evOp, evQs, evQ, evV, setD, pureOp, ev, upd, updL, cellAt, cellsAt, findB, setB, Value.cells, hav, ↓reduceIte, Zj, Zk, Nat.reduceAdd, Nat.reduceLT, Nat.reduceEqDiff, Nat.reduceMul, Nat.reduceLeDiff, if_true, Zn, reduceCtorEq, ZA, eq_self, Int.reduceLE, Int.reduceLT, Int.reduceToNat, ne_eq, Nat.reduceSub, Tld32, Tst32, hl, hm, tl, nb2_b1, nb3_b2, nb3_b1, nb4_b3, nb4_b2, nb4_b1, nb5_b4, nb5_b3, nb5_b2, nb5_b1]
      repeat refine And.intro (by omega) ?_
      intro g
      simp only [List.map_cons, List.map_nil, updL, upd, Nat.reduceEqDiff, if_true, if_false, ↓reduceIte]
      refine hK _ _ ?_; clear hK K
      refine Cd.ret ?_
      simp (maxSteps := 2000000) (disch := first | (simp only [E4, hl, hm, tl] <;> omega) | omega | fail) only [↓E2, E3, bare, bareJ, ↓E0, E1, evP, evPlan, env0, envN, evOps, evOp, evQs, evQ, evV, setD, pureOp, ev, upd, updL, gate, binW, eqOp, binV, intOp, shOp, boolOp, unV, convV, nilV, fieldAddrV, indexAddrV, extractV, cellAt, cellsAt, findB, setB, fillL, buildV, Value.cells, lenV, minV, maxV, hav, sliceV, loV, hiV, bslQ, mksQ, appQ, partsOk, partsCells, delB, eqL, SameI, strOp, apzQ, cvtQ, capV, ↓reduceIte, Zj, Zk, Nat.reduceAdd, Nat.reduceLT, Nat.reduceEqDiff, Nat.reduceMul, Nat.reduceLeDiff, if_true, Zn, reduceCtorEq, ZA, eq_self, Int.reduceLE, Int.reduceLT, Int.reduceToNat, ne_eq, Nat.reduceSub, Tld32, hl, hm, tl, nb2_b1, nb3_b2, nb3_b1, nb4_b3, nb4_b2, nb4_b1, nb5_b4, nb5_b3, nb5_b2, nb5_b1]
      rfl
    | none =>
      rw [hb] at hS
      refine Cd.rs [6, 9, 11] fun K hK => ?_
      simp (maxSteps := 2000000) (disch := first | (simp only [E4, hl, hm, tl] <;> omega) | omega | fail) only [↓E2, E3, bare, bareJ, ↓E0, E1, env0, envN, evOps, evOp, evQs, evQ, evV, setD, pureOp, ev, upd, updL, extractV, cellAt, cellsAt, findB, setB, Value.cells, hav, ↓reduceIte, Zj, Zk, Nat.reduceAdd, Nat.reduceLT, Nat.reduceEqDiff, Nat.reduceMul, Nat.reduceLeDiff, if_true, Zn, reduceCtorEq, ZA, eq_self, Int.reduceLE, Int.reduceLT, Int.reduceToNat, ne_eq, Nat.reduceSub, Tld32, Tst32, Tst93, Tzero32, Tzero93, hl, hm, tl, nb2_b1, nb3_b2, nb3_b1]
      refine callK_gives hS ?_
      simp (maxSteps := 2000000) (disch := first | (simp only [E4, hl, hm, tl] <;> omega) | omega | fail) only [↓E2, E3, bare, bareJ, ↓E0, E1, env0, envN, evOps, evOp, evQs, evQ, evV, setD, pureOp, ev, upd, updL, extractV, cellAt, cellsAt, findB, setB, Value.cells, hav, ↓reduceIte, Zj, Zk, Nat.reduceAdd, Nat.reduceLT, Nat.reduceEqDiff, Nat.reduceMul, Nat.reduceLeDiff, if_true, Zn, reduceCtorEq, ZA, eq_self, Int.reduceLE, Int.reduceLT, Int.reduceToNat, ne_eq, Nat.reduceSub, Tld32, Tst32, Tst93, Tzero32, Tzero93, hl, hm, tl, nb2_b1, nb3_b2, nb3_b1]
      repeat refine And.intro (by omega) ?_
      intro b4 hb4
      have nb4_b3 := hb4.ne
      have nb4_b2 := hb4.tail.ne
      have nb4_b1 := hb4.tail.tail.ne
      intro b5 hb5
      have nb5_b4 := hb5.ne
      have nb5_b3 := hb5.tail.ne
      have nb5_b2 := hb5.tail.tail.ne
      have nb5_b1 := hb5.tail.tail.tail.ne
      try simp (maxSteps := 2000000) (disch := first | (simp only [E4, hl, hm, tl] <;> omega) | omega | fail) only [↓E2, E3, bare, bareJ, ↓E0, E1, env0, envN, evOps, evOp, evQs, evQ, evV, setD, pureOp, ev, upd, updL, extractV, cellAt, cellsAt, findB, setB, Value.cells, hav, ↓reduceIte, Zj, Zk, Nat.reduceAdd, Nat.reduceLT, Nat.reduceEqDiff, Nat.reduceMul, Nat.reduceLeDiff, if_true, Zn, reduceCtorEq, ZA, eq_self, Int.reduceLE, Int.reduceLT, Int.reduceToNat, ne_eq, Nat.reduceSub, Tld32, Tst32, Tst93, Tzero32, Tzero93, hl, hm, tl, nb2_b1, nb3_b2, nb3_b1, nb4_b3, nb4_b2, nb4_b1, nb5_b4, nb5_b3, nb5_b2, nb5_b1]
      repeat refine And.intro (by omega) ?_
      intro g
      simp only [List.map_cons, List.map_nil, updL, upd, Nat.reduceEqDiff, if_true, if_false, ↓reduceIte]
      refine hK _ _ ?_; clear hK K
      refine Cd.seq ?_
      refine Cd.rs [6, 9, 30] fun K hK => ?_
      simp (maxSteps := 2000000) (disch := first | (simp only [E4, hl, hm, tl] <;> omega) | omega | fail) only [↓E2, E3, bare, bareJ, ↓E0, E1, env0, envN, evOps, evOp, evQs, evQ, evV, setD, pureOp, ev, upd, updL, unV, hav, ↓reduceIte, Zj, Zk, Nat.reduceAdd, Nat.reduceLT, Nat.reduceEqDiff, Nat.reduceMul, Nat.reduceLeDiff, if_true, Zn, reduceCtorEq, ZA, eq_self, Int.reduceLE, Int.reduceLT, Int.reduceToNat, ne_eq, Nat.reduceSub, hl, hm, tl, nb2_b1, nb3_b2, nb3_b1, nb4_b3, nb4_b2, nb4_b1, nb5_b4, nb5_b3, nb5_b2, nb5_b1]
      repeat refine And.intro (by omega) ?_
      intro g
      simp only [List.map_cons, List.map_nil, updL, upd, Nat.reduceEqDiff, if_true, if_false, ↓reduceIte]
      refine hK _ _ ?_; clear hK K
      refine Cd.yes rfl ?_
      refine Cd.rs [6, 7] fun K hK => ?_
      simp (maxSteps := 2000000) (disch := first | (simp only [E4, hl, hm, tl] <;> omega) | omega | fail) only [↓E2, E3, bare, bareJ, ↓E0, E1, evP, env0, envN, evOps, evOp, evQs, evQ, evV, setD, pureOp, ev, upd, updL, cellAt, cellsAt, findB, setB, fillL, buildV, Value.cells, hav, ↓reduceIte, Zj, Zk, Nat.reduceAdd, Nat.reduceLT, Nat.reduceEqDiff, Nat.reduceMul, Nat.reduceLeDiff, if_true, Zn, reduceCtorEq, ZA, eq_self, Int.reduceLE, Int.reduceLT, Int.reduceToNat, ne_eq, Nat.reduceSub, Tbld32, Tst32, hl, hm, tl, nb2_b1, nb3_b2, nb3_b1, nb4_b3, nb4_b2, nb4_b1, nb5_b4, nb5_b3, nb5_b2, nb5_b1]
      repeat refine And.intro (by omega) ?_
      intro g
      simp only [List.map_cons, List.map_nil, updL, upd, Nat.reduceEqDiff, if_true, if_false, ↓reduceIte]
      refine hK _ _ ?_; clear hK K
      refine Cd.ret (thenR ?_)
      simp (maxSteps := 2000000) (disch := first | (simp only [E4, hl, hm, tl] <;> omega) | omega | fail) only [↓E2, E3, bare, bareJ, ↓E0, E1, evP, evPlan, env0, envN, evOps, evOp, evQs, evQ, evV, setD, pureOp, ev, upd, updL, gate, binW, eqOp, binV, intOp, shOp, boolOp, unV, convV, nilV, fieldAddrV, indexAddrV, extractV, cellAt, cellsAt, findB, setB, fillL, buildV, Value.cells, lenV, minV, maxV, hav, sliceV, loV, hiV, bslQ, mksQ, appQ, partsOk, partsCells, delB, eqL, SameI, strOp, apzQ, cvtQ, capV, ↓reduceIte, Zj, Zk, Nat.reduceAdd, Nat.reduceLT, Nat.reduceEqDiff, Nat.reduceMul, Nat.reduceLeDiff, if_true, Zn, reduceCtorEq, ZA, eq_self, Int.reduceLE, Int.reduceLT, Int.reduceToNat, ne_eq, Nat.reduceSub, Tld32, hl, hm, tl, nb2_b1, nb3_b2, nb3_b1, nb4_b3, nb4_b2, nb4_b1, nb5_b4, nb5_b3, nb5_b2, nb5_b1]


end

end Go.Proofs

/-
  What the functions of this part hand back: each as a plain function of its arguments. Conditions: none.
-/
namespace Go.Proofs
open Go.W8
set_option linter.unusedVariables false
set_option linter.unusedSimpArgs false
set_option linter.unusedSectionVars false
set_option maxRecDepth 8000
set_option maxHeartbeats 4000000
/-- What a function that asks for a grid hands back. -/
def wrapP (s : Int) (x o : List Int) (Post : Value → Blks → Prop) (z : Value) (v : Value) (M : Blks) : Prop := if gridB s x o then ResS Post 0 v M else v = .tuple #[z, .int .i64 1] ∧ M = []
theorem wrapP_yes {s : Int} {x o : List Int} {Post : Value → Blks → Prop} {z v : Value} {M : Blks} (h : gridB s x o = true) (hP : Post v M) : wrapP s x o Post z (.tuple #[v, .int .i64 0]) M := by
  unfold wrapP
  rw [if_pos h]
  exact ⟨v, rfl, hP⟩
theorem wrapP_no {s : Int} {x o : List Int} {Post : Value → Blks → Prop} {z : Value} (h : ¬ gridB s x o = true) : wrapP s x o Post z (.tuple #[z, .int .i64 1]) [] := by
  unfold wrapP
  rw [if_neg h]
  exact ⟨rfl, rfl⟩
theorem wrapP_pair {s : Int} {x o : List Int} {Post : Value → Blks → Prop} {z v : Value} {M : Blks} (h : wrapP s x o Post z v M) : ∃ u c, v = .tuple #[u, .int .i64 c] := by
  unfold wrapP at h
  split at h
  · obtain ⟨u, rfl, _⟩ := h; exact ⟨_, _, rfl⟩
  · exact ⟨_, _, h.1⟩
def codeG (s : Int) (x o : List Int) : Int := if gridB s x o then 0 else 1
theorem wrapP_res {s : Int} {x o : List Int} {Post Post' : Value → Blks → Prop} {z v : Value} {M : Blks} (h : wrapP s x o Post z v M) (h1 : gridB s x o = true → ∀ v M, Post v M → Post' v M) (h2 : ¬ gridB s x o = true → Post' z []) : ResS Post' (codeG s x o) v M := by
  unfold wrapP at h
  unfold codeG
  split at h
  · rename_i hg
    rw [if_pos hg]
    obtain ⟨u, rfl, hu⟩ := h
    exact ⟨u, rfl, h1 hg u M hu⟩
  · rename_i hg
    rw [if_neg hg]
    obtain ⟨rfl, rfl⟩ := h
    exact ⟨z, rfl, h2 hg⟩
end Go.Proofs

/-
  What the functions of this part hand back: each as a plain function of its arguments. Conditions: none.
-/
namespace Go.Proofs
open Go.W8
set_option linter.unusedVariables false
set_option linter.unusedSimpArgs false
set_option linter.unusedSectionVars false
set_option maxRecDepth 8000
set_option maxHeartbeats 4000000
theorem int64_len {l : List Int} {m : Nat} (h : (ints .i64 l).length = m * 1) : m = l.length := by
  rw [ints_length] at h; omega
/-- Numbers from k on. -/
def upK (k : Int) (n : Nat) : List Int := (List.range n).map fun (i : Nat) => k + (i : Int)
/-- The first i marked. -/
def mkK (l : List Int) (k : Int) (i : Nat) : List Int := upK k i ++ l.drop i
end Go.Proofs

/-
  What the functions of this part hand back: each as a plain function of its arguments. Conditions: none.
-/
namespace Go.Proofs
open Go.W8
set_option linter.unusedVariables false
set_option linter.unusedSimpArgs false
set_option linter.unusedSectionVars false
set_option maxRecDepth 8000
set_option maxHeartbeats 4000000
def sumL : List (List Int) → Nat
  | [] => 0
  | l :: ls => l.length + sumL ls
/-- The rows marked one behind the other. -/
def markSS (k : Int) : List (List Int) → List (List Int)
  | [] => []
  | l :: ls => upK k l.length :: markSS (k + (l.length : Int)) ls
theorem sumL_take {ll : List (List Int)} : ∀ {j : Nat} {l : List Int}, ll[j]? = some l → sumL (ll.take (j + 1)) = sumL (ll.take j) + l.length := by
  induction ll with
  | nil => intro j l h; simp at h
  | cons l0 ls ih =>
    intro j l h
    cases j with
    | zero => simp at h; subst h; simp [sumL]
    | succ j =>
      have := ih (j := j) (l := l) (by simpa using h)
      rw [List.take_succ_cons, List.take_succ_cons]
      show _ + sumL _ = _ + sumL _ + _
      omega
theorem sumL_le (ll : List (List Int)) (j : Nat) : sumL (ll.take j) ≤ sumL ll := by
  induction ll generalizing j with
  | nil => simp [sumL]
  | cons l ls ih =>
    cases j with
    | zero => simp [sumL]
    | succ j => have := ih j; simp only [List.take_succ_cons, sumL]; omega
theorem len_le_sumL {ll : List (List Int)} {j : Nat} {l : List Int} (h : ll[j]? = some l) : l.length ≤ sumL ll := by
  have h1 := sumL_take h
  have h2 := sumL_le ll (j + 1)
  omega
def mixSS (k : Int) (ll : List (List Int)) (j : Nat) : List (List Int) := (markSS k ll).take j ++ ll.drop j
end Go.Proofs

/-
  What the functions of this part hand back: each as a plain function of its arguments. Conditions: none.
-/
namespace Go.Proofs
open Go.W8
set_option linter.unusedVariables false
set_option linter.unusedSimpArgs false
set_option linter.unusedSectionVars false
set_option maxRecDepth 8000
set_option maxHeartbeats 4000000
def plRow (x o : List Int) (i : Nat) : Nat → List (List Int)
  | 0 => []
  | r + 1 => plRow x o i r ++ if (bkFind x o i (r : Int)).isSome then [[(i : Int), (r : Int)]] else []
def plTo (x o : List Int) (m : Nat) : Nat → List (List Int)
  | 0 => []
  | i + 1 => plTo x o m i ++ plRow x o i m
theorem plRow_yes {x o : List Int} {i r : Nat} (h : (bkFind x o i (r : Int)).isSome = true) : plRow x o i (r + 1) = plRow x o i r ++ [[(i : Int), (r : Int)]] := by
  show _ ++ (if _ then _ else _) = _
  rw [if_pos h]
theorem plRow_no {x o : List Int} {i r : Nat} (h : ¬ (bkFind x o i (r : Int)).isSome = true) : plRow x o i (r + 1) = plRow x o i r := by
  show _ ++ (if _ then _ else _) = _
  rw [if_neg h, List.append_nil]
theorem sumL_append : ∀ (l l' : List (List Int)), sumL (l ++ l') = sumL l + sumL l'
  | [], l' => by simp [sumL]
  | a :: l, l' => by
    simp only [List.cons_append, sumL, sumL_append l l']
    omega
theorem plRow_bound (x o : List Int) (i : Nat) : ∀ r, (plRow x o i r).length ≤ r ∧ sumL (plRow x o i r) ≤ 2 * r
  | 0 => by simp [plRow, sumL]
  | r + 1 => by
    have ih := plRow_bound x o i r
    unfold plRow
    rw [List.length_append, sumL_append]
    split
    · simp [sumL]; omega
    · simp [sumL]; omega
theorem plTo_bound (x o : List Int) (m : Nat) (hm : m ≤ 8) : ∀ i, (plTo x o m i).length ≤ 8 * i ∧ sumL (plTo x o m i) ≤ 16 * i
  | 0 => by simp [plTo, sumL]
  | i + 1 => by
    have ih := plTo_bound x o m hm i
    have := plRow_bound x o i m
    unfold plTo
    rw [List.length_append, sumL_append]
    omega
/-- A grid, a way and a truth. -/
theorem shr_shape {n : Nat} {x o : List Int} {i : Nat} {r : Int} : ∃ gv mv, shrR n x o i r = .tuple #[.agg gv, .agg mv, .bool (bkFind x o i r).isSome] ∧ gv.size = 17 ∧ Ones gv.toList ∧ mv.size = 4 ∧ Ones mv.toList := by
  unfold shrR
  have ge : ∀ (s : Int) (x o : List Int), x.length = 8 → o.length = 8 → (gc s x o).toArray.size = 17 := fun s x o h h' => by rw [List.size_toArray, gc_length, h, h']
  cases bkFind x o i r with
  | some k => exact ⟨_, _, rfl, ge _ _ _ (tab_len _) (tab_len _), gc_one _ _ _, rfl, by simp [Ones, Value.oneCell']⟩
  | none => exact ⟨_, _, rfl, ge _ _ _ rfl rfl, gc_one _ _ _, rfl, by simp [Ones, Value.oneCell']⟩
theorem back_shape {n : Nat} {x o : List Int} {i : Nat} {r : Int} : ∃ gv mv, backR n x o i r = .tuple #[.agg gv, .agg mv, .bool (bkFind x o i r).isSome] ∧ gv.size = 17 ∧ Ones gv.toList ∧ mv.size = 6 ∧ Ones mv.toList := by
  unfold backR
  have ge : ∀ (s : Int) (x o : List Int), x.length = 8 → o.length = 8 → (gc s x o).toArray.size = 17 := fun s x o h h' => by rw [List.size_toArray, gc_length, h, h']
  cases bkFind x o i r with
  | some k => exact ⟨_, _, rfl, ge _ _ _ (tab_len _) (tab_len _), gc_one _ _ _, rfl, by simp [Ones, Value.oneCell']⟩
  | none => exact ⟨_, _, rfl, ge _ _ _ rfl rfl, gc_one _ _ _, rfl, by simp [Ones, Value.oneCell']⟩
section
variable (n : Nat) (x o : List Int) (hx : Bytes8 x) (ho : Bytes8 o) (hn2 : 2 ≤ n) (hn : n ≤ 8) (px : IsPerm x n) (po : IsPerm o n) (hd : ∀ c, c < n → x.getD c 0 ≠ o.getD c 0)
include hx ho hn2 hn px po hd
theorem iDestabilizePlaces1_c : GivesX Try.prog 98 #[.agg (gc (n : Int) x o).toArray] [] [] (SlSl (plTo x o (n - 1) (n - 1))) := by
  have hl := hx.len
  have hm := ho.len
  have en : (n : Int) - 1 = ((n - 1 : Nat) : Int) := by omega
  skip
  refine GivesX.of (callable_of Try.func98 rfl (by decide)) ?_ fun w hnd hlt hR => ?_
  · simp
  refine acall_of (N := 40) (c := _) (rs := [.tmp 2]) (args := [_]) Try.func98 rfl (by decide) rfl rfl (Nat.le_of_ble_eq_true rfl) ?_
  refine Cd.rs [1] fun K hK => ?_
  simp (maxSteps := 2000000) (disch := first | (simp only [E4, hl, hm, en] <;> omega) | omega | fail) only [↓E2, E3, bare, bareJ, ↓E0, E1, env0, envN, evOps, evOp, evQs, evQ, evV, setD, pureOp, ev, upd, updL, Value.cells, hav, ↓reduceIte, Zj, Zk, Nat.reduceAdd, Nat.reduceLT, Nat.reduceEqDiff, Nat.reduceMul, Nat.reduceLeDiff, if_true, Zn, reduceCtorEq, ZA, eq_self, Int.reduceLE, Int.reduceLT, Int.reduceToNat, ne_eq, Nat.reduceSub, hl, hm, en]
  repeat refine And.intro (by omega) ?_
  intro b1 hb1
  try simp (maxSteps := 2000000) (disch := first | (simp only [E4, hl, hm, en] <;> omega) | omega | fail) only [↓E2, E3, bare, bareJ, ↓E0, E1, env0, envN, evOps, evOp, evQs, evQ, evV, setD, pureOp, ev, upd, updL, Value.cells, hav, ↓reduceIte, Zj, Zk, Nat.reduceAdd, Nat.reduceLT, Nat.reduceEqDiff, Nat.reduceMul, Nat.reduceLeDiff, if_true, Zn, reduceCtorEq, ZA, eq_self, Int.reduceLE, Int.reduceLT, Int.reduceToNat, ne_eq, Nat.reduceSub, hl, hm, en]
  repeat refine And.intro (by omega) ?_
  repeat refine And.intro (by omega) ?_
  intro g
  simp only [List.map_cons, List.map_nil, updL, upd, Nat.reduceEqDiff, if_true, if_false, ↓reduceIte]
  refine hK _ _ ?_; clear hK K
  refine Cd.rs [1, 3] fun K hK => ?_
  simp (maxSteps := 2000000) (disch := first | (simp only [E4, hl, hm, en] <;> omega) | omega | fail) only [↓E2, E3, bare, bareJ, ↓E0, E1, evP, env0, envN, evOps, evOp, evQs, evQ, evV, setD, pureOp, ev, upd, updL, Value.cells, hav, bslQ, partsOk, partsCells, ↓reduceIte, Zj, Zk, Nat.reduceAdd, Nat.reduceLT, Nat.reduceEqDiff, Nat.reduceMul, Nat.reduceLeDiff, if_true, Zn, reduceCtorEq, ZA, eq_self, Int.reduceLE, Int.reduceLT, Int.reduceToNat, ne_eq, Nat.reduceSub, Tby47, Tslc43, Tslce43, Tzero47, hl, hm, en]
  repeat refine And.intro (by omega) ?_
  intro b2 hb2
  have nb2_b1 := hb2.ne
  try simp (maxSteps := 2000000) (disch := first | (simp only [E4, hl, hm, en] <;> omega) | omega | fail) only [↓E2, E3, bare, bareJ, ↓E0, E1, evP, env0, envN, evOps, evOp, evQs, evQ, evV, setD, pureOp, ev, upd, updL, Value.cells, hav, bslQ, partsOk, partsCells, ↓reduceIte, Zj, Zk, Nat.reduceAdd, Nat.reduceLT, Nat.reduceEqDiff, Nat.reduceMul, Nat.reduceLeDiff, if_true, Zn, reduceCtorEq, ZA, eq_self, Int.reduceLE, Int.reduceLT, Int.reduceToNat, ne_eq, Nat.reduceSub, Tby47, Tslc43, Tslce43, Tzero47, hl, hm, en, nb2_b1]
  repeat refine And.intro (by omega) ?_
  repeat refine And.intro (by omega) ?_
  intro g
  simp only [List.map_cons, List.map_nil, updL, upd, Nat.reduceEqDiff, if_true, if_false, ↓reduceIte]
  refine hK _ _ ?_; clear hK K
  refine Cd.seq ?_
  refine Cd.rs [1, 3, 12, 13] fun K hK => ?_
  simp (maxSteps := 2000000) (disch := first | (simp only [E4, hl, hm, en] <;> omega) | omega | fail) only [↓E2, E3, bare, bareJ, ↓E0, E1, env0, envN, evOps, evOp, evQs, evQ, evV, setD, pureOp, ev, upd, updL, binW, eqOp, binV, intOp, shOp, boolOp, cellAt, cellsAt, findB, setB, hav, eqL, SameI, strOp, ↓reduceIte, Zj, Zk, Nat.reduceAdd, Nat.reduceLT, Nat.reduceEqDiff, Nat.reduceMul, Nat.reduceLeDiff, if_true, Zn, reduceCtorEq, ZA, eq_self, Int.reduceLE, Int.reduceLT, Int.reduceToNat, ne_eq, Nat.reduceSub, Tld32, hl, hm, en, nb2_b1]
  repeat refine And.intro (by omega) ?_
  refine callK_gives (n_c _ _ _ hl hm) ?_
  simp (maxSteps := 2000000) (disch := first | (simp only [E4, hl, hm, en] <;> omega) | omega | fail) only [↓E2, E3, bare, bareJ, ↓E0, E1, env0, envN, evOps, evOp, evQs, evQ, evV, setD, pureOp, ev, upd, updL, binW, eqOp, binV, intOp, shOp, boolOp, cellAt, cellsAt, findB, setB, hav, eqL, SameI, strOp, ↓reduceIte, Zj, Zk, Nat.reduceAdd, Nat.reduceLT, Nat.reduceEqDiff, Nat.reduceMul, Nat.reduceLeDiff, if_true, Zn, reduceCtorEq, ZA, eq_self, Int.reduceLE, Int.reduceLT, Int.reduceToNat, ne_eq, Nat.reduceSub, Tld32, hl, hm, en, nb2_b1]
  repeat refine And.intro (by omega) ?_
  repeat refine And.intro (by omega) ?_
  intro g
  simp only [List.map_cons, List.map_nil, updL, upd, Nat.reduceEqDiff, if_true, if_false, ↓reduceIte]
  refine hK _ _ ?_; clear hK K
  refine Cd.block ?_
  refine Cd.loop (fun q ρ M => ∃ g i m bo cap cs vs Mi, i + q = n - 1 ∧ Row 1 vs m cap cs ∧ RowsI (plTo x o (n - 1) i) vs Mi ∧ ρ = updL [(1, .pointer (some ⟨b1, 0, none⟩)), (3, .slice (some ⟨bo, 0, none⟩) m cap), (12, .int .i64 ((n - 1 : Nat) : Int)), (13, .int .i64 (i : Int))] g ∧
    List.Sublist ((bo, cs) :: (Mi ++ [(b1, gc (n : Int) x o)])) M) (n - 1) ⟨_, 0, 0, b2, 0, [], [], [], Nat.zero_add _, Row.nil 1, RowsI.nil, rfl, List.Sublist.refl _⟩ ?_
  rintro qo ρ M ⟨g, i, m, bo, cap, cs, vs, Mi, hi, hrow, hrows, rfl, hM⟩
  refine Cd.drop hM ?_
  clear hM M
  refine Cd.nodup fun hnd => ?_
  have f1 := findB_of (nodup_cases hnd).2 (b := b1) (cs := gc (n : Int) x o) (by simp)
  have d2 : ¬ bo = b1 := (nodup_cases hnd).1 (b1, gc (n : Int) x o) (by simp)
  skip
  skip
  clear hnd
  refine Cd.rs [1, 3, 12, 13, 14] fun K hK => ?_
  simp (maxSteps := 2000000) (disch := first | (simp only [E4, hl, hm, en, f1, d2] <;> omega) | omega | fail) only [↓E2, E3, bare, bareJ, ↓E0, E1, env0, envN, evOps, evOp, evQs, evQ, evV, setD, pureOp, ev, upd, updL, binW, eqOp, binV, intOp, shOp, boolOp, hav, eqL, SameI, strOp, ↓reduceIte, Zj, Zk, Nat.reduceAdd, Nat.reduceLT, Nat.reduceEqDiff, Nat.reduceMul, Nat.reduceLeDiff, if_true, Zn, reduceCtorEq, ZA, eq_self, Int.reduceLE, Int.reduceLT, Int.reduceToNat, ne_eq, Nat.reduceSub, hl, hm, en, nb2_b1, f1, d2]
  repeat refine And.intro (by omega) ?_
  repeat refine And.intro (by omega) ?_
  intro g
  simp only [List.map_cons, List.map_nil, updL, upd, Nat.reduceEqDiff, if_true, if_false, ↓reduceIte]
  refine hK _ _ ?_; clear hK K
  refine Cd.seq ?_
  refine Cd.condd rfl (fun h1 => ?_) (fun h1 => ?_)
  · refine Cd.skip ?_
    refine thenN ?_
    refine Cd.seq ?_
    refine Cd.block ?_
    refine Cd.rs [1, 3, 4, 12, 13] fun K hK => ?_
    simp (maxSteps := 2000000) (disch := first | (simp only [E4, hl, hm, en, f1, d2] <;> omega) | omega | fail) only [↓E2, E3, bare, bareJ, ↓E0, E1, env0, envN, evOps, evOp, evQs, evQ, evV, setD, pureOp, ev, upd, updL, hav, ↓reduceIte, Zj, Zk, Nat.reduceAdd, Nat.reduceLT, Nat.reduceEqDiff, Nat.reduceMul, Nat.reduceLeDiff, if_true, Zn, reduceCtorEq, ZA, eq_self, Int.reduceLE, Int.reduceLT, Int.reduceToNat, ne_eq, Nat.reduceSub, hl, hm, en, nb2_b1, f1, d2]
    repeat refine And.intro (by omega) ?_
    repeat refine And.intro (by omega) ?_
    intro g
    simp only [List.map_cons, List.map_nil, updL, upd, Nat.reduceEqDiff, if_true, if_false, ↓reduceIte]
    refine hK _ _ ?_; clear hK K
    refine Cd.rs [1, 3, 4, 12, 13, 18, 19] fun K hK => ?_
    simp (maxSteps := 2000000) (disch := first | (simp only [E4, hl, hm, en, f1, d2] <;> omega) | omega | fail) only [↓E2, E3, bare, bareJ, ↓E0, E1, env0, envN, evOps, evOp, evQs, evQ, evV, setD, pureOp, ev, upd, updL, binW, eqOp, binV, intOp, shOp, boolOp, cellAt, cellsAt, findB, setB, hav, eqL, SameI, strOp, ↓reduceIte, Zj, Zk, Nat.reduceAdd, Nat.reduceLT, Nat.reduceEqDiff, Nat.reduceMul, Nat.reduceLeDiff, if_true, Zn, reduceCtorEq, ZA, eq_self, Int.reduceLE, Int.reduceLT, Int.reduceToNat, ne_eq, Nat.reduceSub, Tld32, hl, hm, en, nb2_b1, f1, d2]
    repeat refine And.intro (by omega) ?_
    refine callK_gives (n_c _ _ _ hl hm) ?_
    simp (maxSteps := 2000000) (disch := first | (simp only [E4, hl, hm, en, f1, d2] <;> omega) | omega | fail) only [↓E2, E3, bare, bareJ, ↓E0, E1, env0, envN, evOps, evOp, evQs, evQ, evV, setD, pureOp, ev, upd, updL, binW, eqOp, binV, intOp, shOp, boolOp, cellAt, cellsAt, findB, setB, hav, eqL, SameI, strOp, ↓reduceIte, Zj, Zk, Nat.reduceAdd, Nat.reduceLT, Nat.reduceEqDiff, Nat.reduceMul, Nat.reduceLeDiff, if_true, Zn, reduceCtorEq, ZA, eq_self, Int.reduceLE, Int.reduceLT, Int.reduceToNat, ne_eq, Nat.reduceSub, Tld32, hl, hm, en, nb2_b1, f1, d2]
    repeat refine And.intro (by omega) ?_
    repeat refine And.intro (by omega) ?_
    intro g
    simp only [List.map_cons, List.map_nil, updL, upd, Nat.reduceEqDiff, if_true, if_false, ↓reduceIte]
    refine hK _ _ ?_; clear hK K
    refine Cd.block ?_
    refine Cd.loop (fun q ρ M => ∃ g r m bo cap cs vs Mi, r + q = n - 1 ∧ Row 1 vs m cap cs ∧ RowsI (plTo x o (n - 1) i ++ plRow x o i r) vs Mi ∧ ρ = updL [(1, .pointer (some ⟨b1, 0, none⟩)), (3, .slice (some ⟨bo, 0, none⟩) m cap), (4, .int .i64 (i : Int)), (12, .int .i64 ((n - 1 : Nat) : Int)), (13, .int .i64 (i : Int)), (18, .int .i64 ((n - 1 : Nat) : Int)), (19, .int .i64 (r : Int))] g ∧
      List.Sublist ((bo, cs) :: (Mi ++ [(b1, gc (n : Int) x o)])) M) (n - 1) ⟨_, 0, m, bo, cap, cs, vs, Mi, Nat.zero_add _, hrow, by rw [show plRow x o i 0 = [] from rfl, List.append_nil]; exact hrows, rfl, List.Sublist.refl _⟩ ?_
    clear f1 d2 hrow hrows
    rintro q ρ M ⟨g, r, m, bo, cap, cs, vs, Mi, hr, hrow, hrows, rfl, hM⟩
    refine Cd.drop hM ?_
    clear hM M
    refine Cd.nodup fun hnd => ?_
    have f1 := findB_of (nodup_cases hnd).2 (b := b1) (cs := gc (n : Int) x o) (by simp)
    have d2 : ¬ bo = b1 := (nodup_cases hnd).1 (b1, gc (n : Int) x o) (by simp)
    skip
    skip
    clear hnd
    have hv := hrow.len1
    have hv' := hrows.len
    have pb := plTo_bound x o (n - 1) (by omega) i
    have pr := plRow_bound x o i r
    rw [List.length_append] at hv'
    refine Cd.rs [1, 3, 4, 12, 13, 18, 19, 20] fun K hK => ?_
    simp (maxSteps := 2000000) (disch := first | (simp only [E4, hl, hm, en, f1, d2] <;> omega) | omega | fail) only [↓E2, E3, bare, bareJ, ↓E0, E1, env0, envN, evOps, evOp, evQs, evQ, evV, setD, pureOp, ev, upd, updL, binW, eqOp, binV, intOp, shOp, boolOp, hav, eqL, SameI, strOp, ↓reduceIte, Zj, Zk, Nat.reduceAdd, Nat.reduceLT, Nat.reduceEqDiff, Nat.reduceMul, Nat.reduceLeDiff, if_true, Zn, reduceCtorEq, ZA, eq_self, Int.reduceLE, Int.reduceLT, Int.reduceToNat, ne_eq, Nat.reduceSub, hl, hm, en, nb2_b1, f1, d2]
    repeat refine And.intro (by omega) ?_
    repeat refine And.intro (by omega) ?_
    intro g
    simp only [List.map_cons, List.map_nil, updL, upd, Nat.reduceEqDiff, if_true, if_false, ↓reduceIte]
    refine hK _ _ ?_; clear hK K
    refine Cd.seq ?_
    refine Cd.condd rfl (fun h2 => ?_) (fun h2 => ?_)
    · have s1 := hrow.size1
      have s2 := hrow.le
      have hS := shrunk_c n x o hx ho hn px po hd i (by omega) (r : Int) (by omega) (by omega)
      obtain ⟨gv, mv, hR, g1, g2, m1, m2⟩ := shr_shape (n := n) (x := x) (o := o) (i := i) (r := (r : Int))
      rw [hR] at hS
      have g3 : gv.toList.length = 17 := g1
      have m3 : mv.toList.length = 4 := m1
      refine Cd.skip ?_
      refine thenN ?_
      refine Cd.seq ?_
      refine Cd.block ?_
      refine Cd.rs [1, 3, 4, 5, 12, 13, 18, 19] fun K hK => ?_
      simp (maxSteps := 2000000) (disch := first | (simp only [E4, hl, hm, en, f1, d2] <;> omega) | omega | fail) only [↓E2, E3, bare, bareJ, ↓E0, E1, env0, envN, evOps, evOp, evQs, evQ, evV, setD, pureOp, ev, upd, updL, hav, ↓reduceIte, Zj, Zk, Nat.reduceAdd, Nat.reduceLT, Nat.reduceEqDiff, Nat.reduceMul, Nat.reduceLeDiff, if_true, Zn, reduceCtorEq, ZA, eq_self, Int.reduceLE, Int.reduceLT, Int.reduceToNat, ne_eq, Nat.reduceSub, hl, hm, en, nb2_b1, f1, d2]
      repeat refine And.intro (by omega) ?_
      repeat refine And.intro (by omega) ?_
      intro g
      simp only [List.map_cons, List.map_nil, updL, upd, Nat.reduceEqDiff, if_true, if_false, ↓reduceIte]
      refine hK _ _ ?_; clear hK K
      skip
      refine Cd.rs [1, 3, 4, 5, 8, 12, 13, 18, 19] fun K hK => ?_
      simp (maxSteps := 2000000) (disch := first | (simp only [E4, hl, hm, en, f1, d2, g1, g2, m1, m2, g3, m3] <;> omega) | omega | fail) only [↓E2, E3, bare, bareJ, ↓E0, E1, env0, envN, evOps, evOp, evQs, evQ, evV, setD, pureOp, ev, upd, updL, extractV, cellAt, cellsAt, findB, setB, Value.cells, hav, ↓reduceIte, Zj, Zk, Nat.reduceAdd, Nat.reduceLT, Nat.reduceEqDiff, Nat.reduceMul, Nat.reduceLeDiff, if_true, Zn, reduceCtorEq, ZA, eq_self, Int.reduceLE, Int.reduceLT, Int.reduceToNat, ne_eq, Nat.reduceSub, Tld32, Tst32, Tst87, Tzero32, Tzero87, hl, hm, en, nb2_b1, f1, d2, g1, g2, m1, m2, g3, m3]
      repeat refine And.intro (by omega) ?_
      refine callK_gives hS ?_
      simp (maxSteps := 2000000) (disch := first | (simp only [E4, hl, hm, en, f1, d2, g1, g2, m1, m2, g3, m3] <;> omega) | omega | fail) only [↓E2, E3, bare, bareJ, ↓E0, E1, env0, envN, evOps, evOp, evQs, evQ, evV, setD, pureOp, ev, upd, updL, extractV, cellAt, cellsAt, findB, setB, Value.cells, hav, ↓reduceIte, Zj, Zk, Nat.reduceAdd, Nat.reduceLT, Nat.reduceEqDiff, Nat.reduceMul, Nat.reduceLeDiff, if_true, Zn, reduceCtorEq, ZA, eq_self, Int.reduceLE, Int.reduceLT, Int.reduceToNat, ne_eq, Nat.reduceSub, Tld32, Tst32, Tst87, Tzero32, Tzero87, hl, hm, en, nb2_b1, f1, d2, g1, g2, m1, m2, g3, m3]
      repeat refine And.intro (by omega) ?_
      intro b3 hb3
      have nb3_bo := hb3.ne
      intro b4 hb4
      have nb4_b3 := hb4.ne
      have nb4_bo := hb4.tail.ne
      try simp (maxSteps := 2000000) (disch := first | (simp only [E4, hl, hm, en, f1, d2, g1, g2, m1, m2, g3, m3] <;> omega) | omega | fail) only [↓E2, E3, bare, bareJ, ↓E0, E1, env0, envN, evOps, evOp, evQs, evQ, evV, setD, pureOp, ev, upd, updL, extractV, cellAt, cellsAt, findB, setB, Value.cells, hav, ↓reduceIte, Zj, Zk, Nat.reduceAdd, Nat.reduceLT, Nat.reduceEqDiff, Nat.reduceMul, Nat.reduceLeDiff, if_true, Zn, reduceCtorEq, ZA, eq_self, Int.reduceLE, Int.reduceLT, Int.reduceToNat, ne_eq, Nat.reduceSub, Tld32, Tst32, Tst87, Tzero32, Tzero87, hl, hm, en, nb2_b1, f1, d2, g1, g2, m1, m2, g3, m3, nb3_bo, nb4_b3, nb4_bo]
      repeat refine And.intro (by omega) ?_
      repeat refine And.intro (by omega) ?_
      intro g
      simp only [List.map_cons, List.map_nil, updL, upd, Nat.reduceEqDiff, if_true, if_false, ↓reduceIte]
      refine hK _ _ ?_; clear hK K
      refine Cd.drop (List.Sublist.cons _ (List.Sublist.cons _ (List.Sublist.refl _))) ?_
      skip
      refine Cd.rs [1, 3, 4, 5, 12, 13, 18, 19, 30] fun K hK => ?_
      simp (maxSteps := 2000000) (disch := first | (simp only [E4, hl, hm, en, f1, d2, g1, g2, m1, m2, g3, m3] <;> omega) | omega | fail) only [↓E2, E3, bare, bareJ, ↓E0, E1, env0, envN, evOps, evOp, evQs, evQ, evV, setD, pureOp, ev, upd, updL, hav, ↓reduceIte, Zj, Zk, Nat.reduceAdd, Nat.reduceLT, Nat.reduceEqDiff, Nat.reduceMul, Nat.reduceLeDiff, if_true, Zn, reduceCtorEq, ZA, eq_self, Int.reduceLE, Int.reduceLT, Int.reduceToNat, ne_eq, Nat.reduceSub, hl, hm, en, nb2_b1, f1, d2, g1, g2, m1, m2, g3, m3, nb3_bo, nb4_b3, nb4_bo]
      repeat refine And.intro (by omega) ?_
      repeat refine And.intro (by omega) ?_
      intro g
      simp only [List.map_cons, List.map_nil, updL, upd, Nat.reduceEqDiff, if_true, if_false, ↓reduceIte]
      refine hK _ _ ?_; clear hK K
      refine Cd.cond rfl (fun h3 => ?_) (fun h3 => ?_)
      · refine Cd.rr [1, 3, 4, 12, 13, 18, 19] fun K hK => ?_
        simp (maxSteps := 2000000) (disch := first | (simp only [E4, hl, hm, en, f1, d2, g1, g2, m1, m2, g3, m3] <;> omega) | omega | fail) only [↓E2, E3, bare, bareJ, ↓E0, E1, evP, env0, envN, evOps, evOp, evQs, evQ, evV, setD, pureOp, ev, upd, updL, cellAt, cellsAt, findB, Value.cells, lenV, hav, bslQ, appQ, partsOk, partsCells, delB, apzQ, ↓reduceIte, Zj, Zk, Nat.reduceAdd, Nat.reduceLT, Nat.reduceEqDiff, Nat.reduceMul, Nat.reduceLeDiff, if_true, Zn, reduceCtorEq, ZA, eq_self, Int.reduceLE, Int.reduceLT, Int.reduceToNat, ne_eq, Nat.reduceSub, Tby2, Tby47, Tslc43, Tslc47, Tslce43, Tslce47, Tzero2, Tzero47, hl, hm, en, nb2_b1, f1, d2, g1, g2, m1, m2, g3, m3, nb3_bo, nb4_b3, nb4_bo]
        repeat refine And.intro (by omega) ?_
        intro b5 hb5
        have nb5_bo := hb5.ne
        intro b6 hb6
        have nb6_b5 := hb6.ne
        have nb6_bo := hb6.tail.ne
        try simp (maxSteps := 2000000) (disch := first | (simp only [E4, hl, hm, en, f1, d2, g1, g2, m1, m2, g3, m3] <;> omega) | omega | fail) only [↓E2, E3, bare, bareJ, ↓E0, E1, evP, env0, envN, evOps, evOp, evQs, evQ, evV, setD, pureOp, ev, upd, updL, cellAt, cellsAt, findB, Value.cells, lenV, hav, bslQ, appQ, partsOk, partsCells, delB, apzQ, ↓reduceIte, Zj, Zk, Nat.reduceAdd, Nat.reduceLT, Nat.reduceEqDiff, Nat.reduceMul, Nat.reduceLeDiff, if_true, Zn, reduceCtorEq, ZA, eq_self, Int.reduceLE, Int.reduceLT, Int.reduceToNat, ne_eq, Nat.reduceSub, Tby2, Tby47, Tslc43, Tslc47, Tslce43, Tslce47, Tzero2, Tzero47, hl, hm, en, nb2_b1, f1, d2, g1, g2, m1, m2, g3, m3, nb3_bo, nb4_b3, nb4_bo, nb5_bo, nb6_b5, nb6_bo]
        repeat refine And.intro (by omega) ?_
        intro b' cap' rest' hf hc hr'
        have hr2 := hrow.snoc1 (news := [.slice (some ⟨b5, 0, none⟩) 2 2]) rfl hc hr'
        repeat refine And.intro (by omega) ?_
        intro g
        simp only [List.map_cons, List.map_nil, updL, upd, Nat.reduceEqDiff, if_true, if_false, ↓reduceIte]
        refine hK _ _ ?_; clear hK K
        refine inBN ?_
        refine thenN ?_
        refine Cd.rr [1, 3, 4, 12, 13, 18, 19] fun K hK => ?_
        simp (maxSteps := 2000000) (disch := first | (simp only [E4, hl, hm, en, f1, d2, g1, g2, m1, m2, g3, m3] <;> omega) | omega | fail) only [↓E2, E3, bare, bareJ, ↓E0, E1, env0, envN, evOps, evOp, evQs, evQ, evV, setD, pureOp, ev, upd, updL, binW, eqOp, binV, intOp, shOp, boolOp, hav, eqL, SameI, strOp, ↓reduceIte, Zj, Zk, Nat.reduceAdd, Nat.reduceLT, Nat.reduceEqDiff, Nat.reduceMul, Nat.reduceLeDiff, if_true, Zn, reduceCtorEq, ZA, eq_self, Int.reduceLE, Int.reduceLT, Int.reduceToNat, ne_eq, Nat.reduceSub, hl, hm, en, nb2_b1, f1, d2, g1, g2, m1, m2, g3, m3, nb3_bo, nb4_b3, nb4_bo, nb5_bo, nb6_b5, nb6_bo]
        repeat refine And.intro (by omega) ?_
        repeat refine And.intro (by omega) ?_
        intro g
        simp only [List.map_cons, List.map_nil, updL, upd, Nat.reduceEqDiff, if_true, if_false, ↓reduceIte]
        refine hK _ _ ?_; clear hK K
        refine roundN (m := q - 1) (by omega) ⟨_, r + 1, m + 1, b', cap', _, _, (b5, [.int .i64 (i : Int), .int .i64 (r : Int)]) :: Mi, by omega, hr2, ?_, rfl, List.Sublist.cons_cons _ (List.Sublist.cons _ (List.Sublist.refl _))⟩
        rw [plRow_yes h3, ← List.append_assoc]
        exact .snoc hrows (SlN.row (Row.full (l := ints .i64 [(i : Int), (r : Int)]) rfl))
      · refine Cd.skip ?_
        refine inBN ?_
        refine thenN ?_
        refine Cd.rr [1, 3, 4, 12, 13, 18, 19] fun K hK => ?_
        simp (maxSteps := 2000000) (disch := first | (simp only [E4, hl, hm, en, f1, d2, g1, g2, m1, m2, g3, m3] <;> omega) | omega | fail) only [↓E2, E3, bare, bareJ, ↓E0, E1, env0, envN, evOps, evOp, evQs, evQ, evV, setD, pureOp, ev, upd, updL, binW, eqOp, binV, intOp, shOp, boolOp, hav, eqL, SameI, strOp, ↓reduceIte, Zj, Zk, Nat.reduceAdd, Nat.reduceLT, Nat.reduceEqDiff, Nat.reduceMul, Nat.reduceLeDiff, if_true, Zn, reduceCtorEq, ZA, eq_self, Int.reduceLE, Int.reduceLT, Int.reduceToNat, ne_eq, Nat.reduceSub, hl, hm, en, nb2_b1, f1, d2, g1, g2, m1, m2, g3, m3, nb3_bo, nb4_b3, nb4_bo]
        repeat refine And.intro (by omega) ?_
        repeat refine And.intro (by omega) ?_
        intro g
        simp only [List.map_cons, List.map_nil, updL, upd, Nat.reduceEqDiff, if_true, if_false, ↓reduceIte]
        refine hK _ _ ?_; clear hK K
        refine roundN (m := q - 1) (by omega) ⟨_, r + 1, m, bo, cap, cs, _, Mi, by omega, hrow, ?_, rfl, List.Sublist.refl _⟩
        rw [plRow_no (by simpa using h3)]
        exact hrows
    · refine Cd.exit (thenX (roundX (inBX ?_)))
      refine inBN ?_
      refine thenN ?_
      obtain rfl : r = n - 1 := by omega
      refine Cd.rr [1, 3, 12, 13] fun K hK => ?_
      simp (maxSteps := 2000000) (disch := first | (simp only [E4, hl, hm, en, f1, d2] <;> omega) | omega | fail) only [↓E2, E3, bare, bareJ, ↓E0, E1, env0, envN, evOps, evOp, evQs, evQ, evV, setD, pureOp, ev, upd, updL, binW, eqOp, binV, intOp, shOp, boolOp, hav, eqL, SameI, strOp, ↓reduceIte, Zj, Zk, Nat.reduceAdd, Nat.reduceLT, Nat.reduceEqDiff, Nat.reduceMul, Nat.reduceLeDiff, if_true, Zn, reduceCtorEq, ZA, eq_self, Int.reduceLE, Int.reduceLT, Int.reduceToNat, ne_eq, Nat.reduceSub, hl, hm, en, nb2_b1, f1, d2]
      repeat refine And.intro (by omega) ?_
      repeat refine And.intro (by omega) ?_
      intro g
      simp only [List.map_cons, List.map_nil, updL, upd, Nat.reduceEqDiff, if_true, if_false, ↓reduceIte]
      refine hK _ _ ?_; clear hK K
      exact roundN (m := qo - 1) (by omega) ⟨_, i + 1, m, bo, cap, cs, _, Mi, by omega, hrow, hrows, rfl, List.Sublist.refl _⟩
  · refine Cd.exit (thenX (roundX (inBX ?_)))
    refine thenN ?_
    obtain rfl : i = n - 1 := by omega
    refine Cd.rs [2] fun K hK => ?_
    simp (maxSteps := 2000000) (disch := first | (simp only [E4, hl, hm, en, f1, d2] <;> omega) | omega | fail) only [↓E2, E3, bare, bareJ, ↓E0, E1, env0, envN, evOps, evOp, evQs, evQ, evV, setD, pureOp, ev, upd, updL, hav, ↓reduceIte, Zj, Zk, Nat.reduceAdd, Nat.reduceLT, Nat.reduceEqDiff, Nat.reduceMul, Nat.reduceLeDiff, if_true, Zn, reduceCtorEq, ZA, eq_self, Int.reduceLE, Int.reduceLT, Int.reduceToNat, ne_eq, Nat.reduceSub, hl, hm, en, nb2_b1, f1, d2]
    repeat refine And.intro (by omega) ?_
    repeat refine And.intro (by omega) ?_
    intro g
    simp only [List.map_cons, List.map_nil, updL, upd, Nat.reduceEqDiff, if_true, if_false, ↓reduceIte]
    refine hK _ _ ?_; clear hK K
    refine Cd.drop (M' := (bo, cs) :: Mi) (List.Sublist.cons_cons _ (List.sublist_append_left _ _)) ?_
    refine Cd.ret ?_
    simp (maxSteps := 2000000) (disch := first | (simp only [E4, hl, hm, en, f1, d2] <;> omega) | omega | fail) only [↓E2, E3, bare, bareJ, ↓E0, E1, evP, evPlan, env0, envN, evOps, evOp, evQs, evQ, evV, setD, pureOp, ev, upd, updL, gate, binW, eqOp, binV, intOp, shOp, boolOp, unV, convV, nilV, fieldAddrV, indexAddrV, extractV, cellAt, cellsAt, findB, setB, fillL, buildV, Value.cells, lenV, minV, maxV, hav, sliceV, loV, hiV, bslQ, mksQ, appQ, partsOk, partsCells, delB, eqL, SameI, strOp, apzQ, cvtQ, capV, ↓reduceIte, Zj, Zk, Nat.reduceAdd, Nat.reduceLT, Nat.reduceEqDiff, Nat.reduceMul, Nat.reduceLeDiff, if_true, Zn, reduceCtorEq, ZA, eq_self, Int.reduceLE, Int.reduceLT, Int.reduceToNat, ne_eq, Nat.reduceSub, hl, hm, en, nb2_b1, f1, d2]
    repeat refine And.intro (by omega) ?_
    exact .inr ⟨bo, m, cap, cs, vs, Mi, rfl, rfl, hrow, hrows⟩

theorem l02Places_c : GivesX Try.prog 100 #[.agg (gc (n : Int) x o).toArray] [] [] (SlSl (plTo x o (n - 1) (n - 1))) := by
  have hl := hx.len
  have hm := ho.len
  have en : (n : Int) - 1 = ((n - 1 : Nat) : Int) := by omega
  skip
  refine GivesX.of (callable_of Try.func100 rfl (by decide)) ?_ fun w hnd hlt hR => ?_
  · simp
  refine acall_of (N := 40) (c := _) (rs := [.tmp 2]) (args := [_]) Try.func100 rfl (by decide) rfl rfl (Nat.le_of_ble_eq_true rfl) ?_
  refine Cd.rs [1] fun K hK => ?_
  simp (maxSteps := 2000000) (disch := first | (simp only [E4, hl, hm, en] <;> omega) | omega | fail) only [↓E2, E3, bare, bareJ, ↓E0, E1, env0, envN, evOps, evOp, evQs, evQ, evV, setD, pureOp, ev, upd, updL, Value.cells, hav, ↓reduceIte, Zj, Zk, Nat.reduceAdd, Nat.reduceLT, Nat.reduceEqDiff, Nat.reduceMul, Nat.reduceLeDiff, if_true, Zn, reduceCtorEq, ZA, eq_self, Int.reduceLE, Int.reduceLT, Int.reduceToNat, ne_eq, Nat.reduceSub, hl, hm, en]
  repeat refine And.intro (by omega) ?_
  intro b1 hb1
  try simp (maxSteps := 2000000) (disch := first | (simp only [E4, hl, hm, en] <;> omega) | omega | fail) only [↓E2, E3, bare, bareJ, ↓E0, E1, env0, envN, evOps, evOp, evQs, evQ, evV, setD, pureOp, ev, upd, updL, Value.cells, hav, ↓reduceIte, Zj, Zk, Nat.reduceAdd, Nat.reduceLT, Nat.reduceEqDiff, Nat.reduceMul, Nat.reduceLeDiff, if_true, Zn, reduceCtorEq, ZA, eq_self, Int.reduceLE, Int.reduceLT, Int.reduceToNat, ne_eq, Nat.reduceSub, hl, hm, en]
  repeat refine And.intro (by omega) ?_
  repeat refine And.intro (by omega) ?_
  intro g
  simp only [List.map_cons, List.map_nil, updL, upd, Nat.reduceEqDiff, if_true, if_false, ↓reduceIte]
  refine hK _ _ ?_; clear hK K
  refine Cd.rs [1, 3] fun K hK => ?_
  simp (maxSteps := 2000000) (disch := first | (simp only [E4, hl, hm, en] <;> omega) | omega | fail) only [↓E2, E3, bare, bareJ, ↓E0, E1, evP, env0, envN, evOps, evOp, evQs, evQ, evV, setD, pureOp, ev, upd, updL, Value.cells, hav, bslQ, partsOk, partsCells, ↓reduceIte, Zj, Zk, Nat.reduceAdd, Nat.reduceLT, Nat.reduceEqDiff, Nat.reduceMul, Nat.reduceLeDiff, if_true, Zn, reduceCtorEq, ZA, eq_self, Int.reduceLE, Int.reduceLT, Int.reduceToNat, ne_eq, Nat.reduceSub, Tby47, Tslc43, Tslce43, Tzero47, hl, hm, en]
  repeat refine And.intro (by omega) ?_
  intro b2 hb2
  have nb2_b1 := hb2.ne
  try simp (maxSteps := 2000000) (disch := first | (simp only [E4, hl, hm, en] <;> omega) | omega | fail) only [↓E2, E3, bare, bareJ, ↓E0, E1, evP, env0, envN, evOps, evOp, evQs, evQ, evV, setD, pureOp, ev, upd, updL, Value.cells, hav, bslQ, partsOk, partsCells, ↓reduceIte, Zj, Zk, Nat.reduceAdd, Nat.reduceLT, Nat.reduceEqDiff, Nat.reduceMul, Nat.reduceLeDiff, if_true, Zn, reduceCtorEq, ZA, eq_self, Int.reduceLE, Int.reduceLT, Int.reduceToNat, ne_eq, Nat.reduceSub, Tby47, Tslc43, Tslce43, Tzero47, hl, hm, en, nb2_b1]
  repeat refine And.intro (by omega) ?_
  repeat refine And.intro (by omega) ?_
  intro g
  simp only [List.map_cons, List.map_nil, updL, upd, Nat.reduceEqDiff, if_true, if_false, ↓reduceIte]
  refine hK _ _ ?_; clear hK K
  refine Cd.seq ?_
  refine Cd.rs [1, 3, 4] fun K hK => ?_
  simp (maxSteps := 2000000) (disch := first | (simp only [E4, hl, hm, en] <;> omega) | omega | fail) only [↓E2, E3, bare, bareJ, ↓E0, E1, env0, envN, evOps, evOp, evQs, evQ, evV, setD, pureOp, ev, upd, updL, hav, ↓reduceIte, Zj, Zk, Nat.reduceAdd, Nat.reduceLT, Nat.reduceEqDiff, Nat.reduceMul, Nat.reduceLeDiff, if_true, Zn, reduceCtorEq, ZA, eq_self, Int.reduceLE, Int.reduceLT, Int.reduceToNat, ne_eq, Nat.reduceSub, hl, hm, en, nb2_b1]
  repeat refine And.intro (by omega) ?_
  repeat refine And.intro (by omega) ?_
  intro g
  simp only [List.map_cons, List.map_nil, updL, upd, Nat.reduceEqDiff, if_true, if_false, ↓reduceIte]
  refine hK _ _ ?_; clear hK K
  refine Cd.block ?_
  refine Cd.loop (fun q ρ M => ∃ g i m bo cap cs vs Mi, i + q = n - 1 ∧ Row 1 vs m cap cs ∧ RowsI (plTo x o (n - 1) i) vs Mi ∧ ρ = updL [(1, .pointer (some ⟨b1, 0, none⟩)), (3, .slice (some ⟨bo, 0, none⟩) m cap), (4, .int .i64 (i : Int))] g ∧
    List.Sublist ((bo, cs) :: (Mi ++ [(b1, gc (n : Int) x o)])) M) (n - 1) ⟨_, 0, 0, b2, 0, [], [], [], Nat.zero_add _, Row.nil 1, RowsI.nil, rfl, List.Sublist.refl _⟩ ?_
  rintro qo ρ M ⟨g, i, m, bo, cap, cs, vs, Mi, hi, hrow, hrows, rfl, hM⟩
  refine Cd.drop hM ?_
  clear hM M
  refine Cd.nodup fun hnd => ?_
  have f1 := findB_of (nodup_cases hnd).2 (b := b1) (cs := gc (n : Int) x o) (by simp)
  have d2 : ¬ bo = b1 := (nodup_cases hnd).1 (b1, gc (n : Int) x o) (by simp)
  skip
  skip
  clear hnd
  refine Cd.seq ?_
  refine Cd.rs [1, 3, 4, 14] fun K hK => ?_
  simp (maxSteps := 2000000) (disch := first | (simp only [E4, hl, hm, en, f1, d2] <;> omega) | omega | fail) only [↓E2, E3, bare, bareJ, ↓E0, E1, env0, envN, evOps, evOp, evQs, evQ, evV, setD, pureOp, ev, upd, updL, binW, eqOp, binV, intOp, shOp, boolOp, fieldAddrV, cellAt, cellsAt, findB, hav, eqL, SameI, strOp, ↓reduceIte, Zj, Zk, Nat.reduceAdd, Nat.reduceLT, Nat.reduceEqDiff, Nat.reduceMul, Nat.reduceLeDiff, if_true, Zn, reduceCtorEq, ZA, eq_self, Int.reduceLE, Int.reduceLT, Int.reduceToNat, ne_eq, Nat.reduceSub, Tfld32_0, Tld2, hl, hm, en, nb2_b1, f1, d2]
  repeat refine And.intro (by omega) ?_
  repeat refine And.intro (by omega) ?_
  intro g
  simp only [List.map_cons, List.map_nil, updL, upd, Nat.reduceEqDiff, if_true, if_false, ↓reduceIte]
  refine hK _ _ ?_; clear hK K
  refine Cd.condd rfl (fun h1 => ?_) (fun h1 => ?_)
  · refine Cd.skip ?_
    refine thenN ?_
    refine Cd.seq ?_
    refine Cd.block ?_
    refine Cd.rs [1, 3, 4, 5] fun K hK => ?_
    simp (maxSteps := 2000000) (disch := first | (simp only [E4, hl, hm, en, f1, d2] <;> omega) | omega | fail) only [↓E2, E3, bare, bareJ, ↓E0, E1, env0, envN, evOps, evOp, evQs, evQ, evV, setD, pureOp, ev, upd, updL, hav, ↓reduceIte, Zj, Zk, Nat.reduceAdd, Nat.reduceLT, Nat.reduceEqDiff, Nat.reduceMul, Nat.reduceLeDiff, if_true, Zn, reduceCtorEq, ZA, eq_self, Int.reduceLE, Int.reduceLT, Int.reduceToNat, ne_eq, Nat.reduceSub, hl, hm, en, nb2_b1, f1, d2]
    repeat refine And.intro (by omega) ?_
    repeat refine And.intro (by omega) ?_
    intro g
    simp only [List.map_cons, List.map_nil, updL, upd, Nat.reduceEqDiff, if_true, if_false, ↓reduceIte]
    refine hK _ _ ?_; clear hK K
    refine Cd.block ?_
    refine Cd.loop (fun q ρ M => ∃ g r m bo cap cs vs Mi, r + q = n - 1 ∧ Row 1 vs m cap cs ∧ RowsI (plTo x o (n - 1) i ++ plRow x o i r) vs Mi ∧ ρ = updL [(1, .pointer (some ⟨b1, 0, none⟩)), (3, .slice (some ⟨bo, 0, none⟩) m cap), (4, .int .i64 (i : Int)), (5, .int .i64 (r : Int))] g ∧
      List.Sublist ((bo, cs) :: (Mi ++ [(b1, gc (n : Int) x o)])) M) (n - 1) ⟨_, 0, m, bo, cap, cs, vs, Mi, Nat.zero_add _, hrow, by rw [show plRow x o i 0 = [] from rfl, List.append_nil]; exact hrows, rfl, List.Sublist.refl _⟩ ?_
    clear f1 d2 hrow hrows
    rintro q ρ M ⟨g, r, m, bo, cap, cs, vs, Mi, hr, hrow, hrows, rfl, hM⟩
    refine Cd.drop hM ?_
    clear hM M
    refine Cd.nodup fun hnd => ?_
    have f1 := findB_of (nodup_cases hnd).2 (b := b1) (cs := gc (n : Int) x o) (by simp)
    have d2 : ¬ bo = b1 := (nodup_cases hnd).1 (b1, gc (n : Int) x o) (by simp)
    skip
    skip
    clear hnd
    have hv := hrow.len1
    have hv' := hrows.len
    have pb := plTo_bound x o (n - 1) (by omega) i
    have pr := plRow_bound x o i r
    rw [List.length_append] at hv'
    refine Cd.seq ?_
    refine Cd.rs [1, 3, 4, 5, 21] fun K hK => ?_
    simp (maxSteps := 2000000) (disch := first | (simp only [E4, hl, hm, en, f1, d2] <;> omega) | omega | fail) only [↓E2, E3, bare, bareJ, ↓E0, E1, env0, envN, evOps, evOp, evQs, evQ, evV, setD, pureOp, ev, upd, updL, binW, eqOp, binV, intOp, shOp, boolOp, fieldAddrV, cellAt, cellsAt, findB, hav, eqL, SameI, strOp, ↓reduceIte, Zj, Zk, Nat.reduceAdd, Nat.reduceLT, Nat.reduceEqDiff, Nat.reduceMul, Nat.reduceLeDiff, if_true, Zn, reduceCtorEq, ZA, eq_self, Int.reduceLE, Int.reduceLT, Int.reduceToNat, ne_eq, Nat.reduceSub, Tfld32_0, Tld2, hl, hm, en, nb2_b1, f1, d2]
    repeat refine And.intro (by omega) ?_
    repeat refine And.intro (by omega) ?_
    intro g
    simp only [List.map_cons, List.map_nil, updL, upd, Nat.reduceEqDiff, if_true, if_false, ↓reduceIte]
    refine hK _ _ ?_; clear hK K
    refine Cd.condd rfl (fun h2 => ?_) (fun h2 => ?_)
    · have s1 := hrow.size1
      have s2 := hrow.le
      have hS := l02Back_c n x o hx ho hn px po hd i (by omega) (r : Int) (by omega) (by omega)
      obtain ⟨gv, mv, hR, g1, g2, m1, m2⟩ := back_shape (n := n) (x := x) (o := o) (i := i) (r := (r : Int))
      rw [hR] at hS
      have g3 : gv.toList.length = 17 := g1
      have m3 : mv.toList.length = 6 := m1
      refine Cd.skip ?_
      refine thenN ?_
      refine Cd.seq ?_
      refine Cd.block ?_
      skip
      refine Cd.rs [1, 3, 4, 5, 8] fun K hK => ?_
      simp (maxSteps := 2000000) (disch := first | (simp only [E4, hl, hm, en, f1, d2, g1, g2, m1, m2, g3, m3] <;> omega) | omega | fail) only [↓E2, E3, bare, bareJ, ↓E0, E1, env0, envN, evOps, evOp, evQs, evQ, evV, setD, pureOp, ev, upd, updL, extractV, cellAt, cellsAt, findB, setB, Value.cells, hav, ↓reduceIte, Zj, Zk, Nat.reduceAdd, Nat.reduceLT, Nat.reduceEqDiff, Nat.reduceMul, Nat.reduceLeDiff, if_true, Zn, reduceCtorEq, ZA, eq_self, Int.reduceLE, Int.reduceLT, Int.reduceToNat, ne_eq, Nat.reduceSub, Tld32, Tst32, Tst93, Tzero32, Tzero93, hl, hm, en, nb2_b1, f1, d2, g1, g2, m1, m2, g3, m3]
      repeat refine And.intro (by omega) ?_
      refine callK_gives hS ?_
      simp (maxSteps := 2000000) (disch := first | (simp only [E4, hl, hm, en, f1, d2, g1, g2, m1, m2, g3, m3] <;> omega) | omega | fail) only [↓E2, E3, bare, bareJ, ↓E0, E1, env0, envN, evOps, evOp, evQs, evQ, evV, setD, pureOp, ev, upd, updL, extractV, cellAt, cellsAt, findB, setB, Value.cells, hav, ↓reduceIte, Zj, Zk, Nat.reduceAdd, Nat.reduceLT, Nat.reduceEqDiff, Nat.reduceMul, Nat.reduceLeDiff, if_true, Zn, reduceCtorEq, ZA, eq_self, Int.reduceLE, Int.reduceLT, Int.reduceToNat, ne_eq, Nat.reduceSub, Tld32, Tst32, Tst93, Tzero32, Tzero93, hl, hm, en, nb2_b1, f1, d2, g1, g2, m1, m2, g3, m3]
      repeat refine And.intro (by omega) ?_
      intro b3 hb3
      have nb3_bo := hb3.ne
      intro b4 hb4
      have nb4_b3 := hb4.ne
      have nb4_bo := hb4.tail.ne
      try simp (maxSteps := 2000000) (disch := first | (simp only [E4, hl, hm, en, f1, d2, g1, g2, m1, m2, g3, m3] <;> omega) | omega | fail) only [↓E2, E3, bare, bareJ, ↓E0, E1, env0, envN, evOps, evOp, evQs, evQ, evV, setD, pureOp, ev, upd, updL, extractV, cellAt, cellsAt, findB, setB, Value.cells, hav, ↓reduceIte, Zj, Zk, Nat.reduceAdd, Nat.reduceLT, Nat.reduceEqDiff, Nat.reduceMul, Nat.reduceLeDiff, if_true, Zn, reduceCtorEq, ZA, eq_self, Int.reduceLE, Int.reduceLT, Int.reduceToNat, ne_eq, Nat.reduceSub, Tld32, Tst32, Tst93, Tzero32, Tzero93, hl, hm, en, nb2_b1, f1, d2, g1, g2, m1, m2, g3, m3, nb3_bo, nb4_b3, nb4_bo]
      repeat refine And.intro (by omega) ?_
      repeat refine And.intro (by omega) ?_
      intro g
      simp only [List.map_cons, List.map_nil, updL, upd, Nat.reduceEqDiff, if_true, if_false, ↓reduceIte]
      refine hK _ _ ?_; clear hK K
      refine Cd.drop (List.Sublist.cons _ (List.Sublist.cons _ (List.Sublist.refl _))) ?_
      skip
      refine Cd.rs [1, 3, 4, 5, 32] fun K hK => ?_
      simp (maxSteps := 2000000) (disch := first | (simp only [E4, hl, hm, en, f1, d2, g1, g2, m1, m2, g3, m3] <;> omega) | omega | fail) only [↓E2, E3, bare, bareJ, ↓E0, E1, env0, envN, evOps, evOp, evQs, evQ, evV, setD, pureOp, ev, upd, updL, hav, ↓reduceIte, Zj, Zk, Nat.reduceAdd, Nat.reduceLT, Nat.reduceEqDiff, Nat.reduceMul, Nat.reduceLeDiff, if_true, Zn, reduceCtorEq, ZA, eq_self, Int.reduceLE, Int.reduceLT, Int.reduceToNat, ne_eq, Nat.reduceSub, hl, hm, en, nb2_b1, f1, d2, g1, g2, m1, m2, g3, m3, nb3_bo, nb4_b3, nb4_bo]
      repeat refine And.intro (by omega) ?_
      repeat refine And.intro (by omega) ?_
      intro g
      simp only [List.map_cons, List.map_nil, updL, upd, Nat.reduceEqDiff, if_true, if_false, ↓reduceIte]
      refine hK _ _ ?_; clear hK K
      refine Cd.cond rfl (fun h3 => ?_) (fun h3 => ?_)
      · refine Cd.rr [1, 3, 4, 5] fun K hK => ?_
        simp (maxSteps := 2000000) (disch := first | (simp only [E4, hl, hm, en, f1, d2, g1, g2, m1, m2, g3, m3] <;> omega) | omega | fail) only [↓E2, E3, bare, bareJ, ↓E0, E1, evP, env0, envN, evOps, evOp, evQs, evQ, evV, setD, pureOp, ev, upd, updL, cellAt, cellsAt, findB, Value.cells, lenV, hav, bslQ, appQ, partsOk, partsCells, delB, apzQ, ↓reduceIte, Zj, Zk, Nat.reduceAdd, Nat.reduceLT, Nat.reduceEqDiff, Nat.reduceMul, Nat.reduceLeDiff, if_true, Zn, reduceCtorEq, ZA, eq_self, Int.reduceLE, Int.reduceLT, Int.reduceToNat, ne_eq, Nat.reduceSub, Tby2, Tby47, Tslc43, Tslc47, Tslce43, Tslce47, Tzero2, Tzero47, hl, hm, en, nb2_b1, f1, d2, g1, g2, m1, m2, g3, m3, nb3_bo, nb4_b3, nb4_bo]
        repeat refine And.intro (by omega) ?_
        intro b5 hb5
        have nb5_bo := hb5.ne
        intro b6 hb6
        have nb6_b5 := hb6.ne
        have nb6_bo := hb6.tail.ne
        try simp (maxSteps := 2000000) (disch := first | (simp only [E4, hl, hm, en, f1, d2, g1, g2, m1, m2, g3, m3] <;> omega) | omega | fail) only [↓E2, E3, bare, bareJ, ↓E0, E1, evP, env0, envN, evOps, evOp, evQs, evQ, evV, setD, pureOp, ev, upd, updL, cellAt, cellsAt, findB, Value.cells, lenV, hav, bslQ, appQ, partsOk, partsCells, delB, apzQ, ↓reduceIte, Zj, Zk, Nat.reduceAdd, Nat.reduceLT, Nat.reduceEqDiff, Nat.reduceMul, Nat.reduceLeDiff, if_true, Zn, reduceCtorEq, ZA, eq_self, Int.reduceLE, Int.reduceLT, Int.reduceToNat, ne_eq, Nat.reduceSub, Tby2, Tby47, Tslc43, Tslc47, Tslce43, Tslce47, Tzero2, Tzero47, hl, hm, en, nb2_b1, f1, d2, g1, g2, m1, m2, g3, m3, nb3_bo, nb4_b3, nb4_bo, nb5_bo, nb6_b5, nb6_bo]
        repeat refine And.intro (by omega) ?_
        intro b' cap' rest' hf hc hr'
        have hr2 := hrow.snoc1 (news := [.slice (some ⟨b5, 0, none⟩) 2 2]) rfl hc hr'
        repeat refine And.intro (by omega) ?_
        intro g
        simp only [List.map_cons, List.map_nil, updL, upd, Nat.reduceEqDiff, if_true, if_false, ↓reduceIte]
        refine hK _ _ ?_; clear hK K
        refine inBN ?_
        refine thenN ?_
        refine Cd.rr [1, 3, 4, 5] fun K hK => ?_
        simp (maxSteps := 2000000) (disch := first | (simp only [E4, hl, hm, en, f1, d2, g1, g2, m1, m2, g3, m3] <;> omega) | omega | fail) only [↓E2, E3, bare, bareJ, ↓E0, E1, env0, envN, evOps, evOp, evQs, evQ, evV, setD, pureOp, ev, upd, updL, binW, eqOp, binV, intOp, shOp, boolOp, hav, eqL, SameI, strOp, ↓reduceIte, Zj, Zk, Nat.reduceAdd, Nat.reduceLT, Nat.reduceEqDiff, Nat.reduceMul, Nat.reduceLeDiff, if_true, Zn, reduceCtorEq, ZA, eq_self, Int.reduceLE, Int.reduceLT, Int.reduceToNat, ne_eq, Nat.reduceSub, hl, hm, en, nb2_b1, f1, d2, g1, g2, m1, m2, g3, m3, nb3_bo, nb4_b3, nb4_bo, nb5_bo, nb6_b5, nb6_bo]
        repeat refine And.intro (by omega) ?_
        repeat refine And.intro (by omega) ?_
        intro g
        simp only [List.map_cons, List.map_nil, updL, upd, Nat.reduceEqDiff, if_true, if_false, ↓reduceIte]
        refine hK _ _ ?_; clear hK K
        refine roundN (m := q - 1) (by omega) ⟨_, r + 1, m + 1, b', cap', _, _, (b5, [.int .i64 (i : Int), .int .i64 (r : Int)]) :: Mi, by omega, hr2, ?_, rfl, List.Sublist.cons_cons _ (List.Sublist.cons _ (List.Sublist.refl _))⟩
        rw [plRow_yes h3, ← List.append_assoc]
        exact .snoc hrows (SlN.row (Row.full (l := ints .i64 [(i : Int), (r : Int)]) rfl))
      · refine Cd.skip ?_
        refine inBN ?_
        refine thenN ?_
        refine Cd.rr [1, 3, 4, 5] fun K hK => ?_
        simp (maxSteps := 2000000) (disch := first | (simp only [E4, hl, hm, en, f1, d2, g1, g2, m1, m2, g3, m3] <;> omega) | omega | fail) only [↓E2, E3, bare, bareJ, ↓E0, E1, env0, envN, evOps, evOp, evQs, evQ, evV, setD, pureOp, ev, upd, updL, binW, eqOp, binV, intOp, shOp, boolOp, hav, eqL, SameI, strOp, ↓reduceIte, Zj, Zk, Nat.reduceAdd, Nat.reduceLT, Nat.reduceEqDiff, Nat.reduceMul, Nat.reduceLeDiff, if_true, Zn, reduceCtorEq, ZA, eq_self, Int.reduceLE, Int.reduceLT, Int.reduceToNat, ne_eq, Nat.reduceSub, hl, hm, en, nb2_b1, f1, d2, g1, g2, m1, m2, g3, m3, nb3_bo, nb4_b3, nb4_bo]
        repeat refine And.intro (by omega) ?_
        repeat refine And.intro (by omega) ?_
        intro g
        simp only [List.map_cons, List.map_nil, updL, upd, Nat.reduceEqDiff, if_true, if_false, ↓reduceIte]
        refine hK _ _ ?_; clear hK K
        refine roundN (m := q - 1) (by omega) ⟨_, r + 1, m, bo, cap, cs, _, Mi, by omega, hrow, ?_, rfl, List.Sublist.refl _⟩
        rw [plRow_no (by simpa using h3)]
        exact hrows
    · refine Cd.exit (thenX (roundX (inBX ?_)))
      refine inBN ?_
      refine thenN ?_
      obtain rfl : r = n - 1 := by omega
      refine Cd.rr [1, 3, 4] fun K hK => ?_
      simp (maxSteps := 2000000) (disch := first | (simp only [E4, hl, hm, en, f1, d2] <;> omega) | omega | fail) only [↓E2, E3, bare, bareJ, ↓E0, E1, env0, envN, evOps, evOp, evQs, evQ, evV, setD, pureOp, ev, upd, updL, binW, eqOp, binV, intOp, shOp, boolOp, hav, eqL, SameI, strOp, ↓reduceIte, Zj, Zk, Nat.reduceAdd, Nat.reduceLT, Nat.reduceEqDiff, Nat.reduceMul, Nat.reduceLeDiff, if_true, Zn, reduceCtorEq, ZA, eq_self, Int.reduceLE, Int.reduceLT, Int.reduceToNat, ne_eq, Nat.reduceSub, hl, hm, en, nb2_b1, f1, d2]
      repeat refine And.intro (by omega) ?_
      repeat refine And.intro (by omega) ?_
      intro g
      simp only [List.map_cons, List.map_nil, updL, upd, Nat.reduceEqDiff, if_true, if_false, ↓reduceIte]
      refine hK _ _ ?_; clear hK K
      exact roundN (m := qo - 1) (by omega) ⟨_, i + 1, m, bo, cap, cs, _, Mi, by omega, hrow, hrows, rfl, List.Sublist.refl _⟩
  · refine Cd.exit (thenX (roundX (inBX ?_)))
    refine thenN ?_
    obtain rfl : i = n - 1 := by omega
    refine Cd.rs [2] fun K hK => ?_
    simp (maxSteps := 2000000) (disch := first | (simp only [E4, hl, hm, en, f1, d2] <;> omega) | omega | fail) only [↓E2, E3, bare, bareJ, ↓E0, E1, env0, envN, evOps, evOp, evQs, evQ, evV, setD, pureOp, ev, upd, updL, hav, ↓reduceIte, Zj, Zk, Nat.reduceAdd, Nat.reduceLT, Nat.reduceEqDiff, Nat.reduceMul, Nat.reduceLeDiff, if_true, Zn, reduceCtorEq, ZA, eq_self, Int.reduceLE, Int.reduceLT, Int.reduceToNat, ne_eq, Nat.reduceSub, hl, hm, en, nb2_b1, f1, d2]
    repeat refine And.intro (by omega) ?_
    repeat refine And.intro (by omega) ?_
    intro g
    simp only [List.map_cons, List.map_nil, updL, upd, Nat.reduceEqDiff, if_true, if_false, ↓reduceIte]
    refine hK _ _ ?_; clear hK K
    refine Cd.drop (M' := (bo, cs) :: Mi) (List.Sublist.cons_cons _ (List.sublist_append_left _ _)) ?_
    refine Cd.ret ?_
    simp (maxSteps := 2000000) (disch := first | (simp only [E4, hl, hm, en, f1, d2] <;> omega) | omega | fail) only [↓E2, E3, bare, bareJ, ↓E0, E1, evP, evPlan, env0, envN, evOps, evOp, evQs, evQ, evV, setD, pureOp, ev, upd, updL, gate, binW, eqOp, binV, intOp, shOp, boolOp, unV, convV, nilV, fieldAddrV, indexAddrV, extractV, cellAt, cellsAt, findB, setB, fillL, buildV, Value.cells, lenV, minV, maxV, hav, sliceV, loV, hiV, bslQ, mksQ, appQ, partsOk, partsCells, delB, eqL, SameI, strOp, apzQ, cvtQ, capV, ↓reduceIte, Zj, Zk, Nat.reduceAdd, Nat.reduceLT, Nat.reduceEqDiff, Nat.reduceMul, Nat.reduceLeDiff, if_true, Zn, reduceCtorEq, ZA, eq_self, Int.reduceLE, Int.reduceLT, Int.reduceToNat, ne_eq, Nat.reduceSub, hl, hm, en, nb2_b1, f1, d2]
    repeat refine And.intro (by omega) ?_
    exact .inr ⟨bo, m, cap, cs, vs, Mi, rfl, rfl, hrow, hrows⟩
end

end Go.Proofs

/-
  What the functions of this part hand back: each as a plain function of its arguments. Conditions: none.
-/
namespace Go.Proofs
open Go.W8
set_option linter.unusedVariables false
set_option linter.unusedSimpArgs false
set_option linter.unusedSectionVars false
set_option maxRecDepth 8000
set_option maxHeartbeats 4000000
--@plain
theorem plRow_mem {x o : List Int} {i : Nat} : ∀ (m : Nat) (L : List Int), L ∈ plRow x o i m → ∃ r : Nat, L = [(i : Int), (r : Int)] ∧ r < m ∧ (bkFind x o i (r : Int)).isSome = true
  | 0, L, h => nomatch h
  | r + 1, L, h => by
    by_cases hb : (bkFind x o i (r : Int)).isSome = true
    · rw [plRow_yes hb, List.mem_append, List.mem_singleton] at h
      rcases h with h | h
      · obtain ⟨r', h1, h2, h3⟩ := plRow_mem r L h
        exact ⟨r', h1, by omega, h3⟩
      · exact ⟨r, h, by omega, hb⟩
    · rw [plRow_no hb] at h
      obtain ⟨r', h1, h2, h3⟩ := plRow_mem r L h
      exact ⟨r', h1, by omega, h3⟩
theorem plTo_mem {x o : List Int} {m : Nat} : ∀ (k : Nat) (L : List Int), L ∈ plTo x o m k → ∃ i r : Nat, L = [(i : Int), (r : Int)] ∧ i < k ∧ r < m ∧ (bkFind x o i (r : Int)).isSome = true
  | 0, L, h => nomatch h
  | k + 1, L, h => by
    rw [show plTo x o m (k + 1) = plTo x o m k ++ plRow x o k m from rfl, List.mem_append] at h
    rcases h with h | h
    · obtain ⟨i, r, h1, h2, h3⟩ := plTo_mem k L h
      exact ⟨i, r, h1, by omega, h3⟩
    · obtain ⟨r, h1, h2, h3⟩ := plRow_mem m L h
      exact ⟨k, r, h1, by omega, h2, h3⟩
theorem slsl_frm {ll : List (List Int)} {v : Value} {M : Blks} (h : SlSl ll v M) : ∃ a m cap, v = .slice a m cap ∧ m = ll.length := by
  rcases h with ⟨rfl, rfl, rfl⟩ | ⟨b, m, cap, cs, vs, Mi, rfl, rfl, h1, h2⟩
  · exact ⟨_, _, _, rfl, rfl⟩
  · exact ⟨_, _, _, rfl, by rw [← h2.len, h1.len1]⟩

end Go.Proofs

/-
  What the functions of this part hand back: each as a plain function of its arguments. Conditions: none.
-/
namespace Go.Proofs
open Go.W8
set_option linter.unusedVariables false
set_option linter.unusedSimpArgs false
set_option linter.unusedSectionVars false
set_option maxRecDepth 8000
set_option maxHeartbeats 4000000
section
variable (l : List Int) (cv : Value) (R : Rd) (hin : InB R l cv) (hl : l.length ≤ 4096) (hb : ∀ k, k < l.length → 0 ≤ l.getD k 0 ∧ l.getD k 0 < 256) (hne : ∀ r ∈ R, r.2.2 ≠ [])
include hin hl hb hne
theorem dCan_c : GivesX Try.prog 92 #[cv] [] R (fun v M' => (∃ s x o a c, v = .tuple #[.agg (gc s x o).toArray, .int .i64 a, .int .i64 c] ∧ Rng s ∧ Bytes8 x ∧ Bytes8 o ∧ Rng a ∧ Rng c) ∧ M' = []) := by
  refine GivesX.part ?_
  refine GivesX.of (callable_of Try.func92 rfl (by decide)) ?_ fun w hnd hlt hR => ?_
  · simp
  refine acall_of (N := 54) (c := _) (rs := [.cell 2 32, .tmp 3, .tmp 4]) (args := [_]) Try.func92 rfl (by decide) rfl rfl (Nat.le_of_ble_eq_true rfl) ?_
  have hR : W8.Told [] w R := hR
  refine Cd.rs [0, 2] fun K hK => ?_
  simp (maxSteps := 2000000) (disch := first | omega | (simp only [E4, *] <;> omega) | fail) only [↓E0, E1, env0, envN, evOps, evOp, evQs, evQ, evV, setD, pureOp, ev, upd, updL, Value.cells, hav, ↓reduceIte, Zj, Zk, Nat.reduceAdd, Nat.reduceLT, Nat.reduceEqDiff, Nat.reduceMul, Nat.reduceLeDiff, if_true, Zn, reduceCtorEq, ZA, eq_self, Int.reduceLE, Int.reduceLT, Int.reduceToNat, ne_eq, Nat.reduceSub, Tzero32]
  intro b1 hb1
  try simp (maxSteps := 2000000) (disch := first | omega | (simp only [E4, *] <;> omega) | fail) only [↓E0, E1, env0, envN, evOps, evOp, evQs, evQ, evV, setD, pureOp, ev, upd, updL, Value.cells, hav, ↓reduceIte, Zj, Zk, Nat.reduceAdd, Nat.reduceLT, Nat.reduceEqDiff, Nat.reduceMul, Nat.reduceLeDiff, if_true, Zn, reduceCtorEq, ZA, eq_self, Int.reduceLE, Int.reduceLT, Int.reduceToNat, ne_eq, Nat.reduceSub, Tzero32]
  repeat refine And.intro (by omega) ?_
  intro g
  simp only [List.map_cons, List.map_nil, updL, upd, Nat.reduceEqDiff, if_true, if_false, ↓reduceIte]
  refine hK _ _ ?_; clear hK K
  refine Cd.rs [2, 5] fun K hK => ?_
  simp (maxSteps := 2000000) (disch := first | omega | (simp only [E4, *] <;> omega) | fail) only [↓E0, E1, env0, envN, evOps, evOp, evQs, evQ, evV, setD, pureOp, ev, upd, updL, cellAt, cellsAt, findB, setB, hav, ↓reduceIte, Zj, Zk, Nat.reduceAdd, Nat.reduceLT, Nat.reduceEqDiff, Nat.reduceMul, Nat.reduceLeDiff, if_true, Zn, reduceCtorEq, ZA, eq_self, Int.reduceLE, Int.reduceLT, Int.reduceToNat, ne_eq, Nat.reduceSub]
  refine callK_new0 (from_c l cv R hin hl hb) (Told.toldW hR) ?_
  rintro v M' ⟨bs, t, h, rfl, ho, rfl⟩ nd hf
  have f1 := hf _ (List.mem_singleton_self _)
  have n1 := f1.ne
  have hRb : ∀ r ∈ R, r.1 ≠ bs := fun r hr e => by have h1 := told_lt hR hne r hr; have h2 := f1.1; omega
  skip
  skip
  simp only [List.cons_append, List.nil_append]
  simp (maxSteps := 2000000) (disch := first | omega | (simp only [E4, *] <;> omega) | fail) only [↓E0, E1, env0, envN, evOps, evOp, evQs, evQ, evV, setD, pureOp, ev, upd, updL, cellAt, cellsAt, findB, setB, hav, ↓reduceIte, Zj, Zk, Nat.reduceAdd, Nat.reduceLT, Nat.reduceEqDiff, Nat.reduceMul, Nat.reduceLeDiff, if_true, Zn, reduceCtorEq, ZA, eq_self, Int.reduceLE, Int.reduceLT, Int.reduceToNat, ne_eq, Nat.reduceSub, n1]
  repeat refine And.intro (by omega) ?_
  intro g
  simp only [List.map_cons, List.map_nil, updL, upd, Nat.reduceEqDiff, if_true, if_false, ↓reduceIte]
  refine hK _ _ ?_; clear hK K
  refine Cd.rs [2, 5, 6] fun K hK => ?_
  simp (maxSteps := 2000000) (disch := first | omega | (simp only [E4, *] <;> omega) | fail) only [↓E0, E1, env0, envN, evOps, evOp, evQs, evQ, evV, setD, pureOp, ev, upd, updL, cellAt, cellsAt, findB, setB, Value.cells, hav, ↓reduceIte, Zj, Zk, Nat.reduceAdd, Nat.reduceLT, Nat.reduceEqDiff, Nat.reduceMul, Nat.reduceLeDiff, if_true, Zn, reduceCtorEq, ZA, eq_self, Int.reduceLE, Int.reduceLT, Int.reduceToNat, ne_eq, Nat.reduceSub, Tst32, Tzero32, n1]
  refine callK_draw (spoil2_c l cv R hin hl hb bs hRb) ho (by simp only [findB, if_true]) (Told.toldW hR) ?_
  rintro v t h ho ⟨s, x, o, rfl, hs, hx, hy⟩
  have xl := hx.len
  have ol := hy.len
  skip
  simp (maxSteps := 2000000) (disch := first | omega | (simp only [E4, xl, ol, *] <;> omega) | fail) only [↓E0, E1, env0, envN, evOps, evOp, evQs, evQ, evV, setD, pureOp, ev, upd, updL, cellAt, cellsAt, findB, setB, Value.cells, hav, ↓reduceIte, Zj, Zk, Nat.reduceAdd, Nat.reduceLT, Nat.reduceEqDiff, Nat.reduceMul, Nat.reduceLeDiff, if_true, Zn, reduceCtorEq, ZA, eq_self, Int.reduceLE, Int.reduceLT, Int.reduceToNat, ne_eq, Nat.reduceSub, Tst32, Tzero32, n1, xl, ol]
  intro b2 hb2
  have nb2_bs := hb2.ne
  have nb2_b1 := hb2.tail.ne
  try simp (maxSteps := 2000000) (disch := first | omega | (simp only [E4, xl, ol, *] <;> omega) | fail) only [↓E0, E1, env0, envN, evOps, evOp, evQs, evQ, evV, setD, pureOp, ev, upd, updL, cellAt, cellsAt, findB, setB, Value.cells, hav, ↓reduceIte, Zj, Zk, Nat.reduceAdd, Nat.reduceLT, Nat.reduceEqDiff, Nat.reduceMul, Nat.reduceLeDiff, if_true, Zn, reduceCtorEq, ZA, eq_self, Int.reduceLE, Int.reduceLT, Int.reduceToNat, ne_eq, Nat.reduceSub, Tst32, Tzero32, n1, xl, ol, nb2_bs, nb2_b1]
  repeat refine And.intro (by omega) ?_
  intro g
  simp only [List.map_cons, List.map_nil, updL, upd, Nat.reduceEqDiff, if_true, if_false, ↓reduceIte]
  refine hK _ _ ?_; clear hK K
  have hnx := next_r l cv R hin hl hb bs hRb
  have fb : ∀ M M2, findB bs ((b2, gc s x o) :: (bs, M) :: M2) = some M := fun M M2 => by simp only [findB, nb2_bs, if_true, if_false]
  refine Cd.midq (fun ρ M => ∃ g t h, okS l.length t h ∧ ρ = updL [(2, .pointer (some ⟨b1, 0, none⟩)), (5, .pointer (some ⟨bs, 0, none⟩)), (6, .pointer (some ⟨b2, 0, none⟩))] g ∧ SubP [(b2, gc s x o), (bs, srcC cv t h), (b1, gc 0 z8 z8)] M) ?_ ?_
  · by_cases hg : gridB s x o = true
    · have his := l01Is_c s x o hx hy
      rw [hg] at his
      have hdif := fun n h => gridB_ne (n := n) hg h
      obtain ⟨n, rfl, n2, n8, px, po⟩ := gridB_perm hg
      have hdif := hdif n rfl
      refine Cd.rs [2, 5, 6, 19] fun K hK => ?_
      simp (maxSteps := 2000000) (disch := first | omega | (simp only [E4, xl, ol, *] <;> omega) | fail) only [↓E0, E1, env0, envN, evOps, evOp, evQs, evQ, evV, setD, pureOp, ev, upd, updL, gate, binW, eqOp, binV, intOp, shOp, boolOp, cellAt, cellsAt, findB, setB, hav, eqL, SameI, strOp, ↓reduceIte, Zj, Zk, Nat.reduceAdd, Nat.reduceLT, Nat.reduceEqDiff, Nat.reduceMul, Nat.reduceLeDiff, if_true, Zn, reduceCtorEq, ZA, eq_self, Int.reduceLE, Int.reduceLT, Int.reduceToNat, ne_eq, Nat.reduceSub, Tld32, n1, xl, ol, nb2_bs, nb2_b1]
      refine callK_gives his ?_
      simp (maxSteps := 2000000) (disch := first | omega | (simp only [E4, xl, ol, *] <;> omega) | fail) only [↓E0, E1, env0, envN, evOps, evOp, evQs, evQ, evV, setD, pureOp, ev, upd, updL, gate, binW, eqOp, binV, intOp, shOp, boolOp, cellAt, cellsAt, findB, setB, hav, eqL, SameI, strOp, ↓reduceIte, Zj, Zk, Nat.reduceAdd, Nat.reduceLT, Nat.reduceEqDiff, Nat.reduceMul, Nat.reduceLeDiff, if_true, Zn, reduceCtorEq, ZA, eq_self, Int.reduceLE, Int.reduceLT, Int.reduceToNat, ne_eq, Nat.reduceSub, Tld32, n1, xl, ol, nb2_bs, nb2_b1]
      refine callK_draw (hnx 3 ⟨by omega, by omega⟩) ho (fb _ _) (Told.toldW hR) ?_
      rintro v t h ho ⟨y, rfl, y0, y1, _⟩
      simp (maxSteps := 2000000) (disch := first | omega | (simp only [E4, xl, ol, *] <;> omega) | fail) only [↓E0, E1, env0, envN, evOps, evOp, evQs, evQ, evV, setD, pureOp, ev, upd, updL, gate, binW, eqOp, binV, intOp, shOp, boolOp, cellAt, cellsAt, findB, setB, hav, eqL, SameI, strOp, ↓reduceIte, Zj, Zk, Nat.reduceAdd, Nat.reduceLT, Nat.reduceEqDiff, Nat.reduceMul, Nat.reduceLeDiff, if_true, Zn, reduceCtorEq, ZA, eq_self, Int.reduceLE, Int.reduceLT, Int.reduceToNat, ne_eq, Nat.reduceSub, Tld32, n1, xl, ol, nb2_bs, nb2_b1]
      repeat refine And.intro (by omega) ?_
      intro g
      simp only [List.map_cons, List.map_nil, updL, upd, Nat.reduceEqDiff, if_true, if_false, ↓reduceIte]
      refine hK _ _ ?_; clear hK K
      refine Cd.cond rfl (fun c1 => ?_) (fun c1 => ?_)
      · refine Cd.rs [2, 5, 6, 7] fun K hK => ?_
        simp (maxSteps := 2000000) (disch := first | omega | (simp only [E4, xl, ol, *] <;> omega) | fail) only [↓E0, E1, env0, envN, evOps, evOp, evQs, evQ, evV, setD, pureOp, ev, upd, updL, cellAt, cellsAt, findB, setB, hav, ↓reduceIte, Zj, Zk, Nat.reduceAdd, Nat.reduceLT, Nat.reduceEqDiff, Nat.reduceMul, Nat.reduceLeDiff, if_true, Zn, reduceCtorEq, ZA, eq_self, Int.reduceLE, Int.reduceLT, Int.reduceToNat, ne_eq, Nat.reduceSub, Tld32, n1, xl, ol, nb2_bs, nb2_b1]
        refine callK_newR0 (l02Places_c n x o hx hy n2 n8 px po hdif) (fun _ _ => toldW_nil) ?_
        rintro v Mp hpl ndp _
        obtain ⟨ap, mp, cpp, rfl, emp⟩ := slsl_frm hpl
        have hpb := (plTo_bound x o (n - 1) (by omega) (n - 1)).1
        simp only [List.cons_append, List.nil_append] at ndp ⊢
        simp (maxSteps := 2000000) (disch := first | omega | (simp only [E4, xl, ol, *] <;> omega) | fail) only [↓E0, E1, env0, envN, evOps, evOp, evQs, evQ, evV, setD, pureOp, ev, upd, updL, cellAt, cellsAt, findB, setB, hav, ↓reduceIte, Zj, Zk, Nat.reduceAdd, Nat.reduceLT, Nat.reduceEqDiff, Nat.reduceMul, Nat.reduceLeDiff, if_true, Zn, reduceCtorEq, ZA, eq_self, Int.reduceLE, Int.reduceLT, Int.reduceToNat, ne_eq, Nat.reduceSub, Tld32, n1, xl, ol, nb2_bs, nb2_b1]
        repeat refine And.intro (by omega) ?_
        intro g
        simp only [List.map_cons, List.map_nil, updL, upd, Nat.reduceEqDiff, if_true, if_false, ↓reduceIte]
        refine hK _ _ ?_; clear hK K
        refine Cd.rs [2, 5, 6, 7, 24] fun K hK => ?_
        simp (maxSteps := 2000000) (disch := first | omega | (simp only [E4, xl, ol, *] <;> omega) | fail) only [↓E0, E1, env0, envN, evOps, evOp, evQs, evQ, evV, setD, pureOp, ev, upd, updL, binW, eqOp, binV, intOp, shOp, boolOp, lenV, hav, eqL, SameI, strOp, ↓reduceIte, Zj, Zk, Nat.reduceAdd, Nat.reduceLT, Nat.reduceEqDiff, Nat.reduceMul, Nat.reduceLeDiff, if_true, Zn, reduceCtorEq, ZA, eq_self, Int.reduceLE, Int.reduceLT, Int.reduceToNat, ne_eq, Nat.reduceSub, Tslce43, n1, xl, ol, nb2_bs, nb2_b1]
        repeat refine And.intro (by omega) ?_
        intro g
        simp only [List.map_cons, List.map_nil, updL, upd, Nat.reduceEqDiff, if_true, if_false, ↓reduceIte]
        refine hK _ _ ?_; clear hK K
        refine Cd.condd rfl (fun c2 => ?_) (fun c2 => ?_)
        · rcases hpl with ⟨e, _, _⟩ | ⟨bp, mp', cpp', csp, vsp, Mi, e, rfl, hrp, hrs⟩
          · rw [e] at emp
            simp at emp; omega
          cases e
          have d1 : (b2 = bp) = False := eq_false ((nodup_cases ndp).1 (bp, csp) (by simp))
          have d2 : (bs = bp) = False := eq_false ((nodup_cases (nodup_cases ndp).2).1 (bp, csp) (by simp))
          have d3 : (b1 = bp) = False := eq_false ((nodup_cases (nodup_cases (nodup_cases ndp).2).2).1 (bp, csp) (by simp))
          skip
          refine Cd.rs [2, 6, 8] fun K hK => ?_
          simp (maxSteps := 2000000) (disch := first | omega | (simp only [E4, xl, ol, d1, d2, d3, *] <;> omega) | fail) only [↓E0, E1, env0, envN, evOps, evOp, evQs, evQ, evV, setD, pureOp, ev, upd, updL, indexAddrV, cellAt, cellsAt, findB, setB, lenV, hav, ↓reduceIte, Zj, Zk, Nat.reduceAdd, Nat.reduceLT, Nat.reduceEqDiff, Nat.reduceMul, Nat.reduceLeDiff, if_true, Zn, reduceCtorEq, ZA, eq_self, Int.reduceLE, Int.reduceLT, Int.reduceToNat, ne_eq, Nat.reduceSub, Tld47, Tslc43, Tslce43, n1, xl, ol, nb2_bs, nb2_b1, d1, d2, d3]
          refine callK_draw (hnx (mp : Int) ⟨by omega, by omega⟩) ho (fb _ _) (Told.toldW hR) ?_
          rintro v t h ho ⟨y, rfl, y0, y1, _⟩
          obtain ⟨y, rfl⟩ : ∃ y' : Nat, y = (y' : Int) := ⟨y.toNat, by omega⟩
          have hym : y < mp := by omega
          obtain ⟨ll, w1, A, Mj, B, q1, q2, rfl, q4, _⟩ := hrs.split (j := y) (by omega)
          obtain ⟨i, r, rfl, hi, hr, _⟩ := plTo_mem _ _ (List.mem_of_getElem? q1)
          have q3 := hrp.get q2
          rcases q4 with ⟨e, _, _⟩ | ⟨bj, mj, capj, csj, rfl, rfl, hrj⟩
          · cases e
          have hg0 : csj[0]? = some (.int .i64 (i : Int)) := hrj.get rfl
          have hg1 : csj[1]? = some (.int .i64 (r : Int)) := hrj.get rfl
          have lj : 2 = mj := hrj.len1
          subst lj
          skip
          simp (maxSteps := 2000000) (disch := first | omega | (simp only [E4, xl, ol, d1, d2, d3, q3, *] <;> omega) | fail) only [↓E0, E1, env0, envN, evOps, evOp, evQs, evQ, evV, setD, pureOp, ev, upd, updL, indexAddrV, cellAt, cellsAt, findB, setB, lenV, hav, ↓reduceIte, Zj, Zk, Nat.reduceAdd, Nat.reduceLT, Nat.reduceEqDiff, Nat.reduceMul, Nat.reduceLeDiff, if_true, Zn, reduceCtorEq, ZA, eq_self, Int.reduceLE, Int.reduceLT, Int.reduceToNat, ne_eq, Nat.reduceSub, Tld47, Tslc43, Tslce43, n1, xl, ol, nb2_bs, nb2_b1, d1, d2, d3, q3]
          repeat refine And.intro (by omega) ?_
          repeat refine And.intro (by omega) ?_
          intro g
          simp only [List.map_cons, List.map_nil, updL, upd, Nat.reduceEqDiff, if_true, if_false, ↓reduceIte]
          refine hK _ _ ?_; clear hK K
          refine Cd.sub (M' := [(bj, csj), (b2, gc (n : Int) x o), (b1, gc 0 z8 z8)]) (by exact subP_cnt ((bs, srcC cv t h) :: (bp, csp) :: (A ++ B)) fun _ => by simp only [cnt_cons, cnt_append, cnt_nil]; omega) ?_
          refine Cd.nodup fun nd5 => ?_
          have d5 : (bj = b2) = False := eq_false ((nodup_cases nd5).1 (b2, gc (n : Int) x o) (by simp))
          have d6 : (bj = b1) = False := eq_false ((nodup_cases nd5).1 (b1, gc 0 z8 z8) (by simp))
          skip
          refine Cd.ps [2, 3, 4] (Plan.take 0 (Plan.take 1 (Plan.take 2 (Plan.take 4 (Plan.take 5 (Plan.more 3 (Plan.more 6 (Plan.one 7 (Plan.take 8 (Plan.take 9 (Plan.done)))) (Plan.one 7 (Plan.take 6 (Plan.take 8 (Plan.take 9 (Plan.done)))))) (Plan.more 6 (Plan.more 3 (Plan.one 7 (Plan.take 8 (Plan.take 9 (Plan.done)))) (Plan.one 7 (Plan.take 3 (Plan.take 8 (Plan.take 9 (Plan.done)))))) (Plan.one 7 (Plan.take 3 (Plan.take 6 (Plan.take 8 (Plan.take 9 (Plan.done))))))))))))) fol (by kernel_rfl) (Nat.le_of_ble_eq_true rfl) fun K hK => ?_
          simp (maxSteps := 2000000) (disch := first | omega | (simp only [E4, xl, ol, d1, d2, d3, q3, d5, d6, hg0, hg1, *] <;> omega) | fail) only [↓E0, E1, evPlan, env0, envN, evOps, evOp, evQs, evQ, evV, setD, pureOp, ev, upd, updL, indexAddrV, cellAt, cellsAt, findB, setB, Value.cells, hav, ↓reduceIte, Zj, Zk, Nat.reduceAdd, Nat.reduceLT, Nat.reduceEqDiff, Nat.reduceMul, Nat.reduceLeDiff, if_true, Zn, reduceCtorEq, ZA, eq_self, Int.reduceLE, Int.reduceLT, Int.reduceToNat, ne_eq, Nat.reduceSub, Tld2, Tld32, Tslc47, Tst32, n1, xl, ol, nb2_bs, nb2_b1, d1, d2, d3, q3, d5, d6, hg0, hg1]
          repeat' with_reducible refine And.intro ?_ ?_
          all_goals
            repeat refine And.intro (by omega) ?_
            intro g
            simp only [List.map_cons, List.map_nil, updL, upd, Nat.reduceEqDiff, if_true, if_false, ↓reduceIte]
            refine hK _ _ ?_
            refine Cd.ret (midR ?_)
            simp (maxSteps := 2000000) (disch := first | omega | (simp only [E4, xl, ol, d1, d2, d3, q3, d5, d6, hg0, hg1, *] <;> omega) | fail) only [↓E0, E1, evPlan, env0, envN, evOps, evOp, evQs, evQ, evV, setD, pureOp, ev, upd, updL, indexAddrV, cellAt, cellsAt, findB, setB, Value.cells, hav, ↓reduceIte, Zj, Zk, Nat.reduceAdd, Nat.reduceLT, Nat.reduceEqDiff, Nat.reduceMul, Nat.reduceLeDiff, if_true, Zn, reduceCtorEq, ZA, eq_self, Int.reduceLE, Int.reduceLT, Int.reduceToNat, ne_eq, Nat.reduceSub, Tld2, Tld32, Tslc47, Tst32, n1, xl, ol, nb2_bs, nb2_b1, d1, d2, d3, q3, d5, d6, hg0, hg1]
            exact ⟨[], SubP.of (List.nil_sublist _), ⟨_, x, o, _, _, rfl, hs, hx, hy, ⟨by omega, by omega⟩, ⟨by omega, by omega⟩⟩, rfl⟩
        · refine Cd.skip ?_
          exact midN ⟨_, t, h, ho, (norm_of (by repeat (first | exact trivial | refine And.intro rfl ?_))), by exact subP_cnt Mp fun _ => by simp only [cnt_cons, cnt_append, cnt_nil]; omega⟩
      · refine Cd.skip ?_
        exact midN ⟨_, t, h, ho, (norm_of (by repeat (first | exact trivial | refine And.intro rfl ?_))), SubP.refl _⟩
    · have his := l01Is_c s x o hx hy
      rw [Bool.eq_false_iff.2 hg] at his
      refine Cd.rs [2, 5, 6, 19] fun K hK => ?_
      simp (maxSteps := 2000000) (disch := first | omega | (simp only [E4, xl, ol, *] <;> omega) | fail) only [↓E0, E1, env0, envN, evOps, evOp, evQs, evQ, evV, setD, pureOp, ev, upd, updL, gate, binW, eqOp, binV, intOp, shOp, boolOp, cellAt, cellsAt, findB, setB, hav, eqL, SameI, strOp, ↓reduceIte, Zj, Zk, Nat.reduceAdd, Nat.reduceLT, Nat.reduceEqDiff, Nat.reduceMul, Nat.reduceLeDiff, if_true, Zn, reduceCtorEq, ZA, eq_self, Int.reduceLE, Int.reduceLT, Int.reduceToNat, ne_eq, Nat.reduceSub, Tld32, n1, xl, ol, nb2_bs, nb2_b1]
      refine callK_gives his ?_
      simp (maxSteps := 2000000) (disch := first | omega | (simp only [E4, xl, ol, *] <;> omega) | fail) only [↓E0, E1, env0, envN, evOps, evOp, evQs, evQ, evV, setD, pureOp, ev, upd, updL, gate, binW, eqOp, binV, intOp, shOp, boolOp, cellAt, cellsAt, findB, setB, hav, eqL, SameI, strOp, ↓reduceIte, Zj, Zk, Nat.reduceAdd, Nat.reduceLT, Nat.reduceEqDiff, Nat.reduceMul, Nat.reduceLeDiff, if_true, Zn, reduceCtorEq, ZA, eq_self, Int.reduceLE, Int.reduceLT, Int.reduceToNat, ne_eq, Nat.reduceSub, Tld32, n1, xl, ol, nb2_bs, nb2_b1]
      repeat refine And.intro (by omega) ?_
      intro g
      simp only [List.map_cons, List.map_nil, updL, upd, Nat.reduceEqDiff, if_true, if_false, ↓reduceIte]
      refine hK _ _ ?_; clear hK K
      refine Cd.cond rfl (fun c1 => absurd c1 (by decide)) (fun c1 => ?_)
      refine Cd.skip ?_
      exact midN ⟨_, t, h, ho, (norm_of (by repeat (first | exact trivial | refine And.intro rfl ?_))), SubP.refl _⟩
  · rintro ρ M ⟨g, t, h, ho, rfl, hM⟩
    refine Cd.sub hM ?_
    clear hM M
    refine Cd.ps [2, 3, 4] (Plan.take 1 (Plan.take 2 (Plan.take 3 (Plan.take 4 (Plan.take 6 (Plan.take 7 (Plan.take 10 (Plan.more 0 (Plan.more 5 (Plan.more 8 (Plan.take 9 (Plan.one 11 (Plan.take 12 (Plan.take 13 (Plan.one 14 (Plan.one 15 (Plan.take 16 (Plan.take 17 (Plan.done))))))))) (Plan.one 11 (Plan.take 8 (Plan.take 9 (Plan.take 12 (Plan.take 13 (Plan.one 14 (Plan.one 15 (Plan.take 16 (Plan.take 17 (Plan.done))))))))))) (Plan.one 8 (Plan.take 9 (Plan.one 5 (Plan.one 11 (Plan.take 12 (Plan.take 13 (Plan.one 14 (Plan.one 15 (Plan.take 16 (Plan.take 17 (Plan.done)))))))))))) (Plan.more 5 (Plan.more 0 (Plan.more 8 (Plan.take 9 (Plan.one 11 (Plan.take 12 (Plan.take 13 (Plan.one 14 (Plan.one 15 (Plan.take 16 (Plan.take 17 (Plan.done))))))))) (Plan.one 11 (Plan.take 8 (Plan.take 9 (Plan.take 12 (Plan.take 13 (Plan.one 14 (Plan.one 15 (Plan.take 16 (Plan.take 17 (Plan.done))))))))))) (Plan.more 8 (Plan.take 9 (Plan.more 0 (Plan.one 11 (Plan.take 12 (Plan.take 13 (Plan.one 14 (Plan.one 15 (Plan.take 16 (Plan.take 17 (Plan.done)))))))) (Plan.one 11 (Plan.take 12 (Plan.take 13 (Plan.more 0 (Plan.one 14 (Plan.one 15 (Plan.take 16 (Plan.take 17 (Plan.done))))) (Plan.one 14 (Plan.take 0 (Plan.one 15 (Plan.take 16 (Plan.take 17 (Plan.done)))))))))))) (Plan.one 11 (Plan.take 8 (Plan.take 9 (Plan.take 12 (Plan.take 13 (Plan.more 0 (Plan.one 14 (Plan.one 15 (Plan.take 16 (Plan.take 17 (Plan.done))))) (Plan.one 14 (Plan.take 0 (Plan.one 15 (Plan.take 16 (Plan.take 17 (Plan.done)))))))))))))) (Plan.one 8 (Plan.take 9 (Plan.more 0 (Plan.one 5 (Plan.one 11 (Plan.take 12 (Plan.take 13 (Plan.one 14 (Plan.one 15 (Plan.take 16 (Plan.take 17 (Plan.done))))))))) (Plan.one 5 (Plan.more 0 (Plan.one 11 (Plan.take 12 (Plan.take 13 (Plan.one 14 (Plan.one 15 (Plan.take 16 (Plan.take 17 (Plan.done)))))))) (Plan.one 11 (Plan.take 12 (Plan.take 13 (Plan.more 0 (Plan.one 14 (Plan.one 15 (Plan.take 16 (Plan.take 17 (Plan.done))))) (Plan.one 14 (Plan.take 0 (Plan.one 15 (Plan.take 16 (Plan.take 17 (Plan.done)))))))))))))))))))))))) fol (by kernel_rfl) (Nat.le_of_ble_eq_true rfl) fun K hK => ?_
    simp (maxSteps := 2000000) (disch := first | omega | (simp only [E4, xl, ol, *] <;> omega) | fail) only [↓E0, E1, evPlan, env0, envN, evOps, evOp, evQs, evQ, evV, setD, pureOp, ev, upd, updL, binW, eqOp, binV, intOp, shOp, boolOp, fieldAddrV, cellAt, cellsAt, findB, setB, Value.cells, hav, eqL, SameI, strOp, ↓reduceIte, Zj, Zk, Nat.reduceAdd, Nat.reduceLT, Nat.reduceEqDiff, Nat.reduceMul, Nat.reduceLeDiff, if_true, Zn, reduceCtorEq, ZA, eq_self, Int.reduceLE, Int.reduceLT, Int.reduceToNat, ne_eq, Nat.reduceSub, Tfld32_0, Tld2, Tld32, Tst32, ↓YR, n1, xl, ol, nb2_bs, nb2_b1]
    repeat' first
        | with_reducible refine moreX_go ?_ ?_
        | simp (maxSteps := 2000000) (disch := first | omega | (simp only [E4, xl, ol, *] <;> omega) | fail) only [↓E0, E1, evPlan, env0, envN, evOps, evOp, evQs, evQ, evV, setD, pureOp, ev, upd, updL, binW, eqOp, binV, intOp, shOp, boolOp, fieldAddrV, cellAt, cellsAt, findB, setB, Value.cells, hav, eqL, SameI, strOp, ↓reduceIte, Zj, Zk, Nat.reduceAdd, Nat.reduceLT, Nat.reduceEqDiff, Nat.reduceMul, Nat.reduceLeDiff, if_true, Zn, reduceCtorEq, ZA, eq_self, Int.reduceLE, Int.reduceLT, Int.reduceToNat, ne_eq, Nat.reduceSub, Tfld32_0, Tld2, Tld32, Tst32, ↓YR, n1, xl, ol, nb2_bs, nb2_b1]
        | (first | with_reducible refine And.intro ?_ ?_ | (refine callO_draw (hnx _ (by first | exact ⟨by omega, by omega⟩ | exact wrap_rng _)) (by assumption) (fb _ _) (Told.toldW hR) ?_; rintro _ _ _ _ ⟨_, rfl, _, _, _⟩) | omega)
    all_goals
      repeat refine And.intro (by omega) ?_
      intro g
      simp only [List.map_cons, List.map_nil, updL, upd, Nat.reduceEqDiff, if_true, if_false, ↓reduceIte]
      refine hK _ _ ?_
      refine Cd.ret ?_
      simp (maxSteps := 2000000) (disch := first | omega | (simp only [E4, xl, ol, *] <;> omega) | fail) only [↓E0, E1, evPlan, env0, envN, evOps, evOp, evQs, evQ, evV, setD, pureOp, ev, upd, updL, binW, eqOp, binV, intOp, shOp, boolOp, fieldAddrV, cellAt, cellsAt, findB, setB, Value.cells, hav, eqL, SameI, strOp, ↓reduceIte, Zj, Zk, Nat.reduceAdd, Nat.reduceLT, Nat.reduceEqDiff, Nat.reduceMul, Nat.reduceLeDiff, if_true, Zn, reduceCtorEq, ZA, eq_self, Int.reduceLE, Int.reduceLT, Int.reduceToNat, ne_eq, Nat.reduceSub, Tfld32_0, Tld2, Tld32, Tst32, n1, xl, ol, nb2_bs, nb2_b1]
      exact ⟨[], SubP.of (List.nil_sublist _), ⟨s, x, o, _, _, rfl, hs, hx, hy, by assumption, by assumption⟩, rfl⟩
theorem dDest_c : GivesX Try.prog 24 #[cv] [] R (fun v M' => (∃ s x o a c, v = .tuple #[.agg (gc s x o).toArray, .int .i64 a, .int .i64 c] ∧ Rng s ∧ Bytes8 x ∧ Bytes8 o ∧ Rng a ∧ Rng c) ∧ M' = []) := by
  refine GivesX.part ?_
  refine GivesX.of (callable_of Try.func24 rfl (by decide)) ?_ fun w hnd hlt hR => ?_
  · simp
  refine acall_of (N := 10) (c := _) (rs := [.cell 2 32, .tmp 3, .tmp 4]) (args := [_]) Try.func24 rfl (by decide) rfl rfl (Nat.le_of_ble_eq_true rfl) ?_
  have hR : W8.Told [] w R := hR
  refine Cd.rs [0, 2] fun K hK => ?_
  simp (maxSteps := 2000000) (disch := first | omega | (simp only [E4, *] <;> omega) | fail) only [↓E0, E1, env0, envN, evOps, evOp, evQs, evQ, evV, setD, pureOp, ev, upd, updL, Value.cells, hav, ↓reduceIte, Zj, Zk, Nat.reduceAdd, Nat.reduceLT, Nat.reduceEqDiff, Nat.reduceMul, Nat.reduceLeDiff, if_true, Zn, reduceCtorEq, ZA, eq_self, Int.reduceLE, Int.reduceLT, Int.reduceToNat, ne_eq, Nat.reduceSub, Tzero32]
  intro b1 hb1
  try simp (maxSteps := 2000000) (disch := first | omega | (simp only [E4, *] <;> omega) | fail) only [↓E0, E1, env0, envN, evOps, evOp, evQs, evQ, evV, setD, pureOp, ev, upd, updL, Value.cells, hav, ↓reduceIte, Zj, Zk, Nat.reduceAdd, Nat.reduceLT, Nat.reduceEqDiff, Nat.reduceMul, Nat.reduceLeDiff, if_true, Zn, reduceCtorEq, ZA, eq_self, Int.reduceLE, Int.reduceLT, Int.reduceToNat, ne_eq, Nat.reduceSub, Tzero32]
  repeat refine And.intro (by omega) ?_
  intro g
  simp only [List.map_cons, List.map_nil, updL, upd, Nat.reduceEqDiff, if_true, if_false, ↓reduceIte]
  refine hK _ _ ?_; clear hK K
  refine Cd.rs [2, 3, 4] fun K hK => ?_
  simp (maxSteps := 2000000) (disch := first | omega | (simp only [E4, *] <;> omega) | fail) only [↓E0, E1, env0, envN, evOps, evOp, evQs, evQ, evV, setD, pureOp, ev, upd, updL, extractV, cellAt, cellsAt, findB, setB, Value.cells, hav, ↓reduceIte, Zj, Zk, Nat.reduceAdd, Nat.reduceLT, Nat.reduceEqDiff, Nat.reduceMul, Nat.reduceLeDiff, if_true, Zn, reduceCtorEq, ZA, eq_self, Int.reduceLE, Int.reduceLT, Int.reduceToNat, ne_eq, Nat.reduceSub, Tst32]
  refine callK_new0 (dCan_c l cv R hin hl hb hne) (Told.toldW hR) ?_
  rintro v M' ⟨⟨s, x, o, a, c, rfl, hs, hx, hy, ha, hc⟩, rfl⟩ _ _
  have xl := hx.len
  have ol := hy.len
  skip
  simp only [List.nil_append]
  simp (maxSteps := 2000000) (disch := first | omega | (simp only [E4, xl, ol, *] <;> omega) | fail) only [↓E0, E1, env0, envN, evOps, evOp, evQs, evQ, evV, setD, pureOp, ev, upd, updL, extractV, cellAt, cellsAt, findB, setB, Value.cells, hav, ↓reduceIte, Zj, Zk, Nat.reduceAdd, Nat.reduceLT, Nat.reduceEqDiff, Nat.reduceMul, Nat.reduceLeDiff, if_true, Zn, reduceCtorEq, ZA, eq_self, Int.reduceLE, Int.reduceLT, Int.reduceToNat, ne_eq, Nat.reduceSub, Tst32, xl, ol]
  repeat refine And.intro (by omega) ?_
  intro g
  simp only [List.map_cons, List.map_nil, updL, upd, Nat.reduceEqDiff, if_true, if_false, ↓reduceIte]
  refine hK _ _ ?_; clear hK K
  refine Cd.ret ?_
  simp (maxSteps := 2000000) (disch := first | omega | (simp only [E4, xl, ol, *] <;> omega) | fail) only [↓E0, E1, evP, evPlan, env0, envN, evOps, evOp, evQs, evQ, evV, setD, pureOp, ev, upd, updL, gate, binW, eqOp, binV, intOp, shOp, boolOp, unV, convV, nilV, fieldAddrV, indexAddrV, extractV, cellAt, cellsAt, findB, setB, fillL, buildV, Value.cells, lenV, minV, maxV, hav, sliceV, loV, hiV, bslQ, mksQ, appQ, partsOk, partsCells, delB, eqL, SameI, strOp, apzQ, cvtQ, capV, ↓reduceIte, Zj, Zk, Nat.reduceAdd, Nat.reduceLT, Nat.reduceEqDiff, Nat.reduceMul, Nat.reduceLeDiff, if_true, Zn, reduceCtorEq, ZA, eq_self, Int.reduceLE, Int.reduceLT, Int.reduceToNat, ne_eq, Nat.reduceSub, Tld32, xl, ol]
  exact ⟨[], SubP.of (List.nil_sublist _), ⟨s, x, o, a, c, rfl, hs, hx, hy, ha, hc⟩, rfl⟩
end

end Go.Proofs

/-
  What the functions of this part hand back: each as a plain function of its arguments. Conditions: none.
-/
namespace Go.Proofs
open Go.W8
set_option linter.unusedVariables false
set_option linter.unusedSimpArgs false
set_option linter.unusedSectionVars false
set_option maxRecDepth 8000
set_option maxHeartbeats 4000000
theorem likeInts_c (l : List Int) (R : Rd) (v v' : Value) (h : RdS R 1 (ints .i64 l) v) (h' : RdS R 1 (ints .i64 l) v') (hb : l.length < 4611686018427387904) : GivesR Try.prog 101 #[v, v'] R (.bool true) := by
  obtain ⟨a, m, cap, rfl, hm, _⟩ := id h
  obtain ⟨a', m', cap', rfl, hm', _⟩ := id h'
  obtain rfl := int64_len hm
  obtain rfl := int64_len hm'
  refine GivesR.of (callable_of Try.func101 rfl (by decide)) fun w hR => ?_
  refine acall_of (N := 26) (c := _) (rs := [.tmp 4]) (args := [_, _]) Try.func101 rfl (by decide) rfl rfl (Nat.le_of_ble_eq_true rfl) ?_
  refine Cd.rs [0, 1] fun K hK => ?_
  simp (maxSteps := 2000000) (disch := first | (simp only [E4] <;> omega) | omega | fail) only [↓E2, E3, bare, bareJ, ↓E0, E1, env0, envN, evOps, evOp, evQs, evQ, evV, setD, pureOp, ev, upd, updL, hav, ↓reduceIte, Zj, Zk, Nat.reduceAdd, Nat.reduceLT, Nat.reduceEqDiff, Nat.reduceMul, Nat.reduceLeDiff, if_true, Zn, reduceCtorEq, ZA, eq_self, Int.reduceLE, Int.reduceLT, Int.reduceToNat, ne_eq, Nat.reduceSub]
  repeat refine And.intro (by omega) ?_
  intro g
  simp only [List.map_cons, List.map_nil, updL, upd, Nat.reduceEqDiff, if_true, if_false, ↓reduceIte]
  refine hK _ _ ?_; clear hK K
  refine Cd.seq ?_
  refine Cd.rs [0, 1, 10] fun K hK => ?_
  simp (maxSteps := 2000000) (disch := first | (simp only [E4] <;> omega) | omega | fail) only [↓E2, E3, bare, bareJ, ↓E0, E1, env0, envN, evOps, evOp, evQs, evQ, evV, setD, pureOp, ev, upd, updL, binW, eqOp, binV, intOp, shOp, boolOp, lenV, hav, eqL, SameI, strOp, ↓reduceIte, Zj, Zk, Nat.reduceAdd, Nat.reduceLT, Nat.reduceEqDiff, Nat.reduceMul, Nat.reduceLeDiff, if_true, Zn, reduceCtorEq, ZA, eq_self, Int.reduceLE, Int.reduceLT, Int.reduceToNat, ne_eq, Nat.reduceSub, Tslce47]
  repeat refine And.intro (by omega) ?_
  intro g
  simp only [List.map_cons, List.map_nil, updL, upd, Nat.reduceEqDiff, if_true, if_false, ↓reduceIte]
  refine hK _ _ ?_; clear hK K
  refine Cd.no rfl ?_
  refine Cd.skip ?_
  refine thenN ?_
  refine Cd.seq ?_
  refine Cd.rs [0, 1, 5] fun K hK => ?_
  simp (maxSteps := 2000000) (disch := first | (simp only [E4] <;> omega) | omega | fail) only [↓E2, E3, bare, bareJ, ↓E0, E1, env0, envN, evOps, evOp, evQs, evQ, evV, setD, pureOp, ev, upd, updL, hav, ↓reduceIte, Zj, Zk, Nat.reduceAdd, Nat.reduceLT, Nat.reduceEqDiff, Nat.reduceMul, Nat.reduceLeDiff, if_true, Zn, reduceCtorEq, ZA, eq_self, Int.reduceLE, Int.reduceLT, Int.reduceToNat, ne_eq, Nat.reduceSub]
  repeat refine And.intro (by omega) ?_
  intro g
  simp only [List.map_cons, List.map_nil, updL, upd, Nat.reduceEqDiff, if_true, if_false, ↓reduceIte]
  refine hK _ _ ?_; clear hK K
  refine Cd.block ?_
  refine Cd.loop (fun n ρ M => ∃ g k, k + n = l.length ∧ ρ = updL [(0, .slice a l.length cap), (1, .slice a' l.length cap'), (5, .int .i64 (k : Int))] g ∧ M = []) l.length ⟨_, 0, Nat.zero_add _, rfl, rfl⟩ ?_
  rintro n ρ M ⟨g, k, hk, rfl, rfl⟩
  refine Cd.seq ?_
  refine Cd.rs [0, 1, 5, 14] fun K hK => ?_
  simp (maxSteps := 2000000) (disch := first | (simp only [E4] <;> omega) | omega | fail) only [↓E2, E3, bare, bareJ, ↓E0, E1, env0, envN, evOps, evOp, evQs, evQ, evV, setD, pureOp, ev, upd, updL, binW, eqOp, binV, intOp, shOp, boolOp, lenV, hav, eqL, SameI, strOp, ↓reduceIte, Zj, Zk, Nat.reduceAdd, Nat.reduceLT, Nat.reduceEqDiff, Nat.reduceMul, Nat.reduceLeDiff, if_true, Zn, reduceCtorEq, ZA, eq_self, Int.reduceLE, Int.reduceLT, Int.reduceToNat, ne_eq, Nat.reduceSub, Tslce47]
  repeat refine And.intro (by omega) ?_
  intro g
  simp only [List.map_cons, List.map_nil, updL, upd, Nat.reduceEqDiff, if_true, if_false, ↓reduceIte]
  refine hK _ _ ?_; clear hK K
  refine Cd.condd rfl (fun h2 => ?_) (fun h2 => ?_)
  · obtain ⟨b, rfl, q⟩ := h.get hR (ints_get (i := k) (by omega))
    obtain ⟨b', rfl, q'⟩ := h'.get hR (ints_get (i := k) (by omega))
    refine Cd.skip ?_
    refine thenN ?_
    refine Cd.seq ?_
    refine Cd.block ?_
    skip
    refine Cd.qs [0, 1, 5, 25] fol (by kernel_rfl) fun K hK => ?_
    simp (maxSteps := 2000000) (disch := first | (simp only [E4, q, q'] <;> omega) | omega | fail) only [↓E2, E3, bare, bareJ, ↓E0, E1, evPlan, env0, envN, evOps, evOp, evQs, evQ, evV, setD, pureOp, ev, upd, updL, binW, eqOp, binV, intOp, shOp, boolOp, indexAddrV, cellAt, cellsAt, findB, hav, eqL, SameI, strOp, ↓reduceIte, Zj, Zk, Nat.reduceAdd, Nat.reduceLT, Nat.reduceEqDiff, Nat.reduceMul, Nat.reduceLeDiff, if_true, Zn, reduceCtorEq, ZA, eq_self, Int.reduceLE, Int.reduceLT, Int.reduceToNat, ne_eq, Nat.reduceSub, Tld2, Tslc47, q, q']
    repeat refine And.intro (by omega) ?_
    intro g
    simp only [List.map_cons, List.map_nil, updL, upd, Nat.reduceEqDiff, if_true, if_false, ↓reduceIte]
    refine hK _ ?_; clear hK K
    refine Cd.no rfl ?_
    refine Cd.skip ?_
    refine inBN ?_
    refine thenN ?_
    refine Cd.rr [0, 1, 5] fun K hK => ?_
    simp (maxSteps := 2000000) (disch := first | (simp only [E4, q, q'] <;> omega) | omega | fail) only [↓E2, E3, bare, bareJ, ↓E0, E1, env0, envN, evOps, evOp, evQs, evQ, evV, setD, pureOp, ev, upd, updL, binW, eqOp, binV, intOp, shOp, boolOp, hav, eqL, SameI, strOp, ↓reduceIte, Zj, Zk, Nat.reduceAdd, Nat.reduceLT, Nat.reduceEqDiff, Nat.reduceMul, Nat.reduceLeDiff, if_true, Zn, reduceCtorEq, ZA, eq_self, Int.reduceLE, Int.reduceLT, Int.reduceToNat, ne_eq, Nat.reduceSub, q, q']
    repeat refine And.intro (by omega) ?_
    intro g
    simp only [List.map_cons, List.map_nil, updL, upd, Nat.reduceEqDiff, if_true, if_false, ↓reduceIte]
    refine hK _ _ ?_; clear hK K
    exact roundN (m := n - 1) (by omega) ⟨_, k + 1, by omega, rfl, rfl⟩
  · refine Cd.exit (thenX (roundX (inBX ?_)))
    refine thenN ?_
    refine Cd.rs [4] fun K hK => ?_
    simp (maxSteps := 2000000) (disch := first | (simp only [E4] <;> omega) | omega | fail) only [↓E2, E3, bare, bareJ, ↓E0, E1, env0, envN, evOps, evOp, evQs, evQ, evV, setD, pureOp, ev, upd, updL, hav, ↓reduceIte, Zj, Zk, Nat.reduceAdd, Nat.reduceLT, Nat.reduceEqDiff, Nat.reduceMul, Nat.reduceLeDiff, if_true, Zn, reduceCtorEq, ZA, eq_self, Int.reduceLE, Int.reduceLT, Int.reduceToNat, ne_eq, Nat.reduceSub]
    repeat refine And.intro (by omega) ?_
    intro g
    simp only [List.map_cons, List.map_nil, updL, upd, Nat.reduceEqDiff, if_true, if_false, ↓reduceIte]
    refine hK _ _ ?_; clear hK K
    refine Cd.ret ?_
    simp (maxSteps := 2000000) (disch := first | (simp only [E4] <;> omega) | omega | fail) only [↓E2, E3, bare, bareJ, ↓E0, E1, evP, evPlan, env0, envN, evOps, evOp, evQs, evQ, evV, setD, pureOp, ev, upd, updL, gate, binW, eqOp, binV, intOp, shOp, boolOp, unV, convV, nilV, fieldAddrV, indexAddrV, extractV, cellAt, cellsAt, findB, setB, fillL, buildV, Value.cells, lenV, minV, maxV, hav, sliceV, loV, hiV, bslQ, mksQ, appQ, partsOk, partsCells, delB, eqL, SameI, strOp, apzQ, cvtQ, capV, ↓reduceIte, Zj, Zk, Nat.reduceAdd, Nat.reduceLT, Nat.reduceEqDiff, Nat.reduceMul, Nat.reduceLeDiff, if_true, Zn, reduceCtorEq, ZA, eq_self, Int.reduceLE, Int.reduceLT, Int.reduceToNat, ne_eq, Nat.reduceSub]

theorem lists9_c (ll : List (List Int)) (R : Rd) (v v' : Value) (h : RdSS R ll v) (h' : RdSS R ll v') (hb : ll.length < 4611686018427387904) (hs : sumL ll < 4611686018427387904) : GivesR Try.prog 32 #[v, v'] R (.bool true) := by
  obtain ⟨vs, h, hv, hg⟩ := h
  obtain ⟨vs', h', hv', hg'⟩ := h'
  obtain ⟨a, m, cap, rfl, hm, _⟩ := id h
  obtain ⟨a', m', cap', rfl, hm', _⟩ := id h'
  obtain rfl : m = ll.length := by omega
  obtain rfl : m' = ll.length := by omega
  refine GivesR.of (callable_of Try.func32 rfl (by decide)) fun w hR => ?_
  refine acall_of (N := 27) (c := _) (rs := [.tmp 4]) (args := [_, _]) Try.func32 rfl (by decide) rfl rfl (Nat.le_of_ble_eq_true rfl) ?_
  refine Cd.rs [0, 1] fun K hK => ?_
  simp (maxSteps := 2000000) (disch := first | (simp only [E4] <;> omega) | omega | fail) only [↓E2, E3, bare, bareJ, ↓E0, E1, env0, envN, evOps, evOp, evQs, evQ, evV, setD, pureOp, ev, upd, updL, hav, ↓reduceIte, Zj, Zk, Nat.reduceAdd, Nat.reduceLT, Nat.reduceEqDiff, Nat.reduceMul, Nat.reduceLeDiff, if_true, Zn, reduceCtorEq, ZA, eq_self, Int.reduceLE, Int.reduceLT, Int.reduceToNat, ne_eq, Nat.reduceSub]
  repeat refine And.intro (by omega) ?_
  intro g
  simp only [List.map_cons, List.map_nil, updL, upd, Nat.reduceEqDiff, if_true, if_false, ↓reduceIte]
  refine hK _ _ ?_; clear hK K
  refine Cd.seq ?_
  refine Cd.rs [0, 1, 10] fun K hK => ?_
  simp (maxSteps := 2000000) (disch := first | (simp only [E4] <;> omega) | omega | fail) only [↓E2, E3, bare, bareJ, ↓E0, E1, env0, envN, evOps, evOp, evQs, evQ, evV, setD, pureOp, ev, upd, updL, binW, eqOp, binV, intOp, shOp, boolOp, lenV, hav, eqL, SameI, strOp, ↓reduceIte, Zj, Zk, Nat.reduceAdd, Nat.reduceLT, Nat.reduceEqDiff, Nat.reduceMul, Nat.reduceLeDiff, if_true, Zn, reduceCtorEq, ZA, eq_self, Int.reduceLE, Int.reduceLT, Int.reduceToNat, ne_eq, Nat.reduceSub, Tslce43]
  repeat refine And.intro (by omega) ?_
  intro g
  simp only [List.map_cons, List.map_nil, updL, upd, Nat.reduceEqDiff, if_true, if_false, ↓reduceIte]
  refine hK _ _ ?_; clear hK K
  refine Cd.no rfl ?_
  refine Cd.skip ?_
  refine thenN ?_
  refine Cd.seq ?_
  refine Cd.rs [0, 1, 5] fun K hK => ?_
  simp (maxSteps := 2000000) (disch := first | (simp only [E4] <;> omega) | omega | fail) only [↓E2, E3, bare, bareJ, ↓E0, E1, env0, envN, evOps, evOp, evQs, evQ, evV, setD, pureOp, ev, upd, updL, hav, ↓reduceIte, Zj, Zk, Nat.reduceAdd, Nat.reduceLT, Nat.reduceEqDiff, Nat.reduceMul, Nat.reduceLeDiff, if_true, Zn, reduceCtorEq, ZA, eq_self, Int.reduceLE, Int.reduceLT, Int.reduceToNat, ne_eq, Nat.reduceSub]
  repeat refine And.intro (by omega) ?_
  intro g
  simp only [List.map_cons, List.map_nil, updL, upd, Nat.reduceEqDiff, if_true, if_false, ↓reduceIte]
  refine hK _ _ ?_; clear hK K
  refine Cd.block ?_
  refine Cd.loop (fun n ρ M => ∃ g k, k + n = ll.length ∧ ρ = updL [(0, .slice a ll.length cap), (1, .slice a' ll.length cap'), (5, .int .i64 (k : Int))] g ∧ M = []) ll.length ⟨_, 0, Nat.zero_add _, rfl, rfl⟩ ?_
  rintro n ρ M ⟨g, k, hk, rfl, rfl⟩
  refine Cd.seq ?_
  refine Cd.rs [0, 1, 5, 14] fun K hK => ?_
  simp (maxSteps := 2000000) (disch := first | (simp only [E4] <;> omega) | omega | fail) only [↓E2, E3, bare, bareJ, ↓E0, E1, env0, envN, evOps, evOp, evQs, evQ, evV, setD, pureOp, ev, upd, updL, binW, eqOp, binV, intOp, shOp, boolOp, lenV, hav, eqL, SameI, strOp, ↓reduceIte, Zj, Zk, Nat.reduceAdd, Nat.reduceLT, Nat.reduceEqDiff, Nat.reduceMul, Nat.reduceLeDiff, if_true, Zn, reduceCtorEq, ZA, eq_self, Int.reduceLE, Int.reduceLT, Int.reduceToNat, ne_eq, Nat.reduceSub, Tslce43]
  repeat refine And.intro (by omega) ?_
  intro g
  simp only [List.map_cons, List.map_nil, updL, upd, Nat.reduceEqDiff, if_true, if_false, ↓reduceIte]
  refine hK _ _ ?_; clear hK K
  refine Cd.condd rfl (fun h2 => ?_) (fun h2 => ?_)
  · have hlk : ll[k]? = some (ll[k]'(by omega)) := List.getElem?_eq_getElem _
    have huk : vs[k]? = some (vs[k]'(by omega)) := List.getElem?_eq_getElem _
    have huk' : vs'[k]? = some (vs'[k]'(by omega)) := List.getElem?_eq_getElem _
    obtain ⟨b, rfl, q⟩ := h.get hR huk
    obtain ⟨b', rfl, q'⟩ := h'.get hR huk'
    have he := likeInts_c _ R _ _ (hg k _ _ hlk huk) (hg' k _ _ hlk huk') (by have := len_le_sumL hlk; omega)
    generalize vs[k]'(by omega) = u at q he
    generalize vs'[k]'(by omega) = u' at q' he
    refine Cd.skip ?_
    refine thenN ?_
    refine Cd.seq ?_
    refine Cd.block ?_
    skip
    refine Cd.qs [0, 1, 5, 26] fol (by kernel_rfl) fun K hK => ?_
    simp (maxSteps := 2000000) (disch := first | (simp only [E4, q, q'] <;> omega) | omega | fail) only [↓E2, E3, bare, bareJ, ↓E0, E1, evPlan, env0, envN, evOps, evOp, evQs, evQ, evV, setD, pureOp, ev, upd, updL, unV, indexAddrV, cellAt, cellsAt, findB, setB, hav, ↓reduceIte, Zj, Zk, Nat.reduceAdd, Nat.reduceLT, Nat.reduceEqDiff, Nat.reduceMul, Nat.reduceLeDiff, if_true, Zn, reduceCtorEq, ZA, eq_self, Int.reduceLE, Int.reduceLT, Int.reduceToNat, ne_eq, Nat.reduceSub, Tld47, Tslc43, q, q']
    repeat refine And.intro (by omega) ?_
    refine callQ_told0 he hR ?_
    simp (maxSteps := 2000000) (disch := first | (simp only [E4, q, q'] <;> omega) | omega | fail) only [↓E2, E3, bare, bareJ, ↓E0, E1, evPlan, env0, envN, evOps, evOp, evQs, evQ, evV, setD, pureOp, ev, upd, updL, unV, indexAddrV, cellAt, cellsAt, findB, setB, hav, ↓reduceIte, Zj, Zk, Nat.reduceAdd, Nat.reduceLT, Nat.reduceEqDiff, Nat.reduceMul, Nat.reduceLeDiff, if_true, Zn, reduceCtorEq, ZA, eq_self, Int.reduceLE, Int.reduceLT, Int.reduceToNat, ne_eq, Nat.reduceSub, Tld47, Tslc43, q, q']
    repeat refine And.intro (by omega) ?_
    intro g
    simp only [List.map_cons, List.map_nil, updL, upd, Nat.reduceEqDiff, if_true, if_false, ↓reduceIte]
    refine hK _ ?_; clear hK K
    refine Cd.no rfl ?_
    refine Cd.skip ?_
    refine inBN ?_
    refine thenN ?_
    refine Cd.rr [0, 1, 5] fun K hK => ?_
    simp (maxSteps := 2000000) (disch := first | (simp only [E4, q, q'] <;> omega) | omega | fail) only [↓E2, E3, bare, bareJ, ↓E0, E1, env0, envN, evOps, evOp, evQs, evQ, evV, setD, pureOp, ev, upd, updL, binW, eqOp, binV, intOp, shOp, boolOp, hav, eqL, SameI, strOp, ↓reduceIte, Zj, Zk, Nat.reduceAdd, Nat.reduceLT, Nat.reduceEqDiff, Nat.reduceMul, Nat.reduceLeDiff, if_true, Zn, reduceCtorEq, ZA, eq_self, Int.reduceLE, Int.reduceLT, Int.reduceToNat, ne_eq, Nat.reduceSub, q, q']
    repeat refine And.intro (by omega) ?_
    intro g
    simp only [List.map_cons, List.map_nil, updL, upd, Nat.reduceEqDiff, if_true, if_false, ↓reduceIte]
    refine hK _ _ ?_; clear hK K
    exact roundN (m := n - 1) (by omega) ⟨_, k + 1, by omega, rfl, rfl⟩
  · refine Cd.exit (thenX (roundX (inBX ?_)))
    refine thenN ?_
    refine Cd.rs [4] fun K hK => ?_
    simp (maxSteps := 2000000) (disch := first | (simp only [E4] <;> omega) | omega | fail) only [↓E2, E3, bare, bareJ, ↓E0, E1, env0, envN, evOps, evOp, evQs, evQ, evV, setD, pureOp, ev, upd, updL, hav, ↓reduceIte, Zj, Zk, Nat.reduceAdd, Nat.reduceLT, Nat.reduceEqDiff, Nat.reduceMul, Nat.reduceLeDiff, if_true, Zn, reduceCtorEq, ZA, eq_self, Int.reduceLE, Int.reduceLT, Int.reduceToNat, ne_eq, Nat.reduceSub]
    repeat refine And.intro (by omega) ?_
    intro g
    simp only [List.map_cons, List.map_nil, updL, upd, Nat.reduceEqDiff, if_true, if_false, ↓reduceIte]
    refine hK _ _ ?_; clear hK K
    refine Cd.ret ?_
    simp (maxSteps := 2000000) (disch := first | (simp only [E4] <;> omega) | omega | fail) only [↓E2, E3, bare, bareJ, ↓E0, E1, evP, evPlan, env0, envN, evOps, evOp, evQs, evQ, evV, setD, pureOp, ev, upd, updL, gate, binW, eqOp, binV, intOp, shOp, boolOp, unV, convV, nilV, fieldAddrV, indexAddrV, extractV, cellAt, cellsAt, findB, setB, fillL, buildV, Value.cells, lenV, minV, maxV, hav, sliceV, loV, hiV, bslQ, mksQ, appQ, partsOk, partsCells, delB, eqL, SameI, strOp, apzQ, cvtQ, capV, ↓reduceIte, Zj, Zk, Nat.reduceAdd, Nat.reduceLT, Nat.reduceEqDiff, Nat.reduceMul, Nat.reduceLeDiff, if_true, Zn, reduceCtorEq, ZA, eq_self, Int.reduceLE, Int.reduceLT, Int.reduceToNat, ne_eq, Nat.reduceSub]

theorem big_c (l : List Int) (cv : Value) (R : Rd) (hin : InB R l cv) (hl : l.length ≤ 9223372036854775807) : Gives Try.prog 20 #[cv] (.bool (decide ((4096 : Int) < (l.length : Int)))) := by
  obtain ⟨a, cap, rfl⟩ := hin.form
  refine Gives.of fun w => ?_
  refine acall_of (N := 6) (c := _) (rs := [.tmp 2]) (args := [_]) Try.func20 rfl (by decide) rfl rfl (Nat.le_of_ble_eq_true rfl) ?_
  refine Cd.rs [0] fun K hK => ?_
  simp (maxSteps := 2000000) (disch := first | (simp only [E4] <;> omega) | omega | fail) only [↓E2, E3, bare, bareJ, ↓E0, E1, env0, envN, evOps, evOp, evQs, evQ, evV, setD, pureOp, ev, upd, updL, hav, ↓reduceIte, Zj, Zk, Nat.reduceAdd, Nat.reduceLT, Nat.reduceEqDiff, Nat.reduceMul, Nat.reduceLeDiff, if_true, Zn, reduceCtorEq, ZA, eq_self, Int.reduceLE, Int.reduceLT, Int.reduceToNat, ne_eq, Nat.reduceSub]
  repeat refine And.intro (by omega) ?_
  intro g
  simp only [List.map_cons, List.map_nil, updL, upd, Nat.reduceEqDiff, if_true, if_false, ↓reduceIte]
  refine hK _ _ ?_; clear hK K
  refine Cd.rs [2] fun K hK => ?_
  simp (maxSteps := 2000000) (disch := first | (simp only [E4] <;> omega) | omega | fail) only [↓E2, E3, bare, bareJ, ↓E0, E1, env0, envN, evOps, evOp, evQs, evQ, evV, setD, pureOp, ev, upd, updL, binW, eqOp, binV, intOp, shOp, boolOp, lenV, hav, eqL, SameI, strOp, ↓reduceIte, Zj, Zk, Nat.reduceAdd, Nat.reduceLT, Nat.reduceEqDiff, Nat.reduceMul, Nat.reduceLeDiff, if_true, Zn, reduceCtorEq, ZA, eq_self, Int.reduceLE, Int.reduceLT, Int.reduceToNat, ne_eq, Nat.reduceSub, Tslce28]
  repeat refine And.intro (by omega) ?_
  intro g
  simp only [List.map_cons, List.map_nil, updL, upd, Nat.reduceEqDiff, if_true, if_false, ↓reduceIte]
  refine hK _ _ ?_; clear hK K
  refine Cd.ret ?_
  simp (maxSteps := 2000000) (disch := first | (simp only [E4] <;> omega) | omega | fail) only [↓E2, E3, bare, bareJ, ↓E0, E1, evP, evPlan, env0, envN, evOps, evOp, evQs, evQ, evV, setD, pureOp, ev, upd, updL, gate, binW, eqOp, binV, intOp, shOp, boolOp, unV, convV, nilV, fieldAddrV, indexAddrV, extractV, cellAt, cellsAt, findB, setB, fillL, buildV, Value.cells, lenV, minV, maxV, hav, sliceV, loV, hiV, bslQ, mksQ, appQ, partsOk, partsCells, delB, eqL, SameI, strOp, apzQ, cvtQ, capV, ↓reduceIte, Zj, Zk, Nat.reduceAdd, Nat.reduceLT, Nat.reduceEqDiff, Nat.reduceMul, Nat.reduceLeDiff, if_true, Zn, reduceCtorEq, ZA, eq_self, Int.reduceLE, Int.reduceLT, Int.reduceToNat, ne_eq, Nat.reduceSub]

end Go.Proofs

