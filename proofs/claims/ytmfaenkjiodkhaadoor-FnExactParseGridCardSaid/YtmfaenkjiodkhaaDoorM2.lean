/-
  What the functions of this part hand back: each as a plain function of its arguments. Conditions: none.
-/
import Derived.Shelf.Strings.SlTrimAscii
import Derived.Shelf.Strings.Search3
import Derived.Shelf.Strings.Trim
import Derived.ProofKit
import Derived.OpenShut
import Derived.Below
import Derived.ChangeSame
import Derived.Test.YtmfaenkjiodkhaaDoorM1
namespace Go.Proofs
open Go.W8
set_option linter.unusedVariables false
set_option linter.unusedSimpArgs false
set_option linter.unusedSectionVars false
set_option maxRecDepth 8000
set_option maxHeartbeats 4000000
--@imports Derived.Shelf.Strings.SlTrimAscii Derived.Shelf.Strings.Search3 Derived.Shelf.Strings.Trim
open Go.Shelf Go.RowKit
def Tryd.lays160_ren : Go.Shelf.Ren := ⟨fun | 160 => 12 | 232 => 25 | 231 => 24 | 227 => 26 | 234 => 28 | 233 => 27 | 236 => 30 | 235 => 29 | 228 => 37 | 271 => 40 | 151 => 39 | 197 => 38 | 120 => 50 | 152 => 49 | 260 => 48 | 137 => 55 | 119 => 56 | 224 => 46 | 225 => 45 | 217 => 44 | 266 => 53 | n => n, fun | 9 => 9 | 4 => 4 | 3 => 3 | 5 => 5 | 117 => 47 | 116 => 46 | 0 => 0 | 124 => 50 | 21 => 21 | 105 => 58 | 46 => 65 | 119 => 71 | 139 => 74 | 138 => 73 | n => n, fun | 3 => 1 | 4 => 2 | n => n⟩
theorem Tryd.lays160 : Go.Proofs.Lays.n160 Tryd.prog Tryd.lays160_ren := {
  mixed := by kernel_rfl
  f119 := Tryd.func56.trans (congrArg some (by kernel_rfl))
  f120 := Tryd.func50.trans (congrArg some (by kernel_rfl))
  f137 := Tryd.func55.trans (congrArg some (by kernel_rfl))
  f151 := Tryd.func39.trans (congrArg some (by kernel_rfl))
  f152 := Tryd.func49.trans (congrArg some (by kernel_rfl))
  f160 := Tryd.func12.trans (congrArg some (by kernel_rfl))
  f197 := Tryd.func38.trans (congrArg some (by kernel_rfl))
  f217 := Tryd.func44.trans (congrArg some (by kernel_rfl))
  f224 := Tryd.func46.trans (congrArg some (by kernel_rfl))
  f225 := Tryd.func45.trans (congrArg some (by kernel_rfl))
  f227 := Tryd.func26.trans (congrArg some (by kernel_rfl))
  f228 := Tryd.func37.trans (congrArg some (by kernel_rfl))
  f231 := Tryd.func24.trans (congrArg some (by kernel_rfl))
  f232 := Tryd.func25.trans (congrArg some (by kernel_rfl))
  f233 := Tryd.func27.trans (congrArg some (by kernel_rfl))
  f234 := Tryd.func28.trans (congrArg some (by kernel_rfl))
  f235 := Tryd.func29.trans (congrArg some (by kernel_rfl))
  f236 := Tryd.func30.trans (congrArg some (by kernel_rfl))
  f260 := Tryd.func48.trans (congrArg some (by kernel_rfl))
  f266 := Tryd.func53.trans (congrArg some (by kernel_rfl))
  f271 := Tryd.func40.trans (congrArg some (by kernel_rfl))
  t0 := Tryd.underlying0
  a0 := Tryd.isAgg0
  z0 := Tryd.sizeOf0
  v0 := Tryd.zeroValue0
  t3 := Tryd.underlying3
  a3 := Tryd.isAgg3
  z3 := Tryd.sizeOf3
  v3 := Tryd.zeroValue3
  t4 := Tryd.underlying4
  a4 := Tryd.isAgg4
  z4 := Tryd.sizeOf4
  v4 := Tryd.zeroValue4
  t5 := Tryd.underlying5
  a5 := Tryd.isAgg5
  z5 := Tryd.sizeOf5
  v5 := Tryd.zeroValue5
  t9 := Tryd.underlying9
  a9 := Tryd.isAgg9
  z9 := Tryd.sizeOf9
  v9 := Tryd.zeroValue9
  t21 := Tryd.underlying21
  a21 := Tryd.isAgg21
  z21 := Tryd.sizeOf21
  v21 := Tryd.zeroValue21
  t46 := Tryd.underlying65
  a46 := Tryd.isAgg65
  z46 := Tryd.sizeOf65
  v46 := Tryd.zeroValue65
  t105 := Tryd.underlying58
  a105 := Tryd.isAgg58
  z105 := Tryd.sizeOf58
  v105 := Tryd.zeroValue58
  t116 := Tryd.underlying46
  a116 := Tryd.isAgg46
  z116 := Tryd.sizeOf46
  t117 := Tryd.underlying47
  a117 := Tryd.isAgg47
  z117 := Tryd.sizeOf47
  v117 := Tryd.zeroValue47
  t119 := Tryd.underlying71
  a119 := Tryd.isAgg71
  z119 := Tryd.sizeOf71
  t124 := Tryd.underlying50
  a124 := Tryd.isAgg50
  z124 := Tryd.sizeOf50
  v124 := Tryd.zeroValue50
  t138 := Tryd.underlying73
  a138 := Tryd.isAgg73
  z138 := Tryd.sizeOf73
  v138 := Tryd.zeroValue73
  t139 := Tryd.underlying74
  a139 := Tryd.isAgg74
  z139 := Tryd.sizeOf74
  v139 := Tryd.zeroValue74
  g3 := by kernel_rfl
  g4 := by kernel_rfl }
def Tryd.lays219_ren : Go.Shelf.Ren := ⟨fun | 219 => 36 | 217 => 44 | 225 => 45 | 224 => 46 | 267 => 47 | 266 => 53 | 314 => 54 | n => n, fun | 9 => 9 | 3 => 3 | 4 => 4 | 5 => 5 | 46 => 65 | 146 => 69 | 51 => 68 | n => n, fun | 1 => 0 | n => n⟩
theorem Tryd.lays219 : Go.Proofs.Lays.n219 Tryd.prog Tryd.lays219_ren := {
  mixed := by kernel_rfl
  f217 := Tryd.func44.trans (congrArg some (by kernel_rfl))
  f219 := Tryd.func36.trans (congrArg some (by kernel_rfl))
  f224 := Tryd.func46.trans (congrArg some (by kernel_rfl))
  f225 := Tryd.func45.trans (congrArg some (by kernel_rfl))
  f266 := Tryd.func53.trans (congrArg some (by kernel_rfl))
  f267 := Tryd.func47.trans (congrArg some (by kernel_rfl))
  f314 := Tryd.func54.trans (congrArg some (by kernel_rfl))
  t3 := Tryd.underlying3
  a3 := Tryd.isAgg3
  z3 := Tryd.sizeOf3
  v3 := Tryd.zeroValue3
  t4 := Tryd.underlying4
  a4 := Tryd.isAgg4
  z4 := Tryd.sizeOf4
  v4 := Tryd.zeroValue4
  t5 := Tryd.underlying5
  a5 := Tryd.isAgg5
  z5 := Tryd.sizeOf5
  v5 := Tryd.zeroValue5
  t9 := Tryd.underlying9
  a9 := Tryd.isAgg9
  z9 := Tryd.sizeOf9
  v9 := Tryd.zeroValue9
  t46 := Tryd.underlying65
  a46 := Tryd.isAgg65
  z46 := Tryd.sizeOf65
  v46 := Tryd.zeroValue65
  t51 := Tryd.underlying68
  a51 := Tryd.isAgg68
  z51 := Tryd.sizeOf68
  v51 := Tryd.zeroValue68
  t146 := Tryd.underlying69
  a146 := Tryd.isAgg69
  z146 := Tryd.sizeOf69
  v146 := Tryd.zeroValue69
  g1 := by kernel_rfl }

theorem own_of_below {w w' : World} (h : Below w.heap.size w w') : Own [] w [] w' :=
  ⟨h.os, h.tape, h.output, h.size, fun k hk _ => h.block k hk, (fun _ hp => nomatch hp), (fun _ hp => nomatch hp), List.nodup_nil⟩
theorem indexOne_c (s : ByteArray) (c : UInt8) : Gives Tryd.prog 36 #[.string s, .string ⟨#[c]⟩] (.int .i64 (Lib.indexByte s.data.toList c)) :=
  ⟨callable_of Tryd.func36 rfl (by decide), fun w => (Any.stringslite_Index_one Tryd.lays219 s c w).mono fun e w' ⟨h1, h2⟩ => ⟨h1, h2 ▸ Own.start w⟩⟩
theorem trim_c (s cut : ByteArray) (hs : s.size ≤ 9223372036854775807) (hc : cut.size < 4294967281) (ha : cut.data.toList.all (fun b => decide (b.toNat < 128)) = true) : Gives Tryd.prog 12 #[.string s, .string cut] (.string ⟨(Lib.trimS s.data.toList cut.data.toList).toArray⟩) :=
  ⟨callable_of Tryd.func12 rfl (by decide), fun w => (Any.strings_Trim_laid Tryd.lays160 (by kernel_rfl) s cut w hs hc (ascii_of_all ha)).mono fun e w' ⟨h1, h2⟩ => ⟨h1, own_of_below h2⟩⟩

end Go.Proofs

/-
  What the functions of this part hand back: each as a plain function of its arguments. Conditions: none.
-/
namespace Go.Proofs
open Go.W8
set_option linter.unusedVariables false
set_option linter.unusedSimpArgs false
set_option linter.unusedSectionVars false
set_option maxRecDepth 8000
set_option maxHeartbeats 4000000
theorem idx_cases (s : ByteArray) (c : UInt8) : Lib.indexByte s.data.toList c = -1 ∨ ∃ o : Nat, Lib.indexByte s.data.toList c = (o : Int) ∧ o < s.size := by
  have h := Lib.indexByte_ge s.data.toList c
  by_cases h1 : Lib.indexByte s.data.toList c = -1
  · exact .inl h1
  · right
    obtain ⟨o, ho⟩ : ∃ o : Nat, Lib.indexByte s.data.toList c = (o : Int) := ⟨(Lib.indexByte s.data.toList c).toNat, by omega⟩
    refine ⟨o, ho, ?_⟩
    have := (Lib.indexByte_some ho).1
    rcases Nat.lt_or_ge o s.data.toList.length with h2 | h2
    · rw [Array.length_toList] at h2; exact h2
    · rw [List.getElem?_eq_none h2] at this; cases this
def cutR (s : ByteArray) : Value := if Lib.indexByte s.data.toList 47 < 0 then .tuple #[.string s, .string ⟨#[]⟩, .bool false] else .tuple #[.string (s.extract 0 (Lib.indexByte s.data.toList 47).toNat), .string (s.extract ((Lib.indexByte s.data.toList 47).toNat + 1) s.size), .bool true]
theorem slcut_c (s : ByteArray) (hs : s.size ≤ 1048576) : Gives Tryd.prog 23 #[.string s, .string ⟨#[47]⟩] (cutR s) := by
  unfold cutR
  refine Gives.of fun w => ?_
  refine acall_of (N := 23) (c := _) (rs := [.tmp 4, .tmp 5, .tmp 6]) (args := [_, _]) Tryd.func23 rfl (by decide) rfl rfl (Nat.le_of_ble_eq_true rfl) ?_
  refine Cd.rs [0, 1] fun K hK => ?_
  simp (maxSteps := 2000000) (disch := first | (simp only [E4] <;> omega) | omega | fail) only [↓E2, E3, bare, bareJ, ↓E0, E1, env0, envN, evOps, evOp, evQs, evQ, evV, setD, pureOp, ev, upd, updL, hav, ↓reduceIte, Zj, Zk, Nat.reduceAdd, Nat.reduceLT, Nat.reduceEqDiff, Nat.reduceMul, Nat.reduceLeDiff, if_true, Zn, reduceCtorEq, ZA, eq_self, Int.reduceLE, Int.reduceLT, Int.reduceToNat, ne_eq, Nat.reduceSub]
  repeat refine And.intro (by omega) ?_
  repeat refine And.intro (by omega) ?_
  intro g
  simp only [List.map_cons, List.map_nil, updL, upd, Nat.reduceEqDiff, if_true, if_false, ↓reduceIte]
  refine hK _ _ ?_; clear hK K
  refine Cd.seq ?_
  refine Cd.rs [0, 1, 7] fun K hK => ?_
  simp (maxSteps := 2000000) (disch := first | (simp only [E4] <;> omega) | omega | fail) only [↓E2, E3, bare, bareJ, ↓E0, E1, env0, envN, evOps, evOp, evQs, evQ, evV, setD, pureOp, ev, upd, updL, cellAt, cellsAt, findB, setB, hav, ↓reduceIte, Zj, Zk, Nat.reduceAdd, Nat.reduceLT, Nat.reduceEqDiff, Nat.reduceMul, Nat.reduceLeDiff, if_true, Zn, reduceCtorEq, ZA, eq_self, Int.reduceLE, Int.reduceLT, Int.reduceToNat, ne_eq, Nat.reduceSub]
  repeat refine And.intro (by omega) ?_
  refine callK_gives (indexOne_c s 47) ?_
  simp (maxSteps := 2000000) (disch := first | (simp only [E4] <;> omega) | omega | fail) only [↓E2, E3, bare, bareJ, ↓E0, E1, env0, envN, evOps, evOp, evQs, evQ, evV, setD, pureOp, ev, upd, updL, cellAt, cellsAt, findB, setB, hav, ↓reduceIte, Zj, Zk, Nat.reduceAdd, Nat.reduceLT, Nat.reduceEqDiff, Nat.reduceMul, Nat.reduceLeDiff, if_true, Zn, reduceCtorEq, ZA, eq_self, Int.reduceLE, Int.reduceLT, Int.reduceToNat, ne_eq, Nat.reduceSub]
  repeat refine And.intro (by omega) ?_
  repeat refine And.intro (by omega) ?_
  intro g
  simp only [List.map_cons, List.map_nil, updL, upd, Nat.reduceEqDiff, if_true, if_false, ↓reduceIte]
  refine hK _ _ ?_; clear hK K
  rcases idx_cases s 47 with e | ⟨o, e, ho⟩
  · rw [e, if_pos (by decide)]
    refine Cd.rs [0, 1, 7, 12] fun K hK => ?_
    simp (maxSteps := 2000000) (disch := first | (simp only [E4] <;> omega) | omega | fail) only [↓E2, E3, bare, bareJ, ↓E0, E1, env0, envN, evOps, evOp, evQs, evQ, evV, setD, pureOp, ev, upd, updL, binW, eqOp, binV, intOp, shOp, boolOp, hav, eqL, SameI, strOp, ↓reduceIte, Zj, Zk, Nat.reduceAdd, Nat.reduceLT, Nat.reduceEqDiff, Nat.reduceMul, Nat.reduceLeDiff, if_true, Zn, reduceCtorEq, ZA, eq_self, Int.reduceLE, Int.reduceLT, Int.reduceToNat, ne_eq, Nat.reduceSub]
    repeat refine And.intro (by omega) ?_
    repeat refine And.intro (by omega) ?_
    intro g
    simp only [List.map_cons, List.map_nil, updL, upd, Nat.reduceEqDiff, if_true, if_false, ↓reduceIte]
    refine hK _ _ ?_; clear hK K
    refine Cd.cond rfl (fun c1 => absurd c1 (by decide)) (fun c1 => ?_)
    refine Cd.skip ?_
    refine thenN ?_
    refine Cd.rs [4, 5, 6] fun K hK => ?_
    simp (maxSteps := 2000000) (disch := first | (simp only [E4] <;> omega) | omega | fail) only [↓E2, E3, bare, bareJ, ↓E0, E1, env0, envN, evOps, evOp, evQs, evQ, evV, setD, pureOp, ev, upd, updL, hav, ↓reduceIte, Zj, Zk, Nat.reduceAdd, Nat.reduceLT, Nat.reduceEqDiff, Nat.reduceMul, Nat.reduceLeDiff, if_true, Zn, reduceCtorEq, ZA, eq_self, Int.reduceLE, Int.reduceLT, Int.reduceToNat, ne_eq, Nat.reduceSub]
    repeat refine And.intro (by omega) ?_
    repeat refine And.intro (by omega) ?_
    intro g
    simp only [List.map_cons, List.map_nil, updL, upd, Nat.reduceEqDiff, if_true, if_false, ↓reduceIte]
    refine hK _ _ ?_; clear hK K
    refine Cd.ret ?_
    simp (maxSteps := 2000000) (disch := first | (simp only [E4] <;> omega) | omega | fail) only [↓E2, E3, bare, bareJ, ↓E0, E1, evP, evPlan, env0, envN, evOps, evOp, evQs, evQ, evV, setD, pureOp, ev, upd, updL, gate, binW, eqOp, binV, intOp, shOp, boolOp, unV, convV, nilV, fieldAddrV, indexAddrV, extractV, cellAt, cellsAt, findB, setB, fillL, buildV, Value.cells, lenV, minV, maxV, hav, sliceV, loV, hiV, bslQ, mksQ, appQ, partsOk, partsCells, delB, eqL, SameI, strOp, apzQ, cvtQ, capV, ↓reduceIte, Zj, Zk, Nat.reduceAdd, Nat.reduceLT, Nat.reduceEqDiff, Nat.reduceMul, Nat.reduceLeDiff, if_true, Zn, reduceCtorEq, ZA, eq_self, Int.reduceLE, Int.reduceLT, Int.reduceToNat, ne_eq, Nat.reduceSub]
    repeat refine And.intro (by omega) ?_
  · rw [e, if_neg (by omega), Int.toNat_natCast]
    refine Cd.rs [0, 1, 7, 12] fun K hK => ?_
    simp (maxSteps := 2000000) (disch := first | (simp only [E4] <;> omega) | omega | fail) only [↓E2, E3, bare, bareJ, ↓E0, E1, env0, envN, evOps, evOp, evQs, evQ, evV, setD, pureOp, ev, upd, updL, binW, eqOp, binV, intOp, shOp, boolOp, hav, eqL, SameI, strOp, ↓reduceIte, Zj, Zk, Nat.reduceAdd, Nat.reduceLT, Nat.reduceEqDiff, Nat.reduceMul, Nat.reduceLeDiff, if_true, Zn, reduceCtorEq, ZA, eq_self, Int.reduceLE, Int.reduceLT, Int.reduceToNat, ne_eq, Nat.reduceSub]
    repeat refine And.intro (by omega) ?_
    repeat refine And.intro (by omega) ?_
    intro g
    simp only [List.map_cons, List.map_nil, updL, upd, Nat.reduceEqDiff, if_true, if_false, ↓reduceIte]
    refine hK _ _ ?_; clear hK K
    refine Cd.condd rfl (fun c1 => ?_) (fun c1 => by simp at c1)
    have sz1 : (⟨#[47]⟩ : ByteArray).size = 1 := rfl
    skip
    have ha : (0 : Int) ≤ (o : Int) + 1 ∧ (o : Int) + 1 ≤ (s.size : Int) ∧ (o : Int) + 1 < 9223372036854775808 := by omega
    have hw : IntKind.wrap .i64 ((o : Int) + ((1 : Nat) : Int)) = ((o + 1 : Nat) : Int) := by rw [wrap_i64 (by omega) (by omega)]; omega
    skip
    refine Cd.qs [4, 5, 6] fol (by kernel_rfl) fun K hK => ?_
    simp (maxSteps := 2000000) (disch := first | (simp only [E4, sz1, hw] <;> omega) | omega | fail) only [↓E2, E3, bare, bareJ, ↓E0, E1, evPlan, env0, envN, evOps, evOp, evQs, evQ, evV, setD, pureOp, ev, upd, updL, binW, eqOp, binV, intOp, shOp, boolOp, lenV, hav, sliceV, loV, hiV, eqL, SameI, strOp, ↓reduceIte, Zj, Zk, Nat.reduceAdd, Nat.reduceLT, Nat.reduceEqDiff, Nat.reduceMul, Nat.reduceLeDiff, if_true, Zn, reduceCtorEq, ZA, eq_self, Int.reduceLE, Int.reduceLT, Int.reduceToNat, ne_eq, Nat.reduceSub, Tstr9, sz1, hw]
    repeat refine And.intro (by omega) ?_
    repeat refine And.intro (by omega) ?_
    intro g
    simp only [List.map_cons, List.map_nil, updL, upd, Nat.reduceEqDiff, if_true, if_false, ↓reduceIte]
    refine hK _ ?_; clear hK K
    refine Cd.ret (thenR ?_)
    simp (maxSteps := 2000000) (disch := first | (simp only [E4, sz1, hw] <;> omega) | omega | fail) only [↓E2, E3, bare, bareJ, ↓E0, E1, evP, evPlan, env0, envN, evOps, evOp, evQs, evQ, evV, setD, pureOp, ev, upd, updL, gate, binW, eqOp, binV, intOp, shOp, boolOp, unV, convV, nilV, fieldAddrV, indexAddrV, extractV, cellAt, cellsAt, findB, setB, fillL, buildV, Value.cells, lenV, minV, maxV, hav, sliceV, loV, hiV, bslQ, mksQ, appQ, partsOk, partsCells, delB, eqL, SameI, strOp, apzQ, cvtQ, capV, ↓reduceIte, Zj, Zk, Nat.reduceAdd, Nat.reduceLT, Nat.reduceEqDiff, Nat.reduceMul, Nat.reduceLeDiff, if_true, Zn, reduceCtorEq, ZA, eq_self, Int.reduceLE, Int.reduceLT, Int.reduceToNat, ne_eq, Nat.reduceSub, sz1, hw]
    repeat refine And.intro (by omega) ?_
    rw [show ((o : Int) + 1).toNat = o + 1 by omega]
theorem cut_c (s : ByteArray) (hs : s.size ≤ 1048576) : Gives Tryd.prog 11 #[.string s, .string ⟨#[47]⟩] (cutR s) := by
  have h := slcut_c s hs
  unfold cutR at h ⊢
  split
  · rename_i h1
    rw [if_pos h1] at h
    refine Gives.of fun w => ?_
    refine acall_of (N := 13) (c := _) (rs := [.tmp 4, .tmp 5, .tmp 6]) (args := [_, _]) Tryd.func11 rfl (by decide) rfl rfl (Nat.le_of_ble_eq_true rfl) ?_
    refine Cd.rs [0, 1] fun K hK => ?_
    simp (maxSteps := 2000000) (disch := first | (simp only [E4] <;> omega) | omega | fail) only [↓E2, E3, bare, bareJ, ↓E0, E1, env0, envN, evOps, evOp, evQs, evQ, evV, setD, pureOp, ev, upd, updL, hav, ↓reduceIte, Zj, Zk, Nat.reduceAdd, Nat.reduceLT, Nat.reduceEqDiff, Nat.reduceMul, Nat.reduceLeDiff, if_true, Zn, reduceCtorEq, ZA, eq_self, Int.reduceLE, Int.reduceLT, Int.reduceToNat, ne_eq, Nat.reduceSub]
    repeat refine And.intro (by omega) ?_
    repeat refine And.intro (by omega) ?_
    intro g
    simp only [List.map_cons, List.map_nil, updL, upd, Nat.reduceEqDiff, if_true, if_false, ↓reduceIte]
    refine hK _ _ ?_; clear hK K
    refine Cd.rs [4, 5, 6] fun K hK => ?_
    simp (maxSteps := 2000000) (disch := first | (simp only [E4] <;> omega) | omega | fail) only [↓E2, E3, bare, bareJ, ↓E0, E1, env0, envN, evOps, evOp, evQs, evQ, evV, setD, pureOp, ev, upd, updL, extractV, cellAt, cellsAt, findB, setB, hav, ↓reduceIte, Zj, Zk, Nat.reduceAdd, Nat.reduceLT, Nat.reduceEqDiff, Nat.reduceMul, Nat.reduceLeDiff, if_true, Zn, reduceCtorEq, ZA, eq_self, Int.reduceLE, Int.reduceLT, Int.reduceToNat, ne_eq, Nat.reduceSub]
    repeat refine And.intro (by omega) ?_
    refine callK_gives h ?_
    simp (maxSteps := 2000000) (disch := first | (simp only [E4] <;> omega) | omega | fail) only [↓E2, E3, bare, bareJ, ↓E0, E1, env0, envN, evOps, evOp, evQs, evQ, evV, setD, pureOp, ev, upd, updL, extractV, cellAt, cellsAt, findB, setB, hav, ↓reduceIte, Zj, Zk, Nat.reduceAdd, Nat.reduceLT, Nat.reduceEqDiff, Nat.reduceMul, Nat.reduceLeDiff, if_true, Zn, reduceCtorEq, ZA, eq_self, Int.reduceLE, Int.reduceLT, Int.reduceToNat, ne_eq, Nat.reduceSub]
    repeat refine And.intro (by omega) ?_
    repeat refine And.intro (by omega) ?_
    intro g
    simp only [List.map_cons, List.map_nil, updL, upd, Nat.reduceEqDiff, if_true, if_false, ↓reduceIte]
    refine hK _ _ ?_; clear hK K
    refine Cd.ret ?_
    simp (maxSteps := 2000000) (disch := first | (simp only [E4] <;> omega) | omega | fail) only [↓E2, E3, bare, bareJ, ↓E0, E1, evP, evPlan, env0, envN, evOps, evOp, evQs, evQ, evV, setD, pureOp, ev, upd, updL, gate, binW, eqOp, binV, intOp, shOp, boolOp, unV, convV, nilV, fieldAddrV, indexAddrV, extractV, cellAt, cellsAt, findB, setB, fillL, buildV, Value.cells, lenV, minV, maxV, hav, sliceV, loV, hiV, bslQ, mksQ, appQ, partsOk, partsCells, delB, eqL, SameI, strOp, apzQ, cvtQ, capV, ↓reduceIte, Zj, Zk, Nat.reduceAdd, Nat.reduceLT, Nat.reduceEqDiff, Nat.reduceMul, Nat.reduceLeDiff, if_true, Zn, reduceCtorEq, ZA, eq_self, Int.reduceLE, Int.reduceLT, Int.reduceToNat, ne_eq, Nat.reduceSub]
    repeat refine And.intro (by omega) ?_
  · rename_i h1
    rw [if_neg h1] at h
    refine Gives.of fun w => ?_
    refine acall_of (N := 13) (c := _) (rs := [.tmp 4, .tmp 5, .tmp 6]) (args := [_, _]) Tryd.func11 rfl (by decide) rfl rfl (Nat.le_of_ble_eq_true rfl) ?_
    refine Cd.rs [0, 1] fun K hK => ?_
    simp (maxSteps := 2000000) (disch := first | (simp only [E4] <;> omega) | omega | fail) only [↓E2, E3, bare, bareJ, ↓E0, E1, env0, envN, evOps, evOp, evQs, evQ, evV, setD, pureOp, ev, upd, updL, hav, ↓reduceIte, Zj, Zk, Nat.reduceAdd, Nat.reduceLT, Nat.reduceEqDiff, Nat.reduceMul, Nat.reduceLeDiff, if_true, Zn, reduceCtorEq, ZA, eq_self, Int.reduceLE, Int.reduceLT, Int.reduceToNat, ne_eq, Nat.reduceSub]
    repeat refine And.intro (by omega) ?_
    repeat refine And.intro (by omega) ?_
    intro g
    simp only [List.map_cons, List.map_nil, updL, upd, Nat.reduceEqDiff, if_true, if_false, ↓reduceIte]
    refine hK _ _ ?_; clear hK K
    refine Cd.rs [4, 5, 6] fun K hK => ?_
    simp (maxSteps := 2000000) (disch := first | (simp only [E4] <;> omega) | omega | fail) only [↓E2, E3, bare, bareJ, ↓E0, E1, env0, envN, evOps, evOp, evQs, evQ, evV, setD, pureOp, ev, upd, updL, extractV, cellAt, cellsAt, findB, setB, hav, ↓reduceIte, Zj, Zk, Nat.reduceAdd, Nat.reduceLT, Nat.reduceEqDiff, Nat.reduceMul, Nat.reduceLeDiff, if_true, Zn, reduceCtorEq, ZA, eq_self, Int.reduceLE, Int.reduceLT, Int.reduceToNat, ne_eq, Nat.reduceSub]
    repeat refine And.intro (by omega) ?_
    refine callK_gives h ?_
    simp (maxSteps := 2000000) (disch := first | (simp only [E4] <;> omega) | omega | fail) only [↓E2, E3, bare, bareJ, ↓E0, E1, env0, envN, evOps, evOp, evQs, evQ, evV, setD, pureOp, ev, upd, updL, extractV, cellAt, cellsAt, findB, setB, hav, ↓reduceIte, Zj, Zk, Nat.reduceAdd, Nat.reduceLT, Nat.reduceEqDiff, Nat.reduceMul, Nat.reduceLeDiff, if_true, Zn, reduceCtorEq, ZA, eq_self, Int.reduceLE, Int.reduceLT, Int.reduceToNat, ne_eq, Nat.reduceSub]
    repeat refine And.intro (by omega) ?_
    repeat refine And.intro (by omega) ?_
    intro g
    simp only [List.map_cons, List.map_nil, updL, upd, Nat.reduceEqDiff, if_true, if_false, ↓reduceIte]
    refine hK _ _ ?_; clear hK K
    refine Cd.ret ?_
    simp (maxSteps := 2000000) (disch := first | (simp only [E4] <;> omega) | omega | fail) only [↓E2, E3, bare, bareJ, ↓E0, E1, evP, evPlan, env0, envN, evOps, evOp, evQs, evQ, evV, setD, pureOp, ev, upd, updL, gate, binW, eqOp, binV, intOp, shOp, boolOp, unV, convV, nilV, fieldAddrV, indexAddrV, extractV, cellAt, cellsAt, findB, setB, fillL, buildV, Value.cells, lenV, minV, maxV, hav, sliceV, loV, hiV, bslQ, mksQ, appQ, partsOk, partsCells, delB, eqL, SameI, strOp, apzQ, cvtQ, capV, ↓reduceIte, Zj, Zk, Nat.reduceAdd, Nat.reduceLT, Nat.reduceEqDiff, Nat.reduceMul, Nat.reduceLeDiff, if_true, Zn, reduceCtorEq, ZA, eq_self, Int.reduceLE, Int.reduceLT, Int.reduceToNat, ne_eq, Nat.reduceSub]
    repeat refine And.intro (by omega) ?_

end Go.Proofs

/-
  What the functions of this part hand back: each as a plain function of its arguments. Conditions: none.
-/
namespace Go.Proofs
open Go.W8
set_option linter.unusedVariables false
set_option linter.unusedSimpArgs false
set_option linter.unusedSectionVars false
set_option maxRecDepth 8000
set_option maxHeartbeats 4000000
--@plain
/-- The first n entries are the numbers less than n in some order, all others 0. -/
def IsPerm (x : List Int) (n : Nat) : Prop := (∀ i, i < n → x.getD i 0 < n) ∧ (∀ i, i < n → ∀ j, j < i → x.getD j 0 ≠ x.getD i 0) ∧ ∀ i, i < 8 → n ≤ i → x.getD i 0 = 0
instance (x : List Int) (n : Nat) : Decidable (IsPerm x n) := by unfold IsPerm; infer_instance

def IsG (s : Int) (x o : List Int) : Prop := 2 ≤ s ∧ s ≤ 8 ∧ IsPerm x s.toNat ∧ IsPerm o s.toNat ∧ ∀ i, i < s.toNat → x.getD i 0 ≠ o.getD i 0
instance (s : Int) (x o : List Int) : Decidable (IsG s x o) := by unfold IsG; infer_instance

def gridB (s : Int) (x o : List Int) : Bool := decide (IsG s x o)

theorem inj_surj : ∀ (n : Nat) (f : Nat → Nat), (∀ i, i < n → f i < n) → (∀ i, i < n → ∀ j, j < n → f i = f j → i = j) → ∀ j, j < n → ∃ i, i < n ∧ f i = j
  | 0, _, _, _, _, hj => absurd hj (Nat.not_lt_zero _)
  | n + 1, f, hf, hinj, j, hj => by
    have hg : ∀ i, i < n → (if f i = n then f n else f i) < n := by
      intro i hi
      split
      · rename_i h
        have h1 := hf n (Nat.lt_succ_self n)
        have h2 : f n ≠ n := fun h3 => by
          have := hinj i (by omega) n (by omega) (by rw [h, h3])
          omega
        omega
      · rename_i h
        have := hf i (by omega)
        omega
    have hgi : ∀ i, i < n → ∀ k, k < n → (if f i = n then f n else f i) = (if f k = n then f n else f k) → i = k := by
      intro i hi k hk h
      split at h
      · rename_i h1
        split at h
        · rename_i h2
          exact hinj i (by omega) k (by omega) (by rw [h1, h2])
        · have := hinj n (by omega) k (by omega) h
          omega
      · rename_i h1
        split at h
        · have := hinj i (by omega) n (by omega) h
          omega
        · exact hinj i (by omega) k (by omega) h
    have ih := inj_surj n (fun i => if f i = n then f n else f i) hg hgi
    by_cases hjn : f n = j
    · exact ⟨n, by omega, hjn⟩
    · by_cases hj2 : j = n
      · subst hj2
        have h1 := hf j (by omega)
        obtain ⟨i, hi, hfi⟩ := ih (f j) (by omega)
        split at hfi
        · rename_i h; exact ⟨i, by omega, h⟩
        · have := hinj i (by omega) j (by omega) hfi
          omega
      · obtain ⟨i, hi, hfi⟩ := ih j (by omega)
        split at hfi
        · exact absurd hfi hjn
        · exact ⟨i, by omega, hfi⟩

theorem surj_inj (n : Nat) (f : Nat → Nat) (hf : ∀ i, i < n → f i < n) (hs : ∀ j, j < n → ∃ i, i < n ∧ f i = j) : ∀ i, i < n → ∀ j, j < n → f i = f j → i = j := by
  have hc : ∃ s : Nat → Nat, ∀ j, j < n → s j < n ∧ f (s j) = j := by
    refine ⟨fun j => if h : j < n then Classical.choose (hs j h) else 0, fun j hj => ?_⟩
    simp only [hj, dif_pos]
    exact Classical.choose_spec (hs j hj)
  obtain ⟨s, hs'⟩ := hc
  have hsur := inj_surj n s (fun j hj => (hs' j hj).1) (fun i hi j hj h => by rw [← (hs' i hi).2, ← (hs' j hj).2, h])
  intro i hi j hj h
  obtain ⟨a, ha, rfl⟩ := hsur i hi
  obtain ⟨b, hb, rfl⟩ := hsur j hj
  rw [(hs' a ha).2, (hs' b hb).2] at h
  rw [h]

/-- The bits of the numbers f 0 .. f (k - 1). -/
def mask (f : Nat → Nat) : Nat → Nat
  | 0 => 0
  | k + 1 => mask f k ||| 2 ^ f k

theorem mask_bit (f : Nat → Nat) (j : Nat) : ∀ k, (mask f k).testBit j = true ↔ ∃ i, i < k ∧ f i = j
  | 0 => by simp [mask]
  | k + 1 => by
    simp only [mask, Nat.testBit_or, Bool.or_eq_true, mask_bit f j k, Nat.testBit_two_pow, decide_eq_true_eq]
    constructor
    · rintro (⟨i, hi, h⟩ | h)
      · exact ⟨i, by omega, h⟩
      · exact ⟨k, by omega, h⟩
    · rintro ⟨i, hi, h⟩
      rcases Nat.lt_succ_iff_lt_or_eq.1 hi with h1 | rfl
      · exact .inl ⟨i, h1, h⟩
      · exact .inr h

theorem mask_lt {f : Nat → Nat} {n : Nat} : ∀ {k : Nat}, (∀ i, i < k → f i < n) → mask f k < 2 ^ n
  | 0, _ => Nat.two_pow_pos n
  | k + 1, h => by
    unfold mask
    exact Nat.or_lt_two_pow (mask_lt fun i hi => h i (by omega)) (Nat.pow_lt_pow_right (by omega) (h k (by omega)))

theorem mask_full {f : Nat → Nat} {n : Nat} (hf : ∀ i, i < n → f i < n) : mask f n = 2 ^ n - 1 ↔ ∀ i, i < n → ∀ j, j < i → f j ≠ f i := by
  constructor
  · intro h i hi j hj he
    have := surj_inj n f hf (fun k hk => by
      have hb : (mask f n).testBit k = true := by rw [h, Nat.testBit_two_pow_sub_one]; simpa using hk
      exact (mask_bit f k n).1 hb) j (by omega) i hi he
    omega
  · intro h
    have hsur := inj_surj n f hf (fun i hi j hj he => by
      rcases Nat.lt_trichotomy i j with h1 | h1 | h1
      · exact absurd he (h j hj i h1)
      · exact h1
      · exact absurd he.symm (h i hi j h1))
    apply Nat.eq_of_testBit_eq
    intro k
    rw [Nat.testBit_two_pow_sub_one]
    by_cases hk : k < n
    · rw [decide_eq_true hk]
      exact (mask_bit f k n).2 (hsur k hk)
    · rw [decide_eq_false hk]
      cases hb : (mask f n).testBit k with
      | false => rfl
      | true =>
        obtain ⟨i, hi, rfl⟩ := (mask_bit f k n).1 hb
        exact absurd (hf i hi) hk

theorem or_i64 {a b : Nat} (ha : a < 4294967296) (hb : b < 4294967296) : IntKind.wrap .i64 ((BitVec.ofInt (IntKind.i64.bits) (a : Int) ||| BitVec.ofInt (IntKind.i64.bits) (b : Int)).toNat : Int) = ((a ||| b : Nat) : Int) := by
  have e : IntKind.i64.bits = 64 := rfl
  have h1 : a ||| b < 2 ^ 32 := Nat.or_lt_two_pow (by simpa using ha) (by simpa using hb)
  rw [e, BitVec.ofInt_natCast, BitVec.ofInt_natCast, BitVec.toNat_or, BitVec.toNat_ofNat, BitVec.toNat_ofNat, Nat.mod_eq_of_lt (by omega), Nat.mod_eq_of_lt (by omega)]
  rw [wrap_i64 (by omega) (by omega)]

theorem shl_i64 {j : Nat} (hj : j ≤ 32) : IntKind.wrap .i64 (1 * 2 ^ (min j (IntKind.i64.bits))) = ((2 ^ j : Nat) : Int) := by
  have e : IntKind.i64.bits = 64 := rfl
  have h1 : min j 64 = j := by omega
  have h2 : (2 : Nat) ^ j ≤ 2 ^ 32 := Nat.pow_le_pow_right (by omega) hj
  rw [e, h1, Int.one_mul]
  have h3 : ((2 : Int) ^ j) = ((2 ^ j : Nat) : Int) := by simp
  rw [h3]
  generalize 2 ^ j = m at h2
  rw [wrap_i64 (by omega) (by omega)]

end Go.Proofs

/-
  What the functions of this part hand back: each as a plain function of its arguments. Conditions: none.
-/
namespace Go.Proofs
open Go.W8
set_option linter.unusedVariables false
set_option linter.unusedSimpArgs false
set_option linter.unusedSectionVars false
set_option maxRecDepth 8000
set_option maxHeartbeats 4000000
--@plain
/-- Where the column k comes to stand. -/
def colK (i rt k : Nat) : Nat := if k < i then k else if k = i then i + rt else k + 1
/-- What stands in the columns as those ahead of k have been led. -/
def genK (f : Nat → Int) (i rt k q : Nat) : Int := if q < i then (if q < k then f q else 0) else if q ≤ i + 1 then (if q = i + rt ∧ i < k then f i else 0) else (if q ≤ k then f (q - 1) else 0)
/-- The same without the column i. -/
def genS (f : Nat → Int) (i k q : Nat) : Int := if q < i then (if q < k then f q else 0) else if q ≤ i + 1 then 0 else (if q ≤ k then f (q - 1) else 0)
def liftM (r v : Int) : Int := if r < v then v + 1 else v
def liftF (r u v : Int) : Int := if r < v then v + 1 else if v = r then r + u else v
def grA (own : List Int) (i rt : Nat) (u : Int) (n q : Nat) : Int :=
  if q = i + rt then own.getD i 0 + (1 - u) else if q = i + 1 - rt then own.getD i 0 + u else if q < i then liftF (own.getD i 0) u (own.getD q 0) else if q ≤ n then liftF (own.getD i 0) u (own.getD (q - 1) 0) else 0
def grB (own oth : List Int) (i rt : Nat) (u : Int) (n q : Nat) : Int :=
  if q = i + rt then liftF (own.getD i 0) u (oth.getD i 0) else if q = i + 1 - rt then own.getD i 0 + (1 - u) else if q < i then liftF (own.getD i 0) u (oth.getD q 0) else if q ≤ n then liftF (own.getD i 0) u (oth.getD (q - 1) 0) else 0

end Go.Proofs

/-
  What the functions of this part hand back: each as a plain function of its arguments. Conditions: none.
-/
namespace Go.Proofs
open Go.W8
set_option linter.unusedVariables false
set_option linter.unusedSimpArgs false
set_option linter.unusedSectionVars false
set_option maxRecDepth 8000
set_option maxHeartbeats 4000000
--@plain
section
variable {H : Type} {enc : TypeId × Value → H} {P : Program} {w : World} {base : Nat} {spare : Nat → Bool} {held : Bool}

def toInt : Value → Int
  | .int _ n => n
  | _ => 0

/-- A grid's type. -/
structure GridT (P : Program) (t tn ta te : TypeId) (f0 f1 f2 : Field) : Prop where
  st : P.underlying t = some (.struct #[f0, f1, f2])
  y0 : f0.type = tn
  y1 : f1.type = ta
  y2 : f2.type = ta
  o0 : f0.offset = 0
  o1 : f1.offset = 1
  o2 : f2.offset = 9
  ct : P.cellsOf t = 17
  un : P.underlying tn = some (.int .i64)
  cn : P.cellsOf tn = 1
  ua : P.underlying ta = some (.array 8 te)
  ca : P.cellsOf ta = 8
  ue : P.underlying te = some (.int .u8)
  ce : P.cellsOf te = 1

def gridD (s : Int) (x o : List Int) : DataW H := .agg [.lit (.int .i64 s), .agg (x.map fun a => .lit (.int .u8 a)), .agg (o.map fun a => .lit (.int .u8 a))]

/-- A row of bytes. -/
structure Bytes8 (x : List Int) : Prop where
  len : x.length = 8
  lo : ∀ a ∈ x, 0 ≤ a
  hi : ∀ a ∈ x, a < 256

end

end Go.Proofs

/-
  What the functions of this part hand back: each as a plain function of its arguments. Conditions: none.
-/
namespace Go.Proofs
open Go.W8
set_option linter.unusedVariables false
set_option linter.unusedSimpArgs false
set_option linter.unusedSectionVars false
set_option maxRecDepth 8000
set_option maxHeartbeats 4000000

theorem within_c (x lo hi : Int) : Gives Tryd.prog 31 #[.int .i64 x, .int .i64 lo, .int .i64 hi] (.bool (decide (lo ≤ x) && decide (x ≤ hi))) := by
  refine Gives.of fun w => ?_
  refine acall_of (N := 15) (c := _) (rs := [.tmp 6]) (args := [_, _, _]) Tryd.func31 rfl (by decide) rfl rfl (Nat.le_of_ble_eq_true rfl) ?_
  refine Cd.rs [0, 1, 2] fun K hK => ?_
  simp (maxSteps := 2000000) (disch := first | omega | (simp only [E4, *] <;> omega) | fail) only [↓E0, E1, env0, envN, evOps, evOp, evQs, evQ, evV, setD, pureOp, ev, upd, updL, hav, ↓reduceIte, Zj, Zk, Nat.reduceAdd, Nat.reduceLT, Nat.reduceEqDiff, Nat.reduceMul, Nat.reduceLeDiff, if_true, Zn, reduceCtorEq, ZA, eq_self, Int.reduceLE, Int.reduceLT, Int.reduceToNat, ne_eq, Nat.reduceSub]
  repeat refine And.intro (by omega) ?_
  intro g
  simp only [List.map_cons, List.map_nil, updL, upd, Nat.reduceEqDiff, if_true, if_false, ↓reduceIte]
  refine hK _ _ ?_; clear hK K
  refine Cd.rs [6] fun K hK => ?_
  simp (maxSteps := 2000000) (disch := first | omega | (simp only [E4, *] <;> omega) | fail) only [↓E0, E1, env0, envN, evOps, evOp, evQs, evQ, evV, setD, pureOp, ev, upd, updL, gate, binW, eqOp, binV, intOp, shOp, boolOp, hav, eqL, SameI, strOp, ↓reduceIte, Zj, Zk, Nat.reduceAdd, Nat.reduceLT, Nat.reduceEqDiff, Nat.reduceMul, Nat.reduceLeDiff, if_true, Zn, reduceCtorEq, ZA, eq_self, Int.reduceLE, Int.reduceLT, Int.reduceToNat, ne_eq, Nat.reduceSub]
  refine ⟨fun h => ?_, fun h => ?_⟩
  all_goals
    repeat refine And.intro (by omega) ?_
    intro g
    simp only [List.map_cons, List.map_nil, updL, upd, Nat.reduceEqDiff, if_true, if_false, ↓reduceIte]
    refine hK _ _ ?_; clear hK K
    refine ret1 rfl ?_
    simp [upd, h]

theorem l01In_c (x lo hi : Int) : Gives Tryd.prog 16 #[.int .i64 x, .int .i64 lo, .int .i64 hi] (.bool (decide (lo ≤ x) && decide (x ≤ hi))) := by
  refine Gives.of fun w => ?_
  refine acall_of (N := 15) (c := _) (rs := [.tmp 6]) (args := [_, _, _]) Tryd.func16 rfl (by decide) rfl rfl (Nat.le_of_ble_eq_true rfl) ?_
  refine Cd.rs [0, 1, 2] fun K hK => ?_
  simp (maxSteps := 2000000) (disch := first | omega | (simp only [E4, *] <;> omega) | fail) only [↓E0, E1, env0, envN, evOps, evOp, evQs, evQ, evV, setD, pureOp, ev, upd, updL, hav, ↓reduceIte, Zj, Zk, Nat.reduceAdd, Nat.reduceLT, Nat.reduceEqDiff, Nat.reduceMul, Nat.reduceLeDiff, if_true, Zn, reduceCtorEq, ZA, eq_self, Int.reduceLE, Int.reduceLT, Int.reduceToNat, ne_eq, Nat.reduceSub]
  repeat refine And.intro (by omega) ?_
  intro g
  simp only [List.map_cons, List.map_nil, updL, upd, Nat.reduceEqDiff, if_true, if_false, ↓reduceIte]
  refine hK _ _ ?_; clear hK K
  refine Cd.rs [6] fun K hK => ?_
  simp (maxSteps := 2000000) (disch := first | omega | (simp only [E4, *] <;> omega) | fail) only [↓E0, E1, env0, envN, evOps, evOp, evQs, evQ, evV, setD, pureOp, ev, upd, updL, gate, binW, eqOp, binV, intOp, shOp, boolOp, hav, eqL, SameI, strOp, ↓reduceIte, Zj, Zk, Nat.reduceAdd, Nat.reduceLT, Nat.reduceEqDiff, Nat.reduceMul, Nat.reduceLeDiff, if_true, Zn, reduceCtorEq, ZA, eq_self, Int.reduceLE, Int.reduceLT, Int.reduceToNat, ne_eq, Nat.reduceSub]
  refine ⟨fun h => ?_, fun h => ?_⟩
  all_goals
    repeat refine And.intro (by omega) ?_
    intro g
    simp only [List.map_cons, List.map_nil, updL, upd, Nat.reduceEqDiff, if_true, if_false, ↓reduceIte]
    refine hK _ _ ?_; clear hK K
    refine ret1 rfl ?_
    simp [upd, h]

end Go.Proofs

/-
  What the functions of this part hand back: each as a plain function of its arguments. Conditions: none.
-/
namespace Go.Proofs
open Go.W8
set_option linter.unusedVariables false
set_option linter.unusedSimpArgs false
set_option linter.unusedSectionVars false
set_option maxRecDepth 8000
set_option maxHeartbeats 4000000
theorem bytes_get {x : List Int} (hx : Bytes8 x) {i : Nat} (hi : i < 8) : 0 ≤ x.getD i 0 ∧ x.getD i 0 < 256 := by
  have hl := hx.len
  rw [List.getD_eq_getElem?_getD, List.getElem?_eq_getElem (by omega), Option.getD_some]
  exact ⟨hx.lo _ (List.getElem_mem (by omega)), hx.hi _ (List.getElem_mem (by omega))⟩

/-- The numbers that have been met. -/
def metL (x : List Int) (n k : Nat) : List Bool := (List.range 8).map fun (j : Nat) => decide (∃ i, i < k ∧ i < n ∧ x.getD i 0 = (j : Int))
theorem metL_len (x : List Int) (n k : Nat) : (metL x n k).length = 8 := by simp [metL]
theorem metL_get (x : List Int) (n k : Nat) {j : Nat} (hj : j < 8) : (metL x n k).getD j false = decide (∃ i, i < k ∧ i < n ∧ x.getD i 0 = (j : Int)) := by
  unfold metL
  rw [List.getD_eq_getElem?_getD, List.getElem?_map, List.getElem?_range hj]
  rfl
theorem metL_zero (x : List Int) (n : Nat) : metL x n 0 = List.replicate 8 false := by
  unfold metL
  simp only [Nat.not_lt_zero, false_and, exists_false, decide_false]
  rfl
theorem metL_over {x : List Int} {n k : Nat} (h : n ≤ k) : metL x n (k + 1) = metL x n k := by
  unfold metL
  apply List.map_congr_left
  intro j _
  congr 1
  apply propext
  constructor
  · rintro ⟨i, _, h2, h3⟩; exact ⟨i, by omega, h2, h3⟩
  · rintro ⟨i, h1, h2, h3⟩; exact ⟨i, by omega, h2, h3⟩
theorem metL_set {x : List Int} {n k : Nat} {j : Nat} (h : k < n) (hj : x.getD k 0 = (j : Int)) : (metL x n k).set j true = metL x n (k + 1) := by
  apply List.ext_getElem?
  intro i
  by_cases hi : i < 8
  · by_cases e : j = i
    · subst e
      rw [List.getElem?_set_self (by rw [metL_len]; exact hi)]
      unfold metL
      rw [List.getElem?_map, List.getElem?_range hi]
      simp only [Option.map_some, Option.some.injEq]
      exact (decide_eq_true ⟨k, by omega, h, hj⟩).symm
    · rw [List.getElem?_set_ne e]
      unfold metL
      rw [List.getElem?_map, List.getElem?_map, List.getElem?_range hi]
      simp only [Option.map_some, Option.some.injEq]
      congr 1
      apply propext
      constructor
      · rintro ⟨a, h1, h2, h3⟩; exact ⟨a, by omega, h2, h3⟩
      · rintro ⟨a, h1, h2, h3⟩
        refine ⟨a, ?_, h2, h3⟩
        rcases Nat.lt_succ_iff_lt_or_eq.1 h1 with h4 | rfl
        · exact h4
        · omega
  · rw [List.getElem?_eq_none (by rw [List.length_set, metL_len]; omega), List.getElem?_eq_none (by rw [metL_len]; omega)]

/-- All is well with the entries ahead of k. -/
def PermTo (x : List Int) (n k : Nat) : Prop := ∀ i, i < k → (i < n → x.getD i 0 < n ∧ ∀ j, j < i → x.getD j 0 ≠ x.getD i 0) ∧ (n ≤ i → x.getD i 0 = 0)

theorem perm_iff {x : List Int} {n : Nat} (hn : n ≤ 8) : IsPerm x n ↔ PermTo x n 8 := by
  constructor
  · rintro ⟨h1, h2, h3⟩ i hi
    exact ⟨fun h => ⟨h1 i h, h2 i h⟩, fun h => h3 i hi h⟩
  · intro h
    exact ⟨fun i hi => ((h i (by omega)).1 hi).1, fun i hi => ((h i (by omega)).1 hi).2, fun i hi hn => (h i hi).2 hn⟩

theorem permTo_not {x : List Int} {n k : Nat} (hn : n ≤ 8) (hk : k < 8) (h : ¬ ((k < n → x.getD k 0 < n ∧ ∀ j, j < k → x.getD j 0 ≠ x.getD k 0) ∧ (n ≤ k → x.getD k 0 = 0))) : decide (IsPerm x n) = false :=
  decide_eq_false fun hp => h ((perm_iff hn).1 hp k hk)

theorem permTo_succ {x : List Int} {n k : Nat} (hp : PermTo x n k) (h : (k < n → x.getD k 0 < n ∧ ∀ j, j < k → x.getD j 0 ≠ x.getD k 0) ∧ (n ≤ k → x.getD k 0 = 0)) : PermTo x n (k + 1) := by
  intro i hi
  rcases Nat.lt_succ_iff_lt_or_eq.1 hi with h1 | rfl
  · exact hp i h1
  · exact h

theorem l01Perm_c (x : List Int) (n : Nat) (hx : Bytes8 x) (hn : n ≤ 8) : Gives Tryd.prog 34 #[.agg (ints .u8 x).toArray, .int .i64 (n : Int)] (.bool (decide (IsPerm x n))) := by
  have hl := hx.len
  refine Gives.of fun w => ?_
  refine acall_of (N := 36) (c := _) (rs := [.tmp 4]) (args := [_, _]) Tryd.func34 rfl (by decide) rfl rfl (Nat.le_of_ble_eq_true rfl) ?_
  refine Cd.rs [1, 2] fun K hK => ?_
  simp (maxSteps := 2000000) (disch := first | omega | (simp only [E4, *] <;> omega) | fail) only [↓E0, E1, env0, envN, evOps, evOp, evQs, evQ, evV, setD, pureOp, ev, upd, updL, Value.cells, hav, ↓reduceIte, Zj, Zk, Nat.reduceAdd, Nat.reduceLT, Nat.reduceEqDiff, Nat.reduceMul, Nat.reduceLeDiff, if_true, Zn, reduceCtorEq, ZA, eq_self, Int.reduceLE, Int.reduceLT, Int.reduceToNat, ne_eq, Nat.reduceSub]
  intro b1 hb1
  repeat refine And.intro (by omega) ?_
  intro g
  simp only [List.map_cons, List.map_nil, updL, upd, Nat.reduceEqDiff, if_true, if_false, ↓reduceIte]
  refine hK _ _ ?_; clear hK K
  refine Cd.rs [1, 2, 5] fun K hK => ?_
  simp (maxSteps := 2000000) (disch := first | omega | (simp only [E4, *] <;> omega) | fail) only [↓E0, E1, evP, env0, envN, evOps, evOp, evQs, evQ, evV, setD, pureOp, ev, upd, updL, cellAt, cellsAt, findB, setB, fillL, buildV, Value.cells, hav, ↓reduceIte, Zj, Zk, Nat.reduceAdd, Nat.reduceLT, Nat.reduceEqDiff, Nat.reduceMul, Nat.reduceLeDiff, if_true, Zn, reduceCtorEq, ZA, eq_self, Int.reduceLE, Int.reduceLT, Int.reduceToNat, ne_eq, Nat.reduceSub, Tbld61, Tst61, Tzero61]
  intro b2 hb2
  have n21 := hb2.ne
  repeat refine And.intro (by omega) ?_
  intro g
  simp only [List.map_cons, List.map_nil, updL, upd, Nat.reduceEqDiff, if_true, if_false, ↓reduceIte]
  refine hK _ _ ?_; clear hK K
  refine Cd.seq ?_
  refine Cd.rs [1, 2, 5, 6] fun K hK => ?_
  simp (maxSteps := 2000000) (disch := first | omega | (simp only [E4, *] <;> omega) | fail) only [↓E0, E1, env0, envN, evOps, evOp, evQs, evQ, evV, setD, pureOp, ev, upd, updL, hav, ↓reduceIte, Zj, Zk, Nat.reduceAdd, Nat.reduceLT, Nat.reduceEqDiff, Nat.reduceMul, Nat.reduceLeDiff, if_true, Zn, reduceCtorEq, ZA, eq_self, Int.reduceLE, Int.reduceLT, Int.reduceToNat, ne_eq, Nat.reduceSub]
  repeat refine And.intro (by omega) ?_
  intro g
  simp only [List.map_cons, List.map_nil, updL, upd, Nat.reduceEqDiff, if_true, if_false, ↓reduceIte]
  refine hK _ _ ?_; clear hK K
  refine Cd.block ?_
  rw [← metL_zero x n]
  refine Cd.loop (fun m ρ M => ∃ g k, k + m = 8 ∧ PermTo x n k ∧ ρ = updL [(1, .int .i64 (n : Int)), (2, .pointer (some ⟨b1, 0, none⟩)), (5, .pointer (some ⟨b2, 0, none⟩)), (6, .int .i64 (k : Int))] g ∧
    M = [(b2, bools (metL x n k)), (b1, ints .u8 x)]) 8 ⟨_, 0, Nat.zero_add _, (fun _ h => absurd h (Nat.not_lt_zero _)), rfl, rfl⟩ ?_
  rintro m ρ M ⟨g, k, hk, hp, rfl, rfl⟩
  refine Cd.seq ?_
  refine Cd.rs [1, 2, 5, 6, 9] fun K hK => ?_
  simp (maxSteps := 2000000) (disch := first | omega | (simp only [E4, *] <;> omega) | fail) only [↓E0, E1, env0, envN, evOps, evOp, evQs, evQ, evV, setD, pureOp, ev, upd, updL, binW, eqOp, binV, intOp, shOp, boolOp, hav, eqL, SameI, strOp, ↓reduceIte, Zj, Zk, Nat.reduceAdd, Nat.reduceLT, Nat.reduceEqDiff, Nat.reduceMul, Nat.reduceLeDiff, if_true, Zn, reduceCtorEq, ZA, eq_self, Int.reduceLE, Int.reduceLT, Int.reduceToNat, ne_eq, Nat.reduceSub]
  repeat refine And.intro (by omega) ?_
  intro g
  simp only [List.map_cons, List.map_nil, updL, upd, Nat.reduceEqDiff, if_true, if_false, ↓reduceIte]
  refine hK _ _ ?_; clear hK K
  refine Cd.condd rfl (fun h1 => ?_) (fun h1 => ?_)
  · have hb := bytes_get hx (i := k) (by omega)
    refine Cd.skip ?_
    refine thenN ?_
    refine Cd.seq ?_
    refine Cd.block ?_
    refine Cd.seq ?_
    refine Cd.rs [1, 2, 5, 6, 14] fun K hK => ?_
    simp (maxSteps := 2000000) (disch := first | omega | (simp only [E4, *] <;> omega) | fail) only [↓E0, E1, env0, envN, evOps, evOp, evQs, evQ, evV, setD, pureOp, ev, upd, updL, binW, eqOp, binV, intOp, shOp, boolOp, hav, eqL, SameI, strOp, ↓reduceIte, Zj, Zk, Nat.reduceAdd, Nat.reduceLT, Nat.reduceEqDiff, Nat.reduceMul, Nat.reduceLeDiff, if_true, Zn, reduceCtorEq, ZA, eq_self, Int.reduceLE, Int.reduceLT, Int.reduceToNat, ne_eq, Nat.reduceSub]
    repeat refine And.intro (by omega) ?_
    intro g
    simp only [List.map_cons, List.map_nil, updL, upd, Nat.reduceEqDiff, if_true, if_false, ↓reduceIte]
    refine hK _ _ ?_; clear hK K
    refine Cd.condd rfl (fun h2 => ?_) (fun h2 => ?_)
    · refine Cd.seq ?_
      refine Cd.rs [1, 2, 5, 6, 18] fun K hK => ?_
      simp (maxSteps := 2000000) (disch := first | omega | (simp only [E4, hl, *] <;> omega) | fail) only [↓E0, E1, env0, envN, evOps, evOp, evQs, evQ, evV, setD, pureOp, ev, upd, updL, binW, eqOp, binV, intOp, shOp, boolOp, indexAddrV, cellAt, cellsAt, findB, hav, eqL, SameI, strOp, ↓reduceIte, Zj, Zk, Nat.reduceAdd, Nat.reduceLT, Nat.reduceEqDiff, Nat.reduceMul, Nat.reduceLeDiff, if_true, Zn, reduceCtorEq, ZA, eq_self, Int.reduceLE, Int.reduceLT, Int.reduceToNat, ne_eq, Nat.reduceSub, Tarr22, Tld5, n21, hl]
      repeat refine And.intro (by omega) ?_
      repeat refine And.intro (by omega) ?_
      intro g
      simp only [List.map_cons, List.map_nil, updL, upd, Nat.reduceEqDiff, if_true, if_false, ↓reduceIte]
      refine hK _ _ ?_; clear hK K
      refine Cd.cond rfl (fun h3 => ?_) (fun h3 => ?_)
      · refine Cd.rs [4] fun K hK => ?_
        simp (maxSteps := 2000000) (disch := first | omega | (simp only [E4, *] <;> omega) | fail) only [↓E0, E1, env0, envN, evOps, evOp, evQs, evQ, evV, setD, pureOp, ev, upd, updL, hav, ↓reduceIte, Zj, Zk, Nat.reduceAdd, Nat.reduceLT, Nat.reduceEqDiff, Nat.reduceMul, Nat.reduceLeDiff, if_true, Zn, reduceCtorEq, ZA, eq_self, Int.reduceLE, Int.reduceLT, Int.reduceToNat, ne_eq, Nat.reduceSub]
        repeat refine And.intro (by omega) ?_
        intro g
        simp only [List.map_cons, List.map_nil, updL, upd, Nat.reduceEqDiff, if_true, if_false, ↓reduceIte]
        refine hK _ _ ?_; clear hK K
        refine Cd.ret (thenR (thenR (inBR (thenR (roundR (inBR (thenR ?_)))))))
        simp (maxSteps := 2000000) (disch := first | omega | (simp only [E4, *] <;> omega) | fail) only [↓E0, E1, evP, evPlan, env0, envN, evOps, evOp, evQs, evQ, evV, setD, pureOp, ev, upd, updL, gate, binW, eqOp, binV, intOp, shOp, boolOp, unV, convV, nilV, fieldAddrV, indexAddrV, extractV, cellAt, cellsAt, findB, setB, fillL, buildV, Value.cells, lenV, minV, maxV, hav, sliceV, loV, hiV, bslQ, mksQ, appQ, partsOk, partsCells, delB, eqL, SameI, strOp, apzQ, cvtQ, capV, ↓reduceIte, Zj, Zk, Nat.reduceAdd, Nat.reduceLT, Nat.reduceEqDiff, Nat.reduceMul, Nat.reduceLeDiff, if_true, Zn, reduceCtorEq, ZA, eq_self, Int.reduceLE, Int.reduceLT, Int.reduceToNat, ne_eq, Nat.reduceSub]
        exact congrArg Value.bool (permTo_not (k := k) hn (by omega) fun h => by have := h.2 (by omega); rw [this] at h3; simp at h3).symm
      · refine Cd.skip ?_
        refine thenN ?_
        refine Cd.exit (thenX (inBX ?_))
        refine thenN ?_
        refine Cd.rr [1, 2, 5, 6] fun K hK => ?_
        simp (maxSteps := 2000000) (disch := first | omega | (simp only [E4, *] <;> omega) | fail) only [↓E0, E1, env0, envN, evOps, evOp, evQs, evQ, evV, setD, pureOp, ev, upd, updL, binW, eqOp, binV, intOp, shOp, boolOp, hav, eqL, SameI, strOp, ↓reduceIte, Zj, Zk, Nat.reduceAdd, Nat.reduceLT, Nat.reduceEqDiff, Nat.reduceMul, Nat.reduceLeDiff, if_true, Zn, reduceCtorEq, ZA, eq_self, Int.reduceLE, Int.reduceLT, Int.reduceToNat, ne_eq, Nat.reduceSub]
        repeat refine And.intro (by omega) ?_
        intro g
        simp only [List.map_cons, List.map_nil, updL, upd, Nat.reduceEqDiff, if_true, if_false, ↓reduceIte]
        refine hK _ _ ?_; clear hK K
        exact roundN (m := m - 1) (by omega) ⟨_, k + 1, by omega, permTo_succ hp ⟨fun h => absurd h (by omega), fun _ => by simpa using h3⟩, rfl, by rw [metL_over (by omega)]⟩
    · refine Cd.skip ?_
      refine thenN ?_
      refine Cd.seq ?_
      refine Cd.rs [1, 2, 5, 6, 31] fun K hK => ?_
      simp (maxSteps := 2000000) (disch := first | omega | (simp only [E4, hl, *] <;> omega) | fail) only [↓E0, E1, env0, envN, evOps, evOp, evQs, evQ, evV, setD, pureOp, ev, upd, updL, gate, binW, eqOp, binV, intOp, shOp, boolOp, convV, indexAddrV, cellAt, cellsAt, findB, hav, eqL, SameI, strOp, cvtQ, ↓reduceIte, Zj, Zk, Nat.reduceAdd, Nat.reduceLT, Nat.reduceEqDiff, Nat.reduceMul, Nat.reduceLeDiff, if_true, Zn, reduceCtorEq, ZA, eq_self, Int.reduceLE, Int.reduceLT, Int.reduceToNat, ne_eq, Nat.reduceSub, Tarr22, Tarr61, Tint2, Tld4, Tld5, Tpar5, n21, hl]
      refine ⟨by omega, fun h4 => ?_, fun h4 => ?_⟩
      · replace h4 := of_decide_eq_false h4
        obtain ⟨j, hj⟩ : ∃ j : Nat, x.getD k 0 = (j : Int) := ⟨(x.getD k 0).toNat, by omega⟩
        have hj8 : j < 8 := by omega
        simp (maxSteps := 2000000) (disch := first | omega | (simp only [E4, hl, hj, metL_len, metL_get, *] <;> omega) | fail) only [↓E0, E1, env0, envN, evOps, evOp, evQs, evQ, evV, setD, pureOp, ev, upd, updL, gate, binW, eqOp, binV, intOp, shOp, boolOp, convV, indexAddrV, cellAt, cellsAt, findB, hav, eqL, SameI, strOp, cvtQ, ↓reduceIte, Zj, Zk, Nat.reduceAdd, Nat.reduceLT, Nat.reduceEqDiff, Nat.reduceMul, Nat.reduceLeDiff, if_true, Zn, reduceCtorEq, ZA, eq_self, Int.reduceLE, Int.reduceLT, Int.reduceToNat, ne_eq, Nat.reduceSub, Tarr22, Tarr61, Tint2, Tld4, Tld5, Tpar5, n21, hl, hj, metL_len, metL_get]
        repeat refine And.intro (by omega) ?_
        repeat refine And.intro (by omega) ?_
        intro g
        simp only [List.map_cons, List.map_nil, updL, upd, Nat.reduceEqDiff, if_true, if_false, ↓reduceIte]
        refine hK _ _ ?_; clear hK K
        refine Cd.condd rfl (fun h5 => ?_) (fun h5 => ?_)
        · refine Cd.rs [4] fun K hK => ?_
          simp (maxSteps := 2000000) (disch := first | omega | (simp only [E4, *] <;> omega) | fail) only [↓E0, E1, env0, envN, evOps, evOp, evQs, evQ, evV, setD, pureOp, ev, upd, updL, hav, ↓reduceIte, Zj, Zk, Nat.reduceAdd, Nat.reduceLT, Nat.reduceEqDiff, Nat.reduceMul, Nat.reduceLeDiff, if_true, Zn, reduceCtorEq, ZA, eq_self, Int.reduceLE, Int.reduceLT, Int.reduceToNat, ne_eq, Nat.reduceSub]
          repeat refine And.intro (by omega) ?_
          intro g
          simp only [List.map_cons, List.map_nil, updL, upd, Nat.reduceEqDiff, if_true, if_false, ↓reduceIte]
          refine hK _ _ ?_; clear hK K
          refine Cd.ret (thenR (inBR (thenR (roundR (inBR (thenR ?_))))))
          simp (maxSteps := 2000000) (disch := first | omega | (simp only [E4, *] <;> omega) | fail) only [↓E0, E1, evP, evPlan, env0, envN, evOps, evOp, evQs, evQ, evV, setD, pureOp, ev, upd, updL, gate, binW, eqOp, binV, intOp, shOp, boolOp, unV, convV, nilV, fieldAddrV, indexAddrV, extractV, cellAt, cellsAt, findB, setB, fillL, buildV, Value.cells, lenV, minV, maxV, hav, sliceV, loV, hiV, bslQ, mksQ, appQ, partsOk, partsCells, delB, eqL, SameI, strOp, apzQ, cvtQ, capV, ↓reduceIte, Zj, Zk, Nat.reduceAdd, Nat.reduceLT, Nat.reduceEqDiff, Nat.reduceMul, Nat.reduceLeDiff, if_true, Zn, reduceCtorEq, ZA, eq_self, Int.reduceLE, Int.reduceLT, Int.reduceToNat, ne_eq, Nat.reduceSub]
          exact congrArg Value.bool (permTo_not (k := k) hn (by omega) fun h => by
            obtain ⟨i, h6, h7, h8⟩ := h5
            exact (h.1 (by omega)).2 i h6 (by rw [h8, hj])).symm
        · refine Cd.skip ?_
          refine thenN ?_
          refine Cd.rr [1, 2, 5, 6] fun K hK => ?_
          simp (maxSteps := 2000000) (disch := first | omega | (simp only [E4, hl, hj, metL_len, *] <;> omega) | fail) only [↓E0, E1, env0, envN, evOps, evOp, evQs, evQ, evV, setD, pureOp, ev, upd, updL, indexAddrV, cellAt, cellsAt, findB, setB, Value.cells, hav, ↓reduceIte, Zj, Zk, Nat.reduceAdd, Nat.reduceLT, Nat.reduceEqDiff, Nat.reduceMul, Nat.reduceLeDiff, if_true, Zn, reduceCtorEq, ZA, eq_self, Int.reduceLE, Int.reduceLT, Int.reduceToNat, ne_eq, Nat.reduceSub, Tarr22, Tarr61, Tld5, Tst4, n21, hl, hj, metL_len]
          repeat refine And.intro (by omega) ?_
          rw [metL_set (by omega) hj]
          repeat refine And.intro (by omega) ?_
          intro g
          simp only [List.map_cons, List.map_nil, updL, upd, Nat.reduceEqDiff, if_true, if_false, ↓reduceIte]
          refine hK _ _ ?_; clear hK K
          refine inBN ?_
          refine thenN ?_
          refine Cd.rr [1, 2, 5, 6] fun K hK => ?_
          simp (maxSteps := 2000000) (disch := first | omega | (simp only [E4, *] <;> omega) | fail) only [↓E0, E1, env0, envN, evOps, evOp, evQs, evQ, evV, setD, pureOp, ev, upd, updL, binW, eqOp, binV, intOp, shOp, boolOp, hav, eqL, SameI, strOp, ↓reduceIte, Zj, Zk, Nat.reduceAdd, Nat.reduceLT, Nat.reduceEqDiff, Nat.reduceMul, Nat.reduceLeDiff, if_true, Zn, reduceCtorEq, ZA, eq_self, Int.reduceLE, Int.reduceLT, Int.reduceToNat, ne_eq, Nat.reduceSub]
          repeat refine And.intro (by omega) ?_
          intro g
          simp only [List.map_cons, List.map_nil, updL, upd, Nat.reduceEqDiff, if_true, if_false, ↓reduceIte]
          refine hK _ _ ?_; clear hK K
          exact roundN (m := m - 1) (by omega) ⟨_, k + 1, by omega, permTo_succ hp ⟨fun h => ⟨by omega, fun i hi he => h5 ⟨i, hi, by omega, by rw [he, hj]⟩⟩, fun h => absurd h (by omega)⟩, rfl, rfl⟩
      · repeat refine And.intro (by omega) ?_
        intro g
        simp only [List.map_cons, List.map_nil, updL, upd, Nat.reduceEqDiff, if_true, if_false, ↓reduceIte]
        refine hK _ _ ?_; clear hK K
        refine Cd.yes rfl ?_
        refine Cd.rs [4] fun K hK => ?_
        simp (maxSteps := 2000000) (disch := first | omega | (simp only [E4, *] <;> omega) | fail) only [↓E0, E1, env0, envN, evOps, evOp, evQs, evQ, evV, setD, pureOp, ev, upd, updL, hav, ↓reduceIte, Zj, Zk, Nat.reduceAdd, Nat.reduceLT, Nat.reduceEqDiff, Nat.reduceMul, Nat.reduceLeDiff, if_true, Zn, reduceCtorEq, ZA, eq_self, Int.reduceLE, Int.reduceLT, Int.reduceToNat, ne_eq, Nat.reduceSub]
        repeat refine And.intro (by omega) ?_
        intro g
        simp only [List.map_cons, List.map_nil, updL, upd, Nat.reduceEqDiff, if_true, if_false, ↓reduceIte]
        refine hK _ _ ?_; clear hK K
        refine Cd.ret (thenR (inBR (thenR (roundR (inBR (thenR ?_))))))
        simp (maxSteps := 2000000) (disch := first | omega | (simp only [E4, *] <;> omega) | fail) only [↓E0, E1, evP, evPlan, env0, envN, evOps, evOp, evQs, evQ, evV, setD, pureOp, ev, upd, updL, gate, binW, eqOp, binV, intOp, shOp, boolOp, unV, convV, nilV, fieldAddrV, indexAddrV, extractV, cellAt, cellsAt, findB, setB, fillL, buildV, Value.cells, lenV, minV, maxV, hav, sliceV, loV, hiV, bslQ, mksQ, appQ, partsOk, partsCells, delB, eqL, SameI, strOp, apzQ, cvtQ, capV, ↓reduceIte, Zj, Zk, Nat.reduceAdd, Nat.reduceLT, Nat.reduceEqDiff, Nat.reduceMul, Nat.reduceLeDiff, if_true, Zn, reduceCtorEq, ZA, eq_self, Int.reduceLE, Int.reduceLT, Int.reduceToNat, ne_eq, Nat.reduceSub]
        exact congrArg Value.bool (permTo_not (k := k) hn (by omega) fun h => by have := (h.1 (by omega)).1; omega).symm
  · refine Cd.exit (thenX (roundX (inBX ?_)))
    refine thenN ?_
    obtain rfl : k = 8 := by omega
    refine Cd.rs [4] fun K hK => ?_
    simp (maxSteps := 2000000) (disch := first | omega | (simp only [E4, *] <;> omega) | fail) only [↓E0, E1, env0, envN, evOps, evOp, evQs, evQ, evV, setD, pureOp, ev, upd, updL, hav, ↓reduceIte, Zj, Zk, Nat.reduceAdd, Nat.reduceLT, Nat.reduceEqDiff, Nat.reduceMul, Nat.reduceLeDiff, if_true, Zn, reduceCtorEq, ZA, eq_self, Int.reduceLE, Int.reduceLT, Int.reduceToNat, ne_eq, Nat.reduceSub]
    repeat refine And.intro (by omega) ?_
    intro g
    simp only [List.map_cons, List.map_nil, updL, upd, Nat.reduceEqDiff, if_true, if_false, ↓reduceIte]
    refine hK _ _ ?_; clear hK K
    refine Cd.ret ?_
    simp (maxSteps := 2000000) (disch := first | omega | (simp only [E4, *] <;> omega) | fail) only [↓E0, E1, evP, evPlan, env0, envN, evOps, evOp, evQs, evQ, evV, setD, pureOp, ev, upd, updL, gate, binW, eqOp, binV, intOp, shOp, boolOp, unV, convV, nilV, fieldAddrV, indexAddrV, extractV, cellAt, cellsAt, findB, setB, fillL, buildV, Value.cells, lenV, minV, maxV, hav, sliceV, loV, hiV, bslQ, mksQ, appQ, partsOk, partsCells, delB, eqL, SameI, strOp, apzQ, cvtQ, capV, ↓reduceIte, Zj, Zk, Nat.reduceAdd, Nat.reduceLT, Nat.reduceEqDiff, Nat.reduceMul, Nat.reduceLeDiff, if_true, Zn, reduceCtorEq, ZA, eq_self, Int.reduceLE, Int.reduceLT, Int.reduceToNat, ne_eq, Nat.reduceSub]
    exact congrArg Value.bool (decide_eq_true ((perm_iff hn).2 hp)).symm

end Go.Proofs

/-
  What the functions of this part hand back: each as a plain function of its arguments. Conditions: none.
-/
namespace Go.Proofs
open Go.W8
set_option linter.unusedVariables false
set_option linter.unusedSimpArgs false
set_option linter.unusedSectionVars false
set_option maxRecDepth 8000
set_option maxHeartbeats 4000000
theorem n_c (s : Int) (x o : List Int) (hx : x.length = 8) (ho : o.length = 8) : Gives Tryd.prog 33 #[.agg (gc s x o).toArray] (.int .i64 s) := by
  refine Gives.of fun w => ?_
  refine acall_of (N := 5) (c := _) (rs := [.tmp 2]) (args := [_]) Tryd.func33 rfl (by decide) rfl rfl (Nat.le_of_ble_eq_true rfl) ?_
  refine Cd.rs [1] fun K hK => ?_
  simp (maxSteps := 2000000) (disch := first | omega | (simp only [E4, *] <;> omega) | fail) only [↓E0, E1, env0, envN, evOps, evOp, evQs, evQ, evV, setD, pureOp, ev, upd, updL, Value.cells, hav, ↓reduceIte, Zj, Zk, Nat.reduceAdd, Nat.reduceLT, Nat.reduceEqDiff, Nat.reduceMul, Nat.reduceLeDiff, if_true, Zn, reduceCtorEq, ZA, eq_self, Int.reduceLE, Int.reduceLT, Int.reduceToNat, ne_eq, Nat.reduceSub]
  intro b1 hb1
  repeat refine And.intro (by omega) ?_
  intro g
  simp only [List.map_cons, List.map_nil, updL, upd, Nat.reduceEqDiff, if_true, if_false, ↓reduceIte]
  refine hK _ _ ?_; clear hK K
  refine Cd.rs [2] fun K hK => ?_
  simp (maxSteps := 2000000) (disch := first | omega | (simp only [E4, hx, ho, *] <;> omega) | fail) only [↓E0, E1, env0, envN, evOps, evOp, evQs, evQ, evV, setD, pureOp, ev, upd, updL, fieldAddrV, cellAt, cellsAt, findB, hav, ↓reduceIte, Zj, Zk, Nat.reduceAdd, Nat.reduceLT, Nat.reduceEqDiff, Nat.reduceMul, Nat.reduceLeDiff, if_true, Zn, reduceCtorEq, ZA, eq_self, Int.reduceLE, Int.reduceLT, Int.reduceToNat, ne_eq, Nat.reduceSub, Tfld24_0, Tld2, hx, ho]
  repeat refine And.intro (by omega) ?_
  intro g
  simp only [List.map_cons, List.map_nil, updL, upd, Nat.reduceEqDiff, if_true, if_false, ↓reduceIte]
  refine hK _ _ ?_; clear hK K
  refine Cd.ret ?_
  simp (maxSteps := 2000000) (disch := first | omega | (simp only [E4, *] <;> omega) | fail) only [↓E0, E1, evP, evPlan, env0, envN, evOps, evOp, evQs, evQ, evV, setD, pureOp, ev, upd, updL, gate, binW, eqOp, binV, intOp, shOp, boolOp, unV, convV, nilV, fieldAddrV, indexAddrV, extractV, cellAt, cellsAt, findB, setB, fillL, buildV, Value.cells, lenV, minV, maxV, hav, sliceV, loV, hiV, bslQ, mksQ, appQ, partsOk, partsCells, delB, eqL, SameI, strOp, apzQ, cvtQ, capV, ↓reduceIte, Zj, Zk, Nat.reduceAdd, Nat.reduceLT, Nat.reduceEqDiff, Nat.reduceMul, Nat.reduceLeDiff, if_true, Zn, reduceCtorEq, ZA, eq_self, Int.reduceLE, Int.reduceLT, Int.reduceToNat, ne_eq, Nat.reduceSub]

theorem gridB_false {s : Int} {x o : List Int} (h : ¬ IsG s x o) : gridB s x o = false := decide_eq_false h
theorem gridB_true {s : Int} {x o : List Int} (h : IsG s x o) : gridB s x o = true := decide_eq_true h

theorem l01Is_c (s : Int) (x o : List Int) (hx : Bytes8 x) (ho : Bytes8 o) : Gives Tryd.prog 17 #[.agg (gc s x o).toArray] (.bool (gridB s x o)) := by
  have hl := hx.len
  have hm := ho.len
  refine Gives.of fun w => ?_
  refine acall_of (N := 39) (c := _) (rs := [.tmp 2]) (args := [_]) Tryd.func17 rfl (by decide) rfl rfl (Nat.le_of_ble_eq_true rfl) ?_
  refine Cd.rs [1] fun K hK => ?_
  simp (maxSteps := 2000000) (disch := first | omega | (simp only [E4, *] <;> omega) | fail) only [↓E0, E1, env0, envN, evOps, evOp, evQs, evQ, evV, setD, pureOp, ev, upd, updL, Value.cells, hav, ↓reduceIte, Zj, Zk, Nat.reduceAdd, Nat.reduceLT, Nat.reduceEqDiff, Nat.reduceMul, Nat.reduceLeDiff, if_true, Zn, reduceCtorEq, ZA, eq_self, Int.reduceLE, Int.reduceLT, Int.reduceToNat, ne_eq, Nat.reduceSub]
  intro b1 hb1
  repeat refine And.intro (by omega) ?_
  intro g
  simp only [List.map_cons, List.map_nil, updL, upd, Nat.reduceEqDiff, if_true, if_false, ↓reduceIte]
  refine hK _ _ ?_; clear hK K
  refine Cd.seq ?_
  refine Cd.rs [1, 23] fun K hK => ?_
  have J : ∀ g b, (b = false ↔ (2 ≤ s ∧ s ≤ 8) ∧ IsPerm x s.toNat ∧ IsPerm o s.toNat) → K (updL [(1, .pointer (some ⟨b1, 0, none⟩)), (23, .bool b)] g) [(b1, gc s x o)] := by
    intro g b hb
    refine hK _ _ ?_
    clear hK K
    refine Cd.cond rfl (fun h1 => ?_) (fun h1 => ?_)
    · refine Cd.rs [2] fun K hK => ?_
      simp (maxSteps := 2000000) (disch := first | omega | (simp only [E4, *] <;> omega) | fail) only [↓E0, E1, env0, envN, evOps, evOp, evQs, evQ, evV, setD, pureOp, ev, upd, updL, hav, ↓reduceIte, Zj, Zk, Nat.reduceAdd, Nat.reduceLT, Nat.reduceEqDiff, Nat.reduceMul, Nat.reduceLeDiff, if_true, Zn, reduceCtorEq, ZA, eq_self, Int.reduceLE, Int.reduceLT, Int.reduceToNat, ne_eq, Nat.reduceSub]
      repeat refine And.intro (by omega) ?_
      intro g
      simp only [List.map_cons, List.map_nil, updL, upd, Nat.reduceEqDiff, if_true, if_false, ↓reduceIte]
      refine hK _ _ ?_; clear hK K
      refine Cd.ret (thenR ?_)
      simp (maxSteps := 2000000) (disch := first | omega | (simp only [E4, *] <;> omega) | fail) only [↓E0, E1, evP, evPlan, env0, envN, evOps, evOp, evQs, evQ, evV, setD, pureOp, ev, upd, updL, gate, binW, eqOp, binV, intOp, shOp, boolOp, unV, convV, nilV, fieldAddrV, indexAddrV, extractV, cellAt, cellsAt, findB, setB, fillL, buildV, Value.cells, lenV, minV, maxV, hav, sliceV, loV, hiV, bslQ, mksQ, appQ, partsOk, partsCells, delB, eqL, SameI, strOp, apzQ, cvtQ, capV, ↓reduceIte, Zj, Zk, Nat.reduceAdd, Nat.reduceLT, Nat.reduceEqDiff, Nat.reduceMul, Nat.reduceLeDiff, if_true, Zn, reduceCtorEq, ZA, eq_self, Int.reduceLE, Int.reduceLT, Int.reduceToNat, ne_eq, Nat.reduceSub]
      exact congrArg Value.bool (gridB_false fun h => by rw [hb.2 ⟨⟨h.1, h.2.1⟩, h.2.2.1, h.2.2.2.1⟩] at h1; cases h1).symm
    · obtain ⟨hs, hpx, hpo⟩ := hb.1 h1
      obtain ⟨n, rfl⟩ : ∃ n : Nat, s = (n : Int) := ⟨s.toNat, by omega⟩
      rw [Int.toNat_natCast] at hpx hpo
      refine Cd.skip ?_
      refine thenN ?_
      refine Cd.seq ?_
      refine Cd.rs [1, 3] fun K hK => ?_
      simp (maxSteps := 2000000) (disch := first | omega | (simp only [E4, *] <;> omega) | fail) only [↓E0, E1, env0, envN, evOps, evOp, evQs, evQ, evV, setD, pureOp, ev, upd, updL, hav, ↓reduceIte, Zj, Zk, Nat.reduceAdd, Nat.reduceLT, Nat.reduceEqDiff, Nat.reduceMul, Nat.reduceLeDiff, if_true, Zn, reduceCtorEq, ZA, eq_self, Int.reduceLE, Int.reduceLT, Int.reduceToNat, ne_eq, Nat.reduceSub]
      repeat refine And.intro (by omega) ?_
      intro g
      simp only [List.map_cons, List.map_nil, updL, upd, Nat.reduceEqDiff, if_true, if_false, ↓reduceIte]
      refine hK _ _ ?_; clear hK K
      refine Cd.block ?_
      refine Cd.loop (fun m ρ M => ∃ g k, k + m = n ∧ (∀ i, i < k → x.getD i 0 ≠ o.getD i 0) ∧ ρ = updL [(1, .pointer (some ⟨b1, 0, none⟩)), (3, .int .i64 (k : Int))] g ∧ M = [(b1, gc (n : Int) x o)]) n
        ⟨_, 0, Nat.zero_add _, (fun _ h => absurd h (Nat.not_lt_zero _)), rfl, rfl⟩ ?_
      rintro m ρ M ⟨g, k, hk, hd, rfl, rfl⟩
      refine Cd.seq ?_
      refine Cd.rs [1, 3, 27] fun K hK => ?_
      simp (maxSteps := 2000000) (disch := first | omega | (simp only [E4, hl, hm, *] <;> omega) | fail) only [↓E0, E1, env0, envN, evOps, evOp, evQs, evQ, evV, setD, pureOp, ev, upd, updL, binW, eqOp, binV, intOp, shOp, boolOp, fieldAddrV, cellAt, cellsAt, findB, hav, eqL, SameI, strOp, ↓reduceIte, Zj, Zk, Nat.reduceAdd, Nat.reduceLT, Nat.reduceEqDiff, Nat.reduceMul, Nat.reduceLeDiff, if_true, Zn, reduceCtorEq, ZA, eq_self, Int.reduceLE, Int.reduceLT, Int.reduceToNat, ne_eq, Nat.reduceSub, Tfld24_0, Tld2, hl, hm]
      repeat refine And.intro (by omega) ?_
      intro g
      simp only [List.map_cons, List.map_nil, updL, upd, Nat.reduceEqDiff, if_true, if_false, ↓reduceIte]
      refine hK _ _ ?_; clear hK K
      refine Cd.condd rfl (fun h2 => ?_) (fun h2 => ?_)
      · refine Cd.skip ?_
        refine thenN ?_
        refine Cd.seq ?_
        refine Cd.block ?_
        refine Cd.qs [1, 3, 38] fol (by kernel_rfl) fun K hK => ?_
        simp (maxSteps := 2000000) (disch := first | omega | (simp only [E4, hl, hm, *] <;> omega) | fail) only [↓E0, E1, evPlan, env0, envN, evOps, evOp, evQs, evQ, evV, setD, pureOp, ev, upd, updL, binW, eqOp, binV, intOp, shOp, boolOp, fieldAddrV, indexAddrV, cellAt, cellsAt, findB, hav, eqL, SameI, strOp, ↓reduceIte, Zj, Zk, Nat.reduceAdd, Nat.reduceLT, Nat.reduceEqDiff, Nat.reduceMul, Nat.reduceLeDiff, if_true, Zn, reduceCtorEq, ZA, eq_self, Int.reduceLE, Int.reduceLT, Int.reduceToNat, ne_eq, Nat.reduceSub, Tarr22, Tfld24_1, Tfld24_2, Tld5, hl, hm]
        repeat refine And.intro (by omega) ?_
        repeat refine And.intro (by omega) ?_
        intro g
        simp only [List.map_cons, List.map_nil, updL, upd, Nat.reduceEqDiff, if_true, if_false, ↓reduceIte]
        refine hK _ ?_; clear hK K
        refine Cd.cond rfl (fun h3 => ?_) (fun h3 => ?_)
        · refine Cd.rs [2] fun K hK => ?_
          simp (maxSteps := 2000000) (disch := first | omega | (simp only [E4, *] <;> omega) | fail) only [↓E0, E1, env0, envN, evOps, evOp, evQs, evQ, evV, setD, pureOp, ev, upd, updL, hav, ↓reduceIte, Zj, Zk, Nat.reduceAdd, Nat.reduceLT, Nat.reduceEqDiff, Nat.reduceMul, Nat.reduceLeDiff, if_true, Zn, reduceCtorEq, ZA, eq_self, Int.reduceLE, Int.reduceLT, Int.reduceToNat, ne_eq, Nat.reduceSub]
          repeat refine And.intro (by omega) ?_
          intro g
          simp only [List.map_cons, List.map_nil, updL, upd, Nat.reduceEqDiff, if_true, if_false, ↓reduceIte]
          refine hK _ _ ?_; clear hK K
          refine Cd.ret (inBR (thenR (roundR (inBR (thenR ?_)))))
          simp (maxSteps := 2000000) (disch := first | omega | (simp only [E4, *] <;> omega) | fail) only [↓E0, E1, evP, evPlan, env0, envN, evOps, evOp, evQs, evQ, evV, setD, pureOp, ev, upd, updL, gate, binW, eqOp, binV, intOp, shOp, boolOp, unV, convV, nilV, fieldAddrV, indexAddrV, extractV, cellAt, cellsAt, findB, setB, fillL, buildV, Value.cells, lenV, minV, maxV, hav, sliceV, loV, hiV, bslQ, mksQ, appQ, partsOk, partsCells, delB, eqL, SameI, strOp, apzQ, cvtQ, capV, ↓reduceIte, Zj, Zk, Nat.reduceAdd, Nat.reduceLT, Nat.reduceEqDiff, Nat.reduceMul, Nat.reduceLeDiff, if_true, Zn, reduceCtorEq, ZA, eq_self, Int.reduceLE, Int.reduceLT, Int.reduceToNat, ne_eq, Nat.reduceSub]
          exact congrArg Value.bool (gridB_false fun h => h.2.2.2.2 k (by omega) (by simpa using h3)).symm
        · refine Cd.skip ?_
          refine inBN ?_
          refine thenN ?_
          refine Cd.rr [1, 3] fun K hK => ?_
          simp (maxSteps := 2000000) (disch := first | omega | (simp only [E4, *] <;> omega) | fail) only [↓E0, E1, env0, envN, evOps, evOp, evQs, evQ, evV, setD, pureOp, ev, upd, updL, binW, eqOp, binV, intOp, shOp, boolOp, hav, eqL, SameI, strOp, ↓reduceIte, Zj, Zk, Nat.reduceAdd, Nat.reduceLT, Nat.reduceEqDiff, Nat.reduceMul, Nat.reduceLeDiff, if_true, Zn, reduceCtorEq, ZA, eq_self, Int.reduceLE, Int.reduceLT, Int.reduceToNat, ne_eq, Nat.reduceSub]
          repeat refine And.intro (by omega) ?_
          intro g
          simp only [List.map_cons, List.map_nil, updL, upd, Nat.reduceEqDiff, if_true, if_false, ↓reduceIte]
          refine hK _ _ ?_; clear hK K
          exact roundN (m := m - 1) (by omega) ⟨_, k + 1, by omega, fun i hi => by
            rcases Nat.lt_succ_iff_lt_or_eq.1 hi with h4 | rfl
            · exact hd i h4
            · simpa using h3, rfl, rfl⟩
      · refine Cd.exit (thenX (roundX (inBX ?_)))
        refine thenN ?_
        refine Cd.rs [2] fun K hK => ?_
        simp (maxSteps := 2000000) (disch := first | omega | (simp only [E4, *] <;> omega) | fail) only [↓E0, E1, env0, envN, evOps, evOp, evQs, evQ, evV, setD, pureOp, ev, upd, updL, hav, ↓reduceIte, Zj, Zk, Nat.reduceAdd, Nat.reduceLT, Nat.reduceEqDiff, Nat.reduceMul, Nat.reduceLeDiff, if_true, Zn, reduceCtorEq, ZA, eq_self, Int.reduceLE, Int.reduceLT, Int.reduceToNat, ne_eq, Nat.reduceSub]
        repeat refine And.intro (by omega) ?_
        intro g
        simp only [List.map_cons, List.map_nil, updL, upd, Nat.reduceEqDiff, if_true, if_false, ↓reduceIte]
        refine hK _ _ ?_; clear hK K
        refine Cd.ret ?_
        simp (maxSteps := 2000000) (disch := first | omega | (simp only [E4, *] <;> omega) | fail) only [↓E0, E1, evP, evPlan, env0, envN, evOps, evOp, evQs, evQ, evV, setD, pureOp, ev, upd, updL, gate, binW, eqOp, binV, intOp, shOp, boolOp, unV, convV, nilV, fieldAddrV, indexAddrV, extractV, cellAt, cellsAt, findB, setB, fillL, buildV, Value.cells, lenV, minV, maxV, hav, sliceV, loV, hiV, bslQ, mksQ, appQ, partsOk, partsCells, delB, eqL, SameI, strOp, apzQ, cvtQ, capV, ↓reduceIte, Zj, Zk, Nat.reduceAdd, Nat.reduceLT, Nat.reduceEqDiff, Nat.reduceMul, Nat.reduceLeDiff, if_true, Zn, reduceCtorEq, ZA, eq_self, Int.reduceLE, Int.reduceLT, Int.reduceToNat, ne_eq, Nat.reduceSub]
        exact congrArg Value.bool (gridB_true ⟨hs.1, hs.2, hpx, hpo, fun i hi => hd i (by omega)⟩).symm
  clear hK
  simp (maxSteps := 2000000) (disch := first | omega | (simp only [E4, hl, hm, *] <;> omega) | fail) only [↓E0, E1, env0, envN, evOps, evOp, evQs, evQ, evV, setD, pureOp, ev, upd, updL, gate, unV, fieldAddrV, cellAt, cellsAt, findB, setB, hav, ↓reduceIte, Zj, Zk, Nat.reduceAdd, Nat.reduceLT, Nat.reduceEqDiff, Nat.reduceMul, Nat.reduceLeDiff, if_true, Zn, reduceCtorEq, ZA, eq_self, Int.reduceLE, Int.reduceLT, Int.reduceToNat, ne_eq, Nat.reduceSub, Tfld24_0, Tfld24_1, Tfld24_2, Tld2, Tld22, hl, hm]
  refine callK_gives (l01In_c _ _ _) ?_
  simp (maxSteps := 2000000) (disch := first | omega | (simp only [E4, hl, hm, *] <;> omega) | fail) only [↓E0, E1, env0, envN, evOps, evOp, evQs, evQ, evV, setD, pureOp, ev, upd, updL, gate, unV, fieldAddrV, cellAt, cellsAt, findB, setB, hav, ↓reduceIte, Zj, Zk, Nat.reduceAdd, Nat.reduceLT, Nat.reduceEqDiff, Nat.reduceMul, Nat.reduceLeDiff, if_true, Zn, reduceCtorEq, ZA, eq_self, Int.reduceLE, Int.reduceLT, Int.reduceToNat, ne_eq, Nat.reduceSub, Tfld24_0, Tfld24_1, Tfld24_2, Tld2, Tld22, hl, hm]
  refine ⟨fun h1 => ?_, fun h1 => ?_⟩
  · have hs : 2 ≤ s ∧ s ≤ 8 := by simpa using h1
    obtain ⟨n, rfl⟩ : ∃ n : Nat, s = (n : Int) := ⟨s.toNat, by omega⟩
    refine callK_gives (l01Perm_c x n hx (by omega)) ?_
    simp (maxSteps := 2000000) (disch := first | omega | (simp only [E4, hl, hm, *] <;> omega) | fail) only [↓E0, E1, env0, envN, evOps, evOp, evQs, evQ, evV, setD, pureOp, ev, upd, updL, gate, unV, fieldAddrV, cellAt, cellsAt, findB, setB, hav, ↓reduceIte, Zj, Zk, Nat.reduceAdd, Nat.reduceLT, Nat.reduceEqDiff, Nat.reduceMul, Nat.reduceLeDiff, if_true, Zn, reduceCtorEq, ZA, eq_self, Int.reduceLE, Int.reduceLT, Int.reduceToNat, ne_eq, Nat.reduceSub, Tfld24_0, Tfld24_1, Tfld24_2, Tld2, Tld22, hl, hm]
    refine ⟨fun h2 => ?_, fun h2 => ?_⟩
    · refine callK_gives (l01Perm_c o n ho (by omega)) ?_
      simp (maxSteps := 2000000) (disch := first | omega | (simp only [E4, hl, hm, *] <;> omega) | fail) only [↓E0, E1, env0, envN, evOps, evOp, evQs, evQ, evV, setD, pureOp, ev, upd, updL, gate, unV, fieldAddrV, cellAt, cellsAt, findB, setB, hav, ↓reduceIte, Zj, Zk, Nat.reduceAdd, Nat.reduceLT, Nat.reduceEqDiff, Nat.reduceMul, Nat.reduceLeDiff, if_true, Zn, reduceCtorEq, ZA, eq_self, Int.reduceLE, Int.reduceLT, Int.reduceToNat, ne_eq, Nat.reduceSub, Tfld24_0, Tfld24_1, Tfld24_2, Tld2, Tld22, hl, hm]
      repeat refine And.intro (by omega) ?_
      intro g
      simp only [List.map_cons, List.map_nil, updL, upd, Nat.reduceEqDiff, if_true, if_false, ↓reduceIte]
      refine J g _ ?_
      simp at h2
      simp [h2, hs]
    · repeat refine And.intro (by omega) ?_
      intro g
      simp only [List.map_cons, List.map_nil, updL, upd, Nat.reduceEqDiff, if_true, if_false, ↓reduceIte]
      refine J g _ ?_
      simp at h2
      simp [h2]
  · repeat refine And.intro (by omega) ?_
    intro g
    simp only [List.map_cons, List.map_nil, updL, upd, Nat.reduceEqDiff, if_true, if_false, ↓reduceIte]
    refine J g _ ?_
    simp at h1
    simp
    omega

/-- The mask of the entries ahead of k. -/
def maskL (x : List Int) (n k : Nat) : Nat := mask (fun i => (x.getD i 0).toNat) (min k n)
theorem maskL_zero (x : List Int) (n : Nat) : maskL x n 0 = 0 := by simp [maskL, mask]
theorem maskL_succ {x : List Int} {n k : Nat} (h : k < n) : maskL x n (k + 1) = maskL x n k ||| 2 ^ (x.getD k 0).toNat := by
  unfold maskL
  rw [Nat.min_eq_left (by omega), Nat.min_eq_left (by omega)]
  rfl
theorem maskL_over {x : List Int} {n k : Nat} (h : n ≤ k) : maskL x n (k + 1) = maskL x n k := by
  unfold maskL
  rw [Nat.min_eq_right (by omega), Nat.min_eq_right (by omega)]

/-- All is well with the entries ahead of k, but that one may come twice. -/
def FitTo (x : List Int) (n k : Nat) : Prop := ∀ i, i < k → x.getD i 0 < n ∧ (n ≤ i → x.getD i 0 = 0)

theorem mask_end {x : List Int} {n : Nat} (hx : Bytes8 x) (hn : n ≤ 8) (hd : FitTo x n 8) : ((maskL x n 8 : Int) == IntKind.wrap .i64 (((2 ^ n : Nat) : Int) - 1)) = decide (IsPerm x n) := by
  have hj2 : 2 ^ n ≤ 2 ^ 8 := Nat.pow_le_pow_right (by omega) hn
  have hp : 0 < 2 ^ n := Nat.two_pow_pos n
  have hf : ∀ i, i < n → (x.getD i 0).toNat < n := fun i hi => by have := (hd i (by omega)).1; have := (bytes_get hx (i := i) (by omega)).1; omega
  have hm := mask_full (f := fun i => (x.getD i 0).toNat) hf
  have e : maskL x n 8 = mask (fun i => (x.getD i 0).toNat) n := by unfold maskL; rw [Nat.min_eq_right hn]
  rw [e]
  have hw : IntKind.wrap .i64 (((2 ^ n : Nat) : Int) - 1) = ((2 ^ n - 1 : Nat) : Int) := by
    generalize 2 ^ n = m at hj2 hp
    rw [wrap_i64 (by omega) (by omega)]
    omega
  rw [hw]
  have hiff : ((mask (fun i => (x.getD i 0).toNat) n : Int) = ((2 ^ n - 1 : Nat) : Int)) ↔ IsPerm x n := by
    rw [Int.ofNat_inj, hm, perm_iff hn]
    constructor
    · intro h i hi
      refine ⟨fun hin => ⟨(hd i hi).1, fun j hj he => h i hin j hj (by rw [he])⟩, (hd i hi).2⟩
    · intro h i hi j hj he
      have h1 := bytes_get hx (i := i) (by omega)
      have h2 := bytes_get hx (i := j) (by omega)
      exact ((h i (by omega)).1 hi).2 j hj (by omega)
  by_cases h : IsPerm x n
  · rw [decide_eq_true h, hiff.2 h]; simp
  · rw [decide_eq_false h]
    exact beq_eq_false_iff_ne.2 fun he => h (hiff.1 he)

theorem isOrder_c (b o cap : Nat) (x : List Int) (n : Nat) (hx : Bytes8 x) (h2 : 2 ≤ n) (hn : n ≤ 8) : GivesR Tryd.prog 32 #[.slice (some ⟨b, o, none⟩) 8 cap, .int .i64 (n : Int)] [(b, o, ints .u8 x)] (.bool (decide (IsPerm x n))) := by
  have hl := hx.len
  refine GivesR.of (callable_of Tryd.func32 rfl (by decide)) fun w hR => ?_
  refine acall_of (N := 41) (c := _) (rs := [.tmp 4]) (args := [_, _]) Tryd.func32 rfl (by decide) rfl rfl (Nat.le_of_ble_eq_true rfl) ?_
  have hR := (told_ints hR).1
  rw [hl] at hR
  refine Cd.rs [0, 1] fun K hK => ?_
  simp (maxSteps := 2000000) (disch := first | omega | (simp only [E4, *] <;> omega) | fail) only [↓E0, E1, env0, envN, evOps, evOp, evQs, evQ, evV, setD, pureOp, ev, upd, updL, hav, ↓reduceIte, Zj, Zk, Nat.reduceAdd, Nat.reduceLT, Nat.reduceEqDiff, Nat.reduceMul, Nat.reduceLeDiff, if_true, Zn, reduceCtorEq, ZA, eq_self, Int.reduceLE, Int.reduceLT, Int.reduceToNat, ne_eq, Nat.reduceSub]
  repeat refine And.intro (by omega) ?_
  intro g
  simp only [List.map_cons, List.map_nil, updL, upd, Nat.reduceEqDiff, if_true, if_false, ↓reduceIte]
  refine hK _ _ ?_; clear hK K
  refine Cd.rs [0, 1, 5] fun K hK => ?_
  simp (maxSteps := 2000000) (disch := first | omega | (simp only [E4, *] <;> omega) | fail) only [↓E0, E1, env0, envN, evOps, evOp, evQs, evQ, evV, setD, pureOp, ev, upd, updL, hav, ↓reduceIte, Zj, Zk, Nat.reduceAdd, Nat.reduceLT, Nat.reduceEqDiff, Nat.reduceMul, Nat.reduceLeDiff, if_true, Zn, reduceCtorEq, ZA, eq_self, Int.reduceLE, Int.reduceLT, Int.reduceToNat, ne_eq, Nat.reduceSub]
  repeat refine And.intro (by omega) ?_
  intro g
  simp only [List.map_cons, List.map_nil, updL, upd, Nat.reduceEqDiff, if_true, if_false, ↓reduceIte]
  refine hK _ _ ?_; clear hK K
  refine Cd.seq ?_
  refine Cd.rs [1, 5, 8, 9, 10] fun K hK => ?_
  simp (maxSteps := 2000000) (disch := first | omega | (simp only [E4, *] <;> omega) | fail) only [↓E0, E1, env0, envN, evOps, evOp, evQs, evQ, evV, setD, pureOp, ev, upd, updL, lenV, hav, ↓reduceIte, Zj, Zk, Nat.reduceAdd, Nat.reduceLT, Nat.reduceEqDiff, Nat.reduceMul, Nat.reduceLeDiff, if_true, Zn, reduceCtorEq, ZA, eq_self, Int.reduceLE, Int.reduceLT, Int.reduceToNat, ne_eq, Nat.reduceSub, Tslce52]
  repeat refine And.intro (by omega) ?_
  intro g
  simp only [List.map_cons, List.map_nil, updL, upd, Nat.reduceEqDiff, if_true, if_false, ↓reduceIte]
  refine hK _ _ ?_; clear hK K
  refine Cd.block ?_
  refine Cd.loop (fun m ρ M => ∃ g k, k + m = 8 ∧ FitTo x n k ∧ ρ = updL [(1, .int .i64 (n : Int)), (5, .int .i64 (maskL x n k : Int)), (8, .slice (some ⟨b, o, none⟩) 8 cap), (9, .int .i64 8), (10, .int .i64 (k : Int))] g ∧ M = []) 8
    ⟨_, 0, Nat.zero_add _, (fun _ h => absurd h (Nat.not_lt_zero _)), by rw [maskL_zero]; rfl, rfl⟩ ?_
  rintro m ρ M ⟨g, k, hk, hd, rfl, rfl⟩
  refine Cd.rs [1, 5, 8, 9, 10, 11] fun K hK => ?_
  simp (maxSteps := 2000000) (disch := first | omega | (simp only [E4, *] <;> omega) | fail) only [↓E0, E1, env0, envN, evOps, evOp, evQs, evQ, evV, setD, pureOp, ev, upd, updL, binW, eqOp, binV, intOp, shOp, boolOp, hav, eqL, SameI, strOp, ↓reduceIte, Zj, Zk, Nat.reduceAdd, Nat.reduceLT, Nat.reduceEqDiff, Nat.reduceMul, Nat.reduceLeDiff, if_true, Zn, reduceCtorEq, ZA, eq_self, Int.reduceLE, Int.reduceLT, Int.reduceToNat, ne_eq, Nat.reduceSub]
  repeat refine And.intro (by omega) ?_
  intro g
  simp only [List.map_cons, List.map_nil, updL, upd, Nat.reduceEqDiff, if_true, if_false, ↓reduceIte]
  refine hK _ _ ?_; clear hK K
  refine Cd.seq ?_
  refine Cd.condd rfl (fun h1 => ?_) (fun h1 => ?_)
  · have hb := bytes_get hx (i := k) (by omega)
    refine Cd.skip ?_
    refine thenN ?_
    refine Cd.seq ?_
    refine Cd.block ?_
    refine Cd.rs [1, 5, 6, 7, 8, 9, 10] fun K hK => ?_
    simp (maxSteps := 2000000) (disch := first | omega | (simp only [E4, hR, *] <;> omega) | fail) only [↓E0, E1, env0, envN, evOps, evOp, evQs, evQ, evV, setD, pureOp, ev, upd, updL, indexAddrV, cellAt, cellsAt, findB, hav, ↓reduceIte, Zj, Zk, Nat.reduceAdd, Nat.reduceLT, Nat.reduceEqDiff, Nat.reduceMul, Nat.reduceLeDiff, if_true, Zn, reduceCtorEq, ZA, eq_self, Int.reduceLE, Int.reduceLT, Int.reduceToNat, ne_eq, Nat.reduceSub, Tld5, Tslc52, hR]
    repeat refine And.intro (by omega) ?_
    repeat refine And.intro (by omega) ?_
    intro g
    simp only [List.map_cons, List.map_nil, updL, upd, Nat.reduceEqDiff, if_true, if_false, ↓reduceIte]
    refine hK _ _ ?_; clear hK K
    refine Cd.seq ?_
    refine Cd.rs [1, 5, 6, 7, 8, 9, 10, 27] fun K hK => ?_
    have J : ∀ g b', (b' = false ↔ x.getD k 0 < n ∧ (n ≤ k → x.getD k 0 = 0)) → K (updL [(1, .int .i64 (n : Int)), (5, .int .i64 (maskL x n k : Int)), (6, .int .i64 (k : Int)), (7, .int .u8 (x.getD k 0)), (8, .slice (some ⟨b, o, none⟩) 8 cap), (9, .int .i64 8), (10, .int .i64 (k : Int)), (27, .bool b')] g) [] := by
      intro g b' hb'
      refine hK _ _ ?_
      clear hK K
      refine Cd.cond rfl (fun h3 => ?_) (fun h3 => ?_)
      · refine Cd.rs [4] fun K hK => ?_
        simp (maxSteps := 2000000) (disch := first | omega | (simp only [E4, *] <;> omega) | fail) only [↓E0, E1, env0, envN, evOps, evOp, evQs, evQ, evV, setD, pureOp, ev, upd, updL, hav, ↓reduceIte, Zj, Zk, Nat.reduceAdd, Nat.reduceLT, Nat.reduceEqDiff, Nat.reduceMul, Nat.reduceLeDiff, if_true, Zn, reduceCtorEq, ZA, eq_self, Int.reduceLE, Int.reduceLT, Int.reduceToNat, ne_eq, Nat.reduceSub]
        repeat refine And.intro (by omega) ?_
        intro g
        simp only [List.map_cons, List.map_nil, updL, upd, Nat.reduceEqDiff, if_true, if_false, ↓reduceIte]
        refine hK _ _ ?_; clear hK K
        refine Cd.ret (thenR (inBR (thenR (roundR (inBR (thenR ?_))))))
        simp (maxSteps := 2000000) (disch := first | omega | (simp only [E4, *] <;> omega) | fail) only [↓E0, E1, evP, evPlan, env0, envN, evOps, evOp, evQs, evQ, evV, setD, pureOp, ev, upd, updL, gate, binW, eqOp, binV, intOp, shOp, boolOp, unV, convV, nilV, fieldAddrV, indexAddrV, extractV, cellAt, cellsAt, findB, setB, fillL, buildV, Value.cells, lenV, minV, maxV, hav, sliceV, loV, hiV, bslQ, mksQ, appQ, partsOk, partsCells, delB, eqL, SameI, strOp, apzQ, cvtQ, capV, ↓reduceIte, Zj, Zk, Nat.reduceAdd, Nat.reduceLT, Nat.reduceEqDiff, Nat.reduceMul, Nat.reduceLeDiff, if_true, Zn, reduceCtorEq, ZA, eq_self, Int.reduceLE, Int.reduceLT, Int.reduceToNat, ne_eq, Nat.reduceSub]
        refine congrArg Value.bool (decide_eq_false fun h => ?_).symm
        have : b' = false := hb'.2 (by
          have := (perm_iff hn).1 h k (by omega)
          by_cases hkn : k < n
          · exact ⟨(this.1 hkn).1, fun h => absurd h (by omega)⟩
          · exact ⟨by rw [this.2 (by omega)]; omega, this.2⟩)
        rw [this] at h3; cases h3
      · obtain ⟨h4, h5⟩ := hb'.1 h3
        have hd' : FitTo x n (k + 1) := fun i hi => by
          rcases Nat.lt_succ_iff_lt_or_eq.1 hi with h6 | rfl
          · exact hd i h6
          · exact ⟨h4, h5⟩
        refine Cd.skip ?_
        refine thenN ?_
        refine Cd.rs [1, 5, 7, 8, 9, 10, 30] fun K hK => ?_
        simp (maxSteps := 2000000) (disch := first | omega | (simp only [E4, *] <;> omega) | fail) only [↓E0, E1, env0, envN, evOps, evOp, evQs, evQ, evV, setD, pureOp, ev, upd, updL, binW, eqOp, binV, intOp, shOp, boolOp, hav, eqL, SameI, strOp, ↓reduceIte, Zj, Zk, Nat.reduceAdd, Nat.reduceLT, Nat.reduceEqDiff, Nat.reduceMul, Nat.reduceLeDiff, if_true, Zn, reduceCtorEq, ZA, eq_self, Int.reduceLE, Int.reduceLT, Int.reduceToNat, ne_eq, Nat.reduceSub]
        repeat refine And.intro (by omega) ?_
        intro g
        simp only [List.map_cons, List.map_nil, updL, upd, Nat.reduceEqDiff, if_true, if_false, ↓reduceIte]
        refine hK _ _ ?_; clear hK K
        refine Cd.condd rfl (fun h3 => ?_) (fun h3 => ?_)
        · obtain ⟨j, hj⟩ : ∃ j : Nat, x.getD k 0 = (j : Int) := ⟨(x.getD k 0).toNat, by omega⟩
          have hm : maskL x n k < 2 ^ n := mask_lt fun i hi => by have := (hd i (by omega)).1; omega
          have hm2 : 2 ^ n ≤ 2 ^ 8 := Nat.pow_le_pow_right (by omega) hn
          have hj2 : 2 ^ j ≤ 2 ^ 8 := Nat.pow_le_pow_right (by omega) (by omega)
          refine Cd.rr [1, 5, 8, 9, 10] fun K hK => ?_
          simp (maxSteps := 2000000) (disch := first | omega | (simp only [E4, hj, shOp, shl_i64, *] <;> omega) | fail) only [↓E0, E1, env0, envN, evOps, evOp, evQs, evQ, evV, setD, pureOp, ev, upd, updL, binW, eqOp, binV, intOp, shOp, boolOp, hav, eqL, SameI, strOp, ↓reduceIte, Zj, Zk, Nat.reduceAdd, Nat.reduceLT, Nat.reduceEqDiff, Nat.reduceMul, Nat.reduceLeDiff, if_true, Zn, reduceCtorEq, ZA, eq_self, Int.reduceLE, Int.reduceLT, Int.reduceToNat, ne_eq, Nat.reduceSub, hj, shOp, shl_i64]
          repeat refine And.intro (by omega) ?_
          rw [or_i64 (by omega) (by omega)]
          have e : maskL x n k ||| 2 ^ j = maskL x n (k + 1) := by rw [maskL_succ (by omega), hj]; rfl
          rw [e]
          repeat refine And.intro (by omega) ?_
          intro g
          simp only [List.map_cons, List.map_nil, updL, upd, Nat.reduceEqDiff, if_true, if_false, ↓reduceIte]
          refine hK _ _ ?_; clear hK K
          refine inBN ?_
          refine thenN ?_
          refine Cd.rr [1, 5, 8, 9, 10] fun K hK => ?_
          simp (maxSteps := 2000000) (disch := first | omega | (simp only [E4, *] <;> omega) | fail) only [↓E0, E1, env0, envN, evOps, evOp, evQs, evQ, evV, setD, pureOp, ev, upd, updL, binW, eqOp, binV, intOp, shOp, boolOp, hav, eqL, SameI, strOp, ↓reduceIte, Zj, Zk, Nat.reduceAdd, Nat.reduceLT, Nat.reduceEqDiff, Nat.reduceMul, Nat.reduceLeDiff, if_true, Zn, reduceCtorEq, ZA, eq_self, Int.reduceLE, Int.reduceLT, Int.reduceToNat, ne_eq, Nat.reduceSub]
          repeat refine And.intro (by omega) ?_
          intro g
          simp only [List.map_cons, List.map_nil, updL, upd, Nat.reduceEqDiff, if_true, if_false, ↓reduceIte]
          refine hK _ _ ?_; clear hK K
          exact roundN (m := m - 1) (by omega) ⟨_, k + 1, by omega, hd', rfl, rfl⟩
        · refine Cd.skip ?_
          refine inBN ?_
          refine thenN ?_
          refine Cd.rr [1, 5, 8, 9, 10] fun K hK => ?_
          simp (maxSteps := 2000000) (disch := first | omega | (simp only [E4, *] <;> omega) | fail) only [↓E0, E1, env0, envN, evOps, evOp, evQs, evQ, evV, setD, pureOp, ev, upd, updL, binW, eqOp, binV, intOp, shOp, boolOp, hav, eqL, SameI, strOp, ↓reduceIte, Zj, Zk, Nat.reduceAdd, Nat.reduceLT, Nat.reduceEqDiff, Nat.reduceMul, Nat.reduceLeDiff, if_true, Zn, reduceCtorEq, ZA, eq_self, Int.reduceLE, Int.reduceLT, Int.reduceToNat, ne_eq, Nat.reduceSub]
          repeat refine And.intro (by omega) ?_
          intro g
          simp only [List.map_cons, List.map_nil, updL, upd, Nat.reduceEqDiff, if_true, if_false, ↓reduceIte]
          refine hK _ _ ?_; clear hK K
          exact roundN (m := m - 1) (by omega) ⟨_, k + 1, by omega, hd', by rw [maskL_over (by omega)]; rfl, rfl⟩
    clear hK
    simp (maxSteps := 2000000) (disch := first | omega | (simp only [E4, *] <;> omega) | fail) only [↓E0, E1, env0, envN, evOps, evOp, evQs, evQ, evV, setD, pureOp, ev, upd, updL, gate, binW, eqOp, binV, intOp, shOp, boolOp, convV, hav, eqL, SameI, strOp, cvtQ, ↓reduceIte, Zj, Zk, Nat.reduceAdd, Nat.reduceLT, Nat.reduceEqDiff, Nat.reduceMul, Nat.reduceLeDiff, if_true, Zn, reduceCtorEq, ZA, eq_self, Int.reduceLE, Int.reduceLT, Int.reduceToNat, ne_eq, Nat.reduceSub, Tint3, Tpar5]
    refine ⟨fun h3 => ?_, fun h3 => ?_⟩
    · skip
      refine ⟨fun h4 => ?_, fun h4 => ?_⟩
      · repeat refine And.intro (by omega) ?_
        intro g
        simp only [List.map_cons, List.map_nil, updL, upd, Nat.reduceEqDiff, if_true, if_false, ↓reduceIte]
        refine J _ _ ?_
        simp at h4 ⊢
        omega
      · repeat refine And.intro (by omega) ?_
        intro g
        simp only [List.map_cons, List.map_nil, updL, upd, Nat.reduceEqDiff, if_true, if_false, ↓reduceIte]
        refine J _ _ ?_
        simp at h4 ⊢
        omega
    · have h3 := of_decide_eq_false h3
      repeat refine And.intro (by omega) ?_
      intro g
      simp only [List.map_cons, List.map_nil, updL, upd, Nat.reduceEqDiff, if_true, if_false, ↓reduceIte]
      refine J _ _ ?_
      simp
      omega
  · refine Cd.exit (thenX (roundX (inBX ?_)))
    refine thenN ?_
    obtain rfl : k = 8 := by omega
    refine Cd.rs [4] fun K hK => ?_
    have hj2 : 2 ^ n ≤ 2 ^ 8 := Nat.pow_le_pow_right (by omega) hn
    simp (maxSteps := 2000000) (disch := first | omega | (simp only [E4, shOp, shl_i64, *] <;> omega) | fail) only [↓E0, E1, env0, envN, evOps, evOp, evQs, evQ, evV, setD, pureOp, ev, upd, updL, binW, eqOp, binV, intOp, shOp, boolOp, hav, eqL, SameI, strOp, ↓reduceIte, Zj, Zk, Nat.reduceAdd, Nat.reduceLT, Nat.reduceEqDiff, Nat.reduceMul, Nat.reduceLeDiff, if_true, Zn, reduceCtorEq, ZA, eq_self, Int.reduceLE, Int.reduceLT, Int.reduceToNat, ne_eq, Nat.reduceSub, shOp, shl_i64]
    repeat refine And.intro (by omega) ?_
    repeat refine And.intro (by omega) ?_
    intro g
    simp only [List.map_cons, List.map_nil, updL, upd, Nat.reduceEqDiff, if_true, if_false, ↓reduceIte]
    refine hK _ _ ?_; clear hK K
    refine Cd.ret ?_
    simp (maxSteps := 2000000) (disch := first | omega | (simp only [E4, *] <;> omega) | fail) only [↓E0, E1, evP, evPlan, env0, envN, evOps, evOp, evQs, evQ, evV, setD, pureOp, ev, upd, updL, gate, binW, eqOp, binV, intOp, shOp, boolOp, unV, convV, nilV, fieldAddrV, indexAddrV, extractV, cellAt, cellsAt, findB, setB, fillL, buildV, Value.cells, lenV, minV, maxV, hav, sliceV, loV, hiV, bslQ, mksQ, appQ, partsOk, partsCells, delB, eqL, SameI, strOp, apzQ, cvtQ, capV, ↓reduceIte, Zj, Zk, Nat.reduceAdd, Nat.reduceLT, Nat.reduceEqDiff, Nat.reduceMul, Nat.reduceLeDiff, if_true, Zn, reduceCtorEq, ZA, eq_self, Int.reduceLE, Int.reduceLT, Int.reduceToNat, ne_eq, Nat.reduceSub]
    exact congrArg Value.bool (mask_end hx hn hd)

theorem IsGrid_c (s : Int) (x o : List Int) (hx : Bytes8 x) (ho : Bytes8 o) : Gives Tryd.prog 13 #[.agg (gc s x o).toArray] (.bool (gridB s x o)) := by
  have hl := hx.len
  have hm := ho.len
  refine Gives.of fun w => ?_
  refine acall_of (N := 39) (c := _) (rs := [.tmp 2]) (args := [_]) Tryd.func13 rfl (by decide) rfl rfl (Nat.le_of_ble_eq_true rfl) ?_
  refine Cd.rs [1] fun K hK => ?_
  simp (maxSteps := 2000000) (disch := first | omega | (simp only [E4, *] <;> omega) | fail) only [↓E0, E1, env0, envN, evOps, evOp, evQs, evQ, evV, setD, pureOp, ev, upd, updL, Value.cells, hav, ↓reduceIte, Zj, Zk, Nat.reduceAdd, Nat.reduceLT, Nat.reduceEqDiff, Nat.reduceMul, Nat.reduceLeDiff, if_true, Zn, reduceCtorEq, ZA, eq_self, Int.reduceLE, Int.reduceLT, Int.reduceToNat, ne_eq, Nat.reduceSub]
  intro b1 hb1
  repeat refine And.intro (by omega) ?_
  intro g
  simp only [List.map_cons, List.map_nil, updL, upd, Nat.reduceEqDiff, if_true, if_false, ↓reduceIte]
  refine hK _ _ ?_; clear hK K
  refine Cd.seq ?_
  refine Cd.qs [1, 23] fol (by kernel_rfl) fun K hK => ?_
  have J : ∀ g b, (b = false ↔ (2 ≤ s ∧ s ≤ 8) ∧ IsPerm x s.toNat ∧ IsPerm o s.toNat) → K (updL [(1, .pointer (some ⟨b1, 0, none⟩)), (23, .bool b)] g) := by
    intro g b hb
    refine hK _ ?_
    clear hK K
    refine Cd.cond rfl (fun h1 => ?_) (fun h1 => ?_)
    · refine Cd.rs [2] fun K hK => ?_
      simp (maxSteps := 2000000) (disch := first | omega | (simp only [E4, *] <;> omega) | fail) only [↓E0, E1, env0, envN, evOps, evOp, evQs, evQ, evV, setD, pureOp, ev, upd, updL, hav, ↓reduceIte, Zj, Zk, Nat.reduceAdd, Nat.reduceLT, Nat.reduceEqDiff, Nat.reduceMul, Nat.reduceLeDiff, if_true, Zn, reduceCtorEq, ZA, eq_self, Int.reduceLE, Int.reduceLT, Int.reduceToNat, ne_eq, Nat.reduceSub]
      repeat refine And.intro (by omega) ?_
      intro g
      simp only [List.map_cons, List.map_nil, updL, upd, Nat.reduceEqDiff, if_true, if_false, ↓reduceIte]
      refine hK _ _ ?_; clear hK K
      refine Cd.ret (thenR ?_)
      simp (maxSteps := 2000000) (disch := first | omega | (simp only [E4, *] <;> omega) | fail) only [↓E0, E1, evP, evPlan, env0, envN, evOps, evOp, evQs, evQ, evV, setD, pureOp, ev, upd, updL, gate, binW, eqOp, binV, intOp, shOp, boolOp, unV, convV, nilV, fieldAddrV, indexAddrV, extractV, cellAt, cellsAt, findB, setB, fillL, buildV, Value.cells, lenV, minV, maxV, hav, sliceV, loV, hiV, bslQ, mksQ, appQ, partsOk, partsCells, delB, eqL, SameI, strOp, apzQ, cvtQ, capV, ↓reduceIte, Zj, Zk, Nat.reduceAdd, Nat.reduceLT, Nat.reduceEqDiff, Nat.reduceMul, Nat.reduceLeDiff, if_true, Zn, reduceCtorEq, ZA, eq_self, Int.reduceLE, Int.reduceLT, Int.reduceToNat, ne_eq, Nat.reduceSub]
      exact congrArg Value.bool (gridB_false fun h => by rw [hb.2 ⟨⟨h.1, h.2.1⟩, h.2.2.1, h.2.2.2.1⟩] at h1; cases h1).symm
    · obtain ⟨hs, hpx, hpo⟩ := hb.1 h1
      obtain ⟨n, rfl⟩ : ∃ n : Nat, s = (n : Int) := ⟨s.toNat, by omega⟩
      rw [Int.toNat_natCast] at hpx hpo
      refine Cd.skip ?_
      refine thenN ?_
      refine Cd.seq ?_
      refine Cd.rs [1, 25, 26] fun K hK => ?_
      simp (maxSteps := 2000000) (disch := first | omega | (simp only [E4, hl, hm, *] <;> omega) | fail) only [↓E0, E1, env0, envN, evOps, evOp, evQs, evQ, evV, setD, pureOp, ev, upd, updL, cellAt, cellsAt, findB, setB, hav, ↓reduceIte, Zj, Zk, Nat.reduceAdd, Nat.reduceLT, Nat.reduceEqDiff, Nat.reduceMul, Nat.reduceLeDiff, if_true, Zn, reduceCtorEq, ZA, eq_self, Int.reduceLE, Int.reduceLT, Int.reduceToNat, ne_eq, Nat.reduceSub, Tld24, hl, hm]
      refine callK_gives (n_c _ x o hl hm) ?_
      simp (maxSteps := 2000000) (disch := first | omega | (simp only [E4, *] <;> omega) | fail) only [↓E0, E1, env0, envN, evOps, evOp, evQs, evQ, evV, setD, pureOp, ev, upd, updL, cellAt, cellsAt, findB, setB, hav, ↓reduceIte, Zj, Zk, Nat.reduceAdd, Nat.reduceLT, Nat.reduceEqDiff, Nat.reduceMul, Nat.reduceLeDiff, if_true, Zn, reduceCtorEq, ZA, eq_self, Int.reduceLE, Int.reduceLT, Int.reduceToNat, ne_eq, Nat.reduceSub, Tld24]
      repeat refine And.intro (by omega) ?_
      intro g
      simp only [List.map_cons, List.map_nil, updL, upd, Nat.reduceEqDiff, if_true, if_false, ↓reduceIte]
      refine hK _ _ ?_; clear hK K
      refine Cd.block ?_
      refine Cd.loop (fun m ρ M => ∃ g k, k + m = n ∧ (∀ i, i < k → x.getD i 0 ≠ o.getD i 0) ∧ ρ = updL [(1, .pointer (some ⟨b1, 0, none⟩)), (25, .int .i64 (n : Int)), (26, .int .i64 (k : Int))] g ∧ M = [(b1, gc (n : Int) x o)]) n
        ⟨_, 0, Nat.zero_add _, (fun _ h => absurd h (Nat.not_lt_zero _)), rfl, rfl⟩ ?_
      rintro m ρ M ⟨g, k, hk, hd, rfl, rfl⟩
      refine Cd.rs [1, 25, 26, 27] fun K hK => ?_
      simp (maxSteps := 2000000) (disch := first | omega | (simp only [E4, hl, hm, *] <;> omega) | fail) only [↓E0, E1, env0, envN, evOps, evOp, evQs, evQ, evV, setD, pureOp, ev, upd, updL, binW, eqOp, binV, intOp, shOp, boolOp, hav, eqL, SameI, strOp, ↓reduceIte, Zj, Zk, Nat.reduceAdd, Nat.reduceLT, Nat.reduceEqDiff, Nat.reduceMul, Nat.reduceLeDiff, if_true, Zn, reduceCtorEq, ZA, eq_self, Int.reduceLE, Int.reduceLT, Int.reduceToNat, ne_eq, Nat.reduceSub, hl, hm]
      repeat refine And.intro (by omega) ?_
      intro g
      simp only [List.map_cons, List.map_nil, updL, upd, Nat.reduceEqDiff, if_true, if_false, ↓reduceIte]
      refine hK _ _ ?_; clear hK K
      refine Cd.seq ?_
      refine Cd.condd rfl (fun h2 => ?_) (fun h2 => ?_)
      · refine Cd.skip ?_
        refine thenN ?_
        refine Cd.seq ?_
        refine Cd.block ?_
        refine Cd.rs [1, 3, 25, 26] fun K hK => ?_
        simp (maxSteps := 2000000) (disch := first | omega | (simp only [E4, *] <;> omega) | fail) only [↓E0, E1, env0, envN, evOps, evOp, evQs, evQ, evV, setD, pureOp, ev, upd, updL, hav, ↓reduceIte, Zj, Zk, Nat.reduceAdd, Nat.reduceLT, Nat.reduceEqDiff, Nat.reduceMul, Nat.reduceLeDiff, if_true, Zn, reduceCtorEq, ZA, eq_self, Int.reduceLE, Int.reduceLT, Int.reduceToNat, ne_eq, Nat.reduceSub]
        repeat refine And.intro (by omega) ?_
        intro g
        simp only [List.map_cons, List.map_nil, updL, upd, Nat.reduceEqDiff, if_true, if_false, ↓reduceIte]
        refine hK _ _ ?_; clear hK K
        refine Cd.qs [1, 25, 26, 37] fol (by kernel_rfl) fun K hK => ?_
        simp (maxSteps := 2000000) (disch := first | omega | (simp only [E4, hl, hm, *] <;> omega) | fail) only [↓E0, E1, evPlan, env0, envN, evOps, evOp, evQs, evQ, evV, setD, pureOp, ev, upd, updL, binW, eqOp, binV, intOp, shOp, boolOp, fieldAddrV, indexAddrV, cellAt, cellsAt, findB, hav, eqL, SameI, strOp, ↓reduceIte, Zj, Zk, Nat.reduceAdd, Nat.reduceLT, Nat.reduceEqDiff, Nat.reduceMul, Nat.reduceLeDiff, if_true, Zn, reduceCtorEq, ZA, eq_self, Int.reduceLE, Int.reduceLT, Int.reduceToNat, ne_eq, Nat.reduceSub, Tarr22, Tfld24_1, Tfld24_2, Tld5, hl, hm]
        repeat refine And.intro (by omega) ?_
        repeat refine And.intro (by omega) ?_
        intro g
        simp only [List.map_cons, List.map_nil, updL, upd, Nat.reduceEqDiff, if_true, if_false, ↓reduceIte]
        refine hK _ ?_; clear hK K
        refine Cd.cond rfl (fun h3 => ?_) (fun h3 => ?_)
        · refine Cd.rs [2] fun K hK => ?_
          simp (maxSteps := 2000000) (disch := first | omega | (simp only [E4, *] <;> omega) | fail) only [↓E0, E1, env0, envN, evOps, evOp, evQs, evQ, evV, setD, pureOp, ev, upd, updL, hav, ↓reduceIte, Zj, Zk, Nat.reduceAdd, Nat.reduceLT, Nat.reduceEqDiff, Nat.reduceMul, Nat.reduceLeDiff, if_true, Zn, reduceCtorEq, ZA, eq_self, Int.reduceLE, Int.reduceLT, Int.reduceToNat, ne_eq, Nat.reduceSub]
          repeat refine And.intro (by omega) ?_
          intro g
          simp only [List.map_cons, List.map_nil, updL, upd, Nat.reduceEqDiff, if_true, if_false, ↓reduceIte]
          refine hK _ _ ?_; clear hK K
          refine Cd.ret (inBR (thenR (roundR (inBR (thenR ?_)))))
          simp (maxSteps := 2000000) (disch := first | omega | (simp only [E4, *] <;> omega) | fail) only [↓E0, E1, evP, evPlan, env0, envN, evOps, evOp, evQs, evQ, evV, setD, pureOp, ev, upd, updL, gate, binW, eqOp, binV, intOp, shOp, boolOp, unV, convV, nilV, fieldAddrV, indexAddrV, extractV, cellAt, cellsAt, findB, setB, fillL, buildV, Value.cells, lenV, minV, maxV, hav, sliceV, loV, hiV, bslQ, mksQ, appQ, partsOk, partsCells, delB, eqL, SameI, strOp, apzQ, cvtQ, capV, ↓reduceIte, Zj, Zk, Nat.reduceAdd, Nat.reduceLT, Nat.reduceEqDiff, Nat.reduceMul, Nat.reduceLeDiff, if_true, Zn, reduceCtorEq, ZA, eq_self, Int.reduceLE, Int.reduceLT, Int.reduceToNat, ne_eq, Nat.reduceSub]
          exact congrArg Value.bool (gridB_false fun h => h.2.2.2.2 k (by omega) (by simpa using h3)).symm
        · refine Cd.skip ?_
          refine inBN ?_
          refine thenN ?_
          refine Cd.rr [1, 25, 26] fun K hK => ?_
          simp (maxSteps := 2000000) (disch := first | omega | (simp only [E4, *] <;> omega) | fail) only [↓E0, E1, env0, envN, evOps, evOp, evQs, evQ, evV, setD, pureOp, ev, upd, updL, binW, eqOp, binV, intOp, shOp, boolOp, hav, eqL, SameI, strOp, ↓reduceIte, Zj, Zk, Nat.reduceAdd, Nat.reduceLT, Nat.reduceEqDiff, Nat.reduceMul, Nat.reduceLeDiff, if_true, Zn, reduceCtorEq, ZA, eq_self, Int.reduceLE, Int.reduceLT, Int.reduceToNat, ne_eq, Nat.reduceSub]
          repeat refine And.intro (by omega) ?_
          intro g
          simp only [List.map_cons, List.map_nil, updL, upd, Nat.reduceEqDiff, if_true, if_false, ↓reduceIte]
          refine hK _ _ ?_; clear hK K
          exact roundN (m := m - 1) (by omega) ⟨_, k + 1, by omega, fun i hi => by
            rcases Nat.lt_succ_iff_lt_or_eq.1 hi with h4 | rfl
            · exact hd i h4
            · simpa using h3, rfl, rfl⟩
      · refine Cd.exit (thenX (roundX (inBX ?_)))
        refine thenN ?_
        refine Cd.rs [2] fun K hK => ?_
        simp (maxSteps := 2000000) (disch := first | omega | (simp only [E4, *] <;> omega) | fail) only [↓E0, E1, env0, envN, evOps, evOp, evQs, evQ, evV, setD, pureOp, ev, upd, updL, hav, ↓reduceIte, Zj, Zk, Nat.reduceAdd, Nat.reduceLT, Nat.reduceEqDiff, Nat.reduceMul, Nat.reduceLeDiff, if_true, Zn, reduceCtorEq, ZA, eq_self, Int.reduceLE, Int.reduceLT, Int.reduceToNat, ne_eq, Nat.reduceSub]
        repeat refine And.intro (by omega) ?_
        intro g
        simp only [List.map_cons, List.map_nil, updL, upd, Nat.reduceEqDiff, if_true, if_false, ↓reduceIte]
        refine hK _ _ ?_; clear hK K
        refine Cd.ret ?_
        simp (maxSteps := 2000000) (disch := first | omega | (simp only [E4, *] <;> omega) | fail) only [↓E0, E1, evP, evPlan, env0, envN, evOps, evOp, evQs, evQ, evV, setD, pureOp, ev, upd, updL, gate, binW, eqOp, binV, intOp, shOp, boolOp, unV, convV, nilV, fieldAddrV, indexAddrV, extractV, cellAt, cellsAt, findB, setB, fillL, buildV, Value.cells, lenV, minV, maxV, hav, sliceV, loV, hiV, bslQ, mksQ, appQ, partsOk, partsCells, delB, eqL, SameI, strOp, apzQ, cvtQ, capV, ↓reduceIte, Zj, Zk, Nat.reduceAdd, Nat.reduceLT, Nat.reduceEqDiff, Nat.reduceMul, Nat.reduceLeDiff, if_true, Zn, reduceCtorEq, ZA, eq_self, Int.reduceLE, Int.reduceLT, Int.reduceToNat, ne_eq, Nat.reduceSub]
        exact congrArg Value.bool (gridB_true ⟨hs.1, hs.2, hpx, hpo, fun i hi => hd i (by omega)⟩).symm
  clear hK
  simp (maxSteps := 2000000) (disch := first | omega | (simp only [E4, hl, hm, *] <;> omega) | fail) only [↓E0, E1, evPlan, env0, envN, evOps, evOp, evQs, evQ, evV, setD, pureOp, ev, upd, updL, gate, unV, fieldAddrV, cellAt, cellsAt, findB, setB, hav, sliceV, loV, hiV, ↓reduceIte, Zj, Zk, Nat.reduceAdd, Nat.reduceLT, Nat.reduceEqDiff, Nat.reduceMul, Nat.reduceLeDiff, if_true, Zn, reduceCtorEq, ZA, eq_self, Int.reduceLE, Int.reduceLT, Int.reduceToNat, ne_eq, Nat.reduceSub, Tarr22, Tfld24_0, Tfld24_1, Tfld24_2, Tld2, Tld24, hl, hm]
  refine callQ_gives (within_c _ _ _) ?_
  simp (maxSteps := 2000000) (disch := first | omega | (simp only [E4, hl, hm, *] <;> omega) | fail) only [↓E0, E1, evPlan, env0, envN, evOps, evOp, evQs, evQ, evV, setD, pureOp, ev, upd, updL, gate, unV, fieldAddrV, cellAt, cellsAt, findB, setB, hav, sliceV, loV, hiV, ↓reduceIte, Zj, Zk, Nat.reduceAdd, Nat.reduceLT, Nat.reduceEqDiff, Nat.reduceMul, Nat.reduceLeDiff, if_true, Zn, reduceCtorEq, ZA, eq_self, Int.reduceLE, Int.reduceLT, Int.reduceToNat, ne_eq, Nat.reduceSub, Tarr22, Tfld24_0, Tfld24_1, Tfld24_2, Tld2, Tld24, hl, hm]
  refine ⟨fun h1 => ?_, fun h1 => ?_⟩
  · have hs : 2 ≤ s ∧ s ≤ 8 := by simpa using h1
    obtain ⟨n, rfl⟩ : ∃ n : Nat, s = (n : Int) := ⟨s.toNat, by omega⟩
    refine callQ_gives (n_c _ x o hl hm) ?_
    simp (maxSteps := 2000000) (disch := first | omega | (simp only [E4, *] <;> omega) | fail) only [↓E0, E1, evPlan, env0, envN, evOps, evOp, evQs, evQ, evV, setD, pureOp, ev, upd, updL, gate, unV, fieldAddrV, cellAt, cellsAt, findB, setB, hav, sliceV, loV, hiV, ↓reduceIte, Zj, Zk, Nat.reduceAdd, Nat.reduceLT, Nat.reduceEqDiff, Nat.reduceMul, Nat.reduceLeDiff, if_true, Zn, reduceCtorEq, ZA, eq_self, Int.reduceLE, Int.reduceLT, Int.reduceToNat, ne_eq, Nat.reduceSub, Tarr22, Tfld24_0, Tfld24_1, Tfld24_2, Tld2, Tld24]
    refine callQ_reads (isOrder_c b1 1 8 x n hx (by omega) (by omega)) (.cons (.sub (cs := gc (n : Int) x o) (by simp [findB]) (by rw [ints_length, hl]; exact sub_gc_x hl)) .nil) ?_
    simp (maxSteps := 2000000) (disch := first | omega | (simp only [E4, hl, hm, *] <;> omega) | fail) only [↓E0, E1, evPlan, env0, envN, evOps, evOp, evQs, evQ, evV, setD, pureOp, ev, upd, updL, gate, unV, fieldAddrV, cellAt, cellsAt, findB, setB, hav, sliceV, loV, hiV, ↓reduceIte, Zj, Zk, Nat.reduceAdd, Nat.reduceLT, Nat.reduceEqDiff, Nat.reduceMul, Nat.reduceLeDiff, if_true, Zn, reduceCtorEq, ZA, eq_self, Int.reduceLE, Int.reduceLT, Int.reduceToNat, ne_eq, Nat.reduceSub, Tarr22, Tfld24_0, Tfld24_1, Tfld24_2, Tld2, Tld24, hl, hm]
    refine ⟨fun h2 => ?_, fun h2 => ?_⟩
    · refine callQ_gives (n_c _ x o hl hm) ?_
      simp (maxSteps := 2000000) (disch := first | omega | (simp only [E4, *] <;> omega) | fail) only [↓E0, E1, evPlan, env0, envN, evOps, evOp, evQs, evQ, evV, setD, pureOp, ev, upd, updL, gate, unV, fieldAddrV, cellAt, cellsAt, findB, setB, hav, sliceV, loV, hiV, ↓reduceIte, Zj, Zk, Nat.reduceAdd, Nat.reduceLT, Nat.reduceEqDiff, Nat.reduceMul, Nat.reduceLeDiff, if_true, Zn, reduceCtorEq, ZA, eq_self, Int.reduceLE, Int.reduceLT, Int.reduceToNat, ne_eq, Nat.reduceSub, Tarr22, Tfld24_0, Tfld24_1, Tfld24_2, Tld2, Tld24]
      refine callQ_reads (isOrder_c b1 9 8 o n ho (by omega) (by omega)) (.cons (.sub (cs := gc (n : Int) x o) (by simp [findB]) (by rw [ints_length, hm]; exact sub_gc_o hl hm)) .nil) ?_
      simp (maxSteps := 2000000) (disch := first | omega | (simp only [E4, hl, hm, *] <;> omega) | fail) only [↓E0, E1, evPlan, env0, envN, evOps, evOp, evQs, evQ, evV, setD, pureOp, ev, upd, updL, gate, unV, fieldAddrV, cellAt, cellsAt, findB, setB, hav, sliceV, loV, hiV, ↓reduceIte, Zj, Zk, Nat.reduceAdd, Nat.reduceLT, Nat.reduceEqDiff, Nat.reduceMul, Nat.reduceLeDiff, if_true, Zn, reduceCtorEq, ZA, eq_self, Int.reduceLE, Int.reduceLT, Int.reduceToNat, ne_eq, Nat.reduceSub, Tarr22, Tfld24_0, Tfld24_1, Tfld24_2, Tld2, Tld24, hl, hm]
      repeat refine And.intro (by omega) ?_
      intro g
      simp only [List.map_cons, List.map_nil, updL, upd, Nat.reduceEqDiff, if_true, if_false, ↓reduceIte]
      refine J g _ ?_
      simp at h2
      simp [h2, hs]
    · repeat refine And.intro (by omega) ?_
      intro g
      simp only [List.map_cons, List.map_nil, updL, upd, Nat.reduceEqDiff, if_true, if_false, ↓reduceIte]
      refine J g _ ?_
      simp at h2
      simp [h2]
  · repeat refine And.intro (by omega) ?_
    intro g
    simp only [List.map_cons, List.map_nil, updL, upd, Nat.reduceEqDiff, if_true, if_false, ↓reduceIte]
    refine J g _ ?_
    simp at h1
    simp
    omega

end Go.Proofs

/-
  What the functions of this part hand back: each as a plain function of its arguments. Conditions: none.
-/
namespace Go.Proofs
open Go.W8
set_option linter.unusedVariables false
set_option linter.unusedSimpArgs false
set_option linter.unusedSectionVars false
set_option maxRecDepth 8000
set_option maxHeartbeats 4000000
/-- The digits of a text, as rows. -/
def dg (s : ByteArray) (k q : Nat) : Int := if q < k then bt s (q : Int) - 48 else 0
def okD (s : ByteArray) : Prop := ∀ q, q < s.size → 48 ≤ bt s (q : Int) ∧ bt s (q : Int) ≤ 55
def rdR (xs os : ByteArray) : Value := if gridB (xs.size : Int) (tab (dg xs xs.size)) (tab (dg os xs.size)) then .tuple #[.agg (gc (xs.size : Int) (tab (dg xs xs.size)) (tab (dg os xs.size))).toArray, .int .i64 0] else .tuple #[.agg (gc 0 z8 z8).toArray, .int .i64 6]
def badR : Value := .tuple #[.agg (gc 0 z8 z8).toArray, .int .i64 6]
theorem dg_set (s : ByteArray) (k : Nat) : (tab (dg s k)).set k (bt s (k : Int) - 48) = tab (dg s (k + 1)) := by
  rw [tab_set]
  refine tab_ext fun q _ => ?_
  unfold dg
  grind
theorem dg_zero (s : ByteArray) : tab (dg s 0) = z8 := by
  rw [tab_zero]
  refine tab_ext fun q _ => ?_
  unfold dg
  rw [if_neg (by omega)]
theorem dg_bytes {s : ByteArray} (h : okD s) {k : Nat} (hk : k ≤ s.size) : Bytes8 (tab (dg s k)) := by
  have key : ∀ q, q < 8 → 0 ≤ (tab (dg s k)).getD q 0 ∧ (tab (dg s k)).getD q 0 < 256 := fun q hq => by
    rw [tab_get hq]
    unfold dg
    split
    · have := h q (by omega); omega
    · omega
  have key2 : ∀ a ∈ tab (dg s k), 0 ≤ a ∧ a < 256 := fun a ha => by
    obtain ⟨q, hq, rfl⟩ := List.mem_iff_getElem.1 ha
    have := key q (by rw [tab_len] at hq; exact hq)
    rwa [List.getD_eq_getElem?_getD, List.getElem?_eq_getElem hq] at this
  exact ⟨tab_len _, fun a ha => (key2 a ha).1, fun a ha => (key2 a ha).2⟩
theorem bt_rng (s : ByteArray) (n : Int) : 0 ≤ bt s n ∧ bt s n < 256 := by
  unfold bt
  have := (s.data.toList.getD n.toNat 0).toNat_lt
  omega
theorem dropWhile_nil {p : UInt8 → Bool} : ∀ l : List UInt8, l.dropWhile p = [] ↔ ∀ b ∈ l, p b = true
  | [] => by simp
  | a :: l => by
    rw [List.dropWhile_cons]
    by_cases h : p a = true
    · rw [if_pos h, dropWhile_nil l]
      simp [h]
    · rw [if_neg h]
      constructor
      · intro e; cases e
      · intro e; exact absurd (e a (by simp)) h
theorem dropWhile_all {p : UInt8 → Bool} (l : List UInt8) (h : ∀ b ∈ l.dropWhile p, p b = true) : l.dropWhile p = [] := by
  induction l with
  | nil => rfl
  | cons a l ih =>
    rw [List.dropWhile_cons] at h ⊢
    by_cases ha : p a = true
    · rw [if_pos ha] at h ⊢
      exact ih h
    · rw [if_neg ha] at h
      exact absurd (h a (by simp)) ha
theorem trimS_nil (l cs : List UInt8) : Lib.trimS l cs = [] ↔ ∀ b ∈ l, cs.contains b = true := by
  unfold Lib.trimS Lib.trimLeftS Lib.trimRightS
  constructor
  · intro h
    have h1 := (dropWhile_nil _).1 h
    have h2 := dropWhile_all (p := (cs.contains ·)) l.reverse fun b hb => h1 b (List.mem_reverse.2 hb)
    have h3 := (dropWhile_nil _).1 h2
    exact fun b hb => h3 b (List.mem_reverse.2 hb)
  · intro h
    have h2 := (dropWhile_nil (p := (cs.contains ·)) l.reverse).2 fun b hb => h b (List.mem_reverse.1 hb)
    rw [h2]; rfl
def digs : ByteArray := ⟨#[48, 49, 50, 51, 52, 53, 54, 55]⟩
def digB (xs os : ByteArray) : Bool := (xs ++ os).data.toList.all fun b => digs.data.toList.contains b
theorem dig_byte (b : UInt8) : digs.data.toList.contains b = true ↔ 48 ≤ b.toNat ∧ b.toNat ≤ 55 := by
  have key : ∀ n, n < 256 → (digs.data.toList.contains (UInt8.ofNat n) = true ↔ 48 ≤ n ∧ n ≤ 55) := by decide +kernel
  have h := key b.toNat b.toNat_lt
  rwa [UInt8.ofNat_toNat] at h
theorem digB_iff {xs os : ByteArray} : digB xs os = true ↔ okD xs ∧ okD os := by
  have key : ∀ s : ByteArray, (∀ b ∈ s.data.toList, digs.data.toList.contains b = true) ↔ okD s := by
    intro s
    constructor
    · intro h q hq
      have hq' : q < s.data.toList.length := by rw [Array.length_toList]; exact hq
      have := (dig_byte _).1 (h _ (List.getElem_mem hq'))
      unfold bt
      rw [Int.toNat_natCast, List.getD_eq_getElem?_getD, List.getElem?_eq_getElem hq']
      exact ⟨Int.ofNat_le.2 this.1, Int.ofNat_le.2 this.2⟩
    · intro h b hb
      obtain ⟨q, hq, rfl⟩ := List.mem_iff_getElem.1 hb
      have hq2 : q < s.size := by rw [Array.length_toList] at hq; exact hq
      have := h q hq2
      unfold bt at this
      rw [Int.toNat_natCast, List.getD_eq_getElem?_getD, List.getElem?_eq_getElem hq] at this
      have this : 48 ≤ ((s.data.toList[q].toNat : Nat) : Int) ∧ ((s.data.toList[q].toNat : Nat) : Int) ≤ 55 := this
      exact (dig_byte _).2 ⟨Int.ofNat_le.1 this.1, Int.ofNat_le.1 this.2⟩
  unfold digB
  rw [List.all_eq_true]
  rw [ByteArray.data_append, Array.toList_append]
  constructor
  · intro h
    exact ⟨(key xs).1 fun b hb => h b (List.mem_append_left _ hb), (key os).1 fun b hb => h b (List.mem_append_right _ hb)⟩
  · rintro ⟨h1, h2⟩ b hb
    rcases List.mem_append.1 hb with hb | hb
    · exact (key xs).2 h1 b hb
    · exact (key os).2 h2 b hb
theorem trim_eq (xs os : ByteArray) : ((⟨(Lib.trimS (xs ++ os).data.toList digs.data.toList).toArray⟩ : ByteArray).toList == (⟨#[]⟩ : ByteArray).toList) = digB xs os := by
  rw [Lib.toList_data, Lib.toList_data, Bool.eq_iff_iff, beq_iff_eq]
  show Lib.trimS _ _ = [] ↔ _
  rw [trimS_nil]
  unfold digB
  rw [List.all_eq_true]
def goodB (xs os : ByteArray) : Bool := (decide (xs.size = os.size) && decide (xs.size ≤ 8)) && digB xs os
def cx (s : ByteArray) : ByteArray := s.extract 0 (Lib.indexByte s.data.toList 47).toNat
def co (s : ByteArray) : ByteArray := s.extract ((Lib.indexByte s.data.toList 47).toNat + 1) s.size
def parR (s : ByteArray) : Value := if Lib.indexByte s.data.toList 47 < 0 then badR else if goodB (cx s) (co s) then rdR (cx s) (co s) else badR
theorem iParse_c (s : ByteArray) (hs : s.size ≤ 1048576) : Gives Tryd.prog 6 #[.string s] (parR s) := by
  have hcut := cut_c s hs
  unfold cutR at hcut
  unfold parR
  by_cases hi : Lib.indexByte s.data.toList 47 < 0
  · rw [if_pos hi] at hcut ⊢
    unfold badR
    refine Gives.of fun w => ?_
    refine acall_of (N := 65) (c := _) (rs := [.cell 2 24, .tmp 3]) (args := [_]) Tryd.func6 rfl (by decide) rfl rfl (Nat.le_of_ble_eq_true rfl) ?_
    refine Cd.rs [0, 2] fun K hK => ?_
    simp (maxSteps := 2000000) (disch := first | (simp only [E4] <;> omega) | omega | fail) only [↓E2, E3, bare, bareJ, ↓E0, E1, env0, envN, evOps, evOp, evQs, evQ, evV, setD, pureOp, ev, upd, updL, Value.cells, hav, ↓reduceIte, Zj, Zk, Nat.reduceAdd, Nat.reduceLT, Nat.reduceEqDiff, Nat.reduceMul, Nat.reduceLeDiff, if_true, Zn, reduceCtorEq, ZA, eq_self, Int.reduceLE, Int.reduceLT, Int.reduceToNat, ne_eq, Nat.reduceSub, Tzero24]
    repeat refine And.intro (by omega) ?_
    intro b1 hb1
    try simp (maxSteps := 2000000) (disch := first | (simp only [E4] <;> omega) | omega | fail) only [↓E2, E3, bare, bareJ, ↓E0, E1, env0, envN, evOps, evOp, evQs, evQ, evV, setD, pureOp, ev, upd, updL, Value.cells, hav, ↓reduceIte, Zj, Zk, Nat.reduceAdd, Nat.reduceLT, Nat.reduceEqDiff, Nat.reduceMul, Nat.reduceLeDiff, if_true, Zn, reduceCtorEq, ZA, eq_self, Int.reduceLE, Int.reduceLT, Int.reduceToNat, ne_eq, Nat.reduceSub, Tzero24]
    repeat refine And.intro (by omega) ?_
    repeat refine And.intro (by omega) ?_
    intro g
    simp only [List.map_cons, List.map_nil, updL, upd, Nat.reduceEqDiff, if_true, if_false, ↓reduceIte]
    refine hK _ _ ?_; clear hK K
    refine Cd.rs [2, 4, 5, 6] fun K hK => ?_
    simp (maxSteps := 2000000) (disch := first | (simp only [E4] <;> omega) | omega | fail) only [↓E2, E3, bare, bareJ, ↓E0, E1, env0, envN, evOps, evOp, evQs, evQ, evV, setD, pureOp, ev, upd, updL, extractV, cellAt, cellsAt, findB, setB, hav, ↓reduceIte, Zj, Zk, Nat.reduceAdd, Nat.reduceLT, Nat.reduceEqDiff, Nat.reduceMul, Nat.reduceLeDiff, if_true, Zn, reduceCtorEq, ZA, eq_self, Int.reduceLE, Int.reduceLT, Int.reduceToNat, ne_eq, Nat.reduceSub]
    repeat refine And.intro (by omega) ?_
    refine callK_gives hcut ?_
    simp (maxSteps := 2000000) (disch := first | (simp only [E4] <;> omega) | omega | fail) only [↓E2, E3, bare, bareJ, ↓E0, E1, env0, envN, evOps, evOp, evQs, evQ, evV, setD, pureOp, ev, upd, updL, extractV, cellAt, cellsAt, findB, setB, hav, ↓reduceIte, Zj, Zk, Nat.reduceAdd, Nat.reduceLT, Nat.reduceEqDiff, Nat.reduceMul, Nat.reduceLeDiff, if_true, Zn, reduceCtorEq, ZA, eq_self, Int.reduceLE, Int.reduceLT, Int.reduceToNat, ne_eq, Nat.reduceSub]
    repeat refine And.intro (by omega) ?_
    repeat refine And.intro (by omega) ?_
    intro g
    simp only [List.map_cons, List.map_nil, updL, upd, Nat.reduceEqDiff, if_true, if_false, ↓reduceIte]
    refine hK _ _ ?_; clear hK K
    refine Cd.seq ?_
    refine Cd.rs [2, 4, 5, 35] fun K hK => ?_
    simp (maxSteps := 2000000) (disch := first | (simp only [E4] <;> omega) | omega | fail) only [↓E2, E3, bare, bareJ, ↓E0, E1, env0, envN, evOps, evOp, evQs, evQ, evV, setD, pureOp, ev, upd, updL, gate, binW, eqOp, binV, intOp, shOp, boolOp, unV, cellAt, cellsAt, findB, setB, lenV, hav, eqL, SameI, strOp, ↓reduceIte, Zj, Zk, Nat.reduceAdd, Nat.reduceLT, Nat.reduceEqDiff, Nat.reduceMul, Nat.reduceLeDiff, if_true, Zn, reduceCtorEq, ZA, eq_self, Int.reduceLE, Int.reduceLT, Int.reduceToNat, ne_eq, Nat.reduceSub, Tstr9]
    repeat refine And.intro (by omega) ?_
    apply guardX_or 5 [18, 19, 20, 21, 22] (j := 2) (d := 17) (tp := 23) (tl := 22) (x := false) rfl rfl rfl rfl rfl
    · intro hq
      cases hq
    intro g
    simp (maxSteps := 2000000) (disch := first | (simp only [E4] <;> omega) | omega | fail) only [↓E2, E3, bare, bareJ, ↓E0, E1, env0, envN, evOps, evOp, evQs, evQ, evV, setD, pureOp, ev, upd, updL, gate, binW, eqOp, binV, intOp, shOp, boolOp, unV, cellAt, cellsAt, findB, setB, lenV, hav, eqL, SameI, strOp, ↓reduceIte, Zj, Zk, Nat.reduceAdd, Nat.reduceLT, Nat.reduceEqDiff, Nat.reduceMul, Nat.reduceLeDiff, if_true, Zn, reduceCtorEq, ZA, eq_self, Int.reduceLE, Int.reduceLT, Int.reduceToNat, ne_eq, Nat.reduceSub, Tstr9]
    repeat refine And.intro (by omega) ?_
    apply guardX_or 3 [25, 26, 27] (j := 9) (d := 24) (tp := 28) (tl := 27) (x := false) rfl rfl rfl rfl rfl
    · intro hq
      cases hq
    intro g
    simp (maxSteps := 2000000) (disch := first | (simp only [E4] <;> omega) | omega | fail) only [↓E2, E3, bare, bareJ, ↓E0, E1, env0, envN, evOps, evOp, evQs, evQ, evV, setD, pureOp, ev, upd, updL, gate, binW, eqOp, binV, intOp, shOp, boolOp, unV, cellAt, cellsAt, findB, setB, lenV, hav, eqL, SameI, strOp, ↓reduceIte, Zj, Zk, Nat.reduceAdd, Nat.reduceLT, Nat.reduceEqDiff, Nat.reduceMul, Nat.reduceLeDiff, if_true, Zn, reduceCtorEq, ZA, eq_self, Int.reduceLE, Int.reduceLT, Int.reduceToNat, ne_eq, Nat.reduceSub, Tstr9]
    repeat refine And.intro (by omega) ?_
    apply guardX_or 5 [30, 31, 32, 33, 34] (j := 14) (d := 29) (tp := 35) (tl := 34) (x := false) rfl rfl rfl rfl rfl
    · intro hq
      cases hq
    intro g
    simp (maxSteps := 2000000) (disch := first | (simp only [E4] <;> omega) | omega | fail) only [↓E2, E3, bare, bareJ, ↓E0, E1, env0, envN, evOps, evOp, evQs, evQ, evV, setD, pureOp, ev, upd, updL, gate, binW, eqOp, binV, intOp, shOp, boolOp, unV, cellAt, cellsAt, findB, setB, lenV, hav, eqL, SameI, strOp, ↓reduceIte, Zj, Zk, Nat.reduceAdd, Nat.reduceLT, Nat.reduceEqDiff, Nat.reduceMul, Nat.reduceLeDiff, if_true, Zn, reduceCtorEq, ZA, eq_self, Int.reduceLE, Int.reduceLT, Int.reduceToNat, ne_eq, Nat.reduceSub, Tstr9]
    repeat refine And.intro (by omega) ?_
    repeat refine And.intro (by omega) ?_
    intro g
    simp only [List.map_cons, List.map_nil, updL, upd, Nat.reduceEqDiff, if_true, if_false, ↓reduceIte]
    refine hK _ _ ?_; clear hK K
    refine Cd.cond rfl (fun c1 => ?_) (fun c1 => absurd c1 (by decide))
    refine Cd.rs [2, 3] fun K hK => ?_
    simp (maxSteps := 2000000) (disch := first | (simp only [E4] <;> omega) | omega | fail) only [↓E2, E3, bare, bareJ, ↓E0, E1, evP, env0, envN, evOps, evOp, evQs, evQ, evV, setD, pureOp, ev, upd, updL, cellAt, cellsAt, findB, setB, fillL, buildV, Value.cells, hav, ↓reduceIte, Zj, Zk, Nat.reduceAdd, Nat.reduceLT, Nat.reduceEqDiff, Nat.reduceMul, Nat.reduceLeDiff, if_true, Zn, reduceCtorEq, ZA, eq_self, Int.reduceLE, Int.reduceLT, Int.reduceToNat, ne_eq, Nat.reduceSub, Tbld24, Tst24]
    repeat refine And.intro (by omega) ?_
    repeat refine And.intro (by omega) ?_
    intro g
    simp only [List.map_cons, List.map_nil, updL, upd, Nat.reduceEqDiff, if_true, if_false, ↓reduceIte]
    refine hK _ _ ?_; clear hK K
    refine Cd.ret (thenR ?_)
    simp (maxSteps := 2000000) (disch := first | (simp only [E4] <;> omega) | omega | fail) only [↓E2, E3, bare, bareJ, ↓E0, E1, evP, evPlan, env0, envN, evOps, evOp, evQs, evQ, evV, setD, pureOp, ev, upd, updL, gate, binW, eqOp, binV, intOp, shOp, boolOp, unV, convV, nilV, fieldAddrV, indexAddrV, extractV, cellAt, cellsAt, findB, setB, fillL, buildV, Value.cells, lenV, minV, maxV, hav, sliceV, loV, hiV, bslQ, mksQ, appQ, partsOk, partsCells, delB, eqL, SameI, strOp, apzQ, cvtQ, capV, ↓reduceIte, Zj, Zk, Nat.reduceAdd, Nat.reduceLT, Nat.reduceEqDiff, Nat.reduceMul, Nat.reduceLeDiff, if_true, Zn, reduceCtorEq, ZA, eq_self, Int.reduceLE, Int.reduceLT, Int.reduceToNat, ne_eq, Nat.reduceSub, Tld24]
    repeat refine And.intro (by omega) ?_
  · rw [if_neg hi] at hcut ⊢
    have hcut : Gives Tryd.prog 11 #[.string s, .string ⟨#[47]⟩] (.tuple #[.string (cx s), .string (co s), .bool true]) := hcut
    have hz : (cx s).size + (co s).size ≤ 1048576 := by
      unfold cx co
      rw [ByteArray.size_extract, ByteArray.size_extract]
      omega
    generalize cx s = xs at *
    generalize co s = os at *
    have hap : (xs ++ os).size = xs.size + os.size := ByteArray.size_append
    have htr := trim_c (xs ++ os) digs (by omega) (by decide) (by decide)
    have hte := trim_eq xs os
    refine Gives.of fun w => ?_
    refine acall_of (N := 65) (c := _) (rs := [.cell 2 24, .tmp 3]) (args := [_]) Tryd.func6 rfl (by decide) rfl rfl (Nat.le_of_ble_eq_true rfl) ?_
    refine Cd.rs [0, 2] fun K hK => ?_
    simp (maxSteps := 2000000) (disch := first | (simp only [E4] <;> omega) | omega | fail) only [↓E2, E3, bare, bareJ, ↓E0, E1, env0, envN, evOps, evOp, evQs, evQ, evV, setD, pureOp, ev, upd, updL, Value.cells, hav, ↓reduceIte, Zj, Zk, Nat.reduceAdd, Nat.reduceLT, Nat.reduceEqDiff, Nat.reduceMul, Nat.reduceLeDiff, if_true, Zn, reduceCtorEq, ZA, eq_self, Int.reduceLE, Int.reduceLT, Int.reduceToNat, ne_eq, Nat.reduceSub, Tzero24]
    repeat refine And.intro (by omega) ?_
    intro b1 hb1
    try simp (maxSteps := 2000000) (disch := first | (simp only [E4] <;> omega) | omega | fail) only [↓E2, E3, bare, bareJ, ↓E0, E1, env0, envN, evOps, evOp, evQs, evQ, evV, setD, pureOp, ev, upd, updL, Value.cells, hav, ↓reduceIte, Zj, Zk, Nat.reduceAdd, Nat.reduceLT, Nat.reduceEqDiff, Nat.reduceMul, Nat.reduceLeDiff, if_true, Zn, reduceCtorEq, ZA, eq_self, Int.reduceLE, Int.reduceLT, Int.reduceToNat, ne_eq, Nat.reduceSub, Tzero24]
    repeat refine And.intro (by omega) ?_
    repeat refine And.intro (by omega) ?_
    intro g
    simp only [List.map_cons, List.map_nil, updL, upd, Nat.reduceEqDiff, if_true, if_false, ↓reduceIte]
    refine hK _ _ ?_; clear hK K
    refine Cd.rs [2, 4, 5, 6] fun K hK => ?_
    simp (maxSteps := 2000000) (disch := first | (simp only [E4] <;> omega) | omega | fail) only [↓E2, E3, bare, bareJ, ↓E0, E1, env0, envN, evOps, evOp, evQs, evQ, evV, setD, pureOp, ev, upd, updL, extractV, cellAt, cellsAt, findB, setB, hav, ↓reduceIte, Zj, Zk, Nat.reduceAdd, Nat.reduceLT, Nat.reduceEqDiff, Nat.reduceMul, Nat.reduceLeDiff, if_true, Zn, reduceCtorEq, ZA, eq_self, Int.reduceLE, Int.reduceLT, Int.reduceToNat, ne_eq, Nat.reduceSub]
    repeat refine And.intro (by omega) ?_
    refine callK_gives hcut ?_
    simp (maxSteps := 2000000) (disch := first | (simp only [E4] <;> omega) | omega | fail) only [↓E2, E3, bare, bareJ, ↓E0, E1, env0, envN, evOps, evOp, evQs, evQ, evV, setD, pureOp, ev, upd, updL, extractV, cellAt, cellsAt, findB, setB, hav, ↓reduceIte, Zj, Zk, Nat.reduceAdd, Nat.reduceLT, Nat.reduceEqDiff, Nat.reduceMul, Nat.reduceLeDiff, if_true, Zn, reduceCtorEq, ZA, eq_self, Int.reduceLE, Int.reduceLT, Int.reduceToNat, ne_eq, Nat.reduceSub]
    repeat refine And.intro (by omega) ?_
    repeat refine And.intro (by omega) ?_
    intro g
    simp only [List.map_cons, List.map_nil, updL, upd, Nat.reduceEqDiff, if_true, if_false, ↓reduceIte]
    refine hK _ _ ?_; clear hK K
    refine Cd.seq ?_
    refine Cd.rs [2, 4, 5, 35] fun K hK => ?_
    simp (maxSteps := 2000000) (disch := first | (simp only [E4] <;> omega) | omega | fail) only [↓E2, E3, bare, bareJ, ↓E0, E1, env0, envN, evOps, evOp, evQs, evQ, evV, setD, pureOp, ev, upd, updL, gate, binW, eqOp, binV, intOp, shOp, boolOp, unV, cellAt, cellsAt, findB, setB, lenV, hav, eqL, SameI, strOp, ↓reduceIte, Zj, Zk, Nat.reduceAdd, Nat.reduceLT, Nat.reduceEqDiff, Nat.reduceMul, Nat.reduceLeDiff, if_true, Zn, reduceCtorEq, ZA, eq_self, Int.reduceLE, Int.reduceLT, Int.reduceToNat, ne_eq, Nat.reduceSub, Tstr9]
    repeat refine And.intro (by omega) ?_
    apply guardX_or 5 [18, 19, 20, 21, 22] (j := 2) (d := 17) (tp := 23) (tl := 22) (x := ((xs.size : Int) != (os.size : Int))) rfl rfl rfl rfl rfl
    · intro hq
      simp (maxSteps := 2000000) (disch := first | (simp only [E4] <;> omega) | omega | fail) only [↓E2, E3, bare, bareJ, ↓E0, E1, env0, envN, evOps, evOp, evQs, evQ, evV, setD, pureOp, ev, upd, updL, gate, binW, eqOp, binV, intOp, shOp, boolOp, unV, cellAt, cellsAt, findB, setB, lenV, hav, eqL, SameI, strOp, ↓reduceIte, Zj, Zk, Nat.reduceAdd, Nat.reduceLT, Nat.reduceEqDiff, Nat.reduceMul, Nat.reduceLeDiff, if_true, Zn, reduceCtorEq, ZA, eq_self, Int.reduceLE, Int.reduceLT, Int.reduceToNat, ne_eq, Nat.reduceSub, Tstr9]
      repeat refine And.intro (by omega) ?_
    intro g
    simp (maxSteps := 2000000) (disch := first | (simp only [E4] <;> omega) | omega | fail) only [↓E2, E3, bare, bareJ, ↓E0, E1, env0, envN, evOps, evOp, evQs, evQ, evV, setD, pureOp, ev, upd, updL, gate, binW, eqOp, binV, intOp, shOp, boolOp, unV, cellAt, cellsAt, findB, setB, lenV, hav, eqL, SameI, strOp, ↓reduceIte, Zj, Zk, Nat.reduceAdd, Nat.reduceLT, Nat.reduceEqDiff, Nat.reduceMul, Nat.reduceLeDiff, if_true, Zn, reduceCtorEq, ZA, eq_self, Int.reduceLE, Int.reduceLT, Int.reduceToNat, ne_eq, Nat.reduceSub, Tstr9]
    repeat refine And.intro (by omega) ?_
    apply guardX_or 3 [25, 26, 27] (j := 9) (d := 24) (tp := 28) (tl := 27) (x := decide ((xs.size : Int) > 8)) rfl rfl rfl rfl rfl
    · intro hq
      simp (maxSteps := 2000000) (disch := first | (simp only [E4] <;> omega) | omega | fail) only [↓E2, E3, bare, bareJ, ↓E0, E1, env0, envN, evOps, evOp, evQs, evQ, evV, setD, pureOp, ev, upd, updL, gate, binW, eqOp, binV, intOp, shOp, boolOp, unV, cellAt, cellsAt, findB, setB, lenV, hav, eqL, SameI, strOp, ↓reduceIte, Zj, Zk, Nat.reduceAdd, Nat.reduceLT, Nat.reduceEqDiff, Nat.reduceMul, Nat.reduceLeDiff, if_true, Zn, reduceCtorEq, ZA, eq_self, Int.reduceLE, Int.reduceLT, Int.reduceToNat, ne_eq, Nat.reduceSub, Tstr9]
      repeat refine And.intro (by omega) ?_
    intro g
    simp (maxSteps := 2000000) (disch := first | (simp only [E4] <;> omega) | omega | fail) only [↓E2, E3, bare, bareJ, ↓E0, E1, env0, envN, evOps, evOp, evQs, evQ, evV, setD, pureOp, ev, upd, updL, gate, binW, eqOp, binV, intOp, shOp, boolOp, unV, cellAt, cellsAt, findB, setB, lenV, hav, eqL, SameI, strOp, ↓reduceIte, Zj, Zk, Nat.reduceAdd, Nat.reduceLT, Nat.reduceEqDiff, Nat.reduceMul, Nat.reduceLeDiff, if_true, Zn, reduceCtorEq, ZA, eq_self, Int.reduceLE, Int.reduceLT, Int.reduceToNat, ne_eq, Nat.reduceSub, Tstr9]
    repeat refine And.intro (by omega) ?_
    apply guardX_or 5 [30, 31, 32, 33, 34] (j := 14) (d := 29) (tp := 35) (tl := 34) (x := !digB xs os) rfl rfl rfl rfl rfl
    · intro hq
      simp (maxSteps := 2000000) (disch := first | (simp only [E4] <;> omega) | omega | fail) only [↓E2, E3, bare, bareJ, ↓E0, E1, env0, envN, evOps, evOp, evQs, evQ, evV, setD, pureOp, ev, upd, updL, gate, binW, eqOp, binV, intOp, shOp, boolOp, unV, cellAt, cellsAt, findB, setB, lenV, hav, eqL, SameI, strOp, ↓reduceIte, Zj, Zk, Nat.reduceAdd, Nat.reduceLT, Nat.reduceEqDiff, Nat.reduceMul, Nat.reduceLeDiff, if_true, Zn, reduceCtorEq, ZA, eq_self, Int.reduceLE, Int.reduceLT, Int.reduceToNat, ne_eq, Nat.reduceSub, Tstr9]
      repeat refine And.intro (by omega) ?_
      refine callK_gives htr ?_
      simp (maxSteps := 2000000) (disch := first | (simp only [E4] <;> omega) | omega | fail) only [↓E2, E3, bare, bareJ, ↓E0, E1, env0, envN, evOps, evOp, evQs, evQ, evV, setD, pureOp, ev, upd, updL, gate, binW, eqOp, binV, intOp, shOp, boolOp, unV, cellAt, cellsAt, findB, setB, lenV, hav, eqL, SameI, strOp, ↓reduceIte, Zj, Zk, Nat.reduceAdd, Nat.reduceLT, Nat.reduceEqDiff, Nat.reduceMul, Nat.reduceLeDiff, if_true, Zn, reduceCtorEq, ZA, eq_self, Int.reduceLE, Int.reduceLT, Int.reduceToNat, ne_eq, Nat.reduceSub, Tstr9]
      repeat refine And.intro (by omega) ?_
      rw [hte]
    intro g
    simp (maxSteps := 2000000) (disch := first | (simp only [E4] <;> omega) | omega | fail) only [↓E2, E3, bare, bareJ, ↓E0, E1, env0, envN, evOps, evOp, evQs, evQ, evV, setD, pureOp, ev, upd, updL, gate, binW, eqOp, binV, intOp, shOp, boolOp, unV, cellAt, cellsAt, findB, setB, lenV, hav, eqL, SameI, strOp, ↓reduceIte, Zj, Zk, Nat.reduceAdd, Nat.reduceLT, Nat.reduceEqDiff, Nat.reduceMul, Nat.reduceLeDiff, if_true, Zn, reduceCtorEq, ZA, eq_self, Int.reduceLE, Int.reduceLT, Int.reduceToNat, ne_eq, Nat.reduceSub, Tstr9]
    repeat refine And.intro (by omega) ?_
    repeat refine And.intro (by omega) ?_
    intro g
    simp only [List.map_cons, List.map_nil, updL, upd, Nat.reduceEqDiff, if_true, if_false, ↓reduceIte]
    refine hK _ _ ?_; clear hK K
    refine Cd.cond rfl (fun c1 => ?_) (fun c1 => ?_)
    · have hgd : ¬ goodB xs os = true := fun h => by
        unfold goodB at h
        simp only [Bool.and_eq_true, decide_eq_true_eq] at h
        rw [h.2, h.1.1] at c1
        have h8 : ¬ ((os.size : Int) > 8) := by omega
        simp [h8] at c1
      rw [if_neg hgd]
      unfold badR
      refine Cd.rs [2, 3] fun K hK => ?_
      simp (maxSteps := 2000000) (disch := first | (simp only [E4] <;> omega) | omega | fail) only [↓E2, E3, bare, bareJ, ↓E0, E1, evP, env0, envN, evOps, evOp, evQs, evQ, evV, setD, pureOp, ev, upd, updL, cellAt, cellsAt, findB, setB, fillL, buildV, Value.cells, hav, ↓reduceIte, Zj, Zk, Nat.reduceAdd, Nat.reduceLT, Nat.reduceEqDiff, Nat.reduceMul, Nat.reduceLeDiff, if_true, Zn, reduceCtorEq, ZA, eq_self, Int.reduceLE, Int.reduceLT, Int.reduceToNat, ne_eq, Nat.reduceSub, Tbld24, Tst24]
      repeat refine And.intro (by omega) ?_
      repeat refine And.intro (by omega) ?_
      intro g
      simp only [List.map_cons, List.map_nil, updL, upd, Nat.reduceEqDiff, if_true, if_false, ↓reduceIte]
      refine hK _ _ ?_; clear hK K
      refine Cd.ret (thenR ?_)
      simp (maxSteps := 2000000) (disch := first | (simp only [E4] <;> omega) | omega | fail) only [↓E2, E3, bare, bareJ, ↓E0, E1, evP, evPlan, env0, envN, evOps, evOp, evQs, evQ, evV, setD, pureOp, ev, upd, updL, gate, binW, eqOp, binV, intOp, shOp, boolOp, unV, convV, nilV, fieldAddrV, indexAddrV, extractV, cellAt, cellsAt, findB, setB, fillL, buildV, Value.cells, lenV, minV, maxV, hav, sliceV, loV, hiV, bslQ, mksQ, appQ, partsOk, partsCells, delB, eqL, SameI, strOp, apzQ, cvtQ, capV, ↓reduceIte, Zj, Zk, Nat.reduceAdd, Nat.reduceLT, Nat.reduceEqDiff, Nat.reduceMul, Nat.reduceLeDiff, if_true, Zn, reduceCtorEq, ZA, eq_self, Int.reduceLE, Int.reduceLT, Int.reduceToNat, ne_eq, Nat.reduceSub, Tld24]
      repeat refine And.intro (by omega) ?_
    · simp only [Bool.false_or, Bool.or_eq_false_iff, bne_eq_false_iff_eq, decide_eq_false_iff_not, Bool.not_eq_false', gt_iff_lt] at c1
      obtain ⟨⟨e1, e2⟩, e3⟩ := c1
      have e1 : xs.size = os.size := by omega
      have e2 : xs.size ≤ 8 := by omega
      have hgd : goodB xs os = true := by
        unfold goodB
        rw [e3, decide_eq_true e1, decide_eq_true e2]; rfl
      obtain ⟨hdx, hdo⟩ := digB_iff.1 e3
      rw [if_pos hgd]
      unfold rdR
      have tl := fun f : Nat → Int => tab_len f
      skip
      refine Cd.skip ?_
      refine thenN ?_
      refine Cd.rs [2, 4, 5, 7] fun K hK => ?_
      simp (maxSteps := 2000000) (disch := first | (simp only [E4, tl] <;> omega) | omega | fail) only [↓E2, E3, bare, bareJ, ↓E0, E1, evP, env0, envN, evOps, evOp, evQs, evQ, evV, setD, pureOp, ev, upd, updL, cellAt, cellsAt, findB, setB, fillL, buildV, Value.cells, lenV, hav, ↓reduceIte, Zj, Zk, Nat.reduceAdd, Nat.reduceLT, Nat.reduceEqDiff, Nat.reduceMul, Nat.reduceLeDiff, if_true, Zn, reduceCtorEq, ZA, eq_self, Int.reduceLE, Int.reduceLT, Int.reduceToNat, ne_eq, Nat.reduceSub, Tbld24, Tst24, Tstr9, Tzero24, tl]
      repeat refine And.intro (by omega) ?_
      intro b2 hb2
      have nb2_b1 := hb2.ne
      try simp (maxSteps := 2000000) (disch := first | (simp only [E4, tl] <;> omega) | omega | fail) only [↓E2, E3, bare, bareJ, ↓E0, E1, evP, env0, envN, evOps, evOp, evQs, evQ, evV, setD, pureOp, ev, upd, updL, cellAt, cellsAt, findB, setB, fillL, buildV, Value.cells, lenV, hav, ↓reduceIte, Zj, Zk, Nat.reduceAdd, Nat.reduceLT, Nat.reduceEqDiff, Nat.reduceMul, Nat.reduceLeDiff, if_true, Zn, reduceCtorEq, ZA, eq_self, Int.reduceLE, Int.reduceLT, Int.reduceToNat, ne_eq, Nat.reduceSub, Tbld24, Tst24, Tstr9, Tzero24, tl, nb2_b1]
      repeat refine And.intro (by omega) ?_
      repeat refine And.intro (by omega) ?_
      intro g
      simp only [List.map_cons, List.map_nil, updL, upd, Nat.reduceEqDiff, if_true, if_false, ↓reduceIte]
      refine hK _ _ ?_; clear hK K
      refine Cd.seq ?_
      refine Cd.rs [2, 4, 5, 7, 41, 42] fun K hK => ?_
      simp (maxSteps := 2000000) (disch := first | (simp only [E4, tl] <;> omega) | omega | fail) only [↓E2, E3, bare, bareJ, ↓E0, E1, env0, envN, evOps, evOp, evQs, evQ, evV, setD, pureOp, ev, upd, updL, lenV, hav, ↓reduceIte, Zj, Zk, Nat.reduceAdd, Nat.reduceLT, Nat.reduceEqDiff, Nat.reduceMul, Nat.reduceLeDiff, if_true, Zn, reduceCtorEq, ZA, eq_self, Int.reduceLE, Int.reduceLT, Int.reduceToNat, ne_eq, Nat.reduceSub, Tstr9, tl, nb2_b1]
      repeat refine And.intro (by omega) ?_
      repeat refine And.intro (by omega) ?_
      intro g
      simp only [List.map_cons, List.map_nil, updL, upd, Nat.reduceEqDiff, if_true, if_false, ↓reduceIte]
      refine hK _ _ ?_; clear hK K
      refine Cd.block ?_
      refine Cd.loop (fun q ρ M => ∃ g k, k + q = xs.size ∧ ρ = updL [(2, .pointer (some ⟨b1, 0, none⟩)), (4, .string xs), (5, .string os), (7, .pointer (some ⟨b2, 0, none⟩)), (41, .int .i64 (xs.size : Int)), (42, .int .i64 (k : Int))] g ∧ M = [(b2, gc (xs.size : Int) (tab (dg xs k)) (tab (dg os k))), (b1, gc 0 z8 z8)]) xs.size ⟨_, 0, Nat.zero_add _, rfl, by rw [dg_zero, dg_zero]⟩ ?_
      rintro q ρ M ⟨g, k, hk, rfl, rfl⟩
      refine Cd.rs [2, 4, 5, 7, 41, 42, 43] fun K hK => ?_
      simp (maxSteps := 2000000) (disch := first | (simp only [E4, tl] <;> omega) | omega | fail) only [↓E2, E3, bare, bareJ, ↓E0, E1, env0, envN, evOps, evOp, evQs, evQ, evV, setD, pureOp, ev, upd, updL, binW, eqOp, binV, intOp, shOp, boolOp, hav, eqL, SameI, strOp, ↓reduceIte, Zj, Zk, Nat.reduceAdd, Nat.reduceLT, Nat.reduceEqDiff, Nat.reduceMul, Nat.reduceLeDiff, if_true, Zn, reduceCtorEq, ZA, eq_self, Int.reduceLE, Int.reduceLT, Int.reduceToNat, ne_eq, Nat.reduceSub, tl, nb2_b1]
      repeat refine And.intro (by omega) ?_
      repeat refine And.intro (by omega) ?_
      intro g
      simp only [List.map_cons, List.map_nil, updL, upd, Nat.reduceEqDiff, if_true, if_false, ↓reduceIte]
      refine hK _ _ ?_; clear hK K
      refine Cd.seq ?_
      refine Cd.condd rfl (fun c2 => ?_) (fun c2 => ?_)
      · have d1 := hdx k (by omega)
        have d2 := hdo k (by omega)
        refine Cd.skip ?_
        refine thenN ?_
        refine Cd.seq ?_
        refine Cd.block ?_
        refine Cd.rs [2, 4, 5, 7, 8, 41, 42] fun K hK => ?_
        simp (maxSteps := 2000000) (disch := first | (simp only [E4, tl] <;> omega) | omega | fail) only [↓E2, E3, bare, bareJ, ↓E0, E1, env0, envN, evOps, evOp, evQs, evQ, evV, setD, pureOp, ev, upd, updL, hav, ↓reduceIte, Zj, Zk, Nat.reduceAdd, Nat.reduceLT, Nat.reduceEqDiff, Nat.reduceMul, Nat.reduceLeDiff, if_true, Zn, reduceCtorEq, ZA, eq_self, Int.reduceLE, Int.reduceLT, Int.reduceToNat, ne_eq, Nat.reduceSub, tl, nb2_b1]
        repeat refine And.intro (by omega) ?_
        repeat refine And.intro (by omega) ?_
        intro g
        simp only [List.map_cons, List.map_nil, updL, upd, Nat.reduceEqDiff, if_true, if_false, ↓reduceIte]
        refine hK _ _ ?_; clear hK K
        refine Cd.pr [2, 4, 5, 7, 41, 42] (Plan.take 0 (Plan.take 1 (Plan.take 2 (Plan.take 3 (Plan.take 4 (Plan.take 5 (Plan.take 6 (Plan.take 7 (Plan.take 8 (Plan.take 9 (Plan.take 10 (Plan.take 11 (Plan.take 13 (Plan.one 12 (Plan.take 14 (Plan.one 15 (Plan.done))))))))))))))))) fol (by kernel_rfl) (Nat.le_of_ble_eq_true rfl) fun K hK => ?_
        simp (maxSteps := 2000000) (disch := first | (simp only [E4, tl, indexV] <;> omega) | omega | fail) only [↓E2, E3, bare, bareJ, ↓E0, E1, evPlan, env0, envN, evOps, evOp, evQs, evQ, evV, setD, pureOp, ev, upd, updL, binW, eqOp, binV, intOp, shOp, boolOp, fieldAddrV, indexAddrV, cellAt, cellsAt, findB, setB, Value.cells, hav, eqL, SameI, strOp, ↓reduceIte, Zj, Zk, Nat.reduceAdd, Nat.reduceLT, Nat.reduceEqDiff, Nat.reduceMul, Nat.reduceLeDiff, if_true, Zn, reduceCtorEq, ZA, eq_self, Int.reduceLE, Int.reduceLT, Int.reduceToNat, ne_eq, Nat.reduceSub, Tarr22, Tfld24_1, Tfld24_2, Tst5, Tstr9, tl, nb2_b1, indexV]
        repeat refine And.intro (by omega) ?_
        rw [dg_set, dg_set]
        repeat refine And.intro (by omega) ?_
        intro g
        simp only [List.map_cons, List.map_nil, updL, upd, Nat.reduceEqDiff, if_true, if_false, ↓reduceIte]
        refine hK _ _ ?_; clear hK K
        refine inBN ?_
        refine thenN ?_
        refine Cd.rr [2, 4, 5, 7, 41, 42] fun K hK => ?_
        simp (maxSteps := 2000000) (disch := first | (simp only [E4, tl] <;> omega) | omega | fail) only [↓E2, E3, bare, bareJ, ↓E0, E1, env0, envN, evOps, evOp, evQs, evQ, evV, setD, pureOp, ev, upd, updL, binW, eqOp, binV, intOp, shOp, boolOp, hav, eqL, SameI, strOp, ↓reduceIte, Zj, Zk, Nat.reduceAdd, Nat.reduceLT, Nat.reduceEqDiff, Nat.reduceMul, Nat.reduceLeDiff, if_true, Zn, reduceCtorEq, ZA, eq_self, Int.reduceLE, Int.reduceLT, Int.reduceToNat, ne_eq, Nat.reduceSub, tl, nb2_b1]
        repeat refine And.intro (by omega) ?_
        repeat refine And.intro (by omega) ?_
        intro g
        simp only [List.map_cons, List.map_nil, updL, upd, Nat.reduceEqDiff, if_true, if_false, ↓reduceIte]
        refine hK _ _ ?_; clear hK K
        exact roundN (m := q - 1) (by omega) ⟨_, k + 1, by omega, rfl, rfl⟩
      · refine Cd.exit (thenX (roundX (inBX ?_)))
        refine thenN ?_
        obtain rfl : k = xs.size := by omega
        have bx := dg_bytes hdx (Nat.le_refl _)
        have bo := dg_bytes hdo (k := xs.size) (by omega)
        have hI := IsGrid_c (xs.size : Int) _ _ bx bo
        refine Cd.seq ?_
        refine Cd.rs [2, 7, 62] fun K hK => ?_
        simp (maxSteps := 2000000) (disch := first | (simp only [E4, tl] <;> omega) | omega | fail) only [↓E2, E3, bare, bareJ, ↓E0, E1, env0, envN, evOps, evOp, evQs, evQ, evV, setD, pureOp, ev, upd, updL, unV, cellAt, cellsAt, findB, setB, hav, ↓reduceIte, Zj, Zk, Nat.reduceAdd, Nat.reduceLT, Nat.reduceEqDiff, Nat.reduceMul, Nat.reduceLeDiff, if_true, Zn, reduceCtorEq, ZA, eq_self, Int.reduceLE, Int.reduceLT, Int.reduceToNat, ne_eq, Nat.reduceSub, Tld24, tl, nb2_b1]
        repeat refine And.intro (by omega) ?_
        refine callK_gives hI ?_
        simp (maxSteps := 2000000) (disch := first | (simp only [E4, tl] <;> omega) | omega | fail) only [↓E2, E3, bare, bareJ, ↓E0, E1, env0, envN, evOps, evOp, evQs, evQ, evV, setD, pureOp, ev, upd, updL, unV, cellAt, cellsAt, findB, setB, hav, ↓reduceIte, Zj, Zk, Nat.reduceAdd, Nat.reduceLT, Nat.reduceEqDiff, Nat.reduceMul, Nat.reduceLeDiff, if_true, Zn, reduceCtorEq, ZA, eq_self, Int.reduceLE, Int.reduceLT, Int.reduceToNat, ne_eq, Nat.reduceSub, Tld24, tl, nb2_b1]
        repeat refine And.intro (by omega) ?_
        repeat refine And.intro (by omega) ?_
        intro g
        simp only [List.map_cons, List.map_nil, updL, upd, Nat.reduceEqDiff, if_true, if_false, ↓reduceIte]
        refine hK _ _ ?_; clear hK K
        refine Cd.cond rfl (fun c3 => ?_) (fun c3 => ?_)
        · simp only [decide_eq_true_eq, decide_eq_false_iff_not, beq_iff_eq, beq_eq_false_iff_ne, bne_iff_ne, bne_eq_false_iff_eq, Bool.and_eq_true, Bool.or_eq_true, Bool.or_eq_false_iff, Bool.not_eq_true', Bool.not_eq_false', Bool.and_eq_false_imp, ne_eq, gt_iff_lt, ge_iff_le, Int.not_lt, Int.not_le, Classical.not_not] at c3
          rw [c3]
          refine Cd.rs [2, 3] fun K hK => ?_
          simp (maxSteps := 2000000) (disch := first | (simp only [E4, tl] <;> omega) | omega | fail) only [↓E2, E3, bare, bareJ, ↓E0, E1, evP, env0, envN, evOps, evOp, evQs, evQ, evV, setD, pureOp, ev, upd, updL, cellAt, cellsAt, findB, setB, fillL, buildV, Value.cells, hav, ↓reduceIte, Zj, Zk, Nat.reduceAdd, Nat.reduceLT, Nat.reduceEqDiff, Nat.reduceMul, Nat.reduceLeDiff, if_true, Zn, reduceCtorEq, ZA, eq_self, Int.reduceLE, Int.reduceLT, Int.reduceToNat, ne_eq, Nat.reduceSub, Tbld24, Tst24, tl, nb2_b1]
          repeat refine And.intro (by omega) ?_
          repeat refine And.intro (by omega) ?_
          intro g
          simp only [List.map_cons, List.map_nil, updL, upd, Nat.reduceEqDiff, if_true, if_false, ↓reduceIte]
          refine hK _ _ ?_; clear hK K
          refine Cd.ret (thenR ?_)
          simp (maxSteps := 2000000) (disch := first | (simp only [E4, tl] <;> omega) | omega | fail) only [↓E2, E3, bare, bareJ, ↓E0, E1, evP, evPlan, env0, envN, evOps, evOp, evQs, evQ, evV, setD, pureOp, ev, upd, updL, gate, binW, eqOp, binV, intOp, shOp, boolOp, unV, convV, nilV, fieldAddrV, indexAddrV, extractV, cellAt, cellsAt, findB, setB, fillL, buildV, Value.cells, lenV, minV, maxV, hav, sliceV, loV, hiV, bslQ, mksQ, appQ, partsOk, partsCells, delB, eqL, SameI, strOp, apzQ, cvtQ, capV, ↓reduceIte, Zj, Zk, Nat.reduceAdd, Nat.reduceLT, Nat.reduceEqDiff, Nat.reduceMul, Nat.reduceLeDiff, if_true, Zn, reduceCtorEq, ZA, eq_self, Int.reduceLE, Int.reduceLT, Int.reduceToNat, ne_eq, Nat.reduceSub, Tld24, tl, nb2_b1]
          repeat refine And.intro (by omega) ?_
        · simp only [decide_eq_true_eq, decide_eq_false_iff_not, beq_iff_eq, beq_eq_false_iff_ne, bne_iff_ne, bne_eq_false_iff_eq, Bool.and_eq_true, Bool.or_eq_true, Bool.or_eq_false_iff, Bool.not_eq_true', Bool.not_eq_false', Bool.and_eq_false_imp, ne_eq, gt_iff_lt, ge_iff_le, Int.not_lt, Int.not_le, Classical.not_not] at c3
          rw [c3]
          refine Cd.skip ?_
          refine thenN ?_
          refine Cd.rs [2, 3] fun K hK => ?_
          simp (maxSteps := 2000000) (disch := first | (simp only [E4, tl] <;> omega) | omega | fail) only [↓E2, E3, bare, bareJ, ↓E0, E1, env0, envN, evOps, evOp, evQs, evQ, evV, setD, pureOp, ev, upd, updL, cellAt, cellsAt, findB, setB, Value.cells, hav, ↓reduceIte, Zj, Zk, Nat.reduceAdd, Nat.reduceLT, Nat.reduceEqDiff, Nat.reduceMul, Nat.reduceLeDiff, if_true, Zn, reduceCtorEq, ZA, eq_self, Int.reduceLE, Int.reduceLT, Int.reduceToNat, ne_eq, Nat.reduceSub, Tld24, Tst24, tl, nb2_b1]
          repeat refine And.intro (by omega) ?_
          repeat refine And.intro (by omega) ?_
          intro g
          simp only [List.map_cons, List.map_nil, updL, upd, Nat.reduceEqDiff, if_true, if_false, ↓reduceIte]
          refine hK _ _ ?_; clear hK K
          refine Cd.ret ?_
          simp (maxSteps := 2000000) (disch := first | (simp only [E4, tl] <;> omega) | omega | fail) only [↓E2, E3, bare, bareJ, ↓E0, E1, evP, evPlan, env0, envN, evOps, evOp, evQs, evQ, evV, setD, pureOp, ev, upd, updL, gate, binW, eqOp, binV, intOp, shOp, boolOp, unV, convV, nilV, fieldAddrV, indexAddrV, extractV, cellAt, cellsAt, findB, setB, fillL, buildV, Value.cells, lenV, minV, maxV, hav, sliceV, loV, hiV, bslQ, mksQ, appQ, partsOk, partsCells, delB, eqL, SameI, strOp, apzQ, cvtQ, capV, ↓reduceIte, Zj, Zk, Nat.reduceAdd, Nat.reduceLT, Nat.reduceEqDiff, Nat.reduceMul, Nat.reduceLeDiff, if_true, Zn, reduceCtorEq, ZA, eq_self, Int.reduceLE, Int.reduceLT, Int.reduceToNat, ne_eq, Nat.reduceSub, Tld24, tl, nb2_b1]
          repeat refine And.intro (by omega) ?_

end Go.Proofs

/-
  What the functions of this part hand back: each as a plain function of its arguments. Conditions: none.
-/
namespace Go.Proofs
open Go.W8
set_option linter.unusedVariables false
set_option linter.unusedSimpArgs false
set_option linter.unusedSectionVars false
set_option maxRecDepth 8000
set_option maxHeartbeats 4000000
--@plain
/-- A coefficient that is allowed. -/
def coOk (c : Int) : Bool := decide (-1000000000000 ≤ c) && decide (c ≤ 1000000000000)
def lauOk (low : Int) (l : List Int) : Bool :=
  if l.length = 0 then decide (low = 0) else
    decide (l.length ≤ 2001) && (decide (-1000 ≤ low) && decide (low ≤ 1000)) && decide (low + l.length - 1 ≤ 1000) && !(l.getD 0 0 == 0) && !(l.getD (l.length - 1) 0 == 0) && l.all coOk
end Go.Proofs

/-
  What the functions of this part hand back: each as a plain function of its arguments. Conditions: none.
-/
namespace Go.Proofs
open Go.W8
set_option linter.unusedVariables false
set_option linter.unusedSimpArgs false
set_option linter.unusedSectionVars false
set_option maxRecDepth 8000
set_option maxHeartbeats 4000000
--@plain
/-- A row of numbers that is handed in. -/
def InS (R : Rd) (l : List Int) (v : Value) : Prop := ∃ a cap, v = .slice a l.length cap ∧ (l.length ≠ 0 → ∃ b o, a = some ⟨b, o, none⟩ ∧ (b, o, ints .i64 l) ∈ R)
theorem InS.get {W : List Nat} {w0 : World} {R : Rd} {l : List Int} {a : Option Addr} {m cap k : Nat} (h : InS R l (.slice a m cap)) (ht : W8.Told W w0 R) (hk : k < l.length) : ∃ b o, a = some ⟨b, o, none⟩ ∧ frn W w0 b (o + k) = some (.int .i64 (l.getD k 0)) := by
  obtain ⟨a', cap', e, h⟩ := h
  cases e
  obtain ⟨b, o, rfl, hm⟩ := h (by omega)
  exact ⟨b, o, rfl, ht _ hm k _ (ints_get hk)⟩
theorem InS.more {R R' : Rd} {l : List Int} {v : Value} (h : InS R l v) (hs : ∀ r ∈ R, r ∈ R') : InS R' l v := by
  obtain ⟨a, cap, rfl, h⟩ := h
  exact ⟨a, cap, rfl, fun hn => let ⟨b, o, e, hm⟩ := h hn; ⟨b, o, e, hs _ hm⟩⟩
theorem _root_.Go.W8.RdS.more {R R' : Rd} {w : Nat} {l : List Value} {v : Value} (h : RdS R w l v) (hs : ∀ r ∈ R, r ∈ R') : RdS R' w l v := by
  obtain ⟨a, m, cap, rfl, hl, h, h2⟩ := h
  exact ⟨a, m, cap, rfl, hl, (fun hn => let ⟨b, cs, e, hm, hr⟩ := h hn; ⟨b, cs, e, hs _ hm, hr⟩), h2⟩
/-- A polynomial and the memory that it has for its own. -/
def LauV (low : Int) (l : List Int) (v : Value) (M : Blks) : Prop := ∃ s, v = .agg #[.int .i64 low, s] ∧ SlN 1 (ints .i64 l) s M
/-- A polynomial whose numbers stand in what is told. -/
def RdL (R : Rd) (low : Int) (l : List Int) (v : Value) : Prop := ∃ s, v = .agg #[.int .i64 low, s] ∧ RdS R 1 (ints .i64 l) s
theorem LauV.reads {low : Int} {l : List Int} {v : Value} {M : Blks} {R : Rd} (h : LauV low l v M) (hR : ∀ p ∈ M, (p.1, 0, p.2) ∈ R) : RdL R low l v := by
  obtain ⟨s, rfl, h⟩ := h
  exact ⟨s, rfl, h.reads hR⟩
theorem RdL.more {R R' : Rd} {low : Int} {l : List Int} {v : Value} (h : RdL R low l v) (hs : ∀ r ∈ R, r ∈ R') : RdL R' low l v := by
  obtain ⟨s, rfl, h⟩ := h
  exact ⟨s, rfl, h.more hs⟩
/-- A row of numbers, from some place on. -/
def RdO (R : Rd) (l : List Int) (v : Value) : Prop :=
  (l = [] ∧ ∃ cap, v = .slice none 0 cap) ∨ ∃ b o cap, v = .slice (some ⟨b, o, none⟩) l.length cap ∧ (l = [] → o = 0) ∧ (l ≠ [] → (b, o, ints .i64 l) ∈ R)
end Go.Proofs

/-
  What the functions of this part hand back: each as a plain function of its arguments. Conditions: none.
-/
namespace Go.Proofs
open Go.W8
set_option linter.unusedVariables false
set_option linter.unusedSimpArgs false
set_option linter.unusedSectionVars false
set_option maxRecDepth 8000
set_option maxHeartbeats 4000000
--@plain
section
variable {P : Program} {N : Nat} {W : List Nat} {w0 : World} {ρ : Env} {M M' : Blks}
/-- A function that is lent L, hands it back as it was, and beside it new memory. -/
def keepQ (L : Blks) (rep : Value → Blks → Prop) (v : Value) (M' : Blks) : Prop := ∃ M1, (∀ p ∈ L, p ∈ M') ∧ (∀ p ∈ M1, p ∈ M') ∧ ((L ++ M1).map (·.1)).Nodup ∧ rep v M1
def GivesK (P : Program) (f : FuncId) (args : Array Value) (L : Blks) (rep : Value → Blks → Prop) : Prop := GivesX P f args L [] (keepQ L rep)
theorem keepQ.none {L : Blks} {rep : Value → Blks → Prop} {v : Value} {M' : Blks} (hL : (L.map (·.1)).Nodup) (h : ∀ p ∈ L, p ∈ M') (hr : rep v []) : keepQ L rep v M' := ⟨[], h, (fun _ hp => nomatch hp), by simpa using hL, hr⟩
theorem keepQ.behind {L A B : Blks} {rep : Value → Blks → Prop} {v : Value} {M' : Blks} (hL : (L.map (·.1)).Nodup) (hn : ((A ++ B).map (·.1)).Nodup) (h : ∀ p ∈ L, p ∈ A) (hM : M' = A ++ B) (hr : rep v B) : keepQ L rep v M' := by
  subst hM
  refine ⟨B, fun p hp => List.mem_append_left _ (h p hp), fun p hp => List.mem_append_right _ hp, ?_, hr⟩
  rw [List.map_append, List.nodup_append] at hn ⊢
  refine ⟨hL, hn.2.1, fun a ha b hb => hn.2.2 a ?_ b hb⟩
  obtain ⟨p, hp, rfl⟩ := List.mem_map.1 ha
  exact List.mem_map_of_mem (h p hp)
theorem mem_keys {p : Nat × List Value} (h : p ∈ M) : p.1 ∈ M.map (·.1) := List.mem_map_of_mem h
theorem key_eq {p q : Nat × List Value} (hn : (M.map (·.1)).Nodup) (hp : p ∈ M) (hq : q ∈ M) (e : p.1 = q.1) : p = q := by
  have h1 := findB_of (b := p.1) (cs := p.2) hn hp
  have h2 := findB_of (b := q.1) (cs := q.2) hn hq
  rw [e, h2] at h1
  exact Prod.ext e (Option.some.inj h1).symm
theorem GivesK.acall {f : FuncId} {args : Array Value} {L : Blks} {rep R' : Value → Blks → Prop} (h : GivesK P f args L rep) (hM : (M.map (·.1)).Nodup) (hL : ∀ p ∈ L, p ∈ M) (hn : (L.map (·.1)).Nodup)
    (hk : ∀ v M1, rep v M1 → ((M ++ M1).map (·.1)).Nodup → (∀ p ∈ M1, Fresh w0 M p.1) → R' v (M ++ M1)) : ACall P W w0 f args M R' := by
  refine ⟨h.1, fun w hw => (h.2 w hn (fun p hp => hw.blk p (hL p hp)) toldW_nil).mono ?_⟩
  rintro e w' ⟨v, M', rfl, hw', M1, h1, h2, h3, h4⟩
  have hs : (M.filter fun p => decide (p.1 ∉ L.map (·.1))).Sublist M := List.filter_sublist
  have ho := hw.thenL hL hs (fun p hp => by simpa using (List.mem_filter.1 hp).2) hw'
  have hf : ∀ p ∈ M1, Fresh w0 M p.1 := by
    intro p hp
    have hpL : p.1 ∉ L.map (·.1) := by
      intro hm
      rw [List.map_append, List.nodup_append] at h3
      exact h3.2.2 _ hm _ (mem_keys hp) rfl
    rcases hw'.own p (h2 p hp) with h5 | h5
    · exact absurd h5 hpL
    · exact ⟨Nat.le_trans hw.size h5, fun q hq => by have := hw.lt hq; omega⟩
  have hnn : ((M ++ M1).map (·.1)).Nodup := by
    rw [List.map_append, List.nodup_append] at h3 ⊢
    refine ⟨hM, h3.2.1, ?_⟩
    intro a ha b hb e
    subst e
    obtain ⟨p, hp, rfl⟩ := List.mem_map.1 hb
    obtain ⟨q, hq, e⟩ := List.mem_map.1 ha
    exact (hf p hp).2 q hq e.symm
  refine ⟨v, M ++ M1, rfl, ho.turn (fun p hp => ?_) hnn, hk v M1 h4 hnn hf⟩
  rcases List.mem_append.1 hp with hp | hp
  · by_cases hpL : p.1 ∈ L.map (·.1)
    · obtain ⟨q, hq, e⟩ := List.mem_map.1 hpL
      rw [← key_eq hM (hL q hq) hp e]
      exact List.mem_append_left _ (h1 q hq)
    · exact List.mem_append_right _ (List.mem_filter.2 ⟨hp, by simpa using hpL⟩)
  · exact List.mem_append_left _ (h2 p hp)
end

end Go.Proofs

/-
  What the functions of this part hand back: each as a plain function of its arguments. Conditions: none.
-/
namespace Go.Proofs
open Go.W8
set_option linter.unusedVariables false
set_option linter.unusedSimpArgs false
set_option linter.unusedSectionVars false
set_option maxRecDepth 8000
set_option maxHeartbeats 4000000
/-- The parts of a text ahead of a place, and where the next one begins. -/
def spT (s : ByteArray) : Nat → List ByteArray × Nat
  | 0 => ([], 0)
  | k + 1 => if bt s (k : Int) = 47 then ((spT s k).1 ++ [s.extract (spT s k).2 k], k + 1) else spT s k
def spL (s : ByteArray) : List ByteArray := (spT s s.size).1 ++ [s.extract (spT s s.size).2 s.size]
theorem spT_at (s : ByteArray) : ∀ k, (spT s k).2 ≤ k
  | 0 => Nat.le_refl _
  | k + 1 => by
    have := spT_at s k
    unfold spT
    split
    · exact Nat.le_refl _
    · omega
theorem spT_len (s : ByteArray) : ∀ k, (spT s k).1.length ≤ k
  | 0 => Nat.le_refl _
  | k + 1 => by
    have := spT_len s k
    unfold spT
    split
    · simp; omega
    · omega
theorem spT_yes {s : ByteArray} {k : Nat} (h : bt s (k : Int) = 47) : spT s (k + 1) = ((spT s k).1 ++ [s.extract (spT s k).2 k], k + 1) := by
  show (if _ then _ else _) = _
  rw [if_pos h]
theorem spT_no {s : ByteArray} {k : Nat} (h : ¬ bt s (k : Int) = 47) : spT s (k + 1) = spT s k := by
  show (if _ then _ else _) = _
  rw [if_neg h]
def strs (l : List ByteArray) : List Value := l.map Value.string
theorem strs_snoc (l : List ByteArray) (a : ByteArray) : strs l ++ [.string a] = strs (l ++ [a]) := by simp [strs]
theorem split_c (s : ByteArray) (hs : s.size ≤ 1048576) : GivesX Tryd.prog 15 #[.string s, .int .u8 47] [] [] (SlN 1 (strs (spL s))) := by
  refine GivesX.part ?_
  refine GivesX.of (callable_of Tryd.func15 rfl (by decide)) ?_ fun w hnd hlt hR => ?_
  · simp
  refine acall_of (N := 35) (c := _) (rs := [.tmp 4]) (args := [_, _]) Tryd.func15 rfl (by decide) rfl rfl (Nat.le_of_ble_eq_true rfl) ?_
  refine Cd.rs [0, 1] fun K hK => ?_
  simp (maxSteps := 2000000) (disch := first | (simp only [E4] <;> omega) | omega | fail) only [↓E2, E3, bare, bareJ, ↓E0, E1, env0, envN, evOps, evOp, evQs, evQ, evV, setD, pureOp, ev, upd, updL, hav, ↓reduceIte, Zj, Zk, Nat.reduceAdd, Nat.reduceLT, Nat.reduceEqDiff, Nat.reduceMul, Nat.reduceLeDiff, if_true, Zn, reduceCtorEq, ZA, eq_self, Int.reduceLE, Int.reduceLT, Int.reduceToNat, ne_eq, Nat.reduceSub]
  repeat refine And.intro (by omega) ?_
  repeat refine And.intro (by omega) ?_
  intro g
  simp only [List.map_cons, List.map_nil, updL, upd, Nat.reduceEqDiff, if_true, if_false, ↓reduceIte]
  refine hK _ _ ?_; clear hK K
  refine Cd.rs [0, 1, 5] fun K hK => ?_
  simp (maxSteps := 2000000) (disch := first | (simp only [E4] <;> omega) | omega | fail) only [↓E2, E3, bare, bareJ, ↓E0, E1, evP, env0, envN, evOps, evOp, evQs, evQ, evV, setD, pureOp, ev, upd, updL, Value.cells, hav, bslQ, partsOk, partsCells, ↓reduceIte, Zj, Zk, Nat.reduceAdd, Nat.reduceLT, Nat.reduceEqDiff, Nat.reduceMul, Nat.reduceLeDiff, if_true, Zn, reduceCtorEq, ZA, eq_self, Int.reduceLE, Int.reduceLT, Int.reduceToNat, ne_eq, Nat.reduceSub, Tby9, Tslc36, Tslce36, Tzero9]
  repeat refine And.intro (by omega) ?_
  intro b1 hb1
  try simp (maxSteps := 2000000) (disch := first | (simp only [E4] <;> omega) | omega | fail) only [↓E2, E3, bare, bareJ, ↓E0, E1, evP, env0, envN, evOps, evOp, evQs, evQ, evV, setD, pureOp, ev, upd, updL, Value.cells, hav, bslQ, partsOk, partsCells, ↓reduceIte, Zj, Zk, Nat.reduceAdd, Nat.reduceLT, Nat.reduceEqDiff, Nat.reduceMul, Nat.reduceLeDiff, if_true, Zn, reduceCtorEq, ZA, eq_self, Int.reduceLE, Int.reduceLT, Int.reduceToNat, ne_eq, Nat.reduceSub, Tby9, Tslc36, Tslce36, Tzero9]
  repeat refine And.intro (by omega) ?_
  repeat refine And.intro (by omega) ?_
  intro g
  simp only [List.map_cons, List.map_nil, updL, upd, Nat.reduceEqDiff, if_true, if_false, ↓reduceIte]
  refine hK _ _ ?_; clear hK K
  refine Cd.rs [0, 1, 5, 6] fun K hK => ?_
  simp (maxSteps := 2000000) (disch := first | (simp only [E4] <;> omega) | omega | fail) only [↓E2, E3, bare, bareJ, ↓E0, E1, env0, envN, evOps, evOp, evQs, evQ, evV, setD, pureOp, ev, upd, updL, hav, ↓reduceIte, Zj, Zk, Nat.reduceAdd, Nat.reduceLT, Nat.reduceEqDiff, Nat.reduceMul, Nat.reduceLeDiff, if_true, Zn, reduceCtorEq, ZA, eq_self, Int.reduceLE, Int.reduceLT, Int.reduceToNat, ne_eq, Nat.reduceSub]
  repeat refine And.intro (by omega) ?_
  repeat refine And.intro (by omega) ?_
  intro g
  simp only [List.map_cons, List.map_nil, updL, upd, Nat.reduceEqDiff, if_true, if_false, ↓reduceIte]
  refine hK _ _ ?_; clear hK K
  refine Cd.seq ?_
  refine Cd.rs [0, 1, 5, 6, 7] fun K hK => ?_
  simp (maxSteps := 2000000) (disch := first | (simp only [E4] <;> omega) | omega | fail) only [↓E2, E3, bare, bareJ, ↓E0, E1, env0, envN, evOps, evOp, evQs, evQ, evV, setD, pureOp, ev, upd, updL, hav, ↓reduceIte, Zj, Zk, Nat.reduceAdd, Nat.reduceLT, Nat.reduceEqDiff, Nat.reduceMul, Nat.reduceLeDiff, if_true, Zn, reduceCtorEq, ZA, eq_self, Int.reduceLE, Int.reduceLT, Int.reduceToNat, ne_eq, Nat.reduceSub]
  repeat refine And.intro (by omega) ?_
  repeat refine And.intro (by omega) ?_
  intro g
  simp only [List.map_cons, List.map_nil, updL, upd, Nat.reduceEqDiff, if_true, if_false, ↓reduceIte]
  refine hK _ _ ?_; clear hK K
  refine Cd.block ?_
  refine Cd.loop (fun q ρ M => ∃ g k bo m cap cs, k + q = s.size ∧ Row 1 (strs (spT s k).1) m cap cs ∧ ρ = updL [(0, .string s), (1, .int .u8 47), (5, .slice (some ⟨bo, 0, none⟩) m cap), (6, .int .i64 ((spT s k).2 : Int)), (7, .int .i64 (k : Int))] g ∧ SubP [(bo, cs)] M) s.size ⟨_, 0, b1, 0, 0, [], Nat.zero_add _, Row.nil 1, rfl, SubP.refl _⟩ ?_
  rintro q ρ M ⟨g, k, bo, m, cap, cs, hk, hrow, rfl, hM⟩
  refine Cd.sub hM ?_
  clear hM M
  have hat := spT_at s k
  have hln := spT_len s k
  have hml := hrow.len1
  rw [show (strs (spT s k).1).length = (spT s k).1.length by simp [strs]] at hml
  have t1 := hrow.size1
  have t2 := hrow.le
  skip
  refine Cd.seq ?_
  refine Cd.rs [0, 1, 5, 6, 7, 12] fun K hK => ?_
  simp (maxSteps := 2000000) (disch := first | (simp only [E4] <;> omega) | omega | fail) only [↓E2, E3, bare, bareJ, ↓E0, E1, env0, envN, evOps, evOp, evQs, evQ, evV, setD, pureOp, ev, upd, updL, binW, eqOp, binV, intOp, shOp, boolOp, lenV, hav, eqL, SameI, strOp, ↓reduceIte, Zj, Zk, Nat.reduceAdd, Nat.reduceLT, Nat.reduceEqDiff, Nat.reduceMul, Nat.reduceLeDiff, if_true, Zn, reduceCtorEq, ZA, eq_self, Int.reduceLE, Int.reduceLT, Int.reduceToNat, ne_eq, Nat.reduceSub, Tstr9]
  repeat refine And.intro (by omega) ?_
  repeat refine And.intro (by omega) ?_
  intro g
  simp only [List.map_cons, List.map_nil, updL, upd, Nat.reduceEqDiff, if_true, if_false, ↓reduceIte]
  refine hK _ _ ?_; clear hK K
  refine Cd.condd rfl (fun c1 => ?_) (fun c1 => ?_)
  · refine Cd.skip ?_
    refine thenN ?_
    refine Cd.midq (fun ρ M => ∃ g bo m cap cs, Row 1 (strs (spT s (k + 1)).1) m cap cs ∧ ρ = updL [(0, .string s), (1, .int .u8 47), (5, .slice (some ⟨bo, 0, none⟩) m cap), (6, .int .i64 ((spT s (k + 1)).2 : Int)), (7, .int .i64 (k : Int))] g ∧ SubP [(bo, cs)] M) ?_ ?_
    · refine Cd.block ?_
      refine Cd.rs [0, 1, 5, 6, 7, 19] fun K hK => ?_
      simp (maxSteps := 2000000) (disch := first | (simp only [E4, indexV] <;> omega) | omega | fail) only [↓E2, E3, bare, bareJ, ↓E0, E1, env0, envN, evOps, evOp, evQs, evQ, evV, setD, pureOp, ev, upd, updL, binW, eqOp, binV, intOp, shOp, boolOp, indexAddrV, cellAt, hav, eqL, SameI, strOp, ↓reduceIte, Zj, Zk, Nat.reduceAdd, Nat.reduceLT, Nat.reduceEqDiff, Nat.reduceMul, Nat.reduceLeDiff, if_true, Zn, reduceCtorEq, ZA, eq_self, Int.reduceLE, Int.reduceLT, Int.reduceToNat, ne_eq, Nat.reduceSub, Tstr9, indexV]
      repeat refine And.intro (by omega) ?_
      repeat refine And.intro (by omega) ?_
      intro g
      simp only [List.map_cons, List.map_nil, updL, upd, Nat.reduceEqDiff, if_true, if_false, ↓reduceIte]
      refine hK _ _ ?_; clear hK K
      refine Cd.cond rfl (fun c2 => ?_) (fun c2 => ?_)
      · simp only [decide_eq_true_eq, decide_eq_false_iff_not, beq_iff_eq, beq_eq_false_iff_ne, bne_iff_ne, bne_eq_false_iff_eq, Bool.and_eq_true, Bool.or_eq_true, Bool.or_eq_false_iff, Bool.not_eq_true', Bool.not_eq_false', Bool.and_eq_false_imp, ne_eq, gt_iff_lt, ge_iff_le, Int.not_lt, Int.not_le, Classical.not_not] at c2
        rw [spT_yes c2]
        refine Cd.rs [0, 1, 5, 7] fun K hK => ?_
        simp (maxSteps := 2000000) (disch := first | (simp only [E4] <;> omega) | omega | fail) only [↓E2, E3, bare, bareJ, ↓E0, E1, evP, env0, envN, evOps, evOp, evQs, evQ, evV, setD, pureOp, ev, upd, updL, cellAt, cellsAt, findB, Value.cells, lenV, hav, sliceV, loV, hiV, bslQ, appQ, partsOk, partsCells, delB, apzQ, ↓reduceIte, Zj, Zk, Nat.reduceAdd, Nat.reduceLT, Nat.reduceEqDiff, Nat.reduceMul, Nat.reduceLeDiff, if_true, Zn, reduceCtorEq, ZA, eq_self, Int.reduceLE, Int.reduceLT, Int.reduceToNat, ne_eq, Nat.reduceSub, Tby9, Tslc36, Tslce36, Tstr9, Tzero9]
        repeat refine And.intro (by omega) ?_
        intro b2 hb2
        have nb2_bo := hb2.ne
        try simp (maxSteps := 2000000) (disch := first | (simp only [E4] <;> omega) | omega | fail) only [↓E2, E3, bare, bareJ, ↓E0, E1, evP, env0, envN, evOps, evOp, evQs, evQ, evV, setD, pureOp, ev, upd, updL, cellAt, cellsAt, findB, Value.cells, lenV, hav, sliceV, loV, hiV, bslQ, appQ, partsOk, partsCells, delB, apzQ, ↓reduceIte, Zj, Zk, Nat.reduceAdd, Nat.reduceLT, Nat.reduceEqDiff, Nat.reduceMul, Nat.reduceLeDiff, if_true, Zn, reduceCtorEq, ZA, eq_self, Int.reduceLE, Int.reduceLT, Int.reduceToNat, ne_eq, Nat.reduceSub, Tby9, Tslc36, Tslce36, Tstr9, Tzero9, nb2_bo]
        repeat refine And.intro (by omega) ?_
        intro b' cap' rest' hf hc hr'
        have hr2 := hrow.snoc1 (m' := 1) (news := [.string (s.extract (spT s k).2 k)]) rfl hc hr'
        rw [strs_snoc] at hr2
        repeat refine And.intro (by omega) ?_
        intro g
        simp only [List.map_cons, List.map_nil, updL, upd, Nat.reduceEqDiff, if_true, if_false, ↓reduceIte]
        refine hK _ _ ?_; clear hK K
        refine Cd.rr [0, 1, 5, 6, 7] fun K hK => ?_
        simp (maxSteps := 2000000) (disch := first | (simp only [E4] <;> omega) | omega | fail) only [↓E2, E3, bare, bareJ, ↓E0, E1, env0, envN, evOps, evOp, evQs, evQ, evV, setD, pureOp, ev, upd, updL, binW, eqOp, binV, intOp, shOp, boolOp, hav, eqL, SameI, strOp, ↓reduceIte, Zj, Zk, Nat.reduceAdd, Nat.reduceLT, Nat.reduceEqDiff, Nat.reduceMul, Nat.reduceLeDiff, if_true, Zn, reduceCtorEq, ZA, eq_self, Int.reduceLE, Int.reduceLT, Int.reduceToNat, ne_eq, Nat.reduceSub, nb2_bo]
        repeat refine And.intro (by omega) ?_
        repeat refine And.intro (by omega) ?_
        intro g
        simp only [List.map_cons, List.map_nil, updL, upd, Nat.reduceEqDiff, if_true, if_false, ↓reduceIte]
        refine hK _ _ ?_; clear hK K
        refine inBN ?_
        exact midN ⟨_, b', _, cap', _, hr2, rfl, by exact subP_cnt [(b2, [.string (s.extract (spT s k).2 k)])] fun _ => by simp only [cnt_cons, cnt_append, cnt_nil]; omega⟩
      · simp only [decide_eq_true_eq, decide_eq_false_iff_not, beq_iff_eq, beq_eq_false_iff_ne, bne_iff_ne, bne_eq_false_iff_eq, Bool.and_eq_true, Bool.or_eq_true, Bool.or_eq_false_iff, Bool.not_eq_true', Bool.not_eq_false', Bool.and_eq_false_imp, ne_eq, gt_iff_lt, ge_iff_le, Int.not_lt, Int.not_le, Classical.not_not] at c2
        rw [spT_no c2]
        refine Cd.skip ?_
        refine inBN ?_
        exact midN ⟨_, bo, m, cap, cs, hrow, rfl, SubP.refl _⟩
    · rintro ρ M ⟨g, bo, m, cap, cs, hrow, rfl, hM⟩
      refine Cd.sub hM ?_
      clear hM M
      refine Cd.rr [0, 1, 5, 6, 7] fun K hK => ?_
      simp (maxSteps := 2000000) (disch := first | (simp only [E4] <;> omega) | omega | fail) only [↓E2, E3, bare, bareJ, ↓E0, E1, env0, envN, evOps, evOp, evQs, evQ, evV, setD, pureOp, ev, upd, updL, binW, eqOp, binV, intOp, shOp, boolOp, hav, eqL, SameI, strOp, ↓reduceIte, Zj, Zk, Nat.reduceAdd, Nat.reduceLT, Nat.reduceEqDiff, Nat.reduceMul, Nat.reduceLeDiff, if_true, Zn, reduceCtorEq, ZA, eq_self, Int.reduceLE, Int.reduceLT, Int.reduceToNat, ne_eq, Nat.reduceSub]
      repeat refine And.intro (by omega) ?_
      repeat refine And.intro (by omega) ?_
      intro g
      simp only [List.map_cons, List.map_nil, updL, upd, Nat.reduceEqDiff, if_true, if_false, ↓reduceIte]
      refine hK _ _ ?_; clear hK K
      exact roundN (m := q - 1) (by omega) ⟨_, k + 1, bo, m, cap, cs, by omega, hrow, rfl, SubP.refl _⟩
  · refine Cd.exit (thenX (roundX (inBX ?_)))
    refine thenN ?_
    obtain rfl : k = s.size := by omega
    refine Cd.rs [4] fun K hK => ?_
    simp (maxSteps := 2000000) (disch := first | (simp only [E4] <;> omega) | omega | fail) only [↓E2, E3, bare, bareJ, ↓E0, E1, evP, env0, envN, evOps, evOp, evQs, evQ, evV, setD, pureOp, ev, upd, updL, cellAt, cellsAt, findB, Value.cells, lenV, hav, sliceV, loV, hiV, bslQ, appQ, partsOk, partsCells, delB, apzQ, ↓reduceIte, Zj, Zk, Nat.reduceAdd, Nat.reduceLT, Nat.reduceEqDiff, Nat.reduceMul, Nat.reduceLeDiff, if_true, Zn, reduceCtorEq, ZA, eq_self, Int.reduceLE, Int.reduceLT, Int.reduceToNat, ne_eq, Nat.reduceSub, Tby9, Tslc36, Tslce36, Tstr9, Tzero9]
    repeat refine And.intro (by omega) ?_
    intro b3 hb3
    have nb3_bo := hb3.ne
    try simp (maxSteps := 2000000) (disch := first | (simp only [E4] <;> omega) | omega | fail) only [↓E2, E3, bare, bareJ, ↓E0, E1, evP, env0, envN, evOps, evOp, evQs, evQ, evV, setD, pureOp, ev, upd, updL, cellAt, cellsAt, findB, Value.cells, lenV, hav, sliceV, loV, hiV, bslQ, appQ, partsOk, partsCells, delB, apzQ, ↓reduceIte, Zj, Zk, Nat.reduceAdd, Nat.reduceLT, Nat.reduceEqDiff, Nat.reduceMul, Nat.reduceLeDiff, if_true, Zn, reduceCtorEq, ZA, eq_self, Int.reduceLE, Int.reduceLT, Int.reduceToNat, ne_eq, Nat.reduceSub, Tby9, Tslc36, Tslce36, Tstr9, Tzero9, nb3_bo]
    repeat refine And.intro (by omega) ?_
    intro b' cap' rest' hf hc hr'
    have hr2 := hrow.snoc1 (m' := 1) (news := [.string (s.extract (spT s s.size).2 s.size)]) rfl hc hr'
    rw [strs_snoc] at hr2
    repeat refine And.intro (by omega) ?_
    intro g
    simp only [List.map_cons, List.map_nil, updL, upd, Nat.reduceEqDiff, if_true, if_false, ↓reduceIte]
    refine hK _ _ ?_; clear hK K
    refine Cd.ret ?_
    simp (maxSteps := 2000000) (disch := first | (simp only [E4] <;> omega) | omega | fail) only [↓E2, E3, bare, bareJ, ↓E0, E1, evP, evPlan, env0, envN, evOps, evOp, evQs, evQ, evV, setD, pureOp, ev, upd, updL, gate, binW, eqOp, binV, intOp, shOp, boolOp, unV, convV, nilV, fieldAddrV, indexAddrV, extractV, cellAt, cellsAt, findB, setB, fillL, buildV, Value.cells, lenV, minV, maxV, hav, sliceV, loV, hiV, bslQ, mksQ, appQ, partsOk, partsCells, delB, eqL, SameI, strOp, apzQ, cvtQ, capV, ↓reduceIte, Zj, Zk, Nat.reduceAdd, Nat.reduceLT, Nat.reduceEqDiff, Nat.reduceMul, Nat.reduceLeDiff, if_true, Zn, reduceCtorEq, ZA, eq_self, Int.reduceLE, Int.reduceLT, Int.reduceToNat, ne_eq, Nat.reduceSub, nb3_bo]
    repeat refine And.intro (by omega) ?_
    exact ⟨_, SubP.of (List.Sublist.cons_cons _ (List.nil_sublist _)), SlN.row hr2⟩

end Go.Proofs

/-
  What the functions of this part hand back: each as a plain function of its arguments. Conditions: none.
-/
namespace Go.Proofs
open Go.W8
set_option linter.unusedVariables false
set_option linter.unusedSimpArgs false
set_option linter.unusedSectionVars false
set_option maxRecDepth 8000
set_option maxHeartbeats 4000000
def p0 (s : ByteArray) : ByteArray := (spL s).getD 0 ⟨#[]⟩
def p1 (s : ByteArray) : ByteArray := (spL s).getD 1 ⟨#[]⟩
def readR (s : ByteArray) : Value := if (spL s).length = 2 ∧ goodB (p0 s) (p1 s) = true then .tuple #[.agg (gc ((p0 s).size : Int) (tab (dg (p0 s) (p0 s).size)) (tab (dg (p1 s) (p0 s).size))).toArray, .bool (gridB ((p0 s).size : Int) (tab (dg (p0 s) (p0 s).size)) (tab (dg (p1 s) (p0 s).size)))] else .tuple #[.agg (gc 0 z8 z8).toArray, .bool false]
def okTo (s : ByteArray) (k : Nat) : Prop := ∀ q, q < k → 48 ≤ bt s (q : Int) ∧ bt s (q : Int) ≤ 55
theorem okTo_succ {s : ByteArray} {k : Nat} (h : okTo s k) (h1 : 48 ≤ bt s (k : Int)) (h2 : bt s (k : Int) ≤ 55) : okTo s (k + 1) := fun q hq => by
  rcases Nat.lt_succ_iff_lt_or_eq.1 hq with h3 | h3
  · exact h q h3
  · subst h3; exact ⟨h1, h2⟩
theorem read_c (s : ByteArray) (hs : s.size ≤ 1048576) : Gives Tryd.prog 10 #[.string s] (readR s) := by
  unfold readR
  have hsp := split_c s hs
  refine GivesX.gives ?_
  refine GivesX.of (callable_of Tryd.func10 rfl (by decide)) ?_ fun w hnd hlt hR => ?_
  · simp
  refine acall_of (N := 84) (c := _) (rs := [.cell 2 24, .tmp 3]) (args := [_]) Tryd.func10 rfl (by decide) rfl rfl (Nat.le_of_ble_eq_true rfl) ?_
  refine Cd.rs [0, 2] fun K hK => ?_
  simp (maxSteps := 2000000) (disch := first | (simp only [E4] <;> omega) | omega | fail) only [↓E2, E3, bare, bareJ, ↓E0, E1, env0, envN, evOps, evOp, evQs, evQ, evV, setD, pureOp, ev, upd, updL, Value.cells, hav, ↓reduceIte, Zj, Zk, Nat.reduceAdd, Nat.reduceLT, Nat.reduceEqDiff, Nat.reduceMul, Nat.reduceLeDiff, if_true, Zn, reduceCtorEq, ZA, eq_self, Int.reduceLE, Int.reduceLT, Int.reduceToNat, ne_eq, Nat.reduceSub, Tzero24]
  repeat refine And.intro (by omega) ?_
  intro b1 hb1
  try simp (maxSteps := 2000000) (disch := first | (simp only [E4] <;> omega) | omega | fail) only [↓E2, E3, bare, bareJ, ↓E0, E1, env0, envN, evOps, evOp, evQs, evQ, evV, setD, pureOp, ev, upd, updL, Value.cells, hav, ↓reduceIte, Zj, Zk, Nat.reduceAdd, Nat.reduceLT, Nat.reduceEqDiff, Nat.reduceMul, Nat.reduceLeDiff, if_true, Zn, reduceCtorEq, ZA, eq_self, Int.reduceLE, Int.reduceLT, Int.reduceToNat, ne_eq, Nat.reduceSub, Tzero24]
  repeat refine And.intro (by omega) ?_
  repeat refine And.intro (by omega) ?_
  intro g
  simp only [List.map_cons, List.map_nil, updL, upd, Nat.reduceEqDiff, if_true, if_false, ↓reduceIte]
  refine hK _ _ ?_; clear hK K
  refine Cd.rs [2, 4] fun K hK => ?_
  simp (maxSteps := 2000000) (disch := first | (simp only [E4] <;> omega) | omega | fail) only [↓E2, E3, bare, bareJ, ↓E0, E1, env0, envN, evOps, evOp, evQs, evQ, evV, setD, pureOp, ev, upd, updL, cellAt, cellsAt, findB, setB, hav, ↓reduceIte, Zj, Zk, Nat.reduceAdd, Nat.reduceLT, Nat.reduceEqDiff, Nat.reduceMul, Nat.reduceLeDiff, if_true, Zn, reduceCtorEq, ZA, eq_self, Int.reduceLE, Int.reduceLT, Int.reduceToNat, ne_eq, Nat.reduceSub]
  repeat refine And.intro (by omega) ?_
  refine callK_newR0 hsp (fun _ _ => toldW_nil) ?_
  rintro v M1 hv nd1 _
  have hlen : ∃ a m cap, v = .slice a m cap ∧ m = (spL s).length := by
    rcases hv with ⟨h1, h2, _⟩ | ⟨b, m, cap, cs, h1, _, h3⟩
    · have := congrArg List.length h1
      simp [strs] at this
      exact ⟨_, _, _, h2, by rw [this]; rfl⟩
    · refine ⟨_, _, _, h1, ?_⟩
      have := h3.len1
      simp [strs] at this
      exact this.symm
  obtain ⟨a1, m1, cp1, rfl, em⟩ := hlen
  simp only [List.cons_append, List.nil_append] at nd1 ⊢
  simp (maxSteps := 2000000) (disch := first | (simp only [E4] <;> omega) | omega | fail) only [↓E2, E3, bare, bareJ, ↓E0, E1, env0, envN, evOps, evOp, evQs, evQ, evV, setD, pureOp, ev, upd, updL, cellAt, cellsAt, findB, setB, hav, ↓reduceIte, Zj, Zk, Nat.reduceAdd, Nat.reduceLT, Nat.reduceEqDiff, Nat.reduceMul, Nat.reduceLeDiff, if_true, Zn, reduceCtorEq, ZA, eq_self, Int.reduceLE, Int.reduceLT, Int.reduceToNat, ne_eq, Nat.reduceSub]
  repeat refine And.intro (by omega) ?_
  repeat refine And.intro (by omega) ?_
  intro g
  simp only [List.map_cons, List.map_nil, updL, upd, Nat.reduceEqDiff, if_true, if_false, ↓reduceIte]
  refine hK _ _ ?_; clear hK K
  refine Cd.seq ?_
  by_cases h2 : (spL s).length = 2
  · obtain ⟨x0, x1, e01⟩ : ∃ x0 x1, spL s = [x0, x1] := by
      match h : spL s, h2 with
      | [a, b], _ => exact ⟨a, b, rfl⟩
    have e0 : p0 s = x0 := by unfold p0; rw [e01]; rfl
    have e1 : p1 s = x1 := by unfold p1; rw [e01]; rfl
    rw [e0, e1]
    obtain rfl : m1 = 2 := by omega
    rcases hv with ⟨h1, _, _⟩ | ⟨b, m, cap, cs, h1, rfl, hrow⟩
    · rw [e01] at h1; cases h1
    cases h1
    rw [e01] at hrow
    have g0 : cs[0]? = some (.string x0) := hrow.get rfl
    have g1 : cs[1]? = some (.string x1) := hrow.get rfl
    clear hsp e0 e1 hrow
    have d1 : (b1 = b) = False := eq_false ((nodup_cases nd1).1 (b, cs) (by simp))
    skip
    refine Cd.qs [2, 4, 31] fol (by kernel_rfl) fun K hK => ?_
    simp (maxSteps := 2000000) (disch := first | (simp only [E4, g0, g1, d1] <;> omega) | omega | fail) only [↓E2, E3, bare, bareJ, ↓E0, E1, evPlan, env0, envN, evOps, evOp, evQs, evQ, evV, setD, pureOp, ev, upd, updL, gate, binW, eqOp, binV, intOp, shOp, boolOp, indexAddrV, cellAt, cellsAt, findB, lenV, hav, eqL, SameI, strOp, ↓reduceIte, Zj, Zk, Nat.reduceAdd, Nat.reduceLT, Nat.reduceEqDiff, Nat.reduceMul, Nat.reduceLeDiff, if_true, Zn, reduceCtorEq, ZA, eq_self, Int.reduceLE, Int.reduceLT, Int.reduceToNat, ne_eq, Nat.reduceSub, Tld9, Tslc36, Tslce36, Tstr9, g0, g1, d1]
    repeat refine And.intro (by omega) ?_
    apply guardY_or 9 [15, 16, 17, 18, 19, 20, 21, 22, 23] (j := 3) (d := 14) (tp := 24) (tl := 23) (x := ((x0.size : Int) != (x1.size : Int))) rfl rfl rfl rfl rfl
    · intro hq
      simp (maxSteps := 2000000) (disch := first | (simp only [E4, g0, g1, d1] <;> omega) | omega | fail) only [↓E2, E3, bare, bareJ, ↓E0, E1, evPlan, env0, envN, evOps, evOp, evQs, evQ, evV, setD, pureOp, ev, upd, updL, gate, binW, eqOp, binV, intOp, shOp, boolOp, indexAddrV, cellAt, cellsAt, findB, lenV, hav, eqL, SameI, strOp, ↓reduceIte, Zj, Zk, Nat.reduceAdd, Nat.reduceLT, Nat.reduceEqDiff, Nat.reduceMul, Nat.reduceLeDiff, if_true, Zn, reduceCtorEq, ZA, eq_self, Int.reduceLE, Int.reduceLT, Int.reduceToNat, ne_eq, Nat.reduceSub, Tld9, Tslc36, Tslce36, Tstr9, g0, g1, d1]
      repeat refine And.intro (by omega) ?_
    intro g
    simp (maxSteps := 2000000) (disch := first | (simp only [E4, g0, g1, d1] <;> omega) | omega | fail) only [↓E2, E3, bare, bareJ, ↓E0, E1, evPlan, env0, envN, evOps, evOp, evQs, evQ, evV, setD, pureOp, ev, upd, updL, gate, binW, eqOp, binV, intOp, shOp, boolOp, indexAddrV, cellAt, cellsAt, findB, lenV, hav, eqL, SameI, strOp, ↓reduceIte, Zj, Zk, Nat.reduceAdd, Nat.reduceLT, Nat.reduceEqDiff, Nat.reduceMul, Nat.reduceLeDiff, if_true, Zn, reduceCtorEq, ZA, eq_self, Int.reduceLE, Int.reduceLT, Int.reduceToNat, ne_eq, Nat.reduceSub, Tld9, Tslc36, Tslce36, Tstr9, g0, g1, d1]
    repeat refine And.intro (by omega) ?_
    apply guardY_or 5 [26, 27, 28, 29, 30] (j := 14) (d := 25) (tp := 31) (tl := 30) (x := decide ((x0.size : Int) > 8)) rfl rfl rfl rfl rfl
    · intro hq
      simp (maxSteps := 2000000) (disch := first | (simp only [E4, g0, g1, d1] <;> omega) | omega | fail) only [↓E2, E3, bare, bareJ, ↓E0, E1, evPlan, env0, envN, evOps, evOp, evQs, evQ, evV, setD, pureOp, ev, upd, updL, gate, binW, eqOp, binV, intOp, shOp, boolOp, indexAddrV, cellAt, cellsAt, findB, lenV, hav, eqL, SameI, strOp, ↓reduceIte, Zj, Zk, Nat.reduceAdd, Nat.reduceLT, Nat.reduceEqDiff, Nat.reduceMul, Nat.reduceLeDiff, if_true, Zn, reduceCtorEq, ZA, eq_self, Int.reduceLE, Int.reduceLT, Int.reduceToNat, ne_eq, Nat.reduceSub, Tld9, Tslc36, Tslce36, Tstr9, g0, g1, d1]
      repeat refine And.intro (by omega) ?_
    intro g
    simp (maxSteps := 2000000) (disch := first | (simp only [E4, g0, g1, d1] <;> omega) | omega | fail) only [↓E2, E3, bare, bareJ, ↓E0, E1, evPlan, env0, envN, evOps, evOp, evQs, evQ, evV, setD, pureOp, ev, upd, updL, gate, binW, eqOp, binV, intOp, shOp, boolOp, indexAddrV, cellAt, cellsAt, findB, lenV, hav, eqL, SameI, strOp, ↓reduceIte, Zj, Zk, Nat.reduceAdd, Nat.reduceLT, Nat.reduceEqDiff, Nat.reduceMul, Nat.reduceLeDiff, if_true, Zn, reduceCtorEq, ZA, eq_self, Int.reduceLE, Int.reduceLT, Int.reduceToNat, ne_eq, Nat.reduceSub, Tld9, Tslc36, Tslce36, Tstr9, g0, g1, d1]
    repeat refine And.intro (by omega) ?_
    repeat refine And.intro (by omega) ?_
    intro g
    simp only [List.map_cons, List.map_nil, updL, upd, Nat.reduceEqDiff, if_true, if_false, ↓reduceIte]
    refine hK _ ?_; clear hK K
    refine Cd.cond rfl (fun c1 => ?_) (fun c1 => ?_)
    · have hgd : ¬ ((spL s).length = 2 ∧ goodB x0 x1 = true) := fun h => by
        have h := h.2
        unfold goodB at h
        simp only [Bool.and_eq_true, decide_eq_true_eq] at h
        have h8 : ¬ ((x0.size : Int) > 8) := by omega
        rw [← h.1.1] at c1
        simp [h8] at c1
      rw [if_neg hgd]
      refine Cd.rs [2, 3] fun K hK => ?_
      simp (maxSteps := 2000000) (disch := first | (simp only [E4, g0, g1, d1] <;> omega) | omega | fail) only [↓E2, E3, bare, bareJ, ↓E0, E1, evP, env0, envN, evOps, evOp, evQs, evQ, evV, setD, pureOp, ev, upd, updL, cellAt, cellsAt, findB, setB, fillL, buildV, Value.cells, hav, ↓reduceIte, Zj, Zk, Nat.reduceAdd, Nat.reduceLT, Nat.reduceEqDiff, Nat.reduceMul, Nat.reduceLeDiff, if_true, Zn, reduceCtorEq, ZA, eq_self, Int.reduceLE, Int.reduceLT, Int.reduceToNat, ne_eq, Nat.reduceSub, Tbld24, Tst24, g0, g1, d1]
      repeat refine And.intro (by omega) ?_
      repeat refine And.intro (by omega) ?_
      intro g
      simp only [List.map_cons, List.map_nil, updL, upd, Nat.reduceEqDiff, if_true, if_false, ↓reduceIte]
      refine hK _ _ ?_; clear hK K
      refine Cd.ret (thenR ?_)
      simp (maxSteps := 2000000) (disch := first | (simp only [E4, g0, g1, d1] <;> omega) | omega | fail) only [↓E2, E3, bare, bareJ, ↓E0, E1, evP, evPlan, env0, envN, evOps, evOp, evQs, evQ, evV, setD, pureOp, ev, upd, updL, gate, binW, eqOp, binV, intOp, shOp, boolOp, unV, convV, nilV, fieldAddrV, indexAddrV, extractV, cellAt, cellsAt, findB, setB, fillL, buildV, Value.cells, lenV, minV, maxV, hav, sliceV, loV, hiV, bslQ, mksQ, appQ, partsOk, partsCells, delB, eqL, SameI, strOp, apzQ, cvtQ, capV, ↓reduceIte, Zj, Zk, Nat.reduceAdd, Nat.reduceLT, Nat.reduceEqDiff, Nat.reduceMul, Nat.reduceLeDiff, if_true, Zn, reduceCtorEq, ZA, eq_self, Int.reduceLE, Int.reduceLT, Int.reduceToNat, ne_eq, Nat.reduceSub, Tld24, g0, g1, d1]
      repeat refine And.intro (by omega) ?_
    · simp only [Bool.false_or, Bool.or_eq_false_iff, bne_eq_false_iff_eq, decide_eq_false_iff_not, gt_iff_lt] at c1
      obtain ⟨q1, q2⟩ := c1
      have q1 : x0.size = x1.size := by omega
      have q2 : x0.size ≤ 8 := by omega
      have tl := fun f : Nat → Int => tab_len f
      skip
      skip
      refine Cd.skip ?_
      refine thenN ?_
      refine Cd.rs [2, 4, 5] fun K hK => ?_
      simp (maxSteps := 2000000) (disch := first | (simp only [E4, g0, g1, d1, tl] <;> omega) | omega | fail) only [↓E2, E3, bare, bareJ, ↓E0, E1, evP, env0, envN, evOps, evOp, evQs, evQ, evV, setD, pureOp, ev, upd, updL, indexAddrV, cellAt, cellsAt, findB, setB, fillL, buildV, Value.cells, lenV, hav, ↓reduceIte, Zj, Zk, Nat.reduceAdd, Nat.reduceLT, Nat.reduceEqDiff, Nat.reduceMul, Nat.reduceLeDiff, if_true, Zn, reduceCtorEq, ZA, eq_self, Int.reduceLE, Int.reduceLT, Int.reduceToNat, ne_eq, Nat.reduceSub, Tbld24, Tld9, Tslc36, Tst24, Tstr9, Tzero24, g0, g1, d1, tl]
      repeat refine And.intro (by omega) ?_
      intro b2 hb2
      have nb2_b1 := hb2.ne
      have nb2_b := hb2.tail.ne
      try simp (maxSteps := 2000000) (disch := first | (simp only [E4, g0, g1, d1, tl] <;> omega) | omega | fail) only [↓E2, E3, bare, bareJ, ↓E0, E1, evP, env0, envN, evOps, evOp, evQs, evQ, evV, setD, pureOp, ev, upd, updL, indexAddrV, cellAt, cellsAt, findB, setB, fillL, buildV, Value.cells, lenV, hav, ↓reduceIte, Zj, Zk, Nat.reduceAdd, Nat.reduceLT, Nat.reduceEqDiff, Nat.reduceMul, Nat.reduceLeDiff, if_true, Zn, reduceCtorEq, ZA, eq_self, Int.reduceLE, Int.reduceLT, Int.reduceToNat, ne_eq, Nat.reduceSub, Tbld24, Tld9, Tslc36, Tst24, Tstr9, Tzero24, g0, g1, d1, tl, nb2_b1, nb2_b]
      repeat refine And.intro (by omega) ?_
      repeat refine And.intro (by omega) ?_
      intro g
      simp only [List.map_cons, List.map_nil, updL, upd, Nat.reduceEqDiff, if_true, if_false, ↓reduceIte]
      refine hK _ _ ?_; clear hK K
      refine Cd.seq ?_
      refine Cd.rs [2, 4, 5, 6] fun K hK => ?_
      simp (maxSteps := 2000000) (disch := first | (simp only [E4, g0, g1, d1, tl] <;> omega) | omega | fail) only [↓E2, E3, bare, bareJ, ↓E0, E1, env0, envN, evOps, evOp, evQs, evQ, evV, setD, pureOp, ev, upd, updL, hav, ↓reduceIte, Zj, Zk, Nat.reduceAdd, Nat.reduceLT, Nat.reduceEqDiff, Nat.reduceMul, Nat.reduceLeDiff, if_true, Zn, reduceCtorEq, ZA, eq_self, Int.reduceLE, Int.reduceLT, Int.reduceToNat, ne_eq, Nat.reduceSub, g0, g1, d1, tl, nb2_b1, nb2_b]
      repeat refine And.intro (by omega) ?_
      repeat refine And.intro (by omega) ?_
      intro g
      simp only [List.map_cons, List.map_nil, updL, upd, Nat.reduceEqDiff, if_true, if_false, ↓reduceIte]
      refine hK _ _ ?_; clear hK K
      refine Cd.block ?_
      refine Cd.loop (fun q ρ M => ∃ g k, k + q = x0.size ∧ okTo x0 k ∧ okTo x1 k ∧ ρ = updL [(2, .pointer (some ⟨b1, 0, none⟩)), (4, .slice (some ⟨b, 0, none⟩) 2 cp1), (5, .pointer (some ⟨b2, 0, none⟩)), (6, .int .i64 (k : Int))] g ∧ M = [(b2, gc (x0.size : Int) (tab (dg x0 k)) (tab (dg x1 k))), (b1, gc 0 z8 z8), (b, cs)]) x0.size ⟨_, 0, Nat.zero_add _, (fun _ h => nomatch h), (fun _ h => nomatch h), rfl, by rw [dg_zero, dg_zero]⟩ ?_
      rintro q ρ M ⟨g, k, hk, ok0, ok1, rfl, rfl⟩
      refine Cd.seq ?_
      refine Cd.rs [2, 4, 5, 6, 43] fun K hK => ?_
      simp (maxSteps := 2000000) (disch := first | (simp only [E4, g0, g1, d1, tl] <;> omega) | omega | fail) only [↓E2, E3, bare, bareJ, ↓E0, E1, env0, envN, evOps, evOp, evQs, evQ, evV, setD, pureOp, ev, upd, updL, binW, eqOp, binV, intOp, shOp, boolOp, indexAddrV, cellAt, cellsAt, findB, lenV, hav, eqL, SameI, strOp, ↓reduceIte, Zj, Zk, Nat.reduceAdd, Nat.reduceLT, Nat.reduceEqDiff, Nat.reduceMul, Nat.reduceLeDiff, if_true, Zn, reduceCtorEq, ZA, eq_self, Int.reduceLE, Int.reduceLT, Int.reduceToNat, ne_eq, Nat.reduceSub, Tld9, Tslc36, Tstr9, g0, g1, d1, tl, nb2_b1, nb2_b]
      repeat refine And.intro (by omega) ?_
      repeat refine And.intro (by omega) ?_
      intro g
      simp only [List.map_cons, List.map_nil, updL, upd, Nat.reduceEqDiff, if_true, if_false, ↓reduceIte]
      refine hK _ _ ?_; clear hK K
      refine Cd.condd rfl (fun c2 => ?_) (fun c2 => ?_)
      · have r0 := bt_rng x0 (k : Int)
        have r1 := bt_rng x1 (k : Int)
        have hk1 : k < x1.size := by omega
        refine Cd.skip ?_
        refine thenN ?_
        refine Cd.seq ?_
        refine Cd.block ?_
        refine Cd.qs [2, 4, 5, 6, 7, 8] fol (by kernel_rfl) fun K hK => ?_
        simp (maxSteps := 2000000) (disch := first | (simp only [E4, g0, g1, d1, tl, indexV] <;> omega) | omega | fail) only [↓E2, E3, bare, bareJ, ↓E0, E1, evPlan, env0, envN, evOps, evOp, evQs, evQ, evV, setD, pureOp, ev, upd, updL, indexAddrV, cellAt, cellsAt, findB, hav, ↓reduceIte, Zj, Zk, Nat.reduceAdd, Nat.reduceLT, Nat.reduceEqDiff, Nat.reduceMul, Nat.reduceLeDiff, if_true, Zn, reduceCtorEq, ZA, eq_self, Int.reduceLE, Int.reduceLT, Int.reduceToNat, ne_eq, Nat.reduceSub, Tld9, Tslc36, Tstr9, g0, g1, d1, tl, nb2_b1, nb2_b, indexV]
        repeat refine And.intro (by omega) ?_
        repeat refine And.intro (by omega) ?_
        intro g
        simp only [List.map_cons, List.map_nil, updL, upd, Nat.reduceEqDiff, if_true, if_false, ↓reduceIte]
        refine hK _ ?_; clear hK K
        refine Cd.seq ?_
        refine Cd.rs [2, 4, 5, 6, 7, 8, 69] fun K hK => ?_
        simp (maxSteps := 2000000) (disch := first | (simp only [E4, g0, g1, d1, tl] <;> omega) | omega | fail) only [↓E2, E3, bare, bareJ, ↓E0, E1, env0, envN, evOps, evOp, evQs, evQ, evV, setD, pureOp, ev, upd, updL, gate, binW, eqOp, binV, intOp, shOp, boolOp, hav, eqL, SameI, strOp, ↓reduceIte, Zj, Zk, Nat.reduceAdd, Nat.reduceLT, Nat.reduceEqDiff, Nat.reduceMul, Nat.reduceLeDiff, if_true, Zn, reduceCtorEq, ZA, eq_self, Int.reduceLE, Int.reduceLT, Int.reduceToNat, ne_eq, Nat.reduceSub, g0, g1, d1, tl, nb2_b1, nb2_b]
        repeat refine And.intro (by omega) ?_
        apply guardX_or 2 [59, 60] (j := 2) (d := 58) (tp := 61) (tl := 60) rfl rfl rfl rfl rfl
        · intro hq
          simp (maxSteps := 2000000) (disch := first | (simp only [E4, g0, g1, d1, tl] <;> omega) | omega | fail) only [↓E2, E3, bare, bareJ, ↓E0, E1, env0, envN, evOps, evOp, evQs, evQ, evV, setD, pureOp, ev, upd, updL, gate, binW, eqOp, binV, intOp, shOp, boolOp, hav, eqL, SameI, strOp, ↓reduceIte, Zj, Zk, Nat.reduceAdd, Nat.reduceLT, Nat.reduceEqDiff, Nat.reduceMul, Nat.reduceLeDiff, if_true, Zn, reduceCtorEq, ZA, eq_self, Int.reduceLE, Int.reduceLT, Int.reduceToNat, ne_eq, Nat.reduceSub, g0, g1, d1, tl, nb2_b1, nb2_b]
          repeat refine And.intro (by omega) ?_
          exact rfl
        intro g
        simp (maxSteps := 2000000) (disch := first | (simp only [E4, g0, g1, d1, tl] <;> omega) | omega | fail) only [↓E2, E3, bare, bareJ, ↓E0, E1, env0, envN, evOps, evOp, evQs, evQ, evV, setD, pureOp, ev, upd, updL, gate, binW, eqOp, binV, intOp, shOp, boolOp, hav, eqL, SameI, strOp, ↓reduceIte, Zj, Zk, Nat.reduceAdd, Nat.reduceLT, Nat.reduceEqDiff, Nat.reduceMul, Nat.reduceLeDiff, if_true, Zn, reduceCtorEq, ZA, eq_self, Int.reduceLE, Int.reduceLT, Int.reduceToNat, ne_eq, Nat.reduceSub, g0, g1, d1, tl, nb2_b1, nb2_b]
        repeat refine And.intro (by omega) ?_
        apply guardX_or 2 [63, 64] (j := 6) (d := 62) (tp := 65) (tl := 64) rfl rfl rfl rfl rfl
        · intro hq
          simp (maxSteps := 2000000) (disch := first | (simp only [E4, g0, g1, d1, tl] <;> omega) | omega | fail) only [↓E2, E3, bare, bareJ, ↓E0, E1, env0, envN, evOps, evOp, evQs, evQ, evV, setD, pureOp, ev, upd, updL, gate, binW, eqOp, binV, intOp, shOp, boolOp, hav, eqL, SameI, strOp, ↓reduceIte, Zj, Zk, Nat.reduceAdd, Nat.reduceLT, Nat.reduceEqDiff, Nat.reduceMul, Nat.reduceLeDiff, if_true, Zn, reduceCtorEq, ZA, eq_self, Int.reduceLE, Int.reduceLT, Int.reduceToNat, ne_eq, Nat.reduceSub, g0, g1, d1, tl, nb2_b1, nb2_b]
          repeat refine And.intro (by omega) ?_
          exact rfl
        intro g
        simp (maxSteps := 2000000) (disch := first | (simp only [E4, g0, g1, d1, tl] <;> omega) | omega | fail) only [↓E2, E3, bare, bareJ, ↓E0, E1, env0, envN, evOps, evOp, evQs, evQ, evV, setD, pureOp, ev, upd, updL, gate, binW, eqOp, binV, intOp, shOp, boolOp, hav, eqL, SameI, strOp, ↓reduceIte, Zj, Zk, Nat.reduceAdd, Nat.reduceLT, Nat.reduceEqDiff, Nat.reduceMul, Nat.reduceLeDiff, if_true, Zn, reduceCtorEq, ZA, eq_self, Int.reduceLE, Int.reduceLT, Int.reduceToNat, ne_eq, Nat.reduceSub, g0, g1, d1, tl, nb2_b1, nb2_b]
        repeat refine And.intro (by omega) ?_
        apply guardX_or 2 [67, 68] (j := 10) (d := 66) (tp := 69) (tl := 68) rfl rfl rfl rfl rfl
        · intro hq
          simp (maxSteps := 2000000) (disch := first | (simp only [E4, g0, g1, d1, tl] <;> omega) | omega | fail) only [↓E2, E3, bare, bareJ, ↓E0, E1, env0, envN, evOps, evOp, evQs, evQ, evV, setD, pureOp, ev, upd, updL, gate, binW, eqOp, binV, intOp, shOp, boolOp, hav, eqL, SameI, strOp, ↓reduceIte, Zj, Zk, Nat.reduceAdd, Nat.reduceLT, Nat.reduceEqDiff, Nat.reduceMul, Nat.reduceLeDiff, if_true, Zn, reduceCtorEq, ZA, eq_self, Int.reduceLE, Int.reduceLT, Int.reduceToNat, ne_eq, Nat.reduceSub, g0, g1, d1, tl, nb2_b1, nb2_b]
          repeat refine And.intro (by omega) ?_
          exact rfl
        intro g
        simp (maxSteps := 2000000) (disch := first | (simp only [E4, g0, g1, d1, tl] <;> omega) | omega | fail) only [↓E2, E3, bare, bareJ, ↓E0, E1, env0, envN, evOps, evOp, evQs, evQ, evV, setD, pureOp, ev, upd, updL, gate, binW, eqOp, binV, intOp, shOp, boolOp, hav, eqL, SameI, strOp, ↓reduceIte, Zj, Zk, Nat.reduceAdd, Nat.reduceLT, Nat.reduceEqDiff, Nat.reduceMul, Nat.reduceLeDiff, if_true, Zn, reduceCtorEq, ZA, eq_self, Int.reduceLE, Int.reduceLT, Int.reduceToNat, ne_eq, Nat.reduceSub, g0, g1, d1, tl, nb2_b1, nb2_b]
        repeat refine And.intro (by omega) ?_
        repeat refine And.intro (by omega) ?_
        intro g
        simp only [List.map_cons, List.map_nil, updL, upd, Nat.reduceEqDiff, if_true, if_false, ↓reduceIte]
        refine hK _ _ ?_; clear hK K
        refine Cd.cond rfl (fun c3 => ?_) (fun c3 => ?_)
        · have hgd : ¬ ((spL s).length = 2 ∧ goodB x0 x1 = true) := fun h => by
            have h := h.2
            unfold goodB at h
            simp only [Bool.and_eq_true] at h
            obtain ⟨h3, h4⟩ := digB_iff.1 h.2
            have h3 := h3 k (by omega)
            have h4 := h4 k hk1
            simp only [Bool.or_eq_true, decide_eq_true_eq, gt_iff_lt] at c3
            omega
          rw [if_neg hgd]
          refine Cd.rs [2, 3] fun K hK => ?_
          simp (maxSteps := 2000000) (disch := first | (simp only [E4, g0, g1, d1, tl] <;> omega) | omega | fail) only [↓E2, E3, bare, bareJ, ↓E0, E1, evP, env0, envN, evOps, evOp, evQs, evQ, evV, setD, pureOp, ev, upd, updL, cellAt, cellsAt, findB, setB, fillL, buildV, Value.cells, hav, ↓reduceIte, Zj, Zk, Nat.reduceAdd, Nat.reduceLT, Nat.reduceEqDiff, Nat.reduceMul, Nat.reduceLeDiff, if_true, Zn, reduceCtorEq, ZA, eq_self, Int.reduceLE, Int.reduceLT, Int.reduceToNat, ne_eq, Nat.reduceSub, Tbld24, Tst24, g0, g1, d1, tl, nb2_b1, nb2_b]
          repeat refine And.intro (by omega) ?_
          repeat refine And.intro (by omega) ?_
          intro g
          simp only [List.map_cons, List.map_nil, updL, upd, Nat.reduceEqDiff, if_true, if_false, ↓reduceIte]
          refine hK _ _ ?_; clear hK K
          refine Cd.ret (thenR (inBR (thenR (roundR (inBR (thenR ?_))))))
          simp (maxSteps := 2000000) (disch := first | (simp only [E4, g0, g1, d1, tl] <;> omega) | omega | fail) only [↓E2, E3, bare, bareJ, ↓E0, E1, evP, evPlan, env0, envN, evOps, evOp, evQs, evQ, evV, setD, pureOp, ev, upd, updL, gate, binW, eqOp, binV, intOp, shOp, boolOp, unV, convV, nilV, fieldAddrV, indexAddrV, extractV, cellAt, cellsAt, findB, setB, fillL, buildV, Value.cells, lenV, minV, maxV, hav, sliceV, loV, hiV, bslQ, mksQ, appQ, partsOk, partsCells, delB, eqL, SameI, strOp, apzQ, cvtQ, capV, ↓reduceIte, Zj, Zk, Nat.reduceAdd, Nat.reduceLT, Nat.reduceEqDiff, Nat.reduceMul, Nat.reduceLeDiff, if_true, Zn, reduceCtorEq, ZA, eq_self, Int.reduceLE, Int.reduceLT, Int.reduceToNat, ne_eq, Nat.reduceSub, Tld24, g0, g1, d1, tl, nb2_b1, nb2_b]
          repeat refine And.intro (by omega) ?_
        · simp only [Bool.or_eq_false_iff, decide_eq_false_iff_not, gt_iff_lt] at c3
          have ok0' := okTo_succ ok0 (by omega) (by omega)
          have ok1' := okTo_succ ok1 (by omega) (by omega)
          refine Cd.skip ?_
          refine thenN ?_
          refine Cd.rs [2, 4, 5, 6, 8] fun K hK => ?_
          simp (maxSteps := 2000000) (disch := first | (simp only [E4, g0, g1, d1, tl] <;> omega) | omega | fail) only [↓E2, E3, bare, bareJ, ↓E0, E1, env0, envN, evOps, evOp, evQs, evQ, evV, setD, pureOp, ev, upd, updL, binW, eqOp, binV, intOp, shOp, boolOp, fieldAddrV, indexAddrV, cellAt, cellsAt, findB, setB, Value.cells, hav, eqL, SameI, strOp, ↓reduceIte, Zj, Zk, Nat.reduceAdd, Nat.reduceLT, Nat.reduceEqDiff, Nat.reduceMul, Nat.reduceLeDiff, if_true, Zn, reduceCtorEq, ZA, eq_self, Int.reduceLE, Int.reduceLT, Int.reduceToNat, ne_eq, Nat.reduceSub, Tarr22, Tfld24_1, Tst5, g0, g1, d1, tl, nb2_b1, nb2_b]
          repeat refine And.intro (by omega) ?_
          rw [dg_set]
          repeat refine And.intro (by omega) ?_
          intro g
          simp only [List.map_cons, List.map_nil, updL, upd, Nat.reduceEqDiff, if_true, if_false, ↓reduceIte]
          refine hK _ _ ?_; clear hK K
          refine Cd.rr [2, 4, 5, 6] fun K hK => ?_
          simp (maxSteps := 2000000) (disch := first | (simp only [E4, g0, g1, d1, tl] <;> omega) | omega | fail) only [↓E2, E3, bare, bareJ, ↓E0, E1, env0, envN, evOps, evOp, evQs, evQ, evV, setD, pureOp, ev, upd, updL, binW, eqOp, binV, intOp, shOp, boolOp, fieldAddrV, indexAddrV, cellAt, cellsAt, findB, setB, Value.cells, hav, eqL, SameI, strOp, ↓reduceIte, Zj, Zk, Nat.reduceAdd, Nat.reduceLT, Nat.reduceEqDiff, Nat.reduceMul, Nat.reduceLeDiff, if_true, Zn, reduceCtorEq, ZA, eq_self, Int.reduceLE, Int.reduceLT, Int.reduceToNat, ne_eq, Nat.reduceSub, Tarr22, Tfld24_2, Tst5, g0, g1, d1, tl, nb2_b1, nb2_b]
          repeat refine And.intro (by omega) ?_
          rw [dg_set]
          repeat refine And.intro (by omega) ?_
          intro g
          simp only [List.map_cons, List.map_nil, updL, upd, Nat.reduceEqDiff, if_true, if_false, ↓reduceIte]
          refine hK _ _ ?_; clear hK K
          refine inBN ?_
          refine thenN ?_
          refine Cd.rr [2, 4, 5, 6] fun K hK => ?_
          simp (maxSteps := 2000000) (disch := first | (simp only [E4, g0, g1, d1, tl] <;> omega) | omega | fail) only [↓E2, E3, bare, bareJ, ↓E0, E1, env0, envN, evOps, evOp, evQs, evQ, evV, setD, pureOp, ev, upd, updL, binW, eqOp, binV, intOp, shOp, boolOp, hav, eqL, SameI, strOp, ↓reduceIte, Zj, Zk, Nat.reduceAdd, Nat.reduceLT, Nat.reduceEqDiff, Nat.reduceMul, Nat.reduceLeDiff, if_true, Zn, reduceCtorEq, ZA, eq_self, Int.reduceLE, Int.reduceLT, Int.reduceToNat, ne_eq, Nat.reduceSub, g0, g1, d1, tl, nb2_b1, nb2_b]
          repeat refine And.intro (by omega) ?_
          repeat refine And.intro (by omega) ?_
          intro g
          simp only [List.map_cons, List.map_nil, updL, upd, Nat.reduceEqDiff, if_true, if_false, ↓reduceIte]
          refine hK _ _ ?_; clear hK K
          exact roundN (m := q - 1) (by omega) ⟨_, k + 1, by omega, ok0', ok1', rfl, rfl⟩
      · refine Cd.exit (thenX (roundX (inBX ?_)))
        refine thenN ?_
        obtain rfl : k = x0.size := by omega
        have hd0 : okD x0 := ok0
        have hd1 : okD x1 := fun q hq => ok1 q (by omega)
        have hgd : (spL s).length = 2 ∧ goodB x0 x1 = true := by
          refine ⟨h2, ?_⟩
          unfold goodB
          rw [decide_eq_true q1, decide_eq_true q2, digB_iff.2 ⟨hd0, hd1⟩]; rfl
        rw [if_pos hgd]
        have bx := dg_bytes hd0 (Nat.le_refl _)
        have bo := dg_bytes hd1 (k := x0.size) (by omega)
        refine Cd.ps [2, 3] (Plan.take 1 (Plan.take 2 (Plan.take 0 (Plan.one 3 (Plan.take 4 (Plan.done)))))) fol (by kernel_rfl) (Nat.le_of_ble_eq_true rfl) fun K hK => ?_
        simp (maxSteps := 2000000) (disch := first | (simp only [E4, g0, g1, d1, tl] <;> omega) | omega | fail) only [↓E2, E3, bare, bareJ, ↓E0, E1, evPlan, env0, envN, evOps, evOp, evQs, evQ, evV, setD, pureOp, ev, upd, updL, cellAt, cellsAt, findB, setB, Value.cells, hav, ↓reduceIte, Zj, Zk, Nat.reduceAdd, Nat.reduceLT, Nat.reduceEqDiff, Nat.reduceMul, Nat.reduceLeDiff, if_true, Zn, reduceCtorEq, ZA, eq_self, Int.reduceLE, Int.reduceLT, Int.reduceToNat, ne_eq, Nat.reduceSub, Tld24, Tst24, g0, g1, d1, tl, nb2_b1, nb2_b]
        repeat refine And.intro (by omega) ?_
        refine callP_gives (l01Is_c _ _ _ bx bo) ?_
        simp (maxSteps := 2000000) (disch := first | (simp only [E4, g0, g1, d1, tl] <;> omega) | omega | fail) only [↓E2, E3, bare, bareJ, ↓E0, E1, evPlan, env0, envN, evOps, evOp, evQs, evQ, evV, setD, pureOp, ev, upd, updL, cellAt, cellsAt, findB, setB, Value.cells, hav, ↓reduceIte, Zj, Zk, Nat.reduceAdd, Nat.reduceLT, Nat.reduceEqDiff, Nat.reduceMul, Nat.reduceLeDiff, if_true, Zn, reduceCtorEq, ZA, eq_self, Int.reduceLE, Int.reduceLT, Int.reduceToNat, ne_eq, Nat.reduceSub, Tld24, Tst24, g0, g1, d1, tl, nb2_b1, nb2_b]
        repeat refine And.intro (by omega) ?_
        repeat refine And.intro (by omega) ?_
        intro g
        simp only [List.map_cons, List.map_nil, updL, upd, Nat.reduceEqDiff, if_true, if_false, ↓reduceIte]
        refine hK _ _ ?_; clear hK K
        refine Cd.ret ?_
        simp (maxSteps := 2000000) (disch := first | (simp only [E4, g0, g1, d1, tl] <;> omega) | omega | fail) only [↓E2, E3, bare, bareJ, ↓E0, E1, evP, evPlan, env0, envN, evOps, evOp, evQs, evQ, evV, setD, pureOp, ev, upd, updL, gate, binW, eqOp, binV, intOp, shOp, boolOp, unV, convV, nilV, fieldAddrV, indexAddrV, extractV, cellAt, cellsAt, findB, setB, fillL, buildV, Value.cells, lenV, minV, maxV, hav, sliceV, loV, hiV, bslQ, mksQ, appQ, partsOk, partsCells, delB, eqL, SameI, strOp, apzQ, cvtQ, capV, ↓reduceIte, Zj, Zk, Nat.reduceAdd, Nat.reduceLT, Nat.reduceEqDiff, Nat.reduceMul, Nat.reduceLeDiff, if_true, Zn, reduceCtorEq, ZA, eq_self, Int.reduceLE, Int.reduceLT, Int.reduceToNat, ne_eq, Nat.reduceSub, Tld24, g0, g1, d1, tl, nb2_b1, nb2_b]
        repeat refine And.intro (by omega) ?_
  · have hgd : ¬ ((spL s).length = 2 ∧ goodB (p0 s) (p1 s) = true) := fun h => h2 h.1
    rw [if_neg hgd]
    have hne : (((m1 : Nat) : Int) != 2) = true := by
      rw [bne_iff_ne]; omega
    refine Cd.qs [2, 4, 31] fol (by kernel_rfl) fun K hK => ?_
    simp (maxSteps := 2000000) (disch := first | (simp only [E4] <;> omega) | omega | fail) only [↓E2, E3, bare, bareJ, ↓E0, E1, evPlan, env0, envN, evOps, evOp, evQs, evQ, evV, setD, pureOp, ev, upd, updL, gate, binW, eqOp, binV, intOp, shOp, boolOp, indexAddrV, cellAt, cellsAt, findB, lenV, hav, eqL, SameI, strOp, ↓reduceIte, Zj, Zk, Nat.reduceAdd, Nat.reduceLT, Nat.reduceEqDiff, Nat.reduceMul, Nat.reduceLeDiff, if_true, Zn, reduceCtorEq, ZA, eq_self, Int.reduceLE, Int.reduceLT, Int.reduceToNat, ne_eq, Nat.reduceSub, Tld9, Tslc36, Tslce36, Tstr9]
    repeat refine And.intro (by omega) ?_
    apply guardY_or 9 [15, 16, 17, 18, 19, 20, 21, 22, 23] (j := 3) (d := 14) (tp := 24) (tl := 23) (x := false) rfl rfl rfl rfl rfl
    · intro hq
      rw [hne] at hq
      cases hq
    intro g
    simp (maxSteps := 2000000) (disch := first | (simp only [E4] <;> omega) | omega | fail) only [↓E2, E3, bare, bareJ, ↓E0, E1, evPlan, env0, envN, evOps, evOp, evQs, evQ, evV, setD, pureOp, ev, upd, updL, gate, binW, eqOp, binV, intOp, shOp, boolOp, indexAddrV, cellAt, cellsAt, findB, lenV, hav, eqL, SameI, strOp, ↓reduceIte, Zj, Zk, Nat.reduceAdd, Nat.reduceLT, Nat.reduceEqDiff, Nat.reduceMul, Nat.reduceLeDiff, if_true, Zn, reduceCtorEq, ZA, eq_self, Int.reduceLE, Int.reduceLT, Int.reduceToNat, ne_eq, Nat.reduceSub, Tld9, Tslc36, Tslce36, Tstr9]
    repeat refine And.intro (by omega) ?_
    apply guardY_or 5 [26, 27, 28, 29, 30] (j := 14) (d := 25) (tp := 31) (tl := 30) (x := false) rfl rfl rfl rfl rfl
    · intro hq
      rw [hne] at hq
      cases hq
    intro g
    simp (maxSteps := 2000000) (disch := first | (simp only [E4] <;> omega) | omega | fail) only [↓E2, E3, bare, bareJ, ↓E0, E1, evPlan, env0, envN, evOps, evOp, evQs, evQ, evV, setD, pureOp, ev, upd, updL, gate, binW, eqOp, binV, intOp, shOp, boolOp, indexAddrV, cellAt, cellsAt, findB, lenV, hav, eqL, SameI, strOp, ↓reduceIte, Zj, Zk, Nat.reduceAdd, Nat.reduceLT, Nat.reduceEqDiff, Nat.reduceMul, Nat.reduceLeDiff, if_true, Zn, reduceCtorEq, ZA, eq_self, Int.reduceLE, Int.reduceLT, Int.reduceToNat, ne_eq, Nat.reduceSub, Tld9, Tslc36, Tslce36, Tstr9]
    repeat refine And.intro (by omega) ?_
    repeat refine And.intro (by omega) ?_
    intro g
    simp only [List.map_cons, List.map_nil, updL, upd, Nat.reduceEqDiff, if_true, if_false, ↓reduceIte]
    refine hK _ ?_; clear hK K
    refine Cd.cond rfl (fun c1 => ?_) (fun c1 => by rw [hne] at c1; cases c1)
    refine Cd.rs [2, 3] fun K hK => ?_
    simp (maxSteps := 2000000) (disch := first | (simp only [E4] <;> omega) | omega | fail) only [↓E2, E3, bare, bareJ, ↓E0, E1, evP, env0, envN, evOps, evOp, evQs, evQ, evV, setD, pureOp, ev, upd, updL, cellAt, cellsAt, findB, setB, fillL, buildV, Value.cells, hav, ↓reduceIte, Zj, Zk, Nat.reduceAdd, Nat.reduceLT, Nat.reduceEqDiff, Nat.reduceMul, Nat.reduceLeDiff, if_true, Zn, reduceCtorEq, ZA, eq_self, Int.reduceLE, Int.reduceLT, Int.reduceToNat, ne_eq, Nat.reduceSub, Tbld24, Tst24]
    repeat refine And.intro (by omega) ?_
    repeat refine And.intro (by omega) ?_
    intro g
    simp only [List.map_cons, List.map_nil, updL, upd, Nat.reduceEqDiff, if_true, if_false, ↓reduceIte]
    refine hK _ _ ?_; clear hK K
    refine Cd.ret (thenR ?_)
    simp (maxSteps := 2000000) (disch := first | (simp only [E4] <;> omega) | omega | fail) only [↓E2, E3, bare, bareJ, ↓E0, E1, evP, evPlan, env0, envN, evOps, evOp, evQs, evQ, evV, setD, pureOp, ev, upd, updL, gate, binW, eqOp, binV, intOp, shOp, boolOp, unV, convV, nilV, fieldAddrV, indexAddrV, extractV, cellAt, cellsAt, findB, setB, fillL, buildV, Value.cells, lenV, minV, maxV, hav, sliceV, loV, hiV, bslQ, mksQ, appQ, partsOk, partsCells, delB, eqL, SameI, strOp, apzQ, cvtQ, capV, ↓reduceIte, Zj, Zk, Nat.reduceAdd, Nat.reduceLT, Nat.reduceEqDiff, Nat.reduceMul, Nat.reduceLeDiff, if_true, Zn, reduceCtorEq, ZA, eq_self, Int.reduceLE, Int.reduceLT, Int.reduceToNat, ne_eq, Nat.reduceSub, Tld24]
    repeat refine And.intro (by omega) ?_
/-- The parts of a text that the program cuts. -/
theorem sp_before {s : ByteArray} : ∀ k : Nat, (∀ j : Nat, j < k → ¬ bt s (j : Int) = 47) → spT s k = ([], 0)
  | 0, _ => rfl
  | k + 1, h => by rw [spT_no (h k (by omega))]; exact sp_before k fun j hj => h j (by omega)
theorem sp_after {s : ByteArray} {o : Nat} {L : List ByteArray} (h : spT s (o + 1) = (L, o + 1)) : ∀ k, o + 1 ≤ k → (∀ j, o + 1 ≤ j → j < k → ¬ bt s (j : Int) = 47) → spT s k = (L, o + 1)
  | 0, h0, _ => by omega
  | k + 1, h0, hh => by
    by_cases e : k = o
    · subst e; exact h
    · rw [spT_no (hh k (by omega) (by omega))]
      exact sp_after h k (by omega) fun j hj hj' => hh j hj (by omega)
theorem sp_mono {s : ByteArray} : ∀ (d k : Nat), (spT s k).1.length ≤ (spT s (k + d)).1.length
  | 0, _ => Nat.le_refl _
  | d + 1, k => by
    refine Nat.le_trans (sp_mono d k) ?_
    show _ ≤ (spT s (k + d + 1)).1.length
    by_cases h : bt s ((k + d : Nat) : Int) = 47
    · rw [spT_yes h]; simp
    · rw [spT_no h]; exact Nat.le_refl _
theorem bt_at {s : ByteArray} {k : Nat} (hk : k < s.size) : s.data.toList[k]? = some 47 ↔ bt s (k : Int) = 47 := by
  have hk' : k < s.data.toList.length := by rw [Array.length_toList]; exact hk
  unfold bt
  rw [Int.toNat_natCast, List.getD_eq_getElem?_getD, List.getElem?_eq_getElem hk']
  show some s.data.toList[k] = some 47 ↔ ((s.data.toList[k].toNat : Nat) : Int) = 47
  constructor
  · intro h; rw [Option.some.inj h]; rfl
  · intro h
    have : s.data.toList[k].toNat = 47 := by omega
    rw [← UInt8.toNat_inj.1 (show s.data.toList[k].toNat = (47 : UInt8).toNat from this)]
theorem bt_ext {s : ByteArray} {a b q : Nat} (hq : a + q < b) : bt (s.extract a b) (q : Int) = bt s ((a + q : Nat) : Int) := by
  unfold bt
  rw [Int.toNat_natCast, Int.toNat_natCast, ByteArray.data_extract, Array.toList_extract, List.extract_eq_take_drop, List.getD_eq_getElem?_getD, List.getD_eq_getElem?_getD, List.getElem?_take, if_pos (by omega), List.getElem?_drop]
theorem cut_at {s : ByteArray} {o : Nat} (e : Lib.indexByte s.data.toList 47 = (o : Int)) (ho : o < s.size) : spT s (o + 1) = ([cx s], o + 1) := by
  obtain ⟨h1, h2⟩ := Lib.indexByte_some e
  have hb := sp_before (s := s) o fun j hj h => h2 j hj ((bt_at (by omega)).2 h)
  rw [spT_yes ((bt_at ho).1 h1), hb]
  unfold cx
  rw [e, Int.toNat_natCast]
  rfl
theorem last_at {s : ByteArray} {o : Nat} (e : Lib.indexByte s.data.toList 47 = (o : Int)) (ho : o < s.size) (hno : ∀ j, o + 1 ≤ j → j < s.size → ¬ bt s (j : Int) = 47) : (spL s).length = 2 ∧ p0 s = cx s ∧ p1 s = co s := by
  have h := sp_after (cut_at e ho) s.size (by omega) hno
  have hl : spL s = [cx s, co s] := by
    unfold spL
    rw [h]
    show [cx s, s.extract (o + 1) s.size] = _
    unfold co
    rw [e, Int.toNat_natCast]
  unfold p0 p1
  rw [hl]
  exact ⟨rfl, rfl, rfl⟩
theorem parts_two {s : ByteArray} (h : (spL s).length = 2) : 0 ≤ Lib.indexByte s.data.toList 47 ∧ p0 s = cx s ∧ p1 s = co s := by
  rcases idx_cases s 47 with e | ⟨o, e, ho⟩
  · have hb := sp_before (s := s) s.size fun j hj h2 => Lib.indexByte_none e j ((bt_at hj).2 h2)
    unfold spL at h
    rw [hb] at h
    simp at h
  · rcases Classical.em (∃ j, o + 1 ≤ j ∧ j < s.size ∧ bt s (j : Int) = 47) with ⟨j, j1, j2, j3⟩ | hno
    · exfalso
      have m1 := sp_mono (s := s) (j - (o + 1)) (o + 1)
      rw [cut_at e ho, show o + 1 + (j - (o + 1)) = j by omega] at m1
      have m2 := sp_mono (s := s) (s.size - (j + 1)) (j + 1)
      rw [spT_yes j3, show j + 1 + (s.size - (j + 1)) = s.size by omega] at m2
      unfold spL at h
      simp at h m1 m2
      omega
    · have hl := last_at e ho fun j j1 j2 j3 => hno ⟨j, j1, j2, j3⟩
      exact ⟨by omega, hl.2⟩
theorem two_parts {s : ByteArray} (h0 : ¬ Lib.indexByte s.data.toList 47 < 0) (h1 : okD (co s)) : (spL s).length = 2 ∧ p0 s = cx s ∧ p1 s = co s := by
  rcases idx_cases s 47 with e | ⟨o, e, ho⟩
  · omega
  · refine last_at e ho fun j j1 j2 j3 => ?_
    have hz : (co s).size = s.size - (o + 1) := by
      unfold co
      rw [e, Int.toNat_natCast, ByteArray.size_extract, Nat.min_self]
    have h2 := h1 (j - (o + 1)) (by omega)
    unfold co at h2
    rw [e, Int.toNat_natCast, bt_ext (by omega), show o + 1 + (j - (o + 1)) = j by omega, j3] at h2
    omega
theorem sParse_c (s : ByteArray) (hs : s.size ≤ 1048576) : Gives Tryd.prog 5 #[.string s] (parR s) := by
  have hrd := read_c s hs
  have tl := fun f : Nat → Int => tab_len f
  skip
  unfold parR
  unfold readR at hrd
  by_cases hg : (spL s).length = 2 ∧ goodB (p0 s) (p1 s) = true
  · obtain ⟨h1, h2, h3⟩ := parts_two hg.1
    rw [if_pos hg] at hrd
    rw [h2, h3] at hrd hg
    rw [if_neg (by omega), if_pos hg.2]
    unfold rdR
    refine Gives.of fun w => ?_
    refine acall_of (N := 15) (c := _) (rs := [.cell 2 24, .tmp 3]) (args := [_]) Tryd.func5 rfl (by decide) rfl rfl (Nat.le_of_ble_eq_true rfl) ?_
    refine Cd.rs [0, 2] fun K hK => ?_
    simp (maxSteps := 2000000) (disch := first | (simp only [E4, tl] <;> omega) | omega | fail) only [↓E2, E3, bare, bareJ, ↓E0, E1, env0, envN, evOps, evOp, evQs, evQ, evV, setD, pureOp, ev, upd, updL, Value.cells, hav, ↓reduceIte, Zj, Zk, Nat.reduceAdd, Nat.reduceLT, Nat.reduceEqDiff, Nat.reduceMul, Nat.reduceLeDiff, if_true, Zn, reduceCtorEq, ZA, eq_self, Int.reduceLE, Int.reduceLT, Int.reduceToNat, ne_eq, Nat.reduceSub, Tzero24, tl]
    repeat refine And.intro (by omega) ?_
    intro b1 hb1
    try simp (maxSteps := 2000000) (disch := first | (simp only [E4, tl] <;> omega) | omega | fail) only [↓E2, E3, bare, bareJ, ↓E0, E1, env0, envN, evOps, evOp, evQs, evQ, evV, setD, pureOp, ev, upd, updL, Value.cells, hav, ↓reduceIte, Zj, Zk, Nat.reduceAdd, Nat.reduceLT, Nat.reduceEqDiff, Nat.reduceMul, Nat.reduceLeDiff, if_true, Zn, reduceCtorEq, ZA, eq_self, Int.reduceLE, Int.reduceLT, Int.reduceToNat, ne_eq, Nat.reduceSub, Tzero24, tl]
    repeat refine And.intro (by omega) ?_
    repeat refine And.intro (by omega) ?_
    intro g
    simp only [List.map_cons, List.map_nil, updL, upd, Nat.reduceEqDiff, if_true, if_false, ↓reduceIte]
    refine hK _ _ ?_; clear hK K
    refine Cd.rs [2, 4, 5] fun K hK => ?_
    simp (maxSteps := 2000000) (disch := first | (simp only [E4, tl] <;> omega) | omega | fail) only [↓E2, E3, bare, bareJ, ↓E0, E1, env0, envN, evOps, evOp, evQs, evQ, evV, setD, pureOp, ev, upd, updL, extractV, cellAt, cellsAt, findB, setB, Value.cells, hav, ↓reduceIte, Zj, Zk, Nat.reduceAdd, Nat.reduceLT, Nat.reduceEqDiff, Nat.reduceMul, Nat.reduceLeDiff, if_true, Zn, reduceCtorEq, ZA, eq_self, Int.reduceLE, Int.reduceLT, Int.reduceToNat, ne_eq, Nat.reduceSub, Tst24, Tzero24, tl]
    repeat refine And.intro (by omega) ?_
    refine callK_gives hrd ?_
    simp (maxSteps := 2000000) (disch := first | (simp only [E4, tl] <;> omega) | omega | fail) only [↓E2, E3, bare, bareJ, ↓E0, E1, env0, envN, evOps, evOp, evQs, evQ, evV, setD, pureOp, ev, upd, updL, extractV, cellAt, cellsAt, findB, setB, Value.cells, hav, ↓reduceIte, Zj, Zk, Nat.reduceAdd, Nat.reduceLT, Nat.reduceEqDiff, Nat.reduceMul, Nat.reduceLeDiff, if_true, Zn, reduceCtorEq, ZA, eq_self, Int.reduceLE, Int.reduceLT, Int.reduceToNat, ne_eq, Nat.reduceSub, Tst24, Tzero24, tl]
    repeat refine And.intro (by omega) ?_
    intro b2 hb2
    have nb2_b1 := hb2.ne
    try simp (maxSteps := 2000000) (disch := first | (simp only [E4, tl] <;> omega) | omega | fail) only [↓E2, E3, bare, bareJ, ↓E0, E1, env0, envN, evOps, evOp, evQs, evQ, evV, setD, pureOp, ev, upd, updL, extractV, cellAt, cellsAt, findB, setB, Value.cells, hav, ↓reduceIte, Zj, Zk, Nat.reduceAdd, Nat.reduceLT, Nat.reduceEqDiff, Nat.reduceMul, Nat.reduceLeDiff, if_true, Zn, reduceCtorEq, ZA, eq_self, Int.reduceLE, Int.reduceLT, Int.reduceToNat, ne_eq, Nat.reduceSub, Tst24, Tzero24, tl, nb2_b1]
    repeat refine And.intro (by omega) ?_
    repeat refine And.intro (by omega) ?_
    intro g
    simp only [List.map_cons, List.map_nil, updL, upd, Nat.reduceEqDiff, if_true, if_false, ↓reduceIte]
    refine hK _ _ ?_; clear hK K
    refine Cd.seq ?_
    refine Cd.rs [2, 4, 12] fun K hK => ?_
    simp (maxSteps := 2000000) (disch := first | (simp only [E4, tl] <;> omega) | omega | fail) only [↓E2, E3, bare, bareJ, ↓E0, E1, env0, envN, evOps, evOp, evQs, evQ, evV, setD, pureOp, ev, upd, updL, unV, hav, ↓reduceIte, Zj, Zk, Nat.reduceAdd, Nat.reduceLT, Nat.reduceEqDiff, Nat.reduceMul, Nat.reduceLeDiff, if_true, Zn, reduceCtorEq, ZA, eq_self, Int.reduceLE, Int.reduceLT, Int.reduceToNat, ne_eq, Nat.reduceSub, tl, nb2_b1]
    repeat refine And.intro (by omega) ?_
    repeat refine And.intro (by omega) ?_
    intro g
    simp only [List.map_cons, List.map_nil, updL, upd, Nat.reduceEqDiff, if_true, if_false, ↓reduceIte]
    refine hK _ _ ?_; clear hK K
    refine Cd.cond rfl (fun c1 => ?_) (fun c1 => ?_)
    · simp only [decide_eq_true_eq, decide_eq_false_iff_not, beq_iff_eq, beq_eq_false_iff_ne, bne_iff_ne, bne_eq_false_iff_eq, Bool.and_eq_true, Bool.or_eq_true, Bool.or_eq_false_iff, Bool.not_eq_true', Bool.not_eq_false', Bool.and_eq_false_imp, ne_eq, gt_iff_lt, ge_iff_le, Int.not_lt, Int.not_le, Classical.not_not] at c1
      rw [c1]
      refine Cd.rs [2, 3] fun K hK => ?_
      simp (maxSteps := 2000000) (disch := first | (simp only [E4, tl] <;> omega) | omega | fail) only [↓E2, E3, bare, bareJ, ↓E0, E1, evP, env0, envN, evOps, evOp, evQs, evQ, evV, setD, pureOp, ev, upd, updL, cellAt, cellsAt, findB, setB, fillL, buildV, Value.cells, hav, ↓reduceIte, Zj, Zk, Nat.reduceAdd, Nat.reduceLT, Nat.reduceEqDiff, Nat.reduceMul, Nat.reduceLeDiff, if_true, Zn, reduceCtorEq, ZA, eq_self, Int.reduceLE, Int.reduceLT, Int.reduceToNat, ne_eq, Nat.reduceSub, Tbld24, Tst24, tl, nb2_b1]
      repeat refine And.intro (by omega) ?_
      repeat refine And.intro (by omega) ?_
      intro g
      simp only [List.map_cons, List.map_nil, updL, upd, Nat.reduceEqDiff, if_true, if_false, ↓reduceIte]
      refine hK _ _ ?_; clear hK K
      refine Cd.ret (thenR ?_)
      simp (maxSteps := 2000000) (disch := first | (simp only [E4, tl] <;> omega) | omega | fail) only [↓E2, E3, bare, bareJ, ↓E0, E1, evP, evPlan, env0, envN, evOps, evOp, evQs, evQ, evV, setD, pureOp, ev, upd, updL, gate, binW, eqOp, binV, intOp, shOp, boolOp, unV, convV, nilV, fieldAddrV, indexAddrV, extractV, cellAt, cellsAt, findB, setB, fillL, buildV, Value.cells, lenV, minV, maxV, hav, sliceV, loV, hiV, bslQ, mksQ, appQ, partsOk, partsCells, delB, eqL, SameI, strOp, apzQ, cvtQ, capV, ↓reduceIte, Zj, Zk, Nat.reduceAdd, Nat.reduceLT, Nat.reduceEqDiff, Nat.reduceMul, Nat.reduceLeDiff, if_true, Zn, reduceCtorEq, ZA, eq_self, Int.reduceLE, Int.reduceLT, Int.reduceToNat, ne_eq, Nat.reduceSub, Tld24, tl, nb2_b1]
      repeat refine And.intro (by omega) ?_
    · simp only [decide_eq_true_eq, decide_eq_false_iff_not, beq_iff_eq, beq_eq_false_iff_ne, bne_iff_ne, bne_eq_false_iff_eq, Bool.and_eq_true, Bool.or_eq_true, Bool.or_eq_false_iff, Bool.not_eq_true', Bool.not_eq_false', Bool.and_eq_false_imp, ne_eq, gt_iff_lt, ge_iff_le, Int.not_lt, Int.not_le, Classical.not_not] at c1
      rw [c1]
      refine Cd.skip ?_
      refine thenN ?_
      refine Cd.rs [2, 3] fun K hK => ?_
      simp (maxSteps := 2000000) (disch := first | (simp only [E4, tl] <;> omega) | omega | fail) only [↓E2, E3, bare, bareJ, ↓E0, E1, env0, envN, evOps, evOp, evQs, evQ, evV, setD, pureOp, ev, upd, updL, cellAt, cellsAt, findB, setB, Value.cells, hav, ↓reduceIte, Zj, Zk, Nat.reduceAdd, Nat.reduceLT, Nat.reduceEqDiff, Nat.reduceMul, Nat.reduceLeDiff, if_true, Zn, reduceCtorEq, ZA, eq_self, Int.reduceLE, Int.reduceLT, Int.reduceToNat, ne_eq, Nat.reduceSub, Tld24, Tst24, tl, nb2_b1]
      repeat refine And.intro (by omega) ?_
      repeat refine And.intro (by omega) ?_
      intro g
      simp only [List.map_cons, List.map_nil, updL, upd, Nat.reduceEqDiff, if_true, if_false, ↓reduceIte]
      refine hK _ _ ?_; clear hK K
      refine Cd.ret ?_
      simp (maxSteps := 2000000) (disch := first | (simp only [E4, tl] <;> omega) | omega | fail) only [↓E2, E3, bare, bareJ, ↓E0, E1, evP, evPlan, env0, envN, evOps, evOp, evQs, evQ, evV, setD, pureOp, ev, upd, updL, gate, binW, eqOp, binV, intOp, shOp, boolOp, unV, convV, nilV, fieldAddrV, indexAddrV, extractV, cellAt, cellsAt, findB, setB, fillL, buildV, Value.cells, lenV, minV, maxV, hav, sliceV, loV, hiV, bslQ, mksQ, appQ, partsOk, partsCells, delB, eqL, SameI, strOp, apzQ, cvtQ, capV, ↓reduceIte, Zj, Zk, Nat.reduceAdd, Nat.reduceLT, Nat.reduceEqDiff, Nat.reduceMul, Nat.reduceLeDiff, if_true, Zn, reduceCtorEq, ZA, eq_self, Int.reduceLE, Int.reduceLT, Int.reduceToNat, ne_eq, Nat.reduceSub, Tld24, tl, nb2_b1]
      repeat refine And.intro (by omega) ?_
  · rw [if_neg hg] at hrd
    have hb : (if Lib.indexByte s.data.toList 47 < 0 then badR else if goodB (cx s) (co s) = true then rdR (cx s) (co s) else badR) = badR := by
      by_cases h0 : Lib.indexByte s.data.toList 47 < 0
      · rw [if_pos h0]
      · rw [if_neg h0, if_neg]
        intro h1
        have h2 : okD (co s) := by
          unfold goodB at h1
          simp only [Bool.and_eq_true] at h1
          exact (digB_iff.1 h1.2).2
        obtain ⟨h3, h4, h5⟩ := two_parts h0 h2
        exact hg ⟨h3, by rw [h4, h5]; exact h1⟩
    rw [hb]
    unfold badR
    refine Gives.of fun w => ?_
    refine acall_of (N := 15) (c := _) (rs := [.cell 2 24, .tmp 3]) (args := [_]) Tryd.func5 rfl (by decide) rfl rfl (Nat.le_of_ble_eq_true rfl) ?_
    refine Cd.rs [0, 2] fun K hK => ?_
    simp (maxSteps := 2000000) (disch := first | (simp only [E4, tl] <;> omega) | omega | fail) only [↓E2, E3, bare, bareJ, ↓E0, E1, env0, envN, evOps, evOp, evQs, evQ, evV, setD, pureOp, ev, upd, updL, Value.cells, hav, ↓reduceIte, Zj, Zk, Nat.reduceAdd, Nat.reduceLT, Nat.reduceEqDiff, Nat.reduceMul, Nat.reduceLeDiff, if_true, Zn, reduceCtorEq, ZA, eq_self, Int.reduceLE, Int.reduceLT, Int.reduceToNat, ne_eq, Nat.reduceSub, Tzero24, tl]
    repeat refine And.intro (by omega) ?_
    intro b1 hb1
    try simp (maxSteps := 2000000) (disch := first | (simp only [E4, tl] <;> omega) | omega | fail) only [↓E2, E3, bare, bareJ, ↓E0, E1, env0, envN, evOps, evOp, evQs, evQ, evV, setD, pureOp, ev, upd, updL, Value.cells, hav, ↓reduceIte, Zj, Zk, Nat.reduceAdd, Nat.reduceLT, Nat.reduceEqDiff, Nat.reduceMul, Nat.reduceLeDiff, if_true, Zn, reduceCtorEq, ZA, eq_self, Int.reduceLE, Int.reduceLT, Int.reduceToNat, ne_eq, Nat.reduceSub, Tzero24, tl]
    repeat refine And.intro (by omega) ?_
    repeat refine And.intro (by omega) ?_
    intro g
    simp only [List.map_cons, List.map_nil, updL, upd, Nat.reduceEqDiff, if_true, if_false, ↓reduceIte]
    refine hK _ _ ?_; clear hK K
    refine Cd.rs [2, 4, 5] fun K hK => ?_
    simp (maxSteps := 2000000) (disch := first | (simp only [E4, tl] <;> omega) | omega | fail) only [↓E2, E3, bare, bareJ, ↓E0, E1, env0, envN, evOps, evOp, evQs, evQ, evV, setD, pureOp, ev, upd, updL, extractV, cellAt, cellsAt, findB, setB, Value.cells, hav, ↓reduceIte, Zj, Zk, Nat.reduceAdd, Nat.reduceLT, Nat.reduceEqDiff, Nat.reduceMul, Nat.reduceLeDiff, if_true, Zn, reduceCtorEq, ZA, eq_self, Int.reduceLE, Int.reduceLT, Int.reduceToNat, ne_eq, Nat.reduceSub, Tst24, Tzero24, tl]
    repeat refine And.intro (by omega) ?_
    refine callK_gives hrd ?_
    simp (maxSteps := 2000000) (disch := first | (simp only [E4, tl] <;> omega) | omega | fail) only [↓E2, E3, bare, bareJ, ↓E0, E1, env0, envN, evOps, evOp, evQs, evQ, evV, setD, pureOp, ev, upd, updL, extractV, cellAt, cellsAt, findB, setB, Value.cells, hav, ↓reduceIte, Zj, Zk, Nat.reduceAdd, Nat.reduceLT, Nat.reduceEqDiff, Nat.reduceMul, Nat.reduceLeDiff, if_true, Zn, reduceCtorEq, ZA, eq_self, Int.reduceLE, Int.reduceLT, Int.reduceToNat, ne_eq, Nat.reduceSub, Tst24, Tzero24, tl]
    repeat refine And.intro (by omega) ?_
    intro b2 hb2
    have nb2_b1 := hb2.ne
    try simp (maxSteps := 2000000) (disch := first | (simp only [E4, tl] <;> omega) | omega | fail) only [↓E2, E3, bare, bareJ, ↓E0, E1, env0, envN, evOps, evOp, evQs, evQ, evV, setD, pureOp, ev, upd, updL, extractV, cellAt, cellsAt, findB, setB, Value.cells, hav, ↓reduceIte, Zj, Zk, Nat.reduceAdd, Nat.reduceLT, Nat.reduceEqDiff, Nat.reduceMul, Nat.reduceLeDiff, if_true, Zn, reduceCtorEq, ZA, eq_self, Int.reduceLE, Int.reduceLT, Int.reduceToNat, ne_eq, Nat.reduceSub, Tst24, Tzero24, tl, nb2_b1]
    repeat refine And.intro (by omega) ?_
    repeat refine And.intro (by omega) ?_
    intro g
    simp only [List.map_cons, List.map_nil, updL, upd, Nat.reduceEqDiff, if_true, if_false, ↓reduceIte]
    refine hK _ _ ?_; clear hK K
    refine Cd.seq ?_
    refine Cd.rs [2, 4, 12] fun K hK => ?_
    simp (maxSteps := 2000000) (disch := first | (simp only [E4, tl] <;> omega) | omega | fail) only [↓E2, E3, bare, bareJ, ↓E0, E1, env0, envN, evOps, evOp, evQs, evQ, evV, setD, pureOp, ev, upd, updL, unV, hav, ↓reduceIte, Zj, Zk, Nat.reduceAdd, Nat.reduceLT, Nat.reduceEqDiff, Nat.reduceMul, Nat.reduceLeDiff, if_true, Zn, reduceCtorEq, ZA, eq_self, Int.reduceLE, Int.reduceLT, Int.reduceToNat, ne_eq, Nat.reduceSub, tl, nb2_b1]
    repeat refine And.intro (by omega) ?_
    repeat refine And.intro (by omega) ?_
    intro g
    simp only [List.map_cons, List.map_nil, updL, upd, Nat.reduceEqDiff, if_true, if_false, ↓reduceIte]
    refine hK _ _ ?_; clear hK K
    refine Cd.cond rfl (fun c1 => ?_) (fun c1 => absurd c1 (by decide))
    refine Cd.rs [2, 3] fun K hK => ?_
    simp (maxSteps := 2000000) (disch := first | (simp only [E4, tl] <;> omega) | omega | fail) only [↓E2, E3, bare, bareJ, ↓E0, E1, evP, env0, envN, evOps, evOp, evQs, evQ, evV, setD, pureOp, ev, upd, updL, cellAt, cellsAt, findB, setB, fillL, buildV, Value.cells, hav, ↓reduceIte, Zj, Zk, Nat.reduceAdd, Nat.reduceLT, Nat.reduceEqDiff, Nat.reduceMul, Nat.reduceLeDiff, if_true, Zn, reduceCtorEq, ZA, eq_self, Int.reduceLE, Int.reduceLT, Int.reduceToNat, ne_eq, Nat.reduceSub, Tbld24, Tst24, tl, nb2_b1]
    repeat refine And.intro (by omega) ?_
    repeat refine And.intro (by omega) ?_
    intro g
    simp only [List.map_cons, List.map_nil, updL, upd, Nat.reduceEqDiff, if_true, if_false, ↓reduceIte]
    refine hK _ _ ?_; clear hK K
    refine Cd.ret (thenR ?_)
    simp (maxSteps := 2000000) (disch := first | (simp only [E4, tl] <;> omega) | omega | fail) only [↓E2, E3, bare, bareJ, ↓E0, E1, evP, evPlan, env0, envN, evOps, evOp, evQs, evQ, evV, setD, pureOp, ev, upd, updL, gate, binW, eqOp, binV, intOp, shOp, boolOp, unV, convV, nilV, fieldAddrV, indexAddrV, extractV, cellAt, cellsAt, findB, setB, fillL, buildV, Value.cells, lenV, minV, maxV, hav, sliceV, loV, hiV, bslQ, mksQ, appQ, partsOk, partsCells, delB, eqL, SameI, strOp, apzQ, cvtQ, capV, ↓reduceIte, Zj, Zk, Nat.reduceAdd, Nat.reduceLT, Nat.reduceEqDiff, Nat.reduceMul, Nat.reduceLeDiff, if_true, Zn, reduceCtorEq, ZA, eq_self, Int.reduceLE, Int.reduceLT, Int.reduceToNat, ne_eq, Nat.reduceSub, Tld24, tl, nb2_b1]
    repeat refine And.intro (by omega) ?_

end Go.Proofs

/-
  What the functions of this part hand back: each as a plain function of its arguments. Conditions: none.
-/
namespace Go.Proofs
open Go.W8
set_option linter.unusedVariables false
set_option linter.unusedSimpArgs false
set_option linter.unusedSectionVars false
set_option maxRecDepth 8000
set_option maxHeartbeats 4000000
theorem eqByteA8_c (a : List Int) (ha : a.length = 8) : Gives Tryd.prog 14 #[.agg (ints .u8 a).toArray, .agg (ints .u8 a).toArray] (.bool true) := by
  refine Gives.of fun w => ?_
  refine acall_of (N := 17) (c := _) (rs := [.tmp 4]) (args := [_, _]) Tryd.func14 rfl (by decide) rfl rfl (Nat.le_of_ble_eq_true rfl) ?_
  refine Cd.rs [2, 3] fun K hK => ?_
  simp (maxSteps := 2000000) (disch := first | omega | (simp only [E4, *] <;> omega) | fail) only [↓E0, E1, env0, envN, evOps, evOp, evQs, evQ, evV, setD, pureOp, ev, upd, updL, Value.cells, hav, ↓reduceIte, Zj, Zk, Nat.reduceAdd, Nat.reduceLT, Nat.reduceEqDiff, Nat.reduceMul, Nat.reduceLeDiff, if_true, Zn, reduceCtorEq, ZA, eq_self, Int.reduceLE, Int.reduceLT, Int.reduceToNat, ne_eq, Nat.reduceSub]
  intro b2 hb2 b3 hb3
  have n32 := hb3.ne
  repeat refine And.intro (by omega) ?_
  intro g
  simp only [List.map_cons, List.map_nil, updL, upd, Nat.reduceEqDiff, if_true, if_false, ↓reduceIte]
  refine hK _ _ ?_; clear hK K
  refine Cd.seq ?_
  refine Cd.rs [2, 3, 5] fun K hK => ?_
  simp (maxSteps := 2000000) (disch := first | omega | (simp only [E4, *] <;> omega) | fail) only [↓E0, E1, env0, envN, evOps, evOp, evQs, evQ, evV, setD, pureOp, ev, upd, updL, hav, ↓reduceIte, Zj, Zk, Nat.reduceAdd, Nat.reduceLT, Nat.reduceEqDiff, Nat.reduceMul, Nat.reduceLeDiff, if_true, Zn, reduceCtorEq, ZA, eq_self, Int.reduceLE, Int.reduceLT, Int.reduceToNat, ne_eq, Nat.reduceSub]
  repeat refine And.intro (by omega) ?_
  intro g
  simp only [List.map_cons, List.map_nil, updL, upd, Nat.reduceEqDiff, if_true, if_false, ↓reduceIte]
  refine hK _ _ ?_; clear hK K
  refine Cd.block ?_
  refine Cd.loop (fun n ρ M => ∃ g k, k + n = 8 ∧ ρ = updL [(2, .pointer (some ⟨b2, 0, none⟩)), (3, .pointer (some ⟨b3, 0, none⟩)), (5, .int .i64 (k : Int))] g ∧ M = [(b3, ints .u8 a), (b2, ints .u8 a)]) 8 ⟨_, 0, Nat.zero_add _, rfl, rfl⟩ ?_
  rintro n ρ M ⟨g, k, hk, rfl, rfl⟩
  refine Cd.seq ?_
  refine Cd.rs [2, 3, 5, 7] fun K hK => ?_
  simp (maxSteps := 2000000) (disch := first | omega | (simp only [E4, *] <;> omega) | fail) only [↓E0, E1, env0, envN, evOps, evOp, evQs, evQ, evV, setD, pureOp, ev, upd, updL, binW, eqOp, binV, intOp, shOp, boolOp, hav, eqL, SameI, strOp, ↓reduceIte, Zj, Zk, Nat.reduceAdd, Nat.reduceLT, Nat.reduceEqDiff, Nat.reduceMul, Nat.reduceLeDiff, if_true, Zn, reduceCtorEq, ZA, eq_self, Int.reduceLE, Int.reduceLT, Int.reduceToNat, ne_eq, Nat.reduceSub]
  repeat refine And.intro (by omega) ?_
  intro g
  simp only [List.map_cons, List.map_nil, updL, upd, Nat.reduceEqDiff, if_true, if_false, ↓reduceIte]
  refine hK _ _ ?_; clear hK K
  refine Cd.condd rfl (fun h1 => ?_) (fun h1 => ?_)
  · refine Cd.skip ?_
    refine thenN ?_
    refine Cd.seq ?_
    refine Cd.block ?_
    refine Cd.qs [2, 3, 5, 16] fol (by kernel_rfl) fun K hK => ?_
    simp (maxSteps := 2000000) (disch := first | omega | (simp only [E4, ha, *] <;> omega) | fail) only [↓E0, E1, evPlan, env0, envN, evOps, evOp, evQs, evQ, evV, setD, pureOp, ev, upd, updL, binW, eqOp, binV, intOp, shOp, boolOp, indexAddrV, cellAt, cellsAt, findB, hav, eqL, SameI, strOp, ↓reduceIte, Zj, Zk, Nat.reduceAdd, Nat.reduceLT, Nat.reduceEqDiff, Nat.reduceMul, Nat.reduceLeDiff, if_true, Zn, reduceCtorEq, ZA, eq_self, Int.reduceLE, Int.reduceLT, Int.reduceToNat, ne_eq, Nat.reduceSub, Tarr22, Tld5, n32, ha]
    repeat refine And.intro (by omega) ?_
    repeat refine And.intro (by omega) ?_
    intro g
    simp only [List.map_cons, List.map_nil, updL, upd, Nat.reduceEqDiff, if_true, if_false, ↓reduceIte]
    refine hK _ ?_; clear hK K
    refine Cd.no rfl ?_
    refine Cd.skip ?_
    refine inBN ?_
    refine thenN ?_
    refine Cd.rr [2, 3, 5] fun K hK => ?_
    simp (maxSteps := 2000000) (disch := first | omega | (simp only [E4, *] <;> omega) | fail) only [↓E0, E1, env0, envN, evOps, evOp, evQs, evQ, evV, setD, pureOp, ev, upd, updL, binW, eqOp, binV, intOp, shOp, boolOp, hav, eqL, SameI, strOp, ↓reduceIte, Zj, Zk, Nat.reduceAdd, Nat.reduceLT, Nat.reduceEqDiff, Nat.reduceMul, Nat.reduceLeDiff, if_true, Zn, reduceCtorEq, ZA, eq_self, Int.reduceLE, Int.reduceLT, Int.reduceToNat, ne_eq, Nat.reduceSub]
    repeat refine And.intro (by omega) ?_
    intro g
    simp only [List.map_cons, List.map_nil, updL, upd, Nat.reduceEqDiff, if_true, if_false, ↓reduceIte]
    refine hK _ _ ?_; clear hK K
    exact roundN (m := n - 1) (by omega) ⟨_, k + 1, by omega, rfl, rfl⟩
  · refine Cd.exit (thenX (roundX (inBX ?_)))
    refine thenN ?_
    refine Cd.rs [4] fun K hK => ?_
    simp (maxSteps := 2000000) (disch := first | omega | (simp only [E4, *] <;> omega) | fail) only [↓E0, E1, env0, envN, evOps, evOp, evQs, evQ, evV, setD, pureOp, ev, upd, updL, hav, ↓reduceIte, Zj, Zk, Nat.reduceAdd, Nat.reduceLT, Nat.reduceEqDiff, Nat.reduceMul, Nat.reduceLeDiff, if_true, Zn, reduceCtorEq, ZA, eq_self, Int.reduceLE, Int.reduceLT, Int.reduceToNat, ne_eq, Nat.reduceSub]
    repeat refine And.intro (by omega) ?_
    intro g
    simp only [List.map_cons, List.map_nil, updL, upd, Nat.reduceEqDiff, if_true, if_false, ↓reduceIte]
    refine hK _ _ ?_; clear hK K
    refine Cd.ret ?_
    simp (maxSteps := 2000000) (disch := first | omega | (simp only [E4, *] <;> omega) | fail) only [↓E0, E1, evP, evPlan, env0, envN, evOps, evOp, evQs, evQ, evV, setD, pureOp, ev, upd, updL, gate, binW, eqOp, binV, intOp, shOp, boolOp, unV, convV, nilV, fieldAddrV, indexAddrV, extractV, cellAt, cellsAt, findB, setB, fillL, buildV, Value.cells, lenV, minV, maxV, hav, sliceV, loV, hiV, bslQ, mksQ, appQ, partsOk, partsCells, delB, eqL, SameI, strOp, apzQ, cvtQ, capV, ↓reduceIte, Zj, Zk, Nat.reduceAdd, Nat.reduceLT, Nat.reduceEqDiff, Nat.reduceMul, Nat.reduceLeDiff, if_true, Zn, reduceCtorEq, ZA, eq_self, Int.reduceLE, Int.reduceLT, Int.reduceToNat, ne_eq, Nat.reduceSub]

theorem eqGrid_c (s : Int) (x o : List Int) (hx : x.length = 8) (ho : o.length = 8) : Gives Tryd.prog 7 #[.agg (gc s x o).toArray, .agg (gc s x o).toArray] (.bool true) := by
  refine Gives.of fun w => ?_
  refine acall_of (N := 22) (c := _) (rs := [.tmp 4]) (args := [_, _]) Tryd.func7 rfl (by decide) rfl rfl (Nat.le_of_ble_eq_true rfl) ?_
  refine Cd.rs [2, 3] fun K hK => ?_
  simp (maxSteps := 2000000) (disch := first | omega | (simp only [E4, *] <;> omega) | fail) only [↓E0, E1, env0, envN, evOps, evOp, evQs, evQ, evV, setD, pureOp, ev, upd, updL, Value.cells, hav, ↓reduceIte, Zj, Zk, Nat.reduceAdd, Nat.reduceLT, Nat.reduceEqDiff, Nat.reduceMul, Nat.reduceLeDiff, if_true, Zn, reduceCtorEq, ZA, eq_self, Int.reduceLE, Int.reduceLT, Int.reduceToNat, ne_eq, Nat.reduceSub]
  intro b2 hb2 b3 hb3
  have n32 := hb3.ne
  repeat refine And.intro (by omega) ?_
  intro g
  simp only [List.map_cons, List.map_nil, updL, upd, Nat.reduceEqDiff, if_true, if_false, ↓reduceIte]
  refine hK _ _ ?_; clear hK K
  refine Cd.seq ?_
  refine Cd.rs [2, 3, 9] fun K hK => ?_
  simp (maxSteps := 2000000) (disch := first | omega | (simp only [E4, hx, ho, *] <;> omega) | fail) only [↓E0, E1, env0, envN, evOps, evOp, evQs, evQ, evV, setD, pureOp, ev, upd, updL, binW, eqOp, binV, intOp, shOp, boolOp, fieldAddrV, cellAt, cellsAt, findB, hav, eqL, SameI, strOp, ↓reduceIte, Zj, Zk, Nat.reduceAdd, Nat.reduceLT, Nat.reduceEqDiff, Nat.reduceMul, Nat.reduceLeDiff, if_true, Zn, reduceCtorEq, ZA, eq_self, Int.reduceLE, Int.reduceLT, Int.reduceToNat, ne_eq, Nat.reduceSub, Tfld24_0, Tld2, n32, hx, ho]
  repeat refine And.intro (by omega) ?_
  intro g
  simp only [List.map_cons, List.map_nil, updL, upd, Nat.reduceEqDiff, if_true, if_false, ↓reduceIte]
  refine hK _ _ ?_; clear hK K
  refine Cd.no rfl ?_
  refine Cd.skip ?_
  refine thenN ?_
  refine Cd.seq ?_
  refine Cd.rs [2, 3, 15] fun K hK => ?_
  simp (maxSteps := 2000000) (disch := first | omega | (simp only [E4, hx, ho, *] <;> omega) | fail) only [↓E0, E1, env0, envN, evOps, evOp, evQs, evQ, evV, setD, pureOp, ev, upd, updL, unV, fieldAddrV, cellAt, cellsAt, findB, setB, hav, ↓reduceIte, Zj, Zk, Nat.reduceAdd, Nat.reduceLT, Nat.reduceEqDiff, Nat.reduceMul, Nat.reduceLeDiff, if_true, Zn, reduceCtorEq, ZA, eq_self, Int.reduceLE, Int.reduceLT, Int.reduceToNat, ne_eq, Nat.reduceSub, Tfld24_1, Tld22, n32, hx, ho]
  refine callK_gives (eqByteA8_c _ hx) ?_
  simp (maxSteps := 2000000) (disch := first | omega | (simp only [E4, *] <;> omega) | fail) only [↓E0, E1, env0, envN, evOps, evOp, evQs, evQ, evV, setD, pureOp, ev, upd, updL, unV, fieldAddrV, cellAt, cellsAt, findB, setB, hav, ↓reduceIte, Zj, Zk, Nat.reduceAdd, Nat.reduceLT, Nat.reduceEqDiff, Nat.reduceMul, Nat.reduceLeDiff, if_true, Zn, reduceCtorEq, ZA, eq_self, Int.reduceLE, Int.reduceLT, Int.reduceToNat, ne_eq, Nat.reduceSub, Tfld24_1, Tld22]
  repeat refine And.intro (by omega) ?_
  intro g
  simp only [List.map_cons, List.map_nil, updL, upd, Nat.reduceEqDiff, if_true, if_false, ↓reduceIte]
  refine hK _ _ ?_; clear hK K
  refine Cd.no rfl ?_
  refine Cd.skip ?_
  refine thenN ?_
  refine Cd.seq ?_
  refine Cd.rs [21] fun K hK => ?_
  simp (maxSteps := 2000000) (disch := first | omega | (simp only [E4, hx, ho, *] <;> omega) | fail) only [↓E0, E1, env0, envN, evOps, evOp, evQs, evQ, evV, setD, pureOp, ev, upd, updL, unV, fieldAddrV, cellAt, cellsAt, findB, setB, hav, ↓reduceIte, Zj, Zk, Nat.reduceAdd, Nat.reduceLT, Nat.reduceEqDiff, Nat.reduceMul, Nat.reduceLeDiff, if_true, Zn, reduceCtorEq, ZA, eq_self, Int.reduceLE, Int.reduceLT, Int.reduceToNat, ne_eq, Nat.reduceSub, Tfld24_2, Tld22, n32, hx, ho]
  refine callK_gives (eqByteA8_c _ ho) ?_
  simp (maxSteps := 2000000) (disch := first | omega | (simp only [E4, *] <;> omega) | fail) only [↓E0, E1, env0, envN, evOps, evOp, evQs, evQ, evV, setD, pureOp, ev, upd, updL, unV, fieldAddrV, cellAt, cellsAt, findB, setB, hav, ↓reduceIte, Zj, Zk, Nat.reduceAdd, Nat.reduceLT, Nat.reduceEqDiff, Nat.reduceMul, Nat.reduceLeDiff, if_true, Zn, reduceCtorEq, ZA, eq_self, Int.reduceLE, Int.reduceLT, Int.reduceToNat, ne_eq, Nat.reduceSub, Tfld24_2, Tld22]
  repeat refine And.intro (by omega) ?_
  intro g
  simp only [List.map_cons, List.map_nil, updL, upd, Nat.reduceEqDiff, if_true, if_false, ↓reduceIte]
  refine hK _ _ ?_; clear hK K
  refine Cd.no rfl ?_
  refine Cd.skip ?_
  refine thenN ?_
  refine Cd.rs [4] fun K hK => ?_
  simp (maxSteps := 2000000) (disch := first | omega | (simp only [E4, *] <;> omega) | fail) only [↓E0, E1, env0, envN, evOps, evOp, evQs, evQ, evV, setD, pureOp, ev, upd, updL, hav, ↓reduceIte, Zj, Zk, Nat.reduceAdd, Nat.reduceLT, Nat.reduceEqDiff, Nat.reduceMul, Nat.reduceLeDiff, if_true, Zn, reduceCtorEq, ZA, eq_self, Int.reduceLE, Int.reduceLT, Int.reduceToNat, ne_eq, Nat.reduceSub]
  repeat refine And.intro (by omega) ?_
  intro g
  simp only [List.map_cons, List.map_nil, updL, upd, Nat.reduceEqDiff, if_true, if_false, ↓reduceIte]
  refine hK _ _ ?_; clear hK K
  refine Cd.ret ?_
  simp (maxSteps := 2000000) (disch := first | omega | (simp only [E4, *] <;> omega) | fail) only [↓E0, E1, evP, evPlan, env0, envN, evOps, evOp, evQs, evQ, evV, setD, pureOp, ev, upd, updL, gate, binW, eqOp, binV, intOp, shOp, boolOp, unV, convV, nilV, fieldAddrV, indexAddrV, extractV, cellAt, cellsAt, findB, setB, fillL, buildV, Value.cells, lenV, minV, maxV, hav, sliceV, loV, hiV, bslQ, mksQ, appQ, partsOk, partsCells, delB, eqL, SameI, strOp, apzQ, cvtQ, capV, ↓reduceIte, Zj, Zk, Nat.reduceAdd, Nat.reduceLT, Nat.reduceEqDiff, Nat.reduceMul, Nat.reduceLeDiff, if_true, Zn, reduceCtorEq, ZA, eq_self, Int.reduceLE, Int.reduceLT, Int.reduceToNat, ne_eq, Nat.reduceSub]

end Go.Proofs

/-
  What the functions of this part hand back: each as a plain function of its arguments. Conditions: none.
-/
namespace Go.Proofs
open Go.W8
set_option linter.unusedVariables false
set_option linter.unusedSimpArgs false
set_option linter.unusedSectionVars false
set_option maxRecDepth 8000
set_option maxHeartbeats 4000000
theorem par_shape (s : ByteArray) : ∃ n x o c, parR s = .tuple #[.agg (gc n x o).toArray, .int .i64 c] ∧ x.length = 8 ∧ o.length = 8 := by
  unfold parR badR rdR
  split
  · exact ⟨_, _, _, _, rfl, rfl, rfl⟩
  · split
    · split
      · exact ⟨_, _, _, _, rfl, tab_len _, tab_len _⟩
      · exact ⟨_, _, _, _, rfl, rfl, rfl⟩
    · exact ⟨_, _, _, _, rfl, rfl, rfl⟩
theorem lawParse_c (s : ByteArray) (hm : s.size ≤ 9223372036854775807) : Gives Tryd.prog 3 #[.string s] (.bool true) := by
  obtain ⟨n, x, o, c, e, xl, ol⟩ := par_shape s
  skip
  refine Gives.of fun w => ?_
  refine acall_of (N := 29) (c := _) (rs := [.tmp 2]) (args := [_]) Tryd.func3 rfl (by decide) rfl rfl (Nat.le_of_ble_eq_true rfl) ?_
  refine Cd.rs [0] fun K hK => ?_
  simp (maxSteps := 2000000) (disch := first | (simp only [E4, xl, ol] <;> omega) | omega | fail) only [↓E2, E3, bare, bareJ, ↓E0, E1, env0, envN, evOps, evOp, evQs, evQ, evV, setD, pureOp, ev, upd, updL, hav, ↓reduceIte, Zj, Zk, Nat.reduceAdd, Nat.reduceLT, Nat.reduceEqDiff, Nat.reduceMul, Nat.reduceLeDiff, if_true, Zn, reduceCtorEq, ZA, eq_self, Int.reduceLE, Int.reduceLT, Int.reduceToNat, ne_eq, Nat.reduceSub, xl, ol]
  repeat refine And.intro (by omega) ?_
  repeat refine And.intro (by omega) ?_
  intro g
  simp only [List.map_cons, List.map_nil, updL, upd, Nat.reduceEqDiff, if_true, if_false, ↓reduceIte]
  refine hK _ _ ?_; clear hK K
  refine Cd.seq ?_
  refine Cd.rs [0, 9] fun K hK => ?_
  simp (maxSteps := 2000000) (disch := first | (simp only [E4, xl, ol] <;> omega) | omega | fail) only [↓E2, E3, bare, bareJ, ↓E0, E1, env0, envN, evOps, evOp, evQs, evQ, evV, setD, pureOp, ev, upd, updL, binW, eqOp, binV, intOp, shOp, boolOp, lenV, hav, eqL, SameI, strOp, ↓reduceIte, Zj, Zk, Nat.reduceAdd, Nat.reduceLT, Nat.reduceEqDiff, Nat.reduceMul, Nat.reduceLeDiff, if_true, Zn, reduceCtorEq, ZA, eq_self, Int.reduceLE, Int.reduceLT, Int.reduceToNat, ne_eq, Nat.reduceSub, Tstr9, xl, ol]
  repeat refine And.intro (by omega) ?_
  repeat refine And.intro (by omega) ?_
  intro g
  simp only [List.map_cons, List.map_nil, updL, upd, Nat.reduceEqDiff, if_true, if_false, ↓reduceIte]
  refine hK _ _ ?_; clear hK K
  refine Cd.cond rfl (fun c1 => ?_) (fun c1 => ?_)
  · refine Cd.rs [2] fun K hK => ?_
    simp (maxSteps := 2000000) (disch := first | (simp only [E4, xl, ol] <;> omega) | omega | fail) only [↓E2, E3, bare, bareJ, ↓E0, E1, env0, envN, evOps, evOp, evQs, evQ, evV, setD, pureOp, ev, upd, updL, hav, ↓reduceIte, Zj, Zk, Nat.reduceAdd, Nat.reduceLT, Nat.reduceEqDiff, Nat.reduceMul, Nat.reduceLeDiff, if_true, Zn, reduceCtorEq, ZA, eq_self, Int.reduceLE, Int.reduceLT, Int.reduceToNat, ne_eq, Nat.reduceSub, xl, ol]
    repeat refine And.intro (by omega) ?_
    repeat refine And.intro (by omega) ?_
    intro g
    simp only [List.map_cons, List.map_nil, updL, upd, Nat.reduceEqDiff, if_true, if_false, ↓reduceIte]
    refine hK _ _ ?_; clear hK K
    refine Cd.ret (thenR ?_)
    simp (maxSteps := 2000000) (disch := first | (simp only [E4, xl, ol] <;> omega) | omega | fail) only [↓E2, E3, bare, bareJ, ↓E0, E1, evP, evPlan, env0, envN, evOps, evOp, evQs, evQ, evV, setD, pureOp, ev, upd, updL, gate, binW, eqOp, binV, intOp, shOp, boolOp, unV, convV, nilV, fieldAddrV, indexAddrV, extractV, cellAt, cellsAt, findB, setB, fillL, buildV, Value.cells, lenV, minV, maxV, hav, sliceV, loV, hiV, bslQ, mksQ, appQ, partsOk, partsCells, delB, eqL, SameI, strOp, apzQ, cvtQ, capV, ↓reduceIte, Zj, Zk, Nat.reduceAdd, Nat.reduceLT, Nat.reduceEqDiff, Nat.reduceMul, Nat.reduceLeDiff, if_true, Zn, reduceCtorEq, ZA, eq_self, Int.reduceLE, Int.reduceLT, Int.reduceToNat, ne_eq, Nat.reduceSub, xl, ol]
    repeat refine And.intro (by omega) ?_
  · simp only [decide_eq_true_eq, decide_eq_false_iff_not, beq_iff_eq, beq_eq_false_iff_ne, bne_iff_ne, bne_eq_false_iff_eq, Bool.and_eq_true, Bool.or_eq_true, Bool.or_eq_false_iff, Bool.not_eq_true', Bool.not_eq_false', Bool.and_eq_false_imp, ne_eq, gt_iff_lt, ge_iff_le, Int.not_lt, Int.not_le, Classical.not_not] at c1
    have hs : s.size ≤ 1048576 := by omega
    have hS := sParse_c s hs
    have hI := iParse_c s hs
    rw [e] at hS hI
    refine Cd.skip ?_
    refine thenN ?_
    refine Cd.rs [0, 3, 4] fun K hK => ?_
    simp (maxSteps := 2000000) (disch := first | (simp only [E4, xl, ol] <;> omega) | omega | fail) only [↓E2, E3, bare, bareJ, ↓E0, E1, env0, envN, evOps, evOp, evQs, evQ, evV, setD, pureOp, ev, upd, updL, extractV, cellAt, cellsAt, findB, setB, Value.cells, hav, ↓reduceIte, Zj, Zk, Nat.reduceAdd, Nat.reduceLT, Nat.reduceEqDiff, Nat.reduceMul, Nat.reduceLeDiff, if_true, Zn, reduceCtorEq, ZA, eq_self, Int.reduceLE, Int.reduceLT, Int.reduceToNat, ne_eq, Nat.reduceSub, Tst24, Tzero24, xl, ol]
    repeat refine And.intro (by omega) ?_
    refine callK_gives hS ?_
    simp (maxSteps := 2000000) (disch := first | (simp only [E4, xl, ol] <;> omega) | omega | fail) only [↓E2, E3, bare, bareJ, ↓E0, E1, env0, envN, evOps, evOp, evQs, evQ, evV, setD, pureOp, ev, upd, updL, extractV, cellAt, cellsAt, findB, setB, Value.cells, hav, ↓reduceIte, Zj, Zk, Nat.reduceAdd, Nat.reduceLT, Nat.reduceEqDiff, Nat.reduceMul, Nat.reduceLeDiff, if_true, Zn, reduceCtorEq, ZA, eq_self, Int.reduceLE, Int.reduceLT, Int.reduceToNat, ne_eq, Nat.reduceSub, Tst24, Tzero24, xl, ol]
    repeat refine And.intro (by omega) ?_
    intro b1 hb1
    try simp (maxSteps := 2000000) (disch := first | (simp only [E4, xl, ol] <;> omega) | omega | fail) only [↓E2, E3, bare, bareJ, ↓E0, E1, env0, envN, evOps, evOp, evQs, evQ, evV, setD, pureOp, ev, upd, updL, extractV, cellAt, cellsAt, findB, setB, Value.cells, hav, ↓reduceIte, Zj, Zk, Nat.reduceAdd, Nat.reduceLT, Nat.reduceEqDiff, Nat.reduceMul, Nat.reduceLeDiff, if_true, Zn, reduceCtorEq, ZA, eq_self, Int.reduceLE, Int.reduceLT, Int.reduceToNat, ne_eq, Nat.reduceSub, Tst24, Tzero24, xl, ol]
    repeat refine And.intro (by omega) ?_
    repeat refine And.intro (by omega) ?_
    intro g
    simp only [List.map_cons, List.map_nil, updL, upd, Nat.reduceEqDiff, if_true, if_false, ↓reduceIte]
    refine hK _ _ ?_; clear hK K
    refine Cd.rs [3, 4, 5, 6] fun K hK => ?_
    simp (maxSteps := 2000000) (disch := first | (simp only [E4, xl, ol] <;> omega) | omega | fail) only [↓E2, E3, bare, bareJ, ↓E0, E1, env0, envN, evOps, evOp, evQs, evQ, evV, setD, pureOp, ev, upd, updL, extractV, cellAt, cellsAt, findB, setB, Value.cells, hav, ↓reduceIte, Zj, Zk, Nat.reduceAdd, Nat.reduceLT, Nat.reduceEqDiff, Nat.reduceMul, Nat.reduceLeDiff, if_true, Zn, reduceCtorEq, ZA, eq_self, Int.reduceLE, Int.reduceLT, Int.reduceToNat, ne_eq, Nat.reduceSub, Tst24, Tzero24, xl, ol]
    repeat refine And.intro (by omega) ?_
    refine callK_gives hI ?_
    simp (maxSteps := 2000000) (disch := first | (simp only [E4, xl, ol] <;> omega) | omega | fail) only [↓E2, E3, bare, bareJ, ↓E0, E1, env0, envN, evOps, evOp, evQs, evQ, evV, setD, pureOp, ev, upd, updL, extractV, cellAt, cellsAt, findB, setB, Value.cells, hav, ↓reduceIte, Zj, Zk, Nat.reduceAdd, Nat.reduceLT, Nat.reduceEqDiff, Nat.reduceMul, Nat.reduceLeDiff, if_true, Zn, reduceCtorEq, ZA, eq_self, Int.reduceLE, Int.reduceLT, Int.reduceToNat, ne_eq, Nat.reduceSub, Tst24, Tzero24, xl, ol]
    repeat refine And.intro (by omega) ?_
    intro b2 hb2
    have nb2_b1 := hb2.ne
    try simp (maxSteps := 2000000) (disch := first | (simp only [E4, xl, ol] <;> omega) | omega | fail) only [↓E2, E3, bare, bareJ, ↓E0, E1, env0, envN, evOps, evOp, evQs, evQ, evV, setD, pureOp, ev, upd, updL, extractV, cellAt, cellsAt, findB, setB, Value.cells, hav, ↓reduceIte, Zj, Zk, Nat.reduceAdd, Nat.reduceLT, Nat.reduceEqDiff, Nat.reduceMul, Nat.reduceLeDiff, if_true, Zn, reduceCtorEq, ZA, eq_self, Int.reduceLE, Int.reduceLT, Int.reduceToNat, ne_eq, Nat.reduceSub, Tst24, Tzero24, xl, ol, nb2_b1]
    repeat refine And.intro (by omega) ?_
    repeat refine And.intro (by omega) ?_
    intro g
    simp only [List.map_cons, List.map_nil, updL, upd, Nat.reduceEqDiff, if_true, if_false, ↓reduceIte]
    refine hK _ _ ?_; clear hK K
    refine Cd.seq ?_
    refine Cd.rs [28] fun K hK => ?_
    simp (maxSteps := 2000000) (disch := first | (simp only [E4, xl, ol] <;> omega) | omega | fail) only [↓E2, E3, bare, bareJ, ↓E0, E1, env0, envN, evOps, evOp, evQs, evQ, evV, setD, pureOp, ev, upd, updL, gate, binW, eqOp, binV, intOp, shOp, boolOp, unV, cellAt, cellsAt, findB, setB, hav, eqL, SameI, strOp, ↓reduceIte, Zj, Zk, Nat.reduceAdd, Nat.reduceLT, Nat.reduceEqDiff, Nat.reduceMul, Nat.reduceLeDiff, if_true, Zn, reduceCtorEq, ZA, eq_self, Int.reduceLE, Int.reduceLT, Int.reduceToNat, ne_eq, Nat.reduceSub, Tld24, xl, ol, nb2_b1]
    repeat refine And.intro (by omega) ?_
    refine callK_gives (eqGrid_c n x o xl ol) ?_
    simp (maxSteps := 2000000) (disch := first | (simp only [E4, xl, ol] <;> omega) | omega | fail) only [↓E2, E3, bare, bareJ, ↓E0, E1, env0, envN, evOps, evOp, evQs, evQ, evV, setD, pureOp, ev, upd, updL, gate, binW, eqOp, binV, intOp, shOp, boolOp, unV, cellAt, cellsAt, findB, setB, hav, eqL, SameI, strOp, ↓reduceIte, Zj, Zk, Nat.reduceAdd, Nat.reduceLT, Nat.reduceEqDiff, Nat.reduceMul, Nat.reduceLeDiff, if_true, Zn, reduceCtorEq, ZA, eq_self, Int.reduceLE, Int.reduceLT, Int.reduceToNat, ne_eq, Nat.reduceSub, Tld24, xl, ol, nb2_b1]
    repeat refine And.intro (by omega) ?_
    apply guardX_or 3 [25, 26, 27] (j := 4) (d := 24) (tp := 28) (tl := 27) rfl rfl rfl rfl rfl
    · intro hq
      simp (maxSteps := 2000000) (disch := first | (simp only [E4, xl, ol] <;> omega) | omega | fail) only [↓E2, E3, bare, bareJ, ↓E0, E1, env0, envN, evOps, evOp, evQs, evQ, evV, setD, pureOp, ev, upd, updL, gate, binW, eqOp, binV, intOp, shOp, boolOp, unV, cellAt, cellsAt, findB, setB, hav, eqL, SameI, strOp, ↓reduceIte, Zj, Zk, Nat.reduceAdd, Nat.reduceLT, Nat.reduceEqDiff, Nat.reduceMul, Nat.reduceLeDiff, if_true, Zn, reduceCtorEq, ZA, eq_self, Int.reduceLE, Int.reduceLT, Int.reduceToNat, ne_eq, Nat.reduceSub, Tld24, xl, ol, nb2_b1]
      repeat refine And.intro (by omega) ?_
      exact rfl
    intro g
    simp (maxSteps := 2000000) (disch := first | (simp only [E4, xl, ol] <;> omega) | omega | fail) only [↓E2, E3, bare, bareJ, ↓E0, E1, env0, envN, evOps, evOp, evQs, evQ, evV, setD, pureOp, ev, upd, updL, gate, binW, eqOp, binV, intOp, shOp, boolOp, unV, cellAt, cellsAt, findB, setB, hav, eqL, SameI, strOp, ↓reduceIte, Zj, Zk, Nat.reduceAdd, Nat.reduceLT, Nat.reduceEqDiff, Nat.reduceMul, Nat.reduceLeDiff, if_true, Zn, reduceCtorEq, ZA, eq_self, Int.reduceLE, Int.reduceLT, Int.reduceToNat, ne_eq, Nat.reduceSub, Tld24, xl, ol, nb2_b1]
    repeat refine And.intro (by omega) ?_
    repeat refine And.intro (by omega) ?_
    intro g
    simp only [List.map_cons, List.map_nil, updL, upd, Nat.reduceEqDiff, if_true, if_false, ↓reduceIte]
    refine hK _ _ ?_; clear hK K
    refine Cd.cond rfl (fun c2 => absurd c2 (by decide)) (fun c2 => ?_)
    refine Cd.skip ?_
    refine thenN ?_
    refine Cd.rs [2] fun K hK => ?_
    simp (maxSteps := 2000000) (disch := first | (simp only [E4, xl, ol] <;> omega) | omega | fail) only [↓E2, E3, bare, bareJ, ↓E0, E1, env0, envN, evOps, evOp, evQs, evQ, evV, setD, pureOp, ev, upd, updL, hav, ↓reduceIte, Zj, Zk, Nat.reduceAdd, Nat.reduceLT, Nat.reduceEqDiff, Nat.reduceMul, Nat.reduceLeDiff, if_true, Zn, reduceCtorEq, ZA, eq_self, Int.reduceLE, Int.reduceLT, Int.reduceToNat, ne_eq, Nat.reduceSub, xl, ol, nb2_b1]
    repeat refine And.intro (by omega) ?_
    repeat refine And.intro (by omega) ?_
    intro g
    simp only [List.map_cons, List.map_nil, updL, upd, Nat.reduceEqDiff, if_true, if_false, ↓reduceIte]
    refine hK _ _ ?_; clear hK K
    refine Cd.ret ?_
    simp (maxSteps := 2000000) (disch := first | (simp only [E4, xl, ol] <;> omega) | omega | fail) only [↓E2, E3, bare, bareJ, ↓E0, E1, evP, evPlan, env0, envN, evOps, evOp, evQs, evQ, evV, setD, pureOp, ev, upd, updL, gate, binW, eqOp, binV, intOp, shOp, boolOp, unV, convV, nilV, fieldAddrV, indexAddrV, extractV, cellAt, cellsAt, findB, setB, fillL, buildV, Value.cells, lenV, minV, maxV, hav, sliceV, loV, hiV, bslQ, mksQ, appQ, partsOk, partsCells, delB, eqL, SameI, strOp, apzQ, cvtQ, capV, ↓reduceIte, Zj, Zk, Nat.reduceAdd, Nat.reduceLT, Nat.reduceEqDiff, Nat.reduceMul, Nat.reduceLeDiff, if_true, Zn, reduceCtorEq, ZA, eq_self, Int.reduceLE, Int.reduceLT, Int.reduceToNat, ne_eq, Nat.reduceSub, xl, ol, nb2_b1]
    repeat refine And.intro (by omega) ?_

end Go.Proofs

/-
  What the functions of this part hand back: each as a plain function of its arguments. Conditions: none.
-/
namespace Go.Proofs
open Go.W8
set_option linter.unusedVariables false
set_option linter.unusedSimpArgs false
set_option linter.unusedSectionVars false
set_option maxRecDepth 8000
set_option maxHeartbeats 4000000
--@plain
open Go.ChangeShapes Go.WideShapes Go.ChangeAt Go.RowKit in
/-- A law that hands back a value of numbers and truths and leaves what was there as it was meets its row's postcondition. -/
theorem post_own {H : Type} {enc : TypeId × Value → H} {P : Program} {f : Func} {s : ChangeSpec} {apart fresh handsOn again : Bool} {w w' : World} {args : Array Value} {v : Value} {ds gs : List (DataW H)} {before pa pv : List MemPlace}
    (hW : DataW.Whole enc P f.params.toList s.vars apart w args.toList ds gs before)
    (hres : ∀ (b : Nat) (sp : Nat → Bool) (hd : Bool), DataW.TrodAll enc P w' b sp hd f.resultTypes.toList (v.resultList f.resultTypes.size) (s.fn H (ds ++ gs)).results [])
    (hargs : ∀ sp : Nat → Bool, (∀ p ∈ before, sp p.block = true) → DataW.TrodAll enc P w' 0 sp true f.params.toList args.toList (s.fn H (ds ++ gs)).args pa)
    (hvars : ∀ sp : Nat → Bool, (∀ p ∈ before, sp p.block = true) → DataW.TrodVars enc P w' sp s.vars (s.fn H (ds ++ gs)).vars pv)
    (hps : before = pa ++ pv) (ho : Own [] w [] w')
    (hok : ∀ (j : Nat) (t : TypeId) (r : Value), f.resultTypes[j]? = some t → (v.resultList f.resultTypes.size)[j]? = some r → Value.okWide P w' .any 0 t r) :
    s.post enc P f apart fresh handsOn again w args v w' := by
  have hb : Below w.heap.size w w' := ⟨ho.os, ho.tape, ho.output, ho.size, fun k hk => ho.frame k hk (by simp)⟩
  have old : ∀ p ∈ before, p.block < w.heap.size := fun p hp => hW.lt p hp
  have told : ∀ p ∈ before, (fun b => decide (b < w.heap.size)) p.block = true := fun p hp => decide_eq_true (old p hp)
  refine ⟨ds, gs, before, [], pa, pv, hW, hres _ _ _, hargs _ told, hvars _ told, ?_, fun _ => ?_⟩
  · exact World.keptBut_mono (fun p hp => ⟨hp, by
      rw [hps] at hp
      exact List.mem_append.1 hp |>.elim (fun h => by simp [h]) (fun h => by simp [h])⟩) (hb.frame (· ∈ before))
  · obtain ⟨_, _, _, _, _, hz, hn⟩ := hW
    refine ⟨hok, _, _, ([] ++ pa) ++ pv, ⟨[] ++ pa, pv, trodAll_append (hargs _ (fun _ _ => rfl)) (hres _ _ _), hvars _ (fun _ _ => rfl), rfl, fun b off hp => ?_, fun ha => ?_⟩, fun p hp _ => ?_⟩
    · have hin : MemPlace.cell b off ∈ before := by rw [hps]; simpa using hp
      rw [hb.frozen (old _ hin)]
      exact hz b off hin
    · have h1 := hn ha
      rw [hps] at h1
      simpa using h1
    · rw [hps]
      simpa using hp

end Go.Proofs

