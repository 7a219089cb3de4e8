/-
  What the functions of this part hand back: each as a plain function of its arguments. Conditions: none.
-/
import Derived.Test.YtclfpogolgindadFx
import Derived.Test.YtclfpogolgindadUorder
import Derived.Test.YtclfpogolgindadUlist8
namespace Go.Proofs
open Go.W8
set_option linter.unusedVariables false
set_option linter.unusedSimpArgs false
set_option linter.unusedSectionVars false
set_option maxRecDepth 8000
set_option maxHeartbeats 4000000
/-- The code of a grid and the first ones of pairs of neighbours. -/
def pairC (s : Int) (x o l : List Int) : Int := if gridB s x o then if ∀ a ∈ l, 0 ≤ a ∧ a ≤ s - 2 then 0 else 2 else 1
def PairTo (s : Int) (l : List Int) (k : Nat) : Prop := ∀ j, j < k → 0 ≤ l.getD j 0 ∧ l.getD j 0 ≤ s - 2
theorem pair_all {s : Int} {l : List Int} (h : PairTo s l l.length) : ∀ a ∈ l, 0 ≤ a ∧ a ≤ s - 2 := by
  intro a ha
  obtain ⟨j, hj⟩ := List.getElem?_of_mem ha
  have hl : j < l.length := by
    rcases Nat.lt_or_ge j l.length with h1 | h1
    · exact h1
    · rw [List.getElem?_eq_none h1] at hj; cases hj
  have := h j hl
  rw [List.getD_eq_getElem?_getD, hj] at this
  exact this
theorem pair_not {s : Int} {l : List Int} {k : Nat} (hk : k < l.length) (h : ¬ (0 ≤ l.getD k 0 ∧ l.getD k 0 ≤ s - 2)) : ¬ ∀ a ∈ l, 0 ≤ a ∧ a ≤ s - 2 := fun ha => h (by
  have := ha (l.getD k 0) (by rw [List.getD_eq_getElem?_getD, List.getElem?_eq_getElem hk]; exact List.getElem_mem hk)
  exact this)
theorem pair_succ {s : Int} {l : List Int} {k : Nat} (h : PairTo s l k) (h' : 0 ≤ l.getD k 0 ∧ l.getD k 0 ≤ s - 2) : PairTo s l (k + 1) := fun j hj => by
  rcases Nat.lt_succ_iff_lt_or_eq.1 hj with h1 | rfl
  · exact h j h1
  · exact h'

theorem isPair_c (s : Int) (x o : List Int) (hx : Bytes8 x) (ho : Bytes8 o) (b f cap : Nat) (l : List Int) (hlen : l.length ≤ 8) : GivesR Try.prog 165 #[.agg (gc s x o).toArray, .slice (some ⟨b, f, none⟩) l.length cap] [(b, f, ints .i64 l)] (.int .i64 (pairC s x o l)) := by
  have hl := hx.len
  have hm := ho.len
  skip
  refine GivesR.of (callable_of Try.func165 rfl (by decide)) fun w hR => ?_
  refine acall_of (N := 23) (c := _) (rs := [.tmp 4]) (args := [_, _]) Try.func165 rfl (by decide) rfl rfl (Nat.le_of_ble_eq_true rfl) ?_
  have hR := (told_ints hR).1
  refine Cd.rs [1, 2] fun K hK => ?_
  simp (maxSteps := 2000000) (disch := first | omega | (simp only [gc_length, ints_length, bools_length, upto_length, List.length_set, z8_len, List.length_replicate, List.length_cons, List.length_nil, tab_len, hl, hm, *] <;> omega) | fail) only [evP, ↓Za, ↓Zb, ↓Zc, ↓Zd, Ze, ↓Zf, ↓Zg, ↓Zh, evPlan, env0, envN, evOps, evOp, evQs, evQ, evV, setD, pureOp, ev, upd, updL, gate, binW, eqOp, binV, intOp, shOp, boolOp, unV, convV, nilV, fieldAddrV, indexAddrV, extractV, cellAt, cellsAt, findB, setB, fillL, buildV, Value.cells, Zj, Zk, Nat.reduceAdd, Nat.reduceLT, Nat.reduceEqDiff, Nat.reduceMul, Nat.reduceLeDiff, Zl, Zm, if_true, Zn, ↓reduceIte, reduceCtorEq, or_self, Zo, Zp, Zq, Zr, Zs, Zt, Zu, Zv, Zw, Zx, Zy, Zz, ZA, ZB, ZC, ZD, ZE, ZF, ZG, ZH, ZI, ZJ, ZK, ZL, ZM, ZN, ZO, ZP, ZQ, lenV, minV, maxV, hav, stC_one, ZR, ZS, ZT, ZU, ZV, ZW, ZX, ZY, ZZ, Z0, ones_gc, Z1, Z2, Z3, Z4, Z5, Z6, Z7, Z8, Z9, Ya, Yb, Yc, Yd, z8_len, Ye, Yf, wrap_u8, gc_s, gc_x, gc_o, Yg, Yh, Yi, Yj, Yk, Yl, Ym, Yn, Yo, eq_self, Int.reduceLE, Int.reduceLT, Yp, Yq, Yr, Ys, endQ_1, endQ_2, endQ_3, Yt, Yu, Yv, Yw, Yx, sliceV, loV, hiV, Yy, ZL, Int.reduceToNat, Yz, YA, YB, YC, YD, YE, YF, ne_eq, YG, Nat.reduceSub, YH, shOp, YI, bslQ, mksQ, appQ, partsOk, partsCells, delB, YJ, YK, tab_len, YL, YM, YN, YO, eqL_gc, eqL, SameI, YP, YQ, hl, hm]
  intro b1 hb1
  try simp (maxSteps := 2000000) (disch := first | omega | (simp only [gc_length, ints_length, bools_length, upto_length, List.length_set, z8_len, List.length_replicate, List.length_cons, List.length_nil, tab_len, hl, hm, *] <;> omega) | fail) only [evP, ↓Za, ↓Zb, ↓Zc, ↓Zd, Ze, ↓Zf, ↓Zg, ↓Zh, evPlan, env0, envN, evOps, evOp, evQs, evQ, evV, setD, pureOp, ev, upd, updL, gate, binW, eqOp, binV, intOp, shOp, boolOp, unV, convV, nilV, fieldAddrV, indexAddrV, extractV, cellAt, cellsAt, findB, setB, fillL, buildV, Value.cells, Zj, Zk, Nat.reduceAdd, Nat.reduceLT, Nat.reduceEqDiff, Nat.reduceMul, Nat.reduceLeDiff, Zl, Zm, if_true, Zn, ↓reduceIte, reduceCtorEq, or_self, Zo, Zp, Zq, Zr, Zs, Zt, Zu, Zv, Zw, Zx, Zy, Zz, ZA, ZB, ZC, ZD, ZE, ZF, ZG, ZH, ZI, ZJ, ZK, ZL, ZM, ZN, ZO, ZP, ZQ, lenV, minV, maxV, hav, stC_one, ZR, ZS, ZT, ZU, ZV, ZW, ZX, ZY, ZZ, Z0, ones_gc, Z1, Z2, Z3, Z4, Z5, Z6, Z7, Z8, Z9, Ya, Yb, Yc, Yd, z8_len, Ye, Yf, wrap_u8, gc_s, gc_x, gc_o, Yg, Yh, Yi, Yj, Yk, Yl, Ym, Yn, Yo, eq_self, Int.reduceLE, Int.reduceLT, Yp, Yq, Yr, Ys, endQ_1, endQ_2, endQ_3, Yt, Yu, Yv, Yw, Yx, sliceV, loV, hiV, Yy, ZL, Int.reduceToNat, Yz, YA, YB, YC, YD, YE, YF, ne_eq, YG, Nat.reduceSub, YH, shOp, YI, bslQ, mksQ, appQ, partsOk, partsCells, delB, YJ, YK, tab_len, YL, YM, YN, YO, eqL_gc, eqL, SameI, YP, YQ, hl, hm]
  repeat refine And.intro (by omega) ?_
  intro g
  simp only [List.map_cons, List.map_nil, updL, upd, Nat.reduceEqDiff, if_true, if_false, ↓reduceIte]
  refine hK _ _ ?_; clear hK K
  refine Cd.seq ?_
  refine Cd.rs [1, 2, 9] fun K hK => ?_
  simp (maxSteps := 2000000) (disch := first | omega | (simp only [gc_length, ints_length, bools_length, upto_length, List.length_set, z8_len, List.length_replicate, List.length_cons, List.length_nil, tab_len, hl, hm, *] <;> omega) | fail) only [evP, ↓Za, ↓Zb, ↓Zc, ↓Zd, Ze, ↓Zf, ↓Zg, ↓Zh, evPlan, env0, envN, evOps, evOp, evQs, evQ, evV, setD, pureOp, ev, upd, updL, gate, binW, eqOp, binV, intOp, shOp, boolOp, unV, convV, nilV, fieldAddrV, indexAddrV, extractV, cellAt, cellsAt, findB, setB, fillL, buildV, Value.cells, Zj, Zk, Nat.reduceAdd, Nat.reduceLT, Nat.reduceEqDiff, Nat.reduceMul, Nat.reduceLeDiff, Zl, Zm, if_true, Zn, ↓reduceIte, reduceCtorEq, or_self, Zo, Zp, Zq, Zr, Zs, Zt, Zu, Zv, Zw, Zx, Zy, Zz, ZA, ZB, ZC, ZD, ZE, ZF, ZG, ZH, ZI, ZJ, ZK, ZL, ZM, ZN, ZO, ZP, ZQ, lenV, minV, maxV, hav, stC_one, ZR, ZS, ZT, ZU, ZV, ZW, ZX, ZY, ZZ, Z0, ones_gc, Z1, Z2, Z3, Z4, Z5, Z6, Z7, Z8, Z9, Ya, Yb, Yc, Yd, z8_len, Ye, Yf, wrap_u8, gc_s, gc_x, gc_o, Yg, Yh, Yi, Yj, Yk, Yl, Ym, Yn, Yo, eq_self, Int.reduceLE, Int.reduceLT, Yp, Yq, Yr, Ys, endQ_1, endQ_2, endQ_3, Yt, Yu, Yv, Yw, Yx, sliceV, loV, hiV, Yy, ZL, Int.reduceToNat, Yz, YA, YB, YC, YD, YE, YF, ne_eq, YG, Nat.reduceSub, YH, shOp, YI, bslQ, mksQ, appQ, partsOk, partsCells, delB, YJ, YK, tab_len, YL, YM, YN, YO, eqL_gc, eqL, SameI, YP, YQ, Tld30, hl, hm]
  refine callK_gives (IsGrid_c _ _ _ hx ho) ?_
  simp (maxSteps := 2000000) (disch := first | omega | (simp only [gc_length, ints_length, bools_length, upto_length, List.length_set, z8_len, List.length_replicate, List.length_cons, List.length_nil, tab_len, hl, hm, *] <;> omega) | fail) only [evP, ↓Za, ↓Zb, ↓Zc, ↓Zd, Ze, ↓Zf, ↓Zg, ↓Zh, evPlan, env0, envN, evOps, evOp, evQs, evQ, evV, setD, pureOp, ev, upd, updL, gate, binW, eqOp, binV, intOp, shOp, boolOp, unV, convV, nilV, fieldAddrV, indexAddrV, extractV, cellAt, cellsAt, findB, setB, fillL, buildV, Value.cells, Zj, Zk, Nat.reduceAdd, Nat.reduceLT, Nat.reduceEqDiff, Nat.reduceMul, Nat.reduceLeDiff, Zl, Zm, if_true, Zn, ↓reduceIte, reduceCtorEq, or_self, Zo, Zp, Zq, Zr, Zs, Zt, Zu, Zv, Zw, Zx, Zy, Zz, ZA, ZB, ZC, ZD, ZE, ZF, ZG, ZH, ZI, ZJ, ZK, ZL, ZM, ZN, ZO, ZP, ZQ, lenV, minV, maxV, hav, stC_one, ZR, ZS, ZT, ZU, ZV, ZW, ZX, ZY, ZZ, Z0, ones_gc, Z1, Z2, Z3, Z4, Z5, Z6, Z7, Z8, Z9, Ya, Yb, Yc, Yd, z8_len, Ye, Yf, wrap_u8, gc_s, gc_x, gc_o, Yg, Yh, Yi, Yj, Yk, Yl, Ym, Yn, Yo, eq_self, Int.reduceLE, Int.reduceLT, Yp, Yq, Yr, Ys, endQ_1, endQ_2, endQ_3, Yt, Yu, Yv, Yw, Yx, sliceV, loV, hiV, Yy, ZL, Int.reduceToNat, Yz, YA, YB, YC, YD, YE, YF, ne_eq, YG, Nat.reduceSub, YH, shOp, YI, bslQ, mksQ, appQ, partsOk, partsCells, delB, YJ, YK, tab_len, YL, YM, YN, YO, eqL_gc, eqL, SameI, YP, YQ, Tld30, hl, hm]
  repeat refine And.intro (by omega) ?_
  intro g
  simp only [List.map_cons, List.map_nil, updL, upd, Nat.reduceEqDiff, if_true, if_false, ↓reduceIte]
  refine hK _ _ ?_; clear hK K
  refine Cd.cond rfl (fun h1 => ?_) (fun h1 => ?_)
  · refine Cd.rs [4] fun K hK => ?_
    simp (maxSteps := 2000000) (disch := first | omega | (simp only [gc_length, ints_length, bools_length, upto_length, List.length_set, z8_len, List.length_replicate, List.length_cons, List.length_nil, tab_len, hl, hm, *] <;> omega) | fail) only [evP, ↓Za, ↓Zb, ↓Zc, ↓Zd, Ze, ↓Zf, ↓Zg, ↓Zh, evPlan, env0, envN, evOps, evOp, evQs, evQ, evV, setD, pureOp, ev, upd, updL, gate, binW, eqOp, binV, intOp, shOp, boolOp, unV, convV, nilV, fieldAddrV, indexAddrV, extractV, cellAt, cellsAt, findB, setB, fillL, buildV, Value.cells, Zj, Zk, Nat.reduceAdd, Nat.reduceLT, Nat.reduceEqDiff, Nat.reduceMul, Nat.reduceLeDiff, Zl, Zm, if_true, Zn, ↓reduceIte, reduceCtorEq, or_self, Zo, Zp, Zq, Zr, Zs, Zt, Zu, Zv, Zw, Zx, Zy, Zz, ZA, ZB, ZC, ZD, ZE, ZF, ZG, ZH, ZI, ZJ, ZK, ZL, ZM, ZN, ZO, ZP, ZQ, lenV, minV, maxV, hav, stC_one, ZR, ZS, ZT, ZU, ZV, ZW, ZX, ZY, ZZ, Z0, ones_gc, Z1, Z2, Z3, Z4, Z5, Z6, Z7, Z8, Z9, Ya, Yb, Yc, Yd, z8_len, Ye, Yf, wrap_u8, gc_s, gc_x, gc_o, Yg, Yh, Yi, Yj, Yk, Yl, Ym, Yn, Yo, eq_self, Int.reduceLE, Int.reduceLT, Yp, Yq, Yr, Ys, endQ_1, endQ_2, endQ_3, Yt, Yu, Yv, Yw, Yx, sliceV, loV, hiV, Yy, ZL, Int.reduceToNat, Yz, YA, YB, YC, YD, YE, YF, ne_eq, YG, Nat.reduceSub, YH, shOp, YI, bslQ, mksQ, appQ, partsOk, partsCells, delB, YJ, YK, tab_len, YL, YM, YN, YO, eqL_gc, eqL, SameI, YP, YQ, hl, hm]
    repeat refine And.intro (by omega) ?_
    intro g
    simp only [List.map_cons, List.map_nil, updL, upd, Nat.reduceEqDiff, if_true, if_false, ↓reduceIte]
    refine hK _ _ ?_; clear hK K
    refine Cd.ret (thenR ?_)
    simp (maxSteps := 2000000) (disch := first | omega | (simp only [gc_length, ints_length, bools_length, upto_length, List.length_set, z8_len, List.length_replicate, List.length_cons, List.length_nil, tab_len, hl, hm, *] <;> omega) | fail) only [evP, ↓Za, ↓Zb, ↓Zc, ↓Zd, Ze, ↓Zf, ↓Zg, ↓Zh, evPlan, env0, envN, evOps, evOp, evQs, evQ, evV, setD, pureOp, ev, upd, updL, gate, binW, eqOp, binV, intOp, shOp, boolOp, unV, convV, nilV, fieldAddrV, indexAddrV, extractV, cellAt, cellsAt, findB, setB, fillL, buildV, Value.cells, Zj, Zk, Nat.reduceAdd, Nat.reduceLT, Nat.reduceEqDiff, Nat.reduceMul, Nat.reduceLeDiff, Zl, Zm, if_true, Zn, ↓reduceIte, reduceCtorEq, or_self, Zo, Zp, Zq, Zr, Zs, Zt, Zu, Zv, Zw, Zx, Zy, Zz, ZA, ZB, ZC, ZD, ZE, ZF, ZG, ZH, ZI, ZJ, ZK, ZL, ZM, ZN, ZO, ZP, ZQ, lenV, minV, maxV, hav, stC_one, ZR, ZS, ZT, ZU, ZV, ZW, ZX, ZY, ZZ, Z0, ones_gc, Z1, Z2, Z3, Z4, Z5, Z6, Z7, Z8, Z9, Ya, Yb, Yc, Yd, z8_len, Ye, Yf, wrap_u8, gc_s, gc_x, gc_o, Yg, Yh, Yi, Yj, Yk, Yl, Ym, Yn, Yo, eq_self, Int.reduceLE, Int.reduceLT, Yp, Yq, Yr, Ys, endQ_1, endQ_2, endQ_3, Yt, Yu, Yv, Yw, Yx, sliceV, loV, hiV, Yy, ZL, Int.reduceToNat, Yz, YA, YB, YC, YD, YE, YF, ne_eq, YG, Nat.reduceSub, YH, shOp, YI, bslQ, mksQ, appQ, partsOk, partsCells, delB, YJ, YK, tab_len, YL, YM, YN, YO, eqL_gc, eqL, SameI, YP, YQ, hl, hm]
    unfold pairC
    rw [if_neg (by simpa using h1)]
  · have hg : gridB s x o = true := by simpa using h1
    obtain ⟨n, rfl, hn2, hn8⟩ := gridB_s hg
    refine Cd.skip ?_
    refine thenN ?_
    refine Cd.seq ?_
    refine Cd.rs [2, 10, 11, 12] fun K hK => ?_
    simp (maxSteps := 2000000) (disch := first | omega | (simp only [gc_length, ints_length, bools_length, upto_length, List.length_set, z8_len, List.length_replicate, List.length_cons, List.length_nil, tab_len, hl, hm, *] <;> omega) | fail) only [evP, ↓Za, ↓Zb, ↓Zc, ↓Zd, Ze, ↓Zf, ↓Zg, ↓Zh, evPlan, env0, envN, evOps, evOp, evQs, evQ, evV, setD, pureOp, ev, upd, updL, gate, binW, eqOp, binV, intOp, shOp, boolOp, unV, convV, nilV, fieldAddrV, indexAddrV, extractV, cellAt, cellsAt, findB, setB, fillL, buildV, Value.cells, Zj, Zk, Nat.reduceAdd, Nat.reduceLT, Nat.reduceEqDiff, Nat.reduceMul, Nat.reduceLeDiff, Zl, Zm, if_true, Zn, ↓reduceIte, reduceCtorEq, or_self, Zo, Zp, Zq, Zr, Zs, Zt, Zu, Zv, Zw, Zx, Zy, Zz, ZA, ZB, ZC, ZD, ZE, ZF, ZG, ZH, ZI, ZJ, ZK, ZL, ZM, ZN, ZO, ZP, ZQ, lenV, minV, maxV, hav, stC_one, ZR, ZS, ZT, ZU, ZV, ZW, ZX, ZY, ZZ, Z0, ones_gc, Z1, Z2, Z3, Z4, Z5, Z6, Z7, Z8, Z9, Ya, Yb, Yc, Yd, z8_len, Ye, Yf, wrap_u8, gc_s, gc_x, gc_o, Yg, Yh, Yi, Yj, Yk, Yl, Ym, Yn, Yo, eq_self, Int.reduceLE, Int.reduceLT, Yp, Yq, Yr, Ys, endQ_1, endQ_2, endQ_3, Yt, Yu, Yv, Yw, Yx, sliceV, loV, hiV, Yy, ZL, Int.reduceToNat, Yz, YA, YB, YC, YD, YE, YF, ne_eq, YG, Nat.reduceSub, YH, shOp, YI, bslQ, mksQ, appQ, partsOk, partsCells, delB, YJ, YK, tab_len, YL, YM, YN, YO, eqL_gc, eqL, SameI, YP, YQ, Tslce25, hl, hm]
    repeat refine And.intro (by omega) ?_
    intro g
    simp only [List.map_cons, List.map_nil, updL, upd, Nat.reduceEqDiff, if_true, if_false, ↓reduceIte]
    refine hK _ _ ?_; clear hK K
    refine Cd.block ?_
    refine Cd.loop (fun m ρ M => ∃ g k, k + m = l.length ∧ PairTo (n : Int) l k ∧ ρ = updL [(2, .pointer (some ⟨b1, 0, none⟩)), (10, .slice (some ⟨b, f, none⟩) l.length cap), (11, .int .i64 (l.length : Int)), (12, .int .i64 (k : Int))] g ∧ M = [(b1, gc (n : Int) x o)]) l.length
      ⟨_, 0, Nat.zero_add _, (fun _ h => absurd h (Nat.not_lt_zero _)), rfl, rfl⟩ ?_
    rintro m ρ M ⟨g, k, hk, hp, rfl, rfl⟩
    refine Cd.rs [2, 10, 11, 12, 13] fun K hK => ?_
    simp (maxSteps := 2000000) (disch := first | omega | (simp only [gc_length, ints_length, bools_length, upto_length, List.length_set, z8_len, List.length_replicate, List.length_cons, List.length_nil, tab_len, hl, hm, *] <;> omega) | fail) only [evP, ↓Za, ↓Zb, ↓Zc, ↓Zd, Ze, ↓Zf, ↓Zg, ↓Zh, evPlan, env0, envN, evOps, evOp, evQs, evQ, evV, setD, pureOp, ev, upd, updL, gate, binW, eqOp, binV, intOp, shOp, boolOp, unV, convV, nilV, fieldAddrV, indexAddrV, extractV, cellAt, cellsAt, findB, setB, fillL, buildV, Value.cells, Zj, Zk, Nat.reduceAdd, Nat.reduceLT, Nat.reduceEqDiff, Nat.reduceMul, Nat.reduceLeDiff, Zl, Zm, if_true, Zn, ↓reduceIte, reduceCtorEq, or_self, Zo, Zp, Zq, Zr, Zs, Zt, Zu, Zv, Zw, Zx, Zy, Zz, ZA, ZB, ZC, ZD, ZE, ZF, ZG, ZH, ZI, ZJ, ZK, ZL, ZM, ZN, ZO, ZP, ZQ, lenV, minV, maxV, hav, stC_one, ZR, ZS, ZT, ZU, ZV, ZW, ZX, ZY, ZZ, Z0, ones_gc, Z1, Z2, Z3, Z4, Z5, Z6, Z7, Z8, Z9, Ya, Yb, Yc, Yd, z8_len, Ye, Yf, wrap_u8, gc_s, gc_x, gc_o, Yg, Yh, Yi, Yj, Yk, Yl, Ym, Yn, Yo, eq_self, Int.reduceLE, Int.reduceLT, Yp, Yq, Yr, Ys, endQ_1, endQ_2, endQ_3, Yt, Yu, Yv, Yw, Yx, sliceV, loV, hiV, Yy, ZL, Int.reduceToNat, Yz, YA, YB, YC, YD, YE, YF, ne_eq, YG, Nat.reduceSub, YH, shOp, YI, bslQ, mksQ, appQ, partsOk, partsCells, delB, YJ, YK, tab_len, YL, YM, YN, YO, eqL_gc, eqL, SameI, YP, YQ, hl, hm]
    repeat refine And.intro (by omega) ?_
    intro g
    simp only [List.map_cons, List.map_nil, updL, upd, Nat.reduceEqDiff, if_true, if_false, ↓reduceIte]
    refine hK _ _ ?_; clear hK K
    refine Cd.seq ?_
    refine Cd.condd rfl (fun h2 => ?_) (fun h2 => ?_)
    · have hk' : k < l.length := by omega
      have nb := hb1.old (frn_lt (hR k hk'))
      have hv := hR k hk'
      skip
      refine Cd.skip ?_
      refine thenN ?_
      refine Cd.seq ?_
      refine Cd.block ?_
      refine Cd.rs [2, 6, 10, 11, 12] fun K hK => ?_
      simp (maxSteps := 2000000) (disch := first | omega | (simp only [gc_length, ints_length, bools_length, upto_length, List.length_set, z8_len, List.length_replicate, List.length_cons, List.length_nil, tab_len, hl, hm, nb, hv, *] <;> omega) | fail) only [evP, ↓Za, ↓Zb, ↓Zc, ↓Zd, Ze, ↓Zf, ↓Zg, ↓Zh, evPlan, env0, envN, evOps, evOp, evQs, evQ, evV, setD, pureOp, ev, upd, updL, gate, binW, eqOp, binV, intOp, shOp, boolOp, unV, convV, nilV, fieldAddrV, indexAddrV, extractV, cellAt, cellsAt, findB, setB, fillL, buildV, Value.cells, Zj, Zk, Nat.reduceAdd, Nat.reduceLT, Nat.reduceEqDiff, Nat.reduceMul, Nat.reduceLeDiff, Zl, Zm, if_true, Zn, ↓reduceIte, reduceCtorEq, or_self, Zo, Zp, Zq, Zr, Zs, Zt, Zu, Zv, Zw, Zx, Zy, Zz, ZA, ZB, ZC, ZD, ZE, ZF, ZG, ZH, ZI, ZJ, ZK, ZL, ZM, ZN, ZO, ZP, ZQ, lenV, minV, maxV, hav, stC_one, ZR, ZS, ZT, ZU, ZV, ZW, ZX, ZY, ZZ, Z0, ones_gc, Z1, Z2, Z3, Z4, Z5, Z6, Z7, Z8, Z9, Ya, Yb, Yc, Yd, z8_len, Ye, Yf, wrap_u8, gc_s, gc_x, gc_o, Yg, Yh, Yi, Yj, Yk, Yl, Ym, Yn, Yo, eq_self, Int.reduceLE, Int.reduceLT, Yp, Yq, Yr, Ys, endQ_1, endQ_2, endQ_3, Yt, Yu, Yv, Yw, Yx, sliceV, loV, hiV, Yy, ZL, Int.reduceToNat, Yz, YA, YB, YC, YD, YE, YF, ne_eq, YG, Nat.reduceSub, YH, shOp, YI, bslQ, mksQ, appQ, partsOk, partsCells, delB, YJ, YK, tab_len, YL, YM, YN, YO, eqL_gc, eqL, SameI, YP, YQ, Tld2, Tslc25, hl, hm, nb, hv]
      repeat refine And.intro (by omega) ?_
      repeat refine And.intro (by omega) ?_
      intro g
      simp only [List.map_cons, List.map_nil, updL, upd, Nat.reduceEqDiff, if_true, if_false, ↓reduceIte]
      refine hK _ _ ?_; clear hK K
      refine Cd.rs [2, 10, 11, 12, 21] fun K hK => ?_
      simp (maxSteps := 2000000) (disch := first | omega | (simp only [gc_length, ints_length, bools_length, upto_length, List.length_set, z8_len, List.length_replicate, List.length_cons, List.length_nil, tab_len, hl, hm, nb, hv, *] <;> omega) | fail) only [evP, ↓Za, ↓Zb, ↓Zc, ↓Zd, Ze, ↓Zf, ↓Zg, ↓Zh, evPlan, env0, envN, evOps, evOp, evQs, evQ, evV, setD, pureOp, ev, upd, updL, gate, binW, eqOp, binV, intOp, shOp, boolOp, unV, convV, nilV, fieldAddrV, indexAddrV, extractV, cellAt, cellsAt, findB, setB, fillL, buildV, Value.cells, Zj, Zk, Nat.reduceAdd, Nat.reduceLT, Nat.reduceEqDiff, Nat.reduceMul, Nat.reduceLeDiff, Zl, Zm, if_true, Zn, ↓reduceIte, reduceCtorEq, or_self, Zo, Zp, Zq, Zr, Zs, Zt, Zu, Zv, Zw, Zx, Zy, Zz, ZA, ZB, ZC, ZD, ZE, ZF, ZG, ZH, ZI, ZJ, ZK, ZL, ZM, ZN, ZO, ZP, ZQ, lenV, minV, maxV, hav, stC_one, ZR, ZS, ZT, ZU, ZV, ZW, ZX, ZY, ZZ, Z0, ones_gc, Z1, Z2, Z3, Z4, Z5, Z6, Z7, Z8, Z9, Ya, Yb, Yc, Yd, z8_len, Ye, Yf, wrap_u8, gc_s, gc_x, gc_o, Yg, Yh, Yi, Yj, Yk, Yl, Ym, Yn, Yo, eq_self, Int.reduceLE, Int.reduceLT, Yp, Yq, Yr, Ys, endQ_1, endQ_2, endQ_3, Yt, Yu, Yv, Yw, Yx, sliceV, loV, hiV, Yy, ZL, Int.reduceToNat, Yz, YA, YB, YC, YD, YE, YF, ne_eq, YG, Nat.reduceSub, YH, shOp, YI, bslQ, mksQ, appQ, partsOk, partsCells, delB, YJ, YK, tab_len, YL, YM, YN, YO, eqL_gc, eqL, SameI, YP, YQ, Tfld30_0, Tld2, hl, hm, nb, hv]
      refine callK_gives (within_c _ _ _) ?_
      simp (maxSteps := 2000000) (disch := first | omega | (simp only [gc_length, ints_length, bools_length, upto_length, List.length_set, z8_len, List.length_replicate, List.length_cons, List.length_nil, tab_len, hl, hm, nb, hv, *] <;> omega) | fail) only [evP, ↓Za, ↓Zb, ↓Zc, ↓Zd, Ze, ↓Zf, ↓Zg, ↓Zh, evPlan, env0, envN, evOps, evOp, evQs, evQ, evV, setD, pureOp, ev, upd, updL, gate, binW, eqOp, binV, intOp, shOp, boolOp, unV, convV, nilV, fieldAddrV, indexAddrV, extractV, cellAt, cellsAt, findB, setB, fillL, buildV, Value.cells, Zj, Zk, Nat.reduceAdd, Nat.reduceLT, Nat.reduceEqDiff, Nat.reduceMul, Nat.reduceLeDiff, Zl, Zm, if_true, Zn, ↓reduceIte, reduceCtorEq, or_self, Zo, Zp, Zq, Zr, Zs, Zt, Zu, Zv, Zw, Zx, Zy, Zz, ZA, ZB, ZC, ZD, ZE, ZF, ZG, ZH, ZI, ZJ, ZK, ZL, ZM, ZN, ZO, ZP, ZQ, lenV, minV, maxV, hav, stC_one, ZR, ZS, ZT, ZU, ZV, ZW, ZX, ZY, ZZ, Z0, ones_gc, Z1, Z2, Z3, Z4, Z5, Z6, Z7, Z8, Z9, Ya, Yb, Yc, Yd, z8_len, Ye, Yf, wrap_u8, gc_s, gc_x, gc_o, Yg, Yh, Yi, Yj, Yk, Yl, Ym, Yn, Yo, eq_self, Int.reduceLE, Int.reduceLT, Yp, Yq, Yr, Ys, endQ_1, endQ_2, endQ_3, Yt, Yu, Yv, Yw, Yx, sliceV, loV, hiV, Yy, ZL, Int.reduceToNat, Yz, YA, YB, YC, YD, YE, YF, ne_eq, YG, Nat.reduceSub, YH, shOp, YI, bslQ, mksQ, appQ, partsOk, partsCells, delB, YJ, YK, tab_len, YL, YM, YN, YO, eqL_gc, eqL, SameI, YP, YQ, Tfld30_0, Tld2, hl, hm, nb, hv]
      repeat refine And.intro (by omega) ?_
      intro g
      simp only [List.map_cons, List.map_nil, updL, upd, Nat.reduceEqDiff, if_true, if_false, ↓reduceIte]
      refine hK _ _ ?_; clear hK K
      refine Cd.cond rfl (fun h3 => ?_) (fun h3 => ?_)
      · refine Cd.rs [4] fun K hK => ?_
        simp (maxSteps := 2000000) (disch := first | omega | (simp only [gc_length, ints_length, bools_length, upto_length, List.length_set, z8_len, List.length_replicate, List.length_cons, List.length_nil, tab_len, hl, hm, nb, hv, *] <;> omega) | fail) only [evP, ↓Za, ↓Zb, ↓Zc, ↓Zd, Ze, ↓Zf, ↓Zg, ↓Zh, evPlan, env0, envN, evOps, evOp, evQs, evQ, evV, setD, pureOp, ev, upd, updL, gate, binW, eqOp, binV, intOp, shOp, boolOp, unV, convV, nilV, fieldAddrV, indexAddrV, extractV, cellAt, cellsAt, findB, setB, fillL, buildV, Value.cells, Zj, Zk, Nat.reduceAdd, Nat.reduceLT, Nat.reduceEqDiff, Nat.reduceMul, Nat.reduceLeDiff, Zl, Zm, if_true, Zn, ↓reduceIte, reduceCtorEq, or_self, Zo, Zp, Zq, Zr, Zs, Zt, Zu, Zv, Zw, Zx, Zy, Zz, ZA, ZB, ZC, ZD, ZE, ZF, ZG, ZH, ZI, ZJ, ZK, ZL, ZM, ZN, ZO, ZP, ZQ, lenV, minV, maxV, hav, stC_one, ZR, ZS, ZT, ZU, ZV, ZW, ZX, ZY, ZZ, Z0, ones_gc, Z1, Z2, Z3, Z4, Z5, Z6, Z7, Z8, Z9, Ya, Yb, Yc, Yd, z8_len, Ye, Yf, wrap_u8, gc_s, gc_x, gc_o, Yg, Yh, Yi, Yj, Yk, Yl, Ym, Yn, Yo, eq_self, Int.reduceLE, Int.reduceLT, Yp, Yq, Yr, Ys, endQ_1, endQ_2, endQ_3, Yt, Yu, Yv, Yw, Yx, sliceV, loV, hiV, Yy, ZL, Int.reduceToNat, Yz, YA, YB, YC, YD, YE, YF, ne_eq, YG, Nat.reduceSub, YH, shOp, YI, bslQ, mksQ, appQ, partsOk, partsCells, delB, YJ, YK, tab_len, YL, YM, YN, YO, eqL_gc, eqL, SameI, YP, YQ, hl, hm, nb, hv]
        repeat refine And.intro (by omega) ?_
        intro g
        simp only [List.map_cons, List.map_nil, updL, upd, Nat.reduceEqDiff, if_true, if_false, ↓reduceIte]
        refine hK _ _ ?_; clear hK K
        refine Cd.ret (inBR (thenR (roundR (inBR (thenR ?_)))))
        simp (maxSteps := 2000000) (disch := first | omega | (simp only [gc_length, ints_length, bools_length, upto_length, List.length_set, z8_len, List.length_replicate, List.length_cons, List.length_nil, tab_len, hl, hm, nb, hv, *] <;> omega) | fail) only [evP, ↓Za, ↓Zb, ↓Zc, ↓Zd, Ze, ↓Zf, ↓Zg, ↓Zh, evPlan, env0, envN, evOps, evOp, evQs, evQ, evV, setD, pureOp, ev, upd, updL, gate, binW, eqOp, binV, intOp, shOp, boolOp, unV, convV, nilV, fieldAddrV, indexAddrV, extractV, cellAt, cellsAt, findB, setB, fillL, buildV, Value.cells, Zj, Zk, Nat.reduceAdd, Nat.reduceLT, Nat.reduceEqDiff, Nat.reduceMul, Nat.reduceLeDiff, Zl, Zm, if_true, Zn, ↓reduceIte, reduceCtorEq, or_self, Zo, Zp, Zq, Zr, Zs, Zt, Zu, Zv, Zw, Zx, Zy, Zz, ZA, ZB, ZC, ZD, ZE, ZF, ZG, ZH, ZI, ZJ, ZK, ZL, ZM, ZN, ZO, ZP, ZQ, lenV, minV, maxV, hav, stC_one, ZR, ZS, ZT, ZU, ZV, ZW, ZX, ZY, ZZ, Z0, ones_gc, Z1, Z2, Z3, Z4, Z5, Z6, Z7, Z8, Z9, Ya, Yb, Yc, Yd, z8_len, Ye, Yf, wrap_u8, gc_s, gc_x, gc_o, Yg, Yh, Yi, Yj, Yk, Yl, Ym, Yn, Yo, eq_self, Int.reduceLE, Int.reduceLT, Yp, Yq, Yr, Ys, endQ_1, endQ_2, endQ_3, Yt, Yu, Yv, Yw, Yx, sliceV, loV, hiV, Yy, ZL, Int.reduceToNat, Yz, YA, YB, YC, YD, YE, YF, ne_eq, YG, Nat.reduceSub, YH, shOp, YI, bslQ, mksQ, appQ, partsOk, partsCells, delB, YJ, YK, tab_len, YL, YM, YN, YO, eqL_gc, eqL, SameI, YP, YQ, hl, hm, nb, hv]
        unfold pairC
        rw [if_pos hg, if_neg (pair_not hk' fun h => by rw [decide_eq_true h.1, decide_eq_true h.2] at h3; exact absurd h3 (by decide))]
      · refine Cd.skip ?_
        refine inBN ?_
        refine thenN ?_
        refine Cd.rr [2, 10, 11, 12] fun K hK => ?_
        simp (maxSteps := 2000000) (disch := first | omega | (simp only [gc_length, ints_length, bools_length, upto_length, List.length_set, z8_len, List.length_replicate, List.length_cons, List.length_nil, tab_len, hl, hm, nb, hv, *] <;> omega) | fail) only [evP, ↓Za, ↓Zb, ↓Zc, ↓Zd, Ze, ↓Zf, ↓Zg, ↓Zh, evPlan, env0, envN, evOps, evOp, evQs, evQ, evV, setD, pureOp, ev, upd, updL, gate, binW, eqOp, binV, intOp, shOp, boolOp, unV, convV, nilV, fieldAddrV, indexAddrV, extractV, cellAt, cellsAt, findB, setB, fillL, buildV, Value.cells, Zj, Zk, Nat.reduceAdd, Nat.reduceLT, Nat.reduceEqDiff, Nat.reduceMul, Nat.reduceLeDiff, Zl, Zm, if_true, Zn, ↓reduceIte, reduceCtorEq, or_self, Zo, Zp, Zq, Zr, Zs, Zt, Zu, Zv, Zw, Zx, Zy, Zz, ZA, ZB, ZC, ZD, ZE, ZF, ZG, ZH, ZI, ZJ, ZK, ZL, ZM, ZN, ZO, ZP, ZQ, lenV, minV, maxV, hav, stC_one, ZR, ZS, ZT, ZU, ZV, ZW, ZX, ZY, ZZ, Z0, ones_gc, Z1, Z2, Z3, Z4, Z5, Z6, Z7, Z8, Z9, Ya, Yb, Yc, Yd, z8_len, Ye, Yf, wrap_u8, gc_s, gc_x, gc_o, Yg, Yh, Yi, Yj, Yk, Yl, Ym, Yn, Yo, eq_self, Int.reduceLE, Int.reduceLT, Yp, Yq, Yr, Ys, endQ_1, endQ_2, endQ_3, Yt, Yu, Yv, Yw, Yx, sliceV, loV, hiV, Yy, ZL, Int.reduceToNat, Yz, YA, YB, YC, YD, YE, YF, ne_eq, YG, Nat.reduceSub, YH, shOp, YI, bslQ, mksQ, appQ, partsOk, partsCells, delB, YJ, YK, tab_len, YL, YM, YN, YO, eqL_gc, eqL, SameI, YP, YQ, hl, hm, nb, hv]
        repeat refine And.intro (by omega) ?_
        intro g
        simp only [List.map_cons, List.map_nil, updL, upd, Nat.reduceEqDiff, if_true, if_false, ↓reduceIte]
        refine hK _ _ ?_; clear hK K
        exact roundN (m := m - 1) (by omega) ⟨_, k + 1, by omega, pair_succ hp (by simpa using h3), rfl, rfl⟩
    · refine Cd.exit (thenX (roundX (inBX ?_)))
      refine thenN ?_
      obtain rfl : k = l.length := by omega
      refine Cd.rs [4] fun K hK => ?_
      simp (maxSteps := 2000000) (disch := first | omega | (simp only [gc_length, ints_length, bools_length, upto_length, List.length_set, z8_len, List.length_replicate, List.length_cons, List.length_nil, tab_len, hl, hm, *] <;> omega) | fail) only [evP, ↓Za, ↓Zb, ↓Zc, ↓Zd, Ze, ↓Zf, ↓Zg, ↓Zh, evPlan, env0, envN, evOps, evOp, evQs, evQ, evV, setD, pureOp, ev, upd, updL, gate, binW, eqOp, binV, intOp, shOp, boolOp, unV, convV, nilV, fieldAddrV, indexAddrV, extractV, cellAt, cellsAt, findB, setB, fillL, buildV, Value.cells, Zj, Zk, Nat.reduceAdd, Nat.reduceLT, Nat.reduceEqDiff, Nat.reduceMul, Nat.reduceLeDiff, Zl, Zm, if_true, Zn, ↓reduceIte, reduceCtorEq, or_self, Zo, Zp, Zq, Zr, Zs, Zt, Zu, Zv, Zw, Zx, Zy, Zz, ZA, ZB, ZC, ZD, ZE, ZF, ZG, ZH, ZI, ZJ, ZK, ZL, ZM, ZN, ZO, ZP, ZQ, lenV, minV, maxV, hav, stC_one, ZR, ZS, ZT, ZU, ZV, ZW, ZX, ZY, ZZ, Z0, ones_gc, Z1, Z2, Z3, Z4, Z5, Z6, Z7, Z8, Z9, Ya, Yb, Yc, Yd, z8_len, Ye, Yf, wrap_u8, gc_s, gc_x, gc_o, Yg, Yh, Yi, Yj, Yk, Yl, Ym, Yn, Yo, eq_self, Int.reduceLE, Int.reduceLT, Yp, Yq, Yr, Ys, endQ_1, endQ_2, endQ_3, Yt, Yu, Yv, Yw, Yx, sliceV, loV, hiV, Yy, ZL, Int.reduceToNat, Yz, YA, YB, YC, YD, YE, YF, ne_eq, YG, Nat.reduceSub, YH, shOp, YI, bslQ, mksQ, appQ, partsOk, partsCells, delB, YJ, YK, tab_len, YL, YM, YN, YO, eqL_gc, eqL, SameI, YP, YQ, hl, hm]
      repeat refine And.intro (by omega) ?_
      intro g
      simp only [List.map_cons, List.map_nil, updL, upd, Nat.reduceEqDiff, if_true, if_false, ↓reduceIte]
      refine hK _ _ ?_; clear hK K
      refine Cd.ret ?_
      simp (maxSteps := 2000000) (disch := first | omega | (simp only [gc_length, ints_length, bools_length, upto_length, List.length_set, z8_len, List.length_replicate, List.length_cons, List.length_nil, tab_len, hl, hm, *] <;> omega) | fail) only [evP, ↓Za, ↓Zb, ↓Zc, ↓Zd, Ze, ↓Zf, ↓Zg, ↓Zh, evPlan, env0, envN, evOps, evOp, evQs, evQ, evV, setD, pureOp, ev, upd, updL, gate, binW, eqOp, binV, intOp, shOp, boolOp, unV, convV, nilV, fieldAddrV, indexAddrV, extractV, cellAt, cellsAt, findB, setB, fillL, buildV, Value.cells, Zj, Zk, Nat.reduceAdd, Nat.reduceLT, Nat.reduceEqDiff, Nat.reduceMul, Nat.reduceLeDiff, Zl, Zm, if_true, Zn, ↓reduceIte, reduceCtorEq, or_self, Zo, Zp, Zq, Zr, Zs, Zt, Zu, Zv, Zw, Zx, Zy, Zz, ZA, ZB, ZC, ZD, ZE, ZF, ZG, ZH, ZI, ZJ, ZK, ZL, ZM, ZN, ZO, ZP, ZQ, lenV, minV, maxV, hav, stC_one, ZR, ZS, ZT, ZU, ZV, ZW, ZX, ZY, ZZ, Z0, ones_gc, Z1, Z2, Z3, Z4, Z5, Z6, Z7, Z8, Z9, Ya, Yb, Yc, Yd, z8_len, Ye, Yf, wrap_u8, gc_s, gc_x, gc_o, Yg, Yh, Yi, Yj, Yk, Yl, Ym, Yn, Yo, eq_self, Int.reduceLE, Int.reduceLT, Yp, Yq, Yr, Ys, endQ_1, endQ_2, endQ_3, Yt, Yu, Yv, Yw, Yx, sliceV, loV, hiV, Yy, ZL, Int.reduceToNat, Yz, YA, YB, YC, YD, YE, YF, ne_eq, YG, Nat.reduceSub, YH, shOp, YI, bslQ, mksQ, appQ, partsOk, partsCells, delB, YJ, YK, tab_len, YL, YM, YN, YO, eqL_gc, eqL, SameI, YP, YQ, hl, hm]
      unfold pairC
      rw [if_pos hg, if_pos (pair_all hp)]

end Go.Proofs
