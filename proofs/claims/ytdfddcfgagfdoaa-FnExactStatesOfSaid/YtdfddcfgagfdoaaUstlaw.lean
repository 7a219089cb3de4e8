/-
  What the functions of this part hand back: each as a plain function of its arguments. Conditions: none.
-/
import Derived.Test.YtdfddcfgagfdoaaFx
import Derived.Test.YtdfddcfgagfdoaaUstof
namespace Go.Proofs
open Go.W8
set_option linter.unusedVariables false
set_option linter.unusedSimpArgs false
set_option linter.unusedSectionVars false
set_option maxRecDepth 8000
set_option maxHeartbeats 4000000
theorem eqState_c (x : List Int) (hx : B8 x) : Gives Try.prog 85 #[.agg (ints .u8 x).toArray, .agg (ints .u8 x).toArray] (.bool true) := by
  have xl := hx.1
  skip
  refine Gives.of fun w => ?_
  refine acall_of (N := 17) (c := _) (rs := [.tmp 4]) (args := [_, _]) Try.func85 rfl (by decide) rfl rfl (Nat.le_of_ble_eq_true rfl) ?_
  refine Cd.rs [2, 3] fun K hK => ?_
  simp (maxSteps := 2000000) (disch := first | (simp only [Z9, Ya, Yb, Yc, Yd, z8_len, Ye, ZN, ZO, tab_len, xl] <;> omega) | omega | fail) only [↓YS, ↓YT, YU, YV, YW, YX, bare, bareJ, evP, ↓Za, ↓Zb, ↓Zc, ↓Zd, Ze, ↓Zf, ↓Zg, ↓Zh, ↓evOp_callO, evPlan, env0, envN, evOps, evOp, evQs, evQ, evV, setD, pureOp, ev, upd, updL, gate, binW, eqOp, binV, intOp, shOp, boolOp, unV, convV, nilV, fieldAddrV, indexAddrV, extractV, cellAt, cellsAt, findB, setB, fillL, buildV, Value.cells, Zj, Zk, Nat.reduceAdd, Nat.reduceLT, Nat.reduceEqDiff, Nat.reduceMul, Nat.reduceLeDiff, Zl, Zm, if_true, Zn, ↓reduceIte, reduceCtorEq, or_self, Zo, Zp, Zq, Zr, Zs, Zt, Zu, Zv, Zw, Zx, Zy, Zz, ZA, ZB, ZC, ZD, ZE, ZF, ZG, ZH, ZI, ZJ, ZK, ZL, ZM, ZN, ZO, ZP, ZQ, lenV, minV, maxV, hav, stC_one, ZR, ZS, ZT, ZU, ZV, ZW, ZX, ZY, ZZ, Z0, ones_gc, Z1, Z2, Z3, Z4, Z5, Z6, Z7, Z8, Z9, Ya, Yb, Yc, Yd, z8_len, Ye, Yf, wrap_u8, gc_s, gc_x, gc_o, Yg, Yh, Yi, Yj, Yk, Yl, Ym, Yn, Yo, eq_self, Int.reduceLE, Int.reduceLT, Yp, Yq, Yr, Ys, endQ_1, endQ_2, endQ_3, Yt, Yu, Yv, Yw, Yx, sliceV, loV, hiV, Yy, ZL, Int.reduceToNat, Yz, YA, YB, YC, YD, YE, YF, ne_eq, YG, Nat.reduceSub, YH, shOp, YI, bslQ, mksQ, appQ, ↓appIf_pos, ↓appIf_zero, partsOk, partsCells, delB, YJ, YK, tab_len, YL, YM, YN, YO, eqL_gc, eqL, SameI, strOp, YP, YQ, toList_madeCells_one, apzQ, cvtQ, capV, u8s_ints, bytes_strB, zeroCells_one, xl]
  repeat refine And.intro (by omega) ?_
  intro b1 hb1
  intro b2 hb2
  have nb2_b1 := hb2.ne
  try simp (maxSteps := 2000000) (disch := first | (simp only [Z9, Ya, Yb, Yc, Yd, z8_len, Ye, ZN, ZO, tab_len, xl, nb2_b1] <;> omega) | omega | fail) only [↓YS, ↓YT, YU, YV, YW, YX, bare, bareJ, evP, ↓Za, ↓Zb, ↓Zc, ↓Zd, Ze, ↓Zf, ↓Zg, ↓Zh, ↓evOp_callO, evPlan, env0, envN, evOps, evOp, evQs, evQ, evV, setD, pureOp, ev, upd, updL, gate, binW, eqOp, binV, intOp, shOp, boolOp, unV, convV, nilV, fieldAddrV, indexAddrV, extractV, cellAt, cellsAt, findB, setB, fillL, buildV, Value.cells, Zj, Zk, Nat.reduceAdd, Nat.reduceLT, Nat.reduceEqDiff, Nat.reduceMul, Nat.reduceLeDiff, Zl, Zm, if_true, Zn, ↓reduceIte, reduceCtorEq, or_self, Zo, Zp, Zq, Zr, Zs, Zt, Zu, Zv, Zw, Zx, Zy, Zz, ZA, ZB, ZC, ZD, ZE, ZF, ZG, ZH, ZI, ZJ, ZK, ZL, ZM, ZN, ZO, ZP, ZQ, lenV, minV, maxV, hav, stC_one, ZR, ZS, ZT, ZU, ZV, ZW, ZX, ZY, ZZ, Z0, ones_gc, Z1, Z2, Z3, Z4, Z5, Z6, Z7, Z8, Z9, Ya, Yb, Yc, Yd, z8_len, Ye, Yf, wrap_u8, gc_s, gc_x, gc_o, Yg, Yh, Yi, Yj, Yk, Yl, Ym, Yn, Yo, eq_self, Int.reduceLE, Int.reduceLT, Yp, Yq, Yr, Ys, endQ_1, endQ_2, endQ_3, Yt, Yu, Yv, Yw, Yx, sliceV, loV, hiV, Yy, ZL, Int.reduceToNat, Yz, YA, YB, YC, YD, YE, YF, ne_eq, YG, Nat.reduceSub, YH, shOp, YI, bslQ, mksQ, appQ, ↓appIf_pos, ↓appIf_zero, partsOk, partsCells, delB, YJ, YK, tab_len, YL, YM, YN, YO, eqL_gc, eqL, SameI, strOp, YP, YQ, toList_madeCells_one, apzQ, cvtQ, capV, u8s_ints, bytes_strB, zeroCells_one, xl, nb2_b1]
  repeat refine And.intro (by omega) ?_
  repeat refine And.intro (by omega) ?_
  intro g
  simp only [List.map_cons, List.map_nil, updL, upd, Nat.reduceEqDiff, if_true, if_false, ↓reduceIte]
  refine hK _ _ ?_; clear hK K
  refine Cd.seq ?_
  refine Cd.rs [2, 3, 5] fun K hK => ?_
  simp (maxSteps := 2000000) (disch := first | (simp only [Z9, Ya, Yb, Yc, Yd, z8_len, Ye, ZN, ZO, tab_len, xl, nb2_b1] <;> omega) | omega | fail) only [↓YS, ↓YT, YU, YV, YW, YX, bare, bareJ, evP, ↓Za, ↓Zb, ↓Zc, ↓Zd, Ze, ↓Zf, ↓Zg, ↓Zh, ↓evOp_callO, evPlan, env0, envN, evOps, evOp, evQs, evQ, evV, setD, pureOp, ev, upd, updL, gate, binW, eqOp, binV, intOp, shOp, boolOp, unV, convV, nilV, fieldAddrV, indexAddrV, extractV, cellAt, cellsAt, findB, setB, fillL, buildV, Value.cells, Zj, Zk, Nat.reduceAdd, Nat.reduceLT, Nat.reduceEqDiff, Nat.reduceMul, Nat.reduceLeDiff, Zl, Zm, if_true, Zn, ↓reduceIte, reduceCtorEq, or_self, Zo, Zp, Zq, Zr, Zs, Zt, Zu, Zv, Zw, Zx, Zy, Zz, ZA, ZB, ZC, ZD, ZE, ZF, ZG, ZH, ZI, ZJ, ZK, ZL, ZM, ZN, ZO, ZP, ZQ, lenV, minV, maxV, hav, stC_one, ZR, ZS, ZT, ZU, ZV, ZW, ZX, ZY, ZZ, Z0, ones_gc, Z1, Z2, Z3, Z4, Z5, Z6, Z7, Z8, Z9, Ya, Yb, Yc, Yd, z8_len, Ye, Yf, wrap_u8, gc_s, gc_x, gc_o, Yg, Yh, Yi, Yj, Yk, Yl, Ym, Yn, Yo, eq_self, Int.reduceLE, Int.reduceLT, Yp, Yq, Yr, Ys, endQ_1, endQ_2, endQ_3, Yt, Yu, Yv, Yw, Yx, sliceV, loV, hiV, Yy, ZL, Int.reduceToNat, Yz, YA, YB, YC, YD, YE, YF, ne_eq, YG, Nat.reduceSub, YH, shOp, YI, bslQ, mksQ, appQ, ↓appIf_pos, ↓appIf_zero, partsOk, partsCells, delB, YJ, YK, tab_len, YL, YM, YN, YO, eqL_gc, eqL, SameI, strOp, YP, YQ, toList_madeCells_one, apzQ, cvtQ, capV, u8s_ints, bytes_strB, zeroCells_one, xl, nb2_b1]
  repeat refine And.intro (by omega) ?_
  repeat refine And.intro (by omega) ?_
  intro g
  simp only [List.map_cons, List.map_nil, updL, upd, Nat.reduceEqDiff, if_true, if_false, ↓reduceIte]
  refine hK _ _ ?_; clear hK K
  refine Cd.block ?_
  refine Cd.loop (fun n ρ M => ∃ g k, k + n = 8 ∧ ρ = updL [(2, .pointer (some ⟨b1, 0, none⟩)), (3, .pointer (some ⟨b2, 0, none⟩)), (5, .int .i64 (k : Int))] g ∧ M = [(b2, ints .u8 x), (b1, ints .u8 x)]) 8 ⟨_, 0, Nat.zero_add _, rfl, rfl⟩ ?_
  rintro n ρ M ⟨g, k, hk, rfl, rfl⟩
  refine Cd.seq ?_
  refine Cd.rs [2, 3, 5, 7] fun K hK => ?_
  simp (maxSteps := 2000000) (disch := first | (simp only [Z9, Ya, Yb, Yc, Yd, z8_len, Ye, ZN, ZO, tab_len, xl, nb2_b1] <;> omega) | omega | fail) only [↓YS, ↓YT, YU, YV, YW, YX, bare, bareJ, evP, ↓Za, ↓Zb, ↓Zc, ↓Zd, Ze, ↓Zf, ↓Zg, ↓Zh, ↓evOp_callO, evPlan, env0, envN, evOps, evOp, evQs, evQ, evV, setD, pureOp, ev, upd, updL, gate, binW, eqOp, binV, intOp, shOp, boolOp, unV, convV, nilV, fieldAddrV, indexAddrV, extractV, cellAt, cellsAt, findB, setB, fillL, buildV, Value.cells, Zj, Zk, Nat.reduceAdd, Nat.reduceLT, Nat.reduceEqDiff, Nat.reduceMul, Nat.reduceLeDiff, Zl, Zm, if_true, Zn, ↓reduceIte, reduceCtorEq, or_self, Zo, Zp, Zq, Zr, Zs, Zt, Zu, Zv, Zw, Zx, Zy, Zz, ZA, ZB, ZC, ZD, ZE, ZF, ZG, ZH, ZI, ZJ, ZK, ZL, ZM, ZN, ZO, ZP, ZQ, lenV, minV, maxV, hav, stC_one, ZR, ZS, ZT, ZU, ZV, ZW, ZX, ZY, ZZ, Z0, ones_gc, Z1, Z2, Z3, Z4, Z5, Z6, Z7, Z8, Z9, Ya, Yb, Yc, Yd, z8_len, Ye, Yf, wrap_u8, gc_s, gc_x, gc_o, Yg, Yh, Yi, Yj, Yk, Yl, Ym, Yn, Yo, eq_self, Int.reduceLE, Int.reduceLT, Yp, Yq, Yr, Ys, endQ_1, endQ_2, endQ_3, Yt, Yu, Yv, Yw, Yx, sliceV, loV, hiV, Yy, ZL, Int.reduceToNat, Yz, YA, YB, YC, YD, YE, YF, ne_eq, YG, Nat.reduceSub, YH, shOp, YI, bslQ, mksQ, appQ, ↓appIf_pos, ↓appIf_zero, partsOk, partsCells, delB, YJ, YK, tab_len, YL, YM, YN, YO, eqL_gc, eqL, SameI, strOp, YP, YQ, toList_madeCells_one, apzQ, cvtQ, capV, u8s_ints, bytes_strB, zeroCells_one, xl, nb2_b1]
  repeat refine And.intro (by omega) ?_
  repeat refine And.intro (by omega) ?_
  intro g
  simp only [List.map_cons, List.map_nil, updL, upd, Nat.reduceEqDiff, if_true, if_false, ↓reduceIte]
  refine hK _ _ ?_; clear hK K
  refine Cd.condd rfl (fun h1 => ?_) (fun h1 => ?_)
  · refine Cd.skip ?_
    refine thenN ?_
    refine Cd.seq ?_
    refine Cd.block ?_
    refine Cd.qs [2, 3, 5, 16] fol (by kernel_rfl) fun K hK => ?_
    simp (maxSteps := 2000000) (disch := first | (simp only [Z9, Ya, Yb, Yc, Yd, z8_len, Ye, ZN, ZO, tab_len, xl, nb2_b1] <;> omega) | omega | fail) only [↓YS, ↓YT, YU, YV, YW, YX, bare, bareJ, evP, ↓Za, ↓Zb, ↓Zc, ↓Zd, Ze, ↓Zf, ↓Zg, ↓Zh, ↓evOp_callO, evPlan, env0, envN, evOps, evOp, evQs, evQ, evV, setD, pureOp, ev, upd, updL, gate, binW, eqOp, binV, intOp, shOp, boolOp, unV, convV, nilV, fieldAddrV, indexAddrV, extractV, cellAt, cellsAt, findB, setB, fillL, buildV, Value.cells, Zj, Zk, Nat.reduceAdd, Nat.reduceLT, Nat.reduceEqDiff, Nat.reduceMul, Nat.reduceLeDiff, Zl, Zm, if_true, Zn, ↓reduceIte, reduceCtorEq, or_self, Zo, Zp, Zq, Zr, Zs, Zt, Zu, Zv, Zw, Zx, Zy, Zz, ZA, ZB, ZC, ZD, ZE, ZF, ZG, ZH, ZI, ZJ, ZK, ZL, ZM, ZN, ZO, ZP, ZQ, lenV, minV, maxV, hav, stC_one, ZR, ZS, ZT, ZU, ZV, ZW, ZX, ZY, ZZ, Z0, ones_gc, Z1, Z2, Z3, Z4, Z5, Z6, Z7, Z8, Z9, Ya, Yb, Yc, Yd, z8_len, Ye, Yf, wrap_u8, gc_s, gc_x, gc_o, Yg, Yh, Yi, Yj, Yk, Yl, Ym, Yn, Yo, eq_self, Int.reduceLE, Int.reduceLT, Yp, Yq, Yr, Ys, endQ_1, endQ_2, endQ_3, Yt, Yu, Yv, Yw, Yx, sliceV, loV, hiV, Yy, ZL, Int.reduceToNat, Yz, YA, YB, YC, YD, YE, YF, ne_eq, YG, Nat.reduceSub, YH, shOp, YI, bslQ, mksQ, appQ, ↓appIf_pos, ↓appIf_zero, partsOk, partsCells, delB, YJ, YK, tab_len, YL, YM, YN, YO, eqL_gc, eqL, SameI, strOp, YP, YQ, toList_madeCells_one, apzQ, cvtQ, capV, u8s_ints, bytes_strB, zeroCells_one, Tarr80, Tld5, xl, nb2_b1]
    repeat refine And.intro (by omega) ?_
    repeat refine And.intro (by omega) ?_
    intro g
    simp only [List.map_cons, List.map_nil, updL, upd, Nat.reduceEqDiff, if_true, if_false, ↓reduceIte]
    refine hK _ ?_; clear hK K
    refine Cd.no rfl ?_
    refine Cd.skip ?_
    refine inBN ?_
    refine thenN ?_
    refine Cd.rr [2, 3, 5] fun K hK => ?_
    simp (maxSteps := 2000000) (disch := first | (simp only [Z9, Ya, Yb, Yc, Yd, z8_len, Ye, ZN, ZO, tab_len, xl, nb2_b1] <;> omega) | omega | fail) only [↓YS, ↓YT, YU, YV, YW, YX, bare, bareJ, evP, ↓Za, ↓Zb, ↓Zc, ↓Zd, Ze, ↓Zf, ↓Zg, ↓Zh, ↓evOp_callO, evPlan, env0, envN, evOps, evOp, evQs, evQ, evV, setD, pureOp, ev, upd, updL, gate, binW, eqOp, binV, intOp, shOp, boolOp, unV, convV, nilV, fieldAddrV, indexAddrV, extractV, cellAt, cellsAt, findB, setB, fillL, buildV, Value.cells, Zj, Zk, Nat.reduceAdd, Nat.reduceLT, Nat.reduceEqDiff, Nat.reduceMul, Nat.reduceLeDiff, Zl, Zm, if_true, Zn, ↓reduceIte, reduceCtorEq, or_self, Zo, Zp, Zq, Zr, Zs, Zt, Zu, Zv, Zw, Zx, Zy, Zz, ZA, ZB, ZC, ZD, ZE, ZF, ZG, ZH, ZI, ZJ, ZK, ZL, ZM, ZN, ZO, ZP, ZQ, lenV, minV, maxV, hav, stC_one, ZR, ZS, ZT, ZU, ZV, ZW, ZX, ZY, ZZ, Z0, ones_gc, Z1, Z2, Z3, Z4, Z5, Z6, Z7, Z8, Z9, Ya, Yb, Yc, Yd, z8_len, Ye, Yf, wrap_u8, gc_s, gc_x, gc_o, Yg, Yh, Yi, Yj, Yk, Yl, Ym, Yn, Yo, eq_self, Int.reduceLE, Int.reduceLT, Yp, Yq, Yr, Ys, endQ_1, endQ_2, endQ_3, Yt, Yu, Yv, Yw, Yx, sliceV, loV, hiV, Yy, ZL, Int.reduceToNat, Yz, YA, YB, YC, YD, YE, YF, ne_eq, YG, Nat.reduceSub, YH, shOp, YI, bslQ, mksQ, appQ, ↓appIf_pos, ↓appIf_zero, partsOk, partsCells, delB, YJ, YK, tab_len, YL, YM, YN, YO, eqL_gc, eqL, SameI, strOp, YP, YQ, toList_madeCells_one, apzQ, cvtQ, capV, u8s_ints, bytes_strB, zeroCells_one, xl, nb2_b1]
    repeat refine And.intro (by omega) ?_
    repeat refine And.intro (by omega) ?_
    intro g
    simp only [List.map_cons, List.map_nil, updL, upd, Nat.reduceEqDiff, if_true, if_false, ↓reduceIte]
    refine hK _ _ ?_; clear hK K
    exact roundN (m := n - 1) (by omega) ⟨_, k + 1, by omega, rfl, rfl⟩
  · refine Cd.exit (thenX (roundX (inBX ?_)))
    refine thenN ?_
    refine Cd.rs [4] fun K hK => ?_
    simp (maxSteps := 2000000) (disch := first | (simp only [Z9, Ya, Yb, Yc, Yd, z8_len, Ye, ZN, ZO, tab_len, xl, nb2_b1] <;> omega) | omega | fail) only [↓YS, ↓YT, YU, YV, YW, YX, bare, bareJ, evP, ↓Za, ↓Zb, ↓Zc, ↓Zd, Ze, ↓Zf, ↓Zg, ↓Zh, ↓evOp_callO, evPlan, env0, envN, evOps, evOp, evQs, evQ, evV, setD, pureOp, ev, upd, updL, gate, binW, eqOp, binV, intOp, shOp, boolOp, unV, convV, nilV, fieldAddrV, indexAddrV, extractV, cellAt, cellsAt, findB, setB, fillL, buildV, Value.cells, Zj, Zk, Nat.reduceAdd, Nat.reduceLT, Nat.reduceEqDiff, Nat.reduceMul, Nat.reduceLeDiff, Zl, Zm, if_true, Zn, ↓reduceIte, reduceCtorEq, or_self, Zo, Zp, Zq, Zr, Zs, Zt, Zu, Zv, Zw, Zx, Zy, Zz, ZA, ZB, ZC, ZD, ZE, ZF, ZG, ZH, ZI, ZJ, ZK, ZL, ZM, ZN, ZO, ZP, ZQ, lenV, minV, maxV, hav, stC_one, ZR, ZS, ZT, ZU, ZV, ZW, ZX, ZY, ZZ, Z0, ones_gc, Z1, Z2, Z3, Z4, Z5, Z6, Z7, Z8, Z9, Ya, Yb, Yc, Yd, z8_len, Ye, Yf, wrap_u8, gc_s, gc_x, gc_o, Yg, Yh, Yi, Yj, Yk, Yl, Ym, Yn, Yo, eq_self, Int.reduceLE, Int.reduceLT, Yp, Yq, Yr, Ys, endQ_1, endQ_2, endQ_3, Yt, Yu, Yv, Yw, Yx, sliceV, loV, hiV, Yy, ZL, Int.reduceToNat, Yz, YA, YB, YC, YD, YE, YF, ne_eq, YG, Nat.reduceSub, YH, shOp, YI, bslQ, mksQ, appQ, ↓appIf_pos, ↓appIf_zero, partsOk, partsCells, delB, YJ, YK, tab_len, YL, YM, YN, YO, eqL_gc, eqL, SameI, strOp, YP, YQ, toList_madeCells_one, apzQ, cvtQ, capV, u8s_ints, bytes_strB, zeroCells_one, xl, nb2_b1]
    repeat refine And.intro (by omega) ?_
    repeat refine And.intro (by omega) ?_
    intro g
    simp only [List.map_cons, List.map_nil, updL, upd, Nat.reduceEqDiff, if_true, if_false, ↓reduceIte]
    refine hK _ _ ?_; clear hK K
    refine Cd.ret ?_
    simp (maxSteps := 2000000) (disch := first | (simp only [Z9, Ya, Yb, Yc, Yd, z8_len, Ye, ZN, ZO, tab_len, xl, nb2_b1] <;> omega) | omega | fail) only [↓YS, ↓YT, YU, YV, YW, YX, bare, bareJ, evP, ↓Za, ↓Zb, ↓Zc, ↓Zd, Ze, ↓Zf, ↓Zg, ↓Zh, ↓evOp_callO, evPlan, env0, envN, evOps, evOp, evQs, evQ, evV, setD, pureOp, ev, upd, updL, gate, binW, eqOp, binV, intOp, shOp, boolOp, unV, convV, nilV, fieldAddrV, indexAddrV, extractV, cellAt, cellsAt, findB, setB, fillL, buildV, Value.cells, Zj, Zk, Nat.reduceAdd, Nat.reduceLT, Nat.reduceEqDiff, Nat.reduceMul, Nat.reduceLeDiff, Zl, Zm, if_true, Zn, ↓reduceIte, reduceCtorEq, or_self, Zo, Zp, Zq, Zr, Zs, Zt, Zu, Zv, Zw, Zx, Zy, Zz, ZA, ZB, ZC, ZD, ZE, ZF, ZG, ZH, ZI, ZJ, ZK, ZL, ZM, ZN, ZO, ZP, ZQ, lenV, minV, maxV, hav, stC_one, ZR, ZS, ZT, ZU, ZV, ZW, ZX, ZY, ZZ, Z0, ones_gc, Z1, Z2, Z3, Z4, Z5, Z6, Z7, Z8, Z9, Ya, Yb, Yc, Yd, z8_len, Ye, Yf, wrap_u8, gc_s, gc_x, gc_o, Yg, Yh, Yi, Yj, Yk, Yl, Ym, Yn, Yo, eq_self, Int.reduceLE, Int.reduceLT, Yp, Yq, Yr, Ys, endQ_1, endQ_2, endQ_3, Yt, Yu, Yv, Yw, Yx, sliceV, loV, hiV, Yy, ZL, Int.reduceToNat, Yz, YA, YB, YC, YD, YE, YF, ne_eq, YG, Nat.reduceSub, YH, shOp, YI, bslQ, mksQ, appQ, ↓appIf_pos, ↓appIf_zero, partsOk, partsCells, delB, YJ, YK, tab_len, YL, YM, YN, YO, eqL_gc, eqL, SameI, strOp, YP, YQ, toList_madeCells_one, apzQ, cvtQ, capV, u8s_ints, bytes_strB, zeroCells_one, xl, nb2_b1]
    repeat refine And.intro (by omega) ?_
theorem cellsS_row {S : List (List Int)} (h : ∀ x ∈ S, x.length = 8) {k : Nat} (hk : k < S.length) : subL (cellsS S) (k * 8) 8 = ints .u8 (S.getD k []) := by
  induction S generalizing k with
  | nil => simp at hk
  | cons x S ih =>
    have hx := h x List.mem_cons_self
    have e : cellsS (x :: S) = ints .u8 x ++ cellsS S := by simp [cellsS]
    have lx : (ints .u8 x).length = 8 := by rw [ints_length, hx]
    rw [e]
    cases k with
    | zero =>
      unfold subL
      rw [Nat.zero_mul, List.drop_zero, ← lx, List.take_left]
      rfl
    | succ k =>
      have := ih (fun y hy => h y (List.mem_cons_of_mem _ hy)) (k := k) (by simp only [List.length_cons] at hk; omega)
      unfold subL at this ⊢
      rw [show (k + 1) * 8 = (ints .u8 x).length + k * 8 by rw [lx]; omega, List.drop_length_add_append]
      rw [this]
      rfl
theorem eqStateS_c (S : List (List Int)) (hS : ∀ x ∈ S, B8 x) (R : Rd) (v v' : Value) (h : RdS R 8 (cellsS S) v) (h' : RdS R 8 (cellsS S) v') (hb : S.length < 100000000) : GivesR Try.prog 17 #[v, v'] R (.bool true) := by
  have hl := cellsS_len fun x hx => (hS x hx).1
  obtain ⟨a, m, cap, rfl, hm, _⟩ := id h
  obtain ⟨a', m', cap', rfl, hm', _⟩ := id h'
  obtain rfl : m = S.length := by omega
  obtain rfl : m' = S.length := by omega
  refine GivesR.of (callable_of Try.func17 rfl (by decide)) fun w hR => ?_
  refine acall_of (N := 27) (c := _) (rs := [.tmp 4]) (args := [_, _]) Try.func17 rfl (by decide) rfl rfl (Nat.le_of_ble_eq_true rfl) ?_
  refine Cd.rs [0, 1] fun K hK => ?_
  simp (maxSteps := 2000000) (disch := first | (simp only [Z9, Ya, Yb, Yc, Yd, z8_len, Ye, ZN, ZO, tab_len] <;> omega) | omega | fail) only [↓YS, ↓YT, YU, YV, YW, YX, bare, bareJ, evP, ↓Za, ↓Zb, ↓Zc, ↓Zd, Ze, ↓Zf, ↓Zg, ↓Zh, ↓evOp_callO, evPlan, env0, envN, evOps, evOp, evQs, evQ, evV, setD, pureOp, ev, upd, updL, gate, binW, eqOp, binV, intOp, shOp, boolOp, unV, convV, nilV, fieldAddrV, indexAddrV, extractV, cellAt, cellsAt, findB, setB, fillL, buildV, Value.cells, Zj, Zk, Nat.reduceAdd, Nat.reduceLT, Nat.reduceEqDiff, Nat.reduceMul, Nat.reduceLeDiff, Zl, Zm, if_true, Zn, ↓reduceIte, reduceCtorEq, or_self, Zo, Zp, Zq, Zr, Zs, Zt, Zu, Zv, Zw, Zx, Zy, Zz, ZA, ZB, ZC, ZD, ZE, ZF, ZG, ZH, ZI, ZJ, ZK, ZL, ZM, ZN, ZO, ZP, ZQ, lenV, minV, maxV, hav, stC_one, ZR, ZS, ZT, ZU, ZV, ZW, ZX, ZY, ZZ, Z0, ones_gc, Z1, Z2, Z3, Z4, Z5, Z6, Z7, Z8, Z9, Ya, Yb, Yc, Yd, z8_len, Ye, Yf, wrap_u8, gc_s, gc_x, gc_o, Yg, Yh, Yi, Yj, Yk, Yl, Ym, Yn, Yo, eq_self, Int.reduceLE, Int.reduceLT, Yp, Yq, Yr, Ys, endQ_1, endQ_2, endQ_3, Yt, Yu, Yv, Yw, Yx, sliceV, loV, hiV, Yy, ZL, Int.reduceToNat, Yz, YA, YB, YC, YD, YE, YF, ne_eq, YG, Nat.reduceSub, YH, shOp, YI, bslQ, mksQ, appQ, ↓appIf_pos, ↓appIf_zero, partsOk, partsCells, delB, YJ, YK, tab_len, YL, YM, YN, YO, eqL_gc, eqL, SameI, strOp, YP, YQ, toList_madeCells_one, apzQ, cvtQ, capV, u8s_ints, bytes_strB, zeroCells_one]
  repeat refine And.intro (by omega) ?_
  repeat refine And.intro (by omega) ?_
  intro g
  simp only [List.map_cons, List.map_nil, updL, upd, Nat.reduceEqDiff, if_true, if_false, ↓reduceIte]
  refine hK _ _ ?_; clear hK K
  refine Cd.seq ?_
  refine Cd.rs [0, 1, 10] fun K hK => ?_
  simp (maxSteps := 2000000) (disch := first | (simp only [Z9, Ya, Yb, Yc, Yd, z8_len, Ye, ZN, ZO, tab_len] <;> omega) | omega | fail) only [↓YS, ↓YT, YU, YV, YW, YX, bare, bareJ, evP, ↓Za, ↓Zb, ↓Zc, ↓Zd, Ze, ↓Zf, ↓Zg, ↓Zh, ↓evOp_callO, evPlan, env0, envN, evOps, evOp, evQs, evQ, evV, setD, pureOp, ev, upd, updL, gate, binW, eqOp, binV, intOp, shOp, boolOp, unV, convV, nilV, fieldAddrV, indexAddrV, extractV, cellAt, cellsAt, findB, setB, fillL, buildV, Value.cells, Zj, Zk, Nat.reduceAdd, Nat.reduceLT, Nat.reduceEqDiff, Nat.reduceMul, Nat.reduceLeDiff, Zl, Zm, if_true, Zn, ↓reduceIte, reduceCtorEq, or_self, Zo, Zp, Zq, Zr, Zs, Zt, Zu, Zv, Zw, Zx, Zy, Zz, ZA, ZB, ZC, ZD, ZE, ZF, ZG, ZH, ZI, ZJ, ZK, ZL, ZM, ZN, ZO, ZP, ZQ, lenV, minV, maxV, hav, stC_one, ZR, ZS, ZT, ZU, ZV, ZW, ZX, ZY, ZZ, Z0, ones_gc, Z1, Z2, Z3, Z4, Z5, Z6, Z7, Z8, Z9, Ya, Yb, Yc, Yd, z8_len, Ye, Yf, wrap_u8, gc_s, gc_x, gc_o, Yg, Yh, Yi, Yj, Yk, Yl, Ym, Yn, Yo, eq_self, Int.reduceLE, Int.reduceLT, Yp, Yq, Yr, Ys, endQ_1, endQ_2, endQ_3, Yt, Yu, Yv, Yw, Yx, sliceV, loV, hiV, Yy, ZL, Int.reduceToNat, Yz, YA, YB, YC, YD, YE, YF, ne_eq, YG, Nat.reduceSub, YH, shOp, YI, bslQ, mksQ, appQ, ↓appIf_pos, ↓appIf_zero, partsOk, partsCells, delB, YJ, YK, tab_len, YL, YM, YN, YO, eqL_gc, eqL, SameI, strOp, YP, YQ, toList_madeCells_one, apzQ, cvtQ, capV, u8s_ints, bytes_strB, zeroCells_one, Tslce22]
  repeat refine And.intro (by omega) ?_
  repeat refine And.intro (by omega) ?_
  intro g
  simp only [List.map_cons, List.map_nil, updL, upd, Nat.reduceEqDiff, if_true, if_false, ↓reduceIte]
  refine hK _ _ ?_; clear hK K
  refine Cd.no rfl ?_
  refine Cd.skip ?_
  refine thenN ?_
  refine Cd.seq ?_
  refine Cd.rs [0, 1, 5] fun K hK => ?_
  simp (maxSteps := 2000000) (disch := first | (simp only [Z9, Ya, Yb, Yc, Yd, z8_len, Ye, ZN, ZO, tab_len] <;> omega) | omega | fail) only [↓YS, ↓YT, YU, YV, YW, YX, bare, bareJ, evP, ↓Za, ↓Zb, ↓Zc, ↓Zd, Ze, ↓Zf, ↓Zg, ↓Zh, ↓evOp_callO, evPlan, env0, envN, evOps, evOp, evQs, evQ, evV, setD, pureOp, ev, upd, updL, gate, binW, eqOp, binV, intOp, shOp, boolOp, unV, convV, nilV, fieldAddrV, indexAddrV, extractV, cellAt, cellsAt, findB, setB, fillL, buildV, Value.cells, Zj, Zk, Nat.reduceAdd, Nat.reduceLT, Nat.reduceEqDiff, Nat.reduceMul, Nat.reduceLeDiff, Zl, Zm, if_true, Zn, ↓reduceIte, reduceCtorEq, or_self, Zo, Zp, Zq, Zr, Zs, Zt, Zu, Zv, Zw, Zx, Zy, Zz, ZA, ZB, ZC, ZD, ZE, ZF, ZG, ZH, ZI, ZJ, ZK, ZL, ZM, ZN, ZO, ZP, ZQ, lenV, minV, maxV, hav, stC_one, ZR, ZS, ZT, ZU, ZV, ZW, ZX, ZY, ZZ, Z0, ones_gc, Z1, Z2, Z3, Z4, Z5, Z6, Z7, Z8, Z9, Ya, Yb, Yc, Yd, z8_len, Ye, Yf, wrap_u8, gc_s, gc_x, gc_o, Yg, Yh, Yi, Yj, Yk, Yl, Ym, Yn, Yo, eq_self, Int.reduceLE, Int.reduceLT, Yp, Yq, Yr, Ys, endQ_1, endQ_2, endQ_3, Yt, Yu, Yv, Yw, Yx, sliceV, loV, hiV, Yy, ZL, Int.reduceToNat, Yz, YA, YB, YC, YD, YE, YF, ne_eq, YG, Nat.reduceSub, YH, shOp, YI, bslQ, mksQ, appQ, ↓appIf_pos, ↓appIf_zero, partsOk, partsCells, delB, YJ, YK, tab_len, YL, YM, YN, YO, eqL_gc, eqL, SameI, strOp, YP, YQ, toList_madeCells_one, apzQ, cvtQ, capV, u8s_ints, bytes_strB, zeroCells_one]
  repeat refine And.intro (by omega) ?_
  repeat refine And.intro (by omega) ?_
  intro g
  simp only [List.map_cons, List.map_nil, updL, upd, Nat.reduceEqDiff, if_true, if_false, ↓reduceIte]
  refine hK _ _ ?_; clear hK K
  refine Cd.block ?_
  refine Cd.loop (fun n ρ M => ∃ g k, k + n = S.length ∧ ρ = updL [(0, .slice a S.length cap), (1, .slice a' S.length cap'), (5, .int .i64 (k : Int))] g ∧ M = []) S.length ⟨_, 0, Nat.zero_add _, rfl, rfl⟩ ?_
  rintro n ρ M ⟨g, k, hk, rfl, rfl⟩
  refine Cd.seq ?_
  refine Cd.rs [0, 1, 5, 14] fun K hK => ?_
  simp (maxSteps := 2000000) (disch := first | (simp only [Z9, Ya, Yb, Yc, Yd, z8_len, Ye, ZN, ZO, tab_len] <;> omega) | omega | fail) only [↓YS, ↓YT, YU, YV, YW, YX, bare, bareJ, evP, ↓Za, ↓Zb, ↓Zc, ↓Zd, Ze, ↓Zf, ↓Zg, ↓Zh, ↓evOp_callO, evPlan, env0, envN, evOps, evOp, evQs, evQ, evV, setD, pureOp, ev, upd, updL, gate, binW, eqOp, binV, intOp, shOp, boolOp, unV, convV, nilV, fieldAddrV, indexAddrV, extractV, cellAt, cellsAt, findB, setB, fillL, buildV, Value.cells, Zj, Zk, Nat.reduceAdd, Nat.reduceLT, Nat.reduceEqDiff, Nat.reduceMul, Nat.reduceLeDiff, Zl, Zm, if_true, Zn, ↓reduceIte, reduceCtorEq, or_self, Zo, Zp, Zq, Zr, Zs, Zt, Zu, Zv, Zw, Zx, Zy, Zz, ZA, ZB, ZC, ZD, ZE, ZF, ZG, ZH, ZI, ZJ, ZK, ZL, ZM, ZN, ZO, ZP, ZQ, lenV, minV, maxV, hav, stC_one, ZR, ZS, ZT, ZU, ZV, ZW, ZX, ZY, ZZ, Z0, ones_gc, Z1, Z2, Z3, Z4, Z5, Z6, Z7, Z8, Z9, Ya, Yb, Yc, Yd, z8_len, Ye, Yf, wrap_u8, gc_s, gc_x, gc_o, Yg, Yh, Yi, Yj, Yk, Yl, Ym, Yn, Yo, eq_self, Int.reduceLE, Int.reduceLT, Yp, Yq, Yr, Ys, endQ_1, endQ_2, endQ_3, Yt, Yu, Yv, Yw, Yx, sliceV, loV, hiV, Yy, ZL, Int.reduceToNat, Yz, YA, YB, YC, YD, YE, YF, ne_eq, YG, Nat.reduceSub, YH, shOp, YI, bslQ, mksQ, appQ, ↓appIf_pos, ↓appIf_zero, partsOk, partsCells, delB, YJ, YK, tab_len, YL, YM, YN, YO, eqL_gc, eqL, SameI, strOp, YP, YQ, toList_madeCells_one, apzQ, cvtQ, capV, u8s_ints, bytes_strB, zeroCells_one, Tslce22]
  repeat refine And.intro (by omega) ?_
  repeat refine And.intro (by omega) ?_
  intro g
  simp only [List.map_cons, List.map_nil, updL, upd, Nat.reduceEqDiff, if_true, if_false, ↓reduceIte]
  refine hK _ _ ?_; clear hK K
  refine Cd.condd rfl (fun h2 => ?_) (fun h2 => ?_)
  · obtain ⟨b, rfl, q⟩ := h.many hR (o := k * 8) (n := 8) (by omega) (by omega)
    obtain ⟨b', rfl, q'⟩ := h'.many hR (o := k * 8) (n := 8) (by omega) (by omega)
    rw [cellsS_row (fun x hx => (hS x hx).1) (by omega)] at q q'
    have hrow : B8 (S.getD k []) := by
      rw [List.getD_eq_getElem?_getD, List.getElem?_eq_getElem (show k < S.length by omega)]
      exact hS _ (List.getElem_mem _)
    have xl := hrow.1
    refine Cd.skip ?_
    refine thenN ?_
    refine Cd.seq ?_
    refine Cd.block ?_
    skip
    refine Cd.qs [0, 1, 5, 26] fol (by kernel_rfl) fun K hK => ?_
    simp (maxSteps := 2000000) (disch := first | (simp only [Z9, Ya, Yb, Yc, Yd, z8_len, Ye, ZN, ZO, tab_len, q, q', xl] <;> omega) | omega | fail) only [↓YS, ↓YT, YU, YV, YW, YX, bare, bareJ, evP, ↓Za, ↓Zb, ↓Zc, ↓Zd, Ze, ↓Zf, ↓Zg, ↓Zh, ↓evOp_callO, evPlan, env0, envN, evOps, evOp, evQs, evQ, evV, setD, pureOp, ev, upd, updL, gate, binW, eqOp, binV, intOp, shOp, boolOp, unV, convV, nilV, fieldAddrV, indexAddrV, extractV, cellAt, cellsAt, findB, setB, fillL, buildV, Value.cells, Zj, Zk, Nat.reduceAdd, Nat.reduceLT, Nat.reduceEqDiff, Nat.reduceMul, Nat.reduceLeDiff, Zl, Zm, if_true, Zn, ↓reduceIte, reduceCtorEq, or_self, Zo, Zp, Zq, Zr, Zs, Zt, Zu, Zv, Zw, Zx, Zy, Zz, ZA, ZB, ZC, ZD, ZE, ZF, ZG, ZH, ZI, ZJ, ZK, ZL, ZM, ZN, ZO, ZP, ZQ, lenV, minV, maxV, hav, stC_one, ZR, ZS, ZT, ZU, ZV, ZW, ZX, ZY, ZZ, Z0, ones_gc, Z1, Z2, Z3, Z4, Z5, Z6, Z7, Z8, Z9, Ya, Yb, Yc, Yd, z8_len, Ye, Yf, wrap_u8, gc_s, gc_x, gc_o, Yg, Yh, Yi, Yj, Yk, Yl, Ym, Yn, Yo, eq_self, Int.reduceLE, Int.reduceLT, Yp, Yq, Yr, Ys, endQ_1, endQ_2, endQ_3, Yt, Yu, Yv, Yw, Yx, sliceV, loV, hiV, Yy, ZL, Int.reduceToNat, Yz, YA, YB, YC, YD, YE, YF, ne_eq, YG, Nat.reduceSub, YH, shOp, YI, bslQ, mksQ, appQ, ↓appIf_pos, ↓appIf_zero, partsOk, partsCells, delB, YJ, YK, tab_len, YL, YM, YN, YO, eqL_gc, eqL, SameI, strOp, YP, YQ, toList_madeCells_one, apzQ, cvtQ, capV, u8s_ints, bytes_strB, zeroCells_one, Tld80, Tslc22, q, q', xl]
    repeat refine And.intro (by omega) ?_
    refine callQ_gives (eqState_c _ hrow) ?_
    simp (maxSteps := 2000000) (disch := first | (simp only [Z9, Ya, Yb, Yc, Yd, z8_len, Ye, ZN, ZO, tab_len, q, q', xl] <;> omega) | omega | fail) only [↓YS, ↓YT, YU, YV, YW, YX, bare, bareJ, evP, ↓Za, ↓Zb, ↓Zc, ↓Zd, Ze, ↓Zf, ↓Zg, ↓Zh, ↓evOp_callO, evPlan, env0, envN, evOps, evOp, evQs, evQ, evV, setD, pureOp, ev, upd, updL, gate, binW, eqOp, binV, intOp, shOp, boolOp, unV, convV, nilV, fieldAddrV, indexAddrV, extractV, cellAt, cellsAt, findB, setB, fillL, buildV, Value.cells, Zj, Zk, Nat.reduceAdd, Nat.reduceLT, Nat.reduceEqDiff, Nat.reduceMul, Nat.reduceLeDiff, Zl, Zm, if_true, Zn, ↓reduceIte, reduceCtorEq, or_self, Zo, Zp, Zq, Zr, Zs, Zt, Zu, Zv, Zw, Zx, Zy, Zz, ZA, ZB, ZC, ZD, ZE, ZF, ZG, ZH, ZI, ZJ, ZK, ZL, ZM, ZN, ZO, ZP, ZQ, lenV, minV, maxV, hav, stC_one, ZR, ZS, ZT, ZU, ZV, ZW, ZX, ZY, ZZ, Z0, ones_gc, Z1, Z2, Z3, Z4, Z5, Z6, Z7, Z8, Z9, Ya, Yb, Yc, Yd, z8_len, Ye, Yf, wrap_u8, gc_s, gc_x, gc_o, Yg, Yh, Yi, Yj, Yk, Yl, Ym, Yn, Yo, eq_self, Int.reduceLE, Int.reduceLT, Yp, Yq, Yr, Ys, endQ_1, endQ_2, endQ_3, Yt, Yu, Yv, Yw, Yx, sliceV, loV, hiV, Yy, ZL, Int.reduceToNat, Yz, YA, YB, YC, YD, YE, YF, ne_eq, YG, Nat.reduceSub, YH, shOp, YI, bslQ, mksQ, appQ, ↓appIf_pos, ↓appIf_zero, partsOk, partsCells, delB, YJ, YK, tab_len, YL, YM, YN, YO, eqL_gc, eqL, SameI, strOp, YP, YQ, toList_madeCells_one, apzQ, cvtQ, capV, u8s_ints, bytes_strB, zeroCells_one, Tld80, Tslc22, q, q', xl]
    repeat refine And.intro (by omega) ?_
    repeat refine And.intro (by omega) ?_
    intro g
    simp only [List.map_cons, List.map_nil, updL, upd, Nat.reduceEqDiff, if_true, if_false, ↓reduceIte]
    refine hK _ ?_; clear hK K
    refine Cd.no rfl ?_
    refine Cd.skip ?_
    refine inBN ?_
    refine thenN ?_
    refine Cd.rr [0, 1, 5] fun K hK => ?_
    simp (maxSteps := 2000000) (disch := first | (simp only [Z9, Ya, Yb, Yc, Yd, z8_len, Ye, ZN, ZO, tab_len, q, q', xl] <;> omega) | omega | fail) only [↓YS, ↓YT, YU, YV, YW, YX, bare, bareJ, evP, ↓Za, ↓Zb, ↓Zc, ↓Zd, Ze, ↓Zf, ↓Zg, ↓Zh, ↓evOp_callO, evPlan, env0, envN, evOps, evOp, evQs, evQ, evV, setD, pureOp, ev, upd, updL, gate, binW, eqOp, binV, intOp, shOp, boolOp, unV, convV, nilV, fieldAddrV, indexAddrV, extractV, cellAt, cellsAt, findB, setB, fillL, buildV, Value.cells, Zj, Zk, Nat.reduceAdd, Nat.reduceLT, Nat.reduceEqDiff, Nat.reduceMul, Nat.reduceLeDiff, Zl, Zm, if_true, Zn, ↓reduceIte, reduceCtorEq, or_self, Zo, Zp, Zq, Zr, Zs, Zt, Zu, Zv, Zw, Zx, Zy, Zz, ZA, ZB, ZC, ZD, ZE, ZF, ZG, ZH, ZI, ZJ, ZK, ZL, ZM, ZN, ZO, ZP, ZQ, lenV, minV, maxV, hav, stC_one, ZR, ZS, ZT, ZU, ZV, ZW, ZX, ZY, ZZ, Z0, ones_gc, Z1, Z2, Z3, Z4, Z5, Z6, Z7, Z8, Z9, Ya, Yb, Yc, Yd, z8_len, Ye, Yf, wrap_u8, gc_s, gc_x, gc_o, Yg, Yh, Yi, Yj, Yk, Yl, Ym, Yn, Yo, eq_self, Int.reduceLE, Int.reduceLT, Yp, Yq, Yr, Ys, endQ_1, endQ_2, endQ_3, Yt, Yu, Yv, Yw, Yx, sliceV, loV, hiV, Yy, ZL, Int.reduceToNat, Yz, YA, YB, YC, YD, YE, YF, ne_eq, YG, Nat.reduceSub, YH, shOp, YI, bslQ, mksQ, appQ, ↓appIf_pos, ↓appIf_zero, partsOk, partsCells, delB, YJ, YK, tab_len, YL, YM, YN, YO, eqL_gc, eqL, SameI, strOp, YP, YQ, toList_madeCells_one, apzQ, cvtQ, capV, u8s_ints, bytes_strB, zeroCells_one, q, q', xl]
    repeat refine And.intro (by omega) ?_
    repeat refine And.intro (by omega) ?_
    intro g
    simp only [List.map_cons, List.map_nil, updL, upd, Nat.reduceEqDiff, if_true, if_false, ↓reduceIte]
    refine hK _ _ ?_; clear hK K
    exact roundN (m := n - 1) (by omega) ⟨_, k + 1, by omega, rfl, rfl⟩
  · refine Cd.exit (thenX (roundX (inBX ?_)))
    refine thenN ?_
    refine Cd.rs [4] fun K hK => ?_
    simp (maxSteps := 2000000) (disch := first | (simp only [Z9, Ya, Yb, Yc, Yd, z8_len, Ye, ZN, ZO, tab_len] <;> omega) | omega | fail) only [↓YS, ↓YT, YU, YV, YW, YX, bare, bareJ, evP, ↓Za, ↓Zb, ↓Zc, ↓Zd, Ze, ↓Zf, ↓Zg, ↓Zh, ↓evOp_callO, evPlan, env0, envN, evOps, evOp, evQs, evQ, evV, setD, pureOp, ev, upd, updL, gate, binW, eqOp, binV, intOp, shOp, boolOp, unV, convV, nilV, fieldAddrV, indexAddrV, extractV, cellAt, cellsAt, findB, setB, fillL, buildV, Value.cells, Zj, Zk, Nat.reduceAdd, Nat.reduceLT, Nat.reduceEqDiff, Nat.reduceMul, Nat.reduceLeDiff, Zl, Zm, if_true, Zn, ↓reduceIte, reduceCtorEq, or_self, Zo, Zp, Zq, Zr, Zs, Zt, Zu, Zv, Zw, Zx, Zy, Zz, ZA, ZB, ZC, ZD, ZE, ZF, ZG, ZH, ZI, ZJ, ZK, ZL, ZM, ZN, ZO, ZP, ZQ, lenV, minV, maxV, hav, stC_one, ZR, ZS, ZT, ZU, ZV, ZW, ZX, ZY, ZZ, Z0, ones_gc, Z1, Z2, Z3, Z4, Z5, Z6, Z7, Z8, Z9, Ya, Yb, Yc, Yd, z8_len, Ye, Yf, wrap_u8, gc_s, gc_x, gc_o, Yg, Yh, Yi, Yj, Yk, Yl, Ym, Yn, Yo, eq_self, Int.reduceLE, Int.reduceLT, Yp, Yq, Yr, Ys, endQ_1, endQ_2, endQ_3, Yt, Yu, Yv, Yw, Yx, sliceV, loV, hiV, Yy, ZL, Int.reduceToNat, Yz, YA, YB, YC, YD, YE, YF, ne_eq, YG, Nat.reduceSub, YH, shOp, YI, bslQ, mksQ, appQ, ↓appIf_pos, ↓appIf_zero, partsOk, partsCells, delB, YJ, YK, tab_len, YL, YM, YN, YO, eqL_gc, eqL, SameI, strOp, YP, YQ, toList_madeCells_one, apzQ, cvtQ, capV, u8s_ints, bytes_strB, zeroCells_one]
    repeat refine And.intro (by omega) ?_
    repeat refine And.intro (by omega) ?_
    intro g
    simp only [List.map_cons, List.map_nil, updL, upd, Nat.reduceEqDiff, if_true, if_false, ↓reduceIte]
    refine hK _ _ ?_; clear hK K
    refine Cd.ret ?_
    simp (maxSteps := 2000000) (disch := first | (simp only [Z9, Ya, Yb, Yc, Yd, z8_len, Ye, ZN, ZO, tab_len] <;> omega) | omega | fail) only [↓YS, ↓YT, YU, YV, YW, YX, bare, bareJ, evP, ↓Za, ↓Zb, ↓Zc, ↓Zd, Ze, ↓Zf, ↓Zg, ↓Zh, ↓evOp_callO, evPlan, env0, envN, evOps, evOp, evQs, evQ, evV, setD, pureOp, ev, upd, updL, gate, binW, eqOp, binV, intOp, shOp, boolOp, unV, convV, nilV, fieldAddrV, indexAddrV, extractV, cellAt, cellsAt, findB, setB, fillL, buildV, Value.cells, Zj, Zk, Nat.reduceAdd, Nat.reduceLT, Nat.reduceEqDiff, Nat.reduceMul, Nat.reduceLeDiff, Zl, Zm, if_true, Zn, ↓reduceIte, reduceCtorEq, or_self, Zo, Zp, Zq, Zr, Zs, Zt, Zu, Zv, Zw, Zx, Zy, Zz, ZA, ZB, ZC, ZD, ZE, ZF, ZG, ZH, ZI, ZJ, ZK, ZL, ZM, ZN, ZO, ZP, ZQ, lenV, minV, maxV, hav, stC_one, ZR, ZS, ZT, ZU, ZV, ZW, ZX, ZY, ZZ, Z0, ones_gc, Z1, Z2, Z3, Z4, Z5, Z6, Z7, Z8, Z9, Ya, Yb, Yc, Yd, z8_len, Ye, Yf, wrap_u8, gc_s, gc_x, gc_o, Yg, Yh, Yi, Yj, Yk, Yl, Ym, Yn, Yo, eq_self, Int.reduceLE, Int.reduceLT, Yp, Yq, Yr, Ys, endQ_1, endQ_2, endQ_3, Yt, Yu, Yv, Yw, Yx, sliceV, loV, hiV, Yy, ZL, Int.reduceToNat, Yz, YA, YB, YC, YD, YE, YF, ne_eq, YG, Nat.reduceSub, YH, shOp, YI, bslQ, mksQ, appQ, ↓appIf_pos, ↓appIf_zero, partsOk, partsCells, delB, YJ, YK, tab_len, YL, YM, YN, YO, eqL_gc, eqL, SameI, strOp, YP, YQ, toList_madeCells_one, apzQ, cvtQ, capV, u8s_ints, bytes_strB, zeroCells_one]
    repeat refine And.intro (by omega) ?_

end Go.Proofs
