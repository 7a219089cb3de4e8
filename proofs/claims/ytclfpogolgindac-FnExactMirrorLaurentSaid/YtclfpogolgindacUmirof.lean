/-
  What the functions of this part hand back: each as a plain function of its arguments. Conditions: none.
-/
import Derived.Test.YtclfpogolgindacFx
import Derived.Test.YtclfpogolgindacUmirimpl
namespace Go.Proofs
open Go.W8
set_option linter.unusedVariables false
set_option linter.unusedSimpArgs false
set_option linter.unusedSectionVars false
set_option maxRecDepth 8000
set_option maxHeartbeats 4000000
def mirAns (low : Int) (l : List Int) : Int × List Int × Int := if lauOk low l = true then (mirLow low l, l.reverse, 0) else (0, [], 1)
section
variable (low : Int) (l : List Int) (v : Value) (L : Blks) (hv : LauV low l v L) (hL : (L.map (·.1)).Nodup) (hb : l.length ≤ 100000000) (hw : -9223372036854775808 ≤ low ∧ low < 9223372036854775808)
include hv hL hb hw
theorem sMir_c : GivesK Try.prog 27 #[v] L (lauRes (mirAns low l)) := by
  have hrd := hv.reads (R := toldOf L) fun p hp => mem_toldOf hp
  have hrd0 := hrd
  obtain ⟨a, cap, rfl, hsl⟩ := hrd.form
  refine GivesX.keep (GivesX.part ?_)
  refine GivesX.of (callable_of Try.func27 rfl (by decide)) ?_ fun w hnd hlt hR => ?_
  · simp
  refine acall_of (N := 13) (c := _) (rs := [.cell 2 43, .tmp 3]) (args := [_]) Try.func27 rfl (by decide) rfl rfl (Nat.le_of_ble_eq_true rfl) ?_
  have hR : W8.Told [] w (toldOf L) := hR
  refine Cd.rs [1, 2] fun K hK => ?_
  simp (maxSteps := 2000000) (disch := first | (simp only [Z9, Ya, Yb, Yc, Yd, z8_len, Ye, ZN, ZO, tab_len] <;> omega) | omega | fail) only [↓YS, ↓YT, YU, YV, YW, YX, bare, bareJ, evP, ↓Za, ↓Zb, ↓Zc, ↓Zd, Ze, ↓Zf, ↓Zg, ↓Zh, ↓evOp_callO, evPlan, env0, envN, evOps, evOp, evQs, evQ, evV, setD, pureOp, ev, upd, updL, gate, binW, eqOp, binV, intOp, shOp, boolOp, unV, convV, nilV, fieldAddrV, indexAddrV, extractV, cellAt, cellsAt, findB, setB, fillL, buildV, Value.cells, Zj, Zk, Nat.reduceAdd, Nat.reduceLT, Nat.reduceEqDiff, Nat.reduceMul, Nat.reduceLeDiff, Zl, Zm, if_true, Zn, ↓reduceIte, reduceCtorEq, or_self, Zo, Zp, Zq, Zr, Zs, Zt, Zu, Zv, Zw, Zx, Zy, Zz, ZA, ZB, ZC, ZD, ZE, ZF, ZG, ZH, ZI, ZJ, ZK, ZL, ZM, ZN, ZO, ZP, ZQ, lenV, minV, maxV, hav, stC_one, ZR, ZS, ZT, ZU, ZV, ZW, ZX, ZY, ZZ, Z0, ones_gc, Z1, Z2, Z3, Z4, Z5, Z6, Z7, Z8, Z9, Ya, Yb, Yc, Yd, z8_len, Ye, Yf, wrap_u8, gc_s, gc_x, gc_o, Yg, Yh, Yi, Yj, Yk, Yl, Ym, Yn, Yo, eq_self, Int.reduceLE, Int.reduceLT, Yp, Yq, Yr, Ys, endQ_1, endQ_2, endQ_3, Yt, Yu, Yv, Yw, Yx, sliceV, loV, hiV, Yy, ZL, Int.reduceToNat, Yz, YA, YB, YC, YD, YE, YF, ne_eq, YG, Nat.reduceSub, YH, shOp, YI, bslQ, mksQ, appQ, partsOk, partsCells, delB, YJ, YK, tab_len, YL, YM, YN, YO, eqL_gc, eqL, SameI, strOp, YP, YQ, toList_madeCells_one, apzQ, cvtQ, capV, u8s_ints, bytes_strB, zeroCells_one, Tzero43]
  repeat refine And.intro (by omega) ?_
  intro b1 hb1
  intro b2 hb2
  have nb2_b1 := hb2.ne
  try simp (maxSteps := 2000000) (disch := first | (simp only [Z9, Ya, Yb, Yc, Yd, z8_len, Ye, ZN, ZO, tab_len, nb2_b1] <;> omega) | omega | fail) only [↓YS, ↓YT, YU, YV, YW, YX, bare, bareJ, evP, ↓Za, ↓Zb, ↓Zc, ↓Zd, Ze, ↓Zf, ↓Zg, ↓Zh, ↓evOp_callO, evPlan, env0, envN, evOps, evOp, evQs, evQ, evV, setD, pureOp, ev, upd, updL, gate, binW, eqOp, binV, intOp, shOp, boolOp, unV, convV, nilV, fieldAddrV, indexAddrV, extractV, cellAt, cellsAt, findB, setB, fillL, buildV, Value.cells, Zj, Zk, Nat.reduceAdd, Nat.reduceLT, Nat.reduceEqDiff, Nat.reduceMul, Nat.reduceLeDiff, Zl, Zm, if_true, Zn, ↓reduceIte, reduceCtorEq, or_self, Zo, Zp, Zq, Zr, Zs, Zt, Zu, Zv, Zw, Zx, Zy, Zz, ZA, ZB, ZC, ZD, ZE, ZF, ZG, ZH, ZI, ZJ, ZK, ZL, ZM, ZN, ZO, ZP, ZQ, lenV, minV, maxV, hav, stC_one, ZR, ZS, ZT, ZU, ZV, ZW, ZX, ZY, ZZ, Z0, ones_gc, Z1, Z2, Z3, Z4, Z5, Z6, Z7, Z8, Z9, Ya, Yb, Yc, Yd, z8_len, Ye, Yf, wrap_u8, gc_s, gc_x, gc_o, Yg, Yh, Yi, Yj, Yk, Yl, Ym, Yn, Yo, eq_self, Int.reduceLE, Int.reduceLT, Yp, Yq, Yr, Ys, endQ_1, endQ_2, endQ_3, Yt, Yu, Yv, Yw, Yx, sliceV, loV, hiV, Yy, ZL, Int.reduceToNat, Yz, YA, YB, YC, YD, YE, YF, ne_eq, YG, Nat.reduceSub, YH, shOp, YI, bslQ, mksQ, appQ, partsOk, partsCells, delB, YJ, YK, tab_len, YL, YM, YN, YO, eqL_gc, eqL, SameI, strOp, YP, YQ, toList_madeCells_one, apzQ, cvtQ, capV, u8s_ints, bytes_strB, zeroCells_one, Tzero43, nb2_b1]
  repeat refine And.intro (by omega) ?_
  repeat refine And.intro (by omega) ?_
  intro g
  simp only [List.map_cons, List.map_nil, updL, upd, Nat.reduceEqDiff, if_true, if_false, ↓reduceIte]
  refine hK _ _ ?_; clear hK K
  refine Cd.seq ?_
  refine Cd.rs [1, 2, 6] fun K hK => ?_
  simp (maxSteps := 2000000) (disch := first | (simp only [Z9, Ya, Yb, Yc, Yd, z8_len, Ye, ZN, ZO, tab_len, nb2_b1] <;> omega) | omega | fail) only [↓YS, ↓YT, YU, YV, YW, YX, bare, bareJ, evP, ↓Za, ↓Zb, ↓Zc, ↓Zd, Ze, ↓Zf, ↓Zg, ↓Zh, ↓evOp_callO, evPlan, env0, envN, evOps, evOp, evQs, evQ, evV, setD, pureOp, ev, upd, updL, gate, binW, eqOp, binV, intOp, shOp, boolOp, unV, convV, nilV, fieldAddrV, indexAddrV, extractV, cellAt, cellsAt, findB, setB, fillL, buildV, Value.cells, Zj, Zk, Nat.reduceAdd, Nat.reduceLT, Nat.reduceEqDiff, Nat.reduceMul, Nat.reduceLeDiff, Zl, Zm, if_true, Zn, ↓reduceIte, reduceCtorEq, or_self, Zo, Zp, Zq, Zr, Zs, Zt, Zu, Zv, Zw, Zx, Zy, Zz, ZA, ZB, ZC, ZD, ZE, ZF, ZG, ZH, ZI, ZJ, ZK, ZL, ZM, ZN, ZO, ZP, ZQ, lenV, minV, maxV, hav, stC_one, ZR, ZS, ZT, ZU, ZV, ZW, ZX, ZY, ZZ, Z0, ones_gc, Z1, Z2, Z3, Z4, Z5, Z6, Z7, Z8, Z9, Ya, Yb, Yc, Yd, z8_len, Ye, Yf, wrap_u8, gc_s, gc_x, gc_o, Yg, Yh, Yi, Yj, Yk, Yl, Ym, Yn, Yo, eq_self, Int.reduceLE, Int.reduceLT, Yp, Yq, Yr, Ys, endQ_1, endQ_2, endQ_3, Yt, Yu, Yv, Yw, Yx, sliceV, loV, hiV, Yy, ZL, Int.reduceToNat, Yz, YA, YB, YC, YD, YE, YF, ne_eq, YG, Nat.reduceSub, YH, shOp, YI, bslQ, mksQ, appQ, partsOk, partsCells, delB, YJ, YK, tab_len, YL, YM, YN, YO, eqL_gc, eqL, SameI, strOp, YP, YQ, toList_madeCells_one, apzQ, cvtQ, capV, u8s_ints, bytes_strB, zeroCells_one, Tld43, nb2_b1]
  repeat refine And.intro (by omega) ?_
  refine callK_told0 (l04Is_c _ _ (toldOf L) _ hsl (by omega) hw) hR ?_
  simp (maxSteps := 2000000) (disch := first | (simp only [Z9, Ya, Yb, Yc, Yd, z8_len, Ye, ZN, ZO, tab_len, nb2_b1] <;> omega) | omega | fail) only [↓YS, ↓YT, YU, YV, YW, YX, bare, bareJ, evP, ↓Za, ↓Zb, ↓Zc, ↓Zd, Ze, ↓Zf, ↓Zg, ↓Zh, ↓evOp_callO, evPlan, env0, envN, evOps, evOp, evQs, evQ, evV, setD, pureOp, ev, upd, updL, gate, binW, eqOp, binV, intOp, shOp, boolOp, unV, convV, nilV, fieldAddrV, indexAddrV, extractV, cellAt, cellsAt, findB, setB, fillL, buildV, Value.cells, Zj, Zk, Nat.reduceAdd, Nat.reduceLT, Nat.reduceEqDiff, Nat.reduceMul, Nat.reduceLeDiff, Zl, Zm, if_true, Zn, ↓reduceIte, reduceCtorEq, or_self, Zo, Zp, Zq, Zr, Zs, Zt, Zu, Zv, Zw, Zx, Zy, Zz, ZA, ZB, ZC, ZD, ZE, ZF, ZG, ZH, ZI, ZJ, ZK, ZL, ZM, ZN, ZO, ZP, ZQ, lenV, minV, maxV, hav, stC_one, ZR, ZS, ZT, ZU, ZV, ZW, ZX, ZY, ZZ, Z0, ones_gc, Z1, Z2, Z3, Z4, Z5, Z6, Z7, Z8, Z9, Ya, Yb, Yc, Yd, z8_len, Ye, Yf, wrap_u8, gc_s, gc_x, gc_o, Yg, Yh, Yi, Yj, Yk, Yl, Ym, Yn, Yo, eq_self, Int.reduceLE, Int.reduceLT, Yp, Yq, Yr, Ys, endQ_1, endQ_2, endQ_3, Yt, Yu, Yv, Yw, Yx, sliceV, loV, hiV, Yy, ZL, Int.reduceToNat, Yz, YA, YB, YC, YD, YE, YF, ne_eq, YG, Nat.reduceSub, YH, shOp, YI, bslQ, mksQ, appQ, partsOk, partsCells, delB, YJ, YK, tab_len, YL, YM, YN, YO, eqL_gc, eqL, SameI, strOp, YP, YQ, toList_madeCells_one, apzQ, cvtQ, capV, u8s_ints, bytes_strB, zeroCells_one, Tld43, nb2_b1]
  repeat refine And.intro (by omega) ?_
  repeat refine And.intro (by omega) ?_
  intro g
  simp only [List.map_cons, List.map_nil, updL, upd, Nat.reduceEqDiff, if_true, if_false, ↓reduceIte]
  refine hK _ _ ?_; clear hK K
  refine Cd.cond rfl (fun h1 => ?_) (fun h1 => ?_)
  · refine Cd.rs [2, 3] fun K hK => ?_
    simp (maxSteps := 2000000) (disch := first | (simp only [Z9, Ya, Yb, Yc, Yd, z8_len, Ye, ZN, ZO, tab_len, nb2_b1] <;> omega) | omega | fail) only [↓YS, ↓YT, YU, YV, YW, YX, bare, bareJ, evP, ↓Za, ↓Zb, ↓Zc, ↓Zd, Ze, ↓Zf, ↓Zg, ↓Zh, ↓evOp_callO, evPlan, env0, envN, evOps, evOp, evQs, evQ, evV, setD, pureOp, ev, upd, updL, gate, binW, eqOp, binV, intOp, shOp, boolOp, unV, convV, nilV, fieldAddrV, indexAddrV, extractV, cellAt, cellsAt, findB, setB, fillL, buildV, Value.cells, Zj, Zk, Nat.reduceAdd, Nat.reduceLT, Nat.reduceEqDiff, Nat.reduceMul, Nat.reduceLeDiff, Zl, Zm, if_true, Zn, ↓reduceIte, reduceCtorEq, or_self, Zo, Zp, Zq, Zr, Zs, Zt, Zu, Zv, Zw, Zx, Zy, Zz, ZA, ZB, ZC, ZD, ZE, ZF, ZG, ZH, ZI, ZJ, ZK, ZL, ZM, ZN, ZO, ZP, ZQ, lenV, minV, maxV, hav, stC_one, ZR, ZS, ZT, ZU, ZV, ZW, ZX, ZY, ZZ, Z0, ones_gc, Z1, Z2, Z3, Z4, Z5, Z6, Z7, Z8, Z9, Ya, Yb, Yc, Yd, z8_len, Ye, Yf, wrap_u8, gc_s, gc_x, gc_o, Yg, Yh, Yi, Yj, Yk, Yl, Ym, Yn, Yo, eq_self, Int.reduceLE, Int.reduceLT, Yp, Yq, Yr, Ys, endQ_1, endQ_2, endQ_3, Yt, Yu, Yv, Yw, Yx, sliceV, loV, hiV, Yy, ZL, Int.reduceToNat, Yz, YA, YB, YC, YD, YE, YF, ne_eq, YG, Nat.reduceSub, YH, shOp, YI, bslQ, mksQ, appQ, partsOk, partsCells, delB, YJ, YK, tab_len, YL, YM, YN, YO, eqL_gc, eqL, SameI, strOp, YP, YQ, toList_madeCells_one, apzQ, cvtQ, capV, u8s_ints, bytes_strB, zeroCells_one, Tbld43, Tst43, nb2_b1]
    repeat refine And.intro (by omega) ?_
    repeat refine And.intro (by omega) ?_
    intro g
    simp only [List.map_cons, List.map_nil, updL, upd, Nat.reduceEqDiff, if_true, if_false, ↓reduceIte]
    refine hK _ _ ?_; clear hK K
    refine Cd.ret (thenR ?_)
    simp (maxSteps := 2000000) (disch := first | (simp only [Z9, Ya, Yb, Yc, Yd, z8_len, Ye, ZN, ZO, tab_len, nb2_b1] <;> omega) | omega | fail) only [↓YS, ↓YT, YU, YV, YW, YX, bare, bareJ, evP, ↓Za, ↓Zb, ↓Zc, ↓Zd, Ze, ↓Zf, ↓Zg, ↓Zh, ↓evOp_callO, evPlan, env0, envN, evOps, evOp, evQs, evQ, evV, setD, pureOp, ev, upd, updL, gate, binW, eqOp, binV, intOp, shOp, boolOp, unV, convV, nilV, fieldAddrV, indexAddrV, extractV, cellAt, cellsAt, findB, setB, fillL, buildV, Value.cells, Zj, Zk, Nat.reduceAdd, Nat.reduceLT, Nat.reduceEqDiff, Nat.reduceMul, Nat.reduceLeDiff, Zl, Zm, if_true, Zn, ↓reduceIte, reduceCtorEq, or_self, Zo, Zp, Zq, Zr, Zs, Zt, Zu, Zv, Zw, Zx, Zy, Zz, ZA, ZB, ZC, ZD, ZE, ZF, ZG, ZH, ZI, ZJ, ZK, ZL, ZM, ZN, ZO, ZP, ZQ, lenV, minV, maxV, hav, stC_one, ZR, ZS, ZT, ZU, ZV, ZW, ZX, ZY, ZZ, Z0, ones_gc, Z1, Z2, Z3, Z4, Z5, Z6, Z7, Z8, Z9, Ya, Yb, Yc, Yd, z8_len, Ye, Yf, wrap_u8, gc_s, gc_x, gc_o, Yg, Yh, Yi, Yj, Yk, Yl, Ym, Yn, Yo, eq_self, Int.reduceLE, Int.reduceLT, Yp, Yq, Yr, Ys, endQ_1, endQ_2, endQ_3, Yt, Yu, Yv, Yw, Yx, sliceV, loV, hiV, Yy, ZL, Int.reduceToNat, Yz, YA, YB, YC, YD, YE, YF, ne_eq, YG, Nat.reduceSub, YH, shOp, YI, bslQ, mksQ, appQ, partsOk, partsCells, delB, YJ, YK, tab_len, YL, YM, YN, YO, eqL_gc, eqL, SameI, strOp, YP, YQ, toList_madeCells_one, apzQ, cvtQ, capV, u8s_ints, bytes_strB, zeroCells_one, Tld43, nb2_b1]
    repeat refine And.intro (by omega) ?_
    refine ⟨[], SubP.of (List.nil_sublist _), lauRes_no ?_ rfl⟩
    unfold mirAns
    rw [if_neg (by simpa using h1)]
  · have hok : lauOk low l = true := by simpa using h1
    have q1 := lauOk_low hok
    have q2 := lauOk_len hok
    have q4 := lauOk_high hok
    refine Cd.skip ?_
    refine thenN ?_
    refine Cd.rs [2, 3] fun K hK => ?_
    simp (maxSteps := 2000000) (disch := first | (simp only [Z9, Ya, Yb, Yc, Yd, z8_len, Ye, ZN, ZO, tab_len, nb2_b1] <;> omega) | omega | fail) only [↓YS, ↓YT, YU, YV, YW, YX, bare, bareJ, evP, ↓Za, ↓Zb, ↓Zc, ↓Zd, Ze, ↓Zf, ↓Zg, ↓Zh, ↓evOp_callO, evPlan, env0, envN, evOps, evOp, evQs, evQ, evV, setD, pureOp, ev, upd, updL, gate, binW, eqOp, binV, intOp, shOp, boolOp, unV, convV, nilV, fieldAddrV, indexAddrV, extractV, cellAt, cellsAt, findB, setB, fillL, buildV, Value.cells, Zj, Zk, Nat.reduceAdd, Nat.reduceLT, Nat.reduceEqDiff, Nat.reduceMul, Nat.reduceLeDiff, Zl, Zm, if_true, Zn, ↓reduceIte, reduceCtorEq, or_self, Zo, Zp, Zq, Zr, Zs, Zt, Zu, Zv, Zw, Zx, Zy, Zz, ZA, ZB, ZC, ZD, ZE, ZF, ZG, ZH, ZI, ZJ, ZK, ZL, ZM, ZN, ZO, ZP, ZQ, lenV, minV, maxV, hav, stC_one, ZR, ZS, ZT, ZU, ZV, ZW, ZX, ZY, ZZ, Z0, ones_gc, Z1, Z2, Z3, Z4, Z5, Z6, Z7, Z8, Z9, Ya, Yb, Yc, Yd, z8_len, Ye, Yf, wrap_u8, gc_s, gc_x, gc_o, Yg, Yh, Yi, Yj, Yk, Yl, Ym, Yn, Yo, eq_self, Int.reduceLE, Int.reduceLT, Yp, Yq, Yr, Ys, endQ_1, endQ_2, endQ_3, Yt, Yu, Yv, Yw, Yx, sliceV, loV, hiV, Yy, ZL, Int.reduceToNat, Yz, YA, YB, YC, YD, YE, YF, ne_eq, YG, Nat.reduceSub, YH, shOp, YI, bslQ, mksQ, appQ, partsOk, partsCells, delB, YJ, YK, tab_len, YL, YM, YN, YO, eqL_gc, eqL, SameI, strOp, YP, YQ, toList_madeCells_one, apzQ, cvtQ, capV, u8s_ints, bytes_strB, zeroCells_one, Tld43, Tst43, nb2_b1]
    repeat refine And.intro (by omega) ?_
    refine callK_newR0 (l04Mirror_c low l _ _ hrd0 hok) (Told.toldW hR) ?_
    intro v2 M2 hv2 nd2 _
    simp only [List.cons_append, List.nil_append] at nd2 ⊢
    simp (maxSteps := 2000000) (disch := first | (simp only [Z9, Ya, Yb, Yc, Yd, z8_len, Ye, ZN, ZO, tab_len, nb2_b1] <;> omega) | omega | fail) only [↓YS, ↓YT, YU, YV, YW, YX, bare, bareJ, evP, ↓Za, ↓Zb, ↓Zc, ↓Zd, Ze, ↓Zf, ↓Zg, ↓Zh, ↓evOp_callO, evPlan, env0, envN, evOps, evOp, evQs, evQ, evV, setD, pureOp, ev, upd, updL, gate, binW, eqOp, binV, intOp, shOp, boolOp, unV, convV, nilV, fieldAddrV, indexAddrV, extractV, cellAt, cellsAt, findB, setB, fillL, buildV, Value.cells, Zj, Zk, Nat.reduceAdd, Nat.reduceLT, Nat.reduceEqDiff, Nat.reduceMul, Nat.reduceLeDiff, Zl, Zm, if_true, Zn, ↓reduceIte, reduceCtorEq, or_self, Zo, Zp, Zq, Zr, Zs, Zt, Zu, Zv, Zw, Zx, Zy, Zz, ZA, ZB, ZC, ZD, ZE, ZF, ZG, ZH, ZI, ZJ, ZK, ZL, ZM, ZN, ZO, ZP, ZQ, lenV, minV, maxV, hav, stC_one, ZR, ZS, ZT, ZU, ZV, ZW, ZX, ZY, ZZ, Z0, ones_gc, Z1, Z2, Z3, Z4, Z5, Z6, Z7, Z8, Z9, Ya, Yb, Yc, Yd, z8_len, Ye, Yf, wrap_u8, gc_s, gc_x, gc_o, Yg, Yh, Yi, Yj, Yk, Yl, Ym, Yn, Yo, eq_self, Int.reduceLE, Int.reduceLT, Yp, Yq, Yr, Ys, endQ_1, endQ_2, endQ_3, Yt, Yu, Yv, Yw, Yx, sliceV, loV, hiV, Yy, ZL, Int.reduceToNat, Yz, YA, YB, YC, YD, YE, YF, ne_eq, YG, Nat.reduceSub, YH, shOp, YI, bslQ, mksQ, appQ, partsOk, partsCells, delB, YJ, YK, tab_len, YL, YM, YN, YO, eqL_gc, eqL, SameI, strOp, YP, YQ, toList_madeCells_one, apzQ, cvtQ, capV, u8s_ints, bytes_strB, zeroCells_one, Tld43, Tst43, nb2_b1]
    repeat refine And.intro (by omega) ?_
    have hrd2 := hv2.reads (R := toldOf M2) fun p hp => mem_toldOf hp
    have ht := l04Told_c _ _ _ _ hrd2 (by rw [List.length_reverse]; omega) (by unfold mirLow; split <;> omega)
    rw [if_pos (lauOk_mir hok)] at ht
    refine callK_reads0 ht (holds_mem nd2 fun p hp => by simp [hp]) ?_
    obtain ⟨s2, rfl, hs2⟩ := hv2
    obtain ⟨a2, m2, c2, rfl⟩ := hs2.form
    simp (maxSteps := 2000000) (disch := first | (simp only [Z9, Ya, Yb, Yc, Yd, z8_len, Ye, ZN, ZO, tab_len, nb2_b1] <;> omega) | omega | fail) only [↓YS, ↓YT, YU, YV, YW, YX, bare, bareJ, evP, ↓Za, ↓Zb, ↓Zc, ↓Zd, Ze, ↓Zf, ↓Zg, ↓Zh, ↓evOp_callO, evPlan, env0, envN, evOps, evOp, evQs, evQ, evV, setD, pureOp, ev, upd, updL, gate, binW, eqOp, binV, intOp, shOp, boolOp, unV, convV, nilV, fieldAddrV, indexAddrV, extractV, cellAt, cellsAt, findB, setB, fillL, buildV, Value.cells, Zj, Zk, Nat.reduceAdd, Nat.reduceLT, Nat.reduceEqDiff, Nat.reduceMul, Nat.reduceLeDiff, Zl, Zm, if_true, Zn, ↓reduceIte, reduceCtorEq, or_self, Zo, Zp, Zq, Zr, Zs, Zt, Zu, Zv, Zw, Zx, Zy, Zz, ZA, ZB, ZC, ZD, ZE, ZF, ZG, ZH, ZI, ZJ, ZK, ZL, ZM, ZN, ZO, ZP, ZQ, lenV, minV, maxV, hav, stC_one, ZR, ZS, ZT, ZU, ZV, ZW, ZX, ZY, ZZ, Z0, ones_gc, Z1, Z2, Z3, Z4, Z5, Z6, Z7, Z8, Z9, Ya, Yb, Yc, Yd, z8_len, Ye, Yf, wrap_u8, gc_s, gc_x, gc_o, Yg, Yh, Yi, Yj, Yk, Yl, Ym, Yn, Yo, eq_self, Int.reduceLE, Int.reduceLT, Yp, Yq, Yr, Ys, endQ_1, endQ_2, endQ_3, Yt, Yu, Yv, Yw, Yx, sliceV, loV, hiV, Yy, ZL, Int.reduceToNat, Yz, YA, YB, YC, YD, YE, YF, ne_eq, YG, Nat.reduceSub, YH, shOp, YI, bslQ, mksQ, appQ, partsOk, partsCells, delB, YJ, YK, tab_len, YL, YM, YN, YO, eqL_gc, eqL, SameI, strOp, YP, YQ, toList_madeCells_one, apzQ, cvtQ, capV, u8s_ints, bytes_strB, zeroCells_one, Tld43, Tst43, nb2_b1]
    repeat refine And.intro (by omega) ?_
    repeat refine And.intro (by omega) ?_
    intro g
    simp only [List.map_cons, List.map_nil, updL, upd, Nat.reduceEqDiff, if_true, if_false, ↓reduceIte]
    refine hK _ _ ?_; clear hK K
    refine Cd.ret ?_
    simp (maxSteps := 2000000) (disch := first | (simp only [Z9, Ya, Yb, Yc, Yd, z8_len, Ye, ZN, ZO, tab_len, nb2_b1] <;> omega) | omega | fail) only [↓YS, ↓YT, YU, YV, YW, YX, bare, bareJ, evP, ↓Za, ↓Zb, ↓Zc, ↓Zd, Ze, ↓Zf, ↓Zg, ↓Zh, ↓evOp_callO, evPlan, env0, envN, evOps, evOp, evQs, evQ, evV, setD, pureOp, ev, upd, updL, gate, binW, eqOp, binV, intOp, shOp, boolOp, unV, convV, nilV, fieldAddrV, indexAddrV, extractV, cellAt, cellsAt, findB, setB, fillL, buildV, Value.cells, Zj, Zk, Nat.reduceAdd, Nat.reduceLT, Nat.reduceEqDiff, Nat.reduceMul, Nat.reduceLeDiff, Zl, Zm, if_true, Zn, ↓reduceIte, reduceCtorEq, or_self, Zo, Zp, Zq, Zr, Zs, Zt, Zu, Zv, Zw, Zx, Zy, Zz, ZA, ZB, ZC, ZD, ZE, ZF, ZG, ZH, ZI, ZJ, ZK, ZL, ZM, ZN, ZO, ZP, ZQ, lenV, minV, maxV, hav, stC_one, ZR, ZS, ZT, ZU, ZV, ZW, ZX, ZY, ZZ, Z0, ones_gc, Z1, Z2, Z3, Z4, Z5, Z6, Z7, Z8, Z9, Ya, Yb, Yc, Yd, z8_len, Ye, Yf, wrap_u8, gc_s, gc_x, gc_o, Yg, Yh, Yi, Yj, Yk, Yl, Ym, Yn, Yo, eq_self, Int.reduceLE, Int.reduceLT, Yp, Yq, Yr, Ys, endQ_1, endQ_2, endQ_3, Yt, Yu, Yv, Yw, Yx, sliceV, loV, hiV, Yy, ZL, Int.reduceToNat, Yz, YA, YB, YC, YD, YE, YF, ne_eq, YG, Nat.reduceSub, YH, shOp, YI, bslQ, mksQ, appQ, partsOk, partsCells, delB, YJ, YK, tab_len, YL, YM, YN, YO, eqL_gc, eqL, SameI, strOp, YP, YQ, toList_madeCells_one, apzQ, cvtQ, capV, u8s_ints, bytes_strB, zeroCells_one, Tld43, nb2_b1]
    repeat refine And.intro (by omega) ?_
    refine ⟨M2, SubP.of (List.Sublist.cons _ (List.Sublist.cons _ (List.Sublist.refl _))), ?_⟩
    unfold mirAns
    rw [if_pos hok]
    exact ⟨_, rfl, _, rfl, hs2⟩
theorem iMir_c : GivesK Try.prog 29 #[v] L (lauRes (mirAns low l)) := by
  have hrd := hv.reads (R := toldOf L) fun p hp => mem_toldOf hp
  have hrd0 := hrd
  obtain ⟨a, cap, rfl, hsl⟩ := hrd.form
  refine GivesX.keep (GivesX.part ?_)
  refine GivesX.of (callable_of Try.func29 rfl (by decide)) ?_ fun w hnd hlt hR => ?_
  · simp
  refine acall_of (N := 13) (c := _) (rs := [.cell 2 43, .tmp 3]) (args := [_]) Try.func29 rfl (by decide) rfl rfl (Nat.le_of_ble_eq_true rfl) ?_
  have hR : W8.Told [] w (toldOf L) := hR
  refine Cd.rs [1, 2] fun K hK => ?_
  simp (maxSteps := 2000000) (disch := first | (simp only [Z9, Ya, Yb, Yc, Yd, z8_len, Ye, ZN, ZO, tab_len] <;> omega) | omega | fail) only [↓YS, ↓YT, YU, YV, YW, YX, bare, bareJ, evP, ↓Za, ↓Zb, ↓Zc, ↓Zd, Ze, ↓Zf, ↓Zg, ↓Zh, ↓evOp_callO, evPlan, env0, envN, evOps, evOp, evQs, evQ, evV, setD, pureOp, ev, upd, updL, gate, binW, eqOp, binV, intOp, shOp, boolOp, unV, convV, nilV, fieldAddrV, indexAddrV, extractV, cellAt, cellsAt, findB, setB, fillL, buildV, Value.cells, Zj, Zk, Nat.reduceAdd, Nat.reduceLT, Nat.reduceEqDiff, Nat.reduceMul, Nat.reduceLeDiff, Zl, Zm, if_true, Zn, ↓reduceIte, reduceCtorEq, or_self, Zo, Zp, Zq, Zr, Zs, Zt, Zu, Zv, Zw, Zx, Zy, Zz, ZA, ZB, ZC, ZD, ZE, ZF, ZG, ZH, ZI, ZJ, ZK, ZL, ZM, ZN, ZO, ZP, ZQ, lenV, minV, maxV, hav, stC_one, ZR, ZS, ZT, ZU, ZV, ZW, ZX, ZY, ZZ, Z0, ones_gc, Z1, Z2, Z3, Z4, Z5, Z6, Z7, Z8, Z9, Ya, Yb, Yc, Yd, z8_len, Ye, Yf, wrap_u8, gc_s, gc_x, gc_o, Yg, Yh, Yi, Yj, Yk, Yl, Ym, Yn, Yo, eq_self, Int.reduceLE, Int.reduceLT, Yp, Yq, Yr, Ys, endQ_1, endQ_2, endQ_3, Yt, Yu, Yv, Yw, Yx, sliceV, loV, hiV, Yy, ZL, Int.reduceToNat, Yz, YA, YB, YC, YD, YE, YF, ne_eq, YG, Nat.reduceSub, YH, shOp, YI, bslQ, mksQ, appQ, partsOk, partsCells, delB, YJ, YK, tab_len, YL, YM, YN, YO, eqL_gc, eqL, SameI, strOp, YP, YQ, toList_madeCells_one, apzQ, cvtQ, capV, u8s_ints, bytes_strB, zeroCells_one, Tzero43]
  repeat refine And.intro (by omega) ?_
  intro b1 hb1
  intro b2 hb2
  have nb2_b1 := hb2.ne
  try simp (maxSteps := 2000000) (disch := first | (simp only [Z9, Ya, Yb, Yc, Yd, z8_len, Ye, ZN, ZO, tab_len, nb2_b1] <;> omega) | omega | fail) only [↓YS, ↓YT, YU, YV, YW, YX, bare, bareJ, evP, ↓Za, ↓Zb, ↓Zc, ↓Zd, Ze, ↓Zf, ↓Zg, ↓Zh, ↓evOp_callO, evPlan, env0, envN, evOps, evOp, evQs, evQ, evV, setD, pureOp, ev, upd, updL, gate, binW, eqOp, binV, intOp, shOp, boolOp, unV, convV, nilV, fieldAddrV, indexAddrV, extractV, cellAt, cellsAt, findB, setB, fillL, buildV, Value.cells, Zj, Zk, Nat.reduceAdd, Nat.reduceLT, Nat.reduceEqDiff, Nat.reduceMul, Nat.reduceLeDiff, Zl, Zm, if_true, Zn, ↓reduceIte, reduceCtorEq, or_self, Zo, Zp, Zq, Zr, Zs, Zt, Zu, Zv, Zw, Zx, Zy, Zz, ZA, ZB, ZC, ZD, ZE, ZF, ZG, ZH, ZI, ZJ, ZK, ZL, ZM, ZN, ZO, ZP, ZQ, lenV, minV, maxV, hav, stC_one, ZR, ZS, ZT, ZU, ZV, ZW, ZX, ZY, ZZ, Z0, ones_gc, Z1, Z2, Z3, Z4, Z5, Z6, Z7, Z8, Z9, Ya, Yb, Yc, Yd, z8_len, Ye, Yf, wrap_u8, gc_s, gc_x, gc_o, Yg, Yh, Yi, Yj, Yk, Yl, Ym, Yn, Yo, eq_self, Int.reduceLE, Int.reduceLT, Yp, Yq, Yr, Ys, endQ_1, endQ_2, endQ_3, Yt, Yu, Yv, Yw, Yx, sliceV, loV, hiV, Yy, ZL, Int.reduceToNat, Yz, YA, YB, YC, YD, YE, YF, ne_eq, YG, Nat.reduceSub, YH, shOp, YI, bslQ, mksQ, appQ, partsOk, partsCells, delB, YJ, YK, tab_len, YL, YM, YN, YO, eqL_gc, eqL, SameI, strOp, YP, YQ, toList_madeCells_one, apzQ, cvtQ, capV, u8s_ints, bytes_strB, zeroCells_one, Tzero43, nb2_b1]
  repeat refine And.intro (by omega) ?_
  repeat refine And.intro (by omega) ?_
  intro g
  simp only [List.map_cons, List.map_nil, updL, upd, Nat.reduceEqDiff, if_true, if_false, ↓reduceIte]
  refine hK _ _ ?_; clear hK K
  refine Cd.seq ?_
  refine Cd.rs [1, 2, 6] fun K hK => ?_
  simp (maxSteps := 2000000) (disch := first | (simp only [Z9, Ya, Yb, Yc, Yd, z8_len, Ye, ZN, ZO, tab_len, nb2_b1] <;> omega) | omega | fail) only [↓YS, ↓YT, YU, YV, YW, YX, bare, bareJ, evP, ↓Za, ↓Zb, ↓Zc, ↓Zd, Ze, ↓Zf, ↓Zg, ↓Zh, ↓evOp_callO, evPlan, env0, envN, evOps, evOp, evQs, evQ, evV, setD, pureOp, ev, upd, updL, gate, binW, eqOp, binV, intOp, shOp, boolOp, unV, convV, nilV, fieldAddrV, indexAddrV, extractV, cellAt, cellsAt, findB, setB, fillL, buildV, Value.cells, Zj, Zk, Nat.reduceAdd, Nat.reduceLT, Nat.reduceEqDiff, Nat.reduceMul, Nat.reduceLeDiff, Zl, Zm, if_true, Zn, ↓reduceIte, reduceCtorEq, or_self, Zo, Zp, Zq, Zr, Zs, Zt, Zu, Zv, Zw, Zx, Zy, Zz, ZA, ZB, ZC, ZD, ZE, ZF, ZG, ZH, ZI, ZJ, ZK, ZL, ZM, ZN, ZO, ZP, ZQ, lenV, minV, maxV, hav, stC_one, ZR, ZS, ZT, ZU, ZV, ZW, ZX, ZY, ZZ, Z0, ones_gc, Z1, Z2, Z3, Z4, Z5, Z6, Z7, Z8, Z9, Ya, Yb, Yc, Yd, z8_len, Ye, Yf, wrap_u8, gc_s, gc_x, gc_o, Yg, Yh, Yi, Yj, Yk, Yl, Ym, Yn, Yo, eq_self, Int.reduceLE, Int.reduceLT, Yp, Yq, Yr, Ys, endQ_1, endQ_2, endQ_3, Yt, Yu, Yv, Yw, Yx, sliceV, loV, hiV, Yy, ZL, Int.reduceToNat, Yz, YA, YB, YC, YD, YE, YF, ne_eq, YG, Nat.reduceSub, YH, shOp, YI, bslQ, mksQ, appQ, partsOk, partsCells, delB, YJ, YK, tab_len, YL, YM, YN, YO, eqL_gc, eqL, SameI, strOp, YP, YQ, toList_madeCells_one, apzQ, cvtQ, capV, u8s_ints, bytes_strB, zeroCells_one, Tld43, nb2_b1]
  repeat refine And.intro (by omega) ?_
  refine callK_told0 (IsLaurent_c _ _ (toldOf L) _ hrd0 hb hw) hR ?_
  simp (maxSteps := 2000000) (disch := first | (simp only [Z9, Ya, Yb, Yc, Yd, z8_len, Ye, ZN, ZO, tab_len, nb2_b1] <;> omega) | omega | fail) only [↓YS, ↓YT, YU, YV, YW, YX, bare, bareJ, evP, ↓Za, ↓Zb, ↓Zc, ↓Zd, Ze, ↓Zf, ↓Zg, ↓Zh, ↓evOp_callO, evPlan, env0, envN, evOps, evOp, evQs, evQ, evV, setD, pureOp, ev, upd, updL, gate, binW, eqOp, binV, intOp, shOp, boolOp, unV, convV, nilV, fieldAddrV, indexAddrV, extractV, cellAt, cellsAt, findB, setB, fillL, buildV, Value.cells, Zj, Zk, Nat.reduceAdd, Nat.reduceLT, Nat.reduceEqDiff, Nat.reduceMul, Nat.reduceLeDiff, Zl, Zm, if_true, Zn, ↓reduceIte, reduceCtorEq, or_self, Zo, Zp, Zq, Zr, Zs, Zt, Zu, Zv, Zw, Zx, Zy, Zz, ZA, ZB, ZC, ZD, ZE, ZF, ZG, ZH, ZI, ZJ, ZK, ZL, ZM, ZN, ZO, ZP, ZQ, lenV, minV, maxV, hav, stC_one, ZR, ZS, ZT, ZU, ZV, ZW, ZX, ZY, ZZ, Z0, ones_gc, Z1, Z2, Z3, Z4, Z5, Z6, Z7, Z8, Z9, Ya, Yb, Yc, Yd, z8_len, Ye, Yf, wrap_u8, gc_s, gc_x, gc_o, Yg, Yh, Yi, Yj, Yk, Yl, Ym, Yn, Yo, eq_self, Int.reduceLE, Int.reduceLT, Yp, Yq, Yr, Ys, endQ_1, endQ_2, endQ_3, Yt, Yu, Yv, Yw, Yx, sliceV, loV, hiV, Yy, ZL, Int.reduceToNat, Yz, YA, YB, YC, YD, YE, YF, ne_eq, YG, Nat.reduceSub, YH, shOp, YI, bslQ, mksQ, appQ, partsOk, partsCells, delB, YJ, YK, tab_len, YL, YM, YN, YO, eqL_gc, eqL, SameI, strOp, YP, YQ, toList_madeCells_one, apzQ, cvtQ, capV, u8s_ints, bytes_strB, zeroCells_one, Tld43, nb2_b1]
  repeat refine And.intro (by omega) ?_
  repeat refine And.intro (by omega) ?_
  intro g
  simp only [List.map_cons, List.map_nil, updL, upd, Nat.reduceEqDiff, if_true, if_false, ↓reduceIte]
  refine hK _ _ ?_; clear hK K
  refine Cd.cond rfl (fun h1 => ?_) (fun h1 => ?_)
  · refine Cd.rs [2, 3] fun K hK => ?_
    simp (maxSteps := 2000000) (disch := first | (simp only [Z9, Ya, Yb, Yc, Yd, z8_len, Ye, ZN, ZO, tab_len, nb2_b1] <;> omega) | omega | fail) only [↓YS, ↓YT, YU, YV, YW, YX, bare, bareJ, evP, ↓Za, ↓Zb, ↓Zc, ↓Zd, Ze, ↓Zf, ↓Zg, ↓Zh, ↓evOp_callO, evPlan, env0, envN, evOps, evOp, evQs, evQ, evV, setD, pureOp, ev, upd, updL, gate, binW, eqOp, binV, intOp, shOp, boolOp, unV, convV, nilV, fieldAddrV, indexAddrV, extractV, cellAt, cellsAt, findB, setB, fillL, buildV, Value.cells, Zj, Zk, Nat.reduceAdd, Nat.reduceLT, Nat.reduceEqDiff, Nat.reduceMul, Nat.reduceLeDiff, Zl, Zm, if_true, Zn, ↓reduceIte, reduceCtorEq, or_self, Zo, Zp, Zq, Zr, Zs, Zt, Zu, Zv, Zw, Zx, Zy, Zz, ZA, ZB, ZC, ZD, ZE, ZF, ZG, ZH, ZI, ZJ, ZK, ZL, ZM, ZN, ZO, ZP, ZQ, lenV, minV, maxV, hav, stC_one, ZR, ZS, ZT, ZU, ZV, ZW, ZX, ZY, ZZ, Z0, ones_gc, Z1, Z2, Z3, Z4, Z5, Z6, Z7, Z8, Z9, Ya, Yb, Yc, Yd, z8_len, Ye, Yf, wrap_u8, gc_s, gc_x, gc_o, Yg, Yh, Yi, Yj, Yk, Yl, Ym, Yn, Yo, eq_self, Int.reduceLE, Int.reduceLT, Yp, Yq, Yr, Ys, endQ_1, endQ_2, endQ_3, Yt, Yu, Yv, Yw, Yx, sliceV, loV, hiV, Yy, ZL, Int.reduceToNat, Yz, YA, YB, YC, YD, YE, YF, ne_eq, YG, Nat.reduceSub, YH, shOp, YI, bslQ, mksQ, appQ, partsOk, partsCells, delB, YJ, YK, tab_len, YL, YM, YN, YO, eqL_gc, eqL, SameI, strOp, YP, YQ, toList_madeCells_one, apzQ, cvtQ, capV, u8s_ints, bytes_strB, zeroCells_one, Tbld43, Tst43, nb2_b1]
    repeat refine And.intro (by omega) ?_
    repeat refine And.intro (by omega) ?_
    intro g
    simp only [List.map_cons, List.map_nil, updL, upd, Nat.reduceEqDiff, if_true, if_false, ↓reduceIte]
    refine hK _ _ ?_; clear hK K
    refine Cd.ret (thenR ?_)
    simp (maxSteps := 2000000) (disch := first | (simp only [Z9, Ya, Yb, Yc, Yd, z8_len, Ye, ZN, ZO, tab_len, nb2_b1] <;> omega) | omega | fail) only [↓YS, ↓YT, YU, YV, YW, YX, bare, bareJ, evP, ↓Za, ↓Zb, ↓Zc, ↓Zd, Ze, ↓Zf, ↓Zg, ↓Zh, ↓evOp_callO, evPlan, env0, envN, evOps, evOp, evQs, evQ, evV, setD, pureOp, ev, upd, updL, gate, binW, eqOp, binV, intOp, shOp, boolOp, unV, convV, nilV, fieldAddrV, indexAddrV, extractV, cellAt, cellsAt, findB, setB, fillL, buildV, Value.cells, Zj, Zk, Nat.reduceAdd, Nat.reduceLT, Nat.reduceEqDiff, Nat.reduceMul, Nat.reduceLeDiff, Zl, Zm, if_true, Zn, ↓reduceIte, reduceCtorEq, or_self, Zo, Zp, Zq, Zr, Zs, Zt, Zu, Zv, Zw, Zx, Zy, Zz, ZA, ZB, ZC, ZD, ZE, ZF, ZG, ZH, ZI, ZJ, ZK, ZL, ZM, ZN, ZO, ZP, ZQ, lenV, minV, maxV, hav, stC_one, ZR, ZS, ZT, ZU, ZV, ZW, ZX, ZY, ZZ, Z0, ones_gc, Z1, Z2, Z3, Z4, Z5, Z6, Z7, Z8, Z9, Ya, Yb, Yc, Yd, z8_len, Ye, Yf, wrap_u8, gc_s, gc_x, gc_o, Yg, Yh, Yi, Yj, Yk, Yl, Ym, Yn, Yo, eq_self, Int.reduceLE, Int.reduceLT, Yp, Yq, Yr, Ys, endQ_1, endQ_2, endQ_3, Yt, Yu, Yv, Yw, Yx, sliceV, loV, hiV, Yy, ZL, Int.reduceToNat, Yz, YA, YB, YC, YD, YE, YF, ne_eq, YG, Nat.reduceSub, YH, shOp, YI, bslQ, mksQ, appQ, partsOk, partsCells, delB, YJ, YK, tab_len, YL, YM, YN, YO, eqL_gc, eqL, SameI, strOp, YP, YQ, toList_madeCells_one, apzQ, cvtQ, capV, u8s_ints, bytes_strB, zeroCells_one, Tld43, nb2_b1]
    repeat refine And.intro (by omega) ?_
    refine ⟨[], SubP.of (List.nil_sublist _), lauRes_no ?_ rfl⟩
    unfold mirAns
    rw [if_neg (by simpa using h1)]
  · have hok : lauOk low l = true := by simpa using h1
    have q1 := lauOk_low hok
    have q2 := lauOk_len hok
    have q4 := lauOk_high hok
    refine Cd.skip ?_
    refine thenN ?_
    refine Cd.rs [2, 3] fun K hK => ?_
    simp (maxSteps := 2000000) (disch := first | (simp only [Z9, Ya, Yb, Yc, Yd, z8_len, Ye, ZN, ZO, tab_len, nb2_b1] <;> omega) | omega | fail) only [↓YS, ↓YT, YU, YV, YW, YX, bare, bareJ, evP, ↓Za, ↓Zb, ↓Zc, ↓Zd, Ze, ↓Zf, ↓Zg, ↓Zh, ↓evOp_callO, evPlan, env0, envN, evOps, evOp, evQs, evQ, evV, setD, pureOp, ev, upd, updL, gate, binW, eqOp, binV, intOp, shOp, boolOp, unV, convV, nilV, fieldAddrV, indexAddrV, extractV, cellAt, cellsAt, findB, setB, fillL, buildV, Value.cells, Zj, Zk, Nat.reduceAdd, Nat.reduceLT, Nat.reduceEqDiff, Nat.reduceMul, Nat.reduceLeDiff, Zl, Zm, if_true, Zn, ↓reduceIte, reduceCtorEq, or_self, Zo, Zp, Zq, Zr, Zs, Zt, Zu, Zv, Zw, Zx, Zy, Zz, ZA, ZB, ZC, ZD, ZE, ZF, ZG, ZH, ZI, ZJ, ZK, ZL, ZM, ZN, ZO, ZP, ZQ, lenV, minV, maxV, hav, stC_one, ZR, ZS, ZT, ZU, ZV, ZW, ZX, ZY, ZZ, Z0, ones_gc, Z1, Z2, Z3, Z4, Z5, Z6, Z7, Z8, Z9, Ya, Yb, Yc, Yd, z8_len, Ye, Yf, wrap_u8, gc_s, gc_x, gc_o, Yg, Yh, Yi, Yj, Yk, Yl, Ym, Yn, Yo, eq_self, Int.reduceLE, Int.reduceLT, Yp, Yq, Yr, Ys, endQ_1, endQ_2, endQ_3, Yt, Yu, Yv, Yw, Yx, sliceV, loV, hiV, Yy, ZL, Int.reduceToNat, Yz, YA, YB, YC, YD, YE, YF, ne_eq, YG, Nat.reduceSub, YH, shOp, YI, bslQ, mksQ, appQ, partsOk, partsCells, delB, YJ, YK, tab_len, YL, YM, YN, YO, eqL_gc, eqL, SameI, strOp, YP, YQ, toList_madeCells_one, apzQ, cvtQ, capV, u8s_ints, bytes_strB, zeroCells_one, Tld43, Tst43, nb2_b1]
    repeat refine And.intro (by omega) ?_
    refine callK_newR0 (mirror_c low l _ _ hrd0 hok) (Told.toldW hR) ?_
    intro v2 M2 hv2 nd2 _
    simp only [List.cons_append, List.nil_append] at nd2 ⊢
    simp (maxSteps := 2000000) (disch := first | (simp only [Z9, Ya, Yb, Yc, Yd, z8_len, Ye, ZN, ZO, tab_len, nb2_b1] <;> omega) | omega | fail) only [↓YS, ↓YT, YU, YV, YW, YX, bare, bareJ, evP, ↓Za, ↓Zb, ↓Zc, ↓Zd, Ze, ↓Zf, ↓Zg, ↓Zh, ↓evOp_callO, evPlan, env0, envN, evOps, evOp, evQs, evQ, evV, setD, pureOp, ev, upd, updL, gate, binW, eqOp, binV, intOp, shOp, boolOp, unV, convV, nilV, fieldAddrV, indexAddrV, extractV, cellAt, cellsAt, findB, setB, fillL, buildV, Value.cells, Zj, Zk, Nat.reduceAdd, Nat.reduceLT, Nat.reduceEqDiff, Nat.reduceMul, Nat.reduceLeDiff, Zl, Zm, if_true, Zn, ↓reduceIte, reduceCtorEq, or_self, Zo, Zp, Zq, Zr, Zs, Zt, Zu, Zv, Zw, Zx, Zy, Zz, ZA, ZB, ZC, ZD, ZE, ZF, ZG, ZH, ZI, ZJ, ZK, ZL, ZM, ZN, ZO, ZP, ZQ, lenV, minV, maxV, hav, stC_one, ZR, ZS, ZT, ZU, ZV, ZW, ZX, ZY, ZZ, Z0, ones_gc, Z1, Z2, Z3, Z4, Z5, Z6, Z7, Z8, Z9, Ya, Yb, Yc, Yd, z8_len, Ye, Yf, wrap_u8, gc_s, gc_x, gc_o, Yg, Yh, Yi, Yj, Yk, Yl, Ym, Yn, Yo, eq_self, Int.reduceLE, Int.reduceLT, Yp, Yq, Yr, Ys, endQ_1, endQ_2, endQ_3, Yt, Yu, Yv, Yw, Yx, sliceV, loV, hiV, Yy, ZL, Int.reduceToNat, Yz, YA, YB, YC, YD, YE, YF, ne_eq, YG, Nat.reduceSub, YH, shOp, YI, bslQ, mksQ, appQ, partsOk, partsCells, delB, YJ, YK, tab_len, YL, YM, YN, YO, eqL_gc, eqL, SameI, strOp, YP, YQ, toList_madeCells_one, apzQ, cvtQ, capV, u8s_ints, bytes_strB, zeroCells_one, Tld43, Tst43, nb2_b1]
    repeat refine And.intro (by omega) ?_
    have hrd2 := hv2.reads (R := toldOf M2) fun p hp => mem_toldOf hp
    have ht := limited_c _ _ _ _ hrd2 (by rw [List.length_reverse]; omega) (by unfold mirLow; split <;> omega)
    rw [if_pos (lauOk_mir hok)] at ht
    refine callK_reads0 ht (holds_mem nd2 fun p hp => by simp [hp]) ?_
    obtain ⟨s2, rfl, hs2⟩ := hv2
    obtain ⟨a2, m2, c2, rfl⟩ := hs2.form
    simp (maxSteps := 2000000) (disch := first | (simp only [Z9, Ya, Yb, Yc, Yd, z8_len, Ye, ZN, ZO, tab_len, nb2_b1] <;> omega) | omega | fail) only [↓YS, ↓YT, YU, YV, YW, YX, bare, bareJ, evP, ↓Za, ↓Zb, ↓Zc, ↓Zd, Ze, ↓Zf, ↓Zg, ↓Zh, ↓evOp_callO, evPlan, env0, envN, evOps, evOp, evQs, evQ, evV, setD, pureOp, ev, upd, updL, gate, binW, eqOp, binV, intOp, shOp, boolOp, unV, convV, nilV, fieldAddrV, indexAddrV, extractV, cellAt, cellsAt, findB, setB, fillL, buildV, Value.cells, Zj, Zk, Nat.reduceAdd, Nat.reduceLT, Nat.reduceEqDiff, Nat.reduceMul, Nat.reduceLeDiff, Zl, Zm, if_true, Zn, ↓reduceIte, reduceCtorEq, or_self, Zo, Zp, Zq, Zr, Zs, Zt, Zu, Zv, Zw, Zx, Zy, Zz, ZA, ZB, ZC, ZD, ZE, ZF, ZG, ZH, ZI, ZJ, ZK, ZL, ZM, ZN, ZO, ZP, ZQ, lenV, minV, maxV, hav, stC_one, ZR, ZS, ZT, ZU, ZV, ZW, ZX, ZY, ZZ, Z0, ones_gc, Z1, Z2, Z3, Z4, Z5, Z6, Z7, Z8, Z9, Ya, Yb, Yc, Yd, z8_len, Ye, Yf, wrap_u8, gc_s, gc_x, gc_o, Yg, Yh, Yi, Yj, Yk, Yl, Ym, Yn, Yo, eq_self, Int.reduceLE, Int.reduceLT, Yp, Yq, Yr, Ys, endQ_1, endQ_2, endQ_3, Yt, Yu, Yv, Yw, Yx, sliceV, loV, hiV, Yy, ZL, Int.reduceToNat, Yz, YA, YB, YC, YD, YE, YF, ne_eq, YG, Nat.reduceSub, YH, shOp, YI, bslQ, mksQ, appQ, partsOk, partsCells, delB, YJ, YK, tab_len, YL, YM, YN, YO, eqL_gc, eqL, SameI, strOp, YP, YQ, toList_madeCells_one, apzQ, cvtQ, capV, u8s_ints, bytes_strB, zeroCells_one, Tld43, Tst43, nb2_b1]
    repeat refine And.intro (by omega) ?_
    repeat refine And.intro (by omega) ?_
    intro g
    simp only [List.map_cons, List.map_nil, updL, upd, Nat.reduceEqDiff, if_true, if_false, ↓reduceIte]
    refine hK _ _ ?_; clear hK K
    refine Cd.ret ?_
    simp (maxSteps := 2000000) (disch := first | (simp only [Z9, Ya, Yb, Yc, Yd, z8_len, Ye, ZN, ZO, tab_len, nb2_b1] <;> omega) | omega | fail) only [↓YS, ↓YT, YU, YV, YW, YX, bare, bareJ, evP, ↓Za, ↓Zb, ↓Zc, ↓Zd, Ze, ↓Zf, ↓Zg, ↓Zh, ↓evOp_callO, evPlan, env0, envN, evOps, evOp, evQs, evQ, evV, setD, pureOp, ev, upd, updL, gate, binW, eqOp, binV, intOp, shOp, boolOp, unV, convV, nilV, fieldAddrV, indexAddrV, extractV, cellAt, cellsAt, findB, setB, fillL, buildV, Value.cells, Zj, Zk, Nat.reduceAdd, Nat.reduceLT, Nat.reduceEqDiff, Nat.reduceMul, Nat.reduceLeDiff, Zl, Zm, if_true, Zn, ↓reduceIte, reduceCtorEq, or_self, Zo, Zp, Zq, Zr, Zs, Zt, Zu, Zv, Zw, Zx, Zy, Zz, ZA, ZB, ZC, ZD, ZE, ZF, ZG, ZH, ZI, ZJ, ZK, ZL, ZM, ZN, ZO, ZP, ZQ, lenV, minV, maxV, hav, stC_one, ZR, ZS, ZT, ZU, ZV, ZW, ZX, ZY, ZZ, Z0, ones_gc, Z1, Z2, Z3, Z4, Z5, Z6, Z7, Z8, Z9, Ya, Yb, Yc, Yd, z8_len, Ye, Yf, wrap_u8, gc_s, gc_x, gc_o, Yg, Yh, Yi, Yj, Yk, Yl, Ym, Yn, Yo, eq_self, Int.reduceLE, Int.reduceLT, Yp, Yq, Yr, Ys, endQ_1, endQ_2, endQ_3, Yt, Yu, Yv, Yw, Yx, sliceV, loV, hiV, Yy, ZL, Int.reduceToNat, Yz, YA, YB, YC, YD, YE, YF, ne_eq, YG, Nat.reduceSub, YH, shOp, YI, bslQ, mksQ, appQ, partsOk, partsCells, delB, YJ, YK, tab_len, YL, YM, YN, YO, eqL_gc, eqL, SameI, strOp, YP, YQ, toList_madeCells_one, apzQ, cvtQ, capV, u8s_ints, bytes_strB, zeroCells_one, Tld43, nb2_b1]
    repeat refine And.intro (by omega) ?_
    refine ⟨M2, SubP.of (List.Sublist.cons _ (List.Sublist.cons _ (List.Sublist.refl _))), ?_⟩
    unfold mirAns
    rw [if_pos hok]
    exact ⟨_, rfl, _, rfl, hs2⟩
end

end Go.Proofs
