/-
  What the functions of this part hand back: each as a plain function of its arguments. Conditions: none.
-/
import Derived.Test.YtclfpogolgindabFx
import Derived.Test.YtclfpogolgindabUcrossings
import Derived.Test.YtclfpogolgindabUorder
import Derived.Test.YtclfpogolgindabUplaces
namespace Go.Proofs
open Go.W8
set_option linter.unusedVariables false
set_option linter.unusedSimpArgs false
set_option linter.unusedSectionVars false
set_option maxRecDepth 8000
set_option maxHeartbeats 4000000
theorem nodup4 {a b c d : Nat} {x y z u : List Value} (h : ([(a, x), (b, y), (c, z), (d, u)].map (·.1)).Nodup) : (¬ a = b ∧ ¬ a = c ∧ ¬ a = d) ∧ (¬ b = c ∧ ¬ b = d) ∧ ¬ c = d := by
  simp at h
  exact h

section
variable (n : Nat) (x o : List Int) (hx : Bytes8 x) (ho : Bytes8 o) (hn : n ≤ 8) (px : IsPerm x n) (po : IsPerm o n)
include hx ho hn px po
theorem crossings_c : GivesX Try.prog 117 #[.agg (gc (n : Int) x o).toArray] [] [] (Sl 3 (crTo n x o n)) := by
  have hl := hx.len
  have hm := ho.len
  have pl := plc_len x n
  have ql := plc_len o n
  skip
  refine GivesX.of (callable_of Try.func117 rfl (by decide)) ?_ fun w hnd hlt hR => ?_
  · simp
  refine acall_of (N := 83) (c := _) (rs := [.tmp 2]) (args := [_]) Try.func117 rfl (by decide) rfl rfl (Nat.le_of_ble_eq_true rfl) ?_
  refine Cd.rs [1] fun K hK => ?_
  simp (maxSteps := 2000000) (disch := first | (simp only [Z9, Ya, Yb, Yc, Yd, z8_len, Ye, ZN, ZO, tab_len, hl, hm, pl, ql] <;> omega) | omega | fail) only [↓YS, ↓YT, YU, YV, YW, YX, bare, bareJ, evP, ↓Za, ↓Zb, ↓Zc, ↓Zd, Ze, ↓Zf, ↓Zg, ↓Zh, evPlan, env0, envN, evOps, evOp, evQs, evQ, evV, setD, pureOp, ev, upd, updL, gate, binW, eqOp, binV, intOp, shOp, boolOp, unV, convV, nilV, fieldAddrV, indexAddrV, extractV, cellAt, cellsAt, findB, setB, fillL, buildV, Value.cells, Zj, Zk, Nat.reduceAdd, Nat.reduceLT, Nat.reduceEqDiff, Nat.reduceMul, Nat.reduceLeDiff, Zl, Zm, if_true, Zn, ↓reduceIte, reduceCtorEq, or_self, Zo, Zp, Zq, Zr, Zs, Zt, Zu, Zv, Zw, Zx, Zy, Zz, ZA, ZB, ZC, ZD, ZE, ZF, ZG, ZH, ZI, ZJ, ZK, ZL, ZM, ZN, ZO, ZP, ZQ, lenV, minV, maxV, hav, stC_one, ZR, ZS, ZT, ZU, ZV, ZW, ZX, ZY, ZZ, Z0, ones_gc, Z1, Z2, Z3, Z4, Z5, Z6, Z7, Z8, Z9, Ya, Yb, Yc, Yd, z8_len, Ye, Yf, wrap_u8, gc_s, gc_x, gc_o, Yg, Yh, Yi, Yj, Yk, Yl, Ym, Yn, Yo, eq_self, Int.reduceLE, Int.reduceLT, Yp, Yq, Yr, Ys, endQ_1, endQ_2, endQ_3, Yt, Yu, Yv, Yw, Yx, sliceV, loV, hiV, Yy, ZL, Int.reduceToNat, Yz, YA, YB, YC, YD, YE, YF, ne_eq, YG, Nat.reduceSub, YH, shOp, YI, bslQ, mksQ, appQ, partsOk, partsCells, delB, YJ, YK, tab_len, YL, YM, YN, YO, eqL_gc, eqL, SameI, YP, YQ, hl, hm, pl, ql]
  repeat refine And.intro (by omega) ?_
  intro b1 hb1
  try simp (maxSteps := 2000000) (disch := first | (simp only [Z9, Ya, Yb, Yc, Yd, z8_len, Ye, ZN, ZO, tab_len, hl, hm, pl, ql] <;> omega) | omega | fail) only [↓YS, ↓YT, YU, YV, YW, YX, bare, bareJ, evP, ↓Za, ↓Zb, ↓Zc, ↓Zd, Ze, ↓Zf, ↓Zg, ↓Zh, evPlan, env0, envN, evOps, evOp, evQs, evQ, evV, setD, pureOp, ev, upd, updL, gate, binW, eqOp, binV, intOp, shOp, boolOp, unV, convV, nilV, fieldAddrV, indexAddrV, extractV, cellAt, cellsAt, findB, setB, fillL, buildV, Value.cells, Zj, Zk, Nat.reduceAdd, Nat.reduceLT, Nat.reduceEqDiff, Nat.reduceMul, Nat.reduceLeDiff, Zl, Zm, if_true, Zn, ↓reduceIte, reduceCtorEq, or_self, Zo, Zp, Zq, Zr, Zs, Zt, Zu, Zv, Zw, Zx, Zy, Zz, ZA, ZB, ZC, ZD, ZE, ZF, ZG, ZH, ZI, ZJ, ZK, ZL, ZM, ZN, ZO, ZP, ZQ, lenV, minV, maxV, hav, stC_one, ZR, ZS, ZT, ZU, ZV, ZW, ZX, ZY, ZZ, Z0, ones_gc, Z1, Z2, Z3, Z4, Z5, Z6, Z7, Z8, Z9, Ya, Yb, Yc, Yd, z8_len, Ye, Yf, wrap_u8, gc_s, gc_x, gc_o, Yg, Yh, Yi, Yj, Yk, Yl, Ym, Yn, Yo, eq_self, Int.reduceLE, Int.reduceLT, Yp, Yq, Yr, Ys, endQ_1, endQ_2, endQ_3, Yt, Yu, Yv, Yw, Yx, sliceV, loV, hiV, Yy, ZL, Int.reduceToNat, Yz, YA, YB, YC, YD, YE, YF, ne_eq, YG, Nat.reduceSub, YH, shOp, YI, bslQ, mksQ, appQ, partsOk, partsCells, delB, YJ, YK, tab_len, YL, YM, YN, YO, eqL_gc, eqL, SameI, YP, YQ, hl, hm, pl, ql]
  repeat refine And.intro (by omega) ?_
  intro g
  simp only [List.map_cons, List.map_nil, updL, upd, Nat.reduceEqDiff, if_true, if_false, ↓reduceIte]
  refine hK _ _ ?_; clear hK K
  refine Cd.ps [1, 3, 4, 5] (Plan.take 0 (Plan.take 1 (Plan.take 2 (Plan.take 3 (Plan.take 4 (Plan.take 5 (Plan.take 6 (Plan.take 7 (Plan.more 8 (Plan.more 9 (Plan.one 10 (Plan.one 11 (Plan.one 12 (Plan.take 13 (Plan.done))))) (Plan.one 10 (Plan.one 9 (Plan.one 11 (Plan.one 12 (Plan.take 13 (Plan.done))))))) (Plan.more 9 (Plan.more 8 (Plan.one 10 (Plan.one 11 (Plan.one 12 (Plan.take 13 (Plan.done))))) (Plan.one 10 (Plan.more 8 (Plan.one 11 (Plan.one 12 (Plan.take 13 (Plan.done)))) (Plan.one 11 (Plan.more 8 (Plan.one 12 (Plan.take 13 (Plan.done))) (Plan.one 12 (Plan.one 8 (Plan.take 13 (Plan.done))))))))) (Plan.one 10 (Plan.more 8 (Plan.one 9 (Plan.one 11 (Plan.one 12 (Plan.take 13 (Plan.done))))) (Plan.one 9 (Plan.more 8 (Plan.one 11 (Plan.one 12 (Plan.take 13 (Plan.done)))) (Plan.one 11 (Plan.more 8 (Plan.one 12 (Plan.take 13 (Plan.done))) (Plan.one 12 (Plan.one 8 (Plan.take 13 (Plan.done)))))))))))))))))))) fol (by kernel_rfl) (Nat.le_of_ble_eq_true rfl) fun K hK => ?_
  have J : ∀ g c1 c2 c3 M, [(c3, []), (c2, ints .i64 (plc o n)), (c1, ints .i64 (plc x n)), (b1, gc (n : Int) x o)].Perm M → K (updL [(1, .pointer (some ⟨b1, 0, none⟩)), (3, .pointer (some ⟨c1, 0, none⟩)), (4, .pointer (some ⟨c2, 0, none⟩)), (5, .slice (some ⟨c3, 0, none⟩) 0 0)] g) M := by
    intro g c1 c2 c3 M hM
    refine hK _ _ (Cd.turn hM ?_); clear hK K
    clear hM
    refine Cd.seq ?_
    refine Cd.nodup fun hnd => ?_
    obtain ⟨⟨d1, d2, d3⟩, ⟨d4, d5⟩, d6⟩ := nodup4 hnd
    clear hnd
    skip
    refine Cd.rs [1, 3, 4, 5, 21, 22] fun K hK => ?_
    simp (maxSteps := 2000000) (disch := first | (simp only [Z9, Ya, Yb, Yc, Yd, z8_len, Ye, ZN, ZO, tab_len, hl, hm, pl, ql, d1, d2, d3, d4, d5, d6] <;> omega) | omega | fail) only [↓YS, ↓YT, YU, YV, YW, YX, bare, bareJ, evP, ↓Za, ↓Zb, ↓Zc, ↓Zd, Ze, ↓Zf, ↓Zg, ↓Zh, evPlan, env0, envN, evOps, evOp, evQs, evQ, evV, setD, pureOp, ev, upd, updL, gate, binW, eqOp, binV, intOp, shOp, boolOp, unV, convV, nilV, fieldAddrV, indexAddrV, extractV, cellAt, cellsAt, findB, setB, fillL, buildV, Value.cells, Zj, Zk, Nat.reduceAdd, Nat.reduceLT, Nat.reduceEqDiff, Nat.reduceMul, Nat.reduceLeDiff, Zl, Zm, if_true, Zn, ↓reduceIte, reduceCtorEq, or_self, Zo, Zp, Zq, Zr, Zs, Zt, Zu, Zv, Zw, Zx, Zy, Zz, ZA, ZB, ZC, ZD, ZE, ZF, ZG, ZH, ZI, ZJ, ZK, ZL, ZM, ZN, ZO, ZP, ZQ, lenV, minV, maxV, hav, stC_one, ZR, ZS, ZT, ZU, ZV, ZW, ZX, ZY, ZZ, Z0, ones_gc, Z1, Z2, Z3, Z4, Z5, Z6, Z7, Z8, Z9, Ya, Yb, Yc, Yd, z8_len, Ye, Yf, wrap_u8, gc_s, gc_x, gc_o, Yg, Yh, Yi, Yj, Yk, Yl, Ym, Yn, Yo, eq_self, Int.reduceLE, Int.reduceLT, Yp, Yq, Yr, Ys, endQ_1, endQ_2, endQ_3, Yt, Yu, Yv, Yw, Yx, sliceV, loV, hiV, Yy, ZL, Int.reduceToNat, Yz, YA, YB, YC, YD, YE, YF, ne_eq, YG, Nat.reduceSub, YH, shOp, YI, bslQ, mksQ, appQ, partsOk, partsCells, delB, YJ, YK, tab_len, YL, YM, YN, YO, eqL_gc, eqL, SameI, YP, YQ, Tld27, hl, hm, pl, ql, d1, d2, d3, d4, d5, d6]
    refine callK_gives (n_c _ _ _ hl hm) ?_
    simp (maxSteps := 2000000) (disch := first | (simp only [Z9, Ya, Yb, Yc, Yd, z8_len, Ye, ZN, ZO, tab_len, hl, hm, pl, ql, d1, d2, d3, d4, d5, d6] <;> omega) | omega | fail) only [↓YS, ↓YT, YU, YV, YW, YX, bare, bareJ, evP, ↓Za, ↓Zb, ↓Zc, ↓Zd, Ze, ↓Zf, ↓Zg, ↓Zh, evPlan, env0, envN, evOps, evOp, evQs, evQ, evV, setD, pureOp, ev, upd, updL, gate, binW, eqOp, binV, intOp, shOp, boolOp, unV, convV, nilV, fieldAddrV, indexAddrV, extractV, cellAt, cellsAt, findB, setB, fillL, buildV, Value.cells, Zj, Zk, Nat.reduceAdd, Nat.reduceLT, Nat.reduceEqDiff, Nat.reduceMul, Nat.reduceLeDiff, Zl, Zm, if_true, Zn, ↓reduceIte, reduceCtorEq, or_self, Zo, Zp, Zq, Zr, Zs, Zt, Zu, Zv, Zw, Zx, Zy, Zz, ZA, ZB, ZC, ZD, ZE, ZF, ZG, ZH, ZI, ZJ, ZK, ZL, ZM, ZN, ZO, ZP, ZQ, lenV, minV, maxV, hav, stC_one, ZR, ZS, ZT, ZU, ZV, ZW, ZX, ZY, ZZ, Z0, ones_gc, Z1, Z2, Z3, Z4, Z5, Z6, Z7, Z8, Z9, Ya, Yb, Yc, Yd, z8_len, Ye, Yf, wrap_u8, gc_s, gc_x, gc_o, Yg, Yh, Yi, Yj, Yk, Yl, Ym, Yn, Yo, eq_self, Int.reduceLE, Int.reduceLT, Yp, Yq, Yr, Ys, endQ_1, endQ_2, endQ_3, Yt, Yu, Yv, Yw, Yx, sliceV, loV, hiV, Yy, ZL, Int.reduceToNat, Yz, YA, YB, YC, YD, YE, YF, ne_eq, YG, Nat.reduceSub, YH, shOp, YI, bslQ, mksQ, appQ, partsOk, partsCells, delB, YJ, YK, tab_len, YL, YM, YN, YO, eqL_gc, eqL, SameI, YP, YQ, Tld27, hl, hm, pl, ql, d1, d2, d3, d4, d5, d6]
    repeat refine And.intro (by omega) ?_
    intro g
    simp only [List.map_cons, List.map_nil, updL, upd, Nat.reduceEqDiff, if_true, if_false, ↓reduceIte]
    refine hK _ _ ?_; clear hK K
    refine Cd.block ?_
    refine Cd.loop (fun m ρ M => ∃ g i b len cap rest, i + m = n ∧ (crTo n x o i).length = len * 3 ∧ len ≤ cap ∧ (ints .i64 (crTo n x o i) ++ rest).length = cap * 3 ∧ ρ = updL [(1, .pointer (some ⟨b1, 0, none⟩)), (3, .pointer (some ⟨c1, 0, none⟩)), (4, .pointer (some ⟨c2, 0, none⟩)), (5, .slice (some ⟨b, 0, none⟩) len cap), (21, .int .i64 (n : Int)), (22, .int .i64 (i : Int))] g ∧
      List.Sublist [(b, ints .i64 (crTo n x o i) ++ rest), (c2, ints .i64 (plc o n)), (c1, ints .i64 (plc x n)), (b1, gc (n : Int) x o)] M) n ⟨_, 0, c3, 0, 0, [], Nat.zero_add _, rfl, Nat.le_refl _, rfl, rfl, List.Sublist.refl _⟩ ?_
    rintro m ρ M ⟨g, i, b, len, cap, rest, hi, hlen, hcap, hrest, rfl, hM⟩
    refine Cd.drop hM ?_
    clear hM M
    refine Cd.nodup fun hnd => ?_
    obtain ⟨⟨f1, f2, f3⟩, _⟩ := nodup4 hnd
    clear hnd
    skip
    refine Cd.rs [1, 3, 4, 5, 21, 22, 23] fun K hK => ?_
    simp (maxSteps := 2000000) (disch := first | (simp only [Z9, Ya, Yb, Yc, Yd, z8_len, Ye, ZN, ZO, tab_len, hl, hm, pl, ql, d1, d2, d3, d4, d5, d6, f1, f2, f3] <;> omega) | omega | fail) only [↓YS, ↓YT, YU, YV, YW, YX, bare, bareJ, evP, ↓Za, ↓Zb, ↓Zc, ↓Zd, Ze, ↓Zf, ↓Zg, ↓Zh, evPlan, env0, envN, evOps, evOp, evQs, evQ, evV, setD, pureOp, ev, upd, updL, gate, binW, eqOp, binV, intOp, shOp, boolOp, unV, convV, nilV, fieldAddrV, indexAddrV, extractV, cellAt, cellsAt, findB, setB, fillL, buildV, Value.cells, Zj, Zk, Nat.reduceAdd, Nat.reduceLT, Nat.reduceEqDiff, Nat.reduceMul, Nat.reduceLeDiff, Zl, Zm, if_true, Zn, ↓reduceIte, reduceCtorEq, or_self, Zo, Zp, Zq, Zr, Zs, Zt, Zu, Zv, Zw, Zx, Zy, Zz, ZA, ZB, ZC, ZD, ZE, ZF, ZG, ZH, ZI, ZJ, ZK, ZL, ZM, ZN, ZO, ZP, ZQ, lenV, minV, maxV, hav, stC_one, ZR, ZS, ZT, ZU, ZV, ZW, ZX, ZY, ZZ, Z0, ones_gc, Z1, Z2, Z3, Z4, Z5, Z6, Z7, Z8, Z9, Ya, Yb, Yc, Yd, z8_len, Ye, Yf, wrap_u8, gc_s, gc_x, gc_o, Yg, Yh, Yi, Yj, Yk, Yl, Ym, Yn, Yo, eq_self, Int.reduceLE, Int.reduceLT, Yp, Yq, Yr, Ys, endQ_1, endQ_2, endQ_3, Yt, Yu, Yv, Yw, Yx, sliceV, loV, hiV, Yy, ZL, Int.reduceToNat, Yz, YA, YB, YC, YD, YE, YF, ne_eq, YG, Nat.reduceSub, YH, shOp, YI, bslQ, mksQ, appQ, partsOk, partsCells, delB, YJ, YK, tab_len, YL, YM, YN, YO, eqL_gc, eqL, SameI, YP, YQ, hl, hm, pl, ql, d1, d2, d3, d4, d5, d6, f1, f2, f3]
    repeat refine And.intro (by omega) ?_
    intro g
    simp only [List.map_cons, List.map_nil, updL, upd, Nat.reduceEqDiff, if_true, if_false, ↓reduceIte]
    refine hK _ _ ?_; clear hK K
    refine Cd.seq ?_
    refine Cd.condd rfl (fun h1 => ?_) (fun h1 => ?_)
    · refine Cd.skip ?_
      refine thenN ?_
      refine Cd.seq ?_
      refine Cd.block ?_
      refine Cd.rs [1, 3, 4, 5, 6, 21, 22] fun K hK => ?_
      simp (maxSteps := 2000000) (disch := first | (simp only [Z9, Ya, Yb, Yc, Yd, z8_len, Ye, ZN, ZO, tab_len, hl, hm, pl, ql, d1, d2, d3, d4, d5, d6, f1, f2, f3] <;> omega) | omega | fail) only [↓YS, ↓YT, YU, YV, YW, YX, bare, bareJ, evP, ↓Za, ↓Zb, ↓Zc, ↓Zd, Ze, ↓Zf, ↓Zg, ↓Zh, evPlan, env0, envN, evOps, evOp, evQs, evQ, evV, setD, pureOp, ev, upd, updL, gate, binW, eqOp, binV, intOp, shOp, boolOp, unV, convV, nilV, fieldAddrV, indexAddrV, extractV, cellAt, cellsAt, findB, setB, fillL, buildV, Value.cells, Zj, Zk, Nat.reduceAdd, Nat.reduceLT, Nat.reduceEqDiff, Nat.reduceMul, Nat.reduceLeDiff, Zl, Zm, if_true, Zn, ↓reduceIte, reduceCtorEq, or_self, Zo, Zp, Zq, Zr, Zs, Zt, Zu, Zv, Zw, Zx, Zy, Zz, ZA, ZB, ZC, ZD, ZE, ZF, ZG, ZH, ZI, ZJ, ZK, ZL, ZM, ZN, ZO, ZP, ZQ, lenV, minV, maxV, hav, stC_one, ZR, ZS, ZT, ZU, ZV, ZW, ZX, ZY, ZZ, Z0, ones_gc, Z1, Z2, Z3, Z4, Z5, Z6, Z7, Z8, Z9, Ya, Yb, Yc, Yd, z8_len, Ye, Yf, wrap_u8, gc_s, gc_x, gc_o, Yg, Yh, Yi, Yj, Yk, Yl, Ym, Yn, Yo, eq_self, Int.reduceLE, Int.reduceLT, Yp, Yq, Yr, Ys, endQ_1, endQ_2, endQ_3, Yt, Yu, Yv, Yw, Yx, sliceV, loV, hiV, Yy, ZL, Int.reduceToNat, Yz, YA, YB, YC, YD, YE, YF, ne_eq, YG, Nat.reduceSub, YH, shOp, YI, bslQ, mksQ, appQ, partsOk, partsCells, delB, YJ, YK, tab_len, YL, YM, YN, YO, eqL_gc, eqL, SameI, YP, YQ, hl, hm, pl, ql, d1, d2, d3, d4, d5, d6, f1, f2, f3]
      repeat refine And.intro (by omega) ?_
      intro g
      simp only [List.map_cons, List.map_nil, updL, upd, Nat.reduceEqDiff, if_true, if_false, ↓reduceIte]
      refine hK _ _ ?_; clear hK K
      refine Cd.rs [1, 3, 4, 5, 6, 21, 22, 26, 27] fun K hK => ?_
      simp (maxSteps := 2000000) (disch := first | (simp only [Z9, Ya, Yb, Yc, Yd, z8_len, Ye, ZN, ZO, tab_len, hl, hm, pl, ql, d1, d2, d3, d4, d5, d6, f1, f2, f3] <;> omega) | omega | fail) only [↓YS, ↓YT, YU, YV, YW, YX, bare, bareJ, evP, ↓Za, ↓Zb, ↓Zc, ↓Zd, Ze, ↓Zf, ↓Zg, ↓Zh, evPlan, env0, envN, evOps, evOp, evQs, evQ, evV, setD, pureOp, ev, upd, updL, gate, binW, eqOp, binV, intOp, shOp, boolOp, unV, convV, nilV, fieldAddrV, indexAddrV, extractV, cellAt, cellsAt, findB, setB, fillL, buildV, Value.cells, Zj, Zk, Nat.reduceAdd, Nat.reduceLT, Nat.reduceEqDiff, Nat.reduceMul, Nat.reduceLeDiff, Zl, Zm, if_true, Zn, ↓reduceIte, reduceCtorEq, or_self, Zo, Zp, Zq, Zr, Zs, Zt, Zu, Zv, Zw, Zx, Zy, Zz, ZA, ZB, ZC, ZD, ZE, ZF, ZG, ZH, ZI, ZJ, ZK, ZL, ZM, ZN, ZO, ZP, ZQ, lenV, minV, maxV, hav, stC_one, ZR, ZS, ZT, ZU, ZV, ZW, ZX, ZY, ZZ, Z0, ones_gc, Z1, Z2, Z3, Z4, Z5, Z6, Z7, Z8, Z9, Ya, Yb, Yc, Yd, z8_len, Ye, Yf, wrap_u8, gc_s, gc_x, gc_o, Yg, Yh, Yi, Yj, Yk, Yl, Ym, Yn, Yo, eq_self, Int.reduceLE, Int.reduceLT, Yp, Yq, Yr, Ys, endQ_1, endQ_2, endQ_3, Yt, Yu, Yv, Yw, Yx, sliceV, loV, hiV, Yy, ZL, Int.reduceToNat, Yz, YA, YB, YC, YD, YE, YF, ne_eq, YG, Nat.reduceSub, YH, shOp, YI, bslQ, mksQ, appQ, partsOk, partsCells, delB, YJ, YK, tab_len, YL, YM, YN, YO, eqL_gc, eqL, SameI, YP, YQ, Tld27, hl, hm, pl, ql, d1, d2, d3, d4, d5, d6, f1, f2, f3]
      refine callK_gives (n_c _ _ _ hl hm) ?_
      simp (maxSteps := 2000000) (disch := first | (simp only [Z9, Ya, Yb, Yc, Yd, z8_len, Ye, ZN, ZO, tab_len, hl, hm, pl, ql, d1, d2, d3, d4, d5, d6, f1, f2, f3] <;> omega) | omega | fail) only [↓YS, ↓YT, YU, YV, YW, YX, bare, bareJ, evP, ↓Za, ↓Zb, ↓Zc, ↓Zd, Ze, ↓Zf, ↓Zg, ↓Zh, evPlan, env0, envN, evOps, evOp, evQs, evQ, evV, setD, pureOp, ev, upd, updL, gate, binW, eqOp, binV, intOp, shOp, boolOp, unV, convV, nilV, fieldAddrV, indexAddrV, extractV, cellAt, cellsAt, findB, setB, fillL, buildV, Value.cells, Zj, Zk, Nat.reduceAdd, Nat.reduceLT, Nat.reduceEqDiff, Nat.reduceMul, Nat.reduceLeDiff, Zl, Zm, if_true, Zn, ↓reduceIte, reduceCtorEq, or_self, Zo, Zp, Zq, Zr, Zs, Zt, Zu, Zv, Zw, Zx, Zy, Zz, ZA, ZB, ZC, ZD, ZE, ZF, ZG, ZH, ZI, ZJ, ZK, ZL, ZM, ZN, ZO, ZP, ZQ, lenV, minV, maxV, hav, stC_one, ZR, ZS, ZT, ZU, ZV, ZW, ZX, ZY, ZZ, Z0, ones_gc, Z1, Z2, Z3, Z4, Z5, Z6, Z7, Z8, Z9, Ya, Yb, Yc, Yd, z8_len, Ye, Yf, wrap_u8, gc_s, gc_x, gc_o, Yg, Yh, Yi, Yj, Yk, Yl, Ym, Yn, Yo, eq_self, Int.reduceLE, Int.reduceLT, Yp, Yq, Yr, Ys, endQ_1, endQ_2, endQ_3, Yt, Yu, Yv, Yw, Yx, sliceV, loV, hiV, Yy, ZL, Int.reduceToNat, Yz, YA, YB, YC, YD, YE, YF, ne_eq, YG, Nat.reduceSub, YH, shOp, YI, bslQ, mksQ, appQ, partsOk, partsCells, delB, YJ, YK, tab_len, YL, YM, YN, YO, eqL_gc, eqL, SameI, YP, YQ, Tld27, hl, hm, pl, ql, d1, d2, d3, d4, d5, d6, f1, f2, f3]
      repeat refine And.intro (by omega) ?_
      intro g
      simp only [List.map_cons, List.map_nil, updL, upd, Nat.reduceEqDiff, if_true, if_false, ↓reduceIte]
      refine hK _ _ ?_; clear hK K
      refine Cd.block ?_
      refine Cd.loop (fun m ρ M => ∃ g r b len cap rest, r + m = n ∧ (crTo n x o i ++ crRow n x o i r).length = len * 3 ∧ len ≤ cap ∧ (ints .i64 (crTo n x o i ++ crRow n x o i r) ++ rest).length = cap * 3 ∧ ρ = updL [(1, .pointer (some ⟨b1, 0, none⟩)), (3, .pointer (some ⟨c1, 0, none⟩)), (4, .pointer (some ⟨c2, 0, none⟩)), (5, .slice (some ⟨b, 0, none⟩) len cap), (6, .int .i64 (i : Int)), (21, .int .i64 (n : Int)), (22, .int .i64 (i : Int)), (26, .int .i64 (n : Int)), (27, .int .i64 (r : Int))] g ∧
        List.Sublist [(b, ints .i64 (crTo n x o i ++ crRow n x o i r) ++ rest), (c2, ints .i64 (plc o n)), (c1, ints .i64 (plc x n)), (b1, gc (n : Int) x o)] M) n ⟨_, 0, b, len, cap, rest, Nat.zero_add _, by rw [show crRow n x o i 0 = [] from rfl, List.append_nil]; exact hlen, hcap, by rw [show crRow n x o i 0 = [] from rfl, List.append_nil]; exact hrest, rfl, by rw [show crRow n x o i 0 = [] from rfl, List.append_nil]; exact List.Sublist.refl _⟩ ?_
      rintro m' ρ M ⟨g, r, b, len, cap, rest, hr, hlen, hcap, hrest, rfl, hM⟩
      refine Cd.drop hM ?_
      clear hM M
      refine Cd.nodup fun hnd => ?_
      obtain ⟨⟨k1, k2, k3⟩, _⟩ := nodup4 hnd
      clear hnd
      skip
      refine Cd.rs [1, 3, 4, 5, 6, 21, 22, 26, 27, 28] fun K hK => ?_
      simp (maxSteps := 2000000) (disch := first | (simp only [Z9, Ya, Yb, Yc, Yd, z8_len, Ye, ZN, ZO, tab_len, hl, hm, pl, ql, d1, d2, d3, d4, d5, d6, f1, f2, f3, k1, k2, k3] <;> omega) | omega | fail) only [↓YS, ↓YT, YU, YV, YW, YX, bare, bareJ, evP, ↓Za, ↓Zb, ↓Zc, ↓Zd, Ze, ↓Zf, ↓Zg, ↓Zh, evPlan, env0, envN, evOps, evOp, evQs, evQ, evV, setD, pureOp, ev, upd, updL, gate, binW, eqOp, binV, intOp, shOp, boolOp, unV, convV, nilV, fieldAddrV, indexAddrV, extractV, cellAt, cellsAt, findB, setB, fillL, buildV, Value.cells, Zj, Zk, Nat.reduceAdd, Nat.reduceLT, Nat.reduceEqDiff, Nat.reduceMul, Nat.reduceLeDiff, Zl, Zm, if_true, Zn, ↓reduceIte, reduceCtorEq, or_self, Zo, Zp, Zq, Zr, Zs, Zt, Zu, Zv, Zw, Zx, Zy, Zz, ZA, ZB, ZC, ZD, ZE, ZF, ZG, ZH, ZI, ZJ, ZK, ZL, ZM, ZN, ZO, ZP, ZQ, lenV, minV, maxV, hav, stC_one, ZR, ZS, ZT, ZU, ZV, ZW, ZX, ZY, ZZ, Z0, ones_gc, Z1, Z2, Z3, Z4, Z5, Z6, Z7, Z8, Z9, Ya, Yb, Yc, Yd, z8_len, Ye, Yf, wrap_u8, gc_s, gc_x, gc_o, Yg, Yh, Yi, Yj, Yk, Yl, Ym, Yn, Yo, eq_self, Int.reduceLE, Int.reduceLT, Yp, Yq, Yr, Ys, endQ_1, endQ_2, endQ_3, Yt, Yu, Yv, Yw, Yx, sliceV, loV, hiV, Yy, ZL, Int.reduceToNat, Yz, YA, YB, YC, YD, YE, YF, ne_eq, YG, Nat.reduceSub, YH, shOp, YI, bslQ, mksQ, appQ, partsOk, partsCells, delB, YJ, YK, tab_len, YL, YM, YN, YO, eqL_gc, eqL, SameI, YP, YQ, hl, hm, pl, ql, d1, d2, d3, d4, d5, d6, f1, f2, f3, k1, k2, k3]
      repeat refine And.intro (by omega) ?_
      intro g
      simp only [List.map_cons, List.map_nil, updL, upd, Nat.reduceEqDiff, if_true, if_false, ↓reduceIte]
      refine hK _ _ ?_; clear hK K
      refine Cd.seq ?_
      refine Cd.condd rfl (fun h2 => ?_) (fun h2 => ?_)
      · refine Cd.skip ?_
        refine thenN ?_
        have e0 := plc_get (x := x) (n := n) (r := r) (by omega)
        have e2 := plc_get (x := o) (n := n) (r := r) (by omega)
        have v1 := bytes_get hx (i := i) (by omega)
        have v2 := bytes_get ho (i := i) (by omega)
        skip
        refine Cd.midq (fun ρ M => ∃ g b len cap rest, (crTo n x o i ++ crRow n x o i (r + 1)).length = len * 3 ∧ len ≤ cap ∧ (ints .i64 (crTo n x o i ++ crRow n x o i (r + 1)) ++ rest).length = cap * 3 ∧ ρ = updL [(1, .pointer (some ⟨b1, 0, none⟩)), (3, .pointer (some ⟨c1, 0, none⟩)), (4, .pointer (some ⟨c2, 0, none⟩)), (5, .slice (some ⟨b, 0, none⟩) len cap), (6, .int .i64 (i : Int)), (21, .int .i64 (n : Int)), (22, .int .i64 (i : Int)), (26, .int .i64 (n : Int)), (27, .int .i64 (r : Int))] g ∧
          List.Sublist [(b, ints .i64 (crTo n x o i ++ crRow n x o i (r + 1)) ++ rest), (c2, ints .i64 (plc o n)), (c1, ints .i64 (plc x n)), (b1, gc (n : Int) x o)] M) ?_ ?_
        · refine Cd.block ?_
          refine Cd.rs [1, 3, 4, 5, 6, 7, 21, 22, 26, 27] fun K hK => ?_
          simp (maxSteps := 2000000) (disch := first | (simp only [Z9, Ya, Yb, Yc, Yd, z8_len, Ye, ZN, ZO, tab_len, hl, hm, pl, ql, d1, d2, d3, d4, d5, d6, f1, f2, f3, k1, k2, k3, e0, e2] <;> omega) | omega | fail) only [↓YS, ↓YT, YU, YV, YW, YX, bare, bareJ, evP, ↓Za, ↓Zb, ↓Zc, ↓Zd, Ze, ↓Zf, ↓Zg, ↓Zh, evPlan, env0, envN, evOps, evOp, evQs, evQ, evV, setD, pureOp, ev, upd, updL, gate, binW, eqOp, binV, intOp, shOp, boolOp, unV, convV, nilV, fieldAddrV, indexAddrV, extractV, cellAt, cellsAt, findB, setB, fillL, buildV, Value.cells, Zj, Zk, Nat.reduceAdd, Nat.reduceLT, Nat.reduceEqDiff, Nat.reduceMul, Nat.reduceLeDiff, Zl, Zm, if_true, Zn, ↓reduceIte, reduceCtorEq, or_self, Zo, Zp, Zq, Zr, Zs, Zt, Zu, Zv, Zw, Zx, Zy, Zz, ZA, ZB, ZC, ZD, ZE, ZF, ZG, ZH, ZI, ZJ, ZK, ZL, ZM, ZN, ZO, ZP, ZQ, lenV, minV, maxV, hav, stC_one, ZR, ZS, ZT, ZU, ZV, ZW, ZX, ZY, ZZ, Z0, ones_gc, Z1, Z2, Z3, Z4, Z5, Z6, Z7, Z8, Z9, Ya, Yb, Yc, Yd, z8_len, Ye, Yf, wrap_u8, gc_s, gc_x, gc_o, Yg, Yh, Yi, Yj, Yk, Yl, Ym, Yn, Yo, eq_self, Int.reduceLE, Int.reduceLT, Yp, Yq, Yr, Ys, endQ_1, endQ_2, endQ_3, Yt, Yu, Yv, Yw, Yx, sliceV, loV, hiV, Yy, ZL, Int.reduceToNat, Yz, YA, YB, YC, YD, YE, YF, ne_eq, YG, Nat.reduceSub, YH, shOp, YI, bslQ, mksQ, appQ, partsOk, partsCells, delB, YJ, YK, tab_len, YL, YM, YN, YO, eqL_gc, eqL, SameI, YP, YQ, hl, hm, pl, ql, d1, d2, d3, d4, d5, d6, f1, f2, f3, k1, k2, k3, e0, e2]
          repeat refine And.intro (by omega) ?_
          intro g
          simp only [List.map_cons, List.map_nil, updL, upd, Nat.reduceEqDiff, if_true, if_false, ↓reduceIte]
          refine hK _ _ ?_; clear hK K
          refine Cd.seq ?_
          refine Cd.qs [1, 3, 4, 5, 6, 7, 21, 22, 26, 27, 53] fol (by kernel_rfl) fun K hK => ?_
          simp (maxSteps := 2000000) (disch := first | (simp only [Z9, Ya, Yb, Yc, Yd, z8_len, Ye, ZN, ZO, tab_len, hl, hm, pl, ql, d1, d2, d3, d4, d5, d6, f1, f2, f3, k1, k2, k3, e0, e2] <;> omega) | omega | fail) only [↓YS, ↓YT, YU, YV, YW, YX, bare, bareJ, evP, ↓Za, ↓Zb, ↓Zc, ↓Zd, Ze, ↓Zf, ↓Zg, ↓Zh, evPlan, env0, envN, evOps, evOp, evQs, evQ, evV, setD, pureOp, ev, upd, updL, gate, binW, eqOp, binV, intOp, shOp, boolOp, unV, convV, nilV, fieldAddrV, indexAddrV, extractV, cellAt, cellsAt, findB, setB, fillL, buildV, Value.cells, Zj, Zk, Nat.reduceAdd, Nat.reduceLT, Nat.reduceEqDiff, Nat.reduceMul, Nat.reduceLeDiff, Zl, Zm, if_true, Zn, ↓reduceIte, reduceCtorEq, or_self, Zo, Zp, Zq, Zr, Zs, Zt, Zu, Zv, Zw, Zx, Zy, Zz, ZA, ZB, ZC, ZD, ZE, ZF, ZG, ZH, ZI, ZJ, ZK, ZL, ZM, ZN, ZO, ZP, ZQ, lenV, minV, maxV, hav, stC_one, ZR, ZS, ZT, ZU, ZV, ZW, ZX, ZY, ZZ, Z0, ones_gc, Z1, Z2, Z3, Z4, Z5, Z6, Z7, Z8, Z9, Ya, Yb, Yc, Yd, z8_len, Ye, Yf, wrap_u8, gc_s, gc_x, gc_o, Yg, Yh, Yi, Yj, Yk, Yl, Ym, Yn, Yo, eq_self, Int.reduceLE, Int.reduceLT, Yp, Yq, Yr, Ys, endQ_1, endQ_2, endQ_3, Yt, Yu, Yv, Yw, Yx, sliceV, loV, hiV, Yy, ZL, Int.reduceToNat, Yz, YA, YB, YC, YD, YE, YF, ne_eq, YG, Nat.reduceSub, YH, shOp, YI, bslQ, mksQ, appQ, partsOk, partsCells, delB, YJ, YK, tab_len, YL, YM, YN, YO, eqL_gc, eqL, SameI, YP, YQ, Tarr109, Tarr22, Tfld27_1, Tfld27_2, Tint3, Tld3, Tld5, Tpar5, hl, hm, pl, ql, d1, d2, d3, d4, d5, d6, f1, f2, f3, k1, k2, k3, e0, e2]
          repeat refine And.intro (by omega) ?_
          refine callQ_gives (isBetween_c _ _ _) ?_
          simp (maxSteps := 2000000) (disch := first | (simp only [Z9, Ya, Yb, Yc, Yd, z8_len, Ye, ZN, ZO, tab_len, hl, hm, pl, ql, d1, d2, d3, d4, d5, d6, f1, f2, f3, k1, k2, k3, e0, e2] <;> omega) | omega | fail) only [↓YS, ↓YT, YU, YV, YW, YX, bare, bareJ, evP, ↓Za, ↓Zb, ↓Zc, ↓Zd, Ze, ↓Zf, ↓Zg, ↓Zh, evPlan, env0, envN, evOps, evOp, evQs, evQ, evV, setD, pureOp, ev, upd, updL, gate, binW, eqOp, binV, intOp, shOp, boolOp, unV, convV, nilV, fieldAddrV, indexAddrV, extractV, cellAt, cellsAt, findB, setB, fillL, buildV, Value.cells, Zj, Zk, Nat.reduceAdd, Nat.reduceLT, Nat.reduceEqDiff, Nat.reduceMul, Nat.reduceLeDiff, Zl, Zm, if_true, Zn, ↓reduceIte, reduceCtorEq, or_self, Zo, Zp, Zq, Zr, Zs, Zt, Zu, Zv, Zw, Zx, Zy, Zz, ZA, ZB, ZC, ZD, ZE, ZF, ZG, ZH, ZI, ZJ, ZK, ZL, ZM, ZN, ZO, ZP, ZQ, lenV, minV, maxV, hav, stC_one, ZR, ZS, ZT, ZU, ZV, ZW, ZX, ZY, ZZ, Z0, ones_gc, Z1, Z2, Z3, Z4, Z5, Z6, Z7, Z8, Z9, Ya, Yb, Yc, Yd, z8_len, Ye, Yf, wrap_u8, gc_s, gc_x, gc_o, Yg, Yh, Yi, Yj, Yk, Yl, Ym, Yn, Yo, eq_self, Int.reduceLE, Int.reduceLT, Yp, Yq, Yr, Ys, endQ_1, endQ_2, endQ_3, Yt, Yu, Yv, Yw, Yx, sliceV, loV, hiV, Yy, ZL, Int.reduceToNat, Yz, YA, YB, YC, YD, YE, YF, ne_eq, YG, Nat.reduceSub, YH, shOp, YI, bslQ, mksQ, appQ, partsOk, partsCells, delB, YJ, YK, tab_len, YL, YM, YN, YO, eqL_gc, eqL, SameI, YP, YQ, Tarr109, Tarr22, Tfld27_1, Tfld27_2, Tint3, Tld3, Tld5, Tpar5, hl, hm, pl, ql, d1, d2, d3, d4, d5, d6, f1, f2, f3, k1, k2, k3, e0, e2]
          apply guardY_or 9 [44, 45, 46, 47, 48, 49, 50, 51, 52] (j := 13) (d := 43) (tp := 53) (tl := 52) rfl rfl rfl rfl rfl
          · intro hq
            simp (maxSteps := 2000000) (disch := first | (simp only [Z9, Ya, Yb, Yc, Yd, z8_len, Ye, ZN, ZO, tab_len, hl, hm, pl, ql, d1, d2, d3, d4, d5, d6, f1, f2, f3, k1, k2, k3, e0, e2] <;> omega) | omega | fail) only [↓YS, ↓YT, YU, YV, YW, YX, bare, bareJ, evP, ↓Za, ↓Zb, ↓Zc, ↓Zd, Ze, ↓Zf, ↓Zg, ↓Zh, evPlan, env0, envN, evOps, evOp, evQs, evQ, evV, setD, pureOp, ev, upd, updL, gate, binW, eqOp, binV, intOp, shOp, boolOp, unV, convV, nilV, fieldAddrV, indexAddrV, extractV, cellAt, cellsAt, findB, setB, fillL, buildV, Value.cells, Zj, Zk, Nat.reduceAdd, Nat.reduceLT, Nat.reduceEqDiff, Nat.reduceMul, Nat.reduceLeDiff, Zl, Zm, if_true, Zn, ↓reduceIte, reduceCtorEq, or_self, Zo, Zp, Zq, Zr, Zs, Zt, Zu, Zv, Zw, Zx, Zy, Zz, ZA, ZB, ZC, ZD, ZE, ZF, ZG, ZH, ZI, ZJ, ZK, ZL, ZM, ZN, ZO, ZP, ZQ, lenV, minV, maxV, hav, stC_one, ZR, ZS, ZT, ZU, ZV, ZW, ZX, ZY, ZZ, Z0, ones_gc, Z1, Z2, Z3, Z4, Z5, Z6, Z7, Z8, Z9, Ya, Yb, Yc, Yd, z8_len, Ye, Yf, wrap_u8, gc_s, gc_x, gc_o, Yg, Yh, Yi, Yj, Yk, Yl, Ym, Yn, Yo, eq_self, Int.reduceLE, Int.reduceLT, Yp, Yq, Yr, Ys, endQ_1, endQ_2, endQ_3, Yt, Yu, Yv, Yw, Yx, sliceV, loV, hiV, Yy, ZL, Int.reduceToNat, Yz, YA, YB, YC, YD, YE, YF, ne_eq, YG, Nat.reduceSub, YH, shOp, YI, bslQ, mksQ, appQ, partsOk, partsCells, delB, YJ, YK, tab_len, YL, YM, YN, YO, eqL_gc, eqL, SameI, YP, YQ, Tarr109, Tarr22, Tfld27_1, Tfld27_2, Tint3, Tld3, Tld5, Tpar5, hl, hm, pl, ql, d1, d2, d3, d4, d5, d6, f1, f2, f3, k1, k2, k3, e0, e2]
            repeat refine And.intro (by omega) ?_
            refine callQ_gives (isBetween_c _ _ _) ?_
            simp (maxSteps := 2000000) (disch := first | (simp only [Z9, Ya, Yb, Yc, Yd, z8_len, Ye, ZN, ZO, tab_len, hl, hm, pl, ql, d1, d2, d3, d4, d5, d6, f1, f2, f3, k1, k2, k3, e0, e2] <;> omega) | omega | fail) only [↓YS, ↓YT, YU, YV, YW, YX, bare, bareJ, evP, ↓Za, ↓Zb, ↓Zc, ↓Zd, Ze, ↓Zf, ↓Zg, ↓Zh, evPlan, env0, envN, evOps, evOp, evQs, evQ, evV, setD, pureOp, ev, upd, updL, gate, binW, eqOp, binV, intOp, shOp, boolOp, unV, convV, nilV, fieldAddrV, indexAddrV, extractV, cellAt, cellsAt, findB, setB, fillL, buildV, Value.cells, Zj, Zk, Nat.reduceAdd, Nat.reduceLT, Nat.reduceEqDiff, Nat.reduceMul, Nat.reduceLeDiff, Zl, Zm, if_true, Zn, ↓reduceIte, reduceCtorEq, or_self, Zo, Zp, Zq, Zr, Zs, Zt, Zu, Zv, Zw, Zx, Zy, Zz, ZA, ZB, ZC, ZD, ZE, ZF, ZG, ZH, ZI, ZJ, ZK, ZL, ZM, ZN, ZO, ZP, ZQ, lenV, minV, maxV, hav, stC_one, ZR, ZS, ZT, ZU, ZV, ZW, ZX, ZY, ZZ, Z0, ones_gc, Z1, Z2, Z3, Z4, Z5, Z6, Z7, Z8, Z9, Ya, Yb, Yc, Yd, z8_len, Ye, Yf, wrap_u8, gc_s, gc_x, gc_o, Yg, Yh, Yi, Yj, Yk, Yl, Ym, Yn, Yo, eq_self, Int.reduceLE, Int.reduceLT, Yp, Yq, Yr, Ys, endQ_1, endQ_2, endQ_3, Yt, Yu, Yv, Yw, Yx, sliceV, loV, hiV, Yy, ZL, Int.reduceToNat, Yz, YA, YB, YC, YD, YE, YF, ne_eq, YG, Nat.reduceSub, YH, shOp, YI, bslQ, mksQ, appQ, partsOk, partsCells, delB, YJ, YK, tab_len, YL, YM, YN, YO, eqL_gc, eqL, SameI, YP, YQ, Tarr109, Tarr22, Tfld27_1, Tfld27_2, Tint3, Tld3, Tld5, Tpar5, hl, hm, pl, ql, d1, d2, d3, d4, d5, d6, f1, f2, f3, k1, k2, k3, e0, e2]
            exact rfl
          intro g
          simp (maxSteps := 2000000) (disch := first | (simp only [Z9, Ya, Yb, Yc, Yd, z8_len, Ye, ZN, ZO, tab_len, hl, hm, pl, ql, d1, d2, d3, d4, d5, d6, f1, f2, f3, k1, k2, k3, e0, e2] <;> omega) | omega | fail) only [↓YS, ↓YT, YU, YV, YW, YX, bare, bareJ, evP, ↓Za, ↓Zb, ↓Zc, ↓Zd, Ze, ↓Zf, ↓Zg, ↓Zh, evPlan, env0, envN, evOps, evOp, evQs, evQ, evV, setD, pureOp, ev, upd, updL, gate, binW, eqOp, binV, intOp, shOp, boolOp, unV, convV, nilV, fieldAddrV, indexAddrV, extractV, cellAt, cellsAt, findB, setB, fillL, buildV, Value.cells, Zj, Zk, Nat.reduceAdd, Nat.reduceLT, Nat.reduceEqDiff, Nat.reduceMul, Nat.reduceLeDiff, Zl, Zm, if_true, Zn, ↓reduceIte, reduceCtorEq, or_self, Zo, Zp, Zq, Zr, Zs, Zt, Zu, Zv, Zw, Zx, Zy, Zz, ZA, ZB, ZC, ZD, ZE, ZF, ZG, ZH, ZI, ZJ, ZK, ZL, ZM, ZN, ZO, ZP, ZQ, lenV, minV, maxV, hav, stC_one, ZR, ZS, ZT, ZU, ZV, ZW, ZX, ZY, ZZ, Z0, ones_gc, Z1, Z2, Z3, Z4, Z5, Z6, Z7, Z8, Z9, Ya, Yb, Yc, Yd, z8_len, Ye, Yf, wrap_u8, gc_s, gc_x, gc_o, Yg, Yh, Yi, Yj, Yk, Yl, Ym, Yn, Yo, eq_self, Int.reduceLE, Int.reduceLT, Yp, Yq, Yr, Ys, endQ_1, endQ_2, endQ_3, Yt, Yu, Yv, Yw, Yx, sliceV, loV, hiV, Yy, ZL, Int.reduceToNat, Yz, YA, YB, YC, YD, YE, YF, ne_eq, YG, Nat.reduceSub, YH, shOp, YI, bslQ, mksQ, appQ, partsOk, partsCells, delB, YJ, YK, tab_len, YL, YM, YN, YO, eqL_gc, eqL, SameI, YP, YQ, Tarr109, Tarr22, Tfld27_1, Tfld27_2, Tint3, Tld3, Tld5, Tpar5, hl, hm, pl, ql, d1, d2, d3, d4, d5, d6, f1, f2, f3, k1, k2, k3, e0, e2]
          repeat refine And.intro (by omega) ?_
          intro g
          simp only [List.map_cons, List.map_nil, updL, upd, Nat.reduceEqDiff, if_true, if_false, ↓reduceIte]
          refine hK _ ?_; clear hK K
          refine Cd.cond rfl (fun h3 => ?_) (fun h3 => ?_)
          · have hz : crossS n x o i r = 0 := by
              unfold crossS
              rw [if_neg]
              generalize betw (r : Int) (x.getD i 0) (o.getD i 0) = A at h3 ⊢
              generalize betw (i : Int) (rowOf x n (r : Int)) (rowOf o n (r : Int)) = B at h3 ⊢
              revert A B
              decide
            have e : crRow n x o i (r + 1) = crRow n x o i r := by show _ ++ _ = _; rw [if_pos hz, List.append_nil]
            refine Cd.exit (thenX (inBX ?_))
            exact midN ⟨_, b, len, cap, rest, by rw [e]; exact hlen, hcap, by rw [e]; exact hrest, (norm_of (by repeat (first | exact trivial | refine And.intro rfl ?_))), by rw [e]; exact List.Sublist.refl _⟩
          · have hb : (betw (r : Int) (x.getD i 0) (o.getD i 0) && betw (i : Int) (rowOf x n (r : Int)) (rowOf o n (r : Int))) = true := by
              generalize betw (r : Int) (x.getD i 0) (o.getD i 0) = A at h3 ⊢
              generalize betw (i : Int) (rowOf x n (r : Int)) (rowOf o n (r : Int)) = B at h3 ⊢
              revert A B
              decide
            have hne : (rowOf x n (r : Int) : Int) ≠ rowOf o n (r : Int) := by
              have hb' := hb
              simp only [betw, Bool.and_eq_true, decide_eq_true_eq] at hb'
              omega
            refine Cd.skip ?_
            refine thenN ?_
            refine Cd.qs [1, 3, 4, 5, 6, 7, 8, 9, 10, 21, 22, 26, 27] fol (by kernel_rfl) fun K hK => ?_
            simp (maxSteps := 2000000) (disch := first | (simp only [Z9, Ya, Yb, Yc, Yd, z8_len, Ye, ZN, ZO, tab_len, hl, hm, pl, ql, d1, d2, d3, d4, d5, d6, f1, f2, f3, k1, k2, k3, e0, e2] <;> omega) | omega | fail) only [↓YS, ↓YT, YU, YV, YW, YX, bare, bareJ, evP, ↓Za, ↓Zb, ↓Zc, ↓Zd, Ze, ↓Zf, ↓Zg, ↓Zh, evPlan, env0, envN, evOps, evOp, evQs, evQ, evV, setD, pureOp, ev, upd, updL, gate, binW, eqOp, binV, intOp, shOp, boolOp, unV, convV, nilV, fieldAddrV, indexAddrV, extractV, cellAt, cellsAt, findB, setB, fillL, buildV, Value.cells, Zj, Zk, Nat.reduceAdd, Nat.reduceLT, Nat.reduceEqDiff, Nat.reduceMul, Nat.reduceLeDiff, Zl, Zm, if_true, Zn, ↓reduceIte, reduceCtorEq, or_self, Zo, Zp, Zq, Zr, Zs, Zt, Zu, Zv, Zw, Zx, Zy, Zz, ZA, ZB, ZC, ZD, ZE, ZF, ZG, ZH, ZI, ZJ, ZK, ZL, ZM, ZN, ZO, ZP, ZQ, lenV, minV, maxV, hav, stC_one, ZR, ZS, ZT, ZU, ZV, ZW, ZX, ZY, ZZ, Z0, ones_gc, Z1, Z2, Z3, Z4, Z5, Z6, Z7, Z8, Z9, Ya, Yb, Yc, Yd, z8_len, Ye, Yf, wrap_u8, gc_s, gc_x, gc_o, Yg, Yh, Yi, Yj, Yk, Yl, Ym, Yn, Yo, eq_self, Int.reduceLE, Int.reduceLT, Yp, Yq, Yr, Ys, endQ_1, endQ_2, endQ_3, Yt, Yu, Yv, Yw, Yx, sliceV, loV, hiV, Yy, ZL, Int.reduceToNat, Yz, YA, YB, YC, YD, YE, YF, ne_eq, YG, Nat.reduceSub, YH, shOp, YI, bslQ, mksQ, appQ, partsOk, partsCells, delB, YJ, YK, tab_len, YL, YM, YN, YO, eqL_gc, eqL, SameI, YP, YQ, Tarr109, Tarr22, Tfld27_1, Tfld27_2, Tld3, Tld5, hl, hm, pl, ql, d1, d2, d3, d4, d5, d6, f1, f2, f3, k1, k2, k3, e0, e2]
            repeat refine And.intro (by omega) ?_
            repeat refine And.intro (by omega) ?_
            intro g
            simp only [List.map_cons, List.map_nil, updL, upd, Nat.reduceEqDiff, if_true, if_false, ↓reduceIte]
            refine hK _ ?_; clear hK K
            refine Cd.midq (fun ρ M => ∃ g, ρ = updL [(1, .pointer (some ⟨b1, 0, none⟩)), (3, .pointer (some ⟨c1, 0, none⟩)), (4, .pointer (some ⟨c2, 0, none⟩)), (5, .slice (some ⟨b, 0, none⟩) len cap), (6, .int .i64 (i : Int)), (7, .int .i64 (r : Int)), (10, .int .i64 (crossS n x o i r)), (21, .int .i64 (n : Int)), (22, .int .i64 (i : Int)), (26, .int .i64 (n : Int)), (27, .int .i64 (r : Int))] g ∧ M = [(b, ints .i64 (crTo n x o i ++ crRow n x o i r) ++ rest), (c2, ints .i64 (plc o n)), (c1, ints .i64 (plc x n)), (b1, gc (n : Int) x o)]) ?_ ?_
            · refine Cd.rs [1, 3, 4, 5, 6, 7, 10, 21, 22, 26, 27, 72] fun K hK => ?_
              simp (maxSteps := 2000000) (disch := first | (simp only [Z9, Ya, Yb, Yc, Yd, z8_len, Ye, ZN, ZO, tab_len, hl, hm, pl, ql, d1, d2, d3, d4, d5, d6, f1, f2, f3, k1, k2, k3, e0, e2] <;> omega) | omega | fail) only [↓YS, ↓YT, YU, YV, YW, YX, bare, bareJ, evP, ↓Za, ↓Zb, ↓Zc, ↓Zd, Ze, ↓Zf, ↓Zg, ↓Zh, evPlan, env0, envN, evOps, evOp, evQs, evQ, evV, setD, pureOp, ev, upd, updL, gate, binW, eqOp, binV, intOp, shOp, boolOp, unV, convV, nilV, fieldAddrV, indexAddrV, extractV, cellAt, cellsAt, findB, setB, fillL, buildV, Value.cells, Zj, Zk, Nat.reduceAdd, Nat.reduceLT, Nat.reduceEqDiff, Nat.reduceMul, Nat.reduceLeDiff, Zl, Zm, if_true, Zn, ↓reduceIte, reduceCtorEq, or_self, Zo, Zp, Zq, Zr, Zs, Zt, Zu, Zv, Zw, Zx, Zy, Zz, ZA, ZB, ZC, ZD, ZE, ZF, ZG, ZH, ZI, ZJ, ZK, ZL, ZM, ZN, ZO, ZP, ZQ, lenV, minV, maxV, hav, stC_one, ZR, ZS, ZT, ZU, ZV, ZW, ZX, ZY, ZZ, Z0, ones_gc, Z1, Z2, Z3, Z4, Z5, Z6, Z7, Z8, Z9, Ya, Yb, Yc, Yd, z8_len, Ye, Yf, wrap_u8, gc_s, gc_x, gc_o, Yg, Yh, Yi, Yj, Yk, Yl, Ym, Yn, Yo, eq_self, Int.reduceLE, Int.reduceLT, Yp, Yq, Yr, Ys, endQ_1, endQ_2, endQ_3, Yt, Yu, Yv, Yw, Yx, sliceV, loV, hiV, Yy, ZL, Int.reduceToNat, Yz, YA, YB, YC, YD, YE, YF, ne_eq, YG, Nat.reduceSub, YH, shOp, YI, bslQ, mksQ, appQ, partsOk, partsCells, delB, YJ, YK, tab_len, YL, YM, YN, YO, eqL_gc, eqL, SameI, YP, YQ, Tbool4, hl, hm, pl, ql, d1, d2, d3, d4, d5, d6, f1, f2, f3, k1, k2, k3, e0, e2]
              repeat refine And.intro (by omega) ?_
              intro g
              simp only [List.map_cons, List.map_nil, updL, upd, Nat.reduceEqDiff, if_true, if_false, ↓reduceIte]
              refine hK _ _ ?_; clear hK K
              refine Cd.cond rfl (fun h4 => ?_) (fun h4 => ?_)
              · have hs : crossS n x o i r = 1 := by
                  unfold crossS
                  rw [if_pos hb]
                  grind
                refine Cd.rr [1, 3, 4, 5, 6, 7, 10, 21, 22, 26, 27] fun K hK => ?_
                simp (maxSteps := 2000000) (disch := first | (simp only [Z9, Ya, Yb, Yc, Yd, z8_len, Ye, ZN, ZO, tab_len, hl, hm, pl, ql, d1, d2, d3, d4, d5, d6, f1, f2, f3, k1, k2, k3, e0, e2] <;> omega) | omega | fail) only [↓YS, ↓YT, YU, YV, YW, YX, bare, bareJ, evP, ↓Za, ↓Zb, ↓Zc, ↓Zd, Ze, ↓Zf, ↓Zg, ↓Zh, evPlan, env0, envN, evOps, evOp, evQs, evQ, evV, setD, pureOp, ev, upd, updL, gate, binW, eqOp, binV, intOp, shOp, boolOp, unV, convV, nilV, fieldAddrV, indexAddrV, extractV, cellAt, cellsAt, findB, setB, fillL, buildV, Value.cells, Zj, Zk, Nat.reduceAdd, Nat.reduceLT, Nat.reduceEqDiff, Nat.reduceMul, Nat.reduceLeDiff, Zl, Zm, if_true, Zn, ↓reduceIte, reduceCtorEq, or_self, Zo, Zp, Zq, Zr, Zs, Zt, Zu, Zv, Zw, Zx, Zy, Zz, ZA, ZB, ZC, ZD, ZE, ZF, ZG, ZH, ZI, ZJ, ZK, ZL, ZM, ZN, ZO, ZP, ZQ, lenV, minV, maxV, hav, stC_one, ZR, ZS, ZT, ZU, ZV, ZW, ZX, ZY, ZZ, Z0, ones_gc, Z1, Z2, Z3, Z4, Z5, Z6, Z7, Z8, Z9, Ya, Yb, Yc, Yd, z8_len, Ye, Yf, wrap_u8, gc_s, gc_x, gc_o, Yg, Yh, Yi, Yj, Yk, Yl, Ym, Yn, Yo, eq_self, Int.reduceLE, Int.reduceLT, Yp, Yq, Yr, Ys, endQ_1, endQ_2, endQ_3, Yt, Yu, Yv, Yw, Yx, sliceV, loV, hiV, Yy, ZL, Int.reduceToNat, Yz, YA, YB, YC, YD, YE, YF, ne_eq, YG, Nat.reduceSub, YH, shOp, YI, bslQ, mksQ, appQ, partsOk, partsCells, delB, YJ, YK, tab_len, YL, YM, YN, YO, eqL_gc, eqL, SameI, YP, YQ, hl, hm, pl, ql, d1, d2, d3, d4, d5, d6, f1, f2, f3, k1, k2, k3, e0, e2]
                repeat refine And.intro (by omega) ?_
                intro g
                simp only [List.map_cons, List.map_nil, updL, upd, Nat.reduceEqDiff, if_true, if_false, ↓reduceIte]
                refine hK _ _ ?_; clear hK K
                rw [hs]
                exact midN ⟨_, (norm_of (by repeat (first | exact trivial | refine And.intro rfl ?_))), rfl⟩
              · have hs : crossS n x o i r = -1 := by
                  unfold crossS
                  rw [if_pos hb]
                  grind
                refine Cd.skip ?_
                rw [hs]
                exact midN ⟨_, (norm_of (by repeat (first | exact trivial | refine And.intro rfl ?_))), rfl⟩
            · rintro ρ M ⟨g, rfl, rfl⟩
              have h3 : ¬ crossS n x o i r = 0 := by
                unfold crossS
                rw [if_pos hb]
                split <;> omega
              refine Cd.rr [1, 3, 4, 5, 6, 21, 22, 26, 27] fun K hK => ?_
              simp (maxSteps := 2000000) (disch := first | (simp only [Z9, Ya, Yb, Yc, Yd, z8_len, Ye, ZN, ZO, tab_len, hl, hm, pl, ql, d1, d2, d3, d4, d5, d6, f1, f2, f3, k1, k2, k3, e0, e2] <;> omega) | omega | fail) only [↓YS, ↓YT, YU, YV, YW, YX, bare, bareJ, evP, ↓Za, ↓Zb, ↓Zc, ↓Zd, Ze, ↓Zf, ↓Zg, ↓Zh, evPlan, env0, envN, evOps, evOp, evQs, evQ, evV, setD, pureOp, ev, upd, updL, gate, binW, eqOp, binV, intOp, shOp, boolOp, unV, convV, nilV, fieldAddrV, indexAddrV, extractV, cellAt, cellsAt, findB, setB, fillL, buildV, Value.cells, Zj, Zk, Nat.reduceAdd, Nat.reduceLT, Nat.reduceEqDiff, Nat.reduceMul, Nat.reduceLeDiff, Zl, Zm, if_true, Zn, ↓reduceIte, reduceCtorEq, or_self, Zo, Zp, Zq, Zr, Zs, Zt, Zu, Zv, Zw, Zx, Zy, Zz, ZA, ZB, ZC, ZD, ZE, ZF, ZG, ZH, ZI, ZJ, ZK, ZL, ZM, ZN, ZO, ZP, ZQ, lenV, minV, maxV, hav, stC_one, ZR, ZS, ZT, ZU, ZV, ZW, ZX, ZY, ZZ, Z0, ones_gc, Z1, Z2, Z3, Z4, Z5, Z6, Z7, Z8, Z9, Ya, Yb, Yc, Yd, z8_len, Ye, Yf, wrap_u8, gc_s, gc_x, gc_o, Yg, Yh, Yi, Yj, Yk, Yl, Ym, Yn, Yo, eq_self, Int.reduceLE, Int.reduceLT, Yp, Yq, Yr, Ys, endQ_1, endQ_2, endQ_3, Yt, Yu, Yv, Yw, Yx, sliceV, loV, hiV, Yy, ZL, Int.reduceToNat, Yz, YA, YB, YC, YD, YE, YF, ne_eq, YG, Nat.reduceSub, YH, shOp, YI, bslQ, mksQ, appQ, partsOk, partsCells, delB, YJ, YK, tab_len, YL, YM, YN, YO, eqL_gc, eqL, SameI, YP, YQ, Tbld117, Tby117, Tslc114, Tslce114, Tzero117, hl, hm, pl, ql, d1, d2, d3, d4, d5, d6, f1, f2, f3, k1, k2, k3, e0, e2]
              repeat refine And.intro (by omega) ?_
              intro b5 hb5
              have nb5_b1 := hb5.ne
              try simp (maxSteps := 2000000) (disch := first | (simp only [Z9, Ya, Yb, Yc, Yd, z8_len, Ye, ZN, ZO, tab_len, hl, hm, pl, ql, d1, d2, d3, d4, d5, d6, f1, f2, f3, k1, k2, k3, e0, e2, nb5_b1] <;> omega) | omega | fail) only [↓YS, ↓YT, YU, YV, YW, YX, bare, bareJ, evP, ↓Za, ↓Zb, ↓Zc, ↓Zd, Ze, ↓Zf, ↓Zg, ↓Zh, evPlan, env0, envN, evOps, evOp, evQs, evQ, evV, setD, pureOp, ev, upd, updL, gate, binW, eqOp, binV, intOp, shOp, boolOp, unV, convV, nilV, fieldAddrV, indexAddrV, extractV, cellAt, cellsAt, findB, setB, fillL, buildV, Value.cells, Zj, Zk, Nat.reduceAdd, Nat.reduceLT, Nat.reduceEqDiff, Nat.reduceMul, Nat.reduceLeDiff, Zl, Zm, if_true, Zn, ↓reduceIte, reduceCtorEq, or_self, Zo, Zp, Zq, Zr, Zs, Zt, Zu, Zv, Zw, Zx, Zy, Zz, ZA, ZB, ZC, ZD, ZE, ZF, ZG, ZH, ZI, ZJ, ZK, ZL, ZM, ZN, ZO, ZP, ZQ, lenV, minV, maxV, hav, stC_one, ZR, ZS, ZT, ZU, ZV, ZW, ZX, ZY, ZZ, Z0, ones_gc, Z1, Z2, Z3, Z4, Z5, Z6, Z7, Z8, Z9, Ya, Yb, Yc, Yd, z8_len, Ye, Yf, wrap_u8, gc_s, gc_x, gc_o, Yg, Yh, Yi, Yj, Yk, Yl, Ym, Yn, Yo, eq_self, Int.reduceLE, Int.reduceLT, Yp, Yq, Yr, Ys, endQ_1, endQ_2, endQ_3, Yt, Yu, Yv, Yw, Yx, sliceV, loV, hiV, Yy, ZL, Int.reduceToNat, Yz, YA, YB, YC, YD, YE, YF, ne_eq, YG, Nat.reduceSub, YH, shOp, YI, bslQ, mksQ, appQ, partsOk, partsCells, delB, YJ, YK, tab_len, YL, YM, YN, YO, eqL_gc, eqL, SameI, YP, YQ, Tbld117, Tby117, Tslc114, Tslce114, Tzero117, hl, hm, pl, ql, d1, d2, d3, d4, d5, d6, f1, f2, f3, k1, k2, k3, e0, e2, nb5_b1]
              have ec : crTo n x o i ++ crRow n x o i (r + 1) = (crTo n x o i ++ crRow n x o i r) ++ [(i : Int), (r : Int), crossS n x o i r] := by
                show _ ++ (_ ++ _) = _
                rw [if_neg h3, List.append_assoc]
              have q9 : len ≤ 100 := by
                obtain ⟨m1, q1, q2⟩ := crTo_len n x o i
                obtain ⟨m2, q3, q4⟩ := crRow_len n x o i r
                have q6 : n * i ≤ 8 * 8 := Nat.mul_le_mul hn (by omega)
                rw [List.length_append, q2, q4] at hlen
                omega
              refine ⟨⟨hrest, hcap, by omega, by omega⟩, fun b' cap' rest' hf hc hr' => ?_⟩
              have et := takeS (k := .i64) rest hlen
              rw [et, snocS, ← ec]
              repeat refine And.intro (by omega) ?_
              intro g
              simp only [List.map_cons, List.map_nil, updL, upd, Nat.reduceEqDiff, if_true, if_false, ↓reduceIte]
              refine hK _ _ ?_; clear hK K
              refine inBN ?_
              refine midN ⟨_, b', len + 1, cap', rest', ?_, hc, ?_, (norm_of (by repeat (first | exact trivial | refine And.intro rfl ?_))), List.Sublist.cons_cons _ (List.Sublist.cons _ (List.Sublist.refl _))⟩
              · rw [ec, List.length_append, hlen]
                show len * 3 + 3 = _
                omega
              · rw [ec, List.length_append, ints_length, List.length_append, hlen, hr']
                show len * 3 + 3 + _ = _
                omega
        · rintro ρ M ⟨g, b, len, cap, rest, hlen, hcap, hrest, rfl, hM⟩
          refine Cd.drop hM ?_
          clear hM M
          refine Cd.rr [1, 3, 4, 5, 6, 21, 22, 26, 27] fun K hK => ?_
          simp (maxSteps := 2000000) (disch := first | (simp only [Z9, Ya, Yb, Yc, Yd, z8_len, Ye, ZN, ZO, tab_len, hl, hm, pl, ql, d1, d2, d3, d4, d5, d6, f1, f2, f3, k1, k2, k3, e0, e2] <;> omega) | omega | fail) only [↓YS, ↓YT, YU, YV, YW, YX, bare, bareJ, evP, ↓Za, ↓Zb, ↓Zc, ↓Zd, Ze, ↓Zf, ↓Zg, ↓Zh, evPlan, env0, envN, evOps, evOp, evQs, evQ, evV, setD, pureOp, ev, upd, updL, gate, binW, eqOp, binV, intOp, shOp, boolOp, unV, convV, nilV, fieldAddrV, indexAddrV, extractV, cellAt, cellsAt, findB, setB, fillL, buildV, Value.cells, Zj, Zk, Nat.reduceAdd, Nat.reduceLT, Nat.reduceEqDiff, Nat.reduceMul, Nat.reduceLeDiff, Zl, Zm, if_true, Zn, ↓reduceIte, reduceCtorEq, or_self, Zo, Zp, Zq, Zr, Zs, Zt, Zu, Zv, Zw, Zx, Zy, Zz, ZA, ZB, ZC, ZD, ZE, ZF, ZG, ZH, ZI, ZJ, ZK, ZL, ZM, ZN, ZO, ZP, ZQ, lenV, minV, maxV, hav, stC_one, ZR, ZS, ZT, ZU, ZV, ZW, ZX, ZY, ZZ, Z0, ones_gc, Z1, Z2, Z3, Z4, Z5, Z6, Z7, Z8, Z9, Ya, Yb, Yc, Yd, z8_len, Ye, Yf, wrap_u8, gc_s, gc_x, gc_o, Yg, Yh, Yi, Yj, Yk, Yl, Ym, Yn, Yo, eq_self, Int.reduceLE, Int.reduceLT, Yp, Yq, Yr, Ys, endQ_1, endQ_2, endQ_3, Yt, Yu, Yv, Yw, Yx, sliceV, loV, hiV, Yy, ZL, Int.reduceToNat, Yz, YA, YB, YC, YD, YE, YF, ne_eq, YG, Nat.reduceSub, YH, shOp, YI, bslQ, mksQ, appQ, partsOk, partsCells, delB, YJ, YK, tab_len, YL, YM, YN, YO, eqL_gc, eqL, SameI, YP, YQ, hl, hm, pl, ql, d1, d2, d3, d4, d5, d6, f1, f2, f3, k1, k2, k3, e0, e2]
          repeat refine And.intro (by omega) ?_
          intro g
          simp only [List.map_cons, List.map_nil, updL, upd, Nat.reduceEqDiff, if_true, if_false, ↓reduceIte]
          refine hK _ _ ?_; clear hK K
          exact roundN (m := m' - 1) (by omega) ⟨_, r + 1, b, len, cap, rest, by omega, hlen, hcap, hrest, rfl, List.Sublist.refl _⟩
      · refine Cd.exit (thenX (roundX (inBX ?_)))
        refine inBN ?_
        refine thenN ?_
        obtain rfl : n = r := by omega
        have ec : crTo n x o i ++ crRow n x o i n = crTo n x o (i + 1) := rfl
        rw [ec] at hlen hrest
        rw [ec]
        refine Cd.rr [1, 3, 4, 5, 21, 22] fun K hK => ?_
        simp (maxSteps := 2000000) (disch := first | (simp only [Z9, Ya, Yb, Yc, Yd, z8_len, Ye, ZN, ZO, tab_len, hl, hm, pl, ql, d1, d2, d3, d4, d5, d6, f1, f2, f3, k1, k2, k3] <;> omega) | omega | fail) only [↓YS, ↓YT, YU, YV, YW, YX, bare, bareJ, evP, ↓Za, ↓Zb, ↓Zc, ↓Zd, Ze, ↓Zf, ↓Zg, ↓Zh, evPlan, env0, envN, evOps, evOp, evQs, evQ, evV, setD, pureOp, ev, upd, updL, gate, binW, eqOp, binV, intOp, shOp, boolOp, unV, convV, nilV, fieldAddrV, indexAddrV, extractV, cellAt, cellsAt, findB, setB, fillL, buildV, Value.cells, Zj, Zk, Nat.reduceAdd, Nat.reduceLT, Nat.reduceEqDiff, Nat.reduceMul, Nat.reduceLeDiff, Zl, Zm, if_true, Zn, ↓reduceIte, reduceCtorEq, or_self, Zo, Zp, Zq, Zr, Zs, Zt, Zu, Zv, Zw, Zx, Zy, Zz, ZA, ZB, ZC, ZD, ZE, ZF, ZG, ZH, ZI, ZJ, ZK, ZL, ZM, ZN, ZO, ZP, ZQ, lenV, minV, maxV, hav, stC_one, ZR, ZS, ZT, ZU, ZV, ZW, ZX, ZY, ZZ, Z0, ones_gc, Z1, Z2, Z3, Z4, Z5, Z6, Z7, Z8, Z9, Ya, Yb, Yc, Yd, z8_len, Ye, Yf, wrap_u8, gc_s, gc_x, gc_o, Yg, Yh, Yi, Yj, Yk, Yl, Ym, Yn, Yo, eq_self, Int.reduceLE, Int.reduceLT, Yp, Yq, Yr, Ys, endQ_1, endQ_2, endQ_3, Yt, Yu, Yv, Yw, Yx, sliceV, loV, hiV, Yy, ZL, Int.reduceToNat, Yz, YA, YB, YC, YD, YE, YF, ne_eq, YG, Nat.reduceSub, YH, shOp, YI, bslQ, mksQ, appQ, partsOk, partsCells, delB, YJ, YK, tab_len, YL, YM, YN, YO, eqL_gc, eqL, SameI, YP, YQ, hl, hm, pl, ql, d1, d2, d3, d4, d5, d6, f1, f2, f3, k1, k2, k3]
        repeat refine And.intro (by omega) ?_
        intro g
        simp only [List.map_cons, List.map_nil, updL, upd, Nat.reduceEqDiff, if_true, if_false, ↓reduceIte]
        refine hK _ _ ?_; clear hK K
        exact roundN (m := m - 1) (by omega) ⟨_, i + 1, b, len, cap, rest, by omega, hlen, hcap, hrest, rfl, List.Sublist.refl _⟩
    · refine Cd.exit (thenX (roundX (inBX ?_)))
      refine thenN ?_
      obtain rfl : n = i := by omega
      refine Cd.rs [2] fun K hK => ?_
      simp (maxSteps := 2000000) (disch := first | (simp only [Z9, Ya, Yb, Yc, Yd, z8_len, Ye, ZN, ZO, tab_len, hl, hm, pl, ql, d1, d2, d3, d4, d5, d6, f1, f2, f3] <;> omega) | omega | fail) only [↓YS, ↓YT, YU, YV, YW, YX, bare, bareJ, evP, ↓Za, ↓Zb, ↓Zc, ↓Zd, Ze, ↓Zf, ↓Zg, ↓Zh, evPlan, env0, envN, evOps, evOp, evQs, evQ, evV, setD, pureOp, ev, upd, updL, gate, binW, eqOp, binV, intOp, shOp, boolOp, unV, convV, nilV, fieldAddrV, indexAddrV, extractV, cellAt, cellsAt, findB, setB, fillL, buildV, Value.cells, Zj, Zk, Nat.reduceAdd, Nat.reduceLT, Nat.reduceEqDiff, Nat.reduceMul, Nat.reduceLeDiff, Zl, Zm, if_true, Zn, ↓reduceIte, reduceCtorEq, or_self, Zo, Zp, Zq, Zr, Zs, Zt, Zu, Zv, Zw, Zx, Zy, Zz, ZA, ZB, ZC, ZD, ZE, ZF, ZG, ZH, ZI, ZJ, ZK, ZL, ZM, ZN, ZO, ZP, ZQ, lenV, minV, maxV, hav, stC_one, ZR, ZS, ZT, ZU, ZV, ZW, ZX, ZY, ZZ, Z0, ones_gc, Z1, Z2, Z3, Z4, Z5, Z6, Z7, Z8, Z9, Ya, Yb, Yc, Yd, z8_len, Ye, Yf, wrap_u8, gc_s, gc_x, gc_o, Yg, Yh, Yi, Yj, Yk, Yl, Ym, Yn, Yo, eq_self, Int.reduceLE, Int.reduceLT, Yp, Yq, Yr, Ys, endQ_1, endQ_2, endQ_3, Yt, Yu, Yv, Yw, Yx, sliceV, loV, hiV, Yy, ZL, Int.reduceToNat, Yz, YA, YB, YC, YD, YE, YF, ne_eq, YG, Nat.reduceSub, YH, shOp, YI, bslQ, mksQ, appQ, partsOk, partsCells, delB, YJ, YK, tab_len, YL, YM, YN, YO, eqL_gc, eqL, SameI, YP, YQ, hl, hm, pl, ql, d1, d2, d3, d4, d5, d6, f1, f2, f3]
      repeat refine And.intro (by omega) ?_
      intro g
      simp only [List.map_cons, List.map_nil, updL, upd, Nat.reduceEqDiff, if_true, if_false, ↓reduceIte]
      refine hK _ _ ?_; clear hK K
      refine Cd.drop (List.Sublist.cons_cons _ (List.Sublist.cons _ (List.Sublist.cons _ (List.Sublist.cons _ List.Sublist.slnil)))) ?_
      refine Cd.ret ?_
      simp (maxSteps := 2000000) (disch := first | (simp only [Z9, Ya, Yb, Yc, Yd, z8_len, Ye, ZN, ZO, tab_len, hl, hm, pl, ql, d1, d2, d3, d4, d5, d6, f1, f2, f3] <;> omega) | omega | fail) only [↓YS, ↓YT, YU, YV, YW, YX, bare, bareJ, evP, ↓Za, ↓Zb, ↓Zc, ↓Zd, Ze, ↓Zf, ↓Zg, ↓Zh, evPlan, env0, envN, evOps, evOp, evQs, evQ, evV, setD, pureOp, ev, upd, updL, gate, binW, eqOp, binV, intOp, shOp, boolOp, unV, convV, nilV, fieldAddrV, indexAddrV, extractV, cellAt, cellsAt, findB, setB, fillL, buildV, Value.cells, Zj, Zk, Nat.reduceAdd, Nat.reduceLT, Nat.reduceEqDiff, Nat.reduceMul, Nat.reduceLeDiff, Zl, Zm, if_true, Zn, ↓reduceIte, reduceCtorEq, or_self, Zo, Zp, Zq, Zr, Zs, Zt, Zu, Zv, Zw, Zx, Zy, Zz, ZA, ZB, ZC, ZD, ZE, ZF, ZG, ZH, ZI, ZJ, ZK, ZL, ZM, ZN, ZO, ZP, ZQ, lenV, minV, maxV, hav, stC_one, ZR, ZS, ZT, ZU, ZV, ZW, ZX, ZY, ZZ, Z0, ones_gc, Z1, Z2, Z3, Z4, Z5, Z6, Z7, Z8, Z9, Ya, Yb, Yc, Yd, z8_len, Ye, Yf, wrap_u8, gc_s, gc_x, gc_o, Yg, Yh, Yi, Yj, Yk, Yl, Ym, Yn, Yo, eq_self, Int.reduceLE, Int.reduceLT, Yp, Yq, Yr, Ys, endQ_1, endQ_2, endQ_3, Yt, Yu, Yv, Yw, Yx, sliceV, loV, hiV, Yy, ZL, Int.reduceToNat, Yz, YA, YB, YC, YD, YE, YF, ne_eq, YG, Nat.reduceSub, YH, shOp, YI, bslQ, mksQ, appQ, partsOk, partsCells, delB, YJ, YK, tab_len, YL, YM, YN, YO, eqL_gc, eqL, SameI, YP, YQ, hl, hm, pl, ql, d1, d2, d3, d4, d5, d6, f1, f2, f3]
      exact ⟨b, len, cap, rest, rfl, hlen, hcap, hrest, rfl⟩
  clear hK
  simp (maxSteps := 2000000) (disch := first | (simp only [Z9, Ya, Yb, Yc, Yd, z8_len, Ye, ZN, ZO, tab_len, hl, hm, pl, ql] <;> omega) | omega | fail) only [↓YS, ↓YT, YU, YV, YW, YX, bare, bareJ, evP, ↓Za, ↓Zb, ↓Zc, ↓Zd, Ze, ↓Zf, ↓Zg, ↓Zh, evPlan, env0, envN, evOps, evOp, evQs, evQ, evV, setD, pureOp, ev, upd, updL, gate, binW, eqOp, binV, intOp, shOp, boolOp, unV, convV, nilV, fieldAddrV, indexAddrV, extractV, cellAt, cellsAt, findB, setB, fillL, buildV, Value.cells, Zj, Zk, Nat.reduceAdd, Nat.reduceLT, Nat.reduceEqDiff, Nat.reduceMul, Nat.reduceLeDiff, Zl, Zm, if_true, Zn, ↓reduceIte, reduceCtorEq, or_self, Zo, Zp, Zq, Zr, Zs, Zt, Zu, Zv, Zw, Zx, Zy, Zz, ZA, ZB, ZC, ZD, ZE, ZF, ZG, ZH, ZI, ZJ, ZK, ZL, ZM, ZN, ZO, ZP, ZQ, lenV, minV, maxV, hav, stC_one, ZR, ZS, ZT, ZU, ZV, ZW, ZX, ZY, ZZ, Z0, ones_gc, Z1, Z2, Z3, Z4, Z5, Z6, Z7, Z8, Z9, Ya, Yb, Yc, Yd, z8_len, Ye, Yf, wrap_u8, gc_s, gc_x, gc_o, Yg, Yh, Yi, Yj, Yk, Yl, Ym, Yn, Yo, eq_self, Int.reduceLE, Int.reduceLT, Yp, Yq, Yr, Ys, endQ_1, endQ_2, endQ_3, Yt, Yu, Yv, Yw, Yx, sliceV, loV, hiV, Yy, ZL, Int.reduceToNat, Yz, YA, YB, YC, YD, YE, YF, ne_eq, YG, Nat.reduceSub, YH, shOp, YI, bslQ, mksQ, appQ, partsOk, partsCells, delB, YJ, YK, tab_len, YL, YM, YN, YO, eqL_gc, eqL, SameI, YP, YQ, Tby117, Tfld27_1, Tfld27_2, Tld22, Tld27, Tslc114, Tslce114, Tst109, Tzero109, Tzero117, ↓YR, hl, hm, pl, ql]
  refine callP_gives (places_c n x o x hx ho hx hn px) ?_
  simp (maxSteps := 2000000) (disch := first | (simp only [Z9, Ya, Yb, Yc, Yd, z8_len, Ye, ZN, ZO, tab_len, hl, hm, pl, ql] <;> omega) | omega | fail) only [↓YS, ↓YT, YU, YV, YW, YX, bare, bareJ, evP, ↓Za, ↓Zb, ↓Zc, ↓Zd, Ze, ↓Zf, ↓Zg, ↓Zh, evPlan, env0, envN, evOps, evOp, evQs, evQ, evV, setD, pureOp, ev, upd, updL, gate, binW, eqOp, binV, intOp, shOp, boolOp, unV, convV, nilV, fieldAddrV, indexAddrV, extractV, cellAt, cellsAt, findB, setB, fillL, buildV, Value.cells, Zj, Zk, Nat.reduceAdd, Nat.reduceLT, Nat.reduceEqDiff, Nat.reduceMul, Nat.reduceLeDiff, Zl, Zm, if_true, Zn, ↓reduceIte, reduceCtorEq, or_self, Zo, Zp, Zq, Zr, Zs, Zt, Zu, Zv, Zw, Zx, Zy, Zz, ZA, ZB, ZC, ZD, ZE, ZF, ZG, ZH, ZI, ZJ, ZK, ZL, ZM, ZN, ZO, ZP, ZQ, lenV, minV, maxV, hav, stC_one, ZR, ZS, ZT, ZU, ZV, ZW, ZX, ZY, ZZ, Z0, ones_gc, Z1, Z2, Z3, Z4, Z5, Z6, Z7, Z8, Z9, Ya, Yb, Yc, Yd, z8_len, Ye, Yf, wrap_u8, gc_s, gc_x, gc_o, Yg, Yh, Yi, Yj, Yk, Yl, Ym, Yn, Yo, eq_self, Int.reduceLE, Int.reduceLT, Yp, Yq, Yr, Ys, endQ_1, endQ_2, endQ_3, Yt, Yu, Yv, Yw, Yx, sliceV, loV, hiV, Yy, ZL, Int.reduceToNat, Yz, YA, YB, YC, YD, YE, YF, ne_eq, YG, Nat.reduceSub, YH, shOp, YI, bslQ, mksQ, appQ, partsOk, partsCells, delB, YJ, YK, tab_len, YL, YM, YN, YO, eqL_gc, eqL, SameI, YP, YQ, Tby117, Tfld27_1, Tfld27_2, Tld22, Tld27, Tslc114, Tslce114, Tst109, Tzero109, Tzero117, ↓YR, hl, hm, pl, ql]
  refine callP_gives (places_c n x o o hx ho ho hn po) ?_
  simp (maxSteps := 2000000) (disch := first | (simp only [Z9, Ya, Yb, Yc, Yd, z8_len, Ye, ZN, ZO, tab_len, hl, hm, pl, ql] <;> omega) | omega | fail) only [↓YS, ↓YT, YU, YV, YW, YX, bare, bareJ, evP, ↓Za, ↓Zb, ↓Zc, ↓Zd, Ze, ↓Zf, ↓Zg, ↓Zh, evPlan, env0, envN, evOps, evOp, evQs, evQ, evV, setD, pureOp, ev, upd, updL, gate, binW, eqOp, binV, intOp, shOp, boolOp, unV, convV, nilV, fieldAddrV, indexAddrV, extractV, cellAt, cellsAt, findB, setB, fillL, buildV, Value.cells, Zj, Zk, Nat.reduceAdd, Nat.reduceLT, Nat.reduceEqDiff, Nat.reduceMul, Nat.reduceLeDiff, Zl, Zm, if_true, Zn, ↓reduceIte, reduceCtorEq, or_self, Zo, Zp, Zq, Zr, Zs, Zt, Zu, Zv, Zw, Zx, Zy, Zz, ZA, ZB, ZC, ZD, ZE, ZF, ZG, ZH, ZI, ZJ, ZK, ZL, ZM, ZN, ZO, ZP, ZQ, lenV, minV, maxV, hav, stC_one, ZR, ZS, ZT, ZU, ZV, ZW, ZX, ZY, ZZ, Z0, ones_gc, Z1, Z2, Z3, Z4, Z5, Z6, Z7, Z8, Z9, Ya, Yb, Yc, Yd, z8_len, Ye, Yf, wrap_u8, gc_s, gc_x, gc_o, Yg, Yh, Yi, Yj, Yk, Yl, Ym, Yn, Yo, eq_self, Int.reduceLE, Int.reduceLT, Yp, Yq, Yr, Ys, endQ_1, endQ_2, endQ_3, Yt, Yu, Yv, Yw, Yx, sliceV, loV, hiV, Yy, ZL, Int.reduceToNat, Yz, YA, YB, YC, YD, YE, YF, ne_eq, YG, Nat.reduceSub, YH, shOp, YI, bslQ, mksQ, appQ, partsOk, partsCells, delB, YJ, YK, tab_len, YL, YM, YN, YO, eqL_gc, eqL, SameI, YP, YQ, Tby117, Tfld27_1, Tfld27_2, Tld22, Tld27, Tslc114, Tslce114, Tst109, Tzero109, Tzero117, ↓YR, hl, hm, pl, ql]
  repeat' first
      | omega
      | refine moreX_go ?_ ?_
      | with_reducible refine And.intro ?_ ?_
      | (with_reducible intro (b : Nat) (hb : Fresh _ _ b); have hb := hb.all; simp only [List.mem_cons, List.not_mem_nil, forall_eq_or_imp, or_false, forall_eq, false_implies, implies_true, and_true] at hb)
      | simp (maxSteps := 2000000) (disch := first | (simp only [Z9, Ya, Yb, Yc, Yd, z8_len, Ye, ZN, ZO, tab_len, hl, hm, pl, ql] <;> omega) | omega | fail) only [↓YS, ↓YT, YU, YV, YW, YX, bare, bareJ, evP, ↓Za, ↓Zb, ↓Zc, ↓Zd, Ze, ↓Zf, ↓Zg, ↓Zh, evPlan, env0, envN, evOps, evOp, evQs, evQ, evV, setD, pureOp, ev, upd, updL, gate, binW, eqOp, binV, intOp, shOp, boolOp, unV, convV, nilV, fieldAddrV, indexAddrV, extractV, cellAt, cellsAt, findB, setB, fillL, buildV, Value.cells, Zj, Zk, Nat.reduceAdd, Nat.reduceLT, Nat.reduceEqDiff, Nat.reduceMul, Nat.reduceLeDiff, Zl, Zm, if_true, Zn, ↓reduceIte, reduceCtorEq, or_self, Zo, Zp, Zq, Zr, Zs, Zt, Zu, Zv, Zw, Zx, Zy, Zz, ZA, ZB, ZC, ZD, ZE, ZF, ZG, ZH, ZI, ZJ, ZK, ZL, ZM, ZN, ZO, ZP, ZQ, lenV, minV, maxV, hav, stC_one, ZR, ZS, ZT, ZU, ZV, ZW, ZX, ZY, ZZ, Z0, ones_gc, Z1, Z2, Z3, Z4, Z5, Z6, Z7, Z8, Z9, Ya, Yb, Yc, Yd, z8_len, Ye, Yf, wrap_u8, gc_s, gc_x, gc_o, Yg, Yh, Yi, Yj, Yk, Yl, Ym, Yn, Yo, eq_self, Int.reduceLE, Int.reduceLT, Yp, Yq, Yr, Ys, endQ_1, endQ_2, endQ_3, Yt, Yu, Yv, Yw, Yx, sliceV, loV, hiV, Yy, ZL, Int.reduceToNat, Yz, YA, YB, YC, YD, YE, YF, ne_eq, YG, Nat.reduceSub, YH, shOp, YI, bslQ, mksQ, appQ, partsOk, partsCells, delB, YJ, YK, tab_len, YL, YM, YN, YO, eqL_gc, eqL, SameI, YP, YQ, Tby117, Tfld27_1, Tfld27_2, Tld22, Tld27, Tslc114, Tslce114, Tst109, Tzero109, Tzero117, ↓YR, hl, hm, pl, ql, *]
  all_goals
    repeat refine And.intro (by omega) ?_
    intro g
    simp only [List.map_cons, List.map_nil, updL, upd, Nat.reduceEqDiff, if_true, if_false, ↓reduceIte]
    first
    | exact J g _ _ _ _ (.refl _)
    | exact J g _ _ _ _ (.swap ..)
    | exact J g _ _ _ _ (.cons _ (.swap ..))
    | exact J g _ _ _ _ (.trans (.swap ..) (.cons _ (.swap ..)))
    | exact J g _ _ _ _ (.trans (.cons _ (.swap ..)) (.swap ..))
    | exact J g _ _ _ _ (.trans (.swap ..) (.trans (.cons _ (.swap ..)) (.swap ..)))
end

end Go.Proofs
