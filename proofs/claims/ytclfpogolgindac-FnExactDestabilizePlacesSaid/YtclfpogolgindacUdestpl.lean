/-
  What the functions of this part hand back: each as a plain function of its arguments. Conditions: none.
-/
import Derived.Test.YtclfpogolgindacFx
import Derived.Test.YtclfpogolgindacUshrunk
import Derived.Test.YtclfpogolgindacUbackspec
import Derived.Test.YtclfpogolgindacUdestab
import Derived.Test.YtclfpogolgindacUwrapkit
import Derived.Test.YtclfpogolgindacUseqss
namespace Go.Proofs
open Go.W8
set_option linter.unusedVariables false
set_option linter.unusedSimpArgs false
set_option linter.unusedSectionVars false
set_option maxRecDepth 8000
set_option maxHeartbeats 4000000
def plRow (x o : List Int) (i : Nat) : Nat → List (List Int)
  | 0 => []
  | r + 1 => plRow x o i r ++ if (bkFind x o i (r : Int)).isSome then [[(i : Int), (r : Int)]] else []
def plTo (x o : List Int) (m : Nat) : Nat → List (List Int)
  | 0 => []
  | i + 1 => plTo x o m i ++ plRow x o i m
theorem plRow_yes {x o : List Int} {i r : Nat} (h : (bkFind x o i (r : Int)).isSome = true) : plRow x o i (r + 1) = plRow x o i r ++ [[(i : Int), (r : Int)]] := by
  show _ ++ (if _ then _ else _) = _
  rw [if_pos h]
theorem plRow_no {x o : List Int} {i r : Nat} (h : ¬ (bkFind x o i (r : Int)).isSome = true) : plRow x o i (r + 1) = plRow x o i r := by
  show _ ++ (if _ then _ else _) = _
  rw [if_neg h, List.append_nil]
theorem sumL_append : ∀ (l l' : List (List Int)), sumL (l ++ l') = sumL l + sumL l'
  | [], l' => by simp [sumL]
  | a :: l, l' => by
    simp only [List.cons_append, sumL, sumL_append l l']
    omega
theorem plRow_bound (x o : List Int) (i : Nat) : ∀ r, (plRow x o i r).length ≤ r ∧ sumL (plRow x o i r) ≤ 2 * r
  | 0 => by simp [plRow, sumL]
  | r + 1 => by
    have ih := plRow_bound x o i r
    unfold plRow
    rw [List.length_append, sumL_append]
    split
    · simp [sumL]; omega
    · simp [sumL]; omega
theorem plTo_bound (x o : List Int) (m : Nat) (hm : m ≤ 8) : ∀ i, (plTo x o m i).length ≤ 8 * i ∧ sumL (plTo x o m i) ≤ 16 * i
  | 0 => by simp [plTo, sumL]
  | i + 1 => by
    have ih := plTo_bound x o m hm i
    have := plRow_bound x o i m
    unfold plTo
    rw [List.length_append, sumL_append]
    omega
/-- A grid, a way and a truth. -/
theorem shr_shape {n : Nat} {x o : List Int} {i : Nat} {r : Int} : ∃ gv mv, shrR n x o i r = .tuple #[.agg gv, .agg mv, .bool (bkFind x o i r).isSome] ∧ gv.size = 17 ∧ Ones gv.toList ∧ mv.size = 4 ∧ Ones mv.toList := by
  unfold shrR
  have ge : ∀ (s : Int) (x o : List Int), x.length = 8 → o.length = 8 → (gc s x o).toArray.size = 17 := fun s x o h h' => by rw [List.size_toArray, gc_length, h, h']
  cases bkFind x o i r with
  | some k => exact ⟨_, _, rfl, ge _ _ _ (tab_len _) (tab_len _), gc_one _ _ _, rfl, by simp [Ones, Value.oneCell']⟩
  | none => exact ⟨_, _, rfl, ge _ _ _ rfl rfl, gc_one _ _ _, rfl, by simp [Ones, Value.oneCell']⟩
theorem back_shape {n : Nat} {x o : List Int} {i : Nat} {r : Int} : ∃ gv mv, backR n x o i r = .tuple #[.agg gv, .agg mv, .bool (bkFind x o i r).isSome] ∧ gv.size = 17 ∧ Ones gv.toList ∧ mv.size = 6 ∧ Ones mv.toList := by
  unfold backR
  have ge : ∀ (s : Int) (x o : List Int), x.length = 8 → o.length = 8 → (gc s x o).toArray.size = 17 := fun s x o h h' => by rw [List.size_toArray, gc_length, h, h']
  cases bkFind x o i r with
  | some k => exact ⟨_, _, rfl, ge _ _ _ (tab_len _) (tab_len _), gc_one _ _ _, rfl, by simp [Ones, Value.oneCell']⟩
  | none => exact ⟨_, _, rfl, ge _ _ _ rfl rfl, gc_one _ _ _, rfl, by simp [Ones, Value.oneCell']⟩
section
variable (n : Nat) (x o : List Int) (hx : Bytes8 x) (ho : Bytes8 o) (hn2 : 2 ≤ n) (hn : n ≤ 8) (px : IsPerm x n) (po : IsPerm o n) (hd : ∀ c, c < n → x.getD c 0 ≠ o.getD c 0)
include hx ho hn2 hn px po hd
theorem iDestabilizePlaces1_c : GivesX Try.prog 104 #[.agg (gc (n : Int) x o).toArray] [] [] (SlSl (plTo x o (n - 1) (n - 1))) := by
  have hl := hx.len
  have hm := ho.len
  have en : (n : Int) - 1 = ((n - 1 : Nat) : Int) := by omega
  skip
  refine GivesX.of (callable_of Try.func104 rfl (by decide)) ?_ fun w hnd hlt hR => ?_
  · simp
  refine acall_of (N := 40) (c := _) (rs := [.tmp 2]) (args := [_]) Try.func104 rfl (by decide) rfl rfl (Nat.le_of_ble_eq_true rfl) ?_
  refine Cd.rs [1] fun K hK => ?_
  simp (maxSteps := 2000000) (disch := first | (simp only [Z9, Ya, Yb, Yc, Yd, z8_len, Ye, ZN, ZO, tab_len, hl, hm, en] <;> omega) | omega | fail) only [↓YS, ↓YT, YU, YV, YW, YX, bare, bareJ, evP, ↓Za, ↓Zb, ↓Zc, ↓Zd, Ze, ↓Zf, ↓Zg, ↓Zh, evPlan, env0, envN, evOps, evOp, evQs, evQ, evV, setD, pureOp, ev, upd, updL, gate, binW, eqOp, binV, intOp, shOp, boolOp, unV, convV, nilV, fieldAddrV, indexAddrV, extractV, cellAt, cellsAt, findB, setB, fillL, buildV, Value.cells, Zj, Zk, Nat.reduceAdd, Nat.reduceLT, Nat.reduceEqDiff, Nat.reduceMul, Nat.reduceLeDiff, Zl, Zm, if_true, Zn, ↓reduceIte, reduceCtorEq, or_self, Zo, Zp, Zq, Zr, Zs, Zt, Zu, Zv, Zw, Zx, Zy, Zz, ZA, ZB, ZC, ZD, ZE, ZF, ZG, ZH, ZI, ZJ, ZK, ZL, ZM, ZN, ZO, ZP, ZQ, lenV, minV, maxV, hav, stC_one, ZR, ZS, ZT, ZU, ZV, ZW, ZX, ZY, ZZ, Z0, ones_gc, Z1, Z2, Z3, Z4, Z5, Z6, Z7, Z8, Z9, Ya, Yb, Yc, Yd, z8_len, Ye, Yf, wrap_u8, gc_s, gc_x, gc_o, Yg, Yh, Yi, Yj, Yk, Yl, Ym, Yn, Yo, eq_self, Int.reduceLE, Int.reduceLT, Yp, Yq, Yr, Ys, endQ_1, endQ_2, endQ_3, Yt, Yu, Yv, Yw, Yx, sliceV, loV, hiV, Yy, ZL, Int.reduceToNat, Yz, YA, YB, YC, YD, YE, YF, ne_eq, YG, Nat.reduceSub, YH, shOp, YI, bslQ, mksQ, appQ, partsOk, partsCells, delB, YJ, YK, tab_len, YL, YM, YN, YO, eqL_gc, eqL, SameI, YP, YQ, hl, hm, en]
  repeat refine And.intro (by omega) ?_
  intro b1 hb1
  try simp (maxSteps := 2000000) (disch := first | (simp only [Z9, Ya, Yb, Yc, Yd, z8_len, Ye, ZN, ZO, tab_len, hl, hm, en] <;> omega) | omega | fail) only [↓YS, ↓YT, YU, YV, YW, YX, bare, bareJ, evP, ↓Za, ↓Zb, ↓Zc, ↓Zd, Ze, ↓Zf, ↓Zg, ↓Zh, evPlan, env0, envN, evOps, evOp, evQs, evQ, evV, setD, pureOp, ev, upd, updL, gate, binW, eqOp, binV, intOp, shOp, boolOp, unV, convV, nilV, fieldAddrV, indexAddrV, extractV, cellAt, cellsAt, findB, setB, fillL, buildV, Value.cells, Zj, Zk, Nat.reduceAdd, Nat.reduceLT, Nat.reduceEqDiff, Nat.reduceMul, Nat.reduceLeDiff, Zl, Zm, if_true, Zn, ↓reduceIte, reduceCtorEq, or_self, Zo, Zp, Zq, Zr, Zs, Zt, Zu, Zv, Zw, Zx, Zy, Zz, ZA, ZB, ZC, ZD, ZE, ZF, ZG, ZH, ZI, ZJ, ZK, ZL, ZM, ZN, ZO, ZP, ZQ, lenV, minV, maxV, hav, stC_one, ZR, ZS, ZT, ZU, ZV, ZW, ZX, ZY, ZZ, Z0, ones_gc, Z1, Z2, Z3, Z4, Z5, Z6, Z7, Z8, Z9, Ya, Yb, Yc, Yd, z8_len, Ye, Yf, wrap_u8, gc_s, gc_x, gc_o, Yg, Yh, Yi, Yj, Yk, Yl, Ym, Yn, Yo, eq_self, Int.reduceLE, Int.reduceLT, Yp, Yq, Yr, Ys, endQ_1, endQ_2, endQ_3, Yt, Yu, Yv, Yw, Yx, sliceV, loV, hiV, Yy, ZL, Int.reduceToNat, Yz, YA, YB, YC, YD, YE, YF, ne_eq, YG, Nat.reduceSub, YH, shOp, YI, bslQ, mksQ, appQ, partsOk, partsCells, delB, YJ, YK, tab_len, YL, YM, YN, YO, eqL_gc, eqL, SameI, YP, YQ, hl, hm, en]
  repeat refine And.intro (by omega) ?_
  repeat refine And.intro (by omega) ?_
  intro g
  simp only [List.map_cons, List.map_nil, updL, upd, Nat.reduceEqDiff, if_true, if_false, ↓reduceIte]
  refine hK _ _ ?_; clear hK K
  refine Cd.rs [1, 3] fun K hK => ?_
  simp (maxSteps := 2000000) (disch := first | (simp only [Z9, Ya, Yb, Yc, Yd, z8_len, Ye, ZN, ZO, tab_len, hl, hm, en] <;> omega) | omega | fail) only [↓YS, ↓YT, YU, YV, YW, YX, bare, bareJ, evP, ↓Za, ↓Zb, ↓Zc, ↓Zd, Ze, ↓Zf, ↓Zg, ↓Zh, evPlan, env0, envN, evOps, evOp, evQs, evQ, evV, setD, pureOp, ev, upd, updL, gate, binW, eqOp, binV, intOp, shOp, boolOp, unV, convV, nilV, fieldAddrV, indexAddrV, extractV, cellAt, cellsAt, findB, setB, fillL, buildV, Value.cells, Zj, Zk, Nat.reduceAdd, Nat.reduceLT, Nat.reduceEqDiff, Nat.reduceMul, Nat.reduceLeDiff, Zl, Zm, if_true, Zn, ↓reduceIte, reduceCtorEq, or_self, Zo, Zp, Zq, Zr, Zs, Zt, Zu, Zv, Zw, Zx, Zy, Zz, ZA, ZB, ZC, ZD, ZE, ZF, ZG, ZH, ZI, ZJ, ZK, ZL, ZM, ZN, ZO, ZP, ZQ, lenV, minV, maxV, hav, stC_one, ZR, ZS, ZT, ZU, ZV, ZW, ZX, ZY, ZZ, Z0, ones_gc, Z1, Z2, Z3, Z4, Z5, Z6, Z7, Z8, Z9, Ya, Yb, Yc, Yd, z8_len, Ye, Yf, wrap_u8, gc_s, gc_x, gc_o, Yg, Yh, Yi, Yj, Yk, Yl, Ym, Yn, Yo, eq_self, Int.reduceLE, Int.reduceLT, Yp, Yq, Yr, Ys, endQ_1, endQ_2, endQ_3, Yt, Yu, Yv, Yw, Yx, sliceV, loV, hiV, Yy, ZL, Int.reduceToNat, Yz, YA, YB, YC, YD, YE, YF, ne_eq, YG, Nat.reduceSub, YH, shOp, YI, bslQ, mksQ, appQ, partsOk, partsCells, delB, YJ, YK, tab_len, YL, YM, YN, YO, eqL_gc, eqL, SameI, YP, YQ, Tby39, Tslc33, Tslce33, Tzero39, hl, hm, en]
  repeat refine And.intro (by omega) ?_
  intro b2 hb2
  have nb2_b1 := hb2.ne
  try simp (maxSteps := 2000000) (disch := first | (simp only [Z9, Ya, Yb, Yc, Yd, z8_len, Ye, ZN, ZO, tab_len, hl, hm, en, nb2_b1] <;> omega) | omega | fail) only [↓YS, ↓YT, YU, YV, YW, YX, bare, bareJ, evP, ↓Za, ↓Zb, ↓Zc, ↓Zd, Ze, ↓Zf, ↓Zg, ↓Zh, evPlan, env0, envN, evOps, evOp, evQs, evQ, evV, setD, pureOp, ev, upd, updL, gate, binW, eqOp, binV, intOp, shOp, boolOp, unV, convV, nilV, fieldAddrV, indexAddrV, extractV, cellAt, cellsAt, findB, setB, fillL, buildV, Value.cells, Zj, Zk, Nat.reduceAdd, Nat.reduceLT, Nat.reduceEqDiff, Nat.reduceMul, Nat.reduceLeDiff, Zl, Zm, if_true, Zn, ↓reduceIte, reduceCtorEq, or_self, Zo, Zp, Zq, Zr, Zs, Zt, Zu, Zv, Zw, Zx, Zy, Zz, ZA, ZB, ZC, ZD, ZE, ZF, ZG, ZH, ZI, ZJ, ZK, ZL, ZM, ZN, ZO, ZP, ZQ, lenV, minV, maxV, hav, stC_one, ZR, ZS, ZT, ZU, ZV, ZW, ZX, ZY, ZZ, Z0, ones_gc, Z1, Z2, Z3, Z4, Z5, Z6, Z7, Z8, Z9, Ya, Yb, Yc, Yd, z8_len, Ye, Yf, wrap_u8, gc_s, gc_x, gc_o, Yg, Yh, Yi, Yj, Yk, Yl, Ym, Yn, Yo, eq_self, Int.reduceLE, Int.reduceLT, Yp, Yq, Yr, Ys, endQ_1, endQ_2, endQ_3, Yt, Yu, Yv, Yw, Yx, sliceV, loV, hiV, Yy, ZL, Int.reduceToNat, Yz, YA, YB, YC, YD, YE, YF, ne_eq, YG, Nat.reduceSub, YH, shOp, YI, bslQ, mksQ, appQ, partsOk, partsCells, delB, YJ, YK, tab_len, YL, YM, YN, YO, eqL_gc, eqL, SameI, YP, YQ, Tby39, Tslc33, Tslce33, Tzero39, hl, hm, en, nb2_b1]
  repeat refine And.intro (by omega) ?_
  repeat refine And.intro (by omega) ?_
  intro g
  simp only [List.map_cons, List.map_nil, updL, upd, Nat.reduceEqDiff, if_true, if_false, ↓reduceIte]
  refine hK _ _ ?_; clear hK K
  refine Cd.seq ?_
  refine Cd.rs [1, 3, 12, 13] fun K hK => ?_
  simp (maxSteps := 2000000) (disch := first | (simp only [Z9, Ya, Yb, Yc, Yd, z8_len, Ye, ZN, ZO, tab_len, hl, hm, en, nb2_b1] <;> omega) | omega | fail) only [↓YS, ↓YT, YU, YV, YW, YX, bare, bareJ, evP, ↓Za, ↓Zb, ↓Zc, ↓Zd, Ze, ↓Zf, ↓Zg, ↓Zh, evPlan, env0, envN, evOps, evOp, evQs, evQ, evV, setD, pureOp, ev, upd, updL, gate, binW, eqOp, binV, intOp, shOp, boolOp, unV, convV, nilV, fieldAddrV, indexAddrV, extractV, cellAt, cellsAt, findB, setB, fillL, buildV, Value.cells, Zj, Zk, Nat.reduceAdd, Nat.reduceLT, Nat.reduceEqDiff, Nat.reduceMul, Nat.reduceLeDiff, Zl, Zm, if_true, Zn, ↓reduceIte, reduceCtorEq, or_self, Zo, Zp, Zq, Zr, Zs, Zt, Zu, Zv, Zw, Zx, Zy, Zz, ZA, ZB, ZC, ZD, ZE, ZF, ZG, ZH, ZI, ZJ, ZK, ZL, ZM, ZN, ZO, ZP, ZQ, lenV, minV, maxV, hav, stC_one, ZR, ZS, ZT, ZU, ZV, ZW, ZX, ZY, ZZ, Z0, ones_gc, Z1, Z2, Z3, Z4, Z5, Z6, Z7, Z8, Z9, Ya, Yb, Yc, Yd, z8_len, Ye, Yf, wrap_u8, gc_s, gc_x, gc_o, Yg, Yh, Yi, Yj, Yk, Yl, Ym, Yn, Yo, eq_self, Int.reduceLE, Int.reduceLT, Yp, Yq, Yr, Ys, endQ_1, endQ_2, endQ_3, Yt, Yu, Yv, Yw, Yx, sliceV, loV, hiV, Yy, ZL, Int.reduceToNat, Yz, YA, YB, YC, YD, YE, YF, ne_eq, YG, Nat.reduceSub, YH, shOp, YI, bslQ, mksQ, appQ, partsOk, partsCells, delB, YJ, YK, tab_len, YL, YM, YN, YO, eqL_gc, eqL, SameI, YP, YQ, Tld25, hl, hm, en, nb2_b1]
  repeat refine And.intro (by omega) ?_
  refine callK_gives (n_c _ _ _ hl hm) ?_
  simp (maxSteps := 2000000) (disch := first | (simp only [Z9, Ya, Yb, Yc, Yd, z8_len, Ye, ZN, ZO, tab_len, hl, hm, en, nb2_b1] <;> omega) | omega | fail) only [↓YS, ↓YT, YU, YV, YW, YX, bare, bareJ, evP, ↓Za, ↓Zb, ↓Zc, ↓Zd, Ze, ↓Zf, ↓Zg, ↓Zh, evPlan, env0, envN, evOps, evOp, evQs, evQ, evV, setD, pureOp, ev, upd, updL, gate, binW, eqOp, binV, intOp, shOp, boolOp, unV, convV, nilV, fieldAddrV, indexAddrV, extractV, cellAt, cellsAt, findB, setB, fillL, buildV, Value.cells, Zj, Zk, Nat.reduceAdd, Nat.reduceLT, Nat.reduceEqDiff, Nat.reduceMul, Nat.reduceLeDiff, Zl, Zm, if_true, Zn, ↓reduceIte, reduceCtorEq, or_self, Zo, Zp, Zq, Zr, Zs, Zt, Zu, Zv, Zw, Zx, Zy, Zz, ZA, ZB, ZC, ZD, ZE, ZF, ZG, ZH, ZI, ZJ, ZK, ZL, ZM, ZN, ZO, ZP, ZQ, lenV, minV, maxV, hav, stC_one, ZR, ZS, ZT, ZU, ZV, ZW, ZX, ZY, ZZ, Z0, ones_gc, Z1, Z2, Z3, Z4, Z5, Z6, Z7, Z8, Z9, Ya, Yb, Yc, Yd, z8_len, Ye, Yf, wrap_u8, gc_s, gc_x, gc_o, Yg, Yh, Yi, Yj, Yk, Yl, Ym, Yn, Yo, eq_self, Int.reduceLE, Int.reduceLT, Yp, Yq, Yr, Ys, endQ_1, endQ_2, endQ_3, Yt, Yu, Yv, Yw, Yx, sliceV, loV, hiV, Yy, ZL, Int.reduceToNat, Yz, YA, YB, YC, YD, YE, YF, ne_eq, YG, Nat.reduceSub, YH, shOp, YI, bslQ, mksQ, appQ, partsOk, partsCells, delB, YJ, YK, tab_len, YL, YM, YN, YO, eqL_gc, eqL, SameI, YP, YQ, Tld25, hl, hm, en, nb2_b1]
  repeat refine And.intro (by omega) ?_
  repeat refine And.intro (by omega) ?_
  intro g
  simp only [List.map_cons, List.map_nil, updL, upd, Nat.reduceEqDiff, if_true, if_false, ↓reduceIte]
  refine hK _ _ ?_; clear hK K
  refine Cd.block ?_
  refine Cd.loop (fun q ρ M => ∃ g i m bo cap cs vs Mi, i + q = n - 1 ∧ Row 1 vs m cap cs ∧ RowsI (plTo x o (n - 1) i) vs Mi ∧ ρ = updL [(1, .pointer (some ⟨b1, 0, none⟩)), (3, .slice (some ⟨bo, 0, none⟩) m cap), (12, .int .i64 ((n - 1 : Nat) : Int)), (13, .int .i64 (i : Int))] g ∧
    List.Sublist ((bo, cs) :: (Mi ++ [(b1, gc (n : Int) x o)])) M) (n - 1) ⟨_, 0, 0, b2, 0, [], [], [], Nat.zero_add _, Row.nil 1, RowsI.nil, rfl, List.Sublist.refl _⟩ ?_
  rintro qo ρ M ⟨g, i, m, bo, cap, cs, vs, Mi, hi, hrow, hrows, rfl, hM⟩
  refine Cd.drop hM ?_
  clear hM M
  refine Cd.nodup fun hnd => ?_
  have f1 := findB_of (nodup_cases hnd).2 (b := b1) (cs := gc (n : Int) x o) (by simp)
  have d2 : ¬ bo = b1 := (nodup_cases hnd).1 (b1, gc (n : Int) x o) (by simp)
  skip
  skip
  clear hnd
  refine Cd.rs [1, 3, 12, 13, 14] fun K hK => ?_
  simp (maxSteps := 2000000) (disch := first | (simp only [Z9, Ya, Yb, Yc, Yd, z8_len, Ye, ZN, ZO, tab_len, hl, hm, en, nb2_b1, f1, d2] <;> omega) | omega | fail) only [↓YS, ↓YT, YU, YV, YW, YX, bare, bareJ, evP, ↓Za, ↓Zb, ↓Zc, ↓Zd, Ze, ↓Zf, ↓Zg, ↓Zh, evPlan, env0, envN, evOps, evOp, evQs, evQ, evV, setD, pureOp, ev, upd, updL, gate, binW, eqOp, binV, intOp, shOp, boolOp, unV, convV, nilV, fieldAddrV, indexAddrV, extractV, cellAt, cellsAt, findB, setB, fillL, buildV, Value.cells, Zj, Zk, Nat.reduceAdd, Nat.reduceLT, Nat.reduceEqDiff, Nat.reduceMul, Nat.reduceLeDiff, Zl, Zm, if_true, Zn, ↓reduceIte, reduceCtorEq, or_self, Zo, Zp, Zq, Zr, Zs, Zt, Zu, Zv, Zw, Zx, Zy, Zz, ZA, ZB, ZC, ZD, ZE, ZF, ZG, ZH, ZI, ZJ, ZK, ZL, ZM, ZN, ZO, ZP, ZQ, lenV, minV, maxV, hav, stC_one, ZR, ZS, ZT, ZU, ZV, ZW, ZX, ZY, ZZ, Z0, ones_gc, Z1, Z2, Z3, Z4, Z5, Z6, Z7, Z8, Z9, Ya, Yb, Yc, Yd, z8_len, Ye, Yf, wrap_u8, gc_s, gc_x, gc_o, Yg, Yh, Yi, Yj, Yk, Yl, Ym, Yn, Yo, eq_self, Int.reduceLE, Int.reduceLT, Yp, Yq, Yr, Ys, endQ_1, endQ_2, endQ_3, Yt, Yu, Yv, Yw, Yx, sliceV, loV, hiV, Yy, ZL, Int.reduceToNat, Yz, YA, YB, YC, YD, YE, YF, ne_eq, YG, Nat.reduceSub, YH, shOp, YI, bslQ, mksQ, appQ, partsOk, partsCells, delB, YJ, YK, tab_len, YL, YM, YN, YO, eqL_gc, eqL, SameI, YP, YQ, hl, hm, en, nb2_b1, f1, d2]
  repeat refine And.intro (by omega) ?_
  repeat refine And.intro (by omega) ?_
  intro g
  simp only [List.map_cons, List.map_nil, updL, upd, Nat.reduceEqDiff, if_true, if_false, ↓reduceIte]
  refine hK _ _ ?_; clear hK K
  refine Cd.seq ?_
  refine Cd.condd rfl (fun h1 => ?_) (fun h1 => ?_)
  · refine Cd.skip ?_
    refine thenN ?_
    refine Cd.seq ?_
    refine Cd.block ?_
    refine Cd.rs [1, 3, 4, 12, 13] fun K hK => ?_
    simp (maxSteps := 2000000) (disch := first | (simp only [Z9, Ya, Yb, Yc, Yd, z8_len, Ye, ZN, ZO, tab_len, hl, hm, en, nb2_b1, f1, d2] <;> omega) | omega | fail) only [↓YS, ↓YT, YU, YV, YW, YX, bare, bareJ, evP, ↓Za, ↓Zb, ↓Zc, ↓Zd, Ze, ↓Zf, ↓Zg, ↓Zh, evPlan, env0, envN, evOps, evOp, evQs, evQ, evV, setD, pureOp, ev, upd, updL, gate, binW, eqOp, binV, intOp, shOp, boolOp, unV, convV, nilV, fieldAddrV, indexAddrV, extractV, cellAt, cellsAt, findB, setB, fillL, buildV, Value.cells, Zj, Zk, Nat.reduceAdd, Nat.reduceLT, Nat.reduceEqDiff, Nat.reduceMul, Nat.reduceLeDiff, Zl, Zm, if_true, Zn, ↓reduceIte, reduceCtorEq, or_self, Zo, Zp, Zq, Zr, Zs, Zt, Zu, Zv, Zw, Zx, Zy, Zz, ZA, ZB, ZC, ZD, ZE, ZF, ZG, ZH, ZI, ZJ, ZK, ZL, ZM, ZN, ZO, ZP, ZQ, lenV, minV, maxV, hav, stC_one, ZR, ZS, ZT, ZU, ZV, ZW, ZX, ZY, ZZ, Z0, ones_gc, Z1, Z2, Z3, Z4, Z5, Z6, Z7, Z8, Z9, Ya, Yb, Yc, Yd, z8_len, Ye, Yf, wrap_u8, gc_s, gc_x, gc_o, Yg, Yh, Yi, Yj, Yk, Yl, Ym, Yn, Yo, eq_self, Int.reduceLE, Int.reduceLT, Yp, Yq, Yr, Ys, endQ_1, endQ_2, endQ_3, Yt, Yu, Yv, Yw, Yx, sliceV, loV, hiV, Yy, ZL, Int.reduceToNat, Yz, YA, YB, YC, YD, YE, YF, ne_eq, YG, Nat.reduceSub, YH, shOp, YI, bslQ, mksQ, appQ, partsOk, partsCells, delB, YJ, YK, tab_len, YL, YM, YN, YO, eqL_gc, eqL, SameI, YP, YQ, hl, hm, en, nb2_b1, f1, d2]
    repeat refine And.intro (by omega) ?_
    repeat refine And.intro (by omega) ?_
    intro g
    simp only [List.map_cons, List.map_nil, updL, upd, Nat.reduceEqDiff, if_true, if_false, ↓reduceIte]
    refine hK _ _ ?_; clear hK K
    refine Cd.rs [1, 3, 4, 12, 13, 18, 19] fun K hK => ?_
    simp (maxSteps := 2000000) (disch := first | (simp only [Z9, Ya, Yb, Yc, Yd, z8_len, Ye, ZN, ZO, tab_len, hl, hm, en, nb2_b1, f1, d2] <;> omega) | omega | fail) only [↓YS, ↓YT, YU, YV, YW, YX, bare, bareJ, evP, ↓Za, ↓Zb, ↓Zc, ↓Zd, Ze, ↓Zf, ↓Zg, ↓Zh, evPlan, env0, envN, evOps, evOp, evQs, evQ, evV, setD, pureOp, ev, upd, updL, gate, binW, eqOp, binV, intOp, shOp, boolOp, unV, convV, nilV, fieldAddrV, indexAddrV, extractV, cellAt, cellsAt, findB, setB, fillL, buildV, Value.cells, Zj, Zk, Nat.reduceAdd, Nat.reduceLT, Nat.reduceEqDiff, Nat.reduceMul, Nat.reduceLeDiff, Zl, Zm, if_true, Zn, ↓reduceIte, reduceCtorEq, or_self, Zo, Zp, Zq, Zr, Zs, Zt, Zu, Zv, Zw, Zx, Zy, Zz, ZA, ZB, ZC, ZD, ZE, ZF, ZG, ZH, ZI, ZJ, ZK, ZL, ZM, ZN, ZO, ZP, ZQ, lenV, minV, maxV, hav, stC_one, ZR, ZS, ZT, ZU, ZV, ZW, ZX, ZY, ZZ, Z0, ones_gc, Z1, Z2, Z3, Z4, Z5, Z6, Z7, Z8, Z9, Ya, Yb, Yc, Yd, z8_len, Ye, Yf, wrap_u8, gc_s, gc_x, gc_o, Yg, Yh, Yi, Yj, Yk, Yl, Ym, Yn, Yo, eq_self, Int.reduceLE, Int.reduceLT, Yp, Yq, Yr, Ys, endQ_1, endQ_2, endQ_3, Yt, Yu, Yv, Yw, Yx, sliceV, loV, hiV, Yy, ZL, Int.reduceToNat, Yz, YA, YB, YC, YD, YE, YF, ne_eq, YG, Nat.reduceSub, YH, shOp, YI, bslQ, mksQ, appQ, partsOk, partsCells, delB, YJ, YK, tab_len, YL, YM, YN, YO, eqL_gc, eqL, SameI, YP, YQ, Tld25, hl, hm, en, nb2_b1, f1, d2]
    repeat refine And.intro (by omega) ?_
    refine callK_gives (n_c _ _ _ hl hm) ?_
    simp (maxSteps := 2000000) (disch := first | (simp only [Z9, Ya, Yb, Yc, Yd, z8_len, Ye, ZN, ZO, tab_len, hl, hm, en, nb2_b1, f1, d2] <;> omega) | omega | fail) only [↓YS, ↓YT, YU, YV, YW, YX, bare, bareJ, evP, ↓Za, ↓Zb, ↓Zc, ↓Zd, Ze, ↓Zf, ↓Zg, ↓Zh, evPlan, env0, envN, evOps, evOp, evQs, evQ, evV, setD, pureOp, ev, upd, updL, gate, binW, eqOp, binV, intOp, shOp, boolOp, unV, convV, nilV, fieldAddrV, indexAddrV, extractV, cellAt, cellsAt, findB, setB, fillL, buildV, Value.cells, Zj, Zk, Nat.reduceAdd, Nat.reduceLT, Nat.reduceEqDiff, Nat.reduceMul, Nat.reduceLeDiff, Zl, Zm, if_true, Zn, ↓reduceIte, reduceCtorEq, or_self, Zo, Zp, Zq, Zr, Zs, Zt, Zu, Zv, Zw, Zx, Zy, Zz, ZA, ZB, ZC, ZD, ZE, ZF, ZG, ZH, ZI, ZJ, ZK, ZL, ZM, ZN, ZO, ZP, ZQ, lenV, minV, maxV, hav, stC_one, ZR, ZS, ZT, ZU, ZV, ZW, ZX, ZY, ZZ, Z0, ones_gc, Z1, Z2, Z3, Z4, Z5, Z6, Z7, Z8, Z9, Ya, Yb, Yc, Yd, z8_len, Ye, Yf, wrap_u8, gc_s, gc_x, gc_o, Yg, Yh, Yi, Yj, Yk, Yl, Ym, Yn, Yo, eq_self, Int.reduceLE, Int.reduceLT, Yp, Yq, Yr, Ys, endQ_1, endQ_2, endQ_3, Yt, Yu, Yv, Yw, Yx, sliceV, loV, hiV, Yy, ZL, Int.reduceToNat, Yz, YA, YB, YC, YD, YE, YF, ne_eq, YG, Nat.reduceSub, YH, shOp, YI, bslQ, mksQ, appQ, partsOk, partsCells, delB, YJ, YK, tab_len, YL, YM, YN, YO, eqL_gc, eqL, SameI, YP, YQ, Tld25, hl, hm, en, nb2_b1, f1, d2]
    repeat refine And.intro (by omega) ?_
    repeat refine And.intro (by omega) ?_
    intro g
    simp only [List.map_cons, List.map_nil, updL, upd, Nat.reduceEqDiff, if_true, if_false, ↓reduceIte]
    refine hK _ _ ?_; clear hK K
    refine Cd.block ?_
    refine Cd.loop (fun q ρ M => ∃ g r m bo cap cs vs Mi, r + q = n - 1 ∧ Row 1 vs m cap cs ∧ RowsI (plTo x o (n - 1) i ++ plRow x o i r) vs Mi ∧ ρ = updL [(1, .pointer (some ⟨b1, 0, none⟩)), (3, .slice (some ⟨bo, 0, none⟩) m cap), (4, .int .i64 (i : Int)), (12, .int .i64 ((n - 1 : Nat) : Int)), (13, .int .i64 (i : Int)), (18, .int .i64 ((n - 1 : Nat) : Int)), (19, .int .i64 (r : Int))] g ∧
      List.Sublist ((bo, cs) :: (Mi ++ [(b1, gc (n : Int) x o)])) M) (n - 1) ⟨_, 0, m, bo, cap, cs, vs, Mi, Nat.zero_add _, hrow, by rw [show plRow x o i 0 = [] from rfl, List.append_nil]; exact hrows, rfl, List.Sublist.refl _⟩ ?_
    clear f1 d2 hrow hrows
    rintro q ρ M ⟨g, r, m, bo, cap, cs, vs, Mi, hr, hrow, hrows, rfl, hM⟩
    refine Cd.drop hM ?_
    clear hM M
    refine Cd.nodup fun hnd => ?_
    have f1 := findB_of (nodup_cases hnd).2 (b := b1) (cs := gc (n : Int) x o) (by simp)
    have d2 : ¬ bo = b1 := (nodup_cases hnd).1 (b1, gc (n : Int) x o) (by simp)
    skip
    skip
    clear hnd
    have hv := hrow.len1
    have hv' := hrows.len
    have pb := plTo_bound x o (n - 1) (by omega) i
    have pr := plRow_bound x o i r
    rw [List.length_append] at hv'
    refine Cd.rs [1, 3, 4, 12, 13, 18, 19, 20] fun K hK => ?_
    simp (maxSteps := 2000000) (disch := first | (simp only [Z9, Ya, Yb, Yc, Yd, z8_len, Ye, ZN, ZO, tab_len, hl, hm, en, nb2_b1, f1, d2] <;> omega) | omega | fail) only [↓YS, ↓YT, YU, YV, YW, YX, bare, bareJ, evP, ↓Za, ↓Zb, ↓Zc, ↓Zd, Ze, ↓Zf, ↓Zg, ↓Zh, evPlan, env0, envN, evOps, evOp, evQs, evQ, evV, setD, pureOp, ev, upd, updL, gate, binW, eqOp, binV, intOp, shOp, boolOp, unV, convV, nilV, fieldAddrV, indexAddrV, extractV, cellAt, cellsAt, findB, setB, fillL, buildV, Value.cells, Zj, Zk, Nat.reduceAdd, Nat.reduceLT, Nat.reduceEqDiff, Nat.reduceMul, Nat.reduceLeDiff, Zl, Zm, if_true, Zn, ↓reduceIte, reduceCtorEq, or_self, Zo, Zp, Zq, Zr, Zs, Zt, Zu, Zv, Zw, Zx, Zy, Zz, ZA, ZB, ZC, ZD, ZE, ZF, ZG, ZH, ZI, ZJ, ZK, ZL, ZM, ZN, ZO, ZP, ZQ, lenV, minV, maxV, hav, stC_one, ZR, ZS, ZT, ZU, ZV, ZW, ZX, ZY, ZZ, Z0, ones_gc, Z1, Z2, Z3, Z4, Z5, Z6, Z7, Z8, Z9, Ya, Yb, Yc, Yd, z8_len, Ye, Yf, wrap_u8, gc_s, gc_x, gc_o, Yg, Yh, Yi, Yj, Yk, Yl, Ym, Yn, Yo, eq_self, Int.reduceLE, Int.reduceLT, Yp, Yq, Yr, Ys, endQ_1, endQ_2, endQ_3, Yt, Yu, Yv, Yw, Yx, sliceV, loV, hiV, Yy, ZL, Int.reduceToNat, Yz, YA, YB, YC, YD, YE, YF, ne_eq, YG, Nat.reduceSub, YH, shOp, YI, bslQ, mksQ, appQ, partsOk, partsCells, delB, YJ, YK, tab_len, YL, YM, YN, YO, eqL_gc, eqL, SameI, YP, YQ, hl, hm, en, nb2_b1, f1, d2]
    repeat refine And.intro (by omega) ?_
    repeat refine And.intro (by omega) ?_
    intro g
    simp only [List.map_cons, List.map_nil, updL, upd, Nat.reduceEqDiff, if_true, if_false, ↓reduceIte]
    refine hK _ _ ?_; clear hK K
    refine Cd.seq ?_
    refine Cd.condd rfl (fun h2 => ?_) (fun h2 => ?_)
    · have s1 := hrow.size1
      have s2 := hrow.le
      have hS := shrunk_c n x o hx ho hn px po hd i (by omega) (r : Int) (by omega) (by omega)
      obtain ⟨gv, mv, hR, g1, g2, m1, m2⟩ := shr_shape (n := n) (x := x) (o := o) (i := i) (r := (r : Int))
      rw [hR] at hS
      have g3 : gv.toList.length = 17 := g1
      have m3 : mv.toList.length = 4 := m1
      refine Cd.skip ?_
      refine thenN ?_
      refine Cd.seq ?_
      refine Cd.block ?_
      refine Cd.rs [1, 3, 4, 5, 12, 13, 18, 19] fun K hK => ?_
      simp (maxSteps := 2000000) (disch := first | (simp only [Z9, Ya, Yb, Yc, Yd, z8_len, Ye, ZN, ZO, tab_len, hl, hm, en, nb2_b1, f1, d2] <;> omega) | omega | fail) only [↓YS, ↓YT, YU, YV, YW, YX, bare, bareJ, evP, ↓Za, ↓Zb, ↓Zc, ↓Zd, Ze, ↓Zf, ↓Zg, ↓Zh, evPlan, env0, envN, evOps, evOp, evQs, evQ, evV, setD, pureOp, ev, upd, updL, gate, binW, eqOp, binV, intOp, shOp, boolOp, unV, convV, nilV, fieldAddrV, indexAddrV, extractV, cellAt, cellsAt, findB, setB, fillL, buildV, Value.cells, Zj, Zk, Nat.reduceAdd, Nat.reduceLT, Nat.reduceEqDiff, Nat.reduceMul, Nat.reduceLeDiff, Zl, Zm, if_true, Zn, ↓reduceIte, reduceCtorEq, or_self, Zo, Zp, Zq, Zr, Zs, Zt, Zu, Zv, Zw, Zx, Zy, Zz, ZA, ZB, ZC, ZD, ZE, ZF, ZG, ZH, ZI, ZJ, ZK, ZL, ZM, ZN, ZO, ZP, ZQ, lenV, minV, maxV, hav, stC_one, ZR, ZS, ZT, ZU, ZV, ZW, ZX, ZY, ZZ, Z0, ones_gc, Z1, Z2, Z3, Z4, Z5, Z6, Z7, Z8, Z9, Ya, Yb, Yc, Yd, z8_len, Ye, Yf, wrap_u8, gc_s, gc_x, gc_o, Yg, Yh, Yi, Yj, Yk, Yl, Ym, Yn, Yo, eq_self, Int.reduceLE, Int.reduceLT, Yp, Yq, Yr, Ys, endQ_1, endQ_2, endQ_3, Yt, Yu, Yv, Yw, Yx, sliceV, loV, hiV, Yy, ZL, Int.reduceToNat, Yz, YA, YB, YC, YD, YE, YF, ne_eq, YG, Nat.reduceSub, YH, shOp, YI, bslQ, mksQ, appQ, partsOk, partsCells, delB, YJ, YK, tab_len, YL, YM, YN, YO, eqL_gc, eqL, SameI, YP, YQ, hl, hm, en, nb2_b1, f1, d2]
      repeat refine And.intro (by omega) ?_
      repeat refine And.intro (by omega) ?_
      intro g
      simp only [List.map_cons, List.map_nil, updL, upd, Nat.reduceEqDiff, if_true, if_false, ↓reduceIte]
      refine hK _ _ ?_; clear hK K
      skip
      refine Cd.rs [1, 3, 4, 5, 8, 12, 13, 18, 19] fun K hK => ?_
      simp (maxSteps := 2000000) (disch := first | (simp only [Z9, Ya, Yb, Yc, Yd, z8_len, Ye, ZN, ZO, tab_len, hl, hm, en, nb2_b1, f1, d2, g1, g2, m1, m2, g3, m3] <;> omega) | omega | fail) only [↓YS, ↓YT, YU, YV, YW, YX, bare, bareJ, evP, ↓Za, ↓Zb, ↓Zc, ↓Zd, Ze, ↓Zf, ↓Zg, ↓Zh, evPlan, env0, envN, evOps, evOp, evQs, evQ, evV, setD, pureOp, ev, upd, updL, gate, binW, eqOp, binV, intOp, shOp, boolOp, unV, convV, nilV, fieldAddrV, indexAddrV, extractV, cellAt, cellsAt, findB, setB, fillL, buildV, Value.cells, Zj, Zk, Nat.reduceAdd, Nat.reduceLT, Nat.reduceEqDiff, Nat.reduceMul, Nat.reduceLeDiff, Zl, Zm, if_true, Zn, ↓reduceIte, reduceCtorEq, or_self, Zo, Zp, Zq, Zr, Zs, Zt, Zu, Zv, Zw, Zx, Zy, Zz, ZA, ZB, ZC, ZD, ZE, ZF, ZG, ZH, ZI, ZJ, ZK, ZL, ZM, ZN, ZO, ZP, ZQ, lenV, minV, maxV, hav, stC_one, ZR, ZS, ZT, ZU, ZV, ZW, ZX, ZY, ZZ, Z0, ones_gc, Z1, Z2, Z3, Z4, Z5, Z6, Z7, Z8, Z9, Ya, Yb, Yc, Yd, z8_len, Ye, Yf, wrap_u8, gc_s, gc_x, gc_o, Yg, Yh, Yi, Yj, Yk, Yl, Ym, Yn, Yo, eq_self, Int.reduceLE, Int.reduceLT, Yp, Yq, Yr, Ys, endQ_1, endQ_2, endQ_3, Yt, Yu, Yv, Yw, Yx, sliceV, loV, hiV, Yy, ZL, Int.reduceToNat, Yz, YA, YB, YC, YD, YE, YF, ne_eq, YG, Nat.reduceSub, YH, shOp, YI, bslQ, mksQ, appQ, partsOk, partsCells, delB, YJ, YK, tab_len, YL, YM, YN, YO, eqL_gc, eqL, SameI, YP, YQ, Tld25, Tst25, Tst75, Tzero25, Tzero75, hl, hm, en, nb2_b1, f1, d2, g1, g2, m1, m2, g3, m3]
      repeat refine And.intro (by omega) ?_
      refine callK_gives hS ?_
      simp (maxSteps := 2000000) (disch := first | (simp only [Z9, Ya, Yb, Yc, Yd, z8_len, Ye, ZN, ZO, tab_len, hl, hm, en, nb2_b1, f1, d2, g1, g2, m1, m2, g3, m3] <;> omega) | omega | fail) only [↓YS, ↓YT, YU, YV, YW, YX, bare, bareJ, evP, ↓Za, ↓Zb, ↓Zc, ↓Zd, Ze, ↓Zf, ↓Zg, ↓Zh, evPlan, env0, envN, evOps, evOp, evQs, evQ, evV, setD, pureOp, ev, upd, updL, gate, binW, eqOp, binV, intOp, shOp, boolOp, unV, convV, nilV, fieldAddrV, indexAddrV, extractV, cellAt, cellsAt, findB, setB, fillL, buildV, Value.cells, Zj, Zk, Nat.reduceAdd, Nat.reduceLT, Nat.reduceEqDiff, Nat.reduceMul, Nat.reduceLeDiff, Zl, Zm, if_true, Zn, ↓reduceIte, reduceCtorEq, or_self, Zo, Zp, Zq, Zr, Zs, Zt, Zu, Zv, Zw, Zx, Zy, Zz, ZA, ZB, ZC, ZD, ZE, ZF, ZG, ZH, ZI, ZJ, ZK, ZL, ZM, ZN, ZO, ZP, ZQ, lenV, minV, maxV, hav, stC_one, ZR, ZS, ZT, ZU, ZV, ZW, ZX, ZY, ZZ, Z0, ones_gc, Z1, Z2, Z3, Z4, Z5, Z6, Z7, Z8, Z9, Ya, Yb, Yc, Yd, z8_len, Ye, Yf, wrap_u8, gc_s, gc_x, gc_o, Yg, Yh, Yi, Yj, Yk, Yl, Ym, Yn, Yo, eq_self, Int.reduceLE, Int.reduceLT, Yp, Yq, Yr, Ys, endQ_1, endQ_2, endQ_3, Yt, Yu, Yv, Yw, Yx, sliceV, loV, hiV, Yy, ZL, Int.reduceToNat, Yz, YA, YB, YC, YD, YE, YF, ne_eq, YG, Nat.reduceSub, YH, shOp, YI, bslQ, mksQ, appQ, partsOk, partsCells, delB, YJ, YK, tab_len, YL, YM, YN, YO, eqL_gc, eqL, SameI, YP, YQ, Tld25, Tst25, Tst75, Tzero25, Tzero75, hl, hm, en, nb2_b1, f1, d2, g1, g2, m1, m2, g3, m3]
      repeat refine And.intro (by omega) ?_
      intro b3 hb3
      have nb3_bo := hb3.ne
      intro b4 hb4
      have nb4_b3 := hb4.ne
      have nb4_bo := hb4.tail.ne
      try simp (maxSteps := 2000000) (disch := first | (simp only [Z9, Ya, Yb, Yc, Yd, z8_len, Ye, ZN, ZO, tab_len, hl, hm, en, nb2_b1, f1, d2, g1, g2, m1, m2, g3, m3, nb3_bo, nb4_b3, nb4_bo] <;> omega) | omega | fail) only [↓YS, ↓YT, YU, YV, YW, YX, bare, bareJ, evP, ↓Za, ↓Zb, ↓Zc, ↓Zd, Ze, ↓Zf, ↓Zg, ↓Zh, evPlan, env0, envN, evOps, evOp, evQs, evQ, evV, setD, pureOp, ev, upd, updL, gate, binW, eqOp, binV, intOp, shOp, boolOp, unV, convV, nilV, fieldAddrV, indexAddrV, extractV, cellAt, cellsAt, findB, setB, fillL, buildV, Value.cells, Zj, Zk, Nat.reduceAdd, Nat.reduceLT, Nat.reduceEqDiff, Nat.reduceMul, Nat.reduceLeDiff, Zl, Zm, if_true, Zn, ↓reduceIte, reduceCtorEq, or_self, Zo, Zp, Zq, Zr, Zs, Zt, Zu, Zv, Zw, Zx, Zy, Zz, ZA, ZB, ZC, ZD, ZE, ZF, ZG, ZH, ZI, ZJ, ZK, ZL, ZM, ZN, ZO, ZP, ZQ, lenV, minV, maxV, hav, stC_one, ZR, ZS, ZT, ZU, ZV, ZW, ZX, ZY, ZZ, Z0, ones_gc, Z1, Z2, Z3, Z4, Z5, Z6, Z7, Z8, Z9, Ya, Yb, Yc, Yd, z8_len, Ye, Yf, wrap_u8, gc_s, gc_x, gc_o, Yg, Yh, Yi, Yj, Yk, Yl, Ym, Yn, Yo, eq_self, Int.reduceLE, Int.reduceLT, Yp, Yq, Yr, Ys, endQ_1, endQ_2, endQ_3, Yt, Yu, Yv, Yw, Yx, sliceV, loV, hiV, Yy, ZL, Int.reduceToNat, Yz, YA, YB, YC, YD, YE, YF, ne_eq, YG, Nat.reduceSub, YH, shOp, YI, bslQ, mksQ, appQ, partsOk, partsCells, delB, YJ, YK, tab_len, YL, YM, YN, YO, eqL_gc, eqL, SameI, YP, YQ, Tld25, Tst25, Tst75, Tzero25, Tzero75, hl, hm, en, nb2_b1, f1, d2, g1, g2, m1, m2, g3, m3, nb3_bo, nb4_b3, nb4_bo]
      repeat refine And.intro (by omega) ?_
      repeat refine And.intro (by omega) ?_
      intro g
      simp only [List.map_cons, List.map_nil, updL, upd, Nat.reduceEqDiff, if_true, if_false, ↓reduceIte]
      refine hK _ _ ?_; clear hK K
      refine Cd.drop (List.Sublist.cons _ (List.Sublist.cons _ (List.Sublist.refl _))) ?_
      skip
      refine Cd.rs [1, 3, 4, 5, 12, 13, 18, 19, 30] fun K hK => ?_
      simp (maxSteps := 2000000) (disch := first | (simp only [Z9, Ya, Yb, Yc, Yd, z8_len, Ye, ZN, ZO, tab_len, hl, hm, en, nb2_b1, f1, d2, g1, g2, m1, m2, g3, m3, nb3_bo, nb4_b3, nb4_bo] <;> omega) | omega | fail) only [↓YS, ↓YT, YU, YV, YW, YX, bare, bareJ, evP, ↓Za, ↓Zb, ↓Zc, ↓Zd, Ze, ↓Zf, ↓Zg, ↓Zh, evPlan, env0, envN, evOps, evOp, evQs, evQ, evV, setD, pureOp, ev, upd, updL, gate, binW, eqOp, binV, intOp, shOp, boolOp, unV, convV, nilV, fieldAddrV, indexAddrV, extractV, cellAt, cellsAt, findB, setB, fillL, buildV, Value.cells, Zj, Zk, Nat.reduceAdd, Nat.reduceLT, Nat.reduceEqDiff, Nat.reduceMul, Nat.reduceLeDiff, Zl, Zm, if_true, Zn, ↓reduceIte, reduceCtorEq, or_self, Zo, Zp, Zq, Zr, Zs, Zt, Zu, Zv, Zw, Zx, Zy, Zz, ZA, ZB, ZC, ZD, ZE, ZF, ZG, ZH, ZI, ZJ, ZK, ZL, ZM, ZN, ZO, ZP, ZQ, lenV, minV, maxV, hav, stC_one, ZR, ZS, ZT, ZU, ZV, ZW, ZX, ZY, ZZ, Z0, ones_gc, Z1, Z2, Z3, Z4, Z5, Z6, Z7, Z8, Z9, Ya, Yb, Yc, Yd, z8_len, Ye, Yf, wrap_u8, gc_s, gc_x, gc_o, Yg, Yh, Yi, Yj, Yk, Yl, Ym, Yn, Yo, eq_self, Int.reduceLE, Int.reduceLT, Yp, Yq, Yr, Ys, endQ_1, endQ_2, endQ_3, Yt, Yu, Yv, Yw, Yx, sliceV, loV, hiV, Yy, ZL, Int.reduceToNat, Yz, YA, YB, YC, YD, YE, YF, ne_eq, YG, Nat.reduceSub, YH, shOp, YI, bslQ, mksQ, appQ, partsOk, partsCells, delB, YJ, YK, tab_len, YL, YM, YN, YO, eqL_gc, eqL, SameI, YP, YQ, hl, hm, en, nb2_b1, f1, d2, g1, g2, m1, m2, g3, m3, nb3_bo, nb4_b3, nb4_bo]
      repeat refine And.intro (by omega) ?_
      repeat refine And.intro (by omega) ?_
      intro g
      simp only [List.map_cons, List.map_nil, updL, upd, Nat.reduceEqDiff, if_true, if_false, ↓reduceIte]
      refine hK _ _ ?_; clear hK K
      refine Cd.cond rfl (fun h3 => ?_) (fun h3 => ?_)
      · refine Cd.rr [1, 3, 4, 12, 13, 18, 19] fun K hK => ?_
        simp (maxSteps := 2000000) (disch := first | (simp only [Z9, Ya, Yb, Yc, Yd, z8_len, Ye, ZN, ZO, tab_len, hl, hm, en, nb2_b1, f1, d2, g1, g2, m1, m2, g3, m3, nb3_bo, nb4_b3, nb4_bo] <;> omega) | omega | fail) only [↓YS, ↓YT, YU, YV, YW, YX, bare, bareJ, evP, ↓Za, ↓Zb, ↓Zc, ↓Zd, Ze, ↓Zf, ↓Zg, ↓Zh, evPlan, env0, envN, evOps, evOp, evQs, evQ, evV, setD, pureOp, ev, upd, updL, gate, binW, eqOp, binV, intOp, shOp, boolOp, unV, convV, nilV, fieldAddrV, indexAddrV, extractV, cellAt, cellsAt, findB, setB, fillL, buildV, Value.cells, Zj, Zk, Nat.reduceAdd, Nat.reduceLT, Nat.reduceEqDiff, Nat.reduceMul, Nat.reduceLeDiff, Zl, Zm, if_true, Zn, ↓reduceIte, reduceCtorEq, or_self, Zo, Zp, Zq, Zr, Zs, Zt, Zu, Zv, Zw, Zx, Zy, Zz, ZA, ZB, ZC, ZD, ZE, ZF, ZG, ZH, ZI, ZJ, ZK, ZL, ZM, ZN, ZO, ZP, ZQ, lenV, minV, maxV, hav, stC_one, ZR, ZS, ZT, ZU, ZV, ZW, ZX, ZY, ZZ, Z0, ones_gc, Z1, Z2, Z3, Z4, Z5, Z6, Z7, Z8, Z9, Ya, Yb, Yc, Yd, z8_len, Ye, Yf, wrap_u8, gc_s, gc_x, gc_o, Yg, Yh, Yi, Yj, Yk, Yl, Ym, Yn, Yo, eq_self, Int.reduceLE, Int.reduceLT, Yp, Yq, Yr, Ys, endQ_1, endQ_2, endQ_3, Yt, Yu, Yv, Yw, Yx, sliceV, loV, hiV, Yy, ZL, Int.reduceToNat, Yz, YA, YB, YC, YD, YE, YF, ne_eq, YG, Nat.reduceSub, YH, shOp, YI, bslQ, mksQ, appQ, partsOk, partsCells, delB, YJ, YK, tab_len, YL, YM, YN, YO, eqL_gc, eqL, SameI, YP, YQ, Tby2, Tby39, Tslc33, Tslc39, Tslce33, Tslce39, Tzero2, Tzero39, hl, hm, en, nb2_b1, f1, d2, g1, g2, m1, m2, g3, m3, nb3_bo, nb4_b3, nb4_bo]
        repeat refine And.intro (by omega) ?_
        intro b5 hb5
        have nb5_bo := hb5.ne
        intro b6 hb6
        have nb6_b5 := hb6.ne
        have nb6_bo := hb6.tail.ne
        try simp (maxSteps := 2000000) (disch := first | (simp only [Z9, Ya, Yb, Yc, Yd, z8_len, Ye, ZN, ZO, tab_len, hl, hm, en, nb2_b1, f1, d2, g1, g2, m1, m2, g3, m3, nb3_bo, nb4_b3, nb4_bo, nb5_bo, nb6_b5, nb6_bo] <;> omega) | omega | fail) only [↓YS, ↓YT, YU, YV, YW, YX, bare, bareJ, evP, ↓Za, ↓Zb, ↓Zc, ↓Zd, Ze, ↓Zf, ↓Zg, ↓Zh, evPlan, env0, envN, evOps, evOp, evQs, evQ, evV, setD, pureOp, ev, upd, updL, gate, binW, eqOp, binV, intOp, shOp, boolOp, unV, convV, nilV, fieldAddrV, indexAddrV, extractV, cellAt, cellsAt, findB, setB, fillL, buildV, Value.cells, Zj, Zk, Nat.reduceAdd, Nat.reduceLT, Nat.reduceEqDiff, Nat.reduceMul, Nat.reduceLeDiff, Zl, Zm, if_true, Zn, ↓reduceIte, reduceCtorEq, or_self, Zo, Zp, Zq, Zr, Zs, Zt, Zu, Zv, Zw, Zx, Zy, Zz, ZA, ZB, ZC, ZD, ZE, ZF, ZG, ZH, ZI, ZJ, ZK, ZL, ZM, ZN, ZO, ZP, ZQ, lenV, minV, maxV, hav, stC_one, ZR, ZS, ZT, ZU, ZV, ZW, ZX, ZY, ZZ, Z0, ones_gc, Z1, Z2, Z3, Z4, Z5, Z6, Z7, Z8, Z9, Ya, Yb, Yc, Yd, z8_len, Ye, Yf, wrap_u8, gc_s, gc_x, gc_o, Yg, Yh, Yi, Yj, Yk, Yl, Ym, Yn, Yo, eq_self, Int.reduceLE, Int.reduceLT, Yp, Yq, Yr, Ys, endQ_1, endQ_2, endQ_3, Yt, Yu, Yv, Yw, Yx, sliceV, loV, hiV, Yy, ZL, Int.reduceToNat, Yz, YA, YB, YC, YD, YE, YF, ne_eq, YG, Nat.reduceSub, YH, shOp, YI, bslQ, mksQ, appQ, partsOk, partsCells, delB, YJ, YK, tab_len, YL, YM, YN, YO, eqL_gc, eqL, SameI, YP, YQ, Tby2, Tby39, Tslc33, Tslc39, Tslce33, Tslce39, Tzero2, Tzero39, hl, hm, en, nb2_b1, f1, d2, g1, g2, m1, m2, g3, m3, nb3_bo, nb4_b3, nb4_bo, nb5_bo, nb6_b5, nb6_bo]
        repeat refine And.intro (by omega) ?_
        intro b' cap' rest' hf hc hr'
        have hr2 := hrow.snoc1 (news := [.slice (some ⟨b5, 0, none⟩) 2 2]) rfl hc hr'
        repeat refine And.intro (by omega) ?_
        intro g
        simp only [List.map_cons, List.map_nil, updL, upd, Nat.reduceEqDiff, if_true, if_false, ↓reduceIte]
        refine hK _ _ ?_; clear hK K
        refine inBN ?_
        refine thenN ?_
        refine Cd.rr [1, 3, 4, 12, 13, 18, 19] fun K hK => ?_
        simp (maxSteps := 2000000) (disch := first | (simp only [Z9, Ya, Yb, Yc, Yd, z8_len, Ye, ZN, ZO, tab_len, hl, hm, en, nb2_b1, f1, d2, g1, g2, m1, m2, g3, m3, nb3_bo, nb4_b3, nb4_bo, nb5_bo, nb6_b5, nb6_bo] <;> omega) | omega | fail) only [↓YS, ↓YT, YU, YV, YW, YX, bare, bareJ, evP, ↓Za, ↓Zb, ↓Zc, ↓Zd, Ze, ↓Zf, ↓Zg, ↓Zh, evPlan, env0, envN, evOps, evOp, evQs, evQ, evV, setD, pureOp, ev, upd, updL, gate, binW, eqOp, binV, intOp, shOp, boolOp, unV, convV, nilV, fieldAddrV, indexAddrV, extractV, cellAt, cellsAt, findB, setB, fillL, buildV, Value.cells, Zj, Zk, Nat.reduceAdd, Nat.reduceLT, Nat.reduceEqDiff, Nat.reduceMul, Nat.reduceLeDiff, Zl, Zm, if_true, Zn, ↓reduceIte, reduceCtorEq, or_self, Zo, Zp, Zq, Zr, Zs, Zt, Zu, Zv, Zw, Zx, Zy, Zz, ZA, ZB, ZC, ZD, ZE, ZF, ZG, ZH, ZI, ZJ, ZK, ZL, ZM, ZN, ZO, ZP, ZQ, lenV, minV, maxV, hav, stC_one, ZR, ZS, ZT, ZU, ZV, ZW, ZX, ZY, ZZ, Z0, ones_gc, Z1, Z2, Z3, Z4, Z5, Z6, Z7, Z8, Z9, Ya, Yb, Yc, Yd, z8_len, Ye, Yf, wrap_u8, gc_s, gc_x, gc_o, Yg, Yh, Yi, Yj, Yk, Yl, Ym, Yn, Yo, eq_self, Int.reduceLE, Int.reduceLT, Yp, Yq, Yr, Ys, endQ_1, endQ_2, endQ_3, Yt, Yu, Yv, Yw, Yx, sliceV, loV, hiV, Yy, ZL, Int.reduceToNat, Yz, YA, YB, YC, YD, YE, YF, ne_eq, YG, Nat.reduceSub, YH, shOp, YI, bslQ, mksQ, appQ, partsOk, partsCells, delB, YJ, YK, tab_len, YL, YM, YN, YO, eqL_gc, eqL, SameI, YP, YQ, hl, hm, en, nb2_b1, f1, d2, g1, g2, m1, m2, g3, m3, nb3_bo, nb4_b3, nb4_bo, nb5_bo, nb6_b5, nb6_bo]
        repeat refine And.intro (by omega) ?_
        repeat refine And.intro (by omega) ?_
        intro g
        simp only [List.map_cons, List.map_nil, updL, upd, Nat.reduceEqDiff, if_true, if_false, ↓reduceIte]
        refine hK _ _ ?_; clear hK K
        refine roundN (m := q - 1) (by omega) ⟨_, r + 1, m + 1, b', cap', _, _, (b5, [.int .i64 (i : Int), .int .i64 (r : Int)]) :: Mi, by omega, hr2, ?_, rfl, List.Sublist.cons_cons _ (List.Sublist.cons _ (List.Sublist.refl _))⟩
        rw [plRow_yes h3, ← List.append_assoc]
        exact .snoc hrows (SlN.row (Row.full (l := ints .i64 [(i : Int), (r : Int)]) rfl))
      · refine Cd.skip ?_
        refine inBN ?_
        refine thenN ?_
        refine Cd.rr [1, 3, 4, 12, 13, 18, 19] fun K hK => ?_
        simp (maxSteps := 2000000) (disch := first | (simp only [Z9, Ya, Yb, Yc, Yd, z8_len, Ye, ZN, ZO, tab_len, hl, hm, en, nb2_b1, f1, d2, g1, g2, m1, m2, g3, m3, nb3_bo, nb4_b3, nb4_bo] <;> omega) | omega | fail) only [↓YS, ↓YT, YU, YV, YW, YX, bare, bareJ, evP, ↓Za, ↓Zb, ↓Zc, ↓Zd, Ze, ↓Zf, ↓Zg, ↓Zh, evPlan, env0, envN, evOps, evOp, evQs, evQ, evV, setD, pureOp, ev, upd, updL, gate, binW, eqOp, binV, intOp, shOp, boolOp, unV, convV, nilV, fieldAddrV, indexAddrV, extractV, cellAt, cellsAt, findB, setB, fillL, buildV, Value.cells, Zj, Zk, Nat.reduceAdd, Nat.reduceLT, Nat.reduceEqDiff, Nat.reduceMul, Nat.reduceLeDiff, Zl, Zm, if_true, Zn, ↓reduceIte, reduceCtorEq, or_self, Zo, Zp, Zq, Zr, Zs, Zt, Zu, Zv, Zw, Zx, Zy, Zz, ZA, ZB, ZC, ZD, ZE, ZF, ZG, ZH, ZI, ZJ, ZK, ZL, ZM, ZN, ZO, ZP, ZQ, lenV, minV, maxV, hav, stC_one, ZR, ZS, ZT, ZU, ZV, ZW, ZX, ZY, ZZ, Z0, ones_gc, Z1, Z2, Z3, Z4, Z5, Z6, Z7, Z8, Z9, Ya, Yb, Yc, Yd, z8_len, Ye, Yf, wrap_u8, gc_s, gc_x, gc_o, Yg, Yh, Yi, Yj, Yk, Yl, Ym, Yn, Yo, eq_self, Int.reduceLE, Int.reduceLT, Yp, Yq, Yr, Ys, endQ_1, endQ_2, endQ_3, Yt, Yu, Yv, Yw, Yx, sliceV, loV, hiV, Yy, ZL, Int.reduceToNat, Yz, YA, YB, YC, YD, YE, YF, ne_eq, YG, Nat.reduceSub, YH, shOp, YI, bslQ, mksQ, appQ, partsOk, partsCells, delB, YJ, YK, tab_len, YL, YM, YN, YO, eqL_gc, eqL, SameI, YP, YQ, hl, hm, en, nb2_b1, f1, d2, g1, g2, m1, m2, g3, m3, nb3_bo, nb4_b3, nb4_bo]
        repeat refine And.intro (by omega) ?_
        repeat refine And.intro (by omega) ?_
        intro g
        simp only [List.map_cons, List.map_nil, updL, upd, Nat.reduceEqDiff, if_true, if_false, ↓reduceIte]
        refine hK _ _ ?_; clear hK K
        refine roundN (m := q - 1) (by omega) ⟨_, r + 1, m, bo, cap, cs, _, Mi, by omega, hrow, ?_, rfl, List.Sublist.refl _⟩
        rw [plRow_no (by simpa using h3)]
        exact hrows
    · refine Cd.exit (thenX (roundX (inBX ?_)))
      refine inBN ?_
      refine thenN ?_
      obtain rfl : r = n - 1 := by omega
      refine Cd.rr [1, 3, 12, 13] fun K hK => ?_
      simp (maxSteps := 2000000) (disch := first | (simp only [Z9, Ya, Yb, Yc, Yd, z8_len, Ye, ZN, ZO, tab_len, hl, hm, en, nb2_b1, f1, d2] <;> omega) | omega | fail) only [↓YS, ↓YT, YU, YV, YW, YX, bare, bareJ, evP, ↓Za, ↓Zb, ↓Zc, ↓Zd, Ze, ↓Zf, ↓Zg, ↓Zh, evPlan, env0, envN, evOps, evOp, evQs, evQ, evV, setD, pureOp, ev, upd, updL, gate, binW, eqOp, binV, intOp, shOp, boolOp, unV, convV, nilV, fieldAddrV, indexAddrV, extractV, cellAt, cellsAt, findB, setB, fillL, buildV, Value.cells, Zj, Zk, Nat.reduceAdd, Nat.reduceLT, Nat.reduceEqDiff, Nat.reduceMul, Nat.reduceLeDiff, Zl, Zm, if_true, Zn, ↓reduceIte, reduceCtorEq, or_self, Zo, Zp, Zq, Zr, Zs, Zt, Zu, Zv, Zw, Zx, Zy, Zz, ZA, ZB, ZC, ZD, ZE, ZF, ZG, ZH, ZI, ZJ, ZK, ZL, ZM, ZN, ZO, ZP, ZQ, lenV, minV, maxV, hav, stC_one, ZR, ZS, ZT, ZU, ZV, ZW, ZX, ZY, ZZ, Z0, ones_gc, Z1, Z2, Z3, Z4, Z5, Z6, Z7, Z8, Z9, Ya, Yb, Yc, Yd, z8_len, Ye, Yf, wrap_u8, gc_s, gc_x, gc_o, Yg, Yh, Yi, Yj, Yk, Yl, Ym, Yn, Yo, eq_self, Int.reduceLE, Int.reduceLT, Yp, Yq, Yr, Ys, endQ_1, endQ_2, endQ_3, Yt, Yu, Yv, Yw, Yx, sliceV, loV, hiV, Yy, ZL, Int.reduceToNat, Yz, YA, YB, YC, YD, YE, YF, ne_eq, YG, Nat.reduceSub, YH, shOp, YI, bslQ, mksQ, appQ, partsOk, partsCells, delB, YJ, YK, tab_len, YL, YM, YN, YO, eqL_gc, eqL, SameI, YP, YQ, hl, hm, en, nb2_b1, f1, d2]
      repeat refine And.intro (by omega) ?_
      repeat refine And.intro (by omega) ?_
      intro g
      simp only [List.map_cons, List.map_nil, updL, upd, Nat.reduceEqDiff, if_true, if_false, ↓reduceIte]
      refine hK _ _ ?_; clear hK K
      exact roundN (m := qo - 1) (by omega) ⟨_, i + 1, m, bo, cap, cs, _, Mi, by omega, hrow, hrows, rfl, List.Sublist.refl _⟩
  · refine Cd.exit (thenX (roundX (inBX ?_)))
    refine thenN ?_
    obtain rfl : i = n - 1 := by omega
    refine Cd.rs [2] fun K hK => ?_
    simp (maxSteps := 2000000) (disch := first | (simp only [Z9, Ya, Yb, Yc, Yd, z8_len, Ye, ZN, ZO, tab_len, hl, hm, en, nb2_b1, f1, d2] <;> omega) | omega | fail) only [↓YS, ↓YT, YU, YV, YW, YX, bare, bareJ, evP, ↓Za, ↓Zb, ↓Zc, ↓Zd, Ze, ↓Zf, ↓Zg, ↓Zh, evPlan, env0, envN, evOps, evOp, evQs, evQ, evV, setD, pureOp, ev, upd, updL, gate, binW, eqOp, binV, intOp, shOp, boolOp, unV, convV, nilV, fieldAddrV, indexAddrV, extractV, cellAt, cellsAt, findB, setB, fillL, buildV, Value.cells, Zj, Zk, Nat.reduceAdd, Nat.reduceLT, Nat.reduceEqDiff, Nat.reduceMul, Nat.reduceLeDiff, Zl, Zm, if_true, Zn, ↓reduceIte, reduceCtorEq, or_self, Zo, Zp, Zq, Zr, Zs, Zt, Zu, Zv, Zw, Zx, Zy, Zz, ZA, ZB, ZC, ZD, ZE, ZF, ZG, ZH, ZI, ZJ, ZK, ZL, ZM, ZN, ZO, ZP, ZQ, lenV, minV, maxV, hav, stC_one, ZR, ZS, ZT, ZU, ZV, ZW, ZX, ZY, ZZ, Z0, ones_gc, Z1, Z2, Z3, Z4, Z5, Z6, Z7, Z8, Z9, Ya, Yb, Yc, Yd, z8_len, Ye, Yf, wrap_u8, gc_s, gc_x, gc_o, Yg, Yh, Yi, Yj, Yk, Yl, Ym, Yn, Yo, eq_self, Int.reduceLE, Int.reduceLT, Yp, Yq, Yr, Ys, endQ_1, endQ_2, endQ_3, Yt, Yu, Yv, Yw, Yx, sliceV, loV, hiV, Yy, ZL, Int.reduceToNat, Yz, YA, YB, YC, YD, YE, YF, ne_eq, YG, Nat.reduceSub, YH, shOp, YI, bslQ, mksQ, appQ, partsOk, partsCells, delB, YJ, YK, tab_len, YL, YM, YN, YO, eqL_gc, eqL, SameI, YP, YQ, hl, hm, en, nb2_b1, f1, d2]
    repeat refine And.intro (by omega) ?_
    repeat refine And.intro (by omega) ?_
    intro g
    simp only [List.map_cons, List.map_nil, updL, upd, Nat.reduceEqDiff, if_true, if_false, ↓reduceIte]
    refine hK _ _ ?_; clear hK K
    refine Cd.drop (M' := (bo, cs) :: Mi) (List.Sublist.cons_cons _ (List.sublist_append_left _ _)) ?_
    refine Cd.ret ?_
    simp (maxSteps := 2000000) (disch := first | (simp only [Z9, Ya, Yb, Yc, Yd, z8_len, Ye, ZN, ZO, tab_len, hl, hm, en, nb2_b1, f1, d2] <;> omega) | omega | fail) only [↓YS, ↓YT, YU, YV, YW, YX, bare, bareJ, evP, ↓Za, ↓Zb, ↓Zc, ↓Zd, Ze, ↓Zf, ↓Zg, ↓Zh, evPlan, env0, envN, evOps, evOp, evQs, evQ, evV, setD, pureOp, ev, upd, updL, gate, binW, eqOp, binV, intOp, shOp, boolOp, unV, convV, nilV, fieldAddrV, indexAddrV, extractV, cellAt, cellsAt, findB, setB, fillL, buildV, Value.cells, Zj, Zk, Nat.reduceAdd, Nat.reduceLT, Nat.reduceEqDiff, Nat.reduceMul, Nat.reduceLeDiff, Zl, Zm, if_true, Zn, ↓reduceIte, reduceCtorEq, or_self, Zo, Zp, Zq, Zr, Zs, Zt, Zu, Zv, Zw, Zx, Zy, Zz, ZA, ZB, ZC, ZD, ZE, ZF, ZG, ZH, ZI, ZJ, ZK, ZL, ZM, ZN, ZO, ZP, ZQ, lenV, minV, maxV, hav, stC_one, ZR, ZS, ZT, ZU, ZV, ZW, ZX, ZY, ZZ, Z0, ones_gc, Z1, Z2, Z3, Z4, Z5, Z6, Z7, Z8, Z9, Ya, Yb, Yc, Yd, z8_len, Ye, Yf, wrap_u8, gc_s, gc_x, gc_o, Yg, Yh, Yi, Yj, Yk, Yl, Ym, Yn, Yo, eq_self, Int.reduceLE, Int.reduceLT, Yp, Yq, Yr, Ys, endQ_1, endQ_2, endQ_3, Yt, Yu, Yv, Yw, Yx, sliceV, loV, hiV, Yy, ZL, Int.reduceToNat, Yz, YA, YB, YC, YD, YE, YF, ne_eq, YG, Nat.reduceSub, YH, shOp, YI, bslQ, mksQ, appQ, partsOk, partsCells, delB, YJ, YK, tab_len, YL, YM, YN, YO, eqL_gc, eqL, SameI, YP, YQ, hl, hm, en, nb2_b1, f1, d2]
    repeat refine And.intro (by omega) ?_
    exact .inr ⟨bo, m, cap, cs, vs, Mi, rfl, rfl, hrow, hrows⟩

theorem l02Places_c : GivesX Try.prog 103 #[.agg (gc (n : Int) x o).toArray] [] [] (SlSl (plTo x o (n - 1) (n - 1))) := by
  have hl := hx.len
  have hm := ho.len
  have en : (n : Int) - 1 = ((n - 1 : Nat) : Int) := by omega
  skip
  refine GivesX.of (callable_of Try.func103 rfl (by decide)) ?_ fun w hnd hlt hR => ?_
  · simp
  refine acall_of (N := 40) (c := _) (rs := [.tmp 2]) (args := [_]) Try.func103 rfl (by decide) rfl rfl (Nat.le_of_ble_eq_true rfl) ?_
  refine Cd.rs [1] fun K hK => ?_
  simp (maxSteps := 2000000) (disch := first | (simp only [Z9, Ya, Yb, Yc, Yd, z8_len, Ye, ZN, ZO, tab_len, hl, hm, en] <;> omega) | omega | fail) only [↓YS, ↓YT, YU, YV, YW, YX, bare, bareJ, evP, ↓Za, ↓Zb, ↓Zc, ↓Zd, Ze, ↓Zf, ↓Zg, ↓Zh, evPlan, env0, envN, evOps, evOp, evQs, evQ, evV, setD, pureOp, ev, upd, updL, gate, binW, eqOp, binV, intOp, shOp, boolOp, unV, convV, nilV, fieldAddrV, indexAddrV, extractV, cellAt, cellsAt, findB, setB, fillL, buildV, Value.cells, Zj, Zk, Nat.reduceAdd, Nat.reduceLT, Nat.reduceEqDiff, Nat.reduceMul, Nat.reduceLeDiff, Zl, Zm, if_true, Zn, ↓reduceIte, reduceCtorEq, or_self, Zo, Zp, Zq, Zr, Zs, Zt, Zu, Zv, Zw, Zx, Zy, Zz, ZA, ZB, ZC, ZD, ZE, ZF, ZG, ZH, ZI, ZJ, ZK, ZL, ZM, ZN, ZO, ZP, ZQ, lenV, minV, maxV, hav, stC_one, ZR, ZS, ZT, ZU, ZV, ZW, ZX, ZY, ZZ, Z0, ones_gc, Z1, Z2, Z3, Z4, Z5, Z6, Z7, Z8, Z9, Ya, Yb, Yc, Yd, z8_len, Ye, Yf, wrap_u8, gc_s, gc_x, gc_o, Yg, Yh, Yi, Yj, Yk, Yl, Ym, Yn, Yo, eq_self, Int.reduceLE, Int.reduceLT, Yp, Yq, Yr, Ys, endQ_1, endQ_2, endQ_3, Yt, Yu, Yv, Yw, Yx, sliceV, loV, hiV, Yy, ZL, Int.reduceToNat, Yz, YA, YB, YC, YD, YE, YF, ne_eq, YG, Nat.reduceSub, YH, shOp, YI, bslQ, mksQ, appQ, partsOk, partsCells, delB, YJ, YK, tab_len, YL, YM, YN, YO, eqL_gc, eqL, SameI, YP, YQ, hl, hm, en]
  repeat refine And.intro (by omega) ?_
  intro b1 hb1
  try simp (maxSteps := 2000000) (disch := first | (simp only [Z9, Ya, Yb, Yc, Yd, z8_len, Ye, ZN, ZO, tab_len, hl, hm, en] <;> omega) | omega | fail) only [↓YS, ↓YT, YU, YV, YW, YX, bare, bareJ, evP, ↓Za, ↓Zb, ↓Zc, ↓Zd, Ze, ↓Zf, ↓Zg, ↓Zh, evPlan, env0, envN, evOps, evOp, evQs, evQ, evV, setD, pureOp, ev, upd, updL, gate, binW, eqOp, binV, intOp, shOp, boolOp, unV, convV, nilV, fieldAddrV, indexAddrV, extractV, cellAt, cellsAt, findB, setB, fillL, buildV, Value.cells, Zj, Zk, Nat.reduceAdd, Nat.reduceLT, Nat.reduceEqDiff, Nat.reduceMul, Nat.reduceLeDiff, Zl, Zm, if_true, Zn, ↓reduceIte, reduceCtorEq, or_self, Zo, Zp, Zq, Zr, Zs, Zt, Zu, Zv, Zw, Zx, Zy, Zz, ZA, ZB, ZC, ZD, ZE, ZF, ZG, ZH, ZI, ZJ, ZK, ZL, ZM, ZN, ZO, ZP, ZQ, lenV, minV, maxV, hav, stC_one, ZR, ZS, ZT, ZU, ZV, ZW, ZX, ZY, ZZ, Z0, ones_gc, Z1, Z2, Z3, Z4, Z5, Z6, Z7, Z8, Z9, Ya, Yb, Yc, Yd, z8_len, Ye, Yf, wrap_u8, gc_s, gc_x, gc_o, Yg, Yh, Yi, Yj, Yk, Yl, Ym, Yn, Yo, eq_self, Int.reduceLE, Int.reduceLT, Yp, Yq, Yr, Ys, endQ_1, endQ_2, endQ_3, Yt, Yu, Yv, Yw, Yx, sliceV, loV, hiV, Yy, ZL, Int.reduceToNat, Yz, YA, YB, YC, YD, YE, YF, ne_eq, YG, Nat.reduceSub, YH, shOp, YI, bslQ, mksQ, appQ, partsOk, partsCells, delB, YJ, YK, tab_len, YL, YM, YN, YO, eqL_gc, eqL, SameI, YP, YQ, hl, hm, en]
  repeat refine And.intro (by omega) ?_
  repeat refine And.intro (by omega) ?_
  intro g
  simp only [List.map_cons, List.map_nil, updL, upd, Nat.reduceEqDiff, if_true, if_false, ↓reduceIte]
  refine hK _ _ ?_; clear hK K
  refine Cd.rs [1, 3] fun K hK => ?_
  simp (maxSteps := 2000000) (disch := first | (simp only [Z9, Ya, Yb, Yc, Yd, z8_len, Ye, ZN, ZO, tab_len, hl, hm, en] <;> omega) | omega | fail) only [↓YS, ↓YT, YU, YV, YW, YX, bare, bareJ, evP, ↓Za, ↓Zb, ↓Zc, ↓Zd, Ze, ↓Zf, ↓Zg, ↓Zh, evPlan, env0, envN, evOps, evOp, evQs, evQ, evV, setD, pureOp, ev, upd, updL, gate, binW, eqOp, binV, intOp, shOp, boolOp, unV, convV, nilV, fieldAddrV, indexAddrV, extractV, cellAt, cellsAt, findB, setB, fillL, buildV, Value.cells, Zj, Zk, Nat.reduceAdd, Nat.reduceLT, Nat.reduceEqDiff, Nat.reduceMul, Nat.reduceLeDiff, Zl, Zm, if_true, Zn, ↓reduceIte, reduceCtorEq, or_self, Zo, Zp, Zq, Zr, Zs, Zt, Zu, Zv, Zw, Zx, Zy, Zz, ZA, ZB, ZC, ZD, ZE, ZF, ZG, ZH, ZI, ZJ, ZK, ZL, ZM, ZN, ZO, ZP, ZQ, lenV, minV, maxV, hav, stC_one, ZR, ZS, ZT, ZU, ZV, ZW, ZX, ZY, ZZ, Z0, ones_gc, Z1, Z2, Z3, Z4, Z5, Z6, Z7, Z8, Z9, Ya, Yb, Yc, Yd, z8_len, Ye, Yf, wrap_u8, gc_s, gc_x, gc_o, Yg, Yh, Yi, Yj, Yk, Yl, Ym, Yn, Yo, eq_self, Int.reduceLE, Int.reduceLT, Yp, Yq, Yr, Ys, endQ_1, endQ_2, endQ_3, Yt, Yu, Yv, Yw, Yx, sliceV, loV, hiV, Yy, ZL, Int.reduceToNat, Yz, YA, YB, YC, YD, YE, YF, ne_eq, YG, Nat.reduceSub, YH, shOp, YI, bslQ, mksQ, appQ, partsOk, partsCells, delB, YJ, YK, tab_len, YL, YM, YN, YO, eqL_gc, eqL, SameI, YP, YQ, Tby39, Tslc33, Tslce33, Tzero39, hl, hm, en]
  repeat refine And.intro (by omega) ?_
  intro b2 hb2
  have nb2_b1 := hb2.ne
  try simp (maxSteps := 2000000) (disch := first | (simp only [Z9, Ya, Yb, Yc, Yd, z8_len, Ye, ZN, ZO, tab_len, hl, hm, en, nb2_b1] <;> omega) | omega | fail) only [↓YS, ↓YT, YU, YV, YW, YX, bare, bareJ, evP, ↓Za, ↓Zb, ↓Zc, ↓Zd, Ze, ↓Zf, ↓Zg, ↓Zh, evPlan, env0, envN, evOps, evOp, evQs, evQ, evV, setD, pureOp, ev, upd, updL, gate, binW, eqOp, binV, intOp, shOp, boolOp, unV, convV, nilV, fieldAddrV, indexAddrV, extractV, cellAt, cellsAt, findB, setB, fillL, buildV, Value.cells, Zj, Zk, Nat.reduceAdd, Nat.reduceLT, Nat.reduceEqDiff, Nat.reduceMul, Nat.reduceLeDiff, Zl, Zm, if_true, Zn, ↓reduceIte, reduceCtorEq, or_self, Zo, Zp, Zq, Zr, Zs, Zt, Zu, Zv, Zw, Zx, Zy, Zz, ZA, ZB, ZC, ZD, ZE, ZF, ZG, ZH, ZI, ZJ, ZK, ZL, ZM, ZN, ZO, ZP, ZQ, lenV, minV, maxV, hav, stC_one, ZR, ZS, ZT, ZU, ZV, ZW, ZX, ZY, ZZ, Z0, ones_gc, Z1, Z2, Z3, Z4, Z5, Z6, Z7, Z8, Z9, Ya, Yb, Yc, Yd, z8_len, Ye, Yf, wrap_u8, gc_s, gc_x, gc_o, Yg, Yh, Yi, Yj, Yk, Yl, Ym, Yn, Yo, eq_self, Int.reduceLE, Int.reduceLT, Yp, Yq, Yr, Ys, endQ_1, endQ_2, endQ_3, Yt, Yu, Yv, Yw, Yx, sliceV, loV, hiV, Yy, ZL, Int.reduceToNat, Yz, YA, YB, YC, YD, YE, YF, ne_eq, YG, Nat.reduceSub, YH, shOp, YI, bslQ, mksQ, appQ, partsOk, partsCells, delB, YJ, YK, tab_len, YL, YM, YN, YO, eqL_gc, eqL, SameI, YP, YQ, Tby39, Tslc33, Tslce33, Tzero39, hl, hm, en, nb2_b1]
  repeat refine And.intro (by omega) ?_
  repeat refine And.intro (by omega) ?_
  intro g
  simp only [List.map_cons, List.map_nil, updL, upd, Nat.reduceEqDiff, if_true, if_false, ↓reduceIte]
  refine hK _ _ ?_; clear hK K
  refine Cd.seq ?_
  refine Cd.rs [1, 3, 4] fun K hK => ?_
  simp (maxSteps := 2000000) (disch := first | (simp only [Z9, Ya, Yb, Yc, Yd, z8_len, Ye, ZN, ZO, tab_len, hl, hm, en, nb2_b1] <;> omega) | omega | fail) only [↓YS, ↓YT, YU, YV, YW, YX, bare, bareJ, evP, ↓Za, ↓Zb, ↓Zc, ↓Zd, Ze, ↓Zf, ↓Zg, ↓Zh, evPlan, env0, envN, evOps, evOp, evQs, evQ, evV, setD, pureOp, ev, upd, updL, gate, binW, eqOp, binV, intOp, shOp, boolOp, unV, convV, nilV, fieldAddrV, indexAddrV, extractV, cellAt, cellsAt, findB, setB, fillL, buildV, Value.cells, Zj, Zk, Nat.reduceAdd, Nat.reduceLT, Nat.reduceEqDiff, Nat.reduceMul, Nat.reduceLeDiff, Zl, Zm, if_true, Zn, ↓reduceIte, reduceCtorEq, or_self, Zo, Zp, Zq, Zr, Zs, Zt, Zu, Zv, Zw, Zx, Zy, Zz, ZA, ZB, ZC, ZD, ZE, ZF, ZG, ZH, ZI, ZJ, ZK, ZL, ZM, ZN, ZO, ZP, ZQ, lenV, minV, maxV, hav, stC_one, ZR, ZS, ZT, ZU, ZV, ZW, ZX, ZY, ZZ, Z0, ones_gc, Z1, Z2, Z3, Z4, Z5, Z6, Z7, Z8, Z9, Ya, Yb, Yc, Yd, z8_len, Ye, Yf, wrap_u8, gc_s, gc_x, gc_o, Yg, Yh, Yi, Yj, Yk, Yl, Ym, Yn, Yo, eq_self, Int.reduceLE, Int.reduceLT, Yp, Yq, Yr, Ys, endQ_1, endQ_2, endQ_3, Yt, Yu, Yv, Yw, Yx, sliceV, loV, hiV, Yy, ZL, Int.reduceToNat, Yz, YA, YB, YC, YD, YE, YF, ne_eq, YG, Nat.reduceSub, YH, shOp, YI, bslQ, mksQ, appQ, partsOk, partsCells, delB, YJ, YK, tab_len, YL, YM, YN, YO, eqL_gc, eqL, SameI, YP, YQ, hl, hm, en, nb2_b1]
  repeat refine And.intro (by omega) ?_
  repeat refine And.intro (by omega) ?_
  intro g
  simp only [List.map_cons, List.map_nil, updL, upd, Nat.reduceEqDiff, if_true, if_false, ↓reduceIte]
  refine hK _ _ ?_; clear hK K
  refine Cd.block ?_
  refine Cd.loop (fun q ρ M => ∃ g i m bo cap cs vs Mi, i + q = n - 1 ∧ Row 1 vs m cap cs ∧ RowsI (plTo x o (n - 1) i) vs Mi ∧ ρ = updL [(1, .pointer (some ⟨b1, 0, none⟩)), (3, .slice (some ⟨bo, 0, none⟩) m cap), (4, .int .i64 (i : Int))] g ∧
    List.Sublist ((bo, cs) :: (Mi ++ [(b1, gc (n : Int) x o)])) M) (n - 1) ⟨_, 0, 0, b2, 0, [], [], [], Nat.zero_add _, Row.nil 1, RowsI.nil, rfl, List.Sublist.refl _⟩ ?_
  rintro qo ρ M ⟨g, i, m, bo, cap, cs, vs, Mi, hi, hrow, hrows, rfl, hM⟩
  refine Cd.drop hM ?_
  clear hM M
  refine Cd.nodup fun hnd => ?_
  have f1 := findB_of (nodup_cases hnd).2 (b := b1) (cs := gc (n : Int) x o) (by simp)
  have d2 : ¬ bo = b1 := (nodup_cases hnd).1 (b1, gc (n : Int) x o) (by simp)
  skip
  skip
  clear hnd
  refine Cd.seq ?_
  refine Cd.rs [1, 3, 4, 14] fun K hK => ?_
  simp (maxSteps := 2000000) (disch := first | (simp only [Z9, Ya, Yb, Yc, Yd, z8_len, Ye, ZN, ZO, tab_len, hl, hm, en, nb2_b1, f1, d2] <;> omega) | omega | fail) only [↓YS, ↓YT, YU, YV, YW, YX, bare, bareJ, evP, ↓Za, ↓Zb, ↓Zc, ↓Zd, Ze, ↓Zf, ↓Zg, ↓Zh, evPlan, env0, envN, evOps, evOp, evQs, evQ, evV, setD, pureOp, ev, upd, updL, gate, binW, eqOp, binV, intOp, shOp, boolOp, unV, convV, nilV, fieldAddrV, indexAddrV, extractV, cellAt, cellsAt, findB, setB, fillL, buildV, Value.cells, Zj, Zk, Nat.reduceAdd, Nat.reduceLT, Nat.reduceEqDiff, Nat.reduceMul, Nat.reduceLeDiff, Zl, Zm, if_true, Zn, ↓reduceIte, reduceCtorEq, or_self, Zo, Zp, Zq, Zr, Zs, Zt, Zu, Zv, Zw, Zx, Zy, Zz, ZA, ZB, ZC, ZD, ZE, ZF, ZG, ZH, ZI, ZJ, ZK, ZL, ZM, ZN, ZO, ZP, ZQ, lenV, minV, maxV, hav, stC_one, ZR, ZS, ZT, ZU, ZV, ZW, ZX, ZY, ZZ, Z0, ones_gc, Z1, Z2, Z3, Z4, Z5, Z6, Z7, Z8, Z9, Ya, Yb, Yc, Yd, z8_len, Ye, Yf, wrap_u8, gc_s, gc_x, gc_o, Yg, Yh, Yi, Yj, Yk, Yl, Ym, Yn, Yo, eq_self, Int.reduceLE, Int.reduceLT, Yp, Yq, Yr, Ys, endQ_1, endQ_2, endQ_3, Yt, Yu, Yv, Yw, Yx, sliceV, loV, hiV, Yy, ZL, Int.reduceToNat, Yz, YA, YB, YC, YD, YE, YF, ne_eq, YG, Nat.reduceSub, YH, shOp, YI, bslQ, mksQ, appQ, partsOk, partsCells, delB, YJ, YK, tab_len, YL, YM, YN, YO, eqL_gc, eqL, SameI, YP, YQ, Tfld25_0, Tld2, hl, hm, en, nb2_b1, f1, d2]
  repeat refine And.intro (by omega) ?_
  repeat refine And.intro (by omega) ?_
  intro g
  simp only [List.map_cons, List.map_nil, updL, upd, Nat.reduceEqDiff, if_true, if_false, ↓reduceIte]
  refine hK _ _ ?_; clear hK K
  refine Cd.condd rfl (fun h1 => ?_) (fun h1 => ?_)
  · refine Cd.skip ?_
    refine thenN ?_
    refine Cd.seq ?_
    refine Cd.block ?_
    refine Cd.rs [1, 3, 4, 5] fun K hK => ?_
    simp (maxSteps := 2000000) (disch := first | (simp only [Z9, Ya, Yb, Yc, Yd, z8_len, Ye, ZN, ZO, tab_len, hl, hm, en, nb2_b1, f1, d2] <;> omega) | omega | fail) only [↓YS, ↓YT, YU, YV, YW, YX, bare, bareJ, evP, ↓Za, ↓Zb, ↓Zc, ↓Zd, Ze, ↓Zf, ↓Zg, ↓Zh, evPlan, env0, envN, evOps, evOp, evQs, evQ, evV, setD, pureOp, ev, upd, updL, gate, binW, eqOp, binV, intOp, shOp, boolOp, unV, convV, nilV, fieldAddrV, indexAddrV, extractV, cellAt, cellsAt, findB, setB, fillL, buildV, Value.cells, Zj, Zk, Nat.reduceAdd, Nat.reduceLT, Nat.reduceEqDiff, Nat.reduceMul, Nat.reduceLeDiff, Zl, Zm, if_true, Zn, ↓reduceIte, reduceCtorEq, or_self, Zo, Zp, Zq, Zr, Zs, Zt, Zu, Zv, Zw, Zx, Zy, Zz, ZA, ZB, ZC, ZD, ZE, ZF, ZG, ZH, ZI, ZJ, ZK, ZL, ZM, ZN, ZO, ZP, ZQ, lenV, minV, maxV, hav, stC_one, ZR, ZS, ZT, ZU, ZV, ZW, ZX, ZY, ZZ, Z0, ones_gc, Z1, Z2, Z3, Z4, Z5, Z6, Z7, Z8, Z9, Ya, Yb, Yc, Yd, z8_len, Ye, Yf, wrap_u8, gc_s, gc_x, gc_o, Yg, Yh, Yi, Yj, Yk, Yl, Ym, Yn, Yo, eq_self, Int.reduceLE, Int.reduceLT, Yp, Yq, Yr, Ys, endQ_1, endQ_2, endQ_3, Yt, Yu, Yv, Yw, Yx, sliceV, loV, hiV, Yy, ZL, Int.reduceToNat, Yz, YA, YB, YC, YD, YE, YF, ne_eq, YG, Nat.reduceSub, YH, shOp, YI, bslQ, mksQ, appQ, partsOk, partsCells, delB, YJ, YK, tab_len, YL, YM, YN, YO, eqL_gc, eqL, SameI, YP, YQ, hl, hm, en, nb2_b1, f1, d2]
    repeat refine And.intro (by omega) ?_
    repeat refine And.intro (by omega) ?_
    intro g
    simp only [List.map_cons, List.map_nil, updL, upd, Nat.reduceEqDiff, if_true, if_false, ↓reduceIte]
    refine hK _ _ ?_; clear hK K
    refine Cd.block ?_
    refine Cd.loop (fun q ρ M => ∃ g r m bo cap cs vs Mi, r + q = n - 1 ∧ Row 1 vs m cap cs ∧ RowsI (plTo x o (n - 1) i ++ plRow x o i r) vs Mi ∧ ρ = updL [(1, .pointer (some ⟨b1, 0, none⟩)), (3, .slice (some ⟨bo, 0, none⟩) m cap), (4, .int .i64 (i : Int)), (5, .int .i64 (r : Int))] g ∧
      List.Sublist ((bo, cs) :: (Mi ++ [(b1, gc (n : Int) x o)])) M) (n - 1) ⟨_, 0, m, bo, cap, cs, vs, Mi, Nat.zero_add _, hrow, by rw [show plRow x o i 0 = [] from rfl, List.append_nil]; exact hrows, rfl, List.Sublist.refl _⟩ ?_
    clear f1 d2 hrow hrows
    rintro q ρ M ⟨g, r, m, bo, cap, cs, vs, Mi, hr, hrow, hrows, rfl, hM⟩
    refine Cd.drop hM ?_
    clear hM M
    refine Cd.nodup fun hnd => ?_
    have f1 := findB_of (nodup_cases hnd).2 (b := b1) (cs := gc (n : Int) x o) (by simp)
    have d2 : ¬ bo = b1 := (nodup_cases hnd).1 (b1, gc (n : Int) x o) (by simp)
    skip
    skip
    clear hnd
    have hv := hrow.len1
    have hv' := hrows.len
    have pb := plTo_bound x o (n - 1) (by omega) i
    have pr := plRow_bound x o i r
    rw [List.length_append] at hv'
    refine Cd.seq ?_
    refine Cd.rs [1, 3, 4, 5, 21] fun K hK => ?_
    simp (maxSteps := 2000000) (disch := first | (simp only [Z9, Ya, Yb, Yc, Yd, z8_len, Ye, ZN, ZO, tab_len, hl, hm, en, nb2_b1, f1, d2] <;> omega) | omega | fail) only [↓YS, ↓YT, YU, YV, YW, YX, bare, bareJ, evP, ↓Za, ↓Zb, ↓Zc, ↓Zd, Ze, ↓Zf, ↓Zg, ↓Zh, evPlan, env0, envN, evOps, evOp, evQs, evQ, evV, setD, pureOp, ev, upd, updL, gate, binW, eqOp, binV, intOp, shOp, boolOp, unV, convV, nilV, fieldAddrV, indexAddrV, extractV, cellAt, cellsAt, findB, setB, fillL, buildV, Value.cells, Zj, Zk, Nat.reduceAdd, Nat.reduceLT, Nat.reduceEqDiff, Nat.reduceMul, Nat.reduceLeDiff, Zl, Zm, if_true, Zn, ↓reduceIte, reduceCtorEq, or_self, Zo, Zp, Zq, Zr, Zs, Zt, Zu, Zv, Zw, Zx, Zy, Zz, ZA, ZB, ZC, ZD, ZE, ZF, ZG, ZH, ZI, ZJ, ZK, ZL, ZM, ZN, ZO, ZP, ZQ, lenV, minV, maxV, hav, stC_one, ZR, ZS, ZT, ZU, ZV, ZW, ZX, ZY, ZZ, Z0, ones_gc, Z1, Z2, Z3, Z4, Z5, Z6, Z7, Z8, Z9, Ya, Yb, Yc, Yd, z8_len, Ye, Yf, wrap_u8, gc_s, gc_x, gc_o, Yg, Yh, Yi, Yj, Yk, Yl, Ym, Yn, Yo, eq_self, Int.reduceLE, Int.reduceLT, Yp, Yq, Yr, Ys, endQ_1, endQ_2, endQ_3, Yt, Yu, Yv, Yw, Yx, sliceV, loV, hiV, Yy, ZL, Int.reduceToNat, Yz, YA, YB, YC, YD, YE, YF, ne_eq, YG, Nat.reduceSub, YH, shOp, YI, bslQ, mksQ, appQ, partsOk, partsCells, delB, YJ, YK, tab_len, YL, YM, YN, YO, eqL_gc, eqL, SameI, YP, YQ, Tfld25_0, Tld2, hl, hm, en, nb2_b1, f1, d2]
    repeat refine And.intro (by omega) ?_
    repeat refine And.intro (by omega) ?_
    intro g
    simp only [List.map_cons, List.map_nil, updL, upd, Nat.reduceEqDiff, if_true, if_false, ↓reduceIte]
    refine hK _ _ ?_; clear hK K
    refine Cd.condd rfl (fun h2 => ?_) (fun h2 => ?_)
    · have s1 := hrow.size1
      have s2 := hrow.le
      have hS := l02Back_c n x o hx ho hn px po hd i (by omega) (r : Int) (by omega) (by omega)
      obtain ⟨gv, mv, hR, g1, g2, m1, m2⟩ := back_shape (n := n) (x := x) (o := o) (i := i) (r := (r : Int))
      rw [hR] at hS
      have g3 : gv.toList.length = 17 := g1
      have m3 : mv.toList.length = 6 := m1
      refine Cd.skip ?_
      refine thenN ?_
      refine Cd.seq ?_
      refine Cd.block ?_
      skip
      refine Cd.rs [1, 3, 4, 5, 8] fun K hK => ?_
      simp (maxSteps := 2000000) (disch := first | (simp only [Z9, Ya, Yb, Yc, Yd, z8_len, Ye, ZN, ZO, tab_len, hl, hm, en, nb2_b1, f1, d2, g1, g2, m1, m2, g3, m3] <;> omega) | omega | fail) only [↓YS, ↓YT, YU, YV, YW, YX, bare, bareJ, evP, ↓Za, ↓Zb, ↓Zc, ↓Zd, Ze, ↓Zf, ↓Zg, ↓Zh, evPlan, env0, envN, evOps, evOp, evQs, evQ, evV, setD, pureOp, ev, upd, updL, gate, binW, eqOp, binV, intOp, shOp, boolOp, unV, convV, nilV, fieldAddrV, indexAddrV, extractV, cellAt, cellsAt, findB, setB, fillL, buildV, Value.cells, Zj, Zk, Nat.reduceAdd, Nat.reduceLT, Nat.reduceEqDiff, Nat.reduceMul, Nat.reduceLeDiff, Zl, Zm, if_true, Zn, ↓reduceIte, reduceCtorEq, or_self, Zo, Zp, Zq, Zr, Zs, Zt, Zu, Zv, Zw, Zx, Zy, Zz, ZA, ZB, ZC, ZD, ZE, ZF, ZG, ZH, ZI, ZJ, ZK, ZL, ZM, ZN, ZO, ZP, ZQ, lenV, minV, maxV, hav, stC_one, ZR, ZS, ZT, ZU, ZV, ZW, ZX, ZY, ZZ, Z0, ones_gc, Z1, Z2, Z3, Z4, Z5, Z6, Z7, Z8, Z9, Ya, Yb, Yc, Yd, z8_len, Ye, Yf, wrap_u8, gc_s, gc_x, gc_o, Yg, Yh, Yi, Yj, Yk, Yl, Ym, Yn, Yo, eq_self, Int.reduceLE, Int.reduceLT, Yp, Yq, Yr, Ys, endQ_1, endQ_2, endQ_3, Yt, Yu, Yv, Yw, Yx, sliceV, loV, hiV, Yy, ZL, Int.reduceToNat, Yz, YA, YB, YC, YD, YE, YF, ne_eq, YG, Nat.reduceSub, YH, shOp, YI, bslQ, mksQ, appQ, partsOk, partsCells, delB, YJ, YK, tab_len, YL, YM, YN, YO, eqL_gc, eqL, SameI, YP, YQ, Tld25, Tst100, Tst25, Tzero100, Tzero25, hl, hm, en, nb2_b1, f1, d2, g1, g2, m1, m2, g3, m3]
      repeat refine And.intro (by omega) ?_
      refine callK_gives hS ?_
      simp (maxSteps := 2000000) (disch := first | (simp only [Z9, Ya, Yb, Yc, Yd, z8_len, Ye, ZN, ZO, tab_len, hl, hm, en, nb2_b1, f1, d2, g1, g2, m1, m2, g3, m3] <;> omega) | omega | fail) only [↓YS, ↓YT, YU, YV, YW, YX, bare, bareJ, evP, ↓Za, ↓Zb, ↓Zc, ↓Zd, Ze, ↓Zf, ↓Zg, ↓Zh, evPlan, env0, envN, evOps, evOp, evQs, evQ, evV, setD, pureOp, ev, upd, updL, gate, binW, eqOp, binV, intOp, shOp, boolOp, unV, convV, nilV, fieldAddrV, indexAddrV, extractV, cellAt, cellsAt, findB, setB, fillL, buildV, Value.cells, Zj, Zk, Nat.reduceAdd, Nat.reduceLT, Nat.reduceEqDiff, Nat.reduceMul, Nat.reduceLeDiff, Zl, Zm, if_true, Zn, ↓reduceIte, reduceCtorEq, or_self, Zo, Zp, Zq, Zr, Zs, Zt, Zu, Zv, Zw, Zx, Zy, Zz, ZA, ZB, ZC, ZD, ZE, ZF, ZG, ZH, ZI, ZJ, ZK, ZL, ZM, ZN, ZO, ZP, ZQ, lenV, minV, maxV, hav, stC_one, ZR, ZS, ZT, ZU, ZV, ZW, ZX, ZY, ZZ, Z0, ones_gc, Z1, Z2, Z3, Z4, Z5, Z6, Z7, Z8, Z9, Ya, Yb, Yc, Yd, z8_len, Ye, Yf, wrap_u8, gc_s, gc_x, gc_o, Yg, Yh, Yi, Yj, Yk, Yl, Ym, Yn, Yo, eq_self, Int.reduceLE, Int.reduceLT, Yp, Yq, Yr, Ys, endQ_1, endQ_2, endQ_3, Yt, Yu, Yv, Yw, Yx, sliceV, loV, hiV, Yy, ZL, Int.reduceToNat, Yz, YA, YB, YC, YD, YE, YF, ne_eq, YG, Nat.reduceSub, YH, shOp, YI, bslQ, mksQ, appQ, partsOk, partsCells, delB, YJ, YK, tab_len, YL, YM, YN, YO, eqL_gc, eqL, SameI, YP, YQ, Tld25, Tst100, Tst25, Tzero100, Tzero25, hl, hm, en, nb2_b1, f1, d2, g1, g2, m1, m2, g3, m3]
      repeat refine And.intro (by omega) ?_
      intro b3 hb3
      have nb3_bo := hb3.ne
      intro b4 hb4
      have nb4_b3 := hb4.ne
      have nb4_bo := hb4.tail.ne
      try simp (maxSteps := 2000000) (disch := first | (simp only [Z9, Ya, Yb, Yc, Yd, z8_len, Ye, ZN, ZO, tab_len, hl, hm, en, nb2_b1, f1, d2, g1, g2, m1, m2, g3, m3, nb3_bo, nb4_b3, nb4_bo] <;> omega) | omega | fail) only [↓YS, ↓YT, YU, YV, YW, YX, bare, bareJ, evP, ↓Za, ↓Zb, ↓Zc, ↓Zd, Ze, ↓Zf, ↓Zg, ↓Zh, evPlan, env0, envN, evOps, evOp, evQs, evQ, evV, setD, pureOp, ev, upd, updL, gate, binW, eqOp, binV, intOp, shOp, boolOp, unV, convV, nilV, fieldAddrV, indexAddrV, extractV, cellAt, cellsAt, findB, setB, fillL, buildV, Value.cells, Zj, Zk, Nat.reduceAdd, Nat.reduceLT, Nat.reduceEqDiff, Nat.reduceMul, Nat.reduceLeDiff, Zl, Zm, if_true, Zn, ↓reduceIte, reduceCtorEq, or_self, Zo, Zp, Zq, Zr, Zs, Zt, Zu, Zv, Zw, Zx, Zy, Zz, ZA, ZB, ZC, ZD, ZE, ZF, ZG, ZH, ZI, ZJ, ZK, ZL, ZM, ZN, ZO, ZP, ZQ, lenV, minV, maxV, hav, stC_one, ZR, ZS, ZT, ZU, ZV, ZW, ZX, ZY, ZZ, Z0, ones_gc, Z1, Z2, Z3, Z4, Z5, Z6, Z7, Z8, Z9, Ya, Yb, Yc, Yd, z8_len, Ye, Yf, wrap_u8, gc_s, gc_x, gc_o, Yg, Yh, Yi, Yj, Yk, Yl, Ym, Yn, Yo, eq_self, Int.reduceLE, Int.reduceLT, Yp, Yq, Yr, Ys, endQ_1, endQ_2, endQ_3, Yt, Yu, Yv, Yw, Yx, sliceV, loV, hiV, Yy, ZL, Int.reduceToNat, Yz, YA, YB, YC, YD, YE, YF, ne_eq, YG, Nat.reduceSub, YH, shOp, YI, bslQ, mksQ, appQ, partsOk, partsCells, delB, YJ, YK, tab_len, YL, YM, YN, YO, eqL_gc, eqL, SameI, YP, YQ, Tld25, Tst100, Tst25, Tzero100, Tzero25, hl, hm, en, nb2_b1, f1, d2, g1, g2, m1, m2, g3, m3, nb3_bo, nb4_b3, nb4_bo]
      repeat refine And.intro (by omega) ?_
      repeat refine And.intro (by omega) ?_
      intro g
      simp only [List.map_cons, List.map_nil, updL, upd, Nat.reduceEqDiff, if_true, if_false, ↓reduceIte]
      refine hK _ _ ?_; clear hK K
      refine Cd.drop (List.Sublist.cons _ (List.Sublist.cons _ (List.Sublist.refl _))) ?_
      skip
      refine Cd.rs [1, 3, 4, 5, 32] fun K hK => ?_
      simp (maxSteps := 2000000) (disch := first | (simp only [Z9, Ya, Yb, Yc, Yd, z8_len, Ye, ZN, ZO, tab_len, hl, hm, en, nb2_b1, f1, d2, g1, g2, m1, m2, g3, m3, nb3_bo, nb4_b3, nb4_bo] <;> omega) | omega | fail) only [↓YS, ↓YT, YU, YV, YW, YX, bare, bareJ, evP, ↓Za, ↓Zb, ↓Zc, ↓Zd, Ze, ↓Zf, ↓Zg, ↓Zh, evPlan, env0, envN, evOps, evOp, evQs, evQ, evV, setD, pureOp, ev, upd, updL, gate, binW, eqOp, binV, intOp, shOp, boolOp, unV, convV, nilV, fieldAddrV, indexAddrV, extractV, cellAt, cellsAt, findB, setB, fillL, buildV, Value.cells, Zj, Zk, Nat.reduceAdd, Nat.reduceLT, Nat.reduceEqDiff, Nat.reduceMul, Nat.reduceLeDiff, Zl, Zm, if_true, Zn, ↓reduceIte, reduceCtorEq, or_self, Zo, Zp, Zq, Zr, Zs, Zt, Zu, Zv, Zw, Zx, Zy, Zz, ZA, ZB, ZC, ZD, ZE, ZF, ZG, ZH, ZI, ZJ, ZK, ZL, ZM, ZN, ZO, ZP, ZQ, lenV, minV, maxV, hav, stC_one, ZR, ZS, ZT, ZU, ZV, ZW, ZX, ZY, ZZ, Z0, ones_gc, Z1, Z2, Z3, Z4, Z5, Z6, Z7, Z8, Z9, Ya, Yb, Yc, Yd, z8_len, Ye, Yf, wrap_u8, gc_s, gc_x, gc_o, Yg, Yh, Yi, Yj, Yk, Yl, Ym, Yn, Yo, eq_self, Int.reduceLE, Int.reduceLT, Yp, Yq, Yr, Ys, endQ_1, endQ_2, endQ_3, Yt, Yu, Yv, Yw, Yx, sliceV, loV, hiV, Yy, ZL, Int.reduceToNat, Yz, YA, YB, YC, YD, YE, YF, ne_eq, YG, Nat.reduceSub, YH, shOp, YI, bslQ, mksQ, appQ, partsOk, partsCells, delB, YJ, YK, tab_len, YL, YM, YN, YO, eqL_gc, eqL, SameI, YP, YQ, hl, hm, en, nb2_b1, f1, d2, g1, g2, m1, m2, g3, m3, nb3_bo, nb4_b3, nb4_bo]
      repeat refine And.intro (by omega) ?_
      repeat refine And.intro (by omega) ?_
      intro g
      simp only [List.map_cons, List.map_nil, updL, upd, Nat.reduceEqDiff, if_true, if_false, ↓reduceIte]
      refine hK _ _ ?_; clear hK K
      refine Cd.cond rfl (fun h3 => ?_) (fun h3 => ?_)
      · refine Cd.rr [1, 3, 4, 5] fun K hK => ?_
        simp (maxSteps := 2000000) (disch := first | (simp only [Z9, Ya, Yb, Yc, Yd, z8_len, Ye, ZN, ZO, tab_len, hl, hm, en, nb2_b1, f1, d2, g1, g2, m1, m2, g3, m3, nb3_bo, nb4_b3, nb4_bo] <;> omega) | omega | fail) only [↓YS, ↓YT, YU, YV, YW, YX, bare, bareJ, evP, ↓Za, ↓Zb, ↓Zc, ↓Zd, Ze, ↓Zf, ↓Zg, ↓Zh, evPlan, env0, envN, evOps, evOp, evQs, evQ, evV, setD, pureOp, ev, upd, updL, gate, binW, eqOp, binV, intOp, shOp, boolOp, unV, convV, nilV, fieldAddrV, indexAddrV, extractV, cellAt, cellsAt, findB, setB, fillL, buildV, Value.cells, Zj, Zk, Nat.reduceAdd, Nat.reduceLT, Nat.reduceEqDiff, Nat.reduceMul, Nat.reduceLeDiff, Zl, Zm, if_true, Zn, ↓reduceIte, reduceCtorEq, or_self, Zo, Zp, Zq, Zr, Zs, Zt, Zu, Zv, Zw, Zx, Zy, Zz, ZA, ZB, ZC, ZD, ZE, ZF, ZG, ZH, ZI, ZJ, ZK, ZL, ZM, ZN, ZO, ZP, ZQ, lenV, minV, maxV, hav, stC_one, ZR, ZS, ZT, ZU, ZV, ZW, ZX, ZY, ZZ, Z0, ones_gc, Z1, Z2, Z3, Z4, Z5, Z6, Z7, Z8, Z9, Ya, Yb, Yc, Yd, z8_len, Ye, Yf, wrap_u8, gc_s, gc_x, gc_o, Yg, Yh, Yi, Yj, Yk, Yl, Ym, Yn, Yo, eq_self, Int.reduceLE, Int.reduceLT, Yp, Yq, Yr, Ys, endQ_1, endQ_2, endQ_3, Yt, Yu, Yv, Yw, Yx, sliceV, loV, hiV, Yy, ZL, Int.reduceToNat, Yz, YA, YB, YC, YD, YE, YF, ne_eq, YG, Nat.reduceSub, YH, shOp, YI, bslQ, mksQ, appQ, partsOk, partsCells, delB, YJ, YK, tab_len, YL, YM, YN, YO, eqL_gc, eqL, SameI, YP, YQ, Tby2, Tby39, Tslc33, Tslc39, Tslce33, Tslce39, Tzero2, Tzero39, hl, hm, en, nb2_b1, f1, d2, g1, g2, m1, m2, g3, m3, nb3_bo, nb4_b3, nb4_bo]
        repeat refine And.intro (by omega) ?_
        intro b5 hb5
        have nb5_bo := hb5.ne
        intro b6 hb6
        have nb6_b5 := hb6.ne
        have nb6_bo := hb6.tail.ne
        try simp (maxSteps := 2000000) (disch := first | (simp only [Z9, Ya, Yb, Yc, Yd, z8_len, Ye, ZN, ZO, tab_len, hl, hm, en, nb2_b1, f1, d2, g1, g2, m1, m2, g3, m3, nb3_bo, nb4_b3, nb4_bo, nb5_bo, nb6_b5, nb6_bo] <;> omega) | omega | fail) only [↓YS, ↓YT, YU, YV, YW, YX, bare, bareJ, evP, ↓Za, ↓Zb, ↓Zc, ↓Zd, Ze, ↓Zf, ↓Zg, ↓Zh, evPlan, env0, envN, evOps, evOp, evQs, evQ, evV, setD, pureOp, ev, upd, updL, gate, binW, eqOp, binV, intOp, shOp, boolOp, unV, convV, nilV, fieldAddrV, indexAddrV, extractV, cellAt, cellsAt, findB, setB, fillL, buildV, Value.cells, Zj, Zk, Nat.reduceAdd, Nat.reduceLT, Nat.reduceEqDiff, Nat.reduceMul, Nat.reduceLeDiff, Zl, Zm, if_true, Zn, ↓reduceIte, reduceCtorEq, or_self, Zo, Zp, Zq, Zr, Zs, Zt, Zu, Zv, Zw, Zx, Zy, Zz, ZA, ZB, ZC, ZD, ZE, ZF, ZG, ZH, ZI, ZJ, ZK, ZL, ZM, ZN, ZO, ZP, ZQ, lenV, minV, maxV, hav, stC_one, ZR, ZS, ZT, ZU, ZV, ZW, ZX, ZY, ZZ, Z0, ones_gc, Z1, Z2, Z3, Z4, Z5, Z6, Z7, Z8, Z9, Ya, Yb, Yc, Yd, z8_len, Ye, Yf, wrap_u8, gc_s, gc_x, gc_o, Yg, Yh, Yi, Yj, Yk, Yl, Ym, Yn, Yo, eq_self, Int.reduceLE, Int.reduceLT, Yp, Yq, Yr, Ys, endQ_1, endQ_2, endQ_3, Yt, Yu, Yv, Yw, Yx, sliceV, loV, hiV, Yy, ZL, Int.reduceToNat, Yz, YA, YB, YC, YD, YE, YF, ne_eq, YG, Nat.reduceSub, YH, shOp, YI, bslQ, mksQ, appQ, partsOk, partsCells, delB, YJ, YK, tab_len, YL, YM, YN, YO, eqL_gc, eqL, SameI, YP, YQ, Tby2, Tby39, Tslc33, Tslc39, Tslce33, Tslce39, Tzero2, Tzero39, hl, hm, en, nb2_b1, f1, d2, g1, g2, m1, m2, g3, m3, nb3_bo, nb4_b3, nb4_bo, nb5_bo, nb6_b5, nb6_bo]
        repeat refine And.intro (by omega) ?_
        intro b' cap' rest' hf hc hr'
        have hr2 := hrow.snoc1 (news := [.slice (some ⟨b5, 0, none⟩) 2 2]) rfl hc hr'
        repeat refine And.intro (by omega) ?_
        intro g
        simp only [List.map_cons, List.map_nil, updL, upd, Nat.reduceEqDiff, if_true, if_false, ↓reduceIte]
        refine hK _ _ ?_; clear hK K
        refine inBN ?_
        refine thenN ?_
        refine Cd.rr [1, 3, 4, 5] fun K hK => ?_
        simp (maxSteps := 2000000) (disch := first | (simp only [Z9, Ya, Yb, Yc, Yd, z8_len, Ye, ZN, ZO, tab_len, hl, hm, en, nb2_b1, f1, d2, g1, g2, m1, m2, g3, m3, nb3_bo, nb4_b3, nb4_bo, nb5_bo, nb6_b5, nb6_bo] <;> omega) | omega | fail) only [↓YS, ↓YT, YU, YV, YW, YX, bare, bareJ, evP, ↓Za, ↓Zb, ↓Zc, ↓Zd, Ze, ↓Zf, ↓Zg, ↓Zh, evPlan, env0, envN, evOps, evOp, evQs, evQ, evV, setD, pureOp, ev, upd, updL, gate, binW, eqOp, binV, intOp, shOp, boolOp, unV, convV, nilV, fieldAddrV, indexAddrV, extractV, cellAt, cellsAt, findB, setB, fillL, buildV, Value.cells, Zj, Zk, Nat.reduceAdd, Nat.reduceLT, Nat.reduceEqDiff, Nat.reduceMul, Nat.reduceLeDiff, Zl, Zm, if_true, Zn, ↓reduceIte, reduceCtorEq, or_self, Zo, Zp, Zq, Zr, Zs, Zt, Zu, Zv, Zw, Zx, Zy, Zz, ZA, ZB, ZC, ZD, ZE, ZF, ZG, ZH, ZI, ZJ, ZK, ZL, ZM, ZN, ZO, ZP, ZQ, lenV, minV, maxV, hav, stC_one, ZR, ZS, ZT, ZU, ZV, ZW, ZX, ZY, ZZ, Z0, ones_gc, Z1, Z2, Z3, Z4, Z5, Z6, Z7, Z8, Z9, Ya, Yb, Yc, Yd, z8_len, Ye, Yf, wrap_u8, gc_s, gc_x, gc_o, Yg, Yh, Yi, Yj, Yk, Yl, Ym, Yn, Yo, eq_self, Int.reduceLE, Int.reduceLT, Yp, Yq, Yr, Ys, endQ_1, endQ_2, endQ_3, Yt, Yu, Yv, Yw, Yx, sliceV, loV, hiV, Yy, ZL, Int.reduceToNat, Yz, YA, YB, YC, YD, YE, YF, ne_eq, YG, Nat.reduceSub, YH, shOp, YI, bslQ, mksQ, appQ, partsOk, partsCells, delB, YJ, YK, tab_len, YL, YM, YN, YO, eqL_gc, eqL, SameI, YP, YQ, hl, hm, en, nb2_b1, f1, d2, g1, g2, m1, m2, g3, m3, nb3_bo, nb4_b3, nb4_bo, nb5_bo, nb6_b5, nb6_bo]
        repeat refine And.intro (by omega) ?_
        repeat refine And.intro (by omega) ?_
        intro g
        simp only [List.map_cons, List.map_nil, updL, upd, Nat.reduceEqDiff, if_true, if_false, ↓reduceIte]
        refine hK _ _ ?_; clear hK K
        refine roundN (m := q - 1) (by omega) ⟨_, r + 1, m + 1, b', cap', _, _, (b5, [.int .i64 (i : Int), .int .i64 (r : Int)]) :: Mi, by omega, hr2, ?_, rfl, List.Sublist.cons_cons _ (List.Sublist.cons _ (List.Sublist.refl _))⟩
        rw [plRow_yes h3, ← List.append_assoc]
        exact .snoc hrows (SlN.row (Row.full (l := ints .i64 [(i : Int), (r : Int)]) rfl))
      · refine Cd.skip ?_
        refine inBN ?_
        refine thenN ?_
        refine Cd.rr [1, 3, 4, 5] fun K hK => ?_
        simp (maxSteps := 2000000) (disch := first | (simp only [Z9, Ya, Yb, Yc, Yd, z8_len, Ye, ZN, ZO, tab_len, hl, hm, en, nb2_b1, f1, d2, g1, g2, m1, m2, g3, m3, nb3_bo, nb4_b3, nb4_bo] <;> omega) | omega | fail) only [↓YS, ↓YT, YU, YV, YW, YX, bare, bareJ, evP, ↓Za, ↓Zb, ↓Zc, ↓Zd, Ze, ↓Zf, ↓Zg, ↓Zh, evPlan, env0, envN, evOps, evOp, evQs, evQ, evV, setD, pureOp, ev, upd, updL, gate, binW, eqOp, binV, intOp, shOp, boolOp, unV, convV, nilV, fieldAddrV, indexAddrV, extractV, cellAt, cellsAt, findB, setB, fillL, buildV, Value.cells, Zj, Zk, Nat.reduceAdd, Nat.reduceLT, Nat.reduceEqDiff, Nat.reduceMul, Nat.reduceLeDiff, Zl, Zm, if_true, Zn, ↓reduceIte, reduceCtorEq, or_self, Zo, Zp, Zq, Zr, Zs, Zt, Zu, Zv, Zw, Zx, Zy, Zz, ZA, ZB, ZC, ZD, ZE, ZF, ZG, ZH, ZI, ZJ, ZK, ZL, ZM, ZN, ZO, ZP, ZQ, lenV, minV, maxV, hav, stC_one, ZR, ZS, ZT, ZU, ZV, ZW, ZX, ZY, ZZ, Z0, ones_gc, Z1, Z2, Z3, Z4, Z5, Z6, Z7, Z8, Z9, Ya, Yb, Yc, Yd, z8_len, Ye, Yf, wrap_u8, gc_s, gc_x, gc_o, Yg, Yh, Yi, Yj, Yk, Yl, Ym, Yn, Yo, eq_self, Int.reduceLE, Int.reduceLT, Yp, Yq, Yr, Ys, endQ_1, endQ_2, endQ_3, Yt, Yu, Yv, Yw, Yx, sliceV, loV, hiV, Yy, ZL, Int.reduceToNat, Yz, YA, YB, YC, YD, YE, YF, ne_eq, YG, Nat.reduceSub, YH, shOp, YI, bslQ, mksQ, appQ, partsOk, partsCells, delB, YJ, YK, tab_len, YL, YM, YN, YO, eqL_gc, eqL, SameI, YP, YQ, hl, hm, en, nb2_b1, f1, d2, g1, g2, m1, m2, g3, m3, nb3_bo, nb4_b3, nb4_bo]
        repeat refine And.intro (by omega) ?_
        repeat refine And.intro (by omega) ?_
        intro g
        simp only [List.map_cons, List.map_nil, updL, upd, Nat.reduceEqDiff, if_true, if_false, ↓reduceIte]
        refine hK _ _ ?_; clear hK K
        refine roundN (m := q - 1) (by omega) ⟨_, r + 1, m, bo, cap, cs, _, Mi, by omega, hrow, ?_, rfl, List.Sublist.refl _⟩
        rw [plRow_no (by simpa using h3)]
        exact hrows
    · refine Cd.exit (thenX (roundX (inBX ?_)))
      refine inBN ?_
      refine thenN ?_
      obtain rfl : r = n - 1 := by omega
      refine Cd.rr [1, 3, 4] fun K hK => ?_
      simp (maxSteps := 2000000) (disch := first | (simp only [Z9, Ya, Yb, Yc, Yd, z8_len, Ye, ZN, ZO, tab_len, hl, hm, en, nb2_b1, f1, d2] <;> omega) | omega | fail) only [↓YS, ↓YT, YU, YV, YW, YX, bare, bareJ, evP, ↓Za, ↓Zb, ↓Zc, ↓Zd, Ze, ↓Zf, ↓Zg, ↓Zh, evPlan, env0, envN, evOps, evOp, evQs, evQ, evV, setD, pureOp, ev, upd, updL, gate, binW, eqOp, binV, intOp, shOp, boolOp, unV, convV, nilV, fieldAddrV, indexAddrV, extractV, cellAt, cellsAt, findB, setB, fillL, buildV, Value.cells, Zj, Zk, Nat.reduceAdd, Nat.reduceLT, Nat.reduceEqDiff, Nat.reduceMul, Nat.reduceLeDiff, Zl, Zm, if_true, Zn, ↓reduceIte, reduceCtorEq, or_self, Zo, Zp, Zq, Zr, Zs, Zt, Zu, Zv, Zw, Zx, Zy, Zz, ZA, ZB, ZC, ZD, ZE, ZF, ZG, ZH, ZI, ZJ, ZK, ZL, ZM, ZN, ZO, ZP, ZQ, lenV, minV, maxV, hav, stC_one, ZR, ZS, ZT, ZU, ZV, ZW, ZX, ZY, ZZ, Z0, ones_gc, Z1, Z2, Z3, Z4, Z5, Z6, Z7, Z8, Z9, Ya, Yb, Yc, Yd, z8_len, Ye, Yf, wrap_u8, gc_s, gc_x, gc_o, Yg, Yh, Yi, Yj, Yk, Yl, Ym, Yn, Yo, eq_self, Int.reduceLE, Int.reduceLT, Yp, Yq, Yr, Ys, endQ_1, endQ_2, endQ_3, Yt, Yu, Yv, Yw, Yx, sliceV, loV, hiV, Yy, ZL, Int.reduceToNat, Yz, YA, YB, YC, YD, YE, YF, ne_eq, YG, Nat.reduceSub, YH, shOp, YI, bslQ, mksQ, appQ, partsOk, partsCells, delB, YJ, YK, tab_len, YL, YM, YN, YO, eqL_gc, eqL, SameI, YP, YQ, hl, hm, en, nb2_b1, f1, d2]
      repeat refine And.intro (by omega) ?_
      repeat refine And.intro (by omega) ?_
      intro g
      simp only [List.map_cons, List.map_nil, updL, upd, Nat.reduceEqDiff, if_true, if_false, ↓reduceIte]
      refine hK _ _ ?_; clear hK K
      exact roundN (m := qo - 1) (by omega) ⟨_, i + 1, m, bo, cap, cs, _, Mi, by omega, hrow, hrows, rfl, List.Sublist.refl _⟩
  · refine Cd.exit (thenX (roundX (inBX ?_)))
    refine thenN ?_
    obtain rfl : i = n - 1 := by omega
    refine Cd.rs [2] fun K hK => ?_
    simp (maxSteps := 2000000) (disch := first | (simp only [Z9, Ya, Yb, Yc, Yd, z8_len, Ye, ZN, ZO, tab_len, hl, hm, en, nb2_b1, f1, d2] <;> omega) | omega | fail) only [↓YS, ↓YT, YU, YV, YW, YX, bare, bareJ, evP, ↓Za, ↓Zb, ↓Zc, ↓Zd, Ze, ↓Zf, ↓Zg, ↓Zh, evPlan, env0, envN, evOps, evOp, evQs, evQ, evV, setD, pureOp, ev, upd, updL, gate, binW, eqOp, binV, intOp, shOp, boolOp, unV, convV, nilV, fieldAddrV, indexAddrV, extractV, cellAt, cellsAt, findB, setB, fillL, buildV, Value.cells, Zj, Zk, Nat.reduceAdd, Nat.reduceLT, Nat.reduceEqDiff, Nat.reduceMul, Nat.reduceLeDiff, Zl, Zm, if_true, Zn, ↓reduceIte, reduceCtorEq, or_self, Zo, Zp, Zq, Zr, Zs, Zt, Zu, Zv, Zw, Zx, Zy, Zz, ZA, ZB, ZC, ZD, ZE, ZF, ZG, ZH, ZI, ZJ, ZK, ZL, ZM, ZN, ZO, ZP, ZQ, lenV, minV, maxV, hav, stC_one, ZR, ZS, ZT, ZU, ZV, ZW, ZX, ZY, ZZ, Z0, ones_gc, Z1, Z2, Z3, Z4, Z5, Z6, Z7, Z8, Z9, Ya, Yb, Yc, Yd, z8_len, Ye, Yf, wrap_u8, gc_s, gc_x, gc_o, Yg, Yh, Yi, Yj, Yk, Yl, Ym, Yn, Yo, eq_self, Int.reduceLE, Int.reduceLT, Yp, Yq, Yr, Ys, endQ_1, endQ_2, endQ_3, Yt, Yu, Yv, Yw, Yx, sliceV, loV, hiV, Yy, ZL, Int.reduceToNat, Yz, YA, YB, YC, YD, YE, YF, ne_eq, YG, Nat.reduceSub, YH, shOp, YI, bslQ, mksQ, appQ, partsOk, partsCells, delB, YJ, YK, tab_len, YL, YM, YN, YO, eqL_gc, eqL, SameI, YP, YQ, hl, hm, en, nb2_b1, f1, d2]
    repeat refine And.intro (by omega) ?_
    repeat refine And.intro (by omega) ?_
    intro g
    simp only [List.map_cons, List.map_nil, updL, upd, Nat.reduceEqDiff, if_true, if_false, ↓reduceIte]
    refine hK _ _ ?_; clear hK K
    refine Cd.drop (M' := (bo, cs) :: Mi) (List.Sublist.cons_cons _ (List.sublist_append_left _ _)) ?_
    refine Cd.ret ?_
    simp (maxSteps := 2000000) (disch := first | (simp only [Z9, Ya, Yb, Yc, Yd, z8_len, Ye, ZN, ZO, tab_len, hl, hm, en, nb2_b1, f1, d2] <;> omega) | omega | fail) only [↓YS, ↓YT, YU, YV, YW, YX, bare, bareJ, evP, ↓Za, ↓Zb, ↓Zc, ↓Zd, Ze, ↓Zf, ↓Zg, ↓Zh, evPlan, env0, envN, evOps, evOp, evQs, evQ, evV, setD, pureOp, ev, upd, updL, gate, binW, eqOp, binV, intOp, shOp, boolOp, unV, convV, nilV, fieldAddrV, indexAddrV, extractV, cellAt, cellsAt, findB, setB, fillL, buildV, Value.cells, Zj, Zk, Nat.reduceAdd, Nat.reduceLT, Nat.reduceEqDiff, Nat.reduceMul, Nat.reduceLeDiff, Zl, Zm, if_true, Zn, ↓reduceIte, reduceCtorEq, or_self, Zo, Zp, Zq, Zr, Zs, Zt, Zu, Zv, Zw, Zx, Zy, Zz, ZA, ZB, ZC, ZD, ZE, ZF, ZG, ZH, ZI, ZJ, ZK, ZL, ZM, ZN, ZO, ZP, ZQ, lenV, minV, maxV, hav, stC_one, ZR, ZS, ZT, ZU, ZV, ZW, ZX, ZY, ZZ, Z0, ones_gc, Z1, Z2, Z3, Z4, Z5, Z6, Z7, Z8, Z9, Ya, Yb, Yc, Yd, z8_len, Ye, Yf, wrap_u8, gc_s, gc_x, gc_o, Yg, Yh, Yi, Yj, Yk, Yl, Ym, Yn, Yo, eq_self, Int.reduceLE, Int.reduceLT, Yp, Yq, Yr, Ys, endQ_1, endQ_2, endQ_3, Yt, Yu, Yv, Yw, Yx, sliceV, loV, hiV, Yy, ZL, Int.reduceToNat, Yz, YA, YB, YC, YD, YE, YF, ne_eq, YG, Nat.reduceSub, YH, shOp, YI, bslQ, mksQ, appQ, partsOk, partsCells, delB, YJ, YK, tab_len, YL, YM, YN, YO, eqL_gc, eqL, SameI, YP, YQ, hl, hm, en, nb2_b1, f1, d2]
    repeat refine And.intro (by omega) ?_
    exact .inr ⟨bo, m, cap, cs, vs, Mi, rfl, rfl, hrow, hrows⟩
end

end Go.Proofs
