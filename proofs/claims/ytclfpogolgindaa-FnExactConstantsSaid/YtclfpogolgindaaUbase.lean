/-
  What the functions of this part hand back: each as a plain function of its arguments. Conditions: none.
-/
import Derived.Test.YtclfpogolgindaaFx
namespace Go.Proofs
open Go.W8
set_option linter.unusedVariables false
set_option linter.unusedSimpArgs false
set_option maxRecDepth 8000

theorem within_c (x lo hi : Int) : Gives Try.prog 56 #[.int .i64 x, .int .i64 lo, .int .i64 hi] (.bool (decide (lo ≤ x) && decide (x ≤ hi))) := by
  refine Gives.of fun w => ?_
  refine acall_of (N := 15) (c := _) (rs := [.tmp 6]) (args := [_, _, _]) Try.func56 rfl (by decide) rfl rfl (Nat.le_of_ble_eq_true rfl) ?_
  refine Cd.rs [0, 1, 2] fun K hK => ?_
  simp (disch := first | omega | (simp only [gc_length, ints_length, bools_length, upto_length, List.length_set, z8_len, List.length_replicate, *] <;> omega) | fail) only [↓evOp_call, ↓evQ_call, ↓evV_call, evPlan, env0, envN, evOps, evOp, evQs, evQ, evV, setD, pureOp, ev, upd, updL, gate, binV, intOp, shOp, boolOp, unV, convV, nilV, fieldAddrV, indexAddrV, extractV, cellAt, cellsAt, findB, setB, fillL, buildV, Value.cells, cond_true, cond_false, Nat.reduceAdd, Nat.reduceLT, Nat.reduceEqDiff, Nat.reduceMul, Nat.reduceLeDiff, true_and, and_true, if_true, if_false, ↓reduceIte, reduceCtorEq, or_self, or_false, false_or, and_self, and_false, false_and, List.getElem?_toArray, List.getElem?_cons_zero, List.getElem?_cons_succ, Option.bind_some, Option.map_some, Bool.not_true, Bool.not_false, forall_const, false_implies, true_implies, List.map_cons, List.map_nil, List.nil_append, List.append_nil, List.toList_toArray, Nat.zero_add, Nat.add_zero, Nat.mul_one, Int.toNat_natCast, List.size_toArray, List.length_cons, List.length_nil, List.mem_cons, List.not_mem_nil, lenV, minV, maxV, hav, stC_one, stC_full, stC_gc_x, stC_gc_o, sub_full, splice_full, splice_gc_s, splice_gc_x, splice_gc_o, sub_gc_x, sub_gc_o, ones_gc, ones_ints, ones_bools, ones_int, ones_bool, ones_ptr, ones_slc, ones_str, ones_func, gc_length, ints_length, bools_length, upto_length, List.length_set, z8_len, List.length_replicate, wrap_i64, wrap_u8, gc_s, gc_x, gc_o, gc_set_s, gc_set_x, gc_set_o, ints_get, ints_set, bools_get, bools_set, List.length_map, decide_eq_true_eq, eq_self, Int.reduceLE, Int.reduceLT, Int.tmod_eq_emod_of_nonneg, Int.tdiv_eq_ediv_of_nonneg, retQ_ret, retQ_normal, endQ_1, endQ_2, endQ_3, resV_tmp, resV_cell, bne_self_eq_false, beq_self_eq_true]
  intro g
  simp only [List.map_cons, List.map_nil, updL, upd, Nat.reduceEqDiff, if_true, if_false, ↓reduceIte]
  refine hK _ _ ?_; clear hK K
  refine Cd.rs [6] fun K hK => ?_
  simp (disch := first | omega | (simp only [gc_length, ints_length, bools_length, upto_length, List.length_set, z8_len, List.length_replicate, *] <;> omega) | fail) only [↓evOp_call, ↓evQ_call, ↓evV_call, evPlan, env0, envN, evOps, evOp, evQs, evQ, evV, setD, pureOp, ev, upd, updL, gate, binV, intOp, shOp, boolOp, unV, convV, nilV, fieldAddrV, indexAddrV, extractV, cellAt, cellsAt, findB, setB, fillL, buildV, Value.cells, cond_true, cond_false, Nat.reduceAdd, Nat.reduceLT, Nat.reduceEqDiff, Nat.reduceMul, Nat.reduceLeDiff, true_and, and_true, if_true, if_false, ↓reduceIte, reduceCtorEq, or_self, or_false, false_or, and_self, and_false, false_and, List.getElem?_toArray, List.getElem?_cons_zero, List.getElem?_cons_succ, Option.bind_some, Option.map_some, Bool.not_true, Bool.not_false, forall_const, false_implies, true_implies, List.map_cons, List.map_nil, List.nil_append, List.append_nil, List.toList_toArray, Nat.zero_add, Nat.add_zero, Nat.mul_one, Int.toNat_natCast, List.size_toArray, List.length_cons, List.length_nil, List.mem_cons, List.not_mem_nil, lenV, minV, maxV, hav, stC_one, stC_full, stC_gc_x, stC_gc_o, sub_full, splice_full, splice_gc_s, splice_gc_x, splice_gc_o, sub_gc_x, sub_gc_o, ones_gc, ones_ints, ones_bools, ones_int, ones_bool, ones_ptr, ones_slc, ones_str, ones_func, gc_length, ints_length, bools_length, upto_length, List.length_set, z8_len, List.length_replicate, wrap_i64, wrap_u8, gc_s, gc_x, gc_o, gc_set_s, gc_set_x, gc_set_o, ints_get, ints_set, bools_get, bools_set, List.length_map, decide_eq_true_eq, eq_self, Int.reduceLE, Int.reduceLT, Int.tmod_eq_emod_of_nonneg, Int.tdiv_eq_ediv_of_nonneg, retQ_ret, retQ_normal, endQ_1, endQ_2, endQ_3, resV_tmp, resV_cell, bne_self_eq_false, beq_self_eq_true]
  refine ⟨fun h => ?_, fun h => ?_⟩
  all_goals
    intro g
    simp only [List.map_cons, List.map_nil, updL, upd, Nat.reduceEqDiff, if_true, if_false, ↓reduceIte]
    refine hK _ _ ?_; clear hK K
    refine ret1 rfl ?_
    simp [upd, h]

theorem l01In_c (x lo hi : Int) : Gives Try.prog 55 #[.int .i64 x, .int .i64 lo, .int .i64 hi] (.bool (decide (lo ≤ x) && decide (x ≤ hi))) := by
  refine Gives.of fun w => ?_
  refine acall_of (N := 15) (c := _) (rs := [.tmp 6]) (args := [_, _, _]) Try.func55 rfl (by decide) rfl rfl (Nat.le_of_ble_eq_true rfl) ?_
  refine Cd.rs [0, 1, 2] fun K hK => ?_
  simp (disch := first | omega | (simp only [gc_length, ints_length, bools_length, upto_length, List.length_set, z8_len, List.length_replicate, *] <;> omega) | fail) only [↓evOp_call, ↓evQ_call, ↓evV_call, evPlan, env0, envN, evOps, evOp, evQs, evQ, evV, setD, pureOp, ev, upd, updL, gate, binV, intOp, shOp, boolOp, unV, convV, nilV, fieldAddrV, indexAddrV, extractV, cellAt, cellsAt, findB, setB, fillL, buildV, Value.cells, cond_true, cond_false, Nat.reduceAdd, Nat.reduceLT, Nat.reduceEqDiff, Nat.reduceMul, Nat.reduceLeDiff, true_and, and_true, if_true, if_false, ↓reduceIte, reduceCtorEq, or_self, or_false, false_or, and_self, and_false, false_and, List.getElem?_toArray, List.getElem?_cons_zero, List.getElem?_cons_succ, Option.bind_some, Option.map_some, Bool.not_true, Bool.not_false, forall_const, false_implies, true_implies, List.map_cons, List.map_nil, List.nil_append, List.append_nil, List.toList_toArray, Nat.zero_add, Nat.add_zero, Nat.mul_one, Int.toNat_natCast, List.size_toArray, List.length_cons, List.length_nil, List.mem_cons, List.not_mem_nil, lenV, minV, maxV, hav, stC_one, stC_full, stC_gc_x, stC_gc_o, sub_full, splice_full, splice_gc_s, splice_gc_x, splice_gc_o, sub_gc_x, sub_gc_o, ones_gc, ones_ints, ones_bools, ones_int, ones_bool, ones_ptr, ones_slc, ones_str, ones_func, gc_length, ints_length, bools_length, upto_length, List.length_set, z8_len, List.length_replicate, wrap_i64, wrap_u8, gc_s, gc_x, gc_o, gc_set_s, gc_set_x, gc_set_o, ints_get, ints_set, bools_get, bools_set, List.length_map, decide_eq_true_eq, eq_self, Int.reduceLE, Int.reduceLT, Int.tmod_eq_emod_of_nonneg, Int.tdiv_eq_ediv_of_nonneg, retQ_ret, retQ_normal, endQ_1, endQ_2, endQ_3, resV_tmp, resV_cell, bne_self_eq_false, beq_self_eq_true]
  intro g
  simp only [List.map_cons, List.map_nil, updL, upd, Nat.reduceEqDiff, if_true, if_false, ↓reduceIte]
  refine hK _ _ ?_; clear hK K
  refine Cd.rs [6] fun K hK => ?_
  simp (disch := first | omega | (simp only [gc_length, ints_length, bools_length, upto_length, List.length_set, z8_len, List.length_replicate, *] <;> omega) | fail) only [↓evOp_call, ↓evQ_call, ↓evV_call, evPlan, env0, envN, evOps, evOp, evQs, evQ, evV, setD, pureOp, ev, upd, updL, gate, binV, intOp, shOp, boolOp, unV, convV, nilV, fieldAddrV, indexAddrV, extractV, cellAt, cellsAt, findB, setB, fillL, buildV, Value.cells, cond_true, cond_false, Nat.reduceAdd, Nat.reduceLT, Nat.reduceEqDiff, Nat.reduceMul, Nat.reduceLeDiff, true_and, and_true, if_true, if_false, ↓reduceIte, reduceCtorEq, or_self, or_false, false_or, and_self, and_false, false_and, List.getElem?_toArray, List.getElem?_cons_zero, List.getElem?_cons_succ, Option.bind_some, Option.map_some, Bool.not_true, Bool.not_false, forall_const, false_implies, true_implies, List.map_cons, List.map_nil, List.nil_append, List.append_nil, List.toList_toArray, Nat.zero_add, Nat.add_zero, Nat.mul_one, Int.toNat_natCast, List.size_toArray, List.length_cons, List.length_nil, List.mem_cons, List.not_mem_nil, lenV, minV, maxV, hav, stC_one, stC_full, stC_gc_x, stC_gc_o, sub_full, splice_full, splice_gc_s, splice_gc_x, splice_gc_o, sub_gc_x, sub_gc_o, ones_gc, ones_ints, ones_bools, ones_int, ones_bool, ones_ptr, ones_slc, ones_str, ones_func, gc_length, ints_length, bools_length, upto_length, List.length_set, z8_len, List.length_replicate, wrap_i64, wrap_u8, gc_s, gc_x, gc_o, gc_set_s, gc_set_x, gc_set_o, ints_get, ints_set, bools_get, bools_set, List.length_map, decide_eq_true_eq, eq_self, Int.reduceLE, Int.reduceLT, Int.tmod_eq_emod_of_nonneg, Int.tdiv_eq_ediv_of_nonneg, retQ_ret, retQ_normal, endQ_1, endQ_2, endQ_3, resV_tmp, resV_cell, bne_self_eq_false, beq_self_eq_true]
  refine ⟨fun h => ?_, fun h => ?_⟩
  all_goals
    intro g
    simp only [List.map_cons, List.map_nil, updL, upd, Nat.reduceEqDiff, if_true, if_false, ↓reduceIte]
    refine hK _ _ ?_; clear hK K
    refine ret1 rfl ?_
    simp [upd, h]

end Go.Proofs
