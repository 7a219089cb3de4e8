/-
  What the functions of this part hand back: each as a plain function of its arguments. Conditions: none.
-/
import Derived.ProofKit
import Derived.OpenShut
import Derived.Below
import Derived.ChangeSame
import Derived.Test.YtdfddcfgagfdoaaM1
import Derived.Test.YtdfddcfgagfdoaaM2
import Derived.Test.YtdfddcfgagfdoaaM3
namespace Go.Proofs
open Go.W8
set_option linter.unusedVariables false
set_option linter.unusedSimpArgs false
set_option linter.unusedSectionVars false
set_option maxRecDepth 8000
set_option maxHeartbeats 4000000
theorem slN_len {l : List Int} {a : Option Addr} {m c : Nat} {M : Blks} (h : SlN 1 (ints .i64 l) (.slice a m c) M) : m = l.length := by
  rcases h with ⟨e1, e2, _⟩ | ⟨_, _, _, _, e, _, hr⟩
  · cases e2
    have := congrArg List.length e1
    rw [ints_length] at this
    simpa using this.symm
  · cases e
    exact lauLen hr.len
theorem nodup_fr {w0 : World} {M : Blks} {b : Nat} {cs : List Value} (hb : Fresh w0 M b) (h : (M.map (·.1)).Nodup) : (((b, cs) :: M).map (·.1)).Nodup := by
  simp only [List.map_cons, List.nodup_cons]
  refine ⟨fun hm => ?_, h⟩
  obtain ⟨p, hp, e⟩ := List.mem_map.1 hm
  exact hb.2 p hp e.symm
theorem rd_two {a b : Nat} {x y z u : Int} : RdS (toldOf [(a, ints .i64 [x, y]), (b, ints .i64 [z, u])]) 1 (ints .i64 [x, y]) (.slice (some ⟨a, 0, none⟩) 2 2) ∧ RdS (toldOf [(a, ints .i64 [x, y]), (b, ints .i64 [z, u])]) 1 (ints .i64 [z, u]) (.slice (some ⟨b, 0, none⟩) 2 2) :=
  ⟨(SlN.row (Row.full (w := 1) (m := 2) rfl)).reads fun p hp => mem_toldOf (by rw [List.mem_singleton.1 hp]; simp), (SlN.row (Row.full (w := 1) (m := 2) rfl)).reads fun p hp => mem_toldOf (by rw [List.mem_singleton.1 hp]; simp)⟩
def bnL (d i : Nat) : List Int := (List.range i).map fun (i : Nat) => binR (2 * (d : Int)) i * (1 - 2 * ((i : Int) % 2))
def cwQ (d : Nat) (L : List Int) (t : Nat) : List Int := (List.range (2 * d + 1)).map fun i => if i < t then (symL d (cwN d L)).getD i 0 else (bnL d (2 * d + 1)).getD i 0
section
variable {d i t : Nat} {L : List Int}
theorem bnL_len : (bnL d i).length = i := by simp [bnL]
theorem bnL_get {j : Nat} (h : j < i) : (bnL d i).getD j 0 = binR (2 * (d : Int)) j * (1 - 2 * ((j : Int) % 2)) := map_get h
theorem bnL_succ : bnL d (i + 1) = bnL d i ++ [binR (2 * (d : Int)) i * (1 - 2 * ((i : Int) % 2))] := by
  unfold bnL; rw [List.range_succ, List.map_append]; rfl
theorem cwQ_len : (cwQ d L t).length = 2 * d + 1 := by simp [cwQ]
theorem cwQ_get {j : Nat} (h : j < 2 * d + 1) : (cwQ d L t).getD j 0 = if j < t then (symL d (cwN d L)).getD j 0 else (bnL d (2 * d + 1)).getD j 0 := map_get h
theorem cwQ_zero : cwQ d L 0 = bnL d (2 * d + 1) := by
  refine getD_ext0 (by rw [cwQ_len, bnL_len]) fun j hj => ?_
  rw [cwQ_len] at hj
  rw [cwQ_get hj, if_neg (by omega)]
theorem cwQ_full : cwQ d L (2 * d + 1) = symL d (cwN d L) := by
  refine getD_ext0 (by rw [cwQ_len, symL_len]) fun j hj => ?_
  rw [cwQ_len] at hj
  rw [cwQ_get hj, if_pos hj]
theorem cwQ_set (h : t < 2 * d + 1) : (cwQ d L t).set t ((symL d (cwN d L)).getD t 0) = cwQ d L (t + 1) := by
  refine getD_ext0 (by simp [cwQ_len]) fun j hj => ?_
  rw [List.length_set, cwQ_len] at hj
  rw [getD_set0 (by rw [cwQ_len]; exact h), cwQ_get hj, cwQ_get hj]
  by_cases e : t = j
  · subst e; rw [if_pos rfl, if_pos (by omega)]
  · rw [if_neg e]
    by_cases h2 : j < t
    · rw [if_pos h2, if_pos (by omega)]
    · rw [if_neg h2, if_neg (by omega)]
theorem cwOk_of (hl : d < L.length) (h : ∀ i, i < 2 * d + 1 → coOk ((symL d (cwN d L)).getD i 0) = true) : cwOk d L := by
  intro j hj
  have := h (d + j) (by omega)
  rw [symL_get (by omega)] at this
  unfold cwN at this
  by_cases h0 : j = 0
  · subst h0
    rw [if_pos (by omega), cwP_get (by omega), if_pos (by omega)] at this
    rw [show d - (d + 0) = 0 by omega] at this
    exact this
  · rw [if_neg (by omega), cwP_get (by omega), if_pos (by omega), show d + j - d = j by omega] at this
    exact this
theorem cwOk_not (hl : d < L.length) {i : Nat} (hi : i < 2 * d + 1) (h : coOk ((symL d (cwN d L)).getD i 0) = false) : ¬ cwOk d L := by
  intro hok
  rw [symL_get hi] at h
  unfold cwN at h
  rw [cwP_get (by split <;> omega), if_pos (by split <;> omega)] at h
  have := hok (if i ≤ d then d - i else i - d) (by split <;> omega)
  rw [h] at this
  cases this
theorem cwN_top (hd : d < 21) (hl : d < L.length) : (cwN d L).getD d 0 = 0 := by
  unfold cwN
  rw [cwP_get hl, if_pos (by omega)]
  unfold cwV
  rw [Nat.sub_self, show d + d = 2 * d by omega, binR_one d hd]
  show _ - _ * (1 * 1) = 0
  omega
theorem cwN_above {j : Nat} (h : d < j) : (cwN d L).getD j 0 = L.getD j 0 := by
  unfold cwN
  by_cases hj : j < L.length
  · rw [cwP_get hj, if_neg (by omega)]
  · rw [getD_far (by rw [cwP_len]; omega), getD_far (by omega)]
end
theorem exS2 (c p b : Int) : exS [c, p] [0 - b, 1] ([c, p] : List Int).length = p - c * b := by
  show 0 + c * (0 - b) + p * 1 = p - c * b
  rw [Int.zero_sub, Int.mul_neg, Int.mul_one]
  omega
theorem nodup_add {L MM : Blks} {b : Nat} {cs : List Value} (hL : (L.map (·.1)).Nodup) (hm : ∀ p ∈ L, p ∈ MM) (hb : ∀ p ∈ MM, ¬ b = p.1) : ((L ++ [(b, cs)]).map (·.1)).Nodup := by
  rw [List.map_append, List.nodup_append]
  refine ⟨hL, by simp, fun u hu v hv e => ?_⟩
  obtain ⟨p, hp, rfl⟩ := List.mem_map.1 hu
  simp only [List.map_cons, List.map_nil, List.mem_singleton] at hv
  exact hb p (hm p hp) (by rw [← hv, ← e])
def conP (r : Option (List Int)) (L : Blks) (v : Value) (M' : Blks) : Prop :=
  (∀ p ∈ L, p ∈ M') ∧ match r with
    | some out => ∃ s Mo, v = .tuple #[s, .bool true] ∧ SlN 1 (ints .i64 out) s Mo ∧ (∀ p ∈ Mo, p ∈ M') ∧ ((L ++ Mo).map (·.1)).Nodup
    | none => v = .tuple #[.slice none 0 0, .bool false]
section
variable (d : Nat) (hd : d < 21) (K0 : List Int) (hK : K0.length = d + 1) (hn : K0.getD d 0 ≠ 0) (hc : ∀ j, coOk (K0.getD j 0) = true) (v : Value) (L : Blks) (hv : LauV (-(d : Int)) (symL d K0) v L)
include hd hK hn hc hv
theorem l04Conway_c : GivesX Try.prog 106 #[v] L [] (conP (cwK (d + 1) K0 (List.replicate (d + 1) 0)) L) := by
  obtain ⟨s0, rfl, hs0⟩ := hv
  obtain ⟨a0, m0, c0, rfl⟩ := hs0.form
  have hl0 : m0 = 2 * d + 1 := by
    rcases hs0 with ⟨e1, e2, _⟩ | ⟨_, _, _, _, e, _, hr⟩
    · have := congrArg List.length e1
      rw [ints_length, symL_len] at this
      simp only [List.length_nil] at this
      omega
    · cases e
      have := lauLen hr.len
      rw [symL_len] at this
      exact this
  refine GivesX.of (callable_of Try.func106 rfl (by decide)) ?_ fun w hnd hlt hR => ?_
  · simp
  refine acall_of (N := 103) (c := _) (rs := [.tmp 2, .tmp 3]) (args := [_]) Try.func106 rfl (by decide) rfl rfl (Nat.le_of_ble_eq_true rfl) ?_
  have hndL := hnd
  refine Cd.rs [1] fun K hK => ?_
  simp (maxSteps := 2000000) (disch := first | (simp only [E4] <;> omega) | omega | fail) only [↓E2, E3, bare, bareJ, ↓E0, E1, evP, evPlan, env0, envN, evOps, evOp, evQs, evQ, evV, setD, pureOp, ev, upd, updL, gate, binW, eqOp, binV, intOp, shOp, boolOp, unV, convV, nilV, fieldAddrV, indexAddrV, extractV, cellAt, cellsAt, findB, setB, fillL, buildV, Value.cells, lenV, minV, maxV, hav, sliceV, loV, hiV, bslQ, mksQ, appQ, partsOk, partsCells, delB, eqL, SameI, strOp, apzQ, cvtQ, capV, ↓reduceIte, Zj, Zk, Nat.reduceAdd, Nat.reduceLT, Nat.reduceEqDiff, Nat.reduceMul, Nat.reduceLeDiff, if_true, Zn, reduceCtorEq, ZA, eq_self, Int.reduceLE, Int.reduceLT, Int.reduceToNat, ne_eq, Nat.reduceSub]
  repeat refine And.intro (by omega) ?_
  intro b1 hb1
  try simp (maxSteps := 2000000) (disch := first | (simp only [E4] <;> omega) | omega | fail) only [↓E2, E3, bare, bareJ, ↓E0, E1, evP, evPlan, env0, envN, evOps, evOp, evQs, evQ, evV, setD, pureOp, ev, upd, updL, gate, binW, eqOp, binV, intOp, shOp, boolOp, unV, convV, nilV, fieldAddrV, indexAddrV, extractV, cellAt, cellsAt, findB, setB, fillL, buildV, Value.cells, lenV, minV, maxV, hav, sliceV, loV, hiV, bslQ, mksQ, appQ, partsOk, partsCells, delB, eqL, SameI, strOp, apzQ, cvtQ, capV, ↓reduceIte, Zj, Zk, Nat.reduceAdd, Nat.reduceLT, Nat.reduceEqDiff, Nat.reduceMul, Nat.reduceLeDiff, if_true, Zn, reduceCtorEq, ZA, eq_self, Int.reduceLE, Int.reduceLT, Int.reduceToNat, ne_eq, Nat.reduceSub]
  repeat refine And.intro (by omega) ?_
  repeat refine And.intro (by omega) ?_
  intro g
  simp only [List.map_cons, List.map_nil, updL, upd, Nat.reduceEqDiff, if_true, if_false, ↓reduceIte]
  refine hK _ _ ?_; clear hK K
  refine Cd.seq ?_
  refine Cd.rs [1, 15] fun K hK => ?_
  simp (maxSteps := 2000000) (disch := first | (simp only [E4] <;> omega) | omega | fail) only [↓E2, E3, bare, bareJ, ↓E0, E1, evP, evPlan, env0, envN, evOps, evOp, evQs, evQ, evV, setD, pureOp, ev, upd, updL, gate, binW, eqOp, binV, intOp, shOp, boolOp, unV, convV, nilV, fieldAddrV, indexAddrV, extractV, cellAt, cellsAt, findB, setB, fillL, buildV, Value.cells, lenV, minV, maxV, hav, sliceV, loV, hiV, bslQ, mksQ, appQ, partsOk, partsCells, delB, eqL, SameI, strOp, apzQ, cvtQ, capV, ↓reduceIte, Zj, Zk, Nat.reduceAdd, Nat.reduceLT, Nat.reduceEqDiff, Nat.reduceMul, Nat.reduceLeDiff, if_true, Zn, reduceCtorEq, ZA, eq_self, Int.reduceLE, Int.reduceLT, Int.reduceToNat, ne_eq, Nat.reduceSub, Tfld56_1, Tld47, Tslce47]
  repeat refine And.intro (by omega) ?_
  repeat refine And.intro (by omega) ?_
  intro g
  simp only [List.map_cons, List.map_nil, updL, upd, Nat.reduceEqDiff, if_true, if_false, ↓reduceIte]
  refine hK _ _ ?_; clear hK K
  refine Cd.condd rfl (fun h1 => absurd h1 (by omega)) (fun h1 => ?_)
  refine Cd.skip ?_
  refine thenN ?_
  have e1d : (1 : Int) - -(d : Int) = ((d + 1 : Nat) : Int) := by omega
  skip
  refine Cd.rs [1, 4] fun K hK => ?_
  simp (maxSteps := 2000000) (disch := first | (simp only [E4, e1d] <;> omega) | omega | fail) only [↓E2, E3, bare, bareJ, ↓E0, E1, evP, evPlan, env0, envN, evOps, evOp, evQs, evQ, evV, setD, pureOp, ev, upd, updL, gate, binW, eqOp, binV, intOp, shOp, boolOp, unV, convV, nilV, fieldAddrV, indexAddrV, extractV, cellAt, cellsAt, findB, setB, fillL, buildV, Value.cells, lenV, minV, maxV, hav, sliceV, loV, hiV, bslQ, mksQ, appQ, partsOk, partsCells, delB, eqL, SameI, strOp, apzQ, cvtQ, capV, ↓reduceIte, Zj, Zk, Nat.reduceAdd, Nat.reduceLT, Nat.reduceEqDiff, Nat.reduceMul, Nat.reduceLeDiff, if_true, Zn, reduceCtorEq, ZA, eq_self, Int.reduceLE, Int.reduceLT, Int.reduceToNat, ne_eq, Nat.reduceSub, Tby2, Tfld56_0, Tld2, Tslc47, Tslce47, Tzero2, e1d]
  repeat refine And.intro (by omega) ?_
  intro b2 hb2
  have nb2_b1 := hb2.ne
  try simp (maxSteps := 2000000) (disch := first | (simp only [E4, e1d, nb2_b1] <;> omega) | omega | fail) only [↓E2, E3, bare, bareJ, ↓E0, E1, evP, evPlan, env0, envN, evOps, evOp, evQs, evQ, evV, setD, pureOp, ev, upd, updL, gate, binW, eqOp, binV, intOp, shOp, boolOp, unV, convV, nilV, fieldAddrV, indexAddrV, extractV, cellAt, cellsAt, findB, setB, fillL, buildV, Value.cells, lenV, minV, maxV, hav, sliceV, loV, hiV, bslQ, mksQ, appQ, partsOk, partsCells, delB, eqL, SameI, strOp, apzQ, cvtQ, capV, ↓reduceIte, Zj, Zk, Nat.reduceAdd, Nat.reduceLT, Nat.reduceEqDiff, Nat.reduceMul, Nat.reduceLeDiff, if_true, Zn, reduceCtorEq, ZA, eq_self, Int.reduceLE, Int.reduceLT, Int.reduceToNat, ne_eq, Nat.reduceSub, Tby2, Tfld56_0, Tld2, Tslc47, Tslce47, Tzero2, e1d, nb2_b1]
  repeat refine And.intro (by omega) ?_
  have hz : List.replicate (d + 1) (Value.int .i64 0) = ints .i64 (List.replicate (d + 1) 0) := by simp [ints]
  rw [hz]
  repeat refine And.intro (by omega) ?_
  intro g
  simp only [List.map_cons, List.map_nil, updL, upd, Nat.reduceEqDiff, if_true, if_false, ↓reduceIte]
  refine hK _ _ ?_; clear hK K
  refine Cd.seq ?_
  refine Cd.block ?_
  refine Cd.loop (fun n ρ M => ∃ g Lc out a m c Mq MM pl pll, ((∃ d', d' ≤ d ∧ n = d' + 1 ∧ pl = -(d' : Int) ∧ pll = symL d' Lc ∧ Lc.getD d' 0 ≠ 0 ∧ (∀ j, j ≤ d' → out.getD j 0 = 0) ∧ cwK (d + 1) K0 (List.replicate (d + 1) 0) = cwK (d' + 1) Lc out ∧ (∀ j, coOk (Lc.getD j 0) = true) ∧ Lc.length = d + 1) ∨ (pl = 0 ∧ pll = [] ∧ cwK (d + 1) K0 (List.replicate (d + 1) 0) = some out)) ∧
    out.length = d + 1 ∧ SlN 1 (ints .i64 pll) (.slice a m c) Mq ∧ (∀ p ∈ Mq, p ∈ MM) ∧ (∀ p ∈ L, p ∈ MM) ∧ ρ = updL [(1, .pointer (some ⟨b1, 0, none⟩)), (4, .slice (some ⟨b2, 0, none⟩) (d + 1) (d + 1))] g ∧ SubP ((b1, [.int .i64 pl, .slice a m c]) :: (b2, ints .i64 out) :: MM) M) (d + 1)
    ⟨_, K0, List.replicate (d + 1) 0, a0, m0, c0, L, L, -(d : Int), symL d K0, .inl ⟨d, Nat.le_refl _, rfl, rfl, rfl, hn, fun j _ => by rw [List.getD_eq_getElem?_getD, List.getElem?_replicate]; split <;> rfl, rfl, hc, hK⟩, List.length_replicate, hs0, fun _ h => h, fun _ h => h, rfl, .perm (.swap _ _ _) (.refl _)⟩ ?_
  rintro n ρ M ⟨g, Lc, out, a, m, c, Mq, MM, pl, pll, hcase, hout, hsl, hMq, hL, rfl, hM⟩
  refine Cd.sub hM ?_
  clear hM M
  have hm := slN_len hsl
  subst hm
  refine Cd.nodup fun hnd => ?_
  have d12 : (b1 = b2) = False := eq_false ((nodup_cases hnd).1 (b2, ints .i64 out) (by simp))
  have d21 : (b2 = b1) = False := eq_false fun e => (nodup_cases hnd).1 (b2, ints .i64 out) (by simp) e.symm
  skip
  skip
  refine Cd.seq ?_
  refine Cd.rs [1, 4, 24] fun K hK => ?_
  simp (maxSteps := 2000000) (disch := first | (simp only [E4, e1d, nb2_b1, d12, d21] <;> omega) | omega | fail) only [↓E2, E3, bare, bareJ, ↓E0, E1, evP, evPlan, env0, envN, evOps, evOp, evQs, evQ, evV, setD, pureOp, ev, upd, updL, gate, binW, eqOp, binV, intOp, shOp, boolOp, unV, convV, nilV, fieldAddrV, indexAddrV, extractV, cellAt, cellsAt, findB, setB, fillL, buildV, Value.cells, lenV, minV, maxV, hav, sliceV, loV, hiV, bslQ, mksQ, appQ, partsOk, partsCells, delB, eqL, SameI, strOp, apzQ, cvtQ, capV, ↓reduceIte, Zj, Zk, Nat.reduceAdd, Nat.reduceLT, Nat.reduceEqDiff, Nat.reduceMul, Nat.reduceLeDiff, if_true, Zn, reduceCtorEq, ZA, eq_self, Int.reduceLE, Int.reduceLT, Int.reduceToNat, ne_eq, Nat.reduceSub, Tfld56_1, Tld47, Tslce47, e1d, nb2_b1, d12, d21]
  repeat refine And.intro (by omega) ?_
  repeat refine And.intro (by omega) ?_
  intro g
  simp only [List.map_cons, List.map_nil, updL, upd, Nat.reduceEqDiff, if_true, if_false, ↓reduceIte]
  refine hK _ _ ?_; clear hK K
  refine Cd.condd rfl (fun h2 => ?_) (fun h2 => ?_)
  · rcases hcase with ⟨d', hd', rfl, rfl, rfl, hne, hoz, hcw, hcc, hlc⟩ | ⟨_, rfl, _⟩
    · rcases hsl with ⟨e, _, _⟩ | ⟨bq, mq, cq, csq, e, rfl, hrq⟩
      · have := congrArg List.length e
        rw [ints_length, symL_len] at this
        simp only [List.length_nil] at this
        omega
      have hsy : (symL d' Lc).length = 2 * d' + 1 := symL_len
      have hcs0 : (symL d' Lc).getD 0 0 = Lc.getD d' 0 := by rw [symL_get (by omega), if_pos (by omega)]; rfl
      cases e
      have e1 : (b1 = bq) = False := eq_false ((nodup_cases hnd).1 (bq, csq) (by simp [hMq]))
      have e2 : (b2 = bq) = False := eq_false ((nodup_cases (nodup_cases hnd).2).1 (bq, csq) (by simp [hMq]))
      have fq := findB_of (nodup_cases (nodup_cases hnd).2).2 (b := bq) (cs := csq) (by simp [hMq])
      have g0 := hrq.get (ints_get (k := .i64) (l := symL d' Lc) (i := 0) (by omega))
      rw [hcs0] at g0
      have hck := hcc d'
      have hcb : -1000000000000 ≤ Lc.getD d' 0 ∧ Lc.getD d' 0 ≤ 1000000000000 := by
        unfold coOk at hck
        simpa using hck
      have ed : (0 : Int) - -(d' : Int) = (d' : Int) := by omega
      have hstep : ∀ i, i < 2 * d' + 1 → (symL d' Lc).getD i 0 - Lc.getD d' 0 * (binR (2 * (d' : Int)) i * (1 - 2 * ((i : Int) % 2))) = (symL d' (cwN d' Lc)).getD i 0 := fun i hi => symL_step (by omega) (by omega) hi
      have hall : ∀ j, -1000000000000 ≤ (symL d' Lc).getD j 0 ∧ (symL d' Lc).getD j 0 ≤ 1000000000000 := by
        intro j
        by_cases hj : j < 2 * d' + 1
        · rw [symL_get hj]
          have := hcc (if j ≤ d' then d' - j else j - d')
          unfold coOk at this
          simpa using this
        · rw [getD_far (by omega)]; omega
      generalize hcd : Lc.getD d' 0 = cc at *
      refine Cd.skip ?_
      refine thenN ?_
      refine Cd.block ?_
      skip
      refine Cd.rs [1, 4, 5] fun K hK => ?_
      simp (maxSteps := 2000000) (disch := first | (simp only [E4, e1d, nb2_b1, d12, d21, e1, e2, fq, g0, ed, hout, hsy] <;> omega) | omega | fail) only [↓E2, E3, bare, bareJ, ↓E0, E1, evP, evPlan, env0, envN, evOps, evOp, evQs, evQ, evV, setD, pureOp, ev, upd, updL, gate, binW, eqOp, binV, intOp, shOp, boolOp, unV, convV, nilV, fieldAddrV, indexAddrV, extractV, cellAt, cellsAt, findB, setB, fillL, buildV, Value.cells, lenV, minV, maxV, hav, sliceV, loV, hiV, bslQ, mksQ, appQ, partsOk, partsCells, delB, eqL, SameI, strOp, apzQ, cvtQ, capV, ↓reduceIte, Zj, Zk, Nat.reduceAdd, Nat.reduceLT, Nat.reduceEqDiff, Nat.reduceMul, Nat.reduceLeDiff, if_true, Zn, reduceCtorEq, ZA, eq_self, Int.reduceLE, Int.reduceLT, Int.reduceToNat, ne_eq, Nat.reduceSub, Tfld56_0, Tld2, e1d, nb2_b1, d12, d21, e1, e2, fq, g0, ed, hout, hsy]
      repeat refine And.intro (by omega) ?_
      repeat refine And.intro (by omega) ?_
      intro g
      simp only [List.map_cons, List.map_nil, updL, upd, Nat.reduceEqDiff, if_true, if_false, ↓reduceIte]
      refine hK _ _ ?_; clear hK K
      refine Cd.rs [1, 4, 5] fun K hK => ?_
      simp (maxSteps := 2000000) (disch := first | (simp only [E4, e1d, nb2_b1, d12, d21, e1, e2, fq, g0, ed, hout, hsy] <;> omega) | omega | fail) only [↓E2, E3, bare, bareJ, ↓E0, E1, evP, evPlan, env0, envN, evOps, evOp, evQs, evQ, evV, setD, pureOp, ev, upd, updL, gate, binW, eqOp, binV, intOp, shOp, boolOp, unV, convV, nilV, fieldAddrV, indexAddrV, extractV, cellAt, cellsAt, findB, setB, fillL, buildV, Value.cells, lenV, minV, maxV, hav, sliceV, loV, hiV, bslQ, mksQ, appQ, partsOk, partsCells, delB, eqL, SameI, strOp, apzQ, cvtQ, capV, ↓reduceIte, Zj, Zk, Nat.reduceAdd, Nat.reduceLT, Nat.reduceEqDiff, Nat.reduceMul, Nat.reduceLeDiff, if_true, Zn, reduceCtorEq, ZA, eq_self, Int.reduceLE, Int.reduceLT, Int.reduceToNat, ne_eq, Nat.reduceSub, Tfld56_1, Tld2, Tld47, Tslc47, Tst2, e1d, nb2_b1, d12, d21, e1, e2, fq, g0, ed, hout, hsy]
      repeat refine And.intro (by omega) ?_
      repeat refine And.intro (by omega) ?_
      intro g
      simp only [List.map_cons, List.map_nil, updL, upd, Nat.reduceEqDiff, if_true, if_false, ↓reduceIte]
      refine hK _ _ ?_; clear hK K
      have gout : (out.set d' cc).getD d' 0 = cc := by rw [getD_set0 (by omega), if_pos rfl]
      have hout2 : (out.set d' cc).length = d + 1 := by rw [List.length_set, hout]
      generalize hO2 : out.set d' cc = O2 at *
      skip
      refine Cd.seq ?_
      refine Cd.rs [1, 4, 5, 40] fun K hK => ?_
      simp (maxSteps := 2000000) (disch := first | (simp only [E4, e1d, nb2_b1, d12, d21, e1, e2, fq, g0, ed, hout, hsy, gout, hout2] <;> omega) | omega | fail) only [↓E2, E3, bare, bareJ, ↓E0, E1, evP, evPlan, env0, envN, evOps, evOp, evQs, evQ, evV, setD, pureOp, ev, upd, updL, gate, binW, eqOp, binV, intOp, shOp, boolOp, unV, convV, nilV, fieldAddrV, indexAddrV, extractV, cellAt, cellsAt, findB, setB, fillL, buildV, Value.cells, lenV, minV, maxV, hav, sliceV, loV, hiV, bslQ, mksQ, appQ, partsOk, partsCells, delB, eqL, SameI, strOp, apzQ, cvtQ, capV, ↓reduceIte, Zj, Zk, Nat.reduceAdd, Nat.reduceLT, Nat.reduceEqDiff, Nat.reduceMul, Nat.reduceLeDiff, if_true, Zn, reduceCtorEq, ZA, eq_self, Int.reduceLE, Int.reduceLT, Int.reduceToNat, ne_eq, Nat.reduceSub, Tld2, Tslc47, e1d, nb2_b1, d12, d21, e1, e2, fq, g0, ed, hout, hsy, gout, hout2]
      repeat refine And.intro (by omega) ?_
      refine callK_gives (l01In_c _ _ _) ?_
      simp (maxSteps := 2000000) (disch := first | (simp only [E4, e1d, nb2_b1, d12, d21, e1, e2, fq, g0, ed, hout, hsy, gout, hout2] <;> omega) | omega | fail) only [↓E2, E3, bare, bareJ, ↓E0, E1, evP, evPlan, env0, envN, evOps, evOp, evQs, evQ, evV, setD, pureOp, ev, upd, updL, gate, binW, eqOp, binV, intOp, shOp, boolOp, unV, convV, nilV, fieldAddrV, indexAddrV, extractV, cellAt, cellsAt, findB, setB, fillL, buildV, Value.cells, lenV, minV, maxV, hav, sliceV, loV, hiV, bslQ, mksQ, appQ, partsOk, partsCells, delB, eqL, SameI, strOp, apzQ, cvtQ, capV, ↓reduceIte, Zj, Zk, Nat.reduceAdd, Nat.reduceLT, Nat.reduceEqDiff, Nat.reduceMul, Nat.reduceLeDiff, if_true, Zn, reduceCtorEq, ZA, eq_self, Int.reduceLE, Int.reduceLT, Int.reduceToNat, ne_eq, Nat.reduceSub, Tld2, Tslc47, e1d, nb2_b1, d12, d21, e1, e2, fq, g0, ed, hout, hsy, gout, hout2]
      repeat refine And.intro (by omega) ?_
      repeat refine And.intro (by omega) ?_
      intro g
      simp only [List.map_cons, List.map_nil, updL, upd, Nat.reduceEqDiff, if_true, if_false, ↓reduceIte]
      refine hK _ _ ?_; clear hK K
      refine Cd.cond rfl (fun h3 => by rw [decide_eq_true hcb.1, decide_eq_true hcb.2] at h3; cases h3) (fun h3 => ?_)
      refine Cd.skip ?_
      refine thenN ?_
      refine Cd.rs [1, 4, 5, 6, 7] fun K hK => ?_
      simp (maxSteps := 2000000) (disch := first | (simp only [E4, e1d, nb2_b1, d12, d21, e1, e2, fq, g0, ed, hout, hsy, gout, hout2] <;> omega) | omega | fail) only [↓E2, E3, bare, bareJ, ↓E0, E1, evP, evPlan, env0, envN, evOps, evOp, evQs, evQ, evV, setD, pureOp, ev, upd, updL, gate, binW, eqOp, binV, intOp, shOp, boolOp, unV, convV, nilV, fieldAddrV, indexAddrV, extractV, cellAt, cellsAt, findB, setB, fillL, buildV, Value.cells, lenV, minV, maxV, hav, sliceV, loV, hiV, bslQ, mksQ, appQ, partsOk, partsCells, delB, eqL, SameI, strOp, apzQ, cvtQ, capV, ↓reduceIte, Zj, Zk, Nat.reduceAdd, Nat.reduceLT, Nat.reduceEqDiff, Nat.reduceMul, Nat.reduceLeDiff, if_true, Zn, reduceCtorEq, ZA, eq_self, Int.reduceLE, Int.reduceLT, Int.reduceToNat, ne_eq, Nat.reduceSub, Tby2, Tslc47, Tslce47, Tzero2, e1d, nb2_b1, d12, d21, e1, e2, fq, g0, ed, hout, hsy, gout, hout2]
      repeat refine And.intro (by omega) ?_
      intro b4 hb4
      have nb4_b2 := hb4.ne
      have nb4_b1 := hb4.tail.ne
      try simp (maxSteps := 2000000) (disch := first | (simp only [E4, e1d, nb2_b1, d12, d21, e1, e2, fq, g0, ed, hout, hsy, gout, hout2, nb4_b2, nb4_b1] <;> omega) | omega | fail) only [↓E2, E3, bare, bareJ, ↓E0, E1, evP, evPlan, env0, envN, evOps, evOp, evQs, evQ, evV, setD, pureOp, ev, upd, updL, gate, binW, eqOp, binV, intOp, shOp, boolOp, unV, convV, nilV, fieldAddrV, indexAddrV, extractV, cellAt, cellsAt, findB, setB, fillL, buildV, Value.cells, lenV, minV, maxV, hav, sliceV, loV, hiV, bslQ, mksQ, appQ, partsOk, partsCells, delB, eqL, SameI, strOp, apzQ, cvtQ, capV, ↓reduceIte, Zj, Zk, Nat.reduceAdd, Nat.reduceLT, Nat.reduceEqDiff, Nat.reduceMul, Nat.reduceLeDiff, if_true, Zn, reduceCtorEq, ZA, eq_self, Int.reduceLE, Int.reduceLT, Int.reduceToNat, ne_eq, Nat.reduceSub, Tby2, Tslc47, Tslce47, Tzero2, e1d, nb2_b1, d12, d21, e1, e2, fq, g0, ed, hout, hsy, gout, hout2, nb4_b2, nb4_b1]
      repeat refine And.intro (by omega) ?_
      repeat refine And.intro (by omega) ?_
      intro g
      simp only [List.map_cons, List.map_nil, updL, upd, Nat.reduceEqDiff, if_true, if_false, ↓reduceIte]
      refine hK _ _ ?_; clear hK K
      refine Cd.seq ?_
      refine Cd.rs [1, 4, 5, 6, 7, 8] fun K hK => ?_
      simp (maxSteps := 2000000) (disch := first | (simp only [E4, e1d, nb2_b1, d12, d21, e1, e2, fq, g0, ed, hout, hsy, gout, hout2, nb4_b2, nb4_b1] <;> omega) | omega | fail) only [↓E2, E3, bare, bareJ, ↓E0, E1, evP, evPlan, env0, envN, evOps, evOp, evQs, evQ, evV, setD, pureOp, ev, upd, updL, gate, binW, eqOp, binV, intOp, shOp, boolOp, unV, convV, nilV, fieldAddrV, indexAddrV, extractV, cellAt, cellsAt, findB, setB, fillL, buildV, Value.cells, lenV, minV, maxV, hav, sliceV, loV, hiV, bslQ, mksQ, appQ, partsOk, partsCells, delB, eqL, SameI, strOp, apzQ, cvtQ, capV, ↓reduceIte, Zj, Zk, Nat.reduceAdd, Nat.reduceLT, Nat.reduceEqDiff, Nat.reduceMul, Nat.reduceLeDiff, if_true, Zn, reduceCtorEq, ZA, eq_self, Int.reduceLE, Int.reduceLT, Int.reduceToNat, ne_eq, Nat.reduceSub, e1d, nb2_b1, d12, d21, e1, e2, fq, g0, ed, hout, hsy, gout, hout2, nb4_b2, nb4_b1]
      repeat refine And.intro (by omega) ?_
      repeat refine And.intro (by omega) ?_
      intro g
      simp only [List.map_cons, List.map_nil, updL, upd, Nat.reduceEqDiff, if_true, if_false, ↓reduceIte]
      refine hK _ _ ?_; clear hK K
      refine Cd.block ?_
      refine Cd.loop (fun q ρ M => ∃ g i bl cap cs, i + q = 2 * d' + 1 ∧ Row 1 (ints .i64 (bnL d' i)) i cap cs ∧ ρ = updL [(1, .pointer (some ⟨b1, 0, none⟩)), (4, .slice (some ⟨b2, 0, none⟩) (d + 1) (d + 1)), (5, .int .i64 (d' : Int)), (6, .slice (some ⟨bl, 0, none⟩) i cap), (7, .int .i64 (binR (2 * (d' : Int)) i)), (8, .int .i64 (i : Int))] g ∧
        SubP ((bl, cs) :: (b1, [.int .i64 (-(d' : Int)), .slice (some ⟨bq, 0, none⟩) (2 * d' + 1) c]) :: (b2, ints .i64 O2) :: MM) M) (2 * d' + 1) ⟨_, 0, b4, 0, [], Nat.zero_add _, Row.nil 1, rfl, SubP.refl _⟩ ?_
      rintro q ρ M ⟨g, i, bl, cap, cs, hi, hrow, rfl, hM⟩
      refine Cd.sub hM ?_
      clear hM M
      have s1 := hrow.size1
      have s2 := hrow.le
      refine Cd.nodup fun hnd2 => ?_
      have r1 : (bl = b1) = False := eq_false ((nodup_cases hnd2).1 (b1, [.int .i64 (-(d' : Int)), .slice (some ⟨bq, 0, none⟩) (2 * d' + 1) c]) (by simp))
      have r2 : (bl = b2) = False := eq_false ((nodup_cases hnd2).1 (b2, ints .i64 O2) (by simp))
      have r3 : (bl = bq) = False := eq_false ((nodup_cases hnd2).1 (bq, csq) (by simp [hMq]))
      skip
      skip
      refine Cd.seq ?_
      refine Cd.rs [1, 4, 5, 6, 7, 8, 45] fun K hK => ?_
      simp (maxSteps := 2000000) (disch := first | (simp only [E4, e1d, nb2_b1, d12, d21, e1, e2, fq, g0, ed, hout, hsy, gout, hout2, nb4_b2, nb4_b1, r1, r2, r3] <;> omega) | omega | fail) only [↓E2, E3, bare, bareJ, ↓E0, E1, evP, evPlan, env0, envN, evOps, evOp, evQs, evQ, evV, setD, pureOp, ev, upd, updL, gate, binW, eqOp, binV, intOp, shOp, boolOp, unV, convV, nilV, fieldAddrV, indexAddrV, extractV, cellAt, cellsAt, findB, setB, fillL, buildV, Value.cells, lenV, minV, maxV, hav, sliceV, loV, hiV, bslQ, mksQ, appQ, partsOk, partsCells, delB, eqL, SameI, strOp, apzQ, cvtQ, capV, ↓reduceIte, Zj, Zk, Nat.reduceAdd, Nat.reduceLT, Nat.reduceEqDiff, Nat.reduceMul, Nat.reduceLeDiff, if_true, Zn, reduceCtorEq, ZA, eq_self, Int.reduceLE, Int.reduceLT, Int.reduceToNat, ne_eq, Nat.reduceSub, e1d, nb2_b1, d12, d21, e1, e2, fq, g0, ed, hout, hsy, gout, hout2, nb4_b2, nb4_b1, r1, r2, r3]
      repeat refine And.intro (by omega) ?_
      repeat refine And.intro (by omega) ?_
      intro g
      simp only [List.map_cons, List.map_nil, updL, upd, Nat.reduceEqDiff, if_true, if_false, ↓reduceIte]
      refine hK _ _ ?_; clear hK K
      refine Cd.condd rfl (fun h4 => ?_) (fun h4 => ?_)
      · have hb := binR_bound d' (by omega) i (by omega)
        have hs : binR (2 * (d' : Int)) (i + 1) = binR (2 * (d' : Int)) i * (2 * (d' : Int) - (i : Int)) / ((i : Int) + 1) := rfl
        have hp1 := mul_bd (a := binR (2 * (d' : Int)) i) (b := 2 * (d' : Int) - (i : Int)) (A := 137846528820) (B := 40) (by omega) (by omega)
        have hp0 : 0 ≤ binR (2 * (d' : Int)) i * (2 * (d' : Int) - (i : Int)) := Int.mul_nonneg (by omega) (by omega)
        have hp2 := mul_bd (a := binR (2 * (d' : Int)) i) (b := 1 - 2 * ((i : Int) % 2)) (A := 137846528820) (B := 1) (by omega) (by omega)
        have hsucc := bnL_succ (d := d') (i := i)
        have hdv : ∀ z : Int, 0 ≤ z → z ≤ 5513861152800 → 0 ≤ z / ((i : Int) + 1) ∧ z / ((i : Int) + 1) ≤ 5513861152800 := fun z h1 h2 => ⟨Int.ediv_nonneg h1 (by omega), Int.le_trans (Int.ediv_le_self _ h1) h2⟩
        generalize hpp : binR (2 * (d' : Int)) i * (2 * (d' : Int) - (i : Int)) = pp at *
        generalize hqq : binR (2 * (d' : Int)) i * (1 - 2 * ((i : Int) % 2)) = qq at *
        have hd1 := hdv pp hp0 (by omega)
        have hq : pp / ((i : Int) + 1) = binR (2 * (d' : Int)) (i + 1) := hs.symm
        rw [hq] at hd1
        refine Cd.skip ?_
        refine thenN ?_
        refine Cd.seq ?_
        refine Cd.block ?_
        skip
        refine Cd.rs [1, 4, 5, 6, 7, 8] fun K hK => ?_
        simp (maxSteps := 2000000) (disch := first | (simp only [E4, e1d, nb2_b1, d12, d21, e1, e2, fq, g0, ed, hout, hsy, gout, hout2, nb4_b2, nb4_b1, r1, r2, r3, hpp, hqq, hq] <;> omega) | omega | fail) only [↓E2, E3, bare, bareJ, ↓E0, E1, evP, evPlan, env0, envN, evOps, evOp, evQs, evQ, evV, setD, pureOp, ev, upd, updL, gate, binW, eqOp, binV, intOp, shOp, boolOp, unV, convV, nilV, fieldAddrV, indexAddrV, extractV, cellAt, cellsAt, findB, setB, fillL, buildV, Value.cells, lenV, minV, maxV, hav, sliceV, loV, hiV, bslQ, mksQ, appQ, partsOk, partsCells, delB, eqL, SameI, strOp, apzQ, cvtQ, capV, ↓reduceIte, Zj, Zk, Nat.reduceAdd, Nat.reduceLT, Nat.reduceEqDiff, Nat.reduceMul, Nat.reduceLeDiff, if_true, Zn, reduceCtorEq, ZA, eq_self, Int.reduceLE, Int.reduceLT, Int.reduceToNat, ne_eq, Nat.reduceSub, Tby2, Tslc47, Tslce47, Tzero2, e1d, nb2_b1, d12, d21, e1, e2, fq, g0, ed, hout, hsy, gout, hout2, nb4_b2, nb4_b1, r1, r2, r3, hpp, hqq, hq]
        repeat refine And.intro (by omega) ?_
        intro b5 hb5
        have nb5_bl := hb5.ne
        have nb5_b2 := hb5.tail.ne
        have nb5_b1 := hb5.tail.tail.ne
        try simp (maxSteps := 2000000) (disch := first | (simp only [E4, e1d, nb2_b1, d12, d21, e1, e2, fq, g0, ed, hout, hsy, gout, hout2, nb4_b2, nb4_b1, r1, r2, r3, hpp, hqq, hq, nb5_bl, nb5_b2, nb5_b1] <;> omega) | omega | fail) only [↓E2, E3, bare, bareJ, ↓E0, E1, evP, evPlan, env0, envN, evOps, evOp, evQs, evQ, evV, setD, pureOp, ev, upd, updL, gate, binW, eqOp, binV, intOp, shOp, boolOp, unV, convV, nilV, fieldAddrV, indexAddrV, extractV, cellAt, cellsAt, findB, setB, fillL, buildV, Value.cells, lenV, minV, maxV, hav, sliceV, loV, hiV, bslQ, mksQ, appQ, partsOk, partsCells, delB, eqL, SameI, strOp, apzQ, cvtQ, capV, ↓reduceIte, Zj, Zk, Nat.reduceAdd, Nat.reduceLT, Nat.reduceEqDiff, Nat.reduceMul, Nat.reduceLeDiff, if_true, Zn, reduceCtorEq, ZA, eq_self, Int.reduceLE, Int.reduceLT, Int.reduceToNat, ne_eq, Nat.reduceSub, Tby2, Tslc47, Tslce47, Tzero2, e1d, nb2_b1, d12, d21, e1, e2, fq, g0, ed, hout, hsy, gout, hout2, nb4_b2, nb4_b1, r1, r2, r3, hpp, hqq, hq, nb5_bl, nb5_b2, nb5_b1]
        repeat refine And.intro (by omega) ?_
        intro b' cap' rest' hf hc hr'
        have hr2 := hrow.snoc1 (news := [.int .i64 qq]) rfl hc hr'
        rw [ints_snoc, ← hsucc] at hr2
        repeat refine And.intro (by omega) ?_
        intro g
        simp only [List.map_cons, List.map_nil, updL, upd, Nat.reduceEqDiff, if_true, if_false, ↓reduceIte]
        refine hK _ _ ?_; clear hK K
        refine Cd.rr [1, 4, 5, 6, 7, 8] fun K hK => ?_
        simp (maxSteps := 2000000) (disch := first | (simp only [E4, e1d, nb2_b1, d12, d21, e1, e2, fq, g0, ed, hout, hsy, gout, hout2, nb4_b2, nb4_b1, r1, r2, r3, hpp, hqq, hq, nb5_bl, nb5_b2, nb5_b1] <;> omega) | omega | fail) only [↓E2, E3, bare, bareJ, ↓E0, E1, evP, evPlan, env0, envN, evOps, evOp, evQs, evQ, evV, setD, pureOp, ev, upd, updL, gate, binW, eqOp, binV, intOp, shOp, boolOp, unV, convV, nilV, fieldAddrV, indexAddrV, extractV, cellAt, cellsAt, findB, setB, fillL, buildV, Value.cells, lenV, minV, maxV, hav, sliceV, loV, hiV, bslQ, mksQ, appQ, partsOk, partsCells, delB, eqL, SameI, strOp, apzQ, cvtQ, capV, ↓reduceIte, Zj, Zk, Nat.reduceAdd, Nat.reduceLT, Nat.reduceEqDiff, Nat.reduceMul, Nat.reduceLeDiff, if_true, Zn, reduceCtorEq, ZA, eq_self, Int.reduceLE, Int.reduceLT, Int.reduceToNat, ne_eq, Nat.reduceSub, e1d, nb2_b1, d12, d21, e1, e2, fq, g0, ed, hout, hsy, gout, hout2, nb4_b2, nb4_b1, r1, r2, r3, hpp, hqq, hq, nb5_bl, nb5_b2, nb5_b1]
        repeat refine And.intro (by omega) ?_
        repeat refine And.intro (by omega) ?_
        intro g
        simp only [List.map_cons, List.map_nil, updL, upd, Nat.reduceEqDiff, if_true, if_false, ↓reduceIte]
        refine hK _ _ ?_; clear hK K
        refine inBN ?_
        refine thenN ?_
        refine Cd.rr [1, 4, 5, 6, 7, 8] fun K hK => ?_
        simp (maxSteps := 2000000) (disch := first | (simp only [E4, e1d, nb2_b1, d12, d21, e1, e2, fq, g0, ed, hout, hsy, gout, hout2, nb4_b2, nb4_b1, r1, r2, r3, hpp, hqq, hq, nb5_bl, nb5_b2, nb5_b1] <;> omega) | omega | fail) only [↓E2, E3, bare, bareJ, ↓E0, E1, evP, evPlan, env0, envN, evOps, evOp, evQs, evQ, evV, setD, pureOp, ev, upd, updL, gate, binW, eqOp, binV, intOp, shOp, boolOp, unV, convV, nilV, fieldAddrV, indexAddrV, extractV, cellAt, cellsAt, findB, setB, fillL, buildV, Value.cells, lenV, minV, maxV, hav, sliceV, loV, hiV, bslQ, mksQ, appQ, partsOk, partsCells, delB, eqL, SameI, strOp, apzQ, cvtQ, capV, ↓reduceIte, Zj, Zk, Nat.reduceAdd, Nat.reduceLT, Nat.reduceEqDiff, Nat.reduceMul, Nat.reduceLeDiff, if_true, Zn, reduceCtorEq, ZA, eq_self, Int.reduceLE, Int.reduceLT, Int.reduceToNat, ne_eq, Nat.reduceSub, e1d, nb2_b1, d12, d21, e1, e2, fq, g0, ed, hout, hsy, gout, hout2, nb4_b2, nb4_b1, r1, r2, r3, hpp, hqq, hq, nb5_bl, nb5_b2, nb5_b1]
        repeat refine And.intro (by omega) ?_
        repeat refine And.intro (by omega) ?_
        intro g
        simp only [List.map_cons, List.map_nil, updL, upd, Nat.reduceEqDiff, if_true, if_false, ↓reduceIte]
        refine hK _ _ ?_; clear hK K
        exact roundN (m := q - 1) (by omega) ⟨_, i + 1, b', cap', _, by omega, hr2, rfl, SubP.of (.cons_cons _ (.cons _ (.refl _)))⟩
      · obtain rfl : i = 2 * d' + 1 := by omega
        rw [← cwQ_zero (L := Lc)] at hrow
        refine Cd.exit (thenX (roundX (inBX ?_)))
        refine thenN ?_
        refine Cd.seq ?_
        refine Cd.rs [1, 4, 5, 6, 9] fun K hK => ?_
        simp (maxSteps := 2000000) (disch := first | (simp only [E4, e1d, nb2_b1, d12, d21, e1, e2, fq, g0, ed, hout, hsy, gout, hout2, nb4_b2, nb4_b1, r1, r2, r3] <;> omega) | omega | fail) only [↓E2, E3, bare, bareJ, ↓E0, E1, evP, evPlan, env0, envN, evOps, evOp, evQs, evQ, evV, setD, pureOp, ev, upd, updL, gate, binW, eqOp, binV, intOp, shOp, boolOp, unV, convV, nilV, fieldAddrV, indexAddrV, extractV, cellAt, cellsAt, findB, setB, fillL, buildV, Value.cells, lenV, minV, maxV, hav, sliceV, loV, hiV, bslQ, mksQ, appQ, partsOk, partsCells, delB, eqL, SameI, strOp, apzQ, cvtQ, capV, ↓reduceIte, Zj, Zk, Nat.reduceAdd, Nat.reduceLT, Nat.reduceEqDiff, Nat.reduceMul, Nat.reduceLeDiff, if_true, Zn, reduceCtorEq, ZA, eq_self, Int.reduceLE, Int.reduceLT, Int.reduceToNat, ne_eq, Nat.reduceSub, e1d, nb2_b1, d12, d21, e1, e2, fq, g0, ed, hout, hsy, gout, hout2, nb4_b2, nb4_b1, r1, r2, r3]
        repeat refine And.intro (by omega) ?_
        repeat refine And.intro (by omega) ?_
        intro g
        simp only [List.map_cons, List.map_nil, updL, upd, Nat.reduceEqDiff, if_true, if_false, ↓reduceIte]
        refine hK _ _ ?_; clear hK K
        refine Cd.block ?_
        clear s1
        refine Cd.loop (fun q ρ M => ∃ g i cs, i + q = 2 * d' + 1 ∧ (∀ j, j < i → coOk ((symL d' (cwN d' Lc)).getD j 0) = true) ∧ Row 1 (ints .i64 (cwQ d' Lc i)) (2 * d' + 1) cap cs ∧ ρ = updL [(1, .pointer (some ⟨b1, 0, none⟩)), (4, .slice (some ⟨b2, 0, none⟩) (d + 1) (d + 1)), (5, .int .i64 (d' : Int)), (6, .slice (some ⟨bl, 0, none⟩) (2 * d' + 1) cap), (9, .int .i64 (i : Int))] g ∧
          SubP ((bl, cs) :: (b1, [.int .i64 (-(d' : Int)), .slice (some ⟨bq, 0, none⟩) (2 * d' + 1) c]) :: (b2, ints .i64 O2) :: MM) M) (2 * d' + 1) ⟨_, 0, cs, Nat.zero_add _, fun j hj => absurd hj (Nat.not_lt_zero _), hrow, rfl, SubP.refl _⟩ ?_
        clear hrow hnd2 s2
        rintro q ρ M ⟨g, i, cs, hi, hok, hrow, rfl, hM⟩
        refine Cd.sub hM ?_
        clear hM M
        have s1 := hrow.size1
        have s2 := hrow.le
        refine Cd.seq ?_
        refine Cd.rs [1, 4, 5, 6, 9, 69] fun K hK => ?_
        simp (maxSteps := 2000000) (disch := first | (simp only [E4, e1d, nb2_b1, d12, d21, e1, e2, fq, g0, ed, hout, hsy, gout, hout2, nb4_b2, nb4_b1, r1, r2, r3] <;> omega) | omega | fail) only [↓E2, E3, bare, bareJ, ↓E0, E1, evP, evPlan, env0, envN, evOps, evOp, evQs, evQ, evV, setD, pureOp, ev, upd, updL, gate, binW, eqOp, binV, intOp, shOp, boolOp, unV, convV, nilV, fieldAddrV, indexAddrV, extractV, cellAt, cellsAt, findB, setB, fillL, buildV, Value.cells, lenV, minV, maxV, hav, sliceV, loV, hiV, bslQ, mksQ, appQ, partsOk, partsCells, delB, eqL, SameI, strOp, apzQ, cvtQ, capV, ↓reduceIte, Zj, Zk, Nat.reduceAdd, Nat.reduceLT, Nat.reduceEqDiff, Nat.reduceMul, Nat.reduceLeDiff, if_true, Zn, reduceCtorEq, ZA, eq_self, Int.reduceLE, Int.reduceLT, Int.reduceToNat, ne_eq, Nat.reduceSub, Tslce47, e1d, nb2_b1, d12, d21, e1, e2, fq, g0, ed, hout, hsy, gout, hout2, nb4_b2, nb4_b1, r1, r2, r3]
        repeat refine And.intro (by omega) ?_
        repeat refine And.intro (by omega) ?_
        intro g
        simp only [List.map_cons, List.map_nil, updL, upd, Nat.reduceEqDiff, if_true, if_false, ↓reduceIte]
        refine hK _ _ ?_; clear hK K
        refine Cd.condd rfl (fun h5 => ?_) (fun h5 => ?_)
        · have hb := binR_bound d' (by omega) i (by omega)
          have gq := hrq.get (ints_get (k := .i64) (l := symL d' Lc) (i := i) (by omega))
          have gl := hrow.get (ints_get (k := .i64) (l := cwQ d' Lc i) (i := i) (by rw [cwQ_len]; omega))
          rw [cwQ_get (by omega), if_neg (Nat.lt_irrefl _), bnL_get (by omega)] at gl
          have hp2 := mul_bd (a := binR (2 * (d' : Int)) i) (b := 1 - 2 * ((i : Int) % 2)) (A := 137846528820) (B := 1) (by omega) (by omega)
          have hst := hstep i (by omega)
          have hpi := hall i
          generalize binR (2 * (d' : Int)) i * (1 - 2 * ((i : Int) % 2)) = bb at *
          generalize (symL d' Lc).getD i 0 = pi at *
          have hbl : ∀ k, -1000000000000 ≤ ([cc, pi] : List Int).getD k 0 ∧ ([cc, pi] : List Int).getD k 0 ≤ 1000000000000 := by
            intro k
            rcases k with _ | _ | k
            · exact hcb
            · exact hpi
            · simp
          have hbm : ∀ k, -1000000000000 ≤ ([0 - bb, 1] : List Int).getD k 0 ∧ ([0 - bb, 1] : List Int).getD k 0 ≤ 1000000000000 := by
            intro k
            rcases k with _ | _ | k
            · show _ ≤ 0 - bb ∧ 0 - bb ≤ _; omega
            · simp
            · simp
          have hex := fun R v1 v2 h1 h2 => l04Exact_c [cc, pi] [0 - bb, 1] R v1 v2 h1 h2 rfl (by simp) hbl hbm
          rw [exS2, hst] at hex
          have hexv : coOk ((symL d' (cwN d' Lc)).getD i 0) = true → exV [cc, pi] [0 - bb, 1] = (symL d' (cwN d' Lc)).getD i 0 := fun h => by
            rw [exV_ok (by rw [exS2, hst]; exact h), exS2, hst]
          refine Cd.skip ?_
          refine thenN ?_
          refine Cd.seq ?_
          refine Cd.block ?_
          refine Cd.nodup fun hnd3 => ?_
          skip
          refine Cd.ps [1, 4, 5, 6, 9, 10, 11] (Plan.take 0 (Plan.take 1 (Plan.take 2 (Plan.take 3 (Plan.take 4 (Plan.take 5 (Plan.take 6 (Plan.take 7 (Plan.take 8 (Plan.take 10 (Plan.take 11 (Plan.take 12 (Plan.take 13 (Plan.take 14 (Plan.more 9 (Plan.one 15 (Plan.take 16 (Plan.take 17 (Plan.take 18 (Plan.take 19 (Plan.take 20 (Plan.take 21 (Plan.done)))))))) (Plan.one 15 (Plan.one 9 (Plan.take 16 (Plan.take 17 (Plan.take 18 (Plan.take 19 (Plan.take 20 (Plan.take 21 (Plan.done)))))))))))))))))))))))) fol (by kernel_rfl) (Nat.le_of_ble_eq_true rfl) fun K hK => ?_
          have J : ∀ g M', SubP ((bl, cs) :: (b1, [.int .i64 (-(d' : Int)), .slice (some ⟨bq, 0, none⟩) (2 * d' + 1) c]) :: (b2, ints .i64 O2) :: MM) M' → K (updL [(1, .pointer (some ⟨b1, 0, none⟩)), (4, .slice (some ⟨b2, 0, none⟩) (d + 1) (d + 1)), (5, .int .i64 (d' : Int)), (6, .slice (some ⟨bl, 0, none⟩) (2 * d' + 1) cap), (9, .int .i64 (i : Int)), (10, .int .i64 (exV [cc, pi] [0 - bb, 1])), (11, .bool (coOk ((symL d' (cwN d' Lc)).getD i 0)))] g) M' := by
            intro g M' hM
            refine hK _ _ ?_
            clear hK K
            refine Cd.sub hM ?_
            clear hM M'
            refine Cd.seq ?_
            refine Cd.rs [1, 4, 5, 6, 9, 10, 93] fun K hK => ?_
            simp (maxSteps := 2000000) (disch := first | (simp only [E4, e1d, nb2_b1, d12, d21, e1, e2, fq, g0, ed, hout, hsy, gout, hout2, nb4_b2, nb4_b1, r1, r2, r3, gq, gl] <;> omega) | omega | fail) only [↓E2, E3, bare, bareJ, ↓E0, E1, evP, evPlan, env0, envN, evOps, evOp, evQs, evQ, evV, setD, pureOp, ev, upd, updL, gate, binW, eqOp, binV, intOp, shOp, boolOp, unV, convV, nilV, fieldAddrV, indexAddrV, extractV, cellAt, cellsAt, findB, setB, fillL, buildV, Value.cells, lenV, minV, maxV, hav, sliceV, loV, hiV, bslQ, mksQ, appQ, partsOk, partsCells, delB, eqL, SameI, strOp, apzQ, cvtQ, capV, ↓reduceIte, Zj, Zk, Nat.reduceAdd, Nat.reduceLT, Nat.reduceEqDiff, Nat.reduceMul, Nat.reduceLeDiff, if_true, Zn, reduceCtorEq, ZA, eq_self, Int.reduceLE, Int.reduceLT, Int.reduceToNat, ne_eq, Nat.reduceSub, e1d, nb2_b1, d12, d21, e1, e2, fq, g0, ed, hout, hsy, gout, hout2, nb4_b2, nb4_b1, r1, r2, r3, gq, gl]
            repeat refine And.intro (by omega) ?_
            repeat refine And.intro (by omega) ?_
            intro g
            simp only [List.map_cons, List.map_nil, updL, upd, Nat.reduceEqDiff, if_true, if_false, ↓reduceIte]
            refine hK _ _ ?_; clear hK K
            refine Cd.cond rfl (fun h6 => ?_) (fun h6 => ?_)
            · have hbad : coOk ((symL d' (cwN d' Lc)).getD i 0) = false := by simpa using h6
              rw [cwK_no (cwOk_not (by omega) (by omega) hbad)] at hcw
              refine Cd.rs [2, 3] fun K hK => ?_
              simp (maxSteps := 2000000) (disch := first | (simp only [E4, e1d, nb2_b1, d12, d21, e1, e2, fq, g0, ed, hout, hsy, gout, hout2, nb4_b2, nb4_b1, r1, r2, r3, gq, gl] <;> omega) | omega | fail) only [↓E2, E3, bare, bareJ, ↓E0, E1, evP, evPlan, env0, envN, evOps, evOp, evQs, evQ, evV, setD, pureOp, ev, upd, updL, gate, binW, eqOp, binV, intOp, shOp, boolOp, unV, convV, nilV, fieldAddrV, indexAddrV, extractV, cellAt, cellsAt, findB, setB, fillL, buildV, Value.cells, lenV, minV, maxV, hav, sliceV, loV, hiV, bslQ, mksQ, appQ, partsOk, partsCells, delB, eqL, SameI, strOp, apzQ, cvtQ, capV, ↓reduceIte, Zj, Zk, Nat.reduceAdd, Nat.reduceLT, Nat.reduceEqDiff, Nat.reduceMul, Nat.reduceLeDiff, if_true, Zn, reduceCtorEq, ZA, eq_self, Int.reduceLE, Int.reduceLT, Int.reduceToNat, ne_eq, Nat.reduceSub, e1d, nb2_b1, d12, d21, e1, e2, fq, g0, ed, hout, hsy, gout, hout2, nb4_b2, nb4_b1, r1, r2, r3, gq, gl]
              repeat refine And.intro (by omega) ?_
              repeat refine And.intro (by omega) ?_
              intro g
              simp only [List.map_cons, List.map_nil, updL, upd, Nat.reduceEqDiff, if_true, if_false, ↓reduceIte]
              refine hK _ _ ?_; clear hK K
              refine Cd.ret (thenR (inBR (thenR (roundR (inBR (thenR (inBR (roundR (inBR (thenR ?_))))))))))
              simp (maxSteps := 2000000) (disch := first | (simp only [E4, e1d, nb2_b1, d12, d21, e1, e2, fq, g0, ed, hout, hsy, gout, hout2, nb4_b2, nb4_b1, r1, r2, r3, gq, gl] <;> omega) | omega | fail) only [↓E2, E3, bare, bareJ, ↓E0, E1, evP, evPlan, env0, envN, evOps, evOp, evQs, evQ, evV, setD, pureOp, ev, upd, updL, gate, binW, eqOp, binV, intOp, shOp, boolOp, unV, convV, nilV, fieldAddrV, indexAddrV, extractV, cellAt, cellsAt, findB, setB, fillL, buildV, Value.cells, lenV, minV, maxV, hav, sliceV, loV, hiV, bslQ, mksQ, appQ, partsOk, partsCells, delB, eqL, SameI, strOp, apzQ, cvtQ, capV, ↓reduceIte, Zj, Zk, Nat.reduceAdd, Nat.reduceLT, Nat.reduceEqDiff, Nat.reduceMul, Nat.reduceLeDiff, if_true, Zn, reduceCtorEq, ZA, eq_self, Int.reduceLE, Int.reduceLT, Int.reduceToNat, ne_eq, Nat.reduceSub, e1d, nb2_b1, d12, d21, e1, e2, fq, g0, ed, hout, hsy, gout, hout2, nb4_b2, nb4_b1, r1, r2, r3, gq, gl]
              repeat refine And.intro (by omega) ?_
              unfold conP
              rw [hcw]
              exact ⟨fun p hp => by simp [hL p hp], rfl⟩
            · have hgood : coOk ((symL d' (cwN d' Lc)).getD i 0) = true := by simpa using h6
              rw [hexv hgood]
              have hset := hrow.set (j := i) (by omega) (.int .i64 ((symL d' (cwN d' Lc)).getD i 0))
              rw [ints_set, cwQ_set (by omega)] at hset
              refine Cd.skip ?_
              refine thenN ?_
              refine Cd.rr [1, 4, 5, 6, 9] fun K hK => ?_
              simp (maxSteps := 2000000) (disch := first | (simp only [E4, e1d, nb2_b1, d12, d21, e1, e2, fq, g0, ed, hout, hsy, gout, hout2, nb4_b2, nb4_b1, r1, r2, r3, gq, gl] <;> omega) | omega | fail) only [↓E2, E3, bare, bareJ, ↓E0, E1, evP, evPlan, env0, envN, evOps, evOp, evQs, evQ, evV, setD, pureOp, ev, upd, updL, gate, binW, eqOp, binV, intOp, shOp, boolOp, unV, convV, nilV, fieldAddrV, indexAddrV, extractV, cellAt, cellsAt, findB, setB, fillL, buildV, Value.cells, lenV, minV, maxV, hav, sliceV, loV, hiV, bslQ, mksQ, appQ, partsOk, partsCells, delB, eqL, SameI, strOp, apzQ, cvtQ, capV, ↓reduceIte, Zj, Zk, Nat.reduceAdd, Nat.reduceLT, Nat.reduceEqDiff, Nat.reduceMul, Nat.reduceLeDiff, if_true, Zn, reduceCtorEq, ZA, eq_self, Int.reduceLE, Int.reduceLT, Int.reduceToNat, ne_eq, Nat.reduceSub, Tslc47, Tst2, e1d, nb2_b1, d12, d21, e1, e2, fq, g0, ed, hout, hsy, gout, hout2, nb4_b2, nb4_b1, r1, r2, r3, gq, gl]
              repeat refine And.intro (by omega) ?_
              repeat refine And.intro (by omega) ?_
              intro g
              simp only [List.map_cons, List.map_nil, updL, upd, Nat.reduceEqDiff, if_true, if_false, ↓reduceIte]
              refine hK _ _ ?_; clear hK K
              refine inBN ?_
              refine thenN ?_
              refine Cd.rr [1, 4, 5, 6, 9] fun K hK => ?_
              simp (maxSteps := 2000000) (disch := first | (simp only [E4, e1d, nb2_b1, d12, d21, e1, e2, fq, g0, ed, hout, hsy, gout, hout2, nb4_b2, nb4_b1, r1, r2, r3, gq, gl] <;> omega) | omega | fail) only [↓E2, E3, bare, bareJ, ↓E0, E1, evP, evPlan, env0, envN, evOps, evOp, evQs, evQ, evV, setD, pureOp, ev, upd, updL, gate, binW, eqOp, binV, intOp, shOp, boolOp, unV, convV, nilV, fieldAddrV, indexAddrV, extractV, cellAt, cellsAt, findB, setB, fillL, buildV, Value.cells, lenV, minV, maxV, hav, sliceV, loV, hiV, bslQ, mksQ, appQ, partsOk, partsCells, delB, eqL, SameI, strOp, apzQ, cvtQ, capV, ↓reduceIte, Zj, Zk, Nat.reduceAdd, Nat.reduceLT, Nat.reduceEqDiff, Nat.reduceMul, Nat.reduceLeDiff, if_true, Zn, reduceCtorEq, ZA, eq_self, Int.reduceLE, Int.reduceLT, Int.reduceToNat, ne_eq, Nat.reduceSub, e1d, nb2_b1, d12, d21, e1, e2, fq, g0, ed, hout, hsy, gout, hout2, nb4_b2, nb4_b1, r1, r2, r3, gq, gl]
              repeat refine And.intro (by omega) ?_
              repeat refine And.intro (by omega) ?_
              intro g
              simp only [List.map_cons, List.map_nil, updL, upd, Nat.reduceEqDiff, if_true, if_false, ↓reduceIte]
              refine hK _ _ ?_; clear hK K
              refine roundN (m := q - 1) (by omega) ⟨_, i + 1, _, by omega, fun j hj => ?_, hset, rfl, SubP.refl _⟩
              rcases Nat.lt_succ_iff_lt_or_eq.1 hj with h | rfl
              · exact hok j h
              · exact hgood
          clear hK
          simp (maxSteps := 2000000) (disch := first | (simp only [E4, e1d, nb2_b1, d12, d21, e1, e2, fq, g0, ed, hout, hsy, gout, hout2, nb4_b2, nb4_b1, r1, r2, r3, gq, gl] <;> omega) | omega | fail) only [↓E2, E3, bare, bareJ, ↓E0, E1, evP, evPlan, env0, envN, evOps, evOp, evQs, evQ, evV, setD, pureOp, ev, upd, updL, gate, binW, eqOp, binV, intOp, shOp, boolOp, unV, convV, nilV, fieldAddrV, indexAddrV, extractV, cellAt, cellsAt, findB, setB, fillL, buildV, Value.cells, lenV, minV, maxV, hav, sliceV, loV, hiV, bslQ, mksQ, appQ, partsOk, partsCells, delB, eqL, SameI, strOp, apzQ, cvtQ, capV, ↓reduceIte, Zj, Zk, Nat.reduceAdd, Nat.reduceLT, Nat.reduceEqDiff, Nat.reduceMul, Nat.reduceLeDiff, if_true, Zn, reduceCtorEq, ZA, eq_self, Int.reduceLE, Int.reduceLT, Int.reduceToNat, ne_eq, Nat.reduceSub, Tby2, Tfld56_1, Tld2, Tld47, Tslc47, Tslce47, Tzero2, ↓YR, e1d, nb2_b1, d12, d21, e1, e2, fq, g0, ed, hout, hsy, gout, hout2, nb4_b2, nb4_b1, r1, r2, r3, gq, gl]
          refine ⟨by omega, by omega, by omega, moreX_go ?_ ?_⟩
          · simp (maxSteps := 2000000) (disch := first | (simp only [E4, e1d, nb2_b1, d12, d21, e1, e2, fq, g0, ed, hout, hsy, gout, hout2, nb4_b2, nb4_b1, r1, r2, r3, gq, gl] <;> omega) | omega | fail) only [↓E2, E3, bare, bareJ, ↓E0, E1, evP, evPlan, env0, envN, evOps, evOp, evQs, evQ, evV, setD, pureOp, ev, upd, updL, gate, binW, eqOp, binV, intOp, shOp, boolOp, unV, convV, nilV, fieldAddrV, indexAddrV, extractV, cellAt, cellsAt, findB, setB, fillL, buildV, Value.cells, lenV, minV, maxV, hav, sliceV, loV, hiV, bslQ, mksQ, appQ, partsOk, partsCells, delB, eqL, SameI, strOp, apzQ, cvtQ, capV, ↓reduceIte, Zj, Zk, Nat.reduceAdd, Nat.reduceLT, Nat.reduceEqDiff, Nat.reduceMul, Nat.reduceLeDiff, if_true, Zn, reduceCtorEq, ZA, eq_self, Int.reduceLE, Int.reduceLT, Int.reduceToNat, ne_eq, Nat.reduceSub, Tby2, Tfld56_1, Tld2, Tld47, Tslc47, Tslce47, Tzero2, ↓YR, e1d, nb2_b1, d12, d21, e1, e2, fq, g0, ed, hout, hsy, gout, hout2, nb4_b2, nb4_b1, r1, r2, r3, gq, gl]
            intro b6 hb6
            have nd6 := nodup_fr (cs := [.int .i64 cc, .int .i64 pi]) hb6 hnd3
            try simp (maxSteps := 2000000) (disch := first | (simp only [E4, e1d, nb2_b1, d12, d21, e1, e2, fq, g0, ed, hout, hsy, gout, hout2, nb4_b2, nb4_b1, r1, r2, r3, gq, gl] <;> omega) | omega | fail) only [↓E2, E3, bare, bareJ, ↓E0, E1, evP, evPlan, env0, envN, evOps, evOp, evQs, evQ, evV, setD, pureOp, ev, upd, updL, gate, binW, eqOp, binV, intOp, shOp, boolOp, unV, convV, nilV, fieldAddrV, indexAddrV, extractV, cellAt, cellsAt, findB, setB, fillL, buildV, Value.cells, lenV, minV, maxV, hav, sliceV, loV, hiV, bslQ, mksQ, appQ, partsOk, partsCells, delB, eqL, SameI, strOp, apzQ, cvtQ, capV, ↓reduceIte, Zj, Zk, Nat.reduceAdd, Nat.reduceLT, Nat.reduceEqDiff, Nat.reduceMul, Nat.reduceLeDiff, if_true, Zn, reduceCtorEq, ZA, eq_self, Int.reduceLE, Int.reduceLT, Int.reduceToNat, ne_eq, Nat.reduceSub, Tby2, Tfld56_1, Tld2, Tld47, Tslc47, Tslce47, Tzero2, ↓YR, e1d, nb2_b1, d12, d21, e1, e2, fq, g0, ed, hout, hsy, gout, hout2, nb4_b2, nb4_b1, r1, r2, r3, gq, gl]
            repeat refine And.intro (by omega) ?_
            intro b7 hb7
            have nd7 := nodup_fr (cs := [.int .i64 (0 - bb), .int .i64 1]) hb7 nd6
            try simp (maxSteps := 2000000) (disch := first | (simp only [E4, e1d, nb2_b1, d12, d21, e1, e2, fq, g0, ed, hout, hsy, gout, hout2, nb4_b2, nb4_b1, r1, r2, r3, gq, gl] <;> omega) | omega | fail) only [↓E2, E3, bare, bareJ, ↓E0, E1, evP, evPlan, env0, envN, evOps, evOp, evQs, evQ, evV, setD, pureOp, ev, upd, updL, gate, binW, eqOp, binV, intOp, shOp, boolOp, unV, convV, nilV, fieldAddrV, indexAddrV, extractV, cellAt, cellsAt, findB, setB, fillL, buildV, Value.cells, lenV, minV, maxV, hav, sliceV, loV, hiV, bslQ, mksQ, appQ, partsOk, partsCells, delB, eqL, SameI, strOp, apzQ, cvtQ, capV, ↓reduceIte, Zj, Zk, Nat.reduceAdd, Nat.reduceLT, Nat.reduceEqDiff, Nat.reduceMul, Nat.reduceLeDiff, if_true, Zn, reduceCtorEq, ZA, eq_self, Int.reduceLE, Int.reduceLT, Int.reduceToNat, ne_eq, Nat.reduceSub, Tby2, Tfld56_1, Tld2, Tld47, Tslc47, Tslce47, Tzero2, ↓YR, e1d, nb2_b1, d12, d21, e1, e2, fq, g0, ed, hout, hsy, gout, hout2, nb4_b2, nb4_b1, r1, r2, r3, gq, gl]
            repeat refine And.intro (by omega) ?_
            refine callP_reads0 (hex _ _ _ (rd_two (a := b6) (b := b7)).1 (rd_two (a := b6) (b := b7)).2) (holds_mem nd7 fun p hp => by simp only [List.mem_cons, List.not_mem_nil, or_false] at hp; rcases hp with rfl | rfl <;> simp [ints]) ?_
            simp (maxSteps := 2000000) (disch := first | (simp only [E4, e1d, nb2_b1, d12, d21, e1, e2, fq, g0, ed, hout, hsy, gout, hout2, nb4_b2, nb4_b1, r1, r2, r3, gq, gl] <;> omega) | omega | fail) only [↓E2, E3, bare, bareJ, ↓E0, E1, evP, evPlan, env0, envN, evOps, evOp, evQs, evQ, evV, setD, pureOp, ev, upd, updL, gate, binW, eqOp, binV, intOp, shOp, boolOp, unV, convV, nilV, fieldAddrV, indexAddrV, extractV, cellAt, cellsAt, findB, setB, fillL, buildV, Value.cells, lenV, minV, maxV, hav, sliceV, loV, hiV, bslQ, mksQ, appQ, partsOk, partsCells, delB, eqL, SameI, strOp, apzQ, cvtQ, capV, ↓reduceIte, Zj, Zk, Nat.reduceAdd, Nat.reduceLT, Nat.reduceEqDiff, Nat.reduceMul, Nat.reduceLeDiff, if_true, Zn, reduceCtorEq, ZA, eq_self, Int.reduceLE, Int.reduceLT, Int.reduceToNat, ne_eq, Nat.reduceSub, Tby2, Tfld56_1, Tld2, Tld47, Tslc47, Tslce47, Tzero2, ↓YR, e1d, nb2_b1, d12, d21, e1, e2, fq, g0, ed, hout, hsy, gout, hout2, nb4_b2, nb4_b1, r1, r2, r3, gq, gl]
            repeat refine And.intro (by omega) ?_
            intro g
            simp only [List.map_cons, List.map_nil, updL, upd, Nat.reduceEqDiff, if_true, if_false, ↓reduceIte]
            exact J g _ (SubP.of (.cons _ (.cons _ (.refl _))))
          · simp (maxSteps := 2000000) (disch := first | (simp only [E4, e1d, nb2_b1, d12, d21, e1, e2, fq, g0, ed, hout, hsy, gout, hout2, nb4_b2, nb4_b1, r1, r2, r3, gq, gl] <;> omega) | omega | fail) only [↓E2, E3, bare, bareJ, ↓E0, E1, evP, evPlan, env0, envN, evOps, evOp, evQs, evQ, evV, setD, pureOp, ev, upd, updL, gate, binW, eqOp, binV, intOp, shOp, boolOp, unV, convV, nilV, fieldAddrV, indexAddrV, extractV, cellAt, cellsAt, findB, setB, fillL, buildV, Value.cells, lenV, minV, maxV, hav, sliceV, loV, hiV, bslQ, mksQ, appQ, partsOk, partsCells, delB, eqL, SameI, strOp, apzQ, cvtQ, capV, ↓reduceIte, Zj, Zk, Nat.reduceAdd, Nat.reduceLT, Nat.reduceEqDiff, Nat.reduceMul, Nat.reduceLeDiff, if_true, Zn, reduceCtorEq, ZA, eq_self, Int.reduceLE, Int.reduceLT, Int.reduceToNat, ne_eq, Nat.reduceSub, Tby2, Tfld56_1, Tld2, Tld47, Tslc47, Tslce47, Tzero2, ↓YR, e1d, nb2_b1, d12, d21, e1, e2, fq, g0, ed, hout, hsy, gout, hout2, nb4_b2, nb4_b1, r1, r2, r3, gq, gl]
            intro b7 hb7
            have nd6 := nodup_fr (cs := [.int .i64 (0 - bb), .int .i64 1]) hb7 hnd3
            try simp (maxSteps := 2000000) (disch := first | (simp only [E4, e1d, nb2_b1, d12, d21, e1, e2, fq, g0, ed, hout, hsy, gout, hout2, nb4_b2, nb4_b1, r1, r2, r3, gq, gl] <;> omega) | omega | fail) only [↓E2, E3, bare, bareJ, ↓E0, E1, evP, evPlan, env0, envN, evOps, evOp, evQs, evQ, evV, setD, pureOp, ev, upd, updL, gate, binW, eqOp, binV, intOp, shOp, boolOp, unV, convV, nilV, fieldAddrV, indexAddrV, extractV, cellAt, cellsAt, findB, setB, fillL, buildV, Value.cells, lenV, minV, maxV, hav, sliceV, loV, hiV, bslQ, mksQ, appQ, partsOk, partsCells, delB, eqL, SameI, strOp, apzQ, cvtQ, capV, ↓reduceIte, Zj, Zk, Nat.reduceAdd, Nat.reduceLT, Nat.reduceEqDiff, Nat.reduceMul, Nat.reduceLeDiff, if_true, Zn, reduceCtorEq, ZA, eq_self, Int.reduceLE, Int.reduceLT, Int.reduceToNat, ne_eq, Nat.reduceSub, Tby2, Tfld56_1, Tld2, Tld47, Tslc47, Tslce47, Tzero2, ↓YR, e1d, nb2_b1, d12, d21, e1, e2, fq, g0, ed, hout, hsy, gout, hout2, nb4_b2, nb4_b1, r1, r2, r3, gq, gl]
            repeat refine And.intro (by omega) ?_
            intro b6 hb6
            have nd7 := nodup_fr (cs := [.int .i64 cc, .int .i64 pi]) hb6 nd6
            try simp (maxSteps := 2000000) (disch := first | (simp only [E4, e1d, nb2_b1, d12, d21, e1, e2, fq, g0, ed, hout, hsy, gout, hout2, nb4_b2, nb4_b1, r1, r2, r3, gq, gl] <;> omega) | omega | fail) only [↓E2, E3, bare, bareJ, ↓E0, E1, evP, evPlan, env0, envN, evOps, evOp, evQs, evQ, evV, setD, pureOp, ev, upd, updL, gate, binW, eqOp, binV, intOp, shOp, boolOp, unV, convV, nilV, fieldAddrV, indexAddrV, extractV, cellAt, cellsAt, findB, setB, fillL, buildV, Value.cells, lenV, minV, maxV, hav, sliceV, loV, hiV, bslQ, mksQ, appQ, partsOk, partsCells, delB, eqL, SameI, strOp, apzQ, cvtQ, capV, ↓reduceIte, Zj, Zk, Nat.reduceAdd, Nat.reduceLT, Nat.reduceEqDiff, Nat.reduceMul, Nat.reduceLeDiff, if_true, Zn, reduceCtorEq, ZA, eq_self, Int.reduceLE, Int.reduceLT, Int.reduceToNat, ne_eq, Nat.reduceSub, Tby2, Tfld56_1, Tld2, Tld47, Tslc47, Tslce47, Tzero2, ↓YR, e1d, nb2_b1, d12, d21, e1, e2, fq, g0, ed, hout, hsy, gout, hout2, nb4_b2, nb4_b1, r1, r2, r3, gq, gl]
            repeat refine And.intro (by omega) ?_
            refine callP_reads0 (hex _ _ _ (rd_two (a := b6) (b := b7)).1 (rd_two (a := b6) (b := b7)).2) (holds_mem nd7 fun p hp => by simp only [List.mem_cons, List.not_mem_nil, or_false] at hp; rcases hp with rfl | rfl <;> simp [ints]) ?_
            simp (maxSteps := 2000000) (disch := first | (simp only [E4, e1d, nb2_b1, d12, d21, e1, e2, fq, g0, ed, hout, hsy, gout, hout2, nb4_b2, nb4_b1, r1, r2, r3, gq, gl] <;> omega) | omega | fail) only [↓E2, E3, bare, bareJ, ↓E0, E1, evP, evPlan, env0, envN, evOps, evOp, evQs, evQ, evV, setD, pureOp, ev, upd, updL, gate, binW, eqOp, binV, intOp, shOp, boolOp, unV, convV, nilV, fieldAddrV, indexAddrV, extractV, cellAt, cellsAt, findB, setB, fillL, buildV, Value.cells, lenV, minV, maxV, hav, sliceV, loV, hiV, bslQ, mksQ, appQ, partsOk, partsCells, delB, eqL, SameI, strOp, apzQ, cvtQ, capV, ↓reduceIte, Zj, Zk, Nat.reduceAdd, Nat.reduceLT, Nat.reduceEqDiff, Nat.reduceMul, Nat.reduceLeDiff, if_true, Zn, reduceCtorEq, ZA, eq_self, Int.reduceLE, Int.reduceLT, Int.reduceToNat, ne_eq, Nat.reduceSub, Tby2, Tfld56_1, Tld2, Tld47, Tslc47, Tslce47, Tzero2, ↓YR, e1d, nb2_b1, d12, d21, e1, e2, fq, g0, ed, hout, hsy, gout, hout2, nb4_b2, nb4_b1, r1, r2, r3, gq, gl]
            repeat refine And.intro (by omega) ?_
            intro g
            simp only [List.map_cons, List.map_nil, updL, upd, Nat.reduceEqDiff, if_true, if_false, ↓reduceIte]
            exact J g _ (SubP.of (.cons _ (.cons _ (.refl _))))
        · obtain rfl : i = 2 * d' + 1 := by omega
          rw [cwQ_full] at hrow
          have hokk : cwOk d' Lc := cwOk_of (by omega) hok
          have hnl : (cwN d' Lc).length = d + 1 := by rw [cwN_len, hlc]
          have hncc := cwN_ok hokk hcc
          have hnt : (cwN d' Lc).getD d' 0 = 0 := cwN_top (by omega) (by omega)
          have hO2z : ∀ j, j < d' → O2.getD j 0 = 0 := fun j hj => by
            rw [← hO2, getD_set0 (by omega), if_neg (by omega)]
            exact hoz j (by omega)
          rw [cwK_yes hokk, hcd, hO2] at hcw
          refine Cd.exit (thenX (roundX (inBX ?_)))
          refine thenN ?_
          refine Cd.nodup fun hnd3 => ?_
          have hrd : RdS (toldOf [(bl, cs)]) 1 (ints .i64 (symL d' (cwN d' Lc))) (.slice (some ⟨bl, 0, none⟩) (2 * d' + 1) cap) := (SlN.row hrow).reads fun p hp => mem_toldOf hp
          refine Cd.rr [1, 4] fun K hK => ?_
          simp (maxSteps := 2000000) (disch := first | (simp only [E4, e1d, nb2_b1, d12, d21, e1, e2, fq, g0, ed, hout, hsy, gout, hout2, nb4_b2, nb4_b1, r1, r2, r3] <;> omega) | omega | fail) only [↓E2, E3, bare, bareJ, ↓E0, E1, evP, evPlan, env0, envN, evOps, evOp, evQs, evQ, evV, setD, pureOp, ev, upd, updL, gate, binW, eqOp, binV, intOp, shOp, boolOp, unV, convV, nilV, fieldAddrV, indexAddrV, extractV, cellAt, cellsAt, findB, setB, fillL, buildV, Value.cells, lenV, minV, maxV, hav, sliceV, loV, hiV, bslQ, mksQ, appQ, partsOk, partsCells, delB, eqL, SameI, strOp, apzQ, cvtQ, capV, ↓reduceIte, Zj, Zk, Nat.reduceAdd, Nat.reduceLT, Nat.reduceEqDiff, Nat.reduceMul, Nat.reduceLeDiff, if_true, Zn, reduceCtorEq, ZA, eq_self, Int.reduceLE, Int.reduceLT, Int.reduceToNat, ne_eq, Nat.reduceSub, Tfld56_0, Tld2, Tst56, e1d, nb2_b1, d12, d21, e1, e2, fq, g0, ed, hout, hsy, gout, hout2, nb4_b2, nb4_b1, r1, r2, r3]
          repeat refine And.intro (by omega) ?_
          refine callK_newR0 (l04Trim_c (-(d' : Int)) (symL d' (cwN d' Lc)) _ _ hrd (by rw [symL_len]; omega) (by omega)) (HoldsAll.toldW (holds_mem hnd3 fun p hp => by rw [List.mem_singleton.1 hp]; exact List.mem_cons_self)) ?_
          rintro v' M' ⟨s', rfl, hs'⟩ nd' _
          obtain ⟨a', m', c', rfl⟩ := hs'.form
          simp only [List.cons_append, List.nil_append] at nd' ⊢
          simp (maxSteps := 2000000) (disch := first | (simp only [E4, e1d, nb2_b1, d12, d21, e1, e2, fq, g0, ed, hout, hsy, gout, hout2, nb4_b2, nb4_b1, r1, r2, r3] <;> omega) | omega | fail) only [↓E2, E3, bare, bareJ, ↓E0, E1, evP, evPlan, env0, envN, evOps, evOp, evQs, evQ, evV, setD, pureOp, ev, upd, updL, gate, binW, eqOp, binV, intOp, shOp, boolOp, unV, convV, nilV, fieldAddrV, indexAddrV, extractV, cellAt, cellsAt, findB, setB, fillL, buildV, Value.cells, lenV, minV, maxV, hav, sliceV, loV, hiV, bslQ, mksQ, appQ, partsOk, partsCells, delB, eqL, SameI, strOp, apzQ, cvtQ, capV, ↓reduceIte, Zj, Zk, Nat.reduceAdd, Nat.reduceLT, Nat.reduceEqDiff, Nat.reduceMul, Nat.reduceLeDiff, if_true, Zn, reduceCtorEq, ZA, eq_self, Int.reduceLE, Int.reduceLT, Int.reduceToNat, ne_eq, Nat.reduceSub, Tfld56_0, Tld2, Tst56, e1d, nb2_b1, d12, d21, e1, e2, fq, g0, ed, hout, hsy, gout, hout2, nb4_b2, nb4_b1, r1, r2, r3]
          repeat refine And.intro (by omega) ?_
          repeat refine And.intro (by omega) ?_
          intro g
          simp only [List.map_cons, List.map_nil, updL, upd, Nat.reduceEqDiff, if_true, if_false, ↓reduceIte]
          refine hK _ _ ?_; clear hK K
          refine inBN ?_
          rcases find_top (cwN d' Lc) d' with hz | ⟨d2, z1, z2, z3⟩
          · have ht := trim_sym_zero (d := d') (L := cwN d' Lc) fun j hj => by
              by_cases e : j = d'
              · rw [e]; exact hnt
              · exact hz j (by omega)
            rw [ht.1] at *
            rw [ht.2] at hs'
            rw [cwK_skips hncc (Nat.zero_le d') (fun j _ hj => ⟨hz j hj, hO2z j hj⟩)] at hcw
            exact roundN (m := 0) (by omega) ⟨_, cwN d' Lc, O2, a', m', c', M', MM ++ M', 0, [], .inr ⟨rfl, rfl, hcw⟩, hout2, hs', fun p hp => List.mem_append_right _ hp, fun p hp => List.mem_append_left _ (hL p hp), rfl, SubP.of (.cons _ (.refl _))⟩
          · have ht := trim_sym (d := d') (d' := d2) (L := cwN d' Lc) (by omega) (by omega) z2 (fun j h1 h2 => by
              by_cases e : j = d'
              · rw [e]; exact hnt
              · exact z3 j h1 (by omega)) hncc
            rw [ht.1]
            rw [ht.2] at hs'
            rw [cwK_skips hncc (show d2 + 1 ≤ d' by omega) (fun j h1 hj => ⟨z3 j (by omega) hj, hO2z j hj⟩)] at hcw
            exact roundN (m := d2 + 1) (by omega) ⟨_, cwN d' Lc, O2, a', m', c', M', MM ++ M', -(d2 : Int), symL d2 (cwN d' Lc), .inl ⟨d2, by omega, rfl, rfl, rfl, z2, fun j hj => hO2z j (by omega), hcw, hncc, hnl⟩, hout2, hs', fun p hp => List.mem_append_right _ hp, fun p hp => List.mem_append_left _ (hL p hp), rfl, SubP.of (.cons _ (.refl _))⟩
    · simp at h2
  · have hpl : pll = [] := by
      rcases hcase with ⟨d', _, _, _, rfl, _⟩ | ⟨_, h, _⟩
      · have : (symL d' Lc).length = 2 * d' + 1 := symL_len
        omega
      · exact h
    rcases hcase with ⟨d', _, _, _, rfl, _⟩ | ⟨rfl, rfl, hfin⟩
    · have : (symL d' Lc).length = 2 * d' + 1 := symL_len
      rw [hpl] at this
      simp at this
    refine Cd.exit (thenX (roundX (inBX ?_)))
    refine thenN ?_
    refine Cd.rs [2, 3] fun K hK => ?_
    simp (maxSteps := 2000000) (disch := first | (simp only [E4, e1d, nb2_b1, d12, d21] <;> omega) | omega | fail) only [↓E2, E3, bare, bareJ, ↓E0, E1, evP, evPlan, env0, envN, evOps, evOp, evQs, evQ, evV, setD, pureOp, ev, upd, updL, gate, binW, eqOp, binV, intOp, shOp, boolOp, unV, convV, nilV, fieldAddrV, indexAddrV, extractV, cellAt, cellsAt, findB, setB, fillL, buildV, Value.cells, lenV, minV, maxV, hav, sliceV, loV, hiV, bslQ, mksQ, appQ, partsOk, partsCells, delB, eqL, SameI, strOp, apzQ, cvtQ, capV, ↓reduceIte, Zj, Zk, Nat.reduceAdd, Nat.reduceLT, Nat.reduceEqDiff, Nat.reduceMul, Nat.reduceLeDiff, if_true, Zn, reduceCtorEq, ZA, eq_self, Int.reduceLE, Int.reduceLT, Int.reduceToNat, ne_eq, Nat.reduceSub, e1d, nb2_b1, d12, d21]
    repeat refine And.intro (by omega) ?_
    repeat refine And.intro (by omega) ?_
    intro g
    simp only [List.map_cons, List.map_nil, updL, upd, Nat.reduceEqDiff, if_true, if_false, ↓reduceIte]
    refine hK _ _ ?_; clear hK K
    refine Cd.ret ?_
    simp (maxSteps := 2000000) (disch := first | (simp only [E4, e1d, nb2_b1, d12, d21] <;> omega) | omega | fail) only [↓E2, E3, bare, bareJ, ↓E0, E1, evP, evPlan, env0, envN, evOps, evOp, evQs, evQ, evV, setD, pureOp, ev, upd, updL, gate, binW, eqOp, binV, intOp, shOp, boolOp, unV, convV, nilV, fieldAddrV, indexAddrV, extractV, cellAt, cellsAt, findB, setB, fillL, buildV, Value.cells, lenV, minV, maxV, hav, sliceV, loV, hiV, bslQ, mksQ, appQ, partsOk, partsCells, delB, eqL, SameI, strOp, apzQ, cvtQ, capV, ↓reduceIte, Zj, Zk, Nat.reduceAdd, Nat.reduceLT, Nat.reduceEqDiff, Nat.reduceMul, Nat.reduceLeDiff, if_true, Zn, reduceCtorEq, ZA, eq_self, Int.reduceLE, Int.reduceLT, Int.reduceToNat, ne_eq, Nat.reduceSub, e1d, nb2_b1, d12, d21]
    repeat refine And.intro (by omega) ?_
    unfold conP
    rw [hfin]
    exact ⟨fun p hp => by simp [hL p hp], _, [(b2, ints .i64 out)], rfl, SlN.row (Row.full (by rw [ints_length, hout, Nat.mul_one])), fun p hp => by rw [List.mem_singleton.1 hp]; simp, nodup_add hndL hL fun p hp => (nodup_cases (nodup_cases hnd).2).1 p hp⟩
end

end Go.Proofs

/-
  What the functions of this part hand back: each as a plain function of its arguments. Conditions: none.
-/
namespace Go.Proofs
open Go.W8
set_option linter.unusedVariables false
set_option linter.unusedSimpArgs false
set_option linter.unusedSectionVars false
set_option maxRecDepth 8000
set_option maxHeartbeats 4000000
theorem agg2_0 (a b : Value) : (#[a, b] : Array Value).getD 0 undef = a := rfl
theorem agg2_1 (a b : Value) : (#[a, b] : Array Value).getD 1 undef = b := rfl
def conCore (low : Int) (l : List Int) : Option (List Int) := cwK ((-low).toNat + 1) (l.drop (-low).toNat) (List.replicate ((-low).toNat + 1) 0)
def conOut (r : Option (List Int)) : List Int × Int := match r with
  | some out => (out, 0)
  | none => ([], 3)
def conAns (low : Int) (l : List Int) : List Int × Int :=
  if lauOk low l = true then if l.length = 0 then ([], 0) else if isSym low l then if low < -20 then ([], 2) else conOut (conCore low l) else ([], 5) else ([], 1)
def conRes (A : List Int × Int) : Value → Blks → Prop := ResS (SlN 1 (ints .i64 A.1)) A.2
theorem conRes_no {A : List Int × Int} {c : Int} {r : Value} (h : A = ([], c)) (hr : r = .tuple #[.slice none 0 0, .int .i64 c]) : conRes A r [] := by
  subst h; subst hr
  exact ⟨_, rfl, SlN.nil 1⟩
theorem cwK_len : ∀ (k : Nat) (L out r : List Int), cwK k L out = some r → r.length = out.length
  | 0, _, _, _, h => by cases h; rfl
  | k + 1, L, out, r, h => by
    by_cases hok : cwOk k L
    · rw [cwK_yes hok] at h
      rw [cwK_len k _ _ r h, List.length_set]
    · rw [cwK_no hok] at h; cases h
theorem conAns_len (low : Int) (l : List Int) : (conAns low l).1.length ≤ 2001 := by
  unfold conAns
  split
  · split
    · simp
    · split
      · split
        · simp
        · unfold conOut
          split
          · rename_i out h
            have := cwK_len _ _ _ _ h
            rw [List.length_replicate] at this
            rw [this]
            omega
          · simp
      · simp
  · simp
/-- The middle and the half behind it. -/
theorem sym_core {low : Int} {l : List Int} (hok : lauOk low l = true) (h : isSym low l) (h0 : l.length ≠ 0) : ∃ d : Nat, low = -(d : Int) ∧ l = symL d (l.drop d) ∧ (l.drop d).length = d + 1 ∧ (l.drop d).getD d 0 ≠ 0 ∧ (∀ j, coOk ((l.drop d).getD j 0) = true) ∧ conCore low l = cwK (d + 1) (l.drop d) (List.replicate (d + 1) 0) := by
  obtain ⟨d, h1, h2, h3⟩ := sym_form h h0
  have hdr : ∀ j, (l.drop d).getD j 0 = l.getD (d + j) 0 := fun j => by
    rw [List.getD_eq_getElem?_getD, List.getElem?_drop, List.getD_eq_getElem?_getD]
  refine ⟨d, h1, h3, by rw [List.length_drop, h2]; omega, ?_, fun j => ?_, ?_⟩
  · rw [hdr]
    rw [lauOk_pos h0] at hok
    simp only [Bool.and_eq_true, Bool.not_eq_true', beq_eq_false_iff_ne] at hok
    have := hok.1.2
    rw [h2, show 2 * d + 1 - 1 = d + d by omega] at this
    exact this
  · rw [hdr]
    have := lauOk_get hok (d + j)
    unfold coOk
    simpa using this
  · unfold conCore
    rw [h1, show (-(-(d : Int))).toNat = d by omega]
theorem like_sym {low : Int} {l : List Int} (hok : lauOk low l = true) : ((addR low l (mirLow low l) l.reverse (-1)).2.length = 0) ↔ (l.length = 0 ∨ isSym low l) := by
  rw [like_iff hok (lauOk_mir hok) (by simp)]
  unfold isSym mirLow
  by_cases h0 : l.length = 0
  · obtain ⟨rfl, rfl⟩ := lauOk_nil hok h0
    simp
  · rw [if_neg h0]
    constructor
    · rintro ⟨h1, h2⟩
      exact .inr ⟨h2.symm, by omega⟩
    · rintro (h | ⟨h1, h2⟩)
      · exact absurd h h0
      · exact ⟨by omega, h1.symm⟩
section
variable (p1 : Int) (l1 : List Int) (p2 : Int) (l2 : List Int) (R : Rd) (v1 v2 : Value) (h1 : RdL R p1 l1 v1) (h2 : RdL R p2 l2 v2) (ok1 : lauOk p1 l1 = true) (ok2 : lauOk p2 l2 = true)
include h1 h2 ok1 ok2
theorem l04Like_c : GivesR Try.prog 122 #[v1, v2] R (.bool (((addR p1 l1 p2 l2 (-1)).2.length : Int) == 0)) := by
  refine GivesX.reads ?_
  obtain ⟨x1, cap1, rfl, hsl1⟩ := id h1.form
  obtain ⟨x2, cap2, rfl, hsl2⟩ := id h2.form
  refine GivesX.of (callable_of Try.func122 rfl (by decide)) ?_ fun w hnd hlt hR => ?_
  · simp
  refine acall_of (N := 11) (c := _) (rs := [.tmp 4]) (args := [_, _]) Try.func122 rfl (by decide) rfl rfl (Nat.le_of_ble_eq_true rfl) ?_
  have hR : W8.Told [] w R := hR
  refine Cd.rs [2, 3] fun K hK => ?_
  simp (maxSteps := 2000000) (disch := first | (simp only [E4] <;> omega) | omega | fail) only [↓E2, E3, bare, bareJ, ↓E0, E1, evP, evPlan, env0, envN, evOps, evOp, evQs, evQ, evV, setD, pureOp, ev, upd, updL, gate, binW, eqOp, binV, intOp, shOp, boolOp, unV, convV, nilV, fieldAddrV, indexAddrV, extractV, cellAt, cellsAt, findB, setB, fillL, buildV, Value.cells, lenV, minV, maxV, hav, sliceV, loV, hiV, bslQ, mksQ, appQ, partsOk, partsCells, delB, eqL, SameI, strOp, apzQ, cvtQ, capV, ↓reduceIte, Zj, Zk, Nat.reduceAdd, Nat.reduceLT, Nat.reduceEqDiff, Nat.reduceMul, Nat.reduceLeDiff, if_true, Zn, reduceCtorEq, ZA, eq_self, Int.reduceLE, Int.reduceLT, Int.reduceToNat, ne_eq, Nat.reduceSub]
  repeat refine And.intro (by omega) ?_
  intro b1 hb1
  intro b2 hb2
  have nb2_b1 := hb2.ne
  try simp (maxSteps := 2000000) (disch := first | (simp only [E4, nb2_b1] <;> omega) | omega | fail) only [↓E2, E3, bare, bareJ, ↓E0, E1, evP, evPlan, env0, envN, evOps, evOp, evQs, evQ, evV, setD, pureOp, ev, upd, updL, gate, binW, eqOp, binV, intOp, shOp, boolOp, unV, convV, nilV, fieldAddrV, indexAddrV, extractV, cellAt, cellsAt, findB, setB, fillL, buildV, Value.cells, lenV, minV, maxV, hav, sliceV, loV, hiV, bslQ, mksQ, appQ, partsOk, partsCells, delB, eqL, SameI, strOp, apzQ, cvtQ, capV, ↓reduceIte, Zj, Zk, Nat.reduceAdd, Nat.reduceLT, Nat.reduceEqDiff, Nat.reduceMul, Nat.reduceLeDiff, if_true, Zn, reduceCtorEq, ZA, eq_self, Int.reduceLE, Int.reduceLT, Int.reduceToNat, ne_eq, Nat.reduceSub, nb2_b1]
  repeat refine And.intro (by omega) ?_
  repeat refine And.intro (by omega) ?_
  intro g
  simp only [List.map_cons, List.map_nil, updL, upd, Nat.reduceEqDiff, if_true, if_false, ↓reduceIte]
  refine hK _ _ ?_; clear hK K
  refine Cd.rs [4] fun K hK => ?_
  simp (maxSteps := 2000000) (disch := first | (simp only [E4, nb2_b1] <;> omega) | omega | fail) only [↓E2, E3, bare, bareJ, ↓E0, E1, evP, evPlan, env0, envN, evOps, evOp, evQs, evQ, evV, setD, pureOp, ev, upd, updL, gate, binW, eqOp, binV, intOp, shOp, boolOp, unV, convV, nilV, fieldAddrV, indexAddrV, extractV, cellAt, cellsAt, findB, setB, fillL, buildV, Value.cells, lenV, minV, maxV, hav, sliceV, loV, hiV, bslQ, mksQ, appQ, partsOk, partsCells, delB, eqL, SameI, strOp, apzQ, cvtQ, capV, ↓reduceIte, Zj, Zk, Nat.reduceAdd, Nat.reduceLT, Nat.reduceEqDiff, Nat.reduceMul, Nat.reduceLeDiff, if_true, Zn, reduceCtorEq, ZA, eq_self, Int.reduceLE, Int.reduceLT, Int.reduceToNat, ne_eq, Nat.reduceSub, Tagg47, Tfld56_1, Thas47, Tld56, Tpar47, Tslce47, Tsz47, nb2_b1]
  repeat refine And.intro (by omega) ?_
  refine callK_newR0 (l04Add_c p1 l1 p2 l2 R _ _ h1 h2 ok1 ok2 (-1) (.inr rfl)) (Told.toldW hR) ?_
  rintro v' M' ⟨s', rfl, hs'⟩ nd' _
  obtain ⟨a', m', c', rfl⟩ := hs'.form
  have hm := slN_len hs'
  subst hm
  simp only [List.cons_append, List.nil_append]
  simp (maxSteps := 2000000) (disch := first | (simp only [E4, nb2_b1, fieldV, partV, Bool.and_self, agg2_0, agg2_1] <;> omega) | omega | fail) only [↓E2, E3, bare, bareJ, ↓E0, E1, evP, evPlan, env0, envN, evOps, evOp, evQs, evQ, evV, setD, pureOp, ev, upd, updL, gate, binW, eqOp, binV, intOp, shOp, boolOp, unV, convV, nilV, fieldAddrV, indexAddrV, extractV, cellAt, cellsAt, findB, setB, fillL, buildV, Value.cells, lenV, minV, maxV, hav, sliceV, loV, hiV, bslQ, mksQ, appQ, partsOk, partsCells, delB, eqL, SameI, strOp, apzQ, cvtQ, capV, ↓reduceIte, Zj, Zk, Nat.reduceAdd, Nat.reduceLT, Nat.reduceEqDiff, Nat.reduceMul, Nat.reduceLeDiff, if_true, Zn, reduceCtorEq, ZA, eq_self, Int.reduceLE, Int.reduceLT, Int.reduceToNat, ne_eq, Nat.reduceSub, Tagg47, Tfld56_1, Thas47, Tld56, Tpar47, Tslce47, Tsz47, nb2_b1, fieldV, partV, Bool.and_self, agg2_0, agg2_1]
  repeat refine And.intro (by omega) ?_
  repeat refine And.intro (by omega) ?_
  intro g
  simp only [List.map_cons, List.map_nil, updL, upd, Nat.reduceEqDiff, if_true, if_false, ↓reduceIte]
  refine hK _ _ ?_; clear hK K
  refine Cd.ret ?_
  simp (maxSteps := 2000000) (disch := first | (simp only [E4, nb2_b1] <;> omega) | omega | fail) only [↓E2, E3, bare, bareJ, ↓E0, E1, evP, evPlan, env0, envN, evOps, evOp, evQs, evQ, evV, setD, pureOp, ev, upd, updL, gate, binW, eqOp, binV, intOp, shOp, boolOp, unV, convV, nilV, fieldAddrV, indexAddrV, extractV, cellAt, cellsAt, findB, setB, fillL, buildV, Value.cells, lenV, minV, maxV, hav, sliceV, loV, hiV, bslQ, mksQ, appQ, partsOk, partsCells, delB, eqL, SameI, strOp, apzQ, cvtQ, capV, ↓reduceIte, Zj, Zk, Nat.reduceAdd, Nat.reduceLT, Nat.reduceEqDiff, Nat.reduceMul, Nat.reduceLeDiff, if_true, Zn, reduceCtorEq, ZA, eq_self, Int.reduceLE, Int.reduceLT, Int.reduceToNat, ne_eq, Nat.reduceSub, nb2_b1]
  repeat refine And.intro (by omega) ?_
end
theorem l04Conway0_c (a : Option Addr) (cap : Nat) (L : Blks) : GivesX Try.prog 106 #[.agg #[.int .i64 0, .slice a 0 cap]] L [] (conP (some []) L) := by
  refine GivesX.of (callable_of Try.func106 rfl (by decide)) ?_ fun w hnd hlt hR => ?_
  · simp
  refine acall_of (N := 103) (c := _) (rs := [.tmp 2, .tmp 3]) (args := [_]) Try.func106 rfl (by decide) rfl rfl (Nat.le_of_ble_eq_true rfl) ?_
  have hndL := hnd
  refine Cd.rs [1] fun K hK => ?_
  simp (maxSteps := 2000000) (disch := first | (simp only [E4] <;> omega) | omega | fail) only [↓E2, E3, bare, bareJ, ↓E0, E1, evP, evPlan, env0, envN, evOps, evOp, evQs, evQ, evV, setD, pureOp, ev, upd, updL, gate, binW, eqOp, binV, intOp, shOp, boolOp, unV, convV, nilV, fieldAddrV, indexAddrV, extractV, cellAt, cellsAt, findB, setB, fillL, buildV, Value.cells, lenV, minV, maxV, hav, sliceV, loV, hiV, bslQ, mksQ, appQ, partsOk, partsCells, delB, eqL, SameI, strOp, apzQ, cvtQ, capV, ↓reduceIte, Zj, Zk, Nat.reduceAdd, Nat.reduceLT, Nat.reduceEqDiff, Nat.reduceMul, Nat.reduceLeDiff, if_true, Zn, reduceCtorEq, ZA, eq_self, Int.reduceLE, Int.reduceLT, Int.reduceToNat, ne_eq, Nat.reduceSub]
  repeat refine And.intro (by omega) ?_
  intro b1 hb1
  try simp (maxSteps := 2000000) (disch := first | (simp only [E4] <;> omega) | omega | fail) only [↓E2, E3, bare, bareJ, ↓E0, E1, evP, evPlan, env0, envN, evOps, evOp, evQs, evQ, evV, setD, pureOp, ev, upd, updL, gate, binW, eqOp, binV, intOp, shOp, boolOp, unV, convV, nilV, fieldAddrV, indexAddrV, extractV, cellAt, cellsAt, findB, setB, fillL, buildV, Value.cells, lenV, minV, maxV, hav, sliceV, loV, hiV, bslQ, mksQ, appQ, partsOk, partsCells, delB, eqL, SameI, strOp, apzQ, cvtQ, capV, ↓reduceIte, Zj, Zk, Nat.reduceAdd, Nat.reduceLT, Nat.reduceEqDiff, Nat.reduceMul, Nat.reduceLeDiff, if_true, Zn, reduceCtorEq, ZA, eq_self, Int.reduceLE, Int.reduceLT, Int.reduceToNat, ne_eq, Nat.reduceSub]
  repeat refine And.intro (by omega) ?_
  repeat refine And.intro (by omega) ?_
  intro g
  simp only [List.map_cons, List.map_nil, updL, upd, Nat.reduceEqDiff, if_true, if_false, ↓reduceIte]
  refine hK _ _ ?_; clear hK K
  refine Cd.seq ?_
  refine Cd.rs [1, 15] fun K hK => ?_
  simp (maxSteps := 2000000) (disch := first | (simp only [E4] <;> omega) | omega | fail) only [↓E2, E3, bare, bareJ, ↓E0, E1, evP, evPlan, env0, envN, evOps, evOp, evQs, evQ, evV, setD, pureOp, ev, upd, updL, gate, binW, eqOp, binV, intOp, shOp, boolOp, unV, convV, nilV, fieldAddrV, indexAddrV, extractV, cellAt, cellsAt, findB, setB, fillL, buildV, Value.cells, lenV, minV, maxV, hav, sliceV, loV, hiV, bslQ, mksQ, appQ, partsOk, partsCells, delB, eqL, SameI, strOp, apzQ, cvtQ, capV, ↓reduceIte, Zj, Zk, Nat.reduceAdd, Nat.reduceLT, Nat.reduceEqDiff, Nat.reduceMul, Nat.reduceLeDiff, if_true, Zn, reduceCtorEq, ZA, eq_self, Int.reduceLE, Int.reduceLT, Int.reduceToNat, ne_eq, Nat.reduceSub, Tfld56_1, Tld47, Tslce47]
  repeat refine And.intro (by omega) ?_
  repeat refine And.intro (by omega) ?_
  intro g
  simp only [List.map_cons, List.map_nil, updL, upd, Nat.reduceEqDiff, if_true, if_false, ↓reduceIte]
  refine hK _ _ ?_; clear hK K
  refine Cd.yes rfl ?_
  refine Cd.rs [2, 3] fun K hK => ?_
  simp (maxSteps := 2000000) (disch := first | (simp only [E4] <;> omega) | omega | fail) only [↓E2, E3, bare, bareJ, ↓E0, E1, evP, evPlan, env0, envN, evOps, evOp, evQs, evQ, evV, setD, pureOp, ev, upd, updL, gate, binW, eqOp, binV, intOp, shOp, boolOp, unV, convV, nilV, fieldAddrV, indexAddrV, extractV, cellAt, cellsAt, findB, setB, fillL, buildV, Value.cells, lenV, minV, maxV, hav, sliceV, loV, hiV, bslQ, mksQ, appQ, partsOk, partsCells, delB, eqL, SameI, strOp, apzQ, cvtQ, capV, ↓reduceIte, Zj, Zk, Nat.reduceAdd, Nat.reduceLT, Nat.reduceEqDiff, Nat.reduceMul, Nat.reduceLeDiff, if_true, Zn, reduceCtorEq, ZA, eq_self, Int.reduceLE, Int.reduceLT, Int.reduceToNat, ne_eq, Nat.reduceSub, Tby2, Tslc47, Tslce47, Tzero2]
  repeat refine And.intro (by omega) ?_
  intro b2 hb2
  have nb2_b1 := hb2.ne
  try simp (maxSteps := 2000000) (disch := first | (simp only [E4, nb2_b1] <;> omega) | omega | fail) only [↓E2, E3, bare, bareJ, ↓E0, E1, evP, evPlan, env0, envN, evOps, evOp, evQs, evQ, evV, setD, pureOp, ev, upd, updL, gate, binW, eqOp, binV, intOp, shOp, boolOp, unV, convV, nilV, fieldAddrV, indexAddrV, extractV, cellAt, cellsAt, findB, setB, fillL, buildV, Value.cells, lenV, minV, maxV, hav, sliceV, loV, hiV, bslQ, mksQ, appQ, partsOk, partsCells, delB, eqL, SameI, strOp, apzQ, cvtQ, capV, ↓reduceIte, Zj, Zk, Nat.reduceAdd, Nat.reduceLT, Nat.reduceEqDiff, Nat.reduceMul, Nat.reduceLeDiff, if_true, Zn, reduceCtorEq, ZA, eq_self, Int.reduceLE, Int.reduceLT, Int.reduceToNat, ne_eq, Nat.reduceSub, Tby2, Tslc47, Tslce47, Tzero2, nb2_b1]
  repeat refine And.intro (by omega) ?_
  repeat refine And.intro (by omega) ?_
  intro g
  simp only [List.map_cons, List.map_nil, updL, upd, Nat.reduceEqDiff, if_true, if_false, ↓reduceIte]
  refine hK _ _ ?_; clear hK K
  refine Cd.ret (thenR ?_)
  simp (maxSteps := 2000000) (disch := first | (simp only [E4, nb2_b1] <;> omega) | omega | fail) only [↓E2, E3, bare, bareJ, ↓E0, E1, evP, evPlan, env0, envN, evOps, evOp, evQs, evQ, evV, setD, pureOp, ev, upd, updL, gate, binW, eqOp, binV, intOp, shOp, boolOp, unV, convV, nilV, fieldAddrV, indexAddrV, extractV, cellAt, cellsAt, findB, setB, fillL, buildV, Value.cells, lenV, minV, maxV, hav, sliceV, loV, hiV, bslQ, mksQ, appQ, partsOk, partsCells, delB, eqL, SameI, strOp, apzQ, cvtQ, capV, ↓reduceIte, Zj, Zk, Nat.reduceAdd, Nat.reduceLT, Nat.reduceEqDiff, Nat.reduceMul, Nat.reduceLeDiff, if_true, Zn, reduceCtorEq, ZA, eq_self, Int.reduceLE, Int.reduceLT, Int.reduceToNat, ne_eq, Nat.reduceSub, nb2_b1]
  repeat refine And.intro (by omega) ?_
  exact ⟨fun p hp => by simp [hp], _, [(b2, [])], rfl, SlN.row (Row.nil 1), fun p hp => by rw [List.mem_singleton.1 hp]; simp, nodup_add hndL (fun p hp => hp) fun p hp => hb2.2 p (List.mem_cons_of_mem _ hp)⟩
section
variable (low : Int) (l : List Int) (v : Value) (L : Blks) (hv : LauV low l v L) (hL : (L.map (·.1)).Nodup) (hb : l.length ≤ 100000000) (hw : -9223372036854775808 ≤ low ∧ low < 9223372036854775808)
include hv hL hb hw
theorem sConway_c : GivesK Try.prog 49 #[v] L (conRes (conAns low l)) := by
  unfold GivesK
  have hrd := hv.reads (R := toldOf L) fun p hp => mem_toldOf hp
  obtain ⟨a, cap, rfl, hsl⟩ := id hrd.form
  refine GivesX.of (callable_of Try.func49 rfl (by decide)) ?_ fun w hnd hlt hR => ?_
  · simp
  refine acall_of (N := 28) (c := _) (rs := [.tmp 2, .tmp 3]) (args := [_]) Try.func49 rfl (by decide) rfl rfl (Nat.le_of_ble_eq_true rfl) ?_
  refine Cd.rs [1] fun K hK => ?_
  simp (maxSteps := 2000000) (disch := first | (simp only [E4] <;> omega) | omega | fail) only [↓E2, E3, bare, bareJ, ↓E0, E1, evP, evPlan, env0, envN, evOps, evOp, evQs, evQ, evV, setD, pureOp, ev, upd, updL, gate, binW, eqOp, binV, intOp, shOp, boolOp, unV, convV, nilV, fieldAddrV, indexAddrV, extractV, cellAt, cellsAt, findB, setB, fillL, buildV, Value.cells, lenV, minV, maxV, hav, sliceV, loV, hiV, bslQ, mksQ, appQ, partsOk, partsCells, delB, eqL, SameI, strOp, apzQ, cvtQ, capV, ↓reduceIte, Zj, Zk, Nat.reduceAdd, Nat.reduceLT, Nat.reduceEqDiff, Nat.reduceMul, Nat.reduceLeDiff, if_true, Zn, reduceCtorEq, ZA, eq_self, Int.reduceLE, Int.reduceLT, Int.reduceToNat, ne_eq, Nat.reduceSub]
  repeat refine And.intro (by omega) ?_
  intro b1 hb1
  try simp (maxSteps := 2000000) (disch := first | (simp only [E4] <;> omega) | omega | fail) only [↓E2, E3, bare, bareJ, ↓E0, E1, evP, evPlan, env0, envN, evOps, evOp, evQs, evQ, evV, setD, pureOp, ev, upd, updL, gate, binW, eqOp, binV, intOp, shOp, boolOp, unV, convV, nilV, fieldAddrV, indexAddrV, extractV, cellAt, cellsAt, findB, setB, fillL, buildV, Value.cells, lenV, minV, maxV, hav, sliceV, loV, hiV, bslQ, mksQ, appQ, partsOk, partsCells, delB, eqL, SameI, strOp, apzQ, cvtQ, capV, ↓reduceIte, Zj, Zk, Nat.reduceAdd, Nat.reduceLT, Nat.reduceEqDiff, Nat.reduceMul, Nat.reduceLeDiff, if_true, Zn, reduceCtorEq, ZA, eq_self, Int.reduceLE, Int.reduceLT, Int.reduceToNat, ne_eq, Nat.reduceSub]
  repeat refine And.intro (by omega) ?_
  repeat refine And.intro (by omega) ?_
  intro g
  simp only [List.map_cons, List.map_nil, updL, upd, Nat.reduceEqDiff, if_true, if_false, ↓reduceIte]
  refine hK _ _ ?_; clear hK K
  refine Cd.nodup fun hnd => ?_
  refine Cd.seq ?_
  refine Cd.block ?_
  refine Cd.rs [1, 6] fun K hK => ?_
  simp (maxSteps := 2000000) (disch := first | (simp only [E4] <;> omega) | omega | fail) only [↓E2, E3, bare, bareJ, ↓E0, E1, evP, evPlan, env0, envN, evOps, evOp, evQs, evQ, evV, setD, pureOp, ev, upd, updL, gate, binW, eqOp, binV, intOp, shOp, boolOp, unV, convV, nilV, fieldAddrV, indexAddrV, extractV, cellAt, cellsAt, findB, setB, fillL, buildV, Value.cells, lenV, minV, maxV, hav, sliceV, loV, hiV, bslQ, mksQ, appQ, partsOk, partsCells, delB, eqL, SameI, strOp, apzQ, cvtQ, capV, ↓reduceIte, Zj, Zk, Nat.reduceAdd, Nat.reduceLT, Nat.reduceEqDiff, Nat.reduceMul, Nat.reduceLeDiff, if_true, Zn, reduceCtorEq, ZA, eq_self, Int.reduceLE, Int.reduceLT, Int.reduceToNat, ne_eq, Nat.reduceSub, Tld56]
  repeat refine And.intro (by omega) ?_
  refine callK_reads0 (l04Is_c _ _ (toldOf L) _ hsl (by omega) hw) (holds_mem hnd fun p hp => by simp [hp]) ?_
  simp (maxSteps := 2000000) (disch := first | (simp only [E4] <;> omega) | omega | fail) only [↓E2, E3, bare, bareJ, ↓E0, E1, evP, evPlan, env0, envN, evOps, evOp, evQs, evQ, evV, setD, pureOp, ev, upd, updL, gate, binW, eqOp, binV, intOp, shOp, boolOp, unV, convV, nilV, fieldAddrV, indexAddrV, extractV, cellAt, cellsAt, findB, setB, fillL, buildV, Value.cells, lenV, minV, maxV, hav, sliceV, loV, hiV, bslQ, mksQ, appQ, partsOk, partsCells, delB, eqL, SameI, strOp, apzQ, cvtQ, capV, ↓reduceIte, Zj, Zk, Nat.reduceAdd, Nat.reduceLT, Nat.reduceEqDiff, Nat.reduceMul, Nat.reduceLeDiff, if_true, Zn, reduceCtorEq, ZA, eq_self, Int.reduceLE, Int.reduceLT, Int.reduceToNat, ne_eq, Nat.reduceSub, Tld56]
  repeat refine And.intro (by omega) ?_
  repeat refine And.intro (by omega) ?_
  intro g
  simp only [List.map_cons, List.map_nil, updL, upd, Nat.reduceEqDiff, if_true, if_false, ↓reduceIte]
  refine hK _ _ ?_; clear hK K
  refine Cd.cond rfl (fun h1 => ?_) (fun h1 => ?_)
  · refine Cd.rs [2, 3] fun K hK => ?_
    simp (maxSteps := 2000000) (disch := first | (simp only [E4] <;> omega) | omega | fail) only [↓E2, E3, bare, bareJ, ↓E0, E1, evP, evPlan, env0, envN, evOps, evOp, evQs, evQ, evV, setD, pureOp, ev, upd, updL, gate, binW, eqOp, binV, intOp, shOp, boolOp, unV, convV, nilV, fieldAddrV, indexAddrV, extractV, cellAt, cellsAt, findB, setB, fillL, buildV, Value.cells, lenV, minV, maxV, hav, sliceV, loV, hiV, bslQ, mksQ, appQ, partsOk, partsCells, delB, eqL, SameI, strOp, apzQ, cvtQ, capV, ↓reduceIte, Zj, Zk, Nat.reduceAdd, Nat.reduceLT, Nat.reduceEqDiff, Nat.reduceMul, Nat.reduceLeDiff, if_true, Zn, reduceCtorEq, ZA, eq_self, Int.reduceLE, Int.reduceLT, Int.reduceToNat, ne_eq, Nat.reduceSub]
    repeat refine And.intro (by omega) ?_
    repeat refine And.intro (by omega) ?_
    intro g
    simp only [List.map_cons, List.map_nil, updL, upd, Nat.reduceEqDiff, if_true, if_false, ↓reduceIte]
    refine hK _ _ ?_; clear hK K
    refine Cd.ret (inBR (thenR ?_))
    simp (maxSteps := 2000000) (disch := first | (simp only [E4] <;> omega) | omega | fail) only [↓E2, E3, bare, bareJ, ↓E0, E1, evP, evPlan, env0, envN, evOps, evOp, evQs, evQ, evV, setD, pureOp, ev, upd, updL, gate, binW, eqOp, binV, intOp, shOp, boolOp, unV, convV, nilV, fieldAddrV, indexAddrV, extractV, cellAt, cellsAt, findB, setB, fillL, buildV, Value.cells, lenV, minV, maxV, hav, sliceV, loV, hiV, bslQ, mksQ, appQ, partsOk, partsCells, delB, eqL, SameI, strOp, apzQ, cvtQ, capV, ↓reduceIte, Zj, Zk, Nat.reduceAdd, Nat.reduceLT, Nat.reduceEqDiff, Nat.reduceMul, Nat.reduceLeDiff, if_true, Zn, reduceCtorEq, ZA, eq_self, Int.reduceLE, Int.reduceLT, Int.reduceToNat, ne_eq, Nat.reduceSub]
    repeat refine And.intro (by omega) ?_
    refine keepQ.none hL (fun p hp => by simp [hp]) (conRes_no ?_ rfl)
    unfold conAns
    rw [if_neg (by simpa using h1)]
  · have hok : lauOk low l = true := by simpa using h1
    have hmi := lauOk_mir hok
    have hlo := lauOk_low hok
    have hls := like_sym hok
    generalize hlen : (addR low l (mirLow low l) l.reverse (-1)).2.length = nl at *
    refine Cd.ps [1, 10] (Plan.take 1 (Plan.more 0 (Plan.one 2 (Plan.take 3 (Plan.take 4 (Plan.take 5 (Plan.done))))) (Plan.one 2 (Plan.take 0 (Plan.take 3 (Plan.take 4 (Plan.take 5 (Plan.done)))))))) fol (by kernel_rfl) (Nat.le_of_ble_eq_true rfl) fun K hK => ?_
    have J : ∀ g M, SubP ((b1, [.int .i64 low, .slice a l.length cap]) :: L) M → K (updL [(1, .pointer (some ⟨b1, 0, none⟩)), (10, .bool (!((nl : Int) == 0)))] g) M := by
      intro g M hM
      refine hK _ _ ?_
      clear hK K
      refine Cd.sub hM ?_
      clear hM M
      refine Cd.cond rfl (fun h2 => ?_) (fun h2 => ?_)
      · simp only [decide_eq_true_eq, decide_eq_false_iff_not, beq_iff_eq, beq_eq_false_iff_ne, bne_iff_ne, bne_eq_false_iff_eq, Bool.and_eq_true, Bool.or_eq_true, Bool.or_eq_false_iff, Bool.not_eq_true', Bool.not_eq_false', Bool.and_eq_false_imp, ne_eq, gt_iff_lt, ge_iff_le, Int.not_lt, Int.not_le, Classical.not_not] at h2
        have hns : ¬ (l.length = 0 ∨ isSym low l) := fun h => by have := hls.2 h; omega
        refine Cd.rs [2, 3] fun K hK => ?_
        simp (maxSteps := 2000000) (disch := first | (simp only [E4] <;> omega) | omega | fail) only [↓E2, E3, bare, bareJ, ↓E0, E1, evP, evPlan, env0, envN, evOps, evOp, evQs, evQ, evV, setD, pureOp, ev, upd, updL, gate, binW, eqOp, binV, intOp, shOp, boolOp, unV, convV, nilV, fieldAddrV, indexAddrV, extractV, cellAt, cellsAt, findB, setB, fillL, buildV, Value.cells, lenV, minV, maxV, hav, sliceV, loV, hiV, bslQ, mksQ, appQ, partsOk, partsCells, delB, eqL, SameI, strOp, apzQ, cvtQ, capV, ↓reduceIte, Zj, Zk, Nat.reduceAdd, Nat.reduceLT, Nat.reduceEqDiff, Nat.reduceMul, Nat.reduceLeDiff, if_true, Zn, reduceCtorEq, ZA, eq_self, Int.reduceLE, Int.reduceLT, Int.reduceToNat, ne_eq, Nat.reduceSub]
        repeat refine And.intro (by omega) ?_
        repeat refine And.intro (by omega) ?_
        intro g
        simp only [List.map_cons, List.map_nil, updL, upd, Nat.reduceEqDiff, if_true, if_false, ↓reduceIte]
        refine hK _ _ ?_; clear hK K
        refine Cd.ret (inBR (thenR ?_))
        simp (maxSteps := 2000000) (disch := first | (simp only [E4] <;> omega) | omega | fail) only [↓E2, E3, bare, bareJ, ↓E0, E1, evP, evPlan, env0, envN, evOps, evOp, evQs, evQ, evV, setD, pureOp, ev, upd, updL, gate, binW, eqOp, binV, intOp, shOp, boolOp, unV, convV, nilV, fieldAddrV, indexAddrV, extractV, cellAt, cellsAt, findB, setB, fillL, buildV, Value.cells, lenV, minV, maxV, hav, sliceV, loV, hiV, bslQ, mksQ, appQ, partsOk, partsCells, delB, eqL, SameI, strOp, apzQ, cvtQ, capV, ↓reduceIte, Zj, Zk, Nat.reduceAdd, Nat.reduceLT, Nat.reduceEqDiff, Nat.reduceMul, Nat.reduceLeDiff, if_true, Zn, reduceCtorEq, ZA, eq_self, Int.reduceLE, Int.reduceLT, Int.reduceToNat, ne_eq, Nat.reduceSub]
        repeat refine And.intro (by omega) ?_
        refine keepQ.none hL (fun p hp => by simp [hp]) (conRes_no ?_ rfl)
        unfold conAns
        rw [if_pos hok, if_neg (fun h => hns (.inl h)), if_neg (fun h => hns (.inr h))]
      · simp only [decide_eq_true_eq, decide_eq_false_iff_not, beq_iff_eq, beq_eq_false_iff_ne, bne_iff_ne, bne_eq_false_iff_eq, Bool.and_eq_true, Bool.or_eq_true, Bool.or_eq_false_iff, Bool.not_eq_true', Bool.not_eq_false', Bool.and_eq_false_imp, ne_eq, gt_iff_lt, ge_iff_le, Int.not_lt, Int.not_le, Classical.not_not] at h2
        have hsy : l.length = 0 ∨ isSym low l := hls.1 (by omega)
        refine Cd.rs [1, 16] fun K hK => ?_
        simp (maxSteps := 2000000) (disch := first | (simp only [E4] <;> omega) | omega | fail) only [↓E2, E3, bare, bareJ, ↓E0, E1, evP, evPlan, env0, envN, evOps, evOp, evQs, evQ, evV, setD, pureOp, ev, upd, updL, gate, binW, eqOp, binV, intOp, shOp, boolOp, unV, convV, nilV, fieldAddrV, indexAddrV, extractV, cellAt, cellsAt, findB, setB, fillL, buildV, Value.cells, lenV, minV, maxV, hav, sliceV, loV, hiV, bslQ, mksQ, appQ, partsOk, partsCells, delB, eqL, SameI, strOp, apzQ, cvtQ, capV, ↓reduceIte, Zj, Zk, Nat.reduceAdd, Nat.reduceLT, Nat.reduceEqDiff, Nat.reduceMul, Nat.reduceLeDiff, if_true, Zn, reduceCtorEq, ZA, eq_self, Int.reduceLE, Int.reduceLT, Int.reduceToNat, ne_eq, Nat.reduceSub, Tfld56_0, Tld2]
        repeat refine And.intro (by omega) ?_
        repeat refine And.intro (by omega) ?_
        intro g
        simp only [List.map_cons, List.map_nil, updL, upd, Nat.reduceEqDiff, if_true, if_false, ↓reduceIte]
        refine hK _ _ ?_; clear hK K
        refine Cd.condd rfl (fun h3 => ?_) (fun h3 => ?_)
        · have h0 : l.length ≠ 0 := by
            intro h0
            obtain ⟨rfl, rfl⟩ := lauOk_nil hok h0
            omega
          refine Cd.rs [2, 3] fun K hK => ?_
          simp (maxSteps := 2000000) (disch := first | (simp only [E4] <;> omega) | omega | fail) only [↓E2, E3, bare, bareJ, ↓E0, E1, evP, evPlan, env0, envN, evOps, evOp, evQs, evQ, evV, setD, pureOp, ev, upd, updL, gate, binW, eqOp, binV, intOp, shOp, boolOp, unV, convV, nilV, fieldAddrV, indexAddrV, extractV, cellAt, cellsAt, findB, setB, fillL, buildV, Value.cells, lenV, minV, maxV, hav, sliceV, loV, hiV, bslQ, mksQ, appQ, partsOk, partsCells, delB, eqL, SameI, strOp, apzQ, cvtQ, capV, ↓reduceIte, Zj, Zk, Nat.reduceAdd, Nat.reduceLT, Nat.reduceEqDiff, Nat.reduceMul, Nat.reduceLeDiff, if_true, Zn, reduceCtorEq, ZA, eq_self, Int.reduceLE, Int.reduceLT, Int.reduceToNat, ne_eq, Nat.reduceSub]
          repeat refine And.intro (by omega) ?_
          repeat refine And.intro (by omega) ?_
          intro g
          simp only [List.map_cons, List.map_nil, updL, upd, Nat.reduceEqDiff, if_true, if_false, ↓reduceIte]
          refine hK _ _ ?_; clear hK K
          refine Cd.ret (inBR (thenR ?_))
          simp (maxSteps := 2000000) (disch := first | (simp only [E4] <;> omega) | omega | fail) only [↓E2, E3, bare, bareJ, ↓E0, E1, evP, evPlan, env0, envN, evOps, evOp, evQs, evQ, evV, setD, pureOp, ev, upd, updL, gate, binW, eqOp, binV, intOp, shOp, boolOp, unV, convV, nilV, fieldAddrV, indexAddrV, extractV, cellAt, cellsAt, findB, setB, fillL, buildV, Value.cells, lenV, minV, maxV, hav, sliceV, loV, hiV, bslQ, mksQ, appQ, partsOk, partsCells, delB, eqL, SameI, strOp, apzQ, cvtQ, capV, ↓reduceIte, Zj, Zk, Nat.reduceAdd, Nat.reduceLT, Nat.reduceEqDiff, Nat.reduceMul, Nat.reduceLeDiff, if_true, Zn, reduceCtorEq, ZA, eq_self, Int.reduceLE, Int.reduceLT, Int.reduceToNat, ne_eq, Nat.reduceSub]
          repeat refine And.intro (by omega) ?_
          refine keepQ.none hL (fun p hp => by simp [hp]) (conRes_no ?_ rfl)
          unfold conAns
          rw [if_pos hok, if_neg h0, if_pos (hsy.resolve_left h0), if_pos h3]
        · have hcall : ∃ r, GivesX Try.prog 106 #[.agg #[.int .i64 low, .slice a l.length cap]] L [] (conP r L) ∧ conAns low l = conOut r := by
            by_cases h0 : l.length = 0
            · obtain ⟨rfl, rfl⟩ := lauOk_nil hok h0
              refine ⟨some [], l04Conway0_c a cap L, ?_⟩
              unfold conAns
              rw [if_pos hok, if_pos (by rfl)]
              rfl
            · have hs := hsy.resolve_left h0
              obtain ⟨d, e1, e2, e3, e4, e5, e6⟩ := sym_core hok hs h0
              refine ⟨conCore low l, ?_, ?_⟩
              · rw [e6]
                have := l04Conway_c d (by omega) (l.drop d) e3 e4 e5 _ L (by rw [← e1, ← e2]; exact hv)
                exact this
              · unfold conAns
                rw [if_pos hok, if_neg h0, if_pos hs, if_neg h3]
          obtain ⟨r, hcall, hans⟩ := hcall
          refine Cd.skip ?_
          refine inBN ?_
          refine thenN ?_
          refine Cd.rs [4, 5] fun K hK => ?_
          simp (maxSteps := 2000000) (disch := first | (simp only [E4] <;> omega) | omega | fail) only [↓E2, E3, bare, bareJ, ↓E0, E1, evP, evPlan, env0, envN, evOps, evOp, evQs, evQ, evV, setD, pureOp, ev, upd, updL, gate, binW, eqOp, binV, intOp, shOp, boolOp, unV, convV, nilV, fieldAddrV, indexAddrV, extractV, cellAt, cellsAt, findB, setB, fillL, buildV, Value.cells, lenV, minV, maxV, hav, sliceV, loV, hiV, bslQ, mksQ, appQ, partsOk, partsCells, delB, eqL, SameI, strOp, apzQ, cvtQ, capV, ↓reduceIte, Zj, Zk, Nat.reduceAdd, Nat.reduceLT, Nat.reduceEqDiff, Nat.reduceMul, Nat.reduceLeDiff, if_true, Zn, reduceCtorEq, ZA, eq_self, Int.reduceLE, Int.reduceLT, Int.reduceToNat, ne_eq, Nat.reduceSub, Tld56]
          repeat refine And.intro (by omega) ?_
          refine callK_lentB0 (Mr := [(b1, [.int .i64 low, .slice a l.length cap])]) hcall hnd rfl (fun w _ => toldW_nil) ?_
          rintro r2 M' ⟨hLM, hcase⟩ nd' _
          simp only [List.cons_append, List.nil_append] at nd' ⊢
          cases r with
          | none =>
            simp only at hcase
            have hans : conAns low l = ([], 3) := hans
            subst hcase
            simp (maxSteps := 2000000) (disch := first | (simp only [E4] <;> omega) | omega | fail) only [↓E2, E3, bare, bareJ, ↓E0, E1, evP, evPlan, env0, envN, evOps, evOp, evQs, evQ, evV, setD, pureOp, ev, upd, updL, gate, binW, eqOp, binV, intOp, shOp, boolOp, unV, convV, nilV, fieldAddrV, indexAddrV, extractV, cellAt, cellsAt, findB, setB, fillL, buildV, Value.cells, lenV, minV, maxV, hav, sliceV, loV, hiV, bslQ, mksQ, appQ, partsOk, partsCells, delB, eqL, SameI, strOp, apzQ, cvtQ, capV, ↓reduceIte, Zj, Zk, Nat.reduceAdd, Nat.reduceLT, Nat.reduceEqDiff, Nat.reduceMul, Nat.reduceLeDiff, if_true, Zn, reduceCtorEq, ZA, eq_self, Int.reduceLE, Int.reduceLT, Int.reduceToNat, ne_eq, Nat.reduceSub, Tld56]
            repeat refine And.intro (by omega) ?_
            repeat refine And.intro (by omega) ?_
            intro g
            simp only [List.map_cons, List.map_nil, updL, upd, Nat.reduceEqDiff, if_true, if_false, ↓reduceIte]
            refine hK _ _ ?_; clear hK K
            refine Cd.seq ?_
            refine Cd.rs [4, 26] fun K hK => ?_
            simp (maxSteps := 2000000) (disch := first | (simp only [E4] <;> omega) | omega | fail) only [↓E2, E3, bare, bareJ, ↓E0, E1, evP, evPlan, env0, envN, evOps, evOp, evQs, evQ, evV, setD, pureOp, ev, upd, updL, gate, binW, eqOp, binV, intOp, shOp, boolOp, unV, convV, nilV, fieldAddrV, indexAddrV, extractV, cellAt, cellsAt, findB, setB, fillL, buildV, Value.cells, lenV, minV, maxV, hav, sliceV, loV, hiV, bslQ, mksQ, appQ, partsOk, partsCells, delB, eqL, SameI, strOp, apzQ, cvtQ, capV, ↓reduceIte, Zj, Zk, Nat.reduceAdd, Nat.reduceLT, Nat.reduceEqDiff, Nat.reduceMul, Nat.reduceLeDiff, if_true, Zn, reduceCtorEq, ZA, eq_self, Int.reduceLE, Int.reduceLT, Int.reduceToNat, ne_eq, Nat.reduceSub]
            repeat refine And.intro (by omega) ?_
            repeat refine And.intro (by omega) ?_
            intro g
            simp only [List.map_cons, List.map_nil, updL, upd, Nat.reduceEqDiff, if_true, if_false, ↓reduceIte]
            refine hK _ _ ?_; clear hK K
            refine Cd.yes rfl ?_
            refine Cd.rs [2, 3] fun K hK => ?_
            simp (maxSteps := 2000000) (disch := first | (simp only [E4] <;> omega) | omega | fail) only [↓E2, E3, bare, bareJ, ↓E0, E1, evP, evPlan, env0, envN, evOps, evOp, evQs, evQ, evV, setD, pureOp, ev, upd, updL, gate, binW, eqOp, binV, intOp, shOp, boolOp, unV, convV, nilV, fieldAddrV, indexAddrV, extractV, cellAt, cellsAt, findB, setB, fillL, buildV, Value.cells, lenV, minV, maxV, hav, sliceV, loV, hiV, bslQ, mksQ, appQ, partsOk, partsCells, delB, eqL, SameI, strOp, apzQ, cvtQ, capV, ↓reduceIte, Zj, Zk, Nat.reduceAdd, Nat.reduceLT, Nat.reduceEqDiff, Nat.reduceMul, Nat.reduceLeDiff, if_true, Zn, reduceCtorEq, ZA, eq_self, Int.reduceLE, Int.reduceLT, Int.reduceToNat, ne_eq, Nat.reduceSub]
            repeat refine And.intro (by omega) ?_
            repeat refine And.intro (by omega) ?_
            intro g
            simp only [List.map_cons, List.map_nil, updL, upd, Nat.reduceEqDiff, if_true, if_false, ↓reduceIte]
            refine hK _ _ ?_; clear hK K
            refine Cd.ret (thenR ?_)
            simp (maxSteps := 2000000) (disch := first | (simp only [E4] <;> omega) | omega | fail) only [↓E2, E3, bare, bareJ, ↓E0, E1, evP, evPlan, env0, envN, evOps, evOp, evQs, evQ, evV, setD, pureOp, ev, upd, updL, gate, binW, eqOp, binV, intOp, shOp, boolOp, unV, convV, nilV, fieldAddrV, indexAddrV, extractV, cellAt, cellsAt, findB, setB, fillL, buildV, Value.cells, lenV, minV, maxV, hav, sliceV, loV, hiV, bslQ, mksQ, appQ, partsOk, partsCells, delB, eqL, SameI, strOp, apzQ, cvtQ, capV, ↓reduceIte, Zj, Zk, Nat.reduceAdd, Nat.reduceLT, Nat.reduceEqDiff, Nat.reduceMul, Nat.reduceLeDiff, if_true, Zn, reduceCtorEq, ZA, eq_self, Int.reduceLE, Int.reduceLT, Int.reduceToNat, ne_eq, Nat.reduceSub]
            repeat refine And.intro (by omega) ?_
            exact keepQ.none hL (fun p hp => by simp [hLM p hp]) (conRes_no hans rfl)
          | some out =>
            obtain ⟨s, Mo, rfl, hso, hMo, hnn⟩ := hcase
            have hans : conAns low l = (out, 0) := hans
            simp (maxSteps := 2000000) (disch := first | (simp only [E4] <;> omega) | omega | fail) only [↓E2, E3, bare, bareJ, ↓E0, E1, evP, evPlan, env0, envN, evOps, evOp, evQs, evQ, evV, setD, pureOp, ev, upd, updL, gate, binW, eqOp, binV, intOp, shOp, boolOp, unV, convV, nilV, fieldAddrV, indexAddrV, extractV, cellAt, cellsAt, findB, setB, fillL, buildV, Value.cells, lenV, minV, maxV, hav, sliceV, loV, hiV, bslQ, mksQ, appQ, partsOk, partsCells, delB, eqL, SameI, strOp, apzQ, cvtQ, capV, ↓reduceIte, Zj, Zk, Nat.reduceAdd, Nat.reduceLT, Nat.reduceEqDiff, Nat.reduceMul, Nat.reduceLeDiff, if_true, Zn, reduceCtorEq, ZA, eq_self, Int.reduceLE, Int.reduceLT, Int.reduceToNat, ne_eq, Nat.reduceSub, Tld56]
            repeat refine And.intro (by omega) ?_
            repeat refine And.intro (by omega) ?_
            intro g
            simp only [List.map_cons, List.map_nil, updL, upd, Nat.reduceEqDiff, if_true, if_false, ↓reduceIte]
            refine hK _ _ ?_; clear hK K
            refine Cd.seq ?_
            refine Cd.rs [4, 26] fun K hK => ?_
            simp (maxSteps := 2000000) (disch := first | (simp only [E4] <;> omega) | omega | fail) only [↓E2, E3, bare, bareJ, ↓E0, E1, evP, evPlan, env0, envN, evOps, evOp, evQs, evQ, evV, setD, pureOp, ev, upd, updL, gate, binW, eqOp, binV, intOp, shOp, boolOp, unV, convV, nilV, fieldAddrV, indexAddrV, extractV, cellAt, cellsAt, findB, setB, fillL, buildV, Value.cells, lenV, minV, maxV, hav, sliceV, loV, hiV, bslQ, mksQ, appQ, partsOk, partsCells, delB, eqL, SameI, strOp, apzQ, cvtQ, capV, ↓reduceIte, Zj, Zk, Nat.reduceAdd, Nat.reduceLT, Nat.reduceEqDiff, Nat.reduceMul, Nat.reduceLeDiff, if_true, Zn, reduceCtorEq, ZA, eq_self, Int.reduceLE, Int.reduceLT, Int.reduceToNat, ne_eq, Nat.reduceSub]
            repeat refine And.intro (by omega) ?_
            repeat refine And.intro (by omega) ?_
            intro g
            simp only [List.map_cons, List.map_nil, updL, upd, Nat.reduceEqDiff, if_true, if_false, ↓reduceIte]
            refine hK _ _ ?_; clear hK K
            refine Cd.no rfl ?_
            refine Cd.skip ?_
            refine thenN ?_
            refine Cd.rs [2, 3] fun K hK => ?_
            simp (maxSteps := 2000000) (disch := first | (simp only [E4] <;> omega) | omega | fail) only [↓E2, E3, bare, bareJ, ↓E0, E1, evP, evPlan, env0, envN, evOps, evOp, evQs, evQ, evV, setD, pureOp, ev, upd, updL, gate, binW, eqOp, binV, intOp, shOp, boolOp, unV, convV, nilV, fieldAddrV, indexAddrV, extractV, cellAt, cellsAt, findB, setB, fillL, buildV, Value.cells, lenV, minV, maxV, hav, sliceV, loV, hiV, bslQ, mksQ, appQ, partsOk, partsCells, delB, eqL, SameI, strOp, apzQ, cvtQ, capV, ↓reduceIte, Zj, Zk, Nat.reduceAdd, Nat.reduceLT, Nat.reduceEqDiff, Nat.reduceMul, Nat.reduceLeDiff, if_true, Zn, reduceCtorEq, ZA, eq_self, Int.reduceLE, Int.reduceLT, Int.reduceToNat, ne_eq, Nat.reduceSub]
            repeat refine And.intro (by omega) ?_
            repeat refine And.intro (by omega) ?_
            intro g
            simp only [List.map_cons, List.map_nil, updL, upd, Nat.reduceEqDiff, if_true, if_false, ↓reduceIte]
            refine hK _ _ ?_; clear hK K
            refine Cd.ret ?_
            simp (maxSteps := 2000000) (disch := first | (simp only [E4] <;> omega) | omega | fail) only [↓E2, E3, bare, bareJ, ↓E0, E1, evP, evPlan, env0, envN, evOps, evOp, evQs, evQ, evV, setD, pureOp, ev, upd, updL, gate, binW, eqOp, binV, intOp, shOp, boolOp, unV, convV, nilV, fieldAddrV, indexAddrV, extractV, cellAt, cellsAt, findB, setB, fillL, buildV, Value.cells, lenV, minV, maxV, hav, sliceV, loV, hiV, bslQ, mksQ, appQ, partsOk, partsCells, delB, eqL, SameI, strOp, apzQ, cvtQ, capV, ↓reduceIte, Zj, Zk, Nat.reduceAdd, Nat.reduceLT, Nat.reduceEqDiff, Nat.reduceMul, Nat.reduceLeDiff, if_true, Zn, reduceCtorEq, ZA, eq_self, Int.reduceLE, Int.reduceLT, Int.reduceToNat, ne_eq, Nat.reduceSub]
            repeat refine And.intro (by omega) ?_
            rw [hans]
            exact ⟨Mo, fun p hp => by simp [hLM p hp], fun p hp => by simp [hMo p hp], hnn, _, rfl, hso⟩
    clear hK
    simp (maxSteps := 2000000) (disch := first | (simp only [E4] <;> omega) | omega | fail) only [↓E2, E3, bare, bareJ, ↓E0, E1, evP, evPlan, env0, envN, evOps, evOp, evQs, evQ, evV, setD, pureOp, ev, upd, updL, gate, binW, eqOp, binV, intOp, shOp, boolOp, unV, convV, nilV, fieldAddrV, indexAddrV, extractV, cellAt, cellsAt, findB, setB, fillL, buildV, Value.cells, lenV, minV, maxV, hav, sliceV, loV, hiV, bslQ, mksQ, appQ, partsOk, partsCells, delB, eqL, SameI, strOp, apzQ, cvtQ, capV, ↓reduceIte, Zj, Zk, Nat.reduceAdd, Nat.reduceLT, Nat.reduceEqDiff, Nat.reduceMul, Nat.reduceLeDiff, if_true, Zn, reduceCtorEq, ZA, eq_self, Int.reduceLE, Int.reduceLT, Int.reduceToNat, ne_eq, Nat.reduceSub, Tld56, ↓YR]
    refine moreX_go ?_ ?_
    all_goals
      try simp (maxSteps := 2000000) (disch := first | (simp only [E4] <;> omega) | omega | fail) only [↓E2, E3, bare, bareJ, ↓E0, E1, evP, evPlan, env0, envN, evOps, evOp, evQs, evQ, evV, setD, pureOp, ev, upd, updL, gate, binW, eqOp, binV, intOp, shOp, boolOp, unV, convV, nilV, fieldAddrV, indexAddrV, extractV, cellAt, cellsAt, findB, setB, fillL, buildV, Value.cells, lenV, minV, maxV, hav, sliceV, loV, hiV, bslQ, mksQ, appQ, partsOk, partsCells, delB, eqL, SameI, strOp, apzQ, cvtQ, capV, ↓reduceIte, Zj, Zk, Nat.reduceAdd, Nat.reduceLT, Nat.reduceEqDiff, Nat.reduceMul, Nat.reduceLeDiff, if_true, Zn, reduceCtorEq, ZA, eq_self, Int.reduceLE, Int.reduceLT, Int.reduceToNat, ne_eq, Nat.reduceSub, Tld56, ↓YR]
      repeat refine And.intro (by omega) ?_
      refine callO_newR0 (l04Mirror_c low l (toldOf L) _ hrd hok) (HoldsAll.toldW (holds_mem hnd fun p hp => by simp [hp])) ?_
      rintro vm Mm hvm ndm _
      simp only [List.cons_append, List.nil_append] at ndm ⊢
      simp (maxSteps := 2000000) (disch := first | (simp only [E4] <;> omega) | omega | fail) only [↓E2, E3, bare, bareJ, ↓E0, E1, evP, evPlan, env0, envN, evOps, evOp, evQs, evQ, evV, setD, pureOp, ev, upd, updL, gate, binW, eqOp, binV, intOp, shOp, boolOp, unV, convV, nilV, fieldAddrV, indexAddrV, extractV, cellAt, cellsAt, findB, setB, fillL, buildV, Value.cells, lenV, minV, maxV, hav, sliceV, loV, hiV, bslQ, mksQ, appQ, partsOk, partsCells, delB, eqL, SameI, strOp, apzQ, cvtQ, capV, ↓reduceIte, Zj, Zk, Nat.reduceAdd, Nat.reduceLT, Nat.reduceEqDiff, Nat.reduceMul, Nat.reduceLeDiff, if_true, Zn, reduceCtorEq, ZA, eq_self, Int.reduceLE, Int.reduceLT, Int.reduceToNat, ne_eq, Nat.reduceSub, Tld56, ↓YR]
      refine callP_reads0 (l04Like_c low l (mirLow low l) l.reverse (toldOf (L ++ Mm)) _ vm (hrd.more (by rw [toldOf_append]; exact fun r hr => List.mem_append_left _ hr)) (hvm.reads fun p hp => mem_toldOf (List.mem_append_right _ hp)) hok hmi) (holds_mem ndm fun p hp => by simp only [List.mem_append] at hp; rcases hp with hp | hp <;> simp [hp]) ?_
      rw [hlen]
      simp (maxSteps := 2000000) (disch := first | (simp only [E4] <;> omega) | omega | fail) only [↓E2, E3, bare, bareJ, ↓E0, E1, evP, evPlan, env0, envN, evOps, evOp, evQs, evQ, evV, setD, pureOp, ev, upd, updL, gate, binW, eqOp, binV, intOp, shOp, boolOp, unV, convV, nilV, fieldAddrV, indexAddrV, extractV, cellAt, cellsAt, findB, setB, fillL, buildV, Value.cells, lenV, minV, maxV, hav, sliceV, loV, hiV, bslQ, mksQ, appQ, partsOk, partsCells, delB, eqL, SameI, strOp, apzQ, cvtQ, capV, ↓reduceIte, Zj, Zk, Nat.reduceAdd, Nat.reduceLT, Nat.reduceEqDiff, Nat.reduceMul, Nat.reduceLeDiff, if_true, Zn, reduceCtorEq, ZA, eq_self, Int.reduceLE, Int.reduceLT, Int.reduceToNat, ne_eq, Nat.reduceSub, Tld56, ↓YR]
      repeat refine And.intro (by omega) ?_
      intro g
      simp only [List.map_cons, List.map_nil, updL, upd, Nat.reduceEqDiff, if_true, if_false, ↓reduceIte]
      exact J g _ (SubP.of (.cons_cons _ (List.sublist_append_left _ _)))
end

end Go.Proofs

/-
  What the functions of this part hand back: each as a plain function of its arguments. Conditions: none.
-/
namespace Go.Proofs
open Go.W8
set_option linter.unusedVariables false
set_option linter.unusedSimpArgs false
set_option linter.unusedSectionVars false
set_option maxRecDepth 8000
set_option maxHeartbeats 4000000
def rvL (l : List Int) (k : Nat) : List Int := (List.range l.length).map fun i => if i < k ∨ l.length ≤ i + k then l.getD (l.length - 1 - i) 0 else l.getD i 0
theorem rvL_len (l : List Int) (k : Nat) : (rvL l k).length = l.length := by simp [rvL]
theorem rvL_get {l : List Int} {k i : Nat} (h : i < l.length) : (rvL l k).getD i 0 = if i < k ∨ l.length ≤ i + k then l.getD (l.length - 1 - i) 0 else l.getD i 0 := by
  unfold rvL
  rw [List.getD_eq_getElem?_getD, List.getElem?_map, List.getElem?_range h]; rfl
theorem getD_ext {a b : List Int} (h : a.length = b.length) (hg : ∀ i, i < a.length → a.getD i 0 = b.getD i 0) : a = b := by
  apply List.ext_getElem h
  intro i h1 h2
  have := hg i h1
  rw [List.getD_eq_getElem?_getD, List.getD_eq_getElem?_getD, List.getElem?_eq_getElem h1, List.getElem?_eq_getElem h2] at this
  simpa using this
theorem getD_set {a : List Int} {i j : Nat} {x : Int} (h : i < a.length) : (a.set i x).getD j 0 = if i = j then x else a.getD j 0 := by
  rw [List.getD_eq_getElem?_getD, List.getD_eq_getElem?_getD, List.getElem?_set]
  split
  · simp_all
  · rfl
theorem rvL_zero (l : List Int) : rvL l 0 = l := by
  refine getD_ext (rvL_len _ _) fun i hi => ?_
  rw [rvL_len] at hi
  rw [rvL_get hi, if_neg (by omega)]
theorem rvL_end {l : List Int} {k : Nat} (h : l.length ≤ 2 * k + 1) : rvL l k = l.reverse := by
  refine getD_ext (by rw [rvL_len, List.length_reverse]) fun i hi => ?_
  rw [rvL_len] at hi
  rw [rvL_get hi, rev_get hi]
  split
  · rfl
  · rw [show l.length - 1 - i = i by omega]
theorem rvL_step {l : List Int} {k : Nat} (h : 2 * k + 1 < l.length) : ((rvL l k).set k (l.getD (l.length - 1 - k) 0)).set (l.length - 1 - k) (l.getD k 0) = rvL l (k + 1) := by
  refine getD_ext (by simp [rvL_len]) fun i hi => ?_
  simp only [List.length_set, rvL_len] at hi
  rw [getD_set (by rw [List.length_set, rvL_len]; omega), getD_set (by rw [rvL_len]; omega), rvL_get hi, rvL_get hi]
  by_cases e1 : l.length - 1 - k = i
  · rw [if_pos e1, if_pos (by omega), ← e1, show l.length - 1 - (l.length - 1 - k) = k by omega]
  · rw [if_neg e1]
    by_cases e2 : k = i
    · rw [if_pos e2, if_pos (by omega), e2]
    · rw [if_neg e2]
      by_cases e3 : i < k ∨ l.length ≤ i + k
      · rw [if_pos e3, if_pos (by omega)]
      · rw [if_neg e3, if_neg (by omega)]
theorem Reverse_c (l : List Int) (v : Value) (L : Blks) (h : SlN 1 (ints .i64 l) v L) (hb : l.length ≤ 100000000) : GivesX Try.prog 179 #[v] L [] (fun _ M' => SlN 1 (ints .i64 l.reverse) v M') := by
  obtain ⟨a, cap, rfl⟩ : ∃ a cap, v = .slice a l.length cap := by
    rcases h with ⟨h1, h2, h3⟩ | ⟨b, m, cap, cs, h1, h2, h3⟩
    · have := congrArg List.length h1
      rw [ints_length] at this
      exact ⟨_, _, by rw [this]; exact h2⟩
    · obtain rfl := int64_len h3.len
      exact ⟨_, _, h1⟩
  refine GivesX.of (callable_of Try.func179 rfl (by decide)) ?_ fun w hnd hlt hR => ?_
  · simp
  refine acall_of (N := 28) (c := _) (rs := []) (args := [_]) Try.func179 rfl (by decide) rfl rfl (Nat.le_of_ble_eq_true rfl) ?_
  refine Cd.rs [0, 2, 3] fun K hK => ?_
  simp (maxSteps := 2000000) (disch := first | (simp only [E4] <;> omega) | omega | fail) only [↓E2, E3, bare, bareJ, ↓E0, E1, evP, evPlan, env0, envN, evOps, evOp, evQs, evQ, evV, setD, pureOp, ev, upd, updL, gate, binW, eqOp, binV, intOp, shOp, boolOp, unV, convV, nilV, fieldAddrV, indexAddrV, extractV, cellAt, cellsAt, findB, setB, fillL, buildV, Value.cells, lenV, minV, maxV, hav, sliceV, loV, hiV, bslQ, mksQ, appQ, partsOk, partsCells, delB, eqL, SameI, strOp, apzQ, cvtQ, capV, ↓reduceIte, Zj, Zk, Nat.reduceAdd, Nat.reduceLT, Nat.reduceEqDiff, Nat.reduceMul, Nat.reduceLeDiff, if_true, Zn, reduceCtorEq, ZA, eq_self, Int.reduceLE, Int.reduceLT, Int.reduceToNat, ne_eq, Nat.reduceSub, Tslce47]
  repeat refine And.intro (by omega) ?_
  repeat refine And.intro (by omega) ?_
  intro g
  simp only [List.map_cons, List.map_nil, updL, upd, Nat.reduceEqDiff, if_true, if_false, ↓reduceIte]
  refine hK _ _ ?_; clear hK K
  refine Cd.block ?_
  refine Cd.loop (fun n ρ M => ∃ g k iv, k + n = l.length ∧ (2 * k ≤ l.length + 1) ∧ iv = (l.length : Int) - 1 - k ∧ ρ = updL [(0, .slice a l.length cap), (2, .int .i64 (k : Int)), (3, .int .i64 iv)] g ∧ SlN 1 (ints .i64 (rvL l k)) (.slice a l.length cap) M) l.length ⟨_, 0, _, Nat.zero_add _, by omega, by omega, rfl, by rw [rvL_zero]; exact h⟩ ?_
  rintro q ρ M ⟨g, k, iv, hk, hk2, hiv, rfl, hM⟩
  refine Cd.seq ?_
  refine Cd.rs [0, 2, 3, 9] fun K hK => ?_
  simp (maxSteps := 2000000) (disch := first | (simp only [E4] <;> omega) | omega | fail) only [↓E2, E3, bare, bareJ, ↓E0, E1, evP, evPlan, env0, envN, evOps, evOp, evQs, evQ, evV, setD, pureOp, ev, upd, updL, gate, binW, eqOp, binV, intOp, shOp, boolOp, unV, convV, nilV, fieldAddrV, indexAddrV, extractV, cellAt, cellsAt, findB, setB, fillL, buildV, Value.cells, lenV, minV, maxV, hav, sliceV, loV, hiV, bslQ, mksQ, appQ, partsOk, partsCells, delB, eqL, SameI, strOp, apzQ, cvtQ, capV, ↓reduceIte, Zj, Zk, Nat.reduceAdd, Nat.reduceLT, Nat.reduceEqDiff, Nat.reduceMul, Nat.reduceLeDiff, if_true, Zn, reduceCtorEq, ZA, eq_self, Int.reduceLE, Int.reduceLT, Int.reduceToNat, ne_eq, Nat.reduceSub]
  repeat refine And.intro (by omega) ?_
  repeat refine And.intro (by omega) ?_
  intro g
  simp only [List.map_cons, List.map_nil, updL, upd, Nat.reduceEqDiff, if_true, if_false, ↓reduceIte]
  refine hK _ _ ?_; clear hK K
  refine Cd.condd rfl (fun h1 => ?_) (fun h1 => ?_)
  · obtain rfl : iv = ((l.length - 1 - k : Nat) : Int) := by omega
    rcases hM with ⟨e, _, _⟩ | ⟨b, m, cap', cs, e, rfl, hr⟩
    · have := congrArg List.length e
      rw [ints_length, rvL_len] at this
      simp only [List.length_nil] at this
      omega
    cases e
    have g1 := hr.get (ints_get (k := .i64) (l := rvL l k) (i := k) (by rw [rvL_len]; omega))
    have g2 := hr.get (ints_get (k := .i64) (l := rvL l k) (i := l.length - 1 - k) (by rw [rvL_len]; omega))
    rw [rvL_get (by omega), if_neg (by omega)] at g1 g2
    have hr1 := hr.set (j := k) (by omega) (.int .i64 (l.getD (l.length - 1 - k) 0))
    have hr2 := hr1.set (j := l.length - 1 - k) (by omega) (.int .i64 (l.getD k 0))
    rw [ints_set, ints_set, rvL_step (by omega)] at hr2
    have f1 := hr.fits (k := k + 1) (by omega)
    have f2 := hr.fits (k := l.length - 1 - k + 1) (by omega)
    skip
    refine Cd.skip ?_
    refine thenN ?_
    refine Cd.seq ?_
    refine Cd.block ?_
    refine Cd.pr [0, 2, 3] (Plan.take 0 (Plan.take 1 (Plan.take 2 (Plan.take 3 (Plan.take 4 (Plan.take 5 (Plan.take 6 (Plan.take 7 (Plan.take 8 (Plan.take 9 (Plan.take 10 (Plan.take 11 (Plan.take 12 (Plan.one 13 (Plan.take 14 (Plan.one 15 (Plan.done))))))))))))))))) fol (by kernel_rfl) (Nat.le_of_ble_eq_true rfl) fun K hK => ?_
    simp (maxSteps := 2000000) (disch := first | (simp only [E4, g1, g2, f1, f2] <;> omega) | omega | fail) only [↓E2, E3, bare, bareJ, ↓E0, E1, evP, evPlan, env0, envN, evOps, evOp, evQs, evQ, evV, setD, pureOp, ev, upd, updL, gate, binW, eqOp, binV, intOp, shOp, boolOp, unV, convV, nilV, fieldAddrV, indexAddrV, extractV, cellAt, cellsAt, findB, setB, fillL, buildV, Value.cells, lenV, minV, maxV, hav, sliceV, loV, hiV, bslQ, mksQ, appQ, partsOk, partsCells, delB, eqL, SameI, strOp, apzQ, cvtQ, capV, ↓reduceIte, Zj, Zk, Nat.reduceAdd, Nat.reduceLT, Nat.reduceEqDiff, Nat.reduceMul, Nat.reduceLeDiff, if_true, Zn, reduceCtorEq, ZA, eq_self, Int.reduceLE, Int.reduceLT, Int.reduceToNat, ne_eq, Nat.reduceSub, Tld2, Tslc47, Tst2, g1, g2, f1, f2]
    repeat refine And.intro (by omega) ?_
    repeat refine And.intro (by omega) ?_
    intro g
    simp only [List.map_cons, List.map_nil, updL, upd, Nat.reduceEqDiff, if_true, if_false, ↓reduceIte]
    refine hK _ _ ?_; clear hK K
    refine inBN ?_
    refine thenN ?_
    refine Cd.rr [0, 2, 3] fun K hK => ?_
    simp (maxSteps := 2000000) (disch := first | (simp only [E4, g1, g2, f1, f2] <;> omega) | omega | fail) only [↓E2, E3, bare, bareJ, ↓E0, E1, evP, evPlan, env0, envN, evOps, evOp, evQs, evQ, evV, setD, pureOp, ev, upd, updL, gate, binW, eqOp, binV, intOp, shOp, boolOp, unV, convV, nilV, fieldAddrV, indexAddrV, extractV, cellAt, cellsAt, findB, setB, fillL, buildV, Value.cells, lenV, minV, maxV, hav, sliceV, loV, hiV, bslQ, mksQ, appQ, partsOk, partsCells, delB, eqL, SameI, strOp, apzQ, cvtQ, capV, ↓reduceIte, Zj, Zk, Nat.reduceAdd, Nat.reduceLT, Nat.reduceEqDiff, Nat.reduceMul, Nat.reduceLeDiff, if_true, Zn, reduceCtorEq, ZA, eq_self, Int.reduceLE, Int.reduceLT, Int.reduceToNat, ne_eq, Nat.reduceSub, g1, g2, f1, f2]
    repeat refine And.intro (by omega) ?_
    repeat refine And.intro (by omega) ?_
    intro g
    simp only [List.map_cons, List.map_nil, updL, upd, Nat.reduceEqDiff, if_true, if_false, ↓reduceIte]
    refine hK _ _ ?_; clear hK K
    exact roundN (m := q - 1) (by omega) ⟨_, k + 1, _, by omega, by omega, by omega, rfl, SlN.row hr2⟩
  · refine Cd.exit (thenX (roundX (inBX ?_)))
    rw [rvL_end (by omega)] at hM
    exact ⟨[], rfl, hM⟩
theorem mirror_c (low : Int) (l : List Int) (R : Rd) (v : Value) (h : RdL R low l v) (hok : lauOk low l = true) : GivesX Try.prog 128 #[v] [] R (LauV (mirLow low l) l.reverse) := by
  have q1 := lauOk_low hok
  have q2 := lauOk_len hok
  have q4 := lauOk_high hok
  obtain ⟨a, cap, rfl, hsl⟩ := h.form
  refine GivesX.part ?_
  refine GivesX.of (callable_of Try.func128 rfl (by decide)) ?_ fun w hnd hlt hR => ?_
  · simp
  refine acall_of (N := 17) (c := _) (rs := [.cell 2 56]) (args := [_]) Try.func128 rfl (by decide) rfl rfl (Nat.le_of_ble_eq_true rfl) ?_
  have hR : W8.Told [] w R := hR
  refine Cd.rs [1, 2] fun K hK => ?_
  simp (maxSteps := 2000000) (disch := first | (simp only [E4] <;> omega) | omega | fail) only [↓E2, E3, bare, bareJ, ↓E0, E1, evP, evPlan, env0, envN, evOps, evOp, evQs, evQ, evV, setD, pureOp, ev, upd, updL, gate, binW, eqOp, binV, intOp, shOp, boolOp, unV, convV, nilV, fieldAddrV, indexAddrV, extractV, cellAt, cellsAt, findB, setB, fillL, buildV, Value.cells, lenV, minV, maxV, hav, sliceV, loV, hiV, bslQ, mksQ, appQ, partsOk, partsCells, delB, eqL, SameI, strOp, apzQ, cvtQ, capV, ↓reduceIte, Zj, Zk, Nat.reduceAdd, Nat.reduceLT, Nat.reduceEqDiff, Nat.reduceMul, Nat.reduceLeDiff, if_true, Zn, reduceCtorEq, ZA, eq_self, Int.reduceLE, Int.reduceLT, Int.reduceToNat, ne_eq, Nat.reduceSub, Tzero56]
  repeat refine And.intro (by omega) ?_
  intro b1 hb1
  intro b2 hb2
  have nb2_b1 := hb2.ne
  try simp (maxSteps := 2000000) (disch := first | (simp only [E4, nb2_b1] <;> omega) | omega | fail) only [↓E2, E3, bare, bareJ, ↓E0, E1, evP, evPlan, env0, envN, evOps, evOp, evQs, evQ, evV, setD, pureOp, ev, upd, updL, gate, binW, eqOp, binV, intOp, shOp, boolOp, unV, convV, nilV, fieldAddrV, indexAddrV, extractV, cellAt, cellsAt, findB, setB, fillL, buildV, Value.cells, lenV, minV, maxV, hav, sliceV, loV, hiV, bslQ, mksQ, appQ, partsOk, partsCells, delB, eqL, SameI, strOp, apzQ, cvtQ, capV, ↓reduceIte, Zj, Zk, Nat.reduceAdd, Nat.reduceLT, Nat.reduceEqDiff, Nat.reduceMul, Nat.reduceLeDiff, if_true, Zn, reduceCtorEq, ZA, eq_self, Int.reduceLE, Int.reduceLT, Int.reduceToNat, ne_eq, Nat.reduceSub, Tzero56, nb2_b1]
  repeat refine And.intro (by omega) ?_
  repeat refine And.intro (by omega) ?_
  intro g
  simp only [List.map_cons, List.map_nil, updL, upd, Nat.reduceEqDiff, if_true, if_false, ↓reduceIte]
  refine hK _ _ ?_; clear hK K
  refine Cd.seq ?_
  refine Cd.rs [1, 2, 5] fun K hK => ?_
  simp (maxSteps := 2000000) (disch := first | (simp only [E4, nb2_b1] <;> omega) | omega | fail) only [↓E2, E3, bare, bareJ, ↓E0, E1, evP, evPlan, env0, envN, evOps, evOp, evQs, evQ, evV, setD, pureOp, ev, upd, updL, gate, binW, eqOp, binV, intOp, shOp, boolOp, unV, convV, nilV, fieldAddrV, indexAddrV, extractV, cellAt, cellsAt, findB, setB, fillL, buildV, Value.cells, lenV, minV, maxV, hav, sliceV, loV, hiV, bslQ, mksQ, appQ, partsOk, partsCells, delB, eqL, SameI, strOp, apzQ, cvtQ, capV, ↓reduceIte, Zj, Zk, Nat.reduceAdd, Nat.reduceLT, Nat.reduceEqDiff, Nat.reduceMul, Nat.reduceLeDiff, if_true, Zn, reduceCtorEq, ZA, eq_self, Int.reduceLE, Int.reduceLT, Int.reduceToNat, ne_eq, Nat.reduceSub, Tld56, nb2_b1]
  repeat refine And.intro (by omega) ?_
  refine callK_gives (isZero_c low l a cap) ?_
  simp (maxSteps := 2000000) (disch := first | (simp only [E4, nb2_b1] <;> omega) | omega | fail) only [↓E2, E3, bare, bareJ, ↓E0, E1, evP, evPlan, env0, envN, evOps, evOp, evQs, evQ, evV, setD, pureOp, ev, upd, updL, gate, binW, eqOp, binV, intOp, shOp, boolOp, unV, convV, nilV, fieldAddrV, indexAddrV, extractV, cellAt, cellsAt, findB, setB, fillL, buildV, Value.cells, lenV, minV, maxV, hav, sliceV, loV, hiV, bslQ, mksQ, appQ, partsOk, partsCells, delB, eqL, SameI, strOp, apzQ, cvtQ, capV, ↓reduceIte, Zj, Zk, Nat.reduceAdd, Nat.reduceLT, Nat.reduceEqDiff, Nat.reduceMul, Nat.reduceLeDiff, if_true, Zn, reduceCtorEq, ZA, eq_self, Int.reduceLE, Int.reduceLT, Int.reduceToNat, ne_eq, Nat.reduceSub, Tld56, nb2_b1]
  repeat refine And.intro (by omega) ?_
  repeat refine And.intro (by omega) ?_
  intro g
  simp only [List.map_cons, List.map_nil, updL, upd, Nat.reduceEqDiff, if_true, if_false, ↓reduceIte]
  refine hK _ _ ?_; clear hK K
  refine Cd.cond rfl (fun h1 => ?_) (fun h1 => ?_)
  · have h0 : l.length = 0 := by simpa using h1
    have e := List.eq_nil_of_length_eq_zero h0
    subst e
    refine Cd.rs [2] fun K hK => ?_
    simp (maxSteps := 2000000) (disch := first | (simp only [E4, nb2_b1] <;> omega) | omega | fail) only [↓E2, E3, bare, bareJ, ↓E0, E1, evP, evPlan, env0, envN, evOps, evOp, evQs, evQ, evV, setD, pureOp, ev, upd, updL, gate, binW, eqOp, binV, intOp, shOp, boolOp, unV, convV, nilV, fieldAddrV, indexAddrV, extractV, cellAt, cellsAt, findB, setB, fillL, buildV, Value.cells, lenV, minV, maxV, hav, sliceV, loV, hiV, bslQ, mksQ, appQ, partsOk, partsCells, delB, eqL, SameI, strOp, apzQ, cvtQ, capV, ↓reduceIte, Zj, Zk, Nat.reduceAdd, Nat.reduceLT, Nat.reduceEqDiff, Nat.reduceMul, Nat.reduceLeDiff, if_true, Zn, reduceCtorEq, ZA, eq_self, Int.reduceLE, Int.reduceLT, Int.reduceToNat, ne_eq, Nat.reduceSub, Tbld56, Tst56, nb2_b1]
    repeat refine And.intro (by omega) ?_
    repeat refine And.intro (by omega) ?_
    intro g
    simp only [List.map_cons, List.map_nil, updL, upd, Nat.reduceEqDiff, if_true, if_false, ↓reduceIte]
    refine hK _ _ ?_; clear hK K
    refine Cd.ret (thenR ?_)
    simp (maxSteps := 2000000) (disch := first | (simp only [E4, nb2_b1] <;> omega) | omega | fail) only [↓E2, E3, bare, bareJ, ↓E0, E1, evP, evPlan, env0, envN, evOps, evOp, evQs, evQ, evV, setD, pureOp, ev, upd, updL, gate, binW, eqOp, binV, intOp, shOp, boolOp, unV, convV, nilV, fieldAddrV, indexAddrV, extractV, cellAt, cellsAt, findB, setB, fillL, buildV, Value.cells, lenV, minV, maxV, hav, sliceV, loV, hiV, bslQ, mksQ, appQ, partsOk, partsCells, delB, eqL, SameI, strOp, apzQ, cvtQ, capV, ↓reduceIte, Zj, Zk, Nat.reduceAdd, Nat.reduceLT, Nat.reduceEqDiff, Nat.reduceMul, Nat.reduceLeDiff, if_true, Zn, reduceCtorEq, ZA, eq_self, Int.reduceLE, Int.reduceLT, Int.reduceToNat, ne_eq, Nat.reduceSub, Tld56, nb2_b1]
    repeat refine And.intro (by omega) ?_
    exact ⟨[], SubP.of (List.nil_sublist _), _, rfl, SlN.nil 1⟩
  · have h0 : l.length ≠ 0 := by
      intro e
      rw [e] at h1
      cases h1
    obtain ⟨R', hR', hO⟩ := hsl.toO [] w hR
    refine Cd.skip ?_
    refine thenN ?_
    refine Cd.rs [1, 2, 3] fun K hK => ?_
    simp (maxSteps := 2000000) (disch := first | (simp only [E4, nb2_b1] <;> omega) | omega | fail) only [↓E2, E3, bare, bareJ, ↓E0, E1, evP, evPlan, env0, envN, evOps, evOp, evQs, evQ, evV, setD, pureOp, ev, upd, updL, gate, binW, eqOp, binV, intOp, shOp, boolOp, unV, convV, nilV, fieldAddrV, indexAddrV, extractV, cellAt, cellsAt, findB, setB, fillL, buildV, Value.cells, lenV, minV, maxV, hav, sliceV, loV, hiV, bslQ, mksQ, appQ, partsOk, partsCells, delB, eqL, SameI, strOp, apzQ, cvtQ, capV, ↓reduceIte, Zj, Zk, Nat.reduceAdd, Nat.reduceLT, Nat.reduceEqDiff, Nat.reduceMul, Nat.reduceLeDiff, if_true, Zn, reduceCtorEq, ZA, eq_self, Int.reduceLE, Int.reduceLT, Int.reduceToNat, ne_eq, Nat.reduceSub, Tfld56_1, Tld47, nb2_b1]
    repeat refine And.intro (by omega) ?_
    refine callK_newR0 (Clone_c l _ _ hO (by omega)) (Told.toldW hR') ?_
    intro v2 M2 hs2 nd2 _
    obtain ⟨a2, m2, c2, rfl⟩ := hs2.form
    simp only [List.cons_append, List.nil_append] at nd2 ⊢
    simp (maxSteps := 2000000) (disch := first | (simp only [E4, nb2_b1] <;> omega) | omega | fail) only [↓E2, E3, bare, bareJ, ↓E0, E1, evP, evPlan, env0, envN, evOps, evOp, evQs, evQ, evV, setD, pureOp, ev, upd, updL, gate, binW, eqOp, binV, intOp, shOp, boolOp, unV, convV, nilV, fieldAddrV, indexAddrV, extractV, cellAt, cellsAt, findB, setB, fillL, buildV, Value.cells, lenV, minV, maxV, hav, sliceV, loV, hiV, bslQ, mksQ, appQ, partsOk, partsCells, delB, eqL, SameI, strOp, apzQ, cvtQ, capV, ↓reduceIte, Zj, Zk, Nat.reduceAdd, Nat.reduceLT, Nat.reduceEqDiff, Nat.reduceMul, Nat.reduceLeDiff, if_true, Zn, reduceCtorEq, ZA, eq_self, Int.reduceLE, Int.reduceLT, Int.reduceToNat, ne_eq, Nat.reduceSub, Tfld56_1, Tld47, nb2_b1]
    repeat refine And.intro (by omega) ?_
    repeat refine And.intro (by omega) ?_
    intro g
    simp only [List.map_cons, List.map_nil, updL, upd, Nat.reduceEqDiff, if_true, if_false, ↓reduceIte]
    refine hK _ _ ?_; clear hK K
    refine Cd.rs [1, 2, 3] fun K hK => ?_
    simp (maxSteps := 2000000) (disch := first | (simp only [E4, nb2_b1] <;> omega) | omega | fail) only [↓E2, E3, bare, bareJ, ↓E0, E1, evP, evPlan, env0, envN, evOps, evOp, evQs, evQ, evV, setD, pureOp, ev, upd, updL, gate, binW, eqOp, binV, intOp, shOp, boolOp, unV, convV, nilV, fieldAddrV, indexAddrV, extractV, cellAt, cellsAt, findB, setB, fillL, buildV, Value.cells, lenV, minV, maxV, hav, sliceV, loV, hiV, bslQ, mksQ, appQ, partsOk, partsCells, delB, eqL, SameI, strOp, apzQ, cvtQ, capV, ↓reduceIte, Zj, Zk, Nat.reduceAdd, Nat.reduceLT, Nat.reduceEqDiff, Nat.reduceMul, Nat.reduceLeDiff, if_true, Zn, reduceCtorEq, ZA, eq_self, Int.reduceLE, Int.reduceLT, Int.reduceToNat, ne_eq, Nat.reduceSub, nb2_b1]
    repeat refine And.intro (by omega) ?_
    refine callK_lentB0 (Mr := [(b2, [.int .i64 0, .slice none 0 0]), (b1, [.int .i64 low, .slice a l.length cap])]) (L := M2) (Reverse_c l _ M2 hs2 (by omega)) nd2 rfl (fun w _ => toldW_nil) ?_
    intro r M3 hs3 nd3 _
    simp only [List.cons_append, List.nil_append] at nd3 ⊢
    simp (maxSteps := 2000000) (disch := first | (simp only [E4, nb2_b1] <;> omega) | omega | fail) only [↓E2, E3, bare, bareJ, ↓E0, E1, evP, evPlan, env0, envN, evOps, evOp, evQs, evQ, evV, setD, pureOp, ev, upd, updL, gate, binW, eqOp, binV, intOp, shOp, boolOp, unV, convV, nilV, fieldAddrV, indexAddrV, extractV, cellAt, cellsAt, findB, setB, fillL, buildV, Value.cells, lenV, minV, maxV, hav, sliceV, loV, hiV, bslQ, mksQ, appQ, partsOk, partsCells, delB, eqL, SameI, strOp, apzQ, cvtQ, capV, ↓reduceIte, Zj, Zk, Nat.reduceAdd, Nat.reduceLT, Nat.reduceEqDiff, Nat.reduceMul, Nat.reduceLeDiff, if_true, Zn, reduceCtorEq, ZA, eq_self, Int.reduceLE, Int.reduceLT, Int.reduceToNat, ne_eq, Nat.reduceSub, nb2_b1]
    repeat refine And.intro (by omega) ?_
    repeat refine And.intro (by omega) ?_
    intro g
    simp only [List.map_cons, List.map_nil, updL, upd, Nat.reduceEqDiff, if_true, if_false, ↓reduceIte]
    refine hK _ _ ?_; clear hK K
    refine Cd.rs [2] fun K hK => ?_
    simp (maxSteps := 2000000) (disch := first | (simp only [E4, nb2_b1] <;> omega) | omega | fail) only [↓E2, E3, bare, bareJ, ↓E0, E1, evP, evPlan, env0, envN, evOps, evOp, evQs, evQ, evV, setD, pureOp, ev, upd, updL, gate, binW, eqOp, binV, intOp, shOp, boolOp, unV, convV, nilV, fieldAddrV, indexAddrV, extractV, cellAt, cellsAt, findB, setB, fillL, buildV, Value.cells, lenV, minV, maxV, hav, sliceV, loV, hiV, bslQ, mksQ, appQ, partsOk, partsCells, delB, eqL, SameI, strOp, apzQ, cvtQ, capV, ↓reduceIte, Zj, Zk, Nat.reduceAdd, Nat.reduceLT, Nat.reduceEqDiff, Nat.reduceMul, Nat.reduceLeDiff, if_true, Zn, reduceCtorEq, ZA, eq_self, Int.reduceLE, Int.reduceLT, Int.reduceToNat, ne_eq, Nat.reduceSub, Tbld56, Tld56, Tst56, nb2_b1]
    repeat refine And.intro (by omega) ?_
    refine callK_gives (high_c low l a cap (by omega) (by omega)) ?_
    simp (maxSteps := 2000000) (disch := first | (simp only [E4, nb2_b1] <;> omega) | omega | fail) only [↓E2, E3, bare, bareJ, ↓E0, E1, evP, evPlan, env0, envN, evOps, evOp, evQs, evQ, evV, setD, pureOp, ev, upd, updL, gate, binW, eqOp, binV, intOp, shOp, boolOp, unV, convV, nilV, fieldAddrV, indexAddrV, extractV, cellAt, cellsAt, findB, setB, fillL, buildV, Value.cells, lenV, minV, maxV, hav, sliceV, loV, hiV, bslQ, mksQ, appQ, partsOk, partsCells, delB, eqL, SameI, strOp, apzQ, cvtQ, capV, ↓reduceIte, Zj, Zk, Nat.reduceAdd, Nat.reduceLT, Nat.reduceEqDiff, Nat.reduceMul, Nat.reduceLeDiff, if_true, Zn, reduceCtorEq, ZA, eq_self, Int.reduceLE, Int.reduceLT, Int.reduceToNat, ne_eq, Nat.reduceSub, Tbld56, Tld56, Tst56, nb2_b1]
    repeat refine And.intro (by omega) ?_
    repeat refine And.intro (by omega) ?_
    intro g
    simp only [List.map_cons, List.map_nil, updL, upd, Nat.reduceEqDiff, if_true, if_false, ↓reduceIte]
    refine hK _ _ ?_; clear hK K
    refine Cd.ret ?_
    simp (maxSteps := 2000000) (disch := first | (simp only [E4, nb2_b1] <;> omega) | omega | fail) only [↓E2, E3, bare, bareJ, ↓E0, E1, evP, evPlan, env0, envN, evOps, evOp, evQs, evQ, evV, setD, pureOp, ev, upd, updL, gate, binW, eqOp, binV, intOp, shOp, boolOp, unV, convV, nilV, fieldAddrV, indexAddrV, extractV, cellAt, cellsAt, findB, setB, fillL, buildV, Value.cells, lenV, minV, maxV, hav, sliceV, loV, hiV, bslQ, mksQ, appQ, partsOk, partsCells, delB, eqL, SameI, strOp, apzQ, cvtQ, capV, ↓reduceIte, Zj, Zk, Nat.reduceAdd, Nat.reduceLT, Nat.reduceEqDiff, Nat.reduceMul, Nat.reduceLeDiff, if_true, Zn, reduceCtorEq, ZA, eq_self, Int.reduceLE, Int.reduceLT, Int.reduceToNat, ne_eq, Nat.reduceSub, Tld56, nb2_b1]
    repeat refine And.intro (by omega) ?_
    refine ⟨M3, SubP.of (List.Sublist.cons _ (List.Sublist.cons _ (List.Sublist.refl _))), _, ?_, hs3⟩
    unfold mirLow
    rw [if_neg h0]
    simp only [Value.agg.injEq, Array.mk.injEq, List.cons.injEq, Value.int.injEq, true_and, and_true]
    omega

end Go.Proofs

/-
  What the functions of this part hand back: each as a plain function of its arguments. Conditions: none.
-/
namespace Go.Proofs
open Go.W8
set_option linter.unusedVariables false
set_option linter.unusedSimpArgs false
set_option linter.unusedSectionVars false
set_option maxRecDepth 8000
set_option maxHeartbeats 4000000
theorem Equal_c (l1 l2 : List Int) (R : Rd) (v1 v2 : Value) (h1 : RdS R 1 (ints .i64 l1) v1) (h2 : RdS R 1 (ints .i64 l2) v2) (b1 : l1.length ≤ 100000000) (b2 : l2.length ≤ 100000000) :
    GivesR Try.prog 127 #[v1, v2] R (.bool (decide (l1 = l2))) := by
  obtain ⟨a, m1, cap, rfl, hm1, _⟩ := id h1
  obtain rfl := lauLen hm1
  obtain ⟨a', m2, cap', rfl, hm2, _⟩ := id h2
  obtain rfl := lauLen hm2
  refine GivesR.of (callable_of Try.func127 rfl (by decide)) fun w hR => ?_
  refine acall_of (N := 26) (c := _) (rs := [.tmp 4]) (args := [_, _]) Try.func127 rfl (by decide) rfl rfl (Nat.le_of_ble_eq_true rfl) ?_
  refine Cd.rs [0, 1] fun K hK => ?_
  simp (maxSteps := 2000000) (disch := first | (simp only [E4] <;> omega) | omega | fail) only [↓E2, E3, bare, bareJ, ↓E0, E1, evP, evPlan, env0, envN, evOps, evOp, evQs, evQ, evV, setD, pureOp, ev, upd, updL, gate, binW, eqOp, binV, intOp, shOp, boolOp, unV, convV, nilV, fieldAddrV, indexAddrV, extractV, cellAt, cellsAt, findB, setB, fillL, buildV, Value.cells, lenV, minV, maxV, hav, sliceV, loV, hiV, bslQ, mksQ, appQ, partsOk, partsCells, delB, eqL, SameI, strOp, apzQ, cvtQ, capV, ↓reduceIte, Zj, Zk, Nat.reduceAdd, Nat.reduceLT, Nat.reduceEqDiff, Nat.reduceMul, Nat.reduceLeDiff, if_true, Zn, reduceCtorEq, ZA, eq_self, Int.reduceLE, Int.reduceLT, Int.reduceToNat, ne_eq, Nat.reduceSub]
  repeat refine And.intro (by omega) ?_
  repeat refine And.intro (by omega) ?_
  intro g
  simp only [List.map_cons, List.map_nil, updL, upd, Nat.reduceEqDiff, if_true, if_false, ↓reduceIte]
  refine hK _ _ ?_; clear hK K
  refine Cd.seq ?_
  refine Cd.rs [0, 1, 10] fun K hK => ?_
  simp (maxSteps := 2000000) (disch := first | (simp only [E4] <;> omega) | omega | fail) only [↓E2, E3, bare, bareJ, ↓E0, E1, evP, evPlan, env0, envN, evOps, evOp, evQs, evQ, evV, setD, pureOp, ev, upd, updL, gate, binW, eqOp, binV, intOp, shOp, boolOp, unV, convV, nilV, fieldAddrV, indexAddrV, extractV, cellAt, cellsAt, findB, setB, fillL, buildV, Value.cells, lenV, minV, maxV, hav, sliceV, loV, hiV, bslQ, mksQ, appQ, partsOk, partsCells, delB, eqL, SameI, strOp, apzQ, cvtQ, capV, ↓reduceIte, Zj, Zk, Nat.reduceAdd, Nat.reduceLT, Nat.reduceEqDiff, Nat.reduceMul, Nat.reduceLeDiff, if_true, Zn, reduceCtorEq, ZA, eq_self, Int.reduceLE, Int.reduceLT, Int.reduceToNat, ne_eq, Nat.reduceSub, Tslce47]
  repeat refine And.intro (by omega) ?_
  repeat refine And.intro (by omega) ?_
  intro g
  simp only [List.map_cons, List.map_nil, updL, upd, Nat.reduceEqDiff, if_true, if_false, ↓reduceIte]
  refine hK _ _ ?_; clear hK K
  refine Cd.cond rfl (fun c1 => ?_) (fun c1 => ?_)
  · simp only [decide_eq_true_eq, decide_eq_false_iff_not, beq_iff_eq, beq_eq_false_iff_ne, bne_iff_ne, bne_eq_false_iff_eq, Bool.and_eq_true, Bool.or_eq_true, Bool.or_eq_false_iff, Bool.not_eq_true', Bool.not_eq_false', Bool.and_eq_false_imp, ne_eq, gt_iff_lt, ge_iff_le, Int.not_lt, Int.not_le, Classical.not_not] at c1
    refine Cd.rs [4] fun K hK => ?_
    simp (maxSteps := 2000000) (disch := first | (simp only [E4] <;> omega) | omega | fail) only [↓E2, E3, bare, bareJ, ↓E0, E1, evP, evPlan, env0, envN, evOps, evOp, evQs, evQ, evV, setD, pureOp, ev, upd, updL, gate, binW, eqOp, binV, intOp, shOp, boolOp, unV, convV, nilV, fieldAddrV, indexAddrV, extractV, cellAt, cellsAt, findB, setB, fillL, buildV, Value.cells, lenV, minV, maxV, hav, sliceV, loV, hiV, bslQ, mksQ, appQ, partsOk, partsCells, delB, eqL, SameI, strOp, apzQ, cvtQ, capV, ↓reduceIte, Zj, Zk, Nat.reduceAdd, Nat.reduceLT, Nat.reduceEqDiff, Nat.reduceMul, Nat.reduceLeDiff, if_true, Zn, reduceCtorEq, ZA, eq_self, Int.reduceLE, Int.reduceLT, Int.reduceToNat, ne_eq, Nat.reduceSub]
    repeat refine And.intro (by omega) ?_
    repeat refine And.intro (by omega) ?_
    intro g
    simp only [List.map_cons, List.map_nil, updL, upd, Nat.reduceEqDiff, if_true, if_false, ↓reduceIte]
    refine hK _ _ ?_; clear hK K
    refine Cd.ret (thenR ?_)
    simp (maxSteps := 2000000) (disch := first | (simp only [E4] <;> omega) | omega | fail) only [↓E2, E3, bare, bareJ, ↓E0, E1, evP, evPlan, env0, envN, evOps, evOp, evQs, evQ, evV, setD, pureOp, ev, upd, updL, gate, binW, eqOp, binV, intOp, shOp, boolOp, unV, convV, nilV, fieldAddrV, indexAddrV, extractV, cellAt, cellsAt, findB, setB, fillL, buildV, Value.cells, lenV, minV, maxV, hav, sliceV, loV, hiV, bslQ, mksQ, appQ, partsOk, partsCells, delB, eqL, SameI, strOp, apzQ, cvtQ, capV, ↓reduceIte, Zj, Zk, Nat.reduceAdd, Nat.reduceLT, Nat.reduceEqDiff, Nat.reduceMul, Nat.reduceLeDiff, if_true, Zn, reduceCtorEq, ZA, eq_self, Int.reduceLE, Int.reduceLT, Int.reduceToNat, ne_eq, Nat.reduceSub]
    repeat refine And.intro (by omega) ?_
    rw [decide_eq_false]
    intro e
    rw [e] at c1
    exact c1 rfl
  · simp only [decide_eq_true_eq, decide_eq_false_iff_not, beq_iff_eq, beq_eq_false_iff_ne, bne_iff_ne, bne_eq_false_iff_eq, Bool.and_eq_true, Bool.or_eq_true, Bool.or_eq_false_iff, Bool.not_eq_true', Bool.not_eq_false', Bool.and_eq_false_imp, ne_eq, gt_iff_lt, ge_iff_le, Int.not_lt, Int.not_le, Classical.not_not] at c1
    have hlen : l1.length = l2.length := by omega
    refine Cd.skip ?_
    refine thenN ?_
    refine Cd.seq ?_
    refine Cd.rs [0, 1, 12, 13] fun K hK => ?_
    simp (maxSteps := 2000000) (disch := first | (simp only [E4] <;> omega) | omega | fail) only [↓E2, E3, bare, bareJ, ↓E0, E1, evP, evPlan, env0, envN, evOps, evOp, evQs, evQ, evV, setD, pureOp, ev, upd, updL, gate, binW, eqOp, binV, intOp, shOp, boolOp, unV, convV, nilV, fieldAddrV, indexAddrV, extractV, cellAt, cellsAt, findB, setB, fillL, buildV, Value.cells, lenV, minV, maxV, hav, sliceV, loV, hiV, bslQ, mksQ, appQ, partsOk, partsCells, delB, eqL, SameI, strOp, apzQ, cvtQ, capV, ↓reduceIte, Zj, Zk, Nat.reduceAdd, Nat.reduceLT, Nat.reduceEqDiff, Nat.reduceMul, Nat.reduceLeDiff, if_true, Zn, reduceCtorEq, ZA, eq_self, Int.reduceLE, Int.reduceLT, Int.reduceToNat, ne_eq, Nat.reduceSub, Tslce47]
    repeat refine And.intro (by omega) ?_
    repeat refine And.intro (by omega) ?_
    intro g
    simp only [List.map_cons, List.map_nil, updL, upd, Nat.reduceEqDiff, if_true, if_false, ↓reduceIte]
    refine hK _ _ ?_; clear hK K
    refine Cd.block ?_
    refine Cd.loop (fun n ρ M => ∃ g k, k + n = l1.length ∧ (∀ j, j < k → l1.getD j 0 = l2.getD j 0) ∧ ρ = updL [(0, .slice a l1.length cap), (1, .slice a' l2.length cap'), (12, .int .i64 (l1.length : Int)), (13, .int .i64 (k : Int))] g ∧ M = []) l1.length ⟨_, 0, Nat.zero_add _, fun j hj => absurd hj (Nat.not_lt_zero _), rfl, rfl⟩ ?_
    rintro n ρ M ⟨g, k, hk, hall, rfl, rfl⟩
    refine Cd.rs [0, 1, 12, 13, 14] fun K hK => ?_
    simp (maxSteps := 2000000) (disch := first | (simp only [E4] <;> omega) | omega | fail) only [↓E2, E3, bare, bareJ, ↓E0, E1, evP, evPlan, env0, envN, evOps, evOp, evQs, evQ, evV, setD, pureOp, ev, upd, updL, gate, binW, eqOp, binV, intOp, shOp, boolOp, unV, convV, nilV, fieldAddrV, indexAddrV, extractV, cellAt, cellsAt, findB, setB, fillL, buildV, Value.cells, lenV, minV, maxV, hav, sliceV, loV, hiV, bslQ, mksQ, appQ, partsOk, partsCells, delB, eqL, SameI, strOp, apzQ, cvtQ, capV, ↓reduceIte, Zj, Zk, Nat.reduceAdd, Nat.reduceLT, Nat.reduceEqDiff, Nat.reduceMul, Nat.reduceLeDiff, if_true, Zn, reduceCtorEq, ZA, eq_self, Int.reduceLE, Int.reduceLT, Int.reduceToNat, ne_eq, Nat.reduceSub]
    repeat refine And.intro (by omega) ?_
    repeat refine And.intro (by omega) ?_
    intro g
    simp only [List.map_cons, List.map_nil, updL, upd, Nat.reduceEqDiff, if_true, if_false, ↓reduceIte]
    refine hK _ _ ?_; clear hK K
    refine Cd.seq ?_
    refine Cd.condd rfl (fun c2 => ?_) (fun c2 => ?_)
    · obtain ⟨b, rfl, g1⟩ := rd_int h1 hR (k := k) (by omega)
      obtain ⟨b', rfl, g2⟩ := rd_int h2 hR (k := k) (by omega)
      refine Cd.skip ?_
      refine thenN ?_
      refine Cd.seq ?_
      refine Cd.block ?_
      refine Cd.rs [0, 1, 5, 12, 13] fun K hK => ?_
      simp (maxSteps := 2000000) (disch := first | (simp only [E4] <;> omega) | omega | fail) only [↓E2, E3, bare, bareJ, ↓E0, E1, evP, evPlan, env0, envN, evOps, evOp, evQs, evQ, evV, setD, pureOp, ev, upd, updL, gate, binW, eqOp, binV, intOp, shOp, boolOp, unV, convV, nilV, fieldAddrV, indexAddrV, extractV, cellAt, cellsAt, findB, setB, fillL, buildV, Value.cells, lenV, minV, maxV, hav, sliceV, loV, hiV, bslQ, mksQ, appQ, partsOk, partsCells, delB, eqL, SameI, strOp, apzQ, cvtQ, capV, ↓reduceIte, Zj, Zk, Nat.reduceAdd, Nat.reduceLT, Nat.reduceEqDiff, Nat.reduceMul, Nat.reduceLeDiff, if_true, Zn, reduceCtorEq, ZA, eq_self, Int.reduceLE, Int.reduceLT, Int.reduceToNat, ne_eq, Nat.reduceSub]
      repeat refine And.intro (by omega) ?_
      repeat refine And.intro (by omega) ?_
      intro g
      simp only [List.map_cons, List.map_nil, updL, upd, Nat.reduceEqDiff, if_true, if_false, ↓reduceIte]
      refine hK _ _ ?_; clear hK K
      skip
      refine Cd.qs [0, 1, 12, 13, 24] fol (by kernel_rfl) fun K hK => ?_
      simp (maxSteps := 2000000) (disch := first | (simp only [E4, g1, g2] <;> omega) | omega | fail) only [↓E2, E3, bare, bareJ, ↓E0, E1, evP, evPlan, env0, envN, evOps, evOp, evQs, evQ, evV, setD, pureOp, ev, upd, updL, gate, binW, eqOp, binV, intOp, shOp, boolOp, unV, convV, nilV, fieldAddrV, indexAddrV, extractV, cellAt, cellsAt, findB, setB, fillL, buildV, Value.cells, lenV, minV, maxV, hav, sliceV, loV, hiV, bslQ, mksQ, appQ, partsOk, partsCells, delB, eqL, SameI, strOp, apzQ, cvtQ, capV, ↓reduceIte, Zj, Zk, Nat.reduceAdd, Nat.reduceLT, Nat.reduceEqDiff, Nat.reduceMul, Nat.reduceLeDiff, if_true, Zn, reduceCtorEq, ZA, eq_self, Int.reduceLE, Int.reduceLT, Int.reduceToNat, ne_eq, Nat.reduceSub, Tld2, Tslc47, g1, g2]
      repeat refine And.intro (by omega) ?_
      repeat refine And.intro (by omega) ?_
      intro g
      simp only [List.map_cons, List.map_nil, updL, upd, Nat.reduceEqDiff, if_true, if_false, ↓reduceIte]
      refine hK _ ?_; clear hK K
      refine Cd.cond rfl (fun c3 => ?_) (fun c3 => ?_)
      · simp only [decide_eq_true_eq, decide_eq_false_iff_not, beq_iff_eq, beq_eq_false_iff_ne, bne_iff_ne, bne_eq_false_iff_eq, Bool.and_eq_true, Bool.or_eq_true, Bool.or_eq_false_iff, Bool.not_eq_true', Bool.not_eq_false', Bool.and_eq_false_imp, ne_eq, gt_iff_lt, ge_iff_le, Int.not_lt, Int.not_le, Classical.not_not] at c3
        refine Cd.rs [4] fun K hK => ?_
        simp (maxSteps := 2000000) (disch := first | (simp only [E4, g1, g2] <;> omega) | omega | fail) only [↓E2, E3, bare, bareJ, ↓E0, E1, evP, evPlan, env0, envN, evOps, evOp, evQs, evQ, evV, setD, pureOp, ev, upd, updL, gate, binW, eqOp, binV, intOp, shOp, boolOp, unV, convV, nilV, fieldAddrV, indexAddrV, extractV, cellAt, cellsAt, findB, setB, fillL, buildV, Value.cells, lenV, minV, maxV, hav, sliceV, loV, hiV, bslQ, mksQ, appQ, partsOk, partsCells, delB, eqL, SameI, strOp, apzQ, cvtQ, capV, ↓reduceIte, Zj, Zk, Nat.reduceAdd, Nat.reduceLT, Nat.reduceEqDiff, Nat.reduceMul, Nat.reduceLeDiff, if_true, Zn, reduceCtorEq, ZA, eq_self, Int.reduceLE, Int.reduceLT, Int.reduceToNat, ne_eq, Nat.reduceSub, g1, g2]
        repeat refine And.intro (by omega) ?_
        repeat refine And.intro (by omega) ?_
        intro g
        simp only [List.map_cons, List.map_nil, updL, upd, Nat.reduceEqDiff, if_true, if_false, ↓reduceIte]
        refine hK _ _ ?_; clear hK K
        refine Cd.ret (inBR (thenR (roundR (inBR (thenR ?_)))))
        simp (maxSteps := 2000000) (disch := first | (simp only [E4, g1, g2] <;> omega) | omega | fail) only [↓E2, E3, bare, bareJ, ↓E0, E1, evP, evPlan, env0, envN, evOps, evOp, evQs, evQ, evV, setD, pureOp, ev, upd, updL, gate, binW, eqOp, binV, intOp, shOp, boolOp, unV, convV, nilV, fieldAddrV, indexAddrV, extractV, cellAt, cellsAt, findB, setB, fillL, buildV, Value.cells, lenV, minV, maxV, hav, sliceV, loV, hiV, bslQ, mksQ, appQ, partsOk, partsCells, delB, eqL, SameI, strOp, apzQ, cvtQ, capV, ↓reduceIte, Zj, Zk, Nat.reduceAdd, Nat.reduceLT, Nat.reduceEqDiff, Nat.reduceMul, Nat.reduceLeDiff, if_true, Zn, reduceCtorEq, ZA, eq_self, Int.reduceLE, Int.reduceLT, Int.reduceToNat, ne_eq, Nat.reduceSub, g1, g2]
        repeat refine And.intro (by omega) ?_
        rw [decide_eq_false]
        intro e
        rw [e] at c3
        exact c3 rfl
      · simp only [decide_eq_true_eq, decide_eq_false_iff_not, beq_iff_eq, beq_eq_false_iff_ne, bne_iff_ne, bne_eq_false_iff_eq, Bool.and_eq_true, Bool.or_eq_true, Bool.or_eq_false_iff, Bool.not_eq_true', Bool.not_eq_false', Bool.and_eq_false_imp, ne_eq, gt_iff_lt, ge_iff_le, Int.not_lt, Int.not_le, Classical.not_not] at c3
        refine Cd.skip ?_
        refine inBN ?_
        refine thenN ?_
        refine Cd.rr [0, 1, 12, 13] fun K hK => ?_
        simp (maxSteps := 2000000) (disch := first | (simp only [E4, g1, g2] <;> omega) | omega | fail) only [↓E2, E3, bare, bareJ, ↓E0, E1, evP, evPlan, env0, envN, evOps, evOp, evQs, evQ, evV, setD, pureOp, ev, upd, updL, gate, binW, eqOp, binV, intOp, shOp, boolOp, unV, convV, nilV, fieldAddrV, indexAddrV, extractV, cellAt, cellsAt, findB, setB, fillL, buildV, Value.cells, lenV, minV, maxV, hav, sliceV, loV, hiV, bslQ, mksQ, appQ, partsOk, partsCells, delB, eqL, SameI, strOp, apzQ, cvtQ, capV, ↓reduceIte, Zj, Zk, Nat.reduceAdd, Nat.reduceLT, Nat.reduceEqDiff, Nat.reduceMul, Nat.reduceLeDiff, if_true, Zn, reduceCtorEq, ZA, eq_self, Int.reduceLE, Int.reduceLT, Int.reduceToNat, ne_eq, Nat.reduceSub, g1, g2]
        repeat refine And.intro (by omega) ?_
        repeat refine And.intro (by omega) ?_
        intro g
        simp only [List.map_cons, List.map_nil, updL, upd, Nat.reduceEqDiff, if_true, if_false, ↓reduceIte]
        refine hK _ _ ?_; clear hK K
        refine roundN (m := n - 1) (by omega) ⟨_, k + 1, by omega, fun j hj => ?_, rfl, rfl⟩
        rcases Nat.lt_succ_iff_lt_or_eq.1 hj with h | rfl
        · exact hall j h
        · exact c3
    · obtain rfl : k = l1.length := by omega
      refine Cd.exit (thenX (roundX (inBX ?_)))
      refine thenN ?_
      refine Cd.rs [4] fun K hK => ?_
      simp (maxSteps := 2000000) (disch := first | (simp only [E4] <;> omega) | omega | fail) only [↓E2, E3, bare, bareJ, ↓E0, E1, evP, evPlan, env0, envN, evOps, evOp, evQs, evQ, evV, setD, pureOp, ev, upd, updL, gate, binW, eqOp, binV, intOp, shOp, boolOp, unV, convV, nilV, fieldAddrV, indexAddrV, extractV, cellAt, cellsAt, findB, setB, fillL, buildV, Value.cells, lenV, minV, maxV, hav, sliceV, loV, hiV, bslQ, mksQ, appQ, partsOk, partsCells, delB, eqL, SameI, strOp, apzQ, cvtQ, capV, ↓reduceIte, Zj, Zk, Nat.reduceAdd, Nat.reduceLT, Nat.reduceEqDiff, Nat.reduceMul, Nat.reduceLeDiff, if_true, Zn, reduceCtorEq, ZA, eq_self, Int.reduceLE, Int.reduceLT, Int.reduceToNat, ne_eq, Nat.reduceSub]
      repeat refine And.intro (by omega) ?_
      repeat refine And.intro (by omega) ?_
      intro g
      simp only [List.map_cons, List.map_nil, updL, upd, Nat.reduceEqDiff, if_true, if_false, ↓reduceIte]
      refine hK _ _ ?_; clear hK K
      refine Cd.ret ?_
      simp (maxSteps := 2000000) (disch := first | (simp only [E4] <;> omega) | omega | fail) only [↓E2, E3, bare, bareJ, ↓E0, E1, evP, evPlan, env0, envN, evOps, evOp, evQs, evQ, evV, setD, pureOp, ev, upd, updL, gate, binW, eqOp, binV, intOp, shOp, boolOp, unV, convV, nilV, fieldAddrV, indexAddrV, extractV, cellAt, cellsAt, findB, setB, fillL, buildV, Value.cells, lenV, minV, maxV, hav, sliceV, loV, hiV, bslQ, mksQ, appQ, partsOk, partsCells, delB, eqL, SameI, strOp, apzQ, cvtQ, capV, ↓reduceIte, Zj, Zk, Nat.reduceAdd, Nat.reduceLT, Nat.reduceEqDiff, Nat.reduceMul, Nat.reduceLeDiff, if_true, Zn, reduceCtorEq, ZA, eq_self, Int.reduceLE, Int.reduceLT, Int.reduceToNat, ne_eq, Nat.reduceSub]
      repeat refine And.intro (by omega) ?_
      rw [decide_eq_true (getD_ext0 hlen hall)]
theorem holds_drop {W : List Nat} {w0 : World} {M : Blks} {b m cap d : Nat} {l : List Int} {cs : List Value} (hn : (M.map (·.1)).Nodup) (hm : (b, cs) ∈ M) (hr : Row 1 (ints .i64 l) m cap cs) : HoldsAll W w0 M [(b, d, ints .i64 (l.drop d))] := by
  intro r hr1
  rw [List.mem_singleton.1 hr1]
  intro j u hu
  simp only at hu ⊢
  unfold cellAt
  rw [findB_of hn hm]
  have hj : j < (ints .i64 (l.drop d)).length := by
    rcases Nat.lt_or_ge j (ints .i64 (l.drop d)).length with h1 | h1
    · exact h1
    · rw [List.getElem?_eq_none h1] at hu; cases hu
  rw [ints_length, List.length_drop] at hj
  rw [ints_get (by rw [List.length_drop]; exact hj)] at hu
  have := hr.get (ints_get (k := .i64) (l := l) (i := d + j) (by omega))
  rw [show (l.drop d).getD j 0 = l.getD (d + j) 0 by rw [List.getD_eq_getElem?_getD, List.getElem?_drop, List.getD_eq_getElem?_getD]] at hu
  rw [← hu]
  exact this
theorem cw_loop_in {k j : Nat} {Lc : List Int} (h : ∀ i, i < j → coOk (cwV k Lc i) = true) (h2 : coOk (cwV k Lc j) = true) : ∀ i, i < j + 1 → coOk (cwV k Lc i) = true := fun i hi => by
  rcases Nat.lt_succ_iff_lt_or_eq.1 hi with h3 | rfl
  · exact h i h3
  · exact h2
section
variable (low : Int) (l : List Int) (v : Value) (L : Blks) (hv : LauV low l v L) (hL : (L.map (·.1)).Nodup) (hb : l.length ≤ 100000000) (hw : -9223372036854775808 ≤ low ∧ low < 9223372036854775808)
include hv hL hb hw
theorem iConway_c : GivesK Try.prog 51 #[v] L (conRes (conAns low l)) := by
  unfold GivesK
  have hrd := hv.reads (R := toldOf L) fun p hp => mem_toldOf hp
  obtain ⟨a, cap, rfl, hsl⟩ := id hrd.form
  refine GivesX.of (callable_of Try.func51 rfl (by decide)) ?_ fun w hnd hlt hR => ?_
  · simp
  refine acall_of (N := 106) (c := _) (rs := [.tmp 2, .tmp 3]) (args := [_]) Try.func51 rfl (by decide) rfl rfl (Nat.le_of_ble_eq_true rfl) ?_
  refine Cd.rs [1] fun K hK => ?_
  simp (maxSteps := 2000000) (disch := first | (simp only [E4] <;> omega) | omega | fail) only [↓E2, E3, bare, bareJ, ↓E0, E1, evP, evPlan, env0, envN, evOps, evOp, evQs, evQ, evV, setD, pureOp, ev, upd, updL, gate, binW, eqOp, binV, intOp, shOp, boolOp, unV, convV, nilV, fieldAddrV, indexAddrV, extractV, cellAt, cellsAt, findB, setB, fillL, buildV, Value.cells, lenV, minV, maxV, hav, sliceV, loV, hiV, bslQ, mksQ, appQ, partsOk, partsCells, delB, eqL, SameI, strOp, apzQ, cvtQ, capV, ↓reduceIte, Zj, Zk, Nat.reduceAdd, Nat.reduceLT, Nat.reduceEqDiff, Nat.reduceMul, Nat.reduceLeDiff, if_true, Zn, reduceCtorEq, ZA, eq_self, Int.reduceLE, Int.reduceLT, Int.reduceToNat, ne_eq, Nat.reduceSub]
  repeat refine And.intro (by omega) ?_
  intro b1 hb1
  try simp (maxSteps := 2000000) (disch := first | (simp only [E4] <;> omega) | omega | fail) only [↓E2, E3, bare, bareJ, ↓E0, E1, evP, evPlan, env0, envN, evOps, evOp, evQs, evQ, evV, setD, pureOp, ev, upd, updL, gate, binW, eqOp, binV, intOp, shOp, boolOp, unV, convV, nilV, fieldAddrV, indexAddrV, extractV, cellAt, cellsAt, findB, setB, fillL, buildV, Value.cells, lenV, minV, maxV, hav, sliceV, loV, hiV, bslQ, mksQ, appQ, partsOk, partsCells, delB, eqL, SameI, strOp, apzQ, cvtQ, capV, ↓reduceIte, Zj, Zk, Nat.reduceAdd, Nat.reduceLT, Nat.reduceEqDiff, Nat.reduceMul, Nat.reduceLeDiff, if_true, Zn, reduceCtorEq, ZA, eq_self, Int.reduceLE, Int.reduceLT, Int.reduceToNat, ne_eq, Nat.reduceSub]
  repeat refine And.intro (by omega) ?_
  repeat refine And.intro (by omega) ?_
  intro g
  simp only [List.map_cons, List.map_nil, updL, upd, Nat.reduceEqDiff, if_true, if_false, ↓reduceIte]
  refine hK _ _ ?_; clear hK K
  refine Cd.nodup fun hnd => ?_
  refine Cd.seq ?_
  refine Cd.block ?_
  refine Cd.rs [1, 12] fun K hK => ?_
  simp (maxSteps := 2000000) (disch := first | (simp only [E4] <;> omega) | omega | fail) only [↓E2, E3, bare, bareJ, ↓E0, E1, evP, evPlan, env0, envN, evOps, evOp, evQs, evQ, evV, setD, pureOp, ev, upd, updL, gate, binW, eqOp, binV, intOp, shOp, boolOp, unV, convV, nilV, fieldAddrV, indexAddrV, extractV, cellAt, cellsAt, findB, setB, fillL, buildV, Value.cells, lenV, minV, maxV, hav, sliceV, loV, hiV, bslQ, mksQ, appQ, partsOk, partsCells, delB, eqL, SameI, strOp, apzQ, cvtQ, capV, ↓reduceIte, Zj, Zk, Nat.reduceAdd, Nat.reduceLT, Nat.reduceEqDiff, Nat.reduceMul, Nat.reduceLeDiff, if_true, Zn, reduceCtorEq, ZA, eq_self, Int.reduceLE, Int.reduceLT, Int.reduceToNat, ne_eq, Nat.reduceSub, Tld56]
  repeat refine And.intro (by omega) ?_
  refine callK_reads0 (IsLaurent_c _ _ (toldOf L) _ hrd hb hw) (holds_mem hnd fun p hp => by simp [hp]) ?_
  simp (maxSteps := 2000000) (disch := first | (simp only [E4] <;> omega) | omega | fail) only [↓E2, E3, bare, bareJ, ↓E0, E1, evP, evPlan, env0, envN, evOps, evOp, evQs, evQ, evV, setD, pureOp, ev, upd, updL, gate, binW, eqOp, binV, intOp, shOp, boolOp, unV, convV, nilV, fieldAddrV, indexAddrV, extractV, cellAt, cellsAt, findB, setB, fillL, buildV, Value.cells, lenV, minV, maxV, hav, sliceV, loV, hiV, bslQ, mksQ, appQ, partsOk, partsCells, delB, eqL, SameI, strOp, apzQ, cvtQ, capV, ↓reduceIte, Zj, Zk, Nat.reduceAdd, Nat.reduceLT, Nat.reduceEqDiff, Nat.reduceMul, Nat.reduceLeDiff, if_true, Zn, reduceCtorEq, ZA, eq_self, Int.reduceLE, Int.reduceLT, Int.reduceToNat, ne_eq, Nat.reduceSub, Tld56]
  repeat refine And.intro (by omega) ?_
  repeat refine And.intro (by omega) ?_
  intro g
  simp only [List.map_cons, List.map_nil, updL, upd, Nat.reduceEqDiff, if_true, if_false, ↓reduceIte]
  refine hK _ _ ?_; clear hK K
  refine Cd.cond rfl (fun h1 => ?_) (fun h1 => ?_)
  · refine Cd.rs [2, 3] fun K hK => ?_
    simp (maxSteps := 2000000) (disch := first | (simp only [E4] <;> omega) | omega | fail) only [↓E2, E3, bare, bareJ, ↓E0, E1, evP, evPlan, env0, envN, evOps, evOp, evQs, evQ, evV, setD, pureOp, ev, upd, updL, gate, binW, eqOp, binV, intOp, shOp, boolOp, unV, convV, nilV, fieldAddrV, indexAddrV, extractV, cellAt, cellsAt, findB, setB, fillL, buildV, Value.cells, lenV, minV, maxV, hav, sliceV, loV, hiV, bslQ, mksQ, appQ, partsOk, partsCells, delB, eqL, SameI, strOp, apzQ, cvtQ, capV, ↓reduceIte, Zj, Zk, Nat.reduceAdd, Nat.reduceLT, Nat.reduceEqDiff, Nat.reduceMul, Nat.reduceLeDiff, if_true, Zn, reduceCtorEq, ZA, eq_self, Int.reduceLE, Int.reduceLT, Int.reduceToNat, ne_eq, Nat.reduceSub]
    repeat refine And.intro (by omega) ?_
    repeat refine And.intro (by omega) ?_
    intro g
    simp only [List.map_cons, List.map_nil, updL, upd, Nat.reduceEqDiff, if_true, if_false, ↓reduceIte]
    refine hK _ _ ?_; clear hK K
    refine Cd.ret (inBR (thenR ?_))
    simp (maxSteps := 2000000) (disch := first | (simp only [E4] <;> omega) | omega | fail) only [↓E2, E3, bare, bareJ, ↓E0, E1, evP, evPlan, env0, envN, evOps, evOp, evQs, evQ, evV, setD, pureOp, ev, upd, updL, gate, binW, eqOp, binV, intOp, shOp, boolOp, unV, convV, nilV, fieldAddrV, indexAddrV, extractV, cellAt, cellsAt, findB, setB, fillL, buildV, Value.cells, lenV, minV, maxV, hav, sliceV, loV, hiV, bslQ, mksQ, appQ, partsOk, partsCells, delB, eqL, SameI, strOp, apzQ, cvtQ, capV, ↓reduceIte, Zj, Zk, Nat.reduceAdd, Nat.reduceLT, Nat.reduceEqDiff, Nat.reduceMul, Nat.reduceLeDiff, if_true, Zn, reduceCtorEq, ZA, eq_self, Int.reduceLE, Int.reduceLT, Int.reduceToNat, ne_eq, Nat.reduceSub]
    repeat refine And.intro (by omega) ?_
    refine keepQ.none hL (fun p hp => by simp [hp]) (conRes_no ?_ rfl)
    unfold conAns
    rw [if_neg (by simpa using h1)]
  · have hok : lauOk low l = true := by simpa using h1
    have hmi := lauOk_mir hok
    have hlo := lauOk_low hok
    have hln := lauOk_len hok
    refine Cd.rs [1, 16] fun K hK => ?_
    simp (maxSteps := 2000000) (disch := first | (simp only [E4] <;> omega) | omega | fail) only [↓E2, E3, bare, bareJ, ↓E0, E1, evP, evPlan, env0, envN, evOps, evOp, evQs, evQ, evV, setD, pureOp, ev, upd, updL, gate, binW, eqOp, binV, intOp, shOp, boolOp, unV, convV, nilV, fieldAddrV, indexAddrV, extractV, cellAt, cellsAt, findB, setB, fillL, buildV, Value.cells, lenV, minV, maxV, hav, sliceV, loV, hiV, bslQ, mksQ, appQ, partsOk, partsCells, delB, eqL, SameI, strOp, apzQ, cvtQ, capV, ↓reduceIte, Zj, Zk, Nat.reduceAdd, Nat.reduceLT, Nat.reduceEqDiff, Nat.reduceMul, Nat.reduceLeDiff, if_true, Zn, reduceCtorEq, ZA, eq_self, Int.reduceLE, Int.reduceLT, Int.reduceToNat, ne_eq, Nat.reduceSub, Tld56]
    repeat refine And.intro (by omega) ?_
    refine callK_gives (isZero_c low l a cap) ?_
    simp (maxSteps := 2000000) (disch := first | (simp only [E4] <;> omega) | omega | fail) only [↓E2, E3, bare, bareJ, ↓E0, E1, evP, evPlan, env0, envN, evOps, evOp, evQs, evQ, evV, setD, pureOp, ev, upd, updL, gate, binW, eqOp, binV, intOp, shOp, boolOp, unV, convV, nilV, fieldAddrV, indexAddrV, extractV, cellAt, cellsAt, findB, setB, fillL, buildV, Value.cells, lenV, minV, maxV, hav, sliceV, loV, hiV, bslQ, mksQ, appQ, partsOk, partsCells, delB, eqL, SameI, strOp, apzQ, cvtQ, capV, ↓reduceIte, Zj, Zk, Nat.reduceAdd, Nat.reduceLT, Nat.reduceEqDiff, Nat.reduceMul, Nat.reduceLeDiff, if_true, Zn, reduceCtorEq, ZA, eq_self, Int.reduceLE, Int.reduceLT, Int.reduceToNat, ne_eq, Nat.reduceSub, Tld56]
    repeat refine And.intro (by omega) ?_
    repeat refine And.intro (by omega) ?_
    intro g
    simp only [List.map_cons, List.map_nil, updL, upd, Nat.reduceEqDiff, if_true, if_false, ↓reduceIte]
    refine hK _ _ ?_; clear hK K
    refine Cd.cond rfl (fun h2 => ?_) (fun h2 => ?_)
    · simp only [decide_eq_true_eq, decide_eq_false_iff_not, beq_iff_eq, beq_eq_false_iff_ne, bne_iff_ne, bne_eq_false_iff_eq, Bool.and_eq_true, Bool.or_eq_true, Bool.or_eq_false_iff, Bool.not_eq_true', Bool.not_eq_false', Bool.and_eq_false_imp, ne_eq, gt_iff_lt, ge_iff_le, Int.not_lt, Int.not_le, Classical.not_not] at h2
      refine Cd.rs [2, 3] fun K hK => ?_
      simp (maxSteps := 2000000) (disch := first | (simp only [E4] <;> omega) | omega | fail) only [↓E2, E3, bare, bareJ, ↓E0, E1, evP, evPlan, env0, envN, evOps, evOp, evQs, evQ, evV, setD, pureOp, ev, upd, updL, gate, binW, eqOp, binV, intOp, shOp, boolOp, unV, convV, nilV, fieldAddrV, indexAddrV, extractV, cellAt, cellsAt, findB, setB, fillL, buildV, Value.cells, lenV, minV, maxV, hav, sliceV, loV, hiV, bslQ, mksQ, appQ, partsOk, partsCells, delB, eqL, SameI, strOp, apzQ, cvtQ, capV, ↓reduceIte, Zj, Zk, Nat.reduceAdd, Nat.reduceLT, Nat.reduceEqDiff, Nat.reduceMul, Nat.reduceLeDiff, if_true, Zn, reduceCtorEq, ZA, eq_self, Int.reduceLE, Int.reduceLT, Int.reduceToNat, ne_eq, Nat.reduceSub, Tby2, Tslc47, Tslce47, Tzero2]
      repeat refine And.intro (by omega) ?_
      intro b2 hb2
      have nb2_b1 := hb2.ne
      try simp (maxSteps := 2000000) (disch := first | (simp only [E4, nb2_b1] <;> omega) | omega | fail) only [↓E2, E3, bare, bareJ, ↓E0, E1, evP, evPlan, env0, envN, evOps, evOp, evQs, evQ, evV, setD, pureOp, ev, upd, updL, gate, binW, eqOp, binV, intOp, shOp, boolOp, unV, convV, nilV, fieldAddrV, indexAddrV, extractV, cellAt, cellsAt, findB, setB, fillL, buildV, Value.cells, lenV, minV, maxV, hav, sliceV, loV, hiV, bslQ, mksQ, appQ, partsOk, partsCells, delB, eqL, SameI, strOp, apzQ, cvtQ, capV, ↓reduceIte, Zj, Zk, Nat.reduceAdd, Nat.reduceLT, Nat.reduceEqDiff, Nat.reduceMul, Nat.reduceLeDiff, if_true, Zn, reduceCtorEq, ZA, eq_self, Int.reduceLE, Int.reduceLT, Int.reduceToNat, ne_eq, Nat.reduceSub, Tby2, Tslc47, Tslce47, Tzero2, nb2_b1]
      repeat refine And.intro (by omega) ?_
      repeat refine And.intro (by omega) ?_
      intro g
      simp only [List.map_cons, List.map_nil, updL, upd, Nat.reduceEqDiff, if_true, if_false, ↓reduceIte]
      refine hK _ _ ?_; clear hK K
      refine Cd.ret (inBR (thenR ?_))
      simp (maxSteps := 2000000) (disch := first | (simp only [E4, nb2_b1] <;> omega) | omega | fail) only [↓E2, E3, bare, bareJ, ↓E0, E1, evP, evPlan, env0, envN, evOps, evOp, evQs, evQ, evV, setD, pureOp, ev, upd, updL, gate, binW, eqOp, binV, intOp, shOp, boolOp, unV, convV, nilV, fieldAddrV, indexAddrV, extractV, cellAt, cellsAt, findB, setB, fillL, buildV, Value.cells, lenV, minV, maxV, hav, sliceV, loV, hiV, bslQ, mksQ, appQ, partsOk, partsCells, delB, eqL, SameI, strOp, apzQ, cvtQ, capV, ↓reduceIte, Zj, Zk, Nat.reduceAdd, Nat.reduceLT, Nat.reduceEqDiff, Nat.reduceMul, Nat.reduceLeDiff, if_true, Zn, reduceCtorEq, ZA, eq_self, Int.reduceLE, Int.reduceLT, Int.reduceToNat, ne_eq, Nat.reduceSub, nb2_b1]
      repeat refine And.intro (by omega) ?_
      have e : conAns low l = ([], 0) := by unfold conAns; rw [if_pos hok, if_pos (by omega)]
      rw [e]
      refine ⟨[(b2, [])], fun p hp => by simp [hp], fun p hp => by rw [List.mem_singleton.1 hp]; simp, nodup_add hL (fun p hp => hp) fun p hp => hb2.2 p (List.mem_cons_of_mem _ hp), _, rfl, SlN.row (Row.nil 1)⟩
    · simp only [decide_eq_true_eq, decide_eq_false_iff_not, beq_iff_eq, beq_eq_false_iff_ne, bne_iff_ne, bne_eq_false_iff_eq, Bool.and_eq_true, Bool.or_eq_true, Bool.or_eq_false_iff, Bool.not_eq_true', Bool.not_eq_false', Bool.and_eq_false_imp, ne_eq, gt_iff_lt, ge_iff_le, Int.not_lt, Int.not_le, Classical.not_not] at h2
      have h0 : l.length ≠ 0 := by omega
      have hml : mirLow low l = 1 - low - l.length := by unfold mirLow; rw [if_neg h0]
      refine Cd.ps [1, 20] (Plan.take 0 (Plan.take 3 (Plan.more 1 (Plan.take 2 (Plan.take 4 (Plan.take 5 (Plan.take 6 (Plan.take 7 (Plan.more 8 (Plan.more 9 (Plan.more 10 (Plan.one 11 (Plan.one 12 (Plan.one 13 (Plan.take 14 (Plan.take 15 (Plan.done)))))) (Plan.one 11 (Plan.more 10 (Plan.one 12 (Plan.one 13 (Plan.take 14 (Plan.take 15 (Plan.done))))) (Plan.one 12 (Plan.one 10 (Plan.one 13 (Plan.take 14 (Plan.take 15 (Plan.done))))))))) (Plan.one 11 (Plan.more 9 (Plan.more 10 (Plan.one 12 (Plan.one 13 (Plan.take 14 (Plan.take 15 (Plan.done))))) (Plan.one 12 (Plan.one 10 (Plan.one 13 (Plan.take 14 (Plan.take 15 (Plan.done))))))) (Plan.one 12 (Plan.one 9 (Plan.one 10 (Plan.one 13 (Plan.take 14 (Plan.take 15 (Plan.done)))))))))) (Plan.one 11 (Plan.more 8 (Plan.more 9 (Plan.more 10 (Plan.one 12 (Plan.one 13 (Plan.take 14 (Plan.take 15 (Plan.done))))) (Plan.one 12 (Plan.one 10 (Plan.one 13 (Plan.take 14 (Plan.take 15 (Plan.done))))))) (Plan.one 12 (Plan.one 9 (Plan.one 10 (Plan.one 13 (Plan.take 14 (Plan.take 15 (Plan.done)))))))) (Plan.one 12 (Plan.one 8 (Plan.one 9 (Plan.one 10 (Plan.one 13 (Plan.take 14 (Plan.take 15 (Plan.done)))))))))))))))) (Plan.one 4 (Plan.one 1 (Plan.take 2 (Plan.take 5 (Plan.take 6 (Plan.take 7 (Plan.more 8 (Plan.more 9 (Plan.more 10 (Plan.one 11 (Plan.one 12 (Plan.one 13 (Plan.take 14 (Plan.take 15 (Plan.done)))))) (Plan.one 11 (Plan.more 10 (Plan.one 12 (Plan.one 13 (Plan.take 14 (Plan.take 15 (Plan.done))))) (Plan.one 12 (Plan.one 10 (Plan.one 13 (Plan.take 14 (Plan.take 15 (Plan.done))))))))) (Plan.one 11 (Plan.more 9 (Plan.more 10 (Plan.one 12 (Plan.one 13 (Plan.take 14 (Plan.take 15 (Plan.done))))) (Plan.one 12 (Plan.one 10 (Plan.one 13 (Plan.take 14 (Plan.take 15 (Plan.done))))))) (Plan.one 12 (Plan.one 9 (Plan.one 10 (Plan.one 13 (Plan.take 14 (Plan.take 15 (Plan.done)))))))))) (Plan.one 11 (Plan.more 8 (Plan.more 9 (Plan.more 10 (Plan.one 12 (Plan.one 13 (Plan.take 14 (Plan.take 15 (Plan.done))))) (Plan.one 12 (Plan.one 10 (Plan.one 13 (Plan.take 14 (Plan.take 15 (Plan.done))))))) (Plan.one 12 (Plan.one 9 (Plan.one 10 (Plan.one 13 (Plan.take 14 (Plan.take 15 (Plan.done)))))))) (Plan.one 12 (Plan.one 8 (Plan.one 9 (Plan.one 10 (Plan.one 13 (Plan.take 14 (Plan.take 15 (Plan.done)))))))))))))))))))) fol (by kernel_rfl) (Nat.le_of_ble_eq_true rfl) fun K hK => ?_
      have J : ∀ g M, SubP ((b1, [.int .i64 low, .slice a l.length cap]) :: L) M → K (updL [(1, .pointer (some ⟨b1, 0, none⟩)), (20, .bool (decide (¬ isSym low l)))] g) M := by
        intro g M hM
        refine hK _ _ ?_
        clear hK K
        refine Cd.sub hM ?_
        clear hM M
        refine Cd.cond rfl (fun h3 => ?_) (fun h3 => ?_)
        · rw [decide_eq_true_eq] at h3
          refine Cd.rs [2, 3] fun K hK => ?_
          simp (maxSteps := 2000000) (disch := first | (simp only [E4] <;> omega) | omega | fail) only [↓E2, E3, bare, bareJ, ↓E0, E1, evP, evPlan, env0, envN, evOps, evOp, evQs, evQ, evV, setD, pureOp, ev, upd, updL, gate, binW, eqOp, binV, intOp, shOp, boolOp, unV, convV, nilV, fieldAddrV, indexAddrV, extractV, cellAt, cellsAt, findB, setB, fillL, buildV, Value.cells, lenV, minV, maxV, hav, sliceV, loV, hiV, bslQ, mksQ, appQ, partsOk, partsCells, delB, eqL, SameI, strOp, apzQ, cvtQ, capV, ↓reduceIte, Zj, Zk, Nat.reduceAdd, Nat.reduceLT, Nat.reduceEqDiff, Nat.reduceMul, Nat.reduceLeDiff, if_true, Zn, reduceCtorEq, ZA, eq_self, Int.reduceLE, Int.reduceLT, Int.reduceToNat, ne_eq, Nat.reduceSub]
          repeat refine And.intro (by omega) ?_
          repeat refine And.intro (by omega) ?_
          intro g
          simp only [List.map_cons, List.map_nil, updL, upd, Nat.reduceEqDiff, if_true, if_false, ↓reduceIte]
          refine hK _ _ ?_; clear hK K
          refine Cd.ret (inBR (thenR ?_))
          simp (maxSteps := 2000000) (disch := first | (simp only [E4] <;> omega) | omega | fail) only [↓E2, E3, bare, bareJ, ↓E0, E1, evP, evPlan, env0, envN, evOps, evOp, evQs, evQ, evV, setD, pureOp, ev, upd, updL, gate, binW, eqOp, binV, intOp, shOp, boolOp, unV, convV, nilV, fieldAddrV, indexAddrV, extractV, cellAt, cellsAt, findB, setB, fillL, buildV, Value.cells, lenV, minV, maxV, hav, sliceV, loV, hiV, bslQ, mksQ, appQ, partsOk, partsCells, delB, eqL, SameI, strOp, apzQ, cvtQ, capV, ↓reduceIte, Zj, Zk, Nat.reduceAdd, Nat.reduceLT, Nat.reduceEqDiff, Nat.reduceMul, Nat.reduceLeDiff, if_true, Zn, reduceCtorEq, ZA, eq_self, Int.reduceLE, Int.reduceLT, Int.reduceToNat, ne_eq, Nat.reduceSub]
          repeat refine And.intro (by omega) ?_
          refine keepQ.none hL (fun p hp => by simp [hp]) (conRes_no ?_ rfl)
          unfold conAns
          rw [if_pos hok, if_neg h0, if_neg h3]
        · rw [decide_eq_false_iff_not, Classical.not_not] at h3
          obtain ⟨d, e1, e2, e3, e4, e5, e6⟩ := sym_core hok h3 h0
          have hl2 : l.length = 2 * d + 1 := by
            have := congrArg List.length e2
            rw [symL_len] at this
            exact this
          refine Cd.rs [1, 36] fun K hK => ?_
          simp (maxSteps := 2000000) (disch := first | (simp only [E4] <;> omega) | omega | fail) only [↓E2, E3, bare, bareJ, ↓E0, E1, evP, evPlan, env0, envN, evOps, evOp, evQs, evQ, evV, setD, pureOp, ev, upd, updL, gate, binW, eqOp, binV, intOp, shOp, boolOp, unV, convV, nilV, fieldAddrV, indexAddrV, extractV, cellAt, cellsAt, findB, setB, fillL, buildV, Value.cells, lenV, minV, maxV, hav, sliceV, loV, hiV, bslQ, mksQ, appQ, partsOk, partsCells, delB, eqL, SameI, strOp, apzQ, cvtQ, capV, ↓reduceIte, Zj, Zk, Nat.reduceAdd, Nat.reduceLT, Nat.reduceEqDiff, Nat.reduceMul, Nat.reduceLeDiff, if_true, Zn, reduceCtorEq, ZA, eq_self, Int.reduceLE, Int.reduceLT, Int.reduceToNat, ne_eq, Nat.reduceSub, Tld56]
          repeat refine And.intro (by omega) ?_
          refine callK_gives (high_c low l a cap (by omega) (by omega)) ?_
          have ehi : low + (l.length : Int) - 1 = (d : Int) := by omega
          rw [ehi]
          simp (maxSteps := 2000000) (disch := first | (simp only [E4] <;> omega) | omega | fail) only [↓E2, E3, bare, bareJ, ↓E0, E1, evP, evPlan, env0, envN, evOps, evOp, evQs, evQ, evV, setD, pureOp, ev, upd, updL, gate, binW, eqOp, binV, intOp, shOp, boolOp, unV, convV, nilV, fieldAddrV, indexAddrV, extractV, cellAt, cellsAt, findB, setB, fillL, buildV, Value.cells, lenV, minV, maxV, hav, sliceV, loV, hiV, bslQ, mksQ, appQ, partsOk, partsCells, delB, eqL, SameI, strOp, apzQ, cvtQ, capV, ↓reduceIte, Zj, Zk, Nat.reduceAdd, Nat.reduceLT, Nat.reduceEqDiff, Nat.reduceMul, Nat.reduceLeDiff, if_true, Zn, reduceCtorEq, ZA, eq_self, Int.reduceLE, Int.reduceLT, Int.reduceToNat, ne_eq, Nat.reduceSub, Tld56]
          repeat refine And.intro (by omega) ?_
          repeat refine And.intro (by omega) ?_
          intro g
          simp only [List.map_cons, List.map_nil, updL, upd, Nat.reduceEqDiff, if_true, if_false, ↓reduceIte]
          refine hK _ _ ?_; clear hK K
          refine Cd.condd rfl (fun h4 => ?_) (fun h4 => ?_)
          · refine Cd.rs [2, 3] fun K hK => ?_
            simp (maxSteps := 2000000) (disch := first | (simp only [E4] <;> omega) | omega | fail) only [↓E2, E3, bare, bareJ, ↓E0, E1, evP, evPlan, env0, envN, evOps, evOp, evQs, evQ, evV, setD, pureOp, ev, upd, updL, gate, binW, eqOp, binV, intOp, shOp, boolOp, unV, convV, nilV, fieldAddrV, indexAddrV, extractV, cellAt, cellsAt, findB, setB, fillL, buildV, Value.cells, lenV, minV, maxV, hav, sliceV, loV, hiV, bslQ, mksQ, appQ, partsOk, partsCells, delB, eqL, SameI, strOp, apzQ, cvtQ, capV, ↓reduceIte, Zj, Zk, Nat.reduceAdd, Nat.reduceLT, Nat.reduceEqDiff, Nat.reduceMul, Nat.reduceLeDiff, if_true, Zn, reduceCtorEq, ZA, eq_self, Int.reduceLE, Int.reduceLT, Int.reduceToNat, ne_eq, Nat.reduceSub]
            repeat refine And.intro (by omega) ?_
            repeat refine And.intro (by omega) ?_
            intro g
            simp only [List.map_cons, List.map_nil, updL, upd, Nat.reduceEqDiff, if_true, if_false, ↓reduceIte]
            refine hK _ _ ?_; clear hK K
            refine Cd.ret (inBR (thenR ?_))
            simp (maxSteps := 2000000) (disch := first | (simp only [E4] <;> omega) | omega | fail) only [↓E2, E3, bare, bareJ, ↓E0, E1, evP, evPlan, env0, envN, evOps, evOp, evQs, evQ, evV, setD, pureOp, ev, upd, updL, gate, binW, eqOp, binV, intOp, shOp, boolOp, unV, convV, nilV, fieldAddrV, indexAddrV, extractV, cellAt, cellsAt, findB, setB, fillL, buildV, Value.cells, lenV, minV, maxV, hav, sliceV, loV, hiV, bslQ, mksQ, appQ, partsOk, partsCells, delB, eqL, SameI, strOp, apzQ, cvtQ, capV, ↓reduceIte, Zj, Zk, Nat.reduceAdd, Nat.reduceLT, Nat.reduceEqDiff, Nat.reduceMul, Nat.reduceLeDiff, if_true, Zn, reduceCtorEq, ZA, eq_self, Int.reduceLE, Int.reduceLT, Int.reduceToNat, ne_eq, Nat.reduceSub]
            repeat refine And.intro (by omega) ?_
            refine keepQ.none hL (fun p hp => by simp [hp]) (conRes_no ?_ rfl)
            unfold conAns
            rw [if_pos hok, if_neg h0, if_pos h3, if_pos (by omega)]
          · have hans : conAns low l = conOut (cwK (d + 1) (l.drop d) (List.replicate (d + 1) 0)) := by
              unfold conAns
              rw [if_pos hok, if_neg h0, if_pos h3, if_neg (by omega), e6]
            refine Cd.skip ?_
            refine inBN ?_
            refine thenN ?_
            refine Cd.rs [1, 4] fun K hK => ?_
            simp (maxSteps := 2000000) (disch := first | (simp only [E4] <;> omega) | omega | fail) only [↓E2, E3, bare, bareJ, ↓E0, E1, evP, evPlan, env0, envN, evOps, evOp, evQs, evQ, evV, setD, pureOp, ev, upd, updL, gate, binW, eqOp, binV, intOp, shOp, boolOp, unV, convV, nilV, fieldAddrV, indexAddrV, extractV, cellAt, cellsAt, findB, setB, fillL, buildV, Value.cells, lenV, minV, maxV, hav, sliceV, loV, hiV, bslQ, mksQ, appQ, partsOk, partsCells, delB, eqL, SameI, strOp, apzQ, cvtQ, capV, ↓reduceIte, Zj, Zk, Nat.reduceAdd, Nat.reduceLT, Nat.reduceEqDiff, Nat.reduceMul, Nat.reduceLeDiff, if_true, Zn, reduceCtorEq, ZA, eq_self, Int.reduceLE, Int.reduceLT, Int.reduceToNat, ne_eq, Nat.reduceSub, Tld56]
            repeat refine And.intro (by omega) ?_
            refine callK_gives (high_c low l a cap (by omega) (by omega)) ?_
            rw [ehi]
            simp (maxSteps := 2000000) (disch := first | (simp only [E4] <;> omega) | omega | fail) only [↓E2, E3, bare, bareJ, ↓E0, E1, evP, evPlan, env0, envN, evOps, evOp, evQs, evQ, evV, setD, pureOp, ev, upd, updL, gate, binW, eqOp, binV, intOp, shOp, boolOp, unV, convV, nilV, fieldAddrV, indexAddrV, extractV, cellAt, cellsAt, findB, setB, fillL, buildV, Value.cells, lenV, minV, maxV, hav, sliceV, loV, hiV, bslQ, mksQ, appQ, partsOk, partsCells, delB, eqL, SameI, strOp, apzQ, cvtQ, capV, ↓reduceIte, Zj, Zk, Nat.reduceAdd, Nat.reduceLT, Nat.reduceEqDiff, Nat.reduceMul, Nat.reduceLeDiff, if_true, Zn, reduceCtorEq, ZA, eq_self, Int.reduceLE, Int.reduceLT, Int.reduceToNat, ne_eq, Nat.reduceSub, Tld56]
            repeat refine And.intro (by omega) ?_
            repeat refine And.intro (by omega) ?_
            intro g
            simp only [List.map_cons, List.map_nil, updL, upd, Nat.reduceEqDiff, if_true, if_false, ↓reduceIte]
            refine hK _ _ ?_; clear hK K
            have hld : (l.drop d).length = d + 1 := e3
            obtain ⟨sv, ev, hsv⟩ := hv
            cases ev
            rcases hsv with ⟨e, _, _⟩ | ⟨bq, mq, cq, csq, e, hLq, hrq⟩
            · have := congrArg List.length e
              rw [ints_length] at this
              simp only [List.length_nil] at this
              omega
            cases e
            have hmem : (bq, csq) ∈ L := by rw [hLq]; exact List.mem_singleton.2 rfl
            have edl : l.length - d = d + 1 := by omega
            refine Cd.ps [4, 5, 6] (Plan.take 0 (Plan.take 2 (Plan.take 5 (Plan.take 6 (Plan.more 1 (Plan.take 3 (Plan.more 4 (Plan.take 8 (Plan.one 7 (Plan.take 9 (Plan.done)))) (Plan.one 7 (Plan.one 4 (Plan.take 8 (Plan.take 9 (Plan.done))))))) (Plan.one 7 (Plan.take 1 (Plan.take 3 (Plan.one 4 (Plan.take 8 (Plan.take 9 (Plan.done)))))))))))) fol (by kernel_rfl) (Nat.le_of_ble_eq_true rfl) fun K hK => ?_
            have J2 : ∀ g bl capl csl bo M, Row 1 (ints .i64 (l.drop d)) (d + 1) capl csl → SubP ((bl, csl) :: (bo, ints .i64 (List.replicate (d + 1) 0)) :: (b1, [.int .i64 low, .slice (some ⟨bq, 0, none⟩) l.length cap]) :: L) M → K (updL [(4, .int .i64 (d : Int)), (5, .slice (some ⟨bl, 0, none⟩) (d + 1) capl), (6, .slice (some ⟨bo, 0, none⟩) (d + 1) (d + 1))] g) M := by
              intro g bl capl csl bo M hrow hM
              refine hK _ _ ?_
              clear hK K
              refine Cd.sub hM ?_
              clear hM M
              have hd20 : d < 21 := by omega
              skip
              refine Cd.seq ?_
              refine Cd.rs [5, 6, 7] fun K hK => ?_
              simp (maxSteps := 2000000) (disch := first | (simp only [E4] <;> omega) | omega | fail) only [↓E2, E3, bare, bareJ, ↓E0, E1, evP, evPlan, env0, envN, evOps, evOp, evQs, evQ, evV, setD, pureOp, ev, upd, updL, gate, binW, eqOp, binV, intOp, shOp, boolOp, unV, convV, nilV, fieldAddrV, indexAddrV, extractV, cellAt, cellsAt, findB, setB, fillL, buildV, Value.cells, lenV, minV, maxV, hav, sliceV, loV, hiV, bslQ, mksQ, appQ, partsOk, partsCells, delB, eqL, SameI, strOp, apzQ, cvtQ, capV, ↓reduceIte, Zj, Zk, Nat.reduceAdd, Nat.reduceLT, Nat.reduceEqDiff, Nat.reduceMul, Nat.reduceLeDiff, if_true, Zn, reduceCtorEq, ZA, eq_self, Int.reduceLE, Int.reduceLT, Int.reduceToNat, ne_eq, Nat.reduceSub]
              repeat refine And.intro (by omega) ?_
              repeat refine And.intro (by omega) ?_
              intro g
              simp only [List.map_cons, List.map_nil, updL, upd, Nat.reduceEqDiff, if_true, if_false, ↓reduceIte]
              refine hK _ _ ?_; clear hK K
              refine Cd.block ?_
              refine Cd.loop (fun n ρ M => ∃ g Lc O csl, n ≤ d + 1 ∧ Lc.length = d + 1 ∧ O.length = d + 1 ∧ (∀ j, coOk (Lc.getD j 0) = true) ∧ cwK (d + 1) (l.drop d) (List.replicate (d + 1) 0) = cwK n Lc O ∧ Row 1 (ints .i64 Lc) (d + 1) capl csl ∧ ρ = updL [(5, .slice (some ⟨bl, 0, none⟩) (d + 1) capl), (6, .slice (some ⟨bo, 0, none⟩) (d + 1) (d + 1)), (7, .int .i64 ((n : Int) - 1))] g ∧
                M = (bl, csl) :: (bo, ints .i64 O) :: (b1, [.int .i64 low, .slice (some ⟨bq, 0, none⟩) l.length cap]) :: L) (d + 1) ⟨_, l.drop d, List.replicate (d + 1) 0, csl, Nat.le_refl _, hld, List.length_replicate, e5, rfl, hrow, by rw [show ((d + 1 : Nat) : Int) - 1 = (d : Int) by omega]; rfl, rfl⟩ ?_
              clear hrow csl
              rintro n ρ M ⟨g, Lc, O, csl, hn, hLc, hO, hcc, hcw, hrow, rfl, rfl⟩
              have s1 := hrow.size1
              have s2 := hrow.le
              refine Cd.nodup fun hnd5 => ?_
              have d1 : (bl = bo) = False := eq_false ((nodup_cases hnd5).1 (bo, ints .i64 O) (by simp))
              skip
              refine Cd.seq ?_
              refine Cd.rs [5, 6, 7, 52] fun K hK => ?_
              simp (maxSteps := 2000000) (disch := first | (simp only [E4, d1, hO, hLc] <;> omega) | omega | fail) only [↓E2, E3, bare, bareJ, ↓E0, E1, evP, evPlan, env0, envN, evOps, evOp, evQs, evQ, evV, setD, pureOp, ev, upd, updL, gate, binW, eqOp, binV, intOp, shOp, boolOp, unV, convV, nilV, fieldAddrV, indexAddrV, extractV, cellAt, cellsAt, findB, setB, fillL, buildV, Value.cells, lenV, minV, maxV, hav, sliceV, loV, hiV, bslQ, mksQ, appQ, partsOk, partsCells, delB, eqL, SameI, strOp, apzQ, cvtQ, capV, ↓reduceIte, Zj, Zk, Nat.reduceAdd, Nat.reduceLT, Nat.reduceEqDiff, Nat.reduceMul, Nat.reduceLeDiff, if_true, Zn, reduceCtorEq, ZA, eq_self, Int.reduceLE, Int.reduceLT, Int.reduceToNat, ne_eq, Nat.reduceSub, d1, hO, hLc]
              repeat refine And.intro (by omega) ?_
              repeat refine And.intro (by omega) ?_
              intro g
              simp only [List.map_cons, List.map_nil, updL, upd, Nat.reduceEqDiff, if_true, if_false, ↓reduceIte]
              refine hK _ _ ?_; clear hK K
              refine Cd.condd rfl (fun h5 => ?_) (fun h5 => ?_)
              · obtain ⟨t, rfl⟩ : ∃ t, n = t + 1 := ⟨n - 1, by omega⟩
                rw [show ((t + 1 : Nat) : Int) - 1 = (t : Int) by omega]
                have gt := hrow.get (ints_get (k := .i64) (l := Lc) (i := t) (by omega))
                have hct := hcc t
                have hcb : -1000000000000 ≤ Lc.getD t 0 ∧ Lc.getD t 0 ≤ 1000000000000 := by
                  unfold coOk at hct
                  simpa using hct
                generalize hcd : Lc.getD t 0 = cc at *
                refine Cd.skip ?_
                refine thenN ?_
                refine Cd.seq ?_
                refine Cd.block ?_
                skip
                refine Cd.rs [5, 6, 7, 8] fun K hK => ?_
                simp (maxSteps := 2000000) (disch := first | (simp only [E4, d1, hO, hLc, gt] <;> omega) | omega | fail) only [↓E2, E3, bare, bareJ, ↓E0, E1, evP, evPlan, env0, envN, evOps, evOp, evQs, evQ, evV, setD, pureOp, ev, upd, updL, gate, binW, eqOp, binV, intOp, shOp, boolOp, unV, convV, nilV, fieldAddrV, indexAddrV, extractV, cellAt, cellsAt, findB, setB, fillL, buildV, Value.cells, lenV, minV, maxV, hav, sliceV, loV, hiV, bslQ, mksQ, appQ, partsOk, partsCells, delB, eqL, SameI, strOp, apzQ, cvtQ, capV, ↓reduceIte, Zj, Zk, Nat.reduceAdd, Nat.reduceLT, Nat.reduceEqDiff, Nat.reduceMul, Nat.reduceLeDiff, if_true, Zn, reduceCtorEq, ZA, eq_self, Int.reduceLE, Int.reduceLT, Int.reduceToNat, ne_eq, Nat.reduceSub, Tld2, Tslc47, d1, hO, hLc, gt]
                repeat refine And.intro (by omega) ?_
                repeat refine And.intro (by omega) ?_
                intro g
                simp only [List.map_cons, List.map_nil, updL, upd, Nat.reduceEqDiff, if_true, if_false, ↓reduceIte]
                refine hK _ _ ?_; clear hK K
                refine Cd.rs [5, 6, 7, 8] fun K hK => ?_
                simp (maxSteps := 2000000) (disch := first | (simp only [E4, d1, hO, hLc, gt] <;> omega) | omega | fail) only [↓E2, E3, bare, bareJ, ↓E0, E1, evP, evPlan, env0, envN, evOps, evOp, evQs, evQ, evV, setD, pureOp, ev, upd, updL, gate, binW, eqOp, binV, intOp, shOp, boolOp, unV, convV, nilV, fieldAddrV, indexAddrV, extractV, cellAt, cellsAt, findB, setB, fillL, buildV, Value.cells, lenV, minV, maxV, hav, sliceV, loV, hiV, bslQ, mksQ, appQ, partsOk, partsCells, delB, eqL, SameI, strOp, apzQ, cvtQ, capV, ↓reduceIte, Zj, Zk, Nat.reduceAdd, Nat.reduceLT, Nat.reduceEqDiff, Nat.reduceMul, Nat.reduceLeDiff, if_true, Zn, reduceCtorEq, ZA, eq_self, Int.reduceLE, Int.reduceLT, Int.reduceToNat, ne_eq, Nat.reduceSub, Tslc47, Tst2, d1, hO, hLc, gt]
                repeat refine And.intro (by omega) ?_
                repeat refine And.intro (by omega) ?_
                intro g
                simp only [List.map_cons, List.map_nil, updL, upd, Nat.reduceEqDiff, if_true, if_false, ↓reduceIte]
                refine hK _ _ ?_; clear hK K
                refine Cd.rs [5, 6, 7, 8, 64, 65] fun K hK => ?_
                simp (maxSteps := 2000000) (disch := first | (simp only [E4, d1, hO, hLc, gt] <;> omega) | omega | fail) only [↓E2, E3, bare, bareJ, ↓E0, E1, evP, evPlan, env0, envN, evOps, evOp, evQs, evQ, evV, setD, pureOp, ev, upd, updL, gate, binW, eqOp, binV, intOp, shOp, boolOp, unV, convV, nilV, fieldAddrV, indexAddrV, extractV, cellAt, cellsAt, findB, setB, fillL, buildV, Value.cells, lenV, minV, maxV, hav, sliceV, loV, hiV, bslQ, mksQ, appQ, partsOk, partsCells, delB, eqL, SameI, strOp, apzQ, cvtQ, capV, ↓reduceIte, Zj, Zk, Nat.reduceAdd, Nat.reduceLT, Nat.reduceEqDiff, Nat.reduceMul, Nat.reduceLeDiff, if_true, Zn, reduceCtorEq, ZA, eq_self, Int.reduceLE, Int.reduceLT, Int.reduceToNat, ne_eq, Nat.reduceSub, d1, hO, hLc, gt]
                repeat refine And.intro (by omega) ?_
                repeat refine And.intro (by omega) ?_
                intro g
                simp only [List.map_cons, List.map_nil, updL, upd, Nat.reduceEqDiff, if_true, if_false, ↓reduceIte]
                refine hK _ _ ?_; clear hK K
                refine Cd.block ?_
                have hO2 : (O.set t cc).length = d + 1 := by rw [List.length_set, hO]
                generalize hOO : O.set t cc = O2 at *
                skip
                refine Cd.loop (fun q ρ M => ∃ g j csl, j + q = t + 1 ∧ (∀ i, i < j → coOk (cwV t Lc i) = true) ∧ Row 1 (ints .i64 (cwP t Lc j)) (d + 1) capl csl ∧ ρ = updL [(5, .slice (some ⟨bl, 0, none⟩) (d + 1) capl), (6, .slice (some ⟨bo, 0, none⟩) (d + 1) (d + 1)), (7, .int .i64 (t : Int)), (8, .int .i64 cc), (64, .int .i64 ((t : Int) + 1)), (65, .int .i64 (j : Int))] g ∧
                  M = (bl, csl) :: (bo, ints .i64 O2) :: (b1, [.int .i64 low, .slice (some ⟨bq, 0, none⟩) l.length cap]) :: L) (t + 1) ⟨_, 0, csl, Nat.zero_add _, fun i hi => absurd hi (Nat.not_lt_zero _), by rw [cwP_zero]; exact hrow, rfl, rfl⟩ ?_
                clear hrow s1 s2 hnd5
                rintro q ρ M ⟨g, j, csl, hj, hall, hrow, rfl, rfl⟩
                have s1 := hrow.size1
                have s2 := hrow.le
                refine Cd.rs [5, 6, 7, 8, 64, 65, 66] fun K hK => ?_
                simp (maxSteps := 2000000) (disch := first | (simp only [E4, d1, hO, hLc, gt, hO2] <;> omega) | omega | fail) only [↓E2, E3, bare, bareJ, ↓E0, E1, evP, evPlan, env0, envN, evOps, evOp, evQs, evQ, evV, setD, pureOp, ev, upd, updL, gate, binW, eqOp, binV, intOp, shOp, boolOp, unV, convV, nilV, fieldAddrV, indexAddrV, extractV, cellAt, cellsAt, findB, setB, fillL, buildV, Value.cells, lenV, minV, maxV, hav, sliceV, loV, hiV, bslQ, mksQ, appQ, partsOk, partsCells, delB, eqL, SameI, strOp, apzQ, cvtQ, capV, ↓reduceIte, Zj, Zk, Nat.reduceAdd, Nat.reduceLT, Nat.reduceEqDiff, Nat.reduceMul, Nat.reduceLeDiff, if_true, Zn, reduceCtorEq, ZA, eq_self, Int.reduceLE, Int.reduceLT, Int.reduceToNat, ne_eq, Nat.reduceSub, d1, hO, hLc, gt, hO2]
                repeat refine And.intro (by omega) ?_
                repeat refine And.intro (by omega) ?_
                intro g
                simp only [List.map_cons, List.map_nil, updL, upd, Nat.reduceEqDiff, if_true, if_false, ↓reduceIte]
                refine hK _ _ ?_; clear hK K
                refine Cd.seq ?_
                refine Cd.condd rfl (fun h6 => ?_) (fun h6 => ?_)
                · have hb := binR_bound t (by omega) (t + j) (by omega)
                  have hbin := binomial_c t (by omega) (t + j) (by omega)
                  have ekj : (t : Int) + (j : Int) = ((t + j : Nat) : Int) := by omega
                  have hV : cwV t Lc j = Lc.getD j 0 - cc * (sg (t - j) * binR (2 * (t : Int)) (t + j)) := by unfold cwV; rw [hcd]
                  have hLj := hcc j
                  have hLjb : -1000000000000 ≤ Lc.getD j 0 ∧ Lc.getD j 0 ≤ 1000000000000 := by
                    unfold coOk at hLj
                    simpa using hLj
                  have gj := hrow.get (ints_get (k := .i64) (l := cwP t Lc j) (i := j) (by rw [cwP_len]; omega))
                  rw [cwP_get (by omega), if_neg (Nat.lt_irrefl _)] at gj
                  have hset := hrow.set (j := j) (by omega) (.int .i64 (cwV t Lc j))
                  rw [ints_set, cwP_set (by omega)] at hset
                  have hsp := hcw
                  generalize binR (2 * (t : Int)) (t + j) = bb at *
                  have hdq : (2000000000000 : Int).tdiv bb = 2000000000000 / bb := Int.tdiv_eq_ediv_of_nonneg (by decide)
                  have hq0 : 0 ≤ (2000000000000 : Int) / bb ∧ (2000000000000 : Int) / bb ≤ 2000000000000 := ⟨Int.ediv_nonneg (by decide) (by omega), Int.ediv_le_self _ (by decide)⟩
                  have hno := big_no (c := cc) hLj hb.1 (sg_cases (t - j))
                  have hyes := small_yes (c := cc) hb.1
                  generalize hqq : (2000000000000 : Int) / bb = qq at *
                  refine Cd.skip ?_
                  refine thenN ?_
                  refine Cd.seq ?_
                  refine Cd.block ?_
                  skip
                  refine Cd.rs [5, 6, 7, 8, 9, 64, 65] fun K hK => ?_
                  simp (maxSteps := 2000000) (disch := first | (simp only [E4, d1, hO, hLc, gt, hO2, ekj] <;> omega) | omega | fail) only [↓E2, E3, bare, bareJ, ↓E0, E1, evP, evPlan, env0, envN, evOps, evOp, evQs, evQ, evV, setD, pureOp, ev, upd, updL, gate, binW, eqOp, binV, intOp, shOp, boolOp, unV, convV, nilV, fieldAddrV, indexAddrV, extractV, cellAt, cellsAt, findB, setB, fillL, buildV, Value.cells, lenV, minV, maxV, hav, sliceV, loV, hiV, bslQ, mksQ, appQ, partsOk, partsCells, delB, eqL, SameI, strOp, apzQ, cvtQ, capV, ↓reduceIte, Zj, Zk, Nat.reduceAdd, Nat.reduceLT, Nat.reduceEqDiff, Nat.reduceMul, Nat.reduceLeDiff, if_true, Zn, reduceCtorEq, ZA, eq_self, Int.reduceLE, Int.reduceLT, Int.reduceToNat, ne_eq, Nat.reduceSub, d1, hO, hLc, gt, hO2, ekj]
                  repeat refine And.intro (by omega) ?_
                  repeat refine And.intro (by omega) ?_
                  intro g
                  simp only [List.map_cons, List.map_nil, updL, upd, Nat.reduceEqDiff, if_true, if_false, ↓reduceIte]
                  refine hK _ _ ?_; clear hK K
                  refine Cd.rs [5, 6, 7, 8, 9, 10, 64, 65] fun K hK => ?_
                  simp (maxSteps := 2000000) (disch := first | (simp only [E4, d1, hO, hLc, gt, hO2, ekj] <;> omega) | omega | fail) only [↓E2, E3, bare, bareJ, ↓E0, E1, evP, evPlan, env0, envN, evOps, evOp, evQs, evQ, evV, setD, pureOp, ev, upd, updL, gate, binW, eqOp, binV, intOp, shOp, boolOp, unV, convV, nilV, fieldAddrV, indexAddrV, extractV, cellAt, cellsAt, findB, setB, fillL, buildV, Value.cells, lenV, minV, maxV, hav, sliceV, loV, hiV, bslQ, mksQ, appQ, partsOk, partsCells, delB, eqL, SameI, strOp, apzQ, cvtQ, capV, ↓reduceIte, Zj, Zk, Nat.reduceAdd, Nat.reduceLT, Nat.reduceEqDiff, Nat.reduceMul, Nat.reduceLeDiff, if_true, Zn, reduceCtorEq, ZA, eq_self, Int.reduceLE, Int.reduceLT, Int.reduceToNat, ne_eq, Nat.reduceSub, d1, hO, hLc, gt, hO2, ekj]
                  repeat refine And.intro (by omega) ?_
                  refine callK_gives hbin ?_
                  simp (maxSteps := 2000000) (disch := first | (simp only [E4, d1, hO, hLc, gt, hO2, ekj] <;> omega) | omega | fail) only [↓E2, E3, bare, bareJ, ↓E0, E1, evP, evPlan, env0, envN, evOps, evOp, evQs, evQ, evV, setD, pureOp, ev, upd, updL, gate, binW, eqOp, binV, intOp, shOp, boolOp, unV, convV, nilV, fieldAddrV, indexAddrV, extractV, cellAt, cellsAt, findB, setB, fillL, buildV, Value.cells, lenV, minV, maxV, hav, sliceV, loV, hiV, bslQ, mksQ, appQ, partsOk, partsCells, delB, eqL, SameI, strOp, apzQ, cvtQ, capV, ↓reduceIte, Zj, Zk, Nat.reduceAdd, Nat.reduceLT, Nat.reduceEqDiff, Nat.reduceMul, Nat.reduceLeDiff, if_true, Zn, reduceCtorEq, ZA, eq_self, Int.reduceLE, Int.reduceLT, Int.reduceToNat, ne_eq, Nat.reduceSub, d1, hO, hLc, gt, hO2, ekj]
                  repeat refine And.intro (by omega) ?_
                  repeat refine And.intro (by omega) ?_
                  intro g
                  simp only [List.map_cons, List.map_nil, updL, upd, Nat.reduceEqDiff, if_true, if_false, ↓reduceIte]
                  refine hK _ _ ?_; clear hK K
                  refine Cd.seq ?_
                  refine Cd.rs [5, 6, 7, 8, 9, 10, 11, 64, 65] fun K hK => ?_
                  simp (maxSteps := 2000000) (disch := first | (simp only [E4, d1, hO, hLc, gt, hO2, ekj] <;> omega) | omega | fail) only [↓E2, E3, bare, bareJ, ↓E0, E1, evP, evPlan, env0, envN, evOps, evOp, evQs, evQ, evV, setD, pureOp, ev, upd, updL, gate, binW, eqOp, binV, intOp, shOp, boolOp, unV, convV, nilV, fieldAddrV, indexAddrV, extractV, cellAt, cellsAt, findB, setB, fillL, buildV, Value.cells, lenV, minV, maxV, hav, sliceV, loV, hiV, bslQ, mksQ, appQ, partsOk, partsCells, delB, eqL, SameI, strOp, apzQ, cvtQ, capV, ↓reduceIte, Zj, Zk, Nat.reduceAdd, Nat.reduceLT, Nat.reduceEqDiff, Nat.reduceMul, Nat.reduceLeDiff, if_true, Zn, reduceCtorEq, ZA, eq_self, Int.reduceLE, Int.reduceLT, Int.reduceToNat, ne_eq, Nat.reduceSub, d1, hO, hLc, gt, hO2, ekj]
                  repeat refine And.intro (by omega) ?_
                  repeat refine And.intro (by omega) ?_
                  intro g
                  simp only [List.map_cons, List.map_nil, updL, upd, Nat.reduceEqDiff, if_true, if_false, ↓reduceIte]
                  refine hK _ _ ?_; clear hK K
                  skip
                  refine Cd.rs [5, 6, 7, 8, 9, 10, 64, 65, 81] fun K hK => ?_
                  simp (maxSteps := 2000000) (disch := first | (simp only [E4, d1, hO, hLc, gt, hO2, ekj, hdq, hqq] <;> omega) | omega | fail) only [↓E2, E3, bare, bareJ, ↓E0, E1, evP, evPlan, env0, envN, evOps, evOp, evQs, evQ, evV, setD, pureOp, ev, upd, updL, gate, binW, eqOp, binV, intOp, shOp, boolOp, unV, convV, nilV, fieldAddrV, indexAddrV, extractV, cellAt, cellsAt, findB, setB, fillL, buildV, Value.cells, lenV, minV, maxV, hav, sliceV, loV, hiV, bslQ, mksQ, appQ, partsOk, partsCells, delB, eqL, SameI, strOp, apzQ, cvtQ, capV, ↓reduceIte, Zj, Zk, Nat.reduceAdd, Nat.reduceLT, Nat.reduceEqDiff, Nat.reduceMul, Nat.reduceLeDiff, if_true, Zn, reduceCtorEq, ZA, eq_self, Int.reduceLE, Int.reduceLT, Int.reduceToNat, ne_eq, Nat.reduceSub, d1, hO, hLc, gt, hO2, ekj, hdq, hqq]
                  repeat refine And.intro (by omega) ?_
                  repeat refine And.intro (by omega) ?_
                  intro g
                  simp only [List.map_cons, List.map_nil, updL, upd, Nat.reduceEqDiff, if_true, if_false, ↓reduceIte]
                  refine hK _ _ ?_; clear hK K
                  refine Cd.cond rfl (fun h7 => ?_) (fun h7 => ?_)
                  · rw [decide_eq_true_eq] at h7
                    have hbad := hno h7
                    rw [← hV] at hbad
                    have hnk : ¬ cwOk t Lc := fun hk => by rw [hk j (by omega)] at hbad; cases hbad
                    rw [cwK_no hnk] at hcw
                    refine Cd.rs [2, 3] fun K hK => ?_
                    simp (maxSteps := 2000000) (disch := first | (simp only [E4, d1, hO, hLc, gt, hO2, ekj, hdq, hqq] <;> omega) | omega | fail) only [↓E2, E3, bare, bareJ, ↓E0, E1, evP, evPlan, env0, envN, evOps, evOp, evQs, evQ, evV, setD, pureOp, ev, upd, updL, gate, binW, eqOp, binV, intOp, shOp, boolOp, unV, convV, nilV, fieldAddrV, indexAddrV, extractV, cellAt, cellsAt, findB, setB, fillL, buildV, Value.cells, lenV, minV, maxV, hav, sliceV, loV, hiV, bslQ, mksQ, appQ, partsOk, partsCells, delB, eqL, SameI, strOp, apzQ, cvtQ, capV, ↓reduceIte, Zj, Zk, Nat.reduceAdd, Nat.reduceLT, Nat.reduceEqDiff, Nat.reduceMul, Nat.reduceLeDiff, if_true, Zn, reduceCtorEq, ZA, eq_self, Int.reduceLE, Int.reduceLT, Int.reduceToNat, ne_eq, Nat.reduceSub, d1, hO, hLc, gt, hO2, ekj, hdq, hqq]
                    repeat refine And.intro (by omega) ?_
                    repeat refine And.intro (by omega) ?_
                    intro g
                    simp only [List.map_cons, List.map_nil, updL, upd, Nat.reduceEqDiff, if_true, if_false, ↓reduceIte]
                    refine hK _ _ ?_; clear hK K
                    refine Cd.ret (thenR (inBR (thenR (roundR (inBR (inBR (thenR (roundR (inBR (thenR ?_))))))))))
                    simp (maxSteps := 2000000) (disch := first | (simp only [E4, d1, hO, hLc, gt, hO2, ekj, hdq, hqq] <;> omega) | omega | fail) only [↓E2, E3, bare, bareJ, ↓E0, E1, evP, evPlan, env0, envN, evOps, evOp, evQs, evQ, evV, setD, pureOp, ev, upd, updL, gate, binW, eqOp, binV, intOp, shOp, boolOp, unV, convV, nilV, fieldAddrV, indexAddrV, extractV, cellAt, cellsAt, findB, setB, fillL, buildV, Value.cells, lenV, minV, maxV, hav, sliceV, loV, hiV, bslQ, mksQ, appQ, partsOk, partsCells, delB, eqL, SameI, strOp, apzQ, cvtQ, capV, ↓reduceIte, Zj, Zk, Nat.reduceAdd, Nat.reduceLT, Nat.reduceEqDiff, Nat.reduceMul, Nat.reduceLeDiff, if_true, Zn, reduceCtorEq, ZA, eq_self, Int.reduceLE, Int.reduceLT, Int.reduceToNat, ne_eq, Nat.reduceSub, d1, hO, hLc, gt, hO2, ekj, hdq, hqq]
                    repeat refine And.intro (by omega) ?_
                    rw [hans, hcw]
                    exact keepQ.none hL (fun p hp => by simp [hp]) (conRes_no rfl rfl)
                  · rw [decide_eq_false_iff_not] at h7
                    have hcbb := hyes h7
                    refine Cd.skip ?_
                    refine thenN ?_
                    refine Cd.midq (fun ρ M => ∃ g, ρ = updL [(5, .slice (some ⟨bl, 0, none⟩) (d + 1) capl), (6, .slice (some ⟨bo, 0, none⟩) (d + 1) (d + 1)), (7, .int .i64 (t : Int)), (8, .int .i64 cc), (9, .int .i64 (j : Int)), (10, .int .i64 (sg (t - j) * bb)), (64, .int .i64 ((t : Int) + 1)), (65, .int .i64 (j : Int))] g ∧
                      M = (bl, csl) :: (bo, ints .i64 O2) :: (b1, [.int .i64 low, .slice (some ⟨bq, 0, none⟩) l.length cap]) :: L) ?_ ?_
                    · refine Cd.rs [5, 6, 7, 8, 9, 10, 64, 65, 86] fun K hK => ?_
                      simp (maxSteps := 2000000) (disch := first | (simp only [E4, d1, hO, hLc, gt, hO2, ekj, hdq, hqq] <;> omega) | omega | fail) only [↓E2, E3, bare, bareJ, ↓E0, E1, evP, evPlan, env0, envN, evOps, evOp, evQs, evQ, evV, setD, pureOp, ev, upd, updL, gate, binW, eqOp, binV, intOp, shOp, boolOp, unV, convV, nilV, fieldAddrV, indexAddrV, extractV, cellAt, cellsAt, findB, setB, fillL, buildV, Value.cells, lenV, minV, maxV, hav, sliceV, loV, hiV, bslQ, mksQ, appQ, partsOk, partsCells, delB, eqL, SameI, strOp, apzQ, cvtQ, capV, ↓reduceIte, Zj, Zk, Nat.reduceAdd, Nat.reduceLT, Nat.reduceEqDiff, Nat.reduceMul, Nat.reduceLeDiff, if_true, Zn, reduceCtorEq, ZA, eq_self, Int.reduceLE, Int.reduceLT, Int.reduceToNat, ne_eq, Nat.reduceSub, d1, hO, hLc, gt, hO2, ekj, hdq, hqq]
                      repeat refine And.intro (by omega) ?_
                      repeat refine And.intro (by omega) ?_
                      intro g
                      simp only [List.map_cons, List.map_nil, updL, upd, Nat.reduceEqDiff, if_true, if_false, ↓reduceIte]
                      refine hK _ _ ?_; clear hK K
                      refine Cd.cond rfl (fun h8 => ?_) (fun h8 => ?_)
                      · have hs : sg (t - j) * bb = 0 - bb := by
                          have : sg (t - j) = -1 := by
                            simp only [bne_iff_ne, ne_eq] at h8
                            unfold sg
                            rw [if_neg (by omega)]
                          rw [this]; omega
                        refine Cd.rr [5, 6, 7, 8, 9, 10, 64, 65] fun K hK => ?_
                        simp (maxSteps := 2000000) (disch := first | (simp only [E4, d1, hO, hLc, gt, hO2, ekj, hdq, hqq] <;> omega) | omega | fail) only [↓E2, E3, bare, bareJ, ↓E0, E1, evP, evPlan, env0, envN, evOps, evOp, evQs, evQ, evV, setD, pureOp, ev, upd, updL, gate, binW, eqOp, binV, intOp, shOp, boolOp, unV, convV, nilV, fieldAddrV, indexAddrV, extractV, cellAt, cellsAt, findB, setB, fillL, buildV, Value.cells, lenV, minV, maxV, hav, sliceV, loV, hiV, bslQ, mksQ, appQ, partsOk, partsCells, delB, eqL, SameI, strOp, apzQ, cvtQ, capV, ↓reduceIte, Zj, Zk, Nat.reduceAdd, Nat.reduceLT, Nat.reduceEqDiff, Nat.reduceMul, Nat.reduceLeDiff, if_true, Zn, reduceCtorEq, ZA, eq_self, Int.reduceLE, Int.reduceLT, Int.reduceToNat, ne_eq, Nat.reduceSub, d1, hO, hLc, gt, hO2, ekj, hdq, hqq]
                        repeat refine And.intro (by omega) ?_
                        rw [← hs]
                        repeat refine And.intro (by omega) ?_
                        intro g
                        simp only [List.map_cons, List.map_nil, updL, upd, Nat.reduceEqDiff, if_true, if_false, ↓reduceIte]
                        refine hK _ _ ?_; clear hK K
                        exact midN ⟨_, rfl, rfl⟩
                      · have hs : sg (t - j) * bb = bb := by
                          have : sg (t - j) = 1 := by
                            simp only [bne_eq_false_iff_eq] at h8
                            unfold sg
                            rw [if_pos (by omega)]
                          rw [this]; omega
                        refine Cd.skip ?_
                        exact midN ⟨_, by rw [hs]; exact (norm_of (by repeat (first | exact trivial | refine And.intro rfl ?_))), rfl⟩
                    · rintro ρ M ⟨g, rfl, rfl⟩
                      have hpp : -2000000000000 ≤ cc * (sg (t - j) * bb) ∧ cc * (sg (t - j) * bb) ≤ 2000000000000 := by
                        rcases sg_cases (t - j) with h | h
                        · rw [h, Int.one_mul]; exact hcbb
                        · rw [h, show cc * (-1 * bb) = -(cc * bb) by rw [Int.neg_mul, Int.one_mul, Int.mul_neg]]; omega
                      have hV2 : cwV t Lc j = Lc.getD j 0 - cc * (sg (t - j) * bb) := hV
                      generalize hpq : cc * (sg (t - j) * bb) = pq at *
                      have gset : (csl.set j (.int .i64 (cwV t Lc j)))[j]? = some (.int .i64 (cwV t Lc j)) := by
                        rw [List.getElem?_set_self (by omega)]
                      skip
                      refine Cd.rs [5, 6, 7, 8, 9, 64, 65] fun K hK => ?_
                      simp (maxSteps := 2000000) (disch := first | (simp only [E4, d1, hO, hLc, gt, hO2, ekj, hdq, hqq, gj, hpq] <;> omega) | omega | fail) only [↓E2, E3, bare, bareJ, ↓E0, E1, evP, evPlan, env0, envN, evOps, evOp, evQs, evQ, evV, setD, pureOp, ev, upd, updL, gate, binW, eqOp, binV, intOp, shOp, boolOp, unV, convV, nilV, fieldAddrV, indexAddrV, extractV, cellAt, cellsAt, findB, setB, fillL, buildV, Value.cells, lenV, minV, maxV, hav, sliceV, loV, hiV, bslQ, mksQ, appQ, partsOk, partsCells, delB, eqL, SameI, strOp, apzQ, cvtQ, capV, ↓reduceIte, Zj, Zk, Nat.reduceAdd, Nat.reduceLT, Nat.reduceEqDiff, Nat.reduceMul, Nat.reduceLeDiff, if_true, Zn, reduceCtorEq, ZA, eq_self, Int.reduceLE, Int.reduceLT, Int.reduceToNat, ne_eq, Nat.reduceSub, Tld2, Tslc47, Tst2, d1, hO, hLc, gt, hO2, ekj, hdq, hqq, gj, hpq]
                      repeat refine And.intro (by omega) ?_
                      rw [← hV2]
                      repeat refine And.intro (by omega) ?_
                      intro g
                      simp only [List.map_cons, List.map_nil, updL, upd, Nat.reduceEqDiff, if_true, if_false, ↓reduceIte]
                      refine hK _ _ ?_; clear hK K
                      skip
                      refine Cd.rs [5, 6, 7, 8, 64, 65, 103] fun K hK => ?_
                      simp (maxSteps := 2000000) (disch := first | (simp only [E4, d1, hO, hLc, gt, hO2, ekj, hdq, hqq, gj, hpq, gset] <;> omega) | omega | fail) only [↓E2, E3, bare, bareJ, ↓E0, E1, evP, evPlan, env0, envN, evOps, evOp, evQs, evQ, evV, setD, pureOp, ev, upd, updL, gate, binW, eqOp, binV, intOp, shOp, boolOp, unV, convV, nilV, fieldAddrV, indexAddrV, extractV, cellAt, cellsAt, findB, setB, fillL, buildV, Value.cells, lenV, minV, maxV, hav, sliceV, loV, hiV, bslQ, mksQ, appQ, partsOk, partsCells, delB, eqL, SameI, strOp, apzQ, cvtQ, capV, ↓reduceIte, Zj, Zk, Nat.reduceAdd, Nat.reduceLT, Nat.reduceEqDiff, Nat.reduceMul, Nat.reduceLeDiff, if_true, Zn, reduceCtorEq, ZA, eq_self, Int.reduceLE, Int.reduceLT, Int.reduceToNat, ne_eq, Nat.reduceSub, Tld2, Tslc47, d1, hO, hLc, gt, hO2, ekj, hdq, hqq, gj, hpq, gset]
                      repeat refine And.intro (by omega) ?_
                      refine callK_gives (isCoefficient_c _) ?_
                      simp (maxSteps := 2000000) (disch := first | (simp only [E4, d1, hO, hLc, gt, hO2, ekj, hdq, hqq, gj, hpq, gset] <;> omega) | omega | fail) only [↓E2, E3, bare, bareJ, ↓E0, E1, evP, evPlan, env0, envN, evOps, evOp, evQs, evQ, evV, setD, pureOp, ev, upd, updL, gate, binW, eqOp, binV, intOp, shOp, boolOp, unV, convV, nilV, fieldAddrV, indexAddrV, extractV, cellAt, cellsAt, findB, setB, fillL, buildV, Value.cells, lenV, minV, maxV, hav, sliceV, loV, hiV, bslQ, mksQ, appQ, partsOk, partsCells, delB, eqL, SameI, strOp, apzQ, cvtQ, capV, ↓reduceIte, Zj, Zk, Nat.reduceAdd, Nat.reduceLT, Nat.reduceEqDiff, Nat.reduceMul, Nat.reduceLeDiff, if_true, Zn, reduceCtorEq, ZA, eq_self, Int.reduceLE, Int.reduceLT, Int.reduceToNat, ne_eq, Nat.reduceSub, Tld2, Tslc47, d1, hO, hLc, gt, hO2, ekj, hdq, hqq, gj, hpq, gset]
                      repeat refine And.intro (by omega) ?_
                      repeat refine And.intro (by omega) ?_
                      intro g
                      simp only [List.map_cons, List.map_nil, updL, upd, Nat.reduceEqDiff, if_true, if_false, ↓reduceIte]
                      refine hK _ _ ?_; clear hK K
                      refine Cd.cond rfl (fun h9 => ?_) (fun h9 => ?_)
                      · have hbad : coOk (cwV t Lc j) = false := by simpa using h9
                        have hnk : ¬ cwOk t Lc := fun hk => by rw [hk j (by omega)] at hbad; cases hbad
                        rw [cwK_no hnk] at hcw
                        refine Cd.rs [2, 3] fun K hK => ?_
                        simp (maxSteps := 2000000) (disch := first | (simp only [E4, d1, hO, hLc, gt, hO2, ekj, hdq, hqq, gj, hpq, gset] <;> omega) | omega | fail) only [↓E2, E3, bare, bareJ, ↓E0, E1, evP, evPlan, env0, envN, evOps, evOp, evQs, evQ, evV, setD, pureOp, ev, upd, updL, gate, binW, eqOp, binV, intOp, shOp, boolOp, unV, convV, nilV, fieldAddrV, indexAddrV, extractV, cellAt, cellsAt, findB, setB, fillL, buildV, Value.cells, lenV, minV, maxV, hav, sliceV, loV, hiV, bslQ, mksQ, appQ, partsOk, partsCells, delB, eqL, SameI, strOp, apzQ, cvtQ, capV, ↓reduceIte, Zj, Zk, Nat.reduceAdd, Nat.reduceLT, Nat.reduceEqDiff, Nat.reduceMul, Nat.reduceLeDiff, if_true, Zn, reduceCtorEq, ZA, eq_self, Int.reduceLE, Int.reduceLT, Int.reduceToNat, ne_eq, Nat.reduceSub, d1, hO, hLc, gt, hO2, ekj, hdq, hqq, gj, hpq, gset]
                        repeat refine And.intro (by omega) ?_
                        repeat refine And.intro (by omega) ?_
                        intro g
                        simp only [List.map_cons, List.map_nil, updL, upd, Nat.reduceEqDiff, if_true, if_false, ↓reduceIte]
                        refine hK _ _ ?_; clear hK K
                        refine Cd.ret (inBR (thenR (roundR (inBR (inBR (thenR (roundR (inBR (thenR ?_)))))))))
                        simp (maxSteps := 2000000) (disch := first | (simp only [E4, d1, hO, hLc, gt, hO2, ekj, hdq, hqq, gj, hpq, gset] <;> omega) | omega | fail) only [↓E2, E3, bare, bareJ, ↓E0, E1, evP, evPlan, env0, envN, evOps, evOp, evQs, evQ, evV, setD, pureOp, ev, upd, updL, gate, binW, eqOp, binV, intOp, shOp, boolOp, unV, convV, nilV, fieldAddrV, indexAddrV, extractV, cellAt, cellsAt, findB, setB, fillL, buildV, Value.cells, lenV, minV, maxV, hav, sliceV, loV, hiV, bslQ, mksQ, appQ, partsOk, partsCells, delB, eqL, SameI, strOp, apzQ, cvtQ, capV, ↓reduceIte, Zj, Zk, Nat.reduceAdd, Nat.reduceLT, Nat.reduceEqDiff, Nat.reduceMul, Nat.reduceLeDiff, if_true, Zn, reduceCtorEq, ZA, eq_self, Int.reduceLE, Int.reduceLT, Int.reduceToNat, ne_eq, Nat.reduceSub, d1, hO, hLc, gt, hO2, ekj, hdq, hqq, gj, hpq, gset]
                        repeat refine And.intro (by omega) ?_
                        rw [hans, hcw]
                        exact keepQ.none hL (fun p hp => by simp [hp]) (conRes_no rfl rfl)
                      · have hgood : coOk (cwV t Lc j) = true := by simpa using h9
                        refine Cd.skip ?_
                        refine inBN ?_
                        refine thenN ?_
                        refine Cd.rr [5, 6, 7, 8, 64, 65] fun K hK => ?_
                        simp (maxSteps := 2000000) (disch := first | (simp only [E4, d1, hO, hLc, gt, hO2, ekj, hdq, hqq, gj, hpq, gset] <;> omega) | omega | fail) only [↓E2, E3, bare, bareJ, ↓E0, E1, evP, evPlan, env0, envN, evOps, evOp, evQs, evQ, evV, setD, pureOp, ev, upd, updL, gate, binW, eqOp, binV, intOp, shOp, boolOp, unV, convV, nilV, fieldAddrV, indexAddrV, extractV, cellAt, cellsAt, findB, setB, fillL, buildV, Value.cells, lenV, minV, maxV, hav, sliceV, loV, hiV, bslQ, mksQ, appQ, partsOk, partsCells, delB, eqL, SameI, strOp, apzQ, cvtQ, capV, ↓reduceIte, Zj, Zk, Nat.reduceAdd, Nat.reduceLT, Nat.reduceEqDiff, Nat.reduceMul, Nat.reduceLeDiff, if_true, Zn, reduceCtorEq, ZA, eq_self, Int.reduceLE, Int.reduceLT, Int.reduceToNat, ne_eq, Nat.reduceSub, d1, hO, hLc, gt, hO2, ekj, hdq, hqq, gj, hpq, gset]
                        repeat refine And.intro (by omega) ?_
                        repeat refine And.intro (by omega) ?_
                        intro g
                        simp only [List.map_cons, List.map_nil, updL, upd, Nat.reduceEqDiff, if_true, if_false, ↓reduceIte]
                        refine hK _ _ ?_; clear hK K
                        exact roundN (m := q - 1) (by omega) ⟨_, j + 1, _, by omega, cw_loop_in hall hgood, hset, rfl, rfl⟩
                · obtain rfl : j = t + 1 := by omega
                  have hokk : cwOk t Lc := fun i hi => hall i (by omega)
                  rw [cwK_yes hokk, hcd, hOO] at hcw
                  refine Cd.exit (thenX (roundX (inBX ?_)))
                  refine inBN ?_
                  refine thenN ?_
                  refine Cd.rr [5, 6, 7] fun K hK => ?_
                  simp (maxSteps := 2000000) (disch := first | (simp only [E4, d1, hO, hLc, gt, hO2] <;> omega) | omega | fail) only [↓E2, E3, bare, bareJ, ↓E0, E1, evP, evPlan, env0, envN, evOps, evOp, evQs, evQ, evV, setD, pureOp, ev, upd, updL, gate, binW, eqOp, binV, intOp, shOp, boolOp, unV, convV, nilV, fieldAddrV, indexAddrV, extractV, cellAt, cellsAt, findB, setB, fillL, buildV, Value.cells, lenV, minV, maxV, hav, sliceV, loV, hiV, bslQ, mksQ, appQ, partsOk, partsCells, delB, eqL, SameI, strOp, apzQ, cvtQ, capV, ↓reduceIte, Zj, Zk, Nat.reduceAdd, Nat.reduceLT, Nat.reduceEqDiff, Nat.reduceMul, Nat.reduceLeDiff, if_true, Zn, reduceCtorEq, ZA, eq_self, Int.reduceLE, Int.reduceLT, Int.reduceToNat, ne_eq, Nat.reduceSub, d1, hO, hLc, gt, hO2]
                  repeat refine And.intro (by omega) ?_
                  repeat refine And.intro (by omega) ?_
                  intro g
                  simp only [List.map_cons, List.map_nil, updL, upd, Nat.reduceEqDiff, if_true, if_false, ↓reduceIte]
                  refine hK _ _ ?_; clear hK K
                  exact roundN (m := t) (by omega) ⟨_, cwN t Lc, O2, csl, by omega, by rw [cwN_len, hLc], hO2, cwN_ok hokk hcc, hcw, hrow, rfl, rfl⟩
              · obtain rfl : n = 0 := by omega
                have hcw : cwK (d + 1) (l.drop d) (List.replicate (d + 1) 0) = some O := hcw
                refine Cd.exit (thenX (roundX (inBX ?_)))
                refine thenN ?_
                refine Cd.rs [2, 3] fun K hK => ?_
                simp (maxSteps := 2000000) (disch := first | (simp only [E4, d1, hO, hLc] <;> omega) | omega | fail) only [↓E2, E3, bare, bareJ, ↓E0, E1, evP, evPlan, env0, envN, evOps, evOp, evQs, evQ, evV, setD, pureOp, ev, upd, updL, gate, binW, eqOp, binV, intOp, shOp, boolOp, unV, convV, nilV, fieldAddrV, indexAddrV, extractV, cellAt, cellsAt, findB, setB, fillL, buildV, Value.cells, lenV, minV, maxV, hav, sliceV, loV, hiV, bslQ, mksQ, appQ, partsOk, partsCells, delB, eqL, SameI, strOp, apzQ, cvtQ, capV, ↓reduceIte, Zj, Zk, Nat.reduceAdd, Nat.reduceLT, Nat.reduceEqDiff, Nat.reduceMul, Nat.reduceLeDiff, if_true, Zn, reduceCtorEq, ZA, eq_self, Int.reduceLE, Int.reduceLT, Int.reduceToNat, ne_eq, Nat.reduceSub, d1, hO, hLc]
                repeat refine And.intro (by omega) ?_
                repeat refine And.intro (by omega) ?_
                intro g
                simp only [List.map_cons, List.map_nil, updL, upd, Nat.reduceEqDiff, if_true, if_false, ↓reduceIte]
                refine hK _ _ ?_; clear hK K
                refine Cd.ret ?_
                simp (maxSteps := 2000000) (disch := first | (simp only [E4, d1, hO, hLc] <;> omega) | omega | fail) only [↓E2, E3, bare, bareJ, ↓E0, E1, evP, evPlan, env0, envN, evOps, evOp, evQs, evQ, evV, setD, pureOp, ev, upd, updL, gate, binW, eqOp, binV, intOp, shOp, boolOp, unV, convV, nilV, fieldAddrV, indexAddrV, extractV, cellAt, cellsAt, findB, setB, fillL, buildV, Value.cells, lenV, minV, maxV, hav, sliceV, loV, hiV, bslQ, mksQ, appQ, partsOk, partsCells, delB, eqL, SameI, strOp, apzQ, cvtQ, capV, ↓reduceIte, Zj, Zk, Nat.reduceAdd, Nat.reduceLT, Nat.reduceEqDiff, Nat.reduceMul, Nat.reduceLeDiff, if_true, Zn, reduceCtorEq, ZA, eq_self, Int.reduceLE, Int.reduceLT, Int.reduceToNat, ne_eq, Nat.reduceSub, d1, hO, hLc]
                repeat refine And.intro (by omega) ?_
                rw [hans, hcw, show conOut (some O) = (O, 0) from rfl]
                refine ⟨[(bo, ints .i64 O)], fun p hp => by simp [hp], fun p hp => by rw [List.mem_singleton.1 hp]; simp, nodup_add hL (fun p hp => hp) fun p hp => (nodup_cases (nodup_cases hnd5).2).1 p (List.mem_cons_of_mem _ hp), _, rfl, SlN.row (Row.full (by rw [ints_length, hO, Nat.mul_one]))⟩
            clear hK
            have hle := hrq.le
            have hcd : (cap = d) = False := eq_false (by omega)
            have ed1 : ((d : Int) + 1).toNat = d + 1 := by omega
            have hz : List.replicate (d + 1) (Value.int .i64 0) = ints .i64 (List.replicate (d + 1) 0) := by simp [ints]
            have hpm : ∀ bo bl csl, SubP ((bl, csl) :: (bo, ints .i64 (List.replicate (d + 1) 0)) :: (b1, [.int .i64 low, .slice (some ⟨bq, 0, none⟩) l.length cap]) :: L) ((bo, ints .i64 (List.replicate (d + 1) 0)) :: (b1, [.int .i64 low, .slice (some ⟨bq, 0, none⟩) l.length cap]) :: (L ++ [(bl, csl)])) := fun bo bl csl =>
              .perm (M1 := (bo, ints .i64 (List.replicate (d + 1) 0)) :: (b1, [.int .i64 low, .slice (some ⟨bq, 0, none⟩) l.length cap]) :: (L ++ [(bl, csl)])) (List.perm_append_comm (l₁ := [(bl, csl)]) (l₂ := (bo, ints .i64 (List.replicate (d + 1) 0)) :: (b1, [.int .i64 low, .slice (some ⟨bq, 0, none⟩) l.length cap]) :: L)) (.refl _)
            skip
            simp (maxSteps := 2000000) (disch := first | (simp only [E4, hcd, edl] <;> omega) | omega | fail) only [↓E2, E3, bare, bareJ, ↓E0, E1, evP, evPlan, env0, envN, evOps, evOp, evQs, evQ, evV, setD, pureOp, ev, upd, updL, gate, binW, eqOp, binV, intOp, shOp, boolOp, unV, convV, nilV, fieldAddrV, indexAddrV, extractV, cellAt, cellsAt, findB, setB, fillL, buildV, Value.cells, lenV, minV, maxV, hav, sliceV, loV, hiV, bslQ, mksQ, appQ, partsOk, partsCells, delB, eqL, SameI, strOp, apzQ, cvtQ, capV, ↓reduceIte, Zj, Zk, Nat.reduceAdd, Nat.reduceLT, Nat.reduceEqDiff, Nat.reduceMul, Nat.reduceLeDiff, if_true, Zn, reduceCtorEq, ZA, eq_self, Int.reduceLE, Int.reduceLT, Int.reduceToNat, ne_eq, Nat.reduceSub, Tby2, Tfld56_1, Tld47, Tslc47, Tslce47, Tzero2, ↓YR, hcd, edl]
            refine moreX_go ?_ ?_
            · try simp (maxSteps := 2000000) (disch := first | (simp only [E4, hcd, edl] <;> omega) | omega | fail) only [↓E2, E3, bare, bareJ, ↓E0, E1, evP, evPlan, env0, envN, evOps, evOp, evQs, evQ, evV, setD, pureOp, ev, upd, updL, gate, binW, eqOp, binV, intOp, shOp, boolOp, unV, convV, nilV, fieldAddrV, indexAddrV, extractV, cellAt, cellsAt, findB, setB, fillL, buildV, Value.cells, lenV, minV, maxV, hav, sliceV, loV, hiV, bslQ, mksQ, appQ, partsOk, partsCells, delB, eqL, SameI, strOp, apzQ, cvtQ, capV, ↓reduceIte, Zj, Zk, Nat.reduceAdd, Nat.reduceLT, Nat.reduceEqDiff, Nat.reduceMul, Nat.reduceLeDiff, if_true, Zn, reduceCtorEq, ZA, eq_self, Int.reduceLE, Int.reduceLT, Int.reduceToNat, ne_eq, Nat.reduceSub, Tby2, Tfld56_1, Tld47, Tslc47, Tslce47, Tzero2, ↓YR, hcd, edl]
              repeat refine And.intro (by omega) ?_
              repeat refine And.intro (by omega) ?_
              refine moreX_go ?_ ?_
              · try simp (maxSteps := 2000000) (disch := first | (simp only [E4, hcd, edl] <;> omega) | omega | fail) only [↓E2, E3, bare, bareJ, ↓E0, E1, evP, evPlan, env0, envN, evOps, evOp, evQs, evQ, evV, setD, pureOp, ev, upd, updL, gate, binW, eqOp, binV, intOp, shOp, boolOp, unV, convV, nilV, fieldAddrV, indexAddrV, extractV, cellAt, cellsAt, findB, setB, fillL, buildV, Value.cells, lenV, minV, maxV, hav, sliceV, loV, hiV, bslQ, mksQ, appQ, partsOk, partsCells, delB, eqL, SameI, strOp, apzQ, cvtQ, capV, ↓reduceIte, Zj, Zk, Nat.reduceAdd, Nat.reduceLT, Nat.reduceEqDiff, Nat.reduceMul, Nat.reduceLeDiff, if_true, Zn, reduceCtorEq, ZA, eq_self, Int.reduceLE, Int.reduceLT, Int.reduceToNat, ne_eq, Nat.reduceSub, Tby2, Tfld56_1, Tld47, Tslc47, Tslce47, Tzero2, ↓YR, hcd, edl]
                repeat refine And.intro (by omega) ?_
                refine callO_newR0 (Clone_c (l.drop d) [(bq, d, ints .i64 (l.drop d))] _ (.inr ⟨bq, d, _, by rw [hld], fun h => by rw [h] at hld; simp at hld, fun _ => List.mem_singleton.2 rfl⟩) (by omega)) (HoldsAll.toldW (holds_drop hnd (by simp [hmem]) hrq)) ?_
                rintro v4 M4 hv4 nd4 _
                rcases hv4 with ⟨e, _, _⟩ | ⟨bl, m4, capl, csl, rfl, rfl, hr4⟩
                · have := congrArg List.length e
                  rw [ints_length, hld] at this
                  simp at this
                have hm4 := hr4.len1
                rw [ints_length, hld] at hm4
                subst hm4
                simp only [List.cons_append, List.nil_append]
                simp (maxSteps := 2000000) (disch := first | (simp only [E4, hcd, edl, ed1, hz] <;> omega) | omega | fail) only [↓E2, E3, bare, bareJ, ↓E0, E1, evP, evPlan, env0, envN, evOps, evOp, evQs, evQ, evV, setD, pureOp, ev, upd, updL, gate, binW, eqOp, binV, intOp, shOp, boolOp, unV, convV, nilV, fieldAddrV, indexAddrV, extractV, cellAt, cellsAt, findB, setB, fillL, buildV, Value.cells, lenV, minV, maxV, hav, sliceV, loV, hiV, bslQ, mksQ, appQ, partsOk, partsCells, delB, eqL, SameI, strOp, apzQ, cvtQ, capV, ↓reduceIte, Zj, Zk, Nat.reduceAdd, Nat.reduceLT, Nat.reduceEqDiff, Nat.reduceMul, Nat.reduceLeDiff, if_true, Zn, reduceCtorEq, ZA, eq_self, Int.reduceLE, Int.reduceLT, Int.reduceToNat, ne_eq, Nat.reduceSub, Tby2, Tfld56_1, Tld47, Tslc47, Tslce47, Tzero2, ↓YR, hcd, edl, ed1, hz]
                repeat refine And.intro (by omega) ?_
                intro bo hbo
                repeat refine And.intro (by omega) ?_
                intro g
                simp only [List.map_cons, List.map_nil, updL, upd, Nat.reduceEqDiff, if_true, if_false, ↓reduceIte]
                exact J2 g bl capl csl bo _ hr4 (hpm bo bl csl)
              · simp (maxSteps := 2000000) (disch := first | (simp only [E4, hcd, edl, ed1, hz] <;> omega) | omega | fail) only [↓E2, E3, bare, bareJ, ↓E0, E1, evP, evPlan, env0, envN, evOps, evOp, evQs, evQ, evV, setD, pureOp, ev, upd, updL, gate, binW, eqOp, binV, intOp, shOp, boolOp, unV, convV, nilV, fieldAddrV, indexAddrV, extractV, cellAt, cellsAt, findB, setB, fillL, buildV, Value.cells, lenV, minV, maxV, hav, sliceV, loV, hiV, bslQ, mksQ, appQ, partsOk, partsCells, delB, eqL, SameI, strOp, apzQ, cvtQ, capV, ↓reduceIte, Zj, Zk, Nat.reduceAdd, Nat.reduceLT, Nat.reduceEqDiff, Nat.reduceMul, Nat.reduceLeDiff, if_true, Zn, reduceCtorEq, ZA, eq_self, Int.reduceLE, Int.reduceLT, Int.reduceToNat, ne_eq, Nat.reduceSub, Tby2, Tfld56_1, Tld47, Tslc47, Tslce47, Tzero2, ↓YR, hcd, edl, ed1, hz]
                repeat refine And.intro (by omega) ?_
                intro bo hbo
                have hndo := nodup_fr (cs := ints .i64 (List.replicate (d + 1) 0)) hbo hnd
                try simp (maxSteps := 2000000) (disch := first | (simp only [E4, hcd, edl] <;> omega) | omega | fail) only [↓E2, E3, bare, bareJ, ↓E0, E1, evP, evPlan, env0, envN, evOps, evOp, evQs, evQ, evV, setD, pureOp, ev, upd, updL, gate, binW, eqOp, binV, intOp, shOp, boolOp, unV, convV, nilV, fieldAddrV, indexAddrV, extractV, cellAt, cellsAt, findB, setB, fillL, buildV, Value.cells, lenV, minV, maxV, hav, sliceV, loV, hiV, bslQ, mksQ, appQ, partsOk, partsCells, delB, eqL, SameI, strOp, apzQ, cvtQ, capV, ↓reduceIte, Zj, Zk, Nat.reduceAdd, Nat.reduceLT, Nat.reduceEqDiff, Nat.reduceMul, Nat.reduceLeDiff, if_true, Zn, reduceCtorEq, ZA, eq_self, Int.reduceLE, Int.reduceLT, Int.reduceToNat, ne_eq, Nat.reduceSub, Tby2, Tfld56_1, Tld47, Tslc47, Tslce47, Tzero2, ↓YR, hcd, edl]
                repeat refine And.intro (by omega) ?_
                refine callO_newR0 (Clone_c (l.drop d) [(bq, d, ints .i64 (l.drop d))] _ (.inr ⟨bq, d, _, by rw [hld], fun h => by rw [h] at hld; simp at hld, fun _ => List.mem_singleton.2 rfl⟩) (by omega)) (HoldsAll.toldW (holds_drop hndo (by simp [hmem]) hrq)) ?_
                rintro v4 M4 hv4 nd4 _
                rcases hv4 with ⟨e, _, _⟩ | ⟨bl, m4, capl, csl, rfl, rfl, hr4⟩
                · have := congrArg List.length e
                  rw [ints_length, hld] at this
                  simp at this
                have hm4 := hr4.len1
                rw [ints_length, hld] at hm4
                subst hm4
                simp only [List.cons_append, List.nil_append]
                simp (maxSteps := 2000000) (disch := first | (simp only [E4, hcd, edl, ed1, hz] <;> omega) | omega | fail) only [↓E2, E3, bare, bareJ, ↓E0, E1, evP, evPlan, env0, envN, evOps, evOp, evQs, evQ, evV, setD, pureOp, ev, upd, updL, gate, binW, eqOp, binV, intOp, shOp, boolOp, unV, convV, nilV, fieldAddrV, indexAddrV, extractV, cellAt, cellsAt, findB, setB, fillL, buildV, Value.cells, lenV, minV, maxV, hav, sliceV, loV, hiV, bslQ, mksQ, appQ, partsOk, partsCells, delB, eqL, SameI, strOp, apzQ, cvtQ, capV, ↓reduceIte, Zj, Zk, Nat.reduceAdd, Nat.reduceLT, Nat.reduceEqDiff, Nat.reduceMul, Nat.reduceLeDiff, if_true, Zn, reduceCtorEq, ZA, eq_self, Int.reduceLE, Int.reduceLT, Int.reduceToNat, ne_eq, Nat.reduceSub, Tby2, Tfld56_1, Tld47, Tslc47, Tslce47, Tzero2, ↓YR, hcd, edl, ed1, hz]
                repeat refine And.intro (by omega) ?_
                intro g
                simp only [List.map_cons, List.map_nil, updL, upd, Nat.reduceEqDiff, if_true, if_false, ↓reduceIte]
                exact J2 g bl capl csl bo _ hr4 (hpm bo bl csl)
            · simp (maxSteps := 2000000) (disch := first | (simp only [E4, hcd, edl, ed1, hz] <;> omega) | omega | fail) only [↓E2, E3, bare, bareJ, ↓E0, E1, evP, evPlan, env0, envN, evOps, evOp, evQs, evQ, evV, setD, pureOp, ev, upd, updL, gate, binW, eqOp, binV, intOp, shOp, boolOp, unV, convV, nilV, fieldAddrV, indexAddrV, extractV, cellAt, cellsAt, findB, setB, fillL, buildV, Value.cells, lenV, minV, maxV, hav, sliceV, loV, hiV, bslQ, mksQ, appQ, partsOk, partsCells, delB, eqL, SameI, strOp, apzQ, cvtQ, capV, ↓reduceIte, Zj, Zk, Nat.reduceAdd, Nat.reduceLT, Nat.reduceEqDiff, Nat.reduceMul, Nat.reduceLeDiff, if_true, Zn, reduceCtorEq, ZA, eq_self, Int.reduceLE, Int.reduceLT, Int.reduceToNat, ne_eq, Nat.reduceSub, Tby2, Tfld56_1, Tld47, Tslc47, Tslce47, Tzero2, ↓YR, hcd, edl, ed1, hz]
              repeat refine And.intro (by omega) ?_
              intro bo hbo
              have hndo := nodup_fr (cs := ints .i64 (List.replicate (d + 1) 0)) hbo hnd
              have nbo : (bo = b1) = False := eq_false (hbo.2 (b1, [.int .i64 low, .slice (some ⟨bq, 0, none⟩) l.length cap]) (by simp))
              simp (maxSteps := 2000000) (disch := first | (simp only [E4, hcd, edl, nbo] <;> omega) | omega | fail) only [↓E2, E3, bare, bareJ, ↓E0, E1, evP, evPlan, env0, envN, evOps, evOp, evQs, evQ, evV, setD, pureOp, ev, upd, updL, gate, binW, eqOp, binV, intOp, shOp, boolOp, unV, convV, nilV, fieldAddrV, indexAddrV, extractV, cellAt, cellsAt, findB, setB, fillL, buildV, Value.cells, lenV, minV, maxV, hav, sliceV, loV, hiV, bslQ, mksQ, appQ, partsOk, partsCells, delB, eqL, SameI, strOp, apzQ, cvtQ, capV, ↓reduceIte, Zj, Zk, Nat.reduceAdd, Nat.reduceLT, Nat.reduceEqDiff, Nat.reduceMul, Nat.reduceLeDiff, if_true, Zn, reduceCtorEq, ZA, eq_self, Int.reduceLE, Int.reduceLT, Int.reduceToNat, ne_eq, Nat.reduceSub, Tby2, Tfld56_1, Tld47, Tslc47, Tslce47, Tzero2, ↓YR, hcd, edl, nbo]
              repeat refine And.intro (by omega) ?_
              refine callO_newR0 (Clone_c (l.drop d) [(bq, d, ints .i64 (l.drop d))] _ (.inr ⟨bq, d, _, by rw [hld], fun h => by rw [h] at hld; simp at hld, fun _ => List.mem_singleton.2 rfl⟩) (by omega)) (HoldsAll.toldW (holds_drop hndo (by simp [hmem]) hrq)) ?_
              rintro v4 M4 hv4 nd4 _
              rcases hv4 with ⟨e, _, _⟩ | ⟨bl, m4, capl, csl, rfl, rfl, hr4⟩
              · have := congrArg List.length e
                rw [ints_length, hld] at this
                simp at this
              have hm4 := hr4.len1
              rw [ints_length, hld] at hm4
              subst hm4
              simp only [List.cons_append, List.nil_append]
              simp (maxSteps := 2000000) (disch := first | (simp only [E4, hcd, edl, ed1, hz] <;> omega) | omega | fail) only [↓E2, E3, bare, bareJ, ↓E0, E1, evP, evPlan, env0, envN, evOps, evOp, evQs, evQ, evV, setD, pureOp, ev, upd, updL, gate, binW, eqOp, binV, intOp, shOp, boolOp, unV, convV, nilV, fieldAddrV, indexAddrV, extractV, cellAt, cellsAt, findB, setB, fillL, buildV, Value.cells, lenV, minV, maxV, hav, sliceV, loV, hiV, bslQ, mksQ, appQ, partsOk, partsCells, delB, eqL, SameI, strOp, apzQ, cvtQ, capV, ↓reduceIte, Zj, Zk, Nat.reduceAdd, Nat.reduceLT, Nat.reduceEqDiff, Nat.reduceMul, Nat.reduceLeDiff, if_true, Zn, reduceCtorEq, ZA, eq_self, Int.reduceLE, Int.reduceLT, Int.reduceToNat, ne_eq, Nat.reduceSub, Tby2, Tfld56_1, Tld47, Tslc47, Tslce47, Tzero2, ↓YR, hcd, edl, ed1, hz]
              repeat refine And.intro (by omega) ?_
              intro g
              simp only [List.map_cons, List.map_nil, updL, upd, Nat.reduceEqDiff, if_true, if_false, ↓reduceIte]
              exact J2 g bl capl csl bo _ hr4 (hpm bo bl csl)
      clear hK
      have hsub1 : ∀ A B : Blks, SubP ((b1, [.int .i64 low, .slice a l.length cap]) :: L) ((b1, [.int .i64 low, .slice a l.length cap]) :: (L ++ (A ++ B))) := fun A B => SubP.of (.cons_cons _ (List.sublist_append_left _ _))
      have hsub2 : ∀ A : Blks, SubP ((b1, [.int .i64 low, .slice a l.length cap]) :: L) ((b1, [.int .i64 low, .slice a l.length cap]) :: (L ++ A)) := fun A => SubP.of (.cons_cons _ (List.sublist_append_left _ _))
      by_cases hrev : l.reverse = l
      · have hEq : decide (l.reverse = l) = true := decide_eq_true hrev
        have hbn : (mirLow low l != low) = decide (¬ isSym low l) := by
          rw [hml]
          unfold isSym
          rw [Bool.eq_iff_iff, bne_iff_ne, decide_eq_true_eq]
          constructor
          · rintro h ⟨_, h2⟩; omega
          · intro h e; exact h ⟨hrev, by omega⟩
        simp (maxSteps := 2000000) (disch := first | (simp only [E4] <;> omega) | omega | fail) only [↓E2, E3, bare, bareJ, ↓E0, E1, evP, evPlan, env0, envN, evOps, evOp, evQs, evQ, evV, setD, pureOp, ev, upd, updL, gate, binW, eqOp, binV, intOp, shOp, boolOp, unV, convV, nilV, fieldAddrV, indexAddrV, extractV, cellAt, cellsAt, findB, setB, fillL, buildV, Value.cells, lenV, minV, maxV, hav, sliceV, loV, hiV, bslQ, mksQ, appQ, partsOk, partsCells, delB, eqL, SameI, strOp, apzQ, cvtQ, capV, ↓reduceIte, Zj, Zk, Nat.reduceAdd, Nat.reduceLT, Nat.reduceEqDiff, Nat.reduceMul, Nat.reduceLeDiff, if_true, Zn, reduceCtorEq, ZA, eq_self, Int.reduceLE, Int.reduceLT, Int.reduceToNat, ne_eq, Nat.reduceSub, Tagg2, Tagg47, Tfld56_0, Tfld56_1, Thas2, Thas47, Tld2, Tld47, Tld56, Tpar2, Tpar47, Tsz2, Tsz47, ↓YR]
        refine moreX_go ?_ ?_
        all_goals
          try simp (maxSteps := 2000000) (disch := first | (simp only [E4] <;> omega) | omega | fail) only [↓E2, E3, bare, bareJ, ↓E0, E1, evP, evPlan, env0, envN, evOps, evOp, evQs, evQ, evV, setD, pureOp, ev, upd, updL, gate, binW, eqOp, binV, intOp, shOp, boolOp, unV, convV, nilV, fieldAddrV, indexAddrV, extractV, cellAt, cellsAt, findB, setB, fillL, buildV, Value.cells, lenV, minV, maxV, hav, sliceV, loV, hiV, bslQ, mksQ, appQ, partsOk, partsCells, delB, eqL, SameI, strOp, apzQ, cvtQ, capV, ↓reduceIte, Zj, Zk, Nat.reduceAdd, Nat.reduceLT, Nat.reduceEqDiff, Nat.reduceMul, Nat.reduceLeDiff, if_true, Zn, reduceCtorEq, ZA, eq_self, Int.reduceLE, Int.reduceLT, Int.reduceToNat, ne_eq, Nat.reduceSub, Tagg2, Tagg47, Tfld56_0, Tfld56_1, Thas2, Thas47, Tld2, Tld47, Tld56, Tpar2, Tpar47, Tsz2, Tsz47, ↓YR]
          repeat refine And.intro (by omega) ?_
          refine callO_newR0 (mirror_c low l (toldOf L) _ hrd hok) (HoldsAll.toldW (holds_mem hnd fun p hp => by simp [hp])) ?_
          rintro vm Mm ⟨sm, rfl, hsm⟩ ndm _
          obtain ⟨am, mm, cm, rfl⟩ := hsm.form
          simp only [List.cons_append, List.nil_append] at ndm ⊢
          simp (maxSteps := 2000000) (disch := first | (simp only [E4, fieldV, partV, Bool.and_self, agg2_0, agg2_1] <;> omega) | omega | fail) only [↓E2, E3, bare, bareJ, ↓E0, E1, evP, evPlan, env0, envN, evOps, evOp, evQs, evQ, evV, setD, pureOp, ev, upd, updL, gate, binW, eqOp, binV, intOp, shOp, boolOp, unV, convV, nilV, fieldAddrV, indexAddrV, extractV, cellAt, cellsAt, findB, setB, fillL, buildV, Value.cells, lenV, minV, maxV, hav, sliceV, loV, hiV, bslQ, mksQ, appQ, partsOk, partsCells, delB, eqL, SameI, strOp, apzQ, cvtQ, capV, ↓reduceIte, Zj, Zk, Nat.reduceAdd, Nat.reduceLT, Nat.reduceEqDiff, Nat.reduceMul, Nat.reduceLeDiff, if_true, Zn, reduceCtorEq, ZA, eq_self, Int.reduceLE, Int.reduceLT, Int.reduceToNat, ne_eq, Nat.reduceSub, Tagg2, Tagg47, Tfld56_0, Tfld56_1, Thas2, Thas47, Tld2, Tld47, Tld56, Tpar2, Tpar47, Tsz2, Tsz47, ↓YR, fieldV, partV, Bool.and_self, agg2_0, agg2_1]
          refine callP_reads0 (Equal_c l.reverse l (toldOf (L ++ Mm)) _ _ (hsm.reads fun p hp => mem_toldOf (List.mem_append_right _ hp)) (hsl.more (by rw [toldOf_append]; exact fun r hr => List.mem_append_left _ hr)) (by simp; omega) (by omega)) (holds_mem ndm fun p hp => by simp only [List.mem_append] at hp; rcases hp with hp | hp <;> simp [hp]) ?_
          rw [hEq]
          simp (maxSteps := 2000000) (disch := first | (simp only [E4] <;> omega) | omega | fail) only [↓E2, E3, bare, bareJ, ↓E0, E1, evP, evPlan, env0, envN, evOps, evOp, evQs, evQ, evV, setD, pureOp, ev, upd, updL, gate, binW, eqOp, binV, intOp, shOp, boolOp, unV, convV, nilV, fieldAddrV, indexAddrV, extractV, cellAt, cellsAt, findB, setB, fillL, buildV, Value.cells, lenV, minV, maxV, hav, sliceV, loV, hiV, bslQ, mksQ, appQ, partsOk, partsCells, delB, eqL, SameI, strOp, apzQ, cvtQ, capV, ↓reduceIte, Zj, Zk, Nat.reduceAdd, Nat.reduceLT, Nat.reduceEqDiff, Nat.reduceMul, Nat.reduceLeDiff, if_true, Zn, reduceCtorEq, ZA, eq_self, Int.reduceLE, Int.reduceLT, Int.reduceToNat, ne_eq, Nat.reduceSub, Tagg2, Tagg47, Tfld56_0, Tfld56_1, Thas2, Thas47, Tld2, Tld47, Tld56, Tpar2, Tpar47, Tsz2, Tsz47, ↓YR]
          repeat' first
              | with_reducible refine moreX_go ?_ ?_
              | simp (maxSteps := 2000000) (disch := first | (simp only [E4] <;> omega) | omega | fail) only [↓E2, E3, bare, bareJ, ↓E0, E1, evP, evPlan, env0, envN, evOps, evOp, evQs, evQ, evV, setD, pureOp, ev, upd, updL, gate, binW, eqOp, binV, intOp, shOp, boolOp, unV, convV, nilV, fieldAddrV, indexAddrV, extractV, cellAt, cellsAt, findB, setB, fillL, buildV, Value.cells, lenV, minV, maxV, hav, sliceV, loV, hiV, bslQ, mksQ, appQ, partsOk, partsCells, delB, eqL, SameI, strOp, apzQ, cvtQ, capV, ↓reduceIte, Zj, Zk, Nat.reduceAdd, Nat.reduceLT, Nat.reduceEqDiff, Nat.reduceMul, Nat.reduceLeDiff, if_true, Zn, reduceCtorEq, ZA, eq_self, Int.reduceLE, Int.reduceLT, Int.reduceToNat, ne_eq, Nat.reduceSub, Tagg2, Tagg47, Tfld56_0, Tfld56_1, Thas2, Thas47, Tld2, Tld47, Tld56, Tpar2, Tpar47, Tsz2, Tsz47, ↓YR, fieldV, partV, Bool.and_self, agg2_0, agg2_1, hbn]
              | (refine callO_newR0 (mirror_c low l (toldOf L) _ hrd hok) (HoldsAll.toldW (holds_mem ndm fun p hp => by simp [hp])) ?_; rintro v2 M2 ⟨s2, rfl, h2⟩ nd2 _; obtain ⟨a2, m2, c2, rfl⟩ := h2.form; simp only [List.cons_append, List.nil_append, List.append_assoc])
          all_goals
            repeat refine And.intro (by omega) ?_
            intro g
            simp only [List.map_cons, List.map_nil, updL, upd, Nat.reduceEqDiff, if_true, if_false, ↓reduceIte]
            first | exact J g _ (hsub2 _) | exact J g _ (hsub1 _ _)
      · have hEq : decide (l.reverse = l) = false := decide_eq_false hrev
        have hbn : decide (¬ isSym low l) = true := decide_eq_true fun h => hrev h.1
        rw [hbn] at J
        simp (maxSteps := 2000000) (disch := first | (simp only [E4] <;> omega) | omega | fail) only [↓E2, E3, bare, bareJ, ↓E0, E1, evP, evPlan, env0, envN, evOps, evOp, evQs, evQ, evV, setD, pureOp, ev, upd, updL, gate, binW, eqOp, binV, intOp, shOp, boolOp, unV, convV, nilV, fieldAddrV, indexAddrV, extractV, cellAt, cellsAt, findB, setB, fillL, buildV, Value.cells, lenV, minV, maxV, hav, sliceV, loV, hiV, bslQ, mksQ, appQ, partsOk, partsCells, delB, eqL, SameI, strOp, apzQ, cvtQ, capV, ↓reduceIte, Zj, Zk, Nat.reduceAdd, Nat.reduceLT, Nat.reduceEqDiff, Nat.reduceMul, Nat.reduceLeDiff, if_true, Zn, reduceCtorEq, ZA, eq_self, Int.reduceLE, Int.reduceLT, Int.reduceToNat, ne_eq, Nat.reduceSub, Tagg2, Tagg47, Tfld56_0, Tfld56_1, Thas2, Thas47, Tld2, Tld47, Tld56, Tpar2, Tpar47, Tsz2, Tsz47, ↓YR]
        refine moreX_go ?_ ?_
        all_goals
          try simp (maxSteps := 2000000) (disch := first | (simp only [E4] <;> omega) | omega | fail) only [↓E2, E3, bare, bareJ, ↓E0, E1, evP, evPlan, env0, envN, evOps, evOp, evQs, evQ, evV, setD, pureOp, ev, upd, updL, gate, binW, eqOp, binV, intOp, shOp, boolOp, unV, convV, nilV, fieldAddrV, indexAddrV, extractV, cellAt, cellsAt, findB, setB, fillL, buildV, Value.cells, lenV, minV, maxV, hav, sliceV, loV, hiV, bslQ, mksQ, appQ, partsOk, partsCells, delB, eqL, SameI, strOp, apzQ, cvtQ, capV, ↓reduceIte, Zj, Zk, Nat.reduceAdd, Nat.reduceLT, Nat.reduceEqDiff, Nat.reduceMul, Nat.reduceLeDiff, if_true, Zn, reduceCtorEq, ZA, eq_self, Int.reduceLE, Int.reduceLT, Int.reduceToNat, ne_eq, Nat.reduceSub, Tagg2, Tagg47, Tfld56_0, Tfld56_1, Thas2, Thas47, Tld2, Tld47, Tld56, Tpar2, Tpar47, Tsz2, Tsz47, ↓YR]
          repeat refine And.intro (by omega) ?_
          refine callO_newR0 (mirror_c low l (toldOf L) _ hrd hok) (HoldsAll.toldW (holds_mem hnd fun p hp => by simp [hp])) ?_
          rintro vm Mm ⟨sm, rfl, hsm⟩ ndm _
          obtain ⟨am, mm, cm, rfl⟩ := hsm.form
          simp only [List.cons_append, List.nil_append] at ndm ⊢
          simp (maxSteps := 2000000) (disch := first | (simp only [E4, fieldV, partV, Bool.and_self, agg2_0, agg2_1] <;> omega) | omega | fail) only [↓E2, E3, bare, bareJ, ↓E0, E1, evP, evPlan, env0, envN, evOps, evOp, evQs, evQ, evV, setD, pureOp, ev, upd, updL, gate, binW, eqOp, binV, intOp, shOp, boolOp, unV, convV, nilV, fieldAddrV, indexAddrV, extractV, cellAt, cellsAt, findB, setB, fillL, buildV, Value.cells, lenV, minV, maxV, hav, sliceV, loV, hiV, bslQ, mksQ, appQ, partsOk, partsCells, delB, eqL, SameI, strOp, apzQ, cvtQ, capV, ↓reduceIte, Zj, Zk, Nat.reduceAdd, Nat.reduceLT, Nat.reduceEqDiff, Nat.reduceMul, Nat.reduceLeDiff, if_true, Zn, reduceCtorEq, ZA, eq_self, Int.reduceLE, Int.reduceLT, Int.reduceToNat, ne_eq, Nat.reduceSub, Tagg2, Tagg47, Tfld56_0, Tfld56_1, Thas2, Thas47, Tld2, Tld47, Tld56, Tpar2, Tpar47, Tsz2, Tsz47, ↓YR, fieldV, partV, Bool.and_self, agg2_0, agg2_1]
          refine callP_reads0 (Equal_c l.reverse l (toldOf (L ++ Mm)) _ _ (hsm.reads fun p hp => mem_toldOf (List.mem_append_right _ hp)) (hsl.more (by rw [toldOf_append]; exact fun r hr => List.mem_append_left _ hr)) (by simp; omega) (by omega)) (holds_mem ndm fun p hp => by simp only [List.mem_append] at hp; rcases hp with hp | hp <;> simp [hp]) ?_
          rw [hEq]
          simp (maxSteps := 2000000) (disch := first | (simp only [E4] <;> omega) | omega | fail) only [↓E2, E3, bare, bareJ, ↓E0, E1, evP, evPlan, env0, envN, evOps, evOp, evQs, evQ, evV, setD, pureOp, ev, upd, updL, gate, binW, eqOp, binV, intOp, shOp, boolOp, unV, convV, nilV, fieldAddrV, indexAddrV, extractV, cellAt, cellsAt, findB, setB, fillL, buildV, Value.cells, lenV, minV, maxV, hav, sliceV, loV, hiV, bslQ, mksQ, appQ, partsOk, partsCells, delB, eqL, SameI, strOp, apzQ, cvtQ, capV, ↓reduceIte, Zj, Zk, Nat.reduceAdd, Nat.reduceLT, Nat.reduceEqDiff, Nat.reduceMul, Nat.reduceLeDiff, if_true, Zn, reduceCtorEq, ZA, eq_self, Int.reduceLE, Int.reduceLT, Int.reduceToNat, ne_eq, Nat.reduceSub, Tagg2, Tagg47, Tfld56_0, Tfld56_1, Thas2, Thas47, Tld2, Tld47, Tld56, Tpar2, Tpar47, Tsz2, Tsz47, ↓YR]
          repeat' first
              | with_reducible refine moreX_go ?_ ?_
              | simp (maxSteps := 2000000) (disch := first | (simp only [E4] <;> omega) | omega | fail) only [↓E2, E3, bare, bareJ, ↓E0, E1, evP, evPlan, env0, envN, evOps, evOp, evQs, evQ, evV, setD, pureOp, ev, upd, updL, gate, binW, eqOp, binV, intOp, shOp, boolOp, unV, convV, nilV, fieldAddrV, indexAddrV, extractV, cellAt, cellsAt, findB, setB, fillL, buildV, Value.cells, lenV, minV, maxV, hav, sliceV, loV, hiV, bslQ, mksQ, appQ, partsOk, partsCells, delB, eqL, SameI, strOp, apzQ, cvtQ, capV, ↓reduceIte, Zj, Zk, Nat.reduceAdd, Nat.reduceLT, Nat.reduceEqDiff, Nat.reduceMul, Nat.reduceLeDiff, if_true, Zn, reduceCtorEq, ZA, eq_self, Int.reduceLE, Int.reduceLT, Int.reduceToNat, ne_eq, Nat.reduceSub, Tagg2, Tagg47, Tfld56_0, Tfld56_1, Thas2, Thas47, Tld2, Tld47, Tld56, Tpar2, Tpar47, Tsz2, Tsz47, ↓YR, fieldV, partV, Bool.and_self, agg2_0, agg2_1, hbn]
          all_goals
            repeat refine And.intro (by omega) ?_
            intro g
            simp only [List.map_cons, List.map_nil, updL, upd, Nat.reduceEqDiff, if_true, if_false, ↓reduceIte]
            first | exact J g _ (hsub2 _) | exact J g _ (hsub1 _ _)
end

end Go.Proofs

/-
  What the functions of this part hand back: each as a plain function of its arguments. Conditions: none.
-/
namespace Go.Proofs
open Go.W8
set_option linter.unusedVariables false
set_option linter.unusedSimpArgs false
set_option linter.unusedSectionVars false
set_option maxRecDepth 8000
set_option maxHeartbeats 4000000
theorem lawConwayOf_c (R : Rd) (low : Int) (l : List Int) (v : Value) (wl : -9223372036854775808 ≤ low ∧ low < 9223372036854775808) (rl : ∀ n ∈ l, -9223372036854775808 ≤ n ∧ n < 9223372036854775808) (h : InS R l v) (hb : l.length ≤ 9223372036854775807) : GivesR Try.prog 8 #[.agg #[.int .i64 low, v]] R (.bool true) := by
  obtain ⟨a, cap, rfl, _⟩ := id h
  refine GivesR.of (callable_of Try.func8 rfl (by decide)) fun w hR => ?_
  refine acall_of (N := 96) (c := _) (rs := [.tmp 2]) (args := [_]) Try.func8 rfl (by decide) rfl rfl (Nat.le_of_ble_eq_true rfl) ?_
  refine Cd.rs [1] fun K hK => ?_
  simp (maxSteps := 2000000) (disch := first | omega | (simp only [E4, *] <;> omega) | fail) only [↓E0, E1, evP, evPlan, env0, envN, evOps, evOp, evQs, evQ, evV, setD, pureOp, ev, upd, updL, gate, binW, eqOp, binV, intOp, shOp, boolOp, unV, convV, nilV, fieldAddrV, indexAddrV, extractV, cellAt, cellsAt, findB, setB, fillL, buildV, Value.cells, lenV, minV, maxV, hav, sliceV, loV, hiV, bslQ, mksQ, appQ, partsOk, partsCells, delB, eqL, SameI, strOp, apzQ, cvtQ, capV, ↓reduceIte, Zj, Zk, Nat.reduceAdd, Nat.reduceLT, Nat.reduceEqDiff, Nat.reduceMul, Nat.reduceLeDiff, if_true, Zn, reduceCtorEq, ZA, eq_self, Int.reduceLE, Int.reduceLT, Int.reduceToNat, ne_eq, Nat.reduceSub]
  intro b1 hb1
  try simp (maxSteps := 2000000) (disch := first | omega | (simp only [E4, *] <;> omega) | fail) only [↓E0, E1, evP, evPlan, env0, envN, evOps, evOp, evQs, evQ, evV, setD, pureOp, ev, upd, updL, gate, binW, eqOp, binV, intOp, shOp, boolOp, unV, convV, nilV, fieldAddrV, indexAddrV, extractV, cellAt, cellsAt, findB, setB, fillL, buildV, Value.cells, lenV, minV, maxV, hav, sliceV, loV, hiV, bslQ, mksQ, appQ, partsOk, partsCells, delB, eqL, SameI, strOp, apzQ, cvtQ, capV, ↓reduceIte, Zj, Zk, Nat.reduceAdd, Nat.reduceLT, Nat.reduceEqDiff, Nat.reduceMul, Nat.reduceLeDiff, if_true, Zn, reduceCtorEq, ZA, eq_self, Int.reduceLE, Int.reduceLT, Int.reduceToNat, ne_eq, Nat.reduceSub]
  repeat refine And.intro (by omega) ?_
  intro g
  simp only [List.map_cons, List.map_nil, updL, upd, Nat.reduceEqDiff, if_true, if_false, ↓reduceIte]
  refine hK _ _ ?_; clear hK K
  refine Cd.rs [1, 3] fun K hK => ?_
  simp (maxSteps := 2000000) (disch := first | omega | (simp only [E4, *] <;> omega) | fail) only [↓E0, E1, evP, evPlan, env0, envN, evOps, evOp, evQs, evQ, evV, setD, pureOp, ev, upd, updL, gate, binW, eqOp, binV, intOp, shOp, boolOp, unV, convV, nilV, fieldAddrV, indexAddrV, extractV, cellAt, cellsAt, findB, setB, fillL, buildV, Value.cells, lenV, minV, maxV, hav, sliceV, loV, hiV, bslQ, mksQ, appQ, partsOk, partsCells, delB, eqL, SameI, strOp, apzQ, cvtQ, capV, ↓reduceIte, Zj, Zk, Nat.reduceAdd, Nat.reduceLT, Nat.reduceEqDiff, Nat.reduceMul, Nat.reduceLeDiff, if_true, Zn, reduceCtorEq, ZA, eq_self, Int.reduceLE, Int.reduceLT, Int.reduceToNat, ne_eq, Nat.reduceSub]
  repeat refine And.intro (by omega) ?_
  intro g
  simp only [List.map_cons, List.map_nil, updL, upd, Nat.reduceEqDiff, if_true, if_false, ↓reduceIte]
  refine hK _ _ ?_; clear hK K
  refine Cd.rs [1, 3] fun K hK => ?_
  simp (maxSteps := 2000000) (disch := first | omega | (simp only [E4, *] <;> omega) | fail) only [↓E0, E1, evP, evPlan, env0, envN, evOps, evOp, evQs, evQ, evV, setD, pureOp, ev, upd, updL, gate, binW, eqOp, binV, intOp, shOp, boolOp, unV, convV, nilV, fieldAddrV, indexAddrV, extractV, cellAt, cellsAt, findB, setB, fillL, buildV, Value.cells, lenV, minV, maxV, hav, sliceV, loV, hiV, bslQ, mksQ, appQ, partsOk, partsCells, delB, eqL, SameI, strOp, apzQ, cvtQ, capV, ↓reduceIte, Zj, Zk, Nat.reduceAdd, Nat.reduceLT, Nat.reduceEqDiff, Nat.reduceMul, Nat.reduceLeDiff, if_true, Zn, reduceCtorEq, ZA, eq_self, Int.reduceLE, Int.reduceLT, Int.reduceToNat, ne_eq, Nat.reduceSub, Tld61]
  refine callK_gives (szLaurent_c low l.length a cap 1048576 (by omega) (by omega)) ?_
  simp (maxSteps := 2000000) (disch := first | omega | (simp only [E4, *] <;> omega) | fail) only [↓E0, E1, evP, evPlan, env0, envN, evOps, evOp, evQs, evQ, evV, setD, pureOp, ev, upd, updL, gate, binW, eqOp, binV, intOp, shOp, boolOp, unV, convV, nilV, fieldAddrV, indexAddrV, extractV, cellAt, cellsAt, findB, setB, fillL, buildV, Value.cells, lenV, minV, maxV, hav, sliceV, loV, hiV, bslQ, mksQ, appQ, partsOk, partsCells, delB, eqL, SameI, strOp, apzQ, cvtQ, capV, ↓reduceIte, Zj, Zk, Nat.reduceAdd, Nat.reduceLT, Nat.reduceEqDiff, Nat.reduceMul, Nat.reduceLeDiff, if_true, Zn, reduceCtorEq, ZA, eq_self, Int.reduceLE, Int.reduceLT, Int.reduceToNat, ne_eq, Nat.reduceSub, Tld61]
  repeat refine And.intro (by omega) ?_
  intro g
  simp only [List.map_cons, List.map_nil, updL, upd, Nat.reduceEqDiff, if_true, if_false, ↓reduceIte]
  refine hK _ _ ?_; clear hK K
  refine Cd.seq ?_
  refine Cd.rs [1, 18] fun K hK => ?_
  simp (maxSteps := 2000000) (disch := first | omega | (simp only [E4, *] <;> omega) | fail) only [↓E0, E1, evP, evPlan, env0, envN, evOps, evOp, evQs, evQ, evV, setD, pureOp, ev, upd, updL, gate, binW, eqOp, binV, intOp, shOp, boolOp, unV, convV, nilV, fieldAddrV, indexAddrV, extractV, cellAt, cellsAt, findB, setB, fillL, buildV, Value.cells, lenV, minV, maxV, hav, sliceV, loV, hiV, bslQ, mksQ, appQ, partsOk, partsCells, delB, eqL, SameI, strOp, apzQ, cvtQ, capV, ↓reduceIte, Zj, Zk, Nat.reduceAdd, Nat.reduceLT, Nat.reduceEqDiff, Nat.reduceMul, Nat.reduceLeDiff, if_true, Zn, reduceCtorEq, ZA, eq_self, Int.reduceLE, Int.reduceLT, Int.reduceToNat, ne_eq, Nat.reduceSub]
  repeat refine And.intro (by omega) ?_
  intro g
  simp only [List.map_cons, List.map_nil, updL, upd, Nat.reduceEqDiff, if_true, if_false, ↓reduceIte]
  refine hK _ _ ?_; clear hK K
  refine Cd.condd rfl (fun h1 => ?_) (fun h1 => ?_)
  · refine Cd.rs [2] fun K hK => ?_
    simp (maxSteps := 2000000) (disch := first | omega | (simp only [E4, *] <;> omega) | fail) only [↓E0, E1, evP, evPlan, env0, envN, evOps, evOp, evQs, evQ, evV, setD, pureOp, ev, upd, updL, gate, binW, eqOp, binV, intOp, shOp, boolOp, unV, convV, nilV, fieldAddrV, indexAddrV, extractV, cellAt, cellsAt, findB, setB, fillL, buildV, Value.cells, lenV, minV, maxV, hav, sliceV, loV, hiV, bslQ, mksQ, appQ, partsOk, partsCells, delB, eqL, SameI, strOp, apzQ, cvtQ, capV, ↓reduceIte, Zj, Zk, Nat.reduceAdd, Nat.reduceLT, Nat.reduceEqDiff, Nat.reduceMul, Nat.reduceLeDiff, if_true, Zn, reduceCtorEq, ZA, eq_self, Int.reduceLE, Int.reduceLT, Int.reduceToNat, ne_eq, Nat.reduceSub]
    repeat refine And.intro (by omega) ?_
    intro g
    simp only [List.map_cons, List.map_nil, updL, upd, Nat.reduceEqDiff, if_true, if_false, ↓reduceIte]
    refine hK _ _ ?_; clear hK K
    refine Cd.ret (thenR ?_)
    simp (maxSteps := 2000000) (disch := first | omega | (simp only [E4, *] <;> omega) | fail) only [↓E0, E1, evP, evPlan, env0, envN, evOps, evOp, evQs, evQ, evV, setD, pureOp, ev, upd, updL, gate, binW, eqOp, binV, intOp, shOp, boolOp, unV, convV, nilV, fieldAddrV, indexAddrV, extractV, cellAt, cellsAt, findB, setB, fillL, buildV, Value.cells, lenV, minV, maxV, hav, sliceV, loV, hiV, bslQ, mksQ, appQ, partsOk, partsCells, delB, eqL, SameI, strOp, apzQ, cvtQ, capV, ↓reduceIte, Zj, Zk, Nat.reduceAdd, Nat.reduceLT, Nat.reduceEqDiff, Nat.reduceMul, Nat.reduceLeDiff, if_true, Zn, reduceCtorEq, ZA, eq_self, Int.reduceLE, Int.reduceLT, Int.reduceToNat, ne_eq, Nat.reduceSub]
  · have hl : l.length ≤ 1048576 := by
      split at h1 <;> omega
    have hS := fun v' L' h' hn' => sConway_c low l v' L' h' hn' (by omega) wl
    have hI := fun v' L' h' hn' => iConway_c low l v' L' h' hn' (by omega) wl
    have hA := conAns_len low l
    generalize conAns low l = A at hS hI hA
    obtain ⟨rl2, rc⟩ := A
    simp only at hA
    refine Cd.skip ?_
    refine thenN ?_
    refine Cd.rs [1, 4, 5] fun K hK => ?_
    simp (maxSteps := 2000000) (disch := first | omega | (simp only [E4, *] <;> omega) | fail) only [↓E0, E1, evP, evPlan, env0, envN, evOps, evOp, evQs, evQ, evV, setD, pureOp, ev, upd, updL, gate, binW, eqOp, binV, intOp, shOp, boolOp, unV, convV, nilV, fieldAddrV, indexAddrV, extractV, cellAt, cellsAt, findB, setB, fillL, buildV, Value.cells, lenV, minV, maxV, hav, sliceV, loV, hiV, bslQ, mksQ, appQ, partsOk, partsCells, delB, eqL, SameI, strOp, apzQ, cvtQ, capV, ↓reduceIte, Zj, Zk, Nat.reduceAdd, Nat.reduceLT, Nat.reduceEqDiff, Nat.reduceMul, Nat.reduceLeDiff, if_true, Zn, reduceCtorEq, ZA, eq_self, Int.reduceLE, Int.reduceLT, Int.reduceToNat, ne_eq, Nat.reduceSub, Tld61]
    refine callK_newR0 (toLaurent_c low l R _ h (by omega)) (Told.toldW hR) ?_
    intro v5 M5 hv5 nd5 _
    simp only [List.cons_append, List.nil_append] at nd5 ⊢
    simp (maxSteps := 2000000) (disch := first | omega | (simp only [E4, *] <;> omega) | fail) only [↓E0, E1, evP, evPlan, env0, envN, evOps, evOp, evQs, evQ, evV, setD, pureOp, ev, upd, updL, gate, binW, eqOp, binV, intOp, shOp, boolOp, unV, convV, nilV, fieldAddrV, indexAddrV, extractV, cellAt, cellsAt, findB, setB, fillL, buildV, Value.cells, lenV, minV, maxV, hav, sliceV, loV, hiV, bslQ, mksQ, appQ, partsOk, partsCells, delB, eqL, SameI, strOp, apzQ, cvtQ, capV, ↓reduceIte, Zj, Zk, Nat.reduceAdd, Nat.reduceLT, Nat.reduceEqDiff, Nat.reduceMul, Nat.reduceLeDiff, if_true, Zn, reduceCtorEq, ZA, eq_self, Int.reduceLE, Int.reduceLT, Int.reduceToNat, ne_eq, Nat.reduceSub, Tld61]
    refine callK_keep0 (hS v5 M5 hv5 (nodup_cases nd5).2) nd5 (fun p hp => by simp [hp]) (nodup_cases nd5).2 ?_
    rintro _ Mw ⟨_, rfl, hw⟩ _ _
    obtain ⟨aw, mw, cw, rfl⟩ := hw.form
    simp only [List.cons_append, List.nil_append]
    simp (maxSteps := 2000000) (disch := first | omega | (simp only [E4, *] <;> omega) | fail) only [↓E0, E1, evP, evPlan, env0, envN, evOps, evOp, evQs, evQ, evV, setD, pureOp, ev, upd, updL, gate, binW, eqOp, binV, intOp, shOp, boolOp, unV, convV, nilV, fieldAddrV, indexAddrV, extractV, cellAt, cellsAt, findB, setB, fillL, buildV, Value.cells, lenV, minV, maxV, hav, sliceV, loV, hiV, bslQ, mksQ, appQ, partsOk, partsCells, delB, eqL, SameI, strOp, apzQ, cvtQ, capV, ↓reduceIte, Zj, Zk, Nat.reduceAdd, Nat.reduceLT, Nat.reduceEqDiff, Nat.reduceMul, Nat.reduceLeDiff, if_true, Zn, reduceCtorEq, ZA, eq_self, Int.reduceLE, Int.reduceLT, Int.reduceToNat, ne_eq, Nat.reduceSub, Tld61]
    repeat refine And.intro (by omega) ?_
    intro g
    simp only [List.map_cons, List.map_nil, updL, upd, Nat.reduceEqDiff, if_true, if_false, ↓reduceIte]
    refine hK _ _ ?_; clear hK K
    refine Cd.drop (M' := (b1, [.int .i64 low, .slice a l.length cap]) :: Mw) (List.Sublist.cons_cons _ (List.sublist_append_right _ _)) ?_
    clear hv5 nd5
    refine Cd.rs [1, 4, 5, 6] fun K hK => ?_
    simp (maxSteps := 2000000) (disch := first | omega | (simp only [E4, *] <;> omega) | fail) only [↓E0, E1, evP, evPlan, env0, envN, evOps, evOp, evQs, evQ, evV, setD, pureOp, ev, upd, updL, gate, binW, eqOp, binV, intOp, shOp, boolOp, unV, convV, nilV, fieldAddrV, indexAddrV, extractV, cellAt, cellsAt, findB, setB, fillL, buildV, Value.cells, lenV, minV, maxV, hav, sliceV, loV, hiV, bslQ, mksQ, appQ, partsOk, partsCells, delB, eqL, SameI, strOp, apzQ, cvtQ, capV, ↓reduceIte, Zj, Zk, Nat.reduceAdd, Nat.reduceLT, Nat.reduceEqDiff, Nat.reduceMul, Nat.reduceLeDiff, if_true, Zn, reduceCtorEq, ZA, eq_self, Int.reduceLE, Int.reduceLT, Int.reduceToNat, ne_eq, Nat.reduceSub, Tld61, Tst56, Tzero56]
    refine callK_newR0 (toLaurent_c low l R _ h (by omega)) (Told.toldW hR) ?_
    rintro v6 Mx ⟨s6, rfl, hv6⟩ nd6 _
    obtain ⟨a6, m6, cap6, rfl⟩ := hv6.form
    simp only [List.cons_append, List.nil_append] at nd6 ⊢
    simp (maxSteps := 2000000) (disch := first | omega | (simp only [E4, *] <;> omega) | fail) only [↓E0, E1, evP, evPlan, env0, envN, evOps, evOp, evQs, evQ, evV, setD, pureOp, ev, upd, updL, gate, binW, eqOp, binV, intOp, shOp, boolOp, unV, convV, nilV, fieldAddrV, indexAddrV, extractV, cellAt, cellsAt, findB, setB, fillL, buildV, Value.cells, lenV, minV, maxV, hav, sliceV, loV, hiV, bslQ, mksQ, appQ, partsOk, partsCells, delB, eqL, SameI, strOp, apzQ, cvtQ, capV, ↓reduceIte, Zj, Zk, Nat.reduceAdd, Nat.reduceLT, Nat.reduceEqDiff, Nat.reduceMul, Nat.reduceLeDiff, if_true, Zn, reduceCtorEq, ZA, eq_self, Int.reduceLE, Int.reduceLT, Int.reduceToNat, ne_eq, Nat.reduceSub, Tld61, Tst56, Tzero56]
    intro b2 hb2
    have nb2_b1 := hb2.ne
    try simp (maxSteps := 2000000) (disch := first | omega | (simp only [E4, nb2_b1, *] <;> omega) | fail) only [↓E0, E1, evP, evPlan, env0, envN, evOps, evOp, evQs, evQ, evV, setD, pureOp, ev, upd, updL, gate, binW, eqOp, binV, intOp, shOp, boolOp, unV, convV, nilV, fieldAddrV, indexAddrV, extractV, cellAt, cellsAt, findB, setB, fillL, buildV, Value.cells, lenV, minV, maxV, hav, sliceV, loV, hiV, bslQ, mksQ, appQ, partsOk, partsCells, delB, eqL, SameI, strOp, apzQ, cvtQ, capV, ↓reduceIte, Zj, Zk, Nat.reduceAdd, Nat.reduceLT, Nat.reduceEqDiff, Nat.reduceMul, Nat.reduceLeDiff, if_true, Zn, reduceCtorEq, ZA, eq_self, Int.reduceLE, Int.reduceLT, Int.reduceToNat, ne_eq, Nat.reduceSub, Tld61, Tst56, Tzero56, nb2_b1]
    repeat refine And.intro (by omega) ?_
    intro g
    simp only [List.map_cons, List.map_nil, updL, upd, Nat.reduceEqDiff, if_true, if_false, ↓reduceIte]
    refine hK _ _ ?_; clear hK K
    refine Cd.nodup fun nd7 => ?_
    refine Cd.rs [1, 4, 5, 6, 7, 8] fun K hK => ?_
    simp (maxSteps := 2000000) (disch := first | omega | (simp only [E4, nb2_b1, *] <;> omega) | fail) only [↓E0, E1, evP, evPlan, env0, envN, evOps, evOp, evQs, evQ, evV, setD, pureOp, ev, upd, updL, gate, binW, eqOp, binV, intOp, shOp, boolOp, unV, convV, nilV, fieldAddrV, indexAddrV, extractV, cellAt, cellsAt, findB, setB, fillL, buildV, Value.cells, lenV, minV, maxV, hav, sliceV, loV, hiV, bslQ, mksQ, appQ, partsOk, partsCells, delB, eqL, SameI, strOp, apzQ, cvtQ, capV, ↓reduceIte, Zj, Zk, Nat.reduceAdd, Nat.reduceLT, Nat.reduceEqDiff, Nat.reduceMul, Nat.reduceLeDiff, if_true, Zn, reduceCtorEq, ZA, eq_self, Int.reduceLE, Int.reduceLT, Int.reduceToNat, ne_eq, Nat.reduceSub, Tld56, nb2_b1]
    have ndx : (Mx.map (·.1)).Nodup := by
      have := (nodup_cases (nodup_cases nd7).2).2
      rw [List.map_append, List.nodup_append] at this
      exact this.2.1
    refine callK_keep0 (hI _ Mx ⟨_, rfl, hv6⟩ ndx) nd7 (fun p hp => by simp [hp]) ndx ?_
    rintro _ Mg ⟨_, rfl, hg⟩ _ _
    obtain ⟨ag, mg, cg, rfl⟩ := hg.form
    simp only [List.cons_append, List.nil_append, List.append_assoc]
    simp (maxSteps := 2000000) (disch := first | omega | (simp only [E4, nb2_b1, *] <;> omega) | fail) only [↓E0, E1, evP, evPlan, env0, envN, evOps, evOp, evQs, evQ, evV, setD, pureOp, ev, upd, updL, gate, binW, eqOp, binV, intOp, shOp, boolOp, unV, convV, nilV, fieldAddrV, indexAddrV, extractV, cellAt, cellsAt, findB, setB, fillL, buildV, Value.cells, lenV, minV, maxV, hav, sliceV, loV, hiV, bslQ, mksQ, appQ, partsOk, partsCells, delB, eqL, SameI, strOp, apzQ, cvtQ, capV, ↓reduceIte, Zj, Zk, Nat.reduceAdd, Nat.reduceLT, Nat.reduceEqDiff, Nat.reduceMul, Nat.reduceLeDiff, if_true, Zn, reduceCtorEq, ZA, eq_self, Int.reduceLE, Int.reduceLT, Int.reduceToNat, ne_eq, Nat.reduceSub, Tld56, nb2_b1]
    repeat refine And.intro (by omega) ?_
    intro g
    simp only [List.map_cons, List.map_nil, updL, upd, Nat.reduceEqDiff, if_true, if_false, ↓reduceIte]
    refine hK _ _ ?_; clear hK K
    refine Cd.nodup fun nd8 => ?_
    refine Cd.seq ?_
    refine Cd.rs [1, 4, 5, 6, 7, 8, 40] fun K hK => ?_
    simp (maxSteps := 2000000) (disch := first | omega | (simp only [E4, nb2_b1, *] <;> omega) | fail) only [↓E0, E1, evP, evPlan, env0, envN, evOps, evOp, evQs, evQ, evV, setD, pureOp, ev, upd, updL, gate, binW, eqOp, binV, intOp, shOp, boolOp, unV, convV, nilV, fieldAddrV, indexAddrV, extractV, cellAt, cellsAt, findB, setB, fillL, buildV, Value.cells, lenV, minV, maxV, hav, sliceV, loV, hiV, bslQ, mksQ, appQ, partsOk, partsCells, delB, eqL, SameI, strOp, apzQ, cvtQ, capV, ↓reduceIte, Zj, Zk, Nat.reduceAdd, Nat.reduceLT, Nat.reduceEqDiff, Nat.reduceMul, Nat.reduceLeDiff, if_true, Zn, reduceCtorEq, ZA, eq_self, Int.reduceLE, Int.reduceLT, Int.reduceToNat, ne_eq, Nat.reduceSub, nb2_b1]
    refine callK_reads0 (eqInt64S_c rl2 (toldOf (Mw ++ Mg)) _ _ (hg.reads fun p hp => mem_toldOf (List.mem_append_right _ hp)) (hw.reads fun p hp => mem_toldOf (List.mem_append_left _ hp)) (by omega)) (holds_mem nd8 fun p hp => by simp only [List.mem_append] at hp; rcases hp with hp | hp <;> simp [hp]) ?_
    simp (maxSteps := 2000000) (disch := first | omega | (simp only [E4, nb2_b1, *] <;> omega) | fail) only [↓E0, E1, evP, evPlan, env0, envN, evOps, evOp, evQs, evQ, evV, setD, pureOp, ev, upd, updL, gate, binW, eqOp, binV, intOp, shOp, boolOp, unV, convV, nilV, fieldAddrV, indexAddrV, extractV, cellAt, cellsAt, findB, setB, fillL, buildV, Value.cells, lenV, minV, maxV, hav, sliceV, loV, hiV, bslQ, mksQ, appQ, partsOk, partsCells, delB, eqL, SameI, strOp, apzQ, cvtQ, capV, ↓reduceIte, Zj, Zk, Nat.reduceAdd, Nat.reduceLT, Nat.reduceEqDiff, Nat.reduceMul, Nat.reduceLeDiff, if_true, Zn, reduceCtorEq, ZA, eq_self, Int.reduceLE, Int.reduceLT, Int.reduceToNat, ne_eq, Nat.reduceSub, nb2_b1]
    repeat refine And.intro (by omega) ?_
    intro g
    simp only [List.map_cons, List.map_nil, updL, upd, Nat.reduceEqDiff, if_true, if_false, ↓reduceIte]
    refine hK _ _ ?_; clear hK K
    refine Cd.no rfl ?_
    refine Cd.skip ?_
    refine thenN ?_
    refine Cd.seq ?_
    refine Cd.ps [1, 4, 5, 6, 7, 8, 45] (Plan.take 1 (Plan.more 0 (Plan.one 2 (Plan.take 3 (Plan.take 4 (Plan.done)))) (Plan.one 2 (Plan.take 0 (Plan.take 3 (Plan.take 4 (Plan.done))))))) fol (by kernel_rfl) (Nat.le_of_ble_eq_true rfl) fun K hK => ?_
    simp (maxSteps := 2000000) (disch := first | omega | (simp only [E4, nb2_b1, *] <;> omega) | fail) only [↓E0, E1, evP, evPlan, env0, envN, evOps, evOp, evQs, evQ, evV, setD, pureOp, ev, upd, updL, gate, binW, eqOp, binV, intOp, shOp, boolOp, unV, convV, nilV, fieldAddrV, indexAddrV, extractV, cellAt, cellsAt, findB, setB, fillL, buildV, Value.cells, lenV, minV, maxV, hav, sliceV, loV, hiV, bslQ, mksQ, appQ, partsOk, partsCells, delB, eqL, SameI, strOp, apzQ, cvtQ, capV, ↓reduceIte, Zj, Zk, Nat.reduceAdd, Nat.reduceLT, Nat.reduceEqDiff, Nat.reduceMul, Nat.reduceLeDiff, if_true, Zn, reduceCtorEq, ZA, eq_self, Int.reduceLE, Int.reduceLT, Int.reduceToNat, ne_eq, Nat.reduceSub, Tld56, Tld61, ↓YR, nb2_b1]
    refine moreX_go ?_ ?_
    all_goals
      simp (maxSteps := 2000000) (disch := first | omega | (simp only [E4, nb2_b1, *] <;> omega) | fail) only [↓E0, E1, evP, evPlan, env0, envN, evOps, evOp, evQs, evQ, evV, setD, pureOp, ev, upd, updL, gate, binW, eqOp, binV, intOp, shOp, boolOp, unV, convV, nilV, fieldAddrV, indexAddrV, extractV, cellAt, cellsAt, findB, setB, fillL, buildV, Value.cells, lenV, minV, maxV, hav, sliceV, loV, hiV, bslQ, mksQ, appQ, partsOk, partsCells, delB, eqL, SameI, strOp, apzQ, cvtQ, capV, ↓reduceIte, Zj, Zk, Nat.reduceAdd, Nat.reduceLT, Nat.reduceEqDiff, Nat.reduceMul, Nat.reduceLeDiff, if_true, Zn, reduceCtorEq, ZA, eq_self, Int.reduceLE, Int.reduceLT, Int.reduceToNat, ne_eq, Nat.reduceSub, Tld56, Tld61, ↓YR, nb2_b1]
      refine callO_newR0 (toLaurent_c low l R _ h (by omega)) (Told.toldW hR) ?_
      intro v8 M8 hv8 nd8 _
      simp only [List.cons_append, List.nil_append, List.append_assoc] at nd8 ⊢
      simp (maxSteps := 2000000) (disch := first | omega | (simp only [E4, nb2_b1, *] <;> omega) | fail) only [↓E0, E1, evP, evPlan, env0, envN, evOps, evOp, evQs, evQ, evV, setD, pureOp, ev, upd, updL, gate, binW, eqOp, binV, intOp, shOp, boolOp, unV, convV, nilV, fieldAddrV, indexAddrV, extractV, cellAt, cellsAt, findB, setB, fillL, buildV, Value.cells, lenV, minV, maxV, hav, sliceV, loV, hiV, bslQ, mksQ, appQ, partsOk, partsCells, delB, eqL, SameI, strOp, apzQ, cvtQ, capV, ↓reduceIte, Zj, Zk, Nat.reduceAdd, Nat.reduceLT, Nat.reduceEqDiff, Nat.reduceMul, Nat.reduceLeDiff, if_true, Zn, reduceCtorEq, ZA, eq_self, Int.reduceLE, Int.reduceLT, Int.reduceToNat, ne_eq, Nat.reduceSub, Tld56, Tld61, ↓YR, nb2_b1]
      refine callP_reads0 (eqLaurent_c low l (toldOf (Mx ++ M8)) _ _ ⟨_, rfl, hv6.reads fun p hp => mem_toldOf (List.mem_append_left _ hp)⟩ (hv8.reads fun p hp => mem_toldOf (List.mem_append_right _ hp)) (by omega)) (holds_mem nd8 fun p hp => by simp only [List.mem_append] at hp; rcases hp with hp | hp <;> simp [hp]) ?_
      simp (maxSteps := 2000000) (disch := first | omega | (simp only [E4, nb2_b1, *] <;> omega) | fail) only [↓E0, E1, evP, evPlan, env0, envN, evOps, evOp, evQs, evQ, evV, setD, pureOp, ev, upd, updL, gate, binW, eqOp, binV, intOp, shOp, boolOp, unV, convV, nilV, fieldAddrV, indexAddrV, extractV, cellAt, cellsAt, findB, setB, fillL, buildV, Value.cells, lenV, minV, maxV, hav, sliceV, loV, hiV, bslQ, mksQ, appQ, partsOk, partsCells, delB, eqL, SameI, strOp, apzQ, cvtQ, capV, ↓reduceIte, Zj, Zk, Nat.reduceAdd, Nat.reduceLT, Nat.reduceEqDiff, Nat.reduceMul, Nat.reduceLeDiff, if_true, Zn, reduceCtorEq, ZA, eq_self, Int.reduceLE, Int.reduceLT, Int.reduceToNat, ne_eq, Nat.reduceSub, Tld56, Tld61, ↓YR, nb2_b1]
      repeat refine And.intro (by omega) ?_
      intro g
      simp only [List.map_cons, List.map_nil, updL, upd, Nat.reduceEqDiff, if_true, if_false, ↓reduceIte]
      refine hK _ _ ?_; clear hK K
      have hper : SubP ((b2, [.int .i64 low, .slice a6 m6 cap6]) :: (b1, [.int .i64 low, .slice a l.length cap]) :: (Mw ++ (Mg ++ Mx))) ((b2, [.int .i64 low, .slice a6 m6 cap6]) :: (b1, [.int .i64 low, .slice a l.length cap]) :: (Mw ++ (Mx ++ (Mg ++ M8)))) := by
        refine SubP.perm (M1 := (b2, [.int .i64 low, .slice a6 m6 cap6]) :: (b1, [.int .i64 low, .slice a l.length cap]) :: (Mw ++ (Mx ++ Mg))) ?_ ?_
        · exact .cons _ (.cons _ (.append_left _ List.perm_append_comm))
        · exact .cons_cons _ (.cons_cons _ (.append_left (.append_left (List.sublist_append_left _ _) _) _))
      refine Cd.sub hper ?_
      refine Cd.nodup fun nd9 => ?_
      refine Cd.no rfl ?_
      refine Cd.skip ?_
      refine thenN ?_
      refine Cd.rs [1, 4, 5, 6, 7, 8, 9] fun K hK => ?_
      simp (maxSteps := 2000000) (disch := first | omega | (simp only [E4, nb2_b1, *] <;> omega) | fail) only [↓E0, E1, evP, evPlan, env0, envN, evOps, evOp, evQs, evQ, evV, setD, pureOp, ev, upd, updL, gate, binW, eqOp, binV, intOp, shOp, boolOp, unV, convV, nilV, fieldAddrV, indexAddrV, extractV, cellAt, cellsAt, findB, setB, fillL, buildV, Value.cells, lenV, minV, maxV, hav, sliceV, loV, hiV, bslQ, mksQ, appQ, partsOk, partsCells, delB, eqL, SameI, strOp, apzQ, cvtQ, capV, ↓reduceIte, Zj, Zk, Nat.reduceAdd, Nat.reduceLT, Nat.reduceEqDiff, Nat.reduceMul, Nat.reduceLeDiff, if_true, Zn, reduceCtorEq, ZA, eq_self, Int.reduceLE, Int.reduceLT, Int.reduceToNat, ne_eq, Nat.reduceSub, nb2_b1]
      repeat refine And.intro (by omega) ?_
      intro g
      simp only [List.map_cons, List.map_nil, updL, upd, Nat.reduceEqDiff, if_true, if_false, ↓reduceIte]
      refine hK _ _ ?_; clear hK K
      refine Cd.rs [1, 4, 5, 7, 8, 9] fun K hK => ?_
      simp (maxSteps := 2000000) (disch := first | omega | (simp only [E4, nb2_b1, *] <;> omega) | fail) only [↓E0, E1, evP, evPlan, env0, envN, evOps, evOp, evQs, evQ, evV, setD, pureOp, ev, upd, updL, gate, binW, eqOp, binV, intOp, shOp, boolOp, unV, convV, nilV, fieldAddrV, indexAddrV, extractV, cellAt, cellsAt, findB, setB, fillL, buildV, Value.cells, lenV, minV, maxV, hav, sliceV, loV, hiV, bslQ, mksQ, appQ, partsOk, partsCells, delB, eqL, SameI, strOp, apzQ, cvtQ, capV, ↓reduceIte, Zj, Zk, Nat.reduceAdd, Nat.reduceLT, Nat.reduceEqDiff, Nat.reduceMul, Nat.reduceLeDiff, if_true, Zn, reduceCtorEq, ZA, eq_self, Int.reduceLE, Int.reduceLT, Int.reduceToNat, ne_eq, Nat.reduceSub, Tld56, nb2_b1]
      refine callK_lentB0 (Mr := (b2, [.int .i64 low, .slice a6 m6 cap6]) :: (b1, [.int .i64 low, .slice a l.length cap]) :: (Mw ++ Mg)) (L := Mx) (markLaurent_c low l _ Mx ⟨_, rfl, hv6⟩ 1 (by omega)) (by simpa using nd9) (by simp) (fun _ _ => toldW_nil) ?_
      rintro r Mx' ⟨rfl, _⟩ _ _
      simp (maxSteps := 2000000) (disch := first | omega | (simp only [E4, nb2_b1, *] <;> omega) | fail) only [↓E0, E1, evP, evPlan, env0, envN, evOps, evOp, evQs, evQ, evV, setD, pureOp, ev, upd, updL, gate, binW, eqOp, binV, intOp, shOp, boolOp, unV, convV, nilV, fieldAddrV, indexAddrV, extractV, cellAt, cellsAt, findB, setB, fillL, buildV, Value.cells, lenV, minV, maxV, hav, sliceV, loV, hiV, bslQ, mksQ, appQ, partsOk, partsCells, delB, eqL, SameI, strOp, apzQ, cvtQ, capV, ↓reduceIte, Zj, Zk, Nat.reduceAdd, Nat.reduceLT, Nat.reduceEqDiff, Nat.reduceMul, Nat.reduceLeDiff, if_true, Zn, reduceCtorEq, ZA, eq_self, Int.reduceLE, Int.reduceLT, Int.reduceToNat, ne_eq, Nat.reduceSub, Tld56, nb2_b1]
      repeat refine And.intro (by omega) ?_
      intro g
      simp only [List.map_cons, List.map_nil, updL, upd, Nat.reduceEqDiff, if_true, if_false, ↓reduceIte]
      refine hK _ _ ?_; clear hK K
      refine Cd.drop (List.sublist_append_left _ _) ?_
      refine Cd.nodup fun nd10 => ?_
      refine Cd.seq ?_
      have hk0 : decide (((1 + l.length : Nat) : Int) < 0) = false := decide_eq_false (by omega)
      skip
      refine Cd.rs [1, 4, 5, 7, 61] fun K hK => ?_
      simp (maxSteps := 2000000) (disch := first | omega | (simp only [E4, nb2_b1, hk0, *] <;> omega) | fail) only [↓E0, E1, evP, evPlan, env0, envN, evOps, evOp, evQs, evQ, evV, setD, pureOp, ev, upd, updL, gate, binW, eqOp, binV, intOp, shOp, boolOp, unV, convV, nilV, fieldAddrV, indexAddrV, extractV, cellAt, cellsAt, findB, setB, fillL, buildV, Value.cells, lenV, minV, maxV, hav, sliceV, loV, hiV, bslQ, mksQ, appQ, partsOk, partsCells, delB, eqL, SameI, strOp, apzQ, cvtQ, capV, ↓reduceIte, Zj, Zk, Nat.reduceAdd, Nat.reduceLT, Nat.reduceEqDiff, Nat.reduceMul, Nat.reduceLeDiff, if_true, Zn, reduceCtorEq, ZA, eq_self, Int.reduceLE, Int.reduceLT, Int.reduceToNat, ne_eq, Nat.reduceSub, nb2_b1, hk0]
      refine callK_reads0 (eqInt64S_c rl2 (toldOf (Mw ++ Mg)) _ _ (hg.reads fun p hp => mem_toldOf (List.mem_append_right _ hp)) (hw.reads fun p hp => mem_toldOf (List.mem_append_left _ hp)) (by omega)) (holds_mem nd10 fun p hp => by simp only [List.mem_append] at hp; rcases hp with hp | hp <;> simp [hp]) ?_
      simp (maxSteps := 2000000) (disch := first | omega | (simp only [E4, nb2_b1, hk0, *] <;> omega) | fail) only [↓E0, E1, evP, evPlan, env0, envN, evOps, evOp, evQs, evQ, evV, setD, pureOp, ev, upd, updL, gate, binW, eqOp, binV, intOp, shOp, boolOp, unV, convV, nilV, fieldAddrV, indexAddrV, extractV, cellAt, cellsAt, findB, setB, fillL, buildV, Value.cells, lenV, minV, maxV, hav, sliceV, loV, hiV, bslQ, mksQ, appQ, partsOk, partsCells, delB, eqL, SameI, strOp, apzQ, cvtQ, capV, ↓reduceIte, Zj, Zk, Nat.reduceAdd, Nat.reduceLT, Nat.reduceEqDiff, Nat.reduceMul, Nat.reduceLeDiff, if_true, Zn, reduceCtorEq, ZA, eq_self, Int.reduceLE, Int.reduceLT, Int.reduceToNat, ne_eq, Nat.reduceSub, nb2_b1, hk0]
      repeat refine And.intro (by omega) ?_
      intro g
      simp only [List.map_cons, List.map_nil, updL, upd, Nat.reduceEqDiff, if_true, if_false, ↓reduceIte]
      refine hK _ _ ?_; clear hK K
      refine Cd.no rfl ?_
      refine Cd.skip ?_
      refine thenN ?_
      refine Cd.rs [1, 4, 5, 7, 10] fun K hK => ?_
      simp (maxSteps := 2000000) (disch := first | omega | (simp only [E4, nb2_b1, hk0, *] <;> omega) | fail) only [↓E0, E1, evP, evPlan, env0, envN, evOps, evOp, evQs, evQ, evV, setD, pureOp, ev, upd, updL, gate, binW, eqOp, binV, intOp, shOp, boolOp, unV, convV, nilV, fieldAddrV, indexAddrV, extractV, cellAt, cellsAt, findB, setB, fillL, buildV, Value.cells, lenV, minV, maxV, hav, sliceV, loV, hiV, bslQ, mksQ, appQ, partsOk, partsCells, delB, eqL, SameI, strOp, apzQ, cvtQ, capV, ↓reduceIte, Zj, Zk, Nat.reduceAdd, Nat.reduceLT, Nat.reduceEqDiff, Nat.reduceMul, Nat.reduceLeDiff, if_true, Zn, reduceCtorEq, ZA, eq_self, Int.reduceLE, Int.reduceLT, Int.reduceToNat, ne_eq, Nat.reduceSub, nb2_b1, hk0]
      repeat refine And.intro (by omega) ?_
      intro g
      simp only [List.map_cons, List.map_nil, updL, upd, Nat.reduceEqDiff, if_true, if_false, ↓reduceIte]
      refine hK _ _ ?_; clear hK K
      refine Cd.rs [1, 4, 5, 7, 10] fun K hK => ?_
      simp (maxSteps := 2000000) (disch := first | omega | (simp only [E4, nb2_b1, hk0, *] <;> omega) | fail) only [↓E0, E1, evP, evPlan, env0, envN, evOps, evOp, evQs, evQ, evV, setD, pureOp, ev, upd, updL, gate, binW, eqOp, binV, intOp, shOp, boolOp, unV, convV, nilV, fieldAddrV, indexAddrV, extractV, cellAt, cellsAt, findB, setB, fillL, buildV, Value.cells, lenV, minV, maxV, hav, sliceV, loV, hiV, bslQ, mksQ, appQ, partsOk, partsCells, delB, eqL, SameI, strOp, apzQ, cvtQ, capV, ↓reduceIte, Zj, Zk, Nat.reduceAdd, Nat.reduceLT, Nat.reduceEqDiff, Nat.reduceMul, Nat.reduceLeDiff, if_true, Zn, reduceCtorEq, ZA, eq_self, Int.reduceLE, Int.reduceLT, Int.reduceToNat, ne_eq, Nat.reduceSub, nb2_b1, hk0]
      refine callK_lentB0 (Mr := (b2, [.int .i64 low, .slice a6 m6 cap6]) :: (b1, [.int .i64 low, .slice a l.length cap]) :: Mw) (L := Mg) (markInt64S_c rl2 _ Mg hg 1 (by omega)) (by simpa using nd10) (by simp) (fun _ _ => toldW_nil) ?_
      rintro r Mg' ⟨rfl, hg'⟩ nd11 _
      simp only [List.cons_append, List.nil_append, List.append_assoc] at nd11 ⊢
      simp (maxSteps := 2000000) (disch := first | omega | (simp only [E4, nb2_b1, hk0, *] <;> omega) | fail) only [↓E0, E1, evP, evPlan, env0, envN, evOps, evOp, evQs, evQ, evV, setD, pureOp, ev, upd, updL, gate, binW, eqOp, binV, intOp, shOp, boolOp, unV, convV, nilV, fieldAddrV, indexAddrV, extractV, cellAt, cellsAt, findB, setB, fillL, buildV, Value.cells, lenV, minV, maxV, hav, sliceV, loV, hiV, bslQ, mksQ, appQ, partsOk, partsCells, delB, eqL, SameI, strOp, apzQ, cvtQ, capV, ↓reduceIte, Zj, Zk, Nat.reduceAdd, Nat.reduceLT, Nat.reduceEqDiff, Nat.reduceMul, Nat.reduceLeDiff, if_true, Zn, reduceCtorEq, ZA, eq_self, Int.reduceLE, Int.reduceLT, Int.reduceToNat, ne_eq, Nat.reduceSub, nb2_b1, hk0]
      repeat refine And.intro (by omega) ?_
      intro g
      simp only [List.map_cons, List.map_nil, updL, upd, Nat.reduceEqDiff, if_true, if_false, ↓reduceIte]
      refine hK _ _ ?_; clear hK K
      refine Cd.rs [1, 4, 5, 7, 10, 11] fun K hK => ?_
      simp (maxSteps := 2000000) (disch := first | omega | (simp only [E4, nb2_b1, hk0, *] <;> omega) | fail) only [↓E0, E1, evP, evPlan, env0, envN, evOps, evOp, evQs, evQ, evV, setD, pureOp, ev, upd, updL, gate, binW, eqOp, binV, intOp, shOp, boolOp, unV, convV, nilV, fieldAddrV, indexAddrV, extractV, cellAt, cellsAt, findB, setB, fillL, buildV, Value.cells, lenV, minV, maxV, hav, sliceV, loV, hiV, bslQ, mksQ, appQ, partsOk, partsCells, delB, eqL, SameI, strOp, apzQ, cvtQ, capV, ↓reduceIte, Zj, Zk, Nat.reduceAdd, Nat.reduceLT, Nat.reduceEqDiff, Nat.reduceMul, Nat.reduceLeDiff, if_true, Zn, reduceCtorEq, ZA, eq_self, Int.reduceLE, Int.reduceLT, Int.reduceToNat, ne_eq, Nat.reduceSub, nb2_b1, hk0]
      repeat refine And.intro (by omega) ?_
      intro g
      simp only [List.map_cons, List.map_nil, updL, upd, Nat.reduceEqDiff, if_true, if_false, ↓reduceIte]
      refine hK _ _ ?_; clear hK K
      refine Cd.rs [1, 4, 5, 7, 10, 11] fun K hK => ?_
      simp (maxSteps := 2000000) (disch := first | omega | (simp only [E4, nb2_b1, hk0, *] <;> omega) | fail) only [↓E0, E1, evP, evPlan, env0, envN, evOps, evOp, evQs, evQ, evV, setD, pureOp, ev, upd, updL, gate, binW, eqOp, binV, intOp, shOp, boolOp, unV, convV, nilV, fieldAddrV, indexAddrV, extractV, cellAt, cellsAt, findB, setB, fillL, buildV, Value.cells, lenV, minV, maxV, hav, sliceV, loV, hiV, bslQ, mksQ, appQ, partsOk, partsCells, delB, eqL, SameI, strOp, apzQ, cvtQ, capV, ↓reduceIte, Zj, Zk, Nat.reduceAdd, Nat.reduceLT, Nat.reduceEqDiff, Nat.reduceMul, Nat.reduceLeDiff, if_true, Zn, reduceCtorEq, ZA, eq_self, Int.reduceLE, Int.reduceLT, Int.reduceToNat, ne_eq, Nat.reduceSub, nb2_b1, hk0]
      refine callK_reads0 (heldInt64S_c rl2.length 1 _ (toldOf Mg') (hg'.reads fun p hp => mem_toldOf hp) (by omega)) (holds_mem nd11 fun p hp => by simp [hp]) ?_
      simp (maxSteps := 2000000) (disch := first | omega | (simp only [E4, nb2_b1, hk0, *] <;> omega) | fail) only [↓E0, E1, evP, evPlan, env0, envN, evOps, evOp, evQs, evQ, evV, setD, pureOp, ev, upd, updL, gate, binW, eqOp, binV, intOp, shOp, boolOp, unV, convV, nilV, fieldAddrV, indexAddrV, extractV, cellAt, cellsAt, findB, setB, fillL, buildV, Value.cells, lenV, minV, maxV, hav, sliceV, loV, hiV, bslQ, mksQ, appQ, partsOk, partsCells, delB, eqL, SameI, strOp, apzQ, cvtQ, capV, ↓reduceIte, Zj, Zk, Nat.reduceAdd, Nat.reduceLT, Nat.reduceEqDiff, Nat.reduceMul, Nat.reduceLeDiff, if_true, Zn, reduceCtorEq, ZA, eq_self, Int.reduceLE, Int.reduceLT, Int.reduceToNat, ne_eq, Nat.reduceSub, nb2_b1, hk0]
      repeat refine And.intro (by omega) ?_
      intro g
      simp only [List.map_cons, List.map_nil, updL, upd, Nat.reduceEqDiff, if_true, if_false, ↓reduceIte]
      refine hK _ _ ?_; clear hK K
      refine Cd.seq ?_
      refine Cd.rs [1, 4, 5, 7, 10, 11, 69] fun K hK => ?_
      simp (maxSteps := 2000000) (disch := first | omega | (simp only [E4, nb2_b1, hk0, *] <;> omega) | fail) only [↓E0, E1, evP, evPlan, env0, envN, evOps, evOp, evQs, evQ, evV, setD, pureOp, ev, upd, updL, gate, binW, eqOp, binV, intOp, shOp, boolOp, unV, convV, nilV, fieldAddrV, indexAddrV, extractV, cellAt, cellsAt, findB, setB, fillL, buildV, Value.cells, lenV, minV, maxV, hav, sliceV, loV, hiV, bslQ, mksQ, appQ, partsOk, partsCells, delB, eqL, SameI, strOp, apzQ, cvtQ, capV, ↓reduceIte, Zj, Zk, Nat.reduceAdd, Nat.reduceLT, Nat.reduceEqDiff, Nat.reduceMul, Nat.reduceLeDiff, if_true, Zn, reduceCtorEq, ZA, eq_self, Int.reduceLE, Int.reduceLT, Int.reduceToNat, ne_eq, Nat.reduceSub, nb2_b1, hk0]
      repeat refine And.intro (by omega) ?_
      intro g
      simp only [List.map_cons, List.map_nil, updL, upd, Nat.reduceEqDiff, if_true, if_false, ↓reduceIte]
      refine hK _ _ ?_; clear hK K
      refine Cd.condd rfl (fun h9 => absurd h9 (by omega)) (fun _ => ?_)
      refine Cd.skip ?_
      refine thenN ?_
      refine Cd.seq ?_
      refine Cd.rs [1, 4, 5, 7, 10, 72] fun K hK => ?_
      simp (maxSteps := 2000000) (disch := first | omega | (simp only [E4, nb2_b1, hk0, *] <;> omega) | fail) only [↓E0, E1, evP, evPlan, env0, envN, evOps, evOp, evQs, evQ, evV, setD, pureOp, ev, upd, updL, gate, binW, eqOp, binV, intOp, shOp, boolOp, unV, convV, nilV, fieldAddrV, indexAddrV, extractV, cellAt, cellsAt, findB, setB, fillL, buildV, Value.cells, lenV, minV, maxV, hav, sliceV, loV, hiV, bslQ, mksQ, appQ, partsOk, partsCells, delB, eqL, SameI, strOp, apzQ, cvtQ, capV, ↓reduceIte, Zj, Zk, Nat.reduceAdd, Nat.reduceLT, Nat.reduceEqDiff, Nat.reduceMul, Nat.reduceLeDiff, if_true, Zn, reduceCtorEq, ZA, eq_self, Int.reduceLE, Int.reduceLT, Int.reduceToNat, ne_eq, Nat.reduceSub, nb2_b1, hk0]
      repeat refine And.intro (by omega) ?_
      intro g
      simp only [List.map_cons, List.map_nil, updL, upd, Nat.reduceEqDiff, if_true, if_false, ↓reduceIte]
      refine hK _ _ ?_; clear hK K
      refine Cd.no rfl ?_
      refine Cd.skip ?_
      refine thenN ?_
      refine Cd.rs [4, 5, 7, 10, 12, 13] fun K hK => ?_
      simp (maxSteps := 2000000) (disch := first | omega | (simp only [E4, nb2_b1, hk0, *] <;> omega) | fail) only [↓E0, E1, evP, evPlan, env0, envN, evOps, evOp, evQs, evQ, evV, setD, pureOp, ev, upd, updL, gate, binW, eqOp, binV, intOp, shOp, boolOp, unV, convV, nilV, fieldAddrV, indexAddrV, extractV, cellAt, cellsAt, findB, setB, fillL, buildV, Value.cells, lenV, minV, maxV, hav, sliceV, loV, hiV, bslQ, mksQ, appQ, partsOk, partsCells, delB, eqL, SameI, strOp, apzQ, cvtQ, capV, ↓reduceIte, Zj, Zk, Nat.reduceAdd, Nat.reduceLT, Nat.reduceEqDiff, Nat.reduceMul, Nat.reduceLeDiff, if_true, Zn, reduceCtorEq, ZA, eq_self, Int.reduceLE, Int.reduceLT, Int.reduceToNat, ne_eq, Nat.reduceSub, Tld61, nb2_b1, hk0]
      refine callK_newR0 (toLaurent_c low l R _ h (by omega)) (Told.toldW hR) ?_
      intro vh Mh hvh ndh _
      simp only [List.cons_append, List.nil_append, List.append_assoc] at ndh ⊢
      simp (maxSteps := 2000000) (disch := first | omega | (simp only [E4, nb2_b1, hk0, *] <;> omega) | fail) only [↓E0, E1, evP, evPlan, env0, envN, evOps, evOp, evQs, evQ, evV, setD, pureOp, ev, upd, updL, gate, binW, eqOp, binV, intOp, shOp, boolOp, unV, convV, nilV, fieldAddrV, indexAddrV, extractV, cellAt, cellsAt, findB, setB, fillL, buildV, Value.cells, lenV, minV, maxV, hav, sliceV, loV, hiV, bslQ, mksQ, appQ, partsOk, partsCells, delB, eqL, SameI, strOp, apzQ, cvtQ, capV, ↓reduceIte, Zj, Zk, Nat.reduceAdd, Nat.reduceLT, Nat.reduceEqDiff, Nat.reduceMul, Nat.reduceLeDiff, if_true, Zn, reduceCtorEq, ZA, eq_self, Int.reduceLE, Int.reduceLT, Int.reduceToNat, ne_eq, Nat.reduceSub, Tld61, nb2_b1, hk0]
      have ndm : (Mh.map (·.1)).Nodup := by
        have := (nodup_cases (nodup_cases ndh).2).2
        rw [List.map_append, List.nodup_append] at this
        have := this.2.1
        rw [List.map_append, List.nodup_append] at this
        exact this.2.1
      refine callK_keep0 (hI vh Mh hvh ndm) ndh (fun p hp => by simp [hp]) ndm ?_
      rintro _ Mz ⟨_, rfl, hz⟩ _ _
      obtain ⟨az, mz, cz, rfl⟩ := hz.form
      simp only [List.cons_append, List.nil_append, List.append_assoc]
      simp (maxSteps := 2000000) (disch := first | omega | (simp only [E4, nb2_b1, hk0, *] <;> omega) | fail) only [↓E0, E1, evP, evPlan, env0, envN, evOps, evOp, evQs, evQ, evV, setD, pureOp, ev, upd, updL, gate, binW, eqOp, binV, intOp, shOp, boolOp, unV, convV, nilV, fieldAddrV, indexAddrV, extractV, cellAt, cellsAt, findB, setB, fillL, buildV, Value.cells, lenV, minV, maxV, hav, sliceV, loV, hiV, bslQ, mksQ, appQ, partsOk, partsCells, delB, eqL, SameI, strOp, apzQ, cvtQ, capV, ↓reduceIte, Zj, Zk, Nat.reduceAdd, Nat.reduceLT, Nat.reduceEqDiff, Nat.reduceMul, Nat.reduceLeDiff, if_true, Zn, reduceCtorEq, ZA, eq_self, Int.reduceLE, Int.reduceLT, Int.reduceToNat, ne_eq, Nat.reduceSub, Tld61, nb2_b1, hk0]
      repeat refine And.intro (by omega) ?_
      intro g
      simp only [List.map_cons, List.map_nil, updL, upd, Nat.reduceEqDiff, if_true, if_false, ↓reduceIte]
      refine hK _ _ ?_; clear hK K
      refine Cd.nodup fun nd12 => ?_
      refine Cd.seq ?_
      refine Cd.rs [7, 10, 87] fun K hK => ?_
      simp (maxSteps := 2000000) (disch := first | omega | (simp only [E4, nb2_b1, hk0, *] <;> omega) | fail) only [↓E0, E1, evP, evPlan, env0, envN, evOps, evOp, evQs, evQ, evV, setD, pureOp, ev, upd, updL, gate, binW, eqOp, binV, intOp, shOp, boolOp, unV, convV, nilV, fieldAddrV, indexAddrV, extractV, cellAt, cellsAt, findB, setB, fillL, buildV, Value.cells, lenV, minV, maxV, hav, sliceV, loV, hiV, bslQ, mksQ, appQ, partsOk, partsCells, delB, eqL, SameI, strOp, apzQ, cvtQ, capV, ↓reduceIte, Zj, Zk, Nat.reduceAdd, Nat.reduceLT, Nat.reduceEqDiff, Nat.reduceMul, Nat.reduceLeDiff, if_true, Zn, reduceCtorEq, ZA, eq_self, Int.reduceLE, Int.reduceLT, Int.reduceToNat, ne_eq, Nat.reduceSub, nb2_b1, hk0]
      refine callK_reads0 (eqInt64S_c rl2 (toldOf (Mw ++ Mz)) _ _ (hz.reads fun p hp => mem_toldOf (List.mem_append_right _ hp)) (hw.reads fun p hp => mem_toldOf (List.mem_append_left _ hp)) (by omega)) (holds_mem nd12 fun p hp => by simp only [List.mem_append] at hp; rcases hp with hp | hp <;> simp [hp]) ?_
      simp (maxSteps := 2000000) (disch := first | omega | (simp only [E4, nb2_b1, hk0, *] <;> omega) | fail) only [↓E0, E1, evP, evPlan, env0, envN, evOps, evOp, evQs, evQ, evV, setD, pureOp, ev, upd, updL, gate, binW, eqOp, binV, intOp, shOp, boolOp, unV, convV, nilV, fieldAddrV, indexAddrV, extractV, cellAt, cellsAt, findB, setB, fillL, buildV, Value.cells, lenV, minV, maxV, hav, sliceV, loV, hiV, bslQ, mksQ, appQ, partsOk, partsCells, delB, eqL, SameI, strOp, apzQ, cvtQ, capV, ↓reduceIte, Zj, Zk, Nat.reduceAdd, Nat.reduceLT, Nat.reduceEqDiff, Nat.reduceMul, Nat.reduceLeDiff, if_true, Zn, reduceCtorEq, ZA, eq_self, Int.reduceLE, Int.reduceLT, Int.reduceToNat, ne_eq, Nat.reduceSub, nb2_b1, hk0]
      repeat refine And.intro (by omega) ?_
      intro g
      simp only [List.map_cons, List.map_nil, updL, upd, Nat.reduceEqDiff, if_true, if_false, ↓reduceIte]
      refine hK _ _ ?_; clear hK K
      refine Cd.no rfl ?_
      refine Cd.skip ?_
      refine thenN ?_
      refine Cd.rs [7, 10, 11] fun K hK => ?_
      simp (maxSteps := 2000000) (disch := first | omega | (simp only [E4, nb2_b1, hk0, *] <;> omega) | fail) only [↓E0, E1, evP, evPlan, env0, envN, evOps, evOp, evQs, evQ, evV, setD, pureOp, ev, upd, updL, gate, binW, eqOp, binV, intOp, shOp, boolOp, unV, convV, nilV, fieldAddrV, indexAddrV, extractV, cellAt, cellsAt, findB, setB, fillL, buildV, Value.cells, lenV, minV, maxV, hav, sliceV, loV, hiV, bslQ, mksQ, appQ, partsOk, partsCells, delB, eqL, SameI, strOp, apzQ, cvtQ, capV, ↓reduceIte, Zj, Zk, Nat.reduceAdd, Nat.reduceLT, Nat.reduceEqDiff, Nat.reduceMul, Nat.reduceLeDiff, if_true, Zn, reduceCtorEq, ZA, eq_self, Int.reduceLE, Int.reduceLT, Int.reduceToNat, ne_eq, Nat.reduceSub, nb2_b1, hk0]
      repeat refine And.intro (by omega) ?_
      intro g
      simp only [List.map_cons, List.map_nil, updL, upd, Nat.reduceEqDiff, if_true, if_false, ↓reduceIte]
      refine hK _ _ ?_; clear hK K
      refine Cd.rs [10, 11] fun K hK => ?_
      simp (maxSteps := 2000000) (disch := first | omega | (simp only [E4, nb2_b1, hk0, *] <;> omega) | fail) only [↓E0, E1, evP, evPlan, env0, envN, evOps, evOp, evQs, evQ, evV, setD, pureOp, ev, upd, updL, gate, binW, eqOp, binV, intOp, shOp, boolOp, unV, convV, nilV, fieldAddrV, indexAddrV, extractV, cellAt, cellsAt, findB, setB, fillL, buildV, Value.cells, lenV, minV, maxV, hav, sliceV, loV, hiV, bslQ, mksQ, appQ, partsOk, partsCells, delB, eqL, SameI, strOp, apzQ, cvtQ, capV, ↓reduceIte, Zj, Zk, Nat.reduceAdd, Nat.reduceLT, Nat.reduceEqDiff, Nat.reduceMul, Nat.reduceLeDiff, if_true, Zn, reduceCtorEq, ZA, eq_self, Int.reduceLE, Int.reduceLT, Int.reduceToNat, ne_eq, Nat.reduceSub, nb2_b1, hk0]
      refine callK_reads0 (heldInt64S_c rl2.length 1 _ (toldOf Mg') (hg'.reads fun p hp => mem_toldOf hp) (by omega)) (holds_mem nd12 fun p hp => by simp [hp]) ?_
      simp (maxSteps := 2000000) (disch := first | omega | (simp only [E4, nb2_b1, hk0, *] <;> omega) | fail) only [↓E0, E1, evP, evPlan, env0, envN, evOps, evOp, evQs, evQ, evV, setD, pureOp, ev, upd, updL, gate, binW, eqOp, binV, intOp, shOp, boolOp, unV, convV, nilV, fieldAddrV, indexAddrV, extractV, cellAt, cellsAt, findB, setB, fillL, buildV, Value.cells, lenV, minV, maxV, hav, sliceV, loV, hiV, bslQ, mksQ, appQ, partsOk, partsCells, delB, eqL, SameI, strOp, apzQ, cvtQ, capV, ↓reduceIte, Zj, Zk, Nat.reduceAdd, Nat.reduceLT, Nat.reduceEqDiff, Nat.reduceMul, Nat.reduceLeDiff, if_true, Zn, reduceCtorEq, ZA, eq_self, Int.reduceLE, Int.reduceLT, Int.reduceToNat, ne_eq, Nat.reduceSub, nb2_b1, hk0]
      repeat refine And.intro (by omega) ?_
      intro g
      simp only [List.map_cons, List.map_nil, updL, upd, Nat.reduceEqDiff, if_true, if_false, ↓reduceIte]
      refine hK _ _ ?_; clear hK K
      refine Cd.seq ?_
      refine Cd.rs [10, 11, 92] fun K hK => ?_
      simp (maxSteps := 2000000) (disch := first | omega | (simp only [E4, nb2_b1, hk0, *] <;> omega) | fail) only [↓E0, E1, evP, evPlan, env0, envN, evOps, evOp, evQs, evQ, evV, setD, pureOp, ev, upd, updL, gate, binW, eqOp, binV, intOp, shOp, boolOp, unV, convV, nilV, fieldAddrV, indexAddrV, extractV, cellAt, cellsAt, findB, setB, fillL, buildV, Value.cells, lenV, minV, maxV, hav, sliceV, loV, hiV, bslQ, mksQ, appQ, partsOk, partsCells, delB, eqL, SameI, strOp, apzQ, cvtQ, capV, ↓reduceIte, Zj, Zk, Nat.reduceAdd, Nat.reduceLT, Nat.reduceEqDiff, Nat.reduceMul, Nat.reduceLeDiff, if_true, Zn, reduceCtorEq, ZA, eq_self, Int.reduceLE, Int.reduceLT, Int.reduceToNat, ne_eq, Nat.reduceSub, nb2_b1, hk0]
      repeat refine And.intro (by omega) ?_
      intro g
      simp only [List.map_cons, List.map_nil, updL, upd, Nat.reduceEqDiff, if_true, if_false, ↓reduceIte]
      refine hK _ _ ?_; clear hK K
      refine Cd.condd rfl (fun h9 => absurd h9 (by omega)) (fun _ => ?_)
      refine Cd.skip ?_
      refine thenN ?_
      refine Cd.seq ?_
      refine Cd.rs [95] fun K hK => ?_
      simp (maxSteps := 2000000) (disch := first | omega | (simp only [E4, nb2_b1, hk0, *] <;> omega) | fail) only [↓E0, E1, evP, evPlan, env0, envN, evOps, evOp, evQs, evQ, evV, setD, pureOp, ev, upd, updL, gate, binW, eqOp, binV, intOp, shOp, boolOp, unV, convV, nilV, fieldAddrV, indexAddrV, extractV, cellAt, cellsAt, findB, setB, fillL, buildV, Value.cells, lenV, minV, maxV, hav, sliceV, loV, hiV, bslQ, mksQ, appQ, partsOk, partsCells, delB, eqL, SameI, strOp, apzQ, cvtQ, capV, ↓reduceIte, Zj, Zk, Nat.reduceAdd, Nat.reduceLT, Nat.reduceEqDiff, Nat.reduceMul, Nat.reduceLeDiff, if_true, Zn, reduceCtorEq, ZA, eq_self, Int.reduceLE, Int.reduceLT, Int.reduceToNat, ne_eq, Nat.reduceSub, nb2_b1, hk0]
      repeat refine And.intro (by omega) ?_
      intro g
      simp only [List.map_cons, List.map_nil, updL, upd, Nat.reduceEqDiff, if_true, if_false, ↓reduceIte]
      refine hK _ _ ?_; clear hK K
      refine Cd.no rfl ?_
      refine Cd.skip ?_
      refine thenN ?_
      refine Cd.rs [2] fun K hK => ?_
      simp (maxSteps := 2000000) (disch := first | omega | (simp only [E4, nb2_b1, hk0, *] <;> omega) | fail) only [↓E0, E1, evP, evPlan, env0, envN, evOps, evOp, evQs, evQ, evV, setD, pureOp, ev, upd, updL, gate, binW, eqOp, binV, intOp, shOp, boolOp, unV, convV, nilV, fieldAddrV, indexAddrV, extractV, cellAt, cellsAt, findB, setB, fillL, buildV, Value.cells, lenV, minV, maxV, hav, sliceV, loV, hiV, bslQ, mksQ, appQ, partsOk, partsCells, delB, eqL, SameI, strOp, apzQ, cvtQ, capV, ↓reduceIte, Zj, Zk, Nat.reduceAdd, Nat.reduceLT, Nat.reduceEqDiff, Nat.reduceMul, Nat.reduceLeDiff, if_true, Zn, reduceCtorEq, ZA, eq_self, Int.reduceLE, Int.reduceLT, Int.reduceToNat, ne_eq, Nat.reduceSub, nb2_b1, hk0]
      repeat refine And.intro (by omega) ?_
      intro g
      simp only [List.map_cons, List.map_nil, updL, upd, Nat.reduceEqDiff, if_true, if_false, ↓reduceIte]
      refine hK _ _ ?_; clear hK K
      refine Cd.ret ?_
      simp (maxSteps := 2000000) (disch := first | omega | (simp only [E4, nb2_b1, hk0, *] <;> omega) | fail) only [↓E0, E1, evP, evPlan, env0, envN, evOps, evOp, evQs, evQ, evV, setD, pureOp, ev, upd, updL, gate, binW, eqOp, binV, intOp, shOp, boolOp, unV, convV, nilV, fieldAddrV, indexAddrV, extractV, cellAt, cellsAt, findB, setB, fillL, buildV, Value.cells, lenV, minV, maxV, hav, sliceV, loV, hiV, bslQ, mksQ, appQ, partsOk, partsCells, delB, eqL, SameI, strOp, apzQ, cvtQ, capV, ↓reduceIte, Zj, Zk, Nat.reduceAdd, Nat.reduceLT, Nat.reduceEqDiff, Nat.reduceMul, Nat.reduceLeDiff, if_true, Zn, reduceCtorEq, ZA, eq_self, Int.reduceLE, Int.reduceLT, Int.reduceToNat, ne_eq, Nat.reduceSub, nb2_b1, hk0]

end Go.Proofs

/-
  What the functions of this part hand back: each as a plain function of its arguments. Conditions: none.
-/
namespace Go.Proofs
open Go.W8
set_option linter.unusedVariables false
set_option linter.unusedSimpArgs false
set_option linter.unusedSectionVars false
set_option maxRecDepth 8000
set_option maxHeartbeats 4000000
--@plain
open Go.ChangeShapes Go.WideShapes Go.ChangeAt Go.RowKit in
/-- A law that hands back a value of numbers and truths and leaves what was there as it was meets its row's postcondition. -/
theorem post_own {H : Type} {enc : TypeId × Value → H} {P : Program} {f : Func} {s : ChangeSpec} {apart fresh handsOn again : Bool} {w w' : World} {args : Array Value} {v : Value} {ds gs : List (DataW H)} {before pa pv : List MemPlace}
    (hW : DataW.Whole enc P f.params.toList s.vars apart w args.toList ds gs before)
    (hres : ∀ (b : Nat) (sp : Nat → Bool) (hd : Bool), DataW.TrodAll enc P w' b sp hd f.resultTypes.toList (v.resultList f.resultTypes.size) (s.fn H (ds ++ gs)).results [])
    (hargs : ∀ sp : Nat → Bool, (∀ p ∈ before, sp p.block = true) → DataW.TrodAll enc P w' 0 sp true f.params.toList args.toList (s.fn H (ds ++ gs)).args pa)
    (hvars : ∀ sp : Nat → Bool, (∀ p ∈ before, sp p.block = true) → DataW.TrodVars enc P w' sp s.vars (s.fn H (ds ++ gs)).vars pv)
    (hps : before = pa ++ pv) (ho : Own [] w [] w')
    (hok : ∀ (j : Nat) (t : TypeId) (r : Value), f.resultTypes[j]? = some t → (v.resultList f.resultTypes.size)[j]? = some r → Value.okWide P w' .any 0 t r) :
    s.post enc P f apart fresh handsOn again w args v w' := by
  have hb : Below w.heap.size w w' := ⟨ho.os, ho.tape, ho.output, ho.size, fun k hk => ho.frame k hk (by simp)⟩
  have old : ∀ p ∈ before, p.block < w.heap.size := fun p hp => hW.lt p hp
  have told : ∀ p ∈ before, (fun b => decide (b < w.heap.size)) p.block = true := fun p hp => decide_eq_true (old p hp)
  refine ⟨ds, gs, before, [], pa, pv, hW, hres _ _ _, hargs _ told, hvars _ told, ?_, fun _ => ?_⟩
  · exact World.keptBut_mono (fun p hp => ⟨hp, by
      rw [hps] at hp
      exact List.mem_append.1 hp |>.elim (fun h => by simp [h]) (fun h => by simp [h])⟩) (hb.frame (· ∈ before))
  · obtain ⟨_, _, _, _, _, hz, hn⟩ := hW
    refine ⟨hok, _, _, ([] ++ pa) ++ pv, ⟨[] ++ pa, pv, trodAll_append (hargs _ (fun _ _ => rfl)) (hres _ _ _), hvars _ (fun _ _ => rfl), rfl, fun b off hp => ?_, fun ha => ?_⟩, fun p hp _ => ?_⟩
    · have hin : MemPlace.cell b off ∈ before := by rw [hps]; simpa using hp
      rw [hb.frozen (old _ hin)]
      exact hz b off hin
    · have h1 := hn ha
      rw [hps] at h1
      simpa using h1
    · rw [hps]
      simpa using hp

end Go.Proofs

