/-
  What the functions of this part hand back: each as a plain function of its arguments. Conditions: none.
-/
import Derived.ProofKit
import Derived.OpenShut
import Derived.Below
import Derived.ChangeSame
import Derived.Test.YtdfddcfgagfdoaaM1
namespace Go.Proofs
open Go.W8
set_option linter.unusedVariables false
set_option linter.unusedSimpArgs false
set_option linter.unusedSectionVars false
set_option maxRecDepth 8000
set_option maxHeartbeats 4000000
--@plain
section
variable {P : Program} {N : Nat} {W : List Nat} {w0 : World} {ρ : Env} {M M' : Blks}
/-- A function that is lent L, hands it back as it was, and beside it new memory. -/
def keepQ (L : Blks) (rep : Value → Blks → Prop) (v : Value) (M' : Blks) : Prop := ∃ M1, (∀ p ∈ L, p ∈ M') ∧ (∀ p ∈ M1, p ∈ M') ∧ ((L ++ M1).map (·.1)).Nodup ∧ rep v M1
def GivesK (P : Program) (f : FuncId) (args : Array Value) (L : Blks) (rep : Value → Blks → Prop) : Prop := GivesX P f args L [] (keepQ L rep)
theorem keepQ.none {L : Blks} {rep : Value → Blks → Prop} {v : Value} {M' : Blks} (hL : (L.map (·.1)).Nodup) (h : ∀ p ∈ L, p ∈ M') (hr : rep v []) : keepQ L rep v M' := ⟨[], h, (fun _ hp => nomatch hp), by simpa using hL, hr⟩
theorem keepQ.behind {L A B : Blks} {rep : Value → Blks → Prop} {v : Value} {M' : Blks} (hL : (L.map (·.1)).Nodup) (hn : ((A ++ B).map (·.1)).Nodup) (h : ∀ p ∈ L, p ∈ A) (hM : M' = A ++ B) (hr : rep v B) : keepQ L rep v M' := by
  subst hM
  refine ⟨B, fun p hp => List.mem_append_left _ (h p hp), fun p hp => List.mem_append_right _ hp, ?_, hr⟩
  rw [List.map_append, List.nodup_append] at hn ⊢
  refine ⟨hL, hn.2.1, fun a ha b hb => hn.2.2 a ?_ b hb⟩
  obtain ⟨p, hp, rfl⟩ := List.mem_map.1 ha
  exact List.mem_map_of_mem (h p hp)
theorem mem_keys {p : Nat × List Value} (h : p ∈ M) : p.1 ∈ M.map (·.1) := List.mem_map_of_mem h
theorem key_eq {p q : Nat × List Value} (hn : (M.map (·.1)).Nodup) (hp : p ∈ M) (hq : q ∈ M) (e : p.1 = q.1) : p = q := by
  have h1 := findB_of (b := p.1) (cs := p.2) hn hp
  have h2 := findB_of (b := q.1) (cs := q.2) hn hq
  rw [e, h2] at h1
  exact Prod.ext e (Option.some.inj h1).symm
theorem GivesK.acall {f : FuncId} {args : Array Value} {L : Blks} {rep R' : Value → Blks → Prop} (h : GivesK P f args L rep) (hM : (M.map (·.1)).Nodup) (hL : ∀ p ∈ L, p ∈ M) (hn : (L.map (·.1)).Nodup)
    (hk : ∀ v M1, rep v M1 → ((M ++ M1).map (·.1)).Nodup → (∀ p ∈ M1, Fresh w0 M p.1) → R' v (M ++ M1)) : ACall P W w0 f args M R' := by
  refine ⟨h.1, fun w hw => (h.2 w hn (fun p hp => hw.blk p (hL p hp)) toldW_nil).mono ?_⟩
  rintro e w' ⟨v, M', rfl, hw', M1, h1, h2, h3, h4⟩
  have hs : (M.filter fun p => decide (p.1 ∉ L.map (·.1))).Sublist M := List.filter_sublist
  have ho := hw.thenL hL hs (fun p hp => by simpa using (List.mem_filter.1 hp).2) hw'
  have hf : ∀ p ∈ M1, Fresh w0 M p.1 := by
    intro p hp
    have hpL : p.1 ∉ L.map (·.1) := by
      intro hm
      rw [List.map_append, List.nodup_append] at h3
      exact h3.2.2 _ hm _ (mem_keys hp) rfl
    rcases hw'.own p (h2 p hp) with h5 | h5
    · exact absurd h5 hpL
    · exact ⟨Nat.le_trans hw.size h5, fun q hq => by have := hw.lt hq; omega⟩
  have hnn : ((M ++ M1).map (·.1)).Nodup := by
    rw [List.map_append, List.nodup_append] at h3 ⊢
    refine ⟨hM, h3.2.1, ?_⟩
    intro a ha b hb e
    subst e
    obtain ⟨p, hp, rfl⟩ := List.mem_map.1 hb
    obtain ⟨q, hq, e⟩ := List.mem_map.1 ha
    exact (hf p hp).2 q hq e.symm
  refine ⟨v, M ++ M1, rfl, ho.turn (fun p hp => ?_) hnn, hk v M1 h4 hnn hf⟩
  rcases List.mem_append.1 hp with hp | hp
  · by_cases hpL : p.1 ∈ L.map (·.1)
    · obtain ⟨q, hq, e⟩ := List.mem_map.1 hpL
      rw [← key_eq hM (hL q hq) hp e]
      exact List.mem_append_left _ (h1 q hq)
    · exact List.mem_append_right _ (List.mem_filter.2 ⟨hp, by simpa using hpL⟩)
  · exact List.mem_append_left _ (h2 p hp)
end

end Go.Proofs

/-
  What the functions of this part hand back: each as a plain function of its arguments. Conditions: none.
-/
namespace Go.Proofs
open Go.W8
set_option linter.unusedVariables false
set_option linter.unusedSimpArgs false
set_option linter.unusedSectionVars false
set_option maxRecDepth 8000
set_option maxHeartbeats 4000000

theorem within_c (x lo hi : Int) : Gives Try.prog 83 #[.int .i64 x, .int .i64 lo, .int .i64 hi] (.bool (decide (lo ≤ x) && decide (x ≤ hi))) := by
  refine Gives.of fun w => ?_
  refine acall_of (N := 15) (c := _) (rs := [.tmp 6]) (args := [_, _, _]) Try.func83 rfl (by decide) rfl rfl (Nat.le_of_ble_eq_true rfl) ?_
  refine Cd.rs [0, 1, 2] fun K hK => ?_
  simp (maxSteps := 2000000) (disch := first | omega | (simp only [E4, *] <;> omega) | fail) only [↓E0, E1, evP, evPlan, env0, envN, evOps, evOp, evQs, evQ, evV, setD, pureOp, ev, upd, updL, gate, binW, eqOp, binV, intOp, shOp, boolOp, unV, convV, nilV, fieldAddrV, indexAddrV, extractV, cellAt, cellsAt, findB, setB, fillL, buildV, Value.cells, lenV, minV, maxV, hav, sliceV, loV, hiV, bslQ, mksQ, appQ, partsOk, partsCells, delB, eqL, SameI, strOp, apzQ, cvtQ, capV, ↓reduceIte, Zj, Zk, Nat.reduceAdd, Nat.reduceLT, Nat.reduceEqDiff, Nat.reduceMul, Nat.reduceLeDiff, if_true, Zn, reduceCtorEq, ZA, eq_self, Int.reduceLE, Int.reduceLT, Int.reduceToNat, ne_eq, Nat.reduceSub]
  repeat refine And.intro (by omega) ?_
  intro g
  simp only [List.map_cons, List.map_nil, updL, upd, Nat.reduceEqDiff, if_true, if_false, ↓reduceIte]
  refine hK _ _ ?_; clear hK K
  refine Cd.rs [6] fun K hK => ?_
  simp (maxSteps := 2000000) (disch := first | omega | (simp only [E4, *] <;> omega) | fail) only [↓E0, E1, evP, evPlan, env0, envN, evOps, evOp, evQs, evQ, evV, setD, pureOp, ev, upd, updL, gate, binW, eqOp, binV, intOp, shOp, boolOp, unV, convV, nilV, fieldAddrV, indexAddrV, extractV, cellAt, cellsAt, findB, setB, fillL, buildV, Value.cells, lenV, minV, maxV, hav, sliceV, loV, hiV, bslQ, mksQ, appQ, partsOk, partsCells, delB, eqL, SameI, strOp, apzQ, cvtQ, capV, ↓reduceIte, Zj, Zk, Nat.reduceAdd, Nat.reduceLT, Nat.reduceEqDiff, Nat.reduceMul, Nat.reduceLeDiff, if_true, Zn, reduceCtorEq, ZA, eq_self, Int.reduceLE, Int.reduceLT, Int.reduceToNat, ne_eq, Nat.reduceSub]
  refine ⟨fun h => ?_, fun h => ?_⟩
  all_goals
    repeat refine And.intro (by omega) ?_
    intro g
    simp only [List.map_cons, List.map_nil, updL, upd, Nat.reduceEqDiff, if_true, if_false, ↓reduceIte]
    refine hK _ _ ?_; clear hK K
    refine ret1 rfl ?_
    simp [upd, h]

theorem l01In_c (x lo hi : Int) : Gives Try.prog 81 #[.int .i64 x, .int .i64 lo, .int .i64 hi] (.bool (decide (lo ≤ x) && decide (x ≤ hi))) := by
  refine Gives.of fun w => ?_
  refine acall_of (N := 15) (c := _) (rs := [.tmp 6]) (args := [_, _, _]) Try.func81 rfl (by decide) rfl rfl (Nat.le_of_ble_eq_true rfl) ?_
  refine Cd.rs [0, 1, 2] fun K hK => ?_
  simp (maxSteps := 2000000) (disch := first | omega | (simp only [E4, *] <;> omega) | fail) only [↓E0, E1, evP, evPlan, env0, envN, evOps, evOp, evQs, evQ, evV, setD, pureOp, ev, upd, updL, gate, binW, eqOp, binV, intOp, shOp, boolOp, unV, convV, nilV, fieldAddrV, indexAddrV, extractV, cellAt, cellsAt, findB, setB, fillL, buildV, Value.cells, lenV, minV, maxV, hav, sliceV, loV, hiV, bslQ, mksQ, appQ, partsOk, partsCells, delB, eqL, SameI, strOp, apzQ, cvtQ, capV, ↓reduceIte, Zj, Zk, Nat.reduceAdd, Nat.reduceLT, Nat.reduceEqDiff, Nat.reduceMul, Nat.reduceLeDiff, if_true, Zn, reduceCtorEq, ZA, eq_self, Int.reduceLE, Int.reduceLT, Int.reduceToNat, ne_eq, Nat.reduceSub]
  repeat refine And.intro (by omega) ?_
  intro g
  simp only [List.map_cons, List.map_nil, updL, upd, Nat.reduceEqDiff, if_true, if_false, ↓reduceIte]
  refine hK _ _ ?_; clear hK K
  refine Cd.rs [6] fun K hK => ?_
  simp (maxSteps := 2000000) (disch := first | omega | (simp only [E4, *] <;> omega) | fail) only [↓E0, E1, evP, evPlan, env0, envN, evOps, evOp, evQs, evQ, evV, setD, pureOp, ev, upd, updL, gate, binW, eqOp, binV, intOp, shOp, boolOp, unV, convV, nilV, fieldAddrV, indexAddrV, extractV, cellAt, cellsAt, findB, setB, fillL, buildV, Value.cells, lenV, minV, maxV, hav, sliceV, loV, hiV, bslQ, mksQ, appQ, partsOk, partsCells, delB, eqL, SameI, strOp, apzQ, cvtQ, capV, ↓reduceIte, Zj, Zk, Nat.reduceAdd, Nat.reduceLT, Nat.reduceEqDiff, Nat.reduceMul, Nat.reduceLeDiff, if_true, Zn, reduceCtorEq, ZA, eq_self, Int.reduceLE, Int.reduceLT, Int.reduceToNat, ne_eq, Nat.reduceSub]
  refine ⟨fun h => ?_, fun h => ?_⟩
  all_goals
    repeat refine And.intro (by omega) ?_
    intro g
    simp only [List.map_cons, List.map_nil, updL, upd, Nat.reduceEqDiff, if_true, if_false, ↓reduceIte]
    refine hK _ _ ?_; clear hK K
    refine ret1 rfl ?_
    simp [upd, h]

end Go.Proofs

/-
  What the functions of this part hand back: each as a plain function of its arguments. Conditions: none.
-/
namespace Go.Proofs
open Go.W8
set_option linter.unusedVariables false
set_option linter.unusedSimpArgs false
set_option linter.unusedSectionVars false
set_option maxRecDepth 8000
set_option maxHeartbeats 4000000
--@plain
section
variable {H : Type} {enc : TypeId × Value → H} {P : Program} {w : World} {base : Nat} {spare : Nat → Bool} {held : Bool}

def toInt : Value → Int
  | .int _ n => n
  | _ => 0

/-- A grid's type. -/
structure GridT (P : Program) (t tn ta te : TypeId) (f0 f1 f2 : Field) : Prop where
  st : P.underlying t = some (.struct #[f0, f1, f2])
  y0 : f0.type = tn
  y1 : f1.type = ta
  y2 : f2.type = ta
  o0 : f0.offset = 0
  o1 : f1.offset = 1
  o2 : f2.offset = 9
  ct : P.cellsOf t = 17
  un : P.underlying tn = some (.int .i64)
  cn : P.cellsOf tn = 1
  ua : P.underlying ta = some (.array 8 te)
  ca : P.cellsOf ta = 8
  ue : P.underlying te = some (.int .u8)
  ce : P.cellsOf te = 1

def gridD (s : Int) (x o : List Int) : DataW H := .agg [.lit (.int .i64 s), .agg (x.map fun a => .lit (.int .u8 a)), .agg (o.map fun a => .lit (.int .u8 a))]

/-- A row of bytes. -/
structure Bytes8 (x : List Int) : Prop where
  len : x.length = 8
  lo : ∀ a ∈ x, 0 ≤ a
  hi : ∀ a ∈ x, a < 256

theorem wf_u8 {a : Int} : (Lit.int .u8 a).wf = true ↔ 0 ≤ a ∧ a < 256 := by
  simp [Lit.wf, IntKind.min, IntKind.max, IntKind.signed, IntKind.bits]; omega
end

end Go.Proofs

/-
  What the functions of this part hand back: each as a plain function of its arguments. Conditions: none.
-/
namespace Go.Proofs
open Go.W8
set_option linter.unusedVariables false
set_option linter.unusedSimpArgs false
set_option linter.unusedSectionVars false
set_option maxRecDepth 8000
set_option maxHeartbeats 4000000
--@plain
section
variable {H : Type} {enc : TypeId × Value → H} {P : Program} {w : World} {base : Nat} {spare : Nat → Bool} {held : Bool}
/-- A move's type: six numbers. -/
structure MoveT (P : Program) (t tn : TypeId) (f0 f1 f2 f3 f4 f5 : Field) : Prop where
  st : P.underlying t = some (.struct #[f0, f1, f2, f3, f4, f5])
  y0 : f0.type = tn
  y1 : f1.type = tn
  y2 : f2.type = tn
  y3 : f3.type = tn
  y4 : f4.type = tn
  y5 : f5.type = tn
  o0 : f0.offset = 0
  o1 : f1.offset = 1
  o2 : f2.offset = 2
  o3 : f3.offset = 3
  o4 : f4.offset = 4
  o5 : f5.offset = 5
  ct : P.cellsOf t = 6
  un : P.underlying tn = some (.int .i64)
  cn : P.cellsOf tn = 1
def moveD (a b c d e f : Int) : DataW H := .agg [.lit (.int .i64 a), .lit (.int .i64 b), .lit (.int .i64 c), .lit (.int .i64 d), .lit (.int .i64 e), .lit (.int .i64 f)]
def Rng (a : Int) : Prop := -9223372036854775808 ≤ a ∧ a < 9223372036854775808

end

end Go.Proofs

/-
  What the functions of this part hand back: each as a plain function of its arguments. Conditions: none.
-/
namespace Go.Proofs
open Go.W8
set_option linter.unusedVariables false
set_option linter.unusedSimpArgs false
set_option linter.unusedSectionVars false
set_option maxRecDepth 8000
set_option maxHeartbeats 4000000
--@plain
section
variable {H : Type} {enc : TypeId × Value → H} {P : Program} {w : World}
/-- A polynomial's type: a number and a slice of numbers. -/
structure LauT (P : Program) (t tn ts : TypeId) (f0 f1 : Field) : Prop where
  st : P.underlying t = some (.struct #[f0, f1])
  y0 : f0.type = tn
  y1 : f1.type = ts
  o0 : f0.offset = 0
  o1 : f1.offset = 1
  ct : P.cellsOf t = 2
  un : P.underlying tn = some (.int .i64)
  cn : P.cellsOf tn = 1
  us : P.underlying ts = some (.slice tn)
  cs : P.cellsOf ts = 1
  cells : P.cellTypes P.depth t = some [tn, ts]

end

end Go.Proofs

/-
  What the functions of this part hand back: each as a plain function of its arguments. Conditions: none.
-/
namespace Go.Proofs
open Go.W8
set_option linter.unusedVariables false
set_option linter.unusedSimpArgs false
set_option linter.unusedSectionVars false
set_option maxRecDepth 8000
set_option maxHeartbeats 4000000
--@plain
/-- The cells of a source: the text, the place in it, and the number that is mixed. -/
def srcC (cv : Value) (t h : Int) : List Value := [cv, .int .i64 t, .int .u64 h]
def okS (m : Nat) (t h : Int) : Prop := 0 ≤ t ∧ t ≤ (m : Int) ∧ 0 ≤ h ∧ h < 18446744073709551616
/-- Bytes in what is told. -/
def InB (R : Rd) (l : List Int) (v : Value) : Prop := ∃ a cap, v = .slice a l.length cap ∧ (l.length ≠ 0 → ∃ b o, a = some ⟨b, o, none⟩ ∧ (b, o, ints .u8 l) ∈ R)
theorem InB.get {W : List Nat} {w0 : World} {R : Rd} {l : List Int} {a : Option Addr} {m cap k : Nat} (h : InB R l (.slice a m cap)) (ht : W8.Told W w0 R) (hk : k < l.length) : ∃ b o, a = some ⟨b, o, none⟩ ∧ frn W w0 b (o + k) = some (.int .u8 (l.getD k 0)) := by
  obtain ⟨a', cap', e, h⟩ := h
  cases e
  obtain ⟨b, o, rfl, hm⟩ := h (by omega)
  exact ⟨b, o, rfl, ht _ hm k _ (ints_get hk)⟩
theorem InB.more {R R' : Rd} {l : List Int} {v : Value} (h : InB R l v) (hs : ∀ r ∈ R, r ∈ R') : InB R' l v := by
  obtain ⟨a, cap, rfl, h⟩ := h
  exact ⟨a, cap, rfl, fun h0 => by obtain ⟨b, o, e, hm⟩ := h h0; exact ⟨b, o, e, hs _ hm⟩⟩
theorem InB.form {R : Rd} {l : List Int} {v : Value} (h : InB R l v) : ∃ a cap, v = .slice a l.length cap := by
  obtain ⟨a, cap, rfl, _⟩ := h
  exact ⟨a, cap, rfl⟩
section
variable {P : Program} {N : Nat} {W : List Nat} {w0 : World} {ρ : Env} {M M' : Blks}
/-- A function that draws from the source in block b. -/
def Draws (P : Program) (f : FuncId) (args : List Value) (b : Nat) (cv : Value) (R : Rd) (m : Nat) (Post : Value → Prop) : Prop :=
  ∀ t h, okS m t h → GivesX P f args.toArray [(b, srcC cv t h)] R fun v M' => Post v ∧ ∃ t' h', okS m t' h' ∧ M' = [(b, srcC cv t' h')]
theorem setB_mem {b : Nat} {cs : List Value} : ∀ {M : Blks}, (M.map (·.1)).Nodup → ∀ {p : Nat × List Value}, p ∈ setB b cs M → p = (b, cs) ∨ (p ∈ M ∧ p.1 ≠ b)
  | [], _, p, h => nomatch h
  | (b', cs') :: M, hn, p, h => by
    simp only [List.map_cons, List.nodup_cons] at hn
    unfold setB at h
    split at h
    · rename_i e; subst e
      rcases List.mem_cons.1 h with h | h
      · exact .inl h
      · exact .inr ⟨List.mem_cons_of_mem _ h, fun e => hn.1 (by rw [← e]; exact List.mem_map_of_mem h)⟩
    · rename_i e
      rcases List.mem_cons.1 h with h | h
      · subst h; exact .inr ⟨List.mem_cons_self .., e⟩
      · rcases setB_mem hn.2 h with h | h
        · exact .inl h
        · exact .inr ⟨List.mem_cons_of_mem _ h.1, h.2⟩
theorem setB_keys {b : Nat} {cs : List Value} : ∀ {M : Blks}, (setB b cs M).map (·.1) = M.map (·.1)
  | [] => rfl
  | (b', cs') :: M => by
    unfold setB
    split
    · rfl
    · simp [setB_keys (M := M)]
theorem Draws.acall {f : FuncId} {args : List Value} {b m : Nat} {cv : Value} {R : Rd} {Post : Value → Prop} {t h : Int} {R' : Value → Blks → Prop} (hd : Draws P f args b cv R m Post) (ho : okS m t h) (hf : findB b M = some (srcC cv t h))
    (hR : ∀ w, Own W w0 M w → ToldW w R) (hk : ∀ v t' h', okS m t' h' → Post v → R' v (setB b (srcC cv t' h') M)) : ACall P W w0 f args.toArray M R' := by
  have hg := hd t h ho
  refine ⟨hg.1, fun w hw => (hg.2 w (by simp) (fun p hp => ?_) (hR w hw)).mono ?_⟩
  · rw [List.mem_singleton.1 hp]; exact hw.blk _ (findB_mem hf)
  rintro e w' ⟨v, M', rfl, hw', hp, t', h', ho', rfl⟩
  refine ⟨v, _, rfl, ?_, hk v t' h' ho' hp⟩
  have hown := hw.thenL (L := [(b, srcC cv t h)]) (Mr := delB b M) (fun p hp => by rw [List.mem_singleton.1 hp]; exact findB_mem hf) (delB_sub b M) (fun p hp hm => by
    simp only [List.map_cons, List.map_nil, List.mem_singleton] at hm
    exact delB_ne hw.nodup p hp hm) hw'
  refine hown.turn (fun p hp => ?_) (by rw [setB_keys]; exact hw.nodup)
  rcases setB_mem hw.nodup hp with h1 | h1
  · rw [h1]; exact List.mem_append_left _ (List.mem_singleton.2 rfl)
  · refine List.mem_append_right _ ?_
    have key : ∀ {M : Blks}, p ∈ M → p.1 ≠ b → p ∈ delB b M := by
      intro M
      induction M with
      | nil => intro h _; cases h
      | cons q M ih =>
        intro h hne
        obtain ⟨b', cs'⟩ := q
        unfold delB
        split
        · rename_i e
          rcases List.mem_cons.1 h with h | h
          · subst h; exact absurd e hne
          · exact h
        · rcases List.mem_cons.1 h with h | h
          · exact h ▸ List.mem_cons_self ..
          · exact List.mem_cons_of_mem _ (ih h hne)
    exact key h1.1 h1.2
theorem callK_draw {n : FuncId} {args : List Value} {d : Option Tmp} {ops : Array Oper} {rest : List Oper} {b m : Nat} {cv : Value} {R : Rd} {Post : Value → Prop} {t h : Int} {K : Env → Blks → Prop} (hd : Draws P n args b cv R m Post) (ho : okS m t h) (hf : findB b M = some (srcC cv t h))
    (hR : ∀ w, Own W w0 M w → ToldW w R) (hk : ∀ v t' h', okS m t' h' → Post v → setD N ρ d v fun ρ' => evOps P N W w0 ops rest ρ' (setB b (srcC cv t' h') M) K) : callK P N W w0 (.func (.func n) #[] #[]) args M d ρ ops rest K := by
  unfold callK
  simp only [List.append_nil, List.nil_append]
  exact hd.acall ho hf hR hk
theorem callO_draw {n : FuncId} {args : List Value} {d : Option Tmp} {ops : Array Oper} {p : Plan} {b m : Nat} {cv : Value} {R : Rd} {Post : Value → Prop} {t h : Int} {K : Env → Blks → Prop} (hd : Draws P n args b cv R m Post) (ho : okS m t h) (hf : findB b M = some (srcC cv t h))
    (hR : ∀ w, Own W w0 M w → ToldW w R) (hk : ∀ v t' h', okS m t' h' → Post v → setD N ρ d v fun ρ' => evPlan P N W w0 ops p ρ' (setB b (srcC cv t' h') M) K) : callO P N W w0 (.func (.func n) #[] #[]) args M d ρ ops p K := by
  unfold callO
  simp only [List.append_nil, List.nil_append]
  exact hd.acall ho hf hR hk
theorem toldW_pick {R : Rd} {bl : Nat} {ns : List Int} {cs : List Value} (hm : (bl, cs) ∈ M) (hc : cs = ints .i64 ns) (hR : W8.Told W w0 R) : ∀ w, Own W w0 M w → ToldW w ((bl, 0, ints .i64 ns) :: R) := by
  subst hc
  intro w hw r hr
  rcases List.mem_cons.1 hr with e | hr
  · subst e
    exact toldW_mem (L := [(bl, ints .i64 ns)]) (fun p hp => by rw [List.mem_singleton.1 hp]; exact hm) w hw _ (List.mem_singleton.2 rfl)
  · exact Told.toldW hR w hw r hr
/-- What a function that draws hands back at its end. -/
theorem Draws.of {f : FuncId} {args : List Value} {b m : Nat} {cv : Value} {R : Rd} {Post : Value → Prop} (h : ∀ t h, okS m t h → GivesX P f args.toArray [(b, srcC cv t h)] R fun v M' => ∃ t' h', okS m t' h' ∧ Post v ∧ SubP [(b, srcC cv t' h')] M') : Draws P f args b cv R m Post :=
  fun t hh ho => GivesX.part ((h t hh ho).mono fun v M' ⟨t', h', h1, h2, h3⟩ => ⟨_, h3, h2, t', h', h1, rfl⟩)
end
def isInt (lo hi : Int) (v : Value) : Prop := ∃ x, v = .int .i64 x ∧ lo ≤ x ∧ x < hi
def isGrid (v : Value) : Prop := ∃ s x o, v = .agg (gc s x o).toArray ∧ Rng s ∧ Bytes8 x ∧ Bytes8 o

end Go.Proofs

/-
  What the functions of this part hand back: each as a plain function of its arguments. Conditions: none.
-/
namespace Go.Proofs
open Go.W8
set_option linter.unusedVariables false
set_option linter.unusedSimpArgs false
set_option linter.unusedSectionVars false
set_option maxRecDepth 8000
set_option maxHeartbeats 4000000
theorem wrap_u64 (x : Int) : 0 ≤ IntKind.wrap .u64 x ∧ IntKind.wrap .u64 x < 18446744073709551616 := by
  have e : (2 ^ IntKind.u64.bits : Int) = 18446744073709551616 := by decide
  have hs : IntKind.u64.signed = false := rfl
  unfold IntKind.wrap
  simp only [e, hs, Bool.false_and, Bool.false_eq_true, if_false]
  omega
theorem wrap_rng (x : Int) : Rng (IntKind.wrap .i64 x) := by
  have e : (2 ^ IntKind.i64.bits : Int) = 18446744073709551616 := by decide
  have e2 : (2 ^ (IntKind.i64.bits - 1) : Int) = 9223372036854775808 := by decide
  have hs : IntKind.i64.signed = true := rfl
  unfold IntKind.wrap Rng
  simp only [e, e2, hs, Bool.true_and, decide_eq_true_eq]
  split <;> omega
theorem mask24 (a : Int) : ∃ x : Int, IntKind.wrap .i64 (IntKind.wrap .u64 ((BitVec.ofInt IntKind.u64.bits a &&& BitVec.ofInt IntKind.u64.bits 16777215).toNat : Int)) = x ∧ 0 ≤ x ∧ x ≤ 16777215 := by
  refine ⟨_, rfl, ?_⟩
  have h : (BitVec.ofInt IntKind.u64.bits a &&& BitVec.ofInt IntKind.u64.bits 16777215).toNat ≤ 16777215 := by
    rw [BitVec.toNat_and]
    exact Nat.le_trans Nat.and_le_right (by decide)
  generalize (BitVec.ofInt IntKind.u64.bits a &&& BitVec.ofInt IntKind.u64.bits 16777215).toNat = y at *
  have e : (2 ^ IntKind.u64.bits : Int) = 18446744073709551616 := by decide
  have hs : IntKind.u64.signed = false := rfl
  have h2 : IntKind.wrap .u64 (y : Int) = y := by
    unfold IntKind.wrap
    simp only [e, hs, Bool.false_and, Bool.false_eq_true, if_false]
    omega
  rw [h2, wrap_i64 (by omega) (by omega)]
  omega
section
variable (l : List Int) (cv : Value) (R : Rd) (hin : InB R l cv) (hl : l.length ≤ 4096) (hb : ∀ k, k < l.length → 0 ≤ l.getD k 0 ∧ l.getD k 0 < 256)
include hin hl hb
theorem from_c : GivesX Try.prog 86 #[cv] [] R (fun v M' => ∃ b t h, v = .pointer (some ⟨b, 0, none⟩) ∧ okS l.length t h ∧ M' = [(b, srcC cv t h)]) := by
  obtain ⟨a, cap, rfl⟩ := hin.form
  refine GivesX.part ?_
  refine GivesX.of (callable_of Try.func86 rfl (by decide)) ?_ fun w hnd hlt hR => ?_
  · simp
  refine acall_of (N := 38) (c := _) (rs := [.tmp 2]) (args := [_]) Try.func86 rfl (by decide) rfl rfl (Nat.le_of_ble_eq_true rfl) ?_
  have hR : W8.Told [] w R := hR
  refine Cd.rs [0] fun K hK => ?_
  simp (maxSteps := 2000000) (disch := first | (simp only [E4] <;> omega) | omega | fail) only [↓E2, E3, bare, bareJ, ↓E0, E1, evP, evPlan, env0, envN, evOps, evOp, evQs, evQ, evV, setD, pureOp, ev, upd, updL, gate, binW, eqOp, binV, intOp, shOp, boolOp, unV, convV, nilV, fieldAddrV, indexAddrV, extractV, cellAt, cellsAt, findB, setB, fillL, buildV, Value.cells, lenV, minV, maxV, hav, sliceV, loV, hiV, bslQ, mksQ, appQ, partsOk, partsCells, delB, eqL, SameI, strOp, apzQ, cvtQ, capV, ↓reduceIte, Zj, Zk, Nat.reduceAdd, Nat.reduceLT, Nat.reduceEqDiff, Nat.reduceMul, Nat.reduceLeDiff, if_true, Zn, reduceCtorEq, ZA, eq_self, Int.reduceLE, Int.reduceLT, Int.reduceToNat, ne_eq, Nat.reduceSub]
  repeat refine And.intro (by omega) ?_
  repeat refine And.intro (by omega) ?_
  intro g
  simp only [List.map_cons, List.map_nil, updL, upd, Nat.reduceEqDiff, if_true, if_false, ↓reduceIte]
  refine hK _ _ ?_; clear hK K
  refine Cd.rs [0, 3] fun K hK => ?_
  simp (maxSteps := 2000000) (disch := first | (simp only [E4] <;> omega) | omega | fail) only [↓E2, E3, bare, bareJ, ↓E0, E1, evP, evPlan, env0, envN, evOps, evOp, evQs, evQ, evV, setD, pureOp, ev, upd, updL, gate, binW, eqOp, binV, intOp, shOp, boolOp, unV, convV, nilV, fieldAddrV, indexAddrV, extractV, cellAt, cellsAt, findB, setB, fillL, buildV, Value.cells, lenV, minV, maxV, hav, sliceV, loV, hiV, bslQ, mksQ, appQ, partsOk, partsCells, delB, eqL, SameI, strOp, apzQ, cvtQ, capV, ↓reduceIte, Zj, Zk, Nat.reduceAdd, Nat.reduceLT, Nat.reduceEqDiff, Nat.reduceMul, Nat.reduceLeDiff, if_true, Zn, reduceCtorEq, ZA, eq_self, Int.reduceLE, Int.reduceLT, Int.reduceToNat, ne_eq, Nat.reduceSub, Tbld145, Tint143, Tpar3, Tslce28]
  repeat refine And.intro (by omega) ?_
  intro b1 hb1
  try simp (maxSteps := 2000000) (disch := first | (simp only [E4] <;> omega) | omega | fail) only [↓E2, E3, bare, bareJ, ↓E0, E1, evP, evPlan, env0, envN, evOps, evOp, evQs, evQ, evV, setD, pureOp, ev, upd, updL, gate, binW, eqOp, binV, intOp, shOp, boolOp, unV, convV, nilV, fieldAddrV, indexAddrV, extractV, cellAt, cellsAt, findB, setB, fillL, buildV, Value.cells, lenV, minV, maxV, hav, sliceV, loV, hiV, bslQ, mksQ, appQ, partsOk, partsCells, delB, eqL, SameI, strOp, apzQ, cvtQ, capV, ↓reduceIte, Zj, Zk, Nat.reduceAdd, Nat.reduceLT, Nat.reduceEqDiff, Nat.reduceMul, Nat.reduceLeDiff, if_true, Zn, reduceCtorEq, ZA, eq_self, Int.reduceLE, Int.reduceLT, Int.reduceToNat, ne_eq, Nat.reduceSub, Tbld145, Tint143, Tpar3, Tslce28]
  repeat refine And.intro (by omega) ?_
  repeat refine And.intro (by omega) ?_
  intro g
  simp only [List.map_cons, List.map_nil, updL, upd, Nat.reduceEqDiff, if_true, if_false, ↓reduceIte]
  refine hK _ _ ?_; clear hK K
  refine Cd.seq ?_
  refine Cd.rs [0, 3, 4] fun K hK => ?_
  simp (maxSteps := 2000000) (disch := first | (simp only [E4] <;> omega) | omega | fail) only [↓E2, E3, bare, bareJ, ↓E0, E1, evP, evPlan, env0, envN, evOps, evOp, evQs, evQ, evV, setD, pureOp, ev, upd, updL, gate, binW, eqOp, binV, intOp, shOp, boolOp, unV, convV, nilV, fieldAddrV, indexAddrV, extractV, cellAt, cellsAt, findB, setB, fillL, buildV, Value.cells, lenV, minV, maxV, hav, sliceV, loV, hiV, bslQ, mksQ, appQ, partsOk, partsCells, delB, eqL, SameI, strOp, apzQ, cvtQ, capV, ↓reduceIte, Zj, Zk, Nat.reduceAdd, Nat.reduceLT, Nat.reduceEqDiff, Nat.reduceMul, Nat.reduceLeDiff, if_true, Zn, reduceCtorEq, ZA, eq_self, Int.reduceLE, Int.reduceLT, Int.reduceToNat, ne_eq, Nat.reduceSub]
  repeat refine And.intro (by omega) ?_
  repeat refine And.intro (by omega) ?_
  intro g
  simp only [List.map_cons, List.map_nil, updL, upd, Nat.reduceEqDiff, if_true, if_false, ↓reduceIte]
  refine hK _ _ ?_; clear hK K
  refine Cd.block ?_
  refine Cd.loop (fun q ρ M => ∃ g k h, k + q = l.length ∧ 0 ≤ h ∧ h < 18446744073709551616 ∧ ρ = updL [(0, .slice a l.length cap), (3, .pointer (some ⟨b1, 0, none⟩)), (4, .int .i64 (k : Int))] g ∧ M = [(b1, [.slice a l.length cap, .int .i64 0, .int .u64 h])]) l.length ⟨_, 0, _, Nat.zero_add _, (wrap_u64 _).1, (wrap_u64 _).2, rfl, rfl⟩ ?_
  rintro q ρ M ⟨g, k, h, hk, h0, h1, rfl, rfl⟩
  refine Cd.seq ?_
  refine Cd.rs [0, 3, 4, 19] fun K hK => ?_
  simp (maxSteps := 2000000) (disch := first | (simp only [E4] <;> omega) | omega | fail) only [↓E2, E3, bare, bareJ, ↓E0, E1, evP, evPlan, env0, envN, evOps, evOp, evQs, evQ, evV, setD, pureOp, ev, upd, updL, gate, binW, eqOp, binV, intOp, shOp, boolOp, unV, convV, nilV, fieldAddrV, indexAddrV, extractV, cellAt, cellsAt, findB, setB, fillL, buildV, Value.cells, lenV, minV, maxV, hav, sliceV, loV, hiV, bslQ, mksQ, appQ, partsOk, partsCells, delB, eqL, SameI, strOp, apzQ, cvtQ, capV, ↓reduceIte, Zj, Zk, Nat.reduceAdd, Nat.reduceLT, Nat.reduceEqDiff, Nat.reduceMul, Nat.reduceLeDiff, if_true, Zn, reduceCtorEq, ZA, eq_self, Int.reduceLE, Int.reduceLT, Int.reduceToNat, ne_eq, Nat.reduceSub, Tslce28]
  repeat refine And.intro (by omega) ?_
  apply guardX_and 2 [17, 18] (j := 4) (d := 16) (tp := 19) (tl := 18) rfl rfl rfl rfl rfl
  · intro hq
    simp (maxSteps := 2000000) (disch := first | (simp only [E4] <;> omega) | omega | fail) only [↓E2, E3, bare, bareJ, ↓E0, E1, evP, evPlan, env0, envN, evOps, evOp, evQs, evQ, evV, setD, pureOp, ev, upd, updL, gate, binW, eqOp, binV, intOp, shOp, boolOp, unV, convV, nilV, fieldAddrV, indexAddrV, extractV, cellAt, cellsAt, findB, setB, fillL, buildV, Value.cells, lenV, minV, maxV, hav, sliceV, loV, hiV, bslQ, mksQ, appQ, partsOk, partsCells, delB, eqL, SameI, strOp, apzQ, cvtQ, capV, ↓reduceIte, Zj, Zk, Nat.reduceAdd, Nat.reduceLT, Nat.reduceEqDiff, Nat.reduceMul, Nat.reduceLeDiff, if_true, Zn, reduceCtorEq, ZA, eq_self, Int.reduceLE, Int.reduceLT, Int.reduceToNat, ne_eq, Nat.reduceSub, Tslce28]
    repeat refine And.intro (by omega) ?_
    exact rfl
  intro g
  simp (maxSteps := 2000000) (disch := first | (simp only [E4] <;> omega) | omega | fail) only [↓E2, E3, bare, bareJ, ↓E0, E1, evP, evPlan, env0, envN, evOps, evOp, evQs, evQ, evV, setD, pureOp, ev, upd, updL, gate, binW, eqOp, binV, intOp, shOp, boolOp, unV, convV, nilV, fieldAddrV, indexAddrV, extractV, cellAt, cellsAt, findB, setB, fillL, buildV, Value.cells, lenV, minV, maxV, hav, sliceV, loV, hiV, bslQ, mksQ, appQ, partsOk, partsCells, delB, eqL, SameI, strOp, apzQ, cvtQ, capV, ↓reduceIte, Zj, Zk, Nat.reduceAdd, Nat.reduceLT, Nat.reduceEqDiff, Nat.reduceMul, Nat.reduceLeDiff, if_true, Zn, reduceCtorEq, ZA, eq_self, Int.reduceLE, Int.reduceLT, Int.reduceToNat, ne_eq, Nat.reduceSub, Tslce28]
  repeat refine And.intro (by omega) ?_
  repeat refine And.intro (by omega) ?_
  intro g
  simp only [List.map_cons, List.map_nil, updL, upd, Nat.reduceEqDiff, if_true, if_false, ↓reduceIte]
  refine hK _ _ ?_; clear hK K
  refine Cd.cond rfl (fun c1 => ?_) (fun c1 => ?_)
  · simp only [decide_eq_true_eq, decide_eq_false_iff_not, beq_iff_eq, beq_eq_false_iff_ne, bne_iff_ne, bne_eq_false_iff_eq, Bool.and_eq_true, Bool.or_eq_true, Bool.or_eq_false_iff, Bool.not_eq_true', Bool.not_eq_false', Bool.and_eq_false_imp, ne_eq, gt_iff_lt, ge_iff_le, Int.not_lt, Int.not_le, Classical.not_not] at c1
    obtain ⟨bb, oo, rfl, hg⟩ := hin.get hR (k := k) (by omega)
    have hby := hb k (by omega)
    have hne : (b1 = bb) = False := eq_false fun e => by have h1 := frn_lt hg; have h2 := hb1.1; omega
    refine Cd.skip ?_
    refine thenN ?_
    refine Cd.seq ?_
    refine Cd.block ?_
    skip
    refine Cd.pr [0, 3, 4] (Plan.take 0 (Plan.take 1 (Plan.take 2 (Plan.take 3 (Plan.take 4 (Plan.take 5 (Plan.take 6 (Plan.take 7 (Plan.take 8 (Plan.take 9 (Plan.take 10 (Plan.take 11 (Plan.take 12 (Plan.take 13 (Plan.take 14 (Plan.one 15 (Plan.done))))))))))))))))) fol (by kernel_rfl) (Nat.le_of_ble_eq_true rfl) fun K hK => ?_
    simp (maxSteps := 2000000) (disch := first | (simp only [E4, hg, hne] <;> omega) | omega | fail) only [↓E2, E3, bare, bareJ, ↓E0, E1, evP, evPlan, env0, envN, evOps, evOp, evQs, evQ, evV, setD, pureOp, ev, upd, updL, gate, binW, eqOp, binV, intOp, shOp, boolOp, unV, convV, nilV, fieldAddrV, indexAddrV, extractV, cellAt, cellsAt, findB, setB, fillL, buildV, Value.cells, lenV, minV, maxV, hav, sliceV, loV, hiV, bslQ, mksQ, appQ, partsOk, partsCells, delB, eqL, SameI, strOp, apzQ, cvtQ, capV, ↓reduceIte, Zj, Zk, Nat.reduceAdd, Nat.reduceLT, Nat.reduceEqDiff, Nat.reduceMul, Nat.reduceLeDiff, if_true, Zn, reduceCtorEq, ZA, eq_self, Int.reduceLE, Int.reduceLT, Int.reduceToNat, ne_eq, Nat.reduceSub, Tfld145_2, Tint143, Tld143, Tld5, Tpar5, Tslc28, Tst143, hg, hne]
    repeat refine And.intro (by omega) ?_
    repeat refine And.intro (by omega) ?_
    intro g
    simp only [List.map_cons, List.map_nil, updL, upd, Nat.reduceEqDiff, if_true, if_false, ↓reduceIte]
    refine hK _ _ ?_; clear hK K
    refine inBN ?_
    refine thenN ?_
    refine Cd.rr [0, 3, 4] fun K hK => ?_
    simp (maxSteps := 2000000) (disch := first | (simp only [E4, hg, hne] <;> omega) | omega | fail) only [↓E2, E3, bare, bareJ, ↓E0, E1, evP, evPlan, env0, envN, evOps, evOp, evQs, evQ, evV, setD, pureOp, ev, upd, updL, gate, binW, eqOp, binV, intOp, shOp, boolOp, unV, convV, nilV, fieldAddrV, indexAddrV, extractV, cellAt, cellsAt, findB, setB, fillL, buildV, Value.cells, lenV, minV, maxV, hav, sliceV, loV, hiV, bslQ, mksQ, appQ, partsOk, partsCells, delB, eqL, SameI, strOp, apzQ, cvtQ, capV, ↓reduceIte, Zj, Zk, Nat.reduceAdd, Nat.reduceLT, Nat.reduceEqDiff, Nat.reduceMul, Nat.reduceLeDiff, if_true, Zn, reduceCtorEq, ZA, eq_self, Int.reduceLE, Int.reduceLT, Int.reduceToNat, ne_eq, Nat.reduceSub, hg, hne]
    repeat refine And.intro (by omega) ?_
    repeat refine And.intro (by omega) ?_
    intro g
    simp only [List.map_cons, List.map_nil, updL, upd, Nat.reduceEqDiff, if_true, if_false, ↓reduceIte]
    refine hK _ _ ?_; clear hK K
    exact roundN (m := q - 1) (by omega) ⟨_, k + 1, _, by omega, (wrap_u64 _).1, (wrap_u64 _).2, rfl, rfl⟩
  · simp only [decide_eq_true_eq, decide_eq_false_iff_not, beq_iff_eq, beq_eq_false_iff_ne, bne_iff_ne, bne_eq_false_iff_eq, Bool.and_eq_true, Bool.or_eq_true, Bool.or_eq_false_iff, Bool.not_eq_true', Bool.not_eq_false', Bool.and_eq_false_imp, ne_eq, gt_iff_lt, ge_iff_le, Int.not_lt, Int.not_le, Classical.not_not] at c1
    refine Cd.exit (thenX (roundX (inBX ?_)))
    refine thenN ?_
    refine Cd.rs [2] fun K hK => ?_
    simp (maxSteps := 2000000) (disch := first | (simp only [E4] <;> omega) | omega | fail) only [↓E2, E3, bare, bareJ, ↓E0, E1, evP, evPlan, env0, envN, evOps, evOp, evQs, evQ, evV, setD, pureOp, ev, upd, updL, gate, binW, eqOp, binV, intOp, shOp, boolOp, unV, convV, nilV, fieldAddrV, indexAddrV, extractV, cellAt, cellsAt, findB, setB, fillL, buildV, Value.cells, lenV, minV, maxV, hav, sliceV, loV, hiV, bslQ, mksQ, appQ, partsOk, partsCells, delB, eqL, SameI, strOp, apzQ, cvtQ, capV, ↓reduceIte, Zj, Zk, Nat.reduceAdd, Nat.reduceLT, Nat.reduceEqDiff, Nat.reduceMul, Nat.reduceLeDiff, if_true, Zn, reduceCtorEq, ZA, eq_self, Int.reduceLE, Int.reduceLT, Int.reduceToNat, ne_eq, Nat.reduceSub]
    repeat refine And.intro (by omega) ?_
    repeat refine And.intro (by omega) ?_
    intro g
    simp only [List.map_cons, List.map_nil, updL, upd, Nat.reduceEqDiff, if_true, if_false, ↓reduceIte]
    refine hK _ _ ?_; clear hK K
    refine Cd.ret ?_
    simp (maxSteps := 2000000) (disch := first | (simp only [E4] <;> omega) | omega | fail) only [↓E2, E3, bare, bareJ, ↓E0, E1, evP, evPlan, env0, envN, evOps, evOp, evQs, evQ, evV, setD, pureOp, ev, upd, updL, gate, binW, eqOp, binV, intOp, shOp, boolOp, unV, convV, nilV, fieldAddrV, indexAddrV, extractV, cellAt, cellsAt, findB, setB, fillL, buildV, Value.cells, lenV, minV, maxV, hav, sliceV, loV, hiV, bslQ, mksQ, appQ, partsOk, partsCells, delB, eqL, SameI, strOp, apzQ, cvtQ, capV, ↓reduceIte, Zj, Zk, Nat.reduceAdd, Nat.reduceLT, Nat.reduceEqDiff, Nat.reduceMul, Nat.reduceLeDiff, if_true, Zn, reduceCtorEq, ZA, eq_self, Int.reduceLE, Int.reduceLT, Int.reduceToNat, ne_eq, Nat.reduceSub]
    repeat refine And.intro (by omega) ?_
    exact ⟨_, SubP.refl _, b1, 0, h, rfl, ⟨by omega, by omega, h0, h1⟩, rfl⟩
theorem next_c (b : Nat) (hRb : ∀ r ∈ R, r.1 ≠ b) (n : Int) (hn : Rng n) : Draws Try.prog 88 [.pointer (some ⟨b, 0, none⟩), .int .i64 n] b cv R l.length (isInt 0 (max n 1)) := by
  refine Draws.of fun t h ho => ?_
  obtain ⟨t0, t1, h0, h1⟩ := ho
  obtain ⟨a, cap, rfl⟩ := hin.form
  show GivesX _ _ _ [(b, [_, _, _])] _ _
  refine GivesX.of (callable_of Try.func88 rfl (by decide)) ?_ fun w hnd hlt hR => ?_
  · simpa using hRb
  refine acall_of (N := 58) (c := _) (rs := [.tmp 4]) (args := [_, _]) Try.func88 rfl (by decide) rfl rfl (Nat.le_of_ble_eq_true rfl) ?_
  have hR : W8.Told [b] w R := hR
  refine Cd.rs [0, 1] fun K hK => ?_
  simp (maxSteps := 2000000) (disch := first | (simp only [E4] <;> omega) | omega | fail) only [↓E2, E3, bare, bareJ, ↓E0, E1, evP, evPlan, env0, envN, evOps, evOp, evQs, evQ, evV, setD, pureOp, ev, upd, updL, gate, binW, eqOp, binV, intOp, shOp, boolOp, unV, convV, nilV, fieldAddrV, indexAddrV, extractV, cellAt, cellsAt, findB, setB, fillL, buildV, Value.cells, lenV, minV, maxV, hav, sliceV, loV, hiV, bslQ, mksQ, appQ, partsOk, partsCells, delB, eqL, SameI, strOp, apzQ, cvtQ, capV, ↓reduceIte, Zj, Zk, Nat.reduceAdd, Nat.reduceLT, Nat.reduceEqDiff, Nat.reduceMul, Nat.reduceLeDiff, if_true, Zn, reduceCtorEq, ZA, eq_self, Int.reduceLE, Int.reduceLT, Int.reduceToNat, ne_eq, Nat.reduceSub]
  repeat refine And.intro (by omega) ?_
  repeat refine And.intro (by omega) ?_
  intro g
  simp only [List.map_cons, List.map_nil, updL, upd, Nat.reduceEqDiff, if_true, if_false, ↓reduceIte]
  refine hK _ _ ?_; clear hK K
  refine Cd.seq ?_
  refine Cd.rs [0, 1, 7] fun K hK => ?_
  simp (maxSteps := 2000000) (disch := first | (simp only [E4] <;> omega) | omega | fail) only [↓E2, E3, bare, bareJ, ↓E0, E1, evP, evPlan, env0, envN, evOps, evOp, evQs, evQ, evV, setD, pureOp, ev, upd, updL, gate, binW, eqOp, binV, intOp, shOp, boolOp, unV, convV, nilV, fieldAddrV, indexAddrV, extractV, cellAt, cellsAt, findB, setB, fillL, buildV, Value.cells, lenV, minV, maxV, hav, sliceV, loV, hiV, bslQ, mksQ, appQ, partsOk, partsCells, delB, eqL, SameI, strOp, apzQ, cvtQ, capV, ↓reduceIte, Zj, Zk, Nat.reduceAdd, Nat.reduceLT, Nat.reduceEqDiff, Nat.reduceMul, Nat.reduceLeDiff, if_true, Zn, reduceCtorEq, ZA, eq_self, Int.reduceLE, Int.reduceLT, Int.reduceToNat, ne_eq, Nat.reduceSub]
  repeat refine And.intro (by omega) ?_
  repeat refine And.intro (by omega) ?_
  intro g
  simp only [List.map_cons, List.map_nil, updL, upd, Nat.reduceEqDiff, if_true, if_false, ↓reduceIte]
  refine hK _ _ ?_; clear hK K
  refine Cd.condd rfl (fun c1 => ?_) (fun c1 => ?_)
  · refine Cd.rs [4] fun K hK => ?_
    simp (maxSteps := 2000000) (disch := first | (simp only [E4] <;> omega) | omega | fail) only [↓E2, E3, bare, bareJ, ↓E0, E1, evP, evPlan, env0, envN, evOps, evOp, evQs, evQ, evV, setD, pureOp, ev, upd, updL, gate, binW, eqOp, binV, intOp, shOp, boolOp, unV, convV, nilV, fieldAddrV, indexAddrV, extractV, cellAt, cellsAt, findB, setB, fillL, buildV, Value.cells, lenV, minV, maxV, hav, sliceV, loV, hiV, bslQ, mksQ, appQ, partsOk, partsCells, delB, eqL, SameI, strOp, apzQ, cvtQ, capV, ↓reduceIte, Zj, Zk, Nat.reduceAdd, Nat.reduceLT, Nat.reduceEqDiff, Nat.reduceMul, Nat.reduceLeDiff, if_true, Zn, reduceCtorEq, ZA, eq_self, Int.reduceLE, Int.reduceLT, Int.reduceToNat, ne_eq, Nat.reduceSub]
    repeat refine And.intro (by omega) ?_
    repeat refine And.intro (by omega) ?_
    intro g
    simp only [List.map_cons, List.map_nil, updL, upd, Nat.reduceEqDiff, if_true, if_false, ↓reduceIte]
    refine hK _ _ ?_; clear hK K
    refine Cd.ret (thenR ?_)
    simp (maxSteps := 2000000) (disch := first | (simp only [E4] <;> omega) | omega | fail) only [↓E2, E3, bare, bareJ, ↓E0, E1, evP, evPlan, env0, envN, evOps, evOp, evQs, evQ, evV, setD, pureOp, ev, upd, updL, gate, binW, eqOp, binV, intOp, shOp, boolOp, unV, convV, nilV, fieldAddrV, indexAddrV, extractV, cellAt, cellsAt, findB, setB, fillL, buildV, Value.cells, lenV, minV, maxV, hav, sliceV, loV, hiV, bslQ, mksQ, appQ, partsOk, partsCells, delB, eqL, SameI, strOp, apzQ, cvtQ, capV, ↓reduceIte, Zj, Zk, Nat.reduceAdd, Nat.reduceLT, Nat.reduceEqDiff, Nat.reduceMul, Nat.reduceLeDiff, if_true, Zn, reduceCtorEq, ZA, eq_self, Int.reduceLE, Int.reduceLT, Int.reduceToNat, ne_eq, Nat.reduceSub]
    repeat refine And.intro (by omega) ?_
    exact ⟨t, h, ⟨t0, t1, h0, h1⟩, ⟨0, rfl, by omega, by omega⟩, SubP.refl _⟩
  · refine Cd.skip ?_
    refine thenN ?_
    refine Cd.rs [0, 1] fun K hK => ?_
    simp (maxSteps := 2000000) (disch := first | (simp only [E4] <;> omega) | omega | fail) only [↓E2, E3, bare, bareJ, ↓E0, E1, evP, evPlan, env0, envN, evOps, evOp, evQs, evQ, evV, setD, pureOp, ev, upd, updL, gate, binW, eqOp, binV, intOp, shOp, boolOp, unV, convV, nilV, fieldAddrV, indexAddrV, extractV, cellAt, cellsAt, findB, setB, fillL, buildV, Value.cells, lenV, minV, maxV, hav, sliceV, loV, hiV, bslQ, mksQ, appQ, partsOk, partsCells, delB, eqL, SameI, strOp, apzQ, cvtQ, capV, ↓reduceIte, Zj, Zk, Nat.reduceAdd, Nat.reduceLT, Nat.reduceEqDiff, Nat.reduceMul, Nat.reduceLeDiff, if_true, Zn, reduceCtorEq, ZA, eq_self, Int.reduceLE, Int.reduceLT, Int.reduceToNat, ne_eq, Nat.reduceSub, Tfld145_2, Tld143, Tst143]
    repeat refine And.intro (by omega) ?_
    repeat refine And.intro (by omega) ?_
    intro g
    simp only [List.map_cons, List.map_nil, updL, upd, Nat.reduceEqDiff, if_true, if_false, ↓reduceIte]
    refine hK _ _ ?_; clear hK K
    obtain ⟨h2, e2, h2a, h2b⟩ : ∃ h2, IntKind.wrap .u64 (IntKind.wrap .u64 (h * 6364136223846793005) + 1442695040888963407) = h2 ∧ 0 ≤ h2 ∧ h2 < 18446744073709551616 := ⟨_, rfl, wrap_u64 _⟩
    rw [e2]
    clear e2 h0 h1
    refine Cd.rs [0, 1, 5] fun K hK => ?_
    simp (maxSteps := 2000000) (disch := first | (simp only [E4] <;> omega) | omega | fail) only [↓E2, E3, bare, bareJ, ↓E0, E1, evP, evPlan, env0, envN, evOps, evOp, evQs, evQ, evV, setD, pureOp, ev, upd, updL, gate, binW, eqOp, binV, intOp, shOp, boolOp, unV, convV, nilV, fieldAddrV, indexAddrV, extractV, cellAt, cellsAt, findB, setB, fillL, buildV, Value.cells, lenV, minV, maxV, hav, sliceV, loV, hiV, bslQ, mksQ, appQ, partsOk, partsCells, delB, eqL, SameI, strOp, apzQ, cvtQ, capV, ↓reduceIte, Zj, Zk, Nat.reduceAdd, Nat.reduceLT, Nat.reduceEqDiff, Nat.reduceMul, Nat.reduceLeDiff, if_true, Zn, reduceCtorEq, ZA, eq_self, Int.reduceLE, Int.reduceLT, Int.reduceToNat, ne_eq, Nat.reduceSub, Tfld145_2, Tint2, Tld143, Tpar143]
    repeat refine And.intro (by omega) ?_
    repeat refine And.intro (by omega) ?_
    intro g
    simp only [List.map_cons, List.map_nil, updL, upd, Nat.reduceEqDiff, if_true, if_false, ↓reduceIte]
    refine hK _ _ ?_; clear hK K
    obtain ⟨x, hx, x0, x1⟩ := mask24 (h2.fdiv (2 ^ min 33 IntKind.u64.bits))
    rw [hx]
    clear hx
    refine Cd.midq (fun ρ M => ∃ g x t, 0 ≤ x ∧ x ≤ 20000000 ∧ 0 ≤ t ∧ t ≤ (l.length : Int) ∧ ρ = updL [(1, .int .i64 n), (5, .int .i64 x)] g ∧ M = [(b, [.slice a l.length cap, .int .i64 t, .int .u64 h2])]) ?_ ?_
    · refine Cd.qs [0, 1, 5, 33] fol (by kernel_rfl) fun K hK => ?_
      simp (maxSteps := 2000000) (disch := first | (simp only [E4] <;> omega) | omega | fail) only [↓E2, E3, bare, bareJ, ↓E0, E1, evP, evPlan, env0, envN, evOps, evOp, evQs, evQ, evV, setD, pureOp, ev, upd, updL, gate, binW, eqOp, binV, intOp, shOp, boolOp, unV, convV, nilV, fieldAddrV, indexAddrV, extractV, cellAt, cellsAt, findB, setB, fillL, buildV, Value.cells, lenV, minV, maxV, hav, sliceV, loV, hiV, bslQ, mksQ, appQ, partsOk, partsCells, delB, eqL, SameI, strOp, apzQ, cvtQ, capV, ↓reduceIte, Zj, Zk, Nat.reduceAdd, Nat.reduceLT, Nat.reduceEqDiff, Nat.reduceMul, Nat.reduceLeDiff, if_true, Zn, reduceCtorEq, ZA, eq_self, Int.reduceLE, Int.reduceLT, Int.reduceToNat, ne_eq, Nat.reduceSub, Tfld145_0, Tfld145_1, Tld28, Tld3, Tslce28]
      repeat refine And.intro (by omega) ?_
      repeat refine And.intro (by omega) ?_
      intro g
      simp only [List.map_cons, List.map_nil, updL, upd, Nat.reduceEqDiff, if_true, if_false, ↓reduceIte]
      refine hK _ ?_; clear hK K
      refine Cd.condd rfl (fun c2 => ?_) (fun c2 => ?_)
      · obtain ⟨t', rfl⟩ : ∃ t' : Nat, t = (t' : Int) := ⟨t.toNat, by omega⟩
        obtain ⟨bb, oo, rfl, hg⟩ := hin.get (W := [b]) hR (k := t') (by omega)
        have hb1 := hb t' (by omega)
        have hbb : (b = bb) = False := eq_false fun e => by
          subst e
          unfold frn at hg
          rw [if_neg (fun hh => hh.2 (List.mem_singleton.2 rfl))] at hg
          cases hg
        skip
        refine Cd.qs [0, 1, 5] fol (by kernel_rfl) fun K hK => ?_
        simp (maxSteps := 2000000) (disch := first | (simp only [E4, hg, hbb] <;> omega) | omega | fail) only [↓E2, E3, bare, bareJ, ↓E0, E1, evP, evPlan, env0, envN, evOps, evOp, evQs, evQ, evV, setD, pureOp, ev, upd, updL, gate, binW, eqOp, binV, intOp, shOp, boolOp, unV, convV, nilV, fieldAddrV, indexAddrV, extractV, cellAt, cellsAt, findB, setB, fillL, buildV, Value.cells, lenV, minV, maxV, hav, sliceV, loV, hiV, bslQ, mksQ, appQ, partsOk, partsCells, delB, eqL, SameI, strOp, apzQ, cvtQ, capV, ↓reduceIte, Zj, Zk, Nat.reduceAdd, Nat.reduceLT, Nat.reduceEqDiff, Nat.reduceMul, Nat.reduceLeDiff, if_true, Zn, reduceCtorEq, ZA, eq_self, Int.reduceLE, Int.reduceLT, Int.reduceToNat, ne_eq, Nat.reduceSub, Tfld145_0, Tfld145_1, Tint2, Tld28, Tld3, Tld5, Tpar5, Tslc28, hg, hbb]
        repeat refine And.intro (by omega) ?_
        repeat refine And.intro (by omega) ?_
        intro g
        simp only [List.map_cons, List.map_nil, updL, upd, Nat.reduceEqDiff, if_true, if_false, ↓reduceIte]
        refine hK _ ?_; clear hK K
        refine Cd.rr [1, 5] fun K hK => ?_
        simp (maxSteps := 2000000) (disch := first | (simp only [E4, hg, hbb] <;> omega) | omega | fail) only [↓E2, E3, bare, bareJ, ↓E0, E1, evP, evPlan, env0, envN, evOps, evOp, evQs, evQ, evV, setD, pureOp, ev, upd, updL, gate, binW, eqOp, binV, intOp, shOp, boolOp, unV, convV, nilV, fieldAddrV, indexAddrV, extractV, cellAt, cellsAt, findB, setB, fillL, buildV, Value.cells, lenV, minV, maxV, hav, sliceV, loV, hiV, bslQ, mksQ, appQ, partsOk, partsCells, delB, eqL, SameI, strOp, apzQ, cvtQ, capV, ↓reduceIte, Zj, Zk, Nat.reduceAdd, Nat.reduceLT, Nat.reduceEqDiff, Nat.reduceMul, Nat.reduceLeDiff, if_true, Zn, reduceCtorEq, ZA, eq_self, Int.reduceLE, Int.reduceLT, Int.reduceToNat, ne_eq, Nat.reduceSub, Tfld145_1, Tld3, Tst3, hg, hbb]
        repeat refine And.intro (by omega) ?_
        repeat refine And.intro (by omega) ?_
        intro g
        simp only [List.map_cons, List.map_nil, updL, upd, Nat.reduceEqDiff, if_true, if_false, ↓reduceIte]
        refine hK _ _ ?_; clear hK K
        exact midN ⟨_, _, _, by omega, by omega, by omega, by omega, rfl, rfl⟩
      · refine Cd.skip ?_
        exact midN ⟨_, _, _, by omega, by omega, by omega, by omega, (norm_of (by repeat (first | exact trivial | refine And.intro rfl ?_))), rfl⟩
    · rintro ρ M ⟨g, x, t, x0, x1, t0, t1, rfl, rfl⟩
      refine Cd.rs [4] fun K hK => ?_
      simp (maxSteps := 2000000) (disch := first | (simp only [E4] <;> omega) | omega | fail) only [↓E2, E3, bare, bareJ, ↓E0, E1, evP, evPlan, env0, envN, evOps, evOp, evQs, evQ, evV, setD, pureOp, ev, upd, updL, gate, binW, eqOp, binV, intOp, shOp, boolOp, unV, convV, nilV, fieldAddrV, indexAddrV, extractV, cellAt, cellsAt, findB, setB, fillL, buildV, Value.cells, lenV, minV, maxV, hav, sliceV, loV, hiV, bslQ, mksQ, appQ, partsOk, partsCells, delB, eqL, SameI, strOp, apzQ, cvtQ, capV, ↓reduceIte, Zj, Zk, Nat.reduceAdd, Nat.reduceLT, Nat.reduceEqDiff, Nat.reduceMul, Nat.reduceLeDiff, if_true, Zn, reduceCtorEq, ZA, eq_self, Int.reduceLE, Int.reduceLT, Int.reduceToNat, ne_eq, Nat.reduceSub]
      repeat refine And.intro (by omega) ?_
      repeat refine And.intro (by omega) ?_
      intro g
      simp only [List.map_cons, List.map_nil, updL, upd, Nat.reduceEqDiff, if_true, if_false, ↓reduceIte]
      refine hK _ _ ?_; clear hK K
      refine Cd.ret ?_
      simp (maxSteps := 2000000) (disch := first | (simp only [E4] <;> omega) | omega | fail) only [↓E2, E3, bare, bareJ, ↓E0, E1, evP, evPlan, env0, envN, evOps, evOp, evQs, evQ, evV, setD, pureOp, ev, upd, updL, gate, binW, eqOp, binV, intOp, shOp, boolOp, unV, convV, nilV, fieldAddrV, indexAddrV, extractV, cellAt, cellsAt, findB, setB, fillL, buildV, Value.cells, lenV, minV, maxV, hav, sliceV, loV, hiV, bslQ, mksQ, appQ, partsOk, partsCells, delB, eqL, SameI, strOp, apzQ, cvtQ, capV, ↓reduceIte, Zj, Zk, Nat.reduceAdd, Nat.reduceLT, Nat.reduceEqDiff, Nat.reduceMul, Nat.reduceLeDiff, if_true, Zn, reduceCtorEq, ZA, eq_self, Int.reduceLE, Int.reduceLT, Int.reduceToNat, ne_eq, Nat.reduceSub]
      repeat refine And.intro (by omega) ?_
      exact ⟨t, h2, ⟨t0, t1, h2a, h2b⟩, ⟨_, rfl, Int.emod_nonneg _ (by omega), by have := Int.emod_lt_of_pos x (show 0 < n by omega); omega⟩, SubP.refl _⟩
/-- One of some numbers. -/
theorem pick_c (b : Nat) (hRb : ∀ r ∈ R, r.1 ≠ b) (bl : Nat) (hbl : bl ≠ b) (ns : List Int) (h0 : ns.length ≠ 0) (h8 : ns.length ≤ 8) : Draws Try.prog 181 [.pointer (some ⟨b, 0, none⟩), .slice (some ⟨bl, 0, none⟩) ns.length ns.length] b cv ((bl, 0, ints .i64 ns) :: R) l.length (fun v => ∃ x ∈ ns, v = .int .i64 x) := by
  have hnx := next_c l cv R hin hl hb b hRb (ns.length : Int) ⟨by omega, by omega⟩
  refine Draws.of fun t h ho => ?_
  refine GivesX.of (callable_of Try.func181 rfl (by decide)) ?_ fun w hnd hlt hR => ?_
  · intro r hr; rcases List.mem_cons.1 hr with e | hr; subst e; simpa using hbl; simpa using hRb r hr
  refine acall_of (N := 12) (c := _) (rs := [.tmp 4]) (args := [_, _]) Try.func181 rfl (by decide) rfl rfl (Nat.le_of_ble_eq_true rfl) ?_
  have hR1 : W8.Told [b] w R := fun r hr => hR r (List.mem_cons_of_mem _ hr)
  have hRl : W8.Told [b] w [(bl, 0, ints .i64 ns)] := fun r hr => hR r (by rw [List.mem_singleton.1 hr]; exact List.mem_cons_self ..)
  refine Cd.rs [0, 1] fun K hK => ?_
  simp (maxSteps := 2000000) (disch := first | (simp only [E4] <;> omega) | omega | fail) only [↓E2, E3, bare, bareJ, ↓E0, E1, evP, evPlan, env0, envN, evOps, evOp, evQs, evQ, evV, setD, pureOp, ev, upd, updL, gate, binW, eqOp, binV, intOp, shOp, boolOp, unV, convV, nilV, fieldAddrV, indexAddrV, extractV, cellAt, cellsAt, findB, setB, fillL, buildV, Value.cells, lenV, minV, maxV, hav, sliceV, loV, hiV, bslQ, mksQ, appQ, partsOk, partsCells, delB, eqL, SameI, strOp, apzQ, cvtQ, capV, ↓reduceIte, Zj, Zk, Nat.reduceAdd, Nat.reduceLT, Nat.reduceEqDiff, Nat.reduceMul, Nat.reduceLeDiff, if_true, Zn, reduceCtorEq, ZA, eq_self, Int.reduceLE, Int.reduceLT, Int.reduceToNat, ne_eq, Nat.reduceSub]
  repeat refine And.intro (by omega) ?_
  repeat refine And.intro (by omega) ?_
  intro g
  simp only [List.map_cons, List.map_nil, updL, upd, Nat.reduceEqDiff, if_true, if_false, ↓reduceIte]
  refine hK _ _ ?_; clear hK K
  refine Cd.rs [4] fun K hK => ?_
  simp (maxSteps := 2000000) (disch := first | (simp only [E4] <;> omega) | omega | fail) only [↓E2, E3, bare, bareJ, ↓E0, E1, evP, evPlan, env0, envN, evOps, evOp, evQs, evQ, evV, setD, pureOp, ev, upd, updL, gate, binW, eqOp, binV, intOp, shOp, boolOp, unV, convV, nilV, fieldAddrV, indexAddrV, extractV, cellAt, cellsAt, findB, setB, fillL, buildV, Value.cells, lenV, minV, maxV, hav, sliceV, loV, hiV, bslQ, mksQ, appQ, partsOk, partsCells, delB, eqL, SameI, strOp, apzQ, cvtQ, capV, ↓reduceIte, Zj, Zk, Nat.reduceAdd, Nat.reduceLT, Nat.reduceEqDiff, Nat.reduceMul, Nat.reduceLeDiff, if_true, Zn, reduceCtorEq, ZA, eq_self, Int.reduceLE, Int.reduceLT, Int.reduceToNat, ne_eq, Nat.reduceSub, Tld2, Tslc47, Tslce47]
  repeat refine And.intro (by omega) ?_
  refine callK_draw hnx ho (by simp only [findB, if_true]) (Told.toldW hR1) ?_
  rintro v t2 h2 ho2 ⟨x, rfl, x0, x1⟩
  obtain ⟨x', rfl⟩ : ∃ x' : Nat, x = (x' : Int) := ⟨x.toNat, by omega⟩
  have hx : x' < ns.length := by omega
  have hg : frn [b] w bl x' = some (.int .i64 (ns.getD x' 0)) := by
    have := hRl _ (List.mem_singleton.2 rfl) x' _ (ints_get hx)
    simpa using this
  have hne : (b = bl) = False := eq_false fun e => hbl e.symm
  skip
  simp (maxSteps := 2000000) (disch := first | (simp only [E4, hg, hne] <;> omega) | omega | fail) only [↓E2, E3, bare, bareJ, ↓E0, E1, evP, evPlan, env0, envN, evOps, evOp, evQs, evQ, evV, setD, pureOp, ev, upd, updL, gate, binW, eqOp, binV, intOp, shOp, boolOp, unV, convV, nilV, fieldAddrV, indexAddrV, extractV, cellAt, cellsAt, findB, setB, fillL, buildV, Value.cells, lenV, minV, maxV, hav, sliceV, loV, hiV, bslQ, mksQ, appQ, partsOk, partsCells, delB, eqL, SameI, strOp, apzQ, cvtQ, capV, ↓reduceIte, Zj, Zk, Nat.reduceAdd, Nat.reduceLT, Nat.reduceEqDiff, Nat.reduceMul, Nat.reduceLeDiff, if_true, Zn, reduceCtorEq, ZA, eq_self, Int.reduceLE, Int.reduceLT, Int.reduceToNat, ne_eq, Nat.reduceSub, Tld2, Tslc47, Tslce47, hg, hne]
  repeat refine And.intro (by omega) ?_
  repeat refine And.intro (by omega) ?_
  intro g
  simp only [List.map_cons, List.map_nil, updL, upd, Nat.reduceEqDiff, if_true, if_false, ↓reduceIte]
  refine hK _ _ ?_; clear hK K
  refine Cd.ret ?_
  simp (maxSteps := 2000000) (disch := first | (simp only [E4, hg, hne] <;> omega) | omega | fail) only [↓E2, E3, bare, bareJ, ↓E0, E1, evP, evPlan, env0, envN, evOps, evOp, evQs, evQ, evV, setD, pureOp, ev, upd, updL, gate, binW, eqOp, binV, intOp, shOp, boolOp, unV, convV, nilV, fieldAddrV, indexAddrV, extractV, cellAt, cellsAt, findB, setB, fillL, buildV, Value.cells, lenV, minV, maxV, hav, sliceV, loV, hiV, bslQ, mksQ, appQ, partsOk, partsCells, delB, eqL, SameI, strOp, apzQ, cvtQ, capV, ↓reduceIte, Zj, Zk, Nat.reduceAdd, Nat.reduceLT, Nat.reduceEqDiff, Nat.reduceMul, Nat.reduceLeDiff, if_true, Zn, reduceCtorEq, ZA, eq_self, Int.reduceLE, Int.reduceLT, Int.reduceToNat, ne_eq, Nat.reduceSub, hg, hne]
  repeat refine And.intro (by omega) ?_
  exact ⟨t2, h2, ho2, ⟨ns.getD x' 0, by rw [List.getD_eq_getElem?_getD, List.getElem?_eq_getElem hx]; exact List.getElem_mem hx, rfl⟩, SubP.refl _⟩
/-- A number near a range. -/
theorem near_c (b : Nat) (hRb : ∀ r ∈ R, r.1 ≠ b) (n : Int) (n0 : 0 ≤ n) (n8 : n ≤ 8) : Draws Try.prog 139 [.pointer (some ⟨b, 0, none⟩), .int .i64 n] b cv R l.length (isInt (-9223372036854775808) 9223372036854775808) := by
  refine Draws.of fun t h ho => ?_
  refine GivesX.of (callable_of Try.func139 rfl (by decide)) ?_ fun w hnd hlt hR => ?_
  · simpa using hRb
  refine acall_of (N := 17) (c := _) (rs := [.tmp 4]) (args := [_, _]) Try.func139 rfl (by decide) rfl rfl (Nat.le_of_ble_eq_true rfl) ?_
  have hR : W8.Told [b] w R := hR
  refine Cd.rs [0, 1] fun K hK => ?_
  simp (maxSteps := 2000000) (disch := first | (simp only [E4] <;> omega) | omega | fail) only [↓E2, E3, bare, bareJ, ↓E0, E1, evP, evPlan, env0, envN, evOps, evOp, evQs, evQ, evV, setD, pureOp, ev, upd, updL, gate, binW, eqOp, binV, intOp, shOp, boolOp, unV, convV, nilV, fieldAddrV, indexAddrV, extractV, cellAt, cellsAt, findB, setB, fillL, buildV, Value.cells, lenV, minV, maxV, hav, sliceV, loV, hiV, bslQ, mksQ, appQ, partsOk, partsCells, delB, eqL, SameI, strOp, apzQ, cvtQ, capV, ↓reduceIte, Zj, Zk, Nat.reduceAdd, Nat.reduceLT, Nat.reduceEqDiff, Nat.reduceMul, Nat.reduceLeDiff, if_true, Zn, reduceCtorEq, ZA, eq_self, Int.reduceLE, Int.reduceLT, Int.reduceToNat, ne_eq, Nat.reduceSub]
  repeat refine And.intro (by omega) ?_
  repeat refine And.intro (by omega) ?_
  intro g
  simp only [List.map_cons, List.map_nil, updL, upd, Nat.reduceEqDiff, if_true, if_false, ↓reduceIte]
  refine hK _ _ ?_; clear hK K
  refine Cd.seq ?_
  refine Cd.rs [0, 1, 7] fun K hK => ?_
  simp (maxSteps := 2000000) (disch := first | (simp only [E4] <;> omega) | omega | fail) only [↓E2, E3, bare, bareJ, ↓E0, E1, evP, evPlan, env0, envN, evOps, evOp, evQs, evQ, evV, setD, pureOp, ev, upd, updL, gate, binW, eqOp, binV, intOp, shOp, boolOp, unV, convV, nilV, fieldAddrV, indexAddrV, extractV, cellAt, cellsAt, findB, setB, fillL, buildV, Value.cells, lenV, minV, maxV, hav, sliceV, loV, hiV, bslQ, mksQ, appQ, partsOk, partsCells, delB, eqL, SameI, strOp, apzQ, cvtQ, capV, ↓reduceIte, Zj, Zk, Nat.reduceAdd, Nat.reduceLT, Nat.reduceEqDiff, Nat.reduceMul, Nat.reduceLeDiff, if_true, Zn, reduceCtorEq, ZA, eq_self, Int.reduceLE, Int.reduceLT, Int.reduceToNat, ne_eq, Nat.reduceSub]
  repeat refine And.intro (by omega) ?_
  refine callK_draw (next_c l cv R hin hl hb b hRb 14 ⟨by omega, by omega⟩) ho (by simp only [findB, if_true]) (Told.toldW hR) ?_
  rintro v t2 h2 ho2 ⟨x, rfl, x0, x1⟩
  simp (maxSteps := 2000000) (disch := first | (simp only [E4] <;> omega) | omega | fail) only [↓E2, E3, bare, bareJ, ↓E0, E1, evP, evPlan, env0, envN, evOps, evOp, evQs, evQ, evV, setD, pureOp, ev, upd, updL, gate, binW, eqOp, binV, intOp, shOp, boolOp, unV, convV, nilV, fieldAddrV, indexAddrV, extractV, cellAt, cellsAt, findB, setB, fillL, buildV, Value.cells, lenV, minV, maxV, hav, sliceV, loV, hiV, bslQ, mksQ, appQ, partsOk, partsCells, delB, eqL, SameI, strOp, apzQ, cvtQ, capV, ↓reduceIte, Zj, Zk, Nat.reduceAdd, Nat.reduceLT, Nat.reduceEqDiff, Nat.reduceMul, Nat.reduceLeDiff, if_true, Zn, reduceCtorEq, ZA, eq_self, Int.reduceLE, Int.reduceLT, Int.reduceToNat, ne_eq, Nat.reduceSub]
  repeat refine And.intro (by omega) ?_
  repeat refine And.intro (by omega) ?_
  intro g
  simp only [List.map_cons, List.map_nil, updL, upd, Nat.reduceEqDiff, if_true, if_false, ↓reduceIte]
  refine hK _ _ ?_; clear hK K
  refine Cd.condd rfl (fun c1 => ?_) (fun c1 => ?_)
  · skip
    refine Cd.rs [4] fun K hK => ?_
    simp (maxSteps := 2000000) (disch := first | (simp only [E4] <;> omega) | omega | fail) only [↓E2, E3, bare, bareJ, ↓E0, E1, evP, evPlan, env0, envN, evOps, evOp, evQs, evQ, evV, setD, pureOp, ev, upd, updL, gate, binW, eqOp, binV, intOp, shOp, boolOp, unV, convV, nilV, fieldAddrV, indexAddrV, extractV, cellAt, cellsAt, findB, setB, fillL, buildV, Value.cells, lenV, minV, maxV, hav, sliceV, loV, hiV, bslQ, mksQ, appQ, partsOk, partsCells, delB, eqL, SameI, strOp, apzQ, cvtQ, capV, ↓reduceIte, Zj, Zk, Nat.reduceAdd, Nat.reduceLT, Nat.reduceEqDiff, Nat.reduceMul, Nat.reduceLeDiff, if_true, Zn, reduceCtorEq, ZA, eq_self, Int.reduceLE, Int.reduceLT, Int.reduceToNat, ne_eq, Nat.reduceSub, Tby2, Tslc47, Tslce47, Tzero2]
    repeat refine And.intro (by omega) ?_
    intro b1 hb1
    have nb1_b := hb1.ne
    try simp (maxSteps := 2000000) (disch := first | (simp only [E4, nb1_b] <;> omega) | omega | fail) only [↓E2, E3, bare, bareJ, ↓E0, E1, evP, evPlan, env0, envN, evOps, evOp, evQs, evQ, evV, setD, pureOp, ev, upd, updL, gate, binW, eqOp, binV, intOp, shOp, boolOp, unV, convV, nilV, fieldAddrV, indexAddrV, extractV, cellAt, cellsAt, findB, setB, fillL, buildV, Value.cells, lenV, minV, maxV, hav, sliceV, loV, hiV, bslQ, mksQ, appQ, partsOk, partsCells, delB, eqL, SameI, strOp, apzQ, cvtQ, capV, ↓reduceIte, Zj, Zk, Nat.reduceAdd, Nat.reduceLT, Nat.reduceEqDiff, Nat.reduceMul, Nat.reduceLeDiff, if_true, Zn, reduceCtorEq, ZA, eq_self, Int.reduceLE, Int.reduceLT, Int.reduceToNat, ne_eq, Nat.reduceSub, Tby2, Tslc47, Tslce47, Tzero2, nb1_b]
    repeat refine And.intro (by omega) ?_
    refine callK_draw (pick_c l cv R hin hl hb b hRb b1 (fun e => by rw [nb1_b] at e; exact e) [-1, n + 1, 1099511627776, -4611686018427387904] (by simp) (by simp)) ho2 (by simp only [findB, nb1_b, if_true, if_false]) (toldW_pick (List.mem_cons_self ..) rfl hR) ?_
    rintro v t3 h3 ho3 ⟨y, hy, rfl⟩
    have hyr : -9223372036854775808 ≤ y ∧ y < 9223372036854775808 := by
      simp only [List.mem_cons, List.not_mem_nil, or_false] at hy
      omega
    simp (maxSteps := 2000000) (disch := first | (simp only [E4, nb1_b] <;> omega) | omega | fail) only [↓E2, E3, bare, bareJ, ↓E0, E1, evP, evPlan, env0, envN, evOps, evOp, evQs, evQ, evV, setD, pureOp, ev, upd, updL, gate, binW, eqOp, binV, intOp, shOp, boolOp, unV, convV, nilV, fieldAddrV, indexAddrV, extractV, cellAt, cellsAt, findB, setB, fillL, buildV, Value.cells, lenV, minV, maxV, hav, sliceV, loV, hiV, bslQ, mksQ, appQ, partsOk, partsCells, delB, eqL, SameI, strOp, apzQ, cvtQ, capV, ↓reduceIte, Zj, Zk, Nat.reduceAdd, Nat.reduceLT, Nat.reduceEqDiff, Nat.reduceMul, Nat.reduceLeDiff, if_true, Zn, reduceCtorEq, ZA, eq_self, Int.reduceLE, Int.reduceLT, Int.reduceToNat, ne_eq, Nat.reduceSub, Tby2, Tslc47, Tslce47, Tzero2, nb1_b]
    repeat refine And.intro (by omega) ?_
    repeat refine And.intro (by omega) ?_
    intro g
    simp only [List.map_cons, List.map_nil, updL, upd, Nat.reduceEqDiff, if_true, if_false, ↓reduceIte]
    refine hK _ _ ?_; clear hK K
    refine Cd.ret (thenR ?_)
    simp (maxSteps := 2000000) (disch := first | (simp only [E4, nb1_b] <;> omega) | omega | fail) only [↓E2, E3, bare, bareJ, ↓E0, E1, evP, evPlan, env0, envN, evOps, evOp, evQs, evQ, evV, setD, pureOp, ev, upd, updL, gate, binW, eqOp, binV, intOp, shOp, boolOp, unV, convV, nilV, fieldAddrV, indexAddrV, extractV, cellAt, cellsAt, findB, setB, fillL, buildV, Value.cells, lenV, minV, maxV, hav, sliceV, loV, hiV, bslQ, mksQ, appQ, partsOk, partsCells, delB, eqL, SameI, strOp, apzQ, cvtQ, capV, ↓reduceIte, Zj, Zk, Nat.reduceAdd, Nat.reduceLT, Nat.reduceEqDiff, Nat.reduceMul, Nat.reduceLeDiff, if_true, Zn, reduceCtorEq, ZA, eq_self, Int.reduceLE, Int.reduceLT, Int.reduceToNat, ne_eq, Nat.reduceSub, nb1_b]
    repeat refine And.intro (by omega) ?_
    exact ⟨t3, h3, ho3, ⟨y, rfl, hyr.1, hyr.2⟩, SubP.of (List.Sublist.cons _ (List.Sublist.refl _))⟩
  · refine Cd.skip ?_
    refine thenN ?_
    refine Cd.rs [4] fun K hK => ?_
    simp (maxSteps := 2000000) (disch := first | (simp only [E4] <;> omega) | omega | fail) only [↓E2, E3, bare, bareJ, ↓E0, E1, evP, evPlan, env0, envN, evOps, evOp, evQs, evQ, evV, setD, pureOp, ev, upd, updL, gate, binW, eqOp, binV, intOp, shOp, boolOp, unV, convV, nilV, fieldAddrV, indexAddrV, extractV, cellAt, cellsAt, findB, setB, fillL, buildV, Value.cells, lenV, minV, maxV, hav, sliceV, loV, hiV, bslQ, mksQ, appQ, partsOk, partsCells, delB, eqL, SameI, strOp, apzQ, cvtQ, capV, ↓reduceIte, Zj, Zk, Nat.reduceAdd, Nat.reduceLT, Nat.reduceEqDiff, Nat.reduceMul, Nat.reduceLeDiff, if_true, Zn, reduceCtorEq, ZA, eq_self, Int.reduceLE, Int.reduceLT, Int.reduceToNat, ne_eq, Nat.reduceSub]
    repeat refine And.intro (by omega) ?_
    refine callK_draw (next_c l cv R hin hl hb b hRb (n + 1) ⟨by omega, by omega⟩) ho2 (by simp only [findB, if_true]) (Told.toldW hR) ?_
    rintro v t3 h3 ho3 ⟨y, rfl, y0, y1⟩
    simp (maxSteps := 2000000) (disch := first | (simp only [E4] <;> omega) | omega | fail) only [↓E2, E3, bare, bareJ, ↓E0, E1, evP, evPlan, env0, envN, evOps, evOp, evQs, evQ, evV, setD, pureOp, ev, upd, updL, gate, binW, eqOp, binV, intOp, shOp, boolOp, unV, convV, nilV, fieldAddrV, indexAddrV, extractV, cellAt, cellsAt, findB, setB, fillL, buildV, Value.cells, lenV, minV, maxV, hav, sliceV, loV, hiV, bslQ, mksQ, appQ, partsOk, partsCells, delB, eqL, SameI, strOp, apzQ, cvtQ, capV, ↓reduceIte, Zj, Zk, Nat.reduceAdd, Nat.reduceLT, Nat.reduceEqDiff, Nat.reduceMul, Nat.reduceLeDiff, if_true, Zn, reduceCtorEq, ZA, eq_self, Int.reduceLE, Int.reduceLT, Int.reduceToNat, ne_eq, Nat.reduceSub]
    repeat refine And.intro (by omega) ?_
    repeat refine And.intro (by omega) ?_
    intro g
    simp only [List.map_cons, List.map_nil, updL, upd, Nat.reduceEqDiff, if_true, if_false, ↓reduceIte]
    refine hK _ _ ?_; clear hK K
    refine Cd.ret ?_
    simp (maxSteps := 2000000) (disch := first | (simp only [E4] <;> omega) | omega | fail) only [↓E2, E3, bare, bareJ, ↓E0, E1, evP, evPlan, env0, envN, evOps, evOp, evQs, evQ, evV, setD, pureOp, ev, upd, updL, gate, binW, eqOp, binV, intOp, shOp, boolOp, unV, convV, nilV, fieldAddrV, indexAddrV, extractV, cellAt, cellsAt, findB, setB, fillL, buildV, Value.cells, lenV, minV, maxV, hav, sliceV, loV, hiV, bslQ, mksQ, appQ, partsOk, partsCells, delB, eqL, SameI, strOp, apzQ, cvtQ, capV, ↓reduceIte, Zj, Zk, Nat.reduceAdd, Nat.reduceLT, Nat.reduceEqDiff, Nat.reduceMul, Nat.reduceLeDiff, if_true, Zn, reduceCtorEq, ZA, eq_self, Int.reduceLE, Int.reduceLT, Int.reduceToNat, ne_eq, Nat.reduceSub]
    repeat refine And.intro (by omega) ?_
    exact ⟨t3, h3, ho3, ⟨y, rfl, by omega, by omega⟩, SubP.refl _⟩
end

end Go.Proofs

/-
  What the functions of this part hand back: each as a plain function of its arguments. Conditions: none.
-/
namespace Go.Proofs
open Go.W8
set_option linter.unusedVariables false
set_option linter.unusedSimpArgs false
set_option linter.unusedSectionVars false
set_option maxRecDepth 8000
set_option maxHeartbeats 4000000
--@plain
/-- The first n entries are the numbers less than n in some order, all others 0. -/
def IsPerm (x : List Int) (n : Nat) : Prop := (∀ i, i < n → x.getD i 0 < n) ∧ (∀ i, i < n → ∀ j, j < i → x.getD j 0 ≠ x.getD i 0) ∧ ∀ i, i < 8 → n ≤ i → x.getD i 0 = 0
instance (x : List Int) (n : Nat) : Decidable (IsPerm x n) := by unfold IsPerm; infer_instance

def IsG (s : Int) (x o : List Int) : Prop := 2 ≤ s ∧ s ≤ 8 ∧ IsPerm x s.toNat ∧ IsPerm o s.toNat ∧ ∀ i, i < s.toNat → x.getD i 0 ≠ o.getD i 0
instance (s : Int) (x o : List Int) : Decidable (IsG s x o) := by unfold IsG; infer_instance

def gridB (s : Int) (x o : List Int) : Bool := decide (IsG s x o)

theorem inj_surj : ∀ (n : Nat) (f : Nat → Nat), (∀ i, i < n → f i < n) → (∀ i, i < n → ∀ j, j < n → f i = f j → i = j) → ∀ j, j < n → ∃ i, i < n ∧ f i = j
  | 0, _, _, _, _, hj => absurd hj (Nat.not_lt_zero _)
  | n + 1, f, hf, hinj, j, hj => by
    have hg : ∀ i, i < n → (if f i = n then f n else f i) < n := by
      intro i hi
      split
      · rename_i h
        have h1 := hf n (Nat.lt_succ_self n)
        have h2 : f n ≠ n := fun h3 => by
          have := hinj i (by omega) n (by omega) (by rw [h, h3])
          omega
        omega
      · rename_i h
        have := hf i (by omega)
        omega
    have hgi : ∀ i, i < n → ∀ k, k < n → (if f i = n then f n else f i) = (if f k = n then f n else f k) → i = k := by
      intro i hi k hk h
      split at h
      · rename_i h1
        split at h
        · rename_i h2
          exact hinj i (by omega) k (by omega) (by rw [h1, h2])
        · have := hinj n (by omega) k (by omega) h
          omega
      · rename_i h1
        split at h
        · have := hinj i (by omega) n (by omega) h
          omega
        · exact hinj i (by omega) k (by omega) h
    have ih := inj_surj n (fun i => if f i = n then f n else f i) hg hgi
    by_cases hjn : f n = j
    · exact ⟨n, by omega, hjn⟩
    · by_cases hj2 : j = n
      · subst hj2
        have h1 := hf j (by omega)
        obtain ⟨i, hi, hfi⟩ := ih (f j) (by omega)
        split at hfi
        · rename_i h; exact ⟨i, by omega, h⟩
        · have := hinj i (by omega) j (by omega) hfi
          omega
      · obtain ⟨i, hi, hfi⟩ := ih j (by omega)
        split at hfi
        · exact absurd hfi hjn
        · exact ⟨i, by omega, hfi⟩

theorem surj_inj (n : Nat) (f : Nat → Nat) (hf : ∀ i, i < n → f i < n) (hs : ∀ j, j < n → ∃ i, i < n ∧ f i = j) : ∀ i, i < n → ∀ j, j < n → f i = f j → i = j := by
  have hc : ∃ s : Nat → Nat, ∀ j, j < n → s j < n ∧ f (s j) = j := by
    refine ⟨fun j => if h : j < n then Classical.choose (hs j h) else 0, fun j hj => ?_⟩
    simp only [hj, dif_pos]
    exact Classical.choose_spec (hs j hj)
  obtain ⟨s, hs'⟩ := hc
  have hsur := inj_surj n s (fun j hj => (hs' j hj).1) (fun i hi j hj h => by rw [← (hs' i hi).2, ← (hs' j hj).2, h])
  intro i hi j hj h
  obtain ⟨a, ha, rfl⟩ := hsur i hi
  obtain ⟨b, hb, rfl⟩ := hsur j hj
  rw [(hs' a ha).2, (hs' b hb).2] at h
  rw [h]

/-- The bits of the numbers f 0 .. f (k - 1). -/
def mask (f : Nat → Nat) : Nat → Nat
  | 0 => 0
  | k + 1 => mask f k ||| 2 ^ f k

theorem mask_bit (f : Nat → Nat) (j : Nat) : ∀ k, (mask f k).testBit j = true ↔ ∃ i, i < k ∧ f i = j
  | 0 => by simp [mask]
  | k + 1 => by
    simp only [mask, Nat.testBit_or, Bool.or_eq_true, mask_bit f j k, Nat.testBit_two_pow, decide_eq_true_eq]
    constructor
    · rintro (⟨i, hi, h⟩ | h)
      · exact ⟨i, by omega, h⟩
      · exact ⟨k, by omega, h⟩
    · rintro ⟨i, hi, h⟩
      rcases Nat.lt_succ_iff_lt_or_eq.1 hi with h1 | rfl
      · exact .inl ⟨i, h1, h⟩
      · exact .inr h

theorem mask_lt {f : Nat → Nat} {n : Nat} : ∀ {k : Nat}, (∀ i, i < k → f i < n) → mask f k < 2 ^ n
  | 0, _ => Nat.two_pow_pos n
  | k + 1, h => by
    unfold mask
    exact Nat.or_lt_two_pow (mask_lt fun i hi => h i (by omega)) (Nat.pow_lt_pow_right (by omega) (h k (by omega)))

theorem mask_full {f : Nat → Nat} {n : Nat} (hf : ∀ i, i < n → f i < n) : mask f n = 2 ^ n - 1 ↔ ∀ i, i < n → ∀ j, j < i → f j ≠ f i := by
  constructor
  · intro h i hi j hj he
    have := surj_inj n f hf (fun k hk => by
      have hb : (mask f n).testBit k = true := by rw [h, Nat.testBit_two_pow_sub_one]; simpa using hk
      exact (mask_bit f k n).1 hb) j (by omega) i hi he
    omega
  · intro h
    have hsur := inj_surj n f hf (fun i hi j hj he => by
      rcases Nat.lt_trichotomy i j with h1 | h1 | h1
      · exact absurd he (h j hj i h1)
      · exact h1
      · exact absurd he.symm (h i hi j h1))
    apply Nat.eq_of_testBit_eq
    intro k
    rw [Nat.testBit_two_pow_sub_one]
    by_cases hk : k < n
    · rw [decide_eq_true hk]
      exact (mask_bit f k n).2 (hsur k hk)
    · rw [decide_eq_false hk]
      cases hb : (mask f n).testBit k with
      | false => rfl
      | true =>
        obtain ⟨i, hi, rfl⟩ := (mask_bit f k n).1 hb
        exact absurd (hf i hi) hk

theorem or_i64 {a b : Nat} (ha : a < 4294967296) (hb : b < 4294967296) : IntKind.wrap .i64 ((BitVec.ofInt (IntKind.i64.bits) (a : Int) ||| BitVec.ofInt (IntKind.i64.bits) (b : Int)).toNat : Int) = ((a ||| b : Nat) : Int) := by
  have e : IntKind.i64.bits = 64 := rfl
  have h1 : a ||| b < 2 ^ 32 := Nat.or_lt_two_pow (by simpa using ha) (by simpa using hb)
  rw [e, BitVec.ofInt_natCast, BitVec.ofInt_natCast, BitVec.toNat_or, BitVec.toNat_ofNat, BitVec.toNat_ofNat, Nat.mod_eq_of_lt (by omega), Nat.mod_eq_of_lt (by omega)]
  rw [wrap_i64 (by omega) (by omega)]

theorem shl_i64 {j : Nat} (hj : j ≤ 32) : IntKind.wrap .i64 (1 * 2 ^ (min j (IntKind.i64.bits))) = ((2 ^ j : Nat) : Int) := by
  have e : IntKind.i64.bits = 64 := rfl
  have h1 : min j 64 = j := by omega
  have h2 : (2 : Nat) ^ j ≤ 2 ^ 32 := Nat.pow_le_pow_right (by omega) hj
  rw [e, h1, Int.one_mul]
  have h3 : ((2 : Int) ^ j) = ((2 ^ j : Nat) : Int) := by simp
  rw [h3]
  generalize 2 ^ j = m at h2
  rw [wrap_i64 (by omega) (by omega)]

end Go.Proofs

/-
  What the functions of this part hand back: each as a plain function of its arguments. Conditions: none.
-/
namespace Go.Proofs
open Go.W8
set_option linter.unusedVariables false
set_option linter.unusedSimpArgs false
set_option linter.unusedSectionVars false
set_option maxRecDepth 8000
set_option maxHeartbeats 4000000
--@plain
/-- Where the column k comes to stand. -/
def colK (i rt k : Nat) : Nat := if k < i then k else if k = i then i + rt else k + 1
/-- What stands in the columns as those ahead of k have been led. -/
def genK (f : Nat → Int) (i rt k q : Nat) : Int := if q < i then (if q < k then f q else 0) else if q ≤ i + 1 then (if q = i + rt ∧ i < k then f i else 0) else (if q ≤ k then f (q - 1) else 0)
/-- The same without the column i. -/
def genS (f : Nat → Int) (i k q : Nat) : Int := if q < i then (if q < k then f q else 0) else if q ≤ i + 1 then 0 else (if q ≤ k then f (q - 1) else 0)
def liftM (r v : Int) : Int := if r < v then v + 1 else v
def liftF (r u v : Int) : Int := if r < v then v + 1 else if v = r then r + u else v
def grA (own : List Int) (i rt : Nat) (u : Int) (n q : Nat) : Int :=
  if q = i + rt then own.getD i 0 + (1 - u) else if q = i + 1 - rt then own.getD i 0 + u else if q < i then liftF (own.getD i 0) u (own.getD q 0) else if q ≤ n then liftF (own.getD i 0) u (own.getD (q - 1) 0) else 0
def grB (own oth : List Int) (i rt : Nat) (u : Int) (n q : Nat) : Int :=
  if q = i + rt then liftF (own.getD i 0) u (oth.getD i 0) else if q = i + 1 - rt then own.getD i 0 + (1 - u) else if q < i then liftF (own.getD i 0) u (oth.getD q 0) else if q ≤ n then liftF (own.getD i 0) u (oth.getD (q - 1) 0) else 0

end Go.Proofs

/-
  What the functions of this part hand back: each as a plain function of its arguments. Conditions: none.
-/
namespace Go.Proofs
open Go.W8
set_option linter.unusedVariables false
set_option linter.unusedSimpArgs false
set_option linter.unusedSectionVars false
set_option maxRecDepth 8000
set_option maxHeartbeats 4000000
--@plain
def lowF (r v : Int) : Int := if r < v then v - 1 else v
/-- What is left of a row without a column, as the columns ahead of k have been led. -/
def shrK (l : List Int) (i rt : Nat) (r : Int) (k q : Nat) : Int := if q < i then (if q < k then lowF r (l.getD q 0) else 0) else if q = i then (if i + rt < k then lowF r (l.getD (i + rt) 0) else 0) else if q + 1 < k then lowF r (l.getD (q + 1) 0) else 0
def wthK (l : List Int) (d : Nat) (r : Int) (k q : Nat) : Int := if q < d then (if q < k then lowF r (l.getD q 0) else 0) else if q + 1 < k then lowF r (l.getD (q + 1) 0) else 0
/-- The column that comes to stand in the column q. -/
def srcQ (i rt q : Nat) : Nat := if q < i then q else if q = i then i + rt else q + 1
/-- The marks about which a grid is destabilized. -/
def Back (own oth : List Int) (i : Nat) (r : Int) (rt u : Nat) : Prop := own.getD (i + rt) 0 = r + 1 - u ∧ own.getD (i + 1 - rt) 0 = r + u ∧ oth.getD (i + 1 - rt) 0 = r + 1 - u ∧ oth.getD (i + rt) 0 ≠ r + u
instance (own oth : List Int) (i : Nat) (r : Int) (rt u : Nat) : Decidable (Back own oth i r rt u) := by unfold Back; infer_instance

section
variable {own oth : List Int} {n i rt u : Nat} {r : Int} (hn : n ≤ 8) (po : IsPerm own n) (pt : IsPerm oth n) (h0 : ∀ c, c < n → 0 ≤ own.getD c 0) (h0' : ∀ c, c < n → 0 ≤ oth.getD c 0)
  (hd : ∀ c, c < n → own.getD c 0 ≠ oth.getD c 0) (hi : i + 1 < n) (hr0 : 0 ≤ r) (hr : r + 1 < n) (hrt : rt ≤ 1) (hu : u ≤ 1) (hb : Back own oth i r rt u)
include hn po pt h0 h0' hd hi hr0 hr hrt hu hb
end
/-- Whether the k-th way of stabilizing leads to the grid, at i and r. -/
def bk (x o : List Int) (i : Nat) (r : Int) (k : Nat) : Bool := if k % 2 = 0 then decide (Back x o i r (k / 2 % 2) (k / 4)) else decide (Back o x i r (k / 2 % 2) (k / 4))
def bkFind (x o : List Int) (i : Nat) (r : Int) : Option Nat := (List.range 8).find? (bk x o i r)
/-- What a grid is destabilized to. -/
def oldX (x : List Int) (i : Nat) (r : Int) (n k : Nat) : List Int := tab (shrK x i (k / 2 % 2) r n)
section
variable {x o : List Int} {n i k : Nat} {r : Int} (hl : x.length = 8) (hm : o.length = 8) (hn : n ≤ 8) (px : IsPerm x n) (po : IsPerm o n) (h0 : ∀ c, c < n → 0 ≤ x.getD c 0) (h0' : ∀ c, c < n → 0 ≤ o.getD c 0)
  (hd : ∀ c, c < n → x.getD c 0 ≠ o.getD c 0) (hi : i + 1 < n) (hr0 : 0 ≤ r) (hr : r + 1 < n) (hk : k < 8)
include hl hm hn px po h0 h0' hd hi hr0 hr hk
end

end Go.Proofs

/-
  What the functions of this part hand back: each as a plain function of its arguments. Conditions: none.
-/
namespace Go.Proofs
open Go.W8
set_option linter.unusedVariables false
set_option linter.unusedSimpArgs false
set_option linter.unusedSectionVars false
set_option maxRecDepth 8000
set_option maxHeartbeats 4000000
theorem bytes_get {x : List Int} (hx : Bytes8 x) {i : Nat} (hi : i < 8) : 0 ≤ x.getD i 0 ∧ x.getD i 0 < 256 := by
  have hl := hx.len
  rw [List.getD_eq_getElem?_getD, List.getElem?_eq_getElem (by omega), Option.getD_some]
  exact ⟨hx.lo _ (List.getElem_mem (by omega)), hx.hi _ (List.getElem_mem (by omega))⟩

/-- The numbers that have been met. -/
def metL (x : List Int) (n k : Nat) : List Bool := (List.range 8).map fun (j : Nat) => decide (∃ i, i < k ∧ i < n ∧ x.getD i 0 = (j : Int))
theorem metL_len (x : List Int) (n k : Nat) : (metL x n k).length = 8 := by simp [metL]
theorem metL_get (x : List Int) (n k : Nat) {j : Nat} (hj : j < 8) : (metL x n k).getD j false = decide (∃ i, i < k ∧ i < n ∧ x.getD i 0 = (j : Int)) := by
  unfold metL
  rw [List.getD_eq_getElem?_getD, List.getElem?_map, List.getElem?_range hj]
  rfl
theorem metL_zero (x : List Int) (n : Nat) : metL x n 0 = List.replicate 8 false := by
  unfold metL
  simp only [Nat.not_lt_zero, false_and, exists_false, decide_false]
  rfl
theorem metL_over {x : List Int} {n k : Nat} (h : n ≤ k) : metL x n (k + 1) = metL x n k := by
  unfold metL
  apply List.map_congr_left
  intro j _
  congr 1
  apply propext
  constructor
  · rintro ⟨i, _, h2, h3⟩; exact ⟨i, by omega, h2, h3⟩
  · rintro ⟨i, h1, h2, h3⟩; exact ⟨i, by omega, h2, h3⟩
theorem metL_set {x : List Int} {n k : Nat} {j : Nat} (h : k < n) (hj : x.getD k 0 = (j : Int)) : (metL x n k).set j true = metL x n (k + 1) := by
  apply List.ext_getElem?
  intro i
  by_cases hi : i < 8
  · by_cases e : j = i
    · subst e
      rw [List.getElem?_set_self (by rw [metL_len]; exact hi)]
      unfold metL
      rw [List.getElem?_map, List.getElem?_range hi]
      simp only [Option.map_some, Option.some.injEq]
      exact (decide_eq_true ⟨k, by omega, h, hj⟩).symm
    · rw [List.getElem?_set_ne e]
      unfold metL
      rw [List.getElem?_map, List.getElem?_map, List.getElem?_range hi]
      simp only [Option.map_some, Option.some.injEq]
      congr 1
      apply propext
      constructor
      · rintro ⟨a, h1, h2, h3⟩; exact ⟨a, by omega, h2, h3⟩
      · rintro ⟨a, h1, h2, h3⟩
        refine ⟨a, ?_, h2, h3⟩
        rcases Nat.lt_succ_iff_lt_or_eq.1 h1 with h4 | rfl
        · exact h4
        · omega
  · rw [List.getElem?_eq_none (by rw [List.length_set, metL_len]; omega), List.getElem?_eq_none (by rw [metL_len]; omega)]

/-- All is well with the entries ahead of k. -/
def PermTo (x : List Int) (n k : Nat) : Prop := ∀ i, i < k → (i < n → x.getD i 0 < n ∧ ∀ j, j < i → x.getD j 0 ≠ x.getD i 0) ∧ (n ≤ i → x.getD i 0 = 0)

theorem perm_iff {x : List Int} {n : Nat} (hn : n ≤ 8) : IsPerm x n ↔ PermTo x n 8 := by
  constructor
  · rintro ⟨h1, h2, h3⟩ i hi
    exact ⟨fun h => ⟨h1 i h, h2 i h⟩, fun h => h3 i hi h⟩
  · intro h
    exact ⟨fun i hi => ((h i (by omega)).1 hi).1, fun i hi => ((h i (by omega)).1 hi).2, fun i hi hn => (h i hi).2 hn⟩

theorem permTo_not {x : List Int} {n k : Nat} (hn : n ≤ 8) (hk : k < 8) (h : ¬ ((k < n → x.getD k 0 < n ∧ ∀ j, j < k → x.getD j 0 ≠ x.getD k 0) ∧ (n ≤ k → x.getD k 0 = 0))) : decide (IsPerm x n) = false :=
  decide_eq_false fun hp => h ((perm_iff hn).1 hp k hk)

theorem permTo_succ {x : List Int} {n k : Nat} (hp : PermTo x n k) (h : (k < n → x.getD k 0 < n ∧ ∀ j, j < k → x.getD j 0 ≠ x.getD k 0) ∧ (n ≤ k → x.getD k 0 = 0)) : PermTo x n (k + 1) := by
  intro i hi
  rcases Nat.lt_succ_iff_lt_or_eq.1 hi with h1 | rfl
  · exact hp i h1
  · exact h

theorem l01Perm_c (x : List Int) (n : Nat) (hx : Bytes8 x) (hn : n ≤ 8) : Gives Try.prog 163 #[.agg (ints .u8 x).toArray, .int .i64 (n : Int)] (.bool (decide (IsPerm x n))) := by
  have hl := hx.len
  refine Gives.of fun w => ?_
  refine acall_of (N := 36) (c := _) (rs := [.tmp 4]) (args := [_, _]) Try.func163 rfl (by decide) rfl rfl (Nat.le_of_ble_eq_true rfl) ?_
  refine Cd.rs [1, 2] fun K hK => ?_
  simp (maxSteps := 2000000) (disch := first | omega | (simp only [E4, *] <;> omega) | fail) only [↓E0, E1, evP, evPlan, env0, envN, evOps, evOp, evQs, evQ, evV, setD, pureOp, ev, upd, updL, gate, binW, eqOp, binV, intOp, shOp, boolOp, unV, convV, nilV, fieldAddrV, indexAddrV, extractV, cellAt, cellsAt, findB, setB, fillL, buildV, Value.cells, lenV, minV, maxV, hav, sliceV, loV, hiV, bslQ, mksQ, appQ, partsOk, partsCells, delB, eqL, SameI, strOp, apzQ, cvtQ, capV, ↓reduceIte, Zj, Zk, Nat.reduceAdd, Nat.reduceLT, Nat.reduceEqDiff, Nat.reduceMul, Nat.reduceLeDiff, if_true, Zn, reduceCtorEq, ZA, eq_self, Int.reduceLE, Int.reduceLT, Int.reduceToNat, ne_eq, Nat.reduceSub]
  intro b1 hb1
  repeat refine And.intro (by omega) ?_
  intro g
  simp only [List.map_cons, List.map_nil, updL, upd, Nat.reduceEqDiff, if_true, if_false, ↓reduceIte]
  refine hK _ _ ?_; clear hK K
  refine Cd.rs [1, 2, 5] fun K hK => ?_
  simp (maxSteps := 2000000) (disch := first | omega | (simp only [E4, *] <;> omega) | fail) only [↓E0, E1, evP, evPlan, env0, envN, evOps, evOp, evQs, evQ, evV, setD, pureOp, ev, upd, updL, gate, binW, eqOp, binV, intOp, shOp, boolOp, unV, convV, nilV, fieldAddrV, indexAddrV, extractV, cellAt, cellsAt, findB, setB, fillL, buildV, Value.cells, lenV, minV, maxV, hav, sliceV, loV, hiV, bslQ, mksQ, appQ, partsOk, partsCells, delB, eqL, SameI, strOp, apzQ, cvtQ, capV, ↓reduceIte, Zj, Zk, Nat.reduceAdd, Nat.reduceLT, Nat.reduceEqDiff, Nat.reduceMul, Nat.reduceLeDiff, if_true, Zn, reduceCtorEq, ZA, eq_self, Int.reduceLE, Int.reduceLT, Int.reduceToNat, ne_eq, Nat.reduceSub, Tbld163, Tst163, Tzero163]
  intro b2 hb2
  have n21 := hb2.ne
  repeat refine And.intro (by omega) ?_
  intro g
  simp only [List.map_cons, List.map_nil, updL, upd, Nat.reduceEqDiff, if_true, if_false, ↓reduceIte]
  refine hK _ _ ?_; clear hK K
  refine Cd.seq ?_
  refine Cd.rs [1, 2, 5, 6] fun K hK => ?_
  simp (maxSteps := 2000000) (disch := first | omega | (simp only [E4, *] <;> omega) | fail) only [↓E0, E1, evP, evPlan, env0, envN, evOps, evOp, evQs, evQ, evV, setD, pureOp, ev, upd, updL, gate, binW, eqOp, binV, intOp, shOp, boolOp, unV, convV, nilV, fieldAddrV, indexAddrV, extractV, cellAt, cellsAt, findB, setB, fillL, buildV, Value.cells, lenV, minV, maxV, hav, sliceV, loV, hiV, bslQ, mksQ, appQ, partsOk, partsCells, delB, eqL, SameI, strOp, apzQ, cvtQ, capV, ↓reduceIte, Zj, Zk, Nat.reduceAdd, Nat.reduceLT, Nat.reduceEqDiff, Nat.reduceMul, Nat.reduceLeDiff, if_true, Zn, reduceCtorEq, ZA, eq_self, Int.reduceLE, Int.reduceLT, Int.reduceToNat, ne_eq, Nat.reduceSub]
  repeat refine And.intro (by omega) ?_
  intro g
  simp only [List.map_cons, List.map_nil, updL, upd, Nat.reduceEqDiff, if_true, if_false, ↓reduceIte]
  refine hK _ _ ?_; clear hK K
  refine Cd.block ?_
  rw [← metL_zero x n]
  refine Cd.loop (fun m ρ M => ∃ g k, k + m = 8 ∧ PermTo x n k ∧ ρ = updL [(1, .int .i64 (n : Int)), (2, .pointer (some ⟨b1, 0, none⟩)), (5, .pointer (some ⟨b2, 0, none⟩)), (6, .int .i64 (k : Int))] g ∧
    M = [(b2, bools (metL x n k)), (b1, ints .u8 x)]) 8 ⟨_, 0, Nat.zero_add _, (fun _ h => absurd h (Nat.not_lt_zero _)), rfl, rfl⟩ ?_
  rintro m ρ M ⟨g, k, hk, hp, rfl, rfl⟩
  refine Cd.seq ?_
  refine Cd.rs [1, 2, 5, 6, 9] fun K hK => ?_
  simp (maxSteps := 2000000) (disch := first | omega | (simp only [E4, *] <;> omega) | fail) only [↓E0, E1, evP, evPlan, env0, envN, evOps, evOp, evQs, evQ, evV, setD, pureOp, ev, upd, updL, gate, binW, eqOp, binV, intOp, shOp, boolOp, unV, convV, nilV, fieldAddrV, indexAddrV, extractV, cellAt, cellsAt, findB, setB, fillL, buildV, Value.cells, lenV, minV, maxV, hav, sliceV, loV, hiV, bslQ, mksQ, appQ, partsOk, partsCells, delB, eqL, SameI, strOp, apzQ, cvtQ, capV, ↓reduceIte, Zj, Zk, Nat.reduceAdd, Nat.reduceLT, Nat.reduceEqDiff, Nat.reduceMul, Nat.reduceLeDiff, if_true, Zn, reduceCtorEq, ZA, eq_self, Int.reduceLE, Int.reduceLT, Int.reduceToNat, ne_eq, Nat.reduceSub]
  repeat refine And.intro (by omega) ?_
  intro g
  simp only [List.map_cons, List.map_nil, updL, upd, Nat.reduceEqDiff, if_true, if_false, ↓reduceIte]
  refine hK _ _ ?_; clear hK K
  refine Cd.condd rfl (fun h1 => ?_) (fun h1 => ?_)
  · have hb := bytes_get hx (i := k) (by omega)
    refine Cd.skip ?_
    refine thenN ?_
    refine Cd.seq ?_
    refine Cd.block ?_
    refine Cd.seq ?_
    refine Cd.rs [1, 2, 5, 6, 14] fun K hK => ?_
    simp (maxSteps := 2000000) (disch := first | omega | (simp only [E4, *] <;> omega) | fail) only [↓E0, E1, evP, evPlan, env0, envN, evOps, evOp, evQs, evQ, evV, setD, pureOp, ev, upd, updL, gate, binW, eqOp, binV, intOp, shOp, boolOp, unV, convV, nilV, fieldAddrV, indexAddrV, extractV, cellAt, cellsAt, findB, setB, fillL, buildV, Value.cells, lenV, minV, maxV, hav, sliceV, loV, hiV, bslQ, mksQ, appQ, partsOk, partsCells, delB, eqL, SameI, strOp, apzQ, cvtQ, capV, ↓reduceIte, Zj, Zk, Nat.reduceAdd, Nat.reduceLT, Nat.reduceEqDiff, Nat.reduceMul, Nat.reduceLeDiff, if_true, Zn, reduceCtorEq, ZA, eq_self, Int.reduceLE, Int.reduceLT, Int.reduceToNat, ne_eq, Nat.reduceSub]
    repeat refine And.intro (by omega) ?_
    intro g
    simp only [List.map_cons, List.map_nil, updL, upd, Nat.reduceEqDiff, if_true, if_false, ↓reduceIte]
    refine hK _ _ ?_; clear hK K
    refine Cd.condd rfl (fun h2 => ?_) (fun h2 => ?_)
    · refine Cd.seq ?_
      refine Cd.rs [1, 2, 5, 6, 18] fun K hK => ?_
      simp (maxSteps := 2000000) (disch := first | omega | (simp only [E4, n21, hl, *] <;> omega) | fail) only [↓E0, E1, evP, evPlan, env0, envN, evOps, evOp, evQs, evQ, evV, setD, pureOp, ev, upd, updL, gate, binW, eqOp, binV, intOp, shOp, boolOp, unV, convV, nilV, fieldAddrV, indexAddrV, extractV, cellAt, cellsAt, findB, setB, fillL, buildV, Value.cells, lenV, minV, maxV, hav, sliceV, loV, hiV, bslQ, mksQ, appQ, partsOk, partsCells, delB, eqL, SameI, strOp, apzQ, cvtQ, capV, ↓reduceIte, Zj, Zk, Nat.reduceAdd, Nat.reduceLT, Nat.reduceEqDiff, Nat.reduceMul, Nat.reduceLeDiff, if_true, Zn, reduceCtorEq, ZA, eq_self, Int.reduceLE, Int.reduceLT, Int.reduceToNat, ne_eq, Nat.reduceSub, Tarr30, Tld5, n21, hl]
      repeat refine And.intro (by omega) ?_
      repeat refine And.intro (by omega) ?_
      intro g
      simp only [List.map_cons, List.map_nil, updL, upd, Nat.reduceEqDiff, if_true, if_false, ↓reduceIte]
      refine hK _ _ ?_; clear hK K
      refine Cd.cond rfl (fun h3 => ?_) (fun h3 => ?_)
      · refine Cd.rs [4] fun K hK => ?_
        simp (maxSteps := 2000000) (disch := first | omega | (simp only [E4, *] <;> omega) | fail) only [↓E0, E1, evP, evPlan, env0, envN, evOps, evOp, evQs, evQ, evV, setD, pureOp, ev, upd, updL, gate, binW, eqOp, binV, intOp, shOp, boolOp, unV, convV, nilV, fieldAddrV, indexAddrV, extractV, cellAt, cellsAt, findB, setB, fillL, buildV, Value.cells, lenV, minV, maxV, hav, sliceV, loV, hiV, bslQ, mksQ, appQ, partsOk, partsCells, delB, eqL, SameI, strOp, apzQ, cvtQ, capV, ↓reduceIte, Zj, Zk, Nat.reduceAdd, Nat.reduceLT, Nat.reduceEqDiff, Nat.reduceMul, Nat.reduceLeDiff, if_true, Zn, reduceCtorEq, ZA, eq_self, Int.reduceLE, Int.reduceLT, Int.reduceToNat, ne_eq, Nat.reduceSub]
        repeat refine And.intro (by omega) ?_
        intro g
        simp only [List.map_cons, List.map_nil, updL, upd, Nat.reduceEqDiff, if_true, if_false, ↓reduceIte]
        refine hK _ _ ?_; clear hK K
        refine Cd.ret (thenR (thenR (inBR (thenR (roundR (inBR (thenR ?_)))))))
        simp (maxSteps := 2000000) (disch := first | omega | (simp only [E4, *] <;> omega) | fail) only [↓E0, E1, evP, evPlan, env0, envN, evOps, evOp, evQs, evQ, evV, setD, pureOp, ev, upd, updL, gate, binW, eqOp, binV, intOp, shOp, boolOp, unV, convV, nilV, fieldAddrV, indexAddrV, extractV, cellAt, cellsAt, findB, setB, fillL, buildV, Value.cells, lenV, minV, maxV, hav, sliceV, loV, hiV, bslQ, mksQ, appQ, partsOk, partsCells, delB, eqL, SameI, strOp, apzQ, cvtQ, capV, ↓reduceIte, Zj, Zk, Nat.reduceAdd, Nat.reduceLT, Nat.reduceEqDiff, Nat.reduceMul, Nat.reduceLeDiff, if_true, Zn, reduceCtorEq, ZA, eq_self, Int.reduceLE, Int.reduceLT, Int.reduceToNat, ne_eq, Nat.reduceSub]
        exact congrArg Value.bool (permTo_not (k := k) hn (by omega) fun h => by have := h.2 (by omega); rw [this] at h3; simp at h3).symm
      · refine Cd.skip ?_
        refine thenN ?_
        refine Cd.exit (thenX (inBX ?_))
        refine thenN ?_
        refine Cd.rr [1, 2, 5, 6] fun K hK => ?_
        simp (maxSteps := 2000000) (disch := first | omega | (simp only [E4, *] <;> omega) | fail) only [↓E0, E1, evP, evPlan, env0, envN, evOps, evOp, evQs, evQ, evV, setD, pureOp, ev, upd, updL, gate, binW, eqOp, binV, intOp, shOp, boolOp, unV, convV, nilV, fieldAddrV, indexAddrV, extractV, cellAt, cellsAt, findB, setB, fillL, buildV, Value.cells, lenV, minV, maxV, hav, sliceV, loV, hiV, bslQ, mksQ, appQ, partsOk, partsCells, delB, eqL, SameI, strOp, apzQ, cvtQ, capV, ↓reduceIte, Zj, Zk, Nat.reduceAdd, Nat.reduceLT, Nat.reduceEqDiff, Nat.reduceMul, Nat.reduceLeDiff, if_true, Zn, reduceCtorEq, ZA, eq_self, Int.reduceLE, Int.reduceLT, Int.reduceToNat, ne_eq, Nat.reduceSub]
        repeat refine And.intro (by omega) ?_
        intro g
        simp only [List.map_cons, List.map_nil, updL, upd, Nat.reduceEqDiff, if_true, if_false, ↓reduceIte]
        refine hK _ _ ?_; clear hK K
        exact roundN (m := m - 1) (by omega) ⟨_, k + 1, by omega, permTo_succ hp ⟨fun h => absurd h (by omega), fun _ => by simpa using h3⟩, rfl, by rw [metL_over (by omega)]⟩
    · refine Cd.skip ?_
      refine thenN ?_
      refine Cd.seq ?_
      refine Cd.rs [1, 2, 5, 6, 31] fun K hK => ?_
      simp (maxSteps := 2000000) (disch := first | omega | (simp only [E4, n21, hl, *] <;> omega) | fail) only [↓E0, E1, evP, evPlan, env0, envN, evOps, evOp, evQs, evQ, evV, setD, pureOp, ev, upd, updL, gate, binW, eqOp, binV, intOp, shOp, boolOp, unV, convV, nilV, fieldAddrV, indexAddrV, extractV, cellAt, cellsAt, findB, setB, fillL, buildV, Value.cells, lenV, minV, maxV, hav, sliceV, loV, hiV, bslQ, mksQ, appQ, partsOk, partsCells, delB, eqL, SameI, strOp, apzQ, cvtQ, capV, ↓reduceIte, Zj, Zk, Nat.reduceAdd, Nat.reduceLT, Nat.reduceEqDiff, Nat.reduceMul, Nat.reduceLeDiff, if_true, Zn, reduceCtorEq, ZA, eq_self, Int.reduceLE, Int.reduceLT, Int.reduceToNat, ne_eq, Nat.reduceSub, Tarr163, Tarr30, Tint2, Tld4, Tld5, Tpar5, n21, hl]
      refine ⟨by omega, fun h4 => ?_, fun h4 => ?_⟩
      · replace h4 := of_decide_eq_false h4
        obtain ⟨j, hj⟩ : ∃ j : Nat, x.getD k 0 = (j : Int) := ⟨(x.getD k 0).toNat, by omega⟩
        have hj8 : j < 8 := by omega
        simp (maxSteps := 2000000) (disch := first | omega | (simp only [E4, n21, hl, hj, metL_len, metL_get, *] <;> omega) | fail) only [↓E0, E1, evP, evPlan, env0, envN, evOps, evOp, evQs, evQ, evV, setD, pureOp, ev, upd, updL, gate, binW, eqOp, binV, intOp, shOp, boolOp, unV, convV, nilV, fieldAddrV, indexAddrV, extractV, cellAt, cellsAt, findB, setB, fillL, buildV, Value.cells, lenV, minV, maxV, hav, sliceV, loV, hiV, bslQ, mksQ, appQ, partsOk, partsCells, delB, eqL, SameI, strOp, apzQ, cvtQ, capV, ↓reduceIte, Zj, Zk, Nat.reduceAdd, Nat.reduceLT, Nat.reduceEqDiff, Nat.reduceMul, Nat.reduceLeDiff, if_true, Zn, reduceCtorEq, ZA, eq_self, Int.reduceLE, Int.reduceLT, Int.reduceToNat, ne_eq, Nat.reduceSub, Tarr163, Tarr30, Tint2, Tld4, Tld5, Tpar5, n21, hl, hj, metL_len, metL_get]
        repeat refine And.intro (by omega) ?_
        repeat refine And.intro (by omega) ?_
        intro g
        simp only [List.map_cons, List.map_nil, updL, upd, Nat.reduceEqDiff, if_true, if_false, ↓reduceIte]
        refine hK _ _ ?_; clear hK K
        refine Cd.condd rfl (fun h5 => ?_) (fun h5 => ?_)
        · refine Cd.rs [4] fun K hK => ?_
          simp (maxSteps := 2000000) (disch := first | omega | (simp only [E4, *] <;> omega) | fail) only [↓E0, E1, evP, evPlan, env0, envN, evOps, evOp, evQs, evQ, evV, setD, pureOp, ev, upd, updL, gate, binW, eqOp, binV, intOp, shOp, boolOp, unV, convV, nilV, fieldAddrV, indexAddrV, extractV, cellAt, cellsAt, findB, setB, fillL, buildV, Value.cells, lenV, minV, maxV, hav, sliceV, loV, hiV, bslQ, mksQ, appQ, partsOk, partsCells, delB, eqL, SameI, strOp, apzQ, cvtQ, capV, ↓reduceIte, Zj, Zk, Nat.reduceAdd, Nat.reduceLT, Nat.reduceEqDiff, Nat.reduceMul, Nat.reduceLeDiff, if_true, Zn, reduceCtorEq, ZA, eq_self, Int.reduceLE, Int.reduceLT, Int.reduceToNat, ne_eq, Nat.reduceSub]
          repeat refine And.intro (by omega) ?_
          intro g
          simp only [List.map_cons, List.map_nil, updL, upd, Nat.reduceEqDiff, if_true, if_false, ↓reduceIte]
          refine hK _ _ ?_; clear hK K
          refine Cd.ret (thenR (inBR (thenR (roundR (inBR (thenR ?_))))))
          simp (maxSteps := 2000000) (disch := first | omega | (simp only [E4, *] <;> omega) | fail) only [↓E0, E1, evP, evPlan, env0, envN, evOps, evOp, evQs, evQ, evV, setD, pureOp, ev, upd, updL, gate, binW, eqOp, binV, intOp, shOp, boolOp, unV, convV, nilV, fieldAddrV, indexAddrV, extractV, cellAt, cellsAt, findB, setB, fillL, buildV, Value.cells, lenV, minV, maxV, hav, sliceV, loV, hiV, bslQ, mksQ, appQ, partsOk, partsCells, delB, eqL, SameI, strOp, apzQ, cvtQ, capV, ↓reduceIte, Zj, Zk, Nat.reduceAdd, Nat.reduceLT, Nat.reduceEqDiff, Nat.reduceMul, Nat.reduceLeDiff, if_true, Zn, reduceCtorEq, ZA, eq_self, Int.reduceLE, Int.reduceLT, Int.reduceToNat, ne_eq, Nat.reduceSub]
          exact congrArg Value.bool (permTo_not (k := k) hn (by omega) fun h => by
            obtain ⟨i, h6, h7, h8⟩ := h5
            exact (h.1 (by omega)).2 i h6 (by rw [h8, hj])).symm
        · refine Cd.skip ?_
          refine thenN ?_
          refine Cd.rr [1, 2, 5, 6] fun K hK => ?_
          simp (maxSteps := 2000000) (disch := first | omega | (simp only [E4, n21, hl, hj, metL_len, *] <;> omega) | fail) only [↓E0, E1, evP, evPlan, env0, envN, evOps, evOp, evQs, evQ, evV, setD, pureOp, ev, upd, updL, gate, binW, eqOp, binV, intOp, shOp, boolOp, unV, convV, nilV, fieldAddrV, indexAddrV, extractV, cellAt, cellsAt, findB, setB, fillL, buildV, Value.cells, lenV, minV, maxV, hav, sliceV, loV, hiV, bslQ, mksQ, appQ, partsOk, partsCells, delB, eqL, SameI, strOp, apzQ, cvtQ, capV, ↓reduceIte, Zj, Zk, Nat.reduceAdd, Nat.reduceLT, Nat.reduceEqDiff, Nat.reduceMul, Nat.reduceLeDiff, if_true, Zn, reduceCtorEq, ZA, eq_self, Int.reduceLE, Int.reduceLT, Int.reduceToNat, ne_eq, Nat.reduceSub, Tarr163, Tarr30, Tld5, Tst4, n21, hl, hj, metL_len]
          repeat refine And.intro (by omega) ?_
          rw [metL_set (by omega) hj]
          repeat refine And.intro (by omega) ?_
          intro g
          simp only [List.map_cons, List.map_nil, updL, upd, Nat.reduceEqDiff, if_true, if_false, ↓reduceIte]
          refine hK _ _ ?_; clear hK K
          refine inBN ?_
          refine thenN ?_
          refine Cd.rr [1, 2, 5, 6] fun K hK => ?_
          simp (maxSteps := 2000000) (disch := first | omega | (simp only [E4, *] <;> omega) | fail) only [↓E0, E1, evP, evPlan, env0, envN, evOps, evOp, evQs, evQ, evV, setD, pureOp, ev, upd, updL, gate, binW, eqOp, binV, intOp, shOp, boolOp, unV, convV, nilV, fieldAddrV, indexAddrV, extractV, cellAt, cellsAt, findB, setB, fillL, buildV, Value.cells, lenV, minV, maxV, hav, sliceV, loV, hiV, bslQ, mksQ, appQ, partsOk, partsCells, delB, eqL, SameI, strOp, apzQ, cvtQ, capV, ↓reduceIte, Zj, Zk, Nat.reduceAdd, Nat.reduceLT, Nat.reduceEqDiff, Nat.reduceMul, Nat.reduceLeDiff, if_true, Zn, reduceCtorEq, ZA, eq_self, Int.reduceLE, Int.reduceLT, Int.reduceToNat, ne_eq, Nat.reduceSub]
          repeat refine And.intro (by omega) ?_
          intro g
          simp only [List.map_cons, List.map_nil, updL, upd, Nat.reduceEqDiff, if_true, if_false, ↓reduceIte]
          refine hK _ _ ?_; clear hK K
          exact roundN (m := m - 1) (by omega) ⟨_, k + 1, by omega, permTo_succ hp ⟨fun h => ⟨by omega, fun i hi he => h5 ⟨i, hi, by omega, by rw [he, hj]⟩⟩, fun h => absurd h (by omega)⟩, rfl, rfl⟩
      · repeat refine And.intro (by omega) ?_
        intro g
        simp only [List.map_cons, List.map_nil, updL, upd, Nat.reduceEqDiff, if_true, if_false, ↓reduceIte]
        refine hK _ _ ?_; clear hK K
        refine Cd.yes rfl ?_
        refine Cd.rs [4] fun K hK => ?_
        simp (maxSteps := 2000000) (disch := first | omega | (simp only [E4, *] <;> omega) | fail) only [↓E0, E1, evP, evPlan, env0, envN, evOps, evOp, evQs, evQ, evV, setD, pureOp, ev, upd, updL, gate, binW, eqOp, binV, intOp, shOp, boolOp, unV, convV, nilV, fieldAddrV, indexAddrV, extractV, cellAt, cellsAt, findB, setB, fillL, buildV, Value.cells, lenV, minV, maxV, hav, sliceV, loV, hiV, bslQ, mksQ, appQ, partsOk, partsCells, delB, eqL, SameI, strOp, apzQ, cvtQ, capV, ↓reduceIte, Zj, Zk, Nat.reduceAdd, Nat.reduceLT, Nat.reduceEqDiff, Nat.reduceMul, Nat.reduceLeDiff, if_true, Zn, reduceCtorEq, ZA, eq_self, Int.reduceLE, Int.reduceLT, Int.reduceToNat, ne_eq, Nat.reduceSub]
        repeat refine And.intro (by omega) ?_
        intro g
        simp only [List.map_cons, List.map_nil, updL, upd, Nat.reduceEqDiff, if_true, if_false, ↓reduceIte]
        refine hK _ _ ?_; clear hK K
        refine Cd.ret (thenR (inBR (thenR (roundR (inBR (thenR ?_))))))
        simp (maxSteps := 2000000) (disch := first | omega | (simp only [E4, *] <;> omega) | fail) only [↓E0, E1, evP, evPlan, env0, envN, evOps, evOp, evQs, evQ, evV, setD, pureOp, ev, upd, updL, gate, binW, eqOp, binV, intOp, shOp, boolOp, unV, convV, nilV, fieldAddrV, indexAddrV, extractV, cellAt, cellsAt, findB, setB, fillL, buildV, Value.cells, lenV, minV, maxV, hav, sliceV, loV, hiV, bslQ, mksQ, appQ, partsOk, partsCells, delB, eqL, SameI, strOp, apzQ, cvtQ, capV, ↓reduceIte, Zj, Zk, Nat.reduceAdd, Nat.reduceLT, Nat.reduceEqDiff, Nat.reduceMul, Nat.reduceLeDiff, if_true, Zn, reduceCtorEq, ZA, eq_self, Int.reduceLE, Int.reduceLT, Int.reduceToNat, ne_eq, Nat.reduceSub]
        exact congrArg Value.bool (permTo_not (k := k) hn (by omega) fun h => by have := (h.1 (by omega)).1; omega).symm
  · refine Cd.exit (thenX (roundX (inBX ?_)))
    refine thenN ?_
    obtain rfl : k = 8 := by omega
    refine Cd.rs [4] fun K hK => ?_
    simp (maxSteps := 2000000) (disch := first | omega | (simp only [E4, *] <;> omega) | fail) only [↓E0, E1, evP, evPlan, env0, envN, evOps, evOp, evQs, evQ, evV, setD, pureOp, ev, upd, updL, gate, binW, eqOp, binV, intOp, shOp, boolOp, unV, convV, nilV, fieldAddrV, indexAddrV, extractV, cellAt, cellsAt, findB, setB, fillL, buildV, Value.cells, lenV, minV, maxV, hav, sliceV, loV, hiV, bslQ, mksQ, appQ, partsOk, partsCells, delB, eqL, SameI, strOp, apzQ, cvtQ, capV, ↓reduceIte, Zj, Zk, Nat.reduceAdd, Nat.reduceLT, Nat.reduceEqDiff, Nat.reduceMul, Nat.reduceLeDiff, if_true, Zn, reduceCtorEq, ZA, eq_self, Int.reduceLE, Int.reduceLT, Int.reduceToNat, ne_eq, Nat.reduceSub]
    repeat refine And.intro (by omega) ?_
    intro g
    simp only [List.map_cons, List.map_nil, updL, upd, Nat.reduceEqDiff, if_true, if_false, ↓reduceIte]
    refine hK _ _ ?_; clear hK K
    refine Cd.ret ?_
    simp (maxSteps := 2000000) (disch := first | omega | (simp only [E4, *] <;> omega) | fail) only [↓E0, E1, evP, evPlan, env0, envN, evOps, evOp, evQs, evQ, evV, setD, pureOp, ev, upd, updL, gate, binW, eqOp, binV, intOp, shOp, boolOp, unV, convV, nilV, fieldAddrV, indexAddrV, extractV, cellAt, cellsAt, findB, setB, fillL, buildV, Value.cells, lenV, minV, maxV, hav, sliceV, loV, hiV, bslQ, mksQ, appQ, partsOk, partsCells, delB, eqL, SameI, strOp, apzQ, cvtQ, capV, ↓reduceIte, Zj, Zk, Nat.reduceAdd, Nat.reduceLT, Nat.reduceEqDiff, Nat.reduceMul, Nat.reduceLeDiff, if_true, Zn, reduceCtorEq, ZA, eq_self, Int.reduceLE, Int.reduceLT, Int.reduceToNat, ne_eq, Nat.reduceSub]
    exact congrArg Value.bool (decide_eq_true ((perm_iff hn).2 hp)).symm

end Go.Proofs

/-
  What the functions of this part hand back: each as a plain function of its arguments. Conditions: none.
-/
namespace Go.Proofs
open Go.W8
set_option linter.unusedVariables false
set_option linter.unusedSimpArgs false
set_option linter.unusedSectionVars false
set_option maxRecDepth 8000
set_option maxHeartbeats 4000000
theorem n_c (s : Int) (x o : List Int) (hx : x.length = 8) (ho : o.length = 8) : Gives Try.prog 99 #[.agg (gc s x o).toArray] (.int .i64 s) := by
  refine Gives.of fun w => ?_
  refine acall_of (N := 5) (c := _) (rs := [.tmp 2]) (args := [_]) Try.func99 rfl (by decide) rfl rfl (Nat.le_of_ble_eq_true rfl) ?_
  refine Cd.rs [1] fun K hK => ?_
  simp (maxSteps := 2000000) (disch := first | omega | (simp only [E4, *] <;> omega) | fail) only [↓E0, E1, evP, evPlan, env0, envN, evOps, evOp, evQs, evQ, evV, setD, pureOp, ev, upd, updL, gate, binW, eqOp, binV, intOp, shOp, boolOp, unV, convV, nilV, fieldAddrV, indexAddrV, extractV, cellAt, cellsAt, findB, setB, fillL, buildV, Value.cells, lenV, minV, maxV, hav, sliceV, loV, hiV, bslQ, mksQ, appQ, partsOk, partsCells, delB, eqL, SameI, strOp, apzQ, cvtQ, capV, ↓reduceIte, Zj, Zk, Nat.reduceAdd, Nat.reduceLT, Nat.reduceEqDiff, Nat.reduceMul, Nat.reduceLeDiff, if_true, Zn, reduceCtorEq, ZA, eq_self, Int.reduceLE, Int.reduceLT, Int.reduceToNat, ne_eq, Nat.reduceSub]
  intro b1 hb1
  repeat refine And.intro (by omega) ?_
  intro g
  simp only [List.map_cons, List.map_nil, updL, upd, Nat.reduceEqDiff, if_true, if_false, ↓reduceIte]
  refine hK _ _ ?_; clear hK K
  refine Cd.rs [2] fun K hK => ?_
  simp (maxSteps := 2000000) (disch := first | omega | (simp only [E4, hx, ho, *] <;> omega) | fail) only [↓E0, E1, evP, evPlan, env0, envN, evOps, evOp, evQs, evQ, evV, setD, pureOp, ev, upd, updL, gate, binW, eqOp, binV, intOp, shOp, boolOp, unV, convV, nilV, fieldAddrV, indexAddrV, extractV, cellAt, cellsAt, findB, setB, fillL, buildV, Value.cells, lenV, minV, maxV, hav, sliceV, loV, hiV, bslQ, mksQ, appQ, partsOk, partsCells, delB, eqL, SameI, strOp, apzQ, cvtQ, capV, ↓reduceIte, Zj, Zk, Nat.reduceAdd, Nat.reduceLT, Nat.reduceEqDiff, Nat.reduceMul, Nat.reduceLeDiff, if_true, Zn, reduceCtorEq, ZA, eq_self, Int.reduceLE, Int.reduceLT, Int.reduceToNat, ne_eq, Nat.reduceSub, Tfld32_0, Tld2, hx, ho]
  repeat refine And.intro (by omega) ?_
  intro g
  simp only [List.map_cons, List.map_nil, updL, upd, Nat.reduceEqDiff, if_true, if_false, ↓reduceIte]
  refine hK _ _ ?_; clear hK K
  refine Cd.ret ?_
  simp (maxSteps := 2000000) (disch := first | omega | (simp only [E4, *] <;> omega) | fail) only [↓E0, E1, evP, evPlan, env0, envN, evOps, evOp, evQs, evQ, evV, setD, pureOp, ev, upd, updL, gate, binW, eqOp, binV, intOp, shOp, boolOp, unV, convV, nilV, fieldAddrV, indexAddrV, extractV, cellAt, cellsAt, findB, setB, fillL, buildV, Value.cells, lenV, minV, maxV, hav, sliceV, loV, hiV, bslQ, mksQ, appQ, partsOk, partsCells, delB, eqL, SameI, strOp, apzQ, cvtQ, capV, ↓reduceIte, Zj, Zk, Nat.reduceAdd, Nat.reduceLT, Nat.reduceEqDiff, Nat.reduceMul, Nat.reduceLeDiff, if_true, Zn, reduceCtorEq, ZA, eq_self, Int.reduceLE, Int.reduceLT, Int.reduceToNat, ne_eq, Nat.reduceSub]

theorem gridB_false {s : Int} {x o : List Int} (h : ¬ IsG s x o) : gridB s x o = false := decide_eq_false h
theorem gridB_true {s : Int} {x o : List Int} (h : IsG s x o) : gridB s x o = true := decide_eq_true h

theorem gridB_s {s : Int} {x o : List Int} (h : gridB s x o = true) : ∃ n : Nat, s = (n : Int) ∧ 2 ≤ n ∧ n ≤ 8 := by
  have := of_decide_eq_true h
  exact ⟨s.toNat, by have := this.1; omega, by have := this.1; omega, by have := this.2.1; omega⟩

theorem l01Is_c (s : Int) (x o : List Int) (hx : Bytes8 x) (ho : Bytes8 o) : Gives Try.prog 90 #[.agg (gc s x o).toArray] (.bool (gridB s x o)) := by
  have hl := hx.len
  have hm := ho.len
  refine Gives.of fun w => ?_
  refine acall_of (N := 39) (c := _) (rs := [.tmp 2]) (args := [_]) Try.func90 rfl (by decide) rfl rfl (Nat.le_of_ble_eq_true rfl) ?_
  refine Cd.rs [1] fun K hK => ?_
  simp (maxSteps := 2000000) (disch := first | omega | (simp only [E4, *] <;> omega) | fail) only [↓E0, E1, evP, evPlan, env0, envN, evOps, evOp, evQs, evQ, evV, setD, pureOp, ev, upd, updL, gate, binW, eqOp, binV, intOp, shOp, boolOp, unV, convV, nilV, fieldAddrV, indexAddrV, extractV, cellAt, cellsAt, findB, setB, fillL, buildV, Value.cells, lenV, minV, maxV, hav, sliceV, loV, hiV, bslQ, mksQ, appQ, partsOk, partsCells, delB, eqL, SameI, strOp, apzQ, cvtQ, capV, ↓reduceIte, Zj, Zk, Nat.reduceAdd, Nat.reduceLT, Nat.reduceEqDiff, Nat.reduceMul, Nat.reduceLeDiff, if_true, Zn, reduceCtorEq, ZA, eq_self, Int.reduceLE, Int.reduceLT, Int.reduceToNat, ne_eq, Nat.reduceSub]
  intro b1 hb1
  repeat refine And.intro (by omega) ?_
  intro g
  simp only [List.map_cons, List.map_nil, updL, upd, Nat.reduceEqDiff, if_true, if_false, ↓reduceIte]
  refine hK _ _ ?_; clear hK K
  refine Cd.seq ?_
  refine Cd.rs [1, 23] fun K hK => ?_
  have J : ∀ g b, (b = false ↔ (2 ≤ s ∧ s ≤ 8) ∧ IsPerm x s.toNat ∧ IsPerm o s.toNat) → K (updL [(1, .pointer (some ⟨b1, 0, none⟩)), (23, .bool b)] g) [(b1, gc s x o)] := by
    intro g b hb
    refine hK _ _ ?_
    clear hK K
    refine Cd.cond rfl (fun h1 => ?_) (fun h1 => ?_)
    · refine Cd.rs [2] fun K hK => ?_
      simp (maxSteps := 2000000) (disch := first | omega | (simp only [E4, *] <;> omega) | fail) only [↓E0, E1, evP, evPlan, env0, envN, evOps, evOp, evQs, evQ, evV, setD, pureOp, ev, upd, updL, gate, binW, eqOp, binV, intOp, shOp, boolOp, unV, convV, nilV, fieldAddrV, indexAddrV, extractV, cellAt, cellsAt, findB, setB, fillL, buildV, Value.cells, lenV, minV, maxV, hav, sliceV, loV, hiV, bslQ, mksQ, appQ, partsOk, partsCells, delB, eqL, SameI, strOp, apzQ, cvtQ, capV, ↓reduceIte, Zj, Zk, Nat.reduceAdd, Nat.reduceLT, Nat.reduceEqDiff, Nat.reduceMul, Nat.reduceLeDiff, if_true, Zn, reduceCtorEq, ZA, eq_self, Int.reduceLE, Int.reduceLT, Int.reduceToNat, ne_eq, Nat.reduceSub]
      repeat refine And.intro (by omega) ?_
      intro g
      simp only [List.map_cons, List.map_nil, updL, upd, Nat.reduceEqDiff, if_true, if_false, ↓reduceIte]
      refine hK _ _ ?_; clear hK K
      refine Cd.ret (thenR ?_)
      simp (maxSteps := 2000000) (disch := first | omega | (simp only [E4, *] <;> omega) | fail) only [↓E0, E1, evP, evPlan, env0, envN, evOps, evOp, evQs, evQ, evV, setD, pureOp, ev, upd, updL, gate, binW, eqOp, binV, intOp, shOp, boolOp, unV, convV, nilV, fieldAddrV, indexAddrV, extractV, cellAt, cellsAt, findB, setB, fillL, buildV, Value.cells, lenV, minV, maxV, hav, sliceV, loV, hiV, bslQ, mksQ, appQ, partsOk, partsCells, delB, eqL, SameI, strOp, apzQ, cvtQ, capV, ↓reduceIte, Zj, Zk, Nat.reduceAdd, Nat.reduceLT, Nat.reduceEqDiff, Nat.reduceMul, Nat.reduceLeDiff, if_true, Zn, reduceCtorEq, ZA, eq_self, Int.reduceLE, Int.reduceLT, Int.reduceToNat, ne_eq, Nat.reduceSub]
      exact congrArg Value.bool (gridB_false fun h => by rw [hb.2 ⟨⟨h.1, h.2.1⟩, h.2.2.1, h.2.2.2.1⟩] at h1; cases h1).symm
    · obtain ⟨hs, hpx, hpo⟩ := hb.1 h1
      obtain ⟨n, rfl⟩ : ∃ n : Nat, s = (n : Int) := ⟨s.toNat, by omega⟩
      rw [Int.toNat_natCast] at hpx hpo
      refine Cd.skip ?_
      refine thenN ?_
      refine Cd.seq ?_
      refine Cd.rs [1, 3] fun K hK => ?_
      simp (maxSteps := 2000000) (disch := first | omega | (simp only [E4, *] <;> omega) | fail) only [↓E0, E1, evP, evPlan, env0, envN, evOps, evOp, evQs, evQ, evV, setD, pureOp, ev, upd, updL, gate, binW, eqOp, binV, intOp, shOp, boolOp, unV, convV, nilV, fieldAddrV, indexAddrV, extractV, cellAt, cellsAt, findB, setB, fillL, buildV, Value.cells, lenV, minV, maxV, hav, sliceV, loV, hiV, bslQ, mksQ, appQ, partsOk, partsCells, delB, eqL, SameI, strOp, apzQ, cvtQ, capV, ↓reduceIte, Zj, Zk, Nat.reduceAdd, Nat.reduceLT, Nat.reduceEqDiff, Nat.reduceMul, Nat.reduceLeDiff, if_true, Zn, reduceCtorEq, ZA, eq_self, Int.reduceLE, Int.reduceLT, Int.reduceToNat, ne_eq, Nat.reduceSub]
      repeat refine And.intro (by omega) ?_
      intro g
      simp only [List.map_cons, List.map_nil, updL, upd, Nat.reduceEqDiff, if_true, if_false, ↓reduceIte]
      refine hK _ _ ?_; clear hK K
      refine Cd.block ?_
      refine Cd.loop (fun m ρ M => ∃ g k, k + m = n ∧ (∀ i, i < k → x.getD i 0 ≠ o.getD i 0) ∧ ρ = updL [(1, .pointer (some ⟨b1, 0, none⟩)), (3, .int .i64 (k : Int))] g ∧ M = [(b1, gc (n : Int) x o)]) n
        ⟨_, 0, Nat.zero_add _, (fun _ h => absurd h (Nat.not_lt_zero _)), rfl, rfl⟩ ?_
      rintro m ρ M ⟨g, k, hk, hd, rfl, rfl⟩
      refine Cd.seq ?_
      refine Cd.rs [1, 3, 27] fun K hK => ?_
      simp (maxSteps := 2000000) (disch := first | omega | (simp only [E4, hl, hm, *] <;> omega) | fail) only [↓E0, E1, evP, evPlan, env0, envN, evOps, evOp, evQs, evQ, evV, setD, pureOp, ev, upd, updL, gate, binW, eqOp, binV, intOp, shOp, boolOp, unV, convV, nilV, fieldAddrV, indexAddrV, extractV, cellAt, cellsAt, findB, setB, fillL, buildV, Value.cells, lenV, minV, maxV, hav, sliceV, loV, hiV, bslQ, mksQ, appQ, partsOk, partsCells, delB, eqL, SameI, strOp, apzQ, cvtQ, capV, ↓reduceIte, Zj, Zk, Nat.reduceAdd, Nat.reduceLT, Nat.reduceEqDiff, Nat.reduceMul, Nat.reduceLeDiff, if_true, Zn, reduceCtorEq, ZA, eq_self, Int.reduceLE, Int.reduceLT, Int.reduceToNat, ne_eq, Nat.reduceSub, Tfld32_0, Tld2, hl, hm]
      repeat refine And.intro (by omega) ?_
      intro g
      simp only [List.map_cons, List.map_nil, updL, upd, Nat.reduceEqDiff, if_true, if_false, ↓reduceIte]
      refine hK _ _ ?_; clear hK K
      refine Cd.condd rfl (fun h2 => ?_) (fun h2 => ?_)
      · refine Cd.skip ?_
        refine thenN ?_
        refine Cd.seq ?_
        refine Cd.block ?_
        refine Cd.qs [1, 3, 38] fol (by kernel_rfl) fun K hK => ?_
        simp (maxSteps := 2000000) (disch := first | omega | (simp only [E4, hl, hm, *] <;> omega) | fail) only [↓E0, E1, evP, evPlan, env0, envN, evOps, evOp, evQs, evQ, evV, setD, pureOp, ev, upd, updL, gate, binW, eqOp, binV, intOp, shOp, boolOp, unV, convV, nilV, fieldAddrV, indexAddrV, extractV, cellAt, cellsAt, findB, setB, fillL, buildV, Value.cells, lenV, minV, maxV, hav, sliceV, loV, hiV, bslQ, mksQ, appQ, partsOk, partsCells, delB, eqL, SameI, strOp, apzQ, cvtQ, capV, ↓reduceIte, Zj, Zk, Nat.reduceAdd, Nat.reduceLT, Nat.reduceEqDiff, Nat.reduceMul, Nat.reduceLeDiff, if_true, Zn, reduceCtorEq, ZA, eq_self, Int.reduceLE, Int.reduceLT, Int.reduceToNat, ne_eq, Nat.reduceSub, Tarr30, Tfld32_1, Tfld32_2, Tld5, hl, hm]
        repeat refine And.intro (by omega) ?_
        repeat refine And.intro (by omega) ?_
        intro g
        simp only [List.map_cons, List.map_nil, updL, upd, Nat.reduceEqDiff, if_true, if_false, ↓reduceIte]
        refine hK _ ?_; clear hK K
        refine Cd.cond rfl (fun h3 => ?_) (fun h3 => ?_)
        · refine Cd.rs [2] fun K hK => ?_
          simp (maxSteps := 2000000) (disch := first | omega | (simp only [E4, *] <;> omega) | fail) only [↓E0, E1, evP, evPlan, env0, envN, evOps, evOp, evQs, evQ, evV, setD, pureOp, ev, upd, updL, gate, binW, eqOp, binV, intOp, shOp, boolOp, unV, convV, nilV, fieldAddrV, indexAddrV, extractV, cellAt, cellsAt, findB, setB, fillL, buildV, Value.cells, lenV, minV, maxV, hav, sliceV, loV, hiV, bslQ, mksQ, appQ, partsOk, partsCells, delB, eqL, SameI, strOp, apzQ, cvtQ, capV, ↓reduceIte, Zj, Zk, Nat.reduceAdd, Nat.reduceLT, Nat.reduceEqDiff, Nat.reduceMul, Nat.reduceLeDiff, if_true, Zn, reduceCtorEq, ZA, eq_self, Int.reduceLE, Int.reduceLT, Int.reduceToNat, ne_eq, Nat.reduceSub]
          repeat refine And.intro (by omega) ?_
          intro g
          simp only [List.map_cons, List.map_nil, updL, upd, Nat.reduceEqDiff, if_true, if_false, ↓reduceIte]
          refine hK _ _ ?_; clear hK K
          refine Cd.ret (inBR (thenR (roundR (inBR (thenR ?_)))))
          simp (maxSteps := 2000000) (disch := first | omega | (simp only [E4, *] <;> omega) | fail) only [↓E0, E1, evP, evPlan, env0, envN, evOps, evOp, evQs, evQ, evV, setD, pureOp, ev, upd, updL, gate, binW, eqOp, binV, intOp, shOp, boolOp, unV, convV, nilV, fieldAddrV, indexAddrV, extractV, cellAt, cellsAt, findB, setB, fillL, buildV, Value.cells, lenV, minV, maxV, hav, sliceV, loV, hiV, bslQ, mksQ, appQ, partsOk, partsCells, delB, eqL, SameI, strOp, apzQ, cvtQ, capV, ↓reduceIte, Zj, Zk, Nat.reduceAdd, Nat.reduceLT, Nat.reduceEqDiff, Nat.reduceMul, Nat.reduceLeDiff, if_true, Zn, reduceCtorEq, ZA, eq_self, Int.reduceLE, Int.reduceLT, Int.reduceToNat, ne_eq, Nat.reduceSub]
          exact congrArg Value.bool (gridB_false fun h => h.2.2.2.2 k (by omega) (by simpa using h3)).symm
        · refine Cd.skip ?_
          refine inBN ?_
          refine thenN ?_
          refine Cd.rr [1, 3] fun K hK => ?_
          simp (maxSteps := 2000000) (disch := first | omega | (simp only [E4, *] <;> omega) | fail) only [↓E0, E1, evP, evPlan, env0, envN, evOps, evOp, evQs, evQ, evV, setD, pureOp, ev, upd, updL, gate, binW, eqOp, binV, intOp, shOp, boolOp, unV, convV, nilV, fieldAddrV, indexAddrV, extractV, cellAt, cellsAt, findB, setB, fillL, buildV, Value.cells, lenV, minV, maxV, hav, sliceV, loV, hiV, bslQ, mksQ, appQ, partsOk, partsCells, delB, eqL, SameI, strOp, apzQ, cvtQ, capV, ↓reduceIte, Zj, Zk, Nat.reduceAdd, Nat.reduceLT, Nat.reduceEqDiff, Nat.reduceMul, Nat.reduceLeDiff, if_true, Zn, reduceCtorEq, ZA, eq_self, Int.reduceLE, Int.reduceLT, Int.reduceToNat, ne_eq, Nat.reduceSub]
          repeat refine And.intro (by omega) ?_
          intro g
          simp only [List.map_cons, List.map_nil, updL, upd, Nat.reduceEqDiff, if_true, if_false, ↓reduceIte]
          refine hK _ _ ?_; clear hK K
          exact roundN (m := m - 1) (by omega) ⟨_, k + 1, by omega, fun i hi => by
            rcases Nat.lt_succ_iff_lt_or_eq.1 hi with h4 | rfl
            · exact hd i h4
            · simpa using h3, rfl, rfl⟩
      · refine Cd.exit (thenX (roundX (inBX ?_)))
        refine thenN ?_
        refine Cd.rs [2] fun K hK => ?_
        simp (maxSteps := 2000000) (disch := first | omega | (simp only [E4, *] <;> omega) | fail) only [↓E0, E1, evP, evPlan, env0, envN, evOps, evOp, evQs, evQ, evV, setD, pureOp, ev, upd, updL, gate, binW, eqOp, binV, intOp, shOp, boolOp, unV, convV, nilV, fieldAddrV, indexAddrV, extractV, cellAt, cellsAt, findB, setB, fillL, buildV, Value.cells, lenV, minV, maxV, hav, sliceV, loV, hiV, bslQ, mksQ, appQ, partsOk, partsCells, delB, eqL, SameI, strOp, apzQ, cvtQ, capV, ↓reduceIte, Zj, Zk, Nat.reduceAdd, Nat.reduceLT, Nat.reduceEqDiff, Nat.reduceMul, Nat.reduceLeDiff, if_true, Zn, reduceCtorEq, ZA, eq_self, Int.reduceLE, Int.reduceLT, Int.reduceToNat, ne_eq, Nat.reduceSub]
        repeat refine And.intro (by omega) ?_
        intro g
        simp only [List.map_cons, List.map_nil, updL, upd, Nat.reduceEqDiff, if_true, if_false, ↓reduceIte]
        refine hK _ _ ?_; clear hK K
        refine Cd.ret ?_
        simp (maxSteps := 2000000) (disch := first | omega | (simp only [E4, *] <;> omega) | fail) only [↓E0, E1, evP, evPlan, env0, envN, evOps, evOp, evQs, evQ, evV, setD, pureOp, ev, upd, updL, gate, binW, eqOp, binV, intOp, shOp, boolOp, unV, convV, nilV, fieldAddrV, indexAddrV, extractV, cellAt, cellsAt, findB, setB, fillL, buildV, Value.cells, lenV, minV, maxV, hav, sliceV, loV, hiV, bslQ, mksQ, appQ, partsOk, partsCells, delB, eqL, SameI, strOp, apzQ, cvtQ, capV, ↓reduceIte, Zj, Zk, Nat.reduceAdd, Nat.reduceLT, Nat.reduceEqDiff, Nat.reduceMul, Nat.reduceLeDiff, if_true, Zn, reduceCtorEq, ZA, eq_self, Int.reduceLE, Int.reduceLT, Int.reduceToNat, ne_eq, Nat.reduceSub]
        exact congrArg Value.bool (gridB_true ⟨hs.1, hs.2, hpx, hpo, fun i hi => hd i (by omega)⟩).symm
  clear hK
  simp (maxSteps := 2000000) (disch := first | omega | (simp only [E4, hl, hm, *] <;> omega) | fail) only [↓E0, E1, evP, evPlan, env0, envN, evOps, evOp, evQs, evQ, evV, setD, pureOp, ev, upd, updL, gate, binW, eqOp, binV, intOp, shOp, boolOp, unV, convV, nilV, fieldAddrV, indexAddrV, extractV, cellAt, cellsAt, findB, setB, fillL, buildV, Value.cells, lenV, minV, maxV, hav, sliceV, loV, hiV, bslQ, mksQ, appQ, partsOk, partsCells, delB, eqL, SameI, strOp, apzQ, cvtQ, capV, ↓reduceIte, Zj, Zk, Nat.reduceAdd, Nat.reduceLT, Nat.reduceEqDiff, Nat.reduceMul, Nat.reduceLeDiff, if_true, Zn, reduceCtorEq, ZA, eq_self, Int.reduceLE, Int.reduceLT, Int.reduceToNat, ne_eq, Nat.reduceSub, Tfld32_0, Tfld32_1, Tfld32_2, Tld2, Tld30, hl, hm]
  refine callK_gives (l01In_c _ _ _) ?_
  simp (maxSteps := 2000000) (disch := first | omega | (simp only [E4, hl, hm, *] <;> omega) | fail) only [↓E0, E1, evP, evPlan, env0, envN, evOps, evOp, evQs, evQ, evV, setD, pureOp, ev, upd, updL, gate, binW, eqOp, binV, intOp, shOp, boolOp, unV, convV, nilV, fieldAddrV, indexAddrV, extractV, cellAt, cellsAt, findB, setB, fillL, buildV, Value.cells, lenV, minV, maxV, hav, sliceV, loV, hiV, bslQ, mksQ, appQ, partsOk, partsCells, delB, eqL, SameI, strOp, apzQ, cvtQ, capV, ↓reduceIte, Zj, Zk, Nat.reduceAdd, Nat.reduceLT, Nat.reduceEqDiff, Nat.reduceMul, Nat.reduceLeDiff, if_true, Zn, reduceCtorEq, ZA, eq_self, Int.reduceLE, Int.reduceLT, Int.reduceToNat, ne_eq, Nat.reduceSub, Tfld32_0, Tfld32_1, Tfld32_2, Tld2, Tld30, hl, hm]
  refine ⟨fun h1 => ?_, fun h1 => ?_⟩
  · have hs : 2 ≤ s ∧ s ≤ 8 := by simpa using h1
    obtain ⟨n, rfl⟩ : ∃ n : Nat, s = (n : Int) := ⟨s.toNat, by omega⟩
    refine callK_gives (l01Perm_c x n hx (by omega)) ?_
    simp (maxSteps := 2000000) (disch := first | omega | (simp only [E4, hl, hm, *] <;> omega) | fail) only [↓E0, E1, evP, evPlan, env0, envN, evOps, evOp, evQs, evQ, evV, setD, pureOp, ev, upd, updL, gate, binW, eqOp, binV, intOp, shOp, boolOp, unV, convV, nilV, fieldAddrV, indexAddrV, extractV, cellAt, cellsAt, findB, setB, fillL, buildV, Value.cells, lenV, minV, maxV, hav, sliceV, loV, hiV, bslQ, mksQ, appQ, partsOk, partsCells, delB, eqL, SameI, strOp, apzQ, cvtQ, capV, ↓reduceIte, Zj, Zk, Nat.reduceAdd, Nat.reduceLT, Nat.reduceEqDiff, Nat.reduceMul, Nat.reduceLeDiff, if_true, Zn, reduceCtorEq, ZA, eq_self, Int.reduceLE, Int.reduceLT, Int.reduceToNat, ne_eq, Nat.reduceSub, Tfld32_0, Tfld32_1, Tfld32_2, Tld2, Tld30, hl, hm]
    refine ⟨fun h2 => ?_, fun h2 => ?_⟩
    · refine callK_gives (l01Perm_c o n ho (by omega)) ?_
      simp (maxSteps := 2000000) (disch := first | omega | (simp only [E4, hl, hm, *] <;> omega) | fail) only [↓E0, E1, evP, evPlan, env0, envN, evOps, evOp, evQs, evQ, evV, setD, pureOp, ev, upd, updL, gate, binW, eqOp, binV, intOp, shOp, boolOp, unV, convV, nilV, fieldAddrV, indexAddrV, extractV, cellAt, cellsAt, findB, setB, fillL, buildV, Value.cells, lenV, minV, maxV, hav, sliceV, loV, hiV, bslQ, mksQ, appQ, partsOk, partsCells, delB, eqL, SameI, strOp, apzQ, cvtQ, capV, ↓reduceIte, Zj, Zk, Nat.reduceAdd, Nat.reduceLT, Nat.reduceEqDiff, Nat.reduceMul, Nat.reduceLeDiff, if_true, Zn, reduceCtorEq, ZA, eq_self, Int.reduceLE, Int.reduceLT, Int.reduceToNat, ne_eq, Nat.reduceSub, Tfld32_0, Tfld32_1, Tfld32_2, Tld2, Tld30, hl, hm]
      repeat refine And.intro (by omega) ?_
      intro g
      simp only [List.map_cons, List.map_nil, updL, upd, Nat.reduceEqDiff, if_true, if_false, ↓reduceIte]
      refine J g _ ?_
      simp at h2
      simp [h2, hs]
    · repeat refine And.intro (by omega) ?_
      intro g
      simp only [List.map_cons, List.map_nil, updL, upd, Nat.reduceEqDiff, if_true, if_false, ↓reduceIte]
      refine J g _ ?_
      simp at h2
      simp [h2]
  · repeat refine And.intro (by omega) ?_
    intro g
    simp only [List.map_cons, List.map_nil, updL, upd, Nat.reduceEqDiff, if_true, if_false, ↓reduceIte]
    refine J g _ ?_
    simp at h1
    simp
    omega

/-- The mask of the entries ahead of k. -/
def maskL (x : List Int) (n k : Nat) : Nat := mask (fun i => (x.getD i 0).toNat) (min k n)
theorem maskL_zero (x : List Int) (n : Nat) : maskL x n 0 = 0 := by simp [maskL, mask]
theorem maskL_succ {x : List Int} {n k : Nat} (h : k < n) : maskL x n (k + 1) = maskL x n k ||| 2 ^ (x.getD k 0).toNat := by
  unfold maskL
  rw [Nat.min_eq_left (by omega), Nat.min_eq_left (by omega)]
  rfl
theorem maskL_over {x : List Int} {n k : Nat} (h : n ≤ k) : maskL x n (k + 1) = maskL x n k := by
  unfold maskL
  rw [Nat.min_eq_right (by omega), Nat.min_eq_right (by omega)]

/-- All is well with the entries ahead of k, but that one may come twice. -/
def FitTo (x : List Int) (n k : Nat) : Prop := ∀ i, i < k → x.getD i 0 < n ∧ (n ≤ i → x.getD i 0 = 0)

theorem mask_end {x : List Int} {n : Nat} (hx : Bytes8 x) (hn : n ≤ 8) (hd : FitTo x n 8) : ((maskL x n 8 : Int) == IntKind.wrap .i64 (((2 ^ n : Nat) : Int) - 1)) = decide (IsPerm x n) := by
  have hj2 : 2 ^ n ≤ 2 ^ 8 := Nat.pow_le_pow_right (by omega) hn
  have hp : 0 < 2 ^ n := Nat.two_pow_pos n
  have hf : ∀ i, i < n → (x.getD i 0).toNat < n := fun i hi => by have := (hd i (by omega)).1; have := (bytes_get hx (i := i) (by omega)).1; omega
  have hm := mask_full (f := fun i => (x.getD i 0).toNat) hf
  have e : maskL x n 8 = mask (fun i => (x.getD i 0).toNat) n := by unfold maskL; rw [Nat.min_eq_right hn]
  rw [e]
  have hw : IntKind.wrap .i64 (((2 ^ n : Nat) : Int) - 1) = ((2 ^ n - 1 : Nat) : Int) := by
    generalize 2 ^ n = m at hj2 hp
    rw [wrap_i64 (by omega) (by omega)]
    omega
  rw [hw]
  have hiff : ((mask (fun i => (x.getD i 0).toNat) n : Int) = ((2 ^ n - 1 : Nat) : Int)) ↔ IsPerm x n := by
    rw [Int.ofNat_inj, hm, perm_iff hn]
    constructor
    · intro h i hi
      refine ⟨fun hin => ⟨(hd i hi).1, fun j hj he => h i hin j hj (by rw [he])⟩, (hd i hi).2⟩
    · intro h i hi j hj he
      have h1 := bytes_get hx (i := i) (by omega)
      have h2 := bytes_get hx (i := j) (by omega)
      exact ((h i (by omega)).1 hi).2 j hj (by omega)
  by_cases h : IsPerm x n
  · rw [decide_eq_true h, hiff.2 h]; simp
  · rw [decide_eq_false h]
    exact beq_eq_false_iff_ne.2 fun he => h (hiff.1 he)

theorem isOrder_c (b o cap : Nat) (x : List Int) (n : Nat) (hx : Bytes8 x) (h2 : 2 ≤ n) (hn : n ≤ 8) : GivesR Try.prog 102 #[.slice (some ⟨b, o, none⟩) 8 cap, .int .i64 (n : Int)] [(b, o, ints .u8 x)] (.bool (decide (IsPerm x n))) := by
  have hl := hx.len
  refine GivesR.of (callable_of Try.func102 rfl (by decide)) fun w hR => ?_
  refine acall_of (N := 41) (c := _) (rs := [.tmp 4]) (args := [_, _]) Try.func102 rfl (by decide) rfl rfl (Nat.le_of_ble_eq_true rfl) ?_
  have hR := (told_ints hR).1
  rw [hl] at hR
  refine Cd.rs [0, 1] fun K hK => ?_
  simp (maxSteps := 2000000) (disch := first | omega | (simp only [E4, *] <;> omega) | fail) only [↓E0, E1, evP, evPlan, env0, envN, evOps, evOp, evQs, evQ, evV, setD, pureOp, ev, upd, updL, gate, binW, eqOp, binV, intOp, shOp, boolOp, unV, convV, nilV, fieldAddrV, indexAddrV, extractV, cellAt, cellsAt, findB, setB, fillL, buildV, Value.cells, lenV, minV, maxV, hav, sliceV, loV, hiV, bslQ, mksQ, appQ, partsOk, partsCells, delB, eqL, SameI, strOp, apzQ, cvtQ, capV, ↓reduceIte, Zj, Zk, Nat.reduceAdd, Nat.reduceLT, Nat.reduceEqDiff, Nat.reduceMul, Nat.reduceLeDiff, if_true, Zn, reduceCtorEq, ZA, eq_self, Int.reduceLE, Int.reduceLT, Int.reduceToNat, ne_eq, Nat.reduceSub]
  repeat refine And.intro (by omega) ?_
  intro g
  simp only [List.map_cons, List.map_nil, updL, upd, Nat.reduceEqDiff, if_true, if_false, ↓reduceIte]
  refine hK _ _ ?_; clear hK K
  refine Cd.rs [0, 1, 5] fun K hK => ?_
  simp (maxSteps := 2000000) (disch := first | omega | (simp only [E4, *] <;> omega) | fail) only [↓E0, E1, evP, evPlan, env0, envN, evOps, evOp, evQs, evQ, evV, setD, pureOp, ev, upd, updL, gate, binW, eqOp, binV, intOp, shOp, boolOp, unV, convV, nilV, fieldAddrV, indexAddrV, extractV, cellAt, cellsAt, findB, setB, fillL, buildV, Value.cells, lenV, minV, maxV, hav, sliceV, loV, hiV, bslQ, mksQ, appQ, partsOk, partsCells, delB, eqL, SameI, strOp, apzQ, cvtQ, capV, ↓reduceIte, Zj, Zk, Nat.reduceAdd, Nat.reduceLT, Nat.reduceEqDiff, Nat.reduceMul, Nat.reduceLeDiff, if_true, Zn, reduceCtorEq, ZA, eq_self, Int.reduceLE, Int.reduceLT, Int.reduceToNat, ne_eq, Nat.reduceSub]
  repeat refine And.intro (by omega) ?_
  intro g
  simp only [List.map_cons, List.map_nil, updL, upd, Nat.reduceEqDiff, if_true, if_false, ↓reduceIte]
  refine hK _ _ ?_; clear hK K
  refine Cd.seq ?_
  refine Cd.rs [1, 5, 8, 9, 10] fun K hK => ?_
  simp (maxSteps := 2000000) (disch := first | omega | (simp only [E4, *] <;> omega) | fail) only [↓E0, E1, evP, evPlan, env0, envN, evOps, evOp, evQs, evQ, evV, setD, pureOp, ev, upd, updL, gate, binW, eqOp, binV, intOp, shOp, boolOp, unV, convV, nilV, fieldAddrV, indexAddrV, extractV, cellAt, cellsAt, findB, setB, fillL, buildV, Value.cells, lenV, minV, maxV, hav, sliceV, loV, hiV, bslQ, mksQ, appQ, partsOk, partsCells, delB, eqL, SameI, strOp, apzQ, cvtQ, capV, ↓reduceIte, Zj, Zk, Nat.reduceAdd, Nat.reduceLT, Nat.reduceEqDiff, Nat.reduceMul, Nat.reduceLeDiff, if_true, Zn, reduceCtorEq, ZA, eq_self, Int.reduceLE, Int.reduceLT, Int.reduceToNat, ne_eq, Nat.reduceSub, Tslce28]
  repeat refine And.intro (by omega) ?_
  intro g
  simp only [List.map_cons, List.map_nil, updL, upd, Nat.reduceEqDiff, if_true, if_false, ↓reduceIte]
  refine hK _ _ ?_; clear hK K
  refine Cd.block ?_
  refine Cd.loop (fun m ρ M => ∃ g k, k + m = 8 ∧ FitTo x n k ∧ ρ = updL [(1, .int .i64 (n : Int)), (5, .int .i64 (maskL x n k : Int)), (8, .slice (some ⟨b, o, none⟩) 8 cap), (9, .int .i64 8), (10, .int .i64 (k : Int))] g ∧ M = []) 8
    ⟨_, 0, Nat.zero_add _, (fun _ h => absurd h (Nat.not_lt_zero _)), by rw [maskL_zero]; rfl, rfl⟩ ?_
  rintro m ρ M ⟨g, k, hk, hd, rfl, rfl⟩
  refine Cd.rs [1, 5, 8, 9, 10, 11] fun K hK => ?_
  simp (maxSteps := 2000000) (disch := first | omega | (simp only [E4, *] <;> omega) | fail) only [↓E0, E1, evP, evPlan, env0, envN, evOps, evOp, evQs, evQ, evV, setD, pureOp, ev, upd, updL, gate, binW, eqOp, binV, intOp, shOp, boolOp, unV, convV, nilV, fieldAddrV, indexAddrV, extractV, cellAt, cellsAt, findB, setB, fillL, buildV, Value.cells, lenV, minV, maxV, hav, sliceV, loV, hiV, bslQ, mksQ, appQ, partsOk, partsCells, delB, eqL, SameI, strOp, apzQ, cvtQ, capV, ↓reduceIte, Zj, Zk, Nat.reduceAdd, Nat.reduceLT, Nat.reduceEqDiff, Nat.reduceMul, Nat.reduceLeDiff, if_true, Zn, reduceCtorEq, ZA, eq_self, Int.reduceLE, Int.reduceLT, Int.reduceToNat, ne_eq, Nat.reduceSub]
  repeat refine And.intro (by omega) ?_
  intro g
  simp only [List.map_cons, List.map_nil, updL, upd, Nat.reduceEqDiff, if_true, if_false, ↓reduceIte]
  refine hK _ _ ?_; clear hK K
  refine Cd.seq ?_
  refine Cd.condd rfl (fun h1 => ?_) (fun h1 => ?_)
  · have hb := bytes_get hx (i := k) (by omega)
    refine Cd.skip ?_
    refine thenN ?_
    refine Cd.seq ?_
    refine Cd.block ?_
    refine Cd.rs [1, 5, 6, 7, 8, 9, 10] fun K hK => ?_
    simp (maxSteps := 2000000) (disch := first | omega | (simp only [E4, hR, *] <;> omega) | fail) only [↓E0, E1, evP, evPlan, env0, envN, evOps, evOp, evQs, evQ, evV, setD, pureOp, ev, upd, updL, gate, binW, eqOp, binV, intOp, shOp, boolOp, unV, convV, nilV, fieldAddrV, indexAddrV, extractV, cellAt, cellsAt, findB, setB, fillL, buildV, Value.cells, lenV, minV, maxV, hav, sliceV, loV, hiV, bslQ, mksQ, appQ, partsOk, partsCells, delB, eqL, SameI, strOp, apzQ, cvtQ, capV, ↓reduceIte, Zj, Zk, Nat.reduceAdd, Nat.reduceLT, Nat.reduceEqDiff, Nat.reduceMul, Nat.reduceLeDiff, if_true, Zn, reduceCtorEq, ZA, eq_self, Int.reduceLE, Int.reduceLT, Int.reduceToNat, ne_eq, Nat.reduceSub, Tld5, Tslc28, hR]
    repeat refine And.intro (by omega) ?_
    repeat refine And.intro (by omega) ?_
    intro g
    simp only [List.map_cons, List.map_nil, updL, upd, Nat.reduceEqDiff, if_true, if_false, ↓reduceIte]
    refine hK _ _ ?_; clear hK K
    refine Cd.seq ?_
    refine Cd.rs [1, 5, 6, 7, 8, 9, 10, 27] fun K hK => ?_
    have J : ∀ g b', (b' = false ↔ x.getD k 0 < n ∧ (n ≤ k → x.getD k 0 = 0)) → K (updL [(1, .int .i64 (n : Int)), (5, .int .i64 (maskL x n k : Int)), (6, .int .i64 (k : Int)), (7, .int .u8 (x.getD k 0)), (8, .slice (some ⟨b, o, none⟩) 8 cap), (9, .int .i64 8), (10, .int .i64 (k : Int)), (27, .bool b')] g) [] := by
      intro g b' hb'
      refine hK _ _ ?_
      clear hK K
      refine Cd.cond rfl (fun h3 => ?_) (fun h3 => ?_)
      · refine Cd.rs [4] fun K hK => ?_
        simp (maxSteps := 2000000) (disch := first | omega | (simp only [E4, *] <;> omega) | fail) only [↓E0, E1, evP, evPlan, env0, envN, evOps, evOp, evQs, evQ, evV, setD, pureOp, ev, upd, updL, gate, binW, eqOp, binV, intOp, shOp, boolOp, unV, convV, nilV, fieldAddrV, indexAddrV, extractV, cellAt, cellsAt, findB, setB, fillL, buildV, Value.cells, lenV, minV, maxV, hav, sliceV, loV, hiV, bslQ, mksQ, appQ, partsOk, partsCells, delB, eqL, SameI, strOp, apzQ, cvtQ, capV, ↓reduceIte, Zj, Zk, Nat.reduceAdd, Nat.reduceLT, Nat.reduceEqDiff, Nat.reduceMul, Nat.reduceLeDiff, if_true, Zn, reduceCtorEq, ZA, eq_self, Int.reduceLE, Int.reduceLT, Int.reduceToNat, ne_eq, Nat.reduceSub]
        repeat refine And.intro (by omega) ?_
        intro g
        simp only [List.map_cons, List.map_nil, updL, upd, Nat.reduceEqDiff, if_true, if_false, ↓reduceIte]
        refine hK _ _ ?_; clear hK K
        refine Cd.ret (thenR (inBR (thenR (roundR (inBR (thenR ?_))))))
        simp (maxSteps := 2000000) (disch := first | omega | (simp only [E4, *] <;> omega) | fail) only [↓E0, E1, evP, evPlan, env0, envN, evOps, evOp, evQs, evQ, evV, setD, pureOp, ev, upd, updL, gate, binW, eqOp, binV, intOp, shOp, boolOp, unV, convV, nilV, fieldAddrV, indexAddrV, extractV, cellAt, cellsAt, findB, setB, fillL, buildV, Value.cells, lenV, minV, maxV, hav, sliceV, loV, hiV, bslQ, mksQ, appQ, partsOk, partsCells, delB, eqL, SameI, strOp, apzQ, cvtQ, capV, ↓reduceIte, Zj, Zk, Nat.reduceAdd, Nat.reduceLT, Nat.reduceEqDiff, Nat.reduceMul, Nat.reduceLeDiff, if_true, Zn, reduceCtorEq, ZA, eq_self, Int.reduceLE, Int.reduceLT, Int.reduceToNat, ne_eq, Nat.reduceSub]
        refine congrArg Value.bool (decide_eq_false fun h => ?_).symm
        have : b' = false := hb'.2 (by
          have := (perm_iff hn).1 h k (by omega)
          by_cases hkn : k < n
          · exact ⟨(this.1 hkn).1, fun h => absurd h (by omega)⟩
          · exact ⟨by rw [this.2 (by omega)]; omega, this.2⟩)
        rw [this] at h3; cases h3
      · obtain ⟨h4, h5⟩ := hb'.1 h3
        have hd' : FitTo x n (k + 1) := fun i hi => by
          rcases Nat.lt_succ_iff_lt_or_eq.1 hi with h6 | rfl
          · exact hd i h6
          · exact ⟨h4, h5⟩
        refine Cd.skip ?_
        refine thenN ?_
        refine Cd.rs [1, 5, 7, 8, 9, 10, 30] fun K hK => ?_
        simp (maxSteps := 2000000) (disch := first | omega | (simp only [E4, *] <;> omega) | fail) only [↓E0, E1, evP, evPlan, env0, envN, evOps, evOp, evQs, evQ, evV, setD, pureOp, ev, upd, updL, gate, binW, eqOp, binV, intOp, shOp, boolOp, unV, convV, nilV, fieldAddrV, indexAddrV, extractV, cellAt, cellsAt, findB, setB, fillL, buildV, Value.cells, lenV, minV, maxV, hav, sliceV, loV, hiV, bslQ, mksQ, appQ, partsOk, partsCells, delB, eqL, SameI, strOp, apzQ, cvtQ, capV, ↓reduceIte, Zj, Zk, Nat.reduceAdd, Nat.reduceLT, Nat.reduceEqDiff, Nat.reduceMul, Nat.reduceLeDiff, if_true, Zn, reduceCtorEq, ZA, eq_self, Int.reduceLE, Int.reduceLT, Int.reduceToNat, ne_eq, Nat.reduceSub]
        repeat refine And.intro (by omega) ?_
        intro g
        simp only [List.map_cons, List.map_nil, updL, upd, Nat.reduceEqDiff, if_true, if_false, ↓reduceIte]
        refine hK _ _ ?_; clear hK K
        refine Cd.condd rfl (fun h3 => ?_) (fun h3 => ?_)
        · obtain ⟨j, hj⟩ : ∃ j : Nat, x.getD k 0 = (j : Int) := ⟨(x.getD k 0).toNat, by omega⟩
          have hm : maskL x n k < 2 ^ n := mask_lt fun i hi => by have := (hd i (by omega)).1; omega
          have hm2 : 2 ^ n ≤ 2 ^ 8 := Nat.pow_le_pow_right (by omega) hn
          have hj2 : 2 ^ j ≤ 2 ^ 8 := Nat.pow_le_pow_right (by omega) (by omega)
          refine Cd.rr [1, 5, 8, 9, 10] fun K hK => ?_
          simp (maxSteps := 2000000) (disch := first | omega | (simp only [E4, hj, shOp, shl_i64, *] <;> omega) | fail) only [↓E0, E1, evP, evPlan, env0, envN, evOps, evOp, evQs, evQ, evV, setD, pureOp, ev, upd, updL, gate, binW, eqOp, binV, intOp, shOp, boolOp, unV, convV, nilV, fieldAddrV, indexAddrV, extractV, cellAt, cellsAt, findB, setB, fillL, buildV, Value.cells, lenV, minV, maxV, hav, sliceV, loV, hiV, bslQ, mksQ, appQ, partsOk, partsCells, delB, eqL, SameI, strOp, apzQ, cvtQ, capV, ↓reduceIte, Zj, Zk, Nat.reduceAdd, Nat.reduceLT, Nat.reduceEqDiff, Nat.reduceMul, Nat.reduceLeDiff, if_true, Zn, reduceCtorEq, ZA, eq_self, Int.reduceLE, Int.reduceLT, Int.reduceToNat, ne_eq, Nat.reduceSub, hj, shOp, shl_i64]
          repeat refine And.intro (by omega) ?_
          rw [or_i64 (by omega) (by omega)]
          have e : maskL x n k ||| 2 ^ j = maskL x n (k + 1) := by rw [maskL_succ (by omega), hj]; rfl
          rw [e]
          repeat refine And.intro (by omega) ?_
          intro g
          simp only [List.map_cons, List.map_nil, updL, upd, Nat.reduceEqDiff, if_true, if_false, ↓reduceIte]
          refine hK _ _ ?_; clear hK K
          refine inBN ?_
          refine thenN ?_
          refine Cd.rr [1, 5, 8, 9, 10] fun K hK => ?_
          simp (maxSteps := 2000000) (disch := first | omega | (simp only [E4, *] <;> omega) | fail) only [↓E0, E1, evP, evPlan, env0, envN, evOps, evOp, evQs, evQ, evV, setD, pureOp, ev, upd, updL, gate, binW, eqOp, binV, intOp, shOp, boolOp, unV, convV, nilV, fieldAddrV, indexAddrV, extractV, cellAt, cellsAt, findB, setB, fillL, buildV, Value.cells, lenV, minV, maxV, hav, sliceV, loV, hiV, bslQ, mksQ, appQ, partsOk, partsCells, delB, eqL, SameI, strOp, apzQ, cvtQ, capV, ↓reduceIte, Zj, Zk, Nat.reduceAdd, Nat.reduceLT, Nat.reduceEqDiff, Nat.reduceMul, Nat.reduceLeDiff, if_true, Zn, reduceCtorEq, ZA, eq_self, Int.reduceLE, Int.reduceLT, Int.reduceToNat, ne_eq, Nat.reduceSub]
          repeat refine And.intro (by omega) ?_
          intro g
          simp only [List.map_cons, List.map_nil, updL, upd, Nat.reduceEqDiff, if_true, if_false, ↓reduceIte]
          refine hK _ _ ?_; clear hK K
          exact roundN (m := m - 1) (by omega) ⟨_, k + 1, by omega, hd', rfl, rfl⟩
        · refine Cd.skip ?_
          refine inBN ?_
          refine thenN ?_
          refine Cd.rr [1, 5, 8, 9, 10] fun K hK => ?_
          simp (maxSteps := 2000000) (disch := first | omega | (simp only [E4, *] <;> omega) | fail) only [↓E0, E1, evP, evPlan, env0, envN, evOps, evOp, evQs, evQ, evV, setD, pureOp, ev, upd, updL, gate, binW, eqOp, binV, intOp, shOp, boolOp, unV, convV, nilV, fieldAddrV, indexAddrV, extractV, cellAt, cellsAt, findB, setB, fillL, buildV, Value.cells, lenV, minV, maxV, hav, sliceV, loV, hiV, bslQ, mksQ, appQ, partsOk, partsCells, delB, eqL, SameI, strOp, apzQ, cvtQ, capV, ↓reduceIte, Zj, Zk, Nat.reduceAdd, Nat.reduceLT, Nat.reduceEqDiff, Nat.reduceMul, Nat.reduceLeDiff, if_true, Zn, reduceCtorEq, ZA, eq_self, Int.reduceLE, Int.reduceLT, Int.reduceToNat, ne_eq, Nat.reduceSub]
          repeat refine And.intro (by omega) ?_
          intro g
          simp only [List.map_cons, List.map_nil, updL, upd, Nat.reduceEqDiff, if_true, if_false, ↓reduceIte]
          refine hK _ _ ?_; clear hK K
          exact roundN (m := m - 1) (by omega) ⟨_, k + 1, by omega, hd', by rw [maskL_over (by omega)]; rfl, rfl⟩
    clear hK
    simp (maxSteps := 2000000) (disch := first | omega | (simp only [E4, *] <;> omega) | fail) only [↓E0, E1, evP, evPlan, env0, envN, evOps, evOp, evQs, evQ, evV, setD, pureOp, ev, upd, updL, gate, binW, eqOp, binV, intOp, shOp, boolOp, unV, convV, nilV, fieldAddrV, indexAddrV, extractV, cellAt, cellsAt, findB, setB, fillL, buildV, Value.cells, lenV, minV, maxV, hav, sliceV, loV, hiV, bslQ, mksQ, appQ, partsOk, partsCells, delB, eqL, SameI, strOp, apzQ, cvtQ, capV, ↓reduceIte, Zj, Zk, Nat.reduceAdd, Nat.reduceLT, Nat.reduceEqDiff, Nat.reduceMul, Nat.reduceLeDiff, if_true, Zn, reduceCtorEq, ZA, eq_self, Int.reduceLE, Int.reduceLT, Int.reduceToNat, ne_eq, Nat.reduceSub, Tint3, Tpar5]
    refine ⟨fun h3 => ?_, fun h3 => ?_⟩
    · skip
      refine ⟨fun h4 => ?_, fun h4 => ?_⟩
      · repeat refine And.intro (by omega) ?_
        intro g
        simp only [List.map_cons, List.map_nil, updL, upd, Nat.reduceEqDiff, if_true, if_false, ↓reduceIte]
        refine J _ _ ?_
        simp at h4 ⊢
        omega
      · repeat refine And.intro (by omega) ?_
        intro g
        simp only [List.map_cons, List.map_nil, updL, upd, Nat.reduceEqDiff, if_true, if_false, ↓reduceIte]
        refine J _ _ ?_
        simp at h4 ⊢
        omega
    · have h3 := of_decide_eq_false h3
      repeat refine And.intro (by omega) ?_
      intro g
      simp only [List.map_cons, List.map_nil, updL, upd, Nat.reduceEqDiff, if_true, if_false, ↓reduceIte]
      refine J _ _ ?_
      simp
      omega
  · refine Cd.exit (thenX (roundX (inBX ?_)))
    refine thenN ?_
    obtain rfl : k = 8 := by omega
    refine Cd.rs [4] fun K hK => ?_
    have hj2 : 2 ^ n ≤ 2 ^ 8 := Nat.pow_le_pow_right (by omega) hn
    simp (maxSteps := 2000000) (disch := first | omega | (simp only [E4, shOp, shl_i64, *] <;> omega) | fail) only [↓E0, E1, evP, evPlan, env0, envN, evOps, evOp, evQs, evQ, evV, setD, pureOp, ev, upd, updL, gate, binW, eqOp, binV, intOp, shOp, boolOp, unV, convV, nilV, fieldAddrV, indexAddrV, extractV, cellAt, cellsAt, findB, setB, fillL, buildV, Value.cells, lenV, minV, maxV, hav, sliceV, loV, hiV, bslQ, mksQ, appQ, partsOk, partsCells, delB, eqL, SameI, strOp, apzQ, cvtQ, capV, ↓reduceIte, Zj, Zk, Nat.reduceAdd, Nat.reduceLT, Nat.reduceEqDiff, Nat.reduceMul, Nat.reduceLeDiff, if_true, Zn, reduceCtorEq, ZA, eq_self, Int.reduceLE, Int.reduceLT, Int.reduceToNat, ne_eq, Nat.reduceSub, shOp, shl_i64]
    repeat refine And.intro (by omega) ?_
    repeat refine And.intro (by omega) ?_
    intro g
    simp only [List.map_cons, List.map_nil, updL, upd, Nat.reduceEqDiff, if_true, if_false, ↓reduceIte]
    refine hK _ _ ?_; clear hK K
    refine Cd.ret ?_
    simp (maxSteps := 2000000) (disch := first | omega | (simp only [E4, *] <;> omega) | fail) only [↓E0, E1, evP, evPlan, env0, envN, evOps, evOp, evQs, evQ, evV, setD, pureOp, ev, upd, updL, gate, binW, eqOp, binV, intOp, shOp, boolOp, unV, convV, nilV, fieldAddrV, indexAddrV, extractV, cellAt, cellsAt, findB, setB, fillL, buildV, Value.cells, lenV, minV, maxV, hav, sliceV, loV, hiV, bslQ, mksQ, appQ, partsOk, partsCells, delB, eqL, SameI, strOp, apzQ, cvtQ, capV, ↓reduceIte, Zj, Zk, Nat.reduceAdd, Nat.reduceLT, Nat.reduceEqDiff, Nat.reduceMul, Nat.reduceLeDiff, if_true, Zn, reduceCtorEq, ZA, eq_self, Int.reduceLE, Int.reduceLT, Int.reduceToNat, ne_eq, Nat.reduceSub]
    exact congrArg Value.bool (mask_end hx hn hd)

theorem IsGrid_c (s : Int) (x o : List Int) (hx : Bytes8 x) (ho : Bytes8 o) : Gives Try.prog 33 #[.agg (gc s x o).toArray] (.bool (gridB s x o)) := by
  have hl := hx.len
  have hm := ho.len
  refine Gives.of fun w => ?_
  refine acall_of (N := 39) (c := _) (rs := [.tmp 2]) (args := [_]) Try.func33 rfl (by decide) rfl rfl (Nat.le_of_ble_eq_true rfl) ?_
  refine Cd.rs [1] fun K hK => ?_
  simp (maxSteps := 2000000) (disch := first | omega | (simp only [E4, *] <;> omega) | fail) only [↓E0, E1, evP, evPlan, env0, envN, evOps, evOp, evQs, evQ, evV, setD, pureOp, ev, upd, updL, gate, binW, eqOp, binV, intOp, shOp, boolOp, unV, convV, nilV, fieldAddrV, indexAddrV, extractV, cellAt, cellsAt, findB, setB, fillL, buildV, Value.cells, lenV, minV, maxV, hav, sliceV, loV, hiV, bslQ, mksQ, appQ, partsOk, partsCells, delB, eqL, SameI, strOp, apzQ, cvtQ, capV, ↓reduceIte, Zj, Zk, Nat.reduceAdd, Nat.reduceLT, Nat.reduceEqDiff, Nat.reduceMul, Nat.reduceLeDiff, if_true, Zn, reduceCtorEq, ZA, eq_self, Int.reduceLE, Int.reduceLT, Int.reduceToNat, ne_eq, Nat.reduceSub]
  intro b1 hb1
  repeat refine And.intro (by omega) ?_
  intro g
  simp only [List.map_cons, List.map_nil, updL, upd, Nat.reduceEqDiff, if_true, if_false, ↓reduceIte]
  refine hK _ _ ?_; clear hK K
  refine Cd.seq ?_
  refine Cd.qs [1, 23] fol (by kernel_rfl) fun K hK => ?_
  have J : ∀ g b, (b = false ↔ (2 ≤ s ∧ s ≤ 8) ∧ IsPerm x s.toNat ∧ IsPerm o s.toNat) → K (updL [(1, .pointer (some ⟨b1, 0, none⟩)), (23, .bool b)] g) := by
    intro g b hb
    refine hK _ ?_
    clear hK K
    refine Cd.cond rfl (fun h1 => ?_) (fun h1 => ?_)
    · refine Cd.rs [2] fun K hK => ?_
      simp (maxSteps := 2000000) (disch := first | omega | (simp only [E4, *] <;> omega) | fail) only [↓E0, E1, evP, evPlan, env0, envN, evOps, evOp, evQs, evQ, evV, setD, pureOp, ev, upd, updL, gate, binW, eqOp, binV, intOp, shOp, boolOp, unV, convV, nilV, fieldAddrV, indexAddrV, extractV, cellAt, cellsAt, findB, setB, fillL, buildV, Value.cells, lenV, minV, maxV, hav, sliceV, loV, hiV, bslQ, mksQ, appQ, partsOk, partsCells, delB, eqL, SameI, strOp, apzQ, cvtQ, capV, ↓reduceIte, Zj, Zk, Nat.reduceAdd, Nat.reduceLT, Nat.reduceEqDiff, Nat.reduceMul, Nat.reduceLeDiff, if_true, Zn, reduceCtorEq, ZA, eq_self, Int.reduceLE, Int.reduceLT, Int.reduceToNat, ne_eq, Nat.reduceSub]
      repeat refine And.intro (by omega) ?_
      intro g
      simp only [List.map_cons, List.map_nil, updL, upd, Nat.reduceEqDiff, if_true, if_false, ↓reduceIte]
      refine hK _ _ ?_; clear hK K
      refine Cd.ret (thenR ?_)
      simp (maxSteps := 2000000) (disch := first | omega | (simp only [E4, *] <;> omega) | fail) only [↓E0, E1, evP, evPlan, env0, envN, evOps, evOp, evQs, evQ, evV, setD, pureOp, ev, upd, updL, gate, binW, eqOp, binV, intOp, shOp, boolOp, unV, convV, nilV, fieldAddrV, indexAddrV, extractV, cellAt, cellsAt, findB, setB, fillL, buildV, Value.cells, lenV, minV, maxV, hav, sliceV, loV, hiV, bslQ, mksQ, appQ, partsOk, partsCells, delB, eqL, SameI, strOp, apzQ, cvtQ, capV, ↓reduceIte, Zj, Zk, Nat.reduceAdd, Nat.reduceLT, Nat.reduceEqDiff, Nat.reduceMul, Nat.reduceLeDiff, if_true, Zn, reduceCtorEq, ZA, eq_self, Int.reduceLE, Int.reduceLT, Int.reduceToNat, ne_eq, Nat.reduceSub]
      exact congrArg Value.bool (gridB_false fun h => by rw [hb.2 ⟨⟨h.1, h.2.1⟩, h.2.2.1, h.2.2.2.1⟩] at h1; cases h1).symm
    · obtain ⟨hs, hpx, hpo⟩ := hb.1 h1
      obtain ⟨n, rfl⟩ : ∃ n : Nat, s = (n : Int) := ⟨s.toNat, by omega⟩
      rw [Int.toNat_natCast] at hpx hpo
      refine Cd.skip ?_
      refine thenN ?_
      refine Cd.seq ?_
      refine Cd.rs [1, 25, 26] fun K hK => ?_
      simp (maxSteps := 2000000) (disch := first | omega | (simp only [E4, hl, hm, *] <;> omega) | fail) only [↓E0, E1, evP, evPlan, env0, envN, evOps, evOp, evQs, evQ, evV, setD, pureOp, ev, upd, updL, gate, binW, eqOp, binV, intOp, shOp, boolOp, unV, convV, nilV, fieldAddrV, indexAddrV, extractV, cellAt, cellsAt, findB, setB, fillL, buildV, Value.cells, lenV, minV, maxV, hav, sliceV, loV, hiV, bslQ, mksQ, appQ, partsOk, partsCells, delB, eqL, SameI, strOp, apzQ, cvtQ, capV, ↓reduceIte, Zj, Zk, Nat.reduceAdd, Nat.reduceLT, Nat.reduceEqDiff, Nat.reduceMul, Nat.reduceLeDiff, if_true, Zn, reduceCtorEq, ZA, eq_self, Int.reduceLE, Int.reduceLT, Int.reduceToNat, ne_eq, Nat.reduceSub, Tld32, hl, hm]
      refine callK_gives (n_c _ x o hl hm) ?_
      simp (maxSteps := 2000000) (disch := first | omega | (simp only [E4, *] <;> omega) | fail) only [↓E0, E1, evP, evPlan, env0, envN, evOps, evOp, evQs, evQ, evV, setD, pureOp, ev, upd, updL, gate, binW, eqOp, binV, intOp, shOp, boolOp, unV, convV, nilV, fieldAddrV, indexAddrV, extractV, cellAt, cellsAt, findB, setB, fillL, buildV, Value.cells, lenV, minV, maxV, hav, sliceV, loV, hiV, bslQ, mksQ, appQ, partsOk, partsCells, delB, eqL, SameI, strOp, apzQ, cvtQ, capV, ↓reduceIte, Zj, Zk, Nat.reduceAdd, Nat.reduceLT, Nat.reduceEqDiff, Nat.reduceMul, Nat.reduceLeDiff, if_true, Zn, reduceCtorEq, ZA, eq_self, Int.reduceLE, Int.reduceLT, Int.reduceToNat, ne_eq, Nat.reduceSub, Tld32]
      repeat refine And.intro (by omega) ?_
      intro g
      simp only [List.map_cons, List.map_nil, updL, upd, Nat.reduceEqDiff, if_true, if_false, ↓reduceIte]
      refine hK _ _ ?_; clear hK K
      refine Cd.block ?_
      refine Cd.loop (fun m ρ M => ∃ g k, k + m = n ∧ (∀ i, i < k → x.getD i 0 ≠ o.getD i 0) ∧ ρ = updL [(1, .pointer (some ⟨b1, 0, none⟩)), (25, .int .i64 (n : Int)), (26, .int .i64 (k : Int))] g ∧ M = [(b1, gc (n : Int) x o)]) n
        ⟨_, 0, Nat.zero_add _, (fun _ h => absurd h (Nat.not_lt_zero _)), rfl, rfl⟩ ?_
      rintro m ρ M ⟨g, k, hk, hd, rfl, rfl⟩
      refine Cd.rs [1, 25, 26, 27] fun K hK => ?_
      simp (maxSteps := 2000000) (disch := first | omega | (simp only [E4, hl, hm, *] <;> omega) | fail) only [↓E0, E1, evP, evPlan, env0, envN, evOps, evOp, evQs, evQ, evV, setD, pureOp, ev, upd, updL, gate, binW, eqOp, binV, intOp, shOp, boolOp, unV, convV, nilV, fieldAddrV, indexAddrV, extractV, cellAt, cellsAt, findB, setB, fillL, buildV, Value.cells, lenV, minV, maxV, hav, sliceV, loV, hiV, bslQ, mksQ, appQ, partsOk, partsCells, delB, eqL, SameI, strOp, apzQ, cvtQ, capV, ↓reduceIte, Zj, Zk, Nat.reduceAdd, Nat.reduceLT, Nat.reduceEqDiff, Nat.reduceMul, Nat.reduceLeDiff, if_true, Zn, reduceCtorEq, ZA, eq_self, Int.reduceLE, Int.reduceLT, Int.reduceToNat, ne_eq, Nat.reduceSub, hl, hm]
      repeat refine And.intro (by omega) ?_
      intro g
      simp only [List.map_cons, List.map_nil, updL, upd, Nat.reduceEqDiff, if_true, if_false, ↓reduceIte]
      refine hK _ _ ?_; clear hK K
      refine Cd.seq ?_
      refine Cd.condd rfl (fun h2 => ?_) (fun h2 => ?_)
      · refine Cd.skip ?_
        refine thenN ?_
        refine Cd.seq ?_
        refine Cd.block ?_
        refine Cd.rs [1, 3, 25, 26] fun K hK => ?_
        simp (maxSteps := 2000000) (disch := first | omega | (simp only [E4, *] <;> omega) | fail) only [↓E0, E1, evP, evPlan, env0, envN, evOps, evOp, evQs, evQ, evV, setD, pureOp, ev, upd, updL, gate, binW, eqOp, binV, intOp, shOp, boolOp, unV, convV, nilV, fieldAddrV, indexAddrV, extractV, cellAt, cellsAt, findB, setB, fillL, buildV, Value.cells, lenV, minV, maxV, hav, sliceV, loV, hiV, bslQ, mksQ, appQ, partsOk, partsCells, delB, eqL, SameI, strOp, apzQ, cvtQ, capV, ↓reduceIte, Zj, Zk, Nat.reduceAdd, Nat.reduceLT, Nat.reduceEqDiff, Nat.reduceMul, Nat.reduceLeDiff, if_true, Zn, reduceCtorEq, ZA, eq_self, Int.reduceLE, Int.reduceLT, Int.reduceToNat, ne_eq, Nat.reduceSub]
        repeat refine And.intro (by omega) ?_
        intro g
        simp only [List.map_cons, List.map_nil, updL, upd, Nat.reduceEqDiff, if_true, if_false, ↓reduceIte]
        refine hK _ _ ?_; clear hK K
        refine Cd.qs [1, 25, 26, 37] fol (by kernel_rfl) fun K hK => ?_
        simp (maxSteps := 2000000) (disch := first | omega | (simp only [E4, hl, hm, *] <;> omega) | fail) only [↓E0, E1, evP, evPlan, env0, envN, evOps, evOp, evQs, evQ, evV, setD, pureOp, ev, upd, updL, gate, binW, eqOp, binV, intOp, shOp, boolOp, unV, convV, nilV, fieldAddrV, indexAddrV, extractV, cellAt, cellsAt, findB, setB, fillL, buildV, Value.cells, lenV, minV, maxV, hav, sliceV, loV, hiV, bslQ, mksQ, appQ, partsOk, partsCells, delB, eqL, SameI, strOp, apzQ, cvtQ, capV, ↓reduceIte, Zj, Zk, Nat.reduceAdd, Nat.reduceLT, Nat.reduceEqDiff, Nat.reduceMul, Nat.reduceLeDiff, if_true, Zn, reduceCtorEq, ZA, eq_self, Int.reduceLE, Int.reduceLT, Int.reduceToNat, ne_eq, Nat.reduceSub, Tarr30, Tfld32_1, Tfld32_2, Tld5, hl, hm]
        repeat refine And.intro (by omega) ?_
        repeat refine And.intro (by omega) ?_
        intro g
        simp only [List.map_cons, List.map_nil, updL, upd, Nat.reduceEqDiff, if_true, if_false, ↓reduceIte]
        refine hK _ ?_; clear hK K
        refine Cd.cond rfl (fun h3 => ?_) (fun h3 => ?_)
        · refine Cd.rs [2] fun K hK => ?_
          simp (maxSteps := 2000000) (disch := first | omega | (simp only [E4, *] <;> omega) | fail) only [↓E0, E1, evP, evPlan, env0, envN, evOps, evOp, evQs, evQ, evV, setD, pureOp, ev, upd, updL, gate, binW, eqOp, binV, intOp, shOp, boolOp, unV, convV, nilV, fieldAddrV, indexAddrV, extractV, cellAt, cellsAt, findB, setB, fillL, buildV, Value.cells, lenV, minV, maxV, hav, sliceV, loV, hiV, bslQ, mksQ, appQ, partsOk, partsCells, delB, eqL, SameI, strOp, apzQ, cvtQ, capV, ↓reduceIte, Zj, Zk, Nat.reduceAdd, Nat.reduceLT, Nat.reduceEqDiff, Nat.reduceMul, Nat.reduceLeDiff, if_true, Zn, reduceCtorEq, ZA, eq_self, Int.reduceLE, Int.reduceLT, Int.reduceToNat, ne_eq, Nat.reduceSub]
          repeat refine And.intro (by omega) ?_
          intro g
          simp only [List.map_cons, List.map_nil, updL, upd, Nat.reduceEqDiff, if_true, if_false, ↓reduceIte]
          refine hK _ _ ?_; clear hK K
          refine Cd.ret (inBR (thenR (roundR (inBR (thenR ?_)))))
          simp (maxSteps := 2000000) (disch := first | omega | (simp only [E4, *] <;> omega) | fail) only [↓E0, E1, evP, evPlan, env0, envN, evOps, evOp, evQs, evQ, evV, setD, pureOp, ev, upd, updL, gate, binW, eqOp, binV, intOp, shOp, boolOp, unV, convV, nilV, fieldAddrV, indexAddrV, extractV, cellAt, cellsAt, findB, setB, fillL, buildV, Value.cells, lenV, minV, maxV, hav, sliceV, loV, hiV, bslQ, mksQ, appQ, partsOk, partsCells, delB, eqL, SameI, strOp, apzQ, cvtQ, capV, ↓reduceIte, Zj, Zk, Nat.reduceAdd, Nat.reduceLT, Nat.reduceEqDiff, Nat.reduceMul, Nat.reduceLeDiff, if_true, Zn, reduceCtorEq, ZA, eq_self, Int.reduceLE, Int.reduceLT, Int.reduceToNat, ne_eq, Nat.reduceSub]
          exact congrArg Value.bool (gridB_false fun h => h.2.2.2.2 k (by omega) (by simpa using h3)).symm
        · refine Cd.skip ?_
          refine inBN ?_
          refine thenN ?_
          refine Cd.rr [1, 25, 26] fun K hK => ?_
          simp (maxSteps := 2000000) (disch := first | omega | (simp only [E4, *] <;> omega) | fail) only [↓E0, E1, evP, evPlan, env0, envN, evOps, evOp, evQs, evQ, evV, setD, pureOp, ev, upd, updL, gate, binW, eqOp, binV, intOp, shOp, boolOp, unV, convV, nilV, fieldAddrV, indexAddrV, extractV, cellAt, cellsAt, findB, setB, fillL, buildV, Value.cells, lenV, minV, maxV, hav, sliceV, loV, hiV, bslQ, mksQ, appQ, partsOk, partsCells, delB, eqL, SameI, strOp, apzQ, cvtQ, capV, ↓reduceIte, Zj, Zk, Nat.reduceAdd, Nat.reduceLT, Nat.reduceEqDiff, Nat.reduceMul, Nat.reduceLeDiff, if_true, Zn, reduceCtorEq, ZA, eq_self, Int.reduceLE, Int.reduceLT, Int.reduceToNat, ne_eq, Nat.reduceSub]
          repeat refine And.intro (by omega) ?_
          intro g
          simp only [List.map_cons, List.map_nil, updL, upd, Nat.reduceEqDiff, if_true, if_false, ↓reduceIte]
          refine hK _ _ ?_; clear hK K
          exact roundN (m := m - 1) (by omega) ⟨_, k + 1, by omega, fun i hi => by
            rcases Nat.lt_succ_iff_lt_or_eq.1 hi with h4 | rfl
            · exact hd i h4
            · simpa using h3, rfl, rfl⟩
      · refine Cd.exit (thenX (roundX (inBX ?_)))
        refine thenN ?_
        refine Cd.rs [2] fun K hK => ?_
        simp (maxSteps := 2000000) (disch := first | omega | (simp only [E4, *] <;> omega) | fail) only [↓E0, E1, evP, evPlan, env0, envN, evOps, evOp, evQs, evQ, evV, setD, pureOp, ev, upd, updL, gate, binW, eqOp, binV, intOp, shOp, boolOp, unV, convV, nilV, fieldAddrV, indexAddrV, extractV, cellAt, cellsAt, findB, setB, fillL, buildV, Value.cells, lenV, minV, maxV, hav, sliceV, loV, hiV, bslQ, mksQ, appQ, partsOk, partsCells, delB, eqL, SameI, strOp, apzQ, cvtQ, capV, ↓reduceIte, Zj, Zk, Nat.reduceAdd, Nat.reduceLT, Nat.reduceEqDiff, Nat.reduceMul, Nat.reduceLeDiff, if_true, Zn, reduceCtorEq, ZA, eq_self, Int.reduceLE, Int.reduceLT, Int.reduceToNat, ne_eq, Nat.reduceSub]
        repeat refine And.intro (by omega) ?_
        intro g
        simp only [List.map_cons, List.map_nil, updL, upd, Nat.reduceEqDiff, if_true, if_false, ↓reduceIte]
        refine hK _ _ ?_; clear hK K
        refine Cd.ret ?_
        simp (maxSteps := 2000000) (disch := first | omega | (simp only [E4, *] <;> omega) | fail) only [↓E0, E1, evP, evPlan, env0, envN, evOps, evOp, evQs, evQ, evV, setD, pureOp, ev, upd, updL, gate, binW, eqOp, binV, intOp, shOp, boolOp, unV, convV, nilV, fieldAddrV, indexAddrV, extractV, cellAt, cellsAt, findB, setB, fillL, buildV, Value.cells, lenV, minV, maxV, hav, sliceV, loV, hiV, bslQ, mksQ, appQ, partsOk, partsCells, delB, eqL, SameI, strOp, apzQ, cvtQ, capV, ↓reduceIte, Zj, Zk, Nat.reduceAdd, Nat.reduceLT, Nat.reduceEqDiff, Nat.reduceMul, Nat.reduceLeDiff, if_true, Zn, reduceCtorEq, ZA, eq_self, Int.reduceLE, Int.reduceLT, Int.reduceToNat, ne_eq, Nat.reduceSub]
        exact congrArg Value.bool (gridB_true ⟨hs.1, hs.2, hpx, hpo, fun i hi => hd i (by omega)⟩).symm
  clear hK
  simp (maxSteps := 2000000) (disch := first | omega | (simp only [E4, hl, hm, *] <;> omega) | fail) only [↓E0, E1, evP, evPlan, env0, envN, evOps, evOp, evQs, evQ, evV, setD, pureOp, ev, upd, updL, gate, binW, eqOp, binV, intOp, shOp, boolOp, unV, convV, nilV, fieldAddrV, indexAddrV, extractV, cellAt, cellsAt, findB, setB, fillL, buildV, Value.cells, lenV, minV, maxV, hav, sliceV, loV, hiV, bslQ, mksQ, appQ, partsOk, partsCells, delB, eqL, SameI, strOp, apzQ, cvtQ, capV, ↓reduceIte, Zj, Zk, Nat.reduceAdd, Nat.reduceLT, Nat.reduceEqDiff, Nat.reduceMul, Nat.reduceLeDiff, if_true, Zn, reduceCtorEq, ZA, eq_self, Int.reduceLE, Int.reduceLT, Int.reduceToNat, ne_eq, Nat.reduceSub, Tarr30, Tfld32_0, Tfld32_1, Tfld32_2, Tld2, Tld32, hl, hm]
  refine callQ_gives (within_c _ _ _) ?_
  simp (maxSteps := 2000000) (disch := first | omega | (simp only [E4, hl, hm, *] <;> omega) | fail) only [↓E0, E1, evP, evPlan, env0, envN, evOps, evOp, evQs, evQ, evV, setD, pureOp, ev, upd, updL, gate, binW, eqOp, binV, intOp, shOp, boolOp, unV, convV, nilV, fieldAddrV, indexAddrV, extractV, cellAt, cellsAt, findB, setB, fillL, buildV, Value.cells, lenV, minV, maxV, hav, sliceV, loV, hiV, bslQ, mksQ, appQ, partsOk, partsCells, delB, eqL, SameI, strOp, apzQ, cvtQ, capV, ↓reduceIte, Zj, Zk, Nat.reduceAdd, Nat.reduceLT, Nat.reduceEqDiff, Nat.reduceMul, Nat.reduceLeDiff, if_true, Zn, reduceCtorEq, ZA, eq_self, Int.reduceLE, Int.reduceLT, Int.reduceToNat, ne_eq, Nat.reduceSub, Tarr30, Tfld32_0, Tfld32_1, Tfld32_2, Tld2, Tld32, hl, hm]
  refine ⟨fun h1 => ?_, fun h1 => ?_⟩
  · have hs : 2 ≤ s ∧ s ≤ 8 := by simpa using h1
    obtain ⟨n, rfl⟩ : ∃ n : Nat, s = (n : Int) := ⟨s.toNat, by omega⟩
    refine callQ_gives (n_c _ x o hl hm) ?_
    simp (maxSteps := 2000000) (disch := first | omega | (simp only [E4, *] <;> omega) | fail) only [↓E0, E1, evP, evPlan, env0, envN, evOps, evOp, evQs, evQ, evV, setD, pureOp, ev, upd, updL, gate, binW, eqOp, binV, intOp, shOp, boolOp, unV, convV, nilV, fieldAddrV, indexAddrV, extractV, cellAt, cellsAt, findB, setB, fillL, buildV, Value.cells, lenV, minV, maxV, hav, sliceV, loV, hiV, bslQ, mksQ, appQ, partsOk, partsCells, delB, eqL, SameI, strOp, apzQ, cvtQ, capV, ↓reduceIte, Zj, Zk, Nat.reduceAdd, Nat.reduceLT, Nat.reduceEqDiff, Nat.reduceMul, Nat.reduceLeDiff, if_true, Zn, reduceCtorEq, ZA, eq_self, Int.reduceLE, Int.reduceLT, Int.reduceToNat, ne_eq, Nat.reduceSub, Tarr30, Tfld32_0, Tfld32_1, Tfld32_2, Tld2, Tld32]
    refine callQ_reads (isOrder_c b1 1 8 x n hx (by omega) (by omega)) (.cons (.sub (cs := gc (n : Int) x o) (by simp [findB]) (by rw [ints_length, hl]; exact sub_gc_x hl)) .nil) ?_
    simp (maxSteps := 2000000) (disch := first | omega | (simp only [E4, hl, hm, *] <;> omega) | fail) only [↓E0, E1, evP, evPlan, env0, envN, evOps, evOp, evQs, evQ, evV, setD, pureOp, ev, upd, updL, gate, binW, eqOp, binV, intOp, shOp, boolOp, unV, convV, nilV, fieldAddrV, indexAddrV, extractV, cellAt, cellsAt, findB, setB, fillL, buildV, Value.cells, lenV, minV, maxV, hav, sliceV, loV, hiV, bslQ, mksQ, appQ, partsOk, partsCells, delB, eqL, SameI, strOp, apzQ, cvtQ, capV, ↓reduceIte, Zj, Zk, Nat.reduceAdd, Nat.reduceLT, Nat.reduceEqDiff, Nat.reduceMul, Nat.reduceLeDiff, if_true, Zn, reduceCtorEq, ZA, eq_self, Int.reduceLE, Int.reduceLT, Int.reduceToNat, ne_eq, Nat.reduceSub, Tarr30, Tfld32_0, Tfld32_1, Tfld32_2, Tld2, Tld32, hl, hm]
    refine ⟨fun h2 => ?_, fun h2 => ?_⟩
    · refine callQ_gives (n_c _ x o hl hm) ?_
      simp (maxSteps := 2000000) (disch := first | omega | (simp only [E4, *] <;> omega) | fail) only [↓E0, E1, evP, evPlan, env0, envN, evOps, evOp, evQs, evQ, evV, setD, pureOp, ev, upd, updL, gate, binW, eqOp, binV, intOp, shOp, boolOp, unV, convV, nilV, fieldAddrV, indexAddrV, extractV, cellAt, cellsAt, findB, setB, fillL, buildV, Value.cells, lenV, minV, maxV, hav, sliceV, loV, hiV, bslQ, mksQ, appQ, partsOk, partsCells, delB, eqL, SameI, strOp, apzQ, cvtQ, capV, ↓reduceIte, Zj, Zk, Nat.reduceAdd, Nat.reduceLT, Nat.reduceEqDiff, Nat.reduceMul, Nat.reduceLeDiff, if_true, Zn, reduceCtorEq, ZA, eq_self, Int.reduceLE, Int.reduceLT, Int.reduceToNat, ne_eq, Nat.reduceSub, Tarr30, Tfld32_0, Tfld32_1, Tfld32_2, Tld2, Tld32]
      refine callQ_reads (isOrder_c b1 9 8 o n ho (by omega) (by omega)) (.cons (.sub (cs := gc (n : Int) x o) (by simp [findB]) (by rw [ints_length, hm]; exact sub_gc_o hl hm)) .nil) ?_
      simp (maxSteps := 2000000) (disch := first | omega | (simp only [E4, hl, hm, *] <;> omega) | fail) only [↓E0, E1, evP, evPlan, env0, envN, evOps, evOp, evQs, evQ, evV, setD, pureOp, ev, upd, updL, gate, binW, eqOp, binV, intOp, shOp, boolOp, unV, convV, nilV, fieldAddrV, indexAddrV, extractV, cellAt, cellsAt, findB, setB, fillL, buildV, Value.cells, lenV, minV, maxV, hav, sliceV, loV, hiV, bslQ, mksQ, appQ, partsOk, partsCells, delB, eqL, SameI, strOp, apzQ, cvtQ, capV, ↓reduceIte, Zj, Zk, Nat.reduceAdd, Nat.reduceLT, Nat.reduceEqDiff, Nat.reduceMul, Nat.reduceLeDiff, if_true, Zn, reduceCtorEq, ZA, eq_self, Int.reduceLE, Int.reduceLT, Int.reduceToNat, ne_eq, Nat.reduceSub, Tarr30, Tfld32_0, Tfld32_1, Tfld32_2, Tld2, Tld32, hl, hm]
      repeat refine And.intro (by omega) ?_
      intro g
      simp only [List.map_cons, List.map_nil, updL, upd, Nat.reduceEqDiff, if_true, if_false, ↓reduceIte]
      refine J g _ ?_
      simp at h2
      simp [h2, hs]
    · repeat refine And.intro (by omega) ?_
      intro g
      simp only [List.map_cons, List.map_nil, updL, upd, Nat.reduceEqDiff, if_true, if_false, ↓reduceIte]
      refine J g _ ?_
      simp at h2
      simp [h2]
  · repeat refine And.intro (by omega) ?_
    intro g
    simp only [List.map_cons, List.map_nil, updL, upd, Nat.reduceEqDiff, if_true, if_false, ↓reduceIte]
    refine J g _ ?_
    simp at h1
    simp
    omega

end Go.Proofs

/-
  What the functions of this part hand back: each as a plain function of its arguments. Conditions: none.
-/
namespace Go.Proofs
open Go.W8
set_option linter.unusedVariables false
set_option linter.unusedSimpArgs false
set_option linter.unusedSectionVars false
set_option maxRecDepth 8000
set_option maxHeartbeats 4000000
theorem gridB_perm {s : Int} {x o : List Int} (h : gridB s x o = true) : ∃ n : Nat, s = (n : Int) ∧ 2 ≤ n ∧ n ≤ 8 ∧ IsPerm x n ∧ IsPerm o n := by
  have := of_decide_eq_true h
  exact ⟨s.toNat, by have := this.1; omega, by have := this.1; omega, by have := this.2.1; omega, this.2.2.1, this.2.2.2.1⟩

end Go.Proofs

/-
  What the functions of this part hand back: each as a plain function of its arguments. Conditions: none.
-/
namespace Go.Proofs
open Go.W8
set_option linter.unusedVariables false
set_option linter.unusedSimpArgs false
set_option linter.unusedSectionVars false
set_option maxRecDepth 8000
set_option maxHeartbeats 4000000
def toW (d k : Nat) : Nat := if d < k then k - 1 else k
end Go.Proofs

/-
  What the functions of this part hand back: each as a plain function of its arguments. Conditions: none.
-/
namespace Go.Proofs
open Go.W8
set_option linter.unusedVariables false
set_option linter.unusedSimpArgs false
set_option linter.unusedSectionVars false
set_option maxRecDepth 8000
set_option maxHeartbeats 4000000
def backR (n : Nat) (x o : List Int) (i : Nat) (r : Int) : Value :=
  match bkFind x o i r with
  | some k => .tuple #[.agg (gc ((n : Int) - 1) (oldX x i r n k) (oldX o i r n k)).toArray, .agg #[.int .i64 2, .int .i64 (i : Int), .int .i64 0, .int .i64 ((k % 2 : Nat) : Int), .int .i64 ((k / 2 % 2 : Nat) : Int), .int .i64 ((k / 4 : Nat) : Int)], .bool true]
  | none => .tuple #[.agg (gc 0 z8 z8).toArray, .agg #[.int .i64 0, .int .i64 0, .int .i64 0, .int .i64 0, .int .i64 0, .int .i64 0], .bool false]
def ownM (m : Nat) (x o : List Int) : List Int := if m = 0 then x else o
theorem bytes_set {x : List Int} (hx : Bytes8 x) {i : Nat} {v : Int} (h0 : 0 ≤ v) (h1 : v < 256) : Bytes8 (x.set i v) := by
  refine ⟨by rw [List.length_set]; exact hx.len, fun a ha => ?_, fun a ha => ?_⟩
  · rcases List.mem_or_eq_of_mem_set ha with h | rfl
    · exact hx.lo a h
    · exact h0
  · rcases List.mem_or_eq_of_mem_set ha with h | rfl
    · exact hx.hi a h
    · exact h1

section
variable (n : Nat) (x o : List Int) (hx : Bytes8 x) (ho : Bytes8 o) (hn : n ≤ 8) (px : IsPerm x n) (po : IsPerm o n) (hd : ∀ c, c < n → x.getD c 0 ≠ o.getD c 0) (i : Nat) (hi : i + 1 < n) (r : Int) (hr0 : 0 ≤ r) (hr : r + 1 < n)
include hx ho hn px po hd hi hr0 hr
end

end Go.Proofs

/-
  What the functions of this part hand back: each as a plain function of its arguments. Conditions: none.
-/
namespace Go.Proofs
open Go.W8
set_option linter.unusedVariables false
set_option linter.unusedSimpArgs false
set_option linter.unusedSectionVars false
set_option maxRecDepth 8000
set_option maxHeartbeats 4000000
def isBytes (v : Value) : Prop := ∃ x, v = .agg (ints .u8 x).toArray ∧ Bytes8 x
theorem bytes_z8 : Bytes8 z8 := ⟨rfl, by decide, by decide⟩
section
variable (l : List Int) (cv : Value) (R : Rd) (hin : InB R l cv) (hl : l.length ≤ 4096) (hb : ∀ k, k < l.length → 0 ≤ l.getD k 0 ∧ l.getD k 0 < 256)
include hin hl hb
theorem mixed_c (b : Nat) (hRb : ∀ r ∈ R, r.1 ≠ b) (n : Nat) (n2 : 2 ≤ n) (n8 : n ≤ 8) : Draws Try.prog 201 [.pointer (some ⟨b, 0, none⟩), .int .i64 (n : Int)] b cv R l.length isBytes := by
  refine Draws.of fun t h ho => ?_
  refine GivesX.of (callable_of Try.func201 rfl (by decide)) ?_ fun w hnd hlt hR => ?_
  · simpa using hRb
  refine acall_of (N := 42) (c := _) (rs := [.cell 4 30]) (args := [_, _]) Try.func201 rfl (by decide) rfl rfl (Nat.le_of_ble_eq_true rfl) ?_
  have hR : W8.Told [b] w R := hR
  skip
  refine Cd.rs [0, 1, 4] fun K hK => ?_
  simp (maxSteps := 2000000) (disch := first | (simp only [E4] <;> omega) | omega | fail) only [↓E2, E3, bare, bareJ, ↓E0, E1, evP, evPlan, env0, envN, evOps, evOp, evQs, evQ, evV, setD, pureOp, ev, upd, updL, gate, binW, eqOp, binV, intOp, shOp, boolOp, unV, convV, nilV, fieldAddrV, indexAddrV, extractV, cellAt, cellsAt, findB, setB, fillL, buildV, Value.cells, lenV, minV, maxV, hav, sliceV, loV, hiV, bslQ, mksQ, appQ, partsOk, partsCells, delB, eqL, SameI, strOp, apzQ, cvtQ, capV, ↓reduceIte, Zj, Zk, Nat.reduceAdd, Nat.reduceLT, Nat.reduceEqDiff, Nat.reduceMul, Nat.reduceLeDiff, if_true, Zn, reduceCtorEq, ZA, eq_self, Int.reduceLE, Int.reduceLT, Int.reduceToNat, ne_eq, Nat.reduceSub, Tzero30]
  repeat refine And.intro (by omega) ?_
  intro b1 hb1
  have nb1_b := hb1.ne
  try simp (maxSteps := 2000000) (disch := first | (simp only [E4, nb1_b] <;> omega) | omega | fail) only [↓E2, E3, bare, bareJ, ↓E0, E1, evP, evPlan, env0, envN, evOps, evOp, evQs, evQ, evV, setD, pureOp, ev, upd, updL, gate, binW, eqOp, binV, intOp, shOp, boolOp, unV, convV, nilV, fieldAddrV, indexAddrV, extractV, cellAt, cellsAt, findB, setB, fillL, buildV, Value.cells, lenV, minV, maxV, hav, sliceV, loV, hiV, bslQ, mksQ, appQ, partsOk, partsCells, delB, eqL, SameI, strOp, apzQ, cvtQ, capV, ↓reduceIte, Zj, Zk, Nat.reduceAdd, Nat.reduceLT, Nat.reduceEqDiff, Nat.reduceMul, Nat.reduceLeDiff, if_true, Zn, reduceCtorEq, ZA, eq_self, Int.reduceLE, Int.reduceLT, Int.reduceToNat, ne_eq, Nat.reduceSub, Tzero30, nb1_b]
  repeat refine And.intro (by omega) ?_
  repeat refine And.intro (by omega) ?_
  intro g
  simp only [List.map_cons, List.map_nil, updL, upd, Nat.reduceEqDiff, if_true, if_false, ↓reduceIte]
  refine hK _ _ ?_; clear hK K
  refine Cd.rs [0, 1, 4, 5] fun K hK => ?_
  simp (maxSteps := 2000000) (disch := first | (simp only [E4, nb1_b] <;> omega) | omega | fail) only [↓E2, E3, bare, bareJ, ↓E0, E1, evP, evPlan, env0, envN, evOps, evOp, evQs, evQ, evV, setD, pureOp, ev, upd, updL, gate, binW, eqOp, binV, intOp, shOp, boolOp, unV, convV, nilV, fieldAddrV, indexAddrV, extractV, cellAt, cellsAt, findB, setB, fillL, buildV, Value.cells, lenV, minV, maxV, hav, sliceV, loV, hiV, bslQ, mksQ, appQ, partsOk, partsCells, delB, eqL, SameI, strOp, apzQ, cvtQ, capV, ↓reduceIte, Zj, Zk, Nat.reduceAdd, Nat.reduceLT, Nat.reduceEqDiff, Nat.reduceMul, Nat.reduceLeDiff, if_true, Zn, reduceCtorEq, ZA, eq_self, Int.reduceLE, Int.reduceLT, Int.reduceToNat, ne_eq, Nat.reduceSub, Tbld30, Tst30, Tzero30, nb1_b]
  repeat refine And.intro (by omega) ?_
  intro b2 hb2
  have nb2_b1 := hb2.ne
  have nb2_b := hb2.tail.ne
  try simp (maxSteps := 2000000) (disch := first | (simp only [E4, nb1_b, nb2_b1, nb2_b] <;> omega) | omega | fail) only [↓E2, E3, bare, bareJ, ↓E0, E1, evP, evPlan, env0, envN, evOps, evOp, evQs, evQ, evV, setD, pureOp, ev, upd, updL, gate, binW, eqOp, binV, intOp, shOp, boolOp, unV, convV, nilV, fieldAddrV, indexAddrV, extractV, cellAt, cellsAt, findB, setB, fillL, buildV, Value.cells, lenV, minV, maxV, hav, sliceV, loV, hiV, bslQ, mksQ, appQ, partsOk, partsCells, delB, eqL, SameI, strOp, apzQ, cvtQ, capV, ↓reduceIte, Zj, Zk, Nat.reduceAdd, Nat.reduceLT, Nat.reduceEqDiff, Nat.reduceMul, Nat.reduceLeDiff, if_true, Zn, reduceCtorEq, ZA, eq_self, Int.reduceLE, Int.reduceLT, Int.reduceToNat, ne_eq, Nat.reduceSub, Tbld30, Tst30, Tzero30, nb1_b, nb2_b1, nb2_b]
  repeat refine And.intro (by omega) ?_
  repeat refine And.intro (by omega) ?_
  intro g
  simp only [List.map_cons, List.map_nil, updL, upd, Nat.reduceEqDiff, if_true, if_false, ↓reduceIte]
  refine hK _ _ ?_; clear hK K
  refine Cd.seq ?_
  refine Cd.rs [0, 1, 4, 5, 6] fun K hK => ?_
  simp (maxSteps := 2000000) (disch := first | (simp only [E4, nb1_b, nb2_b1, nb2_b] <;> omega) | omega | fail) only [↓E2, E3, bare, bareJ, ↓E0, E1, evP, evPlan, env0, envN, evOps, evOp, evQs, evQ, evV, setD, pureOp, ev, upd, updL, gate, binW, eqOp, binV, intOp, shOp, boolOp, unV, convV, nilV, fieldAddrV, indexAddrV, extractV, cellAt, cellsAt, findB, setB, fillL, buildV, Value.cells, lenV, minV, maxV, hav, sliceV, loV, hiV, bslQ, mksQ, appQ, partsOk, partsCells, delB, eqL, SameI, strOp, apzQ, cvtQ, capV, ↓reduceIte, Zj, Zk, Nat.reduceAdd, Nat.reduceLT, Nat.reduceEqDiff, Nat.reduceMul, Nat.reduceLeDiff, if_true, Zn, reduceCtorEq, ZA, eq_self, Int.reduceLE, Int.reduceLT, Int.reduceToNat, ne_eq, Nat.reduceSub, nb1_b, nb2_b1, nb2_b]
  repeat refine And.intro (by omega) ?_
  repeat refine And.intro (by omega) ?_
  intro g
  simp only [List.map_cons, List.map_nil, updL, upd, Nat.reduceEqDiff, if_true, if_false, ↓reduceIte]
  refine hK _ _ ?_; clear hK K
  refine Cd.block ?_
  refine Cd.loop (fun q ρ M => ∃ g k x, Bytes8 x ∧ k + q = n ∧ ρ = updL [(0, .pointer (some ⟨b, 0, none⟩)), (1, .int .i64 (n : Int)), (4, .pointer (some ⟨b1, 0, none⟩)), (5, .pointer (some ⟨b2, 0, none⟩)), (6, .int .i64 (k : Int))] g ∧ M = [(b2, ints .u8 x), (b1, ints .u8 z8), (b, srcC cv t h)]) n ⟨_, 0, z8, bytes_z8, Nat.zero_add _, rfl, rfl⟩ ?_
  rintro q ρ M ⟨g, k, x, hx, hk, rfl, rfl⟩
  have xl := hx.len
  skip
  refine Cd.seq ?_
  refine Cd.rs [0, 1, 4, 5, 6, 13] fun K hK => ?_
  simp (maxSteps := 2000000) (disch := first | (simp only [E4, nb1_b, nb2_b1, nb2_b, xl] <;> omega) | omega | fail) only [↓E2, E3, bare, bareJ, ↓E0, E1, evP, evPlan, env0, envN, evOps, evOp, evQs, evQ, evV, setD, pureOp, ev, upd, updL, gate, binW, eqOp, binV, intOp, shOp, boolOp, unV, convV, nilV, fieldAddrV, indexAddrV, extractV, cellAt, cellsAt, findB, setB, fillL, buildV, Value.cells, lenV, minV, maxV, hav, sliceV, loV, hiV, bslQ, mksQ, appQ, partsOk, partsCells, delB, eqL, SameI, strOp, apzQ, cvtQ, capV, ↓reduceIte, Zj, Zk, Nat.reduceAdd, Nat.reduceLT, Nat.reduceEqDiff, Nat.reduceMul, Nat.reduceLeDiff, if_true, Zn, reduceCtorEq, ZA, eq_self, Int.reduceLE, Int.reduceLT, Int.reduceToNat, ne_eq, Nat.reduceSub, nb1_b, nb2_b1, nb2_b, xl]
  repeat refine And.intro (by omega) ?_
  repeat refine And.intro (by omega) ?_
  intro g
  simp only [List.map_cons, List.map_nil, updL, upd, Nat.reduceEqDiff, if_true, if_false, ↓reduceIte]
  refine hK _ _ ?_; clear hK K
  refine Cd.condd rfl (fun c1 => ?_) (fun c1 => ?_)
  · refine Cd.skip ?_
    refine thenN ?_
    refine Cd.seq ?_
    refine Cd.block ?_
    refine Cd.rr [0, 1, 4, 5, 6] fun K hK => ?_
    simp (maxSteps := 2000000) (disch := first | (simp only [E4, nb1_b, nb2_b1, nb2_b, xl] <;> omega) | omega | fail) only [↓E2, E3, bare, bareJ, ↓E0, E1, evP, evPlan, env0, envN, evOps, evOp, evQs, evQ, evV, setD, pureOp, ev, upd, updL, gate, binW, eqOp, binV, intOp, shOp, boolOp, unV, convV, nilV, fieldAddrV, indexAddrV, extractV, cellAt, cellsAt, findB, setB, fillL, buildV, Value.cells, lenV, minV, maxV, hav, sliceV, loV, hiV, bslQ, mksQ, appQ, partsOk, partsCells, delB, eqL, SameI, strOp, apzQ, cvtQ, capV, ↓reduceIte, Zj, Zk, Nat.reduceAdd, Nat.reduceLT, Nat.reduceEqDiff, Nat.reduceMul, Nat.reduceLeDiff, if_true, Zn, reduceCtorEq, ZA, eq_self, Int.reduceLE, Int.reduceLT, Int.reduceToNat, ne_eq, Nat.reduceSub, Tarr30, Tint5, Tpar2, Tst5, nb1_b, nb2_b1, nb2_b, xl]
    repeat refine And.intro (by omega) ?_
    repeat refine And.intro (by omega) ?_
    intro g
    simp only [List.map_cons, List.map_nil, updL, upd, Nat.reduceEqDiff, if_true, if_false, ↓reduceIte]
    refine hK _ _ ?_; clear hK K
    refine inBN ?_
    refine thenN ?_
    refine Cd.rr [0, 1, 4, 5, 6] fun K hK => ?_
    simp (maxSteps := 2000000) (disch := first | (simp only [E4, nb1_b, nb2_b1, nb2_b, xl] <;> omega) | omega | fail) only [↓E2, E3, bare, bareJ, ↓E0, E1, evP, evPlan, env0, envN, evOps, evOp, evQs, evQ, evV, setD, pureOp, ev, upd, updL, gate, binW, eqOp, binV, intOp, shOp, boolOp, unV, convV, nilV, fieldAddrV, indexAddrV, extractV, cellAt, cellsAt, findB, setB, fillL, buildV, Value.cells, lenV, minV, maxV, hav, sliceV, loV, hiV, bslQ, mksQ, appQ, partsOk, partsCells, delB, eqL, SameI, strOp, apzQ, cvtQ, capV, ↓reduceIte, Zj, Zk, Nat.reduceAdd, Nat.reduceLT, Nat.reduceEqDiff, Nat.reduceMul, Nat.reduceLeDiff, if_true, Zn, reduceCtorEq, ZA, eq_self, Int.reduceLE, Int.reduceLT, Int.reduceToNat, ne_eq, Nat.reduceSub, nb1_b, nb2_b1, nb2_b, xl]
    repeat refine And.intro (by omega) ?_
    repeat refine And.intro (by omega) ?_
    intro g
    simp only [List.map_cons, List.map_nil, updL, upd, Nat.reduceEqDiff, if_true, if_false, ↓reduceIte]
    refine hK _ _ ?_; clear hK K
    exact roundN (m := q - 1) (by omega) ⟨_, k + 1, _, bytes_set hx (by omega) (by omega), by omega, rfl, rfl⟩
  · refine Cd.exit (thenX (roundX (inBX ?_)))
    refine thenN ?_
    refine Cd.seq ?_
    refine Cd.rs [0, 4, 5, 7] fun K hK => ?_
    simp (maxSteps := 2000000) (disch := first | (simp only [E4, nb1_b, nb2_b1, nb2_b, xl] <;> omega) | omega | fail) only [↓E2, E3, bare, bareJ, ↓E0, E1, evP, evPlan, env0, envN, evOps, evOp, evQs, evQ, evV, setD, pureOp, ev, upd, updL, gate, binW, eqOp, binV, intOp, shOp, boolOp, unV, convV, nilV, fieldAddrV, indexAddrV, extractV, cellAt, cellsAt, findB, setB, fillL, buildV, Value.cells, lenV, minV, maxV, hav, sliceV, loV, hiV, bslQ, mksQ, appQ, partsOk, partsCells, delB, eqL, SameI, strOp, apzQ, cvtQ, capV, ↓reduceIte, Zj, Zk, Nat.reduceAdd, Nat.reduceLT, Nat.reduceEqDiff, Nat.reduceMul, Nat.reduceLeDiff, if_true, Zn, reduceCtorEq, ZA, eq_self, Int.reduceLE, Int.reduceLT, Int.reduceToNat, ne_eq, Nat.reduceSub, nb1_b, nb2_b1, nb2_b, xl]
    repeat refine And.intro (by omega) ?_
    repeat refine And.intro (by omega) ?_
    intro g
    simp only [List.map_cons, List.map_nil, updL, upd, Nat.reduceEqDiff, if_true, if_false, ↓reduceIte]
    refine hK _ _ ?_; clear hK K
    refine Cd.block ?_
    refine Cd.loop (fun q ρ M => ∃ g i x t h, i = (q : Int) ∧ q ≤ 7 ∧ Bytes8 x ∧ okS l.length t h ∧ ρ = updL [(0, .pointer (some ⟨b, 0, none⟩)), (4, .pointer (some ⟨b1, 0, none⟩)), (5, .pointer (some ⟨b2, 0, none⟩)), (7, .int .i64 i)] g ∧ M = [(b2, ints .u8 x), (b1, ints .u8 z8), (b, srcC cv t h)]) (n - 1) ⟨_, _, x, t, h, by omega, by omega, hx, ho, rfl, rfl⟩ ?_
    rintro q ρ M ⟨g, i, x, t, h, rfl, hq7, hx, ho, rfl, rfl⟩
    have xl := hx.len
    skip
    refine Cd.seq ?_
    refine Cd.rs [0, 4, 5, 7, 23] fun K hK => ?_
    simp (maxSteps := 2000000) (disch := first | (simp only [E4, nb1_b, nb2_b1, nb2_b, xl] <;> omega) | omega | fail) only [↓E2, E3, bare, bareJ, ↓E0, E1, evP, evPlan, env0, envN, evOps, evOp, evQs, evQ, evV, setD, pureOp, ev, upd, updL, gate, binW, eqOp, binV, intOp, shOp, boolOp, unV, convV, nilV, fieldAddrV, indexAddrV, extractV, cellAt, cellsAt, findB, setB, fillL, buildV, Value.cells, lenV, minV, maxV, hav, sliceV, loV, hiV, bslQ, mksQ, appQ, partsOk, partsCells, delB, eqL, SameI, strOp, apzQ, cvtQ, capV, ↓reduceIte, Zj, Zk, Nat.reduceAdd, Nat.reduceLT, Nat.reduceEqDiff, Nat.reduceMul, Nat.reduceLeDiff, if_true, Zn, reduceCtorEq, ZA, eq_self, Int.reduceLE, Int.reduceLT, Int.reduceToNat, ne_eq, Nat.reduceSub, nb1_b, nb2_b1, nb2_b, xl]
    repeat refine And.intro (by omega) ?_
    repeat refine And.intro (by omega) ?_
    intro g
    simp only [List.map_cons, List.map_nil, updL, upd, Nat.reduceEqDiff, if_true, if_false, ↓reduceIte]
    refine hK _ _ ?_; clear hK K
    refine Cd.condd rfl (fun c2 => ?_) (fun c2 => ?_)
    · refine Cd.skip ?_
      refine thenN ?_
      refine Cd.seq ?_
      refine Cd.block ?_
      refine Cd.rs [0, 4, 5, 7, 8] fun K hK => ?_
      simp (maxSteps := 2000000) (disch := first | (simp only [E4, nb1_b, nb2_b1, nb2_b, xl] <;> omega) | omega | fail) only [↓E2, E3, bare, bareJ, ↓E0, E1, evP, evPlan, env0, envN, evOps, evOp, evQs, evQ, evV, setD, pureOp, ev, upd, updL, gate, binW, eqOp, binV, intOp, shOp, boolOp, unV, convV, nilV, fieldAddrV, indexAddrV, extractV, cellAt, cellsAt, findB, setB, fillL, buildV, Value.cells, lenV, minV, maxV, hav, sliceV, loV, hiV, bslQ, mksQ, appQ, partsOk, partsCells, delB, eqL, SameI, strOp, apzQ, cvtQ, capV, ↓reduceIte, Zj, Zk, Nat.reduceAdd, Nat.reduceLT, Nat.reduceEqDiff, Nat.reduceMul, Nat.reduceLeDiff, if_true, Zn, reduceCtorEq, ZA, eq_self, Int.reduceLE, Int.reduceLT, Int.reduceToNat, ne_eq, Nat.reduceSub, nb1_b, nb2_b1, nb2_b, xl]
      repeat refine And.intro (by omega) ?_
      refine callK_draw (next_c l cv R hin hl hb b hRb ((q : Int) + 1) ⟨by omega, by omega⟩) ho (by simp only [findB, nb1_b, nb2_b, if_true, if_false]) (Told.toldW hR) ?_
      rintro v t2 h2 ho2 ⟨y, rfl, y0, y1⟩
      obtain ⟨y', rfl⟩ : ∃ y' : Nat, y = (y' : Int) := ⟨y.toNat, by omega⟩
      have hy7 : y' ≤ 7 := by omega
      simp (maxSteps := 2000000) (disch := first | (simp only [E4, nb1_b, nb2_b1, nb2_b, xl] <;> omega) | omega | fail) only [↓E2, E3, bare, bareJ, ↓E0, E1, evP, evPlan, env0, envN, evOps, evOp, evQs, evQ, evV, setD, pureOp, ev, upd, updL, gate, binW, eqOp, binV, intOp, shOp, boolOp, unV, convV, nilV, fieldAddrV, indexAddrV, extractV, cellAt, cellsAt, findB, setB, fillL, buildV, Value.cells, lenV, minV, maxV, hav, sliceV, loV, hiV, bslQ, mksQ, appQ, partsOk, partsCells, delB, eqL, SameI, strOp, apzQ, cvtQ, capV, ↓reduceIte, Zj, Zk, Nat.reduceAdd, Nat.reduceLT, Nat.reduceEqDiff, Nat.reduceMul, Nat.reduceLeDiff, if_true, Zn, reduceCtorEq, ZA, eq_self, Int.reduceLE, Int.reduceLT, Int.reduceToNat, ne_eq, Nat.reduceSub, nb1_b, nb2_b1, nb2_b, xl]
      repeat refine And.intro (by omega) ?_
      repeat refine And.intro (by omega) ?_
      intro g
      simp only [List.map_cons, List.map_nil, updL, upd, Nat.reduceEqDiff, if_true, if_false, ↓reduceIte]
      refine hK _ _ ?_; clear hK K
      refine Cd.rs [0, 4, 5, 7, 8, 9] fun K hK => ?_
      simp (maxSteps := 2000000) (disch := first | (simp only [E4, nb1_b, nb2_b1, nb2_b, xl] <;> omega) | omega | fail) only [↓E2, E3, bare, bareJ, ↓E0, E1, evP, evPlan, env0, envN, evOps, evOp, evQs, evQ, evV, setD, pureOp, ev, upd, updL, gate, binW, eqOp, binV, intOp, shOp, boolOp, unV, convV, nilV, fieldAddrV, indexAddrV, extractV, cellAt, cellsAt, findB, setB, fillL, buildV, Value.cells, lenV, minV, maxV, hav, sliceV, loV, hiV, bslQ, mksQ, appQ, partsOk, partsCells, delB, eqL, SameI, strOp, apzQ, cvtQ, capV, ↓reduceIte, Zj, Zk, Nat.reduceAdd, Nat.reduceLT, Nat.reduceEqDiff, Nat.reduceMul, Nat.reduceLeDiff, if_true, Zn, reduceCtorEq, ZA, eq_self, Int.reduceLE, Int.reduceLT, Int.reduceToNat, ne_eq, Nat.reduceSub, Tarr30, Tld5, nb1_b, nb2_b1, nb2_b, xl]
      repeat refine And.intro (by omega) ?_
      repeat refine And.intro (by omega) ?_
      intro g
      simp only [List.map_cons, List.map_nil, updL, upd, Nat.reduceEqDiff, if_true, if_false, ↓reduceIte]
      refine hK _ _ ?_; clear hK K
      refine Cd.rs [0, 4, 5, 7, 8, 9] fun K hK => ?_
      simp (maxSteps := 2000000) (disch := first | (simp only [E4, nb1_b, nb2_b1, nb2_b, xl] <;> omega) | omega | fail) only [↓E2, E3, bare, bareJ, ↓E0, E1, evP, evPlan, env0, envN, evOps, evOp, evQs, evQ, evV, setD, pureOp, ev, upd, updL, gate, binW, eqOp, binV, intOp, shOp, boolOp, unV, convV, nilV, fieldAddrV, indexAddrV, extractV, cellAt, cellsAt, findB, setB, fillL, buildV, Value.cells, lenV, minV, maxV, hav, sliceV, loV, hiV, bslQ, mksQ, appQ, partsOk, partsCells, delB, eqL, SameI, strOp, apzQ, cvtQ, capV, ↓reduceIte, Zj, Zk, Nat.reduceAdd, Nat.reduceLT, Nat.reduceEqDiff, Nat.reduceMul, Nat.reduceLeDiff, if_true, Zn, reduceCtorEq, ZA, eq_self, Int.reduceLE, Int.reduceLT, Int.reduceToNat, ne_eq, Nat.reduceSub, Tarr30, Tld5, Tst5, nb1_b, nb2_b1, nb2_b, xl]
      repeat refine And.intro (by omega) ?_
      repeat refine And.intro (by omega) ?_
      intro g
      simp only [List.map_cons, List.map_nil, updL, upd, Nat.reduceEqDiff, if_true, if_false, ↓reduceIte]
      refine hK _ _ ?_; clear hK K
      refine Cd.rr [0, 4, 5, 7] fun K hK => ?_
      simp (maxSteps := 2000000) (disch := first | (simp only [E4, nb1_b, nb2_b1, nb2_b, xl] <;> omega) | omega | fail) only [↓E2, E3, bare, bareJ, ↓E0, E1, evP, evPlan, env0, envN, evOps, evOp, evQs, evQ, evV, setD, pureOp, ev, upd, updL, gate, binW, eqOp, binV, intOp, shOp, boolOp, unV, convV, nilV, fieldAddrV, indexAddrV, extractV, cellAt, cellsAt, findB, setB, fillL, buildV, Value.cells, lenV, minV, maxV, hav, sliceV, loV, hiV, bslQ, mksQ, appQ, partsOk, partsCells, delB, eqL, SameI, strOp, apzQ, cvtQ, capV, ↓reduceIte, Zj, Zk, Nat.reduceAdd, Nat.reduceLT, Nat.reduceEqDiff, Nat.reduceMul, Nat.reduceLeDiff, if_true, Zn, reduceCtorEq, ZA, eq_self, Int.reduceLE, Int.reduceLT, Int.reduceToNat, ne_eq, Nat.reduceSub, Tarr30, Tst5, nb1_b, nb2_b1, nb2_b, xl]
      repeat refine And.intro (by omega) ?_
      repeat refine And.intro (by omega) ?_
      intro g
      simp only [List.map_cons, List.map_nil, updL, upd, Nat.reduceEqDiff, if_true, if_false, ↓reduceIte]
      refine hK _ _ ?_; clear hK K
      refine inBN ?_
      refine thenN ?_
      refine Cd.rr [0, 4, 5, 7] fun K hK => ?_
      simp (maxSteps := 2000000) (disch := first | (simp only [E4, nb1_b, nb2_b1, nb2_b, xl] <;> omega) | omega | fail) only [↓E2, E3, bare, bareJ, ↓E0, E1, evP, evPlan, env0, envN, evOps, evOp, evQs, evQ, evV, setD, pureOp, ev, upd, updL, gate, binW, eqOp, binV, intOp, shOp, boolOp, unV, convV, nilV, fieldAddrV, indexAddrV, extractV, cellAt, cellsAt, findB, setB, fillL, buildV, Value.cells, lenV, minV, maxV, hav, sliceV, loV, hiV, bslQ, mksQ, appQ, partsOk, partsCells, delB, eqL, SameI, strOp, apzQ, cvtQ, capV, ↓reduceIte, Zj, Zk, Nat.reduceAdd, Nat.reduceLT, Nat.reduceEqDiff, Nat.reduceMul, Nat.reduceLeDiff, if_true, Zn, reduceCtorEq, ZA, eq_self, Int.reduceLE, Int.reduceLT, Int.reduceToNat, ne_eq, Nat.reduceSub, nb1_b, nb2_b1, nb2_b, xl]
      repeat refine And.intro (by omega) ?_
      repeat refine And.intro (by omega) ?_
      intro g
      simp only [List.map_cons, List.map_nil, updL, upd, Nat.reduceEqDiff, if_true, if_false, ↓reduceIte]
      refine hK _ _ ?_; clear hK K
      have e1 := bytes_get hx (i := q) (by omega)
      have e2 := bytes_get hx (i := y') (by omega)
      exact roundN (m := q - 1) (by omega) ⟨_, _, _, t2, h2, by omega, by omega, bytes_set (bytes_set hx e2.1 e2.2) e1.1 e1.2, ho2, rfl, rfl⟩
    · refine Cd.exit (thenX (roundX (inBX ?_)))
      refine thenN ?_
      refine Cd.rs [4] fun K hK => ?_
      simp (maxSteps := 2000000) (disch := first | (simp only [E4, nb1_b, nb2_b1, nb2_b, xl] <;> omega) | omega | fail) only [↓E2, E3, bare, bareJ, ↓E0, E1, evP, evPlan, env0, envN, evOps, evOp, evQs, evQ, evV, setD, pureOp, ev, upd, updL, gate, binW, eqOp, binV, intOp, shOp, boolOp, unV, convV, nilV, fieldAddrV, indexAddrV, extractV, cellAt, cellsAt, findB, setB, fillL, buildV, Value.cells, lenV, minV, maxV, hav, sliceV, loV, hiV, bslQ, mksQ, appQ, partsOk, partsCells, delB, eqL, SameI, strOp, apzQ, cvtQ, capV, ↓reduceIte, Zj, Zk, Nat.reduceAdd, Nat.reduceLT, Nat.reduceEqDiff, Nat.reduceMul, Nat.reduceLeDiff, if_true, Zn, reduceCtorEq, ZA, eq_self, Int.reduceLE, Int.reduceLT, Int.reduceToNat, ne_eq, Nat.reduceSub, Tld30, Tst30, nb1_b, nb2_b1, nb2_b, xl]
      repeat refine And.intro (by omega) ?_
      repeat refine And.intro (by omega) ?_
      intro g
      simp only [List.map_cons, List.map_nil, updL, upd, Nat.reduceEqDiff, if_true, if_false, ↓reduceIte]
      refine hK _ _ ?_; clear hK K
      refine Cd.ret ?_
      simp (maxSteps := 2000000) (disch := first | (simp only [E4, nb1_b, nb2_b1, nb2_b, xl] <;> omega) | omega | fail) only [↓E2, E3, bare, bareJ, ↓E0, E1, evP, evPlan, env0, envN, evOps, evOp, evQs, evQ, evV, setD, pureOp, ev, upd, updL, gate, binW, eqOp, binV, intOp, shOp, boolOp, unV, convV, nilV, fieldAddrV, indexAddrV, extractV, cellAt, cellsAt, findB, setB, fillL, buildV, Value.cells, lenV, minV, maxV, hav, sliceV, loV, hiV, bslQ, mksQ, appQ, partsOk, partsCells, delB, eqL, SameI, strOp, apzQ, cvtQ, capV, ↓reduceIte, Zj, Zk, Nat.reduceAdd, Nat.reduceLT, Nat.reduceEqDiff, Nat.reduceMul, Nat.reduceLeDiff, if_true, Zn, reduceCtorEq, ZA, eq_self, Int.reduceLE, Int.reduceLT, Int.reduceToNat, ne_eq, Nat.reduceSub, Tld30, nb1_b, nb2_b1, nb2_b, xl]
      repeat refine And.intro (by omega) ?_
      exact ⟨t, h, ho, ⟨x, rfl, hx⟩, SubP.of (List.Sublist.cons _ (List.Sublist.cons _ (List.Sublist.refl _)))⟩
end

end Go.Proofs

/-
  What the functions of this part hand back: each as a plain function of its arguments. Conditions: none.
-/
namespace Go.Proofs
open Go.W8
set_option linter.unusedVariables false
set_option linter.unusedSimpArgs false
set_option linter.unusedSectionVars false
set_option maxRecDepth 8000
set_option maxHeartbeats 4000000
section
variable (l : List Int) (cv : Value) (R : Rd) (hin : InB R l cv) (hl : l.length ≤ 4096) (hb : ∀ k, k < l.length → 0 ≤ l.getD k 0 ∧ l.getD k 0 < 256)
include hin hl hb
theorem drawsize_c (b : Nat) (hRb : ∀ r ∈ R, r.1 ≠ b) (n : Nat) (n2 : 2 ≤ n) (n8 : n ≤ 8) : Draws Try.prog 195 [.pointer (some ⟨b, 0, none⟩), .int .i64 (n : Int)] b cv R l.length isGrid := by
  refine Draws.of fun t h ho => ?_
  refine GivesX.of (callable_of Try.func195 rfl (by decide)) ?_ fun w hnd hlt hR => ?_
  · simpa using hRb
  refine acall_of (N := 74) (c := _) (rs := [.cell 4 32]) (args := [_, _]) Try.func195 rfl (by decide) rfl rfl (Nat.le_of_ble_eq_true rfl) ?_
  have hR : W8.Told [b] w R := hR
  have hmx := mixed_c l cv R hin hl hb b hRb n n2 n8
  skip
  refine Cd.rs [0, 1, 4] fun K hK => ?_
  simp (maxSteps := 2000000) (disch := first | (simp only [E4] <;> omega) | omega | fail) only [↓E2, E3, bare, bareJ, ↓E0, E1, evP, evPlan, env0, envN, evOps, evOp, evQs, evQ, evV, setD, pureOp, ev, upd, updL, gate, binW, eqOp, binV, intOp, shOp, boolOp, unV, convV, nilV, fieldAddrV, indexAddrV, extractV, cellAt, cellsAt, findB, setB, fillL, buildV, Value.cells, lenV, minV, maxV, hav, sliceV, loV, hiV, bslQ, mksQ, appQ, partsOk, partsCells, delB, eqL, SameI, strOp, apzQ, cvtQ, capV, ↓reduceIte, Zj, Zk, Nat.reduceAdd, Nat.reduceLT, Nat.reduceEqDiff, Nat.reduceMul, Nat.reduceLeDiff, if_true, Zn, reduceCtorEq, ZA, eq_self, Int.reduceLE, Int.reduceLT, Int.reduceToNat, ne_eq, Nat.reduceSub, Tzero32]
  repeat refine And.intro (by omega) ?_
  intro b1 hb1
  have nb1_b := hb1.ne
  try simp (maxSteps := 2000000) (disch := first | (simp only [E4, nb1_b] <;> omega) | omega | fail) only [↓E2, E3, bare, bareJ, ↓E0, E1, evP, evPlan, env0, envN, evOps, evOp, evQs, evQ, evV, setD, pureOp, ev, upd, updL, gate, binW, eqOp, binV, intOp, shOp, boolOp, unV, convV, nilV, fieldAddrV, indexAddrV, extractV, cellAt, cellsAt, findB, setB, fillL, buildV, Value.cells, lenV, minV, maxV, hav, sliceV, loV, hiV, bslQ, mksQ, appQ, partsOk, partsCells, delB, eqL, SameI, strOp, apzQ, cvtQ, capV, ↓reduceIte, Zj, Zk, Nat.reduceAdd, Nat.reduceLT, Nat.reduceEqDiff, Nat.reduceMul, Nat.reduceLeDiff, if_true, Zn, reduceCtorEq, ZA, eq_self, Int.reduceLE, Int.reduceLT, Int.reduceToNat, ne_eq, Nat.reduceSub, Tzero32, nb1_b]
  repeat refine And.intro (by omega) ?_
  repeat refine And.intro (by omega) ?_
  intro g
  simp only [List.map_cons, List.map_nil, updL, upd, Nat.reduceEqDiff, if_true, if_false, ↓reduceIte]
  refine hK _ _ ?_; clear hK K
  refine Cd.rs [1, 4, 5, 6] fun K hK => ?_
  simp (maxSteps := 2000000) (disch := first | (simp only [E4, nb1_b] <;> omega) | omega | fail) only [↓E2, E3, bare, bareJ, ↓E0, E1, evP, evPlan, env0, envN, evOps, evOp, evQs, evQ, evV, setD, pureOp, ev, upd, updL, gate, binW, eqOp, binV, intOp, shOp, boolOp, unV, convV, nilV, fieldAddrV, indexAddrV, extractV, cellAt, cellsAt, findB, setB, fillL, buildV, Value.cells, lenV, minV, maxV, hav, sliceV, loV, hiV, bslQ, mksQ, appQ, partsOk, partsCells, delB, eqL, SameI, strOp, apzQ, cvtQ, capV, ↓reduceIte, Zj, Zk, Nat.reduceAdd, Nat.reduceLT, Nat.reduceEqDiff, Nat.reduceMul, Nat.reduceLeDiff, if_true, Zn, reduceCtorEq, ZA, eq_self, Int.reduceLE, Int.reduceLT, Int.reduceToNat, ne_eq, Nat.reduceSub, Tst30, Tzero30, nb1_b]
  repeat refine And.intro (by omega) ?_
  refine callK_draw hmx ho (by simp only [findB, nb1_b, if_true, if_false]) (Told.toldW hR) ?_
  rintro v t2 h2 ho2 ⟨x, rfl, hx⟩
  simp (maxSteps := 2000000) (disch := first | (simp only [E4, nb1_b] <;> omega) | omega | fail) only [↓E2, E3, bare, bareJ, ↓E0, E1, evP, evPlan, env0, envN, evOps, evOp, evQs, evQ, evV, setD, pureOp, ev, upd, updL, gate, binW, eqOp, binV, intOp, shOp, boolOp, unV, convV, nilV, fieldAddrV, indexAddrV, extractV, cellAt, cellsAt, findB, setB, fillL, buildV, Value.cells, lenV, minV, maxV, hav, sliceV, loV, hiV, bslQ, mksQ, appQ, partsOk, partsCells, delB, eqL, SameI, strOp, apzQ, cvtQ, capV, ↓reduceIte, Zj, Zk, Nat.reduceAdd, Nat.reduceLT, Nat.reduceEqDiff, Nat.reduceMul, Nat.reduceLeDiff, if_true, Zn, reduceCtorEq, ZA, eq_self, Int.reduceLE, Int.reduceLT, Int.reduceToNat, ne_eq, Nat.reduceSub, Tst30, Tzero30, nb1_b]
  repeat refine And.intro (by omega) ?_
  refine callK_draw hmx ho2 (by simp only [findB, nb1_b, if_true, if_false]) (Told.toldW hR) ?_
  rintro v t3 h3 ho3 ⟨o, rfl, hy⟩
  have xl := hx.len
  have ol := hy.len
  skip
  simp (maxSteps := 2000000) (disch := first | (simp only [E4, nb1_b, xl, ol] <;> omega) | omega | fail) only [↓E2, E3, bare, bareJ, ↓E0, E1, evP, evPlan, env0, envN, evOps, evOp, evQs, evQ, evV, setD, pureOp, ev, upd, updL, gate, binW, eqOp, binV, intOp, shOp, boolOp, unV, convV, nilV, fieldAddrV, indexAddrV, extractV, cellAt, cellsAt, findB, setB, fillL, buildV, Value.cells, lenV, minV, maxV, hav, sliceV, loV, hiV, bslQ, mksQ, appQ, partsOk, partsCells, delB, eqL, SameI, strOp, apzQ, cvtQ, capV, ↓reduceIte, Zj, Zk, Nat.reduceAdd, Nat.reduceLT, Nat.reduceEqDiff, Nat.reduceMul, Nat.reduceLeDiff, if_true, Zn, reduceCtorEq, ZA, eq_self, Int.reduceLE, Int.reduceLT, Int.reduceToNat, ne_eq, Nat.reduceSub, Tst30, Tzero30, nb1_b, xl, ol]
  repeat refine And.intro (by omega) ?_
  intro b2 hb2
  have nb2_b1 := hb2.ne
  have nb2_b := hb2.tail.ne
  intro b3 hb3
  have nb3_b2 := hb3.ne
  have nb3_b1 := hb3.tail.ne
  have nb3_b := hb3.tail.tail.ne
  try simp (maxSteps := 2000000) (disch := first | (simp only [E4, nb1_b, xl, ol, nb2_b1, nb2_b, nb3_b2, nb3_b1, nb3_b] <;> omega) | omega | fail) only [↓E2, E3, bare, bareJ, ↓E0, E1, evP, evPlan, env0, envN, evOps, evOp, evQs, evQ, evV, setD, pureOp, ev, upd, updL, gate, binW, eqOp, binV, intOp, shOp, boolOp, unV, convV, nilV, fieldAddrV, indexAddrV, extractV, cellAt, cellsAt, findB, setB, fillL, buildV, Value.cells, lenV, minV, maxV, hav, sliceV, loV, hiV, bslQ, mksQ, appQ, partsOk, partsCells, delB, eqL, SameI, strOp, apzQ, cvtQ, capV, ↓reduceIte, Zj, Zk, Nat.reduceAdd, Nat.reduceLT, Nat.reduceEqDiff, Nat.reduceMul, Nat.reduceLeDiff, if_true, Zn, reduceCtorEq, ZA, eq_self, Int.reduceLE, Int.reduceLT, Int.reduceToNat, ne_eq, Nat.reduceSub, Tst30, Tzero30, nb1_b, xl, ol, nb2_b1, nb2_b, nb3_b2, nb3_b1, nb3_b]
  repeat refine And.intro (by omega) ?_
  repeat refine And.intro (by omega) ?_
  intro g
  simp only [List.map_cons, List.map_nil, updL, upd, Nat.reduceEqDiff, if_true, if_false, ↓reduceIte]
  refine hK _ _ ?_; clear hK K
  clear ho ho2 hmx
  refine Cd.seq ?_
  refine Cd.rs [1, 4, 5, 6, 7] fun K hK => ?_
  simp (maxSteps := 2000000) (disch := first | (simp only [E4, nb1_b, xl, ol, nb2_b1, nb2_b, nb3_b2, nb3_b1, nb3_b] <;> omega) | omega | fail) only [↓E2, E3, bare, bareJ, ↓E0, E1, evP, evPlan, env0, envN, evOps, evOp, evQs, evQ, evV, setD, pureOp, ev, upd, updL, gate, binW, eqOp, binV, intOp, shOp, boolOp, unV, convV, nilV, fieldAddrV, indexAddrV, extractV, cellAt, cellsAt, findB, setB, fillL, buildV, Value.cells, lenV, minV, maxV, hav, sliceV, loV, hiV, bslQ, mksQ, appQ, partsOk, partsCells, delB, eqL, SameI, strOp, apzQ, cvtQ, capV, ↓reduceIte, Zj, Zk, Nat.reduceAdd, Nat.reduceLT, Nat.reduceEqDiff, Nat.reduceMul, Nat.reduceLeDiff, if_true, Zn, reduceCtorEq, ZA, eq_self, Int.reduceLE, Int.reduceLT, Int.reduceToNat, ne_eq, Nat.reduceSub, nb1_b, xl, ol, nb2_b1, nb2_b, nb3_b2, nb3_b1, nb3_b]
  repeat refine And.intro (by omega) ?_
  repeat refine And.intro (by omega) ?_
  intro g
  simp only [List.map_cons, List.map_nil, updL, upd, Nat.reduceEqDiff, if_true, if_false, ↓reduceIte]
  refine hK _ _ ?_; clear hK K
  refine Cd.block ?_
  refine Cd.loop (fun q ρ M => ∃ g k o t h, Bytes8 o ∧ okS l.length t h ∧ k + q = 3 * n ∧ ρ = updL [(1, .int .i64 (n : Int)), (4, .pointer (some ⟨b1, 0, none⟩)), (5, .pointer (some ⟨b2, 0, none⟩)), (6, .pointer (some ⟨b3, 0, none⟩)), (7, .int .i64 (k : Int))] g ∧ M = [(b3, ints .u8 o), (b2, ints .u8 x), (b1, gc 0 z8 z8), (b, srcC cv t h)]) (3 * n) ⟨_, 0, o, t3, h3, hy, ho3, Nat.zero_add _, rfl, rfl⟩ ?_
  clear hy ho3 ol
  rintro q ρ M ⟨g, k, o, t, h, hy, ho, hk, rfl, rfl⟩
  have ol := hy.len
  skip
  refine Cd.seq ?_
  refine Cd.rs [1, 4, 5, 6, 7, 22] fun K hK => ?_
  simp (maxSteps := 2000000) (disch := first | (simp only [E4, nb1_b, xl, ol, nb2_b1, nb2_b, nb3_b2, nb3_b1, nb3_b] <;> omega) | omega | fail) only [↓E2, E3, bare, bareJ, ↓E0, E1, evP, evPlan, env0, envN, evOps, evOp, evQs, evQ, evV, setD, pureOp, ev, upd, updL, gate, binW, eqOp, binV, intOp, shOp, boolOp, unV, convV, nilV, fieldAddrV, indexAddrV, extractV, cellAt, cellsAt, findB, setB, fillL, buildV, Value.cells, lenV, minV, maxV, hav, sliceV, loV, hiV, bslQ, mksQ, appQ, partsOk, partsCells, delB, eqL, SameI, strOp, apzQ, cvtQ, capV, ↓reduceIte, Zj, Zk, Nat.reduceAdd, Nat.reduceLT, Nat.reduceEqDiff, Nat.reduceMul, Nat.reduceLeDiff, if_true, Zn, reduceCtorEq, ZA, eq_self, Int.reduceLE, Int.reduceLT, Int.reduceToNat, ne_eq, Nat.reduceSub, nb1_b, xl, ol, nb2_b1, nb2_b, nb3_b2, nb3_b1, nb3_b]
  repeat refine And.intro (by omega) ?_
  repeat refine And.intro (by omega) ?_
  intro g
  simp only [List.map_cons, List.map_nil, updL, upd, Nat.reduceEqDiff, if_true, if_false, ↓reduceIte]
  refine hK _ _ ?_; clear hK K
  refine Cd.condd rfl (fun c1 => ?_) (fun c1 => ?_)
  · refine Cd.skip ?_
    refine thenN ?_
    refine Cd.midq (fun ρ M => ∃ g o, Bytes8 o ∧ ρ = updL [(1, .int .i64 (n : Int)), (4, .pointer (some ⟨b1, 0, none⟩)), (5, .pointer (some ⟨b2, 0, none⟩)), (6, .pointer (some ⟨b3, 0, none⟩)), (7, .int .i64 (k : Int))] g ∧ M = [(b3, ints .u8 o), (b2, ints .u8 x), (b1, gc 0 z8 z8), (b, srcC cv t h)]) ?_ ?_
    · refine Cd.block ?_
      refine Cd.rs [1, 4, 5, 6, 7, 8] fun K hK => ?_
      simp (maxSteps := 2000000) (disch := first | (simp only [E4, nb1_b, xl, ol, nb2_b1, nb2_b, nb3_b2, nb3_b1, nb3_b] <;> omega) | omega | fail) only [↓E2, E3, bare, bareJ, ↓E0, E1, evP, evPlan, env0, envN, evOps, evOp, evQs, evQ, evV, setD, pureOp, ev, upd, updL, gate, binW, eqOp, binV, intOp, shOp, boolOp, unV, convV, nilV, fieldAddrV, indexAddrV, extractV, cellAt, cellsAt, findB, setB, fillL, buildV, Value.cells, lenV, minV, maxV, hav, sliceV, loV, hiV, bslQ, mksQ, appQ, partsOk, partsCells, delB, eqL, SameI, strOp, apzQ, cvtQ, capV, ↓reduceIte, Zj, Zk, Nat.reduceAdd, Nat.reduceLT, Nat.reduceEqDiff, Nat.reduceMul, Nat.reduceLeDiff, if_true, Zn, reduceCtorEq, ZA, eq_self, Int.reduceLE, Int.reduceLT, Int.reduceToNat, ne_eq, Nat.reduceSub, nb1_b, xl, ol, nb2_b1, nb2_b, nb3_b2, nb3_b1, nb3_b]
      repeat refine And.intro (by omega) ?_
      repeat refine And.intro (by omega) ?_
      intro g
      simp only [List.map_cons, List.map_nil, updL, upd, Nat.reduceEqDiff, if_true, if_false, ↓reduceIte]
      refine hK _ _ ?_; clear hK K
      obtain ⟨i, ei, hi⟩ : ∃ i : Nat, ((k : Int) % (n : Int)) = (i : Int) ∧ i < n := ⟨k % n, rfl, Nat.mod_lt _ (by omega)⟩
      rw [ei]
      clear ei
      refine Cd.qs [1, 4, 5, 6, 7, 8, 34] fol (by kernel_rfl) fun K hK => ?_
      simp (maxSteps := 2000000) (disch := first | (simp only [E4, nb1_b, xl, ol, nb2_b1, nb2_b, nb3_b2, nb3_b1, nb3_b] <;> omega) | omega | fail) only [↓E2, E3, bare, bareJ, ↓E0, E1, evP, evPlan, env0, envN, evOps, evOp, evQs, evQ, evV, setD, pureOp, ev, upd, updL, gate, binW, eqOp, binV, intOp, shOp, boolOp, unV, convV, nilV, fieldAddrV, indexAddrV, extractV, cellAt, cellsAt, findB, setB, fillL, buildV, Value.cells, lenV, minV, maxV, hav, sliceV, loV, hiV, bslQ, mksQ, appQ, partsOk, partsCells, delB, eqL, SameI, strOp, apzQ, cvtQ, capV, ↓reduceIte, Zj, Zk, Nat.reduceAdd, Nat.reduceLT, Nat.reduceEqDiff, Nat.reduceMul, Nat.reduceLeDiff, if_true, Zn, reduceCtorEq, ZA, eq_self, Int.reduceLE, Int.reduceLT, Int.reduceToNat, ne_eq, Nat.reduceSub, Tarr30, Tld5, nb1_b, xl, ol, nb2_b1, nb2_b, nb3_b2, nb3_b1, nb3_b]
      repeat refine And.intro (by omega) ?_
      repeat refine And.intro (by omega) ?_
      intro g
      simp only [List.map_cons, List.map_nil, updL, upd, Nat.reduceEqDiff, if_true, if_false, ↓reduceIte]
      refine hK _ ?_; clear hK K
      refine Cd.cond rfl (fun c2 => ?_) (fun c2 => ?_)
      · refine Cd.rs [1, 4, 5, 6, 7, 8, 9] fun K hK => ?_
        simp (maxSteps := 2000000) (disch := first | (simp only [E4, nb1_b, xl, ol, nb2_b1, nb2_b, nb3_b2, nb3_b1, nb3_b] <;> omega) | omega | fail) only [↓E2, E3, bare, bareJ, ↓E0, E1, evP, evPlan, env0, envN, evOps, evOp, evQs, evQ, evV, setD, pureOp, ev, upd, updL, gate, binW, eqOp, binV, intOp, shOp, boolOp, unV, convV, nilV, fieldAddrV, indexAddrV, extractV, cellAt, cellsAt, findB, setB, fillL, buildV, Value.cells, lenV, minV, maxV, hav, sliceV, loV, hiV, bslQ, mksQ, appQ, partsOk, partsCells, delB, eqL, SameI, strOp, apzQ, cvtQ, capV, ↓reduceIte, Zj, Zk, Nat.reduceAdd, Nat.reduceLT, Nat.reduceEqDiff, Nat.reduceMul, Nat.reduceLeDiff, if_true, Zn, reduceCtorEq, ZA, eq_self, Int.reduceLE, Int.reduceLT, Int.reduceToNat, ne_eq, Nat.reduceSub, nb1_b, xl, ol, nb2_b1, nb2_b, nb3_b2, nb3_b1, nb3_b]
        repeat refine And.intro (by omega) ?_
        repeat refine And.intro (by omega) ?_
        intro g
        simp only [List.map_cons, List.map_nil, updL, upd, Nat.reduceEqDiff, if_true, if_false, ↓reduceIte]
        refine hK _ _ ?_; clear hK K
        obtain ⟨j, ej, hj⟩ : ∃ j : Nat, (((i : Int) + 1) % (n : Int)) = (j : Int) ∧ j < n := ⟨(i + 1) % n, rfl, Nat.mod_lt _ (by omega)⟩
        rw [ej]
        clear ej
        refine Cd.rs [1, 4, 5, 6, 7, 8, 9, 10] fun K hK => ?_
        simp (maxSteps := 2000000) (disch := first | (simp only [E4, nb1_b, xl, ol, nb2_b1, nb2_b, nb3_b2, nb3_b1, nb3_b] <;> omega) | omega | fail) only [↓E2, E3, bare, bareJ, ↓E0, E1, evP, evPlan, env0, envN, evOps, evOp, evQs, evQ, evV, setD, pureOp, ev, upd, updL, gate, binW, eqOp, binV, intOp, shOp, boolOp, unV, convV, nilV, fieldAddrV, indexAddrV, extractV, cellAt, cellsAt, findB, setB, fillL, buildV, Value.cells, lenV, minV, maxV, hav, sliceV, loV, hiV, bslQ, mksQ, appQ, partsOk, partsCells, delB, eqL, SameI, strOp, apzQ, cvtQ, capV, ↓reduceIte, Zj, Zk, Nat.reduceAdd, Nat.reduceLT, Nat.reduceEqDiff, Nat.reduceMul, Nat.reduceLeDiff, if_true, Zn, reduceCtorEq, ZA, eq_self, Int.reduceLE, Int.reduceLT, Int.reduceToNat, ne_eq, Nat.reduceSub, Tarr30, Tld5, nb1_b, xl, ol, nb2_b1, nb2_b, nb3_b2, nb3_b1, nb3_b]
        repeat refine And.intro (by omega) ?_
        repeat refine And.intro (by omega) ?_
        intro g
        simp only [List.map_cons, List.map_nil, updL, upd, Nat.reduceEqDiff, if_true, if_false, ↓reduceIte]
        refine hK _ _ ?_; clear hK K
        refine Cd.rs [1, 4, 5, 6, 7, 9, 10] fun K hK => ?_
        simp (maxSteps := 2000000) (disch := first | (simp only [E4, nb1_b, xl, ol, nb2_b1, nb2_b, nb3_b2, nb3_b1, nb3_b] <;> omega) | omega | fail) only [↓E2, E3, bare, bareJ, ↓E0, E1, evP, evPlan, env0, envN, evOps, evOp, evQs, evQ, evV, setD, pureOp, ev, upd, updL, gate, binW, eqOp, binV, intOp, shOp, boolOp, unV, convV, nilV, fieldAddrV, indexAddrV, extractV, cellAt, cellsAt, findB, setB, fillL, buildV, Value.cells, lenV, minV, maxV, hav, sliceV, loV, hiV, bslQ, mksQ, appQ, partsOk, partsCells, delB, eqL, SameI, strOp, apzQ, cvtQ, capV, ↓reduceIte, Zj, Zk, Nat.reduceAdd, Nat.reduceLT, Nat.reduceEqDiff, Nat.reduceMul, Nat.reduceLeDiff, if_true, Zn, reduceCtorEq, ZA, eq_self, Int.reduceLE, Int.reduceLT, Int.reduceToNat, ne_eq, Nat.reduceSub, Tarr30, Tld5, Tst5, nb1_b, xl, ol, nb2_b1, nb2_b, nb3_b2, nb3_b1, nb3_b]
        repeat refine And.intro (by omega) ?_
        repeat refine And.intro (by omega) ?_
        intro g
        simp only [List.map_cons, List.map_nil, updL, upd, Nat.reduceEqDiff, if_true, if_false, ↓reduceIte]
        refine hK _ _ ?_; clear hK K
        refine Cd.rr [1, 4, 5, 6, 7] fun K hK => ?_
        simp (maxSteps := 2000000) (disch := first | (simp only [E4, nb1_b, xl, ol, nb2_b1, nb2_b, nb3_b2, nb3_b1, nb3_b] <;> omega) | omega | fail) only [↓E2, E3, bare, bareJ, ↓E0, E1, evP, evPlan, env0, envN, evOps, evOp, evQs, evQ, evV, setD, pureOp, ev, upd, updL, gate, binW, eqOp, binV, intOp, shOp, boolOp, unV, convV, nilV, fieldAddrV, indexAddrV, extractV, cellAt, cellsAt, findB, setB, fillL, buildV, Value.cells, lenV, minV, maxV, hav, sliceV, loV, hiV, bslQ, mksQ, appQ, partsOk, partsCells, delB, eqL, SameI, strOp, apzQ, cvtQ, capV, ↓reduceIte, Zj, Zk, Nat.reduceAdd, Nat.reduceLT, Nat.reduceEqDiff, Nat.reduceMul, Nat.reduceLeDiff, if_true, Zn, reduceCtorEq, ZA, eq_self, Int.reduceLE, Int.reduceLT, Int.reduceToNat, ne_eq, Nat.reduceSub, Tarr30, Tst5, nb1_b, xl, ol, nb2_b1, nb2_b, nb3_b2, nb3_b1, nb3_b]
        repeat refine And.intro (by omega) ?_
        repeat refine And.intro (by omega) ?_
        intro g
        simp only [List.map_cons, List.map_nil, updL, upd, Nat.reduceEqDiff, if_true, if_false, ↓reduceIte]
        refine hK _ _ ?_; clear hK K
        have e1 := bytes_get hy (i := i) (by omega)
        have e2 := bytes_get hy (i := j) (by omega)
        refine inBN ?_
        exact midN ⟨_, _, bytes_set (bytes_set hy e2.1 e2.2) e1.1 e1.2, rfl, rfl⟩
      · refine Cd.skip ?_
        refine inBN ?_
        exact midN ⟨_, o, hy, (norm_of (by repeat (first | exact trivial | refine And.intro rfl ?_))), rfl⟩
    · rintro ρ M ⟨g, o, hy, rfl, rfl⟩
      refine Cd.rr [1, 4, 5, 6, 7] fun K hK => ?_
      simp (maxSteps := 2000000) (disch := first | (simp only [E4, nb1_b, xl, ol, nb2_b1, nb2_b, nb3_b2, nb3_b1, nb3_b] <;> omega) | omega | fail) only [↓E2, E3, bare, bareJ, ↓E0, E1, evP, evPlan, env0, envN, evOps, evOp, evQs, evQ, evV, setD, pureOp, ev, upd, updL, gate, binW, eqOp, binV, intOp, shOp, boolOp, unV, convV, nilV, fieldAddrV, indexAddrV, extractV, cellAt, cellsAt, findB, setB, fillL, buildV, Value.cells, lenV, minV, maxV, hav, sliceV, loV, hiV, bslQ, mksQ, appQ, partsOk, partsCells, delB, eqL, SameI, strOp, apzQ, cvtQ, capV, ↓reduceIte, Zj, Zk, Nat.reduceAdd, Nat.reduceLT, Nat.reduceEqDiff, Nat.reduceMul, Nat.reduceLeDiff, if_true, Zn, reduceCtorEq, ZA, eq_self, Int.reduceLE, Int.reduceLT, Int.reduceToNat, ne_eq, Nat.reduceSub, nb1_b, xl, ol, nb2_b1, nb2_b, nb3_b2, nb3_b1, nb3_b]
      repeat refine And.intro (by omega) ?_
      repeat refine And.intro (by omega) ?_
      intro g
      simp only [List.map_cons, List.map_nil, updL, upd, Nat.reduceEqDiff, if_true, if_false, ↓reduceIte]
      refine hK _ _ ?_; clear hK K
      exact roundN (m := q - 1) (by omega) ⟨_, k + 1, o, t, h, hy, ho, by omega, rfl, rfl⟩
  · refine Cd.exit (thenX (roundX (inBX ?_)))
    refine thenN ?_
    refine Cd.rs [1, 4, 5, 11] fun K hK => ?_
    simp (maxSteps := 2000000) (disch := first | (simp only [E4, nb1_b, xl, ol, nb2_b1, nb2_b, nb3_b2, nb3_b1, nb3_b] <;> omega) | omega | fail) only [↓E2, E3, bare, bareJ, ↓E0, E1, evP, evPlan, env0, envN, evOps, evOp, evQs, evQ, evV, setD, pureOp, ev, upd, updL, gate, binW, eqOp, binV, intOp, shOp, boolOp, unV, convV, nilV, fieldAddrV, indexAddrV, extractV, cellAt, cellsAt, findB, setB, fillL, buildV, Value.cells, lenV, minV, maxV, hav, sliceV, loV, hiV, bslQ, mksQ, appQ, partsOk, partsCells, delB, eqL, SameI, strOp, apzQ, cvtQ, capV, ↓reduceIte, Zj, Zk, Nat.reduceAdd, Nat.reduceLT, Nat.reduceEqDiff, Nat.reduceMul, Nat.reduceLeDiff, if_true, Zn, reduceCtorEq, ZA, eq_self, Int.reduceLE, Int.reduceLT, Int.reduceToNat, ne_eq, Nat.reduceSub, Tbld32, Tld30, Tst32, Tzero32, nb1_b, xl, ol, nb2_b1, nb2_b, nb3_b2, nb3_b1, nb3_b]
    repeat refine And.intro (by omega) ?_
    intro b4 hb4
    have nb4_b3 := hb4.ne
    have nb4_b2 := hb4.tail.ne
    have nb4_b1 := hb4.tail.tail.ne
    have nb4_b := hb4.tail.tail.tail.ne
    try simp (maxSteps := 2000000) (disch := first | (simp only [E4, nb1_b, xl, ol, nb2_b1, nb2_b, nb3_b2, nb3_b1, nb3_b, nb4_b3, nb4_b2, nb4_b1, nb4_b] <;> omega) | omega | fail) only [↓E2, E3, bare, bareJ, ↓E0, E1, evP, evPlan, env0, envN, evOps, evOp, evQs, evQ, evV, setD, pureOp, ev, upd, updL, gate, binW, eqOp, binV, intOp, shOp, boolOp, unV, convV, nilV, fieldAddrV, indexAddrV, extractV, cellAt, cellsAt, findB, setB, fillL, buildV, Value.cells, lenV, minV, maxV, hav, sliceV, loV, hiV, bslQ, mksQ, appQ, partsOk, partsCells, delB, eqL, SameI, strOp, apzQ, cvtQ, capV, ↓reduceIte, Zj, Zk, Nat.reduceAdd, Nat.reduceLT, Nat.reduceEqDiff, Nat.reduceMul, Nat.reduceLeDiff, if_true, Zn, reduceCtorEq, ZA, eq_self, Int.reduceLE, Int.reduceLT, Int.reduceToNat, ne_eq, Nat.reduceSub, Tbld32, Tld30, Tst32, Tzero32, nb1_b, xl, ol, nb2_b1, nb2_b, nb3_b2, nb3_b1, nb3_b, nb4_b3, nb4_b2, nb4_b1, nb4_b]
    repeat refine And.intro (by omega) ?_
    repeat refine And.intro (by omega) ?_
    intro g
    simp only [List.map_cons, List.map_nil, updL, upd, Nat.reduceEqDiff, if_true, if_false, ↓reduceIte]
    refine hK _ _ ?_; clear hK K
    refine Cd.midq (fun ρ M => ∃ g o', Bytes8 o' ∧ ρ = updL [(4, .pointer (some ⟨b1, 0, none⟩)), (11, .pointer (some ⟨b4, 0, none⟩))] g ∧ M = (b4, gc (n : Int) x o') :: [(b3, ints .u8 o), (b2, ints .u8 x), (b1, gc 0 z8 z8), (b, srcC cv t h)]) ?_ ?_
    · refine Cd.rs [1, 4, 5, 11, 56] fun K hK => ?_
      simp (maxSteps := 2000000) (disch := first | (simp only [E4, nb1_b, xl, ol, nb2_b1, nb2_b, nb3_b2, nb3_b1, nb3_b, nb4_b3, nb4_b2, nb4_b1, nb4_b] <;> omega) | omega | fail) only [↓E2, E3, bare, bareJ, ↓E0, E1, evP, evPlan, env0, envN, evOps, evOp, evQs, evQ, evV, setD, pureOp, ev, upd, updL, gate, binW, eqOp, binV, intOp, shOp, boolOp, unV, convV, nilV, fieldAddrV, indexAddrV, extractV, cellAt, cellsAt, findB, setB, fillL, buildV, Value.cells, lenV, minV, maxV, hav, sliceV, loV, hiV, bslQ, mksQ, appQ, partsOk, partsCells, delB, eqL, SameI, strOp, apzQ, cvtQ, capV, ↓reduceIte, Zj, Zk, Nat.reduceAdd, Nat.reduceLT, Nat.reduceEqDiff, Nat.reduceMul, Nat.reduceLeDiff, if_true, Zn, reduceCtorEq, ZA, eq_self, Int.reduceLE, Int.reduceLT, Int.reduceToNat, ne_eq, Nat.reduceSub, Tld32, nb1_b, xl, ol, nb2_b1, nb2_b, nb3_b2, nb3_b1, nb3_b, nb4_b3, nb4_b2, nb4_b1, nb4_b]
      repeat refine And.intro (by omega) ?_
      refine callK_gives (l01Is_c _ _ _ hx hy) ?_
      simp (maxSteps := 2000000) (disch := first | (simp only [E4, nb1_b, xl, ol, nb2_b1, nb2_b, nb3_b2, nb3_b1, nb3_b, nb4_b3, nb4_b2, nb4_b1, nb4_b] <;> omega) | omega | fail) only [↓E2, E3, bare, bareJ, ↓E0, E1, evP, evPlan, env0, envN, evOps, evOp, evQs, evQ, evV, setD, pureOp, ev, upd, updL, gate, binW, eqOp, binV, intOp, shOp, boolOp, unV, convV, nilV, fieldAddrV, indexAddrV, extractV, cellAt, cellsAt, findB, setB, fillL, buildV, Value.cells, lenV, minV, maxV, hav, sliceV, loV, hiV, bslQ, mksQ, appQ, partsOk, partsCells, delB, eqL, SameI, strOp, apzQ, cvtQ, capV, ↓reduceIte, Zj, Zk, Nat.reduceAdd, Nat.reduceLT, Nat.reduceEqDiff, Nat.reduceMul, Nat.reduceLeDiff, if_true, Zn, reduceCtorEq, ZA, eq_self, Int.reduceLE, Int.reduceLT, Int.reduceToNat, ne_eq, Nat.reduceSub, Tld32, nb1_b, xl, ol, nb2_b1, nb2_b, nb3_b2, nb3_b1, nb3_b, nb4_b3, nb4_b2, nb4_b1, nb4_b]
      repeat refine And.intro (by omega) ?_
      repeat refine And.intro (by omega) ?_
      intro g
      simp only [List.map_cons, List.map_nil, updL, upd, Nat.reduceEqDiff, if_true, if_false, ↓reduceIte]
      refine hK _ _ ?_; clear hK K
      refine Cd.cond rfl (fun c3 => ?_) (fun c3 => ?_)
      · refine Cd.rs [1, 4, 5, 11, 12] fun K hK => ?_
        simp (maxSteps := 2000000) (disch := first | (simp only [E4, nb1_b, xl, ol, nb2_b1, nb2_b, nb3_b2, nb3_b1, nb3_b, nb4_b3, nb4_b2, nb4_b1, nb4_b] <;> omega) | omega | fail) only [↓E2, E3, bare, bareJ, ↓E0, E1, evP, evPlan, env0, envN, evOps, evOp, evQs, evQ, evV, setD, pureOp, ev, upd, updL, gate, binW, eqOp, binV, intOp, shOp, boolOp, unV, convV, nilV, fieldAddrV, indexAddrV, extractV, cellAt, cellsAt, findB, setB, fillL, buildV, Value.cells, lenV, minV, maxV, hav, sliceV, loV, hiV, bslQ, mksQ, appQ, partsOk, partsCells, delB, eqL, SameI, strOp, apzQ, cvtQ, capV, ↓reduceIte, Zj, Zk, Nat.reduceAdd, Nat.reduceLT, Nat.reduceEqDiff, Nat.reduceMul, Nat.reduceLeDiff, if_true, Zn, reduceCtorEq, ZA, eq_self, Int.reduceLE, Int.reduceLT, Int.reduceToNat, ne_eq, Nat.reduceSub, nb1_b, xl, ol, nb2_b1, nb2_b, nb3_b2, nb3_b1, nb3_b, nb4_b3, nb4_b2, nb4_b1, nb4_b]
        repeat refine And.intro (by omega) ?_
        repeat refine And.intro (by omega) ?_
        intro g
        simp only [List.map_cons, List.map_nil, updL, upd, Nat.reduceEqDiff, if_true, if_false, ↓reduceIte]
        refine hK _ _ ?_; clear hK K
        refine Cd.block ?_
        refine Cd.loop (fun q ρ M => ∃ g k o', Bytes8 o' ∧ k + q = n ∧ ρ = updL [(1, .int .i64 (n : Int)), (4, .pointer (some ⟨b1, 0, none⟩)), (5, .pointer (some ⟨b2, 0, none⟩)), (11, .pointer (some ⟨b4, 0, none⟩)), (12, .int .i64 (k : Int))] g ∧ M = (b4, gc (n : Int) x o') :: [(b3, ints .u8 o), (b2, ints .u8 x), (b1, gc 0 z8 z8), (b, srcC cv t h)]) n ⟨_, 0, o, hy, Nat.zero_add _, rfl, rfl⟩ ?_
        rintro q2 ρ M ⟨g, k, o', hy', hk2, rfl, rfl⟩
        have ol' := hy'.len
        skip
        refine Cd.seq ?_
        refine Cd.rs [1, 4, 5, 11, 12, 59] fun K hK => ?_
        simp (maxSteps := 2000000) (disch := first | (simp only [E4, nb1_b, xl, ol, nb2_b1, nb2_b, nb3_b2, nb3_b1, nb3_b, nb4_b3, nb4_b2, nb4_b1, nb4_b, ol'] <;> omega) | omega | fail) only [↓E2, E3, bare, bareJ, ↓E0, E1, evP, evPlan, env0, envN, evOps, evOp, evQs, evQ, evV, setD, pureOp, ev, upd, updL, gate, binW, eqOp, binV, intOp, shOp, boolOp, unV, convV, nilV, fieldAddrV, indexAddrV, extractV, cellAt, cellsAt, findB, setB, fillL, buildV, Value.cells, lenV, minV, maxV, hav, sliceV, loV, hiV, bslQ, mksQ, appQ, partsOk, partsCells, delB, eqL, SameI, strOp, apzQ, cvtQ, capV, ↓reduceIte, Zj, Zk, Nat.reduceAdd, Nat.reduceLT, Nat.reduceEqDiff, Nat.reduceMul, Nat.reduceLeDiff, if_true, Zn, reduceCtorEq, ZA, eq_self, Int.reduceLE, Int.reduceLT, Int.reduceToNat, ne_eq, Nat.reduceSub, nb1_b, xl, ol, nb2_b1, nb2_b, nb3_b2, nb3_b1, nb3_b, nb4_b3, nb4_b2, nb4_b1, nb4_b, ol']
        repeat refine And.intro (by omega) ?_
        repeat refine And.intro (by omega) ?_
        intro g
        simp only [List.map_cons, List.map_nil, updL, upd, Nat.reduceEqDiff, if_true, if_false, ↓reduceIte]
        refine hK _ _ ?_; clear hK K
        refine Cd.condd rfl (fun c4 => ?_) (fun c4 => ?_)
        · refine Cd.skip ?_
          refine thenN ?_
          refine Cd.seq ?_
          refine Cd.block ?_
          have e0 := bytes_get hx (i := k) (by omega)
          have e1 := Int.emod_nonneg (x.getD k 0 + 1) (show (n : Int) ≠ 0 by omega)
          have e2 := Int.emod_lt_of_pos (x.getD k 0 + 1) (show 0 < (n : Int) by omega)
          refine Cd.rr [1, 4, 5, 11, 12] fun K hK => ?_
          simp (maxSteps := 2000000) (disch := first | (simp only [E4, nb1_b, xl, ol, nb2_b1, nb2_b, nb3_b2, nb3_b1, nb3_b, nb4_b3, nb4_b2, nb4_b1, nb4_b, ol'] <;> omega) | omega | fail) only [↓E2, E3, bare, bareJ, ↓E0, E1, evP, evPlan, env0, envN, evOps, evOp, evQs, evQ, evV, setD, pureOp, ev, upd, updL, gate, binW, eqOp, binV, intOp, shOp, boolOp, unV, convV, nilV, fieldAddrV, indexAddrV, extractV, cellAt, cellsAt, findB, setB, fillL, buildV, Value.cells, lenV, minV, maxV, hav, sliceV, loV, hiV, bslQ, mksQ, appQ, partsOk, partsCells, delB, eqL, SameI, strOp, apzQ, cvtQ, capV, ↓reduceIte, Zj, Zk, Nat.reduceAdd, Nat.reduceLT, Nat.reduceEqDiff, Nat.reduceMul, Nat.reduceLeDiff, if_true, Zn, reduceCtorEq, ZA, eq_self, Int.reduceLE, Int.reduceLT, Int.reduceToNat, ne_eq, Nat.reduceSub, Tarr30, Tfld32_2, Tint2, Tint5, Tld5, Tpar2, Tpar5, Tst5, nb1_b, xl, ol, nb2_b1, nb2_b, nb3_b2, nb3_b1, nb3_b, nb4_b3, nb4_b2, nb4_b1, nb4_b, ol']
          repeat refine And.intro (by omega) ?_
          repeat refine And.intro (by omega) ?_
          intro g
          simp only [List.map_cons, List.map_nil, updL, upd, Nat.reduceEqDiff, if_true, if_false, ↓reduceIte]
          refine hK _ _ ?_; clear hK K
          refine inBN ?_
          refine thenN ?_
          refine Cd.rr [1, 4, 5, 11, 12] fun K hK => ?_
          simp (maxSteps := 2000000) (disch := first | (simp only [E4, nb1_b, xl, ol, nb2_b1, nb2_b, nb3_b2, nb3_b1, nb3_b, nb4_b3, nb4_b2, nb4_b1, nb4_b, ol'] <;> omega) | omega | fail) only [↓E2, E3, bare, bareJ, ↓E0, E1, evP, evPlan, env0, envN, evOps, evOp, evQs, evQ, evV, setD, pureOp, ev, upd, updL, gate, binW, eqOp, binV, intOp, shOp, boolOp, unV, convV, nilV, fieldAddrV, indexAddrV, extractV, cellAt, cellsAt, findB, setB, fillL, buildV, Value.cells, lenV, minV, maxV, hav, sliceV, loV, hiV, bslQ, mksQ, appQ, partsOk, partsCells, delB, eqL, SameI, strOp, apzQ, cvtQ, capV, ↓reduceIte, Zj, Zk, Nat.reduceAdd, Nat.reduceLT, Nat.reduceEqDiff, Nat.reduceMul, Nat.reduceLeDiff, if_true, Zn, reduceCtorEq, ZA, eq_self, Int.reduceLE, Int.reduceLT, Int.reduceToNat, ne_eq, Nat.reduceSub, nb1_b, xl, ol, nb2_b1, nb2_b, nb3_b2, nb3_b1, nb3_b, nb4_b3, nb4_b2, nb4_b1, nb4_b, ol']
          repeat refine And.intro (by omega) ?_
          repeat refine And.intro (by omega) ?_
          intro g
          simp only [List.map_cons, List.map_nil, updL, upd, Nat.reduceEqDiff, if_true, if_false, ↓reduceIte]
          refine hK _ _ ?_; clear hK K
          exact roundN (m := q2 - 1) (by omega) ⟨_, k + 1, _, bytes_set hy' (by omega) (by omega), by omega, rfl, rfl⟩
        · refine Cd.exit (thenX (roundX (inBX ?_)))
          exact midN ⟨_, o', hy', (norm_of (by repeat (first | exact trivial | refine And.intro rfl ?_))), rfl⟩
      · refine Cd.skip ?_
        exact midN ⟨_, o, hy, (norm_of (by repeat (first | exact trivial | refine And.intro rfl ?_))), rfl⟩
    · rintro ρ M ⟨g, o', hy', rfl, rfl⟩
      have ol' := hy'.len
      skip
      refine Cd.rs [4] fun K hK => ?_
      simp (maxSteps := 2000000) (disch := first | (simp only [E4, nb1_b, xl, ol, nb2_b1, nb2_b, nb3_b2, nb3_b1, nb3_b, nb4_b3, nb4_b2, nb4_b1, nb4_b, ol'] <;> omega) | omega | fail) only [↓E2, E3, bare, bareJ, ↓E0, E1, evP, evPlan, env0, envN, evOps, evOp, evQs, evQ, evV, setD, pureOp, ev, upd, updL, gate, binW, eqOp, binV, intOp, shOp, boolOp, unV, convV, nilV, fieldAddrV, indexAddrV, extractV, cellAt, cellsAt, findB, setB, fillL, buildV, Value.cells, lenV, minV, maxV, hav, sliceV, loV, hiV, bslQ, mksQ, appQ, partsOk, partsCells, delB, eqL, SameI, strOp, apzQ, cvtQ, capV, ↓reduceIte, Zj, Zk, Nat.reduceAdd, Nat.reduceLT, Nat.reduceEqDiff, Nat.reduceMul, Nat.reduceLeDiff, if_true, Zn, reduceCtorEq, ZA, eq_self, Int.reduceLE, Int.reduceLT, Int.reduceToNat, ne_eq, Nat.reduceSub, Tld32, Tst32, nb1_b, xl, ol, nb2_b1, nb2_b, nb3_b2, nb3_b1, nb3_b, nb4_b3, nb4_b2, nb4_b1, nb4_b, ol']
      repeat refine And.intro (by omega) ?_
      repeat refine And.intro (by omega) ?_
      intro g
      simp only [List.map_cons, List.map_nil, updL, upd, Nat.reduceEqDiff, if_true, if_false, ↓reduceIte]
      refine hK _ _ ?_; clear hK K
      refine Cd.ret ?_
      simp (maxSteps := 2000000) (disch := first | (simp only [E4, nb1_b, xl, ol, nb2_b1, nb2_b, nb3_b2, nb3_b1, nb3_b, nb4_b3, nb4_b2, nb4_b1, nb4_b, ol'] <;> omega) | omega | fail) only [↓E2, E3, bare, bareJ, ↓E0, E1, evP, evPlan, env0, envN, evOps, evOp, evQs, evQ, evV, setD, pureOp, ev, upd, updL, gate, binW, eqOp, binV, intOp, shOp, boolOp, unV, convV, nilV, fieldAddrV, indexAddrV, extractV, cellAt, cellsAt, findB, setB, fillL, buildV, Value.cells, lenV, minV, maxV, hav, sliceV, loV, hiV, bslQ, mksQ, appQ, partsOk, partsCells, delB, eqL, SameI, strOp, apzQ, cvtQ, capV, ↓reduceIte, Zj, Zk, Nat.reduceAdd, Nat.reduceLT, Nat.reduceEqDiff, Nat.reduceMul, Nat.reduceLeDiff, if_true, Zn, reduceCtorEq, ZA, eq_self, Int.reduceLE, Int.reduceLT, Int.reduceToNat, ne_eq, Nat.reduceSub, Tld32, nb1_b, xl, ol, nb2_b1, nb2_b, nb3_b2, nb3_b1, nb3_b, nb4_b3, nb4_b2, nb4_b1, nb4_b, ol']
      repeat refine And.intro (by omega) ?_
      exact ⟨t, h, ho, ⟨_, x, o', rfl, ⟨by omega, by omega⟩, hx, hy'⟩, SubP.of (List.Sublist.cons _ (List.Sublist.cons _ (List.Sublist.cons _ (List.Sublist.cons _ (List.Sublist.refl _)))))⟩
omit hin hl hb
theorem rolled_c (n v u : Int) (x o : List Int) (hx : Bytes8 x) (ho : Bytes8 o) (n2 : 2 ≤ n) (n8 : n ≤ 8) (v0 : 0 ≤ v) (v8 : v ≤ 100) (u0 : 0 ≤ u) (u8 : u ≤ 100) : GivesX Try.prog 194 #[.agg (gc n x o).toArray, .int .i64 v, .int .i64 u] [] [] (fun r M' => isGrid r ∧ M' = []) := by
  obtain ⟨n, rfl⟩ : ∃ k : Nat, n = (k : Int) := ⟨n.toNat, by omega⟩
  have xl := hx.len
  have ol := ho.len
  skip
  refine GivesX.part ?_
  refine GivesX.of (callable_of Try.func194 rfl (by decide)) ?_ fun w hnd hlt hR => ?_
  · simp
  refine acall_of (N := 65) (c := _) (rs := [.cell 6 32]) (args := [_, _, _]) Try.func194 rfl (by decide) rfl rfl (Nat.le_of_ble_eq_true rfl) ?_
  refine Cd.rs [1, 2, 3, 6] fun K hK => ?_
  simp (maxSteps := 2000000) (disch := first | (simp only [E4, xl, ol] <;> omega) | omega | fail) only [↓E2, E3, bare, bareJ, ↓E0, E1, evP, evPlan, env0, envN, evOps, evOp, evQs, evQ, evV, setD, pureOp, ev, upd, updL, gate, binW, eqOp, binV, intOp, shOp, boolOp, unV, convV, nilV, fieldAddrV, indexAddrV, extractV, cellAt, cellsAt, findB, setB, fillL, buildV, Value.cells, lenV, minV, maxV, hav, sliceV, loV, hiV, bslQ, mksQ, appQ, partsOk, partsCells, delB, eqL, SameI, strOp, apzQ, cvtQ, capV, ↓reduceIte, Zj, Zk, Nat.reduceAdd, Nat.reduceLT, Nat.reduceEqDiff, Nat.reduceMul, Nat.reduceLeDiff, if_true, Zn, reduceCtorEq, ZA, eq_self, Int.reduceLE, Int.reduceLT, Int.reduceToNat, ne_eq, Nat.reduceSub, Tzero32, xl, ol]
  repeat refine And.intro (by omega) ?_
  intro b1 hb1
  intro b2 hb2
  have nb2_b1 := hb2.ne
  try simp (maxSteps := 2000000) (disch := first | (simp only [E4, xl, ol, nb2_b1] <;> omega) | omega | fail) only [↓E2, E3, bare, bareJ, ↓E0, E1, evP, evPlan, env0, envN, evOps, evOp, evQs, evQ, evV, setD, pureOp, ev, upd, updL, gate, binW, eqOp, binV, intOp, shOp, boolOp, unV, convV, nilV, fieldAddrV, indexAddrV, extractV, cellAt, cellsAt, findB, setB, fillL, buildV, Value.cells, lenV, minV, maxV, hav, sliceV, loV, hiV, bslQ, mksQ, appQ, partsOk, partsCells, delB, eqL, SameI, strOp, apzQ, cvtQ, capV, ↓reduceIte, Zj, Zk, Nat.reduceAdd, Nat.reduceLT, Nat.reduceEqDiff, Nat.reduceMul, Nat.reduceLeDiff, if_true, Zn, reduceCtorEq, ZA, eq_self, Int.reduceLE, Int.reduceLT, Int.reduceToNat, ne_eq, Nat.reduceSub, Tzero32, xl, ol, nb2_b1]
  repeat refine And.intro (by omega) ?_
  repeat refine And.intro (by omega) ?_
  intro g
  simp only [List.map_cons, List.map_nil, updL, upd, Nat.reduceEqDiff, if_true, if_false, ↓reduceIte]
  refine hK _ _ ?_; clear hK K
  refine Cd.ps [1, 2, 3, 6, 7, 8] (Plan.take 0 (Plan.take 1 (Plan.take 2 (Plan.take 3 (Plan.take 4 (Plan.one 5 (Plan.take 6 (Plan.one 7 (Plan.done))))))))) fol (by kernel_rfl) (Nat.le_of_ble_eq_true rfl) fun K hK => ?_
  simp (maxSteps := 2000000) (disch := first | (simp only [E4, xl, ol, nb2_b1] <;> omega) | omega | fail) only [↓E2, E3, bare, bareJ, ↓E0, E1, evP, evPlan, env0, envN, evOps, evOp, evQs, evQ, evV, setD, pureOp, ev, upd, updL, gate, binW, eqOp, binV, intOp, shOp, boolOp, unV, convV, nilV, fieldAddrV, indexAddrV, extractV, cellAt, cellsAt, findB, setB, fillL, buildV, Value.cells, lenV, minV, maxV, hav, sliceV, loV, hiV, bslQ, mksQ, appQ, partsOk, partsCells, delB, eqL, SameI, strOp, apzQ, cvtQ, capV, ↓reduceIte, Zj, Zk, Nat.reduceAdd, Nat.reduceLT, Nat.reduceEqDiff, Nat.reduceMul, Nat.reduceLeDiff, if_true, Zn, reduceCtorEq, ZA, eq_self, Int.reduceLE, Int.reduceLT, Int.reduceToNat, ne_eq, Nat.reduceSub, Tbld32, Tfld32_0, Tld2, Tst32, Tzero32, xl, ol, nb2_b1]
  repeat refine And.intro (by omega) ?_
  intro b3 hb3
  have nb3_b2 := hb3.ne
  have nb3_b1 := hb3.tail.ne
  try simp (maxSteps := 2000000) (disch := first | (simp only [E4, xl, ol, nb2_b1, nb3_b2, nb3_b1] <;> omega) | omega | fail) only [↓E2, E3, bare, bareJ, ↓E0, E1, evP, evPlan, env0, envN, evOps, evOp, evQs, evQ, evV, setD, pureOp, ev, upd, updL, gate, binW, eqOp, binV, intOp, shOp, boolOp, unV, convV, nilV, fieldAddrV, indexAddrV, extractV, cellAt, cellsAt, findB, setB, fillL, buildV, Value.cells, lenV, minV, maxV, hav, sliceV, loV, hiV, bslQ, mksQ, appQ, partsOk, partsCells, delB, eqL, SameI, strOp, apzQ, cvtQ, capV, ↓reduceIte, Zj, Zk, Nat.reduceAdd, Nat.reduceLT, Nat.reduceEqDiff, Nat.reduceMul, Nat.reduceLeDiff, if_true, Zn, reduceCtorEq, ZA, eq_self, Int.reduceLE, Int.reduceLT, Int.reduceToNat, ne_eq, Nat.reduceSub, Tbld32, Tfld32_0, Tld2, Tst32, Tzero32, xl, ol, nb2_b1, nb3_b2, nb3_b1]
  repeat refine And.intro (by omega) ?_
  repeat refine And.intro (by omega) ?_
  intro g
  simp only [List.map_cons, List.map_nil, updL, upd, Nat.reduceEqDiff, if_true, if_false, ↓reduceIte]
  refine hK _ _ ?_; clear hK K
  refine Cd.seq ?_
  refine Cd.rs [1, 2, 3, 6, 7, 8, 9] fun K hK => ?_
  simp (maxSteps := 2000000) (disch := first | (simp only [E4, xl, ol, nb2_b1, nb3_b2, nb3_b1] <;> omega) | omega | fail) only [↓E2, E3, bare, bareJ, ↓E0, E1, evP, evPlan, env0, envN, evOps, evOp, evQs, evQ, evV, setD, pureOp, ev, upd, updL, gate, binW, eqOp, binV, intOp, shOp, boolOp, unV, convV, nilV, fieldAddrV, indexAddrV, extractV, cellAt, cellsAt, findB, setB, fillL, buildV, Value.cells, lenV, minV, maxV, hav, sliceV, loV, hiV, bslQ, mksQ, appQ, partsOk, partsCells, delB, eqL, SameI, strOp, apzQ, cvtQ, capV, ↓reduceIte, Zj, Zk, Nat.reduceAdd, Nat.reduceLT, Nat.reduceEqDiff, Nat.reduceMul, Nat.reduceLeDiff, if_true, Zn, reduceCtorEq, ZA, eq_self, Int.reduceLE, Int.reduceLT, Int.reduceToNat, ne_eq, Nat.reduceSub, xl, ol, nb2_b1, nb3_b2, nb3_b1]
  repeat refine And.intro (by omega) ?_
  repeat refine And.intro (by omega) ?_
  intro g
  simp only [List.map_cons, List.map_nil, updL, upd, Nat.reduceEqDiff, if_true, if_false, ↓reduceIte]
  refine hK _ _ ?_; clear hK K
  refine Cd.block ?_
  refine Cd.loop (fun q ρ M => ∃ g k x' o', Bytes8 x' ∧ Bytes8 o' ∧ k + q = n ∧ ρ = updL [(1, .int .i64 v), (2, .int .i64 u), (3, .pointer (some ⟨b1, 0, none⟩)), (6, .pointer (some ⟨b2, 0, none⟩)), (7, .int .i64 (n : Int)), (8, .pointer (some ⟨b3, 0, none⟩)), (9, .int .i64 (k : Int))] g ∧ M = [(b3, gc (n : Int) x' o'), (b2, gc 0 z8 z8), (b1, gc (n : Int) x o)]) n ⟨_, 0, z8, z8, bytes_z8, bytes_z8, Nat.zero_add _, rfl, rfl⟩ ?_
  rintro q ρ M ⟨g, k, x', o', hx', ho', hk, rfl, rfl⟩
  have xl' := hx'.len
  have ol' := ho'.len
  skip
  refine Cd.seq ?_
  refine Cd.rs [1, 2, 3, 6, 7, 8, 9, 18] fun K hK => ?_
  simp (maxSteps := 2000000) (disch := first | (simp only [E4, xl, ol, nb2_b1, nb3_b2, nb3_b1, xl', ol'] <;> omega) | omega | fail) only [↓E2, E3, bare, bareJ, ↓E0, E1, evP, evPlan, env0, envN, evOps, evOp, evQs, evQ, evV, setD, pureOp, ev, upd, updL, gate, binW, eqOp, binV, intOp, shOp, boolOp, unV, convV, nilV, fieldAddrV, indexAddrV, extractV, cellAt, cellsAt, findB, setB, fillL, buildV, Value.cells, lenV, minV, maxV, hav, sliceV, loV, hiV, bslQ, mksQ, appQ, partsOk, partsCells, delB, eqL, SameI, strOp, apzQ, cvtQ, capV, ↓reduceIte, Zj, Zk, Nat.reduceAdd, Nat.reduceLT, Nat.reduceEqDiff, Nat.reduceMul, Nat.reduceLeDiff, if_true, Zn, reduceCtorEq, ZA, eq_self, Int.reduceLE, Int.reduceLT, Int.reduceToNat, ne_eq, Nat.reduceSub, xl, ol, nb2_b1, nb3_b2, nb3_b1, xl', ol']
  repeat refine And.intro (by omega) ?_
  repeat refine And.intro (by omega) ?_
  intro g
  simp only [List.map_cons, List.map_nil, updL, upd, Nat.reduceEqDiff, if_true, if_false, ↓reduceIte]
  refine hK _ _ ?_; clear hK K
  refine Cd.condd rfl (fun c1 => ?_) (fun c1 => ?_)
  · have m1 : ∀ a : Int, 0 ≤ a % (n : Int) ∧ a % (n : Int) < (n : Int) := fun a => ⟨Int.emod_nonneg _ (by omega), Int.emod_lt_of_pos _ (by omega)⟩
    have c2 := bytes_get hx (i := k) (by omega)
    have c3 := bytes_get ho (i := k) (by omega)
    have m2 := m1 ((k : Int) + u)
    have m3 := m1 (((k : Int) + u) % (n : Int) + (n : Int))
    have m4 := m1 (x.getD k 0 + v)
    have m5 := m1 ((x.getD k 0 + v) % (n : Int) + (n : Int))
    have m6 := m1 (o.getD k 0 + v)
    have m7 := m1 ((o.getD k 0 + v) % (n : Int) + (n : Int))
    refine Cd.skip ?_
    refine thenN ?_
    refine Cd.seq ?_
    refine Cd.block ?_
    refine Cd.rs [1, 2, 3, 6, 7, 8, 9, 10] fun K hK => ?_
    simp (maxSteps := 2000000) (disch := first | (simp only [E4, xl, ol, nb2_b1, nb3_b2, nb3_b1, xl', ol'] <;> omega) | omega | fail) only [↓E2, E3, bare, bareJ, ↓E0, E1, evP, evPlan, env0, envN, evOps, evOp, evQs, evQ, evV, setD, pureOp, ev, upd, updL, gate, binW, eqOp, binV, intOp, shOp, boolOp, unV, convV, nilV, fieldAddrV, indexAddrV, extractV, cellAt, cellsAt, findB, setB, fillL, buildV, Value.cells, lenV, minV, maxV, hav, sliceV, loV, hiV, bslQ, mksQ, appQ, partsOk, partsCells, delB, eqL, SameI, strOp, apzQ, cvtQ, capV, ↓reduceIte, Zj, Zk, Nat.reduceAdd, Nat.reduceLT, Nat.reduceEqDiff, Nat.reduceMul, Nat.reduceLeDiff, if_true, Zn, reduceCtorEq, ZA, eq_self, Int.reduceLE, Int.reduceLT, Int.reduceToNat, ne_eq, Nat.reduceSub, xl, ol, nb2_b1, nb3_b2, nb3_b1, xl', ol']
    repeat refine And.intro (by omega) ?_
    repeat refine And.intro (by omega) ?_
    intro g
    simp only [List.map_cons, List.map_nil, updL, upd, Nat.reduceEqDiff, if_true, if_false, ↓reduceIte]
    refine hK _ _ ?_; clear hK K
    obtain ⟨j, ej, hj⟩ : ∃ j : Nat, ((((k : Int) + u) % (n : Int) + (n : Int)) % (n : Int)) = (j : Int) ∧ j < n := ⟨((((k : Int) + u) % (n : Int) + (n : Int)) % (n : Int)).toNat, by omega, by omega⟩
    rw [ej]
    clear ej m3
    refine Cd.rs [1, 2, 3, 6, 7, 8, 9, 10] fun K hK => ?_
    simp (maxSteps := 2000000) (disch := first | (simp only [E4, xl, ol, nb2_b1, nb3_b2, nb3_b1, xl', ol'] <;> omega) | omega | fail) only [↓E2, E3, bare, bareJ, ↓E0, E1, evP, evPlan, env0, envN, evOps, evOp, evQs, evQ, evV, setD, pureOp, ev, upd, updL, gate, binW, eqOp, binV, intOp, shOp, boolOp, unV, convV, nilV, fieldAddrV, indexAddrV, extractV, cellAt, cellsAt, findB, setB, fillL, buildV, Value.cells, lenV, minV, maxV, hav, sliceV, loV, hiV, bslQ, mksQ, appQ, partsOk, partsCells, delB, eqL, SameI, strOp, apzQ, cvtQ, capV, ↓reduceIte, Zj, Zk, Nat.reduceAdd, Nat.reduceLT, Nat.reduceEqDiff, Nat.reduceMul, Nat.reduceLeDiff, if_true, Zn, reduceCtorEq, ZA, eq_self, Int.reduceLE, Int.reduceLT, Int.reduceToNat, ne_eq, Nat.reduceSub, Tarr30, Tfld32_1, Tint2, Tint5, Tld5, Tpar2, Tpar5, Tst5, xl, ol, nb2_b1, nb3_b2, nb3_b1, xl', ol']
    repeat refine And.intro (by omega) ?_
    repeat refine And.intro (by omega) ?_
    intro g
    simp only [List.map_cons, List.map_nil, updL, upd, Nat.reduceEqDiff, if_true, if_false, ↓reduceIte]
    refine hK _ _ ?_; clear hK K
    refine Cd.rr [1, 2, 3, 6, 7, 8, 9] fun K hK => ?_
    simp (maxSteps := 2000000) (disch := first | (simp only [E4, xl, ol, nb2_b1, nb3_b2, nb3_b1, xl', ol'] <;> omega) | omega | fail) only [↓E2, E3, bare, bareJ, ↓E0, E1, evP, evPlan, env0, envN, evOps, evOp, evQs, evQ, evV, setD, pureOp, ev, upd, updL, gate, binW, eqOp, binV, intOp, shOp, boolOp, unV, convV, nilV, fieldAddrV, indexAddrV, extractV, cellAt, cellsAt, findB, setB, fillL, buildV, Value.cells, lenV, minV, maxV, hav, sliceV, loV, hiV, bslQ, mksQ, appQ, partsOk, partsCells, delB, eqL, SameI, strOp, apzQ, cvtQ, capV, ↓reduceIte, Zj, Zk, Nat.reduceAdd, Nat.reduceLT, Nat.reduceEqDiff, Nat.reduceMul, Nat.reduceLeDiff, if_true, Zn, reduceCtorEq, ZA, eq_self, Int.reduceLE, Int.reduceLT, Int.reduceToNat, ne_eq, Nat.reduceSub, Tarr30, Tfld32_2, Tint2, Tint5, Tld5, Tpar2, Tpar5, Tst5, xl, ol, nb2_b1, nb3_b2, nb3_b1, xl', ol']
    repeat refine And.intro (by omega) ?_
    repeat refine And.intro (by omega) ?_
    intro g
    simp only [List.map_cons, List.map_nil, updL, upd, Nat.reduceEqDiff, if_true, if_false, ↓reduceIte]
    refine hK _ _ ?_; clear hK K
    refine inBN ?_
    refine thenN ?_
    refine Cd.rr [1, 2, 3, 6, 7, 8, 9] fun K hK => ?_
    simp (maxSteps := 2000000) (disch := first | (simp only [E4, xl, ol, nb2_b1, nb3_b2, nb3_b1, xl', ol'] <;> omega) | omega | fail) only [↓E2, E3, bare, bareJ, ↓E0, E1, evP, evPlan, env0, envN, evOps, evOp, evQs, evQ, evV, setD, pureOp, ev, upd, updL, gate, binW, eqOp, binV, intOp, shOp, boolOp, unV, convV, nilV, fieldAddrV, indexAddrV, extractV, cellAt, cellsAt, findB, setB, fillL, buildV, Value.cells, lenV, minV, maxV, hav, sliceV, loV, hiV, bslQ, mksQ, appQ, partsOk, partsCells, delB, eqL, SameI, strOp, apzQ, cvtQ, capV, ↓reduceIte, Zj, Zk, Nat.reduceAdd, Nat.reduceLT, Nat.reduceEqDiff, Nat.reduceMul, Nat.reduceLeDiff, if_true, Zn, reduceCtorEq, ZA, eq_self, Int.reduceLE, Int.reduceLT, Int.reduceToNat, ne_eq, Nat.reduceSub, xl, ol, nb2_b1, nb3_b2, nb3_b1, xl', ol']
    repeat refine And.intro (by omega) ?_
    repeat refine And.intro (by omega) ?_
    intro g
    simp only [List.map_cons, List.map_nil, updL, upd, Nat.reduceEqDiff, if_true, if_false, ↓reduceIte]
    refine hK _ _ ?_; clear hK K
    exact roundN (m := q - 1) (by omega) ⟨_, k + 1, _, _, bytes_set hx' (by omega) (by omega), bytes_set ho' (by omega) (by omega), by omega, rfl, rfl⟩
  · refine Cd.exit (thenX (roundX (inBX ?_)))
    refine thenN ?_
    refine Cd.rs [6] fun K hK => ?_
    simp (maxSteps := 2000000) (disch := first | (simp only [E4, xl, ol, nb2_b1, nb3_b2, nb3_b1, xl', ol'] <;> omega) | omega | fail) only [↓E2, E3, bare, bareJ, ↓E0, E1, evP, evPlan, env0, envN, evOps, evOp, evQs, evQ, evV, setD, pureOp, ev, upd, updL, gate, binW, eqOp, binV, intOp, shOp, boolOp, unV, convV, nilV, fieldAddrV, indexAddrV, extractV, cellAt, cellsAt, findB, setB, fillL, buildV, Value.cells, lenV, minV, maxV, hav, sliceV, loV, hiV, bslQ, mksQ, appQ, partsOk, partsCells, delB, eqL, SameI, strOp, apzQ, cvtQ, capV, ↓reduceIte, Zj, Zk, Nat.reduceAdd, Nat.reduceLT, Nat.reduceEqDiff, Nat.reduceMul, Nat.reduceLeDiff, if_true, Zn, reduceCtorEq, ZA, eq_self, Int.reduceLE, Int.reduceLT, Int.reduceToNat, ne_eq, Nat.reduceSub, Tld32, Tst32, xl, ol, nb2_b1, nb3_b2, nb3_b1, xl', ol']
    repeat refine And.intro (by omega) ?_
    repeat refine And.intro (by omega) ?_
    intro g
    simp only [List.map_cons, List.map_nil, updL, upd, Nat.reduceEqDiff, if_true, if_false, ↓reduceIte]
    refine hK _ _ ?_; clear hK K
    refine Cd.ret ?_
    simp (maxSteps := 2000000) (disch := first | (simp only [E4, xl, ol, nb2_b1, nb3_b2, nb3_b1, xl', ol'] <;> omega) | omega | fail) only [↓E2, E3, bare, bareJ, ↓E0, E1, evP, evPlan, env0, envN, evOps, evOp, evQs, evQ, evV, setD, pureOp, ev, upd, updL, gate, binW, eqOp, binV, intOp, shOp, boolOp, unV, convV, nilV, fieldAddrV, indexAddrV, extractV, cellAt, cellsAt, findB, setB, fillL, buildV, Value.cells, lenV, minV, maxV, hav, sliceV, loV, hiV, bslQ, mksQ, appQ, partsOk, partsCells, delB, eqL, SameI, strOp, apzQ, cvtQ, capV, ↓reduceIte, Zj, Zk, Nat.reduceAdd, Nat.reduceLT, Nat.reduceEqDiff, Nat.reduceMul, Nat.reduceLeDiff, if_true, Zn, reduceCtorEq, ZA, eq_self, Int.reduceLE, Int.reduceLT, Int.reduceToNat, ne_eq, Nat.reduceSub, Tld32, xl, ol, nb2_b1, nb3_b2, nb3_b1, xl', ol']
    repeat refine And.intro (by omega) ?_
    exact ⟨[], SubP.of (List.nil_sublist _), ⟨_, x', o', rfl, ⟨by omega, by omega⟩, hx', ho'⟩, rfl⟩
end

end Go.Proofs

/-
  What the functions of this part hand back: each as a plain function of its arguments. Conditions: none.
-/
namespace Go.Proofs
open Go.W8
set_option linter.unusedVariables false
set_option linter.unusedSimpArgs false
set_option linter.unusedSectionVars false
set_option maxRecDepth 8000
set_option maxHeartbeats 4000000
section
variable (l : List Int) (cv : Value) (R : Rd) (hin : InB R l cv) (hl : l.length ≤ 4096) (hb : ∀ k, k < l.length → 0 ≤ l.getD k 0 ∧ l.getD k 0 < 256)
include hin hl hb
theorem broken_c (b : Nat) (hRb : ∀ r ∈ R, r.1 ≠ b) (gv : Value) (hgv : isGrid gv) : Draws Try.prog 160 [.pointer (some ⟨b, 0, none⟩), gv] b cv R l.length isGrid := by
  refine Draws.of fun t h ho => ?_
  obtain ⟨s, x, o, rfl, hs, hx, hy⟩ := hgv
  have hs' : -9223372036854775808 ≤ s ∧ s < 9223372036854775808 := hs
  have xl := hx.len
  have ol := hy.len
  skip
  refine GivesX.of (callable_of Try.func160 rfl (by decide)) ?_ fun w hnd hlt hR => ?_
  · simpa using hRb
  refine acall_of (N := 31) (c := _) (rs := [.cell 4 32]) (args := [_, _]) Try.func160 rfl (by decide) rfl rfl (Nat.le_of_ble_eq_true rfl) ?_
  have hR : W8.Told [b] w R := hR
  have hnx := next_c l cv R hin hl hb b hRb
  skip
  refine Cd.rs [0, 3, 4] fun K hK => ?_
  simp (maxSteps := 2000000) (disch := first | (simp only [E4, xl, ol] <;> omega) | omega | fail) only [↓E2, E3, bare, bareJ, ↓E0, E1, evP, evPlan, env0, envN, evOps, evOp, evQs, evQ, evV, setD, pureOp, ev, upd, updL, gate, binW, eqOp, binV, intOp, shOp, boolOp, unV, convV, nilV, fieldAddrV, indexAddrV, extractV, cellAt, cellsAt, findB, setB, fillL, buildV, Value.cells, lenV, minV, maxV, hav, sliceV, loV, hiV, bslQ, mksQ, appQ, partsOk, partsCells, delB, eqL, SameI, strOp, apzQ, cvtQ, capV, ↓reduceIte, Zj, Zk, Nat.reduceAdd, Nat.reduceLT, Nat.reduceEqDiff, Nat.reduceMul, Nat.reduceLeDiff, if_true, Zn, reduceCtorEq, ZA, eq_self, Int.reduceLE, Int.reduceLT, Int.reduceToNat, ne_eq, Nat.reduceSub, Tzero32, xl, ol]
  repeat refine And.intro (by omega) ?_
  intro b1 hb1
  have nb1_b := hb1.ne
  intro b2 hb2
  have nb2_b1 := hb2.ne
  have nb2_b := hb2.tail.ne
  try simp (maxSteps := 2000000) (disch := first | (simp only [E4, xl, ol, nb1_b, nb2_b1, nb2_b] <;> omega) | omega | fail) only [↓E2, E3, bare, bareJ, ↓E0, E1, evP, evPlan, env0, envN, evOps, evOp, evQs, evQ, evV, setD, pureOp, ev, upd, updL, gate, binW, eqOp, binV, intOp, shOp, boolOp, unV, convV, nilV, fieldAddrV, indexAddrV, extractV, cellAt, cellsAt, findB, setB, fillL, buildV, Value.cells, lenV, minV, maxV, hav, sliceV, loV, hiV, bslQ, mksQ, appQ, partsOk, partsCells, delB, eqL, SameI, strOp, apzQ, cvtQ, capV, ↓reduceIte, Zj, Zk, Nat.reduceAdd, Nat.reduceLT, Nat.reduceEqDiff, Nat.reduceMul, Nat.reduceLeDiff, if_true, Zn, reduceCtorEq, ZA, eq_self, Int.reduceLE, Int.reduceLT, Int.reduceToNat, ne_eq, Nat.reduceSub, Tzero32, xl, ol, nb1_b, nb2_b1, nb2_b]
  repeat refine And.intro (by omega) ?_
  repeat refine And.intro (by omega) ?_
  intro g
  simp only [List.map_cons, List.map_nil, updL, upd, Nat.reduceEqDiff, if_true, if_false, ↓reduceIte]
  refine hK _ _ ?_; clear hK K
  refine Cd.midq (fun ρ M => ∃ g s x o t h, Rng s ∧ Bytes8 x ∧ Bytes8 o ∧ okS l.length t h ∧ ρ = updL [(3, .pointer (some ⟨b1, 0, none⟩)), (4, .pointer (some ⟨b2, 0, none⟩))] g ∧ SubP [(b2, gc 0 z8 z8), (b1, gc s x o), (b, srcC cv t h)] M) ?_ ?_
  · refine Cd.rs [0, 3, 4, 6] fun K hK => ?_
    simp (maxSteps := 2000000) (disch := first | (simp only [E4, xl, ol, nb1_b, nb2_b1, nb2_b] <;> omega) | omega | fail) only [↓E2, E3, bare, bareJ, ↓E0, E1, evP, evPlan, env0, envN, evOps, evOp, evQs, evQ, evV, setD, pureOp, ev, upd, updL, gate, binW, eqOp, binV, intOp, shOp, boolOp, unV, convV, nilV, fieldAddrV, indexAddrV, extractV, cellAt, cellsAt, findB, setB, fillL, buildV, Value.cells, lenV, minV, maxV, hav, sliceV, loV, hiV, bslQ, mksQ, appQ, partsOk, partsCells, delB, eqL, SameI, strOp, apzQ, cvtQ, capV, ↓reduceIte, Zj, Zk, Nat.reduceAdd, Nat.reduceLT, Nat.reduceEqDiff, Nat.reduceMul, Nat.reduceLeDiff, if_true, Zn, reduceCtorEq, ZA, eq_self, Int.reduceLE, Int.reduceLT, Int.reduceToNat, ne_eq, Nat.reduceSub, xl, ol, nb1_b, nb2_b1, nb2_b]
    repeat refine And.intro (by omega) ?_
    refine callK_draw (hnx 40 ⟨by omega, by omega⟩) ho (by simp only [findB, nb1_b, nb2_b, if_true, if_false]) (Told.toldW hR) ?_
    rintro v t2 h2 ho2 ⟨y, rfl, y0, y1⟩
    simp (maxSteps := 2000000) (disch := first | (simp only [E4, xl, ol, nb1_b, nb2_b1, nb2_b] <;> omega) | omega | fail) only [↓E2, E3, bare, bareJ, ↓E0, E1, evP, evPlan, env0, envN, evOps, evOp, evQs, evQ, evV, setD, pureOp, ev, upd, updL, gate, binW, eqOp, binV, intOp, shOp, boolOp, unV, convV, nilV, fieldAddrV, indexAddrV, extractV, cellAt, cellsAt, findB, setB, fillL, buildV, Value.cells, lenV, minV, maxV, hav, sliceV, loV, hiV, bslQ, mksQ, appQ, partsOk, partsCells, delB, eqL, SameI, strOp, apzQ, cvtQ, capV, ↓reduceIte, Zj, Zk, Nat.reduceAdd, Nat.reduceLT, Nat.reduceEqDiff, Nat.reduceMul, Nat.reduceLeDiff, if_true, Zn, reduceCtorEq, ZA, eq_self, Int.reduceLE, Int.reduceLT, Int.reduceToNat, ne_eq, Nat.reduceSub, xl, ol, nb1_b, nb2_b1, nb2_b]
    repeat refine And.intro (by omega) ?_
    repeat refine And.intro (by omega) ?_
    intro g
    simp only [List.map_cons, List.map_nil, updL, upd, Nat.reduceEqDiff, if_true, if_false, ↓reduceIte]
    refine hK _ _ ?_; clear hK K
    refine Cd.block ?_
    refine Cd.rs [0, 3, 4, 6, 7] fun K hK => ?_
    simp (maxSteps := 2000000) (disch := first | (simp only [E4, xl, ol, nb1_b, nb2_b1, nb2_b] <;> omega) | omega | fail) only [↓E2, E3, bare, bareJ, ↓E0, E1, evP, evPlan, env0, envN, evOps, evOp, evQs, evQ, evV, setD, pureOp, ev, upd, updL, gate, binW, eqOp, binV, intOp, shOp, boolOp, unV, convV, nilV, fieldAddrV, indexAddrV, extractV, cellAt, cellsAt, findB, setB, fillL, buildV, Value.cells, lenV, minV, maxV, hav, sliceV, loV, hiV, bslQ, mksQ, appQ, partsOk, partsCells, delB, eqL, SameI, strOp, apzQ, cvtQ, capV, ↓reduceIte, Zj, Zk, Nat.reduceAdd, Nat.reduceLT, Nat.reduceEqDiff, Nat.reduceMul, Nat.reduceLeDiff, if_true, Zn, reduceCtorEq, ZA, eq_self, Int.reduceLE, Int.reduceLT, Int.reduceToNat, ne_eq, Nat.reduceSub, xl, ol, nb1_b, nb2_b1, nb2_b]
    repeat refine And.intro (by omega) ?_
    repeat refine And.intro (by omega) ?_
    intro g
    simp only [List.map_cons, List.map_nil, updL, upd, Nat.reduceEqDiff, if_true, if_false, ↓reduceIte]
    refine hK _ _ ?_; clear hK K
    refine Cd.cond rfl (fun c1 => ?_) (fun c1 => ?_)
    · clear c1
      obtain ⟨s1, es1, hs1⟩ : ∃ s1, IntKind.wrap .i64 (s - 1) = s1 ∧ Rng s1 := ⟨_, rfl, wrap_rng _⟩
      refine Cd.rr [3, 4] fun K hK => ?_
      simp (maxSteps := 2000000) (disch := first | (simp only [E4, xl, ol, nb1_b, nb2_b1, nb2_b] <;> omega) | omega | fail) only [↓E2, E3, bare, bareJ, ↓E0, E1, evP, evPlan, env0, envN, evOps, evOp, evQs, evQ, evV, setD, pureOp, ev, upd, updL, gate, binW, eqOp, binV, intOp, shOp, boolOp, unV, convV, nilV, fieldAddrV, indexAddrV, extractV, cellAt, cellsAt, findB, setB, fillL, buildV, Value.cells, lenV, minV, maxV, hav, sliceV, loV, hiV, bslQ, mksQ, appQ, partsOk, partsCells, delB, eqL, SameI, strOp, apzQ, cvtQ, capV, ↓reduceIte, Zj, Zk, Nat.reduceAdd, Nat.reduceLT, Nat.reduceEqDiff, Nat.reduceMul, Nat.reduceLeDiff, if_true, Zn, reduceCtorEq, ZA, eq_self, Int.reduceLE, Int.reduceLT, Int.reduceToNat, ne_eq, Nat.reduceSub, Tby2, Tfld32_0, Tld2, Tslc47, Tslce47, Tst2, Tzero2, xl, ol, nb1_b, nb2_b1, nb2_b]
      repeat refine And.intro (by omega) ?_
      rw [es1]
      skip
      intro b3 hb3
      have nb3_b2 := hb3.ne
      have nb3_b1 := hb3.tail.ne
      have nb3_b := hb3.tail.tail.ne
      try simp (maxSteps := 2000000) (disch := first | (simp only [E4, xl, ol, nb1_b, nb2_b1, nb2_b, nb3_b2, nb3_b1, nb3_b] <;> omega) | omega | fail) only [↓E2, E3, bare, bareJ, ↓E0, E1, evP, evPlan, env0, envN, evOps, evOp, evQs, evQ, evV, setD, pureOp, ev, upd, updL, gate, binW, eqOp, binV, intOp, shOp, boolOp, unV, convV, nilV, fieldAddrV, indexAddrV, extractV, cellAt, cellsAt, findB, setB, fillL, buildV, Value.cells, lenV, minV, maxV, hav, sliceV, loV, hiV, bslQ, mksQ, appQ, partsOk, partsCells, delB, eqL, SameI, strOp, apzQ, cvtQ, capV, ↓reduceIte, Zj, Zk, Nat.reduceAdd, Nat.reduceLT, Nat.reduceEqDiff, Nat.reduceMul, Nat.reduceLeDiff, if_true, Zn, reduceCtorEq, ZA, eq_self, Int.reduceLE, Int.reduceLT, Int.reduceToNat, ne_eq, Nat.reduceSub, Tby2, Tfld32_0, Tld2, Tslc47, Tslce47, Tst2, Tzero2, xl, ol, nb1_b, nb2_b1, nb2_b, nb3_b2, nb3_b1, nb3_b]
      refine callK_draw (pick_c l cv R hin hl hb b hRb b3 (fun e => by rw [nb3_b] at e; exact e) [0, 1, 9, -1, s1] (by simp) (by simp)) ho2 (by simp only [findB, nb1_b, nb2_b, nb3_b, if_true, if_false]) (toldW_pick (List.mem_cons_self ..) rfl hR) ?_
      rintro v t3 h3 ho3 ⟨y, hy', rfl⟩
      have hyr : Rng y := by
        simp only [List.mem_cons, List.not_mem_nil, or_false] at hy'
        rcases hy' with e | e | e | e | e
        · subst e; exact ⟨by omega, by omega⟩
        · subst e; exact ⟨by omega, by omega⟩
        · subst e; exact ⟨by omega, by omega⟩
        · subst e; exact ⟨by omega, by omega⟩
        · subst e; exact hs1
      simp (maxSteps := 2000000) (disch := first | (simp only [E4, xl, ol, nb1_b, nb2_b1, nb2_b, nb3_b2, nb3_b1, nb3_b] <;> omega) | omega | fail) only [↓E2, E3, bare, bareJ, ↓E0, E1, evP, evPlan, env0, envN, evOps, evOp, evQs, evQ, evV, setD, pureOp, ev, upd, updL, gate, binW, eqOp, binV, intOp, shOp, boolOp, unV, convV, nilV, fieldAddrV, indexAddrV, extractV, cellAt, cellsAt, findB, setB, fillL, buildV, Value.cells, lenV, minV, maxV, hav, sliceV, loV, hiV, bslQ, mksQ, appQ, partsOk, partsCells, delB, eqL, SameI, strOp, apzQ, cvtQ, capV, ↓reduceIte, Zj, Zk, Nat.reduceAdd, Nat.reduceLT, Nat.reduceEqDiff, Nat.reduceMul, Nat.reduceLeDiff, if_true, Zn, reduceCtorEq, ZA, eq_self, Int.reduceLE, Int.reduceLT, Int.reduceToNat, ne_eq, Nat.reduceSub, Tby2, Tfld32_0, Tld2, Tslc47, Tslce47, Tst2, Tzero2, xl, ol, nb1_b, nb2_b1, nb2_b, nb3_b2, nb3_b1, nb3_b]
      repeat refine And.intro (by omega) ?_
      repeat refine And.intro (by omega) ?_
      intro g
      simp only [List.map_cons, List.map_nil, updL, upd, Nat.reduceEqDiff, if_true, if_false, ↓reduceIte]
      refine hK _ _ ?_; clear hK K
      refine inBN ?_
      exact midN ⟨_, y, x, o, t3, h3, hyr, hx, hy, ho3, rfl, SubP.of (List.Sublist.cons _ (List.Sublist.refl _))⟩
    · refine Cd.rs [0, 3, 4, 6, 16] fun K hK => ?_
      simp (maxSteps := 2000000) (disch := first | (simp only [E4, xl, ol, nb1_b, nb2_b1, nb2_b] <;> omega) | omega | fail) only [↓E2, E3, bare, bareJ, ↓E0, E1, evP, evPlan, env0, envN, evOps, evOp, evQs, evQ, evV, setD, pureOp, ev, upd, updL, gate, binW, eqOp, binV, intOp, shOp, boolOp, unV, convV, nilV, fieldAddrV, indexAddrV, extractV, cellAt, cellsAt, findB, setB, fillL, buildV, Value.cells, lenV, minV, maxV, hav, sliceV, loV, hiV, bslQ, mksQ, appQ, partsOk, partsCells, delB, eqL, SameI, strOp, apzQ, cvtQ, capV, ↓reduceIte, Zj, Zk, Nat.reduceAdd, Nat.reduceLT, Nat.reduceEqDiff, Nat.reduceMul, Nat.reduceLeDiff, if_true, Zn, reduceCtorEq, ZA, eq_self, Int.reduceLE, Int.reduceLT, Int.reduceToNat, ne_eq, Nat.reduceSub, xl, ol, nb1_b, nb2_b1, nb2_b]
      repeat refine And.intro (by omega) ?_
      repeat refine And.intro (by omega) ?_
      intro g
      simp only [List.map_cons, List.map_nil, updL, upd, Nat.reduceEqDiff, if_true, if_false, ↓reduceIte]
      refine hK _ _ ?_; clear hK K
      refine Cd.cond rfl (fun c2 => ?_) (fun c2 => ?_)
      · refine Cd.rr [3, 4] fun K hK => ?_
        simp (maxSteps := 2000000) (disch := first | (simp only [E4, xl, ol, nb1_b, nb2_b1, nb2_b] <;> omega) | omega | fail) only [↓E2, E3, bare, bareJ, ↓E0, E1, evP, evPlan, env0, envN, evOps, evOp, evQs, evQ, evV, setD, pureOp, ev, upd, updL, gate, binW, eqOp, binV, intOp, shOp, boolOp, unV, convV, nilV, fieldAddrV, indexAddrV, extractV, cellAt, cellsAt, findB, setB, fillL, buildV, Value.cells, lenV, minV, maxV, hav, sliceV, loV, hiV, bslQ, mksQ, appQ, partsOk, partsCells, delB, eqL, SameI, strOp, apzQ, cvtQ, capV, ↓reduceIte, Zj, Zk, Nat.reduceAdd, Nat.reduceLT, Nat.reduceEqDiff, Nat.reduceMul, Nat.reduceLeDiff, if_true, Zn, reduceCtorEq, ZA, eq_self, Int.reduceLE, Int.reduceLT, Int.reduceToNat, ne_eq, Nat.reduceSub, Tarr30, Tfld32_2, Tint5, Tpar2, Tst5, xl, ol, nb1_b, nb2_b1, nb2_b]
        repeat refine And.intro (by omega) ?_
        refine callK_draw (hnx 8 ⟨by omega, by omega⟩) ho2 (by simp only [findB, nb1_b, nb2_b, if_true, if_false]) (Told.toldW hR) ?_
        rintro v t3 h3 ho3 ⟨p, rfl, p0, p1⟩
        obtain ⟨p, rfl⟩ : ∃ p' : Nat, p = (p' : Int) := ⟨p.toNat, by omega⟩
        simp (maxSteps := 2000000) (disch := first | (simp only [E4, xl, ol, nb1_b, nb2_b1, nb2_b] <;> omega) | omega | fail) only [↓E2, E3, bare, bareJ, ↓E0, E1, evP, evPlan, env0, envN, evOps, evOp, evQs, evQ, evV, setD, pureOp, ev, upd, updL, gate, binW, eqOp, binV, intOp, shOp, boolOp, unV, convV, nilV, fieldAddrV, indexAddrV, extractV, cellAt, cellsAt, findB, setB, fillL, buildV, Value.cells, lenV, minV, maxV, hav, sliceV, loV, hiV, bslQ, mksQ, appQ, partsOk, partsCells, delB, eqL, SameI, strOp, apzQ, cvtQ, capV, ↓reduceIte, Zj, Zk, Nat.reduceAdd, Nat.reduceLT, Nat.reduceEqDiff, Nat.reduceMul, Nat.reduceLeDiff, if_true, Zn, reduceCtorEq, ZA, eq_self, Int.reduceLE, Int.reduceLT, Int.reduceToNat, ne_eq, Nat.reduceSub, Tarr30, Tfld32_2, Tint5, Tpar2, Tst5, xl, ol, nb1_b, nb2_b1, nb2_b]
        repeat refine And.intro (by omega) ?_
        refine callK_draw (hnx 9 ⟨by omega, by omega⟩) ho3 (by simp only [findB, nb1_b, nb2_b, if_true, if_false]) (Told.toldW hR) ?_
        rintro v t4 h4 ho4 ⟨q, rfl, q0, q1⟩
        have p8 : p < 8 := by omega
        have q8 : q < 9 := by omega
        simp (maxSteps := 2000000) (disch := first | (simp only [E4, xl, ol, nb1_b, nb2_b1, nb2_b] <;> omega) | omega | fail) only [↓E2, E3, bare, bareJ, ↓E0, E1, evP, evPlan, env0, envN, evOps, evOp, evQs, evQ, evV, setD, pureOp, ev, upd, updL, gate, binW, eqOp, binV, intOp, shOp, boolOp, unV, convV, nilV, fieldAddrV, indexAddrV, extractV, cellAt, cellsAt, findB, setB, fillL, buildV, Value.cells, lenV, minV, maxV, hav, sliceV, loV, hiV, bslQ, mksQ, appQ, partsOk, partsCells, delB, eqL, SameI, strOp, apzQ, cvtQ, capV, ↓reduceIte, Zj, Zk, Nat.reduceAdd, Nat.reduceLT, Nat.reduceEqDiff, Nat.reduceMul, Nat.reduceLeDiff, if_true, Zn, reduceCtorEq, ZA, eq_self, Int.reduceLE, Int.reduceLT, Int.reduceToNat, ne_eq, Nat.reduceSub, Tarr30, Tfld32_2, Tint5, Tpar2, Tst5, xl, ol, nb1_b, nb2_b1, nb2_b]
        repeat refine And.intro (by omega) ?_
        repeat refine And.intro (by omega) ?_
        intro g
        simp only [List.map_cons, List.map_nil, updL, upd, Nat.reduceEqDiff, if_true, if_false, ↓reduceIte]
        refine hK _ _ ?_; clear hK K
        refine inBN ?_
        exact midN ⟨_, s, x, _, t4, h4, hs, hx, bytes_set hy (by omega) (by omega), ho4, rfl, SubP.refl _⟩
      · refine Cd.rs [3, 4, 25] fun K hK => ?_
        simp (maxSteps := 2000000) (disch := first | (simp only [E4, xl, ol, nb1_b, nb2_b1, nb2_b] <;> omega) | omega | fail) only [↓E2, E3, bare, bareJ, ↓E0, E1, evP, evPlan, env0, envN, evOps, evOp, evQs, evQ, evV, setD, pureOp, ev, upd, updL, gate, binW, eqOp, binV, intOp, shOp, boolOp, unV, convV, nilV, fieldAddrV, indexAddrV, extractV, cellAt, cellsAt, findB, setB, fillL, buildV, Value.cells, lenV, minV, maxV, hav, sliceV, loV, hiV, bslQ, mksQ, appQ, partsOk, partsCells, delB, eqL, SameI, strOp, apzQ, cvtQ, capV, ↓reduceIte, Zj, Zk, Nat.reduceAdd, Nat.reduceLT, Nat.reduceEqDiff, Nat.reduceMul, Nat.reduceLeDiff, if_true, Zn, reduceCtorEq, ZA, eq_self, Int.reduceLE, Int.reduceLT, Int.reduceToNat, ne_eq, Nat.reduceSub, xl, ol, nb1_b, nb2_b1, nb2_b]
        repeat refine And.intro (by omega) ?_
        repeat refine And.intro (by omega) ?_
        intro g
        simp only [List.map_cons, List.map_nil, updL, upd, Nat.reduceEqDiff, if_true, if_false, ↓reduceIte]
        refine hK _ _ ?_; clear hK K
        refine Cd.cond rfl (fun c3 => ?_) (fun c3 => ?_)
        · refine Cd.rr [3, 4] fun K hK => ?_
          simp (maxSteps := 2000000) (disch := first | (simp only [E4, xl, ol, nb1_b, nb2_b1, nb2_b] <;> omega) | omega | fail) only [↓E2, E3, bare, bareJ, ↓E0, E1, evP, evPlan, env0, envN, evOps, evOp, evQs, evQ, evV, setD, pureOp, ev, upd, updL, gate, binW, eqOp, binV, intOp, shOp, boolOp, unV, convV, nilV, fieldAddrV, indexAddrV, extractV, cellAt, cellsAt, findB, setB, fillL, buildV, Value.cells, lenV, minV, maxV, hav, sliceV, loV, hiV, bslQ, mksQ, appQ, partsOk, partsCells, delB, eqL, SameI, strOp, apzQ, cvtQ, capV, ↓reduceIte, Zj, Zk, Nat.reduceAdd, Nat.reduceLT, Nat.reduceEqDiff, Nat.reduceMul, Nat.reduceLeDiff, if_true, Zn, reduceCtorEq, ZA, eq_self, Int.reduceLE, Int.reduceLT, Int.reduceToNat, ne_eq, Nat.reduceSub, Tfld32_1, Tfld32_2, Tld30, Tst30, xl, ol, nb1_b, nb2_b1, nb2_b]
          repeat refine And.intro (by omega) ?_
          repeat refine And.intro (by omega) ?_
          intro g
          simp only [List.map_cons, List.map_nil, updL, upd, Nat.reduceEqDiff, if_true, if_false, ↓reduceIte]
          refine hK _ _ ?_; clear hK K
          refine inBN ?_
          exact midN ⟨_, s, o, o, t2, h2, hs, hy, hy, ho2, rfl, SubP.refl _⟩
        · refine Cd.skip ?_
          refine inBN ?_
          exact midN ⟨_, s, x, o, t2, h2, hs, hx, hy, ho2, (norm_of (by repeat (first | exact trivial | refine And.intro rfl ?_))), SubP.refl _⟩
  · rintro ρ M ⟨g, s, x, o, t, h, hs, hx, hy, ho, rfl, hM⟩
    have xl := hx.len
    have ol := hy.len
    skip
    refine Cd.sub hM ?_
    refine Cd.rs [4] fun K hK => ?_
    simp (maxSteps := 2000000) (disch := first | (simp only [E4, xl, ol, nb1_b, nb2_b1, nb2_b] <;> omega) | omega | fail) only [↓E2, E3, bare, bareJ, ↓E0, E1, evP, evPlan, env0, envN, evOps, evOp, evQs, evQ, evV, setD, pureOp, ev, upd, updL, gate, binW, eqOp, binV, intOp, shOp, boolOp, unV, convV, nilV, fieldAddrV, indexAddrV, extractV, cellAt, cellsAt, findB, setB, fillL, buildV, Value.cells, lenV, minV, maxV, hav, sliceV, loV, hiV, bslQ, mksQ, appQ, partsOk, partsCells, delB, eqL, SameI, strOp, apzQ, cvtQ, capV, ↓reduceIte, Zj, Zk, Nat.reduceAdd, Nat.reduceLT, Nat.reduceEqDiff, Nat.reduceMul, Nat.reduceLeDiff, if_true, Zn, reduceCtorEq, ZA, eq_self, Int.reduceLE, Int.reduceLT, Int.reduceToNat, ne_eq, Nat.reduceSub, Tld32, Tst32, xl, ol, nb1_b, nb2_b1, nb2_b]
    repeat refine And.intro (by omega) ?_
    repeat refine And.intro (by omega) ?_
    intro g
    simp only [List.map_cons, List.map_nil, updL, upd, Nat.reduceEqDiff, if_true, if_false, ↓reduceIte]
    refine hK _ _ ?_; clear hK K
    refine Cd.ret ?_
    simp (maxSteps := 2000000) (disch := first | (simp only [E4, xl, ol, nb1_b, nb2_b1, nb2_b] <;> omega) | omega | fail) only [↓E2, E3, bare, bareJ, ↓E0, E1, evP, evPlan, env0, envN, evOps, evOp, evQs, evQ, evV, setD, pureOp, ev, upd, updL, gate, binW, eqOp, binV, intOp, shOp, boolOp, unV, convV, nilV, fieldAddrV, indexAddrV, extractV, cellAt, cellsAt, findB, setB, fillL, buildV, Value.cells, lenV, minV, maxV, hav, sliceV, loV, hiV, bslQ, mksQ, appQ, partsOk, partsCells, delB, eqL, SameI, strOp, apzQ, cvtQ, capV, ↓reduceIte, Zj, Zk, Nat.reduceAdd, Nat.reduceLT, Nat.reduceEqDiff, Nat.reduceMul, Nat.reduceLeDiff, if_true, Zn, reduceCtorEq, ZA, eq_self, Int.reduceLE, Int.reduceLT, Int.reduceToNat, ne_eq, Nat.reduceSub, Tld32, xl, ol, nb1_b, nb2_b1, nb2_b]
    repeat refine And.intro (by omega) ?_
    exact ⟨t, h, ho, ⟨s, x, o, rfl, hs, hx, hy⟩, SubP.of (List.Sublist.cons _ (List.Sublist.cons _ (List.Sublist.refl _)))⟩
end

end Go.Proofs

