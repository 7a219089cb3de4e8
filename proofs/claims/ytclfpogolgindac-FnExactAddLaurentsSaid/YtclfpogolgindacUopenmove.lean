/-
  What the functions of this part hand back: each as a plain function of its arguments. Conditions: none.
-/
import Derived.Test.YtclfpogolgindacLZ
import Derived.ProofKit
import Derived.OpenShut
import Derived.Below
import Derived.ChangeSame
import Derived.Test.YtclfpogolgindacUopengrid
namespace Go.Proofs
open Go.W8
set_option linter.unusedVariables false
set_option linter.unusedSimpArgs false
set_option linter.unusedSectionVars false
set_option maxRecDepth 8000
set_option maxHeartbeats 4000000
--@plain
section
variable {H : Type} {enc : TypeId × Value → H} {P : Program} {w : World} {base : Nat} {spare : Nat → Bool} {held : Bool}
/-- A move's type: six numbers. -/
structure MoveT (P : Program) (t tn : TypeId) (f0 f1 f2 f3 f4 f5 : Field) : Prop where
  st : P.underlying t = some (.struct #[f0, f1, f2, f3, f4, f5])
  y0 : f0.type = tn
  y1 : f1.type = tn
  y2 : f2.type = tn
  y3 : f3.type = tn
  y4 : f4.type = tn
  y5 : f5.type = tn
  o0 : f0.offset = 0
  o1 : f1.offset = 1
  o2 : f2.offset = 2
  o3 : f3.offset = 3
  o4 : f4.offset = 4
  o5 : f5.offset = 5
  ct : P.cellsOf t = 6
  un : P.underlying tn = some (.int .i64)
  cn : P.cellsOf tn = 1
def moveD (a b c d e f : Int) : DataW H := .agg [.lit (.int .i64 a), .lit (.int .i64 b), .lit (.int .i64 c), .lit (.int .i64 d), .lit (.int .i64 e), .lit (.int .i64 f)]
def Rng (a : Int) : Prop := -9223372036854775808 ≤ a ∧ a < 9223372036854775808

theorem open_move {t tn : TypeId} {f0 f1 f2 f3 f4 f5 : Field} (G : MoveT P t tn f0 f1 f2 f3 f4 f5) {r : Reach} {b0 : Nat} {v : Value} {dd : DataW H} {p : List MemPlace} (hv : Value.okWide P w r b0 t v) (h : DataW.Trod enc P w base spare held t v dd p) :
    ∃ a b c d e f, v = .agg #[.int .i64 a, .int .i64 b, .int .i64 c, .int .i64 d, .int .i64 e, .int .i64 f] ∧ dd = moveD a b c d e f ∧ p = [] ∧ Rng a ∧ Rng b ∧ Rng c ∧ Rng d ∧ Rng e ∧ Rng f := by
  obtain ⟨fuel, hf⟩ := h
  unfold Value.okWide at hv
  rw [G.st] at hv
  obtain ⟨cs, rfl, hsz, _⟩ := hv
  cases fuel with
  | zero => simp [DataW.trod] at hf
  | succ fuel =>
    unfold DataW.trod at hf
    rw [G.st] at hf
    simp only [Value.cells, G.ct] at hf
    split at hf
    · rename_i hl
      simp only [Option.map_eq_some_iff] at hf
      obtain ⟨xs, hm, hxs⟩ := hf
      simp only [List.mapM_cons, List.mapM_nil, G.y0, G.y1, G.y2, G.y3, G.y4, G.y5, G.o0, G.o1, G.o2, G.o3, G.o4, G.o5, G.cn, List.drop_zero, Option.bind_eq_bind, Option.pure_def, Option.bind_eq_some_iff, Option.some.injEq] at hm
      obtain ⟨a0, h0, r0, ⟨a1, h1, r1, ⟨a2, h2, r2, ⟨a3, h3, r3, ⟨a4, h4, r4, ⟨a5, h5, r5, rfl, rfl⟩, rfl⟩, rfl⟩, rfl⟩, rfl⟩, rfl⟩ := hm
      obtain ⟨a, ha, wa, rfl⟩ := trod_int_inv G.un h0
      obtain ⟨b, hb, wb, rfl⟩ := trod_int_inv G.un h1
      obtain ⟨c, hc, wc, rfl⟩ := trod_int_inv G.un h2
      obtain ⟨d, hd, wd, rfl⟩ := trod_int_inv G.un h3
      obtain ⟨e, he, we, rfl⟩ := trod_int_inv G.un h4
      obtain ⟨f, hf', wf, rfl⟩ := trod_int_inv G.un h5
      simp only [Prod.mk.injEq] at hxs
      refine ⟨a, b, c, d, e, f, ?_, hxs.1.symm, hxs.2.symm, wf_i64.1 wa, wf_i64.1 wb, wf_i64.1 wc, wf_i64.1 wd, wf_i64.1 we, wf_i64.1 wf⟩
      congr 1
      apply Array.toList_inj.1
      generalize cs.toList = l at *
      match l, hl with
      | [c0, c1, c2, c3, c4, c5], _ => simp at ha hb hc hd he hf'; simp [ha, hb, hc, hd, he, hf']
    · cases hf

theorem shut_move {t tn : TypeId} {f0 f1 f2 f3 f4 f5 : Field} (G : MoveT P t tn f0 f1 f2 f3 f4 f5) {a b c d e f : Int} (ha : Rng a) (hb : Rng b) (hc : Rng c) (hd : Rng d) (he : Rng e) (hf : Rng f) :
    DataW.Trod enc P w base spare held t (.agg #[.int .i64 a, .int .i64 b, .int .i64 c, .int .i64 d, .int .i64 e, .int .i64 f]) (moveD a b c d e f) [] := by
  refine ⟨2, ?_⟩
  unfold DataW.trod
  rw [G.st]
  have k := fun (v : Int) (hv : Rng v) => trod_int_mk (enc := enc) (w := w) (base := base) (spare := spare) (held := held) G.un (fuel := 0) (n := v) (wf_i64.2 hv)
  simp only [Value.cells, G.ct, G.y0, G.y1, G.y2, G.y3, G.y4, G.y5, G.o0, G.o1, G.o2, G.o3, G.o4, G.o5, G.cn, List.mapM_cons, List.mapM_nil]
  simp [k a ha, k b hb, k c hc, k d hd, k e he, k f hf, moveD]
end

end Go.Proofs
