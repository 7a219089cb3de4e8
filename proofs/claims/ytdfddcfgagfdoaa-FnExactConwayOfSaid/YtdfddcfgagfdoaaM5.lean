/-
  What the functions of this part hand back: each as a plain function of its arguments. Conditions: none.
-/
import Derived.ProofKit
import Derived.OpenShut
import Derived.Below
import Derived.ChangeSame
import Derived.Test.YtdfddcfgagfdoaaM1
import Derived.Test.YtdfddcfgagfdoaaM2
import Derived.Test.YtdfddcfgagfdoaaM3
import Derived.Test.YtdfddcfgagfdoaaM4
namespace Go.Proofs
open Go.W8
set_option linter.unusedVariables false
set_option linter.unusedSimpArgs false
set_option linter.unusedSectionVars false
set_option maxRecDepth 8000
set_option maxHeartbeats 4000000
--@plain
section
variable {H : Type} {enc : TypeId × Value → H} {P : Program} {w : World} {base : Nat} {spare : Nat → Bool} {held : Bool}

theorem trod_int_inv {e : TypeId} {k : IntKind} (hu : P.underlying e = some (.int k)) {fuel : Nat} {cs : List Value} {x : DataW H × List MemPlace} (h : DataW.trod enc P w base spare held fuel e cs = some x) :
    ∃ n, cs = [.int k n] ∧ (Lit.int k n).wf = true ∧ x = (.lit (.int k n), []) := by
  cases fuel with
  | zero => simp [DataW.trod] at h
  | succ fuel =>
    unfold DataW.trod at h
    rw [hu] at h
    split at h <;> simp_all only [Option.some.injEq, TypeDesc.int.injEq, reduceCtorEq]
    rename_i k1 k' n he
    split at h
    · rename_i hh
      obtain ⟨hk, hw⟩ := hh
      simp only [Option.some.injEq] at h
      refine ⟨n, ?_, ?_, ?_⟩
      · rw [hk]
      · exact hw
      · exact h.symm
    · cases h

theorem trod_int_mk {e : TypeId} {k : IntKind} (hu : P.underlying e = some (.int k)) {fuel : Nat} {n : Int} (hw : (Lit.int k n).wf = true) : DataW.trod enc P w base spare held (fuel + 1) e [.int k n] = some (.lit (.int k n), []) := by
  unfold DataW.trod
  rw [hu]
  simp [hw]

def toInt : Value → Int
  | .int _ n => n
  | _ => 0

theorem take_one {cs : List Value} {j : Nat} {v : Value} (h : (cs.drop j).take 1 = [v]) : cs[j]? = some v := by
  have : ((cs.drop j).take 1)[0]? = some v := by rw [h]; rfl
  simpa [List.getElem?_take, List.getElem?_drop] using this

theorem one_take {cs : List Value} {j : Nat} {v : Value} (h : cs[j]? = some v) : (cs.drop j).take 1 = [v] := by
  apply List.ext_getElem?
  intro i
  cases i with
  | zero => simpa [List.getElem?_take, List.getElem?_drop] using h
  | succ i => simp [List.getElem?_take]

theorem trod_ints_inv {t e : TypeId} {n : Nat} {k : IntKind} (ht : P.underlying t = some (.array n e)) (hu : P.underlying e = some (.int k)) (hc : P.cellsOf e = 1) (hn : P.cellsOf t = n) {fuel : Nat} {cs : List Value} {x : DataW H × List MemPlace}
    (h : DataW.trod enc P w base spare held fuel t cs = some x) :
    ∃ l : List Int, cs = ints k l ∧ l.length = n ∧ (∀ a ∈ l, (Lit.int k a).wf = true) ∧ x = (.agg (l.map fun a => .lit (.int k a)), []) := by
  cases fuel with
  | zero => simp [DataW.trod] at h
  | succ fuel =>
    unfold DataW.trod at h
    rw [ht] at h
    simp only [hn, hc, Nat.mul_one] at h
    split at h
    · rename_i hl
      simp only [Option.map_eq_some_iff] at h
      obtain ⟨r, hr, rfl⟩ := h
      obtain ⟨h1, h2⟩ := mapM_get hr
      rw [List.length_range] at h1
      have key : ∀ j, j < n → ∃ a, cs[j]? = some (.int k a) ∧ (Lit.int k a).wf = true ∧ r[j]? = some (.lit (.int k a), []) := by
        intro j hj
        have hrj : r[j]? = some r[j] := List.getElem?_eq_getElem (by omega)
        obtain ⟨y, hy, hf⟩ := h2 j _ hrj
        rw [List.getElem?_range hj] at hy
        simp only [Option.some.injEq] at hy
        subst hy
        obtain ⟨a, ha, hw, hx⟩ := trod_int_inv hu hf
        exact ⟨a, take_one ha, hw, by rw [hrj, hx]⟩
      refine ⟨cs.map toInt, ?_, by rw [List.length_map]; exact hl, ?_, ?_⟩
      · apply List.ext_getElem?
        intro j
        unfold ints
        rw [List.map_map, List.getElem?_map]
        by_cases hj : j < n
        · obtain ⟨a, ha, _, _⟩ := key j hj
          rw [ha]; rfl
        · rw [List.getElem?_eq_none (by omega)]; rfl
      · intro a ha
        obtain ⟨v, hv, rfl⟩ := List.mem_map.1 ha
        obtain ⟨j, hj⟩ := List.getElem?_of_mem hv
        have hjn : j < n := by
          rcases Nat.lt_or_ge j n with h | h
          · exact h
          · rw [List.getElem?_eq_none (by omega)] at hj; cases hj
        obtain ⟨a, ha, hw, _⟩ := key j hjn
        rw [ha] at hj
        simp only [Option.some.injEq] at hj
        rw [← hj]
        exact hw
      · have e1 : r.map (·.1) = (cs.map toInt).map fun a => (DataW.lit (.int k a) : DataW H) := by
          apply List.ext_getElem?
          intro j
          rw [List.map_map, List.getElem?_map, List.getElem?_map]
          by_cases hj : j < n
          · obtain ⟨a, ha, _, hr⟩ := key j hj
            rw [ha, hr]; rfl
          · rw [List.getElem?_eq_none (by omega), List.getElem?_eq_none (by omega)]; rfl
        have e2 : r.flatMap (·.2) = [] := by
          rw [List.flatMap_eq_nil_iff]
          intro y hy
          obtain ⟨j, hj⟩ := List.getElem?_of_mem hy
          have hjn : j < n := by
            rcases Nat.lt_or_ge j n with h | h
            · exact h
            · rw [List.getElem?_eq_none (by omega)] at hj; cases hj
          obtain ⟨a, _, _, hr⟩ := key j hjn
          rw [hr] at hj
          simp only [Option.some.injEq] at hj
          rw [← hj]
        rw [e1, e2]
    · cases h

theorem mapM_some {α β : Type} {f : α → Option β} {g : α → β} : ∀ {l : List α}, (∀ x ∈ l, f x = some (g x)) → l.mapM f = some (l.map g)
  | [], _ => rfl
  | a :: l, h => by
    rw [List.mapM_cons, h a List.mem_cons_self, mapM_some fun x hx => h x (List.mem_cons_of_mem _ hx)]
    rfl

theorem trod_ints_mk {t e : TypeId} {n : Nat} {k : IntKind} (ht : P.underlying t = some (.array n e)) (hu : P.underlying e = some (.int k)) (hc : P.cellsOf e = 1) (hn : P.cellsOf t = n) {fuel : Nat} {l : List Int} (hl : l.length = n)
    (hw : ∀ a ∈ l, (Lit.int k a).wf = true) : DataW.trod enc P w base spare held (fuel + 2) t (ints k l) = some (.agg (l.map fun a => .lit (.int k a)), []) := by
  unfold DataW.trod
  rw [ht]
  simp only [hn, hc, Nat.mul_one, ints_length, hl, if_true]
  have hm : (List.range n).mapM (fun i => DataW.trod enc P w base spare held (fuel + 1) e (((ints k l).drop i).take 1)) = some ((List.range n).map fun i => ((DataW.lit (.int k (l.getD i 0)) : DataW H), ([] : List MemPlace))) := by
    refine mapM_some fun i hi => ?_
    have hin : i < l.length := by rw [hl]; exact List.mem_range.1 hi
    rw [one_take (ints_get hin)]
    refine trod_int_mk hu (hw _ ?_)
    rw [List.getD_eq_getElem?_getD, List.getElem?_eq_getElem hin]
    exact List.getElem_mem hin
  rw [hm]
  simp only [Option.map_some, Option.some.injEq, Prod.mk.injEq]
  constructor
  · congr 1
    apply List.ext_getElem?
    intro j
    rw [List.map_map, List.getElem?_map, List.getElem?_map]
    by_cases hj : j < n
    · rw [List.getElem?_range hj, List.getElem?_eq_getElem (by omega)]
      simp [List.getD_eq_getElem?_getD, List.getElem?_eq_getElem (show j < l.length by omega)]
    · rw [List.getElem?_eq_none (by simpa using hj), List.getElem?_eq_none (by omega)]; rfl
  · rw [List.flatMap_eq_nil_iff]
    intro y hy
    obtain ⟨i, _, rfl⟩ := List.mem_map.1 hy
    rfl

/-- A grid's type. -/
structure GridT (P : Program) (t tn ta te : TypeId) (f0 f1 f2 : Field) : Prop where
  st : P.underlying t = some (.struct #[f0, f1, f2])
  y0 : f0.type = tn
  y1 : f1.type = ta
  y2 : f2.type = ta
  o0 : f0.offset = 0
  o1 : f1.offset = 1
  o2 : f2.offset = 9
  ct : P.cellsOf t = 17
  un : P.underlying tn = some (.int .i64)
  cn : P.cellsOf tn = 1
  ua : P.underlying ta = some (.array 8 te)
  ca : P.cellsOf ta = 8
  ue : P.underlying te = some (.int .u8)
  ce : P.cellsOf te = 1

def gridD (s : Int) (x o : List Int) : DataW H := .agg [.lit (.int .i64 s), .agg (x.map fun a => .lit (.int .u8 a)), .agg (o.map fun a => .lit (.int .u8 a))]

/-- A row of bytes. -/
structure Bytes8 (x : List Int) : Prop where
  len : x.length = 8
  lo : ∀ a ∈ x, 0 ≤ a
  hi : ∀ a ∈ x, a < 256

theorem wf_u8 {a : Int} : (Lit.int .u8 a).wf = true ↔ 0 ≤ a ∧ a < 256 := by
  simp [Lit.wf, IntKind.min, IntKind.max, IntKind.signed, IntKind.bits]; omega
theorem wf_i64 {a : Int} : (Lit.int .i64 a).wf = true ↔ -9223372036854775808 ≤ a ∧ a < 9223372036854775808 := by
  simp [Lit.wf, IntKind.min, IntKind.max, IntKind.signed, IntKind.bits]; omega

theorem open_grid {t tn ta te : TypeId} {f0 f1 f2 : Field} (G : GridT P t tn ta te f0 f1 f2) {r : Reach} {b0 : Nat} {v : Value} {d : DataW H} {p : List MemPlace} (hv : Value.okWide P w r b0 t v) (h : DataW.Trod enc P w base spare held t v d p) :
    ∃ s x o, v = .agg (gc s x o).toArray ∧ d = gridD s x o ∧ p = [] ∧ (-9223372036854775808 ≤ s ∧ s < 9223372036854775808) ∧ Bytes8 x ∧ Bytes8 o := by
  obtain ⟨fuel, hf⟩ := h
  unfold Value.okWide at hv
  rw [G.st] at hv
  obtain ⟨cs, rfl, hsz, _⟩ := hv
  cases fuel with
  | zero => simp [DataW.trod] at hf
  | succ fuel =>
    unfold DataW.trod at hf
    rw [G.st] at hf
    simp only [Value.cells, G.ct] at hf
    split at hf
    · rename_i hl
      simp only [Option.map_eq_some_iff] at hf
      obtain ⟨xs, hm, hxs⟩ := hf
      simp only [List.mapM_cons, List.mapM_nil, G.y0, G.y1, G.y2, G.o0, G.o1, G.o2, G.cn, G.ca, List.drop_zero, Option.bind_eq_bind, Option.pure_def, Option.bind_eq_some_iff, Option.some.injEq] at hm
      obtain ⟨a0, h0, r0, ⟨a1, h1, r1, ⟨a2, h2, r2, rfl, rfl⟩, rfl⟩, rfl⟩ := hm
      obtain ⟨s, hs, hws, rfl⟩ := trod_int_inv G.un h0
      obtain ⟨x, hx, hxl, hxw, rfl⟩ := trod_ints_inv G.ua G.ue G.ce G.ca h1
      obtain ⟨o, ho, hol, how, rfl⟩ := trod_ints_inv G.ua G.ue G.ce G.ca h2
      refine ⟨s, x, o, ?_, ?_, ?_, wf_i64.1 hws, ⟨hxl, fun a ha => (wf_u8.1 (hxw a ha)).1, fun a ha => (wf_u8.1 (hxw a ha)).2⟩, ⟨hol, fun a ha => (wf_u8.1 (how a ha)).1, fun a ha => (wf_u8.1 (how a ha)).2⟩⟩
      · congr 1
        apply Array.toList_inj.1
        show cs.toList = gc s x o
        unfold gc
        rw [← hx, ← ho]
        have e9 : cs.toList = cs.toList.take 1 ++ ((cs.toList.drop 1).take 8 ++ (cs.toList.drop 9).take 8) := by
          have hcl : (cs.toList.drop 9).length = 8 := by rw [List.length_drop]; omega
          have e : (cs.toList.drop 9).take 8 = cs.toList.drop 9 := List.take_of_length_le (by omega)
          rw [e]
          have e' : (cs.toList.drop 1).take 8 ++ cs.toList.drop 9 = cs.toList.drop 1 := by
            have : cs.toList.drop 9 = (cs.toList.drop 1).drop 8 := by rw [List.drop_drop]
            rw [this, List.take_append_drop]
          rw [e', List.take_append_drop]
        rw [hs] at e9
        exact e9
      · simp only [Prod.mk.injEq] at hxs
        exact hxs.1.symm
      · simp only [Prod.mk.injEq] at hxs
        exact hxs.2.symm
    · cases hf

theorem shut_grid {t tn ta te : TypeId} {f0 f1 f2 : Field} (G : GridT P t tn ta te f0 f1 f2) {s : Int} {x o : List Int} (hs : -9223372036854775808 ≤ s ∧ s < 9223372036854775808) (hx : Bytes8 x) (ho : Bytes8 o) :
    DataW.Trod enc P w base spare held t (.agg (gc s x o).toArray) (gridD s x o) [] := by
  refine ⟨3, ?_⟩
  unfold DataW.trod
  rw [G.st]
  simp only [Value.cells, G.ct, gc_length, hx.len, ho.len]
  have e0 : (gc s x o).take 1 = [.int .i64 s] := rfl
  have h0 : DataW.trod enc P w base spare held 2 tn ((gc s x o).take 1) = some (.lit (.int .i64 s), []) := by rw [e0]; exact trod_int_mk G.un (wf_i64.2 hs)
  have h1 : DataW.trod enc P w base spare held 2 ta (((gc s x o).drop 1).take 8) = some (.agg (x.map fun a => .lit (.int .u8 a)), []) := by
    rw [gc_take_x hx.len]; exact trod_ints_mk G.ua G.ue G.ce G.ca hx.len fun a ha => wf_u8.2 ⟨hx.lo a ha, hx.hi a ha⟩
  have h2 : DataW.trod enc P w base spare held 2 ta (((gc s x o).drop 9).take 8) = some (.agg (o.map fun a => .lit (.int .u8 a)), []) := by
    rw [gc_take_o hx.len ho.len]; exact trod_ints_mk G.ua G.ue G.ce G.ca ho.len fun a ha => wf_u8.2 ⟨ho.lo a ha, ho.hi a ha⟩
  simp only [G.y0, G.y1, G.y2, G.o0, G.o1, G.o2, G.cn, G.ca, List.drop_zero, List.mapM_cons, List.mapM_nil, h0, h1, h2, Option.bind_eq_bind, Option.bind_some, Option.pure_def, Option.map_some, Nat.reduceAdd, if_true]
  rfl

end

end Go.Proofs

/-
  What the functions of this part hand back: each as a plain function of its arguments. Conditions: none.
-/
namespace Go.Proofs
open Go.W8
set_option linter.unusedVariables false
set_option linter.unusedSimpArgs false
set_option linter.unusedSectionVars false
set_option maxRecDepth 8000
set_option maxHeartbeats 4000000
--@plain
section
variable {H : Type} {enc : TypeId × Value → H} {P : Program} {w : World} {base : Nat} {spare : Nat → Bool} {held : Bool}
/-- A move's type: six numbers. -/
structure MoveT (P : Program) (t tn : TypeId) (f0 f1 f2 f3 f4 f5 : Field) : Prop where
  st : P.underlying t = some (.struct #[f0, f1, f2, f3, f4, f5])
  y0 : f0.type = tn
  y1 : f1.type = tn
  y2 : f2.type = tn
  y3 : f3.type = tn
  y4 : f4.type = tn
  y5 : f5.type = tn
  o0 : f0.offset = 0
  o1 : f1.offset = 1
  o2 : f2.offset = 2
  o3 : f3.offset = 3
  o4 : f4.offset = 4
  o5 : f5.offset = 5
  ct : P.cellsOf t = 6
  un : P.underlying tn = some (.int .i64)
  cn : P.cellsOf tn = 1
def moveD (a b c d e f : Int) : DataW H := .agg [.lit (.int .i64 a), .lit (.int .i64 b), .lit (.int .i64 c), .lit (.int .i64 d), .lit (.int .i64 e), .lit (.int .i64 f)]
def Rng (a : Int) : Prop := -9223372036854775808 ≤ a ∧ a < 9223372036854775808

theorem open_move {t tn : TypeId} {f0 f1 f2 f3 f4 f5 : Field} (G : MoveT P t tn f0 f1 f2 f3 f4 f5) {r : Reach} {b0 : Nat} {v : Value} {dd : DataW H} {p : List MemPlace} (hv : Value.okWide P w r b0 t v) (h : DataW.Trod enc P w base spare held t v dd p) :
    ∃ a b c d e f, v = .agg #[.int .i64 a, .int .i64 b, .int .i64 c, .int .i64 d, .int .i64 e, .int .i64 f] ∧ dd = moveD a b c d e f ∧ p = [] ∧ Rng a ∧ Rng b ∧ Rng c ∧ Rng d ∧ Rng e ∧ Rng f := by
  obtain ⟨fuel, hf⟩ := h
  unfold Value.okWide at hv
  rw [G.st] at hv
  obtain ⟨cs, rfl, hsz, _⟩ := hv
  cases fuel with
  | zero => simp [DataW.trod] at hf
  | succ fuel =>
    unfold DataW.trod at hf
    rw [G.st] at hf
    simp only [Value.cells, G.ct] at hf
    split at hf
    · rename_i hl
      simp only [Option.map_eq_some_iff] at hf
      obtain ⟨xs, hm, hxs⟩ := hf
      simp only [List.mapM_cons, List.mapM_nil, G.y0, G.y1, G.y2, G.y3, G.y4, G.y5, G.o0, G.o1, G.o2, G.o3, G.o4, G.o5, G.cn, List.drop_zero, Option.bind_eq_bind, Option.pure_def, Option.bind_eq_some_iff, Option.some.injEq] at hm
      obtain ⟨a0, h0, r0, ⟨a1, h1, r1, ⟨a2, h2, r2, ⟨a3, h3, r3, ⟨a4, h4, r4, ⟨a5, h5, r5, rfl, rfl⟩, rfl⟩, rfl⟩, rfl⟩, rfl⟩, rfl⟩ := hm
      obtain ⟨a, ha, wa, rfl⟩ := trod_int_inv G.un h0
      obtain ⟨b, hb, wb, rfl⟩ := trod_int_inv G.un h1
      obtain ⟨c, hc, wc, rfl⟩ := trod_int_inv G.un h2
      obtain ⟨d, hd, wd, rfl⟩ := trod_int_inv G.un h3
      obtain ⟨e, he, we, rfl⟩ := trod_int_inv G.un h4
      obtain ⟨f, hf', wf, rfl⟩ := trod_int_inv G.un h5
      simp only [Prod.mk.injEq] at hxs
      refine ⟨a, b, c, d, e, f, ?_, hxs.1.symm, hxs.2.symm, wf_i64.1 wa, wf_i64.1 wb, wf_i64.1 wc, wf_i64.1 wd, wf_i64.1 we, wf_i64.1 wf⟩
      congr 1
      apply Array.toList_inj.1
      generalize cs.toList = l at *
      match l, hl with
      | [c0, c1, c2, c3, c4, c5], _ => simp at ha hb hc hd he hf'; simp [ha, hb, hc, hd, he, hf']
    · cases hf

theorem shut_move {t tn : TypeId} {f0 f1 f2 f3 f4 f5 : Field} (G : MoveT P t tn f0 f1 f2 f3 f4 f5) {a b c d e f : Int} (ha : Rng a) (hb : Rng b) (hc : Rng c) (hd : Rng d) (he : Rng e) (hf : Rng f) :
    DataW.Trod enc P w base spare held t (.agg #[.int .i64 a, .int .i64 b, .int .i64 c, .int .i64 d, .int .i64 e, .int .i64 f]) (moveD a b c d e f) [] := by
  refine ⟨2, ?_⟩
  unfold DataW.trod
  rw [G.st]
  have k := fun (v : Int) (hv : Rng v) => trod_int_mk (enc := enc) (w := w) (base := base) (spare := spare) (held := held) G.un (fuel := 0) (n := v) (wf_i64.2 hv)
  simp only [Value.cells, G.ct, G.y0, G.y1, G.y2, G.y3, G.y4, G.y5, G.o0, G.o1, G.o2, G.o3, G.o4, G.o5, G.cn, List.mapM_cons, List.mapM_nil]
  simp [k a ha, k b hb, k c hc, k d hd, k e he, k f hf, moveD]
end

end Go.Proofs

/-
  What the functions of this part hand back: each as a plain function of its arguments. Conditions: none.
-/
namespace Go.Proofs
open Go.W8
set_option linter.unusedVariables false
set_option linter.unusedSimpArgs false
set_option linter.unusedSectionVars false
set_option maxRecDepth 8000
set_option maxHeartbeats 4000000
--@plain
section
variable {H : Type} {enc : TypeId × Value → H} {P : Program} {w : World}
/-- A polynomial's type: a number and a slice of numbers. -/
structure LauT (P : Program) (t tn ts : TypeId) (f0 f1 : Field) : Prop where
  st : P.underlying t = some (.struct #[f0, f1])
  y0 : f0.type = tn
  y1 : f1.type = ts
  o0 : f0.offset = 0
  o1 : f1.offset = 1
  ct : P.cellsOf t = 2
  un : P.underlying tn = some (.int .i64)
  cn : P.cellsOf tn = 1
  us : P.underlying ts = some (.slice tn)
  cs : P.cellsOf ts = 1
  cells : P.cellTypes P.depth t = some [tn, ts]

theorem rng_wf {l : List Int} (h : ∀ n ∈ l, (Lit.int .i64 n).wf = true) : ∀ n ∈ l, Rng n := fun n hn => wf_i64.1 (h n hn)

theorem open_lau {t tn ts : TypeId} {f0 f1 : Field} (G : LauT P t tn ts f0 f1) {r : Reach} {b0 : Nat} {v : Value} {d : DataW H} {p : List MemPlace} (hv : Value.okWide P w r b0 t v) (h : DataW.Trod enc P w 0 (fun _ => true) true t v d p) :
    ∃ (low : Int) (l : List Int) (s : Value) (R : Rd), v = .agg #[.int .i64 low, s] ∧ Rng low ∧ (∀ n ∈ l, Rng n) ∧ l.length ≤ 9223372036854775807 ∧ InS R l s ∧ ToldW w R ∧
      ∀ (w' : World) (sp : Nat → Bool), Own [] w [] w' → (∀ q ∈ p, sp q.block = true) → DataW.Trod enc P w' 0 sp true t v d p := by
  obtain ⟨fuel, hf⟩ := h
  unfold Value.okWide at hv
  rw [G.st] at hv
  obtain ⟨cs, rfl, hsz, hrow⟩ := hv
  cases fuel with
  | zero => simp [DataW.trod] at hf
  | succ fuel =>
    unfold DataW.trod at hf
    rw [G.st] at hf
    simp only [Value.cells, G.ct] at hf
    split at hf
    · rename_i hl
      simp only [Option.map_eq_some_iff] at hf
      obtain ⟨xs, hm, hxs⟩ := hf
      simp only [List.mapM_cons, List.mapM_nil, G.y0, G.y1, G.o0, G.o1, G.cn, G.cs, List.drop_zero, Option.bind_eq_bind, Option.pure_def, Option.bind_eq_some_iff, Option.some.injEq] at hm
      obtain ⟨x0, h0, r0, ⟨x1, h1, r1, rfl, rfl⟩, rfl⟩ := hm
      obtain ⟨low, hlow, wlow, rfl⟩ := trod_int_inv G.un h0
      obtain ⟨c1, hc1⟩ : ∃ c1, cs.toList = [.int .i64 low, c1] := by
        generalize cs.toList = l at *
        match l, hl with
        | [a, b], _ => simp at hlow; exact ⟨b, by simp [hlow]⟩
      have hcs : cs = #[.int .i64 low, c1] := Array.toList_inj.1 hc1
      subst hcs
      have h1' : DataW.trod enc P w 0 (fun _ => true) true fuel ts [c1] = some x1 := h1
      have hspot : ∀ a len cap, c1 = .slice (some a) len cap → a.spot = none := by
        rintro a len cap rfl
        obtain ⟨tys, htys, _, hall⟩ := hrow
        rw [G.cells] at htys
        cases htys
        obtain ⟨u, hu, hok⟩ := hall 1 _ rfl
        have hu : ts = u := by simpa using hu
        subst hu
        unfold Cell.okWide at hok
        rw [G.us] at hok
        unfold Cell.ok at hok
        simp only [G.us] at hok
        exact hok.2.2.2.1
      simp only [Prod.mk.injEq] at hxs
      rcases Go.ChangeShapes.open_ints G.us G.un G.cn h1' with ⟨hc, rfl⟩ | ⟨a, len, cap, zs, hc, hb, hlc, hcm, hzl, rfl, hcell, hwf⟩
      · simp only [List.cons.injEq, and_true] at hc
        subst hc
        refine ⟨low, [], _, [], rfl, wf_i64.1 wlow, (fun _ h => nomatch h), by simp, ⟨none, 0, rfl, fun h => absurd rfl h⟩, toldW_nil, fun w' sp ho hsp => ⟨2, ?_⟩⟩
        unfold DataW.trod
        rw [G.st]
        have k0 : DataW.trod enc P w' 0 sp true 1 tn [.int .i64 low] = some (.lit (.int .i64 low), []) := trod_int_mk G.un wlow
        have k1 : DataW.trod enc P w' 0 sp true 1 ts [.slice none 0 0] = some (.nil, []) := by
          unfold DataW.trod
          simp [G.us]
        simp only [Value.cells, G.ct, G.y0, G.y1, G.o0, G.o1, G.cn, G.cs, List.mapM_cons, List.mapM_nil, List.drop_zero, List.take_succ_cons, List.take_zero, List.drop_succ_cons, k0, k1]
        simp [← hxs.1, ← hxs.2]
      · simp only [List.cons.injEq, and_true] at hc
        subst hc
        obtain ⟨b, off, spot⟩ := a
        have : spot = none := hspot _ _ _ rfl
        subst this
        simp only [if_true] at hzl
        have hlen : (zs.take len).length = len := by rw [List.length_take]; omega
        refine ⟨low, zs.take len, _, [(b, off, ints .i64 (zs.take len))], rfl, wf_i64.1 wlow, fun n hn => wf_i64.1 (hwf n (List.mem_of_mem_take hn)), by rw [hlen]; simp only [maxLen] at hcm; omega,
          ⟨some ⟨b, off, none⟩, cap, by rw [hlen], fun _ => ⟨b, off, rfl, List.mem_singleton.2 rfl⟩⟩, ?_, fun w' sp ho hsp => ⟨3, ?_⟩⟩
        · intro r hr j u hu
          rw [List.mem_singleton.1 hr] at hu ⊢
          simp only at hu ⊢
          have hj : j < len := by
            rcases Nat.lt_or_ge j len with h1 | h1
            · exact h1
            · rw [List.getElem?_eq_none (by rw [ints_length, hlen]; exact h1)] at hu; cases hu
          rw [ints_get (by rw [hlen]; exact hj)] at hu
          cases hu
          have := hcell j (by omega)
          rw [Addr.add_lit] at this
          rw [this]
          simp [List.getD_eq_getElem?_getD, List.getElem?_take, hj]
        · unfold DataW.trod
          rw [G.st]
          have k0 : DataW.trod enc P w' 0 sp true 2 tn [.int .i64 low] = some (.lit (.int .i64 low), []) := trod_int_mk G.un wlow
          have hblk : ∀ i, i < zs.length → w'.cell? ((⟨b, off, none⟩ : Addr).add i) = some (.int .i64 (zs.getD i 0)) := by
            intro i hi
            have h1 := hcell i hi
            have hbs : b < w.heap.size := by
              rw [Addr.add_lit] at h1
              exact cell_lt h1
            rw [Addr.add_lit] at h1 ⊢
            unfold World.cell? at h1 ⊢
            simp only at h1 ⊢
            rw [ho.frame b hbs (by simp)]
            exact h1
          have k1 : DataW.trod enc P w' 0 sp true 2 ts [.slice (some ⟨b, off, none⟩) len cap] = some (.slice (Go.ChangeShapes.lits .i64 (zs.take len)) (Go.ChangeShapes.lits .i64 (zs.drop len)), MemPlace.row ⟨b, off, none⟩ zs.length) := by
            refine Go.ChangeShapes.shut_ints 0 G.us G.un G.cn (Nat.zero_le _) hlc hcm ?_ hblk hwf
            by_cases hc0 : cap = 0
            · split <;> omega
            · have hin : ∃ q ∈ p, q.block = b := by
                rw [← hxs.2]
                refine ⟨.cell b off, ?_, rfl⟩
                unfold MemPlace.row
                simp only [List.append_nil, List.nil_append, List.flatMap_cons, List.flatMap_nil, List.mem_map, List.mem_range]
                exact ⟨0, by omega, rfl⟩
              obtain ⟨q, hq, rfl⟩ := hin
              rw [hsp q hq]
              exact hzl
          simp only [Value.cells, G.ct, G.y0, G.y1, G.o0, G.o1, G.cn, G.cs, List.mapM_cons, List.mapM_nil, List.drop_zero, List.take_succ_cons, List.take_zero, List.drop_succ_cons, k0, k1]
          simp [← hxs.1, ← hxs.2]
    · cases hf
end

end Go.Proofs

