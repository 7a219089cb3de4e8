/-
  What the functions of this part hand back: each as a plain function of its arguments. Conditions: none.
-/
import Derived.Test.YtclfpogolgindacLZ
import Derived.ProofKit
import Derived.OpenShut
import Derived.Below
import Derived.ChangeSame
import Derived.Test.YtclfpogolgindacUopengrid
import Derived.Test.YtclfpogolgindacUopenmove
import Derived.Test.YtclfpogolgindacUlaukit
namespace Go.Proofs
open Go.W8
set_option linter.unusedVariables false
set_option linter.unusedSimpArgs false
set_option linter.unusedSectionVars false
set_option maxRecDepth 8000
set_option maxHeartbeats 4000000
--@plain
section
variable {H : Type} {enc : TypeId × Value → H} {P : Program} {w : World}
/-- A polynomial's type: a number and a slice of numbers. -/
structure LauT (P : Program) (t tn ts : TypeId) (f0 f1 : Field) : Prop where
  st : P.underlying t = some (.struct #[f0, f1])
  y0 : f0.type = tn
  y1 : f1.type = ts
  o0 : f0.offset = 0
  o1 : f1.offset = 1
  ct : P.cellsOf t = 2
  un : P.underlying tn = some (.int .i64)
  cn : P.cellsOf tn = 1
  us : P.underlying ts = some (.slice tn)
  cs : P.cellsOf ts = 1
  cells : P.cellTypes P.depth t = some [tn, ts]

theorem rng_wf {l : List Int} (h : ∀ n ∈ l, (Lit.int .i64 n).wf = true) : ∀ n ∈ l, Rng n := fun n hn => wf_i64.1 (h n hn)

theorem open_lau {t tn ts : TypeId} {f0 f1 : Field} (G : LauT P t tn ts f0 f1) {r : Reach} {b0 : Nat} {v : Value} {d : DataW H} {p : List MemPlace} (hv : Value.okWide P w r b0 t v) (h : DataW.Trod enc P w 0 (fun _ => true) true t v d p) :
    ∃ (low : Int) (l : List Int) (s : Value) (R : Rd), v = .agg #[.int .i64 low, s] ∧ Rng low ∧ (∀ n ∈ l, Rng n) ∧ l.length ≤ 9223372036854775807 ∧ InS R l s ∧ ToldW w R ∧
      ∀ (w' : World) (sp : Nat → Bool), Own [] w [] w' → (∀ q ∈ p, sp q.block = true) → DataW.Trod enc P w' 0 sp true t v d p := by
  obtain ⟨fuel, hf⟩ := h
  unfold Value.okWide at hv
  rw [G.st] at hv
  obtain ⟨cs, rfl, hsz, hrow⟩ := hv
  cases fuel with
  | zero => simp [DataW.trod] at hf
  | succ fuel =>
    unfold DataW.trod at hf
    rw [G.st] at hf
    simp only [Value.cells, G.ct] at hf
    split at hf
    · rename_i hl
      simp only [Option.map_eq_some_iff] at hf
      obtain ⟨xs, hm, hxs⟩ := hf
      simp only [List.mapM_cons, List.mapM_nil, G.y0, G.y1, G.o0, G.o1, G.cn, G.cs, List.drop_zero, Option.bind_eq_bind, Option.pure_def, Option.bind_eq_some_iff, Option.some.injEq] at hm
      obtain ⟨x0, h0, r0, ⟨x1, h1, r1, rfl, rfl⟩, rfl⟩ := hm
      obtain ⟨low, hlow, wlow, rfl⟩ := trod_int_inv G.un h0
      obtain ⟨c1, hc1⟩ : ∃ c1, cs.toList = [.int .i64 low, c1] := by
        generalize cs.toList = l at *
        match l, hl with
        | [a, b], _ => simp at hlow; exact ⟨b, by simp [hlow]⟩
      have hcs : cs = #[.int .i64 low, c1] := Array.toList_inj.1 hc1
      subst hcs
      have h1' : DataW.trod enc P w 0 (fun _ => true) true fuel ts [c1] = some x1 := h1
      have hspot : ∀ a len cap, c1 = .slice (some a) len cap → a.spot = none := by
        rintro a len cap rfl
        obtain ⟨tys, htys, _, hall⟩ := hrow
        rw [G.cells] at htys
        cases htys
        obtain ⟨u, hu, hok⟩ := hall 1 _ rfl
        have hu : ts = u := by simpa using hu
        subst hu
        unfold Cell.okWide at hok
        rw [G.us] at hok
        unfold Cell.ok at hok
        simp only [G.us] at hok
        exact hok.2.2.2.1
      simp only [Prod.mk.injEq] at hxs
      rcases Go.ChangeShapes.open_ints G.us G.un G.cn h1' with ⟨hc, rfl⟩ | ⟨a, len, cap, zs, hc, hb, hlc, hcm, hzl, rfl, hcell, hwf⟩
      · simp only [List.cons.injEq, and_true] at hc
        subst hc
        refine ⟨low, [], _, [], rfl, wf_i64.1 wlow, (fun _ h => nomatch h), by simp, ⟨none, 0, rfl, fun h => absurd rfl h⟩, toldW_nil, fun w' sp ho hsp => ⟨2, ?_⟩⟩
        unfold DataW.trod
        rw [G.st]
        have k0 : DataW.trod enc P w' 0 sp true 1 tn [.int .i64 low] = some (.lit (.int .i64 low), []) := trod_int_mk G.un wlow
        have k1 : DataW.trod enc P w' 0 sp true 1 ts [.slice none 0 0] = some (.nil, []) := by
          unfold DataW.trod
          simp [G.us]
        simp only [Value.cells, G.ct, G.y0, G.y1, G.o0, G.o1, G.cn, G.cs, List.mapM_cons, List.mapM_nil, List.drop_zero, List.take_succ_cons, List.take_zero, List.drop_succ_cons, k0, k1]
        simp [← hxs.1, ← hxs.2]
      · simp only [List.cons.injEq, and_true] at hc
        subst hc
        obtain ⟨b, off, spot⟩ := a
        have : spot = none := hspot _ _ _ rfl
        subst this
        simp only [if_true] at hzl
        have hlen : (zs.take len).length = len := by rw [List.length_take]; omega
        refine ⟨low, zs.take len, _, [(b, off, ints .i64 (zs.take len))], rfl, wf_i64.1 wlow, fun n hn => wf_i64.1 (hwf n (List.mem_of_mem_take hn)), by rw [hlen]; simp only [maxLen] at hcm; omega,
          ⟨some ⟨b, off, none⟩, cap, by rw [hlen], fun _ => ⟨b, off, rfl, List.mem_singleton.2 rfl⟩⟩, ?_, fun w' sp ho hsp => ⟨3, ?_⟩⟩
        · intro r hr j u hu
          rw [List.mem_singleton.1 hr] at hu ⊢
          simp only at hu ⊢
          have hj : j < len := by
            rcases Nat.lt_or_ge j len with h1 | h1
            · exact h1
            · rw [List.getElem?_eq_none (by rw [ints_length, hlen]; exact h1)] at hu; cases hu
          rw [ints_get (by rw [hlen]; exact hj)] at hu
          cases hu
          have := hcell j (by omega)
          rw [Addr.add_lit] at this
          rw [this]
          simp [List.getD_eq_getElem?_getD, List.getElem?_take, hj]
        · unfold DataW.trod
          rw [G.st]
          have k0 : DataW.trod enc P w' 0 sp true 2 tn [.int .i64 low] = some (.lit (.int .i64 low), []) := trod_int_mk G.un wlow
          have hblk : ∀ i, i < zs.length → w'.cell? ((⟨b, off, none⟩ : Addr).add i) = some (.int .i64 (zs.getD i 0)) := by
            intro i hi
            have h1 := hcell i hi
            have hbs : b < w.heap.size := by
              rw [Addr.add_lit] at h1
              exact cell_lt h1
            rw [Addr.add_lit] at h1 ⊢
            unfold World.cell? at h1 ⊢
            simp only at h1 ⊢
            rw [ho.frame b hbs (by simp)]
            exact h1
          have k1 : DataW.trod enc P w' 0 sp true 2 ts [.slice (some ⟨b, off, none⟩) len cap] = some (.slice (Go.ChangeShapes.lits .i64 (zs.take len)) (Go.ChangeShapes.lits .i64 (zs.drop len)), MemPlace.row ⟨b, off, none⟩ zs.length) := by
            refine Go.ChangeShapes.shut_ints 0 G.us G.un G.cn (Nat.zero_le _) hlc hcm ?_ hblk hwf
            by_cases hc0 : cap = 0
            · split <;> omega
            · have hin : ∃ q ∈ p, q.block = b := by
                rw [← hxs.2]
                refine ⟨.cell b off, ?_, rfl⟩
                unfold MemPlace.row
                simp only [List.append_nil, List.nil_append, List.flatMap_cons, List.flatMap_nil, List.mem_map, List.mem_range]
                exact ⟨0, by omega, rfl⟩
              obtain ⟨q, hq, rfl⟩ := hin
              rw [hsp q hq]
              exact hzl
          simp only [Value.cells, G.ct, G.y0, G.y1, G.o0, G.o1, G.cn, G.cs, List.mapM_cons, List.mapM_nil, List.drop_zero, List.take_succ_cons, List.take_zero, List.drop_succ_cons, k0, k1]
          simp [← hxs.1, ← hxs.2]
    · cases hf
end

end Go.Proofs
