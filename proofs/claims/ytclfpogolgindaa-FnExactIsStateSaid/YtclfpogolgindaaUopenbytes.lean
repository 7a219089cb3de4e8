/-
  What the functions of this part hand back: each as a plain function of its arguments. Conditions: none.
-/
import Derived.Test.YtclfpogolgindaaLX
import Derived.ProofKit
import Derived.OpenShut
import Derived.Below
import Derived.ChangeSame
import Derived.Test.YtclfpogolgindaaUopengrid
namespace Go.Proofs
open Go.W8
set_option linter.unusedVariables false
set_option linter.unusedSimpArgs false
set_option linter.unusedSectionVars false
set_option maxRecDepth 8000
--@plain
section
variable {H : Type} {enc : TypeId × Value → H} {P : Program} {w : World} {base : Nat} {spare : Nat → Bool} {held : Bool}
def bytesD (x : List Int) : DataW H := .agg (x.map fun a => .lit (.int .u8 a))
theorem open_bytes8 {t te : TypeId} (ht : P.underlying t = some (.array 8 te)) (hu : P.underlying te = some (.int .u8)) (hc : P.cellsOf te = 1) (hn : P.cellsOf t = 8) {r : Reach} {b0 : Nat} {v : Value} {d : DataW H} {p : List MemPlace} (hv : Value.okWide P w r b0 t v) (h : DataW.Trod enc P w base spare held t v d p) :
    ∃ x, v = .agg (ints .u8 x).toArray ∧ d = bytesD x ∧ p = [] ∧ Bytes8 x := by
  obtain ⟨fuel, hf⟩ := h
  unfold Value.okWide at hv
  rw [ht] at hv
  obtain ⟨cs, rfl, hsz, _⟩ := hv
  obtain ⟨l, hcs, hl, hw, hx⟩ := trod_ints_inv ht hu hc hn hf
  simp only [Prod.mk.injEq] at hx
  refine ⟨l, ?_, hx.1, hx.2, ⟨hl, fun a ha => (wf_u8.1 (hw a ha)).1, fun a ha => (wf_u8.1 (hw a ha)).2⟩⟩
  congr 1
  apply Array.toList_inj.1
  exact hcs
theorem shut_bytes8 {t te : TypeId} (ht : P.underlying t = some (.array 8 te)) (hu : P.underlying te = some (.int .u8)) (hc : P.cellsOf te = 1) (hn : P.cellsOf t = 8) {x : List Int} (hx : Bytes8 x) :
    DataW.Trod enc P w base spare held t (.agg (ints .u8 x).toArray) (bytesD x) [] :=
  ⟨2, trod_ints_mk ht hu hc hn hx.len fun a ha => wf_u8.2 ⟨hx.lo a ha, hx.hi a ha⟩⟩
end

end Go.Proofs
