/-
  'laws.FnStabilizations' returns true whatever its arguments: destabilizing undoes stabilizing, places are those at which it can be done, stabilized grids have as many components, and the program's answers are the reference's, for every grid that is drawn. Conditions: none.
-/
import Derived.Test.YtdfddcfgagfdoaaRows
import Derived.Test.YtdfddcfgagfdoaaM1
import Derived.Test.YtdfddcfgagfdoaaM2
import Derived.Test.YtdfddcfgagfdoaaM3
import Derived.Test.YtdfddcfgagfdoaaM4
import Derived.Test.YtdfddcfgagfdoaaM5
import Derived.Test.YtdfddcfgagfdoaaM6
namespace Go.Proofs.Ytdfddcfgagfdoaa.fnStabilizations
open Go.ChangeShapes Go.WideShapes Go.ChangeAt Go.RowKit Go.W8
set_option linter.unusedVariables false

theorem own : ownKnob Try.prog.godebug = none := by kernel_rfl

theorem walk (l0 : List Int) (hb0 : ∀ k, k < l0.length → 0 ≤ l0.getD k 0 ∧ l0.getD k 0 < 256) (bl0 : l0.length ≤ 9223372036854775807) (s0 : Value) (R0 : Rd) (in0 : InB R0 l0 s0) (ne0 : ∀ r ∈ R0, r.2.2 ≠ []) (w : World) (hw : ToldW w (R0)) :
    Calls Try.prog 4 #[s0] w fun e w' => e = .returned (.bool true) ∧ Own [] w [] w' := (lawStab_c (R0) l0 hb0 bl0 s0 (in0.more (by intro r hr; simp [hr])) ne0).2 w hw

set_option maxRecDepth 100000 in
theorem lifted (os : Os) (started : os.Started) (H : Type) (enc : TypeId × Value → H) :
    ReturnsInHanded {} Try.checked os 4 .any (Rows.fnStabilizationsSpec.pre6 enc Try.prog Try.f4 Rows.fnStabilizationsRow.domain false) (Rows.fnStabilizationsSpec.post enc Try.prog Try.f4 false true false false) := by
  refine returnsInHanded_of_change (C := Try.checked) own started (by kernel_rfl) Try.func4
    (ChangeSpec.witness6 (enc := enc) (C := Try.checked) false ⟨#[], #[.slice none 0 0], []⟩ 8 (by kernel_rfl) (by kernel_rfl) (by kernel_rfl) (by kernel_rfl)) ?_
  intro W base args ds gs before hval0 hW hcnd _
  have hval : ∀ (j : Nat) t v, Try.f4.params[j]? = some t → args[j]? = some v → Value.okWide Try.prog W .any base t v := hval0
  have hW' := hW
  obtain ⟨p, q, hA0, hV, rfl, hfz, hnd⟩ := hW
  have hA : DataW.TrodAll enc Try.prog W 0 (fun _ => true) true Try.f4.params.toList args.toList ds p := hA0
  rw [Try.params4] at hA hval
  obtain ⟨v0, vs0, d0, ds0, p0, q0, hargs, rfl, rfl, h0, r0⟩ := trodAll_cons hA
  obtain ⟨rfl, rfl, rfl⟩ := trodAll_nil r0
  obtain rfl : args = #[v0] := by cases args; simp_all
  obtain ⟨rfl, rfl⟩ := trodVars_none hV
  obtain ⟨l0, R0, hb0, bl0, in0, ne0, tw0, re0⟩ := open_bytesS Try.underlying28 Try.underlying5 (by kernel_rfl) (hval 0 28 v0 rfl rfl) h0
  clear hA0 hval0
  skip
  refine (walk l0 hb0 bl0 v0 R0 in0 ne0 W tw0).mono fun e W' ⟨he, hg⟩ => ?_
  subst he
  exact ⟨_, rfl, post_own (pa := _) (pv := []) hW' (fun _ _ _ => (trodAll_cons_mk (shut_bool Try.underlying4 _) trodAll_mk0)) (fun sp hsp => (trodAll_cons_mk (re0 _ sp hg (fun q hq => hsp q (by simp [hq]))) trodAll_mk0)) (fun _ _ => rfl) rfl
    hg (ok_one (by kernel_rfl) rfl (okWide_bool_mk Try.underlying4 _))⟩

theorem over : Rows.fnStabilizationsRow.holds Try.pinned (OpenSpec.ofChange Rows.fnStabilizationsSpec) :=
  OpenClaim.holds_of_wide 4 Try.f4 rfl rfl rfl rfl rfl rfl rfl ⟨rfl, rfl, rfl, rfl, rfl⟩ rfl rfl rfl rfl rfl (by kernel_rfl) Try.func4 (by kernel_rfl)
    (of_decide_eq_true (by kernel_rfl)) (by unfold Func.isWrapper; first | (rw [if_pos (by decide +kernel)]; kernel_rfl) | (rw [if_neg (by decide +kernel)]; exact ⟨rfl, rfl⟩))
    (fun os started H enc _ => lifted os started H enc)

theorem proved : Rows.FnStabilizationsSaid :=
  over
end Go.Proofs.Ytdfddcfgagfdoaa.fnStabilizations
