/-
  'laws.FnExactArfOf' returns true whatever its arguments: the program's ArfOf returns what the reference's returns, for every grid. Conditions: none.
-/
import Derived.Test.YtchbkidlmcpiiaaRows
import Derived.Test.YtchbkidlmcpiiaaM1
import Derived.Test.YtchbkidlmcpiiaaM2
import Derived.Test.YtchbkidlmcpiiaaM3
import Derived.Test.YtchbkidlmcpiiaaM4
import Derived.Test.YtchbkidlmcpiiaaM5
import Derived.Test.YtchbkidlmcpiiaaM6
namespace Go.Proofs.Ytchbkidlmcpiiaa.fnExactArfOf
open Go.ChangeShapes Go.WideShapes Go.ChangeAt Go.RowKit Go.W8
set_option linter.unusedVariables false

theorem own : ownKnob Try.prog.godebug = none := by kernel_rfl
theorem gridT : ∃ f0 f1 f2, GridT Try.prog 24 2 22 5 f0 f1 f2 := ⟨_, _, _, Try.underlying24, rfl, rfl, rfl, rfl, rfl, rfl, by kernel_rfl, Try.underlying2, by kernel_rfl, Try.underlying22, by kernel_rfl, Try.underlying5, by kernel_rfl⟩

theorem walk (s0 : Int) (x0 o0 : List Int) (w0 : -9223372036854775808 ≤ s0 ∧ s0 < 9223372036854775808) (y0 : Bytes8 x0) (z0 : Bytes8 o0) (w : World) :
    Calls Try.prog 3 #[.agg (gc s0 x0 o0).toArray] w fun e w' => e = .returned (.bool true) ∧ Own [] w [] w' := (lawArfOf_c s0 x0 o0 w0 y0 z0).2 w

set_option maxRecDepth 100000 in
theorem lifted (os : Os) (started : os.Started) (H : Type) (enc : TypeId × Value → H) :
    ReturnsInHanded {} Try.checked os 3 .any (Rows.fnExactArfOfSpec.pre6 enc Try.prog Try.f3 Rows.fnExactArfOfRow.domain false) (Rows.fnExactArfOfSpec.post enc Try.prog Try.f3 false true false false) := by
  refine returnsInHanded_of_change (C := Try.checked) own started (by kernel_rfl) Try.func3
    (ChangeSpec.witness6 (enc := enc) (C := Try.checked) false ⟨#[], #[.agg #[.int .i64 0, .int .u8 0, .int .u8 0, .int .u8 0, .int .u8 0, .int .u8 0, .int .u8 0, .int .u8 0, .int .u8 0, .int .u8 0, .int .u8 0, .int .u8 0, .int .u8 0, .int .u8 0, .int .u8 0, .int .u8 0, .int .u8 0]], []⟩ 8 (by kernel_rfl) (by kernel_rfl) (by kernel_rfl) (by kernel_rfl)) ?_
  intro W base args ds gs before hval0 hW hcnd _
  have hval : ∀ (j : Nat) t v, Try.f3.params[j]? = some t → args[j]? = some v → Value.okWide Try.prog W .any base t v := hval0
  have hW' := hW
  obtain ⟨p, q, hA0, hV, rfl, hfz, hnd⟩ := hW
  have hA : DataW.TrodAll enc Try.prog W 0 (fun _ => true) true Try.f3.params.toList args.toList ds p := hA0
  rw [Try.params3] at hA hval
  obtain ⟨v0, vs0, d0, ds0, p0, q0, hargs, rfl, rfl, h0, r0⟩ := trodAll_cons hA
  obtain ⟨rfl, rfl, rfl⟩ := trodAll_nil r0
  obtain rfl : args = #[v0] := by cases args; simp_all
  obtain ⟨rfl, rfl⟩ := trodVars_none hV
  obtain ⟨s0, x0, o0, rfl, rfl, rfl, w0, y0, z0⟩ := open_grid gridT.choose_spec.choose_spec.choose_spec (hval 0 24 v0 rfl rfl) h0
  clear hA0 hval0
  simp only [List.append_nil] at hW'
  refine (walk s0 x0 o0 w0 y0 z0 W).mono fun e W' ⟨he, hg⟩ => ?_
  subst he
  exact ⟨_, rfl, post_own (pa := []) (pv := []) hW' (fun _ _ _ => (trodAll_cons_mk (shut_bool Try.underlying4 _) trodAll_mk0)) (fun sp hsp => (trodAll_cons_mk (shut_grid gridT.choose_spec.choose_spec.choose_spec w0 y0 z0) trodAll_mk0)) (fun _ _ => rfl) rfl
    hg (ok_one (by kernel_rfl) rfl (okWide_bool_mk Try.underlying4 _))⟩

theorem over : Rows.fnExactArfOfRow.holds Try.pinned (OpenSpec.ofChange Rows.fnExactArfOfSpec) :=
  OpenClaim.holds_of_wide 3 Try.f3 rfl rfl rfl rfl rfl rfl rfl ⟨rfl, rfl, rfl, rfl, rfl⟩ rfl rfl rfl rfl rfl (by kernel_rfl) Try.func3 (by kernel_rfl)
    (of_decide_eq_true (by kernel_rfl)) (by unfold Func.isWrapper; first | (rw [if_pos (by decide +kernel)]; kernel_rfl) | (rw [if_neg (by decide +kernel)]; exact ⟨rfl, rfl⟩))
    (fun os started H enc _ => lifted os started H enc)

theorem proved : Rows.FnExactArfOfSaid :=
  over
end Go.Proofs.Ytchbkidlmcpiiaa.fnExactArfOf
