/-
  'laws.FnExactConwayOf' returns true whatever its arguments: the program's ConwayOf returns what the reference's returns, for every polynomial, and leaves its argument as it was. Conditions: none.
-/
import Derived.Test.YtdfddcfgagfdoaaRows
import Derived.Test.YtdfddcfgagfdoaaM1
import Derived.Test.YtdfddcfgagfdoaaM2
import Derived.Test.YtdfddcfgagfdoaaM3
import Derived.Test.YtdfddcfgagfdoaaM4
import Derived.Test.YtdfddcfgagfdoaaM5
namespace Go.Proofs.Ytdfddcfgagfdoaa.fnExactConwayOf
open Go.ChangeShapes Go.WideShapes Go.ChangeAt Go.RowKit Go.W8
set_option linter.unusedVariables false

theorem own : ownKnob Try.prog.godebug = none := by kernel_rfl
theorem lauT : ∃ f0 f1, LauT Try.prog 61 2 47 f0 f1 := ⟨_, _, Try.underlying61, rfl, rfl, rfl, rfl, by kernel_rfl, Try.underlying2, by kernel_rfl, Try.underlying47, by kernel_rfl, by kernel_rfl⟩

theorem walk (low0 : Int) (wl0 : Rng low0) (l0 : List Int) (rl0 : ∀ n ∈ l0, Rng n) (bl0 : l0.length ≤ 9223372036854775807) (s0 : Value) (R0 : Rd) (in0 : InS R0 l0 s0) (w : World) (hw : ToldW w (R0)) :
    Calls Try.prog 8 #[.agg #[.int .i64 low0, s0]] w fun e w' => e = .returned (.bool true) ∧ Own [] w [] w' := (lawConwayOf_c (R0) low0 l0 s0 wl0 rl0 (in0.more (by intro r hr; simp [hr])) bl0).2 w hw

set_option maxRecDepth 100000 in
theorem lifted (os : Os) (started : os.Started) (H : Type) (enc : TypeId × Value → H) :
    ReturnsInHanded {} Try.checked os 8 .any (Rows.fnExactConwayOfSpec.pre6 enc Try.prog Try.f8 Rows.fnExactConwayOfRow.domain false) (Rows.fnExactConwayOfSpec.post enc Try.prog Try.f8 false true false false) := by
  refine returnsInHanded_of_change (C := Try.checked) own started (by kernel_rfl) Try.func8
    (ChangeSpec.witness6 (enc := enc) (C := Try.checked) false ⟨#[], #[.agg #[.int .i64 0, .slice none 0 0]], []⟩ 8 (by kernel_rfl) (by kernel_rfl) (by kernel_rfl) (by kernel_rfl)) ?_
  intro W base args ds gs before hval0 hW hcnd _
  have hval : ∀ (j : Nat) t v, Try.f8.params[j]? = some t → args[j]? = some v → Value.okWide Try.prog W .any base t v := hval0
  have hW' := hW
  obtain ⟨p, q, hA0, hV, rfl, hfz, hnd⟩ := hW
  have hA : DataW.TrodAll enc Try.prog W 0 (fun _ => true) true Try.f8.params.toList args.toList ds p := hA0
  rw [Try.params8] at hA hval
  obtain ⟨v0, vs0, d0, ds0, p0, q0, hargs, rfl, rfl, h0, r0⟩ := trodAll_cons hA
  obtain ⟨rfl, rfl, rfl⟩ := trodAll_nil r0
  obtain rfl : args = #[v0] := by cases args; simp_all
  obtain ⟨rfl, rfl⟩ := trodVars_none hV
  obtain ⟨low0, l0, s0, R0, rfl, wl0, rl0, bl0, in0, tw0, re0⟩ := open_lau lauT.choose_spec.choose_spec (hval 0 61 v0 rfl rfl) h0
  clear hA0 hval0
  skip
  refine (walk low0 wl0 l0 rl0 bl0 s0 R0 in0 W tw0).mono fun e W' ⟨he, hg⟩ => ?_
  subst he
  exact ⟨_, rfl, post_own (pa := _) (pv := []) hW' (fun _ _ _ => (trodAll_cons_mk (shut_bool Try.underlying4 _) trodAll_mk0)) (fun sp hsp => (trodAll_cons_mk (re0 _ sp hg (fun q hq => hsp q (by simp [hq]))) trodAll_mk0)) (fun _ _ => rfl) rfl
    hg (ok_one (by kernel_rfl) rfl (okWide_bool_mk Try.underlying4 _))⟩

theorem over : Rows.fnExactConwayOfRow.holds Try.pinned (OpenSpec.ofChange Rows.fnExactConwayOfSpec) :=
  OpenClaim.holds_of_wide 8 Try.f8 rfl rfl rfl rfl rfl rfl rfl ⟨rfl, rfl, rfl, rfl, rfl⟩ rfl rfl rfl rfl rfl (by kernel_rfl) Try.func8 (by kernel_rfl)
    (of_decide_eq_true (by kernel_rfl)) (by unfold Func.isWrapper; first | (rw [if_pos (by decide +kernel)]; kernel_rfl) | (rw [if_neg (by decide +kernel)]; exact ⟨rfl, rfl⟩))
    (fun os started H enc _ => lifted os started H enc)

theorem proved : Rows.FnExactConwayOfSaid :=
  over
end Go.Proofs.Ytdfddcfgagfdoaa.fnExactConwayOf
