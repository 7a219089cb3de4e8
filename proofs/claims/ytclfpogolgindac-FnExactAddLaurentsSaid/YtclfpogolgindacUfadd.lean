/-
  'laws.FnExactAddLaurents' returns true whatever its arguments: the program's AddLaurents returns what the reference's returns, for every two polynomials, and leaves its arguments as they were. Conditions: none.
-/
import Derived.Test.YtclfpogolgindacUlawadd
import Derived.Test.YtclfpogolgindacUrowkit
import Derived.Test.YtclfpogolgindacUopengrid
import Derived.Test.YtclfpogolgindacUopenlau
import Derived.Test.YtclfpogolgindacRows
namespace Go.Proofs.Ytclfpogolgindac.fnExactAddLaurents
open Go.ChangeShapes Go.WideShapes Go.ChangeAt Go.RowKit Go.W8
set_option linter.unusedVariables false

theorem own : ownKnob Try.prog.godebug = none := by kernel_rfl
theorem lauT : ∃ f0 f1, LauT Try.prog 41 2 39 f0 f1 := ⟨_, _, Try.underlying41, rfl, rfl, rfl, rfl, by kernel_rfl, Try.underlying2, by kernel_rfl, Try.underlying39, by kernel_rfl, by kernel_rfl⟩

theorem walk (low0 : Int) (wl0 : Rng low0) (l0 : List Int) (rl0 : ∀ n ∈ l0, Rng n) (bl0 : l0.length ≤ 9223372036854775807) (s0 : Value) (R0 : Rd) (in0 : InS R0 l0 s0) (low1 : Int) (wl1 : Rng low1) (l1 : List Int) (rl1 : ∀ n ∈ l1, Rng n) (bl1 : l1.length ≤ 9223372036854775807) (s1 : Value) (R1 : Rd) (in1 : InS R1 l1 s1) (w : World) (hw : ToldW w (R0 ++ R1)) :
    Calls Try.prog 11 #[.agg #[.int .i64 low0, s0], .agg #[.int .i64 low1, s1]] w fun e w' => e = .returned (.bool true) ∧ Own [] w [] w' := (lawAddLaurents_c (R0 ++ R1) low0 l0 s0 wl0 rl0 (in0.more (by intro r hr; simp [hr])) bl0 low1 l1 s1 wl1 rl1 (in1.more (by intro r hr; simp [hr])) bl1).2 w hw

set_option maxRecDepth 100000 in
theorem lifted (os : Os) (started : os.Started) (H : Type) (enc : TypeId × Value → H) :
    ReturnsInHanded {} Try.checked os 11 .any (Rows.fnExactAddLaurentsSpec.pre6 enc Try.prog Try.f11 Rows.fnExactAddLaurentsRow.domain false) (Rows.fnExactAddLaurentsSpec.post enc Try.prog Try.f11 false true false false) := by
  refine returnsInHanded_of_change (C := Try.checked) own started (by kernel_rfl) Try.func11
    (ChangeSpec.witness6 (enc := enc) (C := Try.checked) false ⟨#[], #[.agg #[.int .i64 0, .slice none 0 0], .agg #[.int .i64 0, .slice none 0 0]], []⟩ 8 (by kernel_rfl) (by kernel_rfl) (by kernel_rfl) (by kernel_rfl)) ?_
  intro W base args ds gs before hval0 hW hcnd _
  have hval : ∀ (j : Nat) t v, Try.f11.params[j]? = some t → args[j]? = some v → Value.okWide Try.prog W .any base t v := hval0
  have hW' := hW
  obtain ⟨p, q, hA0, hV, rfl, hfz, hnd⟩ := hW
  have hA : DataW.TrodAll enc Try.prog W 0 (fun _ => true) true Try.f11.params.toList args.toList ds p := hA0
  rw [Try.params11] at hA hval
  obtain ⟨v0, vs0, d0, ds0, p0, q0, hargs, rfl, rfl, h0, r0⟩ := trodAll_cons hA
  obtain ⟨v1, vs1, d1, ds1, p1, q1, rfl, rfl, rfl, h1, r1⟩ := trodAll_cons r0
  obtain ⟨rfl, rfl, rfl⟩ := trodAll_nil r1
  obtain rfl : args = #[v0, v1] := by cases args; simp_all
  obtain ⟨rfl, rfl⟩ := trodVars_none hV
  obtain ⟨low0, l0, s0, R0, rfl, wl0, rl0, bl0, in0, tw0, re0⟩ := open_lau lauT.choose_spec.choose_spec (hval 0 41 v0 rfl rfl) h0
  obtain ⟨low1, l1, s1, R1, rfl, wl1, rl1, bl1, in1, tw1, re1⟩ := open_lau lauT.choose_spec.choose_spec (hval 1 41 v1 rfl rfl) h1
  clear hA0 hval0
  skip
  refine (walk low0 wl0 l0 rl0 bl0 s0 R0 in0 low1 wl1 l1 rl1 bl1 s1 R1 in1 W (toldW_append tw0 tw1)).mono fun e W' ⟨he, hg⟩ => ?_
  subst he
  exact ⟨_, rfl, post_own (pa := _) (pv := []) hW' (fun _ _ _ => (trodAll_cons_mk (shut_bool Try.underlying4 _) trodAll_mk0)) (fun sp hsp => (trodAll_cons_mk (re0 _ sp hg (fun q hq => hsp q (by simp [hq]))) (trodAll_cons_mk (re1 _ sp hg (fun q hq => hsp q (by simp [hq]))) trodAll_mk0))) (fun _ _ => rfl) rfl
    hg (ok_one (by kernel_rfl) rfl (okWide_bool_mk Try.underlying4 _))⟩

theorem over : Rows.fnExactAddLaurentsRow.holds Try.pinned (OpenSpec.ofChange Rows.fnExactAddLaurentsSpec) :=
  OpenClaim.holds_of_wide 11 Try.f11 rfl rfl rfl rfl rfl rfl rfl ⟨rfl, rfl, rfl, rfl, rfl⟩ rfl rfl rfl rfl rfl (by kernel_rfl) Try.func11 (by kernel_rfl)
    (of_decide_eq_true (by kernel_rfl)) (by unfold Func.isWrapper; first | (rw [if_pos (by decide +kernel)]; kernel_rfl) | (rw [if_neg (by decide +kernel)]; exact ⟨rfl, rfl⟩))
    (fun os started H enc _ => lifted os started H enc)

theorem proved : Rows.FnExactAddLaurentsSaid :=
  over
end Go.Proofs.Ytclfpogolgindac.fnExactAddLaurents
