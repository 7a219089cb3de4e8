/-
  What the functions of this part hand back: each as a plain function of its arguments. Conditions: none.
-/
import Derived.Test.YtdfddcfgagfdoaaLB
import Derived.ProofKit
import Derived.OpenShut
import Derived.Below
import Derived.ChangeSame
import Derived.Test.YtdfddcfgagfdoaaUplainlau
namespace Go.Proofs
open Go.W8
set_option linter.unusedVariables false
set_option linter.unusedSimpArgs false
set_option linter.unusedSectionVars false
set_option maxRecDepth 8000
set_option maxHeartbeats 4000000
--@plain
/-- A row of numbers that is handed in. -/
def InS (R : Rd) (l : List Int) (v : Value) : Prop := ∃ a cap, v = .slice a l.length cap ∧ (l.length ≠ 0 → ∃ b o, a = some ⟨b, o, none⟩ ∧ (b, o, ints .i64 l) ∈ R)
theorem InS.get {W : List Nat} {w0 : World} {R : Rd} {l : List Int} {a : Option Addr} {m cap k : Nat} (h : InS R l (.slice a m cap)) (ht : W8.Told W w0 R) (hk : k < l.length) : ∃ b o, a = some ⟨b, o, none⟩ ∧ frn W w0 b (o + k) = some (.int .i64 (l.getD k 0)) := by
  obtain ⟨a', cap', e, h⟩ := h
  cases e
  obtain ⟨b, o, rfl, hm⟩ := h (by omega)
  exact ⟨b, o, rfl, ht _ hm k _ (ints_get hk)⟩
theorem InS.more {R R' : Rd} {l : List Int} {v : Value} (h : InS R l v) (hs : ∀ r ∈ R, r ∈ R') : InS R' l v := by
  obtain ⟨a, cap, rfl, h⟩ := h
  exact ⟨a, cap, rfl, fun hn => let ⟨b, o, e, hm⟩ := h hn; ⟨b, o, e, hs _ hm⟩⟩
theorem _root_.Go.W8.RdS.more {R R' : Rd} {w : Nat} {l : List Value} {v : Value} (h : RdS R w l v) (hs : ∀ r ∈ R, r ∈ R') : RdS R' w l v := by
  obtain ⟨a, m, cap, rfl, hl, h, h2⟩ := h
  exact ⟨a, m, cap, rfl, hl, (fun hn => let ⟨b, cs, e, hm, hr⟩ := h hn; ⟨b, cs, e, hs _ hm, hr⟩), h2⟩
theorem _root_.Go.W8.SlN.form {w : Nat} {l : List Value} {v : Value} {M : Blks} (h : SlN w l v M) : ∃ a m cap, v = .slice a m cap := by
  rcases h with ⟨_, rfl, _⟩ | ⟨b, m, cap, cs, rfl, _, _⟩
  · exact ⟨_, _, _, rfl⟩
  · exact ⟨_, _, _, rfl⟩
/-- A polynomial and the memory that it has for its own. -/
def LauV (low : Int) (l : List Int) (v : Value) (M : Blks) : Prop := ∃ s, v = .agg #[.int .i64 low, s] ∧ SlN 1 (ints .i64 l) s M
/-- A polynomial whose numbers stand in what is told. -/
def RdL (R : Rd) (low : Int) (l : List Int) (v : Value) : Prop := ∃ s, v = .agg #[.int .i64 low, s] ∧ RdS R 1 (ints .i64 l) s
theorem LauV.reads {low : Int} {l : List Int} {v : Value} {M : Blks} {R : Rd} (h : LauV low l v M) (hR : ∀ p ∈ M, (p.1, 0, p.2) ∈ R) : RdL R low l v := by
  obtain ⟨s, rfl, h⟩ := h
  exact ⟨s, rfl, h.reads hR⟩
theorem RdL.more {R R' : Rd} {low : Int} {l : List Int} {v : Value} (h : RdL R low l v) (hs : ∀ r ∈ R, r ∈ R') : RdL R' low l v := by
  obtain ⟨s, rfl, h⟩ := h
  exact ⟨s, rfl, h.more hs⟩
theorem told_ne {W : List Nat} {w0 : World} {M : Blks} {b1 b k : Nat} {v : Value} (h : Fresh w0 M b1) (g : frn W w0 b k = some v) : ¬ b1 = b := fun e => by
  have h1 := frn_lt g
  have h2 := h.1
  omega
/-- A row of numbers, from some place on. -/
def RdO (R : Rd) (l : List Int) (v : Value) : Prop :=
  (l = [] ∧ ∃ cap, v = .slice none 0 cap) ∨ ∃ b o cap, v = .slice (some ⟨b, o, none⟩) l.length cap ∧ (l = [] → o = 0) ∧ (l ≠ [] → (b, o, ints .i64 l) ∈ R)
theorem told_range {W : List Nat} {w0 : World} {R : Rd} {b o : Nat} {l : List Int} (hm : (b, o, ints .i64 l) ∈ R) (ht : W8.Told W w0 R) : (List.range l.length).mapM (fun j => frn W w0 b (o + j)) = some (ints .i64 l) := by
  refine mapM_told (by simp) fun j x y hx hy => ?_
  have hj : j < l.length := by
    rcases Nat.lt_or_ge j l.length with h1 | h1
    · exact h1
    · rw [List.getElem?_eq_none (by simpa using h1)] at hx; cases hx
  rw [List.getElem?_range hj] at hx
  cases hx
  exact ht _ hm j y hy
theorem cells_zero {W : List Nat} {w0 : World} {M : Blks} {b : Nat} : cellsAt W w0 M b 0 0 = some [] := by
  unfold cellsAt
  split
  · rw [if_pos (by omega)]; rfl
  · rfl
/-- A part of a row that is told. -/
theorem told_part {W : List Nat} {w0 : World} {R : Rd} {b m cap f n : Nat} {l : List Int} (h : RdS R 1 (ints .i64 l) (.slice (some ⟨b, 0, none⟩) m cap)) (ht : W8.Told W w0 R) (hf : f + n ≤ l.length) : W8.Told W w0 [(b, f, ints .i64 ((l.drop f).take n))] := by
  intro r hr j u hu
  rw [List.mem_singleton.1 hr] at hu ⊢
  simp only at hu ⊢
  have hj : j < n := by
    rcases Nat.lt_or_ge j n with h1 | h1
    · exact h1
    · rw [List.getElem?_eq_none (by rw [ints_length, List.length_take]; omega)] at hu; cases hu
  have e : (ints .i64 l)[f + j]? = some u := by
    unfold ints at hu ⊢
    simpa [List.getElem?_take, List.getElem?_drop, hj] using hu
  obtain ⟨b', e', hb⟩ := h.get ht e
  cases e'
  exact hb
theorem _root_.Go.W8.RdS.toO {R : Rd} {l : List Int} {v : Value} (h : RdS R 1 (ints .i64 l) v) (W : List Nat) (w0 : World) (ht : W8.Told W w0 R) : ∃ R', W8.Told W w0 R' ∧ RdO R' l v := by
  obtain ⟨a, m, cap, rfl, hm, hh⟩ := id h
  have hl : m = l.length := by rw [ints_length] at hm; omega
  subst hl
  by_cases h0 : l = []
  · subst h0
    cases a with
    | none => exact ⟨[], (fun _ hr => nomatch hr), .inl ⟨rfl, _, rfl⟩⟩
    | some a =>
      obtain ⟨b, rfl⟩ := hh.2.1 a rfl
      exact ⟨[], (fun _ hr => nomatch hr), .inr ⟨b, 0, cap, rfl, fun _ => rfl, fun h => absurd rfl h⟩⟩
  · have hne : l.length ≠ 0 := fun e => h0 (List.eq_nil_of_length_eq_zero e)
    obtain ⟨b, cs, rfl, hmem, _⟩ := hh.1 hne
    have := told_part (f := 0) (n := l.length) h ht (by omega)
    rw [List.drop_zero, List.take_of_length_le (Nat.le_refl _)] at this
    exact ⟨_, this, .inr ⟨b, 0, cap, rfl, fun _ => rfl, fun _ => List.mem_singleton.2 rfl⟩⟩

end Go.Proofs
