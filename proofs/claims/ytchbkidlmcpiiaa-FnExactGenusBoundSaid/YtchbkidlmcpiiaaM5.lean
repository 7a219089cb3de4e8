/-
  What the functions of this part hand back: each as a plain function of its arguments. Conditions: none.
-/
import Derived.ProofKit
import Derived.OpenShut
import Derived.Below
import Derived.ChangeSame
import Derived.Test.YtchbkidlmcpiiaaM1
import Derived.Test.YtchbkidlmcpiiaaM2
import Derived.Test.YtchbkidlmcpiiaaM3
import Derived.Test.YtchbkidlmcpiiaaM4
namespace Go.Proofs
open Go.W8
set_option linter.unusedVariables false
set_option linter.unusedSimpArgs false
set_option linter.unusedSectionVars false
set_option maxRecDepth 8000
set_option maxHeartbeats 4000000
--@plain
/-- Columns of monomials and zeros. -/
abbrev Oc := Nat → Option Int
def ap (G : Int → Int) : Option Int → Int
  | none => 0
  | some p => G p
def dO : Nat → List Oc → Nat → Cf
  | 0, _, _, e => if e = 0 then 1 else 0
  | m + 1, cs, r, e => ex (fun rest c => ap (fun p => dO m rest (r + 1) (e - p)) (c r)) [] cs
theorem dO_succ (m : Nat) (cs : List Oc) (r : Nat) (e : Int) : dO (m + 1) cs r e = ex (fun rest c => ap (fun p => dO m rest (r + 1) (e - p)) (c r)) [] cs := rfl
def so (c : Cl) : Oc := fun b => some (c b)
theorem dO_so : ∀ (m : Nat) (cs : List Cl) (r : Nat) (e : Int), dO m (cs.map so) r e = dt m cs r e
  | 0, _, _, _ => rfl
  | m + 1, cs, r, e => ex_map (G := fun rest c => ap (fun p => dO m rest (r + 1) (e - p)) (c r)) (H := fun rest c => dt m rest (r + 1) (e - c r)) so (fun rest c => dO_so m rest (r + 1) (e - c r)) cs []
def RelO (J : List (Int × Int × Oc)) : Prop := ∀ (b : Nat) (G : Cf), sumJ J (fun j => j.1 * ap (fun p => G (j.2.1 + p)) (j.2.2 b)) = 0
theorem dO_lin {J : List (Int × Int × Oc)} (hJ : RelO J) : ∀ (m : Nat) (P S : List Oc) (r : Nat) (e : Int), m = P.length + 1 + S.length → sumJ J (fun j => j.1 * dO m (P ++ j.2.2 :: S) r (e - j.2.1)) = 0
  | 0, P, S, r, e, h => by omega
  | m + 1, P, S, r, e, h => by
    have step : ∀ (c : Oc) (A B : List Oc), m = A.length + 1 + B.length → sumJ J (fun j => j.1 * ap (fun p => dO m (A ++ j.2.2 :: B) (r + 1) (e - j.2.1 - p)) (c r)) = 0 := by
      intro c A B hl
      cases c r with
      | none =>
        show sumJ J (fun j => j.1 * 0) = 0
        rw [sumJ_congr J (g := fun _ => 0) fun j => Int.mul_zero _, sumJ_zero]
      | some p =>
        have := dO_lin hJ m A B (r + 1) (e - p) hl
        rw [← this]
        refine sumJ_congr J fun j => ?_
        show j.1 * dO m (A ++ j.2.2 :: B) (r + 1) (e - j.2.1 - p) = _
        rw [show e - j.2.1 - p = e - p - j.2.1 by omega]
    have key : ∀ (P' pre : List Oc), pre ++ P' = P → sumJ J (fun j => j.1 * ex (fun rest c => ap (fun p => dO m rest (r + 1) (e - j.2.1 - p)) (c r)) pre (P' ++ j.2.2 :: S)) = 0 := by
      intro P'
      induction P' with
      | nil =>
        intro pre hp
        rw [List.append_nil] at hp
        subst hp
        have h1 := hJ r fun z => dO m (pre ++ S) (r + 1) (e - z)
        have h2 := ex_behind (J := J) (G := fun j rest c => ap (fun p => dO m rest (r + 1) (e - j.2.1 - p)) (c r)) S pre [] fun s1 c s2 es => by
          have hl : m = pre.length + 1 + (s1 ++ s2).length := by
            rw [es] at h
            simp only [List.length_append, List.length_cons] at h ⊢
            omega
          have := step c pre (s1 ++ s2) hl
          simpa using this
        rw [sumJ_congr J (g := fun j => j.1 * ap (fun p => dO m (pre ++ S) (r + 1) (e - (j.2.1 + p))) (j.2.2 r) - j.1 * ex (fun rest c => ap (fun p => dO m rest (r + 1) (e - j.2.1 - p)) (c r)) (pre ++ j.2.2 :: []) S) fun j => ?_, sumJ_sub, h1, h2]
        · rfl
        · rw [← Int.mul_sub, show (fun p => dO m (pre ++ S) (r + 1) (e - (j.2.1 + p))) = fun p => dO m (pre ++ S) (r + 1) (e - j.2.1 - p) from funext fun p => by rw [show e - (j.2.1 + p) = e - j.2.1 - p by omega]]
          rfl
      | cons c P' ih =>
        intro pre hp
        have h1 := ih (pre ++ [c]) (by rw [← hp]; simp)
        have hl : m = (pre ++ P').length + 1 + S.length := by
          rw [← hp] at h
          simp only [List.length_append, List.length_cons] at h ⊢
          omega
        have h2 := step c (pre ++ P') S hl
        rw [sumJ_congr J (g := fun j => j.1 * ap (fun p => dO m ((pre ++ P') ++ j.2.2 :: S) (r + 1) (e - j.2.1 - p)) (c r) - j.1 * ex (fun rest c => ap (fun p => dO m rest (r + 1) (e - j.2.1 - p)) (c r)) (pre ++ [c]) (P' ++ j.2.2 :: S)) fun j => ?_, sumJ_sub, h1, h2]
        · rfl
        · rw [← Int.mul_sub]
          show j.1 * (ap (fun p => dO m (pre ++ (P' ++ j.2.2 :: S)) (r + 1) (e - j.2.1 - p)) (c r) - _) = _
          rw [List.append_assoc]
          rfl
    exact key P [] rfl
theorem dO_alt (u : Oc) : ∀ (m : Nat) (P S : List Oc) (r : Nat) (e : Int), m = P.length + 2 + S.length → dO m (P ++ u :: u :: S) r e = 0
  | 0, P, S, r, e, h => by omega
  | m + 1, P, S, r, e, h => by
    have step : ∀ (c : Oc) (A B : List Oc), m = A.length + 2 + B.length → ap (fun p => dO m (A ++ u :: u :: B) (r + 1) (e - p)) (c r) = 0 := by
      intro c A B hl
      cases c r with
      | none => rfl
      | some p => exact dO_alt u m A B (r + 1) (e - p) hl
    have key : ∀ (P' pre : List Oc), pre ++ P' = P → ex (fun rest c => ap (fun p => dO m rest (r + 1) (e - p)) (c r)) pre (P' ++ u :: u :: S) = 0 := by
      intro P'
      induction P' with
      | nil =>
        intro pre hp
        rw [List.append_nil] at hp
        subst hp
        have h2 : ex (fun rest c => ap (fun p => dO m rest (r + 1) (e - p)) (c r)) ((pre ++ [u]) ++ [u]) S = 0 := ex_zero fun s1 c s2 es => by
          have hl : m = pre.length + 2 + (s1 ++ s2).length := by
            rw [es] at h
            simp only [List.length_append, List.length_cons] at h ⊢
            omega
          have := step c pre (s1 ++ s2) hl
          simpa using this
        show ap (fun p => dO m (pre ++ u :: S) (r + 1) (e - p)) (u r) - (ap (fun p => dO m ((pre ++ [u]) ++ S) (r + 1) (e - p)) (u r) - ex (fun rest c => ap (fun p => dO m rest (r + 1) (e - p)) (c r)) ((pre ++ [u]) ++ [u]) S) = 0
        rw [h2]
        simp
      | cons c P' ih =>
        intro pre hp
        have h1 := ih (pre ++ [c]) (by rw [← hp]; simp)
        have hl : m = (pre ++ P').length + 2 + S.length := by
          rw [← hp] at h
          simp only [List.length_append, List.length_cons] at h ⊢
          omega
        have h2 := step c (pre ++ P') S hl
        show ap (fun p => dO m (pre ++ (P' ++ u :: u :: S)) (r + 1) (e - p)) (c r) - ex (fun rest c => ap (fun p => dO m rest (r + 1) (e - p)) (c r)) (pre ++ [c]) (P' ++ u :: u :: S) = 0
        rw [h1, ← List.append_assoc, h2]; rfl
    exact key P [] rfl
theorem ex_bound' {α : Type} {G : List α → α → Int} {B : Int} (hB : 0 ≤ B) : ∀ (s pre : List α), (∀ s1 c s2, s = s1 ++ c :: s2 → -B ≤ G (pre ++ s1 ++ s2) c ∧ G (pre ++ s1 ++ s2) c ≤ B) → -(B * (s.length : Int)) ≤ ex G pre s ∧ ex G pre s ≤ B * (s.length : Int)
  | [], pre, _ => by simp [ex]
  | c :: s, pre, h => by
    have h0 := h [] c s rfl
    rw [List.append_nil] at h0
    have h1 := ex_bound' hB s (pre ++ [c]) fun s1 d s2 e => by
      have := h (c :: s1) d s2 (by rw [e]; rfl)
      simpa using this
    have e : B * (((c :: s).length : Nat) : Int) = B * (s.length : Int) + B := by rw [List.length_cons, Int.natCast_succ, Int.mul_add, Int.mul_one]
    show _ ≤ G (pre ++ s) c - ex G (pre ++ [c]) s ∧ G (pre ++ s) c - ex G (pre ++ [c]) s ≤ _
    rw [e]
    omega
theorem dO_bound (N : Nat) : ∀ (m : Nat) (cs : List Oc) (r : Nat) (e : Int), cs.length ≤ N → -((N : Int) ^ m) ≤ dO m cs r e ∧ dO m cs r e ≤ (N : Int) ^ m
  | 0, cs, r, e, _ => by
    show _ ≤ (if e = 0 then (1 : Int) else 0) ∧ (if e = 0 then (1 : Int) else 0) ≤ _
    split <;> simp
  | m + 1, cs, r, e, h => by
    have h0 : (0 : Int) ≤ (N : Int) ^ m := Int.pow_nonneg (Int.natCast_nonneg N)
    have := ex_bound' (G := fun rest c => ap (fun p => dO m rest (r + 1) (e - p)) (c r)) h0 cs [] fun s1 c s2 es => by
      show _ ≤ ap _ (c r) ∧ ap _ (c r) ≤ _
      cases c r with
      | none => show _ ≤ (0 : Int) ∧ (0 : Int) ≤ _; omega
      | some p =>
        refine dO_bound N m _ (r + 1) (e - p) ?_
        rw [es] at h
        simp only [List.length_append, List.length_cons, List.length_nil] at h ⊢
        omega
    rw [Int.pow_succ, dO_succ]
    have h2 : (N : Int) ^ m * (cs.length : Int) ≤ (N : Int) ^ m * (N : Int) := Int.mul_le_mul_of_nonneg_left (by omega) h0
    omega
theorem Fs.ex' {α : Type} {G : Int → List α → α → Int} : ∀ (s pre : List α), (∀ s1 c s2, s = s1 ++ c :: s2 → Fs fun e => G e (pre ++ s1 ++ s2) c) → Fs fun e => ex (G e) pre s
  | [], pre, _ => Fs.zero
  | c :: s, pre, h => by
    have h0 := h [] c s rfl
    rw [List.append_nil] at h0
    have h1 := Fs.ex' s (pre ++ [c]) fun s1 d s2 e => by
      have := h (c :: s1) d s2 (by rw [e]; rfl)
      simpa using this
    exact h0.sub h1
theorem Fs.dO : ∀ (m : Nat) (cs : List Oc) (r : Nat), Fs (dO m cs r)
  | 0, _, _ => Fs.dlt
  | m + 1, cs, r => Fs.ex' (G := fun e rest c => ap (fun p => Go.Proofs.dO m rest (r + 1) (e - p)) (c r)) cs [] fun s1 c s2 es => by
    show Fs fun e => ap (fun p => Go.Proofs.dO m _ (r + 1) (e - p)) (c r)
    cases c r with
    | none => exact Fs.zero
    | some p => exact (Fs.dO m _ (r + 1)).sh (-p)
/-- What is left of a column when its neighbour is taken away and 1 - t divided out. -/
def uC (a : Ar) (v : Cl) : Oc := fun b => if a.1 < b ∧ b ≤ a.2 then some (v b) else if a.2 < b ∧ b ≤ a.1 then some (v b - 1) else none
def sA (a : Ar) : Int := if a.1 < a.2 then -1 else 1
theorem sA_cases (a : Ar) : sA a = 1 ∨ sA a = -1 := by unfold sA; split <;> simp
def uF : Cl → Ar → List Ar → List Oc
  | _, _, [] => []
  | v, a, b :: l => uC a v :: uF (stp a v) b l
theorem uF_len : ∀ (l : List Ar) (a : Ar) (v : Cl), (uF v a l).length = l.length
  | [], _, _ => rfl
  | b :: l, a, v => congrArg (· + 1) (uF_len l b (stp a v))
theorem uC_rel (a : Ar) (v : Cl) : RelO [(1, 0, so (stp a v)), (-1, 0, so v), (-sA a, 0, uC a v), (sA a, 1, uC a v)] := fun b G => by
  simp only [sumJ_cons, sumJ_nil]
  show 1 * G (0 + (v b + hv a.2 b - hv a.1 b)) + (-1 * G (0 + v b) + (-sA a * ap (fun p => G (0 + p)) (uC a v b) + (sA a * ap (fun p => G (1 + p)) (uC a v b) + 0))) = 0
  unfold uC
  by_cases h1 : a.1 < b ∧ b ≤ a.2
  · rw [if_pos h1]
    show 1 * G (0 + (v b + hv a.2 b - hv a.1 b)) + (-1 * G (0 + v b) + (-sA a * G (0 + v b) + (sA a * G (1 + v b) + 0))) = 0
    rw [show hv a.2 b = 1 from if_pos h1.2, show hv a.1 b = 0 from if_neg (by omega), show sA a = -1 from if_pos (by omega), show 0 + (v b + 1 - 0) = 1 + v b by omega]
    omega
  · rw [if_neg h1]
    by_cases h2 : a.2 < b ∧ b ≤ a.1
    · rw [if_pos h2]
      show 1 * G (0 + (v b + hv a.2 b - hv a.1 b)) + (-1 * G (0 + v b) + (-sA a * G (0 + (v b - 1)) + (sA a * G (1 + (v b - 1)) + 0))) = 0
      rw [show hv a.2 b = 0 from if_neg (by omega), show hv a.1 b = 1 from if_pos h2.2, show sA a = 1 from if_neg (by omega), show 0 + (v b + 0 - 1) = 0 + (v b - 1) by omega, show 1 + (v b - 1) = 0 + v b by omega]
      omega
    · rw [if_neg h2]
      show 1 * G (0 + (v b + hv a.2 b - hv a.1 b)) + (-1 * G (0 + v b) + (-sA a * 0 + (sA a * 0 + 0))) = 0
      have : hv a.2 b = hv a.1 b := by
        unfold hv
        by_cases h3 : b ≤ a.2
        · rw [if_pos h3, if_pos (by omega)]
        · rw [if_neg h3, if_neg (by omega)]
      rw [this, show 0 + (v b + hv a.1 b - hv a.1 b) = 0 + v b by omega]
      omega
theorem dO_div : ∀ (l : List Ar) (a : Ar) (v : Cl) (P : List Oc) (m : Nat), m = P.length + 1 + l.length → ∃ σ : Int, (σ = 1 ∨ σ = -1) ∧ ∀ e, dO m (P ++ (clF v (a :: l)).map so) 0 e = σ * itM l.length (dO m (P ++ so v :: uF v a l) 0) e
  | [], a, v, P, m, _ => ⟨1, .inl rfl, fun e => (Int.one_mul _).symm⟩
  | b :: l, a, v, P, m, hm => by
    obtain ⟨σ, hσ, h⟩ := dO_div l b (stp a v) (P ++ [so v]) m (by simp only [List.length_append, List.length_cons, List.length_nil] at hm ⊢; omega)
    have h1 : ∀ e, dO m (P ++ so v :: so (stp a v) :: uF (stp a v) b l) 0 e = sA a * mo (dO m (P ++ so v :: uC a v :: uF (stp a v) b l) 0) e := fun e => by
      have hl := dO_lin (uC_rel a v) m (P ++ [so v]) (uF (stp a v) b l) 0 e (by simp only [List.length_append, List.length_cons, List.length_nil, uF_len] at hm ⊢; omega)
      have ha := dO_alt (so v) m P (uF (stp a v) b l) 0 (e - 0) (by simp only [List.length_cons, uF_len] at hm ⊢; omega)
      simp only [sumJ_cons, sumJ_nil, List.append_assoc, List.cons_append, List.nil_append] at hl
      rw [ha] at hl
      rw [show e - 0 = e by omega] at hl
      unfold mo
      rw [Int.mul_sub]
      rw [Int.neg_mul (sA a)] at hl
      omega
    refine ⟨σ * sA a, by rcases hσ with e | e <;> rcases sA_cases a with e' | e' <;> rw [e, e'] <;> decide, fun e => ?_⟩
    have h2 := h e
    simp only [List.append_assoc, List.cons_append, List.nil_append] at h2
    show dO m (P ++ so v :: (clF (stp a v) (b :: l)).map so) 0 e = σ * sA a * itM (l.length + 1) (dO m (P ++ so v :: uC a v :: uF (stp a v) b l) 0) e
    rw [h2, show dO m (P ++ so v :: so (stp a v) :: uF (stp a v) b l) 0 = fun e => sA a * mo (dO m (P ++ so v :: uC a v :: uF (stp a v) b l) 0) e from funext h1, itM_mul, itM_out, Int.mul_assoc]
    rfl
/-- The determinant of a grid, divided: its numbers are small. -/
theorem dl_div (l : List Ar) (h : l.length ≠ 0) : ∃ Q, Fs Q ∧ (∀ e, dl l e = itM (l.length - 1) Q e) ∧ ∀ e, -((l.length : Int) ^ l.length) ≤ Q e ∧ Q e ≤ (l.length : Int) ^ l.length := by
  obtain ⟨a, l, rfl⟩ : ∃ a l', l = a :: l' := by
    cases l with
    | nil => exact absurd rfl h
    | cons a l' => exact ⟨a, l', rfl⟩
  obtain ⟨σ, hσ, hd⟩ := dO_div l a z0 [] (l.length + 1) (by simp; omega)
  refine ⟨fun e => σ * dO (l.length + 1) ([] ++ so z0 :: uF z0 a l) 0 e, (Fs.dO _ _ _).mul σ, fun e => ?_, fun e => ?_⟩
  · rw [itM_mul]
    show dt (l.length + 1) (clF z0 (a :: l)) 0 e = σ * itM l.length _ e
    rw [← dO_so]
    exact hd e
  · have hb := dO_bound (l.length + 1) (l.length + 1) ([] ++ so z0 :: uF z0 a l) 0 e (by simp [uF_len])
    rw [List.length_cons]
    show _ ≤ σ * _ ∧ σ * _ ≤ _
    rcases hσ with e | e <;> rw [e] <;> omega
theorem cst {M : Cf} {b : Int} (h : ∀ e, e ≤ b → M e = M (e - 1)) : ∀ k : Nat, M b = M (b - (k : Int))
  | 0 => by rw [show b - ((0 : Nat) : Int) = b by omega]
  | k + 1 => by
    rw [cst h k, h _ (by omega), show b - (k : Int) - 1 = b - ((k + 1 : Nat) : Int) by omega]
theorem mo_inj {f g : Cf} (hf : Fs f) (hg : Fs g) (h : ∀ e, mo f e = mo g e) (e : Int) : f e = g e := by
  obtain ⟨N, hN⟩ := hf.sub hg
  have hc := cst (M := fun e => f e - g e) (b := e) (fun e' _ => by
    have := h e'
    unfold mo at this
    show f e' - g e' = f (e' - 1) - g (e' - 1)
    omega) (N + 1 + e.natAbs)
  have h0 : f (e - ((N + 1 + e.natAbs : Nat) : Int)) - g (e - ((N + 1 + e.natAbs : Nat) : Int)) = 0 := hN (e - ((N + 1 + e.natAbs : Nat) : Int)) (by omega)
  have hc : f e - g e = f (e - ((N + 1 + e.natAbs : Nat) : Int)) - g (e - ((N + 1 + e.natAbs : Nat) : Int)) := hc
  omega
theorem Fs.itM {f : Cf} (h : Fs f) : ∀ j, Fs (itM j f)
  | 0 => h
  | j + 1 => (Fs.itM h j).sub ((Fs.itM h j).sh (-1))
theorem itM_inj {f g : Cf} (hf : Fs f) (hg : Fs g) : ∀ (j : Nat), (∀ e, itM j f e = itM j g e) → ∀ e, f e = g e
  | 0, h => h
  | j + 1, h => itM_inj hf hg j fun e => mo_inj (hf.itM j) (hg.itM j) h e
theorem itM_bound {f : Cf} {B : Int} (h : ∀ e, -B ≤ f e ∧ f e ≤ B) : ∀ (j : Nat) (e : Int), -(2 ^ j * B) ≤ itM j f e ∧ itM j f e ≤ 2 ^ j * B
  | 0, e => by have := h e; show _ ≤ f e ∧ f e ≤ _; omega
  | j + 1, e => by
    have h1 := itM_bound h j e
    have h2 := itM_bound h j (e - 1)
    show _ ≤ itM j f e - itM j f (e - 1) ∧ itM j f e - itM j f (e - 1) ≤ _
    have e3 : (2 : Int) ^ (j + 1) * B = 2 ^ j * B + 2 ^ j * B := by rw [Int.pow_succ, Int.mul_comm _ 2, Int.mul_assoc]; omega
    rw [e3]
    omega
/-- A grid: its polynomial with all that is known of it. -/
theorem grid_poly {n : Nat} {l : List Ar} (hg : Pg (n + 1) l) : ∃ (Q : Cf) (s τ : Int), Fs Q ∧ (∀ e, dl l e = itM n Q e) ∧ (∀ e, -(((n + 1 : Nat) : Int) ^ (n + 1)) ≤ Q e ∧ Q e ≤ ((n + 1 : Nat) : Int) ^ (n + 1)) ∧
    (Sg l → On Q ∧ ∀ f g, f + g = s → Q g = τ * Q f) := by
  have hd := gd_all n l hg
  have hl := hg.len
  obtain ⟨Q, fQ, dQ, bQ⟩ := dl_div l (by omega)
  obtain ⟨⟨Q', fQ', dQ', oQ'⟩, sQ, kQ⟩ := hd
  rw [hl] at dQ bQ dQ'
  have dQ : ∀ e, dl l e = itM n Q e := dQ
  have dQ' : ∀ e, dl l e = itM n Q' e := dQ'
  obtain rfl : Q' = Q := funext (itM_inj fQ' fQ n fun e => by rw [← dQ, ← dQ'])
  by_cases hs : Sg l
  · obtain ⟨k, hk⟩ := kQ hs
    refine ⟨Q', -(k + (n : Int)), (-1) ^ n * sgL l, fQ, dQ, bQ, fun _ => ⟨oQ' hs, fun f g hfg => ?_⟩⟩
    have key := itM_inj (f := Q') (g := fun e => ((-1) ^ n * sgL l) * Q' (-(e + (k + (n : Int))))) fQ (Fs.mul (by
      obtain ⟨N, hN⟩ := fQ
      exact ⟨N + (k + (n : Int)).natAbs, fun e he => hN _ (by omega)⟩) _) n (fun e => ?_) g
    · rw [key, show -(g + (k + (n : Int))) = f by omega]
    · rw [itM_mul]
      have h1 := sQ (-(e + k)) e (by omega)
      rw [dQ, dQ, itM_refl] at h1
      have h2 := itM_sh n (fun e => Q' (-e)) (k + (n : Int)) e
      rw [show e + (k + (n : Int)) = e + k + (n : Int) by omega] at h2
      have h3 : itM n (fun e => Q' (-(e + (k + (n : Int))))) e = itM n (fun e => Q' (-e)) (e + k + (n : Int)) := h2
      rw [h3]
      rw [h1, Int.mul_comm (sgL l), Int.mul_assoc, Int.mul_assoc, Int.mul_comm (sgL l)]
  · exact ⟨Q', 0, 0, fQ, dQ, bQ, fun h => absurd h hs⟩

end Go.Proofs

/-
  What the functions of this part hand back: each as a plain function of its arguments. Conditions: none.
-/
namespace Go.Proofs
open Go.W8
set_option linter.unusedVariables false
set_option linter.unusedSimpArgs false
set_option linter.unusedSectionVars false
set_option maxRecDepth 8000
set_option maxHeartbeats 4000000
--@plain
theorem cstu {M : Cf} {b : Int} (h : ∀ e, b < e → M e = M (e - 1)) : ∀ k : Nat, M (b + (k : Int)) = M b
  | 0 => by rw [show b + ((0 : Nat) : Int) = b by omega]
  | k + 1 => by
    rw [h _ (by omega), show b + ((k + 1 : Nat) : Int) - 1 = b + (k : Int) by omega, cstu h k]
theorem coefAt_lt {low : Int} {l : List Int} {e : Int} (h : e < low) : coefAt low l e = 0 := if_neg (by omega)
theorem coefAt_ge {low : Int} {l : List Int} {e : Int} (h : low + (l.length : Int) ≤ e) : coefAt low l e = 0 := by
  unfold coefAt
  split
  · exact getD_far (by omega)
  · rfl
theorem coefAt_in {low : Int} {l : List Int} (i : Nat) : coefAt low l (low + (i : Int)) = l.getD i 0 := by
  unfold coefAt
  rw [if_pos (by omega), show (low + (i : Int) - low).toNat = i by omega]
theorem coefAt_trim' (low : Int) (l : List Int) (e : Int) : coefAt (trimLow low l) (trimL l) e = coefAt low l e := by
  by_cases h : trimL l = []
  · rw [h]
    unfold coefAt
    rw [trim_nil h]
    simp
  · exact coefAt_trim low l h e
theorem qStep_div {p : Int × List Int} {f : Cf} (ff : Fs f) (h : ∀ e, coefAt p.1 p.2 e = mo f e) (hb : ∀ e, coOk (f e) = true) : ∃ q, qStep p = some q ∧ (∀ e, coefAt q.1 q.2 e = f e) ∧ q.2.length ≤ p.2.length := by
  obtain ⟨low, L⟩ := p
  obtain ⟨N, hN⟩ := id ff
  have hlow : ∀ b, b < low → f b = 0 := fun b hb => by
    have h1 := cst (M := f) (b := b) (fun e he => by
      have h2 := h e
      rw [coefAt_lt (by show e < low; omega)] at h2
      unfold mo at h2
      omega) (N + 1 + b.natAbs)
    rw [h1]
    exact hN _ (by omega)
  have hhigh : ∀ b, low + (L.length : Int) - 1 ≤ b → f b = 0 := fun b hb => by
    have h1 := cstu (M := f) (b := b) (fun e he => by
      have h2 := h e
      rw [coefAt_ge (by show low + (L.length : Int) ≤ e; omega)] at h2
      unfold mo at h2
      omega) (N + 1 + b.natAbs)
    rw [← h1]
    exact hN _ (by omega)
  have hps : ∀ k : Nat, psum L k = f (low + (k : Int) - 1) := by
    intro k
    induction k with
    | zero => exact (hlow _ (by omega)).symm
    | succ k ih =>
      show psum L k + L.getD k 0 = _
      have h2 := h (low + (k : Int))
      rw [coefAt_in (low := low)] at h2
      unfold mo at h2
      rw [ih, show low + ((k + 1 : Nat) : Int) - 1 = low + (k : Int) by omega]
      have h2 : L.getD k 0 = f (low + (k : Int)) - f (low + (k : Int) - 1) := h2
      omega
  have hall : (sums L L.length).all coOk = true := by
    rw [all_get]
    intro i hi
    rw [sums_len] at hi
    rw [sums_get hi, hps]
    exact hb _
  refine ⟨(trimLow low (sums L L.length), trimL (sums L L.length)), ?_, fun e => ?_, ?_⟩
  · unfold qStep
    rw [if_pos ⟨by show psum L L.length = 0; rw [hps]; exact hhigh _ (by omega), hall⟩]
  · show coefAt (trimLow low _) (trimL _) e = f e
    rw [coefAt_trim']
    by_cases h1 : e < low
    · rw [coefAt_lt h1, hlow e h1]
    · by_cases h2 : low + (L.length : Int) ≤ e
      · rw [coefAt_ge (by rw [sums_len]; exact h2), hhigh e (by omega)]
      · obtain ⟨i, rfl⟩ : ∃ i : Nat, e = low + (i : Int) := ⟨(e - low).toNat, by omega⟩
        rw [coefAt_in, sums_get (by omega), hps, show low + ((i + 1 : Nat) : Int) - 1 = low + (i : Int) by omega]
  · show (trimL _).length ≤ L.length
    have := trimL_le (sums L L.length)
    rw [sums_len] at this
    exact this
theorem qIter_div {low : Int} {L : List Int} {Q : Cf} {B : Int} {j : Nat} (fQ : Fs Q) (h : ∀ e, coefAt low L e = itM j Q e) (hB : ∀ e, -B ≤ Q e ∧ Q e ≤ B) (hj : 2 ^ j * B ≤ 1000000000000) :
    ∀ k, k ≤ j → ∃ q, qIter (low, L) k = some q ∧ (∀ e, coefAt q.1 q.2 e = itM (j - k) Q e) ∧ q.2.length ≤ L.length
  | 0, _ => ⟨(low, L), rfl, h, Nat.le_refl _⟩
  | k + 1, hk => by
    obtain ⟨q, h1, h2, h3⟩ := qIter_div fQ h hB hj k (by omega)
    have e : itM (j - k) Q = mo (itM (j - (k + 1)) Q) := by
      rw [show j - k = j - (k + 1) + 1 by omega]; rfl
    rw [e] at h2
    have h0 : 0 ≤ B := by have := hB 0; omega
    obtain ⟨q', a1, a2, a3⟩ := qStep_div (fQ.itM (j - (k + 1))) h2 fun e => by
      have hb := itM_bound hB (j - (k + 1)) e
      have hp : (2 : Int) ^ (j - (k + 1)) * B ≤ 2 ^ j * B := by
        refine Int.mul_le_mul_of_nonneg_right ?_ h0
        have : (2 : Nat) ^ (j - (k + 1)) ≤ 2 ^ j := Nat.pow_le_pow_right (by omega) (by omega)
        exact_mod_cast this
      unfold coOk
      rw [decide_eq_true (by omega), decide_eq_true (by omega)]; rfl
    exact ⟨q', by rw [qIter_succ h1, a1], a2, by omega⟩
theorem sumN_split (f : Nat → Int) (a : Nat) : ∀ b, sumN f (a + b) = sumN f a + sumN (fun i => f (a + i)) b
  | 0 => by show sumN f a = sumN f a + 0; omega
  | b + 1 => by
    show sumN f (a + b) + f (a + b) = sumN f a + (sumN (fun i => f (a + i)) b + f (a + b))
    rw [sumN_split f a b]; omega
theorem sumN_rev (f : Nat → Int) : ∀ k, sumN f k = sumN (fun i => f (k - 1 - i)) k
  | 0 => rfl
  | k + 1 => by
    have h := sumN_split (fun i => f (k + 1 - 1 - i)) 1 k
    rw [Nat.add_comm 1 k] at h
    rw [h]
    show sumN f k + f k = (0 + f (k + 1 - 1 - 0)) + sumN (fun i => f (k + 1 - 1 - (1 + i))) k
    rw [sumN_rev f k, sumN_congr (f := fun i => f (k + 1 - 1 - (1 + i))) (g := fun i => f (k - 1 - i)) fun i _ => by show f _ = f _; rw [show k + 1 - 1 - (1 + i) = k - 1 - i by omega], show k + 1 - 1 - 0 = k by omega]
    omega
theorem psum_sumN (l : List Int) : ∀ k, psum l k = sumN (fun i => l.getD i 0) k
  | 0 => rfl
  | k + 1 => by
    show psum l k + _ = sumN _ k + _
    rw [psum_sumN l k]
theorem sq_one {t q : Int} (hq : q ≠ 0) (h : q = t * (t * q)) : t = 1 ∨ t = -1 := by
  have h2 : (t * t - 1) * q = 0 := by rw [Int.sub_mul, Int.mul_assoc]; omega
  rcases Int.mul_eq_zero.1 h2 with h3 | h3
  · have h4 : t.natAbs * t.natAbs = 1 := by
      rw [← Int.natAbs_mul, show t * t = 1 by omega]; rfl
    have := Nat.eq_one_of_mul_eq_one_right h4
    omega
  · exact absurd h3 hq
/-- A list of numbers with this symmetry whose sum is 1 or -1 reads alike from both ends. -/
theorem pal {Q : Cf} {low : Int} {L : List Int} {s τ : Int} (h : ∀ e, coefAt low L e = Q e) (hO : On Q) (hs : ∀ f g, f + g = s → Q g = τ * Q f) (hL : L.length ≠ 0 → L.getD 0 0 ≠ 0 ∧ L.getD (L.length - 1) 0 ≠ 0) :
    ∃ d : Nat, L.length = 2 * d + 1 ∧ ∀ i, i ≤ 2 * d → L.getD (2 * d - i) 0 = L.getD i 0 := by
  obtain ⟨c, R, hc, fR, hR⟩ := hO
  have hsum : psum L L.length = c := by
    let M : Cf := fun e => c * (if 0 ≤ e then 1 else 0) + R e
    have hM : ∀ e, Q e = M e - M (e - 1) := fun e => by
      show Q e = c * (if 0 ≤ e then 1 else 0) + R e - (c * (if 0 ≤ e - 1 then 1 else 0) + R (e - 1))
      rw [hR e]
      unfold dlt
      by_cases h1 : e = 0
      · rw [if_pos h1, if_pos (by omega), if_neg (by omega)]; omega
      · rw [if_neg h1]
        by_cases h2 : 0 ≤ e
        · rw [if_pos h2, if_pos (by omega)]; omega
        · rw [if_neg h2, if_neg (by omega)]; omega
    obtain ⟨N, hN⟩ := fR
    have m0 : M (low - 1) = 0 := by
      rw [cst (M := M) (b := low - 1) (fun e he => by
        have h1 := hM e
        rw [← h e, coefAt_lt (by omega)] at h1
        omega) (N + 1 + (low - 1).natAbs)]
      show c * (if _ then 1 else 0) + R _ = 0
      rw [if_neg (by omega), hN _ (by omega)]; omega
    have m1 : M (low + (L.length : Int) - 1) = c := by
      rw [← cstu (M := M) (b := low + (L.length : Int) - 1) (fun e he => by
        have h1 := hM e
        rw [← h e, coefAt_ge (by omega)] at h1
        omega) (N + 1 + (low + (L.length : Int) - 1).natAbs)]
      show c * (if _ then 1 else 0) + R _ = c
      rw [if_pos (by omega), hN _ (by omega)]; omega
    have key : ∀ k : Nat, psum L k = M (low + (k : Int) - 1) := by
      intro k
      induction k with
      | zero => rw [show low + ((0 : Nat) : Int) - 1 = low - 1 by omega, m0]; rfl
      | succ k ih =>
        show psum L k + L.getD k 0 = _
        rw [ih, ← coefAt_in (low := low), h, hM, show low + ((k + 1 : Nat) : Int) - 1 = low + (k : Int) by omega]
        omega
    rw [key, m1]
  have hlen : L.length ≠ 0 := fun h0 => by
    rw [h0] at hsum
    have : (0 : Int) = c := hsum
    omega
  obtain ⟨h0, h1⟩ := hL hlen
  have q0 : Q (low + ((0 : Nat) : Int)) = L.getD 0 0 := by rw [← h, coefAt_in]
  have q1 : Q (low + ((L.length - 1 : Nat) : Int)) = L.getD (L.length - 1) 0 := by rw [← h, coefAt_in]
  have inw : ∀ e, Q e ≠ 0 → low ≤ e ∧ e ≤ low + (L.length : Int) - 1 := fun e he => by
    rw [← h] at he
    refine ⟨Int.not_lt.1 fun h2 => he (coefAt_lt h2), Int.not_lt.1 fun h2 => he (coefAt_ge (by omega))⟩
  have nz : ∀ e, Q e ≠ 0 → Q (s - e) ≠ 0 := fun e he h2 => he (by
    rw [hs (s - e) e (by omega), h2, Int.mul_zero])
  have b0 := inw _ (nz _ (by rw [q0]; exact h0))
  have b1 := inw _ (nz _ (by rw [q1]; exact h1))
  have hτ : τ = 1 ∨ τ = -1 := sq_one (q := Q (low + ((0 : Nat) : Int))) (by rw [q0]; exact h0) (by
    have e1 := hs (s - (low + ((0 : Nat) : Int))) (low + ((0 : Nat) : Int)) (by omega)
    have e2 := hs (low + ((0 : Nat) : Int)) (s - (low + ((0 : Nat) : Int))) (by omega)
    rw [e2] at e1
    exact e1)
  have hrev : ∀ i, i < L.length → L.getD (L.length - 1 - i) 0 = τ * L.getD i 0 := fun i hi => by
    rw [← coefAt_in (low := low), ← coefAt_in (low := low) (i := i), h, h]
    exact hs _ _ (by omega)
  have hc0 := hsum
  rw [psum_sumN] at hsum
  have half : ∀ k, ∀ m, L.length = k + m + k → sumN (fun i => L.getD (k + m + i) 0) k = τ * sumN (fun i => L.getD i 0) k := fun k m hk => by
    rw [sumN_rev, ← sumN_mul]
    refine sumN_congr fun i hi => ?_
    rw [← hrev i (by omega), show L.length - 1 - i = k + m + (k - 1 - i) by omega]
  obtain ⟨k, hk⟩ : ∃ k, L.length = k + k ∨ L.length = k + 1 + k := ⟨L.length / 2, by omega⟩
  rcases hk with hk | hk
  · exfalso
    have h2 : sumN (fun i => L.getD (k + i) 0) k = _ := half k 0 (by omega)
    rw [hk, sumN_split] at hsum
    rw [h2] at hsum
    generalize sumN (fun i => L.getD i 0) k = X at *
    rcases hτ with e | e <;> rw [e] at hsum <;> omega
  · have h2 := half k 1 hk
    have hm := hrev k (by omega)
    rw [show L.length - 1 - k = k by omega] at hm
    have hτ1 : τ = 1 := by
      rcases hτ with e | e
      · exact e
      · exfalso
        rw [hk, sumN_split] at hsum
        have hs1 : sumN (fun i => L.getD i 0) (k + 1) = sumN (fun i => L.getD i 0) k + L.getD k 0 := rfl
        rw [h2, hs1] at hsum
        rw [e] at hsum hm
        omega
    refine ⟨k, by omega, fun i hi => ?_⟩
    have := hrev i (by omega)
    rw [hτ1, Int.one_mul, show L.length - 1 - i = 2 * k - i by omega] at this
    exact this

end Go.Proofs

/-
  What the functions of this part hand back: each as a plain function of its arguments. Conditions: none.
-/
namespace Go.Proofs
open Go.W8
set_option linter.unusedVariables false
set_option linter.unusedSimpArgs false
set_option linter.unusedSectionVars false
set_option maxRecDepth 8000
set_option maxHeartbeats 4000000
--@plain
/-- The columns of a set, from k on. -/
def colsF (col : Nat → Cl) (S : Nat → Bool) : Nat → Nat → List Cl
  | _, 0 => []
  | k, j + 1 => if S k then col k :: colsF col S (k + 1) j else colsF col S (k + 1) j
section
variable {col : Nat → Cl} {S : Nat → Bool}
theorem colsF_yes {k j : Nat} (h : S k = true) : colsF col S k (j + 1) = col k :: colsF col S (k + 1) j := by
  show (if _ then _ else _) = _
  rw [if_pos h]
theorem colsF_no {k j : Nat} (h : S k = false) : colsF col S k (j + 1) = colsF col S (k + 1) j := by
  show (if _ then _ else _) = _
  rw [if_neg (by rw [h]; simp)]
theorem colsF_app (i : Nat) : ∀ (j k : Nat), colsF col S k (j + i) = colsF col S k j ++ colsF col S (k + j) i
  | 0, k => by rw [Nat.zero_add]; rfl
  | j + 1, k => by
    rw [show j + 1 + i = (j + i) + 1 by omega]
    cases h : S k with
    | true => rw [colsF_yes h, colsF_yes h, colsF_app i j (k + 1), show k + 1 + j = k + (j + 1) by omega]; rfl
    | false => rw [colsF_no h, colsF_no h, colsF_app i j (k + 1), show k + 1 + j = k + (j + 1) by omega]
theorem colsF_congr {S' : Nat → Bool} : ∀ (j k : Nat), (∀ a, k ≤ a → a < k + j → S a = S' a) → colsF col S k j = colsF col S' k j
  | 0, _, _ => rfl
  | j + 1, k, h => by
    have ih := colsF_congr j (k + 1) fun a h1 h2 => h a (by omega) (by omega)
    have h0 := h k (Nat.le_refl _) (by omega)
    cases hk : S k with
    | true => rw [colsF_yes hk, colsF_yes (h0 ▸ hk), ih]
    | false => rw [colsF_no hk, colsF_no (h0 ▸ hk), ih]
theorem colsF_rem {n a : Nat} (ha : a < n) : colsF col S 0 a ++ colsF col S (a + 1) (n - 1 - a) = colsF col (rem S a) 0 n := by
  have e : n = a + (1 + (n - 1 - a)) := by omega
  have h1 : colsF col (rem S a) 0 n = colsF col (rem S a) 0 a ++ colsF col (rem S a) (0 + a) (1 + (n - 1 - a)) := by
    rw [← colsF_app, ← e]
  rw [h1, colsF_app (n - 1 - a) 1 (0 + a)]
  have hne : ∀ b, b ≠ a → S b = rem S a b := fun b hb => by
    rw [rem_at, beq_eq_false_iff_ne.2 hb]; simp
  rw [colsF_congr (S' := rem S a) a 0 (fun b _ hb => hne b (by omega)), colsF_congr (S' := rem S a) (n - 1 - a) (a + 1) (fun b hb _ => hne b (by omega))]
  have h0 : colsF col (rem S a) (0 + a) 1 = [] := by
    rw [Nat.zero_add, colsF_no (by simp [rem_at])]; rfl
  rw [h0, show 0 + a + 1 = a + 1 by omega]; rfl
theorem colsF_ex (G : List Cl → Cl → Int) : ∀ (j k : Nat) (pre : List Cl), ex G pre (colsF col S k j) = sumN (fun i => if S (k + i) then sg (cb S (k + i) - cb S k) * G (pre ++ colsF col S k i ++ colsF col S (k + i + 1) (j - 1 - i)) (col (k + i)) else 0) j
  | 0, _, _ => rfl
  | j + 1, k, pre => by
    have hs := sumN_split (fun i => if S (k + i) then sg (cb S (k + i) - cb S k) * G (pre ++ colsF col S k i ++ colsF col S (k + i + 1) (j + 1 - 1 - i)) (col (k + i)) else 0) 1 j
    rw [Nat.add_comm 1 j] at hs
    rw [hs]
    have h0 : ∀ f : Nat → Int, sumN f 1 = f 0 := fun f => by show 0 + f 0 = f 0; omega
    rw [h0]
    rcases Bool.eq_false_or_eq_true (S k) with hk | hk
    · have hcb : cb S (k + 1) = cb S k + 1 := by show cb S k + _ = _; rw [if_pos hk]
      rw [colsF_yes hk]
      show G (pre ++ colsF col S (k + 1) j) (col k) - ex G (pre ++ [col k]) (colsF col S (k + 1) j) = _
      rw [colsF_ex G j (k + 1) (pre ++ [col k])]
      have e1 : (if S (k + 0) = true then sg (cb S (k + 0) - cb S k) * G (pre ++ colsF col S k 0 ++ colsF col S (k + 0 + 1) (j + 1 - 1 - 0)) (col (k + 0)) else 0) = G (pre ++ colsF col S (k + 1) j) (col k) := by
        rw [Nat.add_zero, if_pos hk, Nat.sub_self, show j + 1 - 1 - 0 = j by omega]
        show sg 0 * G (pre ++ [] ++ _) _ = _
        rw [List.append_nil, show sg 0 = 1 from rfl, Int.one_mul]
      rw [e1]
      have e2 : sumN (fun i => if S (k + (1 + i)) then sg (cb S (k + (1 + i)) - cb S k) * G (pre ++ colsF col S k (1 + i) ++ colsF col S (k + (1 + i) + 1) (j + 1 - 1 - (1 + i))) (col (k + (1 + i))) else 0) j = -1 * sumN (fun i => if S (k + 1 + i) then sg (cb S (k + 1 + i) - cb S (k + 1)) * G (pre ++ [col k] ++ colsF col S (k + 1) i ++ colsF col S (k + 1 + i + 1) (j - 1 - i)) (col (k + 1 + i)) else 0) j := by
        rw [← sumN_mul]
        refine sumN_congr fun i hi => ?_
        have hm := cb_mono S (show k + 1 ≤ k + 1 + i by omega)
        rw [show k + (1 + i) = k + 1 + i by omega]
        by_cases h1 : S (k + 1 + i) = true
        · rw [if_pos h1, if_pos h1, show cb S (k + 1 + i) - cb S k = cb S (k + 1 + i) - cb S (k + 1) + 1 by omega, sg_succ, show 1 + i = i + 1 by omega, colsF_yes hk, show j + 1 - 1 - (i + 1) = j - 1 - i by omega]
          simp only [List.append_assoc, List.cons_append, List.nil_append, Int.neg_mul, Int.one_mul]
        · rw [if_neg h1, if_neg h1]; rfl
      rw [e2]
      omega
    · have hcb : cb S (k + 1) = cb S k := by show cb S k + _ = _; rw [if_neg (by rw [hk]; simp)]; rfl
      rw [colsF_no hk, colsF_ex G j (k + 1) pre]
      have e1 : (if S (k + 0) = true then sg (cb S (k + 0) - cb S k) * G (pre ++ colsF col S k 0 ++ colsF col S (k + 0 + 1) (j + 1 - 1 - 0)) (col (k + 0)) else 0) = 0 := by
        rw [Nat.add_zero, if_neg (by rw [hk]; simp)]
      rw [e1, Int.zero_add]
      refine sumN_congr fun i hi => ?_
      rw [show k + (1 + i) = k + 1 + i by omega]
      by_cases h1 : S (k + 1 + i) = true
      · rw [if_pos h1, if_pos h1, hcb, show 1 + i = i + 1 by omega, colsF_no hk, show j + 1 - 1 - (i + 1) = j - 1 - i by omega]
      · rw [if_neg h1, if_neg h1]
end
/-- The determinant over a set of columns is the one over the list of its columns. -/
theorem dA_dt (n : Nat) (w : Nat → Nat → Int) : ∀ (m r : Nat) (S : Nat → Bool) (e : Int), dA n w m r S e = dt m (colsF (fun a b => - w b a) S 0 n) r e
  | 0, _, _, _ => rfl
  | m + 1, r, S, e => by
    rw [dt_succ, colsF_ex]
    show sumN _ n = _
    refine sumN_congr fun a ha => ?_
    rw [Nat.zero_add]
    by_cases h : S a = true
    · rw [if_pos h, if_pos h, show cb S 0 = 0 from rfl, Nat.sub_zero, List.nil_append, colsF_rem ha, dA_dt n w m (r + 1) (rem S a), show e - - w r a = e + w r a by omega]
    · rw [if_neg h, if_neg h]
/-- The arrows of a grid. -/
def arr (X O : Nat → Nat) : Nat → Nat → List Ar
  | _, 0 => []
  | k, j + 1 => (X k, O k) :: arr X O (k + 1) j
def vv (X O : Nat → Nat) : Nat → Cl
  | 0 => z0
  | a + 1 => stp (X a, O a) (vv X O a)
section
variable (X O : Nat → Nat)
theorem arr_len : ∀ j k, (arr X O k j).length = j
  | 0, _ => rfl
  | j + 1, k => congrArg (· + 1) (arr_len j (k + 1))
theorem arr_mem {a : Ar} : ∀ {j k}, a ∈ arr X O k j ↔ ∃ i, k ≤ i ∧ i < k + j ∧ a = (X i, O i)
  | 0, k => by
    constructor
    · intro h; cases h
    · rintro ⟨i, h1, h2, _⟩; omega
  | j + 1, k => by
    show a ∈ (X k, O k) :: arr X O (k + 1) j ↔ _
    rw [List.mem_cons, arr_mem]
    constructor
    · rintro (h | ⟨i, h1, h2, h3⟩)
      · exact ⟨k, by omega, by omega, h⟩
      · exact ⟨i, by omega, by omega, h3⟩
    · rintro ⟨i, h1, h2, h3⟩
      by_cases e : i = k
      · subst e; exact .inl h3
      · exact .inr ⟨i, by omega, by omega, h3⟩
theorem arr_os : ∀ j k, os (arr X O k j) = (List.range j).map fun i => X (k + i)
  | 0, _ => rfl
  | j + 1, k => by
    show X k :: os (arr X O (k + 1) j) = _
    rw [arr_os j (k + 1), List.range_succ_eq_map, List.map_cons, List.map_map]
    refine congrArg (X k :: ·) (List.map_congr_left fun i _ => ?_)
    show X (k + 1 + i) = X (k + (i + 1))
    rw [show k + 1 + i = k + (i + 1) by omega]
theorem arr_xs : ∀ j k, xs (arr X O k j) = (List.range j).map fun i => O (k + i)
  | 0, _ => rfl
  | j + 1, k => by
    show O k :: xs (arr X O (k + 1) j) = _
    rw [arr_xs j (k + 1), List.range_succ_eq_map, List.map_cons, List.map_map]
    refine congrArg (O k :: ·) (List.map_congr_left fun i _ => ?_)
    show O (k + 1 + i) = O (k + (i + 1))
    rw [show k + 1 + i = k + (i + 1) by omega]
theorem clF_arr : ∀ j k, clF (vv X O k) (arr X O k j) = colsF (vv X O) (fun _ => true) k j
  | 0, _ => rfl
  | j + 1, k => by
    rw [colsF_yes rfl]
    show vv X O k :: clF (stp (X k, O k) (vv X O k)) (arr X O (k + 1) j) = _
    have := clF_arr j (k + 1)
    rw [← this]
    rfl
theorem dl_arr (n : Nat) (e : Int) : dl (arr X O 0 n) e = dt n (colsF (vv X O) (fun _ => true) 0 n) 0 e := by
  unfold dl
  rw [arr_len, ← clF_arr]
  rfl
end
theorem map_perm {n : Nat} {f : Nat → Nat} (hf : ∀ i, i < n → f i < n) (hi : ∀ i, i < n → ∀ j, j < n → f i = f j → i = j) (hs : ∀ j, j < n → ∃ i, i < n ∧ f i = j) : ((List.range n).map f).Perm (List.range n) := by
  have hnd : ((List.range n).map f).Nodup := by
    unfold List.Nodup
    rw [List.pairwise_map]
    refine List.Pairwise.imp_of_mem ?_ (List.nodup_range (n := n))
    intro a b ha hb hab he
    exact hab (hi a (List.mem_range.1 ha) b (List.mem_range.1 hb) he)
  refine (List.perm_ext_iff_of_nodup hnd List.nodup_range).2 fun b => ?_
  rw [List.mem_map, List.mem_range]
  constructor
  · rintro ⟨i, h1, rfl⟩; exact hf i (List.mem_range.1 h1)
  · intro h
    obtain ⟨i, h1, h2⟩ := hs b h
    exact ⟨i, List.mem_range.2 h1, h2⟩
theorem dt_far : ∀ (m : Nat) (ps : List (Cl × Nat)) (r : Nat) (e : Int), m = ps.length → (∀ p ∈ ps, ∀ b, (p.1 b).natAbs ≤ p.2) → dt m (ps.map (·.1)) r e ≠ 0 → e.natAbs ≤ (ps.map (·.2)).sum
  | 0, ps, r, e, _, _, h => by
    have : e = 0 := Decidable.byContradiction fun h1 => h (if_neg h1)
    omega
  | m + 1, ps, r, e, hm, hp, h => by
    rw [dt_succ] at h
    obtain ⟨s1, c, s2, h1, h2⟩ : ∃ s1 c s2, ps.map (·.1) = s1 ++ c :: s2 ∧ dt m ([] ++ s1 ++ s2) (r + 1) (e - c r) ≠ 0 := by
      apply Classical.byContradiction
      intro hno
      refine h (ex_zero fun s1 c s2 es => Classical.byContradiction fun hne => hno ⟨s1, c, s2, es, hne⟩)
    obtain ⟨p1, q, rfl, rfl, e2⟩ := List.map_eq_append_iff.1 h1
    obtain ⟨p, p2, rfl, rfl, rfl⟩ := List.map_eq_cons_iff.1 e2
    rw [List.nil_append, ← List.map_append] at h2
    have ih := dt_far m (p1 ++ p2) (r + 1) (e - p.1 r) (by simp only [List.length_append, List.length_cons] at hm ⊢; omega) (fun p' hp' => hp p' (by
      rcases List.mem_append.1 hp' with h | h <;> simp [h])) h2
    have hpr := hp p (by simp) r
    simp only [List.map_append, List.map_cons, List.sum_append, List.sum_cons] at ih ⊢
    omega

end Go.Proofs

/-
  What the functions of this part hand back: each as a plain function of its arguments. Conditions: none.
-/
namespace Go.Proofs
open Go.W8
set_option linter.unusedVariables false
set_option linter.unusedSimpArgs false
set_option linter.unusedSectionVars false
set_option maxRecDepth 8000
set_option maxHeartbeats 4000000
section
variable {nx : Nat → Nat} {n : Nat} (hlt : ∀ j, j < n → nx j < n)
include hlt
theorem walk_val1 {c : Int} {g : Nat → Nat} (hg : ∀ j, j < n → g (nx j) = g j) : ∀ (f k : Nat) (l : List Int), k < n → ∀ j, j < n → 0 ≤ (walkC nx c f k l).getD j 0 → 0 ≤ l.getD j 0 ∨ g j = g k
  | 0, _, _, _, _, _, h => .inl h
  | f + 1, k, l, hk, j, hj, h => by
    by_cases h0 : l.getD k 0 < 0
    · rw [walkC_step h0] at h
      rcases walk_val1 hg f (nx k) (l.set k c) (hlt k hk) j hj h with h1 | h1
      · by_cases hkl : k < l.length
        · rw [cgetD_set hkl] at h1
          by_cases e : k = j
          · subst e; exact .inr rfl
          · rw [if_neg e] at h1; exact .inl h1
        · rw [List.set_eq_of_length_le (by omega)] at h1
          exact .inl h1
      · right; rw [h1]; exact hg k hk
    · rw [walkC_end h0] at h; exact .inl h
theorem comp_vals1 {g : Nat → Nat} (hg : ∀ j, j < n → g (nx j) = g j) : ∀ i, i ≤ n → ∃ L : List Nat, L.length = (compTo nx i).2 ∧ ∀ j, j < n → 0 ≤ (compTo nx i).1.getD j 0 → j < 8 → g j ∈ L
  | 0, _ => ⟨[], rfl, fun j hj h h8 => by
    have : (compTo nx 0).1.getD j 0 = -1 := by
      show (List.replicate 8 (-1 : Int)).getD j 0 = -1
      rw [List.getD_eq_getElem?_getD, List.getElem?_replicate_of_lt h8]; rfl
    omega⟩
  | i + 1, hi => by
    obtain ⟨L, h1, h2⟩ := comp_vals1 hg i (by omega)
    by_cases h0 : 0 ≤ (compTo nx i).1.getD i 0
    · rw [compTo_same h0]; exact ⟨L, h1, h2⟩
    · rw [compTo_more h0]
      refine ⟨g i :: L, by simp [h1], fun j hj h h8 => ?_⟩
      rcases walk_val1 hlt hg 8 i (compTo nx i).1 (by omega) j hj h with h3 | h3
      · exact List.mem_cons_of_mem _ (h2 j hj h3 h8)
      · rw [h3]; exact List.mem_cons_self ..
/-- One component: what is alike along the way is alike everywhere. -/
theorem comp_one (hn : n ≤ 8) {g : Nat → Nat} (hg : ∀ j, j < n → g (nx j) = g j) (h1 : (compTo nx n).2 = 1) {i j : Nat} (hi : i < n) (hj : j < n) : g i = g j := by
  obtain ⟨L, h2, h3⟩ := comp_vals1 hlt hg n (Nat.le_refl _)
  rw [h1] at h2
  obtain ⟨v, rfl⟩ := List.length_eq_one_iff.1 h2
  have a := List.mem_singleton.1 (h3 i hi (compTo_done nx n hn i hi) (by omega))
  have b := List.mem_singleton.1 (h3 j hj (compTo_done nx n hn j hj) (by omega))
  rw [a, b]
end
/-- The rows of a grid's signs as numbers from 0 on. -/
def rwN (x : List Int) (i : Nat) : Nat := (x.getD i 0).toNat
theorem rwN_pos {x : List Int} (hx : Bytes8 x) (i : Nat) : x.getD i 0 = (rwN x i : Int) := by
  unfold rwN
  by_cases h : i < 8
  · have := bytes_get hx h; omega
  · rw [getD_far (by rw [hx.len]; omega)]; rfl
section
variable {n : Nat} {x o : List Int} (hx : Bytes8 x) (ho : Bytes8 o) (hn : n ≤ 8) (hp : IsPerm x n) (hq : IsPerm o n)
include hx hp
theorem rwN_lt : ∀ i, i < n → rwN x i < n := fun i hi => by
  have := hp.1 i hi
  rw [rwN_pos hx] at this
  omega
theorem rwN_inj : ∀ i, i < n → ∀ j, j < n → rwN x i = rwN x j → i = j := fun i hi j hj h => by
  rcases Nat.lt_trichotomy i j with h2 | h2 | h2
  · exact absurd (by rw [rwN_pos hx, rwN_pos hx, h]) (hp.2.1 j hj i h2)
  · exact h2
  · exact absurd (by rw [rwN_pos hx, rwN_pos hx, h]) (hp.2.1 i hi j h2)
theorem rwN_perm : ((List.range n).map (rwN x)).Perm (List.range n) := map_perm (rwN_lt hx hp) (rwN_inj hx hp) (inj_surj n _ (rwN_lt hx hp) (rwN_inj hx hp))
include ho hq
theorem arr_pg : Pg n (arr (rwN x) (rwN o) 0 n) := by
  have e : ∀ f : Nat → Nat, (fun i => f (0 + i)) = f := fun f => funext fun i => by rw [Nat.zero_add]
  refine ⟨?_, ?_⟩
  · rw [arr_os, e]; exact rwN_perm hx hp
  · rw [arr_xs, e]; exact rwN_perm ho hq
include hn
theorem knot_sg (hc : (comps n x o).2 = 1) : Sg (arr (rwN x) (rwN o) 0 n) := by
  have hnx : ∀ k, k < n → nextOf n x o k < n ∧ rwN x (nextOf n x o k) = rwN o k := fun k hk => by
    have c2 := hq.1 k hk
    have c3 := bytes_get ho (i := k) (by omega)
    have h := rowOf_lt (fun i hi => (bytes_get hx (by omega)).1) hp c3.1 c2
    refine ⟨h.1, ?_⟩
    have h2 := h.2
    rw [rwN_pos hx, rwN_pos ho] at h2
    have h3 : (rwN x (nextOf n x o k) : Int) = (rwN o k : Int) := by
      unfold nextOf
      rw [rwN_pos ho]
      exact h2
    omega
  have hni : ∀ i, i < n → ∀ j, j < n → nextOf n x o i = nextOf n x o j → i = j := fun i hi j hj h => by
    have a := (hnx i hi).2
    have b := (hnx j hj).2
    rw [h, b] at a
    exact (rwN_inj ho hq j hj i hi a).symm
  intro S hne hcl
  classical
  have hT : ∀ k, k < n → S (rwN x k) → S (rwN x (nextOf n x o k)) := fun k hk h => by
    rw [(hnx k hk).2]
    exact hcl (rwN x k, rwN o k) ((arr_mem _ _).2 ⟨k, by omega, by omega, rfl⟩) h
  have hTr : ∀ k, k < n → S (rwN x (nextOf n x o k)) → S (rwN x k) := fun k hk h => by
    obtain ⟨i, hi, hfi⟩ := inj_surj n (fun i => if S (rwN x i) then nextOf n x o i else i) (fun i hi => by
      show (if _ then _ else _) < n
      split
      · exact (hnx i hi).1
      · exact hi) (fun i hi j hj h => by
      have h : (if S (rwN x i) then nextOf n x o i else i) = if S (rwN x j) then nextOf n x o j else j := h
      split at h
      · rename_i h1
        split at h
        · exact hni i hi j hj h
        · rename_i h2
          exact absurd (h ▸ hT i hi h1) h2
      · rename_i h1
        split at h
        · rename_i h2
          exact absurd (h ▸ hT j hj h2) h1
        · exact h) (nextOf n x o k) (hnx k hk).1
    have hfi : (if S (rwN x i) then nextOf n x o i else i) = nextOf n x o k := hfi
    split at hfi
    · rename_i h1
      rw [← hni i hi k hk hfi]; exact h1
    · rename_i h1
      rw [hfi] at h1
      exact absurd h h1
  obtain ⟨a, ha, hSa⟩ := hne
  obtain ⟨i, _, hi, rfl⟩ := (arr_mem _ _).1 ha
  intro b hb
  obtain ⟨j, _, hj, rfl⟩ := (arr_mem _ _).1 hb
  have h := comp_one (nx := nextOf n x o) (n := n) (fun k hk => (hnx k hk).1) hn (g := fun k => if S (rwN x k) then 1 else 0) (fun k hk => by
    show (if _ then 1 else 0) = if _ then 1 else 0
    by_cases h1 : S (rwN x k)
    · rw [if_pos h1, if_pos (hT k hk h1)]
    · rw [if_neg h1, if_neg fun h2 => h1 (hTr k hk h2)]) hc (i := i) (j := j) (by omega) (by omega)
  have h : (if S (rwN x i) then 1 else 0) = if S (rwN x j) then 1 else 0 := h
  rw [if_pos hSa] at h
  exact Decidable.byContradiction fun h2 => by
    rw [if_neg h2] at h
    omega
end
/-- How many of some rows are at or above b. -/
def sH (b : Nat) : List Nat → Int
  | [] => 0
  | c :: l => hv c b + sH b l
theorem sH_perm (b : Nat) {l l' : List Nat} (h : l.Perm l') : sH b l = sH b l' := by
  induction h with
  | nil => rfl
  | cons c _ ih => show _ + _ = _ + _; rw [ih]
  | swap c d l => show hv d b + (hv c b + _) = hv c b + (hv d b + _); omega
  | trans _ _ h1 h2 => rw [h1, h2]
theorem fnl_sH (b : Nat) : ∀ (l : List Ar) (v : Cl), fnl v l b = v b + sH b (xs l) - sH b (os l)
  | [], v => by show v b = v b + 0 - 0; omega
  | a :: l, v => by
    show fnl (stp a v) l b = v b + (hv a.2 b + sH b (xs l)) - (hv a.1 b + sH b (os l))
    rw [fnl_sH b l]
    show v b + hv a.2 b - hv a.1 b + _ - _ = _
    omega
theorem vv_fnl (X O : Nat → Nat) : ∀ j k, fnl (vv X O k) (arr X O k j) = vv X O (k + j)
  | 0, _ => rfl
  | j + 1, k => by
    show fnl (stp (X k, O k) (vv X O k)) (arr X O (k + 1) j) = _
    rw [show k + (j + 1) = k + 1 + j by omega, ← vv_fnl X O j (k + 1)]
    rfl
theorem vv_step (X O : Nat → Nat) (k b : Nat) : (vv X O (k + 1) b - vv X O k b).natAbs ≤ 1 := by
  show (vv X O k b + hv (O k) b - hv (X k) b - vv X O k b).natAbs ≤ 1
  unfold hv
  split <;> split <;> omega
theorem vv_move (X O : Nat → Nat) (k b : Nat) : ∀ j, (vv X O (k + j) b - vv X O k b).natAbs ≤ j
  | 0 => by simp
  | j + 1 => by
    have h1 := vv_move X O k b j
    have h2 := vv_step X O (k + j) b
    rw [show k + (j + 1) = k + j + 1 by omega]
    omega
theorem vv_bound {X O : Nat → Nat} {n : Nat} (hg : Pg n (arr X O 0 n)) {a b : Nat} (ha : a ≤ n) : (vv X O a b).natAbs ≤ min a (n - a) := by
  have h0 : vv X O n b = 0 := by
    have h1 := congrFun (vv_fnl X O n 0) b
    rw [Nat.zero_add, fnl_sH, sH_perm b (hg.x.trans hg.o.symm)] at h1
    have : vv X O 0 b = 0 := rfl
    omega
  have h1 := vv_move X O 0 b a
  have h2 := vv_move X O a b (n - a)
  rw [Nat.zero_add] at h1
  rw [show a + (n - a) = n by omega, h0] at h2
  have : vv X O 0 b = 0 := rfl
  omega
theorem cols_map (X O : Nat → Nat) : ∀ j k, colsF (vv X O) (fun _ => true) k j = (List.range j).map fun i => vv X O (k + i)
  | 0, _ => rfl
  | j + 1, k => by
    rw [colsF_yes rfl, cols_map X O j (k + 1), List.range_succ_eq_map, List.map_cons, List.map_map]
    refine congrArg (vv X O k :: ·) (List.map_congr_left fun i _ => ?_)
    show vv X O (k + 1 + i) = vv X O (k + (i + 1))
    rw [show k + 1 + i = k + (i + 1) by omega]
theorem min_sum : ∀ n : Nat, n < 9 → ((List.range n).map fun a => min a (n - a)).sum ≤ 16 := by decide +kernel
/-- A grid's determinant has but few powers. -/
theorem dl_far {X O : Nat → Nat} {n : Nat} (hg : Pg n (arr X O 0 n)) (hn : n ≤ 8) {e : Int} (h : dl (arr X O 0 n) e ≠ 0) : e.natAbs ≤ 16 := by
  rw [dl_arr, cols_map] at h
  have h2 := dt_far n ((List.range n).map fun a => (vv X O (0 + a), min a (n - a))) 0 e (by simp) (fun p hp b => by
    obtain ⟨a, ha, rfl⟩ := List.mem_map.1 hp
    rw [List.mem_range] at ha
    show (vv X O (0 + a) b).natAbs ≤ _
    rw [Nat.zero_add]
    exact vv_bound hg (by omega)) (by rw [List.map_map]; exact h)
  rw [List.map_map] at h2
  exact Nat.le_trans h2 (min_sum n (by omega))

end Go.Proofs

/-
  What the functions of this part hand back: each as a plain function of its arguments. Conditions: none.
-/
namespace Go.Proofs
open Go.W8
set_option linter.unusedVariables false
set_option linter.unusedSimpArgs false
set_option linter.unusedSectionVars false
set_option maxRecDepth 8000
set_option maxHeartbeats 4000000
--@plain
/-- Binomial coefficients, as both sides reckon them. -/
def binR (n : Int) : Nat → Int
  | 0 => 1
  | i + 1 => binR n i * (n - (i : Int)) / ((i : Int) + 1)
/-- What is left when the power k has been taken away. -/
def cwV (k : Nat) (L : List Int) (j : Nat) : Int := L.getD j 0 - L.getD k 0 * (sg (k - j) * binR (2 * (k : Int)) (k + j))
def cwP (k : Nat) (L : List Int) (t : Nat) : List Int := (List.range L.length).map fun j => if j < t then cwV k L j else L.getD j 0
def cwN (k : Nat) (L : List Int) : List Int := cwP k L (k + 1)
def cwOk (k : Nat) (L : List Int) : Prop := ∀ j, j ≤ k → coOk (cwV k L j) = true
instance (k : Nat) (L : List Int) : Decidable (cwOk k L) := by unfold cwOk; exact inferInstance
def cwK : Nat → List Int → List Int → Option (List Int)
  | 0, _, out => some out
  | k + 1, L, out => if cwOk k L then cwK k (cwN k L) (out.set k (L.getD k 0)) else none
section
variable {k t j : Nat} {L out : List Int}
end
/-- A polynomial that reads alike from both ends. -/
def symL (d : Nat) (L : List Int) : List Int := (List.range (2 * d + 1)).map fun i => L.getD (if i ≤ d then d - i else i - d) 0
section
variable {d d' k : Nat} {L : List Int}
end
/-- Reading alike from both ends. -/
def isSym (low : Int) (l : List Int) : Prop := l.reverse = l ∧ -(low + (l.length : Int) - 1) = low
instance (low : Int) (l : List Int) : Decidable (isSym low l) := by unfold isSym; exact inferInstance
theorem rev_get0 {l : List Int} {i : Nat} (h : i < l.length) : l.reverse.getD i 0 = l.getD (l.length - 1 - i) 0 := by
  rw [List.getD_eq_getElem?_getD, List.getElem?_reverse h, List.getD_eq_getElem?_getD]
end Go.Proofs

/-
  What the functions of this part hand back: each as a plain function of its arguments. Conditions: none.
-/
namespace Go.Proofs
open Go.W8
set_option linter.unusedVariables false
set_option linter.unusedSimpArgs false
set_option linter.unusedSectionVars false
set_option maxRecDepth 8000
set_option maxHeartbeats 4000000
theorem vv_wtG {x o : List Int} (hx : Bytes8 x) (ho : Bytes8 o) : (fun a b => - wtG x o b a) = vv (rwN x) (rwN o) := by
  funext a b
  induction a with
  | zero => rfl
  | succ a ih =>
    show -(wnd x o (b : Int) a + wstep x o (b : Int) a) = vv (rwN x) (rwN o) a b + hv (rwN o a) b - hv (rwN x a) b
    have ih : -(wnd x o (b : Int) a) = vv (rwN x) (rwN o) a b := ih
    rw [← ih]
    unfold wstep hv
    rw [rwN_pos hx, rwN_pos ho]
    by_cases h1 : b ≤ rwN x a <;> by_cases h2 : b ≤ rwN o a
    · rw [if_neg (by omega), if_neg (by omega), if_pos h1, if_pos h2]; omega
    · rw [if_pos (by omega), if_pos h1, if_neg h2]; omega
    · rw [if_neg (by omega), if_pos (by omega), if_neg h1, if_pos h2]; omega
    · rw [if_neg (by omega), if_neg (by omega), if_neg h1, if_neg h2]; omega
theorem pow_small : ∀ n : Nat, n < 8 → (2 : Int) ^ n * ((n + 1 : Nat) : Int) ^ (n + 1) ≤ 1000000000000 := by decide +kernel
section
variable {n : Nat} {x o : List Int} (hx : Bytes8 x) (ho : Bytes8 o) (hn : n ≤ 8) (hn2 : 2 ≤ n) (hp : IsPerm x n) (hq : IsPerm o n)
include hx ho hn hn2 hp hq
theorem detC_dl (e : Int) : coefAt (-8 * (n : Int)) (detC n x o) e = dl (arr (rwN x) (rwN o) 0 n) e := by
  have hg := arr_pg hx ho hp hq
  have far : ¬ (-8 * (n : Int) ≤ e ∧ e ≤ 8 * (n : Int)) → dl (arr (rwN x) (rwN o) 0 n) e = 0 := fun h => Decidable.byContradiction fun h1 => by
    have := dl_far hg hn h1
    omega
  by_cases h1 : e < -8 * (n : Int)
  · rw [coefAt_lt h1, far (by omega)]
  · by_cases h2 : -8 * (n : Int) + ((detC n x o).length : Int) ≤ e
    · rw [coefAt_ge h2, far (by rw [detC_len] at h2; omega)]
    · rw [detC_len] at h2
      obtain ⟨i, rfl⟩ : ∃ i : Nat, e = -8 * (n : Int) + (i : Int) := ⟨(e - (-8 * (n : Int))).toNat, by omega⟩
      rw [coefAt_in]
      unfold detC
      rw [cntL_get (by rw [List.length_replicate]; omega), List.getD_eq_getElem?_getD, List.getElem?_replicate]
      have hz : (if i < 16 * n + 1 then some (0 : Int) else none).getD 0 = 0 := by split <;> rfl
      rw [hz, dA_dt, dl_arr, vv_wtG hx ho, show (i : Int) - 0 - 8 * (n : Int) = -8 * (n : Int) + (i : Int) by omega]
      have hS : colsF (vv (rwN x) (rwN o)) (freeS (List.replicate 8 false)) 0 n = colsF (vv (rwN x) (rwN o)) (fun _ => true) 0 n := colsF_congr n 0 fun a _ ha => by
        unfold freeS
        rw [List.getD_eq_getElem?_getD, List.getElem?_replicate]
        split <;> rfl
      rw [hS]
      omega
theorem detL_short (h0 : (detL n x o).length ≠ 0) : (detL n x o).length ≤ 33 := by
  have hok := detL_ok x o hn
  rw [lauOk_pos h0] at hok
  simp only [Bool.and_eq_true, Bool.not_eq_true', beq_eq_false_iff_ne] at hok
  have hc : ∀ i : Nat, (detL n x o).getD i 0 ≠ 0 → (detLow n x o + (i : Int)).natAbs ≤ 16 := fun i hi => by
    refine dl_far (arr_pg hx ho hp hq) hn ?_
    rw [← detC_dl hx ho hn hn2 hp hq, ← coefAt_trim']
    show coefAt (detLow n x o) (detL n x o) _ ≠ 0
    rw [coefAt_in]
    exact hi
  have h1 := hc 0 hok.1.1.2
  have h2 := hc ((detL n x o).length - 1) hok.1.2
  omega
theorem knot_pal (hc : (comps n x o).2 = 1) : ∃ d : Nat, d ≤ 16 ∧ (alQ n x o).2.length = 2 * d + 1 ∧ ∀ i, i ≤ 2 * d → (alQ n x o).2.getD (2 * d - i) 0 = (alQ n x o).2.getD i 0 := by
  have hg := arr_pg hx ho hp hq
  have hsg := knot_sg hx ho hn hp hq hc
  have hdl := detC_dl hx ho hn hn2 hp hq
  have hsh := detL_short hx ho hn hn2 hp hq
  have hok := alQ_ok x o hn
  obtain ⟨m, rfl⟩ : ∃ m, n = m + 1 := ⟨n - 1, by omega⟩
  obtain ⟨Q, s, τ, fQ, dQ, bQ, hQ⟩ := grid_poly hg
  obtain ⟨hO, hs⟩ := hQ hsg
  obtain ⟨q, h1, h2, h3⟩ := qIter_div (low := detLow (m + 1) x o) (L := detL (m + 1) x o) fQ (fun e => by
    show coefAt (trimLow _ _) (trimL _) e = _
    rw [coefAt_trim', hdl, dQ]) bQ (pow_small m (by omega)) m (Nat.le_refl _)
  have hq : alQ (m + 1) x o = q := by
    unfold alQ
    rw [show m + 1 - 1 = m by omega, h1]; rfl
  rw [hq] at hok ⊢
  rw [Nat.sub_self] at h2
  obtain ⟨d, e1, e2⟩ := pal (Q := Q) (low := q.1) (L := q.2) h2 hO hs fun h0 => by
    rw [lauOk_pos h0] at hok
    simp only [Bool.and_eq_true, Bool.not_eq_true', beq_eq_false_iff_ne] at hok
    exact ⟨hok.1.1.2, hok.1.2⟩
  have := hsh (by omega)
  exact ⟨d, by omega, e1, e2⟩
end
/-- What is told of a knot's polynomial: of odd length, alike from both ends. -/
theorem knot_al {s : Int} {x o : List Int} (hx : Bytes8 x) (ho : Bytes8 o) (hg : gridB s x o = true) (hk : knotB s x o = true) : ∃ d : Nat, d ≤ 16 ∧ (alL s.toNat x o).length = 2 * d + 1 ∧ (alL s.toNat x o).reverse = alL s.toNat x o := by
  obtain ⟨n, rfl, hn2, hn, hp, hq⟩ := gridB_perm hg
  unfold knotB at hk
  rw [Int.toNat_natCast] at hk ⊢
  obtain ⟨d, hd, h1, h2⟩ := knot_pal hx ho hn hn2 hp hq (by simpa using hk)
  have hl : (alL n x o).length = 2 * d + 1 := by rw [alL_len, h1]
  refine ⟨d, hd, hl, getD_ext0 (by simp) fun i hi => ?_⟩
  rw [List.length_reverse, hl] at hi
  rw [rev_get0 (by omega), hl, show 2 * d + 1 - 1 - i = 2 * d - i by omega]
  have := h2 i (by omega)
  unfold alL
  split
  · rw [negL_get, negL_get, this]
  · exact this

end Go.Proofs

/-
  What the functions of this part hand back: each as a plain function of its arguments. Conditions: none.
-/
namespace Go.Proofs
open Go.W8
set_option linter.unusedVariables false
set_option linter.unusedSimpArgs false
set_option linter.unusedSectionVars false
set_option maxRecDepth 8000
set_option maxHeartbeats 4000000
theorem agg2g_0 (a b : Value) : (#[a, b] : Array Value).getD 0 undef = a := rfl
def genV (n : Nat) (x o : List Int) : Int := 0 - loL (alL n x o)
theorem gen_shape (s : Int) (x o : List Int) (hx : Bytes8 x) (ho : Bytes8 o) : ∃ v c, knotI s x o (genV s.toNat x o) = .tuple #[.int .i64 v, .int .i64 c] := ⟨_, _, rfl⟩
theorem loL_odd {l : List Int} {d : Nat} (h : l.length = 2 * d + 1) : loL l = -(d : Int) := by
  unfold loL
  rw [h, show (0 : Int) - (((2 * d + 1 : Nat) : Int) - 1) = -(2 * (d : Int)) by omega, Int.neg_tdiv, Int.tdiv_eq_ediv_of_nonneg (by omega)]
  omega
section
variable (n : Nat) (x o : List Int) (hx : Bytes8 x) (ho : Bytes8 o) (hn : n ≤ 8) (hn2 : 2 ≤ n) (hk : ∃ d : Nat, d ≤ 16 ∧ (alL n x o).length = 2 * d + 1 ∧ (alL n x o).reverse = alL n x o)
include hx ho hn hn2 hk
theorem GenusBound1_c : Gives Try.prog 18 #[.agg (gc (n : Int) x o).toArray] (.int .i64 (genV n x o)) := by
  have hl := hx.len
  have hm := ho.len
  obtain ⟨d, hd, h1, _⟩ := hk
  have hlo := loL_odd h1
  skip
  refine Gives.of fun w => ?_
  refine acall_of (N := 6) (c := _) (rs := [.tmp 2]) (args := [_]) Try.func18 rfl (by decide) rfl rfl (Nat.le_of_ble_eq_true rfl) ?_
  refine Cd.rs [1] fun K hK => ?_
  simp (maxSteps := 2000000) (disch := first | (simp only [E4, hl, hm] <;> omega) | omega | fail) only [↓E2, E3, bare, bareJ, ↓E0, E1, env0, envN, evOps, evOp, evQs, evQ, evV, setD, pureOp, ev, upd, updL, Value.cells, hav, delB, ↓reduceIte, Zj, Zk, Nat.reduceAdd, Nat.reduceLT, Nat.reduceEqDiff, Nat.reduceMul, Nat.reduceLeDiff, if_true, Zn, reduceCtorEq, ZA, eq_self, Int.reduceLE, Int.reduceLT, Int.reduceToNat, ne_eq, Nat.reduceSub, hl, hm]
  repeat refine And.intro (by omega) ?_
  intro b1 hb1
  try simp (maxSteps := 2000000) (disch := first | (simp only [E4, hl, hm] <;> omega) | omega | fail) only [↓E2, E3, bare, bareJ, ↓E0, E1, env0, envN, evOps, evOp, evQs, evQ, evV, setD, pureOp, ev, upd, updL, Value.cells, hav, delB, ↓reduceIte, Zj, Zk, Nat.reduceAdd, Nat.reduceLT, Nat.reduceEqDiff, Nat.reduceMul, Nat.reduceLeDiff, if_true, Zn, reduceCtorEq, ZA, eq_self, Int.reduceLE, Int.reduceLT, Int.reduceToNat, ne_eq, Nat.reduceSub, hl, hm]
  repeat refine And.intro (by omega) ?_
  repeat refine And.intro (by omega) ?_
  intro g
  simp only [List.map_cons, List.map_nil, updL, upd, Nat.reduceEqDiff, if_true, if_false, ↓reduceIte]
  refine hK _ _ ?_; clear hK K
  refine Cd.rs [2] fun K hK => ?_
  simp (maxSteps := 2000000) (disch := first | (simp only [E4, hl, hm] <;> omega) | omega | fail) only [↓E2, E3, bare, bareJ, ↓E0, E1, env0, envN, evOps, evOp, evQs, evQ, evV, setD, pureOp, ev, upd, updL, cellAt, cellsAt, findB, setB, hav, delB, ↓reduceIte, Zj, Zk, Nat.reduceAdd, Nat.reduceLT, Nat.reduceEqDiff, Nat.reduceMul, Nat.reduceLeDiff, if_true, Zn, reduceCtorEq, ZA, eq_self, Int.reduceLE, Int.reduceLT, Int.reduceToNat, ne_eq, Nat.reduceSub, Tld27, hl, hm]
  repeat refine And.intro (by omega) ?_
  refine callK_newR0 (alexander_c n x o hx ho hn hn2) (fun _ _ => toldW_nil) ?_
  rintro v' M' ⟨s', rfl, hs'⟩ nd' _
  obtain ⟨a', m', c', rfl⟩ := hs'.form
  obtain rfl := hs'.len1
  simp only [List.cons_append, List.nil_append] at nd' ⊢
  simp (maxSteps := 2000000) (disch := first | (simp only [E4, hl, hm] <;> omega) | omega | fail) only [↓E2, E3, bare, bareJ, ↓E0, E1, env0, envN, evOps, evOp, evQs, evQ, evV, setD, pureOp, ev, upd, updL, cellAt, cellsAt, findB, setB, hav, delB, ↓reduceIte, Zj, Zk, Nat.reduceAdd, Nat.reduceLT, Nat.reduceEqDiff, Nat.reduceMul, Nat.reduceLeDiff, if_true, Zn, reduceCtorEq, ZA, eq_self, Int.reduceLE, Int.reduceLT, Int.reduceToNat, ne_eq, Nat.reduceSub, Tld27, hl, hm]
  repeat refine And.intro (by omega) ?_
  refine callK_gives (high_c (loL (alL n x o)) (alL n x o) a' c' (by omega) (by omega)) ?_
  simp (maxSteps := 2000000) (disch := first | (simp only [E4, hl, hm] <;> omega) | omega | fail) only [↓E2, E3, bare, bareJ, ↓E0, E1, env0, envN, evOps, evOp, evQs, evQ, evV, setD, pureOp, ev, upd, updL, cellAt, cellsAt, findB, setB, hav, delB, ↓reduceIte, Zj, Zk, Nat.reduceAdd, Nat.reduceLT, Nat.reduceEqDiff, Nat.reduceMul, Nat.reduceLeDiff, if_true, Zn, reduceCtorEq, ZA, eq_self, Int.reduceLE, Int.reduceLT, Int.reduceToNat, ne_eq, Nat.reduceSub, Tld27, hl, hm]
  repeat refine And.intro (by omega) ?_
  repeat refine And.intro (by omega) ?_
  intro g
  simp only [List.map_cons, List.map_nil, updL, upd, Nat.reduceEqDiff, if_true, if_false, ↓reduceIte]
  refine hK _ _ ?_; clear hK K
  refine Cd.ret ?_
  simp (maxSteps := 2000000) (disch := first | (simp only [E4, hl, hm] <;> omega) | omega | fail) only [↓E2, E3, bare, bareJ, ↓E0, E1, evP, evPlan, env0, envN, evOps, evOp, evQs, evQ, evV, setD, pureOp, ev, upd, updL, gate, binW, eqOp, binV, intOp, shOp, boolOp, unV, convV, nilV, fieldAddrV, indexAddrV, extractV, cellAt, cellsAt, findB, setB, fillL, buildV, Value.cells, lenV, minV, maxV, hav, sliceV, loV, hiV, bslQ, mksQ, appQ, partsOk, partsCells, delB, eqL, SameI, strOp, apzQ, cvtQ, capV, ↓reduceIte, Zj, Zk, Nat.reduceAdd, Nat.reduceLT, Nat.reduceEqDiff, Nat.reduceMul, Nat.reduceLeDiff, if_true, Zn, reduceCtorEq, ZA, eq_self, Int.reduceLE, Int.reduceLT, Int.reduceToNat, ne_eq, Nat.reduceSub, hl, hm]
  repeat refine And.intro (by omega) ?_
  refine congrArg (Value.int .i64) ?_
  unfold genV
  omega
end
section
variable (s : Int) (x o : List Int) (hx : Bytes8 x) (ho : Bytes8 o)
include hx ho
theorem iGenus_c : Gives Try.prog 9 #[.agg (gc s x o).toArray] (knotI s x o (genV s.toNat x o)) := by
  have hl := hx.len
  have hm := ho.len
  obtain ⟨v, c, hR⟩ := gen_shape s x o hx ho
  have hW := knottedInt_c s x o hx ho 18 (genV s.toNat x o) fun hk => by
    obtain ⟨hg, hkb⟩ := knotC_zero.1 hk
    have ha := knot_al hx ho hg hkb
    obtain ⟨n, rfl, hn2, hn⟩ := gridB_s hg
    rw [Int.toNat_natCast] at ha ⊢
    exact GenusBound1_c n x o hx ho hn hn2 ha
  rw [hR] at hW ⊢
  skip
  refine Gives.of fun w => ?_
  refine acall_of (N := 8) (c := _) (rs := [.tmp 2, .tmp 3]) (args := [_]) Try.func9 rfl (by decide) rfl rfl (Nat.le_of_ble_eq_true rfl) ?_
  refine Cd.rs [1] fun K hK => ?_
  simp (maxSteps := 2000000) (disch := first | (simp only [E4, hl, hm] <;> omega) | omega | fail) only [↓E2, E3, bare, bareJ, ↓E0, E1, env0, envN, evOps, evOp, evQs, evQ, evV, setD, pureOp, ev, upd, updL, Value.cells, hav, delB, ↓reduceIte, Zj, Zk, Nat.reduceAdd, Nat.reduceLT, Nat.reduceEqDiff, Nat.reduceMul, Nat.reduceLeDiff, if_true, Zn, reduceCtorEq, ZA, eq_self, Int.reduceLE, Int.reduceLT, Int.reduceToNat, ne_eq, Nat.reduceSub, hl, hm]
  repeat refine And.intro (by omega) ?_
  intro b1 hb1
  try simp (maxSteps := 2000000) (disch := first | (simp only [E4, hl, hm] <;> omega) | omega | fail) only [↓E2, E3, bare, bareJ, ↓E0, E1, env0, envN, evOps, evOp, evQs, evQ, evV, setD, pureOp, ev, upd, updL, Value.cells, hav, delB, ↓reduceIte, Zj, Zk, Nat.reduceAdd, Nat.reduceLT, Nat.reduceEqDiff, Nat.reduceMul, Nat.reduceLeDiff, if_true, Zn, reduceCtorEq, ZA, eq_self, Int.reduceLE, Int.reduceLT, Int.reduceToNat, ne_eq, Nat.reduceSub, hl, hm]
  repeat refine And.intro (by omega) ?_
  repeat refine And.intro (by omega) ?_
  intro g
  simp only [List.map_cons, List.map_nil, updL, upd, Nat.reduceEqDiff, if_true, if_false, ↓reduceIte]
  refine hK _ _ ?_; clear hK K
  refine Cd.rs [2, 3] fun K hK => ?_
  simp (maxSteps := 2000000) (disch := first | (simp only [E4, hl, hm] <;> omega) | omega | fail) only [↓E2, E3, bare, bareJ, ↓E0, E1, env0, envN, evOps, evOp, evQs, evQ, evV, setD, pureOp, ev, upd, updL, extractV, cellAt, cellsAt, findB, setB, hav, delB, ↓reduceIte, Zj, Zk, Nat.reduceAdd, Nat.reduceLT, Nat.reduceEqDiff, Nat.reduceMul, Nat.reduceLeDiff, if_true, Zn, reduceCtorEq, ZA, eq_self, Int.reduceLE, Int.reduceLT, Int.reduceToNat, ne_eq, Nat.reduceSub, Tld27, hl, hm]
  repeat refine And.intro (by omega) ?_
  refine callK_gives hW ?_
  simp (maxSteps := 2000000) (disch := first | (simp only [E4, hl, hm] <;> omega) | omega | fail) only [↓E2, E3, bare, bareJ, ↓E0, E1, env0, envN, evOps, evOp, evQs, evQ, evV, setD, pureOp, ev, upd, updL, extractV, cellAt, cellsAt, findB, setB, hav, delB, ↓reduceIte, Zj, Zk, Nat.reduceAdd, Nat.reduceLT, Nat.reduceEqDiff, Nat.reduceMul, Nat.reduceLeDiff, if_true, Zn, reduceCtorEq, ZA, eq_self, Int.reduceLE, Int.reduceLT, Int.reduceToNat, ne_eq, Nat.reduceSub, Tld27, hl, hm]
  repeat refine And.intro (by omega) ?_
  repeat refine And.intro (by omega) ?_
  intro g
  simp only [List.map_cons, List.map_nil, updL, upd, Nat.reduceEqDiff, if_true, if_false, ↓reduceIte]
  refine hK _ _ ?_; clear hK K
  refine Cd.ret ?_
  simp (maxSteps := 2000000) (disch := first | (simp only [E4, hl, hm] <;> omega) | omega | fail) only [↓E2, E3, bare, bareJ, ↓E0, E1, evP, evPlan, env0, envN, evOps, evOp, evQs, evQ, evV, setD, pureOp, ev, upd, updL, gate, binW, eqOp, binV, intOp, shOp, boolOp, unV, convV, nilV, fieldAddrV, indexAddrV, extractV, cellAt, cellsAt, findB, setB, fillL, buildV, Value.cells, lenV, minV, maxV, hav, sliceV, loV, hiV, bslQ, mksQ, appQ, partsOk, partsCells, delB, eqL, SameI, strOp, apzQ, cvtQ, capV, ↓reduceIte, Zj, Zk, Nat.reduceAdd, Nat.reduceLT, Nat.reduceEqDiff, Nat.reduceMul, Nat.reduceLeDiff, if_true, Zn, reduceCtorEq, ZA, eq_self, Int.reduceLE, Int.reduceLT, Int.reduceToNat, ne_eq, Nat.reduceSub, hl, hm]
  repeat refine And.intro (by omega) ?_
theorem sGenus_c : Gives Try.prog 8 #[.agg (gc s x o).toArray] (knotI s x o (genV s.toNat x o)) := by
  have hl := hx.len
  have hm := ho.len
  skip
  refine Gives.of fun w => ?_
  refine acall_of (N := 14) (c := _) (rs := [.tmp 2, .tmp 3]) (args := [_]) Try.func8 rfl (by decide) rfl rfl (Nat.le_of_ble_eq_true rfl) ?_
  refine Cd.rs [1] fun K hK => ?_
  simp (maxSteps := 2000000) (disch := first | (simp only [E4, hl, hm] <;> omega) | omega | fail) only [↓E2, E3, bare, bareJ, ↓E0, E1, env0, envN, evOps, evOp, evQs, evQ, evV, setD, pureOp, ev, upd, updL, Value.cells, hav, delB, ↓reduceIte, Zj, Zk, Nat.reduceAdd, Nat.reduceLT, Nat.reduceEqDiff, Nat.reduceMul, Nat.reduceLeDiff, if_true, Zn, reduceCtorEq, ZA, eq_self, Int.reduceLE, Int.reduceLT, Int.reduceToNat, ne_eq, Nat.reduceSub, hl, hm]
  repeat refine And.intro (by omega) ?_
  intro b1 hb1
  try simp (maxSteps := 2000000) (disch := first | (simp only [E4, hl, hm] <;> omega) | omega | fail) only [↓E2, E3, bare, bareJ, ↓E0, E1, env0, envN, evOps, evOp, evQs, evQ, evV, setD, pureOp, ev, upd, updL, Value.cells, hav, delB, ↓reduceIte, Zj, Zk, Nat.reduceAdd, Nat.reduceLT, Nat.reduceEqDiff, Nat.reduceMul, Nat.reduceLeDiff, if_true, Zn, reduceCtorEq, ZA, eq_self, Int.reduceLE, Int.reduceLT, Int.reduceToNat, ne_eq, Nat.reduceSub, hl, hm]
  repeat refine And.intro (by omega) ?_
  repeat refine And.intro (by omega) ?_
  intro g
  simp only [List.map_cons, List.map_nil, updL, upd, Nat.reduceEqDiff, if_true, if_false, ↓reduceIte]
  refine hK _ _ ?_; clear hK K
  refine Cd.seq ?_
  refine Cd.rs [1, 4] fun K hK => ?_
  simp (maxSteps := 2000000) (disch := first | (simp only [E4, hl, hm] <;> omega) | omega | fail) only [↓E2, E3, bare, bareJ, ↓E0, E1, env0, envN, evOps, evOp, evQs, evQ, evV, setD, pureOp, ev, upd, updL, cellAt, cellsAt, findB, setB, hav, delB, ↓reduceIte, Zj, Zk, Nat.reduceAdd, Nat.reduceLT, Nat.reduceEqDiff, Nat.reduceMul, Nat.reduceLeDiff, if_true, Zn, reduceCtorEq, ZA, eq_self, Int.reduceLE, Int.reduceLT, Int.reduceToNat, ne_eq, Nat.reduceSub, Tld27, hl, hm]
  repeat refine And.intro (by omega) ?_
  refine callK_gives (l04Knot_c s x o hx ho) ?_
  simp (maxSteps := 2000000) (disch := first | (simp only [E4, hl, hm] <;> omega) | omega | fail) only [↓E2, E3, bare, bareJ, ↓E0, E1, env0, envN, evOps, evOp, evQs, evQ, evV, setD, pureOp, ev, upd, updL, cellAt, cellsAt, findB, setB, hav, delB, ↓reduceIte, Zj, Zk, Nat.reduceAdd, Nat.reduceLT, Nat.reduceEqDiff, Nat.reduceMul, Nat.reduceLeDiff, if_true, Zn, reduceCtorEq, ZA, eq_self, Int.reduceLE, Int.reduceLT, Int.reduceToNat, ne_eq, Nat.reduceSub, Tld27, hl, hm]
  repeat refine And.intro (by omega) ?_
  repeat refine And.intro (by omega) ?_
  intro g
  simp only [List.map_cons, List.map_nil, updL, upd, Nat.reduceEqDiff, if_true, if_false, ↓reduceIte]
  refine hK _ _ ?_; clear hK K
  refine Cd.rs [1, 4, 8] fun K hK => ?_
  simp (maxSteps := 2000000) (disch := first | (simp only [E4, hl, hm] <;> omega) | omega | fail) only [↓E2, E3, bare, bareJ, ↓E0, E1, env0, envN, evOps, evOp, evQs, evQ, evV, setD, pureOp, ev, upd, updL, binW, eqOp, binV, intOp, shOp, boolOp, hav, delB, eqL, SameI, strOp, ↓reduceIte, Zj, Zk, Nat.reduceAdd, Nat.reduceLT, Nat.reduceEqDiff, Nat.reduceMul, Nat.reduceLeDiff, if_true, Zn, reduceCtorEq, ZA, eq_self, Int.reduceLE, Int.reduceLT, Int.reduceToNat, ne_eq, Nat.reduceSub, hl, hm]
  repeat refine And.intro (by omega) ?_
  repeat refine And.intro (by omega) ?_
  intro g
  simp only [List.map_cons, List.map_nil, updL, upd, Nat.reduceEqDiff, if_true, if_false, ↓reduceIte]
  refine hK _ _ ?_; clear hK K
  refine Cd.cond rfl (fun h1 => ?_) (fun h1 => ?_)
  · simp only [decide_eq_true_eq, decide_eq_false_iff_not, beq_iff_eq, beq_eq_false_iff_ne, bne_iff_ne, bne_eq_false_iff_eq, Bool.and_eq_true, Bool.or_eq_true, Bool.or_eq_false_iff, Bool.not_eq_true', Bool.not_eq_false', Bool.and_eq_false_imp, ne_eq, gt_iff_lt, ge_iff_le, Int.not_lt, Int.not_le, Classical.not_not] at h1
    rw [knotI_no h1]
    refine Cd.rs [2, 3] fun K hK => ?_
    simp (maxSteps := 2000000) (disch := first | (simp only [E4, hl, hm] <;> omega) | omega | fail) only [↓E2, E3, bare, bareJ, ↓E0, E1, env0, envN, evOps, evOp, evQs, evQ, evV, setD, pureOp, ev, upd, updL, hav, delB, ↓reduceIte, Zj, Zk, Nat.reduceAdd, Nat.reduceLT, Nat.reduceEqDiff, Nat.reduceMul, Nat.reduceLeDiff, if_true, Zn, reduceCtorEq, ZA, eq_self, Int.reduceLE, Int.reduceLT, Int.reduceToNat, ne_eq, Nat.reduceSub, hl, hm]
    repeat refine And.intro (by omega) ?_
    repeat refine And.intro (by omega) ?_
    intro g
    simp only [List.map_cons, List.map_nil, updL, upd, Nat.reduceEqDiff, if_true, if_false, ↓reduceIte]
    refine hK _ _ ?_; clear hK K
    refine Cd.ret (thenR ?_)
    simp (maxSteps := 2000000) (disch := first | (simp only [E4, hl, hm] <;> omega) | omega | fail) only [↓E2, E3, bare, bareJ, ↓E0, E1, evP, evPlan, env0, envN, evOps, evOp, evQs, evQ, evV, setD, pureOp, ev, upd, updL, gate, binW, eqOp, binV, intOp, shOp, boolOp, unV, convV, nilV, fieldAddrV, indexAddrV, extractV, cellAt, cellsAt, findB, setB, fillL, buildV, Value.cells, lenV, minV, maxV, hav, sliceV, loV, hiV, bslQ, mksQ, appQ, partsOk, partsCells, delB, eqL, SameI, strOp, apzQ, cvtQ, capV, ↓reduceIte, Zj, Zk, Nat.reduceAdd, Nat.reduceLT, Nat.reduceEqDiff, Nat.reduceMul, Nat.reduceLeDiff, if_true, Zn, reduceCtorEq, ZA, eq_self, Int.reduceLE, Int.reduceLT, Int.reduceToNat, ne_eq, Nat.reduceSub, hl, hm]
    repeat refine And.intro (by omega) ?_
  · simp only [decide_eq_true_eq, decide_eq_false_iff_not, beq_iff_eq, beq_eq_false_iff_ne, bne_iff_ne, bne_eq_false_iff_eq, Bool.and_eq_true, Bool.or_eq_true, Bool.or_eq_false_iff, Bool.not_eq_true', Bool.not_eq_false', Bool.and_eq_false_imp, ne_eq, gt_iff_lt, ge_iff_le, Int.not_lt, Int.not_le, Classical.not_not] at h1
    have hg := (knotC_zero.1 h1).1
    rw [knotI_yes h1]
    obtain ⟨n, rfl, hn2, hn⟩ := gridB_s hg
    rw [Int.toNat_natCast]
    have hok := alL_ok x o hn
    have hq1 := lauOk_low hok
    refine Cd.skip ?_
    refine thenN ?_
    refine Cd.rs [2, 3] fun K hK => ?_
    simp (maxSteps := 2000000) (disch := first | (simp only [E4, hl, hm] <;> omega) | omega | fail) only [↓E2, E3, bare, bareJ, ↓E0, E1, env0, envN, evOps, evOp, evQs, evQ, evV, setD, pureOp, ev, upd, updL, unV, cellAt, cellsAt, findB, setB, Value.cells, hav, delB, ↓reduceIte, Zj, Zk, Nat.reduceAdd, Nat.reduceLT, Nat.reduceEqDiff, Nat.reduceMul, Nat.reduceLeDiff, if_true, Zn, reduceCtorEq, ZA, eq_self, Int.reduceLE, Int.reduceLT, Int.reduceToNat, ne_eq, Nat.reduceSub, Tagg2, Tfld35_0, Thas2, Tld27, Tpar2, Tsz2, hl, hm]
    repeat refine And.intro (by omega) ?_
    refine callK_newR0 (l04Alexander_c n x o hx ho hn hn2) (fun _ _ => toldW_nil) ?_
    rintro v' M' ⟨s', rfl, hs'⟩ nd' _
    simp only [List.cons_append, List.nil_append] at nd' ⊢
    simp (maxSteps := 2000000) (disch := first | (simp only [E4, hl, hm, fieldV, partV, Bool.and_self, agg2g_0] <;> omega) | omega | fail) only [↓E2, E3, bare, bareJ, ↓E0, E1, env0, envN, evOps, evOp, evQs, evQ, evV, setD, pureOp, ev, upd, updL, unV, cellAt, cellsAt, findB, setB, Value.cells, hav, delB, ↓reduceIte, Zj, Zk, Nat.reduceAdd, Nat.reduceLT, Nat.reduceEqDiff, Nat.reduceMul, Nat.reduceLeDiff, if_true, Zn, reduceCtorEq, ZA, eq_self, Int.reduceLE, Int.reduceLT, Int.reduceToNat, ne_eq, Nat.reduceSub, Tagg2, Tfld35_0, Thas2, Tld27, Tpar2, Tsz2, hl, hm, fieldV, partV, Bool.and_self, agg2g_0]
    repeat refine And.intro (by omega) ?_
    repeat refine And.intro (by omega) ?_
    intro g
    simp only [List.map_cons, List.map_nil, updL, upd, Nat.reduceEqDiff, if_true, if_false, ↓reduceIte]
    refine hK _ _ ?_; clear hK K
    refine Cd.ret ?_
    simp (maxSteps := 2000000) (disch := first | (simp only [E4, hl, hm] <;> omega) | omega | fail) only [↓E2, E3, bare, bareJ, ↓E0, E1, evP, evPlan, env0, envN, evOps, evOp, evQs, evQ, evV, setD, pureOp, ev, upd, updL, gate, binW, eqOp, binV, intOp, shOp, boolOp, unV, convV, nilV, fieldAddrV, indexAddrV, extractV, cellAt, cellsAt, findB, setB, fillL, buildV, Value.cells, lenV, minV, maxV, hav, sliceV, loV, hiV, bslQ, mksQ, appQ, partsOk, partsCells, delB, eqL, SameI, strOp, apzQ, cvtQ, capV, ↓reduceIte, Zj, Zk, Nat.reduceAdd, Nat.reduceLT, Nat.reduceEqDiff, Nat.reduceMul, Nat.reduceLeDiff, if_true, Zn, reduceCtorEq, ZA, eq_self, Int.reduceLE, Int.reduceLT, Int.reduceToNat, ne_eq, Nat.reduceSub, hl, hm]
    repeat refine And.intro (by omega) ?_
    rfl
end

end Go.Proofs

/-
  What the functions of this part hand back: each as a plain function of its arguments. Conditions: none.
-/
namespace Go.Proofs
open Go.W8
set_option linter.unusedVariables false
set_option linter.unusedSimpArgs false
set_option linter.unusedSectionVars false
set_option maxRecDepth 8000
set_option maxHeartbeats 4000000
theorem lawGenusBound_c (s0 : Int) (x0 o0 : List Int) (w0 : -9223372036854775808 ≤ s0 ∧ s0 < 9223372036854775808) (y0 : Bytes8 x0) (z0 : Bytes8 o0) : Gives Try.prog 4 #[.agg (gc s0 x0 o0).toArray] (.bool true) := by
  have hl0 := y0.len
  have hm0 := z0.len
  skip
  have hS := sGenus_c s0 x0 o0 y0 z0
  have hI := iGenus_c s0 x0 o0 y0 z0
  obtain ⟨v, c, hR⟩ := gen_shape s0 x0 o0 y0 z0
  rw [hR] at hS hI
  refine Gives.of fun w => ?_
  refine acall_of (N := 27) (c := _) (rs := [.tmp 2]) (args := [_]) Try.func4 rfl (by decide) rfl rfl (Nat.le_of_ble_eq_true rfl) ?_
  refine Cd.rs [1] fun K hK => ?_
  simp (maxSteps := 2000000) (disch := first | omega | (simp only [E4, hl0, hm0, *] <;> omega) | fail) only [↓E0, E1, env0, envN, evOps, evOp, evQs, evQ, evV, setD, pureOp, ev, upd, updL, Value.cells, hav, delB, ↓reduceIte, Zj, Zk, Nat.reduceAdd, Nat.reduceLT, Nat.reduceEqDiff, Nat.reduceMul, Nat.reduceLeDiff, if_true, Zn, reduceCtorEq, ZA, eq_self, Int.reduceLE, Int.reduceLT, Int.reduceToNat, ne_eq, Nat.reduceSub, hl0, hm0]
  intro b1 hb1
  try simp (maxSteps := 2000000) (disch := first | omega | (simp only [E4, hl0, hm0, *] <;> omega) | fail) only [↓E0, E1, env0, envN, evOps, evOp, evQs, evQ, evV, setD, pureOp, ev, upd, updL, Value.cells, hav, delB, ↓reduceIte, Zj, Zk, Nat.reduceAdd, Nat.reduceLT, Nat.reduceEqDiff, Nat.reduceMul, Nat.reduceLeDiff, if_true, Zn, reduceCtorEq, ZA, eq_self, Int.reduceLE, Int.reduceLT, Int.reduceToNat, ne_eq, Nat.reduceSub, hl0, hm0]
  repeat refine And.intro (by omega) ?_
  intro g
  simp only [List.map_cons, List.map_nil, updL, upd, Nat.reduceEqDiff, if_true, if_false, ↓reduceIte]
  refine hK _ _ ?_; clear hK K
  refine Cd.rs [1, 3, 4] fun K hK => ?_
  simp (maxSteps := 2000000) (disch := first | omega | (simp only [E4, hl0, hm0, *] <;> omega) | fail) only [↓E0, E1, env0, envN, evOps, evOp, evQs, evQ, evV, setD, pureOp, ev, upd, updL, extractV, cellAt, cellsAt, findB, setB, hav, delB, ↓reduceIte, Zj, Zk, Nat.reduceAdd, Nat.reduceLT, Nat.reduceEqDiff, Nat.reduceMul, Nat.reduceLeDiff, if_true, Zn, reduceCtorEq, ZA, eq_self, Int.reduceLE, Int.reduceLT, Int.reduceToNat, ne_eq, Nat.reduceSub, Tld24, hl0, hm0]
  refine callK_gives (toGrid_c _ _ _ hl0 hm0) ?_
  simp (maxSteps := 2000000) (disch := first | omega | (simp only [E4, hl0, hm0, *] <;> omega) | fail) only [↓E0, E1, env0, envN, evOps, evOp, evQs, evQ, evV, setD, pureOp, ev, upd, updL, extractV, cellAt, cellsAt, findB, setB, hav, delB, ↓reduceIte, Zj, Zk, Nat.reduceAdd, Nat.reduceLT, Nat.reduceEqDiff, Nat.reduceMul, Nat.reduceLeDiff, if_true, Zn, reduceCtorEq, ZA, eq_self, Int.reduceLE, Int.reduceLT, Int.reduceToNat, ne_eq, Nat.reduceSub, Tld24, hl0, hm0]
  refine callK_gives hS ?_
  simp (maxSteps := 2000000) (disch := first | omega | (simp only [E4, hl0, hm0, *] <;> omega) | fail) only [↓E0, E1, env0, envN, evOps, evOp, evQs, evQ, evV, setD, pureOp, ev, upd, updL, extractV, cellAt, cellsAt, findB, setB, hav, delB, ↓reduceIte, Zj, Zk, Nat.reduceAdd, Nat.reduceLT, Nat.reduceEqDiff, Nat.reduceMul, Nat.reduceLeDiff, if_true, Zn, reduceCtorEq, ZA, eq_self, Int.reduceLE, Int.reduceLT, Int.reduceToNat, ne_eq, Nat.reduceSub, Tld24, hl0, hm0]
  repeat refine And.intro (by omega) ?_
  intro g
  simp only [List.map_cons, List.map_nil, updL, upd, Nat.reduceEqDiff, if_true, if_false, ↓reduceIte]
  refine hK _ _ ?_; clear hK K
  refine Cd.rs [3, 4, 5, 6] fun K hK => ?_
  simp (maxSteps := 2000000) (disch := first | omega | (simp only [E4, hl0, hm0, *] <;> omega) | fail) only [↓E0, E1, env0, envN, evOps, evOp, evQs, evQ, evV, setD, pureOp, ev, upd, updL, extractV, cellAt, cellsAt, findB, setB, hav, delB, ↓reduceIte, Zj, Zk, Nat.reduceAdd, Nat.reduceLT, Nat.reduceEqDiff, Nat.reduceMul, Nat.reduceLeDiff, if_true, Zn, reduceCtorEq, ZA, eq_self, Int.reduceLE, Int.reduceLT, Int.reduceToNat, ne_eq, Nat.reduceSub, Tld24, hl0, hm0]
  refine callK_gives (toGrid_c _ _ _ hl0 hm0) ?_
  simp (maxSteps := 2000000) (disch := first | omega | (simp only [E4, hl0, hm0, *] <;> omega) | fail) only [↓E0, E1, env0, envN, evOps, evOp, evQs, evQ, evV, setD, pureOp, ev, upd, updL, extractV, cellAt, cellsAt, findB, setB, hav, delB, ↓reduceIte, Zj, Zk, Nat.reduceAdd, Nat.reduceLT, Nat.reduceEqDiff, Nat.reduceMul, Nat.reduceLeDiff, if_true, Zn, reduceCtorEq, ZA, eq_self, Int.reduceLE, Int.reduceLT, Int.reduceToNat, ne_eq, Nat.reduceSub, Tld24, hl0, hm0]
  refine callK_gives hI ?_
  simp (maxSteps := 2000000) (disch := first | omega | (simp only [E4, hl0, hm0, *] <;> omega) | fail) only [↓E0, E1, env0, envN, evOps, evOp, evQs, evQ, evV, setD, pureOp, ev, upd, updL, extractV, cellAt, cellsAt, findB, setB, hav, delB, ↓reduceIte, Zj, Zk, Nat.reduceAdd, Nat.reduceLT, Nat.reduceEqDiff, Nat.reduceMul, Nat.reduceLeDiff, if_true, Zn, reduceCtorEq, ZA, eq_self, Int.reduceLE, Int.reduceLT, Int.reduceToNat, ne_eq, Nat.reduceSub, Tld24, hl0, hm0]
  repeat refine And.intro (by omega) ?_
  intro g
  simp only [List.map_cons, List.map_nil, updL, upd, Nat.reduceEqDiff, if_true, if_false, ↓reduceIte]
  refine hK _ _ ?_; clear hK K
  refine Cd.seq ?_
  refine Cd.rs [26] fun K hK => ?_
  simp (maxSteps := 2000000) (disch := first | omega | (simp only [E4, hl0, hm0, *] <;> omega) | fail) only [↓E0, E1, env0, envN, evOps, evOp, evQs, evQ, evV, setD, pureOp, ev, upd, updL, gate, binW, eqOp, binV, intOp, shOp, boolOp, hav, delB, eqL, SameI, strOp, ↓reduceIte, Zj, Zk, Nat.reduceAdd, Nat.reduceLT, Nat.reduceEqDiff, Nat.reduceMul, Nat.reduceLeDiff, if_true, Zn, reduceCtorEq, ZA, eq_self, Int.reduceLE, Int.reduceLT, Int.reduceToNat, ne_eq, Nat.reduceSub, hl0, hm0]
  repeat refine And.intro (by omega) ?_
  intro g
  simp only [List.map_cons, List.map_nil, updL, upd, Nat.reduceEqDiff, if_true, if_false, ↓reduceIte]
  refine hK _ _ ?_; clear hK K
  refine Cd.no rfl ?_
  refine Cd.skip ?_
  refine thenN ?_
  refine Cd.rs [2] fun K hK => ?_
  simp (maxSteps := 2000000) (disch := first | omega | (simp only [E4, hl0, hm0, *] <;> omega) | fail) only [↓E0, E1, env0, envN, evOps, evOp, evQs, evQ, evV, setD, pureOp, ev, upd, updL, hav, delB, ↓reduceIte, Zj, Zk, Nat.reduceAdd, Nat.reduceLT, Nat.reduceEqDiff, Nat.reduceMul, Nat.reduceLeDiff, if_true, Zn, reduceCtorEq, ZA, eq_self, Int.reduceLE, Int.reduceLT, Int.reduceToNat, ne_eq, Nat.reduceSub, hl0, hm0]
  repeat refine And.intro (by omega) ?_
  intro g
  simp only [List.map_cons, List.map_nil, updL, upd, Nat.reduceEqDiff, if_true, if_false, ↓reduceIte]
  refine hK _ _ ?_; clear hK K
  refine Cd.ret ?_
  simp (maxSteps := 2000000) (disch := first | omega | (simp only [E4, hl0, hm0, *] <;> omega) | fail) only [↓E0, E1, evP, evPlan, env0, envN, evOps, evOp, evQs, evQ, evV, setD, pureOp, ev, upd, updL, gate, binW, eqOp, binV, intOp, shOp, boolOp, unV, convV, nilV, fieldAddrV, indexAddrV, extractV, cellAt, cellsAt, findB, setB, fillL, buildV, Value.cells, lenV, minV, maxV, hav, sliceV, loV, hiV, bslQ, mksQ, appQ, partsOk, partsCells, delB, eqL, SameI, strOp, apzQ, cvtQ, capV, ↓reduceIte, Zj, Zk, Nat.reduceAdd, Nat.reduceLT, Nat.reduceEqDiff, Nat.reduceMul, Nat.reduceLeDiff, if_true, Zn, reduceCtorEq, ZA, eq_self, Int.reduceLE, Int.reduceLT, Int.reduceToNat, ne_eq, Nat.reduceSub, hl0, hm0]


end Go.Proofs

/-
  What the functions of this part hand back: each as a plain function of its arguments. Conditions: none.
-/
namespace Go.Proofs
open Go.W8
set_option linter.unusedVariables false
set_option linter.unusedSimpArgs false
set_option linter.unusedSectionVars false
set_option maxRecDepth 8000
set_option maxHeartbeats 4000000
--@plain
open Go.ChangeShapes Go.WideShapes Go.ChangeAt Go.RowKit in
/-- A law that hands back a value of numbers and truths and leaves what was there as it was meets its row's postcondition. -/
theorem post_own {H : Type} {enc : TypeId × Value → H} {P : Program} {f : Func} {s : ChangeSpec} {apart fresh handsOn again : Bool} {w w' : World} {args : Array Value} {v : Value} {ds gs : List (DataW H)} {before pa pv : List MemPlace}
    (hW : DataW.Whole enc P f.params.toList s.vars apart w args.toList ds gs before)
    (hres : ∀ (b : Nat) (sp : Nat → Bool) (hd : Bool), DataW.TrodAll enc P w' b sp hd f.resultTypes.toList (v.resultList f.resultTypes.size) (s.fn H (ds ++ gs)).results [])
    (hargs : ∀ sp : Nat → Bool, (∀ p ∈ before, sp p.block = true) → DataW.TrodAll enc P w' 0 sp true f.params.toList args.toList (s.fn H (ds ++ gs)).args pa)
    (hvars : ∀ sp : Nat → Bool, (∀ p ∈ before, sp p.block = true) → DataW.TrodVars enc P w' sp s.vars (s.fn H (ds ++ gs)).vars pv)
    (hps : before = pa ++ pv) (ho : Own [] w [] w')
    (hok : ∀ (j : Nat) (t : TypeId) (r : Value), f.resultTypes[j]? = some t → (v.resultList f.resultTypes.size)[j]? = some r → Value.okWide P w' .any 0 t r) :
    s.post enc P f apart fresh handsOn again w args v w' := by
  have hb : Below w.heap.size w w' := ⟨ho.os, ho.tape, ho.output, ho.size, fun k hk => ho.frame k hk (by simp)⟩
  have old : ∀ p ∈ before, p.block < w.heap.size := fun p hp => hW.lt p hp
  have told : ∀ p ∈ before, (fun b => decide (b < w.heap.size)) p.block = true := fun p hp => decide_eq_true (old p hp)
  refine ⟨ds, gs, before, [], pa, pv, hW, hres _ _ _, hargs _ told, hvars _ told, ?_, fun _ => ?_⟩
  · exact World.keptBut_mono (fun p hp => ⟨hp, by
      rw [hps] at hp
      exact List.mem_append.1 hp |>.elim (fun h => by simp [h]) (fun h => by simp [h])⟩) (hb.frame (· ∈ before))
  · obtain ⟨_, _, _, _, _, hz, hn⟩ := hW
    refine ⟨hok, _, _, ([] ++ pa) ++ pv, ⟨[] ++ pa, pv, trodAll_append (hargs _ (fun _ _ => rfl)) (hres _ _ _), hvars _ (fun _ _ => rfl), rfl, fun b off hp => ?_, fun ha => ?_⟩, fun p hp _ => ?_⟩
    · have hin : MemPlace.cell b off ∈ before := by rw [hps]; simpa using hp
      rw [hb.frozen (old _ hin)]
      exact hz b off hin
    · have h1 := hn ha
      rw [hps] at h1
      simpa using h1
    · rw [hps]
      simpa using hp

end Go.Proofs

