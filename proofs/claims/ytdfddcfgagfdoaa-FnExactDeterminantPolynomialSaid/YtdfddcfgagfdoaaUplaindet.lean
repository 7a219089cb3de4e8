/-
  What the functions of this part hand back: each as a plain function of its arguments. Conditions: none.
-/
import Derived.Test.YtdfddcfgagfdoaaLB
import Derived.ProofKit
import Derived.OpenShut
import Derived.Below
import Derived.ChangeSame
import Derived.Test.YtdfddcfgagfdoaaUplainquot
namespace Go.Proofs
open Go.W8
set_option linter.unusedVariables false
set_option linter.unusedSimpArgs false
set_option linter.unusedSectionVars false
set_option maxRecDepth 8000
set_option maxHeartbeats 4000000
--@plain
/-- Sums over the first numbers. -/
def sumN (f : Nat → Int) : Nat → Int
  | 0 => 0
  | n + 1 => sumN f n + f n
theorem sumN_congr {f g : Nat → Int} : ∀ {n : Nat}, (∀ i, i < n → f i = g i) → sumN f n = sumN g n
  | 0, _ => rfl
  | n + 1, h => by
    show sumN f n + f n = sumN g n + g n
    rw [sumN_congr fun i hi => h i (Nat.lt_succ_of_lt hi), h n (Nat.lt_succ_self n)]
theorem sumN_add (f g : Nat → Int) : ∀ n : Nat, sumN (fun i => f i + g i) n = sumN f n + sumN g n
  | 0 => rfl
  | n + 1 => by
    show sumN (fun i => f i + g i) n + (f n + g n) = (sumN f n + f n) + (sumN g n + g n)
    rw [sumN_add f g n]; omega
theorem sumN_mul (c : Int) (f : Nat → Int) : ∀ n : Nat, sumN (fun i => c * f i) n = c * sumN f n
  | 0 => by simp [sumN]
  | n + 1 => by
    show sumN (fun i => c * f i) n + c * f n = c * (sumN f n + f n)
    rw [sumN_mul c f n, Int.mul_add]
theorem sumN_zero : ∀ n : Nat, sumN (fun _ => 0) n = 0
  | 0 => rfl
  | n + 1 => by
    show sumN (fun _ => 0) n + 0 = 0
    rw [sumN_zero n]; rfl
theorem sumN_swap (f : Nat → Nat → Int) (m : Nat) : ∀ n : Nat, sumN (fun i => sumN (fun j => f i j) m) n = sumN (fun j => sumN (fun i => f i j) n) m
  | 0 => by
    show 0 = sumN (fun _ => 0) m
    rw [sumN_zero]
  | n + 1 => by
    show sumN (fun i => sumN (fun j => f i j) m) n + sumN (fun j => f n j) m = sumN (fun j => sumN (fun i => f i j) n + f n j) m
    rw [sumN_swap f m n, sumN_add]
theorem sumN_bound {f : Nat → Int} {c : Int} (hc : ∀ i, -c ≤ f i ∧ f i ≤ c) : ∀ n : Nat, -(c * (n : Int)) ≤ sumN f n ∧ sumN f n ≤ c * (n : Int)
  | 0 => by simp [sumN]
  | n + 1 => by
    have h1 := sumN_bound hc n
    have h2 := hc n
    have e : c * ((n + 1 : Nat) : Int) = c * (n : Int) + c := by rw [Int.natCast_succ, Int.mul_add, Int.mul_one]
    show _ ≤ sumN f n + f n ∧ sumN f n + f n ≤ _
    rw [e]
    omega
/-- The sign of a number of exchanges. -/
def sg (k : Nat) : Int := if k % 2 = 0 then 1 else -1
theorem sg_succ (k : Nat) : sg (k + 1) = - sg k := by
  unfold sg
  split <;> split <;> omega
theorem sg_cases (k : Nat) : sg k = 1 ∨ sg k = -1 := by unfold sg; split <;> simp
/-- How many of a set are below k, and how many lie in front of n from k on. -/
def cb (S : Nat → Bool) : Nat → Nat
  | 0 => 0
  | k + 1 => cb S k + if S k then 1 else 0
def ab (S : Nat → Bool) (n k : Nat) : Nat := cb S n - cb S (k + 1)
def rem (S : Nat → Bool) (a : Nat) : Nat → Bool := fun c => S c && !(c == a)
theorem rem_at (S : Nat → Bool) (a c : Nat) : rem S a c = (S c && !(c == a)) := rfl
theorem rem_comm (S : Nat → Bool) (a b : Nat) : rem (rem S a) b = rem (rem S b) a := by
  funext c
  simp only [rem_at]
  cases S c <;> cases (c == a) <;> cases (c == b) <;> rfl
theorem cb_mono (S : Nat → Bool) {i j : Nat} (h : i ≤ j) : cb S i ≤ cb S j := by
  induction j with
  | zero => have : i = 0 := by omega
            subst this; exact Nat.le_refl _
  | succ j ih =>
    by_cases e : i = j + 1
    · rw [e]; exact Nat.le_refl _
    · have := ih (by omega)
      show _ ≤ cb S j + _
      omega
theorem cb_le (S : Nat → Bool) : ∀ k, cb S k ≤ k
  | 0 => Nat.le_refl _
  | k + 1 => by
    have := cb_le S k
    show cb S k + _ ≤ _
    split <;> omega
theorem cb_rem {S : Nat → Bool} {a : Nat} (h : S a = true) : ∀ k, cb (rem S a) k + (if a < k then 1 else 0) = cb S k
  | 0 => rfl
  | k + 1 => by
    have ih := cb_rem h k
    show cb (rem S a) k + (if rem S a k = true then 1 else 0) + _ = cb S k + (if S k = true then 1 else 0)
    by_cases e : k = a
    · subst e
      rw [if_neg (by omega : ¬ k < k)] at ih
      rw [if_neg (by simp [rem_at]), if_pos h, if_pos (by omega : k < k + 1)]
      omega
    · have e2 : rem S a k = S k := by simp [rem_at, e]
      rw [e2]
      by_cases hk : a < k
      · rw [if_pos hk] at ih
        rw [if_pos (by omega : a < k + 1)]
        omega
      · rw [if_neg hk] at ih
        rw [if_neg (by omega : ¬ a < k + 1)]
        omega
/-- The determinant of monomials t ^ -w: rows r, r + 1, .. (m of them) and the columns of S, by its first row. -/
def dA (n : Nat) (w : Nat → Nat → Int) : Nat → Nat → (Nat → Bool) → Int → Int
  | 0, _, _, e => if e = 0 then 1 else 0
  | m + 1, r, S, e => sumN (fun a => if S a then sg (cb S a) * dA n w m (r + 1) (rem S a) (e + w r a) else 0) n
/-- .. and by its last row. -/
def dB (n : Nat) (w : Nat → Nat → Int) : Nat → Nat → (Nat → Bool) → Int → Int
  | 0, _, _, e => if e = 0 then 1 else 0
  | m + 1, r, S, e => sumN (fun a => if S a then sg (ab S n a) * dB n w m r (rem S a) (e + w (r + m) a) else 0) n
theorem sg_swap {S : Nat → Bool} {n a b : Nat} (ha : S a = true) (hb : S b = true) (hne : a ≠ b) (han : a < n) (hbn : b < n) :
    sg (cb S a) * sg (ab (rem S a) n b) = sg (ab S n b) * sg (cb (rem S b) a) := by
  have h1 := cb_rem ha n
  have h2 := cb_rem ha (b + 1)
  have h3 := cb_rem hb a
  rw [if_pos han] at h1
  have m1 := cb_mono S (show b + 1 ≤ n by omega)
  have m2 := cb_mono (rem S a) (show b + 1 ≤ n by omega)
  by_cases hab : b < a
  · rw [if_pos hab] at h3
    rw [if_neg (by omega)] at h2
    have e1 : ab S n b = ab (rem S a) n b + 1 := by unfold ab; omega
    rw [← h3, e1, sg_succ, sg_succ, Int.neg_mul, Int.neg_mul, Int.mul_comm]
  · rw [if_neg hab] at h3
    rw [if_pos (by omega)] at h2
    have e1 : ab S n b = ab (rem S a) n b := by unfold ab; omega
    have e2 : cb (rem S b) a = cb S a := by omega
    rw [e1, e2, Int.mul_comm]
theorem dA_dB (n : Nat) (w : Nat → Nat → Int) : ∀ (k m : Nat), m ≤ k → ∀ (r : Nat) (S : Nat → Bool), cb S n = m → ∀ e, dA n w m r S e = dB n w m r S e := by
  intro k
  induction k with
  | zero =>
    intro m hm r S _ e
    obtain rfl : m = 0 := by omega
    rfl
  | succ k ih =>
    intro m hm r S hc e
    cases m with
    | zero => rfl
    | succ m =>
      cases m with
      | zero =>
        show sumN _ n = sumN _ n
        refine sumN_congr fun a ha => ?_
        cases hS : S a with
        | false => rfl
        | true =>
          have h1 := cb_mono S (show a + 1 ≤ n by omega)
          have h2 : cb S (a + 1) = cb S a + 1 := by show cb S a + _ = _; rw [if_pos hS]
          have e1 : cb S a = 0 := by omega
          have e2 : ab S n a = 0 := by unfold ab; omega
          simp only [if_true, e1, e2, Nat.add_zero]
          rfl
      | succ m =>
        have hA : dA n w (m + 2) r S e = sumN (fun a => sumN (fun b => if S a = true ∧ S b = true ∧ a ≠ b then sg (cb S a) * sg (ab (rem S a) n b) * dB n w m (r + 1) (rem (rem S a) b) (e + w r a + w (r + 1 + m) b) else 0) n) n := by
          show sumN _ n = _
          refine sumN_congr fun a ha => ?_
          cases hS : S a with
          | false =>
            simp only [Bool.false_eq_true, false_and, if_false]
            exact (sumN_zero n).symm
          | true =>
            have hr := cb_rem hS n
            rw [if_pos ha] at hr
            rw [if_pos rfl, ih (m + 1) (by omega) (r + 1) (rem S a) (by omega)]
            show _ * sumN _ n = _
            rw [← sumN_mul]
            refine sumN_congr fun b hb => ?_
            by_cases hb2 : S b = true ∧ a ≠ b
            · have hr2 : rem S a b = true := by simp [rem_at, hb2.1, Ne.symm hb2.2]
              rw [if_pos hr2, if_pos ⟨rfl, hb2⟩, Int.mul_assoc]
            · have hr2 : ¬ rem S a b = true := by
                simp only [rem_at, Bool.and_eq_true, Bool.not_eq_true', beq_eq_false_iff_ne]
                exact fun h => hb2 ⟨h.1, fun e => h.2 e.symm⟩
              rw [if_neg hr2, if_neg (fun h => hb2 h.2), Int.mul_zero]
        have hB : dB n w (m + 2) r S e = sumN (fun b => sumN (fun a => if S a = true ∧ S b = true ∧ a ≠ b then sg (ab S n b) * sg (cb (rem S b) a) * dA n w m (r + 1) (rem (rem S b) a) (e + w (r + (m + 1)) b + w r a) else 0) n) n := by
          show sumN _ n = _
          refine sumN_congr fun b hb => ?_
          cases hS : S b with
          | false =>
            simp only [Bool.false_eq_true, false_and, and_false, if_false]
            exact (sumN_zero n).symm
          | true =>
            have hr := cb_rem hS n
            rw [if_pos hb] at hr
            rw [if_pos rfl, ← ih (m + 1) (by omega) r (rem S b) (by omega)]
            show _ * sumN _ n = _
            rw [← sumN_mul]
            refine sumN_congr fun a ha => ?_
            by_cases hb2 : S a = true ∧ a ≠ b
            · have hr2 : rem S b a = true := by simp [rem_at, hb2.1, hb2.2]
              rw [if_pos hr2, if_pos ⟨hb2.1, rfl, hb2.2⟩, Int.mul_assoc]
            · have hr2 : ¬ rem S b a = true := by
                simp only [rem_at, Bool.and_eq_true, Bool.not_eq_true', beq_eq_false_iff_ne]
                exact fun h => hb2 h
              rw [if_neg hr2, if_neg (fun h => hb2 ⟨h.1, h.2.2⟩), Int.mul_zero]
        rw [hA, hB, sumN_swap]
        refine sumN_congr fun b hb => sumN_congr fun a ha => ?_
        by_cases h : S a = true ∧ S b = true ∧ a ≠ b
        · rw [if_pos h, if_pos h, sg_swap h.1 h.2.1 h.2.2 ha hb, rem_comm S b a]
          have h1 := cb_rem h.1 n
          rw [if_pos ha] at h1
          have h3 : rem S a b = true := by simp [rem_at, h.2.1, Ne.symm h.2.2]
          have h2 := cb_rem h3 n
          rw [if_pos hb] at h2
          rw [ih m (by omega) (r + 1) (rem (rem S a) b) (by omega), show r + (m + 1) = r + 1 + m by omega, show e + w (r + 1 + m) b + w r a = e + w r a + w (r + 1 + m) b by omega]
        · rw [if_neg h, if_neg h]
theorem dB_far {n : Nat} {w : Nat → Nat → Int} {c : Int} (hc : ∀ r a, a < n → -c ≤ w r a ∧ w r a ≤ c) : ∀ (m r : Nat) (S : Nat → Bool) (e : Int), dB n w m r S e ≠ 0 → -(c * (m : Int)) ≤ e ∧ e ≤ c * (m : Int)
  | 0, r, S, e, h => by
    have : e = 0 := by
      rcases Decidable.em (e = 0) with h1 | h1
      · exact h1
      · exact absurd (if_neg h1) h
    simp [this]
  | m + 1, r, S, e, h => by
    rcases Decidable.em (-(c * ((m + 1 : Nat) : Int)) ≤ e ∧ e ≤ c * ((m + 1 : Nat) : Int)) with h1 | h1
    · exact h1
    · refine absurd ?_ h
      show sumN _ n = 0
      refine (sumN_congr fun a ha => ?_).trans (sumN_zero n)
      cases S a with
      | false => rfl
      | true =>
        have e1 : c * ((m + 1 : Nat) : Int) = c * (m : Int) + c := by rw [Int.natCast_succ, Int.mul_add, Int.mul_one]
        rw [e1] at h1
        have h2 := hc (r + m) a ha
        have h3 : dB n w m r (rem S a) (e + w (r + m) a) = 0 := by
          rcases Decidable.em (dB n w m r (rem S a) (e + w (r + m) a) = 0) with h4 | h4
          · exact h4
          · have := dB_far hc m r (rem S a) _ h4
            omega
        rw [if_pos rfl, h3, Int.mul_zero]
theorem dB_bound (n : Nat) (w : Nat → Nat → Int) : ∀ (m r : Nat) (S : Nat → Bool) (e : Int), -((n : Int) ^ m) ≤ dB n w m r S e ∧ dB n w m r S e ≤ (n : Int) ^ m
  | 0, r, S, e => by
    show _ ≤ (if e = 0 then (1 : Int) else 0) ∧ (if e = 0 then (1 : Int) else 0) ≤ _
    split <;> simp
  | m + 1, r, S, e => by
    rw [Int.pow_succ]
    refine sumN_bound (c := (n : Int) ^ m) (fun a => ?_) n
    have h0 : (0 : Int) ≤ (n : Int) ^ m := Int.pow_nonneg (Int.natCast_nonneg n)
    cases S a with
    | false => simp only [Bool.false_eq_true, if_false]; omega
    | true =>
      have := dB_bound n w m r (rem S a) (e + w (r + m) a)
      rcases sg_cases (ab S n a) with h | h <;> rw [if_pos rfl, h] <;> omega
theorem dA_bound (n : Nat) (w : Nat → Nat → Int) : ∀ (m r : Nat) (S : Nat → Bool) (e : Int), -((n : Int) ^ m) ≤ dA n w m r S e ∧ dA n w m r S e ≤ (n : Int) ^ m
  | 0, r, S, e => by
    show _ ≤ (if e = 0 then (1 : Int) else 0) ∧ (if e = 0 then (1 : Int) else 0) ≤ _
    split <;> simp
  | m + 1, r, S, e => by
    rw [Int.pow_succ]
    refine sumN_bound (c := (n : Int) ^ m) (fun a => ?_) n
    have h0 : (0 : Int) ≤ (n : Int) ^ m := Int.pow_nonneg (Int.natCast_nonneg n)
    cases S a with
    | false => simp only [Bool.false_eq_true, if_false]; omega
    | true =>
      have := dA_bound n w m (r + 1) (rem S a) (e + w r a)
      rcases sg_cases (cb S a) with h | h <;> rw [if_pos rfl, h] <;> omega

/-- Numbers with 0 around them, at whole powers. -/
def coefAt (low : Int) (l : List Int) (e : Int) : Int := if low ≤ e then l.getD (e - low).toNat 0 else 0
theorem getD_far {l : List Int} {i : Nat} (h : l.length ≤ i) : l.getD i 0 = 0 := by
  rw [List.getD_eq_getElem?_getD, List.getElem?_eq_none h]; rfl
/-- Trimming does not change the numbers. -/
theorem coefAt_trim (low : Int) (l : List Int) (h : trimL l ≠ []) (e : Int) : coefAt (trimLow low l) (trimL l) e = coefAt low l e := by
  have hE := trE_le l
  have hF := trF_le l
  have hlen := trimL_len l
  have hz : trF l ≠ trE l := by
    intro hz
    exact h (by unfold trimL; rw [if_pos hz])
  have e2 : trimLow low l = low + (trF l : Int) := by unfold trimLow; rw [if_neg hz]
  unfold coefAt
  rw [e2]
  by_cases h1 : low + (trF l : Int) ≤ e
  · rw [if_pos h1, if_pos (by omega)]
    have e3 : (e - low).toNat = trF l + (e - (low + (trF l : Int))).toNat := by omega
    rw [e3]
    by_cases h2 : (e - (low + (trF l : Int))).toNat < (trimL l).length
    · rw [trimL_get h2]
    · rw [getD_far (by omega), trE_zeros (by omega)]
  · rw [if_neg h1]
    by_cases h2 : low ≤ e
    · rw [if_pos h2, trF_zeros (by omega)]
    · rw [if_neg h2]
theorem trim_nil {l : List Int} (h : trimL l = []) (i : Nat) : l.getD i 0 = 0 := by
  have hlen := trimL_len l
  rw [h] at hlen
  have hF := trF_le l
  simp only [List.length_nil] at hlen
  by_cases h1 : trE l ≤ i
  · exact trE_zeros h1
  · exact trF_zeros (by omega)
/-- Two lists with the same numbers at all powers are trimmed to the same polynomial. -/
theorem trim_eq {low low' : Int} {l l' : List Int} (h : ∀ e, coefAt low l e = coefAt low' l' e) : trimLow low l = trimLow low' l' ∧ trimL l = trimL l' := by
  have key : ∀ (low low' : Int) (l l' : List Int), (∀ e, coefAt low l e = coefAt low' l' e) → trimL l = [] → trimL l' = [] := by
    intro low low' l l' h hn
    rcases Decidable.em (trimL l' = []) with h1 | h1
    · exact h1
    · exfalso
      have hz : trF l' ≠ trE l' := fun hz => h1 (by unfold trimL; rw [if_pos hz])
      have h2 := trF_first hz
      have h3 := h (low' + (trF l' : Int))
      have h4 : coefAt low' l' (low' + (trF l' : Int)) = l'.getD (trF l') 0 := by
        unfold coefAt
        rw [if_pos (by omega), show (low' + (trF l' : Int) - low').toNat = trF l' by omega]
      rw [h4] at h3
      apply h2
      rw [← h3]
      unfold coefAt
      split
      · exact trim_nil hn _
      · rfl
  by_cases hn : trimL l = []
  · have hn' := key low low' l l' h hn
    have e1 := trimL_len l
    have e2 := trimL_len l'
    rw [hn] at e1
    rw [hn'] at e2
    have f1 := trF_le l
    have f2 := trF_le l'
    simp only [List.length_nil] at e1 e2
    refine ⟨?_, by rw [hn, hn']⟩
    unfold trimLow
    rw [if_pos (by omega), if_pos (by omega)]
  · have hn' : trimL l' ≠ [] := fun h' => hn (key low' low l' l (fun e => (h e).symm) h')
    have f1 := trF_le l
    have f2 := trF_le l'
    have e1 := trimL_len l
    have e2 := trimL_len l'
    have p1 : 0 < (trimL l).length := List.length_pos_iff.2 hn
    have p2 : 0 < (trimL l').length := List.length_pos_iff.2 hn'
    have hz : trF l ≠ trE l := by omega
    have hz' : trF l' ≠ trE l' := by omega
    have l1 : trimLow low l = low + (trF l : Int) := by unfold trimLow; rw [if_neg hz]
    have l2 : trimLow low' l' = low' + (trF l' : Int) := by unfold trimLow; rw [if_neg hz']
    have c1 := coefAt_trim low l hn
    have c2 := coefAt_trim low' l' hn'
    have first : ∀ {lw : Int} {q : List Int}, coefAt lw q lw = q.getD 0 0 := by
      intro lw q; unfold coefAt; rw [if_pos (Int.le_refl _), Int.sub_self]; rfl
    have below : ∀ {lw : Int} {q : List Int} {e : Int}, coefAt lw q e ≠ 0 → lw ≤ e ∧ e < lw + (q.length : Int) := by
      intro lw q e hne
      unfold coefAt at hne
      split at hne
      · rename_i hle
        refine ⟨hle, ?_⟩
        rcases Int.lt_or_le e (lw + (q.length : Int)) with h5 | h5
        · exact h5
        · exact absurd (getD_far (by omega)) hne
      · exact absurd rfl hne
    have g1 : (trimL l).getD 0 0 ≠ 0 := by rw [trimL_get p1]; exact trF_first hz
    have g2 : (trimL l').getD 0 0 ≠ 0 := by rw [trimL_get p2]; exact trF_first hz'
    have t1 : (trimL l).getD ((trimL l).length - 1) 0 ≠ 0 := by
      rw [trimL_get (by omega), show trF l + ((trimL l).length - 1) = trE l - 1 by omega]
      exact trE_last (by omega)
    have t2 : (trimL l').getD ((trimL l').length - 1) 0 ≠ 0 := by
      rw [trimL_get (by omega), show trF l' + ((trimL l').length - 1) = trE l' - 1 by omega]
      exact trE_last (by omega)
    have hc : ∀ e, coefAt (trimLow low l) (trimL l) e = coefAt (trimLow low' l') (trimL l') e := fun e => by rw [c1, c2, h]
    have at_end : ∀ {lw : Int} {q : List Int}, 0 < q.length → coefAt lw q (lw + (q.length : Int) - 1) = q.getD (q.length - 1) 0 := by
      intro lw q hq
      unfold coefAt
      rw [if_pos (by omega), show (lw + (q.length : Int) - 1 - lw).toNat = q.length - 1 by omega]
    have b1 := below (lw := trimLow low' l') (q := trimL l') (e := trimLow low l) (by rw [← hc, first]; exact g1)
    have b2 := below (lw := trimLow low l) (q := trimL l) (e := trimLow low' l') (by rw [hc, first]; exact g2)
    have b3 := below (lw := trimLow low' l') (q := trimL l') (e := trimLow low l + ((trimL l).length : Int) - 1) (by rw [← hc, at_end p1]; exact t1)
    have b4 := below (lw := trimLow low l) (q := trimL l) (e := trimLow low' l' + ((trimL l').length : Int) - 1) (by rw [hc, at_end p2]; exact t2)
    have el : trimLow low l = trimLow low' l' := by omega
    have en : (trimL l).length = (trimL l').length := by omega
    refine ⟨el, List.ext_getElem? fun i => ?_⟩
    by_cases hi : i < (trimL l).length
    · have := hc (trimLow low l + (i : Int))
      unfold coefAt at this
      rw [if_pos (by omega), if_pos (by omega), show (trimLow low l + (i : Int) - trimLow low l).toNat = i by omega, show (trimLow low l + (i : Int) - trimLow low' l').toNat = i by omega] at this
      rw [List.getD_eq_getElem?_getD, List.getD_eq_getElem?_getD, List.getElem?_eq_getElem hi, List.getElem?_eq_getElem (by omega)] at this
      rw [List.getElem?_eq_getElem hi, List.getElem?_eq_getElem (by omega)]
      simpa using this
    · rw [List.getElem?_eq_none (by omega), List.getElem?_eq_none (by omega)]

end Go.Proofs
