/-
  What the functions of this part hand back: each as a plain function of its arguments. Conditions: none.
-/
import Derived.Test.YtdfddcfgagfdoaaLB
import Derived.ProofKit
import Derived.OpenShut
import Derived.Below
import Derived.ChangeSame
namespace Go.Proofs
open Go.W8
set_option linter.unusedVariables false
set_option linter.unusedSimpArgs false
set_option linter.unusedSectionVars false
set_option maxRecDepth 8000
set_option maxHeartbeats 4000000
--@plain
/-- The first n entries are the numbers less than n in some order, all others 0. -/
def IsPerm (x : List Int) (n : Nat) : Prop := (∀ i, i < n → x.getD i 0 < n) ∧ (∀ i, i < n → ∀ j, j < i → x.getD j 0 ≠ x.getD i 0) ∧ ∀ i, i < 8 → n ≤ i → x.getD i 0 = 0
instance (x : List Int) (n : Nat) : Decidable (IsPerm x n) := by unfold IsPerm; infer_instance

def IsG (s : Int) (x o : List Int) : Prop := 2 ≤ s ∧ s ≤ 8 ∧ IsPerm x s.toNat ∧ IsPerm o s.toNat ∧ ∀ i, i < s.toNat → x.getD i 0 ≠ o.getD i 0
instance (s : Int) (x o : List Int) : Decidable (IsG s x o) := by unfold IsG; infer_instance

def gridB (s : Int) (x o : List Int) : Bool := decide (IsG s x o)

theorem inj_surj : ∀ (n : Nat) (f : Nat → Nat), (∀ i, i < n → f i < n) → (∀ i, i < n → ∀ j, j < n → f i = f j → i = j) → ∀ j, j < n → ∃ i, i < n ∧ f i = j
  | 0, _, _, _, _, hj => absurd hj (Nat.not_lt_zero _)
  | n + 1, f, hf, hinj, j, hj => by
    have hg : ∀ i, i < n → (if f i = n then f n else f i) < n := by
      intro i hi
      split
      · rename_i h
        have h1 := hf n (Nat.lt_succ_self n)
        have h2 : f n ≠ n := fun h3 => by
          have := hinj i (by omega) n (by omega) (by rw [h, h3])
          omega
        omega
      · rename_i h
        have := hf i (by omega)
        omega
    have hgi : ∀ i, i < n → ∀ k, k < n → (if f i = n then f n else f i) = (if f k = n then f n else f k) → i = k := by
      intro i hi k hk h
      split at h
      · rename_i h1
        split at h
        · rename_i h2
          exact hinj i (by omega) k (by omega) (by rw [h1, h2])
        · have := hinj n (by omega) k (by omega) h
          omega
      · rename_i h1
        split at h
        · have := hinj i (by omega) n (by omega) h
          omega
        · exact hinj i (by omega) k (by omega) h
    have ih := inj_surj n (fun i => if f i = n then f n else f i) hg hgi
    by_cases hjn : f n = j
    · exact ⟨n, by omega, hjn⟩
    · by_cases hj2 : j = n
      · subst hj2
        have h1 := hf j (by omega)
        obtain ⟨i, hi, hfi⟩ := ih (f j) (by omega)
        split at hfi
        · rename_i h; exact ⟨i, by omega, h⟩
        · have := hinj i (by omega) j (by omega) hfi
          omega
      · obtain ⟨i, hi, hfi⟩ := ih j (by omega)
        split at hfi
        · exact absurd hfi hjn
        · exact ⟨i, by omega, hfi⟩

theorem surj_inj (n : Nat) (f : Nat → Nat) (hf : ∀ i, i < n → f i < n) (hs : ∀ j, j < n → ∃ i, i < n ∧ f i = j) : ∀ i, i < n → ∀ j, j < n → f i = f j → i = j := by
  have hc : ∃ s : Nat → Nat, ∀ j, j < n → s j < n ∧ f (s j) = j := by
    refine ⟨fun j => if h : j < n then Classical.choose (hs j h) else 0, fun j hj => ?_⟩
    simp only [hj, dif_pos]
    exact Classical.choose_spec (hs j hj)
  obtain ⟨s, hs'⟩ := hc
  have hsur := inj_surj n s (fun j hj => (hs' j hj).1) (fun i hi j hj h => by rw [← (hs' i hi).2, ← (hs' j hj).2, h])
  intro i hi j hj h
  obtain ⟨a, ha, rfl⟩ := hsur i hi
  obtain ⟨b, hb, rfl⟩ := hsur j hj
  rw [(hs' a ha).2, (hs' b hb).2] at h
  rw [h]

/-- The bits of the numbers f 0 .. f (k - 1). -/
def mask (f : Nat → Nat) : Nat → Nat
  | 0 => 0
  | k + 1 => mask f k ||| 2 ^ f k

theorem mask_bit (f : Nat → Nat) (j : Nat) : ∀ k, (mask f k).testBit j = true ↔ ∃ i, i < k ∧ f i = j
  | 0 => by simp [mask]
  | k + 1 => by
    simp only [mask, Nat.testBit_or, Bool.or_eq_true, mask_bit f j k, Nat.testBit_two_pow, decide_eq_true_eq]
    constructor
    · rintro (⟨i, hi, h⟩ | h)
      · exact ⟨i, by omega, h⟩
      · exact ⟨k, by omega, h⟩
    · rintro ⟨i, hi, h⟩
      rcases Nat.lt_succ_iff_lt_or_eq.1 hi with h1 | rfl
      · exact .inl ⟨i, h1, h⟩
      · exact .inr h

theorem mask_lt {f : Nat → Nat} {n : Nat} : ∀ {k : Nat}, (∀ i, i < k → f i < n) → mask f k < 2 ^ n
  | 0, _ => Nat.two_pow_pos n
  | k + 1, h => by
    unfold mask
    exact Nat.or_lt_two_pow (mask_lt fun i hi => h i (by omega)) (Nat.pow_lt_pow_right (by omega) (h k (by omega)))

theorem mask_full {f : Nat → Nat} {n : Nat} (hf : ∀ i, i < n → f i < n) : mask f n = 2 ^ n - 1 ↔ ∀ i, i < n → ∀ j, j < i → f j ≠ f i := by
  constructor
  · intro h i hi j hj he
    have := surj_inj n f hf (fun k hk => by
      have hb : (mask f n).testBit k = true := by rw [h, Nat.testBit_two_pow_sub_one]; simpa using hk
      exact (mask_bit f k n).1 hb) j (by omega) i hi he
    omega
  · intro h
    have hsur := inj_surj n f hf (fun i hi j hj he => by
      rcases Nat.lt_trichotomy i j with h1 | h1 | h1
      · exact absurd he (h j hj i h1)
      · exact h1
      · exact absurd he.symm (h i hi j h1))
    apply Nat.eq_of_testBit_eq
    intro k
    rw [Nat.testBit_two_pow_sub_one]
    by_cases hk : k < n
    · rw [decide_eq_true hk]
      exact (mask_bit f k n).2 (hsur k hk)
    · rw [decide_eq_false hk]
      cases hb : (mask f n).testBit k with
      | false => rfl
      | true =>
        obtain ⟨i, hi, rfl⟩ := (mask_bit f k n).1 hb
        exact absurd (hf i hi) hk

theorem or_i64 {a b : Nat} (ha : a < 4294967296) (hb : b < 4294967296) : IntKind.wrap .i64 ((BitVec.ofInt (IntKind.i64.bits) (a : Int) ||| BitVec.ofInt (IntKind.i64.bits) (b : Int)).toNat : Int) = ((a ||| b : Nat) : Int) := by
  have e : IntKind.i64.bits = 64 := rfl
  have h1 : a ||| b < 2 ^ 32 := Nat.or_lt_two_pow (by simpa using ha) (by simpa using hb)
  rw [e, BitVec.ofInt_natCast, BitVec.ofInt_natCast, BitVec.toNat_or, BitVec.toNat_ofNat, BitVec.toNat_ofNat, Nat.mod_eq_of_lt (by omega), Nat.mod_eq_of_lt (by omega)]
  rw [wrap_i64 (by omega) (by omega)]

theorem shl_i64 {j : Nat} (hj : j ≤ 32) : IntKind.wrap .i64 (1 * 2 ^ (min j (IntKind.i64.bits))) = ((2 ^ j : Nat) : Int) := by
  have e : IntKind.i64.bits = 64 := rfl
  have h1 : min j 64 = j := by omega
  have h2 : (2 : Nat) ^ j ≤ 2 ^ 32 := Nat.pow_le_pow_right (by omega) hj
  rw [e, h1, Int.one_mul]
  have h3 : ((2 : Int) ^ j) = ((2 ^ j : Nat) : Int) := by simp
  rw [h3]
  generalize 2 ^ j = m at h2
  rw [wrap_i64 (by omega) (by omega)]

end Go.Proofs
