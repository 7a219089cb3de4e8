/-
  What the functions of this part hand back: each as a plain function of its arguments. Conditions: none.
-/
import Derived.Test.YtdfddcfgagfdoaaLB
import Derived.ProofKit
import Derived.OpenShut
import Derived.Below
import Derived.ChangeSame
import Derived.Test.YtdfddcfgagfdoaaUplaindet
namespace Go.Proofs
open Go.W8
set_option linter.unusedVariables false
set_option linter.unusedSimpArgs false
set_option linter.unusedSectionVars false
set_option maxRecDepth 8000
set_option maxHeartbeats 4000000
--@plain
/-- A set of columns as the bits of a number. -/
def bitsS (s : Nat) : Nat → Bool := fun a => s.testBit a
theorem bitB : ∀ s : Nat, s < 256 → ∀ a : Nat, a < 8 → s.testBit a = true → (2 ^ a ≤ s ∧ ∀ c : Nat, c < 8 → (s - 2 ^ a).testBit c = (s.testBit c && !(c == a))) := by decide +kernel
theorem pow8 {c : Nat} (h : 8 ≤ c) : 256 ≤ 2 ^ c := Nat.pow_le_pow_right (n := 2) (by decide) h
theorem bitsS_rem {s a : Nat} (hs : s < 256) (ha : a < 8) (h : bitsS s a = true) : bitsS (s - 2 ^ a) = rem (bitsS s) a := by
  funext c
  have hb := bitB s hs a ha h
  by_cases hc : c < 8
  · exact hb.2 c hc
  · have h1 : bitsS s c = false := Nat.testBit_lt_two_pow (Nat.lt_of_lt_of_le hs (pow8 (by omega)))
    have h2 : bitsS (s - 2 ^ a) c = false := Nat.testBit_lt_two_pow (Nat.lt_of_le_of_lt (Nat.sub_le _ _) (Nat.lt_of_lt_of_le hs (pow8 (by omega))))
    rw [rem_at, h1, h2]; rfl
theorem bitsS_pos {s a : Nat} (hs : s < 256) (ha : a < 8) (h : bitsS s a = true) : s - 2 ^ a < s := by
  have h1 := (bitB s hs a ha h).1
  have h2 : 0 < 2 ^ a := Nat.pow_pos (by decide)
  omega
theorem bitN : ∀ s : Nat, s < 256 → ∀ a : Nat, a < 8 → s.testBit a = true → IntKind.i64.wrap ((BitVec.ofInt IntKind.i64.bits (s : Int) &&& ~~~ BitVec.ofInt IntKind.i64.bits ((2 ^ a : Nat) : Int)).toNat : Int) = ((s - 2 ^ a : Nat) : Int) := by decide +kernel
theorem bitV : ∀ s : Nat, s < 256 → ∀ a : Nat, a < 8 → IntKind.i64.wrap ((BitVec.ofInt IntKind.i64.bits ((s : Int).fdiv (2 ^ min a IntKind.i64.bits)) &&& BitVec.ofInt IntKind.i64.bits 1).toNat : Int) = if s.testBit a then 1 else 0 := by decide +kernel
theorem bitW : ∀ a : Nat, a < 9 → IntKind.i64.wrap (1 * 2 ^ min a IntKind.i64.bits) = ((2 ^ a : Nat) : Int) := by decide +kernel
theorem cb_all {S : Nat → Bool} : ∀ {k : Nat}, (∀ a, a < k → S a = true) → cb S k = k
  | 0, _ => rfl
  | k + 1, h => by
    show cb S k + (if S k = true then 1 else 0) = k + 1
    rw [cb_all fun a ha => h a (Nat.lt_succ_of_lt ha), if_pos (h k (Nat.lt_succ_self k))]
theorem cb_congr {S S' : Nat → Bool} : ∀ {k : Nat}, (∀ a, a < k → S a = S' a) → cb S k = cb S' k
  | 0, _ => rfl
  | k + 1, h => by
    show cb S k + (if S k = true then 1 else 0) = cb S' k + (if S' k = true then 1 else 0)
    rw [cb_congr fun a ha => h a (Nat.lt_succ_of_lt ha), h k (Nat.lt_succ_self k)]
theorem dA_congr {n : Nat} {w : Nat → Nat → Int} : ∀ (m r : Nat) (S S' : Nat → Bool) (e : Int), (∀ a, a < n → S a = S' a) → dA n w m r S e = dA n w m r S' e
  | 0, _, _, _, _, _ => rfl
  | m + 1, r, S, S', e, h => by
    show sumN _ n = sumN _ n
    refine sumN_congr fun a ha => ?_
    rw [h a ha, cb_congr fun c hc => h c (Nat.lt_trans hc ha), dA_congr m (r + 1) (rem S a) (rem S' a) _ fun c hc => by rw [rem_at, rem_at, h c hc]]
theorem cb_pos {S : Nat → Bool} {n a : Nat} (h : S a = true) (ha : a < n) : 0 < cb S n := by
  have := cb_mono S (show a + 1 ≤ n from ha)
  have e : cb S (a + 1) = cb S a + 1 := by show cb S a + _ = _; rw [if_pos h]
  omega
/-- A table of 129 numbers for each set. -/
def mtab (N : Nat) (F : Nat → Nat → Int) : List Int := (List.range (N * 129)).map fun i => F (i / 129) (i % 129)
def prow (f : Nat → Int) : List Int := (List.range 129).map f
theorem prow_len (f : Nat → Int) : (prow f).length = 129 := by simp [prow]
theorem prow_get {f : Nat → Int} {k : Nat} (h : k < 129) : (prow f).getD k 0 = f k := by
  unfold prow
  rw [List.getD_eq_getElem?_getD, List.getElem?_map, List.getElem?_range h]; rfl
section
variable {N : Nat} {F G : Nat → Nat → Int}
theorem mtab_len : (mtab N F).length = N * 129 := by simp [mtab]
theorem mtab_at {i : Nat} (h : i < N * 129) : (mtab N F).getD i 0 = F (i / 129) (i % 129) := by
  unfold mtab
  rw [List.getD_eq_getElem?_getD, List.getElem?_map, List.getElem?_range h]; rfl
theorem mtab_get {s k : Nat} (hs : s < N) (hk : k < 129) : (mtab N F).getD (s * 129 + k) 0 = F s k := by
  rw [mtab_at (by have := Nat.mul_le_mul_right 129 (show s + 1 ≤ N from hs); omega), show (s * 129 + k) / 129 = s by omega, show (s * 129 + k) % 129 = k by omega]
theorem mext {A B : List Int} (h : A.length = B.length) (hg : ∀ i, i < A.length → A.getD i 0 = B.getD i 0) : A = B := by
  apply List.ext_getElem h
  intro i h1 h2
  have := hg i h1
  rw [List.getD_eq_getElem?_getD, List.getD_eq_getElem?_getD, List.getElem?_eq_getElem h1, List.getElem?_eq_getElem h2] at this
  simpa using this
theorem mtab_congr (h : ∀ s, s < N → ∀ k, k < 129 → F s k = G s k) : mtab N F = mtab N G := by
  unfold mtab
  refine List.map_congr_left fun i hi => ?_
  rw [List.mem_range] at hi
  exact h _ (by omega) _ (by omega)
theorem mtab_set {s k : Nat} {v : Int} (hs : s < N) (hk : k < 129) : (mtab N F).set (s * 129 + k) v = mtab N (fun s' k' => if s' = s ∧ k' = k then v else F s' k') := by
  have hb : s * 129 + k < N * 129 := by have := Nat.mul_le_mul_right 129 (show s + 1 ≤ N from hs); omega
  refine mext (by rw [List.length_set, mtab_len, mtab_len]) fun i hi => ?_
  rw [List.length_set, mtab_len] at hi
  rw [mtab_at hi]
  rw [List.getD_eq_getElem?_getD, List.getElem?_set]
  by_cases e : s * 129 + k = i
  · subst e
    rw [if_pos rfl, if_pos (by rw [mtab_len]; exact hb), if_pos ⟨by omega, by omega⟩]
    rfl
  · rw [if_neg e, if_neg (by omega), ← List.getD_eq_getElem?_getD, mtab_at hi]
theorem mtab_sub {s : Nat} (hs : s < N) : ((mtab N F).drop (s * 129)).take 129 = prow (F s) := by
  have hb := Nat.mul_le_mul_right 129 (show s + 1 ≤ N from hs)
  refine mext (by rw [List.length_take, List.length_drop, mtab_len, prow_len]; omega) fun i hi => ?_
  rw [List.length_take, List.length_drop, mtab_len] at hi
  rw [prow_get (by omega), ← mtab_get (F := F) hs (show i < 129 by omega), List.getD_eq_getElem?_getD, List.getElem?_take, if_pos (by omega), List.getElem?_drop, List.getD_eq_getElem?_getD]
theorem mtab_zero : mtab N (fun _ _ => 0) = List.replicate (N * 129) 0 := by
  refine mext (by rw [mtab_len, List.length_replicate]) fun i hi => ?_
  rw [mtab_len] at hi
  rw [mtab_at hi, List.getD_eq_getElem?_getD, List.getElem?_replicate, if_pos hi]
  rfl
end
section
variable (n : Nat) (w : Nat → Nat → Int)
def dBs (s k : Nat) : Int := dB n w (cb (bitsS s) n) 0 (bitsS s) ((k : Int) - 64)
/-- The sets before s are done; of s a part P is there. -/
def mF (s : Nat) (P : Nat → Int) : Nat → Nat → Int := fun s' k => if s' < s then dBs n w s' k else if s' = s then P k else 0
def fS (S : Nat → Bool) (m k a : Nat) : Int := if S a then sg (ab S n a) * dB n w m 0 (rem S a) ((k : Int) - 64 + w (0 + m) a) else 0
def pS (S : Nat → Bool) (m j k : Nat) : Int := sumN (fS n w S m k) n - sumN (fS n w S m k) j
def pK (S : Nat → Bool) (m a kk k : Nat) : Int := pS n w S m (a + 1) k + if (k : Int) + w m a < kk then sg (ab S n a) * dB n w m 0 (rem S a) ((k : Int) - 64 + w m a) else 0
end
section
variable {n : Nat} {w : Nat → Nat → Int} {S : Nat → Bool} {m a j k kk s : Nat}
theorem pS_top : pS n w S m n = fun _ => 0 := by
  funext k; unfold pS; omega
theorem pS_end (hc : cb S n = m + 1) : pS n w S m 0 k = dB n w (cb S n) 0 S ((k : Int) - 64) := by
  rw [hc]
  show sumN (fS n w S m k) n - 0 = sumN _ n
  rw [Int.sub_zero]
  rfl
theorem pS_skip (h : S a = false) : pS n w S m (a + 1) = pS n w S m a := by
  funext k
  show _ - (sumN (fS n w S m k) a + fS n w S m k a) = _ - sumN (fS n w S m k) a
  have : fS n w S m k a = 0 := by unfold fS; rw [h]; rfl
  omega
theorem pS_step (h : S a = true) : pS n w S m a k = pS n w S m (a + 1) k + sg (ab S n a) * dB n w m 0 (rem S a) ((k : Int) - 64 + w m a) := by
  show _ - sumN (fS n w S m k) a = _ - (sumN (fS n w S m k) a + fS n w S m k a) + _
  have : fS n w S m k a = sg (ab S n a) * dB n w m 0 (rem S a) ((k : Int) - 64 + w m a) := by unfold fS; rw [if_pos h, Nat.zero_add]
  omega
theorem dB_far8 (hw : ∀ r a, a < n → -8 ≤ w r a ∧ w r a ≤ 8) (m : Nat) {S : Nat → Bool} {e : Int} (h : e < -(8 * (m : Int)) ∨ 8 * (m : Int) < e) : dB n w m 0 S e = 0 := by
  rcases Decidable.em (dB n w m 0 S e = 0) with h1 | h1
  · exact h1
  · have := dB_far hw m 0 S e h1
    omega
theorem pK_zero (hw : ∀ r a, a < n → -8 ≤ w r a ∧ w r a ≤ 8) (hm : m ≤ 7) : pK n w S m a 0 = pS n w S m (a + 1) := by
  funext k
  unfold pK
  by_cases h : (k : Int) + w m a < (0 : Nat)
  · rw [if_pos h, dB_far8 hw m (.inl (by omega)), Int.mul_zero, Int.add_zero]
  · rw [if_neg h, Int.add_zero]
theorem pK_full (hw : ∀ r a, a < n → -8 ≤ w r a ∧ w r a ≤ 8) (hm : m ≤ 7) (h : S a = true) : pK n w S m a 129 = pS n w S m a := by
  funext k
  unfold pK
  rw [pS_step h]
  by_cases h : (k : Int) + w m a < (129 : Nat)
  · rw [if_pos h]
  · rw [if_neg h, dB_far8 hw m (.inr (by omega)), Int.mul_zero]
theorem pK_same (hd : dB n w m 0 (rem S a) ((kk : Int) - 64) = 0) : pK n w S m a (kk + 1) = pK n w S m a kk := by
  funext k
  unfold pK
  by_cases e : (k : Int) + w m a = kk
  · rw [if_pos (by omega), if_neg (by omega), show (k : Int) - 64 + w m a = (kk : Int) - 64 by omega, hd, Int.mul_zero]
  · by_cases h : (k : Int) + w m a < kk
    · rw [if_pos (by omega), if_pos h]
    · rw [if_neg (by omega), if_neg h]
theorem pK_step (h0 : (k : Int) + w m a = kk) : pK n w S m a (kk + 1) = fun k' => if k' = k then pK n w S m a kk k + sg (ab S n a) * dB n w m 0 (rem S a) ((kk : Int) - 64) else pK n w S m a kk k' := by
  funext k'
  unfold pK
  by_cases e : k' = k
  · subst e
    rw [if_pos rfl, if_pos (by omega), if_neg (by omega), show (k' : Int) - 64 + w m a = (kk : Int) - 64 by omega, Int.add_zero]
  · rw [if_neg e]
    by_cases h : (k' : Int) + w m a < kk
    · rw [if_pos (by omega), if_pos h]
    · rw [if_neg (by omega), if_neg h]
theorem mF_self {P : Nat → Int} : mF n w s P s k = P k := by
  unfold mF; rw [if_neg (Nat.lt_irrefl _), if_pos rfl]
theorem mF_less {P : Nat → Int} {s' : Nat} (h : s' < s) : mF n w s P s' k = dBs n w s' k := by
  unfold mF; rw [if_pos h]
theorem mF_set {P : Nat → Int} {v : Int} : (fun s' k' => if s' = s ∧ k' = k then v else mF n w s P s' k') = mF n w s (fun k' => if k' = k then v else P k') := by
  funext s' k'
  unfold mF
  by_cases h : s' = s
  · subst h
    rw [if_neg (Nat.lt_irrefl _), if_neg (Nat.lt_irrefl _), if_pos rfl, if_pos rfl]
    show _ = if k' = k then v else P k'
    by_cases hk : k' = k
    · rw [if_pos ⟨rfl, hk⟩, if_pos hk]
    · rw [if_neg (fun h => hk h.2), if_neg hk]
  · rw [if_neg (fun hh => h hh.1), if_neg h, if_neg h]
theorem mF_next (h : ∀ k, pS n w S m 0 k = dBs n w s k) : mF n w s (pS n w S m 0) = mF n w (s + 1) (fun _ => 0) := by
  funext s' k
  unfold mF
  by_cases h1 : s' < s
  · rw [if_pos h1, if_pos (by omega)]
  · rw [if_neg h1]
    by_cases h2 : s' = s
    · subst h2
      rw [if_pos rfl, if_pos (by omega), h]
    · rw [if_neg h2, if_neg (by omega)]
      split <;> rfl
theorem pK_small (hn : n ≤ 8) (hm : m ≤ 7) (ha : a < n) : -100000000 ≤ pK n w S m a kk k ∧ pK n w S m a kk k ≤ 100000000 := by
  have hp : (n : Int) ^ m ≤ 2097152 := by
    have h1 : n ^ m ≤ 8 ^ 7 := Nat.le_trans (Nat.pow_le_pow_left hn m) (Nat.pow_le_pow_right (by decide) hm)
    have h2 : ((n ^ m : Nat) : Int) = (n : Int) ^ m := Int.natCast_pow n m
    omega
  have hd : ∀ (S : Nat → Bool) (e : Int), -2097152 ≤ dB n w m 0 S e ∧ dB n w m 0 S e ≤ 2097152 := fun S e => by
    have := dB_bound n w m 0 S e
    omega
  have hf : ∀ i, -2097152 ≤ fS n w S m k i ∧ fS n w S m k i ≤ 2097152 := fun i => by
    unfold fS
    cases S i with
    | false => simp only [Bool.false_eq_true, if_false]; omega
    | true =>
      have := hd (rem S i) ((k : Int) - 64 + w (0 + m) i)
      rcases sg_cases (ab S n i) with h | h <;> rw [if_pos rfl, h] <;> omega
  have h1 := sumN_bound hf n
  have h4 : pK n w S m a kk k = sumN (fS n w S m k) n - sumN (fS n w S m k) (a + 1) + if (k : Int) + w m a < kk then sg (ab S n a) * dB n w m 0 (rem S a) ((k : Int) - 64 + w m a) else 0 := rfl
  have h2 := sumN_bound hf (a + 1)
  have h3 : -2097152 ≤ (if (k : Int) + w m a < kk then sg (ab S n a) * dB n w m 0 (rem S a) ((k : Int) - 64 + w m a) else 0) ∧ (if (k : Int) + w m a < kk then sg (ab S n a) * dB n w m 0 (rem S a) ((k : Int) - 64 + w m a) else 0) ≤ 2097152 := by
    have := hd (rem S a) ((k : Int) - 64 + w m a)
    split
    · rcases sg_cases (ab S n a) with h | h <;> rw [h] <;> omega
    · omega
  omega
end

end Go.Proofs
