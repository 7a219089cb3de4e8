/-
  What the functions of this part hand back: each as a plain function of its arguments. Conditions: none.
-/
import Derived.ProofKit
import Derived.OpenShut
import Derived.Below
import Derived.ChangeSame
import Derived.Test.YtchbkidlmcpiiaaM1
import Derived.Test.YtchbkidlmcpiiaaM2
import Derived.Test.YtchbkidlmcpiiaaM3
import Derived.Test.YtchbkidlmcpiiaaM4
namespace Go.Proofs
open Go.W8
set_option linter.unusedVariables false
set_option linter.unusedSimpArgs false
set_option linter.unusedSectionVars false
set_option maxRecDepth 8000
set_option maxHeartbeats 4000000
--@plain
/-- A column of a grid: where its arrow begins and ends. -/
abbrev Ar := Nat × Nat
def hv (c b : Nat) : Int := if b ≤ c then 1 else 0
def stp (a : Ar) (v : Cl) : Cl := fun b => v b + hv a.2 b - hv a.1 b
/-- The columns of powers: winding numbers left of each column. -/
def clF : Cl → List Ar → List Cl
  | _, [] => []
  | v, a :: l => v :: clF (stp a v) l
def fnl : Cl → List Ar → Cl
  | v, [] => v
  | v, a :: l => fnl (stp a v) l
theorem clF_len : ∀ (l : List Ar) (v : Cl), (clF v l).length = l.length
  | [], _ => rfl
  | a :: l, v => congrArg (· + 1) (clF_len l (stp a v))
theorem clF_append : ∀ (l1 l2 : List Ar) (v : Cl), clF v (l1 ++ l2) = clF v l1 ++ clF (fnl v l1) l2
  | [], _, _ => rfl
  | a :: l1, l2, v => congrArg (v :: ·) (clF_append l1 l2 (stp a v))
def z0 : Cl := fun _ => 0
def dl (l : List Ar) : Cf := dt l.length (clF z0 l) 0
theorem stp_comm (a b : Ar) (v : Cl) : stp a (stp b v) = stp b (stp a v) := by
  funext c
  unfold stp
  omega
theorem stp_swap (p q r s : Nat) (v : Cl) : stp (r, s) (stp (p, q) v) = stp (r, q) (stp (p, s) v) := by
  funext c
  unfold stp
  show v c + hv q c - hv p c + hv s c - hv r c = v c + hv s c - hv p c + hv q c - hv r c
  omega
/-- A determinant with one column open. -/
def opn (l1 : List Ar) (l2 : List Ar) (z u : Cl) : Cf := dt (l1.length + l2.length + 2) (clF z0 l1 ++ fnl z0 l1 :: u :: clF z l2) 0
theorem dl_opn (l1 l2 : List Ar) (a b : Ar) (z : Cl) (hz : stp b (stp a (fnl z0 l1)) = z) : dl (l1 ++ a :: b :: l2) = opn l1 l2 z (stp a (fnl z0 l1)) := by
  subst hz
  unfold dl opn
  rw [clF_append, show (l1 ++ a :: b :: l2).length = l1.length + l2.length + 2 by simp; omega]
  rfl
theorem opn_v (l1 l2 : List Ar) (z : Cl) (e : Int) : opn l1 l2 z (fnl z0 l1) e = 0 := dt_alt _ _ _ _ _ _ (by rw [clF_len, clF_len]; omega)
theorem opn_z (l1 l2 : List Ar) (a : Ar) (z : Cl) (e : Int) : opn l1 (a :: l2) z z e = 0 := by
  unfold opn
  have h := dt_alt z (l1.length + (a :: l2).length + 2) (clF z0 l1 ++ [fnl z0 l1]) (clF (stp a z) l2) 0 e (by rw [List.length_append, clF_len, clF_len, List.length_cons, List.length_singleton]; omega)
  rw [List.append_assoc] at h
  exact h
theorem opn_rel (l1 l2 : List Ar) (z : Cl) {J : List (Int × Int × Cl)} (hJ : Rel J) (e : Int) : sumJ J (fun j => j.1 * opn l1 l2 z j.2.2 (e - j.2.1)) = 0 := by
  have h := dt_lin hJ (l1.length + l2.length + 2) (clF z0 l1 ++ [fnl z0 l1]) (clF z l2) 0 e (by rw [List.length_append, clF_len, clF_len, List.length_singleton]; omega)
  rw [← h]
  refine sumJ_congr J fun j => ?_
  unfold opn
  rw [List.append_assoc]
  rfl
section
variable (l1 l2 : List Ar) (a : Ar) (p r s : Nat)
/-- The grid, the grid with two columns exchanged, and with their ends exchanged as well. -/
def gA : List Ar := l1 ++ (p, 0) :: (r, s) :: a :: l2
def gB : List Ar := l1 ++ (r, s) :: (p, 0) :: a :: l2
def gC : List Ar := l1 ++ (p, s) :: (r, 0) :: a :: l2
def zz : Cl := stp (r, s) (stp (p, 0) (fnl z0 l1))
theorem gA_opn : dl (gA l1 l2 a p r s) = opn l1 (a :: l2) (zz l1 p r s) (stp (p, 0) (fnl z0 l1)) := dl_opn _ _ _ _ _ rfl
theorem gB_opn : dl (gB l1 l2 a p r s) = opn l1 (a :: l2) (zz l1 p r s) (stp (r, s) (fnl z0 l1)) := dl_opn _ _ _ _ _ (stp_comm _ _ _)
theorem gC_opn : dl (gC l1 l2 a p r s) = opn l1 (a :: l2) (zz l1 p r s) (stp (p, s) (fnl z0 l1)) := dl_opn _ _ _ _ _ (stp_swap p s r 0 _)
theorem sk1 (h1 : p < r) (h2 : p ≤ s) (e : Int) : dl (gA l1 l2 a p r s) e + dl (gB l1 l2 a p r s) e = 0 := by
  have hJ : Rel [(1, 0, stp (p, 0) (fnl z0 l1)), (1, 0, stp (r, s) (fnl z0 l1)), (-1, 0, fnl z0 l1), (-1, 0, zz l1 p r s)] := fun b G => by
    simp only [sumJ_cons, sumJ_nil, zz, stp, hv]
    generalize fnl z0 l1 b = V
    by_cases b0 : b ≤ 0 <;> by_cases bp : b ≤ p <;> by_cases br : b ≤ r <;> by_cases bs : b ≤ s <;> simp only [b0, bp, br, bs, if_true, if_false] <;> grind
  have h := opn_rel l1 (a :: l2) (zz l1 p r s) hJ e
  simp only [sumJ_cons, sumJ_nil, opn_v, opn_z] at h
  rw [← gA_opn l1 l2 a p r s, ← gB_opn l1 l2 a p r s] at h
  simp only [Int.sub_zero] at h
  omega
theorem sk2 (h1 : r < p) (h2 : s ≤ p) (e : Int) : dl (gA l1 l2 a p r s) e + dl (gB l1 l2 a p r s) (e + 1) = 0 := by
  have hJ : Rel [(1, 1, stp (p, 0) (fnl z0 l1)), (1, 0, stp (r, s) (fnl z0 l1)), (-1, 0, fnl z0 l1), (-1, 1, zz l1 p r s)] := fun b G => by
    simp only [sumJ_cons, sumJ_nil, zz, stp, hv]
    generalize fnl z0 l1 b = V
    by_cases b0 : b ≤ 0 <;> by_cases bp : b ≤ p <;> by_cases br : b ≤ r <;> by_cases bs : b ≤ s <;> simp only [b0, bp, br, bs, if_true, if_false] <;> grind
  have h := opn_rel l1 (a :: l2) (zz l1 p r s) hJ (e + 1)
  simp only [sumJ_cons, sumJ_nil, opn_v, opn_z] at h
  rw [← gA_opn l1 l2 a p r s, ← gB_opn l1 l2 a p r s] at h
  simp only [Int.sub_zero, Int.add_sub_cancel] at h
  omega
theorem sk3 (h1 : r < p) (h2 : p < s) (e : Int) : dl (gA l1 l2 a p r s) e + dl (gB l1 l2 a p r s) (e + 1) + dl (gC l1 l2 a p r s) e - dl (gC l1 l2 a p r s) (e + 1) = 0 := by
  have hJ : Rel [(1, 1, stp (p, 0) (fnl z0 l1)), (1, 0, stp (r, s) (fnl z0 l1)), (1, 1, stp (p, s) (fnl z0 l1)), (-1, 0, stp (p, s) (fnl z0 l1)), (-1, 1, fnl z0 l1), (-1, 1, zz l1 p r s)] := fun b G => by
    simp only [sumJ_cons, sumJ_nil, zz, stp, hv]
    generalize fnl z0 l1 b = V
    by_cases b0 : b ≤ 0 <;> by_cases bp : b ≤ p <;> by_cases br : b ≤ r <;> by_cases bs : b ≤ s <;> simp only [b0, bp, br, bs, if_true, if_false] <;> grind
  have h := opn_rel l1 (a :: l2) (zz l1 p r s) hJ (e + 1)
  simp only [sumJ_cons, sumJ_nil, opn_v, opn_z] at h
  rw [← gA_opn l1 l2 a p r s, ← gB_opn l1 l2 a p r s, ← gC_opn l1 l2 a p r s] at h
  simp only [Int.sub_zero, Int.add_sub_cancel] at h
  omega
theorem sk4 (h1 : p < r) (h2 : s < p) (e : Int) : dl (gA l1 l2 a p r s) e + dl (gB l1 l2 a p r s) e + dl (gC l1 l2 a p r s) (e + 1) - dl (gC l1 l2 a p r s) e = 0 := by
  have hJ : Rel [(1, 1, stp (p, 0) (fnl z0 l1)), (1, 1, stp (r, s) (fnl z0 l1)), (1, 0, stp (p, s) (fnl z0 l1)), (-1, 1, stp (p, s) (fnl z0 l1)), (-1, 0, fnl z0 l1), (-1, 1, zz l1 p r s)] := fun b G => by
    simp only [sumJ_cons, sumJ_nil, zz, stp, hv]
    generalize fnl z0 l1 b = V
    by_cases b0 : b ≤ 0 <;> by_cases bp : b ≤ p <;> by_cases br : b ≤ r <;> by_cases bs : b ≤ s <;> simp only [b0, bp, br, bs, if_true, if_false] <;> grind
  have h := opn_rel l1 (a :: l2) (zz l1 p r s) hJ (e + 1)
  simp only [sumJ_cons, sumJ_nil, opn_v, opn_z] at h
  rw [← gA_opn l1 l2 a p r s, ← gB_opn l1 l2 a p r s, ← gC_opn l1 l2 a p r s] at h
  simp only [Int.sub_zero, Int.add_sub_cancel] at h
  omega
end

end Go.Proofs

/-
  What the functions of this part hand back: each as a plain function of its arguments. Conditions: none.
-/
namespace Go.Proofs
open Go.W8
set_option linter.unusedVariables false
set_option linter.unusedSimpArgs false
set_option linter.unusedSectionVars false
set_option maxRecDepth 8000
set_option maxHeartbeats 4000000
--@plain
def sn (u v : Nat) : Int := if u < v then 1 else if v < u then -1 else 0
theorem sn_neg (u v : Nat) : sn v u = - sn u v := by
  unfold sn
  split <;> split <;> omega
def hh (c : Nat) : List Ar → Int
  | [] => 0
  | a :: l => sn c a.2 + sn c a.1 + hh c l
/-- Twice the power by which the determinant is off its mirror. -/
def K2 : List Ar → Int
  | [] => 0
  | a :: l => sn a.2 a.1 + hh a.2 l - hh a.1 l + K2 l
theorem hh_append (c : Nat) : ∀ l1 l2 : List Ar, hh c (l1 ++ l2) = hh c l1 + hh c l2
  | [], l2 => by simp [hh]
  | a :: l1, l2 => by
    show sn c a.2 + sn c a.1 + hh c (l1 ++ l2) = sn c a.2 + sn c a.1 + hh c l1 + hh c l2
    rw [hh_append c l1 l2]; omega
theorem K2_append {m m' : List Ar} (h : ∀ c, hh c m = hh c m') : ∀ l1 : List Ar, K2 (l1 ++ m) - K2 (l1 ++ m') = K2 m - K2 m'
  | [] => rfl
  | a :: l1 => by
    have ih := K2_append h l1
    show sn a.2 a.1 + hh a.2 (l1 ++ m) - hh a.1 (l1 ++ m) + K2 (l1 ++ m) - (sn a.2 a.1 + hh a.2 (l1 ++ m') - hh a.1 (l1 ++ m') + K2 (l1 ++ m')) = _
    rw [hh_append, hh_append, hh_append, hh_append, h, h]
    omega
/-- The sign of an order. -/
def pSg (c : Nat) : List Nat → Int
  | [] => 1
  | d :: l => sn c d * pSg c l
def pg : List Nat → Int
  | [] => 1
  | c :: l => pSg c l * pg l
theorem pSg_append (c : Nat) : ∀ l1 l2 : List Nat, pSg c (l1 ++ l2) = pSg c l1 * pSg c l2
  | [], l2 => by simp [pSg]
  | d :: l1, l2 => by
    show sn c d * pSg c (l1 ++ l2) = sn c d * pSg c l1 * pSg c l2
    rw [pSg_append c l1 l2, Int.mul_assoc]
theorem pg_append {m m' : List Nat} {τ : Int} (h : ∀ c, pSg c m = pSg c m') (hg : pg m' = τ * pg m) : ∀ l1 : List Nat, pg (l1 ++ m') = τ * pg (l1 ++ m)
  | [] => hg
  | c :: l1 => by
    have ih := pg_append h hg l1
    show pSg c (l1 ++ m') * pg (l1 ++ m') = τ * (pSg c (l1 ++ m) * pg (l1 ++ m))
    rw [ih, pSg_append, pSg_append, h, ← Int.mul_assoc, ← Int.mul_assoc, Int.mul_comm τ]
theorem pg_swap (a b : Nat) (l1 l2 : List Nat) : pg (l1 ++ b :: a :: l2) = -1 * pg (l1 ++ a :: b :: l2) := by
  refine pg_append (fun c => ?_) ?_ l1
  · show sn c a * (sn c b * pSg c l2) = sn c b * (sn c a * pSg c l2)
    rw [Int.mul_left_comm]
  · show sn b a * pSg b l2 * (pSg a l2 * pg l2) = -1 * (sn a b * pSg a l2 * (pSg b l2 * pg l2))
    rw [sn_neg a b]
    grind
def os (l : List Ar) : List Nat := l.map (·.1)
def xs (l : List Ar) : List Nat := l.map (·.2)
def sgL (l : List Ar) : Int := pg (os l) * pg (xs l)
section
variable (l1 l2 : List Ar) (a : Ar) (p r s : Nat)
theorem sgB : sgL (gB l1 l2 a p r s) = sgL (gA l1 l2 a p r s) := by
  unfold sgL os xs gA gB
  simp only [List.map_append, List.map_cons]
  rw [pg_swap p r, pg_swap 0 s]
  grind
theorem sgC : sgL (gC l1 l2 a p r s) = - sgL (gA l1 l2 a p r s) := by
  unfold sgL os xs gA gC
  simp only [List.map_append, List.map_cons]
  rw [pg_swap 0 s]
  grind
theorem K2B : K2 (gB l1 l2 a p r s) - K2 (gA l1 l2 a p r s) = 2 * (sn s 0 + sn p r) := by
  unfold gA gB
  rw [K2_append (m := (r, s) :: (p, 0) :: a :: l2) (m' := (p, 0) :: (r, s) :: a :: l2) fun c => by simp only [hh]; omega]
  simp only [K2, hh]
  have e1 := sn_neg 0 s
  have e2 := sn_neg p r
  have e3 := sn_neg s p
  have e4 := sn_neg 0 r
  omega
theorem K2C : K2 (gC l1 l2 a p r s) - K2 (gA l1 l2 a p r s) = 2 * sn s 0 := by
  unfold gA gC
  rw [K2_append (m := (p, s) :: (r, 0) :: a :: l2) (m' := (p, 0) :: (r, s) :: a :: l2) fun c => by simp only [hh]; omega]
  simp only [K2, hh]
  have e1 := sn_neg 0 s
  have e2 := sn_neg p r
  have e3 := sn_neg s p
  have e4 := sn_neg 0 r
  have e5 := sn_neg r s
  have e6 := sn_neg 0 p
  omega
end
/-- A polynomial has but so many terms. -/
def Fs (f : Cf) : Prop := ∃ N : Nat, ∀ e : Int, e < -(N : Int) ∨ (N : Int) < e → f e = 0
theorem Fs.neg {f : Cf} (h : Fs f) : Fs fun e => - f e := by
  obtain ⟨N, h⟩ := h
  exact ⟨N, fun e he => by show - f e = 0; rw [h e he]; rfl⟩
theorem Fs.add {f g : Cf} (h : Fs f) (h' : Fs g) : Fs fun e => f e + g e := by
  obtain ⟨N, h⟩ := h
  obtain ⟨N', h'⟩ := h'
  exact ⟨N + N', fun e he => by show f e + g e = 0; rw [h e (by omega), h' e (by omega)]; rfl⟩
theorem Fs.sub {f g : Cf} (h : Fs f) (h' : Fs g) : Fs fun e => f e - g e := by
  obtain ⟨N, h⟩ := h
  obtain ⟨N', h'⟩ := h'
  exact ⟨N + N', fun e he => by show f e - g e = 0; rw [h e (by omega), h' e (by omega)]; rfl⟩
theorem Fs.sh {f : Cf} (h : Fs f) (k : Int) : Fs fun e => f (e + k) := by
  obtain ⟨N, h⟩ := h
  exact ⟨N + k.natAbs, fun e he => h _ (by omega)⟩
theorem Fs.refl {f : Cf} (h : Fs f) : Fs fun e => f (-e) := by
  obtain ⟨N, h⟩ := h
  exact ⟨N, fun e he => h _ (by omega)⟩
theorem Fs.mul {f : Cf} (h : Fs f) (c : Int) : Fs fun e => c * f e := by
  obtain ⟨N, h⟩ := h
  exact ⟨N, fun e he => by show c * f e = 0; rw [h e he, Int.mul_zero]⟩
theorem Fs.zero : Fs fun _ => 0 := ⟨0, fun _ _ => rfl⟩
def dlt : Cf := fun e => if e = 0 then 1 else 0
theorem Fs.dlt : Fs dlt := ⟨0, fun e he => if_neg (by omega)⟩
/-- The product with 1 - t. -/
def mo (f : Cf) : Cf := fun e => f e - f (e - 1)
def itM : Nat → Cf → Cf
  | 0, f => f
  | j + 1, f => mo (itM j f)
theorem itM_sh : ∀ (j : Nat) (f : Cf) (k e : Int), itM j (fun e => f (e + k)) e = itM j f (e + k)
  | 0, _, _, _ => rfl
  | j + 1, f, k, e => by
    show itM j (fun e => f (e + k)) e - itM j (fun e => f (e + k)) (e - 1) = itM j f (e + k) - itM j f (e + k - 1)
    rw [itM_sh j, itM_sh j, show e - 1 + k = e + k - 1 by omega]
theorem itM_neg : ∀ (j : Nat) (f : Cf) (e : Int), itM j (fun e => - f e) e = - itM j f e
  | 0, _, _ => rfl
  | j + 1, f, e => by
    show itM j (fun e => - f e) e - itM j (fun e => - f e) (e - 1) = -(itM j f e - itM j f (e - 1))
    rw [itM_neg j, itM_neg j]; omega
theorem itM_add : ∀ (j : Nat) (f g : Cf) (e : Int), itM j (fun e => f e + g e) e = itM j f e + itM j g e
  | 0, _, _, _ => rfl
  | j + 1, f, g, e => by
    show itM j (fun e => f e + g e) e - itM j (fun e => f e + g e) (e - 1) = itM j f e - itM j f (e - 1) + (itM j g e - itM j g (e - 1))
    rw [itM_add j, itM_add j]; omega
theorem itM_sub (j : Nat) (f g : Cf) (e : Int) : itM j (fun e => f e - g e) e = itM j f e - itM j g e := by
  have h : (fun e => f e - g e) = fun e => f e + (fun e => - g e) e := funext fun e => by show _ = f e + - g e; omega
  rw [h, itM_add, itM_neg]; omega
theorem itM_mul : ∀ (j : Nat) (f : Cf) (c e : Int), itM j (fun e => c * f e) e = c * itM j f e
  | 0, _, _, _ => rfl
  | j + 1, f, c, e => by
    show itM j (fun e => c * f e) e - itM j (fun e => c * f e) (e - 1) = c * (itM j f e - itM j f (e - 1))
    rw [itM_mul j, itM_mul j, Int.mul_sub]
theorem itM_zero : ∀ (j : Nat) (e : Int), itM j (fun _ => 0) e = 0
  | 0, _ => rfl
  | j + 1, e => by
    show itM j (fun _ => 0) e - itM j (fun _ => 0) (e - 1) = 0
    rw [itM_zero j, itM_zero j]; rfl
theorem itM_out : ∀ (j : Nat) (f : Cf), itM j (mo f) = mo (itM j f)
  | 0, _ => rfl
  | j + 1, f => by
    show mo (itM j (mo f)) = _
    rw [itM_out j f]; rfl
/-- Up to multiples of 1 - t a polynomial is 1 or -1. -/
def On (Q : Cf) : Prop := ∃ (c : Int) (R : Cf), (c = 1 ∨ c = -1) ∧ Fs R ∧ ∀ e, Q e = c * dlt e + (R e - R (e - 1))
theorem On.neg {Q : Cf} (h : On Q) : On fun e => - Q e := by
  obtain ⟨c, R, hc, hR, h⟩ := h
  refine ⟨-c, fun e => - R e, by omega, hR.neg, fun e => ?_⟩
  show - Q e = -c * dlt e + (-R e - -R (e - 1))
  rw [h e, Int.neg_mul]; omega
theorem On.mo {Q R' : Cf} (h : On Q) (hR' : Fs R') : On fun e => Q e + (R' e - R' (e - 1)) := by
  obtain ⟨c, R, hc, hR, h⟩ := h
  refine ⟨c, fun e => R e + R' e, hc, hR.add hR', fun e => ?_⟩
  show Q e + (R' e - R' (e - 1)) = c * dlt e + (R e + R' e - (R (e - 1) + R' (e - 1)))
  rw [h e]; omega
theorem On.fs {Q : Cf} (h : On Q) : Fs Q := by
  obtain ⟨c, R, _, hR, h⟩ := h
  have h2 := (Fs.dlt.mul c).add (hR.sub (hR.sh (-1)))
  obtain ⟨N, h2⟩ := h2
  exact ⟨N, fun e he => by rw [h e]; exact h2 e he⟩
theorem On.up {Q : Cf} (h : On Q) : On fun e => Q (e + 1) := by
  have h2 := h.mo (h.fs.sh 1)
  obtain ⟨c, R, hc, hR, h2⟩ := h2
  refine ⟨c, R, hc, hR, fun e => ?_⟩
  rw [← h2 e]
  show Q (e + 1) = Q e + (Q (e + 1) - Q (e - 1 + 1))
  rw [show e - 1 + 1 = e by omega]; omega
theorem On.upN {Q : Cf} (h : On Q) : ∀ k : Nat, On fun e => Q (e + (k : Int))
  | 0 => by
    have e : (fun e => Q (e + ((0 : Nat) : Int))) = Q := funext fun e => by rw [show e + ((0 : Nat) : Int) = e by omega]
    rw [e]; exact h
  | k + 1 => by
    have h2 := (On.upN h k).up
    have e : (fun e => Q (e + ((k + 1 : Nat) : Int))) = fun e => Q (e + 1 + (k : Int)) := funext fun e => by rw [show e + ((k + 1 : Nat) : Int) = e + 1 + (k : Int) by omega]
    rw [e]; exact h2
theorem On.refl {Q : Cf} (h : On Q) : On fun e => Q (-e) := by
  obtain ⟨c, R, hc, hR, h⟩ := h
  refine ⟨c, fun e => - R (-e - 1), hc, ?_, fun e => ?_⟩
  · have h2 := (hR.refl.sh 1).neg
    obtain ⟨N, h2⟩ := h2
    exact ⟨N, fun e he => by
      have h3 : - R (-(e + 1)) = 0 := h2 e he
      show - R (-e - 1) = 0
      rw [show -e - 1 = -(e + 1) by omega]
      exact h3⟩
  · show Q (-e) = c * dlt e + (- R (-e - 1) - - R (-(e - 1) - 1))
    rw [h (-e), show -(e - 1) - 1 = -e by omega]
    have : dlt (-e) = dlt e := by
      unfold dlt
      by_cases h : e = 0
      · rw [if_pos h, if_pos (by omega)]
      · rw [if_neg h, if_neg (by omega)]
    rw [this]; omega
/-- No part of the rows is closed under the arrows. -/
def Sg (l : List Ar) : Prop := ∀ S : Nat → Prop, (∃ a ∈ l, S a.1) → (∀ a ∈ l, S a.1 → S a.2) → ∀ a ∈ l, S a.1
structure Gd (l : List Ar) : Prop where
  q : ∃ Q, Fs Q ∧ (∀ e, dl l e = itM (l.length - 1) Q e) ∧ (Sg l → On Q)
  s : ∀ f g : Int, 2 * (f + g) = - K2 l → dl l g = sgL l * dl l f
  k : Sg l → ∃ k : Int, 2 * k = K2 l

end Go.Proofs

/-
  What the functions of this part hand back: each as a plain function of its arguments. Conditions: none.
-/
namespace Go.Proofs
open Go.W8
set_option linter.unusedVariables false
set_option linter.unusedSimpArgs false
set_option linter.unusedSectionVars false
set_option maxRecDepth 8000
set_option maxHeartbeats 4000000
--@plain
theorem sn_lt {u v : Nat} (h : u < v) : sn u v = 1 := if_pos h
theorem sn_gt {u v : Nat} (h : v < u) : sn u v = -1 := by unfold sn; rw [if_neg (by omega), if_pos h]
section
variable {l1 l2 : List Ar} {a : Ar} {p r s : Nat}
theorem lenA : (gA l1 l2 a p r s).length = l1.length + l2.length + 3 := by unfold gA; simp; omega
theorem lenB : (gB l1 l2 a p r s).length = l1.length + l2.length + 3 := by unfold gB; simp; omega
theorem lenC : (gC l1 l2 a p r s).length = l1.length + l2.length + 3 := by unfold gC; simp; omega
theorem memB (b : Ar) : b ∈ gB l1 l2 a p r s ↔ b ∈ gA l1 l2 a p r s := by
  unfold gA gB
  simp only [List.mem_append, List.mem_cons]
  grind
theorem Sg_B (h : Sg (gA l1 l2 a p r s)) : Sg (gB l1 l2 a p r s) := fun S ⟨b, hb, hS⟩ hc c hcm => h S ⟨b, (memB b).1 hb, hS⟩ (fun d hd => hc d ((memB d).2 hd)) c ((memB c).1 hcm)
theorem gd_step (hp : 0 < p) (hr : 0 < r) (hs : 0 < s) (hpr : p ≠ r) (gb : Gd (gB l1 l2 a p r s)) (gc : Gd (gC l1 l2 a p r s)) : Gd (gA l1 l2 a p r s) := by
  obtain ⟨⟨QB, fB, dB, oB⟩, sB, kB⟩ := gb
  obtain ⟨⟨QC, fC, dC, _⟩, sC, _⟩ := gc
  have k1 := K2B l1 l2 a p r s
  have k2 := K2C l1 l2 a p r s
  rw [sn_gt hs] at k1 k2
  rw [sgB] at sB
  rw [sgC] at sC
  rw [lenB] at dB
  rw [lenC] at dC
  rcases Nat.lt_or_ge p r with h1 | h1
  · rw [sn_lt h1] at k1
    rcases Nat.lt_or_ge s p with h2 | h2
    · have hk := sk4 l1 l2 a p r s h1 h2
      refine ⟨⟨fun e => - QB e + (- QC (e + 1) - - QC (e - 1 + 1)), ?_, fun e => ?_, fun hg => ?_⟩, fun f g hfg => ?_, fun hg => ?_⟩
      · exact fB.neg.add ((fC.sh 1).neg.sub (by
          obtain ⟨N, h⟩ := fC.neg
          exact ⟨N, fun e he => by
            show - QC (e - 1 + 1) = 0
            rw [show e - 1 + 1 = e by omega]; exact h e he⟩))
      · rw [lenA]
        have e1 : (fun e => - QB e + (- QC (e + 1) - - QC (e - 1 + 1))) = fun e => (fun e => - QB e) e + (fun e => (fun e => - (fun e => QC (e + 1)) e) e - (fun e => - QC e) e) e := funext fun e => by show _ = - QB e + (- QC (e + 1) - - QC e); rw [show e - 1 + 1 = e by omega]
        rw [e1, itM_add, itM_sub, itM_neg, itM_neg, itM_neg, itM_sh, ← dB, ← dC, ← dC]
        have := hk e
        omega
      · exact (oB (Sg_B hg)).neg.mo (R' := fun e => - QC (e + 1)) (fC.sh 1).neg
      · have b1 := sB f g (by omega)
        have c1 := sC (f + 1) g (by omega)
        have c2 := sC f (g + 1) (by omega)
        have a1 := hk g
        have a2 := hk f
        rw [b1, c1, c2] at a1
        rw [show dl (gA l1 l2 a p r s) f = - dl (gB l1 l2 a p r s) f - dl (gC l1 l2 a p r s) (f + 1) + dl (gC l1 l2 a p r s) f by omega]
        generalize sgL (gA l1 l2 a p r s) = σ at *
        grind
      · obtain ⟨k, h⟩ := kB (Sg_B hg)
        exact ⟨k, by omega⟩
    · have hk := sk1 l1 l2 a p r s h1 h2
      refine ⟨⟨fun e => - QB e, fB.neg, fun e => ?_, fun hg => (oB (Sg_B hg)).neg⟩, fun f g hfg => ?_, fun hg => ?_⟩
      · rw [lenA, itM_neg, ← dB]
        have := hk e
        omega
      · have b1 := sB f g (by omega)
        have a1 := hk g
        have a2 := hk f
        rw [b1] at a1
        rw [show dl (gA l1 l2 a p r s) f = - dl (gB l1 l2 a p r s) f by omega]
        generalize sgL (gA l1 l2 a p r s) = σ at *
        grind
      · obtain ⟨k, h⟩ := kB (Sg_B hg)
        exact ⟨k, by omega⟩
  · have h1 : r < p := by omega
    rw [sn_gt h1] at k1
    rcases Nat.lt_or_ge p s with h2 | h2
    · have hk := sk3 l1 l2 a p r s h1 h2
      refine ⟨⟨fun e => - QB (e + 1) + (QC (e + 1) - QC (e - 1 + 1)), ?_, fun e => ?_, fun hg => ?_⟩, fun f g hfg => ?_, fun hg => ?_⟩
      · exact (fB.sh 1).neg.add ((fC.sh 1).sub (by
          obtain ⟨N, h⟩ := fC
          exact ⟨N, fun e he => by
            show QC (e - 1 + 1) = 0
            rw [show e - 1 + 1 = e by omega]; exact h e he⟩))
      · rw [lenA]
        have e1 : (fun e => - QB (e + 1) + (QC (e + 1) - QC (e - 1 + 1))) = fun e => (fun e => - (fun e => QB (e + 1)) e) e + (fun e => (fun e => QC (e + 1)) e - QC e) e := funext fun e => by show _ = - QB (e + 1) + (QC (e + 1) - QC e); rw [show e - 1 + 1 = e by omega]
        rw [e1, itM_add, itM_sub, itM_neg, itM_sh, itM_sh, ← dB, ← dC, ← dC]
        have := hk e
        omega
      · exact (oB (Sg_B hg)).up.neg.mo (R' := fun e => QC (e + 1)) (fC.sh 1)
      · have b1 := sB (f + 1) (g + 1) (by omega)
        have c1 := sC (f + 1) g (by omega)
        have c2 := sC f (g + 1) (by omega)
        have a1 := hk g
        have a2 := hk f
        rw [b1, c1, c2] at a1
        rw [show dl (gA l1 l2 a p r s) f = - dl (gB l1 l2 a p r s) (f + 1) - dl (gC l1 l2 a p r s) f + dl (gC l1 l2 a p r s) (f + 1) by omega]
        generalize sgL (gA l1 l2 a p r s) = σ at *
        grind
      · obtain ⟨k, h⟩ := kB (Sg_B hg)
        exact ⟨k + 2, by omega⟩
    · have hk := sk2 l1 l2 a p r s h1 h2
      refine ⟨⟨fun e => - QB (e + 1), (fB.sh 1).neg, fun e => ?_, fun hg => (oB (Sg_B hg)).up.neg⟩, fun f g hfg => ?_, fun hg => ?_⟩
      · have e1 : (fun e => - QB (e + 1)) = fun e => - (fun e => QB (e + 1)) e := rfl
        rw [lenA, e1, itM_neg, itM_sh, ← dB]
        have := hk e
        omega
      · have b1 := sB (f + 1) (g + 1) (by omega)
        have a1 := hk g
        have a2 := hk f
        rw [b1] at a1
        rw [show dl (gA l1 l2 a p r s) f = - dl (gB l1 l2 a p r s) (f + 1) by omega]
        generalize sgL (gA l1 l2 a p r s) = σ at *
        grind
      · obtain ⟨k, h⟩ := kB (Sg_B hg)
        exact ⟨k + 2, by omega⟩
end

/-- The next smaller rows. -/
def dn (a : Ar) : Ar := (a.1 - 1, a.2 - 1)
def Ps (l : List Ar) : Prop := ∀ a ∈ l, 0 < a.1 ∧ 0 < a.2
theorem Ps.tail {a : Ar} {l : List Ar} (h : Ps (a :: l)) : Ps l := fun b hb => h b (List.mem_cons_of_mem _ hb)
theorem Ps.head {a : Ar} {l : List Ar} (h : Ps (a :: l)) : 0 < a.1 ∧ 0 < a.2 := h a List.mem_cons_self
theorem stp_01 {a : Ar} (h : 0 < a.1 ∧ 0 < a.2) {v : Cl} (hv' : v 0 = v 1) : stp a v 0 = stp a v 1 := by
  unfold stp hv
  rw [if_pos (by omega), if_pos (by omega), if_pos (by omega), if_pos (by omega), hv']
theorem fnl_01 : ∀ {l : List Ar} {v : Cl}, Ps l → v 0 = v 1 → fnl v l 0 = fnl v l 1
  | [], _, _, h => h
  | a :: l, v, hp, h => by
    show fnl (stp a v) l 0 = fnl (stp a v) l 1
    exact fnl_01 hp.tail (stp_01 hp.head h)
theorem clF_01 : ∀ {l : List Ar} {v : Cl}, Ps l → v 0 = v 1 → ∀ c ∈ clF v l, c 0 = c 1
  | [], _, _, _, _, hc => nomatch hc
  | a :: l, v, hp, h, c, hc => by
    rcases List.mem_cons.1 hc with e | hc
    · subst e; exact h
    · exact clF_01 hp.tail (stp_01 hp.head h) c hc
theorem fnl_0 : ∀ {l : List Ar} {v : Cl}, fnl v l 0 = v 0
  | [], _ => rfl
  | a :: l, v => by
    show fnl (stp a v) l 0 = _
    rw [fnl_0]
    unfold stp hv
    rw [if_pos (by omega), if_pos (by omega)]; omega
theorem stp_dn {a : Ar} (h : 0 < a.1 ∧ 0 < a.2) (v : Cl) : stp (dn a) (fun b => v (b + 1)) = fun b => stp a v (b + 1) := by
  funext b
  unfold stp hv dn
  have e1 : (b ≤ a.2 - 1) = (b + 1 ≤ a.2) := by rw [eq_iff_iff]; omega
  have e2 : (b ≤ a.1 - 1) = (b + 1 ≤ a.1) := by rw [eq_iff_iff]; omega
  simp only [e1, e2]
theorem clF_dn : ∀ {l : List Ar} {v : Cl}, Ps l → clF (fun b => v (b + 1)) (l.map dn) = (clF v l).map fun c b => c (b + 1)
  | [], _, _ => rfl
  | a :: l, v, hp => by
    show _ :: clF (stp (dn a) fun b => v (b + 1)) (l.map dn) = _ :: (clF (stp a v) l).map _
    rw [stp_dn hp.head, clF_dn hp.tail]
theorem dl_dn {l : List Ar} (h : Ps l) (e : Int) : dl (l.map dn) e = dt l.length (clF z0 l) 1 e := by
  have h2 := clF_dn (v := z0) h
  unfold dl
  rw [show z0 = fun b => z0 (b + 1) from rfl, h2, dt_shift, List.length_map]
  rfl
section
variable {l1 l2 : List Ar} {p s : Nat} (h1 : Ps l1) (h2 : Ps l2) (hp : 0 < p) (hs : 0 < s)
include h1 h2 hp hs
theorem dl_dest (e : Int) : dl (l1 ++ (p, 0) :: (0, s) :: l2) e = (-1) ^ (l1.length + 1) * (dl ((l1 ++ (p, s) :: l2).map dn) e - dl ((l1 ++ (p, s) :: l2).map dn) (e + 1)) := by
  have hps : Ps (l1 ++ (p, s) :: l2) := fun a ha => by
    rcases List.mem_append.1 ha with h | h
    · exact h1 a h
    · rcases List.mem_cons.1 h with h | h
      · subst h; exact ⟨hp, hs⟩
      · exact h2 a h
  have hv01 : fnl z0 l1 0 = fnl z0 l1 1 := fnl_01 h1 rfl
  have hv0 : fnl z0 l1 0 = 0 := fnl_0
  have hz : stp (0, s) (stp (p, 0) (fnl z0 l1)) = stp (p, s) (fnl z0 l1) := by
    funext b
    unfold stp
    show fnl z0 l1 b + hv 0 b - hv p b + hv s b - hv 0 b = fnl z0 l1 b + hv s b - hv p b
    omega
  rw [dl_dn hps, dl_dn hps]
  unfold dl
  rw [clF_append, show (l1 ++ (p, 0) :: (0, s) :: l2).length = l1.length + l2.length + 2 by simp; omega, show (l1 ++ (p, s) :: l2).length = l1.length + l2.length + 1 by simp; omega, clF_append]
  show dt _ (clF z0 l1 ++ fnl z0 l1 :: stp (p, 0) (fnl z0 l1) :: clF (stp (0, s) (stp (p, 0) (fnl z0 l1))) l2) 0 e = _ * (dt _ (clF z0 l1 ++ fnl z0 l1 :: clF (stp (p, s) (fnl z0 l1)) l2) 1 e - dt _ (clF z0 l1 ++ fnl z0 l1 :: clF (stp (p, s) (fnl z0 l1)) l2) 1 (e + 1))
  rw [hz]
  have h := dt_rows (m := l1.length + l2.length) (P := clF z0 l1 ++ [fnl z0 l1]) (S := clF (stp (p, s) (fnl z0 l1)) l2) (u := stp (p, 0) (fnl z0 l1)) (r := 0) (fun c hc => by
    rcases List.mem_append.1 hc with h | h
    · exact clF_01 h1 rfl c h
    · rw [List.mem_singleton.1 h]; exact hv01) (clF_01 h2 (stp_01 ⟨hp, hs⟩ hv01)) e
  rw [List.append_assoc, List.append_assoc, List.length_append, clF_len, List.length_singleton] at h
  have u0 : stp (p, 0) (fnl z0 l1) 0 = 0 := by
    unfold stp hv
    rw [hv0, if_pos (Nat.le_refl _), if_pos (by omega)]; rfl
  have u1 : stp (p, 0) (fnl z0 l1) (0 + 1) = -1 := by
    unfold stp hv
    rw [← hv01, hv0, if_neg (by omega), if_pos (by omega)]; rfl
  rw [u0, u1, show e - 0 = e by omega, show e - -1 = e + 1 by omega] at h
  exact h
end
theorem sn_dn {u v : Nat} (hu : 0 < u) (hv : 0 < v) : sn (u - 1) (v - 1) = sn u v := by
  unfold sn
  have e1 : (u - 1 < v - 1) = (u < v) := by rw [eq_iff_iff]; omega
  have e2 : (v - 1 < u - 1) = (v < u) := by rw [eq_iff_iff]; omega
  simp only [e1, e2]
theorem hh_dn {c : Nat} (hc : 0 < c) : ∀ {l : List Ar}, Ps l → hh (c - 1) (l.map dn) = hh c l
  | [], _ => rfl
  | a :: l, h => by
    show sn (c - 1) (a.2 - 1) + sn (c - 1) (a.1 - 1) + hh (c - 1) (l.map dn) = sn c a.2 + sn c a.1 + hh c l
    rw [hh_dn hc h.tail, sn_dn hc h.head.1, sn_dn hc h.head.2]
theorem K2_dn : ∀ {l : List Ar}, Ps l → K2 (l.map dn) = K2 l
  | [], _ => rfl
  | a :: l, h => by
    show sn (a.2 - 1) (a.1 - 1) + hh (a.2 - 1) (l.map dn) - hh (a.1 - 1) (l.map dn) + K2 (l.map dn) = sn a.2 a.1 + hh a.2 l - hh a.1 l + K2 l
    rw [hh_dn h.head.2 h.tail, hh_dn h.head.1 h.tail, K2_dn h.tail, sn_dn h.head.2 h.head.1]
theorem K2_push {m m' : List Ar} {d : Int} (h : ∀ c, 0 < c → hh c m = hh c m' + d) : ∀ {l1 : List Ar}, Ps l1 → K2 (l1 ++ m) - K2 (l1 ++ m') = K2 m - K2 m'
  | [], _ => rfl
  | a :: l1, hp => by
    have ih := K2_push h hp.tail
    show sn a.2 a.1 + hh a.2 (l1 ++ m) - hh a.1 (l1 ++ m) + K2 (l1 ++ m) - (sn a.2 a.1 + hh a.2 (l1 ++ m') - hh a.1 (l1 ++ m') + K2 (l1 ++ m')) = _
    rw [hh_append, hh_append, hh_append, hh_append, h _ hp.head.1, h _ hp.head.2]
    omega
theorem K2_dest {l1 l2 : List Ar} {p s : Nat} (h1 : Ps l1) (hp : 0 < p) (hs : 0 < s) : K2 (l1 ++ (p, 0) :: (0, s) :: l2) = K2 (l1 ++ (p, s) :: l2) + 2 := by
  have h := K2_push (m := (p, 0) :: (0, s) :: l2) (m' := (p, s) :: l2) (d := -2) (fun c hc => by
    simp only [hh]
    rw [sn_gt hc]
    omega) h1
  have e : K2 ((p, 0) :: (0, s) :: l2) - K2 ((p, s) :: l2) = 2 := by
    simp only [K2, hh]
    rw [sn_lt hp, sn_lt hs, sn_gt hs, sn_gt hp, sn_neg p s, show sn 0 0 = 0 from rfl]
    omega
  omega
def Pn (l : List Nat) : Prop := ∀ c ∈ l, 0 < c
theorem pSg_dn {c : Nat} (hc : 0 < c) : ∀ {l : List Nat}, Pn l → pSg (c - 1) (l.map (· - 1)) = pSg c l
  | [], _ => rfl
  | d :: l, h => by
    show sn (c - 1) (d - 1) * pSg (c - 1) (l.map (· - 1)) = sn c d * pSg c l
    rw [sn_dn hc (h d List.mem_cons_self), pSg_dn hc fun e he => h e (List.mem_cons_of_mem _ he)]
theorem pg_dn : ∀ {l : List Nat}, Pn l → pg (l.map (· - 1)) = pg l
  | [], _ => rfl
  | c :: l, h => by
    have ht : Pn l := fun e he => h e (List.mem_cons_of_mem _ he)
    show pSg (c - 1) (l.map (· - 1)) * pg (l.map (· - 1)) = pSg c l * pg l
    rw [pSg_dn (h c List.mem_cons_self) ht, pg_dn ht]
theorem pSg_zero : ∀ {l : List Nat}, Pn l → pSg 0 l = 1
  | [], _ => rfl
  | d :: l, h => by
    show sn 0 d * pSg 0 l = 1
    rw [sn_lt (h d List.mem_cons_self), pSg_zero fun e he => h e (List.mem_cons_of_mem _ he)]; rfl
theorem pg_rm {B : List Nat} (hB : Pn B) : ∀ {A : List Nat}, Pn A → pg (A ++ 0 :: B) = (-1) ^ A.length * pg (A ++ B)
  | [], _ => by
    show pSg 0 B * pg B = 1 * pg B
    rw [pSg_zero hB]
  | c :: A, h => by
    show pSg c (A ++ 0 :: B) * pg (A ++ 0 :: B) = (-1) ^ (A.length + 1) * (pSg c (A ++ B) * pg (A ++ B))
    rw [pg_rm hB fun e he => h e (List.mem_cons_of_mem _ he), pSg_append, pSg_append]
    show pSg c A * (sn c 0 * pSg c B) * _ = _
    rw [sn_gt (h c List.mem_cons_self), Int.pow_succ]
    grind
theorem pow_two (k : Nat) : ((-1 : Int) ^ k) * ((-1) ^ k) = 1 := by
  induction k with
  | zero => rfl
  | succ k ih =>
    rw [Int.pow_succ]
    grind
theorem Pn_os {l : List Ar} (h : Ps l) : Pn (os l) := fun c hc => by
  obtain ⟨a, ha, rfl⟩ := List.mem_map.1 hc
  exact (h a ha).1
theorem Pn_xs {l : List Ar} (h : Ps l) : Pn (xs l) := fun c hc => by
  obtain ⟨a, ha, rfl⟩ := List.mem_map.1 hc
  exact (h a ha).2
theorem sg_dn {l : List Ar} (h : Ps l) : sgL (l.map dn) = sgL l := by
  unfold sgL
  rw [show os (l.map dn) = (os l).map (· - 1) by simp [os, dn], show xs (l.map dn) = (xs l).map (· - 1) by simp [xs, dn], pg_dn (Pn_os h), pg_dn (Pn_xs h)]
theorem sg_dest {l1 l2 : List Ar} {p s : Nat} (h1 : Ps l1) (h2 : Ps l2) (hp : 0 < p) (hs : 0 < s) : sgL (l1 ++ (p, 0) :: (0, s) :: l2) = - sgL (l1 ++ (p, s) :: l2) := by
  unfold sgL
  have a1 : os (l1 ++ (p, 0) :: (0, s) :: l2) = (os l1 ++ [p]) ++ 0 :: os l2 := by simp [os]
  have a2 : xs (l1 ++ (p, 0) :: (0, s) :: l2) = xs l1 ++ 0 :: (s :: xs l2) := by simp [xs]
  have a3 : os (l1 ++ (p, s) :: l2) = (os l1 ++ [p]) ++ os l2 := by simp [os]
  have a4 : xs (l1 ++ (p, s) :: l2) = xs l1 ++ (s :: xs l2) := by simp [xs]
  have l3 : (os l1 ++ [p]).length = l1.length + 1 := by simp [os]
  have l4 : (xs l1).length = l1.length := by simp [xs]
  rw [a1, a2, a3, a4, pg_rm (Pn_os h2) fun c hc => ?_, pg_rm (fun c hc => ?_) (Pn_xs h1), l3, l4]
  · have := pow_two l1.length
    rw [Int.pow_succ]
    generalize ((-1 : Int) ^ l1.length) = τ at *
    generalize pg (os l1 ++ [p] ++ os l2) = A
    generalize pg (xs l1 ++ s :: xs l2) = B
    grind
  · rcases List.mem_cons.1 hc with h | h
    · rw [h]; exact hs
    · exact Pn_xs h2 c h
  · rcases List.mem_append.1 hc with h | h
    · exact Pn_os h1 c h
    · rw [List.mem_singleton.1 h]; exact hp
theorem Sg_dest {l1 l2 : List Ar} {p s : Nat} (h1 : Ps l1) (h2 : Ps l2) (hp : 0 < p) (hs : 0 < s) (h : Sg (l1 ++ (p, 0) :: (0, s) :: l2)) : Sg ((l1 ++ (p, s) :: l2).map dn) := by
  intro S hne hcl
  let T : Nat → Prop := fun r => if r = 0 then S (s - 1) else S (r - 1)
  have hT : ∀ r, 0 < r → (T r ↔ S (r - 1)) := fun r hr => by
    show (if r = 0 then S (s - 1) else S (r - 1)) ↔ _
    rw [if_neg (by omega)]
  have hT0 : T 0 ↔ S (s - 1) := by
    show (if (0 : Nat) = 0 then S (s - 1) else S (0 - 1)) ↔ _
    rw [if_pos rfl]
  have hps : S (p - 1) → S (s - 1) := fun h => hcl (dn (p, s)) (List.mem_map_of_mem (by simp)) h
  have hall := h T (by
    obtain ⟨a', ha', hS⟩ := hne
    obtain ⟨a, ha, rfl⟩ := List.mem_map.1 ha'
    rcases List.mem_append.1 ha with hm | hm
    · exact ⟨a, by simp [hm], (hT _ (h1 a hm).1).2 hS⟩
    · rcases List.mem_cons.1 hm with hm | hm
      · subst hm
        exact ⟨(p, 0), by simp, (hT p hp).2 hS⟩
      · exact ⟨a, by simp [hm], (hT _ (h2 a hm).1).2 hS⟩) (by
    intro a ha hTa
    have two : ∀ b : Ar, b ∈ l1 ∨ b ∈ l2 → T b.1 → T b.2 := fun b hb hTb => by
      have hb2 : 0 < b.1 ∧ 0 < b.2 := by
        rcases hb with hb | hb
        · exact h1 b hb
        · exact h2 b hb
      have hbm : b ∈ l1 ++ (p, s) :: l2 := by
        rcases hb with hb | hb <;> simp [hb]
      exact (hT _ hb2.2).2 (hcl (dn b) (List.mem_map_of_mem hbm) ((hT _ hb2.1).1 hTb))
    rcases List.mem_append.1 ha with hm | hm
    · exact two a (.inl hm) hTa
    · rcases List.mem_cons.1 hm with hm | hm
      · subst hm
        exact hT0.2 (hps ((hT p hp).1 hTa))
      · rcases List.mem_cons.1 hm with hm | hm
        · subst hm
          exact (hT s hs).2 (hT0.1 hTa)
        · exact two a (.inr hm) hTa)
  intro a' ha'
  obtain ⟨a, ha, rfl⟩ := List.mem_map.1 ha'
  rcases List.mem_append.1 ha with hm | hm
  · exact (hT _ (h1 a hm).1).1 (hall a (by simp [hm]))
  · rcases List.mem_cons.1 hm with hm | hm
    · subst hm
      exact (hT p hp).1 (hall (p, 0) (by simp))
    · exact (hT _ (h2 a hm).1).1 (hall a (by simp [hm]))
theorem gd_dest {l1 l2 : List Ar} {p s : Nat} (h1 : Ps l1) (h2 : Ps l2) (hp : 0 < p) (hs : 0 < s) (g : Gd ((l1 ++ (p, s) :: l2).map dn)) : Gd (l1 ++ (p, 0) :: (0, s) :: l2) := by
  have hps : Ps (l1 ++ (p, s) :: l2) := fun a ha => by
    rcases List.mem_append.1 ha with h | h
    · exact h1 a h
    · rcases List.mem_cons.1 h with h | h
      · subst h; exact ⟨hp, hs⟩
      · exact h2 a h
  obtain ⟨⟨Q, fQ, dQ, oQ⟩, sQ, kQ⟩ := g
  have hD := dl_dest h1 h2 hp hs
  have hK := K2_dest (l2 := l2) h1 hp hs
  have hS := sg_dest h1 h2 hp hs
  have hg := Sg_dest h1 h2 hp hs
  rw [K2_dn hps, sg_dn hps] at sQ
  rw [K2_dn hps] at kQ
  have hl : (l1 ++ (p, 0) :: (0, s) :: l2).length - 1 = ((l1 ++ (p, s) :: l2).map dn).length - 1 + 1 := by simp; omega
  have hτ : (-1 : Int) ^ (l1.length + 1) = 1 ∨ (-1 : Int) ^ (l1.length + 1) = -1 := by
    generalize l1.length + 1 = k
    induction k with
    | zero => exact .inl rfl
    | succ k ih => rw [Int.pow_succ]; omega
  generalize ((-1 : Int) ^ (l1.length + 1)) = τ at *
  generalize (l1 ++ (p, s) :: l2).map dn = l' at *
  refine ⟨⟨fun e => (fun e => (-τ) * Q e) (e + 1), (fQ.mul (-τ)).sh 1, fun e => ?_, fun hsg => ?_⟩, fun f g' hfg => ?_, fun hsg => ?_⟩
  · rw [hD e, hl]
    refine Eq.trans ?_ (itM_sh (l'.length - 1 + 1) (fun e => (-τ) * Q e) 1 e).symm
    show _ = itM (l'.length - 1) (fun e => (-τ) * Q e) (e + 1) - itM (l'.length - 1) (fun e => (-τ) * Q e) (e + 1 - 1)
    rw [itM_mul, itM_mul, ← dQ, ← dQ, show e + 1 - 1 = e by omega]
    grind
  · have h := oQ (hg hsg)
    rcases hτ with e | e
    · rw [e]
      have e1 : (fun e => (fun e => (-1) * Q e) (e + 1)) = fun e => (fun e => - Q e) (e + 1) := funext fun e => by show -1 * _ = - _; omega
      rw [e1]
      exact h.neg.up
    · rw [e]
      have e1 : (fun e => (fun e => (- -1) * Q e) (e + 1)) = fun e => Q (e + 1) := funext fun e => by show - -1 * _ = _; omega
      rw [e1]
      exact h.up
  · rw [hD g', hD f, hS]
    have a1 := sQ (f + 1) g' (by omega)
    have a2 := sQ f (g' + 1) (by omega)
    rw [a1, a2]
    grind
  · obtain ⟨k, h⟩ := kQ (hg hsg)
    exact ⟨k + 1, by omega⟩
/-- The arrows turned round. -/
def sw (a : Ar) : Ar := (a.2, a.1)
def ng (v : Cl) : Cl := fun b => - v b
theorem stp_sw (a : Ar) (v : Cl) : stp (sw a) (ng v) = ng (stp a v) := by
  funext b
  unfold stp ng sw
  show - v b + hv a.1 b - hv a.2 b = -(v b + hv a.2 b - hv a.1 b)
  omega
theorem clF_sw : ∀ (l : List Ar) (v : Cl), clF (ng v) (l.map sw) = (clF v l).map fun c b => - c b
  | [], _ => rfl
  | a :: l, v => by
    show ng v :: clF (stp (sw a) (ng v)) (l.map sw) = _ :: (clF (stp a v) l).map _
    rw [stp_sw, clF_sw]; rfl
theorem dl_sw (l : List Ar) (e : Int) : dl (l.map sw) e = dl l (-e) := by
  have h := clF_sw l z0
  have hz : ng z0 = z0 := funext fun _ => rfl
  rw [hz] at h
  unfold dl
  rw [h, dt_neg, List.length_map]
theorem hh_sw (c : Nat) : ∀ l : List Ar, hh c (l.map sw) = hh c l
  | [] => rfl
  | a :: l => by
    show sn c a.1 + sn c a.2 + hh c (l.map sw) = sn c a.2 + sn c a.1 + hh c l
    rw [hh_sw c l]; omega
theorem K2_sw : ∀ l : List Ar, K2 (l.map sw) = - K2 l
  | [] => rfl
  | a :: l => by
    show sn a.1 a.2 + hh a.1 (l.map sw) - hh a.2 (l.map sw) + K2 (l.map sw) = -(sn a.2 a.1 + hh a.2 l - hh a.1 l + K2 l)
    rw [hh_sw, hh_sw, K2_sw l, sn_neg a.2 a.1]; omega
theorem sg_sw (l : List Ar) : sgL (l.map sw) = sgL l := by
  unfold sgL
  rw [show os (l.map sw) = xs l by simp [os, xs, sw, Function.comp_def], show xs (l.map sw) = os l by simp [os, xs, sw, Function.comp_def], Int.mul_comm]
theorem itM_refl : ∀ (j : Nat) (f : Cf) (e : Int), itM j f (-e) = (-1) ^ j * itM j (fun e => f (-e)) (e + (j : Int))
  | 0, f, e => by
    show f (-e) = 1 * f (-(e + 0))
    rw [show e + 0 = e by omega]; omega
  | j + 1, f, e => by
    show itM j f (-e) - itM j f (-e - 1) = _ * (itM j (fun e => f (-e)) (e + ((j + 1 : Nat) : Int)) - itM j (fun e => f (-e)) (e + ((j + 1 : Nat) : Int) - 1))
    rw [show -e - 1 = -(e + 1) by omega, itM_refl j f e, itM_refl j f (e + 1), show e + ((j + 1 : Nat) : Int) = e + 1 + (j : Int) by omega, show e + 1 + (j : Int) - 1 = e + (j : Int) by omega, Int.pow_succ]
    generalize itM j (fun e => f (-e)) (e + (j : Int)) = A
    generalize itM j (fun e => f (-e)) (e + 1 + (j : Int)) = B
    generalize ((-1 : Int) ^ j) = τ
    grind
theorem pow_cases (k : Nat) : (-1 : Int) ^ k = 1 ∨ (-1 : Int) ^ k = -1 := by
  induction k with
  | zero => exact .inl rfl
  | succ k ih => rw [Int.pow_succ]; omega
theorem Sg_sw {l : List Ar} (hx : (xs l).Perm (os l)) (h : Sg l) : Sg (l.map sw) := by
  intro S hne hcl
  have hcl2 : ∀ a ∈ l, S a.2 → S a.1 := fun a ha h => hcl (sw a) (List.mem_map_of_mem ha) h
  have h1 := h (fun r => ¬ S r)
  apply Classical.byContradiction
  intro hno
  obtain ⟨b', hb', hb2⟩ : ∃ b ∈ l.map sw, ¬ S b.1 := by
    apply Classical.byContradiction
    intro h2
    exact hno fun a ha => Classical.byContradiction fun h3 => h2 ⟨a, ha, h3⟩
  obtain ⟨b, hb, rfl⟩ := List.mem_map.1 hb'
  obtain ⟨b0, hb0, e0⟩ : ∃ c ∈ l, c.1 = b.2 := by
    have : b.2 ∈ os l := hx.subset (List.mem_map_of_mem hb)
    obtain ⟨c, hc, e⟩ := List.mem_map.1 this
    exact ⟨c, hc, e⟩
  have h2 := h1 ⟨b0, hb0, by rw [e0]; exact hb2⟩ fun a ha hna hs => hna (hcl2 a ha hs)
  obtain ⟨a', ha', hS⟩ := hne
  obtain ⟨a, ha, rfl⟩ := List.mem_map.1 ha'
  obtain ⟨c, hc, e⟩ : ∃ c ∈ l, c.1 = a.2 := by
    have : a.2 ∈ os l := hx.subset (List.mem_map_of_mem ha)
    obtain ⟨c, hc, e⟩ := List.mem_map.1 this
    exact ⟨c, hc, e⟩
  exact h2 c hc (by rw [e]; exact hS)
theorem gd_sw {l : List Ar} (hx : (xs l).Perm (os l)) (g : Gd (l.map sw)) : Gd l := by
  obtain ⟨⟨Q, fQ, dQ, oQ⟩, sQ, kQ⟩ := g
  rw [K2_sw, sg_sw] at sQ
  rw [K2_sw] at kQ
  rw [List.length_map] at dQ
  have hd : ∀ e, dl l e = dl (l.map sw) (-e) := fun e => by rw [dl_sw, Int.neg_neg]
  have hτ := pow_cases (l.length - 1)
  refine ⟨⟨fun e => (fun e => (-1) ^ (l.length - 1) * Q (-e)) (e + ((l.length - 1 : Nat) : Int)), (fQ.refl.mul _).sh _, fun e => ?_, fun hsg => ?_⟩, fun f g' hfg => ?_, fun hsg => ?_⟩
  · refine Eq.trans ?_ (itM_sh (l.length - 1) (fun e => (-1) ^ (l.length - 1) * Q (-e)) ((l.length - 1 : Nat) : Int) e).symm
    rw [itM_mul, hd, dQ, itM_refl]
  · have h := (oQ (Sg_sw hx hsg)).refl
    rcases hτ with e | e
    · rw [e]
      have e1 : (fun e => (fun e => 1 * Q (-e)) (e + ((l.length - 1 : Nat) : Int))) = fun e => (fun e => Q (-e)) (e + ((l.length - 1 : Nat) : Int)) := funext fun e => Int.one_mul _
      rw [e1]
      exact h.upN _
    · rw [e]
      have e1 : (fun e => (fun e => (-1) * Q (-e)) (e + ((l.length - 1 : Nat) : Int))) = fun e => (fun e => - Q (-e)) (e + ((l.length - 1 : Nat) : Int)) := funext fun e => Int.neg_one_mul _
      rw [e1]
      exact h.neg.upN _
  · rw [hd g', hd f]
    exact sQ (-f) (-g') (by omega)
  · obtain ⟨k, h⟩ := kQ (Sg_sw hx hsg)
    exact ⟨-k, by omega⟩
theorem gd_one : Gd [(0, 0)] := by
  have h : ∀ e, dl [(0, 0)] e = dlt e := fun e => by
    show (if e - 0 = 0 then (1 : Int) else 0) - 0 = dlt e
    rw [show e - 0 = e by omega]
    unfold dlt
    omega
  refine ⟨⟨dlt, Fs.dlt, h, fun _ => ⟨1, fun _ => 0, .inl rfl, Fs.zero, fun e => by show dlt e = 1 * dlt e + (0 - 0); omega⟩⟩, fun f g hfg => ?_, fun _ => ⟨0, rfl⟩⟩
  rw [h, h]
  have hfg : 2 * (f + g) = 0 := hfg
  show dlt g = 1 * dlt f
  unfold dlt
  by_cases e : f = 0
  · rw [if_pos e, if_pos (by omega)]; rfl
  · rw [if_neg e, if_neg (by omega)]; rfl
/-- Both signs of the lowest row in one column. -/
theorem gd_nil {l1 l2 : List Ar} (h1 : Ps l1) (h2 : Ps l2) (hn : 2 ≤ (l1 ++ (0, 0) :: l2).length) : Gd (l1 ++ (0, 0) :: l2) := by
  have hz : ∀ e, dl (l1 ++ (0, 0) :: l2) e = 0 := fun e => by
    unfold dl
    obtain ⟨m, hm⟩ : ∃ m, (l1 ++ (0, 0) :: l2).length = m + 2 := ⟨(l1 ++ (0, 0) :: l2).length - 2, by omega⟩
    rw [hm]
    refine dt_same (fun c hc => ?_) e
    rw [clF_append] at hc
    have hv01 : fnl z0 l1 0 = fnl z0 l1 1 := fnl_01 h1 rfl
    have hs : stp (0, 0) (fnl z0 l1) = fnl z0 l1 := funext fun b => by
      unfold stp
      show fnl z0 l1 b + hv 0 b - hv 0 b = fnl z0 l1 b
      omega
    rcases List.mem_append.1 hc with h | h
    · exact clF_01 h1 rfl c h
    · rcases List.mem_cons.1 h with h | h
      · rw [h]; exact hv01
      · have h : c ∈ clF (stp (0, 0) (fnl z0 l1)) l2 := h
        rw [hs] at h
        exact clF_01 h2 hv01 c h
  have hsg : ¬ Sg (l1 ++ (0, 0) :: l2) := fun h => by
    have h3 := h (fun r => r = 0) ⟨(0, 0), by simp, rfl⟩ fun a ha h0 => by
      rcases List.mem_append.1 ha with hm | hm
      · have := (h1 a hm).1; omega
      · rcases List.mem_cons.1 hm with hm | hm
        · rw [hm]
        · have := (h2 a hm).1; omega
    simp only [List.length_append, List.length_cons] at hn
    rcases l1 with _ | ⟨b, l1⟩
    · rcases l2 with _ | ⟨b, l2⟩
      · simp at hn
      · have := h3 b (by simp)
        have := (h2 b List.mem_cons_self).1
        omega
    · have := h3 b (by simp)
      have := (h1 b List.mem_cons_self).1
      omega
  refine ⟨⟨fun _ => 0, Fs.zero, fun e => by rw [hz, itM_zero], fun h => absurd h hsg⟩, fun f g _ => by rw [hz, hz, Int.mul_zero], fun h => absurd h hsg⟩

end Go.Proofs

/-
  What the functions of this part hand back: each as a plain function of its arguments. Conditions: none.
-/
namespace Go.Proofs
open Go.W8
set_option linter.unusedVariables false
set_option linter.unusedSimpArgs false
set_option linter.unusedSectionVars false
set_option maxRecDepth 8000
set_option maxHeartbeats 4000000
--@plain
/-- A grid: the rows of both signs are the first numbers in some order. -/
structure Pg (n : Nat) (l : List Ar) : Prop where
  o : (os l).Perm (List.range n)
  x : (xs l).Perm (List.range n)
theorem Pg.len {n : Nat} {l : List Ar} (h : Pg n l) : l.length = n := by
  have := h.o.length_eq
  simpa [os] using this
theorem Pg.no {n : Nat} {l : List Ar} (h : Pg n l) : (os l).Nodup := h.o.symm.nodup List.nodup_range
theorem Pg.nx {n : Nat} {l : List Ar} (h : Pg n l) : (xs l).Nodup := h.x.symm.nodup List.nodup_range
theorem Pg.sw {n : Nat} {l : List Ar} (h : Pg n l) : Pg n (l.map sw) := by
  refine ⟨?_, ?_⟩
  · rw [show os (l.map Go.Proofs.sw) = xs l by simp [os, xs, Go.Proofs.sw, Function.comp_def]]; exact h.x
  · rw [show xs (l.map Go.Proofs.sw) = os l by simp [os, xs, Go.Proofs.sw, Function.comp_def]]; exact h.o
section
variable {l1 l2 : List Ar} {a : Ar} {p r s n : Nat}
theorem Pg.b (h : Pg n (gA l1 l2 a p r s)) : Pg n (gB l1 l2 a p r s) := by
  refine ⟨List.Perm.trans ?_ h.o, List.Perm.trans ?_ h.x⟩
  · simp only [os, gA, gB, List.map_append, List.map_cons]
    exact (List.Perm.swap _ _ _).append_left _
  · simp only [xs, gA, gB, List.map_append, List.map_cons]
    exact (List.Perm.swap _ _ _).append_left _
theorem Pg.c (h : Pg n (gA l1 l2 a p r s)) : Pg n (gC l1 l2 a p r s) := by
  refine ⟨List.Perm.trans ?_ h.o, List.Perm.trans ?_ h.x⟩
  · simp only [os, gA, gC, List.map_append, List.map_cons]
    exact .refl _
  · simp only [xs, gA, gC, List.map_append, List.map_cons]
    exact (List.Perm.swap _ _ _).append_left _
theorem dn_range {l : List Nat} (h : (0 :: l).Perm (List.range (n + 1))) : (l.map (· - 1)).Perm (List.range n) := by
  rw [List.range_succ_eq_map] at h
  have h2 := (h.cons_inv).map (· - 1)
  refine h2.trans ?_
  rw [List.map_map, show ((· - 1) ∘ Nat.succ) = id from funext fun k => rfl, List.map_id]
theorem Pg.dest (h : Pg (n + 1) (l1 ++ (p, 0) :: (0, s) :: l2)) : Pg n ((l1 ++ (p, s) :: l2).map dn) := by
  refine ⟨?_, ?_⟩
  · have h2 : (0 :: (os l1 ++ p :: os l2)).Perm (List.range (n + 1)) := by
      refine List.Perm.trans ?_ h.o
      simp only [os, List.map_append, List.map_cons]
      have e : List.map (·.1) l1 ++ p :: 0 :: List.map (·.1) l2 = (List.map (·.1) l1 ++ [p]) ++ 0 :: List.map (·.1) l2 := by simp
      rw [e]
      refine List.Perm.trans ?_ List.perm_middle.symm
      simp
    have h3 := dn_range h2
    simp only [os, dn, List.map_append, List.map_cons, List.map_map, Function.comp_def] at h3 ⊢
    exact h3
  · have h2 : (0 :: (xs l1 ++ s :: xs l2)).Perm (List.range (n + 1)) := by
      refine List.Perm.trans ?_ h.x
      simp only [xs, List.map_append, List.map_cons]
      exact List.perm_middle.symm
    have h3 := dn_range h2
    simp only [xs, dn, List.map_append, List.map_cons, List.map_map, Function.comp_def] at h3 ⊢
    exact h3
end
theorem Ps.app {l1 l2 : List Ar} (h1 : Ps l1) (h2 : Ps l2) : Ps (l1 ++ l2) := fun a ha => by
  rcases List.mem_append.1 ha with h | h
  · exact h1 a h
  · exact h2 a h
theorem Ps.one {p s : Nat} (hp : 0 < p) (hs : 0 < s) : Ps [(p, s)] := fun a ha => by
  rw [List.mem_singleton.1 ha]; exact ⟨hp, hs⟩
theorem gd_left {n : Nat} (IH : ∀ l, Pg (n + 1) l → Gd l) : ∀ (d : Nat) (l1 m l2 : List Ar) (p s : Nat), m.length = d → Ps l1 → Ps m → Ps l2 → 0 < p → 0 < s → Pg (n + 2) (l1 ++ (p, 0) :: (m ++ (0, s) :: l2)) → Gd (l1 ++ (p, 0) :: (m ++ (0, s) :: l2))
  | 0, l1, m, l2, p, s, hm, h1, _, h2, hp, hs, hg => by
    obtain rfl := List.length_eq_zero_iff.1 hm
    exact gd_dest h1 h2 hp hs (IH _ hg.dest)
  | d + 1, l1, m, l2, p, s, hm, h1, hmp, h2, hp, hs, hg => by
    obtain ⟨⟨r, t⟩, m, rfl⟩ : ∃ b m', m = b :: m' := by
      cases m with
      | nil => simp at hm
      | cons b m' => exact ⟨b, m', rfl⟩
    have hm' : m.length = d := by simpa using hm
    have hrt := hmp.head
    obtain ⟨a, q, e⟩ : ∃ a q, m ++ (0, s) :: l2 = a :: q := by
      cases m with
      | nil => exact ⟨_, _, rfl⟩
      | cons b m' => exact ⟨_, _, rfl⟩
    have e0 : l1 ++ (p, 0) :: ((r, t) :: m ++ (0, s) :: l2) = gA l1 q a p r t := by
      show l1 ++ (p, 0) :: (r, t) :: (m ++ (0, s) :: l2) = _
      rw [e]; rfl
    have eB : gB l1 q a p r t = (l1 ++ [(r, t)]) ++ (p, 0) :: (m ++ (0, s) :: l2) := by
      rw [e]; simp [gB]
    have eC : gC l1 q a p r t = (l1 ++ [(p, t)]) ++ (r, 0) :: (m ++ (0, s) :: l2) := by
      rw [e]; simp [gC]
    rw [e0] at hg ⊢
    have hpr : p ≠ r := by
      have := hg.no
      simp only [os, gA, List.map_append, List.map_cons, List.nodup_append, List.nodup_cons, List.mem_cons, not_or] at this
      exact this.2.1.1.1
    refine gd_step hp hrt.1 hrt.2 hpr ?_ ?_
    · have := hg.b
      rw [eB] at this ⊢
      exact gd_left IH d _ m l2 p s hm' (h1.app (Ps.one hrt.1 hrt.2)) hmp.tail h2 hp hs this
    · have := hg.c
      rw [eC] at this ⊢
      exact gd_left IH d _ m l2 r s hm' (h1.app (Ps.one hp hrt.2)) hmp.tail h2 hrt.1 hs this
theorem nd_rest {A B : List Nat} {c : Nat} (h : (A ++ c :: B).Nodup) : ∀ d, d ∈ A ∨ d ∈ B → d ≠ c := by
  simp only [List.nodup_append, List.nodup_cons, List.mem_cons] at h
  rintro d (hd | hd) rfl
  · exact h.2.2 d hd d (.inl rfl) rfl
  · exact h.2.1.1 hd
theorem gd_all : ∀ (n : Nat) (l : List Ar), Pg (n + 1) l → Gd l
  | 0, l, hg => by
    have hl := hg.len
    obtain ⟨⟨u, v⟩, rfl⟩ := List.length_eq_one_iff.1 hl
    have h1 : u ∈ List.range 1 := hg.o.subset (by simp [os])
    have h2 : v ∈ List.range 1 := hg.x.subset (by simp [xs])
    rw [List.mem_range] at h1 h2
    obtain rfl : u = 0 := by omega
    obtain rfl : v = 0 := by omega
    exact gd_one
  | n + 1, l, hg => by
    have IH := gd_all n
    obtain ⟨⟨p, p0⟩, hpm, e0⟩ : ∃ b ∈ l, b.2 = 0 := List.mem_map.1 (hg.x.symm.subset (List.mem_range.2 (by omega)) : 0 ∈ xs l)
    obtain rfl : p0 = 0 := e0
    obtain ⟨A, B, rfl⟩ := List.append_of_mem hpm
    have hx := hg.nx
    have ho := hg.no
    rw [show xs (A ++ (p, 0) :: B) = xs A ++ 0 :: xs B by simp [xs]] at hx
    rw [show os (A ++ (p, 0) :: B) = os A ++ p :: os B by simp [os]] at ho
    have hx := nd_rest hx
    have ho' := nd_rest ho
    have xA : ∀ b ∈ A, 0 < b.2 := fun b hb => Nat.pos_of_ne_zero (hx _ (.inl (List.mem_map_of_mem hb)))
    have xB : ∀ b ∈ B, 0 < b.2 := fun b hb => Nat.pos_of_ne_zero (hx _ (.inr (List.mem_map_of_mem hb)))
    by_cases hp : p = 0
    · subst hp
      exact gd_nil (fun b hb => ⟨Nat.pos_of_ne_zero (ho' _ (.inl (List.mem_map_of_mem hb))), xA b hb⟩) (fun b hb => ⟨Nat.pos_of_ne_zero (ho' _ (.inr (List.mem_map_of_mem hb))), xB b hb⟩) (by rw [hg.len]; omega)
    · have hp : 0 < p := Nat.pos_of_ne_zero hp
      obtain ⟨⟨s0, s⟩, hsm, e1⟩ : ∃ b ∈ A ++ (p, 0) :: B, b.1 = 0 := List.mem_map.1 (hg.o.symm.subset (List.mem_range.2 (by omega)) : 0 ∈ os (A ++ (p, 0) :: B))
      obtain rfl : s0 = 0 := e1
      rcases List.mem_append.1 hsm with h | h
      · have hs := xA _ h
        obtain ⟨A, m, rfl⟩ := List.append_of_mem h
        rw [show os (A ++ (0, s) :: m) ++ p :: os B = os A ++ 0 :: (os m ++ p :: os B) by simp [os]] at ho
        have ho := nd_rest ho
        have hs' := hg.sw
        have e : (A ++ (0, s) :: m ++ (p, 0) :: B).map sw = A.map sw ++ (s, 0) :: (m.map sw ++ (0, p) :: B.map sw) := by simp [sw]
        refine gd_sw (hg.x.trans hg.o.symm) ?_
        rw [e] at hs' ⊢
        have swp : ∀ {C : List Ar}, (∀ b ∈ C, 0 < b.2) → (∀ b ∈ C, 0 < b.1) → Ps (C.map sw) := fun h1 h2 b hb => by
          obtain ⟨c, hc, rfl⟩ := List.mem_map.1 hb
          exact ⟨h1 c hc, h2 c hc⟩
        refine gd_left IH _ _ _ _ s p rfl (swp (fun b hb => xA b (by simp [hb])) fun b hb => Nat.pos_of_ne_zero (ho _ (.inl (List.mem_map_of_mem hb)))) (swp (fun b hb => xA b (by simp [hb])) fun b hb => Nat.pos_of_ne_zero (ho _ (.inr (List.mem_append_left _ (List.mem_map_of_mem hb))))) (swp xB fun b hb => Nat.pos_of_ne_zero (ho _ (.inr (List.mem_append_right _ (List.mem_cons_of_mem _ (List.mem_map_of_mem hb)))))) hs hp hs'
      · have h : (0, s) ∈ B := by
          rcases List.mem_cons.1 h with h | h
          · cases h; omega
          · exact h
        have hs := xB _ h
        obtain ⟨m, B, rfl⟩ := List.append_of_mem h
        rw [show os A ++ p :: os (m ++ (0, s) :: B) = (os A ++ p :: os m) ++ 0 :: os B by simp [os]] at ho
        have ho := nd_rest ho
        exact gd_left IH _ A m B p s rfl (fun b hb => ⟨Nat.pos_of_ne_zero (ho _ (.inl (List.mem_append_left _ (List.mem_map_of_mem hb)))), xA b hb⟩) (fun b hb => ⟨Nat.pos_of_ne_zero (ho _ (.inl (List.mem_append_right _ (List.mem_cons_of_mem _ (List.mem_map_of_mem hb))))), xB b (by simp [hb])⟩) (fun b hb => ⟨Nat.pos_of_ne_zero (ho _ (.inr (List.mem_map_of_mem hb))), xB b (by simp [hb])⟩) hp hs hg

end Go.Proofs

/-
  What the functions of this part hand back: each as a plain function of its arguments. Conditions: none.
-/
namespace Go.Proofs
open Go.W8
set_option linter.unusedVariables false
set_option linter.unusedSimpArgs false
set_option linter.unusedSectionVars false
set_option maxRecDepth 8000
set_option maxHeartbeats 4000000
--@plain
/-- Columns of monomials and zeros. -/
abbrev Oc := Nat → Option Int
def ap (G : Int → Int) : Option Int → Int
  | none => 0
  | some p => G p
def dO : Nat → List Oc → Nat → Cf
  | 0, _, _, e => if e = 0 then 1 else 0
  | m + 1, cs, r, e => ex (fun rest c => ap (fun p => dO m rest (r + 1) (e - p)) (c r)) [] cs
theorem dO_succ (m : Nat) (cs : List Oc) (r : Nat) (e : Int) : dO (m + 1) cs r e = ex (fun rest c => ap (fun p => dO m rest (r + 1) (e - p)) (c r)) [] cs := rfl
def so (c : Cl) : Oc := fun b => some (c b)
theorem dO_so : ∀ (m : Nat) (cs : List Cl) (r : Nat) (e : Int), dO m (cs.map so) r e = dt m cs r e
  | 0, _, _, _ => rfl
  | m + 1, cs, r, e => ex_map (G := fun rest c => ap (fun p => dO m rest (r + 1) (e - p)) (c r)) (H := fun rest c => dt m rest (r + 1) (e - c r)) so (fun rest c => dO_so m rest (r + 1) (e - c r)) cs []
def RelO (J : List (Int × Int × Oc)) : Prop := ∀ (b : Nat) (G : Cf), sumJ J (fun j => j.1 * ap (fun p => G (j.2.1 + p)) (j.2.2 b)) = 0
theorem dO_lin {J : List (Int × Int × Oc)} (hJ : RelO J) : ∀ (m : Nat) (P S : List Oc) (r : Nat) (e : Int), m = P.length + 1 + S.length → sumJ J (fun j => j.1 * dO m (P ++ j.2.2 :: S) r (e - j.2.1)) = 0
  | 0, P, S, r, e, h => by omega
  | m + 1, P, S, r, e, h => by
    have step : ∀ (c : Oc) (A B : List Oc), m = A.length + 1 + B.length → sumJ J (fun j => j.1 * ap (fun p => dO m (A ++ j.2.2 :: B) (r + 1) (e - j.2.1 - p)) (c r)) = 0 := by
      intro c A B hl
      cases c r with
      | none =>
        show sumJ J (fun j => j.1 * 0) = 0
        rw [sumJ_congr J (g := fun _ => 0) fun j => Int.mul_zero _, sumJ_zero]
      | some p =>
        have := dO_lin hJ m A B (r + 1) (e - p) hl
        rw [← this]
        refine sumJ_congr J fun j => ?_
        show j.1 * dO m (A ++ j.2.2 :: B) (r + 1) (e - j.2.1 - p) = _
        rw [show e - j.2.1 - p = e - p - j.2.1 by omega]
    have key : ∀ (P' pre : List Oc), pre ++ P' = P → sumJ J (fun j => j.1 * ex (fun rest c => ap (fun p => dO m rest (r + 1) (e - j.2.1 - p)) (c r)) pre (P' ++ j.2.2 :: S)) = 0 := by
      intro P'
      induction P' with
      | nil =>
        intro pre hp
        rw [List.append_nil] at hp
        subst hp
        have h1 := hJ r fun z => dO m (pre ++ S) (r + 1) (e - z)
        have h2 := ex_behind (J := J) (G := fun j rest c => ap (fun p => dO m rest (r + 1) (e - j.2.1 - p)) (c r)) S pre [] fun s1 c s2 es => by
          have hl : m = pre.length + 1 + (s1 ++ s2).length := by
            rw [es] at h
            simp only [List.length_append, List.length_cons] at h ⊢
            omega
          have := step c pre (s1 ++ s2) hl
          simpa using this
        rw [sumJ_congr J (g := fun j => j.1 * ap (fun p => dO m (pre ++ S) (r + 1) (e - (j.2.1 + p))) (j.2.2 r) - j.1 * ex (fun rest c => ap (fun p => dO m rest (r + 1) (e - j.2.1 - p)) (c r)) (pre ++ j.2.2 :: []) S) fun j => ?_, sumJ_sub, h1, h2]
        · rfl
        · rw [← Int.mul_sub, show (fun p => dO m (pre ++ S) (r + 1) (e - (j.2.1 + p))) = fun p => dO m (pre ++ S) (r + 1) (e - j.2.1 - p) from funext fun p => by rw [show e - (j.2.1 + p) = e - j.2.1 - p by omega]]
          rfl
      | cons c P' ih =>
        intro pre hp
        have h1 := ih (pre ++ [c]) (by rw [← hp]; simp)
        have hl : m = (pre ++ P').length + 1 + S.length := by
          rw [← hp] at h
          simp only [List.length_append, List.length_cons] at h ⊢
          omega
        have h2 := step c (pre ++ P') S hl
        rw [sumJ_congr J (g := fun j => j.1 * ap (fun p => dO m ((pre ++ P') ++ j.2.2 :: S) (r + 1) (e - j.2.1 - p)) (c r) - j.1 * ex (fun rest c => ap (fun p => dO m rest (r + 1) (e - j.2.1 - p)) (c r)) (pre ++ [c]) (P' ++ j.2.2 :: S)) fun j => ?_, sumJ_sub, h1, h2]
        · rfl
        · rw [← Int.mul_sub]
          show j.1 * (ap (fun p => dO m (pre ++ (P' ++ j.2.2 :: S)) (r + 1) (e - j.2.1 - p)) (c r) - _) = _
          rw [List.append_assoc]
          rfl
    exact key P [] rfl
theorem dO_alt (u : Oc) : ∀ (m : Nat) (P S : List Oc) (r : Nat) (e : Int), m = P.length + 2 + S.length → dO m (P ++ u :: u :: S) r e = 0
  | 0, P, S, r, e, h => by omega
  | m + 1, P, S, r, e, h => by
    have step : ∀ (c : Oc) (A B : List Oc), m = A.length + 2 + B.length → ap (fun p => dO m (A ++ u :: u :: B) (r + 1) (e - p)) (c r) = 0 := by
      intro c A B hl
      cases c r with
      | none => rfl
      | some p => exact dO_alt u m A B (r + 1) (e - p) hl
    have key : ∀ (P' pre : List Oc), pre ++ P' = P → ex (fun rest c => ap (fun p => dO m rest (r + 1) (e - p)) (c r)) pre (P' ++ u :: u :: S) = 0 := by
      intro P'
      induction P' with
      | nil =>
        intro pre hp
        rw [List.append_nil] at hp
        subst hp
        have h2 : ex (fun rest c => ap (fun p => dO m rest (r + 1) (e - p)) (c r)) ((pre ++ [u]) ++ [u]) S = 0 := ex_zero fun s1 c s2 es => by
          have hl : m = pre.length + 2 + (s1 ++ s2).length := by
            rw [es] at h
            simp only [List.length_append, List.length_cons] at h ⊢
            omega
          have := step c pre (s1 ++ s2) hl
          simpa using this
        show ap (fun p => dO m (pre ++ u :: S) (r + 1) (e - p)) (u r) - (ap (fun p => dO m ((pre ++ [u]) ++ S) (r + 1) (e - p)) (u r) - ex (fun rest c => ap (fun p => dO m rest (r + 1) (e - p)) (c r)) ((pre ++ [u]) ++ [u]) S) = 0
        rw [h2]
        simp
      | cons c P' ih =>
        intro pre hp
        have h1 := ih (pre ++ [c]) (by rw [← hp]; simp)
        have hl : m = (pre ++ P').length + 2 + S.length := by
          rw [← hp] at h
          simp only [List.length_append, List.length_cons] at h ⊢
          omega
        have h2 := step c (pre ++ P') S hl
        show ap (fun p => dO m (pre ++ (P' ++ u :: u :: S)) (r + 1) (e - p)) (c r) - ex (fun rest c => ap (fun p => dO m rest (r + 1) (e - p)) (c r)) (pre ++ [c]) (P' ++ u :: u :: S) = 0
        rw [h1, ← List.append_assoc, h2]; rfl
    exact key P [] rfl
theorem ex_bound' {α : Type} {G : List α → α → Int} {B : Int} (hB : 0 ≤ B) : ∀ (s pre : List α), (∀ s1 c s2, s = s1 ++ c :: s2 → -B ≤ G (pre ++ s1 ++ s2) c ∧ G (pre ++ s1 ++ s2) c ≤ B) → -(B * (s.length : Int)) ≤ ex G pre s ∧ ex G pre s ≤ B * (s.length : Int)
  | [], pre, _ => by simp [ex]
  | c :: s, pre, h => by
    have h0 := h [] c s rfl
    rw [List.append_nil] at h0
    have h1 := ex_bound' hB s (pre ++ [c]) fun s1 d s2 e => by
      have := h (c :: s1) d s2 (by rw [e]; rfl)
      simpa using this
    have e : B * (((c :: s).length : Nat) : Int) = B * (s.length : Int) + B := by rw [List.length_cons, Int.natCast_succ, Int.mul_add, Int.mul_one]
    show _ ≤ G (pre ++ s) c - ex G (pre ++ [c]) s ∧ G (pre ++ s) c - ex G (pre ++ [c]) s ≤ _
    rw [e]
    omega
theorem dO_bound (N : Nat) : ∀ (m : Nat) (cs : List Oc) (r : Nat) (e : Int), cs.length ≤ N → -((N : Int) ^ m) ≤ dO m cs r e ∧ dO m cs r e ≤ (N : Int) ^ m
  | 0, cs, r, e, _ => by
    show _ ≤ (if e = 0 then (1 : Int) else 0) ∧ (if e = 0 then (1 : Int) else 0) ≤ _
    split <;> simp
  | m + 1, cs, r, e, h => by
    have h0 : (0 : Int) ≤ (N : Int) ^ m := Int.pow_nonneg (Int.natCast_nonneg N)
    have := ex_bound' (G := fun rest c => ap (fun p => dO m rest (r + 1) (e - p)) (c r)) h0 cs [] fun s1 c s2 es => by
      show _ ≤ ap _ (c r) ∧ ap _ (c r) ≤ _
      cases c r with
      | none => show _ ≤ (0 : Int) ∧ (0 : Int) ≤ _; omega
      | some p =>
        refine dO_bound N m _ (r + 1) (e - p) ?_
        rw [es] at h
        simp only [List.length_append, List.length_cons, List.length_nil] at h ⊢
        omega
    rw [Int.pow_succ, dO_succ]
    have h2 : (N : Int) ^ m * (cs.length : Int) ≤ (N : Int) ^ m * (N : Int) := Int.mul_le_mul_of_nonneg_left (by omega) h0
    omega
theorem Fs.ex' {α : Type} {G : Int → List α → α → Int} : ∀ (s pre : List α), (∀ s1 c s2, s = s1 ++ c :: s2 → Fs fun e => G e (pre ++ s1 ++ s2) c) → Fs fun e => ex (G e) pre s
  | [], pre, _ => Fs.zero
  | c :: s, pre, h => by
    have h0 := h [] c s rfl
    rw [List.append_nil] at h0
    have h1 := Fs.ex' s (pre ++ [c]) fun s1 d s2 e => by
      have := h (c :: s1) d s2 (by rw [e]; rfl)
      simpa using this
    exact h0.sub h1
theorem Fs.dO : ∀ (m : Nat) (cs : List Oc) (r : Nat), Fs (dO m cs r)
  | 0, _, _ => Fs.dlt
  | m + 1, cs, r => Fs.ex' (G := fun e rest c => ap (fun p => Go.Proofs.dO m rest (r + 1) (e - p)) (c r)) cs [] fun s1 c s2 es => by
    show Fs fun e => ap (fun p => Go.Proofs.dO m _ (r + 1) (e - p)) (c r)
    cases c r with
    | none => exact Fs.zero
    | some p => exact (Fs.dO m _ (r + 1)).sh (-p)
/-- What is left of a column when its neighbour is taken away and 1 - t divided out. -/
def uC (a : Ar) (v : Cl) : Oc := fun b => if a.1 < b ∧ b ≤ a.2 then some (v b) else if a.2 < b ∧ b ≤ a.1 then some (v b - 1) else none
def sA (a : Ar) : Int := if a.1 < a.2 then -1 else 1
theorem sA_cases (a : Ar) : sA a = 1 ∨ sA a = -1 := by unfold sA; split <;> simp
def uF : Cl → Ar → List Ar → List Oc
  | _, _, [] => []
  | v, a, b :: l => uC a v :: uF (stp a v) b l
theorem uF_len : ∀ (l : List Ar) (a : Ar) (v : Cl), (uF v a l).length = l.length
  | [], _, _ => rfl
  | b :: l, a, v => congrArg (· + 1) (uF_len l b (stp a v))
theorem uC_rel (a : Ar) (v : Cl) : RelO [(1, 0, so (stp a v)), (-1, 0, so v), (-sA a, 0, uC a v), (sA a, 1, uC a v)] := fun b G => by
  simp only [sumJ_cons, sumJ_nil]
  show 1 * G (0 + (v b + hv a.2 b - hv a.1 b)) + (-1 * G (0 + v b) + (-sA a * ap (fun p => G (0 + p)) (uC a v b) + (sA a * ap (fun p => G (1 + p)) (uC a v b) + 0))) = 0
  unfold uC
  by_cases h1 : a.1 < b ∧ b ≤ a.2
  · rw [if_pos h1]
    show 1 * G (0 + (v b + hv a.2 b - hv a.1 b)) + (-1 * G (0 + v b) + (-sA a * G (0 + v b) + (sA a * G (1 + v b) + 0))) = 0
    rw [show hv a.2 b = 1 from if_pos h1.2, show hv a.1 b = 0 from if_neg (by omega), show sA a = -1 from if_pos (by omega), show 0 + (v b + 1 - 0) = 1 + v b by omega]
    omega
  · rw [if_neg h1]
    by_cases h2 : a.2 < b ∧ b ≤ a.1
    · rw [if_pos h2]
      show 1 * G (0 + (v b + hv a.2 b - hv a.1 b)) + (-1 * G (0 + v b) + (-sA a * G (0 + (v b - 1)) + (sA a * G (1 + (v b - 1)) + 0))) = 0
      rw [show hv a.2 b = 0 from if_neg (by omega), show hv a.1 b = 1 from if_pos h2.2, show sA a = 1 from if_neg (by omega), show 0 + (v b + 0 - 1) = 0 + (v b - 1) by omega, show 1 + (v b - 1) = 0 + v b by omega]
      omega
    · rw [if_neg h2]
      show 1 * G (0 + (v b + hv a.2 b - hv a.1 b)) + (-1 * G (0 + v b) + (-sA a * 0 + (sA a * 0 + 0))) = 0
      have : hv a.2 b = hv a.1 b := by
        unfold hv
        by_cases h3 : b ≤ a.2
        · rw [if_pos h3, if_pos (by omega)]
        · rw [if_neg h3, if_neg (by omega)]
      rw [this, show 0 + (v b + hv a.1 b - hv a.1 b) = 0 + v b by omega]
      omega
theorem dO_div : ∀ (l : List Ar) (a : Ar) (v : Cl) (P : List Oc) (m : Nat), m = P.length + 1 + l.length → ∃ σ : Int, (σ = 1 ∨ σ = -1) ∧ ∀ e, dO m (P ++ (clF v (a :: l)).map so) 0 e = σ * itM l.length (dO m (P ++ so v :: uF v a l) 0) e
  | [], a, v, P, m, _ => ⟨1, .inl rfl, fun e => (Int.one_mul _).symm⟩
  | b :: l, a, v, P, m, hm => by
    obtain ⟨σ, hσ, h⟩ := dO_div l b (stp a v) (P ++ [so v]) m (by simp only [List.length_append, List.length_cons, List.length_nil] at hm ⊢; omega)
    have h1 : ∀ e, dO m (P ++ so v :: so (stp a v) :: uF (stp a v) b l) 0 e = sA a * mo (dO m (P ++ so v :: uC a v :: uF (stp a v) b l) 0) e := fun e => by
      have hl := dO_lin (uC_rel a v) m (P ++ [so v]) (uF (stp a v) b l) 0 e (by simp only [List.length_append, List.length_cons, List.length_nil, uF_len] at hm ⊢; omega)
      have ha := dO_alt (so v) m P (uF (stp a v) b l) 0 (e - 0) (by simp only [List.length_cons, uF_len] at hm ⊢; omega)
      simp only [sumJ_cons, sumJ_nil, List.append_assoc, List.cons_append, List.nil_append] at hl
      rw [ha] at hl
      rw [show e - 0 = e by omega] at hl
      unfold mo
      rw [Int.mul_sub]
      rw [Int.neg_mul (sA a)] at hl
      omega
    refine ⟨σ * sA a, by rcases hσ with e | e <;> rcases sA_cases a with e' | e' <;> rw [e, e'] <;> decide, fun e => ?_⟩
    have h2 := h e
    simp only [List.append_assoc, List.cons_append, List.nil_append] at h2
    show dO m (P ++ so v :: (clF (stp a v) (b :: l)).map so) 0 e = σ * sA a * itM (l.length + 1) (dO m (P ++ so v :: uC a v :: uF (stp a v) b l) 0) e
    rw [h2, show dO m (P ++ so v :: so (stp a v) :: uF (stp a v) b l) 0 = fun e => sA a * mo (dO m (P ++ so v :: uC a v :: uF (stp a v) b l) 0) e from funext h1, itM_mul, itM_out, Int.mul_assoc]
    rfl
/-- The determinant of a grid, divided: its numbers are small. -/
theorem dl_div (l : List Ar) (h : l.length ≠ 0) : ∃ Q, Fs Q ∧ (∀ e, dl l e = itM (l.length - 1) Q e) ∧ ∀ e, -((l.length : Int) ^ l.length) ≤ Q e ∧ Q e ≤ (l.length : Int) ^ l.length := by
  obtain ⟨a, l, rfl⟩ : ∃ a l', l = a :: l' := by
    cases l with
    | nil => exact absurd rfl h
    | cons a l' => exact ⟨a, l', rfl⟩
  obtain ⟨σ, hσ, hd⟩ := dO_div l a z0 [] (l.length + 1) (by simp; omega)
  refine ⟨fun e => σ * dO (l.length + 1) ([] ++ so z0 :: uF z0 a l) 0 e, (Fs.dO _ _ _).mul σ, fun e => ?_, fun e => ?_⟩
  · rw [itM_mul]
    show dt (l.length + 1) (clF z0 (a :: l)) 0 e = σ * itM l.length _ e
    rw [← dO_so]
    exact hd e
  · have hb := dO_bound (l.length + 1) (l.length + 1) ([] ++ so z0 :: uF z0 a l) 0 e (by simp [uF_len])
    rw [List.length_cons]
    show _ ≤ σ * _ ∧ σ * _ ≤ _
    rcases hσ with e | e <;> rw [e] <;> omega
theorem cst {M : Cf} {b : Int} (h : ∀ e, e ≤ b → M e = M (e - 1)) : ∀ k : Nat, M b = M (b - (k : Int))
  | 0 => by rw [show b - ((0 : Nat) : Int) = b by omega]
  | k + 1 => by
    rw [cst h k, h _ (by omega), show b - (k : Int) - 1 = b - ((k + 1 : Nat) : Int) by omega]
theorem mo_inj {f g : Cf} (hf : Fs f) (hg : Fs g) (h : ∀ e, mo f e = mo g e) (e : Int) : f e = g e := by
  obtain ⟨N, hN⟩ := hf.sub hg
  have hc := cst (M := fun e => f e - g e) (b := e) (fun e' _ => by
    have := h e'
    unfold mo at this
    show f e' - g e' = f (e' - 1) - g (e' - 1)
    omega) (N + 1 + e.natAbs)
  have h0 : f (e - ((N + 1 + e.natAbs : Nat) : Int)) - g (e - ((N + 1 + e.natAbs : Nat) : Int)) = 0 := hN (e - ((N + 1 + e.natAbs : Nat) : Int)) (by omega)
  have hc : f e - g e = f (e - ((N + 1 + e.natAbs : Nat) : Int)) - g (e - ((N + 1 + e.natAbs : Nat) : Int)) := hc
  omega
theorem Fs.itM {f : Cf} (h : Fs f) : ∀ j, Fs (itM j f)
  | 0 => h
  | j + 1 => (Fs.itM h j).sub ((Fs.itM h j).sh (-1))
theorem itM_inj {f g : Cf} (hf : Fs f) (hg : Fs g) : ∀ (j : Nat), (∀ e, itM j f e = itM j g e) → ∀ e, f e = g e
  | 0, h => h
  | j + 1, h => itM_inj hf hg j fun e => mo_inj (hf.itM j) (hg.itM j) h e
theorem itM_bound {f : Cf} {B : Int} (h : ∀ e, -B ≤ f e ∧ f e ≤ B) : ∀ (j : Nat) (e : Int), -(2 ^ j * B) ≤ itM j f e ∧ itM j f e ≤ 2 ^ j * B
  | 0, e => by have := h e; show _ ≤ f e ∧ f e ≤ _; omega
  | j + 1, e => by
    have h1 := itM_bound h j e
    have h2 := itM_bound h j (e - 1)
    show _ ≤ itM j f e - itM j f (e - 1) ∧ itM j f e - itM j f (e - 1) ≤ _
    have e3 : (2 : Int) ^ (j + 1) * B = 2 ^ j * B + 2 ^ j * B := by rw [Int.pow_succ, Int.mul_comm _ 2, Int.mul_assoc]; omega
    rw [e3]
    omega
/-- A grid: its polynomial with all that is known of it. -/
theorem grid_poly {n : Nat} {l : List Ar} (hg : Pg (n + 1) l) : ∃ (Q : Cf) (s τ : Int), Fs Q ∧ (∀ e, dl l e = itM n Q e) ∧ (∀ e, -(((n + 1 : Nat) : Int) ^ (n + 1)) ≤ Q e ∧ Q e ≤ ((n + 1 : Nat) : Int) ^ (n + 1)) ∧
    (Sg l → On Q ∧ ∀ f g, f + g = s → Q g = τ * Q f) := by
  have hd := gd_all n l hg
  have hl := hg.len
  obtain ⟨Q, fQ, dQ, bQ⟩ := dl_div l (by omega)
  obtain ⟨⟨Q', fQ', dQ', oQ'⟩, sQ, kQ⟩ := hd
  rw [hl] at dQ bQ dQ'
  have dQ : ∀ e, dl l e = itM n Q e := dQ
  have dQ' : ∀ e, dl l e = itM n Q' e := dQ'
  obtain rfl : Q' = Q := funext (itM_inj fQ' fQ n fun e => by rw [← dQ, ← dQ'])
  by_cases hs : Sg l
  · obtain ⟨k, hk⟩ := kQ hs
    refine ⟨Q', -(k + (n : Int)), (-1) ^ n * sgL l, fQ, dQ, bQ, fun _ => ⟨oQ' hs, fun f g hfg => ?_⟩⟩
    have key := itM_inj (f := Q') (g := fun e => ((-1) ^ n * sgL l) * Q' (-(e + (k + (n : Int))))) fQ (Fs.mul (by
      obtain ⟨N, hN⟩ := fQ
      exact ⟨N + (k + (n : Int)).natAbs, fun e he => hN _ (by omega)⟩) _) n (fun e => ?_) g
    · rw [key, show -(g + (k + (n : Int))) = f by omega]
    · rw [itM_mul]
      have h1 := sQ (-(e + k)) e (by omega)
      rw [dQ, dQ, itM_refl] at h1
      have h2 := itM_sh n (fun e => Q' (-e)) (k + (n : Int)) e
      rw [show e + (k + (n : Int)) = e + k + (n : Int) by omega] at h2
      have h3 : itM n (fun e => Q' (-(e + (k + (n : Int))))) e = itM n (fun e => Q' (-e)) (e + k + (n : Int)) := h2
      rw [h3]
      rw [h1, Int.mul_comm (sgL l), Int.mul_assoc, Int.mul_assoc, Int.mul_comm (sgL l)]
  · exact ⟨Q', 0, 0, fQ, dQ, bQ, fun h => absurd h hs⟩

end Go.Proofs

/-
  What the functions of this part hand back: each as a plain function of its arguments. Conditions: none.
-/
namespace Go.Proofs
open Go.W8
set_option linter.unusedVariables false
set_option linter.unusedSimpArgs false
set_option linter.unusedSectionVars false
set_option maxRecDepth 8000
set_option maxHeartbeats 4000000
--@plain
theorem cstu {M : Cf} {b : Int} (h : ∀ e, b < e → M e = M (e - 1)) : ∀ k : Nat, M (b + (k : Int)) = M b
  | 0 => by rw [show b + ((0 : Nat) : Int) = b by omega]
  | k + 1 => by
    rw [h _ (by omega), show b + ((k + 1 : Nat) : Int) - 1 = b + (k : Int) by omega, cstu h k]
theorem coefAt_lt {low : Int} {l : List Int} {e : Int} (h : e < low) : coefAt low l e = 0 := if_neg (by omega)
theorem coefAt_ge {low : Int} {l : List Int} {e : Int} (h : low + (l.length : Int) ≤ e) : coefAt low l e = 0 := by
  unfold coefAt
  split
  · exact getD_far (by omega)
  · rfl
theorem coefAt_in {low : Int} {l : List Int} (i : Nat) : coefAt low l (low + (i : Int)) = l.getD i 0 := by
  unfold coefAt
  rw [if_pos (by omega), show (low + (i : Int) - low).toNat = i by omega]
theorem coefAt_trim' (low : Int) (l : List Int) (e : Int) : coefAt (trimLow low l) (trimL l) e = coefAt low l e := by
  by_cases h : trimL l = []
  · rw [h]
    unfold coefAt
    rw [trim_nil h]
    simp
  · exact coefAt_trim low l h e
theorem qStep_div {p : Int × List Int} {f : Cf} (ff : Fs f) (h : ∀ e, coefAt p.1 p.2 e = mo f e) (hb : ∀ e, coOk (f e) = true) : ∃ q, qStep p = some q ∧ (∀ e, coefAt q.1 q.2 e = f e) ∧ q.2.length ≤ p.2.length := by
  obtain ⟨low, L⟩ := p
  obtain ⟨N, hN⟩ := id ff
  have hlow : ∀ b, b < low → f b = 0 := fun b hb => by
    have h1 := cst (M := f) (b := b) (fun e he => by
      have h2 := h e
      rw [coefAt_lt (by show e < low; omega)] at h2
      unfold mo at h2
      omega) (N + 1 + b.natAbs)
    rw [h1]
    exact hN _ (by omega)
  have hhigh : ∀ b, low + (L.length : Int) - 1 ≤ b → f b = 0 := fun b hb => by
    have h1 := cstu (M := f) (b := b) (fun e he => by
      have h2 := h e
      rw [coefAt_ge (by show low + (L.length : Int) ≤ e; omega)] at h2
      unfold mo at h2
      omega) (N + 1 + b.natAbs)
    rw [← h1]
    exact hN _ (by omega)
  have hps : ∀ k : Nat, psum L k = f (low + (k : Int) - 1) := by
    intro k
    induction k with
    | zero => exact (hlow _ (by omega)).symm
    | succ k ih =>
      show psum L k + L.getD k 0 = _
      have h2 := h (low + (k : Int))
      rw [coefAt_in (low := low)] at h2
      unfold mo at h2
      rw [ih, show low + ((k + 1 : Nat) : Int) - 1 = low + (k : Int) by omega]
      have h2 : L.getD k 0 = f (low + (k : Int)) - f (low + (k : Int) - 1) := h2
      omega
  have hall : (sums L L.length).all coOk = true := by
    rw [all_get]
    intro i hi
    rw [sums_len] at hi
    rw [sums_get hi, hps]
    exact hb _
  refine ⟨(trimLow low (sums L L.length), trimL (sums L L.length)), ?_, fun e => ?_, ?_⟩
  · unfold qStep
    rw [if_pos ⟨by show psum L L.length = 0; rw [hps]; exact hhigh _ (by omega), hall⟩]
  · show coefAt (trimLow low _) (trimL _) e = f e
    rw [coefAt_trim']
    by_cases h1 : e < low
    · rw [coefAt_lt h1, hlow e h1]
    · by_cases h2 : low + (L.length : Int) ≤ e
      · rw [coefAt_ge (by rw [sums_len]; exact h2), hhigh e (by omega)]
      · obtain ⟨i, rfl⟩ : ∃ i : Nat, e = low + (i : Int) := ⟨(e - low).toNat, by omega⟩
        rw [coefAt_in, sums_get (by omega), hps, show low + ((i + 1 : Nat) : Int) - 1 = low + (i : Int) by omega]
  · show (trimL _).length ≤ L.length
    have := trimL_le (sums L L.length)
    rw [sums_len] at this
    exact this
theorem qIter_div {low : Int} {L : List Int} {Q : Cf} {B : Int} {j : Nat} (fQ : Fs Q) (h : ∀ e, coefAt low L e = itM j Q e) (hB : ∀ e, -B ≤ Q e ∧ Q e ≤ B) (hj : 2 ^ j * B ≤ 1000000000000) :
    ∀ k, k ≤ j → ∃ q, qIter (low, L) k = some q ∧ (∀ e, coefAt q.1 q.2 e = itM (j - k) Q e) ∧ q.2.length ≤ L.length
  | 0, _ => ⟨(low, L), rfl, h, Nat.le_refl _⟩
  | k + 1, hk => by
    obtain ⟨q, h1, h2, h3⟩ := qIter_div fQ h hB hj k (by omega)
    have e : itM (j - k) Q = mo (itM (j - (k + 1)) Q) := by
      rw [show j - k = j - (k + 1) + 1 by omega]; rfl
    rw [e] at h2
    have h0 : 0 ≤ B := by have := hB 0; omega
    obtain ⟨q', a1, a2, a3⟩ := qStep_div (fQ.itM (j - (k + 1))) h2 fun e => by
      have hb := itM_bound hB (j - (k + 1)) e
      have hp : (2 : Int) ^ (j - (k + 1)) * B ≤ 2 ^ j * B := by
        refine Int.mul_le_mul_of_nonneg_right ?_ h0
        have : (2 : Nat) ^ (j - (k + 1)) ≤ 2 ^ j := Nat.pow_le_pow_right (by omega) (by omega)
        exact_mod_cast this
      unfold coOk
      rw [decide_eq_true (by omega), decide_eq_true (by omega)]; rfl
    exact ⟨q', by rw [qIter_succ h1, a1], a2, by omega⟩
theorem sumN_split (f : Nat → Int) (a : Nat) : ∀ b, sumN f (a + b) = sumN f a + sumN (fun i => f (a + i)) b
  | 0 => by show sumN f a = sumN f a + 0; omega
  | b + 1 => by
    show sumN f (a + b) + f (a + b) = sumN f a + (sumN (fun i => f (a + i)) b + f (a + b))
    rw [sumN_split f a b]; omega
theorem sumN_rev (f : Nat → Int) : ∀ k, sumN f k = sumN (fun i => f (k - 1 - i)) k
  | 0 => rfl
  | k + 1 => by
    have h := sumN_split (fun i => f (k + 1 - 1 - i)) 1 k
    rw [Nat.add_comm 1 k] at h
    rw [h]
    show sumN f k + f k = (0 + f (k + 1 - 1 - 0)) + sumN (fun i => f (k + 1 - 1 - (1 + i))) k
    rw [sumN_rev f k, sumN_congr (f := fun i => f (k + 1 - 1 - (1 + i))) (g := fun i => f (k - 1 - i)) fun i _ => by show f _ = f _; rw [show k + 1 - 1 - (1 + i) = k - 1 - i by omega], show k + 1 - 1 - 0 = k by omega]
    omega
theorem psum_sumN (l : List Int) : ∀ k, psum l k = sumN (fun i => l.getD i 0) k
  | 0 => rfl
  | k + 1 => by
    show psum l k + _ = sumN _ k + _
    rw [psum_sumN l k]
theorem sq_one {t q : Int} (hq : q ≠ 0) (h : q = t * (t * q)) : t = 1 ∨ t = -1 := by
  have h2 : (t * t - 1) * q = 0 := by rw [Int.sub_mul, Int.mul_assoc]; omega
  rcases Int.mul_eq_zero.1 h2 with h3 | h3
  · have h4 : t.natAbs * t.natAbs = 1 := by
      rw [← Int.natAbs_mul, show t * t = 1 by omega]; rfl
    have := Nat.eq_one_of_mul_eq_one_right h4
    omega
  · exact absurd h3 hq
/-- A list of numbers with this symmetry whose sum is 1 or -1 reads alike from both ends. -/
theorem pal {Q : Cf} {low : Int} {L : List Int} {s τ : Int} (h : ∀ e, coefAt low L e = Q e) (hO : On Q) (hs : ∀ f g, f + g = s → Q g = τ * Q f) (hL : L.length ≠ 0 → L.getD 0 0 ≠ 0 ∧ L.getD (L.length - 1) 0 ≠ 0) :
    ∃ d : Nat, L.length = 2 * d + 1 ∧ ∀ i, i ≤ 2 * d → L.getD (2 * d - i) 0 = L.getD i 0 := by
  obtain ⟨c, R, hc, fR, hR⟩ := hO
  have hsum : psum L L.length = c := by
    let M : Cf := fun e => c * (if 0 ≤ e then 1 else 0) + R e
    have hM : ∀ e, Q e = M e - M (e - 1) := fun e => by
      show Q e = c * (if 0 ≤ e then 1 else 0) + R e - (c * (if 0 ≤ e - 1 then 1 else 0) + R (e - 1))
      rw [hR e]
      unfold dlt
      by_cases h1 : e = 0
      · rw [if_pos h1, if_pos (by omega), if_neg (by omega)]; omega
      · rw [if_neg h1]
        by_cases h2 : 0 ≤ e
        · rw [if_pos h2, if_pos (by omega)]; omega
        · rw [if_neg h2, if_neg (by omega)]; omega
    obtain ⟨N, hN⟩ := fR
    have m0 : M (low - 1) = 0 := by
      rw [cst (M := M) (b := low - 1) (fun e he => by
        have h1 := hM e
        rw [← h e, coefAt_lt (by omega)] at h1
        omega) (N + 1 + (low - 1).natAbs)]
      show c * (if _ then 1 else 0) + R _ = 0
      rw [if_neg (by omega), hN _ (by omega)]; omega
    have m1 : M (low + (L.length : Int) - 1) = c := by
      rw [← cstu (M := M) (b := low + (L.length : Int) - 1) (fun e he => by
        have h1 := hM e
        rw [← h e, coefAt_ge (by omega)] at h1
        omega) (N + 1 + (low + (L.length : Int) - 1).natAbs)]
      show c * (if _ then 1 else 0) + R _ = c
      rw [if_pos (by omega), hN _ (by omega)]; omega
    have key : ∀ k : Nat, psum L k = M (low + (k : Int) - 1) := by
      intro k
      induction k with
      | zero => rw [show low + ((0 : Nat) : Int) - 1 = low - 1 by omega, m0]; rfl
      | succ k ih =>
        show psum L k + L.getD k 0 = _
        rw [ih, ← coefAt_in (low := low), h, hM, show low + ((k + 1 : Nat) : Int) - 1 = low + (k : Int) by omega]
        omega
    rw [key, m1]
  have hlen : L.length ≠ 0 := fun h0 => by
    rw [h0] at hsum
    have : (0 : Int) = c := hsum
    omega
  obtain ⟨h0, h1⟩ := hL hlen
  have q0 : Q (low + ((0 : Nat) : Int)) = L.getD 0 0 := by rw [← h, coefAt_in]
  have q1 : Q (low + ((L.length - 1 : Nat) : Int)) = L.getD (L.length - 1) 0 := by rw [← h, coefAt_in]
  have inw : ∀ e, Q e ≠ 0 → low ≤ e ∧ e ≤ low + (L.length : Int) - 1 := fun e he => by
    rw [← h] at he
    refine ⟨Int.not_lt.1 fun h2 => he (coefAt_lt h2), Int.not_lt.1 fun h2 => he (coefAt_ge (by omega))⟩
  have nz : ∀ e, Q e ≠ 0 → Q (s - e) ≠ 0 := fun e he h2 => he (by
    rw [hs (s - e) e (by omega), h2, Int.mul_zero])
  have b0 := inw _ (nz _ (by rw [q0]; exact h0))
  have b1 := inw _ (nz _ (by rw [q1]; exact h1))
  have hτ : τ = 1 ∨ τ = -1 := sq_one (q := Q (low + ((0 : Nat) : Int))) (by rw [q0]; exact h0) (by
    have e1 := hs (s - (low + ((0 : Nat) : Int))) (low + ((0 : Nat) : Int)) (by omega)
    have e2 := hs (low + ((0 : Nat) : Int)) (s - (low + ((0 : Nat) : Int))) (by omega)
    rw [e2] at e1
    exact e1)
  have hrev : ∀ i, i < L.length → L.getD (L.length - 1 - i) 0 = τ * L.getD i 0 := fun i hi => by
    rw [← coefAt_in (low := low), ← coefAt_in (low := low) (i := i), h, h]
    exact hs _ _ (by omega)
  have hc0 := hsum
  rw [psum_sumN] at hsum
  have half : ∀ k, ∀ m, L.length = k + m + k → sumN (fun i => L.getD (k + m + i) 0) k = τ * sumN (fun i => L.getD i 0) k := fun k m hk => by
    rw [sumN_rev, ← sumN_mul]
    refine sumN_congr fun i hi => ?_
    rw [← hrev i (by omega), show L.length - 1 - i = k + m + (k - 1 - i) by omega]
  obtain ⟨k, hk⟩ : ∃ k, L.length = k + k ∨ L.length = k + 1 + k := ⟨L.length / 2, by omega⟩
  rcases hk with hk | hk
  · exfalso
    have h2 : sumN (fun i => L.getD (k + i) 0) k = _ := half k 0 (by omega)
    rw [hk, sumN_split] at hsum
    rw [h2] at hsum
    generalize sumN (fun i => L.getD i 0) k = X at *
    rcases hτ with e | e <;> rw [e] at hsum <;> omega
  · have h2 := half k 1 hk
    have hm := hrev k (by omega)
    rw [show L.length - 1 - k = k by omega] at hm
    have hτ1 : τ = 1 := by
      rcases hτ with e | e
      · exact e
      · exfalso
        rw [hk, sumN_split] at hsum
        have hs1 : sumN (fun i => L.getD i 0) (k + 1) = sumN (fun i => L.getD i 0) k + L.getD k 0 := rfl
        rw [h2, hs1] at hsum
        rw [e] at hsum hm
        omega
    refine ⟨k, by omega, fun i hi => ?_⟩
    have := hrev i (by omega)
    rw [hτ1, Int.one_mul, show L.length - 1 - i = 2 * k - i by omega] at this
    exact this

end Go.Proofs

/-
  What the functions of this part hand back: each as a plain function of its arguments. Conditions: none.
-/
namespace Go.Proofs
open Go.W8
set_option linter.unusedVariables false
set_option linter.unusedSimpArgs false
set_option linter.unusedSectionVars false
set_option maxRecDepth 8000
set_option maxHeartbeats 4000000
--@plain
/-- The columns of a set, from k on. -/
def colsF (col : Nat → Cl) (S : Nat → Bool) : Nat → Nat → List Cl
  | _, 0 => []
  | k, j + 1 => if S k then col k :: colsF col S (k + 1) j else colsF col S (k + 1) j
section
variable {col : Nat → Cl} {S : Nat → Bool}
theorem colsF_yes {k j : Nat} (h : S k = true) : colsF col S k (j + 1) = col k :: colsF col S (k + 1) j := by
  show (if _ then _ else _) = _
  rw [if_pos h]
theorem colsF_no {k j : Nat} (h : S k = false) : colsF col S k (j + 1) = colsF col S (k + 1) j := by
  show (if _ then _ else _) = _
  rw [if_neg (by rw [h]; simp)]
theorem colsF_app (i : Nat) : ∀ (j k : Nat), colsF col S k (j + i) = colsF col S k j ++ colsF col S (k + j) i
  | 0, k => by rw [Nat.zero_add]; rfl
  | j + 1, k => by
    rw [show j + 1 + i = (j + i) + 1 by omega]
    cases h : S k with
    | true => rw [colsF_yes h, colsF_yes h, colsF_app i j (k + 1), show k + 1 + j = k + (j + 1) by omega]; rfl
    | false => rw [colsF_no h, colsF_no h, colsF_app i j (k + 1), show k + 1 + j = k + (j + 1) by omega]
theorem colsF_congr {S' : Nat → Bool} : ∀ (j k : Nat), (∀ a, k ≤ a → a < k + j → S a = S' a) → colsF col S k j = colsF col S' k j
  | 0, _, _ => rfl
  | j + 1, k, h => by
    have ih := colsF_congr j (k + 1) fun a h1 h2 => h a (by omega) (by omega)
    have h0 := h k (Nat.le_refl _) (by omega)
    cases hk : S k with
    | true => rw [colsF_yes hk, colsF_yes (h0 ▸ hk), ih]
    | false => rw [colsF_no hk, colsF_no (h0 ▸ hk), ih]
theorem colsF_rem {n a : Nat} (ha : a < n) : colsF col S 0 a ++ colsF col S (a + 1) (n - 1 - a) = colsF col (rem S a) 0 n := by
  have e : n = a + (1 + (n - 1 - a)) := by omega
  have h1 : colsF col (rem S a) 0 n = colsF col (rem S a) 0 a ++ colsF col (rem S a) (0 + a) (1 + (n - 1 - a)) := by
    rw [← colsF_app, ← e]
  rw [h1, colsF_app (n - 1 - a) 1 (0 + a)]
  have hne : ∀ b, b ≠ a → S b = rem S a b := fun b hb => by
    rw [rem_at, beq_eq_false_iff_ne.2 hb]; simp
  rw [colsF_congr (S' := rem S a) a 0 (fun b _ hb => hne b (by omega)), colsF_congr (S' := rem S a) (n - 1 - a) (a + 1) (fun b hb _ => hne b (by omega))]
  have h0 : colsF col (rem S a) (0 + a) 1 = [] := by
    rw [Nat.zero_add, colsF_no (by simp [rem_at])]; rfl
  rw [h0, show 0 + a + 1 = a + 1 by omega]; rfl
theorem colsF_ex (G : List Cl → Cl → Int) : ∀ (j k : Nat) (pre : List Cl), ex G pre (colsF col S k j) = sumN (fun i => if S (k + i) then sg (cb S (k + i) - cb S k) * G (pre ++ colsF col S k i ++ colsF col S (k + i + 1) (j - 1 - i)) (col (k + i)) else 0) j
  | 0, _, _ => rfl
  | j + 1, k, pre => by
    have hs := sumN_split (fun i => if S (k + i) then sg (cb S (k + i) - cb S k) * G (pre ++ colsF col S k i ++ colsF col S (k + i + 1) (j + 1 - 1 - i)) (col (k + i)) else 0) 1 j
    rw [Nat.add_comm 1 j] at hs
    rw [hs]
    have h0 : ∀ f : Nat → Int, sumN f 1 = f 0 := fun f => by show 0 + f 0 = f 0; omega
    rw [h0]
    rcases Bool.eq_false_or_eq_true (S k) with hk | hk
    · have hcb : cb S (k + 1) = cb S k + 1 := by show cb S k + _ = _; rw [if_pos hk]
      rw [colsF_yes hk]
      show G (pre ++ colsF col S (k + 1) j) (col k) - ex G (pre ++ [col k]) (colsF col S (k + 1) j) = _
      rw [colsF_ex G j (k + 1) (pre ++ [col k])]
      have e1 : (if S (k + 0) = true then sg (cb S (k + 0) - cb S k) * G (pre ++ colsF col S k 0 ++ colsF col S (k + 0 + 1) (j + 1 - 1 - 0)) (col (k + 0)) else 0) = G (pre ++ colsF col S (k + 1) j) (col k) := by
        rw [Nat.add_zero, if_pos hk, Nat.sub_self, show j + 1 - 1 - 0 = j by omega]
        show sg 0 * G (pre ++ [] ++ _) _ = _
        rw [List.append_nil, show sg 0 = 1 from rfl, Int.one_mul]
      rw [e1]
      have e2 : sumN (fun i => if S (k + (1 + i)) then sg (cb S (k + (1 + i)) - cb S k) * G (pre ++ colsF col S k (1 + i) ++ colsF col S (k + (1 + i) + 1) (j + 1 - 1 - (1 + i))) (col (k + (1 + i))) else 0) j = -1 * sumN (fun i => if S (k + 1 + i) then sg (cb S (k + 1 + i) - cb S (k + 1)) * G (pre ++ [col k] ++ colsF col S (k + 1) i ++ colsF col S (k + 1 + i + 1) (j - 1 - i)) (col (k + 1 + i)) else 0) j := by
        rw [← sumN_mul]
        refine sumN_congr fun i hi => ?_
        have hm := cb_mono S (show k + 1 ≤ k + 1 + i by omega)
        rw [show k + (1 + i) = k + 1 + i by omega]
        by_cases h1 : S (k + 1 + i) = true
        · rw [if_pos h1, if_pos h1, show cb S (k + 1 + i) - cb S k = cb S (k + 1 + i) - cb S (k + 1) + 1 by omega, sg_succ, show 1 + i = i + 1 by omega, colsF_yes hk, show j + 1 - 1 - (i + 1) = j - 1 - i by omega]
          simp only [List.append_assoc, List.cons_append, List.nil_append, Int.neg_mul, Int.one_mul]
        · rw [if_neg h1, if_neg h1]; rfl
      rw [e2]
      omega
    · have hcb : cb S (k + 1) = cb S k := by show cb S k + _ = _; rw [if_neg (by rw [hk]; simp)]; rfl
      rw [colsF_no hk, colsF_ex G j (k + 1) pre]
      have e1 : (if S (k + 0) = true then sg (cb S (k + 0) - cb S k) * G (pre ++ colsF col S k 0 ++ colsF col S (k + 0 + 1) (j + 1 - 1 - 0)) (col (k + 0)) else 0) = 0 := by
        rw [Nat.add_zero, if_neg (by rw [hk]; simp)]
      rw [e1, Int.zero_add]
      refine sumN_congr fun i hi => ?_
      rw [show k + (1 + i) = k + 1 + i by omega]
      by_cases h1 : S (k + 1 + i) = true
      · rw [if_pos h1, if_pos h1, hcb, show 1 + i = i + 1 by omega, colsF_no hk, show j + 1 - 1 - (i + 1) = j - 1 - i by omega]
      · rw [if_neg h1, if_neg h1]
end
/-- The determinant over a set of columns is the one over the list of its columns. -/
theorem dA_dt (n : Nat) (w : Nat → Nat → Int) : ∀ (m r : Nat) (S : Nat → Bool) (e : Int), dA n w m r S e = dt m (colsF (fun a b => - w b a) S 0 n) r e
  | 0, _, _, _ => rfl
  | m + 1, r, S, e => by
    rw [dt_succ, colsF_ex]
    show sumN _ n = _
    refine sumN_congr fun a ha => ?_
    rw [Nat.zero_add]
    by_cases h : S a = true
    · rw [if_pos h, if_pos h, show cb S 0 = 0 from rfl, Nat.sub_zero, List.nil_append, colsF_rem ha, dA_dt n w m (r + 1) (rem S a), show e - - w r a = e + w r a by omega]
    · rw [if_neg h, if_neg h]
/-- The arrows of a grid. -/
def arr (X O : Nat → Nat) : Nat → Nat → List Ar
  | _, 0 => []
  | k, j + 1 => (X k, O k) :: arr X O (k + 1) j
def vv (X O : Nat → Nat) : Nat → Cl
  | 0 => z0
  | a + 1 => stp (X a, O a) (vv X O a)
section
variable (X O : Nat → Nat)
theorem arr_len : ∀ j k, (arr X O k j).length = j
  | 0, _ => rfl
  | j + 1, k => congrArg (· + 1) (arr_len j (k + 1))
theorem arr_mem {a : Ar} : ∀ {j k}, a ∈ arr X O k j ↔ ∃ i, k ≤ i ∧ i < k + j ∧ a = (X i, O i)
  | 0, k => by
    constructor
    · intro h; cases h
    · rintro ⟨i, h1, h2, _⟩; omega
  | j + 1, k => by
    show a ∈ (X k, O k) :: arr X O (k + 1) j ↔ _
    rw [List.mem_cons, arr_mem]
    constructor
    · rintro (h | ⟨i, h1, h2, h3⟩)
      · exact ⟨k, by omega, by omega, h⟩
      · exact ⟨i, by omega, by omega, h3⟩
    · rintro ⟨i, h1, h2, h3⟩
      by_cases e : i = k
      · subst e; exact .inl h3
      · exact .inr ⟨i, by omega, by omega, h3⟩
theorem arr_os : ∀ j k, os (arr X O k j) = (List.range j).map fun i => X (k + i)
  | 0, _ => rfl
  | j + 1, k => by
    show X k :: os (arr X O (k + 1) j) = _
    rw [arr_os j (k + 1), List.range_succ_eq_map, List.map_cons, List.map_map]
    refine congrArg (X k :: ·) (List.map_congr_left fun i _ => ?_)
    show X (k + 1 + i) = X (k + (i + 1))
    rw [show k + 1 + i = k + (i + 1) by omega]
theorem arr_xs : ∀ j k, xs (arr X O k j) = (List.range j).map fun i => O (k + i)
  | 0, _ => rfl
  | j + 1, k => by
    show O k :: xs (arr X O (k + 1) j) = _
    rw [arr_xs j (k + 1), List.range_succ_eq_map, List.map_cons, List.map_map]
    refine congrArg (O k :: ·) (List.map_congr_left fun i _ => ?_)
    show O (k + 1 + i) = O (k + (i + 1))
    rw [show k + 1 + i = k + (i + 1) by omega]
theorem clF_arr : ∀ j k, clF (vv X O k) (arr X O k j) = colsF (vv X O) (fun _ => true) k j
  | 0, _ => rfl
  | j + 1, k => by
    rw [colsF_yes rfl]
    show vv X O k :: clF (stp (X k, O k) (vv X O k)) (arr X O (k + 1) j) = _
    have := clF_arr j (k + 1)
    rw [← this]
    rfl
theorem dl_arr (n : Nat) (e : Int) : dl (arr X O 0 n) e = dt n (colsF (vv X O) (fun _ => true) 0 n) 0 e := by
  unfold dl
  rw [arr_len, ← clF_arr]
  rfl
end
theorem map_perm {n : Nat} {f : Nat → Nat} (hf : ∀ i, i < n → f i < n) (hi : ∀ i, i < n → ∀ j, j < n → f i = f j → i = j) (hs : ∀ j, j < n → ∃ i, i < n ∧ f i = j) : ((List.range n).map f).Perm (List.range n) := by
  have hnd : ((List.range n).map f).Nodup := by
    unfold List.Nodup
    rw [List.pairwise_map]
    refine List.Pairwise.imp_of_mem ?_ (List.nodup_range (n := n))
    intro a b ha hb hab he
    exact hab (hi a (List.mem_range.1 ha) b (List.mem_range.1 hb) he)
  refine (List.perm_ext_iff_of_nodup hnd List.nodup_range).2 fun b => ?_
  rw [List.mem_map, List.mem_range]
  constructor
  · rintro ⟨i, h1, rfl⟩; exact hf i (List.mem_range.1 h1)
  · intro h
    obtain ⟨i, h1, h2⟩ := hs b h
    exact ⟨i, List.mem_range.2 h1, h2⟩
theorem dt_far : ∀ (m : Nat) (ps : List (Cl × Nat)) (r : Nat) (e : Int), m = ps.length → (∀ p ∈ ps, ∀ b, (p.1 b).natAbs ≤ p.2) → dt m (ps.map (·.1)) r e ≠ 0 → e.natAbs ≤ (ps.map (·.2)).sum
  | 0, ps, r, e, _, _, h => by
    have : e = 0 := Decidable.byContradiction fun h1 => h (if_neg h1)
    omega
  | m + 1, ps, r, e, hm, hp, h => by
    rw [dt_succ] at h
    obtain ⟨s1, c, s2, h1, h2⟩ : ∃ s1 c s2, ps.map (·.1) = s1 ++ c :: s2 ∧ dt m ([] ++ s1 ++ s2) (r + 1) (e - c r) ≠ 0 := by
      apply Classical.byContradiction
      intro hno
      refine h (ex_zero fun s1 c s2 es => Classical.byContradiction fun hne => hno ⟨s1, c, s2, es, hne⟩)
    obtain ⟨p1, q, rfl, rfl, e2⟩ := List.map_eq_append_iff.1 h1
    obtain ⟨p, p2, rfl, rfl, rfl⟩ := List.map_eq_cons_iff.1 e2
    rw [List.nil_append, ← List.map_append] at h2
    have ih := dt_far m (p1 ++ p2) (r + 1) (e - p.1 r) (by simp only [List.length_append, List.length_cons] at hm ⊢; omega) (fun p' hp' => hp p' (by
      rcases List.mem_append.1 hp' with h | h <;> simp [h])) h2
    have hpr := hp p (by simp) r
    simp only [List.map_append, List.map_cons, List.sum_append, List.sum_cons] at ih ⊢
    omega

end Go.Proofs

/-
  What the functions of this part hand back: each as a plain function of its arguments. Conditions: none.
-/
namespace Go.Proofs
open Go.W8
set_option linter.unusedVariables false
set_option linter.unusedSimpArgs false
set_option linter.unusedSectionVars false
set_option maxRecDepth 8000
set_option maxHeartbeats 4000000
section
variable {nx : Nat → Nat} {n : Nat} (hlt : ∀ j, j < n → nx j < n)
include hlt
theorem walk_val1 {c : Int} {g : Nat → Nat} (hg : ∀ j, j < n → g (nx j) = g j) : ∀ (f k : Nat) (l : List Int), k < n → ∀ j, j < n → 0 ≤ (walkC nx c f k l).getD j 0 → 0 ≤ l.getD j 0 ∨ g j = g k
  | 0, _, _, _, _, _, h => .inl h
  | f + 1, k, l, hk, j, hj, h => by
    by_cases h0 : l.getD k 0 < 0
    · rw [walkC_step h0] at h
      rcases walk_val1 hg f (nx k) (l.set k c) (hlt k hk) j hj h with h1 | h1
      · by_cases hkl : k < l.length
        · rw [cgetD_set hkl] at h1
          by_cases e : k = j
          · subst e; exact .inr rfl
          · rw [if_neg e] at h1; exact .inl h1
        · rw [List.set_eq_of_length_le (by omega)] at h1
          exact .inl h1
      · right; rw [h1]; exact hg k hk
    · rw [walkC_end h0] at h; exact .inl h
theorem comp_vals1 {g : Nat → Nat} (hg : ∀ j, j < n → g (nx j) = g j) : ∀ i, i ≤ n → ∃ L : List Nat, L.length = (compTo nx i).2 ∧ ∀ j, j < n → 0 ≤ (compTo nx i).1.getD j 0 → j < 8 → g j ∈ L
  | 0, _ => ⟨[], rfl, fun j hj h h8 => by
    have : (compTo nx 0).1.getD j 0 = -1 := by
      show (List.replicate 8 (-1 : Int)).getD j 0 = -1
      rw [List.getD_eq_getElem?_getD, List.getElem?_replicate_of_lt h8]; rfl
    omega⟩
  | i + 1, hi => by
    obtain ⟨L, h1, h2⟩ := comp_vals1 hg i (by omega)
    by_cases h0 : 0 ≤ (compTo nx i).1.getD i 0
    · rw [compTo_same h0]; exact ⟨L, h1, h2⟩
    · rw [compTo_more h0]
      refine ⟨g i :: L, by simp [h1], fun j hj h h8 => ?_⟩
      rcases walk_val1 hlt hg 8 i (compTo nx i).1 (by omega) j hj h with h3 | h3
      · exact List.mem_cons_of_mem _ (h2 j hj h3 h8)
      · rw [h3]; exact List.mem_cons_self ..
/-- One component: what is alike along the way is alike everywhere. -/
theorem comp_one (hn : n ≤ 8) {g : Nat → Nat} (hg : ∀ j, j < n → g (nx j) = g j) (h1 : (compTo nx n).2 = 1) {i j : Nat} (hi : i < n) (hj : j < n) : g i = g j := by
  obtain ⟨L, h2, h3⟩ := comp_vals1 hlt hg n (Nat.le_refl _)
  rw [h1] at h2
  obtain ⟨v, rfl⟩ := List.length_eq_one_iff.1 h2
  have a := List.mem_singleton.1 (h3 i hi (compTo_done nx n hn i hi) (by omega))
  have b := List.mem_singleton.1 (h3 j hj (compTo_done nx n hn j hj) (by omega))
  rw [a, b]
end
/-- The rows of a grid's signs as numbers from 0 on. -/
def rwN (x : List Int) (i : Nat) : Nat := (x.getD i 0).toNat
theorem rwN_pos {x : List Int} (hx : Bytes8 x) (i : Nat) : x.getD i 0 = (rwN x i : Int) := by
  unfold rwN
  by_cases h : i < 8
  · have := bytes_get hx h; omega
  · rw [getD_far (by rw [hx.len]; omega)]; rfl
section
variable {n : Nat} {x o : List Int} (hx : Bytes8 x) (ho : Bytes8 o) (hn : n ≤ 8) (hp : IsPerm x n) (hq : IsPerm o n)
include hx hp
theorem rwN_lt : ∀ i, i < n → rwN x i < n := fun i hi => by
  have := hp.1 i hi
  rw [rwN_pos hx] at this
  omega
theorem rwN_inj : ∀ i, i < n → ∀ j, j < n → rwN x i = rwN x j → i = j := fun i hi j hj h => by
  rcases Nat.lt_trichotomy i j with h2 | h2 | h2
  · exact absurd (by rw [rwN_pos hx, rwN_pos hx, h]) (hp.2.1 j hj i h2)
  · exact h2
  · exact absurd (by rw [rwN_pos hx, rwN_pos hx, h]) (hp.2.1 i hi j h2)
theorem rwN_perm : ((List.range n).map (rwN x)).Perm (List.range n) := map_perm (rwN_lt hx hp) (rwN_inj hx hp) (inj_surj n _ (rwN_lt hx hp) (rwN_inj hx hp))
include ho hq
theorem arr_pg : Pg n (arr (rwN x) (rwN o) 0 n) := by
  have e : ∀ f : Nat → Nat, (fun i => f (0 + i)) = f := fun f => funext fun i => by rw [Nat.zero_add]
  refine ⟨?_, ?_⟩
  · rw [arr_os, e]; exact rwN_perm hx hp
  · rw [arr_xs, e]; exact rwN_perm ho hq
include hn
theorem knot_sg (hc : (comps n x o).2 = 1) : Sg (arr (rwN x) (rwN o) 0 n) := by
  have hnx : ∀ k, k < n → nextOf n x o k < n ∧ rwN x (nextOf n x o k) = rwN o k := fun k hk => by
    have c2 := hq.1 k hk
    have c3 := bytes_get ho (i := k) (by omega)
    have h := rowOf_lt (fun i hi => (bytes_get hx (by omega)).1) hp c3.1 c2
    refine ⟨h.1, ?_⟩
    have h2 := h.2
    rw [rwN_pos hx, rwN_pos ho] at h2
    have h3 : (rwN x (nextOf n x o k) : Int) = (rwN o k : Int) := by
      unfold nextOf
      rw [rwN_pos ho]
      exact h2
    omega
  have hni : ∀ i, i < n → ∀ j, j < n → nextOf n x o i = nextOf n x o j → i = j := fun i hi j hj h => by
    have a := (hnx i hi).2
    have b := (hnx j hj).2
    rw [h, b] at a
    exact (rwN_inj ho hq j hj i hi a).symm
  intro S hne hcl
  classical
  have hT : ∀ k, k < n → S (rwN x k) → S (rwN x (nextOf n x o k)) := fun k hk h => by
    rw [(hnx k hk).2]
    exact hcl (rwN x k, rwN o k) ((arr_mem _ _).2 ⟨k, by omega, by omega, rfl⟩) h
  have hTr : ∀ k, k < n → S (rwN x (nextOf n x o k)) → S (rwN x k) := fun k hk h => by
    obtain ⟨i, hi, hfi⟩ := inj_surj n (fun i => if S (rwN x i) then nextOf n x o i else i) (fun i hi => by
      show (if _ then _ else _) < n
      split
      · exact (hnx i hi).1
      · exact hi) (fun i hi j hj h => by
      have h : (if S (rwN x i) then nextOf n x o i else i) = if S (rwN x j) then nextOf n x o j else j := h
      split at h
      · rename_i h1
        split at h
        · exact hni i hi j hj h
        · rename_i h2
          exact absurd (h ▸ hT i hi h1) h2
      · rename_i h1
        split at h
        · rename_i h2
          exact absurd (h ▸ hT j hj h2) h1
        · exact h) (nextOf n x o k) (hnx k hk).1
    have hfi : (if S (rwN x i) then nextOf n x o i else i) = nextOf n x o k := hfi
    split at hfi
    · rename_i h1
      rw [← hni i hi k hk hfi]; exact h1
    · rename_i h1
      rw [hfi] at h1
      exact absurd h h1
  obtain ⟨a, ha, hSa⟩ := hne
  obtain ⟨i, _, hi, rfl⟩ := (arr_mem _ _).1 ha
  intro b hb
  obtain ⟨j, _, hj, rfl⟩ := (arr_mem _ _).1 hb
  have h := comp_one (nx := nextOf n x o) (n := n) (fun k hk => (hnx k hk).1) hn (g := fun k => if S (rwN x k) then 1 else 0) (fun k hk => by
    show (if _ then 1 else 0) = if _ then 1 else 0
    by_cases h1 : S (rwN x k)
    · rw [if_pos h1, if_pos (hT k hk h1)]
    · rw [if_neg h1, if_neg fun h2 => h1 (hTr k hk h2)]) hc (i := i) (j := j) (by omega) (by omega)
  have h : (if S (rwN x i) then 1 else 0) = if S (rwN x j) then 1 else 0 := h
  rw [if_pos hSa] at h
  exact Decidable.byContradiction fun h2 => by
    rw [if_neg h2] at h
    omega
end
/-- How many of some rows are at or above b. -/
def sH (b : Nat) : List Nat → Int
  | [] => 0
  | c :: l => hv c b + sH b l
theorem sH_perm (b : Nat) {l l' : List Nat} (h : l.Perm l') : sH b l = sH b l' := by
  induction h with
  | nil => rfl
  | cons c _ ih => show _ + _ = _ + _; rw [ih]
  | swap c d l => show hv d b + (hv c b + _) = hv c b + (hv d b + _); omega
  | trans _ _ h1 h2 => rw [h1, h2]
theorem fnl_sH (b : Nat) : ∀ (l : List Ar) (v : Cl), fnl v l b = v b + sH b (xs l) - sH b (os l)
  | [], v => by show v b = v b + 0 - 0; omega
  | a :: l, v => by
    show fnl (stp a v) l b = v b + (hv a.2 b + sH b (xs l)) - (hv a.1 b + sH b (os l))
    rw [fnl_sH b l]
    show v b + hv a.2 b - hv a.1 b + _ - _ = _
    omega
theorem vv_fnl (X O : Nat → Nat) : ∀ j k, fnl (vv X O k) (arr X O k j) = vv X O (k + j)
  | 0, _ => rfl
  | j + 1, k => by
    show fnl (stp (X k, O k) (vv X O k)) (arr X O (k + 1) j) = _
    rw [show k + (j + 1) = k + 1 + j by omega, ← vv_fnl X O j (k + 1)]
    rfl
theorem vv_step (X O : Nat → Nat) (k b : Nat) : (vv X O (k + 1) b - vv X O k b).natAbs ≤ 1 := by
  show (vv X O k b + hv (O k) b - hv (X k) b - vv X O k b).natAbs ≤ 1
  unfold hv
  split <;> split <;> omega
theorem vv_move (X O : Nat → Nat) (k b : Nat) : ∀ j, (vv X O (k + j) b - vv X O k b).natAbs ≤ j
  | 0 => by simp
  | j + 1 => by
    have h1 := vv_move X O k b j
    have h2 := vv_step X O (k + j) b
    rw [show k + (j + 1) = k + j + 1 by omega]
    omega
theorem vv_bound {X O : Nat → Nat} {n : Nat} (hg : Pg n (arr X O 0 n)) {a b : Nat} (ha : a ≤ n) : (vv X O a b).natAbs ≤ min a (n - a) := by
  have h0 : vv X O n b = 0 := by
    have h1 := congrFun (vv_fnl X O n 0) b
    rw [Nat.zero_add, fnl_sH, sH_perm b (hg.x.trans hg.o.symm)] at h1
    have : vv X O 0 b = 0 := rfl
    omega
  have h1 := vv_move X O 0 b a
  have h2 := vv_move X O a b (n - a)
  rw [Nat.zero_add] at h1
  rw [show a + (n - a) = n by omega, h0] at h2
  have : vv X O 0 b = 0 := rfl
  omega
theorem cols_map (X O : Nat → Nat) : ∀ j k, colsF (vv X O) (fun _ => true) k j = (List.range j).map fun i => vv X O (k + i)
  | 0, _ => rfl
  | j + 1, k => by
    rw [colsF_yes rfl, cols_map X O j (k + 1), List.range_succ_eq_map, List.map_cons, List.map_map]
    refine congrArg (vv X O k :: ·) (List.map_congr_left fun i _ => ?_)
    show vv X O (k + 1 + i) = vv X O (k + (i + 1))
    rw [show k + 1 + i = k + (i + 1) by omega]
theorem min_sum : ∀ n : Nat, n < 9 → ((List.range n).map fun a => min a (n - a)).sum ≤ 16 := by decide +kernel
/-- A grid's determinant has but few powers. -/
theorem dl_far {X O : Nat → Nat} {n : Nat} (hg : Pg n (arr X O 0 n)) (hn : n ≤ 8) {e : Int} (h : dl (arr X O 0 n) e ≠ 0) : e.natAbs ≤ 16 := by
  rw [dl_arr, cols_map] at h
  have h2 := dt_far n ((List.range n).map fun a => (vv X O (0 + a), min a (n - a))) 0 e (by simp) (fun p hp b => by
    obtain ⟨a, ha, rfl⟩ := List.mem_map.1 hp
    rw [List.mem_range] at ha
    show (vv X O (0 + a) b).natAbs ≤ _
    rw [Nat.zero_add]
    exact vv_bound hg (by omega)) (by rw [List.map_map]; exact h)
  rw [List.map_map] at h2
  exact Nat.le_trans h2 (min_sum n (by omega))

end Go.Proofs

/-
  What the functions of this part hand back: each as a plain function of its arguments. Conditions: none.
-/
namespace Go.Proofs
open Go.W8
set_option linter.unusedVariables false
set_option linter.unusedSimpArgs false
set_option linter.unusedSectionVars false
set_option maxRecDepth 8000
set_option maxHeartbeats 4000000
--@plain
/-- Binomial coefficients, as both sides reckon them. -/
def binR (n : Int) : Nat → Int
  | 0 => 1
  | i + 1 => binR n i * (n - (i : Int)) / ((i : Int) + 1)
theorem binR_bound : ∀ d : Nat, d < 21 → ∀ i : Nat, i < 2 * d + 1 → 0 < binR (2 * (d : Int)) i ∧ binR (2 * (d : Int)) i ≤ 137846528820 := by decide +kernel
theorem binR_sym : ∀ d : Nat, d < 21 → ∀ j : Nat, j < d + 1 → binR (2 * (d : Int)) (d - j) = binR (2 * (d : Int)) (d + j) := by decide +kernel
theorem binR_one : ∀ d : Nat, d < 21 → binR (2 * (d : Int)) (2 * d) = 1 := by decide +kernel
/-- What is left when the power k has been taken away. -/
def cwV (k : Nat) (L : List Int) (j : Nat) : Int := L.getD j 0 - L.getD k 0 * (sg (k - j) * binR (2 * (k : Int)) (k + j))
def cwP (k : Nat) (L : List Int) (t : Nat) : List Int := (List.range L.length).map fun j => if j < t then cwV k L j else L.getD j 0
def cwN (k : Nat) (L : List Int) : List Int := cwP k L (k + 1)
def cwOk (k : Nat) (L : List Int) : Prop := ∀ j, j ≤ k → coOk (cwV k L j) = true
instance (k : Nat) (L : List Int) : Decidable (cwOk k L) := by unfold cwOk; exact inferInstance
def cwK : Nat → List Int → List Int → Option (List Int)
  | 0, _, out => some out
  | k + 1, L, out => if cwOk k L then cwK k (cwN k L) (out.set k (L.getD k 0)) else none
theorem map_get {n : Nat} {f : Nat → Int} {i : Nat} (h : i < n) : ((List.range n).map f).getD i 0 = f i := by
  rw [List.getD_eq_getElem?_getD, List.getElem?_map, List.getElem?_range h]; rfl
section
variable {k t j : Nat} {L out : List Int}
theorem cwP_len : (cwP k L t).length = L.length := by simp [cwP]
theorem cwN_len : (cwN k L).length = L.length := cwP_len
theorem cwP_get (h : j < L.length) : (cwP k L t).getD j 0 = if j < t then cwV k L j else L.getD j 0 := map_get h
theorem cwP_zero : cwP k L 0 = L := by
  refine getD_ext0 cwP_len fun j hj => ?_
  rw [cwP_len] at hj
  rw [cwP_get hj, if_neg (by omega)]
theorem cwP_set (h : t < L.length) : (cwP k L t).set t (cwV k L t) = cwP k L (t + 1) := by
  refine getD_ext0 (by simp [cwP_len]) fun j hj => ?_
  rw [List.length_set, cwP_len] at hj
  rw [getD_set0 (by rw [cwP_len]; exact h), cwP_get hj, cwP_get hj]
  by_cases e : t = j
  · subst e; rw [if_pos rfl, if_pos (by omega)]
  · rw [if_neg e]
    by_cases h2 : j < t
    · rw [if_pos h2, if_pos (by omega)]
    · rw [if_neg h2, if_neg (by omega)]
theorem cwP_same (h : L.getD k 0 = 0) : cwP k L t = L := by
  refine getD_ext0 cwP_len fun j hj => ?_
  rw [cwP_len] at hj
  rw [cwP_get hj]
  unfold cwV
  rw [h, Int.zero_mul, Int.sub_zero]
  split <;> rfl
theorem cwK_yes (h : cwOk k L) : cwK (k + 1) L out = cwK k (cwN k L) (out.set k (L.getD k 0)) := by
  show (if _ then _ else _) = _
  rw [if_pos h]
theorem cwK_no (h : ¬ cwOk k L) : cwK (k + 1) L out = none := by
  show (if _ then _ else _) = _
  rw [if_neg h]
theorem set_same0 (h : out.getD k 0 = 0) : out.set k 0 = out := by
  refine getD_ext0 (by simp) fun j hj => ?_
  rw [List.length_set] at hj
  by_cases hk : k < out.length
  · rw [getD_set0 hk]
    split
    · rename_i e; rw [← e, h]
    · rfl
  · rw [List.set_eq_of_length_le (by omega)]
theorem cwK_skip (h : L.getD k 0 = 0) (hc : ∀ j, coOk (L.getD j 0) = true) (ho : out.getD k 0 = 0) : cwK (k + 1) L out = cwK k L out := by
  rw [cwK_yes]
  · rw [h, set_same0 ho]
    unfold cwN
    rw [cwP_same h]
  · intro j _
    unfold cwV
    rw [h, Int.zero_mul, Int.sub_zero]
    exact hc j
theorem cwK_skips (hc : ∀ j, coOk (L.getD j 0) = true) {d' : Nat} : ∀ {d : Nat}, d' ≤ d → (∀ j, d' ≤ j → j < d → L.getD j 0 = 0 ∧ out.getD j 0 = 0) → cwK d L out = cwK d' L out
  | 0, h, _ => by have : d' = 0 := by omega
                  rw [this]
  | d + 1, h, hz => by
    by_cases e : d' = d + 1
    · rw [e]
    · rw [cwK_skip (hz d (by omega) (by omega)).1 hc (hz d (by omega) (by omega)).2]
      exact cwK_skips hc (by omega) fun j h1 h2 => hz j h1 (by omega)
theorem find_top (L : List Int) : ∀ d : Nat, (∀ j, j < d → L.getD j 0 = 0) ∨ ∃ d', d' < d ∧ L.getD d' 0 ≠ 0 ∧ ∀ j, d' < j → j < d → L.getD j 0 = 0
  | 0 => .inl fun j h => absurd h (Nat.not_lt_zero _)
  | d + 1 => by
    by_cases h : L.getD d 0 = 0
    · rcases find_top L d with h1 | ⟨d', h1, h2, h3⟩
      · refine .inl fun j hj => ?_
        rcases Nat.lt_succ_iff_lt_or_eq.1 hj with h2 | rfl
        · exact h1 j h2
        · exact h
      · refine .inr ⟨d', by omega, h2, fun j hj1 hj2 => ?_⟩
        rcases Nat.lt_succ_iff_lt_or_eq.1 hj2 with h4 | rfl
        · exact h3 j hj1 h4
        · exact h
    · exact .inr ⟨d, Nat.lt_succ_self d, h, fun j h1 h2 => absurd h2 (by omega)⟩
theorem cwN_ok (h : cwOk k L) (hc : ∀ j, coOk (L.getD j 0) = true) (j : Nat) : coOk ((cwN k L).getD j 0) = true := by
  by_cases hj : j < L.length
  · unfold cwN
    rw [cwP_get hj]
    split
    · exact h j (by omega)
    · exact hc j
  · rw [getD_far (by rw [cwN_len]; omega)]; rfl
end
/-- A polynomial that reads alike from both ends. -/
def symL (d : Nat) (L : List Int) : List Int := (List.range (2 * d + 1)).map fun i => L.getD (if i ≤ d then d - i else i - d) 0
section
variable {d d' k : Nat} {L : List Int}
theorem symL_len : (symL d L).length = 2 * d + 1 := by simp [symL]
theorem symL_get {i : Nat} (h : i < 2 * d + 1) : (symL d L).getD i 0 = L.getD (if i ≤ d then d - i else i - d) 0 := map_get h
theorem sg_mod (i : Nat) : (1 : Int) - 2 * ((i : Int) % 2) = sg i := by
  unfold sg
  split <;> omega
theorem sg_even {i j : Nat} (h : i % 2 = j % 2) : sg i = sg j := by unfold sg; rw [h]
theorem symL_step (hk : k < 21) (hl : k < L.length) {i : Nat} (hi : i < 2 * k + 1) : (symL k L).getD i 0 - L.getD k 0 * (binR (2 * (k : Int)) i * (1 - 2 * ((i : Int) % 2))) = (symL k (cwN k L)).getD i 0 := by
  rw [symL_get hi, symL_get hi, sg_mod]
  unfold cwN
  by_cases h : i ≤ k
  · rw [if_pos h, cwP_get (by omega), if_pos (by omega)]
    unfold cwV
    rw [show k - (k - i) = i by omega, ← binR_sym k hk (k - i) (by omega), show k - (k - i) = i by omega, Int.mul_comm (sg i)]
  · rw [if_neg h, cwP_get (by omega), if_pos (by omega)]
    unfold cwV
    rw [sg_even (i := k - (i - k)) (j := i) (by omega), show k + (i - k) = i by omega, Int.mul_comm (sg i)]
theorem coefAt_sym (e : Int) : coefAt (-(d : Int)) (symL d L) e = if e.natAbs ≤ d then L.getD e.natAbs 0 else 0 := by
  unfold coefAt
  by_cases h : e.natAbs ≤ d
  · rw [if_pos h, if_pos (by omega), symL_get (by omega)]
    congr 1
    split <;> omega
  · rw [if_neg h]
    split
    · exact getD_far (by rw [symL_len]; omega)
    · rfl
theorem trim_sym_zero (h : ∀ j, j ≤ d → L.getD j 0 = 0) : trimLow (-(d : Int)) (symL d L) = 0 ∧ trimL (symL d L) = [] := by
  have := trim_eq (low := -(d : Int)) (low' := 0) (l := symL d L) (l' := []) fun e => by
    rw [coefAt_sym]
    have : coefAt 0 [] e = 0 := by unfold coefAt; split <;> rfl
    rw [this]
    split
    · exact h _ (by assumption)
    · rfl
  exact this
theorem symL_ok (hd : d ≤ 1000) (hn : L.getD d 0 ≠ 0) (hc : ∀ j, coOk (L.getD j 0) = true) : lauOk (-(d : Int)) (symL d L) = true := by
  rw [lauOk_pos (by rw [symL_len]; omega), symL_len]
  have h0 : (symL d L).getD 0 0 ≠ 0 := by rw [symL_get (by omega), if_pos (by omega)]; exact hn
  have h1 : (symL d L).getD (2 * d + 1 - 1) 0 ≠ 0 := by
    rw [symL_get (by omega)]
    split
    · have : d = 0 := by omega
      subst this; exact hn
    · rw [show 2 * d + 1 - 1 - d = d by omega]; exact hn
  have h2 : (symL d L).all coOk = true := by
    rw [all_get]
    intro i hi
    rw [symL_len] at hi
    rw [symL_get hi]
    exact hc _
  rw [h2, beq_eq_false_iff_ne.2 h0, beq_eq_false_iff_ne.2 h1, decide_eq_true (by omega), decide_eq_true (by omega), decide_eq_true (by omega), decide_eq_true (by omega)]
  rfl
theorem trim_sym (hd : d' ≤ d) (hd2 : d ≤ 1000) (hn : L.getD d' 0 ≠ 0) (hz : ∀ j, d' < j → j ≤ d → L.getD j 0 = 0) (hc : ∀ j, coOk (L.getD j 0) = true) : trimLow (-(d : Int)) (symL d L) = -(d' : Int) ∧ trimL (symL d L) = symL d' L := by
  have h1 := trim_eq (low := -(d : Int)) (low' := -(d' : Int)) (l := symL d L) (l' := symL d' L) fun e => by
    rw [coefAt_sym, coefAt_sym]
    by_cases h : e.natAbs ≤ d'
    · rw [if_pos h, if_pos (by omega)]
    · rw [if_neg h]
      split
      · exact hz _ (by omega) (by assumption)
      · rfl
  have h2 := trim_same (symL_ok (by omega) hn hc)
  rw [h1.1, h1.2]
  exact h2
end
/-- Reading alike from both ends. -/
def isSym (low : Int) (l : List Int) : Prop := l.reverse = l ∧ -(low + (l.length : Int) - 1) = low
instance (low : Int) (l : List Int) : Decidable (isSym low l) := by unfold isSym; exact inferInstance
theorem rev_get0 {l : List Int} {i : Nat} (h : i < l.length) : l.reverse.getD i 0 = l.getD (l.length - 1 - i) 0 := by
  rw [List.getD_eq_getElem?_getD, List.getElem?_reverse h, List.getD_eq_getElem?_getD]
theorem sym_form {low : Int} {l : List Int} (h : isSym low l) (h0 : l.length ≠ 0) : ∃ d : Nat, low = -(d : Int) ∧ l.length = 2 * d + 1 ∧ l = symL d (l.drop d) := by
  obtain ⟨h1, h2⟩ := h
  obtain ⟨d, hd⟩ : ∃ d : Nat, low = -(d : Int) := ⟨(-low).toNat, by omega⟩
  have hl : l.length = 2 * d + 1 := by omega
  refine ⟨d, hd, hl, getD_ext0 (by rw [symL_len, hl]) fun i hi => ?_⟩
  rw [symL_get (by omega)]
  have hdr : ∀ j, (l.drop d).getD j 0 = l.getD (d + j) 0 := fun j => by
    rw [List.getD_eq_getElem?_getD, List.getElem?_drop, List.getD_eq_getElem?_getD]
  rw [hdr]
  split
  · have := rev_get0 hi
    rw [h1] at this
    rw [this]
    congr 1
    omega
  · congr 1
    omega
/-- The test before the product. -/
theorem big_no {z c b s : Int} (hz : coOk z = true) (hb : 0 < b) (hs : s = 1 ∨ s = -1) (h : (if 0 - c > c then 0 - c else c) > 2000000000000 / b) : coOk (z - c * (s * b)) = false := by
  have h1 := Int.lt_ediv_add_one_mul_self 2000000000000 hb
  unfold coOk at hz ⊢
  simp only [Bool.and_eq_true, decide_eq_true_eq] at hz
  have hq : 0 ≤ (2000000000000 : Int) / b := Int.ediv_nonneg (by decide) (by omega)
  generalize (2000000000000 : Int) / b = q at *
  have key : ∀ a : Int, a ≥ q + 1 → 2000000000000 < a * b := fun a ha => Int.lt_of_lt_of_le h1 (Int.mul_le_mul_of_nonneg_right ha (by omega))
  have e1 : (0 - c) * b = -(c * b) := by rw [Int.zero_sub, Int.neg_mul]
  have h2 : c * b > 2000000000000 ∨ c * b < -2000000000000 := by
    split at h
    · have := key (0 - c) (by omega); omega
    · have := key c (by omega); omega
  rw [Bool.eq_false_iff]
  intro hh
  simp only [Bool.and_eq_true, decide_eq_true_eq] at hh
  rcases hs with rfl | rfl
  · rw [Int.one_mul] at hh; omega
  · rw [show c * (-1 * b) = -(c * b) by rw [Int.neg_mul, Int.one_mul, Int.mul_neg]] at hh; omega
theorem small_yes {c b : Int} (hb : 0 < b) (h : ¬ (if 0 - c > c then 0 - c else c) > 2000000000000 / b) : -2000000000000 ≤ c * b ∧ c * b ≤ 2000000000000 := by
  have h1 := Int.ediv_mul_le 2000000000000 (show b ≠ 0 by omega)
  generalize (2000000000000 : Int) / b = q at *
  have key : ∀ a : Int, a ≤ q → a * b ≤ 2000000000000 := fun a ha => Int.le_trans (Int.mul_le_mul_of_nonneg_right ha (by omega)) h1
  have e1 : (0 - c) * b = -(c * b) := by rw [Int.zero_sub, Int.neg_mul]
  have h2 := key c (by split at h <;> omega)
  have h3 := key (0 - c) (by split at h <;> omega)
  omega

end Go.Proofs

/-
  What the functions of this part hand back: each as a plain function of its arguments. Conditions: none.
-/
namespace Go.Proofs
open Go.W8
set_option linter.unusedVariables false
set_option linter.unusedSimpArgs false
set_option linter.unusedSectionVars false
set_option maxRecDepth 8000
set_option maxHeartbeats 4000000
theorem vv_wtG {x o : List Int} (hx : Bytes8 x) (ho : Bytes8 o) : (fun a b => - wtG x o b a) = vv (rwN x) (rwN o) := by
  funext a b
  induction a with
  | zero => rfl
  | succ a ih =>
    show -(wnd x o (b : Int) a + wstep x o (b : Int) a) = vv (rwN x) (rwN o) a b + hv (rwN o a) b - hv (rwN x a) b
    have ih : -(wnd x o (b : Int) a) = vv (rwN x) (rwN o) a b := ih
    rw [← ih]
    unfold wstep hv
    rw [rwN_pos hx, rwN_pos ho]
    by_cases h1 : b ≤ rwN x a <;> by_cases h2 : b ≤ rwN o a
    · rw [if_neg (by omega), if_neg (by omega), if_pos h1, if_pos h2]; omega
    · rw [if_pos (by omega), if_pos h1, if_neg h2]; omega
    · rw [if_neg (by omega), if_pos (by omega), if_neg h1, if_pos h2]; omega
    · rw [if_neg (by omega), if_neg (by omega), if_neg h1, if_neg h2]; omega
theorem pow_small : ∀ n : Nat, n < 8 → (2 : Int) ^ n * ((n + 1 : Nat) : Int) ^ (n + 1) ≤ 1000000000000 := by decide +kernel
section
variable {n : Nat} {x o : List Int} (hx : Bytes8 x) (ho : Bytes8 o) (hn : n ≤ 8) (hn2 : 2 ≤ n) (hp : IsPerm x n) (hq : IsPerm o n)
include hx ho hn hn2 hp hq
theorem detC_dl (e : Int) : coefAt (-8 * (n : Int)) (detC n x o) e = dl (arr (rwN x) (rwN o) 0 n) e := by
  have hg := arr_pg hx ho hp hq
  have far : ¬ (-8 * (n : Int) ≤ e ∧ e ≤ 8 * (n : Int)) → dl (arr (rwN x) (rwN o) 0 n) e = 0 := fun h => Decidable.byContradiction fun h1 => by
    have := dl_far hg hn h1
    omega
  by_cases h1 : e < -8 * (n : Int)
  · rw [coefAt_lt h1, far (by omega)]
  · by_cases h2 : -8 * (n : Int) + ((detC n x o).length : Int) ≤ e
    · rw [coefAt_ge h2, far (by rw [detC_len] at h2; omega)]
    · rw [detC_len] at h2
      obtain ⟨i, rfl⟩ : ∃ i : Nat, e = -8 * (n : Int) + (i : Int) := ⟨(e - (-8 * (n : Int))).toNat, by omega⟩
      rw [coefAt_in]
      unfold detC
      rw [cntL_get (by rw [List.length_replicate]; omega), List.getD_eq_getElem?_getD, List.getElem?_replicate]
      have hz : (if i < 16 * n + 1 then some (0 : Int) else none).getD 0 = 0 := by split <;> rfl
      rw [hz, dA_dt, dl_arr, vv_wtG hx ho, show (i : Int) - 0 - 8 * (n : Int) = -8 * (n : Int) + (i : Int) by omega]
      have hS : colsF (vv (rwN x) (rwN o)) (freeS (List.replicate 8 false)) 0 n = colsF (vv (rwN x) (rwN o)) (fun _ => true) 0 n := colsF_congr n 0 fun a _ ha => by
        unfold freeS
        rw [List.getD_eq_getElem?_getD, List.getElem?_replicate]
        split <;> rfl
      rw [hS]
      omega
theorem detL_short (h0 : (detL n x o).length ≠ 0) : (detL n x o).length ≤ 33 := by
  have hok := detL_ok x o hn
  rw [lauOk_pos h0] at hok
  simp only [Bool.and_eq_true, Bool.not_eq_true', beq_eq_false_iff_ne] at hok
  have hc : ∀ i : Nat, (detL n x o).getD i 0 ≠ 0 → (detLow n x o + (i : Int)).natAbs ≤ 16 := fun i hi => by
    refine dl_far (arr_pg hx ho hp hq) hn ?_
    rw [← detC_dl hx ho hn hn2 hp hq, ← coefAt_trim']
    show coefAt (detLow n x o) (detL n x o) _ ≠ 0
    rw [coefAt_in]
    exact hi
  have h1 := hc 0 hok.1.1.2
  have h2 := hc ((detL n x o).length - 1) hok.1.2
  omega
theorem knot_pal (hc : (comps n x o).2 = 1) : ∃ d : Nat, d ≤ 16 ∧ (alQ n x o).2.length = 2 * d + 1 ∧ ∀ i, i ≤ 2 * d → (alQ n x o).2.getD (2 * d - i) 0 = (alQ n x o).2.getD i 0 := by
  have hg := arr_pg hx ho hp hq
  have hsg := knot_sg hx ho hn hp hq hc
  have hdl := detC_dl hx ho hn hn2 hp hq
  have hsh := detL_short hx ho hn hn2 hp hq
  have hok := alQ_ok x o hn
  obtain ⟨m, rfl⟩ : ∃ m, n = m + 1 := ⟨n - 1, by omega⟩
  obtain ⟨Q, s, τ, fQ, dQ, bQ, hQ⟩ := grid_poly hg
  obtain ⟨hO, hs⟩ := hQ hsg
  obtain ⟨q, h1, h2, h3⟩ := qIter_div (low := detLow (m + 1) x o) (L := detL (m + 1) x o) fQ (fun e => by
    show coefAt (trimLow _ _) (trimL _) e = _
    rw [coefAt_trim', hdl, dQ]) bQ (pow_small m (by omega)) m (Nat.le_refl _)
  have hq : alQ (m + 1) x o = q := by
    unfold alQ
    rw [show m + 1 - 1 = m by omega, h1]; rfl
  rw [hq] at hok ⊢
  rw [Nat.sub_self] at h2
  obtain ⟨d, e1, e2⟩ := pal (Q := Q) (low := q.1) (L := q.2) h2 hO hs fun h0 => by
    rw [lauOk_pos h0] at hok
    simp only [Bool.and_eq_true, Bool.not_eq_true', beq_eq_false_iff_ne] at hok
    exact ⟨hok.1.1.2, hok.1.2⟩
  have := hsh (by omega)
  exact ⟨d, by omega, e1, e2⟩
end
/-- What is told of a knot's polynomial: of odd length, alike from both ends. -/
theorem knot_al {s : Int} {x o : List Int} (hx : Bytes8 x) (ho : Bytes8 o) (hg : gridB s x o = true) (hk : knotB s x o = true) : ∃ d : Nat, d ≤ 16 ∧ (alL s.toNat x o).length = 2 * d + 1 ∧ (alL s.toNat x o).reverse = alL s.toNat x o := by
  obtain ⟨n, rfl, hn2, hn, hp, hq⟩ := gridB_perm hg
  unfold knotB at hk
  rw [Int.toNat_natCast] at hk ⊢
  obtain ⟨d, hd, h1, h2⟩ := knot_pal hx ho hn hn2 hp hq (by simpa using hk)
  have hl : (alL n x o).length = 2 * d + 1 := by rw [alL_len, h1]
  refine ⟨d, hd, hl, getD_ext0 (by simp) fun i hi => ?_⟩
  rw [List.length_reverse, hl] at hi
  rw [rev_get0 (by omega), hl, show 2 * d + 1 - 1 - i = 2 * d - i by omega]
  have := h2 i (by omega)
  unfold alL
  split
  · rw [negL_get, negL_get, this]
  · exact this

end Go.Proofs

/-
  What the functions of this part hand back: each as a plain function of its arguments. Conditions: none.
-/
namespace Go.Proofs
open Go.W8
set_option linter.unusedVariables false
set_option linter.unusedSimpArgs false
set_option linter.unusedSectionVars false
set_option maxRecDepth 8000
set_option maxHeartbeats 4000000
def genV (n : Nat) (x o : List Int) : Int := 0 - loL (alL n x o)
theorem loL_odd {l : List Int} {d : Nat} (h : l.length = 2 * d + 1) : loL l = -(d : Int) := by
  unfold loL
  rw [h, show (0 : Int) - (((2 * d + 1 : Nat) : Int) - 1) = -(2 * (d : Int)) by omega, Int.neg_tdiv, Int.tdiv_eq_ediv_of_nonneg (by omega)]
  omega
section
variable (n : Nat) (x o : List Int) (hx : Bytes8 x) (ho : Bytes8 o) (hn : n ≤ 8) (hn2 : 2 ≤ n) (hk : ∃ d : Nat, d ≤ 16 ∧ (alL n x o).length = 2 * d + 1 ∧ (alL n x o).reverse = alL n x o)
include hx ho hn hn2 hk
end
section
variable (s : Int) (x o : List Int) (hx : Bytes8 x) (ho : Bytes8 o)
include hx ho
end

end Go.Proofs

/-
  What the functions of this part hand back: each as a plain function of its arguments. Conditions: none.
-/
namespace Go.Proofs
open Go.W8
set_option linter.unusedVariables false
set_option linter.unusedSimpArgs false
set_option linter.unusedSectionVars false
set_option maxRecDepth 8000
set_option maxHeartbeats 4000000
theorem td6 (a : Int) : ∃ x y, a.tdiv 1000000 = x ∧ a.tmod 1000000 = y ∧ a = x * 1000000 + y ∧ -1000000 < y ∧ y < 1000000 := by
  refine ⟨_, _, rfl, rfl, ?_⟩
  rcases Int.le_total 0 a with h | h
  · rw [Int.tdiv_eq_ediv_of_nonneg h, Int.tmod_eq_emod_of_nonneg h]; omega
  · obtain ⟨b, rfl⟩ : ∃ b, a = -b := ⟨-a, by omega⟩
    rw [Int.neg_tdiv, Int.neg_tmod, Int.tdiv_eq_ediv_of_nonneg (by omega), Int.tmod_eq_emod_of_nonneg (by omega)]; omega
theorem mul_bd {a b A B : Int} (h1 : -A ≤ a ∧ a ≤ A) (h2 : -B ≤ b ∧ b ≤ B) : -(A * B) ≤ a * b ∧ a * b ≤ A * B := by
  have hA : 0 ≤ A := by omega
  have hB : 0 ≤ B := by omega
  have e : (a * b).natAbs ≤ (A * B).natAbs := by
    rw [Int.natAbs_mul, Int.natAbs_mul]
    exact Nat.mul_le_mul (by omega) (by omega)
  have : 0 ≤ A * B := Int.mul_nonneg hA hB
  omega
def exH (l m : List Int) : Nat → Int
  | 0 => 0
  | k + 1 => exH l m k + (l.getD k 0).tdiv 1000000 * (m.getD k 0).tdiv 1000000
def exM (l m : List Int) : Nat → Int
  | 0 => 0
  | k + 1 => exM l m k + (l.getD k 0).tdiv 1000000 * (m.getD k 0).tmod 1000000 + (l.getD k 0).tmod 1000000 * (m.getD k 0).tdiv 1000000
def exL (l m : List Int) : Nat → Int
  | 0 => 0
  | k + 1 => exL l m k + (l.getD k 0).tmod 1000000 * (m.getD k 0).tmod 1000000
def exS (l m : List Int) : Nat → Int
  | 0 => 0
  | k + 1 => exS l m k + l.getD k 0 * m.getD k 0
theorem ex_sum (l m : List Int) : ∀ k, exH l m k * 1000000000000 + exM l m k * 1000000 + exL l m k = exS l m k
  | 0 => rfl
  | k + 1 => by
    have ih := ex_sum l m k
    obtain ⟨x, y, h1, h2, h3, _⟩ := td6 (l.getD k 0)
    obtain ⟨u, v, g1, g2, g3, _⟩ := td6 (m.getD k 0)
    unfold exH exM exL exS
    rw [h1, h2, g1, g2]
    generalize l.getD k 0 = a at *
    generalize m.getD k 0 = b at *
    subst h3 g3
    have e : (x * 1000000 + y) * (u * 1000000 + v) = (x * u) * 1000000000000 + (x * v + y * u) * 1000000 + y * v := by
      rw [Int.add_mul, Int.mul_add, Int.mul_add, show x * 1000000 * (u * 1000000) = (x * u) * 1000000000000 by rw [show (1000000000000 : Int) = 1000000 * 1000000 from rfl, ← Int.mul_assoc, Int.mul_assoc x, Int.mul_comm 1000000 u, ← Int.mul_assoc x, Int.mul_assoc (x * u)],
        show x * 1000000 * v = (x * v) * 1000000 by rw [Int.mul_assoc, Int.mul_comm 1000000 v, ← Int.mul_assoc], show y * (u * 1000000) = (y * u) * 1000000 by rw [Int.mul_assoc], Int.add_mul]
      omega
    rw [e]
    omega
theorem ex_bound {l m : List Int} (h1 : ∀ k, -1000000000000 ≤ l.getD k 0 ∧ l.getD k 0 ≤ 1000000000000) (h2 : ∀ k, -1000000000000 ≤ m.getD k 0 ∧ m.getD k 0 ≤ 1000000000000) : ∀ k : Nat,
    (-(1000000000000 * (k : Int)) ≤ exH l m k ∧ exH l m k ≤ 1000000000000 * (k : Int)) ∧ (-(2000000000000 * (k : Int)) ≤ exM l m k ∧ exM l m k ≤ 2000000000000 * (k : Int)) ∧ (-(1000000000000 * (k : Int)) ≤ exL l m k ∧ exL l m k ≤ 1000000000000 * (k : Int))
  | 0 => by simp [exH, exM, exL]
  | k + 1 => by
    obtain ⟨i1, i2, i3⟩ := ex_bound h1 h2 k
    obtain ⟨x, y, e1, e2, e3, e4, e5⟩ := td6 (l.getD k 0)
    obtain ⟨u, v, g1, g2, g3, g4, g5⟩ := td6 (m.getD k 0)
    have a1 := h1 k
    have a2 := h2 k
    unfold exH exM exL
    rw [e1, e2, g1, g2]
    have p1 := mul_bd (a := x) (b := u) (A := 1000000) (B := 1000000) (by omega) (by omega)
    have p2 := mul_bd (a := x) (b := v) (A := 1000000) (B := 1000000) (by omega) (by omega)
    have p3 := mul_bd (a := y) (b := u) (A := 1000000) (B := 1000000) (by omega) (by omega)
    have p4 := mul_bd (a := y) (b := v) (A := 1000000) (B := 1000000) (by omega) (by omega)
    omega
def exN (S : Int) (H M L : Int) : Int := if -3 ≤ H + (M + L.tdiv 1000000).tdiv 1000000 ∧ H + (M + L.tdiv 1000000).tdiv 1000000 ≤ 3 then S else 0
/-- The sum of products, 0 where it is too large by far. -/
def exV (l m : List Int) : Int := exN (exS l m l.length) (exH l m l.length) (exM l m l.length) (exL l m l.length)
theorem exV_ok {l m : List Int} (h : coOk (exS l m l.length) = true) : exV l m = exS l m l.length := by
  have hs := ex_sum l m l.length
  unfold exV exN
  obtain ⟨x, y, e1, e2, e3, e4, e5⟩ := td6 (exL l m l.length)
  rw [e1]
  obtain ⟨u, v, g1, g2, g3, g4, g5⟩ := td6 (exM l m l.length + x)
  rw [g1]
  unfold coOk at h
  simp only [Bool.and_eq_true, decide_eq_true_eq] at h
  rw [if_pos]
  omega
theorem l04Exact_c (l m : List Int) (R : Rd) (v1 v2 : Value) (h1 : RdS R 1 (ints .i64 l) v1) (h2 : RdS R 1 (ints .i64 m) v2) (hlm : m.length = l.length) (hlen : l.length ≤ 1000)
    (b1 : ∀ k, -1000000000000 ≤ l.getD k 0 ∧ l.getD k 0 ≤ 1000000000000) (b2 : ∀ k, -1000000000000 ≤ m.getD k 0 ∧ m.getD k 0 ≤ 1000000000000) :
    GivesR Try.prog 23 #[v1, v2] R (.tuple #[.int .i64 (exV l m), .bool (coOk (exS l m l.length))]) := by
  obtain ⟨a, q1, cap, rfl, hm1, _⟩ := id h1
  obtain rfl := lauLen hm1
  obtain ⟨a', q2, cap', rfl, hm2, _⟩ := id h2
  obtain rfl := lauLen hm2
  rw [hlm] at h2 ⊢
  refine GivesR.of (callable_of Try.func23 rfl (by decide)) fun w hR => ?_
  refine acall_of (N := 85) (c := _) (rs := [.tmp 4, .tmp 5]) (args := [_, _]) Try.func23 rfl (by decide) rfl rfl (Nat.le_of_ble_eq_true rfl) ?_
  refine Cd.rs [0, 1] fun K hK => ?_
  simp (maxSteps := 2000000) (disch := first | (simp only [E4] <;> omega) | omega | fail) only [↓E2, E3, bare, bareJ, ↓E0, E1, env0, envN, evOps, evOp, evQs, evQ, evV, setD, pureOp, ev, upd, updL, hav, delB, ↓reduceIte, Zj, Zk, Nat.reduceAdd, Nat.reduceLT, Nat.reduceEqDiff, Nat.reduceMul, Nat.reduceLeDiff, if_true, Zn, reduceCtorEq, ZA, eq_self, Int.reduceLE, Int.reduceLT, Int.reduceToNat, ne_eq, Nat.reduceSub]
  repeat refine And.intro (by omega) ?_
  repeat refine And.intro (by omega) ?_
  intro g
  simp only [List.map_cons, List.map_nil, updL, upd, Nat.reduceEqDiff, if_true, if_false, ↓reduceIte]
  refine hK _ _ ?_; clear hK K
  refine Cd.rs [0, 1, 6, 7, 8] fun K hK => ?_
  simp (maxSteps := 2000000) (disch := first | (simp only [E4] <;> omega) | omega | fail) only [↓E2, E3, bare, bareJ, ↓E0, E1, env0, envN, evOps, evOp, evQs, evQ, evV, setD, pureOp, ev, upd, updL, hav, delB, ↓reduceIte, Zj, Zk, Nat.reduceAdd, Nat.reduceLT, Nat.reduceEqDiff, Nat.reduceMul, Nat.reduceLeDiff, if_true, Zn, reduceCtorEq, ZA, eq_self, Int.reduceLE, Int.reduceLT, Int.reduceToNat, ne_eq, Nat.reduceSub]
  repeat refine And.intro (by omega) ?_
  repeat refine And.intro (by omega) ?_
  intro g
  simp only [List.map_cons, List.map_nil, updL, upd, Nat.reduceEqDiff, if_true, if_false, ↓reduceIte]
  refine hK _ _ ?_; clear hK K
  refine Cd.seq ?_
  refine Cd.rs [0, 1, 6, 7, 8, 9] fun K hK => ?_
  simp (maxSteps := 2000000) (disch := first | (simp only [E4] <;> omega) | omega | fail) only [↓E2, E3, bare, bareJ, ↓E0, E1, env0, envN, evOps, evOp, evQs, evQ, evV, setD, pureOp, ev, upd, updL, hav, delB, ↓reduceIte, Zj, Zk, Nat.reduceAdd, Nat.reduceLT, Nat.reduceEqDiff, Nat.reduceMul, Nat.reduceLeDiff, if_true, Zn, reduceCtorEq, ZA, eq_self, Int.reduceLE, Int.reduceLT, Int.reduceToNat, ne_eq, Nat.reduceSub]
  repeat refine And.intro (by omega) ?_
  repeat refine And.intro (by omega) ?_
  intro g
  simp only [List.map_cons, List.map_nil, updL, upd, Nat.reduceEqDiff, if_true, if_false, ↓reduceIte]
  refine hK _ _ ?_; clear hK K
  refine Cd.block ?_
  refine Cd.loop (fun n ρ M => ∃ g k, k + n = l.length ∧ ρ = updL [(0, .slice a l.length cap), (1, .slice a' l.length cap'), (6, .int .i64 (exH l m k)), (7, .int .i64 (exM l m k)), (8, .int .i64 (exL l m k)), (9, .int .i64 (k : Int))] g ∧ M = []) l.length ⟨_, 0, Nat.zero_add _, rfl, rfl⟩ ?_
  rintro n ρ M ⟨g, k, hk, rfl, rfl⟩
  have hbk := ex_bound b1 b2 k
  refine Cd.seq ?_
  refine Cd.rs [0, 1, 6, 7, 8, 9, 18] fun K hK => ?_
  simp (maxSteps := 2000000) (disch := first | (simp only [E4] <;> omega) | omega | fail) only [↓E2, E3, bare, bareJ, ↓E0, E1, env0, envN, evOps, evOp, evQs, evQ, evV, setD, pureOp, ev, upd, updL, binW, eqOp, binV, intOp, shOp, boolOp, lenV, hav, delB, eqL, SameI, strOp, ↓reduceIte, Zj, Zk, Nat.reduceAdd, Nat.reduceLT, Nat.reduceEqDiff, Nat.reduceMul, Nat.reduceLeDiff, if_true, Zn, reduceCtorEq, ZA, eq_self, Int.reduceLE, Int.reduceLT, Int.reduceToNat, ne_eq, Nat.reduceSub, Tslce31]
  repeat refine And.intro (by omega) ?_
  repeat refine And.intro (by omega) ?_
  intro g
  simp only [List.map_cons, List.map_nil, updL, upd, Nat.reduceEqDiff, if_true, if_false, ↓reduceIte]
  refine hK _ _ ?_; clear hK K
  refine Cd.condd rfl (fun c1 => ?_) (fun c1 => ?_)
  · have hbk1 := ex_bound b1 b2 (k + 1)
    have sH : exH l m (k + 1) = exH l m k + (l.getD k 0).tdiv 1000000 * (m.getD k 0).tdiv 1000000 := rfl
    have sM : exM l m (k + 1) = exM l m k + (l.getD k 0).tdiv 1000000 * (m.getD k 0).tmod 1000000 + (l.getD k 0).tmod 1000000 * (m.getD k 0).tdiv 1000000 := rfl
    have sL : exL l m (k + 1) = exL l m k + (l.getD k 0).tmod 1000000 * (m.getD k 0).tmod 1000000 := rfl
    obtain ⟨b, rfl, g1⟩ := rd_int h1 hR (k := k) (by omega)
    obtain ⟨b', rfl, g2⟩ := rd_int h2 hR (k := k) (by omega)
    obtain ⟨x, y, e1, e2, e3, e4, e5⟩ := td6 (l.getD k 0)
    obtain ⟨u, v, f1, f2, f3, f4, f5⟩ := td6 (m.getD k 0)
    have a1 := b1 k
    have a2 := b2 k
    have p1 := mul_bd (a := x) (b := u) (A := 1000000) (B := 1000000) (by omega) (by omega)
    have p2 := mul_bd (a := x) (b := v) (A := 1000000) (B := 1000000) (by omega) (by omega)
    have p3 := mul_bd (a := y) (b := u) (A := 1000000) (B := 1000000) (by omega) (by omega)
    have p4 := mul_bd (a := y) (b := v) (A := 1000000) (B := 1000000) (by omega) (by omega)
    rw [e1, f1] at sH
    rw [e1, e2, f1, f2] at sM
    rw [e2, f2] at sL
    generalize hq1 : x * u = r1 at *
    generalize hq2 : x * v = r2 at *
    generalize hq3 : y * u = r3 at *
    generalize hq4 : y * v = r4 at *
    refine Cd.skip ?_
    refine thenN ?_
    refine Cd.seq ?_
    refine Cd.block ?_
    skip
    refine Cd.qs [0, 1, 6, 7, 8, 9, 10, 11, 12, 13] fol (by kernel_rfl) fun K hK => ?_
    simp (maxSteps := 2000000) (disch := first | (simp only [E4, g1, g2, e1, e2, f1, f2, hq1, hq2, hq3, hq4] <;> omega) | omega | fail) only [↓E2, E3, bare, bareJ, ↓E0, E1, evPlan, env0, envN, evOps, evOp, evQs, evQ, evV, setD, pureOp, ev, upd, updL, binW, eqOp, binV, intOp, shOp, boolOp, indexAddrV, cellAt, cellsAt, findB, hav, delB, eqL, SameI, strOp, ↓reduceIte, Zj, Zk, Nat.reduceAdd, Nat.reduceLT, Nat.reduceEqDiff, Nat.reduceMul, Nat.reduceLeDiff, if_true, Zn, reduceCtorEq, ZA, eq_self, Int.reduceLE, Int.reduceLT, Int.reduceToNat, ne_eq, Nat.reduceSub, Tld2, Tslc31, g1, g2, e1, e2, f1, f2, hq1, hq2, hq3, hq4]
    repeat refine And.intro (by omega) ?_
    repeat refine And.intro (by omega) ?_
    intro g
    simp only [List.map_cons, List.map_nil, updL, upd, Nat.reduceEqDiff, if_true, if_false, ↓reduceIte]
    refine hK _ ?_; clear hK K
    refine Cd.rs [0, 1, 6, 7, 8, 9, 10, 11, 12, 13] fun K hK => ?_
    simp (maxSteps := 2000000) (disch := first | (simp only [E4, g1, g2, e1, e2, f1, f2, hq1, hq2, hq3, hq4] <;> omega) | omega | fail) only [↓E2, E3, bare, bareJ, ↓E0, E1, env0, envN, evOps, evOp, evQs, evQ, evV, setD, pureOp, ev, upd, updL, binW, eqOp, binV, intOp, shOp, boolOp, hav, delB, eqL, SameI, strOp, ↓reduceIte, Zj, Zk, Nat.reduceAdd, Nat.reduceLT, Nat.reduceEqDiff, Nat.reduceMul, Nat.reduceLeDiff, if_true, Zn, reduceCtorEq, ZA, eq_self, Int.reduceLE, Int.reduceLT, Int.reduceToNat, ne_eq, Nat.reduceSub, g1, g2, e1, e2, f1, f2, hq1, hq2, hq3, hq4]
    repeat refine And.intro (by omega) ?_
    repeat refine And.intro (by omega) ?_
    intro g
    simp only [List.map_cons, List.map_nil, updL, upd, Nat.reduceEqDiff, if_true, if_false, ↓reduceIte]
    refine hK _ _ ?_; clear hK K
    refine Cd.rs [0, 1, 6, 7, 8, 9, 11, 13] fun K hK => ?_
    simp (maxSteps := 2000000) (disch := first | (simp only [E4, g1, g2, e1, e2, f1, f2, hq1, hq2, hq3, hq4] <;> omega) | omega | fail) only [↓E2, E3, bare, bareJ, ↓E0, E1, env0, envN, evOps, evOp, evQs, evQ, evV, setD, pureOp, ev, upd, updL, binW, eqOp, binV, intOp, shOp, boolOp, hav, delB, eqL, SameI, strOp, ↓reduceIte, Zj, Zk, Nat.reduceAdd, Nat.reduceLT, Nat.reduceEqDiff, Nat.reduceMul, Nat.reduceLeDiff, if_true, Zn, reduceCtorEq, ZA, eq_self, Int.reduceLE, Int.reduceLT, Int.reduceToNat, ne_eq, Nat.reduceSub, g1, g2, e1, e2, f1, f2, hq1, hq2, hq3, hq4]
    repeat refine And.intro (by omega) ?_
    repeat refine And.intro (by omega) ?_
    intro g
    simp only [List.map_cons, List.map_nil, updL, upd, Nat.reduceEqDiff, if_true, if_false, ↓reduceIte]
    refine hK _ _ ?_; clear hK K
    refine Cd.rr [0, 1, 6, 7, 8, 9] fun K hK => ?_
    simp (maxSteps := 2000000) (disch := first | (simp only [E4, g1, g2, e1, e2, f1, f2, hq1, hq2, hq3, hq4] <;> omega) | omega | fail) only [↓E2, E3, bare, bareJ, ↓E0, E1, env0, envN, evOps, evOp, evQs, evQ, evV, setD, pureOp, ev, upd, updL, binW, eqOp, binV, intOp, shOp, boolOp, hav, delB, eqL, SameI, strOp, ↓reduceIte, Zj, Zk, Nat.reduceAdd, Nat.reduceLT, Nat.reduceEqDiff, Nat.reduceMul, Nat.reduceLeDiff, if_true, Zn, reduceCtorEq, ZA, eq_self, Int.reduceLE, Int.reduceLT, Int.reduceToNat, ne_eq, Nat.reduceSub, g1, g2, e1, e2, f1, f2, hq1, hq2, hq3, hq4]
    repeat refine And.intro (by omega) ?_
    repeat refine And.intro (by omega) ?_
    intro g
    simp only [List.map_cons, List.map_nil, updL, upd, Nat.reduceEqDiff, if_true, if_false, ↓reduceIte]
    refine hK _ _ ?_; clear hK K
    refine inBN ?_
    refine thenN ?_
    refine Cd.rr [0, 1, 6, 7, 8, 9] fun K hK => ?_
    simp (maxSteps := 2000000) (disch := first | (simp only [E4, g1, g2, e1, e2, f1, f2, hq1, hq2, hq3, hq4] <;> omega) | omega | fail) only [↓E2, E3, bare, bareJ, ↓E0, E1, env0, envN, evOps, evOp, evQs, evQ, evV, setD, pureOp, ev, upd, updL, binW, eqOp, binV, intOp, shOp, boolOp, hav, delB, eqL, SameI, strOp, ↓reduceIte, Zj, Zk, Nat.reduceAdd, Nat.reduceLT, Nat.reduceEqDiff, Nat.reduceMul, Nat.reduceLeDiff, if_true, Zn, reduceCtorEq, ZA, eq_self, Int.reduceLE, Int.reduceLT, Int.reduceToNat, ne_eq, Nat.reduceSub, g1, g2, e1, e2, f1, f2, hq1, hq2, hq3, hq4]
    repeat refine And.intro (by omega) ?_
    repeat refine And.intro (by omega) ?_
    intro g
    simp only [List.map_cons, List.map_nil, updL, upd, Nat.reduceEqDiff, if_true, if_false, ↓reduceIte]
    refine hK _ _ ?_; clear hK K
    rw [← sH, ← sM, ← sL]
    exact roundN (m := n - 1) (by omega) ⟨_, k + 1, by omega, rfl, rfl⟩
  · obtain rfl : k = l.length := by omega
    have hs := ex_sum l m l.length
    have hV : exV l m = exN (exS l m l.length) (exH l m l.length) (exM l m l.length) (exL l m l.length) := rfl
    rw [hV]
    clear hV
    generalize exS l m l.length = S at *
    generalize exH l m l.length = H at *
    generalize exM l m l.length = Mi at *
    generalize exL l m l.length = Lo at *
    obtain ⟨x, y, e1, e2, e3, e4, e5⟩ := td6 Lo
    obtain ⟨u, v, f1, f2, f3, f4, f5⟩ := td6 (Mi + x)
    unfold exN
    rw [e1, f1]
    refine Cd.exit (thenX (roundX (inBX ?_)))
    refine thenN ?_
    skip
    refine Cd.rs [6, 7, 8] fun K hK => ?_
    simp (maxSteps := 2000000) (disch := first | (simp only [E4, e1, e2, f1, f2] <;> omega) | omega | fail) only [↓E2, E3, bare, bareJ, ↓E0, E1, env0, envN, evOps, evOp, evQs, evQ, evV, setD, pureOp, ev, upd, updL, binW, eqOp, binV, intOp, shOp, boolOp, hav, delB, eqL, SameI, strOp, ↓reduceIte, Zj, Zk, Nat.reduceAdd, Nat.reduceLT, Nat.reduceEqDiff, Nat.reduceMul, Nat.reduceLeDiff, if_true, Zn, reduceCtorEq, ZA, eq_self, Int.reduceLE, Int.reduceLT, Int.reduceToNat, ne_eq, Nat.reduceSub, e1, e2, f1, f2]
    repeat refine And.intro (by omega) ?_
    repeat refine And.intro (by omega) ?_
    intro g
    simp only [List.map_cons, List.map_nil, updL, upd, Nat.reduceEqDiff, if_true, if_false, ↓reduceIte]
    refine hK _ _ ?_; clear hK K
    refine Cd.rs [6, 7, 8] fun K hK => ?_
    simp (maxSteps := 2000000) (disch := first | (simp only [E4, e1, e2, f1, f2] <;> omega) | omega | fail) only [↓E2, E3, bare, bareJ, ↓E0, E1, env0, envN, evOps, evOp, evQs, evQ, evV, setD, pureOp, ev, upd, updL, binW, eqOp, binV, intOp, shOp, boolOp, hav, delB, eqL, SameI, strOp, ↓reduceIte, Zj, Zk, Nat.reduceAdd, Nat.reduceLT, Nat.reduceEqDiff, Nat.reduceMul, Nat.reduceLeDiff, if_true, Zn, reduceCtorEq, ZA, eq_self, Int.reduceLE, Int.reduceLT, Int.reduceToNat, ne_eq, Nat.reduceSub, e1, e2, f1, f2]
    repeat refine And.intro (by omega) ?_
    repeat refine And.intro (by omega) ?_
    intro g
    simp only [List.map_cons, List.map_nil, updL, upd, Nat.reduceEqDiff, if_true, if_false, ↓reduceIte]
    refine hK _ _ ?_; clear hK K
    refine Cd.rs [6, 7, 8] fun K hK => ?_
    simp (maxSteps := 2000000) (disch := first | (simp only [E4, e1, e2, f1, f2] <;> omega) | omega | fail) only [↓E2, E3, bare, bareJ, ↓E0, E1, env0, envN, evOps, evOp, evQs, evQ, evV, setD, pureOp, ev, upd, updL, binW, eqOp, binV, intOp, shOp, boolOp, hav, delB, eqL, SameI, strOp, ↓reduceIte, Zj, Zk, Nat.reduceAdd, Nat.reduceLT, Nat.reduceEqDiff, Nat.reduceMul, Nat.reduceLeDiff, if_true, Zn, reduceCtorEq, ZA, eq_self, Int.reduceLE, Int.reduceLT, Int.reduceToNat, ne_eq, Nat.reduceSub, e1, e2, f1, f2]
    repeat refine And.intro (by omega) ?_
    repeat refine And.intro (by omega) ?_
    intro g
    simp only [List.map_cons, List.map_nil, updL, upd, Nat.reduceEqDiff, if_true, if_false, ↓reduceIte]
    refine hK _ _ ?_; clear hK K
    refine Cd.rs [6, 7, 8] fun K hK => ?_
    simp (maxSteps := 2000000) (disch := first | (simp only [E4, e1, e2, f1, f2] <;> omega) | omega | fail) only [↓E2, E3, bare, bareJ, ↓E0, E1, env0, envN, evOps, evOp, evQs, evQ, evV, setD, pureOp, ev, upd, updL, binW, eqOp, binV, intOp, shOp, boolOp, hav, delB, eqL, SameI, strOp, ↓reduceIte, Zj, Zk, Nat.reduceAdd, Nat.reduceLT, Nat.reduceEqDiff, Nat.reduceMul, Nat.reduceLeDiff, if_true, Zn, reduceCtorEq, ZA, eq_self, Int.reduceLE, Int.reduceLT, Int.reduceToNat, ne_eq, Nat.reduceSub, e1, e2, f1, f2]
    repeat refine And.intro (by omega) ?_
    repeat refine And.intro (by omega) ?_
    intro g
    simp only [List.map_cons, List.map_nil, updL, upd, Nat.reduceEqDiff, if_true, if_false, ↓reduceIte]
    refine hK _ _ ?_; clear hK K
    refine Cd.seq ?_
    refine Cd.rs [6, 7, 8, 74] fun K hK => ?_
    simp (maxSteps := 2000000) (disch := first | (simp only [E4, e1, e2, f1, f2] <;> omega) | omega | fail) only [↓E2, E3, bare, bareJ, ↓E0, E1, env0, envN, evOps, evOp, evQs, evQ, evV, setD, pureOp, ev, upd, updL, unV, cellAt, cellsAt, findB, setB, hav, delB, ↓reduceIte, Zj, Zk, Nat.reduceAdd, Nat.reduceLT, Nat.reduceEqDiff, Nat.reduceMul, Nat.reduceLeDiff, if_true, Zn, reduceCtorEq, ZA, eq_self, Int.reduceLE, Int.reduceLT, Int.reduceToNat, ne_eq, Nat.reduceSub, e1, e2, f1, f2]
    repeat refine And.intro (by omega) ?_
    refine callK_gives (l01In_c _ _ _) ?_
    simp (maxSteps := 2000000) (disch := first | (simp only [E4, e1, e2, f1, f2] <;> omega) | omega | fail) only [↓E2, E3, bare, bareJ, ↓E0, E1, env0, envN, evOps, evOp, evQs, evQ, evV, setD, pureOp, ev, upd, updL, unV, cellAt, cellsAt, findB, setB, hav, delB, ↓reduceIte, Zj, Zk, Nat.reduceAdd, Nat.reduceLT, Nat.reduceEqDiff, Nat.reduceMul, Nat.reduceLeDiff, if_true, Zn, reduceCtorEq, ZA, eq_self, Int.reduceLE, Int.reduceLT, Int.reduceToNat, ne_eq, Nat.reduceSub, e1, e2, f1, f2]
    repeat refine And.intro (by omega) ?_
    repeat refine And.intro (by omega) ?_
    intro g
    simp only [List.map_cons, List.map_nil, updL, upd, Nat.reduceEqDiff, if_true, if_false, ↓reduceIte]
    refine hK _ _ ?_; clear hK K
    refine Cd.cond rfl (fun h2 => ?_) (fun h2 => ?_)
    · have hno : ¬ (-3 ≤ H + u ∧ H + u ≤ 3) := by
        intro hh
        rw [decide_eq_true hh.1, decide_eq_true hh.2] at h2
        cases h2
      refine Cd.rs [4, 5] fun K hK => ?_
      simp (maxSteps := 2000000) (disch := first | (simp only [E4, e1, e2, f1, f2] <;> omega) | omega | fail) only [↓E2, E3, bare, bareJ, ↓E0, E1, env0, envN, evOps, evOp, evQs, evQ, evV, setD, pureOp, ev, upd, updL, hav, delB, ↓reduceIte, Zj, Zk, Nat.reduceAdd, Nat.reduceLT, Nat.reduceEqDiff, Nat.reduceMul, Nat.reduceLeDiff, if_true, Zn, reduceCtorEq, ZA, eq_self, Int.reduceLE, Int.reduceLT, Int.reduceToNat, ne_eq, Nat.reduceSub, e1, e2, f1, f2]
      repeat refine And.intro (by omega) ?_
      repeat refine And.intro (by omega) ?_
      intro g
      simp only [List.map_cons, List.map_nil, updL, upd, Nat.reduceEqDiff, if_true, if_false, ↓reduceIte]
      refine hK _ _ ?_; clear hK K
      refine Cd.ret (thenR ?_)
      simp (maxSteps := 2000000) (disch := first | (simp only [E4, e1, e2, f1, f2] <;> omega) | omega | fail) only [↓E2, E3, bare, bareJ, ↓E0, E1, evP, evPlan, env0, envN, evOps, evOp, evQs, evQ, evV, setD, pureOp, ev, upd, updL, gate, binW, eqOp, binV, intOp, shOp, boolOp, unV, convV, nilV, fieldAddrV, indexAddrV, extractV, cellAt, cellsAt, findB, setB, fillL, buildV, Value.cells, lenV, minV, maxV, hav, sliceV, loV, hiV, bslQ, mksQ, appQ, partsOk, partsCells, delB, eqL, SameI, strOp, apzQ, cvtQ, capV, ↓reduceIte, Zj, Zk, Nat.reduceAdd, Nat.reduceLT, Nat.reduceEqDiff, Nat.reduceMul, Nat.reduceLeDiff, if_true, Zn, reduceCtorEq, ZA, eq_self, Int.reduceLE, Int.reduceLT, Int.reduceToNat, ne_eq, Nat.reduceSub, e1, e2, f1, f2]
      repeat refine And.intro (by omega) ?_
      rw [if_neg hno]
      have : coOk S = false := by
        unfold coOk
        rw [Bool.eq_false_iff]
        intro hh
        simp only [Bool.and_eq_true, decide_eq_true_eq] at hh
        omega
      rw [this]
    · have hyes : -3 ≤ H + u ∧ H + u ≤ 3 := by
        simp only [Bool.not_eq_true', Bool.not_eq_false', Bool.and_eq_true, decide_eq_true_eq, Bool.not_eq_true, Bool.not_eq_false] at h2
        exact h2
      have hS : (H + u) * 1000000000000 + v * 1000000 + y = S := by omega
      refine Cd.skip ?_
      refine thenN ?_
      refine Cd.rs [14] fun K hK => ?_
      simp (maxSteps := 2000000) (disch := first | (simp only [E4, e1, e2, f1, f2] <;> omega) | omega | fail) only [↓E2, E3, bare, bareJ, ↓E0, E1, env0, envN, evOps, evOp, evQs, evQ, evV, setD, pureOp, ev, upd, updL, binW, eqOp, binV, intOp, shOp, boolOp, hav, delB, eqL, SameI, strOp, ↓reduceIte, Zj, Zk, Nat.reduceAdd, Nat.reduceLT, Nat.reduceEqDiff, Nat.reduceMul, Nat.reduceLeDiff, if_true, Zn, reduceCtorEq, ZA, eq_self, Int.reduceLE, Int.reduceLT, Int.reduceToNat, ne_eq, Nat.reduceSub, e1, e2, f1, f2]
      repeat refine And.intro (by omega) ?_
      rw [hS]
      repeat refine And.intro (by omega) ?_
      intro g
      simp only [List.map_cons, List.map_nil, updL, upd, Nat.reduceEqDiff, if_true, if_false, ↓reduceIte]
      refine hK _ _ ?_; clear hK K
      refine Cd.rs [4, 5] fun K hK => ?_
      simp (maxSteps := 2000000) (disch := first | (simp only [E4, e1, e2, f1, f2] <;> omega) | omega | fail) only [↓E2, E3, bare, bareJ, ↓E0, E1, env0, envN, evOps, evOp, evQs, evQ, evV, setD, pureOp, ev, upd, updL, cellAt, cellsAt, findB, setB, hav, delB, ↓reduceIte, Zj, Zk, Nat.reduceAdd, Nat.reduceLT, Nat.reduceEqDiff, Nat.reduceMul, Nat.reduceLeDiff, if_true, Zn, reduceCtorEq, ZA, eq_self, Int.reduceLE, Int.reduceLT, Int.reduceToNat, ne_eq, Nat.reduceSub, e1, e2, f1, f2]
      repeat refine And.intro (by omega) ?_
      refine callK_gives (l01In_c _ _ _) ?_
      simp (maxSteps := 2000000) (disch := first | (simp only [E4, e1, e2, f1, f2] <;> omega) | omega | fail) only [↓E2, E3, bare, bareJ, ↓E0, E1, env0, envN, evOps, evOp, evQs, evQ, evV, setD, pureOp, ev, upd, updL, cellAt, cellsAt, findB, setB, hav, delB, ↓reduceIte, Zj, Zk, Nat.reduceAdd, Nat.reduceLT, Nat.reduceEqDiff, Nat.reduceMul, Nat.reduceLeDiff, if_true, Zn, reduceCtorEq, ZA, eq_self, Int.reduceLE, Int.reduceLT, Int.reduceToNat, ne_eq, Nat.reduceSub, e1, e2, f1, f2]
      repeat refine And.intro (by omega) ?_
      repeat refine And.intro (by omega) ?_
      intro g
      simp only [List.map_cons, List.map_nil, updL, upd, Nat.reduceEqDiff, if_true, if_false, ↓reduceIte]
      refine hK _ _ ?_; clear hK K
      refine Cd.ret ?_
      simp (maxSteps := 2000000) (disch := first | (simp only [E4, e1, e2, f1, f2] <;> omega) | omega | fail) only [↓E2, E3, bare, bareJ, ↓E0, E1, evP, evPlan, env0, envN, evOps, evOp, evQs, evQ, evV, setD, pureOp, ev, upd, updL, gate, binW, eqOp, binV, intOp, shOp, boolOp, unV, convV, nilV, fieldAddrV, indexAddrV, extractV, cellAt, cellsAt, findB, setB, fillL, buildV, Value.cells, lenV, minV, maxV, hav, sliceV, loV, hiV, bslQ, mksQ, appQ, partsOk, partsCells, delB, eqL, SameI, strOp, apzQ, cvtQ, capV, ↓reduceIte, Zj, Zk, Nat.reduceAdd, Nat.reduceLT, Nat.reduceEqDiff, Nat.reduceMul, Nat.reduceLeDiff, if_true, Zn, reduceCtorEq, ZA, eq_self, Int.reduceLE, Int.reduceLT, Int.reduceToNat, ne_eq, Nat.reduceSub, e1, e2, f1, f2]
      repeat refine And.intro (by omega) ?_
      rw [if_pos hyes]
      rfl
theorem binomial_c (d : Nat) (hd : d < 21) (k : Nat) (hk : k ≤ 2 * d) : Gives Try.prog 36 #[.int .i64 (2 * (d : Int)), .int .i64 (k : Int)] (.int .i64 (binR (2 * (d : Int)) k)) := by
  refine Gives.of fun w => ?_
  refine acall_of (N := 21) (c := _) (rs := [.tmp 4]) (args := [_, _]) Try.func36 rfl (by decide) rfl rfl (Nat.le_of_ble_eq_true rfl) ?_
  refine Cd.rs [0, 1] fun K hK => ?_
  simp (maxSteps := 2000000) (disch := first | (simp only [E4] <;> omega) | omega | fail) only [↓E2, E3, bare, bareJ, ↓E0, E1, env0, envN, evOps, evOp, evQs, evQ, evV, setD, pureOp, ev, upd, updL, hav, delB, ↓reduceIte, Zj, Zk, Nat.reduceAdd, Nat.reduceLT, Nat.reduceEqDiff, Nat.reduceMul, Nat.reduceLeDiff, if_true, Zn, reduceCtorEq, ZA, eq_self, Int.reduceLE, Int.reduceLT, Int.reduceToNat, ne_eq, Nat.reduceSub]
  repeat refine And.intro (by omega) ?_
  repeat refine And.intro (by omega) ?_
  intro g
  simp only [List.map_cons, List.map_nil, updL, upd, Nat.reduceEqDiff, if_true, if_false, ↓reduceIte]
  refine hK _ _ ?_; clear hK K
  refine Cd.rs [0, 1, 5] fun K hK => ?_
  simp (maxSteps := 2000000) (disch := first | (simp only [E4] <;> omega) | omega | fail) only [↓E2, E3, bare, bareJ, ↓E0, E1, env0, envN, evOps, evOp, evQs, evQ, evV, setD, pureOp, ev, upd, updL, hav, delB, ↓reduceIte, Zj, Zk, Nat.reduceAdd, Nat.reduceLT, Nat.reduceEqDiff, Nat.reduceMul, Nat.reduceLeDiff, if_true, Zn, reduceCtorEq, ZA, eq_self, Int.reduceLE, Int.reduceLT, Int.reduceToNat, ne_eq, Nat.reduceSub]
  repeat refine And.intro (by omega) ?_
  repeat refine And.intro (by omega) ?_
  intro g
  simp only [List.map_cons, List.map_nil, updL, upd, Nat.reduceEqDiff, if_true, if_false, ↓reduceIte]
  refine hK _ _ ?_; clear hK K
  refine Cd.seq ?_
  refine Cd.rs [0, 5, 7, 8] fun K hK => ?_
  simp (maxSteps := 2000000) (disch := first | (simp only [E4] <;> omega) | omega | fail) only [↓E2, E3, bare, bareJ, ↓E0, E1, env0, envN, evOps, evOp, evQs, evQ, evV, setD, pureOp, ev, upd, updL, hav, delB, ↓reduceIte, Zj, Zk, Nat.reduceAdd, Nat.reduceLT, Nat.reduceEqDiff, Nat.reduceMul, Nat.reduceLeDiff, if_true, Zn, reduceCtorEq, ZA, eq_self, Int.reduceLE, Int.reduceLT, Int.reduceToNat, ne_eq, Nat.reduceSub]
  repeat refine And.intro (by omega) ?_
  repeat refine And.intro (by omega) ?_
  intro g
  simp only [List.map_cons, List.map_nil, updL, upd, Nat.reduceEqDiff, if_true, if_false, ↓reduceIte]
  refine hK _ _ ?_; clear hK K
  refine Cd.block ?_
  refine Cd.loop (fun n ρ M => ∃ g i, i + n = k ∧ ρ = updL [(0, .int .i64 (2 * (d : Int))), (5, .int .i64 (binR (2 * (d : Int)) i)), (7, .int .i64 (k : Int)), (8, .int .i64 (i : Int))] g ∧ M = []) k ⟨_, 0, Nat.zero_add _, rfl, rfl⟩ ?_
  rintro n ρ M ⟨g, i, hi, rfl, rfl⟩
  refine Cd.rs [0, 5, 7, 8, 9] fun K hK => ?_
  simp (maxSteps := 2000000) (disch := first | (simp only [E4] <;> omega) | omega | fail) only [↓E2, E3, bare, bareJ, ↓E0, E1, env0, envN, evOps, evOp, evQs, evQ, evV, setD, pureOp, ev, upd, updL, binW, eqOp, binV, intOp, shOp, boolOp, hav, delB, eqL, SameI, strOp, ↓reduceIte, Zj, Zk, Nat.reduceAdd, Nat.reduceLT, Nat.reduceEqDiff, Nat.reduceMul, Nat.reduceLeDiff, if_true, Zn, reduceCtorEq, ZA, eq_self, Int.reduceLE, Int.reduceLT, Int.reduceToNat, ne_eq, Nat.reduceSub]
  repeat refine And.intro (by omega) ?_
  repeat refine And.intro (by omega) ?_
  intro g
  simp only [List.map_cons, List.map_nil, updL, upd, Nat.reduceEqDiff, if_true, if_false, ↓reduceIte]
  refine hK _ _ ?_; clear hK K
  refine Cd.seq ?_
  refine Cd.condd rfl (fun h1 => ?_) (fun h1 => ?_)
  · have hb := binR_bound d hd i (by omega)
    have hb1 := binR_bound d hd (i + 1) (by omega)
    have hs : binR (2 * (d : Int)) (i + 1) = binR (2 * (d : Int)) i * (2 * (d : Int) - (i : Int)) / ((i : Int) + 1) := rfl
    have p := mul_bd (a := binR (2 * (d : Int)) i) (b := 2 * (d : Int) - (i : Int)) (A := 137846528820) (B := 40) (by omega) (by omega)
    have p0 : 0 ≤ binR (2 * (d : Int)) i * (2 * (d : Int) - (i : Int)) := Int.mul_nonneg (by omega) (by omega)
    generalize hpp : binR (2 * (d : Int)) i * (2 * (d : Int) - (i : Int)) = pp at *
    refine Cd.skip ?_
    refine thenN ?_
    refine Cd.seq ?_
    refine Cd.block ?_
    refine Cd.rs [0, 5, 6, 7, 8] fun K hK => ?_
    simp (maxSteps := 2000000) (disch := first | (simp only [E4] <;> omega) | omega | fail) only [↓E2, E3, bare, bareJ, ↓E0, E1, env0, envN, evOps, evOp, evQs, evQ, evV, setD, pureOp, ev, upd, updL, hav, delB, ↓reduceIte, Zj, Zk, Nat.reduceAdd, Nat.reduceLT, Nat.reduceEqDiff, Nat.reduceMul, Nat.reduceLeDiff, if_true, Zn, reduceCtorEq, ZA, eq_self, Int.reduceLE, Int.reduceLT, Int.reduceToNat, ne_eq, Nat.reduceSub]
    repeat refine And.intro (by omega) ?_
    repeat refine And.intro (by omega) ?_
    intro g
    simp only [List.map_cons, List.map_nil, updL, upd, Nat.reduceEqDiff, if_true, if_false, ↓reduceIte]
    refine hK _ _ ?_; clear hK K
    have hq : pp / ((i : Int) + 1) = binR (2 * (d : Int)) (i + 1) := hs.symm
    skip
    refine Cd.rr [0, 5, 7, 8] fun K hK => ?_
    simp (maxSteps := 2000000) (disch := first | (simp only [E4, hpp, hq] <;> omega) | omega | fail) only [↓E2, E3, bare, bareJ, ↓E0, E1, env0, envN, evOps, evOp, evQs, evQ, evV, setD, pureOp, ev, upd, updL, binW, eqOp, binV, intOp, shOp, boolOp, hav, delB, eqL, SameI, strOp, ↓reduceIte, Zj, Zk, Nat.reduceAdd, Nat.reduceLT, Nat.reduceEqDiff, Nat.reduceMul, Nat.reduceLeDiff, if_true, Zn, reduceCtorEq, ZA, eq_self, Int.reduceLE, Int.reduceLT, Int.reduceToNat, ne_eq, Nat.reduceSub, hpp, hq]
    repeat refine And.intro (by omega) ?_
    repeat refine And.intro (by omega) ?_
    intro g
    simp only [List.map_cons, List.map_nil, updL, upd, Nat.reduceEqDiff, if_true, if_false, ↓reduceIte]
    refine hK _ _ ?_; clear hK K
    refine inBN ?_
    refine thenN ?_
    refine Cd.rr [0, 5, 7, 8] fun K hK => ?_
    simp (maxSteps := 2000000) (disch := first | (simp only [E4, hpp, hq] <;> omega) | omega | fail) only [↓E2, E3, bare, bareJ, ↓E0, E1, env0, envN, evOps, evOp, evQs, evQ, evV, setD, pureOp, ev, upd, updL, binW, eqOp, binV, intOp, shOp, boolOp, hav, delB, eqL, SameI, strOp, ↓reduceIte, Zj, Zk, Nat.reduceAdd, Nat.reduceLT, Nat.reduceEqDiff, Nat.reduceMul, Nat.reduceLeDiff, if_true, Zn, reduceCtorEq, ZA, eq_self, Int.reduceLE, Int.reduceLT, Int.reduceToNat, ne_eq, Nat.reduceSub, hpp, hq]
    repeat refine And.intro (by omega) ?_
    repeat refine And.intro (by omega) ?_
    intro g
    simp only [List.map_cons, List.map_nil, updL, upd, Nat.reduceEqDiff, if_true, if_false, ↓reduceIte]
    refine hK _ _ ?_; clear hK K
    exact roundN (m := n - 1) (by omega) ⟨_, i + 1, by omega, rfl, rfl⟩
  · obtain rfl : i = k := by omega
    refine Cd.exit (thenX (roundX (inBX ?_)))
    refine thenN ?_
    refine Cd.rs [4] fun K hK => ?_
    simp (maxSteps := 2000000) (disch := first | (simp only [E4] <;> omega) | omega | fail) only [↓E2, E3, bare, bareJ, ↓E0, E1, env0, envN, evOps, evOp, evQs, evQ, evV, setD, pureOp, ev, upd, updL, hav, delB, ↓reduceIte, Zj, Zk, Nat.reduceAdd, Nat.reduceLT, Nat.reduceEqDiff, Nat.reduceMul, Nat.reduceLeDiff, if_true, Zn, reduceCtorEq, ZA, eq_self, Int.reduceLE, Int.reduceLT, Int.reduceToNat, ne_eq, Nat.reduceSub]
    repeat refine And.intro (by omega) ?_
    repeat refine And.intro (by omega) ?_
    intro g
    simp only [List.map_cons, List.map_nil, updL, upd, Nat.reduceEqDiff, if_true, if_false, ↓reduceIte]
    refine hK _ _ ?_; clear hK K
    refine Cd.ret ?_
    simp (maxSteps := 2000000) (disch := first | (simp only [E4] <;> omega) | omega | fail) only [↓E2, E3, bare, bareJ, ↓E0, E1, evP, evPlan, env0, envN, evOps, evOp, evQs, evQ, evV, setD, pureOp, ev, upd, updL, gate, binW, eqOp, binV, intOp, shOp, boolOp, unV, convV, nilV, fieldAddrV, indexAddrV, extractV, cellAt, cellsAt, findB, setB, fillL, buildV, Value.cells, lenV, minV, maxV, hav, sliceV, loV, hiV, bslQ, mksQ, appQ, partsOk, partsCells, delB, eqL, SameI, strOp, apzQ, cvtQ, capV, ↓reduceIte, Zj, Zk, Nat.reduceAdd, Nat.reduceLT, Nat.reduceEqDiff, Nat.reduceMul, Nat.reduceLeDiff, if_true, Zn, reduceCtorEq, ZA, eq_self, Int.reduceLE, Int.reduceLT, Int.reduceToNat, ne_eq, Nat.reduceSub]
    repeat refine And.intro (by omega) ?_

end Go.Proofs

/-
  What the functions of this part hand back: each as a plain function of its arguments. Conditions: none.
-/
namespace Go.Proofs
open Go.W8
set_option linter.unusedVariables false
set_option linter.unusedSimpArgs false
set_option linter.unusedSectionVars false
set_option maxRecDepth 8000
set_option maxHeartbeats 4000000
theorem slN_len {l : List Int} {a : Option Addr} {m c : Nat} {M : Blks} (h : SlN 1 (ints .i64 l) (.slice a m c) M) : m = l.length := by
  rcases h with ⟨e1, e2, _⟩ | ⟨_, _, _, _, e, _, hr⟩
  · cases e2
    have := congrArg List.length e1
    rw [ints_length] at this
    simpa using this.symm
  · cases e
    exact lauLen hr.len
theorem nodup_fr {w0 : World} {M : Blks} {b : Nat} {cs : List Value} (hb : Fresh w0 M b) (h : (M.map (·.1)).Nodup) : (((b, cs) :: M).map (·.1)).Nodup := by
  simp only [List.map_cons, List.nodup_cons]
  refine ⟨fun hm => ?_, h⟩
  obtain ⟨p, hp, e⟩ := List.mem_map.1 hm
  exact hb.2 p hp e.symm
theorem rd_two {a b : Nat} {x y z u : Int} : RdS (toldOf [(a, ints .i64 [x, y]), (b, ints .i64 [z, u])]) 1 (ints .i64 [x, y]) (.slice (some ⟨a, 0, none⟩) 2 2) ∧ RdS (toldOf [(a, ints .i64 [x, y]), (b, ints .i64 [z, u])]) 1 (ints .i64 [z, u]) (.slice (some ⟨b, 0, none⟩) 2 2) :=
  ⟨(SlN.row (Row.full (w := 1) (m := 2) rfl)).reads fun p hp => mem_toldOf (by rw [List.mem_singleton.1 hp]; simp), (SlN.row (Row.full (w := 1) (m := 2) rfl)).reads fun p hp => mem_toldOf (by rw [List.mem_singleton.1 hp]; simp)⟩
def bnL (d i : Nat) : List Int := (List.range i).map fun (i : Nat) => binR (2 * (d : Int)) i * (1 - 2 * ((i : Int) % 2))
def cwQ (d : Nat) (L : List Int) (t : Nat) : List Int := (List.range (2 * d + 1)).map fun i => if i < t then (symL d (cwN d L)).getD i 0 else (bnL d (2 * d + 1)).getD i 0
section
variable {d i t : Nat} {L : List Int}
theorem bnL_len : (bnL d i).length = i := by simp [bnL]
theorem bnL_get {j : Nat} (h : j < i) : (bnL d i).getD j 0 = binR (2 * (d : Int)) j * (1 - 2 * ((j : Int) % 2)) := map_get h
theorem bnL_succ : bnL d (i + 1) = bnL d i ++ [binR (2 * (d : Int)) i * (1 - 2 * ((i : Int) % 2))] := by
  unfold bnL; rw [List.range_succ, List.map_append]; rfl
theorem cwQ_len : (cwQ d L t).length = 2 * d + 1 := by simp [cwQ]
theorem cwQ_get {j : Nat} (h : j < 2 * d + 1) : (cwQ d L t).getD j 0 = if j < t then (symL d (cwN d L)).getD j 0 else (bnL d (2 * d + 1)).getD j 0 := map_get h
theorem cwQ_zero : cwQ d L 0 = bnL d (2 * d + 1) := by
  refine getD_ext0 (by rw [cwQ_len, bnL_len]) fun j hj => ?_
  rw [cwQ_len] at hj
  rw [cwQ_get hj, if_neg (by omega)]
theorem cwQ_full : cwQ d L (2 * d + 1) = symL d (cwN d L) := by
  refine getD_ext0 (by rw [cwQ_len, symL_len]) fun j hj => ?_
  rw [cwQ_len] at hj
  rw [cwQ_get hj, if_pos hj]
theorem cwQ_set (h : t < 2 * d + 1) : (cwQ d L t).set t ((symL d (cwN d L)).getD t 0) = cwQ d L (t + 1) := by
  refine getD_ext0 (by simp [cwQ_len]) fun j hj => ?_
  rw [List.length_set, cwQ_len] at hj
  rw [getD_set0 (by rw [cwQ_len]; exact h), cwQ_get hj, cwQ_get hj]
  by_cases e : t = j
  · subst e; rw [if_pos rfl, if_pos (by omega)]
  · rw [if_neg e]
    by_cases h2 : j < t
    · rw [if_pos h2, if_pos (by omega)]
    · rw [if_neg h2, if_neg (by omega)]
theorem cwOk_of (hl : d < L.length) (h : ∀ i, i < 2 * d + 1 → coOk ((symL d (cwN d L)).getD i 0) = true) : cwOk d L := by
  intro j hj
  have := h (d + j) (by omega)
  rw [symL_get (by omega)] at this
  unfold cwN at this
  by_cases h0 : j = 0
  · subst h0
    rw [if_pos (by omega), cwP_get (by omega), if_pos (by omega)] at this
    rw [show d - (d + 0) = 0 by omega] at this
    exact this
  · rw [if_neg (by omega), cwP_get (by omega), if_pos (by omega), show d + j - d = j by omega] at this
    exact this
theorem cwOk_not (hl : d < L.length) {i : Nat} (hi : i < 2 * d + 1) (h : coOk ((symL d (cwN d L)).getD i 0) = false) : ¬ cwOk d L := by
  intro hok
  rw [symL_get hi] at h
  unfold cwN at h
  rw [cwP_get (by split <;> omega), if_pos (by split <;> omega)] at h
  have := hok (if i ≤ d then d - i else i - d) (by split <;> omega)
  rw [h] at this
  cases this
theorem cwN_top (hd : d < 21) (hl : d < L.length) : (cwN d L).getD d 0 = 0 := by
  unfold cwN
  rw [cwP_get hl, if_pos (by omega)]
  unfold cwV
  rw [Nat.sub_self, show d + d = 2 * d by omega, binR_one d hd]
  show _ - _ * (1 * 1) = 0
  omega
end
theorem exS2 (c p b : Int) : exS [c, p] [0 - b, 1] ([c, p] : List Int).length = p - c * b := by
  show 0 + c * (0 - b) + p * 1 = p - c * b
  rw [Int.zero_sub, Int.mul_neg, Int.mul_one]
  omega
theorem nodup_add {L MM : Blks} {b : Nat} {cs : List Value} (hL : (L.map (·.1)).Nodup) (hm : ∀ p ∈ L, p ∈ MM) (hb : ∀ p ∈ MM, ¬ b = p.1) : ((L ++ [(b, cs)]).map (·.1)).Nodup := by
  rw [List.map_append, List.nodup_append]
  refine ⟨hL, by simp, fun u hu v hv e => ?_⟩
  obtain ⟨p, hp, rfl⟩ := List.mem_map.1 hu
  simp only [List.map_cons, List.map_nil, List.mem_singleton] at hv
  exact hb p (hm p hp) (by rw [← hv, ← e])
def conP (r : Option (List Int)) (L : Blks) (v : Value) (M' : Blks) : Prop :=
  (∀ p ∈ L, p ∈ M') ∧ match r with
    | some out => ∃ s Mo, v = .tuple #[s, .bool true] ∧ SlN 1 (ints .i64 out) s Mo ∧ (∀ p ∈ Mo, p ∈ M') ∧ ((L ++ Mo).map (·.1)).Nodup
    | none => v = .tuple #[.slice none 0 0, .bool false]
section
variable (d : Nat) (hd : d < 21) (K0 : List Int) (hK : K0.length = d + 1) (hn : K0.getD d 0 ≠ 0) (hc : ∀ j, coOk (K0.getD j 0) = true) (v : Value) (L : Blks) (hv : LauV (-(d : Int)) (symL d K0) v L)
include hd hK hn hc hv
theorem l04Conway_c : GivesX Try.prog 11 #[v] L [] (conP (cwK (d + 1) K0 (List.replicate (d + 1) 0)) L) := by
  obtain ⟨s0, rfl, hs0⟩ := hv
  obtain ⟨a0, m0, c0, rfl⟩ := hs0.form
  have hl0 : m0 = 2 * d + 1 := by
    rcases hs0 with ⟨e1, e2, _⟩ | ⟨_, _, _, _, e, _, hr⟩
    · have := congrArg List.length e1
      rw [ints_length, symL_len] at this
      simp only [List.length_nil] at this
      omega
    · cases e
      have := lauLen hr.len
      rw [symL_len] at this
      exact this
  refine GivesX.of (callable_of Try.func11 rfl (by decide)) ?_ fun w hnd hlt hR => ?_
  · simp
  refine acall_of (N := 103) (c := _) (rs := [.tmp 2, .tmp 3]) (args := [_]) Try.func11 rfl (by decide) rfl rfl (Nat.le_of_ble_eq_true rfl) ?_
  have hndL := hnd
  refine Cd.rs [1] fun K hK => ?_
  simp (maxSteps := 2000000) (disch := first | (simp only [E4] <;> omega) | omega | fail) only [↓E2, E3, bare, bareJ, ↓E0, E1, env0, envN, evOps, evOp, evQs, evQ, evV, setD, pureOp, ev, upd, updL, Value.cells, hav, delB, ↓reduceIte, Zj, Zk, Nat.reduceAdd, Nat.reduceLT, Nat.reduceEqDiff, Nat.reduceMul, Nat.reduceLeDiff, if_true, Zn, reduceCtorEq, ZA, eq_self, Int.reduceLE, Int.reduceLT, Int.reduceToNat, ne_eq, Nat.reduceSub]
  repeat refine And.intro (by omega) ?_
  intro b1 hb1
  try simp (maxSteps := 2000000) (disch := first | (simp only [E4] <;> omega) | omega | fail) only [↓E2, E3, bare, bareJ, ↓E0, E1, env0, envN, evOps, evOp, evQs, evQ, evV, setD, pureOp, ev, upd, updL, Value.cells, hav, delB, ↓reduceIte, Zj, Zk, Nat.reduceAdd, Nat.reduceLT, Nat.reduceEqDiff, Nat.reduceMul, Nat.reduceLeDiff, if_true, Zn, reduceCtorEq, ZA, eq_self, Int.reduceLE, Int.reduceLT, Int.reduceToNat, ne_eq, Nat.reduceSub]
  repeat refine And.intro (by omega) ?_
  repeat refine And.intro (by omega) ?_
  intro g
  simp only [List.map_cons, List.map_nil, updL, upd, Nat.reduceEqDiff, if_true, if_false, ↓reduceIte]
  refine hK _ _ ?_; clear hK K
  refine Cd.seq ?_
  refine Cd.rs [1, 15] fun K hK => ?_
  simp (maxSteps := 2000000) (disch := first | (simp only [E4] <;> omega) | omega | fail) only [↓E2, E3, bare, bareJ, ↓E0, E1, env0, envN, evOps, evOp, evQs, evQ, evV, setD, pureOp, ev, upd, updL, binW, eqOp, binV, intOp, shOp, boolOp, fieldAddrV, cellAt, cellsAt, findB, lenV, hav, delB, eqL, SameI, strOp, ↓reduceIte, Zj, Zk, Nat.reduceAdd, Nat.reduceLT, Nat.reduceEqDiff, Nat.reduceMul, Nat.reduceLeDiff, if_true, Zn, reduceCtorEq, ZA, eq_self, Int.reduceLE, Int.reduceLT, Int.reduceToNat, ne_eq, Nat.reduceSub, Tfld35_1, Tld31, Tslce31]
  repeat refine And.intro (by omega) ?_
  repeat refine And.intro (by omega) ?_
  intro g
  simp only [List.map_cons, List.map_nil, updL, upd, Nat.reduceEqDiff, if_true, if_false, ↓reduceIte]
  refine hK _ _ ?_; clear hK K
  refine Cd.condd rfl (fun h1 => absurd h1 (by omega)) (fun h1 => ?_)
  refine Cd.skip ?_
  refine thenN ?_
  have e1d : (1 : Int) - -(d : Int) = ((d + 1 : Nat) : Int) := by omega
  skip
  refine Cd.rs [1, 4] fun K hK => ?_
  simp (maxSteps := 2000000) (disch := first | (simp only [E4, e1d] <;> omega) | omega | fail) only [↓E2, E3, bare, bareJ, ↓E0, E1, env0, envN, evOps, evOp, evQs, evQ, evV, setD, pureOp, ev, upd, updL, binW, eqOp, binV, intOp, shOp, boolOp, fieldAddrV, cellAt, cellsAt, findB, Value.cells, hav, mksQ, delB, eqL, SameI, strOp, ↓reduceIte, Zj, Zk, Nat.reduceAdd, Nat.reduceLT, Nat.reduceEqDiff, Nat.reduceMul, Nat.reduceLeDiff, if_true, Zn, reduceCtorEq, ZA, eq_self, Int.reduceLE, Int.reduceLT, Int.reduceToNat, ne_eq, Nat.reduceSub, Tby2, Tfld35_0, Tld2, Tslc31, Tslce31, Tzero2, e1d]
  repeat refine And.intro (by omega) ?_
  intro b2 hb2
  have nb2_b1 := hb2.ne
  try simp (maxSteps := 2000000) (disch := first | (simp only [E4, e1d] <;> omega) | omega | fail) only [↓E2, E3, bare, bareJ, ↓E0, E1, env0, envN, evOps, evOp, evQs, evQ, evV, setD, pureOp, ev, upd, updL, binW, eqOp, binV, intOp, shOp, boolOp, fieldAddrV, cellAt, cellsAt, findB, Value.cells, hav, mksQ, delB, eqL, SameI, strOp, ↓reduceIte, Zj, Zk, Nat.reduceAdd, Nat.reduceLT, Nat.reduceEqDiff, Nat.reduceMul, Nat.reduceLeDiff, if_true, Zn, reduceCtorEq, ZA, eq_self, Int.reduceLE, Int.reduceLT, Int.reduceToNat, ne_eq, Nat.reduceSub, Tby2, Tfld35_0, Tld2, Tslc31, Tslce31, Tzero2, e1d, nb2_b1]
  repeat refine And.intro (by omega) ?_
  have hz : List.replicate (d + 1) (Value.int .i64 0) = ints .i64 (List.replicate (d + 1) 0) := by simp [ints]
  rw [hz]
  repeat refine And.intro (by omega) ?_
  intro g
  simp only [List.map_cons, List.map_nil, updL, upd, Nat.reduceEqDiff, if_true, if_false, ↓reduceIte]
  refine hK _ _ ?_; clear hK K
  refine Cd.seq ?_
  refine Cd.block ?_
  refine Cd.loop (fun n ρ M => ∃ g Lc out a m c Mq MM pl pll, ((∃ d', d' ≤ d ∧ n = d' + 1 ∧ pl = -(d' : Int) ∧ pll = symL d' Lc ∧ Lc.getD d' 0 ≠ 0 ∧ (∀ j, j ≤ d' → out.getD j 0 = 0) ∧ cwK (d + 1) K0 (List.replicate (d + 1) 0) = cwK (d' + 1) Lc out ∧ (∀ j, coOk (Lc.getD j 0) = true) ∧ Lc.length = d + 1) ∨ (pl = 0 ∧ pll = [] ∧ cwK (d + 1) K0 (List.replicate (d + 1) 0) = some out)) ∧
    out.length = d + 1 ∧ SlN 1 (ints .i64 pll) (.slice a m c) Mq ∧ (∀ p ∈ Mq, p ∈ MM) ∧ (∀ p ∈ L, p ∈ MM) ∧ ρ = updL [(1, .pointer (some ⟨b1, 0, none⟩)), (4, .slice (some ⟨b2, 0, none⟩) (d + 1) (d + 1))] g ∧ SubP ((b1, [.int .i64 pl, .slice a m c]) :: (b2, ints .i64 out) :: MM) M) (d + 1)
    ⟨_, K0, List.replicate (d + 1) 0, a0, m0, c0, L, L, -(d : Int), symL d K0, .inl ⟨d, Nat.le_refl _, rfl, rfl, rfl, hn, fun j _ => by rw [List.getD_eq_getElem?_getD, List.getElem?_replicate]; split <;> rfl, rfl, hc, hK⟩, List.length_replicate, hs0, fun _ h => h, fun _ h => h, rfl, .perm (.swap _ _ _) (.refl _)⟩ ?_
  rintro n ρ M ⟨g, Lc, out, a, m, c, Mq, MM, pl, pll, hcase, hout, hsl, hMq, hL, rfl, hM⟩
  refine Cd.sub hM ?_
  clear hM M
  have hm := slN_len hsl
  subst hm
  refine Cd.nodup fun hnd => ?_
  have d12 : (b1 = b2) = False := eq_false ((nodup_cases hnd).1 (b2, ints .i64 out) (by simp))
  have d21 : (b2 = b1) = False := eq_false fun e => (nodup_cases hnd).1 (b2, ints .i64 out) (by simp) e.symm
  skip
  skip
  refine Cd.seq ?_
  refine Cd.rs [1, 4, 24] fun K hK => ?_
  simp (maxSteps := 2000000) (disch := first | (simp only [E4, e1d, d12, d21] <;> omega) | omega | fail) only [↓E2, E3, bare, bareJ, ↓E0, E1, env0, envN, evOps, evOp, evQs, evQ, evV, setD, pureOp, ev, upd, updL, binW, eqOp, binV, intOp, shOp, boolOp, fieldAddrV, cellAt, cellsAt, findB, lenV, hav, delB, eqL, SameI, strOp, ↓reduceIte, Zj, Zk, Nat.reduceAdd, Nat.reduceLT, Nat.reduceEqDiff, Nat.reduceMul, Nat.reduceLeDiff, if_true, Zn, reduceCtorEq, ZA, eq_self, Int.reduceLE, Int.reduceLT, Int.reduceToNat, ne_eq, Nat.reduceSub, Tfld35_1, Tld31, Tslce31, e1d, nb2_b1, d12, d21]
  repeat refine And.intro (by omega) ?_
  repeat refine And.intro (by omega) ?_
  intro g
  simp only [List.map_cons, List.map_nil, updL, upd, Nat.reduceEqDiff, if_true, if_false, ↓reduceIte]
  refine hK _ _ ?_; clear hK K
  refine Cd.condd rfl (fun h2 => ?_) (fun h2 => ?_)
  · rcases hcase with ⟨d', hd', rfl, rfl, rfl, hne, hoz, hcw, hcc, hlc⟩ | ⟨_, rfl, _⟩
    · rcases hsl with ⟨e, _, _⟩ | ⟨bq, mq, cq, csq, e, rfl, hrq⟩
      · have := congrArg List.length e
        rw [ints_length, symL_len] at this
        simp only [List.length_nil] at this
        omega
      have hsy : (symL d' Lc).length = 2 * d' + 1 := symL_len
      have hcs0 : (symL d' Lc).getD 0 0 = Lc.getD d' 0 := by rw [symL_get (by omega), if_pos (by omega)]; rfl
      cases e
      have e1 : (b1 = bq) = False := eq_false ((nodup_cases hnd).1 (bq, csq) (by simp [hMq]))
      have e2 : (b2 = bq) = False := eq_false ((nodup_cases (nodup_cases hnd).2).1 (bq, csq) (by simp [hMq]))
      have fq := findB_of (nodup_cases (nodup_cases hnd).2).2 (b := bq) (cs := csq) (by simp [hMq])
      have g0 := hrq.get (ints_get (k := .i64) (l := symL d' Lc) (i := 0) (by omega))
      rw [hcs0] at g0
      have hck := hcc d'
      have hcb : -1000000000000 ≤ Lc.getD d' 0 ∧ Lc.getD d' 0 ≤ 1000000000000 := by
        unfold coOk at hck
        simpa using hck
      have ed : (0 : Int) - -(d' : Int) = (d' : Int) := by omega
      have hstep : ∀ i, i < 2 * d' + 1 → (symL d' Lc).getD i 0 - Lc.getD d' 0 * (binR (2 * (d' : Int)) i * (1 - 2 * ((i : Int) % 2))) = (symL d' (cwN d' Lc)).getD i 0 := fun i hi => symL_step (by omega) (by omega) hi
      have hall : ∀ j, -1000000000000 ≤ (symL d' Lc).getD j 0 ∧ (symL d' Lc).getD j 0 ≤ 1000000000000 := by
        intro j
        by_cases hj : j < 2 * d' + 1
        · rw [symL_get hj]
          have := hcc (if j ≤ d' then d' - j else j - d')
          unfold coOk at this
          simpa using this
        · rw [getD_far (by omega)]; omega
      generalize hcd : Lc.getD d' 0 = cc at *
      refine Cd.skip ?_
      refine thenN ?_
      refine Cd.block ?_
      skip
      refine Cd.rs [1, 4, 5] fun K hK => ?_
      simp (maxSteps := 2000000) (disch := first | (simp only [E4, e1d, d12, d21, e1, e2, fq, g0, ed, hout, hsy] <;> omega) | omega | fail) only [↓E2, E3, bare, bareJ, ↓E0, E1, env0, envN, evOps, evOp, evQs, evQ, evV, setD, pureOp, ev, upd, updL, unV, fieldAddrV, cellAt, cellsAt, findB, hav, delB, ↓reduceIte, Zj, Zk, Nat.reduceAdd, Nat.reduceLT, Nat.reduceEqDiff, Nat.reduceMul, Nat.reduceLeDiff, if_true, Zn, reduceCtorEq, ZA, eq_self, Int.reduceLE, Int.reduceLT, Int.reduceToNat, ne_eq, Nat.reduceSub, Tfld35_0, Tld2, e1d, nb2_b1, d12, d21, e1, e2, fq, g0, ed, hout, hsy]
      repeat refine And.intro (by omega) ?_
      repeat refine And.intro (by omega) ?_
      intro g
      simp only [List.map_cons, List.map_nil, updL, upd, Nat.reduceEqDiff, if_true, if_false, ↓reduceIte]
      refine hK _ _ ?_; clear hK K
      refine Cd.rs [1, 4, 5] fun K hK => ?_
      simp (maxSteps := 2000000) (disch := first | (simp only [E4, e1d, d12, d21, e1, e2, fq, g0, ed, hout, hsy] <;> omega) | omega | fail) only [↓E2, E3, bare, bareJ, ↓E0, E1, env0, envN, evOps, evOp, evQs, evQ, evV, setD, pureOp, ev, upd, updL, fieldAddrV, indexAddrV, cellAt, cellsAt, findB, setB, Value.cells, hav, delB, ↓reduceIte, Zj, Zk, Nat.reduceAdd, Nat.reduceLT, Nat.reduceEqDiff, Nat.reduceMul, Nat.reduceLeDiff, if_true, Zn, reduceCtorEq, ZA, eq_self, Int.reduceLE, Int.reduceLT, Int.reduceToNat, ne_eq, Nat.reduceSub, Tfld35_1, Tld2, Tld31, Tslc31, Tst2, e1d, nb2_b1, d12, d21, e1, e2, fq, g0, ed, hout, hsy]
      repeat refine And.intro (by omega) ?_
      repeat refine And.intro (by omega) ?_
      intro g
      simp only [List.map_cons, List.map_nil, updL, upd, Nat.reduceEqDiff, if_true, if_false, ↓reduceIte]
      refine hK _ _ ?_; clear hK K
      have gout : (out.set d' cc).getD d' 0 = cc := by rw [getD_set0 (by omega), if_pos rfl]
      have hout2 : (out.set d' cc).length = d + 1 := by rw [List.length_set, hout]
      generalize hO2 : out.set d' cc = O2 at *
      skip
      refine Cd.seq ?_
      refine Cd.rs [1, 4, 5, 40] fun K hK => ?_
      simp (maxSteps := 2000000) (disch := first | (simp only [E4, e1d, d12, d21, e1, e2, fq, g0, ed, hout, hsy, gout, hout2] <;> omega) | omega | fail) only [↓E2, E3, bare, bareJ, ↓E0, E1, env0, envN, evOps, evOp, evQs, evQ, evV, setD, pureOp, ev, upd, updL, unV, indexAddrV, cellAt, cellsAt, findB, setB, hav, delB, ↓reduceIte, Zj, Zk, Nat.reduceAdd, Nat.reduceLT, Nat.reduceEqDiff, Nat.reduceMul, Nat.reduceLeDiff, if_true, Zn, reduceCtorEq, ZA, eq_self, Int.reduceLE, Int.reduceLT, Int.reduceToNat, ne_eq, Nat.reduceSub, Tld2, Tslc31, e1d, nb2_b1, d12, d21, e1, e2, fq, g0, ed, hout, hsy, gout, hout2]
      repeat refine And.intro (by omega) ?_
      refine callK_gives (l01In_c _ _ _) ?_
      simp (maxSteps := 2000000) (disch := first | (simp only [E4, e1d, d12, d21, e1, e2, fq, g0, ed, hout, hsy, gout, hout2] <;> omega) | omega | fail) only [↓E2, E3, bare, bareJ, ↓E0, E1, env0, envN, evOps, evOp, evQs, evQ, evV, setD, pureOp, ev, upd, updL, unV, indexAddrV, cellAt, cellsAt, findB, setB, hav, delB, ↓reduceIte, Zj, Zk, Nat.reduceAdd, Nat.reduceLT, Nat.reduceEqDiff, Nat.reduceMul, Nat.reduceLeDiff, if_true, Zn, reduceCtorEq, ZA, eq_self, Int.reduceLE, Int.reduceLT, Int.reduceToNat, ne_eq, Nat.reduceSub, Tld2, Tslc31, e1d, nb2_b1, d12, d21, e1, e2, fq, g0, ed, hout, hsy, gout, hout2]
      repeat refine And.intro (by omega) ?_
      repeat refine And.intro (by omega) ?_
      intro g
      simp only [List.map_cons, List.map_nil, updL, upd, Nat.reduceEqDiff, if_true, if_false, ↓reduceIte]
      refine hK _ _ ?_; clear hK K
      refine Cd.cond rfl (fun h3 => by rw [decide_eq_true hcb.1, decide_eq_true hcb.2] at h3; cases h3) (fun h3 => ?_)
      refine Cd.skip ?_
      refine thenN ?_
      refine Cd.rs [1, 4, 5, 6, 7] fun K hK => ?_
      simp (maxSteps := 2000000) (disch := first | (simp only [E4, e1d, d12, d21, e1, e2, fq, g0, ed, hout, hsy, gout, hout2] <;> omega) | omega | fail) only [↓E2, E3, bare, bareJ, ↓E0, E1, evP, env0, envN, evOps, evOp, evQs, evQ, evV, setD, pureOp, ev, upd, updL, Value.cells, hav, bslQ, partsOk, partsCells, delB, ↓reduceIte, Zj, Zk, Nat.reduceAdd, Nat.reduceLT, Nat.reduceEqDiff, Nat.reduceMul, Nat.reduceLeDiff, if_true, Zn, reduceCtorEq, ZA, eq_self, Int.reduceLE, Int.reduceLT, Int.reduceToNat, ne_eq, Nat.reduceSub, Tby2, Tslc31, Tslce31, Tzero2, e1d, nb2_b1, d12, d21, e1, e2, fq, g0, ed, hout, hsy, gout, hout2]
      repeat refine And.intro (by omega) ?_
      intro b4 hb4
      have nb4_b2 := hb4.ne
      have nb4_b1 := hb4.tail.ne
      try simp (maxSteps := 2000000) (disch := first | (simp only [E4, e1d, d12, d21, e1, e2, fq, g0, ed, hout, hsy, gout, hout2] <;> omega) | omega | fail) only [↓E2, E3, bare, bareJ, ↓E0, E1, evP, env0, envN, evOps, evOp, evQs, evQ, evV, setD, pureOp, ev, upd, updL, Value.cells, hav, bslQ, partsOk, partsCells, delB, ↓reduceIte, Zj, Zk, Nat.reduceAdd, Nat.reduceLT, Nat.reduceEqDiff, Nat.reduceMul, Nat.reduceLeDiff, if_true, Zn, reduceCtorEq, ZA, eq_self, Int.reduceLE, Int.reduceLT, Int.reduceToNat, ne_eq, Nat.reduceSub, Tby2, Tslc31, Tslce31, Tzero2, e1d, nb2_b1, d12, d21, e1, e2, fq, g0, ed, hout, hsy, gout, hout2, nb4_b2, nb4_b1]
      repeat refine And.intro (by omega) ?_
      repeat refine And.intro (by omega) ?_
      intro g
      simp only [List.map_cons, List.map_nil, updL, upd, Nat.reduceEqDiff, if_true, if_false, ↓reduceIte]
      refine hK _ _ ?_; clear hK K
      refine Cd.seq ?_
      refine Cd.rs [1, 4, 5, 6, 7, 8] fun K hK => ?_
      simp (maxSteps := 2000000) (disch := first | (simp only [E4, e1d, d12, d21, e1, e2, fq, g0, ed, hout, hsy, gout, hout2] <;> omega) | omega | fail) only [↓E2, E3, bare, bareJ, ↓E0, E1, env0, envN, evOps, evOp, evQs, evQ, evV, setD, pureOp, ev, upd, updL, hav, delB, ↓reduceIte, Zj, Zk, Nat.reduceAdd, Nat.reduceLT, Nat.reduceEqDiff, Nat.reduceMul, Nat.reduceLeDiff, if_true, Zn, reduceCtorEq, ZA, eq_self, Int.reduceLE, Int.reduceLT, Int.reduceToNat, ne_eq, Nat.reduceSub, e1d, nb2_b1, d12, d21, e1, e2, fq, g0, ed, hout, hsy, gout, hout2, nb4_b2, nb4_b1]
      repeat refine And.intro (by omega) ?_
      repeat refine And.intro (by omega) ?_
      intro g
      simp only [List.map_cons, List.map_nil, updL, upd, Nat.reduceEqDiff, if_true, if_false, ↓reduceIte]
      refine hK _ _ ?_; clear hK K
      refine Cd.block ?_
      refine Cd.loop (fun q ρ M => ∃ g i bl cap cs, i + q = 2 * d' + 1 ∧ Row 1 (ints .i64 (bnL d' i)) i cap cs ∧ ρ = updL [(1, .pointer (some ⟨b1, 0, none⟩)), (4, .slice (some ⟨b2, 0, none⟩) (d + 1) (d + 1)), (5, .int .i64 (d' : Int)), (6, .slice (some ⟨bl, 0, none⟩) i cap), (7, .int .i64 (binR (2 * (d' : Int)) i)), (8, .int .i64 (i : Int))] g ∧
        SubP ((bl, cs) :: (b1, [.int .i64 (-(d' : Int)), .slice (some ⟨bq, 0, none⟩) (2 * d' + 1) c]) :: (b2, ints .i64 O2) :: MM) M) (2 * d' + 1) ⟨_, 0, b4, 0, [], Nat.zero_add _, Row.nil 1, rfl, SubP.refl _⟩ ?_
      rintro q ρ M ⟨g, i, bl, cap, cs, hi, hrow, rfl, hM⟩
      refine Cd.sub hM ?_
      clear hM M
      have s1 := hrow.size1
      have s2 := hrow.le
      refine Cd.nodup fun hnd2 => ?_
      have r1 : (bl = b1) = False := eq_false ((nodup_cases hnd2).1 (b1, [.int .i64 (-(d' : Int)), .slice (some ⟨bq, 0, none⟩) (2 * d' + 1) c]) (by simp))
      have r2 : (bl = b2) = False := eq_false ((nodup_cases hnd2).1 (b2, ints .i64 O2) (by simp))
      have r3 : (bl = bq) = False := eq_false ((nodup_cases hnd2).1 (bq, csq) (by simp [hMq]))
      skip
      skip
      refine Cd.seq ?_
      refine Cd.rs [1, 4, 5, 6, 7, 8, 45] fun K hK => ?_
      simp (maxSteps := 2000000) (disch := first | (simp only [E4, e1d, d12, d21, e1, e2, fq, g0, ed, hout, hsy, gout, hout2, r1, r2, r3] <;> omega) | omega | fail) only [↓E2, E3, bare, bareJ, ↓E0, E1, env0, envN, evOps, evOp, evQs, evQ, evV, setD, pureOp, ev, upd, updL, binW, eqOp, binV, intOp, shOp, boolOp, hav, delB, eqL, SameI, strOp, ↓reduceIte, Zj, Zk, Nat.reduceAdd, Nat.reduceLT, Nat.reduceEqDiff, Nat.reduceMul, Nat.reduceLeDiff, if_true, Zn, reduceCtorEq, ZA, eq_self, Int.reduceLE, Int.reduceLT, Int.reduceToNat, ne_eq, Nat.reduceSub, e1d, nb2_b1, d12, d21, e1, e2, fq, g0, ed, hout, hsy, gout, hout2, nb4_b2, nb4_b1, r1, r2, r3]
      repeat refine And.intro (by omega) ?_
      repeat refine And.intro (by omega) ?_
      intro g
      simp only [List.map_cons, List.map_nil, updL, upd, Nat.reduceEqDiff, if_true, if_false, ↓reduceIte]
      refine hK _ _ ?_; clear hK K
      refine Cd.condd rfl (fun h4 => ?_) (fun h4 => ?_)
      · have hb := binR_bound d' (by omega) i (by omega)
        have hs : binR (2 * (d' : Int)) (i + 1) = binR (2 * (d' : Int)) i * (2 * (d' : Int) - (i : Int)) / ((i : Int) + 1) := rfl
        have hp1 := mul_bd (a := binR (2 * (d' : Int)) i) (b := 2 * (d' : Int) - (i : Int)) (A := 137846528820) (B := 40) (by omega) (by omega)
        have hp0 : 0 ≤ binR (2 * (d' : Int)) i * (2 * (d' : Int) - (i : Int)) := Int.mul_nonneg (by omega) (by omega)
        have hp2 := mul_bd (a := binR (2 * (d' : Int)) i) (b := 1 - 2 * ((i : Int) % 2)) (A := 137846528820) (B := 1) (by omega) (by omega)
        have hsucc := bnL_succ (d := d') (i := i)
        have hdv : ∀ z : Int, 0 ≤ z → z ≤ 5513861152800 → 0 ≤ z / ((i : Int) + 1) ∧ z / ((i : Int) + 1) ≤ 5513861152800 := fun z h1 h2 => ⟨Int.ediv_nonneg h1 (by omega), Int.le_trans (Int.ediv_le_self _ h1) h2⟩
        generalize hpp : binR (2 * (d' : Int)) i * (2 * (d' : Int) - (i : Int)) = pp at *
        generalize hqq : binR (2 * (d' : Int)) i * (1 - 2 * ((i : Int) % 2)) = qq at *
        have hd1 := hdv pp hp0 (by omega)
        have hq : pp / ((i : Int) + 1) = binR (2 * (d' : Int)) (i + 1) := hs.symm
        rw [hq] at hd1
        refine Cd.skip ?_
        refine thenN ?_
        refine Cd.seq ?_
        refine Cd.block ?_
        skip
        refine Cd.rs [1, 4, 5, 6, 7, 8] fun K hK => ?_
        simp (maxSteps := 2000000) (disch := first | (simp only [E4, e1d, d12, d21, e1, e2, fq, g0, ed, hout, hsy, gout, hout2, r1, r2, r3, hpp, hqq, hq] <;> omega) | omega | fail) only [↓E2, E3, bare, bareJ, ↓E0, E1, evP, env0, envN, evOps, evOp, evQs, evQ, evV, setD, pureOp, ev, upd, updL, binW, eqOp, binV, intOp, shOp, boolOp, cellAt, cellsAt, findB, Value.cells, lenV, hav, bslQ, appQ, partsOk, partsCells, delB, eqL, SameI, strOp, apzQ, ↓reduceIte, Zj, Zk, Nat.reduceAdd, Nat.reduceLT, Nat.reduceEqDiff, Nat.reduceMul, Nat.reduceLeDiff, if_true, Zn, reduceCtorEq, ZA, eq_self, Int.reduceLE, Int.reduceLT, Int.reduceToNat, ne_eq, Nat.reduceSub, Tby2, Tslc31, Tslce31, Tzero2, e1d, nb2_b1, d12, d21, e1, e2, fq, g0, ed, hout, hsy, gout, hout2, nb4_b2, nb4_b1, r1, r2, r3, hpp, hqq, hq]
        repeat refine And.intro (by omega) ?_
        intro b5 hb5
        have nb5_bl := hb5.ne
        have nb5_b2 := hb5.tail.ne
        have nb5_b1 := hb5.tail.tail.ne
        try simp (maxSteps := 2000000) (disch := first | (simp only [E4, e1d, d12, d21, e1, e2, fq, g0, ed, hout, hsy, gout, hout2, r1, r2, r3, hpp, hqq, hq] <;> omega) | omega | fail) only [↓E2, E3, bare, bareJ, ↓E0, E1, evP, env0, envN, evOps, evOp, evQs, evQ, evV, setD, pureOp, ev, upd, updL, binW, eqOp, binV, intOp, shOp, boolOp, cellAt, cellsAt, findB, Value.cells, lenV, hav, bslQ, appQ, partsOk, partsCells, delB, eqL, SameI, strOp, apzQ, ↓reduceIte, Zj, Zk, Nat.reduceAdd, Nat.reduceLT, Nat.reduceEqDiff, Nat.reduceMul, Nat.reduceLeDiff, if_true, Zn, reduceCtorEq, ZA, eq_self, Int.reduceLE, Int.reduceLT, Int.reduceToNat, ne_eq, Nat.reduceSub, Tby2, Tslc31, Tslce31, Tzero2, e1d, nb2_b1, d12, d21, e1, e2, fq, g0, ed, hout, hsy, gout, hout2, nb4_b2, nb4_b1, r1, r2, r3, hpp, hqq, hq, nb5_bl, nb5_b2, nb5_b1]
        repeat refine And.intro (by omega) ?_
        intro b' cap' rest' hf hc hr'
        have hr2 := hrow.snoc1 (news := [.int .i64 qq]) rfl hc hr'
        rw [ints_snoc, ← hsucc] at hr2
        repeat refine And.intro (by omega) ?_
        intro g
        simp only [List.map_cons, List.map_nil, updL, upd, Nat.reduceEqDiff, if_true, if_false, ↓reduceIte]
        refine hK _ _ ?_; clear hK K
        refine Cd.rr [1, 4, 5, 6, 7, 8] fun K hK => ?_
        simp (maxSteps := 2000000) (disch := first | (simp only [E4, e1d, d12, d21, e1, e2, fq, g0, ed, hout, hsy, gout, hout2, r1, r2, r3, hpp, hqq, hq] <;> omega) | omega | fail) only [↓E2, E3, bare, bareJ, ↓E0, E1, env0, envN, evOps, evOp, evQs, evQ, evV, setD, pureOp, ev, upd, updL, binW, eqOp, binV, intOp, shOp, boolOp, hav, delB, eqL, SameI, strOp, ↓reduceIte, Zj, Zk, Nat.reduceAdd, Nat.reduceLT, Nat.reduceEqDiff, Nat.reduceMul, Nat.reduceLeDiff, if_true, Zn, reduceCtorEq, ZA, eq_self, Int.reduceLE, Int.reduceLT, Int.reduceToNat, ne_eq, Nat.reduceSub, e1d, nb2_b1, d12, d21, e1, e2, fq, g0, ed, hout, hsy, gout, hout2, nb4_b2, nb4_b1, r1, r2, r3, hpp, hqq, hq, nb5_bl, nb5_b2, nb5_b1]
        repeat refine And.intro (by omega) ?_
        repeat refine And.intro (by omega) ?_
        intro g
        simp only [List.map_cons, List.map_nil, updL, upd, Nat.reduceEqDiff, if_true, if_false, ↓reduceIte]
        refine hK _ _ ?_; clear hK K
        refine inBN ?_
        refine thenN ?_
        refine Cd.rr [1, 4, 5, 6, 7, 8] fun K hK => ?_
        simp (maxSteps := 2000000) (disch := first | (simp only [E4, e1d, d12, d21, e1, e2, fq, g0, ed, hout, hsy, gout, hout2, r1, r2, r3, hpp, hqq, hq] <;> omega) | omega | fail) only [↓E2, E3, bare, bareJ, ↓E0, E1, env0, envN, evOps, evOp, evQs, evQ, evV, setD, pureOp, ev, upd, updL, binW, eqOp, binV, intOp, shOp, boolOp, hav, delB, eqL, SameI, strOp, ↓reduceIte, Zj, Zk, Nat.reduceAdd, Nat.reduceLT, Nat.reduceEqDiff, Nat.reduceMul, Nat.reduceLeDiff, if_true, Zn, reduceCtorEq, ZA, eq_self, Int.reduceLE, Int.reduceLT, Int.reduceToNat, ne_eq, Nat.reduceSub, e1d, nb2_b1, d12, d21, e1, e2, fq, g0, ed, hout, hsy, gout, hout2, nb4_b2, nb4_b1, r1, r2, r3, hpp, hqq, hq, nb5_bl, nb5_b2, nb5_b1]
        repeat refine And.intro (by omega) ?_
        repeat refine And.intro (by omega) ?_
        intro g
        simp only [List.map_cons, List.map_nil, updL, upd, Nat.reduceEqDiff, if_true, if_false, ↓reduceIte]
        refine hK _ _ ?_; clear hK K
        exact roundN (m := q - 1) (by omega) ⟨_, i + 1, b', cap', _, by omega, hr2, rfl, SubP.of (.cons_cons _ (.cons _ (.refl _)))⟩
      · obtain rfl : i = 2 * d' + 1 := by omega
        rw [← cwQ_zero (L := Lc)] at hrow
        refine Cd.exit (thenX (roundX (inBX ?_)))
        refine thenN ?_
        refine Cd.seq ?_
        refine Cd.rs [1, 4, 5, 6, 9] fun K hK => ?_
        simp (maxSteps := 2000000) (disch := first | (simp only [E4, e1d, d12, d21, e1, e2, fq, g0, ed, hout, hsy, gout, hout2, r1, r2, r3] <;> omega) | omega | fail) only [↓E2, E3, bare, bareJ, ↓E0, E1, env0, envN, evOps, evOp, evQs, evQ, evV, setD, pureOp, ev, upd, updL, hav, delB, ↓reduceIte, Zj, Zk, Nat.reduceAdd, Nat.reduceLT, Nat.reduceEqDiff, Nat.reduceMul, Nat.reduceLeDiff, if_true, Zn, reduceCtorEq, ZA, eq_self, Int.reduceLE, Int.reduceLT, Int.reduceToNat, ne_eq, Nat.reduceSub, e1d, nb2_b1, d12, d21, e1, e2, fq, g0, ed, hout, hsy, gout, hout2, nb4_b2, nb4_b1, r1, r2, r3]
        repeat refine And.intro (by omega) ?_
        repeat refine And.intro (by omega) ?_
        intro g
        simp only [List.map_cons, List.map_nil, updL, upd, Nat.reduceEqDiff, if_true, if_false, ↓reduceIte]
        refine hK _ _ ?_; clear hK K
        refine Cd.block ?_
        clear s1
        refine Cd.loop (fun q ρ M => ∃ g i cs, i + q = 2 * d' + 1 ∧ (∀ j, j < i → coOk ((symL d' (cwN d' Lc)).getD j 0) = true) ∧ Row 1 (ints .i64 (cwQ d' Lc i)) (2 * d' + 1) cap cs ∧ ρ = updL [(1, .pointer (some ⟨b1, 0, none⟩)), (4, .slice (some ⟨b2, 0, none⟩) (d + 1) (d + 1)), (5, .int .i64 (d' : Int)), (6, .slice (some ⟨bl, 0, none⟩) (2 * d' + 1) cap), (9, .int .i64 (i : Int))] g ∧
          SubP ((bl, cs) :: (b1, [.int .i64 (-(d' : Int)), .slice (some ⟨bq, 0, none⟩) (2 * d' + 1) c]) :: (b2, ints .i64 O2) :: MM) M) (2 * d' + 1) ⟨_, 0, cs, Nat.zero_add _, fun j hj => absurd hj (Nat.not_lt_zero _), hrow, rfl, SubP.refl _⟩ ?_
        clear hrow hnd2 s2
        rintro q ρ M ⟨g, i, cs, hi, hok, hrow, rfl, hM⟩
        refine Cd.sub hM ?_
        clear hM M
        have s1 := hrow.size1
        have s2 := hrow.le
        refine Cd.seq ?_
        refine Cd.rs [1, 4, 5, 6, 9, 69] fun K hK => ?_
        simp (maxSteps := 2000000) (disch := first | (simp only [E4, e1d, d12, d21, e1, e2, fq, g0, ed, hout, hsy, gout, hout2, r1, r2, r3] <;> omega) | omega | fail) only [↓E2, E3, bare, bareJ, ↓E0, E1, env0, envN, evOps, evOp, evQs, evQ, evV, setD, pureOp, ev, upd, updL, binW, eqOp, binV, intOp, shOp, boolOp, lenV, hav, delB, eqL, SameI, strOp, ↓reduceIte, Zj, Zk, Nat.reduceAdd, Nat.reduceLT, Nat.reduceEqDiff, Nat.reduceMul, Nat.reduceLeDiff, if_true, Zn, reduceCtorEq, ZA, eq_self, Int.reduceLE, Int.reduceLT, Int.reduceToNat, ne_eq, Nat.reduceSub, Tslce31, e1d, nb2_b1, d12, d21, e1, e2, fq, g0, ed, hout, hsy, gout, hout2, nb4_b2, nb4_b1, r1, r2, r3]
        repeat refine And.intro (by omega) ?_
        repeat refine And.intro (by omega) ?_
        intro g
        simp only [List.map_cons, List.map_nil, updL, upd, Nat.reduceEqDiff, if_true, if_false, ↓reduceIte]
        refine hK _ _ ?_; clear hK K
        refine Cd.condd rfl (fun h5 => ?_) (fun h5 => ?_)
        · have hb := binR_bound d' (by omega) i (by omega)
          have gq := hrq.get (ints_get (k := .i64) (l := symL d' Lc) (i := i) (by omega))
          have gl := hrow.get (ints_get (k := .i64) (l := cwQ d' Lc i) (i := i) (by rw [cwQ_len]; omega))
          rw [cwQ_get (by omega), if_neg (Nat.lt_irrefl _), bnL_get (by omega)] at gl
          have hp2 := mul_bd (a := binR (2 * (d' : Int)) i) (b := 1 - 2 * ((i : Int) % 2)) (A := 137846528820) (B := 1) (by omega) (by omega)
          have hst := hstep i (by omega)
          have hpi := hall i
          generalize binR (2 * (d' : Int)) i * (1 - 2 * ((i : Int) % 2)) = bb at *
          generalize (symL d' Lc).getD i 0 = pi at *
          have hbl : ∀ k, -1000000000000 ≤ ([cc, pi] : List Int).getD k 0 ∧ ([cc, pi] : List Int).getD k 0 ≤ 1000000000000 := by
            intro k
            rcases k with _ | _ | k
            · exact hcb
            · exact hpi
            · simp
          have hbm : ∀ k, -1000000000000 ≤ ([0 - bb, 1] : List Int).getD k 0 ∧ ([0 - bb, 1] : List Int).getD k 0 ≤ 1000000000000 := by
            intro k
            rcases k with _ | _ | k
            · show _ ≤ 0 - bb ∧ 0 - bb ≤ _; omega
            · simp
            · simp
          have hex := fun R v1 v2 h1 h2 => l04Exact_c [cc, pi] [0 - bb, 1] R v1 v2 h1 h2 rfl (by simp) hbl hbm
          rw [exS2, hst] at hex
          have hexv : coOk ((symL d' (cwN d' Lc)).getD i 0) = true → exV [cc, pi] [0 - bb, 1] = (symL d' (cwN d' Lc)).getD i 0 := fun h => by
            rw [exV_ok (by rw [exS2, hst]; exact h), exS2, hst]
          refine Cd.skip ?_
          refine thenN ?_
          refine Cd.seq ?_
          refine Cd.block ?_
          refine Cd.nodup fun hnd3 => ?_
          skip
          refine Cd.ps [1, 4, 5, 6, 9, 10, 11] (Plan.take 0 (Plan.take 1 (Plan.take 2 (Plan.take 3 (Plan.take 4 (Plan.take 5 (Plan.take 6 (Plan.take 7 (Plan.take 8 (Plan.take 10 (Plan.take 11 (Plan.take 12 (Plan.take 13 (Plan.take 14 (Plan.more 9 (Plan.one 15 (Plan.take 16 (Plan.take 17 (Plan.take 18 (Plan.take 19 (Plan.take 20 (Plan.take 21 (Plan.done)))))))) (Plan.one 15 (Plan.one 9 (Plan.take 16 (Plan.take 17 (Plan.take 18 (Plan.take 19 (Plan.take 20 (Plan.take 21 (Plan.done)))))))))))))))))))))))) fol (by kernel_rfl) (Nat.le_of_ble_eq_true rfl) fun K hK => ?_
          have J : ∀ g M', SubP ((bl, cs) :: (b1, [.int .i64 (-(d' : Int)), .slice (some ⟨bq, 0, none⟩) (2 * d' + 1) c]) :: (b2, ints .i64 O2) :: MM) M' → K (updL [(1, .pointer (some ⟨b1, 0, none⟩)), (4, .slice (some ⟨b2, 0, none⟩) (d + 1) (d + 1)), (5, .int .i64 (d' : Int)), (6, .slice (some ⟨bl, 0, none⟩) (2 * d' + 1) cap), (9, .int .i64 (i : Int)), (10, .int .i64 (exV [cc, pi] [0 - bb, 1])), (11, .bool (coOk ((symL d' (cwN d' Lc)).getD i 0)))] g) M' := by
            intro g M' hM
            refine hK _ _ ?_
            clear hK K
            refine Cd.sub hM ?_
            clear hM M'
            refine Cd.seq ?_
            refine Cd.rs [1, 4, 5, 6, 9, 10, 93] fun K hK => ?_
            simp (maxSteps := 2000000) (disch := first | (simp only [E4, e1d, d12, d21, e1, e2, fq, g0, ed, hout, hsy, gout, hout2, r1, r2, r3, gq, gl] <;> omega) | omega | fail) only [↓E2, E3, bare, bareJ, ↓E0, E1, env0, envN, evOps, evOp, evQs, evQ, evV, setD, pureOp, ev, upd, updL, unV, hav, delB, ↓reduceIte, Zj, Zk, Nat.reduceAdd, Nat.reduceLT, Nat.reduceEqDiff, Nat.reduceMul, Nat.reduceLeDiff, if_true, Zn, reduceCtorEq, ZA, eq_self, Int.reduceLE, Int.reduceLT, Int.reduceToNat, ne_eq, Nat.reduceSub, e1d, nb2_b1, d12, d21, e1, e2, fq, g0, ed, hout, hsy, gout, hout2, nb4_b2, nb4_b1, r1, r2, r3, gq, gl]
            repeat refine And.intro (by omega) ?_
            repeat refine And.intro (by omega) ?_
            intro g
            simp only [List.map_cons, List.map_nil, updL, upd, Nat.reduceEqDiff, if_true, if_false, ↓reduceIte]
            refine hK _ _ ?_; clear hK K
            refine Cd.cond rfl (fun h6 => ?_) (fun h6 => ?_)
            · have hbad : coOk ((symL d' (cwN d' Lc)).getD i 0) = false := by simpa using h6
              rw [cwK_no (cwOk_not (by omega) (by omega) hbad)] at hcw
              refine Cd.rs [2, 3] fun K hK => ?_
              simp (maxSteps := 2000000) (disch := first | (simp only [E4, e1d, d12, d21, e1, e2, fq, g0, ed, hout, hsy, gout, hout2, r1, r2, r3, gq, gl] <;> omega) | omega | fail) only [↓E2, E3, bare, bareJ, ↓E0, E1, env0, envN, evOps, evOp, evQs, evQ, evV, setD, pureOp, ev, upd, updL, hav, delB, ↓reduceIte, Zj, Zk, Nat.reduceAdd, Nat.reduceLT, Nat.reduceEqDiff, Nat.reduceMul, Nat.reduceLeDiff, if_true, Zn, reduceCtorEq, ZA, eq_self, Int.reduceLE, Int.reduceLT, Int.reduceToNat, ne_eq, Nat.reduceSub, e1d, nb2_b1, d12, d21, e1, e2, fq, g0, ed, hout, hsy, gout, hout2, nb4_b2, nb4_b1, r1, r2, r3, gq, gl]
              repeat refine And.intro (by omega) ?_
              repeat refine And.intro (by omega) ?_
              intro g
              simp only [List.map_cons, List.map_nil, updL, upd, Nat.reduceEqDiff, if_true, if_false, ↓reduceIte]
              refine hK _ _ ?_; clear hK K
              refine Cd.ret (thenR (inBR (thenR (roundR (inBR (thenR (inBR (roundR (inBR (thenR ?_))))))))))
              simp (maxSteps := 2000000) (disch := first | (simp only [E4, e1d, d12, d21, e1, e2, fq, g0, ed, hout, hsy, gout, hout2, r1, r2, r3, gq, gl] <;> omega) | omega | fail) only [↓E2, E3, bare, bareJ, ↓E0, E1, evP, evPlan, env0, envN, evOps, evOp, evQs, evQ, evV, setD, pureOp, ev, upd, updL, gate, binW, eqOp, binV, intOp, shOp, boolOp, unV, convV, nilV, fieldAddrV, indexAddrV, extractV, cellAt, cellsAt, findB, setB, fillL, buildV, Value.cells, lenV, minV, maxV, hav, sliceV, loV, hiV, bslQ, mksQ, appQ, partsOk, partsCells, delB, eqL, SameI, strOp, apzQ, cvtQ, capV, ↓reduceIte, Zj, Zk, Nat.reduceAdd, Nat.reduceLT, Nat.reduceEqDiff, Nat.reduceMul, Nat.reduceLeDiff, if_true, Zn, reduceCtorEq, ZA, eq_self, Int.reduceLE, Int.reduceLT, Int.reduceToNat, ne_eq, Nat.reduceSub, e1d, nb2_b1, d12, d21, e1, e2, fq, g0, ed, hout, hsy, gout, hout2, nb4_b2, nb4_b1, r1, r2, r3, gq, gl]
              repeat refine And.intro (by omega) ?_
              unfold conP
              rw [hcw]
              exact ⟨fun p hp => by simp [hL p hp], rfl⟩
            · have hgood : coOk ((symL d' (cwN d' Lc)).getD i 0) = true := by simpa using h6
              rw [hexv hgood]
              have hset := hrow.set (j := i) (by omega) (.int .i64 ((symL d' (cwN d' Lc)).getD i 0))
              rw [ints_set, cwQ_set (by omega)] at hset
              refine Cd.skip ?_
              refine thenN ?_
              refine Cd.rr [1, 4, 5, 6, 9] fun K hK => ?_
              simp (maxSteps := 2000000) (disch := first | (simp only [E4, e1d, d12, d21, e1, e2, fq, g0, ed, hout, hsy, gout, hout2, r1, r2, r3, gq, gl] <;> omega) | omega | fail) only [↓E2, E3, bare, bareJ, ↓E0, E1, env0, envN, evOps, evOp, evQs, evQ, evV, setD, pureOp, ev, upd, updL, indexAddrV, cellAt, cellsAt, findB, setB, Value.cells, hav, delB, ↓reduceIte, Zj, Zk, Nat.reduceAdd, Nat.reduceLT, Nat.reduceEqDiff, Nat.reduceMul, Nat.reduceLeDiff, if_true, Zn, reduceCtorEq, ZA, eq_self, Int.reduceLE, Int.reduceLT, Int.reduceToNat, ne_eq, Nat.reduceSub, Tslc31, Tst2, e1d, nb2_b1, d12, d21, e1, e2, fq, g0, ed, hout, hsy, gout, hout2, nb4_b2, nb4_b1, r1, r2, r3, gq, gl]
              repeat refine And.intro (by omega) ?_
              repeat refine And.intro (by omega) ?_
              intro g
              simp only [List.map_cons, List.map_nil, updL, upd, Nat.reduceEqDiff, if_true, if_false, ↓reduceIte]
              refine hK _ _ ?_; clear hK K
              refine inBN ?_
              refine thenN ?_
              refine Cd.rr [1, 4, 5, 6, 9] fun K hK => ?_
              simp (maxSteps := 2000000) (disch := first | (simp only [E4, e1d, d12, d21, e1, e2, fq, g0, ed, hout, hsy, gout, hout2, r1, r2, r3, gq, gl] <;> omega) | omega | fail) only [↓E2, E3, bare, bareJ, ↓E0, E1, env0, envN, evOps, evOp, evQs, evQ, evV, setD, pureOp, ev, upd, updL, binW, eqOp, binV, intOp, shOp, boolOp, hav, delB, eqL, SameI, strOp, ↓reduceIte, Zj, Zk, Nat.reduceAdd, Nat.reduceLT, Nat.reduceEqDiff, Nat.reduceMul, Nat.reduceLeDiff, if_true, Zn, reduceCtorEq, ZA, eq_self, Int.reduceLE, Int.reduceLT, Int.reduceToNat, ne_eq, Nat.reduceSub, e1d, nb2_b1, d12, d21, e1, e2, fq, g0, ed, hout, hsy, gout, hout2, nb4_b2, nb4_b1, r1, r2, r3, gq, gl]
              repeat refine And.intro (by omega) ?_
              repeat refine And.intro (by omega) ?_
              intro g
              simp only [List.map_cons, List.map_nil, updL, upd, Nat.reduceEqDiff, if_true, if_false, ↓reduceIte]
              refine hK _ _ ?_; clear hK K
              refine roundN (m := q - 1) (by omega) ⟨_, i + 1, _, by omega, fun j hj => ?_, hset, rfl, SubP.refl _⟩
              rcases Nat.lt_succ_iff_lt_or_eq.1 hj with h | rfl
              · exact hok j h
              · exact hgood
          clear hK
          simp (maxSteps := 2000000) (disch := first | (simp only [E4, e1d, d12, d21, e1, e2, fq, g0, ed, hout, hsy, gout, hout2, r1, r2, r3, gq, gl] <;> omega) | omega | fail) only [↓E2, E3, bare, bareJ, ↓E0, E1, evP, evPlan, env0, envN, evOps, evOp, evQs, evQ, evV, setD, pureOp, ev, upd, updL, unV, fieldAddrV, indexAddrV, extractV, cellAt, cellsAt, findB, setB, Value.cells, hav, bslQ, partsOk, partsCells, delB, ↓reduceIte, Zj, Zk, Nat.reduceAdd, Nat.reduceLT, Nat.reduceEqDiff, Nat.reduceMul, Nat.reduceLeDiff, if_true, Zn, reduceCtorEq, ZA, eq_self, Int.reduceLE, Int.reduceLT, Int.reduceToNat, ne_eq, Nat.reduceSub, Tby2, Tfld35_1, Tld2, Tld31, Tslc31, Tslce31, Tzero2, ↓YR, e1d, nb2_b1, d12, d21, e1, e2, fq, g0, ed, hout, hsy, gout, hout2, nb4_b2, nb4_b1, r1, r2, r3, gq, gl]
          refine ⟨by omega, by omega, by omega, moreX_go ?_ ?_⟩
          · simp (maxSteps := 2000000) (disch := first | (simp only [E4, e1d, d12, d21, e1, e2, fq, g0, ed, hout, hsy, gout, hout2, r1, r2, r3, gq, gl] <;> omega) | omega | fail) only [↓E2, E3, bare, bareJ, ↓E0, E1, evP, evPlan, env0, envN, evOps, evOp, evQs, evQ, evV, setD, pureOp, ev, upd, updL, unV, fieldAddrV, indexAddrV, extractV, cellAt, cellsAt, findB, setB, Value.cells, hav, bslQ, partsOk, partsCells, delB, ↓reduceIte, Zj, Zk, Nat.reduceAdd, Nat.reduceLT, Nat.reduceEqDiff, Nat.reduceMul, Nat.reduceLeDiff, if_true, Zn, reduceCtorEq, ZA, eq_self, Int.reduceLE, Int.reduceLT, Int.reduceToNat, ne_eq, Nat.reduceSub, Tby2, Tfld35_1, Tld2, Tld31, Tslc31, Tslce31, Tzero2, ↓YR, e1d, nb2_b1, d12, d21, e1, e2, fq, g0, ed, hout, hsy, gout, hout2, nb4_b2, nb4_b1, r1, r2, r3, gq, gl]
            intro b6 hb6
            have nd6 := nodup_fr (cs := [.int .i64 cc, .int .i64 pi]) hb6 hnd3
            try simp (maxSteps := 2000000) (disch := first | (simp only [E4, e1d, d12, d21, e1, e2, fq, g0, ed, hout, hsy, gout, hout2, r1, r2, r3, gq, gl] <;> omega) | omega | fail) only [↓E2, E3, bare, bareJ, ↓E0, E1, evP, evPlan, env0, envN, evOps, evOp, evQs, evQ, evV, setD, pureOp, ev, upd, updL, unV, fieldAddrV, indexAddrV, extractV, cellAt, cellsAt, findB, setB, Value.cells, hav, bslQ, partsOk, partsCells, delB, ↓reduceIte, Zj, Zk, Nat.reduceAdd, Nat.reduceLT, Nat.reduceEqDiff, Nat.reduceMul, Nat.reduceLeDiff, if_true, Zn, reduceCtorEq, ZA, eq_self, Int.reduceLE, Int.reduceLT, Int.reduceToNat, ne_eq, Nat.reduceSub, Tby2, Tfld35_1, Tld2, Tld31, Tslc31, Tslce31, Tzero2, ↓YR, e1d, nb2_b1, d12, d21, e1, e2, fq, g0, ed, hout, hsy, gout, hout2, nb4_b2, nb4_b1, r1, r2, r3, gq, gl]
            repeat refine And.intro (by omega) ?_
            intro b7 hb7
            have nd7 := nodup_fr (cs := [.int .i64 (0 - bb), .int .i64 1]) hb7 nd6
            try simp (maxSteps := 2000000) (disch := first | (simp only [E4, e1d, d12, d21, e1, e2, fq, g0, ed, hout, hsy, gout, hout2, r1, r2, r3, gq, gl] <;> omega) | omega | fail) only [↓E2, E3, bare, bareJ, ↓E0, E1, evP, evPlan, env0, envN, evOps, evOp, evQs, evQ, evV, setD, pureOp, ev, upd, updL, unV, fieldAddrV, indexAddrV, extractV, cellAt, cellsAt, findB, setB, Value.cells, hav, bslQ, partsOk, partsCells, delB, ↓reduceIte, Zj, Zk, Nat.reduceAdd, Nat.reduceLT, Nat.reduceEqDiff, Nat.reduceMul, Nat.reduceLeDiff, if_true, Zn, reduceCtorEq, ZA, eq_self, Int.reduceLE, Int.reduceLT, Int.reduceToNat, ne_eq, Nat.reduceSub, Tby2, Tfld35_1, Tld2, Tld31, Tslc31, Tslce31, Tzero2, ↓YR, e1d, nb2_b1, d12, d21, e1, e2, fq, g0, ed, hout, hsy, gout, hout2, nb4_b2, nb4_b1, r1, r2, r3, gq, gl]
            repeat refine And.intro (by omega) ?_
            refine callP_reads0 (hex _ _ _ (rd_two (a := b6) (b := b7)).1 (rd_two (a := b6) (b := b7)).2) (holds_mem nd7 fun p hp => by simp only [List.mem_cons, List.not_mem_nil, or_false] at hp; rcases hp with rfl | rfl <;> simp [ints]) ?_
            simp (maxSteps := 2000000) (disch := first | (simp only [E4, e1d, d12, d21, e1, e2, fq, g0, ed, hout, hsy, gout, hout2, r1, r2, r3, gq, gl] <;> omega) | omega | fail) only [↓E2, E3, bare, bareJ, ↓E0, E1, evP, evPlan, env0, envN, evOps, evOp, evQs, evQ, evV, setD, pureOp, ev, upd, updL, unV, fieldAddrV, indexAddrV, extractV, cellAt, cellsAt, findB, setB, Value.cells, hav, bslQ, partsOk, partsCells, delB, ↓reduceIte, Zj, Zk, Nat.reduceAdd, Nat.reduceLT, Nat.reduceEqDiff, Nat.reduceMul, Nat.reduceLeDiff, if_true, Zn, reduceCtorEq, ZA, eq_self, Int.reduceLE, Int.reduceLT, Int.reduceToNat, ne_eq, Nat.reduceSub, Tby2, Tfld35_1, Tld2, Tld31, Tslc31, Tslce31, Tzero2, ↓YR, e1d, nb2_b1, d12, d21, e1, e2, fq, g0, ed, hout, hsy, gout, hout2, nb4_b2, nb4_b1, r1, r2, r3, gq, gl]
            repeat refine And.intro (by omega) ?_
            intro g
            simp only [List.map_cons, List.map_nil, updL, upd, Nat.reduceEqDiff, if_true, if_false, ↓reduceIte]
            exact J g _ (SubP.of (.cons _ (.cons _ (.refl _))))
          · simp (maxSteps := 2000000) (disch := first | (simp only [E4, e1d, d12, d21, e1, e2, fq, g0, ed, hout, hsy, gout, hout2, r1, r2, r3, gq, gl] <;> omega) | omega | fail) only [↓E2, E3, bare, bareJ, ↓E0, E1, evP, evPlan, env0, envN, evOps, evOp, evQs, evQ, evV, setD, pureOp, ev, upd, updL, unV, fieldAddrV, indexAddrV, extractV, cellAt, cellsAt, findB, setB, Value.cells, hav, bslQ, partsOk, partsCells, delB, ↓reduceIte, Zj, Zk, Nat.reduceAdd, Nat.reduceLT, Nat.reduceEqDiff, Nat.reduceMul, Nat.reduceLeDiff, if_true, Zn, reduceCtorEq, ZA, eq_self, Int.reduceLE, Int.reduceLT, Int.reduceToNat, ne_eq, Nat.reduceSub, Tby2, Tfld35_1, Tld2, Tld31, Tslc31, Tslce31, Tzero2, ↓YR, e1d, nb2_b1, d12, d21, e1, e2, fq, g0, ed, hout, hsy, gout, hout2, nb4_b2, nb4_b1, r1, r2, r3, gq, gl]
            intro b7 hb7
            have nd6 := nodup_fr (cs := [.int .i64 (0 - bb), .int .i64 1]) hb7 hnd3
            try simp (maxSteps := 2000000) (disch := first | (simp only [E4, e1d, d12, d21, e1, e2, fq, g0, ed, hout, hsy, gout, hout2, r1, r2, r3, gq, gl] <;> omega) | omega | fail) only [↓E2, E3, bare, bareJ, ↓E0, E1, evP, evPlan, env0, envN, evOps, evOp, evQs, evQ, evV, setD, pureOp, ev, upd, updL, unV, fieldAddrV, indexAddrV, extractV, cellAt, cellsAt, findB, setB, Value.cells, hav, bslQ, partsOk, partsCells, delB, ↓reduceIte, Zj, Zk, Nat.reduceAdd, Nat.reduceLT, Nat.reduceEqDiff, Nat.reduceMul, Nat.reduceLeDiff, if_true, Zn, reduceCtorEq, ZA, eq_self, Int.reduceLE, Int.reduceLT, Int.reduceToNat, ne_eq, Nat.reduceSub, Tby2, Tfld35_1, Tld2, Tld31, Tslc31, Tslce31, Tzero2, ↓YR, e1d, nb2_b1, d12, d21, e1, e2, fq, g0, ed, hout, hsy, gout, hout2, nb4_b2, nb4_b1, r1, r2, r3, gq, gl]
            repeat refine And.intro (by omega) ?_
            intro b6 hb6
            have nd7 := nodup_fr (cs := [.int .i64 cc, .int .i64 pi]) hb6 nd6
            try simp (maxSteps := 2000000) (disch := first | (simp only [E4, e1d, d12, d21, e1, e2, fq, g0, ed, hout, hsy, gout, hout2, r1, r2, r3, gq, gl] <;> omega) | omega | fail) only [↓E2, E3, bare, bareJ, ↓E0, E1, evP, evPlan, env0, envN, evOps, evOp, evQs, evQ, evV, setD, pureOp, ev, upd, updL, unV, fieldAddrV, indexAddrV, extractV, cellAt, cellsAt, findB, setB, Value.cells, hav, bslQ, partsOk, partsCells, delB, ↓reduceIte, Zj, Zk, Nat.reduceAdd, Nat.reduceLT, Nat.reduceEqDiff, Nat.reduceMul, Nat.reduceLeDiff, if_true, Zn, reduceCtorEq, ZA, eq_self, Int.reduceLE, Int.reduceLT, Int.reduceToNat, ne_eq, Nat.reduceSub, Tby2, Tfld35_1, Tld2, Tld31, Tslc31, Tslce31, Tzero2, ↓YR, e1d, nb2_b1, d12, d21, e1, e2, fq, g0, ed, hout, hsy, gout, hout2, nb4_b2, nb4_b1, r1, r2, r3, gq, gl]
            repeat refine And.intro (by omega) ?_
            refine callP_reads0 (hex _ _ _ (rd_two (a := b6) (b := b7)).1 (rd_two (a := b6) (b := b7)).2) (holds_mem nd7 fun p hp => by simp only [List.mem_cons, List.not_mem_nil, or_false] at hp; rcases hp with rfl | rfl <;> simp [ints]) ?_
            simp (maxSteps := 2000000) (disch := first | (simp only [E4, e1d, d12, d21, e1, e2, fq, g0, ed, hout, hsy, gout, hout2, r1, r2, r3, gq, gl] <;> omega) | omega | fail) only [↓E2, E3, bare, bareJ, ↓E0, E1, evP, evPlan, env0, envN, evOps, evOp, evQs, evQ, evV, setD, pureOp, ev, upd, updL, unV, fieldAddrV, indexAddrV, extractV, cellAt, cellsAt, findB, setB, Value.cells, hav, bslQ, partsOk, partsCells, delB, ↓reduceIte, Zj, Zk, Nat.reduceAdd, Nat.reduceLT, Nat.reduceEqDiff, Nat.reduceMul, Nat.reduceLeDiff, if_true, Zn, reduceCtorEq, ZA, eq_self, Int.reduceLE, Int.reduceLT, Int.reduceToNat, ne_eq, Nat.reduceSub, Tby2, Tfld35_1, Tld2, Tld31, Tslc31, Tslce31, Tzero2, ↓YR, e1d, nb2_b1, d12, d21, e1, e2, fq, g0, ed, hout, hsy, gout, hout2, nb4_b2, nb4_b1, r1, r2, r3, gq, gl]
            repeat refine And.intro (by omega) ?_
            intro g
            simp only [List.map_cons, List.map_nil, updL, upd, Nat.reduceEqDiff, if_true, if_false, ↓reduceIte]
            exact J g _ (SubP.of (.cons _ (.cons _ (.refl _))))
        · obtain rfl : i = 2 * d' + 1 := by omega
          rw [cwQ_full] at hrow
          have hokk : cwOk d' Lc := cwOk_of (by omega) hok
          have hnl : (cwN d' Lc).length = d + 1 := by rw [cwN_len, hlc]
          have hncc := cwN_ok hokk hcc
          have hnt : (cwN d' Lc).getD d' 0 = 0 := cwN_top (by omega) (by omega)
          have hO2z : ∀ j, j < d' → O2.getD j 0 = 0 := fun j hj => by
            rw [← hO2, getD_set0 (by omega), if_neg (by omega)]
            exact hoz j (by omega)
          rw [cwK_yes hokk, hcd, hO2] at hcw
          refine Cd.exit (thenX (roundX (inBX ?_)))
          refine thenN ?_
          refine Cd.nodup fun hnd3 => ?_
          have hrd : RdS (toldOf [(bl, cs)]) 1 (ints .i64 (symL d' (cwN d' Lc))) (.slice (some ⟨bl, 0, none⟩) (2 * d' + 1) cap) := (SlN.row hrow).reads fun p hp => mem_toldOf hp
          refine Cd.rr [1, 4] fun K hK => ?_
          simp (maxSteps := 2000000) (disch := first | (simp only [E4, e1d, d12, d21, e1, e2, fq, g0, ed, hout, hsy, gout, hout2, r1, r2, r3] <;> omega) | omega | fail) only [↓E2, E3, bare, bareJ, ↓E0, E1, env0, envN, evOps, evOp, evQs, evQ, evV, setD, pureOp, ev, upd, updL, fieldAddrV, cellAt, cellsAt, findB, setB, Value.cells, hav, delB, ↓reduceIte, Zj, Zk, Nat.reduceAdd, Nat.reduceLT, Nat.reduceEqDiff, Nat.reduceMul, Nat.reduceLeDiff, if_true, Zn, reduceCtorEq, ZA, eq_self, Int.reduceLE, Int.reduceLT, Int.reduceToNat, ne_eq, Nat.reduceSub, Tfld35_0, Tld2, Tst35, e1d, nb2_b1, d12, d21, e1, e2, fq, g0, ed, hout, hsy, gout, hout2, nb4_b2, nb4_b1, r1, r2, r3]
          repeat refine And.intro (by omega) ?_
          refine callK_newR0 (l04Trim_c (-(d' : Int)) (symL d' (cwN d' Lc)) _ _ hrd (by rw [symL_len]; omega) (by omega)) (HoldsAll.toldW (holds_mem hnd3 fun p hp => by rw [List.mem_singleton.1 hp]; exact List.mem_cons_self)) ?_
          rintro v' M' ⟨s', rfl, hs'⟩ nd' _
          obtain ⟨a', m', c', rfl⟩ := hs'.form
          simp only [List.cons_append, List.nil_append] at nd' ⊢
          simp (maxSteps := 2000000) (disch := first | (simp only [E4, e1d, d12, d21, e1, e2, fq, g0, ed, hout, hsy, gout, hout2, r1, r2, r3] <;> omega) | omega | fail) only [↓E2, E3, bare, bareJ, ↓E0, E1, env0, envN, evOps, evOp, evQs, evQ, evV, setD, pureOp, ev, upd, updL, fieldAddrV, cellAt, cellsAt, findB, setB, Value.cells, hav, delB, ↓reduceIte, Zj, Zk, Nat.reduceAdd, Nat.reduceLT, Nat.reduceEqDiff, Nat.reduceMul, Nat.reduceLeDiff, if_true, Zn, reduceCtorEq, ZA, eq_self, Int.reduceLE, Int.reduceLT, Int.reduceToNat, ne_eq, Nat.reduceSub, Tfld35_0, Tld2, Tst35, e1d, nb2_b1, d12, d21, e1, e2, fq, g0, ed, hout, hsy, gout, hout2, nb4_b2, nb4_b1, r1, r2, r3]
          repeat refine And.intro (by omega) ?_
          repeat refine And.intro (by omega) ?_
          intro g
          simp only [List.map_cons, List.map_nil, updL, upd, Nat.reduceEqDiff, if_true, if_false, ↓reduceIte]
          refine hK _ _ ?_; clear hK K
          refine inBN ?_
          rcases find_top (cwN d' Lc) d' with hz | ⟨d2, z1, z2, z3⟩
          · have ht := trim_sym_zero (d := d') (L := cwN d' Lc) fun j hj => by
              by_cases e : j = d'
              · rw [e]; exact hnt
              · exact hz j (by omega)
            rw [ht.1] at *
            rw [ht.2] at hs'
            rw [cwK_skips hncc (Nat.zero_le d') (fun j _ hj => ⟨hz j hj, hO2z j hj⟩)] at hcw
            exact roundN (m := 0) (by omega) ⟨_, cwN d' Lc, O2, a', m', c', M', MM ++ M', 0, [], .inr ⟨rfl, rfl, hcw⟩, hout2, hs', fun p hp => List.mem_append_right _ hp, fun p hp => List.mem_append_left _ (hL p hp), rfl, SubP.of (.cons _ (.refl _))⟩
          · have ht := trim_sym (d := d') (d' := d2) (L := cwN d' Lc) (by omega) (by omega) z2 (fun j h1 h2 => by
              by_cases e : j = d'
              · rw [e]; exact hnt
              · exact z3 j h1 (by omega)) hncc
            rw [ht.1]
            rw [ht.2] at hs'
            rw [cwK_skips hncc (show d2 + 1 ≤ d' by omega) (fun j h1 hj => ⟨z3 j (by omega) hj, hO2z j hj⟩)] at hcw
            exact roundN (m := d2 + 1) (by omega) ⟨_, cwN d' Lc, O2, a', m', c', M', MM ++ M', -(d2 : Int), symL d2 (cwN d' Lc), .inl ⟨d2, by omega, rfl, rfl, rfl, z2, fun j hj => hO2z j (by omega), hcw, hncc, hnl⟩, hout2, hs', fun p hp => List.mem_append_right _ hp, fun p hp => List.mem_append_left _ (hL p hp), rfl, SubP.of (.cons _ (.refl _))⟩
    · simp at h2
  · have hpl : pll = [] := by
      rcases hcase with ⟨d', _, _, _, rfl, _⟩ | ⟨_, h, _⟩
      · have : (symL d' Lc).length = 2 * d' + 1 := symL_len
        omega
      · exact h
    rcases hcase with ⟨d', _, _, _, rfl, _⟩ | ⟨rfl, rfl, hfin⟩
    · have : (symL d' Lc).length = 2 * d' + 1 := symL_len
      rw [hpl] at this
      simp at this
    refine Cd.exit (thenX (roundX (inBX ?_)))
    refine thenN ?_
    refine Cd.rs [2, 3] fun K hK => ?_
    simp (maxSteps := 2000000) (disch := first | (simp only [E4, e1d, d12, d21] <;> omega) | omega | fail) only [↓E2, E3, bare, bareJ, ↓E0, E1, env0, envN, evOps, evOp, evQs, evQ, evV, setD, pureOp, ev, upd, updL, hav, delB, ↓reduceIte, Zj, Zk, Nat.reduceAdd, Nat.reduceLT, Nat.reduceEqDiff, Nat.reduceMul, Nat.reduceLeDiff, if_true, Zn, reduceCtorEq, ZA, eq_self, Int.reduceLE, Int.reduceLT, Int.reduceToNat, ne_eq, Nat.reduceSub, e1d, nb2_b1, d12, d21]
    repeat refine And.intro (by omega) ?_
    repeat refine And.intro (by omega) ?_
    intro g
    simp only [List.map_cons, List.map_nil, updL, upd, Nat.reduceEqDiff, if_true, if_false, ↓reduceIte]
    refine hK _ _ ?_; clear hK K
    refine Cd.ret ?_
    simp (maxSteps := 2000000) (disch := first | (simp only [E4, e1d, d12, d21] <;> omega) | omega | fail) only [↓E2, E3, bare, bareJ, ↓E0, E1, evP, evPlan, env0, envN, evOps, evOp, evQs, evQ, evV, setD, pureOp, ev, upd, updL, gate, binW, eqOp, binV, intOp, shOp, boolOp, unV, convV, nilV, fieldAddrV, indexAddrV, extractV, cellAt, cellsAt, findB, setB, fillL, buildV, Value.cells, lenV, minV, maxV, hav, sliceV, loV, hiV, bslQ, mksQ, appQ, partsOk, partsCells, delB, eqL, SameI, strOp, apzQ, cvtQ, capV, ↓reduceIte, Zj, Zk, Nat.reduceAdd, Nat.reduceLT, Nat.reduceEqDiff, Nat.reduceMul, Nat.reduceLeDiff, if_true, Zn, reduceCtorEq, ZA, eq_self, Int.reduceLE, Int.reduceLT, Int.reduceToNat, ne_eq, Nat.reduceSub, e1d, nb2_b1, d12, d21]
    repeat refine And.intro (by omega) ?_
    unfold conP
    rw [hfin]
    exact ⟨fun p hp => by simp [hL p hp], _, [(b2, ints .i64 out)], rfl, SlN.row (Row.full (by rw [ints_length, hout, Nat.mul_one])), fun p hp => by rw [List.mem_singleton.1 hp]; simp, nodup_add hndL hL fun p hp => (nodup_cases (nodup_cases hnd).2).1 p hp⟩
end

end Go.Proofs

/-
  What the functions of this part hand back: each as a plain function of its arguments. Conditions: none.
-/
namespace Go.Proofs
open Go.W8
set_option linter.unusedVariables false
set_option linter.unusedSimpArgs false
set_option linter.unusedSectionVars false
set_option maxRecDepth 8000
set_option maxHeartbeats 4000000
theorem agg2_0 (a b : Value) : (#[a, b] : Array Value).getD 0 undef = a := rfl
theorem agg2_1 (a b : Value) : (#[a, b] : Array Value).getD 1 undef = b := rfl
def conCore (low : Int) (l : List Int) : Option (List Int) := cwK ((-low).toNat + 1) (l.drop (-low).toNat) (List.replicate ((-low).toNat + 1) 0)
def conOut (r : Option (List Int)) : List Int × Int := match r with
  | some out => (out, 0)
  | none => ([], 3)
def conAns (low : Int) (l : List Int) : List Int × Int :=
  if lauOk low l = true then if l.length = 0 then ([], 0) else if isSym low l then if low < -20 then ([], 2) else conOut (conCore low l) else ([], 5) else ([], 1)
def conRes (A : List Int × Int) : Value → Blks → Prop := ResS (SlN 1 (ints .i64 A.1)) A.2
theorem conRes_no {A : List Int × Int} {c : Int} {r : Value} (h : A = ([], c)) (hr : r = .tuple #[.slice none 0 0, .int .i64 c]) : conRes A r [] := by
  subst h; subst hr
  exact ⟨_, rfl, SlN.nil 1⟩
theorem cwK_len : ∀ (k : Nat) (L out r : List Int), cwK k L out = some r → r.length = out.length
  | 0, _, _, _, h => by cases h; rfl
  | k + 1, L, out, r, h => by
    by_cases hok : cwOk k L
    · rw [cwK_yes hok] at h
      rw [cwK_len k _ _ r h, List.length_set]
    · rw [cwK_no hok] at h; cases h
theorem conAns_len (low : Int) (l : List Int) : (conAns low l).1.length ≤ 2001 := by
  unfold conAns
  split
  · split
    · simp
    · split
      · split
        · simp
        · unfold conOut
          split
          · rename_i out h
            have := cwK_len _ _ _ _ h
            rw [List.length_replicate] at this
            rw [this]
            omega
          · simp
      · simp
  · simp
/-- The middle and the half behind it. -/
theorem sym_core {low : Int} {l : List Int} (hok : lauOk low l = true) (h : isSym low l) (h0 : l.length ≠ 0) : ∃ d : Nat, low = -(d : Int) ∧ l = symL d (l.drop d) ∧ (l.drop d).length = d + 1 ∧ (l.drop d).getD d 0 ≠ 0 ∧ (∀ j, coOk ((l.drop d).getD j 0) = true) ∧ conCore low l = cwK (d + 1) (l.drop d) (List.replicate (d + 1) 0) := by
  obtain ⟨d, h1, h2, h3⟩ := sym_form h h0
  have hdr : ∀ j, (l.drop d).getD j 0 = l.getD (d + j) 0 := fun j => by
    rw [List.getD_eq_getElem?_getD, List.getElem?_drop, List.getD_eq_getElem?_getD]
  refine ⟨d, h1, h3, by rw [List.length_drop, h2]; omega, ?_, fun j => ?_, ?_⟩
  · rw [hdr]
    rw [lauOk_pos h0] at hok
    simp only [Bool.and_eq_true, Bool.not_eq_true', beq_eq_false_iff_ne] at hok
    have := hok.1.2
    rw [h2, show 2 * d + 1 - 1 = d + d by omega] at this
    exact this
  · rw [hdr]
    have := lauOk_get hok (d + j)
    unfold coOk
    simpa using this
  · unfold conCore
    rw [h1, show (-(-(d : Int))).toNat = d by omega]
section
variable (p1 : Int) (l1 : List Int) (p2 : Int) (l2 : List Int) (R : Rd) (v1 v2 : Value) (h1 : RdL R p1 l1 v1) (h2 : RdL R p2 l2 v2) (ok1 : lauOk p1 l1 = true) (ok2 : lauOk p2 l2 = true)
include h1 h2 ok1 ok2
end
section
variable (low : Int) (l : List Int) (v : Value) (L : Blks) (hv : LauV low l v L) (hL : (L.map (·.1)).Nodup) (hb : l.length ≤ 100000000) (hw : -9223372036854775808 ≤ low ∧ low < 9223372036854775808)
include hv hL hb hw
end

end Go.Proofs

/-
  What the functions of this part hand back: each as a plain function of its arguments. Conditions: none.
-/
namespace Go.Proofs
open Go.W8
set_option linter.unusedVariables false
set_option linter.unusedSimpArgs false
set_option linter.unusedSectionVars false
set_option maxRecDepth 8000
set_option maxHeartbeats 4000000
def rvL (l : List Int) (k : Nat) : List Int := (List.range l.length).map fun i => if i < k ∨ l.length ≤ i + k then l.getD (l.length - 1 - i) 0 else l.getD i 0
theorem rvL_len (l : List Int) (k : Nat) : (rvL l k).length = l.length := by simp [rvL]
theorem rvL_get {l : List Int} {k i : Nat} (h : i < l.length) : (rvL l k).getD i 0 = if i < k ∨ l.length ≤ i + k then l.getD (l.length - 1 - i) 0 else l.getD i 0 := by
  unfold rvL
  rw [List.getD_eq_getElem?_getD, List.getElem?_map, List.getElem?_range h]; rfl
theorem getD_ext {a b : List Int} (h : a.length = b.length) (hg : ∀ i, i < a.length → a.getD i 0 = b.getD i 0) : a = b := by
  apply List.ext_getElem h
  intro i h1 h2
  have := hg i h1
  rw [List.getD_eq_getElem?_getD, List.getD_eq_getElem?_getD, List.getElem?_eq_getElem h1, List.getElem?_eq_getElem h2] at this
  simpa using this
theorem getD_setR {a : List Int} {i j : Nat} {x : Int} (h : i < a.length) : (a.set i x).getD j 0 = if i = j then x else a.getD j 0 := by
  rw [List.getD_eq_getElem?_getD, List.getD_eq_getElem?_getD, List.getElem?_set]
  split
  · simp_all
  · rfl
theorem rvL_zero (l : List Int) : rvL l 0 = l := by
  refine getD_ext (rvL_len _ _) fun i hi => ?_
  rw [rvL_len] at hi
  rw [rvL_get hi, if_neg (by omega)]
theorem rvL_end {l : List Int} {k : Nat} (h : l.length ≤ 2 * k + 1) : rvL l k = l.reverse := by
  refine getD_ext (by rw [rvL_len, List.length_reverse]) fun i hi => ?_
  rw [rvL_len] at hi
  rw [rvL_get hi, rev_get hi]
  split
  · rfl
  · rw [show l.length - 1 - i = i by omega]
theorem rvL_step {l : List Int} {k : Nat} (h : 2 * k + 1 < l.length) : ((rvL l k).set k (l.getD (l.length - 1 - k) 0)).set (l.length - 1 - k) (l.getD k 0) = rvL l (k + 1) := by
  refine getD_ext (by simp [rvL_len]) fun i hi => ?_
  simp only [List.length_set, rvL_len] at hi
  rw [getD_setR (by rw [List.length_set, rvL_len]; omega), getD_setR (by rw [rvL_len]; omega), rvL_get hi, rvL_get hi]
  by_cases e1 : l.length - 1 - k = i
  · rw [if_pos e1, if_pos (by omega), ← e1, show l.length - 1 - (l.length - 1 - k) = k by omega]
  · rw [if_neg e1]
    by_cases e2 : k = i
    · rw [if_pos e2, if_pos (by omega), e2]
    · rw [if_neg e2]
      by_cases e3 : i < k ∨ l.length ≤ i + k
      · rw [if_pos e3, if_pos (by omega)]
      · rw [if_neg e3, if_neg (by omega)]
theorem Reverse_c (l : List Int) (v : Value) (L : Blks) (h : SlN 1 (ints .i64 l) v L) (hb : l.length ≤ 100000000) : GivesX Try.prog 52 #[v] L [] (fun _ M' => SlN 1 (ints .i64 l.reverse) v M') := by
  obtain ⟨a, cap, rfl⟩ : ∃ a cap, v = .slice a l.length cap := by
    rcases h with ⟨h1, h2, h3⟩ | ⟨b, m, cap, cs, h1, h2, h3⟩
    · have := congrArg List.length h1
      rw [ints_length] at this
      exact ⟨_, _, by rw [this]; exact h2⟩
    · obtain rfl := int64_len h3.len
      exact ⟨_, _, h1⟩
  refine GivesX.of (callable_of Try.func52 rfl (by decide)) ?_ fun w hnd hlt hR => ?_
  · simp
  refine acall_of (N := 28) (c := _) (rs := []) (args := [_]) Try.func52 rfl (by decide) rfl rfl (Nat.le_of_ble_eq_true rfl) ?_
  refine Cd.rs [0, 2, 3] fun K hK => ?_
  simp (maxSteps := 2000000) (disch := first | (simp only [E4] <;> omega) | omega | fail) only [↓E2, E3, bare, bareJ, ↓E0, E1, env0, envN, evOps, evOp, evQs, evQ, evV, setD, pureOp, ev, upd, updL, binW, eqOp, binV, intOp, shOp, boolOp, lenV, hav, delB, eqL, SameI, strOp, ↓reduceIte, Zj, Zk, Nat.reduceAdd, Nat.reduceLT, Nat.reduceEqDiff, Nat.reduceMul, Nat.reduceLeDiff, if_true, Zn, reduceCtorEq, ZA, eq_self, Int.reduceLE, Int.reduceLT, Int.reduceToNat, ne_eq, Nat.reduceSub, Tslce31]
  repeat refine And.intro (by omega) ?_
  repeat refine And.intro (by omega) ?_
  intro g
  simp only [List.map_cons, List.map_nil, updL, upd, Nat.reduceEqDiff, if_true, if_false, ↓reduceIte]
  refine hK _ _ ?_; clear hK K
  refine Cd.block ?_
  refine Cd.loop (fun n ρ M => ∃ g k iv, k + n = l.length ∧ (2 * k ≤ l.length + 1) ∧ iv = (l.length : Int) - 1 - k ∧ ρ = updL [(0, .slice a l.length cap), (2, .int .i64 (k : Int)), (3, .int .i64 iv)] g ∧ SlN 1 (ints .i64 (rvL l k)) (.slice a l.length cap) M) l.length ⟨_, 0, _, Nat.zero_add _, by omega, by omega, rfl, by rw [rvL_zero]; exact h⟩ ?_
  rintro q ρ M ⟨g, k, iv, hk, hk2, hiv, rfl, hM⟩
  refine Cd.seq ?_
  refine Cd.rs [0, 2, 3, 9] fun K hK => ?_
  simp (maxSteps := 2000000) (disch := first | (simp only [E4] <;> omega) | omega | fail) only [↓E2, E3, bare, bareJ, ↓E0, E1, env0, envN, evOps, evOp, evQs, evQ, evV, setD, pureOp, ev, upd, updL, binW, eqOp, binV, intOp, shOp, boolOp, hav, delB, eqL, SameI, strOp, ↓reduceIte, Zj, Zk, Nat.reduceAdd, Nat.reduceLT, Nat.reduceEqDiff, Nat.reduceMul, Nat.reduceLeDiff, if_true, Zn, reduceCtorEq, ZA, eq_self, Int.reduceLE, Int.reduceLT, Int.reduceToNat, ne_eq, Nat.reduceSub]
  repeat refine And.intro (by omega) ?_
  repeat refine And.intro (by omega) ?_
  intro g
  simp only [List.map_cons, List.map_nil, updL, upd, Nat.reduceEqDiff, if_true, if_false, ↓reduceIte]
  refine hK _ _ ?_; clear hK K
  refine Cd.condd rfl (fun h1 => ?_) (fun h1 => ?_)
  · obtain rfl : iv = ((l.length - 1 - k : Nat) : Int) := by omega
    rcases hM with ⟨e, _, _⟩ | ⟨b, m, cap', cs, e, rfl, hr⟩
    · have := congrArg List.length e
      rw [ints_length, rvL_len] at this
      simp only [List.length_nil] at this
      omega
    cases e
    have g1 := hr.get (ints_get (k := .i64) (l := rvL l k) (i := k) (by rw [rvL_len]; omega))
    have g2 := hr.get (ints_get (k := .i64) (l := rvL l k) (i := l.length - 1 - k) (by rw [rvL_len]; omega))
    rw [rvL_get (by omega), if_neg (by omega)] at g1 g2
    have hr1 := hr.set (j := k) (by omega) (.int .i64 (l.getD (l.length - 1 - k) 0))
    have hr2 := hr1.set (j := l.length - 1 - k) (by omega) (.int .i64 (l.getD k 0))
    rw [ints_set, ints_set, rvL_step (by omega)] at hr2
    have f1 := hr.fits (k := k + 1) (by omega)
    have f2 := hr.fits (k := l.length - 1 - k + 1) (by omega)
    skip
    refine Cd.skip ?_
    refine thenN ?_
    refine Cd.seq ?_
    refine Cd.block ?_
    refine Cd.pr [0, 2, 3] (Plan.take 0 (Plan.take 1 (Plan.take 2 (Plan.take 3 (Plan.take 4 (Plan.take 5 (Plan.take 6 (Plan.take 7 (Plan.take 8 (Plan.take 9 (Plan.take 10 (Plan.take 11 (Plan.take 12 (Plan.one 13 (Plan.take 14 (Plan.one 15 (Plan.done))))))))))))))))) fol (by kernel_rfl) (Nat.le_of_ble_eq_true rfl) fun K hK => ?_
    simp (maxSteps := 2000000) (disch := first | (simp only [E4, g1, g2, f1, f2] <;> omega) | omega | fail) only [↓E2, E3, bare, bareJ, ↓E0, E1, evPlan, env0, envN, evOps, evOp, evQs, evQ, evV, setD, pureOp, ev, upd, updL, indexAddrV, cellAt, cellsAt, findB, setB, Value.cells, hav, delB, ↓reduceIte, Zj, Zk, Nat.reduceAdd, Nat.reduceLT, Nat.reduceEqDiff, Nat.reduceMul, Nat.reduceLeDiff, if_true, Zn, reduceCtorEq, ZA, eq_self, Int.reduceLE, Int.reduceLT, Int.reduceToNat, ne_eq, Nat.reduceSub, Tld2, Tslc31, Tst2, g1, g2, f1, f2]
    repeat refine And.intro (by omega) ?_
    repeat refine And.intro (by omega) ?_
    intro g
    simp only [List.map_cons, List.map_nil, updL, upd, Nat.reduceEqDiff, if_true, if_false, ↓reduceIte]
    refine hK _ _ ?_; clear hK K
    refine inBN ?_
    refine thenN ?_
    refine Cd.rr [0, 2, 3] fun K hK => ?_
    simp (maxSteps := 2000000) (disch := first | (simp only [E4, g1, g2, f1, f2] <;> omega) | omega | fail) only [↓E2, E3, bare, bareJ, ↓E0, E1, env0, envN, evOps, evOp, evQs, evQ, evV, setD, pureOp, ev, upd, updL, binW, eqOp, binV, intOp, shOp, boolOp, hav, delB, eqL, SameI, strOp, ↓reduceIte, Zj, Zk, Nat.reduceAdd, Nat.reduceLT, Nat.reduceEqDiff, Nat.reduceMul, Nat.reduceLeDiff, if_true, Zn, reduceCtorEq, ZA, eq_self, Int.reduceLE, Int.reduceLT, Int.reduceToNat, ne_eq, Nat.reduceSub, g1, g2, f1, f2]
    repeat refine And.intro (by omega) ?_
    repeat refine And.intro (by omega) ?_
    intro g
    simp only [List.map_cons, List.map_nil, updL, upd, Nat.reduceEqDiff, if_true, if_false, ↓reduceIte]
    refine hK _ _ ?_; clear hK K
    exact roundN (m := q - 1) (by omega) ⟨_, k + 1, _, by omega, by omega, by omega, rfl, SlN.row hr2⟩
  · refine Cd.exit (thenX (roundX (inBX ?_)))
    rw [rvL_end (by omega)] at hM
    exact ⟨[], rfl, hM⟩
theorem mirror_c (low : Int) (l : List Int) (R : Rd) (v : Value) (h : RdL R low l v) (hok : lauOk low l = true) : GivesX Try.prog 34 #[v] [] R (LauV (mirLow low l) l.reverse) := by
  have q1 := lauOk_low hok
  have q2 := lauOk_len hok
  have q4 := lauOk_high hok
  obtain ⟨a, cap, rfl, hsl⟩ := h.form
  refine GivesX.part ?_
  refine GivesX.of (callable_of Try.func34 rfl (by decide)) ?_ fun w hnd hlt hR => ?_
  · simp
  refine acall_of (N := 17) (c := _) (rs := [.cell 2 35]) (args := [_]) Try.func34 rfl (by decide) rfl rfl (Nat.le_of_ble_eq_true rfl) ?_
  have hR : W8.Told [] w R := hR
  refine Cd.rs [1, 2] fun K hK => ?_
  simp (maxSteps := 2000000) (disch := first | (simp only [E4] <;> omega) | omega | fail) only [↓E2, E3, bare, bareJ, ↓E0, E1, env0, envN, evOps, evOp, evQs, evQ, evV, setD, pureOp, ev, upd, updL, Value.cells, hav, delB, ↓reduceIte, Zj, Zk, Nat.reduceAdd, Nat.reduceLT, Nat.reduceEqDiff, Nat.reduceMul, Nat.reduceLeDiff, if_true, Zn, reduceCtorEq, ZA, eq_self, Int.reduceLE, Int.reduceLT, Int.reduceToNat, ne_eq, Nat.reduceSub, Tzero35]
  repeat refine And.intro (by omega) ?_
  intro b1 hb1
  intro b2 hb2
  have nb2_b1 := hb2.ne
  try simp (maxSteps := 2000000) (disch := first | (simp only [E4] <;> omega) | omega | fail) only [↓E2, E3, bare, bareJ, ↓E0, E1, env0, envN, evOps, evOp, evQs, evQ, evV, setD, pureOp, ev, upd, updL, Value.cells, hav, delB, ↓reduceIte, Zj, Zk, Nat.reduceAdd, Nat.reduceLT, Nat.reduceEqDiff, Nat.reduceMul, Nat.reduceLeDiff, if_true, Zn, reduceCtorEq, ZA, eq_self, Int.reduceLE, Int.reduceLT, Int.reduceToNat, ne_eq, Nat.reduceSub, Tzero35, nb2_b1]
  repeat refine And.intro (by omega) ?_
  repeat refine And.intro (by omega) ?_
  intro g
  simp only [List.map_cons, List.map_nil, updL, upd, Nat.reduceEqDiff, if_true, if_false, ↓reduceIte]
  refine hK _ _ ?_; clear hK K
  refine Cd.seq ?_
  refine Cd.rs [1, 2, 5] fun K hK => ?_
  simp (maxSteps := 2000000) (disch := first | (simp only [E4] <;> omega) | omega | fail) only [↓E2, E3, bare, bareJ, ↓E0, E1, env0, envN, evOps, evOp, evQs, evQ, evV, setD, pureOp, ev, upd, updL, cellAt, cellsAt, findB, setB, hav, delB, ↓reduceIte, Zj, Zk, Nat.reduceAdd, Nat.reduceLT, Nat.reduceEqDiff, Nat.reduceMul, Nat.reduceLeDiff, if_true, Zn, reduceCtorEq, ZA, eq_self, Int.reduceLE, Int.reduceLT, Int.reduceToNat, ne_eq, Nat.reduceSub, Tld35, nb2_b1]
  repeat refine And.intro (by omega) ?_
  refine callK_gives (isZero_c low l a cap) ?_
  simp (maxSteps := 2000000) (disch := first | (simp only [E4] <;> omega) | omega | fail) only [↓E2, E3, bare, bareJ, ↓E0, E1, env0, envN, evOps, evOp, evQs, evQ, evV, setD, pureOp, ev, upd, updL, cellAt, cellsAt, findB, setB, hav, delB, ↓reduceIte, Zj, Zk, Nat.reduceAdd, Nat.reduceLT, Nat.reduceEqDiff, Nat.reduceMul, Nat.reduceLeDiff, if_true, Zn, reduceCtorEq, ZA, eq_self, Int.reduceLE, Int.reduceLT, Int.reduceToNat, ne_eq, Nat.reduceSub, Tld35, nb2_b1]
  repeat refine And.intro (by omega) ?_
  repeat refine And.intro (by omega) ?_
  intro g
  simp only [List.map_cons, List.map_nil, updL, upd, Nat.reduceEqDiff, if_true, if_false, ↓reduceIte]
  refine hK _ _ ?_; clear hK K
  refine Cd.cond rfl (fun h1 => ?_) (fun h1 => ?_)
  · have h0 : l.length = 0 := by simpa using h1
    have e := List.eq_nil_of_length_eq_zero h0
    subst e
    refine Cd.rs [2] fun K hK => ?_
    simp (maxSteps := 2000000) (disch := first | (simp only [E4] <;> omega) | omega | fail) only [↓E2, E3, bare, bareJ, ↓E0, E1, evP, env0, envN, evOps, evOp, evQs, evQ, evV, setD, pureOp, ev, upd, updL, cellAt, cellsAt, findB, setB, fillL, buildV, Value.cells, hav, delB, ↓reduceIte, Zj, Zk, Nat.reduceAdd, Nat.reduceLT, Nat.reduceEqDiff, Nat.reduceMul, Nat.reduceLeDiff, if_true, Zn, reduceCtorEq, ZA, eq_self, Int.reduceLE, Int.reduceLT, Int.reduceToNat, ne_eq, Nat.reduceSub, Tbld35, Tst35, nb2_b1]
    repeat refine And.intro (by omega) ?_
    repeat refine And.intro (by omega) ?_
    intro g
    simp only [List.map_cons, List.map_nil, updL, upd, Nat.reduceEqDiff, if_true, if_false, ↓reduceIte]
    refine hK _ _ ?_; clear hK K
    refine Cd.ret (thenR ?_)
    simp (maxSteps := 2000000) (disch := first | (simp only [E4] <;> omega) | omega | fail) only [↓E2, E3, bare, bareJ, ↓E0, E1, evP, evPlan, env0, envN, evOps, evOp, evQs, evQ, evV, setD, pureOp, ev, upd, updL, gate, binW, eqOp, binV, intOp, shOp, boolOp, unV, convV, nilV, fieldAddrV, indexAddrV, extractV, cellAt, cellsAt, findB, setB, fillL, buildV, Value.cells, lenV, minV, maxV, hav, sliceV, loV, hiV, bslQ, mksQ, appQ, partsOk, partsCells, delB, eqL, SameI, strOp, apzQ, cvtQ, capV, ↓reduceIte, Zj, Zk, Nat.reduceAdd, Nat.reduceLT, Nat.reduceEqDiff, Nat.reduceMul, Nat.reduceLeDiff, if_true, Zn, reduceCtorEq, ZA, eq_self, Int.reduceLE, Int.reduceLT, Int.reduceToNat, ne_eq, Nat.reduceSub, Tld35, nb2_b1]
    repeat refine And.intro (by omega) ?_
    exact ⟨[], SubP.of (List.nil_sublist _), _, rfl, SlN.nil 1⟩
  · have h0 : l.length ≠ 0 := by
      intro e
      rw [e] at h1
      cases h1
    obtain ⟨R', hR', hO⟩ := hsl.toO [] w hR
    refine Cd.skip ?_
    refine thenN ?_
    refine Cd.rs [1, 2, 3] fun K hK => ?_
    simp (maxSteps := 2000000) (disch := first | (simp only [E4] <;> omega) | omega | fail) only [↓E2, E3, bare, bareJ, ↓E0, E1, env0, envN, evOps, evOp, evQs, evQ, evV, setD, pureOp, ev, upd, updL, fieldAddrV, cellAt, cellsAt, findB, setB, hav, delB, ↓reduceIte, Zj, Zk, Nat.reduceAdd, Nat.reduceLT, Nat.reduceEqDiff, Nat.reduceMul, Nat.reduceLeDiff, if_true, Zn, reduceCtorEq, ZA, eq_self, Int.reduceLE, Int.reduceLT, Int.reduceToNat, ne_eq, Nat.reduceSub, Tfld35_1, Tld31, nb2_b1]
    repeat refine And.intro (by omega) ?_
    refine callK_newR0 (Clone_c l _ _ hO (by omega)) (Told.toldW hR') ?_
    intro v2 M2 hs2 nd2 _
    obtain ⟨a2, m2, c2, rfl⟩ := hs2.form
    simp only [List.cons_append, List.nil_append] at nd2 ⊢
    simp (maxSteps := 2000000) (disch := first | (simp only [E4] <;> omega) | omega | fail) only [↓E2, E3, bare, bareJ, ↓E0, E1, env0, envN, evOps, evOp, evQs, evQ, evV, setD, pureOp, ev, upd, updL, fieldAddrV, cellAt, cellsAt, findB, setB, hav, delB, ↓reduceIte, Zj, Zk, Nat.reduceAdd, Nat.reduceLT, Nat.reduceEqDiff, Nat.reduceMul, Nat.reduceLeDiff, if_true, Zn, reduceCtorEq, ZA, eq_self, Int.reduceLE, Int.reduceLT, Int.reduceToNat, ne_eq, Nat.reduceSub, Tfld35_1, Tld31, nb2_b1]
    repeat refine And.intro (by omega) ?_
    repeat refine And.intro (by omega) ?_
    intro g
    simp only [List.map_cons, List.map_nil, updL, upd, Nat.reduceEqDiff, if_true, if_false, ↓reduceIte]
    refine hK _ _ ?_; clear hK K
    refine Cd.rs [1, 2, 3] fun K hK => ?_
    simp (maxSteps := 2000000) (disch := first | (simp only [E4] <;> omega) | omega | fail) only [↓E2, E3, bare, bareJ, ↓E0, E1, env0, envN, evOps, evOp, evQs, evQ, evV, setD, pureOp, ev, upd, updL, cellAt, cellsAt, findB, setB, hav, delB, ↓reduceIte, Zj, Zk, Nat.reduceAdd, Nat.reduceLT, Nat.reduceEqDiff, Nat.reduceMul, Nat.reduceLeDiff, if_true, Zn, reduceCtorEq, ZA, eq_self, Int.reduceLE, Int.reduceLT, Int.reduceToNat, ne_eq, Nat.reduceSub, nb2_b1]
    repeat refine And.intro (by omega) ?_
    refine callK_lentB0 (Mr := [(b2, [.int .i64 0, .slice none 0 0]), (b1, [.int .i64 low, .slice a l.length cap])]) (L := M2) (Reverse_c l _ M2 hs2 (by omega)) nd2 rfl (fun w _ => toldW_nil) ?_
    intro r M3 hs3 nd3 _
    simp only [List.cons_append, List.nil_append] at nd3 ⊢
    simp (maxSteps := 2000000) (disch := first | (simp only [E4] <;> omega) | omega | fail) only [↓E2, E3, bare, bareJ, ↓E0, E1, env0, envN, evOps, evOp, evQs, evQ, evV, setD, pureOp, ev, upd, updL, cellAt, cellsAt, findB, setB, hav, delB, ↓reduceIte, Zj, Zk, Nat.reduceAdd, Nat.reduceLT, Nat.reduceEqDiff, Nat.reduceMul, Nat.reduceLeDiff, if_true, Zn, reduceCtorEq, ZA, eq_self, Int.reduceLE, Int.reduceLT, Int.reduceToNat, ne_eq, Nat.reduceSub, nb2_b1]
    repeat refine And.intro (by omega) ?_
    repeat refine And.intro (by omega) ?_
    intro g
    simp only [List.map_cons, List.map_nil, updL, upd, Nat.reduceEqDiff, if_true, if_false, ↓reduceIte]
    refine hK _ _ ?_; clear hK K
    refine Cd.rs [2] fun K hK => ?_
    simp (maxSteps := 2000000) (disch := first | (simp only [E4] <;> omega) | omega | fail) only [↓E2, E3, bare, bareJ, ↓E0, E1, evP, env0, envN, evOps, evOp, evQs, evQ, evV, setD, pureOp, ev, upd, updL, unV, cellAt, cellsAt, findB, setB, fillL, buildV, Value.cells, hav, delB, ↓reduceIte, Zj, Zk, Nat.reduceAdd, Nat.reduceLT, Nat.reduceEqDiff, Nat.reduceMul, Nat.reduceLeDiff, if_true, Zn, reduceCtorEq, ZA, eq_self, Int.reduceLE, Int.reduceLT, Int.reduceToNat, ne_eq, Nat.reduceSub, Tbld35, Tld35, Tst35, nb2_b1]
    repeat refine And.intro (by omega) ?_
    refine callK_gives (high_c low l a cap (by omega) (by omega)) ?_
    simp (maxSteps := 2000000) (disch := first | (simp only [E4] <;> omega) | omega | fail) only [↓E2, E3, bare, bareJ, ↓E0, E1, evP, env0, envN, evOps, evOp, evQs, evQ, evV, setD, pureOp, ev, upd, updL, unV, cellAt, cellsAt, findB, setB, fillL, buildV, Value.cells, hav, delB, ↓reduceIte, Zj, Zk, Nat.reduceAdd, Nat.reduceLT, Nat.reduceEqDiff, Nat.reduceMul, Nat.reduceLeDiff, if_true, Zn, reduceCtorEq, ZA, eq_self, Int.reduceLE, Int.reduceLT, Int.reduceToNat, ne_eq, Nat.reduceSub, Tbld35, Tld35, Tst35, nb2_b1]
    repeat refine And.intro (by omega) ?_
    repeat refine And.intro (by omega) ?_
    intro g
    simp only [List.map_cons, List.map_nil, updL, upd, Nat.reduceEqDiff, if_true, if_false, ↓reduceIte]
    refine hK _ _ ?_; clear hK K
    refine Cd.ret ?_
    simp (maxSteps := 2000000) (disch := first | (simp only [E4] <;> omega) | omega | fail) only [↓E2, E3, bare, bareJ, ↓E0, E1, evP, evPlan, env0, envN, evOps, evOp, evQs, evQ, evV, setD, pureOp, ev, upd, updL, gate, binW, eqOp, binV, intOp, shOp, boolOp, unV, convV, nilV, fieldAddrV, indexAddrV, extractV, cellAt, cellsAt, findB, setB, fillL, buildV, Value.cells, lenV, minV, maxV, hav, sliceV, loV, hiV, bslQ, mksQ, appQ, partsOk, partsCells, delB, eqL, SameI, strOp, apzQ, cvtQ, capV, ↓reduceIte, Zj, Zk, Nat.reduceAdd, Nat.reduceLT, Nat.reduceEqDiff, Nat.reduceMul, Nat.reduceLeDiff, if_true, Zn, reduceCtorEq, ZA, eq_self, Int.reduceLE, Int.reduceLT, Int.reduceToNat, ne_eq, Nat.reduceSub, Tld35, nb2_b1]
    repeat refine And.intro (by omega) ?_
    refine ⟨M3, SubP.of (List.Sublist.cons _ (List.Sublist.cons _ (List.Sublist.refl _))), _, ?_, hs3⟩
    unfold mirLow
    rw [if_neg h0]
    simp only [Value.agg.injEq, Array.mk.injEq, List.cons.injEq, Value.int.injEq, true_and, and_true]
    omega

end Go.Proofs

