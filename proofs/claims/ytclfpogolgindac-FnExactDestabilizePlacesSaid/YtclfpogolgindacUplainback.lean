/-
  What the functions of this part hand back: each as a plain function of its arguments. Conditions: none.
-/
import Derived.Test.YtclfpogolgindacLZ
import Derived.ProofKit
import Derived.OpenShut
import Derived.Below
import Derived.ChangeSame
import Derived.Test.YtclfpogolgindacUplaingrow
namespace Go.Proofs
open Go.W8
set_option linter.unusedVariables false
set_option linter.unusedSimpArgs false
set_option linter.unusedSectionVars false
set_option maxRecDepth 8000
set_option maxHeartbeats 4000000
--@plain
def lowF (r v : Int) : Int := if r < v then v - 1 else v
/-- What is left of a row without a column, as the columns ahead of k have been led. -/
def shrK (l : List Int) (i rt : Nat) (r : Int) (k q : Nat) : Int := if q < i then (if q < k then lowF r (l.getD q 0) else 0) else if q = i then (if i + rt < k then lowF r (l.getD (i + rt) 0) else 0) else if q + 1 < k then lowF r (l.getD (q + 1) 0) else 0
def wthK (l : List Int) (d : Nat) (r : Int) (k q : Nat) : Int := if q < d then (if q < k then lowF r (l.getD q 0) else 0) else if q + 1 < k then lowF r (l.getD (q + 1) 0) else 0
theorem shrK_zero (l : List Int) (i rt : Nat) (r : Int) : tab (shrK l i rt r 0) = z8 := by
  rw [tab_zero]
  refine tab_ext fun q _ => ?_
  unfold shrK
  grind
theorem shrK_same {l : List Int} {i rt : Nat} {r : Int} {k : Nat} (h : k = i + 1 - rt) (hrt : rt ≤ 1) : tab (shrK l i rt r k) = tab (shrK l i rt r (k + 1)) := by
  refine tab_ext fun q _ => ?_
  unfold shrK
  grind
theorem shrK_set {l : List Int} {i rt : Nat} {r : Int} {k : Nat} (h : k ≠ i + 1 - rt) (hrt : rt ≤ 1) {v : Int} (hv : v = lowF r (l.getD k 0)) : (tab (shrK l i rt r k)).set (if i < k then k - 1 else k) v = tab (shrK l i rt r (k + 1)) := by
  subst hv
  rw [tab_set]
  refine tab_ext fun q _ => ?_
  unfold shrK
  grind
theorem wthK_zero (l : List Int) (d : Nat) (r : Int) : tab (wthK l d r 0) = z8 := by
  rw [tab_zero]
  refine tab_ext fun q _ => ?_
  unfold wthK
  grind
theorem wthK_same {l : List Int} {d : Nat} {r : Int} {k : Nat} (h : k = d) : tab (wthK l d r k) = tab (wthK l d r (k + 1)) := by
  refine tab_ext fun q _ => ?_
  unfold wthK
  grind
theorem wthK_set {l : List Int} {d : Nat} {r : Int} {k : Nat} (h : k ≠ d) {v : Int} (hv : v = lowF r (l.getD k 0)) : (tab (wthK l d r k)).set (if d < k then k - 1 else k) v = tab (wthK l d r (k + 1)) := by
  subst hv
  rw [tab_set]
  refine tab_ext fun q _ => ?_
  unfold wthK
  grind

/-- The column that comes to stand in the column q. -/
def srcQ (i rt q : Nat) : Nat := if q < i then q else if q = i then i + rt else q + 1
theorem shr_get {l : List Int} {i rt n q : Nat} {r : Int} (hi : i + 1 < n) (hn : n ≤ 8) (hrt : rt ≤ 1) (hq : q < n - 1) : (tab (shrK l i rt r n)).getD q 0 = lowF r (l.getD (srcQ i rt q) 0) := by
  rw [tab_get (by omega)]
  unfold shrK srcQ
  grind
theorem src_lt {i rt n q : Nat} (hi : i + 1 < n) (hrt : rt ≤ 1) (hq : q < n - 1) : srcQ i rt q < n ∧ srcQ i rt q ≠ i + 1 - rt := by
  unfold srcQ
  grind
theorem src_inj {i rt p q : Nat} (hrt : rt ≤ 1) (h : p < q) : srcQ i rt p ≠ srcQ i rt q := by
  unfold srcQ
  grind
theorem low_inj {r v w : Int} (h : lowF r v = lowF r w) : v = w ∨ (v = r ∧ w = r + 1) ∨ (v = r + 1 ∧ w = r) := by
  unfold lowF at h
  split at h <;> split at h <;> omega

/-- The marks about which a grid is destabilized. -/
def Back (own oth : List Int) (i : Nat) (r : Int) (rt u : Nat) : Prop := own.getD (i + rt) 0 = r + 1 - u ∧ own.getD (i + 1 - rt) 0 = r + u ∧ oth.getD (i + 1 - rt) 0 = r + 1 - u ∧ oth.getD (i + rt) 0 ≠ r + u
instance (own oth : List Int) (i : Nat) (r : Int) (rt u : Nat) : Decidable (Back own oth i r rt u) := by unfold Back; infer_instance

theorem perm_ne {x : List Int} {n : Nat} (h : IsPerm x n) {a b : Nat} (ha : a < n) (hb : b < n) (hne : a ≠ b) : x.getD a 0 ≠ x.getD b 0 := by
  rcases Nat.lt_or_gt_of_ne hne with h1 | h1
  · exact h.2.1 b hb a h1
  · exact fun e => h.2.1 a ha b h1 e.symm

section
variable {own oth : List Int} {n i rt u : Nat} {r : Int} (hn : n ≤ 8) (po : IsPerm own n) (pt : IsPerm oth n) (h0 : ∀ c, c < n → 0 ≤ own.getD c 0) (h0' : ∀ c, c < n → 0 ≤ oth.getD c 0)
  (hd : ∀ c, c < n → own.getD c 0 ≠ oth.getD c 0) (hi : i + 1 < n) (hr0 : 0 ≤ r) (hr : r + 1 < n) (hrt : rt ≤ 1) (hu : u ≤ 1) (hb : Back own oth i r rt u)
include hn po pt h0 h0' hd hi hr0 hr hrt hu hb
theorem back_own_ne {c : Nat} (hc : c < n) (h1 : c ≠ i + rt) (h2 : c ≠ i + 1 - rt) : own.getD c 0 ≠ r ∧ own.getD c 0 ≠ r + 1 := by
  have a := perm_ne po hc (b := i + rt) (by omega) h1
  have b := perm_ne po hc (b := i + 1 - rt) (by omega) h2
  have e1 := hb.1
  have e2 := hb.2.1
  omega
theorem back_oth_ne {c : Nat} (hc : c < n) (h2 : c ≠ i + 1 - rt) : oth.getD c 0 ≠ r + 1 - u := by
  have b := perm_ne pt hc (b := i + 1 - rt) (by omega) h2
  have e2 := hb.2.2.1
  omega
theorem back_own_perm : IsPerm (tab (shrK own i rt r n)) (n - 1) := by
  have key := fun c hc h1 h2 => back_own_ne hn po pt h0 h0' hd hi hr0 hr hrt hu hb (c := c) hc h1 h2
  obtain ⟨b1, b2, b3, b4⟩ := hb
  refine ⟨fun q hq => ?_, fun q hq p hp => ?_, fun q hq hq' => ?_⟩
  · rw [shr_get hi hn hrt hq]
    have s1 := src_lt hi hrt hq
    have := po.1 _ s1.1
    have := h0 _ s1.1
    unfold lowF
    split <;> omega
  · rw [shr_get hi hn hrt hq, shr_get hi hn hrt (by omega)]
    have s1 := src_lt hi hrt hq
    have s2 := src_lt hi hrt (q := p) (by omega)
    have a1 := perm_ne po s2.1 s1.1 (src_inj hrt hp)
    have hne := src_inj (i := i) hrt hp
    intro e
    have k1 := key _ s1.1
    have k2 := key _ s2.1
    rcases low_inj e with h | h | h
    · exact a1 h
    · by_cases e1 : srcQ i rt p = i + rt
      · exact absurd h.2 (k1 (by omega) s1.2).2
      · exact absurd h.1 (k2 e1 s2.2).1
    · by_cases e1 : srcQ i rt p = i + rt
      · exact absurd h.2 (k1 (by omega) s1.2).1
      · exact absurd h.1 (k2 e1 s2.2).2
  · rw [tab_get hq]
    unfold shrK
    grind
theorem back_oth_perm : IsPerm (tab (shrK oth i rt r n)) (n - 1) := by
  have key := fun c hc h2 => back_oth_ne hn po pt h0 h0' hd hi hr0 hr hrt hu hb (c := c) hc h2
  obtain ⟨b1, b2, b3, b4⟩ := hb
  refine ⟨fun q hq => ?_, fun q hq p hp => ?_, fun q hq hq' => ?_⟩
  · rw [shr_get hi hn hrt hq]
    have s1 := src_lt hi hrt hq
    have := pt.1 _ s1.1
    have := h0' _ s1.1
    have := key _ s1.1 s1.2
    unfold lowF
    split <;> omega
  · rw [shr_get hi hn hrt hq, shr_get hi hn hrt (by omega)]
    have s1 := src_lt hi hrt hq
    have s2 := src_lt hi hrt (q := p) (by omega)
    have a1 := perm_ne pt s2.1 s1.1 (src_inj hrt hp)
    intro e
    have k1 := key _ s1.1 s1.2
    have k2 := key _ s2.1 s2.2
    rcases low_inj e with h | h | h
    · exact a1 h
    · omega
    · omega
  · rw [tab_get hq]
    unfold shrK
    grind
theorem back_get : (tab (shrK own i rt r n)).getD i 0 = r := by
  obtain ⟨b1, b2, b3, b4⟩ := hb
  rw [tab_get (by omega)]
  unfold shrK lowF
  grind
theorem back_apart : ∀ q, q < n - 1 → (tab (shrK own i rt r n)).getD q 0 ≠ (tab (shrK oth i rt r n)).getD q 0 := by
  have key := fun c hc h1 h2 => back_own_ne hn po pt h0 h0' hd hi hr0 hr hrt hu hb (c := c) hc h1 h2
  have key' := fun c hc h2 => back_oth_ne hn po pt h0 h0' hd hi hr0 hr hrt hu hb (c := c) hc h2
  obtain ⟨b1, b2, b3, b4⟩ := hb
  intro q hq
  rw [tab_get (by omega), tab_get (by omega)]
  have k1 := key q (by omega)
  have k2 := key (q + 1) (by omega)
  have k3 := key' q (by omega)
  have k4 := key' (q + 1) (by omega)
  have k5 := key' (i + rt) (by omega)
  have d1 := hd q (by omega)
  have d2 := hd (q + 1) (by omega)
  have d3 := hd (i + rt) (by omega)
  unfold shrK lowF
  grind
theorem back_grA (hl : own.length = 8) : tab (grA (tab (shrK own i rt r n)) i rt u (n - 1)) = own := by
  have key := fun c hc h1 h2 => back_own_ne hn po pt h0 h0' hd hi hr0 hr hrt hu hb (c := c) hc h1 h2
  have hg := back_get hn po pt h0 h0' hd hi hr0 hr hrt hu hb
  obtain ⟨b1, b2, b3, b4⟩ := hb
  refine (tab_eq hl fun q hq => ?_).symm
  have z := po.2.2 q hq
  have g1 := tab_get (f := shrK own i rt r n) (i := q) hq
  unfold grA
  rw [hg]
  have k1 := key q
  by_cases e1 : q = i + rt
  · rw [if_pos e1]; subst e1; omega
  rw [if_neg e1]
  by_cases e2 : q = i + 1 - rt
  · rw [if_pos e2]; subst e2; omega
  rw [if_neg e2]
  by_cases e3 : q < i
  · rw [if_pos e3, g1]
    unfold shrK lowF liftF
    grind
  · rw [if_neg e3]
    have g2 := tab_get (f := shrK own i rt r n) (i := q - 1) (by omega)
    rw [g2]
    have e4 : q - 1 + 1 = q := by omega
    unfold shrK lowF liftF
    grind
theorem back_grB (hl : oth.length = 8) : tab (grB (tab (shrK own i rt r n)) (tab (shrK oth i rt r n)) i rt u (n - 1)) = oth := by
  have key' := fun c hc h2 => back_oth_ne hn po pt h0 h0' hd hi hr0 hr hrt hu hb (c := c) hc h2
  have hg := back_get hn po pt h0 h0' hd hi hr0 hr hrt hu hb
  obtain ⟨b1, b2, b3, b4⟩ := hb
  refine (tab_eq hl fun q hq => ?_).symm
  have z := pt.2.2 q hq
  have g1 := tab_get (f := shrK oth i rt r n) (i := q) hq
  have g0 := tab_get (f := shrK oth i rt r n) (i := i) (by omega)
  unfold grB
  rw [hg]
  have k1 := key' q
  by_cases e1 : q = i + rt
  · rw [if_pos e1, g0]
    subst e1
    have := k1 (by omega) (by omega)
    unfold shrK lowF liftF
    grind
  rw [if_neg e1]
  by_cases e2 : q = i + 1 - rt
  · rw [if_pos e2]; subst e2; omega
  rw [if_neg e2]
  by_cases e3 : q < i
  · rw [if_pos e3, g1]
    unfold shrK lowF liftF
    grind
  · rw [if_neg e3]
    have g2 := tab_get (f := shrK oth i rt r n) (i := q - 1) (by omega)
    rw [g2]
    have e4 : q - 1 + 1 = q := by omega
    unfold shrK lowF liftF
    grind
end
theorem back_of {own oth a b : List Int} {n i rt u : Nat} {r : Int} (hi : i + 1 < n) (hn : n ≤ 8) (hrt : rt ≤ 1) (hu : u ≤ 1) (ha : a.getD i 0 = r) (hd : a.getD i 0 ≠ b.getD i 0)
    (e1 : tab (grA a i rt u (n - 1)) = own) (e2 : tab (grB a b i rt u (n - 1)) = oth) : Back own oth i r rt u := by
  subst e1 e2
  unfold Back
  rw [tab_get (by omega), tab_get (by omega), tab_get (by omega), tab_get (by omega)]
  unfold grA grB liftF
  grind
theorem back_wth {l : List Int} {n i rt u : Nat} {r : Int} (hi : i + 1 < n) (hn : n ≤ 8) (hrt : rt ≤ 1) (hu : u ≤ 1) (hk : ∀ c, c < n → c ≠ i + 1 - rt → l.getD c 0 ≠ r + 1 - u) : tab (wthK l (i + 1 - rt) (r + 1 - u) n) = tab (shrK l i rt r n) := by
  refine tab_ext fun q hq => ?_
  have k1 := hk q
  have k2 := hk (q + 1)
  have k3 := hk (i + rt)
  unfold wthK shrK lowF
  grind
theorem back_wth_own {l : List Int} {n i rt u : Nat} {r : Int} (hl : l.length = 8) (hi : i + 1 < n) (hn : n ≤ 8) (hrt : rt ≤ 1) (hu : u ≤ 1) (hk : ∀ c, c < n → c ≠ i + rt → c ≠ i + 1 - rt → l.getD c 0 ≠ r ∧ l.getD c 0 ≠ r + 1) (h1 : l.getD (i + rt) 0 = r + 1 - u) :
    tab (wthK (l.set (i + rt) (r + u)) (i + 1 - rt) (r + 1 - u) n) = tab (shrK l i rt r n) := by
  refine tab_ext fun q hq => ?_
  have hs : ∀ c, (l.set (i + rt) (r + u)).getD c 0 = if i + rt = c then r + (u : Int) else l.getD c 0 := by
    intro c
    rw [List.getD_eq_getElem?_getD, List.getElem?_set]
    by_cases e : i + rt = c
    · subst e; rw [if_pos rfl, if_pos (by omega), if_pos rfl]; rfl
    · rw [if_neg e, if_neg e, List.getD_eq_getElem?_getD]
  have k1 := hk q
  have k2 := hk (q + 1)
  unfold wthK shrK lowF
  rw [hs q, hs (q + 1)]
  grind
theorem back_same {own oth : List Int} {i rt u rt' u' : Nat} {r : Int} (hrt : rt ≤ 1) (hu : u ≤ 1) (hrt' : rt' ≤ 1) (hu' : u' ≤ 1) (h : Back own oth i r rt u) (h' : Back own oth i r rt' u') : rt = rt' ∧ u = u' := by
  obtain ⟨a1, a2, a3, a4⟩ := h
  obtain ⟨b1, b2, b3, b4⟩ := h'
  grind
theorem back_other {own oth : List Int} {i rt u rt' u' : Nat} {r : Int} (hrt : rt ≤ 1) (hu : u ≤ 1) (hrt' : rt' ≤ 1) (hu' : u' ≤ 1) (h : Back own oth i r rt u) (h' : Back oth own i r rt' u') : False := by
  obtain ⟨a1, a2, a3, a4⟩ := h
  obtain ⟨b1, b2, b3, b4⟩ := h'
  have e : rt = 0 ∨ rt = 1 := by omega
  have e' : rt' = 0 ∨ rt' = 1 := by omega
  rcases e with rfl | rfl <;> rcases e' with rfl | rfl <;> simp only [Nat.add_zero, Nat.sub_zero, Nat.add_sub_cancel] at a1 a2 a3 a4 b1 b2 b3 b4 <;> omega

/-- Whether the k-th way of stabilizing leads to the grid, at i and r. -/
def bk (x o : List Int) (i : Nat) (r : Int) (k : Nat) : Bool := if k % 2 = 0 then decide (Back x o i r (k / 2 % 2) (k / 4)) else decide (Back o x i r (k / 2 % 2) (k / 4))
def bkFind (x o : List Int) (i : Nat) (r : Int) : Option Nat := (List.range 8).find? (bk x o i r)
theorem bk_unique {x o : List Int} {i k k' : Nat} {r : Int} (hk : k < 8) (hk' : k' < 8) (h : bk x o i r k = true) (h' : bk x o i r k' = true) : k = k' := by
  unfold bk at h h'
  have e1 : k / 2 % 2 ≤ 1 := by omega
  have e2 : k / 4 ≤ 1 := by omega
  have e3 : k' / 2 % 2 ≤ 1 := by omega
  have e4 : k' / 4 ≤ 1 := by omega
  by_cases m : k % 2 = 0 <;> by_cases m' : k' % 2 = 0
  · rw [if_pos m] at h; rw [if_pos m'] at h'
    have := back_same e1 e2 e3 e4 (of_decide_eq_true h) (of_decide_eq_true h')
    omega
  · rw [if_pos m] at h; rw [if_neg m'] at h'
    exact (back_other e1 e2 e3 e4 (of_decide_eq_true h) (of_decide_eq_true h')).elim
  · rw [if_neg m] at h; rw [if_pos m'] at h'
    exact (back_other e1 e2 e3 e4 (of_decide_eq_true h) (of_decide_eq_true h')).elim
  · rw [if_neg m] at h; rw [if_neg m'] at h'
    have := back_same e1 e2 e3 e4 (of_decide_eq_true h) (of_decide_eq_true h')
    omega
theorem bkFind_hit {x o : List Int} {i k : Nat} {r : Int} (hk : k < 8) (h : bk x o i r k = true) : bkFind x o i r = some k := by
  unfold bkFind
  cases hf : (List.range 8).find? (bk x o i r) with
  | none => exact absurd h (List.find?_eq_none.1 hf k (List.mem_range.2 hk))
  | some k' =>
    have h1 := List.find?_some hf
    have h2 := List.mem_range.1 (List.mem_of_find?_eq_some hf)
    rw [bk_unique h2 hk h1 h]
theorem bkFind_none {x o : List Int} {i : Nat} {r : Int} (h : ∀ k, k < 8 → bk x o i r k = false) : bkFind x o i r = none := by
  unfold bkFind
  refine List.find?_eq_none.2 fun k hk => ?_
  rw [h k (List.mem_range.1 hk)]; decide
/-- What a grid is destabilized to. -/
def oldX (x : List Int) (i : Nat) (r : Int) (n k : Nat) : List Int := tab (shrK x i (k / 2 % 2) r n)
section
variable {x o : List Int} {n i k : Nat} {r : Int} (hl : x.length = 8) (hm : o.length = 8) (hn : n ≤ 8) (px : IsPerm x n) (po : IsPerm o n) (h0 : ∀ c, c < n → 0 ≤ x.getD c 0) (h0' : ∀ c, c < n → 0 ≤ o.getD c 0)
  (hd : ∀ c, c < n → x.getD c 0 ≠ o.getD c 0) (hi : i + 1 < n) (hr0 : 0 ≤ r) (hr : r + 1 < n) (hk : k < 8)
include hl hm hn px po h0 h0' hd hi hr0 hr hk
theorem back_three {own oth : List Int} (po : IsPerm own n) (pt : IsPerm oth n) (h0 : ∀ c, c < n → 0 ≤ own.getD c 0) (h0' : ∀ c, c < n → 0 ≤ oth.getD c 0) {rt u : Nat} (hrt : rt ≤ 1) (hu : u ≤ 1) (h : Back own oth i r rt u) : 3 ≤ n := by
  obtain ⟨b1, b2, b3, b4⟩ := h
  rcases Nat.lt_or_ge n 3 with h3 | h3
  · exfalso
    have e1 := perm_ne pt (a := 0) (b := 1) (by omega) (by omega) (by omega)
    have e2 := pt.1 0 (by omega)
    have e3 := pt.1 1 (by omega)
    have e4 := h0' 0 (by omega)
    have e5 := h0' 1 (by omega)
    obtain rfl : i = 0 := by omega
    have e : rt = 0 ∨ rt = 1 := by omega
    rcases e with rfl | rfl <;> simp only [Nat.zero_add, Nat.add_zero, Nat.sub_zero, Nat.sub_self] at b1 b2 b3 b4 <;> omega
  · exact h3
theorem bk_even (h : k % 2 = 0) : (gridB ((n - 1 : Nat) : Int) (oldX x i r n k) (oldX o i r n k) && ((oldX x i r n k).getD i 0 == r) &&
    decide (((n - 1 : Nat) : Int) + 1 = (n : Int) ∧ tab (grA (oldX x i r n k) i (k / 2 % 2) ((k / 4 : Nat) : Int) (n - 1)) = x ∧ tab (grB (oldX x i r n k) (oldX o i r n k) i (k / 2 % 2) ((k / 4 : Nat) : Int) (n - 1)) = o)) = bk x o i r k := by
  have hrt : k / 2 % 2 ≤ 1 := by omega
  have hu : k / 4 ≤ 1 := by omega
  have e1 : ((n - 1 : Nat) : Int) + 1 = (n : Int) := by omega
  unfold bk
  rw [if_pos h, Bool.eq_iff_iff]
  simp only [Bool.and_eq_true, beq_iff_eq, decide_eq_true_eq]
  constructor
  · rintro ⟨⟨hg, ha⟩, _, hA, hB⟩
    have hG := of_decide_eq_true hg
    have hG5 := hG.2.2.2.2
    rw [Int.toNat_natCast] at hG5
    exact back_of hi hn hrt hu ha (hG5 i (by omega)) hA hB
  · intro hb
    have h3 := back_three hl hm hn px po h0 h0' hd hi hr0 hr hk px po h0 h0' hrt hu hb
    refine ⟨⟨decide_eq_true ⟨by omega, by omega, ?_, ?_, ?_⟩, back_get hn px po h0 h0' hd hi hr0 hr hrt hu hb⟩, e1, back_grA hn px po h0 h0' hd hi hr0 hr hrt hu hb hl, back_grB hn px po h0 h0' hd hi hr0 hr hrt hu hb hm⟩
    · rw [Int.toNat_natCast]; exact back_own_perm hn px po h0 h0' hd hi hr0 hr hrt hu hb
    · rw [Int.toNat_natCast]; exact back_oth_perm hn px po h0 h0' hd hi hr0 hr hrt hu hb
    · rw [Int.toNat_natCast]; exact back_apart hn px po h0 h0' hd hi hr0 hr hrt hu hb
theorem bk_odd (h : k % 2 = 1) : (gridB ((n - 1 : Nat) : Int) (oldX x i r n k) (oldX o i r n k) && ((oldX o i r n k).getD i 0 == r) &&
    decide (((n - 1 : Nat) : Int) + 1 = (n : Int) ∧ tab (grB (oldX o i r n k) (oldX x i r n k) i (k / 2 % 2) ((k / 4 : Nat) : Int) (n - 1)) = x ∧ tab (grA (oldX o i r n k) i (k / 2 % 2) ((k / 4 : Nat) : Int) (n - 1)) = o)) = bk x o i r k := by
  have hrt : k / 2 % 2 ≤ 1 := by omega
  have hu : k / 4 ≤ 1 := by omega
  have e1 : ((n - 1 : Nat) : Int) + 1 = (n : Int) := by omega
  have hd' : ∀ c, c < n → o.getD c 0 ≠ x.getD c 0 := fun c hc => (hd c hc).symm
  unfold bk
  rw [if_neg (by omega), Bool.eq_iff_iff]
  simp only [Bool.and_eq_true, beq_iff_eq, decide_eq_true_eq]
  constructor
  · rintro ⟨⟨hg, ha⟩, _, hB, hA⟩
    have hG := of_decide_eq_true hg
    have hG5 := hG.2.2.2.2
    rw [Int.toNat_natCast] at hG5
    exact back_of hi hn hrt hu ha (hG5 i (by omega)).symm hA hB
  · intro hb
    have h3 := back_three hl hm hn px po h0 h0' hd hi hr0 hr hk po px h0' h0 hrt hu hb
    refine ⟨⟨decide_eq_true ⟨by omega, by omega, ?_, ?_, ?_⟩, back_get hn po px h0' h0 hd' hi hr0 hr hrt hu hb⟩, e1, back_grB hn po px h0' h0 hd' hi hr0 hr hrt hu hb hl, back_grA hn po px h0' h0 hd' hi hr0 hr hrt hu hb hm⟩
    · rw [Int.toNat_natCast]; exact back_oth_perm hn po px h0' h0 hd' hi hr0 hr hrt hu hb
    · rw [Int.toNat_natCast]; exact back_own_perm hn po px h0' h0 hd' hi hr0 hr hrt hu hb
    · rw [Int.toNat_natCast]; exact fun q hq => (back_apart hn po px h0' h0 hd' hi hr0 hr hrt hu hb q hq).symm
end

end Go.Proofs
