/-
  Rows of eight numbers told by a function of their places; parts of spelled lists. Nothing here is about one program. Conditions: none.
-/
import Derived.Test.YtclfpogolgindacLX
namespace Go.W8
set_option linter.unusedVariables false
set_option linter.unusedSimpArgs false
set_option linter.unusedSectionVars false

theorem splice_succ (a : Value) (l vs : List Value) (n : Nat) : splice (a :: l) (n + 1) vs = a :: splice l n vs := by
  unfold splice
  rw [List.take_succ_cons, show n + 1 + vs.length = (n + vs.length) + 1 by omega, List.drop_succ_cons]
  rfl
theorem splice_zero (a v : Value) (l : List Value) : splice (a :: l) 0 [v] = v :: l := rfl

def tab (f : Nat → Int) : List Int := (List.range 8).map f
theorem tab_len (f : Nat → Int) : (tab f).length = 8 := by simp [tab]
theorem tab_get {f : Nat → Int} {i : Nat} (h : i < 8) : (tab f).getD i 0 = f i := by
  unfold tab
  rw [List.getD_eq_getElem?_getD, List.getElem?_map, List.getElem?_range h]; rfl
theorem tab_set (f : Nat → Int) (i : Nat) (v : Int) : (tab f).set i v = tab (fun j => if j = i then v else f j) := by
  apply List.ext_getElem?
  intro j
  unfold tab
  by_cases hj : j < 8
  · by_cases e : i = j
    · subst e
      rw [List.getElem?_set_self (by simpa using hj), List.getElem?_map, List.getElem?_range hj]; simp
    · rw [List.getElem?_set_ne e, List.getElem?_map, List.getElem?_map, List.getElem?_range hj]
      simp [Ne.symm e]
  · rw [List.getElem?_eq_none (by simp; omega), List.getElem?_eq_none (by simp; omega)]
theorem tab_ext {f g : Nat → Int} (h : ∀ q, q < 8 → f q = g q) : tab f = tab g := List.map_congr_left fun q hq => h q (List.mem_range.1 hq)
theorem tab_of {l : List Int} (h : l.length = 8) : tab (fun q => l.getD q 0) = l := by
  apply List.ext_getElem?
  intro j
  unfold tab
  rw [List.getElem?_map]
  by_cases hj : j < 8
  · rw [List.getElem?_range hj, List.getElem?_eq_getElem (by omega)]
    simp [List.getD_eq_getElem?_getD, List.getElem?_eq_getElem (show j < l.length by omega)]
  · rw [List.getElem?_eq_none (by simp; omega), List.getElem?_eq_none (by omega)]; rfl
theorem tab_eq {l : List Int} {f : Nat → Int} (h : l.length = 8) (hf : ∀ q, q < 8 → l.getD q 0 = f q) : l = tab f := by
  rw [← tab_of h]; exact tab_ext hf
theorem tab_zero : z8 = tab fun _ => 0 := rfl

/-- The temporaries hold just this. -/
def Agree : List (Nat × Value) → Env → Prop
  | [], _ => True
  | (t, v) :: l, ρ => ρ t = v ∧ Agree l ρ
theorem updL_agree {ρ : Env} : ∀ (l : List (Nat × Value)), Agree l ρ → updL l ρ = ρ
  | [], _ => rfl
  | (t, v) :: l, h => by
    show upd (updL l ρ) t v = ρ
    rw [updL_agree l h.2, ← h.1, upd_self]
theorem norm_of {ρ : Env} {l : List (Nat × Value)} (h : Agree l ρ) : ρ = updL l ρ := (updL_agree l h).symm
theorem Fresh.all {w0 : World} {M : Blks} {b : Nat} (h : Fresh w0 M b) : ∀ p ∈ M, ¬ b = p.1 := h.2

theorem sameI_ints {k : IntKind} : ∀ {l l' : List Int}, l.length = l'.length → SameI (ints k l) (ints k l')
  | [], [], _ => trivial
  | [], _ :: _, h => by simp at h
  | _ :: _, [], h => by simp at h
  | a :: l, b :: l', h => ⟨rfl, sameI_ints (by simpa using h)⟩
theorem eqL_ints {k : IntKind} : ∀ {l l' : List Int}, l.length = l'.length → eqL (ints k l) (ints k l') = decide (l = l')
  | [], [], _ => rfl
  | [], _ :: _, h => by simp at h
  | _ :: _, [], h => by simp at h
  | a :: l, b :: l', h => by
    show (a == b && eqL (ints k l) (ints k l')) = _
    rw [eqL_ints (by simpa using h), Bool.eq_iff_iff]
    simp
theorem sameI_append : ∀ {a a' b b' : List Value}, SameI a a' → SameI b b' → SameI (a ++ b) (a' ++ b')
  | [], [], _, _, _, h => h
  | [], _ :: _, _, _, h, _ => h.nil_cons.elim
  | _ :: _, [], _, _, h, _ => h.cons_nil.elim
  | x :: l, y :: l', _, _, h, hb => by
    obtain ⟨k, u, v, rfl, rfl, ht⟩ := h.cons
    exact ⟨rfl, sameI_append ht hb⟩
theorem eqL_append : ∀ {a a' b b' : List Value}, SameI a a' → eqL (a ++ b) (a' ++ b') = (eqL a a' && eqL b b')
  | [], [], _, _, _ => by simp [eqL]
  | [], _ :: _, _, _, h => h.nil_cons.elim
  | _ :: _, [], _, _, h => h.cons_nil.elim
  | x :: l, y :: l', b, b', h => by
    obtain ⟨k, u, v, rfl, rfl, ht⟩ := h.cons
    simp only [List.cons_append, eqL]
    rw [eqL_append ht, Bool.and_assoc]
theorem sameI_gc {s s' : Int} {x o x' o' : List Int} (h1 : x.length = 8) (h2 : o.length = 8) (h3 : x'.length = 8) (h4 : o'.length = 8) : SameI (gc s x o) (gc s' x' o') = True :=
  eq_true ⟨rfl, sameI_append (sameI_ints (by omega)) (sameI_ints (by omega))⟩
theorem eqL_gc {s s' : Int} {x o x' o' : List Int} (h1 : x.length = 8) (h2 : o.length = 8) (h3 : x'.length = 8) (h4 : o'.length = 8) : eqL (gc s x o) (gc s' x' o') = decide (s = s' ∧ x = x' ∧ o = o') := by
  show (s == s' && eqL (ints .u8 x ++ ints .u8 o) (ints .u8 x' ++ ints .u8 o')) = _
  rw [eqL_append (sameI_ints (by omega)), eqL_ints (by omega), eqL_ints (by omega), Bool.eq_iff_iff]
  simp

end Go.W8
