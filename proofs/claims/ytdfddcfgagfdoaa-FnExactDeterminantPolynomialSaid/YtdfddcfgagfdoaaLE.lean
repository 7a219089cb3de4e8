/-
  '==' of structs of numbers and of rows of numbers. Nothing here is about one program. Conditions: none.
-/
import Derived.Test.YtdfddcfgagfdoaaLS
import Derived.Laws.StructEq
namespace Go.W8
set_option linter.unusedVariables false
set_option linter.unusedSimpArgs false
set_option linter.unusedSectionVars false

def eqL : List Value → List Value → Bool
  | .int _ a :: l, .int _ b :: l' => a == b && eqL l l'
  | [], [] => true
  | _, _ => false
def SameI : List Value → List Value → Prop
  | .int k _ :: l, .int k' _ :: l' => k = k' ∧ SameI l l'
  | [], [] => True
  | _, _ => False

theorem SameI.cons {x y : Value} {l l' : List Value} (h : SameI (x :: l) (y :: l')) : ∃ k a b, x = .int k a ∧ y = .int k b ∧ SameI l l' := by
  unfold SameI at h
  split at h
  · rename_i k a l1 k' b l1' h1 h2
    obtain ⟨rfl, h⟩ := h
    simp only [List.cons.injEq] at h1 h2
    obtain ⟨rfl, rfl⟩ := h1
    obtain ⟨rfl, rfl⟩ := h2
    exact ⟨k, a, b, rfl, rfl, h⟩
  · rename_i h1 h2; cases h1
  · exact h.elim
theorem SameI.nil_cons {y : Value} {l' : List Value} (h : SameI [] (y :: l')) : False := by
  unfold SameI at h
  exact h
theorem SameI.cons_nil {y : Value} {l' : List Value} (h : SameI (y :: l') []) : False := by
  unfold SameI at h
  split at h
  · rename_i h1 h2; cases h2
  · rename_i h1 h2; cases h1
  · exact h
theorem SameI.len : ∀ {l l' : List Value}, SameI l l' → l.length = l'.length
  | [], [], _ => rfl
  | [], _ :: _, h => h.nil_cons.elim
  | _ :: _, [], h => h.cons_nil.elim
  | x :: l, y :: l', h => by
    obtain ⟨_, _, _, _, _, h⟩ := h.cons
    simp [SameI.len h]
theorem SameI.split : ∀ {l l' : List Value} (n : Nat), SameI l l' → SameI (l.take n) (l'.take n) ∧ SameI (l.drop n) (l'.drop n)
  | l, l', 0, h => by simpa [SameI] using h
  | [], [], n + 1, h => by simp [SameI]
  | [], _ :: _, n + 1, h => h.nil_cons.elim
  | _ :: _, [], n + 1, h => h.cons_nil.elim
  | x :: l, y :: l', n + 1, h => by
    obtain ⟨k, a, b, rfl, rfl, ht⟩ := h.cons
    have ih := SameI.split n ht
    simp only [List.take_succ_cons, List.drop_succ_cons]
    exact ⟨⟨rfl, ih.1⟩, ih.2⟩
theorem eqL_split : ∀ {l l' : List Value} (n : Nat), SameI l l' → eqL l l' = (eqL (l.take n) (l'.take n) && eqL (l.drop n) (l'.drop n))
  | l, l', 0, h => by simp [eqL]
  | [], [], n + 1, h => by simp [eqL]
  | [], _ :: _, n + 1, h => h.nil_cons.elim
  | _ :: _, [], n + 1, h => h.cons_nil.elim
  | x :: l, y :: l', n + 1, h => by
    obtain ⟨k, a, b, rfl, rfl, ht⟩ := h.cons
    simp only [List.take_succ_cons, List.drop_succ_cons, eqL]
    rw [eqL_split n ht, Bool.and_assoc]

section
variable (P : Program)

def intB (T : TypeId) : Bool := match P.underlying T with | some (.int _) => true | _ => false
/-- Where the fields end, if each is a number or a row of numbers, one behind the other. -/
def eqF : Nat → List Field → Option Nat
  | off, [] => some off
  | off, f :: fs => if f.name != "_" && f.offset == off && hasT P f.type then
      match P.underlying f.type with
      | some (.int _) => if szT P f.type == 1 then eqF (off + 1) fs else none
      | some (.array n e) => if hasT P e && szT P e == 1 && intB P e && szT P f.type == n then eqF (off + n) fs else none
      | _ => none
    else none
def eqT (T : TypeId) : Option Nat := if P.stoodInHeld T || P.eqGuardType P.depth T then none else match P.underlying T with | some (.struct fs) => eqF P 0 fs.toList | _ => none

theorem intB_spec {T : TypeId} (h : intB P T = true) : ∃ k, P.underlying T = some (.int k) := by
  unfold intB at h
  split at h
  · rename_i k hk; exact ⟨k, hk⟩
  · cases h

theorem run_part_int {T : TypeId} (hi : intB P T = true) (cs : Array Value) {off : Nat} {v : Value} (h : cs[off]? = some v) (w : World) : (part T cs off).run P w = .ok v w := by
  obtain ⟨k, hk⟩ := intB_spec P hi
  have hp : parT P T = true := by unfold parT; rw [hk]
  have ha : aggT P T = false := by unfold aggT; rw [hk]
  unfold part
  simp only [Sem.run_bind, run_isAgg P hp, Result.andThen_ok, ha]
  rw [if_neg (by simp), h]
  rfl

theorem run_part_row {T e : TypeId} {n : Nat} (hu : P.underlying T = some (.array n e)) (hh : hasT P T = true) (cs : Array Value) (off : Nat) (w : World) : (part T cs off).run P w = .ok (.agg (cs.extract off (off + szT P T))) w := by
  have hp : parT P T = true := by unfold parT; rw [hu]
  have ha : aggT P T = true := by unfold aggT; rw [hu]
  unfold part
  simp only [Sem.run_bind, run_isAgg P hp, Result.andThen_ok, ha, if_true, run_sizeOf P hh, Sem.run_pure]

theorem run_eq_row {T e : TypeId} {n : Nat} (hu : P.underlying T = some (.array n e)) (hh : hasT P e = true) (h1 : szT P e = 1) (hi : intB P e = true) (d : Nat) (xs ys : Array Value) (hs : SameI xs.toList ys.toList) (hx : xs.toList.length = n) (w : World) :
    (Op.equalIn (d + 2) T (.agg xs) (.agg ys)).run P w = .ok (eqL xs.toList ys.toList) w := by
  obtain ⟨k, hk⟩ := intB_spec P hi
  unfold Op.equalIn
  simp only [Sem.run_bind, run_underlying hu, Result.andThen_ok, run_sizeOf P hh, h1, Nat.mul_one, Std.Legacy.Range.forIn_eq_forIn_range', Std.Legacy.Range.size, Nat.sub_zero, Nat.add_sub_cancel, Nat.div_one]
  have key : ∀ (m j : Nat), m + j = n → SameI (xs.toList.drop j) (ys.toList.drop j) → ∀ w,
      ((forIn (m := Sem) (List.range' j m) (none, PUnit.unit) fun i _ => do
        let __do_lift ← part e xs i
        let __do_lift_1 ← part e ys i
        let __do_lift ← Op.equalIn (d + 1) e __do_lift __do_lift_1
        if (!__do_lift) = true then pure (ForInStep.done (some false, PUnit.unit)) else pure (ForInStep.yield (none, PUnit.unit))) : Sem (Option Bool × PUnit)).run P w =
      .ok (if eqL (xs.toList.drop j) (ys.toList.drop j) then none else some false, PUnit.unit) w := by
    intro m
    induction m with
    | zero =>
      intro j hj hsj w
      have e1 : xs.toList.drop j = [] := List.drop_of_length_le (by omega)
      have e2 : ys.toList.drop j = [] := List.drop_of_length_le (by have := hs.len; omega)
      rw [e1, e2]
      rfl
    | succ m ih =>
      intro j hj hsj w
      have hjx : j < xs.toList.length := by omega
      have hjy : j < ys.toList.length := by have := hs.len; omega
      rw [List.drop_eq_getElem_cons hjx, List.drop_eq_getElem_cons hjy] at hsj ⊢
      obtain ⟨k', a, b, ha, hb, hrest⟩ := hsj.cons
      have gx : xs[j]? = some (.int k' a) := by rw [← ha, ← Array.getElem?_toList]; exact List.getElem?_eq_getElem hjx
      have gy : ys[j]? = some (.int k' b) := by rw [← hb, ← Array.getElem?_toList]; exact List.getElem?_eq_getElem hjy
      have ih' := ih (j + 1) (by omega) hrest w
      rw [List.range'_succ, List.forIn_cons]
      simp only [Sem.run_bind, run_part_int P hi xs gx, Result.andThen_ok, run_part_int P hi ys gy, run_equalIn_int w d e k' k a b hk]
      rw [ha, hb]
      by_cases hab : a = b
      · subst hab
        simp only [beq_self_eq_true, Bool.not_true, Bool.false_eq_true, if_false, Sem.run_pure, Result.andThen_ok, eqL, Bool.true_and]
        exact ih'
      · have : (a == b) = false := beq_eq_false_iff_ne.2 hab
        simp only [this, Bool.not_false, if_true, Sem.run_pure, Result.andThen_ok, eqL, Bool.false_and, Bool.false_eq_true, if_false]
  have := key n 0 rfl (by simpa using hs) w
  simp only [List.drop_zero] at this
  rw [this]
  cases eqL xs.toList ys.toList <;> rfl

theorem run_eq_fields (D : Nat) (xs ys : Array Value) : ∀ (fs : List Field) (off n : Nat), eqF P off fs = some n → SameI (xs.toList.drop off) (ys.toList.drop off) → xs.toList.length = n → ∀ w,
    (Op.eqFields (D + 2) xs ys fs).run P w = .ok (eqL (xs.toList.drop off) (ys.toList.drop off)) w
  | [], off, n, h, hs, hx, w => by
    simp only [eqF, Option.some.injEq] at h
    have e1 : xs.toList.drop off = [] := List.drop_of_length_le (by omega)
    have e2 : ys.toList.drop off = [] := by have := hs.len; rw [e1] at this; exact List.eq_nil_of_length_eq_zero this.symm
    rw [e1, e2]
    rfl
  | f :: fs, off, n, h, hs, hx, w => by
    unfold eqF at h
    split at h
    case isFalse => cases h
    rename_i hf
    simp only [Bool.and_eq_true, bne_iff_ne, ne_eq, beq_iff_eq] at hf
    obtain ⟨⟨hname, hoff⟩, hh⟩ := hf
    unfold Op.eqFields
    rw [if_pos hname, hoff]
    split at h
    · rename_i k hk
      split at h
      case isFalse => cases h
      rename_i h1
      have hi : intB P f.type = true := by unfold intB; rw [hk]
      cases hcx : xs.toList.drop off with
      | nil =>
        have : n ≤ off := by rw [← hx]; exact List.drop_eq_nil_iff.1 hcx
        have := eqF_le fs (off + 1) n h
        omega
      | cons a l =>
        cases hcy : ys.toList.drop off with
        | nil => rw [hcx, hcy] at hs; exact hs.cons_nil.elim
        | cons b l' =>
          rw [hcx, hcy] at hs
          obtain ⟨k', u, v, rfl, rfl, ht⟩ := hs.cons
          have gx : xs[off]? = some (.int k' u) := by rw [← Array.getElem?_toList, ← Nat.add_zero off, ← List.getElem?_drop, hcx]; rfl
          have gy : ys[off]? = some (.int k' v) := by rw [← Array.getElem?_toList, ← Nat.add_zero off, ← List.getElem?_drop, hcy]; rfl
          have e1 : xs.toList.drop (off + 1) = l := by rw [← List.drop_drop, hcx]; rfl
          have e2 : ys.toList.drop (off + 1) = l' := by rw [← List.drop_drop, hcy]; rfl
          have ih := run_eq_fields D xs ys fs (off + 1) n h (by rw [e1, e2]; exact ht) hx w
          simp only [Sem.run_bind, run_part_int P hi xs gx, Result.andThen_ok, run_part_int P hi ys gy, run_equalIn_int w (D + 1) f.type k' k u v hk]
          by_cases huv : u = v
          · subst huv
            simp only [beq_self_eq_true, Bool.not_true, Bool.false_eq_true, if_false, eqL, Bool.true_and]
            rw [ih, e1, e2]
          · have : (u == v) = false := beq_eq_false_iff_ne.2 huv
            simp only [this, Bool.not_false, if_true, eqL, Bool.false_and, Sem.run_pure]
    · rename_i m e hu
      split at h
      case isFalse => cases h
      rename_i h1
      simp only [Bool.and_eq_true, beq_iff_eq] at h1
      obtain ⟨⟨⟨h2, h3⟩, h4⟩, h5⟩ := h1
      have hle := eqF_le fs (off + m) n h
      have hsp := hs.split m
      have ex : (xs.extract off (off + szT P f.type)).toList = (xs.toList.drop off).take m := by
        rw [h5, Array.toList_extract, List.extract_eq_take_drop, Nat.add_sub_cancel_left]
      have ey : (ys.extract off (off + szT P f.type)).toList = (ys.toList.drop off).take m := by
        rw [h5, Array.toList_extract, List.extract_eq_take_drop, Nat.add_sub_cancel_left]
      have hr := run_eq_row P hu h2 h3 h4 D (xs.extract off (off + szT P f.type)) (ys.extract off (off + szT P f.type)) (by rw [ex, ey]; exact hsp.1) (by rw [ex, List.length_take, List.length_drop]; omega) w
      have ih := run_eq_fields D xs ys fs (off + m) n h (by rw [← List.drop_drop, ← List.drop_drop]; exact hsp.2) hx w
      simp only [Sem.run_bind, run_part_row P hu hh, Result.andThen_ok, hr]
      rw [ex, ey, eqL_split m hs, List.drop_drop, List.drop_drop]
      cases hq : eqL ((xs.toList.drop off).take m) ((ys.toList.drop off).take m) with
      | true => simp only [Bool.not_true, Bool.false_eq_true, if_false, Bool.true_and]; rw [ih]
      | false => simp only [Bool.not_false, if_true, Bool.false_and, Sem.run_pure]
    · cases h
where
  eqF_le : ∀ (fs : List Field) (off n : Nat), eqF P off fs = some n → off ≤ n
  | [], off, n, h => by simp only [eqF, Option.some.injEq] at h; omega
  | f :: fs, off, n, h => by
    unfold eqF at h
    split at h
    case isFalse => cases h
    split at h
    · split at h
      · have := eqF_le fs _ _ h; omega
      · cases h
    · split at h
      · have := eqF_le fs _ _ h; omega
      · cases h
    · cases h

theorem run_eq_struct {T : TypeId} {n : Nat} (hT : eqT P T = some n) (xs ys : Array Value) (hs : SameI xs.toList ys.toList) (hx : xs.toList.length = n) (w : World) : (Op.equal T (.agg xs) (.agg ys)).run P w = .ok (eqL xs.toList ys.toList) w := by
  unfold eqT at hT
  split at hT
  · cases hT
  · rename_i hst
    split at hT
    · rename_i fs hu
      have hf : P.fieldsOf T = fs := by unfold Program.fieldsOf; rw [hu]
      have h1 := run_equalIn_struct (P := P) w 9999 T xs ys (by rw [hf]; exact hu) (by simp at hst; exact hst.1)
      have h2 := run_eq_fields P 9997 xs ys fs.toList 0 n hT (by simpa using hs) hx w
      rw [hf, h2] at h1
      simp only [List.drop_zero] at h1
      exact h1
    · cases hT

def eqOp (op : BinOp) (b : Bool) : Option Value := match op with | .eql => some (.bool b) | .neq => some (.bool (!b)) | _ => none
/-- The operations on two values, structs of numbers too. -/
def binW (op : BinOp) (T : TypeId) (x y : Value) : Out :=
  match x with
  | .agg a => match y with
    | .agg b => match eqT P T, eqOp op (eqL a.toList b.toList) with
      | some n, some v => some (SameI a.toList b.toList ∧ a.toList.length = n, v)
      | _, _ => none
    | _ => none
  | .int k a => binV P op T (.int k a) y
  | .string s => binV P op T (.string s) y
  | .bool b => binV P op T (.bool b) y
  | .slice a _ _ => match y with
    | .slice none _ _ => match slcE P T, eqOp op a.isNone with
      | some _, some v => some (True, v)
      | _, _ => none
    | _ => none
  | _ => none

theorem run_equal_nilslice {T e : TypeId} (hT : P.underlying T = some (.slice e)) (a : Option Addr) (n c n' c' : Nat) (w : World) : (Op.equal T (.slice a n c) (.slice none n' c')).run P w = .ok a.isNone w := by
  show (Op.equalIn (9999 + 1) T _ _).run P w = _
  unfold Op.equalIn
  simp only [Sem.run_bind, run_underlying hT, Result.andThen_ok]
  cases a <;> rfl

theorem run_binW {op : BinOp} {T : TypeId} {x y : Value} (ox oy : Operand) {c : Prop} {v : Value} (w : World) (h : binW P op T x y = some (c, v)) (hc : c) :
    ((do eqGuard op T ox oy x y; binOp op T x y : Sem Value)).run P w = .ok v w := by
  unfold binW at h
  split at h
  · rename_i a
    split at h
    · rename_i b
      split at h
      · rename_i n u hT he
        simp only [Option.some.injEq, Prod.mk.injEq] at h
        obtain ⟨rfl, rfl⟩ := h
        have hr := run_eq_struct P hT a b hc.1 hc.2 w
        have hg : (eqGuard op T ox oy (.agg a) (.agg b)).run P w = .ok () w := by
          have hz : P.eqGuardType P.depth T = false := by
            unfold eqT at hT
            split at hT
            · cases hT
            · rename_i hst; simp at hst; exact hst.2
          unfold eqGuard
          cases op <;> simp [hz]
        simp only [Sem.run_bind, hg, Result.andThen_ok]
        unfold eqOp at he
        split at he <;> simp only [Option.some.injEq, reduceCtorEq] at he
        all_goals
          subst he
          simp only [binOp, Sem.run_bind, hr, Result.andThen_ok]
          rfl
      · cases h
    · cases h
  · exact run_binV P ox oy w h hc
  · exact run_binV P ox oy w h hc
  · exact run_binV P ox oy w h hc
  · rename_i a n c
    split at h
    · rename_i n' c'
      split at h
      · rename_i e u hT he
        simp only [Option.some.injEq, Prod.mk.injEq] at h
        obtain ⟨_, rfl⟩ := h
        have hu : P.underlying T = some (.slice e) := by unfold slcE at hT; split at hT <;> simp_all
        have hr := run_equal_nilslice P hu a n c n' c' w
        have hg : (eqGuard op T ox oy (.slice a n c) (.slice none n' c')).run P w = .ok () w := by
          unfold eqGuard
          cases op <;> simp
        simp only [Sem.run_bind, hg, Result.andThen_ok]
        unfold eqOp at he
        split at he <;> simp only [Option.some.injEq, reduceCtorEq] at he
        all_goals
          subst he
          simp only [binOp, Sem.run_bind, hr, Result.andThen_ok]
          rfl
      · cases h
    · cases h
  · cases h

end
end Go.W8
