/-
  Rows of eight numbers told by a function of their places; parts of spelled lists. Nothing here is about one program. Conditions: none.
-/
import Derived.Test.YtdfddcfgagfdoaaLX
namespace Go.W8
set_option linter.unusedVariables false
set_option linter.unusedSimpArgs false
set_option linter.unusedSectionVars false

theorem splice_succ (a : Value) (l vs : List Value) (n : Nat) : splice (a :: l) (n + 1) vs = a :: splice l n vs := by
  unfold splice
  rw [List.take_succ_cons, show n + 1 + vs.length = (n + vs.length) + 1 by omega, List.drop_succ_cons]
  rfl
theorem splice_zero (a v : Value) (l : List Value) : splice (a :: l) 0 [v] = v :: l := rfl

def tab (f : Nat → Int) : List Int := (List.range 8).map f
theorem tab_len (f : Nat → Int) : (tab f).length = 8 := by simp [tab]
theorem tab_get {f : Nat → Int} {i : Nat} (h : i < 8) : (tab f).getD i 0 = f i := by
  unfold tab
  rw [List.getD_eq_getElem?_getD, List.getElem?_map, List.getElem?_range h]; rfl
theorem tab_set (f : Nat → Int) (i : Nat) (v : Int) : (tab f).set i v = tab (fun j => if j = i then v else f j) := by
  apply List.ext_getElem?
  intro j
  unfold tab
  by_cases hj : j < 8
  · by_cases e : i = j
    · subst e
      rw [List.getElem?_set_self (by simpa using hj), List.getElem?_map, List.getElem?_range hj]; simp
    · rw [List.getElem?_set_ne e, List.getElem?_map, List.getElem?_map, List.getElem?_range hj]
      simp [Ne.symm e]
  · rw [List.getElem?_eq_none (by simp; omega), List.getElem?_eq_none (by simp; omega)]
theorem tab_ext {f g : Nat → Int} (h : ∀ q, q < 8 → f q = g q) : tab f = tab g := List.map_congr_left fun q hq => h q (List.mem_range.1 hq)
theorem tab_of {l : List Int} (h : l.length = 8) : tab (fun q => l.getD q 0) = l := by
  apply List.ext_getElem?
  intro j
  unfold tab
  rw [List.getElem?_map]
  by_cases hj : j < 8
  · rw [List.getElem?_range hj, List.getElem?_eq_getElem (by omega)]
    simp [List.getD_eq_getElem?_getD, List.getElem?_eq_getElem (show j < l.length by omega)]
  · rw [List.getElem?_eq_none (by simp; omega), List.getElem?_eq_none (by omega)]; rfl
theorem tab_eq {l : List Int} {f : Nat → Int} (h : l.length = 8) (hf : ∀ q, q < 8 → l.getD q 0 = f q) : l = tab f := by
  rw [← tab_of h]; exact tab_ext hf
theorem tab_zero : z8 = tab fun _ => 0 := rfl

/-- The temporaries hold just this. -/
def Agree : List (Nat × Value) → Env → Prop
  | [], _ => True
  | (t, v) :: l, ρ => ρ t = v ∧ Agree l ρ
theorem updL_agree {ρ : Env} : ∀ (l : List (Nat × Value)), Agree l ρ → updL l ρ = ρ
  | [], _ => rfl
  | (t, v) :: l, h => by
    show upd (updL l ρ) t v = ρ
    rw [updL_agree l h.2, ← h.1, upd_self]
theorem norm_of {ρ : Env} {l : List (Nat × Value)} (h : Agree l ρ) : ρ = updL l ρ := (updL_agree l h).symm
theorem Fresh.all {w0 : World} {M : Blks} {b : Nat} (h : Fresh w0 M b) : ∀ p ∈ M, ¬ b = p.1 := h.2

theorem sameI_ints {k : IntKind} : ∀ {l l' : List Int}, l.length = l'.length → SameI (ints k l) (ints k l')
  | [], [], _ => trivial
  | [], _ :: _, h => by simp at h
  | _ :: _, [], h => by simp at h
  | a :: l, b :: l', h => ⟨rfl, sameI_ints (by simpa using h)⟩
theorem eqL_ints {k : IntKind} : ∀ {l l' : List Int}, l.length = l'.length → eqL (ints k l) (ints k l') = decide (l = l')
  | [], [], _ => rfl
  | [], _ :: _, h => by simp at h
  | _ :: _, [], h => by simp at h
  | a :: l, b :: l', h => by
    show (a == b && eqL (ints k l) (ints k l')) = _
    rw [eqL_ints (by simpa using h), Bool.eq_iff_iff]
    simp
theorem sameI_append : ∀ {a a' b b' : List Value}, SameI a a' → SameI b b' → SameI (a ++ b) (a' ++ b')
  | [], [], _, _, _, h => h
  | [], _ :: _, _, _, h, _ => h.nil_cons.elim
  | _ :: _, [], _, _, h, _ => h.cons_nil.elim
  | x :: l, y :: l', _, _, h, hb => by
    obtain ⟨k, u, v, rfl, rfl, ht⟩ := h.cons
    exact ⟨rfl, sameI_append ht hb⟩
theorem eqL_append : ∀ {a a' b b' : List Value}, SameI a a' → eqL (a ++ b) (a' ++ b') = (eqL a a' && eqL b b')
  | [], [], _, _, _ => by simp [eqL]
  | [], _ :: _, _, _, h => h.nil_cons.elim
  | _ :: _, [], _, _, h => h.cons_nil.elim
  | x :: l, y :: l', b, b', h => by
    obtain ⟨k, u, v, rfl, rfl, ht⟩ := h.cons
    simp only [List.cons_append, eqL]
    rw [eqL_append ht, Bool.and_assoc]
theorem sameI_gc {s s' : Int} {x o x' o' : List Int} (h1 : x.length = 8) (h2 : o.length = 8) (h3 : x'.length = 8) (h4 : o'.length = 8) : SameI (gc s x o) (gc s' x' o') = True :=
  eq_true ⟨rfl, sameI_append (sameI_ints (by omega)) (sameI_ints (by omega))⟩
theorem eqL_gc {s s' : Int} {x o x' o' : List Int} (h1 : x.length = 8) (h2 : o.length = 8) (h3 : x'.length = 8) (h4 : o'.length = 8) : eqL (gc s x o) (gc s' x' o') = decide (s = s' ∧ x = x' ∧ o = o') := by
  show (s == s' && eqL (ints .u8 x ++ ints .u8 o) (ints .u8 x' ++ ints .u8 o')) = _
  rw [eqL_append (sameI_ints (by omega)), eqL_ints (by omega), eqL_ints (by omega), Bool.eq_iff_iff]
  simp

theorem ones_nil : Ones [] = True := eq_true fun _ h => nomatch h
theorem ones_cons_int {k : IntKind} {n : Int} {l : List Value} : Ones (.int k n :: l) = Ones l := by
  unfold Ones
  simp [Value.oneCell']
theorem ones_cons_slc {a : Option Addr} {n c : Nat} {l : List Value} : Ones (.slice a n c :: l) = Ones l := by
  unfold Ones
  simp [Value.oneCell']

/-- A plan that parts, closed to the walk's own reckoning. -/
def moreX (P : Program) (N : Nat) (W : List Nat) (w0 : World) (ops : Array Oper) (i : Nat) (p q : Plan) (ρ : Env) (M : Blks) (K : Env → Blks → Prop) : Prop := evPlan P N W w0 ops (.more i p q) ρ M K
theorem evPlan_more {P : Program} {N : Nat} {W : List Nat} {w0 : World} {ops : Array Oper} {i : Nat} {p q : Plan} {ρ : Env} {M : Blks} {K : Env → Blks → Prop} : evPlan P N W w0 ops (.more i p q) ρ M K = moreX P N W w0 ops i p q ρ M K := rfl
theorem moreX_go {P : Program} {N : Nat} {W : List Nat} {w0 : World} {ops : Array Oper} {i : Nat} {p q : Plan} {ρ : Env} {M : Blks} {K : Env → Blks → Prop} (h : evPlan P N W w0 ops (.one i p) ρ M K) (h' : evPlan P N W w0 ops q ρ M K) : moreX P N W w0 ops i p q ρ M K := by
  unfold moreX evPlan
  unfold evPlan at h
  split
  · rename_i o ho
    rw [ho] at h
    exact ⟨h, h'⟩
  · rename_i ho
    rw [ho] at h
    exact h

/-! ### Short names -/

theorem Za : type_of% @guardQ_tt := @guardQ_tt
theorem Zb : type_of% @guardQ_ff := @guardQ_ff
theorem Zc : type_of% @guardQ_tf := @guardQ_tf
theorem Zd : type_of% @guardQ_ft := @guardQ_ft
theorem Ze : type_of% @guardQ_and := @guardQ_and
theorem Zf : type_of% @evOp_call := @evOp_call
theorem Zg : type_of% @evQ_call := @evQ_call
theorem Zh : type_of% @evV_call := @evV_call
theorem Zj : type_of% @cond_true := @cond_true
theorem Zk : type_of% @cond_false := @cond_false
theorem Zl : type_of% @true_and := @true_and
theorem Zm : type_of% @and_true := @and_true
theorem Zn : type_of% @if_false := @if_false
theorem Zo : type_of% @or_false := @or_false
theorem Zp : type_of% @false_or := @false_or
theorem Zq : type_of% @and_self := @and_self
theorem Zr : type_of% @and_false := @and_false
theorem Zs : type_of% @false_and := @false_and
theorem Zt : type_of% @List.getElem?_toArray := @List.getElem?_toArray
theorem Zu : type_of% @List.getElem?_cons_zero := @List.getElem?_cons_zero
theorem Zv : type_of% @List.getElem?_cons_succ := @List.getElem?_cons_succ
theorem Zw : type_of% @Option.bind_some := @Option.bind_some
theorem Zx : type_of% @Option.map_some := @Option.map_some
theorem Zy : type_of% @Bool.not_true := @Bool.not_true
theorem Zz : type_of% @Bool.not_false := @Bool.not_false
theorem ZA : type_of% @forall_const := @forall_const
theorem ZB : type_of% @false_implies := @false_implies
theorem ZC : type_of% @true_implies := @true_implies
theorem ZD : type_of% @List.map_cons := @List.map_cons
theorem ZE : type_of% @List.map_nil := @List.map_nil
theorem ZF : type_of% @List.nil_append := @List.nil_append
theorem ZG : type_of% @List.append_nil := @List.append_nil
theorem ZH : type_of% @List.toList_toArray := @List.toList_toArray
theorem ZI : type_of% @Nat.zero_add := @Nat.zero_add
theorem ZJ : type_of% @Nat.add_zero := @Nat.add_zero
theorem ZK : type_of% @Nat.mul_one := @Nat.mul_one
theorem ZL : type_of% @Int.toNat_natCast := @Int.toNat_natCast
theorem ZM : type_of% @List.size_toArray := @List.size_toArray
theorem ZN : type_of% @List.length_cons := @List.length_cons
theorem ZO : type_of% @List.length_nil := @List.length_nil
theorem ZP : type_of% @List.mem_cons := @List.mem_cons
theorem ZQ : type_of% @List.not_mem_nil := @List.not_mem_nil
theorem ZR : type_of% @stC_full := @stC_full
theorem ZS : type_of% @stC_gc_x := @stC_gc_x
theorem ZT : type_of% @stC_gc_o := @stC_gc_o
theorem ZU : type_of% @sub_full := @sub_full
theorem ZV : type_of% @splice_full := @splice_full
theorem ZW : type_of% @splice_gc_s := @splice_gc_s
theorem ZX : type_of% @splice_gc_x := @splice_gc_x
theorem ZY : type_of% @splice_gc_o := @splice_gc_o
theorem ZZ : type_of% @sub_gc_x := @sub_gc_x
theorem Z0 : type_of% @sub_gc_o := @sub_gc_o
theorem Z1 : type_of% @ones_ints := @ones_ints
theorem Z2 : type_of% @ones_bools := @ones_bools
theorem Z3 : type_of% @ones_int := @ones_int
theorem Z4 : type_of% @ones_bool := @ones_bool
theorem Z5 : type_of% @ones_ptr := @ones_ptr
theorem Z6 : type_of% @ones_slc := @ones_slc
theorem Z7 : type_of% @ones_str := @ones_str
theorem Z8 : type_of% @ones_func := @ones_func
theorem Z9 : type_of% @gc_length := @gc_length
theorem Ya : type_of% @ints_length := @ints_length
theorem Yb : type_of% @bools_length := @bools_length
theorem Yc : type_of% @upto_length := @upto_length
theorem Yd : type_of% @List.length_set := @List.length_set
theorem Ye : type_of% @List.length_replicate := @List.length_replicate
theorem Yf : type_of% @wrap_i64 := @wrap_i64
theorem Yg : type_of% @gc_set_s := @gc_set_s
theorem Yh : type_of% @gc_set_x := @gc_set_x
theorem Yi : type_of% @gc_set_o := @gc_set_o
theorem Yj : type_of% @ints_get := @ints_get
theorem Yk : type_of% @ints_set := @ints_set
theorem Yl : type_of% @bools_get := @bools_get
theorem Ym : type_of% @bools_set := @bools_set
theorem Yn : type_of% @List.length_map := @List.length_map
theorem Yo : type_of% @decide_eq_true_eq := @decide_eq_true_eq
theorem Yp : type_of% @Int.tmod_eq_emod_of_nonneg := @Int.tmod_eq_emod_of_nonneg
theorem Yq : type_of% @Int.tdiv_eq_ediv_of_nonneg := @Int.tdiv_eq_ediv_of_nonneg
theorem Yr : type_of% @retQ_ret := @retQ_ret
theorem Ys : type_of% @retQ_normal := @retQ_normal
theorem Yt : type_of% @resV_tmp := @resV_tmp
theorem Yu : type_of% @resV_cell := @resV_cell
theorem Yv : type_of% @bne_self_eq_false := @bne_self_eq_false
theorem Yw : type_of% @beq_self_eq_true := @beq_self_eq_true
theorem Yx : type_of% @Int.cast_ofNat_Int := @Int.cast_ofNat_Int
theorem Yy : type_of% @Int.toNat_zero := @Int.toNat_zero
theorem Yz : type_of% @Nat.zero_le := @Nat.zero_le
theorem YA : type_of% @Int.natCast_nonneg := @Int.natCast_nonneg
theorem YB : type_of% @Int.le_refl := @Int.le_refl
theorem YC : type_of% @Option.map_none := @Option.map_none
theorem YD : type_of% @Nat.zero_mul := @Nat.zero_mul
theorem YE : type_of% @Option.getD_none := @Option.getD_none
theorem YF : type_of% @Option.getD_some := @Option.getD_some
theorem YG : type_of% @not_false_eq_true := @not_false_eq_true
theorem YH : type_of% @Nat.sub_zero := @Nat.sub_zero
theorem YI : type_of% @List.map_toArray := @List.map_toArray
theorem YJ : type_of% @splice_succ := @splice_succ
theorem YK : type_of% @splice_zero := @splice_zero
theorem YL : type_of% @ones_nil := @ones_nil
theorem YM : type_of% @ones_cons_int := @ones_cons_int
theorem YN : type_of% @ones_cons_slc := @ones_cons_slc
theorem YO : type_of% @sameI_gc := @sameI_gc
theorem YP : type_of% @List.set_cons_zero := @List.set_cons_zero
theorem YQ : type_of% @List.set_cons_succ := @List.set_cons_succ
theorem YR : type_of% @evPlan_more := @evPlan_more
theorem YS : type_of% @evOps_guard := @evOps_guard
theorem YT : type_of% @evQs_guard := @evQs_guard
theorem YU : type_of% @List.take_succ_cons := @List.take_succ_cons
theorem YV : type_of% @List.take_zero := @List.take_zero
theorem YW : type_of% @List.drop_succ_cons := @List.drop_succ_cons
theorem YX : type_of% @List.drop_zero := @List.drop_zero

end Go.W8
