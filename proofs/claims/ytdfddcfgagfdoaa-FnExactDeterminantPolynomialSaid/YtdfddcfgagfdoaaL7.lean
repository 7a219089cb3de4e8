/-
  Numbers, grids and rows of numbers as cells. Nothing here is about one program. Conditions: none.
-/
import Derived.Test.YtdfddcfgagfdoaaL6
namespace Go.W8

theorem wrap_i64 {n : Int} (h0 : -9223372036854775808 ≤ n) (h1 : n < 9223372036854775808) : IntKind.wrap .i64 n = n := by
  have e : (2 ^ IntKind.i64.bits : Int) = 18446744073709551616 := by decide
  have e2 : (2 ^ (IntKind.i64.bits - 1) : Int) = 9223372036854775808 := by decide
  unfold IntKind.wrap
  simp only [e, e2]
  have hs : IntKind.i64.signed = true := rfl
  rw [hs]
  by_cases h : n % 18446744073709551616 ≥ 9223372036854775808
  · simp only [h, decide_true, Bool.and_true, if_true]; omega
  · simp only [h, decide_false, Bool.and_false, Bool.false_eq_true, if_false]; omega

theorem wrap_u8 {n : Int} (h0 : 0 ≤ n) (h1 : n < 256) : IntKind.wrap .u8 n = n := by
  have e : (2 ^ IntKind.u8.bits : Int) = 256 := by decide
  unfold IntKind.wrap
  have hs : IntKind.u8.signed = false := rfl
  simp only [e, hs, Bool.false_and, Bool.false_eq_true, if_false]
  omega

theorem wrap_u8_mod (n : Int) : IntKind.wrap .u8 n = n % 256 := by
  have e : (2 ^ IntKind.u8.bits : Int) = 256 := by decide
  unfold IntKind.wrap
  have hs : IntKind.u8.signed = false := rfl
  simp only [e, hs, Bool.false_and, Bool.false_eq_true, if_false]

/-- A row of numbers. -/
def ints (k : IntKind) (l : List Int) : List Value := l.map (Value.int k)

@[simp] theorem ints_length (k : IntKind) (l : List Int) : (ints k l).length = l.length := by simp [ints]
theorem ints_get {k : IntKind} {l : List Int} {i : Nat} (h : i < l.length) : (ints k l)[i]? = some (.int k (l.getD i 0)) := by
  unfold ints
  rw [List.getElem?_map, List.getElem?_eq_getElem h, List.getD_eq_getElem?_getD, List.getElem?_eq_getElem h]
  rfl
theorem ints_set (k : IntKind) (l : List Int) (i : Nat) (v : Int) : (ints k l).set i (.int k v) = ints k (l.set i v) := by
  unfold ints; rw [List.map_set]
theorem ints_one (k : IntKind) (l : List Int) : ∀ v ∈ ints k l, v.oneCell' = true := by
  intro v hv
  obtain ⟨n, _, rfl⟩ := List.mem_map.1 hv
  rfl

/-- A row of truths. -/
def bools (l : List Bool) : List Value := l.map Value.bool
@[simp] theorem bools_length (l : List Bool) : (bools l).length = l.length := by simp [bools]
theorem bools_get {l : List Bool} {i : Nat} (h : i < l.length) : (bools l)[i]? = some (.bool (l.getD i false)) := by
  unfold bools
  rw [List.getElem?_map, List.getElem?_eq_getElem h, List.getD_eq_getElem?_getD, List.getElem?_eq_getElem h]
  rfl
theorem bools_set (l : List Bool) (i : Nat) (v : Bool) : (bools l).set i (.bool v) = bools (l.set i v) := by
  unfold bools; rw [List.map_set]

def z8 : List Int := [0, 0, 0, 0, 0, 0, 0, 0]

/-- A grid's cells. -/
def gc (s : Int) (x o : List Int) : List Value := .int .i64 s :: (ints .u8 x ++ ints .u8 o)

theorem gc_length (s : Int) (x o : List Int) : (gc s x o).length = 1 + x.length + o.length := by
  simp [gc]; omega
theorem gc_s (s : Int) (x o : List Int) : (gc s x o)[0]? = some (.int .i64 s) := rfl
theorem gc_x {s : Int} {x o : List Int} {i : Nat} (h : i < x.length) : (gc s x o)[1 + i]? = some (.int .u8 (x.getD i 0)) := by
  unfold gc
  rw [Nat.add_comm, List.getElem?_cons_succ, List.getElem?_append_left (by simpa using h), ints_get h]
theorem gc_o {s : Int} {x o : List Int} {i : Nat} (hx : x.length = 8) (h : i < o.length) : (gc s x o)[9 + i]? = some (.int .u8 (o.getD i 0)) := by
  unfold gc
  have e : 9 + i = (8 + i) + 1 := by omega
  rw [e, List.getElem?_cons_succ, List.getElem?_append_right (by simp; omega), ints_length, hx, Nat.add_sub_cancel_left, ints_get h]
theorem gc_set_s (s s' : Int) (x o : List Int) : (gc s x o).set 0 (.int .i64 s') = gc s' x o := rfl
theorem gc_set_x {s : Int} {x o : List Int} {i : Nat} {v : Int} (h : i < x.length) : (gc s x o).set (1 + i) (.int .u8 v) = gc s (x.set i v) o := by
  unfold gc
  rw [Nat.add_comm, List.set_cons_succ, List.set_append_left _ _ (by simpa using h), ints_set]
theorem gc_set_o {s : Int} {x o : List Int} {i : Nat} {v : Int} (hx : x.length = 8) : (gc s x o).set (9 + i) (.int .u8 v) = gc s x (o.set i v) := by
  unfold gc
  have e : 9 + i = (8 + i) + 1 := by omega
  rw [e, List.set_cons_succ, List.set_append_right _ _ (by simp; omega), ints_length, hx, Nat.add_sub_cancel_left, ints_set]
theorem gc_take_x {s : Int} {x o : List Int} (hx : x.length = 8) : ((gc s x o).drop 1).take 8 = ints .u8 x := by
  unfold gc
  rw [List.drop_succ_cons, List.drop_zero, List.take_append_of_le_length (by simp; omega), List.take_of_length_le (by simp; omega)]
theorem gc_take_o {s : Int} {x o : List Int} (hx : x.length = 8) (ho : o.length = 8) : ((gc s x o).drop 9).take 8 = ints .u8 o := by
  unfold gc
  rw [List.drop_succ_cons, List.drop_append, ints_length, hx, Nat.sub_self, List.drop_zero, List.drop_of_length_le (by simp; omega), List.nil_append, List.take_of_length_le (by simp; omega)]
theorem gc_one (s : Int) (x o : List Int) : ∀ v ∈ gc s x o, v.oneCell' = true := by
  intro v hv
  unfold gc at hv
  rcases List.mem_cons.1 hv with rfl | hv
  · rfl
  · rcases List.mem_append.1 hv with hv | hv
    · exact ints_one _ _ v hv
    · exact ints_one _ _ v hv

theorem z8_len : z8.length = 8 := of_eq_true (eq_true (by decide))
theorem ones_gc (s : Int) (x o : List Int) : Ones (gc s x o) = True := eq_true (gc_one s x o)
theorem ones_ints (k : IntKind) (l : List Int) : Ones (ints k l) = True := eq_true (ints_one k l)
theorem ones_bools (l : List Bool) : Ones (bools l) = True := eq_true fun v hv => by obtain ⟨n, _, rfl⟩ := List.mem_map.1 hv; rfl
theorem ones_int (k : IntKind) (n : Int) : Ones [.int k n] = True := eq_true (by simp [Ones, Value.oneCell'])
theorem ones_bool (b : Bool) : Ones [.bool b] = True := eq_true (by simp [Ones, Value.oneCell'])
theorem ones_ptr (a : Option Addr) : Ones [.pointer a] = True := eq_true (by simp [Ones, Value.oneCell'])
theorem ones_slc (a : Option Addr) (n c : Nat) : Ones [.slice a n c] = True := eq_true (by simp [Ones, Value.oneCell'])
theorem ones_str (s : ByteArray) : Ones [.string s] = True := eq_true (by simp [Ones, Value.oneCell'])
theorem ones_func (f : Fn) (a b : Array Value) : Ones [.func f a b] = True := eq_true (by simp [Ones, Value.oneCell'])

theorem stC_one (cs : List Value) (o : Nat) (v : Value) : stC cs o [v] = cs.set o v := rfl
theorem splice_full {cs vs : List Value} (h : vs.length = cs.length) : splice cs 0 vs = vs := by
  unfold splice
  rw [List.take_zero, List.nil_append, Nat.zero_add, h, List.drop_of_length_le (Nat.le_refl _), List.append_nil]
theorem stC_full {cs vs : List Value} (h : vs.length = cs.length) : stC cs 0 vs = vs := by
  unfold stC
  split
  · rename_i v
    match cs, h with
    | [c], _ => rfl
  · exact splice_full h
theorem stC_many {cs vs : List Value} {o : Nat} (h : 2 ≤ vs.length) : stC cs o vs = splice cs o vs := by
  unfold stC
  split
  · simp at h
  · rfl
theorem sub_full {cs : List Value} {n : Nat} (h : cs.length = n) : subL cs 0 n = cs := by
  unfold subL
  rw [List.drop_zero, List.take_of_length_le (by omega)]
theorem sub_gc_x {s : Int} {x o : List Int} (hx : x.length = 8) : subL (gc s x o) 1 8 = ints .u8 x := gc_take_x hx
theorem sub_gc_o {s : Int} {x o : List Int} (hx : x.length = 8) (ho : o.length = 8) : subL (gc s x o) 9 8 = ints .u8 o := gc_take_o hx ho
theorem splice_gc_s (s s' : Int) (x o : List Int) : splice (gc s x o) 0 [.int .i64 s'] = gc s' x o := rfl
theorem splice_gc_x {s : Int} {x o x' : List Int} (hx : x.length = 8) (hx' : x'.length = 8) : splice (gc s x o) 1 (ints .u8 x') = gc s x' o := by
  unfold splice gc
  rw [List.take_succ_cons, List.take_zero, ints_length, hx']
  show _ ++ List.drop 8 (ints .u8 x ++ ints .u8 o) = _
  rw [List.drop_append, ints_length, hx, Nat.sub_self, List.drop_zero, List.drop_of_length_le (by simp; omega), List.nil_append]
  rfl
theorem splice_gc_o {s : Int} {x o o' : List Int} (hx : x.length = 8) (ho : o.length = 8) (ho' : o'.length = 8) : splice (gc s x o) 9 (ints .u8 o') = gc s x o' := by
  unfold splice gc
  rw [List.take_succ_cons, ints_length, ho', List.take_append_of_le_length (by simp; omega), List.take_of_length_le (by simp; omega)]
  rw [List.drop_of_length_le (by simp; omega), List.append_nil]
  rfl

theorem stC_gc_x {s : Int} {x o x' : List Int} (hx : x.length = 8) (hx' : x'.length = 8) : stC (gc s x o) 1 (ints .u8 x') = gc s x' o := by
  rw [stC_many (by simp; omega), splice_gc_x hx hx']
theorem stC_gc_o {s : Int} {x o o' : List Int} (hx : x.length = 8) (ho : o.length = 8) (ho' : o'.length = 8) : stC (gc s x o) 9 (ints .u8 o') = gc s x o' := by
  rw [stC_many (by simp; omega), splice_gc_o hx ho ho']

/-- What a loop over places has laid after k rounds. -/
def upto (n : Nat) (f : Nat → Int) (d : Int) (k : Nat) : List Int := (List.range n).map fun i => if i < k then f i else d

@[simp] theorem upto_length (n : Nat) (f : Nat → Int) (d : Int) (k : Nat) : (upto n f d k).length = n := by simp [upto]
theorem upto_zero (n : Nat) (f : Nat → Int) (d : Int) : upto n f d 0 = List.replicate n d := by
  apply List.ext_getElem?
  intro i
  unfold upto
  rw [List.getElem?_map]
  by_cases h : i < n
  · rw [List.getElem?_range h, List.getElem?_replicate_of_lt h]; rfl
  · rw [List.getElem?_eq_none (by simpa using h), List.getElem?_eq_none (by simpa using h)]; rfl
theorem upto_set {n : Nat} {f : Nat → Int} {d : Int} {k : Nat} {v : Int} (hv : v = f k) : (upto n f d k).set k v = upto n f d (k + 1) := by
  subst hv
  apply List.ext_getElem?
  intro i
  by_cases h : i < n
  · by_cases hk : k = i
    · subst hk
      rw [List.getElem?_set_self (by simpa using h)]
      unfold upto
      rw [List.getElem?_map, List.getElem?_range h]
      simp
    · rw [List.getElem?_set_ne hk]
      unfold upto
      rw [List.getElem?_map, List.getElem?_map, List.getElem?_range h]
      simp only [Option.map_some]
      congr 1
      by_cases h1 : i < k
      · rw [if_pos h1, if_pos (by omega)]
      · rw [if_neg h1, if_neg (by omega)]
  · rw [List.getElem?_eq_none (by simpa using h), List.getElem?_eq_none (by simpa using h)]
theorem upto_full {n : Nat} {x : List Int} {d : Int} (h : x.length = n) : upto n (fun i => x.getD i 0) d n = x := by
  apply List.ext_getElem?
  intro i
  unfold upto
  rw [List.getElem?_map]
  by_cases hi : i < n
  · rw [List.getElem?_range hi]
    simp only [Option.map_some, if_pos hi]
    rw [List.getD_eq_getElem?_getD, List.getElem?_eq_getElem (by omega)]
    rfl
  · rw [List.getElem?_eq_none (by simpa using hi), List.getElem?_eq_none (by omega)]; rfl
theorem upto_z8 (f : Nat → Int) : upto 8 f 0 0 = z8 := upto_zero 8 f 0
theorem upto_get {n : Nat} {f : Nat → Int} {d : Int} {k i : Nat} (h : i < n) : (upto n f d k).getD i 0 = if i < k then f i else d := by
  unfold upto
  rw [List.getD_eq_getElem?_getD, List.getElem?_map, List.getElem?_range h]
  rfl

end Go.W8
