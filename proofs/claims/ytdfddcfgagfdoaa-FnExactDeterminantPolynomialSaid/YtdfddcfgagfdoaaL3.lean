/-
  The pure operations of a walk, the rest: parts of values, slices of rows, lengths, built values. Nothing here is about one program. Conditions: none.
-/
import Derived.Test.YtdfddcfgagfdoaaL2
namespace Go.W8

section
variable (P : Program)

theorem run_isAgg {T : TypeId} (h : parT P T = true) (w : World) : (isAgg T).run P w = .ok (aggT P T) w := by
  unfold parT at h
  split at h
  · rename_i d hu
    unfold isAgg aggT
    simp only [Sem.run_bind, run_underlying hu, Result.andThen_ok, hu]
    cases d <;> rfl
  · cases h

/-- A part of a value that is read out of its cells. -/
def partV (T : TypeId) (cs : Array Value) (off : Nat) : Out :=
  if parT P T && hasT P T then
    if aggT P T then some (True, .agg (cs.extract off (off + szT P T))) else some (off < cs.size, cs.getD off undef)
  else none

theorem run_partV {T : TypeId} {cs : Array Value} {off : Nat} {c : Prop} {v : Value} (w : World) (h : partV P T cs off = some (c, v)) (hc : c) : (part T cs off).run P w = .ok v w := by
  unfold partV at h
  split at h
  · rename_i hh
    simp only [Bool.and_eq_true] at hh
    unfold part
    simp only [Sem.run_bind, run_isAgg P hh.1, Result.andThen_ok]
    split at h
    · rename_i ha
      simp only [Option.some.injEq, Prod.mk.injEq] at h
      obtain ⟨_, rfl⟩ := h
      simp only [ha, if_true, Sem.run_bind, run_sizeOf P hh.2, Result.andThen_ok, Sem.run_pure]
    · rename_i ha
      simp only [Option.some.injEq, Prod.mk.injEq] at h
      obtain ⟨rfl, rfl⟩ := h
      have h5 : cs[off]? = some (cs.getD off undef) := by
        rw [Array.getElem?_eq_getElem hc, Array.getD_eq_getD_getElem?, Array.getElem?_eq_getElem hc]; rfl
      rw [if_neg (by simpa using ha), h5]
      rfl
  · cases h

/-- The byte at place n. -/
def bt (s : ByteArray) (n : Int) : Int := (s.data.toList.getD n.toNat 0).toNat

def indexV (T : TypeId) (x i : Value) : Out :=
  match i, x with
  | .int _ n, .agg cs =>
    match arrT P T, arrE P T with
    | some (len, es), some e => (partV P e cs (n.toNat * es)).map fun (c, v) => ((0 ≤ n ∧ n < (len : Int)) ∧ c, v)
    | _, _ => none
  | .int _ n, .string s => if strT P T then some (0 ≤ n ∧ n < (s.size : Int), .int .u8 (bt s n)) else none
  | _, _ => none

theorem strT_spec {T : TypeId} (h : strT P T = true) : P.underlying T = some .string := by
  unfold strT at h; split at h <;> simp_all

theorem bt_get {s : ByteArray} {n : Int} (h0 : 0 ≤ n) (h : n < (s.size : Int)) : s[n.toNat]? = some (s.data.toList.getD n.toNat 0) := by
  have hn : n.toNat < s.size := by omega
  have h1 : s[n.toNat]? = s.data[n.toNat]? := rfl
  rw [h1]
  have h2 : n.toNat < s.data.size := hn
  simp only [List.getD_eq_getElem?_getD, Array.getElem?_toList]
  rw [Array.getElem?_eq_getElem h2]
  rfl

theorem run_indexV {T : TypeId} {x i : Value} {c : Prop} {v : Value} (w : World) (h : indexV P T x i = some (c, v)) (hc : c) : (Instr.index T x i).run P w = .ok v w := by
  unfold indexV at h
  split at h
  · rename_i k n cs
    split at h
    · rename_i len es e ha he
      obtain ⟨e', hu, hh, rfl⟩ := arrT_spec P ha
      have : e = e' := by
        unfold arrE at he; rw [hu] at he; simpa using he.symm
      subst this
      cases hp : partV P e cs (n.toNat * szT P e) with
      | none => rw [hp] at h; cases h
      | some cv =>
        obtain ⟨c', v'⟩ := cv
        rw [hp] at h
        simp only [Option.map_some, Option.some.injEq, Prod.mk.injEq] at h
        obtain ⟨rfl, rfl⟩ := h
        obtain ⟨h1, h2⟩ := hc
        simp [Instr.index, asIntOf, run_underlying hu, h1, run_sizeOf P hh, run_partV P w hp h2]
    · cases h
  · rename_i k n s
    split at h
    · rename_i hs
      simp only [Option.some.injEq, Prod.mk.injEq] at h
      obtain ⟨rfl, rfl⟩ := h
      simp only [Instr.index, asIntOf, Sem.run_bind, Sem.run_pure, Result.andThen_ok, run_underlying (strT_spec P hs)]
      rw [if_pos hc.1, bt_get hc.1 hc.2]
      rfl
    · cases h
  · cases h

def fieldV (T : TypeId) (x : Value) (f : Nat) : Out :=
  match x, fldO P T f with
  | .agg cs, some (k, e) => partV P e cs k
  | _, _ => none

theorem fldO_spec {s : TypeId} {f k : Nat} {e : TypeId} (hf : fldO P s f = some (k, e)) : ∃ (fields : Array Field) (fd : Field), P.underlying s = some (.struct fields) ∧ (fields[f]? : Option Field) = some fd ∧ fd.offset = k ∧ fd.type = e ∧ hasT P e = true ∧ szT P e ≠ 0 := by
  unfold fldO at hf
  split at hf
  · rename_i fields hu
    split at hf
    · rename_i fd hfd
      split at hf
      · rename_i hh
        simp only [Bool.and_eq_true, bne_iff_ne, ne_eq] at hh
        simp only [Option.some.injEq, Prod.mk.injEq] at hf
        obtain ⟨rfl, rfl⟩ := hf
        exact ⟨fields, fd, hu, hfd, rfl, rfl, hh.1, hh.2⟩
      · cases hf
    · cases hf
  · cases hf

theorem run_fieldV {T : TypeId} {x : Value} {f : Nat} {c : Prop} {v : Value} (w : World) (h : fieldV P T x f = some (c, v)) (hc : c) : (Instr.field T x f).run P w = .ok v w := by
  unfold fieldV at h
  split at h
  · rename_i cs k e hf
    obtain ⟨fields, fd, hu, hfd, rfl, rfl, _, _⟩ := fldO_spec P hf
    have hfd' : (fields[f]? : Option Field) = some fd := hfd
    simp only [Instr.field, Sem.run_bind, run_underlying hu, Result.andThen_ok, hfd', asAgg, Sem.run_pure, run_partV P w h hc]
  · cases h

def extractV (x : Value) (i : Nat) : Out :=
  match x with
  | .tuple vs => match vs[i]? with | some v => some (True, v) | none => none
  | _ => none

theorem run_extractV {x : Value} {i : Nat} {c : Prop} {v : Value} (w : World) (h : extractV x i = some (c, v)) : (Instr.extract x i).run P w = .ok v w := by
  unfold extractV at h
  split at h
  · rename_i vs
    split at h
    · rename_i u hu
      simp only [Option.some.injEq, Prod.mk.injEq] at h
      obtain ⟨_, rfl⟩ := h
      simp [Instr.extract, hu]
    · cases h
  · cases h

def nilV (x : Value) : Out :=
  match x with
  | .pointer (some a) => some (True, .pointer (some a))
  | .func (.func f) a b => some (True, .func (.func f) a b)
  | _ => none

/-- The bounds of a slice expression without a third index. -/
def loV (lo : Option Value) : Option Int := match lo with | none => some 0 | some (.int _ n) => some n | _ => none
def hiV (hi : Option Value) (len : Nat) : Option Int := match hi with | none => some len | some (.int _ n) => some n | _ => none

def sliceV (T : TypeId) (x : Value) (lo hi : Option Value) : Out :=
  match x with
  | .pointer (some ⟨b, o, none⟩) =>
    match arrT P T with
    | some (n, es) =>
      match loV lo, hiV hi n with
      | some l, some h => some (0 ≤ l ∧ l ≤ h ∧ h ≤ (n : Int), .slice (some (if n = l.toNat then ⟨b, o, none⟩ else ⟨b, o + l.toNat * es, none⟩)) (h.toNat - l.toNat) (n - l.toNat))
      | _, _ => none
    | none => none
  | .slice (some ⟨b, o, none⟩) len cap =>
    match slcT P T with
    | some es =>
      match loV lo, hiV hi len with
      | some l, some h => some (0 ≤ l ∧ l ≤ h ∧ h ≤ (cap : Int), .slice (some (if cap = l.toNat then ⟨b, o, none⟩ else ⟨b, o + l.toNat * es, none⟩)) (h.toNat - l.toNat) (cap - l.toNat))
      | _, _ => none
    | none => none
  | .slice none len cap =>
    match slcT P T with
    | some _ =>
      match loV lo, hiV hi len with
      | some l, some h => some (0 ≤ l ∧ l ≤ h ∧ h ≤ (cap : Int), .slice none (h.toNat - l.toNat) (cap - l.toNat))
      | _, _ => none
    | none => none
  | .string s =>
    if strT P T then
      match loV lo, hiV hi s.size with
      | some l, some h => some (0 ≤ l ∧ l ≤ h ∧ h ≤ (s.size : Int), .string (s.extract l.toNat h.toNat))
      | _, _ => none
    else none
  | _ => none

theorem run_bounds {isSlice : Bool} {len cap : Nat} {lo hi : Option Value} {l h : Int} (w : World) (hl : loV lo = some l) (hh : hiV hi len = some h)
    (h0 : 0 ≤ l) (h1 : l ≤ h) (h2 : h ≤ (cap : Int)) : (Instr.sliceBounds isSlice len cap lo hi none).run P w = .ok (l.toNat, h.toNat, cap) w := by
  have h3 : 0 ≤ h := by omega
  have h4 : l ≤ (h.toNat : Int) := by omega
  unfold loV at hl
  unfold hiV at hh
  cases lo with
  | none =>
    simp only [Option.some.injEq] at hl
    subst hl
    cases hi with
    | none =>
      simp only [Option.some.injEq] at hh
      subst hh
      simp [Instr.sliceBounds]
    | some x =>
      cases x <;> simp only [Option.some.injEq, reduceCtorEq] at hh
      subst hh
      simp [Instr.sliceBounds, Instr.sliceBound, asIntOf, h3, h2]
  | some y =>
    cases y <;> simp only [Option.some.injEq, reduceCtorEq] at hl
    subst hl
    cases hi with
    | none =>
      simp only [Option.some.injEq] at hh
      subst hh
      simp [Instr.sliceBounds, Instr.sliceBound, asIntOf, h0, h1]
    | some x =>
      cases x <;> simp only [Option.some.injEq, reduceCtorEq] at hh
      subst hh
      rename_i n1 _ n2
      have h5 : ((n2.toNat : Nat) : Int) = n2 := by omega
      simp [-Int.ofNat_toNat, Instr.sliceBounds, Instr.sliceBound, asIntOf, h3, h2, h0, h5, h1]

theorem run_sliceV {T : TypeId} {x : Value} {lo hi : Option Value} {c : Prop} {v : Value} (w : World) (h : sliceV P T x lo hi = some (c, v)) (hc : c) :
    (Instr.sliceAt T x lo hi none).run P w = .ok v w := by
  unfold sliceV at h
  split at h
  · rename_i b o
    split at h
    · rename_i n es ha
      obtain ⟨e, hu, hs, rfl⟩ := arrT_spec P ha
      split at h
      · rename_i l g hl hg
        simp only [Option.some.injEq, Prod.mk.injEq] at h
        obtain ⟨rfl, rfl⟩ := h
        simp only [Instr.sliceAt, Sem.run_bind, run_underlying hu, Result.andThen_ok, Instr.sureAddr, Sem.run_pure, run_bounds P w hl hg hc.1 hc.2.1 hc.2.2, run_sizeOf P hs, add_none]
      · cases h
    · cases h
  · rename_i b o len cap
    split at h
    · rename_i es ha
      obtain ⟨e, hu, hs, rfl⟩ := slcT_spec P ha
      split at h
      · rename_i l g hl hg
        simp only [Option.some.injEq, Prod.mk.injEq] at h
        obtain ⟨rfl, rfl⟩ := h
        simp only [Instr.sliceAt, Instr.slice, Sem.run_bind, run_underlying hu, Result.andThen_ok, Sem.run_pure, run_bounds P w hl hg hc.1 hc.2.1 hc.2.2, run_sizeOf P hs, add_none, Option.map_some]
        split <;> rfl
      · cases h
    · cases h
  · rename_i len cap
    split at h
    · rename_i es ha
      obtain ⟨e, hu, hs, rfl⟩ := slcT_spec P ha
      split at h
      · rename_i l g hl hg
        simp only [Option.some.injEq, Prod.mk.injEq] at h
        obtain ⟨rfl, rfl⟩ := h
        simp only [Instr.sliceAt, Instr.slice, Sem.run_bind, run_underlying hu, Result.andThen_ok, Sem.run_pure, run_bounds P w hl hg hc.1 hc.2.1 hc.2.2, run_sizeOf P hs, Option.map_none]
        split <;> rfl
      · cases h
    · cases h
  · rename_i s
    split at h
    · rename_i hs
      split at h
      · rename_i l g hl hg
        simp only [Option.some.injEq, Prod.mk.injEq] at h
        obtain ⟨rfl, rfl⟩ := h
        simp [Instr.sliceAt, Instr.slice, run_underlying (strT_spec P hs), run_bounds P w hl hg hc.1 hc.2.1 hc.2.2]
      · cases h
    · cases h
  · cases h

def lenV (T : TypeId) (x : Value) : Out :=
  match x with
  | .slice _ n _ => match slcE P T with | some _ => some (True, .int .i64 n) | none => none
  | .string s => if strT P T then some (True, .int .i64 s.size) else none
  | _ => match arrT P T with | some (n, _) => some (True, .int .i64 n) | none => none

theorem run_lenV {T ty : TypeId} {ts : Array TypeId} {x : Value} {c : Prop} {v : Value} (w : World) (ht : ts[0]? = some T) (h : lenV P T x = some (c, v)) :
    (Builtin.len_ ts ty #[x]).run P w = .ok v w := by
  have h0 : (#[x] : Array Value)[0]? = some x := rfl
  unfold lenV at h
  split at h
  · rename_i a n cp
    split at h
    · rename_i e he
      have hu : P.underlying T = some (.slice e) := by unfold slcE at he; split at he <;> simp_all
      simp only [Option.some.injEq, Prod.mk.injEq] at h
      obtain ⟨_, rfl⟩ := h
      simp [Builtin.len_, ht, run_underlying hu, goInt]
    · cases h
  · rename_i s
    split at h
    · rename_i hs
      simp only [Option.some.injEq, Prod.mk.injEq] at h
      obtain ⟨_, rfl⟩ := h
      simp [Builtin.len_, ht, run_underlying (strT_spec P hs), goInt]
    · cases h
  · split at h
    · rename_i n es ha
      obtain ⟨e, hu, hs, rfl⟩ := arrT_spec P ha
      simp only [Option.some.injEq, Prod.mk.injEq] at h
      obtain ⟨_, rfl⟩ := h
      simp [Builtin.len_, ht, run_underlying hu, goInt]
    · cases h

def minV (x y : Value) : Out :=
  match x, y with
  | .int k a, .int _ b => some (True, .int k (if b < a then b else a))
  | _, _ => none
def maxV (x y : Value) : Out :=
  match x, y with
  | .int k a, .int _ b => some (True, .int k (if b > a then b else a))
  | _, _ => none

/-! ### Values that are built -/

def splice (cs : List Value) (off : Nat) (vs : List Value) : List Value := cs.take off ++ vs ++ cs.drop (off + vs.length)

/-- A type's zero cells, and the places of its parts. -/
def bldP (T : TypeId) : Option (List Value × List (Nat × Nat)) :=
  match P.info? T, P.underlying T with
  | some it, some (.array n e) =>
    match it.zero, P.info? e with
    | some z, some ie => some (z.cells.toList, (List.range n).map fun i => (i * ie.size, ie.size))
    | _, _ => none
  | some it, some (.struct fields) =>
    match it.zero, fields.toList.mapM (fun f => (P.info? f.type).map fun i => (f.offset, i.size)) with
    | some z, some places => some (z.cells.toList, places)
    | _, _ => none
  | _, _ => none

def fillL (pl : List (Nat × Nat)) : List Value → List (Nat × Value) → Option (Prop × List Value)
  | cs, [] => some (True, cs)
  | cs, (i, v) :: rest => match pl[i]? with
    | none => none
    | some (off, size) => (fillL pl (splice cs off v.cells.toList) rest).map fun cr => ((v.cells.size = size ∧ off + size ≤ cs.length) ∧ cr.1, cr.2)

theorem splice_get {cs vs : List Value} {off : Nat} (h : off + vs.length ≤ cs.length) (i : Nat) :
    (splice cs off vs)[i]? = if i < off then cs[i]? else if i < off + vs.length then vs[i - off]? else cs[i]? := by
  unfold splice
  have e1 : (cs.take off).length = off := by rw [List.length_take]; omega
  rw [List.append_assoc]
  by_cases h1 : i < off
  · rw [if_pos h1, List.getElem?_append_left (by omega), List.getElem?_take, if_pos h1]
  · rw [if_neg h1, List.getElem?_append_right (by omega), e1]
    by_cases h2 : i < off + vs.length
    · rw [if_pos h2, List.getElem?_append_left (by omega)]
    · rw [if_neg h2, List.getElem?_append_right (by omega), List.getElem?_drop]
      congr 1
      omega

theorem splice_length {cs vs : List Value} {off : Nat} (h : off + vs.length ≤ cs.length) : (splice cs off vs).length = cs.length := by
  unfold splice
  simp only [List.length_append, List.length_take, List.length_drop]
  omega

theorem splice_cons {cs vs : List Value} {off : Nat} {v : Value} (h : off + (vs.length + 1) ≤ cs.length) : splice (cs.set off v) (off + 1) vs = splice cs off (v :: vs) := by
  apply List.ext_getElem?
  intro i
  rw [splice_get (by rw [List.length_set]; omega), splice_get (by rw [List.length_cons]; omega)]
  by_cases h1 : i < off
  · rw [if_pos (by omega), if_pos h1, List.getElem?_set_ne (by omega)]
  · rw [if_neg h1]
    by_cases h2 : i = off
    · subst h2
      rw [if_pos (by omega), if_pos (by rw [List.length_cons]; omega), List.getElem?_set_self (by omega), Nat.sub_self]
      rfl
    · rw [if_neg (by omega)]
      by_cases h3 : i < off + 1 + vs.length
      · rw [if_pos h3, if_pos (by rw [List.length_cons]; omega)]
        obtain ⟨k, rfl⟩ : ∃ k, i = off + 1 + k := ⟨i - (off + 1), by omega⟩
        have e1 : off + 1 + k - (off + 1) = k := by omega
        have e2 : off + 1 + k - off = k + 1 := by omega
        rw [e1, e2, List.getElem?_cons_succ]
      · rw [if_neg h3, if_neg (by rw [List.length_cons]; omega), List.getElem?_set_ne (by omega)]

theorem foldl_set (off : Nat) : ∀ (vs : List Value) (j : Nat) (cs : Array Value), off + j + vs.length ≤ cs.size →
    (vs.zipIdx j).foldl (fun cs (x : Value × Nat) => cs.setIfInBounds (off + x.2) x.1) cs = (splice cs.toList (off + j) vs).toArray
  | [], j, cs, _ => by simp [splice]
  | v :: vs, j, cs, h => by
    simp only [List.length_cons] at h
    simp only [List.zipIdx_cons, List.foldl_cons]
    rw [foldl_set off vs (j + 1) _ (by rw [Array.size_setIfInBounds]; omega)]
    congr 1
    rw [Array.toList_setIfInBounds]
    have := splice_cons (cs := cs.toList) (vs := vs) (off := off + j) (v := v) (by rw [Array.length_toList]; omega)
    rw [← this]
    rfl

theorem fill_of {pl : List (Nat × Nat)} {place : Nat → Option (Nat × Nat)} (hp : ∀ i x, pl[i]? = some x → place i = some x) :
    ∀ (parts : List (Nat × Value)) (cs : List Value) (c : Prop) (r : List Value), fillL pl cs parts = some (c, r) → c → Instr.fill place cs.toArray parts = some r.toArray
  | [], cs, c, r, h, _ => by
    simp only [fillL, Option.some.injEq, Prod.mk.injEq] at h
    obtain ⟨_, rfl⟩ := h
    rfl
  | (i, v) :: rest, cs, c, r, h, hc => by
    unfold fillL at h
    split at h
    · cases h
    · rename_i off size hi
      cases hf : fillL pl (splice cs off v.cells.toList) rest with
      | none => rw [hf] at h; cases h
      | some cr =>
        rw [hf] at h
        simp only [Option.map_some, Option.some.injEq, Prod.mk.injEq] at h
        obtain ⟨rfl, rfl⟩ := h
        obtain ⟨⟨h1, h2⟩, h3⟩ := hc
        unfold Instr.fill
        rw [hp i _ hi]
        simp only [List.size_toArray]
        rw [if_neg (by simp; omega)]
        have hz : (v.cells.zipIdx.foldl (fun cs (x : Value × Nat) => cs.setIfInBounds (off + x.2) x.1) cs.toArray) = (splice cs off v.cells.toList).toArray := by
          rw [← Array.foldl_toList, Array.toList_zipIdx]
          have := foldl_set off v.cells.toList 0 cs.toArray (by simp; omega)
          simpa using this
        have ih := fill_of hp rest _ cr.1 cr.2 hf h3
        rw [← hz] at ih
        exact ih

def buildV (T : TypeId) (parts : List (Nat × Value)) : Out :=
  match bldP P T with
  | some (zs, pl) => (fillL pl zs parts).map fun cr => (cr.1, .agg cr.2.toArray)
  | none => none

theorem run_buildV {T : TypeId} {parts : Array (Nat × Value)} {c : Prop} {v : Value} (w : World) (h : buildV P T parts.toList = some (c, v)) (hc : c) : (Instr.build T parts).run P w = .ok v w := by
  unfold buildV at h
  split at h
  · rename_i zs pl hb
    cases hf : fillL pl zs parts.toList with
    | none => rw [hf] at h; cases h
    | some cr =>
      rw [hf] at h
      simp only [Option.map_some, Option.some.injEq, Prod.mk.injEq] at h
      obtain ⟨rfl, rfl⟩ := h
      refine run_build w T parts cr.2.toArray ?_
      unfold bldP at hb
      unfold Program.built
      split at hb
      · rename_i it n e hi hu
        split at hb
        · rename_i z ie hz hie
          simp only [Option.some.injEq, Prod.mk.injEq] at hb
          obtain ⟨rfl, rfl⟩ := hb
          simp only [hi, hu, hz, hie]
          refine fill_of (place := fun i => some (i * ie.size, ie.size)) ?_ parts.toList z.cells.toList cr.1 cr.2 hf hc
          intro i x hx
          simp only [List.getElem?_map] at hx
          cases hr : (List.range n)[i]? with
          | none => rw [hr] at hx; cases hx
          | some j =>
            rw [hr] at hx
            have : i = j := by
              have := List.getElem?_range (i := i) (n := n) (by
                rcases Nat.lt_or_ge i n with h | h
                · exact h
                · rw [List.getElem?_eq_none (by simpa using h)] at hr; cases hr)
              rw [this] at hr
              simpa using hr
            subst this
            simpa using hx
        · cases hb
      · rename_i it fields hi hu
        split at hb
        · rename_i z places hz hpl
          simp only [Option.some.injEq, Prod.mk.injEq] at hb
          obtain ⟨rfl, rfl⟩ := hb
          simp only [hi, hu, hz, hpl]
          refine fill_of (place := fun i => places.toArray[i]?) ?_ parts.toList z.cells.toList cr.1 cr.2 hf hc
          intro i x hx
          simpa using hx
        · cases hb
      · cases hb
  · cases h

end
end Go.W8
