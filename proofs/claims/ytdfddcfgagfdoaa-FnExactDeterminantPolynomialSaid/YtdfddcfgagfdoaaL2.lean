/-
  The pure operations of a walk: what each yields, in whatever world. Nothing here is about one program. Conditions: none.
-/
import Derived.Test.YtdfddcfgagfdoaaL1
namespace Go.W8

section
variable (P : Program)

def aggT (T : TypeId) : Bool := match P.underlying T with | some (.struct _) | some (.array _ _) => true | _ => false
def szT (T : TypeId) : Nat := ((P.info? T).map (·.size)).getD 0
def hasT (T : TypeId) : Bool := (P.info? T).isSome
def bytesT (T : TypeId) : Nat := ((P.info? T).map (·.bytes)).getD 0
def zeroT (T : TypeId) : Option (List Value) := ((P.info? T).bind (·.zero)).map fun v => v.cells.toList
/-- The place of a field that is not of size 0. -/
def fldO (s : TypeId) (f : Nat) : Option (Nat × TypeId) :=
  match P.underlying s with
  | some (.struct fields) => match (fields[f]? : Option Field) with
    | some fd => if hasT P fd.type && szT P fd.type != 0 then some (fd.offset, fd.type) else none
    | none => none
  | _ => none
def arrT (T : TypeId) : Option (Nat × Nat) :=
  match P.underlying T with | some (.array n e) => if hasT P e then some (n, szT P e) else none | _ => none
def arrE (T : TypeId) : Option TypeId := match P.underlying T with | some (.array _ e) => some e | _ => none
def slcT (T : TypeId) : Option Nat :=
  match P.underlying T with | some (.slice e) => if hasT P e then some (szT P e) else none | _ => none
def slcE (T : TypeId) : Option TypeId := match P.underlying T with | some (.slice e) => some e | _ => none
def intT (T : TypeId) : Option IntKind := match P.underlying T with | some (.int k) => some k | _ => none
def strT (T : TypeId) : Bool := match P.underlying T with | some .string => true | _ => false
def boolT (T : TypeId) : Bool := match P.underlying T with | some .bool => true | _ => false
theorem boolT_spec {T : TypeId} (h : boolT P T = true) : P.underlying T = some .bool := by
  unfold boolT at h; split at h <;> simp_all
def parT (T : TypeId) : Bool := match P.underlying T with | some _ => true | _ => false

/-- A side condition, and what is yielded. -/
abbrev Out := Option (Prop × Value)

def intOp (op : BinOp) (k : IntKind) (a b : Int) : Out :=
  match op with
  | .add => some (True, .int k (k.wrap (a + b)))
  | .sub => some (True, .int k (k.wrap (a - b)))
  | .mul => some (True, .int k (k.wrap (a * b)))
  | .quo => some (b ≠ 0, .int k (k.wrap (a.tdiv b)))
  | .rem => some (b ≠ 0, .int k (a.tmod b))
  | .and => some (True, .int k (k.wrap ((BitVec.ofInt k.bits a &&& BitVec.ofInt k.bits b).toNat : Int)))
  | .or => some (True, .int k (k.wrap ((BitVec.ofInt k.bits a ||| BitVec.ofInt k.bits b).toNat : Int)))
  | .xor => some (True, .int k (k.wrap ((BitVec.ofInt k.bits a ^^^ BitVec.ofInt k.bits b).toNat : Int)))
  | .andNot => some (True, .int k (k.wrap ((BitVec.ofInt k.bits a &&& ~~~ BitVec.ofInt k.bits b).toNat : Int)))
  | .eql => some (True, .bool (a == b))
  | .neq => some (True, .bool (a != b))
  | .lss => some (True, .bool (decide (a < b)))
  | .leq => some (True, .bool (decide (a ≤ b)))
  | .gtr => some (True, .bool (decide (a > b)))
  | .geq => some (True, .bool (decide (a ≥ b)))
  | _ => none

def shOp (op : BinOp) (k : IntKind) (a n : Int) : Out :=
  match op with
  | .shl => some (0 ≤ n, .int k (k.wrap (a * 2 ^ (min n.toNat k.bits))))
  | .shr => some (0 ≤ n, .int k (a.fdiv (2 ^ (min n.toNat k.bits))))
  | _ => none

def strOp (op : BinOp) (x y : ByteArray) : Out :=
  match op with
  | .add => some (((x.size + y.size : Nat) : Int) ≤ 9223372036854775807, .string (x ++ y))
  | .eql => some (True, .bool (x.toList == y.toList))
  | .neq => some (True, .bool (!(x.toList == y.toList)))
  | _ => none

def boolOp (op : BinOp) (x y : Bool) : Out :=
  match op with
  | .eql => some (True, .bool (x == y))
  | .neq => some (True, .bool (!(x == y)))
  | _ => none

def binV (op : BinOp) (T : TypeId) (x y : Value) : Out :=
  match x, y with
  | .int k a, .int k' b =>
    if op = .shl ∨ op = .shr then shOp op k a b else if k = k' then intOp op k a b else none
  | .string a, .string b => strOp op a b
  | .bool a, .bool b => if boolT P T then boolOp op a b else none
  | _, _ => none

theorem eqGuard_int (op : BinOp) (T : TypeId) (ox oy : Operand) (k k' : IntKind) (a b : Int) (w : World) : (eqGuard op T ox oy (.int k a) (.int k' b)).run P w = .ok () w := by
  unfold eqGuard
  cases op <;> simp
theorem eqGuard_str (op : BinOp) (T : TypeId) (ox oy : Operand) (a b : ByteArray) (w : World) : (eqGuard op T ox oy (.string a) (.string b)).run P w = .ok () w := by
  unfold eqGuard
  cases op <;> simp
theorem eqGuard_bool (op : BinOp) (T : TypeId) (ox oy : Operand) (a b : Bool) (w : World) : (eqGuard op T ox oy (.bool a) (.bool b)).run P w = .ok () w := by
  unfold eqGuard
  cases op <;> simp

theorem run_intOp {op : BinOp} {T : TypeId} {k : IntKind} {a b : Int} {c : Prop} {v : Value} (w : World) (hs : ¬ (op = .shl ∨ op = .shr)) (h : intOp op k a b = some (c, v)) (hc : c) :
    (binOp op T (.int k a) (.int k b)).run P w = .ok v w := by
  cases op <;> simp only [intOp, Option.some.injEq, Prod.mk.injEq, reduceCtorEq] at h <;> first
    | (obtain ⟨h1, h2⟩ := h; subst h1 h2; simp [binOp, Op.intArith, Op.intBits, Op.intCmp]; done)
    | (obtain ⟨h1, h2⟩ := h; subst h1 h2; simp only [binOp, Op.intDiv]; simp [hc])

theorem run_shOp {op : BinOp} {T : TypeId} {k k' : IntKind} {a b : Int} {c : Prop} {v : Value} (w : World) (h : shOp op k a b = some (c, v)) (hc : c) :
    (binOp op T (.int k a) (.int k' b)).run P w = .ok v w := by
  cases op <;> simp only [shOp, Option.some.injEq, Prod.mk.injEq, reduceCtorEq] at h
  all_goals
    obtain ⟨h1, h2⟩ := h
    subst h1 h2
    have : ¬ b < 0 := by omega
    simp [binOp, Op.shift, this]

theorem run_strOp {op : BinOp} {T : TypeId} {a b : ByteArray} {c : Prop} {v : Value} (w : World) (h : strOp op a b = some (c, v)) (hc : c) :
    (binOp op T (.string a) (.string b)).run P w = .ok v w := by
  cases op <;> simp only [strOp, Option.some.injEq, Prod.mk.injEq, reduceCtorEq] at h
  all_goals
    obtain ⟨h1, h2⟩ := h
    subst h1 h2
    first
      | (have hm : IntKind.i64.max = 9223372036854775807 := by decide
         have : ¬ (((a.size + b.size : Nat) : Int) > IntKind.i64.max) := by rw [hm]; omega
         simp only [binOp, Op.stringOp]
         rw [if_neg this]; rfl)
      | simp [binOp, Op.stringOp]

theorem run_equalIn_bool {T : TypeId} {a b : Bool} (w : World) (hT : P.underlying T = some .bool) (d : Nat) : (Op.equalIn (d + 1) T (.bool a) (.bool b)).run P w = .ok (a == b) w := by
  unfold Op.equalIn
  simp only [Sem.run_bind, run_underlying hT, Result.andThen_ok]
  rfl

theorem run_equal_bool {T : TypeId} {a b : Bool} (w : World) (hT : P.underlying T = some .bool) : (Op.equal T (.bool a) (.bool b)).run P w = .ok (a == b) w :=
  run_equalIn_bool P w hT 9999

theorem run_boolOp {op : BinOp} {T : TypeId} {a b : Bool} {c : Prop} {v : Value} (w : World) (hT : P.underlying T = some .bool) (h : boolOp op a b = some (c, v)) :
    (binOp op T (.bool a) (.bool b)).run P w = .ok v w := by
  cases op <;> simp only [boolOp, Option.some.injEq, Prod.mk.injEq, reduceCtorEq] at h
  all_goals
    obtain ⟨h1, h2⟩ := h
    subst h2
    simp only [binOp, Sem.run_bind, run_equal_bool P w hT, Result.andThen_ok]
    rfl

theorem run_binV {op : BinOp} {T : TypeId} {x y : Value} (ox oy : Operand) {c : Prop} {v : Value} (w : World) (h : binV P op T x y = some (c, v)) (hc : c) :
    ((do eqGuard op T ox oy x y; binOp op T x y : Sem Value)).run P w = .ok v w := by
  unfold binV at h
  split at h
  · simp only [Sem.run_bind, eqGuard_int, Result.andThen_ok]
    split at h
    · exact run_shOp P w h hc
    · rename_i hs
      split at h
      · rename_i hk; subst hk; exact run_intOp P w hs h hc
      · cases h
  · simp only [Sem.run_bind, eqGuard_str, Result.andThen_ok]
    exact run_strOp P w h hc
  · simp only [Sem.run_bind, eqGuard_bool, Result.andThen_ok]
    split at h
    · rename_i hT; exact run_boolOp P w (boolT_spec P hT) h
    · cases h
  · cases h

def unV (op : UnOp) (x : Value) : Out :=
  match op, x with
  | .neg, .int k n => some (True, .int k (k.wrap (0 - n)))
  | .not, .bool b => some (True, .bool (!b))
  | _, _ => none

theorem run_unV {op : UnOp} {x : Value} {c : Prop} {v : Value} (w : World) (h : unV op x = some (c, v)) : (Op.unary op x).run P w = .ok v w := by
  unfold unV at h
  split at h <;> simp only [Option.some.injEq, Prod.mk.injEq, reduceCtorEq] at h
  all_goals
    obtain ⟨_, h2⟩ := h
    subst h2
    simp [Op.unary, Op.intArith]

def convV (s d : TypeId) (x : Value) : Out :=
  match intT P d, x with
  | some k, .int _ n => if parT P s then some (True, .int k (k.wrap n)) else none
  | _, _ => none

theorem run_convV {s d : TypeId} {x : Value} {c : Prop} {v : Value} (w : World) (h : convV P s d x = some (c, v)) : (convert s d x).run P w = .ok v w := by
  unfold convV at h
  split at h
  · rename_i k n hk
    split at h
    · rename_i hs
      simp only [Option.some.injEq, Prod.mk.injEq] at h
      obtain ⟨_, h2⟩ := h
      subst h2
      unfold intT at hk
      split at hk
      · rename_i k' hd
        cases hk
        unfold parT at hs
        split at hs
        · rename_i ds hu
          simp [convert, run_underlying hu, run_underlying hd, Conv.intToInt]
        · cases hs
      · cases hk
    · cases h
  · cases h

theorem add_none (b o n : Nat) : (⟨b, o, none⟩ : Addr).add n = ⟨b, o + n, none⟩ := by
  unfold Addr.add; split <;> simp_all

theorem run_sizeOf {T : TypeId} (h : hasT P T = true) (w : World) : (sizeOf T).run P w = .ok (szT P T) w := by
  unfold hasT at h
  unfold szT sizeOf typeInfo
  cases hi : P.info? T with
  | none => rw [hi] at h; cases h
  | some i => simp [hi]

def fieldAddrV (s : TypeId) (x : Value) (f : Nat) : Out :=
  match x, fldO P s f with
  | .pointer (some ⟨b, o, none⟩), some (k, _) => some (True, .pointer (some ⟨b, o + k, none⟩))
  | _, _ => none

theorem run_fieldAddrV {s : TypeId} {x : Value} {f : Nat} {c : Prop} {v : Value} (w : World) (h : fieldAddrV P s x f = some (c, v)) : (Instr.fieldAt s x f).run P w = .ok v w := by
  unfold fieldAddrV at h
  split at h
  · rename_i b o k t hf
    simp only [Option.some.injEq, Prod.mk.injEq] at h
    obtain ⟨_, h2⟩ := h
    subst h2
    unfold fldO at hf
    split at hf
    · rename_i fields hu
      split at hf
      · rename_i fd hfd
        split at hf
        · rename_i hh
          simp only [Bool.and_eq_true, bne_iff_ne, ne_eq] at hh
          simp only [Option.some.injEq, Prod.mk.injEq] at hf
          obtain ⟨rfl, rfl⟩ := hf
          have h3 : (fields[f]? : Option Field) = some fd := hfd
          simp [Instr.fieldAt, run_underlying hu, h3, Instr.sureAddr, fieldPlace, run_sizeOf P hh.1, hh.2, add_none]
        · cases hf
      · cases hf
    · cases hf
  · cases h

def indexAddrV (T : TypeId) (x i : Value) : Out :=
  match i, x with
  | .int _ n, .pointer (some ⟨b, o, none⟩) =>
    match arrT P T with
    | some (len, es) => some (0 ≤ n ∧ n < (len : Int), .pointer (some ⟨b, o + n.toNat * es, none⟩))
    | none => none
  | .int _ n, .slice (some ⟨b, o, none⟩) len _ =>
    match slcT P T with
    | some es => some (0 ≤ n ∧ n < (len : Int), .pointer (some ⟨b, o + n.toNat * es, none⟩))
    | none => none
  | _, _ => none

theorem arrT_spec {T : TypeId} {n es : Nat} (h : arrT P T = some (n, es)) : ∃ e, P.underlying T = some (.array n e) ∧ hasT P e = true ∧ es = szT P e := by
  unfold arrT at h
  split at h
  · rename_i n' e hu
    split at h
    · rename_i hh
      simp only [Option.some.injEq, Prod.mk.injEq] at h
      obtain ⟨rfl, rfl⟩ := h
      exact ⟨e, hu, hh, rfl⟩
    · cases h
  · cases h

theorem slcT_spec {T : TypeId} {es : Nat} (h : slcT P T = some es) : ∃ e, P.underlying T = some (.slice e) ∧ hasT P e = true ∧ es = szT P e := by
  unfold slcT at h
  split at h
  · rename_i e hu
    split at h
    · rename_i hh
      simp only [Option.some.injEq] at h
      subst h
      exact ⟨e, hu, hh, rfl⟩
    · cases h
  · cases h

theorem run_indexAddrV {T : TypeId} {x i : Value} {c : Prop} {v : Value} (w : World) (h : indexAddrV P T x i = some (c, v)) (hc : c) : (Instr.indexAt T x i).run P w = .ok v w := by
  unfold indexAddrV at h
  split at h
  · rename_i k n b o
    split at h
    · rename_i len es ha
      simp only [Option.some.injEq, Prod.mk.injEq] at h
      obtain ⟨rfl, rfl⟩ := h
      obtain ⟨e, hu, hh, rfl⟩ := arrT_spec P ha
      simp [Instr.indexAt, asIntOf, run_underlying hu, Instr.sureAddr, hc, run_sizeOf P hh, add_none]
    · cases h
  · rename_i k n b o len cap
    split at h
    · rename_i es ha
      simp only [Option.some.injEq, Prod.mk.injEq] at h
      obtain ⟨rfl, rfl⟩ := h
      obtain ⟨e, hu, hh, rfl⟩ := slcT_spec P ha
      simp [Instr.indexAt, asIntOf, run_underlying hu, hc, run_sizeOf P hh, add_none]
    · cases h
  · cases h

end
end Go.W8
