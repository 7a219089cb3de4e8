/-
  A small calculus of walks over memory that is described, not spelled: worlds are known by the blocks that the call has made.
  Nothing here is about one program. Conditions: none.
-/
import Derived.WalkKit
import Derived.Laws.AppendOwn
import Derived.Laws.OwnMore
import Derived.Laws.StructEq
import Derived.Laws.BytesString
import Derived.Lib.AppendZeros
import Derived.Deep.Quiet
import Derived.Deep.LoopGhost
import Derived.ProofKit
import Derived.OpenShut
import Derived.Below
import Derived.ChangeSame
import Derived.Test.YtchbkidlmcpiiaaProg
namespace Go.W8

/-- What the temporaries hold. -/
abbrev Env := Nat → Value
/-- The blocks that are known whole: their numbers and their cells, the newest first. -/
abbrev Blks := List (Nat × List Value)

def upd (ρ : Env) (t : Nat) (v : Value) : Env := fun s => if s = t then v else ρ s

def ev (ρ : Env) : Operand → Value
  | .tmp t => ρ t
  | .const v => v
  | .global g => .pointer (some ⟨g, 0, none⟩)
  | .func f => .func (.func f) #[] #[]

def findB (b : Nat) : Blks → Option (List Value)
  | [] => none
  | (b', cs) :: M => if b' = b then some cs else findB b M

def setB (b : Nat) (cs : List Value) : Blks → Blks
  | [] => []
  | (b', cs') :: M => if b' = b then (b', cs) :: M else (b', cs') :: setB b cs M

/-- Seen from world w0: of what was there only the blocks of W may have turned; the blocks of M are new ones, or of W, and hold just these cells. -/
structure Own (W : List Nat) (w0 : World) (M : Blks) (w : World) : Prop where
  os : w.os = w0.os
  tape : w.tape = w0.tape
  output : w.output = w0.output
  size : w0.heap.size ≤ w.heap.size
  frame : ∀ k, k < w0.heap.size → k ∉ W → w.heap[k]? = w0.heap[k]?
  own : ∀ p ∈ M, p.1 ∈ W ∨ w0.heap.size ≤ p.1
  blk : ∀ p ∈ M, ∃ t, w.heap[p.1]? = some (.cells p.2.toArray t (0, 0))
  nodup : (M.map (·.1)).Nodup

theorem Own.start (w : World) : Own [] w [] w :=
  ⟨rfl, rfl, rfl, Nat.le_refl _, fun _ _ _ => rfl, (fun _ h => absurd h (by simp)), (fun _ h => absurd h (by simp)), List.nodup_nil⟩

theorem Own.sub {W : List Nat} {w0 w : World} {M M' : Blks} (h : Own W w0 M w) (hs : M'.Sublist M) : Own W w0 M' w :=
  ⟨h.os, h.tape, h.output, h.size, h.frame, fun p hp => h.own p (hs.subset hp), fun p hp => h.blk p (hs.subset hp), (hs.map _).nodup h.nodup⟩

theorem Own.lt {W : List Nat} {w0 w : World} {M : Blks} (h : Own W w0 M w) {p : Nat × List Value} (hp : p ∈ M) : p.1 < w.heap.size := by
  obtain ⟨t, ht⟩ := h.blk p hp
  rcases Nat.lt_or_ge p.1 w.heap.size with h1 | h1
  · exact h1
  · rw [Array.getElem?_eq_none h1] at ht; cases ht

theorem findB_mem {b : Nat} {cs : List Value} : ∀ {M : Blks}, findB b M = some cs → (b, cs) ∈ M
  | [], h => by simp [findB] at h
  | (b', cs') :: M, h => by
    unfold findB at h
    split at h
    · rename_i e; subst e; simp only [Option.some.injEq] at h; subst h; exact List.mem_cons_self
    · exact List.mem_cons_of_mem _ (findB_mem h)

theorem setB_fst (b : Nat) (cs : List Value) : ∀ (M : Blks), (setB b cs M).map (·.1) = M.map (·.1)
  | [] => rfl
  | (b', cs') :: M => by
    unfold setB
    split
    · rfl
    · simp [setB_fst b cs M]

theorem mem_setB {b : Nat} {cs : List Value} : ∀ {M : Blks} {p : Nat × List Value}, (M.map (·.1)).Nodup → p ∈ setB b cs M → p = (b, cs) ∨ (p ∈ M ∧ p.1 ≠ b)
  | [], _, _, h => by simp [setB] at h
  | (b', cs') :: M, p, hn, h => by
    unfold setB at h
    simp only [List.map_cons, List.nodup_cons] at hn
    split at h
    · rename_i e
      subst e
      rcases List.mem_cons.1 h with h | h
      · exact .inl h
      · refine .inr ⟨List.mem_cons_of_mem _ h, fun e => hn.1 ?_⟩
        rw [← e]; exact List.mem_map_of_mem h
    · rename_i e
      rcases List.mem_cons.1 h with h | h
      · subst h; exact .inr ⟨List.mem_cons_self, e⟩
      · rcases mem_setB hn.2 h with h | ⟨h, h'⟩
        · exact .inl h
        · exact .inr ⟨List.mem_cons_of_mem _ h, h'⟩

/-- A new block. -/
def Fresh (w0 : World) (M : Blks) (b : Nat) : Prop := w0.heap.size ≤ b ∧ ∀ p ∈ M, b ≠ p.1

theorem Own.push {W : List Nat} {w0 w : World} {M : Blks} (h : Own W w0 M w) (cs : List Value) (t : TypeId) :
    Fresh w0 M w.heap.size ∧ Own W w0 ((w.heap.size, cs) :: M) { w with heap := w.heap.push (.cells cs.toArray t) } := by
  have hf : ∀ p ∈ M, w.heap.size ≠ p.1 := fun p hp => by have := h.lt hp; omega
  refine ⟨⟨h.size, hf⟩, h.os, h.tape, h.output, ?_, ?_, ?_, ?_, ?_⟩
  · simp only [Array.size_push]; have := h.size; omega
  · intro k hk hW
    simp only [Array.getElem?_push]
    rw [if_neg (by have := h.size; omega)]
    exact h.frame k hk hW
  · intro p hp
    rcases List.mem_cons.1 hp with rfl | hp
    · exact .inr h.size
    · exact h.own p hp
  · intro p hp
    rcases List.mem_cons.1 hp with rfl | hp
    · exact ⟨t, by simp⟩
    · obtain ⟨t', ht'⟩ := h.blk p hp
      refine ⟨t', ?_⟩
      simp only [Array.getElem?_push]
      rw [if_neg (fun e => hf p hp e.symm)]
      exact ht'
  · simp only [List.map_cons, List.nodup_cons]
    refine ⟨fun hm => ?_, h.nodup⟩
    obtain ⟨p, hp, e⟩ := List.mem_map.1 hm
    exact hf p hp e.symm

/-- The heap's block b turned to other cells. -/
theorem Own.put {W : List Nat} {w0 w w' : World} {M : Blks} (h : Own W w0 M w) {b : Nat} {cs cs' : List Value} (hf : findB b M = some cs)
    (ho : w'.os = w.os) (ht : w'.tape = w.tape) (hout : w'.output = w.output) (hs : w'.heap.size = w.heap.size)
    (hb : ∀ t, w.heap[b]? = some (.cells cs.toArray t (0, 0)) → w'.heap[b]? = some (.cells cs'.toArray t (0, 0)))
    (hk : ∀ k, k ≠ b → w'.heap[k]? = w.heap[k]?) : Own W w0 (setB b cs' M) w' := by
  have hm := findB_mem hf
  refine ⟨ho.trans h.os, ht.trans h.tape, hout.trans h.output, by rw [hs]; exact h.size, ?_, ?_, ?_, by rw [setB_fst]; exact h.nodup⟩
  · intro k hk0 hW
    have hne : k ≠ b := by
      rintro rfl
      rcases h.own _ hm with h1 | h1
      · exact hW h1
      · omega
    rw [hk k hne]; exact h.frame k hk0 hW
  · intro p hp
    rcases mem_setB h.nodup hp with rfl | ⟨hp, _⟩
    · have := h.own _ hm; exact this
    · exact h.own p hp
  · intro p hp
    rcases mem_setB h.nodup hp with rfl | ⟨hp, hne⟩
    · obtain ⟨t, ht⟩ := h.blk _ hm
      exact ⟨t, hb t ht⟩
    · obtain ⟨t, ht⟩ := h.blk _ hp
      exact ⟨t, by rw [hk _ hne]; exact ht⟩

/-- A call that leaves all that was there as it was. -/
theorem Own.then_ {W : List Nat} {w0 w w' : World} {M M' : Blks} (h : Own W w0 M w) (h' : Own [] w M' w') : Own W w0 (M' ++ M) w' := by
  have hfr : ∀ k, k < w.heap.size → w'.heap[k]? = w.heap[k]? := fun k hk => h'.frame k hk (by simp)
  refine ⟨h'.os.trans h.os, h'.tape.trans h.tape, h'.output.trans h.output, Nat.le_trans h.size h'.size, ?_, ?_, ?_, ?_⟩
  · intro k hk hW
    rw [hfr k (Nat.lt_of_lt_of_le hk h.size)]
    exact h.frame k hk hW
  · intro p hp
    rcases List.mem_append.1 hp with hp | hp
    · rcases h'.own p hp with h1 | h1
      · cases h1
      · exact .inr (Nat.le_trans h.size h1)
    · exact h.own p hp
  · intro p hp
    rcases List.mem_append.1 hp with hp | hp
    · exact h'.blk p hp
    · obtain ⟨t, ht⟩ := h.blk p hp
      exact ⟨t, by rw [hfr _ (h.lt hp)]; exact ht⟩
  · rw [List.map_append, List.nodup_append]
    refine ⟨h'.nodup, h.nodup, ?_⟩
    intro a ha c hc
    obtain ⟨p, hp, rfl⟩ := List.mem_map.1 ha
    obtain ⟨q, hq, rfl⟩ := List.mem_map.1 hc
    have h1 := h.lt hq
    rcases h'.own p hp with h2 | h2
    · cases h2
    · omega

end Go.W8

/-
  The pure operations of a walk: what each yields, in whatever world. Nothing here is about one program. Conditions: none.
-/
namespace Go.W8

section
variable (P : Program)

def aggT (T : TypeId) : Bool := match P.underlying T with | some (.struct _) | some (.array _ _) => true | _ => false
def szT (T : TypeId) : Nat := ((P.info? T).map (·.size)).getD 0
def hasT (T : TypeId) : Bool := (P.info? T).isSome
def bytesT (T : TypeId) : Nat := ((P.info? T).map (·.bytes)).getD 0
def zeroT (T : TypeId) : Option (List Value) := ((P.info? T).bind (·.zero)).map fun v => v.cells.toList
/-- The place of a field that is not of size 0. -/
def fldO (s : TypeId) (f : Nat) : Option (Nat × TypeId) :=
  match P.underlying s with
  | some (.struct fields) => match (fields[f]? : Option Field) with
    | some fd => if hasT P fd.type && szT P fd.type != 0 then some (fd.offset, fd.type) else none
    | none => none
  | _ => none
def arrT (T : TypeId) : Option (Nat × Nat) :=
  match P.underlying T with | some (.array n e) => if hasT P e then some (n, szT P e) else none | _ => none
def arrE (T : TypeId) : Option TypeId := match P.underlying T with | some (.array _ e) => some e | _ => none
def slcT (T : TypeId) : Option Nat :=
  match P.underlying T with | some (.slice e) => if hasT P e then some (szT P e) else none | _ => none
def slcE (T : TypeId) : Option TypeId := match P.underlying T with | some (.slice e) => some e | _ => none
def intT (T : TypeId) : Option IntKind := match P.underlying T with | some (.int k) => some k | _ => none
def strT (T : TypeId) : Bool := match P.underlying T with | some .string => true | _ => false
def boolT (T : TypeId) : Bool := match P.underlying T with | some .bool => true | _ => false
theorem boolT_spec {T : TypeId} (h : boolT P T = true) : P.underlying T = some .bool := by
  unfold boolT at h; split at h <;> simp_all
def parT (T : TypeId) : Bool := match P.underlying T with | some _ => true | _ => false

/-- A side condition, and what is yielded. -/
abbrev Out := Option (Prop × Value)

def intOp (op : BinOp) (k : IntKind) (a b : Int) : Out :=
  match op with
  | .add => some (True, .int k (k.wrap (a + b)))
  | .sub => some (True, .int k (k.wrap (a - b)))
  | .mul => some (True, .int k (k.wrap (a * b)))
  | .quo => some (b ≠ 0, .int k (k.wrap (a.tdiv b)))
  | .rem => some (b ≠ 0, .int k (a.tmod b))
  | .and => some (True, .int k (k.wrap ((BitVec.ofInt k.bits a &&& BitVec.ofInt k.bits b).toNat : Int)))
  | .or => some (True, .int k (k.wrap ((BitVec.ofInt k.bits a ||| BitVec.ofInt k.bits b).toNat : Int)))
  | .xor => some (True, .int k (k.wrap ((BitVec.ofInt k.bits a ^^^ BitVec.ofInt k.bits b).toNat : Int)))
  | .andNot => some (True, .int k (k.wrap ((BitVec.ofInt k.bits a &&& ~~~ BitVec.ofInt k.bits b).toNat : Int)))
  | .eql => some (True, .bool (a == b))
  | .neq => some (True, .bool (a != b))
  | .lss => some (True, .bool (decide (a < b)))
  | .leq => some (True, .bool (decide (a ≤ b)))
  | .gtr => some (True, .bool (decide (a > b)))
  | .geq => some (True, .bool (decide (a ≥ b)))
  | _ => none

def shOp (op : BinOp) (k : IntKind) (a n : Int) : Out :=
  match op with
  | .shl => some (0 ≤ n, .int k (k.wrap (a * 2 ^ (min n.toNat k.bits))))
  | .shr => some (0 ≤ n, .int k (a.fdiv (2 ^ (min n.toNat k.bits))))
  | _ => none

def strOp (op : BinOp) (x y : ByteArray) : Out :=
  match op with
  | .add => some (((x.size + y.size : Nat) : Int) ≤ 9223372036854775807, .string (x ++ y))
  | .eql => some (True, .bool (x.toList == y.toList))
  | .neq => some (True, .bool (!(x.toList == y.toList)))
  | _ => none

def boolOp (op : BinOp) (x y : Bool) : Out :=
  match op with
  | .eql => some (True, .bool (x == y))
  | .neq => some (True, .bool (!(x == y)))
  | _ => none

def binV (op : BinOp) (T : TypeId) (x y : Value) : Out :=
  match x, y with
  | .int k a, .int k' b =>
    if op = .shl ∨ op = .shr then shOp op k a b else if k = k' then intOp op k a b else none
  | .string a, .string b => strOp op a b
  | .bool a, .bool b => if boolT P T then boolOp op a b else none
  | _, _ => none

theorem eqGuard_int (op : BinOp) (T : TypeId) (ox oy : Operand) (k k' : IntKind) (a b : Int) (w : World) : (eqGuard op T ox oy (.int k a) (.int k' b)).run P w = .ok () w := by
  unfold eqGuard
  cases op <;> simp
theorem eqGuard_str (op : BinOp) (T : TypeId) (ox oy : Operand) (a b : ByteArray) (w : World) : (eqGuard op T ox oy (.string a) (.string b)).run P w = .ok () w := by
  unfold eqGuard
  cases op <;> simp
theorem eqGuard_bool (op : BinOp) (T : TypeId) (ox oy : Operand) (a b : Bool) (w : World) : (eqGuard op T ox oy (.bool a) (.bool b)).run P w = .ok () w := by
  unfold eqGuard
  cases op <;> simp

theorem run_intOp {op : BinOp} {T : TypeId} {k : IntKind} {a b : Int} {c : Prop} {v : Value} (w : World) (hs : ¬ (op = .shl ∨ op = .shr)) (h : intOp op k a b = some (c, v)) (hc : c) :
    (binOp op T (.int k a) (.int k b)).run P w = .ok v w := by
  cases op <;> simp only [intOp, Option.some.injEq, Prod.mk.injEq, reduceCtorEq] at h <;> first
    | (obtain ⟨h1, h2⟩ := h; subst h1 h2; simp [binOp, Op.intArith, Op.intBits, Op.intCmp]; done)
    | (obtain ⟨h1, h2⟩ := h; subst h1 h2; simp only [binOp, Op.intDiv]; simp [hc])

theorem run_shOp {op : BinOp} {T : TypeId} {k k' : IntKind} {a b : Int} {c : Prop} {v : Value} (w : World) (h : shOp op k a b = some (c, v)) (hc : c) :
    (binOp op T (.int k a) (.int k' b)).run P w = .ok v w := by
  cases op <;> simp only [shOp, Option.some.injEq, Prod.mk.injEq, reduceCtorEq] at h
  all_goals
    obtain ⟨h1, h2⟩ := h
    subst h1 h2
    have : ¬ b < 0 := by omega
    simp [binOp, Op.shift, this]

theorem run_strOp {op : BinOp} {T : TypeId} {a b : ByteArray} {c : Prop} {v : Value} (w : World) (h : strOp op a b = some (c, v)) (hc : c) :
    (binOp op T (.string a) (.string b)).run P w = .ok v w := by
  cases op <;> simp only [strOp, Option.some.injEq, Prod.mk.injEq, reduceCtorEq] at h
  all_goals
    obtain ⟨h1, h2⟩ := h
    subst h1 h2
    first
      | (have hm : IntKind.i64.max = 9223372036854775807 := by decide
         have : ¬ (((a.size + b.size : Nat) : Int) > IntKind.i64.max) := by rw [hm]; omega
         simp only [binOp, Op.stringOp]
         rw [if_neg this]; rfl)
      | simp [binOp, Op.stringOp]

theorem run_equalIn_bool {T : TypeId} {a b : Bool} (w : World) (hT : P.underlying T = some .bool) (d : Nat) : (Op.equalIn (d + 1) T (.bool a) (.bool b)).run P w = .ok (a == b) w := by
  unfold Op.equalIn
  simp only [Sem.run_bind, run_underlying hT, Result.andThen_ok]
  rfl

theorem run_equal_bool {T : TypeId} {a b : Bool} (w : World) (hT : P.underlying T = some .bool) : (Op.equal T (.bool a) (.bool b)).run P w = .ok (a == b) w :=
  run_equalIn_bool P w hT 9999

theorem run_boolOp {op : BinOp} {T : TypeId} {a b : Bool} {c : Prop} {v : Value} (w : World) (hT : P.underlying T = some .bool) (h : boolOp op a b = some (c, v)) :
    (binOp op T (.bool a) (.bool b)).run P w = .ok v w := by
  cases op <;> simp only [boolOp, Option.some.injEq, Prod.mk.injEq, reduceCtorEq] at h
  all_goals
    obtain ⟨h1, h2⟩ := h
    subst h2
    simp only [binOp, Sem.run_bind, run_equal_bool P w hT, Result.andThen_ok]
    rfl

theorem run_binV {op : BinOp} {T : TypeId} {x y : Value} (ox oy : Operand) {c : Prop} {v : Value} (w : World) (h : binV P op T x y = some (c, v)) (hc : c) :
    ((do eqGuard op T ox oy x y; binOp op T x y : Sem Value)).run P w = .ok v w := by
  unfold binV at h
  split at h
  · simp only [Sem.run_bind, eqGuard_int, Result.andThen_ok]
    split at h
    · exact run_shOp P w h hc
    · rename_i hs
      split at h
      · rename_i hk; subst hk; exact run_intOp P w hs h hc
      · cases h
  · simp only [Sem.run_bind, eqGuard_str, Result.andThen_ok]
    exact run_strOp P w h hc
  · simp only [Sem.run_bind, eqGuard_bool, Result.andThen_ok]
    split at h
    · rename_i hT; exact run_boolOp P w (boolT_spec P hT) h
    · cases h
  · cases h

def unV (op : UnOp) (x : Value) : Out :=
  match op, x with
  | .neg, .int k n => some (True, .int k (k.wrap (0 - n)))
  | .not, .bool b => some (True, .bool (!b))
  | _, _ => none

theorem run_unV {op : UnOp} {x : Value} {c : Prop} {v : Value} (w : World) (h : unV op x = some (c, v)) : (Op.unary op x).run P w = .ok v w := by
  unfold unV at h
  split at h <;> simp only [Option.some.injEq, Prod.mk.injEq, reduceCtorEq] at h
  all_goals
    obtain ⟨_, h2⟩ := h
    subst h2
    simp [Op.unary, Op.intArith]

def convV (s d : TypeId) (x : Value) : Out :=
  match intT P d, x with
  | some k, .int _ n => if parT P s then some (True, .int k (k.wrap n)) else none
  | _, _ => none

theorem run_convV {s d : TypeId} {x : Value} {c : Prop} {v : Value} (w : World) (h : convV P s d x = some (c, v)) : (convert s d x).run P w = .ok v w := by
  unfold convV at h
  split at h
  · rename_i k n hk
    split at h
    · rename_i hs
      simp only [Option.some.injEq, Prod.mk.injEq] at h
      obtain ⟨_, h2⟩ := h
      subst h2
      unfold intT at hk
      split at hk
      · rename_i k' hd
        cases hk
        unfold parT at hs
        split at hs
        · rename_i ds hu
          simp [convert, run_underlying hu, run_underlying hd, Conv.intToInt]
        · cases hs
      · cases hk
    · cases h
  · cases h

theorem add_none (b o n : Nat) : (⟨b, o, none⟩ : Addr).add n = ⟨b, o + n, none⟩ := by
  unfold Addr.add; split <;> simp_all

theorem run_sizeOf {T : TypeId} (h : hasT P T = true) (w : World) : (sizeOf T).run P w = .ok (szT P T) w := by
  unfold hasT at h
  unfold szT sizeOf typeInfo
  cases hi : P.info? T with
  | none => rw [hi] at h; cases h
  | some i => simp [hi]

def fieldAddrV (s : TypeId) (x : Value) (f : Nat) : Out :=
  match x, fldO P s f with
  | .pointer (some ⟨b, o, none⟩), some (k, _) => some (True, .pointer (some ⟨b, o + k, none⟩))
  | _, _ => none

theorem run_fieldAddrV {s : TypeId} {x : Value} {f : Nat} {c : Prop} {v : Value} (w : World) (h : fieldAddrV P s x f = some (c, v)) : (Instr.fieldAt s x f).run P w = .ok v w := by
  unfold fieldAddrV at h
  split at h
  · rename_i b o k t hf
    simp only [Option.some.injEq, Prod.mk.injEq] at h
    obtain ⟨_, h2⟩ := h
    subst h2
    unfold fldO at hf
    split at hf
    · rename_i fields hu
      split at hf
      · rename_i fd hfd
        split at hf
        · rename_i hh
          simp only [Bool.and_eq_true, bne_iff_ne, ne_eq] at hh
          simp only [Option.some.injEq, Prod.mk.injEq] at hf
          obtain ⟨rfl, rfl⟩ := hf
          have h3 : (fields[f]? : Option Field) = some fd := hfd
          simp [Instr.fieldAt, run_underlying hu, h3, Instr.sureAddr, fieldPlace, run_sizeOf P hh.1, hh.2, add_none]
        · cases hf
      · cases hf
    · cases hf
  · cases h

def indexAddrV (T : TypeId) (x i : Value) : Out :=
  match i, x with
  | .int _ n, .pointer (some ⟨b, o, none⟩) =>
    match arrT P T with
    | some (len, es) => some (0 ≤ n ∧ n < (len : Int), .pointer (some ⟨b, o + n.toNat * es, none⟩))
    | none => none
  | .int _ n, .slice (some ⟨b, o, none⟩) len _ =>
    match slcT P T with
    | some es => some (0 ≤ n ∧ n < (len : Int), .pointer (some ⟨b, o + n.toNat * es, none⟩))
    | none => none
  | _, _ => none

theorem arrT_spec {T : TypeId} {n es : Nat} (h : arrT P T = some (n, es)) : ∃ e, P.underlying T = some (.array n e) ∧ hasT P e = true ∧ es = szT P e := by
  unfold arrT at h
  split at h
  · rename_i n' e hu
    split at h
    · rename_i hh
      simp only [Option.some.injEq, Prod.mk.injEq] at h
      obtain ⟨rfl, rfl⟩ := h
      exact ⟨e, hu, hh, rfl⟩
    · cases h
  · cases h

theorem slcT_spec {T : TypeId} {es : Nat} (h : slcT P T = some es) : ∃ e, P.underlying T = some (.slice e) ∧ hasT P e = true ∧ es = szT P e := by
  unfold slcT at h
  split at h
  · rename_i e hu
    split at h
    · rename_i hh
      simp only [Option.some.injEq] at h
      subst h
      exact ⟨e, hu, hh, rfl⟩
    · cases h
  · cases h

theorem run_indexAddrV {T : TypeId} {x i : Value} {c : Prop} {v : Value} (w : World) (h : indexAddrV P T x i = some (c, v)) (hc : c) : (Instr.indexAt T x i).run P w = .ok v w := by
  unfold indexAddrV at h
  split at h
  · rename_i k n b o
    split at h
    · rename_i len es ha
      simp only [Option.some.injEq, Prod.mk.injEq] at h
      obtain ⟨rfl, rfl⟩ := h
      obtain ⟨e, hu, hh, rfl⟩ := arrT_spec P ha
      simp [Instr.indexAt, asIntOf, run_underlying hu, Instr.sureAddr, hc, run_sizeOf P hh, add_none]
    · cases h
  · rename_i k n b o len cap
    split at h
    · rename_i es ha
      simp only [Option.some.injEq, Prod.mk.injEq] at h
      obtain ⟨rfl, rfl⟩ := h
      obtain ⟨e, hu, hh, rfl⟩ := slcT_spec P ha
      simp [Instr.indexAt, asIntOf, run_underlying hu, hc, run_sizeOf P hh, add_none]
    · cases h
  · cases h

end
end Go.W8

/-
  The pure operations of a walk, the rest: parts of values, slices of rows, lengths, built values. Nothing here is about one program. Conditions: none.
-/
namespace Go.W8

section
variable (P : Program)

theorem run_isAgg {T : TypeId} (h : parT P T = true) (w : World) : (isAgg T).run P w = .ok (aggT P T) w := by
  unfold parT at h
  split at h
  · rename_i d hu
    unfold isAgg aggT
    simp only [Sem.run_bind, run_underlying hu, Result.andThen_ok, hu]
    cases d <;> rfl
  · cases h

/-- A part of a value that is read out of its cells. -/
def partV (T : TypeId) (cs : Array Value) (off : Nat) : Out :=
  if parT P T && hasT P T then
    if aggT P T then some (True, .agg (cs.extract off (off + szT P T))) else some (off < cs.size, cs.getD off undef)
  else none

theorem run_partV {T : TypeId} {cs : Array Value} {off : Nat} {c : Prop} {v : Value} (w : World) (h : partV P T cs off = some (c, v)) (hc : c) : (part T cs off).run P w = .ok v w := by
  unfold partV at h
  split at h
  · rename_i hh
    simp only [Bool.and_eq_true] at hh
    unfold part
    simp only [Sem.run_bind, run_isAgg P hh.1, Result.andThen_ok]
    split at h
    · rename_i ha
      simp only [Option.some.injEq, Prod.mk.injEq] at h
      obtain ⟨_, rfl⟩ := h
      simp only [ha, if_true, Sem.run_bind, run_sizeOf P hh.2, Result.andThen_ok, Sem.run_pure]
    · rename_i ha
      simp only [Option.some.injEq, Prod.mk.injEq] at h
      obtain ⟨rfl, rfl⟩ := h
      have h5 : cs[off]? = some (cs.getD off undef) := by
        rw [Array.getElem?_eq_getElem hc, Array.getD_eq_getD_getElem?, Array.getElem?_eq_getElem hc]; rfl
      rw [if_neg (by simpa using ha), h5]
      rfl
  · cases h

/-- The byte at place n. -/
def bt (s : ByteArray) (n : Int) : Int := (s.data.toList.getD n.toNat 0).toNat

def indexV (T : TypeId) (x i : Value) : Out :=
  match i, x with
  | .int _ n, .agg cs =>
    match arrT P T, arrE P T with
    | some (len, es), some e => (partV P e cs (n.toNat * es)).map fun (c, v) => ((0 ≤ n ∧ n < (len : Int)) ∧ c, v)
    | _, _ => none
  | .int _ n, .string s => if strT P T then some (0 ≤ n ∧ n < (s.size : Int), .int .u8 (bt s n)) else none
  | _, _ => none

theorem strT_spec {T : TypeId} (h : strT P T = true) : P.underlying T = some .string := by
  unfold strT at h; split at h <;> simp_all

theorem bt_get {s : ByteArray} {n : Int} (h0 : 0 ≤ n) (h : n < (s.size : Int)) : s[n.toNat]? = some (s.data.toList.getD n.toNat 0) := by
  have hn : n.toNat < s.size := by omega
  have h1 : s[n.toNat]? = s.data[n.toNat]? := rfl
  rw [h1]
  have h2 : n.toNat < s.data.size := hn
  simp only [List.getD_eq_getElem?_getD, Array.getElem?_toList]
  rw [Array.getElem?_eq_getElem h2]
  rfl

theorem run_indexV {T : TypeId} {x i : Value} {c : Prop} {v : Value} (w : World) (h : indexV P T x i = some (c, v)) (hc : c) : (Instr.index T x i).run P w = .ok v w := by
  unfold indexV at h
  split at h
  · rename_i k n cs
    split at h
    · rename_i len es e ha he
      obtain ⟨e', hu, hh, rfl⟩ := arrT_spec P ha
      have : e = e' := by
        unfold arrE at he; rw [hu] at he; simpa using he.symm
      subst this
      cases hp : partV P e cs (n.toNat * szT P e) with
      | none => rw [hp] at h; cases h
      | some cv =>
        obtain ⟨c', v'⟩ := cv
        rw [hp] at h
        simp only [Option.map_some, Option.some.injEq, Prod.mk.injEq] at h
        obtain ⟨rfl, rfl⟩ := h
        obtain ⟨h1, h2⟩ := hc
        simp [Instr.index, asIntOf, run_underlying hu, h1, run_sizeOf P hh, run_partV P w hp h2]
    · cases h
  · rename_i k n s
    split at h
    · rename_i hs
      simp only [Option.some.injEq, Prod.mk.injEq] at h
      obtain ⟨rfl, rfl⟩ := h
      simp only [Instr.index, asIntOf, Sem.run_bind, Sem.run_pure, Result.andThen_ok, run_underlying (strT_spec P hs)]
      rw [if_pos hc.1, bt_get hc.1 hc.2]
      rfl
    · cases h
  · cases h

def fieldV (T : TypeId) (x : Value) (f : Nat) : Out :=
  match x, fldO P T f with
  | .agg cs, some (k, e) => partV P e cs k
  | _, _ => none

theorem fldO_spec {s : TypeId} {f k : Nat} {e : TypeId} (hf : fldO P s f = some (k, e)) : ∃ (fields : Array Field) (fd : Field), P.underlying s = some (.struct fields) ∧ (fields[f]? : Option Field) = some fd ∧ fd.offset = k ∧ fd.type = e ∧ hasT P e = true ∧ szT P e ≠ 0 := by
  unfold fldO at hf
  split at hf
  · rename_i fields hu
    split at hf
    · rename_i fd hfd
      split at hf
      · rename_i hh
        simp only [Bool.and_eq_true, bne_iff_ne, ne_eq] at hh
        simp only [Option.some.injEq, Prod.mk.injEq] at hf
        obtain ⟨rfl, rfl⟩ := hf
        exact ⟨fields, fd, hu, hfd, rfl, rfl, hh.1, hh.2⟩
      · cases hf
    · cases hf
  · cases hf

theorem run_fieldV {T : TypeId} {x : Value} {f : Nat} {c : Prop} {v : Value} (w : World) (h : fieldV P T x f = some (c, v)) (hc : c) : (Instr.field T x f).run P w = .ok v w := by
  unfold fieldV at h
  split at h
  · rename_i cs k e hf
    obtain ⟨fields, fd, hu, hfd, rfl, rfl, _, _⟩ := fldO_spec P hf
    have hfd' : (fields[f]? : Option Field) = some fd := hfd
    simp only [Instr.field, Sem.run_bind, run_underlying hu, Result.andThen_ok, hfd', asAgg, Sem.run_pure, run_partV P w h hc]
  · cases h

def extractV (x : Value) (i : Nat) : Out :=
  match x with
  | .tuple vs => match vs[i]? with | some v => some (True, v) | none => none
  | _ => none

theorem run_extractV {x : Value} {i : Nat} {c : Prop} {v : Value} (w : World) (h : extractV x i = some (c, v)) : (Instr.extract x i).run P w = .ok v w := by
  unfold extractV at h
  split at h
  · rename_i vs
    split at h
    · rename_i u hu
      simp only [Option.some.injEq, Prod.mk.injEq] at h
      obtain ⟨_, rfl⟩ := h
      simp [Instr.extract, hu]
    · cases h
  · cases h

def nilV (x : Value) : Out :=
  match x with
  | .pointer (some a) => some (True, .pointer (some a))
  | .func (.func f) a b => some (True, .func (.func f) a b)
  | _ => none

/-- The bounds of a slice expression without a third index. -/
def loV (lo : Option Value) : Option Int := match lo with | none => some 0 | some (.int _ n) => some n | _ => none
def hiV (hi : Option Value) (len : Nat) : Option Int := match hi with | none => some len | some (.int _ n) => some n | _ => none

def sliceV (T : TypeId) (x : Value) (lo hi : Option Value) : Out :=
  match x with
  | .pointer (some ⟨b, o, none⟩) =>
    match arrT P T with
    | some (n, es) =>
      match loV lo, hiV hi n with
      | some l, some h => some (0 ≤ l ∧ l ≤ h ∧ h ≤ (n : Int), .slice (some (if n = l.toNat then ⟨b, o, none⟩ else ⟨b, o + l.toNat * es, none⟩)) (h.toNat - l.toNat) (n - l.toNat))
      | _, _ => none
    | none => none
  | .slice (some ⟨b, o, none⟩) len cap =>
    match slcT P T with
    | some es =>
      match loV lo, hiV hi len with
      | some l, some h => some (0 ≤ l ∧ l ≤ h ∧ h ≤ (cap : Int), .slice (some (if cap = l.toNat then ⟨b, o, none⟩ else ⟨b, o + l.toNat * es, none⟩)) (h.toNat - l.toNat) (cap - l.toNat))
      | _, _ => none
    | none => none
  | .slice none len cap =>
    match slcT P T with
    | some _ =>
      match loV lo, hiV hi len with
      | some l, some h => some (0 ≤ l ∧ l ≤ h ∧ h ≤ (cap : Int), .slice none (h.toNat - l.toNat) (cap - l.toNat))
      | _, _ => none
    | none => none
  | .string s =>
    if strT P T then
      match loV lo, hiV hi s.size with
      | some l, some h => some (0 ≤ l ∧ l ≤ h ∧ h ≤ (s.size : Int), .string (s.extract l.toNat h.toNat))
      | _, _ => none
    else none
  | _ => none

theorem run_bounds {isSlice : Bool} {len cap : Nat} {lo hi : Option Value} {l h : Int} (w : World) (hl : loV lo = some l) (hh : hiV hi len = some h)
    (h0 : 0 ≤ l) (h1 : l ≤ h) (h2 : h ≤ (cap : Int)) : (Instr.sliceBounds isSlice len cap lo hi none).run P w = .ok (l.toNat, h.toNat, cap) w := by
  have h3 : 0 ≤ h := by omega
  have h4 : l ≤ (h.toNat : Int) := by omega
  unfold loV at hl
  unfold hiV at hh
  cases lo with
  | none =>
    simp only [Option.some.injEq] at hl
    subst hl
    cases hi with
    | none =>
      simp only [Option.some.injEq] at hh
      subst hh
      simp [Instr.sliceBounds]
    | some x =>
      cases x <;> simp only [Option.some.injEq, reduceCtorEq] at hh
      subst hh
      simp [Instr.sliceBounds, Instr.sliceBound, asIntOf, h3, h2]
  | some y =>
    cases y <;> simp only [Option.some.injEq, reduceCtorEq] at hl
    subst hl
    cases hi with
    | none =>
      simp only [Option.some.injEq] at hh
      subst hh
      simp [Instr.sliceBounds, Instr.sliceBound, asIntOf, h0, h1]
    | some x =>
      cases x <;> simp only [Option.some.injEq, reduceCtorEq] at hh
      subst hh
      rename_i n1 _ n2
      have h5 : ((n2.toNat : Nat) : Int) = n2 := by omega
      simp [-Int.ofNat_toNat, Instr.sliceBounds, Instr.sliceBound, asIntOf, h3, h2, h0, h5, h1]

theorem run_sliceV {T : TypeId} {x : Value} {lo hi : Option Value} {c : Prop} {v : Value} (w : World) (h : sliceV P T x lo hi = some (c, v)) (hc : c) :
    (Instr.sliceAt T x lo hi none).run P w = .ok v w := by
  unfold sliceV at h
  split at h
  · rename_i b o
    split at h
    · rename_i n es ha
      obtain ⟨e, hu, hs, rfl⟩ := arrT_spec P ha
      split at h
      · rename_i l g hl hg
        simp only [Option.some.injEq, Prod.mk.injEq] at h
        obtain ⟨rfl, rfl⟩ := h
        simp only [Instr.sliceAt, Sem.run_bind, run_underlying hu, Result.andThen_ok, Instr.sureAddr, Sem.run_pure, run_bounds P w hl hg hc.1 hc.2.1 hc.2.2, run_sizeOf P hs, add_none]
      · cases h
    · cases h
  · rename_i b o len cap
    split at h
    · rename_i es ha
      obtain ⟨e, hu, hs, rfl⟩ := slcT_spec P ha
      split at h
      · rename_i l g hl hg
        simp only [Option.some.injEq, Prod.mk.injEq] at h
        obtain ⟨rfl, rfl⟩ := h
        simp only [Instr.sliceAt, Instr.slice, Sem.run_bind, run_underlying hu, Result.andThen_ok, Sem.run_pure, run_bounds P w hl hg hc.1 hc.2.1 hc.2.2, run_sizeOf P hs, add_none, Option.map_some]
        split <;> rfl
      · cases h
    · cases h
  · rename_i len cap
    split at h
    · rename_i es ha
      obtain ⟨e, hu, hs, rfl⟩ := slcT_spec P ha
      split at h
      · rename_i l g hl hg
        simp only [Option.some.injEq, Prod.mk.injEq] at h
        obtain ⟨rfl, rfl⟩ := h
        simp only [Instr.sliceAt, Instr.slice, Sem.run_bind, run_underlying hu, Result.andThen_ok, Sem.run_pure, run_bounds P w hl hg hc.1 hc.2.1 hc.2.2, run_sizeOf P hs, Option.map_none]
        split <;> rfl
      · cases h
    · cases h
  · rename_i s
    split at h
    · rename_i hs
      split at h
      · rename_i l g hl hg
        simp only [Option.some.injEq, Prod.mk.injEq] at h
        obtain ⟨rfl, rfl⟩ := h
        simp [Instr.sliceAt, Instr.slice, run_underlying (strT_spec P hs), run_bounds P w hl hg hc.1 hc.2.1 hc.2.2]
      · cases h
    · cases h
  · cases h

def lenV (T : TypeId) (x : Value) : Out :=
  match x with
  | .slice _ n _ => match slcE P T with | some _ => some (True, .int .i64 n) | none => none
  | .string s => if strT P T then some (True, .int .i64 s.size) else none
  | _ => match arrT P T with | some (n, _) => some (True, .int .i64 n) | none => none

theorem run_lenV {T ty : TypeId} {ts : Array TypeId} {x : Value} {c : Prop} {v : Value} (w : World) (ht : ts[0]? = some T) (h : lenV P T x = some (c, v)) :
    (Builtin.len_ ts ty #[x]).run P w = .ok v w := by
  have h0 : (#[x] : Array Value)[0]? = some x := rfl
  unfold lenV at h
  split at h
  · rename_i a n cp
    split at h
    · rename_i e he
      have hu : P.underlying T = some (.slice e) := by unfold slcE at he; split at he <;> simp_all
      simp only [Option.some.injEq, Prod.mk.injEq] at h
      obtain ⟨_, rfl⟩ := h
      simp [Builtin.len_, ht, run_underlying hu, goInt]
    · cases h
  · rename_i s
    split at h
    · rename_i hs
      simp only [Option.some.injEq, Prod.mk.injEq] at h
      obtain ⟨_, rfl⟩ := h
      simp [Builtin.len_, ht, run_underlying (strT_spec P hs), goInt]
    · cases h
  · split at h
    · rename_i n es ha
      obtain ⟨e, hu, hs, rfl⟩ := arrT_spec P ha
      simp only [Option.some.injEq, Prod.mk.injEq] at h
      obtain ⟨_, rfl⟩ := h
      simp [Builtin.len_, ht, run_underlying hu, goInt]
    · cases h

def minV (x y : Value) : Out :=
  match x, y with
  | .int k a, .int _ b => some (True, .int k (if b < a then b else a))
  | _, _ => none
def maxV (x y : Value) : Out :=
  match x, y with
  | .int k a, .int _ b => some (True, .int k (if b > a then b else a))
  | _, _ => none

/-! ### Values that are built -/

def splice (cs : List Value) (off : Nat) (vs : List Value) : List Value := cs.take off ++ vs ++ cs.drop (off + vs.length)

/-- A type's zero cells, and the places of its parts. -/
def bldP (T : TypeId) : Option (List Value × List (Nat × Nat)) :=
  match P.info? T, P.underlying T with
  | some it, some (.array n e) =>
    match it.zero, P.info? e with
    | some z, some ie => some (z.cells.toList, (List.range n).map fun i => (i * ie.size, ie.size))
    | _, _ => none
  | some it, some (.struct fields) =>
    match it.zero, fields.toList.mapM (fun f => (P.info? f.type).map fun i => (f.offset, i.size)) with
    | some z, some places => some (z.cells.toList, places)
    | _, _ => none
  | _, _ => none

def fillL (pl : List (Nat × Nat)) : List Value → List (Nat × Value) → Option (Prop × List Value)
  | cs, [] => some (True, cs)
  | cs, (i, v) :: rest => match pl[i]? with
    | none => none
    | some (off, size) => (fillL pl (splice cs off v.cells.toList) rest).map fun cr => ((v.cells.size = size ∧ off + size ≤ cs.length) ∧ cr.1, cr.2)

theorem splice_get {cs vs : List Value} {off : Nat} (h : off + vs.length ≤ cs.length) (i : Nat) :
    (splice cs off vs)[i]? = if i < off then cs[i]? else if i < off + vs.length then vs[i - off]? else cs[i]? := by
  unfold splice
  have e1 : (cs.take off).length = off := by rw [List.length_take]; omega
  rw [List.append_assoc]
  by_cases h1 : i < off
  · rw [if_pos h1, List.getElem?_append_left (by omega), List.getElem?_take, if_pos h1]
  · rw [if_neg h1, List.getElem?_append_right (by omega), e1]
    by_cases h2 : i < off + vs.length
    · rw [if_pos h2, List.getElem?_append_left (by omega)]
    · rw [if_neg h2, List.getElem?_append_right (by omega), List.getElem?_drop]
      congr 1
      omega

theorem splice_cons {cs vs : List Value} {off : Nat} {v : Value} (h : off + (vs.length + 1) ≤ cs.length) : splice (cs.set off v) (off + 1) vs = splice cs off (v :: vs) := by
  apply List.ext_getElem?
  intro i
  rw [splice_get (by rw [List.length_set]; omega), splice_get (by rw [List.length_cons]; omega)]
  by_cases h1 : i < off
  · rw [if_pos (by omega), if_pos h1, List.getElem?_set_ne (by omega)]
  · rw [if_neg h1]
    by_cases h2 : i = off
    · subst h2
      rw [if_pos (by omega), if_pos (by rw [List.length_cons]; omega), List.getElem?_set_self (by omega), Nat.sub_self]
      rfl
    · rw [if_neg (by omega)]
      by_cases h3 : i < off + 1 + vs.length
      · rw [if_pos h3, if_pos (by rw [List.length_cons]; omega)]
        obtain ⟨k, rfl⟩ : ∃ k, i = off + 1 + k := ⟨i - (off + 1), by omega⟩
        have e1 : off + 1 + k - (off + 1) = k := by omega
        have e2 : off + 1 + k - off = k + 1 := by omega
        rw [e1, e2, List.getElem?_cons_succ]
      · rw [if_neg h3, if_neg (by rw [List.length_cons]; omega), List.getElem?_set_ne (by omega)]

theorem foldl_set (off : Nat) : ∀ (vs : List Value) (j : Nat) (cs : Array Value), off + j + vs.length ≤ cs.size →
    (vs.zipIdx j).foldl (fun cs (x : Value × Nat) => cs.setIfInBounds (off + x.2) x.1) cs = (splice cs.toList (off + j) vs).toArray
  | [], j, cs, _ => by simp [splice]
  | v :: vs, j, cs, h => by
    simp only [List.length_cons] at h
    simp only [List.zipIdx_cons, List.foldl_cons]
    rw [foldl_set off vs (j + 1) _ (by rw [Array.size_setIfInBounds]; omega)]
    congr 1
    rw [Array.toList_setIfInBounds]
    have := splice_cons (cs := cs.toList) (vs := vs) (off := off + j) (v := v) (by rw [Array.length_toList]; omega)
    rw [← this]
    rfl

theorem fill_of {pl : List (Nat × Nat)} {place : Nat → Option (Nat × Nat)} (hp : ∀ i x, pl[i]? = some x → place i = some x) :
    ∀ (parts : List (Nat × Value)) (cs : List Value) (c : Prop) (r : List Value), fillL pl cs parts = some (c, r) → c → Instr.fill place cs.toArray parts = some r.toArray
  | [], cs, c, r, h, _ => by
    simp only [fillL, Option.some.injEq, Prod.mk.injEq] at h
    obtain ⟨_, rfl⟩ := h
    rfl
  | (i, v) :: rest, cs, c, r, h, hc => by
    unfold fillL at h
    split at h
    · cases h
    · rename_i off size hi
      cases hf : fillL pl (splice cs off v.cells.toList) rest with
      | none => rw [hf] at h; cases h
      | some cr =>
        rw [hf] at h
        simp only [Option.map_some, Option.some.injEq, Prod.mk.injEq] at h
        obtain ⟨rfl, rfl⟩ := h
        obtain ⟨⟨h1, h2⟩, h3⟩ := hc
        unfold Instr.fill
        rw [hp i _ hi]
        simp only [List.size_toArray]
        rw [if_neg (by simp; omega)]
        have hz : (v.cells.zipIdx.foldl (fun cs (x : Value × Nat) => cs.setIfInBounds (off + x.2) x.1) cs.toArray) = (splice cs off v.cells.toList).toArray := by
          rw [← Array.foldl_toList, Array.toList_zipIdx]
          have := foldl_set off v.cells.toList 0 cs.toArray (by simp; omega)
          simpa using this
        have ih := fill_of hp rest _ cr.1 cr.2 hf h3
        rw [← hz] at ih
        exact ih

def buildV (T : TypeId) (parts : List (Nat × Value)) : Out :=
  match bldP P T with
  | some (zs, pl) => (fillL pl zs parts).map fun cr => (cr.1, .agg cr.2.toArray)
  | none => none

theorem run_buildV {T : TypeId} {parts : Array (Nat × Value)} {c : Prop} {v : Value} (w : World) (h : buildV P T parts.toList = some (c, v)) (hc : c) : (Instr.build T parts).run P w = .ok v w := by
  unfold buildV at h
  split at h
  · rename_i zs pl hb
    cases hf : fillL pl zs parts.toList with
    | none => rw [hf] at h; cases h
    | some cr =>
      rw [hf] at h
      simp only [Option.map_some, Option.some.injEq, Prod.mk.injEq] at h
      obtain ⟨rfl, rfl⟩ := h
      refine run_build w T parts cr.2.toArray ?_
      unfold bldP at hb
      unfold Program.built
      split at hb
      · rename_i it n e hi hu
        split at hb
        · rename_i z ie hz hie
          simp only [Option.some.injEq, Prod.mk.injEq] at hb
          obtain ⟨rfl, rfl⟩ := hb
          simp only [hi, hu, hz, hie]
          refine fill_of (place := fun i => some (i * ie.size, ie.size)) ?_ parts.toList z.cells.toList cr.1 cr.2 hf hc
          intro i x hx
          simp only [List.getElem?_map] at hx
          cases hr : (List.range n)[i]? with
          | none => rw [hr] at hx; cases hx
          | some j =>
            rw [hr] at hx
            have : i = j := by
              have := List.getElem?_range (i := i) (n := n) (by
                rcases Nat.lt_or_ge i n with h | h
                · exact h
                · rw [List.getElem?_eq_none (by simpa using h)] at hr; cases hr)
              rw [this] at hr
              simpa using hr
            subst this
            simpa using hx
        · cases hb
      · rename_i it fields hi hu
        split at hb
        · rename_i z places hz hpl
          simp only [Option.some.injEq, Prod.mk.injEq] at hb
          obtain ⟨rfl, rfl⟩ := hb
          simp only [hi, hu, hz, hpl]
          refine fill_of (place := fun i => places.toArray[i]?) ?_ parts.toList z.cells.toList cr.1 cr.2 hf hc
          intro i x hx
          simpa using hx
        · cases hb
      · cases hb
  · cases h

end
end Go.W8

/-
  Slices that a call makes and lets grow: what the operations on them do to memory that is described by blocks. Nothing here is about one program. Conditions: none.
-/
namespace Go.W8
set_option linter.unusedSectionVars false
set_option linter.unusedSimpArgs false
set_option linter.unusedVariables false

/-- The parts stand in their order, each of the same size. -/
def partsOk (size : Nat) : Nat → List (Nat × Value) → Prop
  | _, [] => True
  | k, (i, v) :: l => (i = k ∧ v.cells.size = size) ∧ partsOk size (k + 1) l
def partsCells : List (Nat × Value) → List Value
  | [] => []
  | (_, v) :: l => v.cells.toList ++ partsCells l

theorem fillL_parts {size len : Nat} : ∀ (l : List (Nat × Value)) (k : Nat) (pre post : List Value), partsOk size k l → k + l.length = len → pre.length = k * size → post.length = l.length * size →
    ∃ c, fillL ((List.range len).map fun i => (i * size, size)) (pre ++ post) l = some (c, pre ++ partsCells l) ∧ c
  | [], k, pre, post, _, _, _, hp => by
    have : post = [] := List.eq_nil_of_length_eq_zero (by simpa using hp)
    subst this
    exact ⟨True, by simp [fillL, partsCells], trivial⟩
  | (i, v) :: l, k, pre, post, h, hk, hpre, hpost => by
    obtain ⟨⟨rfl, hv⟩, hl⟩ := h
    simp only [List.length_cons] at hk hpost
    have hpost' : post.length = l.length * size + size := by rw [hpost, Nat.add_mul, Nat.one_mul]
    have hsp : splice (pre ++ post) (i * size) v.cells.toList = (pre ++ v.cells.toList) ++ post.drop size := by
      unfold splice
      have e1 : v.cells.toList.length = size := by rw [Array.length_toList, hv]
      rw [e1, ← hpre, List.take_left, List.drop_append, List.drop_of_length_le (by omega), List.nil_append]
      congr 2
      omega
    obtain ⟨c, hc, hct⟩ := fillL_parts (size := size) (len := len) l (i + 1) (pre ++ v.cells.toList) (post.drop size) hl (by omega)
      (by rw [List.length_append, hpre, Array.length_toList, hv, Nat.add_mul, Nat.one_mul]) (by rw [List.length_drop]; omega)
    refine ⟨(v.cells.size = size ∧ i * size + size ≤ (pre ++ post).length) ∧ c, ?_, ⟨⟨hv, ?_⟩, hct⟩⟩
    · unfold fillL
      rw [List.getElem?_map, List.getElem?_range (by omega)]
      simp only [Option.map_some]
      rw [hsp, hc]
      simp [partsCells, List.append_assoc]
    · rw [List.length_append, hpre]; omega

section
variable (P : Program)

theorem slice_facts {T e : TypeId} {size : Nat} {zs : List Value} (h1 : slcE P T = some e) (h2 : slcT P T = some size) (h3 : zeroT P e = some zs) :
    ∃ i z, P.underlying T = some (.slice e) ∧ P.info? e = some i ∧ i.zero = some z ∧ z.cells.toList = zs ∧ i.size = size ∧ i.bytes = bytesT P e := by
  unfold slcE at h1
  split at h1
  case h_2 => cases h1
  rename_i e' he
  simp only [Option.some.injEq] at h1
  subst h1
  unfold slcT at h2
  rw [he] at h2
  simp only at h2
  split at h2
  case isFalse => cases h2
  simp only [Option.some.injEq] at h2
  unfold zeroT at h3
  cases hi : P.info? e' with
  | none => simp [hi] at h3
  | some i =>
    cases hz : i.zero with
    | none => simp [hi, hz] at h3
    | some z =>
      simp [hi, hz] at h3
      refine ⟨i, z, he, rfl, hz, h3, ?_, ?_⟩
      · simpa [szT, hi] using h2
      · simp [bytesT, hi]

theorem run_bsl {T e : TypeId} {size : Nat} {zs : List Value} (h1 : slcE P T = some e) (h2 : slcT P T = some size) (h3 : zeroT P e = some zs) (hzs : zs.length = size) {parts : Array (Nat × Value)} {len : Nat}
    (hp : partsOk size 0 parts.toList) (hl : parts.toList.length = len) (hs : len * size ≤ 16777216) (w : World) :
    (Instr.buildSlice T len parts).run P w = .ok (.slice (some ⟨w.heap.size, 0, none⟩) len len) { w with heap := w.heap.push (.cells (partsCells parts.toList).toArray e) } := by
  obtain ⟨i, z, hu, hi, hz, hzc, hsz, _⟩ := slice_facts P h1 h2 h3
  have hfill : ∀ cs : List Value, cs.length = len * size → Instr.fill (fun i => some (i * size, size)) cs.toArray parts.toList = some (partsCells parts.toList).toArray := by
    intro cs hcs
    obtain ⟨c, hc, hct⟩ := fillL_parts (size := size) (len := len) parts.toList 0 [] cs hp (by omega) (by simp) (by rw [hcs, hl])
    refine fill_of (pl := (List.range len).map fun i => (i * size, size)) ?_ _ _ c _ (by simpa using hc) hct
    intro j x hx
    rw [List.getElem?_map] at hx
    by_cases hj : j < len
    · rw [List.getElem?_range hj] at hx
      simpa using hx
    · rw [List.getElem?_eq_none (by simpa using hj)] at hx; cases hx
  have hs' : ¬ (16777216 < len * size) := by omega
  unfold Instr.buildSlice
  by_cases h0 : len * size = 0
  · have := hfill [] (by simpa using h0.symm)
    have e1 : Array.map (fun _ => (default : Value)) (Array.range 0) = ([] : List Value).toArray := by simp
    simp [run_underlying hu, sizeOf, typeInfo, hi, hsz, h0, newRow]
    rw [e1, this]
    simp [run_newObj]
    try rfl
  · have := hfill ((Array.range (len * size)).map (z.cells[· % z.cells.size]!)).toList (by simp)
    simp only [Array.toArray_toList] at this
    simp [run_underlying hu, sizeOf, typeInfo, hi, hsz, hs', h0, zeroValue, hz, this, newRow, run_newObj]

theorem run_app_room {T ty e : TypeId} {i : TypeInfo} (hu : P.underlying T = some (.slice e)) (hi : P.info? e = some i) (w : World) (g sLen sCap : Nat) (cur : Array Value) (t : TypeId) (hg : w.heap[g]? = some (.cells cur t (0, 0)))
    (a : Addr) (m c : Nat) (news : List Value) (hl : news.length = m * i.size) (hnews : ∀ j u, news[j]? = some u → w.cell? (a.add j) = some u) (h1 : ∀ u ∈ news, u.oneCell' = true)
    (hroom : sLen + m ≤ sCap) (hfit : sLen * i.size + news.length ≤ cur.size) :
    (Builtin.append_ #[T, T] ty #[.slice (some ⟨g, 0, none⟩) sLen sCap, .slice (some a) m c]).run P w =
      .ok (.slice (some ⟨g, 0, none⟩) (sLen + m) sCap) (w.setRow g (cur.toList.take (sLen * i.size) ++ news ++ cur.toList.drop (sLen * i.size + news.length)).toArray) := by
  have hf := run_firstCells_some (P := P) w i.size m a m c news hl hnews
  have hst := run_storeCells_at P g (sLen * i.size) t news 0 cur w hg (by simpa using hfit) h1
  simp only [Nat.add_zero] at hst
  simp [Builtin.append_, run_underlying hu, sizeOf, typeInfo, hi, Builtin.lenOf, hroom, hf, Addr.add_lit, hst]

theorem Own.turn {W : List Nat} {w0 w : World} {M M' : Blks} (h : Own W w0 M w) (hm : ∀ p ∈ M', p ∈ M) (hn : (M'.map (·.1)).Nodup) : Own W w0 M' w :=
  ⟨h.os, h.tape, h.output, h.size, h.frame, fun p hp => h.own p (hm p hp), fun p hp => h.blk p (hm p hp), hn⟩

def delB (b : Nat) : Blks → Blks
  | [] => []
  | (b', cs) :: M => if b' = b then M else (b', cs) :: delB b M
theorem delB_sub (b : Nat) : ∀ M : Blks, (delB b M).Sublist M
  | [] => .slnil
  | (b', cs) :: M => by
    unfold delB
    split
    · exact List.sublist_cons_self _ _
    · exact (delB_sub b M).cons_cons _
theorem delB_ne {b : Nat} : ∀ {M : Blks}, (M.map (·.1)).Nodup → ∀ p ∈ delB b M, p.1 ≠ b
  | [], _, p, hp => nomatch hp
  | (b', cs) :: M, hn, p, hp => by
    simp only [List.map_cons, List.nodup_cons] at hn
    unfold delB at hp
    split at hp
    · rename_i e
      subst e
      exact fun e => hn.1 (by rw [← e]; exact List.mem_map_of_mem hp)
    · rename_i e
      rcases List.mem_cons.1 hp with rfl | hp
      · exact e
      · exact delB_ne hn.2 p hp
theorem mem_setB_new {b : Nat} {cs cs' : List Value} : ∀ {M : Blks}, findB b M = some cs → (b, cs') ∈ setB b cs' M
  | [], h => by simp [findB] at h
  | (b', c) :: M, h => by
    unfold findB at h
    unfold setB
    split at h
    · rename_i e; rw [if_pos e, e]; exact List.mem_cons_self
    · rename_i e; rw [if_neg e]; exact List.mem_cons_of_mem _ (mem_setB_new h)
theorem mem_setB_old {b : Nat} {cs' : List Value} : ∀ {M : Blks} {p : Nat × List Value}, p ∈ M → p.1 ≠ b → p ∈ setB b cs' M
  | [], _, hp, _ => nomatch hp
  | (b', c) :: M, p, hp, hne => by
    unfold setB
    rcases List.mem_cons.1 hp with rfl | hp
    · rw [if_neg hne]; exact List.mem_cons_self
    · split
      · exact List.mem_cons_of_mem _ hp
      · exact List.mem_cons_of_mem _ (mem_setB_old hp hne)
theorem Own.front {W : List Nat} {w0 w : World} {M : Blks} {b : Nat} {cs cs' : List Value} (hf : findB b M = some cs) (hn : (M.map (·.1)).Nodup) (h : Own W w0 (setB b cs' M) w) : Own W w0 ((b, cs') :: delB b M) w := by
  refine h.turn ?_ ?_
  · intro p hp
    rcases List.mem_cons.1 hp with rfl | hp
    · exact mem_setB_new hf
    · exact mem_setB_old ((delB_sub b M).subset hp) (delB_ne hn p hp)
  · simp only [List.map_cons, List.nodup_cons]
    refine ⟨fun hm => ?_, ((delB_sub b M).map _).nodup hn⟩
    obtain ⟨p, hp, e⟩ := List.mem_map.1 hm
    exact delB_ne hn p hp e

theorem Own.drawn {W : List Nat} {w0 w : World} {M : Blks} (h : Own W w0 M w) : Own W w0 M w.drew := ⟨h.os, h.tape, h.output, h.size, h.frame, h.own, h.blk, h.nodup⟩

/-- A row that is let grow by a call that has made it: where it then lies is open. -/
theorem run_app {W : List Nat} {w0 w : World} {M : Blks} (h : Own W w0 M w) {T ty e : TypeId} {size : Nat} {zs : List Value} (h1 : slcE P T = some e) (h2 : slcT P T = some size) (h3 : zeroT P e = some zs) (hzs : zs.length = size)
    {bs n cap : Nat} {cs news : List Value} {a : Addr} {m c : Nat} (hf : findB bs M = some cs) (hcs : cs.length = cap * size) (hn : n ≤ cap) (hnl : news.length = m * size)
    (hx : ∀ j u, news[j]? = some u → w.cell? (a.add j) = some u) (ho : ∀ u ∈ news, u.oneCell' = true) (h63 : n + m ≤ maxLen) (hby : (n + m) * bytesT P e ≤ 140737488355328) :
    ∃ b' cap' rest w', (Builtin.append_ #[T, T] ty #[.slice (some ⟨bs, 0, none⟩) n cap, .slice (some a) m c]).run P w = .ok (.slice (some ⟨b', 0, none⟩) (n + m) cap') w' ∧
      ((bs ∈ W ∧ b' = bs) ∨ Fresh w0 (delB bs M) b') ∧ n + m ≤ cap' ∧ rest.length = (cap' - (n + m)) * size ∧ Own W w0 ((b', cs.take (n * size) ++ news ++ rest) :: delB bs M) w' := by
  obtain ⟨i, z, hu, hi, hz, hzc, hsz, hb⟩ := slice_facts P h1 h2 h3
  subst hsz
  have hmem := findB_mem hf
  obtain ⟨t, ht⟩ := h.blk _ hmem
  by_cases hroom : n + m ≤ cap
  · have hmul : (n + m) * i.size ≤ cap * i.size := Nat.mul_le_mul_right _ hroom
    rw [Nat.add_mul] at hmul
    have hr := run_app_room P (ty := ty) hu hi w bs n cap cs.toArray t ht a m c news hnl hx ho hroom (by rw [List.size_toArray, hcs, hnl]; exact hmul)
    refine ⟨bs, cap, cs.drop (n * i.size + news.length), _, hr, ?_, hroom, ?_, ?_⟩
    · rcases h.own _ hmem with h4 | h4
      · exact .inl ⟨h4, rfl⟩
      · exact .inr ⟨h4, fun p hp => (delB_ne h.nodup p hp).symm⟩
    · rw [List.length_drop, hcs, hnl, ← Nat.add_mul, ← Nat.sub_mul]
    · refine Own.front hf h.nodup (h.put hf rfl rfl rfl (setRow_size _ _ _) ?_ (fun k hk => setRow_other _ _ _ _ hk))
      intro t' ht'
      exact setRow_heap w bs cs.toArray _ t' (0, 0) ht'
  · have hlo : (cs.take (n * i.size)).length = n * i.size := by
      rw [List.length_take, hcs]
      exact Nat.min_eq_left (Nat.mul_le_mul_right _ hn)
    have hr := run_append_grow (P := P) w T ty e i z hu hi hz ⟨bs, 0, none⟩ n cap (cs.take (n * i.size)) hlo (by
      intro j v hj
      rw [List.getElem?_take] at hj
      split at hj
      · rw [Addr.add_lit, Nat.zero_add]
        unfold World.cell?
        have ht' : w.heap[bs]? = some (.cells cs.toArray t (0, 0)) := ht
        simp only [ht']
        simpa using hj
      · cases hj) a m c news hnl hx (by omega) (by simp only [maxLen] at h63; omega) (growslice_fits (by omega) (by rw [hb]; exact hby))
    obtain ⟨hfr, how⟩ := h.drawn.push (cs.take (n * i.size) ++ news ++ (Builtin.zeroCells z.cells (grownCap w (n + m) cap e - (n + m))).toList) e
    refine ⟨w.heap.size, grownCap w (n + m) cap e, (Builtin.zeroCells z.cells (grownCap w (n + m) cap e - (n + m))).toList, _, hr, .inr ⟨hfr.1, fun p hp => hfr.2 p ((delB_sub bs M).subset hp)⟩, grownCap_ge .., ?_, ?_⟩
    · rw [Array.length_toList, size_zeroCells]
      congr 1
      rw [← Array.length_toList, hzc, hzs]
    · refine Own.sub ?_ ((delB_sub bs M).cons_cons _)
      have e1 : ((cs.take (n * i.size)).toArray ++ news.toArray ++ Builtin.zeroCells z.cells (grownCap w (n + m) cap e - (n + m))) = (cs.take (n * i.size) ++ news ++ (Builtin.zeroCells z.cells (grownCap w (n + m) cap e - (n + m))).toList).toArray := by
        apply Array.toList_inj.1
        simp
      rw [e1]
      exact how

theorem run_app_nil {W : List Nat} {w0 w : World} {M : Blks} (h : Own W w0 M w) {T ty e : TypeId} {size : Nat} {zs : List Value} (h1 : slcE P T = some e) (h2 : slcT P T = some size) (h3 : zeroT P e = some zs) (hzs : zs.length = size)
    {news : List Value} {a : Addr} {m c : Nat} (hm : 0 < m) (hnl : news.length = m * size)
    (hx : ∀ j u, news[j]? = some u → w.cell? (a.add j) = some u) (h63 : m ≤ maxLen) (hby : m * bytesT P e ≤ 140737488355328) :
    ∃ b' cap' rest w', (Builtin.append_ #[T, T] ty #[.slice none 0 0, .slice (some a) m c]).run P w = .ok (.slice (some ⟨b', 0, none⟩) m cap') w' ∧
      Fresh w0 M b' ∧ m ≤ cap' ∧ rest.length = (cap' - m) * size ∧ Own W w0 ((b', news ++ rest) :: M) w' := by
  obtain ⟨i, z, hu, hi, hz, hzc, hsz, hb⟩ := slice_facts P h1 h2 h3
  subst hsz
  have hr := run_append_nil (P := P) w T ty e i z hu hi hz a m c news hnl hx hm (by simp only [maxLen] at h63; omega) (by rw [hb]; omega)
  obtain ⟨hfr, how⟩ := h.drawn.push (news ++ (Builtin.zeroCells z.cells (grownCap w m 0 e - m)).toList) e
  refine ⟨w.heap.size, grownCap w m 0 e, (Builtin.zeroCells z.cells (grownCap w m 0 e - m)).toList, _, hr, hfr, grownCap_ge .., ?_, ?_⟩
  · rw [Array.length_toList, size_zeroCells]
    congr 1
    rw [← Array.length_toList, hzc, hzs]
  · have e1 : (news.toArray ++ Builtin.zeroCells z.cells (grownCap w m 0 e - m)) = (news ++ (Builtin.zeroCells z.cells (grownCap w m 0 e - m)).toList).toArray := by
      apply Array.toList_inj.1
      simp
    rw [e1]
    exact how

theorem run_mks {T e : TypeId} {size : Nat} {zs : List Value} (h1 : slcE P T = some e) (h2 : slcT P T = some size) (h3 : zeroT P e = some zs) (kl kc : IntKind) (n : Nat) (hb : bytesT P e * n ≤ 281474976710656) (h63 : n ≤ maxLen) (w : World) :
    ∃ cs : List Value, (Instr.makeSlice T (.int kl (n : Int)) (.int kc (n : Int))).run P w = .ok (.slice (some ⟨w.heap.size, 0, none⟩) n n) { w with heap := w.heap.push (.cells cs.toArray e) } ∧ cs = (madeCells zs.toArray (n * size)).toList := by
  obtain ⟨i, z, hu, hi, hz, hzc, hsz, hby⟩ := slice_facts P h1 h2 h3
  subst hzc hsz
  have hr := run_make (P := P) w T e i z hu hi hz kl kc (n : Int) (n : Int) (by omega) (by omega) (by rw [hby, ← Int.natCast_mul]; omega) (by simp only [maxLen] at h63; omega)
  exact ⟨_, hr, rfl⟩

end
end Go.W8

/-
  '==' of structs of numbers and of rows of numbers. Nothing here is about one program. Conditions: none.
-/
namespace Go.W8
set_option linter.unusedVariables false
set_option linter.unusedSimpArgs false
set_option linter.unusedSectionVars false

def eqL : List Value → List Value → Bool
  | .int _ a :: l, .int _ b :: l' => a == b && eqL l l'
  | [], [] => true
  | _, _ => false
def SameI : List Value → List Value → Prop
  | .int k _ :: l, .int k' _ :: l' => k = k' ∧ SameI l l'
  | [], [] => True
  | _, _ => False

theorem SameI.cons {x y : Value} {l l' : List Value} (h : SameI (x :: l) (y :: l')) : ∃ k a b, x = .int k a ∧ y = .int k b ∧ SameI l l' := by
  unfold SameI at h
  split at h
  · rename_i k a l1 k' b l1' h1 h2
    obtain ⟨rfl, h⟩ := h
    simp only [List.cons.injEq] at h1 h2
    obtain ⟨rfl, rfl⟩ := h1
    obtain ⟨rfl, rfl⟩ := h2
    exact ⟨k, a, b, rfl, rfl, h⟩
  · rename_i h1 h2; cases h1
  · exact h.elim
theorem SameI.nil_cons {y : Value} {l' : List Value} (h : SameI [] (y :: l')) : False := by
  unfold SameI at h
  exact h
theorem SameI.cons_nil {y : Value} {l' : List Value} (h : SameI (y :: l') []) : False := by
  unfold SameI at h
  split at h
  · rename_i h1 h2; cases h2
  · rename_i h1 h2; cases h1
  · exact h
theorem SameI.len : ∀ {l l' : List Value}, SameI l l' → l.length = l'.length
  | [], [], _ => rfl
  | [], _ :: _, h => h.nil_cons.elim
  | _ :: _, [], h => h.cons_nil.elim
  | x :: l, y :: l', h => by
    obtain ⟨_, _, _, _, _, h⟩ := h.cons
    simp [SameI.len h]
theorem SameI.split : ∀ {l l' : List Value} (n : Nat), SameI l l' → SameI (l.take n) (l'.take n) ∧ SameI (l.drop n) (l'.drop n)
  | l, l', 0, h => by simpa [SameI] using h
  | [], [], n + 1, h => by simp [SameI]
  | [], _ :: _, n + 1, h => h.nil_cons.elim
  | _ :: _, [], n + 1, h => h.cons_nil.elim
  | x :: l, y :: l', n + 1, h => by
    obtain ⟨k, a, b, rfl, rfl, ht⟩ := h.cons
    have ih := SameI.split n ht
    simp only [List.take_succ_cons, List.drop_succ_cons]
    exact ⟨⟨rfl, ih.1⟩, ih.2⟩
theorem eqL_split : ∀ {l l' : List Value} (n : Nat), SameI l l' → eqL l l' = (eqL (l.take n) (l'.take n) && eqL (l.drop n) (l'.drop n))
  | l, l', 0, h => by simp [eqL]
  | [], [], n + 1, h => by simp [eqL]
  | [], _ :: _, n + 1, h => h.nil_cons.elim
  | _ :: _, [], n + 1, h => h.cons_nil.elim
  | x :: l, y :: l', n + 1, h => by
    obtain ⟨k, a, b, rfl, rfl, ht⟩ := h.cons
    simp only [List.take_succ_cons, List.drop_succ_cons, eqL]
    rw [eqL_split n ht, Bool.and_assoc]

section
variable (P : Program)

def intB (T : TypeId) : Bool := match P.underlying T with | some (.int _) => true | _ => false
/-- Where the fields end, if each is a number or a row of numbers, one behind the other. -/
def eqF : Nat → List Field → Option Nat
  | off, [] => some off
  | off, f :: fs => if f.name != "_" && f.offset == off && hasT P f.type then
      match P.underlying f.type with
      | some (.int _) => if szT P f.type == 1 then eqF (off + 1) fs else none
      | some (.array n e) => if hasT P e && szT P e == 1 && intB P e && szT P f.type == n then eqF (off + n) fs else none
      | _ => none
    else none
def eqT (T : TypeId) : Option Nat := if P.stoodInHeld T || P.eqGuardType P.depth T then none else match P.underlying T with | some (.struct fs) => eqF P 0 fs.toList | _ => none

theorem intB_spec {T : TypeId} (h : intB P T = true) : ∃ k, P.underlying T = some (.int k) := by
  unfold intB at h
  split at h
  · rename_i k hk; exact ⟨k, hk⟩
  · cases h

theorem run_part_int {T : TypeId} (hi : intB P T = true) (cs : Array Value) {off : Nat} {v : Value} (h : cs[off]? = some v) (w : World) : (part T cs off).run P w = .ok v w := by
  obtain ⟨k, hk⟩ := intB_spec P hi
  have hp : parT P T = true := by unfold parT; rw [hk]
  have ha : aggT P T = false := by unfold aggT; rw [hk]
  unfold part
  simp only [Sem.run_bind, run_isAgg P hp, Result.andThen_ok, ha]
  rw [if_neg (by simp), h]
  rfl

theorem run_part_row {T e : TypeId} {n : Nat} (hu : P.underlying T = some (.array n e)) (hh : hasT P T = true) (cs : Array Value) (off : Nat) (w : World) : (part T cs off).run P w = .ok (.agg (cs.extract off (off + szT P T))) w := by
  have hp : parT P T = true := by unfold parT; rw [hu]
  have ha : aggT P T = true := by unfold aggT; rw [hu]
  unfold part
  simp only [Sem.run_bind, run_isAgg P hp, Result.andThen_ok, ha, if_true, run_sizeOf P hh, Sem.run_pure]

theorem run_eq_row {T e : TypeId} {n : Nat} (hu : P.underlying T = some (.array n e)) (hh : hasT P e = true) (h1 : szT P e = 1) (hi : intB P e = true) (d : Nat) (xs ys : Array Value) (hs : SameI xs.toList ys.toList) (hx : xs.toList.length = n) (w : World) :
    (Op.equalIn (d + 2) T (.agg xs) (.agg ys)).run P w = .ok (eqL xs.toList ys.toList) w := by
  obtain ⟨k, hk⟩ := intB_spec P hi
  unfold Op.equalIn
  simp only [Sem.run_bind, run_underlying hu, Result.andThen_ok, run_sizeOf P hh, h1, Nat.mul_one, Std.Legacy.Range.forIn_eq_forIn_range', Std.Legacy.Range.size, Nat.sub_zero, Nat.add_sub_cancel, Nat.div_one]
  have key : ∀ (m j : Nat), m + j = n → SameI (xs.toList.drop j) (ys.toList.drop j) → ∀ w,
      ((forIn (m := Sem) (List.range' j m) (none, PUnit.unit) fun i _ => do
        let __do_lift ← part e xs i
        let __do_lift_1 ← part e ys i
        let __do_lift ← Op.equalIn (d + 1) e __do_lift __do_lift_1
        if (!__do_lift) = true then pure (ForInStep.done (some false, PUnit.unit)) else pure (ForInStep.yield (none, PUnit.unit))) : Sem (Option Bool × PUnit)).run P w =
      .ok (if eqL (xs.toList.drop j) (ys.toList.drop j) then none else some false, PUnit.unit) w := by
    intro m
    induction m with
    | zero =>
      intro j hj hsj w
      have e1 : xs.toList.drop j = [] := List.drop_of_length_le (by omega)
      have e2 : ys.toList.drop j = [] := List.drop_of_length_le (by have := hs.len; omega)
      rw [e1, e2]
      rfl
    | succ m ih =>
      intro j hj hsj w
      have hjx : j < xs.toList.length := by omega
      have hjy : j < ys.toList.length := by have := hs.len; omega
      rw [List.drop_eq_getElem_cons hjx, List.drop_eq_getElem_cons hjy] at hsj ⊢
      obtain ⟨k', a, b, ha, hb, hrest⟩ := hsj.cons
      have gx : xs[j]? = some (.int k' a) := by rw [← ha, ← Array.getElem?_toList]; exact List.getElem?_eq_getElem hjx
      have gy : ys[j]? = some (.int k' b) := by rw [← hb, ← Array.getElem?_toList]; exact List.getElem?_eq_getElem hjy
      have ih' := ih (j + 1) (by omega) hrest w
      rw [List.range'_succ, List.forIn_cons]
      simp only [Sem.run_bind, run_part_int P hi xs gx, Result.andThen_ok, run_part_int P hi ys gy, run_equalIn_int w d e k' k a b hk]
      rw [ha, hb]
      by_cases hab : a = b
      · subst hab
        simp only [beq_self_eq_true, Bool.not_true, Bool.false_eq_true, if_false, Sem.run_pure, Result.andThen_ok, eqL, Bool.true_and]
        exact ih'
      · have : (a == b) = false := beq_eq_false_iff_ne.2 hab
        simp only [this, Bool.not_false, if_true, Sem.run_pure, Result.andThen_ok, eqL, Bool.false_and, Bool.false_eq_true, if_false]
  have := key n 0 rfl (by simpa using hs) w
  simp only [List.drop_zero] at this
  rw [this]
  cases eqL xs.toList ys.toList <;> rfl

theorem run_eq_fields (D : Nat) (xs ys : Array Value) : ∀ (fs : List Field) (off n : Nat), eqF P off fs = some n → SameI (xs.toList.drop off) (ys.toList.drop off) → xs.toList.length = n → ∀ w,
    (Op.eqFields (D + 2) xs ys fs).run P w = .ok (eqL (xs.toList.drop off) (ys.toList.drop off)) w
  | [], off, n, h, hs, hx, w => by
    simp only [eqF, Option.some.injEq] at h
    have e1 : xs.toList.drop off = [] := List.drop_of_length_le (by omega)
    have e2 : ys.toList.drop off = [] := by have := hs.len; rw [e1] at this; exact List.eq_nil_of_length_eq_zero this.symm
    rw [e1, e2]
    rfl
  | f :: fs, off, n, h, hs, hx, w => by
    unfold eqF at h
    split at h
    case isFalse => cases h
    rename_i hf
    simp only [Bool.and_eq_true, bne_iff_ne, ne_eq, beq_iff_eq] at hf
    obtain ⟨⟨hname, hoff⟩, hh⟩ := hf
    unfold Op.eqFields
    rw [if_pos hname, hoff]
    split at h
    · rename_i k hk
      split at h
      case isFalse => cases h
      rename_i h1
      have hi : intB P f.type = true := by unfold intB; rw [hk]
      cases hcx : xs.toList.drop off with
      | nil =>
        have : n ≤ off := by rw [← hx]; exact List.drop_eq_nil_iff.1 hcx
        have := eqF_le fs (off + 1) n h
        omega
      | cons a l =>
        cases hcy : ys.toList.drop off with
        | nil => rw [hcx, hcy] at hs; exact hs.cons_nil.elim
        | cons b l' =>
          rw [hcx, hcy] at hs
          obtain ⟨k', u, v, rfl, rfl, ht⟩ := hs.cons
          have gx : xs[off]? = some (.int k' u) := by rw [← Array.getElem?_toList, ← Nat.add_zero off, ← List.getElem?_drop, hcx]; rfl
          have gy : ys[off]? = some (.int k' v) := by rw [← Array.getElem?_toList, ← Nat.add_zero off, ← List.getElem?_drop, hcy]; rfl
          have e1 : xs.toList.drop (off + 1) = l := by rw [← List.drop_drop, hcx]; rfl
          have e2 : ys.toList.drop (off + 1) = l' := by rw [← List.drop_drop, hcy]; rfl
          have ih := run_eq_fields D xs ys fs (off + 1) n h (by rw [e1, e2]; exact ht) hx w
          simp only [Sem.run_bind, run_part_int P hi xs gx, Result.andThen_ok, run_part_int P hi ys gy, run_equalIn_int w (D + 1) f.type k' k u v hk]
          by_cases huv : u = v
          · subst huv
            simp only [beq_self_eq_true, Bool.not_true, Bool.false_eq_true, if_false, eqL, Bool.true_and]
            rw [ih, e1, e2]
          · have : (u == v) = false := beq_eq_false_iff_ne.2 huv
            simp only [this, Bool.not_false, if_true, eqL, Bool.false_and, Sem.run_pure]
    · rename_i m e hu
      split at h
      case isFalse => cases h
      rename_i h1
      simp only [Bool.and_eq_true, beq_iff_eq] at h1
      obtain ⟨⟨⟨h2, h3⟩, h4⟩, h5⟩ := h1
      have hle := eqF_le fs (off + m) n h
      have hsp := hs.split m
      have ex : (xs.extract off (off + szT P f.type)).toList = (xs.toList.drop off).take m := by
        rw [h5, Array.toList_extract, List.extract_eq_take_drop, Nat.add_sub_cancel_left]
      have ey : (ys.extract off (off + szT P f.type)).toList = (ys.toList.drop off).take m := by
        rw [h5, Array.toList_extract, List.extract_eq_take_drop, Nat.add_sub_cancel_left]
      have hr := run_eq_row P hu h2 h3 h4 D (xs.extract off (off + szT P f.type)) (ys.extract off (off + szT P f.type)) (by rw [ex, ey]; exact hsp.1) (by rw [ex, List.length_take, List.length_drop]; omega) w
      have ih := run_eq_fields D xs ys fs (off + m) n h (by rw [← List.drop_drop, ← List.drop_drop]; exact hsp.2) hx w
      simp only [Sem.run_bind, run_part_row P hu hh, Result.andThen_ok, hr]
      rw [ex, ey, eqL_split m hs, List.drop_drop, List.drop_drop]
      cases hq : eqL ((xs.toList.drop off).take m) ((ys.toList.drop off).take m) with
      | true => simp only [Bool.not_true, Bool.false_eq_true, if_false, Bool.true_and]; rw [ih]
      | false => simp only [Bool.not_false, if_true, Bool.false_and, Sem.run_pure]
    · cases h
where
  eqF_le : ∀ (fs : List Field) (off n : Nat), eqF P off fs = some n → off ≤ n
  | [], off, n, h => by simp only [eqF, Option.some.injEq] at h; omega
  | f :: fs, off, n, h => by
    unfold eqF at h
    split at h
    case isFalse => cases h
    split at h
    · split at h
      · have := eqF_le fs _ _ h; omega
      · cases h
    · split at h
      · have := eqF_le fs _ _ h; omega
      · cases h
    · cases h

theorem run_eq_struct {T : TypeId} {n : Nat} (hT : eqT P T = some n) (xs ys : Array Value) (hs : SameI xs.toList ys.toList) (hx : xs.toList.length = n) (w : World) : (Op.equal T (.agg xs) (.agg ys)).run P w = .ok (eqL xs.toList ys.toList) w := by
  unfold eqT at hT
  split at hT
  · cases hT
  · rename_i hst
    split at hT
    · rename_i fs hu
      have hf : P.fieldsOf T = fs := by unfold Program.fieldsOf; rw [hu]
      have h1 := run_equalIn_struct (P := P) w 9999 T xs ys (by rw [hf]; exact hu) (by simp at hst; exact hst.1)
      have h2 := run_eq_fields P 9997 xs ys fs.toList 0 n hT (by simpa using hs) hx w
      rw [hf, h2] at h1
      simp only [List.drop_zero] at h1
      exact h1
    · cases hT

def eqOp (op : BinOp) (b : Bool) : Option Value := match op with | .eql => some (.bool b) | .neq => some (.bool (!b)) | _ => none
/-- The operations on two values, structs of numbers too. -/
def binW (op : BinOp) (T : TypeId) (x y : Value) : Out :=
  match x with
  | .agg a => match y with
    | .agg b => match eqT P T, eqOp op (eqL a.toList b.toList) with
      | some n, some v => some (SameI a.toList b.toList ∧ a.toList.length = n, v)
      | _, _ => none
    | _ => none
  | .int k a => binV P op T (.int k a) y
  | .string s => binV P op T (.string s) y
  | .bool b => binV P op T (.bool b) y
  | .slice a _ _ => match y with
    | .slice none _ _ => match slcE P T, eqOp op a.isNone with
      | some _, some v => some (True, v)
      | _, _ => none
    | _ => none
  | _ => none

theorem run_equal_nilslice {T e : TypeId} (hT : P.underlying T = some (.slice e)) (a : Option Addr) (n c n' c' : Nat) (w : World) : (Op.equal T (.slice a n c) (.slice none n' c')).run P w = .ok a.isNone w := by
  show (Op.equalIn (9999 + 1) T _ _).run P w = _
  unfold Op.equalIn
  simp only [Sem.run_bind, run_underlying hT, Result.andThen_ok]
  cases a <;> rfl

theorem run_binW {op : BinOp} {T : TypeId} {x y : Value} (ox oy : Operand) {c : Prop} {v : Value} (w : World) (h : binW P op T x y = some (c, v)) (hc : c) :
    ((do eqGuard op T ox oy x y; binOp op T x y : Sem Value)).run P w = .ok v w := by
  unfold binW at h
  split at h
  · rename_i a
    split at h
    · rename_i b
      split at h
      · rename_i n u hT he
        simp only [Option.some.injEq, Prod.mk.injEq] at h
        obtain ⟨rfl, rfl⟩ := h
        have hr := run_eq_struct P hT a b hc.1 hc.2 w
        have hg : (eqGuard op T ox oy (.agg a) (.agg b)).run P w = .ok () w := by
          have hz : P.eqGuardType P.depth T = false := by
            unfold eqT at hT
            split at hT
            · cases hT
            · rename_i hst; simp at hst; exact hst.2
          unfold eqGuard
          cases op <;> simp [hz]
        simp only [Sem.run_bind, hg, Result.andThen_ok]
        unfold eqOp at he
        split at he <;> simp only [Option.some.injEq, reduceCtorEq] at he
        all_goals
          subst he
          simp only [binOp, Sem.run_bind, hr, Result.andThen_ok]
          rfl
      · cases h
    · cases h
  · exact run_binV P ox oy w h hc
  · exact run_binV P ox oy w h hc
  · exact run_binV P ox oy w h hc
  · rename_i a n c
    split at h
    · rename_i n' c'
      split at h
      · rename_i e u hT he
        simp only [Option.some.injEq, Prod.mk.injEq] at h
        obtain ⟨_, rfl⟩ := h
        have hu : P.underlying T = some (.slice e) := by unfold slcE at hT; split at hT <;> simp_all
        have hr := run_equal_nilslice P hu a n c n' c' w
        have hg : (eqGuard op T ox oy (.slice a n c) (.slice none n' c')).run P w = .ok () w := by
          unfold eqGuard
          cases op <;> simp
        simp only [Sem.run_bind, hg, Result.andThen_ok]
        unfold eqOp at he
        split at he <;> simp only [Option.some.injEq, reduceCtorEq] at he
        all_goals
          subst he
          simp only [binOp, Sem.run_bind, hr, Result.andThen_ok]
          rfl
      · cases h
    · cases h
  · cases h

end
end Go.W8

/-
  The walk over a list of operations: what has to be shown of what is known, and that it suffices. Nothing here is about one program. Conditions: none.
-/
namespace Go.W8

/-- A part and its value. -/
def evP (ρ : Env) (p : Nat × Operand) : Nat × Value := (p.1, ev ρ p.2)

section
variable (P : Program)

def pureOp (ρ : Env) : Op → Out
  | .move x | .assign x => some (True, ev ρ x)
  | .pick c a b => match ev ρ c with | .bool t => some (True, bif t then ev ρ a else ev ρ b) | _ => none
  | .binOp op T x y _ => binW P op T (ev ρ x) (ev ρ y)
  | .unOp op _ x => unV op (ev ρ x)
  | .convert s d x => convV P s d (ev ρ x)
  | .nilCheck x => nilV (ev ρ x)
  | .fieldAddr s x f => fieldAddrV P s (ev ρ x) f
  | .indexAddr T x i => indexAddrV P T (ev ρ x) (ev ρ i)
  | .index T x i => indexV P T (ev ρ x) (ev ρ i)
  | .field T x f => fieldV P T (ev ρ x) f
  | .extract x i => extractV (ev ρ x) i
  | .makeFunc fn a b => some (True, .func fn (a.map (ev ρ)) (b.map (ev ρ)))
  | .slice T x lo hi none => sliceV P T (ev ρ x) (lo.map (ev ρ)) (hi.map (ev ρ))
  | .build T parts => buildV P T (parts.toList.map (evP ρ))
  | _ => none

theorem run_pureOp {ρ : Env} {o : Oper} {c : Prop} {v : Value} (w : World) (h : pureOp P ρ o.op = some (c, v)) (hc : c) : (execOp (ev ρ) o).run P w = .ok (.value v) w := by
  unfold execOp
  generalize o.op = op at *
  cases op <;> simp only [pureOp, reduceCtorEq] at h
  case move x => simp only [Option.some.injEq, Prod.mk.injEq] at h; obtain ⟨_, rfl⟩ := h; rfl
  case assign x => simp only [Option.some.injEq, Prod.mk.injEq] at h; obtain ⟨_, rfl⟩ := h; rfl
  case pick x a b =>
    split at h
    · rename_i t ht
      simp only [Option.some.injEq, Prod.mk.injEq] at h
      obtain ⟨_, rfl⟩ := h
      simp only [ht, asBool, Sem.run_bind, Sem.run_pure, Result.andThen_ok]
      cases t <;> rfl
    · cases h
  case build T parts =>
    have := run_buildV P w (parts := parts.map (evP ρ)) (by simpa using h) hc
    unfold evP at this
    simp only [Sem.run_bind, this, Result.andThen_ok, Sem.run_pure]
  case nilCheck x =>
    unfold nilV at h
    split at h <;> simp only [Option.some.injEq, Prod.mk.injEq, reduceCtorEq] at h
    · rename_i a ha
      obtain ⟨_, rfl⟩ := h
      simp only [ha]; rfl
    · rename_i f a b hf
      obtain ⟨_, rfl⟩ := h
      simp only [hf]; rfl
  case binOp op T x y T' =>
    have := run_binW P x y w h hc
    simp only [Sem.run_bind, Sem.run_pure] at this ⊢
    rw [this]; rfl
  case unOp op T x => simp only [Sem.run_bind, run_unV P w h, Result.andThen_ok, Sem.run_pure]
  case convert s d x => simp only [Sem.run_bind, run_convV P w h, Result.andThen_ok, Sem.run_pure]
  case makeFunc fn a b => simp only [Option.some.injEq, Prod.mk.injEq] at h; obtain ⟨_, rfl⟩ := h; rfl
  case slice T x lo hi mx =>
    cases mx with
    | none => simp only [Sem.run_bind, Option.map_none, run_sliceV P w h hc, Result.andThen_ok, Sem.run_pure]
    | some m => simp only [reduceCtorEq] at h
  case fieldAddr s x f => simp only [Sem.run_bind, run_fieldAddrV P w h, Result.andThen_ok, Sem.run_pure]
  case field s x f => simp only [Sem.run_bind, run_fieldV P w h hc, Result.andThen_ok, Sem.run_pure]
  case indexAddr T x i => simp only [Sem.run_bind, run_indexAddrV P w h hc, Result.andThen_ok, Sem.run_pure]
  case index T x i => simp only [Sem.run_bind, run_indexV P w h hc, Result.andThen_ok, Sem.run_pure]
  case extract x i => simp only [Sem.run_bind, run_extractV P w h, Result.andThen_ok, Sem.run_pure]

/-- A variable's kind: none: one cell; some n: n cells. -/
def ldT (T : TypeId) : Option (Option Nat) := if parT P T && hasT P T then some (if aggT P T then some (szT P T) else none) else none
def stT (T : TypeId) : Option Nat := if hasT P T then some (szT P T) else none

theorem ldT_one {T : TypeId} (h : ldT P T = some none) (a : Addr) : loadVar T a = loadVar T a ∧ ∀ w v, w.cell? a = some v → (loadVar T a).run P w = .ok v w := by
  refine ⟨rfl, fun w v hv => ?_⟩
  unfold ldT at h
  split at h
  · rename_i hh
    simp only [Bool.and_eq_true] at hh
    split at h
    · cases h
    · rename_i ha
      unfold loadVar
      simp only [Sem.run_bind, run_isAgg P hh.1, Result.andThen_ok]
      rw [if_neg (by simpa using ha)]
      simp [hv]
  · cases h

theorem ldT_many {T : TypeId} {n : Nat} (h : ldT P T = some (some n)) (b o : Nat) (vs : List Value) (hn : vs.length = n) (w : World)
    (hv : ∀ j v, vs[j]? = some v → w.cell? ⟨b, o + j, none⟩ = some v) : (loadVar T ⟨b, o, none⟩).run P w = .ok (.agg vs.toArray) w := by
  unfold ldT at h
  split at h
  · rename_i hh
    simp only [Bool.and_eq_true] at hh
    split at h
    · rename_i ha
      simp only [Option.some.injEq] at h
      subst h
      unfold loadVar
      have hl : (loadCells ⟨b, o, none⟩ vs.length).run P w = .ok vs.toArray w := run_loadCells_list (P := P) w ⟨b, o, none⟩ vs (fun j v hj => by rw [add_none]; exact hv j v hj)
      rw [hn] at hl
      simp only [Sem.run_bind, run_isAgg P hh.1, Result.andThen_ok, ha, if_true, run_sizeOf P hh.2, hl]
      rfl
    · cases h
  · cases h

end

section
variable (P : Program) (N : Nat) (W : List Nat) (w0 : World)

def Ones (vs : List Value) : Prop := ∀ v ∈ vs, v.oneCell' = true
def subL (cs : List Value) (o n : Nat) : List Value := (cs.drop o).take n

/-- What a cell of an old block holds that nobody here may write. -/
def frn (b o : Nat) : Option Value := if b < w0.heap.size ∧ b ∉ W then w0.cell? ⟨b, o, none⟩ else none
def cellAt (M : Blks) (b o : Nat) : Option Value := match findB b M with | some cs => cs[o]? | none => frn W w0 b o
def cellsAt (M : Blks) (b o n : Nat) : Option (List Value) :=
  match findB b M with
  | some cs => if o + n ≤ cs.length then some (subL cs o n) else none
  | none => (List.range n).mapM fun j => frn W w0 b (o + j)

theorem Own.cellAt {M : Blks} {w : World} (h : Own W w0 M w) {b o : Nat} {v : Value} (hv : cellAt W w0 M b o = some v) : w.cell? ⟨b, o, none⟩ = some v := by
  unfold W8.cellAt at hv
  split at hv
  · rename_i cs hf
    obtain ⟨t, ht⟩ := h.blk _ (findB_mem hf)
    unfold World.cell?
    rw [ht]
    simpa using hv
  · unfold frn at hv
    split at hv
    · rename_i hh
      unfold World.cell? at hv ⊢
      rw [h.frame b hh.1 hh.2]
      exact hv
    · cases hv

theorem mapM_get {α β : Type} {f : α → Option β} : ∀ {l : List α} {r : List β}, l.mapM f = some r → r.length = l.length ∧ ∀ (j : Nat) (x : β), r[j]? = some x → ∃ y, l[j]? = some y ∧ f y = some x
  | [], r, h => by simp at h; subst h; simp
  | a :: l, r, h => by
    simp only [List.mapM_cons, Option.bind_eq_bind, Option.pure_def] at h
    cases ha : f a with
    | none => simp [ha] at h
    | some b =>
      cases hl : l.mapM f with
      | none => simp [ha, hl] at h
      | some rest =>
        simp [ha, hl] at h
        subst h
        obtain ⟨h1, h2⟩ := mapM_get hl
        refine ⟨by simp [h1], fun j x hx => ?_⟩
        cases j with
        | zero => simp at hx; subst hx; exact ⟨a, rfl, ha⟩
        | succ j => simp at hx; simpa using h2 j x hx

theorem Own.cellsAt {M : Blks} {w : World} (h : Own W w0 M w) {b o n : Nat} {vs : List Value} (hv : cellsAt W w0 M b o n = some vs) :
    vs.length = n ∧ ∀ j v, vs[j]? = some v → w.cell? ⟨b, o + j, none⟩ = some v := by
  unfold W8.cellsAt at hv
  split at hv
  · rename_i cs hf
    split at hv
    · rename_i hl
      simp only [Option.some.injEq] at hv
      subst hv
      refine ⟨by simp [subL]; omega, fun j v hj => ?_⟩
      refine h.cellAt W w0 (b := b) (o := o + j) ?_
      unfold W8.cellAt
      rw [hf]
      simp only [subL, List.getElem?_take, List.getElem?_drop] at hj
      split at hj
      · exact hj
      · cases hj
    · cases hv
  · rename_i hf
    obtain ⟨h1, h2⟩ := mapM_get hv
    refine ⟨by simpa using h1, fun j v hj => ?_⟩
    obtain ⟨y, hy, hfy⟩ := h2 j v hj
    have hjn : j < n := by
      rcases Nat.lt_or_ge j n with h | h
      · exact h
      · rw [List.getElem?_eq_none (by simpa using h)] at hy; cases hy
    rw [List.getElem?_range hjn] at hy
    simp only [Option.some.injEq] at hy
    subst hy
    refine h.cellAt W w0 (b := b) (o := o + j) ?_
    unfold W8.cellAt
    rw [hf]
    exact hfy

/-- The temporaries are just these. -/
def St (ρ : Env) (a : Act) : Prop := a.defers = [] ∧ a.tmps.size = N ∧ ∀ t, a.tmps.getD t undef = ρ t

def setD (ρ : Env) (d : Option Tmp) (v : Value) (K : Env → Prop) : Prop :=
  match d with
  | none => K ρ
  | some t => t < N ∧ K (upd ρ t v)

theorem St.eval {ρ : Env} {a : Act} (h : St N ρ a) : a.eval = ev ρ := by
  funext x
  cases x with
  | tmp t => exact h.2.2 t
  | const v => rfl
  | global g => rfl
  | func f => rfl

theorem St.put {ρ : Env} {a : Act} (h : St N ρ a) {d : Option Tmp} {v : Value} {K : Env → Prop} (hk : setD N ρ d v K) : ∃ ρ', St N ρ' (a.put d v) ∧ K ρ' := by
  cases d with
  | none => exact ⟨ρ, h, hk⟩
  | some t =>
    obtain ⟨ht, hk⟩ := hk
    refine ⟨upd ρ t v, ⟨h.1, by simpa [Act.put] using h.2.1, fun s => ?_⟩, hk⟩
    have h3 := h.2.2 s
    simp only [Act.put, Array.getD_eq_getD_getElem?, Array.getElem?_setIfInBounds, upd] at h3 ⊢
    by_cases hs : s = t
    · subst hs
      rw [if_pos rfl, if_pos rfl, if_pos (by rw [h.2.1]; exact ht)]
      rfl
    · rw [if_neg (fun e => hs e.symm), if_neg hs]
      exact h3

/-- A function that can be entered. -/
def callable (f : FuncId) : Prop := ∀ args w, (callFunc f args).run P w = .ok (.enter f args) w

/-- What a call comes to, from any world that is described so. -/
def ACall (f : FuncId) (args : Array Value) (M : Blks) (R : Value → Blks → Prop) : Prop :=
  callable P f ∧ ∀ w, Own W w0 M w → Calls P f args w fun e w' => ∃ v M', e = .returned v ∧ Own W w0 M' w' ∧ R v M'

theorem ACall.mono {f : FuncId} {args : Array Value} {M : Blks} {R R' : Value → Blks → Prop} (h : ACall P W w0 f args M R) (hr : ∀ v M', R v M' → R' v M') : ACall P W w0 f args M R' :=
  ⟨h.1, fun w hw => (h.2 w hw).mono fun _ _ ⟨v, M', h1, h2, h3⟩ => ⟨v, M', h1, h2, hr v M' h3⟩⟩

def stC (cs : List Value) (o : Nat) : List Value → List Value
  | [v] => cs.set o v
  | vs => splice cs o vs

/-- A slice that is spelled. -/
def bslQ (d : Option Tmp) (T : TypeId) (len : Nat) (parts : List (Nat × Value)) (ρ : Env) (M : Blks) (K : Env → Blks → Prop) : Prop :=
  match slcE P T, slcT P T with
  | some e, some size => match zeroT P e with
    | some zs => (zs.length = size ∧ partsOk size 0 parts ∧ parts.length = len ∧ len * size ≤ 16777216) ∧
        ∀ b, Fresh w0 M b → setD N ρ d (.slice (some ⟨b, 0, none⟩) len len) (K · ((b, partsCells parts) :: M))
    | none => False
  | _, _ => False

/-- A slice that is made. -/
def mksQ (d : Option Tmp) (T : TypeId) (l c : Value) (ρ : Env) (M : Blks) (K : Env → Blks → Prop) : Prop :=
  match slcE P T, slcT P T, l, c with
  | some e, some size, .int _ n, .int _ n' => match zeroT P e with
    | some zs => (n' = n ∧ 0 ≤ n ∧ n ≤ 140737488355328 ∧ (bytesT P e : Int) * n ≤ 140737488355328) ∧
        ∀ b, Fresh w0 M b → setD N ρ d (.slice (some ⟨b, 0, none⟩) n.toNat n.toNat) (K · ((b, (madeCells zs.toArray (n.toNat * size)).toList) :: M))
    | none => False
  | _, _, _, _ => False

/-- Some or none. -/
def appIf (m : Nat) (A B : Prop) : Prop := (0 < m → A) ∧ (m = 0 → B)
theorem appIf_pos {m : Nat} {A B : Prop} (h : 0 < m) : appIf m A B = A := propext ⟨fun hh => hh.1 h, fun a => ⟨fun _ => a, fun e => absurd e (by omega)⟩⟩
theorem appIf_zero {m : Nat} {A B : Prop} (h : m = 0) : appIf m A B = B := propext ⟨fun hh => hh.2 h, fun b => ⟨fun e => absurd e (by omega), fun _ => b⟩⟩
theorem appIf_mono {m : Nat} {A B A' B' : Prop} (h : appIf m A B) (ha : A → A') (hb : B → B') : appIf m A' B' := ⟨fun e => ha (h.1 e), fun e => hb (h.2 e)⟩

/-- A row that the call has made is let grow. -/
def appQ (d : Option Tmp) (T : TypeId) (s x : Value) (ρ : Env) (M : Blks) (K : Env → Blks → Prop) : Prop :=
  match slcE P T, slcT P T, s, x with
  | some e, some size, .slice none n cap, .slice (some ⟨bx, ox, none⟩) m _ => match zeroT P e, cellsAt W w0 M bx ox (m * size) with
    | some zs, some news => (n = 0 ∧ cap = 0) ∧ appIf m ((zs.length = size ∧ m ≤ 140737488355328 ∧ m * bytesT P e ≤ 140737488355328) ∧
        ∀ b cap' rest, Fresh w0 M b → m ≤ cap' → rest.length = (cap' - m) * size → setD N ρ d (.slice (some ⟨b, 0, none⟩) m cap') (K · ((b, news ++ rest) :: M))) (setD N ρ d (.slice none 0 0) (K · M))
    | _, _ => False
  | some _, some _, .slice a n cap, .slice none m _ => (m = 0 ∧ n ≤ cap) ∧ setD N ρ d (.slice a n cap) (K · M)
  | some e, some size, .slice (some ⟨bs, 0, none⟩) n cap, .slice (some ⟨bx, ox, none⟩) m _ => match findB bs M, zeroT P e, cellsAt W w0 M bx ox (m * size) with
    | some cs, some zs, some news => (zs.length = size ∧ cs.length = cap * size ∧ n ≤ cap ∧ Ones news ∧ n + m ≤ 140737488355328 ∧ (n + m) * bytesT P e ≤ 140737488355328) ∧
        ∀ b cap' rest, ((bs ∈ W ∧ b = bs) ∨ Fresh w0 (delB bs M) b) → n + m ≤ cap' → rest.length = (cap' - (n + m)) * size → setD N ρ d (.slice (some ⟨b, 0, none⟩) (n + m) cap') (K · ((b, cs.take (n * size) ++ news ++ rest) :: delB bs M))
    | _, _, _ => False
  | _, _, _, _ => False

/-- As many zeros onto no row. -/
def apzQ (d : Option Tmp) (T : TypeId) (s x : Value) (ρ : Env) (M : Blks) (K : Env → Blks → Prop) : Prop :=
  match slcE P T, slcT P T, s, x with
  | some e, some size, .slice none 0 0, .int _ n => match zeroT P e with
    | some zs => (0 < n ∧ 0 < size ∧ zs.length = size ∧ n ≤ 140737488355328 ∧ (bytesT P e : Int) * n ≤ 140737488355328) ∧
        ∀ b cap' rest, Fresh w0 M b → n.toNat ≤ cap' → rest.length = (cap' - n.toNat) * size → setD N ρ d (.slice (some ⟨b, 0, none⟩) n.toNat cap') (K · ((b, (Builtin.zeroCells zs.toArray n.toNat).toList ++ rest) :: M))
    | none => False
  | _, _, _, _ => False

/-- The bytes of cells. -/
def bytesOf (vs : List Value) : ByteArray := vs.foldl (fun r v => match v with | .int _ n => r.push (UInt8.ofNat n.toNat) | _ => r) ByteArray.empty
def U8s (vs : List Value) : Prop := ∃ l : List Int, vs = l.map (Value.int .u8)

/-- Bytes told as a text. -/
def cvtQ (d : Option Tmp) (op : Op) (ρ : Env) (M : Blks) (K : Env → Blks → Prop) : Prop :=
  match op with
  | .convert s t x => match strT P t, slcE P s, ev ρ x with
    | true, some e, .slice none _ _ => intT P e = some .u8 ∧ setD N ρ d (.string ByteArray.empty) (K · M)
    | true, some e, .slice (some ⟨b, o, none⟩) n _ => match cellsAt W w0 M b o n with
      | some vs => (intT P e = some .u8 ∧ U8s vs) ∧ setD N ρ d (.string (bytesOf vs)) (K · M)
      | none => False
    | _, _, _ => False
  | _ => False

/-- The room of a slice. -/
def capV (T : TypeId) (x : Value) : Out :=
  match x with
  | .slice _ _ c => match slcE P T with | some _ => some (True, .int .i64 c) | none => none
  | _ => none

/-- What is asked at an operation, that what follows may be asked. -/
def evOp (o : Oper) (ρ : Env) (M : Blks) (K : Env → Blks → Prop) : Prop :=
  match o.op with
  | .load T x =>
    match ev ρ x, ldT P T with
    | .pointer (some ⟨b, off, none⟩), some none => match cellAt W w0 M b off with | some v => setD N ρ o.dst v (K · M) | none => False
    | .pointer (some ⟨b, off, none⟩), some (some n) => match cellsAt W w0 M b off n with | some vs => setD N ρ o.dst (.agg vs.toArray) (K · M) | none => False
    | _, _ => False
  | .store T x y =>
    match ev ρ x, stT P T, o.dst with
    | .pointer (some ⟨b, off, none⟩), some n, none =>
      match findB b M with
      | some cs => ((ev ρ y).cells.size = n ∧ off + n ≤ cs.length ∧ Ones (ev ρ y).cells.toList) ∧ K ρ (setB b (stC cs off (ev ρ y).cells.toList) M)
      | none => False
    | _, _, _ => False
  | .alloc T => match zeroT P T with
    | some zs => ∀ b, Fresh w0 M b → setD N ρ o.dst (.pointer (some ⟨b, 0, none⟩)) (K · ((b, zs) :: M))
    | none => False
  | .box _ x => ∀ b, Fresh w0 M b → setD N ρ o.dst (.pointer (some ⟨b, 0, none⟩)) (K · ((b, (ev ρ x).cells.toList) :: M))
  | .buildSlice T len parts => bslQ P N w0 o.dst T len (parts.toList.map (evP ρ)) ρ M K
  | .makeSlice T l c => mksQ P N w0 o.dst T (ev ρ l) (ev ρ c) ρ M K
  | .call c =>
    match c.callee with
    | .value f => match ev ρ f with
      | .func (.func n) first captured => ACall P W w0 n (first.toList ++ (c.args.toList.map (ev ρ) ++ captured.toList)).toArray M fun v M' => setD N ρ o.dst v (K · M')
      | _ => False
    | .builtin .len => match c.args[0]?, c.argTypes[0]?, c.args.size with
      | some x, some T, 1 => match lenV P T (ev ρ x) with | some (p, v) => p ∧ setD N ρ o.dst v (K · M) | none => False
      | _, _, _ => False
    | .builtin .min => match c.args[0]?, c.args[1]?, c.args.size with
      | some x, some y, 2 => match minV (ev ρ x) (ev ρ y) with | some (p, v) => p ∧ setD N ρ o.dst v (K · M) | none => False
      | _, _, _ => False
    | .builtin .max => match c.args[0]?, c.args[1]?, c.args.size with
      | some x, some y, 2 => match maxV (ev ρ x) (ev ρ y) with | some (p, v) => p ∧ setD N ρ o.dst v (K · M) | none => False
      | _, _, _ => False
    | .builtin .cap => match c.args[0]?, c.argTypes[0]?, c.args.size with
      | some x, some T, 1 => match capV P T (ev ρ x) with | some (p, v) => p ∧ setD N ρ o.dst v (K · M) | none => False
      | _, _, _ => False
    | .builtin .append => match c.args.toList, c.argTypes.toList with
      | [s, x], [T, T'] => match (if T' = T then none else intT P T') with
        | none => T' = T ∧ appQ P N W w0 o.dst T (ev ρ s) (ev ρ x) ρ M K
        | some _ => apzQ P N w0 o.dst T (ev ρ s) (ev ρ x) ρ M K
      | _, _ => False
    | _ => False
  | op => match pureOp P ρ op with
    | some (c, v) => c ∧ setD N ρ o.dst v (K · M)
    | none => cvtQ P N W w0 o.dst op ρ M K

/-- Whatever is known of the operation's own run. -/
def Goes (o : Oper) (ρ : Env) (M : Blks) (K : Env → Blks → Prop) : Prop :=
  ∀ a w (next : Act → World → Prop) (Q : Exit → Act → World → Prop), St N ρ a → Own W w0 M w → (∀ ρ' M' a' w', K ρ' M' → St N ρ' a' → Own W w0 M' w' → next a' w') → o.wp P a w next Q

theorem run_store_own {M : Blks} {w : World} (h : Own W w0 M w) {b off : Nat} {cs vs : List Value} (hf : findB b M = some cs) (hl : off + vs.length ≤ cs.length) (h1 : ∀ v ∈ vs, v.oneCell' = true) :
    ∃ w', (storeCells ⟨b, off, none⟩ vs 0).run P w = .ok () w' ∧ Own W w0 (setB b (stC cs off vs) M) w' := by
  obtain ⟨t, ht⟩ := h.blk _ (findB_mem hf)
  have hr := run_storeCells_at (P := P) b off t vs 0 cs.toArray w ht (by simpa using hl) h1
  refine ⟨_, hr, ?_⟩
  have hst : stC cs off vs = splice cs off vs := by
    unfold stC
    split
    · rename_i v
      have h4 : off < cs.length := by simp at hl; omega
      have := splice_cons (cs := cs) (vs := []) (off := off) (v := v) (by simp; omega)
      rw [← this]
      simp [splice]
    · rfl
  refine h.put hf rfl rfl rfl (setRow_size _ _ _) ?_ (fun k hk => setRow_other _ _ _ _ hk)
  intro t' ht'
  rw [hst]
  have e1 : (cs.toArray.toList.take (off + 0) ++ vs ++ cs.toArray.toList.drop (off + 0 + vs.length)) = splice cs off vs := by simp [splice]
  rw [e1]
  exact setRow_heap w b cs.toArray _ t' (0, 0) ht'

theorem goes_of_value {o : Oper} {ρ : Env} {M : Blks} {K : Env → Blks → Prop} {v : Value} (hr : ∀ w, Own W w0 M w → (execOp (ev ρ) o).run P w = .ok (.value v) w) (hk : setD N ρ o.dst v (K · M)) : Goes P N W w0 o ρ M K := by
  intro a w next Q ha hw hn
  unfold Oper.wp
  rw [ha.eval, hr w hw]
  obtain ⟨ρ', h1, h2⟩ := ha.put N hk
  exact hn ρ' M _ _ h2 h1 hw

theorem run_storeVar {T : TypeId} {n : Nat} (h : stT P T = some n) (a : Addr) (v : Value) (hn : v.cells.size = n) (w : World) : (storeVar T a v).run P w = (storeCells a v.cells.toList).run P w := by
  unfold stT at h
  split at h
  · rename_i hh
    simp only [Option.some.injEq] at h
    subst h
    unfold storeVar
    simp [run_sizeOf P hh, hn]
  · cases h

theorem run_zeroValue {T : TypeId} {zs : List Value} (h : zeroT P T = some zs) (w : World) : ∃ z, (zeroValue T).run P w = .ok z w ∧ z.cells.toList = zs := by
  unfold zeroT at h
  cases hi : P.info? T with
  | none => simp [hi] at h
  | some i =>
    cases hz : i.zero with
    | none => simp [hi, hz] at h
    | some z =>
      simp [hi, hz] at h
      exact ⟨z, by simp [zeroValue, typeInfo, hi, hz], h⟩

theorem goes_bsl {o : Oper} {T : TypeId} {len : Nat} {parts : Array (Nat × Operand)} {ρ : Env} {M : Blks} {K : Env → Blks → Prop} (hop : o.op = .buildSlice T len parts) (h : bslQ P N w0 o.dst T len (parts.toList.map (evP ρ)) ρ M K) : Goes P N W w0 o ρ M K := by
  unfold bslQ at h
  split at h
  case h_2 => exact h.elim
  rename_i e size he hs
  split at h
  case h_2 => exact h.elim
  rename_i zs hz
  obtain ⟨⟨h1, h2, h3, h4⟩, hk⟩ := h
  intro a w next Q ha hw hn
  have hr := run_bsl P he hs hz h1 (parts := parts.map (evP ρ)) (len := len) (by simpa using h2) (by simpa using h3) h4 w
  have hr' := hr
  unfold evP at hr'
  obtain ⟨hf, hw'⟩ := hw.push (partsCells (parts.map (evP ρ)).toList) e
  obtain ⟨ρ', h5, h6⟩ := ha.put N (hk w.heap.size hf)
  unfold Oper.wp execOp
  simp only [ha.eval, hop, Sem.run_bind, hr', Result.andThen_ok, Sem.run_pure, Oper.upon]
  have e1 : partsCells (parts.map (evP ρ)).toList = partsCells (parts.toList.map (evP ρ)) := by simp
  have e2 : (Array.map (fun x => (x.fst, ev ρ x.snd)) parts) = parts.map (evP ρ) := rfl
  rw [e2, e1]
  rw [e1] at hw'
  exact hn ρ' _ _ _ h6 h5 hw'

theorem goes_mks {o : Oper} {T : TypeId} {l c : Operand} {ρ : Env} {M : Blks} {K : Env → Blks → Prop} (hop : o.op = .makeSlice T l c) (h : mksQ P N w0 o.dst T (ev ρ l) (ev ρ c) ρ M K) : Goes P N W w0 o ρ M K := by
  unfold mksQ at h
  split at h
  case h_2 => exact h.elim
  rename_i e size k n k' n' he hs hl hc
  split at h
  case h_2 => exact h.elim
  rename_i zs hz
  obtain ⟨⟨rfl, h2, h3, h4⟩, hk⟩ := h
  obtain ⟨m, rfl⟩ : ∃ m : Nat, n' = (m : Int) := ⟨n'.toNat, by omega⟩
  intro a w next Q ha hw hn
  obtain ⟨cs, hr, rfl⟩ := run_mks P he hs hz k k' m (by rw [← Int.natCast_mul] at h4; omega) (by simp only [maxLen]; omega) w
  rw [Int.toNat_natCast] at hk
  obtain ⟨hf, hw'⟩ := hw.push (madeCells zs.toArray (m * size)).toList e
  obtain ⟨ρ', h5, h6⟩ := ha.put N (hk w.heap.size hf)
  unfold Oper.wp execOp
  simp only [ha.eval, hop, hl, hc, Sem.run_bind, hr, Result.andThen_ok, Sem.run_pure, Oper.upon]
  exact hn ρ' _ _ _ h6 h5 hw'

theorem goes_app {o : Oper} {T : TypeId} {c : Call} {s x : Operand} {ρ : Env} {M : Blks} {K : Env → Blks → Prop} (hop : o.op = .call c) (hc : c.callee = .builtin .append) (ha0 : c.args = #[s, x]) (ht0 : c.argTypes = #[T, T])
    (h : appQ P N W w0 o.dst T (ev ρ s) (ev ρ x) ρ M K) : Goes P N W w0 o ρ M K := by
  unfold appQ at h
  split at h
  · rename_i e size n cap bx ox m cx he hs hsv hxv
    split at h
    case h_2 => exact h.elim
    rename_i zs news hz hnews
    obtain ⟨⟨rfl, rfl⟩, hpos, hzero⟩ := h
    rcases Nat.eq_zero_or_pos m with rfl | h2
    · have hk := hzero rfl
      intro ac w next Q ha hw hnx
      have hr : (Builtin.append_ #[T, T] o.type #[.slice none 0 0, .slice (some ⟨bx, ox, none⟩) 0 cx]).run P w = .ok (.slice none 0 0) w := by
        have hu : P.underlying T = some (.slice e) := by unfold slcE at he; split at he <;> simp_all
        have hi : (P.info? e).isSome = true := by
          unfold slcT at hs
          rw [hu] at hs
          simp only at hs
          split at hs
          · rename_i hh; exact hh
          · cases hs
        obtain ⟨i, hi⟩ := Option.isSome_iff_exists.1 hi
        simp [Builtin.append_, run_underlying hu, sizeOf, typeInfo, hi, Builtin.lenOf, Builtin.firstCells, loadCells, loadCellsFrom]
      obtain ⟨ρ', h5, h6⟩ := ha.put N hk
      unfold Oper.wp execOp
      simp only [ha.eval, hop, resolve, hc, ha0, ht0, Sem.run_bind, Sem.run_pure, Result.andThen_ok, invoke, builtin, List.map_toArray, List.map_cons, List.map_nil, hsv, hxv, hr, Oper.upon]
      exact hnx ρ' _ _ _ h6 h5 hw
    obtain ⟨⟨h1, h3, h4⟩, hk⟩ := hpos h2
    intro a w next Q ha hw hn
    obtain ⟨hnl, hcell⟩ := hw.cellsAt W w0 hnews
    obtain ⟨b', cap', rest, w', hr, hf, hcap, hrest, hw'⟩ := run_app_nil P hw (ty := o.type) he hs hz h1 (a := ⟨bx, ox, none⟩) (c := cx) h2 hnl (by intro j u hu; rw [Addr.add_lit]; exact hcell j u hu) (by simp only [maxLen]; omega) h4
    obtain ⟨ρ', h5, h6⟩ := ha.put N (hk b' cap' rest hf hcap hrest)
    unfold Oper.wp execOp
    simp only [ha.eval, hop, resolve, hc, ha0, ht0, Sem.run_bind, Sem.run_pure, Result.andThen_ok, invoke, builtin, List.map_toArray, List.map_cons, List.map_nil, hsv, hxv, hr, Oper.upon]
    exact hn ρ' _ _ _ h6 h5 hw'
  · rename_i e size a n cap m cx he hs hsv hxv
    obtain ⟨⟨rfl, hn⟩, hk⟩ := h
    intro ac w next Q ha hw hnx
    have hr : (Builtin.append_ #[T, T] o.type #[.slice a n cap, .slice none 0 cx]).run P w = .ok (.slice a n cap) w := by
      have hu : P.underlying T = some (.slice e) := by unfold slcE at he; split at he <;> simp_all
      have hi : (P.info? e).isSome = true := by
        unfold slcT at hs
        rw [hu] at hs
        simp only at hs
        split at hs
        · rename_i hh; exact hh
        · cases hs
      obtain ⟨i, hi⟩ := Option.isSome_iff_exists.1 hi
      cases a with
      | none => simp [Builtin.append_, run_underlying hu, sizeOf, typeInfo, hi, Builtin.lenOf, hn, Builtin.firstCells]
      | some a => simp [Builtin.append_, run_underlying hu, sizeOf, typeInfo, hi, Builtin.lenOf, hn, Builtin.firstCells, storeCells]
    obtain ⟨ρ', h5, h6⟩ := ha.put N hk
    unfold Oper.wp execOp
    simp only [ha.eval, hop, resolve, hc, ha0, ht0, Sem.run_bind, Sem.run_pure, Result.andThen_ok, invoke, builtin, List.map_toArray, List.map_cons, List.map_nil, hsv, hxv, hr, Oper.upon]
    exact hnx ρ' _ _ _ h6 h5 hw
  · rename_i e size bs n cap bx ox m cx he hs hsv hxv
    split at h
    case h_2 => exact h.elim
    rename_i cs zs news hf0 hz hnews
    obtain ⟨⟨h1, h2, h3, h3', h4, h4'⟩, hk⟩ := h
    intro a w next Q ha hw hn
    obtain ⟨hnl, hcell⟩ := hw.cellsAt W w0 hnews
    obtain ⟨b', cap', rest, w', hr, hf, hcap, hrest, hw'⟩ := run_app P hw (ty := o.type) he hs hz h1 (a := ⟨bx, ox, none⟩) (c := cx) hf0 h2 h3 hnl (by intro j u hu; rw [Addr.add_lit]; exact hcell j u hu) h3' (by simp only [maxLen]; omega) h4'
    obtain ⟨ρ', h5, h6⟩ := ha.put N (hk b' cap' rest hf hcap hrest)
    unfold Oper.wp execOp
    simp only [ha.eval, hop, resolve, hc, ha0, ht0, Sem.run_bind, Sem.run_pure, Result.andThen_ok, invoke, builtin, List.map_toArray, List.map_cons, List.map_nil, hsv, hxv, hr, Oper.upon]
    exact hn ρ' _ _ _ h6 h5 hw'
  · exact h.elim

theorem goes_apz {o : Oper} {T T' : TypeId} {k : IntKind} {c : Call} {s x : Operand} {ρ : Env} {M : Blks} {K : Env → Blks → Prop} (hop : o.op = .call c) (hc : c.callee = .builtin .append) (ha0 : c.args = #[s, x]) (ht0 : c.argTypes = #[T, T']) (hT' : intT P T' = some k)
    (h : apzQ P N w0 o.dst T (ev ρ s) (ev ρ x) ρ M K) : Goes P N W w0 o ρ M K := by
  unfold apzQ at h
  split at h
  case h_2 => exact h.elim
  rename_i e size kx n he hs hsv hxv
  split at h
  case h_2 => exact h.elim
  rename_i zs hz
  obtain ⟨⟨h1, h2, h3, h4, h4'⟩, hk⟩ := h
  obtain ⟨m, rfl⟩ : ∃ m : Nat, n = (m : Int) := ⟨n.toNat, by omega⟩
  rw [Int.toNat_natCast] at hk
  intro a w next Q ha hw hn
  obtain ⟨i, z, hu, hi, hzz, hzc, hsz, hby⟩ := slice_facts P he hs hz
  subst hsz
  have hut : P.underlying T' = some (.int k) := by unfold intT at hT'; split at hT' <;> simp_all
  have hr := Lib.run_append_nil_zeros (P := P) w T T' o.type e i z kx k hu hut hi hzz m (by omega) h2 (by omega) (by rw [hby]; rw [← Int.natCast_mul] at h4'; rw [Nat.mul_comm]; omega)
  have hzz2 : z.cells = zs.toArray := Array.toList_inj.1 (by simpa using hzc)
  rw [hzz2] at hr
  obtain ⟨hf, hw'⟩ := hw.drawn.push ((Builtin.zeroCells zs.toArray m).toList ++ (Builtin.zeroCells zs.toArray (grownCap w m 0 e - m)).toList) e
  have e1 : (Builtin.zeroCells zs.toArray m ++ Builtin.zeroCells zs.toArray (grownCap w m 0 e - m)) = ((Builtin.zeroCells zs.toArray m).toList ++ (Builtin.zeroCells zs.toArray (grownCap w m 0 e - m)).toList).toArray := by
    apply Array.toList_inj.1
    simp
  rw [e1] at hr
  obtain ⟨ρ', h5, h6⟩ := ha.put N (hk w.heap.size (grownCap w m 0 e) (Builtin.zeroCells zs.toArray (grownCap w m 0 e - m)).toList hf (grownCap_ge ..) (by rw [Array.length_toList, size_zeroCells, List.size_toArray, h3]))
  unfold Oper.wp execOp
  simp only [ha.eval, hop, resolve, hc, ha0, ht0, Sem.run_bind, Sem.run_pure, Result.andThen_ok, invoke, builtin, List.map_toArray, List.map_cons, List.map_nil, hsv, hxv, hr, Oper.upon]
  exact hn ρ' _ _ _ h6 h5 hw'

theorem run_capV {T ty : TypeId} {ts : Array TypeId} {x : Value} {c : Prop} {v : Value} (w : World) (ht : ts[0]? = some T) (h : capV P T x = some (c, v)) :
    (Builtin.cap_ ts ty #[x]).run P w = .ok v w := by
  have h0 : (#[x] : Array Value)[0]? = some x := rfl
  unfold capV at h
  split at h
  · rename_i a n cp
    split at h
    · rename_i e he
      have hu : P.underlying T = some (.slice e) := by unfold slcE at he; split at he <;> simp_all
      simp only [Option.some.injEq, Prod.mk.injEq] at h
      obtain ⟨_, rfl⟩ := h
      simp [Builtin.cap_, ht, run_underlying hu, goInt]
    · cases h
  · cases h

theorem bytesOf_ints : ∀ (l : List Int) (s : ByteArray), (l.map (Value.int .u8)).foldl (fun r v => match v with | .int _ n => r.push (UInt8.ofNat n.toNat) | _ => r) s = l.foldl (fun r n => r.push (UInt8.ofNat n.toNat)) s
  | [], _ => rfl
  | a :: l, s => bytesOf_ints l _

theorem goes_cvt {o : Oper} {ρ : Env} {M : Blks} {K : Env → Blks → Prop} (h : cvtQ P N W w0 o.dst o.op ρ M K) : Goes P N W w0 o ρ M K := by
  unfold cvtQ at h
  split at h
  case h_2 => exact h.elim
  rename_i s t x hop
  split at h
  · rename_i e n c ht he hx
    obtain ⟨hu8, hk⟩ := h
    have hus : P.underlying s = some (.slice e) := by unfold slcE at he; split at he <;> simp_all
    have hut := strT_spec P ht
    have hue : P.underlying e = some (.int .u8) := by unfold intT at hu8; split at hu8 <;> simp_all
    refine goes_of_value P N W w0 (fun w hw => ?_) hk
    unfold execOp
    simp only [hop, hx, Sem.run_bind, run_convert_bytes_string w s t e _ _ _ hus hue hut]
    rfl
  · rename_i e b off n c ht he hx
    split at h
    case h_2 => exact h.elim
    rename_i vs hv
    obtain ⟨⟨hu8, l, rfl⟩, hk⟩ := h
    have hus : P.underlying s = some (.slice e) := by unfold slcE at he; split at he <;> simp_all
    have hut := strT_spec P ht
    have hue : P.underlying e = some (.int .u8) := by unfold intT at hu8; split at hu8 <;> simp_all
    refine goes_of_value P N W w0 (fun w hw => ?_) hk
    obtain ⟨h1, h2⟩ := hw.cellsAt W w0 hv
    have hl : (loadCells ⟨b, off, none⟩ n).run P w = .ok (l.map (Value.int .u8)).toArray w := by
      rw [← h1]
      exact run_loadCells_list (P := P) w ⟨b, off, none⟩ _ (fun j v hj => by rw [add_none]; exact h2 j v hj)
    unfold execOp
    simp only [hop, hx, Sem.run_bind, run_convert_bytes_string w s t e _ _ _ hus hue hut, run_bytesToString w _ _ _ _ hl, Result.andThen_ok, Sem.run_pure]
    unfold bytesOf
    rw [bytesOf_ints]
  · exact h.elim

theorem evOp_goes {o : Oper} {ρ : Env} {M : Blks} {K : Env → Blks → Prop} (h : evOp P N W w0 o ρ M K) : Goes P N W w0 o ρ M K := by
  unfold evOp at h
  split at h
  · rename_i T x hop
    split at h
    · rename_i b off hx hT
      split at h
      case h_2 => exact h.elim
      rename_i v hv
      have hk := h
      refine goes_of_value P N W w0 (fun w hw => ?_) hk
      unfold execOp
      simp only [hop, Instr.loadAt, hx, Instr.sureAddr, Sem.run_bind, Sem.run_pure, Result.andThen_ok, (ldT_one P hT _).2 w v (hw.cellAt W w0 hv)]
    · rename_i b off n hx hT
      split at h
      case h_2 => exact h.elim
      rename_i vs hv
      have hk := h
      refine goes_of_value P N W w0 (fun w hw => ?_) hk
      obtain ⟨h1, h2⟩ := hw.cellsAt W w0 hv
      unfold execOp
      simp only [hop, Instr.loadAt, hx, Instr.sureAddr, Sem.run_bind, Sem.run_pure, Result.andThen_ok, ldT_many P hT b off vs h1 w h2]
    · exact h.elim
  · rename_i T x y hop
    split at h
    · rename_i b off n hx hT hd
      split at h
      case h_2 => exact h.elim
      rename_i cs hf
      obtain ⟨⟨h1, h2, h3⟩, hk⟩ := h
      intro a w next Q ha hw hn
      have hy : (ev ρ y).cells.toList.length = n := by rw [Array.length_toList]; exact h1
      obtain ⟨w', hr, hw'⟩ := run_store_own P W w0 hw hf (by rw [hy]; exact h2) h3
      unfold Oper.wp execOp
      simp only [ha.eval, hop, Instr.storeAt, hx, Instr.sureAddr, Sem.run_bind, Sem.run_pure, Result.andThen_ok, run_storeVar P hT _ _ h1, hr]
      simp only [Oper.upon, hd, Act.put]
      exact hn ρ _ a w' hk ha hw'
    · exact h.elim
  · rename_i T hop
    split at h
    · rename_i zs hz
      intro a w next Q ha hw hn
      obtain ⟨z, hz1, hz2⟩ := run_zeroValue P hz w
      obtain ⟨hf, hw'⟩ := hw.push zs T
      obtain ⟨ρ', h1, h2⟩ := ha.put N (h w.heap.size hf)
      unfold Oper.wp execOp
      simp only [hop, Instr.alloc, Sem.run_bind, hz1, Result.andThen_ok, newVar, newRow, run_newObj, Sem.run_pure, Oper.upon]
      subst hz2
      exact hn ρ' _ _ _ h2 h1 hw'
    · exact h.elim
  · rename_i T x hop
    intro a w next Q ha hw hn
    obtain ⟨hf, hw'⟩ := hw.push (ev ρ x).cells.toList T
    obtain ⟨ρ', h1, h2⟩ := ha.put N (h w.heap.size hf)
    unfold Oper.wp execOp
    simp only [ha.eval, hop, Instr.box, Sem.run_bind, Result.andThen_ok, newVar, newRow, run_newObj, Sem.run_pure, Oper.upon]
    exact hn ρ' _ _ _ h2 h1 hw'
  · rename_i T len parts hop
    exact goes_bsl P N W w0 hop h
  · rename_i T l c hop
    exact goes_mks P N W w0 hop h
  · rename_i c hop
    split at h
    · rename_i f hc
      split at h
      · rename_i n first captured hf
        intro a w next Q ha hw hn
        unfold Oper.wp execOp
        have he : ∀ args w, (callFunc n args).run P w = .ok (.enter n args) w := h.1
        simp only [ha.eval, hop, resolve, hc, hf, Deferred.ofValue, Sem.run_bind, Sem.run_pure, Result.andThen_ok, invoke, he]
        simp only [Oper.upon]
        have hargs : first ++ Array.map (ev ρ) c.args ++ captured = (first.toList ++ (c.args.toList.map (ev ρ) ++ captured.toList)).toArray := by
          apply Array.toList_inj.1; simp
        rw [hargs]
        refine (h.2 w hw).mono ?_
        rintro e w' ⟨v, M', rfl, hw', hk⟩
        obtain ⟨ρ', h1, h2⟩ := ha.put N hk
        exact hn ρ' M' _ _ h2 h1 hw'
      · exact h.elim
    · rename_i hc
      split at h
      · rename_i x T h0 h1 h2
        split at h
        · rename_i p v hl
          refine goes_of_value P N W w0 (fun w hw => ?_) h.2
          have hargs : c.args = #[x] := by
            apply Array.ext
            · simpa using h2
            · intro i hi1 hi2
              have : i = 0 := by simp at hi2; omega
              subst this
              rw [Array.getElem?_eq_getElem hi1] at h0
              simpa using h0
          unfold execOp
          simp only [hop, resolve, hc, Sem.run_bind, Sem.run_pure, Result.andThen_ok, invoke, builtin, hargs, List.map_toArray, List.map_cons, List.map_nil, run_lenV P w h1 hl]
        · exact h.elim
      · exact h.elim
    · rename_i hc
      split at h
      · rename_i x y h0 h1 h2
        split at h
        · rename_i p v hl
          refine goes_of_value P N W w0 (fun w hw => ?_) h.2
          have hargs : c.args = #[x, y] := by
            apply Array.ext
            · simpa using h2
            · intro i hi1 hi2
              have : i = 0 ∨ i = 1 := by simp at hi2; omega
              rcases this with rfl | rfl
              · rw [Array.getElem?_eq_getElem hi1] at h0; simpa using h0
              · rw [Array.getElem?_eq_getElem hi1] at h1; simpa using h1
          unfold minV at hl
          split at hl <;> simp only [Option.some.injEq, Prod.mk.injEq, reduceCtorEq] at hl
          rename_i k m k' m' hx hy
          obtain ⟨_, rfl⟩ := hl
          unfold execOp
          simp [hop, resolve, hc, invoke, builtin, hargs, Builtin.min_, Builtin.min2, hx, hy]
        · exact h.elim
      · exact h.elim
    · rename_i hc
      split at h
      · rename_i x y h0 h1 h2
        split at h
        · rename_i p v hl
          refine goes_of_value P N W w0 (fun w hw => ?_) h.2
          have hargs : c.args = #[x, y] := by
            apply Array.ext
            · simpa using h2
            · intro i hi1 hi2
              have : i = 0 ∨ i = 1 := by simp at hi2; omega
              rcases this with rfl | rfl
              · rw [Array.getElem?_eq_getElem hi1] at h0; simpa using h0
              · rw [Array.getElem?_eq_getElem hi1] at h1; simpa using h1
          unfold maxV at hl
          split at hl <;> simp only [Option.some.injEq, Prod.mk.injEq, reduceCtorEq] at hl
          rename_i k m k' m' hx hy
          obtain ⟨_, rfl⟩ := hl
          unfold execOp
          simp [hop, resolve, hc, invoke, builtin, hargs, Builtin.max_, Builtin.max2, hx, hy]
        · exact h.elim
      · exact h.elim
    · rename_i hc
      split at h
      · rename_i x T h0 h1 h2
        split at h
        · rename_i p v hl
          refine goes_of_value P N W w0 (fun w hw => ?_) h.2
          have hargs : c.args = #[x] := by
            apply Array.ext
            · simpa using h2
            · intro i hi1 hi2
              have : i = 0 := by simp at hi2; omega
              subst this
              rw [Array.getElem?_eq_getElem hi1] at h0
              simpa using h0
          unfold execOp
          simp only [hop, resolve, hc, Sem.run_bind, Sem.run_pure, Result.andThen_ok, invoke, builtin, hargs, List.map_toArray, List.map_cons, List.map_nil, run_capV P w h1 hl]
        · exact h.elim
      · exact h.elim
    · rename_i hc
      split at h
      · rename_i s x T T' ha0 ht0
        split at h
        · obtain ⟨rfl, h⟩ := h
          exact goes_app P N W w0 hop hc (Array.toList_inj.1 (by simpa using ha0)) (Array.toList_inj.1 (by simpa using ht0)) h
        · rename_i k hk
          split at hk
          · cases hk
          · exact goes_apz P N W w0 hop hc (Array.toList_inj.1 (by simpa using ha0)) (Array.toList_inj.1 (by simpa using ht0)) hk h
      · exact h.elim
    · exact h.elim
  · split at h
    · rename_i c v hp
      exact goes_of_value P N W w0 (fun w _ => run_pureOp P w hp h.1) h.2
    · exact goes_cvt P N W w0 h

end
end Go.W8

/-
  The walk over code: lists of operations with guards, branches, blocks, loops, a function's begin and end. Nothing here is about one program. Conditions: none.
-/
namespace Go.W8

section
variable (P : Program) (N : Nat) (W : List Nat) (w0 : World)

def gate : Value → Option Bool
  | .bool b => some b
  | _ => none

/-- What is asked at an operation with a guard: of either case. -/
def guardQ (b want : Bool) (A B : Prop) : Prop := (b = want → A) ∧ (b = !want → B)

def evOps (ops : Array Oper) : List Oper → Env → Blks → (Env → Blks → Prop) → Prop
  | [], ρ, M, K => K ρ M
  | o :: rest, ρ, M, K =>
    match o.guard with
    | none => evOp P N W w0 o ρ M fun ρ' M' => evOps ops rest ρ' M' K
    | some (j, want) => match (ops[j]?).bind (·.dst) with
      | none => False
      | some d => match gate (ρ d) with
        | none => setD N ρ o.dst undef fun ρ' => evOps ops rest ρ' M K
        | some b => guardQ b want (evOp P N W w0 o (upd ρ d (.bool want)) M fun ρ' M' => evOps ops rest ρ' M' K) (setD N (upd ρ d (.bool (!want))) o.dst undef fun ρ' => evOps ops rest ρ' M K)

theorem upd_gate {ρ : Env} {d : Nat} {b : Bool} (h : gate (ρ d) = some b) : upd ρ d (.bool b) = ρ := by
  funext s
  unfold upd
  split
  · rename_i e
    subst e
    generalize ρ s = v at h ⊢
    cases v <;> simp only [gate, Option.some.injEq, reduceCtorEq] at h
    rw [h]
  · rfl

theorem St.wanted {ρ : Env} {a : Act} (h : St N ρ a) {ops : Array Oper} {o : Oper} {j d : Nat} {want : Bool} (hg : o.guard = some (j, want)) (hd : (ops[j]?).bind (·.dst) = some d) :
    Region.wanted o (yielded ops a.tmps) = (gate (ρ d) == some want) := by
  unfold Region.wanted yielded
  simp only [hg, hd, Option.bind_some]
  have h2 := h.2.2 d
  rw [Array.getD_eq_getD_getElem?] at h2
  cases ht : a.tmps[d]? with
  | none =>
    rw [ht] at h2
    simp only [Option.getD_none] at h2
    rw [← h2]
    rfl
  | some v =>
    rw [ht] at h2
    simp only [Option.getD_some] at h2
    rw [← h2]
    cases v <;> rfl

theorem wpList_of {ops : Array Oper} {Q : Exit → Act → World → Prop} : ∀ (l : List Oper) (ρ : Env) (M : Blks) (K : Env → Blks → Prop) (a : Act) (w : World), evOps P N W w0 ops l ρ M K → St N ρ a → Own W w0 M w →
    (∀ ρ' M' a' w', K ρ' M' → St N ρ' a' → Own W w0 M' w' → Q .normal a' w') → wpList P ops Q l a w
  | [], ρ, M, K, a, w, h, ha, hw, hq => hq ρ M a w h ha hw
  | o :: rest, ρ, M, K, a, w, h, ha, hw, hq => by
    have go : ∀ (hh : evOp P N W w0 o ρ M fun ρ' M' => evOps P N W w0 ops rest ρ' M' K), o.wp P a w (wpList P ops Q rest) Q := fun hh =>
      evOp_goes P N W w0 hh a w _ Q ha hw fun ρ' M' a' w' hk ha' hw' => wpList_of rest ρ' M' K a' w' hk ha' hw' hq
    have skip : ∀ (hh : setD N ρ o.dst undef fun ρ' => evOps P N W w0 ops rest ρ' M K), wpList P ops Q rest (a.put o.dst undef) w := fun hh => by
      obtain ⟨ρ', h1, h2⟩ := ha.put N hh
      exact wpList_of rest ρ' M K _ w h2 h1 hw hq
    unfold evOps at h
    unfold wpList
    split at h
    · rename_i hg
      rw [if_pos (by unfold Region.wanted; rw [hg])]
      exact .inl (go h)
    · rename_i j want hg
      split at h
      · exact h.elim
      · rename_i d hd
        rw [St.wanted N ha hg hd]
        split at h
        · rename_i hn
          rw [hn, if_neg (by simp)]
          exact skip h
        · rename_i b hb
          rw [hb]
          by_cases hbw : b = want
          · rw [if_pos (by simp [hbw])]
            subst hbw
            have h1 := h.1 rfl
            rw [upd_gate hb] at h1
            exact .inl (go h1)
          · rw [if_neg (by simpa using hbw)]
            have hnb : b = !want := by cases b <;> cases want <;> simp_all
            have h2 := h.2 hnb
            rw [← hnb, upd_gate hb] at h2
            exact skip h2

/-- What has to be shown of a piece of code. -/
def Cd (c : Code) (Q : Exit → Env → Blks → Prop) (ρ : Env) (M : Blks) : Prop :=
  ∀ a w, St N ρ a → Own W w0 M w → c.wp P (fun e a' w' => ∃ ρ' M', Q e ρ' M' ∧ St N ρ' a' ∧ Own W w0 M' w') a w

/-- What is asked ahead of a piece of code. -/
def thenQ (y : Code) (Q : Exit → Env → Blks → Prop) : Exit → Env → Blks → Prop
  | .normal, ρ, M => Cd P N W w0 y Q ρ M
  | e, ρ, M => Q e ρ M

/-- What is asked at a round's end. -/
def roundQ (I : Nat → Env → Blks → Prop) (n : Nat) (Q : Exit → Env → Blks → Prop) : Exit → Env → Blks → Prop
  | .normal, ρ, M => ∃ m, m < n ∧ I m ρ M
  | e, ρ, M => Q e ρ M

def inB (id : Nat) (Q : Exit → Env → Blks → Prop) : Exit → Env → Blks → Prop
  | .exit id', ρ, M => if id' = id then Q .normal ρ M else Q (.exit id') ρ M
  | e, ρ, M => Q e ρ M

variable {P N W w0}
variable {Q : Exit → Env → Blks → Prop} {ρ : Env} {M : Blks}

theorem Cd.mono {c : Code} {Q' : Exit → Env → Blks → Prop} (h : Cd P N W w0 c Q ρ M) (hq : ∀ e ρ M, Q e ρ M → Q' e ρ M) : Cd P N W w0 c Q' ρ M :=
  fun a w ha hw => wp_mono (h a w ha hw) fun e _ _ ⟨ρ', M', h1, h2⟩ => ⟨ρ', M', hq e ρ' M' h1, h2⟩

theorem Cd.drop {c : Code} {M' : Blks} (hs : M'.Sublist M) (h : Cd P N W w0 c Q ρ M') : Cd P N W w0 c Q ρ M := fun a w ha hw => h a w ha (hw.sub hs)

theorem Cd.skip (h : Q .normal ρ M) : Cd P N W w0 .skip Q ρ M := fun _ _ ha hw => wp_skip ⟨ρ, M, h, ha, hw⟩
theorem Cd.label {l : Nat} (h : Q .normal ρ M) : Cd P N W w0 (.label l) Q ρ M := fun _ _ ha hw => wp_label ⟨ρ, M, h, ha, hw⟩
theorem Cd.ret (h : Q .ret ρ M) : Cd P N W w0 .ret Q ρ M := fun _ _ ha hw => wp_ret ⟨ρ, M, h, ha, hw⟩
theorem Cd.exit {id : Nat} (h : Q (.exit id) ρ M) : Cd P N W w0 (.exit id) Q ρ M := fun _ _ ha hw => wp_exit ⟨ρ, M, h, ha, hw⟩

theorem Cd.seq {x y : Code} (h : Cd P N W w0 x (thenQ P N W w0 y Q) ρ M) : Cd P N W w0 (.seq x y) Q ρ M := fun a w ha hw =>
  wp_seq (wp_mono (h a w ha hw) fun e a' w' hh => by
    obtain ⟨ρ', M', h1, h2, h3⟩ := hh
    cases e with
    | normal => exact h1 a' w' h2 h3
    | exit id => exact ⟨ρ', M', h1, h2, h3⟩
    | goto l => exact ⟨ρ', M', h1, h2, h3⟩
    | ret => exact ⟨ρ', M', h1, h2, h3⟩
    | panic ch => exact ⟨ρ', M', h1, h2, h3⟩
    | outgrown => exact ⟨ρ', M', h1, h2, h3⟩)

theorem Cd.cond {c : Operand} {x y : Code} {b : Bool} (hc : ev ρ c = .bool b) (ht : b = true → Cd P N W w0 x Q ρ M) (hf : b = false → Cd P N W w0 y Q ρ M) : Cd P N W w0 (.cond c x y) Q ρ M := fun a w ha hw =>
  wp_cond_split (t := b) (by rw [ha.eval]; exact hc) (fun h => ht h a w ha hw) (fun h => hf h a w ha hw)

theorem Cd.block {id : Nat} {c : Code} (h : Cd P N W w0 c (inB id Q) ρ M) : Cd P N W w0 (.block id c) Q ρ M := fun a w ha hw =>
  wp_block (wp_mono (h a w ha hw) fun e a' w' hh => by
    obtain ⟨ρ', M', h1, h2, h3⟩ := hh
    cases e with
    | exit id' =>
      simp only [inB] at h1
      simp only [Exit.inBlock]
      split
      · rename_i hid; rw [if_pos hid] at h1; exact ⟨ρ', M', h1, h2, h3⟩
      · rename_i hid; rw [if_neg hid] at h1; exact ⟨ρ', M', h1, h2, h3⟩
    | normal => exact ⟨ρ', M', h1, h2, h3⟩
    | goto l => exact ⟨ρ', M', h1, h2, h3⟩
    | ret => exact ⟨ρ', M', h1, h2, h3⟩
    | panic ch => exact ⟨ρ', M', h1, h2, h3⟩
    | outgrown => exact ⟨ρ', M', h1, h2, h3⟩)

/-- A loop: what holds at each round's head, with a number that every round lowers. -/
theorem Cd.loop {c : Code} (I : Nat → Env → Blks → Prop) (n : Nat) (h0 : I n ρ M)
    (round : ∀ n ρ M, I n ρ M → Cd P N W w0 c (roundQ I n Q) ρ M) : Cd P N W w0 (.loop c) Q ρ M := fun a w ha hw =>
  wp_loop_ghost (fun n a w => ∃ ρ M, I n ρ M ∧ St N ρ a ∧ Own W w0 M w) n ⟨ρ, M, h0, ha, hw⟩ fun n a w ⟨ρ, M, hI, ha, hw⟩ =>
    wp_mono (round n ρ M hI a w ha hw) fun e _ _ hh => by
      obtain ⟨ρ', M', h1, h2, h3⟩ := hh
      cases e with
      | normal => obtain ⟨m, hm, hI'⟩ := h1; exact ⟨m, hm, ρ', M', hI', h2, h3⟩
      | exit id => exact ⟨ρ', M', h1, h2, h3⟩
      | goto l => exact ⟨ρ', M', h1, h2, h3⟩
      | ret => exact ⟨ρ', M', h1, h2, h3⟩
      | panic ch => exact ⟨ρ', M', h1, h2, h3⟩
      | outgrown => exact ⟨ρ', M', h1, h2, h3⟩

theorem Cd.region {id : Nat} {l : List Oper} (h : evOps P N W w0 l.toArray l ρ M (Q .normal)) : Cd P N W w0 (.region id l.toArray false) Q ρ M := fun a w ha hw =>
  wp_region_lit (wpList_of P N W w0 l ρ M _ a w h ha hw fun ρ' M' _ _ h1 h2 h3 => ⟨ρ', M', h1, h2, h3⟩)

/-! ### Regions that draw their order and only read -/

/-- A call that hands back v and leaves what is known as it is. -/
def QCall (P : Program) (W : List Nat) (w0 : World) (f : FuncId) (args : Array Value) (M : Blks) (v : Value) : Prop :=
  callable P f ∧ ∀ w, Own W w0 M w → Calls P f args w fun e w' => e = .returned v ∧ Own W w0 M w'

/-- More blocks are known. -/
inductive Ext (w0 : World) (M : Blks) : Blks → Prop
  | refl : Ext w0 M M
  | cons {M' : Blks} {b : Nat} {cs : List Value} (h : Ext w0 M M') (hf : Fresh w0 M' b) : Ext w0 M ((b, cs) :: M')

theorem Ext.trans {M M' M'' : Blks} (h : Ext w0 M M') (h' : Ext w0 M' M'') : Ext w0 M M'' := by
  induction h' with
  | refl => exact h
  | cons _ hf ih => exact .cons ih hf

theorem frn_lt {b o : Nat} {v : Value} (h : frn W w0 b o = some v) : b < w0.heap.size := by
  unfold frn at h
  split at h
  · rename_i hh; exact hh.1
  · cases h

theorem Ext.find {M M' : Blks} (h : Ext w0 M M') {b : Nat} {cs : List Value} (hf : findB b M = some cs) : findB b M' = some cs := by
  induction h with
  | refl => exact hf
  | cons _ hfr ih =>
    unfold findB
    rw [if_neg (hfr.2 _ (findB_mem ih))]
    exact ih

theorem Ext.find_none {M M' : Blks} (h : Ext w0 M M') {b : Nat} (hb : b < w0.heap.size) (hf : findB b M = none) : findB b M' = none := by
  induction h with
  | refl => exact hf
  | cons _ hfr ih =>
    unfold findB
    rw [if_neg (fun e => by have := hfr.1; omega)]
    exact ih

theorem Ext.cellAt {M M' : Blks} (h : Ext w0 M M') {b o : Nat} {v : Value} (hv : cellAt W w0 M b o = some v) : cellAt W w0 M' b o = some v := by
  unfold W8.cellAt at hv ⊢
  split at hv
  · rename_i cs hf; rw [h.find hf]; exact hv
  · rename_i hf; rw [h.find_none (frn_lt hv) hf]; exact hv

theorem Ext.cellsAt {M M' : Blks} (h : Ext w0 M M') {b o n : Nat} (hn : n ≠ 0) {vs : List Value} (hv : cellsAt W w0 M b o n = some vs) : cellsAt W w0 M' b o n = some vs := by
  unfold W8.cellsAt at hv ⊢
  split at hv
  · rename_i cs hf; rw [h.find hf]; exact hv
  · rename_i hf
    have hb : b < w0.heap.size := by
      obtain ⟨h1, h2⟩ := mapM_get hv
      have hl : 0 < vs.length := by rw [h1, List.length_range]; omega
      obtain ⟨y, _, hy⟩ := h2 0 _ (List.getElem?_eq_getElem hl)
      exact frn_lt hy
    rw [h.find_none hb hf]; exact hv

/-- Such a call, whatever blocks there are besides, and what is asked behind it. -/
def QAsk (P : Program) (W : List Nat) (w0 : World) (f : FuncId) (args : Array Value) (M : Blks) (R : Value → Prop) : Prop := ∃ v, (∀ M', Ext w0 M M' → QCall P W w0 f args M' v) ∧ R v

variable (P N W w0)

/-- What is asked at an operation that only reads; R: of what it yields. -/
def evV (o : Oper) (ρ : Env) (M : Blks) (R : Value → Prop) : Prop :=
  match o.op with
  | .load T x =>
    match ev ρ x, ldT P T with
    | .pointer (some ⟨b, off, none⟩), some none => match cellAt W w0 M b off with | some v => R v | none => False
    | .pointer (some ⟨b, off, none⟩), some (some n) => n ≠ 0 ∧ match cellsAt W w0 M b off n with | some vs => R (.agg vs.toArray) | none => False
    | _, _ => False
  | .call c =>
    match c.callee with
    | .value f => match ev ρ f with
      | .func (.func n) first captured => QAsk P W w0 n (first.toList ++ (c.args.toList.map (ev ρ) ++ captured.toList)).toArray M R
      | _ => False
    | .builtin .len => match c.args[0]?, c.argTypes[0]?, c.args.size with
      | some x, some T, 1 => match lenV P T (ev ρ x) with | some (p, v) => p ∧ R v | none => False
      | _, _, _ => False
    | .builtin .min => match c.args[0]?, c.args[1]?, c.args.size with
      | some x, some y, 2 => match minV (ev ρ x) (ev ρ y) with | some (p, v) => p ∧ R v | none => False
      | _, _, _ => False
    | .builtin .max => match c.args[0]?, c.args[1]?, c.args.size with
      | some x, some y, 2 => match maxV (ev ρ x) (ev ρ y) with | some (p, v) => p ∧ R v | none => False
      | _, _, _ => False
    | _ => False
  | .store .. | .alloc .. | .box .. => False
  | op => match pureOp P ρ op with
    | some (c, v) => c ∧ R v
    | none => False

def evQ (o : Oper) (ρ : Env) (M : Blks) (K : Env → Prop) : Prop := evV P W w0 o ρ M fun v => setD N ρ o.dst v K

variable {P N W w0}

theorem quiet_of_value {o : Oper} {a : Act} {v : Value} {M : Blks} (hr : ∀ w, Own W w0 M w → (execOp a.eval o).run P w = .ok (.value v) w) (w : World) (hw : Own W w0 M w) : o.quietAt P a (fun w => Own W w0 M w) w v := by
  unfold Oper.quietAt
  rw [hr w hw]
  exact ⟨rfl, rfl⟩

/-- The value of an operation that only reads. -/
theorem evV_value {o : Oper} {R : Value → Prop} (h : evV P W w0 o ρ M R) : ∃ v, R v ∧ ((∀ w, Own W w0 M w → (execOp (ev ρ) o).run P w = .ok (.value v) w) ∨
    (∃ n args, (∀ w, Own W w0 M w → (execOp (ev ρ) o).run P w = .ok (.enter n args) w) ∧ ∀ w, Own W w0 M w → Calls P n args w fun e w' => e = .returned v ∧ Own W w0 M w')) := by
  unfold evV at h
  split at h
  · rename_i T x hop
    split at h
    · rename_i b off hx hT
      split at h
      case h_2 => exact h.elim
      rename_i v hv
      have hk := h
      refine ⟨v, hk, .inl fun w hw => ?_⟩
      unfold execOp
      simp only [hop, Instr.loadAt, hx, Instr.sureAddr, Sem.run_bind, Sem.run_pure, Result.andThen_ok, (ldT_one P hT _).2 w v (hw.cellAt W w0 hv)]
    · rename_i b off n hx hT
      obtain ⟨_, h⟩ := h
      split at h
      case h_2 => exact h.elim
      rename_i vs hv
      have hk := h
      refine ⟨_, hk, .inl fun w hw => ?_⟩
      obtain ⟨h1, h2⟩ := hw.cellsAt W w0 hv
      unfold execOp
      simp only [hop, Instr.loadAt, hx, Instr.sureAddr, Sem.run_bind, Sem.run_pure, Result.andThen_ok, ldT_many P hT b off vs h1 w h2]
    · exact h.elim
  · rename_i c hop
    split at h
    · rename_i f hc
      split at h
      · rename_i n first captured hf
        obtain ⟨v, hq0, hk⟩ := h
        have hq := hq0 M .refl
        refine ⟨v, hk, .inr ⟨n, _, fun w hw => ?_, hq.2⟩⟩
        have he : ∀ args w, (callFunc n args).run P w = .ok (.enter n args) w := hq.1
        unfold execOp
        have hargs : first ++ Array.map (ev ρ) c.args ++ captured = (first.toList ++ (c.args.toList.map (ev ρ) ++ captured.toList)).toArray := by
          apply Array.toList_inj.1; simp
        simp only [hop, resolve, hc, hf, Deferred.ofValue, Sem.run_bind, Sem.run_pure, Result.andThen_ok, invoke, he, hargs]
      · exact h.elim
    · rename_i hc
      split at h
      · rename_i x T h0 h1 h2
        split at h
        · rename_i p v hl
          refine ⟨v, h.2, .inl fun w hw => ?_⟩
          have hargs : c.args = #[x] := by
            apply Array.ext
            · simpa using h2
            · intro i hi1 hi2
              have : i = 0 := by simp at hi2; omega
              subst this
              rw [Array.getElem?_eq_getElem hi1] at h0
              simpa using h0
          unfold execOp
          simp only [hop, resolve, hc, Sem.run_bind, Sem.run_pure, Result.andThen_ok, invoke, builtin, hargs, List.map_toArray, List.map_cons, List.map_nil, run_lenV P w h1 hl]
        · exact h.elim
      · exact h.elim
    · rename_i hc
      split at h
      · rename_i x y h0 h1 h2
        split at h
        · rename_i p v hl
          refine ⟨v, h.2, .inl fun w hw => ?_⟩
          have hargs : c.args = #[x, y] := by
            apply Array.ext
            · simpa using h2
            · intro i hi1 hi2
              have : i = 0 ∨ i = 1 := by simp at hi2; omega
              rcases this with rfl | rfl
              · rw [Array.getElem?_eq_getElem hi1] at h0; simpa using h0
              · rw [Array.getElem?_eq_getElem hi1] at h1; simpa using h1
          unfold minV at hl
          split at hl <;> simp only [Option.some.injEq, Prod.mk.injEq, reduceCtorEq] at hl
          rename_i k m k' m' hx hy
          obtain ⟨_, rfl⟩ := hl
          unfold execOp
          simp [hop, resolve, hc, invoke, builtin, hargs, Builtin.min_, Builtin.min2, hx, hy]
        · exact h.elim
      · exact h.elim
    · rename_i hc
      split at h
      · rename_i x y h0 h1 h2
        split at h
        · rename_i p v hl
          refine ⟨v, h.2, .inl fun w hw => ?_⟩
          have hargs : c.args = #[x, y] := by
            apply Array.ext
            · simpa using h2
            · intro i hi1 hi2
              have : i = 0 ∨ i = 1 := by simp at hi2; omega
              rcases this with rfl | rfl
              · rw [Array.getElem?_eq_getElem hi1] at h0; simpa using h0
              · rw [Array.getElem?_eq_getElem hi1] at h1; simpa using h1
          unfold maxV at hl
          split at hl <;> simp only [Option.some.injEq, Prod.mk.injEq, reduceCtorEq] at hl
          rename_i k m k' m' hx hy
          obtain ⟨_, rfl⟩ := hl
          unfold execOp
          simp [hop, resolve, hc, invoke, builtin, hargs, Builtin.max_, Builtin.max2, hx, hy]
        · exact h.elim
      · exact h.elim
    · exact h.elim
  · exact h.elim
  · exact h.elim
  · exact h.elim
  · split at h
    · rename_i c v hp
      exact ⟨v, h.2, .inl fun w _ => run_pureOp P w hp h.1⟩
    · exact h.elim

variable (P N W w0)

def evQs (ops : Array Oper) : List Oper → Env → Blks → (Env → Prop) → Prop
  | [], ρ, _, K => K ρ
  | o :: rest, ρ, M, K =>
    match o.guard with
    | none => evQ P N W w0 o ρ M fun ρ' => evQs ops rest ρ' M K
    | some (j, want) => match (ops[j]?).bind (·.dst) with
      | none => False
      | some d => match gate (ρ d) with
        | none => setD N ρ o.dst undef fun ρ' => evQs ops rest ρ' M K
        | some b => guardQ b want (evQ P N W w0 o (upd ρ d (.bool want)) M fun ρ' => evQs ops rest ρ' M K) (setD N (upd ρ d (.bool (!want))) o.dst undef fun ρ' => evQs ops rest ρ' M K)

variable {P N W w0}

theorem wpQuiet_of {ops : Array Oper} {Q' : Act → Prop} : ∀ (l : List Oper) (ρ : Env) (K : Env → Prop) (a : Act), evQs P N W w0 ops l ρ M K → St N ρ a → (∀ ρ' a', K ρ' → St N ρ' a' → Q' a') →
    wpQuiet P ops (fun w => Own W w0 M w) Q' l a
  | [], ρ, K, a, h, ha, hq => hq ρ a h ha
  | o :: rest, ρ, K, a, h, ha, hq => by
    have go : ∀ (hh : evQ P N W w0 o ρ M fun ρ' => evQs P N W w0 ops rest ρ' M K), o.quiet P a (fun w => Own W w0 M w) (wpQuiet P ops (fun w => Own W w0 M w) Q' rest) := fun hh => by
      obtain ⟨v, hk, hv⟩ := evV_value hh
      obtain ⟨ρ', h1, h2⟩ := ha.put N hk
      refine ⟨v, fun w hw => ?_, wpQuiet_of rest ρ' K _ h2 h1 hq⟩
      rcases hv with hv | ⟨n, args, h3, h4⟩
      · exact quiet_of_value (by rw [ha.eval]; exact hv) w hw
      · unfold Oper.quietAt
        rw [ha.eval, h3 w hw]
        exact ⟨rfl, h4 w hw⟩
    have skip : ∀ (hh : setD N ρ o.dst undef fun ρ' => evQs P N W w0 ops rest ρ' M K), wpQuiet P ops (fun w => Own W w0 M w) Q' rest (a.put o.dst undef) := fun hh => by
      obtain ⟨ρ', h1, h2⟩ := ha.put N hh
      exact wpQuiet_of rest ρ' K _ h2 h1 hq
    unfold evQs at h
    unfold wpQuiet
    split at h
    · rename_i hg
      rw [if_pos (by unfold Region.wanted; rw [hg])]
      exact go h
    · rename_i j want hg
      split at h
      · exact h.elim
      · rename_i d hd
        rw [St.wanted N ha hg hd]
        split at h
        · rename_i hn
          rw [hn, if_neg (by simp)]
          exact skip h
        · rename_i b hb
          rw [hb]
          by_cases hbw : b = want
          · rw [if_pos (by simp [hbw])]
            subst hbw
            have h1 := h.1 rfl
            rw [upd_gate hb] at h1
            exact go h1
          · rw [if_neg (by simpa using hbw)]
            have hnb : b = !want := by cases b <;> cases want <;> simp_all
            have h2 := h.2 hnb
            rw [← hnb, upd_gate hb] at h2
            exact skip h2

theorem Own.drew {w : World} (h : Own W w0 M w) : Own W w0 M { w with drawn := w.drawn + 1 } := ⟨h.os, h.tape, h.output, h.size, h.frame, h.own, h.blk, h.nodup⟩

theorem Cd.quiet {id : Nat} {l : List Oper} (hm : P.follows .mixedOrders = true) (hB : Region.lexB .any l.toArray = true) (h : evQs P N W w0 l.toArray l ρ M (Q .normal · M)) : Cd P N W w0 (.region id l.toArray true) Q ρ M := fun a _ ha hw =>
  wp_region_quiet (C := fun w => Own W w0 M w) hm hB hw.drew (wpQuiet_of l ρ _ a h ha fun ρ' _ h1 h2 _ hw' => ⟨ρ', M, h1, h2, hw'⟩)

/-! ### A function's begin and end -/

variable (W w0)

/-- What a result variable holds. -/
def resV (P : Program) (ρ : Env) (M : Blks) : ResultVar → Option Value
  | .tmp t => some (ρ t)
  | .cell t T => match ρ t, ldT P T with
    | .pointer (some ⟨b, off, none⟩), some none => cellAt W w0 M b off
    | .pointer (some ⟨b, off, none⟩), some (some n) => (cellsAt W w0 M b off n).map fun vs => .agg vs.toArray
    | _, _ => none

def oneOr (vs : List Value) : Value := match vs with | [v] => v | vs => .tuple vs.toArray

/-- What is asked at a function's end. -/
def endQ (P : Program) (rs : List ResultVar) (R : Value → Blks → Prop) (ρ : Env) (M : Blks) : Prop := ∃ vs, rs.mapM (resV W w0 P ρ M) = some vs ∧ R (oneOr vs) M

def retQ (P : Program) (rs : List ResultVar) (R : Value → Blks → Prop) : Exit → Env → Blks → Prop
  | .normal, ρ, M | .ret, ρ, M => endQ W w0 P rs R ρ M
  | _, _, _ => False

variable {W w0}

theorem run_resV {a : Act} {w : World} (ha : St N ρ a) (hw : Own W w0 M w) {r : ResultVar} {v : Value} (h : resV W w0 P ρ M r = some v) :
    (match r with | .tmp t => (Pure.pure (a.tmps.getD t undef) : Sem Value) | .cell p t => do loadVar t (← asAddr (a.tmps.getD p undef))).run P w = .ok v w := by
  cases r with
  | tmp t =>
    simp only [resV, Option.some.injEq] at h
    subst h
    show (Pure.pure (a.tmps.getD t undef) : Sem Value).run P w = _
    rw [ha.2.2 t]
    rfl
  | cell t T =>
    unfold resV at h
    show (do loadVar T (← asAddr (a.tmps.getD t undef)) : Sem Value).run P w = _
    simp only at h
    rw [ha.2.2 t]
    split at h
    · rename_i b off hx hT
      simp only [hx, asAddr, Sem.run_bind, Sem.run_pure, Result.andThen_ok]
      exact (ldT_one P hT _).2 w v (hw.cellAt W w0 h)
    · rename_i b off n hx hT
      simp only [hx, asAddr, Sem.run_bind, Sem.run_pure, Result.andThen_ok]
      cases hc : cellsAt W w0 M b off n with
      | none => rw [hc] at h; cases h
      | some vs =>
        rw [hc] at h
        simp only [Option.map_some, Option.some.injEq] at h
        subst h
        obtain ⟨h1, h2⟩ := hw.cellsAt W w0 hc
        exact ldT_many P hT b off vs h1 w h2
    · cases h

theorem run_mapM_res {w : World} {f : ResultVar → Sem Value} {g : ResultVar → Option Value} (hfg : ∀ r v, g r = some v → (f r).run P w = .ok v w) :
    ∀ (rs : List ResultVar) (vs : List Value), rs.mapM g = some vs → (rs.mapM f).run P w = .ok vs w
  | [], vs, h => by simp at h; subst h; rfl
  | r :: rs, vs, h => by
    simp only [List.mapM_cons, Option.bind_eq_bind, Option.pure_def] at h
    cases hr : g r with
    | none => simp [hr] at h
    | some v =>
      cases hrs : rs.mapM g with
      | none => simp [hr, hrs] at h
      | some rest =>
        simp [hr, hrs] at h
        subst h
        simp [List.mapM_cons, hfg r v hr, run_mapM_res hfg rs rest hrs]

theorem run_results {fn : Func} {rs : List ResultVar} (hrs : fn.results = rs.toArray) {a : Act} {w : World} (ha : St N ρ a) (hw : Own W w0 M w) {vs : List Value} (h : rs.mapM (resV W w0 P ρ M) = some vs) :
    (results fn a.tmps).run P w = .ok (oneOr vs) w := by
  unfold results
  rw [hrs]
  simp only [Array.mapM_eq_mapM_toList]
  have := run_mapM_res (P := P) (w := w) (f := fun r => match r with | .tmp t => (Pure.pure (a.tmps.getD t undef) : Sem Value) | .cell p t => do loadVar t (← asAddr (a.tmps.getD p undef))) (g := resV W w0 P ρ M)
    (fun r v hv => run_resV ha hw hv) rs vs h
  simp only [Sem.run_bind, Sem.run_map]
  erw [this]
  simp only [Result.andThen_ok, Sem.run_pure]
  unfold oneOr
  cases vs with
  | nil => rfl
  | cons v rest => cases rest <;> rfl

def envN : Nat → List Value → Env
  | _, [] => fun _ => undef
  | k, a :: l => upd (envN (k + 1) l) k a

theorem envN_get : ∀ (l : List Value) (k t : Nat), envN k l t = if t < k then undef else l.getD (t - k) undef
  | [], k, t => by simp [envN]
  | a :: l, k, t => by
    simp only [envN, upd, envN_get l (k + 1) t]
    by_cases h1 : t = k
    · subst h1
      rw [if_pos rfl, if_neg (by omega), Nat.sub_self]
      rfl
    · rw [if_neg h1]
      by_cases h2 : t < k
      · rw [if_pos (by omega), if_pos h2]
      · rw [if_neg (by omega), if_neg h2]
        have : t - k = (t - (k + 1)) + 1 := by omega
        rw [this]
        rfl

/-- What the temporaries hold as a function begins. -/
def env0 (args : List Value) : Env := envN 0 args

theorem St.start {args : List Value} (h : args.length ≤ N) : St N (env0 args) { tmps := args.toArray ++ Array.replicate (N - args.toArray.size) undef, defers := [] } := by
  refine ⟨rfl, by simp; omega, fun t => ?_⟩
  unfold env0
  rw [envN_get, if_neg (by omega), Nat.sub_zero, Array.getD_eq_getD_getElem?, Array.getElem?_append]
  simp only [List.size_toArray]
  split
  · rename_i ht
    simp [List.getD_eq_getElem?_getD]
  · rename_i ht
    rw [Array.getElem?_replicate, List.getD_eq_getElem?_getD, List.getElem?_eq_none (by omega)]
    split <;> rfl

theorem callable_of {f : FuncId} {fn : Func} {c : Code} (hf : P.funcs[f]? = some fn) (hb : fn.body = some c) (hname : (fn.name == "runtime.NumGoroutine") = false) : callable P f := by
  intro args w
  unfold callFunc
  have hn : ¬ (fn.body.isNone = true) := by rw [hb]; simp
  simp only [Sem.run_bind, run_program, Result.andThen_ok, hf]
  rw [if_neg (by rw [hname]; simp), if_neg hn]
  rfl

theorem acall_of {f : FuncId} {fn : Func} {c : Code} {args : List Value} {rs : List ResultVar} {R : Value → Blks → Prop} (hf : P.funcs[f]? = some fn) (hb : fn.body = some c)
    (hname : (fn.name == "runtime.NumGoroutine") = false) (hN : fn.ntmps = N) (hrs : fn.results = rs.toArray) (hl : args.length ≤ N)
    (h : Cd P N W w0 c (retQ W w0 P rs R) (env0 args) M) : ACall P W w0 f args.toArray M R := by
  refine ⟨callable_of hf hb hname, fun w hw => calls_of_wp hf hb ?_⟩
  rw [hN]
  refine wp_mono (h _ w (St.start hl) hw) ?_
  rintro e a' w' ⟨ρ', M', hq, ha, hw'⟩
  cases e with
  | normal =>
    obtain ⟨vs, h1, h2⟩ := hq
    exact ⟨ha.1, _, run_results hrs ha hw' h1, _, M', rfl, hw', h2⟩
  | ret =>
    obtain ⟨vs, h1, h2⟩ := hq
    exact ⟨ha.1, _, run_results hrs ha hw' h1, _, M', rfl, hw', h2⟩
  | exit id => exact hq.elim
  | goto l => exact hq.elim
  | panic ch => exact hq.elim
  | outgrown => exact hq.elim

/-- A function that only hands back a value, and leaves all that was there as it was. -/
def Gives (P : Program) (f : FuncId) (args : Array Value) (v : Value) : Prop :=
  callable P f ∧ ∀ w, Calls P f args w fun e w' => e = .returned v ∧ Own [] w [] w'

theorem Gives.of {f : FuncId} {args : Array Value} {v : Value} (h : ∀ w, ACall P [] w f args [] fun v' _ => v' = v) : Gives P f args v := by
  refine ⟨(h default).1, fun w => ((h w).2 w (Own.start w)).mono ?_⟩
  rintro e w' ⟨v', M', rfl, hw', rfl⟩
  exact ⟨rfl, hw'.sub (List.nil_sublist _)⟩

theorem Gives.qcall {f : FuncId} {args : Array Value} {v : Value} (h : Gives P f args v) : QCall P W w0 f args M v := by
  refine ⟨h.1, fun w hw => (h.2 w).mono ?_⟩
  rintro e w' ⟨rfl, hw'⟩
  exact ⟨rfl, hw.then_ hw'⟩

theorem QCall.acall {f : FuncId} {args : Array Value} {v : Value} {R : Value → Blks → Prop} (h : QCall P W w0 f args M v) (hR : R v M) : ACall P W w0 f args M R :=
  ⟨h.1, fun w hw => (h.2 w hw).mono fun _ _ ⟨h1, h2⟩ => ⟨v, M, h1, h2, hR⟩⟩

theorem Gives.ask {f : FuncId} {args : Array Value} {v : Value} {R : Value → Prop} (h : Gives P f args v) (hR : R v) : QAsk P W w0 f args M R := ⟨v, fun _ _ => h.qcall, hR⟩

theorem Gives.acall {f : FuncId} {args : Array Value} {v : Value} {R : Value → Blks → Prop} (h : Gives P f args v) (hR : R v M) : ACall P W w0 f args M R := h.qcall.acall hR

end
end Go.W8

/-
  Steps of a walk in the form in which they are laid; what the temporaries and the blocks read. Nothing here is about one program. Conditions: none.
-/
namespace Go.W8

section
variable {P : Program} {N : Nat} {W : List Nat} {w0 : World} {Q : Exit → Env → Blks → Prop} {ρ : Env} {M : Blks}

/-- A call, and what is asked behind it, closed to the walk's own reckoning. -/
def callK (P : Program) (N : Nat) (W : List Nat) (w0 : World) (f : Value) (args : List Value) (M : Blks) (d : Option Tmp) (ρ : Env) (ops : Array Oper) (rest : List Oper) (K : Env → Blks → Prop) : Prop :=
  match f with
  | .func (.func n) first captured => ACall P W w0 n (first.toList ++ (args ++ captured.toList)).toArray M fun v M' => setD N ρ d v fun ρ' => evOps P N W w0 ops rest ρ' M' K
  | _ => False

theorem evOp_call {f : Operand} {args : Array Operand} {ts : Array TypeId} {d : Option Tmp} {T : TypeId} {pos : String} {aft : Array Edge} {g : Option (Nat × Bool)} {ops : Array Oper} {rest : List Oper} {K : Env → Blks → Prop} :
    evOp P N W w0 ⟨d, .call ⟨.value f, args, ts⟩, T, pos, aft, g⟩ ρ M (fun ρ' M' => evOps P N W w0 ops rest ρ' M' K) = callK P N W w0 (ev ρ f) (args.toList.map (ev ρ)) M d ρ ops rest K := by
  unfold evOp callK
  rfl

theorem callK_gives {n : FuncId} {args : List Value} {v : Value} {d : Option Tmp} {ops : Array Oper} {rest : List Oper} {K : Env → Blks → Prop} (h : Gives P n args.toArray v)
    (hk : setD N ρ d v fun ρ' => evOps P N W w0 ops rest ρ' M K) : callK P N W w0 (.func (.func n) #[] #[]) args M d ρ ops rest K := by
  unfold callK
  simp only [List.append_nil, List.nil_append]
  exact h.acall hk

def callQ (P : Program) (N : Nat) (W : List Nat) (w0 : World) (f : Value) (args : List Value) (M : Blks) (d : Option Tmp) (ρ : Env) (ops : Array Oper) (rest : List Oper) (K : Env → Prop) : Prop :=
  match f with
  | .func (.func n) first captured => QAsk P W w0 n (first.toList ++ (args ++ captured.toList)).toArray M fun v => setD N ρ d v fun ρ' => evQs P N W w0 ops rest ρ' M K
  | _ => False

theorem evQ_call {f : Operand} {args : Array Operand} {ts : Array TypeId} {d : Option Tmp} {T : TypeId} {pos : String} {aft : Array Edge} {g : Option (Nat × Bool)} {ops : Array Oper} {rest : List Oper} {K : Env → Prop} :
    evQ P N W w0 ⟨d, .call ⟨.value f, args, ts⟩, T, pos, aft, g⟩ ρ M (fun ρ' => evQs P N W w0 ops rest ρ' M K) = callQ P N W w0 (ev ρ f) (args.toList.map (ev ρ)) M d ρ ops rest K := by
  unfold evQ evV callQ
  rfl

theorem callQ_gives {n : FuncId} {args : List Value} {v : Value} {d : Option Tmp} {ops : Array Oper} {rest : List Oper} {K : Env → Prop} (h : Gives P n args.toArray v)
    (hk : setD N ρ d v fun ρ' => evQs P N W w0 ops rest ρ' M K) : callQ P N W w0 (.func (.func n) #[] #[]) args M d ρ ops rest K := by
  unfold callQ
  simp only [List.append_nil, List.nil_append]
  exact h.ask hk

theorem guardQ_tt {A B : Prop} : guardQ true true A B = A := by simp [guardQ]
theorem guardQ_ff {A B : Prop} : guardQ false false A B = A := by simp [guardQ]
theorem guardQ_tf {A B : Prop} : guardQ true false A B = B := by simp [guardQ]
theorem guardQ_ft {A B : Prop} : guardQ false true A B = B := by simp [guardQ]
theorem guardQ_and {A B : Prop} {b want : Bool} : guardQ b want A B = ((b = want → A) ∧ (b = !want → B)) := rfl

theorem Cd.condd {c : Operand} {x y : Code} {p : Prop} [Decidable p] (hc : ev ρ c = .bool (decide p)) (ht : p → Cd P N W w0 x Q ρ M) (hf : ¬ p → Cd P N W w0 y Q ρ M) : Cd P N W w0 (.cond c x y) Q ρ M :=
  Cd.cond hc (fun h => ht (of_decide_eq_true h)) (fun h => hf (of_decide_eq_false h))

theorem Cd.yes {c : Operand} {x y : Code} (hc : ev ρ c = .bool true) (ht : Cd P N W w0 x Q ρ M) : Cd P N W w0 (.cond c x y) Q ρ M := Cd.cond hc (fun _ => ht) (fun h => nomatch h)
theorem Cd.no {c : Operand} {x y : Code} (hc : ev ρ c = .bool false) (hf : Cd P N W w0 y Q ρ M) : Cd P N W w0 (.cond c x y) Q ρ M := Cd.cond hc (fun h => nomatch h) (fun _ => hf)

theorem thenN {y : Code} (h : Cd P N W w0 y Q ρ M) : thenQ P N W w0 y Q .normal ρ M := h
theorem roundN {I : Nat → Env → Blks → Prop} {n m : Nat} (h : m < n) (hI : I m ρ M) : roundQ I n Q .normal ρ M := ⟨m, h, hI⟩
theorem thenX {y : Code} {id : Nat} (h : Q (.exit id) ρ M) : thenQ P N W w0 y Q (.exit id) ρ M := h
theorem thenR {y : Code} (h : Q .ret ρ M) : thenQ P N W w0 y Q .ret ρ M := h
theorem roundX {I : Nat → Env → Blks → Prop} {n id : Nat} (h : Q (.exit id) ρ M) : roundQ I n Q (.exit id) ρ M := h
theorem roundR {I : Nat → Env → Blks → Prop} {n : Nat} (h : Q .ret ρ M) : roundQ I n Q .ret ρ M := h
theorem inBN {id : Nat} (h : Q .normal ρ M) : inB id Q .normal ρ M := h
theorem inBR {id : Nat} (h : Q .ret ρ M) : inB id Q .ret ρ M := h
theorem inBX {id : Nat} (h : Q .normal ρ M) : inB id Q (.exit id) ρ M := by
  show if id = id then Q .normal ρ M else Q (.exit id) ρ M
  rw [if_pos rfl]; exact h
theorem end1 {P : Program} {r : ResultVar} {R : Value → Blks → Prop} {v : Value} (h : resV W w0 P ρ M r = some v) (hR : R v M) : endQ W w0 P [r] R ρ M :=
  ⟨[v], by simp [h], hR⟩
theorem ret1 {P : Program} {r : ResultVar} {R : Value → Blks → Prop} {v : Value} (h : resV W w0 P ρ M r = some v) (hR : R v M) : Cd P N W w0 .ret (retQ W w0 P [r] R) ρ M :=
  Cd.ret (end1 h hR)
theorem retQ_ret {P : Program} {rs : List ResultVar} {R : Value → Blks → Prop} : retQ W w0 P rs R .ret ρ M = endQ W w0 P rs R ρ M := rfl
theorem retQ_normal {P : Program} {rs : List ResultVar} {R : Value → Blks → Prop} : retQ W w0 P rs R .normal ρ M = endQ W w0 P rs R ρ M := rfl

theorem endQ_1 {P : Program} {r : ResultVar} {R : Value → Blks → Prop} : endQ W w0 P [r] R ρ M = (match resV W w0 P ρ M r with | some v => R v M | none => False) := by
  unfold endQ
  cases h : resV W w0 P ρ M r <;> simp [h, oneOr]
theorem endQ_2 {P : Program} {r s : ResultVar} {R : Value → Blks → Prop} : endQ W w0 P [r, s] R ρ M = (match resV W w0 P ρ M r, resV W w0 P ρ M s with | some v, some u => R (.tuple #[v, u]) M | _, _ => False) := by
  unfold endQ
  cases h : resV W w0 P ρ M r <;> cases h' : resV W w0 P ρ M s <;> simp [h, h', oneOr]
theorem endQ_3 {P : Program} {r s t : ResultVar} {R : Value → Blks → Prop} : endQ W w0 P [r, s, t] R ρ M = (match resV W w0 P ρ M r, resV W w0 P ρ M s, resV W w0 P ρ M t with | some v, some u, some x => R (.tuple #[v, u, x]) M | _, _, _ => False) := by
  unfold endQ
  cases h : resV W w0 P ρ M r <;> cases h' : resV W w0 P ρ M s <;> cases h2 : resV W w0 P ρ M t <;> simp [h, h', h2, oneOr]
theorem resV_tmp {P : Program} {t : Nat} : resV W w0 P ρ M (.tmp t) = some (ρ t) := rfl
theorem resV_cell {P : Program} {t : Nat} {T : TypeId} : resV W w0 P ρ M (.cell t T) = (match ρ t, ldT P T with
    | .pointer (some ⟨b, off, none⟩), some none => cellAt W w0 M b off
    | .pointer (some ⟨b, off, none⟩), some (some n) => (cellsAt W w0 M b off n).map fun vs => .agg vs.toArray
    | _, _ => none) := rfl

theorem Fresh.ne {b b' : Nat} {cs : List Value} (h : Fresh w0 ((b', cs) :: M) b) : (b = b') = False := eq_false (h.2 _ List.mem_cons_self)
theorem Fresh.tail {b b' : Nat} {cs : List Value} (h : Fresh w0 ((b', cs) :: M) b) : Fresh w0 M b := ⟨h.1, fun p hp => h.2 p (List.mem_cons_of_mem _ hp)⟩
theorem Fresh.old {b b' : Nat} (h : Fresh w0 M b) (h' : b' < w0.heap.size) : (b = b') = False := eq_false (fun e => by have := h.1; omega)

/-- The temporaries of W are forgotten. -/
def hav (S : List Nat) (g ρ : Env) : Env := fun t => if t ∈ S then g t else ρ t

def updL : List (Nat × Value) → Env → Env
  | [], ρ => ρ
  | (t, v) :: l, ρ => upd (updL l ρ) t v

/-- Nothing has turned but the temporaries of S. -/
def Only (S : List Nat) (ρ' ρ : Env) : Prop := ∀ t, t ∉ S → ρ' t = ρ t

theorem Only.refl (S : List Nat) : Only S ρ ρ := fun _ _ => rfl
theorem Only.upd {S : List Nat} {ρ' : Env} {t : Nat} {v : Value} (ht : t ∈ S) (h : Only S ρ' ρ) : Only S (upd ρ' t v) ρ := fun s hs => by
  unfold W8.upd
  have hne : ¬ s = t := fun e => hs (by rw [e]; exact ht)
  rw [if_neg hne]
  exact h s hs
theorem Only.hav {S : List Nat} {g : Env} : Only S (hav S g ρ) ρ := fun s hs => by unfold W8.hav; rw [if_neg hs]

/-- Of the temporaries only those of S are remembered. -/
def keepK (S : List Nat) (K : Env → Blks → Prop) (ρ : Env) (M : Blks) : Prop := ∀ g, K (updL (S.map fun t => (t, ρ t)) g) M
def keepQ (S : List Nat) (K : Env → Prop) (ρ : Env) : Prop := ∀ g, K (updL (S.map fun t => (t, ρ t)) g)

theorem updL_self : ∀ (S : List Nat), updL (S.map fun t => (t, ρ t)) ρ = ρ
  | [] => rfl
  | s :: S => by
    funext t
    simp only [List.map_cons, updL, W8.upd, updL_self S]
    split
    · rename_i e; rw [e]
    · rfl

theorem keepK_of {S : List Nat} {K : Env → Blks → Prop} (h : keepK S K ρ M) : K ρ M := by
  have := h ρ
  rwa [updL_self] at this
theorem keepQ_of {S : List Nat} {K : Env → Prop} (h : keepQ S K ρ) : K ρ := by
  have := h ρ
  rwa [updL_self] at this

theorem Cd.rs {id : Nat} {l : List Oper} {y : Code} (S : List Nat) (h : ∀ K : Env → Blks → Prop, (∀ ρ M, Cd P N W w0 y Q ρ M → K ρ M) → evOps P N W w0 l.toArray l ρ M (keepK S K)) : Cd P N W w0 (.seq (.region id l.toArray false) y) Q ρ M :=
  Cd.seq (Cd.mono (Cd.region (Q := fun e ρ M => match e with | .normal => keepK S (fun ρ M => Cd P N W w0 y Q ρ M) ρ M | _ => False) (h _ fun _ _ h => h)) fun e ρ M hq => by
    cases e <;> first | exact keepK_of hq | exact hq.elim)

theorem Cd.rr {id : Nat} {l : List Oper} (S : List Nat) (h : ∀ K : Env → Blks → Prop, (∀ ρ M, Q .normal ρ M → K ρ M) → evOps P N W w0 l.toArray l ρ M (keepK S K)) : Cd P N W w0 (.region id l.toArray false) Q ρ M :=
  Cd.mono (Cd.region (Q := fun e ρ M => match e with | .normal => keepK S (fun ρ M => Q .normal ρ M) ρ M | _ => False) (h _ fun _ _ h => h)) fun e ρ M hq => by
    cases e <;> first | exact keepK_of (K := fun ρ M => Q .normal ρ M) hq | exact hq.elim

theorem Cd.qs {id : Nat} {l : List Oper} {y : Code} (S : List Nat) (hm : P.follows .mixedOrders = true) (hB : Region.lexB .any l.toArray = true)
    (h : ∀ K : Env → Prop, (∀ ρ, Cd P N W w0 y Q ρ M → K ρ) → evQs P N W w0 l.toArray l ρ M (keepQ S K)) : Cd P N W w0 (.seq (.region id l.toArray true) y) Q ρ M :=
  Cd.seq (Cd.mono (Cd.quiet (Q := fun e ρ M' => match e with | .normal => M' = M ∧ keepQ S (fun ρ => Cd P N W w0 y Q ρ M) ρ | _ => False) hm hB (by
    have := h (fun ρ => Cd P N W w0 y Q ρ M) fun _ h => h
    simpa using this)) fun e ρ M' hq => by
    cases e <;> first | (obtain ⟨rfl, hq⟩ := hq; exact keepQ_of hq) | exact hq.elim)

end
end Go.W8

/-
  Numbers, grids and rows of numbers as cells. Nothing here is about one program. Conditions: none.
-/
namespace Go.W8

theorem wrap_i64 {n : Int} (h0 : -9223372036854775808 ≤ n) (h1 : n < 9223372036854775808) : IntKind.wrap .i64 n = n := by
  have e : (2 ^ IntKind.i64.bits : Int) = 18446744073709551616 := by decide
  have e2 : (2 ^ (IntKind.i64.bits - 1) : Int) = 9223372036854775808 := by decide
  unfold IntKind.wrap
  simp only [e, e2]
  have hs : IntKind.i64.signed = true := rfl
  rw [hs]
  by_cases h : n % 18446744073709551616 ≥ 9223372036854775808
  · simp only [h, decide_true, Bool.and_true, if_true]; omega
  · simp only [h, decide_false, Bool.and_false, Bool.false_eq_true, if_false]; omega

theorem wrap_u8 {n : Int} (h0 : 0 ≤ n) (h1 : n < 256) : IntKind.wrap .u8 n = n := by
  have e : (2 ^ IntKind.u8.bits : Int) = 256 := by decide
  unfold IntKind.wrap
  have hs : IntKind.u8.signed = false := rfl
  simp only [e, hs, Bool.false_and, Bool.false_eq_true, if_false]
  omega

/-- A row of numbers. -/
def ints (k : IntKind) (l : List Int) : List Value := l.map (Value.int k)

@[simp] theorem ints_length (k : IntKind) (l : List Int) : (ints k l).length = l.length := by simp [ints]
theorem ints_get {k : IntKind} {l : List Int} {i : Nat} (h : i < l.length) : (ints k l)[i]? = some (.int k (l.getD i 0)) := by
  unfold ints
  rw [List.getElem?_map, List.getElem?_eq_getElem h, List.getD_eq_getElem?_getD, List.getElem?_eq_getElem h]
  rfl
theorem ints_set (k : IntKind) (l : List Int) (i : Nat) (v : Int) : (ints k l).set i (.int k v) = ints k (l.set i v) := by
  unfold ints; rw [List.map_set]
theorem ints_one (k : IntKind) (l : List Int) : ∀ v ∈ ints k l, v.oneCell' = true := by
  intro v hv
  obtain ⟨n, _, rfl⟩ := List.mem_map.1 hv
  rfl

/-- A row of truths. -/
def bools (l : List Bool) : List Value := l.map Value.bool
@[simp] theorem bools_length (l : List Bool) : (bools l).length = l.length := by simp [bools]
theorem bools_get {l : List Bool} {i : Nat} (h : i < l.length) : (bools l)[i]? = some (.bool (l.getD i false)) := by
  unfold bools
  rw [List.getElem?_map, List.getElem?_eq_getElem h, List.getD_eq_getElem?_getD, List.getElem?_eq_getElem h]
  rfl
theorem bools_set (l : List Bool) (i : Nat) (v : Bool) : (bools l).set i (.bool v) = bools (l.set i v) := by
  unfold bools; rw [List.map_set]

def z8 : List Int := [0, 0, 0, 0, 0, 0, 0, 0]

/-- A grid's cells. -/
def gc (s : Int) (x o : List Int) : List Value := .int .i64 s :: (ints .u8 x ++ ints .u8 o)

theorem gc_length (s : Int) (x o : List Int) : (gc s x o).length = 1 + x.length + o.length := by
  simp [gc]; omega
theorem gc_s (s : Int) (x o : List Int) : (gc s x o)[0]? = some (.int .i64 s) := rfl
theorem gc_x {s : Int} {x o : List Int} {i : Nat} (h : i < x.length) : (gc s x o)[1 + i]? = some (.int .u8 (x.getD i 0)) := by
  unfold gc
  rw [Nat.add_comm, List.getElem?_cons_succ, List.getElem?_append_left (by simpa using h), ints_get h]
theorem gc_o {s : Int} {x o : List Int} {i : Nat} (hx : x.length = 8) (h : i < o.length) : (gc s x o)[9 + i]? = some (.int .u8 (o.getD i 0)) := by
  unfold gc
  have e : 9 + i = (8 + i) + 1 := by omega
  rw [e, List.getElem?_cons_succ, List.getElem?_append_right (by simp; omega), ints_length, hx, Nat.add_sub_cancel_left, ints_get h]
theorem gc_set_s (s s' : Int) (x o : List Int) : (gc s x o).set 0 (.int .i64 s') = gc s' x o := rfl
theorem gc_set_x {s : Int} {x o : List Int} {i : Nat} {v : Int} (h : i < x.length) : (gc s x o).set (1 + i) (.int .u8 v) = gc s (x.set i v) o := by
  unfold gc
  rw [Nat.add_comm, List.set_cons_succ, List.set_append_left _ _ (by simpa using h), ints_set]
theorem gc_set_o {s : Int} {x o : List Int} {i : Nat} {v : Int} (hx : x.length = 8) : (gc s x o).set (9 + i) (.int .u8 v) = gc s x (o.set i v) := by
  unfold gc
  have e : 9 + i = (8 + i) + 1 := by omega
  rw [e, List.set_cons_succ, List.set_append_right _ _ (by simp; omega), ints_length, hx, Nat.add_sub_cancel_left, ints_set]
theorem gc_take_x {s : Int} {x o : List Int} (hx : x.length = 8) : ((gc s x o).drop 1).take 8 = ints .u8 x := by
  unfold gc
  rw [List.drop_succ_cons, List.drop_zero, List.take_append_of_le_length (by simp; omega), List.take_of_length_le (by simp; omega)]
theorem gc_take_o {s : Int} {x o : List Int} (hx : x.length = 8) (ho : o.length = 8) : ((gc s x o).drop 9).take 8 = ints .u8 o := by
  unfold gc
  rw [List.drop_succ_cons, List.drop_append, ints_length, hx, Nat.sub_self, List.drop_zero, List.drop_of_length_le (by simp; omega), List.nil_append, List.take_of_length_le (by simp; omega)]
theorem gc_one (s : Int) (x o : List Int) : ∀ v ∈ gc s x o, v.oneCell' = true := by
  intro v hv
  unfold gc at hv
  rcases List.mem_cons.1 hv with rfl | hv
  · rfl
  · rcases List.mem_append.1 hv with hv | hv
    · exact ints_one _ _ v hv
    · exact ints_one _ _ v hv

theorem z8_len : z8.length = 8 := of_eq_true (eq_true (by decide))
theorem ones_gc (s : Int) (x o : List Int) : Ones (gc s x o) = True := eq_true (gc_one s x o)
theorem ones_ints (k : IntKind) (l : List Int) : Ones (ints k l) = True := eq_true (ints_one k l)
theorem ones_bools (l : List Bool) : Ones (bools l) = True := eq_true fun v hv => by obtain ⟨n, _, rfl⟩ := List.mem_map.1 hv; rfl
theorem ones_int (k : IntKind) (n : Int) : Ones [.int k n] = True := eq_true (by simp [Ones, Value.oneCell'])
theorem ones_bool (b : Bool) : Ones [.bool b] = True := eq_true (by simp [Ones, Value.oneCell'])
theorem ones_ptr (a : Option Addr) : Ones [.pointer a] = True := eq_true (by simp [Ones, Value.oneCell'])
theorem ones_slc (a : Option Addr) (n c : Nat) : Ones [.slice a n c] = True := eq_true (by simp [Ones, Value.oneCell'])
theorem ones_str (s : ByteArray) : Ones [.string s] = True := eq_true (by simp [Ones, Value.oneCell'])
theorem ones_func (f : Fn) (a b : Array Value) : Ones [.func f a b] = True := eq_true (by simp [Ones, Value.oneCell'])

theorem stC_one (cs : List Value) (o : Nat) (v : Value) : stC cs o [v] = cs.set o v := rfl
theorem splice_full {cs vs : List Value} (h : vs.length = cs.length) : splice cs 0 vs = vs := by
  unfold splice
  rw [List.take_zero, List.nil_append, Nat.zero_add, h, List.drop_of_length_le (Nat.le_refl _), List.append_nil]
theorem stC_full {cs vs : List Value} (h : vs.length = cs.length) : stC cs 0 vs = vs := by
  unfold stC
  split
  · rename_i v
    match cs, h with
    | [c], _ => rfl
  · exact splice_full h
theorem stC_many {cs vs : List Value} {o : Nat} (h : 2 ≤ vs.length) : stC cs o vs = splice cs o vs := by
  unfold stC
  split
  · simp at h
  · rfl
theorem sub_full {cs : List Value} {n : Nat} (h : cs.length = n) : subL cs 0 n = cs := by
  unfold subL
  rw [List.drop_zero, List.take_of_length_le (by omega)]
theorem sub_gc_x {s : Int} {x o : List Int} (hx : x.length = 8) : subL (gc s x o) 1 8 = ints .u8 x := gc_take_x hx
theorem sub_gc_o {s : Int} {x o : List Int} (hx : x.length = 8) (ho : o.length = 8) : subL (gc s x o) 9 8 = ints .u8 o := gc_take_o hx ho
theorem splice_gc_s (s s' : Int) (x o : List Int) : splice (gc s x o) 0 [.int .i64 s'] = gc s' x o := rfl
theorem splice_gc_x {s : Int} {x o x' : List Int} (hx : x.length = 8) (hx' : x'.length = 8) : splice (gc s x o) 1 (ints .u8 x') = gc s x' o := by
  unfold splice gc
  rw [List.take_succ_cons, List.take_zero, ints_length, hx']
  show _ ++ List.drop 8 (ints .u8 x ++ ints .u8 o) = _
  rw [List.drop_append, ints_length, hx, Nat.sub_self, List.drop_zero, List.drop_of_length_le (by simp; omega), List.nil_append]
  rfl
theorem splice_gc_o {s : Int} {x o o' : List Int} (hx : x.length = 8) (ho : o.length = 8) (ho' : o'.length = 8) : splice (gc s x o) 9 (ints .u8 o') = gc s x o' := by
  unfold splice gc
  rw [List.take_succ_cons, ints_length, ho', List.take_append_of_le_length (by simp; omega), List.take_of_length_le (by simp; omega)]
  rw [List.drop_of_length_le (by simp; omega), List.append_nil]
  rfl

theorem stC_gc_x {s : Int} {x o x' : List Int} (hx : x.length = 8) (hx' : x'.length = 8) : stC (gc s x o) 1 (ints .u8 x') = gc s x' o := by
  rw [stC_many (by simp; omega), splice_gc_x hx hx']
theorem stC_gc_o {s : Int} {x o o' : List Int} (hx : x.length = 8) (ho : o.length = 8) (ho' : o'.length = 8) : stC (gc s x o) 9 (ints .u8 o') = gc s x o' := by
  rw [stC_many (by simp; omega), splice_gc_o hx ho ho']

/-- What a loop over places has laid after k rounds. -/
def upto (n : Nat) (f : Nat → Int) (d : Int) (k : Nat) : List Int := (List.range n).map fun i => if i < k then f i else d

@[simp] theorem upto_length (n : Nat) (f : Nat → Int) (d : Int) (k : Nat) : (upto n f d k).length = n := by simp [upto]
theorem upto_zero (n : Nat) (f : Nat → Int) (d : Int) : upto n f d 0 = List.replicate n d := by
  apply List.ext_getElem?
  intro i
  unfold upto
  rw [List.getElem?_map]
  by_cases h : i < n
  · rw [List.getElem?_range h, List.getElem?_replicate_of_lt h]; rfl
  · rw [List.getElem?_eq_none (by simpa using h), List.getElem?_eq_none (by simpa using h)]; rfl
theorem upto_set {n : Nat} {f : Nat → Int} {d : Int} {k : Nat} {v : Int} (hv : v = f k) : (upto n f d k).set k v = upto n f d (k + 1) := by
  subst hv
  apply List.ext_getElem?
  intro i
  by_cases h : i < n
  · by_cases hk : k = i
    · subst hk
      rw [List.getElem?_set_self (by simpa using h)]
      unfold upto
      rw [List.getElem?_map, List.getElem?_range h]
      simp
    · rw [List.getElem?_set_ne hk]
      unfold upto
      rw [List.getElem?_map, List.getElem?_map, List.getElem?_range h]
      simp only [Option.map_some]
      congr 1
      by_cases h1 : i < k
      · rw [if_pos h1, if_pos (by omega)]
      · rw [if_neg h1, if_neg (by omega)]
  · rw [List.getElem?_eq_none (by simpa using h), List.getElem?_eq_none (by simpa using h)]
theorem upto_full {n : Nat} {x : List Int} {d : Int} (h : x.length = n) : upto n (fun i => x.getD i 0) d n = x := by
  apply List.ext_getElem?
  intro i
  unfold upto
  rw [List.getElem?_map]
  by_cases hi : i < n
  · rw [List.getElem?_range hi]
    simp only [Option.map_some, if_pos hi]
    rw [List.getD_eq_getElem?_getD, List.getElem?_eq_getElem (by omega)]
    rfl
  · rw [List.getElem?_eq_none (by simpa using hi), List.getElem?_eq_none (by omega)]; rfl
end Go.W8

/-
  Regions that draw their order and write: a plan of their operations, each step of which is sound in every order. Nothing here is about one program. Conditions: none.
-/
namespace Go.W8
set_option linter.unusedSimpArgs false

def opTmps (o : Oper) : List Tmp := o.op.operands.toList.filterMap fun | .tmp t => some t | _ => none

theorem mem_opTmps {o : Oper} {t : Tmp} (h : Operand.tmp t ∈ o.op.operands) : t ∈ opTmps o := by
  unfold opTmps
  exact List.mem_filterMap.2 ⟨.tmp t, by simpa using h, rfl⟩

section
variable {P : Program} {N : Nat} {W : List Nat} {w0 : World} {ρ ρ' : Env} {M M' : Blks}

theorem ev_agree {o : Oper} (h : ∀ t ∈ opTmps o, ρ' t = ρ t) {x : Operand} (hx : x ∈ o.op.operands) : ev ρ' x = ev ρ x := by
  cases x with
  | tmp t => exact h t (mem_opTmps hx)
  | _ => rfl

theorem pureOp_agree {o : Oper} (h : ∀ t ∈ opTmps o, ρ' t = ρ t) : pureOp P ρ' o.op = pureOp P ρ o.op := by
  have hx : ∀ x ∈ o.op.operands, ev ρ' x = ev ρ x := fun x hx => ev_agree h hx
  clear h
  generalize o.op = op at hx
  cases op with
  | slice T x lo hi mx =>
    cases mx with
    | some m => rfl
    | none =>
      simp only [pureOp]
      have h1 : ev ρ' x = ev ρ x := hx x (by simp [Op.operands])
      have h2 : lo.map (ev ρ') = lo.map (ev ρ) := by
        cases lo with
        | none => rfl
        | some l => exact congrArg some (hx l (by simp [Op.operands]))
      have h3 : hi.map (ev ρ') = hi.map (ev ρ) := by
        cases hi with
        | none => rfl
        | some l => exact congrArg some (hx l (by simp [Op.operands]))
      rw [h1, h2, h3]
  | build T parts =>
    simp only [pureOp]
    congr 1
    apply List.map_congr_left
    intro p hp
    have : ev ρ' p.2 = ev ρ p.2 := hx p.2 (by
      simp only [Op.operands, List.mem_toArray, List.mem_map]
      exact ⟨p, hp, rfl⟩)
    rw [show ∀ r : Env, evP r p = (p.1, ev r p.2) from fun _ => rfl, show ∀ r : Env, evP r p = (p.1, ev r p.2) from fun _ => rfl, this]
  | makeFunc fn a b =>
    simp only [pureOp]
    have h1 : a.map (ev ρ') = a.map (ev ρ) := by
      apply Array.map_congr_left
      intro x hxa
      exact hx x (by simp [Op.operands, hxa])
    have h2 : b.map (ev ρ') = b.map (ev ρ) := by
      apply Array.map_congr_left
      intro x hxb
      exact hx x (by simp [Op.operands, hxb])
    rw [h1, h2]
  | move x => simp [pureOp, hx x (by simp [Op.operands])]
  | assign x => simp [pureOp, hx x (by simp [Op.operands])]
  | pick c a b => simp [pureOp, hx c (by simp [Op.operands]), hx a (by simp [Op.operands]), hx b (by simp [Op.operands])]
  | binOp op T x y T' => simp [pureOp, hx x (by simp [Op.operands]), hx y (by simp [Op.operands])]
  | unOp op T x => simp [pureOp, hx x (by simp [Op.operands])]
  | convert s d x => simp [pureOp, hx x (by simp [Op.operands])]
  | nilCheck x => simp [pureOp, hx x (by simp [Op.operands])]
  | fieldAddr s x f => simp [pureOp, hx x (by simp [Op.operands])]
  | field s x f => simp [pureOp, hx x (by simp [Op.operands])]
  | indexAddr s x i => simp [pureOp, hx x (by simp [Op.operands]), hx i (by simp [Op.operands])]
  | index s x i => simp [pureOp, hx x (by simp [Op.operands]), hx i (by simp [Op.operands])]
  | extract x i => simp [pureOp, hx x (by simp [Op.operands])]
  | _ => rfl

/-! ### What a reading operation yields, later and among more blocks -/

theorem evV_get {o : Oper} {R : Value → Prop} (h : evV P W w0 o ρ M R) : ∃ v, evV P W w0 o ρ M (· = v) ∧ R v := by
  unfold evV at h ⊢
  cases hop : o.op <;> simp only [hop] at h ⊢ <;> try exact h.elim
  case load T x =>
    split at h
    · rename_i b off hx hT
      (try simp only [hx, hT])
      cases hc : cellAt W w0 M b off with
      | none => rw [hc] at h; exact h.elim
      | some v => rw [hc] at h; exact ⟨v, rfl, h⟩
    · rename_i b off n hx hT
      (try simp only [hx, hT])
      obtain ⟨hn, h⟩ := h
      cases hc : cellsAt W w0 M b off n with
      | none => rw [hc] at h; exact h.elim
      | some v => rw [hc] at h; exact ⟨_, ⟨hn, rfl⟩, h⟩
    · exact h.elim
  case call c =>
    cases hc : c.callee <;> simp only [hc] at h ⊢ <;> try exact h.elim
    case value f =>
      split at h
      · rename_i n first captured hf
        obtain ⟨v, h1, h2⟩ := h
        exact ⟨v, by (try simp only [hf]); exact ⟨v, h1, rfl⟩, h2⟩
      · exact h.elim
    case builtin b =>
      cases b <;> simp only at h ⊢ <;> try exact h.elim
      all_goals
        split at h
        · rename_i h0 h1 h2
          (try simp only [h0, h1, h2])
          split at h
          · rename_i p v hl
            (try simp only [hl])
            exact ⟨v, ⟨h.1, rfl⟩, h.2⟩
          · exact h.elim
        · exact h.elim
  all_goals
    split at h
    · rename_i c v hp
      (try simp only [hp])
      exact ⟨v, ⟨h.1, rfl⟩, h.2⟩
    · exact h.elim

theorem evV_mono {o : Oper} {v : Value} {R : Value → Prop} (h : evV P W w0 o ρ M (· = v)) (hR : R v) : evV P W w0 o ρ M R := by
  unfold evV at h ⊢
  cases hop : o.op <;> simp only [hop] at h ⊢ <;> try exact h.elim
  case load T x =>
    split at h
    · rename_i b off hx hT
      (try simp only [hx, hT])
      cases hc : cellAt W w0 M b off with
      | none => rw [hc] at h; exact h.elim
      | some u => rw [hc] at h; subst h; exact hR
    · rename_i b off n hx hT
      (try simp only [hx, hT])
      obtain ⟨hn, h⟩ := h
      cases hc : cellsAt W w0 M b off n with
      | none => rw [hc] at h; exact h.elim
      | some u => rw [hc] at h; subst h; exact ⟨hn, hR⟩
    · exact h.elim
  case call c =>
    cases hc : c.callee <;> simp only [hc] at h ⊢ <;> try exact h.elim
    case value f =>
      split at h
      · rename_i n first captured hf
        obtain ⟨u, h1, rfl⟩ := h
        (try simp only [hf]); exact ⟨u, h1, hR⟩
      · exact h.elim
    case builtin b =>
      cases b <;> simp only at h ⊢ <;> try exact h.elim
      all_goals
        split at h
        · rename_i h0 h1 h2
          (try simp only [h0, h1, h2])
          split at h
          · rename_i p u hl
            (try simp only [hl])
            obtain ⟨hp, rfl⟩ := h
            exact ⟨hp, hR⟩
          · exact h.elim
        · exact h.elim
  all_goals
    split at h
    · rename_i c u hp
      (try simp only [hp])
      obtain ⟨hc, rfl⟩ := h
      exact ⟨hc, hR⟩
    · exact h.elim

theorem evV_move {o : Oper} {R : Value → Prop} (h : evV P W w0 o ρ M R) (hE : Ext w0 M M') (ha : ∀ t ∈ opTmps o, ρ' t = ρ t) : evV P W w0 o ρ' M' R := by
  have hp := pureOp_agree (P := P) ha
  have hx : ∀ x ∈ o.op.operands, ev ρ' x = ev ρ x := fun x hx => ev_agree ha hx
  clear ha
  unfold evV at h ⊢
  cases hop : o.op <;> simp only [hop] at h hx hp ⊢ <;> try exact h.elim
  case load T x =>
    rw [hx x (by simp [Op.operands])]
    split at h
    · rename_i b off hx hT
      (try simp only [hx, hT])
      cases hc : cellAt W w0 M b off with
      | none => rw [hc] at h; exact h.elim
      | some u => rw [hc] at h; rw [hE.cellAt hc]; exact h
    · rename_i b off n hx hT
      (try simp only [hx, hT])
      obtain ⟨hn, h⟩ := h
      cases hc : cellsAt W w0 M b off n with
      | none => rw [hc] at h; exact h.elim
      | some u => rw [hc] at h; rw [hE.cellsAt hn hc]; exact ⟨hn, h⟩
    · exact h.elim
  case call c =>
    have hm : c.args.toList.map (ev ρ') = c.args.toList.map (ev ρ) := by
      apply List.map_congr_left
      intro x hxa
      exact hx x (by simp only [Op.operands, Call.operands, Array.mem_append]; exact .inr (by simpa using hxa))
    cases hc : c.callee <;> simp only [hc] at h ⊢ <;> try exact h.elim
    case value f =>
      rw [hx f (by simp [Op.operands, Call.operands, hc]), hm]
      split at h
      · rename_i n first captured hf
        obtain ⟨u, h1, h2⟩ := h
        exact ⟨u, fun M'' hE' => h1 M'' (hE.trans hE'), h2⟩
      · exact h.elim
    case builtin b =>
      have hg : ∀ (i : Nat) x, c.args[i]? = some x → ev ρ' x = ev ρ x := fun i x hi => hx x (by
        simp only [Op.operands, Call.operands, Array.mem_append]; exact .inr (Array.mem_of_getElem? hi))
      cases b <;> simp only at h ⊢ <;> try exact h.elim
      all_goals
        split at h
        · rename_i h0 h1 h2
          (try simp only [h0, h1, h2])
          first
            | rw [hg 0 _ h0, hg 1 _ h1]
            | rw [hg 0 _ h0]
          exact h
        · exact h.elim
  all_goals
    rw [hp]
    exact h

theorem evV_evOp {o : Oper} {K : Env → Blks → Prop} (h : evV P W w0 o ρ M fun v => setD N ρ o.dst v (K · M)) : evOp P N W w0 o ρ M K := by
  unfold evV at h
  unfold evOp
  cases hop : o.op <;> simp only [hop] at h ⊢ <;> try exact h.elim
  case load T x =>
    split at h
    · rename_i b off hx hT; (try simp only [hx, hT]); exact h
    · rename_i b off n hx hT; (try simp only [hx, hT]); exact h.2
    · exact h.elim
  case call c =>
    cases hc : c.callee <;> simp only [hc] at h ⊢ <;> try exact h.elim
    case value f =>
      split at h
      · rename_i n first captured hf
        (try simp only [hf])
        obtain ⟨u, h1, h2⟩ := h
        exact (h1 M .refl).acall h2
      · exact h.elim
    case builtin b =>
      cases b <;> simp only at h ⊢ <;> first | exact h.elim | exact h
  all_goals
    split at h
    · rename_i hq; (try simp only [hq]); exact h
    · exact h.elim

theorem setD_mono {d : Option Tmp} {v : Value} {K K' : Env → Prop} (h : setD N ρ d v K) (hK : ∀ ρ', K ρ' → K' ρ') : setD N ρ d v K' := by
  cases d with
  | none => exact hK _ h
  | some t => exact ⟨h.1, hK _ h.2⟩

theorem bslQ_mono {d : Option Tmp} {T : TypeId} {len : Nat} {parts : List (Nat × Value)} {K K' : Env → Blks → Prop} (h : bslQ P N w0 d T len parts ρ M K) (hK : ∀ ρ' M', K ρ' M' → K' ρ' M') : bslQ P N w0 d T len parts ρ M K' := by
  unfold bslQ at h ⊢
  split at h
  · split at h
    · exact ⟨h.1, fun b hb => setD_mono (h.2 b hb) fun _ => hK _ _⟩
    · exact h.elim
  · exact h.elim
theorem mksQ_mono {d : Option Tmp} {T : TypeId} {l c : Value} {K K' : Env → Blks → Prop} (h : mksQ P N w0 d T l c ρ M K) (hK : ∀ ρ' M', K ρ' M' → K' ρ' M') : mksQ P N w0 d T l c ρ M K' := by
  unfold mksQ at h ⊢
  split at h
  · split at h
    · exact ⟨h.1, fun b hb => setD_mono (h.2 b hb) fun _ => hK _ _⟩
    · exact h.elim
  · exact h.elim
theorem appQ_mono {d : Option Tmp} {T : TypeId} {s x : Value} {K K' : Env → Blks → Prop} (h : appQ P N W w0 d T s x ρ M K) (hK : ∀ ρ' M', K ρ' M' → K' ρ' M') : appQ P N W w0 d T s x ρ M K' := by
  unfold appQ at h ⊢
  split at h
  · split at h
    · exact ⟨h.1, appIf_mono h.2 (fun hh => ⟨hh.1, fun b c r hb h1 h2 => setD_mono (hh.2 b c r hb h1 h2) fun _ => hK _ _⟩) fun hh => setD_mono hh fun _ => hK _ _⟩
    · exact h.elim
  · exact ⟨h.1, setD_mono h.2 fun _ => hK _ _⟩
  · split at h
    · exact ⟨h.1, fun b c r hb h1 h2 => setD_mono (h.2 b c r hb h1 h2) fun _ => hK _ _⟩
    · exact h.elim
  · exact h.elim

theorem apzQ_mono {d : Option Tmp} {T : TypeId} {s x : Value} {K K' : Env → Blks → Prop} (h : apzQ P N w0 d T s x ρ M K) (hK : ∀ ρ' M', K ρ' M' → K' ρ' M') : apzQ P N w0 d T s x ρ M K' := by
  unfold apzQ at h ⊢
  split at h
  · split at h
    · exact ⟨h.1, fun b c r hb h1 h2 => setD_mono (h.2 b c r hb h1 h2) fun _ => hK _ _⟩
    · exact h.elim
  · exact h.elim
theorem cvtQ_mono {d : Option Tmp} {op : Op} {K K' : Env → Blks → Prop} (h : cvtQ P N W w0 d op ρ M K) (hK : ∀ ρ' M', K ρ' M' → K' ρ' M') : cvtQ P N W w0 d op ρ M K' := by
  unfold cvtQ at h ⊢
  split at h
  · split at h
    · exact ⟨h.1, setD_mono h.2 fun _ => hK _ _⟩
    · split at h
      · exact ⟨h.1, setD_mono h.2 fun _ => hK _ _⟩
      · exact h.elim
    · exact h.elim
  · exact h.elim

theorem evOp_mono {o : Oper} {K K' : Env → Blks → Prop} (h : evOp P N W w0 o ρ M K) (hK : ∀ ρ' M', K ρ' M' → K' ρ' M') : evOp P N W w0 o ρ M K' := by
  unfold evOp at h ⊢
  cases hop : o.op <;> simp only [hop] at h ⊢ <;> try exact h.elim
  case load T x =>
    split at h
    · rename_i b off hx hT
      (try simp only [hx, hT])
      split at h
      · rename_i hc; (try simp only [hc]); exact setD_mono h fun _ => hK _ _
      · exact h.elim
    · rename_i b off n hx hT
      (try simp only [hx, hT])
      split at h
      · rename_i hc; (try simp only [hc]); exact setD_mono h fun _ => hK _ _
      · exact h.elim
    · exact h.elim
  case store T x y =>
    split at h
    · rename_i b off n hx hT hd
      (try simp only [hx, hT, hd])
      split at h
      · rename_i hf; (try simp only [hf]); exact ⟨h.1, hK _ _ h.2⟩
      · exact h.elim
    · exact h.elim
  case alloc T =>
    split at h
    · rename_i zs hz; (try simp only [hz]); exact fun b hb => setD_mono (h b hb) fun _ => hK _ _
    · exact h.elim
  case box T x => exact fun b hb => setD_mono (h b hb) fun _ => hK _ _
  case buildSlice T len parts => exact bslQ_mono h hK
  case makeSlice T l c => exact mksQ_mono h hK
  case call c =>
    cases hc : c.callee <;> simp only [hc] at h ⊢ <;> try exact h.elim
    case value f =>
      split at h
      · rename_i n first captured hf; (try simp only [hf]); exact ACall.mono P W w0 h fun v M' hs => setD_mono hs fun _ => hK _ _
      · exact h.elim
    case builtin b =>
      cases b <;> simp only at h ⊢ <;> try exact h.elim
      case append =>
        split at h
        · split at h
          · rename_i hz; (try simp only [hz]); exact ⟨h.1, appQ_mono h.2 hK⟩
          · rename_i hz; (try simp only [hz]); exact apzQ_mono h hK
        · exact h.elim
      all_goals
        split at h
        · rename_i h0 h1 h2
          (try simp only [h0, h1, h2])
          split at h
          · rename_i hl; (try simp only [hl]); exact ⟨h.1, setD_mono h.2 fun _ => hK _ _⟩
          · exact h.elim
        · exact h.elim
  all_goals
    split at h
    · rename_i hp; (try simp only [hp]); exact ⟨h.1, setD_mono h.2 fun _ => hK _ _⟩
    · rename_i hp; (try simp only [hp]); exact cvtQ_mono h hK

/-- An operation that reads, or lays a new block, and calls nothing. -/
def Oper.mild (o : Oper) : Bool :=
  o.guard.isNone &&
  match o.op with
  | .move _ | .assign _ | .pick .. | .binOp .. | .unOp .. | .convert .. | .nilCheck _ | .fieldAddr .. | .indexAddr .. | .index .. | .field .. | .extract .. | .makeFunc .. | .slice .. | .build .. | .load .. | .alloc _ | .box .. | .buildSlice .. => true
  | _ => false

theorem upd_comm (ρ : Env) {s t : Nat} (h : s ≠ t) (v u : Value) : upd (upd ρ s v) t u = upd (upd ρ t u) s v := by
  funext x
  unfold upd
  by_cases h1 : x = t
  · subst h1; rw [if_pos rfl, if_neg (fun e => h e.symm), if_pos rfl]
  · rw [if_neg h1]
    by_cases h2 : x = s
    · rw [if_pos h2, if_pos h2]
    · rw [if_neg h2, if_neg h2, if_neg h1]

theorem setD_frame {d : Option Tmp} {s : Nat} {v u : Value} {G : Env → Blks → Prop} {M' : Blks} (hs : d ≠ some s) (hE : Ext w0 M M') (h : setD N (upd ρ s v) d u (G · M')) :
    setD N ρ d u fun ρ' => G (upd ρ' s v) M' ∧ Ext w0 M M' ∧ ∀ t, d ≠ some t → ρ' t = ρ t := by
  cases d with
  | none => exact ⟨h, hE, fun _ _ => rfl⟩
  | some t =>
    refine ⟨h.1, ?_, hE, fun x hx => ?_⟩
    · rw [upd_comm ρ (s := t) (t := s) (fun e => hs (congrArg some e))]; exact h.2
    · unfold upd; rw [if_neg (fun e => hx (congrArg some e.symm))]

theorem bslQ_frame {d : Option Tmp} {T : TypeId} {len : Nat} {parts : List (Nat × Value)} {s : Nat} {v : Value} (hd : d ≠ some s) {G : Env → Blks → Prop} (h : bslQ P N w0 d T len parts (upd ρ s v) M G) :
    bslQ P N w0 d T len parts ρ M fun ρ' M' => G (upd ρ' s v) M' ∧ Ext w0 M M' ∧ ∀ t, d ≠ some t → ρ' t = ρ t := by
  unfold bslQ at h ⊢
  split at h
  · split at h
    · exact ⟨h.1, fun b hb => setD_frame hd (.cons .refl hb) (h.2 b hb)⟩
    · exact h.elim
  · exact h.elim

theorem cvtQ_frame {d : Option Tmp} {op : Op} {s : Nat} {v : Value} (hx : ∀ x ∈ op.operands, ev (upd ρ s v) x = ev ρ x) (hd : d ≠ some s) {G : Env → Blks → Prop} (h : cvtQ P N W w0 d op (upd ρ s v) M G) :
    cvtQ P N W w0 d op ρ M fun ρ' M' => G (upd ρ' s v) M' ∧ Ext w0 M M' ∧ ∀ t, d ≠ some t → ρ' t = ρ t := by
  unfold cvtQ at h ⊢
  split at h
  · rename_i T t x
    rw [hx x (by simp [Op.operands])] at h
    split at h
    · exact ⟨h.1, setD_frame hd .refl h.2⟩
    · split at h
      · exact ⟨h.1, setD_frame hd .refl h.2⟩
      · exact h.elim
    · exact h.elim
  · exact h.elim

theorem evOp_frame {o : Oper} (hm : Oper.mild o = true) {s : Nat} {v : Value} (hs : s ∉ opTmps o) (hd : o.dst ≠ some s) {G : Env → Blks → Prop} (h : evOp P N W w0 o (upd ρ s v) M G) :
    evOp P N W w0 o ρ M fun ρ' M' => G (upd ρ' s v) M' ∧ Ext w0 M M' ∧ ∀ t, o.dst ≠ some t → ρ' t = ρ t := by
  have ha : ∀ t ∈ opTmps o, (upd ρ s v) t = ρ t := fun t ht => by
    have hne : ¬ t = s := fun e => hs (by rw [← e]; exact ht)
    unfold upd; rw [if_neg hne]
  have hp := pureOp_agree (P := P) ha
  have hx : ∀ x ∈ o.op.operands, ev (upd ρ s v) x = ev ρ x := fun x hx => ev_agree ha hx
  clear ha
  unfold Oper.mild at hm
  simp only [Bool.and_eq_true] at hm
  obtain ⟨_, hm⟩ := hm
  unfold evOp at h ⊢
  cases hop : o.op <;> simp only [hop, Bool.false_eq_true] at h hm hx hp ⊢
  case load T x =>
    rw [hx x (by simp [Op.operands])] at h
    split at h
    · rename_i b off hx hT
      (try simp only [hx, hT])
      split at h
      · rename_i hc; (try simp only [hc]); exact setD_frame hd .refl h
      · exact h.elim
    · rename_i b off n hx hT
      (try simp only [hx, hT])
      split at h
      · rename_i hc; (try simp only [hc]); exact setD_frame hd .refl h
      · exact h.elim
    · exact h.elim
  case alloc T =>
    split at h
    · rename_i zs hz; (try simp only [hz]); exact fun b hb => setD_frame hd (.cons .refl hb) (h b hb)
    · exact h.elim
  case box T x =>
    rw [hx x (by simp [Op.operands])] at h
    exact fun b hb => setD_frame hd (.cons .refl hb) (h b hb)
  case buildSlice T len parts =>
    have e1 : (parts.toList.map (evP (upd ρ s v))) = parts.toList.map (evP ρ) := by
      apply List.map_congr_left
      intro p hpp
      rw [show ∀ r : Env, evP r p = (p.1, ev r p.2) from fun _ => rfl, show ∀ r : Env, evP r p = (p.1, ev r p.2) from fun _ => rfl, hx p.2 (by simp only [Op.operands, List.mem_toArray, List.mem_map]; exact ⟨p, hpp, rfl⟩)]
    rw [e1] at h
    exact bslQ_frame hd h
  all_goals
    rw [hp] at h
    split at h
    · rename_i hq; (try simp only [hq]); exact ⟨h.1, setD_frame hd .refl h.2⟩
    · rename_i hq; (try simp only [hq]); exact cvtQ_frame hx hd h

theorem setD_frame' (w0 : World) {d : Option Tmp} {s : Nat} {v u : Value} {G : Env → Blks → Prop} {M' : Blks} (hs : d ≠ some s) (h : setD N (upd ρ s v) d u (G · M')) :
    setD N ρ d u fun ρ' => G (upd ρ' s v) M' ∧ ∀ t, d ≠ some t → ρ' t = ρ t :=
  setD_mono (setD_frame (w0 := w0) hs .refl h) fun _ hh => ⟨hh.1, hh.2.2⟩

theorem bslQ_frame' {d : Option Tmp} {T : TypeId} {len : Nat} {parts : List (Nat × Value)} {s : Nat} {v : Value} (hd : d ≠ some s) {G : Env → Blks → Prop} (h : bslQ P N w0 d T len parts (upd ρ s v) M G) :
    bslQ P N w0 d T len parts ρ M fun ρ' M' => G (upd ρ' s v) M' ∧ ∀ t, d ≠ some t → ρ' t = ρ t := by
  unfold bslQ at h ⊢
  split at h
  · split at h
    · exact ⟨h.1, fun b hb => setD_frame' w0 hd (h.2 b hb)⟩
    · exact h.elim
  · exact h.elim
theorem mksQ_frame' {d : Option Tmp} {T : TypeId} {l c : Value} {s : Nat} {v : Value} (hd : d ≠ some s) {G : Env → Blks → Prop} (h : mksQ P N w0 d T l c (upd ρ s v) M G) :
    mksQ P N w0 d T l c ρ M fun ρ' M' => G (upd ρ' s v) M' ∧ ∀ t, d ≠ some t → ρ' t = ρ t := by
  unfold mksQ at h ⊢
  split at h
  · split at h
    · exact ⟨h.1, fun b hb => setD_frame' w0 hd (h.2 b hb)⟩
    · exact h.elim
  · exact h.elim
theorem appQ_frame' {d : Option Tmp} {T : TypeId} {x y : Value} {s : Nat} {v : Value} (hd : d ≠ some s) {G : Env → Blks → Prop} (h : appQ P N W w0 d T x y (upd ρ s v) M G) :
    appQ P N W w0 d T x y ρ M fun ρ' M' => G (upd ρ' s v) M' ∧ ∀ t, d ≠ some t → ρ' t = ρ t := by
  unfold appQ at h ⊢
  split at h
  · split at h
    · exact ⟨h.1, appIf_mono h.2 (fun hh => ⟨hh.1, fun b c r hb h1 h2 => setD_frame' w0 hd (hh.2 b c r hb h1 h2)⟩) fun hh => setD_frame' w0 hd hh⟩
    · exact h.elim
  · exact ⟨h.1, setD_frame' w0 hd h.2⟩
  · split at h
    · exact ⟨h.1, fun b c r hb h1 h2 => setD_frame' w0 hd (h.2 b c r hb h1 h2)⟩
    · exact h.elim
  · exact h.elim

theorem apzQ_frame' {d : Option Tmp} {T : TypeId} {x y : Value} {s : Nat} {v : Value} (hd : d ≠ some s) {G : Env → Blks → Prop} (h : apzQ P N w0 d T x y (upd ρ s v) M G) :
    apzQ P N w0 d T x y ρ M fun ρ' M' => G (upd ρ' s v) M' ∧ ∀ t, d ≠ some t → ρ' t = ρ t := by
  unfold apzQ at h ⊢
  split at h
  · split at h
    · exact ⟨h.1, fun b c r hb h1 h2 => setD_frame' w0 hd (h.2 b c r hb h1 h2)⟩
    · exact h.elim
  · exact h.elim
theorem cvtQ_frame' {d : Option Tmp} {op : Op} {s : Nat} {v : Value} (hx : ∀ x ∈ op.operands, ev (upd ρ s v) x = ev ρ x) (hd : d ≠ some s) {G : Env → Blks → Prop} (h : cvtQ P N W w0 d op (upd ρ s v) M G) :
    cvtQ P N W w0 d op ρ M fun ρ' M' => G (upd ρ' s v) M' ∧ ∀ t, d ≠ some t → ρ' t = ρ t := cvtQ_mono (cvtQ_frame hx hd h) fun _ _ hh => ⟨hh.1, hh.2.2⟩

theorem evOp_frame' {o : Oper} {s : Nat} {v : Value} (hs : s ∉ opTmps o) (hd : o.dst ≠ some s) {G : Env → Blks → Prop} (h : evOp P N W w0 o (upd ρ s v) M G) :
    evOp P N W w0 o ρ M fun ρ' M' => G (upd ρ' s v) M' ∧ ∀ t, o.dst ≠ some t → ρ' t = ρ t := by
  have ha : ∀ t ∈ opTmps o, (upd ρ s v) t = ρ t := fun t ht => by
    have hne : ¬ t = s := fun e => hs (by rw [← e]; exact ht)
    unfold upd; rw [if_neg hne]
  have hp := pureOp_agree (P := P) ha
  have hx : ∀ x ∈ o.op.operands, ev (upd ρ s v) x = ev ρ x := fun x hx => ev_agree ha hx
  clear ha
  unfold evOp at h ⊢
  cases hop : o.op <;> simp only [hop] at h hx hp ⊢ <;> try exact h.elim
  case load T x =>
    rw [hx x (by simp [Op.operands])] at h
    split at h
    · rename_i b off hx hT
      (try simp only [hx, hT])
      split at h
      · rename_i hc; (try simp only [hc]); exact setD_frame' w0 hd h
      · exact h.elim
    · rename_i b off n hx hT
      (try simp only [hx, hT])
      split at h
      · rename_i hc; (try simp only [hc]); exact setD_frame' w0 hd h
      · exact h.elim
    · exact h.elim
  case store T x y =>
    rw [hx x (by simp [Op.operands]), hx y (by simp [Op.operands])] at h
    split at h
    · rename_i b off n hx hT hds
      (try simp only [hx, hT, hds])
      split at h
      · rename_i hf; (try simp only [hf]); exact ⟨h.1, h.2, fun _ _ => by first | rfl | trivial⟩
      · exact h.elim
    · exact h.elim
  case alloc T =>
    split at h
    · rename_i zs hz; (try simp only [hz]); exact fun b hb => setD_frame' w0 hd (h b hb)
    · exact h.elim
  case box T x =>
    rw [hx x (by simp [Op.operands])] at h
    exact fun b hb => setD_frame' w0 hd (h b hb)
  case buildSlice T len parts =>
    have e1 : (parts.toList.map (evP (upd ρ s v))) = parts.toList.map (evP ρ) := by
      apply List.map_congr_left
      intro p hpp
      rw [show ∀ r : Env, evP r p = (p.1, ev r p.2) from fun _ => rfl, show ∀ r : Env, evP r p = (p.1, ev r p.2) from fun _ => rfl, hx p.2 (by simp only [Op.operands, List.mem_toArray, List.mem_map]; exact ⟨p, hpp, rfl⟩)]
    rw [e1] at h
    exact bslQ_frame' hd h
  case makeSlice T l c =>
    rw [hx l (by simp [Op.operands]), hx c (by simp [Op.operands])] at h
    exact mksQ_frame' hd h
  case call c =>
    have hm : c.args.toList.map (ev (upd ρ s v)) = c.args.toList.map (ev ρ) := by
      apply List.map_congr_left
      intro x hxa
      exact hx x (by simp only [Op.operands, Call.operands, Array.mem_append]; exact .inr (by simpa using hxa))
    cases hc : c.callee <;> simp only [hc] at h ⊢ <;> try exact h.elim
    case value f =>
      rw [hx f (by simp [Op.operands, Call.operands, hc]), hm] at h
      split at h
      · rename_i n first captured hf
        (try simp only [hf])
        exact ACall.mono P W w0 h fun v M' hs => setD_frame' w0 hd hs
      · exact h.elim
    case builtin b =>
      have hg : ∀ (i : Nat) x, c.args[i]? = some x → ev (upd ρ s v) x = ev ρ x := fun i x hi => hx x (by
        simp only [Op.operands, Call.operands, Array.mem_append]; exact .inr (Array.mem_of_getElem? hi))
      cases b <;> simp only at h ⊢ <;> try exact h.elim
      case append =>
        split at h
        · rename_i x y T T' ha0 ht0
          have e0 : c.args[0]? = some x := by rw [← Array.getElem?_toList, ha0]; rfl
          have e1 : c.args[1]? = some y := by rw [← Array.getElem?_toList, ha0]; rfl
          rw [hg 0 x e0, hg 1 y e1] at h
          split at h
          · rename_i hz; (try simp only [hz]); exact ⟨h.1, appQ_frame' hd h.2⟩
          · rename_i hz; (try simp only [hz]); exact apzQ_frame' hd h
        · exact h.elim
      all_goals
        split at h
        · rename_i h0 h1 h2
          (try simp only [h0, h1, h2])
          first
            | rw [hg 0 _ h0, hg 1 _ h1] at h
            | rw [hg 0 _ h0] at h
          split at h
          · rename_i hl; (try simp only [hl]); exact ⟨h.1, setD_frame' w0 hd h.2⟩
          · exact h.elim
        · exact h.elim
  all_goals
    rw [hp] at h
    split at h
    · rename_i hq; (try simp only [hq]); exact ⟨h.1, setD_frame' w0 hd h.2⟩
    · rename_i hq; (try simp only [hq]); exact cvtQ_frame' hx hd h

/-- An operation that looks at no memory. -/
def Oper.pureB (o : Oper) : Bool :=
  match o.op with
  | .move _ | .assign _ | .pick .. | .binOp .. | .unOp .. | .convert .. | .nilCheck _ | .fieldAddr .. | .indexAddr .. | .index .. | .field .. | .extract .. | .makeFunc .. | .slice .. | .build .. => true
  | _ => false

theorem evV_pure {o : Oper} {R : Value → Prop} (hb : Oper.pureB o = true) (h : evV P W w0 o ρ M R) (ha : ∀ t ∈ opTmps o, ρ' t = ρ t) : evV P W w0 o ρ' M' R := by
  have hp := pureOp_agree (P := P) ha
  unfold Oper.pureB at hb
  unfold evV at h ⊢
  cases hop : o.op <;> simp only [hop, Bool.false_eq_true] at h hb hp ⊢
  all_goals
    rw [hp]
    exact h

/-! ### Every order -/

variable (P N W w0)

def evGd (ops : Array Oper) (j : Nat) (want : Bool) (o : Oper) (ρ : Env) (M : Blks) (K : Env → Blks → Prop) : Prop :=
  match (ops[j]?).bind (·.dst) with
  | none => False
  | some d => match gate (ρ d) with
    | none => setD N ρ o.dst undef fun ρ' => K ρ' M
    | some b => guardQ b want (evOp P N W w0 o (upd ρ d (.bool want)) M K) (setD N (upd ρ d (.bool (!want))) o.dst undef fun ρ' => K ρ' M)

/-- An operation, whether it has a guard or not. -/
def evG (ops : Array Oper) (o : Oper) (ρ : Env) (M : Blks) (K : Env → Blks → Prop) : Prop :=
  match o.guard with
  | none => evOp P N W w0 o ρ M K
  | some (j, want) => evGd P N W w0 ops j want o ρ M K

def anyE (X : List Nat) (ops : Array Oper) (K : Env → Blks → Prop) : Nat → Array Bool → Env → Blks → Prop
  | 0, listed, ρ, M => Region.ready .any ops listed = [] ∧ K ρ M
  | f + 1, listed, ρ, M => (Region.ready .any ops listed = [] → K ρ M) ∧
    ∀ i ∈ Region.ready .any ops listed, ∀ o, ops[i]? = some o → evG P N W w0 ops o ρ M fun ρ' M' => (i ∈ X → Ext w0 M M') ∧ anyE X ops K f (listed.setIfInBounds i true) ρ' M'

variable {P N W w0}

theorem evG_none {ops : Array Oper} {o : Oper} {ρ : Env} {M : Blks} {K : Env → Blks → Prop} (h : o.guard = none) : evG P N W w0 ops o ρ M K = evOp P N W w0 o ρ M K := by
  unfold evG; rw [h]
theorem setD_mono2 {ρ : Env} {d : Option Tmp} {v : Value} {K K' : Env → Prop} (h : setD N ρ d v K) (hK : ∀ ρ', K ρ' → K' ρ') : setD N ρ d v K' := by
  unfold setD at h ⊢
  split at h
  · exact hK _ h
  · exact ⟨h.1, hK _ h.2⟩
theorem evG_mono {ops : Array Oper} {o : Oper} {ρ : Env} {M : Blks} {K K' : Env → Blks → Prop} (h : evG P N W w0 ops o ρ M K) (hK : ∀ ρ' M', K ρ' M' → K' ρ' M') : evG P N W w0 ops o ρ M K' := by
  unfold evG at h ⊢
  split at h
  · exact evOp_mono h hK
  · unfold evGd at h ⊢
    split at h
    · exact h.elim
    · split at h
      · exact setD_mono2 h fun ρ' hh => hK ρ' _ hh
      · exact ⟨fun e => evOp_mono (h.1 e) hK, fun e => setD_mono2 (h.2 e) fun ρ' hh => hK ρ' _ hh⟩

theorem wpAny_of {X : List Nat} {ops : Array Oper} {K : Env → Blks → Prop} {Q : Exit → Act → World → Prop} (hK : ∀ ρ M a w, K ρ M → St N ρ a → Own W w0 M w → Q .normal a w) :
    ∀ (f : Nat) (listed : Array Bool) (ρ : Env) (M : Blks) (a : Act) (w : World), anyE P N W w0 X ops K f listed ρ M → St N ρ a → Own W w0 M w → wpAny P .any ops Q f listed a w
  | 0, listed, ρ, M, a, w, h, ha, hw => ⟨h.1, hK ρ M a w h.2 ha hw⟩
  | f + 1, listed, ρ, M, a, w, h, ha, hw => by
    refine ⟨fun h0 => hK ρ M a w (h.1 h0) ha hw, fun i hi => ?_⟩
    unfold wpOp
    split
    · rename_i ho
      obtain ⟨_, o, ho', _⟩ := mem_ready.1 hi
      rw [ho'] at ho; cases ho
    · rename_i o ho
      have he := h.2 i hi o ho
      have go : ∀ (hh : evOp P N W w0 o ρ M fun ρ' M' => (i ∈ X → Ext w0 M M') ∧ anyE P N W w0 X ops K f (listed.setIfInBounds i true) ρ' M'), _ := fun hh => evOp_goes P N W w0 hh a w (wpAny P .any ops Q f (listed.setIfInBounds i true)) Q ha hw fun ρ' M' a' w' hk ha' hw' => wpAny_of hK f _ ρ' M' a' w' hk.2 ha' hw'
      have skip : ∀ (hh : setD N ρ o.dst undef fun ρ' => (i ∈ X → Ext w0 M M) ∧ anyE P N W w0 X ops K f (listed.setIfInBounds i true) ρ' M), wpAny P .any ops Q f (listed.setIfInBounds i true) (a.put o.dst undef) w := fun hh => by
        obtain ⟨ρ', h1, h2⟩ := ha.put N hh
        exact wpAny_of hK f _ ρ' M _ w h2.2 h1 hw
      unfold evG at he
      split at he
      · rename_i hg
        rw [if_pos (by unfold Region.wanted; rw [hg])]
        exact .inl (go he)
      · rename_i j want hg
        unfold evGd at he
        split at he
        · exact he.elim
        · rename_i d hd
          rw [St.wanted N ha hg hd]
          split at he
          · rename_i hn
            rw [hn, if_neg (by simp)]
            exact skip he
          · rename_i b hb
            rw [hb]
            by_cases hbw : b = want
            · rw [if_pos (by simp [hbw])]
              subst hbw
              have h1 := he.1 rfl
              rw [upd_gate hb] at h1
              exact .inl (go h1)
            · rw [if_neg (by simpa using hbw)]
              have hnb : b = !want := by cases b <;> cases want <;> simp_all
              have h2 := he.2 hnb
              rw [← hnb, upd_gate hb] at h2
              exact skip h2

/-- j comes behind i, by at most so many steps. -/
def waitsB (ops : Array Oper) : Nat → Nat → Nat → Bool
  | 0, _, _ => false
  | d + 1, j, i => match ops[j]? with
    | none => false
    | some o => o.after.any fun e => Region.binds .any e && (e.on == i || waitsB ops d e.on i)

def Closed (ops : Array Oper) (listed : Array Bool) : Prop := ∀ (j : Nat) (o : Oper), ops[j]? = some o → listed.getD j false = true → ∀ e ∈ o.after, Region.binds .any e = true → listed.getD e.on false = true

theorem waits_open {ops : Array Oper} {listed : Array Bool} (hc : Closed ops listed) {i : Nat} (hi : listed.getD i false = false) : ∀ (d j : Nat), waitsB ops d j i = true → listed.getD j false = false
  | 0, j, h => by simp [waitsB] at h
  | d + 1, j, h => by
    unfold waitsB at h
    split at h
    · cases h
    · rename_i o ho
      obtain ⟨e, he, hb⟩ := Array.any_eq_true'.1 h
      simp only [Bool.and_eq_true, Bool.or_eq_true, beq_iff_eq] at hb
      cases hl : listed.getD j false with
      | false => rfl
      | true =>
        have h1 := hc j o ho hl e he hb.1
        rcases hb.2 with h2 | h2
        · rw [h2, hi] at h1; cases h1
        · rw [waits_open hc hi d e.on h2] at h1; cases h1

theorem waits_not_ready {ops : Array Oper} {listed : Array Bool} (hc : Closed ops listed) {i j d : Nat} (hi : listed.getD i false = false) (h : waitsB ops d j i = true) : j ∉ Region.ready .any ops listed := by
  intro hr
  obtain ⟨_, o, ho, hall⟩ := mem_ready.1 hr
  cases d with
  | zero => simp [waitsB] at h
  | succ d =>
    unfold waitsB at h
    rw [ho] at h
    obtain ⟨e, he, hb⟩ := Array.any_eq_true'.1 h
    simp only [Bool.and_eq_true, Bool.or_eq_true, beq_iff_eq] at hb
    have h1 := hall e he hb.1
    rcases hb.2 with h2 | h2
    · rw [h2, hi] at h1; cases h1
    · rw [waits_open hc hi d e.on h2] at h1; cases h1

/-- Two operations neither of which looks at what the other lays. -/
def Oper.apartB (x y : Oper) : Bool :=
  match x.dst with
  | none => false
  | some s => !(opTmps y).contains s && y.dst != some s && (match y.dst with | none => true | some t => !(opTmps x).contains t)

/-- i may be taken first: every other that is still open comes behind it, or is mild and apart. -/
def freeB (X : List Nat) (ops : Array Oper) (listed : Array Bool) (i : Nat) (oi : Oper) : Bool :=
  (List.range ops.size).all fun j => listed.getD j true || j == i || waitsB ops 6 j i || match ops[j]? with | some oj => (Oper.mild oj || X.contains j && oj.guard.isNone || (Oper.pureB oi && oj.guard.isNone)) && Oper.apartB oi oj | none => true

theorem getD_tf {listed : Array Bool} {i : Nat} (h : listed.getD i true = false) : listed.getD i false = false := by
  rw [Array.getD_eq_getD_getElem?] at h ⊢
  cases hl : listed[i]? with
  | none => rw [hl] at h; cases h
  | some b => rw [hl] at h; exact h

theorem Closed.set {ops : Array Oper} {listed : Array Bool} (hc : Closed ops listed) {i : Nat} (hr : i ∈ Region.ready .any ops listed) : Closed ops (listed.setIfInBounds i true) := by
  intro j o ho hl e he hb
  by_cases hij : i = j
  · subst hij
    obtain ⟨_, o', ho', hall⟩ := mem_ready.1 hr
    rw [ho'] at ho; cases ho
    exact getD_set_true (hall e he hb)
  · rw [getD_set_ne false hij] at hl
    exact getD_set_true (hc j o ho hl e he hb)

theorem freeB_spec {X : List Nat} {ops : Array Oper} {listed : Array Bool} {i j : Nat} {oi oj : Oper} (h : freeB X ops listed i oi = true) (hj : ops[j]? = some oj) (hne : j ≠ i) (hun : listed.getD j true = false) :
    waitsB ops 6 j i = true ∨ ((Oper.mild oj = true ∨ j ∈ X ∨ Oper.pureB oi = true) ∧ Oper.apartB oi oj = true ∧ oj.guard = none) := by
  unfold freeB at h
  have hlt : j < ops.size := (Array.getElem?_eq_some_iff.1 hj).1
  have := List.all_eq_true.1 h j (List.mem_range.2 hlt)
  rw [hun, hj] at this
  simp only [Bool.false_or, Bool.or_eq_true, beq_iff_eq, Bool.and_eq_true] at this
  rcases this with (h1 | h1) | h1
  · exact absurd h1 hne
  · exact .inl h1
  · refine .inr ⟨?_, h1.2, ?_⟩
    · rcases h1.1 with (h2 | h2) | h2
      · exact .inl h2
      · exact .inr (.inl (List.contains_iff_mem.1 h2.1))
      · exact .inr (.inr h2.1)
    rcases h1.1 with (h2 | h2) | h2
    · unfold Oper.mild at h2
      simp only [Bool.and_eq_true, Option.isNone_iff_eq_none] at h2
      exact h2.1
    · simpa using h2.2
    · simpa using h2.2

theorem freeB_set {X : List Nat} {ops : Array Oper} {listed : Array Bool} {i k : Nat} {oi : Oper} (h : freeB X ops listed i oi = true) : freeB X ops (listed.setIfInBounds k true) i oi = true := by
  unfold freeB at h ⊢
  refine List.all_eq_true.2 fun j hj => ?_
  have := List.all_eq_true.1 h j hj
  by_cases hkj : k = j
  · subst hkj
    have ht : (listed.setIfInBounds k true).getD k true = true := by
      rw [Array.getD_eq_getD_getElem?, Array.getElem?_setIfInBounds]
      rw [if_pos rfl]
      split <;> rfl
    rw [ht]; rfl
  · rw [getD_set_ne true hkj]; exact this

theorem anyE_take {X : List Nat} {ops : Array Oper} {K : Env → Blks → Prop} {i d : Nat} {oi : Oper} {v : Value} (hi : ops[i]? = some oi) (hd : oi.dst = some d) (hg : oi.guard = none) (hN : d < N) :
    ∀ (f : Nat) (listed : Array Bool) (ρ : Env) (M : Blks), Closed ops listed → freeB X ops listed i oi = true → i ∈ Region.ready .any ops listed → evV P W w0 oi ρ M (· = v) →
      anyE P N W w0 X ops K f (listed.setIfInBounds i true) (upd ρ d v) M → anyE P N W w0 X ops K (f + 1) listed ρ M := by
  intro f
  induction f with
  | zero =>
    intro listed ρ M hc hf hr hv H
    refine ⟨fun h0 => (by rw [h0] at hr; cases hr), fun j hj o ho => ?_⟩
    by_cases hji : j = i
    · subst hji
      rw [hi] at ho; cases ho
      rw [evG_none hg]
      refine evV_evOp (evV_mono hv ?_)
      rw [hd]
      exact ⟨hN, fun _ => .refl, H⟩
    · have := ready_mono hj hji
      rw [H.1] at this
      cases this
  | succ f ih =>
    intro listed ρ M hc hf hr hv H
    refine ⟨fun h0 => (by rw [h0] at hr; cases hr), fun j hj o ho => ?_⟩
    by_cases hji : j = i
    · subst hji
      rw [hi] at ho; cases ho
      rw [evG_none hg]
      refine evV_evOp (evV_mono hv ?_)
      rw [hd]
      exact ⟨hN, fun _ => .refl, H⟩
    · have he := H.2 j (ready_mono hj hji) o ho
      have hun := (mem_ready.1 hj).1
      have hiun := getD_tf (mem_ready.1 hr).1
      rcases freeB_spec hf ho hji hun with hw | ⟨hm, hap, hgj⟩
      · exact absurd hj (waits_not_ready hc hiun hw)
      · unfold Oper.apartB at hap
        rw [hd] at hap
        simp only [Bool.and_eq_true, Bool.not_eq_true', bne_iff_ne, ne_eq] at hap
        obtain ⟨⟨h1, h2⟩, h3⟩ := hap
        have h1' : d ∉ opTmps o := fun hmem => by rw [List.contains_iff_mem.2 hmem] at h1; cases h1
        have hd3 : ∀ t ∈ opTmps oi, o.dst ≠ some t := fun t ht e => by
          rw [e] at h3
          simp only at h3
          rw [List.contains_iff_mem.2 ht] at h3
          cases h3
        rw [evG_none hgj] at he ⊢
        rcases hm with hm | hm | hm
        · refine evOp_mono (evOp_frame hm h1' h2 he) ?_
          rintro ρ' M' ⟨⟨_, hH⟩, hE, hag⟩
          rw [Array.setIfInBounds_comm _ _ (fun e => hji e.symm)] at hH
          exact ⟨fun _ => hE, ih _ ρ' M' (hc.set hj) (freeB_set hf) (ready_mono hr (fun e => hji e.symm)) (evV_move hv hE fun t ht => hag t (hd3 t ht)) hH⟩
        · refine evOp_mono (evOp_frame' h1' h2 he) ?_
          rintro ρ' M' ⟨⟨hE, hH⟩, hag⟩
          rw [Array.setIfInBounds_comm _ _ (fun e => hji e.symm)] at hH
          exact ⟨hE, ih _ ρ' M' (hc.set hj) (freeB_set hf) (ready_mono hr (fun e => hji e.symm)) (evV_move hv (hE hm) fun t ht => hag t (hd3 t ht)) hH⟩
        · refine evOp_mono (evOp_frame' h1' h2 he) ?_
          rintro ρ' M' ⟨⟨hE, hH⟩, hag⟩
          rw [Array.setIfInBounds_comm _ _ (fun e => hji e.symm)] at hH
          exact ⟨hE, ih _ ρ' M' (hc.set hj) (freeB_set hf) (ready_mono hr (fun e => hji e.symm)) (evV_pure hm hv fun t ht => hag t (hd3 t ht)) hH⟩

/-! ### Plans -/

inductive Plan
  | done
  | take (i : Nat) (p : Plan)
  | one (i : Nat) (p : Plan)
  | more (i : Nat) (p : Plan) (q : Plan)
  | onx (i : Nat) (p : Plan)
  | mox (i : Nat) (p : Plan) (q : Plan)

def Plan.depth : Plan → Nat
  | .done => 0
  | .take _ p | .one _ p | .onx _ p => p.depth + 1
  | .more _ p q | .mox _ p q => max (p.depth + 1) q.depth

def Plan.firsts : Plan → List Nat
  | .more i _ q | .mox i _ q => i :: q.firsts
  | .one i _ | .onx i _ => [i]
  | _ => []

/-- The calls of a plan that leave all memory as it is. -/
def Plan.xs : Plan → List Nat
  | .done => []
  | .take _ p | .one _ p => p.xs
  | .more _ p q => p.xs ++ q.xs
  | .onx i p => i :: p.xs
  | .mox i p q => i :: (p.xs ++ q.xs)

def Plan.ok (X : List Nat) (ops : Array Oper) : Plan → Bool → Array Bool → Bool
  | .done, c, l => c && Region.ready .any ops l == []
  | .take i p, c, l => c && (Region.ready .any ops l).contains i && (match ops[i]? with | some o => o.guard.isNone && o.dst.isSome && freeB X ops l i o | none => false) && p.ok X ops true (l.setIfInBounds i true)
  | .one i p, c, l => (!c || Region.ready .any ops l == [i]) && ops[i]?.isSome && !X.contains i && p.ok X ops true (l.setIfInBounds i true)
  | .more i p q, c, l => (!c || Region.ready .any ops l == i :: q.firsts) && ops[i]?.isSome && !X.contains i && p.ok X ops true (l.setIfInBounds i true) && q.ok X ops false l
  | .onx i p, c, l => (!c || Region.ready .any ops l == [i]) && ops[i]?.isSome && p.ok X ops true (l.setIfInBounds i true)
  | .mox i p q, c, l => (!c || Region.ready .any ops l == i :: q.firsts) && ops[i]?.isSome && p.ok X ops true (l.setIfInBounds i true) && q.ok X ops false l

variable (P N W w0)

def evPlan (ops : Array Oper) : Plan → Env → Blks → (Env → Blks → Prop) → Prop
  | .done, ρ, M, K => K ρ M
  | .take i p, ρ, M, K => match ops[i]? with
    | some o => evV P W w0 o ρ M fun v => setD N ρ o.dst v fun ρ' => evPlan ops p ρ' M K
    | none => False
  | .one i p, ρ, M, K => match ops[i]? with
    | some o => match o.guard with
      | none => evOp P N W w0 o ρ M fun ρ' M' => evPlan ops p ρ' M' K
      | some (j, want) => evGd P N W w0 ops j want o ρ M fun ρ' M' => evPlan ops p ρ' M' K
    | none => False
  | .more i p q, ρ, M, K => match ops[i]? with
    | some o => (match o.guard with
      | none => evOp P N W w0 o ρ M fun ρ' M' => evPlan ops p ρ' M' K
      | some (j, want) => evGd P N W w0 ops j want o ρ M fun ρ' M' => evPlan ops p ρ' M' K) ∧ evPlan ops q ρ M K
    | none => False
  | .onx i p, ρ, M, K => match ops[i]? with
    | some o => match o.guard with
      | none => evOp P N W w0 o ρ M fun ρ' M' => Ext w0 M M' ∧ evPlan ops p ρ' M' K
      | some _ => False
    | none => False
  | .mox i p q, ρ, M, K => match ops[i]? with
    | some o => (match o.guard with
      | none => evOp P N W w0 o ρ M fun ρ' M' => Ext w0 M M' ∧ evPlan ops p ρ' M' K
      | some _ => False) ∧ evPlan ops q ρ M K
    | none => False

variable {P N W w0}

theorem evPlan_any {X : List Nat} {ops : Array Oper} {K : Env → Blks → Prop} : ∀ (p : Plan) (f : Nat) (c : Bool) (l : Array Bool) (ρ : Env) (M : Blks), p.ok X ops c l = true → p.depth ≤ f → Closed ops l → evPlan P N W w0 ops p ρ M K →
    (c = true → anyE P N W w0 X ops K f l ρ M) ∧
    (∀ i ∈ p.firsts, i ∈ Region.ready .any ops l → ∀ o, ops[i]? = some o → ∃ g, f = g + 1 ∧ evG P N W w0 ops o ρ M fun ρ' M' => (i ∈ X → Ext w0 M M') ∧ anyE P N W w0 X ops K g (l.setIfInBounds i true) ρ' M')
  | .done, f, c, l, ρ, M, hok, _, _, h => by
    simp only [Plan.ok, Bool.and_eq_true, beq_iff_eq] at hok
    refine ⟨fun _ => ?_, fun i hi => by simp [Plan.firsts] at hi⟩
    cases f with
    | zero => exact ⟨hok.2, h⟩
    | succ f => exact ⟨fun _ => h, fun i hi => by rw [hok.2] at hi; cases hi⟩
  | .take i p, f, c, l, ρ, M, hok, hd, hc, h => by
    simp only [Plan.ok, Bool.and_eq_true] at hok
    obtain ⟨⟨⟨_, h1⟩, h2⟩, h3⟩ := hok
    refine ⟨fun _ => ?_, fun i hi => by simp [Plan.firsts] at hi⟩
    simp only [evPlan] at h
    simp only [Plan.depth] at hd
    cases ho : ops[i]? with
    | none => rw [ho] at h; exact h.elim
    | some o =>
      rw [ho] at h h2
      simp only [Bool.and_eq_true, Option.isNone_iff_eq_none] at h2
      obtain ⟨⟨hg, hds⟩, hfr⟩ := h2
      obtain ⟨d, hds⟩ := Option.isSome_iff_exists.1 hds
      obtain ⟨f, rfl⟩ : ∃ g, f = g + 1 := ⟨f - 1, by omega⟩
      obtain ⟨v, hv, hs⟩ := evV_get h
      rw [hds] at hs
      have hr : i ∈ Region.ready .any ops l := List.contains_iff_mem.1 h1
      exact anyE_take ho hds hg hs.1 f l ρ M hc hfr hr hv ((evPlan_any p f true _ _ M h3 (by omega) (hc.set hr) hs.2).1 rfl)
  | .one i p, f, c, l, ρ, M, hok, hd, hc, h => by
    simp only [Plan.ok, Bool.and_eq_true] at hok
    obtain ⟨⟨⟨h1, h2⟩, hx⟩, h3⟩ := hok
    have hx : ¬ i ∈ X := fun hm => by rw [List.contains_iff_mem.2 hm] at hx; cases hx
    simp only [evPlan] at h
    simp only [Plan.depth] at hd
    cases ho : ops[i]? with
    | none => rw [ho] at h; exact h.elim
    | some o =>
      rw [ho] at h
      have h : evG P N W w0 ops o ρ M fun ρ' M' => evPlan P N W w0 ops p ρ' M' K := h
      have h : evG P N W w0 ops o ρ M fun ρ' M' => (i ∈ X → Ext w0 M M') ∧ evPlan P N W w0 ops p ρ' M' K := evG_mono h fun _ _ hh => ⟨fun hm => absurd hm hx, hh⟩
      obtain ⟨f, rfl⟩ : ∃ g, f = g + 1 := ⟨f - 1, by omega⟩
      have step : i ∈ Region.ready .any ops l → evG P N W w0 ops o ρ M fun ρ' M' => (i ∈ X → Ext w0 M M') ∧ anyE P N W w0 X ops K f (l.setIfInBounds i true) ρ' M' := fun hr =>
        evG_mono h fun ρ' M' hp => ⟨hp.1, (evPlan_any p f true _ ρ' M' h3 (by omega) (hc.set hr) hp.2).1 rfl⟩
      refine ⟨fun hct => ?_, fun j hj hjr oj hoj => ?_⟩
      · subst hct
        simp only [Bool.not_true, Bool.false_or, beq_iff_eq] at h1
        have hr : i ∈ Region.ready .any ops l := by rw [h1]; exact List.mem_singleton.2 rfl
        refine ⟨fun h0 => (by rw [h0] at h1; cases h1), fun j hj oj hoj => ?_⟩
        rw [h1] at hj
        have := List.mem_singleton.1 hj
        subst this
        rw [ho] at hoj; cases hoj
        exact step hr
      · have := List.mem_singleton.1 hj
        subst this
        rw [ho] at hoj; cases hoj
        exact ⟨f, rfl, step hjr⟩
  | .more i p q, f, c, l, ρ, M, hok, hd, hc, h => by
    simp only [Plan.ok, Bool.and_eq_true] at hok
    obtain ⟨⟨⟨⟨h1, h2⟩, hx⟩, h3⟩, h4⟩ := hok
    have hx : ¬ i ∈ X := fun hm => by rw [List.contains_iff_mem.2 hm] at hx; cases hx
    simp only [evPlan] at h
    simp only [Plan.depth] at hd
    cases ho : ops[i]? with
    | none => rw [ho] at h; exact h.elim
    | some o =>
      rw [ho] at h
      obtain ⟨f, rfl⟩ : ∃ g, f = g + 1 := ⟨f - 1, by omega⟩
      have hq := (evPlan_any q (f + 1) false l ρ M h4 (by omega) hc h.2).2
      have hh : evG P N W w0 ops o ρ M fun ρ' M' => evPlan P N W w0 ops p ρ' M' K := h.1
      have hh : evG P N W w0 ops o ρ M fun ρ' M' => (i ∈ X → Ext w0 M M') ∧ evPlan P N W w0 ops p ρ' M' K := evG_mono hh fun _ _ hh => ⟨fun hm => absurd hm hx, hh⟩
      have all : ∀ j ∈ i :: q.firsts, j ∈ Region.ready .any ops l → ∀ oj, ops[j]? = some oj → ∃ g, f + 1 = g + 1 ∧ evG P N W w0 ops oj ρ M fun ρ' M' => (j ∈ X → Ext w0 M M') ∧ anyE P N W w0 X ops K g (l.setIfInBounds j true) ρ' M' := by
        intro j hj hjr oj hoj
        rcases List.mem_cons.1 hj with rfl | hj
        · rw [ho] at hoj; cases hoj
          exact ⟨f, rfl, evG_mono hh fun ρ' M' hp => ⟨hp.1, (evPlan_any p f true _ ρ' M' h3 (by omega) (hc.set hjr) hp.2).1 rfl⟩⟩
        · exact hq j hj hjr oj hoj
      refine ⟨fun hct => ?_, all⟩
      subst hct
      simp only [Bool.not_true, Bool.false_or, beq_iff_eq] at h1
      refine ⟨fun h0 => (by rw [h0] at h1; cases h1), fun j hj oj hoj => ?_⟩
      obtain ⟨g, hfg, he⟩ := all j (by rw [← h1]; exact hj) hj oj hoj
      obtain rfl : g = f := by omega
      exact he
  | .onx i p, f, c, l, ρ, M, hok, hd, hc, h => by
    simp only [Plan.ok, Bool.and_eq_true] at hok
    obtain ⟨⟨h1, h2⟩, h3⟩ := hok
    simp only [evPlan] at h
    simp only [Plan.depth] at hd
    cases ho : ops[i]? with
    | none => rw [ho] at h; exact h.elim
    | some o =>
      rw [ho] at h
      have h : evG P N W w0 ops o ρ M fun ρ' M' => (i ∈ X → Ext w0 M M') ∧ evPlan P N W w0 ops p ρ' M' K := by
        cases hgd : o.guard with
        | none => simp only [hgd] at h; rw [evG_none hgd]; exact evOp_mono h fun _ _ hh => ⟨fun _ => hh.1, hh.2⟩
        | some _ => simp only [hgd] at h
      obtain ⟨f, rfl⟩ : ∃ g, f = g + 1 := ⟨f - 1, by omega⟩
      have step : i ∈ Region.ready .any ops l → evG P N W w0 ops o ρ M fun ρ' M' => (i ∈ X → Ext w0 M M') ∧ anyE P N W w0 X ops K f (l.setIfInBounds i true) ρ' M' := fun hr =>
        evG_mono h fun ρ' M' hp => ⟨hp.1, (evPlan_any p f true _ ρ' M' h3 (by omega) (hc.set hr) hp.2).1 rfl⟩
      refine ⟨fun hct => ?_, fun j hj hjr oj hoj => ?_⟩
      · subst hct
        simp only [Bool.not_true, Bool.false_or, beq_iff_eq] at h1
        have hr : i ∈ Region.ready .any ops l := by rw [h1]; exact List.mem_singleton.2 rfl
        refine ⟨fun h0 => (by rw [h0] at h1; cases h1), fun j hj oj hoj => ?_⟩
        rw [h1] at hj
        have := List.mem_singleton.1 hj
        subst this
        rw [ho] at hoj; cases hoj
        exact step hr
      · have := List.mem_singleton.1 hj
        subst this
        rw [ho] at hoj; cases hoj
        exact ⟨f, rfl, step hjr⟩
  | .mox i p q, f, c, l, ρ, M, hok, hd, hc, h => by
    simp only [Plan.ok, Bool.and_eq_true] at hok
    obtain ⟨⟨⟨h1, h2⟩, h3⟩, h4⟩ := hok
    simp only [evPlan] at h
    simp only [Plan.depth] at hd
    cases ho : ops[i]? with
    | none => rw [ho] at h; exact h.elim
    | some o =>
      rw [ho] at h
      obtain ⟨f, rfl⟩ : ∃ g, f = g + 1 := ⟨f - 1, by omega⟩
      have hq := (evPlan_any q (f + 1) false l ρ M h4 (by omega) hc h.2).2
      have hh : evG P N W w0 ops o ρ M fun ρ' M' => (i ∈ X → Ext w0 M M') ∧ evPlan P N W w0 ops p ρ' M' K := by
        have h := h.1
        cases hgd : o.guard with
        | none => simp only [hgd] at h; rw [evG_none hgd]; exact evOp_mono h fun _ _ hh => ⟨fun _ => hh.1, hh.2⟩
        | some _ => simp only [hgd] at h
      have all : ∀ j ∈ i :: q.firsts, j ∈ Region.ready .any ops l → ∀ oj, ops[j]? = some oj → ∃ g, f + 1 = g + 1 ∧ evG P N W w0 ops oj ρ M fun ρ' M' => (j ∈ X → Ext w0 M M') ∧ anyE P N W w0 X ops K g (l.setIfInBounds j true) ρ' M' := by
        intro j hj hjr oj hoj
        rcases List.mem_cons.1 hj with rfl | hj
        · rw [ho] at hoj; cases hoj
          exact ⟨f, rfl, evG_mono hh fun ρ' M' hp => ⟨hp.1, (evPlan_any p f true _ ρ' M' h3 (by omega) (hc.set hjr) hp.2).1 rfl⟩⟩
        · exact hq j hj hjr oj hoj
      refine ⟨fun hct => ?_, all⟩
      subst hct
      simp only [Bool.not_true, Bool.false_or, beq_iff_eq] at h1
      refine ⟨fun h0 => (by rw [h0] at h1; cases h1), fun j hj oj hoj => ?_⟩
      obtain ⟨g, hfg, he⟩ := all j (by rw [← h1]; exact hj) hj oj hoj
      obtain rfl : g = f := by omega
      exact he
theorem evGd_eq {ops : Array Oper} {j : Nat} {want : Bool} {o : Oper} {ρ : Env} {M : Blks} {K : Env → Blks → Prop} : evGd P N W w0 ops j want o ρ M K = (match (ops[j]?).bind (·.dst) with
  | none => False
  | some d => match gate (ρ d) with
    | none => setD N ρ o.dst undef fun ρ' => K ρ' M
    | some b => guardQ b want (evOp P N W w0 o (upd ρ d (.bool want)) M K) (setD N (upd ρ d (.bool (!want))) o.dst undef fun ρ' => K ρ' M)) := rfl

/-- A call in a plan, and what is asked behind it, closed to the walk's own reckoning. -/
def callP (P : Program) (N : Nat) (W : List Nat) (w0 : World) (f : Value) (args : List Value) (M : Blks) (d : Option Tmp) (ρ : Env) (ops : Array Oper) (p : Plan) (K : Env → Blks → Prop) : Prop :=
  match f with
  | .func (.func n) first captured => QAsk P W w0 n (first.toList ++ (args ++ captured.toList)).toArray M fun v => setD N ρ d v fun ρ' => evPlan P N W w0 ops p ρ' M K
  | _ => False

theorem evV_call {f : Operand} {args : Array Operand} {ts : Array TypeId} {d d' : Option Tmp} {T : TypeId} {pos : String} {aft : Array Edge} {g : Option (Nat × Bool)} {ops : Array Oper} {p : Plan} {K : Env → Blks → Prop} :
    evV P W w0 ⟨d, .call ⟨.value f, args, ts⟩, T, pos, aft, g⟩ ρ M (fun v => setD N ρ d' v fun ρ' => evPlan P N W w0 ops p ρ' M K) = callP P N W w0 (ev ρ f) (args.toList.map (ev ρ)) M d' ρ ops p K := by
  unfold evV callP
  rfl

theorem callP_gives {n : FuncId} {args : List Value} {v : Value} {d : Option Tmp} {ops : Array Oper} {p : Plan} {K : Env → Blks → Prop} (h : Gives P n args.toArray v)
    (hk : setD N ρ d v fun ρ' => evPlan P N W w0 ops p ρ' M K) : callP P N W w0 (.func (.func n) #[] #[]) args M d ρ ops p K := by
  unfold callP
  simp only [List.append_nil, List.nil_append]
  exact h.ask hk

theorem closed_start (ops : Array Oper) (n : Nat) : Closed ops (Array.replicate n false) := by
  intro j o _ hl
  rw [Array.getD_eq_getD_getElem?, Array.getElem?_replicate] at hl
  split at hl <;> cases hl

theorem Cd.plan {Q : Exit → Env → Blks → Prop} {id : Nat} {l : List Oper} (p : Plan) (hm : P.follows .mixedOrders = true) (hok : p.ok p.xs l.toArray true (Array.replicate l.length false) = true) (hd : p.depth ≤ l.length)
    (h : evPlan P N W w0 l.toArray p ρ M (Q .normal)) : Cd P N W w0 (.region id l.toArray true) Q ρ M := fun a w ha hw =>
  wp_region_any hm (wpAny_of (K := Q .normal) (fun ρ' M' a' w' h1 h2 h3 => ⟨ρ', M', h1, h2, h3⟩) _ _ ρ M a _ ((evPlan_any p _ true _ ρ M (by simpa using hok) (by simpa using hd) (closed_start _ _) h).1 rfl) ha hw.drew)

theorem Cd.ps {Q : Exit → Env → Blks → Prop} {id : Nat} {l : List Oper} {y : Code} (S : List Nat) (p : Plan) (hm : P.follows .mixedOrders = true) (hok : p.ok p.xs l.toArray true (Array.replicate l.length false) = true) (hd : p.depth ≤ l.length)
    (h : ∀ K : Env → Blks → Prop, (∀ ρ M, Cd P N W w0 y Q ρ M → K ρ M) → evPlan P N W w0 l.toArray p ρ M (keepK S K)) : Cd P N W w0 (.seq (.region id l.toArray true) y) Q ρ M :=
  Cd.seq (Cd.mono (Cd.plan (Q := fun e ρ M => match e with | .normal => keepK S (fun ρ M => Cd P N W w0 y Q ρ M) ρ M | _ => False) p hm hok hd (h _ fun _ _ h => h)) fun e ρ M hq => by
    cases e <;> first | exact keepK_of hq | exact hq.elim)

theorem Cd.pr {Q : Exit → Env → Blks → Prop} {id : Nat} {l : List Oper} (S : List Nat) (p : Plan) (hm : P.follows .mixedOrders = true) (hok : p.ok p.xs l.toArray true (Array.replicate l.length false) = true) (hd : p.depth ≤ l.length)
    (h : ∀ K : Env → Blks → Prop, (∀ ρ M, Q .normal ρ M → K ρ M) → evPlan P N W w0 l.toArray p ρ M (keepK S K)) : Cd P N W w0 (.region id l.toArray true) Q ρ M :=
  Cd.mono (Cd.plan (Q := fun e ρ M => match e with | .normal => keepK S (fun ρ M => Q .normal ρ M) ρ M | _ => False) p hm hok hd (h _ fun _ _ h => h)) fun e ρ M hq => by
    cases e <;> first | exact keepK_of (K := fun ρ M => Q .normal ρ M) hq | exact hq.elim

end
end Go.W8

/-
  Calls of functions that read memory which is told ahead. Nothing here is about one program. Conditions: none.
-/
namespace Go.W8

section
variable {P : Program} {N : Nat} {W : List Nat} {w0 : World} {Q : Exit → Env → Blks → Prop} {ρ : Env} {M M' : Blks}

/-- From a place on there stand these cells. -/
def Holds (W : List Nat) (w0 : World) (M : Blks) (b o : Nat) (vs : List Value) : Prop := ∀ j v, vs[j]? = some v → cellAt W w0 M b (o + j) = some v

theorem Holds.ext {b o : Nat} {vs : List Value} (h : Holds W w0 M b o vs) (he : Ext w0 M M') : Holds W w0 M' b o vs := fun j v hv => he.cellAt (h j v hv)

theorem Holds.sub {b o : Nat} {cs vs : List Value} (hf : findB b M = some cs) (h : subL cs o vs.length = vs) : Holds W w0 M b o vs := by
  intro j v hv
  rw [← h] at hv
  unfold cellAt
  rw [hf]
  simp only [subL, List.getElem?_take, List.getElem?_drop] at hv
  split at hv
  · exact hv
  · cases hv

theorem Holds.old {b o : Nat} {vs : List Value} (hf : findB b M = none) (h : ∀ j v, vs[j]? = some v → frn W w0 b (o + j) = some v) : Holds W w0 M b o vs := by
  intro j v hv
  unfold cellAt
  rw [hf]
  exact h j v hv

/-- What stands in memory ahead of a call. -/
abbrev Rd := List (Nat × Nat × List Value)

def HoldsAll (W : List Nat) (w0 : World) (M : Blks) (R : Rd) : Prop := ∀ r ∈ R, Holds W w0 M r.1 r.2.1 r.2.2

theorem HoldsAll.nil : HoldsAll W w0 M [] := fun _ h => nomatch h
theorem HoldsAll.cons {b o : Nat} {vs : List Value} {R : Rd} (h : Holds W w0 M b o vs) (hR : HoldsAll W w0 M R) : HoldsAll W w0 M ((b, o, vs) :: R) := by
  intro r hr
  rcases List.mem_cons.1 hr with rfl | hr
  · exact h
  · exact hR r hr

/-- A function that only hands back a value where memory holds R, and leaves all that was there as it was. -/
def GivesR (P : Program) (f : FuncId) (args : Array Value) (R : Rd) (v : Value) : Prop :=
  callable P f ∧ ∀ w, (∀ r ∈ R, ∀ j u, r.2.2[j]? = some u → w.cell? ⟨r.1, r.2.1 + j, none⟩ = some u) → Calls P f args w fun e w' => e = .returned v ∧ Own [] w [] w'

theorem cell_lt {w : World} {b o : Nat} {v : Value} (h : w.cell? ⟨b, o, none⟩ = some v) : b < w.heap.size := by
  unfold World.cell? at h
  rcases Nat.lt_or_ge b w.heap.size with h1 | h1
  · exact h1
  · simp [Array.getElem?_eq_none h1] at h

theorem GivesR.of {f : FuncId} {args : Array Value} {v : Value} {R : Rd} (hc : callable P f) (h : ∀ w, (∀ r ∈ R, ∀ j u, r.2.2[j]? = some u → frn [] w r.1 (r.2.1 + j) = some u) → ACall P [] w f args [] fun v' _ => v' = v) : GivesR P f args R v := by
  refine ⟨hc, fun w hR => ((h w ?_).2 w (Own.start w)).mono ?_⟩
  · intro r hr j u hu
    have := hR r hr j u hu
    unfold frn
    rw [if_pos ⟨cell_lt this, by simp⟩]
    exact this
  · rintro e w' ⟨v', M', rfl, hw', rfl⟩
    exact ⟨rfl, hw'.sub (List.nil_sublist _)⟩

theorem GivesR.qcall {f : FuncId} {args : Array Value} {v : Value} {R : Rd} (h : GivesR P f args R v) (hR : HoldsAll W w0 M R) : QCall P W w0 f args M v := by
  refine ⟨h.1, fun w hw => (h.2 w ?_).mono ?_⟩
  · intro r hr j u hu
    exact hw.cellAt W w0 (hR r hr j u hu)
  · rintro e w' ⟨rfl, hw'⟩
    exact ⟨rfl, hw.then_ hw'⟩

theorem callK_reads {n : FuncId} {args : List Value} {fs cs : Array Value} {v : Value} {R : Rd} {d : Option Tmp} {ops : Array Oper} {rest : List Oper} {K : Env → Blks → Prop} (h : GivesR P n (fs.toList ++ (args ++ cs.toList)).toArray R v)
    (hR : HoldsAll W w0 M R) (hk : setD N ρ d v fun ρ' => evOps P N W w0 ops rest ρ' M K) : callK P N W w0 (.func (.func n) fs cs) args M d ρ ops rest K :=
  (h.qcall hR).acall hk

theorem callK_reads0 {n : FuncId} {args : List Value} {v : Value} {R : Rd} {d : Option Tmp} {ops : Array Oper} {rest : List Oper} {K : Env → Blks → Prop} (h : GivesR P n args.toArray R v)
    (hR : HoldsAll W w0 M R) (hk : setD N ρ d v fun ρ' => evOps P N W w0 ops rest ρ' M K) : callK P N W w0 (.func (.func n) #[] #[]) args M d ρ ops rest K :=
  callK_reads (by simpa using h) hR hk

theorem callQ_reads {n : FuncId} {args : List Value} {fs cs : Array Value} {v : Value} {R : Rd} {d : Option Tmp} {ops : Array Oper} {rest : List Oper} {K : Env → Prop} (h : GivesR P n (fs.toList ++ (args ++ cs.toList)).toArray R v)
    (hR : HoldsAll W w0 M R) (hk : setD N ρ d v fun ρ' => evQs P N W w0 ops rest ρ' M K) : callQ P N W w0 (.func (.func n) fs cs) args M d ρ ops rest K :=
  ⟨v, fun _ he => h.qcall fun r hr => (hR r hr).ext he, hk⟩

theorem callP_reads {n : FuncId} {args : List Value} {fs cs : Array Value} {v : Value} {R : Rd} {d : Option Tmp} {ops : Array Oper} {p : Plan} {K : Env → Blks → Prop} (h : GivesR P n (fs.toList ++ (args ++ cs.toList)).toArray R v)
    (hR : HoldsAll W w0 M R) (hk : setD N ρ d v fun ρ' => evPlan P N W w0 ops p ρ' M K) : callP P N W w0 (.func (.func n) fs cs) args M d ρ ops p K :=
  ⟨v, fun _ he => h.qcall fun r hr => (hR r hr).ext he, hk⟩

/-- What is told of old memory. -/
def Told (W : List Nat) (w0 : World) (R : Rd) : Prop := ∀ r ∈ R, ∀ j u, r.2.2[j]? = some u → frn W w0 r.1 (r.2.1 + j) = some u

theorem GivesR.qcall_told {f : FuncId} {args : Array Value} {v : Value} {R : Rd} (h : GivesR P f args R v) (hR : Told W w0 R) : QCall P W w0 f args M v := by
  refine ⟨h.1, fun w hw => (h.2 w ?_).mono ?_⟩
  · intro r hr j u hu
    have := hR r hr j u hu
    unfold frn at this
    split at this
    · rename_i hh
      unfold World.cell? at this ⊢
      rw [hw.frame r.1 hh.1 hh.2]
      exact this
    · cases this
  · rintro e w' ⟨rfl, hw'⟩
    exact ⟨rfl, hw.then_ hw'⟩

theorem callK_told {n : FuncId} {args : List Value} {fs cs : Array Value} {v : Value} {R : Rd} {d : Option Tmp} {ops : Array Oper} {rest : List Oper} {K : Env → Blks → Prop} (h : GivesR P n (fs.toList ++ (args ++ cs.toList)).toArray R v)
    (hR : Told W w0 R) (hk : setD N ρ d v fun ρ' => evOps P N W w0 ops rest ρ' M K) : callK P N W w0 (.func (.func n) fs cs) args M d ρ ops rest K :=
  (h.qcall_told hR).acall hk

theorem mapM_told {α β : Type} {f : α → Option β} : ∀ {l : List α} {r : List β}, l.length = r.length → (∀ (j : Nat) (a : α) (b : β), l[j]? = some a → r[j]? = some b → f a = some b) → l.mapM f = some r
  | [], [], _, _ => rfl
  | a :: l, b :: r, hl, h => by
    rw [List.mapM_cons, h 0 a b rfl rfl, mapM_told (l := l) (r := r) (by simpa using hl) fun j x y hx hy => h (j + 1) x y hx hy]
    rfl

/-- A row of numbers, told cell by cell. -/
theorem told_ints {b o : Nat} {k : IntKind} {l : List Int} {R : Rd} (h : ∀ r ∈ (b, o, ints k l) :: R, ∀ j u, r.2.2[j]? = some u → frn W w0 r.1 (r.2.1 + j) = some u) :
    (∀ j, j < l.length → frn W w0 b (o + j) = some (.int k (l.getD j 0))) ∧ ∀ r ∈ R, ∀ j u, r.2.2[j]? = some u → frn W w0 r.1 (r.2.1 + j) = some u :=
  ⟨fun j hj => h _ List.mem_cons_self j _ (ints_get hj), fun r hr => h r (List.mem_cons_of_mem _ hr)⟩

end
end Go.W8

/-
  Operations with guards, a group at a time; pieces of code with a condition between them. Nothing here is about one program. Conditions: none.
-/
namespace Go.W8
set_option linter.unusedSectionVars false
set_option linter.unusedVariables false
set_option linter.unusedSimpArgs false

section
variable {P : Program} {N : Nat} {W : List Nat} {w0 : World} {Q : Exit → Env → Blks → Prop} {ρ ρ' : Env} {M M' : Blks}

/-- A list of operations whose first one has a guard, closed to the walk's own reckoning. -/
def guardX (P : Program) (N : Nat) (W : List Nat) (w0 : World) (ops : Array Oper) (l : List Oper) (ρ : Env) (M : Blks) (K : Env → Blks → Prop) : Prop := evOps P N W w0 ops l ρ M K
def guardY (P : Program) (N : Nat) (W : List Nat) (w0 : World) (ops : Array Oper) (l : List Oper) (ρ : Env) (M : Blks) (K : Env → Prop) : Prop := evQs P N W w0 ops l ρ M K

theorem evOps_guard {ops : Array Oper} {d : Option Tmp} {op : Op} {T : TypeId} {pos : String} {aft : Array Edge} {g : Nat × Bool} {rest : List Oper} {K : Env → Blks → Prop} :
    evOps P N W w0 ops (⟨d, op, T, pos, aft, some g⟩ :: rest) ρ M K = guardX P N W w0 ops (⟨d, op, T, pos, aft, some g⟩ :: rest) ρ M K := rfl
theorem evQs_guard {ops : Array Oper} {d : Option Tmp} {op : Op} {T : TypeId} {pos : String} {aft : Array Edge} {g : Nat × Bool} {rest : List Oper} {K : Env → Prop} :
    evQs P N W w0 ops (⟨d, op, T, pos, aft, some g⟩ :: rest) ρ M K = guardY P N W w0 ops (⟨d, op, T, pos, aft, some g⟩ :: rest) ρ M K := rfl

def bare (o : Oper) : Oper := ⟨o.dst, o.op, o.type, o.pos, o.after, none⟩

/-- The same without the guard j. -/
def bareJ (j : Nat) (o : Oper) : Oper :=
  match o.guard with
  | some (i, _) => if i = j then bare o else o
  | none => o

/-- Each of these has this guard, or one that is laid by one of these, and lays nothing but temporaries of S; U: those that are laid so far. -/
def grpN (ops : Array Oper) (j : Nat) (want : Bool) (S : List Nat) (n : Nat) : List Nat → List Oper → Bool
  | _, [] => true
  | U, o :: l => (match o.guard with | some (i, w) => (i == j && w == want) || (i != j && (match (ops[i]?).bind (·.dst) with | some d' => U.contains d' | none => false)) | none => false) &&
      match o.dst with | some t => S.contains t && decide (t < n) && grpN ops j want S n (t :: U) l | none => grpN ops j want S n U l
def grpB (ops : Array Oper) (j : Nat) (want : Bool) (S : List Nat) (n d : Nat) (l : List Oper) : Bool := !S.contains d && grpN ops j want S n [] l

theorem exists_out (l : List Nat) : ∃ s, s ∉ l := by
  refine ⟨l.foldr max 0 + 1, fun h => ?_⟩
  have key : ∀ (l : List Nat) (s : Nat), s ∈ l → s ≤ l.foldr max 0 := by
    intro l
    induction l with
    | nil => intro s h; cases h
    | cons a l ih =>
      intro s h
      rcases List.mem_cons.1 h with rfl | h
      · exact Nat.le_max_left _ _
      · exact Nat.le_trans (ih s h) (Nat.le_max_right _ _)
  have := key l _ h
  omega

theorem upd_self (ρ : Env) (s : Nat) : upd ρ s (ρ s) = ρ := by
  funext t
  unfold upd
  split
  · rename_i e; rw [e]
  · rfl

theorem evOp_only {o : Oper} {K : Env → Blks → Prop} (h : evOp P N W w0 o ρ M K) : evOp P N W w0 o ρ M fun ρ' M' => K ρ' M' ∧ ∀ t, o.dst ≠ some t → ρ' t = ρ t := by
  obtain ⟨s, hs⟩ := exists_out (opTmps o ++ o.dst.toList)
  have h1 : s ∉ opTmps o := fun hm => hs (List.mem_append_left _ hm)
  have h2 : o.dst ≠ some s := fun e => hs (List.mem_append_right _ (by rw [e]; exact List.mem_singleton.2 rfl))
  have h3 : evOp P N W w0 o (upd ρ s (ρ s)) M K := by rw [upd_self]; exact h
  refine evOp_mono (evOp_frame' h1 h2 h3) ?_
  rintro ρ' M' ⟨hk, hf⟩
  have : upd ρ' s (ρ s) = ρ' := by rw [← hf s h2, upd_self]
  rw [this] at hk
  exact ⟨hk, hf⟩

theorem grpB_d {ops : Array Oper} {j n d : Nat} {want : Bool} {S : List Nat} {l : List Oper} (h : grpB ops j want S n d l = true) : d ∉ S ∧ grpN ops j want S n [] l = true := by
  unfold grpB at h
  simp only [Bool.and_eq_true, Bool.not_eq_true'] at h
  exact ⟨fun hm => (by rw [List.contains_iff_mem.2 hm] at h; cases h.1), h.2⟩

theorem grpN_cons {ops : Array Oper} {j n : Nat} {want : Bool} {S U : List Nat} {o : Oper} {l : List Oper} (h : grpN ops j want S n U (o :: l) = true) :
    (∃ i w, o.guard = some (i, w) ∧ ((i = j ∧ w = want) ∨ (i ≠ j ∧ ∃ d', (ops[i]?).bind (·.dst) = some d' ∧ d' ∈ U))) ∧ (∀ t, o.dst = some t → t ∈ S ∧ t < n ∧ grpN ops j want S n (t :: U) l = true) ∧ (o.dst = none → grpN ops j want S n U l = true) := by
  unfold grpN at h
  simp only [Bool.and_eq_true] at h
  obtain ⟨h1, h2⟩ := h
  refine ⟨?_, fun t ht => ?_, fun ht => ?_⟩
  · split at h1
    · rename_i i w hg
      refine ⟨i, w, hg, ?_⟩
      simp only [Bool.or_eq_true, Bool.and_eq_true, beq_iff_eq, bne_iff_ne, ne_eq] at h1
      rcases h1 with h1 | ⟨h1, h3⟩
      · exact .inl h1
      · split at h3
        · rename_i d' hd'; exact .inr ⟨h1, d', hd', List.contains_iff_mem.1 h3⟩
        · cases h3
    · cases h1
  · rw [ht] at h2
    simp only [Bool.and_eq_true, decide_eq_true_eq] at h2
    exact ⟨List.contains_iff_mem.1 h2.1.1, h2.1.2, h2.2⟩
  · rw [ht] at h2; exact h2

theorem evOps_mono {ops : Array Oper} : ∀ (l : List Oper) (ρ : Env) (M : Blks) {K K' : Env → Blks → Prop}, evOps P N W w0 ops l ρ M K → (∀ ρ' M', K ρ' M' → K' ρ' M') → evOps P N W w0 ops l ρ M K'
  | [], ρ, M, _, _, h, hK => hK ρ M h
  | o :: l, ρ, M, K, K', h, hK => by
    unfold evOps at h ⊢
    split
    · rename_i hg
      rw [hg] at h
      exact evOp_mono h fun ρ' M' h' => evOps_mono l ρ' M' h' hK
    · rename_i j want hg
      rw [hg] at h
      simp only at h
      split
      · rename_i hd; rw [hd] at h; exact h
      · rename_i d hd
        rw [hd] at h
        simp only at h
        split
        · rename_i hn
          rw [hn] at h
          exact setD_mono h fun ρ' h' => evOps_mono l ρ' M h' hK
        · rename_i b hb
          rw [hb] at h
          exact ⟨fun e => evOp_mono (h.1 e) fun ρ' M' h' => evOps_mono l ρ' M' h' hK, fun e => setD_mono (h.2 e) fun ρ' h' => evOps_mono l ρ' M h' hK⟩

theorem setD_only {d : Option Tmp} {v : Value} {K : Env → Prop} (h : setD N ρ d v K) : setD N ρ d v fun ρ' => K ρ' ∧ ∀ t, d ≠ some t → ρ' t = ρ t := by
  cases d with
  | none => exact ⟨h, fun _ _ => rfl⟩
  | some s =>
    refine ⟨h.1, h.2, fun t ht => ?_⟩
    unfold upd
    rw [if_neg fun e => ht (by rw [e])]

/-- One operation, and another list behind it. -/
theorem evOps_step {ops : Array Oper} {o : Oper} {l l' : List Oper} {K K' : Env → Blks → Prop} (h : evOps P N W w0 ops (o :: l) ρ M K)
    (hl : ∀ ρ1 M1, (∀ t, o.dst ≠ some t → ρ1 t = ρ t) → evOps P N W w0 ops l ρ1 M1 K → evOps P N W w0 ops l' ρ1 M1 K') : evOps P N W w0 ops (o :: l') ρ M K' := by
  unfold evOps at h ⊢
  split
  · rename_i hg
    rw [hg] at h
    exact evOp_mono (evOp_only h) fun ρ1 M1 hh => hl ρ1 M1 hh.2 hh.1
  · rename_i j want hg
    rw [hg] at h
    simp only at h
    split
    · rename_i hd; rw [hd] at h; exact h
    · rename_i d hd
      rw [hd] at h
      simp only at h
      split
      · rename_i hn
        rw [hn] at h
        exact setD_mono (setD_only h) fun ρ1 hh => hl ρ1 M hh.2 hh.1
      · rename_i b hb
        rw [hb] at h
        refine ⟨fun e => ?_, fun e => ?_⟩
        · have h1 := h.1 e
          subst e
          rw [upd_gate hb] at h1 ⊢
          exact evOp_mono (evOp_only h1) fun ρ1 M1 hh => hl ρ1 M1 hh.2 hh.1
        · have h1 := h.2 e
          rw [← e, upd_gate hb] at h1 ⊢
          exact setD_mono (setD_only h1) fun ρ1 hh => hl ρ1 M hh.2 hh.1

theorem group_go {ops : Array Oper} {j d : Nat} {want : Bool} {S : List Nat} {rest : List Oper} {K : Env → Blks → Prop} (hd : (ops[j]?).bind (·.dst) = some d) (hdS : d ∉ S) :
    ∀ (G : List Oper) (U : List Nat) (ρ : Env) (M : Blks), grpN ops j want S N U G = true → ρ d = .bool want →
      evOps P N W w0 ops (G.map (bareJ j)) ρ M (fun ρ' M' => (∀ t, t ∉ S → ρ' t = ρ t) → evOps P N W w0 ops rest ρ' M' K) → evOps P N W w0 ops (G ++ rest) ρ M K
  | [], _, ρ, M, _, _, h => h fun _ _ => rfl
  | o :: G, U, ρ, M, hg, hb, h => by
    obtain ⟨⟨i, w, h2, hcase⟩, h3, h4⟩ := grpN_cons hg
    have hU : ∃ U', grpN ops j want S N U' G = true := by
      cases ht : o.dst with
      | none => exact ⟨U, h4 ht⟩
      | some t => exact ⟨_, (h3 t ht).2.2⟩
    obtain ⟨U', hU⟩ := hU
    have next : ∀ ρ1 M1, (∀ t, o.dst ≠ some t → ρ1 t = ρ t) → evOps P N W w0 ops (G.map (bareJ j)) ρ1 M1 (fun ρ' M' => (∀ t, t ∉ S → ρ' t = ρ t) → evOps P N W w0 ops rest ρ' M' K) → evOps P N W w0 ops (G ++ rest) ρ1 M1 K := by
      intro ρ1 M1 hf hk
      have hd1 : ρ1 d = .bool want := by rw [hf d (fun e => hdS (h3 d e).1), hb]
      refine group_go hd hdS G U' ρ1 M1 hU hd1 (evOps_mono _ _ _ hk fun ρ' M' hh hag => hh fun t ht => ?_)
      rw [hag t ht, hf t fun e => ht (h3 t e).1]
    show evOps P N W w0 ops (o :: (G ++ rest)) ρ M K
    rcases hcase with ⟨rfl, rfl⟩ | ⟨hij, _⟩
    · have e : bareJ i o = bare o := by unfold bareJ; rw [h2]; simp
      rw [List.map_cons, e] at h
      have h : evOp P N W w0 o ρ M (fun ρ1 M1 => evOps P N W w0 ops (G.map (bareJ i)) ρ1 M1 (fun ρ' M' => (∀ t, t ∉ S → ρ' t = ρ t) → evOps P N W w0 ops rest ρ' M' K)) := h
      unfold evOps
      rw [h2]
      simp only [hd, hb, gate]
      refine ⟨fun _ => ?_, fun hn => by cases w <;> cases hn⟩
      rw [show upd ρ d (.bool w) = ρ from by rw [← hb, upd_self]]
      exact evOp_mono (evOp_only h) fun ρ1 M1 hh => next ρ1 M1 hh.2 hh.1
    · have e : bareJ j o = o := by unfold bareJ; rw [h2]; simp [hij]
      rw [List.map_cons, e] at h
      exact evOps_step h next

theorem group_skip {ops : Array Oper} {j d : Nat} {want : Bool} {S : List Nat} {rest : List Oper} {K : Env → Blks → Prop} (hd : (ops[j]?).bind (·.dst) = some d) (hdS : d ∉ S) :
    ∀ (G : List Oper) (U : List Nat) (ρ : Env), grpN ops j want S N U G = true → ρ d = .bool (!want) → (∀ t ∈ U, ρ t = undef) →
      (∀ ρ', (∀ t, t ∉ S → ρ' t = ρ t) → evOps P N W w0 ops rest ρ' M K) → evOps P N W w0 ops (G ++ rest) ρ M K
  | [], _, ρ, _, _, _, h => h ρ fun _ _ => rfl
  | o :: G, U, ρ, hg, hb, hU, h => by
    obtain ⟨⟨i, w, h2, hcase⟩, h3, h4⟩ := grpN_cons hg
    have sk : setD N ρ o.dst undef fun ρ' => evOps P N W w0 ops (G ++ rest) ρ' M K := by
      cases ht : o.dst with
      | none => exact group_skip hd hdS G U ρ (h4 ht) hb hU h
      | some t =>
        obtain ⟨h5, h6, h7⟩ := h3 t ht
        have hne : ¬ d = t := fun e => hdS (by rw [e]; exact h5)
        refine ⟨h6, group_skip hd hdS G _ _ h7 (by unfold upd; rw [if_neg hne]; exact hb) (fun s hs => ?_) fun ρ' hag => h ρ' fun s hs => ?_⟩
        · unfold upd
          split
          · rfl
          · rename_i hst
            rcases List.mem_cons.1 hs with hs | hs
            · exact absurd hs hst
            · exact hU s hs
        · rw [hag s hs]
          unfold upd
          rw [if_neg fun e => hs (by rw [e]; exact h5)]
    show evOps P N W w0 ops (o :: (G ++ rest)) ρ M K
    unfold evOps
    rw [h2]
    rcases hcase with ⟨rfl, rfl⟩ | ⟨hij, d', hd', hm⟩
    · simp only [hd, hb, gate]
      refine ⟨fun hn => (by cases w <;> cases hn), fun _ => ?_⟩
      rw [show upd ρ d (.bool !w) = ρ from by rw [← hb, upd_self]]
      exact sk
    · simp only [hd', hU d' hm]
      exact sk

theorem hav_of {S : List Nat} (h : ∀ t, t ∉ S → ρ' t = ρ t) : hav S ρ' ρ = ρ' := by
  funext t
  unfold hav
  split
  · rfl
  · rename_i ht; exact (h t ht).symm

/-- A group of operations with one guard: what is asked of it where it is done, and what then is asked. -/
theorem guardX_go (k : Nat) (S : List Nat) {ops : Array Oper} {l : List Oper} {j d : Nat} {want b : Bool} {K : Env → Blks → Prop} (R : Env → Prop) (hd : (ops[j]?).bind (·.dst) = some d) (hg : grpB ops j want S N d (l.take k) = true) (hb : ρ d = .bool b)
    (h1 : b = want → evOps P N W w0 ops ((l.take k).map (bareJ j)) ρ M fun ρ' M' => M' = M ∧ R ρ') (h2 : ∀ g, (b = want → R (hav S g ρ)) → evOps P N W w0 ops (l.drop k) (hav S g ρ) M K) : guardX P N W w0 ops l ρ M K := by
  unfold guardX
  rw [← List.take_append_drop k l]
  obtain ⟨hdS, hg⟩ := grpB_d hg
  by_cases hw : b = want
  · refine group_go hd hdS (l.take k) [] ρ M hg (by rw [hb, hw]) (evOps_mono _ _ _ (h1 hw) ?_)
    rintro ρ' M' ⟨rfl, hR⟩ hag
    have := h2 ρ' fun _ => by rw [hav_of hag]; exact hR
    rwa [hav_of hag] at this
  · have hn : b = !want := by cases b <;> cases want <;> simp_all
    refine group_skip hd hdS (l.take k) [] ρ hg (by rw [hb, hn]) (fun _ ht => nomatch ht) fun ρ' hag => ?_
    have := h2 ρ' fun e => absurd e hw
    rwa [hav_of hag] at this

theorem cons_none {o : Oper} {ops : Array Oper} {l : List Oper} {K : Env → Blks → Prop} (hg : o.guard = none) (h : evOp P N W w0 o ρ M fun ρ' M' => evOps P N W w0 ops l ρ' M' K) : evOps P N W w0 ops (o :: l) ρ M K := by
  unfold evOps
  rw [hg]
  exact h

/-- a || b -/
theorem guardX_or (k : Nat) (S : List Nat) {ops : Array Oper} {l rest : List Oper} {j d tp tl : Nat} {b x : Bool} {K : Env → Blks → Prop} {T : TypeId} {pos : String} {aft : Array Edge} (hd : (ops[j]?).bind (·.dst) = some d) (hg : grpB ops j false S N d (l.take k) = true)
    (hr : l.drop k = ⟨some tp, .pick (.tmp d) (.const (.bool true)) (.tmp tl), T, pos, aft, none⟩ :: rest) (hn : (decide (tp < N) && S.contains tl) = true) (hb : ρ d = .bool b)
    (h1 : b = false → evOps P N W w0 ops ((l.take k).map (bareJ j)) ρ M fun ρ' M' => M' = M ∧ ρ' tl = .bool x) (h2 : ∀ g, evOps P N W w0 ops rest (upd (hav S g ρ) tp (.bool (b || x))) M K) : guardX P N W w0 ops l ρ M K := by
  simp only [Bool.and_eq_true, decide_eq_true_eq] at hn
  refine guardX_go k S (fun ρ' => ρ' tl = .bool x) hd hg hb h1 fun g hR => ?_
  rw [hr]
  have hdS : (hav S g ρ) d = .bool b := by
    unfold hav
    rw [if_neg (grpB_d hg).1, hb]
  refine cons_none rfl ?_
  unfold evOp pureOp
  simp only [ev, hdS, setD]
  refine ⟨trivial, hn.1, ?_⟩
  cases hb0 : b with
  | true => have := h2 g; rw [hb0] at this; exact this
  | false =>
    have := h2 g
    rw [hb0] at this
    simp only [cond_false, Bool.false_or] at this ⊢
    rw [hR hb0]
    exact this

/-- a && b -/
theorem guardX_and (k : Nat) (S : List Nat) {ops : Array Oper} {l rest : List Oper} {j d tp tl : Nat} {b x : Bool} {K : Env → Blks → Prop} {T : TypeId} {pos : String} {aft : Array Edge} (hd : (ops[j]?).bind (·.dst) = some d) (hg : grpB ops j true S N d (l.take k) = true)
    (hr : l.drop k = ⟨some tp, .pick (.tmp d) (.tmp tl) (.const (.bool false)), T, pos, aft, none⟩ :: rest) (hn : (decide (tp < N) && S.contains tl) = true) (hb : ρ d = .bool b)
    (h1 : b = true → evOps P N W w0 ops ((l.take k).map (bareJ j)) ρ M fun ρ' M' => M' = M ∧ ρ' tl = .bool x) (h2 : ∀ g, evOps P N W w0 ops rest (upd (hav S g ρ) tp (.bool (b && x))) M K) : guardX P N W w0 ops l ρ M K := by
  simp only [Bool.and_eq_true, decide_eq_true_eq] at hn
  refine guardX_go k S (fun ρ' => ρ' tl = .bool x) hd hg hb h1 fun g hR => ?_
  rw [hr]
  have hdS : (hav S g ρ) d = .bool b := by
    unfold hav
    rw [if_neg (grpB_d hg).1, hb]
  refine cons_none rfl ?_
  unfold evOp pureOp
  simp only [ev, hdS, setD]
  refine ⟨trivial, hn.1, ?_⟩
  cases hb0 : b with
  | false => have := h2 g; rw [hb0] at this; exact this
  | true =>
    have := h2 g
    rw [hb0] at this
    simp only [cond_true, Bool.true_and] at this ⊢
    rw [hR hb0]
    exact this

/-! ### The same for regions that draw and only read -/

/-! ### A condition between two pieces of code -/

/-- What is asked of a piece of code, given what is asked behind it. -/
def midQ (I : Env → Blks → Prop) (Q : Exit → Env → Blks → Prop) : Exit → Env → Blks → Prop
  | .normal, ρ, M => I ρ M
  | e, ρ, M => Q e ρ M
theorem Cd.midq {x y : Code} (I : Env → Blks → Prop) (h : Cd P N W w0 x (midQ I Q) ρ M) (hy : ∀ ρ M, I ρ M → Cd P N W w0 y Q ρ M) : Cd P N W w0 (.seq x y) Q ρ M :=
  Cd.seq (Cd.mono h fun e ρ M hq => by cases e <;> first | exact hy ρ M hq | exact hq)
theorem midN {I : Env → Blks → Prop} (h : I ρ M) : midQ I Q .normal ρ M := h
end
end Go.W8

/-
  Calls of functions that hand back new memory, or write into memory that they are lent. Nothing here is about one program. Conditions: none.
-/
namespace Go.W8
set_option linter.unusedSectionVars false
set_option linter.unusedVariables false
set_option linter.unusedSimpArgs false

section
variable {P : Program} {N : Nat} {W : List Nat} {w0 : World} {Q : Exit → Env → Blks → Prop} {ρ : Env} {M M' : Blks}

def Lent (w : World) (L : Blks) : Prop := ∀ p ∈ L, ∃ t, w.heap[p.1]? = some (.cells p.2.toArray t (0, 0))
def ToldW (w : World) (R : Rd) : Prop := ∀ r ∈ R, ∀ j u, r.2.2[j]? = some u → w.cell? ⟨r.1, r.2.1 + j, none⟩ = some u

theorem lent_lt {w : World} {L : Blks} (h : Lent w L) {p : Nat × List Value} (hp : p ∈ L) : p.1 < w.heap.size := by
  obtain ⟨t, ht⟩ := h p hp
  rcases Nat.lt_or_ge p.1 w.heap.size with h1 | h1
  · exact h1
  · rw [Array.getElem?_eq_none h1] at ht; cases ht

theorem Own.startL {w : World} {L : Blks} (h : Lent w L) (hn : (L.map (·.1)).Nodup) : Own (L.map (·.1)) w L w :=
  ⟨rfl, rfl, rfl, Nat.le_refl _, fun _ _ _ => rfl, fun p hp => .inl (List.mem_map_of_mem hp), fun p hp => h p hp, hn⟩

/-- A call that writes only what it is lent. -/
theorem Own.thenL {w w' : World} {L Mr : Blks} (h : Own W w0 M w) (hL : ∀ p ∈ L, p ∈ M) (hs : Mr.Sublist M) (hd : ∀ p ∈ Mr, p.1 ∉ L.map (·.1)) (h' : Own (L.map (·.1)) w M' w') : Own W w0 (M' ++ Mr) w' := by
  have hold : ∀ k, k < w.heap.size → k ∉ L.map (·.1) → w'.heap[k]? = w.heap[k]? := fun k hk hn => h'.frame k hk hn
  refine ⟨h'.os.trans h.os, h'.tape.trans h.tape, h'.output.trans h.output, Nat.le_trans h.size h'.size, ?_, ?_, ?_, ?_⟩
  · intro k hk hW
    rw [hold k (Nat.lt_of_lt_of_le hk h.size) fun hm => ?_]
    · exact h.frame k hk hW
    · obtain ⟨p, hp, rfl⟩ := List.mem_map.1 hm
      rcases h.own p (hL p hp) with h1 | h1
      · exact hW h1
      · omega
  · intro p hp
    rcases List.mem_append.1 hp with hp | hp
    · rcases h'.own p hp with h1 | h1
      · obtain ⟨q, hq, e⟩ := List.mem_map.1 h1
        have := h.own q (hL q hq)
        rw [e] at this
        exact this
      · exact .inr (Nat.le_trans h.size h1)
    · exact h.own p (hs.subset hp)
  · intro p hp
    rcases List.mem_append.1 hp with hp | hp
    · exact h'.blk p hp
    · obtain ⟨t, ht⟩ := h.blk p (hs.subset hp)
      exact ⟨t, by rw [hold _ (h.lt (hs.subset hp)) (hd p hp)]; exact ht⟩
  · rw [List.map_append, List.nodup_append]
    refine ⟨h'.nodup, (hs.map _).nodup h.nodup, ?_⟩
    intro a ha c hc
    obtain ⟨p, hp, rfl⟩ := List.mem_map.1 ha
    obtain ⟨q, hq, rfl⟩ := List.mem_map.1 hc
    intro e
    rcases h'.own p hp with h2 | h2
    · exact hd q hq (by rw [← e]; exact h2)
    · have := h.lt (hs.subset hq)
      omega

/-- A function that is lent L, reads R, and hands back a value and blocks of which Post tells. -/
def GivesX (P : Program) (f : FuncId) (args : Array Value) (L : Blks) (R : Rd) (Post : Value → Blks → Prop) : Prop :=
  callable P f ∧ ∀ w, (L.map (·.1)).Nodup → Lent w L → ToldW w R → Calls P f args w fun e w' => ∃ v M', e = .returned v ∧ Own (L.map (·.1)) w M' w' ∧ Post v M'

theorem GivesX.of {f : FuncId} {args : Array Value} {L : Blks} {R : Rd} {Post : Value → Blks → Prop} (hc : callable P f) (hd : ∀ r ∈ R, r.1 ∉ L.map (·.1))
    (h : ∀ w, (L.map (·.1)).Nodup → (∀ p ∈ L, p.1 < w.heap.size) → Told (L.map (·.1)) w R → ACall P (L.map (·.1)) w f args L Post) : GivesX P f args L R Post := by
  refine ⟨hc, fun w hn hL hR => (h w hn (fun p hp => lent_lt hL hp) ?_).2 w (Own.startL hL hn)⟩
  intro r hr j u hu
  have := hR r hr j u hu
  unfold frn
  rw [if_pos ⟨cell_lt this, hd r hr⟩]
  exact this

theorem GivesX.mono {f : FuncId} {args : Array Value} {L : Blks} {R : Rd} {Post Post' : Value → Blks → Prop} (h : GivesX P f args L R Post) (hp : ∀ v M', Post v M' → Post' v M') : GivesX P f args L R Post' :=
  ⟨h.1, fun w hn hL hR => (h.2 w hn hL hR).mono fun _ _ ⟨v, M', h1, h2, h3⟩ => ⟨v, M', h1, h2, hp v M' h3⟩⟩

theorem GivesX.reads {f : FuncId} {args : Array Value} {R : Rd} {v : Value} (h : GivesX P f args [] R fun v' _ => v' = v) : GivesR P f args R v :=
  ⟨h.1, fun w hR => (h.2 w List.nodup_nil (fun _ hp => nomatch hp) hR).mono fun _ _ ⟨v', M', h1, h2, h3⟩ => ⟨by rw [h1, h3], h2.sub (List.nil_sublist _)⟩⟩

theorem GivesX.acallL {f : FuncId} {args : Array Value} {L Mr : Blks} {R : Rd} {Post R' : Value → Blks → Prop} (h : GivesX P f args L R Post) (hn : (L.map (·.1)).Nodup) (hL : ∀ p ∈ L, p ∈ M) (hs : Mr.Sublist M) (hd : ∀ p ∈ Mr, p.1 ∉ L.map (·.1)) (hR : ∀ w, Own W w0 M w → ToldW w R)
    (hk : ∀ v M', Post v M' → (M'.map (·.1)).Nodup → (∀ p ∈ M', p.1 ∉ L.map (·.1) → Fresh w0 M p.1) → R' v (M' ++ Mr)) : ACall P W w0 f args M R' := by
  refine ⟨h.1, fun w hw => (h.2 w hn (fun p hp => hw.blk p (hL p hp)) (hR w hw)).mono ?_⟩
  rintro e w' ⟨v, M', rfl, hw', hp⟩
  refine ⟨v, M' ++ Mr, rfl, hw.thenL hL hs hd hw', hk v M' hp hw'.nodup fun p hp hn => ?_⟩
  rcases hw'.own p hp with h1 | h1
  · exact absurd h1 hn
  · exact ⟨Nat.le_trans hw.size h1, fun q hq => by have := hw.lt hq; omega⟩

theorem GivesX.acall {f : FuncId} {args : Array Value} {R : Rd} {Post R' : Value → Blks → Prop} (h : GivesX P f args [] R Post) (hR : ∀ w, Own W w0 M w → ToldW w R)
    (hk : ∀ v M', Post v M' → (M'.map (·.1)).Nodup → (∀ p ∈ M', Fresh w0 M p.1) → R' v (M' ++ M)) : ACall P W w0 f args M R' :=
  h.acallL List.nodup_nil (fun _ hp => nomatch hp) (List.Sublist.refl _) (fun _ _ hm => nomatch hm) hR fun v M' h1 h2 h3 => hk v M' h1 h2 fun p hp => h3 p hp fun hm => nomatch hm

theorem toldW_nil {w : World} : ToldW w [] := fun _ hr => nomatch hr
theorem HoldsAll.toldW {R : Rd} (hR : HoldsAll W w0 M R) : ∀ w, Own W w0 M w → ToldW w R := fun w hw r hr j u hu => hw.cellAt W w0 (hR r hr j u hu)
theorem Told.toldW {R : Rd} (hR : Told W w0 R) : ∀ w, Own W w0 M w → ToldW w R := fun w hw r hr j u hu => by
  have := hR r hr j u hu
  unfold frn at this
  split at this
  · rename_i hh
    unfold World.cell? at this ⊢
    rw [hw.frame r.1 hh.1 hh.2]
    exact this
  · cases this
/-- What is told of blocks. -/
def toldOf (L : Blks) : Rd := L.map fun p => (p.1, 0, p.2)
theorem toldOf_append (L L' : Blks) : toldOf (L ++ L') = toldOf L ++ toldOf L' := by simp [toldOf]
theorem callK_lent0 {n : FuncId} {args : List Value} {d : Option Tmp} {ops : Array Oper} {rest : List Oper} {L Mr : Blks} {R : Rd} {Post : Value → Blks → Prop} {K : Env → Blks → Prop} (h : GivesX P n args.toArray L R Post) (hn : (L.map (·.1)).Nodup)
    (hL : ∀ p ∈ L, p ∈ M) (hs : Mr.Sublist M) (hd : ∀ p ∈ Mr, p.1 ∉ L.map (·.1)) (hR : ∀ w, Own W w0 M w → ToldW w R)
    (hk : ∀ v M', Post v M' → (M'.map (·.1)).Nodup → (∀ p ∈ M', p.1 ∉ L.map (·.1) → Fresh w0 M p.1) → setD N ρ d v fun ρ' => evOps P N W w0 ops rest ρ' (M' ++ Mr) K) : callK P N W w0 (.func (.func n) #[] #[]) args M d ρ ops rest K := by
  unfold callK
  simp only [List.append_nil, List.nil_append]
  exact h.acallL hn hL hs hd hR hk
/-- A call that is lent one block. -/
theorem callK_lend {n : FuncId} {args : List Value} {d : Option Tmp} {ops : Array Oper} {rest : List Oper} {b : Nat} {cs : List Value} {R : Rd} {Post : Value → Blks → Prop} {K : Env → Blks → Prop} (h : GivesX P n args.toArray [(b, cs)] R Post)
    (hf : findB b M = some cs) (hM : (M.map (·.1)).Nodup) (hR : ∀ w, Own W w0 M w → ToldW w R)
    (hk : ∀ v M', Post v M' → (M'.map (·.1)).Nodup → (∀ p ∈ M', p.1 ≠ b → Fresh w0 M p.1) → setD N ρ d v fun ρ' => evOps P N W w0 ops rest ρ' (M' ++ delB b M) K) : callK P N W w0 (.func (.func n) #[] #[]) args M d ρ ops rest K := by
  refine callK_lent0 h (by simp) (fun p hp => ?_) (delB_sub b M) (fun p hp hm => ?_) hR fun v M' h1 h2 h3 => hk v M' h1 h2 fun p hp hne => h3 p hp fun hm => ?_
  · rw [List.mem_singleton.1 hp]; exact findB_mem hf
  · simp only [List.map_cons, List.map_nil, List.mem_singleton] at hm
    exact delB_ne hM p hp hm
  · simp only [List.map_cons, List.map_nil, List.mem_singleton] at hm
    exact hne hm

/-- The blocks' numbers differ. -/
theorem Cd.nodup {c : Code} (h : (M.map (·.1)).Nodup → Cd P N W w0 c Q ρ M) : Cd P N W w0 c Q ρ M := fun a w ha hw => h hw.nodup a w ha hw
theorem Cd.turn {c : Code} (hp : M'.Perm M) (h : Cd P N W w0 c Q ρ M') : Cd P N W w0 c Q ρ M := fun a w ha hw =>
  h a w ha (hw.turn (fun p hm => hp.subset hm) ((hp.map _).nodup_iff.2 hw.nodup))

end
end Go.W8

/-
  Rows of eight numbers told by a function of their places; parts of spelled lists. Nothing here is about one program. Conditions: none.
-/
namespace Go.W8
set_option linter.unusedVariables false
set_option linter.unusedSimpArgs false
set_option linter.unusedSectionVars false

theorem splice_succ (a : Value) (l vs : List Value) (n : Nat) : splice (a :: l) (n + 1) vs = a :: splice l n vs := by
  unfold splice
  rw [List.take_succ_cons, show n + 1 + vs.length = (n + vs.length) + 1 by omega, List.drop_succ_cons]
  rfl
theorem splice_zero (a v : Value) (l : List Value) : splice (a :: l) 0 [v] = v :: l := rfl

def tab (f : Nat → Int) : List Int := (List.range 8).map f
theorem tab_len (f : Nat → Int) : (tab f).length = 8 := by simp [tab]
/-- The temporaries hold just this. -/
def Agree : List (Nat × Value) → Env → Prop
  | [], _ => True
  | (t, v) :: l, ρ => ρ t = v ∧ Agree l ρ
theorem updL_agree {ρ : Env} : ∀ (l : List (Nat × Value)), Agree l ρ → updL l ρ = ρ
  | [], _ => rfl
  | (t, v) :: l, h => by
    show upd (updL l ρ) t v = ρ
    rw [updL_agree l h.2, ← h.1, upd_self]
theorem norm_of {ρ : Env} {l : List (Nat × Value)} (h : Agree l ρ) : ρ = updL l ρ := (updL_agree l h).symm
theorem Fresh.all {w0 : World} {M : Blks} {b : Nat} (h : Fresh w0 M b) : ∀ p ∈ M, ¬ b = p.1 := h.2

theorem sameI_ints {k : IntKind} : ∀ {l l' : List Int}, l.length = l'.length → SameI (ints k l) (ints k l')
  | [], [], _ => trivial
  | [], _ :: _, h => by simp at h
  | _ :: _, [], h => by simp at h
  | a :: l, b :: l', h => ⟨rfl, sameI_ints (by simpa using h)⟩
theorem eqL_ints {k : IntKind} : ∀ {l l' : List Int}, l.length = l'.length → eqL (ints k l) (ints k l') = decide (l = l')
  | [], [], _ => rfl
  | [], _ :: _, h => by simp at h
  | _ :: _, [], h => by simp at h
  | a :: l, b :: l', h => by
    show (a == b && eqL (ints k l) (ints k l')) = _
    rw [eqL_ints (by simpa using h), Bool.eq_iff_iff]
    simp
theorem sameI_append : ∀ {a a' b b' : List Value}, SameI a a' → SameI b b' → SameI (a ++ b) (a' ++ b')
  | [], [], _, _, _, h => h
  | [], _ :: _, _, _, h, _ => h.nil_cons.elim
  | _ :: _, [], _, _, h, _ => h.cons_nil.elim
  | x :: l, y :: l', _, _, h, hb => by
    obtain ⟨k, u, v, rfl, rfl, ht⟩ := h.cons
    exact ⟨rfl, sameI_append ht hb⟩
theorem eqL_append : ∀ {a a' b b' : List Value}, SameI a a' → eqL (a ++ b) (a' ++ b') = (eqL a a' && eqL b b')
  | [], [], _, _, _ => by simp [eqL]
  | [], _ :: _, _, _, h => h.nil_cons.elim
  | _ :: _, [], _, _, h => h.cons_nil.elim
  | x :: l, y :: l', b, b', h => by
    obtain ⟨k, u, v, rfl, rfl, ht⟩ := h.cons
    simp only [List.cons_append, eqL]
    rw [eqL_append ht, Bool.and_assoc]
theorem sameI_gc {s s' : Int} {x o x' o' : List Int} (h1 : x.length = 8) (h2 : o.length = 8) (h3 : x'.length = 8) (h4 : o'.length = 8) : SameI (gc s x o) (gc s' x' o') = True :=
  eq_true ⟨rfl, sameI_append (sameI_ints (by omega)) (sameI_ints (by omega))⟩
theorem eqL_gc {s s' : Int} {x o x' o' : List Int} (h1 : x.length = 8) (h2 : o.length = 8) (h3 : x'.length = 8) (h4 : o'.length = 8) : eqL (gc s x o) (gc s' x' o') = decide (s = s' ∧ x = x' ∧ o = o') := by
  show (s == s' && eqL (ints .u8 x ++ ints .u8 o) (ints .u8 x' ++ ints .u8 o')) = _
  rw [eqL_append (sameI_ints (by omega)), eqL_ints (by omega), eqL_ints (by omega), Bool.eq_iff_iff]
  simp

theorem ones_nil : Ones [] = True := eq_true fun _ h => nomatch h
theorem ones_cons_int {k : IntKind} {n : Int} {l : List Value} : Ones (.int k n :: l) = Ones l := by
  unfold Ones
  simp [Value.oneCell']
theorem ones_cons_slc {a : Option Addr} {n c : Nat} {l : List Value} : Ones (.slice a n c :: l) = Ones l := by
  unfold Ones
  simp [Value.oneCell']

/-- A plan that parts, closed to the walk's own reckoning. -/
def moreX (P : Program) (N : Nat) (W : List Nat) (w0 : World) (ops : Array Oper) (i : Nat) (p q : Plan) (ρ : Env) (M : Blks) (K : Env → Blks → Prop) : Prop := evPlan P N W w0 ops (.more i p q) ρ M K
theorem evPlan_more {P : Program} {N : Nat} {W : List Nat} {w0 : World} {ops : Array Oper} {i : Nat} {p q : Plan} {ρ : Env} {M : Blks} {K : Env → Blks → Prop} : evPlan P N W w0 ops (.more i p q) ρ M K = moreX P N W w0 ops i p q ρ M K := rfl
theorem moreX_go {P : Program} {N : Nat} {W : List Nat} {w0 : World} {ops : Array Oper} {i : Nat} {p q : Plan} {ρ : Env} {M : Blks} {K : Env → Blks → Prop} (h : evPlan P N W w0 ops (.one i p) ρ M K) (h' : evPlan P N W w0 ops q ρ M K) : moreX P N W w0 ops i p q ρ M K := by
  unfold moreX evPlan
  unfold evPlan at h
  split
  · rename_i o ho
    rw [ho] at h
    exact ⟨h, h'⟩
  · rename_i ho
    rw [ho] at h
    exact h

/-! ### Short names -/

theorem Zj : type_of% @cond_true := @cond_true
theorem Zk : type_of% @cond_false := @cond_false
theorem Zn : type_of% @if_false := @if_false
theorem ZA : type_of% @forall_const := @forall_const
theorem YR : type_of% @evPlan_more := @evPlan_more
end Go.W8

/-
  Slices in blocks of their own: how they read, grow and are lent. Nothing here is about one program. Conditions: none.
-/
namespace Go.W8
set_option linter.unusedVariables false
set_option linter.unusedSimpArgs false
set_option linter.unusedSectionVars false

/-- A row in a block: what it holds, and room behind it. -/
structure Row (w : Nat) (l : List Value) (m cap : Nat) (cs : List Value) : Prop where
  len : l.length = m * w
  le : m ≤ cap
  size : cs.length = cap * w
  pre : ∃ rest, cs = l ++ rest

theorem Row.nil (w : Nat) : Row w [] 0 0 [] := ⟨by simp, Nat.le_refl _, by simp, [], rfl⟩
theorem Row.full {w m : Nat} {l : List Value} (h : l.length = m * w) : Row w l m m l := ⟨h, Nat.le_refl _, h, [], by simp⟩
theorem Row.take {w m cap : Nat} {l cs : List Value} (h : Row w l m cap cs) : cs.take (m * w) = l := by
  obtain ⟨rest, rfl⟩ := h.pre
  rw [← h.len, List.take_left]
theorem Row.snoc {w m cap m' cap' : Nat} {l cs news rest : List Value} (h : Row w l m cap cs) (hn : news.length = m' * w) (hc : m + m' ≤ cap') (hr : rest.length = (cap' - (m + m')) * w) : Row w (l ++ news) (m + m') cap' (cs.take (m * w) ++ news ++ rest) := by
  rw [h.take]
  refine ⟨by rw [List.length_append, h.len, hn, Nat.add_mul], hc, ?_, rest, rfl⟩
  rw [List.length_append, List.length_append, h.len, hn, hr, ← Nat.add_mul, ← Nat.add_mul]
  congr 1
  omega
theorem Row.snoc1 {m cap m' cap' : Nat} {l cs news rest : List Value} (h : Row 1 l m cap cs) (hn : news.length = m') (hc : m + m' ≤ cap') (hr : rest.length = cap' - (m + m')) : Row 1 (l ++ news) (m + m') cap' (cs.take m ++ news ++ rest) := by
  have := h.snoc (m' := m') (news := news) (rest := rest) (by omega) hc (by omega)
  rwa [Nat.mul_one] at this
theorem Row.size1 {m cap : Nat} {l cs : List Value} (h : Row 1 l m cap cs) : cs.length = cap := by rw [h.size, Nat.mul_one]
theorem Row.len1 {m cap : Nat} {l cs : List Value} (h : Row 1 l m cap cs) : l.length = m := by rw [h.len, Nat.mul_one]
theorem Row.first {w m' cap' : Nat} {news rest : List Value} (hn : news.length = m' * w) (hc : m' ≤ cap') (hr : rest.length = (cap' - m') * w) : Row w news m' cap' (news ++ rest) := by
  refine ⟨hn, hc, ?_, rest, rfl⟩
  rw [List.length_append, hn, hr, ← Nat.add_mul]
  congr 1
  omega
theorem Row.get {w m cap : Nat} {l cs : List Value} (h : Row w l m cap cs) {j : Nat} {u : Value} (hu : l[j]? = some u) : cs[j]? = some u := by
  obtain ⟨rest, rfl⟩ := h.pre
  have hj : j < l.length := by
    rcases Nat.lt_or_ge j l.length with h1 | h1
    · exact h1
    · rw [List.getElem?_eq_none h1] at hu; cases hu
  rw [List.getElem?_append_left hj, hu]
theorem Row.set {w m cap : Nat} {l cs : List Value} (h : Row w l m cap cs) {j : Nat} (hj : j < m * w) (u : Value) : Row w (l.set j u) m cap (cs.set j u) := by
  obtain ⟨rest, rfl⟩ := h.pre
  refine ⟨by rw [List.length_set, h.len], h.le, by rw [List.length_set, h.size], rest, ?_⟩
  rw [List.set_append_left _ _ (by rw [h.len]; exact hj)]
theorem Row.sub {w m cap : Nat} {l cs : List Value} (h : Row w l m cap cs) {o n : Nat} (hj : o + n ≤ m * w) : subL cs o n = subL l o n := by
  obtain ⟨rest, rfl⟩ := h.pre
  have := h.len
  unfold subL
  rw [List.drop_append_of_le_length (by omega), List.take_append_of_le_length (by rw [List.length_drop]; omega)]
theorem Row.fits {w m cap : Nat} {l cs : List Value} (h : Row w l m cap cs) {k : Nat} (hk : k ≤ m * w) : k ≤ cs.length := by
  rw [h.size]
  exact Nat.le_trans hk (Nat.mul_le_mul_right _ h.le)
theorem ints_snoc (k : IntKind) (l : List Int) (a : Int) : ints k l ++ [.int k a] = ints k (l ++ [a]) := by simp [ints]

/-- A text of bytes. -/
def strB (l : List Int) : ByteArray := bytesOf (ints .u8 l)
theorem u8s_ints (l : List Int) : U8s (ints .u8 l) = True := eq_true ⟨l, rfl⟩
theorem bytes_strB (l : List Int) : bytesOf (ints .u8 l) = strB l := rfl
theorem zeroCells_one (v : Value) (n : Nat) : (Builtin.zeroCells [v].toArray n).toList = List.replicate n v := by
  unfold Builtin.zeroCells
  apply List.ext_getElem?
  intro i
  by_cases h : i < n
  · simp [h, Nat.mod_one]
  · simp [h]

/-- A slice and the memory that it has for its own. -/
def SlN (w : Nat) (l : List Value) (v : Value) (M : Blks) : Prop :=
  (l = [] ∧ v = .slice none 0 0 ∧ M = []) ∨ ∃ b m cap cs, v = .slice (some ⟨b, 0, none⟩) m cap ∧ M = [(b, cs)] ∧ Row w l m cap cs
theorem SlN.nil (w : Nat) : SlN w [] (.slice none 0 0) [] := .inl ⟨rfl, rfl, rfl⟩
theorem SlN.row {w b m cap : Nat} {l cs : List Value} (h : Row w l m cap cs) : SlN w l (.slice (some ⟨b, 0, none⟩) m cap) [(b, cs)] := .inr ⟨b, m, cap, cs, rfl, rfl, h⟩

/-- A slice whose cells stand in what is told. -/
def RdS (R : Rd) (w : Nat) (l : List Value) (v : Value) : Prop := ∃ a m cap, v = .slice a m cap ∧ l.length = m * w ∧ (m ≠ 0 → ∃ b cs, a = some ⟨b, 0, none⟩ ∧ (b, 0, cs) ∈ R ∧ ∃ rest, cs = l ++ rest) ∧ (∀ a', a = some a' → ∃ b, a' = ⟨b, 0, none⟩) ∧ m ≤ cap
theorem SlN.reads {w : Nat} {l : List Value} {v : Value} {M : Blks} {R : Rd} (h : SlN w l v M) (hR : ∀ p ∈ M, (p.1, 0, p.2) ∈ R) : RdS R w l v := by
  rcases h with ⟨rfl, rfl, rfl⟩ | ⟨b, m, cap, cs, rfl, rfl, h⟩
  · exact ⟨_, _, _, rfl, by simp, fun hn => absurd rfl hn, (fun _ h => nomatch h), Nat.le_refl _⟩
  · exact ⟨_, _, _, rfl, h.len, fun _ => ⟨b, cs, rfl, hR _ List.mem_cons_self, h.pre⟩, (fun a' e => by cases e; exact ⟨b, rfl⟩), h.le⟩
theorem mem_toldOf {L : Blks} {p : Nat × List Value} (h : p ∈ L) : (p.1, 0, p.2) ∈ toldOf L := List.mem_map.2 ⟨p, h, rfl⟩

/-! ### Slices of slices of numbers -/

inductive RowsI : List (List Int) → List Value → Blks → Prop
  | nil : RowsI [] [] []
  | snoc {ll : List (List Int)} {vs : List Value} {M : Blks} {l : List Int} {v : Value} {Mv : Blks} (h : RowsI ll vs M) (hv : SlN 1 (ints .i64 l) v Mv) : RowsI (ll ++ [l]) (vs ++ [v]) (Mv ++ M)

theorem RowsI.len {ll : List (List Int)} {vs : List Value} {M : Blks} (h : RowsI ll vs M) : vs.length = ll.length := by
  induction h with
  | nil => rfl
  | snoc _ _ ih => simp [ih]

theorem RowsI.split {ll : List (List Int)} {vs : List Value} {M : Blks} (h : RowsI ll vs M) : ∀ {j : Nat}, j < ll.length → ∃ l v A Mj B, ll[j]? = some l ∧ vs[j]? = some v ∧ M = A ++ (Mj ++ B) ∧ SlN 1 (ints .i64 l) v Mj ∧
    ∀ l' v' Mj', SlN 1 (ints .i64 l') v' Mj' → RowsI (ll.set j l') (vs.set j v') (A ++ (Mj' ++ B)) := by
  induction h with
  | nil => intro j hj; simp at hj
  | @snoc ll vs M l v Mv h hv ih =>
    intro j hj
    have hl := h.len
    by_cases hjl : j < ll.length
    · obtain ⟨l0, v0, A, Mj, B, h1, h2, rfl, h4, h5⟩ := ih hjl
      refine ⟨l0, v0, Mv ++ A, Mj, B, by rw [List.getElem?_append_left hjl, h1], by rw [List.getElem?_append_left (by omega), h2], by rw [List.append_assoc], h4, fun l' v' Mj' h6 => ?_⟩
      rw [List.set_append_left _ _ hjl, List.set_append_left _ _ (by omega), List.append_assoc]
      exact .snoc (h5 l' v' Mj' h6) hv
    · have : j = ll.length := by simp at hj; omega
      subst this
      refine ⟨l, v, [], Mv, M, by simp, by rw [← hl]; simp, rfl, hv, fun l' v' Mj' h6 => ?_⟩
      have e1 : (ll ++ [l]).set ll.length l' = ll ++ [l'] := by rw [List.set_append_right _ _ (Nat.le_refl _), Nat.sub_self]; rfl
      have e2 : (vs ++ [v]).set ll.length v' = vs ++ [v'] := by rw [← hl, List.set_append_right _ _ (Nat.le_refl _), Nat.sub_self]; rfl
      rw [e1, e2]
      show RowsI _ _ (Mj' ++ M)
      exact .snoc h h6

def SlSl (ll : List (List Int)) (v : Value) (M : Blks) : Prop :=
  (ll = [] ∧ v = .slice none 0 0 ∧ M = []) ∨ ∃ b m cap cs vs Mi, v = .slice (some ⟨b, 0, none⟩) m cap ∧ M = (b, cs) :: Mi ∧ Row 1 vs m cap cs ∧ RowsI ll vs Mi

def RdSS (R : Rd) (ll : List (List Int)) (v : Value) : Prop := ∃ vs, RdS R 1 vs v ∧ vs.length = ll.length ∧ ∀ (j : Nat) (l : List Int) (u : Value), ll[j]? = some l → vs[j]? = some u → RdS R 1 (ints .i64 l) u

theorem SlSl.reads {ll : List (List Int)} {v : Value} {M : Blks} {R : Rd} (h : SlSl ll v M) (hR : ∀ p ∈ M, (p.1, 0, p.2) ∈ R) : RdSS R ll v := by
  rcases h with ⟨rfl, rfl, rfl⟩ | ⟨b, m, cap, cs, vs, Mi, rfl, rfl, h, hr⟩
  · exact ⟨[], ⟨_, _, _, rfl, by simp, fun hn => absurd rfl hn, (fun _ h => nomatch h), Nat.le_refl _⟩, rfl, fun j l u h => by simp at h⟩
  · refine ⟨vs, ⟨_, _, _, rfl, h.len, fun _ => ⟨b, cs, rfl, hR _ List.mem_cons_self, h.pre⟩, (fun a' e => by cases e; exact ⟨b, rfl⟩), h.le⟩, hr.len, fun j l u hl hu => ?_⟩
    have hj : j < ll.length := by
      rcases Nat.lt_or_ge j ll.length with h1 | h1
      · exact h1
      · rw [List.getElem?_eq_none h1] at hl; cases hl
    obtain ⟨l0, v0, A, Mj, B, h1, h2, rfl, h4, _⟩ := hr.split hj
    rw [h1] at hl
    rw [h2] at hu
    cases hl
    cases hu
    exact h4.reads fun p hp => hR p (by simp [hp])

/-- A value beside a code. -/
def ResS (rep : Value → Blks → Prop) (c : Int) (v : Value) (M : Blks) : Prop := ∃ s, v = .tuple #[s, .int .i64 c] ∧ rep s M

section
variable {P : Program} {N : Nat} {W : List Nat} {w0 : World} {ρ : Env} {M M' : Blks}

theorem RdS.get {R : Rd} {w m cap j : Nat} {l : List Value} {a : Option Addr} {u : Value} (h : RdS R w l (.slice a m cap)) (ht : Told W w0 R) (hu : l[j]? = some u) : ∃ b, a = some ⟨b, 0, none⟩ ∧ frn W w0 b j = some u := by
  obtain ⟨a', m', cap', e, hl, h, _⟩ := h
  cases e
  have hj : j < l.length := by
    rcases Nat.lt_or_ge j l.length with h1 | h1
    · exact h1
    · rw [List.getElem?_eq_none h1] at hu; cases hu
  obtain ⟨b, cs, rfl, hm, rest, rfl⟩ := h (fun e => by rw [e, Nat.zero_mul] at hl; omega)
  refine ⟨b, rfl, ?_⟩
  have := ht _ hm j u (by simp only; rw [List.getElem?_append_left hj, hu])
  simpa using this

/-- Some cells in a row. -/
theorem RdS.many {R : Rd} {w m cap o n : Nat} {l : List Value} {a : Option Addr} (h : RdS R w l (.slice a m cap)) (ht : Told W w0 R) (hn : o + n ≤ l.length) (h0 : n ≠ 0 := by omega) : ∃ b, a = some ⟨b, 0, none⟩ ∧ (List.range n).mapM (fun j => frn W w0 b (o + j)) = some (subL l o n) := by
  obtain ⟨b, rfl, _⟩ := h.get ht (List.getElem?_eq_getElem (show o < l.length by omega))
  refine ⟨b, rfl, mapM_told (by simp [subL]; omega) fun j x y hx hy => ?_⟩
  have hj : j < n := by
    rcases Nat.lt_or_ge j n with h1 | h1
    · exact h1
    · rw [List.getElem?_eq_none (by simpa using h1)] at hx; cases hx
  rw [List.getElem?_range hj] at hx
  cases hx
  have e : l[o + j]? = some y := by
    simpa [subL, List.getElem?_take, List.getElem?_drop, hj] using hy
  obtain ⟨b', e', hb⟩ := h.get ht e
  cases e'
  exact hb

theorem findB_of {b : Nat} {cs : List Value} : ∀ {M : Blks}, (M.map (·.1)).Nodup → (b, cs) ∈ M → findB b M = some cs
  | [], _, h => nomatch h
  | (b', cs') :: M, hn, h => by
    simp only [List.map_cons, List.nodup_cons] at hn
    unfold findB
    rcases List.mem_cons.1 h with e | h
    · cases e; rw [if_pos rfl]
    · rw [if_neg, findB_of hn.2 h]
      rintro rfl
      exact hn.1 (List.mem_map.2 ⟨_, h, rfl⟩)

theorem holds_mem {L : Blks} (hn : (M.map (·.1)).Nodup) (h : ∀ p ∈ L, p ∈ M) : HoldsAll W w0 M (toldOf L) := by
  intro r hr
  obtain ⟨p, hp, rfl⟩ := List.mem_map.1 hr
  intro j v hv
  unfold cellAt
  rw [findB_of hn (h p hp)]
  simpa using hv

theorem nodup_cases {b : Nat} {cs : List Value} (h : (((b, cs) :: M).map (·.1)).Nodup) : (∀ p ∈ M, ¬ b = p.1) ∧ (M.map (·.1)).Nodup := by
  simp only [List.map_cons, List.nodup_cons] at h
  exact ⟨fun p hp e => h.1 (by rw [e]; exact List.mem_map_of_mem hp), h.2⟩

theorem callK_told0 {N : Nat} {n : FuncId} {args : List Value} {v : Value} {R : Rd} {d : Option Tmp} {ops : Array Oper} {rest : List Oper} {K : Env → Blks → Prop} (h : GivesR P n args.toArray R v)
    (hR : Told W w0 R) (hk : setD N ρ d v fun ρ' => evOps P N W w0 ops rest ρ' M K) : callK P N W w0 (.func (.func n) #[] #[]) args M d ρ ops rest K := callK_told (by simpa using h) hR hk
theorem callP_reads0 {N : Nat} {n : FuncId} {args : List Value} {v : Value} {R : Rd} {d : Option Tmp} {ops : Array Oper} {p : Plan} {K : Env → Blks → Prop} (h : GivesR P n args.toArray R v)
    (hR : HoldsAll W w0 M R) (hk : setD N ρ d v fun ρ' => evPlan P N W w0 ops p ρ' M K) : callP P N W w0 (.func (.func n) #[] #[]) args M d ρ ops p K := callP_reads (by simpa using h) hR hk
theorem Cd.same {N : Nat} {Q : Exit → Env → Blks → Prop} {c : Operand} {x y : Code} {a b : Int} (hc : ev ρ c = .bool (a != b)) (he : a = b) (hf : Cd P N W w0 y Q ρ M) : Cd P N W w0 (.cond c x y) Q ρ M :=
  Cd.no (by rw [hc, bne_eq_false_iff_eq.2 he]) hf
def SubP (M0 M : Blks) : Prop := ∃ M1, M0.Perm M1 ∧ M1.Sublist M
theorem SubP.refl (M : Blks) : SubP M M := ⟨M, .refl _, .refl _⟩
theorem SubP.of {M0 M : Blks} (h : M0.Sublist M) : SubP M0 M := ⟨M0, .refl _, h⟩
theorem SubP.perm {M0 M1 M : Blks} (h : M0.Perm M1) (hs : M1.Sublist M) : SubP M0 M := ⟨M1, h, hs⟩
theorem Cd.sub {N : Nat} {Q : Exit → Env → Blks → Prop} {c : Code} (hs : SubP M' M) (h : Cd P N W w0 c Q ρ M') : Cd P N W w0 c Q ρ M := by
  obtain ⟨M1, h1, h2⟩ := hs
  exact Cd.drop h2 (Cd.turn h1 h)
/-- A call that hands back new memory, which is told behind what was there. -/
theorem callK_newR {N : Nat} {n : FuncId} {args : List Value} {fs cs : Array Value} {d : Option Tmp} {ops : Array Oper} {rest : List Oper} {R : Rd} {Post : Value → Blks → Prop} {K : Env → Blks → Prop} (h : GivesX P n (fs.toList ++ (args ++ cs.toList)).toArray [] R Post)
    (hR : ∀ w, Own W w0 M w → ToldW w R) (hk : ∀ v M', Post v M' → ((M ++ M').map (·.1)).Nodup → (∀ p ∈ M', Fresh w0 M p.1) → setD N ρ d v fun ρ' => evOps P N W w0 ops rest ρ' (M ++ M') K) : callK P N W w0 (.func (.func n) fs cs) args M d ρ ops rest K := by
  refine ⟨h.1, fun w hw => (h.2 w List.nodup_nil (fun _ hp => nomatch hp) (hR w hw)).mono ?_⟩
  rintro e w' ⟨v, M', rfl, hw', hp⟩
  have ho : Own W w0 (M' ++ M) w' := hw.thenL (L := []) (fun _ hp => nomatch hp) (List.Sublist.refl _) (fun _ _ hm => nomatch hm) hw'
  have hper : (M ++ M').Perm (M' ++ M) := List.perm_append_comm
  have hn := (hper.map (·.1)).nodup_iff.2 ho.nodup
  refine ⟨v, M ++ M', rfl, ho.turn (fun p hp => hper.subset hp) hn, hk v M' hp hn fun p hp => ?_⟩
  rcases hw'.own p hp with h1 | h1
  · exact nomatch h1
  · exact ⟨Nat.le_trans hw.size h1, fun q hq => by have := hw.lt hq; omega⟩
theorem callK_newR0 {N : Nat} {n : FuncId} {args : List Value} {d : Option Tmp} {ops : Array Oper} {rest : List Oper} {R : Rd} {Post : Value → Blks → Prop} {K : Env → Blks → Prop} (h : GivesX P n args.toArray [] R Post)
    (hR : ∀ w, Own W w0 M w → ToldW w R) (hk : ∀ v M', Post v M' → ((M ++ M').map (·.1)).Nodup → (∀ p ∈ M', Fresh w0 M p.1) → setD N ρ d v fun ρ' => evOps P N W w0 ops rest ρ' (M ++ M') K) : callK P N W w0 (.func (.func n) #[] #[]) args M d ρ ops rest K :=
  callK_newR (by simpa using h) hR hk
/-- Of the memory that a call hands back only a part is told. -/
theorem GivesX.part {f : FuncId} {args : Array Value} {L : Blks} {R : Rd} {Post : Value → Blks → Prop} (h : GivesX P f args L R fun v M => ∃ M1, SubP M1 M ∧ Post v M1) : GivesX P f args L R Post :=
  ⟨h.1, fun w hn hL hR => (h.2 w hn hL hR).mono fun _ _ ⟨v, M', h1, h2, M1, ⟨M2, h3, h4⟩, h5⟩ =>
    ⟨v, M1, h1, (h2.sub h4).turn (fun p hp => h3.subset hp) ((h3.map (·.1)).nodup_iff.2 (h2.sub h4).nodup), h5⟩⟩

/-- A call in a plan that may turn memory, closed to the walk's own reckoning. -/
def callO (P : Program) (N : Nat) (W : List Nat) (w0 : World) (f : Value) (args : List Value) (M : Blks) (d : Option Tmp) (ρ : Env) (ops : Array Oper) (p : Plan) (K : Env → Blks → Prop) : Prop :=
  match f with
  | .func (.func n) first captured => ACall P W w0 n (first.toList ++ (args ++ captured.toList)).toArray M fun v M' => setD N ρ d v fun ρ' => evPlan P N W w0 ops p ρ' M' K
  | _ => False
theorem evOp_callO {N : Nat} {f : Operand} {args : Array Operand} {ts : Array TypeId} {d : Option Tmp} {T : TypeId} {pos : String} {aft : Array Edge} {g : Option (Nat × Bool)} {ops : Array Oper} {p : Plan} {K : Env → Blks → Prop} :
    evOp P N W w0 ⟨d, .call ⟨.value f, args, ts⟩, T, pos, aft, g⟩ ρ M (fun ρ' M' => evPlan P N W w0 ops p ρ' M' K) = callO P N W w0 (ev ρ f) (args.toList.map (ev ρ)) M d ρ ops p K := by
  unfold evOp callO
  rfl
/-- A call that hands back new memory, which is told behind what was there. -/
theorem callO_newR {N : Nat} {n : FuncId} {args : List Value} {fs cs : Array Value} {d : Option Tmp} {ops : Array Oper} {p : Plan} {R : Rd} {Post : Value → Blks → Prop} {K : Env → Blks → Prop} (h : GivesX P n (fs.toList ++ (args ++ cs.toList)).toArray [] R Post)
    (hR : ∀ w, Own W w0 M w → ToldW w R) (hk : ∀ v M', Post v M' → ((M ++ M').map (·.1)).Nodup → (∀ p1 ∈ M', Fresh w0 M p1.1) → setD N ρ d v fun ρ' => evPlan P N W w0 ops p ρ' (M ++ M') K) : callO P N W w0 (.func (.func n) fs cs) args M d ρ ops p K := by
  refine ⟨h.1, fun w hw => (h.2 w List.nodup_nil (fun _ hp => nomatch hp) (hR w hw)).mono ?_⟩
  rintro e w' ⟨v, M', rfl, hw', hp⟩
  have ho : Own W w0 (M' ++ M) w' := hw.thenL (L := []) (fun _ hp => nomatch hp) (List.Sublist.refl _) (fun _ _ hm => nomatch hm) hw'
  have hper : (M ++ M').Perm (M' ++ M) := List.perm_append_comm
  have hn := (hper.map (·.1)).nodup_iff.2 ho.nodup
  refine ⟨v, M ++ M', rfl, ho.turn (fun p hp => hper.subset hp) hn, hk v M' hp hn fun p hp => ?_⟩
  rcases hw'.own p hp with h1 | h1
  · exact nomatch h1
  · exact ⟨Nat.le_trans hw.size h1, fun q hq => by have := hw.lt hq; omega⟩
theorem callO_newR0 {N : Nat} {n : FuncId} {args : List Value} {d : Option Tmp} {ops : Array Oper} {p : Plan} {R : Rd} {Post : Value → Blks → Prop} {K : Env → Blks → Prop} (h : GivesX P n args.toArray [] R Post)
    (hR : ∀ w, Own W w0 M w → ToldW w R) (hk : ∀ v M', Post v M' → ((M ++ M').map (·.1)).Nodup → (∀ p1 ∈ M', Fresh w0 M p1.1) → setD N ρ d v fun ρ' => evPlan P N W w0 ops p ρ' (M ++ M') K) : callO P N W w0 (.func (.func n) #[] #[]) args M d ρ ops p K :=
  callO_newR (by simpa using h) hR hk

/-! ### Calls that leave all memory as it is, in plans -/

theorem Ext.front : ∀ {M' : Blks} {M : Blks}, (M'.map (·.1)).Nodup → (∀ p ∈ M', Fresh w0 M p.1) → Ext w0 M (M' ++ M)
  | [], _, _, _ => .refl
  | (b, cs) :: t, M, hn, hf => .cons (Ext.front (List.nodup_cons.1 hn).2 fun p hp => hf p (List.mem_cons_of_mem _ hp)) ⟨(hf (b, cs) (List.mem_cons_self ..)).1, fun p hp => by
      rcases List.mem_append.1 hp with hp | hp
      · exact fun e => (List.nodup_cons.1 hn).1 (List.mem_map.2 ⟨p, hp, e.symm⟩)
      · exact (hf (b, cs) (List.mem_cons_self ..)).2 p hp⟩
/-- A call in a plan that leaves all memory as it is, closed to the walk's own reckoning. -/
def callX (P : Program) (N : Nat) (W : List Nat) (w0 : World) (f : Value) (args : List Value) (M : Blks) (d : Option Tmp) (ρ : Env) (ops : Array Oper) (p : Plan) (K : Env → Blks → Prop) : Prop :=
  match f with
  | .func (.func n) first captured => ACall P W w0 n (first.toList ++ (args ++ captured.toList)).toArray M fun v M' => setD N ρ d v fun ρ' => Ext w0 M M' ∧ evPlan P N W w0 ops p ρ' M' K
  | _ => False
/-! ### Blocks counted, for some of them in some order -/

noncomputable def cnt (x : Nat × List Value) (M : Blks) : Nat := @List.count _ (@instBEqOfDecidableEq _ (fun a b => Classical.propDecidable (a = b))) x M
noncomputable def oneAt (x p : Nat × List Value) : Nat := @ite _ (p = x) (Classical.propDecidable _) 1 0
end
end Go.W8

/-
  The rules that reckon a piece of code, bundled. Nothing here is about one program. Conditions: none.
-/
namespace Go.W8
set_option linter.unusedVariables false
set_option maxRecDepth 10000

theorem E0 : (((type_of% @guardQ_tt) ∧ (type_of% @guardQ_ff)) ∧ ((type_of% @guardQ_tf) ∧ ((type_of% @guardQ_ft) ∧ (type_of% @evOp_call)))) ∧ (((type_of% @evQ_call) ∧ (type_of% @evV_call)) ∧ ((type_of% @evOp_callO) ∧ ((type_of% @appIf_pos) ∧ (type_of% @appIf_zero)))) := ⟨⟨⟨@guardQ_tt, @guardQ_ff⟩, ⟨@guardQ_tf, ⟨@guardQ_ft, @evOp_call⟩⟩⟩, ⟨⟨@evQ_call, @evV_call⟩, ⟨@evOp_callO, ⟨@appIf_pos, @appIf_zero⟩⟩⟩⟩
theorem E1 : ((((((type_of% @guardQ_and) ∧ ((type_of% @true_and) ∧ (type_of% @and_true))) ∧ ((type_of% @or_self) ∧ ((type_of% @or_false) ∧ (type_of% @false_or)))) ∧ (((type_of% @and_self) ∧ ((type_of% @and_false) ∧ (type_of% @false_and))) ∧ (((type_of% @List.getElem?_toArray.{0}) ∧ (type_of% @List.getElem?_cons_zero.{0})) ∧ ((type_of% @List.getElem?_cons_succ.{0}) ∧ (type_of% @Option.bind_some.{0, 0}))))) ∧ ((((type_of% @Option.map_some.{0, 0}) ∧ ((type_of% @Bool.not_true) ∧ (type_of% @Bool.not_false))) ∧ (((type_of% @false_implies) ∧ (type_of% @true_implies)) ∧ ((type_of% @List.map_cons.{0, 0}) ∧ (type_of% @List.map_nil.{0, 0})))) ∧ (((type_of% @List.nil_append.{0}) ∧ ((type_of% @List.append_nil.{0}) ∧ (type_of% @List.toList_toArray.{0}))) ∧ (((type_of% @Nat.zero_add) ∧ (type_of% @Nat.add_zero)) ∧ ((type_of% @Nat.mul_one) ∧ (type_of% @Int.toNat_natCast)))))) ∧ (((((type_of% @List.size_toArray.{0}) ∧ ((type_of% @List.length_cons.{0}) ∧ (type_of% @List.length_nil.{0}))) ∧ (((type_of% @List.mem_cons.{0}) ∧ (type_of% @List.not_mem_nil.{0})) ∧ ((type_of% @stC_one) ∧ (type_of% @stC_full)))) ∧ (((type_of% @stC_gc_x) ∧ ((type_of% @stC_gc_o) ∧ (type_of% @sub_full))) ∧ (((type_of% @splice_full) ∧ (type_of% @splice_gc_s)) ∧ ((type_of% @splice_gc_x) ∧ (type_of% @splice_gc_o))))) ∧ ((((type_of% @sub_gc_x) ∧ ((type_of% @sub_gc_o) ∧ (type_of% @ones_gc))) ∧ (((type_of% @ones_ints) ∧ (type_of% @ones_bools)) ∧ ((type_of% @ones_int) ∧ (type_of% @ones_bool)))) ∧ (((type_of% @ones_ptr) ∧ ((type_of% @ones_slc) ∧ (type_of% @ones_str))) ∧ (((type_of% @ones_func) ∧ (type_of% @gc_length)) ∧ ((type_of% @ints_length) ∧ (type_of% @bools_length))))))) ∧ ((((((type_of% @upto_length) ∧ ((type_of% @List.length_set.{0}) ∧ (type_of% @z8_len))) ∧ (((type_of% @List.length_replicate.{0}) ∧ (type_of% @wrap_i64)) ∧ ((type_of% @wrap_u8) ∧ (type_of% @gc_s)))) ∧ (((type_of% @gc_x) ∧ ((type_of% @gc_o) ∧ (type_of% @gc_set_s))) ∧ (((type_of% @gc_set_x) ∧ (type_of% @gc_set_o)) ∧ ((type_of% @ints_get) ∧ (type_of% @ints_set))))) ∧ ((((type_of% @bools_get) ∧ ((type_of% @bools_set) ∧ (type_of% @List.length_map.{0, 0}))) ∧ (((type_of% @decide_eq_true_eq) ∧ (type_of% @Int.tmod_eq_emod_of_nonneg)) ∧ ((type_of% @Int.tdiv_eq_ediv_of_nonneg) ∧ (type_of% @retQ_ret)))) ∧ (((type_of% @retQ_normal) ∧ ((type_of% @endQ_1) ∧ (type_of% @endQ_2))) ∧ (((type_of% @endQ_3) ∧ (type_of% @resV_tmp)) ∧ ((type_of% @resV_cell) ∧ (type_of% @bne_self_eq_false.{0})))))) ∧ (((((type_of% @beq_self_eq_true.{0}) ∧ ((type_of% @Int.cast_ofNat_Int) ∧ (type_of% @Int.toNat_zero))) ∧ (((type_of% @Int.toNat_natCast) ∧ (type_of% @Nat.zero_le)) ∧ ((type_of% @Int.natCast_nonneg) ∧ (type_of% @Int.le_refl)))) ∧ (((type_of% @Option.map_none.{0, 0}) ∧ ((type_of% @Nat.zero_mul) ∧ (type_of% @Option.getD_none.{0}))) ∧ (((type_of% @Option.getD_some.{0}) ∧ (type_of% @not_false_eq_true)) ∧ ((type_of% @Nat.sub_zero) ∧ (type_of% @List.map_toArray.{0, 0}))))) ∧ ((((type_of% @splice_succ) ∧ ((type_of% @splice_zero) ∧ (type_of% @tab_len))) ∧ (((type_of% @ones_nil) ∧ (type_of% @ones_cons_int)) ∧ ((type_of% @ones_cons_slc) ∧ (type_of% @sameI_gc)))) ∧ (((type_of% @eqL_gc) ∧ ((type_of% @List.set_cons_zero.{0}) ∧ (type_of% @List.set_cons_succ.{0}))) ∧ (((type_of% @Go.toList_madeCells_one) ∧ (type_of% @u8s_ints)) ∧ ((type_of% @bytes_strB) ∧ (type_of% @zeroCells_one))))))) := ⟨⟨⟨⟨⟨⟨@guardQ_and, ⟨@true_and, @and_true⟩⟩, ⟨@or_self, ⟨@or_false, @false_or⟩⟩⟩, ⟨⟨@and_self, ⟨@and_false, @false_and⟩⟩, ⟨⟨@List.getElem?_toArray.{0}, @List.getElem?_cons_zero.{0}⟩, ⟨@List.getElem?_cons_succ.{0}, @Option.bind_some.{0, 0}⟩⟩⟩⟩, ⟨⟨⟨@Option.map_some.{0, 0}, ⟨@Bool.not_true, @Bool.not_false⟩⟩, ⟨⟨@false_implies, @true_implies⟩, ⟨@List.map_cons.{0, 0}, @List.map_nil.{0, 0}⟩⟩⟩, ⟨⟨@List.nil_append.{0}, ⟨@List.append_nil.{0}, @List.toList_toArray.{0}⟩⟩, ⟨⟨@Nat.zero_add, @Nat.add_zero⟩, ⟨@Nat.mul_one, @Int.toNat_natCast⟩⟩⟩⟩⟩, ⟨⟨⟨⟨@List.size_toArray.{0}, ⟨@List.length_cons.{0}, @List.length_nil.{0}⟩⟩, ⟨⟨@List.mem_cons.{0}, @List.not_mem_nil.{0}⟩, ⟨@stC_one, @stC_full⟩⟩⟩, ⟨⟨@stC_gc_x, ⟨@stC_gc_o, @sub_full⟩⟩, ⟨⟨@splice_full, @splice_gc_s⟩, ⟨@splice_gc_x, @splice_gc_o⟩⟩⟩⟩, ⟨⟨⟨@sub_gc_x, ⟨@sub_gc_o, @ones_gc⟩⟩, ⟨⟨@ones_ints, @ones_bools⟩, ⟨@ones_int, @ones_bool⟩⟩⟩, ⟨⟨@ones_ptr, ⟨@ones_slc, @ones_str⟩⟩, ⟨⟨@ones_func, @gc_length⟩, ⟨@ints_length, @bools_length⟩⟩⟩⟩⟩⟩, ⟨⟨⟨⟨⟨@upto_length, ⟨@List.length_set.{0}, @z8_len⟩⟩, ⟨⟨@List.length_replicate.{0}, @wrap_i64⟩, ⟨@wrap_u8, @gc_s⟩⟩⟩, ⟨⟨@gc_x, ⟨@gc_o, @gc_set_s⟩⟩, ⟨⟨@gc_set_x, @gc_set_o⟩, ⟨@ints_get, @ints_set⟩⟩⟩⟩, ⟨⟨⟨@bools_get, ⟨@bools_set, @List.length_map.{0, 0}⟩⟩, ⟨⟨@decide_eq_true_eq, @Int.tmod_eq_emod_of_nonneg⟩, ⟨@Int.tdiv_eq_ediv_of_nonneg, @retQ_ret⟩⟩⟩, ⟨⟨@retQ_normal, ⟨@endQ_1, @endQ_2⟩⟩, ⟨⟨@endQ_3, @resV_tmp⟩, ⟨@resV_cell, @bne_self_eq_false.{0}⟩⟩⟩⟩⟩, ⟨⟨⟨⟨@beq_self_eq_true.{0}, ⟨@Int.cast_ofNat_Int, @Int.toNat_zero⟩⟩, ⟨⟨@Int.toNat_natCast, @Nat.zero_le⟩, ⟨@Int.natCast_nonneg, @Int.le_refl⟩⟩⟩, ⟨⟨@Option.map_none.{0, 0}, ⟨@Nat.zero_mul, @Option.getD_none.{0}⟩⟩, ⟨⟨@Option.getD_some.{0}, @not_false_eq_true⟩, ⟨@Nat.sub_zero, @List.map_toArray.{0, 0}⟩⟩⟩⟩, ⟨⟨⟨@splice_succ, ⟨@splice_zero, @tab_len⟩⟩, ⟨⟨@ones_nil, @ones_cons_int⟩, ⟨@ones_cons_slc, @sameI_gc⟩⟩⟩, ⟨⟨@eqL_gc, ⟨@List.set_cons_zero.{0}, @List.set_cons_succ.{0}⟩⟩, ⟨⟨@Go.toList_madeCells_one, @u8s_ints⟩, ⟨@bytes_strB, @zeroCells_one⟩⟩⟩⟩⟩⟩⟩
theorem E2 : (type_of% @evOps_guard) ∧ ((type_of% @evQs_guard) ∧ (type_of% @evGd_eq)) := ⟨@evOps_guard, ⟨@evQs_guard, @evGd_eq⟩⟩
theorem E3 : ((type_of% @List.take_succ_cons.{0}) ∧ (type_of% @List.take_zero.{0})) ∧ ((type_of% @List.drop_succ_cons.{0}) ∧ (type_of% @List.drop_zero.{0})) := ⟨⟨@List.take_succ_cons.{0}, @List.take_zero.{0}⟩, ⟨@List.drop_succ_cons.{0}, @List.drop_zero.{0}⟩⟩
theorem E4 : (((type_of% @gc_length) ∧ (type_of% @ints_length)) ∧ ((type_of% @bools_length) ∧ ((type_of% @upto_length) ∧ (type_of% @List.length_set.{0})))) ∧ (((type_of% @z8_len) ∧ (type_of% @List.length_replicate.{0})) ∧ ((type_of% @List.length_cons.{0}) ∧ ((type_of% @List.length_nil.{0}) ∧ (type_of% @tab_len)))) := ⟨⟨⟨@gc_length, @ints_length⟩, ⟨@bools_length, ⟨@upto_length, @List.length_set.{0}⟩⟩⟩, ⟨⟨@z8_len, @List.length_replicate.{0}⟩, ⟨@List.length_cons.{0}, ⟨@List.length_nil.{0}, @tab_len⟩⟩⟩⟩
end Go.W8

/-
  Facts on the types of the program, each reckoned by the kernel. Conditions: none.
-/
namespace Go.Proofs
open Go.W8
theorem Tagg2 : aggT Try.prog 2 = false := by kernel_rfl
theorem Tagg31 : aggT Try.prog 31 = false := by kernel_rfl
theorem Tarr22 : arrT Try.prog 22 = some (8, 1) := by kernel_rfl
theorem Tarr44 : arrT Try.prog 44 = some (8, 1) := by kernel_rfl
theorem Tarr66 : arrT Try.prog 66 = some (8, 8) := by kernel_rfl
theorem Tarr69 : arrT Try.prog 69 = some (8, 1) := by kernel_rfl
theorem Tarr72 : arrT Try.prog 72 = some (8, 1) := by kernel_rfl
theorem Tarr79 : arrT Try.prog 79 = some (129, 1) := by kernel_rfl
theorem Tarre79 : arrE Try.prog 79 = some 2 := by kernel_rfl
theorem Tbld35 : bldP Try.prog 35 = some ([.int .i64 0, .slice none 0 0], [(0, 1), (1, 1)]) := by kernel_rfl
theorem Tbld44 : bldP Try.prog 44 = some (ints .i64 z8, [(0, 1), (1, 1), (2, 1), (3, 1), (4, 1), (5, 1), (6, 1), (7, 1)]) := by kernel_rfl
theorem Tbld66 : bldP Try.prog 66 = some (ints .i64 (List.replicate 64 0), [(0, 8), (8, 8), (16, 8), (24, 8), (32, 8), (40, 8), (48, 8), (56, 8)]) := by kernel_rfl
theorem Tbld69 : bldP Try.prog 69 = some (bools (List.replicate 8 false), [(0, 1), (1, 1), (2, 1), (3, 1), (4, 1), (5, 1), (6, 1), (7, 1)]) := by kernel_rfl
theorem Tbld72 : bldP Try.prog 72 = some (ints .i64 z8, [(0, 1), (1, 1), (2, 1), (3, 1), (4, 1), (5, 1), (6, 1), (7, 1)]) := by kernel_rfl
theorem Tby2 : bytesT Try.prog 2 = 8 := by kernel_rfl
theorem Tby79 : bytesT Try.prog 79 = 1032 := by kernel_rfl
theorem Tfld24_0 : fldO Try.prog 24 0 = some (0, 2) := by kernel_rfl
theorem Tfld24_1 : fldO Try.prog 24 1 = some (1, 22) := by kernel_rfl
theorem Tfld24_2 : fldO Try.prog 24 2 = some (9, 22) := by kernel_rfl
theorem Tfld27_0 : fldO Try.prog 27 0 = some (0, 2) := by kernel_rfl
theorem Tfld27_1 : fldO Try.prog 27 1 = some (1, 22) := by kernel_rfl
theorem Tfld27_2 : fldO Try.prog 27 2 = some (9, 22) := by kernel_rfl
theorem Tfld35_0 : fldO Try.prog 35 0 = some (0, 2) := by kernel_rfl
theorem Tfld35_1 : fldO Try.prog 35 1 = some (1, 31) := by kernel_rfl
theorem Thas2 : hasT Try.prog 2 = true := by kernel_rfl
theorem Thas31 : hasT Try.prog 31 = true := by kernel_rfl
theorem Tint2 : intT Try.prog 2 = some .i64 := by kernel_rfl
theorem Tint3 : intT Try.prog 3 = some .i64 := by kernel_rfl
theorem Tld2 : ldT Try.prog 2 = some none := by kernel_rfl
theorem Tld22 : ldT Try.prog 22 = some (some 8) := by kernel_rfl
theorem Tld24 : ldT Try.prog 24 = some (some 17) := by kernel_rfl
theorem Tld27 : ldT Try.prog 27 = some (some 17) := by kernel_rfl
theorem Tld3 : ldT Try.prog 3 = some none := by kernel_rfl
theorem Tld31 : ldT Try.prog 31 = some none := by kernel_rfl
theorem Tld35 : ldT Try.prog 35 = some (some 2) := by kernel_rfl
theorem Tld4 : ldT Try.prog 4 = some none := by kernel_rfl
theorem Tld44 : ldT Try.prog 44 = some (some 8) := by kernel_rfl
theorem Tld5 : ldT Try.prog 5 = some none := by kernel_rfl
theorem Tld66 : ldT Try.prog 66 = some (some 64) := by kernel_rfl
theorem Tld69 : ldT Try.prog 69 = some (some 8) := by kernel_rfl
theorem Tld72 : ldT Try.prog 72 = some (some 8) := by kernel_rfl
theorem Tld79 : ldT Try.prog 79 = some (some 129) := by kernel_rfl
theorem Tpar2 : parT Try.prog 2 = true := by kernel_rfl
theorem Tpar31 : parT Try.prog 31 = true := by kernel_rfl
theorem Tpar5 : parT Try.prog 5 = true := by kernel_rfl
theorem Tslc31 : slcT Try.prog 31 = some 1 := by kernel_rfl
theorem Tslc71 : slcT Try.prog 71 = some 1 := by kernel_rfl
theorem Tslc77 : slcT Try.prog 77 = some 129 := by kernel_rfl
theorem Tslce31 : slcE Try.prog 31 = some 2 := by kernel_rfl
theorem Tslce71 : slcE Try.prog 71 = some 5 := by kernel_rfl
theorem Tslce77 : slcE Try.prog 77 = some 79 := by kernel_rfl
theorem Tst2 : stT Try.prog 2 = some 1 := by kernel_rfl
theorem Tst22 : stT Try.prog 22 = some 8 := by kernel_rfl
theorem Tst27 : stT Try.prog 27 = some 17 := by kernel_rfl
theorem Tst3 : stT Try.prog 3 = some 1 := by kernel_rfl
theorem Tst35 : stT Try.prog 35 = some 2 := by kernel_rfl
theorem Tst4 : stT Try.prog 4 = some 1 := by kernel_rfl
theorem Tst44 : stT Try.prog 44 = some 8 := by kernel_rfl
theorem Tst5 : stT Try.prog 5 = some 1 := by kernel_rfl
theorem Tst66 : stT Try.prog 66 = some 64 := by kernel_rfl
theorem Tst69 : stT Try.prog 69 = some 8 := by kernel_rfl
theorem Tst72 : stT Try.prog 72 = some 8 := by kernel_rfl
theorem Tst79 : stT Try.prog 79 = some 129 := by kernel_rfl
theorem Tsz2 : szT Try.prog 2 = 1 := by kernel_rfl
theorem Tsz31 : szT Try.prog 31 = 1 := by kernel_rfl
theorem Tzero2 : zeroT Try.prog 2 = some ([.int .i64 0]) := by kernel_rfl
theorem Tzero22 : zeroT Try.prog 22 = some (ints .u8 z8) := by kernel_rfl
theorem Tzero27 : zeroT Try.prog 27 = some (gc 0 z8 z8) := by kernel_rfl
theorem Tzero35 : zeroT Try.prog 35 = some ([.int .i64 0, .slice none 0 0]) := by kernel_rfl
theorem Tzero44 : zeroT Try.prog 44 = some (ints .i64 z8) := by kernel_rfl
theorem Tzero66 : zeroT Try.prog 66 = some (ints .i64 (List.replicate 64 0)) := by kernel_rfl
theorem Tzero69 : zeroT Try.prog 69 = some (bools (List.replicate 8 false)) := by kernel_rfl
theorem Tzero72 : zeroT Try.prog 72 = some (ints .i64 z8) := by kernel_rfl
theorem Tzero79 : zeroT Try.prog 79 = some (ints .i64 (List.replicate 129 0)) := by kernel_rfl
theorem fol : Try.prog.follows .mixedOrders = true := by kernel_rfl
end Go.Proofs

