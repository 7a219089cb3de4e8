/-
  The walk over a list of operations: what has to be shown of what is known, and that it suffices. Nothing here is about one program. Conditions: none.
-/
import Derived.Test.YtdfddcfgagfdoaaLE
import Derived.Laws.BytesString
import Derived.Lib.AppendZeros
namespace Go.W8

/-- A part and its value. -/
def evP (ρ : Env) (p : Nat × Operand) : Nat × Value := (p.1, ev ρ p.2)

section
variable (P : Program)

def pureOp (ρ : Env) : Op → Out
  | .move x | .assign x => some (True, ev ρ x)
  | .pick c a b => match ev ρ c with | .bool t => some (True, bif t then ev ρ a else ev ρ b) | _ => none
  | .binOp op T x y _ => binW P op T (ev ρ x) (ev ρ y)
  | .unOp op _ x => unV op (ev ρ x)
  | .convert s d x => convV P s d (ev ρ x)
  | .nilCheck x => nilV (ev ρ x)
  | .fieldAddr s x f => fieldAddrV P s (ev ρ x) f
  | .indexAddr T x i => indexAddrV P T (ev ρ x) (ev ρ i)
  | .index T x i => indexV P T (ev ρ x) (ev ρ i)
  | .field T x f => fieldV P T (ev ρ x) f
  | .extract x i => extractV (ev ρ x) i
  | .makeFunc fn a b => some (True, .func fn (a.map (ev ρ)) (b.map (ev ρ)))
  | .slice T x lo hi none => sliceV P T (ev ρ x) (lo.map (ev ρ)) (hi.map (ev ρ))
  | .build T parts => buildV P T (parts.toList.map (evP ρ))
  | _ => none

theorem run_pureOp {ρ : Env} {o : Oper} {c : Prop} {v : Value} (w : World) (h : pureOp P ρ o.op = some (c, v)) (hc : c) : (execOp (ev ρ) o).run P w = .ok (.value v) w := by
  unfold execOp
  generalize o.op = op at *
  cases op <;> simp only [pureOp, reduceCtorEq] at h
  case move x => simp only [Option.some.injEq, Prod.mk.injEq] at h; obtain ⟨_, rfl⟩ := h; rfl
  case assign x => simp only [Option.some.injEq, Prod.mk.injEq] at h; obtain ⟨_, rfl⟩ := h; rfl
  case pick x a b =>
    split at h
    · rename_i t ht
      simp only [Option.some.injEq, Prod.mk.injEq] at h
      obtain ⟨_, rfl⟩ := h
      simp only [ht, asBool, Sem.run_bind, Sem.run_pure, Result.andThen_ok]
      cases t <;> rfl
    · cases h
  case build T parts =>
    have := run_buildV P w (parts := parts.map (evP ρ)) (by simpa using h) hc
    unfold evP at this
    simp only [Sem.run_bind, this, Result.andThen_ok, Sem.run_pure]
  case nilCheck x =>
    unfold nilV at h
    split at h <;> simp only [Option.some.injEq, Prod.mk.injEq, reduceCtorEq] at h
    · rename_i a ha
      obtain ⟨_, rfl⟩ := h
      simp only [ha]; rfl
    · rename_i f a b hf
      obtain ⟨_, rfl⟩ := h
      simp only [hf]; rfl
  case binOp op T x y T' =>
    have := run_binW P x y w h hc
    simp only [Sem.run_bind, Sem.run_pure] at this ⊢
    rw [this]; rfl
  case unOp op T x => simp only [Sem.run_bind, run_unV P w h, Result.andThen_ok, Sem.run_pure]
  case convert s d x => simp only [Sem.run_bind, run_convV P w h, Result.andThen_ok, Sem.run_pure]
  case makeFunc fn a b => simp only [Option.some.injEq, Prod.mk.injEq] at h; obtain ⟨_, rfl⟩ := h; rfl
  case slice T x lo hi mx =>
    cases mx with
    | none => simp only [Sem.run_bind, Option.map_none, run_sliceV P w h hc, Result.andThen_ok, Sem.run_pure]
    | some m => simp only [reduceCtorEq] at h
  case fieldAddr s x f => simp only [Sem.run_bind, run_fieldAddrV P w h, Result.andThen_ok, Sem.run_pure]
  case field s x f => simp only [Sem.run_bind, run_fieldV P w h hc, Result.andThen_ok, Sem.run_pure]
  case indexAddr T x i => simp only [Sem.run_bind, run_indexAddrV P w h hc, Result.andThen_ok, Sem.run_pure]
  case index T x i => simp only [Sem.run_bind, run_indexV P w h hc, Result.andThen_ok, Sem.run_pure]
  case extract x i => simp only [Sem.run_bind, run_extractV P w h, Result.andThen_ok, Sem.run_pure]

/-- A variable's kind: none: one cell; some n: n cells. -/
def ldT (T : TypeId) : Option (Option Nat) := if parT P T && hasT P T then some (if aggT P T then some (szT P T) else none) else none
def stT (T : TypeId) : Option Nat := if hasT P T then some (szT P T) else none

theorem ldT_one {T : TypeId} (h : ldT P T = some none) (a : Addr) : loadVar T a = loadVar T a ∧ ∀ w v, w.cell? a = some v → (loadVar T a).run P w = .ok v w := by
  refine ⟨rfl, fun w v hv => ?_⟩
  unfold ldT at h
  split at h
  · rename_i hh
    simp only [Bool.and_eq_true] at hh
    split at h
    · cases h
    · rename_i ha
      unfold loadVar
      simp only [Sem.run_bind, run_isAgg P hh.1, Result.andThen_ok]
      rw [if_neg (by simpa using ha)]
      simp [hv]
  · cases h

theorem ldT_many {T : TypeId} {n : Nat} (h : ldT P T = some (some n)) (b o : Nat) (vs : List Value) (hn : vs.length = n) (w : World)
    (hv : ∀ j v, vs[j]? = some v → w.cell? ⟨b, o + j, none⟩ = some v) : (loadVar T ⟨b, o, none⟩).run P w = .ok (.agg vs.toArray) w := by
  unfold ldT at h
  split at h
  · rename_i hh
    simp only [Bool.and_eq_true] at hh
    split at h
    · rename_i ha
      simp only [Option.some.injEq] at h
      subst h
      unfold loadVar
      have hl : (loadCells ⟨b, o, none⟩ vs.length).run P w = .ok vs.toArray w := run_loadCells_list (P := P) w ⟨b, o, none⟩ vs (fun j v hj => by rw [add_none]; exact hv j v hj)
      rw [hn] at hl
      simp only [Sem.run_bind, run_isAgg P hh.1, Result.andThen_ok, ha, if_true, run_sizeOf P hh.2, hl]
      rfl
    · cases h
  · cases h

end

section
variable (P : Program) (N : Nat) (W : List Nat) (w0 : World)

def Ones (vs : List Value) : Prop := ∀ v ∈ vs, v.oneCell' = true
def subL (cs : List Value) (o n : Nat) : List Value := (cs.drop o).take n

/-- What a cell of an old block holds that nobody here may write. -/
def frn (b o : Nat) : Option Value := if b < w0.heap.size ∧ b ∉ W then w0.cell? ⟨b, o, none⟩ else none
def cellAt (M : Blks) (b o : Nat) : Option Value := match findB b M with | some cs => cs[o]? | none => frn W w0 b o
def cellsAt (M : Blks) (b o n : Nat) : Option (List Value) :=
  match findB b M with
  | some cs => if o + n ≤ cs.length then some (subL cs o n) else none
  | none => (List.range n).mapM fun j => frn W w0 b (o + j)

theorem Own.cellAt {M : Blks} {w : World} (h : Own W w0 M w) {b o : Nat} {v : Value} (hv : cellAt W w0 M b o = some v) : w.cell? ⟨b, o, none⟩ = some v := by
  unfold W8.cellAt at hv
  split at hv
  · rename_i cs hf
    obtain ⟨t, ht⟩ := h.blk _ (findB_mem hf)
    unfold World.cell?
    rw [ht]
    simpa using hv
  · unfold frn at hv
    split at hv
    · rename_i hh
      unfold World.cell? at hv ⊢
      rw [h.frame b hh.1 hh.2]
      exact hv
    · cases hv

theorem mapM_get {α β : Type} {f : α → Option β} : ∀ {l : List α} {r : List β}, l.mapM f = some r → r.length = l.length ∧ ∀ (j : Nat) (x : β), r[j]? = some x → ∃ y, l[j]? = some y ∧ f y = some x
  | [], r, h => by simp at h; subst h; simp
  | a :: l, r, h => by
    simp only [List.mapM_cons, Option.bind_eq_bind, Option.pure_def] at h
    cases ha : f a with
    | none => simp [ha] at h
    | some b =>
      cases hl : l.mapM f with
      | none => simp [ha, hl] at h
      | some rest =>
        simp [ha, hl] at h
        subst h
        obtain ⟨h1, h2⟩ := mapM_get hl
        refine ⟨by simp [h1], fun j x hx => ?_⟩
        cases j with
        | zero => simp at hx; subst hx; exact ⟨a, rfl, ha⟩
        | succ j => simp at hx; simpa using h2 j x hx

theorem Own.cellsAt {M : Blks} {w : World} (h : Own W w0 M w) {b o n : Nat} {vs : List Value} (hv : cellsAt W w0 M b o n = some vs) :
    vs.length = n ∧ ∀ j v, vs[j]? = some v → w.cell? ⟨b, o + j, none⟩ = some v := by
  unfold W8.cellsAt at hv
  split at hv
  · rename_i cs hf
    split at hv
    · rename_i hl
      simp only [Option.some.injEq] at hv
      subst hv
      refine ⟨by simp [subL]; omega, fun j v hj => ?_⟩
      refine h.cellAt W w0 (b := b) (o := o + j) ?_
      unfold W8.cellAt
      rw [hf]
      simp only [subL, List.getElem?_take, List.getElem?_drop] at hj
      split at hj
      · exact hj
      · cases hj
    · cases hv
  · rename_i hf
    obtain ⟨h1, h2⟩ := mapM_get hv
    refine ⟨by simpa using h1, fun j v hj => ?_⟩
    obtain ⟨y, hy, hfy⟩ := h2 j v hj
    have hjn : j < n := by
      rcases Nat.lt_or_ge j n with h | h
      · exact h
      · rw [List.getElem?_eq_none (by simpa using h)] at hy; cases hy
    rw [List.getElem?_range hjn] at hy
    simp only [Option.some.injEq] at hy
    subst hy
    refine h.cellAt W w0 (b := b) (o := o + j) ?_
    unfold W8.cellAt
    rw [hf]
    exact hfy

/-- The temporaries are just these. -/
def St (ρ : Env) (a : Act) : Prop := a.defers = [] ∧ a.tmps.size = N ∧ ∀ t, a.tmps.getD t undef = ρ t

def setD (ρ : Env) (d : Option Tmp) (v : Value) (K : Env → Prop) : Prop :=
  match d with
  | none => K ρ
  | some t => t < N ∧ K (upd ρ t v)

theorem St.eval {ρ : Env} {a : Act} (h : St N ρ a) : a.eval = ev ρ := by
  funext x
  cases x with
  | tmp t => exact h.2.2 t
  | const v => rfl
  | global g => rfl
  | func f => rfl

theorem St.put {ρ : Env} {a : Act} (h : St N ρ a) {d : Option Tmp} {v : Value} {K : Env → Prop} (hk : setD N ρ d v K) : ∃ ρ', St N ρ' (a.put d v) ∧ K ρ' := by
  cases d with
  | none => exact ⟨ρ, h, hk⟩
  | some t =>
    obtain ⟨ht, hk⟩ := hk
    refine ⟨upd ρ t v, ⟨h.1, by simpa [Act.put] using h.2.1, fun s => ?_⟩, hk⟩
    have h3 := h.2.2 s
    simp only [Act.put, Array.getD_eq_getD_getElem?, Array.getElem?_setIfInBounds, upd] at h3 ⊢
    by_cases hs : s = t
    · subst hs
      rw [if_pos rfl, if_pos rfl, if_pos (by rw [h.2.1]; exact ht)]
      rfl
    · rw [if_neg (fun e => hs e.symm), if_neg hs]
      exact h3

/-- A function that can be entered. -/
def callable (f : FuncId) : Prop := ∀ args w, (callFunc f args).run P w = .ok (.enter f args) w

/-- What a call comes to, from any world that is described so. -/
def ACall (f : FuncId) (args : Array Value) (M : Blks) (R : Value → Blks → Prop) : Prop :=
  callable P f ∧ ∀ w, Own W w0 M w → Calls P f args w fun e w' => ∃ v M', e = .returned v ∧ Own W w0 M' w' ∧ R v M'

theorem ACall.mono {f : FuncId} {args : Array Value} {M : Blks} {R R' : Value → Blks → Prop} (h : ACall P W w0 f args M R) (hr : ∀ v M', R v M' → R' v M') : ACall P W w0 f args M R' :=
  ⟨h.1, fun w hw => (h.2 w hw).mono fun _ _ ⟨v, M', h1, h2, h3⟩ => ⟨v, M', h1, h2, hr v M' h3⟩⟩

def stC (cs : List Value) (o : Nat) : List Value → List Value
  | [v] => cs.set o v
  | vs => splice cs o vs

/-- A slice that is spelled. -/
def bslQ (d : Option Tmp) (T : TypeId) (len : Nat) (parts : List (Nat × Value)) (ρ : Env) (M : Blks) (K : Env → Blks → Prop) : Prop :=
  match slcE P T, slcT P T with
  | some e, some size => match zeroT P e with
    | some zs => (zs.length = size ∧ partsOk size 0 parts ∧ parts.length = len ∧ len * size ≤ 16777216) ∧
        ∀ b, Fresh w0 M b → setD N ρ d (.slice (some ⟨b, 0, none⟩) len len) (K · ((b, partsCells parts) :: M))
    | none => False
  | _, _ => False

/-- A slice that is made. -/
def mksQ (d : Option Tmp) (T : TypeId) (l c : Value) (ρ : Env) (M : Blks) (K : Env → Blks → Prop) : Prop :=
  match slcE P T, slcT P T, l, c with
  | some e, some size, .int _ n, .int _ n' => match zeroT P e with
    | some zs => (n' = n ∧ 0 ≤ n ∧ n ≤ 140737488355328 ∧ (bytesT P e : Int) * n ≤ 140737488355328) ∧
        ∀ b, Fresh w0 M b → setD N ρ d (.slice (some ⟨b, 0, none⟩) n.toNat n.toNat) (K · ((b, (madeCells zs.toArray (n.toNat * size)).toList) :: M))
    | none => False
  | _, _, _, _ => False

/-- Some or none. -/
def appIf (m : Nat) (A B : Prop) : Prop := (0 < m → A) ∧ (m = 0 → B)
theorem appIf_pos {m : Nat} {A B : Prop} (h : 0 < m) : appIf m A B = A := propext ⟨fun hh => hh.1 h, fun a => ⟨fun _ => a, fun e => absurd e (by omega)⟩⟩
theorem appIf_zero {m : Nat} {A B : Prop} (h : m = 0) : appIf m A B = B := propext ⟨fun hh => hh.2 h, fun b => ⟨fun e => absurd e (by omega), fun _ => b⟩⟩
theorem appIf_mono {m : Nat} {A B A' B' : Prop} (h : appIf m A B) (ha : A → A') (hb : B → B') : appIf m A' B' := ⟨fun e => ha (h.1 e), fun e => hb (h.2 e)⟩

/-- A row that the call has made is let grow. -/
def appQ (d : Option Tmp) (T : TypeId) (s x : Value) (ρ : Env) (M : Blks) (K : Env → Blks → Prop) : Prop :=
  match slcE P T, slcT P T, s, x with
  | some e, some size, .slice none n cap, .slice (some ⟨bx, ox, none⟩) m _ => match zeroT P e, cellsAt W w0 M bx ox (m * size) with
    | some zs, some news => (n = 0 ∧ cap = 0) ∧ appIf m ((zs.length = size ∧ m ≤ 140737488355328 ∧ m * bytesT P e ≤ 140737488355328) ∧
        ∀ b cap' rest, Fresh w0 M b → m ≤ cap' → rest.length = (cap' - m) * size → setD N ρ d (.slice (some ⟨b, 0, none⟩) m cap') (K · ((b, news ++ rest) :: M))) (setD N ρ d (.slice none 0 0) (K · M))
    | _, _ => False
  | some _, some _, .slice a n cap, .slice none m _ => (m = 0 ∧ n ≤ cap) ∧ setD N ρ d (.slice a n cap) (K · M)
  | some e, some size, .slice (some ⟨bs, 0, none⟩) n cap, .slice (some ⟨bx, ox, none⟩) m _ => match findB bs M, zeroT P e, cellsAt W w0 M bx ox (m * size) with
    | some cs, some zs, some news => (zs.length = size ∧ cs.length = cap * size ∧ n ≤ cap ∧ Ones news ∧ n + m ≤ 140737488355328 ∧ (n + m) * bytesT P e ≤ 140737488355328) ∧
        ∀ b cap' rest, ((bs ∈ W ∧ b = bs) ∨ Fresh w0 (delB bs M) b) → n + m ≤ cap' → rest.length = (cap' - (n + m)) * size → setD N ρ d (.slice (some ⟨b, 0, none⟩) (n + m) cap') (K · ((b, cs.take (n * size) ++ news ++ rest) :: delB bs M))
    | _, _, _ => False
  | _, _, _, _ => False

/-- As many zeros onto no row. -/
def apzQ (d : Option Tmp) (T : TypeId) (s x : Value) (ρ : Env) (M : Blks) (K : Env → Blks → Prop) : Prop :=
  match slcE P T, slcT P T, s, x with
  | some e, some size, .slice none 0 0, .int _ n => match zeroT P e with
    | some zs => (0 < n ∧ 0 < size ∧ zs.length = size ∧ n ≤ 140737488355328 ∧ (bytesT P e : Int) * n ≤ 140737488355328) ∧
        ∀ b cap' rest, Fresh w0 M b → n.toNat ≤ cap' → rest.length = (cap' - n.toNat) * size → setD N ρ d (.slice (some ⟨b, 0, none⟩) n.toNat cap') (K · ((b, (Builtin.zeroCells zs.toArray n.toNat).toList ++ rest) :: M))
    | none => False
  | _, _, _, _ => False

/-- The bytes of cells. -/
def bytesOf (vs : List Value) : ByteArray := vs.foldl (fun r v => match v with | .int _ n => r.push (UInt8.ofNat n.toNat) | _ => r) ByteArray.empty
def U8s (vs : List Value) : Prop := ∃ l : List Int, vs = l.map (Value.int .u8)

/-- Bytes told as a text. -/
def cvtQ (d : Option Tmp) (op : Op) (ρ : Env) (M : Blks) (K : Env → Blks → Prop) : Prop :=
  match op with
  | .convert s t x => match strT P t, slcE P s, ev ρ x with
    | true, some e, .slice none _ _ => intT P e = some .u8 ∧ setD N ρ d (.string ByteArray.empty) (K · M)
    | true, some e, .slice (some ⟨b, o, none⟩) n _ => match cellsAt W w0 M b o n with
      | some vs => (intT P e = some .u8 ∧ U8s vs) ∧ setD N ρ d (.string (bytesOf vs)) (K · M)
      | none => False
    | _, _, _ => False
  | _ => False

/-- The room of a slice. -/
def capV (T : TypeId) (x : Value) : Out :=
  match x with
  | .slice _ _ c => match slcE P T with | some _ => some (True, .int .i64 c) | none => none
  | _ => none

/-- What is asked at an operation, that what follows may be asked. -/
def evOp (o : Oper) (ρ : Env) (M : Blks) (K : Env → Blks → Prop) : Prop :=
  match o.op with
  | .load T x =>
    match ev ρ x, ldT P T with
    | .pointer (some ⟨b, off, none⟩), some none => match cellAt W w0 M b off with | some v => setD N ρ o.dst v (K · M) | none => False
    | .pointer (some ⟨b, off, none⟩), some (some n) => match cellsAt W w0 M b off n with | some vs => setD N ρ o.dst (.agg vs.toArray) (K · M) | none => False
    | _, _ => False
  | .store T x y =>
    match ev ρ x, stT P T, o.dst with
    | .pointer (some ⟨b, off, none⟩), some n, none =>
      match findB b M with
      | some cs => ((ev ρ y).cells.size = n ∧ off + n ≤ cs.length ∧ Ones (ev ρ y).cells.toList) ∧ K ρ (setB b (stC cs off (ev ρ y).cells.toList) M)
      | none => False
    | _, _, _ => False
  | .alloc T => match zeroT P T with
    | some zs => ∀ b, Fresh w0 M b → setD N ρ o.dst (.pointer (some ⟨b, 0, none⟩)) (K · ((b, zs) :: M))
    | none => False
  | .box _ x => ∀ b, Fresh w0 M b → setD N ρ o.dst (.pointer (some ⟨b, 0, none⟩)) (K · ((b, (ev ρ x).cells.toList) :: M))
  | .buildSlice T len parts => bslQ P N w0 o.dst T len (parts.toList.map (evP ρ)) ρ M K
  | .makeSlice T l c => mksQ P N w0 o.dst T (ev ρ l) (ev ρ c) ρ M K
  | .call c =>
    match c.callee with
    | .value f => match ev ρ f with
      | .func (.func n) first captured => ACall P W w0 n (first.toList ++ (c.args.toList.map (ev ρ) ++ captured.toList)).toArray M fun v M' => setD N ρ o.dst v (K · M')
      | _ => False
    | .builtin .len => match c.args[0]?, c.argTypes[0]?, c.args.size with
      | some x, some T, 1 => match lenV P T (ev ρ x) with | some (p, v) => p ∧ setD N ρ o.dst v (K · M) | none => False
      | _, _, _ => False
    | .builtin .min => match c.args[0]?, c.args[1]?, c.args.size with
      | some x, some y, 2 => match minV (ev ρ x) (ev ρ y) with | some (p, v) => p ∧ setD N ρ o.dst v (K · M) | none => False
      | _, _, _ => False
    | .builtin .max => match c.args[0]?, c.args[1]?, c.args.size with
      | some x, some y, 2 => match maxV (ev ρ x) (ev ρ y) with | some (p, v) => p ∧ setD N ρ o.dst v (K · M) | none => False
      | _, _, _ => False
    | .builtin .cap => match c.args[0]?, c.argTypes[0]?, c.args.size with
      | some x, some T, 1 => match capV P T (ev ρ x) with | some (p, v) => p ∧ setD N ρ o.dst v (K · M) | none => False
      | _, _, _ => False
    | .builtin .append => match c.args.toList, c.argTypes.toList with
      | [s, x], [T, T'] => match (if T' = T then none else intT P T') with
        | none => T' = T ∧ appQ P N W w0 o.dst T (ev ρ s) (ev ρ x) ρ M K
        | some _ => apzQ P N w0 o.dst T (ev ρ s) (ev ρ x) ρ M K
      | _, _ => False
    | _ => False
  | op => match pureOp P ρ op with
    | some (c, v) => c ∧ setD N ρ o.dst v (K · M)
    | none => cvtQ P N W w0 o.dst op ρ M K

/-- Whatever is known of the operation's own run. -/
def Goes (o : Oper) (ρ : Env) (M : Blks) (K : Env → Blks → Prop) : Prop :=
  ∀ a w (next : Act → World → Prop) (Q : Exit → Act → World → Prop), St N ρ a → Own W w0 M w → (∀ ρ' M' a' w', K ρ' M' → St N ρ' a' → Own W w0 M' w' → next a' w') → o.wp P a w next Q

theorem run_store_own {M : Blks} {w : World} (h : Own W w0 M w) {b off : Nat} {cs vs : List Value} (hf : findB b M = some cs) (hl : off + vs.length ≤ cs.length) (h1 : ∀ v ∈ vs, v.oneCell' = true) :
    ∃ w', (storeCells ⟨b, off, none⟩ vs 0).run P w = .ok () w' ∧ Own W w0 (setB b (stC cs off vs) M) w' := by
  obtain ⟨t, ht⟩ := h.blk _ (findB_mem hf)
  have hr := run_storeCells_at (P := P) b off t vs 0 cs.toArray w ht (by simpa using hl) h1
  refine ⟨_, hr, ?_⟩
  have hst : stC cs off vs = splice cs off vs := by
    unfold stC
    split
    · rename_i v
      have h4 : off < cs.length := by simp at hl; omega
      have := splice_cons (cs := cs) (vs := []) (off := off) (v := v) (by simp; omega)
      rw [← this]
      simp [splice]
    · rfl
  refine h.put hf rfl rfl rfl (setRow_size _ _ _) ?_ (fun k hk => setRow_other _ _ _ _ hk)
  intro t' ht'
  rw [hst]
  have e1 : (cs.toArray.toList.take (off + 0) ++ vs ++ cs.toArray.toList.drop (off + 0 + vs.length)) = splice cs off vs := by simp [splice]
  rw [e1]
  exact setRow_heap w b cs.toArray _ t' (0, 0) ht'

theorem goes_of_value {o : Oper} {ρ : Env} {M : Blks} {K : Env → Blks → Prop} {v : Value} (hr : ∀ w, Own W w0 M w → (execOp (ev ρ) o).run P w = .ok (.value v) w) (hk : setD N ρ o.dst v (K · M)) : Goes P N W w0 o ρ M K := by
  intro a w next Q ha hw hn
  unfold Oper.wp
  rw [ha.eval, hr w hw]
  obtain ⟨ρ', h1, h2⟩ := ha.put N hk
  exact hn ρ' M _ _ h2 h1 hw

theorem run_storeVar {T : TypeId} {n : Nat} (h : stT P T = some n) (a : Addr) (v : Value) (hn : v.cells.size = n) (w : World) : (storeVar T a v).run P w = (storeCells a v.cells.toList).run P w := by
  unfold stT at h
  split at h
  · rename_i hh
    simp only [Option.some.injEq] at h
    subst h
    unfold storeVar
    simp [run_sizeOf P hh, hn]
  · cases h

theorem run_zeroValue {T : TypeId} {zs : List Value} (h : zeroT P T = some zs) (w : World) : ∃ z, (zeroValue T).run P w = .ok z w ∧ z.cells.toList = zs := by
  unfold zeroT at h
  cases hi : P.info? T with
  | none => simp [hi] at h
  | some i =>
    cases hz : i.zero with
    | none => simp [hi, hz] at h
    | some z =>
      simp [hi, hz] at h
      exact ⟨z, by simp [zeroValue, typeInfo, hi, hz], h⟩

theorem goes_bsl {o : Oper} {T : TypeId} {len : Nat} {parts : Array (Nat × Operand)} {ρ : Env} {M : Blks} {K : Env → Blks → Prop} (hop : o.op = .buildSlice T len parts) (h : bslQ P N w0 o.dst T len (parts.toList.map (evP ρ)) ρ M K) : Goes P N W w0 o ρ M K := by
  unfold bslQ at h
  split at h
  case h_2 => exact h.elim
  rename_i e size he hs
  split at h
  case h_2 => exact h.elim
  rename_i zs hz
  obtain ⟨⟨h1, h2, h3, h4⟩, hk⟩ := h
  intro a w next Q ha hw hn
  have hr := run_bsl P he hs hz h1 (parts := parts.map (evP ρ)) (len := len) (by simpa using h2) (by simpa using h3) h4 w
  have hr' := hr
  unfold evP at hr'
  obtain ⟨hf, hw'⟩ := hw.push (partsCells (parts.map (evP ρ)).toList) e
  obtain ⟨ρ', h5, h6⟩ := ha.put N (hk w.heap.size hf)
  unfold Oper.wp execOp
  simp only [ha.eval, hop, Sem.run_bind, hr', Result.andThen_ok, Sem.run_pure, Oper.upon]
  have e1 : partsCells (parts.map (evP ρ)).toList = partsCells (parts.toList.map (evP ρ)) := by simp
  have e2 : (Array.map (fun x => (x.fst, ev ρ x.snd)) parts) = parts.map (evP ρ) := rfl
  rw [e2, e1]
  rw [e1] at hw'
  exact hn ρ' _ _ _ h6 h5 hw'

theorem goes_mks {o : Oper} {T : TypeId} {l c : Operand} {ρ : Env} {M : Blks} {K : Env → Blks → Prop} (hop : o.op = .makeSlice T l c) (h : mksQ P N w0 o.dst T (ev ρ l) (ev ρ c) ρ M K) : Goes P N W w0 o ρ M K := by
  unfold mksQ at h
  split at h
  case h_2 => exact h.elim
  rename_i e size k n k' n' he hs hl hc
  split at h
  case h_2 => exact h.elim
  rename_i zs hz
  obtain ⟨⟨rfl, h2, h3, h4⟩, hk⟩ := h
  obtain ⟨m, rfl⟩ : ∃ m : Nat, n' = (m : Int) := ⟨n'.toNat, by omega⟩
  intro a w next Q ha hw hn
  obtain ⟨cs, hr, rfl⟩ := run_mks P he hs hz k k' m (by rw [← Int.natCast_mul] at h4; omega) (by simp only [maxLen]; omega) w
  rw [Int.toNat_natCast] at hk
  obtain ⟨hf, hw'⟩ := hw.push (madeCells zs.toArray (m * size)).toList e
  obtain ⟨ρ', h5, h6⟩ := ha.put N (hk w.heap.size hf)
  unfold Oper.wp execOp
  simp only [ha.eval, hop, hl, hc, Sem.run_bind, hr, Result.andThen_ok, Sem.run_pure, Oper.upon]
  exact hn ρ' _ _ _ h6 h5 hw'

theorem goes_app {o : Oper} {T : TypeId} {c : Call} {s x : Operand} {ρ : Env} {M : Blks} {K : Env → Blks → Prop} (hop : o.op = .call c) (hc : c.callee = .builtin .append) (ha0 : c.args = #[s, x]) (ht0 : c.argTypes = #[T, T])
    (h : appQ P N W w0 o.dst T (ev ρ s) (ev ρ x) ρ M K) : Goes P N W w0 o ρ M K := by
  unfold appQ at h
  split at h
  · rename_i e size n cap bx ox m cx he hs hsv hxv
    split at h
    case h_2 => exact h.elim
    rename_i zs news hz hnews
    obtain ⟨⟨rfl, rfl⟩, hpos, hzero⟩ := h
    rcases Nat.eq_zero_or_pos m with rfl | h2
    · have hk := hzero rfl
      intro ac w next Q ha hw hnx
      have hr : (Builtin.append_ #[T, T] o.type #[.slice none 0 0, .slice (some ⟨bx, ox, none⟩) 0 cx]).run P w = .ok (.slice none 0 0) w := by
        have hu : P.underlying T = some (.slice e) := by unfold slcE at he; split at he <;> simp_all
        have hi : (P.info? e).isSome = true := by
          unfold slcT at hs
          rw [hu] at hs
          simp only at hs
          split at hs
          · rename_i hh; exact hh
          · cases hs
        obtain ⟨i, hi⟩ := Option.isSome_iff_exists.1 hi
        simp [Builtin.append_, run_underlying hu, sizeOf, typeInfo, hi, Builtin.lenOf, Builtin.firstCells, loadCells, loadCellsFrom]
      obtain ⟨ρ', h5, h6⟩ := ha.put N hk
      unfold Oper.wp execOp
      simp only [ha.eval, hop, resolve, hc, ha0, ht0, Sem.run_bind, Sem.run_pure, Result.andThen_ok, invoke, builtin, List.map_toArray, List.map_cons, List.map_nil, hsv, hxv, hr, Oper.upon]
      exact hnx ρ' _ _ _ h6 h5 hw
    obtain ⟨⟨h1, h3, h4⟩, hk⟩ := hpos h2
    intro a w next Q ha hw hn
    obtain ⟨hnl, hcell⟩ := hw.cellsAt W w0 hnews
    obtain ⟨b', cap', rest, w', hr, hf, hcap, hrest, hw'⟩ := run_app_nil P hw (ty := o.type) he hs hz h1 (a := ⟨bx, ox, none⟩) (c := cx) h2 hnl (by intro j u hu; rw [Addr.add_lit]; exact hcell j u hu) (by simp only [maxLen]; omega) h4
    obtain ⟨ρ', h5, h6⟩ := ha.put N (hk b' cap' rest hf hcap hrest)
    unfold Oper.wp execOp
    simp only [ha.eval, hop, resolve, hc, ha0, ht0, Sem.run_bind, Sem.run_pure, Result.andThen_ok, invoke, builtin, List.map_toArray, List.map_cons, List.map_nil, hsv, hxv, hr, Oper.upon]
    exact hn ρ' _ _ _ h6 h5 hw'
  · rename_i e size a n cap m cx he hs hsv hxv
    obtain ⟨⟨rfl, hn⟩, hk⟩ := h
    intro ac w next Q ha hw hnx
    have hr : (Builtin.append_ #[T, T] o.type #[.slice a n cap, .slice none 0 cx]).run P w = .ok (.slice a n cap) w := by
      have hu : P.underlying T = some (.slice e) := by unfold slcE at he; split at he <;> simp_all
      have hi : (P.info? e).isSome = true := by
        unfold slcT at hs
        rw [hu] at hs
        simp only at hs
        split at hs
        · rename_i hh; exact hh
        · cases hs
      obtain ⟨i, hi⟩ := Option.isSome_iff_exists.1 hi
      cases a with
      | none => simp [Builtin.append_, run_underlying hu, sizeOf, typeInfo, hi, Builtin.lenOf, hn, Builtin.firstCells]
      | some a => simp [Builtin.append_, run_underlying hu, sizeOf, typeInfo, hi, Builtin.lenOf, hn, Builtin.firstCells, storeCells]
    obtain ⟨ρ', h5, h6⟩ := ha.put N hk
    unfold Oper.wp execOp
    simp only [ha.eval, hop, resolve, hc, ha0, ht0, Sem.run_bind, Sem.run_pure, Result.andThen_ok, invoke, builtin, List.map_toArray, List.map_cons, List.map_nil, hsv, hxv, hr, Oper.upon]
    exact hnx ρ' _ _ _ h6 h5 hw
  · rename_i e size bs n cap bx ox m cx he hs hsv hxv
    split at h
    case h_2 => exact h.elim
    rename_i cs zs news hf0 hz hnews
    obtain ⟨⟨h1, h2, h3, h3', h4, h4'⟩, hk⟩ := h
    intro a w next Q ha hw hn
    obtain ⟨hnl, hcell⟩ := hw.cellsAt W w0 hnews
    obtain ⟨b', cap', rest, w', hr, hf, hcap, hrest, hw'⟩ := run_app P hw (ty := o.type) he hs hz h1 (a := ⟨bx, ox, none⟩) (c := cx) hf0 h2 h3 hnl (by intro j u hu; rw [Addr.add_lit]; exact hcell j u hu) h3' (by simp only [maxLen]; omega) h4'
    obtain ⟨ρ', h5, h6⟩ := ha.put N (hk b' cap' rest hf hcap hrest)
    unfold Oper.wp execOp
    simp only [ha.eval, hop, resolve, hc, ha0, ht0, Sem.run_bind, Sem.run_pure, Result.andThen_ok, invoke, builtin, List.map_toArray, List.map_cons, List.map_nil, hsv, hxv, hr, Oper.upon]
    exact hn ρ' _ _ _ h6 h5 hw'
  · exact h.elim

theorem goes_apz {o : Oper} {T T' : TypeId} {k : IntKind} {c : Call} {s x : Operand} {ρ : Env} {M : Blks} {K : Env → Blks → Prop} (hop : o.op = .call c) (hc : c.callee = .builtin .append) (ha0 : c.args = #[s, x]) (ht0 : c.argTypes = #[T, T']) (hT' : intT P T' = some k)
    (h : apzQ P N w0 o.dst T (ev ρ s) (ev ρ x) ρ M K) : Goes P N W w0 o ρ M K := by
  unfold apzQ at h
  split at h
  case h_2 => exact h.elim
  rename_i e size kx n he hs hsv hxv
  split at h
  case h_2 => exact h.elim
  rename_i zs hz
  obtain ⟨⟨h1, h2, h3, h4, h4'⟩, hk⟩ := h
  obtain ⟨m, rfl⟩ : ∃ m : Nat, n = (m : Int) := ⟨n.toNat, by omega⟩
  rw [Int.toNat_natCast] at hk
  intro a w next Q ha hw hn
  obtain ⟨i, z, hu, hi, hzz, hzc, hsz, hby⟩ := slice_facts P he hs hz
  subst hsz
  have hut : P.underlying T' = some (.int k) := by unfold intT at hT'; split at hT' <;> simp_all
  have hr := Lib.run_append_nil_zeros (P := P) w T T' o.type e i z kx k hu hut hi hzz m (by omega) h2 (by omega) (by rw [hby]; rw [← Int.natCast_mul] at h4'; rw [Nat.mul_comm]; omega)
  have hzz2 : z.cells = zs.toArray := Array.toList_inj.1 (by simpa using hzc)
  rw [hzz2] at hr
  obtain ⟨hf, hw'⟩ := hw.drawn.push ((Builtin.zeroCells zs.toArray m).toList ++ (Builtin.zeroCells zs.toArray (grownCap w m 0 e - m)).toList) e
  have e1 : (Builtin.zeroCells zs.toArray m ++ Builtin.zeroCells zs.toArray (grownCap w m 0 e - m)) = ((Builtin.zeroCells zs.toArray m).toList ++ (Builtin.zeroCells zs.toArray (grownCap w m 0 e - m)).toList).toArray := by
    apply Array.toList_inj.1
    simp
  rw [e1] at hr
  obtain ⟨ρ', h5, h6⟩ := ha.put N (hk w.heap.size (grownCap w m 0 e) (Builtin.zeroCells zs.toArray (grownCap w m 0 e - m)).toList hf (grownCap_ge ..) (by rw [Array.length_toList, size_zeroCells, List.size_toArray, h3]))
  unfold Oper.wp execOp
  simp only [ha.eval, hop, resolve, hc, ha0, ht0, Sem.run_bind, Sem.run_pure, Result.andThen_ok, invoke, builtin, List.map_toArray, List.map_cons, List.map_nil, hsv, hxv, hr, Oper.upon]
  exact hn ρ' _ _ _ h6 h5 hw'

theorem run_capV {T ty : TypeId} {ts : Array TypeId} {x : Value} {c : Prop} {v : Value} (w : World) (ht : ts[0]? = some T) (h : capV P T x = some (c, v)) :
    (Builtin.cap_ ts ty #[x]).run P w = .ok v w := by
  have h0 : (#[x] : Array Value)[0]? = some x := rfl
  unfold capV at h
  split at h
  · rename_i a n cp
    split at h
    · rename_i e he
      have hu : P.underlying T = some (.slice e) := by unfold slcE at he; split at he <;> simp_all
      simp only [Option.some.injEq, Prod.mk.injEq] at h
      obtain ⟨_, rfl⟩ := h
      simp [Builtin.cap_, ht, run_underlying hu, goInt]
    · cases h
  · cases h

theorem bytesOf_ints : ∀ (l : List Int) (s : ByteArray), (l.map (Value.int .u8)).foldl (fun r v => match v with | .int _ n => r.push (UInt8.ofNat n.toNat) | _ => r) s = l.foldl (fun r n => r.push (UInt8.ofNat n.toNat)) s
  | [], _ => rfl
  | a :: l, s => bytesOf_ints l _

theorem goes_cvt {o : Oper} {ρ : Env} {M : Blks} {K : Env → Blks → Prop} (h : cvtQ P N W w0 o.dst o.op ρ M K) : Goes P N W w0 o ρ M K := by
  unfold cvtQ at h
  split at h
  case h_2 => exact h.elim
  rename_i s t x hop
  split at h
  · rename_i e n c ht he hx
    obtain ⟨hu8, hk⟩ := h
    have hus : P.underlying s = some (.slice e) := by unfold slcE at he; split at he <;> simp_all
    have hut := strT_spec P ht
    have hue : P.underlying e = some (.int .u8) := by unfold intT at hu8; split at hu8 <;> simp_all
    refine goes_of_value P N W w0 (fun w hw => ?_) hk
    unfold execOp
    simp only [hop, hx, Sem.run_bind, run_convert_bytes_string w s t e _ _ _ hus hue hut]
    rfl
  · rename_i e b off n c ht he hx
    split at h
    case h_2 => exact h.elim
    rename_i vs hv
    obtain ⟨⟨hu8, l, rfl⟩, hk⟩ := h
    have hus : P.underlying s = some (.slice e) := by unfold slcE at he; split at he <;> simp_all
    have hut := strT_spec P ht
    have hue : P.underlying e = some (.int .u8) := by unfold intT at hu8; split at hu8 <;> simp_all
    refine goes_of_value P N W w0 (fun w hw => ?_) hk
    obtain ⟨h1, h2⟩ := hw.cellsAt W w0 hv
    have hl : (loadCells ⟨b, off, none⟩ n).run P w = .ok (l.map (Value.int .u8)).toArray w := by
      rw [← h1]
      exact run_loadCells_list (P := P) w ⟨b, off, none⟩ _ (fun j v hj => by rw [add_none]; exact h2 j v hj)
    unfold execOp
    simp only [hop, hx, Sem.run_bind, run_convert_bytes_string w s t e _ _ _ hus hue hut, run_bytesToString w _ _ _ _ hl, Result.andThen_ok, Sem.run_pure]
    unfold bytesOf
    rw [bytesOf_ints]
  · exact h.elim

theorem evOp_goes {o : Oper} {ρ : Env} {M : Blks} {K : Env → Blks → Prop} (h : evOp P N W w0 o ρ M K) : Goes P N W w0 o ρ M K := by
  unfold evOp at h
  split at h
  · rename_i T x hop
    split at h
    · rename_i b off hx hT
      split at h
      case h_2 => exact h.elim
      rename_i v hv
      have hk := h
      refine goes_of_value P N W w0 (fun w hw => ?_) hk
      unfold execOp
      simp only [hop, Instr.loadAt, hx, Instr.sureAddr, Sem.run_bind, Sem.run_pure, Result.andThen_ok, (ldT_one P hT _).2 w v (hw.cellAt W w0 hv)]
    · rename_i b off n hx hT
      split at h
      case h_2 => exact h.elim
      rename_i vs hv
      have hk := h
      refine goes_of_value P N W w0 (fun w hw => ?_) hk
      obtain ⟨h1, h2⟩ := hw.cellsAt W w0 hv
      unfold execOp
      simp only [hop, Instr.loadAt, hx, Instr.sureAddr, Sem.run_bind, Sem.run_pure, Result.andThen_ok, ldT_many P hT b off vs h1 w h2]
    · exact h.elim
  · rename_i T x y hop
    split at h
    · rename_i b off n hx hT hd
      split at h
      case h_2 => exact h.elim
      rename_i cs hf
      obtain ⟨⟨h1, h2, h3⟩, hk⟩ := h
      intro a w next Q ha hw hn
      have hy : (ev ρ y).cells.toList.length = n := by rw [Array.length_toList]; exact h1
      obtain ⟨w', hr, hw'⟩ := run_store_own P W w0 hw hf (by rw [hy]; exact h2) h3
      unfold Oper.wp execOp
      simp only [ha.eval, hop, Instr.storeAt, hx, Instr.sureAddr, Sem.run_bind, Sem.run_pure, Result.andThen_ok, run_storeVar P hT _ _ h1, hr]
      simp only [Oper.upon, hd, Act.put]
      exact hn ρ _ a w' hk ha hw'
    · exact h.elim
  · rename_i T hop
    split at h
    · rename_i zs hz
      intro a w next Q ha hw hn
      obtain ⟨z, hz1, hz2⟩ := run_zeroValue P hz w
      obtain ⟨hf, hw'⟩ := hw.push zs T
      obtain ⟨ρ', h1, h2⟩ := ha.put N (h w.heap.size hf)
      unfold Oper.wp execOp
      simp only [hop, Instr.alloc, Sem.run_bind, hz1, Result.andThen_ok, newVar, newRow, run_newObj, Sem.run_pure, Oper.upon]
      subst hz2
      exact hn ρ' _ _ _ h2 h1 hw'
    · exact h.elim
  · rename_i T x hop
    intro a w next Q ha hw hn
    obtain ⟨hf, hw'⟩ := hw.push (ev ρ x).cells.toList T
    obtain ⟨ρ', h1, h2⟩ := ha.put N (h w.heap.size hf)
    unfold Oper.wp execOp
    simp only [ha.eval, hop, Instr.box, Sem.run_bind, Result.andThen_ok, newVar, newRow, run_newObj, Sem.run_pure, Oper.upon]
    exact hn ρ' _ _ _ h2 h1 hw'
  · rename_i T len parts hop
    exact goes_bsl P N W w0 hop h
  · rename_i T l c hop
    exact goes_mks P N W w0 hop h
  · rename_i c hop
    split at h
    · rename_i f hc
      split at h
      · rename_i n first captured hf
        intro a w next Q ha hw hn
        unfold Oper.wp execOp
        have he : ∀ args w, (callFunc n args).run P w = .ok (.enter n args) w := h.1
        simp only [ha.eval, hop, resolve, hc, hf, Deferred.ofValue, Sem.run_bind, Sem.run_pure, Result.andThen_ok, invoke, he]
        simp only [Oper.upon]
        have hargs : first ++ Array.map (ev ρ) c.args ++ captured = (first.toList ++ (c.args.toList.map (ev ρ) ++ captured.toList)).toArray := by
          apply Array.toList_inj.1; simp
        rw [hargs]
        refine (h.2 w hw).mono ?_
        rintro e w' ⟨v, M', rfl, hw', hk⟩
        obtain ⟨ρ', h1, h2⟩ := ha.put N hk
        exact hn ρ' M' _ _ h2 h1 hw'
      · exact h.elim
    · rename_i hc
      split at h
      · rename_i x T h0 h1 h2
        split at h
        · rename_i p v hl
          refine goes_of_value P N W w0 (fun w hw => ?_) h.2
          have hargs : c.args = #[x] := by
            apply Array.ext
            · simpa using h2
            · intro i hi1 hi2
              have : i = 0 := by simp at hi2; omega
              subst this
              rw [Array.getElem?_eq_getElem hi1] at h0
              simpa using h0
          unfold execOp
          simp only [hop, resolve, hc, Sem.run_bind, Sem.run_pure, Result.andThen_ok, invoke, builtin, hargs, List.map_toArray, List.map_cons, List.map_nil, run_lenV P w h1 hl]
        · exact h.elim
      · exact h.elim
    · rename_i hc
      split at h
      · rename_i x y h0 h1 h2
        split at h
        · rename_i p v hl
          refine goes_of_value P N W w0 (fun w hw => ?_) h.2
          have hargs : c.args = #[x, y] := by
            apply Array.ext
            · simpa using h2
            · intro i hi1 hi2
              have : i = 0 ∨ i = 1 := by simp at hi2; omega
              rcases this with rfl | rfl
              · rw [Array.getElem?_eq_getElem hi1] at h0; simpa using h0
              · rw [Array.getElem?_eq_getElem hi1] at h1; simpa using h1
          unfold minV at hl
          split at hl <;> simp only [Option.some.injEq, Prod.mk.injEq, reduceCtorEq] at hl
          rename_i k m k' m' hx hy
          obtain ⟨_, rfl⟩ := hl
          unfold execOp
          simp [hop, resolve, hc, invoke, builtin, hargs, Builtin.min_, Builtin.min2, hx, hy]
        · exact h.elim
      · exact h.elim
    · rename_i hc
      split at h
      · rename_i x y h0 h1 h2
        split at h
        · rename_i p v hl
          refine goes_of_value P N W w0 (fun w hw => ?_) h.2
          have hargs : c.args = #[x, y] := by
            apply Array.ext
            · simpa using h2
            · intro i hi1 hi2
              have : i = 0 ∨ i = 1 := by simp at hi2; omega
              rcases this with rfl | rfl
              · rw [Array.getElem?_eq_getElem hi1] at h0; simpa using h0
              · rw [Array.getElem?_eq_getElem hi1] at h1; simpa using h1
          unfold maxV at hl
          split at hl <;> simp only [Option.some.injEq, Prod.mk.injEq, reduceCtorEq] at hl
          rename_i k m k' m' hx hy
          obtain ⟨_, rfl⟩ := hl
          unfold execOp
          simp [hop, resolve, hc, invoke, builtin, hargs, Builtin.max_, Builtin.max2, hx, hy]
        · exact h.elim
      · exact h.elim
    · rename_i hc
      split at h
      · rename_i x T h0 h1 h2
        split at h
        · rename_i p v hl
          refine goes_of_value P N W w0 (fun w hw => ?_) h.2
          have hargs : c.args = #[x] := by
            apply Array.ext
            · simpa using h2
            · intro i hi1 hi2
              have : i = 0 := by simp at hi2; omega
              subst this
              rw [Array.getElem?_eq_getElem hi1] at h0
              simpa using h0
          unfold execOp
          simp only [hop, resolve, hc, Sem.run_bind, Sem.run_pure, Result.andThen_ok, invoke, builtin, hargs, List.map_toArray, List.map_cons, List.map_nil, run_capV P w h1 hl]
        · exact h.elim
      · exact h.elim
    · rename_i hc
      split at h
      · rename_i s x T T' ha0 ht0
        split at h
        · obtain ⟨rfl, h⟩ := h
          exact goes_app P N W w0 hop hc (Array.toList_inj.1 (by simpa using ha0)) (Array.toList_inj.1 (by simpa using ht0)) h
        · rename_i k hk
          split at hk
          · cases hk
          · exact goes_apz P N W w0 hop hc (Array.toList_inj.1 (by simpa using ha0)) (Array.toList_inj.1 (by simpa using ht0)) hk h
      · exact h.elim
    · exact h.elim
  · split at h
    · rename_i c v hp
      exact goes_of_value P N W w0 (fun w _ => run_pureOp P w hp h.1) h.2
    · exact goes_cvt P N W w0 h

end
end Go.W8
