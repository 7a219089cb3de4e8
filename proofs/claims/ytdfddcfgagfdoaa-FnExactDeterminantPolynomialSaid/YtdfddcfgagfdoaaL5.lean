/-
  The walk over code: lists of operations with guards, branches, blocks, loops, a function's begin and end. Nothing here is about one program. Conditions: none.
-/
import Derived.Test.YtdfddcfgagfdoaaL4
import Derived.Deep.Quiet
import Derived.Deep.LoopGhost
namespace Go.W8

section
variable (P : Program) (N : Nat) (W : List Nat) (w0 : World)

def gate : Value → Option Bool
  | .bool b => some b
  | _ => none

/-- What is asked at an operation with a guard: of either case. -/
def guardQ (b want : Bool) (A B : Prop) : Prop := (b = want → A) ∧ (b = !want → B)

def evOps (ops : Array Oper) : List Oper → Env → Blks → (Env → Blks → Prop) → Prop
  | [], ρ, M, K => K ρ M
  | o :: rest, ρ, M, K =>
    match o.guard with
    | none => evOp P N W w0 o ρ M fun ρ' M' => evOps ops rest ρ' M' K
    | some (j, want) => match (ops[j]?).bind (·.dst) with
      | none => False
      | some d => match gate (ρ d) with
        | none => setD N ρ o.dst undef fun ρ' => evOps ops rest ρ' M K
        | some b => guardQ b want (evOp P N W w0 o (upd ρ d (.bool want)) M fun ρ' M' => evOps ops rest ρ' M' K) (setD N (upd ρ d (.bool (!want))) o.dst undef fun ρ' => evOps ops rest ρ' M K)

theorem upd_gate {ρ : Env} {d : Nat} {b : Bool} (h : gate (ρ d) = some b) : upd ρ d (.bool b) = ρ := by
  funext s
  unfold upd
  split
  · rename_i e
    subst e
    generalize ρ s = v at h ⊢
    cases v <;> simp only [gate, Option.some.injEq, reduceCtorEq] at h
    rw [h]
  · rfl

theorem St.wanted {ρ : Env} {a : Act} (h : St N ρ a) {ops : Array Oper} {o : Oper} {j d : Nat} {want : Bool} (hg : o.guard = some (j, want)) (hd : (ops[j]?).bind (·.dst) = some d) :
    Region.wanted o (yielded ops a.tmps) = (gate (ρ d) == some want) := by
  unfold Region.wanted yielded
  simp only [hg, hd, Option.bind_some]
  have h2 := h.2.2 d
  rw [Array.getD_eq_getD_getElem?] at h2
  cases ht : a.tmps[d]? with
  | none =>
    rw [ht] at h2
    simp only [Option.getD_none] at h2
    rw [← h2]
    rfl
  | some v =>
    rw [ht] at h2
    simp only [Option.getD_some] at h2
    rw [← h2]
    cases v <;> rfl

theorem wpList_of {ops : Array Oper} {Q : Exit → Act → World → Prop} : ∀ (l : List Oper) (ρ : Env) (M : Blks) (K : Env → Blks → Prop) (a : Act) (w : World), evOps P N W w0 ops l ρ M K → St N ρ a → Own W w0 M w →
    (∀ ρ' M' a' w', K ρ' M' → St N ρ' a' → Own W w0 M' w' → Q .normal a' w') → wpList P ops Q l a w
  | [], ρ, M, K, a, w, h, ha, hw, hq => hq ρ M a w h ha hw
  | o :: rest, ρ, M, K, a, w, h, ha, hw, hq => by
    have go : ∀ (hh : evOp P N W w0 o ρ M fun ρ' M' => evOps P N W w0 ops rest ρ' M' K), o.wp P a w (wpList P ops Q rest) Q := fun hh =>
      evOp_goes P N W w0 hh a w _ Q ha hw fun ρ' M' a' w' hk ha' hw' => wpList_of rest ρ' M' K a' w' hk ha' hw' hq
    have skip : ∀ (hh : setD N ρ o.dst undef fun ρ' => evOps P N W w0 ops rest ρ' M K), wpList P ops Q rest (a.put o.dst undef) w := fun hh => by
      obtain ⟨ρ', h1, h2⟩ := ha.put N hh
      exact wpList_of rest ρ' M K _ w h2 h1 hw hq
    unfold evOps at h
    unfold wpList
    split at h
    · rename_i hg
      rw [if_pos (by unfold Region.wanted; rw [hg])]
      exact .inl (go h)
    · rename_i j want hg
      split at h
      · exact h.elim
      · rename_i d hd
        rw [St.wanted N ha hg hd]
        split at h
        · rename_i hn
          rw [hn, if_neg (by simp)]
          exact skip h
        · rename_i b hb
          rw [hb]
          by_cases hbw : b = want
          · rw [if_pos (by simp [hbw])]
            subst hbw
            have h1 := h.1 rfl
            rw [upd_gate hb] at h1
            exact .inl (go h1)
          · rw [if_neg (by simpa using hbw)]
            have hnb : b = !want := by cases b <;> cases want <;> simp_all
            have h2 := h.2 hnb
            rw [← hnb, upd_gate hb] at h2
            exact skip h2

/-- What has to be shown of a piece of code. -/
def Cd (c : Code) (Q : Exit → Env → Blks → Prop) (ρ : Env) (M : Blks) : Prop :=
  ∀ a w, St N ρ a → Own W w0 M w → c.wp P (fun e a' w' => ∃ ρ' M', Q e ρ' M' ∧ St N ρ' a' ∧ Own W w0 M' w') a w

/-- What is asked ahead of a piece of code. -/
def thenQ (y : Code) (Q : Exit → Env → Blks → Prop) : Exit → Env → Blks → Prop
  | .normal, ρ, M => Cd P N W w0 y Q ρ M
  | e, ρ, M => Q e ρ M

/-- What is asked at a round's end. -/
def roundQ (I : Nat → Env → Blks → Prop) (n : Nat) (Q : Exit → Env → Blks → Prop) : Exit → Env → Blks → Prop
  | .normal, ρ, M => ∃ m, m < n ∧ I m ρ M
  | e, ρ, M => Q e ρ M

def inB (id : Nat) (Q : Exit → Env → Blks → Prop) : Exit → Env → Blks → Prop
  | .exit id', ρ, M => if id' = id then Q .normal ρ M else Q (.exit id') ρ M
  | e, ρ, M => Q e ρ M

variable {P N W w0}
variable {Q : Exit → Env → Blks → Prop} {ρ : Env} {M : Blks}

theorem Cd.mono {c : Code} {Q' : Exit → Env → Blks → Prop} (h : Cd P N W w0 c Q ρ M) (hq : ∀ e ρ M, Q e ρ M → Q' e ρ M) : Cd P N W w0 c Q' ρ M :=
  fun a w ha hw => wp_mono (h a w ha hw) fun e _ _ ⟨ρ', M', h1, h2⟩ => ⟨ρ', M', hq e ρ' M' h1, h2⟩

theorem Cd.drop {c : Code} {M' : Blks} (hs : M'.Sublist M) (h : Cd P N W w0 c Q ρ M') : Cd P N W w0 c Q ρ M := fun a w ha hw => h a w ha (hw.sub hs)

theorem Cd.skip (h : Q .normal ρ M) : Cd P N W w0 .skip Q ρ M := fun _ _ ha hw => wp_skip ⟨ρ, M, h, ha, hw⟩
theorem Cd.label {l : Nat} (h : Q .normal ρ M) : Cd P N W w0 (.label l) Q ρ M := fun _ _ ha hw => wp_label ⟨ρ, M, h, ha, hw⟩
theorem Cd.ret (h : Q .ret ρ M) : Cd P N W w0 .ret Q ρ M := fun _ _ ha hw => wp_ret ⟨ρ, M, h, ha, hw⟩
theorem Cd.exit {id : Nat} (h : Q (.exit id) ρ M) : Cd P N W w0 (.exit id) Q ρ M := fun _ _ ha hw => wp_exit ⟨ρ, M, h, ha, hw⟩

theorem Cd.seq {x y : Code} (h : Cd P N W w0 x (thenQ P N W w0 y Q) ρ M) : Cd P N W w0 (.seq x y) Q ρ M := fun a w ha hw =>
  wp_seq (wp_mono (h a w ha hw) fun e a' w' hh => by
    obtain ⟨ρ', M', h1, h2, h3⟩ := hh
    cases e with
    | normal => exact h1 a' w' h2 h3
    | exit id => exact ⟨ρ', M', h1, h2, h3⟩
    | goto l => exact ⟨ρ', M', h1, h2, h3⟩
    | ret => exact ⟨ρ', M', h1, h2, h3⟩
    | panic ch => exact ⟨ρ', M', h1, h2, h3⟩
    | outgrown => exact ⟨ρ', M', h1, h2, h3⟩)

theorem Cd.cond {c : Operand} {x y : Code} {b : Bool} (hc : ev ρ c = .bool b) (ht : b = true → Cd P N W w0 x Q ρ M) (hf : b = false → Cd P N W w0 y Q ρ M) : Cd P N W w0 (.cond c x y) Q ρ M := fun a w ha hw =>
  wp_cond_split (t := b) (by rw [ha.eval]; exact hc) (fun h => ht h a w ha hw) (fun h => hf h a w ha hw)

theorem Cd.block {id : Nat} {c : Code} (h : Cd P N W w0 c (inB id Q) ρ M) : Cd P N W w0 (.block id c) Q ρ M := fun a w ha hw =>
  wp_block (wp_mono (h a w ha hw) fun e a' w' hh => by
    obtain ⟨ρ', M', h1, h2, h3⟩ := hh
    cases e with
    | exit id' =>
      simp only [inB] at h1
      simp only [Exit.inBlock]
      split
      · rename_i hid; rw [if_pos hid] at h1; exact ⟨ρ', M', h1, h2, h3⟩
      · rename_i hid; rw [if_neg hid] at h1; exact ⟨ρ', M', h1, h2, h3⟩
    | normal => exact ⟨ρ', M', h1, h2, h3⟩
    | goto l => exact ⟨ρ', M', h1, h2, h3⟩
    | ret => exact ⟨ρ', M', h1, h2, h3⟩
    | panic ch => exact ⟨ρ', M', h1, h2, h3⟩
    | outgrown => exact ⟨ρ', M', h1, h2, h3⟩)

/-- A loop: what holds at each round's head, with a number that every round lowers. -/
theorem Cd.loop {c : Code} (I : Nat → Env → Blks → Prop) (n : Nat) (h0 : I n ρ M)
    (round : ∀ n ρ M, I n ρ M → Cd P N W w0 c (roundQ I n Q) ρ M) : Cd P N W w0 (.loop c) Q ρ M := fun a w ha hw =>
  wp_loop_ghost (fun n a w => ∃ ρ M, I n ρ M ∧ St N ρ a ∧ Own W w0 M w) n ⟨ρ, M, h0, ha, hw⟩ fun n a w ⟨ρ, M, hI, ha, hw⟩ =>
    wp_mono (round n ρ M hI a w ha hw) fun e _ _ hh => by
      obtain ⟨ρ', M', h1, h2, h3⟩ := hh
      cases e with
      | normal => obtain ⟨m, hm, hI'⟩ := h1; exact ⟨m, hm, ρ', M', hI', h2, h3⟩
      | exit id => exact ⟨ρ', M', h1, h2, h3⟩
      | goto l => exact ⟨ρ', M', h1, h2, h3⟩
      | ret => exact ⟨ρ', M', h1, h2, h3⟩
      | panic ch => exact ⟨ρ', M', h1, h2, h3⟩
      | outgrown => exact ⟨ρ', M', h1, h2, h3⟩

theorem Cd.region {id : Nat} {l : List Oper} (h : evOps P N W w0 l.toArray l ρ M (Q .normal)) : Cd P N W w0 (.region id l.toArray false) Q ρ M := fun a w ha hw =>
  wp_region_lit (wpList_of P N W w0 l ρ M _ a w h ha hw fun ρ' M' _ _ h1 h2 h3 => ⟨ρ', M', h1, h2, h3⟩)

/-! ### Regions that draw their order and only read -/

/-- A call that hands back v and leaves what is known as it is. -/
def QCall (P : Program) (W : List Nat) (w0 : World) (f : FuncId) (args : Array Value) (M : Blks) (v : Value) : Prop :=
  callable P f ∧ ∀ w, Own W w0 M w → Calls P f args w fun e w' => e = .returned v ∧ Own W w0 M w'

/-- More blocks are known. -/
inductive Ext (w0 : World) (M : Blks) : Blks → Prop
  | refl : Ext w0 M M
  | cons {M' : Blks} {b : Nat} {cs : List Value} (h : Ext w0 M M') (hf : Fresh w0 M' b) : Ext w0 M ((b, cs) :: M')

theorem Ext.trans {M M' M'' : Blks} (h : Ext w0 M M') (h' : Ext w0 M' M'') : Ext w0 M M'' := by
  induction h' with
  | refl => exact h
  | cons _ hf ih => exact .cons ih hf

theorem frn_lt {b o : Nat} {v : Value} (h : frn W w0 b o = some v) : b < w0.heap.size := by
  unfold frn at h
  split at h
  · rename_i hh; exact hh.1
  · cases h

theorem Ext.find {M M' : Blks} (h : Ext w0 M M') {b : Nat} {cs : List Value} (hf : findB b M = some cs) : findB b M' = some cs := by
  induction h with
  | refl => exact hf
  | cons _ hfr ih =>
    unfold findB
    rw [if_neg (hfr.2 _ (findB_mem ih))]
    exact ih

theorem Ext.find_none {M M' : Blks} (h : Ext w0 M M') {b : Nat} (hb : b < w0.heap.size) (hf : findB b M = none) : findB b M' = none := by
  induction h with
  | refl => exact hf
  | cons _ hfr ih =>
    unfold findB
    rw [if_neg (fun e => by have := hfr.1; omega)]
    exact ih

theorem Ext.cellAt {M M' : Blks} (h : Ext w0 M M') {b o : Nat} {v : Value} (hv : cellAt W w0 M b o = some v) : cellAt W w0 M' b o = some v := by
  unfold W8.cellAt at hv ⊢
  split at hv
  · rename_i cs hf; rw [h.find hf]; exact hv
  · rename_i hf; rw [h.find_none (frn_lt hv) hf]; exact hv

theorem Ext.cellsAt {M M' : Blks} (h : Ext w0 M M') {b o n : Nat} (hn : n ≠ 0) {vs : List Value} (hv : cellsAt W w0 M b o n = some vs) : cellsAt W w0 M' b o n = some vs := by
  unfold W8.cellsAt at hv ⊢
  split at hv
  · rename_i cs hf; rw [h.find hf]; exact hv
  · rename_i hf
    have hb : b < w0.heap.size := by
      obtain ⟨h1, h2⟩ := mapM_get hv
      have hl : 0 < vs.length := by rw [h1, List.length_range]; omega
      obtain ⟨y, _, hy⟩ := h2 0 _ (List.getElem?_eq_getElem hl)
      exact frn_lt hy
    rw [h.find_none hb hf]; exact hv

/-- Such a call, whatever blocks there are besides, and what is asked behind it. -/
def QAsk (P : Program) (W : List Nat) (w0 : World) (f : FuncId) (args : Array Value) (M : Blks) (R : Value → Prop) : Prop := ∃ v, (∀ M', Ext w0 M M' → QCall P W w0 f args M' v) ∧ R v

variable (P N W w0)

/-- What is asked at an operation that only reads; R: of what it yields. -/
def evV (o : Oper) (ρ : Env) (M : Blks) (R : Value → Prop) : Prop :=
  match o.op with
  | .load T x =>
    match ev ρ x, ldT P T with
    | .pointer (some ⟨b, off, none⟩), some none => match cellAt W w0 M b off with | some v => R v | none => False
    | .pointer (some ⟨b, off, none⟩), some (some n) => n ≠ 0 ∧ match cellsAt W w0 M b off n with | some vs => R (.agg vs.toArray) | none => False
    | _, _ => False
  | .call c =>
    match c.callee with
    | .value f => match ev ρ f with
      | .func (.func n) first captured => QAsk P W w0 n (first.toList ++ (c.args.toList.map (ev ρ) ++ captured.toList)).toArray M R
      | _ => False
    | .builtin .len => match c.args[0]?, c.argTypes[0]?, c.args.size with
      | some x, some T, 1 => match lenV P T (ev ρ x) with | some (p, v) => p ∧ R v | none => False
      | _, _, _ => False
    | .builtin .min => match c.args[0]?, c.args[1]?, c.args.size with
      | some x, some y, 2 => match minV (ev ρ x) (ev ρ y) with | some (p, v) => p ∧ R v | none => False
      | _, _, _ => False
    | .builtin .max => match c.args[0]?, c.args[1]?, c.args.size with
      | some x, some y, 2 => match maxV (ev ρ x) (ev ρ y) with | some (p, v) => p ∧ R v | none => False
      | _, _, _ => False
    | _ => False
  | .store .. | .alloc .. | .box .. => False
  | op => match pureOp P ρ op with
    | some (c, v) => c ∧ R v
    | none => False

def evQ (o : Oper) (ρ : Env) (M : Blks) (K : Env → Prop) : Prop := evV P W w0 o ρ M fun v => setD N ρ o.dst v K

variable {P N W w0}

theorem quiet_of_value {o : Oper} {a : Act} {v : Value} {M : Blks} (hr : ∀ w, Own W w0 M w → (execOp a.eval o).run P w = .ok (.value v) w) (w : World) (hw : Own W w0 M w) : o.quietAt P a (fun w => Own W w0 M w) w v := by
  unfold Oper.quietAt
  rw [hr w hw]
  exact ⟨rfl, rfl⟩

/-- The value of an operation that only reads. -/
theorem evV_value {o : Oper} {R : Value → Prop} (h : evV P W w0 o ρ M R) : ∃ v, R v ∧ ((∀ w, Own W w0 M w → (execOp (ev ρ) o).run P w = .ok (.value v) w) ∨
    (∃ n args, (∀ w, Own W w0 M w → (execOp (ev ρ) o).run P w = .ok (.enter n args) w) ∧ ∀ w, Own W w0 M w → Calls P n args w fun e w' => e = .returned v ∧ Own W w0 M w')) := by
  unfold evV at h
  split at h
  · rename_i T x hop
    split at h
    · rename_i b off hx hT
      split at h
      case h_2 => exact h.elim
      rename_i v hv
      have hk := h
      refine ⟨v, hk, .inl fun w hw => ?_⟩
      unfold execOp
      simp only [hop, Instr.loadAt, hx, Instr.sureAddr, Sem.run_bind, Sem.run_pure, Result.andThen_ok, (ldT_one P hT _).2 w v (hw.cellAt W w0 hv)]
    · rename_i b off n hx hT
      obtain ⟨_, h⟩ := h
      split at h
      case h_2 => exact h.elim
      rename_i vs hv
      have hk := h
      refine ⟨_, hk, .inl fun w hw => ?_⟩
      obtain ⟨h1, h2⟩ := hw.cellsAt W w0 hv
      unfold execOp
      simp only [hop, Instr.loadAt, hx, Instr.sureAddr, Sem.run_bind, Sem.run_pure, Result.andThen_ok, ldT_many P hT b off vs h1 w h2]
    · exact h.elim
  · rename_i c hop
    split at h
    · rename_i f hc
      split at h
      · rename_i n first captured hf
        obtain ⟨v, hq0, hk⟩ := h
        have hq := hq0 M .refl
        refine ⟨v, hk, .inr ⟨n, _, fun w hw => ?_, hq.2⟩⟩
        have he : ∀ args w, (callFunc n args).run P w = .ok (.enter n args) w := hq.1
        unfold execOp
        have hargs : first ++ Array.map (ev ρ) c.args ++ captured = (first.toList ++ (c.args.toList.map (ev ρ) ++ captured.toList)).toArray := by
          apply Array.toList_inj.1; simp
        simp only [hop, resolve, hc, hf, Deferred.ofValue, Sem.run_bind, Sem.run_pure, Result.andThen_ok, invoke, he, hargs]
      · exact h.elim
    · rename_i hc
      split at h
      · rename_i x T h0 h1 h2
        split at h
        · rename_i p v hl
          refine ⟨v, h.2, .inl fun w hw => ?_⟩
          have hargs : c.args = #[x] := by
            apply Array.ext
            · simpa using h2
            · intro i hi1 hi2
              have : i = 0 := by simp at hi2; omega
              subst this
              rw [Array.getElem?_eq_getElem hi1] at h0
              simpa using h0
          unfold execOp
          simp only [hop, resolve, hc, Sem.run_bind, Sem.run_pure, Result.andThen_ok, invoke, builtin, hargs, List.map_toArray, List.map_cons, List.map_nil, run_lenV P w h1 hl]
        · exact h.elim
      · exact h.elim
    · rename_i hc
      split at h
      · rename_i x y h0 h1 h2
        split at h
        · rename_i p v hl
          refine ⟨v, h.2, .inl fun w hw => ?_⟩
          have hargs : c.args = #[x, y] := by
            apply Array.ext
            · simpa using h2
            · intro i hi1 hi2
              have : i = 0 ∨ i = 1 := by simp at hi2; omega
              rcases this with rfl | rfl
              · rw [Array.getElem?_eq_getElem hi1] at h0; simpa using h0
              · rw [Array.getElem?_eq_getElem hi1] at h1; simpa using h1
          unfold minV at hl
          split at hl <;> simp only [Option.some.injEq, Prod.mk.injEq, reduceCtorEq] at hl
          rename_i k m k' m' hx hy
          obtain ⟨_, rfl⟩ := hl
          unfold execOp
          simp [hop, resolve, hc, invoke, builtin, hargs, Builtin.min_, Builtin.min2, hx, hy]
        · exact h.elim
      · exact h.elim
    · rename_i hc
      split at h
      · rename_i x y h0 h1 h2
        split at h
        · rename_i p v hl
          refine ⟨v, h.2, .inl fun w hw => ?_⟩
          have hargs : c.args = #[x, y] := by
            apply Array.ext
            · simpa using h2
            · intro i hi1 hi2
              have : i = 0 ∨ i = 1 := by simp at hi2; omega
              rcases this with rfl | rfl
              · rw [Array.getElem?_eq_getElem hi1] at h0; simpa using h0
              · rw [Array.getElem?_eq_getElem hi1] at h1; simpa using h1
          unfold maxV at hl
          split at hl <;> simp only [Option.some.injEq, Prod.mk.injEq, reduceCtorEq] at hl
          rename_i k m k' m' hx hy
          obtain ⟨_, rfl⟩ := hl
          unfold execOp
          simp [hop, resolve, hc, invoke, builtin, hargs, Builtin.max_, Builtin.max2, hx, hy]
        · exact h.elim
      · exact h.elim
    · exact h.elim
  · exact h.elim
  · exact h.elim
  · exact h.elim
  · split at h
    · rename_i c v hp
      exact ⟨v, h.2, .inl fun w _ => run_pureOp P w hp h.1⟩
    · exact h.elim

variable (P N W w0)

def evQs (ops : Array Oper) : List Oper → Env → Blks → (Env → Prop) → Prop
  | [], ρ, _, K => K ρ
  | o :: rest, ρ, M, K =>
    match o.guard with
    | none => evQ P N W w0 o ρ M fun ρ' => evQs ops rest ρ' M K
    | some (j, want) => match (ops[j]?).bind (·.dst) with
      | none => False
      | some d => match gate (ρ d) with
        | none => setD N ρ o.dst undef fun ρ' => evQs ops rest ρ' M K
        | some b => guardQ b want (evQ P N W w0 o (upd ρ d (.bool want)) M fun ρ' => evQs ops rest ρ' M K) (setD N (upd ρ d (.bool (!want))) o.dst undef fun ρ' => evQs ops rest ρ' M K)

variable {P N W w0}

theorem wpQuiet_of {ops : Array Oper} {Q' : Act → Prop} : ∀ (l : List Oper) (ρ : Env) (K : Env → Prop) (a : Act), evQs P N W w0 ops l ρ M K → St N ρ a → (∀ ρ' a', K ρ' → St N ρ' a' → Q' a') →
    wpQuiet P ops (fun w => Own W w0 M w) Q' l a
  | [], ρ, K, a, h, ha, hq => hq ρ a h ha
  | o :: rest, ρ, K, a, h, ha, hq => by
    have go : ∀ (hh : evQ P N W w0 o ρ M fun ρ' => evQs P N W w0 ops rest ρ' M K), o.quiet P a (fun w => Own W w0 M w) (wpQuiet P ops (fun w => Own W w0 M w) Q' rest) := fun hh => by
      obtain ⟨v, hk, hv⟩ := evV_value hh
      obtain ⟨ρ', h1, h2⟩ := ha.put N hk
      refine ⟨v, fun w hw => ?_, wpQuiet_of rest ρ' K _ h2 h1 hq⟩
      rcases hv with hv | ⟨n, args, h3, h4⟩
      · exact quiet_of_value (by rw [ha.eval]; exact hv) w hw
      · unfold Oper.quietAt
        rw [ha.eval, h3 w hw]
        exact ⟨rfl, h4 w hw⟩
    have skip : ∀ (hh : setD N ρ o.dst undef fun ρ' => evQs P N W w0 ops rest ρ' M K), wpQuiet P ops (fun w => Own W w0 M w) Q' rest (a.put o.dst undef) := fun hh => by
      obtain ⟨ρ', h1, h2⟩ := ha.put N hh
      exact wpQuiet_of rest ρ' K _ h2 h1 hq
    unfold evQs at h
    unfold wpQuiet
    split at h
    · rename_i hg
      rw [if_pos (by unfold Region.wanted; rw [hg])]
      exact go h
    · rename_i j want hg
      split at h
      · exact h.elim
      · rename_i d hd
        rw [St.wanted N ha hg hd]
        split at h
        · rename_i hn
          rw [hn, if_neg (by simp)]
          exact skip h
        · rename_i b hb
          rw [hb]
          by_cases hbw : b = want
          · rw [if_pos (by simp [hbw])]
            subst hbw
            have h1 := h.1 rfl
            rw [upd_gate hb] at h1
            exact go h1
          · rw [if_neg (by simpa using hbw)]
            have hnb : b = !want := by cases b <;> cases want <;> simp_all
            have h2 := h.2 hnb
            rw [← hnb, upd_gate hb] at h2
            exact skip h2

theorem Own.drew {w : World} (h : Own W w0 M w) : Own W w0 M { w with drawn := w.drawn + 1 } := ⟨h.os, h.tape, h.output, h.size, h.frame, h.own, h.blk, h.nodup⟩

theorem Cd.quiet {id : Nat} {l : List Oper} (hm : P.follows .mixedOrders = true) (hB : Region.lexB .any l.toArray = true) (h : evQs P N W w0 l.toArray l ρ M (Q .normal · M)) : Cd P N W w0 (.region id l.toArray true) Q ρ M := fun a _ ha hw =>
  wp_region_quiet (C := fun w => Own W w0 M w) hm hB hw.drew (wpQuiet_of l ρ _ a h ha fun ρ' _ h1 h2 _ hw' => ⟨ρ', M, h1, h2, hw'⟩)

/-! ### A function's begin and end -/

variable (W w0)

/-- What a result variable holds. -/
def resV (P : Program) (ρ : Env) (M : Blks) : ResultVar → Option Value
  | .tmp t => some (ρ t)
  | .cell t T => match ρ t, ldT P T with
    | .pointer (some ⟨b, off, none⟩), some none => cellAt W w0 M b off
    | .pointer (some ⟨b, off, none⟩), some (some n) => (cellsAt W w0 M b off n).map fun vs => .agg vs.toArray
    | _, _ => none

def oneOr (vs : List Value) : Value := match vs with | [v] => v | vs => .tuple vs.toArray

/-- What is asked at a function's end. -/
def endQ (P : Program) (rs : List ResultVar) (R : Value → Blks → Prop) (ρ : Env) (M : Blks) : Prop := ∃ vs, rs.mapM (resV W w0 P ρ M) = some vs ∧ R (oneOr vs) M

def retQ (P : Program) (rs : List ResultVar) (R : Value → Blks → Prop) : Exit → Env → Blks → Prop
  | .normal, ρ, M | .ret, ρ, M => endQ W w0 P rs R ρ M
  | _, _, _ => False

variable {W w0}

theorem run_resV {a : Act} {w : World} (ha : St N ρ a) (hw : Own W w0 M w) {r : ResultVar} {v : Value} (h : resV W w0 P ρ M r = some v) :
    (match r with | .tmp t => (Pure.pure (a.tmps.getD t undef) : Sem Value) | .cell p t => do loadVar t (← asAddr (a.tmps.getD p undef))).run P w = .ok v w := by
  cases r with
  | tmp t =>
    simp only [resV, Option.some.injEq] at h
    subst h
    show (Pure.pure (a.tmps.getD t undef) : Sem Value).run P w = _
    rw [ha.2.2 t]
    rfl
  | cell t T =>
    unfold resV at h
    show (do loadVar T (← asAddr (a.tmps.getD t undef)) : Sem Value).run P w = _
    simp only at h
    rw [ha.2.2 t]
    split at h
    · rename_i b off hx hT
      simp only [hx, asAddr, Sem.run_bind, Sem.run_pure, Result.andThen_ok]
      exact (ldT_one P hT _).2 w v (hw.cellAt W w0 h)
    · rename_i b off n hx hT
      simp only [hx, asAddr, Sem.run_bind, Sem.run_pure, Result.andThen_ok]
      cases hc : cellsAt W w0 M b off n with
      | none => rw [hc] at h; cases h
      | some vs =>
        rw [hc] at h
        simp only [Option.map_some, Option.some.injEq] at h
        subst h
        obtain ⟨h1, h2⟩ := hw.cellsAt W w0 hc
        exact ldT_many P hT b off vs h1 w h2
    · cases h

theorem run_mapM_res {w : World} {f : ResultVar → Sem Value} {g : ResultVar → Option Value} (hfg : ∀ r v, g r = some v → (f r).run P w = .ok v w) :
    ∀ (rs : List ResultVar) (vs : List Value), rs.mapM g = some vs → (rs.mapM f).run P w = .ok vs w
  | [], vs, h => by simp at h; subst h; rfl
  | r :: rs, vs, h => by
    simp only [List.mapM_cons, Option.bind_eq_bind, Option.pure_def] at h
    cases hr : g r with
    | none => simp [hr] at h
    | some v =>
      cases hrs : rs.mapM g with
      | none => simp [hr, hrs] at h
      | some rest =>
        simp [hr, hrs] at h
        subst h
        simp [List.mapM_cons, hfg r v hr, run_mapM_res hfg rs rest hrs]

theorem run_results {fn : Func} {rs : List ResultVar} (hrs : fn.results = rs.toArray) {a : Act} {w : World} (ha : St N ρ a) (hw : Own W w0 M w) {vs : List Value} (h : rs.mapM (resV W w0 P ρ M) = some vs) :
    (results fn a.tmps).run P w = .ok (oneOr vs) w := by
  unfold results
  rw [hrs]
  simp only [Array.mapM_eq_mapM_toList]
  have := run_mapM_res (P := P) (w := w) (f := fun r => match r with | .tmp t => (Pure.pure (a.tmps.getD t undef) : Sem Value) | .cell p t => do loadVar t (← asAddr (a.tmps.getD p undef))) (g := resV W w0 P ρ M)
    (fun r v hv => run_resV ha hw hv) rs vs h
  simp only [Sem.run_bind, Sem.run_map]
  erw [this]
  simp only [Result.andThen_ok, Sem.run_pure]
  unfold oneOr
  cases vs with
  | nil => rfl
  | cons v rest => cases rest <;> rfl

def envN : Nat → List Value → Env
  | _, [] => fun _ => undef
  | k, a :: l => upd (envN (k + 1) l) k a

theorem envN_get : ∀ (l : List Value) (k t : Nat), envN k l t = if t < k then undef else l.getD (t - k) undef
  | [], k, t => by simp [envN]
  | a :: l, k, t => by
    simp only [envN, upd, envN_get l (k + 1) t]
    by_cases h1 : t = k
    · subst h1
      rw [if_pos rfl, if_neg (by omega), Nat.sub_self]
      rfl
    · rw [if_neg h1]
      by_cases h2 : t < k
      · rw [if_pos (by omega), if_pos h2]
      · rw [if_neg (by omega), if_neg h2]
        have : t - k = (t - (k + 1)) + 1 := by omega
        rw [this]
        rfl

/-- What the temporaries hold as a function begins. -/
def env0 (args : List Value) : Env := envN 0 args

theorem St.start {args : List Value} (h : args.length ≤ N) : St N (env0 args) { tmps := args.toArray ++ Array.replicate (N - args.toArray.size) undef, defers := [] } := by
  refine ⟨rfl, by simp; omega, fun t => ?_⟩
  unfold env0
  rw [envN_get, if_neg (by omega), Nat.sub_zero, Array.getD_eq_getD_getElem?, Array.getElem?_append]
  simp only [List.size_toArray]
  split
  · rename_i ht
    simp [List.getD_eq_getElem?_getD]
  · rename_i ht
    rw [Array.getElem?_replicate, List.getD_eq_getElem?_getD, List.getElem?_eq_none (by omega)]
    split <;> rfl

theorem callable_of {f : FuncId} {fn : Func} {c : Code} (hf : P.funcs[f]? = some fn) (hb : fn.body = some c) (hname : (fn.name == "runtime.NumGoroutine") = false) : callable P f := by
  intro args w
  unfold callFunc
  have hn : ¬ (fn.body.isNone = true) := by rw [hb]; simp
  simp only [Sem.run_bind, run_program, Result.andThen_ok, hf]
  rw [if_neg (by rw [hname]; simp), if_neg hn]
  rfl

theorem acall_of {f : FuncId} {fn : Func} {c : Code} {args : List Value} {rs : List ResultVar} {R : Value → Blks → Prop} (hf : P.funcs[f]? = some fn) (hb : fn.body = some c)
    (hname : (fn.name == "runtime.NumGoroutine") = false) (hN : fn.ntmps = N) (hrs : fn.results = rs.toArray) (hl : args.length ≤ N)
    (h : Cd P N W w0 c (retQ W w0 P rs R) (env0 args) M) : ACall P W w0 f args.toArray M R := by
  refine ⟨callable_of hf hb hname, fun w hw => calls_of_wp hf hb ?_⟩
  rw [hN]
  refine wp_mono (h _ w (St.start hl) hw) ?_
  rintro e a' w' ⟨ρ', M', hq, ha, hw'⟩
  cases e with
  | normal =>
    obtain ⟨vs, h1, h2⟩ := hq
    exact ⟨ha.1, _, run_results hrs ha hw' h1, _, M', rfl, hw', h2⟩
  | ret =>
    obtain ⟨vs, h1, h2⟩ := hq
    exact ⟨ha.1, _, run_results hrs ha hw' h1, _, M', rfl, hw', h2⟩
  | exit id => exact hq.elim
  | goto l => exact hq.elim
  | panic ch => exact hq.elim
  | outgrown => exact hq.elim

/-- A function that only hands back a value, and leaves all that was there as it was. -/
def Gives (P : Program) (f : FuncId) (args : Array Value) (v : Value) : Prop :=
  callable P f ∧ ∀ w, Calls P f args w fun e w' => e = .returned v ∧ Own [] w [] w'

theorem Gives.of {f : FuncId} {args : Array Value} {v : Value} (h : ∀ w, ACall P [] w f args [] fun v' _ => v' = v) : Gives P f args v := by
  refine ⟨(h default).1, fun w => ((h w).2 w (Own.start w)).mono ?_⟩
  rintro e w' ⟨v', M', rfl, hw', rfl⟩
  exact ⟨rfl, hw'.sub (List.nil_sublist _)⟩

theorem Gives.qcall {f : FuncId} {args : Array Value} {v : Value} (h : Gives P f args v) : QCall P W w0 f args M v := by
  refine ⟨h.1, fun w hw => (h.2 w).mono ?_⟩
  rintro e w' ⟨rfl, hw'⟩
  exact ⟨rfl, hw.then_ hw'⟩

theorem QCall.acall {f : FuncId} {args : Array Value} {v : Value} {R : Value → Blks → Prop} (h : QCall P W w0 f args M v) (hR : R v M) : ACall P W w0 f args M R :=
  ⟨h.1, fun w hw => (h.2 w hw).mono fun _ _ ⟨h1, h2⟩ => ⟨v, M, h1, h2, hR⟩⟩

theorem Gives.ask {f : FuncId} {args : Array Value} {v : Value} {R : Value → Prop} (h : Gives P f args v) (hR : R v) : QAsk P W w0 f args M R := ⟨v, fun _ _ => h.qcall, hR⟩

theorem Gives.acall {f : FuncId} {args : Array Value} {v : Value} {R : Value → Blks → Prop} (h : Gives P f args v) (hR : R v M) : ACall P W w0 f args M R := h.qcall.acall hR

end
end Go.W8
