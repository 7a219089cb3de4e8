/-
  Steps of a walk in the form in which they are laid; what the temporaries and the blocks read. Nothing here is about one program. Conditions: none.
-/
import Derived.Test.YtdfddcfgagfdoaaL5
namespace Go.W8

section
variable {P : Program} {N : Nat} {W : List Nat} {w0 : World} {Q : Exit → Env → Blks → Prop} {ρ : Env} {M : Blks}

/-- A call, and what is asked behind it, closed to the walk's own reckoning. -/
def callK (P : Program) (N : Nat) (W : List Nat) (w0 : World) (f : Value) (args : List Value) (M : Blks) (d : Option Tmp) (ρ : Env) (ops : Array Oper) (rest : List Oper) (K : Env → Blks → Prop) : Prop :=
  match f with
  | .func (.func n) first captured => ACall P W w0 n (first.toList ++ (args ++ captured.toList)).toArray M fun v M' => setD N ρ d v fun ρ' => evOps P N W w0 ops rest ρ' M' K
  | _ => False

theorem evOp_call {f : Operand} {args : Array Operand} {ts : Array TypeId} {d : Option Tmp} {T : TypeId} {pos : String} {aft : Array Edge} {g : Option (Nat × Bool)} {ops : Array Oper} {rest : List Oper} {K : Env → Blks → Prop} :
    evOp P N W w0 ⟨d, .call ⟨.value f, args, ts⟩, T, pos, aft, g⟩ ρ M (fun ρ' M' => evOps P N W w0 ops rest ρ' M' K) = callK P N W w0 (ev ρ f) (args.toList.map (ev ρ)) M d ρ ops rest K := by
  unfold evOp callK
  rfl

theorem callK_gives {n : FuncId} {args : List Value} {v : Value} {d : Option Tmp} {ops : Array Oper} {rest : List Oper} {K : Env → Blks → Prop} (h : Gives P n args.toArray v)
    (hk : setD N ρ d v fun ρ' => evOps P N W w0 ops rest ρ' M K) : callK P N W w0 (.func (.func n) #[] #[]) args M d ρ ops rest K := by
  unfold callK
  simp only [List.append_nil, List.nil_append]
  exact h.acall hk

theorem callK_of {n : FuncId} {args : List Value} {fs cs : Array Value} {d : Option Tmp} {ops : Array Oper} {rest : List Oper} {K : Env → Blks → Prop}
    (h : ACall P W w0 n (fs.toList ++ (args ++ cs.toList)).toArray M fun v M' => setD N ρ d v fun ρ' => evOps P N W w0 ops rest ρ' M' K) : callK P N W w0 (.func (.func n) fs cs) args M d ρ ops rest K := h

def callQ (P : Program) (N : Nat) (W : List Nat) (w0 : World) (f : Value) (args : List Value) (M : Blks) (d : Option Tmp) (ρ : Env) (ops : Array Oper) (rest : List Oper) (K : Env → Prop) : Prop :=
  match f with
  | .func (.func n) first captured => QAsk P W w0 n (first.toList ++ (args ++ captured.toList)).toArray M fun v => setD N ρ d v fun ρ' => evQs P N W w0 ops rest ρ' M K
  | _ => False

theorem evQ_call {f : Operand} {args : Array Operand} {ts : Array TypeId} {d : Option Tmp} {T : TypeId} {pos : String} {aft : Array Edge} {g : Option (Nat × Bool)} {ops : Array Oper} {rest : List Oper} {K : Env → Prop} :
    evQ P N W w0 ⟨d, .call ⟨.value f, args, ts⟩, T, pos, aft, g⟩ ρ M (fun ρ' => evQs P N W w0 ops rest ρ' M K) = callQ P N W w0 (ev ρ f) (args.toList.map (ev ρ)) M d ρ ops rest K := by
  unfold evQ evV callQ
  rfl

theorem callQ_gives {n : FuncId} {args : List Value} {v : Value} {d : Option Tmp} {ops : Array Oper} {rest : List Oper} {K : Env → Prop} (h : Gives P n args.toArray v)
    (hk : setD N ρ d v fun ρ' => evQs P N W w0 ops rest ρ' M K) : callQ P N W w0 (.func (.func n) #[] #[]) args M d ρ ops rest K := by
  unfold callQ
  simp only [List.append_nil, List.nil_append]
  exact h.ask hk

theorem callQ_of {n : FuncId} {args : List Value} {fs cs : Array Value} {v : Value} {d : Option Tmp} {ops : Array Oper} {rest : List Oper} {K : Env → Prop} (h : ∀ M', Ext w0 M M' → QCall P W w0 n (fs.toList ++ (args ++ cs.toList)).toArray M' v)
    (hk : setD N ρ d v fun ρ' => evQs P N W w0 ops rest ρ' M K) : callQ P N W w0 (.func (.func n) fs cs) args M d ρ ops rest K := ⟨v, h, hk⟩

theorem guardQ_tt {A B : Prop} : guardQ true true A B = A := by simp [guardQ]
theorem guardQ_ff {A B : Prop} : guardQ false false A B = A := by simp [guardQ]
theorem guardQ_tf {A B : Prop} : guardQ true false A B = B := by simp [guardQ]
theorem guardQ_ft {A B : Prop} : guardQ false true A B = B := by simp [guardQ]
theorem guardQ_and {A B : Prop} {b want : Bool} : guardQ b want A B = ((b = want → A) ∧ (b = !want → B)) := rfl

/-- A region, what follows behind a variable. -/
theorem Cd.reg {id : Nat} {l : List Oper} (h : ∀ K : Env → Blks → Prop, (∀ ρ M, Q .normal ρ M → K ρ M) → evOps P N W w0 l.toArray l ρ M K) : Cd P N W w0 (.region id l.toArray false) Q ρ M :=
  Cd.region (h _ fun _ _ h => h)

/-- A region and what stands behind it. -/
theorem Cd.rseq {id : Nat} {l : List Oper} {y : Code} (h : ∀ K : Env → Blks → Prop, (∀ ρ M, Cd P N W w0 y Q ρ M → K ρ M) → evOps P N W w0 l.toArray l ρ M K) : Cd P N W w0 (.seq (.region id l.toArray false) y) Q ρ M :=
  Cd.seq (Cd.region (h _ fun _ _ h => h))

theorem Cd.qreg {id : Nat} {l : List Oper} (hm : P.follows .mixedOrders = true) (hB : Region.lexB .any l.toArray = true)
    (h : ∀ K : Env → Prop, (∀ ρ, Q .normal ρ M → K ρ) → evQs P N W w0 l.toArray l ρ M K) : Cd P N W w0 (.region id l.toArray true) Q ρ M :=
  Cd.quiet hm hB (h _ fun _ h => h)

theorem Cd.qseq {id : Nat} {l : List Oper} {y : Code} (hm : P.follows .mixedOrders = true) (hB : Region.lexB .any l.toArray = true)
    (h : ∀ K : Env → Prop, (∀ ρ, Cd P N W w0 y Q ρ M → K ρ) → evQs P N W w0 l.toArray l ρ M K) : Cd P N W w0 (.seq (.region id l.toArray true) y) Q ρ M :=
  Cd.seq (Cd.quiet hm hB (h _ fun _ h => h))

theorem Cd.condd {c : Operand} {x y : Code} {p : Prop} [Decidable p] (hc : ev ρ c = .bool (decide p)) (ht : p → Cd P N W w0 x Q ρ M) (hf : ¬ p → Cd P N W w0 y Q ρ M) : Cd P N W w0 (.cond c x y) Q ρ M :=
  Cd.cond hc (fun h => ht (of_decide_eq_true h)) (fun h => hf (of_decide_eq_false h))

theorem Cd.yes {c : Operand} {x y : Code} (hc : ev ρ c = .bool true) (ht : Cd P N W w0 x Q ρ M) : Cd P N W w0 (.cond c x y) Q ρ M := Cd.cond hc (fun _ => ht) (fun h => nomatch h)
theorem Cd.no {c : Operand} {x y : Code} (hc : ev ρ c = .bool false) (hf : Cd P N W w0 y Q ρ M) : Cd P N W w0 (.cond c x y) Q ρ M := Cd.cond hc (fun h => nomatch h) (fun _ => hf)

theorem thenN {y : Code} (h : Cd P N W w0 y Q ρ M) : thenQ P N W w0 y Q .normal ρ M := h
theorem roundN {I : Nat → Env → Blks → Prop} {n m : Nat} (h : m < n) (hI : I m ρ M) : roundQ I n Q .normal ρ M := ⟨m, h, hI⟩
theorem thenX {y : Code} {id : Nat} (h : Q (.exit id) ρ M) : thenQ P N W w0 y Q (.exit id) ρ M := h
theorem thenR {y : Code} (h : Q .ret ρ M) : thenQ P N W w0 y Q .ret ρ M := h
theorem roundX {I : Nat → Env → Blks → Prop} {n id : Nat} (h : Q (.exit id) ρ M) : roundQ I n Q (.exit id) ρ M := h
theorem roundR {I : Nat → Env → Blks → Prop} {n : Nat} (h : Q .ret ρ M) : roundQ I n Q .ret ρ M := h
theorem inBN {id : Nat} (h : Q .normal ρ M) : inB id Q .normal ρ M := h
theorem inBR {id : Nat} (h : Q .ret ρ M) : inB id Q .ret ρ M := h
theorem inBX {id : Nat} (h : Q .normal ρ M) : inB id Q (.exit id) ρ M := by
  show if id = id then Q .normal ρ M else Q (.exit id) ρ M
  rw [if_pos rfl]; exact h
theorem inBY {id id' : Nat} (hne : (id' == id) = false) (h : Q (.exit id') ρ M) : inB id Q (.exit id') ρ M := by
  show if id' = id then Q .normal ρ M else Q (.exit id') ρ M
  rw [if_neg (by simpa using hne)]; exact h

theorem end1 {P : Program} {r : ResultVar} {R : Value → Blks → Prop} {v : Value} (h : resV W w0 P ρ M r = some v) (hR : R v M) : endQ W w0 P [r] R ρ M :=
  ⟨[v], by simp [h], hR⟩
theorem end2 {P : Program} {r s : ResultVar} {R : Value → Blks → Prop} {v u : Value} (h : resV W w0 P ρ M r = some v) (h' : resV W w0 P ρ M s = some u) (hR : R (.tuple #[v, u]) M) : endQ W w0 P [r, s] R ρ M :=
  ⟨[v, u], by simp [h, h'], hR⟩
theorem end3 {P : Program} {r s t : ResultVar} {R : Value → Blks → Prop} {v u x : Value} (h : resV W w0 P ρ M r = some v) (h' : resV W w0 P ρ M s = some u) (h2 : resV W w0 P ρ M t = some x) (hR : R (.tuple #[v, u, x]) M) : endQ W w0 P [r, s, t] R ρ M :=
  ⟨[v, u, x], by simp [h, h', h2], hR⟩

theorem ret1 {P : Program} {r : ResultVar} {R : Value → Blks → Prop} {v : Value} (h : resV W w0 P ρ M r = some v) (hR : R v M) : Cd P N W w0 .ret (retQ W w0 P [r] R) ρ M :=
  Cd.ret (end1 h hR)
theorem ret2 {P : Program} {r s : ResultVar} {R : Value → Blks → Prop} {v u : Value} (h : resV W w0 P ρ M r = some v) (h' : resV W w0 P ρ M s = some u) (hR : R (.tuple #[v, u]) M) :
    Cd P N W w0 .ret (retQ W w0 P [r, s] R) ρ M := Cd.ret (end2 h h' hR)

theorem retQ_ret {P : Program} {rs : List ResultVar} {R : Value → Blks → Prop} : retQ W w0 P rs R .ret ρ M = endQ W w0 P rs R ρ M := rfl
theorem retQ_normal {P : Program} {rs : List ResultVar} {R : Value → Blks → Prop} : retQ W w0 P rs R .normal ρ M = endQ W w0 P rs R ρ M := rfl

theorem endQ_1 {P : Program} {r : ResultVar} {R : Value → Blks → Prop} : endQ W w0 P [r] R ρ M = (match resV W w0 P ρ M r with | some v => R v M | none => False) := by
  unfold endQ
  cases h : resV W w0 P ρ M r <;> simp [h, oneOr]
theorem endQ_2 {P : Program} {r s : ResultVar} {R : Value → Blks → Prop} : endQ W w0 P [r, s] R ρ M = (match resV W w0 P ρ M r, resV W w0 P ρ M s with | some v, some u => R (.tuple #[v, u]) M | _, _ => False) := by
  unfold endQ
  cases h : resV W w0 P ρ M r <;> cases h' : resV W w0 P ρ M s <;> simp [h, h', oneOr]
theorem endQ_3 {P : Program} {r s t : ResultVar} {R : Value → Blks → Prop} : endQ W w0 P [r, s, t] R ρ M = (match resV W w0 P ρ M r, resV W w0 P ρ M s, resV W w0 P ρ M t with | some v, some u, some x => R (.tuple #[v, u, x]) M | _, _, _ => False) := by
  unfold endQ
  cases h : resV W w0 P ρ M r <;> cases h' : resV W w0 P ρ M s <;> cases h2 : resV W w0 P ρ M t <;> simp [h, h', h2, oneOr]
theorem resV_tmp {P : Program} {t : Nat} : resV W w0 P ρ M (.tmp t) = some (ρ t) := rfl
theorem resV_cell {P : Program} {t : Nat} {T : TypeId} : resV W w0 P ρ M (.cell t T) = (match ρ t, ldT P T with
    | .pointer (some ⟨b, off, none⟩), some none => cellAt W w0 M b off
    | .pointer (some ⟨b, off, none⟩), some (some n) => (cellsAt W w0 M b off n).map fun vs => .agg vs.toArray
    | _, _ => none) := rfl

theorem Fresh.ne {b b' : Nat} {cs : List Value} (h : Fresh w0 ((b', cs) :: M) b) : (b = b') = False := eq_false (h.2 _ List.mem_cons_self)
theorem Fresh.tail {b b' : Nat} {cs : List Value} (h : Fresh w0 ((b', cs) :: M) b) : Fresh w0 M b := ⟨h.1, fun p hp => h.2 p (List.mem_cons_of_mem _ hp)⟩
theorem Fresh.old {b b' : Nat} (h : Fresh w0 M b) (h' : b' < w0.heap.size) : (b = b') = False := eq_false (fun e => by have := h.1; omega)

theorem upd_same (t : Nat) (v : Value) : upd ρ t v t = v := by unfold upd; rw [if_pos rfl]

/-- The temporaries of W are forgotten. -/
def hav (S : List Nat) (g ρ : Env) : Env := fun t => if t ∈ S then g t else ρ t

def updL : List (Nat × Value) → Env → Env
  | [], ρ => ρ
  | (t, v) :: l, ρ => upd (updL l ρ) t v

/-- Nothing has turned but the temporaries of S. -/
def Only (S : List Nat) (ρ' ρ : Env) : Prop := ∀ t, t ∉ S → ρ' t = ρ t

theorem Only.refl (S : List Nat) : Only S ρ ρ := fun _ _ => rfl
theorem Only.upd {S : List Nat} {ρ' : Env} {t : Nat} {v : Value} (ht : t ∈ S) (h : Only S ρ' ρ) : Only S (upd ρ' t v) ρ := fun s hs => by
  unfold W8.upd
  have hne : ¬ s = t := fun e => hs (by rw [e]; exact ht)
  rw [if_neg hne]
  exact h s hs
theorem Only.hav {S : List Nat} {g : Env} : Only S (hav S g ρ) ρ := fun s hs => by unfold W8.hav; rw [if_neg hs]

theorem only_updL {S : List Nat} {ρ' : Env} (h : Only S ρ' ρ) : ∀ (l : List (Nat × Value)), (∀ p ∈ l, ρ' p.1 = p.2) → ρ' = updL l (hav S ρ' ρ)
  | [], _ => by
    funext t
    simp only [updL, W8.hav]
    split
    · rfl
    · rename_i ht; exact h t ht
  | (t, v) :: l, hl => by
    have ih := only_updL h l fun p hp => hl p (List.mem_cons_of_mem _ hp)
    funext s
    simp only [updL, W8.upd]
    split
    · rename_i e; subst e; exact hl (s, v) List.mem_cons_self
    · rw [← ih]

/-- Of the temporaries only those of S are remembered. -/
def keepK (S : List Nat) (K : Env → Blks → Prop) (ρ : Env) (M : Blks) : Prop := ∀ g, K (updL (S.map fun t => (t, ρ t)) g) M
def keepQ (S : List Nat) (K : Env → Prop) (ρ : Env) : Prop := ∀ g, K (updL (S.map fun t => (t, ρ t)) g)

theorem updL_self : ∀ (S : List Nat), updL (S.map fun t => (t, ρ t)) ρ = ρ
  | [] => rfl
  | s :: S => by
    funext t
    simp only [List.map_cons, updL, W8.upd, updL_self S]
    split
    · rename_i e; rw [e]
    · rfl

theorem keepK_of {S : List Nat} {K : Env → Blks → Prop} (h : keepK S K ρ M) : K ρ M := by
  have := h ρ
  rwa [updL_self] at this
theorem keepQ_of {S : List Nat} {K : Env → Prop} (h : keepQ S K ρ) : K ρ := by
  have := h ρ
  rwa [updL_self] at this

theorem Cd.rs {id : Nat} {l : List Oper} {y : Code} (S : List Nat) (h : ∀ K : Env → Blks → Prop, (∀ ρ M, Cd P N W w0 y Q ρ M → K ρ M) → evOps P N W w0 l.toArray l ρ M (keepK S K)) : Cd P N W w0 (.seq (.region id l.toArray false) y) Q ρ M :=
  Cd.seq (Cd.mono (Cd.region (Q := fun e ρ M => match e with | .normal => keepK S (fun ρ M => Cd P N W w0 y Q ρ M) ρ M | _ => False) (h _ fun _ _ h => h)) fun e ρ M hq => by
    cases e <;> first | exact keepK_of hq | exact hq.elim)

theorem Cd.rr {id : Nat} {l : List Oper} (S : List Nat) (h : ∀ K : Env → Blks → Prop, (∀ ρ M, Q .normal ρ M → K ρ M) → evOps P N W w0 l.toArray l ρ M (keepK S K)) : Cd P N W w0 (.region id l.toArray false) Q ρ M :=
  Cd.mono (Cd.region (Q := fun e ρ M => match e with | .normal => keepK S (fun ρ M => Q .normal ρ M) ρ M | _ => False) (h _ fun _ _ h => h)) fun e ρ M hq => by
    cases e <;> first | exact keepK_of (K := fun ρ M => Q .normal ρ M) hq | exact hq.elim

theorem Cd.qs {id : Nat} {l : List Oper} {y : Code} (S : List Nat) (hm : P.follows .mixedOrders = true) (hB : Region.lexB .any l.toArray = true)
    (h : ∀ K : Env → Prop, (∀ ρ, Cd P N W w0 y Q ρ M → K ρ) → evQs P N W w0 l.toArray l ρ M (keepQ S K)) : Cd P N W w0 (.seq (.region id l.toArray true) y) Q ρ M :=
  Cd.seq (Cd.mono (Cd.quiet (Q := fun e ρ M' => match e with | .normal => M' = M ∧ keepQ S (fun ρ => Cd P N W w0 y Q ρ M) ρ | _ => False) hm hB (by
    have := h (fun ρ => Cd P N W w0 y Q ρ M) fun _ h => h
    simpa using this)) fun e ρ M' hq => by
    cases e <;> first | (obtain ⟨rfl, hq⟩ := hq; exact keepQ_of hq) | exact hq.elim)

theorem Cd.qr {id : Nat} {l : List Oper} (S : List Nat) (hm : P.follows .mixedOrders = true) (hB : Region.lexB .any l.toArray = true)
    (h : ∀ K : Env → Prop, (∀ ρ, Q .normal ρ M → K ρ) → evQs P N W w0 l.toArray l ρ M (keepQ S K)) : Cd P N W w0 (.region id l.toArray true) Q ρ M :=
  Cd.mono (Cd.quiet (Q := fun e ρ M' => match e with | .normal => M' = M ∧ keepQ S (fun ρ => Q .normal ρ M) ρ | _ => False) hm hB (by
    have := h (fun ρ => Q .normal ρ M) fun _ h => h
    simpa using this)) fun e ρ M' hq => by
    cases e <;> first | (obtain ⟨rfl, hq⟩ := hq; exact keepQ_of (K := fun ρ => Q .normal ρ M') hq) | exact hq.elim

/-- What is known at a loop's head: the slots of S may have turned, those of l hold just this. -/
theorem head_of {S : List Nat} {ρ' : Env} (l : List (Nat × Value)) (h : Only S ρ' ρ) (hl : ∀ p ∈ l, ρ' p.1 = p.2) : ∃ g, ρ' = updL l (hav S g ρ) := ⟨ρ', only_updL h l hl⟩

end
end Go.W8
