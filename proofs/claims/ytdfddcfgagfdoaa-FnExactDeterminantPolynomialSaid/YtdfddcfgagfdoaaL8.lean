/-
  Regions that draw their order and write: a plan of their operations, each step of which is sound in every order. Nothing here is about one program. Conditions: none.
-/
import Derived.Test.YtdfddcfgagfdoaaL7
namespace Go.W8
set_option linter.unusedSimpArgs false

def opTmps (o : Oper) : List Tmp := o.op.operands.toList.filterMap fun | .tmp t => some t | _ => none

theorem mem_opTmps {o : Oper} {t : Tmp} (h : Operand.tmp t ∈ o.op.operands) : t ∈ opTmps o := by
  unfold opTmps
  exact List.mem_filterMap.2 ⟨.tmp t, by simpa using h, rfl⟩

section
variable {P : Program} {N : Nat} {W : List Nat} {w0 : World} {ρ ρ' : Env} {M M' : Blks}

theorem ev_agree {o : Oper} (h : ∀ t ∈ opTmps o, ρ' t = ρ t) {x : Operand} (hx : x ∈ o.op.operands) : ev ρ' x = ev ρ x := by
  cases x with
  | tmp t => exact h t (mem_opTmps hx)
  | _ => rfl

theorem pureOp_agree {o : Oper} (h : ∀ t ∈ opTmps o, ρ' t = ρ t) : pureOp P ρ' o.op = pureOp P ρ o.op := by
  have hx : ∀ x ∈ o.op.operands, ev ρ' x = ev ρ x := fun x hx => ev_agree h hx
  clear h
  generalize o.op = op at hx
  cases op with
  | slice T x lo hi mx =>
    cases mx with
    | some m => rfl
    | none =>
      simp only [pureOp]
      have h1 : ev ρ' x = ev ρ x := hx x (by simp [Op.operands])
      have h2 : lo.map (ev ρ') = lo.map (ev ρ) := by
        cases lo with
        | none => rfl
        | some l => exact congrArg some (hx l (by simp [Op.operands]))
      have h3 : hi.map (ev ρ') = hi.map (ev ρ) := by
        cases hi with
        | none => rfl
        | some l => exact congrArg some (hx l (by simp [Op.operands]))
      rw [h1, h2, h3]
  | build T parts =>
    simp only [pureOp]
    congr 1
    apply List.map_congr_left
    intro p hp
    have : ev ρ' p.2 = ev ρ p.2 := hx p.2 (by
      simp only [Op.operands, List.mem_toArray, List.mem_map]
      exact ⟨p, hp, rfl⟩)
    rw [show ∀ r : Env, evP r p = (p.1, ev r p.2) from fun _ => rfl, show ∀ r : Env, evP r p = (p.1, ev r p.2) from fun _ => rfl, this]
  | makeFunc fn a b =>
    simp only [pureOp]
    have h1 : a.map (ev ρ') = a.map (ev ρ) := by
      apply Array.map_congr_left
      intro x hxa
      exact hx x (by simp [Op.operands, hxa])
    have h2 : b.map (ev ρ') = b.map (ev ρ) := by
      apply Array.map_congr_left
      intro x hxb
      exact hx x (by simp [Op.operands, hxb])
    rw [h1, h2]
  | move x => simp [pureOp, hx x (by simp [Op.operands])]
  | assign x => simp [pureOp, hx x (by simp [Op.operands])]
  | pick c a b => simp [pureOp, hx c (by simp [Op.operands]), hx a (by simp [Op.operands]), hx b (by simp [Op.operands])]
  | binOp op T x y T' => simp [pureOp, hx x (by simp [Op.operands]), hx y (by simp [Op.operands])]
  | unOp op T x => simp [pureOp, hx x (by simp [Op.operands])]
  | convert s d x => simp [pureOp, hx x (by simp [Op.operands])]
  | nilCheck x => simp [pureOp, hx x (by simp [Op.operands])]
  | fieldAddr s x f => simp [pureOp, hx x (by simp [Op.operands])]
  | field s x f => simp [pureOp, hx x (by simp [Op.operands])]
  | indexAddr s x i => simp [pureOp, hx x (by simp [Op.operands]), hx i (by simp [Op.operands])]
  | index s x i => simp [pureOp, hx x (by simp [Op.operands]), hx i (by simp [Op.operands])]
  | extract x i => simp [pureOp, hx x (by simp [Op.operands])]
  | _ => rfl

/-! ### What a reading operation yields, later and among more blocks -/

theorem evV_get {o : Oper} {R : Value → Prop} (h : evV P W w0 o ρ M R) : ∃ v, evV P W w0 o ρ M (· = v) ∧ R v := by
  unfold evV at h ⊢
  cases hop : o.op <;> simp only [hop] at h ⊢ <;> try exact h.elim
  case load T x =>
    split at h
    · rename_i b off hx hT
      (try simp only [hx, hT])
      cases hc : cellAt W w0 M b off with
      | none => rw [hc] at h; exact h.elim
      | some v => rw [hc] at h; exact ⟨v, rfl, h⟩
    · rename_i b off n hx hT
      (try simp only [hx, hT])
      obtain ⟨hn, h⟩ := h
      cases hc : cellsAt W w0 M b off n with
      | none => rw [hc] at h; exact h.elim
      | some v => rw [hc] at h; exact ⟨_, ⟨hn, rfl⟩, h⟩
    · exact h.elim
  case call c =>
    cases hc : c.callee <;> simp only [hc] at h ⊢ <;> try exact h.elim
    case value f =>
      split at h
      · rename_i n first captured hf
        obtain ⟨v, h1, h2⟩ := h
        exact ⟨v, by (try simp only [hf]); exact ⟨v, h1, rfl⟩, h2⟩
      · exact h.elim
    case builtin b =>
      cases b <;> simp only at h ⊢ <;> try exact h.elim
      all_goals
        split at h
        · rename_i h0 h1 h2
          (try simp only [h0, h1, h2])
          split at h
          · rename_i p v hl
            (try simp only [hl])
            exact ⟨v, ⟨h.1, rfl⟩, h.2⟩
          · exact h.elim
        · exact h.elim
  all_goals
    split at h
    · rename_i c v hp
      (try simp only [hp])
      exact ⟨v, ⟨h.1, rfl⟩, h.2⟩
    · exact h.elim

theorem evV_mono {o : Oper} {v : Value} {R : Value → Prop} (h : evV P W w0 o ρ M (· = v)) (hR : R v) : evV P W w0 o ρ M R := by
  unfold evV at h ⊢
  cases hop : o.op <;> simp only [hop] at h ⊢ <;> try exact h.elim
  case load T x =>
    split at h
    · rename_i b off hx hT
      (try simp only [hx, hT])
      cases hc : cellAt W w0 M b off with
      | none => rw [hc] at h; exact h.elim
      | some u => rw [hc] at h; subst h; exact hR
    · rename_i b off n hx hT
      (try simp only [hx, hT])
      obtain ⟨hn, h⟩ := h
      cases hc : cellsAt W w0 M b off n with
      | none => rw [hc] at h; exact h.elim
      | some u => rw [hc] at h; subst h; exact ⟨hn, hR⟩
    · exact h.elim
  case call c =>
    cases hc : c.callee <;> simp only [hc] at h ⊢ <;> try exact h.elim
    case value f =>
      split at h
      · rename_i n first captured hf
        obtain ⟨u, h1, rfl⟩ := h
        (try simp only [hf]); exact ⟨u, h1, hR⟩
      · exact h.elim
    case builtin b =>
      cases b <;> simp only at h ⊢ <;> try exact h.elim
      all_goals
        split at h
        · rename_i h0 h1 h2
          (try simp only [h0, h1, h2])
          split at h
          · rename_i p u hl
            (try simp only [hl])
            obtain ⟨hp, rfl⟩ := h
            exact ⟨hp, hR⟩
          · exact h.elim
        · exact h.elim
  all_goals
    split at h
    · rename_i c u hp
      (try simp only [hp])
      obtain ⟨hc, rfl⟩ := h
      exact ⟨hc, hR⟩
    · exact h.elim

theorem evV_move {o : Oper} {R : Value → Prop} (h : evV P W w0 o ρ M R) (hE : Ext w0 M M') (ha : ∀ t ∈ opTmps o, ρ' t = ρ t) : evV P W w0 o ρ' M' R := by
  have hp := pureOp_agree (P := P) ha
  have hx : ∀ x ∈ o.op.operands, ev ρ' x = ev ρ x := fun x hx => ev_agree ha hx
  clear ha
  unfold evV at h ⊢
  cases hop : o.op <;> simp only [hop] at h hx hp ⊢ <;> try exact h.elim
  case load T x =>
    rw [hx x (by simp [Op.operands])]
    split at h
    · rename_i b off hx hT
      (try simp only [hx, hT])
      cases hc : cellAt W w0 M b off with
      | none => rw [hc] at h; exact h.elim
      | some u => rw [hc] at h; rw [hE.cellAt hc]; exact h
    · rename_i b off n hx hT
      (try simp only [hx, hT])
      obtain ⟨hn, h⟩ := h
      cases hc : cellsAt W w0 M b off n with
      | none => rw [hc] at h; exact h.elim
      | some u => rw [hc] at h; rw [hE.cellsAt hn hc]; exact ⟨hn, h⟩
    · exact h.elim
  case call c =>
    have hm : c.args.toList.map (ev ρ') = c.args.toList.map (ev ρ) := by
      apply List.map_congr_left
      intro x hxa
      exact hx x (by simp only [Op.operands, Call.operands, Array.mem_append]; exact .inr (by simpa using hxa))
    cases hc : c.callee <;> simp only [hc] at h ⊢ <;> try exact h.elim
    case value f =>
      rw [hx f (by simp [Op.operands, Call.operands, hc]), hm]
      split at h
      · rename_i n first captured hf
        obtain ⟨u, h1, h2⟩ := h
        exact ⟨u, fun M'' hE' => h1 M'' (hE.trans hE'), h2⟩
      · exact h.elim
    case builtin b =>
      have hg : ∀ (i : Nat) x, c.args[i]? = some x → ev ρ' x = ev ρ x := fun i x hi => hx x (by
        simp only [Op.operands, Call.operands, Array.mem_append]; exact .inr (Array.mem_of_getElem? hi))
      cases b <;> simp only at h ⊢ <;> try exact h.elim
      all_goals
        split at h
        · rename_i h0 h1 h2
          (try simp only [h0, h1, h2])
          first
            | rw [hg 0 _ h0, hg 1 _ h1]
            | rw [hg 0 _ h0]
          exact h
        · exact h.elim
  all_goals
    rw [hp]
    exact h

theorem evV_evOp {o : Oper} {K : Env → Blks → Prop} (h : evV P W w0 o ρ M fun v => setD N ρ o.dst v (K · M)) : evOp P N W w0 o ρ M K := by
  unfold evV at h
  unfold evOp
  cases hop : o.op <;> simp only [hop] at h ⊢ <;> try exact h.elim
  case load T x =>
    split at h
    · rename_i b off hx hT; (try simp only [hx, hT]); exact h
    · rename_i b off n hx hT; (try simp only [hx, hT]); exact h.2
    · exact h.elim
  case call c =>
    cases hc : c.callee <;> simp only [hc] at h ⊢ <;> try exact h.elim
    case value f =>
      split at h
      · rename_i n first captured hf
        (try simp only [hf])
        obtain ⟨u, h1, h2⟩ := h
        exact (h1 M .refl).acall h2
      · exact h.elim
    case builtin b =>
      cases b <;> simp only at h ⊢ <;> first | exact h.elim | exact h
  all_goals
    split at h
    · rename_i hq; (try simp only [hq]); exact h
    · exact h.elim

theorem setD_mono {d : Option Tmp} {v : Value} {K K' : Env → Prop} (h : setD N ρ d v K) (hK : ∀ ρ', K ρ' → K' ρ') : setD N ρ d v K' := by
  cases d with
  | none => exact hK _ h
  | some t => exact ⟨h.1, hK _ h.2⟩

theorem bslQ_mono {d : Option Tmp} {T : TypeId} {len : Nat} {parts : List (Nat × Value)} {K K' : Env → Blks → Prop} (h : bslQ P N w0 d T len parts ρ M K) (hK : ∀ ρ' M', K ρ' M' → K' ρ' M') : bslQ P N w0 d T len parts ρ M K' := by
  unfold bslQ at h ⊢
  split at h
  · split at h
    · exact ⟨h.1, fun b hb => setD_mono (h.2 b hb) fun _ => hK _ _⟩
    · exact h.elim
  · exact h.elim
theorem mksQ_mono {d : Option Tmp} {T : TypeId} {l c : Value} {K K' : Env → Blks → Prop} (h : mksQ P N w0 d T l c ρ M K) (hK : ∀ ρ' M', K ρ' M' → K' ρ' M') : mksQ P N w0 d T l c ρ M K' := by
  unfold mksQ at h ⊢
  split at h
  · split at h
    · exact ⟨h.1, fun b hb => setD_mono (h.2 b hb) fun _ => hK _ _⟩
    · exact h.elim
  · exact h.elim
theorem appQ_mono {d : Option Tmp} {T : TypeId} {s x : Value} {K K' : Env → Blks → Prop} (h : appQ P N W w0 d T s x ρ M K) (hK : ∀ ρ' M', K ρ' M' → K' ρ' M') : appQ P N W w0 d T s x ρ M K' := by
  unfold appQ at h ⊢
  split at h
  · split at h
    · exact ⟨h.1, appIf_mono h.2 (fun hh => ⟨hh.1, fun b c r hb h1 h2 => setD_mono (hh.2 b c r hb h1 h2) fun _ => hK _ _⟩) fun hh => setD_mono hh fun _ => hK _ _⟩
    · exact h.elim
  · exact ⟨h.1, setD_mono h.2 fun _ => hK _ _⟩
  · split at h
    · exact ⟨h.1, fun b c r hb h1 h2 => setD_mono (h.2 b c r hb h1 h2) fun _ => hK _ _⟩
    · exact h.elim
  · exact h.elim

theorem apzQ_mono {d : Option Tmp} {T : TypeId} {s x : Value} {K K' : Env → Blks → Prop} (h : apzQ P N w0 d T s x ρ M K) (hK : ∀ ρ' M', K ρ' M' → K' ρ' M') : apzQ P N w0 d T s x ρ M K' := by
  unfold apzQ at h ⊢
  split at h
  · split at h
    · exact ⟨h.1, fun b c r hb h1 h2 => setD_mono (h.2 b c r hb h1 h2) fun _ => hK _ _⟩
    · exact h.elim
  · exact h.elim
theorem cvtQ_mono {d : Option Tmp} {op : Op} {K K' : Env → Blks → Prop} (h : cvtQ P N W w0 d op ρ M K) (hK : ∀ ρ' M', K ρ' M' → K' ρ' M') : cvtQ P N W w0 d op ρ M K' := by
  unfold cvtQ at h ⊢
  split at h
  · split at h
    · exact ⟨h.1, setD_mono h.2 fun _ => hK _ _⟩
    · split at h
      · exact ⟨h.1, setD_mono h.2 fun _ => hK _ _⟩
      · exact h.elim
    · exact h.elim
  · exact h.elim

theorem evOp_mono {o : Oper} {K K' : Env → Blks → Prop} (h : evOp P N W w0 o ρ M K) (hK : ∀ ρ' M', K ρ' M' → K' ρ' M') : evOp P N W w0 o ρ M K' := by
  unfold evOp at h ⊢
  cases hop : o.op <;> simp only [hop] at h ⊢ <;> try exact h.elim
  case load T x =>
    split at h
    · rename_i b off hx hT
      (try simp only [hx, hT])
      split at h
      · rename_i hc; (try simp only [hc]); exact setD_mono h fun _ => hK _ _
      · exact h.elim
    · rename_i b off n hx hT
      (try simp only [hx, hT])
      split at h
      · rename_i hc; (try simp only [hc]); exact setD_mono h fun _ => hK _ _
      · exact h.elim
    · exact h.elim
  case store T x y =>
    split at h
    · rename_i b off n hx hT hd
      (try simp only [hx, hT, hd])
      split at h
      · rename_i hf; (try simp only [hf]); exact ⟨h.1, hK _ _ h.2⟩
      · exact h.elim
    · exact h.elim
  case alloc T =>
    split at h
    · rename_i zs hz; (try simp only [hz]); exact fun b hb => setD_mono (h b hb) fun _ => hK _ _
    · exact h.elim
  case box T x => exact fun b hb => setD_mono (h b hb) fun _ => hK _ _
  case buildSlice T len parts => exact bslQ_mono h hK
  case makeSlice T l c => exact mksQ_mono h hK
  case call c =>
    cases hc : c.callee <;> simp only [hc] at h ⊢ <;> try exact h.elim
    case value f =>
      split at h
      · rename_i n first captured hf; (try simp only [hf]); exact ACall.mono P W w0 h fun v M' hs => setD_mono hs fun _ => hK _ _
      · exact h.elim
    case builtin b =>
      cases b <;> simp only at h ⊢ <;> try exact h.elim
      case append =>
        split at h
        · split at h
          · rename_i hz; (try simp only [hz]); exact ⟨h.1, appQ_mono h.2 hK⟩
          · rename_i hz; (try simp only [hz]); exact apzQ_mono h hK
        · exact h.elim
      all_goals
        split at h
        · rename_i h0 h1 h2
          (try simp only [h0, h1, h2])
          split at h
          · rename_i hl; (try simp only [hl]); exact ⟨h.1, setD_mono h.2 fun _ => hK _ _⟩
          · exact h.elim
        · exact h.elim
  all_goals
    split at h
    · rename_i hp; (try simp only [hp]); exact ⟨h.1, setD_mono h.2 fun _ => hK _ _⟩
    · rename_i hp; (try simp only [hp]); exact cvtQ_mono h hK

/-- An operation that reads, or lays a new block, and calls nothing. -/
def Oper.mild (o : Oper) : Bool :=
  o.guard.isNone &&
  match o.op with
  | .move _ | .assign _ | .pick .. | .binOp .. | .unOp .. | .convert .. | .nilCheck _ | .fieldAddr .. | .indexAddr .. | .index .. | .field .. | .extract .. | .makeFunc .. | .slice .. | .build .. | .load .. | .alloc _ | .box .. | .buildSlice .. => true
  | _ => false

theorem upd_comm (ρ : Env) {s t : Nat} (h : s ≠ t) (v u : Value) : upd (upd ρ s v) t u = upd (upd ρ t u) s v := by
  funext x
  unfold upd
  by_cases h1 : x = t
  · subst h1; rw [if_pos rfl, if_neg (fun e => h e.symm), if_pos rfl]
  · rw [if_neg h1]
    by_cases h2 : x = s
    · rw [if_pos h2, if_pos h2]
    · rw [if_neg h2, if_neg h2, if_neg h1]

theorem setD_frame {d : Option Tmp} {s : Nat} {v u : Value} {G : Env → Blks → Prop} {M' : Blks} (hs : d ≠ some s) (hE : Ext w0 M M') (h : setD N (upd ρ s v) d u (G · M')) :
    setD N ρ d u fun ρ' => G (upd ρ' s v) M' ∧ Ext w0 M M' ∧ ∀ t, d ≠ some t → ρ' t = ρ t := by
  cases d with
  | none => exact ⟨h, hE, fun _ _ => rfl⟩
  | some t =>
    refine ⟨h.1, ?_, hE, fun x hx => ?_⟩
    · rw [upd_comm ρ (s := t) (t := s) (fun e => hs (congrArg some e))]; exact h.2
    · unfold upd; rw [if_neg (fun e => hx (congrArg some e.symm))]

theorem bslQ_frame {d : Option Tmp} {T : TypeId} {len : Nat} {parts : List (Nat × Value)} {s : Nat} {v : Value} (hd : d ≠ some s) {G : Env → Blks → Prop} (h : bslQ P N w0 d T len parts (upd ρ s v) M G) :
    bslQ P N w0 d T len parts ρ M fun ρ' M' => G (upd ρ' s v) M' ∧ Ext w0 M M' ∧ ∀ t, d ≠ some t → ρ' t = ρ t := by
  unfold bslQ at h ⊢
  split at h
  · split at h
    · exact ⟨h.1, fun b hb => setD_frame hd (.cons .refl hb) (h.2 b hb)⟩
    · exact h.elim
  · exact h.elim

theorem cvtQ_frame {d : Option Tmp} {op : Op} {s : Nat} {v : Value} (hx : ∀ x ∈ op.operands, ev (upd ρ s v) x = ev ρ x) (hd : d ≠ some s) {G : Env → Blks → Prop} (h : cvtQ P N W w0 d op (upd ρ s v) M G) :
    cvtQ P N W w0 d op ρ M fun ρ' M' => G (upd ρ' s v) M' ∧ Ext w0 M M' ∧ ∀ t, d ≠ some t → ρ' t = ρ t := by
  unfold cvtQ at h ⊢
  split at h
  · rename_i T t x
    rw [hx x (by simp [Op.operands])] at h
    split at h
    · exact ⟨h.1, setD_frame hd .refl h.2⟩
    · split at h
      · exact ⟨h.1, setD_frame hd .refl h.2⟩
      · exact h.elim
    · exact h.elim
  · exact h.elim

theorem evOp_frame {o : Oper} (hm : Oper.mild o = true) {s : Nat} {v : Value} (hs : s ∉ opTmps o) (hd : o.dst ≠ some s) {G : Env → Blks → Prop} (h : evOp P N W w0 o (upd ρ s v) M G) :
    evOp P N W w0 o ρ M fun ρ' M' => G (upd ρ' s v) M' ∧ Ext w0 M M' ∧ ∀ t, o.dst ≠ some t → ρ' t = ρ t := by
  have ha : ∀ t ∈ opTmps o, (upd ρ s v) t = ρ t := fun t ht => by
    have hne : ¬ t = s := fun e => hs (by rw [← e]; exact ht)
    unfold upd; rw [if_neg hne]
  have hp := pureOp_agree (P := P) ha
  have hx : ∀ x ∈ o.op.operands, ev (upd ρ s v) x = ev ρ x := fun x hx => ev_agree ha hx
  clear ha
  unfold Oper.mild at hm
  simp only [Bool.and_eq_true] at hm
  obtain ⟨_, hm⟩ := hm
  unfold evOp at h ⊢
  cases hop : o.op <;> simp only [hop, Bool.false_eq_true] at h hm hx hp ⊢
  case load T x =>
    rw [hx x (by simp [Op.operands])] at h
    split at h
    · rename_i b off hx hT
      (try simp only [hx, hT])
      split at h
      · rename_i hc; (try simp only [hc]); exact setD_frame hd .refl h
      · exact h.elim
    · rename_i b off n hx hT
      (try simp only [hx, hT])
      split at h
      · rename_i hc; (try simp only [hc]); exact setD_frame hd .refl h
      · exact h.elim
    · exact h.elim
  case alloc T =>
    split at h
    · rename_i zs hz; (try simp only [hz]); exact fun b hb => setD_frame hd (.cons .refl hb) (h b hb)
    · exact h.elim
  case box T x =>
    rw [hx x (by simp [Op.operands])] at h
    exact fun b hb => setD_frame hd (.cons .refl hb) (h b hb)
  case buildSlice T len parts =>
    have e1 : (parts.toList.map (evP (upd ρ s v))) = parts.toList.map (evP ρ) := by
      apply List.map_congr_left
      intro p hpp
      rw [show ∀ r : Env, evP r p = (p.1, ev r p.2) from fun _ => rfl, show ∀ r : Env, evP r p = (p.1, ev r p.2) from fun _ => rfl, hx p.2 (by simp only [Op.operands, List.mem_toArray, List.mem_map]; exact ⟨p, hpp, rfl⟩)]
    rw [e1] at h
    exact bslQ_frame hd h
  all_goals
    rw [hp] at h
    split at h
    · rename_i hq; (try simp only [hq]); exact ⟨h.1, setD_frame hd .refl h.2⟩
    · rename_i hq; (try simp only [hq]); exact cvtQ_frame hx hd h

theorem setD_frame' (w0 : World) {d : Option Tmp} {s : Nat} {v u : Value} {G : Env → Blks → Prop} {M' : Blks} (hs : d ≠ some s) (h : setD N (upd ρ s v) d u (G · M')) :
    setD N ρ d u fun ρ' => G (upd ρ' s v) M' ∧ ∀ t, d ≠ some t → ρ' t = ρ t :=
  setD_mono (setD_frame (w0 := w0) hs .refl h) fun _ hh => ⟨hh.1, hh.2.2⟩

theorem bslQ_frame' {d : Option Tmp} {T : TypeId} {len : Nat} {parts : List (Nat × Value)} {s : Nat} {v : Value} (hd : d ≠ some s) {G : Env → Blks → Prop} (h : bslQ P N w0 d T len parts (upd ρ s v) M G) :
    bslQ P N w0 d T len parts ρ M fun ρ' M' => G (upd ρ' s v) M' ∧ ∀ t, d ≠ some t → ρ' t = ρ t := by
  unfold bslQ at h ⊢
  split at h
  · split at h
    · exact ⟨h.1, fun b hb => setD_frame' w0 hd (h.2 b hb)⟩
    · exact h.elim
  · exact h.elim
theorem mksQ_frame' {d : Option Tmp} {T : TypeId} {l c : Value} {s : Nat} {v : Value} (hd : d ≠ some s) {G : Env → Blks → Prop} (h : mksQ P N w0 d T l c (upd ρ s v) M G) :
    mksQ P N w0 d T l c ρ M fun ρ' M' => G (upd ρ' s v) M' ∧ ∀ t, d ≠ some t → ρ' t = ρ t := by
  unfold mksQ at h ⊢
  split at h
  · split at h
    · exact ⟨h.1, fun b hb => setD_frame' w0 hd (h.2 b hb)⟩
    · exact h.elim
  · exact h.elim
theorem appQ_frame' {d : Option Tmp} {T : TypeId} {x y : Value} {s : Nat} {v : Value} (hd : d ≠ some s) {G : Env → Blks → Prop} (h : appQ P N W w0 d T x y (upd ρ s v) M G) :
    appQ P N W w0 d T x y ρ M fun ρ' M' => G (upd ρ' s v) M' ∧ ∀ t, d ≠ some t → ρ' t = ρ t := by
  unfold appQ at h ⊢
  split at h
  · split at h
    · exact ⟨h.1, appIf_mono h.2 (fun hh => ⟨hh.1, fun b c r hb h1 h2 => setD_frame' w0 hd (hh.2 b c r hb h1 h2)⟩) fun hh => setD_frame' w0 hd hh⟩
    · exact h.elim
  · exact ⟨h.1, setD_frame' w0 hd h.2⟩
  · split at h
    · exact ⟨h.1, fun b c r hb h1 h2 => setD_frame' w0 hd (h.2 b c r hb h1 h2)⟩
    · exact h.elim
  · exact h.elim

theorem apzQ_frame' {d : Option Tmp} {T : TypeId} {x y : Value} {s : Nat} {v : Value} (hd : d ≠ some s) {G : Env → Blks → Prop} (h : apzQ P N w0 d T x y (upd ρ s v) M G) :
    apzQ P N w0 d T x y ρ M fun ρ' M' => G (upd ρ' s v) M' ∧ ∀ t, d ≠ some t → ρ' t = ρ t := by
  unfold apzQ at h ⊢
  split at h
  · split at h
    · exact ⟨h.1, fun b c r hb h1 h2 => setD_frame' w0 hd (h.2 b c r hb h1 h2)⟩
    · exact h.elim
  · exact h.elim
theorem cvtQ_frame' {d : Option Tmp} {op : Op} {s : Nat} {v : Value} (hx : ∀ x ∈ op.operands, ev (upd ρ s v) x = ev ρ x) (hd : d ≠ some s) {G : Env → Blks → Prop} (h : cvtQ P N W w0 d op (upd ρ s v) M G) :
    cvtQ P N W w0 d op ρ M fun ρ' M' => G (upd ρ' s v) M' ∧ ∀ t, d ≠ some t → ρ' t = ρ t := cvtQ_mono (cvtQ_frame hx hd h) fun _ _ hh => ⟨hh.1, hh.2.2⟩

theorem evOp_frame' {o : Oper} {s : Nat} {v : Value} (hs : s ∉ opTmps o) (hd : o.dst ≠ some s) {G : Env → Blks → Prop} (h : evOp P N W w0 o (upd ρ s v) M G) :
    evOp P N W w0 o ρ M fun ρ' M' => G (upd ρ' s v) M' ∧ ∀ t, o.dst ≠ some t → ρ' t = ρ t := by
  have ha : ∀ t ∈ opTmps o, (upd ρ s v) t = ρ t := fun t ht => by
    have hne : ¬ t = s := fun e => hs (by rw [← e]; exact ht)
    unfold upd; rw [if_neg hne]
  have hp := pureOp_agree (P := P) ha
  have hx : ∀ x ∈ o.op.operands, ev (upd ρ s v) x = ev ρ x := fun x hx => ev_agree ha hx
  clear ha
  unfold evOp at h ⊢
  cases hop : o.op <;> simp only [hop] at h hx hp ⊢ <;> try exact h.elim
  case load T x =>
    rw [hx x (by simp [Op.operands])] at h
    split at h
    · rename_i b off hx hT
      (try simp only [hx, hT])
      split at h
      · rename_i hc; (try simp only [hc]); exact setD_frame' w0 hd h
      · exact h.elim
    · rename_i b off n hx hT
      (try simp only [hx, hT])
      split at h
      · rename_i hc; (try simp only [hc]); exact setD_frame' w0 hd h
      · exact h.elim
    · exact h.elim
  case store T x y =>
    rw [hx x (by simp [Op.operands]), hx y (by simp [Op.operands])] at h
    split at h
    · rename_i b off n hx hT hds
      (try simp only [hx, hT, hds])
      split at h
      · rename_i hf; (try simp only [hf]); exact ⟨h.1, h.2, fun _ _ => by first | rfl | trivial⟩
      · exact h.elim
    · exact h.elim
  case alloc T =>
    split at h
    · rename_i zs hz; (try simp only [hz]); exact fun b hb => setD_frame' w0 hd (h b hb)
    · exact h.elim
  case box T x =>
    rw [hx x (by simp [Op.operands])] at h
    exact fun b hb => setD_frame' w0 hd (h b hb)
  case buildSlice T len parts =>
    have e1 : (parts.toList.map (evP (upd ρ s v))) = parts.toList.map (evP ρ) := by
      apply List.map_congr_left
      intro p hpp
      rw [show ∀ r : Env, evP r p = (p.1, ev r p.2) from fun _ => rfl, show ∀ r : Env, evP r p = (p.1, ev r p.2) from fun _ => rfl, hx p.2 (by simp only [Op.operands, List.mem_toArray, List.mem_map]; exact ⟨p, hpp, rfl⟩)]
    rw [e1] at h
    exact bslQ_frame' hd h
  case makeSlice T l c =>
    rw [hx l (by simp [Op.operands]), hx c (by simp [Op.operands])] at h
    exact mksQ_frame' hd h
  case call c =>
    have hm : c.args.toList.map (ev (upd ρ s v)) = c.args.toList.map (ev ρ) := by
      apply List.map_congr_left
      intro x hxa
      exact hx x (by simp only [Op.operands, Call.operands, Array.mem_append]; exact .inr (by simpa using hxa))
    cases hc : c.callee <;> simp only [hc] at h ⊢ <;> try exact h.elim
    case value f =>
      rw [hx f (by simp [Op.operands, Call.operands, hc]), hm] at h
      split at h
      · rename_i n first captured hf
        (try simp only [hf])
        exact ACall.mono P W w0 h fun v M' hs => setD_frame' w0 hd hs
      · exact h.elim
    case builtin b =>
      have hg : ∀ (i : Nat) x, c.args[i]? = some x → ev (upd ρ s v) x = ev ρ x := fun i x hi => hx x (by
        simp only [Op.operands, Call.operands, Array.mem_append]; exact .inr (Array.mem_of_getElem? hi))
      cases b <;> simp only at h ⊢ <;> try exact h.elim
      case append =>
        split at h
        · rename_i x y T T' ha0 ht0
          have e0 : c.args[0]? = some x := by rw [← Array.getElem?_toList, ha0]; rfl
          have e1 : c.args[1]? = some y := by rw [← Array.getElem?_toList, ha0]; rfl
          rw [hg 0 x e0, hg 1 y e1] at h
          split at h
          · rename_i hz; (try simp only [hz]); exact ⟨h.1, appQ_frame' hd h.2⟩
          · rename_i hz; (try simp only [hz]); exact apzQ_frame' hd h
        · exact h.elim
      all_goals
        split at h
        · rename_i h0 h1 h2
          (try simp only [h0, h1, h2])
          first
            | rw [hg 0 _ h0, hg 1 _ h1] at h
            | rw [hg 0 _ h0] at h
          split at h
          · rename_i hl; (try simp only [hl]); exact ⟨h.1, setD_frame' w0 hd h.2⟩
          · exact h.elim
        · exact h.elim
  all_goals
    rw [hp] at h
    split at h
    · rename_i hq; (try simp only [hq]); exact ⟨h.1, setD_frame' w0 hd h.2⟩
    · rename_i hq; (try simp only [hq]); exact cvtQ_frame' hx hd h

/-- An operation that looks at no memory. -/
def Oper.pureB (o : Oper) : Bool :=
  match o.op with
  | .move _ | .assign _ | .pick .. | .binOp .. | .unOp .. | .convert .. | .nilCheck _ | .fieldAddr .. | .indexAddr .. | .index .. | .field .. | .extract .. | .makeFunc .. | .slice .. | .build .. => true
  | _ => false

theorem evV_pure {o : Oper} {R : Value → Prop} (hb : Oper.pureB o = true) (h : evV P W w0 o ρ M R) (ha : ∀ t ∈ opTmps o, ρ' t = ρ t) : evV P W w0 o ρ' M' R := by
  have hp := pureOp_agree (P := P) ha
  unfold Oper.pureB at hb
  unfold evV at h ⊢
  cases hop : o.op <;> simp only [hop, Bool.false_eq_true] at h hb hp ⊢
  all_goals
    rw [hp]
    exact h

/-! ### Every order -/

variable (P N W w0)

def anyE (ops : Array Oper) (K : Env → Blks → Prop) : Nat → Array Bool → Env → Blks → Prop
  | 0, listed, ρ, M => Region.ready .any ops listed = [] ∧ K ρ M
  | f + 1, listed, ρ, M => (Region.ready .any ops listed = [] → K ρ M) ∧
    ∀ i ∈ Region.ready .any ops listed, ∀ o, ops[i]? = some o → o.guard = none ∧ evOp P N W w0 o ρ M fun ρ' M' => anyE ops K f (listed.setIfInBounds i true) ρ' M'

variable {P N W w0}

theorem wpAny_of {ops : Array Oper} {K : Env → Blks → Prop} {Q : Exit → Act → World → Prop} (hK : ∀ ρ M a w, K ρ M → St N ρ a → Own W w0 M w → Q .normal a w) :
    ∀ (f : Nat) (listed : Array Bool) (ρ : Env) (M : Blks) (a : Act) (w : World), anyE P N W w0 ops K f listed ρ M → St N ρ a → Own W w0 M w → wpAny P .any ops Q f listed a w
  | 0, listed, ρ, M, a, w, h, ha, hw => ⟨h.1, hK ρ M a w h.2 ha hw⟩
  | f + 1, listed, ρ, M, a, w, h, ha, hw => by
    refine ⟨fun h0 => hK ρ M a w (h.1 h0) ha hw, fun i hi => ?_⟩
    unfold wpOp
    split
    · rename_i ho
      obtain ⟨_, o, ho', _⟩ := mem_ready.1 hi
      rw [ho'] at ho; cases ho
    · rename_i o ho
      obtain ⟨hg, he⟩ := h.2 i hi o ho
      rw [if_pos (by unfold Region.wanted; rw [hg])]
      exact .inl (evOp_goes P N W w0 he a w _ Q ha hw fun ρ' M' a' w' hk ha' hw' => wpAny_of hK f _ ρ' M' a' w' hk ha' hw')

/-- j comes behind i, by at most so many steps. -/
def waitsB (ops : Array Oper) : Nat → Nat → Nat → Bool
  | 0, _, _ => false
  | d + 1, j, i => match ops[j]? with
    | none => false
    | some o => o.after.any fun e => Region.binds .any e && (e.on == i || waitsB ops d e.on i)

def Closed (ops : Array Oper) (listed : Array Bool) : Prop := ∀ (j : Nat) (o : Oper), ops[j]? = some o → listed.getD j false = true → ∀ e ∈ o.after, Region.binds .any e = true → listed.getD e.on false = true

theorem waits_open {ops : Array Oper} {listed : Array Bool} (hc : Closed ops listed) {i : Nat} (hi : listed.getD i false = false) : ∀ (d j : Nat), waitsB ops d j i = true → listed.getD j false = false
  | 0, j, h => by simp [waitsB] at h
  | d + 1, j, h => by
    unfold waitsB at h
    split at h
    · cases h
    · rename_i o ho
      obtain ⟨e, he, hb⟩ := Array.any_eq_true'.1 h
      simp only [Bool.and_eq_true, Bool.or_eq_true, beq_iff_eq] at hb
      cases hl : listed.getD j false with
      | false => rfl
      | true =>
        have h1 := hc j o ho hl e he hb.1
        rcases hb.2 with h2 | h2
        · rw [h2, hi] at h1; cases h1
        · rw [waits_open hc hi d e.on h2] at h1; cases h1

theorem waits_not_ready {ops : Array Oper} {listed : Array Bool} (hc : Closed ops listed) {i j d : Nat} (hi : listed.getD i false = false) (h : waitsB ops d j i = true) : j ∉ Region.ready .any ops listed := by
  intro hr
  obtain ⟨_, o, ho, hall⟩ := mem_ready.1 hr
  cases d with
  | zero => simp [waitsB] at h
  | succ d =>
    unfold waitsB at h
    rw [ho] at h
    obtain ⟨e, he, hb⟩ := Array.any_eq_true'.1 h
    simp only [Bool.and_eq_true, Bool.or_eq_true, beq_iff_eq] at hb
    have h1 := hall e he hb.1
    rcases hb.2 with h2 | h2
    · rw [h2, hi] at h1; cases h1
    · rw [waits_open hc hi d e.on h2] at h1; cases h1

/-- Two operations neither of which looks at what the other lays. -/
def Oper.apartB (x y : Oper) : Bool :=
  match x.dst with
  | none => false
  | some s => !(opTmps y).contains s && y.dst != some s && (match y.dst with | none => true | some t => !(opTmps x).contains t)

/-- i may be taken first: every other that is still open comes behind it, or is mild and apart. -/
def freeB (ops : Array Oper) (listed : Array Bool) (i : Nat) (oi : Oper) : Bool :=
  (List.range ops.size).all fun j => listed.getD j true || j == i || waitsB ops 6 j i || match ops[j]? with | some oj => (Oper.mild oj || (Oper.pureB oi && oj.guard.isNone)) && Oper.apartB oi oj | none => true

theorem getD_tf {listed : Array Bool} {i : Nat} (h : listed.getD i true = false) : listed.getD i false = false := by
  rw [Array.getD_eq_getD_getElem?] at h ⊢
  cases hl : listed[i]? with
  | none => rw [hl] at h; cases h
  | some b => rw [hl] at h; exact h

theorem Closed.set {ops : Array Oper} {listed : Array Bool} (hc : Closed ops listed) {i : Nat} (hr : i ∈ Region.ready .any ops listed) : Closed ops (listed.setIfInBounds i true) := by
  intro j o ho hl e he hb
  by_cases hij : i = j
  · subst hij
    obtain ⟨_, o', ho', hall⟩ := mem_ready.1 hr
    rw [ho'] at ho; cases ho
    exact getD_set_true (hall e he hb)
  · rw [getD_set_ne false hij] at hl
    exact getD_set_true (hc j o ho hl e he hb)

theorem freeB_spec {ops : Array Oper} {listed : Array Bool} {i j : Nat} {oi oj : Oper} (h : freeB ops listed i oi = true) (hj : ops[j]? = some oj) (hne : j ≠ i) (hun : listed.getD j true = false) :
    waitsB ops 6 j i = true ∨ ((Oper.mild oj = true ∨ Oper.pureB oi = true) ∧ Oper.apartB oi oj = true) := by
  unfold freeB at h
  have hlt : j < ops.size := (Array.getElem?_eq_some_iff.1 hj).1
  have := List.all_eq_true.1 h j (List.mem_range.2 hlt)
  rw [hun, hj] at this
  simp only [Bool.false_or, Bool.or_eq_true, beq_iff_eq, Bool.and_eq_true] at this
  rcases this with (h1 | h1) | h1
  · exact absurd h1 hne
  · exact .inl h1
  · exact .inr ⟨h1.1.imp id (·.1), h1.2⟩

theorem freeB_set {ops : Array Oper} {listed : Array Bool} {i k : Nat} {oi : Oper} (h : freeB ops listed i oi = true) : freeB ops (listed.setIfInBounds k true) i oi = true := by
  unfold freeB at h ⊢
  refine List.all_eq_true.2 fun j hj => ?_
  have := List.all_eq_true.1 h j hj
  by_cases hkj : k = j
  · subst hkj
    have ht : (listed.setIfInBounds k true).getD k true = true := by
      rw [Array.getD_eq_getD_getElem?, Array.getElem?_setIfInBounds]
      rw [if_pos rfl]
      split <;> rfl
    rw [ht]; rfl
  · rw [getD_set_ne true hkj]; exact this

theorem anyE_take {ops : Array Oper} {K : Env → Blks → Prop} {i d : Nat} {oi : Oper} {v : Value} (hi : ops[i]? = some oi) (hd : oi.dst = some d) (hg : oi.guard = none) (hN : d < N) :
    ∀ (f : Nat) (listed : Array Bool) (ρ : Env) (M : Blks), Closed ops listed → freeB ops listed i oi = true → i ∈ Region.ready .any ops listed → evV P W w0 oi ρ M (· = v) →
      anyE P N W w0 ops K f (listed.setIfInBounds i true) (upd ρ d v) M → anyE P N W w0 ops K (f + 1) listed ρ M := by
  intro f
  induction f with
  | zero =>
    intro listed ρ M hc hf hr hv H
    refine ⟨fun h0 => (by rw [h0] at hr; cases hr), fun j hj o ho => ?_⟩
    by_cases hji : j = i
    · subst hji
      rw [hi] at ho; cases ho
      refine ⟨hg, evV_evOp (evV_mono hv ?_)⟩
      rw [hd]
      exact ⟨hN, H⟩
    · have := ready_mono hj hji
      rw [H.1] at this
      cases this
  | succ f ih =>
    intro listed ρ M hc hf hr hv H
    refine ⟨fun h0 => (by rw [h0] at hr; cases hr), fun j hj o ho => ?_⟩
    by_cases hji : j = i
    · subst hji
      rw [hi] at ho; cases ho
      refine ⟨hg, evV_evOp (evV_mono hv ?_)⟩
      rw [hd]
      exact ⟨hN, H⟩
    · obtain ⟨hgj, he⟩ := H.2 j (ready_mono hj hji) o ho
      have hun := (mem_ready.1 hj).1
      have hiun := getD_tf (mem_ready.1 hr).1
      rcases freeB_spec hf ho hji hun with hw | ⟨hm, hap⟩
      · exact absurd hj (waits_not_ready hc hiun hw)
      · unfold Oper.apartB at hap
        rw [hd] at hap
        simp only [Bool.and_eq_true, Bool.not_eq_true', bne_iff_ne, ne_eq] at hap
        obtain ⟨⟨h1, h2⟩, h3⟩ := hap
        have h1' : d ∉ opTmps o := fun hmem => by rw [List.contains_iff_mem.2 hmem] at h1; cases h1
        have hd3 : ∀ t ∈ opTmps oi, o.dst ≠ some t := fun t ht e => by
          rw [e] at h3
          simp only at h3
          rw [List.contains_iff_mem.2 ht] at h3
          cases h3
        refine ⟨hgj, ?_⟩
        rcases hm with hm | hm
        · refine evOp_mono (evOp_frame hm h1' h2 he) ?_
          rintro ρ' M' ⟨hH, hE, hag⟩
          rw [Array.setIfInBounds_comm _ _ (fun e => hji e.symm)] at hH
          exact ih _ ρ' M' (hc.set hj) (freeB_set hf) (ready_mono hr (fun e => hji e.symm)) (evV_move hv hE fun t ht => hag t (hd3 t ht)) hH
        · refine evOp_mono (evOp_frame' h1' h2 he) ?_
          rintro ρ' M' ⟨hH, hag⟩
          rw [Array.setIfInBounds_comm _ _ (fun e => hji e.symm)] at hH
          exact ih _ ρ' M' (hc.set hj) (freeB_set hf) (ready_mono hr (fun e => hji e.symm)) (evV_pure hm hv fun t ht => hag t (hd3 t ht)) hH

/-! ### Plans -/

inductive Plan
  | done
  | take (i : Nat) (p : Plan)
  | one (i : Nat) (p : Plan)
  | more (i : Nat) (p : Plan) (q : Plan)

def Plan.depth : Plan → Nat
  | .done => 0
  | .take _ p | .one _ p => p.depth + 1
  | .more _ p q => max (p.depth + 1) q.depth

def Plan.firsts : Plan → List Nat
  | .more i _ q => i :: q.firsts
  | .one i _ => [i]
  | _ => []

def Plan.ok (ops : Array Oper) : Plan → Bool → Array Bool → Bool
  | .done, c, l => c && Region.ready .any ops l == []
  | .take i p, c, l => c && (Region.ready .any ops l).contains i && (match ops[i]? with | some o => o.guard.isNone && o.dst.isSome && freeB ops l i o | none => false) && p.ok ops true (l.setIfInBounds i true)
  | .one i p, c, l => (!c || Region.ready .any ops l == [i]) && (match ops[i]? with | some o => o.guard.isNone | none => false) && p.ok ops true (l.setIfInBounds i true)
  | .more i p q, c, l => (!c || Region.ready .any ops l == i :: q.firsts) && (match ops[i]? with | some o => o.guard.isNone | none => false) && p.ok ops true (l.setIfInBounds i true) && q.ok ops false l

variable (P N W w0)

def evPlan (ops : Array Oper) : Plan → Env → Blks → (Env → Blks → Prop) → Prop
  | .done, ρ, M, K => K ρ M
  | .take i p, ρ, M, K => match ops[i]? with
    | some o => evV P W w0 o ρ M fun v => setD N ρ o.dst v fun ρ' => evPlan ops p ρ' M K
    | none => False
  | .one i p, ρ, M, K => match ops[i]? with
    | some o => evOp P N W w0 o ρ M fun ρ' M' => evPlan ops p ρ' M' K
    | none => False
  | .more i p q, ρ, M, K => match ops[i]? with
    | some o => (evOp P N W w0 o ρ M fun ρ' M' => evPlan ops p ρ' M' K) ∧ evPlan ops q ρ M K
    | none => False

variable {P N W w0}

theorem evPlan_any {ops : Array Oper} {K : Env → Blks → Prop} : ∀ (p : Plan) (f : Nat) (c : Bool) (l : Array Bool) (ρ : Env) (M : Blks), p.ok ops c l = true → p.depth ≤ f → Closed ops l → evPlan P N W w0 ops p ρ M K →
    (c = true → anyE P N W w0 ops K f l ρ M) ∧
    (∀ i ∈ p.firsts, i ∈ Region.ready .any ops l → ∀ o, ops[i]? = some o → o.guard = none ∧ ∃ g, f = g + 1 ∧ evOp P N W w0 o ρ M fun ρ' M' => anyE P N W w0 ops K g (l.setIfInBounds i true) ρ' M')
  | .done, f, c, l, ρ, M, hok, _, _, h => by
    simp only [Plan.ok, Bool.and_eq_true, beq_iff_eq] at hok
    refine ⟨fun _ => ?_, fun i hi => by simp [Plan.firsts] at hi⟩
    cases f with
    | zero => exact ⟨hok.2, h⟩
    | succ f => exact ⟨fun _ => h, fun i hi => by rw [hok.2] at hi; cases hi⟩
  | .take i p, f, c, l, ρ, M, hok, hd, hc, h => by
    simp only [Plan.ok, Bool.and_eq_true] at hok
    obtain ⟨⟨⟨_, h1⟩, h2⟩, h3⟩ := hok
    refine ⟨fun _ => ?_, fun i hi => by simp [Plan.firsts] at hi⟩
    simp only [evPlan] at h
    simp only [Plan.depth] at hd
    cases ho : ops[i]? with
    | none => rw [ho] at h; exact h.elim
    | some o =>
      rw [ho] at h h2
      simp only [Bool.and_eq_true, Option.isNone_iff_eq_none] at h2
      obtain ⟨⟨hg, hds⟩, hfr⟩ := h2
      obtain ⟨d, hds⟩ := Option.isSome_iff_exists.1 hds
      obtain ⟨f, rfl⟩ : ∃ g, f = g + 1 := ⟨f - 1, by omega⟩
      obtain ⟨v, hv, hs⟩ := evV_get h
      rw [hds] at hs
      have hr : i ∈ Region.ready .any ops l := List.contains_iff_mem.1 h1
      exact anyE_take ho hds hg hs.1 f l ρ M hc hfr hr hv ((evPlan_any p f true _ _ M h3 (by omega) (hc.set hr) hs.2).1 rfl)
  | .one i p, f, c, l, ρ, M, hok, hd, hc, h => by
    simp only [Plan.ok, Bool.and_eq_true] at hok
    obtain ⟨⟨h1, h2⟩, h3⟩ := hok
    simp only [evPlan] at h
    simp only [Plan.depth] at hd
    cases ho : ops[i]? with
    | none => rw [ho] at h; exact h.elim
    | some o =>
      rw [ho] at h h2
      simp only [Option.isNone_iff_eq_none] at h2
      obtain ⟨f, rfl⟩ : ∃ g, f = g + 1 := ⟨f - 1, by omega⟩
      have step : i ∈ Region.ready .any ops l → evOp P N W w0 o ρ M fun ρ' M' => anyE P N W w0 ops K f (l.setIfInBounds i true) ρ' M' := fun hr =>
        evOp_mono h fun ρ' M' hp => (evPlan_any p f true _ ρ' M' h3 (by omega) (hc.set hr) hp).1 rfl
      refine ⟨fun hct => ?_, fun j hj hjr oj hoj => ?_⟩
      · subst hct
        simp only [Bool.not_true, Bool.false_or, beq_iff_eq] at h1
        have hr : i ∈ Region.ready .any ops l := by rw [h1]; exact List.mem_singleton.2 rfl
        refine ⟨fun h0 => (by rw [h0] at h1; cases h1), fun j hj oj hoj => ?_⟩
        rw [h1] at hj
        have := List.mem_singleton.1 hj
        subst this
        rw [ho] at hoj; cases hoj
        exact ⟨h2, step hr⟩
      · have := List.mem_singleton.1 hj
        subst this
        rw [ho] at hoj; cases hoj
        exact ⟨h2, f, rfl, step hjr⟩
  | .more i p q, f, c, l, ρ, M, hok, hd, hc, h => by
    simp only [Plan.ok, Bool.and_eq_true] at hok
    obtain ⟨⟨⟨h1, h2⟩, h3⟩, h4⟩ := hok
    simp only [evPlan] at h
    simp only [Plan.depth] at hd
    cases ho : ops[i]? with
    | none => rw [ho] at h; exact h.elim
    | some o =>
      rw [ho] at h h2
      simp only [Option.isNone_iff_eq_none] at h2
      obtain ⟨f, rfl⟩ : ∃ g, f = g + 1 := ⟨f - 1, by omega⟩
      have hq := (evPlan_any q (f + 1) false l ρ M h4 (by omega) hc h.2).2
      have all : ∀ j ∈ i :: q.firsts, j ∈ Region.ready .any ops l → ∀ oj, ops[j]? = some oj → oj.guard = none ∧ ∃ g, f + 1 = g + 1 ∧ evOp P N W w0 oj ρ M fun ρ' M' => anyE P N W w0 ops K g (l.setIfInBounds j true) ρ' M' := by
        intro j hj hjr oj hoj
        rcases List.mem_cons.1 hj with rfl | hj
        · rw [ho] at hoj; cases hoj
          exact ⟨h2, f, rfl, evOp_mono h.1 fun ρ' M' hp => (evPlan_any p f true _ ρ' M' h3 (by omega) (hc.set hjr) hp).1 rfl⟩
        · exact hq j hj hjr oj hoj
      refine ⟨fun hct => ?_, all⟩
      subst hct
      simp only [Bool.not_true, Bool.false_or, beq_iff_eq] at h1
      refine ⟨fun h0 => (by rw [h0] at h1; cases h1), fun j hj oj hoj => ?_⟩
      obtain ⟨hg, g, hfg, he⟩ := all j (by rw [← h1]; exact hj) hj oj hoj
      obtain rfl : g = f := by omega
      exact ⟨hg, he⟩

/-- A call in a plan, and what is asked behind it, closed to the walk's own reckoning. -/
def callP (P : Program) (N : Nat) (W : List Nat) (w0 : World) (f : Value) (args : List Value) (M : Blks) (d : Option Tmp) (ρ : Env) (ops : Array Oper) (p : Plan) (K : Env → Blks → Prop) : Prop :=
  match f with
  | .func (.func n) first captured => QAsk P W w0 n (first.toList ++ (args ++ captured.toList)).toArray M fun v => setD N ρ d v fun ρ' => evPlan P N W w0 ops p ρ' M K
  | _ => False

theorem evV_call {f : Operand} {args : Array Operand} {ts : Array TypeId} {d d' : Option Tmp} {T : TypeId} {pos : String} {aft : Array Edge} {g : Option (Nat × Bool)} {ops : Array Oper} {p : Plan} {K : Env → Blks → Prop} :
    evV P W w0 ⟨d, .call ⟨.value f, args, ts⟩, T, pos, aft, g⟩ ρ M (fun v => setD N ρ d' v fun ρ' => evPlan P N W w0 ops p ρ' M K) = callP P N W w0 (ev ρ f) (args.toList.map (ev ρ)) M d' ρ ops p K := by
  unfold evV callP
  rfl

theorem callP_gives {n : FuncId} {args : List Value} {v : Value} {d : Option Tmp} {ops : Array Oper} {p : Plan} {K : Env → Blks → Prop} (h : Gives P n args.toArray v)
    (hk : setD N ρ d v fun ρ' => evPlan P N W w0 ops p ρ' M K) : callP P N W w0 (.func (.func n) #[] #[]) args M d ρ ops p K := by
  unfold callP
  simp only [List.append_nil, List.nil_append]
  exact h.ask hk

theorem callP_of {n : FuncId} {args : List Value} {fs cs : Array Value} {v : Value} {d : Option Tmp} {ops : Array Oper} {p : Plan} {K : Env → Blks → Prop} (h : ∀ M', Ext w0 M M' → QCall P W w0 n (fs.toList ++ (args ++ cs.toList)).toArray M' v)
    (hk : setD N ρ d v fun ρ' => evPlan P N W w0 ops p ρ' M K) : callP P N W w0 (.func (.func n) fs cs) args M d ρ ops p K := ⟨v, h, hk⟩

theorem closed_start (ops : Array Oper) (n : Nat) : Closed ops (Array.replicate n false) := by
  intro j o _ hl
  rw [Array.getD_eq_getD_getElem?, Array.getElem?_replicate] at hl
  split at hl <;> cases hl

theorem Cd.plan {Q : Exit → Env → Blks → Prop} {id : Nat} {l : List Oper} (p : Plan) (hm : P.follows .mixedOrders = true) (hok : p.ok l.toArray true (Array.replicate l.length false) = true) (hd : p.depth ≤ l.length)
    (h : evPlan P N W w0 l.toArray p ρ M (Q .normal)) : Cd P N W w0 (.region id l.toArray true) Q ρ M := fun a w ha hw =>
  wp_region_any hm (wpAny_of (K := Q .normal) (fun ρ' M' a' w' h1 h2 h3 => ⟨ρ', M', h1, h2, h3⟩) _ _ ρ M a _ ((evPlan_any p _ true _ ρ M (by simpa using hok) (by simpa using hd) (closed_start _ _) h).1 rfl) ha hw.drew)

theorem Cd.ps {Q : Exit → Env → Blks → Prop} {id : Nat} {l : List Oper} {y : Code} (S : List Nat) (p : Plan) (hm : P.follows .mixedOrders = true) (hok : p.ok l.toArray true (Array.replicate l.length false) = true) (hd : p.depth ≤ l.length)
    (h : ∀ K : Env → Blks → Prop, (∀ ρ M, Cd P N W w0 y Q ρ M → K ρ M) → evPlan P N W w0 l.toArray p ρ M (keepK S K)) : Cd P N W w0 (.seq (.region id l.toArray true) y) Q ρ M :=
  Cd.seq (Cd.mono (Cd.plan (Q := fun e ρ M => match e with | .normal => keepK S (fun ρ M => Cd P N W w0 y Q ρ M) ρ M | _ => False) p hm hok hd (h _ fun _ _ h => h)) fun e ρ M hq => by
    cases e <;> first | exact keepK_of hq | exact hq.elim)

theorem Cd.pr {Q : Exit → Env → Blks → Prop} {id : Nat} {l : List Oper} (S : List Nat) (p : Plan) (hm : P.follows .mixedOrders = true) (hok : p.ok l.toArray true (Array.replicate l.length false) = true) (hd : p.depth ≤ l.length)
    (h : ∀ K : Env → Blks → Prop, (∀ ρ M, Q .normal ρ M → K ρ M) → evPlan P N W w0 l.toArray p ρ M (keepK S K)) : Cd P N W w0 (.region id l.toArray true) Q ρ M :=
  Cd.mono (Cd.plan (Q := fun e ρ M => match e with | .normal => keepK S (fun ρ M => Q .normal ρ M) ρ M | _ => False) p hm hok hd (h _ fun _ _ h => h)) fun e ρ M hq => by
    cases e <;> first | exact keepK_of (K := fun ρ M => Q .normal ρ M) hq | exact hq.elim

end
end Go.W8
