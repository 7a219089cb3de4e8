/-
  Operations with guards, a group at a time; pieces of code with a condition between them. Nothing here is about one program. Conditions: none.
-/
import Derived.Test.YtdfddcfgagfdoaaL9
namespace Go.W8
set_option linter.unusedSectionVars false
set_option linter.unusedVariables false
set_option linter.unusedSimpArgs false

section
variable {P : Program} {N : Nat} {W : List Nat} {w0 : World} {Q : Exit → Env → Blks → Prop} {ρ ρ' : Env} {M M' : Blks}

/-- A list of operations whose first one has a guard, closed to the walk's own reckoning. -/
def guardX (P : Program) (N : Nat) (W : List Nat) (w0 : World) (ops : Array Oper) (l : List Oper) (ρ : Env) (M : Blks) (K : Env → Blks → Prop) : Prop := evOps P N W w0 ops l ρ M K
def guardY (P : Program) (N : Nat) (W : List Nat) (w0 : World) (ops : Array Oper) (l : List Oper) (ρ : Env) (M : Blks) (K : Env → Prop) : Prop := evQs P N W w0 ops l ρ M K

theorem evOps_guard {ops : Array Oper} {d : Option Tmp} {op : Op} {T : TypeId} {pos : String} {aft : Array Edge} {g : Nat × Bool} {rest : List Oper} {K : Env → Blks → Prop} :
    evOps P N W w0 ops (⟨d, op, T, pos, aft, some g⟩ :: rest) ρ M K = guardX P N W w0 ops (⟨d, op, T, pos, aft, some g⟩ :: rest) ρ M K := rfl
theorem evQs_guard {ops : Array Oper} {d : Option Tmp} {op : Op} {T : TypeId} {pos : String} {aft : Array Edge} {g : Nat × Bool} {rest : List Oper} {K : Env → Prop} :
    evQs P N W w0 ops (⟨d, op, T, pos, aft, some g⟩ :: rest) ρ M K = guardY P N W w0 ops (⟨d, op, T, pos, aft, some g⟩ :: rest) ρ M K := rfl

def bare (o : Oper) : Oper := ⟨o.dst, o.op, o.type, o.pos, o.after, none⟩

/-- The same without the guard j. -/
def bareJ (j : Nat) (o : Oper) : Oper :=
  match o.guard with
  | some (i, _) => if i = j then bare o else o
  | none => o

/-- Each of these has this guard, or one that is laid by one of these, and lays nothing but temporaries of S; U: those that are laid so far. -/
def grpN (ops : Array Oper) (j : Nat) (want : Bool) (S : List Nat) (n : Nat) : List Nat → List Oper → Bool
  | _, [] => true
  | U, o :: l => (match o.guard with | some (i, w) => (i == j && w == want) || (i != j && (match (ops[i]?).bind (·.dst) with | some d' => U.contains d' | none => false)) | none => false) &&
      match o.dst with | some t => S.contains t && decide (t < n) && grpN ops j want S n (t :: U) l | none => grpN ops j want S n U l
def grpB (ops : Array Oper) (j : Nat) (want : Bool) (S : List Nat) (n d : Nat) (l : List Oper) : Bool := !S.contains d && grpN ops j want S n [] l

theorem exists_out (l : List Nat) : ∃ s, s ∉ l := by
  refine ⟨l.foldr max 0 + 1, fun h => ?_⟩
  have key : ∀ (l : List Nat) (s : Nat), s ∈ l → s ≤ l.foldr max 0 := by
    intro l
    induction l with
    | nil => intro s h; cases h
    | cons a l ih =>
      intro s h
      rcases List.mem_cons.1 h with rfl | h
      · exact Nat.le_max_left _ _
      · exact Nat.le_trans (ih s h) (Nat.le_max_right _ _)
  have := key l _ h
  omega

theorem upd_self (ρ : Env) (s : Nat) : upd ρ s (ρ s) = ρ := by
  funext t
  unfold upd
  split
  · rename_i e; rw [e]
  · rfl

theorem evOp_bare {o : Oper} {K : Env → Blks → Prop} : evOp P N W w0 (bare o) ρ M K = evOp P N W w0 o ρ M K := rfl
theorem evQ_bare {o : Oper} {K : Env → Prop} : evQ P N W w0 (bare o) ρ M K = evQ P N W w0 o ρ M K := rfl

theorem evOp_only {o : Oper} {K : Env → Blks → Prop} (h : evOp P N W w0 o ρ M K) : evOp P N W w0 o ρ M fun ρ' M' => K ρ' M' ∧ ∀ t, o.dst ≠ some t → ρ' t = ρ t := by
  obtain ⟨s, hs⟩ := exists_out (opTmps o ++ o.dst.toList)
  have h1 : s ∉ opTmps o := fun hm => hs (List.mem_append_left _ hm)
  have h2 : o.dst ≠ some s := fun e => hs (List.mem_append_right _ (by rw [e]; exact List.mem_singleton.2 rfl))
  have h3 : evOp P N W w0 o (upd ρ s (ρ s)) M K := by rw [upd_self]; exact h
  refine evOp_mono (evOp_frame' h1 h2 h3) ?_
  rintro ρ' M' ⟨hk, hf⟩
  have : upd ρ' s (ρ s) = ρ' := by rw [← hf s h2, upd_self]
  rw [this] at hk
  exact ⟨hk, hf⟩

theorem evQ_only {o : Oper} {K : Env → Prop} (h : evQ P N W w0 o ρ M K) : evQ P N W w0 o ρ M fun ρ' => K ρ' ∧ ∀ t, o.dst ≠ some t → ρ' t = ρ t := by
  unfold evQ at h ⊢
  obtain ⟨v, hv, hk⟩ := evV_get h
  refine evV_mono hv ?_
  cases hd : o.dst with
  | none => rw [hd] at hk; exact ⟨hk, fun _ _ => rfl⟩
  | some t =>
    rw [hd] at hk
    refine ⟨hk.1, hk.2, fun s hs => ?_⟩
    unfold upd
    rw [if_neg fun e => hs (by rw [e])]

theorem grpB_d {ops : Array Oper} {j n d : Nat} {want : Bool} {S : List Nat} {l : List Oper} (h : grpB ops j want S n d l = true) : d ∉ S ∧ grpN ops j want S n [] l = true := by
  unfold grpB at h
  simp only [Bool.and_eq_true, Bool.not_eq_true'] at h
  exact ⟨fun hm => (by rw [List.contains_iff_mem.2 hm] at h; cases h.1), h.2⟩

theorem grpN_cons {ops : Array Oper} {j n : Nat} {want : Bool} {S U : List Nat} {o : Oper} {l : List Oper} (h : grpN ops j want S n U (o :: l) = true) :
    (∃ i w, o.guard = some (i, w) ∧ ((i = j ∧ w = want) ∨ (i ≠ j ∧ ∃ d', (ops[i]?).bind (·.dst) = some d' ∧ d' ∈ U))) ∧ (∀ t, o.dst = some t → t ∈ S ∧ t < n ∧ grpN ops j want S n (t :: U) l = true) ∧ (o.dst = none → grpN ops j want S n U l = true) := by
  unfold grpN at h
  simp only [Bool.and_eq_true] at h
  obtain ⟨h1, h2⟩ := h
  refine ⟨?_, fun t ht => ?_, fun ht => ?_⟩
  · split at h1
    · rename_i i w hg
      refine ⟨i, w, hg, ?_⟩
      simp only [Bool.or_eq_true, Bool.and_eq_true, beq_iff_eq, bne_iff_ne, ne_eq] at h1
      rcases h1 with h1 | ⟨h1, h3⟩
      · exact .inl h1
      · split at h3
        · rename_i d' hd'; exact .inr ⟨h1, d', hd', List.contains_iff_mem.1 h3⟩
        · cases h3
    · cases h1
  · rw [ht] at h2
    simp only [Bool.and_eq_true, decide_eq_true_eq] at h2
    exact ⟨List.contains_iff_mem.1 h2.1.1, h2.1.2, h2.2⟩
  · rw [ht] at h2; exact h2

theorem evOps_mono {ops : Array Oper} : ∀ (l : List Oper) (ρ : Env) (M : Blks) {K K' : Env → Blks → Prop}, evOps P N W w0 ops l ρ M K → (∀ ρ' M', K ρ' M' → K' ρ' M') → evOps P N W w0 ops l ρ M K'
  | [], ρ, M, _, _, h, hK => hK ρ M h
  | o :: l, ρ, M, K, K', h, hK => by
    unfold evOps at h ⊢
    split
    · rename_i hg
      rw [hg] at h
      exact evOp_mono h fun ρ' M' h' => evOps_mono l ρ' M' h' hK
    · rename_i j want hg
      rw [hg] at h
      simp only at h
      split
      · rename_i hd; rw [hd] at h; exact h
      · rename_i d hd
        rw [hd] at h
        simp only at h
        split
        · rename_i hn
          rw [hn] at h
          exact setD_mono h fun ρ' h' => evOps_mono l ρ' M h' hK
        · rename_i b hb
          rw [hb] at h
          exact ⟨fun e => evOp_mono (h.1 e) fun ρ' M' h' => evOps_mono l ρ' M' h' hK, fun e => setD_mono (h.2 e) fun ρ' h' => evOps_mono l ρ' M h' hK⟩

theorem setD_only {d : Option Tmp} {v : Value} {K : Env → Prop} (h : setD N ρ d v K) : setD N ρ d v fun ρ' => K ρ' ∧ ∀ t, d ≠ some t → ρ' t = ρ t := by
  cases d with
  | none => exact ⟨h, fun _ _ => rfl⟩
  | some s =>
    refine ⟨h.1, h.2, fun t ht => ?_⟩
    unfold upd
    rw [if_neg fun e => ht (by rw [e])]

/-- One operation, and another list behind it. -/
theorem evOps_step {ops : Array Oper} {o : Oper} {l l' : List Oper} {K K' : Env → Blks → Prop} (h : evOps P N W w0 ops (o :: l) ρ M K)
    (hl : ∀ ρ1 M1, (∀ t, o.dst ≠ some t → ρ1 t = ρ t) → evOps P N W w0 ops l ρ1 M1 K → evOps P N W w0 ops l' ρ1 M1 K') : evOps P N W w0 ops (o :: l') ρ M K' := by
  unfold evOps at h ⊢
  split
  · rename_i hg
    rw [hg] at h
    exact evOp_mono (evOp_only h) fun ρ1 M1 hh => hl ρ1 M1 hh.2 hh.1
  · rename_i j want hg
    rw [hg] at h
    simp only at h
    split
    · rename_i hd; rw [hd] at h; exact h
    · rename_i d hd
      rw [hd] at h
      simp only at h
      split
      · rename_i hn
        rw [hn] at h
        exact setD_mono (setD_only h) fun ρ1 hh => hl ρ1 M hh.2 hh.1
      · rename_i b hb
        rw [hb] at h
        refine ⟨fun e => ?_, fun e => ?_⟩
        · have h1 := h.1 e
          subst e
          rw [upd_gate hb] at h1 ⊢
          exact evOp_mono (evOp_only h1) fun ρ1 M1 hh => hl ρ1 M1 hh.2 hh.1
        · have h1 := h.2 e
          rw [← e, upd_gate hb] at h1 ⊢
          exact setD_mono (setD_only h1) fun ρ1 hh => hl ρ1 M hh.2 hh.1

theorem group_go {ops : Array Oper} {j d : Nat} {want : Bool} {S : List Nat} {rest : List Oper} {K : Env → Blks → Prop} (hd : (ops[j]?).bind (·.dst) = some d) (hdS : d ∉ S) :
    ∀ (G : List Oper) (U : List Nat) (ρ : Env) (M : Blks), grpN ops j want S N U G = true → ρ d = .bool want →
      evOps P N W w0 ops (G.map (bareJ j)) ρ M (fun ρ' M' => (∀ t, t ∉ S → ρ' t = ρ t) → evOps P N W w0 ops rest ρ' M' K) → evOps P N W w0 ops (G ++ rest) ρ M K
  | [], _, ρ, M, _, _, h => h fun _ _ => rfl
  | o :: G, U, ρ, M, hg, hb, h => by
    obtain ⟨⟨i, w, h2, hcase⟩, h3, h4⟩ := grpN_cons hg
    have hU : ∃ U', grpN ops j want S N U' G = true := by
      cases ht : o.dst with
      | none => exact ⟨U, h4 ht⟩
      | some t => exact ⟨_, (h3 t ht).2.2⟩
    obtain ⟨U', hU⟩ := hU
    have next : ∀ ρ1 M1, (∀ t, o.dst ≠ some t → ρ1 t = ρ t) → evOps P N W w0 ops (G.map (bareJ j)) ρ1 M1 (fun ρ' M' => (∀ t, t ∉ S → ρ' t = ρ t) → evOps P N W w0 ops rest ρ' M' K) → evOps P N W w0 ops (G ++ rest) ρ1 M1 K := by
      intro ρ1 M1 hf hk
      have hd1 : ρ1 d = .bool want := by rw [hf d (fun e => hdS (h3 d e).1), hb]
      refine group_go hd hdS G U' ρ1 M1 hU hd1 (evOps_mono _ _ _ hk fun ρ' M' hh hag => hh fun t ht => ?_)
      rw [hag t ht, hf t fun e => ht (h3 t e).1]
    show evOps P N W w0 ops (o :: (G ++ rest)) ρ M K
    rcases hcase with ⟨rfl, rfl⟩ | ⟨hij, _⟩
    · have e : bareJ i o = bare o := by unfold bareJ; rw [h2]; simp
      rw [List.map_cons, e] at h
      have h : evOp P N W w0 o ρ M (fun ρ1 M1 => evOps P N W w0 ops (G.map (bareJ i)) ρ1 M1 (fun ρ' M' => (∀ t, t ∉ S → ρ' t = ρ t) → evOps P N W w0 ops rest ρ' M' K)) := h
      unfold evOps
      rw [h2]
      simp only [hd, hb, gate]
      refine ⟨fun _ => ?_, fun hn => by cases w <;> cases hn⟩
      rw [show upd ρ d (.bool w) = ρ from by rw [← hb, upd_self]]
      exact evOp_mono (evOp_only h) fun ρ1 M1 hh => next ρ1 M1 hh.2 hh.1
    · have e : bareJ j o = o := by unfold bareJ; rw [h2]; simp [hij]
      rw [List.map_cons, e] at h
      exact evOps_step h next

theorem group_skip {ops : Array Oper} {j d : Nat} {want : Bool} {S : List Nat} {rest : List Oper} {K : Env → Blks → Prop} (hd : (ops[j]?).bind (·.dst) = some d) (hdS : d ∉ S) :
    ∀ (G : List Oper) (U : List Nat) (ρ : Env), grpN ops j want S N U G = true → ρ d = .bool (!want) → (∀ t ∈ U, ρ t = undef) →
      (∀ ρ', (∀ t, t ∉ S → ρ' t = ρ t) → evOps P N W w0 ops rest ρ' M K) → evOps P N W w0 ops (G ++ rest) ρ M K
  | [], _, ρ, _, _, _, h => h ρ fun _ _ => rfl
  | o :: G, U, ρ, hg, hb, hU, h => by
    obtain ⟨⟨i, w, h2, hcase⟩, h3, h4⟩ := grpN_cons hg
    have sk : setD N ρ o.dst undef fun ρ' => evOps P N W w0 ops (G ++ rest) ρ' M K := by
      cases ht : o.dst with
      | none => exact group_skip hd hdS G U ρ (h4 ht) hb hU h
      | some t =>
        obtain ⟨h5, h6, h7⟩ := h3 t ht
        have hne : ¬ d = t := fun e => hdS (by rw [e]; exact h5)
        refine ⟨h6, group_skip hd hdS G _ _ h7 (by unfold upd; rw [if_neg hne]; exact hb) (fun s hs => ?_) fun ρ' hag => h ρ' fun s hs => ?_⟩
        · unfold upd
          split
          · rfl
          · rename_i hst
            rcases List.mem_cons.1 hs with hs | hs
            · exact absurd hs hst
            · exact hU s hs
        · rw [hag s hs]
          unfold upd
          rw [if_neg fun e => hs (by rw [e]; exact h5)]
    show evOps P N W w0 ops (o :: (G ++ rest)) ρ M K
    unfold evOps
    rw [h2]
    rcases hcase with ⟨rfl, rfl⟩ | ⟨hij, d', hd', hm⟩
    · simp only [hd, hb, gate]
      refine ⟨fun hn => (by cases w <;> cases hn), fun _ => ?_⟩
      rw [show upd ρ d (.bool !w) = ρ from by rw [← hb, upd_self]]
      exact sk
    · simp only [hd', hU d' hm]
      exact sk

theorem hav_of {S : List Nat} (h : ∀ t, t ∉ S → ρ' t = ρ t) : hav S ρ' ρ = ρ' := by
  funext t
  unfold hav
  split
  · rfl
  · rename_i ht; exact (h t ht).symm

/-- A group of operations with one guard: what is asked of it where it is done, and what then is asked. -/
theorem guardX_go (k : Nat) (S : List Nat) {ops : Array Oper} {l : List Oper} {j d : Nat} {want b : Bool} {K : Env → Blks → Prop} (R : Env → Prop) (hd : (ops[j]?).bind (·.dst) = some d) (hg : grpB ops j want S N d (l.take k) = true) (hb : ρ d = .bool b)
    (h1 : b = want → evOps P N W w0 ops ((l.take k).map (bareJ j)) ρ M fun ρ' M' => M' = M ∧ R ρ') (h2 : ∀ g, (b = want → R (hav S g ρ)) → evOps P N W w0 ops (l.drop k) (hav S g ρ) M K) : guardX P N W w0 ops l ρ M K := by
  unfold guardX
  rw [← List.take_append_drop k l]
  obtain ⟨hdS, hg⟩ := grpB_d hg
  by_cases hw : b = want
  · refine group_go hd hdS (l.take k) [] ρ M hg (by rw [hb, hw]) (evOps_mono _ _ _ (h1 hw) ?_)
    rintro ρ' M' ⟨rfl, hR⟩ hag
    have := h2 ρ' fun _ => by rw [hav_of hag]; exact hR
    rwa [hav_of hag] at this
  · have hn : b = !want := by cases b <;> cases want <;> simp_all
    refine group_skip hd hdS (l.take k) [] ρ hg (by rw [hb, hn]) (fun _ ht => nomatch ht) fun ρ' hag => ?_
    have := h2 ρ' fun e => absurd e hw
    rwa [hav_of hag] at this

theorem cons_none {o : Oper} {ops : Array Oper} {l : List Oper} {K : Env → Blks → Prop} (hg : o.guard = none) (h : evOp P N W w0 o ρ M fun ρ' M' => evOps P N W w0 ops l ρ' M' K) : evOps P N W w0 ops (o :: l) ρ M K := by
  unfold evOps
  rw [hg]
  exact h

/-- a || b -/
theorem guardX_or (k : Nat) (S : List Nat) {ops : Array Oper} {l rest : List Oper} {j d tp tl : Nat} {b x : Bool} {K : Env → Blks → Prop} {T : TypeId} {pos : String} {aft : Array Edge} (hd : (ops[j]?).bind (·.dst) = some d) (hg : grpB ops j false S N d (l.take k) = true)
    (hr : l.drop k = ⟨some tp, .pick (.tmp d) (.const (.bool true)) (.tmp tl), T, pos, aft, none⟩ :: rest) (hn : (decide (tp < N) && S.contains tl) = true) (hb : ρ d = .bool b)
    (h1 : b = false → evOps P N W w0 ops ((l.take k).map (bareJ j)) ρ M fun ρ' M' => M' = M ∧ ρ' tl = .bool x) (h2 : ∀ g, evOps P N W w0 ops rest (upd (hav S g ρ) tp (.bool (b || x))) M K) : guardX P N W w0 ops l ρ M K := by
  simp only [Bool.and_eq_true, decide_eq_true_eq] at hn
  refine guardX_go k S (fun ρ' => ρ' tl = .bool x) hd hg hb h1 fun g hR => ?_
  rw [hr]
  have hdS : (hav S g ρ) d = .bool b := by
    unfold hav
    rw [if_neg (grpB_d hg).1, hb]
  refine cons_none rfl ?_
  unfold evOp pureOp
  simp only [ev, hdS, setD]
  refine ⟨trivial, hn.1, ?_⟩
  cases hb0 : b with
  | true => have := h2 g; rw [hb0] at this; exact this
  | false =>
    have := h2 g
    rw [hb0] at this
    simp only [cond_false, Bool.false_or] at this ⊢
    rw [hR hb0]
    exact this

/-- a && b -/
theorem guardX_and (k : Nat) (S : List Nat) {ops : Array Oper} {l rest : List Oper} {j d tp tl : Nat} {b x : Bool} {K : Env → Blks → Prop} {T : TypeId} {pos : String} {aft : Array Edge} (hd : (ops[j]?).bind (·.dst) = some d) (hg : grpB ops j true S N d (l.take k) = true)
    (hr : l.drop k = ⟨some tp, .pick (.tmp d) (.tmp tl) (.const (.bool false)), T, pos, aft, none⟩ :: rest) (hn : (decide (tp < N) && S.contains tl) = true) (hb : ρ d = .bool b)
    (h1 : b = true → evOps P N W w0 ops ((l.take k).map (bareJ j)) ρ M fun ρ' M' => M' = M ∧ ρ' tl = .bool x) (h2 : ∀ g, evOps P N W w0 ops rest (upd (hav S g ρ) tp (.bool (b && x))) M K) : guardX P N W w0 ops l ρ M K := by
  simp only [Bool.and_eq_true, decide_eq_true_eq] at hn
  refine guardX_go k S (fun ρ' => ρ' tl = .bool x) hd hg hb h1 fun g hR => ?_
  rw [hr]
  have hdS : (hav S g ρ) d = .bool b := by
    unfold hav
    rw [if_neg (grpB_d hg).1, hb]
  refine cons_none rfl ?_
  unfold evOp pureOp
  simp only [ev, hdS, setD]
  refine ⟨trivial, hn.1, ?_⟩
  cases hb0 : b with
  | false => have := h2 g; rw [hb0] at this; exact this
  | true =>
    have := h2 g
    rw [hb0] at this
    simp only [cond_true, Bool.true_and] at this ⊢
    rw [hR hb0]
    exact this

/-! ### The same for regions that draw and only read -/

theorem evQ_mono {o : Oper} {K K' : Env → Prop} (h : evQ P N W w0 o ρ M K) (hK : ∀ ρ', K ρ' → K' ρ') : evQ P N W w0 o ρ M K' := by
  unfold evQ at h ⊢
  obtain ⟨v, hv, hk⟩ := evV_get h
  exact evV_mono hv (setD_mono hk hK)

theorem evQs_mono {ops : Array Oper} : ∀ (l : List Oper) (ρ : Env) {K K' : Env → Prop}, evQs P N W w0 ops l ρ M K → (∀ ρ', K ρ' → K' ρ') → evQs P N W w0 ops l ρ M K'
  | [], ρ, _, _, h, hK => hK ρ h
  | o :: l, ρ, K, K', h, hK => by
    unfold evQs at h ⊢
    split
    · rename_i hg
      rw [hg] at h
      exact evQ_mono h fun ρ' h' => evQs_mono l ρ' h' hK
    · rename_i j want hg
      rw [hg] at h
      simp only at h
      split
      · rename_i hd; rw [hd] at h; exact h
      · rename_i d hd
        rw [hd] at h
        simp only at h
        split
        · rename_i hn
          rw [hn] at h
          exact setD_mono h fun ρ' h' => evQs_mono l ρ' h' hK
        · rename_i b hb
          rw [hb] at h
          exact ⟨fun e => evQ_mono (h.1 e) fun ρ' h' => evQs_mono l ρ' h' hK, fun e => setD_mono (h.2 e) fun ρ' h' => evQs_mono l ρ' h' hK⟩

theorem evQs_step {ops : Array Oper} {o : Oper} {l l' : List Oper} {K K' : Env → Prop} (h : evQs P N W w0 ops (o :: l) ρ M K)
    (hl : ∀ ρ1, (∀ t, o.dst ≠ some t → ρ1 t = ρ t) → evQs P N W w0 ops l ρ1 M K → evQs P N W w0 ops l' ρ1 M K') : evQs P N W w0 ops (o :: l') ρ M K' := by
  unfold evQs at h ⊢
  split
  · rename_i hg
    rw [hg] at h
    exact evQ_mono (evQ_only h) fun ρ1 hh => hl ρ1 hh.2 hh.1
  · rename_i j want hg
    rw [hg] at h
    simp only at h
    split
    · rename_i hd; rw [hd] at h; exact h
    · rename_i d hd
      rw [hd] at h
      simp only at h
      split
      · rename_i hn
        rw [hn] at h
        exact setD_mono (setD_only h) fun ρ1 hh => hl ρ1 hh.2 hh.1
      · rename_i b hb
        rw [hb] at h
        refine ⟨fun e => ?_, fun e => ?_⟩
        · have h1 := h.1 e
          subst e
          rw [upd_gate hb] at h1 ⊢
          exact evQ_mono (evQ_only h1) fun ρ1 hh => hl ρ1 hh.2 hh.1
        · have h1 := h.2 e
          rw [← e, upd_gate hb] at h1 ⊢
          exact setD_mono (setD_only h1) fun ρ1 hh => hl ρ1 hh.2 hh.1

theorem qgroup_go {ops : Array Oper} {j d : Nat} {want : Bool} {S : List Nat} {rest : List Oper} {K : Env → Prop} (hd : (ops[j]?).bind (·.dst) = some d) (hdS : d ∉ S) :
    ∀ (G : List Oper) (U : List Nat) (ρ : Env), grpN ops j want S N U G = true → ρ d = .bool want →
      evQs P N W w0 ops (G.map (bareJ j)) ρ M (fun ρ' => (∀ t, t ∉ S → ρ' t = ρ t) → evQs P N W w0 ops rest ρ' M K) → evQs P N W w0 ops (G ++ rest) ρ M K
  | [], _, ρ, _, _, h => h fun _ _ => rfl
  | o :: G, U, ρ, hg, hb, h => by
    obtain ⟨⟨i, w, h2, hcase⟩, h3, h4⟩ := grpN_cons hg
    have hU : ∃ U', grpN ops j want S N U' G = true := by
      cases ht : o.dst with
      | none => exact ⟨U, h4 ht⟩
      | some t => exact ⟨_, (h3 t ht).2.2⟩
    obtain ⟨U', hU⟩ := hU
    have next : ∀ ρ1, (∀ t, o.dst ≠ some t → ρ1 t = ρ t) → evQs P N W w0 ops (G.map (bareJ j)) ρ1 M (fun ρ' => (∀ t, t ∉ S → ρ' t = ρ t) → evQs P N W w0 ops rest ρ' M K) → evQs P N W w0 ops (G ++ rest) ρ1 M K := by
      intro ρ1 hf hk
      have hd1 : ρ1 d = .bool want := by rw [hf d (fun e => hdS (h3 d e).1), hb]
      refine qgroup_go hd hdS G U' ρ1 hU hd1 (evQs_mono _ _ hk fun ρ' hh hag => hh fun t ht => ?_)
      rw [hag t ht, hf t fun e => ht (h3 t e).1]
    show evQs P N W w0 ops (o :: (G ++ rest)) ρ M K
    rcases hcase with ⟨rfl, rfl⟩ | ⟨hij, _⟩
    · have e : bareJ i o = bare o := by unfold bareJ; rw [h2]; simp
      rw [List.map_cons, e] at h
      have h : evQ P N W w0 o ρ M (fun ρ1 => evQs P N W w0 ops (G.map (bareJ i)) ρ1 M (fun ρ' => (∀ t, t ∉ S → ρ' t = ρ t) → evQs P N W w0 ops rest ρ' M K)) := h
      unfold evQs
      rw [h2]
      simp only [hd, hb, gate]
      refine ⟨fun _ => ?_, fun hn => by cases w <;> cases hn⟩
      rw [show upd ρ d (.bool w) = ρ from by rw [← hb, upd_self]]
      exact evQ_mono (evQ_only h) fun ρ1 hh => next ρ1 hh.2 hh.1
    · have e : bareJ j o = o := by unfold bareJ; rw [h2]; simp [hij]
      rw [List.map_cons, e] at h
      exact evQs_step h next

theorem qgroup_skip {ops : Array Oper} {j d : Nat} {want : Bool} {S : List Nat} {rest : List Oper} {K : Env → Prop} (hd : (ops[j]?).bind (·.dst) = some d) (hdS : d ∉ S) :
    ∀ (G : List Oper) (U : List Nat) (ρ : Env), grpN ops j want S N U G = true → ρ d = .bool (!want) → (∀ t ∈ U, ρ t = undef) →
      (∀ ρ', (∀ t, t ∉ S → ρ' t = ρ t) → evQs P N W w0 ops rest ρ' M K) → evQs P N W w0 ops (G ++ rest) ρ M K
  | [], _, ρ, _, _, _, h => h ρ fun _ _ => rfl
  | o :: G, U, ρ, hg, hb, hU, h => by
    obtain ⟨⟨i, w, h2, hcase⟩, h3, h4⟩ := grpN_cons hg
    have sk : setD N ρ o.dst undef fun ρ' => evQs P N W w0 ops (G ++ rest) ρ' M K := by
      cases ht : o.dst with
      | none => exact qgroup_skip hd hdS G U ρ (h4 ht) hb hU h
      | some t =>
        obtain ⟨h5, h6, h7⟩ := h3 t ht
        have hne : ¬ d = t := fun e => hdS (by rw [e]; exact h5)
        refine ⟨h6, qgroup_skip hd hdS G _ _ h7 (by unfold upd; rw [if_neg hne]; exact hb) (fun s hs => ?_) fun ρ' hag => h ρ' fun s hs => ?_⟩
        · unfold upd
          split
          · rfl
          · rename_i hst
            rcases List.mem_cons.1 hs with hs | hs
            · exact absurd hs hst
            · exact hU s hs
        · rw [hag s hs]
          unfold upd
          rw [if_neg fun e => hs (by rw [e]; exact h5)]
    show evQs P N W w0 ops (o :: (G ++ rest)) ρ M K
    unfold evQs
    rw [h2]
    rcases hcase with ⟨rfl, rfl⟩ | ⟨hij, d', hd', hm⟩
    · simp only [hd, hb, gate]
      refine ⟨fun hn => (by cases w <;> cases hn), fun _ => ?_⟩
      rw [show upd ρ d (.bool !w) = ρ from by rw [← hb, upd_self]]
      exact sk
    · simp only [hd', hU d' hm]
      exact sk

theorem guardY_go (k : Nat) (S : List Nat) {ops : Array Oper} {l : List Oper} {j d : Nat} {want b : Bool} {K : Env → Prop} (R : Env → Prop) (hd : (ops[j]?).bind (·.dst) = some d) (hg : grpB ops j want S N d (l.take k) = true) (hb : ρ d = .bool b)
    (h1 : b = want → evQs P N W w0 ops ((l.take k).map (bareJ j)) ρ M R) (h2 : ∀ g, (b = want → R (hav S g ρ)) → evQs P N W w0 ops (l.drop k) (hav S g ρ) M K) : guardY P N W w0 ops l ρ M K := by
  unfold guardY
  rw [← List.take_append_drop k l]
  obtain ⟨hdS, hg⟩ := grpB_d hg
  by_cases hw : b = want
  · refine qgroup_go hd hdS (l.take k) [] ρ hg (by rw [hb, hw]) (evQs_mono _ _ (h1 hw) ?_)
    intro ρ' hR hag
    have := h2 ρ' fun _ => by rw [hav_of hag]; exact hR
    rwa [hav_of hag] at this
  · have hn : b = !want := by cases b <;> cases want <;> simp_all
    refine qgroup_skip hd hdS (l.take k) [] ρ hg (by rw [hb, hn]) (fun _ ht => nomatch ht) fun ρ' hag => ?_
    have := h2 ρ' fun e => absurd e hw
    rwa [hav_of hag] at this

theorem qcons_none {o : Oper} {ops : Array Oper} {l : List Oper} {K : Env → Prop} (hg : o.guard = none) (h : evQ P N W w0 o ρ M fun ρ' => evQs P N W w0 ops l ρ' M K) : evQs P N W w0 ops (o :: l) ρ M K := by
  unfold evQs
  rw [hg]
  exact h

theorem guardY_or (k : Nat) (S : List Nat) {ops : Array Oper} {l rest : List Oper} {j d tp tl : Nat} {b x : Bool} {K : Env → Prop} {T : TypeId} {pos : String} {aft : Array Edge} (hd : (ops[j]?).bind (·.dst) = some d) (hg : grpB ops j false S N d (l.take k) = true)
    (hr : l.drop k = ⟨some tp, .pick (.tmp d) (.const (.bool true)) (.tmp tl), T, pos, aft, none⟩ :: rest) (hn : (decide (tp < N) && S.contains tl) = true) (hb : ρ d = .bool b)
    (h1 : b = false → evQs P N W w0 ops ((l.take k).map (bareJ j)) ρ M fun ρ' => ρ' tl = .bool x) (h2 : ∀ g, evQs P N W w0 ops rest (upd (hav S g ρ) tp (.bool (b || x))) M K) : guardY P N W w0 ops l ρ M K := by
  simp only [Bool.and_eq_true, decide_eq_true_eq] at hn
  refine guardY_go k S (fun ρ' => ρ' tl = .bool x) hd hg hb h1 fun g hR => ?_
  rw [hr]
  have hdS : (hav S g ρ) d = .bool b := by
    unfold hav
    rw [if_neg (grpB_d hg).1, hb]
  refine qcons_none rfl ?_
  unfold evQ evV pureOp
  simp only [ev, hdS, setD]
  refine ⟨trivial, hn.1, ?_⟩
  cases hb0 : b with
  | true => have := h2 g; rw [hb0] at this; exact this
  | false =>
    have := h2 g
    rw [hb0] at this
    simp only [cond_false, Bool.false_or] at this ⊢
    rw [hR hb0]
    exact this

theorem guardY_and (k : Nat) (S : List Nat) {ops : Array Oper} {l rest : List Oper} {j d tp tl : Nat} {b x : Bool} {K : Env → Prop} {T : TypeId} {pos : String} {aft : Array Edge} (hd : (ops[j]?).bind (·.dst) = some d) (hg : grpB ops j true S N d (l.take k) = true)
    (hr : l.drop k = ⟨some tp, .pick (.tmp d) (.tmp tl) (.const (.bool false)), T, pos, aft, none⟩ :: rest) (hn : (decide (tp < N) && S.contains tl) = true) (hb : ρ d = .bool b)
    (h1 : b = true → evQs P N W w0 ops ((l.take k).map (bareJ j)) ρ M fun ρ' => ρ' tl = .bool x) (h2 : ∀ g, evQs P N W w0 ops rest (upd (hav S g ρ) tp (.bool (b && x))) M K) : guardY P N W w0 ops l ρ M K := by
  simp only [Bool.and_eq_true, decide_eq_true_eq] at hn
  refine guardY_go k S (fun ρ' => ρ' tl = .bool x) hd hg hb h1 fun g hR => ?_
  rw [hr]
  have hdS : (hav S g ρ) d = .bool b := by
    unfold hav
    rw [if_neg (grpB_d hg).1, hb]
  refine qcons_none rfl ?_
  unfold evQ evV pureOp
  simp only [ev, hdS, setD]
  refine ⟨trivial, hn.1, ?_⟩
  cases hb0 : b with
  | false => have := h2 g; rw [hb0] at this; exact this
  | true =>
    have := h2 g
    rw [hb0] at this
    simp only [cond_true, Bool.true_and] at this ⊢
    rw [hR hb0]
    exact this

/-! ### A condition between two pieces of code -/

theorem Cd.mid {x y : Code} (I : Env → Blks → Prop) (h : Cd P N W w0 x (fun e ρ M => match e with | .normal => I ρ M | e => Q e ρ M) ρ M) (hy : ∀ ρ M, I ρ M → Cd P N W w0 y Q ρ M) : Cd P N W w0 (.seq x y) Q ρ M :=
  Cd.seq (Cd.mono h fun e ρ M hq => by cases e <;> first | exact hy ρ M hq | exact hq)

/-- What is asked of a piece of code, given what is asked behind it. -/
def midQ (I : Env → Blks → Prop) (Q : Exit → Env → Blks → Prop) : Exit → Env → Blks → Prop
  | .normal, ρ, M => I ρ M
  | e, ρ, M => Q e ρ M
theorem Cd.midq {x y : Code} (I : Env → Blks → Prop) (h : Cd P N W w0 x (midQ I Q) ρ M) (hy : ∀ ρ M, I ρ M → Cd P N W w0 y Q ρ M) : Cd P N W w0 (.seq x y) Q ρ M :=
  Cd.seq (Cd.mono h fun e ρ M hq => by cases e <;> first | exact hy ρ M hq | exact hq)
theorem midN {I : Env → Blks → Prop} (h : I ρ M) : midQ I Q .normal ρ M := h
theorem midX {I : Env → Blks → Prop} {id : Nat} (h : Q (.exit id) ρ M) : midQ I Q (.exit id) ρ M := h
theorem midR {I : Env → Blks → Prop} (h : Q .ret ρ M) : midQ I Q .ret ρ M := h

end
end Go.W8
