/-
  Calls of functions that read memory which is told ahead. Nothing here is about one program. Conditions: none.
-/
import Derived.Test.YtdfddcfgagfdoaaL8
namespace Go.W8

section
variable {P : Program} {N : Nat} {W : List Nat} {w0 : World} {Q : Exit → Env → Blks → Prop} {ρ : Env} {M M' : Blks}

/-- From a place on there stand these cells. -/
def Holds (W : List Nat) (w0 : World) (M : Blks) (b o : Nat) (vs : List Value) : Prop := ∀ j v, vs[j]? = some v → cellAt W w0 M b (o + j) = some v

theorem Holds.ext {b o : Nat} {vs : List Value} (h : Holds W w0 M b o vs) (he : Ext w0 M M') : Holds W w0 M' b o vs := fun j v hv => he.cellAt (h j v hv)

theorem Holds.sub {b o : Nat} {cs vs : List Value} (hf : findB b M = some cs) (h : subL cs o vs.length = vs) : Holds W w0 M b o vs := by
  intro j v hv
  rw [← h] at hv
  unfold cellAt
  rw [hf]
  simp only [subL, List.getElem?_take, List.getElem?_drop] at hv
  split at hv
  · exact hv
  · cases hv

theorem Holds.old {b o : Nat} {vs : List Value} (hf : findB b M = none) (h : ∀ j v, vs[j]? = some v → frn W w0 b (o + j) = some v) : Holds W w0 M b o vs := by
  intro j v hv
  unfold cellAt
  rw [hf]
  exact h j v hv

/-- What stands in memory ahead of a call. -/
abbrev Rd := List (Nat × Nat × List Value)

def HoldsAll (W : List Nat) (w0 : World) (M : Blks) (R : Rd) : Prop := ∀ r ∈ R, Holds W w0 M r.1 r.2.1 r.2.2

theorem HoldsAll.nil : HoldsAll W w0 M [] := fun _ h => nomatch h
theorem HoldsAll.cons {b o : Nat} {vs : List Value} {R : Rd} (h : Holds W w0 M b o vs) (hR : HoldsAll W w0 M R) : HoldsAll W w0 M ((b, o, vs) :: R) := by
  intro r hr
  rcases List.mem_cons.1 hr with rfl | hr
  · exact h
  · exact hR r hr

/-- A function that only hands back a value where memory holds R, and leaves all that was there as it was. -/
def GivesR (P : Program) (f : FuncId) (args : Array Value) (R : Rd) (v : Value) : Prop :=
  callable P f ∧ ∀ w, (∀ r ∈ R, ∀ j u, r.2.2[j]? = some u → w.cell? ⟨r.1, r.2.1 + j, none⟩ = some u) → Calls P f args w fun e w' => e = .returned v ∧ Own [] w [] w'

theorem Gives.toR {f : FuncId} {args : Array Value} {v : Value} {R : Rd} (h : Gives P f args v) : GivesR P f args R v := ⟨h.1, fun w _ => h.2 w⟩
theorem GivesR.gives {f : FuncId} {args : Array Value} {v : Value} (h : GivesR P f args [] v) : Gives P f args v := ⟨h.1, fun w => h.2 w fun _ hr => nomatch hr⟩

theorem cell_lt {w : World} {b o : Nat} {v : Value} (h : w.cell? ⟨b, o, none⟩ = some v) : b < w.heap.size := by
  unfold World.cell? at h
  rcases Nat.lt_or_ge b w.heap.size with h1 | h1
  · exact h1
  · simp [Array.getElem?_eq_none h1] at h

theorem GivesR.of {f : FuncId} {args : Array Value} {v : Value} {R : Rd} (hc : callable P f) (h : ∀ w, (∀ r ∈ R, ∀ j u, r.2.2[j]? = some u → frn [] w r.1 (r.2.1 + j) = some u) → ACall P [] w f args [] fun v' _ => v' = v) : GivesR P f args R v := by
  refine ⟨hc, fun w hR => ((h w ?_).2 w (Own.start w)).mono ?_⟩
  · intro r hr j u hu
    have := hR r hr j u hu
    unfold frn
    rw [if_pos ⟨cell_lt this, by simp⟩]
    exact this
  · rintro e w' ⟨v', M', rfl, hw', rfl⟩
    exact ⟨rfl, hw'.sub (List.nil_sublist _)⟩

theorem GivesR.qcall {f : FuncId} {args : Array Value} {v : Value} {R : Rd} (h : GivesR P f args R v) (hR : HoldsAll W w0 M R) : QCall P W w0 f args M v := by
  refine ⟨h.1, fun w hw => (h.2 w ?_).mono ?_⟩
  · intro r hr j u hu
    exact hw.cellAt W w0 (hR r hr j u hu)
  · rintro e w' ⟨rfl, hw'⟩
    exact ⟨rfl, hw.then_ hw'⟩

theorem callK_reads {n : FuncId} {args : List Value} {fs cs : Array Value} {v : Value} {R : Rd} {d : Option Tmp} {ops : Array Oper} {rest : List Oper} {K : Env → Blks → Prop} (h : GivesR P n (fs.toList ++ (args ++ cs.toList)).toArray R v)
    (hR : HoldsAll W w0 M R) (hk : setD N ρ d v fun ρ' => evOps P N W w0 ops rest ρ' M K) : callK P N W w0 (.func (.func n) fs cs) args M d ρ ops rest K :=
  (h.qcall hR).acall hk

theorem callK_reads0 {n : FuncId} {args : List Value} {v : Value} {R : Rd} {d : Option Tmp} {ops : Array Oper} {rest : List Oper} {K : Env → Blks → Prop} (h : GivesR P n args.toArray R v)
    (hR : HoldsAll W w0 M R) (hk : setD N ρ d v fun ρ' => evOps P N W w0 ops rest ρ' M K) : callK P N W w0 (.func (.func n) #[] #[]) args M d ρ ops rest K :=
  callK_reads (by simpa using h) hR hk

theorem callQ_reads {n : FuncId} {args : List Value} {fs cs : Array Value} {v : Value} {R : Rd} {d : Option Tmp} {ops : Array Oper} {rest : List Oper} {K : Env → Prop} (h : GivesR P n (fs.toList ++ (args ++ cs.toList)).toArray R v)
    (hR : HoldsAll W w0 M R) (hk : setD N ρ d v fun ρ' => evQs P N W w0 ops rest ρ' M K) : callQ P N W w0 (.func (.func n) fs cs) args M d ρ ops rest K :=
  ⟨v, fun _ he => h.qcall fun r hr => (hR r hr).ext he, hk⟩

theorem callP_reads {n : FuncId} {args : List Value} {fs cs : Array Value} {v : Value} {R : Rd} {d : Option Tmp} {ops : Array Oper} {p : Plan} {K : Env → Blks → Prop} (h : GivesR P n (fs.toList ++ (args ++ cs.toList)).toArray R v)
    (hR : HoldsAll W w0 M R) (hk : setD N ρ d v fun ρ' => evPlan P N W w0 ops p ρ' M K) : callP P N W w0 (.func (.func n) fs cs) args M d ρ ops p K :=
  ⟨v, fun _ he => h.qcall fun r hr => (hR r hr).ext he, hk⟩

/-- What is told of old memory. -/
def Told (W : List Nat) (w0 : World) (R : Rd) : Prop := ∀ r ∈ R, ∀ j u, r.2.2[j]? = some u → frn W w0 r.1 (r.2.1 + j) = some u

theorem GivesR.qcall_told {f : FuncId} {args : Array Value} {v : Value} {R : Rd} (h : GivesR P f args R v) (hR : Told W w0 R) : QCall P W w0 f args M v := by
  refine ⟨h.1, fun w hw => (h.2 w ?_).mono ?_⟩
  · intro r hr j u hu
    have := hR r hr j u hu
    unfold frn at this
    split at this
    · rename_i hh
      unfold World.cell? at this ⊢
      rw [hw.frame r.1 hh.1 hh.2]
      exact this
    · cases this
  · rintro e w' ⟨rfl, hw'⟩
    exact ⟨rfl, hw.then_ hw'⟩

theorem callK_told {n : FuncId} {args : List Value} {fs cs : Array Value} {v : Value} {R : Rd} {d : Option Tmp} {ops : Array Oper} {rest : List Oper} {K : Env → Blks → Prop} (h : GivesR P n (fs.toList ++ (args ++ cs.toList)).toArray R v)
    (hR : Told W w0 R) (hk : setD N ρ d v fun ρ' => evOps P N W w0 ops rest ρ' M K) : callK P N W w0 (.func (.func n) fs cs) args M d ρ ops rest K :=
  (h.qcall_told hR).acall hk

theorem callQ_told {n : FuncId} {args : List Value} {fs cs : Array Value} {v : Value} {R : Rd} {d : Option Tmp} {ops : Array Oper} {rest : List Oper} {K : Env → Prop} (h : GivesR P n (fs.toList ++ (args ++ cs.toList)).toArray R v)
    (hR : Told W w0 R) (hk : setD N ρ d v fun ρ' => evQs P N W w0 ops rest ρ' M K) : callQ P N W w0 (.func (.func n) fs cs) args M d ρ ops rest K :=
  ⟨v, fun _ _ => h.qcall_told hR, hk⟩

theorem mapM_told {α β : Type} {f : α → Option β} : ∀ {l : List α} {r : List β}, l.length = r.length → (∀ (j : Nat) (a : α) (b : β), l[j]? = some a → r[j]? = some b → f a = some b) → l.mapM f = some r
  | [], [], _, _ => rfl
  | a :: l, b :: r, hl, h => by
    rw [List.mapM_cons, h 0 a b rfl rfl, mapM_told (l := l) (r := r) (by simpa using hl) fun j x y hx hy => h (j + 1) x y hx hy]
    rfl

theorem told_many {b : Nat} {cs : List Value} {n : Nat} {R : Rd} (h : Told W w0 ((b, 0, cs) :: R)) (hl : cs.length = n) : (List.range n).mapM (fun j => frn W w0 b j) = some cs := by
  refine mapM_told (by simpa using hl.symm) fun j a c ha hc => ?_
  have hj : j < n := by
    rcases Nat.lt_or_ge j n with h1 | h1
    · exact h1
    · rw [List.getElem?_eq_none (by omega)] at hc; cases hc
  rw [List.getElem?_range hj] at ha
  simp only [Option.some.injEq] at ha
  subst ha
  have := h _ List.mem_cons_self j c hc
  simpa using this

/-- A row of numbers, told cell by cell. -/
theorem told_ints {b o : Nat} {k : IntKind} {l : List Int} {R : Rd} (h : ∀ r ∈ (b, o, ints k l) :: R, ∀ j u, r.2.2[j]? = some u → frn W w0 r.1 (r.2.1 + j) = some u) :
    (∀ j, j < l.length → frn W w0 b (o + j) = some (.int k (l.getD j 0))) ∧ ∀ r ∈ R, ∀ j u, r.2.2[j]? = some u → frn W w0 r.1 (r.2.1 + j) = some u :=
  ⟨fun j hj => h _ List.mem_cons_self j _ (ints_get hj), fun r hr => h r (List.mem_cons_of_mem _ hr)⟩

end
end Go.W8
