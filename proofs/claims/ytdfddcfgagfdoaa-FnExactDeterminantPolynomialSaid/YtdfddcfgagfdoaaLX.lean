/-
  Calls of functions that hand back new memory, or write into memory that they are lent. Nothing here is about one program. Conditions: none.
-/
import Derived.Test.YtdfddcfgagfdoaaLG
namespace Go.W8
set_option linter.unusedSectionVars false
set_option linter.unusedVariables false
set_option linter.unusedSimpArgs false

section
variable {P : Program} {N : Nat} {W : List Nat} {w0 : World} {Q : Exit → Env → Blks → Prop} {ρ : Env} {M M' : Blks}

def Lent (w : World) (L : Blks) : Prop := ∀ p ∈ L, ∃ t, w.heap[p.1]? = some (.cells p.2.toArray t (0, 0))
def ToldW (w : World) (R : Rd) : Prop := ∀ r ∈ R, ∀ j u, r.2.2[j]? = some u → w.cell? ⟨r.1, r.2.1 + j, none⟩ = some u

theorem lent_lt {w : World} {L : Blks} (h : Lent w L) {p : Nat × List Value} (hp : p ∈ L) : p.1 < w.heap.size := by
  obtain ⟨t, ht⟩ := h p hp
  rcases Nat.lt_or_ge p.1 w.heap.size with h1 | h1
  · exact h1
  · rw [Array.getElem?_eq_none h1] at ht; cases ht

theorem Own.startL {w : World} {L : Blks} (h : Lent w L) (hn : (L.map (·.1)).Nodup) : Own (L.map (·.1)) w L w :=
  ⟨rfl, rfl, rfl, Nat.le_refl _, fun _ _ _ => rfl, fun p hp => .inl (List.mem_map_of_mem hp), fun p hp => h p hp, hn⟩

/-- A call that writes only what it is lent. -/
theorem Own.thenL {w w' : World} {L Mr : Blks} (h : Own W w0 M w) (hL : ∀ p ∈ L, p ∈ M) (hs : Mr.Sublist M) (hd : ∀ p ∈ Mr, p.1 ∉ L.map (·.1)) (h' : Own (L.map (·.1)) w M' w') : Own W w0 (M' ++ Mr) w' := by
  have hold : ∀ k, k < w.heap.size → k ∉ L.map (·.1) → w'.heap[k]? = w.heap[k]? := fun k hk hn => h'.frame k hk hn
  refine ⟨h'.os.trans h.os, h'.tape.trans h.tape, h'.output.trans h.output, Nat.le_trans h.size h'.size, ?_, ?_, ?_, ?_⟩
  · intro k hk hW
    rw [hold k (Nat.lt_of_lt_of_le hk h.size) fun hm => ?_]
    · exact h.frame k hk hW
    · obtain ⟨p, hp, rfl⟩ := List.mem_map.1 hm
      rcases h.own p (hL p hp) with h1 | h1
      · exact hW h1
      · omega
  · intro p hp
    rcases List.mem_append.1 hp with hp | hp
    · rcases h'.own p hp with h1 | h1
      · obtain ⟨q, hq, e⟩ := List.mem_map.1 h1
        have := h.own q (hL q hq)
        rw [e] at this
        exact this
      · exact .inr (Nat.le_trans h.size h1)
    · exact h.own p (hs.subset hp)
  · intro p hp
    rcases List.mem_append.1 hp with hp | hp
    · exact h'.blk p hp
    · obtain ⟨t, ht⟩ := h.blk p (hs.subset hp)
      exact ⟨t, by rw [hold _ (h.lt (hs.subset hp)) (hd p hp)]; exact ht⟩
  · rw [List.map_append, List.nodup_append]
    refine ⟨h'.nodup, (hs.map _).nodup h.nodup, ?_⟩
    intro a ha c hc
    obtain ⟨p, hp, rfl⟩ := List.mem_map.1 ha
    obtain ⟨q, hq, rfl⟩ := List.mem_map.1 hc
    intro e
    rcases h'.own p hp with h2 | h2
    · exact hd q hq (by rw [← e]; exact h2)
    · have := h.lt (hs.subset hq)
      omega

/-- A function that is lent L, reads R, and hands back a value and blocks of which Post tells. -/
def GivesX (P : Program) (f : FuncId) (args : Array Value) (L : Blks) (R : Rd) (Post : Value → Blks → Prop) : Prop :=
  callable P f ∧ ∀ w, (L.map (·.1)).Nodup → Lent w L → ToldW w R → Calls P f args w fun e w' => ∃ v M', e = .returned v ∧ Own (L.map (·.1)) w M' w' ∧ Post v M'

theorem GivesX.of {f : FuncId} {args : Array Value} {L : Blks} {R : Rd} {Post : Value → Blks → Prop} (hc : callable P f) (hd : ∀ r ∈ R, r.1 ∉ L.map (·.1))
    (h : ∀ w, (L.map (·.1)).Nodup → (∀ p ∈ L, p.1 < w.heap.size) → Told (L.map (·.1)) w R → ACall P (L.map (·.1)) w f args L Post) : GivesX P f args L R Post := by
  refine ⟨hc, fun w hn hL hR => (h w hn (fun p hp => lent_lt hL hp) ?_).2 w (Own.startL hL hn)⟩
  intro r hr j u hu
  have := hR r hr j u hu
  unfold frn
  rw [if_pos ⟨cell_lt this, hd r hr⟩]
  exact this

theorem GivesX.mono {f : FuncId} {args : Array Value} {L : Blks} {R : Rd} {Post Post' : Value → Blks → Prop} (h : GivesX P f args L R Post) (hp : ∀ v M', Post v M' → Post' v M') : GivesX P f args L R Post' :=
  ⟨h.1, fun w hn hL hR => (h.2 w hn hL hR).mono fun _ _ ⟨v, M', h1, h2, h3⟩ => ⟨v, M', h1, h2, hp v M' h3⟩⟩

theorem GivesR.toX {f : FuncId} {args : Array Value} {R : Rd} {v : Value} (h : GivesR P f args R v) : GivesX P f args [] R fun v' M' => v' = v ∧ M' = [] :=
  ⟨h.1, fun w _ _ hR => (h.2 w hR).mono fun _ _ ⟨h1, h2⟩ => ⟨v, [], h1, h2, rfl, rfl⟩⟩
theorem Gives.toX {f : FuncId} {args : Array Value} {v : Value} (h : Gives P f args v) : GivesX P f args [] [] fun v' M' => v' = v ∧ M' = [] :=
  ⟨h.1, fun w _ _ _ => (h.2 w).mono fun _ _ ⟨h1, h2⟩ => ⟨v, [], h1, h2, rfl, rfl⟩⟩
/-- A function that hands back no memory. -/
theorem GivesX.gives {f : FuncId} {args : Array Value} {v : Value} (h : GivesX P f args [] [] fun v' _ => v' = v) : Gives P f args v :=
  ⟨h.1, fun w => (h.2 w List.nodup_nil (fun _ hp => nomatch hp) (fun _ hr => nomatch hr)).mono fun _ _ ⟨v', M', h1, h2, h3⟩ => ⟨by rw [h1, h3], h2.sub (List.nil_sublist _)⟩⟩
theorem GivesX.reads {f : FuncId} {args : Array Value} {R : Rd} {v : Value} (h : GivesX P f args [] R fun v' _ => v' = v) : GivesR P f args R v :=
  ⟨h.1, fun w hR => (h.2 w List.nodup_nil (fun _ hp => nomatch hp) hR).mono fun _ _ ⟨v', M', h1, h2, h3⟩ => ⟨by rw [h1, h3], h2.sub (List.nil_sublist _)⟩⟩

theorem GivesX.acallL {f : FuncId} {args : Array Value} {L Mr : Blks} {R : Rd} {Post R' : Value → Blks → Prop} (h : GivesX P f args L R Post) (hn : (L.map (·.1)).Nodup) (hL : ∀ p ∈ L, p ∈ M) (hs : Mr.Sublist M) (hd : ∀ p ∈ Mr, p.1 ∉ L.map (·.1)) (hR : ∀ w, Own W w0 M w → ToldW w R)
    (hk : ∀ v M', Post v M' → (M'.map (·.1)).Nodup → (∀ p ∈ M', p.1 ∉ L.map (·.1) → Fresh w0 M p.1) → R' v (M' ++ Mr)) : ACall P W w0 f args M R' := by
  refine ⟨h.1, fun w hw => (h.2 w hn (fun p hp => hw.blk p (hL p hp)) (hR w hw)).mono ?_⟩
  rintro e w' ⟨v, M', rfl, hw', hp⟩
  refine ⟨v, M' ++ Mr, rfl, hw.thenL hL hs hd hw', hk v M' hp hw'.nodup fun p hp hn => ?_⟩
  rcases hw'.own p hp with h1 | h1
  · exact absurd h1 hn
  · exact ⟨Nat.le_trans hw.size h1, fun q hq => by have := hw.lt hq; omega⟩

theorem GivesX.acall {f : FuncId} {args : Array Value} {R : Rd} {Post R' : Value → Blks → Prop} (h : GivesX P f args [] R Post) (hR : ∀ w, Own W w0 M w → ToldW w R)
    (hk : ∀ v M', Post v M' → (M'.map (·.1)).Nodup → (∀ p ∈ M', Fresh w0 M p.1) → R' v (M' ++ M)) : ACall P W w0 f args M R' :=
  h.acallL List.nodup_nil (fun _ hp => nomatch hp) (List.Sublist.refl _) (fun _ _ hm => nomatch hm) hR fun v M' h1 h2 h3 => hk v M' h1 h2 fun p hp => h3 p hp fun hm => nomatch hm

theorem toldW_nil {w : World} : ToldW w [] := fun _ hr => nomatch hr
theorem HoldsAll.toldW {R : Rd} (hR : HoldsAll W w0 M R) : ∀ w, Own W w0 M w → ToldW w R := fun w hw r hr j u hu => hw.cellAt W w0 (hR r hr j u hu)
theorem Told.toldW {R : Rd} (hR : Told W w0 R) : ∀ w, Own W w0 M w → ToldW w R := fun w hw r hr j u hu => by
  have := hR r hr j u hu
  unfold frn at this
  split at this
  · rename_i hh
    unfold World.cell? at this ⊢
    rw [hw.frame r.1 hh.1 hh.2]
    exact this
  · cases this
/-- What is told of blocks. -/
def toldOf (L : Blks) : Rd := L.map fun p => (p.1, 0, p.2)
theorem toldOf_append (L L' : Blks) : toldOf (L ++ L') = toldOf L ++ toldOf L' := by simp [toldOf]
theorem toldW_append {w : World} {R R' : Rd} (h : ToldW w R) (h' : ToldW w R') : ToldW w (R ++ R') := fun r hr => by
  rcases List.mem_append.1 hr with hr | hr
  · exact h r hr
  · exact h' r hr
theorem toldW_mem {L : Blks} (hL : ∀ p ∈ L, p ∈ M) : ∀ w, Own W w0 M w → ToldW w (toldOf L) := fun w hw r hr j u hu => by
  obtain ⟨p, hp, rfl⟩ := List.mem_map.1 hr
  obtain ⟨t, ht⟩ := hw.blk p (hL p hp)
  unfold World.cell?
  simp only at hu ⊢
  rw [ht]
  simpa using hu

theorem callK_new {n : FuncId} {args : List Value} {fs cs : Array Value} {d : Option Tmp} {ops : Array Oper} {rest : List Oper} {R : Rd} {Post : Value → Blks → Prop} {K : Env → Blks → Prop} (h : GivesX P n (fs.toList ++ (args ++ cs.toList)).toArray [] R Post)
    (hR : ∀ w, Own W w0 M w → ToldW w R) (hk : ∀ v M', Post v M' → (M'.map (·.1)).Nodup → (∀ p ∈ M', Fresh w0 M p.1) → setD N ρ d v fun ρ' => evOps P N W w0 ops rest ρ' (M' ++ M) K) : callK P N W w0 (.func (.func n) fs cs) args M d ρ ops rest K :=
  h.acall hR hk
theorem callK_new0 {n : FuncId} {args : List Value} {d : Option Tmp} {ops : Array Oper} {rest : List Oper} {R : Rd} {Post : Value → Blks → Prop} {K : Env → Blks → Prop} (h : GivesX P n args.toArray [] R Post)
    (hR : ∀ w, Own W w0 M w → ToldW w R) (hk : ∀ v M', Post v M' → (M'.map (·.1)).Nodup → (∀ p ∈ M', Fresh w0 M p.1) → setD N ρ d v fun ρ' => evOps P N W w0 ops rest ρ' (M' ++ M) K) : callK P N W w0 (.func (.func n) #[] #[]) args M d ρ ops rest K :=
  callK_new (by simpa using h) hR hk
theorem callK_lent0 {n : FuncId} {args : List Value} {d : Option Tmp} {ops : Array Oper} {rest : List Oper} {L Mr : Blks} {R : Rd} {Post : Value → Blks → Prop} {K : Env → Blks → Prop} (h : GivesX P n args.toArray L R Post) (hn : (L.map (·.1)).Nodup)
    (hL : ∀ p ∈ L, p ∈ M) (hs : Mr.Sublist M) (hd : ∀ p ∈ Mr, p.1 ∉ L.map (·.1)) (hR : ∀ w, Own W w0 M w → ToldW w R)
    (hk : ∀ v M', Post v M' → (M'.map (·.1)).Nodup → (∀ p ∈ M', p.1 ∉ L.map (·.1) → Fresh w0 M p.1) → setD N ρ d v fun ρ' => evOps P N W w0 ops rest ρ' (M' ++ Mr) K) : callK P N W w0 (.func (.func n) #[] #[]) args M d ρ ops rest K := by
  unfold callK
  simp only [List.append_nil, List.nil_append]
  exact h.acallL hn hL hs hd hR hk
/-- A call that is lent one block. -/
theorem callK_lend {n : FuncId} {args : List Value} {d : Option Tmp} {ops : Array Oper} {rest : List Oper} {b : Nat} {cs : List Value} {R : Rd} {Post : Value → Blks → Prop} {K : Env → Blks → Prop} (h : GivesX P n args.toArray [(b, cs)] R Post)
    (hf : findB b M = some cs) (hM : (M.map (·.1)).Nodup) (hR : ∀ w, Own W w0 M w → ToldW w R)
    (hk : ∀ v M', Post v M' → (M'.map (·.1)).Nodup → (∀ p ∈ M', p.1 ≠ b → Fresh w0 M p.1) → setD N ρ d v fun ρ' => evOps P N W w0 ops rest ρ' (M' ++ delB b M) K) : callK P N W w0 (.func (.func n) #[] #[]) args M d ρ ops rest K := by
  refine callK_lent0 h (by simp) (fun p hp => ?_) (delB_sub b M) (fun p hp hm => ?_) hR fun v M' h1 h2 h3 => hk v M' h1 h2 fun p hp hne => h3 p hp fun hm => ?_
  · rw [List.mem_singleton.1 hp]; exact findB_mem hf
  · simp only [List.map_cons, List.map_nil, List.mem_singleton] at hm
    exact delB_ne hM p hp hm
  · simp only [List.map_cons, List.map_nil, List.mem_singleton] at hm
    exact hne hm

/-- The blocks' numbers differ. -/
theorem Cd.nodup {c : Code} (h : (M.map (·.1)).Nodup → Cd P N W w0 c Q ρ M) : Cd P N W w0 c Q ρ M := fun a w ha hw => h hw.nodup a w ha hw
theorem Cd.turn {c : Code} (hp : M'.Perm M) (h : Cd P N W w0 c Q ρ M') : Cd P N W w0 c Q ρ M := fun a w ha hw =>
  h a w ha (hw.turn (fun p hm => hp.subset hm) ((hp.map _).nodup_iff.2 hw.nodup))

end
end Go.W8
