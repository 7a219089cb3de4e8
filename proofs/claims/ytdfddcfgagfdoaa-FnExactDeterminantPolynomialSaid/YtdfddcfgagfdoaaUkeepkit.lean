/-
  What the functions of this part hand back: each as a plain function of its arguments. Conditions: none.
-/
import Derived.Test.YtdfddcfgagfdoaaLB
import Derived.ProofKit
import Derived.OpenShut
import Derived.Below
import Derived.ChangeSame
import Derived.Test.YtdfddcfgagfdoaaUlaukit
namespace Go.Proofs
open Go.W8
set_option linter.unusedVariables false
set_option linter.unusedSimpArgs false
set_option linter.unusedSectionVars false
set_option maxRecDepth 8000
set_option maxHeartbeats 4000000
--@plain
section
variable {P : Program} {N : Nat} {W : List Nat} {w0 : World} {ρ : Env} {M M' : Blks}
/-- A function that is lent L, hands it back as it was, and beside it new memory. -/
def keepQ (L : Blks) (rep : Value → Blks → Prop) (v : Value) (M' : Blks) : Prop := ∃ M1, (∀ p ∈ L, p ∈ M') ∧ (∀ p ∈ M1, p ∈ M') ∧ ((L ++ M1).map (·.1)).Nodup ∧ rep v M1
def GivesK (P : Program) (f : FuncId) (args : Array Value) (L : Blks) (rep : Value → Blks → Prop) : Prop := GivesX P f args L [] (keepQ L rep)
theorem keepQ.none {L : Blks} {rep : Value → Blks → Prop} {v : Value} {M' : Blks} (hL : (L.map (·.1)).Nodup) (h : ∀ p ∈ L, p ∈ M') (hr : rep v []) : keepQ L rep v M' := ⟨[], h, (fun _ hp => nomatch hp), by simpa using hL, hr⟩
theorem keepQ.behind {L A B : Blks} {rep : Value → Blks → Prop} {v : Value} {M' : Blks} (hL : (L.map (·.1)).Nodup) (hn : ((A ++ B).map (·.1)).Nodup) (h : ∀ p ∈ L, p ∈ A) (hM : M' = A ++ B) (hr : rep v B) : keepQ L rep v M' := by
  subst hM
  refine ⟨B, fun p hp => List.mem_append_left _ (h p hp), fun p hp => List.mem_append_right _ hp, ?_, hr⟩
  rw [List.map_append, List.nodup_append] at hn ⊢
  refine ⟨hL, hn.2.1, fun a ha b hb => hn.2.2 a ?_ b hb⟩
  obtain ⟨p, hp, rfl⟩ := List.mem_map.1 ha
  exact List.mem_map_of_mem (h p hp)
theorem mem_keys {p : Nat × List Value} (h : p ∈ M) : p.1 ∈ M.map (·.1) := List.mem_map_of_mem h
theorem key_eq {p q : Nat × List Value} (hn : (M.map (·.1)).Nodup) (hp : p ∈ M) (hq : q ∈ M) (e : p.1 = q.1) : p = q := by
  have h1 := findB_of (b := p.1) (cs := p.2) hn hp
  have h2 := findB_of (b := q.1) (cs := q.2) hn hq
  rw [e, h2] at h1
  exact Prod.ext e (Option.some.inj h1).symm
theorem GivesK.acall {f : FuncId} {args : Array Value} {L : Blks} {rep R' : Value → Blks → Prop} (h : GivesK P f args L rep) (hM : (M.map (·.1)).Nodup) (hL : ∀ p ∈ L, p ∈ M) (hn : (L.map (·.1)).Nodup)
    (hk : ∀ v M1, rep v M1 → ((M ++ M1).map (·.1)).Nodup → (∀ p ∈ M1, Fresh w0 M p.1) → R' v (M ++ M1)) : ACall P W w0 f args M R' := by
  refine ⟨h.1, fun w hw => (h.2 w hn (fun p hp => hw.blk p (hL p hp)) toldW_nil).mono ?_⟩
  rintro e w' ⟨v, M', rfl, hw', M1, h1, h2, h3, h4⟩
  have hs : (M.filter fun p => decide (p.1 ∉ L.map (·.1))).Sublist M := List.filter_sublist
  have ho := hw.thenL hL hs (fun p hp => by simpa using (List.mem_filter.1 hp).2) hw'
  have hf : ∀ p ∈ M1, Fresh w0 M p.1 := by
    intro p hp
    have hpL : p.1 ∉ L.map (·.1) := by
      intro hm
      rw [List.map_append, List.nodup_append] at h3
      exact h3.2.2 _ hm _ (mem_keys hp) rfl
    rcases hw'.own p (h2 p hp) with h5 | h5
    · exact absurd h5 hpL
    · exact ⟨Nat.le_trans hw.size h5, fun q hq => by have := hw.lt hq; omega⟩
  have hnn : ((M ++ M1).map (·.1)).Nodup := by
    rw [List.map_append, List.nodup_append] at h3 ⊢
    refine ⟨hM, h3.2.1, ?_⟩
    intro a ha b hb e
    subst e
    obtain ⟨p, hp, rfl⟩ := List.mem_map.1 hb
    obtain ⟨q, hq, e⟩ := List.mem_map.1 ha
    exact (hf p hp).2 q hq e.symm
  refine ⟨v, M ++ M1, rfl, ho.turn (fun p hp => ?_) hnn, hk v M1 h4 hnn hf⟩
  rcases List.mem_append.1 hp with hp | hp
  · by_cases hpL : p.1 ∈ L.map (·.1)
    · obtain ⟨q, hq, e⟩ := List.mem_map.1 hpL
      rw [← key_eq hM (hL q hq) hp e]
      exact List.mem_append_left _ (h1 q hq)
    · exact List.mem_append_right _ (List.mem_filter.2 ⟨hp, by simpa using hpL⟩)
  · exact List.mem_append_left _ (h2 p hp)
theorem callK_keep0 {n : FuncId} {args : List Value} {d : Option Tmp} {ops : Array Oper} {rest : List Oper} {L : Blks} {rep : Value → Blks → Prop} {K : Env → Blks → Prop} (h : GivesK P n args.toArray L rep) (hM : (M.map (·.1)).Nodup) (hL : ∀ p ∈ L, p ∈ M) (hn : (L.map (·.1)).Nodup)
    (hk : ∀ v M1, rep v M1 → ((M ++ M1).map (·.1)).Nodup → (∀ p ∈ M1, Fresh w0 M p.1) → setD N ρ d v fun ρ' => evOps P N W w0 ops rest ρ' (M ++ M1) K) : callK P N W w0 (.func (.func n) #[] #[]) args M d ρ ops rest K := by
  unfold callK
  simp only [List.append_nil, List.nil_append]
  exact h.acall hM hL hn hk
theorem callO_keep0 {n : FuncId} {args : List Value} {d : Option Tmp} {ops : Array Oper} {p : Plan} {L : Blks} {rep : Value → Blks → Prop} {K : Env → Blks → Prop} (h : GivesK P n args.toArray L rep) (hM : (M.map (·.1)).Nodup) (hL : ∀ p ∈ L, p ∈ M) (hn : (L.map (·.1)).Nodup)
    (hk : ∀ v M1, rep v M1 → ((M ++ M1).map (·.1)).Nodup → (∀ p ∈ M1, Fresh w0 M p.1) → setD N ρ d v fun ρ' => evPlan P N W w0 ops p ρ' (M ++ M1) K) : callO P N W w0 (.func (.func n) #[] #[]) args M d ρ ops p K := by
  unfold callO
  simp only [List.append_nil, List.nil_append]
  exact h.acall hM hL hn hk
theorem GivesK.acallS {f : FuncId} {args : Array Value} {L : Blks} {rep R' : Value → Blks → Prop} (h : (L.map (·.1)).Nodup → GivesK P f args L rep) (hc : callable P f) (hs : SubP L M)
    (hk : ∀ v M1, rep v M1 → ((M ++ M1).map (·.1)).Nodup → (∀ p ∈ M1, Fresh w0 M p.1) → R' v (M ++ M1)) : ACall P W w0 f args M R' := by
  refine ⟨hc, fun w hw => ?_⟩
  obtain ⟨M1, h1, h2⟩ := hs
  have hn : (L.map (·.1)).Nodup := (h1.map (·.1)).nodup_iff.2 ((h2.map (·.1)).nodup hw.nodup)
  exact ((h hn).acall hw.nodup (fun p hp => h2.subset (h1.subset hp)) hn hk).2 w hw
theorem callO_keepS {n : FuncId} {args : List Value} {d : Option Tmp} {ops : Array Oper} {p : Plan} {L : Blks} {rep : Value → Blks → Prop} {K : Env → Blks → Prop} (h : (L.map (·.1)).Nodup → GivesK P n args.toArray L rep) (hc : callable P n) (hs : SubP L M)
    (hk : ∀ v M1, rep v M1 → ((M ++ M1).map (·.1)).Nodup → (∀ p ∈ M1, Fresh w0 M p.1) → setD N ρ d v fun ρ' => evPlan P N W w0 ops p ρ' (M ++ M1) K) : callO P N W w0 (.func (.func n) #[] #[]) args M d ρ ops p K := by
  unfold callO
  simp only [List.append_nil, List.nil_append]
  exact GivesK.acallS h hc hs hk
theorem callK_keepS {n : FuncId} {args : List Value} {d : Option Tmp} {ops : Array Oper} {rest : List Oper} {L : Blks} {rep : Value → Blks → Prop} {K : Env → Blks → Prop} (h : (L.map (·.1)).Nodup → GivesK P n args.toArray L rep) (hc : callable P n) (hs : SubP L M)
    (hk : ∀ v M1, rep v M1 → ((M ++ M1).map (·.1)).Nodup → (∀ p ∈ M1, Fresh w0 M p.1) → setD N ρ d v fun ρ' => evOps P N W w0 ops rest ρ' (M ++ M1) K) : callK P N W w0 (.func (.func n) #[] #[]) args M d ρ ops rest K := by
  unfold callK
  simp only [List.append_nil, List.nil_append]
  exact GivesK.acallS h hc hs hk
/-- A call that is lent something: what it hands back is told behind the rest. -/
theorem callK_lentB0 {n : FuncId} {args : List Value} {d : Option Tmp} {ops : Array Oper} {rest : List Oper} {L Mr : Blks} {R : Rd} {Post : Value → Blks → Prop} {K : Env → Blks → Prop} (h : GivesX P n args.toArray L R Post) (hM : ((Mr ++ L).map (·.1)).Nodup) (e : M = Mr ++ L)
    (hR : ∀ w, Own W w0 M w → ToldW w R)
    (hk : ∀ v M', Post v M' → ((Mr ++ M').map (·.1)).Nodup → (∀ p ∈ M', p.1 ∉ L.map (·.1) → Fresh w0 M p.1) → setD N ρ d v fun ρ' => evOps P N W w0 ops rest ρ' (Mr ++ M') K) : callK P N W w0 (.func (.func n) #[] #[]) args M d ρ ops rest K := by
  subst e
  unfold callK
  simp only [List.append_nil, List.nil_append]
  have hn := hM
  rw [List.map_append, List.nodup_append] at hn
  refine ⟨h.1, fun w hw => (h.2 w hn.2.1 (fun p hp => hw.blk p (List.mem_append_right _ hp)) (hR w hw)).mono ?_⟩
  rintro e w' ⟨v, M', rfl, hw', hp⟩
  have ho := hw.thenL (L := L) (Mr := Mr) (fun p hp => List.mem_append_right _ hp) (List.sublist_append_left _ _) (fun p hp hm => hn.2.2 _ (mem_keys hp) _ hm rfl) hw'
  have hper : (Mr ++ M').Perm (M' ++ Mr) := List.perm_append_comm
  have hnn := (hper.map (·.1)).nodup_iff.2 ho.nodup
  refine ⟨v, Mr ++ M', rfl, ho.turn (fun p hp => hper.subset hp) hnn, hk v M' hp hnn fun p hp hne => ?_⟩
  rcases hw'.own p hp with h1 | h1
  · exact absurd h1 hne
  · exact ⟨Nat.le_trans hw.size h1, fun q hq => by have := hw.lt hq; omega⟩
theorem _root_.Go.W8.SlN.toO {l : List Int} {v : Value} {Mq : Blks} (h : SlN 1 (ints .i64 l) v Mq) (hn : (M.map (·.1)).Nodup) (hm : ∀ p ∈ Mq, p ∈ M) : ∃ R, RdO R l v ∧ HoldsAll W w0 M R := by
  rcases h with ⟨e, rfl, rfl⟩ | ⟨b, m, cap, cs, rfl, rfl, hr⟩
  · have : l = [] := by have := congrArg List.length e; rw [ints_length] at this; exact List.eq_nil_of_length_eq_zero this
    subst this
    exact ⟨[], .inl ⟨rfl, _, rfl⟩, fun _ hr => nomatch hr⟩
  · have hl := hr.len
    rw [ints_length] at hl
    obtain rfl : m = l.length := by omega
    refine ⟨[(b, 0, ints .i64 l)], .inr ⟨b, 0, cap, rfl, fun _ => rfl, fun _ => List.mem_singleton.2 rfl⟩, ?_⟩
    intro r hr1
    rw [List.mem_singleton.1 hr1]
    obtain ⟨rest, rfl⟩ := hr.pre
    intro j u hu
    have hf := findB_of hn (hm _ (List.mem_singleton.2 rfl))
    simp only at hu ⊢
    unfold cellAt
    rw [hf]
    have hj : j < (ints .i64 l).length := by
      rcases Nat.lt_or_ge j (ints .i64 l).length with h1 | h1
      · exact h1
      · rw [List.getElem?_eq_none h1] at hu; cases hu
    simp only [Nat.zero_add]
    rw [List.getElem?_append_left hj, hu]
theorem Cd.newer {Q : Exit → Env → Blks → Prop} {c : Code} (h : (∀ p ∈ M, p.1 ∈ W ∨ w0.heap.size ≤ p.1) → Cd P N W w0 c Q ρ M) : Cd P N W w0 c Q ρ M := fun a w ha hw => h hw.own a w ha hw
theorem new_ne {bl bq j : Nat} {u : Value} (h : bl ∈ W ∨ w0.heap.size ≤ bl) (hW : ¬ bl ∈ W) (hg : frn W w0 bq j = some u) : ¬ bl = bq := by
  rcases h with h | h
  · exact absurd h hW
  · exact told_ne (M := []) ⟨h, fun _ hp => nomatch hp⟩ hg
theorem GivesX.acallB {f : FuncId} {args : Array Value} {L Mr : Blks} {R : Rd} {Post R' : Value → Blks → Prop} (h : GivesX P f args L R Post) (hM : ((Mr ++ L).map (·.1)).Nodup) (e : M = Mr ++ L)
    (hR : ∀ w, Own W w0 M w → ToldW w R)
    (hk : ∀ v M', Post v M' → ((Mr ++ M').map (·.1)).Nodup → (∀ p ∈ M', p.1 ∉ L.map (·.1) → Fresh w0 M p.1) → R' v (Mr ++ M')) : ACall P W w0 f args M R' := by
  subst e
  have hn := hM
  rw [List.map_append, List.nodup_append] at hn
  refine ⟨h.1, fun w hw => (h.2 w hn.2.1 (fun p hp => hw.blk p (List.mem_append_right _ hp)) (hR w hw)).mono ?_⟩
  rintro e w' ⟨v, M', rfl, hw', hp⟩
  have ho := hw.thenL (L := L) (Mr := Mr) (fun p hp => List.mem_append_right _ hp) (List.sublist_append_left _ _) (fun p hp hm => hn.2.2 _ (mem_keys hp) _ hm rfl) hw'
  have hper : (Mr ++ M').Perm (M' ++ Mr) := List.perm_append_comm
  have hnn := (hper.map (·.1)).nodup_iff.2 ho.nodup
  refine ⟨v, Mr ++ M', rfl, ho.turn (fun p hp => hper.subset hp) hnn, hk v M' hp hnn fun p hp hne => ?_⟩
  rcases hw'.own p hp with h1 | h1
  · exact absurd h1 hne
  · exact ⟨Nat.le_trans hw.size h1, fun q hq => by have := hw.lt hq; omega⟩
theorem callK_lentB {n : FuncId} {args : List Value} {fs cs : Array Value} {d : Option Tmp} {ops : Array Oper} {rest : List Oper} {L Mr : Blks} {R : Rd} {Post : Value → Blks → Prop} {K : Env → Blks → Prop} (h : GivesX P n (fs.toList ++ (args ++ cs.toList)).toArray L R Post) (hM : ((Mr ++ L).map (·.1)).Nodup) (e : M = Mr ++ L)
    (hR : ∀ w, Own W w0 M w → ToldW w R)
    (hk : ∀ v M', Post v M' → ((Mr ++ M').map (·.1)).Nodup → (∀ p ∈ M', p.1 ∉ L.map (·.1) → Fresh w0 M p.1) → setD N ρ d v fun ρ' => evOps P N W w0 ops rest ρ' (Mr ++ M') K) : callK P N W w0 (.func (.func n) fs cs) args M d ρ ops rest K := by
  unfold callK
  exact GivesX.acallB h hM e hR hk
theorem callO_lentB {n : FuncId} {args : List Value} {fs cs : Array Value} {d : Option Tmp} {ops : Array Oper} {p : Plan} {L Mr : Blks} {R : Rd} {Post : Value → Blks → Prop} {K : Env → Blks → Prop} (h : GivesX P n (fs.toList ++ (args ++ cs.toList)).toArray L R Post) (hM : ((Mr ++ L).map (·.1)).Nodup) (e : M = Mr ++ L)
    (hR : ∀ w, Own W w0 M w → ToldW w R)
    (hk : ∀ v M', Post v M' → ((Mr ++ M').map (·.1)).Nodup → (∀ q ∈ M', q.1 ∉ L.map (·.1) → Fresh w0 M q.1) → setD N ρ d v fun ρ' => evPlan P N W w0 ops p ρ' (Mr ++ M') K) : callO P N W w0 (.func (.func n) fs cs) args M d ρ ops p K := by
  unfold callO
  exact GivesX.acallB h hM e hR hk
/-- .. of a function with captured places. -/
theorem callO_lentC {n : FuncId} {args cs : List Value} {d : Option Tmp} {ops : Array Oper} {p : Plan} {L Mr : Blks} {R : Rd} {Post : Value → Blks → Prop} {K : Env → Blks → Prop} (h : GivesX P n (args ++ cs).toArray L R Post) (hM : ((Mr ++ L).map (·.1)).Nodup) (e : M = Mr ++ L)
    (hR : ∀ w, Own W w0 M w → ToldW w R)
    (hk : ∀ v M', Post v M' → ((Mr ++ M').map (·.1)).Nodup → (∀ q ∈ M', q.1 ∉ L.map (·.1) → Fresh w0 M q.1) → setD N ρ d v fun ρ' => evPlan P N W w0 ops p ρ' (Mr ++ M') K) : callO P N W w0 (.func (.func n) #[] cs.toArray) args M d ρ ops p K := by
  unfold callO
  simp only [List.nil_append]
  exact GivesX.acallB h hM e hR hk
theorem callK_lentC {n : FuncId} {args cs : List Value} {d : Option Tmp} {ops : Array Oper} {rest : List Oper} {L Mr : Blks} {R : Rd} {Post : Value → Blks → Prop} {K : Env → Blks → Prop} (h : GivesX P n (args ++ cs).toArray L R Post) (hM : ((Mr ++ L).map (·.1)).Nodup) (e : M = Mr ++ L)
    (hR : ∀ w, Own W w0 M w → ToldW w R)
    (hk : ∀ v M', Post v M' → ((Mr ++ M').map (·.1)).Nodup → (∀ q ∈ M', q.1 ∉ L.map (·.1) → Fresh w0 M q.1) → setD N ρ d v fun ρ' => evOps P N W w0 ops rest ρ' (Mr ++ M') K) : callK P N W w0 (.func (.func n) #[] cs.toArray) args M d ρ ops rest K := by
  unfold callK
  simp only [List.nil_append]
  exact GivesX.acallB h hM e hR hk
/-- What reads only is a keeping too. -/
theorem GivesX.keep {f : FuncId} {args : Array Value} {L : Blks} {rep : Value → Blks → Prop} (h : GivesX P f args [] (toldOf L) rep) : GivesK P f args L rep := by
  refine ⟨h.1, fun w hn hL _ => ?_⟩
  have hown := Own.startL hL hn
  have hT : ToldW w (toldOf L) := toldW_mem (fun p hp => hp) w hown
  refine (h.2 w List.nodup_nil (fun _ hp => nomatch hp) hT).mono ?_
  rintro e w' ⟨v, M', rfl, hw', hp⟩
  have ho : Own (L.map (·.1)) w (M' ++ L) w' := hown.thenL (L := []) (fun _ hp => nomatch hp) (List.Sublist.refl _) (fun _ _ hm => nomatch hm) hw'
  refine ⟨v, M' ++ L, rfl, ho, M', fun p hp => List.mem_append_right _ hp, fun p hp => List.mem_append_left _ hp, ?_, hp⟩
  have hper : (M' ++ L).Perm (L ++ M') := List.perm_append_comm
  exact (hper.map (·.1)).nodup_iff.1 ho.nodup
end

end Go.Proofs
