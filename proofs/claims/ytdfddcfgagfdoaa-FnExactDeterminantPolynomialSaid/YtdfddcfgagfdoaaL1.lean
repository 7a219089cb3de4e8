/-
  A small calculus of walks over memory that is described, not spelled: worlds are known by the blocks that the call has made.
  Nothing here is about one program. Conditions: none.
-/
import Derived.WalkKit
namespace Go.W8

/-- What the temporaries hold. -/
abbrev Env := Nat → Value
/-- The blocks that are known whole: their numbers and their cells, the newest first. -/
abbrev Blks := List (Nat × List Value)

def upd (ρ : Env) (t : Nat) (v : Value) : Env := fun s => if s = t then v else ρ s

def ev (ρ : Env) : Operand → Value
  | .tmp t => ρ t
  | .const v => v
  | .global g => .pointer (some ⟨g, 0, none⟩)
  | .func f => .func (.func f) #[] #[]

def findB (b : Nat) : Blks → Option (List Value)
  | [] => none
  | (b', cs) :: M => if b' = b then some cs else findB b M

def setB (b : Nat) (cs : List Value) : Blks → Blks
  | [] => []
  | (b', cs') :: M => if b' = b then (b', cs) :: M else (b', cs') :: setB b cs M

/-- Seen from world w0: of what was there only the blocks of W may have turned; the blocks of M are new ones, or of W, and hold just these cells. -/
structure Own (W : List Nat) (w0 : World) (M : Blks) (w : World) : Prop where
  os : w.os = w0.os
  tape : w.tape = w0.tape
  output : w.output = w0.output
  size : w0.heap.size ≤ w.heap.size
  frame : ∀ k, k < w0.heap.size → k ∉ W → w.heap[k]? = w0.heap[k]?
  own : ∀ p ∈ M, p.1 ∈ W ∨ w0.heap.size ≤ p.1
  blk : ∀ p ∈ M, ∃ t, w.heap[p.1]? = some (.cells p.2.toArray t (0, 0))
  nodup : (M.map (·.1)).Nodup

theorem Own.start (w : World) : Own [] w [] w :=
  ⟨rfl, rfl, rfl, Nat.le_refl _, fun _ _ _ => rfl, (fun _ h => absurd h (by simp)), (fun _ h => absurd h (by simp)), List.nodup_nil⟩

theorem Own.sub {W : List Nat} {w0 w : World} {M M' : Blks} (h : Own W w0 M w) (hs : M'.Sublist M) : Own W w0 M' w :=
  ⟨h.os, h.tape, h.output, h.size, h.frame, fun p hp => h.own p (hs.subset hp), fun p hp => h.blk p (hs.subset hp), (hs.map _).nodup h.nodup⟩

theorem Own.lt {W : List Nat} {w0 w : World} {M : Blks} (h : Own W w0 M w) {p : Nat × List Value} (hp : p ∈ M) : p.1 < w.heap.size := by
  obtain ⟨t, ht⟩ := h.blk p hp
  rcases Nat.lt_or_ge p.1 w.heap.size with h1 | h1
  · exact h1
  · rw [Array.getElem?_eq_none h1] at ht; cases ht

theorem findB_mem {b : Nat} {cs : List Value} : ∀ {M : Blks}, findB b M = some cs → (b, cs) ∈ M
  | [], h => by simp [findB] at h
  | (b', cs') :: M, h => by
    unfold findB at h
    split at h
    · rename_i e; subst e; simp only [Option.some.injEq] at h; subst h; exact List.mem_cons_self
    · exact List.mem_cons_of_mem _ (findB_mem h)

theorem setB_fst (b : Nat) (cs : List Value) : ∀ (M : Blks), (setB b cs M).map (·.1) = M.map (·.1)
  | [] => rfl
  | (b', cs') :: M => by
    unfold setB
    split
    · rfl
    · simp [setB_fst b cs M]

theorem mem_setB {b : Nat} {cs : List Value} : ∀ {M : Blks} {p : Nat × List Value}, (M.map (·.1)).Nodup → p ∈ setB b cs M → p = (b, cs) ∨ (p ∈ M ∧ p.1 ≠ b)
  | [], _, _, h => by simp [setB] at h
  | (b', cs') :: M, p, hn, h => by
    unfold setB at h
    simp only [List.map_cons, List.nodup_cons] at hn
    split at h
    · rename_i e
      subst e
      rcases List.mem_cons.1 h with h | h
      · exact .inl h
      · refine .inr ⟨List.mem_cons_of_mem _ h, fun e => hn.1 ?_⟩
        rw [← e]; exact List.mem_map_of_mem h
    · rename_i e
      rcases List.mem_cons.1 h with h | h
      · subst h; exact .inr ⟨List.mem_cons_self, e⟩
      · rcases mem_setB hn.2 h with h | ⟨h, h'⟩
        · exact .inl h
        · exact .inr ⟨List.mem_cons_of_mem _ h, h'⟩

/-- A new block. -/
def Fresh (w0 : World) (M : Blks) (b : Nat) : Prop := w0.heap.size ≤ b ∧ ∀ p ∈ M, b ≠ p.1

theorem Own.push {W : List Nat} {w0 w : World} {M : Blks} (h : Own W w0 M w) (cs : List Value) (t : TypeId) :
    Fresh w0 M w.heap.size ∧ Own W w0 ((w.heap.size, cs) :: M) { w with heap := w.heap.push (.cells cs.toArray t) } := by
  have hf : ∀ p ∈ M, w.heap.size ≠ p.1 := fun p hp => by have := h.lt hp; omega
  refine ⟨⟨h.size, hf⟩, h.os, h.tape, h.output, ?_, ?_, ?_, ?_, ?_⟩
  · simp only [Array.size_push]; have := h.size; omega
  · intro k hk hW
    simp only [Array.getElem?_push]
    rw [if_neg (by have := h.size; omega)]
    exact h.frame k hk hW
  · intro p hp
    rcases List.mem_cons.1 hp with rfl | hp
    · exact .inr h.size
    · exact h.own p hp
  · intro p hp
    rcases List.mem_cons.1 hp with rfl | hp
    · exact ⟨t, by simp⟩
    · obtain ⟨t', ht'⟩ := h.blk p hp
      refine ⟨t', ?_⟩
      simp only [Array.getElem?_push]
      rw [if_neg (fun e => hf p hp e.symm)]
      exact ht'
  · simp only [List.map_cons, List.nodup_cons]
    refine ⟨fun hm => ?_, h.nodup⟩
    obtain ⟨p, hp, e⟩ := List.mem_map.1 hm
    exact hf p hp e.symm

/-- The heap's block b turned to other cells. -/
theorem Own.put {W : List Nat} {w0 w w' : World} {M : Blks} (h : Own W w0 M w) {b : Nat} {cs cs' : List Value} (hf : findB b M = some cs)
    (ho : w'.os = w.os) (ht : w'.tape = w.tape) (hout : w'.output = w.output) (hs : w'.heap.size = w.heap.size)
    (hb : ∀ t, w.heap[b]? = some (.cells cs.toArray t (0, 0)) → w'.heap[b]? = some (.cells cs'.toArray t (0, 0)))
    (hk : ∀ k, k ≠ b → w'.heap[k]? = w.heap[k]?) : Own W w0 (setB b cs' M) w' := by
  have hm := findB_mem hf
  refine ⟨ho.trans h.os, ht.trans h.tape, hout.trans h.output, by rw [hs]; exact h.size, ?_, ?_, ?_, by rw [setB_fst]; exact h.nodup⟩
  · intro k hk0 hW
    have hne : k ≠ b := by
      rintro rfl
      rcases h.own _ hm with h1 | h1
      · exact hW h1
      · omega
    rw [hk k hne]; exact h.frame k hk0 hW
  · intro p hp
    rcases mem_setB h.nodup hp with rfl | ⟨hp, _⟩
    · have := h.own _ hm; exact this
    · exact h.own p hp
  · intro p hp
    rcases mem_setB h.nodup hp with rfl | ⟨hp, hne⟩
    · obtain ⟨t, ht⟩ := h.blk _ hm
      exact ⟨t, hb t ht⟩
    · obtain ⟨t, ht⟩ := h.blk _ hp
      exact ⟨t, by rw [hk _ hne]; exact ht⟩

/-- A call that leaves all that was there as it was. -/
theorem Own.then_ {W : List Nat} {w0 w w' : World} {M M' : Blks} (h : Own W w0 M w) (h' : Own [] w M' w') : Own W w0 (M' ++ M) w' := by
  have hfr : ∀ k, k < w.heap.size → w'.heap[k]? = w.heap[k]? := fun k hk => h'.frame k hk (by simp)
  refine ⟨h'.os.trans h.os, h'.tape.trans h.tape, h'.output.trans h.output, Nat.le_trans h.size h'.size, ?_, ?_, ?_, ?_⟩
  · intro k hk hW
    rw [hfr k (Nat.lt_of_lt_of_le hk h.size)]
    exact h.frame k hk hW
  · intro p hp
    rcases List.mem_append.1 hp with hp | hp
    · rcases h'.own p hp with h1 | h1
      · cases h1
      · exact .inr (Nat.le_trans h.size h1)
    · exact h.own p hp
  · intro p hp
    rcases List.mem_append.1 hp with hp | hp
    · exact h'.blk p hp
    · obtain ⟨t, ht⟩ := h.blk p hp
      exact ⟨t, by rw [hfr _ (h.lt hp)]; exact ht⟩
  · rw [List.map_append, List.nodup_append]
    refine ⟨h'.nodup, h.nodup, ?_⟩
    intro a ha c hc
    obtain ⟨p, hp, rfl⟩ := List.mem_map.1 ha
    obtain ⟨q, hq, rfl⟩ := List.mem_map.1 hc
    have h1 := h.lt hq
    rcases h'.own p hp with h2 | h2
    · cases h2
    · omega

end Go.W8
