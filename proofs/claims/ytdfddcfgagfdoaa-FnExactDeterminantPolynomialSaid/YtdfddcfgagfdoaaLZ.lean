/-
  Slices in blocks of their own: how they read, grow and are lent. Nothing here is about one program. Conditions: none.
-/
import Derived.Test.YtdfddcfgagfdoaaLT
namespace Go.W8
set_option linter.unusedVariables false
set_option linter.unusedSimpArgs false
set_option linter.unusedSectionVars false

/-- A row in a block: what it holds, and room behind it. -/
structure Row (w : Nat) (l : List Value) (m cap : Nat) (cs : List Value) : Prop where
  len : l.length = m * w
  le : m ≤ cap
  size : cs.length = cap * w
  pre : ∃ rest, cs = l ++ rest

theorem Row.nil (w : Nat) : Row w [] 0 0 [] := ⟨by simp, Nat.le_refl _, by simp, [], rfl⟩
theorem Row.full {w m : Nat} {l : List Value} (h : l.length = m * w) : Row w l m m l := ⟨h, Nat.le_refl _, h, [], by simp⟩
theorem Row.take {w m cap : Nat} {l cs : List Value} (h : Row w l m cap cs) : cs.take (m * w) = l := by
  obtain ⟨rest, rfl⟩ := h.pre
  rw [← h.len, List.take_left]
theorem Row.snoc {w m cap m' cap' : Nat} {l cs news rest : List Value} (h : Row w l m cap cs) (hn : news.length = m' * w) (hc : m + m' ≤ cap') (hr : rest.length = (cap' - (m + m')) * w) : Row w (l ++ news) (m + m') cap' (cs.take (m * w) ++ news ++ rest) := by
  rw [h.take]
  refine ⟨by rw [List.length_append, h.len, hn, Nat.add_mul], hc, ?_, rest, rfl⟩
  rw [List.length_append, List.length_append, h.len, hn, hr, ← Nat.add_mul, ← Nat.add_mul]
  congr 1
  omega
theorem Row.snoc1 {m cap m' cap' : Nat} {l cs news rest : List Value} (h : Row 1 l m cap cs) (hn : news.length = m') (hc : m + m' ≤ cap') (hr : rest.length = cap' - (m + m')) : Row 1 (l ++ news) (m + m') cap' (cs.take m ++ news ++ rest) := by
  have := h.snoc (m' := m') (news := news) (rest := rest) (by omega) hc (by omega)
  rwa [Nat.mul_one] at this
theorem Row.size1 {m cap : Nat} {l cs : List Value} (h : Row 1 l m cap cs) : cs.length = cap := by rw [h.size, Nat.mul_one]
theorem Row.len1 {m cap : Nat} {l cs : List Value} (h : Row 1 l m cap cs) : l.length = m := by rw [h.len, Nat.mul_one]
theorem Row.first {w m' cap' : Nat} {news rest : List Value} (hn : news.length = m' * w) (hc : m' ≤ cap') (hr : rest.length = (cap' - m') * w) : Row w news m' cap' (news ++ rest) := by
  refine ⟨hn, hc, ?_, rest, rfl⟩
  rw [List.length_append, hn, hr, ← Nat.add_mul]
  congr 1
  omega
theorem Row.get {w m cap : Nat} {l cs : List Value} (h : Row w l m cap cs) {j : Nat} {u : Value} (hu : l[j]? = some u) : cs[j]? = some u := by
  obtain ⟨rest, rfl⟩ := h.pre
  have hj : j < l.length := by
    rcases Nat.lt_or_ge j l.length with h1 | h1
    · exact h1
    · rw [List.getElem?_eq_none h1] at hu; cases hu
  rw [List.getElem?_append_left hj, hu]
theorem Row.set {w m cap : Nat} {l cs : List Value} (h : Row w l m cap cs) {j : Nat} (hj : j < m * w) (u : Value) : Row w (l.set j u) m cap (cs.set j u) := by
  obtain ⟨rest, rfl⟩ := h.pre
  refine ⟨by rw [List.length_set, h.len], h.le, by rw [List.length_set, h.size], rest, ?_⟩
  rw [List.set_append_left _ _ (by rw [h.len]; exact hj)]
theorem Row.sub {w m cap : Nat} {l cs : List Value} (h : Row w l m cap cs) {o n : Nat} (hj : o + n ≤ m * w) : subL cs o n = subL l o n := by
  obtain ⟨rest, rfl⟩ := h.pre
  have := h.len
  unfold subL
  rw [List.drop_append_of_le_length (by omega), List.take_append_of_le_length (by rw [List.length_drop]; omega)]
theorem Row.fits {w m cap : Nat} {l cs : List Value} (h : Row w l m cap cs) {k : Nat} (hk : k ≤ m * w) : k ≤ cs.length := by
  rw [h.size]
  exact Nat.le_trans hk (Nat.mul_le_mul_right _ h.le)
theorem ints_append (k : IntKind) (l l' : List Int) : ints k (l ++ l') = ints k l ++ ints k l' := by simp [ints]
theorem ints_snoc (k : IntKind) (l : List Int) (a : Int) : ints k l ++ [.int k a] = ints k (l ++ [a]) := by simp [ints]

/-- A text of bytes. -/
def strB (l : List Int) : ByteArray := bytesOf (ints .u8 l)
theorem u8s_ints (l : List Int) : U8s (ints .u8 l) = True := eq_true ⟨l, rfl⟩
theorem u8s_sub {l : List Int} {o n : Nat} : U8s (subL (ints .u8 l) o n) = True := eq_true ⟨(l.drop o).take n, by simp [subL, ints]⟩
theorem bytes_strB (l : List Int) : bytesOf (ints .u8 l) = strB l := rfl
theorem push_eq (s : ByteArray) (b : UInt8) : s.push b = ⟨s.data.push b⟩ := rfl
theorem strB_data (l : List Int) : (strB l).data.toList = l.map fun n => UInt8.ofNat n.toNat := by
  have e : strB l = l.foldl (fun r n => r.push (UInt8.ofNat n.toNat)) ByteArray.empty := bytesOf_ints l _
  have key : ∀ (l : List Int) (s : ByteArray), (l.foldl (fun r n => r.push (UInt8.ofNat n.toNat)) s).data.toList = s.data.toList ++ l.map fun n => UInt8.ofNat n.toNat := by
    intro l
    induction l with
    | nil => intro s; simp
    | cons a l ih =>
      intro s
      simp only [List.map_cons, List.foldl_cons]
      rw [ih]
      show (s.data.push _).toList ++ _ = _
      simp
  rw [e, key]
  rfl
theorem bytes_ext {a b : ByteArray} (h : a.data.toList = b.data.toList) : a = b := by
  cases a; cases b
  congr 1
  exact Array.toList_inj.1 h
theorem append_data (a b : ByteArray) : (a ++ b).data.toList = a.data.toList ++ b.data.toList := by
  rw [ByteArray.data_append]; simp
theorem strB_append (l l' : List Int) : strB l ++ strB l' = strB (l ++ l') := bytes_ext (by rw [append_data, strB_data, strB_data, strB_data, List.map_append])
theorem strB_nil : strB [] = ByteArray.empty := rfl
theorem strB_size (l : List Int) : (strB l).size = l.length := by
  show (strB l).data.size = _
  rw [← Array.length_toList, strB_data, List.length_map]
theorem zeroCells_one (v : Value) (n : Nat) : (Builtin.zeroCells [v].toArray n).toList = List.replicate n v := by
  unfold Builtin.zeroCells
  apply List.ext_getElem?
  intro i
  by_cases h : i < n
  · simp [h, Nat.mod_one]
  · simp [h]

/-- A slice and the memory that it has for its own. -/
def SlN (w : Nat) (l : List Value) (v : Value) (M : Blks) : Prop :=
  (l = [] ∧ v = .slice none 0 0 ∧ M = []) ∨ ∃ b m cap cs, v = .slice (some ⟨b, 0, none⟩) m cap ∧ M = [(b, cs)] ∧ Row w l m cap cs
theorem SlN.nil (w : Nat) : SlN w [] (.slice none 0 0) [] := .inl ⟨rfl, rfl, rfl⟩
theorem SlN.row {w b m cap : Nat} {l cs : List Value} (h : Row w l m cap cs) : SlN w l (.slice (some ⟨b, 0, none⟩) m cap) [(b, cs)] := .inr ⟨b, m, cap, cs, rfl, rfl, h⟩

/-- A slice whose cells stand in what is told. -/
def RdS (R : Rd) (w : Nat) (l : List Value) (v : Value) : Prop := ∃ a m cap, v = .slice a m cap ∧ l.length = m * w ∧ (m ≠ 0 → ∃ b cs, a = some ⟨b, 0, none⟩ ∧ (b, 0, cs) ∈ R ∧ ∃ rest, cs = l ++ rest) ∧ (∀ a', a = some a' → ∃ b, a' = ⟨b, 0, none⟩) ∧ m ≤ cap
theorem SlN.reads {w : Nat} {l : List Value} {v : Value} {M : Blks} {R : Rd} (h : SlN w l v M) (hR : ∀ p ∈ M, (p.1, 0, p.2) ∈ R) : RdS R w l v := by
  rcases h with ⟨rfl, rfl, rfl⟩ | ⟨b, m, cap, cs, rfl, rfl, h⟩
  · exact ⟨_, _, _, rfl, by simp, fun hn => absurd rfl hn, (fun _ h => nomatch h), Nat.le_refl _⟩
  · exact ⟨_, _, _, rfl, h.len, fun _ => ⟨b, cs, rfl, hR _ List.mem_cons_self, h.pre⟩, (fun a' e => by cases e; exact ⟨b, rfl⟩), h.le⟩
theorem mem_toldOf {L : Blks} {p : Nat × List Value} (h : p ∈ L) : (p.1, 0, p.2) ∈ toldOf L := List.mem_map.2 ⟨p, h, rfl⟩

/-! ### Slices of slices of numbers -/

inductive RowsI : List (List Int) → List Value → Blks → Prop
  | nil : RowsI [] [] []
  | snoc {ll : List (List Int)} {vs : List Value} {M : Blks} {l : List Int} {v : Value} {Mv : Blks} (h : RowsI ll vs M) (hv : SlN 1 (ints .i64 l) v Mv) : RowsI (ll ++ [l]) (vs ++ [v]) (Mv ++ M)

theorem RowsI.len {ll : List (List Int)} {vs : List Value} {M : Blks} (h : RowsI ll vs M) : vs.length = ll.length := by
  induction h with
  | nil => rfl
  | snoc _ _ ih => simp [ih]

theorem RowsI.split {ll : List (List Int)} {vs : List Value} {M : Blks} (h : RowsI ll vs M) : ∀ {j : Nat}, j < ll.length → ∃ l v A Mj B, ll[j]? = some l ∧ vs[j]? = some v ∧ M = A ++ (Mj ++ B) ∧ SlN 1 (ints .i64 l) v Mj ∧
    ∀ l' v' Mj', SlN 1 (ints .i64 l') v' Mj' → RowsI (ll.set j l') (vs.set j v') (A ++ (Mj' ++ B)) := by
  induction h with
  | nil => intro j hj; simp at hj
  | @snoc ll vs M l v Mv h hv ih =>
    intro j hj
    have hl := h.len
    by_cases hjl : j < ll.length
    · obtain ⟨l0, v0, A, Mj, B, h1, h2, rfl, h4, h5⟩ := ih hjl
      refine ⟨l0, v0, Mv ++ A, Mj, B, by rw [List.getElem?_append_left hjl, h1], by rw [List.getElem?_append_left (by omega), h2], by rw [List.append_assoc], h4, fun l' v' Mj' h6 => ?_⟩
      rw [List.set_append_left _ _ hjl, List.set_append_left _ _ (by omega), List.append_assoc]
      exact .snoc (h5 l' v' Mj' h6) hv
    · have : j = ll.length := by simp at hj; omega
      subst this
      refine ⟨l, v, [], Mv, M, by simp, by rw [← hl]; simp, rfl, hv, fun l' v' Mj' h6 => ?_⟩
      have e1 : (ll ++ [l]).set ll.length l' = ll ++ [l'] := by rw [List.set_append_right _ _ (Nat.le_refl _), Nat.sub_self]; rfl
      have e2 : (vs ++ [v]).set ll.length v' = vs ++ [v'] := by rw [← hl, List.set_append_right _ _ (Nat.le_refl _), Nat.sub_self]; rfl
      rw [e1, e2]
      show RowsI _ _ (Mj' ++ M)
      exact .snoc h h6

theorem RowsI.nils : ∀ n : Nat, RowsI (List.replicate n []) (List.replicate n (.slice none 0 0)) []
  | 0 => .nil
  | n + 1 => by
    rw [List.replicate_succ', List.replicate_succ']
    exact .snoc (Mv := []) (RowsI.nils n) (SlN.nil 1)

def SlSl (ll : List (List Int)) (v : Value) (M : Blks) : Prop :=
  (ll = [] ∧ v = .slice none 0 0 ∧ M = []) ∨ ∃ b m cap cs vs Mi, v = .slice (some ⟨b, 0, none⟩) m cap ∧ M = (b, cs) :: Mi ∧ Row 1 vs m cap cs ∧ RowsI ll vs Mi

def RdSS (R : Rd) (ll : List (List Int)) (v : Value) : Prop := ∃ vs, RdS R 1 vs v ∧ vs.length = ll.length ∧ ∀ (j : Nat) (l : List Int) (u : Value), ll[j]? = some l → vs[j]? = some u → RdS R 1 (ints .i64 l) u

theorem SlSl.reads {ll : List (List Int)} {v : Value} {M : Blks} {R : Rd} (h : SlSl ll v M) (hR : ∀ p ∈ M, (p.1, 0, p.2) ∈ R) : RdSS R ll v := by
  rcases h with ⟨rfl, rfl, rfl⟩ | ⟨b, m, cap, cs, vs, Mi, rfl, rfl, h, hr⟩
  · exact ⟨[], ⟨_, _, _, rfl, by simp, fun hn => absurd rfl hn, (fun _ h => nomatch h), Nat.le_refl _⟩, rfl, fun j l u h => by simp at h⟩
  · refine ⟨vs, ⟨_, _, _, rfl, h.len, fun _ => ⟨b, cs, rfl, hR _ List.mem_cons_self, h.pre⟩, (fun a' e => by cases e; exact ⟨b, rfl⟩), h.le⟩, hr.len, fun j l u hl hu => ?_⟩
    have hj : j < ll.length := by
      rcases Nat.lt_or_ge j ll.length with h1 | h1
      · exact h1
      · rw [List.getElem?_eq_none h1] at hl; cases hl
    obtain ⟨l0, v0, A, Mj, B, h1, h2, rfl, h4, _⟩ := hr.split hj
    rw [h1] at hl
    rw [h2] at hu
    cases hl
    cases hu
    exact h4.reads fun p hp => hR p (by simp [hp])

/-- A value beside a code. -/
def ResS (rep : Value → Blks → Prop) (c : Int) (v : Value) (M : Blks) : Prop := ∃ s, v = .tuple #[s, .int .i64 c] ∧ rep s M

theorem nodup_left {A B : Blks} (h : ((A ++ B).map (·.1)).Nodup) : (A.map (·.1)).Nodup := by
  rw [List.map_append, List.nodup_append] at h; exact h.1
theorem nodup_right {A B : Blks} (h : ((A ++ B).map (·.1)).Nodup) : ∀ p ∈ B, p.1 ∉ A.map (·.1) := by
  rw [List.map_append, List.nodup_append] at h
  exact fun p hp hm => h.2.2 _ hm _ (List.mem_map_of_mem hp) rfl

section
variable {P : Program} {N : Nat} {W : List Nat} {w0 : World} {ρ : Env} {M M' : Blks}

theorem RdS.get {R : Rd} {w m cap j : Nat} {l : List Value} {a : Option Addr} {u : Value} (h : RdS R w l (.slice a m cap)) (ht : Told W w0 R) (hu : l[j]? = some u) : ∃ b, a = some ⟨b, 0, none⟩ ∧ frn W w0 b j = some u := by
  obtain ⟨a', m', cap', e, hl, h, _⟩ := h
  cases e
  have hj : j < l.length := by
    rcases Nat.lt_or_ge j l.length with h1 | h1
    · exact h1
    · rw [List.getElem?_eq_none h1] at hu; cases hu
  obtain ⟨b, cs, rfl, hm, rest, rfl⟩ := h (fun e => by rw [e, Nat.zero_mul] at hl; omega)
  refine ⟨b, rfl, ?_⟩
  have := ht _ hm j u (by simp only; rw [List.getElem?_append_left hj, hu])
  simpa using this

/-- Some cells in a row. -/
theorem RdS.many {R : Rd} {w m cap o n : Nat} {l : List Value} {a : Option Addr} (h : RdS R w l (.slice a m cap)) (ht : Told W w0 R) (hn : o + n ≤ l.length) (h0 : n ≠ 0 := by omega) : ∃ b, a = some ⟨b, 0, none⟩ ∧ (List.range n).mapM (fun j => frn W w0 b (o + j)) = some (subL l o n) := by
  obtain ⟨b, rfl, _⟩ := h.get ht (List.getElem?_eq_getElem (show o < l.length by omega))
  refine ⟨b, rfl, mapM_told (by simp [subL]; omega) fun j x y hx hy => ?_⟩
  have hj : j < n := by
    rcases Nat.lt_or_ge j n with h1 | h1
    · exact h1
    · rw [List.getElem?_eq_none (by simpa using h1)] at hx; cases hx
  rw [List.getElem?_range hj] at hx
  cases hx
  have e : l[o + j]? = some y := by
    simpa [subL, List.getElem?_take, List.getElem?_drop, hj] using hy
  obtain ⟨b', e', hb⟩ := h.get ht e
  cases e'
  exact hb

theorem findB_of {b : Nat} {cs : List Value} : ∀ {M : Blks}, (M.map (·.1)).Nodup → (b, cs) ∈ M → findB b M = some cs
  | [], _, h => nomatch h
  | (b', cs') :: M, hn, h => by
    simp only [List.map_cons, List.nodup_cons] at hn
    unfold findB
    rcases List.mem_cons.1 h with e | h
    · cases e; rw [if_pos rfl]
    · rw [if_neg, findB_of hn.2 h]
      rintro rfl
      exact hn.1 (List.mem_map.2 ⟨_, h, rfl⟩)

theorem holds_mem {L : Blks} (hn : (M.map (·.1)).Nodup) (h : ∀ p ∈ L, p ∈ M) : HoldsAll W w0 M (toldOf L) := by
  intro r hr
  obtain ⟨p, hp, rfl⟩ := List.mem_map.1 hr
  intro j v hv
  unfold cellAt
  rw [findB_of hn (h p hp)]
  simpa using hv

theorem told_append {R R' : Rd} : Told W w0 (R ++ R') ↔ Told W w0 R ∧ Told W w0 R' := by
  refine ⟨fun h => ⟨fun r hr => h r (List.mem_append_left _ hr), fun r hr => h r (List.mem_append_right _ hr)⟩, fun h r hr => ?_⟩
  rcases List.mem_append.1 hr with hr | hr
  · exact h.1 r hr
  · exact h.2 r hr

theorem nodup_cases {b : Nat} {cs : List Value} (h : (((b, cs) :: M).map (·.1)).Nodup) : (∀ p ∈ M, ¬ b = p.1) ∧ (M.map (·.1)).Nodup := by
  simp only [List.map_cons, List.nodup_cons] at h
  exact ⟨fun p hp e => h.1 (by rw [e]; exact List.mem_map_of_mem hp), h.2⟩

theorem callK_told0 {N : Nat} {n : FuncId} {args : List Value} {v : Value} {R : Rd} {d : Option Tmp} {ops : Array Oper} {rest : List Oper} {K : Env → Blks → Prop} (h : GivesR P n args.toArray R v)
    (hR : Told W w0 R) (hk : setD N ρ d v fun ρ' => evOps P N W w0 ops rest ρ' M K) : callK P N W w0 (.func (.func n) #[] #[]) args M d ρ ops rest K := callK_told (by simpa using h) hR hk
theorem callQ_told0 {N : Nat} {n : FuncId} {args : List Value} {v : Value} {R : Rd} {d : Option Tmp} {ops : Array Oper} {rest : List Oper} {K : Env → Prop} (h : GivesR P n args.toArray R v)
    (hR : Told W w0 R) (hk : setD N ρ d v fun ρ' => evQs P N W w0 ops rest ρ' M K) : callQ P N W w0 (.func (.func n) #[] #[]) args M d ρ ops rest K := callQ_told (by simpa using h) hR hk
theorem callQ_reads0 {N : Nat} {n : FuncId} {args : List Value} {v : Value} {R : Rd} {d : Option Tmp} {ops : Array Oper} {rest : List Oper} {K : Env → Prop} (h : GivesR P n args.toArray R v)
    (hR : HoldsAll W w0 M R) (hk : setD N ρ d v fun ρ' => evQs P N W w0 ops rest ρ' M K) : callQ P N W w0 (.func (.func n) #[] #[]) args M d ρ ops rest K := callQ_reads (by simpa using h) hR hk
theorem callP_reads0 {N : Nat} {n : FuncId} {args : List Value} {v : Value} {R : Rd} {d : Option Tmp} {ops : Array Oper} {p : Plan} {K : Env → Blks → Prop} (h : GivesR P n args.toArray R v)
    (hR : HoldsAll W w0 M R) (hk : setD N ρ d v fun ρ' => evPlan P N W w0 ops p ρ' M K) : callP P N W w0 (.func (.func n) #[] #[]) args M d ρ ops p K := callP_reads (by simpa using h) hR hk
theorem set_self {α : Type} {l : List α} {i : Nat} {v : α} (h : l[i]? = some v) : l.set i v = l := by
  apply List.ext_getElem?
  intro j
  by_cases e : i = j
  · subst e
    have hi : i < l.length := by
      rcases Nat.lt_or_ge i l.length with h1 | h1
      · exact h1
      · rw [List.getElem?_eq_none h1] at h; cases h
    rw [List.getElem?_set_self hi, h]
  · rw [List.getElem?_set_ne e]
theorem Cd.same {N : Nat} {Q : Exit → Env → Blks → Prop} {c : Operand} {x y : Code} {a b : Int} (hc : ev ρ c = .bool (a != b)) (he : a = b) (hf : Cd P N W w0 y Q ρ M) : Cd P N W w0 (.cond c x y) Q ρ M :=
  Cd.no (by rw [hc, bne_eq_false_iff_eq.2 he]) hf
def SubP (M0 M : Blks) : Prop := ∃ M1, M0.Perm M1 ∧ M1.Sublist M
theorem SubP.refl (M : Blks) : SubP M M := ⟨M, .refl _, .refl _⟩
theorem SubP.of {M0 M : Blks} (h : M0.Sublist M) : SubP M0 M := ⟨M0, .refl _, h⟩
theorem SubP.perm {M0 M1 M : Blks} (h : M0.Perm M1) (hs : M1.Sublist M) : SubP M0 M := ⟨M1, h, hs⟩
theorem perm_one {a b : Nat × List Value} {M : Blks} : (b :: a :: M).Perm (a :: b :: M) := .swap ..
theorem perm_two {a b c : Nat × List Value} {M : Blks} : (b :: c :: a :: M).Perm (a :: b :: c :: M) := (perm_one.cons b).trans perm_one
theorem perm_thr {a b c d : Nat × List Value} {M : Blks} : (b :: c :: d :: a :: M).Perm (a :: b :: c :: d :: M) := (perm_two.cons b).trans perm_one
theorem perm_fou {a b c d e : Nat × List Value} {M : Blks} : (b :: c :: d :: e :: a :: M).Perm (a :: b :: c :: d :: e :: M) := (perm_thr.cons b).trans perm_one
theorem Cd.sub {N : Nat} {Q : Exit → Env → Blks → Prop} {c : Code} (hs : SubP M' M) (h : Cd P N W w0 c Q ρ M') : Cd P N W w0 c Q ρ M := by
  obtain ⟨M1, h1, h2⟩ := hs
  exact Cd.drop h2 (Cd.turn h1 h)
/-- Of the blocks only some, in some order. -/
theorem Cd.subp {N : Nat} {Q : Exit → Env → Blks → Prop} {c : Code} {M1 : Blks} (hp : M'.Perm M1) (hs : M1.Sublist M) (h : Cd P N W w0 c Q ρ M') : Cd P N W w0 c Q ρ M := Cd.drop hs (Cd.turn hp h)

/-- A call that hands back new memory, which is told behind what was there. -/
theorem callK_newR {N : Nat} {n : FuncId} {args : List Value} {fs cs : Array Value} {d : Option Tmp} {ops : Array Oper} {rest : List Oper} {R : Rd} {Post : Value → Blks → Prop} {K : Env → Blks → Prop} (h : GivesX P n (fs.toList ++ (args ++ cs.toList)).toArray [] R Post)
    (hR : ∀ w, Own W w0 M w → ToldW w R) (hk : ∀ v M', Post v M' → ((M ++ M').map (·.1)).Nodup → (∀ p ∈ M', Fresh w0 M p.1) → setD N ρ d v fun ρ' => evOps P N W w0 ops rest ρ' (M ++ M') K) : callK P N W w0 (.func (.func n) fs cs) args M d ρ ops rest K := by
  refine ⟨h.1, fun w hw => (h.2 w List.nodup_nil (fun _ hp => nomatch hp) (hR w hw)).mono ?_⟩
  rintro e w' ⟨v, M', rfl, hw', hp⟩
  have ho : Own W w0 (M' ++ M) w' := hw.thenL (L := []) (fun _ hp => nomatch hp) (List.Sublist.refl _) (fun _ _ hm => nomatch hm) hw'
  have hper : (M ++ M').Perm (M' ++ M) := List.perm_append_comm
  have hn := (hper.map (·.1)).nodup_iff.2 ho.nodup
  refine ⟨v, M ++ M', rfl, ho.turn (fun p hp => hper.subset hp) hn, hk v M' hp hn fun p hp => ?_⟩
  rcases hw'.own p hp with h1 | h1
  · exact nomatch h1
  · exact ⟨Nat.le_trans hw.size h1, fun q hq => by have := hw.lt hq; omega⟩
theorem callK_newR0 {N : Nat} {n : FuncId} {args : List Value} {d : Option Tmp} {ops : Array Oper} {rest : List Oper} {R : Rd} {Post : Value → Blks → Prop} {K : Env → Blks → Prop} (h : GivesX P n args.toArray [] R Post)
    (hR : ∀ w, Own W w0 M w → ToldW w R) (hk : ∀ v M', Post v M' → ((M ++ M').map (·.1)).Nodup → (∀ p ∈ M', Fresh w0 M p.1) → setD N ρ d v fun ρ' => evOps P N W w0 ops rest ρ' (M ++ M') K) : callK P N W w0 (.func (.func n) #[] #[]) args M d ρ ops rest K :=
  callK_newR (by simpa using h) hR hk
/-- Of the memory that a call hands back only a part is told. -/
theorem GivesX.part {f : FuncId} {args : Array Value} {L : Blks} {R : Rd} {Post : Value → Blks → Prop} (h : GivesX P f args L R fun v M => ∃ M1, SubP M1 M ∧ Post v M1) : GivesX P f args L R Post :=
  ⟨h.1, fun w hn hL hR => (h.2 w hn hL hR).mono fun _ _ ⟨v, M', h1, h2, M1, ⟨M2, h3, h4⟩, h5⟩ =>
    ⟨v, M1, h1, (h2.sub h4).turn (fun p hp => h3.subset hp) ((h3.map (·.1)).nodup_iff.2 (h2.sub h4).nodup), h5⟩⟩

/-- A call in a plan that may turn memory, closed to the walk's own reckoning. -/
def callO (P : Program) (N : Nat) (W : List Nat) (w0 : World) (f : Value) (args : List Value) (M : Blks) (d : Option Tmp) (ρ : Env) (ops : Array Oper) (p : Plan) (K : Env → Blks → Prop) : Prop :=
  match f with
  | .func (.func n) first captured => ACall P W w0 n (first.toList ++ (args ++ captured.toList)).toArray M fun v M' => setD N ρ d v fun ρ' => evPlan P N W w0 ops p ρ' M' K
  | _ => False
theorem evOp_callO {N : Nat} {f : Operand} {args : Array Operand} {ts : Array TypeId} {d : Option Tmp} {T : TypeId} {pos : String} {aft : Array Edge} {g : Option (Nat × Bool)} {ops : Array Oper} {p : Plan} {K : Env → Blks → Prop} :
    evOp P N W w0 ⟨d, .call ⟨.value f, args, ts⟩, T, pos, aft, g⟩ ρ M (fun ρ' M' => evPlan P N W w0 ops p ρ' M' K) = callO P N W w0 (ev ρ f) (args.toList.map (ev ρ)) M d ρ ops p K := by
  unfold evOp callO
  rfl
theorem callO_gives {N : Nat} {n : FuncId} {args : List Value} {v : Value} {d : Option Tmp} {ops : Array Oper} {p : Plan} {K : Env → Blks → Prop} (h : Gives P n args.toArray v)
    (hk : setD N ρ d v fun ρ' => evPlan P N W w0 ops p ρ' M K) : callO P N W w0 (.func (.func n) #[] #[]) args M d ρ ops p K := by
  unfold callO
  simp only [List.append_nil, List.nil_append]
  exact h.acall hk
theorem callO_reads0 {N : Nat} {n : FuncId} {args : List Value} {v : Value} {R : Rd} {d : Option Tmp} {ops : Array Oper} {p : Plan} {K : Env → Blks → Prop} (h : GivesR P n args.toArray R v)
    (hR : HoldsAll W w0 M R) (hk : setD N ρ d v fun ρ' => evPlan P N W w0 ops p ρ' M K) : callO P N W w0 (.func (.func n) #[] #[]) args M d ρ ops p K := by
  unfold callO
  simp only [List.append_nil, List.nil_append]
  exact (h.qcall hR).acall hk
/-- A call that hands back new memory, which is told behind what was there. -/
theorem callO_newR {N : Nat} {n : FuncId} {args : List Value} {fs cs : Array Value} {d : Option Tmp} {ops : Array Oper} {p : Plan} {R : Rd} {Post : Value → Blks → Prop} {K : Env → Blks → Prop} (h : GivesX P n (fs.toList ++ (args ++ cs.toList)).toArray [] R Post)
    (hR : ∀ w, Own W w0 M w → ToldW w R) (hk : ∀ v M', Post v M' → ((M ++ M').map (·.1)).Nodup → (∀ p1 ∈ M', Fresh w0 M p1.1) → setD N ρ d v fun ρ' => evPlan P N W w0 ops p ρ' (M ++ M') K) : callO P N W w0 (.func (.func n) fs cs) args M d ρ ops p K := by
  refine ⟨h.1, fun w hw => (h.2 w List.nodup_nil (fun _ hp => nomatch hp) (hR w hw)).mono ?_⟩
  rintro e w' ⟨v, M', rfl, hw', hp⟩
  have ho : Own W w0 (M' ++ M) w' := hw.thenL (L := []) (fun _ hp => nomatch hp) (List.Sublist.refl _) (fun _ _ hm => nomatch hm) hw'
  have hper : (M ++ M').Perm (M' ++ M) := List.perm_append_comm
  have hn := (hper.map (·.1)).nodup_iff.2 ho.nodup
  refine ⟨v, M ++ M', rfl, ho.turn (fun p hp => hper.subset hp) hn, hk v M' hp hn fun p hp => ?_⟩
  rcases hw'.own p hp with h1 | h1
  · exact nomatch h1
  · exact ⟨Nat.le_trans hw.size h1, fun q hq => by have := hw.lt hq; omega⟩
theorem callO_newR0 {N : Nat} {n : FuncId} {args : List Value} {d : Option Tmp} {ops : Array Oper} {p : Plan} {R : Rd} {Post : Value → Blks → Prop} {K : Env → Blks → Prop} (h : GivesX P n args.toArray [] R Post)
    (hR : ∀ w, Own W w0 M w → ToldW w R) (hk : ∀ v M', Post v M' → ((M ++ M').map (·.1)).Nodup → (∀ p1 ∈ M', Fresh w0 M p1.1) → setD N ρ d v fun ρ' => evPlan P N W w0 ops p ρ' (M ++ M') K) : callO P N W w0 (.func (.func n) #[] #[]) args M d ρ ops p K :=
  callO_newR (by simpa using h) hR hk

end
end Go.W8
