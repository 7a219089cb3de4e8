/-
  Slices in blocks of their own: how they read, grow and are lent. Nothing here is about one program. Conditions: none.
-/
import Derived.ProofKit
import Derived.OpenShut
import Derived.Below
import Derived.ChangeSame
import Derived.Test.YtdfddcfgagfdoaaProg
import Derived.Test.YtdfddcfgagfdoaaM1
namespace Go.W8
set_option linter.unusedVariables false
set_option linter.unusedSimpArgs false
set_option linter.unusedSectionVars false

/-- A row in a block: what it holds, and room behind it. -/
structure Row (w : Nat) (l : List Value) (m cap : Nat) (cs : List Value) : Prop where
  len : l.length = m * w
  le : m ≤ cap
  size : cs.length = cap * w
  pre : ∃ rest, cs = l ++ rest

theorem Row.nil (w : Nat) : Row w [] 0 0 [] := ⟨by simp, Nat.le_refl _, by simp, [], rfl⟩
theorem Row.full {w m : Nat} {l : List Value} (h : l.length = m * w) : Row w l m m l := ⟨h, Nat.le_refl _, h, [], by simp⟩
theorem Row.take {w m cap : Nat} {l cs : List Value} (h : Row w l m cap cs) : cs.take (m * w) = l := by
  obtain ⟨rest, rfl⟩ := h.pre
  rw [← h.len, List.take_left]
theorem Row.snoc {w m cap m' cap' : Nat} {l cs news rest : List Value} (h : Row w l m cap cs) (hn : news.length = m' * w) (hc : m + m' ≤ cap') (hr : rest.length = (cap' - (m + m')) * w) : Row w (l ++ news) (m + m') cap' (cs.take (m * w) ++ news ++ rest) := by
  rw [h.take]
  refine ⟨by rw [List.length_append, h.len, hn, Nat.add_mul], hc, ?_, rest, rfl⟩
  rw [List.length_append, List.length_append, h.len, hn, hr, ← Nat.add_mul, ← Nat.add_mul]
  congr 1
  omega
theorem Row.snoc1 {m cap m' cap' : Nat} {l cs news rest : List Value} (h : Row 1 l m cap cs) (hn : news.length = m') (hc : m + m' ≤ cap') (hr : rest.length = cap' - (m + m')) : Row 1 (l ++ news) (m + m') cap' (cs.take m ++ news ++ rest) := by
  have := h.snoc (m' := m') (news := news) (rest := rest) (by omega) hc (by omega)
  rwa [Nat.mul_one] at this
theorem Row.size1 {m cap : Nat} {l cs : List Value} (h : Row 1 l m cap cs) : cs.length = cap := by rw [h.size, Nat.mul_one]
theorem Row.len1 {m cap : Nat} {l cs : List Value} (h : Row 1 l m cap cs) : l.length = m := by rw [h.len, Nat.mul_one]
theorem Row.first {w m' cap' : Nat} {news rest : List Value} (hn : news.length = m' * w) (hc : m' ≤ cap') (hr : rest.length = (cap' - m') * w) : Row w news m' cap' (news ++ rest) := by
  refine ⟨hn, hc, ?_, rest, rfl⟩
  rw [List.length_append, hn, hr, ← Nat.add_mul]
  congr 1
  omega
theorem Row.get {w m cap : Nat} {l cs : List Value} (h : Row w l m cap cs) {j : Nat} {u : Value} (hu : l[j]? = some u) : cs[j]? = some u := by
  obtain ⟨rest, rfl⟩ := h.pre
  have hj : j < l.length := by
    rcases Nat.lt_or_ge j l.length with h1 | h1
    · exact h1
    · rw [List.getElem?_eq_none h1] at hu; cases hu
  rw [List.getElem?_append_left hj, hu]
theorem Row.set {w m cap : Nat} {l cs : List Value} (h : Row w l m cap cs) {j : Nat} (hj : j < m * w) (u : Value) : Row w (l.set j u) m cap (cs.set j u) := by
  obtain ⟨rest, rfl⟩ := h.pre
  refine ⟨by rw [List.length_set, h.len], h.le, by rw [List.length_set, h.size], rest, ?_⟩
  rw [List.set_append_left _ _ (by rw [h.len]; exact hj)]
theorem Row.sub {w m cap : Nat} {l cs : List Value} (h : Row w l m cap cs) {o n : Nat} (hj : o + n ≤ m * w) : subL cs o n = subL l o n := by
  obtain ⟨rest, rfl⟩ := h.pre
  have := h.len
  unfold subL
  rw [List.drop_append_of_le_length (by omega), List.take_append_of_le_length (by rw [List.length_drop]; omega)]
theorem Row.fits {w m cap : Nat} {l cs : List Value} (h : Row w l m cap cs) {k : Nat} (hk : k ≤ m * w) : k ≤ cs.length := by
  rw [h.size]
  exact Nat.le_trans hk (Nat.mul_le_mul_right _ h.le)
theorem ints_append (k : IntKind) (l l' : List Int) : ints k (l ++ l') = ints k l ++ ints k l' := by simp [ints]
theorem ints_snoc (k : IntKind) (l : List Int) (a : Int) : ints k l ++ [.int k a] = ints k (l ++ [a]) := by simp [ints]

/-- A text of bytes. -/
def strB (l : List Int) : ByteArray := bytesOf (ints .u8 l)
theorem u8s_ints (l : List Int) : U8s (ints .u8 l) = True := eq_true ⟨l, rfl⟩
theorem u8s_sub {l : List Int} {o n : Nat} : U8s (subL (ints .u8 l) o n) = True := eq_true ⟨(l.drop o).take n, by simp [subL, ints]⟩
theorem bytes_strB (l : List Int) : bytesOf (ints .u8 l) = strB l := rfl
theorem push_eq (s : ByteArray) (b : UInt8) : s.push b = ⟨s.data.push b⟩ := rfl
theorem strB_data (l : List Int) : (strB l).data.toList = l.map fun n => UInt8.ofNat n.toNat := by
  have e : strB l = l.foldl (fun r n => r.push (UInt8.ofNat n.toNat)) ByteArray.empty := bytesOf_ints l _
  have key : ∀ (l : List Int) (s : ByteArray), (l.foldl (fun r n => r.push (UInt8.ofNat n.toNat)) s).data.toList = s.data.toList ++ l.map fun n => UInt8.ofNat n.toNat := by
    intro l
    induction l with
    | nil => intro s; simp
    | cons a l ih =>
      intro s
      simp only [List.map_cons, List.foldl_cons]
      rw [ih]
      show (s.data.push _).toList ++ _ = _
      simp
  rw [e, key]
  rfl
theorem bytes_ext {a b : ByteArray} (h : a.data.toList = b.data.toList) : a = b := by
  cases a; cases b
  congr 1
  exact Array.toList_inj.1 h
theorem append_data (a b : ByteArray) : (a ++ b).data.toList = a.data.toList ++ b.data.toList := by
  rw [ByteArray.data_append]; simp
theorem strB_append (l l' : List Int) : strB l ++ strB l' = strB (l ++ l') := bytes_ext (by rw [append_data, strB_data, strB_data, strB_data, List.map_append])
theorem strB_nil : strB [] = ByteArray.empty := rfl
theorem strB_size (l : List Int) : (strB l).size = l.length := by
  show (strB l).data.size = _
  rw [← Array.length_toList, strB_data, List.length_map]
theorem zeroCells_one (v : Value) (n : Nat) : (Builtin.zeroCells [v].toArray n).toList = List.replicate n v := by
  unfold Builtin.zeroCells
  apply List.ext_getElem?
  intro i
  by_cases h : i < n
  · simp [h, Nat.mod_one]
  · simp [h]

/-- A slice and the memory that it has for its own. -/
def SlN (w : Nat) (l : List Value) (v : Value) (M : Blks) : Prop :=
  (l = [] ∧ v = .slice none 0 0 ∧ M = []) ∨ ∃ b m cap cs, v = .slice (some ⟨b, 0, none⟩) m cap ∧ M = [(b, cs)] ∧ Row w l m cap cs
theorem SlN.nil (w : Nat) : SlN w [] (.slice none 0 0) [] := .inl ⟨rfl, rfl, rfl⟩
theorem SlN.row {w b m cap : Nat} {l cs : List Value} (h : Row w l m cap cs) : SlN w l (.slice (some ⟨b, 0, none⟩) m cap) [(b, cs)] := .inr ⟨b, m, cap, cs, rfl, rfl, h⟩

/-- A slice whose cells stand in what is told. -/
def RdS (R : Rd) (w : Nat) (l : List Value) (v : Value) : Prop := ∃ a m cap, v = .slice a m cap ∧ l.length = m * w ∧ (m ≠ 0 → ∃ b cs, a = some ⟨b, 0, none⟩ ∧ (b, 0, cs) ∈ R ∧ ∃ rest, cs = l ++ rest) ∧ (∀ a', a = some a' → ∃ b, a' = ⟨b, 0, none⟩) ∧ m ≤ cap
theorem SlN.reads {w : Nat} {l : List Value} {v : Value} {M : Blks} {R : Rd} (h : SlN w l v M) (hR : ∀ p ∈ M, (p.1, 0, p.2) ∈ R) : RdS R w l v := by
  rcases h with ⟨rfl, rfl, rfl⟩ | ⟨b, m, cap, cs, rfl, rfl, h⟩
  · exact ⟨_, _, _, rfl, by simp, fun hn => absurd rfl hn, (fun _ h => nomatch h), Nat.le_refl _⟩
  · exact ⟨_, _, _, rfl, h.len, fun _ => ⟨b, cs, rfl, hR _ List.mem_cons_self, h.pre⟩, (fun a' e => by cases e; exact ⟨b, rfl⟩), h.le⟩
theorem mem_toldOf {L : Blks} {p : Nat × List Value} (h : p ∈ L) : (p.1, 0, p.2) ∈ toldOf L := List.mem_map.2 ⟨p, h, rfl⟩

/-! ### Slices of slices of numbers -/

inductive RowsI : List (List Int) → List Value → Blks → Prop
  | nil : RowsI [] [] []
  | snoc {ll : List (List Int)} {vs : List Value} {M : Blks} {l : List Int} {v : Value} {Mv : Blks} (h : RowsI ll vs M) (hv : SlN 1 (ints .i64 l) v Mv) : RowsI (ll ++ [l]) (vs ++ [v]) (Mv ++ M)

theorem RowsI.len {ll : List (List Int)} {vs : List Value} {M : Blks} (h : RowsI ll vs M) : vs.length = ll.length := by
  induction h with
  | nil => rfl
  | snoc _ _ ih => simp [ih]

theorem RowsI.split {ll : List (List Int)} {vs : List Value} {M : Blks} (h : RowsI ll vs M) : ∀ {j : Nat}, j < ll.length → ∃ l v A Mj B, ll[j]? = some l ∧ vs[j]? = some v ∧ M = A ++ (Mj ++ B) ∧ SlN 1 (ints .i64 l) v Mj ∧
    ∀ l' v' Mj', SlN 1 (ints .i64 l') v' Mj' → RowsI (ll.set j l') (vs.set j v') (A ++ (Mj' ++ B)) := by
  induction h with
  | nil => intro j hj; simp at hj
  | @snoc ll vs M l v Mv h hv ih =>
    intro j hj
    have hl := h.len
    by_cases hjl : j < ll.length
    · obtain ⟨l0, v0, A, Mj, B, h1, h2, rfl, h4, h5⟩ := ih hjl
      refine ⟨l0, v0, Mv ++ A, Mj, B, by rw [List.getElem?_append_left hjl, h1], by rw [List.getElem?_append_left (by omega), h2], by rw [List.append_assoc], h4, fun l' v' Mj' h6 => ?_⟩
      rw [List.set_append_left _ _ hjl, List.set_append_left _ _ (by omega), List.append_assoc]
      exact .snoc (h5 l' v' Mj' h6) hv
    · have : j = ll.length := by simp at hj; omega
      subst this
      refine ⟨l, v, [], Mv, M, by simp, by rw [← hl]; simp, rfl, hv, fun l' v' Mj' h6 => ?_⟩
      have e1 : (ll ++ [l]).set ll.length l' = ll ++ [l'] := by rw [List.set_append_right _ _ (Nat.le_refl _), Nat.sub_self]; rfl
      have e2 : (vs ++ [v]).set ll.length v' = vs ++ [v'] := by rw [← hl, List.set_append_right _ _ (Nat.le_refl _), Nat.sub_self]; rfl
      rw [e1, e2]
      show RowsI _ _ (Mj' ++ M)
      exact .snoc h h6

theorem RowsI.nils : ∀ n : Nat, RowsI (List.replicate n []) (List.replicate n (.slice none 0 0)) []
  | 0 => .nil
  | n + 1 => by
    rw [List.replicate_succ', List.replicate_succ']
    exact .snoc (Mv := []) (RowsI.nils n) (SlN.nil 1)

def SlSl (ll : List (List Int)) (v : Value) (M : Blks) : Prop :=
  (ll = [] ∧ v = .slice none 0 0 ∧ M = []) ∨ ∃ b m cap cs vs Mi, v = .slice (some ⟨b, 0, none⟩) m cap ∧ M = (b, cs) :: Mi ∧ Row 1 vs m cap cs ∧ RowsI ll vs Mi

def RdSS (R : Rd) (ll : List (List Int)) (v : Value) : Prop := ∃ vs, RdS R 1 vs v ∧ vs.length = ll.length ∧ ∀ (j : Nat) (l : List Int) (u : Value), ll[j]? = some l → vs[j]? = some u → RdS R 1 (ints .i64 l) u

theorem SlSl.reads {ll : List (List Int)} {v : Value} {M : Blks} {R : Rd} (h : SlSl ll v M) (hR : ∀ p ∈ M, (p.1, 0, p.2) ∈ R) : RdSS R ll v := by
  rcases h with ⟨rfl, rfl, rfl⟩ | ⟨b, m, cap, cs, vs, Mi, rfl, rfl, h, hr⟩
  · exact ⟨[], ⟨_, _, _, rfl, by simp, fun hn => absurd rfl hn, (fun _ h => nomatch h), Nat.le_refl _⟩, rfl, fun j l u h => by simp at h⟩
  · refine ⟨vs, ⟨_, _, _, rfl, h.len, fun _ => ⟨b, cs, rfl, hR _ List.mem_cons_self, h.pre⟩, (fun a' e => by cases e; exact ⟨b, rfl⟩), h.le⟩, hr.len, fun j l u hl hu => ?_⟩
    have hj : j < ll.length := by
      rcases Nat.lt_or_ge j ll.length with h1 | h1
      · exact h1
      · rw [List.getElem?_eq_none h1] at hl; cases hl
    obtain ⟨l0, v0, A, Mj, B, h1, h2, rfl, h4, _⟩ := hr.split hj
    rw [h1] at hl
    rw [h2] at hu
    cases hl
    cases hu
    exact h4.reads fun p hp => hR p (by simp [hp])

/-- A value beside a code. -/
def ResS (rep : Value → Blks → Prop) (c : Int) (v : Value) (M : Blks) : Prop := ∃ s, v = .tuple #[s, .int .i64 c] ∧ rep s M

theorem nodup_left {A B : Blks} (h : ((A ++ B).map (·.1)).Nodup) : (A.map (·.1)).Nodup := by
  rw [List.map_append, List.nodup_append] at h; exact h.1
theorem nodup_right {A B : Blks} (h : ((A ++ B).map (·.1)).Nodup) : ∀ p ∈ B, p.1 ∉ A.map (·.1) := by
  rw [List.map_append, List.nodup_append] at h
  exact fun p hp hm => h.2.2 _ hm _ (List.mem_map_of_mem hp) rfl

section
variable {P : Program} {N : Nat} {W : List Nat} {w0 : World} {ρ : Env} {M M' : Blks}

theorem RdS.get {R : Rd} {w m cap j : Nat} {l : List Value} {a : Option Addr} {u : Value} (h : RdS R w l (.slice a m cap)) (ht : Told W w0 R) (hu : l[j]? = some u) : ∃ b, a = some ⟨b, 0, none⟩ ∧ frn W w0 b j = some u := by
  obtain ⟨a', m', cap', e, hl, h, _⟩ := h
  cases e
  have hj : j < l.length := by
    rcases Nat.lt_or_ge j l.length with h1 | h1
    · exact h1
    · rw [List.getElem?_eq_none h1] at hu; cases hu
  obtain ⟨b, cs, rfl, hm, rest, rfl⟩ := h (fun e => by rw [e, Nat.zero_mul] at hl; omega)
  refine ⟨b, rfl, ?_⟩
  have := ht _ hm j u (by simp only; rw [List.getElem?_append_left hj, hu])
  simpa using this

/-- Some cells in a row. -/
theorem RdS.many {R : Rd} {w m cap o n : Nat} {l : List Value} {a : Option Addr} (h : RdS R w l (.slice a m cap)) (ht : Told W w0 R) (hn : o + n ≤ l.length) (h0 : n ≠ 0 := by omega) : ∃ b, a = some ⟨b, 0, none⟩ ∧ (List.range n).mapM (fun j => frn W w0 b (o + j)) = some (subL l o n) := by
  obtain ⟨b, rfl, _⟩ := h.get ht (List.getElem?_eq_getElem (show o < l.length by omega))
  refine ⟨b, rfl, mapM_told (by simp [subL]; omega) fun j x y hx hy => ?_⟩
  have hj : j < n := by
    rcases Nat.lt_or_ge j n with h1 | h1
    · exact h1
    · rw [List.getElem?_eq_none (by simpa using h1)] at hx; cases hx
  rw [List.getElem?_range hj] at hx
  cases hx
  have e : l[o + j]? = some y := by
    simpa [subL, List.getElem?_take, List.getElem?_drop, hj] using hy
  obtain ⟨b', e', hb⟩ := h.get ht e
  cases e'
  exact hb

theorem findB_of {b : Nat} {cs : List Value} : ∀ {M : Blks}, (M.map (·.1)).Nodup → (b, cs) ∈ M → findB b M = some cs
  | [], _, h => nomatch h
  | (b', cs') :: M, hn, h => by
    simp only [List.map_cons, List.nodup_cons] at hn
    unfold findB
    rcases List.mem_cons.1 h with e | h
    · cases e; rw [if_pos rfl]
    · rw [if_neg, findB_of hn.2 h]
      rintro rfl
      exact hn.1 (List.mem_map.2 ⟨_, h, rfl⟩)

theorem holds_mem {L : Blks} (hn : (M.map (·.1)).Nodup) (h : ∀ p ∈ L, p ∈ M) : HoldsAll W w0 M (toldOf L) := by
  intro r hr
  obtain ⟨p, hp, rfl⟩ := List.mem_map.1 hr
  intro j v hv
  unfold cellAt
  rw [findB_of hn (h p hp)]
  simpa using hv

theorem told_append {R R' : Rd} : Told W w0 (R ++ R') ↔ Told W w0 R ∧ Told W w0 R' := by
  refine ⟨fun h => ⟨fun r hr => h r (List.mem_append_left _ hr), fun r hr => h r (List.mem_append_right _ hr)⟩, fun h r hr => ?_⟩
  rcases List.mem_append.1 hr with hr | hr
  · exact h.1 r hr
  · exact h.2 r hr

theorem nodup_cases {b : Nat} {cs : List Value} (h : (((b, cs) :: M).map (·.1)).Nodup) : (∀ p ∈ M, ¬ b = p.1) ∧ (M.map (·.1)).Nodup := by
  simp only [List.map_cons, List.nodup_cons] at h
  exact ⟨fun p hp e => h.1 (by rw [e]; exact List.mem_map_of_mem hp), h.2⟩

theorem callK_told0 {N : Nat} {n : FuncId} {args : List Value} {v : Value} {R : Rd} {d : Option Tmp} {ops : Array Oper} {rest : List Oper} {K : Env → Blks → Prop} (h : GivesR P n args.toArray R v)
    (hR : Told W w0 R) (hk : setD N ρ d v fun ρ' => evOps P N W w0 ops rest ρ' M K) : callK P N W w0 (.func (.func n) #[] #[]) args M d ρ ops rest K := callK_told (by simpa using h) hR hk
theorem callQ_told0 {N : Nat} {n : FuncId} {args : List Value} {v : Value} {R : Rd} {d : Option Tmp} {ops : Array Oper} {rest : List Oper} {K : Env → Prop} (h : GivesR P n args.toArray R v)
    (hR : Told W w0 R) (hk : setD N ρ d v fun ρ' => evQs P N W w0 ops rest ρ' M K) : callQ P N W w0 (.func (.func n) #[] #[]) args M d ρ ops rest K := callQ_told (by simpa using h) hR hk
theorem callQ_reads0 {N : Nat} {n : FuncId} {args : List Value} {v : Value} {R : Rd} {d : Option Tmp} {ops : Array Oper} {rest : List Oper} {K : Env → Prop} (h : GivesR P n args.toArray R v)
    (hR : HoldsAll W w0 M R) (hk : setD N ρ d v fun ρ' => evQs P N W w0 ops rest ρ' M K) : callQ P N W w0 (.func (.func n) #[] #[]) args M d ρ ops rest K := callQ_reads (by simpa using h) hR hk
theorem callP_reads0 {N : Nat} {n : FuncId} {args : List Value} {v : Value} {R : Rd} {d : Option Tmp} {ops : Array Oper} {p : Plan} {K : Env → Blks → Prop} (h : GivesR P n args.toArray R v)
    (hR : HoldsAll W w0 M R) (hk : setD N ρ d v fun ρ' => evPlan P N W w0 ops p ρ' M K) : callP P N W w0 (.func (.func n) #[] #[]) args M d ρ ops p K := callP_reads (by simpa using h) hR hk
theorem set_self {α : Type} {l : List α} {i : Nat} {v : α} (h : l[i]? = some v) : l.set i v = l := by
  apply List.ext_getElem?
  intro j
  by_cases e : i = j
  · subst e
    have hi : i < l.length := by
      rcases Nat.lt_or_ge i l.length with h1 | h1
      · exact h1
      · rw [List.getElem?_eq_none h1] at h; cases h
    rw [List.getElem?_set_self hi, h]
  · rw [List.getElem?_set_ne e]
theorem Cd.same {N : Nat} {Q : Exit → Env → Blks → Prop} {c : Operand} {x y : Code} {a b : Int} (hc : ev ρ c = .bool (a != b)) (he : a = b) (hf : Cd P N W w0 y Q ρ M) : Cd P N W w0 (.cond c x y) Q ρ M :=
  Cd.no (by rw [hc, bne_eq_false_iff_eq.2 he]) hf
def SubP (M0 M : Blks) : Prop := ∃ M1, M0.Perm M1 ∧ M1.Sublist M
theorem SubP.refl (M : Blks) : SubP M M := ⟨M, .refl _, .refl _⟩
theorem SubP.of {M0 M : Blks} (h : M0.Sublist M) : SubP M0 M := ⟨M0, .refl _, h⟩
theorem SubP.perm {M0 M1 M : Blks} (h : M0.Perm M1) (hs : M1.Sublist M) : SubP M0 M := ⟨M1, h, hs⟩
theorem perm_one {a b : Nat × List Value} {M : Blks} : (b :: a :: M).Perm (a :: b :: M) := .swap ..
theorem perm_two {a b c : Nat × List Value} {M : Blks} : (b :: c :: a :: M).Perm (a :: b :: c :: M) := (perm_one.cons b).trans perm_one
theorem perm_thr {a b c d : Nat × List Value} {M : Blks} : (b :: c :: d :: a :: M).Perm (a :: b :: c :: d :: M) := (perm_two.cons b).trans perm_one
theorem perm_fou {a b c d e : Nat × List Value} {M : Blks} : (b :: c :: d :: e :: a :: M).Perm (a :: b :: c :: d :: e :: M) := (perm_thr.cons b).trans perm_one
theorem Cd.sub {N : Nat} {Q : Exit → Env → Blks → Prop} {c : Code} (hs : SubP M' M) (h : Cd P N W w0 c Q ρ M') : Cd P N W w0 c Q ρ M := by
  obtain ⟨M1, h1, h2⟩ := hs
  exact Cd.drop h2 (Cd.turn h1 h)
/-- Of the blocks only some, in some order. -/
theorem Cd.subp {N : Nat} {Q : Exit → Env → Blks → Prop} {c : Code} {M1 : Blks} (hp : M'.Perm M1) (hs : M1.Sublist M) (h : Cd P N W w0 c Q ρ M') : Cd P N W w0 c Q ρ M := Cd.drop hs (Cd.turn hp h)

/-- A call that hands back new memory, which is told behind what was there. -/
theorem callK_newR {N : Nat} {n : FuncId} {args : List Value} {fs cs : Array Value} {d : Option Tmp} {ops : Array Oper} {rest : List Oper} {R : Rd} {Post : Value → Blks → Prop} {K : Env → Blks → Prop} (h : GivesX P n (fs.toList ++ (args ++ cs.toList)).toArray [] R Post)
    (hR : ∀ w, Own W w0 M w → ToldW w R) (hk : ∀ v M', Post v M' → ((M ++ M').map (·.1)).Nodup → (∀ p ∈ M', Fresh w0 M p.1) → setD N ρ d v fun ρ' => evOps P N W w0 ops rest ρ' (M ++ M') K) : callK P N W w0 (.func (.func n) fs cs) args M d ρ ops rest K := by
  refine ⟨h.1, fun w hw => (h.2 w List.nodup_nil (fun _ hp => nomatch hp) (hR w hw)).mono ?_⟩
  rintro e w' ⟨v, M', rfl, hw', hp⟩
  have ho : Own W w0 (M' ++ M) w' := hw.thenL (L := []) (fun _ hp => nomatch hp) (List.Sublist.refl _) (fun _ _ hm => nomatch hm) hw'
  have hper : (M ++ M').Perm (M' ++ M) := List.perm_append_comm
  have hn := (hper.map (·.1)).nodup_iff.2 ho.nodup
  refine ⟨v, M ++ M', rfl, ho.turn (fun p hp => hper.subset hp) hn, hk v M' hp hn fun p hp => ?_⟩
  rcases hw'.own p hp with h1 | h1
  · exact nomatch h1
  · exact ⟨Nat.le_trans hw.size h1, fun q hq => by have := hw.lt hq; omega⟩
theorem callK_newR0 {N : Nat} {n : FuncId} {args : List Value} {d : Option Tmp} {ops : Array Oper} {rest : List Oper} {R : Rd} {Post : Value → Blks → Prop} {K : Env → Blks → Prop} (h : GivesX P n args.toArray [] R Post)
    (hR : ∀ w, Own W w0 M w → ToldW w R) (hk : ∀ v M', Post v M' → ((M ++ M').map (·.1)).Nodup → (∀ p ∈ M', Fresh w0 M p.1) → setD N ρ d v fun ρ' => evOps P N W w0 ops rest ρ' (M ++ M') K) : callK P N W w0 (.func (.func n) #[] #[]) args M d ρ ops rest K :=
  callK_newR (by simpa using h) hR hk
/-- Of the memory that a call hands back only a part is told. -/
theorem GivesX.part {f : FuncId} {args : Array Value} {L : Blks} {R : Rd} {Post : Value → Blks → Prop} (h : GivesX P f args L R fun v M => ∃ M1, SubP M1 M ∧ Post v M1) : GivesX P f args L R Post :=
  ⟨h.1, fun w hn hL hR => (h.2 w hn hL hR).mono fun _ _ ⟨v, M', h1, h2, M1, ⟨M2, h3, h4⟩, h5⟩ =>
    ⟨v, M1, h1, (h2.sub h4).turn (fun p hp => h3.subset hp) ((h3.map (·.1)).nodup_iff.2 (h2.sub h4).nodup), h5⟩⟩

/-- A call in a plan that may turn memory, closed to the walk's own reckoning. -/
def callO (P : Program) (N : Nat) (W : List Nat) (w0 : World) (f : Value) (args : List Value) (M : Blks) (d : Option Tmp) (ρ : Env) (ops : Array Oper) (p : Plan) (K : Env → Blks → Prop) : Prop :=
  match f with
  | .func (.func n) first captured => ACall P W w0 n (first.toList ++ (args ++ captured.toList)).toArray M fun v M' => setD N ρ d v fun ρ' => evPlan P N W w0 ops p ρ' M' K
  | _ => False
theorem evOp_callO {N : Nat} {f : Operand} {args : Array Operand} {ts : Array TypeId} {d : Option Tmp} {T : TypeId} {pos : String} {aft : Array Edge} {g : Option (Nat × Bool)} {ops : Array Oper} {p : Plan} {K : Env → Blks → Prop} :
    evOp P N W w0 ⟨d, .call ⟨.value f, args, ts⟩, T, pos, aft, g⟩ ρ M (fun ρ' M' => evPlan P N W w0 ops p ρ' M' K) = callO P N W w0 (ev ρ f) (args.toList.map (ev ρ)) M d ρ ops p K := by
  unfold evOp callO
  rfl
theorem callO_gives {N : Nat} {n : FuncId} {args : List Value} {v : Value} {d : Option Tmp} {ops : Array Oper} {p : Plan} {K : Env → Blks → Prop} (h : Gives P n args.toArray v)
    (hk : setD N ρ d v fun ρ' => evPlan P N W w0 ops p ρ' M K) : callO P N W w0 (.func (.func n) #[] #[]) args M d ρ ops p K := by
  unfold callO
  simp only [List.append_nil, List.nil_append]
  exact h.acall hk
theorem callO_reads0 {N : Nat} {n : FuncId} {args : List Value} {v : Value} {R : Rd} {d : Option Tmp} {ops : Array Oper} {p : Plan} {K : Env → Blks → Prop} (h : GivesR P n args.toArray R v)
    (hR : HoldsAll W w0 M R) (hk : setD N ρ d v fun ρ' => evPlan P N W w0 ops p ρ' M K) : callO P N W w0 (.func (.func n) #[] #[]) args M d ρ ops p K := by
  unfold callO
  simp only [List.append_nil, List.nil_append]
  exact (h.qcall hR).acall hk
/-- A call that hands back new memory, which is told behind what was there. -/
theorem callO_newR {N : Nat} {n : FuncId} {args : List Value} {fs cs : Array Value} {d : Option Tmp} {ops : Array Oper} {p : Plan} {R : Rd} {Post : Value → Blks → Prop} {K : Env → Blks → Prop} (h : GivesX P n (fs.toList ++ (args ++ cs.toList)).toArray [] R Post)
    (hR : ∀ w, Own W w0 M w → ToldW w R) (hk : ∀ v M', Post v M' → ((M ++ M').map (·.1)).Nodup → (∀ p1 ∈ M', Fresh w0 M p1.1) → setD N ρ d v fun ρ' => evPlan P N W w0 ops p ρ' (M ++ M') K) : callO P N W w0 (.func (.func n) fs cs) args M d ρ ops p K := by
  refine ⟨h.1, fun w hw => (h.2 w List.nodup_nil (fun _ hp => nomatch hp) (hR w hw)).mono ?_⟩
  rintro e w' ⟨v, M', rfl, hw', hp⟩
  have ho : Own W w0 (M' ++ M) w' := hw.thenL (L := []) (fun _ hp => nomatch hp) (List.Sublist.refl _) (fun _ _ hm => nomatch hm) hw'
  have hper : (M ++ M').Perm (M' ++ M) := List.perm_append_comm
  have hn := (hper.map (·.1)).nodup_iff.2 ho.nodup
  refine ⟨v, M ++ M', rfl, ho.turn (fun p hp => hper.subset hp) hn, hk v M' hp hn fun p hp => ?_⟩
  rcases hw'.own p hp with h1 | h1
  · exact nomatch h1
  · exact ⟨Nat.le_trans hw.size h1, fun q hq => by have := hw.lt hq; omega⟩
theorem callO_newR0 {N : Nat} {n : FuncId} {args : List Value} {d : Option Tmp} {ops : Array Oper} {p : Plan} {R : Rd} {Post : Value → Blks → Prop} {K : Env → Blks → Prop} (h : GivesX P n args.toArray [] R Post)
    (hR : ∀ w, Own W w0 M w → ToldW w R) (hk : ∀ v M', Post v M' → ((M ++ M').map (·.1)).Nodup → (∀ p1 ∈ M', Fresh w0 M p1.1) → setD N ρ d v fun ρ' => evPlan P N W w0 ops p ρ' (M ++ M') K) : callO P N W w0 (.func (.func n) #[] #[]) args M d ρ ops p K :=
  callO_newR (by simpa using h) hR hk

end
end Go.W8

/-
  The rules that reckon a piece of code, bundled. Nothing here is about one program. Conditions: none.
-/
namespace Go.W8
set_option linter.unusedVariables false
set_option maxRecDepth 10000

theorem E0 : (((type_of% @guardQ_tt) ∧ (type_of% @guardQ_ff)) ∧ ((type_of% @guardQ_tf) ∧ ((type_of% @guardQ_ft) ∧ (type_of% @evOp_call)))) ∧ (((type_of% @evQ_call) ∧ (type_of% @evV_call)) ∧ ((type_of% @evOp_callO) ∧ ((type_of% @appIf_pos) ∧ (type_of% @appIf_zero)))) := ⟨⟨⟨@guardQ_tt, @guardQ_ff⟩, ⟨@guardQ_tf, ⟨@guardQ_ft, @evOp_call⟩⟩⟩, ⟨⟨@evQ_call, @evV_call⟩, ⟨@evOp_callO, ⟨@appIf_pos, @appIf_zero⟩⟩⟩⟩
theorem E1 : ((((((type_of% @guardQ_and) ∧ ((type_of% @true_and) ∧ (type_of% @and_true))) ∧ ((type_of% @or_self) ∧ ((type_of% @or_false) ∧ (type_of% @false_or)))) ∧ (((type_of% @and_self) ∧ ((type_of% @and_false) ∧ (type_of% @false_and))) ∧ (((type_of% @List.getElem?_toArray.{0}) ∧ (type_of% @List.getElem?_cons_zero.{0})) ∧ ((type_of% @List.getElem?_cons_succ.{0}) ∧ (type_of% @Option.bind_some.{0, 0}))))) ∧ ((((type_of% @Option.map_some.{0, 0}) ∧ ((type_of% @Bool.not_true) ∧ (type_of% @Bool.not_false))) ∧ (((type_of% @false_implies) ∧ (type_of% @true_implies)) ∧ ((type_of% @List.map_cons.{0, 0}) ∧ (type_of% @List.map_nil.{0, 0})))) ∧ (((type_of% @List.nil_append.{0}) ∧ ((type_of% @List.append_nil.{0}) ∧ (type_of% @List.toList_toArray.{0}))) ∧ (((type_of% @Nat.zero_add) ∧ (type_of% @Nat.add_zero)) ∧ ((type_of% @Nat.mul_one) ∧ (type_of% @Int.toNat_natCast)))))) ∧ (((((type_of% @List.size_toArray.{0}) ∧ ((type_of% @List.length_cons.{0}) ∧ (type_of% @List.length_nil.{0}))) ∧ (((type_of% @List.mem_cons.{0}) ∧ (type_of% @List.not_mem_nil.{0})) ∧ ((type_of% @stC_one) ∧ (type_of% @stC_full)))) ∧ (((type_of% @stC_gc_x) ∧ ((type_of% @stC_gc_o) ∧ (type_of% @sub_full))) ∧ (((type_of% @splice_full) ∧ (type_of% @splice_gc_s)) ∧ ((type_of% @splice_gc_x) ∧ (type_of% @splice_gc_o))))) ∧ ((((type_of% @sub_gc_x) ∧ ((type_of% @sub_gc_o) ∧ (type_of% @ones_gc))) ∧ (((type_of% @ones_ints) ∧ (type_of% @ones_bools)) ∧ ((type_of% @ones_int) ∧ (type_of% @ones_bool)))) ∧ (((type_of% @ones_ptr) ∧ ((type_of% @ones_slc) ∧ (type_of% @ones_str))) ∧ (((type_of% @ones_func) ∧ (type_of% @gc_length)) ∧ ((type_of% @ints_length) ∧ (type_of% @bools_length))))))) ∧ ((((((type_of% @upto_length) ∧ ((type_of% @List.length_set.{0}) ∧ (type_of% @z8_len))) ∧ (((type_of% @List.length_replicate.{0}) ∧ (type_of% @wrap_i64)) ∧ ((type_of% @wrap_u8) ∧ (type_of% @gc_s)))) ∧ (((type_of% @gc_x) ∧ ((type_of% @gc_o) ∧ (type_of% @gc_set_s))) ∧ (((type_of% @gc_set_x) ∧ (type_of% @gc_set_o)) ∧ ((type_of% @ints_get) ∧ (type_of% @ints_set))))) ∧ ((((type_of% @bools_get) ∧ ((type_of% @bools_set) ∧ (type_of% @List.length_map.{0, 0}))) ∧ (((type_of% @decide_eq_true_eq) ∧ (type_of% @Int.tmod_eq_emod_of_nonneg)) ∧ ((type_of% @Int.tdiv_eq_ediv_of_nonneg) ∧ (type_of% @retQ_ret)))) ∧ (((type_of% @retQ_normal) ∧ ((type_of% @endQ_1) ∧ (type_of% @endQ_2))) ∧ (((type_of% @endQ_3) ∧ (type_of% @resV_tmp)) ∧ ((type_of% @resV_cell) ∧ (type_of% @bne_self_eq_false.{0})))))) ∧ (((((type_of% @beq_self_eq_true.{0}) ∧ ((type_of% @Int.cast_ofNat_Int) ∧ (type_of% @Int.toNat_zero))) ∧ (((type_of% @Int.toNat_natCast) ∧ (type_of% @Nat.zero_le)) ∧ ((type_of% @Int.natCast_nonneg) ∧ (type_of% @Int.le_refl)))) ∧ (((type_of% @Option.map_none.{0, 0}) ∧ ((type_of% @Nat.zero_mul) ∧ (type_of% @Option.getD_none.{0}))) ∧ (((type_of% @Option.getD_some.{0}) ∧ (type_of% @not_false_eq_true)) ∧ ((type_of% @Nat.sub_zero) ∧ (type_of% @List.map_toArray.{0, 0}))))) ∧ ((((type_of% @splice_succ) ∧ ((type_of% @splice_zero) ∧ (type_of% @tab_len))) ∧ (((type_of% @ones_nil) ∧ (type_of% @ones_cons_int)) ∧ ((type_of% @ones_cons_slc) ∧ (type_of% @sameI_gc)))) ∧ (((type_of% @eqL_gc) ∧ ((type_of% @List.set_cons_zero.{0}) ∧ (type_of% @List.set_cons_succ.{0}))) ∧ (((type_of% @Go.toList_madeCells_one) ∧ (type_of% @u8s_ints)) ∧ ((type_of% @bytes_strB) ∧ (type_of% @zeroCells_one))))))) := ⟨⟨⟨⟨⟨⟨@guardQ_and, ⟨@true_and, @and_true⟩⟩, ⟨@or_self, ⟨@or_false, @false_or⟩⟩⟩, ⟨⟨@and_self, ⟨@and_false, @false_and⟩⟩, ⟨⟨@List.getElem?_toArray.{0}, @List.getElem?_cons_zero.{0}⟩, ⟨@List.getElem?_cons_succ.{0}, @Option.bind_some.{0, 0}⟩⟩⟩⟩, ⟨⟨⟨@Option.map_some.{0, 0}, ⟨@Bool.not_true, @Bool.not_false⟩⟩, ⟨⟨@false_implies, @true_implies⟩, ⟨@List.map_cons.{0, 0}, @List.map_nil.{0, 0}⟩⟩⟩, ⟨⟨@List.nil_append.{0}, ⟨@List.append_nil.{0}, @List.toList_toArray.{0}⟩⟩, ⟨⟨@Nat.zero_add, @Nat.add_zero⟩, ⟨@Nat.mul_one, @Int.toNat_natCast⟩⟩⟩⟩⟩, ⟨⟨⟨⟨@List.size_toArray.{0}, ⟨@List.length_cons.{0}, @List.length_nil.{0}⟩⟩, ⟨⟨@List.mem_cons.{0}, @List.not_mem_nil.{0}⟩, ⟨@stC_one, @stC_full⟩⟩⟩, ⟨⟨@stC_gc_x, ⟨@stC_gc_o, @sub_full⟩⟩, ⟨⟨@splice_full, @splice_gc_s⟩, ⟨@splice_gc_x, @splice_gc_o⟩⟩⟩⟩, ⟨⟨⟨@sub_gc_x, ⟨@sub_gc_o, @ones_gc⟩⟩, ⟨⟨@ones_ints, @ones_bools⟩, ⟨@ones_int, @ones_bool⟩⟩⟩, ⟨⟨@ones_ptr, ⟨@ones_slc, @ones_str⟩⟩, ⟨⟨@ones_func, @gc_length⟩, ⟨@ints_length, @bools_length⟩⟩⟩⟩⟩⟩, ⟨⟨⟨⟨⟨@upto_length, ⟨@List.length_set.{0}, @z8_len⟩⟩, ⟨⟨@List.length_replicate.{0}, @wrap_i64⟩, ⟨@wrap_u8, @gc_s⟩⟩⟩, ⟨⟨@gc_x, ⟨@gc_o, @gc_set_s⟩⟩, ⟨⟨@gc_set_x, @gc_set_o⟩, ⟨@ints_get, @ints_set⟩⟩⟩⟩, ⟨⟨⟨@bools_get, ⟨@bools_set, @List.length_map.{0, 0}⟩⟩, ⟨⟨@decide_eq_true_eq, @Int.tmod_eq_emod_of_nonneg⟩, ⟨@Int.tdiv_eq_ediv_of_nonneg, @retQ_ret⟩⟩⟩, ⟨⟨@retQ_normal, ⟨@endQ_1, @endQ_2⟩⟩, ⟨⟨@endQ_3, @resV_tmp⟩, ⟨@resV_cell, @bne_self_eq_false.{0}⟩⟩⟩⟩⟩, ⟨⟨⟨⟨@beq_self_eq_true.{0}, ⟨@Int.cast_ofNat_Int, @Int.toNat_zero⟩⟩, ⟨⟨@Int.toNat_natCast, @Nat.zero_le⟩, ⟨@Int.natCast_nonneg, @Int.le_refl⟩⟩⟩, ⟨⟨@Option.map_none.{0, 0}, ⟨@Nat.zero_mul, @Option.getD_none.{0}⟩⟩, ⟨⟨@Option.getD_some.{0}, @not_false_eq_true⟩, ⟨@Nat.sub_zero, @List.map_toArray.{0, 0}⟩⟩⟩⟩, ⟨⟨⟨@splice_succ, ⟨@splice_zero, @tab_len⟩⟩, ⟨⟨@ones_nil, @ones_cons_int⟩, ⟨@ones_cons_slc, @sameI_gc⟩⟩⟩, ⟨⟨@eqL_gc, ⟨@List.set_cons_zero.{0}, @List.set_cons_succ.{0}⟩⟩, ⟨⟨@Go.toList_madeCells_one, @u8s_ints⟩, ⟨@bytes_strB, @zeroCells_one⟩⟩⟩⟩⟩⟩⟩
theorem E2 : (type_of% @evOps_guard) ∧ ((type_of% @evQs_guard) ∧ (type_of% @evGd_eq)) := ⟨@evOps_guard, ⟨@evQs_guard, @evGd_eq⟩⟩
theorem E3 : ((type_of% @List.take_succ_cons.{0}) ∧ (type_of% @List.take_zero.{0})) ∧ ((type_of% @List.drop_succ_cons.{0}) ∧ (type_of% @List.drop_zero.{0})) := ⟨⟨@List.take_succ_cons.{0}, @List.take_zero.{0}⟩, ⟨@List.drop_succ_cons.{0}, @List.drop_zero.{0}⟩⟩
theorem E4 : (((type_of% @gc_length) ∧ (type_of% @ints_length)) ∧ ((type_of% @bools_length) ∧ ((type_of% @upto_length) ∧ (type_of% @List.length_set.{0})))) ∧ (((type_of% @z8_len) ∧ (type_of% @List.length_replicate.{0})) ∧ ((type_of% @List.length_cons.{0}) ∧ ((type_of% @List.length_nil.{0}) ∧ (type_of% @tab_len)))) := ⟨⟨⟨@gc_length, @ints_length⟩, ⟨@bools_length, ⟨@upto_length, @List.length_set.{0}⟩⟩⟩, ⟨⟨@z8_len, @List.length_replicate.{0}⟩, ⟨@List.length_cons.{0}, ⟨@List.length_nil.{0}, @tab_len⟩⟩⟩⟩
end Go.W8

/-
  Facts on the types of the program, each reckoned by the kernel. Conditions: none.
-/
namespace Go.Proofs
open Go.W8
theorem Tagg2 : aggT Try.prog 2 = false := by kernel_rfl
theorem Tagg47 : aggT Try.prog 47 = false := by kernel_rfl
theorem Tarr100 : arrT Try.prog 100 = some (8, 1) := by kernel_rfl
theorem Tarr110 : arrT Try.prog 110 = some (8, 1) := by kernel_rfl
theorem Tarr113 : arrT Try.prog 113 = some (8, 8) := by kernel_rfl
theorem Tarr163 : arrT Try.prog 163 = some (8, 1) := by kernel_rfl
theorem Tarr166 : arrT Try.prog 166 = some (129, 1) := by kernel_rfl
theorem Tarr30 : arrT Try.prog 30 = some (8, 1) := by kernel_rfl
theorem Tarr80 : arrT Try.prog 80 = some (8, 1) := by kernel_rfl
theorem Tarre166 : arrE Try.prog 166 = some 2 := by kernel_rfl
theorem Tbld100 : bldP Try.prog 100 = some (ints .i64 z8, [(0, 1), (1, 1), (2, 1), (3, 1), (4, 1), (5, 1), (6, 1), (7, 1)]) := by kernel_rfl
theorem Tbld110 : bldP Try.prog 110 = some (ints .i64 z8, [(0, 1), (1, 1), (2, 1), (3, 1), (4, 1), (5, 1), (6, 1), (7, 1)]) := by kernel_rfl
theorem Tbld113 : bldP Try.prog 113 = some (ints .i64 (List.replicate 64 0), [(0, 8), (8, 8), (16, 8), (24, 8), (32, 8), (40, 8), (48, 8), (56, 8)]) := by kernel_rfl
theorem Tbld117 : bldP Try.prog 117 = some ([.int .i64 0, .int .i64 0, .int .i64 0], [(0, 1), (1, 1), (2, 1)]) := by kernel_rfl
theorem Tbld145 : bldP Try.prog 145 = some ([.slice none 0 0, .int .i64 0, .int .u64 0], [(0, 1), (1, 1), (2, 1)]) := by kernel_rfl
theorem Tbld163 : bldP Try.prog 163 = some (bools (List.replicate 8 false), [(0, 1), (1, 1), (2, 1), (3, 1), (4, 1), (5, 1), (6, 1), (7, 1)]) := by kernel_rfl
theorem Tbld30 : bldP Try.prog 30 = some (ints .u8 z8, [(0, 1), (1, 1), (2, 1), (3, 1), (4, 1), (5, 1), (6, 1), (7, 1)]) := by kernel_rfl
theorem Tbld32 : bldP Try.prog 32 = some (gc 0 z8 z8, [(0, 1), (1, 8), (9, 8)]) := by kernel_rfl
theorem Tbld56 : bldP Try.prog 56 = some ([.int .i64 0, .slice none 0 0], [(0, 1), (1, 1)]) := by kernel_rfl
theorem Tbld80 : bldP Try.prog 80 = some (ints .u8 z8, [(0, 1), (1, 1), (2, 1), (3, 1), (4, 1), (5, 1), (6, 1), (7, 1)]) := by kernel_rfl
theorem Tbld87 : bldP Try.prog 87 = some ([.int .i64 0, .int .i64 0, .int .i64 0, .int .i64 0], [(0, 1), (1, 1), (2, 1), (3, 1)]) := by kernel_rfl
theorem Tbld93 : bldP Try.prog 93 = some ([.int .i64 0, .int .i64 0, .int .i64 0, .int .i64 0, .int .i64 0, .int .i64 0], [(0, 1), (1, 1), (2, 1), (3, 1), (4, 1), (5, 1)]) := by kernel_rfl
theorem Tbool4 : boolT Try.prog 4 = true := by kernel_rfl
theorem Tby117 : bytesT Try.prog 117 = 24 := by kernel_rfl
theorem Tby132 : bytesT Try.prog 132 = 24 := by kernel_rfl
theorem Tby166 : bytesT Try.prog 166 = 1032 := by kernel_rfl
theorem Tby2 : bytesT Try.prog 2 = 8 := by kernel_rfl
theorem Tby3 : bytesT Try.prog 3 = 8 := by kernel_rfl
theorem Tby47 : bytesT Try.prog 47 = 24 := by kernel_rfl
theorem Tby80 : bytesT Try.prog 80 = 8 := by kernel_rfl
theorem Tby93 : bytesT Try.prog 93 = 48 := by kernel_rfl
theorem Teqt32 : eqT Try.prog 32 = some 17 := by kernel_rfl
theorem Teqt93 : eqT Try.prog 93 = some 6 := by kernel_rfl
theorem Tfld117_0 : fldO Try.prog 117 0 = some (0, 2) := by kernel_rfl
theorem Tfld117_1 : fldO Try.prog 117 1 = some (1, 2) := by kernel_rfl
theorem Tfld117_2 : fldO Try.prog 117 2 = some (2, 2) := by kernel_rfl
theorem Tfld145_0 : fldO Try.prog 145 0 = some (0, 28) := by kernel_rfl
theorem Tfld145_1 : fldO Try.prog 145 1 = some (1, 3) := by kernel_rfl
theorem Tfld145_2 : fldO Try.prog 145 2 = some (2, 143) := by kernel_rfl
theorem Tfld32_0 : fldO Try.prog 32 0 = some (0, 2) := by kernel_rfl
theorem Tfld32_1 : fldO Try.prog 32 1 = some (1, 30) := by kernel_rfl
theorem Tfld32_2 : fldO Try.prog 32 2 = some (9, 30) := by kernel_rfl
theorem Tfld49_0 : fldO Try.prog 49 0 = some (0, 2) := by kernel_rfl
theorem Tfld49_1 : fldO Try.prog 49 1 = some (1, 30) := by kernel_rfl
theorem Tfld49_2 : fldO Try.prog 49 2 = some (9, 30) := by kernel_rfl
theorem Tfld56_0 : fldO Try.prog 56 0 = some (0, 2) := by kernel_rfl
theorem Tfld56_1 : fldO Try.prog 56 1 = some (1, 47) := by kernel_rfl
theorem Tfld61_0 : fldO Try.prog 61 0 = some (0, 2) := by kernel_rfl
theorem Tfld61_1 : fldO Try.prog 61 1 = some (1, 47) := by kernel_rfl
theorem Tfld87_0 : fldO Try.prog 87 0 = some (0, 3) := by kernel_rfl
theorem Tfld87_1 : fldO Try.prog 87 1 = some (1, 3) := by kernel_rfl
theorem Tfld87_2 : fldO Try.prog 87 2 = some (2, 3) := by kernel_rfl
theorem Tfld87_3 : fldO Try.prog 87 3 = some (3, 3) := by kernel_rfl
theorem Tfld93_0 : fldO Try.prog 93 0 = some (0, 2) := by kernel_rfl
theorem Tfld93_1 : fldO Try.prog 93 1 = some (1, 2) := by kernel_rfl
theorem Tfld93_2 : fldO Try.prog 93 2 = some (2, 2) := by kernel_rfl
theorem Tfld93_3 : fldO Try.prog 93 3 = some (3, 2) := by kernel_rfl
theorem Tfld93_4 : fldO Try.prog 93 4 = some (4, 2) := by kernel_rfl
theorem Tfld93_5 : fldO Try.prog 93 5 = some (5, 2) := by kernel_rfl
theorem Thas2 : hasT Try.prog 2 = true := by kernel_rfl
theorem Thas47 : hasT Try.prog 47 = true := by kernel_rfl
theorem Tint143 : intT Try.prog 143 = some .u64 := by kernel_rfl
theorem Tint2 : intT Try.prog 2 = some .i64 := by kernel_rfl
theorem Tint3 : intT Try.prog 3 = some .i64 := by kernel_rfl
theorem Tint5 : intT Try.prog 5 = some .u8 := by kernel_rfl
theorem Tld100 : ldT Try.prog 100 = some (some 8) := by kernel_rfl
theorem Tld110 : ldT Try.prog 110 = some (some 8) := by kernel_rfl
theorem Tld113 : ldT Try.prog 113 = some (some 64) := by kernel_rfl
theorem Tld117 : ldT Try.prog 117 = some (some 3) := by kernel_rfl
theorem Tld132 : ldT Try.prog 132 = some none := by kernel_rfl
theorem Tld142 : ldT Try.prog 142 = some none := by kernel_rfl
theorem Tld143 : ldT Try.prog 143 = some none := by kernel_rfl
theorem Tld163 : ldT Try.prog 163 = some (some 8) := by kernel_rfl
theorem Tld166 : ldT Try.prog 166 = some (some 129) := by kernel_rfl
theorem Tld2 : ldT Try.prog 2 = some none := by kernel_rfl
theorem Tld22 : ldT Try.prog 22 = some none := by kernel_rfl
theorem Tld28 : ldT Try.prog 28 = some none := by kernel_rfl
theorem Tld3 : ldT Try.prog 3 = some none := by kernel_rfl
theorem Tld30 : ldT Try.prog 30 = some (some 8) := by kernel_rfl
theorem Tld32 : ldT Try.prog 32 = some (some 17) := by kernel_rfl
theorem Tld4 : ldT Try.prog 4 = some none := by kernel_rfl
theorem Tld47 : ldT Try.prog 47 = some none := by kernel_rfl
theorem Tld49 : ldT Try.prog 49 = some (some 17) := by kernel_rfl
theorem Tld5 : ldT Try.prog 5 = some none := by kernel_rfl
theorem Tld56 : ldT Try.prog 56 = some (some 2) := by kernel_rfl
theorem Tld61 : ldT Try.prog 61 = some (some 2) := by kernel_rfl
theorem Tld71 : ldT Try.prog 71 = some none := by kernel_rfl
theorem Tld80 : ldT Try.prog 80 = some (some 8) := by kernel_rfl
theorem Tld87 : ldT Try.prog 87 = some (some 4) := by kernel_rfl
theorem Tld93 : ldT Try.prog 93 = some (some 6) := by kernel_rfl
theorem Tpar143 : parT Try.prog 143 = true := by kernel_rfl
theorem Tpar2 : parT Try.prog 2 = true := by kernel_rfl
theorem Tpar3 : parT Try.prog 3 = true := by kernel_rfl
theorem Tpar47 : parT Try.prog 47 = true := by kernel_rfl
theorem Tpar5 : parT Try.prog 5 = true := by kernel_rfl
theorem Tslc114 : slcT Try.prog 114 = some 3 := by kernel_rfl
theorem Tslc132 : slcT Try.prog 132 = some 1 := by kernel_rfl
theorem Tslc164 : slcT Try.prog 164 = some 129 := by kernel_rfl
theorem Tslc171 : slcT Try.prog 171 = some 1 := by kernel_rfl
theorem Tslc22 : slcT Try.prog 22 = some 8 := by kernel_rfl
theorem Tslc28 : slcT Try.prog 28 = some 1 := by kernel_rfl
theorem Tslc43 : slcT Try.prog 43 = some 1 := by kernel_rfl
theorem Tslc47 : slcT Try.prog 47 = some 1 := by kernel_rfl
theorem Tslc71 : slcT Try.prog 71 = some 6 := by kernel_rfl
theorem Tslce114 : slcE Try.prog 114 = some 117 := by kernel_rfl
theorem Tslce132 : slcE Try.prog 132 = some 3 := by kernel_rfl
theorem Tslce164 : slcE Try.prog 164 = some 166 := by kernel_rfl
theorem Tslce171 : slcE Try.prog 171 = some 132 := by kernel_rfl
theorem Tslce22 : slcE Try.prog 22 = some 80 := by kernel_rfl
theorem Tslce28 : slcE Try.prog 28 = some 5 := by kernel_rfl
theorem Tslce43 : slcE Try.prog 43 = some 47 := by kernel_rfl
theorem Tslce47 : slcE Try.prog 47 = some 2 := by kernel_rfl
theorem Tslce71 : slcE Try.prog 71 = some 93 := by kernel_rfl
theorem Tst100 : stT Try.prog 100 = some 8 := by kernel_rfl
theorem Tst110 : stT Try.prog 110 = some 8 := by kernel_rfl
theorem Tst113 : stT Try.prog 113 = some 64 := by kernel_rfl
theorem Tst117 : stT Try.prog 117 = some 3 := by kernel_rfl
theorem Tst142 : stT Try.prog 142 = some 1 := by kernel_rfl
theorem Tst143 : stT Try.prog 143 = some 1 := by kernel_rfl
theorem Tst163 : stT Try.prog 163 = some 8 := by kernel_rfl
theorem Tst166 : stT Try.prog 166 = some 129 := by kernel_rfl
theorem Tst2 : stT Try.prog 2 = some 1 := by kernel_rfl
theorem Tst22 : stT Try.prog 22 = some 1 := by kernel_rfl
theorem Tst3 : stT Try.prog 3 = some 1 := by kernel_rfl
theorem Tst30 : stT Try.prog 30 = some 8 := by kernel_rfl
theorem Tst32 : stT Try.prog 32 = some 17 := by kernel_rfl
theorem Tst4 : stT Try.prog 4 = some 1 := by kernel_rfl
theorem Tst47 : stT Try.prog 47 = some 1 := by kernel_rfl
theorem Tst5 : stT Try.prog 5 = some 1 := by kernel_rfl
theorem Tst56 : stT Try.prog 56 = some 2 := by kernel_rfl
theorem Tst71 : stT Try.prog 71 = some 1 := by kernel_rfl
theorem Tst87 : stT Try.prog 87 = some 4 := by kernel_rfl
theorem Tst93 : stT Try.prog 93 = some 6 := by kernel_rfl
theorem Tsz2 : szT Try.prog 2 = 1 := by kernel_rfl
theorem Tsz47 : szT Try.prog 47 = 1 := by kernel_rfl
theorem Tzero100 : zeroT Try.prog 100 = some (ints .i64 z8) := by kernel_rfl
theorem Tzero110 : zeroT Try.prog 110 = some (ints .i64 z8) := by kernel_rfl
theorem Tzero113 : zeroT Try.prog 113 = some (ints .i64 (List.replicate 64 0)) := by kernel_rfl
theorem Tzero117 : zeroT Try.prog 117 = some ([.int .i64 0, .int .i64 0, .int .i64 0]) := by kernel_rfl
theorem Tzero132 : zeroT Try.prog 132 = some ([.slice none 0 0]) := by kernel_rfl
theorem Tzero142 : zeroT Try.prog 142 = some ([.nilFunc]) := by kernel_rfl
theorem Tzero163 : zeroT Try.prog 163 = some (bools (List.replicate 8 false)) := by kernel_rfl
theorem Tzero166 : zeroT Try.prog 166 = some (ints .i64 (List.replicate 129 0)) := by kernel_rfl
theorem Tzero2 : zeroT Try.prog 2 = some ([.int .i64 0]) := by kernel_rfl
theorem Tzero22 : zeroT Try.prog 22 = some ([.slice none 0 0]) := by kernel_rfl
theorem Tzero3 : zeroT Try.prog 3 = some ([.int .i64 0]) := by kernel_rfl
theorem Tzero30 : zeroT Try.prog 30 = some (ints .u8 z8) := by kernel_rfl
theorem Tzero32 : zeroT Try.prog 32 = some (gc 0 z8 z8) := by kernel_rfl
theorem Tzero47 : zeroT Try.prog 47 = some ([.slice none 0 0]) := by kernel_rfl
theorem Tzero56 : zeroT Try.prog 56 = some ([.int .i64 0, .slice none 0 0]) := by kernel_rfl
theorem Tzero71 : zeroT Try.prog 71 = some ([.slice none 0 0]) := by kernel_rfl
theorem Tzero80 : zeroT Try.prog 80 = some (ints .u8 z8) := by kernel_rfl
theorem Tzero87 : zeroT Try.prog 87 = some ([.int .i64 0, .int .i64 0, .int .i64 0, .int .i64 0]) := by kernel_rfl
theorem Tzero93 : zeroT Try.prog 93 = some ([.int .i64 0, .int .i64 0, .int .i64 0, .int .i64 0, .int .i64 0, .int .i64 0]) := by kernel_rfl
theorem fol : Try.prog.follows .mixedOrders = true := by kernel_rfl
end Go.Proofs

/-
  What the functions of this part hand back: each as a plain function of its arguments. Conditions: none.
-/
namespace Go.Proofs
open Go.W8
set_option linter.unusedVariables false
set_option linter.unusedSimpArgs false
set_option linter.unusedSectionVars false
set_option maxRecDepth 8000
set_option maxHeartbeats 4000000
--@plain
/-- Where the last number other than 0 ends. -/
def trEnd (l : List Int) : Nat → Nat
  | 0 => 0
  | t + 1 => if l.getD t 0 = 0 then trEnd l t else t + 1
/-- Where the first number other than 0 stands, from t - d on. -/
def trBeg (l : List Int) (t : Nat) : Nat → Nat
  | 0 => t
  | d + 1 => if l.getD (t - (d + 1)) 0 = 0 then trBeg l t d else t - (d + 1)
def trE (l : List Int) : Nat := trEnd l l.length
def trF (l : List Int) : Nat := trBeg l (trE l) (trE l)
def trimLow (low : Int) (l : List Int) : Int := if trF l = trE l then 0 else low + (trF l : Int)
def trimL (l : List Int) : List Int := if trF l = trE l then [] else (l.drop (trF l)).take (trE l - trF l)
theorem trEnd_le (l : List Int) : ∀ t, trEnd l t ≤ t
  | 0 => Nat.le_refl _
  | t + 1 => by
    unfold trEnd
    have := trEnd_le l t
    split <;> omega
theorem trBeg_ge (l : List Int) (t : Nat) : ∀ d, d ≤ t → t - d ≤ trBeg l t d ∧ trBeg l t d ≤ t
  | 0, _ => by simp [trBeg]
  | d + 1, h => by
    have := trBeg_ge l t d (by omega)
    unfold trBeg
    split <;> omega
theorem trE_le (l : List Int) : trE l ≤ l.length := trEnd_le l _
theorem trF_le (l : List Int) : trF l ≤ trE l := (trBeg_ge l (trE l) (trE l) (Nat.le_refl _)).2
theorem trimL_len (l : List Int) : (trimL l).length = trE l - trF l := by
  unfold trimL
  have := trE_le l
  have := trF_le l
  split
  · simp; omega
  · rw [List.length_take, List.length_drop]; omega
theorem trimL_le (l : List Int) : (trimL l).length ≤ l.length := by
  rw [trimL_len]
  have := trE_le l
  omega
theorem trEnd_zero {l : List Int} {t : Nat} (h : l.getD t 0 = 0) : trEnd l (t + 1) = trEnd l t := by
  show (if _ then _ else _) = _
  rw [if_pos h]
theorem trEnd_one {l : List Int} {t : Nat} (h : ¬ l.getD t 0 = 0) : trEnd l (t + 1) = t + 1 := by
  show (if _ then _ else _) = _
  rw [if_neg h]
theorem trBeg_zero {l : List Int} {t d : Nat} (h : l.getD (t - (d + 1)) 0 = 0) : trBeg l t (d + 1) = trBeg l t d := by
  show (if _ then _ else _) = _
  rw [if_pos h]
theorem trBeg_one {l : List Int} {t d : Nat} (h : ¬ l.getD (t - (d + 1)) 0 = 0) : trBeg l t (d + 1) = t - (d + 1) := by
  show (if _ then _ else _) = _
  rw [if_neg h]
theorem trimL_mem {l : List Int} {c : Int} (h : c ∈ trimL l) : c ∈ l := by
  unfold trimL at h
  split at h
  · cases h
  · exact List.mem_of_mem_drop (List.mem_of_mem_take h)

end Go.Proofs

/-
  What the functions of this part hand back: each as a plain function of its arguments. Conditions: none.
-/
namespace Go.Proofs
open Go.W8
set_option linter.unusedVariables false
set_option linter.unusedSimpArgs false
set_option linter.unusedSectionVars false
set_option maxRecDepth 8000
set_option maxHeartbeats 4000000
--@plain
/-- A coefficient that is allowed. -/
def coOk (c : Int) : Bool := decide (-1000000000000 ≤ c) && decide (c ≤ 1000000000000)
def lauOk (low : Int) (l : List Int) : Bool :=
  if l.length = 0 then decide (low = 0) else
    decide (l.length ≤ 2001) && (decide (-1000 ≤ low) && decide (low ≤ 1000)) && decide (low + l.length - 1 ≤ 1000) && !(l.getD 0 0 == 0) && !(l.getD (l.length - 1) 0 == 0) && l.all coOk
theorem lauOk_zero {low : Int} {l : List Int} (h : l.length = 0) : lauOk low l = decide (low = 0) := by
  unfold lauOk; rw [if_pos h]
theorem lauOk_pos {low : Int} {l : List Int} (h : l.length ≠ 0) : lauOk low l = (decide (l.length ≤ 2001) && (decide (-1000 ≤ low) && decide (low ≤ 1000)) && decide (low + l.length - 1 ≤ 1000) && !(l.getD 0 0 == 0) && !(l.getD (l.length - 1) 0 == 0) && l.all coOk) := by
  unfold lauOk; rw [if_neg h]
theorem lauOk_len {low : Int} {l : List Int} (h : lauOk low l = true) : l.length ≤ 2001 := by
  by_cases h0 : l.length = 0
  · omega
  · rw [lauOk_pos h0] at h
    simp at h
    omega
theorem lauOk_low {low : Int} {l : List Int} (h : lauOk low l = true) : -1000 ≤ low ∧ low ≤ 1000 := by
  by_cases h0 : l.length = 0
  · rw [lauOk_zero h0] at h; simp at h; omega
  · rw [lauOk_pos h0] at h
    simp at h
    omega
theorem lauOk_high {low : Int} {l : List Int} (h : lauOk low l = true) : low + l.length ≤ 1001 := by
  by_cases h0 : l.length = 0
  · rw [lauOk_zero h0] at h; simp at h; omega
  · rw [lauOk_pos h0] at h
    simp at h
    omega
theorem lauOk_mem {low : Int} {l : List Int} (h : lauOk low l = true) : ∀ c ∈ l, -1000000000000 ≤ c ∧ c ≤ 1000000000000 := by
  intro c hc
  have h0 : l.length ≠ 0 := by
    intro e
    rw [List.eq_nil_of_length_eq_zero e] at hc
    cases hc
  rw [lauOk_pos h0] at h
  simp only [Bool.and_eq_true, List.all_eq_true] at h
  have := h.2 c hc
  unfold coOk at this
  simpa using this
theorem lauOk_get {low : Int} {l : List Int} (h : lauOk low l = true) (k : Nat) : -1000000000000 ≤ l.getD k 0 ∧ l.getD k 0 ≤ 1000000000000 := by
  rw [List.getD_eq_getElem?_getD]
  rcases Nat.lt_or_ge k l.length with hk | hk
  · rw [List.getElem?_eq_getElem hk]
    exact lauOk_mem h _ (List.getElem_mem hk)
  · rw [List.getElem?_eq_none hk]
    simp
theorem all_upto {p : Int → Bool} {l : List Int} {k : Nat} (h : (l.take k).all p = true) (hk : k < l.length) : (l.take (k + 1)).all p = p (l.getD k 0) := by
  rw [List.take_succ_eq_append_getElem hk, List.all_append, h, List.getD_eq_getElem?_getD, List.getElem?_eq_getElem hk]
  simp
theorem all_false {p : Int → Bool} {l : List Int} {k : Nat} (h : p (l.getD k 0) = false) (hk : k < l.length) : l.all p = false := by
  rw [List.all_eq_false]
  rw [List.getD_eq_getElem?_getD, List.getElem?_eq_getElem hk] at h
  exact ⟨_, List.getElem_mem hk, by simpa using h⟩
theorem lauOk_pre {low : Int} {l : List Int} (h : l.length ≠ 0) : lauOk low l = (!(decide ((l.length : Int) > 2001) || !(decide (-1000 ≤ low) && decide (low ≤ 1000)) || decide (low + (l.length : Int) - 1 > 1000) || l.getD 0 0 == 0 || l.getD (l.length - 1) 0 == 0) && l.all coOk) := by
  rw [lauOk_pos h]
  have e1 : decide ((l.length : Int) > 2001) = !decide (l.length ≤ 2001) := by
    by_cases hc : l.length ≤ 2001
    · rw [decide_eq_true hc, decide_eq_false (by omega)]; rfl
    · rw [decide_eq_false hc, decide_eq_true (by omega)]; rfl
  have e2 : decide (low + (l.length : Int) - 1 > 1000) = !decide (low + (l.length : Int) - 1 ≤ 1000) := by
    by_cases hc : low + (l.length : Int) - 1 ≤ 1000
    · rw [decide_eq_true hc, decide_eq_false (by omega)]; rfl
    · rw [decide_eq_false hc, decide_eq_true (by omega)]; rfl
  rw [e1, e2]
  generalize decide (l.length ≤ 2001) = a
  generalize (decide (-1000 ≤ low) && decide (low ≤ 1000)) = b
  generalize decide (low + (l.length : Int) - 1 ≤ 1000) = c
  generalize (l.getD 0 0 == 0) = d
  generalize (l.getD (l.length - 1) 0 == 0) = e
  cases a <;> cases b <;> cases c <;> cases d <;> cases e <;> rfl

end Go.Proofs

/-
  What the functions of this part hand back: each as a plain function of its arguments. Conditions: none.
-/
namespace Go.Proofs
open Go.W8
set_option linter.unusedVariables false
set_option linter.unusedSimpArgs false
set_option linter.unusedSectionVars false
set_option maxRecDepth 8000
set_option maxHeartbeats 4000000
--@plain
def psum (l : List Int) : Nat → Int
  | 0 => 0
  | k + 1 => psum l k + l.getD k 0
def sums (l : List Int) (k : Nat) : List Int := (List.range k).map fun i => psum l (i + 1)
theorem sums_succ (l : List Int) (k : Nat) : sums l (k + 1) = sums l k ++ [psum l (k + 1)] := by
  unfold sums; rw [List.range_succ, List.map_append]; rfl
theorem sums_len (l : List Int) (k : Nat) : (sums l k).length = k := by simp [sums]
theorem sums_get {l : List Int} {k i : Nat} (h : i < k) : (sums l k).getD i 0 = psum l (i + 1) := by
  unfold sums
  rw [List.getD_eq_getElem?_getD, List.getElem?_map, List.getElem?_range h]; rfl
theorem psum_bound {l : List Int} (h : ∀ k, -1000000000000 ≤ l.getD k 0 ∧ l.getD k 0 ≤ 1000000000000) : ∀ k : Nat, -1000000000000 * (k : Int) ≤ psum l k ∧ psum l k ≤ 1000000000000 * (k : Int)
  | 0 => by simp [psum]
  | k + 1 => by
    have := psum_bound h k
    have := h k
    unfold psum
    omega
/-- One division: the sums, if they come to 0 and are allowed. -/
def qStep (p : Int × List Int) : Option (Int × List Int) :=
  if psum p.2 p.2.length = 0 ∧ (sums p.2 p.2.length).all coOk = true then some (trimLow p.1 (sums p.2 p.2.length), trimL (sums p.2 p.2.length)) else none
def qIter (p : Int × List Int) : Nat → Option (Int × List Int)
  | 0 => some p
  | k + 1 => (qIter p k).bind qStep

theorem trE_last {l : List Int} (h : trE l ≠ 0) : l.getD (trE l - 1) 0 ≠ 0 := by
  have key : ∀ t, trEnd l t ≠ 0 → l.getD (trEnd l t - 1) 0 ≠ 0 := by
    intro t
    induction t with
    | zero => intro h; exact absurd rfl h
    | succ t ih =>
      intro h
      by_cases hz : l.getD t 0 = 0
      · rw [trEnd_zero hz] at h ⊢; exact ih h
      · rw [trEnd_one hz]; exact hz
  exact key _ h
theorem trF_first {l : List Int} (h : trF l ≠ trE l) : l.getD (trF l) 0 ≠ 0 := by
  have key : ∀ d, d ≤ trE l → trBeg l (trE l) d ≠ trE l → l.getD (trBeg l (trE l) d) 0 ≠ 0 := by
    intro d
    induction d with
    | zero => intro _ h; exact absurd rfl h
    | succ d ih =>
      intro hd h
      by_cases hz : l.getD (trE l - (d + 1)) 0 = 0
      · rw [trBeg_zero hz] at h ⊢; exact ih (by omega) h
      · rw [trBeg_one hz]; exact hz
  exact key _ (Nat.le_refl _) h
theorem trE_zeros {l : List Int} {i : Nat} (h : trE l ≤ i) : l.getD i 0 = 0 := by
  have key : ∀ t, ∀ i, trEnd l t ≤ i → i < t → l.getD i 0 = 0 := by
    intro t
    induction t with
    | zero => intro i _ h; omega
    | succ t ih =>
      intro i h1 h2
      by_cases hz : l.getD t 0 = 0
      · rw [trEnd_zero hz] at h1
        by_cases e : i = t
        · rw [e]; exact hz
        · exact ih i h1 (by omega)
      · rw [trEnd_one hz] at h1; omega
  by_cases hi : i < l.length
  · exact key _ i h hi
  · rw [List.getD_eq_getElem?_getD, List.getElem?_eq_none (by omega)]; rfl
theorem trF_zeros {l : List Int} {i : Nat} (h : i < trF l) : l.getD i 0 = 0 := by
  have key : ∀ d, d ≤ trE l → ∀ i, trE l - d ≤ i → i < trBeg l (trE l) d → l.getD i 0 = 0 := by
    intro d
    induction d with
    | zero => intro _ i h1 h2; simp only [trBeg] at h2; omega
    | succ d ih =>
      intro hd i h1 h2
      by_cases hz : l.getD (trE l - (d + 1)) 0 = 0
      · rw [trBeg_zero hz] at h2
        by_cases e : i = trE l - (d + 1)
        · rw [e]; exact hz
        · exact ih (by omega) i (by omega) h2
      · rw [trBeg_one hz] at h2; omega
  exact key _ (Nat.le_refl _) i (by omega) h
theorem trimL_get {l : List Int} {i : Nat} (h : i < (trimL l).length) : (trimL l).getD i 0 = l.getD (trF l + i) 0 := by
  have hl := trimL_len l
  have hne : trF l ≠ trE l := fun e => by rw [hl, e, Nat.sub_self] at h; omega
  unfold trimL
  rw [if_neg hne, List.getD_eq_getElem?_getD, List.getElem?_take, if_pos (by omega), List.getElem?_drop, List.getD_eq_getElem?_getD]
theorem all_get {p : Int → Bool} {l : List Int} : l.all p = true ↔ ∀ i, i < l.length → p (l.getD i 0) = true := by
  rw [List.all_eq_true]
  constructor
  · intro h i hi
    rw [List.getD_eq_getElem?_getD, List.getElem?_eq_getElem hi]
    exact h _ (List.getElem_mem hi)
  · intro h c hc
    obtain ⟨i, hi, rfl⟩ := List.mem_iff_getElem.1 hc
    have := h i hi
    rw [List.getD_eq_getElem?_getD, List.getElem?_eq_getElem hi] at this
    exact this
/-- Trimmed numbers are allowed as a polynomial if they were small enough. -/
theorem lauOk_trim {low : Int} {l : List Int} (h1 : -1000 ≤ low) (h2 : low + l.length ≤ 1001) (h3 : l.length ≤ 2001) : lauOk (trimLow low l) (trimL l) = l.all coOk := by
  have hE := trE_le l
  have hF := trF_le l
  have hlen := trimL_len l
  by_cases hz : trF l = trE l
  · have e1 : trimL l = [] := by unfold trimL; rw [if_pos hz]
    have e2 : trimLow low l = 0 := by unfold trimLow; rw [if_pos hz]
    rw [e1, e2, lauOk_zero rfl]
    symm
    rw [show decide ((0 : Int) = 0) = true from rfl, all_get]
    intro i hi
    have : l.getD i 0 = 0 := by
      by_cases h : trE l ≤ i
      · exact trE_zeros h
      · exact trF_zeros (by omega)
    rw [this]; rfl
  · have hne : (trimL l).length ≠ 0 := by omega
    have e2 : trimLow low l = low + (trF l : Int) := by unfold trimLow; rw [if_neg hz]
    rw [lauOk_pos hne]
    have f0 : (trimL l).getD 0 0 ≠ 0 := by rw [trimL_get (by omega)]; exact trF_first hz
    have f1 : (trimL l).getD ((trimL l).length - 1) 0 ≠ 0 := by
      rw [trimL_get (by omega), show trF l + ((trimL l).length - 1) = trE l - 1 by omega]
      exact trE_last (by omega)
    have hall : (trimL l).all coOk = l.all coOk := by
      rw [Bool.eq_iff_iff, all_get, all_get]
      constructor
      · intro h i hi
        by_cases hi1 : trE l ≤ i
        · rw [trE_zeros hi1]; rfl
        · by_cases hi2 : i < trF l
          · rw [trF_zeros hi2]; rfl
          · have := h (i - trF l) (by omega)
            rw [trimL_get (by omega), show trF l + (i - trF l) = i by omega] at this
            exact this
      · intro h i hi
        rw [trimL_get hi]
        exact h _ (by omega)
    rw [hall, e2]
    rw [decide_eq_true (by omega), decide_eq_true (by omega), decide_eq_true (by omega), decide_eq_true (by omega)]
    have g0 : ((trimL l).getD 0 0 == 0) = false := beq_eq_false_iff_ne.2 f0
    have g1 : ((trimL l).getD ((trimL l).length - 1) 0 == 0) = false := beq_eq_false_iff_ne.2 f1
    rw [g0, g1]
    rfl
/-- What is allowed stays as it is. -/
theorem trim_same {low : Int} {l : List Int} (h : lauOk low l = true) : trimLow low l = low ∧ trimL l = l := by
  by_cases h0 : l.length = 0
  · have e := List.eq_nil_of_length_eq_zero h0
    subst e
    rw [lauOk_zero rfl] at h
    have : low = 0 := by simpa using h
    subst this
    exact ⟨rfl, rfl⟩
  · rw [lauOk_pos h0] at h
    simp only [Bool.and_eq_true, Bool.not_eq_true', beq_eq_false_iff_ne] at h
    have hE : trE l = l.length := by
      have e : l.length = (l.length - 1) + 1 := by omega
      unfold trE
      rw [e, trEnd_one h.1.2]
    have hF : trF l = 0 := by
      unfold trF
      rw [hE]
      have e : l.length = (l.length - 1) + 1 := by omega
      have e2 : l.length - (l.length - 1 + 1) = 0 := by omega
      have hb := trBeg_one (l := l) (t := l.length) (d := l.length - 1) (by rw [e2]; exact h.1.1.2)
      rw [e2, ← e] at hb
      exact hb
    have hne : ¬ trF l = trE l := by omega
    constructor
    · unfold trimLow; rw [if_neg hne, hF]; simp
    · unfold trimL; rw [if_neg hne, hF, hE, List.drop_zero, Nat.sub_zero, List.take_of_length_le (Nat.le_refl _)]
theorem qStep_ok {p q : Int × List Int} (hp : lauOk p.1 p.2 = true) (h : qStep p = some q) : lauOk q.1 q.2 = true := by
  unfold qStep at h
  split at h
  · rename_i hh
    cases h
    rw [lauOk_trim (lauOk_low hp).1 (by rw [sums_len]; exact lauOk_high hp) (by rw [sums_len]; exact lauOk_len hp)]
    exact hh.2
  · cases h
theorem qIter_ok {p : Int × List Int} (hp : lauOk p.1 p.2 = true) : ∀ k q, qIter p k = some q → lauOk q.1 q.2 = true
  | 0, q, h => by cases h; exact hp
  | k + 1, q, h => by
    unfold qIter at h
    cases hk : qIter p k with
    | none => rw [hk] at h; cases h
    | some r =>
      rw [hk] at h
      exact qStep_ok (qIter_ok hp k r hk) h
theorem qIter_none {p : Int × List Int} {j : Nat} (h : qIter p j = none) : ∀ k, j ≤ k → qIter p k = none
  | 0, hk => by have : j = 0 := by omega
                subst this; exact h
  | k + 1, hk => by
    by_cases e : j = k + 1
    · rw [← e]; exact h
    · unfold qIter
      rw [qIter_none h k (by omega)]
      rfl
theorem qIter_succ {p q : Int × List Int} {j : Nat} (h : qIter p j = some q) : qIter p (j + 1) = qStep q := by
  show (qIter p j).bind qStep = _
  rw [h]; rfl

end Go.Proofs

/-
  What the functions of this part hand back: each as a plain function of its arguments. Conditions: none.
-/
namespace Go.Proofs
open Go.W8
set_option linter.unusedVariables false
set_option linter.unusedSimpArgs false
set_option linter.unusedSectionVars false
set_option maxRecDepth 8000
set_option maxHeartbeats 4000000
--@plain
/-- The number of a polynomial at a power, of its first i only. -/
def coK (low : Int) (l : List Int) (i : Nat) (e : Int) : Int := if low ≤ e ∧ e < low + i then l.getD (e - low).toNat 0 else 0
theorem coK_zero {low : Int} {l : List Int} {e : Int} : coK low l 0 e = 0 := by unfold coK; rw [if_neg (by omega)]
theorem coK_here {low : Int} {l : List Int} {i : Nat} : coK low l i (low + i) = 0 := by unfold coK; rw [if_neg (by omega)]
theorem coK_step {low : Int} {l : List Int} {i : Nat} {e : Int} : coK low l (i + 1) e = if e = low + i then l.getD i 0 else coK low l i e := by
  unfold coK
  by_cases h : e = low + i
  · rw [if_pos (by omega), if_pos h, h, show (low + (i : Int) - low).toNat = i by omega]
  · rw [if_neg h]
    by_cases h2 : low ≤ e ∧ e < low + i
    · rw [if_pos (by omega), if_pos h2]
    · rw [if_neg (by omega), if_neg h2]
theorem coK_bound {low : Int} {l : List Int} {i : Nat} {e : Int} (h : ∀ k, -1000000000000 ≤ l.getD k 0 ∧ l.getD k 0 ≤ 1000000000000) : -1000000000000 ≤ coK low l i e ∧ coK low l i e ≤ 1000000000000 := by
  unfold coK
  split
  · exact h _
  · omega
def sumK (low : Int) (n : Nat) (p1 : Int) (l1 : List Int) (i1 : Nat) (p2 : Int) (l2 : List Int) (i2 : Nat) (k : Int) : List Int :=
  (List.range n).map fun j : Nat => coK p1 l1 i1 (low + j) + k * coK p2 l2 i2 (low + j)
section
variable {low : Int} {n : Nat} {p1 : Int} {l1 : List Int} {i1 : Nat} {p2 : Int} {l2 : List Int} {i2 : Nat} {k : Int}
theorem sumK_len : (sumK low n p1 l1 i1 p2 l2 i2 k).length = n := by simp [sumK]
theorem sumK_get {j : Nat} (h : j < n) : (sumK low n p1 l1 i1 p2 l2 i2 k).getD j 0 = coK p1 l1 i1 (low + j) + k * coK p2 l2 i2 (low + j) := by
  unfold sumK
  rw [List.getD_eq_getElem?_getD, List.getElem?_map, List.getElem?_range h]; rfl
theorem getD_ext0 {a b : List Int} (h : a.length = b.length) (hg : ∀ i, i < a.length → a.getD i 0 = b.getD i 0) : a = b := by
  apply List.ext_getElem h
  intro i h1 h2
  have := hg i h1
  rw [List.getD_eq_getElem?_getD, List.getD_eq_getElem?_getD, List.getElem?_eq_getElem h1, List.getElem?_eq_getElem h2] at this
  simpa using this
theorem getD_set0 {a : List Int} {i j : Nat} {x : Int} (h : i < a.length) : (a.set i x).getD j 0 = if i = j then x else a.getD j 0 := by
  rw [List.getD_eq_getElem?_getD, List.getD_eq_getElem?_getD, List.getElem?_set]
  split
  · simp_all
  · rfl
theorem sumK_step1 {j : Nat} (h : j < n) (e : low + j = p1 + i1) : (sumK low n p1 l1 i1 p2 l2 i2 k).set j (l1.getD i1 0 + k * coK p2 l2 i2 (low + j)) = sumK low n p1 l1 (i1 + 1) p2 l2 i2 k := by
  refine getD_ext0 (by simp [sumK_len]) fun i hi => ?_
  simp only [List.length_set, sumK_len] at hi
  rw [getD_set0 (by rw [sumK_len]; exact h), sumK_get hi, sumK_get hi, coK_step]
  by_cases hj : j = i
  · subst hj; rw [if_pos rfl, if_pos e]
  · rw [if_neg hj, if_neg (by omega)]
theorem sumK_step2 {j : Nat} (h : j < n) (e : low + j = p2 + i2) : (sumK low n p1 l1 i1 p2 l2 i2 k).set j (coK p1 l1 i1 (low + j) + k * l2.getD i2 0) = sumK low n p1 l1 i1 p2 l2 (i2 + 1) k := by
  refine getD_ext0 (by simp [sumK_len]) fun i hi => ?_
  simp only [List.length_set, sumK_len] at hi
  rw [getD_set0 (by rw [sumK_len]; exact h), sumK_get hi, sumK_get hi, coK_step]
  by_cases hj : j = i
  · subst hj; rw [if_pos rfl, if_pos e]
  · rw [if_neg hj, if_neg (by omega)]
theorem sumK_zero : sumK low n p1 l1 0 p2 l2 0 k = List.replicate n 0 := by
  refine getD_ext0 (by simp [sumK_len]) fun i hi => ?_
  rw [sumK_len] at hi
  rw [sumK_get hi, coK_zero, coK_zero]
  simp [List.getD_eq_getElem?_getD, hi]
end
def addLo (p1 : Int) (l1 : List Int) (p2 : Int) : Int := if l1.length = 0 then p2 else min p2 p1
def addHi (p1 : Int) (l1 : List Int) (p2 : Int) (l2 : List Int) : Int := if l1.length = 0 then p2 + l2.length else max (p2 + l2.length) (p1 + l1.length)
def addN (p1 : Int) (l1 : List Int) (p2 : Int) (l2 : List Int) : Nat := (addHi p1 l1 p2 l2 - addLo p1 l1 p2).toNat
def addS (p1 : Int) (l1 : List Int) (p2 : Int) (l2 : List Int) (k : Int) : List Int := sumK (addLo p1 l1 p2) (addN p1 l1 p2 l2) p1 l1 l1.length p2 l2 l2.length k
def addR (p1 : Int) (l1 : List Int) (p2 : Int) (l2 : List Int) (k : Int) : Int × List Int :=
  if l2.length = 0 then (trimLow p1 l1, trimL l1) else (trimLow (addLo p1 l1 p2) (addS p1 l1 p2 l2 k), trimL (addS p1 l1 p2 l2 k))
def addAns (p1 : Int) (l1 : List Int) (p2 : Int) (l2 : List Int) : Int × List Int × Int :=
  if lauOk p1 l1 = true ∧ lauOk p2 l2 = true then if lauOk (addR p1 l1 p2 l2 1).1 (addR p1 l1 p2 l2 1).2 = true then ((addR p1 l1 p2 l2 1).1, (addR p1 l1 p2 l2 1).2, 0) else (0, [], 3) else (0, [], 1)
theorem lauOk_nil {low : Int} {l : List Int} (h : lauOk low l = true) (h0 : l.length = 0) : low = 0 ∧ l = [] := by
  have e := List.eq_nil_of_length_eq_zero h0
  subst e
  rw [lauOk_zero rfl] at h
  exact ⟨by simpa using h, rfl⟩
/-- One of both is 0. -/
theorem addR_zero {p1 : Int} {l1 : List Int} {p2 : Int} {l2 : List Int} (h1 : lauOk p1 l1 = true) (h2 : lauOk p2 l2 = true) (h : l1.length = 0 ∨ l2.length = 0) : addR p1 l1 p2 l2 1 = (p1 + p2, l1 ++ l2) ∧ lauOk (p1 + p2) (l1 ++ l2) = true := by
  unfold addR
  by_cases e2 : l2.length = 0
  · obtain ⟨rfl, rfl⟩ := lauOk_nil h2 e2
    rw [if_pos List.length_nil, (trim_same h1).1, (trim_same h1).2]
    simp [h1]
  · rw [if_neg e2]
    obtain ⟨rfl, rfl⟩ := lauOk_nil h1 (h.resolve_right e2)
    have eS : addS 0 [] p2 l2 1 = l2 := by
      have eN : addN 0 [] p2 l2 = l2.length := by
        unfold addN addHi addLo
        rw [if_pos List.length_nil, if_pos List.length_nil]
        omega
      have eL : addLo 0 [] p2 = p2 := by unfold addLo; rw [if_pos List.length_nil]
      unfold addS
      rw [eN, eL]
      refine getD_ext0 sumK_len fun i hi => ?_
      rw [sumK_len] at hi
      rw [sumK_get hi]
      unfold coK
      rw [if_neg (by simp), if_pos (by omega), show (p2 + (i : Int) - p2).toNat = i by omega]
      omega
    have eL : addLo 0 [] p2 = p2 := by unfold addLo; rw [if_pos List.length_nil]
    rw [eS, eL, (trim_same h2).1, (trim_same h2).2]
    simp [h2]

end Go.Proofs

/-
  What the functions of this part hand back: each as a plain function of its arguments. Conditions: none.
-/
namespace Go.Proofs
open Go.W8
set_option linter.unusedVariables false
set_option linter.unusedSimpArgs false
set_option linter.unusedSectionVars false
set_option maxRecDepth 8000
set_option maxHeartbeats 4000000
--@plain
/-- Sums over the first numbers. -/
def sumN (f : Nat → Int) : Nat → Int
  | 0 => 0
  | n + 1 => sumN f n + f n
theorem sumN_congr {f g : Nat → Int} : ∀ {n : Nat}, (∀ i, i < n → f i = g i) → sumN f n = sumN g n
  | 0, _ => rfl
  | n + 1, h => by
    show sumN f n + f n = sumN g n + g n
    rw [sumN_congr fun i hi => h i (Nat.lt_succ_of_lt hi), h n (Nat.lt_succ_self n)]
theorem sumN_add (f g : Nat → Int) : ∀ n : Nat, sumN (fun i => f i + g i) n = sumN f n + sumN g n
  | 0 => rfl
  | n + 1 => by
    show sumN (fun i => f i + g i) n + (f n + g n) = (sumN f n + f n) + (sumN g n + g n)
    rw [sumN_add f g n]; omega
theorem sumN_mul (c : Int) (f : Nat → Int) : ∀ n : Nat, sumN (fun i => c * f i) n = c * sumN f n
  | 0 => by simp [sumN]
  | n + 1 => by
    show sumN (fun i => c * f i) n + c * f n = c * (sumN f n + f n)
    rw [sumN_mul c f n, Int.mul_add]
theorem sumN_zero : ∀ n : Nat, sumN (fun _ => 0) n = 0
  | 0 => rfl
  | n + 1 => by
    show sumN (fun _ => 0) n + 0 = 0
    rw [sumN_zero n]; rfl
theorem sumN_swap (f : Nat → Nat → Int) (m : Nat) : ∀ n : Nat, sumN (fun i => sumN (fun j => f i j) m) n = sumN (fun j => sumN (fun i => f i j) n) m
  | 0 => by
    show 0 = sumN (fun _ => 0) m
    rw [sumN_zero]
  | n + 1 => by
    show sumN (fun i => sumN (fun j => f i j) m) n + sumN (fun j => f n j) m = sumN (fun j => sumN (fun i => f i j) n + f n j) m
    rw [sumN_swap f m n, sumN_add]
theorem sumN_bound {f : Nat → Int} {c : Int} (hc : ∀ i, -c ≤ f i ∧ f i ≤ c) : ∀ n : Nat, -(c * (n : Int)) ≤ sumN f n ∧ sumN f n ≤ c * (n : Int)
  | 0 => by simp [sumN]
  | n + 1 => by
    have h1 := sumN_bound hc n
    have h2 := hc n
    have e : c * ((n + 1 : Nat) : Int) = c * (n : Int) + c := by rw [Int.natCast_succ, Int.mul_add, Int.mul_one]
    show _ ≤ sumN f n + f n ∧ sumN f n + f n ≤ _
    rw [e]
    omega
/-- The sign of a number of exchanges. -/
def sg (k : Nat) : Int := if k % 2 = 0 then 1 else -1
theorem sg_succ (k : Nat) : sg (k + 1) = - sg k := by
  unfold sg
  split <;> split <;> omega
theorem sg_cases (k : Nat) : sg k = 1 ∨ sg k = -1 := by unfold sg; split <;> simp
/-- How many of a set are below k, and how many lie in front of n from k on. -/
def cb (S : Nat → Bool) : Nat → Nat
  | 0 => 0
  | k + 1 => cb S k + if S k then 1 else 0
def ab (S : Nat → Bool) (n k : Nat) : Nat := cb S n - cb S (k + 1)
def rem (S : Nat → Bool) (a : Nat) : Nat → Bool := fun c => S c && !(c == a)
theorem rem_at (S : Nat → Bool) (a c : Nat) : rem S a c = (S c && !(c == a)) := rfl
theorem rem_comm (S : Nat → Bool) (a b : Nat) : rem (rem S a) b = rem (rem S b) a := by
  funext c
  simp only [rem_at]
  cases S c <;> cases (c == a) <;> cases (c == b) <;> rfl
theorem cb_mono (S : Nat → Bool) {i j : Nat} (h : i ≤ j) : cb S i ≤ cb S j := by
  induction j with
  | zero => have : i = 0 := by omega
            subst this; exact Nat.le_refl _
  | succ j ih =>
    by_cases e : i = j + 1
    · rw [e]; exact Nat.le_refl _
    · have := ih (by omega)
      show _ ≤ cb S j + _
      omega
theorem cb_le (S : Nat → Bool) : ∀ k, cb S k ≤ k
  | 0 => Nat.le_refl _
  | k + 1 => by
    have := cb_le S k
    show cb S k + _ ≤ _
    split <;> omega
theorem cb_rem {S : Nat → Bool} {a : Nat} (h : S a = true) : ∀ k, cb (rem S a) k + (if a < k then 1 else 0) = cb S k
  | 0 => rfl
  | k + 1 => by
    have ih := cb_rem h k
    show cb (rem S a) k + (if rem S a k = true then 1 else 0) + _ = cb S k + (if S k = true then 1 else 0)
    by_cases e : k = a
    · subst e
      rw [if_neg (by omega : ¬ k < k)] at ih
      rw [if_neg (by simp [rem_at]), if_pos h, if_pos (by omega : k < k + 1)]
      omega
    · have e2 : rem S a k = S k := by simp [rem_at, e]
      rw [e2]
      by_cases hk : a < k
      · rw [if_pos hk] at ih
        rw [if_pos (by omega : a < k + 1)]
        omega
      · rw [if_neg hk] at ih
        rw [if_neg (by omega : ¬ a < k + 1)]
        omega
/-- The determinant of monomials t ^ -w: rows r, r + 1, .. (m of them) and the columns of S, by its first row. -/
def dA (n : Nat) (w : Nat → Nat → Int) : Nat → Nat → (Nat → Bool) → Int → Int
  | 0, _, _, e => if e = 0 then 1 else 0
  | m + 1, r, S, e => sumN (fun a => if S a then sg (cb S a) * dA n w m (r + 1) (rem S a) (e + w r a) else 0) n
/-- .. and by its last row. -/
def dB (n : Nat) (w : Nat → Nat → Int) : Nat → Nat → (Nat → Bool) → Int → Int
  | 0, _, _, e => if e = 0 then 1 else 0
  | m + 1, r, S, e => sumN (fun a => if S a then sg (ab S n a) * dB n w m r (rem S a) (e + w (r + m) a) else 0) n
theorem sg_swap {S : Nat → Bool} {n a b : Nat} (ha : S a = true) (hb : S b = true) (hne : a ≠ b) (han : a < n) (hbn : b < n) :
    sg (cb S a) * sg (ab (rem S a) n b) = sg (ab S n b) * sg (cb (rem S b) a) := by
  have h1 := cb_rem ha n
  have h2 := cb_rem ha (b + 1)
  have h3 := cb_rem hb a
  rw [if_pos han] at h1
  have m1 := cb_mono S (show b + 1 ≤ n by omega)
  have m2 := cb_mono (rem S a) (show b + 1 ≤ n by omega)
  by_cases hab : b < a
  · rw [if_pos hab] at h3
    rw [if_neg (by omega)] at h2
    have e1 : ab S n b = ab (rem S a) n b + 1 := by unfold ab; omega
    rw [← h3, e1, sg_succ, sg_succ, Int.neg_mul, Int.neg_mul, Int.mul_comm]
  · rw [if_neg hab] at h3
    rw [if_pos (by omega)] at h2
    have e1 : ab S n b = ab (rem S a) n b := by unfold ab; omega
    have e2 : cb (rem S b) a = cb S a := by omega
    rw [e1, e2, Int.mul_comm]
theorem dA_dB (n : Nat) (w : Nat → Nat → Int) : ∀ (k m : Nat), m ≤ k → ∀ (r : Nat) (S : Nat → Bool), cb S n = m → ∀ e, dA n w m r S e = dB n w m r S e := by
  intro k
  induction k with
  | zero =>
    intro m hm r S _ e
    obtain rfl : m = 0 := by omega
    rfl
  | succ k ih =>
    intro m hm r S hc e
    cases m with
    | zero => rfl
    | succ m =>
      cases m with
      | zero =>
        show sumN _ n = sumN _ n
        refine sumN_congr fun a ha => ?_
        cases hS : S a with
        | false => rfl
        | true =>
          have h1 := cb_mono S (show a + 1 ≤ n by omega)
          have h2 : cb S (a + 1) = cb S a + 1 := by show cb S a + _ = _; rw [if_pos hS]
          have e1 : cb S a = 0 := by omega
          have e2 : ab S n a = 0 := by unfold ab; omega
          simp only [if_true, e1, e2, Nat.add_zero]
          rfl
      | succ m =>
        have hA : dA n w (m + 2) r S e = sumN (fun a => sumN (fun b => if S a = true ∧ S b = true ∧ a ≠ b then sg (cb S a) * sg (ab (rem S a) n b) * dB n w m (r + 1) (rem (rem S a) b) (e + w r a + w (r + 1 + m) b) else 0) n) n := by
          show sumN _ n = _
          refine sumN_congr fun a ha => ?_
          cases hS : S a with
          | false =>
            simp only [Bool.false_eq_true, false_and, if_false]
            exact (sumN_zero n).symm
          | true =>
            have hr := cb_rem hS n
            rw [if_pos ha] at hr
            rw [if_pos rfl, ih (m + 1) (by omega) (r + 1) (rem S a) (by omega)]
            show _ * sumN _ n = _
            rw [← sumN_mul]
            refine sumN_congr fun b hb => ?_
            by_cases hb2 : S b = true ∧ a ≠ b
            · have hr2 : rem S a b = true := by simp [rem_at, hb2.1, Ne.symm hb2.2]
              rw [if_pos hr2, if_pos ⟨rfl, hb2⟩, Int.mul_assoc]
            · have hr2 : ¬ rem S a b = true := by
                simp only [rem_at, Bool.and_eq_true, Bool.not_eq_true', beq_eq_false_iff_ne]
                exact fun h => hb2 ⟨h.1, fun e => h.2 e.symm⟩
              rw [if_neg hr2, if_neg (fun h => hb2 h.2), Int.mul_zero]
        have hB : dB n w (m + 2) r S e = sumN (fun b => sumN (fun a => if S a = true ∧ S b = true ∧ a ≠ b then sg (ab S n b) * sg (cb (rem S b) a) * dA n w m (r + 1) (rem (rem S b) a) (e + w (r + (m + 1)) b + w r a) else 0) n) n := by
          show sumN _ n = _
          refine sumN_congr fun b hb => ?_
          cases hS : S b with
          | false =>
            simp only [Bool.false_eq_true, false_and, and_false, if_false]
            exact (sumN_zero n).symm
          | true =>
            have hr := cb_rem hS n
            rw [if_pos hb] at hr
            rw [if_pos rfl, ← ih (m + 1) (by omega) r (rem S b) (by omega)]
            show _ * sumN _ n = _
            rw [← sumN_mul]
            refine sumN_congr fun a ha => ?_
            by_cases hb2 : S a = true ∧ a ≠ b
            · have hr2 : rem S b a = true := by simp [rem_at, hb2.1, hb2.2]
              rw [if_pos hr2, if_pos ⟨hb2.1, rfl, hb2.2⟩, Int.mul_assoc]
            · have hr2 : ¬ rem S b a = true := by
                simp only [rem_at, Bool.and_eq_true, Bool.not_eq_true', beq_eq_false_iff_ne]
                exact fun h => hb2 h
              rw [if_neg hr2, if_neg (fun h => hb2 ⟨h.1, h.2.2⟩), Int.mul_zero]
        rw [hA, hB, sumN_swap]
        refine sumN_congr fun b hb => sumN_congr fun a ha => ?_
        by_cases h : S a = true ∧ S b = true ∧ a ≠ b
        · rw [if_pos h, if_pos h, sg_swap h.1 h.2.1 h.2.2 ha hb, rem_comm S b a]
          have h1 := cb_rem h.1 n
          rw [if_pos ha] at h1
          have h3 : rem S a b = true := by simp [rem_at, h.2.1, Ne.symm h.2.2]
          have h2 := cb_rem h3 n
          rw [if_pos hb] at h2
          rw [ih m (by omega) (r + 1) (rem (rem S a) b) (by omega), show r + (m + 1) = r + 1 + m by omega, show e + w (r + 1 + m) b + w r a = e + w r a + w (r + 1 + m) b by omega]
        · rw [if_neg h, if_neg h]
theorem dB_far {n : Nat} {w : Nat → Nat → Int} {c : Int} (hc : ∀ r a, a < n → -c ≤ w r a ∧ w r a ≤ c) : ∀ (m r : Nat) (S : Nat → Bool) (e : Int), dB n w m r S e ≠ 0 → -(c * (m : Int)) ≤ e ∧ e ≤ c * (m : Int)
  | 0, r, S, e, h => by
    have : e = 0 := by
      rcases Decidable.em (e = 0) with h1 | h1
      · exact h1
      · exact absurd (if_neg h1) h
    simp [this]
  | m + 1, r, S, e, h => by
    rcases Decidable.em (-(c * ((m + 1 : Nat) : Int)) ≤ e ∧ e ≤ c * ((m + 1 : Nat) : Int)) with h1 | h1
    · exact h1
    · refine absurd ?_ h
      show sumN _ n = 0
      refine (sumN_congr fun a ha => ?_).trans (sumN_zero n)
      cases S a with
      | false => rfl
      | true =>
        have e1 : c * ((m + 1 : Nat) : Int) = c * (m : Int) + c := by rw [Int.natCast_succ, Int.mul_add, Int.mul_one]
        rw [e1] at h1
        have h2 := hc (r + m) a ha
        have h3 : dB n w m r (rem S a) (e + w (r + m) a) = 0 := by
          rcases Decidable.em (dB n w m r (rem S a) (e + w (r + m) a) = 0) with h4 | h4
          · exact h4
          · have := dB_far hc m r (rem S a) _ h4
            omega
        rw [if_pos rfl, h3, Int.mul_zero]
theorem dB_bound (n : Nat) (w : Nat → Nat → Int) : ∀ (m r : Nat) (S : Nat → Bool) (e : Int), -((n : Int) ^ m) ≤ dB n w m r S e ∧ dB n w m r S e ≤ (n : Int) ^ m
  | 0, r, S, e => by
    show _ ≤ (if e = 0 then (1 : Int) else 0) ∧ (if e = 0 then (1 : Int) else 0) ≤ _
    split <;> simp
  | m + 1, r, S, e => by
    rw [Int.pow_succ]
    refine sumN_bound (c := (n : Int) ^ m) (fun a => ?_) n
    have h0 : (0 : Int) ≤ (n : Int) ^ m := Int.pow_nonneg (Int.natCast_nonneg n)
    cases S a with
    | false => simp only [Bool.false_eq_true, if_false]; omega
    | true =>
      have := dB_bound n w m r (rem S a) (e + w (r + m) a)
      rcases sg_cases (ab S n a) with h | h <;> rw [if_pos rfl, h] <;> omega
theorem dA_bound (n : Nat) (w : Nat → Nat → Int) : ∀ (m r : Nat) (S : Nat → Bool) (e : Int), -((n : Int) ^ m) ≤ dA n w m r S e ∧ dA n w m r S e ≤ (n : Int) ^ m
  | 0, r, S, e => by
    show _ ≤ (if e = 0 then (1 : Int) else 0) ∧ (if e = 0 then (1 : Int) else 0) ≤ _
    split <;> simp
  | m + 1, r, S, e => by
    rw [Int.pow_succ]
    refine sumN_bound (c := (n : Int) ^ m) (fun a => ?_) n
    have h0 : (0 : Int) ≤ (n : Int) ^ m := Int.pow_nonneg (Int.natCast_nonneg n)
    cases S a with
    | false => simp only [Bool.false_eq_true, if_false]; omega
    | true =>
      have := dA_bound n w m (r + 1) (rem S a) (e + w r a)
      rcases sg_cases (cb S a) with h | h <;> rw [if_pos rfl, h] <;> omega

/-- Numbers with 0 around them, at whole powers. -/
def coefAt (low : Int) (l : List Int) (e : Int) : Int := if low ≤ e then l.getD (e - low).toNat 0 else 0
theorem getD_far {l : List Int} {i : Nat} (h : l.length ≤ i) : l.getD i 0 = 0 := by
  rw [List.getD_eq_getElem?_getD, List.getElem?_eq_none h]; rfl
/-- Trimming does not change the numbers. -/
theorem coefAt_trim (low : Int) (l : List Int) (h : trimL l ≠ []) (e : Int) : coefAt (trimLow low l) (trimL l) e = coefAt low l e := by
  have hE := trE_le l
  have hF := trF_le l
  have hlen := trimL_len l
  have hz : trF l ≠ trE l := by
    intro hz
    exact h (by unfold trimL; rw [if_pos hz])
  have e2 : trimLow low l = low + (trF l : Int) := by unfold trimLow; rw [if_neg hz]
  unfold coefAt
  rw [e2]
  by_cases h1 : low + (trF l : Int) ≤ e
  · rw [if_pos h1, if_pos (by omega)]
    have e3 : (e - low).toNat = trF l + (e - (low + (trF l : Int))).toNat := by omega
    rw [e3]
    by_cases h2 : (e - (low + (trF l : Int))).toNat < (trimL l).length
    · rw [trimL_get h2]
    · rw [getD_far (by omega), trE_zeros (by omega)]
  · rw [if_neg h1]
    by_cases h2 : low ≤ e
    · rw [if_pos h2, trF_zeros (by omega)]
    · rw [if_neg h2]
theorem trim_nil {l : List Int} (h : trimL l = []) (i : Nat) : l.getD i 0 = 0 := by
  have hlen := trimL_len l
  rw [h] at hlen
  have hF := trF_le l
  simp only [List.length_nil] at hlen
  by_cases h1 : trE l ≤ i
  · exact trE_zeros h1
  · exact trF_zeros (by omega)
/-- Two lists with the same numbers at all powers are trimmed to the same polynomial. -/
theorem trim_eq {low low' : Int} {l l' : List Int} (h : ∀ e, coefAt low l e = coefAt low' l' e) : trimLow low l = trimLow low' l' ∧ trimL l = trimL l' := by
  have key : ∀ (low low' : Int) (l l' : List Int), (∀ e, coefAt low l e = coefAt low' l' e) → trimL l = [] → trimL l' = [] := by
    intro low low' l l' h hn
    rcases Decidable.em (trimL l' = []) with h1 | h1
    · exact h1
    · exfalso
      have hz : trF l' ≠ trE l' := fun hz => h1 (by unfold trimL; rw [if_pos hz])
      have h2 := trF_first hz
      have h3 := h (low' + (trF l' : Int))
      have h4 : coefAt low' l' (low' + (trF l' : Int)) = l'.getD (trF l') 0 := by
        unfold coefAt
        rw [if_pos (by omega), show (low' + (trF l' : Int) - low').toNat = trF l' by omega]
      rw [h4] at h3
      apply h2
      rw [← h3]
      unfold coefAt
      split
      · exact trim_nil hn _
      · rfl
  by_cases hn : trimL l = []
  · have hn' := key low low' l l' h hn
    have e1 := trimL_len l
    have e2 := trimL_len l'
    rw [hn] at e1
    rw [hn'] at e2
    have f1 := trF_le l
    have f2 := trF_le l'
    simp only [List.length_nil] at e1 e2
    refine ⟨?_, by rw [hn, hn']⟩
    unfold trimLow
    rw [if_pos (by omega), if_pos (by omega)]
  · have hn' : trimL l' ≠ [] := fun h' => hn (key low' low l' l (fun e => (h e).symm) h')
    have f1 := trF_le l
    have f2 := trF_le l'
    have e1 := trimL_len l
    have e2 := trimL_len l'
    have p1 : 0 < (trimL l).length := List.length_pos_iff.2 hn
    have p2 : 0 < (trimL l').length := List.length_pos_iff.2 hn'
    have hz : trF l ≠ trE l := by omega
    have hz' : trF l' ≠ trE l' := by omega
    have l1 : trimLow low l = low + (trF l : Int) := by unfold trimLow; rw [if_neg hz]
    have l2 : trimLow low' l' = low' + (trF l' : Int) := by unfold trimLow; rw [if_neg hz']
    have c1 := coefAt_trim low l hn
    have c2 := coefAt_trim low' l' hn'
    have first : ∀ {lw : Int} {q : List Int}, coefAt lw q lw = q.getD 0 0 := by
      intro lw q; unfold coefAt; rw [if_pos (Int.le_refl _), Int.sub_self]; rfl
    have below : ∀ {lw : Int} {q : List Int} {e : Int}, coefAt lw q e ≠ 0 → lw ≤ e ∧ e < lw + (q.length : Int) := by
      intro lw q e hne
      unfold coefAt at hne
      split at hne
      · rename_i hle
        refine ⟨hle, ?_⟩
        rcases Int.lt_or_le e (lw + (q.length : Int)) with h5 | h5
        · exact h5
        · exact absurd (getD_far (by omega)) hne
      · exact absurd rfl hne
    have g1 : (trimL l).getD 0 0 ≠ 0 := by rw [trimL_get p1]; exact trF_first hz
    have g2 : (trimL l').getD 0 0 ≠ 0 := by rw [trimL_get p2]; exact trF_first hz'
    have t1 : (trimL l).getD ((trimL l).length - 1) 0 ≠ 0 := by
      rw [trimL_get (by omega), show trF l + ((trimL l).length - 1) = trE l - 1 by omega]
      exact trE_last (by omega)
    have t2 : (trimL l').getD ((trimL l').length - 1) 0 ≠ 0 := by
      rw [trimL_get (by omega), show trF l' + ((trimL l').length - 1) = trE l' - 1 by omega]
      exact trE_last (by omega)
    have hc : ∀ e, coefAt (trimLow low l) (trimL l) e = coefAt (trimLow low' l') (trimL l') e := fun e => by rw [c1, c2, h]
    have at_end : ∀ {lw : Int} {q : List Int}, 0 < q.length → coefAt lw q (lw + (q.length : Int) - 1) = q.getD (q.length - 1) 0 := by
      intro lw q hq
      unfold coefAt
      rw [if_pos (by omega), show (lw + (q.length : Int) - 1 - lw).toNat = q.length - 1 by omega]
    have b1 := below (lw := trimLow low' l') (q := trimL l') (e := trimLow low l) (by rw [← hc, first]; exact g1)
    have b2 := below (lw := trimLow low l) (q := trimL l) (e := trimLow low' l') (by rw [hc, first]; exact g2)
    have b3 := below (lw := trimLow low' l') (q := trimL l') (e := trimLow low l + ((trimL l).length : Int) - 1) (by rw [← hc, at_end p1]; exact t1)
    have b4 := below (lw := trimLow low l) (q := trimL l) (e := trimLow low' l' + ((trimL l').length : Int) - 1) (by rw [hc, at_end p2]; exact t2)
    have el : trimLow low l = trimLow low' l' := by omega
    have en : (trimL l).length = (trimL l').length := by omega
    refine ⟨el, List.ext_getElem? fun i => ?_⟩
    by_cases hi : i < (trimL l).length
    · have := hc (trimLow low l + (i : Int))
      unfold coefAt at this
      rw [if_pos (by omega), if_pos (by omega), show (trimLow low l + (i : Int) - trimLow low l).toNat = i by omega, show (trimLow low l + (i : Int) - trimLow low' l').toNat = i by omega] at this
      rw [List.getD_eq_getElem?_getD, List.getD_eq_getElem?_getD, List.getElem?_eq_getElem hi, List.getElem?_eq_getElem (by omega)] at this
      rw [List.getElem?_eq_getElem hi, List.getElem?_eq_getElem (by omega)]
      simpa using this
    · rw [List.getElem?_eq_none (by omega), List.getElem?_eq_none (by omega)]

end Go.Proofs

/-
  What the functions of this part hand back: each as a plain function of its arguments. Conditions: none.
-/
namespace Go.Proofs
open Go.W8
set_option linter.unusedVariables false
set_option linter.unusedSimpArgs false
set_option linter.unusedSectionVars false
set_option maxRecDepth 8000
set_option maxHeartbeats 4000000
--@plain
/-- Binomial coefficients, as both sides reckon them. -/
def binR (n : Int) : Nat → Int
  | 0 => 1
  | i + 1 => binR n i * (n - (i : Int)) / ((i : Int) + 1)
theorem binR_bound : ∀ d : Nat, d < 21 → ∀ i : Nat, i < 2 * d + 1 → 0 < binR (2 * (d : Int)) i ∧ binR (2 * (d : Int)) i ≤ 137846528820 := by decide +kernel
theorem binR_sym : ∀ d : Nat, d < 21 → ∀ j : Nat, j < d + 1 → binR (2 * (d : Int)) (d - j) = binR (2 * (d : Int)) (d + j) := by decide +kernel
theorem binR_one : ∀ d : Nat, d < 21 → binR (2 * (d : Int)) (2 * d) = 1 := by decide +kernel
/-- What is left when the power k has been taken away. -/
def cwV (k : Nat) (L : List Int) (j : Nat) : Int := L.getD j 0 - L.getD k 0 * (sg (k - j) * binR (2 * (k : Int)) (k + j))
def cwP (k : Nat) (L : List Int) (t : Nat) : List Int := (List.range L.length).map fun j => if j < t then cwV k L j else L.getD j 0
def cwN (k : Nat) (L : List Int) : List Int := cwP k L (k + 1)
def cwOk (k : Nat) (L : List Int) : Prop := ∀ j, j ≤ k → coOk (cwV k L j) = true
instance (k : Nat) (L : List Int) : Decidable (cwOk k L) := by unfold cwOk; exact inferInstance
def cwK : Nat → List Int → List Int → Option (List Int)
  | 0, _, out => some out
  | k + 1, L, out => if cwOk k L then cwK k (cwN k L) (out.set k (L.getD k 0)) else none
theorem map_get {n : Nat} {f : Nat → Int} {i : Nat} (h : i < n) : ((List.range n).map f).getD i 0 = f i := by
  rw [List.getD_eq_getElem?_getD, List.getElem?_map, List.getElem?_range h]; rfl
section
variable {k t j : Nat} {L out : List Int}
theorem cwP_len : (cwP k L t).length = L.length := by simp [cwP]
theorem cwN_len : (cwN k L).length = L.length := cwP_len
theorem cwP_get (h : j < L.length) : (cwP k L t).getD j 0 = if j < t then cwV k L j else L.getD j 0 := map_get h
theorem cwP_zero : cwP k L 0 = L := by
  refine getD_ext0 cwP_len fun j hj => ?_
  rw [cwP_len] at hj
  rw [cwP_get hj, if_neg (by omega)]
theorem cwP_set (h : t < L.length) : (cwP k L t).set t (cwV k L t) = cwP k L (t + 1) := by
  refine getD_ext0 (by simp [cwP_len]) fun j hj => ?_
  rw [List.length_set, cwP_len] at hj
  rw [getD_set0 (by rw [cwP_len]; exact h), cwP_get hj, cwP_get hj]
  by_cases e : t = j
  · subst e; rw [if_pos rfl, if_pos (by omega)]
  · rw [if_neg e]
    by_cases h2 : j < t
    · rw [if_pos h2, if_pos (by omega)]
    · rw [if_neg h2, if_neg (by omega)]
theorem cwP_same (h : L.getD k 0 = 0) : cwP k L t = L := by
  refine getD_ext0 cwP_len fun j hj => ?_
  rw [cwP_len] at hj
  rw [cwP_get hj]
  unfold cwV
  rw [h, Int.zero_mul, Int.sub_zero]
  split <;> rfl
theorem cwK_yes (h : cwOk k L) : cwK (k + 1) L out = cwK k (cwN k L) (out.set k (L.getD k 0)) := by
  show (if _ then _ else _) = _
  rw [if_pos h]
theorem cwK_no (h : ¬ cwOk k L) : cwK (k + 1) L out = none := by
  show (if _ then _ else _) = _
  rw [if_neg h]
theorem set_same0 (h : out.getD k 0 = 0) : out.set k 0 = out := by
  refine getD_ext0 (by simp) fun j hj => ?_
  rw [List.length_set] at hj
  by_cases hk : k < out.length
  · rw [getD_set0 hk]
    split
    · rename_i e; rw [← e, h]
    · rfl
  · rw [List.set_eq_of_length_le (by omega)]
theorem cwK_skip (h : L.getD k 0 = 0) (hc : ∀ j, coOk (L.getD j 0) = true) (ho : out.getD k 0 = 0) : cwK (k + 1) L out = cwK k L out := by
  rw [cwK_yes]
  · rw [h, set_same0 ho]
    unfold cwN
    rw [cwP_same h]
  · intro j _
    unfold cwV
    rw [h, Int.zero_mul, Int.sub_zero]
    exact hc j
theorem cwK_skips (hc : ∀ j, coOk (L.getD j 0) = true) {d' : Nat} : ∀ {d : Nat}, d' ≤ d → (∀ j, d' ≤ j → j < d → L.getD j 0 = 0 ∧ out.getD j 0 = 0) → cwK d L out = cwK d' L out
  | 0, h, _ => by have : d' = 0 := by omega
                  rw [this]
  | d + 1, h, hz => by
    by_cases e : d' = d + 1
    · rw [e]
    · rw [cwK_skip (hz d (by omega) (by omega)).1 hc (hz d (by omega) (by omega)).2]
      exact cwK_skips hc (by omega) fun j h1 h2 => hz j h1 (by omega)
theorem find_top (L : List Int) : ∀ d : Nat, (∀ j, j < d → L.getD j 0 = 0) ∨ ∃ d', d' < d ∧ L.getD d' 0 ≠ 0 ∧ ∀ j, d' < j → j < d → L.getD j 0 = 0
  | 0 => .inl fun j h => absurd h (Nat.not_lt_zero _)
  | d + 1 => by
    by_cases h : L.getD d 0 = 0
    · rcases find_top L d with h1 | ⟨d', h1, h2, h3⟩
      · refine .inl fun j hj => ?_
        rcases Nat.lt_succ_iff_lt_or_eq.1 hj with h2 | rfl
        · exact h1 j h2
        · exact h
      · refine .inr ⟨d', by omega, h2, fun j hj1 hj2 => ?_⟩
        rcases Nat.lt_succ_iff_lt_or_eq.1 hj2 with h4 | rfl
        · exact h3 j hj1 h4
        · exact h
    · exact .inr ⟨d, Nat.lt_succ_self d, h, fun j h1 h2 => absurd h2 (by omega)⟩
theorem cwN_ok (h : cwOk k L) (hc : ∀ j, coOk (L.getD j 0) = true) (j : Nat) : coOk ((cwN k L).getD j 0) = true := by
  by_cases hj : j < L.length
  · unfold cwN
    rw [cwP_get hj]
    split
    · exact h j (by omega)
    · exact hc j
  · rw [getD_far (by rw [cwN_len]; omega)]; rfl
end
/-- A polynomial that reads alike from both ends. -/
def symL (d : Nat) (L : List Int) : List Int := (List.range (2 * d + 1)).map fun i => L.getD (if i ≤ d then d - i else i - d) 0
section
variable {d d' k : Nat} {L : List Int}
theorem symL_len : (symL d L).length = 2 * d + 1 := by simp [symL]
theorem symL_get {i : Nat} (h : i < 2 * d + 1) : (symL d L).getD i 0 = L.getD (if i ≤ d then d - i else i - d) 0 := map_get h
theorem sg_mod (i : Nat) : (1 : Int) - 2 * ((i : Int) % 2) = sg i := by
  unfold sg
  split <;> omega
theorem sg_even {i j : Nat} (h : i % 2 = j % 2) : sg i = sg j := by unfold sg; rw [h]
theorem symL_step (hk : k < 21) (hl : k < L.length) {i : Nat} (hi : i < 2 * k + 1) : (symL k L).getD i 0 - L.getD k 0 * (binR (2 * (k : Int)) i * (1 - 2 * ((i : Int) % 2))) = (symL k (cwN k L)).getD i 0 := by
  rw [symL_get hi, symL_get hi, sg_mod]
  unfold cwN
  by_cases h : i ≤ k
  · rw [if_pos h, cwP_get (by omega), if_pos (by omega)]
    unfold cwV
    rw [show k - (k - i) = i by omega, ← binR_sym k hk (k - i) (by omega), show k - (k - i) = i by omega, Int.mul_comm (sg i)]
  · rw [if_neg h, cwP_get (by omega), if_pos (by omega)]
    unfold cwV
    rw [sg_even (i := k - (i - k)) (j := i) (by omega), show k + (i - k) = i by omega, Int.mul_comm (sg i)]
theorem coefAt_sym (e : Int) : coefAt (-(d : Int)) (symL d L) e = if e.natAbs ≤ d then L.getD e.natAbs 0 else 0 := by
  unfold coefAt
  by_cases h : e.natAbs ≤ d
  · rw [if_pos h, if_pos (by omega), symL_get (by omega)]
    congr 1
    split <;> omega
  · rw [if_neg h]
    split
    · exact getD_far (by rw [symL_len]; omega)
    · rfl
theorem trim_sym_zero (h : ∀ j, j ≤ d → L.getD j 0 = 0) : trimLow (-(d : Int)) (symL d L) = 0 ∧ trimL (symL d L) = [] := by
  have := trim_eq (low := -(d : Int)) (low' := 0) (l := symL d L) (l' := []) fun e => by
    rw [coefAt_sym]
    have : coefAt 0 [] e = 0 := by unfold coefAt; split <;> rfl
    rw [this]
    split
    · exact h _ (by assumption)
    · rfl
  exact this
theorem symL_ok (hd : d ≤ 1000) (hn : L.getD d 0 ≠ 0) (hc : ∀ j, coOk (L.getD j 0) = true) : lauOk (-(d : Int)) (symL d L) = true := by
  rw [lauOk_pos (by rw [symL_len]; omega), symL_len]
  have h0 : (symL d L).getD 0 0 ≠ 0 := by rw [symL_get (by omega), if_pos (by omega)]; exact hn
  have h1 : (symL d L).getD (2 * d + 1 - 1) 0 ≠ 0 := by
    rw [symL_get (by omega)]
    split
    · have : d = 0 := by omega
      subst this; exact hn
    · rw [show 2 * d + 1 - 1 - d = d by omega]; exact hn
  have h2 : (symL d L).all coOk = true := by
    rw [all_get]
    intro i hi
    rw [symL_len] at hi
    rw [symL_get hi]
    exact hc _
  rw [h2, beq_eq_false_iff_ne.2 h0, beq_eq_false_iff_ne.2 h1, decide_eq_true (by omega), decide_eq_true (by omega), decide_eq_true (by omega), decide_eq_true (by omega)]
  rfl
theorem trim_sym (hd : d' ≤ d) (hd2 : d ≤ 1000) (hn : L.getD d' 0 ≠ 0) (hz : ∀ j, d' < j → j ≤ d → L.getD j 0 = 0) (hc : ∀ j, coOk (L.getD j 0) = true) : trimLow (-(d : Int)) (symL d L) = -(d' : Int) ∧ trimL (symL d L) = symL d' L := by
  have h1 := trim_eq (low := -(d : Int)) (low' := -(d' : Int)) (l := symL d L) (l' := symL d' L) fun e => by
    rw [coefAt_sym, coefAt_sym]
    by_cases h : e.natAbs ≤ d'
    · rw [if_pos h, if_pos (by omega)]
    · rw [if_neg h]
      split
      · exact hz _ (by omega) (by assumption)
      · rfl
  have h2 := trim_same (symL_ok (by omega) hn hc)
  rw [h1.1, h1.2]
  exact h2
end
/-- Reading alike from both ends. -/
def isSym (low : Int) (l : List Int) : Prop := l.reverse = l ∧ -(low + (l.length : Int) - 1) = low
instance (low : Int) (l : List Int) : Decidable (isSym low l) := by unfold isSym; exact inferInstance
theorem rev_get0 {l : List Int} {i : Nat} (h : i < l.length) : l.reverse.getD i 0 = l.getD (l.length - 1 - i) 0 := by
  rw [List.getD_eq_getElem?_getD, List.getElem?_reverse h, List.getD_eq_getElem?_getD]
theorem sym_form {low : Int} {l : List Int} (h : isSym low l) (h0 : l.length ≠ 0) : ∃ d : Nat, low = -(d : Int) ∧ l.length = 2 * d + 1 ∧ l = symL d (l.drop d) := by
  obtain ⟨h1, h2⟩ := h
  obtain ⟨d, hd⟩ : ∃ d : Nat, low = -(d : Int) := ⟨(-low).toNat, by omega⟩
  have hl : l.length = 2 * d + 1 := by omega
  refine ⟨d, hd, hl, getD_ext0 (by rw [symL_len, hl]) fun i hi => ?_⟩
  rw [symL_get (by omega)]
  have hdr : ∀ j, (l.drop d).getD j 0 = l.getD (d + j) 0 := fun j => by
    rw [List.getD_eq_getElem?_getD, List.getElem?_drop, List.getD_eq_getElem?_getD]
  rw [hdr]
  split
  · have := rev_get0 hi
    rw [h1] at this
    rw [this]
    congr 1
    omega
  · congr 1
    omega
theorem coK_coef {low : Int} {l : List Int} {e : Int} : coK low l l.length e = coefAt low l e := by
  unfold coK coefAt
  by_cases h : low ≤ e ∧ e < low + (l.length : Int)
  · rw [if_pos h, if_pos h.1]
  · rw [if_neg h]
    split
    · exact (getD_far (by omega)).symm
    · rfl
/-- A difference is 0 just when both are the same. -/
theorem like_iff {p1 p2 : Int} {l1 l2 : List Int} (h1 : lauOk p1 l1 = true) (h2 : lauOk p2 l2 = true) (hz : l2.length = 0 ↔ l1.length = 0) : (addR p1 l1 p2 l2 (-1)).2.length = 0 ↔ p1 = p2 ∧ l1 = l2 := by
  by_cases h0 : l2.length = 0
  · have h01 := hz.1 h0
    obtain ⟨rfl, rfl⟩ := lauOk_nil h1 h01
    obtain ⟨rfl, rfl⟩ := lauOk_nil h2 h0
    simp [addR, trimL, trF, trE, trEnd, trBeg]
  · have h01 : l1.length ≠ 0 := fun e => h0 (hz.2 e)
    unfold addR
    rw [if_neg h0]
    have hlo : addLo p1 l1 p2 = min p2 p1 := by unfold addLo; rw [if_neg h01]
    have hhi : addHi p1 l1 p2 l2 = max (p2 + l2.length) (p1 + l1.length) := by unfold addHi; rw [if_neg h01]
    have hN : addN p1 l1 p2 l2 = (addHi p1 l1 p2 l2 - addLo p1 l1 p2).toNat := rfl
    constructor
    · intro hlen
      have hnil := List.eq_nil_of_length_eq_zero hlen
      have hall : ∀ e, coefAt p1 l1 e = coefAt p2 l2 e := by
        intro e
        rw [← coK_coef, ← coK_coef]
        by_cases hr : addLo p1 l1 p2 ≤ e ∧ e < addHi p1 l1 p2 l2
        · have hg := trim_nil hnil (e - addLo p1 l1 p2).toNat
          unfold addS at hg
          rw [sumK_get (by omega), show addLo p1 l1 p2 + (((e - addLo p1 l1 p2).toNat : Nat) : Int) = e by omega] at hg
          omega
        · unfold coK
          rw [if_neg (by omega), if_neg (by omega)]
      have ht := trim_eq hall
      rw [(trim_same h1).1, (trim_same h1).2, (trim_same h2).1, (trim_same h2).2] at ht
      exact ht
    · rintro ⟨rfl, rfl⟩
      have := trim_eq (low := addLo p1 l1 p1) (low' := 0) (l := addS p1 l1 p1 l1 (-1)) (l' := []) fun e => by
        have hz : coefAt 0 [] e = 0 := by unfold coefAt; split <;> rfl
        rw [hz, ← coK_coef]
        unfold coK
        split
        · rename_i h
          unfold addS at h ⊢
          rw [sumK_len] at h
          rw [sumK_get (by omega)]
          omega
        · rfl
      show (trimL (addS p1 l1 p1 l1 (-1))).length = 0
      rw [this.2]
      rfl
/-- The test before the product. -/
theorem big_no {z c b s : Int} (hz : coOk z = true) (hb : 0 < b) (hs : s = 1 ∨ s = -1) (h : (if 0 - c > c then 0 - c else c) > 2000000000000 / b) : coOk (z - c * (s * b)) = false := by
  have h1 := Int.lt_ediv_add_one_mul_self 2000000000000 hb
  unfold coOk at hz ⊢
  simp only [Bool.and_eq_true, decide_eq_true_eq] at hz
  have hq : 0 ≤ (2000000000000 : Int) / b := Int.ediv_nonneg (by decide) (by omega)
  generalize (2000000000000 : Int) / b = q at *
  have key : ∀ a : Int, a ≥ q + 1 → 2000000000000 < a * b := fun a ha => Int.lt_of_lt_of_le h1 (Int.mul_le_mul_of_nonneg_right ha (by omega))
  have e1 : (0 - c) * b = -(c * b) := by rw [Int.zero_sub, Int.neg_mul]
  have h2 : c * b > 2000000000000 ∨ c * b < -2000000000000 := by
    split at h
    · have := key (0 - c) (by omega); omega
    · have := key c (by omega); omega
  rw [Bool.eq_false_iff]
  intro hh
  simp only [Bool.and_eq_true, decide_eq_true_eq] at hh
  rcases hs with rfl | rfl
  · rw [Int.one_mul] at hh; omega
  · rw [show c * (-1 * b) = -(c * b) by rw [Int.neg_mul, Int.one_mul, Int.mul_neg]] at hh; omega
theorem small_yes {c b : Int} (hb : 0 < b) (h : ¬ (if 0 - c > c then 0 - c else c) > 2000000000000 / b) : -2000000000000 ≤ c * b ∧ c * b ≤ 2000000000000 := by
  have h1 := Int.ediv_mul_le 2000000000000 (show b ≠ 0 by omega)
  generalize (2000000000000 : Int) / b = q at *
  have key : ∀ a : Int, a ≤ q → a * b ≤ 2000000000000 := fun a ha => Int.le_trans (Int.mul_le_mul_of_nonneg_right ha (by omega)) h1
  have e1 : (0 - c) * b = -(c * b) := by rw [Int.zero_sub, Int.neg_mul]
  have h2 := key c (by split at h <;> omega)
  have h3 := key (0 - c) (by split at h <;> omega)
  omega

end Go.Proofs

/-
  What the functions of this part hand back: each as a plain function of its arguments. Conditions: none.
-/
namespace Go.Proofs
open Go.W8
set_option linter.unusedVariables false
set_option linter.unusedSimpArgs false
set_option linter.unusedSectionVars false
set_option maxRecDepth 8000
set_option maxHeartbeats 4000000
--@plain
/-- A row of numbers that is handed in. -/
def InS (R : Rd) (l : List Int) (v : Value) : Prop := ∃ a cap, v = .slice a l.length cap ∧ (l.length ≠ 0 → ∃ b o, a = some ⟨b, o, none⟩ ∧ (b, o, ints .i64 l) ∈ R)
theorem InS.get {W : List Nat} {w0 : World} {R : Rd} {l : List Int} {a : Option Addr} {m cap k : Nat} (h : InS R l (.slice a m cap)) (ht : W8.Told W w0 R) (hk : k < l.length) : ∃ b o, a = some ⟨b, o, none⟩ ∧ frn W w0 b (o + k) = some (.int .i64 (l.getD k 0)) := by
  obtain ⟨a', cap', e, h⟩ := h
  cases e
  obtain ⟨b, o, rfl, hm⟩ := h (by omega)
  exact ⟨b, o, rfl, ht _ hm k _ (ints_get hk)⟩
theorem InS.more {R R' : Rd} {l : List Int} {v : Value} (h : InS R l v) (hs : ∀ r ∈ R, r ∈ R') : InS R' l v := by
  obtain ⟨a, cap, rfl, h⟩ := h
  exact ⟨a, cap, rfl, fun hn => let ⟨b, o, e, hm⟩ := h hn; ⟨b, o, e, hs _ hm⟩⟩
theorem _root_.Go.W8.RdS.more {R R' : Rd} {w : Nat} {l : List Value} {v : Value} (h : RdS R w l v) (hs : ∀ r ∈ R, r ∈ R') : RdS R' w l v := by
  obtain ⟨a, m, cap, rfl, hl, h, h2⟩ := h
  exact ⟨a, m, cap, rfl, hl, (fun hn => let ⟨b, cs, e, hm, hr⟩ := h hn; ⟨b, cs, e, hs _ hm, hr⟩), h2⟩
theorem _root_.Go.W8.SlN.form {w : Nat} {l : List Value} {v : Value} {M : Blks} (h : SlN w l v M) : ∃ a m cap, v = .slice a m cap := by
  rcases h with ⟨_, rfl, _⟩ | ⟨b, m, cap, cs, rfl, _, _⟩
  · exact ⟨_, _, _, rfl⟩
  · exact ⟨_, _, _, rfl⟩
/-- A polynomial and the memory that it has for its own. -/
def LauV (low : Int) (l : List Int) (v : Value) (M : Blks) : Prop := ∃ s, v = .agg #[.int .i64 low, s] ∧ SlN 1 (ints .i64 l) s M
/-- A polynomial whose numbers stand in what is told. -/
def RdL (R : Rd) (low : Int) (l : List Int) (v : Value) : Prop := ∃ s, v = .agg #[.int .i64 low, s] ∧ RdS R 1 (ints .i64 l) s
theorem LauV.reads {low : Int} {l : List Int} {v : Value} {M : Blks} {R : Rd} (h : LauV low l v M) (hR : ∀ p ∈ M, (p.1, 0, p.2) ∈ R) : RdL R low l v := by
  obtain ⟨s, rfl, h⟩ := h
  exact ⟨s, rfl, h.reads hR⟩
theorem RdL.more {R R' : Rd} {low : Int} {l : List Int} {v : Value} (h : RdL R low l v) (hs : ∀ r ∈ R, r ∈ R') : RdL R' low l v := by
  obtain ⟨s, rfl, h⟩ := h
  exact ⟨s, rfl, h.more hs⟩
theorem told_ne {W : List Nat} {w0 : World} {M : Blks} {b1 b k : Nat} {v : Value} (h : Fresh w0 M b1) (g : frn W w0 b k = some v) : ¬ b1 = b := fun e => by
  have h1 := frn_lt g
  have h2 := h.1
  omega
/-- A row of numbers, from some place on. -/
def RdO (R : Rd) (l : List Int) (v : Value) : Prop :=
  (l = [] ∧ ∃ cap, v = .slice none 0 cap) ∨ ∃ b o cap, v = .slice (some ⟨b, o, none⟩) l.length cap ∧ (l = [] → o = 0) ∧ (l ≠ [] → (b, o, ints .i64 l) ∈ R)
theorem told_range {W : List Nat} {w0 : World} {R : Rd} {b o : Nat} {l : List Int} (hm : (b, o, ints .i64 l) ∈ R) (ht : W8.Told W w0 R) : (List.range l.length).mapM (fun j => frn W w0 b (o + j)) = some (ints .i64 l) := by
  refine mapM_told (by simp) fun j x y hx hy => ?_
  have hj : j < l.length := by
    rcases Nat.lt_or_ge j l.length with h1 | h1
    · exact h1
    · rw [List.getElem?_eq_none (by simpa using h1)] at hx; cases hx
  rw [List.getElem?_range hj] at hx
  cases hx
  exact ht _ hm j y hy
theorem cells_zero {W : List Nat} {w0 : World} {M : Blks} {b : Nat} : cellsAt W w0 M b 0 0 = some [] := by
  unfold cellsAt
  split
  · rw [if_pos (by omega)]; rfl
  · rfl
/-- A part of a row that is told. -/
theorem told_part {W : List Nat} {w0 : World} {R : Rd} {b m cap f n : Nat} {l : List Int} (h : RdS R 1 (ints .i64 l) (.slice (some ⟨b, 0, none⟩) m cap)) (ht : W8.Told W w0 R) (hf : f + n ≤ l.length) : W8.Told W w0 [(b, f, ints .i64 ((l.drop f).take n))] := by
  intro r hr j u hu
  rw [List.mem_singleton.1 hr] at hu ⊢
  simp only at hu ⊢
  have hj : j < n := by
    rcases Nat.lt_or_ge j n with h1 | h1
    · exact h1
    · rw [List.getElem?_eq_none (by rw [ints_length, List.length_take]; omega)] at hu; cases hu
  have e : (ints .i64 l)[f + j]? = some u := by
    unfold ints at hu ⊢
    simpa [List.getElem?_take, List.getElem?_drop, hj] using hu
  obtain ⟨b', e', hb⟩ := h.get ht e
  cases e'
  exact hb
theorem _root_.Go.W8.RdS.toO {R : Rd} {l : List Int} {v : Value} (h : RdS R 1 (ints .i64 l) v) (W : List Nat) (w0 : World) (ht : W8.Told W w0 R) : ∃ R', W8.Told W w0 R' ∧ RdO R' l v := by
  obtain ⟨a, m, cap, rfl, hm, hh⟩ := id h
  have hl : m = l.length := by rw [ints_length] at hm; omega
  subst hl
  by_cases h0 : l = []
  · subst h0
    cases a with
    | none => exact ⟨[], (fun _ hr => nomatch hr), .inl ⟨rfl, _, rfl⟩⟩
    | some a =>
      obtain ⟨b, rfl⟩ := hh.2.1 a rfl
      exact ⟨[], (fun _ hr => nomatch hr), .inr ⟨b, 0, cap, rfl, fun _ => rfl, fun h => absurd rfl h⟩⟩
  · have hne : l.length ≠ 0 := fun e => h0 (List.eq_nil_of_length_eq_zero e)
    obtain ⟨b, cs, rfl, hmem, _⟩ := hh.1 hne
    have := told_part (f := 0) (n := l.length) h ht (by omega)
    rw [List.drop_zero, List.take_of_length_le (Nat.le_refl _)] at this
    exact ⟨_, this, .inr ⟨b, 0, cap, rfl, fun _ => rfl, fun _ => List.mem_singleton.2 rfl⟩⟩

end Go.Proofs

/-
  What the functions of this part hand back: each as a plain function of its arguments. Conditions: none.
-/
namespace Go.Proofs
open Go.W8
set_option linter.unusedVariables false
set_option linter.unusedSimpArgs false
set_option linter.unusedSectionVars false
set_option maxRecDepth 8000
set_option maxHeartbeats 4000000

theorem within_c (x lo hi : Int) : Gives Try.prog 83 #[.int .i64 x, .int .i64 lo, .int .i64 hi] (.bool (decide (lo ≤ x) && decide (x ≤ hi))) := by
  refine Gives.of fun w => ?_
  refine acall_of (N := 15) (c := _) (rs := [.tmp 6]) (args := [_, _, _]) Try.func83 rfl (by decide) rfl rfl (Nat.le_of_ble_eq_true rfl) ?_
  refine Cd.rs [0, 1, 2] fun K hK => ?_
  simp (maxSteps := 2000000) (disch := first | omega | (simp only [E4, *] <;> omega) | fail) only [↓E0, E1, evP, evPlan, env0, envN, evOps, evOp, evQs, evQ, evV, setD, pureOp, ev, upd, updL, gate, binW, eqOp, binV, intOp, shOp, boolOp, unV, convV, nilV, fieldAddrV, indexAddrV, extractV, cellAt, cellsAt, findB, setB, fillL, buildV, Value.cells, lenV, minV, maxV, hav, sliceV, loV, hiV, bslQ, mksQ, appQ, partsOk, partsCells, delB, eqL, SameI, strOp, apzQ, cvtQ, capV, ↓reduceIte, Zj, Zk, Nat.reduceAdd, Nat.reduceLT, Nat.reduceEqDiff, Nat.reduceMul, Nat.reduceLeDiff, if_true, Zn, reduceCtorEq, ZA, eq_self, Int.reduceLE, Int.reduceLT, Int.reduceToNat, ne_eq, Nat.reduceSub]
  repeat refine And.intro (by omega) ?_
  intro g
  simp only [List.map_cons, List.map_nil, updL, upd, Nat.reduceEqDiff, if_true, if_false, ↓reduceIte]
  refine hK _ _ ?_; clear hK K
  refine Cd.rs [6] fun K hK => ?_
  simp (maxSteps := 2000000) (disch := first | omega | (simp only [E4, *] <;> omega) | fail) only [↓E0, E1, evP, evPlan, env0, envN, evOps, evOp, evQs, evQ, evV, setD, pureOp, ev, upd, updL, gate, binW, eqOp, binV, intOp, shOp, boolOp, unV, convV, nilV, fieldAddrV, indexAddrV, extractV, cellAt, cellsAt, findB, setB, fillL, buildV, Value.cells, lenV, minV, maxV, hav, sliceV, loV, hiV, bslQ, mksQ, appQ, partsOk, partsCells, delB, eqL, SameI, strOp, apzQ, cvtQ, capV, ↓reduceIte, Zj, Zk, Nat.reduceAdd, Nat.reduceLT, Nat.reduceEqDiff, Nat.reduceMul, Nat.reduceLeDiff, if_true, Zn, reduceCtorEq, ZA, eq_self, Int.reduceLE, Int.reduceLT, Int.reduceToNat, ne_eq, Nat.reduceSub]
  refine ⟨fun h => ?_, fun h => ?_⟩
  all_goals
    repeat refine And.intro (by omega) ?_
    intro g
    simp only [List.map_cons, List.map_nil, updL, upd, Nat.reduceEqDiff, if_true, if_false, ↓reduceIte]
    refine hK _ _ ?_; clear hK K
    refine ret1 rfl ?_
    simp [upd, h]

theorem l01In_c (x lo hi : Int) : Gives Try.prog 81 #[.int .i64 x, .int .i64 lo, .int .i64 hi] (.bool (decide (lo ≤ x) && decide (x ≤ hi))) := by
  refine Gives.of fun w => ?_
  refine acall_of (N := 15) (c := _) (rs := [.tmp 6]) (args := [_, _, _]) Try.func81 rfl (by decide) rfl rfl (Nat.le_of_ble_eq_true rfl) ?_
  refine Cd.rs [0, 1, 2] fun K hK => ?_
  simp (maxSteps := 2000000) (disch := first | omega | (simp only [E4, *] <;> omega) | fail) only [↓E0, E1, evP, evPlan, env0, envN, evOps, evOp, evQs, evQ, evV, setD, pureOp, ev, upd, updL, gate, binW, eqOp, binV, intOp, shOp, boolOp, unV, convV, nilV, fieldAddrV, indexAddrV, extractV, cellAt, cellsAt, findB, setB, fillL, buildV, Value.cells, lenV, minV, maxV, hav, sliceV, loV, hiV, bslQ, mksQ, appQ, partsOk, partsCells, delB, eqL, SameI, strOp, apzQ, cvtQ, capV, ↓reduceIte, Zj, Zk, Nat.reduceAdd, Nat.reduceLT, Nat.reduceEqDiff, Nat.reduceMul, Nat.reduceLeDiff, if_true, Zn, reduceCtorEq, ZA, eq_self, Int.reduceLE, Int.reduceLT, Int.reduceToNat, ne_eq, Nat.reduceSub]
  repeat refine And.intro (by omega) ?_
  intro g
  simp only [List.map_cons, List.map_nil, updL, upd, Nat.reduceEqDiff, if_true, if_false, ↓reduceIte]
  refine hK _ _ ?_; clear hK K
  refine Cd.rs [6] fun K hK => ?_
  simp (maxSteps := 2000000) (disch := first | omega | (simp only [E4, *] <;> omega) | fail) only [↓E0, E1, evP, evPlan, env0, envN, evOps, evOp, evQs, evQ, evV, setD, pureOp, ev, upd, updL, gate, binW, eqOp, binV, intOp, shOp, boolOp, unV, convV, nilV, fieldAddrV, indexAddrV, extractV, cellAt, cellsAt, findB, setB, fillL, buildV, Value.cells, lenV, minV, maxV, hav, sliceV, loV, hiV, bslQ, mksQ, appQ, partsOk, partsCells, delB, eqL, SameI, strOp, apzQ, cvtQ, capV, ↓reduceIte, Zj, Zk, Nat.reduceAdd, Nat.reduceLT, Nat.reduceEqDiff, Nat.reduceMul, Nat.reduceLeDiff, if_true, Zn, reduceCtorEq, ZA, eq_self, Int.reduceLE, Int.reduceLT, Int.reduceToNat, ne_eq, Nat.reduceSub]
  refine ⟨fun h => ?_, fun h => ?_⟩
  all_goals
    repeat refine And.intro (by omega) ?_
    intro g
    simp only [List.map_cons, List.map_nil, updL, upd, Nat.reduceEqDiff, if_true, if_false, ↓reduceIte]
    refine hK _ _ ?_; clear hK K
    refine ret1 rfl ?_
    simp [upd, h]

end Go.Proofs

/-
  What the functions of this part hand back: each as a plain function of its arguments. Conditions: none.
-/
namespace Go.Proofs
open Go.W8
set_option linter.unusedVariables false
set_option linter.unusedSimpArgs false
set_option linter.unusedSectionVars false
set_option maxRecDepth 8000
set_option maxHeartbeats 4000000
theorem int64_len {l : List Int} {m : Nat} (h : (ints .i64 l).length = m * 1) : m = l.length := by
  rw [ints_length] at h; omega
theorem eqInt64S_c (l : List Int) (R : Rd) (v v' : Value) (h : RdS R 1 (ints .i64 l) v) (h' : RdS R 1 (ints .i64 l) v') (hb : l.length < 4611686018427387904) : GivesR Try.prog 52 #[v, v'] R (.bool true) := by
  obtain ⟨a, m, cap, rfl, hm, _⟩ := id h
  obtain ⟨a', m', cap', rfl, hm', _⟩ := id h'
  obtain rfl := int64_len hm
  obtain rfl := int64_len hm'
  refine GivesR.of (callable_of Try.func52 rfl (by decide)) fun w hR => ?_
  refine acall_of (N := 26) (c := _) (rs := [.tmp 4]) (args := [_, _]) Try.func52 rfl (by decide) rfl rfl (Nat.le_of_ble_eq_true rfl) ?_
  refine Cd.rs [0, 1] fun K hK => ?_
  simp (maxSteps := 2000000) (disch := first | (simp only [E4] <;> omega) | omega | fail) only [↓E2, E3, bare, bareJ, ↓E0, E1, evP, evPlan, env0, envN, evOps, evOp, evQs, evQ, evV, setD, pureOp, ev, upd, updL, gate, binW, eqOp, binV, intOp, shOp, boolOp, unV, convV, nilV, fieldAddrV, indexAddrV, extractV, cellAt, cellsAt, findB, setB, fillL, buildV, Value.cells, lenV, minV, maxV, hav, sliceV, loV, hiV, bslQ, mksQ, appQ, partsOk, partsCells, delB, eqL, SameI, strOp, apzQ, cvtQ, capV, ↓reduceIte, Zj, Zk, Nat.reduceAdd, Nat.reduceLT, Nat.reduceEqDiff, Nat.reduceMul, Nat.reduceLeDiff, if_true, Zn, reduceCtorEq, ZA, eq_self, Int.reduceLE, Int.reduceLT, Int.reduceToNat, ne_eq, Nat.reduceSub]
  repeat refine And.intro (by omega) ?_
  intro g
  simp only [List.map_cons, List.map_nil, updL, upd, Nat.reduceEqDiff, if_true, if_false, ↓reduceIte]
  refine hK _ _ ?_; clear hK K
  refine Cd.seq ?_
  refine Cd.rs [0, 1, 10] fun K hK => ?_
  simp (maxSteps := 2000000) (disch := first | (simp only [E4] <;> omega) | omega | fail) only [↓E2, E3, bare, bareJ, ↓E0, E1, evP, evPlan, env0, envN, evOps, evOp, evQs, evQ, evV, setD, pureOp, ev, upd, updL, gate, binW, eqOp, binV, intOp, shOp, boolOp, unV, convV, nilV, fieldAddrV, indexAddrV, extractV, cellAt, cellsAt, findB, setB, fillL, buildV, Value.cells, lenV, minV, maxV, hav, sliceV, loV, hiV, bslQ, mksQ, appQ, partsOk, partsCells, delB, eqL, SameI, strOp, apzQ, cvtQ, capV, ↓reduceIte, Zj, Zk, Nat.reduceAdd, Nat.reduceLT, Nat.reduceEqDiff, Nat.reduceMul, Nat.reduceLeDiff, if_true, Zn, reduceCtorEq, ZA, eq_self, Int.reduceLE, Int.reduceLT, Int.reduceToNat, ne_eq, Nat.reduceSub, Tslce47]
  repeat refine And.intro (by omega) ?_
  intro g
  simp only [List.map_cons, List.map_nil, updL, upd, Nat.reduceEqDiff, if_true, if_false, ↓reduceIte]
  refine hK _ _ ?_; clear hK K
  refine Cd.no rfl ?_
  refine Cd.skip ?_
  refine thenN ?_
  refine Cd.seq ?_
  refine Cd.rs [0, 1, 5] fun K hK => ?_
  simp (maxSteps := 2000000) (disch := first | (simp only [E4] <;> omega) | omega | fail) only [↓E2, E3, bare, bareJ, ↓E0, E1, evP, evPlan, env0, envN, evOps, evOp, evQs, evQ, evV, setD, pureOp, ev, upd, updL, gate, binW, eqOp, binV, intOp, shOp, boolOp, unV, convV, nilV, fieldAddrV, indexAddrV, extractV, cellAt, cellsAt, findB, setB, fillL, buildV, Value.cells, lenV, minV, maxV, hav, sliceV, loV, hiV, bslQ, mksQ, appQ, partsOk, partsCells, delB, eqL, SameI, strOp, apzQ, cvtQ, capV, ↓reduceIte, Zj, Zk, Nat.reduceAdd, Nat.reduceLT, Nat.reduceEqDiff, Nat.reduceMul, Nat.reduceLeDiff, if_true, Zn, reduceCtorEq, ZA, eq_self, Int.reduceLE, Int.reduceLT, Int.reduceToNat, ne_eq, Nat.reduceSub]
  repeat refine And.intro (by omega) ?_
  intro g
  simp only [List.map_cons, List.map_nil, updL, upd, Nat.reduceEqDiff, if_true, if_false, ↓reduceIte]
  refine hK _ _ ?_; clear hK K
  refine Cd.block ?_
  refine Cd.loop (fun n ρ M => ∃ g k, k + n = l.length ∧ ρ = updL [(0, .slice a l.length cap), (1, .slice a' l.length cap'), (5, .int .i64 (k : Int))] g ∧ M = []) l.length ⟨_, 0, Nat.zero_add _, rfl, rfl⟩ ?_
  rintro n ρ M ⟨g, k, hk, rfl, rfl⟩
  refine Cd.seq ?_
  refine Cd.rs [0, 1, 5, 14] fun K hK => ?_
  simp (maxSteps := 2000000) (disch := first | (simp only [E4] <;> omega) | omega | fail) only [↓E2, E3, bare, bareJ, ↓E0, E1, evP, evPlan, env0, envN, evOps, evOp, evQs, evQ, evV, setD, pureOp, ev, upd, updL, gate, binW, eqOp, binV, intOp, shOp, boolOp, unV, convV, nilV, fieldAddrV, indexAddrV, extractV, cellAt, cellsAt, findB, setB, fillL, buildV, Value.cells, lenV, minV, maxV, hav, sliceV, loV, hiV, bslQ, mksQ, appQ, partsOk, partsCells, delB, eqL, SameI, strOp, apzQ, cvtQ, capV, ↓reduceIte, Zj, Zk, Nat.reduceAdd, Nat.reduceLT, Nat.reduceEqDiff, Nat.reduceMul, Nat.reduceLeDiff, if_true, Zn, reduceCtorEq, ZA, eq_self, Int.reduceLE, Int.reduceLT, Int.reduceToNat, ne_eq, Nat.reduceSub, Tslce47]
  repeat refine And.intro (by omega) ?_
  intro g
  simp only [List.map_cons, List.map_nil, updL, upd, Nat.reduceEqDiff, if_true, if_false, ↓reduceIte]
  refine hK _ _ ?_; clear hK K
  refine Cd.condd rfl (fun h2 => ?_) (fun h2 => ?_)
  · obtain ⟨b, rfl, q⟩ := h.get hR (ints_get (i := k) (by omega))
    obtain ⟨b', rfl, q'⟩ := h'.get hR (ints_get (i := k) (by omega))
    refine Cd.skip ?_
    refine thenN ?_
    refine Cd.seq ?_
    refine Cd.block ?_
    skip
    refine Cd.qs [0, 1, 5, 25] fol (by kernel_rfl) fun K hK => ?_
    simp (maxSteps := 2000000) (disch := first | (simp only [E4, q, q'] <;> omega) | omega | fail) only [↓E2, E3, bare, bareJ, ↓E0, E1, evP, evPlan, env0, envN, evOps, evOp, evQs, evQ, evV, setD, pureOp, ev, upd, updL, gate, binW, eqOp, binV, intOp, shOp, boolOp, unV, convV, nilV, fieldAddrV, indexAddrV, extractV, cellAt, cellsAt, findB, setB, fillL, buildV, Value.cells, lenV, minV, maxV, hav, sliceV, loV, hiV, bslQ, mksQ, appQ, partsOk, partsCells, delB, eqL, SameI, strOp, apzQ, cvtQ, capV, ↓reduceIte, Zj, Zk, Nat.reduceAdd, Nat.reduceLT, Nat.reduceEqDiff, Nat.reduceMul, Nat.reduceLeDiff, if_true, Zn, reduceCtorEq, ZA, eq_self, Int.reduceLE, Int.reduceLT, Int.reduceToNat, ne_eq, Nat.reduceSub, Tld2, Tslc47, q, q']
    repeat refine And.intro (by omega) ?_
    intro g
    simp only [List.map_cons, List.map_nil, updL, upd, Nat.reduceEqDiff, if_true, if_false, ↓reduceIte]
    refine hK _ ?_; clear hK K
    refine Cd.no rfl ?_
    refine Cd.skip ?_
    refine inBN ?_
    refine thenN ?_
    refine Cd.rr [0, 1, 5] fun K hK => ?_
    simp (maxSteps := 2000000) (disch := first | (simp only [E4, q, q'] <;> omega) | omega | fail) only [↓E2, E3, bare, bareJ, ↓E0, E1, evP, evPlan, env0, envN, evOps, evOp, evQs, evQ, evV, setD, pureOp, ev, upd, updL, gate, binW, eqOp, binV, intOp, shOp, boolOp, unV, convV, nilV, fieldAddrV, indexAddrV, extractV, cellAt, cellsAt, findB, setB, fillL, buildV, Value.cells, lenV, minV, maxV, hav, sliceV, loV, hiV, bslQ, mksQ, appQ, partsOk, partsCells, delB, eqL, SameI, strOp, apzQ, cvtQ, capV, ↓reduceIte, Zj, Zk, Nat.reduceAdd, Nat.reduceLT, Nat.reduceEqDiff, Nat.reduceMul, Nat.reduceLeDiff, if_true, Zn, reduceCtorEq, ZA, eq_self, Int.reduceLE, Int.reduceLT, Int.reduceToNat, ne_eq, Nat.reduceSub, q, q']
    repeat refine And.intro (by omega) ?_
    intro g
    simp only [List.map_cons, List.map_nil, updL, upd, Nat.reduceEqDiff, if_true, if_false, ↓reduceIte]
    refine hK _ _ ?_; clear hK K
    exact roundN (m := n - 1) (by omega) ⟨_, k + 1, by omega, rfl, rfl⟩
  · refine Cd.exit (thenX (roundX (inBX ?_)))
    refine thenN ?_
    refine Cd.rs [4] fun K hK => ?_
    simp (maxSteps := 2000000) (disch := first | (simp only [E4] <;> omega) | omega | fail) only [↓E2, E3, bare, bareJ, ↓E0, E1, evP, evPlan, env0, envN, evOps, evOp, evQs, evQ, evV, setD, pureOp, ev, upd, updL, gate, binW, eqOp, binV, intOp, shOp, boolOp, unV, convV, nilV, fieldAddrV, indexAddrV, extractV, cellAt, cellsAt, findB, setB, fillL, buildV, Value.cells, lenV, minV, maxV, hav, sliceV, loV, hiV, bslQ, mksQ, appQ, partsOk, partsCells, delB, eqL, SameI, strOp, apzQ, cvtQ, capV, ↓reduceIte, Zj, Zk, Nat.reduceAdd, Nat.reduceLT, Nat.reduceEqDiff, Nat.reduceMul, Nat.reduceLeDiff, if_true, Zn, reduceCtorEq, ZA, eq_self, Int.reduceLE, Int.reduceLT, Int.reduceToNat, ne_eq, Nat.reduceSub]
    repeat refine And.intro (by omega) ?_
    intro g
    simp only [List.map_cons, List.map_nil, updL, upd, Nat.reduceEqDiff, if_true, if_false, ↓reduceIte]
    refine hK _ _ ?_; clear hK K
    refine Cd.ret ?_
    simp (maxSteps := 2000000) (disch := first | (simp only [E4] <;> omega) | omega | fail) only [↓E2, E3, bare, bareJ, ↓E0, E1, evP, evPlan, env0, envN, evOps, evOp, evQs, evQ, evV, setD, pureOp, ev, upd, updL, gate, binW, eqOp, binV, intOp, shOp, boolOp, unV, convV, nilV, fieldAddrV, indexAddrV, extractV, cellAt, cellsAt, findB, setB, fillL, buildV, Value.cells, lenV, minV, maxV, hav, sliceV, loV, hiV, bslQ, mksQ, appQ, partsOk, partsCells, delB, eqL, SameI, strOp, apzQ, cvtQ, capV, ↓reduceIte, Zj, Zk, Nat.reduceAdd, Nat.reduceLT, Nat.reduceEqDiff, Nat.reduceMul, Nat.reduceLeDiff, if_true, Zn, reduceCtorEq, ZA, eq_self, Int.reduceLE, Int.reduceLT, Int.reduceToNat, ne_eq, Nat.reduceSub]

/-- Numbers from k on. -/
def upK (k : Int) (n : Nat) : List Int := (List.range n).map fun (i : Nat) => k + (i : Int)
theorem upK_len (k : Int) (n : Nat) : (upK k n).length = n := by simp [upK]
theorem upK_get {k : Int} {n i : Nat} (h : i < n) : (upK k n)[i]? = some (k + (i : Int)) := by
  unfold upK
  rw [List.getElem?_map, List.getElem?_range h]
  rfl
theorem upK_getD {k : Int} {n i : Nat} (h : i < n) : (upK k n).getD i 0 = k + (i : Int) := by
  rw [List.getD_eq_getElem?_getD, upK_get h]; rfl
/-- The first i marked. -/
def mkK (l : List Int) (k : Int) (i : Nat) : List Int := upK k i ++ l.drop i
theorem mkK_len {l : List Int} {k : Int} {i : Nat} (h : i ≤ l.length) : (mkK l k i).length = l.length := by
  unfold mkK
  rw [List.length_append, upK_len, List.length_drop]; omega
theorem mkK_zero (l : List Int) (k : Int) : mkK l k 0 = l := rfl
theorem mkK_full (l : List Int) (k : Int) : mkK l k l.length = upK k l.length := by
  unfold mkK
  rw [List.drop_of_length_le (Nat.le_refl _), List.append_nil]
theorem mkK_set {l : List Int} {k : Int} {i : Nat} (h : i < l.length) : (mkK l k i).set i (k + (i : Int)) = mkK l k (i + 1) := by
  apply List.ext_getElem?
  intro j
  unfold mkK
  by_cases e : i = j
  · subst e
    rw [List.getElem?_set_self (by rw [List.length_append, upK_len, List.length_drop]; omega), List.getElem?_append_left (by rw [upK_len]; omega), upK_get (by omega)]
  · rw [List.getElem?_set_ne e]
    by_cases hj : j < i
    · rw [List.getElem?_append_left (by rw [upK_len]; omega), List.getElem?_append_left (by rw [upK_len]; omega), upK_get hj, upK_get (by omega)]
    · rw [List.getElem?_append_right (by rw [upK_len]; omega), List.getElem?_append_right (by rw [upK_len]; omega), upK_len, upK_len, List.getElem?_drop, List.getElem?_drop]
      congr 1
      omega

theorem markInt64S_c (l : List Int) (v : Value) (L : Blks) (h : SlN 1 (ints .i64 l) v L) (k : Nat) (hb : k + l.length < 4611686018427387904) :
    GivesX Try.prog 53 #[v, .int .i64 (k : Int)] L [] (fun r M' => r = .int .i64 ((k + l.length : Nat) : Int) ∧ SlN 1 (ints .i64 (upK k l.length)) v M') := by
  obtain ⟨a, cap, rfl⟩ : ∃ a cap, v = .slice a l.length cap := by
    rcases h with ⟨h1, h2, h3⟩ | ⟨b, m, cap, cs, h1, h2, h3⟩
    · have := congrArg List.length h1
      rw [ints_length] at this
      exact ⟨_, _, by rw [this]; exact h2⟩
    · obtain rfl := int64_len h3.len
      exact ⟨_, _, h1⟩
  refine GivesX.of (callable_of Try.func53 rfl (by decide)) ?_ fun w hnd hlt hR => ?_
  · simp
  refine acall_of (N := 19) (c := _) (rs := [.tmp 4]) (args := [_, _]) Try.func53 rfl (by decide) rfl rfl (Nat.le_of_ble_eq_true rfl) ?_
  refine Cd.rs [0, 1] fun K hK => ?_
  simp (maxSteps := 2000000) (disch := first | (simp only [E4] <;> omega) | omega | fail) only [↓E2, E3, bare, bareJ, ↓E0, E1, evP, evPlan, env0, envN, evOps, evOp, evQs, evQ, evV, setD, pureOp, ev, upd, updL, gate, binW, eqOp, binV, intOp, shOp, boolOp, unV, convV, nilV, fieldAddrV, indexAddrV, extractV, cellAt, cellsAt, findB, setB, fillL, buildV, Value.cells, lenV, minV, maxV, hav, sliceV, loV, hiV, bslQ, mksQ, appQ, partsOk, partsCells, delB, eqL, SameI, strOp, apzQ, cvtQ, capV, ↓reduceIte, Zj, Zk, Nat.reduceAdd, Nat.reduceLT, Nat.reduceEqDiff, Nat.reduceMul, Nat.reduceLeDiff, if_true, Zn, reduceCtorEq, ZA, eq_self, Int.reduceLE, Int.reduceLT, Int.reduceToNat, ne_eq, Nat.reduceSub]
  repeat refine And.intro (by omega) ?_
  intro g
  simp only [List.map_cons, List.map_nil, updL, upd, Nat.reduceEqDiff, if_true, if_false, ↓reduceIte]
  refine hK _ _ ?_; clear hK K
  refine Cd.seq ?_
  refine Cd.rs [0, 1, 5] fun K hK => ?_
  simp (maxSteps := 2000000) (disch := first | (simp only [E4] <;> omega) | omega | fail) only [↓E2, E3, bare, bareJ, ↓E0, E1, evP, evPlan, env0, envN, evOps, evOp, evQs, evQ, evV, setD, pureOp, ev, upd, updL, gate, binW, eqOp, binV, intOp, shOp, boolOp, unV, convV, nilV, fieldAddrV, indexAddrV, extractV, cellAt, cellsAt, findB, setB, fillL, buildV, Value.cells, lenV, minV, maxV, hav, sliceV, loV, hiV, bslQ, mksQ, appQ, partsOk, partsCells, delB, eqL, SameI, strOp, apzQ, cvtQ, capV, ↓reduceIte, Zj, Zk, Nat.reduceAdd, Nat.reduceLT, Nat.reduceEqDiff, Nat.reduceMul, Nat.reduceLeDiff, if_true, Zn, reduceCtorEq, ZA, eq_self, Int.reduceLE, Int.reduceLT, Int.reduceToNat, ne_eq, Nat.reduceSub]
  repeat refine And.intro (by omega) ?_
  intro g
  simp only [List.map_cons, List.map_nil, updL, upd, Nat.reduceEqDiff, if_true, if_false, ↓reduceIte]
  refine hK _ _ ?_; clear hK K
  refine Cd.block ?_
  refine Cd.loop (fun n ρ M => ∃ g i, i + n = l.length ∧ ρ = updL [(0, .slice a l.length cap), (1, .int .i64 ((k + i : Nat) : Int)), (5, .int .i64 (i : Int))] g ∧ SlN 1 (ints .i64 (mkK l k i)) (.slice a l.length cap) M) l.length ⟨_, 0, Nat.zero_add _, rfl, h⟩ ?_
  rintro n ρ M ⟨g, i, hi, rfl, hM⟩
  refine Cd.seq ?_
  refine Cd.rs [0, 1, 5, 9] fun K hK => ?_
  simp (maxSteps := 2000000) (disch := first | (simp only [E4] <;> omega) | omega | fail) only [↓E2, E3, bare, bareJ, ↓E0, E1, evP, evPlan, env0, envN, evOps, evOp, evQs, evQ, evV, setD, pureOp, ev, upd, updL, gate, binW, eqOp, binV, intOp, shOp, boolOp, unV, convV, nilV, fieldAddrV, indexAddrV, extractV, cellAt, cellsAt, findB, setB, fillL, buildV, Value.cells, lenV, minV, maxV, hav, sliceV, loV, hiV, bslQ, mksQ, appQ, partsOk, partsCells, delB, eqL, SameI, strOp, apzQ, cvtQ, capV, ↓reduceIte, Zj, Zk, Nat.reduceAdd, Nat.reduceLT, Nat.reduceEqDiff, Nat.reduceMul, Nat.reduceLeDiff, if_true, Zn, reduceCtorEq, ZA, eq_self, Int.reduceLE, Int.reduceLT, Int.reduceToNat, ne_eq, Nat.reduceSub, Tslce47]
  repeat refine And.intro (by omega) ?_
  intro g
  simp only [List.map_cons, List.map_nil, updL, upd, Nat.reduceEqDiff, if_true, if_false, ↓reduceIte]
  refine hK _ _ ?_; clear hK K
  refine Cd.condd rfl (fun h1 => ?_) (fun h1 => ?_)
  · rcases hM with ⟨e, _, _⟩ | ⟨b, m, cap', cs, e, rfl, hr⟩
    · have := congrArg List.length e
      rw [ints_length, mkK_len (by omega)] at this
      simp only [List.length_nil] at this
      omega
    cases e
    have hr' := hr.set (j := i) (by omega) (.int .i64 (k + i : Int))
    rw [ints_set, mkK_set (by omega)] at hr'
    have hf := hr.fits (k := i + 1) (by omega)
    refine Cd.skip ?_
    refine thenN ?_
    refine Cd.seq ?_
    refine Cd.block ?_
    refine Cd.rs [0, 1, 5] fun K hK => ?_
    simp (maxSteps := 2000000) (disch := first | (simp only [E4] <;> omega) | omega | fail) only [↓E2, E3, bare, bareJ, ↓E0, E1, evP, evPlan, env0, envN, evOps, evOp, evQs, evQ, evV, setD, pureOp, ev, upd, updL, gate, binW, eqOp, binV, intOp, shOp, boolOp, unV, convV, nilV, fieldAddrV, indexAddrV, extractV, cellAt, cellsAt, findB, setB, fillL, buildV, Value.cells, lenV, minV, maxV, hav, sliceV, loV, hiV, bslQ, mksQ, appQ, partsOk, partsCells, delB, eqL, SameI, strOp, apzQ, cvtQ, capV, ↓reduceIte, Zj, Zk, Nat.reduceAdd, Nat.reduceLT, Nat.reduceEqDiff, Nat.reduceMul, Nat.reduceLeDiff, if_true, Zn, reduceCtorEq, ZA, eq_self, Int.reduceLE, Int.reduceLT, Int.reduceToNat, ne_eq, Nat.reduceSub, Tslc47, Tst2]
    repeat refine And.intro (by omega) ?_
    intro g
    simp only [List.map_cons, List.map_nil, updL, upd, Nat.reduceEqDiff, if_true, if_false, ↓reduceIte]
    refine hK _ _ ?_; clear hK K
    refine Cd.rr [0, 1, 5] fun K hK => ?_
    simp (maxSteps := 2000000) (disch := first | (simp only [E4] <;> omega) | omega | fail) only [↓E2, E3, bare, bareJ, ↓E0, E1, evP, evPlan, env0, envN, evOps, evOp, evQs, evQ, evV, setD, pureOp, ev, upd, updL, gate, binW, eqOp, binV, intOp, shOp, boolOp, unV, convV, nilV, fieldAddrV, indexAddrV, extractV, cellAt, cellsAt, findB, setB, fillL, buildV, Value.cells, lenV, minV, maxV, hav, sliceV, loV, hiV, bslQ, mksQ, appQ, partsOk, partsCells, delB, eqL, SameI, strOp, apzQ, cvtQ, capV, ↓reduceIte, Zj, Zk, Nat.reduceAdd, Nat.reduceLT, Nat.reduceEqDiff, Nat.reduceMul, Nat.reduceLeDiff, if_true, Zn, reduceCtorEq, ZA, eq_self, Int.reduceLE, Int.reduceLT, Int.reduceToNat, ne_eq, Nat.reduceSub]
    repeat refine And.intro (by omega) ?_
    intro g
    simp only [List.map_cons, List.map_nil, updL, upd, Nat.reduceEqDiff, if_true, if_false, ↓reduceIte]
    refine hK _ _ ?_; clear hK K
    refine inBN ?_
    refine thenN ?_
    refine Cd.rr [0, 1, 5] fun K hK => ?_
    simp (maxSteps := 2000000) (disch := first | (simp only [E4] <;> omega) | omega | fail) only [↓E2, E3, bare, bareJ, ↓E0, E1, evP, evPlan, env0, envN, evOps, evOp, evQs, evQ, evV, setD, pureOp, ev, upd, updL, gate, binW, eqOp, binV, intOp, shOp, boolOp, unV, convV, nilV, fieldAddrV, indexAddrV, extractV, cellAt, cellsAt, findB, setB, fillL, buildV, Value.cells, lenV, minV, maxV, hav, sliceV, loV, hiV, bslQ, mksQ, appQ, partsOk, partsCells, delB, eqL, SameI, strOp, apzQ, cvtQ, capV, ↓reduceIte, Zj, Zk, Nat.reduceAdd, Nat.reduceLT, Nat.reduceEqDiff, Nat.reduceMul, Nat.reduceLeDiff, if_true, Zn, reduceCtorEq, ZA, eq_self, Int.reduceLE, Int.reduceLT, Int.reduceToNat, ne_eq, Nat.reduceSub]
    repeat refine And.intro (by omega) ?_
    intro g
    simp only [List.map_cons, List.map_nil, updL, upd, Nat.reduceEqDiff, if_true, if_false, ↓reduceIte]
    refine hK _ _ ?_; clear hK K
    exact roundN (m := n - 1) (by omega) ⟨_, i + 1, by omega, rfl, SlN.row hr'⟩
  · obtain rfl : i = l.length := by omega
    refine Cd.exit (thenX (roundX (inBX ?_)))
    refine thenN ?_
    refine Cd.rs [4] fun K hK => ?_
    simp (maxSteps := 2000000) (disch := first | (simp only [E4] <;> omega) | omega | fail) only [↓E2, E3, bare, bareJ, ↓E0, E1, evP, evPlan, env0, envN, evOps, evOp, evQs, evQ, evV, setD, pureOp, ev, upd, updL, gate, binW, eqOp, binV, intOp, shOp, boolOp, unV, convV, nilV, fieldAddrV, indexAddrV, extractV, cellAt, cellsAt, findB, setB, fillL, buildV, Value.cells, lenV, minV, maxV, hav, sliceV, loV, hiV, bslQ, mksQ, appQ, partsOk, partsCells, delB, eqL, SameI, strOp, apzQ, cvtQ, capV, ↓reduceIte, Zj, Zk, Nat.reduceAdd, Nat.reduceLT, Nat.reduceEqDiff, Nat.reduceMul, Nat.reduceLeDiff, if_true, Zn, reduceCtorEq, ZA, eq_self, Int.reduceLE, Int.reduceLT, Int.reduceToNat, ne_eq, Nat.reduceSub]
    repeat refine And.intro (by omega) ?_
    intro g
    simp only [List.map_cons, List.map_nil, updL, upd, Nat.reduceEqDiff, if_true, if_false, ↓reduceIte]
    refine hK _ _ ?_; clear hK K
    refine Cd.ret ?_
    simp (maxSteps := 2000000) (disch := first | (simp only [E4] <;> omega) | omega | fail) only [↓E2, E3, bare, bareJ, ↓E0, E1, evP, evPlan, env0, envN, evOps, evOp, evQs, evQ, evV, setD, pureOp, ev, upd, updL, gate, binW, eqOp, binV, intOp, shOp, boolOp, unV, convV, nilV, fieldAddrV, indexAddrV, extractV, cellAt, cellsAt, findB, setB, fillL, buildV, Value.cells, lenV, minV, maxV, hav, sliceV, loV, hiV, bslQ, mksQ, appQ, partsOk, partsCells, delB, eqL, SameI, strOp, apzQ, cvtQ, capV, ↓reduceIte, Zj, Zk, Nat.reduceAdd, Nat.reduceLT, Nat.reduceEqDiff, Nat.reduceMul, Nat.reduceLeDiff, if_true, Zn, reduceCtorEq, ZA, eq_self, Int.reduceLE, Int.reduceLT, Int.reduceToNat, ne_eq, Nat.reduceSub]
    rw [mkK_full] at hM
    exact hM

theorem heldInt64S_c (n k : Nat) (v : Value) (R : Rd) (h : RdS R 1 (ints .i64 (upK k n)) v) (hb : k + n < 4611686018427387904) :
    GivesR Try.prog 54 #[v, .int .i64 (k : Int)] R (.int .i64 ((k + n : Nat) : Int)) := by
  obtain ⟨a, m, cap, rfl, hm, _⟩ := id h
  obtain rfl := int64_len hm
  rw [upK_len] at *
  refine GivesR.of (callable_of Try.func54 rfl (by decide)) fun w hR => ?_
  refine acall_of (N := 21) (c := _) (rs := [.tmp 4]) (args := [_, _]) Try.func54 rfl (by decide) rfl rfl (Nat.le_of_ble_eq_true rfl) ?_
  refine Cd.rs [0, 1] fun K hK => ?_
  simp (maxSteps := 2000000) (disch := first | (simp only [E4] <;> omega) | omega | fail) only [↓E2, E3, bare, bareJ, ↓E0, E1, evP, evPlan, env0, envN, evOps, evOp, evQs, evQ, evV, setD, pureOp, ev, upd, updL, gate, binW, eqOp, binV, intOp, shOp, boolOp, unV, convV, nilV, fieldAddrV, indexAddrV, extractV, cellAt, cellsAt, findB, setB, fillL, buildV, Value.cells, lenV, minV, maxV, hav, sliceV, loV, hiV, bslQ, mksQ, appQ, partsOk, partsCells, delB, eqL, SameI, strOp, apzQ, cvtQ, capV, ↓reduceIte, Zj, Zk, Nat.reduceAdd, Nat.reduceLT, Nat.reduceEqDiff, Nat.reduceMul, Nat.reduceLeDiff, if_true, Zn, reduceCtorEq, ZA, eq_self, Int.reduceLE, Int.reduceLT, Int.reduceToNat, ne_eq, Nat.reduceSub]
  repeat refine And.intro (by omega) ?_
  intro g
  simp only [List.map_cons, List.map_nil, updL, upd, Nat.reduceEqDiff, if_true, if_false, ↓reduceIte]
  refine hK _ _ ?_; clear hK K
  refine Cd.seq ?_
  refine Cd.rs [0, 1, 5] fun K hK => ?_
  simp (maxSteps := 2000000) (disch := first | (simp only [E4] <;> omega) | omega | fail) only [↓E2, E3, bare, bareJ, ↓E0, E1, evP, evPlan, env0, envN, evOps, evOp, evQs, evQ, evV, setD, pureOp, ev, upd, updL, gate, binW, eqOp, binV, intOp, shOp, boolOp, unV, convV, nilV, fieldAddrV, indexAddrV, extractV, cellAt, cellsAt, findB, setB, fillL, buildV, Value.cells, lenV, minV, maxV, hav, sliceV, loV, hiV, bslQ, mksQ, appQ, partsOk, partsCells, delB, eqL, SameI, strOp, apzQ, cvtQ, capV, ↓reduceIte, Zj, Zk, Nat.reduceAdd, Nat.reduceLT, Nat.reduceEqDiff, Nat.reduceMul, Nat.reduceLeDiff, if_true, Zn, reduceCtorEq, ZA, eq_self, Int.reduceLE, Int.reduceLT, Int.reduceToNat, ne_eq, Nat.reduceSub]
  repeat refine And.intro (by omega) ?_
  intro g
  simp only [List.map_cons, List.map_nil, updL, upd, Nat.reduceEqDiff, if_true, if_false, ↓reduceIte]
  refine hK _ _ ?_; clear hK K
  refine Cd.block ?_
  refine Cd.loop (fun q ρ M => ∃ g i, i + q = n ∧ ρ = updL [(0, .slice a n cap), (1, .int .i64 ((k + i : Nat) : Int)), (5, .int .i64 (i : Int))] g ∧ M = []) n ⟨_, 0, Nat.zero_add _, rfl, rfl⟩ ?_
  rintro q ρ M ⟨g, i, hi, rfl, rfl⟩
  refine Cd.seq ?_
  refine Cd.rs [0, 1, 5, 9] fun K hK => ?_
  simp (maxSteps := 2000000) (disch := first | (simp only [E4] <;> omega) | omega | fail) only [↓E2, E3, bare, bareJ, ↓E0, E1, evP, evPlan, env0, envN, evOps, evOp, evQs, evQ, evV, setD, pureOp, ev, upd, updL, gate, binW, eqOp, binV, intOp, shOp, boolOp, unV, convV, nilV, fieldAddrV, indexAddrV, extractV, cellAt, cellsAt, findB, setB, fillL, buildV, Value.cells, lenV, minV, maxV, hav, sliceV, loV, hiV, bslQ, mksQ, appQ, partsOk, partsCells, delB, eqL, SameI, strOp, apzQ, cvtQ, capV, ↓reduceIte, Zj, Zk, Nat.reduceAdd, Nat.reduceLT, Nat.reduceEqDiff, Nat.reduceMul, Nat.reduceLeDiff, if_true, Zn, reduceCtorEq, ZA, eq_self, Int.reduceLE, Int.reduceLT, Int.reduceToNat, ne_eq, Nat.reduceSub, Tslce47]
  repeat refine And.intro (by omega) ?_
  intro g
  simp only [List.map_cons, List.map_nil, updL, upd, Nat.reduceEqDiff, if_true, if_false, ↓reduceIte]
  refine hK _ _ ?_; clear hK K
  refine Cd.condd rfl (fun h1 => ?_) (fun h1 => ?_)
  · obtain ⟨b, rfl, q1⟩ := h.get hR (ints_get (i := i) (by rw [upK_len]; omega))
    rw [upK_getD (by omega)] at q1
    refine Cd.skip ?_
    refine thenN ?_
    refine Cd.seq ?_
    refine Cd.block ?_
    skip
    refine Cd.seq ?_
    refine Cd.rs [0, 1, 5, 17] fun K hK => ?_
    simp (maxSteps := 2000000) (disch := first | (simp only [E4, q1] <;> omega) | omega | fail) only [↓E2, E3, bare, bareJ, ↓E0, E1, evP, evPlan, env0, envN, evOps, evOp, evQs, evQ, evV, setD, pureOp, ev, upd, updL, gate, binW, eqOp, binV, intOp, shOp, boolOp, unV, convV, nilV, fieldAddrV, indexAddrV, extractV, cellAt, cellsAt, findB, setB, fillL, buildV, Value.cells, lenV, minV, maxV, hav, sliceV, loV, hiV, bslQ, mksQ, appQ, partsOk, partsCells, delB, eqL, SameI, strOp, apzQ, cvtQ, capV, ↓reduceIte, Zj, Zk, Nat.reduceAdd, Nat.reduceLT, Nat.reduceEqDiff, Nat.reduceMul, Nat.reduceLeDiff, if_true, Zn, reduceCtorEq, ZA, eq_self, Int.reduceLE, Int.reduceLT, Int.reduceToNat, ne_eq, Nat.reduceSub, Tld2, Tslc47, q1]
    repeat refine And.intro (by omega) ?_
    intro g
    simp only [List.map_cons, List.map_nil, updL, upd, Nat.reduceEqDiff, if_true, if_false, ↓reduceIte]
    refine hK _ _ ?_; clear hK K
    refine Cd.same rfl (by omega) ?_
    refine Cd.skip ?_
    refine thenN ?_
    refine Cd.rr [0, 1, 5] fun K hK => ?_
    simp (maxSteps := 2000000) (disch := first | (simp only [E4, q1] <;> omega) | omega | fail) only [↓E2, E3, bare, bareJ, ↓E0, E1, evP, evPlan, env0, envN, evOps, evOp, evQs, evQ, evV, setD, pureOp, ev, upd, updL, gate, binW, eqOp, binV, intOp, shOp, boolOp, unV, convV, nilV, fieldAddrV, indexAddrV, extractV, cellAt, cellsAt, findB, setB, fillL, buildV, Value.cells, lenV, minV, maxV, hav, sliceV, loV, hiV, bslQ, mksQ, appQ, partsOk, partsCells, delB, eqL, SameI, strOp, apzQ, cvtQ, capV, ↓reduceIte, Zj, Zk, Nat.reduceAdd, Nat.reduceLT, Nat.reduceEqDiff, Nat.reduceMul, Nat.reduceLeDiff, if_true, Zn, reduceCtorEq, ZA, eq_self, Int.reduceLE, Int.reduceLT, Int.reduceToNat, ne_eq, Nat.reduceSub, q1]
    repeat refine And.intro (by omega) ?_
    intro g
    simp only [List.map_cons, List.map_nil, updL, upd, Nat.reduceEqDiff, if_true, if_false, ↓reduceIte]
    refine hK _ _ ?_; clear hK K
    refine inBN ?_
    refine thenN ?_
    refine Cd.rr [0, 1, 5] fun K hK => ?_
    simp (maxSteps := 2000000) (disch := first | (simp only [E4, q1] <;> omega) | omega | fail) only [↓E2, E3, bare, bareJ, ↓E0, E1, evP, evPlan, env0, envN, evOps, evOp, evQs, evQ, evV, setD, pureOp, ev, upd, updL, gate, binW, eqOp, binV, intOp, shOp, boolOp, unV, convV, nilV, fieldAddrV, indexAddrV, extractV, cellAt, cellsAt, findB, setB, fillL, buildV, Value.cells, lenV, minV, maxV, hav, sliceV, loV, hiV, bslQ, mksQ, appQ, partsOk, partsCells, delB, eqL, SameI, strOp, apzQ, cvtQ, capV, ↓reduceIte, Zj, Zk, Nat.reduceAdd, Nat.reduceLT, Nat.reduceEqDiff, Nat.reduceMul, Nat.reduceLeDiff, if_true, Zn, reduceCtorEq, ZA, eq_self, Int.reduceLE, Int.reduceLT, Int.reduceToNat, ne_eq, Nat.reduceSub, q1]
    repeat refine And.intro (by omega) ?_
    intro g
    simp only [List.map_cons, List.map_nil, updL, upd, Nat.reduceEqDiff, if_true, if_false, ↓reduceIte]
    refine hK _ _ ?_; clear hK K
    exact roundN (m := q - 1) (by omega) ⟨_, i + 1, by omega, rfl, rfl⟩
  · obtain rfl : i = n := by omega
    refine Cd.exit (thenX (roundX (inBX ?_)))
    refine thenN ?_
    refine Cd.rs [4] fun K hK => ?_
    simp (maxSteps := 2000000) (disch := first | (simp only [E4] <;> omega) | omega | fail) only [↓E2, E3, bare, bareJ, ↓E0, E1, evP, evPlan, env0, envN, evOps, evOp, evQs, evQ, evV, setD, pureOp, ev, upd, updL, gate, binW, eqOp, binV, intOp, shOp, boolOp, unV, convV, nilV, fieldAddrV, indexAddrV, extractV, cellAt, cellsAt, findB, setB, fillL, buildV, Value.cells, lenV, minV, maxV, hav, sliceV, loV, hiV, bslQ, mksQ, appQ, partsOk, partsCells, delB, eqL, SameI, strOp, apzQ, cvtQ, capV, ↓reduceIte, Zj, Zk, Nat.reduceAdd, Nat.reduceLT, Nat.reduceEqDiff, Nat.reduceMul, Nat.reduceLeDiff, if_true, Zn, reduceCtorEq, ZA, eq_self, Int.reduceLE, Int.reduceLT, Int.reduceToNat, ne_eq, Nat.reduceSub]
    repeat refine And.intro (by omega) ?_
    intro g
    simp only [List.map_cons, List.map_nil, updL, upd, Nat.reduceEqDiff, if_true, if_false, ↓reduceIte]
    refine hK _ _ ?_; clear hK K
    refine Cd.ret ?_
    simp (maxSteps := 2000000) (disch := first | (simp only [E4] <;> omega) | omega | fail) only [↓E2, E3, bare, bareJ, ↓E0, E1, evP, evPlan, env0, envN, evOps, evOp, evQs, evQ, evV, setD, pureOp, ev, upd, updL, gate, binW, eqOp, binV, intOp, shOp, boolOp, unV, convV, nilV, fieldAddrV, indexAddrV, extractV, cellAt, cellsAt, findB, setB, fillL, buildV, Value.cells, lenV, minV, maxV, hav, sliceV, loV, hiV, bslQ, mksQ, appQ, partsOk, partsCells, delB, eqL, SameI, strOp, apzQ, cvtQ, capV, ↓reduceIte, Zj, Zk, Nat.reduceAdd, Nat.reduceLT, Nat.reduceEqDiff, Nat.reduceMul, Nat.reduceLeDiff, if_true, Zn, reduceCtorEq, ZA, eq_self, Int.reduceLE, Int.reduceLT, Int.reduceToNat, ne_eq, Nat.reduceSub]

end Go.Proofs

/-
  What the functions of this part hand back: each as a plain function of its arguments. Conditions: none.
-/
namespace Go.Proofs
open Go.W8
set_option linter.unusedVariables false
set_option linter.unusedSimpArgs false
set_option linter.unusedSectionVars false
set_option maxRecDepth 8000
set_option maxHeartbeats 4000000
--@plain

end Go.Proofs

/-
  What the functions of this part hand back: each as a plain function of its arguments. Conditions: none.
-/
namespace Go.Proofs
open Go.W8
set_option linter.unusedVariables false
set_option linter.unusedSimpArgs false
set_option linter.unusedSectionVars false
set_option maxRecDepth 8000
set_option maxHeartbeats 4000000
theorem toInt64S_c (l : List Int) (R : Rd) (v : Value) (h : InS R l v) (hb : l.length ≤ 17592186044416) : GivesX Try.prog 124 #[v] [] R (SlN 1 (ints .i64 l)) := by
  obtain ⟨a, cap, rfl, _⟩ := id h
  refine GivesX.of (callable_of Try.func124 rfl (by decide)) ?_ fun w hnd hlt hR => ?_
  · simp
  refine acall_of (N := 22) (c := _) (rs := [.tmp 2]) (args := [_]) Try.func124 rfl (by decide) rfl rfl (Nat.le_of_ble_eq_true rfl) ?_
  have hR : W8.Told [] w R := hR
  refine Cd.rs [0] fun K hK => ?_
  simp (maxSteps := 2000000) (disch := first | (simp only [E4] <;> omega) | omega | fail) only [↓E2, E3, bare, bareJ, ↓E0, E1, evP, evPlan, env0, envN, evOps, evOp, evQs, evQ, evV, setD, pureOp, ev, upd, updL, gate, binW, eqOp, binV, intOp, shOp, boolOp, unV, convV, nilV, fieldAddrV, indexAddrV, extractV, cellAt, cellsAt, findB, setB, fillL, buildV, Value.cells, lenV, minV, maxV, hav, sliceV, loV, hiV, bslQ, mksQ, appQ, partsOk, partsCells, delB, eqL, SameI, strOp, apzQ, cvtQ, capV, ↓reduceIte, Zj, Zk, Nat.reduceAdd, Nat.reduceLT, Nat.reduceEqDiff, Nat.reduceMul, Nat.reduceLeDiff, if_true, Zn, reduceCtorEq, ZA, eq_self, Int.reduceLE, Int.reduceLT, Int.reduceToNat, ne_eq, Nat.reduceSub]
  repeat refine And.intro (by omega) ?_
  repeat refine And.intro (by omega) ?_
  intro g
  simp only [List.map_cons, List.map_nil, updL, upd, Nat.reduceEqDiff, if_true, if_false, ↓reduceIte]
  refine hK _ _ ?_; clear hK K
  refine Cd.rs [0, 3] fun K hK => ?_
  simp (maxSteps := 2000000) (disch := first | (simp only [E4] <;> omega) | omega | fail) only [↓E2, E3, bare, bareJ, ↓E0, E1, evP, evPlan, env0, envN, evOps, evOp, evQs, evQ, evV, setD, pureOp, ev, upd, updL, gate, binW, eqOp, binV, intOp, shOp, boolOp, unV, convV, nilV, fieldAddrV, indexAddrV, extractV, cellAt, cellsAt, findB, setB, fillL, buildV, Value.cells, lenV, minV, maxV, hav, sliceV, loV, hiV, bslQ, mksQ, appQ, partsOk, partsCells, delB, eqL, SameI, strOp, apzQ, cvtQ, capV, ↓reduceIte, Zj, Zk, Nat.reduceAdd, Nat.reduceLT, Nat.reduceEqDiff, Nat.reduceMul, Nat.reduceLeDiff, if_true, Zn, reduceCtorEq, ZA, eq_self, Int.reduceLE, Int.reduceLT, Int.reduceToNat, ne_eq, Nat.reduceSub, Tby2, Tslc47, Tslce47, Tzero2]
  repeat refine And.intro (by omega) ?_
  intro b1 hb1
  try simp (maxSteps := 2000000) (disch := first | (simp only [E4] <;> omega) | omega | fail) only [↓E2, E3, bare, bareJ, ↓E0, E1, evP, evPlan, env0, envN, evOps, evOp, evQs, evQ, evV, setD, pureOp, ev, upd, updL, gate, binW, eqOp, binV, intOp, shOp, boolOp, unV, convV, nilV, fieldAddrV, indexAddrV, extractV, cellAt, cellsAt, findB, setB, fillL, buildV, Value.cells, lenV, minV, maxV, hav, sliceV, loV, hiV, bslQ, mksQ, appQ, partsOk, partsCells, delB, eqL, SameI, strOp, apzQ, cvtQ, capV, ↓reduceIte, Zj, Zk, Nat.reduceAdd, Nat.reduceLT, Nat.reduceEqDiff, Nat.reduceMul, Nat.reduceLeDiff, if_true, Zn, reduceCtorEq, ZA, eq_self, Int.reduceLE, Int.reduceLT, Int.reduceToNat, ne_eq, Nat.reduceSub, Tby2, Tslc47, Tslce47, Tzero2]
  repeat refine And.intro (by omega) ?_
  repeat refine And.intro (by omega) ?_
  intro g
  simp only [List.map_cons, List.map_nil, updL, upd, Nat.reduceEqDiff, if_true, if_false, ↓reduceIte]
  refine hK _ _ ?_; clear hK K
  refine Cd.seq ?_
  refine Cd.rs [0, 3, 4] fun K hK => ?_
  simp (maxSteps := 2000000) (disch := first | (simp only [E4] <;> omega) | omega | fail) only [↓E2, E3, bare, bareJ, ↓E0, E1, evP, evPlan, env0, envN, evOps, evOp, evQs, evQ, evV, setD, pureOp, ev, upd, updL, gate, binW, eqOp, binV, intOp, shOp, boolOp, unV, convV, nilV, fieldAddrV, indexAddrV, extractV, cellAt, cellsAt, findB, setB, fillL, buildV, Value.cells, lenV, minV, maxV, hav, sliceV, loV, hiV, bslQ, mksQ, appQ, partsOk, partsCells, delB, eqL, SameI, strOp, apzQ, cvtQ, capV, ↓reduceIte, Zj, Zk, Nat.reduceAdd, Nat.reduceLT, Nat.reduceEqDiff, Nat.reduceMul, Nat.reduceLeDiff, if_true, Zn, reduceCtorEq, ZA, eq_self, Int.reduceLE, Int.reduceLT, Int.reduceToNat, ne_eq, Nat.reduceSub]
  repeat refine And.intro (by omega) ?_
  repeat refine And.intro (by omega) ?_
  intro g
  simp only [List.map_cons, List.map_nil, updL, upd, Nat.reduceEqDiff, if_true, if_false, ↓reduceIte]
  refine hK _ _ ?_; clear hK K
  refine Cd.block ?_
  refine Cd.loop (fun q ρ M => ∃ g k cs, k + q = l.length ∧ cs = ints .i64 (l.take k ++ List.replicate (l.length - k) 0) ∧ ρ = updL [(0, .slice a l.length cap), (3, .slice (some ⟨b1, 0, none⟩) l.length l.length), (4, .int .i64 (k : Int))] g ∧ M = [(b1, cs)]) l.length ⟨_, 0, _, Nat.zero_add _, rfl, rfl, by rw [List.take_zero, List.nil_append, Nat.sub_zero]; simp [ints]⟩ ?_
  rintro q ρ M ⟨g, k, cs, hk, hcs, rfl, rfl⟩
  refine Cd.seq ?_
  refine Cd.rs [0, 3, 4, 11] fun K hK => ?_
  simp (maxSteps := 2000000) (disch := first | (simp only [E4] <;> omega) | omega | fail) only [↓E2, E3, bare, bareJ, ↓E0, E1, evP, evPlan, env0, envN, evOps, evOp, evQs, evQ, evV, setD, pureOp, ev, upd, updL, gate, binW, eqOp, binV, intOp, shOp, boolOp, unV, convV, nilV, fieldAddrV, indexAddrV, extractV, cellAt, cellsAt, findB, setB, fillL, buildV, Value.cells, lenV, minV, maxV, hav, sliceV, loV, hiV, bslQ, mksQ, appQ, partsOk, partsCells, delB, eqL, SameI, strOp, apzQ, cvtQ, capV, ↓reduceIte, Zj, Zk, Nat.reduceAdd, Nat.reduceLT, Nat.reduceEqDiff, Nat.reduceMul, Nat.reduceLeDiff, if_true, Zn, reduceCtorEq, ZA, eq_self, Int.reduceLE, Int.reduceLT, Int.reduceToNat, ne_eq, Nat.reduceSub, Tslce47]
  repeat refine And.intro (by omega) ?_
  repeat refine And.intro (by omega) ?_
  intro g
  simp only [List.map_cons, List.map_nil, updL, upd, Nat.reduceEqDiff, if_true, if_false, ↓reduceIte]
  refine hK _ _ ?_; clear hK K
  refine Cd.condd rfl (fun h1 => ?_) (fun h1 => ?_)
  · obtain ⟨b, o, rfl, g1⟩ := h.get hR (k := k) (by omega)
    have n1 : ¬ b1 = b := fun e => by
      have := frn_lt g1
      have := hb1.1
      omega
    have cl : cs.length = l.length := by rw [hcs, ints_length, List.length_append, List.length_take, List.length_replicate]; omega
    have hcs2 : cs.set k (.int .i64 (l.getD k 0)) = ints .i64 (l.take (k + 1) ++ List.replicate (l.length - (k + 1)) 0) := by
      rw [hcs, ints_set]
      congr 1
      rw [List.take_succ_eq_append_getElem (by omega), List.set_append_right _ _ (by rw [List.length_take]; omega), List.length_take, show k - min k l.length = 0 by omega, show l.length - k = (l.length - (k + 1)) + 1 by omega, List.replicate_succ, List.set_cons_zero, List.append_assoc, List.getD_eq_getElem?_getD, List.getElem?_eq_getElem (show k < l.length by omega)]
      rfl
    refine Cd.skip ?_
    refine thenN ?_
    refine Cd.seq ?_
    refine Cd.block ?_
    skip
    refine Cd.rr [0, 3, 4] fun K hK => ?_
    simp (maxSteps := 2000000) (disch := first | (simp only [E4, g1, n1, cl] <;> omega) | omega | fail) only [↓E2, E3, bare, bareJ, ↓E0, E1, evP, evPlan, env0, envN, evOps, evOp, evQs, evQ, evV, setD, pureOp, ev, upd, updL, gate, binW, eqOp, binV, intOp, shOp, boolOp, unV, convV, nilV, fieldAddrV, indexAddrV, extractV, cellAt, cellsAt, findB, setB, fillL, buildV, Value.cells, lenV, minV, maxV, hav, sliceV, loV, hiV, bslQ, mksQ, appQ, partsOk, partsCells, delB, eqL, SameI, strOp, apzQ, cvtQ, capV, ↓reduceIte, Zj, Zk, Nat.reduceAdd, Nat.reduceLT, Nat.reduceEqDiff, Nat.reduceMul, Nat.reduceLeDiff, if_true, Zn, reduceCtorEq, ZA, eq_self, Int.reduceLE, Int.reduceLT, Int.reduceToNat, ne_eq, Nat.reduceSub, Tld2, Tslc47, Tst2, g1, n1, cl]
    repeat refine And.intro (by omega) ?_
    repeat refine And.intro (by omega) ?_
    intro g
    simp only [List.map_cons, List.map_nil, updL, upd, Nat.reduceEqDiff, if_true, if_false, ↓reduceIte]
    refine hK _ _ ?_; clear hK K
    refine inBN ?_
    refine thenN ?_
    refine Cd.rr [0, 3, 4] fun K hK => ?_
    simp (maxSteps := 2000000) (disch := first | (simp only [E4, g1, n1, cl] <;> omega) | omega | fail) only [↓E2, E3, bare, bareJ, ↓E0, E1, evP, evPlan, env0, envN, evOps, evOp, evQs, evQ, evV, setD, pureOp, ev, upd, updL, gate, binW, eqOp, binV, intOp, shOp, boolOp, unV, convV, nilV, fieldAddrV, indexAddrV, extractV, cellAt, cellsAt, findB, setB, fillL, buildV, Value.cells, lenV, minV, maxV, hav, sliceV, loV, hiV, bslQ, mksQ, appQ, partsOk, partsCells, delB, eqL, SameI, strOp, apzQ, cvtQ, capV, ↓reduceIte, Zj, Zk, Nat.reduceAdd, Nat.reduceLT, Nat.reduceEqDiff, Nat.reduceMul, Nat.reduceLeDiff, if_true, Zn, reduceCtorEq, ZA, eq_self, Int.reduceLE, Int.reduceLT, Int.reduceToNat, ne_eq, Nat.reduceSub, g1, n1, cl]
    repeat refine And.intro (by omega) ?_
    repeat refine And.intro (by omega) ?_
    intro g
    simp only [List.map_cons, List.map_nil, updL, upd, Nat.reduceEqDiff, if_true, if_false, ↓reduceIte]
    refine hK _ _ ?_; clear hK K
    exact roundN (m := q - 1) (by omega) ⟨_, k + 1, _, by omega, hcs2, rfl, rfl⟩
  · refine Cd.exit (thenX (roundX (inBX ?_)))
    refine thenN ?_
    obtain rfl : k = l.length := by omega
    refine Cd.rs [2] fun K hK => ?_
    simp (maxSteps := 2000000) (disch := first | (simp only [E4] <;> omega) | omega | fail) only [↓E2, E3, bare, bareJ, ↓E0, E1, evP, evPlan, env0, envN, evOps, evOp, evQs, evQ, evV, setD, pureOp, ev, upd, updL, gate, binW, eqOp, binV, intOp, shOp, boolOp, unV, convV, nilV, fieldAddrV, indexAddrV, extractV, cellAt, cellsAt, findB, setB, fillL, buildV, Value.cells, lenV, minV, maxV, hav, sliceV, loV, hiV, bslQ, mksQ, appQ, partsOk, partsCells, delB, eqL, SameI, strOp, apzQ, cvtQ, capV, ↓reduceIte, Zj, Zk, Nat.reduceAdd, Nat.reduceLT, Nat.reduceEqDiff, Nat.reduceMul, Nat.reduceLeDiff, if_true, Zn, reduceCtorEq, ZA, eq_self, Int.reduceLE, Int.reduceLT, Int.reduceToNat, ne_eq, Nat.reduceSub]
    repeat refine And.intro (by omega) ?_
    repeat refine And.intro (by omega) ?_
    intro g
    simp only [List.map_cons, List.map_nil, updL, upd, Nat.reduceEqDiff, if_true, if_false, ↓reduceIte]
    refine hK _ _ ?_; clear hK K
    refine Cd.ret ?_
    simp (maxSteps := 2000000) (disch := first | (simp only [E4] <;> omega) | omega | fail) only [↓E2, E3, bare, bareJ, ↓E0, E1, evP, evPlan, env0, envN, evOps, evOp, evQs, evQ, evV, setD, pureOp, ev, upd, updL, gate, binW, eqOp, binV, intOp, shOp, boolOp, unV, convV, nilV, fieldAddrV, indexAddrV, extractV, cellAt, cellsAt, findB, setB, fillL, buildV, Value.cells, lenV, minV, maxV, hav, sliceV, loV, hiV, bslQ, mksQ, appQ, partsOk, partsCells, delB, eqL, SameI, strOp, apzQ, cvtQ, capV, ↓reduceIte, Zj, Zk, Nat.reduceAdd, Nat.reduceLT, Nat.reduceEqDiff, Nat.reduceMul, Nat.reduceLeDiff, if_true, Zn, reduceCtorEq, ZA, eq_self, Int.reduceLE, Int.reduceLT, Int.reduceToNat, ne_eq, Nat.reduceSub]
    repeat refine And.intro (by omega) ?_
    rw [Nat.sub_self, List.take_of_length_le (Nat.le_refl _), List.replicate_zero, List.append_nil] at hcs
    subst hcs
    exact SlN.row (Row.full (by rw [ints_length, Nat.mul_one]))

theorem toLaurent_c (low : Int) (l : List Int) (R : Rd) (v : Value) (h : InS R l v) (hb : l.length ≤ 17592186044416) : GivesX Try.prog 50 #[.agg #[.int .i64 low, v]] [] R (LauV low l) := by
  obtain ⟨a, cap, rfl, _⟩ := id h
  refine GivesX.part ?_
  refine GivesX.of (callable_of Try.func50 rfl (by decide)) ?_ fun w hnd hlt hR => ?_
  · simp
  refine acall_of (N := 12) (c := _) (rs := [.cell 2 56]) (args := [_]) Try.func50 rfl (by decide) rfl rfl (Nat.le_of_ble_eq_true rfl) ?_
  have hR : W8.Told [] w R := hR
  refine Cd.rs [1, 2] fun K hK => ?_
  simp (maxSteps := 2000000) (disch := first | (simp only [E4] <;> omega) | omega | fail) only [↓E2, E3, bare, bareJ, ↓E0, E1, evP, evPlan, env0, envN, evOps, evOp, evQs, evQ, evV, setD, pureOp, ev, upd, updL, gate, binW, eqOp, binV, intOp, shOp, boolOp, unV, convV, nilV, fieldAddrV, indexAddrV, extractV, cellAt, cellsAt, findB, setB, fillL, buildV, Value.cells, lenV, minV, maxV, hav, sliceV, loV, hiV, bslQ, mksQ, appQ, partsOk, partsCells, delB, eqL, SameI, strOp, apzQ, cvtQ, capV, ↓reduceIte, Zj, Zk, Nat.reduceAdd, Nat.reduceLT, Nat.reduceEqDiff, Nat.reduceMul, Nat.reduceLeDiff, if_true, Zn, reduceCtorEq, ZA, eq_self, Int.reduceLE, Int.reduceLT, Int.reduceToNat, ne_eq, Nat.reduceSub, Tzero56]
  repeat refine And.intro (by omega) ?_
  intro b1 hb1
  intro b2 hb2
  have nb2_b1 := hb2.ne
  try simp (maxSteps := 2000000) (disch := first | (simp only [E4, nb2_b1] <;> omega) | omega | fail) only [↓E2, E3, bare, bareJ, ↓E0, E1, evP, evPlan, env0, envN, evOps, evOp, evQs, evQ, evV, setD, pureOp, ev, upd, updL, gate, binW, eqOp, binV, intOp, shOp, boolOp, unV, convV, nilV, fieldAddrV, indexAddrV, extractV, cellAt, cellsAt, findB, setB, fillL, buildV, Value.cells, lenV, minV, maxV, hav, sliceV, loV, hiV, bslQ, mksQ, appQ, partsOk, partsCells, delB, eqL, SameI, strOp, apzQ, cvtQ, capV, ↓reduceIte, Zj, Zk, Nat.reduceAdd, Nat.reduceLT, Nat.reduceEqDiff, Nat.reduceMul, Nat.reduceLeDiff, if_true, Zn, reduceCtorEq, ZA, eq_self, Int.reduceLE, Int.reduceLT, Int.reduceToNat, ne_eq, Nat.reduceSub, Tzero56, nb2_b1]
  repeat refine And.intro (by omega) ?_
  repeat refine And.intro (by omega) ?_
  intro g
  simp only [List.map_cons, List.map_nil, updL, upd, Nat.reduceEqDiff, if_true, if_false, ↓reduceIte]
  refine hK _ _ ?_; clear hK K
  refine Cd.rs [1, 2, 3] fun K hK => ?_
  simp (maxSteps := 2000000) (disch := first | (simp only [E4, nb2_b1] <;> omega) | omega | fail) only [↓E2, E3, bare, bareJ, ↓E0, E1, evP, evPlan, env0, envN, evOps, evOp, evQs, evQ, evV, setD, pureOp, ev, upd, updL, gate, binW, eqOp, binV, intOp, shOp, boolOp, unV, convV, nilV, fieldAddrV, indexAddrV, extractV, cellAt, cellsAt, findB, setB, fillL, buildV, Value.cells, lenV, minV, maxV, hav, sliceV, loV, hiV, bslQ, mksQ, appQ, partsOk, partsCells, delB, eqL, SameI, strOp, apzQ, cvtQ, capV, ↓reduceIte, Zj, Zk, Nat.reduceAdd, Nat.reduceLT, Nat.reduceEqDiff, Nat.reduceMul, Nat.reduceLeDiff, if_true, Zn, reduceCtorEq, ZA, eq_self, Int.reduceLE, Int.reduceLT, Int.reduceToNat, ne_eq, Nat.reduceSub, Tzero56, nb2_b1]
  repeat refine And.intro (by omega) ?_
  intro b3 hb3
  have nb3_b2 := hb3.ne
  have nb3_b1 := hb3.tail.ne
  try simp (maxSteps := 2000000) (disch := first | (simp only [E4, nb2_b1, nb3_b2, nb3_b1] <;> omega) | omega | fail) only [↓E2, E3, bare, bareJ, ↓E0, E1, evP, evPlan, env0, envN, evOps, evOp, evQs, evQ, evV, setD, pureOp, ev, upd, updL, gate, binW, eqOp, binV, intOp, shOp, boolOp, unV, convV, nilV, fieldAddrV, indexAddrV, extractV, cellAt, cellsAt, findB, setB, fillL, buildV, Value.cells, lenV, minV, maxV, hav, sliceV, loV, hiV, bslQ, mksQ, appQ, partsOk, partsCells, delB, eqL, SameI, strOp, apzQ, cvtQ, capV, ↓reduceIte, Zj, Zk, Nat.reduceAdd, Nat.reduceLT, Nat.reduceEqDiff, Nat.reduceMul, Nat.reduceLeDiff, if_true, Zn, reduceCtorEq, ZA, eq_self, Int.reduceLE, Int.reduceLT, Int.reduceToNat, ne_eq, Nat.reduceSub, Tzero56, nb2_b1, nb3_b2, nb3_b1]
  repeat refine And.intro (by omega) ?_
  repeat refine And.intro (by omega) ?_
  intro g
  simp only [List.map_cons, List.map_nil, updL, upd, Nat.reduceEqDiff, if_true, if_false, ↓reduceIte]
  refine hK _ _ ?_; clear hK K
  refine Cd.rs [1, 2, 3] fun K hK => ?_
  simp (maxSteps := 2000000) (disch := first | (simp only [E4, nb2_b1, nb3_b2, nb3_b1] <;> omega) | omega | fail) only [↓E2, E3, bare, bareJ, ↓E0, E1, evP, evPlan, env0, envN, evOps, evOp, evQs, evQ, evV, setD, pureOp, ev, upd, updL, gate, binW, eqOp, binV, intOp, shOp, boolOp, unV, convV, nilV, fieldAddrV, indexAddrV, extractV, cellAt, cellsAt, findB, setB, fillL, buildV, Value.cells, lenV, minV, maxV, hav, sliceV, loV, hiV, bslQ, mksQ, appQ, partsOk, partsCells, delB, eqL, SameI, strOp, apzQ, cvtQ, capV, ↓reduceIte, Zj, Zk, Nat.reduceAdd, Nat.reduceLT, Nat.reduceEqDiff, Nat.reduceMul, Nat.reduceLeDiff, if_true, Zn, reduceCtorEq, ZA, eq_self, Int.reduceLE, Int.reduceLT, Int.reduceToNat, ne_eq, Nat.reduceSub, Tfld56_0, Tfld61_0, Tld2, Tst2, nb2_b1, nb3_b2, nb3_b1]
  repeat refine And.intro (by omega) ?_
  repeat refine And.intro (by omega) ?_
  intro g
  simp only [List.map_cons, List.map_nil, updL, upd, Nat.reduceEqDiff, if_true, if_false, ↓reduceIte]
  refine hK _ _ ?_; clear hK K
  refine Cd.rs [2, 3] fun K hK => ?_
  simp (maxSteps := 2000000) (disch := first | (simp only [E4, nb2_b1, nb3_b2, nb3_b1] <;> omega) | omega | fail) only [↓E2, E3, bare, bareJ, ↓E0, E1, evP, evPlan, env0, envN, evOps, evOp, evQs, evQ, evV, setD, pureOp, ev, upd, updL, gate, binW, eqOp, binV, intOp, shOp, boolOp, unV, convV, nilV, fieldAddrV, indexAddrV, extractV, cellAt, cellsAt, findB, setB, fillL, buildV, Value.cells, lenV, minV, maxV, hav, sliceV, loV, hiV, bslQ, mksQ, appQ, partsOk, partsCells, delB, eqL, SameI, strOp, apzQ, cvtQ, capV, ↓reduceIte, Zj, Zk, Nat.reduceAdd, Nat.reduceLT, Nat.reduceEqDiff, Nat.reduceMul, Nat.reduceLeDiff, if_true, Zn, reduceCtorEq, ZA, eq_self, Int.reduceLE, Int.reduceLT, Int.reduceToNat, ne_eq, Nat.reduceSub, Tfld56_1, Tfld61_1, Tld47, Tst47, nb2_b1, nb3_b2, nb3_b1]
  repeat refine And.intro (by omega) ?_
  refine callK_newR0 (toInt64S_c l R _ h hb) hR.toldW ?_
  intro v M' hv _ hf
  obtain ⟨a', m', cap', rfl⟩ := hv.form
  simp only [List.cons_append, List.nil_append]
  simp (maxSteps := 2000000) (disch := first | (simp only [E4, nb2_b1, nb3_b2, nb3_b1] <;> omega) | omega | fail) only [↓E2, E3, bare, bareJ, ↓E0, E1, evP, evPlan, env0, envN, evOps, evOp, evQs, evQ, evV, setD, pureOp, ev, upd, updL, gate, binW, eqOp, binV, intOp, shOp, boolOp, unV, convV, nilV, fieldAddrV, indexAddrV, extractV, cellAt, cellsAt, findB, setB, fillL, buildV, Value.cells, lenV, minV, maxV, hav, sliceV, loV, hiV, bslQ, mksQ, appQ, partsOk, partsCells, delB, eqL, SameI, strOp, apzQ, cvtQ, capV, ↓reduceIte, Zj, Zk, Nat.reduceAdd, Nat.reduceLT, Nat.reduceEqDiff, Nat.reduceMul, Nat.reduceLeDiff, if_true, Zn, reduceCtorEq, ZA, eq_self, Int.reduceLE, Int.reduceLT, Int.reduceToNat, ne_eq, Nat.reduceSub, Tfld56_1, Tfld61_1, Tld47, Tst47, nb2_b1, nb3_b2, nb3_b1]
  repeat refine And.intro (by omega) ?_
  repeat refine And.intro (by omega) ?_
  intro g
  simp only [List.map_cons, List.map_nil, updL, upd, Nat.reduceEqDiff, if_true, if_false, ↓reduceIte]
  refine hK _ _ ?_; clear hK K
  refine Cd.rs [2] fun K hK => ?_
  simp (maxSteps := 2000000) (disch := first | (simp only [E4, nb2_b1, nb3_b2, nb3_b1] <;> omega) | omega | fail) only [↓E2, E3, bare, bareJ, ↓E0, E1, evP, evPlan, env0, envN, evOps, evOp, evQs, evQ, evV, setD, pureOp, ev, upd, updL, gate, binW, eqOp, binV, intOp, shOp, boolOp, unV, convV, nilV, fieldAddrV, indexAddrV, extractV, cellAt, cellsAt, findB, setB, fillL, buildV, Value.cells, lenV, minV, maxV, hav, sliceV, loV, hiV, bslQ, mksQ, appQ, partsOk, partsCells, delB, eqL, SameI, strOp, apzQ, cvtQ, capV, ↓reduceIte, Zj, Zk, Nat.reduceAdd, Nat.reduceLT, Nat.reduceEqDiff, Nat.reduceMul, Nat.reduceLeDiff, if_true, Zn, reduceCtorEq, ZA, eq_self, Int.reduceLE, Int.reduceLT, Int.reduceToNat, ne_eq, Nat.reduceSub, Tld56, Tst56, nb2_b1, nb3_b2, nb3_b1]
  repeat refine And.intro (by omega) ?_
  repeat refine And.intro (by omega) ?_
  intro g
  simp only [List.map_cons, List.map_nil, updL, upd, Nat.reduceEqDiff, if_true, if_false, ↓reduceIte]
  refine hK _ _ ?_; clear hK K
  refine Cd.ret ?_
  simp (maxSteps := 2000000) (disch := first | (simp only [E4, nb2_b1, nb3_b2, nb3_b1] <;> omega) | omega | fail) only [↓E2, E3, bare, bareJ, ↓E0, E1, evP, evPlan, env0, envN, evOps, evOp, evQs, evQ, evV, setD, pureOp, ev, upd, updL, gate, binW, eqOp, binV, intOp, shOp, boolOp, unV, convV, nilV, fieldAddrV, indexAddrV, extractV, cellAt, cellsAt, findB, setB, fillL, buildV, Value.cells, lenV, minV, maxV, hav, sliceV, loV, hiV, bslQ, mksQ, appQ, partsOk, partsCells, delB, eqL, SameI, strOp, apzQ, cvtQ, capV, ↓reduceIte, Zj, Zk, Nat.reduceAdd, Nat.reduceLT, Nat.reduceEqDiff, Nat.reduceMul, Nat.reduceLeDiff, if_true, Zn, reduceCtorEq, ZA, eq_self, Int.reduceLE, Int.reduceLT, Int.reduceToNat, ne_eq, Nat.reduceSub, Tld56, nb2_b1, nb3_b2, nb3_b1]
  repeat refine And.intro (by omega) ?_
  exact ⟨M', .of (List.Sublist.cons _ (List.Sublist.cons _ (List.Sublist.cons _ (List.Sublist.refl _)))), _, rfl, hv⟩

theorem szInt64S_c (l : Nat) (a : Option Addr) (cap : Nat) (left : Nat) (hl : left < 4611686018427387904) (hb : l ≤ 9223372036854775807) : Gives Try.prog 120 #[.slice a l cap, .int .i64 (left : Int)] (.int .i64 (if (left : Int) - l < 0 then -1 else (left : Int) - l)) := by
  refine Gives.of fun w => ?_
  refine acall_of (N := 12) (c := _) (rs := [.tmp 4]) (args := [_, _]) Try.func120 rfl (by decide) rfl rfl (Nat.le_of_ble_eq_true rfl) ?_
  refine Cd.rs [0, 1] fun K hK => ?_
  simp (maxSteps := 2000000) (disch := first | (simp only [E4] <;> omega) | omega | fail) only [↓E2, E3, bare, bareJ, ↓E0, E1, evP, evPlan, env0, envN, evOps, evOp, evQs, evQ, evV, setD, pureOp, ev, upd, updL, gate, binW, eqOp, binV, intOp, shOp, boolOp, unV, convV, nilV, fieldAddrV, indexAddrV, extractV, cellAt, cellsAt, findB, setB, fillL, buildV, Value.cells, lenV, minV, maxV, hav, sliceV, loV, hiV, bslQ, mksQ, appQ, partsOk, partsCells, delB, eqL, SameI, strOp, apzQ, cvtQ, capV, ↓reduceIte, Zj, Zk, Nat.reduceAdd, Nat.reduceLT, Nat.reduceEqDiff, Nat.reduceMul, Nat.reduceLeDiff, if_true, Zn, reduceCtorEq, ZA, eq_self, Int.reduceLE, Int.reduceLT, Int.reduceToNat, ne_eq, Nat.reduceSub]
  repeat refine And.intro (by omega) ?_
  repeat refine And.intro (by omega) ?_
  intro g
  simp only [List.map_cons, List.map_nil, updL, upd, Nat.reduceEqDiff, if_true, if_false, ↓reduceIte]
  refine hK _ _ ?_; clear hK K
  refine Cd.rs [1] fun K hK => ?_
  simp (maxSteps := 2000000) (disch := first | (simp only [E4] <;> omega) | omega | fail) only [↓E2, E3, bare, bareJ, ↓E0, E1, evP, evPlan, env0, envN, evOps, evOp, evQs, evQ, evV, setD, pureOp, ev, upd, updL, gate, binW, eqOp, binV, intOp, shOp, boolOp, unV, convV, nilV, fieldAddrV, indexAddrV, extractV, cellAt, cellsAt, findB, setB, fillL, buildV, Value.cells, lenV, minV, maxV, hav, sliceV, loV, hiV, bslQ, mksQ, appQ, partsOk, partsCells, delB, eqL, SameI, strOp, apzQ, cvtQ, capV, ↓reduceIte, Zj, Zk, Nat.reduceAdd, Nat.reduceLT, Nat.reduceEqDiff, Nat.reduceMul, Nat.reduceLeDiff, if_true, Zn, reduceCtorEq, ZA, eq_self, Int.reduceLE, Int.reduceLT, Int.reduceToNat, ne_eq, Nat.reduceSub, Tslce47]
  repeat refine And.intro (by omega) ?_
  repeat refine And.intro (by omega) ?_
  intro g
  simp only [List.map_cons, List.map_nil, updL, upd, Nat.reduceEqDiff, if_true, if_false, ↓reduceIte]
  refine hK _ _ ?_; clear hK K
  refine Cd.seq ?_
  refine Cd.rs [1, 10] fun K hK => ?_
  simp (maxSteps := 2000000) (disch := first | (simp only [E4] <;> omega) | omega | fail) only [↓E2, E3, bare, bareJ, ↓E0, E1, evP, evPlan, env0, envN, evOps, evOp, evQs, evQ, evV, setD, pureOp, ev, upd, updL, gate, binW, eqOp, binV, intOp, shOp, boolOp, unV, convV, nilV, fieldAddrV, indexAddrV, extractV, cellAt, cellsAt, findB, setB, fillL, buildV, Value.cells, lenV, minV, maxV, hav, sliceV, loV, hiV, bslQ, mksQ, appQ, partsOk, partsCells, delB, eqL, SameI, strOp, apzQ, cvtQ, capV, ↓reduceIte, Zj, Zk, Nat.reduceAdd, Nat.reduceLT, Nat.reduceEqDiff, Nat.reduceMul, Nat.reduceLeDiff, if_true, Zn, reduceCtorEq, ZA, eq_self, Int.reduceLE, Int.reduceLT, Int.reduceToNat, ne_eq, Nat.reduceSub]
  repeat refine And.intro (by omega) ?_
  repeat refine And.intro (by omega) ?_
  intro g
  simp only [List.map_cons, List.map_nil, updL, upd, Nat.reduceEqDiff, if_true, if_false, ↓reduceIte]
  refine hK _ _ ?_; clear hK K
  refine Cd.condd rfl (fun h1 => ?_) (fun h1 => ?_)
  · refine Cd.rs [4] fun K hK => ?_
    simp (maxSteps := 2000000) (disch := first | (simp only [E4] <;> omega) | omega | fail) only [↓E2, E3, bare, bareJ, ↓E0, E1, evP, evPlan, env0, envN, evOps, evOp, evQs, evQ, evV, setD, pureOp, ev, upd, updL, gate, binW, eqOp, binV, intOp, shOp, boolOp, unV, convV, nilV, fieldAddrV, indexAddrV, extractV, cellAt, cellsAt, findB, setB, fillL, buildV, Value.cells, lenV, minV, maxV, hav, sliceV, loV, hiV, bslQ, mksQ, appQ, partsOk, partsCells, delB, eqL, SameI, strOp, apzQ, cvtQ, capV, ↓reduceIte, Zj, Zk, Nat.reduceAdd, Nat.reduceLT, Nat.reduceEqDiff, Nat.reduceMul, Nat.reduceLeDiff, if_true, Zn, reduceCtorEq, ZA, eq_self, Int.reduceLE, Int.reduceLT, Int.reduceToNat, ne_eq, Nat.reduceSub]
    repeat refine And.intro (by omega) ?_
    repeat refine And.intro (by omega) ?_
    intro g
    simp only [List.map_cons, List.map_nil, updL, upd, Nat.reduceEqDiff, if_true, if_false, ↓reduceIte]
    refine hK _ _ ?_; clear hK K
    refine Cd.ret (thenR ?_)
    simp (maxSteps := 2000000) (disch := first | (simp only [E4] <;> omega) | omega | fail) only [↓E2, E3, bare, bareJ, ↓E0, E1, evP, evPlan, env0, envN, evOps, evOp, evQs, evQ, evV, setD, pureOp, ev, upd, updL, gate, binW, eqOp, binV, intOp, shOp, boolOp, unV, convV, nilV, fieldAddrV, indexAddrV, extractV, cellAt, cellsAt, findB, setB, fillL, buildV, Value.cells, lenV, minV, maxV, hav, sliceV, loV, hiV, bslQ, mksQ, appQ, partsOk, partsCells, delB, eqL, SameI, strOp, apzQ, cvtQ, capV, ↓reduceIte, Zj, Zk, Nat.reduceAdd, Nat.reduceLT, Nat.reduceEqDiff, Nat.reduceMul, Nat.reduceLeDiff, if_true, Zn, reduceCtorEq, ZA, eq_self, Int.reduceLE, Int.reduceLT, Int.reduceToNat, ne_eq, Nat.reduceSub]
    repeat refine And.intro (by omega) ?_
    rw [if_pos h1]
  · refine Cd.skip ?_
    refine thenN ?_
    refine Cd.rs [4] fun K hK => ?_
    simp (maxSteps := 2000000) (disch := first | (simp only [E4] <;> omega) | omega | fail) only [↓E2, E3, bare, bareJ, ↓E0, E1, evP, evPlan, env0, envN, evOps, evOp, evQs, evQ, evV, setD, pureOp, ev, upd, updL, gate, binW, eqOp, binV, intOp, shOp, boolOp, unV, convV, nilV, fieldAddrV, indexAddrV, extractV, cellAt, cellsAt, findB, setB, fillL, buildV, Value.cells, lenV, minV, maxV, hav, sliceV, loV, hiV, bslQ, mksQ, appQ, partsOk, partsCells, delB, eqL, SameI, strOp, apzQ, cvtQ, capV, ↓reduceIte, Zj, Zk, Nat.reduceAdd, Nat.reduceLT, Nat.reduceEqDiff, Nat.reduceMul, Nat.reduceLeDiff, if_true, Zn, reduceCtorEq, ZA, eq_self, Int.reduceLE, Int.reduceLT, Int.reduceToNat, ne_eq, Nat.reduceSub]
    repeat refine And.intro (by omega) ?_
    repeat refine And.intro (by omega) ?_
    intro g
    simp only [List.map_cons, List.map_nil, updL, upd, Nat.reduceEqDiff, if_true, if_false, ↓reduceIte]
    refine hK _ _ ?_; clear hK K
    refine Cd.ret ?_
    simp (maxSteps := 2000000) (disch := first | (simp only [E4] <;> omega) | omega | fail) only [↓E2, E3, bare, bareJ, ↓E0, E1, evP, evPlan, env0, envN, evOps, evOp, evQs, evQ, evV, setD, pureOp, ev, upd, updL, gate, binW, eqOp, binV, intOp, shOp, boolOp, unV, convV, nilV, fieldAddrV, indexAddrV, extractV, cellAt, cellsAt, findB, setB, fillL, buildV, Value.cells, lenV, minV, maxV, hav, sliceV, loV, hiV, bslQ, mksQ, appQ, partsOk, partsCells, delB, eqL, SameI, strOp, apzQ, cvtQ, capV, ↓reduceIte, Zj, Zk, Nat.reduceAdd, Nat.reduceLT, Nat.reduceEqDiff, Nat.reduceMul, Nat.reduceLeDiff, if_true, Zn, reduceCtorEq, ZA, eq_self, Int.reduceLE, Int.reduceLT, Int.reduceToNat, ne_eq, Nat.reduceSub]
    repeat refine And.intro (by omega) ?_
    rw [if_neg h1]
theorem szLaurent_c (low : Int) (l : Nat) (a : Option Addr) (cap : Nat) (left : Nat) (hl : left < 4611686018427387904) (hb : l ≤ 9223372036854775807) : Gives Try.prog 48 #[.agg #[.int .i64 low, .slice a l cap], .int .i64 (left : Int)] (.int .i64 (if (left : Int) - l < 0 then -1 else (left : Int) - l)) := by
  refine Gives.of fun w => ?_
  refine acall_of (N := 12) (c := _) (rs := [.tmp 4]) (args := [_, _]) Try.func48 rfl (by decide) rfl rfl (Nat.le_of_ble_eq_true rfl) ?_
  refine Cd.rs [1, 2] fun K hK => ?_
  simp (maxSteps := 2000000) (disch := first | (simp only [E4] <;> omega) | omega | fail) only [↓E2, E3, bare, bareJ, ↓E0, E1, evP, evPlan, env0, envN, evOps, evOp, evQs, evQ, evV, setD, pureOp, ev, upd, updL, gate, binW, eqOp, binV, intOp, shOp, boolOp, unV, convV, nilV, fieldAddrV, indexAddrV, extractV, cellAt, cellsAt, findB, setB, fillL, buildV, Value.cells, lenV, minV, maxV, hav, sliceV, loV, hiV, bslQ, mksQ, appQ, partsOk, partsCells, delB, eqL, SameI, strOp, apzQ, cvtQ, capV, ↓reduceIte, Zj, Zk, Nat.reduceAdd, Nat.reduceLT, Nat.reduceEqDiff, Nat.reduceMul, Nat.reduceLeDiff, if_true, Zn, reduceCtorEq, ZA, eq_self, Int.reduceLE, Int.reduceLT, Int.reduceToNat, ne_eq, Nat.reduceSub]
  repeat refine And.intro (by omega) ?_
  intro b1 hb1
  try simp (maxSteps := 2000000) (disch := first | (simp only [E4] <;> omega) | omega | fail) only [↓E2, E3, bare, bareJ, ↓E0, E1, evP, evPlan, env0, envN, evOps, evOp, evQs, evQ, evV, setD, pureOp, ev, upd, updL, gate, binW, eqOp, binV, intOp, shOp, boolOp, unV, convV, nilV, fieldAddrV, indexAddrV, extractV, cellAt, cellsAt, findB, setB, fillL, buildV, Value.cells, lenV, minV, maxV, hav, sliceV, loV, hiV, bslQ, mksQ, appQ, partsOk, partsCells, delB, eqL, SameI, strOp, apzQ, cvtQ, capV, ↓reduceIte, Zj, Zk, Nat.reduceAdd, Nat.reduceLT, Nat.reduceEqDiff, Nat.reduceMul, Nat.reduceLeDiff, if_true, Zn, reduceCtorEq, ZA, eq_self, Int.reduceLE, Int.reduceLT, Int.reduceToNat, ne_eq, Nat.reduceSub]
  repeat refine And.intro (by omega) ?_
  repeat refine And.intro (by omega) ?_
  intro g
  simp only [List.map_cons, List.map_nil, updL, upd, Nat.reduceEqDiff, if_true, if_false, ↓reduceIte]
  refine hK _ _ ?_; clear hK K
  refine Cd.rs [1] fun K hK => ?_
  simp (maxSteps := 2000000) (disch := first | (simp only [E4] <;> omega) | omega | fail) only [↓E2, E3, bare, bareJ, ↓E0, E1, evP, evPlan, env0, envN, evOps, evOp, evQs, evQ, evV, setD, pureOp, ev, upd, updL, gate, binW, eqOp, binV, intOp, shOp, boolOp, unV, convV, nilV, fieldAddrV, indexAddrV, extractV, cellAt, cellsAt, findB, setB, fillL, buildV, Value.cells, lenV, minV, maxV, hav, sliceV, loV, hiV, bslQ, mksQ, appQ, partsOk, partsCells, delB, eqL, SameI, strOp, apzQ, cvtQ, capV, ↓reduceIte, Zj, Zk, Nat.reduceAdd, Nat.reduceLT, Nat.reduceEqDiff, Nat.reduceMul, Nat.reduceLeDiff, if_true, Zn, reduceCtorEq, ZA, eq_self, Int.reduceLE, Int.reduceLT, Int.reduceToNat, ne_eq, Nat.reduceSub, Tfld61_1, Tld47]
  repeat refine And.intro (by omega) ?_
  refine callK_gives (szInt64S_c l a cap left hl hb) ?_
  simp (maxSteps := 2000000) (disch := first | (simp only [E4] <;> omega) | omega | fail) only [↓E2, E3, bare, bareJ, ↓E0, E1, evP, evPlan, env0, envN, evOps, evOp, evQs, evQ, evV, setD, pureOp, ev, upd, updL, gate, binW, eqOp, binV, intOp, shOp, boolOp, unV, convV, nilV, fieldAddrV, indexAddrV, extractV, cellAt, cellsAt, findB, setB, fillL, buildV, Value.cells, lenV, minV, maxV, hav, sliceV, loV, hiV, bslQ, mksQ, appQ, partsOk, partsCells, delB, eqL, SameI, strOp, apzQ, cvtQ, capV, ↓reduceIte, Zj, Zk, Nat.reduceAdd, Nat.reduceLT, Nat.reduceEqDiff, Nat.reduceMul, Nat.reduceLeDiff, if_true, Zn, reduceCtorEq, ZA, eq_self, Int.reduceLE, Int.reduceLT, Int.reduceToNat, ne_eq, Nat.reduceSub, Tfld61_1, Tld47]
  repeat refine And.intro (by omega) ?_
  repeat refine And.intro (by omega) ?_
  intro g
  simp only [List.map_cons, List.map_nil, updL, upd, Nat.reduceEqDiff, if_true, if_false, ↓reduceIte]
  refine hK _ _ ?_; clear hK K
  refine Cd.seq ?_
  refine Cd.rs [1, 10] fun K hK => ?_
  simp (maxSteps := 2000000) (disch := first | (simp only [E4] <;> omega) | omega | fail) only [↓E2, E3, bare, bareJ, ↓E0, E1, evP, evPlan, env0, envN, evOps, evOp, evQs, evQ, evV, setD, pureOp, ev, upd, updL, gate, binW, eqOp, binV, intOp, shOp, boolOp, unV, convV, nilV, fieldAddrV, indexAddrV, extractV, cellAt, cellsAt, findB, setB, fillL, buildV, Value.cells, lenV, minV, maxV, hav, sliceV, loV, hiV, bslQ, mksQ, appQ, partsOk, partsCells, delB, eqL, SameI, strOp, apzQ, cvtQ, capV, ↓reduceIte, Zj, Zk, Nat.reduceAdd, Nat.reduceLT, Nat.reduceEqDiff, Nat.reduceMul, Nat.reduceLeDiff, if_true, Zn, reduceCtorEq, ZA, eq_self, Int.reduceLE, Int.reduceLT, Int.reduceToNat, ne_eq, Nat.reduceSub]
  repeat refine And.intro (by omega) ?_
  repeat refine And.intro (by omega) ?_
  intro g
  simp only [List.map_cons, List.map_nil, updL, upd, Nat.reduceEqDiff, if_true, if_false, ↓reduceIte]
  refine hK _ _ ?_; clear hK K
  refine Cd.condd rfl (fun h1 => ?_) (fun h1 => ?_)
  · have h2 : (left : Int) - l < 0 := by
      by_cases h : (left : Int) - l < 0
      · exact h
      · rw [if_neg h] at h1; omega
    refine Cd.rs [4] fun K hK => ?_
    simp (maxSteps := 2000000) (disch := first | (simp only [E4] <;> omega) | omega | fail) only [↓E2, E3, bare, bareJ, ↓E0, E1, evP, evPlan, env0, envN, evOps, evOp, evQs, evQ, evV, setD, pureOp, ev, upd, updL, gate, binW, eqOp, binV, intOp, shOp, boolOp, unV, convV, nilV, fieldAddrV, indexAddrV, extractV, cellAt, cellsAt, findB, setB, fillL, buildV, Value.cells, lenV, minV, maxV, hav, sliceV, loV, hiV, bslQ, mksQ, appQ, partsOk, partsCells, delB, eqL, SameI, strOp, apzQ, cvtQ, capV, ↓reduceIte, Zj, Zk, Nat.reduceAdd, Nat.reduceLT, Nat.reduceEqDiff, Nat.reduceMul, Nat.reduceLeDiff, if_true, Zn, reduceCtorEq, ZA, eq_self, Int.reduceLE, Int.reduceLT, Int.reduceToNat, ne_eq, Nat.reduceSub]
    repeat refine And.intro (by omega) ?_
    repeat refine And.intro (by omega) ?_
    intro g
    simp only [List.map_cons, List.map_nil, updL, upd, Nat.reduceEqDiff, if_true, if_false, ↓reduceIte]
    refine hK _ _ ?_; clear hK K
    refine Cd.ret (thenR ?_)
    simp (maxSteps := 2000000) (disch := first | (simp only [E4] <;> omega) | omega | fail) only [↓E2, E3, bare, bareJ, ↓E0, E1, evP, evPlan, env0, envN, evOps, evOp, evQs, evQ, evV, setD, pureOp, ev, upd, updL, gate, binW, eqOp, binV, intOp, shOp, boolOp, unV, convV, nilV, fieldAddrV, indexAddrV, extractV, cellAt, cellsAt, findB, setB, fillL, buildV, Value.cells, lenV, minV, maxV, hav, sliceV, loV, hiV, bslQ, mksQ, appQ, partsOk, partsCells, delB, eqL, SameI, strOp, apzQ, cvtQ, capV, ↓reduceIte, Zj, Zk, Nat.reduceAdd, Nat.reduceLT, Nat.reduceEqDiff, Nat.reduceMul, Nat.reduceLeDiff, if_true, Zn, reduceCtorEq, ZA, eq_self, Int.reduceLE, Int.reduceLT, Int.reduceToNat, ne_eq, Nat.reduceSub]
    repeat refine And.intro (by omega) ?_
    rw [if_pos h2]
  · refine Cd.skip ?_
    refine thenN ?_
    refine Cd.rs [4] fun K hK => ?_
    simp (maxSteps := 2000000) (disch := first | (simp only [E4] <;> omega) | omega | fail) only [↓E2, E3, bare, bareJ, ↓E0, E1, evP, evPlan, env0, envN, evOps, evOp, evQs, evQ, evV, setD, pureOp, ev, upd, updL, gate, binW, eqOp, binV, intOp, shOp, boolOp, unV, convV, nilV, fieldAddrV, indexAddrV, extractV, cellAt, cellsAt, findB, setB, fillL, buildV, Value.cells, lenV, minV, maxV, hav, sliceV, loV, hiV, bslQ, mksQ, appQ, partsOk, partsCells, delB, eqL, SameI, strOp, apzQ, cvtQ, capV, ↓reduceIte, Zj, Zk, Nat.reduceAdd, Nat.reduceLT, Nat.reduceEqDiff, Nat.reduceMul, Nat.reduceLeDiff, if_true, Zn, reduceCtorEq, ZA, eq_self, Int.reduceLE, Int.reduceLT, Int.reduceToNat, ne_eq, Nat.reduceSub]
    repeat refine And.intro (by omega) ?_
    repeat refine And.intro (by omega) ?_
    intro g
    simp only [List.map_cons, List.map_nil, updL, upd, Nat.reduceEqDiff, if_true, if_false, ↓reduceIte]
    refine hK _ _ ?_; clear hK K
    refine Cd.ret ?_
    simp (maxSteps := 2000000) (disch := first | (simp only [E4] <;> omega) | omega | fail) only [↓E2, E3, bare, bareJ, ↓E0, E1, evP, evPlan, env0, envN, evOps, evOp, evQs, evQ, evV, setD, pureOp, ev, upd, updL, gate, binW, eqOp, binV, intOp, shOp, boolOp, unV, convV, nilV, fieldAddrV, indexAddrV, extractV, cellAt, cellsAt, findB, setB, fillL, buildV, Value.cells, lenV, minV, maxV, hav, sliceV, loV, hiV, bslQ, mksQ, appQ, partsOk, partsCells, delB, eqL, SameI, strOp, apzQ, cvtQ, capV, ↓reduceIte, Zj, Zk, Nat.reduceAdd, Nat.reduceLT, Nat.reduceEqDiff, Nat.reduceMul, Nat.reduceLeDiff, if_true, Zn, reduceCtorEq, ZA, eq_self, Int.reduceLE, Int.reduceLT, Int.reduceToNat, ne_eq, Nat.reduceSub]
    repeat refine And.intro (by omega) ?_
theorem eqLaurent_c (low : Int) (l : List Int) (R : Rd) (v v' : Value) (h : RdL R low l v) (h' : RdL R low l v') (hb : l.length < 4611686018427387904) : GivesR Try.prog 45 #[v, v'] R (.bool true) := by
  obtain ⟨s, rfl, h⟩ := h
  obtain ⟨s', rfl, h'⟩ := h'
  have he := eqInt64S_c l R s s' h h' hb
  obtain ⟨a, m, cap, rfl, hm, _⟩ := id h
  obtain ⟨a', m', cap', rfl, hm', _⟩ := id h'
  refine GivesR.of (callable_of Try.func45 rfl (by decide)) fun w hR => ?_
  refine acall_of (N := 16) (c := _) (rs := [.tmp 4]) (args := [_, _]) Try.func45 rfl (by decide) rfl rfl (Nat.le_of_ble_eq_true rfl) ?_
  refine Cd.rs [2, 3] fun K hK => ?_
  simp (maxSteps := 2000000) (disch := first | (simp only [E4] <;> omega) | omega | fail) only [↓E2, E3, bare, bareJ, ↓E0, E1, evP, evPlan, env0, envN, evOps, evOp, evQs, evQ, evV, setD, pureOp, ev, upd, updL, gate, binW, eqOp, binV, intOp, shOp, boolOp, unV, convV, nilV, fieldAddrV, indexAddrV, extractV, cellAt, cellsAt, findB, setB, fillL, buildV, Value.cells, lenV, minV, maxV, hav, sliceV, loV, hiV, bslQ, mksQ, appQ, partsOk, partsCells, delB, eqL, SameI, strOp, apzQ, cvtQ, capV, ↓reduceIte, Zj, Zk, Nat.reduceAdd, Nat.reduceLT, Nat.reduceEqDiff, Nat.reduceMul, Nat.reduceLeDiff, if_true, Zn, reduceCtorEq, ZA, eq_self, Int.reduceLE, Int.reduceLT, Int.reduceToNat, ne_eq, Nat.reduceSub]
  repeat refine And.intro (by omega) ?_
  intro b1 hb1
  intro b2 hb2
  have nb2_b1 := hb2.ne
  try simp (maxSteps := 2000000) (disch := first | (simp only [E4, nb2_b1] <;> omega) | omega | fail) only [↓E2, E3, bare, bareJ, ↓E0, E1, evP, evPlan, env0, envN, evOps, evOp, evQs, evQ, evV, setD, pureOp, ev, upd, updL, gate, binW, eqOp, binV, intOp, shOp, boolOp, unV, convV, nilV, fieldAddrV, indexAddrV, extractV, cellAt, cellsAt, findB, setB, fillL, buildV, Value.cells, lenV, minV, maxV, hav, sliceV, loV, hiV, bslQ, mksQ, appQ, partsOk, partsCells, delB, eqL, SameI, strOp, apzQ, cvtQ, capV, ↓reduceIte, Zj, Zk, Nat.reduceAdd, Nat.reduceLT, Nat.reduceEqDiff, Nat.reduceMul, Nat.reduceLeDiff, if_true, Zn, reduceCtorEq, ZA, eq_self, Int.reduceLE, Int.reduceLT, Int.reduceToNat, ne_eq, Nat.reduceSub, nb2_b1]
  repeat refine And.intro (by omega) ?_
  repeat refine And.intro (by omega) ?_
  intro g
  simp only [List.map_cons, List.map_nil, updL, upd, Nat.reduceEqDiff, if_true, if_false, ↓reduceIte]
  refine hK _ _ ?_; clear hK K
  refine Cd.seq ?_
  refine Cd.rs [2, 3, 9] fun K hK => ?_
  simp (maxSteps := 2000000) (disch := first | (simp only [E4, nb2_b1] <;> omega) | omega | fail) only [↓E2, E3, bare, bareJ, ↓E0, E1, evP, evPlan, env0, envN, evOps, evOp, evQs, evQ, evV, setD, pureOp, ev, upd, updL, gate, binW, eqOp, binV, intOp, shOp, boolOp, unV, convV, nilV, fieldAddrV, indexAddrV, extractV, cellAt, cellsAt, findB, setB, fillL, buildV, Value.cells, lenV, minV, maxV, hav, sliceV, loV, hiV, bslQ, mksQ, appQ, partsOk, partsCells, delB, eqL, SameI, strOp, apzQ, cvtQ, capV, ↓reduceIte, Zj, Zk, Nat.reduceAdd, Nat.reduceLT, Nat.reduceEqDiff, Nat.reduceMul, Nat.reduceLeDiff, if_true, Zn, reduceCtorEq, ZA, eq_self, Int.reduceLE, Int.reduceLT, Int.reduceToNat, ne_eq, Nat.reduceSub, Tfld56_0, Tld2, nb2_b1]
  repeat refine And.intro (by omega) ?_
  repeat refine And.intro (by omega) ?_
  intro g
  simp only [List.map_cons, List.map_nil, updL, upd, Nat.reduceEqDiff, if_true, if_false, ↓reduceIte]
  refine hK _ _ ?_; clear hK K
  refine Cd.no rfl ?_
  refine Cd.skip ?_
  refine thenN ?_
  refine Cd.seq ?_
  refine Cd.rs [15] fun K hK => ?_
  simp (maxSteps := 2000000) (disch := first | (simp only [E4, nb2_b1] <;> omega) | omega | fail) only [↓E2, E3, bare, bareJ, ↓E0, E1, evP, evPlan, env0, envN, evOps, evOp, evQs, evQ, evV, setD, pureOp, ev, upd, updL, gate, binW, eqOp, binV, intOp, shOp, boolOp, unV, convV, nilV, fieldAddrV, indexAddrV, extractV, cellAt, cellsAt, findB, setB, fillL, buildV, Value.cells, lenV, minV, maxV, hav, sliceV, loV, hiV, bslQ, mksQ, appQ, partsOk, partsCells, delB, eqL, SameI, strOp, apzQ, cvtQ, capV, ↓reduceIte, Zj, Zk, Nat.reduceAdd, Nat.reduceLT, Nat.reduceEqDiff, Nat.reduceMul, Nat.reduceLeDiff, if_true, Zn, reduceCtorEq, ZA, eq_self, Int.reduceLE, Int.reduceLT, Int.reduceToNat, ne_eq, Nat.reduceSub, Tfld56_1, Tld47, nb2_b1]
  repeat refine And.intro (by omega) ?_
  refine callK_told0 he hR ?_
  simp (maxSteps := 2000000) (disch := first | (simp only [E4, nb2_b1] <;> omega) | omega | fail) only [↓E2, E3, bare, bareJ, ↓E0, E1, evP, evPlan, env0, envN, evOps, evOp, evQs, evQ, evV, setD, pureOp, ev, upd, updL, gate, binW, eqOp, binV, intOp, shOp, boolOp, unV, convV, nilV, fieldAddrV, indexAddrV, extractV, cellAt, cellsAt, findB, setB, fillL, buildV, Value.cells, lenV, minV, maxV, hav, sliceV, loV, hiV, bslQ, mksQ, appQ, partsOk, partsCells, delB, eqL, SameI, strOp, apzQ, cvtQ, capV, ↓reduceIte, Zj, Zk, Nat.reduceAdd, Nat.reduceLT, Nat.reduceEqDiff, Nat.reduceMul, Nat.reduceLeDiff, if_true, Zn, reduceCtorEq, ZA, eq_self, Int.reduceLE, Int.reduceLT, Int.reduceToNat, ne_eq, Nat.reduceSub, Tfld56_1, Tld47, nb2_b1]
  repeat refine And.intro (by omega) ?_
  repeat refine And.intro (by omega) ?_
  intro g
  simp only [List.map_cons, List.map_nil, updL, upd, Nat.reduceEqDiff, if_true, if_false, ↓reduceIte]
  refine hK _ _ ?_; clear hK K
  refine Cd.no rfl ?_
  refine Cd.skip ?_
  refine thenN ?_
  refine Cd.rs [4] fun K hK => ?_
  simp (maxSteps := 2000000) (disch := first | (simp only [E4, nb2_b1] <;> omega) | omega | fail) only [↓E2, E3, bare, bareJ, ↓E0, E1, evP, evPlan, env0, envN, evOps, evOp, evQs, evQ, evV, setD, pureOp, ev, upd, updL, gate, binW, eqOp, binV, intOp, shOp, boolOp, unV, convV, nilV, fieldAddrV, indexAddrV, extractV, cellAt, cellsAt, findB, setB, fillL, buildV, Value.cells, lenV, minV, maxV, hav, sliceV, loV, hiV, bslQ, mksQ, appQ, partsOk, partsCells, delB, eqL, SameI, strOp, apzQ, cvtQ, capV, ↓reduceIte, Zj, Zk, Nat.reduceAdd, Nat.reduceLT, Nat.reduceEqDiff, Nat.reduceMul, Nat.reduceLeDiff, if_true, Zn, reduceCtorEq, ZA, eq_self, Int.reduceLE, Int.reduceLT, Int.reduceToNat, ne_eq, Nat.reduceSub, nb2_b1]
  repeat refine And.intro (by omega) ?_
  repeat refine And.intro (by omega) ?_
  intro g
  simp only [List.map_cons, List.map_nil, updL, upd, Nat.reduceEqDiff, if_true, if_false, ↓reduceIte]
  refine hK _ _ ?_; clear hK K
  refine Cd.ret ?_
  simp (maxSteps := 2000000) (disch := first | (simp only [E4, nb2_b1] <;> omega) | omega | fail) only [↓E2, E3, bare, bareJ, ↓E0, E1, evP, evPlan, env0, envN, evOps, evOp, evQs, evQ, evV, setD, pureOp, ev, upd, updL, gate, binW, eqOp, binV, intOp, shOp, boolOp, unV, convV, nilV, fieldAddrV, indexAddrV, extractV, cellAt, cellsAt, findB, setB, fillL, buildV, Value.cells, lenV, minV, maxV, hav, sliceV, loV, hiV, bslQ, mksQ, appQ, partsOk, partsCells, delB, eqL, SameI, strOp, apzQ, cvtQ, capV, ↓reduceIte, Zj, Zk, Nat.reduceAdd, Nat.reduceLT, Nat.reduceEqDiff, Nat.reduceMul, Nat.reduceLeDiff, if_true, Zn, reduceCtorEq, ZA, eq_self, Int.reduceLE, Int.reduceLT, Int.reduceToNat, ne_eq, Nat.reduceSub, nb2_b1]
  repeat refine And.intro (by omega) ?_
theorem markLaurent_c (low : Int) (l : List Int) (v : Value) (L : Blks) (h : LauV low l v L) (k : Nat) (hb : k + l.length < 4611686018427387904) :
    GivesX Try.prog 46 #[v, .int .i64 (k : Int)] L [] (fun r M' => r = .int .i64 ((k + l.length : Nat) : Int) ∧ LauV low (upK k l.length) v M') := by
  obtain ⟨s, rfl, h⟩ := h
  have hk := markInt64S_c l s L h k hb
  obtain ⟨a, m, cap, rfl⟩ := h.form
  refine GivesX.of (callable_of Try.func46 rfl (by decide)) ?_ fun w hnd hlt hR => ?_
  · simp
  refine acall_of (N := 10) (c := _) (rs := [.tmp 4]) (args := [_, _]) Try.func46 rfl (by decide) rfl rfl (Nat.le_of_ble_eq_true rfl) ?_
  refine Cd.rs [1, 2] fun K hK => ?_
  simp (maxSteps := 2000000) (disch := first | (simp only [E4] <;> omega) | omega | fail) only [↓E2, E3, bare, bareJ, ↓E0, E1, evP, evPlan, env0, envN, evOps, evOp, evQs, evQ, evV, setD, pureOp, ev, upd, updL, gate, binW, eqOp, binV, intOp, shOp, boolOp, unV, convV, nilV, fieldAddrV, indexAddrV, extractV, cellAt, cellsAt, findB, setB, fillL, buildV, Value.cells, lenV, minV, maxV, hav, sliceV, loV, hiV, bslQ, mksQ, appQ, partsOk, partsCells, delB, eqL, SameI, strOp, apzQ, cvtQ, capV, ↓reduceIte, Zj, Zk, Nat.reduceAdd, Nat.reduceLT, Nat.reduceEqDiff, Nat.reduceMul, Nat.reduceLeDiff, if_true, Zn, reduceCtorEq, ZA, eq_self, Int.reduceLE, Int.reduceLT, Int.reduceToNat, ne_eq, Nat.reduceSub]
  repeat refine And.intro (by omega) ?_
  intro b1 hb1
  try simp (maxSteps := 2000000) (disch := first | (simp only [E4] <;> omega) | omega | fail) only [↓E2, E3, bare, bareJ, ↓E0, E1, evP, evPlan, env0, envN, evOps, evOp, evQs, evQ, evV, setD, pureOp, ev, upd, updL, gate, binW, eqOp, binV, intOp, shOp, boolOp, unV, convV, nilV, fieldAddrV, indexAddrV, extractV, cellAt, cellsAt, findB, setB, fillL, buildV, Value.cells, lenV, minV, maxV, hav, sliceV, loV, hiV, bslQ, mksQ, appQ, partsOk, partsCells, delB, eqL, SameI, strOp, apzQ, cvtQ, capV, ↓reduceIte, Zj, Zk, Nat.reduceAdd, Nat.reduceLT, Nat.reduceEqDiff, Nat.reduceMul, Nat.reduceLeDiff, if_true, Zn, reduceCtorEq, ZA, eq_self, Int.reduceLE, Int.reduceLT, Int.reduceToNat, ne_eq, Nat.reduceSub]
  repeat refine And.intro (by omega) ?_
  repeat refine And.intro (by omega) ?_
  intro g
  simp only [List.map_cons, List.map_nil, updL, upd, Nat.reduceEqDiff, if_true, if_false, ↓reduceIte]
  refine hK _ _ ?_; clear hK K
  refine Cd.nodup fun hnd => ?_
  refine Cd.rs [1] fun K hK => ?_
  simp (maxSteps := 2000000) (disch := first | (simp only [E4] <;> omega) | omega | fail) only [↓E2, E3, bare, bareJ, ↓E0, E1, evP, evPlan, env0, envN, evOps, evOp, evQs, evQ, evV, setD, pureOp, ev, upd, updL, gate, binW, eqOp, binV, intOp, shOp, boolOp, unV, convV, nilV, fieldAddrV, indexAddrV, extractV, cellAt, cellsAt, findB, setB, fillL, buildV, Value.cells, lenV, minV, maxV, hav, sliceV, loV, hiV, bslQ, mksQ, appQ, partsOk, partsCells, delB, eqL, SameI, strOp, apzQ, cvtQ, capV, ↓reduceIte, Zj, Zk, Nat.reduceAdd, Nat.reduceLT, Nat.reduceEqDiff, Nat.reduceMul, Nat.reduceLeDiff, if_true, Zn, reduceCtorEq, ZA, eq_self, Int.reduceLE, Int.reduceLT, Int.reduceToNat, ne_eq, Nat.reduceSub, Tfld56_1, Tld47]
  repeat refine And.intro (by omega) ?_
  refine callK_lent0 hk (nodup_cases hnd).2 (fun p hp => List.mem_cons_of_mem _ hp) (Mr := [(b1, [.int .i64 low, .slice a m cap])]) (List.Sublist.cons_cons _ (List.nil_sublist _)) (fun p hp => ?_) (fun _ _ => toldW_nil) ?_
  · rw [List.mem_singleton.1 hp]
    simp only [List.map_cons, List.nodup_cons] at hnd
    exact hnd.1
  rintro v' M' ⟨rfl, hv'⟩ _ _
  simp (maxSteps := 2000000) (disch := first | (simp only [E4] <;> omega) | omega | fail) only [↓E2, E3, bare, bareJ, ↓E0, E1, evP, evPlan, env0, envN, evOps, evOp, evQs, evQ, evV, setD, pureOp, ev, upd, updL, gate, binW, eqOp, binV, intOp, shOp, boolOp, unV, convV, nilV, fieldAddrV, indexAddrV, extractV, cellAt, cellsAt, findB, setB, fillL, buildV, Value.cells, lenV, minV, maxV, hav, sliceV, loV, hiV, bslQ, mksQ, appQ, partsOk, partsCells, delB, eqL, SameI, strOp, apzQ, cvtQ, capV, ↓reduceIte, Zj, Zk, Nat.reduceAdd, Nat.reduceLT, Nat.reduceEqDiff, Nat.reduceMul, Nat.reduceLeDiff, if_true, Zn, reduceCtorEq, ZA, eq_self, Int.reduceLE, Int.reduceLT, Int.reduceToNat, ne_eq, Nat.reduceSub, Tfld56_1, Tld47]
  repeat refine And.intro (by omega) ?_
  repeat refine And.intro (by omega) ?_
  intro g
  simp only [List.map_cons, List.map_nil, updL, upd, Nat.reduceEqDiff, if_true, if_false, ↓reduceIte]
  refine hK _ _ ?_; clear hK K
  refine Cd.drop (List.sublist_append_left _ _) ?_
  refine Cd.rs [4] fun K hK => ?_
  simp (maxSteps := 2000000) (disch := first | (simp only [E4] <;> omega) | omega | fail) only [↓E2, E3, bare, bareJ, ↓E0, E1, evP, evPlan, env0, envN, evOps, evOp, evQs, evQ, evV, setD, pureOp, ev, upd, updL, gate, binW, eqOp, binV, intOp, shOp, boolOp, unV, convV, nilV, fieldAddrV, indexAddrV, extractV, cellAt, cellsAt, findB, setB, fillL, buildV, Value.cells, lenV, minV, maxV, hav, sliceV, loV, hiV, bslQ, mksQ, appQ, partsOk, partsCells, delB, eqL, SameI, strOp, apzQ, cvtQ, capV, ↓reduceIte, Zj, Zk, Nat.reduceAdd, Nat.reduceLT, Nat.reduceEqDiff, Nat.reduceMul, Nat.reduceLeDiff, if_true, Zn, reduceCtorEq, ZA, eq_self, Int.reduceLE, Int.reduceLT, Int.reduceToNat, ne_eq, Nat.reduceSub]
  repeat refine And.intro (by omega) ?_
  repeat refine And.intro (by omega) ?_
  intro g
  simp only [List.map_cons, List.map_nil, updL, upd, Nat.reduceEqDiff, if_true, if_false, ↓reduceIte]
  refine hK _ _ ?_; clear hK K
  refine Cd.ret ?_
  simp (maxSteps := 2000000) (disch := first | (simp only [E4] <;> omega) | omega | fail) only [↓E2, E3, bare, bareJ, ↓E0, E1, evP, evPlan, env0, envN, evOps, evOp, evQs, evQ, evV, setD, pureOp, ev, upd, updL, gate, binW, eqOp, binV, intOp, shOp, boolOp, unV, convV, nilV, fieldAddrV, indexAddrV, extractV, cellAt, cellsAt, findB, setB, fillL, buildV, Value.cells, lenV, minV, maxV, hav, sliceV, loV, hiV, bslQ, mksQ, appQ, partsOk, partsCells, delB, eqL, SameI, strOp, apzQ, cvtQ, capV, ↓reduceIte, Zj, Zk, Nat.reduceAdd, Nat.reduceLT, Nat.reduceEqDiff, Nat.reduceMul, Nat.reduceLeDiff, if_true, Zn, reduceCtorEq, ZA, eq_self, Int.reduceLE, Int.reduceLT, Int.reduceToNat, ne_eq, Nat.reduceSub]
  repeat refine And.intro (by omega) ?_
  exact ⟨_, rfl, hv'⟩
theorem heldLaurent_c (low : Int) (n k : Nat) (v : Value) (R : Rd) (h : RdL R low (upK k n) v) (hb : k + n < 4611686018427387904) :
    GivesR Try.prog 47 #[v, .int .i64 (k : Int)] R (.int .i64 ((k + n : Nat) : Int)) := by
  obtain ⟨s, rfl, h⟩ := h
  have he := heldInt64S_c n k s R h hb
  obtain ⟨a, m, cap, rfl, hm, _⟩ := id h
  refine GivesR.of (callable_of Try.func47 rfl (by decide)) fun w hR => ?_
  refine acall_of (N := 12) (c := _) (rs := [.tmp 4]) (args := [_, _]) Try.func47 rfl (by decide) rfl rfl (Nat.le_of_ble_eq_true rfl) ?_
  refine Cd.rs [1, 2] fun K hK => ?_
  simp (maxSteps := 2000000) (disch := first | (simp only [E4] <;> omega) | omega | fail) only [↓E2, E3, bare, bareJ, ↓E0, E1, evP, evPlan, env0, envN, evOps, evOp, evQs, evQ, evV, setD, pureOp, ev, upd, updL, gate, binW, eqOp, binV, intOp, shOp, boolOp, unV, convV, nilV, fieldAddrV, indexAddrV, extractV, cellAt, cellsAt, findB, setB, fillL, buildV, Value.cells, lenV, minV, maxV, hav, sliceV, loV, hiV, bslQ, mksQ, appQ, partsOk, partsCells, delB, eqL, SameI, strOp, apzQ, cvtQ, capV, ↓reduceIte, Zj, Zk, Nat.reduceAdd, Nat.reduceLT, Nat.reduceEqDiff, Nat.reduceMul, Nat.reduceLeDiff, if_true, Zn, reduceCtorEq, ZA, eq_self, Int.reduceLE, Int.reduceLT, Int.reduceToNat, ne_eq, Nat.reduceSub]
  repeat refine And.intro (by omega) ?_
  intro b1 hb1
  try simp (maxSteps := 2000000) (disch := first | (simp only [E4] <;> omega) | omega | fail) only [↓E2, E3, bare, bareJ, ↓E0, E1, evP, evPlan, env0, envN, evOps, evOp, evQs, evQ, evV, setD, pureOp, ev, upd, updL, gate, binW, eqOp, binV, intOp, shOp, boolOp, unV, convV, nilV, fieldAddrV, indexAddrV, extractV, cellAt, cellsAt, findB, setB, fillL, buildV, Value.cells, lenV, minV, maxV, hav, sliceV, loV, hiV, bslQ, mksQ, appQ, partsOk, partsCells, delB, eqL, SameI, strOp, apzQ, cvtQ, capV, ↓reduceIte, Zj, Zk, Nat.reduceAdd, Nat.reduceLT, Nat.reduceEqDiff, Nat.reduceMul, Nat.reduceLeDiff, if_true, Zn, reduceCtorEq, ZA, eq_self, Int.reduceLE, Int.reduceLT, Int.reduceToNat, ne_eq, Nat.reduceSub]
  repeat refine And.intro (by omega) ?_
  repeat refine And.intro (by omega) ?_
  intro g
  simp only [List.map_cons, List.map_nil, updL, upd, Nat.reduceEqDiff, if_true, if_false, ↓reduceIte]
  refine hK _ _ ?_; clear hK K
  refine Cd.rs [1] fun K hK => ?_
  simp (maxSteps := 2000000) (disch := first | (simp only [E4] <;> omega) | omega | fail) only [↓E2, E3, bare, bareJ, ↓E0, E1, evP, evPlan, env0, envN, evOps, evOp, evQs, evQ, evV, setD, pureOp, ev, upd, updL, gate, binW, eqOp, binV, intOp, shOp, boolOp, unV, convV, nilV, fieldAddrV, indexAddrV, extractV, cellAt, cellsAt, findB, setB, fillL, buildV, Value.cells, lenV, minV, maxV, hav, sliceV, loV, hiV, bslQ, mksQ, appQ, partsOk, partsCells, delB, eqL, SameI, strOp, apzQ, cvtQ, capV, ↓reduceIte, Zj, Zk, Nat.reduceAdd, Nat.reduceLT, Nat.reduceEqDiff, Nat.reduceMul, Nat.reduceLeDiff, if_true, Zn, reduceCtorEq, ZA, eq_self, Int.reduceLE, Int.reduceLT, Int.reduceToNat, ne_eq, Nat.reduceSub, Tfld56_1, Tld47]
  repeat refine And.intro (by omega) ?_
  refine callK_told0 he hR ?_
  simp (maxSteps := 2000000) (disch := first | (simp only [E4] <;> omega) | omega | fail) only [↓E2, E3, bare, bareJ, ↓E0, E1, evP, evPlan, env0, envN, evOps, evOp, evQs, evQ, evV, setD, pureOp, ev, upd, updL, gate, binW, eqOp, binV, intOp, shOp, boolOp, unV, convV, nilV, fieldAddrV, indexAddrV, extractV, cellAt, cellsAt, findB, setB, fillL, buildV, Value.cells, lenV, minV, maxV, hav, sliceV, loV, hiV, bslQ, mksQ, appQ, partsOk, partsCells, delB, eqL, SameI, strOp, apzQ, cvtQ, capV, ↓reduceIte, Zj, Zk, Nat.reduceAdd, Nat.reduceLT, Nat.reduceEqDiff, Nat.reduceMul, Nat.reduceLeDiff, if_true, Zn, reduceCtorEq, ZA, eq_self, Int.reduceLE, Int.reduceLT, Int.reduceToNat, ne_eq, Nat.reduceSub, Tfld56_1, Tld47]
  repeat refine And.intro (by omega) ?_
  repeat refine And.intro (by omega) ?_
  intro g
  simp only [List.map_cons, List.map_nil, updL, upd, Nat.reduceEqDiff, if_true, if_false, ↓reduceIte]
  refine hK _ _ ?_; clear hK K
  refine Cd.seq ?_
  refine Cd.rs [1, 10] fun K hK => ?_
  simp (maxSteps := 2000000) (disch := first | (simp only [E4] <;> omega) | omega | fail) only [↓E2, E3, bare, bareJ, ↓E0, E1, evP, evPlan, env0, envN, evOps, evOp, evQs, evQ, evV, setD, pureOp, ev, upd, updL, gate, binW, eqOp, binV, intOp, shOp, boolOp, unV, convV, nilV, fieldAddrV, indexAddrV, extractV, cellAt, cellsAt, findB, setB, fillL, buildV, Value.cells, lenV, minV, maxV, hav, sliceV, loV, hiV, bslQ, mksQ, appQ, partsOk, partsCells, delB, eqL, SameI, strOp, apzQ, cvtQ, capV, ↓reduceIte, Zj, Zk, Nat.reduceAdd, Nat.reduceLT, Nat.reduceEqDiff, Nat.reduceMul, Nat.reduceLeDiff, if_true, Zn, reduceCtorEq, ZA, eq_self, Int.reduceLE, Int.reduceLT, Int.reduceToNat, ne_eq, Nat.reduceSub]
  repeat refine And.intro (by omega) ?_
  repeat refine And.intro (by omega) ?_
  intro g
  simp only [List.map_cons, List.map_nil, updL, upd, Nat.reduceEqDiff, if_true, if_false, ↓reduceIte]
  refine hK _ _ ?_; clear hK K
  refine Cd.condd rfl (fun h1 => absurd h1 (by omega)) (fun h1 => ?_)
  refine Cd.skip ?_
  refine thenN ?_
  refine Cd.rs [4] fun K hK => ?_
  simp (maxSteps := 2000000) (disch := first | (simp only [E4] <;> omega) | omega | fail) only [↓E2, E3, bare, bareJ, ↓E0, E1, evP, evPlan, env0, envN, evOps, evOp, evQs, evQ, evV, setD, pureOp, ev, upd, updL, gate, binW, eqOp, binV, intOp, shOp, boolOp, unV, convV, nilV, fieldAddrV, indexAddrV, extractV, cellAt, cellsAt, findB, setB, fillL, buildV, Value.cells, lenV, minV, maxV, hav, sliceV, loV, hiV, bslQ, mksQ, appQ, partsOk, partsCells, delB, eqL, SameI, strOp, apzQ, cvtQ, capV, ↓reduceIte, Zj, Zk, Nat.reduceAdd, Nat.reduceLT, Nat.reduceEqDiff, Nat.reduceMul, Nat.reduceLeDiff, if_true, Zn, reduceCtorEq, ZA, eq_self, Int.reduceLE, Int.reduceLT, Int.reduceToNat, ne_eq, Nat.reduceSub]
  repeat refine And.intro (by omega) ?_
  repeat refine And.intro (by omega) ?_
  intro g
  simp only [List.map_cons, List.map_nil, updL, upd, Nat.reduceEqDiff, if_true, if_false, ↓reduceIte]
  refine hK _ _ ?_; clear hK K
  refine Cd.ret ?_
  simp (maxSteps := 2000000) (disch := first | (simp only [E4] <;> omega) | omega | fail) only [↓E2, E3, bare, bareJ, ↓E0, E1, evP, evPlan, env0, envN, evOps, evOp, evQs, evQ, evV, setD, pureOp, ev, upd, updL, gate, binW, eqOp, binV, intOp, shOp, boolOp, unV, convV, nilV, fieldAddrV, indexAddrV, extractV, cellAt, cellsAt, findB, setB, fillL, buildV, Value.cells, lenV, minV, maxV, hav, sliceV, loV, hiV, bslQ, mksQ, appQ, partsOk, partsCells, delB, eqL, SameI, strOp, apzQ, cvtQ, capV, ↓reduceIte, Zj, Zk, Nat.reduceAdd, Nat.reduceLT, Nat.reduceEqDiff, Nat.reduceMul, Nat.reduceLeDiff, if_true, Zn, reduceCtorEq, ZA, eq_self, Int.reduceLE, Int.reduceLT, Int.reduceToNat, ne_eq, Nat.reduceSub]
  repeat refine And.intro (by omega) ?_

end Go.Proofs

/-
  What the functions of this part hand back: each as a plain function of its arguments. Conditions: none.
-/
namespace Go.Proofs
open Go.W8
set_option linter.unusedVariables false
set_option linter.unusedSimpArgs false
set_option linter.unusedSectionVars false
set_option maxRecDepth 8000
set_option maxHeartbeats 4000000
/-- A number of a row that is told. -/
theorem rd_int {W : List Nat} {w0 : World} {R : Rd} {m cap k : Nat} {l : List Int} {a : Option Addr} (h : RdS R 1 (ints .i64 l) (.slice a m cap)) (ht : W8.Told W w0 R) (hk : k < l.length) : ∃ b, a = some ⟨b, 0, none⟩ ∧ frn W w0 b k = some (.int .i64 (l.getD k 0)) := h.get ht (ints_get hk)
theorem lauLen {l : List Int} {m : Nat} (h : (ints .i64 l).length = m * 1) : m = l.length := by
  rw [ints_length] at h; omega

theorem l04Is_c (low : Int) (l : List Int) (R : Rd) (v : Value) (h : RdS R 1 (ints .i64 l) v) (hb : l.length < 4611686018427387904) (hw : -9223372036854775808 ≤ low ∧ low < 9223372036854775808) :
    GivesR Try.prog 121 #[.agg #[.int .i64 low, v]] R (.bool (lauOk low l)) := by
  obtain ⟨a, m, cap, rfl, hm, _⟩ := id h
  obtain rfl := lauLen hm
  refine GivesR.of (callable_of Try.func121 rfl (by decide)) fun w hR => ?_
  refine acall_of (N := 57) (c := _) (rs := [.tmp 2]) (args := [_]) Try.func121 rfl (by decide) rfl rfl (Nat.le_of_ble_eq_true rfl) ?_
  refine Cd.rs [1] fun K hK => ?_
  simp (maxSteps := 2000000) (disch := first | (simp only [E4] <;> omega) | omega | fail) only [↓E2, E3, bare, bareJ, ↓E0, E1, evP, evPlan, env0, envN, evOps, evOp, evQs, evQ, evV, setD, pureOp, ev, upd, updL, gate, binW, eqOp, binV, intOp, shOp, boolOp, unV, convV, nilV, fieldAddrV, indexAddrV, extractV, cellAt, cellsAt, findB, setB, fillL, buildV, Value.cells, lenV, minV, maxV, hav, sliceV, loV, hiV, bslQ, mksQ, appQ, partsOk, partsCells, delB, eqL, SameI, strOp, apzQ, cvtQ, capV, ↓reduceIte, Zj, Zk, Nat.reduceAdd, Nat.reduceLT, Nat.reduceEqDiff, Nat.reduceMul, Nat.reduceLeDiff, if_true, Zn, reduceCtorEq, ZA, eq_self, Int.reduceLE, Int.reduceLT, Int.reduceToNat, ne_eq, Nat.reduceSub]
  repeat refine And.intro (by omega) ?_
  intro b1 hb1
  try simp (maxSteps := 2000000) (disch := first | (simp only [E4] <;> omega) | omega | fail) only [↓E2, E3, bare, bareJ, ↓E0, E1, evP, evPlan, env0, envN, evOps, evOp, evQs, evQ, evV, setD, pureOp, ev, upd, updL, gate, binW, eqOp, binV, intOp, shOp, boolOp, unV, convV, nilV, fieldAddrV, indexAddrV, extractV, cellAt, cellsAt, findB, setB, fillL, buildV, Value.cells, lenV, minV, maxV, hav, sliceV, loV, hiV, bslQ, mksQ, appQ, partsOk, partsCells, delB, eqL, SameI, strOp, apzQ, cvtQ, capV, ↓reduceIte, Zj, Zk, Nat.reduceAdd, Nat.reduceLT, Nat.reduceEqDiff, Nat.reduceMul, Nat.reduceLeDiff, if_true, Zn, reduceCtorEq, ZA, eq_self, Int.reduceLE, Int.reduceLT, Int.reduceToNat, ne_eq, Nat.reduceSub]
  repeat refine And.intro (by omega) ?_
  repeat refine And.intro (by omega) ?_
  intro g
  simp only [List.map_cons, List.map_nil, updL, upd, Nat.reduceEqDiff, if_true, if_false, ↓reduceIte]
  refine hK _ _ ?_; clear hK K
  refine Cd.rs [1, 3] fun K hK => ?_
  simp (maxSteps := 2000000) (disch := first | (simp only [E4] <;> omega) | omega | fail) only [↓E2, E3, bare, bareJ, ↓E0, E1, evP, evPlan, env0, envN, evOps, evOp, evQs, evQ, evV, setD, pureOp, ev, upd, updL, gate, binW, eqOp, binV, intOp, shOp, boolOp, unV, convV, nilV, fieldAddrV, indexAddrV, extractV, cellAt, cellsAt, findB, setB, fillL, buildV, Value.cells, lenV, minV, maxV, hav, sliceV, loV, hiV, bslQ, mksQ, appQ, partsOk, partsCells, delB, eqL, SameI, strOp, apzQ, cvtQ, capV, ↓reduceIte, Zj, Zk, Nat.reduceAdd, Nat.reduceLT, Nat.reduceEqDiff, Nat.reduceMul, Nat.reduceLeDiff, if_true, Zn, reduceCtorEq, ZA, eq_self, Int.reduceLE, Int.reduceLT, Int.reduceToNat, ne_eq, Nat.reduceSub, Tfld56_1, Tld47, Tslce47]
  repeat refine And.intro (by omega) ?_
  repeat refine And.intro (by omega) ?_
  intro g
  simp only [List.map_cons, List.map_nil, updL, upd, Nat.reduceEqDiff, if_true, if_false, ↓reduceIte]
  refine hK _ _ ?_; clear hK K
  refine Cd.seq ?_
  refine Cd.rs [1, 3, 9] fun K hK => ?_
  simp (maxSteps := 2000000) (disch := first | (simp only [E4] <;> omega) | omega | fail) only [↓E2, E3, bare, bareJ, ↓E0, E1, evP, evPlan, env0, envN, evOps, evOp, evQs, evQ, evV, setD, pureOp, ev, upd, updL, gate, binW, eqOp, binV, intOp, shOp, boolOp, unV, convV, nilV, fieldAddrV, indexAddrV, extractV, cellAt, cellsAt, findB, setB, fillL, buildV, Value.cells, lenV, minV, maxV, hav, sliceV, loV, hiV, bslQ, mksQ, appQ, partsOk, partsCells, delB, eqL, SameI, strOp, apzQ, cvtQ, capV, ↓reduceIte, Zj, Zk, Nat.reduceAdd, Nat.reduceLT, Nat.reduceEqDiff, Nat.reduceMul, Nat.reduceLeDiff, if_true, Zn, reduceCtorEq, ZA, eq_self, Int.reduceLE, Int.reduceLT, Int.reduceToNat, ne_eq, Nat.reduceSub]
  repeat refine And.intro (by omega) ?_
  repeat refine And.intro (by omega) ?_
  intro g
  simp only [List.map_cons, List.map_nil, updL, upd, Nat.reduceEqDiff, if_true, if_false, ↓reduceIte]
  refine hK _ _ ?_; clear hK K
  refine Cd.cond rfl (fun h1 => ?_) (fun h1 => ?_)
  · simp only [decide_eq_true_eq, decide_eq_false_iff_not, beq_iff_eq, beq_eq_false_iff_ne, bne_iff_ne, bne_eq_false_iff_eq, Bool.and_eq_true, Bool.or_eq_true, Bool.or_eq_false_iff, Bool.not_eq_true', Bool.not_eq_false', Bool.and_eq_false_imp, ne_eq, gt_iff_lt, ge_iff_le, Int.not_lt, Int.not_le, Classical.not_not] at h1
    refine Cd.rs [2] fun K hK => ?_
    simp (maxSteps := 2000000) (disch := first | (simp only [E4] <;> omega) | omega | fail) only [↓E2, E3, bare, bareJ, ↓E0, E1, evP, evPlan, env0, envN, evOps, evOp, evQs, evQ, evV, setD, pureOp, ev, upd, updL, gate, binW, eqOp, binV, intOp, shOp, boolOp, unV, convV, nilV, fieldAddrV, indexAddrV, extractV, cellAt, cellsAt, findB, setB, fillL, buildV, Value.cells, lenV, minV, maxV, hav, sliceV, loV, hiV, bslQ, mksQ, appQ, partsOk, partsCells, delB, eqL, SameI, strOp, apzQ, cvtQ, capV, ↓reduceIte, Zj, Zk, Nat.reduceAdd, Nat.reduceLT, Nat.reduceEqDiff, Nat.reduceMul, Nat.reduceLeDiff, if_true, Zn, reduceCtorEq, ZA, eq_self, Int.reduceLE, Int.reduceLT, Int.reduceToNat, ne_eq, Nat.reduceSub, Tfld56_0, Tld2]
    repeat refine And.intro (by omega) ?_
    repeat refine And.intro (by omega) ?_
    intro g
    simp only [List.map_cons, List.map_nil, updL, upd, Nat.reduceEqDiff, if_true, if_false, ↓reduceIte]
    refine hK _ _ ?_; clear hK K
    refine Cd.ret (thenR ?_)
    simp (maxSteps := 2000000) (disch := first | (simp only [E4] <;> omega) | omega | fail) only [↓E2, E3, bare, bareJ, ↓E0, E1, evP, evPlan, env0, envN, evOps, evOp, evQs, evQ, evV, setD, pureOp, ev, upd, updL, gate, binW, eqOp, binV, intOp, shOp, boolOp, unV, convV, nilV, fieldAddrV, indexAddrV, extractV, cellAt, cellsAt, findB, setB, fillL, buildV, Value.cells, lenV, minV, maxV, hav, sliceV, loV, hiV, bslQ, mksQ, appQ, partsOk, partsCells, delB, eqL, SameI, strOp, apzQ, cvtQ, capV, ↓reduceIte, Zj, Zk, Nat.reduceAdd, Nat.reduceLT, Nat.reduceEqDiff, Nat.reduceMul, Nat.reduceLeDiff, if_true, Zn, reduceCtorEq, ZA, eq_self, Int.reduceLE, Int.reduceLT, Int.reduceToNat, ne_eq, Nat.reduceSub]
    repeat refine And.intro (by omega) ?_
    rw [lauOk_zero (by omega)]
    congr 1
  · simp only [decide_eq_true_eq, decide_eq_false_iff_not, beq_iff_eq, beq_eq_false_iff_ne, bne_iff_ne, bne_eq_false_iff_eq, Bool.and_eq_true, Bool.or_eq_true, Bool.or_eq_false_iff, Bool.not_eq_true', Bool.not_eq_false', Bool.and_eq_false_imp, ne_eq, gt_iff_lt, ge_iff_le, Int.not_lt, Int.not_le, Classical.not_not] at h1
    have hlast : l.length - 1 < l.length := by omega
    obtain ⟨b, rfl, q0⟩ := rd_int h hR (k := 0) (by omega)
    obtain ⟨_, e, ql⟩ := rd_int h hR hlast
    cases e
    have n1 := told_ne hb1 q0
    refine Cd.skip ?_
    refine thenN ?_
    refine Cd.seq ?_
    skip
    have e1 : ((l.length : Int) - 1).toNat = l.length - 1 := by omega
    skip
    refine Cd.rs [1, 3, 44] fun K hK => ?_
    simp (maxSteps := 2000000) (disch := first | (simp only [E4, q0, ql, n1, e1] <;> omega) | omega | fail) only [↓E2, E3, bare, bareJ, ↓E0, E1, evP, evPlan, env0, envN, evOps, evOp, evQs, evQ, evV, setD, pureOp, ev, upd, updL, gate, binW, eqOp, binV, intOp, shOp, boolOp, unV, convV, nilV, fieldAddrV, indexAddrV, extractV, cellAt, cellsAt, findB, setB, fillL, buildV, Value.cells, lenV, minV, maxV, hav, sliceV, loV, hiV, bslQ, mksQ, appQ, partsOk, partsCells, delB, eqL, SameI, strOp, apzQ, cvtQ, capV, ↓reduceIte, Zj, Zk, Nat.reduceAdd, Nat.reduceLT, Nat.reduceEqDiff, Nat.reduceMul, Nat.reduceLeDiff, if_true, Zn, reduceCtorEq, ZA, eq_self, Int.reduceLE, Int.reduceLT, Int.reduceToNat, ne_eq, Nat.reduceSub, Tfld56_0, Tfld56_1, Tld2, Tld47, Tslc47, q0, ql, n1, e1]
    repeat refine And.intro (by omega) ?_
    apply guardX_or 4 [16, 17, 18, 19] (j := 2) (d := 15) (tp := 20) (tl := 19) rfl rfl rfl rfl rfl
    · intro hq
      simp (maxSteps := 2000000) (disch := first | (simp only [E4, q0, ql, n1, e1] <;> omega) | omega | fail) only [↓E2, E3, bare, bareJ, ↓E0, E1, evP, evPlan, env0, envN, evOps, evOp, evQs, evQ, evV, setD, pureOp, ev, upd, updL, gate, binW, eqOp, binV, intOp, shOp, boolOp, unV, convV, nilV, fieldAddrV, indexAddrV, extractV, cellAt, cellsAt, findB, setB, fillL, buildV, Value.cells, lenV, minV, maxV, hav, sliceV, loV, hiV, bslQ, mksQ, appQ, partsOk, partsCells, delB, eqL, SameI, strOp, apzQ, cvtQ, capV, ↓reduceIte, Zj, Zk, Nat.reduceAdd, Nat.reduceLT, Nat.reduceEqDiff, Nat.reduceMul, Nat.reduceLeDiff, if_true, Zn, reduceCtorEq, ZA, eq_self, Int.reduceLE, Int.reduceLT, Int.reduceToNat, ne_eq, Nat.reduceSub, Tfld56_0, Tfld56_1, Tld2, Tld47, Tslc47, q0, ql, n1, e1]
      repeat refine And.intro (by omega) ?_
      refine callK_gives (l01In_c _ _ _) ?_
      simp (maxSteps := 2000000) (disch := first | (simp only [E4, q0, ql, n1, e1] <;> omega) | omega | fail) only [↓E2, E3, bare, bareJ, ↓E0, E1, evP, evPlan, env0, envN, evOps, evOp, evQs, evQ, evV, setD, pureOp, ev, upd, updL, gate, binW, eqOp, binV, intOp, shOp, boolOp, unV, convV, nilV, fieldAddrV, indexAddrV, extractV, cellAt, cellsAt, findB, setB, fillL, buildV, Value.cells, lenV, minV, maxV, hav, sliceV, loV, hiV, bslQ, mksQ, appQ, partsOk, partsCells, delB, eqL, SameI, strOp, apzQ, cvtQ, capV, ↓reduceIte, Zj, Zk, Nat.reduceAdd, Nat.reduceLT, Nat.reduceEqDiff, Nat.reduceMul, Nat.reduceLeDiff, if_true, Zn, reduceCtorEq, ZA, eq_self, Int.reduceLE, Int.reduceLT, Int.reduceToNat, ne_eq, Nat.reduceSub, Tfld56_0, Tfld56_1, Tld2, Tld47, Tslc47, q0, ql, n1, e1]
      repeat refine And.intro (by omega) ?_
      exact rfl
    intro g
    simp (maxSteps := 2000000) (disch := first | (simp only [E4, q0, ql, n1, e1] <;> omega) | omega | fail) only [↓E2, E3, bare, bareJ, ↓E0, E1, evP, evPlan, env0, envN, evOps, evOp, evQs, evQ, evV, setD, pureOp, ev, upd, updL, gate, binW, eqOp, binV, intOp, shOp, boolOp, unV, convV, nilV, fieldAddrV, indexAddrV, extractV, cellAt, cellsAt, findB, setB, fillL, buildV, Value.cells, lenV, minV, maxV, hav, sliceV, loV, hiV, bslQ, mksQ, appQ, partsOk, partsCells, delB, eqL, SameI, strOp, apzQ, cvtQ, capV, ↓reduceIte, Zj, Zk, Nat.reduceAdd, Nat.reduceLT, Nat.reduceEqDiff, Nat.reduceMul, Nat.reduceLeDiff, if_true, Zn, reduceCtorEq, ZA, eq_self, Int.reduceLE, Int.reduceLT, Int.reduceToNat, ne_eq, Nat.reduceSub, Tfld56_0, Tfld56_1, Tld2, Tld47, Tslc47, q0, ql, n1, e1]
    repeat refine And.intro (by omega) ?_
    apply guardX_or 6 [22, 23, 24, 25, 26, 27] (j := 8) (d := 21) (tp := 28) (tl := 27) rfl rfl rfl rfl rfl
    · intro hq
      simp only [decide_eq_true_eq, decide_eq_false_iff_not, beq_iff_eq, beq_eq_false_iff_ne, bne_iff_ne, bne_eq_false_iff_eq, Bool.and_eq_true, Bool.or_eq_true, Bool.or_eq_false_iff, Bool.not_eq_true', Bool.not_eq_false', Bool.and_eq_false_imp, ne_eq, gt_iff_lt, ge_iff_le, Int.not_lt, Int.not_le, Classical.not_not] at hq
      simp (maxSteps := 2000000) (disch := first | (simp only [E4, q0, ql, n1, e1] <;> omega) | omega | fail) only [↓E2, E3, bare, bareJ, ↓E0, E1, evP, evPlan, env0, envN, evOps, evOp, evQs, evQ, evV, setD, pureOp, ev, upd, updL, gate, binW, eqOp, binV, intOp, shOp, boolOp, unV, convV, nilV, fieldAddrV, indexAddrV, extractV, cellAt, cellsAt, findB, setB, fillL, buildV, Value.cells, lenV, minV, maxV, hav, sliceV, loV, hiV, bslQ, mksQ, appQ, partsOk, partsCells, delB, eqL, SameI, strOp, apzQ, cvtQ, capV, ↓reduceIte, Zj, Zk, Nat.reduceAdd, Nat.reduceLT, Nat.reduceEqDiff, Nat.reduceMul, Nat.reduceLeDiff, if_true, Zn, reduceCtorEq, ZA, eq_self, Int.reduceLE, Int.reduceLT, Int.reduceToNat, ne_eq, Nat.reduceSub, Tfld56_0, Tfld56_1, Tld2, Tld47, Tslc47, q0, ql, n1, e1]
      repeat refine And.intro (by omega) ?_
      exact rfl
    intro g
    simp (maxSteps := 2000000) (disch := first | (simp only [E4, q0, ql, n1, e1] <;> omega) | omega | fail) only [↓E2, E3, bare, bareJ, ↓E0, E1, evP, evPlan, env0, envN, evOps, evOp, evQs, evQ, evV, setD, pureOp, ev, upd, updL, gate, binW, eqOp, binV, intOp, shOp, boolOp, unV, convV, nilV, fieldAddrV, indexAddrV, extractV, cellAt, cellsAt, findB, setB, fillL, buildV, Value.cells, lenV, minV, maxV, hav, sliceV, loV, hiV, bslQ, mksQ, appQ, partsOk, partsCells, delB, eqL, SameI, strOp, apzQ, cvtQ, capV, ↓reduceIte, Zj, Zk, Nat.reduceAdd, Nat.reduceLT, Nat.reduceEqDiff, Nat.reduceMul, Nat.reduceLeDiff, if_true, Zn, reduceCtorEq, ZA, eq_self, Int.reduceLE, Int.reduceLT, Int.reduceToNat, ne_eq, Nat.reduceSub, Tfld56_0, Tfld56_1, Tld2, Tld47, Tslc47, q0, ql, n1, e1]
    repeat refine And.intro (by omega) ?_
    apply guardX_or 5 [30, 31, 32, 33, 34] (j := 16) (d := 29) (tp := 35) (tl := 34) rfl rfl rfl rfl rfl
    · intro hq
      simp (maxSteps := 2000000) (disch := first | (simp only [E4, q0, ql, n1, e1] <;> omega) | omega | fail) only [↓E2, E3, bare, bareJ, ↓E0, E1, evP, evPlan, env0, envN, evOps, evOp, evQs, evQ, evV, setD, pureOp, ev, upd, updL, gate, binW, eqOp, binV, intOp, shOp, boolOp, unV, convV, nilV, fieldAddrV, indexAddrV, extractV, cellAt, cellsAt, findB, setB, fillL, buildV, Value.cells, lenV, minV, maxV, hav, sliceV, loV, hiV, bslQ, mksQ, appQ, partsOk, partsCells, delB, eqL, SameI, strOp, apzQ, cvtQ, capV, ↓reduceIte, Zj, Zk, Nat.reduceAdd, Nat.reduceLT, Nat.reduceEqDiff, Nat.reduceMul, Nat.reduceLeDiff, if_true, Zn, reduceCtorEq, ZA, eq_self, Int.reduceLE, Int.reduceLT, Int.reduceToNat, ne_eq, Nat.reduceSub, Tfld56_0, Tfld56_1, Tld2, Tld47, Tslc47, q0, ql, n1, e1]
      repeat refine And.intro (by omega) ?_
      exact rfl
    intro g
    simp (maxSteps := 2000000) (disch := first | (simp only [E4, q0, ql, n1, e1] <;> omega) | omega | fail) only [↓E2, E3, bare, bareJ, ↓E0, E1, evP, evPlan, env0, envN, evOps, evOp, evQs, evQ, evV, setD, pureOp, ev, upd, updL, gate, binW, eqOp, binV, intOp, shOp, boolOp, unV, convV, nilV, fieldAddrV, indexAddrV, extractV, cellAt, cellsAt, findB, setB, fillL, buildV, Value.cells, lenV, minV, maxV, hav, sliceV, loV, hiV, bslQ, mksQ, appQ, partsOk, partsCells, delB, eqL, SameI, strOp, apzQ, cvtQ, capV, ↓reduceIte, Zj, Zk, Nat.reduceAdd, Nat.reduceLT, Nat.reduceEqDiff, Nat.reduceMul, Nat.reduceLeDiff, if_true, Zn, reduceCtorEq, ZA, eq_self, Int.reduceLE, Int.reduceLT, Int.reduceToNat, ne_eq, Nat.reduceSub, Tfld56_0, Tfld56_1, Tld2, Tld47, Tslc47, q0, ql, n1, e1]
    repeat refine And.intro (by omega) ?_
    apply guardX_or 7 [37, 38, 39, 40, 41, 42, 43] (j := 23) (d := 36) (tp := 44) (tl := 43) rfl rfl rfl rfl rfl
    · intro hq
      simp (maxSteps := 2000000) (disch := first | (simp only [E4, q0, ql, n1, e1] <;> omega) | omega | fail) only [↓E2, E3, bare, bareJ, ↓E0, E1, evP, evPlan, env0, envN, evOps, evOp, evQs, evQ, evV, setD, pureOp, ev, upd, updL, gate, binW, eqOp, binV, intOp, shOp, boolOp, unV, convV, nilV, fieldAddrV, indexAddrV, extractV, cellAt, cellsAt, findB, setB, fillL, buildV, Value.cells, lenV, minV, maxV, hav, sliceV, loV, hiV, bslQ, mksQ, appQ, partsOk, partsCells, delB, eqL, SameI, strOp, apzQ, cvtQ, capV, ↓reduceIte, Zj, Zk, Nat.reduceAdd, Nat.reduceLT, Nat.reduceEqDiff, Nat.reduceMul, Nat.reduceLeDiff, if_true, Zn, reduceCtorEq, ZA, eq_self, Int.reduceLE, Int.reduceLT, Int.reduceToNat, ne_eq, Nat.reduceSub, Tfld56_0, Tfld56_1, Tld2, Tld47, Tslc47, q0, ql, n1, e1]
      repeat refine And.intro (by omega) ?_
      exact rfl
    intro g
    simp (maxSteps := 2000000) (disch := first | (simp only [E4, q0, ql, n1, e1] <;> omega) | omega | fail) only [↓E2, E3, bare, bareJ, ↓E0, E1, evP, evPlan, env0, envN, evOps, evOp, evQs, evQ, evV, setD, pureOp, ev, upd, updL, gate, binW, eqOp, binV, intOp, shOp, boolOp, unV, convV, nilV, fieldAddrV, indexAddrV, extractV, cellAt, cellsAt, findB, setB, fillL, buildV, Value.cells, lenV, minV, maxV, hav, sliceV, loV, hiV, bslQ, mksQ, appQ, partsOk, partsCells, delB, eqL, SameI, strOp, apzQ, cvtQ, capV, ↓reduceIte, Zj, Zk, Nat.reduceAdd, Nat.reduceLT, Nat.reduceEqDiff, Nat.reduceMul, Nat.reduceLeDiff, if_true, Zn, reduceCtorEq, ZA, eq_self, Int.reduceLE, Int.reduceLT, Int.reduceToNat, ne_eq, Nat.reduceSub, Tfld56_0, Tfld56_1, Tld2, Tld47, Tslc47, q0, ql, n1, e1]
    repeat refine And.intro (by omega) ?_
    repeat refine And.intro (by omega) ?_
    intro g
    simp only [List.map_cons, List.map_nil, updL, upd, Nat.reduceEqDiff, if_true, if_false, ↓reduceIte]
    refine hK _ _ ?_; clear hK K
    refine Cd.cond rfl (fun h2 => ?_) (fun h2 => ?_)
    · refine Cd.rs [2] fun K hK => ?_
      simp (maxSteps := 2000000) (disch := first | (simp only [E4, q0, ql, n1, e1] <;> omega) | omega | fail) only [↓E2, E3, bare, bareJ, ↓E0, E1, evP, evPlan, env0, envN, evOps, evOp, evQs, evQ, evV, setD, pureOp, ev, upd, updL, gate, binW, eqOp, binV, intOp, shOp, boolOp, unV, convV, nilV, fieldAddrV, indexAddrV, extractV, cellAt, cellsAt, findB, setB, fillL, buildV, Value.cells, lenV, minV, maxV, hav, sliceV, loV, hiV, bslQ, mksQ, appQ, partsOk, partsCells, delB, eqL, SameI, strOp, apzQ, cvtQ, capV, ↓reduceIte, Zj, Zk, Nat.reduceAdd, Nat.reduceLT, Nat.reduceEqDiff, Nat.reduceMul, Nat.reduceLeDiff, if_true, Zn, reduceCtorEq, ZA, eq_self, Int.reduceLE, Int.reduceLT, Int.reduceToNat, ne_eq, Nat.reduceSub, q0, ql, n1, e1]
      repeat refine And.intro (by omega) ?_
      repeat refine And.intro (by omega) ?_
      intro g
      simp only [List.map_cons, List.map_nil, updL, upd, Nat.reduceEqDiff, if_true, if_false, ↓reduceIte]
      refine hK _ _ ?_; clear hK K
      refine Cd.ret (thenR ?_)
      simp (maxSteps := 2000000) (disch := first | (simp only [E4, q0, ql, n1, e1] <;> omega) | omega | fail) only [↓E2, E3, bare, bareJ, ↓E0, E1, evP, evPlan, env0, envN, evOps, evOp, evQs, evQ, evV, setD, pureOp, ev, upd, updL, gate, binW, eqOp, binV, intOp, shOp, boolOp, unV, convV, nilV, fieldAddrV, indexAddrV, extractV, cellAt, cellsAt, findB, setB, fillL, buildV, Value.cells, lenV, minV, maxV, hav, sliceV, loV, hiV, bslQ, mksQ, appQ, partsOk, partsCells, delB, eqL, SameI, strOp, apzQ, cvtQ, capV, ↓reduceIte, Zj, Zk, Nat.reduceAdd, Nat.reduceLT, Nat.reduceEqDiff, Nat.reduceMul, Nat.reduceLeDiff, if_true, Zn, reduceCtorEq, ZA, eq_self, Int.reduceLE, Int.reduceLT, Int.reduceToNat, ne_eq, Nat.reduceSub, q0, ql, n1, e1]
      repeat refine And.intro (by omega) ?_
      rw [lauOk_pre (by omega), h2]
      rfl
    · refine Cd.skip ?_
      refine thenN ?_
      refine Cd.seq ?_
      refine Cd.rs [1, 3, 4] fun K hK => ?_
      simp (maxSteps := 2000000) (disch := first | (simp only [E4, q0, ql, n1, e1] <;> omega) | omega | fail) only [↓E2, E3, bare, bareJ, ↓E0, E1, evP, evPlan, env0, envN, evOps, evOp, evQs, evQ, evV, setD, pureOp, ev, upd, updL, gate, binW, eqOp, binV, intOp, shOp, boolOp, unV, convV, nilV, fieldAddrV, indexAddrV, extractV, cellAt, cellsAt, findB, setB, fillL, buildV, Value.cells, lenV, minV, maxV, hav, sliceV, loV, hiV, bslQ, mksQ, appQ, partsOk, partsCells, delB, eqL, SameI, strOp, apzQ, cvtQ, capV, ↓reduceIte, Zj, Zk, Nat.reduceAdd, Nat.reduceLT, Nat.reduceEqDiff, Nat.reduceMul, Nat.reduceLeDiff, if_true, Zn, reduceCtorEq, ZA, eq_self, Int.reduceLE, Int.reduceLT, Int.reduceToNat, ne_eq, Nat.reduceSub, q0, ql, n1, e1]
      repeat refine And.intro (by omega) ?_
      repeat refine And.intro (by omega) ?_
      intro g
      simp only [List.map_cons, List.map_nil, updL, upd, Nat.reduceEqDiff, if_true, if_false, ↓reduceIte]
      refine hK _ _ ?_; clear hK K
      refine Cd.block ?_
      refine Cd.loop (fun q ρ M => ∃ g k, k + q = l.length ∧ (l.take k).all coOk = true ∧ ρ = updL [(1, .pointer (some ⟨b1, 0, none⟩)), (3, .int .i64 (l.length : Int)), (4, .int .i64 (k : Int))] g ∧ M = [(b1, [.int .i64 low, .slice (some ⟨b, 0, none⟩) l.length cap])]) l.length ⟨_, 0, Nat.zero_add _, rfl, rfl, rfl⟩ ?_
      rintro q ρ M ⟨g, k, hk, hall, rfl, rfl⟩
      refine Cd.seq ?_
      refine Cd.rs [1, 3, 4, 47] fun K hK => ?_
      simp (maxSteps := 2000000) (disch := first | (simp only [E4, q0, ql, n1, e1] <;> omega) | omega | fail) only [↓E2, E3, bare, bareJ, ↓E0, E1, evP, evPlan, env0, envN, evOps, evOp, evQs, evQ, evV, setD, pureOp, ev, upd, updL, gate, binW, eqOp, binV, intOp, shOp, boolOp, unV, convV, nilV, fieldAddrV, indexAddrV, extractV, cellAt, cellsAt, findB, setB, fillL, buildV, Value.cells, lenV, minV, maxV, hav, sliceV, loV, hiV, bslQ, mksQ, appQ, partsOk, partsCells, delB, eqL, SameI, strOp, apzQ, cvtQ, capV, ↓reduceIte, Zj, Zk, Nat.reduceAdd, Nat.reduceLT, Nat.reduceEqDiff, Nat.reduceMul, Nat.reduceLeDiff, if_true, Zn, reduceCtorEq, ZA, eq_self, Int.reduceLE, Int.reduceLT, Int.reduceToNat, ne_eq, Nat.reduceSub, q0, ql, n1, e1]
      repeat refine And.intro (by omega) ?_
      repeat refine And.intro (by omega) ?_
      intro g
      simp only [List.map_cons, List.map_nil, updL, upd, Nat.reduceEqDiff, if_true, if_false, ↓reduceIte]
      refine hK _ _ ?_; clear hK K
      refine Cd.condd rfl (fun h3 => ?_) (fun h3 => ?_)
      · obtain ⟨_, e, qk⟩ := rd_int h hR (k := k) (by omega)
        cases e
        refine Cd.skip ?_
        refine thenN ?_
        refine Cd.seq ?_
        refine Cd.block ?_
        skip
        refine Cd.rs [1, 3, 4, 56] fun K hK => ?_
        simp (maxSteps := 2000000) (disch := first | (simp only [E4, q0, ql, n1, e1, qk] <;> omega) | omega | fail) only [↓E2, E3, bare, bareJ, ↓E0, E1, evP, evPlan, env0, envN, evOps, evOp, evQs, evQ, evV, setD, pureOp, ev, upd, updL, gate, binW, eqOp, binV, intOp, shOp, boolOp, unV, convV, nilV, fieldAddrV, indexAddrV, extractV, cellAt, cellsAt, findB, setB, fillL, buildV, Value.cells, lenV, minV, maxV, hav, sliceV, loV, hiV, bslQ, mksQ, appQ, partsOk, partsCells, delB, eqL, SameI, strOp, apzQ, cvtQ, capV, ↓reduceIte, Zj, Zk, Nat.reduceAdd, Nat.reduceLT, Nat.reduceEqDiff, Nat.reduceMul, Nat.reduceLeDiff, if_true, Zn, reduceCtorEq, ZA, eq_self, Int.reduceLE, Int.reduceLT, Int.reduceToNat, ne_eq, Nat.reduceSub, Tfld56_1, Tld2, Tld47, Tslc47, q0, ql, n1, e1, qk]
        repeat refine And.intro (by omega) ?_
        refine callK_gives (l01In_c _ _ _) ?_
        simp (maxSteps := 2000000) (disch := first | (simp only [E4, q0, ql, n1, e1, qk] <;> omega) | omega | fail) only [↓E2, E3, bare, bareJ, ↓E0, E1, evP, evPlan, env0, envN, evOps, evOp, evQs, evQ, evV, setD, pureOp, ev, upd, updL, gate, binW, eqOp, binV, intOp, shOp, boolOp, unV, convV, nilV, fieldAddrV, indexAddrV, extractV, cellAt, cellsAt, findB, setB, fillL, buildV, Value.cells, lenV, minV, maxV, hav, sliceV, loV, hiV, bslQ, mksQ, appQ, partsOk, partsCells, delB, eqL, SameI, strOp, apzQ, cvtQ, capV, ↓reduceIte, Zj, Zk, Nat.reduceAdd, Nat.reduceLT, Nat.reduceEqDiff, Nat.reduceMul, Nat.reduceLeDiff, if_true, Zn, reduceCtorEq, ZA, eq_self, Int.reduceLE, Int.reduceLT, Int.reduceToNat, ne_eq, Nat.reduceSub, Tfld56_1, Tld2, Tld47, Tslc47, q0, ql, n1, e1, qk]
        repeat refine And.intro (by omega) ?_
        repeat refine And.intro (by omega) ?_
        intro g
        simp only [List.map_cons, List.map_nil, updL, upd, Nat.reduceEqDiff, if_true, if_false, ↓reduceIte]
        refine hK _ _ ?_; clear hK K
        refine Cd.cond rfl (fun h4 => ?_) (fun h4 => ?_)
        · refine Cd.rs [2] fun K hK => ?_
          simp (maxSteps := 2000000) (disch := first | (simp only [E4, q0, ql, n1, e1, qk] <;> omega) | omega | fail) only [↓E2, E3, bare, bareJ, ↓E0, E1, evP, evPlan, env0, envN, evOps, evOp, evQs, evQ, evV, setD, pureOp, ev, upd, updL, gate, binW, eqOp, binV, intOp, shOp, boolOp, unV, convV, nilV, fieldAddrV, indexAddrV, extractV, cellAt, cellsAt, findB, setB, fillL, buildV, Value.cells, lenV, minV, maxV, hav, sliceV, loV, hiV, bslQ, mksQ, appQ, partsOk, partsCells, delB, eqL, SameI, strOp, apzQ, cvtQ, capV, ↓reduceIte, Zj, Zk, Nat.reduceAdd, Nat.reduceLT, Nat.reduceEqDiff, Nat.reduceMul, Nat.reduceLeDiff, if_true, Zn, reduceCtorEq, ZA, eq_self, Int.reduceLE, Int.reduceLT, Int.reduceToNat, ne_eq, Nat.reduceSub, q0, ql, n1, e1, qk]
          repeat refine And.intro (by omega) ?_
          repeat refine And.intro (by omega) ?_
          intro g
          simp only [List.map_cons, List.map_nil, updL, upd, Nat.reduceEqDiff, if_true, if_false, ↓reduceIte]
          refine hK _ _ ?_; clear hK K
          refine Cd.ret (inBR (thenR (roundR (inBR (thenR ?_)))))
          simp (maxSteps := 2000000) (disch := first | (simp only [E4, q0, ql, n1, e1, qk] <;> omega) | omega | fail) only [↓E2, E3, bare, bareJ, ↓E0, E1, evP, evPlan, env0, envN, evOps, evOp, evQs, evQ, evV, setD, pureOp, ev, upd, updL, gate, binW, eqOp, binV, intOp, shOp, boolOp, unV, convV, nilV, fieldAddrV, indexAddrV, extractV, cellAt, cellsAt, findB, setB, fillL, buildV, Value.cells, lenV, minV, maxV, hav, sliceV, loV, hiV, bslQ, mksQ, appQ, partsOk, partsCells, delB, eqL, SameI, strOp, apzQ, cvtQ, capV, ↓reduceIte, Zj, Zk, Nat.reduceAdd, Nat.reduceLT, Nat.reduceEqDiff, Nat.reduceMul, Nat.reduceLeDiff, if_true, Zn, reduceCtorEq, ZA, eq_self, Int.reduceLE, Int.reduceLT, Int.reduceToNat, ne_eq, Nat.reduceSub, q0, ql, n1, e1, qk]
          repeat refine And.intro (by omega) ?_
          rw [lauOk_pre (by omega), all_false (k := k) (p := coOk) (by have h5 : (!coOk (l.getD k 0)) = true := h4; simpa using h5) (by omega), Bool.and_false]
        · refine Cd.skip ?_
          refine inBN ?_
          refine thenN ?_
          refine Cd.rr [1, 3, 4] fun K hK => ?_
          simp (maxSteps := 2000000) (disch := first | (simp only [E4, q0, ql, n1, e1, qk] <;> omega) | omega | fail) only [↓E2, E3, bare, bareJ, ↓E0, E1, evP, evPlan, env0, envN, evOps, evOp, evQs, evQ, evV, setD, pureOp, ev, upd, updL, gate, binW, eqOp, binV, intOp, shOp, boolOp, unV, convV, nilV, fieldAddrV, indexAddrV, extractV, cellAt, cellsAt, findB, setB, fillL, buildV, Value.cells, lenV, minV, maxV, hav, sliceV, loV, hiV, bslQ, mksQ, appQ, partsOk, partsCells, delB, eqL, SameI, strOp, apzQ, cvtQ, capV, ↓reduceIte, Zj, Zk, Nat.reduceAdd, Nat.reduceLT, Nat.reduceEqDiff, Nat.reduceMul, Nat.reduceLeDiff, if_true, Zn, reduceCtorEq, ZA, eq_self, Int.reduceLE, Int.reduceLT, Int.reduceToNat, ne_eq, Nat.reduceSub, q0, ql, n1, e1, qk]
          repeat refine And.intro (by omega) ?_
          repeat refine And.intro (by omega) ?_
          intro g
          simp only [List.map_cons, List.map_nil, updL, upd, Nat.reduceEqDiff, if_true, if_false, ↓reduceIte]
          refine hK _ _ ?_; clear hK K
          exact roundN (m := q - 1) (by omega) ⟨_, k + 1, by omega, by rw [all_upto hall (by omega)]; have h5 : (!coOk (l.getD k 0)) = false := h4; simpa using h5, rfl, rfl⟩
      · refine Cd.exit (thenX (roundX (inBX ?_)))
        refine thenN ?_
        refine Cd.rs [2] fun K hK => ?_
        simp (maxSteps := 2000000) (disch := first | (simp only [E4, q0, ql, n1, e1] <;> omega) | omega | fail) only [↓E2, E3, bare, bareJ, ↓E0, E1, evP, evPlan, env0, envN, evOps, evOp, evQs, evQ, evV, setD, pureOp, ev, upd, updL, gate, binW, eqOp, binV, intOp, shOp, boolOp, unV, convV, nilV, fieldAddrV, indexAddrV, extractV, cellAt, cellsAt, findB, setB, fillL, buildV, Value.cells, lenV, minV, maxV, hav, sliceV, loV, hiV, bslQ, mksQ, appQ, partsOk, partsCells, delB, eqL, SameI, strOp, apzQ, cvtQ, capV, ↓reduceIte, Zj, Zk, Nat.reduceAdd, Nat.reduceLT, Nat.reduceEqDiff, Nat.reduceMul, Nat.reduceLeDiff, if_true, Zn, reduceCtorEq, ZA, eq_self, Int.reduceLE, Int.reduceLT, Int.reduceToNat, ne_eq, Nat.reduceSub, q0, ql, n1, e1]
        repeat refine And.intro (by omega) ?_
        repeat refine And.intro (by omega) ?_
        intro g
        simp only [List.map_cons, List.map_nil, updL, upd, Nat.reduceEqDiff, if_true, if_false, ↓reduceIte]
        refine hK _ _ ?_; clear hK K
        refine Cd.ret ?_
        simp (maxSteps := 2000000) (disch := first | (simp only [E4, q0, ql, n1, e1] <;> omega) | omega | fail) only [↓E2, E3, bare, bareJ, ↓E0, E1, evP, evPlan, env0, envN, evOps, evOp, evQs, evQ, evV, setD, pureOp, ev, upd, updL, gate, binW, eqOp, binV, intOp, shOp, boolOp, unV, convV, nilV, fieldAddrV, indexAddrV, extractV, cellAt, cellsAt, findB, setB, fillL, buildV, Value.cells, lenV, minV, maxV, hav, sliceV, loV, hiV, bslQ, mksQ, appQ, partsOk, partsCells, delB, eqL, SameI, strOp, apzQ, cvtQ, capV, ↓reduceIte, Zj, Zk, Nat.reduceAdd, Nat.reduceLT, Nat.reduceEqDiff, Nat.reduceMul, Nat.reduceLeDiff, if_true, Zn, reduceCtorEq, ZA, eq_self, Int.reduceLE, Int.reduceLT, Int.reduceToNat, ne_eq, Nat.reduceSub, q0, ql, n1, e1]
        repeat refine And.intro (by omega) ?_
        rw [List.take_of_length_le (by omega)] at hall
        rw [lauOk_pre (by omega), h2, hall]
        rfl

theorem RdL.form {R : Rd} {low : Int} {l : List Int} {v : Value} (h : RdL R low l v) : ∃ a cap, v = .agg #[.int .i64 low, .slice a l.length cap] ∧ RdS R 1 (ints .i64 l) (.slice a l.length cap) := by
  obtain ⟨s, rfl, h⟩ := h
  obtain ⟨a, m, cap, rfl, hm, _⟩ := id h
  obtain rfl := lauLen hm
  exact ⟨a, cap, rfl, h⟩
end Go.Proofs

/-
  What the functions of this part hand back: each as a plain function of its arguments. Conditions: none.
-/
namespace Go.Proofs
open Go.W8
set_option linter.unusedVariables false
set_option linter.unusedSimpArgs false
set_option linter.unusedSectionVars false
set_option maxRecDepth 8000
set_option maxHeartbeats 4000000
theorem td6 (a : Int) : ∃ x y, a.tdiv 1000000 = x ∧ a.tmod 1000000 = y ∧ a = x * 1000000 + y ∧ -1000000 < y ∧ y < 1000000 := by
  refine ⟨_, _, rfl, rfl, ?_⟩
  rcases Int.le_total 0 a with h | h
  · rw [Int.tdiv_eq_ediv_of_nonneg h, Int.tmod_eq_emod_of_nonneg h]; omega
  · obtain ⟨b, rfl⟩ : ∃ b, a = -b := ⟨-a, by omega⟩
    rw [Int.neg_tdiv, Int.neg_tmod, Int.tdiv_eq_ediv_of_nonneg (by omega), Int.tmod_eq_emod_of_nonneg (by omega)]; omega
theorem mul_bd {a b A B : Int} (h1 : -A ≤ a ∧ a ≤ A) (h2 : -B ≤ b ∧ b ≤ B) : -(A * B) ≤ a * b ∧ a * b ≤ A * B := by
  have hA : 0 ≤ A := by omega
  have hB : 0 ≤ B := by omega
  have e : (a * b).natAbs ≤ (A * B).natAbs := by
    rw [Int.natAbs_mul, Int.natAbs_mul]
    exact Nat.mul_le_mul (by omega) (by omega)
  have : 0 ≤ A * B := Int.mul_nonneg hA hB
  omega
def exH (l m : List Int) : Nat → Int
  | 0 => 0
  | k + 1 => exH l m k + (l.getD k 0).tdiv 1000000 * (m.getD k 0).tdiv 1000000
def exM (l m : List Int) : Nat → Int
  | 0 => 0
  | k + 1 => exM l m k + (l.getD k 0).tdiv 1000000 * (m.getD k 0).tmod 1000000 + (l.getD k 0).tmod 1000000 * (m.getD k 0).tdiv 1000000
def exL (l m : List Int) : Nat → Int
  | 0 => 0
  | k + 1 => exL l m k + (l.getD k 0).tmod 1000000 * (m.getD k 0).tmod 1000000
def exS (l m : List Int) : Nat → Int
  | 0 => 0
  | k + 1 => exS l m k + l.getD k 0 * m.getD k 0
theorem ex_sum (l m : List Int) : ∀ k, exH l m k * 1000000000000 + exM l m k * 1000000 + exL l m k = exS l m k
  | 0 => rfl
  | k + 1 => by
    have ih := ex_sum l m k
    obtain ⟨x, y, h1, h2, h3, _⟩ := td6 (l.getD k 0)
    obtain ⟨u, v, g1, g2, g3, _⟩ := td6 (m.getD k 0)
    unfold exH exM exL exS
    rw [h1, h2, g1, g2]
    generalize l.getD k 0 = a at *
    generalize m.getD k 0 = b at *
    subst h3 g3
    have e : (x * 1000000 + y) * (u * 1000000 + v) = (x * u) * 1000000000000 + (x * v + y * u) * 1000000 + y * v := by
      rw [Int.add_mul, Int.mul_add, Int.mul_add, show x * 1000000 * (u * 1000000) = (x * u) * 1000000000000 by rw [show (1000000000000 : Int) = 1000000 * 1000000 from rfl, ← Int.mul_assoc, Int.mul_assoc x, Int.mul_comm 1000000 u, ← Int.mul_assoc x, Int.mul_assoc (x * u)],
        show x * 1000000 * v = (x * v) * 1000000 by rw [Int.mul_assoc, Int.mul_comm 1000000 v, ← Int.mul_assoc], show y * (u * 1000000) = (y * u) * 1000000 by rw [Int.mul_assoc], Int.add_mul]
      omega
    rw [e]
    omega
theorem ex_bound {l m : List Int} (h1 : ∀ k, -1000000000000 ≤ l.getD k 0 ∧ l.getD k 0 ≤ 1000000000000) (h2 : ∀ k, -1000000000000 ≤ m.getD k 0 ∧ m.getD k 0 ≤ 1000000000000) : ∀ k : Nat,
    (-(1000000000000 * (k : Int)) ≤ exH l m k ∧ exH l m k ≤ 1000000000000 * (k : Int)) ∧ (-(2000000000000 * (k : Int)) ≤ exM l m k ∧ exM l m k ≤ 2000000000000 * (k : Int)) ∧ (-(1000000000000 * (k : Int)) ≤ exL l m k ∧ exL l m k ≤ 1000000000000 * (k : Int))
  | 0 => by simp [exH, exM, exL]
  | k + 1 => by
    obtain ⟨i1, i2, i3⟩ := ex_bound h1 h2 k
    obtain ⟨x, y, e1, e2, e3, e4, e5⟩ := td6 (l.getD k 0)
    obtain ⟨u, v, g1, g2, g3, g4, g5⟩ := td6 (m.getD k 0)
    have a1 := h1 k
    have a2 := h2 k
    unfold exH exM exL
    rw [e1, e2, g1, g2]
    have p1 := mul_bd (a := x) (b := u) (A := 1000000) (B := 1000000) (by omega) (by omega)
    have p2 := mul_bd (a := x) (b := v) (A := 1000000) (B := 1000000) (by omega) (by omega)
    have p3 := mul_bd (a := y) (b := u) (A := 1000000) (B := 1000000) (by omega) (by omega)
    have p4 := mul_bd (a := y) (b := v) (A := 1000000) (B := 1000000) (by omega) (by omega)
    omega
def exN (S : Int) (H M L : Int) : Int := if -3 ≤ H + (M + L.tdiv 1000000).tdiv 1000000 ∧ H + (M + L.tdiv 1000000).tdiv 1000000 ≤ 3 then S else 0
/-- The sum of products, 0 where it is too large by far. -/
def exV (l m : List Int) : Int := exN (exS l m l.length) (exH l m l.length) (exM l m l.length) (exL l m l.length)
theorem exV_ok {l m : List Int} (h : coOk (exS l m l.length) = true) : exV l m = exS l m l.length := by
  have hs := ex_sum l m l.length
  unfold exV exN
  obtain ⟨x, y, e1, e2, e3, e4, e5⟩ := td6 (exL l m l.length)
  rw [e1]
  obtain ⟨u, v, g1, g2, g3, g4, g5⟩ := td6 (exM l m l.length + x)
  rw [g1]
  unfold coOk at h
  simp only [Bool.and_eq_true, decide_eq_true_eq] at h
  rw [if_pos]
  omega
theorem l04Exact_c (l m : List Int) (R : Rd) (v1 v2 : Value) (h1 : RdS R 1 (ints .i64 l) v1) (h2 : RdS R 1 (ints .i64 m) v2) (hlm : m.length = l.length) (hlen : l.length ≤ 1000)
    (b1 : ∀ k, -1000000000000 ≤ l.getD k 0 ∧ l.getD k 0 ≤ 1000000000000) (b2 : ∀ k, -1000000000000 ≤ m.getD k 0 ∧ m.getD k 0 ≤ 1000000000000) :
    GivesR Try.prog 167 #[v1, v2] R (.tuple #[.int .i64 (exV l m), .bool (coOk (exS l m l.length))]) := by
  obtain ⟨a, q1, cap, rfl, hm1, _⟩ := id h1
  obtain rfl := lauLen hm1
  obtain ⟨a', q2, cap', rfl, hm2, _⟩ := id h2
  obtain rfl := lauLen hm2
  rw [hlm] at h2 ⊢
  refine GivesR.of (callable_of Try.func167 rfl (by decide)) fun w hR => ?_
  refine acall_of (N := 85) (c := _) (rs := [.tmp 4, .tmp 5]) (args := [_, _]) Try.func167 rfl (by decide) rfl rfl (Nat.le_of_ble_eq_true rfl) ?_
  refine Cd.rs [0, 1] fun K hK => ?_
  simp (maxSteps := 2000000) (disch := first | (simp only [E4] <;> omega) | omega | fail) only [↓E2, E3, bare, bareJ, ↓E0, E1, evP, evPlan, env0, envN, evOps, evOp, evQs, evQ, evV, setD, pureOp, ev, upd, updL, gate, binW, eqOp, binV, intOp, shOp, boolOp, unV, convV, nilV, fieldAddrV, indexAddrV, extractV, cellAt, cellsAt, findB, setB, fillL, buildV, Value.cells, lenV, minV, maxV, hav, sliceV, loV, hiV, bslQ, mksQ, appQ, partsOk, partsCells, delB, eqL, SameI, strOp, apzQ, cvtQ, capV, ↓reduceIte, Zj, Zk, Nat.reduceAdd, Nat.reduceLT, Nat.reduceEqDiff, Nat.reduceMul, Nat.reduceLeDiff, if_true, Zn, reduceCtorEq, ZA, eq_self, Int.reduceLE, Int.reduceLT, Int.reduceToNat, ne_eq, Nat.reduceSub]
  repeat refine And.intro (by omega) ?_
  repeat refine And.intro (by omega) ?_
  intro g
  simp only [List.map_cons, List.map_nil, updL, upd, Nat.reduceEqDiff, if_true, if_false, ↓reduceIte]
  refine hK _ _ ?_; clear hK K
  refine Cd.rs [0, 1, 6, 7, 8] fun K hK => ?_
  simp (maxSteps := 2000000) (disch := first | (simp only [E4] <;> omega) | omega | fail) only [↓E2, E3, bare, bareJ, ↓E0, E1, evP, evPlan, env0, envN, evOps, evOp, evQs, evQ, evV, setD, pureOp, ev, upd, updL, gate, binW, eqOp, binV, intOp, shOp, boolOp, unV, convV, nilV, fieldAddrV, indexAddrV, extractV, cellAt, cellsAt, findB, setB, fillL, buildV, Value.cells, lenV, minV, maxV, hav, sliceV, loV, hiV, bslQ, mksQ, appQ, partsOk, partsCells, delB, eqL, SameI, strOp, apzQ, cvtQ, capV, ↓reduceIte, Zj, Zk, Nat.reduceAdd, Nat.reduceLT, Nat.reduceEqDiff, Nat.reduceMul, Nat.reduceLeDiff, if_true, Zn, reduceCtorEq, ZA, eq_self, Int.reduceLE, Int.reduceLT, Int.reduceToNat, ne_eq, Nat.reduceSub]
  repeat refine And.intro (by omega) ?_
  repeat refine And.intro (by omega) ?_
  intro g
  simp only [List.map_cons, List.map_nil, updL, upd, Nat.reduceEqDiff, if_true, if_false, ↓reduceIte]
  refine hK _ _ ?_; clear hK K
  refine Cd.seq ?_
  refine Cd.rs [0, 1, 6, 7, 8, 9] fun K hK => ?_
  simp (maxSteps := 2000000) (disch := first | (simp only [E4] <;> omega) | omega | fail) only [↓E2, E3, bare, bareJ, ↓E0, E1, evP, evPlan, env0, envN, evOps, evOp, evQs, evQ, evV, setD, pureOp, ev, upd, updL, gate, binW, eqOp, binV, intOp, shOp, boolOp, unV, convV, nilV, fieldAddrV, indexAddrV, extractV, cellAt, cellsAt, findB, setB, fillL, buildV, Value.cells, lenV, minV, maxV, hav, sliceV, loV, hiV, bslQ, mksQ, appQ, partsOk, partsCells, delB, eqL, SameI, strOp, apzQ, cvtQ, capV, ↓reduceIte, Zj, Zk, Nat.reduceAdd, Nat.reduceLT, Nat.reduceEqDiff, Nat.reduceMul, Nat.reduceLeDiff, if_true, Zn, reduceCtorEq, ZA, eq_self, Int.reduceLE, Int.reduceLT, Int.reduceToNat, ne_eq, Nat.reduceSub]
  repeat refine And.intro (by omega) ?_
  repeat refine And.intro (by omega) ?_
  intro g
  simp only [List.map_cons, List.map_nil, updL, upd, Nat.reduceEqDiff, if_true, if_false, ↓reduceIte]
  refine hK _ _ ?_; clear hK K
  refine Cd.block ?_
  refine Cd.loop (fun n ρ M => ∃ g k, k + n = l.length ∧ ρ = updL [(0, .slice a l.length cap), (1, .slice a' l.length cap'), (6, .int .i64 (exH l m k)), (7, .int .i64 (exM l m k)), (8, .int .i64 (exL l m k)), (9, .int .i64 (k : Int))] g ∧ M = []) l.length ⟨_, 0, Nat.zero_add _, rfl, rfl⟩ ?_
  rintro n ρ M ⟨g, k, hk, rfl, rfl⟩
  have hbk := ex_bound b1 b2 k
  refine Cd.seq ?_
  refine Cd.rs [0, 1, 6, 7, 8, 9, 18] fun K hK => ?_
  simp (maxSteps := 2000000) (disch := first | (simp only [E4] <;> omega) | omega | fail) only [↓E2, E3, bare, bareJ, ↓E0, E1, evP, evPlan, env0, envN, evOps, evOp, evQs, evQ, evV, setD, pureOp, ev, upd, updL, gate, binW, eqOp, binV, intOp, shOp, boolOp, unV, convV, nilV, fieldAddrV, indexAddrV, extractV, cellAt, cellsAt, findB, setB, fillL, buildV, Value.cells, lenV, minV, maxV, hav, sliceV, loV, hiV, bslQ, mksQ, appQ, partsOk, partsCells, delB, eqL, SameI, strOp, apzQ, cvtQ, capV, ↓reduceIte, Zj, Zk, Nat.reduceAdd, Nat.reduceLT, Nat.reduceEqDiff, Nat.reduceMul, Nat.reduceLeDiff, if_true, Zn, reduceCtorEq, ZA, eq_self, Int.reduceLE, Int.reduceLT, Int.reduceToNat, ne_eq, Nat.reduceSub, Tslce47]
  repeat refine And.intro (by omega) ?_
  repeat refine And.intro (by omega) ?_
  intro g
  simp only [List.map_cons, List.map_nil, updL, upd, Nat.reduceEqDiff, if_true, if_false, ↓reduceIte]
  refine hK _ _ ?_; clear hK K
  refine Cd.condd rfl (fun c1 => ?_) (fun c1 => ?_)
  · have hbk1 := ex_bound b1 b2 (k + 1)
    have sH : exH l m (k + 1) = exH l m k + (l.getD k 0).tdiv 1000000 * (m.getD k 0).tdiv 1000000 := rfl
    have sM : exM l m (k + 1) = exM l m k + (l.getD k 0).tdiv 1000000 * (m.getD k 0).tmod 1000000 + (l.getD k 0).tmod 1000000 * (m.getD k 0).tdiv 1000000 := rfl
    have sL : exL l m (k + 1) = exL l m k + (l.getD k 0).tmod 1000000 * (m.getD k 0).tmod 1000000 := rfl
    obtain ⟨b, rfl, g1⟩ := rd_int h1 hR (k := k) (by omega)
    obtain ⟨b', rfl, g2⟩ := rd_int h2 hR (k := k) (by omega)
    obtain ⟨x, y, e1, e2, e3, e4, e5⟩ := td6 (l.getD k 0)
    obtain ⟨u, v, f1, f2, f3, f4, f5⟩ := td6 (m.getD k 0)
    have a1 := b1 k
    have a2 := b2 k
    have p1 := mul_bd (a := x) (b := u) (A := 1000000) (B := 1000000) (by omega) (by omega)
    have p2 := mul_bd (a := x) (b := v) (A := 1000000) (B := 1000000) (by omega) (by omega)
    have p3 := mul_bd (a := y) (b := u) (A := 1000000) (B := 1000000) (by omega) (by omega)
    have p4 := mul_bd (a := y) (b := v) (A := 1000000) (B := 1000000) (by omega) (by omega)
    rw [e1, f1] at sH
    rw [e1, e2, f1, f2] at sM
    rw [e2, f2] at sL
    generalize hq1 : x * u = r1 at *
    generalize hq2 : x * v = r2 at *
    generalize hq3 : y * u = r3 at *
    generalize hq4 : y * v = r4 at *
    refine Cd.skip ?_
    refine thenN ?_
    refine Cd.seq ?_
    refine Cd.block ?_
    skip
    refine Cd.qs [0, 1, 6, 7, 8, 9, 10, 11, 12, 13] fol (by kernel_rfl) fun K hK => ?_
    simp (maxSteps := 2000000) (disch := first | (simp only [E4, g1, g2, e1, e2, f1, f2, hq1, hq2, hq3, hq4] <;> omega) | omega | fail) only [↓E2, E3, bare, bareJ, ↓E0, E1, evP, evPlan, env0, envN, evOps, evOp, evQs, evQ, evV, setD, pureOp, ev, upd, updL, gate, binW, eqOp, binV, intOp, shOp, boolOp, unV, convV, nilV, fieldAddrV, indexAddrV, extractV, cellAt, cellsAt, findB, setB, fillL, buildV, Value.cells, lenV, minV, maxV, hav, sliceV, loV, hiV, bslQ, mksQ, appQ, partsOk, partsCells, delB, eqL, SameI, strOp, apzQ, cvtQ, capV, ↓reduceIte, Zj, Zk, Nat.reduceAdd, Nat.reduceLT, Nat.reduceEqDiff, Nat.reduceMul, Nat.reduceLeDiff, if_true, Zn, reduceCtorEq, ZA, eq_self, Int.reduceLE, Int.reduceLT, Int.reduceToNat, ne_eq, Nat.reduceSub, Tld2, Tslc47, g1, g2, e1, e2, f1, f2, hq1, hq2, hq3, hq4]
    repeat refine And.intro (by omega) ?_
    repeat refine And.intro (by omega) ?_
    intro g
    simp only [List.map_cons, List.map_nil, updL, upd, Nat.reduceEqDiff, if_true, if_false, ↓reduceIte]
    refine hK _ ?_; clear hK K
    refine Cd.rs [0, 1, 6, 7, 8, 9, 10, 11, 12, 13] fun K hK => ?_
    simp (maxSteps := 2000000) (disch := first | (simp only [E4, g1, g2, e1, e2, f1, f2, hq1, hq2, hq3, hq4] <;> omega) | omega | fail) only [↓E2, E3, bare, bareJ, ↓E0, E1, evP, evPlan, env0, envN, evOps, evOp, evQs, evQ, evV, setD, pureOp, ev, upd, updL, gate, binW, eqOp, binV, intOp, shOp, boolOp, unV, convV, nilV, fieldAddrV, indexAddrV, extractV, cellAt, cellsAt, findB, setB, fillL, buildV, Value.cells, lenV, minV, maxV, hav, sliceV, loV, hiV, bslQ, mksQ, appQ, partsOk, partsCells, delB, eqL, SameI, strOp, apzQ, cvtQ, capV, ↓reduceIte, Zj, Zk, Nat.reduceAdd, Nat.reduceLT, Nat.reduceEqDiff, Nat.reduceMul, Nat.reduceLeDiff, if_true, Zn, reduceCtorEq, ZA, eq_self, Int.reduceLE, Int.reduceLT, Int.reduceToNat, ne_eq, Nat.reduceSub, g1, g2, e1, e2, f1, f2, hq1, hq2, hq3, hq4]
    repeat refine And.intro (by omega) ?_
    repeat refine And.intro (by omega) ?_
    intro g
    simp only [List.map_cons, List.map_nil, updL, upd, Nat.reduceEqDiff, if_true, if_false, ↓reduceIte]
    refine hK _ _ ?_; clear hK K
    refine Cd.rs [0, 1, 6, 7, 8, 9, 11, 13] fun K hK => ?_
    simp (maxSteps := 2000000) (disch := first | (simp only [E4, g1, g2, e1, e2, f1, f2, hq1, hq2, hq3, hq4] <;> omega) | omega | fail) only [↓E2, E3, bare, bareJ, ↓E0, E1, evP, evPlan, env0, envN, evOps, evOp, evQs, evQ, evV, setD, pureOp, ev, upd, updL, gate, binW, eqOp, binV, intOp, shOp, boolOp, unV, convV, nilV, fieldAddrV, indexAddrV, extractV, cellAt, cellsAt, findB, setB, fillL, buildV, Value.cells, lenV, minV, maxV, hav, sliceV, loV, hiV, bslQ, mksQ, appQ, partsOk, partsCells, delB, eqL, SameI, strOp, apzQ, cvtQ, capV, ↓reduceIte, Zj, Zk, Nat.reduceAdd, Nat.reduceLT, Nat.reduceEqDiff, Nat.reduceMul, Nat.reduceLeDiff, if_true, Zn, reduceCtorEq, ZA, eq_self, Int.reduceLE, Int.reduceLT, Int.reduceToNat, ne_eq, Nat.reduceSub, g1, g2, e1, e2, f1, f2, hq1, hq2, hq3, hq4]
    repeat refine And.intro (by omega) ?_
    repeat refine And.intro (by omega) ?_
    intro g
    simp only [List.map_cons, List.map_nil, updL, upd, Nat.reduceEqDiff, if_true, if_false, ↓reduceIte]
    refine hK _ _ ?_; clear hK K
    refine Cd.rr [0, 1, 6, 7, 8, 9] fun K hK => ?_
    simp (maxSteps := 2000000) (disch := first | (simp only [E4, g1, g2, e1, e2, f1, f2, hq1, hq2, hq3, hq4] <;> omega) | omega | fail) only [↓E2, E3, bare, bareJ, ↓E0, E1, evP, evPlan, env0, envN, evOps, evOp, evQs, evQ, evV, setD, pureOp, ev, upd, updL, gate, binW, eqOp, binV, intOp, shOp, boolOp, unV, convV, nilV, fieldAddrV, indexAddrV, extractV, cellAt, cellsAt, findB, setB, fillL, buildV, Value.cells, lenV, minV, maxV, hav, sliceV, loV, hiV, bslQ, mksQ, appQ, partsOk, partsCells, delB, eqL, SameI, strOp, apzQ, cvtQ, capV, ↓reduceIte, Zj, Zk, Nat.reduceAdd, Nat.reduceLT, Nat.reduceEqDiff, Nat.reduceMul, Nat.reduceLeDiff, if_true, Zn, reduceCtorEq, ZA, eq_self, Int.reduceLE, Int.reduceLT, Int.reduceToNat, ne_eq, Nat.reduceSub, g1, g2, e1, e2, f1, f2, hq1, hq2, hq3, hq4]
    repeat refine And.intro (by omega) ?_
    repeat refine And.intro (by omega) ?_
    intro g
    simp only [List.map_cons, List.map_nil, updL, upd, Nat.reduceEqDiff, if_true, if_false, ↓reduceIte]
    refine hK _ _ ?_; clear hK K
    refine inBN ?_
    refine thenN ?_
    refine Cd.rr [0, 1, 6, 7, 8, 9] fun K hK => ?_
    simp (maxSteps := 2000000) (disch := first | (simp only [E4, g1, g2, e1, e2, f1, f2, hq1, hq2, hq3, hq4] <;> omega) | omega | fail) only [↓E2, E3, bare, bareJ, ↓E0, E1, evP, evPlan, env0, envN, evOps, evOp, evQs, evQ, evV, setD, pureOp, ev, upd, updL, gate, binW, eqOp, binV, intOp, shOp, boolOp, unV, convV, nilV, fieldAddrV, indexAddrV, extractV, cellAt, cellsAt, findB, setB, fillL, buildV, Value.cells, lenV, minV, maxV, hav, sliceV, loV, hiV, bslQ, mksQ, appQ, partsOk, partsCells, delB, eqL, SameI, strOp, apzQ, cvtQ, capV, ↓reduceIte, Zj, Zk, Nat.reduceAdd, Nat.reduceLT, Nat.reduceEqDiff, Nat.reduceMul, Nat.reduceLeDiff, if_true, Zn, reduceCtorEq, ZA, eq_self, Int.reduceLE, Int.reduceLT, Int.reduceToNat, ne_eq, Nat.reduceSub, g1, g2, e1, e2, f1, f2, hq1, hq2, hq3, hq4]
    repeat refine And.intro (by omega) ?_
    repeat refine And.intro (by omega) ?_
    intro g
    simp only [List.map_cons, List.map_nil, updL, upd, Nat.reduceEqDiff, if_true, if_false, ↓reduceIte]
    refine hK _ _ ?_; clear hK K
    rw [← sH, ← sM, ← sL]
    exact roundN (m := n - 1) (by omega) ⟨_, k + 1, by omega, rfl, rfl⟩
  · obtain rfl : k = l.length := by omega
    have hs := ex_sum l m l.length
    have hV : exV l m = exN (exS l m l.length) (exH l m l.length) (exM l m l.length) (exL l m l.length) := rfl
    rw [hV]
    clear hV
    generalize exS l m l.length = S at *
    generalize exH l m l.length = H at *
    generalize exM l m l.length = Mi at *
    generalize exL l m l.length = Lo at *
    obtain ⟨x, y, e1, e2, e3, e4, e5⟩ := td6 Lo
    obtain ⟨u, v, f1, f2, f3, f4, f5⟩ := td6 (Mi + x)
    unfold exN
    rw [e1, f1]
    refine Cd.exit (thenX (roundX (inBX ?_)))
    refine thenN ?_
    skip
    refine Cd.rs [6, 7, 8] fun K hK => ?_
    simp (maxSteps := 2000000) (disch := first | (simp only [E4, e1, e2, f1, f2] <;> omega) | omega | fail) only [↓E2, E3, bare, bareJ, ↓E0, E1, evP, evPlan, env0, envN, evOps, evOp, evQs, evQ, evV, setD, pureOp, ev, upd, updL, gate, binW, eqOp, binV, intOp, shOp, boolOp, unV, convV, nilV, fieldAddrV, indexAddrV, extractV, cellAt, cellsAt, findB, setB, fillL, buildV, Value.cells, lenV, minV, maxV, hav, sliceV, loV, hiV, bslQ, mksQ, appQ, partsOk, partsCells, delB, eqL, SameI, strOp, apzQ, cvtQ, capV, ↓reduceIte, Zj, Zk, Nat.reduceAdd, Nat.reduceLT, Nat.reduceEqDiff, Nat.reduceMul, Nat.reduceLeDiff, if_true, Zn, reduceCtorEq, ZA, eq_self, Int.reduceLE, Int.reduceLT, Int.reduceToNat, ne_eq, Nat.reduceSub, e1, e2, f1, f2]
    repeat refine And.intro (by omega) ?_
    repeat refine And.intro (by omega) ?_
    intro g
    simp only [List.map_cons, List.map_nil, updL, upd, Nat.reduceEqDiff, if_true, if_false, ↓reduceIte]
    refine hK _ _ ?_; clear hK K
    refine Cd.rs [6, 7, 8] fun K hK => ?_
    simp (maxSteps := 2000000) (disch := first | (simp only [E4, e1, e2, f1, f2] <;> omega) | omega | fail) only [↓E2, E3, bare, bareJ, ↓E0, E1, evP, evPlan, env0, envN, evOps, evOp, evQs, evQ, evV, setD, pureOp, ev, upd, updL, gate, binW, eqOp, binV, intOp, shOp, boolOp, unV, convV, nilV, fieldAddrV, indexAddrV, extractV, cellAt, cellsAt, findB, setB, fillL, buildV, Value.cells, lenV, minV, maxV, hav, sliceV, loV, hiV, bslQ, mksQ, appQ, partsOk, partsCells, delB, eqL, SameI, strOp, apzQ, cvtQ, capV, ↓reduceIte, Zj, Zk, Nat.reduceAdd, Nat.reduceLT, Nat.reduceEqDiff, Nat.reduceMul, Nat.reduceLeDiff, if_true, Zn, reduceCtorEq, ZA, eq_self, Int.reduceLE, Int.reduceLT, Int.reduceToNat, ne_eq, Nat.reduceSub, e1, e2, f1, f2]
    repeat refine And.intro (by omega) ?_
    repeat refine And.intro (by omega) ?_
    intro g
    simp only [List.map_cons, List.map_nil, updL, upd, Nat.reduceEqDiff, if_true, if_false, ↓reduceIte]
    refine hK _ _ ?_; clear hK K
    refine Cd.rs [6, 7, 8] fun K hK => ?_
    simp (maxSteps := 2000000) (disch := first | (simp only [E4, e1, e2, f1, f2] <;> omega) | omega | fail) only [↓E2, E3, bare, bareJ, ↓E0, E1, evP, evPlan, env0, envN, evOps, evOp, evQs, evQ, evV, setD, pureOp, ev, upd, updL, gate, binW, eqOp, binV, intOp, shOp, boolOp, unV, convV, nilV, fieldAddrV, indexAddrV, extractV, cellAt, cellsAt, findB, setB, fillL, buildV, Value.cells, lenV, minV, maxV, hav, sliceV, loV, hiV, bslQ, mksQ, appQ, partsOk, partsCells, delB, eqL, SameI, strOp, apzQ, cvtQ, capV, ↓reduceIte, Zj, Zk, Nat.reduceAdd, Nat.reduceLT, Nat.reduceEqDiff, Nat.reduceMul, Nat.reduceLeDiff, if_true, Zn, reduceCtorEq, ZA, eq_self, Int.reduceLE, Int.reduceLT, Int.reduceToNat, ne_eq, Nat.reduceSub, e1, e2, f1, f2]
    repeat refine And.intro (by omega) ?_
    repeat refine And.intro (by omega) ?_
    intro g
    simp only [List.map_cons, List.map_nil, updL, upd, Nat.reduceEqDiff, if_true, if_false, ↓reduceIte]
    refine hK _ _ ?_; clear hK K
    refine Cd.rs [6, 7, 8] fun K hK => ?_
    simp (maxSteps := 2000000) (disch := first | (simp only [E4, e1, e2, f1, f2] <;> omega) | omega | fail) only [↓E2, E3, bare, bareJ, ↓E0, E1, evP, evPlan, env0, envN, evOps, evOp, evQs, evQ, evV, setD, pureOp, ev, upd, updL, gate, binW, eqOp, binV, intOp, shOp, boolOp, unV, convV, nilV, fieldAddrV, indexAddrV, extractV, cellAt, cellsAt, findB, setB, fillL, buildV, Value.cells, lenV, minV, maxV, hav, sliceV, loV, hiV, bslQ, mksQ, appQ, partsOk, partsCells, delB, eqL, SameI, strOp, apzQ, cvtQ, capV, ↓reduceIte, Zj, Zk, Nat.reduceAdd, Nat.reduceLT, Nat.reduceEqDiff, Nat.reduceMul, Nat.reduceLeDiff, if_true, Zn, reduceCtorEq, ZA, eq_self, Int.reduceLE, Int.reduceLT, Int.reduceToNat, ne_eq, Nat.reduceSub, e1, e2, f1, f2]
    repeat refine And.intro (by omega) ?_
    repeat refine And.intro (by omega) ?_
    intro g
    simp only [List.map_cons, List.map_nil, updL, upd, Nat.reduceEqDiff, if_true, if_false, ↓reduceIte]
    refine hK _ _ ?_; clear hK K
    refine Cd.seq ?_
    refine Cd.rs [6, 7, 8, 74] fun K hK => ?_
    simp (maxSteps := 2000000) (disch := first | (simp only [E4, e1, e2, f1, f2] <;> omega) | omega | fail) only [↓E2, E3, bare, bareJ, ↓E0, E1, evP, evPlan, env0, envN, evOps, evOp, evQs, evQ, evV, setD, pureOp, ev, upd, updL, gate, binW, eqOp, binV, intOp, shOp, boolOp, unV, convV, nilV, fieldAddrV, indexAddrV, extractV, cellAt, cellsAt, findB, setB, fillL, buildV, Value.cells, lenV, minV, maxV, hav, sliceV, loV, hiV, bslQ, mksQ, appQ, partsOk, partsCells, delB, eqL, SameI, strOp, apzQ, cvtQ, capV, ↓reduceIte, Zj, Zk, Nat.reduceAdd, Nat.reduceLT, Nat.reduceEqDiff, Nat.reduceMul, Nat.reduceLeDiff, if_true, Zn, reduceCtorEq, ZA, eq_self, Int.reduceLE, Int.reduceLT, Int.reduceToNat, ne_eq, Nat.reduceSub, e1, e2, f1, f2]
    repeat refine And.intro (by omega) ?_
    refine callK_gives (l01In_c _ _ _) ?_
    simp (maxSteps := 2000000) (disch := first | (simp only [E4, e1, e2, f1, f2] <;> omega) | omega | fail) only [↓E2, E3, bare, bareJ, ↓E0, E1, evP, evPlan, env0, envN, evOps, evOp, evQs, evQ, evV, setD, pureOp, ev, upd, updL, gate, binW, eqOp, binV, intOp, shOp, boolOp, unV, convV, nilV, fieldAddrV, indexAddrV, extractV, cellAt, cellsAt, findB, setB, fillL, buildV, Value.cells, lenV, minV, maxV, hav, sliceV, loV, hiV, bslQ, mksQ, appQ, partsOk, partsCells, delB, eqL, SameI, strOp, apzQ, cvtQ, capV, ↓reduceIte, Zj, Zk, Nat.reduceAdd, Nat.reduceLT, Nat.reduceEqDiff, Nat.reduceMul, Nat.reduceLeDiff, if_true, Zn, reduceCtorEq, ZA, eq_self, Int.reduceLE, Int.reduceLT, Int.reduceToNat, ne_eq, Nat.reduceSub, e1, e2, f1, f2]
    repeat refine And.intro (by omega) ?_
    repeat refine And.intro (by omega) ?_
    intro g
    simp only [List.map_cons, List.map_nil, updL, upd, Nat.reduceEqDiff, if_true, if_false, ↓reduceIte]
    refine hK _ _ ?_; clear hK K
    refine Cd.cond rfl (fun h2 => ?_) (fun h2 => ?_)
    · have hno : ¬ (-3 ≤ H + u ∧ H + u ≤ 3) := by
        intro hh
        rw [decide_eq_true hh.1, decide_eq_true hh.2] at h2
        cases h2
      refine Cd.rs [4, 5] fun K hK => ?_
      simp (maxSteps := 2000000) (disch := first | (simp only [E4, e1, e2, f1, f2] <;> omega) | omega | fail) only [↓E2, E3, bare, bareJ, ↓E0, E1, evP, evPlan, env0, envN, evOps, evOp, evQs, evQ, evV, setD, pureOp, ev, upd, updL, gate, binW, eqOp, binV, intOp, shOp, boolOp, unV, convV, nilV, fieldAddrV, indexAddrV, extractV, cellAt, cellsAt, findB, setB, fillL, buildV, Value.cells, lenV, minV, maxV, hav, sliceV, loV, hiV, bslQ, mksQ, appQ, partsOk, partsCells, delB, eqL, SameI, strOp, apzQ, cvtQ, capV, ↓reduceIte, Zj, Zk, Nat.reduceAdd, Nat.reduceLT, Nat.reduceEqDiff, Nat.reduceMul, Nat.reduceLeDiff, if_true, Zn, reduceCtorEq, ZA, eq_self, Int.reduceLE, Int.reduceLT, Int.reduceToNat, ne_eq, Nat.reduceSub, e1, e2, f1, f2]
      repeat refine And.intro (by omega) ?_
      repeat refine And.intro (by omega) ?_
      intro g
      simp only [List.map_cons, List.map_nil, updL, upd, Nat.reduceEqDiff, if_true, if_false, ↓reduceIte]
      refine hK _ _ ?_; clear hK K
      refine Cd.ret (thenR ?_)
      simp (maxSteps := 2000000) (disch := first | (simp only [E4, e1, e2, f1, f2] <;> omega) | omega | fail) only [↓E2, E3, bare, bareJ, ↓E0, E1, evP, evPlan, env0, envN, evOps, evOp, evQs, evQ, evV, setD, pureOp, ev, upd, updL, gate, binW, eqOp, binV, intOp, shOp, boolOp, unV, convV, nilV, fieldAddrV, indexAddrV, extractV, cellAt, cellsAt, findB, setB, fillL, buildV, Value.cells, lenV, minV, maxV, hav, sliceV, loV, hiV, bslQ, mksQ, appQ, partsOk, partsCells, delB, eqL, SameI, strOp, apzQ, cvtQ, capV, ↓reduceIte, Zj, Zk, Nat.reduceAdd, Nat.reduceLT, Nat.reduceEqDiff, Nat.reduceMul, Nat.reduceLeDiff, if_true, Zn, reduceCtorEq, ZA, eq_self, Int.reduceLE, Int.reduceLT, Int.reduceToNat, ne_eq, Nat.reduceSub, e1, e2, f1, f2]
      repeat refine And.intro (by omega) ?_
      rw [if_neg hno]
      have : coOk S = false := by
        unfold coOk
        rw [Bool.eq_false_iff]
        intro hh
        simp only [Bool.and_eq_true, decide_eq_true_eq] at hh
        omega
      rw [this]
    · have hyes : -3 ≤ H + u ∧ H + u ≤ 3 := by
        simp only [Bool.not_eq_true', Bool.not_eq_false', Bool.and_eq_true, decide_eq_true_eq, Bool.not_eq_true, Bool.not_eq_false] at h2
        exact h2
      have hS : (H + u) * 1000000000000 + v * 1000000 + y = S := by omega
      refine Cd.skip ?_
      refine thenN ?_
      refine Cd.rs [14] fun K hK => ?_
      simp (maxSteps := 2000000) (disch := first | (simp only [E4, e1, e2, f1, f2] <;> omega) | omega | fail) only [↓E2, E3, bare, bareJ, ↓E0, E1, evP, evPlan, env0, envN, evOps, evOp, evQs, evQ, evV, setD, pureOp, ev, upd, updL, gate, binW, eqOp, binV, intOp, shOp, boolOp, unV, convV, nilV, fieldAddrV, indexAddrV, extractV, cellAt, cellsAt, findB, setB, fillL, buildV, Value.cells, lenV, minV, maxV, hav, sliceV, loV, hiV, bslQ, mksQ, appQ, partsOk, partsCells, delB, eqL, SameI, strOp, apzQ, cvtQ, capV, ↓reduceIte, Zj, Zk, Nat.reduceAdd, Nat.reduceLT, Nat.reduceEqDiff, Nat.reduceMul, Nat.reduceLeDiff, if_true, Zn, reduceCtorEq, ZA, eq_self, Int.reduceLE, Int.reduceLT, Int.reduceToNat, ne_eq, Nat.reduceSub, e1, e2, f1, f2]
      repeat refine And.intro (by omega) ?_
      rw [hS]
      repeat refine And.intro (by omega) ?_
      intro g
      simp only [List.map_cons, List.map_nil, updL, upd, Nat.reduceEqDiff, if_true, if_false, ↓reduceIte]
      refine hK _ _ ?_; clear hK K
      refine Cd.rs [4, 5] fun K hK => ?_
      simp (maxSteps := 2000000) (disch := first | (simp only [E4, e1, e2, f1, f2] <;> omega) | omega | fail) only [↓E2, E3, bare, bareJ, ↓E0, E1, evP, evPlan, env0, envN, evOps, evOp, evQs, evQ, evV, setD, pureOp, ev, upd, updL, gate, binW, eqOp, binV, intOp, shOp, boolOp, unV, convV, nilV, fieldAddrV, indexAddrV, extractV, cellAt, cellsAt, findB, setB, fillL, buildV, Value.cells, lenV, minV, maxV, hav, sliceV, loV, hiV, bslQ, mksQ, appQ, partsOk, partsCells, delB, eqL, SameI, strOp, apzQ, cvtQ, capV, ↓reduceIte, Zj, Zk, Nat.reduceAdd, Nat.reduceLT, Nat.reduceEqDiff, Nat.reduceMul, Nat.reduceLeDiff, if_true, Zn, reduceCtorEq, ZA, eq_self, Int.reduceLE, Int.reduceLT, Int.reduceToNat, ne_eq, Nat.reduceSub, e1, e2, f1, f2]
      repeat refine And.intro (by omega) ?_
      refine callK_gives (l01In_c _ _ _) ?_
      simp (maxSteps := 2000000) (disch := first | (simp only [E4, e1, e2, f1, f2] <;> omega) | omega | fail) only [↓E2, E3, bare, bareJ, ↓E0, E1, evP, evPlan, env0, envN, evOps, evOp, evQs, evQ, evV, setD, pureOp, ev, upd, updL, gate, binW, eqOp, binV, intOp, shOp, boolOp, unV, convV, nilV, fieldAddrV, indexAddrV, extractV, cellAt, cellsAt, findB, setB, fillL, buildV, Value.cells, lenV, minV, maxV, hav, sliceV, loV, hiV, bslQ, mksQ, appQ, partsOk, partsCells, delB, eqL, SameI, strOp, apzQ, cvtQ, capV, ↓reduceIte, Zj, Zk, Nat.reduceAdd, Nat.reduceLT, Nat.reduceEqDiff, Nat.reduceMul, Nat.reduceLeDiff, if_true, Zn, reduceCtorEq, ZA, eq_self, Int.reduceLE, Int.reduceLT, Int.reduceToNat, ne_eq, Nat.reduceSub, e1, e2, f1, f2]
      repeat refine And.intro (by omega) ?_
      repeat refine And.intro (by omega) ?_
      intro g
      simp only [List.map_cons, List.map_nil, updL, upd, Nat.reduceEqDiff, if_true, if_false, ↓reduceIte]
      refine hK _ _ ?_; clear hK K
      refine Cd.ret ?_
      simp (maxSteps := 2000000) (disch := first | (simp only [E4, e1, e2, f1, f2] <;> omega) | omega | fail) only [↓E2, E3, bare, bareJ, ↓E0, E1, evP, evPlan, env0, envN, evOps, evOp, evQs, evQ, evV, setD, pureOp, ev, upd, updL, gate, binW, eqOp, binV, intOp, shOp, boolOp, unV, convV, nilV, fieldAddrV, indexAddrV, extractV, cellAt, cellsAt, findB, setB, fillL, buildV, Value.cells, lenV, minV, maxV, hav, sliceV, loV, hiV, bslQ, mksQ, appQ, partsOk, partsCells, delB, eqL, SameI, strOp, apzQ, cvtQ, capV, ↓reduceIte, Zj, Zk, Nat.reduceAdd, Nat.reduceLT, Nat.reduceEqDiff, Nat.reduceMul, Nat.reduceLeDiff, if_true, Zn, reduceCtorEq, ZA, eq_self, Int.reduceLE, Int.reduceLT, Int.reduceToNat, ne_eq, Nat.reduceSub, e1, e2, f1, f2]
      repeat refine And.intro (by omega) ?_
      rw [if_pos hyes]
      rfl
theorem binomial_c (d : Nat) (hd : d < 21) (k : Nat) (hk : k ≤ 2 * d) : Gives Try.prog 131 #[.int .i64 (2 * (d : Int)), .int .i64 (k : Int)] (.int .i64 (binR (2 * (d : Int)) k)) := by
  refine Gives.of fun w => ?_
  refine acall_of (N := 21) (c := _) (rs := [.tmp 4]) (args := [_, _]) Try.func131 rfl (by decide) rfl rfl (Nat.le_of_ble_eq_true rfl) ?_
  refine Cd.rs [0, 1] fun K hK => ?_
  simp (maxSteps := 2000000) (disch := first | (simp only [E4] <;> omega) | omega | fail) only [↓E2, E3, bare, bareJ, ↓E0, E1, evP, evPlan, env0, envN, evOps, evOp, evQs, evQ, evV, setD, pureOp, ev, upd, updL, gate, binW, eqOp, binV, intOp, shOp, boolOp, unV, convV, nilV, fieldAddrV, indexAddrV, extractV, cellAt, cellsAt, findB, setB, fillL, buildV, Value.cells, lenV, minV, maxV, hav, sliceV, loV, hiV, bslQ, mksQ, appQ, partsOk, partsCells, delB, eqL, SameI, strOp, apzQ, cvtQ, capV, ↓reduceIte, Zj, Zk, Nat.reduceAdd, Nat.reduceLT, Nat.reduceEqDiff, Nat.reduceMul, Nat.reduceLeDiff, if_true, Zn, reduceCtorEq, ZA, eq_self, Int.reduceLE, Int.reduceLT, Int.reduceToNat, ne_eq, Nat.reduceSub]
  repeat refine And.intro (by omega) ?_
  repeat refine And.intro (by omega) ?_
  intro g
  simp only [List.map_cons, List.map_nil, updL, upd, Nat.reduceEqDiff, if_true, if_false, ↓reduceIte]
  refine hK _ _ ?_; clear hK K
  refine Cd.rs [0, 1, 5] fun K hK => ?_
  simp (maxSteps := 2000000) (disch := first | (simp only [E4] <;> omega) | omega | fail) only [↓E2, E3, bare, bareJ, ↓E0, E1, evP, evPlan, env0, envN, evOps, evOp, evQs, evQ, evV, setD, pureOp, ev, upd, updL, gate, binW, eqOp, binV, intOp, shOp, boolOp, unV, convV, nilV, fieldAddrV, indexAddrV, extractV, cellAt, cellsAt, findB, setB, fillL, buildV, Value.cells, lenV, minV, maxV, hav, sliceV, loV, hiV, bslQ, mksQ, appQ, partsOk, partsCells, delB, eqL, SameI, strOp, apzQ, cvtQ, capV, ↓reduceIte, Zj, Zk, Nat.reduceAdd, Nat.reduceLT, Nat.reduceEqDiff, Nat.reduceMul, Nat.reduceLeDiff, if_true, Zn, reduceCtorEq, ZA, eq_self, Int.reduceLE, Int.reduceLT, Int.reduceToNat, ne_eq, Nat.reduceSub]
  repeat refine And.intro (by omega) ?_
  repeat refine And.intro (by omega) ?_
  intro g
  simp only [List.map_cons, List.map_nil, updL, upd, Nat.reduceEqDiff, if_true, if_false, ↓reduceIte]
  refine hK _ _ ?_; clear hK K
  refine Cd.seq ?_
  refine Cd.rs [0, 5, 7, 8] fun K hK => ?_
  simp (maxSteps := 2000000) (disch := first | (simp only [E4] <;> omega) | omega | fail) only [↓E2, E3, bare, bareJ, ↓E0, E1, evP, evPlan, env0, envN, evOps, evOp, evQs, evQ, evV, setD, pureOp, ev, upd, updL, gate, binW, eqOp, binV, intOp, shOp, boolOp, unV, convV, nilV, fieldAddrV, indexAddrV, extractV, cellAt, cellsAt, findB, setB, fillL, buildV, Value.cells, lenV, minV, maxV, hav, sliceV, loV, hiV, bslQ, mksQ, appQ, partsOk, partsCells, delB, eqL, SameI, strOp, apzQ, cvtQ, capV, ↓reduceIte, Zj, Zk, Nat.reduceAdd, Nat.reduceLT, Nat.reduceEqDiff, Nat.reduceMul, Nat.reduceLeDiff, if_true, Zn, reduceCtorEq, ZA, eq_self, Int.reduceLE, Int.reduceLT, Int.reduceToNat, ne_eq, Nat.reduceSub]
  repeat refine And.intro (by omega) ?_
  repeat refine And.intro (by omega) ?_
  intro g
  simp only [List.map_cons, List.map_nil, updL, upd, Nat.reduceEqDiff, if_true, if_false, ↓reduceIte]
  refine hK _ _ ?_; clear hK K
  refine Cd.block ?_
  refine Cd.loop (fun n ρ M => ∃ g i, i + n = k ∧ ρ = updL [(0, .int .i64 (2 * (d : Int))), (5, .int .i64 (binR (2 * (d : Int)) i)), (7, .int .i64 (k : Int)), (8, .int .i64 (i : Int))] g ∧ M = []) k ⟨_, 0, Nat.zero_add _, rfl, rfl⟩ ?_
  rintro n ρ M ⟨g, i, hi, rfl, rfl⟩
  refine Cd.rs [0, 5, 7, 8, 9] fun K hK => ?_
  simp (maxSteps := 2000000) (disch := first | (simp only [E4] <;> omega) | omega | fail) only [↓E2, E3, bare, bareJ, ↓E0, E1, evP, evPlan, env0, envN, evOps, evOp, evQs, evQ, evV, setD, pureOp, ev, upd, updL, gate, binW, eqOp, binV, intOp, shOp, boolOp, unV, convV, nilV, fieldAddrV, indexAddrV, extractV, cellAt, cellsAt, findB, setB, fillL, buildV, Value.cells, lenV, minV, maxV, hav, sliceV, loV, hiV, bslQ, mksQ, appQ, partsOk, partsCells, delB, eqL, SameI, strOp, apzQ, cvtQ, capV, ↓reduceIte, Zj, Zk, Nat.reduceAdd, Nat.reduceLT, Nat.reduceEqDiff, Nat.reduceMul, Nat.reduceLeDiff, if_true, Zn, reduceCtorEq, ZA, eq_self, Int.reduceLE, Int.reduceLT, Int.reduceToNat, ne_eq, Nat.reduceSub]
  repeat refine And.intro (by omega) ?_
  repeat refine And.intro (by omega) ?_
  intro g
  simp only [List.map_cons, List.map_nil, updL, upd, Nat.reduceEqDiff, if_true, if_false, ↓reduceIte]
  refine hK _ _ ?_; clear hK K
  refine Cd.seq ?_
  refine Cd.condd rfl (fun h1 => ?_) (fun h1 => ?_)
  · have hb := binR_bound d hd i (by omega)
    have hb1 := binR_bound d hd (i + 1) (by omega)
    have hs : binR (2 * (d : Int)) (i + 1) = binR (2 * (d : Int)) i * (2 * (d : Int) - (i : Int)) / ((i : Int) + 1) := rfl
    have p := mul_bd (a := binR (2 * (d : Int)) i) (b := 2 * (d : Int) - (i : Int)) (A := 137846528820) (B := 40) (by omega) (by omega)
    have p0 : 0 ≤ binR (2 * (d : Int)) i * (2 * (d : Int) - (i : Int)) := Int.mul_nonneg (by omega) (by omega)
    generalize hpp : binR (2 * (d : Int)) i * (2 * (d : Int) - (i : Int)) = pp at *
    refine Cd.skip ?_
    refine thenN ?_
    refine Cd.seq ?_
    refine Cd.block ?_
    refine Cd.rs [0, 5, 6, 7, 8] fun K hK => ?_
    simp (maxSteps := 2000000) (disch := first | (simp only [E4] <;> omega) | omega | fail) only [↓E2, E3, bare, bareJ, ↓E0, E1, evP, evPlan, env0, envN, evOps, evOp, evQs, evQ, evV, setD, pureOp, ev, upd, updL, gate, binW, eqOp, binV, intOp, shOp, boolOp, unV, convV, nilV, fieldAddrV, indexAddrV, extractV, cellAt, cellsAt, findB, setB, fillL, buildV, Value.cells, lenV, minV, maxV, hav, sliceV, loV, hiV, bslQ, mksQ, appQ, partsOk, partsCells, delB, eqL, SameI, strOp, apzQ, cvtQ, capV, ↓reduceIte, Zj, Zk, Nat.reduceAdd, Nat.reduceLT, Nat.reduceEqDiff, Nat.reduceMul, Nat.reduceLeDiff, if_true, Zn, reduceCtorEq, ZA, eq_self, Int.reduceLE, Int.reduceLT, Int.reduceToNat, ne_eq, Nat.reduceSub]
    repeat refine And.intro (by omega) ?_
    repeat refine And.intro (by omega) ?_
    intro g
    simp only [List.map_cons, List.map_nil, updL, upd, Nat.reduceEqDiff, if_true, if_false, ↓reduceIte]
    refine hK _ _ ?_; clear hK K
    have hq : pp / ((i : Int) + 1) = binR (2 * (d : Int)) (i + 1) := hs.symm
    skip
    refine Cd.rr [0, 5, 7, 8] fun K hK => ?_
    simp (maxSteps := 2000000) (disch := first | (simp only [E4, hpp, hq] <;> omega) | omega | fail) only [↓E2, E3, bare, bareJ, ↓E0, E1, evP, evPlan, env0, envN, evOps, evOp, evQs, evQ, evV, setD, pureOp, ev, upd, updL, gate, binW, eqOp, binV, intOp, shOp, boolOp, unV, convV, nilV, fieldAddrV, indexAddrV, extractV, cellAt, cellsAt, findB, setB, fillL, buildV, Value.cells, lenV, minV, maxV, hav, sliceV, loV, hiV, bslQ, mksQ, appQ, partsOk, partsCells, delB, eqL, SameI, strOp, apzQ, cvtQ, capV, ↓reduceIte, Zj, Zk, Nat.reduceAdd, Nat.reduceLT, Nat.reduceEqDiff, Nat.reduceMul, Nat.reduceLeDiff, if_true, Zn, reduceCtorEq, ZA, eq_self, Int.reduceLE, Int.reduceLT, Int.reduceToNat, ne_eq, Nat.reduceSub, hpp, hq]
    repeat refine And.intro (by omega) ?_
    repeat refine And.intro (by omega) ?_
    intro g
    simp only [List.map_cons, List.map_nil, updL, upd, Nat.reduceEqDiff, if_true, if_false, ↓reduceIte]
    refine hK _ _ ?_; clear hK K
    refine inBN ?_
    refine thenN ?_
    refine Cd.rr [0, 5, 7, 8] fun K hK => ?_
    simp (maxSteps := 2000000) (disch := first | (simp only [E4, hpp, hq] <;> omega) | omega | fail) only [↓E2, E3, bare, bareJ, ↓E0, E1, evP, evPlan, env0, envN, evOps, evOp, evQs, evQ, evV, setD, pureOp, ev, upd, updL, gate, binW, eqOp, binV, intOp, shOp, boolOp, unV, convV, nilV, fieldAddrV, indexAddrV, extractV, cellAt, cellsAt, findB, setB, fillL, buildV, Value.cells, lenV, minV, maxV, hav, sliceV, loV, hiV, bslQ, mksQ, appQ, partsOk, partsCells, delB, eqL, SameI, strOp, apzQ, cvtQ, capV, ↓reduceIte, Zj, Zk, Nat.reduceAdd, Nat.reduceLT, Nat.reduceEqDiff, Nat.reduceMul, Nat.reduceLeDiff, if_true, Zn, reduceCtorEq, ZA, eq_self, Int.reduceLE, Int.reduceLT, Int.reduceToNat, ne_eq, Nat.reduceSub, hpp, hq]
    repeat refine And.intro (by omega) ?_
    repeat refine And.intro (by omega) ?_
    intro g
    simp only [List.map_cons, List.map_nil, updL, upd, Nat.reduceEqDiff, if_true, if_false, ↓reduceIte]
    refine hK _ _ ?_; clear hK K
    exact roundN (m := n - 1) (by omega) ⟨_, i + 1, by omega, rfl, rfl⟩
  · obtain rfl : i = k := by omega
    refine Cd.exit (thenX (roundX (inBX ?_)))
    refine thenN ?_
    refine Cd.rs [4] fun K hK => ?_
    simp (maxSteps := 2000000) (disch := first | (simp only [E4] <;> omega) | omega | fail) only [↓E2, E3, bare, bareJ, ↓E0, E1, evP, evPlan, env0, envN, evOps, evOp, evQs, evQ, evV, setD, pureOp, ev, upd, updL, gate, binW, eqOp, binV, intOp, shOp, boolOp, unV, convV, nilV, fieldAddrV, indexAddrV, extractV, cellAt, cellsAt, findB, setB, fillL, buildV, Value.cells, lenV, minV, maxV, hav, sliceV, loV, hiV, bslQ, mksQ, appQ, partsOk, partsCells, delB, eqL, SameI, strOp, apzQ, cvtQ, capV, ↓reduceIte, Zj, Zk, Nat.reduceAdd, Nat.reduceLT, Nat.reduceEqDiff, Nat.reduceMul, Nat.reduceLeDiff, if_true, Zn, reduceCtorEq, ZA, eq_self, Int.reduceLE, Int.reduceLT, Int.reduceToNat, ne_eq, Nat.reduceSub]
    repeat refine And.intro (by omega) ?_
    repeat refine And.intro (by omega) ?_
    intro g
    simp only [List.map_cons, List.map_nil, updL, upd, Nat.reduceEqDiff, if_true, if_false, ↓reduceIte]
    refine hK _ _ ?_; clear hK K
    refine Cd.ret ?_
    simp (maxSteps := 2000000) (disch := first | (simp only [E4] <;> omega) | omega | fail) only [↓E2, E3, bare, bareJ, ↓E0, E1, evP, evPlan, env0, envN, evOps, evOp, evQs, evQ, evV, setD, pureOp, ev, upd, updL, gate, binW, eqOp, binV, intOp, shOp, boolOp, unV, convV, nilV, fieldAddrV, indexAddrV, extractV, cellAt, cellsAt, findB, setB, fillL, buildV, Value.cells, lenV, minV, maxV, hav, sliceV, loV, hiV, bslQ, mksQ, appQ, partsOk, partsCells, delB, eqL, SameI, strOp, apzQ, cvtQ, capV, ↓reduceIte, Zj, Zk, Nat.reduceAdd, Nat.reduceLT, Nat.reduceEqDiff, Nat.reduceMul, Nat.reduceLeDiff, if_true, Zn, reduceCtorEq, ZA, eq_self, Int.reduceLE, Int.reduceLT, Int.reduceToNat, ne_eq, Nat.reduceSub]
    repeat refine And.intro (by omega) ?_

end Go.Proofs

