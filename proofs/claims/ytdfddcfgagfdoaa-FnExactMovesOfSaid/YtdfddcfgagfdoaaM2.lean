/-
  Slices in blocks of their own: how they read, grow and are lent. Nothing here is about one program. Conditions: none.
-/
import Derived.ProofKit
import Derived.OpenShut
import Derived.Below
import Derived.ChangeSame
import Derived.Test.YtdfddcfgagfdoaaProg
import Derived.Test.YtdfddcfgagfdoaaM1
namespace Go.W8
set_option linter.unusedVariables false
set_option linter.unusedSimpArgs false
set_option linter.unusedSectionVars false

/-- A row in a block: what it holds, and room behind it. -/
structure Row (w : Nat) (l : List Value) (m cap : Nat) (cs : List Value) : Prop where
  len : l.length = m * w
  le : m ≤ cap
  size : cs.length = cap * w
  pre : ∃ rest, cs = l ++ rest

theorem Row.nil (w : Nat) : Row w [] 0 0 [] := ⟨by simp, Nat.le_refl _, by simp, [], rfl⟩
theorem Row.full {w m : Nat} {l : List Value} (h : l.length = m * w) : Row w l m m l := ⟨h, Nat.le_refl _, h, [], by simp⟩
theorem Row.take {w m cap : Nat} {l cs : List Value} (h : Row w l m cap cs) : cs.take (m * w) = l := by
  obtain ⟨rest, rfl⟩ := h.pre
  rw [← h.len, List.take_left]
theorem Row.snoc {w m cap m' cap' : Nat} {l cs news rest : List Value} (h : Row w l m cap cs) (hn : news.length = m' * w) (hc : m + m' ≤ cap') (hr : rest.length = (cap' - (m + m')) * w) : Row w (l ++ news) (m + m') cap' (cs.take (m * w) ++ news ++ rest) := by
  rw [h.take]
  refine ⟨by rw [List.length_append, h.len, hn, Nat.add_mul], hc, ?_, rest, rfl⟩
  rw [List.length_append, List.length_append, h.len, hn, hr, ← Nat.add_mul, ← Nat.add_mul]
  congr 1
  omega
theorem Row.snoc1 {m cap m' cap' : Nat} {l cs news rest : List Value} (h : Row 1 l m cap cs) (hn : news.length = m') (hc : m + m' ≤ cap') (hr : rest.length = cap' - (m + m')) : Row 1 (l ++ news) (m + m') cap' (cs.take m ++ news ++ rest) := by
  have := h.snoc (m' := m') (news := news) (rest := rest) (by omega) hc (by omega)
  rwa [Nat.mul_one] at this
theorem Row.size1 {m cap : Nat} {l cs : List Value} (h : Row 1 l m cap cs) : cs.length = cap := by rw [h.size, Nat.mul_one]
theorem Row.len1 {m cap : Nat} {l cs : List Value} (h : Row 1 l m cap cs) : l.length = m := by rw [h.len, Nat.mul_one]
theorem Row.first {w m' cap' : Nat} {news rest : List Value} (hn : news.length = m' * w) (hc : m' ≤ cap') (hr : rest.length = (cap' - m') * w) : Row w news m' cap' (news ++ rest) := by
  refine ⟨hn, hc, ?_, rest, rfl⟩
  rw [List.length_append, hn, hr, ← Nat.add_mul]
  congr 1
  omega
theorem Row.get {w m cap : Nat} {l cs : List Value} (h : Row w l m cap cs) {j : Nat} {u : Value} (hu : l[j]? = some u) : cs[j]? = some u := by
  obtain ⟨rest, rfl⟩ := h.pre
  have hj : j < l.length := by
    rcases Nat.lt_or_ge j l.length with h1 | h1
    · exact h1
    · rw [List.getElem?_eq_none h1] at hu; cases hu
  rw [List.getElem?_append_left hj, hu]
theorem Row.set {w m cap : Nat} {l cs : List Value} (h : Row w l m cap cs) {j : Nat} (hj : j < m * w) (u : Value) : Row w (l.set j u) m cap (cs.set j u) := by
  obtain ⟨rest, rfl⟩ := h.pre
  refine ⟨by rw [List.length_set, h.len], h.le, by rw [List.length_set, h.size], rest, ?_⟩
  rw [List.set_append_left _ _ (by rw [h.len]; exact hj)]
theorem Row.sub {w m cap : Nat} {l cs : List Value} (h : Row w l m cap cs) {o n : Nat} (hj : o + n ≤ m * w) : subL cs o n = subL l o n := by
  obtain ⟨rest, rfl⟩ := h.pre
  have := h.len
  unfold subL
  rw [List.drop_append_of_le_length (by omega), List.take_append_of_le_length (by rw [List.length_drop]; omega)]
theorem Row.fits {w m cap : Nat} {l cs : List Value} (h : Row w l m cap cs) {k : Nat} (hk : k ≤ m * w) : k ≤ cs.length := by
  rw [h.size]
  exact Nat.le_trans hk (Nat.mul_le_mul_right _ h.le)
theorem ints_append (k : IntKind) (l l' : List Int) : ints k (l ++ l') = ints k l ++ ints k l' := by simp [ints]
theorem ints_snoc (k : IntKind) (l : List Int) (a : Int) : ints k l ++ [.int k a] = ints k (l ++ [a]) := by simp [ints]

/-- A text of bytes. -/
def strB (l : List Int) : ByteArray := bytesOf (ints .u8 l)
theorem u8s_ints (l : List Int) : U8s (ints .u8 l) = True := eq_true ⟨l, rfl⟩
theorem u8s_sub {l : List Int} {o n : Nat} : U8s (subL (ints .u8 l) o n) = True := eq_true ⟨(l.drop o).take n, by simp [subL, ints]⟩
theorem bytes_strB (l : List Int) : bytesOf (ints .u8 l) = strB l := rfl
theorem push_eq (s : ByteArray) (b : UInt8) : s.push b = ⟨s.data.push b⟩ := rfl
theorem strB_data (l : List Int) : (strB l).data.toList = l.map fun n => UInt8.ofNat n.toNat := by
  have e : strB l = l.foldl (fun r n => r.push (UInt8.ofNat n.toNat)) ByteArray.empty := bytesOf_ints l _
  have key : ∀ (l : List Int) (s : ByteArray), (l.foldl (fun r n => r.push (UInt8.ofNat n.toNat)) s).data.toList = s.data.toList ++ l.map fun n => UInt8.ofNat n.toNat := by
    intro l
    induction l with
    | nil => intro s; simp
    | cons a l ih =>
      intro s
      simp only [List.map_cons, List.foldl_cons]
      rw [ih]
      show (s.data.push _).toList ++ _ = _
      simp
  rw [e, key]
  rfl
theorem bytes_ext {a b : ByteArray} (h : a.data.toList = b.data.toList) : a = b := by
  cases a; cases b
  congr 1
  exact Array.toList_inj.1 h
theorem append_data (a b : ByteArray) : (a ++ b).data.toList = a.data.toList ++ b.data.toList := by
  rw [ByteArray.data_append]; simp
theorem strB_append (l l' : List Int) : strB l ++ strB l' = strB (l ++ l') := bytes_ext (by rw [append_data, strB_data, strB_data, strB_data, List.map_append])
theorem strB_nil : strB [] = ByteArray.empty := rfl
theorem strB_size (l : List Int) : (strB l).size = l.length := by
  show (strB l).data.size = _
  rw [← Array.length_toList, strB_data, List.length_map]
theorem zeroCells_one (v : Value) (n : Nat) : (Builtin.zeroCells [v].toArray n).toList = List.replicate n v := by
  unfold Builtin.zeroCells
  apply List.ext_getElem?
  intro i
  by_cases h : i < n
  · simp [h, Nat.mod_one]
  · simp [h]

/-- A slice and the memory that it has for its own. -/
def SlN (w : Nat) (l : List Value) (v : Value) (M : Blks) : Prop :=
  (l = [] ∧ v = .slice none 0 0 ∧ M = []) ∨ ∃ b m cap cs, v = .slice (some ⟨b, 0, none⟩) m cap ∧ M = [(b, cs)] ∧ Row w l m cap cs
theorem SlN.nil (w : Nat) : SlN w [] (.slice none 0 0) [] := .inl ⟨rfl, rfl, rfl⟩
theorem SlN.row {w b m cap : Nat} {l cs : List Value} (h : Row w l m cap cs) : SlN w l (.slice (some ⟨b, 0, none⟩) m cap) [(b, cs)] := .inr ⟨b, m, cap, cs, rfl, rfl, h⟩

/-- A slice whose cells stand in what is told. -/
def RdS (R : Rd) (w : Nat) (l : List Value) (v : Value) : Prop := ∃ a m cap, v = .slice a m cap ∧ l.length = m * w ∧ (m ≠ 0 → ∃ b cs, a = some ⟨b, 0, none⟩ ∧ (b, 0, cs) ∈ R ∧ ∃ rest, cs = l ++ rest) ∧ (∀ a', a = some a' → ∃ b, a' = ⟨b, 0, none⟩) ∧ m ≤ cap
theorem SlN.reads {w : Nat} {l : List Value} {v : Value} {M : Blks} {R : Rd} (h : SlN w l v M) (hR : ∀ p ∈ M, (p.1, 0, p.2) ∈ R) : RdS R w l v := by
  rcases h with ⟨rfl, rfl, rfl⟩ | ⟨b, m, cap, cs, rfl, rfl, h⟩
  · exact ⟨_, _, _, rfl, by simp, fun hn => absurd rfl hn, (fun _ h => nomatch h), Nat.le_refl _⟩
  · exact ⟨_, _, _, rfl, h.len, fun _ => ⟨b, cs, rfl, hR _ List.mem_cons_self, h.pre⟩, (fun a' e => by cases e; exact ⟨b, rfl⟩), h.le⟩
theorem mem_toldOf {L : Blks} {p : Nat × List Value} (h : p ∈ L) : (p.1, 0, p.2) ∈ toldOf L := List.mem_map.2 ⟨p, h, rfl⟩

/-! ### Slices of slices of numbers -/

inductive RowsI : List (List Int) → List Value → Blks → Prop
  | nil : RowsI [] [] []
  | snoc {ll : List (List Int)} {vs : List Value} {M : Blks} {l : List Int} {v : Value} {Mv : Blks} (h : RowsI ll vs M) (hv : SlN 1 (ints .i64 l) v Mv) : RowsI (ll ++ [l]) (vs ++ [v]) (Mv ++ M)

theorem RowsI.len {ll : List (List Int)} {vs : List Value} {M : Blks} (h : RowsI ll vs M) : vs.length = ll.length := by
  induction h with
  | nil => rfl
  | snoc _ _ ih => simp [ih]

theorem RowsI.split {ll : List (List Int)} {vs : List Value} {M : Blks} (h : RowsI ll vs M) : ∀ {j : Nat}, j < ll.length → ∃ l v A Mj B, ll[j]? = some l ∧ vs[j]? = some v ∧ M = A ++ (Mj ++ B) ∧ SlN 1 (ints .i64 l) v Mj ∧
    ∀ l' v' Mj', SlN 1 (ints .i64 l') v' Mj' → RowsI (ll.set j l') (vs.set j v') (A ++ (Mj' ++ B)) := by
  induction h with
  | nil => intro j hj; simp at hj
  | @snoc ll vs M l v Mv h hv ih =>
    intro j hj
    have hl := h.len
    by_cases hjl : j < ll.length
    · obtain ⟨l0, v0, A, Mj, B, h1, h2, rfl, h4, h5⟩ := ih hjl
      refine ⟨l0, v0, Mv ++ A, Mj, B, by rw [List.getElem?_append_left hjl, h1], by rw [List.getElem?_append_left (by omega), h2], by rw [List.append_assoc], h4, fun l' v' Mj' h6 => ?_⟩
      rw [List.set_append_left _ _ hjl, List.set_append_left _ _ (by omega), List.append_assoc]
      exact .snoc (h5 l' v' Mj' h6) hv
    · have : j = ll.length := by simp at hj; omega
      subst this
      refine ⟨l, v, [], Mv, M, by simp, by rw [← hl]; simp, rfl, hv, fun l' v' Mj' h6 => ?_⟩
      have e1 : (ll ++ [l]).set ll.length l' = ll ++ [l'] := by rw [List.set_append_right _ _ (Nat.le_refl _), Nat.sub_self]; rfl
      have e2 : (vs ++ [v]).set ll.length v' = vs ++ [v'] := by rw [← hl, List.set_append_right _ _ (Nat.le_refl _), Nat.sub_self]; rfl
      rw [e1, e2]
      show RowsI _ _ (Mj' ++ M)
      exact .snoc h h6

theorem RowsI.nils : ∀ n : Nat, RowsI (List.replicate n []) (List.replicate n (.slice none 0 0)) []
  | 0 => .nil
  | n + 1 => by
    rw [List.replicate_succ', List.replicate_succ']
    exact .snoc (Mv := []) (RowsI.nils n) (SlN.nil 1)

def SlSl (ll : List (List Int)) (v : Value) (M : Blks) : Prop :=
  (ll = [] ∧ v = .slice none 0 0 ∧ M = []) ∨ ∃ b m cap cs vs Mi, v = .slice (some ⟨b, 0, none⟩) m cap ∧ M = (b, cs) :: Mi ∧ Row 1 vs m cap cs ∧ RowsI ll vs Mi

def RdSS (R : Rd) (ll : List (List Int)) (v : Value) : Prop := ∃ vs, RdS R 1 vs v ∧ vs.length = ll.length ∧ ∀ (j : Nat) (l : List Int) (u : Value), ll[j]? = some l → vs[j]? = some u → RdS R 1 (ints .i64 l) u

theorem SlSl.reads {ll : List (List Int)} {v : Value} {M : Blks} {R : Rd} (h : SlSl ll v M) (hR : ∀ p ∈ M, (p.1, 0, p.2) ∈ R) : RdSS R ll v := by
  rcases h with ⟨rfl, rfl, rfl⟩ | ⟨b, m, cap, cs, vs, Mi, rfl, rfl, h, hr⟩
  · exact ⟨[], ⟨_, _, _, rfl, by simp, fun hn => absurd rfl hn, (fun _ h => nomatch h), Nat.le_refl _⟩, rfl, fun j l u h => by simp at h⟩
  · refine ⟨vs, ⟨_, _, _, rfl, h.len, fun _ => ⟨b, cs, rfl, hR _ List.mem_cons_self, h.pre⟩, (fun a' e => by cases e; exact ⟨b, rfl⟩), h.le⟩, hr.len, fun j l u hl hu => ?_⟩
    have hj : j < ll.length := by
      rcases Nat.lt_or_ge j ll.length with h1 | h1
      · exact h1
      · rw [List.getElem?_eq_none h1] at hl; cases hl
    obtain ⟨l0, v0, A, Mj, B, h1, h2, rfl, h4, _⟩ := hr.split hj
    rw [h1] at hl
    rw [h2] at hu
    cases hl
    cases hu
    exact h4.reads fun p hp => hR p (by simp [hp])

/-- A value beside a code. -/
def ResS (rep : Value → Blks → Prop) (c : Int) (v : Value) (M : Blks) : Prop := ∃ s, v = .tuple #[s, .int .i64 c] ∧ rep s M

theorem nodup_left {A B : Blks} (h : ((A ++ B).map (·.1)).Nodup) : (A.map (·.1)).Nodup := by
  rw [List.map_append, List.nodup_append] at h; exact h.1
theorem nodup_right {A B : Blks} (h : ((A ++ B).map (·.1)).Nodup) : ∀ p ∈ B, p.1 ∉ A.map (·.1) := by
  rw [List.map_append, List.nodup_append] at h
  exact fun p hp hm => h.2.2 _ hm _ (List.mem_map_of_mem hp) rfl

section
variable {P : Program} {N : Nat} {W : List Nat} {w0 : World} {ρ : Env} {M M' : Blks}

theorem RdS.get {R : Rd} {w m cap j : Nat} {l : List Value} {a : Option Addr} {u : Value} (h : RdS R w l (.slice a m cap)) (ht : Told W w0 R) (hu : l[j]? = some u) : ∃ b, a = some ⟨b, 0, none⟩ ∧ frn W w0 b j = some u := by
  obtain ⟨a', m', cap', e, hl, h, _⟩ := h
  cases e
  have hj : j < l.length := by
    rcases Nat.lt_or_ge j l.length with h1 | h1
    · exact h1
    · rw [List.getElem?_eq_none h1] at hu; cases hu
  obtain ⟨b, cs, rfl, hm, rest, rfl⟩ := h (fun e => by rw [e, Nat.zero_mul] at hl; omega)
  refine ⟨b, rfl, ?_⟩
  have := ht _ hm j u (by simp only; rw [List.getElem?_append_left hj, hu])
  simpa using this

/-- Some cells in a row. -/
theorem RdS.many {R : Rd} {w m cap o n : Nat} {l : List Value} {a : Option Addr} (h : RdS R w l (.slice a m cap)) (ht : Told W w0 R) (hn : o + n ≤ l.length) (h0 : n ≠ 0 := by omega) : ∃ b, a = some ⟨b, 0, none⟩ ∧ (List.range n).mapM (fun j => frn W w0 b (o + j)) = some (subL l o n) := by
  obtain ⟨b, rfl, _⟩ := h.get ht (List.getElem?_eq_getElem (show o < l.length by omega))
  refine ⟨b, rfl, mapM_told (by simp [subL]; omega) fun j x y hx hy => ?_⟩
  have hj : j < n := by
    rcases Nat.lt_or_ge j n with h1 | h1
    · exact h1
    · rw [List.getElem?_eq_none (by simpa using h1)] at hx; cases hx
  rw [List.getElem?_range hj] at hx
  cases hx
  have e : l[o + j]? = some y := by
    simpa [subL, List.getElem?_take, List.getElem?_drop, hj] using hy
  obtain ⟨b', e', hb⟩ := h.get ht e
  cases e'
  exact hb

theorem findB_of {b : Nat} {cs : List Value} : ∀ {M : Blks}, (M.map (·.1)).Nodup → (b, cs) ∈ M → findB b M = some cs
  | [], _, h => nomatch h
  | (b', cs') :: M, hn, h => by
    simp only [List.map_cons, List.nodup_cons] at hn
    unfold findB
    rcases List.mem_cons.1 h with e | h
    · cases e; rw [if_pos rfl]
    · rw [if_neg, findB_of hn.2 h]
      rintro rfl
      exact hn.1 (List.mem_map.2 ⟨_, h, rfl⟩)

theorem holds_mem {L : Blks} (hn : (M.map (·.1)).Nodup) (h : ∀ p ∈ L, p ∈ M) : HoldsAll W w0 M (toldOf L) := by
  intro r hr
  obtain ⟨p, hp, rfl⟩ := List.mem_map.1 hr
  intro j v hv
  unfold cellAt
  rw [findB_of hn (h p hp)]
  simpa using hv

theorem told_append {R R' : Rd} : Told W w0 (R ++ R') ↔ Told W w0 R ∧ Told W w0 R' := by
  refine ⟨fun h => ⟨fun r hr => h r (List.mem_append_left _ hr), fun r hr => h r (List.mem_append_right _ hr)⟩, fun h r hr => ?_⟩
  rcases List.mem_append.1 hr with hr | hr
  · exact h.1 r hr
  · exact h.2 r hr

theorem nodup_cases {b : Nat} {cs : List Value} (h : (((b, cs) :: M).map (·.1)).Nodup) : (∀ p ∈ M, ¬ b = p.1) ∧ (M.map (·.1)).Nodup := by
  simp only [List.map_cons, List.nodup_cons] at h
  exact ⟨fun p hp e => h.1 (by rw [e]; exact List.mem_map_of_mem hp), h.2⟩

theorem callK_told0 {N : Nat} {n : FuncId} {args : List Value} {v : Value} {R : Rd} {d : Option Tmp} {ops : Array Oper} {rest : List Oper} {K : Env → Blks → Prop} (h : GivesR P n args.toArray R v)
    (hR : Told W w0 R) (hk : setD N ρ d v fun ρ' => evOps P N W w0 ops rest ρ' M K) : callK P N W w0 (.func (.func n) #[] #[]) args M d ρ ops rest K := callK_told (by simpa using h) hR hk
theorem callQ_told0 {N : Nat} {n : FuncId} {args : List Value} {v : Value} {R : Rd} {d : Option Tmp} {ops : Array Oper} {rest : List Oper} {K : Env → Prop} (h : GivesR P n args.toArray R v)
    (hR : Told W w0 R) (hk : setD N ρ d v fun ρ' => evQs P N W w0 ops rest ρ' M K) : callQ P N W w0 (.func (.func n) #[] #[]) args M d ρ ops rest K := callQ_told (by simpa using h) hR hk
theorem callQ_reads0 {N : Nat} {n : FuncId} {args : List Value} {v : Value} {R : Rd} {d : Option Tmp} {ops : Array Oper} {rest : List Oper} {K : Env → Prop} (h : GivesR P n args.toArray R v)
    (hR : HoldsAll W w0 M R) (hk : setD N ρ d v fun ρ' => evQs P N W w0 ops rest ρ' M K) : callQ P N W w0 (.func (.func n) #[] #[]) args M d ρ ops rest K := callQ_reads (by simpa using h) hR hk
theorem callP_reads0 {N : Nat} {n : FuncId} {args : List Value} {v : Value} {R : Rd} {d : Option Tmp} {ops : Array Oper} {p : Plan} {K : Env → Blks → Prop} (h : GivesR P n args.toArray R v)
    (hR : HoldsAll W w0 M R) (hk : setD N ρ d v fun ρ' => evPlan P N W w0 ops p ρ' M K) : callP P N W w0 (.func (.func n) #[] #[]) args M d ρ ops p K := callP_reads (by simpa using h) hR hk
theorem set_self {α : Type} {l : List α} {i : Nat} {v : α} (h : l[i]? = some v) : l.set i v = l := by
  apply List.ext_getElem?
  intro j
  by_cases e : i = j
  · subst e
    have hi : i < l.length := by
      rcases Nat.lt_or_ge i l.length with h1 | h1
      · exact h1
      · rw [List.getElem?_eq_none h1] at h; cases h
    rw [List.getElem?_set_self hi, h]
  · rw [List.getElem?_set_ne e]
theorem Cd.same {N : Nat} {Q : Exit → Env → Blks → Prop} {c : Operand} {x y : Code} {a b : Int} (hc : ev ρ c = .bool (a != b)) (he : a = b) (hf : Cd P N W w0 y Q ρ M) : Cd P N W w0 (.cond c x y) Q ρ M :=
  Cd.no (by rw [hc, bne_eq_false_iff_eq.2 he]) hf
def SubP (M0 M : Blks) : Prop := ∃ M1, M0.Perm M1 ∧ M1.Sublist M
theorem SubP.refl (M : Blks) : SubP M M := ⟨M, .refl _, .refl _⟩
theorem SubP.of {M0 M : Blks} (h : M0.Sublist M) : SubP M0 M := ⟨M0, .refl _, h⟩
theorem SubP.perm {M0 M1 M : Blks} (h : M0.Perm M1) (hs : M1.Sublist M) : SubP M0 M := ⟨M1, h, hs⟩
theorem perm_one {a b : Nat × List Value} {M : Blks} : (b :: a :: M).Perm (a :: b :: M) := .swap ..
theorem perm_two {a b c : Nat × List Value} {M : Blks} : (b :: c :: a :: M).Perm (a :: b :: c :: M) := (perm_one.cons b).trans perm_one
theorem perm_thr {a b c d : Nat × List Value} {M : Blks} : (b :: c :: d :: a :: M).Perm (a :: b :: c :: d :: M) := (perm_two.cons b).trans perm_one
theorem perm_fou {a b c d e : Nat × List Value} {M : Blks} : (b :: c :: d :: e :: a :: M).Perm (a :: b :: c :: d :: e :: M) := (perm_thr.cons b).trans perm_one
theorem Cd.sub {N : Nat} {Q : Exit → Env → Blks → Prop} {c : Code} (hs : SubP M' M) (h : Cd P N W w0 c Q ρ M') : Cd P N W w0 c Q ρ M := by
  obtain ⟨M1, h1, h2⟩ := hs
  exact Cd.drop h2 (Cd.turn h1 h)
/-- Of the blocks only some, in some order. -/
theorem Cd.subp {N : Nat} {Q : Exit → Env → Blks → Prop} {c : Code} {M1 : Blks} (hp : M'.Perm M1) (hs : M1.Sublist M) (h : Cd P N W w0 c Q ρ M') : Cd P N W w0 c Q ρ M := Cd.drop hs (Cd.turn hp h)

/-- A call that hands back new memory, which is told behind what was there. -/
theorem callK_newR {N : Nat} {n : FuncId} {args : List Value} {fs cs : Array Value} {d : Option Tmp} {ops : Array Oper} {rest : List Oper} {R : Rd} {Post : Value → Blks → Prop} {K : Env → Blks → Prop} (h : GivesX P n (fs.toList ++ (args ++ cs.toList)).toArray [] R Post)
    (hR : ∀ w, Own W w0 M w → ToldW w R) (hk : ∀ v M', Post v M' → ((M ++ M').map (·.1)).Nodup → (∀ p ∈ M', Fresh w0 M p.1) → setD N ρ d v fun ρ' => evOps P N W w0 ops rest ρ' (M ++ M') K) : callK P N W w0 (.func (.func n) fs cs) args M d ρ ops rest K := by
  refine ⟨h.1, fun w hw => (h.2 w List.nodup_nil (fun _ hp => nomatch hp) (hR w hw)).mono ?_⟩
  rintro e w' ⟨v, M', rfl, hw', hp⟩
  have ho : Own W w0 (M' ++ M) w' := hw.thenL (L := []) (fun _ hp => nomatch hp) (List.Sublist.refl _) (fun _ _ hm => nomatch hm) hw'
  have hper : (M ++ M').Perm (M' ++ M) := List.perm_append_comm
  have hn := (hper.map (·.1)).nodup_iff.2 ho.nodup
  refine ⟨v, M ++ M', rfl, ho.turn (fun p hp => hper.subset hp) hn, hk v M' hp hn fun p hp => ?_⟩
  rcases hw'.own p hp with h1 | h1
  · exact nomatch h1
  · exact ⟨Nat.le_trans hw.size h1, fun q hq => by have := hw.lt hq; omega⟩
theorem callK_newR0 {N : Nat} {n : FuncId} {args : List Value} {d : Option Tmp} {ops : Array Oper} {rest : List Oper} {R : Rd} {Post : Value → Blks → Prop} {K : Env → Blks → Prop} (h : GivesX P n args.toArray [] R Post)
    (hR : ∀ w, Own W w0 M w → ToldW w R) (hk : ∀ v M', Post v M' → ((M ++ M').map (·.1)).Nodup → (∀ p ∈ M', Fresh w0 M p.1) → setD N ρ d v fun ρ' => evOps P N W w0 ops rest ρ' (M ++ M') K) : callK P N W w0 (.func (.func n) #[] #[]) args M d ρ ops rest K :=
  callK_newR (by simpa using h) hR hk
/-- Of the memory that a call hands back only a part is told. -/
theorem GivesX.part {f : FuncId} {args : Array Value} {L : Blks} {R : Rd} {Post : Value → Blks → Prop} (h : GivesX P f args L R fun v M => ∃ M1, SubP M1 M ∧ Post v M1) : GivesX P f args L R Post :=
  ⟨h.1, fun w hn hL hR => (h.2 w hn hL hR).mono fun _ _ ⟨v, M', h1, h2, M1, ⟨M2, h3, h4⟩, h5⟩ =>
    ⟨v, M1, h1, (h2.sub h4).turn (fun p hp => h3.subset hp) ((h3.map (·.1)).nodup_iff.2 (h2.sub h4).nodup), h5⟩⟩

/-- A call in a plan that may turn memory, closed to the walk's own reckoning. -/
def callO (P : Program) (N : Nat) (W : List Nat) (w0 : World) (f : Value) (args : List Value) (M : Blks) (d : Option Tmp) (ρ : Env) (ops : Array Oper) (p : Plan) (K : Env → Blks → Prop) : Prop :=
  match f with
  | .func (.func n) first captured => ACall P W w0 n (first.toList ++ (args ++ captured.toList)).toArray M fun v M' => setD N ρ d v fun ρ' => evPlan P N W w0 ops p ρ' M' K
  | _ => False
theorem evOp_callO {N : Nat} {f : Operand} {args : Array Operand} {ts : Array TypeId} {d : Option Tmp} {T : TypeId} {pos : String} {aft : Array Edge} {g : Option (Nat × Bool)} {ops : Array Oper} {p : Plan} {K : Env → Blks → Prop} :
    evOp P N W w0 ⟨d, .call ⟨.value f, args, ts⟩, T, pos, aft, g⟩ ρ M (fun ρ' M' => evPlan P N W w0 ops p ρ' M' K) = callO P N W w0 (ev ρ f) (args.toList.map (ev ρ)) M d ρ ops p K := by
  unfold evOp callO
  rfl
theorem callO_gives {N : Nat} {n : FuncId} {args : List Value} {v : Value} {d : Option Tmp} {ops : Array Oper} {p : Plan} {K : Env → Blks → Prop} (h : Gives P n args.toArray v)
    (hk : setD N ρ d v fun ρ' => evPlan P N W w0 ops p ρ' M K) : callO P N W w0 (.func (.func n) #[] #[]) args M d ρ ops p K := by
  unfold callO
  simp only [List.append_nil, List.nil_append]
  exact h.acall hk
theorem callO_reads0 {N : Nat} {n : FuncId} {args : List Value} {v : Value} {R : Rd} {d : Option Tmp} {ops : Array Oper} {p : Plan} {K : Env → Blks → Prop} (h : GivesR P n args.toArray R v)
    (hR : HoldsAll W w0 M R) (hk : setD N ρ d v fun ρ' => evPlan P N W w0 ops p ρ' M K) : callO P N W w0 (.func (.func n) #[] #[]) args M d ρ ops p K := by
  unfold callO
  simp only [List.append_nil, List.nil_append]
  exact (h.qcall hR).acall hk
/-- A call that hands back new memory, which is told behind what was there. -/
theorem callO_newR {N : Nat} {n : FuncId} {args : List Value} {fs cs : Array Value} {d : Option Tmp} {ops : Array Oper} {p : Plan} {R : Rd} {Post : Value → Blks → Prop} {K : Env → Blks → Prop} (h : GivesX P n (fs.toList ++ (args ++ cs.toList)).toArray [] R Post)
    (hR : ∀ w, Own W w0 M w → ToldW w R) (hk : ∀ v M', Post v M' → ((M ++ M').map (·.1)).Nodup → (∀ p1 ∈ M', Fresh w0 M p1.1) → setD N ρ d v fun ρ' => evPlan P N W w0 ops p ρ' (M ++ M') K) : callO P N W w0 (.func (.func n) fs cs) args M d ρ ops p K := by
  refine ⟨h.1, fun w hw => (h.2 w List.nodup_nil (fun _ hp => nomatch hp) (hR w hw)).mono ?_⟩
  rintro e w' ⟨v, M', rfl, hw', hp⟩
  have ho : Own W w0 (M' ++ M) w' := hw.thenL (L := []) (fun _ hp => nomatch hp) (List.Sublist.refl _) (fun _ _ hm => nomatch hm) hw'
  have hper : (M ++ M').Perm (M' ++ M) := List.perm_append_comm
  have hn := (hper.map (·.1)).nodup_iff.2 ho.nodup
  refine ⟨v, M ++ M', rfl, ho.turn (fun p hp => hper.subset hp) hn, hk v M' hp hn fun p hp => ?_⟩
  rcases hw'.own p hp with h1 | h1
  · exact nomatch h1
  · exact ⟨Nat.le_trans hw.size h1, fun q hq => by have := hw.lt hq; omega⟩
theorem callO_newR0 {N : Nat} {n : FuncId} {args : List Value} {d : Option Tmp} {ops : Array Oper} {p : Plan} {R : Rd} {Post : Value → Blks → Prop} {K : Env → Blks → Prop} (h : GivesX P n args.toArray [] R Post)
    (hR : ∀ w, Own W w0 M w → ToldW w R) (hk : ∀ v M', Post v M' → ((M ++ M').map (·.1)).Nodup → (∀ p1 ∈ M', Fresh w0 M p1.1) → setD N ρ d v fun ρ' => evPlan P N W w0 ops p ρ' (M ++ M') K) : callO P N W w0 (.func (.func n) #[] #[]) args M d ρ ops p K :=
  callO_newR (by simpa using h) hR hk

end
end Go.W8

/-
  The rules that reckon a piece of code, bundled. Nothing here is about one program. Conditions: none.
-/
namespace Go.W8
set_option linter.unusedVariables false
set_option maxRecDepth 10000

theorem E0 : (((type_of% @guardQ_tt) ∧ (type_of% @guardQ_ff)) ∧ ((type_of% @guardQ_tf) ∧ ((type_of% @guardQ_ft) ∧ (type_of% @evOp_call)))) ∧ (((type_of% @evQ_call) ∧ (type_of% @evV_call)) ∧ ((type_of% @evOp_callO) ∧ ((type_of% @appIf_pos) ∧ (type_of% @appIf_zero)))) := ⟨⟨⟨@guardQ_tt, @guardQ_ff⟩, ⟨@guardQ_tf, ⟨@guardQ_ft, @evOp_call⟩⟩⟩, ⟨⟨@evQ_call, @evV_call⟩, ⟨@evOp_callO, ⟨@appIf_pos, @appIf_zero⟩⟩⟩⟩
theorem E1 : ((((((type_of% @guardQ_and) ∧ ((type_of% @true_and) ∧ (type_of% @and_true))) ∧ ((type_of% @or_self) ∧ ((type_of% @or_false) ∧ (type_of% @false_or)))) ∧ (((type_of% @and_self) ∧ ((type_of% @and_false) ∧ (type_of% @false_and))) ∧ (((type_of% @List.getElem?_toArray.{0}) ∧ (type_of% @List.getElem?_cons_zero.{0})) ∧ ((type_of% @List.getElem?_cons_succ.{0}) ∧ (type_of% @Option.bind_some.{0, 0}))))) ∧ ((((type_of% @Option.map_some.{0, 0}) ∧ ((type_of% @Bool.not_true) ∧ (type_of% @Bool.not_false))) ∧ (((type_of% @false_implies) ∧ (type_of% @true_implies)) ∧ ((type_of% @List.map_cons.{0, 0}) ∧ (type_of% @List.map_nil.{0, 0})))) ∧ (((type_of% @List.nil_append.{0}) ∧ ((type_of% @List.append_nil.{0}) ∧ (type_of% @List.toList_toArray.{0}))) ∧ (((type_of% @Nat.zero_add) ∧ (type_of% @Nat.add_zero)) ∧ ((type_of% @Nat.mul_one) ∧ (type_of% @Int.toNat_natCast)))))) ∧ (((((type_of% @List.size_toArray.{0}) ∧ ((type_of% @List.length_cons.{0}) ∧ (type_of% @List.length_nil.{0}))) ∧ (((type_of% @List.mem_cons.{0}) ∧ (type_of% @List.not_mem_nil.{0})) ∧ ((type_of% @stC_one) ∧ (type_of% @stC_full)))) ∧ (((type_of% @stC_gc_x) ∧ ((type_of% @stC_gc_o) ∧ (type_of% @sub_full))) ∧ (((type_of% @splice_full) ∧ (type_of% @splice_gc_s)) ∧ ((type_of% @splice_gc_x) ∧ (type_of% @splice_gc_o))))) ∧ ((((type_of% @sub_gc_x) ∧ ((type_of% @sub_gc_o) ∧ (type_of% @ones_gc))) ∧ (((type_of% @ones_ints) ∧ (type_of% @ones_bools)) ∧ ((type_of% @ones_int) ∧ (type_of% @ones_bool)))) ∧ (((type_of% @ones_ptr) ∧ ((type_of% @ones_slc) ∧ (type_of% @ones_str))) ∧ (((type_of% @ones_func) ∧ (type_of% @gc_length)) ∧ ((type_of% @ints_length) ∧ (type_of% @bools_length))))))) ∧ ((((((type_of% @upto_length) ∧ ((type_of% @List.length_set.{0}) ∧ (type_of% @z8_len))) ∧ (((type_of% @List.length_replicate.{0}) ∧ (type_of% @wrap_i64)) ∧ ((type_of% @wrap_u8) ∧ (type_of% @gc_s)))) ∧ (((type_of% @gc_x) ∧ ((type_of% @gc_o) ∧ (type_of% @gc_set_s))) ∧ (((type_of% @gc_set_x) ∧ (type_of% @gc_set_o)) ∧ ((type_of% @ints_get) ∧ (type_of% @ints_set))))) ∧ ((((type_of% @bools_get) ∧ ((type_of% @bools_set) ∧ (type_of% @List.length_map.{0, 0}))) ∧ (((type_of% @decide_eq_true_eq) ∧ (type_of% @Int.tmod_eq_emod_of_nonneg)) ∧ ((type_of% @Int.tdiv_eq_ediv_of_nonneg) ∧ (type_of% @retQ_ret)))) ∧ (((type_of% @retQ_normal) ∧ ((type_of% @endQ_1) ∧ (type_of% @endQ_2))) ∧ (((type_of% @endQ_3) ∧ (type_of% @resV_tmp)) ∧ ((type_of% @resV_cell) ∧ (type_of% @bne_self_eq_false.{0})))))) ∧ (((((type_of% @beq_self_eq_true.{0}) ∧ ((type_of% @Int.cast_ofNat_Int) ∧ (type_of% @Int.toNat_zero))) ∧ (((type_of% @Int.toNat_natCast) ∧ (type_of% @Nat.zero_le)) ∧ ((type_of% @Int.natCast_nonneg) ∧ (type_of% @Int.le_refl)))) ∧ (((type_of% @Option.map_none.{0, 0}) ∧ ((type_of% @Nat.zero_mul) ∧ (type_of% @Option.getD_none.{0}))) ∧ (((type_of% @Option.getD_some.{0}) ∧ (type_of% @not_false_eq_true)) ∧ ((type_of% @Nat.sub_zero) ∧ (type_of% @List.map_toArray.{0, 0}))))) ∧ ((((type_of% @splice_succ) ∧ ((type_of% @splice_zero) ∧ (type_of% @tab_len))) ∧ (((type_of% @ones_nil) ∧ (type_of% @ones_cons_int)) ∧ ((type_of% @ones_cons_slc) ∧ (type_of% @sameI_gc)))) ∧ (((type_of% @eqL_gc) ∧ ((type_of% @List.set_cons_zero.{0}) ∧ (type_of% @List.set_cons_succ.{0}))) ∧ (((type_of% @Go.toList_madeCells_one) ∧ (type_of% @u8s_ints)) ∧ ((type_of% @bytes_strB) ∧ (type_of% @zeroCells_one))))))) := ⟨⟨⟨⟨⟨⟨@guardQ_and, ⟨@true_and, @and_true⟩⟩, ⟨@or_self, ⟨@or_false, @false_or⟩⟩⟩, ⟨⟨@and_self, ⟨@and_false, @false_and⟩⟩, ⟨⟨@List.getElem?_toArray.{0}, @List.getElem?_cons_zero.{0}⟩, ⟨@List.getElem?_cons_succ.{0}, @Option.bind_some.{0, 0}⟩⟩⟩⟩, ⟨⟨⟨@Option.map_some.{0, 0}, ⟨@Bool.not_true, @Bool.not_false⟩⟩, ⟨⟨@false_implies, @true_implies⟩, ⟨@List.map_cons.{0, 0}, @List.map_nil.{0, 0}⟩⟩⟩, ⟨⟨@List.nil_append.{0}, ⟨@List.append_nil.{0}, @List.toList_toArray.{0}⟩⟩, ⟨⟨@Nat.zero_add, @Nat.add_zero⟩, ⟨@Nat.mul_one, @Int.toNat_natCast⟩⟩⟩⟩⟩, ⟨⟨⟨⟨@List.size_toArray.{0}, ⟨@List.length_cons.{0}, @List.length_nil.{0}⟩⟩, ⟨⟨@List.mem_cons.{0}, @List.not_mem_nil.{0}⟩, ⟨@stC_one, @stC_full⟩⟩⟩, ⟨⟨@stC_gc_x, ⟨@stC_gc_o, @sub_full⟩⟩, ⟨⟨@splice_full, @splice_gc_s⟩, ⟨@splice_gc_x, @splice_gc_o⟩⟩⟩⟩, ⟨⟨⟨@sub_gc_x, ⟨@sub_gc_o, @ones_gc⟩⟩, ⟨⟨@ones_ints, @ones_bools⟩, ⟨@ones_int, @ones_bool⟩⟩⟩, ⟨⟨@ones_ptr, ⟨@ones_slc, @ones_str⟩⟩, ⟨⟨@ones_func, @gc_length⟩, ⟨@ints_length, @bools_length⟩⟩⟩⟩⟩⟩, ⟨⟨⟨⟨⟨@upto_length, ⟨@List.length_set.{0}, @z8_len⟩⟩, ⟨⟨@List.length_replicate.{0}, @wrap_i64⟩, ⟨@wrap_u8, @gc_s⟩⟩⟩, ⟨⟨@gc_x, ⟨@gc_o, @gc_set_s⟩⟩, ⟨⟨@gc_set_x, @gc_set_o⟩, ⟨@ints_get, @ints_set⟩⟩⟩⟩, ⟨⟨⟨@bools_get, ⟨@bools_set, @List.length_map.{0, 0}⟩⟩, ⟨⟨@decide_eq_true_eq, @Int.tmod_eq_emod_of_nonneg⟩, ⟨@Int.tdiv_eq_ediv_of_nonneg, @retQ_ret⟩⟩⟩, ⟨⟨@retQ_normal, ⟨@endQ_1, @endQ_2⟩⟩, ⟨⟨@endQ_3, @resV_tmp⟩, ⟨@resV_cell, @bne_self_eq_false.{0}⟩⟩⟩⟩⟩, ⟨⟨⟨⟨@beq_self_eq_true.{0}, ⟨@Int.cast_ofNat_Int, @Int.toNat_zero⟩⟩, ⟨⟨@Int.toNat_natCast, @Nat.zero_le⟩, ⟨@Int.natCast_nonneg, @Int.le_refl⟩⟩⟩, ⟨⟨@Option.map_none.{0, 0}, ⟨@Nat.zero_mul, @Option.getD_none.{0}⟩⟩, ⟨⟨@Option.getD_some.{0}, @not_false_eq_true⟩, ⟨@Nat.sub_zero, @List.map_toArray.{0, 0}⟩⟩⟩⟩, ⟨⟨⟨@splice_succ, ⟨@splice_zero, @tab_len⟩⟩, ⟨⟨@ones_nil, @ones_cons_int⟩, ⟨@ones_cons_slc, @sameI_gc⟩⟩⟩, ⟨⟨@eqL_gc, ⟨@List.set_cons_zero.{0}, @List.set_cons_succ.{0}⟩⟩, ⟨⟨@Go.toList_madeCells_one, @u8s_ints⟩, ⟨@bytes_strB, @zeroCells_one⟩⟩⟩⟩⟩⟩⟩
theorem E2 : (type_of% @evOps_guard) ∧ (type_of% @evQs_guard) := ⟨@evOps_guard, @evQs_guard⟩
theorem E3 : ((type_of% @List.take_succ_cons.{0}) ∧ (type_of% @List.take_zero.{0})) ∧ ((type_of% @List.drop_succ_cons.{0}) ∧ (type_of% @List.drop_zero.{0})) := ⟨⟨@List.take_succ_cons.{0}, @List.take_zero.{0}⟩, ⟨@List.drop_succ_cons.{0}, @List.drop_zero.{0}⟩⟩
theorem E4 : (((type_of% @gc_length) ∧ (type_of% @ints_length)) ∧ ((type_of% @bools_length) ∧ ((type_of% @upto_length) ∧ (type_of% @List.length_set.{0})))) ∧ (((type_of% @z8_len) ∧ (type_of% @List.length_replicate.{0})) ∧ ((type_of% @List.length_cons.{0}) ∧ ((type_of% @List.length_nil.{0}) ∧ (type_of% @tab_len)))) := ⟨⟨⟨@gc_length, @ints_length⟩, ⟨@bools_length, ⟨@upto_length, @List.length_set.{0}⟩⟩⟩, ⟨⟨@z8_len, @List.length_replicate.{0}⟩, ⟨@List.length_cons.{0}, ⟨@List.length_nil.{0}, @tab_len⟩⟩⟩⟩
end Go.W8

/-
  Facts on the types of the program, each reckoned by the kernel. Conditions: none.
-/
namespace Go.Proofs
open Go.W8
theorem Tagg2 : aggT Try.prog 2 = false := by kernel_rfl
theorem Tagg47 : aggT Try.prog 47 = false := by kernel_rfl
theorem Tarr100 : arrT Try.prog 100 = some (8, 1) := by kernel_rfl
theorem Tarr110 : arrT Try.prog 110 = some (8, 1) := by kernel_rfl
theorem Tarr113 : arrT Try.prog 113 = some (8, 8) := by kernel_rfl
theorem Tarr163 : arrT Try.prog 163 = some (8, 1) := by kernel_rfl
theorem Tarr166 : arrT Try.prog 166 = some (129, 1) := by kernel_rfl
theorem Tarr30 : arrT Try.prog 30 = some (8, 1) := by kernel_rfl
theorem Tarr80 : arrT Try.prog 80 = some (8, 1) := by kernel_rfl
theorem Tarre166 : arrE Try.prog 166 = some 2 := by kernel_rfl
theorem Tbld100 : bldP Try.prog 100 = some (ints .i64 z8, [(0, 1), (1, 1), (2, 1), (3, 1), (4, 1), (5, 1), (6, 1), (7, 1)]) := by kernel_rfl
theorem Tbld110 : bldP Try.prog 110 = some (ints .i64 z8, [(0, 1), (1, 1), (2, 1), (3, 1), (4, 1), (5, 1), (6, 1), (7, 1)]) := by kernel_rfl
theorem Tbld113 : bldP Try.prog 113 = some (ints .i64 (List.replicate 64 0), [(0, 8), (8, 8), (16, 8), (24, 8), (32, 8), (40, 8), (48, 8), (56, 8)]) := by kernel_rfl
theorem Tbld117 : bldP Try.prog 117 = some ([.int .i64 0, .int .i64 0, .int .i64 0], [(0, 1), (1, 1), (2, 1)]) := by kernel_rfl
theorem Tbld145 : bldP Try.prog 145 = some ([.slice none 0 0, .int .i64 0, .int .u64 0], [(0, 1), (1, 1), (2, 1)]) := by kernel_rfl
theorem Tbld163 : bldP Try.prog 163 = some (bools (List.replicate 8 false), [(0, 1), (1, 1), (2, 1), (3, 1), (4, 1), (5, 1), (6, 1), (7, 1)]) := by kernel_rfl
theorem Tbld30 : bldP Try.prog 30 = some (ints .u8 z8, [(0, 1), (1, 1), (2, 1), (3, 1), (4, 1), (5, 1), (6, 1), (7, 1)]) := by kernel_rfl
theorem Tbld32 : bldP Try.prog 32 = some (gc 0 z8 z8, [(0, 1), (1, 8), (9, 8)]) := by kernel_rfl
theorem Tbld56 : bldP Try.prog 56 = some ([.int .i64 0, .slice none 0 0], [(0, 1), (1, 1)]) := by kernel_rfl
theorem Tbld80 : bldP Try.prog 80 = some (ints .u8 z8, [(0, 1), (1, 1), (2, 1), (3, 1), (4, 1), (5, 1), (6, 1), (7, 1)]) := by kernel_rfl
theorem Tbld87 : bldP Try.prog 87 = some ([.int .i64 0, .int .i64 0, .int .i64 0, .int .i64 0], [(0, 1), (1, 1), (2, 1), (3, 1)]) := by kernel_rfl
theorem Tbld93 : bldP Try.prog 93 = some ([.int .i64 0, .int .i64 0, .int .i64 0, .int .i64 0, .int .i64 0, .int .i64 0], [(0, 1), (1, 1), (2, 1), (3, 1), (4, 1), (5, 1)]) := by kernel_rfl
theorem Tbool4 : boolT Try.prog 4 = true := by kernel_rfl
theorem Tby117 : bytesT Try.prog 117 = 24 := by kernel_rfl
theorem Tby132 : bytesT Try.prog 132 = 24 := by kernel_rfl
theorem Tby166 : bytesT Try.prog 166 = 1032 := by kernel_rfl
theorem Tby2 : bytesT Try.prog 2 = 8 := by kernel_rfl
theorem Tby3 : bytesT Try.prog 3 = 8 := by kernel_rfl
theorem Tby47 : bytesT Try.prog 47 = 24 := by kernel_rfl
theorem Tby80 : bytesT Try.prog 80 = 8 := by kernel_rfl
theorem Tby93 : bytesT Try.prog 93 = 48 := by kernel_rfl
theorem Teqt32 : eqT Try.prog 32 = some 17 := by kernel_rfl
theorem Teqt93 : eqT Try.prog 93 = some 6 := by kernel_rfl
theorem Tfld117_0 : fldO Try.prog 117 0 = some (0, 2) := by kernel_rfl
theorem Tfld117_1 : fldO Try.prog 117 1 = some (1, 2) := by kernel_rfl
theorem Tfld117_2 : fldO Try.prog 117 2 = some (2, 2) := by kernel_rfl
theorem Tfld145_0 : fldO Try.prog 145 0 = some (0, 28) := by kernel_rfl
theorem Tfld145_1 : fldO Try.prog 145 1 = some (1, 3) := by kernel_rfl
theorem Tfld145_2 : fldO Try.prog 145 2 = some (2, 143) := by kernel_rfl
theorem Tfld32_0 : fldO Try.prog 32 0 = some (0, 2) := by kernel_rfl
theorem Tfld32_1 : fldO Try.prog 32 1 = some (1, 30) := by kernel_rfl
theorem Tfld32_2 : fldO Try.prog 32 2 = some (9, 30) := by kernel_rfl
theorem Tfld49_0 : fldO Try.prog 49 0 = some (0, 2) := by kernel_rfl
theorem Tfld49_1 : fldO Try.prog 49 1 = some (1, 30) := by kernel_rfl
theorem Tfld49_2 : fldO Try.prog 49 2 = some (9, 30) := by kernel_rfl
theorem Tfld56_0 : fldO Try.prog 56 0 = some (0, 2) := by kernel_rfl
theorem Tfld56_1 : fldO Try.prog 56 1 = some (1, 47) := by kernel_rfl
theorem Tfld61_0 : fldO Try.prog 61 0 = some (0, 2) := by kernel_rfl
theorem Tfld61_1 : fldO Try.prog 61 1 = some (1, 47) := by kernel_rfl
theorem Tfld87_0 : fldO Try.prog 87 0 = some (0, 3) := by kernel_rfl
theorem Tfld87_1 : fldO Try.prog 87 1 = some (1, 3) := by kernel_rfl
theorem Tfld87_2 : fldO Try.prog 87 2 = some (2, 3) := by kernel_rfl
theorem Tfld87_3 : fldO Try.prog 87 3 = some (3, 3) := by kernel_rfl
theorem Tfld93_0 : fldO Try.prog 93 0 = some (0, 2) := by kernel_rfl
theorem Tfld93_1 : fldO Try.prog 93 1 = some (1, 2) := by kernel_rfl
theorem Tfld93_2 : fldO Try.prog 93 2 = some (2, 2) := by kernel_rfl
theorem Tfld93_3 : fldO Try.prog 93 3 = some (3, 2) := by kernel_rfl
theorem Tfld93_4 : fldO Try.prog 93 4 = some (4, 2) := by kernel_rfl
theorem Tfld93_5 : fldO Try.prog 93 5 = some (5, 2) := by kernel_rfl
theorem Thas2 : hasT Try.prog 2 = true := by kernel_rfl
theorem Thas47 : hasT Try.prog 47 = true := by kernel_rfl
theorem Tint143 : intT Try.prog 143 = some .u64 := by kernel_rfl
theorem Tint2 : intT Try.prog 2 = some .i64 := by kernel_rfl
theorem Tint3 : intT Try.prog 3 = some .i64 := by kernel_rfl
theorem Tint5 : intT Try.prog 5 = some .u8 := by kernel_rfl
theorem Tld100 : ldT Try.prog 100 = some (some 8) := by kernel_rfl
theorem Tld110 : ldT Try.prog 110 = some (some 8) := by kernel_rfl
theorem Tld113 : ldT Try.prog 113 = some (some 64) := by kernel_rfl
theorem Tld117 : ldT Try.prog 117 = some (some 3) := by kernel_rfl
theorem Tld132 : ldT Try.prog 132 = some none := by kernel_rfl
theorem Tld142 : ldT Try.prog 142 = some none := by kernel_rfl
theorem Tld143 : ldT Try.prog 143 = some none := by kernel_rfl
theorem Tld163 : ldT Try.prog 163 = some (some 8) := by kernel_rfl
theorem Tld166 : ldT Try.prog 166 = some (some 129) := by kernel_rfl
theorem Tld2 : ldT Try.prog 2 = some none := by kernel_rfl
theorem Tld22 : ldT Try.prog 22 = some none := by kernel_rfl
theorem Tld28 : ldT Try.prog 28 = some none := by kernel_rfl
theorem Tld3 : ldT Try.prog 3 = some none := by kernel_rfl
theorem Tld30 : ldT Try.prog 30 = some (some 8) := by kernel_rfl
theorem Tld32 : ldT Try.prog 32 = some (some 17) := by kernel_rfl
theorem Tld4 : ldT Try.prog 4 = some none := by kernel_rfl
theorem Tld47 : ldT Try.prog 47 = some none := by kernel_rfl
theorem Tld49 : ldT Try.prog 49 = some (some 17) := by kernel_rfl
theorem Tld5 : ldT Try.prog 5 = some none := by kernel_rfl
theorem Tld56 : ldT Try.prog 56 = some (some 2) := by kernel_rfl
theorem Tld61 : ldT Try.prog 61 = some (some 2) := by kernel_rfl
theorem Tld71 : ldT Try.prog 71 = some none := by kernel_rfl
theorem Tld80 : ldT Try.prog 80 = some (some 8) := by kernel_rfl
theorem Tld87 : ldT Try.prog 87 = some (some 4) := by kernel_rfl
theorem Tld93 : ldT Try.prog 93 = some (some 6) := by kernel_rfl
theorem Tpar143 : parT Try.prog 143 = true := by kernel_rfl
theorem Tpar2 : parT Try.prog 2 = true := by kernel_rfl
theorem Tpar3 : parT Try.prog 3 = true := by kernel_rfl
theorem Tpar47 : parT Try.prog 47 = true := by kernel_rfl
theorem Tpar5 : parT Try.prog 5 = true := by kernel_rfl
theorem Tslc114 : slcT Try.prog 114 = some 3 := by kernel_rfl
theorem Tslc132 : slcT Try.prog 132 = some 1 := by kernel_rfl
theorem Tslc164 : slcT Try.prog 164 = some 129 := by kernel_rfl
theorem Tslc171 : slcT Try.prog 171 = some 1 := by kernel_rfl
theorem Tslc22 : slcT Try.prog 22 = some 8 := by kernel_rfl
theorem Tslc28 : slcT Try.prog 28 = some 1 := by kernel_rfl
theorem Tslc43 : slcT Try.prog 43 = some 1 := by kernel_rfl
theorem Tslc47 : slcT Try.prog 47 = some 1 := by kernel_rfl
theorem Tslc71 : slcT Try.prog 71 = some 6 := by kernel_rfl
theorem Tslce114 : slcE Try.prog 114 = some 117 := by kernel_rfl
theorem Tslce132 : slcE Try.prog 132 = some 3 := by kernel_rfl
theorem Tslce164 : slcE Try.prog 164 = some 166 := by kernel_rfl
theorem Tslce171 : slcE Try.prog 171 = some 132 := by kernel_rfl
theorem Tslce22 : slcE Try.prog 22 = some 80 := by kernel_rfl
theorem Tslce28 : slcE Try.prog 28 = some 5 := by kernel_rfl
theorem Tslce43 : slcE Try.prog 43 = some 47 := by kernel_rfl
theorem Tslce47 : slcE Try.prog 47 = some 2 := by kernel_rfl
theorem Tslce71 : slcE Try.prog 71 = some 93 := by kernel_rfl
theorem Tst100 : stT Try.prog 100 = some 8 := by kernel_rfl
theorem Tst110 : stT Try.prog 110 = some 8 := by kernel_rfl
theorem Tst113 : stT Try.prog 113 = some 64 := by kernel_rfl
theorem Tst117 : stT Try.prog 117 = some 3 := by kernel_rfl
theorem Tst142 : stT Try.prog 142 = some 1 := by kernel_rfl
theorem Tst143 : stT Try.prog 143 = some 1 := by kernel_rfl
theorem Tst163 : stT Try.prog 163 = some 8 := by kernel_rfl
theorem Tst166 : stT Try.prog 166 = some 129 := by kernel_rfl
theorem Tst2 : stT Try.prog 2 = some 1 := by kernel_rfl
theorem Tst22 : stT Try.prog 22 = some 1 := by kernel_rfl
theorem Tst3 : stT Try.prog 3 = some 1 := by kernel_rfl
theorem Tst30 : stT Try.prog 30 = some 8 := by kernel_rfl
theorem Tst32 : stT Try.prog 32 = some 17 := by kernel_rfl
theorem Tst4 : stT Try.prog 4 = some 1 := by kernel_rfl
theorem Tst47 : stT Try.prog 47 = some 1 := by kernel_rfl
theorem Tst5 : stT Try.prog 5 = some 1 := by kernel_rfl
theorem Tst56 : stT Try.prog 56 = some 2 := by kernel_rfl
theorem Tst71 : stT Try.prog 71 = some 1 := by kernel_rfl
theorem Tst87 : stT Try.prog 87 = some 4 := by kernel_rfl
theorem Tst93 : stT Try.prog 93 = some 6 := by kernel_rfl
theorem Tsz2 : szT Try.prog 2 = 1 := by kernel_rfl
theorem Tsz47 : szT Try.prog 47 = 1 := by kernel_rfl
theorem Tzero100 : zeroT Try.prog 100 = some (ints .i64 z8) := by kernel_rfl
theorem Tzero110 : zeroT Try.prog 110 = some (ints .i64 z8) := by kernel_rfl
theorem Tzero113 : zeroT Try.prog 113 = some (ints .i64 (List.replicate 64 0)) := by kernel_rfl
theorem Tzero117 : zeroT Try.prog 117 = some ([.int .i64 0, .int .i64 0, .int .i64 0]) := by kernel_rfl
theorem Tzero132 : zeroT Try.prog 132 = some ([.slice none 0 0]) := by kernel_rfl
theorem Tzero142 : zeroT Try.prog 142 = some ([.nilFunc]) := by kernel_rfl
theorem Tzero163 : zeroT Try.prog 163 = some (bools (List.replicate 8 false)) := by kernel_rfl
theorem Tzero166 : zeroT Try.prog 166 = some (ints .i64 (List.replicate 129 0)) := by kernel_rfl
theorem Tzero2 : zeroT Try.prog 2 = some ([.int .i64 0]) := by kernel_rfl
theorem Tzero22 : zeroT Try.prog 22 = some ([.slice none 0 0]) := by kernel_rfl
theorem Tzero3 : zeroT Try.prog 3 = some ([.int .i64 0]) := by kernel_rfl
theorem Tzero30 : zeroT Try.prog 30 = some (ints .u8 z8) := by kernel_rfl
theorem Tzero32 : zeroT Try.prog 32 = some (gc 0 z8 z8) := by kernel_rfl
theorem Tzero47 : zeroT Try.prog 47 = some ([.slice none 0 0]) := by kernel_rfl
theorem Tzero56 : zeroT Try.prog 56 = some ([.int .i64 0, .slice none 0 0]) := by kernel_rfl
theorem Tzero71 : zeroT Try.prog 71 = some ([.slice none 0 0]) := by kernel_rfl
theorem Tzero80 : zeroT Try.prog 80 = some (ints .u8 z8) := by kernel_rfl
theorem Tzero87 : zeroT Try.prog 87 = some ([.int .i64 0, .int .i64 0, .int .i64 0, .int .i64 0]) := by kernel_rfl
theorem Tzero93 : zeroT Try.prog 93 = some ([.int .i64 0, .int .i64 0, .int .i64 0, .int .i64 0, .int .i64 0, .int .i64 0]) := by kernel_rfl
theorem fol : Try.prog.follows .mixedOrders = true := by kernel_rfl
end Go.Proofs

/-
  What the functions of this part hand back: each as a plain function of its arguments. Conditions: none.
-/
namespace Go.Proofs
open Go.W8
set_option linter.unusedVariables false
set_option linter.unusedSimpArgs false
set_option linter.unusedSectionVars false
set_option maxRecDepth 8000
set_option maxHeartbeats 4000000
--@plain
/-- The first n entries are the numbers less than n in some order, all others 0. -/
def IsPerm (x : List Int) (n : Nat) : Prop := (∀ i, i < n → x.getD i 0 < n) ∧ (∀ i, i < n → ∀ j, j < i → x.getD j 0 ≠ x.getD i 0) ∧ ∀ i, i < 8 → n ≤ i → x.getD i 0 = 0
instance (x : List Int) (n : Nat) : Decidable (IsPerm x n) := by unfold IsPerm; infer_instance

def IsG (s : Int) (x o : List Int) : Prop := 2 ≤ s ∧ s ≤ 8 ∧ IsPerm x s.toNat ∧ IsPerm o s.toNat ∧ ∀ i, i < s.toNat → x.getD i 0 ≠ o.getD i 0
instance (s : Int) (x o : List Int) : Decidable (IsG s x o) := by unfold IsG; infer_instance

def gridB (s : Int) (x o : List Int) : Bool := decide (IsG s x o)

theorem inj_surj : ∀ (n : Nat) (f : Nat → Nat), (∀ i, i < n → f i < n) → (∀ i, i < n → ∀ j, j < n → f i = f j → i = j) → ∀ j, j < n → ∃ i, i < n ∧ f i = j
  | 0, _, _, _, _, hj => absurd hj (Nat.not_lt_zero _)
  | n + 1, f, hf, hinj, j, hj => by
    have hg : ∀ i, i < n → (if f i = n then f n else f i) < n := by
      intro i hi
      split
      · rename_i h
        have h1 := hf n (Nat.lt_succ_self n)
        have h2 : f n ≠ n := fun h3 => by
          have := hinj i (by omega) n (by omega) (by rw [h, h3])
          omega
        omega
      · rename_i h
        have := hf i (by omega)
        omega
    have hgi : ∀ i, i < n → ∀ k, k < n → (if f i = n then f n else f i) = (if f k = n then f n else f k) → i = k := by
      intro i hi k hk h
      split at h
      · rename_i h1
        split at h
        · rename_i h2
          exact hinj i (by omega) k (by omega) (by rw [h1, h2])
        · have := hinj n (by omega) k (by omega) h
          omega
      · rename_i h1
        split at h
        · have := hinj i (by omega) n (by omega) h
          omega
        · exact hinj i (by omega) k (by omega) h
    have ih := inj_surj n (fun i => if f i = n then f n else f i) hg hgi
    by_cases hjn : f n = j
    · exact ⟨n, by omega, hjn⟩
    · by_cases hj2 : j = n
      · subst hj2
        have h1 := hf j (by omega)
        obtain ⟨i, hi, hfi⟩ := ih (f j) (by omega)
        split at hfi
        · rename_i h; exact ⟨i, by omega, h⟩
        · have := hinj i (by omega) j (by omega) hfi
          omega
      · obtain ⟨i, hi, hfi⟩ := ih j (by omega)
        split at hfi
        · exact absurd hfi hjn
        · exact ⟨i, by omega, hfi⟩

theorem surj_inj (n : Nat) (f : Nat → Nat) (hf : ∀ i, i < n → f i < n) (hs : ∀ j, j < n → ∃ i, i < n ∧ f i = j) : ∀ i, i < n → ∀ j, j < n → f i = f j → i = j := by
  have hc : ∃ s : Nat → Nat, ∀ j, j < n → s j < n ∧ f (s j) = j := by
    refine ⟨fun j => if h : j < n then Classical.choose (hs j h) else 0, fun j hj => ?_⟩
    simp only [hj, dif_pos]
    exact Classical.choose_spec (hs j hj)
  obtain ⟨s, hs'⟩ := hc
  have hsur := inj_surj n s (fun j hj => (hs' j hj).1) (fun i hi j hj h => by rw [← (hs' i hi).2, ← (hs' j hj).2, h])
  intro i hi j hj h
  obtain ⟨a, ha, rfl⟩ := hsur i hi
  obtain ⟨b, hb, rfl⟩ := hsur j hj
  rw [(hs' a ha).2, (hs' b hb).2] at h
  rw [h]

/-- The bits of the numbers f 0 .. f (k - 1). -/
def mask (f : Nat → Nat) : Nat → Nat
  | 0 => 0
  | k + 1 => mask f k ||| 2 ^ f k

theorem mask_bit (f : Nat → Nat) (j : Nat) : ∀ k, (mask f k).testBit j = true ↔ ∃ i, i < k ∧ f i = j
  | 0 => by simp [mask]
  | k + 1 => by
    simp only [mask, Nat.testBit_or, Bool.or_eq_true, mask_bit f j k, Nat.testBit_two_pow, decide_eq_true_eq]
    constructor
    · rintro (⟨i, hi, h⟩ | h)
      · exact ⟨i, by omega, h⟩
      · exact ⟨k, by omega, h⟩
    · rintro ⟨i, hi, h⟩
      rcases Nat.lt_succ_iff_lt_or_eq.1 hi with h1 | rfl
      · exact .inl ⟨i, h1, h⟩
      · exact .inr h

theorem mask_lt {f : Nat → Nat} {n : Nat} : ∀ {k : Nat}, (∀ i, i < k → f i < n) → mask f k < 2 ^ n
  | 0, _ => Nat.two_pow_pos n
  | k + 1, h => by
    unfold mask
    exact Nat.or_lt_two_pow (mask_lt fun i hi => h i (by omega)) (Nat.pow_lt_pow_right (by omega) (h k (by omega)))

theorem mask_full {f : Nat → Nat} {n : Nat} (hf : ∀ i, i < n → f i < n) : mask f n = 2 ^ n - 1 ↔ ∀ i, i < n → ∀ j, j < i → f j ≠ f i := by
  constructor
  · intro h i hi j hj he
    have := surj_inj n f hf (fun k hk => by
      have hb : (mask f n).testBit k = true := by rw [h, Nat.testBit_two_pow_sub_one]; simpa using hk
      exact (mask_bit f k n).1 hb) j (by omega) i hi he
    omega
  · intro h
    have hsur := inj_surj n f hf (fun i hi j hj he => by
      rcases Nat.lt_trichotomy i j with h1 | h1 | h1
      · exact absurd he (h j hj i h1)
      · exact h1
      · exact absurd he.symm (h i hi j h1))
    apply Nat.eq_of_testBit_eq
    intro k
    rw [Nat.testBit_two_pow_sub_one]
    by_cases hk : k < n
    · rw [decide_eq_true hk]
      exact (mask_bit f k n).2 (hsur k hk)
    · rw [decide_eq_false hk]
      cases hb : (mask f n).testBit k with
      | false => rfl
      | true =>
        obtain ⟨i, hi, rfl⟩ := (mask_bit f k n).1 hb
        exact absurd (hf i hi) hk

theorem or_i64 {a b : Nat} (ha : a < 4294967296) (hb : b < 4294967296) : IntKind.wrap .i64 ((BitVec.ofInt (IntKind.i64.bits) (a : Int) ||| BitVec.ofInt (IntKind.i64.bits) (b : Int)).toNat : Int) = ((a ||| b : Nat) : Int) := by
  have e : IntKind.i64.bits = 64 := rfl
  have h1 : a ||| b < 2 ^ 32 := Nat.or_lt_two_pow (by simpa using ha) (by simpa using hb)
  rw [e, BitVec.ofInt_natCast, BitVec.ofInt_natCast, BitVec.toNat_or, BitVec.toNat_ofNat, BitVec.toNat_ofNat, Nat.mod_eq_of_lt (by omega), Nat.mod_eq_of_lt (by omega)]
  rw [wrap_i64 (by omega) (by omega)]

theorem shl_i64 {j : Nat} (hj : j ≤ 32) : IntKind.wrap .i64 (1 * 2 ^ (min j (IntKind.i64.bits))) = ((2 ^ j : Nat) : Int) := by
  have e : IntKind.i64.bits = 64 := rfl
  have h1 : min j 64 = j := by omega
  have h2 : (2 : Nat) ^ j ≤ 2 ^ 32 := Nat.pow_le_pow_right (by omega) hj
  rw [e, h1, Int.one_mul]
  have h3 : ((2 : Int) ^ j) = ((2 ^ j : Nat) : Int) := by simp
  rw [h3]
  generalize 2 ^ j = m at h2
  rw [wrap_i64 (by omega) (by omega)]

end Go.Proofs

/-
  What the functions of this part hand back: each as a plain function of its arguments. Conditions: none.
-/
namespace Go.Proofs
open Go.W8
set_option linter.unusedVariables false
set_option linter.unusedSimpArgs false
set_option linter.unusedSectionVars false
set_option maxRecDepth 8000
set_option maxHeartbeats 4000000
--@plain
/-- Where the column k comes to stand. -/
def colK (i rt k : Nat) : Nat := if k < i then k else if k = i then i + rt else k + 1
/-- What stands in the columns as those ahead of k have been led. -/
def genK (f : Nat → Int) (i rt k q : Nat) : Int := if q < i then (if q < k then f q else 0) else if q ≤ i + 1 then (if q = i + rt ∧ i < k then f i else 0) else (if q ≤ k then f (q - 1) else 0)
/-- The same without the column i. -/
def genS (f : Nat → Int) (i k q : Nat) : Int := if q < i then (if q < k then f q else 0) else if q ≤ i + 1 then 0 else (if q ≤ k then f (q - 1) else 0)
def liftM (r v : Int) : Int := if r < v then v + 1 else v
def liftF (r u v : Int) : Int := if r < v then v + 1 else if v = r then r + u else v
def grA (own : List Int) (i rt : Nat) (u : Int) (n q : Nat) : Int :=
  if q = i + rt then own.getD i 0 + (1 - u) else if q = i + 1 - rt then own.getD i 0 + u else if q < i then liftF (own.getD i 0) u (own.getD q 0) else if q ≤ n then liftF (own.getD i 0) u (own.getD (q - 1) 0) else 0
def grB (own oth : List Int) (i rt : Nat) (u : Int) (n q : Nat) : Int :=
  if q = i + rt then liftF (own.getD i 0) u (oth.getD i 0) else if q = i + 1 - rt then own.getD i 0 + (1 - u) else if q < i then liftF (own.getD i 0) u (oth.getD q 0) else if q ≤ n then liftF (own.getD i 0) u (oth.getD (q - 1) 0) else 0

theorem colK_le {i rt k n : Nat} (hrt : rt ≤ 1) (hi : i < n) (hk : k < n) : colK i rt k ≤ n := by unfold colK; grind
theorem genK_zero (f : Nat → Int) (i rt : Nat) : tab (genK f i rt 0) = z8 := by
  rw [tab_zero]
  refine tab_ext fun q _ => ?_
  unfold genK
  grind
theorem genK_set {f : Nat → Int} {i rt k : Nat} (h : rt ≤ 1) {v : Int} (hv : v = f k) : (tab (genK f i rt k)).set (colK i rt k) v = tab (genK f i rt (k + 1)) := by
  subst hv
  rw [tab_set]
  refine tab_ext fun q _ => ?_
  unfold genK colK
  grind
theorem genS_zero (f : Nat → Int) (i : Nat) : tab (genS f i 0) = z8 := by
  rw [tab_zero]
  refine tab_ext fun q _ => ?_
  unfold genS
  grind
theorem genS_set {f : Nat → Int} {i k : Nat} (h : k ≠ i) {v : Int} (hv : v = f k) : (tab (genS f i k)).set (if i < k then k + 1 else k) v = tab (genS f i (k + 1)) := by
  subst hv
  rw [tab_set]
  refine tab_ext fun q _ => ?_
  unfold genS
  grind
theorem genS_same {f : Nat → Int} {i k : Nat} (h : k = i) : tab (genS f i k) = tab (genS f i (k + 1)) := by
  refine tab_ext fun q _ => ?_
  unfold genS
  grind
theorem grA_end {own : List Int} {i rt n : Nat} {u : Int} (hrt : rt ≤ 1) (hi : i < n) (hd : ∀ c, c < n → c ≠ i → own.getD c 0 ≠ own.getD i 0) :
    ((tab (genK (fun c => liftM (own.getD i 0) (own.getD c 0)) i rt n)).set (i + rt) (own.getD i 0 + (1 - u))).set (i + 1 - rt) (own.getD i 0 + u) = tab (grA own i rt u n) := by
  rw [tab_set, tab_set]
  refine tab_ext fun q _ => ?_
  unfold genK grA liftM liftF
  grind
theorem grB_end {own oth : List Int} {i rt n : Nat} {u : Int} (hrt : rt ≤ 1) (hi : i < n) :
    (tab (genK (fun c => liftF (own.getD i 0) u (oth.getD c 0)) i rt n)).set (i + 1 - rt) (own.getD i 0 + (1 - u)) = tab (grB own oth i rt u n) := by
  rw [tab_set]
  refine tab_ext fun q _ => ?_
  unfold genK grB
  grind
theorem grA_endS {own : List Int} {i rt n : Nat} {u : Int} (hrt : rt ≤ 1) (hi : i < n) :
    ((tab (genS (fun c => liftF (own.getD i 0) u (own.getD c 0)) i n)).set (i + rt) (own.getD i 0 + (1 - u))).set (i + 1 - rt) (own.getD i 0 + u) = tab (grA own i rt u n) := by
  rw [tab_set, tab_set]
  refine tab_ext fun q _ => ?_
  unfold genS grA
  grind
theorem grB_endS {own oth : List Int} {i rt n : Nat} {u : Int} (hrt : rt ≤ 1) (hi : i < n) :
    ((tab (genS (fun c => liftF (own.getD i 0) u (oth.getD c 0)) i n)).set (i + 1 - rt) (own.getD i 0 + (1 - u))).set (i + rt) (liftF (own.getD i 0) u (oth.getD i 0)) = tab (grB own oth i rt u n) := by
  rw [tab_set, tab_set]
  refine tab_ext fun q _ => ?_
  unfold genS grB
  grind
theorem set_get {l : List Int} {i : Nat} {v : Int} (h : i < l.length) : (l.set i v).getD i 0 = v := by
  rw [List.getD_eq_getElem?_getD, List.getElem?_set_self h]; rfl
theorem set_set {l : List Int} {i : Nat} {v w : Int} : (l.set i v).set i w = l.set i w := List.set_set ..

end Go.Proofs

/-
  What the functions of this part hand back: each as a plain function of its arguments. Conditions: none.
-/
namespace Go.Proofs
open Go.W8
set_option linter.unusedVariables false
set_option linter.unusedSimpArgs false
set_option linter.unusedSectionVars false
set_option maxRecDepth 8000
set_option maxHeartbeats 4000000
--@plain
def lowF (r v : Int) : Int := if r < v then v - 1 else v
/-- What is left of a row without a column, as the columns ahead of k have been led. -/
def shrK (l : List Int) (i rt : Nat) (r : Int) (k q : Nat) : Int := if q < i then (if q < k then lowF r (l.getD q 0) else 0) else if q = i then (if i + rt < k then lowF r (l.getD (i + rt) 0) else 0) else if q + 1 < k then lowF r (l.getD (q + 1) 0) else 0
def wthK (l : List Int) (d : Nat) (r : Int) (k q : Nat) : Int := if q < d then (if q < k then lowF r (l.getD q 0) else 0) else if q + 1 < k then lowF r (l.getD (q + 1) 0) else 0
theorem shrK_zero (l : List Int) (i rt : Nat) (r : Int) : tab (shrK l i rt r 0) = z8 := by
  rw [tab_zero]
  refine tab_ext fun q _ => ?_
  unfold shrK
  grind
theorem shrK_same {l : List Int} {i rt : Nat} {r : Int} {k : Nat} (h : k = i + 1 - rt) (hrt : rt ≤ 1) : tab (shrK l i rt r k) = tab (shrK l i rt r (k + 1)) := by
  refine tab_ext fun q _ => ?_
  unfold shrK
  grind
theorem shrK_set {l : List Int} {i rt : Nat} {r : Int} {k : Nat} (h : k ≠ i + 1 - rt) (hrt : rt ≤ 1) {v : Int} (hv : v = lowF r (l.getD k 0)) : (tab (shrK l i rt r k)).set (if i < k then k - 1 else k) v = tab (shrK l i rt r (k + 1)) := by
  subst hv
  rw [tab_set]
  refine tab_ext fun q _ => ?_
  unfold shrK
  grind
theorem wthK_zero (l : List Int) (d : Nat) (r : Int) : tab (wthK l d r 0) = z8 := by
  rw [tab_zero]
  refine tab_ext fun q _ => ?_
  unfold wthK
  grind
theorem wthK_same {l : List Int} {d : Nat} {r : Int} {k : Nat} (h : k = d) : tab (wthK l d r k) = tab (wthK l d r (k + 1)) := by
  refine tab_ext fun q _ => ?_
  unfold wthK
  grind
theorem wthK_set {l : List Int} {d : Nat} {r : Int} {k : Nat} (h : k ≠ d) {v : Int} (hv : v = lowF r (l.getD k 0)) : (tab (wthK l d r k)).set (if d < k then k - 1 else k) v = tab (wthK l d r (k + 1)) := by
  subst hv
  rw [tab_set]
  refine tab_ext fun q _ => ?_
  unfold wthK
  grind

/-- The column that comes to stand in the column q. -/
def srcQ (i rt q : Nat) : Nat := if q < i then q else if q = i then i + rt else q + 1
theorem shr_get {l : List Int} {i rt n q : Nat} {r : Int} (hi : i + 1 < n) (hn : n ≤ 8) (hrt : rt ≤ 1) (hq : q < n - 1) : (tab (shrK l i rt r n)).getD q 0 = lowF r (l.getD (srcQ i rt q) 0) := by
  rw [tab_get (by omega)]
  unfold shrK srcQ
  grind
theorem src_lt {i rt n q : Nat} (hi : i + 1 < n) (hrt : rt ≤ 1) (hq : q < n - 1) : srcQ i rt q < n ∧ srcQ i rt q ≠ i + 1 - rt := by
  unfold srcQ
  grind
theorem src_inj {i rt p q : Nat} (hrt : rt ≤ 1) (h : p < q) : srcQ i rt p ≠ srcQ i rt q := by
  unfold srcQ
  grind
theorem low_inj {r v w : Int} (h : lowF r v = lowF r w) : v = w ∨ (v = r ∧ w = r + 1) ∨ (v = r + 1 ∧ w = r) := by
  unfold lowF at h
  split at h <;> split at h <;> omega

/-- The marks about which a grid is destabilized. -/
def Back (own oth : List Int) (i : Nat) (r : Int) (rt u : Nat) : Prop := own.getD (i + rt) 0 = r + 1 - u ∧ own.getD (i + 1 - rt) 0 = r + u ∧ oth.getD (i + 1 - rt) 0 = r + 1 - u ∧ oth.getD (i + rt) 0 ≠ r + u
instance (own oth : List Int) (i : Nat) (r : Int) (rt u : Nat) : Decidable (Back own oth i r rt u) := by unfold Back; infer_instance

theorem perm_ne {x : List Int} {n : Nat} (h : IsPerm x n) {a b : Nat} (ha : a < n) (hb : b < n) (hne : a ≠ b) : x.getD a 0 ≠ x.getD b 0 := by
  rcases Nat.lt_or_gt_of_ne hne with h1 | h1
  · exact h.2.1 b hb a h1
  · exact fun e => h.2.1 a ha b h1 e.symm

section
variable {own oth : List Int} {n i rt u : Nat} {r : Int} (hn : n ≤ 8) (po : IsPerm own n) (pt : IsPerm oth n) (h0 : ∀ c, c < n → 0 ≤ own.getD c 0) (h0' : ∀ c, c < n → 0 ≤ oth.getD c 0)
  (hd : ∀ c, c < n → own.getD c 0 ≠ oth.getD c 0) (hi : i + 1 < n) (hr0 : 0 ≤ r) (hr : r + 1 < n) (hrt : rt ≤ 1) (hu : u ≤ 1) (hb : Back own oth i r rt u)
include hn po pt h0 h0' hd hi hr0 hr hrt hu hb
theorem back_own_ne {c : Nat} (hc : c < n) (h1 : c ≠ i + rt) (h2 : c ≠ i + 1 - rt) : own.getD c 0 ≠ r ∧ own.getD c 0 ≠ r + 1 := by
  have a := perm_ne po hc (b := i + rt) (by omega) h1
  have b := perm_ne po hc (b := i + 1 - rt) (by omega) h2
  have e1 := hb.1
  have e2 := hb.2.1
  omega
theorem back_oth_ne {c : Nat} (hc : c < n) (h2 : c ≠ i + 1 - rt) : oth.getD c 0 ≠ r + 1 - u := by
  have b := perm_ne pt hc (b := i + 1 - rt) (by omega) h2
  have e2 := hb.2.2.1
  omega
theorem back_own_perm : IsPerm (tab (shrK own i rt r n)) (n - 1) := by
  have key := fun c hc h1 h2 => back_own_ne hn po pt h0 h0' hd hi hr0 hr hrt hu hb (c := c) hc h1 h2
  obtain ⟨b1, b2, b3, b4⟩ := hb
  refine ⟨fun q hq => ?_, fun q hq p hp => ?_, fun q hq hq' => ?_⟩
  · rw [shr_get hi hn hrt hq]
    have s1 := src_lt hi hrt hq
    have := po.1 _ s1.1
    have := h0 _ s1.1
    unfold lowF
    split <;> omega
  · rw [shr_get hi hn hrt hq, shr_get hi hn hrt (by omega)]
    have s1 := src_lt hi hrt hq
    have s2 := src_lt hi hrt (q := p) (by omega)
    have a1 := perm_ne po s2.1 s1.1 (src_inj hrt hp)
    have hne := src_inj (i := i) hrt hp
    intro e
    have k1 := key _ s1.1
    have k2 := key _ s2.1
    rcases low_inj e with h | h | h
    · exact a1 h
    · by_cases e1 : srcQ i rt p = i + rt
      · exact absurd h.2 (k1 (by omega) s1.2).2
      · exact absurd h.1 (k2 e1 s2.2).1
    · by_cases e1 : srcQ i rt p = i + rt
      · exact absurd h.2 (k1 (by omega) s1.2).1
      · exact absurd h.1 (k2 e1 s2.2).2
  · rw [tab_get hq]
    unfold shrK
    grind
theorem back_oth_perm : IsPerm (tab (shrK oth i rt r n)) (n - 1) := by
  have key := fun c hc h2 => back_oth_ne hn po pt h0 h0' hd hi hr0 hr hrt hu hb (c := c) hc h2
  obtain ⟨b1, b2, b3, b4⟩ := hb
  refine ⟨fun q hq => ?_, fun q hq p hp => ?_, fun q hq hq' => ?_⟩
  · rw [shr_get hi hn hrt hq]
    have s1 := src_lt hi hrt hq
    have := pt.1 _ s1.1
    have := h0' _ s1.1
    have := key _ s1.1 s1.2
    unfold lowF
    split <;> omega
  · rw [shr_get hi hn hrt hq, shr_get hi hn hrt (by omega)]
    have s1 := src_lt hi hrt hq
    have s2 := src_lt hi hrt (q := p) (by omega)
    have a1 := perm_ne pt s2.1 s1.1 (src_inj hrt hp)
    intro e
    have k1 := key _ s1.1 s1.2
    have k2 := key _ s2.1 s2.2
    rcases low_inj e with h | h | h
    · exact a1 h
    · omega
    · omega
  · rw [tab_get hq]
    unfold shrK
    grind
theorem back_get : (tab (shrK own i rt r n)).getD i 0 = r := by
  obtain ⟨b1, b2, b3, b4⟩ := hb
  rw [tab_get (by omega)]
  unfold shrK lowF
  grind
theorem back_apart : ∀ q, q < n - 1 → (tab (shrK own i rt r n)).getD q 0 ≠ (tab (shrK oth i rt r n)).getD q 0 := by
  have key := fun c hc h1 h2 => back_own_ne hn po pt h0 h0' hd hi hr0 hr hrt hu hb (c := c) hc h1 h2
  have key' := fun c hc h2 => back_oth_ne hn po pt h0 h0' hd hi hr0 hr hrt hu hb (c := c) hc h2
  obtain ⟨b1, b2, b3, b4⟩ := hb
  intro q hq
  rw [tab_get (by omega), tab_get (by omega)]
  have k1 := key q (by omega)
  have k2 := key (q + 1) (by omega)
  have k3 := key' q (by omega)
  have k4 := key' (q + 1) (by omega)
  have k5 := key' (i + rt) (by omega)
  have d1 := hd q (by omega)
  have d2 := hd (q + 1) (by omega)
  have d3 := hd (i + rt) (by omega)
  unfold shrK lowF
  grind
theorem back_grA (hl : own.length = 8) : tab (grA (tab (shrK own i rt r n)) i rt u (n - 1)) = own := by
  have key := fun c hc h1 h2 => back_own_ne hn po pt h0 h0' hd hi hr0 hr hrt hu hb (c := c) hc h1 h2
  have hg := back_get hn po pt h0 h0' hd hi hr0 hr hrt hu hb
  obtain ⟨b1, b2, b3, b4⟩ := hb
  refine (tab_eq hl fun q hq => ?_).symm
  have z := po.2.2 q hq
  have g1 := tab_get (f := shrK own i rt r n) (i := q) hq
  unfold grA
  rw [hg]
  have k1 := key q
  by_cases e1 : q = i + rt
  · rw [if_pos e1]; subst e1; omega
  rw [if_neg e1]
  by_cases e2 : q = i + 1 - rt
  · rw [if_pos e2]; subst e2; omega
  rw [if_neg e2]
  by_cases e3 : q < i
  · rw [if_pos e3, g1]
    unfold shrK lowF liftF
    grind
  · rw [if_neg e3]
    have g2 := tab_get (f := shrK own i rt r n) (i := q - 1) (by omega)
    rw [g2]
    have e4 : q - 1 + 1 = q := by omega
    unfold shrK lowF liftF
    grind
theorem back_grB (hl : oth.length = 8) : tab (grB (tab (shrK own i rt r n)) (tab (shrK oth i rt r n)) i rt u (n - 1)) = oth := by
  have key' := fun c hc h2 => back_oth_ne hn po pt h0 h0' hd hi hr0 hr hrt hu hb (c := c) hc h2
  have hg := back_get hn po pt h0 h0' hd hi hr0 hr hrt hu hb
  obtain ⟨b1, b2, b3, b4⟩ := hb
  refine (tab_eq hl fun q hq => ?_).symm
  have z := pt.2.2 q hq
  have g1 := tab_get (f := shrK oth i rt r n) (i := q) hq
  have g0 := tab_get (f := shrK oth i rt r n) (i := i) (by omega)
  unfold grB
  rw [hg]
  have k1 := key' q
  by_cases e1 : q = i + rt
  · rw [if_pos e1, g0]
    subst e1
    have := k1 (by omega) (by omega)
    unfold shrK lowF liftF
    grind
  rw [if_neg e1]
  by_cases e2 : q = i + 1 - rt
  · rw [if_pos e2]; subst e2; omega
  rw [if_neg e2]
  by_cases e3 : q < i
  · rw [if_pos e3, g1]
    unfold shrK lowF liftF
    grind
  · rw [if_neg e3]
    have g2 := tab_get (f := shrK oth i rt r n) (i := q - 1) (by omega)
    rw [g2]
    have e4 : q - 1 + 1 = q := by omega
    unfold shrK lowF liftF
    grind
end
theorem back_of {own oth a b : List Int} {n i rt u : Nat} {r : Int} (hi : i + 1 < n) (hn : n ≤ 8) (hrt : rt ≤ 1) (hu : u ≤ 1) (ha : a.getD i 0 = r) (hd : a.getD i 0 ≠ b.getD i 0)
    (e1 : tab (grA a i rt u (n - 1)) = own) (e2 : tab (grB a b i rt u (n - 1)) = oth) : Back own oth i r rt u := by
  subst e1 e2
  unfold Back
  rw [tab_get (by omega), tab_get (by omega), tab_get (by omega), tab_get (by omega)]
  unfold grA grB liftF
  grind
theorem back_wth {l : List Int} {n i rt u : Nat} {r : Int} (hi : i + 1 < n) (hn : n ≤ 8) (hrt : rt ≤ 1) (hu : u ≤ 1) (hk : ∀ c, c < n → c ≠ i + 1 - rt → l.getD c 0 ≠ r + 1 - u) : tab (wthK l (i + 1 - rt) (r + 1 - u) n) = tab (shrK l i rt r n) := by
  refine tab_ext fun q hq => ?_
  have k1 := hk q
  have k2 := hk (q + 1)
  have k3 := hk (i + rt)
  unfold wthK shrK lowF
  grind
theorem back_wth_own {l : List Int} {n i rt u : Nat} {r : Int} (hl : l.length = 8) (hi : i + 1 < n) (hn : n ≤ 8) (hrt : rt ≤ 1) (hu : u ≤ 1) (hk : ∀ c, c < n → c ≠ i + rt → c ≠ i + 1 - rt → l.getD c 0 ≠ r ∧ l.getD c 0 ≠ r + 1) (h1 : l.getD (i + rt) 0 = r + 1 - u) :
    tab (wthK (l.set (i + rt) (r + u)) (i + 1 - rt) (r + 1 - u) n) = tab (shrK l i rt r n) := by
  refine tab_ext fun q hq => ?_
  have hs : ∀ c, (l.set (i + rt) (r + u)).getD c 0 = if i + rt = c then r + (u : Int) else l.getD c 0 := by
    intro c
    rw [List.getD_eq_getElem?_getD, List.getElem?_set]
    by_cases e : i + rt = c
    · subst e; rw [if_pos rfl, if_pos (by omega), if_pos rfl]; rfl
    · rw [if_neg e, if_neg e, List.getD_eq_getElem?_getD]
  have k1 := hk q
  have k2 := hk (q + 1)
  unfold wthK shrK lowF
  rw [hs q, hs (q + 1)]
  grind
theorem back_same {own oth : List Int} {i rt u rt' u' : Nat} {r : Int} (hrt : rt ≤ 1) (hu : u ≤ 1) (hrt' : rt' ≤ 1) (hu' : u' ≤ 1) (h : Back own oth i r rt u) (h' : Back own oth i r rt' u') : rt = rt' ∧ u = u' := by
  obtain ⟨a1, a2, a3, a4⟩ := h
  obtain ⟨b1, b2, b3, b4⟩ := h'
  grind
theorem back_other {own oth : List Int} {i rt u rt' u' : Nat} {r : Int} (hrt : rt ≤ 1) (hu : u ≤ 1) (hrt' : rt' ≤ 1) (hu' : u' ≤ 1) (h : Back own oth i r rt u) (h' : Back oth own i r rt' u') : False := by
  obtain ⟨a1, a2, a3, a4⟩ := h
  obtain ⟨b1, b2, b3, b4⟩ := h'
  have e : rt = 0 ∨ rt = 1 := by omega
  have e' : rt' = 0 ∨ rt' = 1 := by omega
  rcases e with rfl | rfl <;> rcases e' with rfl | rfl <;> simp only [Nat.add_zero, Nat.sub_zero, Nat.add_sub_cancel] at a1 a2 a3 a4 b1 b2 b3 b4 <;> omega

/-- Whether the k-th way of stabilizing leads to the grid, at i and r. -/
def bk (x o : List Int) (i : Nat) (r : Int) (k : Nat) : Bool := if k % 2 = 0 then decide (Back x o i r (k / 2 % 2) (k / 4)) else decide (Back o x i r (k / 2 % 2) (k / 4))
def bkFind (x o : List Int) (i : Nat) (r : Int) : Option Nat := (List.range 8).find? (bk x o i r)
theorem bk_unique {x o : List Int} {i k k' : Nat} {r : Int} (hk : k < 8) (hk' : k' < 8) (h : bk x o i r k = true) (h' : bk x o i r k' = true) : k = k' := by
  unfold bk at h h'
  have e1 : k / 2 % 2 ≤ 1 := by omega
  have e2 : k / 4 ≤ 1 := by omega
  have e3 : k' / 2 % 2 ≤ 1 := by omega
  have e4 : k' / 4 ≤ 1 := by omega
  by_cases m : k % 2 = 0 <;> by_cases m' : k' % 2 = 0
  · rw [if_pos m] at h; rw [if_pos m'] at h'
    have := back_same e1 e2 e3 e4 (of_decide_eq_true h) (of_decide_eq_true h')
    omega
  · rw [if_pos m] at h; rw [if_neg m'] at h'
    exact (back_other e1 e2 e3 e4 (of_decide_eq_true h) (of_decide_eq_true h')).elim
  · rw [if_neg m] at h; rw [if_pos m'] at h'
    exact (back_other e1 e2 e3 e4 (of_decide_eq_true h) (of_decide_eq_true h')).elim
  · rw [if_neg m] at h; rw [if_neg m'] at h'
    have := back_same e1 e2 e3 e4 (of_decide_eq_true h) (of_decide_eq_true h')
    omega
theorem bkFind_hit {x o : List Int} {i k : Nat} {r : Int} (hk : k < 8) (h : bk x o i r k = true) : bkFind x o i r = some k := by
  unfold bkFind
  cases hf : (List.range 8).find? (bk x o i r) with
  | none => exact absurd h (List.find?_eq_none.1 hf k (List.mem_range.2 hk))
  | some k' =>
    have h1 := List.find?_some hf
    have h2 := List.mem_range.1 (List.mem_of_find?_eq_some hf)
    rw [bk_unique h2 hk h1 h]
theorem bkFind_none {x o : List Int} {i : Nat} {r : Int} (h : ∀ k, k < 8 → bk x o i r k = false) : bkFind x o i r = none := by
  unfold bkFind
  refine List.find?_eq_none.2 fun k hk => ?_
  rw [h k (List.mem_range.1 hk)]; decide
/-- What a grid is destabilized to. -/
def oldX (x : List Int) (i : Nat) (r : Int) (n k : Nat) : List Int := tab (shrK x i (k / 2 % 2) r n)
section
variable {x o : List Int} {n i k : Nat} {r : Int} (hl : x.length = 8) (hm : o.length = 8) (hn : n ≤ 8) (px : IsPerm x n) (po : IsPerm o n) (h0 : ∀ c, c < n → 0 ≤ x.getD c 0) (h0' : ∀ c, c < n → 0 ≤ o.getD c 0)
  (hd : ∀ c, c < n → x.getD c 0 ≠ o.getD c 0) (hi : i + 1 < n) (hr0 : 0 ≤ r) (hr : r + 1 < n) (hk : k < 8)
include hl hm hn px po h0 h0' hd hi hr0 hr hk
theorem back_three {own oth : List Int} (po : IsPerm own n) (pt : IsPerm oth n) (h0 : ∀ c, c < n → 0 ≤ own.getD c 0) (h0' : ∀ c, c < n → 0 ≤ oth.getD c 0) {rt u : Nat} (hrt : rt ≤ 1) (hu : u ≤ 1) (h : Back own oth i r rt u) : 3 ≤ n := by
  obtain ⟨b1, b2, b3, b4⟩ := h
  rcases Nat.lt_or_ge n 3 with h3 | h3
  · exfalso
    have e1 := perm_ne pt (a := 0) (b := 1) (by omega) (by omega) (by omega)
    have e2 := pt.1 0 (by omega)
    have e3 := pt.1 1 (by omega)
    have e4 := h0' 0 (by omega)
    have e5 := h0' 1 (by omega)
    obtain rfl : i = 0 := by omega
    have e : rt = 0 ∨ rt = 1 := by omega
    rcases e with rfl | rfl <;> simp only [Nat.zero_add, Nat.add_zero, Nat.sub_zero, Nat.sub_self] at b1 b2 b3 b4 <;> omega
  · exact h3
theorem bk_even (h : k % 2 = 0) : (gridB ((n - 1 : Nat) : Int) (oldX x i r n k) (oldX o i r n k) && ((oldX x i r n k).getD i 0 == r) &&
    decide (((n - 1 : Nat) : Int) + 1 = (n : Int) ∧ tab (grA (oldX x i r n k) i (k / 2 % 2) ((k / 4 : Nat) : Int) (n - 1)) = x ∧ tab (grB (oldX x i r n k) (oldX o i r n k) i (k / 2 % 2) ((k / 4 : Nat) : Int) (n - 1)) = o)) = bk x o i r k := by
  have hrt : k / 2 % 2 ≤ 1 := by omega
  have hu : k / 4 ≤ 1 := by omega
  have e1 : ((n - 1 : Nat) : Int) + 1 = (n : Int) := by omega
  unfold bk
  rw [if_pos h, Bool.eq_iff_iff]
  simp only [Bool.and_eq_true, beq_iff_eq, decide_eq_true_eq]
  constructor
  · rintro ⟨⟨hg, ha⟩, _, hA, hB⟩
    have hG := of_decide_eq_true hg
    have hG5 := hG.2.2.2.2
    rw [Int.toNat_natCast] at hG5
    exact back_of hi hn hrt hu ha (hG5 i (by omega)) hA hB
  · intro hb
    have h3 := back_three hl hm hn px po h0 h0' hd hi hr0 hr hk px po h0 h0' hrt hu hb
    refine ⟨⟨decide_eq_true ⟨by omega, by omega, ?_, ?_, ?_⟩, back_get hn px po h0 h0' hd hi hr0 hr hrt hu hb⟩, e1, back_grA hn px po h0 h0' hd hi hr0 hr hrt hu hb hl, back_grB hn px po h0 h0' hd hi hr0 hr hrt hu hb hm⟩
    · rw [Int.toNat_natCast]; exact back_own_perm hn px po h0 h0' hd hi hr0 hr hrt hu hb
    · rw [Int.toNat_natCast]; exact back_oth_perm hn px po h0 h0' hd hi hr0 hr hrt hu hb
    · rw [Int.toNat_natCast]; exact back_apart hn px po h0 h0' hd hi hr0 hr hrt hu hb
theorem bk_odd (h : k % 2 = 1) : (gridB ((n - 1 : Nat) : Int) (oldX x i r n k) (oldX o i r n k) && ((oldX o i r n k).getD i 0 == r) &&
    decide (((n - 1 : Nat) : Int) + 1 = (n : Int) ∧ tab (grB (oldX o i r n k) (oldX x i r n k) i (k / 2 % 2) ((k / 4 : Nat) : Int) (n - 1)) = x ∧ tab (grA (oldX o i r n k) i (k / 2 % 2) ((k / 4 : Nat) : Int) (n - 1)) = o)) = bk x o i r k := by
  have hrt : k / 2 % 2 ≤ 1 := by omega
  have hu : k / 4 ≤ 1 := by omega
  have e1 : ((n - 1 : Nat) : Int) + 1 = (n : Int) := by omega
  have hd' : ∀ c, c < n → o.getD c 0 ≠ x.getD c 0 := fun c hc => (hd c hc).symm
  unfold bk
  rw [if_neg (by omega), Bool.eq_iff_iff]
  simp only [Bool.and_eq_true, beq_iff_eq, decide_eq_true_eq]
  constructor
  · rintro ⟨⟨hg, ha⟩, _, hB, hA⟩
    have hG := of_decide_eq_true hg
    have hG5 := hG.2.2.2.2
    rw [Int.toNat_natCast] at hG5
    exact back_of hi hn hrt hu ha (hG5 i (by omega)).symm hA hB
  · intro hb
    have h3 := back_three hl hm hn px po h0 h0' hd hi hr0 hr hk po px h0' h0 hrt hu hb
    refine ⟨⟨decide_eq_true ⟨by omega, by omega, ?_, ?_, ?_⟩, back_get hn po px h0' h0 hd' hi hr0 hr hrt hu hb⟩, e1, back_grB hn po px h0' h0 hd' hi hr0 hr hrt hu hb hl, back_grA hn po px h0' h0 hd' hi hr0 hr hrt hu hb hm⟩
    · rw [Int.toNat_natCast]; exact back_oth_perm hn po px h0' h0 hd' hi hr0 hr hrt hu hb
    · rw [Int.toNat_natCast]; exact back_own_perm hn po px h0' h0 hd' hi hr0 hr hrt hu hb
    · rw [Int.toNat_natCast]; exact fun q hq => (back_apart hn po px h0' h0 hd' hi hr0 hr hrt hu hb q hq).symm
end

end Go.Proofs

/-
  What the functions of this part hand back: each as a plain function of its arguments. Conditions: none.
-/
namespace Go.Proofs
open Go.W8
set_option linter.unusedVariables false
set_option linter.unusedSimpArgs false
set_option linter.unusedSectionVars false
set_option maxRecDepth 8000
set_option maxHeartbeats 4000000
--@plain
section
variable {H : Type} {enc : TypeId × Value → H} {P : Program} {w : World} {base : Nat} {spare : Nat → Bool} {held : Bool}

theorem trod_int_inv {e : TypeId} {k : IntKind} (hu : P.underlying e = some (.int k)) {fuel : Nat} {cs : List Value} {x : DataW H × List MemPlace} (h : DataW.trod enc P w base spare held fuel e cs = some x) :
    ∃ n, cs = [.int k n] ∧ (Lit.int k n).wf = true ∧ x = (.lit (.int k n), []) := by
  cases fuel with
  | zero => simp [DataW.trod] at h
  | succ fuel =>
    unfold DataW.trod at h
    rw [hu] at h
    split at h <;> simp_all only [Option.some.injEq, TypeDesc.int.injEq, reduceCtorEq]
    rename_i k1 k' n he
    split at h
    · rename_i hh
      obtain ⟨hk, hw⟩ := hh
      simp only [Option.some.injEq] at h
      refine ⟨n, ?_, ?_, ?_⟩
      · rw [hk]
      · exact hw
      · exact h.symm
    · cases h

theorem trod_int_mk {e : TypeId} {k : IntKind} (hu : P.underlying e = some (.int k)) {fuel : Nat} {n : Int} (hw : (Lit.int k n).wf = true) : DataW.trod enc P w base spare held (fuel + 1) e [.int k n] = some (.lit (.int k n), []) := by
  unfold DataW.trod
  rw [hu]
  simp [hw]

def toInt : Value → Int
  | .int _ n => n
  | _ => 0

theorem take_one {cs : List Value} {j : Nat} {v : Value} (h : (cs.drop j).take 1 = [v]) : cs[j]? = some v := by
  have : ((cs.drop j).take 1)[0]? = some v := by rw [h]; rfl
  simpa [List.getElem?_take, List.getElem?_drop] using this

theorem one_take {cs : List Value} {j : Nat} {v : Value} (h : cs[j]? = some v) : (cs.drop j).take 1 = [v] := by
  apply List.ext_getElem?
  intro i
  cases i with
  | zero => simpa [List.getElem?_take, List.getElem?_drop] using h
  | succ i => simp [List.getElem?_take]

theorem trod_ints_inv {t e : TypeId} {n : Nat} {k : IntKind} (ht : P.underlying t = some (.array n e)) (hu : P.underlying e = some (.int k)) (hc : P.cellsOf e = 1) (hn : P.cellsOf t = n) {fuel : Nat} {cs : List Value} {x : DataW H × List MemPlace}
    (h : DataW.trod enc P w base spare held fuel t cs = some x) :
    ∃ l : List Int, cs = ints k l ∧ l.length = n ∧ (∀ a ∈ l, (Lit.int k a).wf = true) ∧ x = (.agg (l.map fun a => .lit (.int k a)), []) := by
  cases fuel with
  | zero => simp [DataW.trod] at h
  | succ fuel =>
    unfold DataW.trod at h
    rw [ht] at h
    simp only [hn, hc, Nat.mul_one] at h
    split at h
    · rename_i hl
      simp only [Option.map_eq_some_iff] at h
      obtain ⟨r, hr, rfl⟩ := h
      obtain ⟨h1, h2⟩ := mapM_get hr
      rw [List.length_range] at h1
      have key : ∀ j, j < n → ∃ a, cs[j]? = some (.int k a) ∧ (Lit.int k a).wf = true ∧ r[j]? = some (.lit (.int k a), []) := by
        intro j hj
        have hrj : r[j]? = some r[j] := List.getElem?_eq_getElem (by omega)
        obtain ⟨y, hy, hf⟩ := h2 j _ hrj
        rw [List.getElem?_range hj] at hy
        simp only [Option.some.injEq] at hy
        subst hy
        obtain ⟨a, ha, hw, hx⟩ := trod_int_inv hu hf
        exact ⟨a, take_one ha, hw, by rw [hrj, hx]⟩
      refine ⟨cs.map toInt, ?_, by rw [List.length_map]; exact hl, ?_, ?_⟩
      · apply List.ext_getElem?
        intro j
        unfold ints
        rw [List.map_map, List.getElem?_map]
        by_cases hj : j < n
        · obtain ⟨a, ha, _, _⟩ := key j hj
          rw [ha]; rfl
        · rw [List.getElem?_eq_none (by omega)]; rfl
      · intro a ha
        obtain ⟨v, hv, rfl⟩ := List.mem_map.1 ha
        obtain ⟨j, hj⟩ := List.getElem?_of_mem hv
        have hjn : j < n := by
          rcases Nat.lt_or_ge j n with h | h
          · exact h
          · rw [List.getElem?_eq_none (by omega)] at hj; cases hj
        obtain ⟨a, ha, hw, _⟩ := key j hjn
        rw [ha] at hj
        simp only [Option.some.injEq] at hj
        rw [← hj]
        exact hw
      · have e1 : r.map (·.1) = (cs.map toInt).map fun a => (DataW.lit (.int k a) : DataW H) := by
          apply List.ext_getElem?
          intro j
          rw [List.map_map, List.getElem?_map, List.getElem?_map]
          by_cases hj : j < n
          · obtain ⟨a, ha, _, hr⟩ := key j hj
            rw [ha, hr]; rfl
          · rw [List.getElem?_eq_none (by omega), List.getElem?_eq_none (by omega)]; rfl
        have e2 : r.flatMap (·.2) = [] := by
          rw [List.flatMap_eq_nil_iff]
          intro y hy
          obtain ⟨j, hj⟩ := List.getElem?_of_mem hy
          have hjn : j < n := by
            rcases Nat.lt_or_ge j n with h | h
            · exact h
            · rw [List.getElem?_eq_none (by omega)] at hj; cases hj
          obtain ⟨a, _, _, hr⟩ := key j hjn
          rw [hr] at hj
          simp only [Option.some.injEq] at hj
          rw [← hj]
        rw [e1, e2]
    · cases h

theorem mapM_some {α β : Type} {f : α → Option β} {g : α → β} : ∀ {l : List α}, (∀ x ∈ l, f x = some (g x)) → l.mapM f = some (l.map g)
  | [], _ => rfl
  | a :: l, h => by
    rw [List.mapM_cons, h a List.mem_cons_self, mapM_some fun x hx => h x (List.mem_cons_of_mem _ hx)]
    rfl

theorem trod_ints_mk {t e : TypeId} {n : Nat} {k : IntKind} (ht : P.underlying t = some (.array n e)) (hu : P.underlying e = some (.int k)) (hc : P.cellsOf e = 1) (hn : P.cellsOf t = n) {fuel : Nat} {l : List Int} (hl : l.length = n)
    (hw : ∀ a ∈ l, (Lit.int k a).wf = true) : DataW.trod enc P w base spare held (fuel + 2) t (ints k l) = some (.agg (l.map fun a => .lit (.int k a)), []) := by
  unfold DataW.trod
  rw [ht]
  simp only [hn, hc, Nat.mul_one, ints_length, hl, if_true]
  have hm : (List.range n).mapM (fun i => DataW.trod enc P w base spare held (fuel + 1) e (((ints k l).drop i).take 1)) = some ((List.range n).map fun i => ((DataW.lit (.int k (l.getD i 0)) : DataW H), ([] : List MemPlace))) := by
    refine mapM_some fun i hi => ?_
    have hin : i < l.length := by rw [hl]; exact List.mem_range.1 hi
    rw [one_take (ints_get hin)]
    refine trod_int_mk hu (hw _ ?_)
    rw [List.getD_eq_getElem?_getD, List.getElem?_eq_getElem hin]
    exact List.getElem_mem hin
  rw [hm]
  simp only [Option.map_some, Option.some.injEq, Prod.mk.injEq]
  constructor
  · congr 1
    apply List.ext_getElem?
    intro j
    rw [List.map_map, List.getElem?_map, List.getElem?_map]
    by_cases hj : j < n
    · rw [List.getElem?_range hj, List.getElem?_eq_getElem (by omega)]
      simp [List.getD_eq_getElem?_getD, List.getElem?_eq_getElem (show j < l.length by omega)]
    · rw [List.getElem?_eq_none (by simpa using hj), List.getElem?_eq_none (by omega)]; rfl
  · rw [List.flatMap_eq_nil_iff]
    intro y hy
    obtain ⟨i, _, rfl⟩ := List.mem_map.1 hy
    rfl

/-- A grid's type. -/
structure GridT (P : Program) (t tn ta te : TypeId) (f0 f1 f2 : Field) : Prop where
  st : P.underlying t = some (.struct #[f0, f1, f2])
  y0 : f0.type = tn
  y1 : f1.type = ta
  y2 : f2.type = ta
  o0 : f0.offset = 0
  o1 : f1.offset = 1
  o2 : f2.offset = 9
  ct : P.cellsOf t = 17
  un : P.underlying tn = some (.int .i64)
  cn : P.cellsOf tn = 1
  ua : P.underlying ta = some (.array 8 te)
  ca : P.cellsOf ta = 8
  ue : P.underlying te = some (.int .u8)
  ce : P.cellsOf te = 1

def gridD (s : Int) (x o : List Int) : DataW H := .agg [.lit (.int .i64 s), .agg (x.map fun a => .lit (.int .u8 a)), .agg (o.map fun a => .lit (.int .u8 a))]

/-- A row of bytes. -/
structure Bytes8 (x : List Int) : Prop where
  len : x.length = 8
  lo : ∀ a ∈ x, 0 ≤ a
  hi : ∀ a ∈ x, a < 256

theorem wf_u8 {a : Int} : (Lit.int .u8 a).wf = true ↔ 0 ≤ a ∧ a < 256 := by
  simp [Lit.wf, IntKind.min, IntKind.max, IntKind.signed, IntKind.bits]; omega
theorem wf_i64 {a : Int} : (Lit.int .i64 a).wf = true ↔ -9223372036854775808 ≤ a ∧ a < 9223372036854775808 := by
  simp [Lit.wf, IntKind.min, IntKind.max, IntKind.signed, IntKind.bits]; omega

theorem open_grid {t tn ta te : TypeId} {f0 f1 f2 : Field} (G : GridT P t tn ta te f0 f1 f2) {r : Reach} {b0 : Nat} {v : Value} {d : DataW H} {p : List MemPlace} (hv : Value.okWide P w r b0 t v) (h : DataW.Trod enc P w base spare held t v d p) :
    ∃ s x o, v = .agg (gc s x o).toArray ∧ d = gridD s x o ∧ p = [] ∧ (-9223372036854775808 ≤ s ∧ s < 9223372036854775808) ∧ Bytes8 x ∧ Bytes8 o := by
  obtain ⟨fuel, hf⟩ := h
  unfold Value.okWide at hv
  rw [G.st] at hv
  obtain ⟨cs, rfl, hsz, _⟩ := hv
  cases fuel with
  | zero => simp [DataW.trod] at hf
  | succ fuel =>
    unfold DataW.trod at hf
    rw [G.st] at hf
    simp only [Value.cells, G.ct] at hf
    split at hf
    · rename_i hl
      simp only [Option.map_eq_some_iff] at hf
      obtain ⟨xs, hm, hxs⟩ := hf
      simp only [List.mapM_cons, List.mapM_nil, G.y0, G.y1, G.y2, G.o0, G.o1, G.o2, G.cn, G.ca, List.drop_zero, Option.bind_eq_bind, Option.pure_def, Option.bind_eq_some_iff, Option.some.injEq] at hm
      obtain ⟨a0, h0, r0, ⟨a1, h1, r1, ⟨a2, h2, r2, rfl, rfl⟩, rfl⟩, rfl⟩ := hm
      obtain ⟨s, hs, hws, rfl⟩ := trod_int_inv G.un h0
      obtain ⟨x, hx, hxl, hxw, rfl⟩ := trod_ints_inv G.ua G.ue G.ce G.ca h1
      obtain ⟨o, ho, hol, how, rfl⟩ := trod_ints_inv G.ua G.ue G.ce G.ca h2
      refine ⟨s, x, o, ?_, ?_, ?_, wf_i64.1 hws, ⟨hxl, fun a ha => (wf_u8.1 (hxw a ha)).1, fun a ha => (wf_u8.1 (hxw a ha)).2⟩, ⟨hol, fun a ha => (wf_u8.1 (how a ha)).1, fun a ha => (wf_u8.1 (how a ha)).2⟩⟩
      · congr 1
        apply Array.toList_inj.1
        show cs.toList = gc s x o
        unfold gc
        rw [← hx, ← ho]
        have e9 : cs.toList = cs.toList.take 1 ++ ((cs.toList.drop 1).take 8 ++ (cs.toList.drop 9).take 8) := by
          have hcl : (cs.toList.drop 9).length = 8 := by rw [List.length_drop]; omega
          have e : (cs.toList.drop 9).take 8 = cs.toList.drop 9 := List.take_of_length_le (by omega)
          rw [e]
          have e' : (cs.toList.drop 1).take 8 ++ cs.toList.drop 9 = cs.toList.drop 1 := by
            have : cs.toList.drop 9 = (cs.toList.drop 1).drop 8 := by rw [List.drop_drop]
            rw [this, List.take_append_drop]
          rw [e', List.take_append_drop]
        rw [hs] at e9
        exact e9
      · simp only [Prod.mk.injEq] at hxs
        exact hxs.1.symm
      · simp only [Prod.mk.injEq] at hxs
        exact hxs.2.symm
    · cases hf

theorem shut_grid {t tn ta te : TypeId} {f0 f1 f2 : Field} (G : GridT P t tn ta te f0 f1 f2) {s : Int} {x o : List Int} (hs : -9223372036854775808 ≤ s ∧ s < 9223372036854775808) (hx : Bytes8 x) (ho : Bytes8 o) :
    DataW.Trod enc P w base spare held t (.agg (gc s x o).toArray) (gridD s x o) [] := by
  refine ⟨3, ?_⟩
  unfold DataW.trod
  rw [G.st]
  simp only [Value.cells, G.ct, gc_length, hx.len, ho.len]
  have e0 : (gc s x o).take 1 = [.int .i64 s] := rfl
  have h0 : DataW.trod enc P w base spare held 2 tn ((gc s x o).take 1) = some (.lit (.int .i64 s), []) := by rw [e0]; exact trod_int_mk G.un (wf_i64.2 hs)
  have h1 : DataW.trod enc P w base spare held 2 ta (((gc s x o).drop 1).take 8) = some (.agg (x.map fun a => .lit (.int .u8 a)), []) := by
    rw [gc_take_x hx.len]; exact trod_ints_mk G.ua G.ue G.ce G.ca hx.len fun a ha => wf_u8.2 ⟨hx.lo a ha, hx.hi a ha⟩
  have h2 : DataW.trod enc P w base spare held 2 ta (((gc s x o).drop 9).take 8) = some (.agg (o.map fun a => .lit (.int .u8 a)), []) := by
    rw [gc_take_o hx.len ho.len]; exact trod_ints_mk G.ua G.ue G.ce G.ca ho.len fun a ha => wf_u8.2 ⟨ho.lo a ha, ho.hi a ha⟩
  simp only [G.y0, G.y1, G.y2, G.o0, G.o1, G.o2, G.cn, G.ca, List.drop_zero, List.mapM_cons, List.mapM_nil, h0, h1, h2, Option.bind_eq_bind, Option.bind_some, Option.pure_def, Option.map_some, Nat.reduceAdd, if_true]
  rfl

end

end Go.Proofs

/-
  What the functions of this part hand back: each as a plain function of its arguments. Conditions: none.
-/
namespace Go.Proofs
open Go.W8
set_option linter.unusedVariables false
set_option linter.unusedSimpArgs false
set_option linter.unusedSectionVars false
set_option maxRecDepth 8000
set_option maxHeartbeats 4000000

theorem within_c (x lo hi : Int) : Gives Try.prog 83 #[.int .i64 x, .int .i64 lo, .int .i64 hi] (.bool (decide (lo ≤ x) && decide (x ≤ hi))) := by
  refine Gives.of fun w => ?_
  refine acall_of (N := 15) (c := _) (rs := [.tmp 6]) (args := [_, _, _]) Try.func83 rfl (by decide) rfl rfl (Nat.le_of_ble_eq_true rfl) ?_
  refine Cd.rs [0, 1, 2] fun K hK => ?_
  simp (maxSteps := 2000000) (disch := first | omega | (simp only [E4, *] <;> omega) | fail) only [↓E0, E1, evP, evPlan, env0, envN, evOps, evOp, evQs, evQ, evV, setD, pureOp, ev, upd, updL, gate, binW, eqOp, binV, intOp, shOp, boolOp, unV, convV, nilV, fieldAddrV, indexAddrV, extractV, cellAt, cellsAt, findB, setB, fillL, buildV, Value.cells, lenV, minV, maxV, hav, sliceV, loV, hiV, bslQ, mksQ, appQ, partsOk, partsCells, delB, eqL, SameI, strOp, apzQ, cvtQ, capV, ↓reduceIte, Zj, Zk, Nat.reduceAdd, Nat.reduceLT, Nat.reduceEqDiff, Nat.reduceMul, Nat.reduceLeDiff, if_true, Zn, reduceCtorEq, ZA, eq_self, Int.reduceLE, Int.reduceLT, Int.reduceToNat, ne_eq, Nat.reduceSub]
  repeat refine And.intro (by omega) ?_
  intro g
  simp only [List.map_cons, List.map_nil, updL, upd, Nat.reduceEqDiff, if_true, if_false, ↓reduceIte]
  refine hK _ _ ?_; clear hK K
  refine Cd.rs [6] fun K hK => ?_
  simp (maxSteps := 2000000) (disch := first | omega | (simp only [E4, *] <;> omega) | fail) only [↓E0, E1, evP, evPlan, env0, envN, evOps, evOp, evQs, evQ, evV, setD, pureOp, ev, upd, updL, gate, binW, eqOp, binV, intOp, shOp, boolOp, unV, convV, nilV, fieldAddrV, indexAddrV, extractV, cellAt, cellsAt, findB, setB, fillL, buildV, Value.cells, lenV, minV, maxV, hav, sliceV, loV, hiV, bslQ, mksQ, appQ, partsOk, partsCells, delB, eqL, SameI, strOp, apzQ, cvtQ, capV, ↓reduceIte, Zj, Zk, Nat.reduceAdd, Nat.reduceLT, Nat.reduceEqDiff, Nat.reduceMul, Nat.reduceLeDiff, if_true, Zn, reduceCtorEq, ZA, eq_self, Int.reduceLE, Int.reduceLT, Int.reduceToNat, ne_eq, Nat.reduceSub]
  refine ⟨fun h => ?_, fun h => ?_⟩
  all_goals
    repeat refine And.intro (by omega) ?_
    intro g
    simp only [List.map_cons, List.map_nil, updL, upd, Nat.reduceEqDiff, if_true, if_false, ↓reduceIte]
    refine hK _ _ ?_; clear hK K
    refine ret1 rfl ?_
    simp [upd, h]

theorem l01In_c (x lo hi : Int) : Gives Try.prog 81 #[.int .i64 x, .int .i64 lo, .int .i64 hi] (.bool (decide (lo ≤ x) && decide (x ≤ hi))) := by
  refine Gives.of fun w => ?_
  refine acall_of (N := 15) (c := _) (rs := [.tmp 6]) (args := [_, _, _]) Try.func81 rfl (by decide) rfl rfl (Nat.le_of_ble_eq_true rfl) ?_
  refine Cd.rs [0, 1, 2] fun K hK => ?_
  simp (maxSteps := 2000000) (disch := first | omega | (simp only [E4, *] <;> omega) | fail) only [↓E0, E1, evP, evPlan, env0, envN, evOps, evOp, evQs, evQ, evV, setD, pureOp, ev, upd, updL, gate, binW, eqOp, binV, intOp, shOp, boolOp, unV, convV, nilV, fieldAddrV, indexAddrV, extractV, cellAt, cellsAt, findB, setB, fillL, buildV, Value.cells, lenV, minV, maxV, hav, sliceV, loV, hiV, bslQ, mksQ, appQ, partsOk, partsCells, delB, eqL, SameI, strOp, apzQ, cvtQ, capV, ↓reduceIte, Zj, Zk, Nat.reduceAdd, Nat.reduceLT, Nat.reduceEqDiff, Nat.reduceMul, Nat.reduceLeDiff, if_true, Zn, reduceCtorEq, ZA, eq_self, Int.reduceLE, Int.reduceLT, Int.reduceToNat, ne_eq, Nat.reduceSub]
  repeat refine And.intro (by omega) ?_
  intro g
  simp only [List.map_cons, List.map_nil, updL, upd, Nat.reduceEqDiff, if_true, if_false, ↓reduceIte]
  refine hK _ _ ?_; clear hK K
  refine Cd.rs [6] fun K hK => ?_
  simp (maxSteps := 2000000) (disch := first | omega | (simp only [E4, *] <;> omega) | fail) only [↓E0, E1, evP, evPlan, env0, envN, evOps, evOp, evQs, evQ, evV, setD, pureOp, ev, upd, updL, gate, binW, eqOp, binV, intOp, shOp, boolOp, unV, convV, nilV, fieldAddrV, indexAddrV, extractV, cellAt, cellsAt, findB, setB, fillL, buildV, Value.cells, lenV, minV, maxV, hav, sliceV, loV, hiV, bslQ, mksQ, appQ, partsOk, partsCells, delB, eqL, SameI, strOp, apzQ, cvtQ, capV, ↓reduceIte, Zj, Zk, Nat.reduceAdd, Nat.reduceLT, Nat.reduceEqDiff, Nat.reduceMul, Nat.reduceLeDiff, if_true, Zn, reduceCtorEq, ZA, eq_self, Int.reduceLE, Int.reduceLT, Int.reduceToNat, ne_eq, Nat.reduceSub]
  refine ⟨fun h => ?_, fun h => ?_⟩
  all_goals
    repeat refine And.intro (by omega) ?_
    intro g
    simp only [List.map_cons, List.map_nil, updL, upd, Nat.reduceEqDiff, if_true, if_false, ↓reduceIte]
    refine hK _ _ ?_; clear hK K
    refine ret1 rfl ?_
    simp [upd, h]

end Go.Proofs

/-
  What the functions of this part hand back: each as a plain function of its arguments. Conditions: none.
-/
namespace Go.Proofs
open Go.W8
set_option linter.unusedVariables false
set_option linter.unusedSimpArgs false
set_option linter.unusedSectionVars false
set_option maxRecDepth 8000
set_option maxHeartbeats 4000000
theorem bytes_get {x : List Int} (hx : Bytes8 x) {i : Nat} (hi : i < 8) : 0 ≤ x.getD i 0 ∧ x.getD i 0 < 256 := by
  have hl := hx.len
  rw [List.getD_eq_getElem?_getD, List.getElem?_eq_getElem (by omega), Option.getD_some]
  exact ⟨hx.lo _ (List.getElem_mem (by omega)), hx.hi _ (List.getElem_mem (by omega))⟩

/-- The numbers that have been met. -/
def metL (x : List Int) (n k : Nat) : List Bool := (List.range 8).map fun (j : Nat) => decide (∃ i, i < k ∧ i < n ∧ x.getD i 0 = (j : Int))
theorem metL_len (x : List Int) (n k : Nat) : (metL x n k).length = 8 := by simp [metL]
theorem metL_get (x : List Int) (n k : Nat) {j : Nat} (hj : j < 8) : (metL x n k).getD j false = decide (∃ i, i < k ∧ i < n ∧ x.getD i 0 = (j : Int)) := by
  unfold metL
  rw [List.getD_eq_getElem?_getD, List.getElem?_map, List.getElem?_range hj]
  rfl
theorem metL_zero (x : List Int) (n : Nat) : metL x n 0 = List.replicate 8 false := by
  unfold metL
  simp only [Nat.not_lt_zero, false_and, exists_false, decide_false]
  rfl
theorem metL_over {x : List Int} {n k : Nat} (h : n ≤ k) : metL x n (k + 1) = metL x n k := by
  unfold metL
  apply List.map_congr_left
  intro j _
  congr 1
  apply propext
  constructor
  · rintro ⟨i, _, h2, h3⟩; exact ⟨i, by omega, h2, h3⟩
  · rintro ⟨i, h1, h2, h3⟩; exact ⟨i, by omega, h2, h3⟩
theorem metL_set {x : List Int} {n k : Nat} {j : Nat} (h : k < n) (hj : x.getD k 0 = (j : Int)) : (metL x n k).set j true = metL x n (k + 1) := by
  apply List.ext_getElem?
  intro i
  by_cases hi : i < 8
  · by_cases e : j = i
    · subst e
      rw [List.getElem?_set_self (by rw [metL_len]; exact hi)]
      unfold metL
      rw [List.getElem?_map, List.getElem?_range hi]
      simp only [Option.map_some, Option.some.injEq]
      exact (decide_eq_true ⟨k, by omega, h, hj⟩).symm
    · rw [List.getElem?_set_ne e]
      unfold metL
      rw [List.getElem?_map, List.getElem?_map, List.getElem?_range hi]
      simp only [Option.map_some, Option.some.injEq]
      congr 1
      apply propext
      constructor
      · rintro ⟨a, h1, h2, h3⟩; exact ⟨a, by omega, h2, h3⟩
      · rintro ⟨a, h1, h2, h3⟩
        refine ⟨a, ?_, h2, h3⟩
        rcases Nat.lt_succ_iff_lt_or_eq.1 h1 with h4 | rfl
        · exact h4
        · omega
  · rw [List.getElem?_eq_none (by rw [List.length_set, metL_len]; omega), List.getElem?_eq_none (by rw [metL_len]; omega)]

/-- All is well with the entries ahead of k. -/
def PermTo (x : List Int) (n k : Nat) : Prop := ∀ i, i < k → (i < n → x.getD i 0 < n ∧ ∀ j, j < i → x.getD j 0 ≠ x.getD i 0) ∧ (n ≤ i → x.getD i 0 = 0)

theorem perm_iff {x : List Int} {n : Nat} (hn : n ≤ 8) : IsPerm x n ↔ PermTo x n 8 := by
  constructor
  · rintro ⟨h1, h2, h3⟩ i hi
    exact ⟨fun h => ⟨h1 i h, h2 i h⟩, fun h => h3 i hi h⟩
  · intro h
    exact ⟨fun i hi => ((h i (by omega)).1 hi).1, fun i hi => ((h i (by omega)).1 hi).2, fun i hi hn => (h i hi).2 hn⟩

theorem permTo_not {x : List Int} {n k : Nat} (hn : n ≤ 8) (hk : k < 8) (h : ¬ ((k < n → x.getD k 0 < n ∧ ∀ j, j < k → x.getD j 0 ≠ x.getD k 0) ∧ (n ≤ k → x.getD k 0 = 0))) : decide (IsPerm x n) = false :=
  decide_eq_false fun hp => h ((perm_iff hn).1 hp k hk)

theorem permTo_succ {x : List Int} {n k : Nat} (hp : PermTo x n k) (h : (k < n → x.getD k 0 < n ∧ ∀ j, j < k → x.getD j 0 ≠ x.getD k 0) ∧ (n ≤ k → x.getD k 0 = 0)) : PermTo x n (k + 1) := by
  intro i hi
  rcases Nat.lt_succ_iff_lt_or_eq.1 hi with h1 | rfl
  · exact hp i h1
  · exact h

theorem l01Perm_c (x : List Int) (n : Nat) (hx : Bytes8 x) (hn : n ≤ 8) : Gives Try.prog 163 #[.agg (ints .u8 x).toArray, .int .i64 (n : Int)] (.bool (decide (IsPerm x n))) := by
  have hl := hx.len
  refine Gives.of fun w => ?_
  refine acall_of (N := 36) (c := _) (rs := [.tmp 4]) (args := [_, _]) Try.func163 rfl (by decide) rfl rfl (Nat.le_of_ble_eq_true rfl) ?_
  refine Cd.rs [1, 2] fun K hK => ?_
  simp (maxSteps := 2000000) (disch := first | omega | (simp only [E4, *] <;> omega) | fail) only [↓E0, E1, evP, evPlan, env0, envN, evOps, evOp, evQs, evQ, evV, setD, pureOp, ev, upd, updL, gate, binW, eqOp, binV, intOp, shOp, boolOp, unV, convV, nilV, fieldAddrV, indexAddrV, extractV, cellAt, cellsAt, findB, setB, fillL, buildV, Value.cells, lenV, minV, maxV, hav, sliceV, loV, hiV, bslQ, mksQ, appQ, partsOk, partsCells, delB, eqL, SameI, strOp, apzQ, cvtQ, capV, ↓reduceIte, Zj, Zk, Nat.reduceAdd, Nat.reduceLT, Nat.reduceEqDiff, Nat.reduceMul, Nat.reduceLeDiff, if_true, Zn, reduceCtorEq, ZA, eq_self, Int.reduceLE, Int.reduceLT, Int.reduceToNat, ne_eq, Nat.reduceSub]
  intro b1 hb1
  repeat refine And.intro (by omega) ?_
  intro g
  simp only [List.map_cons, List.map_nil, updL, upd, Nat.reduceEqDiff, if_true, if_false, ↓reduceIte]
  refine hK _ _ ?_; clear hK K
  refine Cd.rs [1, 2, 5] fun K hK => ?_
  simp (maxSteps := 2000000) (disch := first | omega | (simp only [E4, *] <;> omega) | fail) only [↓E0, E1, evP, evPlan, env0, envN, evOps, evOp, evQs, evQ, evV, setD, pureOp, ev, upd, updL, gate, binW, eqOp, binV, intOp, shOp, boolOp, unV, convV, nilV, fieldAddrV, indexAddrV, extractV, cellAt, cellsAt, findB, setB, fillL, buildV, Value.cells, lenV, minV, maxV, hav, sliceV, loV, hiV, bslQ, mksQ, appQ, partsOk, partsCells, delB, eqL, SameI, strOp, apzQ, cvtQ, capV, ↓reduceIte, Zj, Zk, Nat.reduceAdd, Nat.reduceLT, Nat.reduceEqDiff, Nat.reduceMul, Nat.reduceLeDiff, if_true, Zn, reduceCtorEq, ZA, eq_self, Int.reduceLE, Int.reduceLT, Int.reduceToNat, ne_eq, Nat.reduceSub, Tbld163, Tst163, Tzero163]
  intro b2 hb2
  have n21 := hb2.ne
  repeat refine And.intro (by omega) ?_
  intro g
  simp only [List.map_cons, List.map_nil, updL, upd, Nat.reduceEqDiff, if_true, if_false, ↓reduceIte]
  refine hK _ _ ?_; clear hK K
  refine Cd.seq ?_
  refine Cd.rs [1, 2, 5, 6] fun K hK => ?_
  simp (maxSteps := 2000000) (disch := first | omega | (simp only [E4, *] <;> omega) | fail) only [↓E0, E1, evP, evPlan, env0, envN, evOps, evOp, evQs, evQ, evV, setD, pureOp, ev, upd, updL, gate, binW, eqOp, binV, intOp, shOp, boolOp, unV, convV, nilV, fieldAddrV, indexAddrV, extractV, cellAt, cellsAt, findB, setB, fillL, buildV, Value.cells, lenV, minV, maxV, hav, sliceV, loV, hiV, bslQ, mksQ, appQ, partsOk, partsCells, delB, eqL, SameI, strOp, apzQ, cvtQ, capV, ↓reduceIte, Zj, Zk, Nat.reduceAdd, Nat.reduceLT, Nat.reduceEqDiff, Nat.reduceMul, Nat.reduceLeDiff, if_true, Zn, reduceCtorEq, ZA, eq_self, Int.reduceLE, Int.reduceLT, Int.reduceToNat, ne_eq, Nat.reduceSub]
  repeat refine And.intro (by omega) ?_
  intro g
  simp only [List.map_cons, List.map_nil, updL, upd, Nat.reduceEqDiff, if_true, if_false, ↓reduceIte]
  refine hK _ _ ?_; clear hK K
  refine Cd.block ?_
  rw [← metL_zero x n]
  refine Cd.loop (fun m ρ M => ∃ g k, k + m = 8 ∧ PermTo x n k ∧ ρ = updL [(1, .int .i64 (n : Int)), (2, .pointer (some ⟨b1, 0, none⟩)), (5, .pointer (some ⟨b2, 0, none⟩)), (6, .int .i64 (k : Int))] g ∧
    M = [(b2, bools (metL x n k)), (b1, ints .u8 x)]) 8 ⟨_, 0, Nat.zero_add _, (fun _ h => absurd h (Nat.not_lt_zero _)), rfl, rfl⟩ ?_
  rintro m ρ M ⟨g, k, hk, hp, rfl, rfl⟩
  refine Cd.seq ?_
  refine Cd.rs [1, 2, 5, 6, 9] fun K hK => ?_
  simp (maxSteps := 2000000) (disch := first | omega | (simp only [E4, *] <;> omega) | fail) only [↓E0, E1, evP, evPlan, env0, envN, evOps, evOp, evQs, evQ, evV, setD, pureOp, ev, upd, updL, gate, binW, eqOp, binV, intOp, shOp, boolOp, unV, convV, nilV, fieldAddrV, indexAddrV, extractV, cellAt, cellsAt, findB, setB, fillL, buildV, Value.cells, lenV, minV, maxV, hav, sliceV, loV, hiV, bslQ, mksQ, appQ, partsOk, partsCells, delB, eqL, SameI, strOp, apzQ, cvtQ, capV, ↓reduceIte, Zj, Zk, Nat.reduceAdd, Nat.reduceLT, Nat.reduceEqDiff, Nat.reduceMul, Nat.reduceLeDiff, if_true, Zn, reduceCtorEq, ZA, eq_self, Int.reduceLE, Int.reduceLT, Int.reduceToNat, ne_eq, Nat.reduceSub]
  repeat refine And.intro (by omega) ?_
  intro g
  simp only [List.map_cons, List.map_nil, updL, upd, Nat.reduceEqDiff, if_true, if_false, ↓reduceIte]
  refine hK _ _ ?_; clear hK K
  refine Cd.condd rfl (fun h1 => ?_) (fun h1 => ?_)
  · have hb := bytes_get hx (i := k) (by omega)
    refine Cd.skip ?_
    refine thenN ?_
    refine Cd.seq ?_
    refine Cd.block ?_
    refine Cd.seq ?_
    refine Cd.rs [1, 2, 5, 6, 14] fun K hK => ?_
    simp (maxSteps := 2000000) (disch := first | omega | (simp only [E4, *] <;> omega) | fail) only [↓E0, E1, evP, evPlan, env0, envN, evOps, evOp, evQs, evQ, evV, setD, pureOp, ev, upd, updL, gate, binW, eqOp, binV, intOp, shOp, boolOp, unV, convV, nilV, fieldAddrV, indexAddrV, extractV, cellAt, cellsAt, findB, setB, fillL, buildV, Value.cells, lenV, minV, maxV, hav, sliceV, loV, hiV, bslQ, mksQ, appQ, partsOk, partsCells, delB, eqL, SameI, strOp, apzQ, cvtQ, capV, ↓reduceIte, Zj, Zk, Nat.reduceAdd, Nat.reduceLT, Nat.reduceEqDiff, Nat.reduceMul, Nat.reduceLeDiff, if_true, Zn, reduceCtorEq, ZA, eq_self, Int.reduceLE, Int.reduceLT, Int.reduceToNat, ne_eq, Nat.reduceSub]
    repeat refine And.intro (by omega) ?_
    intro g
    simp only [List.map_cons, List.map_nil, updL, upd, Nat.reduceEqDiff, if_true, if_false, ↓reduceIte]
    refine hK _ _ ?_; clear hK K
    refine Cd.condd rfl (fun h2 => ?_) (fun h2 => ?_)
    · refine Cd.seq ?_
      refine Cd.rs [1, 2, 5, 6, 18] fun K hK => ?_
      simp (maxSteps := 2000000) (disch := first | omega | (simp only [E4, n21, hl, *] <;> omega) | fail) only [↓E0, E1, evP, evPlan, env0, envN, evOps, evOp, evQs, evQ, evV, setD, pureOp, ev, upd, updL, gate, binW, eqOp, binV, intOp, shOp, boolOp, unV, convV, nilV, fieldAddrV, indexAddrV, extractV, cellAt, cellsAt, findB, setB, fillL, buildV, Value.cells, lenV, minV, maxV, hav, sliceV, loV, hiV, bslQ, mksQ, appQ, partsOk, partsCells, delB, eqL, SameI, strOp, apzQ, cvtQ, capV, ↓reduceIte, Zj, Zk, Nat.reduceAdd, Nat.reduceLT, Nat.reduceEqDiff, Nat.reduceMul, Nat.reduceLeDiff, if_true, Zn, reduceCtorEq, ZA, eq_self, Int.reduceLE, Int.reduceLT, Int.reduceToNat, ne_eq, Nat.reduceSub, Tarr30, Tld5, n21, hl]
      repeat refine And.intro (by omega) ?_
      repeat refine And.intro (by omega) ?_
      intro g
      simp only [List.map_cons, List.map_nil, updL, upd, Nat.reduceEqDiff, if_true, if_false, ↓reduceIte]
      refine hK _ _ ?_; clear hK K
      refine Cd.cond rfl (fun h3 => ?_) (fun h3 => ?_)
      · refine Cd.rs [4] fun K hK => ?_
        simp (maxSteps := 2000000) (disch := first | omega | (simp only [E4, *] <;> omega) | fail) only [↓E0, E1, evP, evPlan, env0, envN, evOps, evOp, evQs, evQ, evV, setD, pureOp, ev, upd, updL, gate, binW, eqOp, binV, intOp, shOp, boolOp, unV, convV, nilV, fieldAddrV, indexAddrV, extractV, cellAt, cellsAt, findB, setB, fillL, buildV, Value.cells, lenV, minV, maxV, hav, sliceV, loV, hiV, bslQ, mksQ, appQ, partsOk, partsCells, delB, eqL, SameI, strOp, apzQ, cvtQ, capV, ↓reduceIte, Zj, Zk, Nat.reduceAdd, Nat.reduceLT, Nat.reduceEqDiff, Nat.reduceMul, Nat.reduceLeDiff, if_true, Zn, reduceCtorEq, ZA, eq_self, Int.reduceLE, Int.reduceLT, Int.reduceToNat, ne_eq, Nat.reduceSub]
        repeat refine And.intro (by omega) ?_
        intro g
        simp only [List.map_cons, List.map_nil, updL, upd, Nat.reduceEqDiff, if_true, if_false, ↓reduceIte]
        refine hK _ _ ?_; clear hK K
        refine Cd.ret (thenR (thenR (inBR (thenR (roundR (inBR (thenR ?_)))))))
        simp (maxSteps := 2000000) (disch := first | omega | (simp only [E4, *] <;> omega) | fail) only [↓E0, E1, evP, evPlan, env0, envN, evOps, evOp, evQs, evQ, evV, setD, pureOp, ev, upd, updL, gate, binW, eqOp, binV, intOp, shOp, boolOp, unV, convV, nilV, fieldAddrV, indexAddrV, extractV, cellAt, cellsAt, findB, setB, fillL, buildV, Value.cells, lenV, minV, maxV, hav, sliceV, loV, hiV, bslQ, mksQ, appQ, partsOk, partsCells, delB, eqL, SameI, strOp, apzQ, cvtQ, capV, ↓reduceIte, Zj, Zk, Nat.reduceAdd, Nat.reduceLT, Nat.reduceEqDiff, Nat.reduceMul, Nat.reduceLeDiff, if_true, Zn, reduceCtorEq, ZA, eq_self, Int.reduceLE, Int.reduceLT, Int.reduceToNat, ne_eq, Nat.reduceSub]
        exact congrArg Value.bool (permTo_not (k := k) hn (by omega) fun h => by have := h.2 (by omega); rw [this] at h3; simp at h3).symm
      · refine Cd.skip ?_
        refine thenN ?_
        refine Cd.exit (thenX (inBX ?_))
        refine thenN ?_
        refine Cd.rr [1, 2, 5, 6] fun K hK => ?_
        simp (maxSteps := 2000000) (disch := first | omega | (simp only [E4, *] <;> omega) | fail) only [↓E0, E1, evP, evPlan, env0, envN, evOps, evOp, evQs, evQ, evV, setD, pureOp, ev, upd, updL, gate, binW, eqOp, binV, intOp, shOp, boolOp, unV, convV, nilV, fieldAddrV, indexAddrV, extractV, cellAt, cellsAt, findB, setB, fillL, buildV, Value.cells, lenV, minV, maxV, hav, sliceV, loV, hiV, bslQ, mksQ, appQ, partsOk, partsCells, delB, eqL, SameI, strOp, apzQ, cvtQ, capV, ↓reduceIte, Zj, Zk, Nat.reduceAdd, Nat.reduceLT, Nat.reduceEqDiff, Nat.reduceMul, Nat.reduceLeDiff, if_true, Zn, reduceCtorEq, ZA, eq_self, Int.reduceLE, Int.reduceLT, Int.reduceToNat, ne_eq, Nat.reduceSub]
        repeat refine And.intro (by omega) ?_
        intro g
        simp only [List.map_cons, List.map_nil, updL, upd, Nat.reduceEqDiff, if_true, if_false, ↓reduceIte]
        refine hK _ _ ?_; clear hK K
        exact roundN (m := m - 1) (by omega) ⟨_, k + 1, by omega, permTo_succ hp ⟨fun h => absurd h (by omega), fun _ => by simpa using h3⟩, rfl, by rw [metL_over (by omega)]⟩
    · refine Cd.skip ?_
      refine thenN ?_
      refine Cd.seq ?_
      refine Cd.rs [1, 2, 5, 6, 31] fun K hK => ?_
      simp (maxSteps := 2000000) (disch := first | omega | (simp only [E4, n21, hl, *] <;> omega) | fail) only [↓E0, E1, evP, evPlan, env0, envN, evOps, evOp, evQs, evQ, evV, setD, pureOp, ev, upd, updL, gate, binW, eqOp, binV, intOp, shOp, boolOp, unV, convV, nilV, fieldAddrV, indexAddrV, extractV, cellAt, cellsAt, findB, setB, fillL, buildV, Value.cells, lenV, minV, maxV, hav, sliceV, loV, hiV, bslQ, mksQ, appQ, partsOk, partsCells, delB, eqL, SameI, strOp, apzQ, cvtQ, capV, ↓reduceIte, Zj, Zk, Nat.reduceAdd, Nat.reduceLT, Nat.reduceEqDiff, Nat.reduceMul, Nat.reduceLeDiff, if_true, Zn, reduceCtorEq, ZA, eq_self, Int.reduceLE, Int.reduceLT, Int.reduceToNat, ne_eq, Nat.reduceSub, Tarr163, Tarr30, Tint2, Tld4, Tld5, Tpar5, n21, hl]
      refine ⟨by omega, fun h4 => ?_, fun h4 => ?_⟩
      · replace h4 := of_decide_eq_false h4
        obtain ⟨j, hj⟩ : ∃ j : Nat, x.getD k 0 = (j : Int) := ⟨(x.getD k 0).toNat, by omega⟩
        have hj8 : j < 8 := by omega
        simp (maxSteps := 2000000) (disch := first | omega | (simp only [E4, n21, hl, hj, metL_len, metL_get, *] <;> omega) | fail) only [↓E0, E1, evP, evPlan, env0, envN, evOps, evOp, evQs, evQ, evV, setD, pureOp, ev, upd, updL, gate, binW, eqOp, binV, intOp, shOp, boolOp, unV, convV, nilV, fieldAddrV, indexAddrV, extractV, cellAt, cellsAt, findB, setB, fillL, buildV, Value.cells, lenV, minV, maxV, hav, sliceV, loV, hiV, bslQ, mksQ, appQ, partsOk, partsCells, delB, eqL, SameI, strOp, apzQ, cvtQ, capV, ↓reduceIte, Zj, Zk, Nat.reduceAdd, Nat.reduceLT, Nat.reduceEqDiff, Nat.reduceMul, Nat.reduceLeDiff, if_true, Zn, reduceCtorEq, ZA, eq_self, Int.reduceLE, Int.reduceLT, Int.reduceToNat, ne_eq, Nat.reduceSub, Tarr163, Tarr30, Tint2, Tld4, Tld5, Tpar5, n21, hl, hj, metL_len, metL_get]
        repeat refine And.intro (by omega) ?_
        repeat refine And.intro (by omega) ?_
        intro g
        simp only [List.map_cons, List.map_nil, updL, upd, Nat.reduceEqDiff, if_true, if_false, ↓reduceIte]
        refine hK _ _ ?_; clear hK K
        refine Cd.condd rfl (fun h5 => ?_) (fun h5 => ?_)
        · refine Cd.rs [4] fun K hK => ?_
          simp (maxSteps := 2000000) (disch := first | omega | (simp only [E4, *] <;> omega) | fail) only [↓E0, E1, evP, evPlan, env0, envN, evOps, evOp, evQs, evQ, evV, setD, pureOp, ev, upd, updL, gate, binW, eqOp, binV, intOp, shOp, boolOp, unV, convV, nilV, fieldAddrV, indexAddrV, extractV, cellAt, cellsAt, findB, setB, fillL, buildV, Value.cells, lenV, minV, maxV, hav, sliceV, loV, hiV, bslQ, mksQ, appQ, partsOk, partsCells, delB, eqL, SameI, strOp, apzQ, cvtQ, capV, ↓reduceIte, Zj, Zk, Nat.reduceAdd, Nat.reduceLT, Nat.reduceEqDiff, Nat.reduceMul, Nat.reduceLeDiff, if_true, Zn, reduceCtorEq, ZA, eq_self, Int.reduceLE, Int.reduceLT, Int.reduceToNat, ne_eq, Nat.reduceSub]
          repeat refine And.intro (by omega) ?_
          intro g
          simp only [List.map_cons, List.map_nil, updL, upd, Nat.reduceEqDiff, if_true, if_false, ↓reduceIte]
          refine hK _ _ ?_; clear hK K
          refine Cd.ret (thenR (inBR (thenR (roundR (inBR (thenR ?_))))))
          simp (maxSteps := 2000000) (disch := first | omega | (simp only [E4, *] <;> omega) | fail) only [↓E0, E1, evP, evPlan, env0, envN, evOps, evOp, evQs, evQ, evV, setD, pureOp, ev, upd, updL, gate, binW, eqOp, binV, intOp, shOp, boolOp, unV, convV, nilV, fieldAddrV, indexAddrV, extractV, cellAt, cellsAt, findB, setB, fillL, buildV, Value.cells, lenV, minV, maxV, hav, sliceV, loV, hiV, bslQ, mksQ, appQ, partsOk, partsCells, delB, eqL, SameI, strOp, apzQ, cvtQ, capV, ↓reduceIte, Zj, Zk, Nat.reduceAdd, Nat.reduceLT, Nat.reduceEqDiff, Nat.reduceMul, Nat.reduceLeDiff, if_true, Zn, reduceCtorEq, ZA, eq_self, Int.reduceLE, Int.reduceLT, Int.reduceToNat, ne_eq, Nat.reduceSub]
          exact congrArg Value.bool (permTo_not (k := k) hn (by omega) fun h => by
            obtain ⟨i, h6, h7, h8⟩ := h5
            exact (h.1 (by omega)).2 i h6 (by rw [h8, hj])).symm
        · refine Cd.skip ?_
          refine thenN ?_
          refine Cd.rr [1, 2, 5, 6] fun K hK => ?_
          simp (maxSteps := 2000000) (disch := first | omega | (simp only [E4, n21, hl, hj, metL_len, *] <;> omega) | fail) only [↓E0, E1, evP, evPlan, env0, envN, evOps, evOp, evQs, evQ, evV, setD, pureOp, ev, upd, updL, gate, binW, eqOp, binV, intOp, shOp, boolOp, unV, convV, nilV, fieldAddrV, indexAddrV, extractV, cellAt, cellsAt, findB, setB, fillL, buildV, Value.cells, lenV, minV, maxV, hav, sliceV, loV, hiV, bslQ, mksQ, appQ, partsOk, partsCells, delB, eqL, SameI, strOp, apzQ, cvtQ, capV, ↓reduceIte, Zj, Zk, Nat.reduceAdd, Nat.reduceLT, Nat.reduceEqDiff, Nat.reduceMul, Nat.reduceLeDiff, if_true, Zn, reduceCtorEq, ZA, eq_self, Int.reduceLE, Int.reduceLT, Int.reduceToNat, ne_eq, Nat.reduceSub, Tarr163, Tarr30, Tld5, Tst4, n21, hl, hj, metL_len]
          repeat refine And.intro (by omega) ?_
          rw [metL_set (by omega) hj]
          repeat refine And.intro (by omega) ?_
          intro g
          simp only [List.map_cons, List.map_nil, updL, upd, Nat.reduceEqDiff, if_true, if_false, ↓reduceIte]
          refine hK _ _ ?_; clear hK K
          refine inBN ?_
          refine thenN ?_
          refine Cd.rr [1, 2, 5, 6] fun K hK => ?_
          simp (maxSteps := 2000000) (disch := first | omega | (simp only [E4, *] <;> omega) | fail) only [↓E0, E1, evP, evPlan, env0, envN, evOps, evOp, evQs, evQ, evV, setD, pureOp, ev, upd, updL, gate, binW, eqOp, binV, intOp, shOp, boolOp, unV, convV, nilV, fieldAddrV, indexAddrV, extractV, cellAt, cellsAt, findB, setB, fillL, buildV, Value.cells, lenV, minV, maxV, hav, sliceV, loV, hiV, bslQ, mksQ, appQ, partsOk, partsCells, delB, eqL, SameI, strOp, apzQ, cvtQ, capV, ↓reduceIte, Zj, Zk, Nat.reduceAdd, Nat.reduceLT, Nat.reduceEqDiff, Nat.reduceMul, Nat.reduceLeDiff, if_true, Zn, reduceCtorEq, ZA, eq_self, Int.reduceLE, Int.reduceLT, Int.reduceToNat, ne_eq, Nat.reduceSub]
          repeat refine And.intro (by omega) ?_
          intro g
          simp only [List.map_cons, List.map_nil, updL, upd, Nat.reduceEqDiff, if_true, if_false, ↓reduceIte]
          refine hK _ _ ?_; clear hK K
          exact roundN (m := m - 1) (by omega) ⟨_, k + 1, by omega, permTo_succ hp ⟨fun h => ⟨by omega, fun i hi he => h5 ⟨i, hi, by omega, by rw [he, hj]⟩⟩, fun h => absurd h (by omega)⟩, rfl, rfl⟩
      · repeat refine And.intro (by omega) ?_
        intro g
        simp only [List.map_cons, List.map_nil, updL, upd, Nat.reduceEqDiff, if_true, if_false, ↓reduceIte]
        refine hK _ _ ?_; clear hK K
        refine Cd.yes rfl ?_
        refine Cd.rs [4] fun K hK => ?_
        simp (maxSteps := 2000000) (disch := first | omega | (simp only [E4, *] <;> omega) | fail) only [↓E0, E1, evP, evPlan, env0, envN, evOps, evOp, evQs, evQ, evV, setD, pureOp, ev, upd, updL, gate, binW, eqOp, binV, intOp, shOp, boolOp, unV, convV, nilV, fieldAddrV, indexAddrV, extractV, cellAt, cellsAt, findB, setB, fillL, buildV, Value.cells, lenV, minV, maxV, hav, sliceV, loV, hiV, bslQ, mksQ, appQ, partsOk, partsCells, delB, eqL, SameI, strOp, apzQ, cvtQ, capV, ↓reduceIte, Zj, Zk, Nat.reduceAdd, Nat.reduceLT, Nat.reduceEqDiff, Nat.reduceMul, Nat.reduceLeDiff, if_true, Zn, reduceCtorEq, ZA, eq_self, Int.reduceLE, Int.reduceLT, Int.reduceToNat, ne_eq, Nat.reduceSub]
        repeat refine And.intro (by omega) ?_
        intro g
        simp only [List.map_cons, List.map_nil, updL, upd, Nat.reduceEqDiff, if_true, if_false, ↓reduceIte]
        refine hK _ _ ?_; clear hK K
        refine Cd.ret (thenR (inBR (thenR (roundR (inBR (thenR ?_))))))
        simp (maxSteps := 2000000) (disch := first | omega | (simp only [E4, *] <;> omega) | fail) only [↓E0, E1, evP, evPlan, env0, envN, evOps, evOp, evQs, evQ, evV, setD, pureOp, ev, upd, updL, gate, binW, eqOp, binV, intOp, shOp, boolOp, unV, convV, nilV, fieldAddrV, indexAddrV, extractV, cellAt, cellsAt, findB, setB, fillL, buildV, Value.cells, lenV, minV, maxV, hav, sliceV, loV, hiV, bslQ, mksQ, appQ, partsOk, partsCells, delB, eqL, SameI, strOp, apzQ, cvtQ, capV, ↓reduceIte, Zj, Zk, Nat.reduceAdd, Nat.reduceLT, Nat.reduceEqDiff, Nat.reduceMul, Nat.reduceLeDiff, if_true, Zn, reduceCtorEq, ZA, eq_self, Int.reduceLE, Int.reduceLT, Int.reduceToNat, ne_eq, Nat.reduceSub]
        exact congrArg Value.bool (permTo_not (k := k) hn (by omega) fun h => by have := (h.1 (by omega)).1; omega).symm
  · refine Cd.exit (thenX (roundX (inBX ?_)))
    refine thenN ?_
    obtain rfl : k = 8 := by omega
    refine Cd.rs [4] fun K hK => ?_
    simp (maxSteps := 2000000) (disch := first | omega | (simp only [E4, *] <;> omega) | fail) only [↓E0, E1, evP, evPlan, env0, envN, evOps, evOp, evQs, evQ, evV, setD, pureOp, ev, upd, updL, gate, binW, eqOp, binV, intOp, shOp, boolOp, unV, convV, nilV, fieldAddrV, indexAddrV, extractV, cellAt, cellsAt, findB, setB, fillL, buildV, Value.cells, lenV, minV, maxV, hav, sliceV, loV, hiV, bslQ, mksQ, appQ, partsOk, partsCells, delB, eqL, SameI, strOp, apzQ, cvtQ, capV, ↓reduceIte, Zj, Zk, Nat.reduceAdd, Nat.reduceLT, Nat.reduceEqDiff, Nat.reduceMul, Nat.reduceLeDiff, if_true, Zn, reduceCtorEq, ZA, eq_self, Int.reduceLE, Int.reduceLT, Int.reduceToNat, ne_eq, Nat.reduceSub]
    repeat refine And.intro (by omega) ?_
    intro g
    simp only [List.map_cons, List.map_nil, updL, upd, Nat.reduceEqDiff, if_true, if_false, ↓reduceIte]
    refine hK _ _ ?_; clear hK K
    refine Cd.ret ?_
    simp (maxSteps := 2000000) (disch := first | omega | (simp only [E4, *] <;> omega) | fail) only [↓E0, E1, evP, evPlan, env0, envN, evOps, evOp, evQs, evQ, evV, setD, pureOp, ev, upd, updL, gate, binW, eqOp, binV, intOp, shOp, boolOp, unV, convV, nilV, fieldAddrV, indexAddrV, extractV, cellAt, cellsAt, findB, setB, fillL, buildV, Value.cells, lenV, minV, maxV, hav, sliceV, loV, hiV, bslQ, mksQ, appQ, partsOk, partsCells, delB, eqL, SameI, strOp, apzQ, cvtQ, capV, ↓reduceIte, Zj, Zk, Nat.reduceAdd, Nat.reduceLT, Nat.reduceEqDiff, Nat.reduceMul, Nat.reduceLeDiff, if_true, Zn, reduceCtorEq, ZA, eq_self, Int.reduceLE, Int.reduceLT, Int.reduceToNat, ne_eq, Nat.reduceSub]
    exact congrArg Value.bool (decide_eq_true ((perm_iff hn).2 hp)).symm

end Go.Proofs

/-
  What the functions of this part hand back: each as a plain function of its arguments. Conditions: none.
-/
namespace Go.Proofs
open Go.W8
set_option linter.unusedVariables false
set_option linter.unusedSimpArgs false
set_option linter.unusedSectionVars false
set_option maxRecDepth 8000
set_option maxHeartbeats 4000000
theorem n_c (s : Int) (x o : List Int) (hx : x.length = 8) (ho : o.length = 8) : Gives Try.prog 99 #[.agg (gc s x o).toArray] (.int .i64 s) := by
  refine Gives.of fun w => ?_
  refine acall_of (N := 5) (c := _) (rs := [.tmp 2]) (args := [_]) Try.func99 rfl (by decide) rfl rfl (Nat.le_of_ble_eq_true rfl) ?_
  refine Cd.rs [1] fun K hK => ?_
  simp (maxSteps := 2000000) (disch := first | omega | (simp only [E4, *] <;> omega) | fail) only [↓E0, E1, evP, evPlan, env0, envN, evOps, evOp, evQs, evQ, evV, setD, pureOp, ev, upd, updL, gate, binW, eqOp, binV, intOp, shOp, boolOp, unV, convV, nilV, fieldAddrV, indexAddrV, extractV, cellAt, cellsAt, findB, setB, fillL, buildV, Value.cells, lenV, minV, maxV, hav, sliceV, loV, hiV, bslQ, mksQ, appQ, partsOk, partsCells, delB, eqL, SameI, strOp, apzQ, cvtQ, capV, ↓reduceIte, Zj, Zk, Nat.reduceAdd, Nat.reduceLT, Nat.reduceEqDiff, Nat.reduceMul, Nat.reduceLeDiff, if_true, Zn, reduceCtorEq, ZA, eq_self, Int.reduceLE, Int.reduceLT, Int.reduceToNat, ne_eq, Nat.reduceSub]
  intro b1 hb1
  repeat refine And.intro (by omega) ?_
  intro g
  simp only [List.map_cons, List.map_nil, updL, upd, Nat.reduceEqDiff, if_true, if_false, ↓reduceIte]
  refine hK _ _ ?_; clear hK K
  refine Cd.rs [2] fun K hK => ?_
  simp (maxSteps := 2000000) (disch := first | omega | (simp only [E4, hx, ho, *] <;> omega) | fail) only [↓E0, E1, evP, evPlan, env0, envN, evOps, evOp, evQs, evQ, evV, setD, pureOp, ev, upd, updL, gate, binW, eqOp, binV, intOp, shOp, boolOp, unV, convV, nilV, fieldAddrV, indexAddrV, extractV, cellAt, cellsAt, findB, setB, fillL, buildV, Value.cells, lenV, minV, maxV, hav, sliceV, loV, hiV, bslQ, mksQ, appQ, partsOk, partsCells, delB, eqL, SameI, strOp, apzQ, cvtQ, capV, ↓reduceIte, Zj, Zk, Nat.reduceAdd, Nat.reduceLT, Nat.reduceEqDiff, Nat.reduceMul, Nat.reduceLeDiff, if_true, Zn, reduceCtorEq, ZA, eq_self, Int.reduceLE, Int.reduceLT, Int.reduceToNat, ne_eq, Nat.reduceSub, Tfld32_0, Tld2, hx, ho]
  repeat refine And.intro (by omega) ?_
  intro g
  simp only [List.map_cons, List.map_nil, updL, upd, Nat.reduceEqDiff, if_true, if_false, ↓reduceIte]
  refine hK _ _ ?_; clear hK K
  refine Cd.ret ?_
  simp (maxSteps := 2000000) (disch := first | omega | (simp only [E4, *] <;> omega) | fail) only [↓E0, E1, evP, evPlan, env0, envN, evOps, evOp, evQs, evQ, evV, setD, pureOp, ev, upd, updL, gate, binW, eqOp, binV, intOp, shOp, boolOp, unV, convV, nilV, fieldAddrV, indexAddrV, extractV, cellAt, cellsAt, findB, setB, fillL, buildV, Value.cells, lenV, minV, maxV, hav, sliceV, loV, hiV, bslQ, mksQ, appQ, partsOk, partsCells, delB, eqL, SameI, strOp, apzQ, cvtQ, capV, ↓reduceIte, Zj, Zk, Nat.reduceAdd, Nat.reduceLT, Nat.reduceEqDiff, Nat.reduceMul, Nat.reduceLeDiff, if_true, Zn, reduceCtorEq, ZA, eq_self, Int.reduceLE, Int.reduceLT, Int.reduceToNat, ne_eq, Nat.reduceSub]

theorem gridB_false {s : Int} {x o : List Int} (h : ¬ IsG s x o) : gridB s x o = false := decide_eq_false h
theorem gridB_true {s : Int} {x o : List Int} (h : IsG s x o) : gridB s x o = true := decide_eq_true h

theorem gridB_s {s : Int} {x o : List Int} (h : gridB s x o = true) : ∃ n : Nat, s = (n : Int) ∧ 2 ≤ n ∧ n ≤ 8 := by
  have := of_decide_eq_true h
  exact ⟨s.toNat, by have := this.1; omega, by have := this.1; omega, by have := this.2.1; omega⟩

theorem l01Is_c (s : Int) (x o : List Int) (hx : Bytes8 x) (ho : Bytes8 o) : Gives Try.prog 90 #[.agg (gc s x o).toArray] (.bool (gridB s x o)) := by
  have hl := hx.len
  have hm := ho.len
  refine Gives.of fun w => ?_
  refine acall_of (N := 39) (c := _) (rs := [.tmp 2]) (args := [_]) Try.func90 rfl (by decide) rfl rfl (Nat.le_of_ble_eq_true rfl) ?_
  refine Cd.rs [1] fun K hK => ?_
  simp (maxSteps := 2000000) (disch := first | omega | (simp only [E4, *] <;> omega) | fail) only [↓E0, E1, evP, evPlan, env0, envN, evOps, evOp, evQs, evQ, evV, setD, pureOp, ev, upd, updL, gate, binW, eqOp, binV, intOp, shOp, boolOp, unV, convV, nilV, fieldAddrV, indexAddrV, extractV, cellAt, cellsAt, findB, setB, fillL, buildV, Value.cells, lenV, minV, maxV, hav, sliceV, loV, hiV, bslQ, mksQ, appQ, partsOk, partsCells, delB, eqL, SameI, strOp, apzQ, cvtQ, capV, ↓reduceIte, Zj, Zk, Nat.reduceAdd, Nat.reduceLT, Nat.reduceEqDiff, Nat.reduceMul, Nat.reduceLeDiff, if_true, Zn, reduceCtorEq, ZA, eq_self, Int.reduceLE, Int.reduceLT, Int.reduceToNat, ne_eq, Nat.reduceSub]
  intro b1 hb1
  repeat refine And.intro (by omega) ?_
  intro g
  simp only [List.map_cons, List.map_nil, updL, upd, Nat.reduceEqDiff, if_true, if_false, ↓reduceIte]
  refine hK _ _ ?_; clear hK K
  refine Cd.seq ?_
  refine Cd.rs [1, 23] fun K hK => ?_
  have J : ∀ g b, (b = false ↔ (2 ≤ s ∧ s ≤ 8) ∧ IsPerm x s.toNat ∧ IsPerm o s.toNat) → K (updL [(1, .pointer (some ⟨b1, 0, none⟩)), (23, .bool b)] g) [(b1, gc s x o)] := by
    intro g b hb
    refine hK _ _ ?_
    clear hK K
    refine Cd.cond rfl (fun h1 => ?_) (fun h1 => ?_)
    · refine Cd.rs [2] fun K hK => ?_
      simp (maxSteps := 2000000) (disch := first | omega | (simp only [E4, *] <;> omega) | fail) only [↓E0, E1, evP, evPlan, env0, envN, evOps, evOp, evQs, evQ, evV, setD, pureOp, ev, upd, updL, gate, binW, eqOp, binV, intOp, shOp, boolOp, unV, convV, nilV, fieldAddrV, indexAddrV, extractV, cellAt, cellsAt, findB, setB, fillL, buildV, Value.cells, lenV, minV, maxV, hav, sliceV, loV, hiV, bslQ, mksQ, appQ, partsOk, partsCells, delB, eqL, SameI, strOp, apzQ, cvtQ, capV, ↓reduceIte, Zj, Zk, Nat.reduceAdd, Nat.reduceLT, Nat.reduceEqDiff, Nat.reduceMul, Nat.reduceLeDiff, if_true, Zn, reduceCtorEq, ZA, eq_self, Int.reduceLE, Int.reduceLT, Int.reduceToNat, ne_eq, Nat.reduceSub]
      repeat refine And.intro (by omega) ?_
      intro g
      simp only [List.map_cons, List.map_nil, updL, upd, Nat.reduceEqDiff, if_true, if_false, ↓reduceIte]
      refine hK _ _ ?_; clear hK K
      refine Cd.ret (thenR ?_)
      simp (maxSteps := 2000000) (disch := first | omega | (simp only [E4, *] <;> omega) | fail) only [↓E0, E1, evP, evPlan, env0, envN, evOps, evOp, evQs, evQ, evV, setD, pureOp, ev, upd, updL, gate, binW, eqOp, binV, intOp, shOp, boolOp, unV, convV, nilV, fieldAddrV, indexAddrV, extractV, cellAt, cellsAt, findB, setB, fillL, buildV, Value.cells, lenV, minV, maxV, hav, sliceV, loV, hiV, bslQ, mksQ, appQ, partsOk, partsCells, delB, eqL, SameI, strOp, apzQ, cvtQ, capV, ↓reduceIte, Zj, Zk, Nat.reduceAdd, Nat.reduceLT, Nat.reduceEqDiff, Nat.reduceMul, Nat.reduceLeDiff, if_true, Zn, reduceCtorEq, ZA, eq_self, Int.reduceLE, Int.reduceLT, Int.reduceToNat, ne_eq, Nat.reduceSub]
      exact congrArg Value.bool (gridB_false fun h => by rw [hb.2 ⟨⟨h.1, h.2.1⟩, h.2.2.1, h.2.2.2.1⟩] at h1; cases h1).symm
    · obtain ⟨hs, hpx, hpo⟩ := hb.1 h1
      obtain ⟨n, rfl⟩ : ∃ n : Nat, s = (n : Int) := ⟨s.toNat, by omega⟩
      rw [Int.toNat_natCast] at hpx hpo
      refine Cd.skip ?_
      refine thenN ?_
      refine Cd.seq ?_
      refine Cd.rs [1, 3] fun K hK => ?_
      simp (maxSteps := 2000000) (disch := first | omega | (simp only [E4, *] <;> omega) | fail) only [↓E0, E1, evP, evPlan, env0, envN, evOps, evOp, evQs, evQ, evV, setD, pureOp, ev, upd, updL, gate, binW, eqOp, binV, intOp, shOp, boolOp, unV, convV, nilV, fieldAddrV, indexAddrV, extractV, cellAt, cellsAt, findB, setB, fillL, buildV, Value.cells, lenV, minV, maxV, hav, sliceV, loV, hiV, bslQ, mksQ, appQ, partsOk, partsCells, delB, eqL, SameI, strOp, apzQ, cvtQ, capV, ↓reduceIte, Zj, Zk, Nat.reduceAdd, Nat.reduceLT, Nat.reduceEqDiff, Nat.reduceMul, Nat.reduceLeDiff, if_true, Zn, reduceCtorEq, ZA, eq_self, Int.reduceLE, Int.reduceLT, Int.reduceToNat, ne_eq, Nat.reduceSub]
      repeat refine And.intro (by omega) ?_
      intro g
      simp only [List.map_cons, List.map_nil, updL, upd, Nat.reduceEqDiff, if_true, if_false, ↓reduceIte]
      refine hK _ _ ?_; clear hK K
      refine Cd.block ?_
      refine Cd.loop (fun m ρ M => ∃ g k, k + m = n ∧ (∀ i, i < k → x.getD i 0 ≠ o.getD i 0) ∧ ρ = updL [(1, .pointer (some ⟨b1, 0, none⟩)), (3, .int .i64 (k : Int))] g ∧ M = [(b1, gc (n : Int) x o)]) n
        ⟨_, 0, Nat.zero_add _, (fun _ h => absurd h (Nat.not_lt_zero _)), rfl, rfl⟩ ?_
      rintro m ρ M ⟨g, k, hk, hd, rfl, rfl⟩
      refine Cd.seq ?_
      refine Cd.rs [1, 3, 27] fun K hK => ?_
      simp (maxSteps := 2000000) (disch := first | omega | (simp only [E4, hl, hm, *] <;> omega) | fail) only [↓E0, E1, evP, evPlan, env0, envN, evOps, evOp, evQs, evQ, evV, setD, pureOp, ev, upd, updL, gate, binW, eqOp, binV, intOp, shOp, boolOp, unV, convV, nilV, fieldAddrV, indexAddrV, extractV, cellAt, cellsAt, findB, setB, fillL, buildV, Value.cells, lenV, minV, maxV, hav, sliceV, loV, hiV, bslQ, mksQ, appQ, partsOk, partsCells, delB, eqL, SameI, strOp, apzQ, cvtQ, capV, ↓reduceIte, Zj, Zk, Nat.reduceAdd, Nat.reduceLT, Nat.reduceEqDiff, Nat.reduceMul, Nat.reduceLeDiff, if_true, Zn, reduceCtorEq, ZA, eq_self, Int.reduceLE, Int.reduceLT, Int.reduceToNat, ne_eq, Nat.reduceSub, Tfld32_0, Tld2, hl, hm]
      repeat refine And.intro (by omega) ?_
      intro g
      simp only [List.map_cons, List.map_nil, updL, upd, Nat.reduceEqDiff, if_true, if_false, ↓reduceIte]
      refine hK _ _ ?_; clear hK K
      refine Cd.condd rfl (fun h2 => ?_) (fun h2 => ?_)
      · refine Cd.skip ?_
        refine thenN ?_
        refine Cd.seq ?_
        refine Cd.block ?_
        refine Cd.qs [1, 3, 38] fol (by kernel_rfl) fun K hK => ?_
        simp (maxSteps := 2000000) (disch := first | omega | (simp only [E4, hl, hm, *] <;> omega) | fail) only [↓E0, E1, evP, evPlan, env0, envN, evOps, evOp, evQs, evQ, evV, setD, pureOp, ev, upd, updL, gate, binW, eqOp, binV, intOp, shOp, boolOp, unV, convV, nilV, fieldAddrV, indexAddrV, extractV, cellAt, cellsAt, findB, setB, fillL, buildV, Value.cells, lenV, minV, maxV, hav, sliceV, loV, hiV, bslQ, mksQ, appQ, partsOk, partsCells, delB, eqL, SameI, strOp, apzQ, cvtQ, capV, ↓reduceIte, Zj, Zk, Nat.reduceAdd, Nat.reduceLT, Nat.reduceEqDiff, Nat.reduceMul, Nat.reduceLeDiff, if_true, Zn, reduceCtorEq, ZA, eq_self, Int.reduceLE, Int.reduceLT, Int.reduceToNat, ne_eq, Nat.reduceSub, Tarr30, Tfld32_1, Tfld32_2, Tld5, hl, hm]
        repeat refine And.intro (by omega) ?_
        repeat refine And.intro (by omega) ?_
        intro g
        simp only [List.map_cons, List.map_nil, updL, upd, Nat.reduceEqDiff, if_true, if_false, ↓reduceIte]
        refine hK _ ?_; clear hK K
        refine Cd.cond rfl (fun h3 => ?_) (fun h3 => ?_)
        · refine Cd.rs [2] fun K hK => ?_
          simp (maxSteps := 2000000) (disch := first | omega | (simp only [E4, *] <;> omega) | fail) only [↓E0, E1, evP, evPlan, env0, envN, evOps, evOp, evQs, evQ, evV, setD, pureOp, ev, upd, updL, gate, binW, eqOp, binV, intOp, shOp, boolOp, unV, convV, nilV, fieldAddrV, indexAddrV, extractV, cellAt, cellsAt, findB, setB, fillL, buildV, Value.cells, lenV, minV, maxV, hav, sliceV, loV, hiV, bslQ, mksQ, appQ, partsOk, partsCells, delB, eqL, SameI, strOp, apzQ, cvtQ, capV, ↓reduceIte, Zj, Zk, Nat.reduceAdd, Nat.reduceLT, Nat.reduceEqDiff, Nat.reduceMul, Nat.reduceLeDiff, if_true, Zn, reduceCtorEq, ZA, eq_self, Int.reduceLE, Int.reduceLT, Int.reduceToNat, ne_eq, Nat.reduceSub]
          repeat refine And.intro (by omega) ?_
          intro g
          simp only [List.map_cons, List.map_nil, updL, upd, Nat.reduceEqDiff, if_true, if_false, ↓reduceIte]
          refine hK _ _ ?_; clear hK K
          refine Cd.ret (inBR (thenR (roundR (inBR (thenR ?_)))))
          simp (maxSteps := 2000000) (disch := first | omega | (simp only [E4, *] <;> omega) | fail) only [↓E0, E1, evP, evPlan, env0, envN, evOps, evOp, evQs, evQ, evV, setD, pureOp, ev, upd, updL, gate, binW, eqOp, binV, intOp, shOp, boolOp, unV, convV, nilV, fieldAddrV, indexAddrV, extractV, cellAt, cellsAt, findB, setB, fillL, buildV, Value.cells, lenV, minV, maxV, hav, sliceV, loV, hiV, bslQ, mksQ, appQ, partsOk, partsCells, delB, eqL, SameI, strOp, apzQ, cvtQ, capV, ↓reduceIte, Zj, Zk, Nat.reduceAdd, Nat.reduceLT, Nat.reduceEqDiff, Nat.reduceMul, Nat.reduceLeDiff, if_true, Zn, reduceCtorEq, ZA, eq_self, Int.reduceLE, Int.reduceLT, Int.reduceToNat, ne_eq, Nat.reduceSub]
          exact congrArg Value.bool (gridB_false fun h => h.2.2.2.2 k (by omega) (by simpa using h3)).symm
        · refine Cd.skip ?_
          refine inBN ?_
          refine thenN ?_
          refine Cd.rr [1, 3] fun K hK => ?_
          simp (maxSteps := 2000000) (disch := first | omega | (simp only [E4, *] <;> omega) | fail) only [↓E0, E1, evP, evPlan, env0, envN, evOps, evOp, evQs, evQ, evV, setD, pureOp, ev, upd, updL, gate, binW, eqOp, binV, intOp, shOp, boolOp, unV, convV, nilV, fieldAddrV, indexAddrV, extractV, cellAt, cellsAt, findB, setB, fillL, buildV, Value.cells, lenV, minV, maxV, hav, sliceV, loV, hiV, bslQ, mksQ, appQ, partsOk, partsCells, delB, eqL, SameI, strOp, apzQ, cvtQ, capV, ↓reduceIte, Zj, Zk, Nat.reduceAdd, Nat.reduceLT, Nat.reduceEqDiff, Nat.reduceMul, Nat.reduceLeDiff, if_true, Zn, reduceCtorEq, ZA, eq_self, Int.reduceLE, Int.reduceLT, Int.reduceToNat, ne_eq, Nat.reduceSub]
          repeat refine And.intro (by omega) ?_
          intro g
          simp only [List.map_cons, List.map_nil, updL, upd, Nat.reduceEqDiff, if_true, if_false, ↓reduceIte]
          refine hK _ _ ?_; clear hK K
          exact roundN (m := m - 1) (by omega) ⟨_, k + 1, by omega, fun i hi => by
            rcases Nat.lt_succ_iff_lt_or_eq.1 hi with h4 | rfl
            · exact hd i h4
            · simpa using h3, rfl, rfl⟩
      · refine Cd.exit (thenX (roundX (inBX ?_)))
        refine thenN ?_
        refine Cd.rs [2] fun K hK => ?_
        simp (maxSteps := 2000000) (disch := first | omega | (simp only [E4, *] <;> omega) | fail) only [↓E0, E1, evP, evPlan, env0, envN, evOps, evOp, evQs, evQ, evV, setD, pureOp, ev, upd, updL, gate, binW, eqOp, binV, intOp, shOp, boolOp, unV, convV, nilV, fieldAddrV, indexAddrV, extractV, cellAt, cellsAt, findB, setB, fillL, buildV, Value.cells, lenV, minV, maxV, hav, sliceV, loV, hiV, bslQ, mksQ, appQ, partsOk, partsCells, delB, eqL, SameI, strOp, apzQ, cvtQ, capV, ↓reduceIte, Zj, Zk, Nat.reduceAdd, Nat.reduceLT, Nat.reduceEqDiff, Nat.reduceMul, Nat.reduceLeDiff, if_true, Zn, reduceCtorEq, ZA, eq_self, Int.reduceLE, Int.reduceLT, Int.reduceToNat, ne_eq, Nat.reduceSub]
        repeat refine And.intro (by omega) ?_
        intro g
        simp only [List.map_cons, List.map_nil, updL, upd, Nat.reduceEqDiff, if_true, if_false, ↓reduceIte]
        refine hK _ _ ?_; clear hK K
        refine Cd.ret ?_
        simp (maxSteps := 2000000) (disch := first | omega | (simp only [E4, *] <;> omega) | fail) only [↓E0, E1, evP, evPlan, env0, envN, evOps, evOp, evQs, evQ, evV, setD, pureOp, ev, upd, updL, gate, binW, eqOp, binV, intOp, shOp, boolOp, unV, convV, nilV, fieldAddrV, indexAddrV, extractV, cellAt, cellsAt, findB, setB, fillL, buildV, Value.cells, lenV, minV, maxV, hav, sliceV, loV, hiV, bslQ, mksQ, appQ, partsOk, partsCells, delB, eqL, SameI, strOp, apzQ, cvtQ, capV, ↓reduceIte, Zj, Zk, Nat.reduceAdd, Nat.reduceLT, Nat.reduceEqDiff, Nat.reduceMul, Nat.reduceLeDiff, if_true, Zn, reduceCtorEq, ZA, eq_self, Int.reduceLE, Int.reduceLT, Int.reduceToNat, ne_eq, Nat.reduceSub]
        exact congrArg Value.bool (gridB_true ⟨hs.1, hs.2, hpx, hpo, fun i hi => hd i (by omega)⟩).symm
  clear hK
  simp (maxSteps := 2000000) (disch := first | omega | (simp only [E4, hl, hm, *] <;> omega) | fail) only [↓E0, E1, evP, evPlan, env0, envN, evOps, evOp, evQs, evQ, evV, setD, pureOp, ev, upd, updL, gate, binW, eqOp, binV, intOp, shOp, boolOp, unV, convV, nilV, fieldAddrV, indexAddrV, extractV, cellAt, cellsAt, findB, setB, fillL, buildV, Value.cells, lenV, minV, maxV, hav, sliceV, loV, hiV, bslQ, mksQ, appQ, partsOk, partsCells, delB, eqL, SameI, strOp, apzQ, cvtQ, capV, ↓reduceIte, Zj, Zk, Nat.reduceAdd, Nat.reduceLT, Nat.reduceEqDiff, Nat.reduceMul, Nat.reduceLeDiff, if_true, Zn, reduceCtorEq, ZA, eq_self, Int.reduceLE, Int.reduceLT, Int.reduceToNat, ne_eq, Nat.reduceSub, Tfld32_0, Tfld32_1, Tfld32_2, Tld2, Tld30, hl, hm]
  refine callK_gives (l01In_c _ _ _) ?_
  simp (maxSteps := 2000000) (disch := first | omega | (simp only [E4, hl, hm, *] <;> omega) | fail) only [↓E0, E1, evP, evPlan, env0, envN, evOps, evOp, evQs, evQ, evV, setD, pureOp, ev, upd, updL, gate, binW, eqOp, binV, intOp, shOp, boolOp, unV, convV, nilV, fieldAddrV, indexAddrV, extractV, cellAt, cellsAt, findB, setB, fillL, buildV, Value.cells, lenV, minV, maxV, hav, sliceV, loV, hiV, bslQ, mksQ, appQ, partsOk, partsCells, delB, eqL, SameI, strOp, apzQ, cvtQ, capV, ↓reduceIte, Zj, Zk, Nat.reduceAdd, Nat.reduceLT, Nat.reduceEqDiff, Nat.reduceMul, Nat.reduceLeDiff, if_true, Zn, reduceCtorEq, ZA, eq_self, Int.reduceLE, Int.reduceLT, Int.reduceToNat, ne_eq, Nat.reduceSub, Tfld32_0, Tfld32_1, Tfld32_2, Tld2, Tld30, hl, hm]
  refine ⟨fun h1 => ?_, fun h1 => ?_⟩
  · have hs : 2 ≤ s ∧ s ≤ 8 := by simpa using h1
    obtain ⟨n, rfl⟩ : ∃ n : Nat, s = (n : Int) := ⟨s.toNat, by omega⟩
    refine callK_gives (l01Perm_c x n hx (by omega)) ?_
    simp (maxSteps := 2000000) (disch := first | omega | (simp only [E4, hl, hm, *] <;> omega) | fail) only [↓E0, E1, evP, evPlan, env0, envN, evOps, evOp, evQs, evQ, evV, setD, pureOp, ev, upd, updL, gate, binW, eqOp, binV, intOp, shOp, boolOp, unV, convV, nilV, fieldAddrV, indexAddrV, extractV, cellAt, cellsAt, findB, setB, fillL, buildV, Value.cells, lenV, minV, maxV, hav, sliceV, loV, hiV, bslQ, mksQ, appQ, partsOk, partsCells, delB, eqL, SameI, strOp, apzQ, cvtQ, capV, ↓reduceIte, Zj, Zk, Nat.reduceAdd, Nat.reduceLT, Nat.reduceEqDiff, Nat.reduceMul, Nat.reduceLeDiff, if_true, Zn, reduceCtorEq, ZA, eq_self, Int.reduceLE, Int.reduceLT, Int.reduceToNat, ne_eq, Nat.reduceSub, Tfld32_0, Tfld32_1, Tfld32_2, Tld2, Tld30, hl, hm]
    refine ⟨fun h2 => ?_, fun h2 => ?_⟩
    · refine callK_gives (l01Perm_c o n ho (by omega)) ?_
      simp (maxSteps := 2000000) (disch := first | omega | (simp only [E4, hl, hm, *] <;> omega) | fail) only [↓E0, E1, evP, evPlan, env0, envN, evOps, evOp, evQs, evQ, evV, setD, pureOp, ev, upd, updL, gate, binW, eqOp, binV, intOp, shOp, boolOp, unV, convV, nilV, fieldAddrV, indexAddrV, extractV, cellAt, cellsAt, findB, setB, fillL, buildV, Value.cells, lenV, minV, maxV, hav, sliceV, loV, hiV, bslQ, mksQ, appQ, partsOk, partsCells, delB, eqL, SameI, strOp, apzQ, cvtQ, capV, ↓reduceIte, Zj, Zk, Nat.reduceAdd, Nat.reduceLT, Nat.reduceEqDiff, Nat.reduceMul, Nat.reduceLeDiff, if_true, Zn, reduceCtorEq, ZA, eq_self, Int.reduceLE, Int.reduceLT, Int.reduceToNat, ne_eq, Nat.reduceSub, Tfld32_0, Tfld32_1, Tfld32_2, Tld2, Tld30, hl, hm]
      repeat refine And.intro (by omega) ?_
      intro g
      simp only [List.map_cons, List.map_nil, updL, upd, Nat.reduceEqDiff, if_true, if_false, ↓reduceIte]
      refine J g _ ?_
      simp at h2
      simp [h2, hs]
    · repeat refine And.intro (by omega) ?_
      intro g
      simp only [List.map_cons, List.map_nil, updL, upd, Nat.reduceEqDiff, if_true, if_false, ↓reduceIte]
      refine J g _ ?_
      simp at h2
      simp [h2]
  · repeat refine And.intro (by omega) ?_
    intro g
    simp only [List.map_cons, List.map_nil, updL, upd, Nat.reduceEqDiff, if_true, if_false, ↓reduceIte]
    refine J g _ ?_
    simp at h1
    simp
    omega

/-- The mask of the entries ahead of k. -/
def maskL (x : List Int) (n k : Nat) : Nat := mask (fun i => (x.getD i 0).toNat) (min k n)
theorem maskL_zero (x : List Int) (n : Nat) : maskL x n 0 = 0 := by simp [maskL, mask]
theorem maskL_succ {x : List Int} {n k : Nat} (h : k < n) : maskL x n (k + 1) = maskL x n k ||| 2 ^ (x.getD k 0).toNat := by
  unfold maskL
  rw [Nat.min_eq_left (by omega), Nat.min_eq_left (by omega)]
  rfl
theorem maskL_over {x : List Int} {n k : Nat} (h : n ≤ k) : maskL x n (k + 1) = maskL x n k := by
  unfold maskL
  rw [Nat.min_eq_right (by omega), Nat.min_eq_right (by omega)]

/-- All is well with the entries ahead of k, but that one may come twice. -/
def FitTo (x : List Int) (n k : Nat) : Prop := ∀ i, i < k → x.getD i 0 < n ∧ (n ≤ i → x.getD i 0 = 0)

theorem mask_end {x : List Int} {n : Nat} (hx : Bytes8 x) (hn : n ≤ 8) (hd : FitTo x n 8) : ((maskL x n 8 : Int) == IntKind.wrap .i64 (((2 ^ n : Nat) : Int) - 1)) = decide (IsPerm x n) := by
  have hj2 : 2 ^ n ≤ 2 ^ 8 := Nat.pow_le_pow_right (by omega) hn
  have hp : 0 < 2 ^ n := Nat.two_pow_pos n
  have hf : ∀ i, i < n → (x.getD i 0).toNat < n := fun i hi => by have := (hd i (by omega)).1; have := (bytes_get hx (i := i) (by omega)).1; omega
  have hm := mask_full (f := fun i => (x.getD i 0).toNat) hf
  have e : maskL x n 8 = mask (fun i => (x.getD i 0).toNat) n := by unfold maskL; rw [Nat.min_eq_right hn]
  rw [e]
  have hw : IntKind.wrap .i64 (((2 ^ n : Nat) : Int) - 1) = ((2 ^ n - 1 : Nat) : Int) := by
    generalize 2 ^ n = m at hj2 hp
    rw [wrap_i64 (by omega) (by omega)]
    omega
  rw [hw]
  have hiff : ((mask (fun i => (x.getD i 0).toNat) n : Int) = ((2 ^ n - 1 : Nat) : Int)) ↔ IsPerm x n := by
    rw [Int.ofNat_inj, hm, perm_iff hn]
    constructor
    · intro h i hi
      refine ⟨fun hin => ⟨(hd i hi).1, fun j hj he => h i hin j hj (by rw [he])⟩, (hd i hi).2⟩
    · intro h i hi j hj he
      have h1 := bytes_get hx (i := i) (by omega)
      have h2 := bytes_get hx (i := j) (by omega)
      exact ((h i (by omega)).1 hi).2 j hj (by omega)
  by_cases h : IsPerm x n
  · rw [decide_eq_true h, hiff.2 h]; simp
  · rw [decide_eq_false h]
    exact beq_eq_false_iff_ne.2 fun he => h (hiff.1 he)

theorem isOrder_c (b o cap : Nat) (x : List Int) (n : Nat) (hx : Bytes8 x) (h2 : 2 ≤ n) (hn : n ≤ 8) : GivesR Try.prog 102 #[.slice (some ⟨b, o, none⟩) 8 cap, .int .i64 (n : Int)] [(b, o, ints .u8 x)] (.bool (decide (IsPerm x n))) := by
  have hl := hx.len
  refine GivesR.of (callable_of Try.func102 rfl (by decide)) fun w hR => ?_
  refine acall_of (N := 41) (c := _) (rs := [.tmp 4]) (args := [_, _]) Try.func102 rfl (by decide) rfl rfl (Nat.le_of_ble_eq_true rfl) ?_
  have hR := (told_ints hR).1
  rw [hl] at hR
  refine Cd.rs [0, 1] fun K hK => ?_
  simp (maxSteps := 2000000) (disch := first | omega | (simp only [E4, *] <;> omega) | fail) only [↓E0, E1, evP, evPlan, env0, envN, evOps, evOp, evQs, evQ, evV, setD, pureOp, ev, upd, updL, gate, binW, eqOp, binV, intOp, shOp, boolOp, unV, convV, nilV, fieldAddrV, indexAddrV, extractV, cellAt, cellsAt, findB, setB, fillL, buildV, Value.cells, lenV, minV, maxV, hav, sliceV, loV, hiV, bslQ, mksQ, appQ, partsOk, partsCells, delB, eqL, SameI, strOp, apzQ, cvtQ, capV, ↓reduceIte, Zj, Zk, Nat.reduceAdd, Nat.reduceLT, Nat.reduceEqDiff, Nat.reduceMul, Nat.reduceLeDiff, if_true, Zn, reduceCtorEq, ZA, eq_self, Int.reduceLE, Int.reduceLT, Int.reduceToNat, ne_eq, Nat.reduceSub]
  repeat refine And.intro (by omega) ?_
  intro g
  simp only [List.map_cons, List.map_nil, updL, upd, Nat.reduceEqDiff, if_true, if_false, ↓reduceIte]
  refine hK _ _ ?_; clear hK K
  refine Cd.rs [0, 1, 5] fun K hK => ?_
  simp (maxSteps := 2000000) (disch := first | omega | (simp only [E4, *] <;> omega) | fail) only [↓E0, E1, evP, evPlan, env0, envN, evOps, evOp, evQs, evQ, evV, setD, pureOp, ev, upd, updL, gate, binW, eqOp, binV, intOp, shOp, boolOp, unV, convV, nilV, fieldAddrV, indexAddrV, extractV, cellAt, cellsAt, findB, setB, fillL, buildV, Value.cells, lenV, minV, maxV, hav, sliceV, loV, hiV, bslQ, mksQ, appQ, partsOk, partsCells, delB, eqL, SameI, strOp, apzQ, cvtQ, capV, ↓reduceIte, Zj, Zk, Nat.reduceAdd, Nat.reduceLT, Nat.reduceEqDiff, Nat.reduceMul, Nat.reduceLeDiff, if_true, Zn, reduceCtorEq, ZA, eq_self, Int.reduceLE, Int.reduceLT, Int.reduceToNat, ne_eq, Nat.reduceSub]
  repeat refine And.intro (by omega) ?_
  intro g
  simp only [List.map_cons, List.map_nil, updL, upd, Nat.reduceEqDiff, if_true, if_false, ↓reduceIte]
  refine hK _ _ ?_; clear hK K
  refine Cd.seq ?_
  refine Cd.rs [1, 5, 8, 9, 10] fun K hK => ?_
  simp (maxSteps := 2000000) (disch := first | omega | (simp only [E4, *] <;> omega) | fail) only [↓E0, E1, evP, evPlan, env0, envN, evOps, evOp, evQs, evQ, evV, setD, pureOp, ev, upd, updL, gate, binW, eqOp, binV, intOp, shOp, boolOp, unV, convV, nilV, fieldAddrV, indexAddrV, extractV, cellAt, cellsAt, findB, setB, fillL, buildV, Value.cells, lenV, minV, maxV, hav, sliceV, loV, hiV, bslQ, mksQ, appQ, partsOk, partsCells, delB, eqL, SameI, strOp, apzQ, cvtQ, capV, ↓reduceIte, Zj, Zk, Nat.reduceAdd, Nat.reduceLT, Nat.reduceEqDiff, Nat.reduceMul, Nat.reduceLeDiff, if_true, Zn, reduceCtorEq, ZA, eq_self, Int.reduceLE, Int.reduceLT, Int.reduceToNat, ne_eq, Nat.reduceSub, Tslce28]
  repeat refine And.intro (by omega) ?_
  intro g
  simp only [List.map_cons, List.map_nil, updL, upd, Nat.reduceEqDiff, if_true, if_false, ↓reduceIte]
  refine hK _ _ ?_; clear hK K
  refine Cd.block ?_
  refine Cd.loop (fun m ρ M => ∃ g k, k + m = 8 ∧ FitTo x n k ∧ ρ = updL [(1, .int .i64 (n : Int)), (5, .int .i64 (maskL x n k : Int)), (8, .slice (some ⟨b, o, none⟩) 8 cap), (9, .int .i64 8), (10, .int .i64 (k : Int))] g ∧ M = []) 8
    ⟨_, 0, Nat.zero_add _, (fun _ h => absurd h (Nat.not_lt_zero _)), by rw [maskL_zero]; rfl, rfl⟩ ?_
  rintro m ρ M ⟨g, k, hk, hd, rfl, rfl⟩
  refine Cd.rs [1, 5, 8, 9, 10, 11] fun K hK => ?_
  simp (maxSteps := 2000000) (disch := first | omega | (simp only [E4, *] <;> omega) | fail) only [↓E0, E1, evP, evPlan, env0, envN, evOps, evOp, evQs, evQ, evV, setD, pureOp, ev, upd, updL, gate, binW, eqOp, binV, intOp, shOp, boolOp, unV, convV, nilV, fieldAddrV, indexAddrV, extractV, cellAt, cellsAt, findB, setB, fillL, buildV, Value.cells, lenV, minV, maxV, hav, sliceV, loV, hiV, bslQ, mksQ, appQ, partsOk, partsCells, delB, eqL, SameI, strOp, apzQ, cvtQ, capV, ↓reduceIte, Zj, Zk, Nat.reduceAdd, Nat.reduceLT, Nat.reduceEqDiff, Nat.reduceMul, Nat.reduceLeDiff, if_true, Zn, reduceCtorEq, ZA, eq_self, Int.reduceLE, Int.reduceLT, Int.reduceToNat, ne_eq, Nat.reduceSub]
  repeat refine And.intro (by omega) ?_
  intro g
  simp only [List.map_cons, List.map_nil, updL, upd, Nat.reduceEqDiff, if_true, if_false, ↓reduceIte]
  refine hK _ _ ?_; clear hK K
  refine Cd.seq ?_
  refine Cd.condd rfl (fun h1 => ?_) (fun h1 => ?_)
  · have hb := bytes_get hx (i := k) (by omega)
    refine Cd.skip ?_
    refine thenN ?_
    refine Cd.seq ?_
    refine Cd.block ?_
    refine Cd.rs [1, 5, 6, 7, 8, 9, 10] fun K hK => ?_
    simp (maxSteps := 2000000) (disch := first | omega | (simp only [E4, hR, *] <;> omega) | fail) only [↓E0, E1, evP, evPlan, env0, envN, evOps, evOp, evQs, evQ, evV, setD, pureOp, ev, upd, updL, gate, binW, eqOp, binV, intOp, shOp, boolOp, unV, convV, nilV, fieldAddrV, indexAddrV, extractV, cellAt, cellsAt, findB, setB, fillL, buildV, Value.cells, lenV, minV, maxV, hav, sliceV, loV, hiV, bslQ, mksQ, appQ, partsOk, partsCells, delB, eqL, SameI, strOp, apzQ, cvtQ, capV, ↓reduceIte, Zj, Zk, Nat.reduceAdd, Nat.reduceLT, Nat.reduceEqDiff, Nat.reduceMul, Nat.reduceLeDiff, if_true, Zn, reduceCtorEq, ZA, eq_self, Int.reduceLE, Int.reduceLT, Int.reduceToNat, ne_eq, Nat.reduceSub, Tld5, Tslc28, hR]
    repeat refine And.intro (by omega) ?_
    repeat refine And.intro (by omega) ?_
    intro g
    simp only [List.map_cons, List.map_nil, updL, upd, Nat.reduceEqDiff, if_true, if_false, ↓reduceIte]
    refine hK _ _ ?_; clear hK K
    refine Cd.seq ?_
    refine Cd.rs [1, 5, 6, 7, 8, 9, 10, 27] fun K hK => ?_
    have J : ∀ g b', (b' = false ↔ x.getD k 0 < n ∧ (n ≤ k → x.getD k 0 = 0)) → K (updL [(1, .int .i64 (n : Int)), (5, .int .i64 (maskL x n k : Int)), (6, .int .i64 (k : Int)), (7, .int .u8 (x.getD k 0)), (8, .slice (some ⟨b, o, none⟩) 8 cap), (9, .int .i64 8), (10, .int .i64 (k : Int)), (27, .bool b')] g) [] := by
      intro g b' hb'
      refine hK _ _ ?_
      clear hK K
      refine Cd.cond rfl (fun h3 => ?_) (fun h3 => ?_)
      · refine Cd.rs [4] fun K hK => ?_
        simp (maxSteps := 2000000) (disch := first | omega | (simp only [E4, *] <;> omega) | fail) only [↓E0, E1, evP, evPlan, env0, envN, evOps, evOp, evQs, evQ, evV, setD, pureOp, ev, upd, updL, gate, binW, eqOp, binV, intOp, shOp, boolOp, unV, convV, nilV, fieldAddrV, indexAddrV, extractV, cellAt, cellsAt, findB, setB, fillL, buildV, Value.cells, lenV, minV, maxV, hav, sliceV, loV, hiV, bslQ, mksQ, appQ, partsOk, partsCells, delB, eqL, SameI, strOp, apzQ, cvtQ, capV, ↓reduceIte, Zj, Zk, Nat.reduceAdd, Nat.reduceLT, Nat.reduceEqDiff, Nat.reduceMul, Nat.reduceLeDiff, if_true, Zn, reduceCtorEq, ZA, eq_self, Int.reduceLE, Int.reduceLT, Int.reduceToNat, ne_eq, Nat.reduceSub]
        repeat refine And.intro (by omega) ?_
        intro g
        simp only [List.map_cons, List.map_nil, updL, upd, Nat.reduceEqDiff, if_true, if_false, ↓reduceIte]
        refine hK _ _ ?_; clear hK K
        refine Cd.ret (thenR (inBR (thenR (roundR (inBR (thenR ?_))))))
        simp (maxSteps := 2000000) (disch := first | omega | (simp only [E4, *] <;> omega) | fail) only [↓E0, E1, evP, evPlan, env0, envN, evOps, evOp, evQs, evQ, evV, setD, pureOp, ev, upd, updL, gate, binW, eqOp, binV, intOp, shOp, boolOp, unV, convV, nilV, fieldAddrV, indexAddrV, extractV, cellAt, cellsAt, findB, setB, fillL, buildV, Value.cells, lenV, minV, maxV, hav, sliceV, loV, hiV, bslQ, mksQ, appQ, partsOk, partsCells, delB, eqL, SameI, strOp, apzQ, cvtQ, capV, ↓reduceIte, Zj, Zk, Nat.reduceAdd, Nat.reduceLT, Nat.reduceEqDiff, Nat.reduceMul, Nat.reduceLeDiff, if_true, Zn, reduceCtorEq, ZA, eq_self, Int.reduceLE, Int.reduceLT, Int.reduceToNat, ne_eq, Nat.reduceSub]
        refine congrArg Value.bool (decide_eq_false fun h => ?_).symm
        have : b' = false := hb'.2 (by
          have := (perm_iff hn).1 h k (by omega)
          by_cases hkn : k < n
          · exact ⟨(this.1 hkn).1, fun h => absurd h (by omega)⟩
          · exact ⟨by rw [this.2 (by omega)]; omega, this.2⟩)
        rw [this] at h3; cases h3
      · obtain ⟨h4, h5⟩ := hb'.1 h3
        have hd' : FitTo x n (k + 1) := fun i hi => by
          rcases Nat.lt_succ_iff_lt_or_eq.1 hi with h6 | rfl
          · exact hd i h6
          · exact ⟨h4, h5⟩
        refine Cd.skip ?_
        refine thenN ?_
        refine Cd.rs [1, 5, 7, 8, 9, 10, 30] fun K hK => ?_
        simp (maxSteps := 2000000) (disch := first | omega | (simp only [E4, *] <;> omega) | fail) only [↓E0, E1, evP, evPlan, env0, envN, evOps, evOp, evQs, evQ, evV, setD, pureOp, ev, upd, updL, gate, binW, eqOp, binV, intOp, shOp, boolOp, unV, convV, nilV, fieldAddrV, indexAddrV, extractV, cellAt, cellsAt, findB, setB, fillL, buildV, Value.cells, lenV, minV, maxV, hav, sliceV, loV, hiV, bslQ, mksQ, appQ, partsOk, partsCells, delB, eqL, SameI, strOp, apzQ, cvtQ, capV, ↓reduceIte, Zj, Zk, Nat.reduceAdd, Nat.reduceLT, Nat.reduceEqDiff, Nat.reduceMul, Nat.reduceLeDiff, if_true, Zn, reduceCtorEq, ZA, eq_self, Int.reduceLE, Int.reduceLT, Int.reduceToNat, ne_eq, Nat.reduceSub]
        repeat refine And.intro (by omega) ?_
        intro g
        simp only [List.map_cons, List.map_nil, updL, upd, Nat.reduceEqDiff, if_true, if_false, ↓reduceIte]
        refine hK _ _ ?_; clear hK K
        refine Cd.condd rfl (fun h3 => ?_) (fun h3 => ?_)
        · obtain ⟨j, hj⟩ : ∃ j : Nat, x.getD k 0 = (j : Int) := ⟨(x.getD k 0).toNat, by omega⟩
          have hm : maskL x n k < 2 ^ n := mask_lt fun i hi => by have := (hd i (by omega)).1; omega
          have hm2 : 2 ^ n ≤ 2 ^ 8 := Nat.pow_le_pow_right (by omega) hn
          have hj2 : 2 ^ j ≤ 2 ^ 8 := Nat.pow_le_pow_right (by omega) (by omega)
          refine Cd.rr [1, 5, 8, 9, 10] fun K hK => ?_
          simp (maxSteps := 2000000) (disch := first | omega | (simp only [E4, hj, shOp, shl_i64, *] <;> omega) | fail) only [↓E0, E1, evP, evPlan, env0, envN, evOps, evOp, evQs, evQ, evV, setD, pureOp, ev, upd, updL, gate, binW, eqOp, binV, intOp, shOp, boolOp, unV, convV, nilV, fieldAddrV, indexAddrV, extractV, cellAt, cellsAt, findB, setB, fillL, buildV, Value.cells, lenV, minV, maxV, hav, sliceV, loV, hiV, bslQ, mksQ, appQ, partsOk, partsCells, delB, eqL, SameI, strOp, apzQ, cvtQ, capV, ↓reduceIte, Zj, Zk, Nat.reduceAdd, Nat.reduceLT, Nat.reduceEqDiff, Nat.reduceMul, Nat.reduceLeDiff, if_true, Zn, reduceCtorEq, ZA, eq_self, Int.reduceLE, Int.reduceLT, Int.reduceToNat, ne_eq, Nat.reduceSub, hj, shOp, shl_i64]
          repeat refine And.intro (by omega) ?_
          rw [or_i64 (by omega) (by omega)]
          have e : maskL x n k ||| 2 ^ j = maskL x n (k + 1) := by rw [maskL_succ (by omega), hj]; rfl
          rw [e]
          repeat refine And.intro (by omega) ?_
          intro g
          simp only [List.map_cons, List.map_nil, updL, upd, Nat.reduceEqDiff, if_true, if_false, ↓reduceIte]
          refine hK _ _ ?_; clear hK K
          refine inBN ?_
          refine thenN ?_
          refine Cd.rr [1, 5, 8, 9, 10] fun K hK => ?_
          simp (maxSteps := 2000000) (disch := first | omega | (simp only [E4, *] <;> omega) | fail) only [↓E0, E1, evP, evPlan, env0, envN, evOps, evOp, evQs, evQ, evV, setD, pureOp, ev, upd, updL, gate, binW, eqOp, binV, intOp, shOp, boolOp, unV, convV, nilV, fieldAddrV, indexAddrV, extractV, cellAt, cellsAt, findB, setB, fillL, buildV, Value.cells, lenV, minV, maxV, hav, sliceV, loV, hiV, bslQ, mksQ, appQ, partsOk, partsCells, delB, eqL, SameI, strOp, apzQ, cvtQ, capV, ↓reduceIte, Zj, Zk, Nat.reduceAdd, Nat.reduceLT, Nat.reduceEqDiff, Nat.reduceMul, Nat.reduceLeDiff, if_true, Zn, reduceCtorEq, ZA, eq_self, Int.reduceLE, Int.reduceLT, Int.reduceToNat, ne_eq, Nat.reduceSub]
          repeat refine And.intro (by omega) ?_
          intro g
          simp only [List.map_cons, List.map_nil, updL, upd, Nat.reduceEqDiff, if_true, if_false, ↓reduceIte]
          refine hK _ _ ?_; clear hK K
          exact roundN (m := m - 1) (by omega) ⟨_, k + 1, by omega, hd', rfl, rfl⟩
        · refine Cd.skip ?_
          refine inBN ?_
          refine thenN ?_
          refine Cd.rr [1, 5, 8, 9, 10] fun K hK => ?_
          simp (maxSteps := 2000000) (disch := first | omega | (simp only [E4, *] <;> omega) | fail) only [↓E0, E1, evP, evPlan, env0, envN, evOps, evOp, evQs, evQ, evV, setD, pureOp, ev, upd, updL, gate, binW, eqOp, binV, intOp, shOp, boolOp, unV, convV, nilV, fieldAddrV, indexAddrV, extractV, cellAt, cellsAt, findB, setB, fillL, buildV, Value.cells, lenV, minV, maxV, hav, sliceV, loV, hiV, bslQ, mksQ, appQ, partsOk, partsCells, delB, eqL, SameI, strOp, apzQ, cvtQ, capV, ↓reduceIte, Zj, Zk, Nat.reduceAdd, Nat.reduceLT, Nat.reduceEqDiff, Nat.reduceMul, Nat.reduceLeDiff, if_true, Zn, reduceCtorEq, ZA, eq_self, Int.reduceLE, Int.reduceLT, Int.reduceToNat, ne_eq, Nat.reduceSub]
          repeat refine And.intro (by omega) ?_
          intro g
          simp only [List.map_cons, List.map_nil, updL, upd, Nat.reduceEqDiff, if_true, if_false, ↓reduceIte]
          refine hK _ _ ?_; clear hK K
          exact roundN (m := m - 1) (by omega) ⟨_, k + 1, by omega, hd', by rw [maskL_over (by omega)]; rfl, rfl⟩
    clear hK
    simp (maxSteps := 2000000) (disch := first | omega | (simp only [E4, *] <;> omega) | fail) only [↓E0, E1, evP, evPlan, env0, envN, evOps, evOp, evQs, evQ, evV, setD, pureOp, ev, upd, updL, gate, binW, eqOp, binV, intOp, shOp, boolOp, unV, convV, nilV, fieldAddrV, indexAddrV, extractV, cellAt, cellsAt, findB, setB, fillL, buildV, Value.cells, lenV, minV, maxV, hav, sliceV, loV, hiV, bslQ, mksQ, appQ, partsOk, partsCells, delB, eqL, SameI, strOp, apzQ, cvtQ, capV, ↓reduceIte, Zj, Zk, Nat.reduceAdd, Nat.reduceLT, Nat.reduceEqDiff, Nat.reduceMul, Nat.reduceLeDiff, if_true, Zn, reduceCtorEq, ZA, eq_self, Int.reduceLE, Int.reduceLT, Int.reduceToNat, ne_eq, Nat.reduceSub, Tint3, Tpar5]
    refine ⟨fun h3 => ?_, fun h3 => ?_⟩
    · skip
      refine ⟨fun h4 => ?_, fun h4 => ?_⟩
      · repeat refine And.intro (by omega) ?_
        intro g
        simp only [List.map_cons, List.map_nil, updL, upd, Nat.reduceEqDiff, if_true, if_false, ↓reduceIte]
        refine J _ _ ?_
        simp at h4 ⊢
        omega
      · repeat refine And.intro (by omega) ?_
        intro g
        simp only [List.map_cons, List.map_nil, updL, upd, Nat.reduceEqDiff, if_true, if_false, ↓reduceIte]
        refine J _ _ ?_
        simp at h4 ⊢
        omega
    · have h3 := of_decide_eq_false h3
      repeat refine And.intro (by omega) ?_
      intro g
      simp only [List.map_cons, List.map_nil, updL, upd, Nat.reduceEqDiff, if_true, if_false, ↓reduceIte]
      refine J _ _ ?_
      simp
      omega
  · refine Cd.exit (thenX (roundX (inBX ?_)))
    refine thenN ?_
    obtain rfl : k = 8 := by omega
    refine Cd.rs [4] fun K hK => ?_
    have hj2 : 2 ^ n ≤ 2 ^ 8 := Nat.pow_le_pow_right (by omega) hn
    simp (maxSteps := 2000000) (disch := first | omega | (simp only [E4, shOp, shl_i64, *] <;> omega) | fail) only [↓E0, E1, evP, evPlan, env0, envN, evOps, evOp, evQs, evQ, evV, setD, pureOp, ev, upd, updL, gate, binW, eqOp, binV, intOp, shOp, boolOp, unV, convV, nilV, fieldAddrV, indexAddrV, extractV, cellAt, cellsAt, findB, setB, fillL, buildV, Value.cells, lenV, minV, maxV, hav, sliceV, loV, hiV, bslQ, mksQ, appQ, partsOk, partsCells, delB, eqL, SameI, strOp, apzQ, cvtQ, capV, ↓reduceIte, Zj, Zk, Nat.reduceAdd, Nat.reduceLT, Nat.reduceEqDiff, Nat.reduceMul, Nat.reduceLeDiff, if_true, Zn, reduceCtorEq, ZA, eq_self, Int.reduceLE, Int.reduceLT, Int.reduceToNat, ne_eq, Nat.reduceSub, shOp, shl_i64]
    repeat refine And.intro (by omega) ?_
    repeat refine And.intro (by omega) ?_
    intro g
    simp only [List.map_cons, List.map_nil, updL, upd, Nat.reduceEqDiff, if_true, if_false, ↓reduceIte]
    refine hK _ _ ?_; clear hK K
    refine Cd.ret ?_
    simp (maxSteps := 2000000) (disch := first | omega | (simp only [E4, *] <;> omega) | fail) only [↓E0, E1, evP, evPlan, env0, envN, evOps, evOp, evQs, evQ, evV, setD, pureOp, ev, upd, updL, gate, binW, eqOp, binV, intOp, shOp, boolOp, unV, convV, nilV, fieldAddrV, indexAddrV, extractV, cellAt, cellsAt, findB, setB, fillL, buildV, Value.cells, lenV, minV, maxV, hav, sliceV, loV, hiV, bslQ, mksQ, appQ, partsOk, partsCells, delB, eqL, SameI, strOp, apzQ, cvtQ, capV, ↓reduceIte, Zj, Zk, Nat.reduceAdd, Nat.reduceLT, Nat.reduceEqDiff, Nat.reduceMul, Nat.reduceLeDiff, if_true, Zn, reduceCtorEq, ZA, eq_self, Int.reduceLE, Int.reduceLT, Int.reduceToNat, ne_eq, Nat.reduceSub]
    exact congrArg Value.bool (mask_end hx hn hd)

theorem IsGrid_c (s : Int) (x o : List Int) (hx : Bytes8 x) (ho : Bytes8 o) : Gives Try.prog 33 #[.agg (gc s x o).toArray] (.bool (gridB s x o)) := by
  have hl := hx.len
  have hm := ho.len
  refine Gives.of fun w => ?_
  refine acall_of (N := 39) (c := _) (rs := [.tmp 2]) (args := [_]) Try.func33 rfl (by decide) rfl rfl (Nat.le_of_ble_eq_true rfl) ?_
  refine Cd.rs [1] fun K hK => ?_
  simp (maxSteps := 2000000) (disch := first | omega | (simp only [E4, *] <;> omega) | fail) only [↓E0, E1, evP, evPlan, env0, envN, evOps, evOp, evQs, evQ, evV, setD, pureOp, ev, upd, updL, gate, binW, eqOp, binV, intOp, shOp, boolOp, unV, convV, nilV, fieldAddrV, indexAddrV, extractV, cellAt, cellsAt, findB, setB, fillL, buildV, Value.cells, lenV, minV, maxV, hav, sliceV, loV, hiV, bslQ, mksQ, appQ, partsOk, partsCells, delB, eqL, SameI, strOp, apzQ, cvtQ, capV, ↓reduceIte, Zj, Zk, Nat.reduceAdd, Nat.reduceLT, Nat.reduceEqDiff, Nat.reduceMul, Nat.reduceLeDiff, if_true, Zn, reduceCtorEq, ZA, eq_self, Int.reduceLE, Int.reduceLT, Int.reduceToNat, ne_eq, Nat.reduceSub]
  intro b1 hb1
  repeat refine And.intro (by omega) ?_
  intro g
  simp only [List.map_cons, List.map_nil, updL, upd, Nat.reduceEqDiff, if_true, if_false, ↓reduceIte]
  refine hK _ _ ?_; clear hK K
  refine Cd.seq ?_
  refine Cd.qs [1, 23] fol (by kernel_rfl) fun K hK => ?_
  have J : ∀ g b, (b = false ↔ (2 ≤ s ∧ s ≤ 8) ∧ IsPerm x s.toNat ∧ IsPerm o s.toNat) → K (updL [(1, .pointer (some ⟨b1, 0, none⟩)), (23, .bool b)] g) := by
    intro g b hb
    refine hK _ ?_
    clear hK K
    refine Cd.cond rfl (fun h1 => ?_) (fun h1 => ?_)
    · refine Cd.rs [2] fun K hK => ?_
      simp (maxSteps := 2000000) (disch := first | omega | (simp only [E4, *] <;> omega) | fail) only [↓E0, E1, evP, evPlan, env0, envN, evOps, evOp, evQs, evQ, evV, setD, pureOp, ev, upd, updL, gate, binW, eqOp, binV, intOp, shOp, boolOp, unV, convV, nilV, fieldAddrV, indexAddrV, extractV, cellAt, cellsAt, findB, setB, fillL, buildV, Value.cells, lenV, minV, maxV, hav, sliceV, loV, hiV, bslQ, mksQ, appQ, partsOk, partsCells, delB, eqL, SameI, strOp, apzQ, cvtQ, capV, ↓reduceIte, Zj, Zk, Nat.reduceAdd, Nat.reduceLT, Nat.reduceEqDiff, Nat.reduceMul, Nat.reduceLeDiff, if_true, Zn, reduceCtorEq, ZA, eq_self, Int.reduceLE, Int.reduceLT, Int.reduceToNat, ne_eq, Nat.reduceSub]
      repeat refine And.intro (by omega) ?_
      intro g
      simp only [List.map_cons, List.map_nil, updL, upd, Nat.reduceEqDiff, if_true, if_false, ↓reduceIte]
      refine hK _ _ ?_; clear hK K
      refine Cd.ret (thenR ?_)
      simp (maxSteps := 2000000) (disch := first | omega | (simp only [E4, *] <;> omega) | fail) only [↓E0, E1, evP, evPlan, env0, envN, evOps, evOp, evQs, evQ, evV, setD, pureOp, ev, upd, updL, gate, binW, eqOp, binV, intOp, shOp, boolOp, unV, convV, nilV, fieldAddrV, indexAddrV, extractV, cellAt, cellsAt, findB, setB, fillL, buildV, Value.cells, lenV, minV, maxV, hav, sliceV, loV, hiV, bslQ, mksQ, appQ, partsOk, partsCells, delB, eqL, SameI, strOp, apzQ, cvtQ, capV, ↓reduceIte, Zj, Zk, Nat.reduceAdd, Nat.reduceLT, Nat.reduceEqDiff, Nat.reduceMul, Nat.reduceLeDiff, if_true, Zn, reduceCtorEq, ZA, eq_self, Int.reduceLE, Int.reduceLT, Int.reduceToNat, ne_eq, Nat.reduceSub]
      exact congrArg Value.bool (gridB_false fun h => by rw [hb.2 ⟨⟨h.1, h.2.1⟩, h.2.2.1, h.2.2.2.1⟩] at h1; cases h1).symm
    · obtain ⟨hs, hpx, hpo⟩ := hb.1 h1
      obtain ⟨n, rfl⟩ : ∃ n : Nat, s = (n : Int) := ⟨s.toNat, by omega⟩
      rw [Int.toNat_natCast] at hpx hpo
      refine Cd.skip ?_
      refine thenN ?_
      refine Cd.seq ?_
      refine Cd.rs [1, 25, 26] fun K hK => ?_
      simp (maxSteps := 2000000) (disch := first | omega | (simp only [E4, hl, hm, *] <;> omega) | fail) only [↓E0, E1, evP, evPlan, env0, envN, evOps, evOp, evQs, evQ, evV, setD, pureOp, ev, upd, updL, gate, binW, eqOp, binV, intOp, shOp, boolOp, unV, convV, nilV, fieldAddrV, indexAddrV, extractV, cellAt, cellsAt, findB, setB, fillL, buildV, Value.cells, lenV, minV, maxV, hav, sliceV, loV, hiV, bslQ, mksQ, appQ, partsOk, partsCells, delB, eqL, SameI, strOp, apzQ, cvtQ, capV, ↓reduceIte, Zj, Zk, Nat.reduceAdd, Nat.reduceLT, Nat.reduceEqDiff, Nat.reduceMul, Nat.reduceLeDiff, if_true, Zn, reduceCtorEq, ZA, eq_self, Int.reduceLE, Int.reduceLT, Int.reduceToNat, ne_eq, Nat.reduceSub, Tld32, hl, hm]
      refine callK_gives (n_c _ x o hl hm) ?_
      simp (maxSteps := 2000000) (disch := first | omega | (simp only [E4, *] <;> omega) | fail) only [↓E0, E1, evP, evPlan, env0, envN, evOps, evOp, evQs, evQ, evV, setD, pureOp, ev, upd, updL, gate, binW, eqOp, binV, intOp, shOp, boolOp, unV, convV, nilV, fieldAddrV, indexAddrV, extractV, cellAt, cellsAt, findB, setB, fillL, buildV, Value.cells, lenV, minV, maxV, hav, sliceV, loV, hiV, bslQ, mksQ, appQ, partsOk, partsCells, delB, eqL, SameI, strOp, apzQ, cvtQ, capV, ↓reduceIte, Zj, Zk, Nat.reduceAdd, Nat.reduceLT, Nat.reduceEqDiff, Nat.reduceMul, Nat.reduceLeDiff, if_true, Zn, reduceCtorEq, ZA, eq_self, Int.reduceLE, Int.reduceLT, Int.reduceToNat, ne_eq, Nat.reduceSub, Tld32]
      repeat refine And.intro (by omega) ?_
      intro g
      simp only [List.map_cons, List.map_nil, updL, upd, Nat.reduceEqDiff, if_true, if_false, ↓reduceIte]
      refine hK _ _ ?_; clear hK K
      refine Cd.block ?_
      refine Cd.loop (fun m ρ M => ∃ g k, k + m = n ∧ (∀ i, i < k → x.getD i 0 ≠ o.getD i 0) ∧ ρ = updL [(1, .pointer (some ⟨b1, 0, none⟩)), (25, .int .i64 (n : Int)), (26, .int .i64 (k : Int))] g ∧ M = [(b1, gc (n : Int) x o)]) n
        ⟨_, 0, Nat.zero_add _, (fun _ h => absurd h (Nat.not_lt_zero _)), rfl, rfl⟩ ?_
      rintro m ρ M ⟨g, k, hk, hd, rfl, rfl⟩
      refine Cd.rs [1, 25, 26, 27] fun K hK => ?_
      simp (maxSteps := 2000000) (disch := first | omega | (simp only [E4, hl, hm, *] <;> omega) | fail) only [↓E0, E1, evP, evPlan, env0, envN, evOps, evOp, evQs, evQ, evV, setD, pureOp, ev, upd, updL, gate, binW, eqOp, binV, intOp, shOp, boolOp, unV, convV, nilV, fieldAddrV, indexAddrV, extractV, cellAt, cellsAt, findB, setB, fillL, buildV, Value.cells, lenV, minV, maxV, hav, sliceV, loV, hiV, bslQ, mksQ, appQ, partsOk, partsCells, delB, eqL, SameI, strOp, apzQ, cvtQ, capV, ↓reduceIte, Zj, Zk, Nat.reduceAdd, Nat.reduceLT, Nat.reduceEqDiff, Nat.reduceMul, Nat.reduceLeDiff, if_true, Zn, reduceCtorEq, ZA, eq_self, Int.reduceLE, Int.reduceLT, Int.reduceToNat, ne_eq, Nat.reduceSub, hl, hm]
      repeat refine And.intro (by omega) ?_
      intro g
      simp only [List.map_cons, List.map_nil, updL, upd, Nat.reduceEqDiff, if_true, if_false, ↓reduceIte]
      refine hK _ _ ?_; clear hK K
      refine Cd.seq ?_
      refine Cd.condd rfl (fun h2 => ?_) (fun h2 => ?_)
      · refine Cd.skip ?_
        refine thenN ?_
        refine Cd.seq ?_
        refine Cd.block ?_
        refine Cd.rs [1, 3, 25, 26] fun K hK => ?_
        simp (maxSteps := 2000000) (disch := first | omega | (simp only [E4, *] <;> omega) | fail) only [↓E0, E1, evP, evPlan, env0, envN, evOps, evOp, evQs, evQ, evV, setD, pureOp, ev, upd, updL, gate, binW, eqOp, binV, intOp, shOp, boolOp, unV, convV, nilV, fieldAddrV, indexAddrV, extractV, cellAt, cellsAt, findB, setB, fillL, buildV, Value.cells, lenV, minV, maxV, hav, sliceV, loV, hiV, bslQ, mksQ, appQ, partsOk, partsCells, delB, eqL, SameI, strOp, apzQ, cvtQ, capV, ↓reduceIte, Zj, Zk, Nat.reduceAdd, Nat.reduceLT, Nat.reduceEqDiff, Nat.reduceMul, Nat.reduceLeDiff, if_true, Zn, reduceCtorEq, ZA, eq_self, Int.reduceLE, Int.reduceLT, Int.reduceToNat, ne_eq, Nat.reduceSub]
        repeat refine And.intro (by omega) ?_
        intro g
        simp only [List.map_cons, List.map_nil, updL, upd, Nat.reduceEqDiff, if_true, if_false, ↓reduceIte]
        refine hK _ _ ?_; clear hK K
        refine Cd.qs [1, 25, 26, 37] fol (by kernel_rfl) fun K hK => ?_
        simp (maxSteps := 2000000) (disch := first | omega | (simp only [E4, hl, hm, *] <;> omega) | fail) only [↓E0, E1, evP, evPlan, env0, envN, evOps, evOp, evQs, evQ, evV, setD, pureOp, ev, upd, updL, gate, binW, eqOp, binV, intOp, shOp, boolOp, unV, convV, nilV, fieldAddrV, indexAddrV, extractV, cellAt, cellsAt, findB, setB, fillL, buildV, Value.cells, lenV, minV, maxV, hav, sliceV, loV, hiV, bslQ, mksQ, appQ, partsOk, partsCells, delB, eqL, SameI, strOp, apzQ, cvtQ, capV, ↓reduceIte, Zj, Zk, Nat.reduceAdd, Nat.reduceLT, Nat.reduceEqDiff, Nat.reduceMul, Nat.reduceLeDiff, if_true, Zn, reduceCtorEq, ZA, eq_self, Int.reduceLE, Int.reduceLT, Int.reduceToNat, ne_eq, Nat.reduceSub, Tarr30, Tfld32_1, Tfld32_2, Tld5, hl, hm]
        repeat refine And.intro (by omega) ?_
        repeat refine And.intro (by omega) ?_
        intro g
        simp only [List.map_cons, List.map_nil, updL, upd, Nat.reduceEqDiff, if_true, if_false, ↓reduceIte]
        refine hK _ ?_; clear hK K
        refine Cd.cond rfl (fun h3 => ?_) (fun h3 => ?_)
        · refine Cd.rs [2] fun K hK => ?_
          simp (maxSteps := 2000000) (disch := first | omega | (simp only [E4, *] <;> omega) | fail) only [↓E0, E1, evP, evPlan, env0, envN, evOps, evOp, evQs, evQ, evV, setD, pureOp, ev, upd, updL, gate, binW, eqOp, binV, intOp, shOp, boolOp, unV, convV, nilV, fieldAddrV, indexAddrV, extractV, cellAt, cellsAt, findB, setB, fillL, buildV, Value.cells, lenV, minV, maxV, hav, sliceV, loV, hiV, bslQ, mksQ, appQ, partsOk, partsCells, delB, eqL, SameI, strOp, apzQ, cvtQ, capV, ↓reduceIte, Zj, Zk, Nat.reduceAdd, Nat.reduceLT, Nat.reduceEqDiff, Nat.reduceMul, Nat.reduceLeDiff, if_true, Zn, reduceCtorEq, ZA, eq_self, Int.reduceLE, Int.reduceLT, Int.reduceToNat, ne_eq, Nat.reduceSub]
          repeat refine And.intro (by omega) ?_
          intro g
          simp only [List.map_cons, List.map_nil, updL, upd, Nat.reduceEqDiff, if_true, if_false, ↓reduceIte]
          refine hK _ _ ?_; clear hK K
          refine Cd.ret (inBR (thenR (roundR (inBR (thenR ?_)))))
          simp (maxSteps := 2000000) (disch := first | omega | (simp only [E4, *] <;> omega) | fail) only [↓E0, E1, evP, evPlan, env0, envN, evOps, evOp, evQs, evQ, evV, setD, pureOp, ev, upd, updL, gate, binW, eqOp, binV, intOp, shOp, boolOp, unV, convV, nilV, fieldAddrV, indexAddrV, extractV, cellAt, cellsAt, findB, setB, fillL, buildV, Value.cells, lenV, minV, maxV, hav, sliceV, loV, hiV, bslQ, mksQ, appQ, partsOk, partsCells, delB, eqL, SameI, strOp, apzQ, cvtQ, capV, ↓reduceIte, Zj, Zk, Nat.reduceAdd, Nat.reduceLT, Nat.reduceEqDiff, Nat.reduceMul, Nat.reduceLeDiff, if_true, Zn, reduceCtorEq, ZA, eq_self, Int.reduceLE, Int.reduceLT, Int.reduceToNat, ne_eq, Nat.reduceSub]
          exact congrArg Value.bool (gridB_false fun h => h.2.2.2.2 k (by omega) (by simpa using h3)).symm
        · refine Cd.skip ?_
          refine inBN ?_
          refine thenN ?_
          refine Cd.rr [1, 25, 26] fun K hK => ?_
          simp (maxSteps := 2000000) (disch := first | omega | (simp only [E4, *] <;> omega) | fail) only [↓E0, E1, evP, evPlan, env0, envN, evOps, evOp, evQs, evQ, evV, setD, pureOp, ev, upd, updL, gate, binW, eqOp, binV, intOp, shOp, boolOp, unV, convV, nilV, fieldAddrV, indexAddrV, extractV, cellAt, cellsAt, findB, setB, fillL, buildV, Value.cells, lenV, minV, maxV, hav, sliceV, loV, hiV, bslQ, mksQ, appQ, partsOk, partsCells, delB, eqL, SameI, strOp, apzQ, cvtQ, capV, ↓reduceIte, Zj, Zk, Nat.reduceAdd, Nat.reduceLT, Nat.reduceEqDiff, Nat.reduceMul, Nat.reduceLeDiff, if_true, Zn, reduceCtorEq, ZA, eq_self, Int.reduceLE, Int.reduceLT, Int.reduceToNat, ne_eq, Nat.reduceSub]
          repeat refine And.intro (by omega) ?_
          intro g
          simp only [List.map_cons, List.map_nil, updL, upd, Nat.reduceEqDiff, if_true, if_false, ↓reduceIte]
          refine hK _ _ ?_; clear hK K
          exact roundN (m := m - 1) (by omega) ⟨_, k + 1, by omega, fun i hi => by
            rcases Nat.lt_succ_iff_lt_or_eq.1 hi with h4 | rfl
            · exact hd i h4
            · simpa using h3, rfl, rfl⟩
      · refine Cd.exit (thenX (roundX (inBX ?_)))
        refine thenN ?_
        refine Cd.rs [2] fun K hK => ?_
        simp (maxSteps := 2000000) (disch := first | omega | (simp only [E4, *] <;> omega) | fail) only [↓E0, E1, evP, evPlan, env0, envN, evOps, evOp, evQs, evQ, evV, setD, pureOp, ev, upd, updL, gate, binW, eqOp, binV, intOp, shOp, boolOp, unV, convV, nilV, fieldAddrV, indexAddrV, extractV, cellAt, cellsAt, findB, setB, fillL, buildV, Value.cells, lenV, minV, maxV, hav, sliceV, loV, hiV, bslQ, mksQ, appQ, partsOk, partsCells, delB, eqL, SameI, strOp, apzQ, cvtQ, capV, ↓reduceIte, Zj, Zk, Nat.reduceAdd, Nat.reduceLT, Nat.reduceEqDiff, Nat.reduceMul, Nat.reduceLeDiff, if_true, Zn, reduceCtorEq, ZA, eq_self, Int.reduceLE, Int.reduceLT, Int.reduceToNat, ne_eq, Nat.reduceSub]
        repeat refine And.intro (by omega) ?_
        intro g
        simp only [List.map_cons, List.map_nil, updL, upd, Nat.reduceEqDiff, if_true, if_false, ↓reduceIte]
        refine hK _ _ ?_; clear hK K
        refine Cd.ret ?_
        simp (maxSteps := 2000000) (disch := first | omega | (simp only [E4, *] <;> omega) | fail) only [↓E0, E1, evP, evPlan, env0, envN, evOps, evOp, evQs, evQ, evV, setD, pureOp, ev, upd, updL, gate, binW, eqOp, binV, intOp, shOp, boolOp, unV, convV, nilV, fieldAddrV, indexAddrV, extractV, cellAt, cellsAt, findB, setB, fillL, buildV, Value.cells, lenV, minV, maxV, hav, sliceV, loV, hiV, bslQ, mksQ, appQ, partsOk, partsCells, delB, eqL, SameI, strOp, apzQ, cvtQ, capV, ↓reduceIte, Zj, Zk, Nat.reduceAdd, Nat.reduceLT, Nat.reduceEqDiff, Nat.reduceMul, Nat.reduceLeDiff, if_true, Zn, reduceCtorEq, ZA, eq_self, Int.reduceLE, Int.reduceLT, Int.reduceToNat, ne_eq, Nat.reduceSub]
        exact congrArg Value.bool (gridB_true ⟨hs.1, hs.2, hpx, hpo, fun i hi => hd i (by omega)⟩).symm
  clear hK
  simp (maxSteps := 2000000) (disch := first | omega | (simp only [E4, hl, hm, *] <;> omega) | fail) only [↓E0, E1, evP, evPlan, env0, envN, evOps, evOp, evQs, evQ, evV, setD, pureOp, ev, upd, updL, gate, binW, eqOp, binV, intOp, shOp, boolOp, unV, convV, nilV, fieldAddrV, indexAddrV, extractV, cellAt, cellsAt, findB, setB, fillL, buildV, Value.cells, lenV, minV, maxV, hav, sliceV, loV, hiV, bslQ, mksQ, appQ, partsOk, partsCells, delB, eqL, SameI, strOp, apzQ, cvtQ, capV, ↓reduceIte, Zj, Zk, Nat.reduceAdd, Nat.reduceLT, Nat.reduceEqDiff, Nat.reduceMul, Nat.reduceLeDiff, if_true, Zn, reduceCtorEq, ZA, eq_self, Int.reduceLE, Int.reduceLT, Int.reduceToNat, ne_eq, Nat.reduceSub, Tarr30, Tfld32_0, Tfld32_1, Tfld32_2, Tld2, Tld32, hl, hm]
  refine callQ_gives (within_c _ _ _) ?_
  simp (maxSteps := 2000000) (disch := first | omega | (simp only [E4, hl, hm, *] <;> omega) | fail) only [↓E0, E1, evP, evPlan, env0, envN, evOps, evOp, evQs, evQ, evV, setD, pureOp, ev, upd, updL, gate, binW, eqOp, binV, intOp, shOp, boolOp, unV, convV, nilV, fieldAddrV, indexAddrV, extractV, cellAt, cellsAt, findB, setB, fillL, buildV, Value.cells, lenV, minV, maxV, hav, sliceV, loV, hiV, bslQ, mksQ, appQ, partsOk, partsCells, delB, eqL, SameI, strOp, apzQ, cvtQ, capV, ↓reduceIte, Zj, Zk, Nat.reduceAdd, Nat.reduceLT, Nat.reduceEqDiff, Nat.reduceMul, Nat.reduceLeDiff, if_true, Zn, reduceCtorEq, ZA, eq_self, Int.reduceLE, Int.reduceLT, Int.reduceToNat, ne_eq, Nat.reduceSub, Tarr30, Tfld32_0, Tfld32_1, Tfld32_2, Tld2, Tld32, hl, hm]
  refine ⟨fun h1 => ?_, fun h1 => ?_⟩
  · have hs : 2 ≤ s ∧ s ≤ 8 := by simpa using h1
    obtain ⟨n, rfl⟩ : ∃ n : Nat, s = (n : Int) := ⟨s.toNat, by omega⟩
    refine callQ_gives (n_c _ x o hl hm) ?_
    simp (maxSteps := 2000000) (disch := first | omega | (simp only [E4, *] <;> omega) | fail) only [↓E0, E1, evP, evPlan, env0, envN, evOps, evOp, evQs, evQ, evV, setD, pureOp, ev, upd, updL, gate, binW, eqOp, binV, intOp, shOp, boolOp, unV, convV, nilV, fieldAddrV, indexAddrV, extractV, cellAt, cellsAt, findB, setB, fillL, buildV, Value.cells, lenV, minV, maxV, hav, sliceV, loV, hiV, bslQ, mksQ, appQ, partsOk, partsCells, delB, eqL, SameI, strOp, apzQ, cvtQ, capV, ↓reduceIte, Zj, Zk, Nat.reduceAdd, Nat.reduceLT, Nat.reduceEqDiff, Nat.reduceMul, Nat.reduceLeDiff, if_true, Zn, reduceCtorEq, ZA, eq_self, Int.reduceLE, Int.reduceLT, Int.reduceToNat, ne_eq, Nat.reduceSub, Tarr30, Tfld32_0, Tfld32_1, Tfld32_2, Tld2, Tld32]
    refine callQ_reads (isOrder_c b1 1 8 x n hx (by omega) (by omega)) (.cons (.sub (cs := gc (n : Int) x o) (by simp [findB]) (by rw [ints_length, hl]; exact sub_gc_x hl)) .nil) ?_
    simp (maxSteps := 2000000) (disch := first | omega | (simp only [E4, hl, hm, *] <;> omega) | fail) only [↓E0, E1, evP, evPlan, env0, envN, evOps, evOp, evQs, evQ, evV, setD, pureOp, ev, upd, updL, gate, binW, eqOp, binV, intOp, shOp, boolOp, unV, convV, nilV, fieldAddrV, indexAddrV, extractV, cellAt, cellsAt, findB, setB, fillL, buildV, Value.cells, lenV, minV, maxV, hav, sliceV, loV, hiV, bslQ, mksQ, appQ, partsOk, partsCells, delB, eqL, SameI, strOp, apzQ, cvtQ, capV, ↓reduceIte, Zj, Zk, Nat.reduceAdd, Nat.reduceLT, Nat.reduceEqDiff, Nat.reduceMul, Nat.reduceLeDiff, if_true, Zn, reduceCtorEq, ZA, eq_self, Int.reduceLE, Int.reduceLT, Int.reduceToNat, ne_eq, Nat.reduceSub, Tarr30, Tfld32_0, Tfld32_1, Tfld32_2, Tld2, Tld32, hl, hm]
    refine ⟨fun h2 => ?_, fun h2 => ?_⟩
    · refine callQ_gives (n_c _ x o hl hm) ?_
      simp (maxSteps := 2000000) (disch := first | omega | (simp only [E4, *] <;> omega) | fail) only [↓E0, E1, evP, evPlan, env0, envN, evOps, evOp, evQs, evQ, evV, setD, pureOp, ev, upd, updL, gate, binW, eqOp, binV, intOp, shOp, boolOp, unV, convV, nilV, fieldAddrV, indexAddrV, extractV, cellAt, cellsAt, findB, setB, fillL, buildV, Value.cells, lenV, minV, maxV, hav, sliceV, loV, hiV, bslQ, mksQ, appQ, partsOk, partsCells, delB, eqL, SameI, strOp, apzQ, cvtQ, capV, ↓reduceIte, Zj, Zk, Nat.reduceAdd, Nat.reduceLT, Nat.reduceEqDiff, Nat.reduceMul, Nat.reduceLeDiff, if_true, Zn, reduceCtorEq, ZA, eq_self, Int.reduceLE, Int.reduceLT, Int.reduceToNat, ne_eq, Nat.reduceSub, Tarr30, Tfld32_0, Tfld32_1, Tfld32_2, Tld2, Tld32]
      refine callQ_reads (isOrder_c b1 9 8 o n ho (by omega) (by omega)) (.cons (.sub (cs := gc (n : Int) x o) (by simp [findB]) (by rw [ints_length, hm]; exact sub_gc_o hl hm)) .nil) ?_
      simp (maxSteps := 2000000) (disch := first | omega | (simp only [E4, hl, hm, *] <;> omega) | fail) only [↓E0, E1, evP, evPlan, env0, envN, evOps, evOp, evQs, evQ, evV, setD, pureOp, ev, upd, updL, gate, binW, eqOp, binV, intOp, shOp, boolOp, unV, convV, nilV, fieldAddrV, indexAddrV, extractV, cellAt, cellsAt, findB, setB, fillL, buildV, Value.cells, lenV, minV, maxV, hav, sliceV, loV, hiV, bslQ, mksQ, appQ, partsOk, partsCells, delB, eqL, SameI, strOp, apzQ, cvtQ, capV, ↓reduceIte, Zj, Zk, Nat.reduceAdd, Nat.reduceLT, Nat.reduceEqDiff, Nat.reduceMul, Nat.reduceLeDiff, if_true, Zn, reduceCtorEq, ZA, eq_self, Int.reduceLE, Int.reduceLT, Int.reduceToNat, ne_eq, Nat.reduceSub, Tarr30, Tfld32_0, Tfld32_1, Tfld32_2, Tld2, Tld32, hl, hm]
      repeat refine And.intro (by omega) ?_
      intro g
      simp only [List.map_cons, List.map_nil, updL, upd, Nat.reduceEqDiff, if_true, if_false, ↓reduceIte]
      refine J g _ ?_
      simp at h2
      simp [h2, hs]
    · repeat refine And.intro (by omega) ?_
      intro g
      simp only [List.map_cons, List.map_nil, updL, upd, Nat.reduceEqDiff, if_true, if_false, ↓reduceIte]
      refine J g _ ?_
      simp at h2
      simp [h2]
  · repeat refine And.intro (by omega) ?_
    intro g
    simp only [List.map_cons, List.map_nil, updL, upd, Nat.reduceEqDiff, if_true, if_false, ↓reduceIte]
    refine J g _ ?_
    simp at h1
    simp
    omega

end Go.Proofs

/-
  What the functions of this part hand back: each as a plain function of its arguments. Conditions: none.
-/
namespace Go.Proofs
open Go.W8
set_option linter.unusedVariables false
set_option linter.unusedSimpArgs false
set_option linter.unusedSectionVars false
set_option maxRecDepth 8000
set_option maxHeartbeats 4000000
theorem ext8 {a b : List Int} (ha : a.length = 8) (hb : b.length = 8) (h : ∀ i, i < 8 → a.getD i 0 = b.getD i 0) : a = b := by
  apply List.ext_getElem?
  intro i
  by_cases hi : i < 8
  · have := h i hi
    rw [List.getD_eq_getElem?_getD, List.getD_eq_getElem?_getD, List.getElem?_eq_getElem (by omega), List.getElem?_eq_getElem (by omega)] at this
    rw [List.getElem?_eq_getElem (by omega), List.getElem?_eq_getElem (by omega)]
    simpa using this
  · rw [List.getElem?_eq_none (by omega), List.getElem?_eq_none (by omega)]
theorem getD_set {l : List Int} {i j : Nat} {v : Int} (h : i < l.length) : (l.set i v).getD j 0 = if i = j then v else l.getD j 0 := by
  rw [List.getD_eq_getElem?_getD, List.getElem?_set]
  split
  · rename_i e; subst e; first | rfl | (rw [if_pos h]; rfl)
  · rw [List.getD_eq_getElem?_getD]
theorem z8_get (i : Nat) : z8.getD i 0 = 0 := by
  match i with
  | 0 | 1 | 2 | 3 | 4 | 5 | 6 | 7 => rfl
  | _ + 8 => rfl
theorem gridB_perm {s : Int} {x o : List Int} (h : gridB s x o = true) : ∃ n : Nat, s = (n : Int) ∧ 2 ≤ n ∧ n ≤ 8 ∧ IsPerm x n ∧ IsPerm o n := by
  have := of_decide_eq_true h
  exact ⟨s.toNat, by have := this.1; omega, by have := this.1; omega, by have := this.2.1; omega, this.2.2.1, this.2.2.2.1⟩

end Go.Proofs

