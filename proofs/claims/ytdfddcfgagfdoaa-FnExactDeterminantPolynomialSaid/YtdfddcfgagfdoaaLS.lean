/-
  Slices that a call makes and lets grow: what the operations on them do to memory that is described by blocks. Nothing here is about one program. Conditions: none.
-/
import Derived.Test.YtdfddcfgagfdoaaL3
import Derived.Laws.AppendOwn
import Derived.Laws.OwnMore
namespace Go.W8
set_option linter.unusedSectionVars false
set_option linter.unusedSimpArgs false
set_option linter.unusedVariables false

/-- The parts stand in their order, each of the same size. -/
def partsOk (size : Nat) : Nat → List (Nat × Value) → Prop
  | _, [] => True
  | k, (i, v) :: l => (i = k ∧ v.cells.size = size) ∧ partsOk size (k + 1) l
def partsCells : List (Nat × Value) → List Value
  | [] => []
  | (_, v) :: l => v.cells.toList ++ partsCells l

theorem partsCells_length {size : Nat} : ∀ {k : Nat} {l : List (Nat × Value)}, partsOk size k l → (partsCells l).length = l.length * size
  | _, [], _ => by simp [partsCells]
  | k, (i, v) :: l, h => by
    simp only [partsCells, List.length_append, partsCells_length h.2, Array.length_toList, h.1.2, List.length_cons, Nat.add_mul, Nat.one_mul]
    omega

theorem fillL_parts {size len : Nat} : ∀ (l : List (Nat × Value)) (k : Nat) (pre post : List Value), partsOk size k l → k + l.length = len → pre.length = k * size → post.length = l.length * size →
    ∃ c, fillL ((List.range len).map fun i => (i * size, size)) (pre ++ post) l = some (c, pre ++ partsCells l) ∧ c
  | [], k, pre, post, _, _, _, hp => by
    have : post = [] := List.eq_nil_of_length_eq_zero (by simpa using hp)
    subst this
    exact ⟨True, by simp [fillL, partsCells], trivial⟩
  | (i, v) :: l, k, pre, post, h, hk, hpre, hpost => by
    obtain ⟨⟨rfl, hv⟩, hl⟩ := h
    simp only [List.length_cons] at hk hpost
    have hpost' : post.length = l.length * size + size := by rw [hpost, Nat.add_mul, Nat.one_mul]
    have hsp : splice (pre ++ post) (i * size) v.cells.toList = (pre ++ v.cells.toList) ++ post.drop size := by
      unfold splice
      have e1 : v.cells.toList.length = size := by rw [Array.length_toList, hv]
      rw [e1, ← hpre, List.take_left, List.drop_append, List.drop_of_length_le (by omega), List.nil_append]
      congr 2
      omega
    obtain ⟨c, hc, hct⟩ := fillL_parts (size := size) (len := len) l (i + 1) (pre ++ v.cells.toList) (post.drop size) hl (by omega)
      (by rw [List.length_append, hpre, Array.length_toList, hv, Nat.add_mul, Nat.one_mul]) (by rw [List.length_drop]; omega)
    refine ⟨(v.cells.size = size ∧ i * size + size ≤ (pre ++ post).length) ∧ c, ?_, ⟨⟨hv, ?_⟩, hct⟩⟩
    · unfold fillL
      rw [List.getElem?_map, List.getElem?_range (by omega)]
      simp only [Option.map_some]
      rw [hsp, hc]
      simp [partsCells, List.append_assoc]
    · rw [List.length_append, hpre]; omega

section
variable (P : Program)

theorem slice_facts {T e : TypeId} {size : Nat} {zs : List Value} (h1 : slcE P T = some e) (h2 : slcT P T = some size) (h3 : zeroT P e = some zs) :
    ∃ i z, P.underlying T = some (.slice e) ∧ P.info? e = some i ∧ i.zero = some z ∧ z.cells.toList = zs ∧ i.size = size ∧ i.bytes = bytesT P e := by
  unfold slcE at h1
  split at h1
  case h_2 => cases h1
  rename_i e' he
  simp only [Option.some.injEq] at h1
  subst h1
  unfold slcT at h2
  rw [he] at h2
  simp only at h2
  split at h2
  case isFalse => cases h2
  simp only [Option.some.injEq] at h2
  unfold zeroT at h3
  cases hi : P.info? e' with
  | none => simp [hi] at h3
  | some i =>
    cases hz : i.zero with
    | none => simp [hi, hz] at h3
    | some z =>
      simp [hi, hz] at h3
      refine ⟨i, z, he, rfl, hz, h3, ?_, ?_⟩
      · simpa [szT, hi] using h2
      · simp [bytesT, hi]

theorem run_bsl {T e : TypeId} {size : Nat} {zs : List Value} (h1 : slcE P T = some e) (h2 : slcT P T = some size) (h3 : zeroT P e = some zs) (hzs : zs.length = size) {parts : Array (Nat × Value)} {len : Nat}
    (hp : partsOk size 0 parts.toList) (hl : parts.toList.length = len) (hs : len * size ≤ 16777216) (w : World) :
    (Instr.buildSlice T len parts).run P w = .ok (.slice (some ⟨w.heap.size, 0, none⟩) len len) { w with heap := w.heap.push (.cells (partsCells parts.toList).toArray e) } := by
  obtain ⟨i, z, hu, hi, hz, hzc, hsz, _⟩ := slice_facts P h1 h2 h3
  have hfill : ∀ cs : List Value, cs.length = len * size → Instr.fill (fun i => some (i * size, size)) cs.toArray parts.toList = some (partsCells parts.toList).toArray := by
    intro cs hcs
    obtain ⟨c, hc, hct⟩ := fillL_parts (size := size) (len := len) parts.toList 0 [] cs hp (by omega) (by simp) (by rw [hcs, hl])
    refine fill_of (pl := (List.range len).map fun i => (i * size, size)) ?_ _ _ c _ (by simpa using hc) hct
    intro j x hx
    rw [List.getElem?_map] at hx
    by_cases hj : j < len
    · rw [List.getElem?_range hj] at hx
      simpa using hx
    · rw [List.getElem?_eq_none (by simpa using hj)] at hx; cases hx
  have hs' : ¬ (16777216 < len * size) := by omega
  unfold Instr.buildSlice
  by_cases h0 : len * size = 0
  · have := hfill [] (by simpa using h0.symm)
    have e1 : Array.map (fun _ => (default : Value)) (Array.range 0) = ([] : List Value).toArray := by simp
    simp [run_underlying hu, sizeOf, typeInfo, hi, hsz, h0, newRow]
    rw [e1, this]
    simp [run_newObj]
    try rfl
  · have := hfill ((Array.range (len * size)).map (z.cells[· % z.cells.size]!)).toList (by simp)
    simp only [Array.toArray_toList] at this
    simp [run_underlying hu, sizeOf, typeInfo, hi, hsz, hs', h0, zeroValue, hz, this, newRow, run_newObj]

theorem run_app_room {T ty e : TypeId} {i : TypeInfo} (hu : P.underlying T = some (.slice e)) (hi : P.info? e = some i) (w : World) (g sLen sCap : Nat) (cur : Array Value) (t : TypeId) (hg : w.heap[g]? = some (.cells cur t (0, 0)))
    (a : Addr) (m c : Nat) (news : List Value) (hl : news.length = m * i.size) (hnews : ∀ j u, news[j]? = some u → w.cell? (a.add j) = some u) (h1 : ∀ u ∈ news, u.oneCell' = true)
    (hroom : sLen + m ≤ sCap) (hfit : sLen * i.size + news.length ≤ cur.size) :
    (Builtin.append_ #[T, T] ty #[.slice (some ⟨g, 0, none⟩) sLen sCap, .slice (some a) m c]).run P w =
      .ok (.slice (some ⟨g, 0, none⟩) (sLen + m) sCap) (w.setRow g (cur.toList.take (sLen * i.size) ++ news ++ cur.toList.drop (sLen * i.size + news.length)).toArray) := by
  have hf := run_firstCells_some (P := P) w i.size m a m c news hl hnews
  have hst := run_storeCells_at P g (sLen * i.size) t news 0 cur w hg (by simpa using hfit) h1
  simp only [Nat.add_zero] at hst
  simp [Builtin.append_, run_underlying hu, sizeOf, typeInfo, hi, Builtin.lenOf, hroom, hf, Addr.add_lit, hst]

theorem Own.turn {W : List Nat} {w0 w : World} {M M' : Blks} (h : Own W w0 M w) (hm : ∀ p ∈ M', p ∈ M) (hn : (M'.map (·.1)).Nodup) : Own W w0 M' w :=
  ⟨h.os, h.tape, h.output, h.size, h.frame, fun p hp => h.own p (hm p hp), fun p hp => h.blk p (hm p hp), hn⟩

def delB (b : Nat) : Blks → Blks
  | [] => []
  | (b', cs) :: M => if b' = b then M else (b', cs) :: delB b M
theorem delB_sub (b : Nat) : ∀ M : Blks, (delB b M).Sublist M
  | [] => .slnil
  | (b', cs) :: M => by
    unfold delB
    split
    · exact List.sublist_cons_self _ _
    · exact (delB_sub b M).cons_cons _
theorem delB_ne {b : Nat} : ∀ {M : Blks}, (M.map (·.1)).Nodup → ∀ p ∈ delB b M, p.1 ≠ b
  | [], _, p, hp => nomatch hp
  | (b', cs) :: M, hn, p, hp => by
    simp only [List.map_cons, List.nodup_cons] at hn
    unfold delB at hp
    split at hp
    · rename_i e
      subst e
      exact fun e => hn.1 (by rw [← e]; exact List.mem_map_of_mem hp)
    · rename_i e
      rcases List.mem_cons.1 hp with rfl | hp
      · exact e
      · exact delB_ne hn.2 p hp
theorem mem_setB_new {b : Nat} {cs cs' : List Value} : ∀ {M : Blks}, findB b M = some cs → (b, cs') ∈ setB b cs' M
  | [], h => by simp [findB] at h
  | (b', c) :: M, h => by
    unfold findB at h
    unfold setB
    split at h
    · rename_i e; rw [if_pos e, e]; exact List.mem_cons_self
    · rename_i e; rw [if_neg e]; exact List.mem_cons_of_mem _ (mem_setB_new h)
theorem mem_setB_old {b : Nat} {cs' : List Value} : ∀ {M : Blks} {p : Nat × List Value}, p ∈ M → p.1 ≠ b → p ∈ setB b cs' M
  | [], _, hp, _ => nomatch hp
  | (b', c) :: M, p, hp, hne => by
    unfold setB
    rcases List.mem_cons.1 hp with rfl | hp
    · rw [if_neg hne]; exact List.mem_cons_self
    · split
      · exact List.mem_cons_of_mem _ hp
      · exact List.mem_cons_of_mem _ (mem_setB_old hp hne)
theorem Own.front {W : List Nat} {w0 w : World} {M : Blks} {b : Nat} {cs cs' : List Value} (hf : findB b M = some cs) (hn : (M.map (·.1)).Nodup) (h : Own W w0 (setB b cs' M) w) : Own W w0 ((b, cs') :: delB b M) w := by
  refine h.turn ?_ ?_
  · intro p hp
    rcases List.mem_cons.1 hp with rfl | hp
    · exact mem_setB_new hf
    · exact mem_setB_old ((delB_sub b M).subset hp) (delB_ne hn p hp)
  · simp only [List.map_cons, List.nodup_cons]
    refine ⟨fun hm => ?_, ((delB_sub b M).map _).nodup hn⟩
    obtain ⟨p, hp, e⟩ := List.mem_map.1 hm
    exact delB_ne hn p hp e

theorem Own.drawn {W : List Nat} {w0 w : World} {M : Blks} (h : Own W w0 M w) : Own W w0 M w.drew := ⟨h.os, h.tape, h.output, h.size, h.frame, h.own, h.blk, h.nodup⟩

/-- A row that is let grow by a call that has made it: where it then lies is open. -/
theorem run_app {W : List Nat} {w0 w : World} {M : Blks} (h : Own W w0 M w) {T ty e : TypeId} {size : Nat} {zs : List Value} (h1 : slcE P T = some e) (h2 : slcT P T = some size) (h3 : zeroT P e = some zs) (hzs : zs.length = size)
    {bs n cap : Nat} {cs news : List Value} {a : Addr} {m c : Nat} (hf : findB bs M = some cs) (hcs : cs.length = cap * size) (hn : n ≤ cap) (hnl : news.length = m * size)
    (hx : ∀ j u, news[j]? = some u → w.cell? (a.add j) = some u) (ho : ∀ u ∈ news, u.oneCell' = true) (h63 : n + m ≤ maxLen) (hby : (n + m) * bytesT P e ≤ 140737488355328) :
    ∃ b' cap' rest w', (Builtin.append_ #[T, T] ty #[.slice (some ⟨bs, 0, none⟩) n cap, .slice (some a) m c]).run P w = .ok (.slice (some ⟨b', 0, none⟩) (n + m) cap') w' ∧
      ((bs ∈ W ∧ b' = bs) ∨ Fresh w0 (delB bs M) b') ∧ n + m ≤ cap' ∧ rest.length = (cap' - (n + m)) * size ∧ Own W w0 ((b', cs.take (n * size) ++ news ++ rest) :: delB bs M) w' := by
  obtain ⟨i, z, hu, hi, hz, hzc, hsz, hb⟩ := slice_facts P h1 h2 h3
  subst hsz
  have hmem := findB_mem hf
  obtain ⟨t, ht⟩ := h.blk _ hmem
  by_cases hroom : n + m ≤ cap
  · have hmul : (n + m) * i.size ≤ cap * i.size := Nat.mul_le_mul_right _ hroom
    rw [Nat.add_mul] at hmul
    have hr := run_app_room P (ty := ty) hu hi w bs n cap cs.toArray t ht a m c news hnl hx ho hroom (by rw [List.size_toArray, hcs, hnl]; exact hmul)
    refine ⟨bs, cap, cs.drop (n * i.size + news.length), _, hr, ?_, hroom, ?_, ?_⟩
    · rcases h.own _ hmem with h4 | h4
      · exact .inl ⟨h4, rfl⟩
      · exact .inr ⟨h4, fun p hp => (delB_ne h.nodup p hp).symm⟩
    · rw [List.length_drop, hcs, hnl, ← Nat.add_mul, ← Nat.sub_mul]
    · refine Own.front hf h.nodup (h.put hf rfl rfl rfl (setRow_size _ _ _) ?_ (fun k hk => setRow_other _ _ _ _ hk))
      intro t' ht'
      exact setRow_heap w bs cs.toArray _ t' (0, 0) ht'
  · have hlo : (cs.take (n * i.size)).length = n * i.size := by
      rw [List.length_take, hcs]
      exact Nat.min_eq_left (Nat.mul_le_mul_right _ hn)
    have hr := run_append_grow (P := P) w T ty e i z hu hi hz ⟨bs, 0, none⟩ n cap (cs.take (n * i.size)) hlo (by
      intro j v hj
      rw [List.getElem?_take] at hj
      split at hj
      · rw [Addr.add_lit, Nat.zero_add]
        unfold World.cell?
        have ht' : w.heap[bs]? = some (.cells cs.toArray t (0, 0)) := ht
        simp only [ht']
        simpa using hj
      · cases hj) a m c news hnl hx (by omega) (by simp only [maxLen] at h63; omega) (growslice_fits (by omega) (by rw [hb]; exact hby))
    obtain ⟨hfr, how⟩ := h.drawn.push (cs.take (n * i.size) ++ news ++ (Builtin.zeroCells z.cells (grownCap w (n + m) cap e - (n + m))).toList) e
    refine ⟨w.heap.size, grownCap w (n + m) cap e, (Builtin.zeroCells z.cells (grownCap w (n + m) cap e - (n + m))).toList, _, hr, .inr ⟨hfr.1, fun p hp => hfr.2 p ((delB_sub bs M).subset hp)⟩, grownCap_ge .., ?_, ?_⟩
    · rw [Array.length_toList, size_zeroCells]
      congr 1
      rw [← Array.length_toList, hzc, hzs]
    · refine Own.sub ?_ ((delB_sub bs M).cons_cons _)
      have e1 : ((cs.take (n * i.size)).toArray ++ news.toArray ++ Builtin.zeroCells z.cells (grownCap w (n + m) cap e - (n + m))) = (cs.take (n * i.size) ++ news ++ (Builtin.zeroCells z.cells (grownCap w (n + m) cap e - (n + m))).toList).toArray := by
        apply Array.toList_inj.1
        simp
      rw [e1]
      exact how

theorem run_app_nil {W : List Nat} {w0 w : World} {M : Blks} (h : Own W w0 M w) {T ty e : TypeId} {size : Nat} {zs : List Value} (h1 : slcE P T = some e) (h2 : slcT P T = some size) (h3 : zeroT P e = some zs) (hzs : zs.length = size)
    {news : List Value} {a : Addr} {m c : Nat} (hm : 0 < m) (hnl : news.length = m * size)
    (hx : ∀ j u, news[j]? = some u → w.cell? (a.add j) = some u) (h63 : m ≤ maxLen) (hby : m * bytesT P e ≤ 140737488355328) :
    ∃ b' cap' rest w', (Builtin.append_ #[T, T] ty #[.slice none 0 0, .slice (some a) m c]).run P w = .ok (.slice (some ⟨b', 0, none⟩) m cap') w' ∧
      Fresh w0 M b' ∧ m ≤ cap' ∧ rest.length = (cap' - m) * size ∧ Own W w0 ((b', news ++ rest) :: M) w' := by
  obtain ⟨i, z, hu, hi, hz, hzc, hsz, hb⟩ := slice_facts P h1 h2 h3
  subst hsz
  have hr := run_append_nil (P := P) w T ty e i z hu hi hz a m c news hnl hx hm (by simp only [maxLen] at h63; omega) (by rw [hb]; omega)
  obtain ⟨hfr, how⟩ := h.drawn.push (news ++ (Builtin.zeroCells z.cells (grownCap w m 0 e - m)).toList) e
  refine ⟨w.heap.size, grownCap w m 0 e, (Builtin.zeroCells z.cells (grownCap w m 0 e - m)).toList, _, hr, hfr, grownCap_ge .., ?_, ?_⟩
  · rw [Array.length_toList, size_zeroCells]
    congr 1
    rw [← Array.length_toList, hzc, hzs]
  · have e1 : (news.toArray ++ Builtin.zeroCells z.cells (grownCap w m 0 e - m)) = (news ++ (Builtin.zeroCells z.cells (grownCap w m 0 e - m)).toList).toArray := by
      apply Array.toList_inj.1
      simp
    rw [e1]
    exact how

theorem run_mks {T e : TypeId} {size : Nat} {zs : List Value} (h1 : slcE P T = some e) (h2 : slcT P T = some size) (h3 : zeroT P e = some zs) (kl kc : IntKind) (n : Nat) (hb : bytesT P e * n ≤ 281474976710656) (h63 : n ≤ maxLen) (w : World) :
    ∃ cs : List Value, (Instr.makeSlice T (.int kl (n : Int)) (.int kc (n : Int))).run P w = .ok (.slice (some ⟨w.heap.size, 0, none⟩) n n) { w with heap := w.heap.push (.cells cs.toArray e) } ∧ cs = (madeCells zs.toArray (n * size)).toList := by
  obtain ⟨i, z, hu, hi, hz, hzc, hsz, hby⟩ := slice_facts P h1 h2 h3
  subst hzc hsz
  have hr := run_make (P := P) w T e i z hu hi hz kl kc (n : Int) (n : Int) (by omega) (by omega) (by rw [hby, ← Int.natCast_mul]; omega) (by simp only [maxLen] at h63; omega)
  exact ⟨_, hr, rfl⟩

end
end Go.W8
