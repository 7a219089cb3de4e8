/-
  The rules that reckon a piece of code, bundled. Nothing here is about one program. Conditions: none.
-/
import Derived.ProofKit
import Derived.OpenShut
import Derived.Below
import Derived.ChangeSame
import Derived.Test.YtdfddcfgagfdoaaProg
import Derived.Test.YtdfddcfgagfdoaaM1
namespace Go.W8
set_option linter.unusedVariables false
set_option maxRecDepth 10000

theorem E0 : (((type_of% @guardQ_tt) ∧ (type_of% @guardQ_ff)) ∧ ((type_of% @guardQ_tf) ∧ ((type_of% @guardQ_ft) ∧ (type_of% @evOp_call)))) ∧ (((type_of% @evQ_call) ∧ (type_of% @evV_call)) ∧ ((type_of% @evOp_callO) ∧ ((type_of% @appIf_pos) ∧ (type_of% @appIf_zero)))) := ⟨⟨⟨@guardQ_tt, @guardQ_ff⟩, ⟨@guardQ_tf, ⟨@guardQ_ft, @evOp_call⟩⟩⟩, ⟨⟨@evQ_call, @evV_call⟩, ⟨@evOp_callO, ⟨@appIf_pos, @appIf_zero⟩⟩⟩⟩
theorem E1 : ((((((type_of% @guardQ_and) ∧ ((type_of% @true_and) ∧ (type_of% @and_true))) ∧ ((type_of% @or_self) ∧ ((type_of% @or_false) ∧ (type_of% @false_or)))) ∧ (((type_of% @and_self) ∧ ((type_of% @and_false) ∧ (type_of% @false_and))) ∧ (((type_of% @List.getElem?_toArray.{0}) ∧ (type_of% @List.getElem?_cons_zero.{0})) ∧ ((type_of% @List.getElem?_cons_succ.{0}) ∧ (type_of% @Option.bind_some.{0, 0}))))) ∧ ((((type_of% @Option.map_some.{0, 0}) ∧ ((type_of% @Bool.not_true) ∧ (type_of% @Bool.not_false))) ∧ (((type_of% @false_implies) ∧ (type_of% @true_implies)) ∧ ((type_of% @List.map_cons.{0, 0}) ∧ (type_of% @List.map_nil.{0, 0})))) ∧ (((type_of% @List.nil_append.{0}) ∧ ((type_of% @List.append_nil.{0}) ∧ (type_of% @List.toList_toArray.{0}))) ∧ (((type_of% @Nat.zero_add) ∧ (type_of% @Nat.add_zero)) ∧ ((type_of% @Nat.mul_one) ∧ (type_of% @Int.toNat_natCast)))))) ∧ (((((type_of% @List.size_toArray.{0}) ∧ ((type_of% @List.length_cons.{0}) ∧ (type_of% @List.length_nil.{0}))) ∧ (((type_of% @List.mem_cons.{0}) ∧ (type_of% @List.not_mem_nil.{0})) ∧ ((type_of% @stC_one) ∧ (type_of% @stC_full)))) ∧ (((type_of% @stC_gc_x) ∧ ((type_of% @stC_gc_o) ∧ (type_of% @sub_full))) ∧ (((type_of% @splice_full) ∧ (type_of% @splice_gc_s)) ∧ ((type_of% @splice_gc_x) ∧ (type_of% @splice_gc_o))))) ∧ ((((type_of% @sub_gc_x) ∧ ((type_of% @sub_gc_o) ∧ (type_of% @ones_gc))) ∧ (((type_of% @ones_ints) ∧ (type_of% @ones_bools)) ∧ ((type_of% @ones_int) ∧ (type_of% @ones_bool)))) ∧ (((type_of% @ones_ptr) ∧ ((type_of% @ones_slc) ∧ (type_of% @ones_str))) ∧ (((type_of% @ones_func) ∧ (type_of% @gc_length)) ∧ ((type_of% @ints_length) ∧ (type_of% @bools_length))))))) ∧ ((((((type_of% @upto_length) ∧ ((type_of% @List.length_set.{0}) ∧ (type_of% @z8_len))) ∧ (((type_of% @List.length_replicate.{0}) ∧ (type_of% @wrap_i64)) ∧ ((type_of% @wrap_u8) ∧ (type_of% @gc_s)))) ∧ (((type_of% @gc_x) ∧ ((type_of% @gc_o) ∧ (type_of% @gc_set_s))) ∧ (((type_of% @gc_set_x) ∧ (type_of% @gc_set_o)) ∧ ((type_of% @ints_get) ∧ (type_of% @ints_set))))) ∧ ((((type_of% @bools_get) ∧ ((type_of% @bools_set) ∧ (type_of% @List.length_map.{0, 0}))) ∧ (((type_of% @decide_eq_true_eq) ∧ (type_of% @Int.tmod_eq_emod_of_nonneg)) ∧ ((type_of% @Int.tdiv_eq_ediv_of_nonneg) ∧ (type_of% @retQ_ret)))) ∧ (((type_of% @retQ_normal) ∧ ((type_of% @endQ_1) ∧ (type_of% @endQ_2))) ∧ (((type_of% @endQ_3) ∧ (type_of% @resV_tmp)) ∧ ((type_of% @resV_cell) ∧ (type_of% @bne_self_eq_false.{0})))))) ∧ (((((type_of% @beq_self_eq_true.{0}) ∧ ((type_of% @Int.cast_ofNat_Int) ∧ (type_of% @Int.toNat_zero))) ∧ (((type_of% @Int.toNat_natCast) ∧ (type_of% @Nat.zero_le)) ∧ ((type_of% @Int.natCast_nonneg) ∧ (type_of% @Int.le_refl)))) ∧ (((type_of% @Option.map_none.{0, 0}) ∧ ((type_of% @Nat.zero_mul) ∧ (type_of% @Option.getD_none.{0}))) ∧ (((type_of% @Option.getD_some.{0}) ∧ (type_of% @not_false_eq_true)) ∧ ((type_of% @Nat.sub_zero) ∧ (type_of% @List.map_toArray.{0, 0}))))) ∧ ((((type_of% @splice_succ) ∧ ((type_of% @splice_zero) ∧ (type_of% @tab_len))) ∧ (((type_of% @ones_nil) ∧ (type_of% @ones_cons_int)) ∧ ((type_of% @ones_cons_slc) ∧ (type_of% @sameI_gc)))) ∧ (((type_of% @eqL_gc) ∧ ((type_of% @List.set_cons_zero.{0}) ∧ (type_of% @List.set_cons_succ.{0}))) ∧ (((type_of% @Go.toList_madeCells_one) ∧ (type_of% @u8s_ints)) ∧ ((type_of% @bytes_strB) ∧ (type_of% @zeroCells_one))))))) := ⟨⟨⟨⟨⟨⟨@guardQ_and, ⟨@true_and, @and_true⟩⟩, ⟨@or_self, ⟨@or_false, @false_or⟩⟩⟩, ⟨⟨@and_self, ⟨@and_false, @false_and⟩⟩, ⟨⟨@List.getElem?_toArray.{0}, @List.getElem?_cons_zero.{0}⟩, ⟨@List.getElem?_cons_succ.{0}, @Option.bind_some.{0, 0}⟩⟩⟩⟩, ⟨⟨⟨@Option.map_some.{0, 0}, ⟨@Bool.not_true, @Bool.not_false⟩⟩, ⟨⟨@false_implies, @true_implies⟩, ⟨@List.map_cons.{0, 0}, @List.map_nil.{0, 0}⟩⟩⟩, ⟨⟨@List.nil_append.{0}, ⟨@List.append_nil.{0}, @List.toList_toArray.{0}⟩⟩, ⟨⟨@Nat.zero_add, @Nat.add_zero⟩, ⟨@Nat.mul_one, @Int.toNat_natCast⟩⟩⟩⟩⟩, ⟨⟨⟨⟨@List.size_toArray.{0}, ⟨@List.length_cons.{0}, @List.length_nil.{0}⟩⟩, ⟨⟨@List.mem_cons.{0}, @List.not_mem_nil.{0}⟩, ⟨@stC_one, @stC_full⟩⟩⟩, ⟨⟨@stC_gc_x, ⟨@stC_gc_o, @sub_full⟩⟩, ⟨⟨@splice_full, @splice_gc_s⟩, ⟨@splice_gc_x, @splice_gc_o⟩⟩⟩⟩, ⟨⟨⟨@sub_gc_x, ⟨@sub_gc_o, @ones_gc⟩⟩, ⟨⟨@ones_ints, @ones_bools⟩, ⟨@ones_int, @ones_bool⟩⟩⟩, ⟨⟨@ones_ptr, ⟨@ones_slc, @ones_str⟩⟩, ⟨⟨@ones_func, @gc_length⟩, ⟨@ints_length, @bools_length⟩⟩⟩⟩⟩⟩, ⟨⟨⟨⟨⟨@upto_length, ⟨@List.length_set.{0}, @z8_len⟩⟩, ⟨⟨@List.length_replicate.{0}, @wrap_i64⟩, ⟨@wrap_u8, @gc_s⟩⟩⟩, ⟨⟨@gc_x, ⟨@gc_o, @gc_set_s⟩⟩, ⟨⟨@gc_set_x, @gc_set_o⟩, ⟨@ints_get, @ints_set⟩⟩⟩⟩, ⟨⟨⟨@bools_get, ⟨@bools_set, @List.length_map.{0, 0}⟩⟩, ⟨⟨@decide_eq_true_eq, @Int.tmod_eq_emod_of_nonneg⟩, ⟨@Int.tdiv_eq_ediv_of_nonneg, @retQ_ret⟩⟩⟩, ⟨⟨@retQ_normal, ⟨@endQ_1, @endQ_2⟩⟩, ⟨⟨@endQ_3, @resV_tmp⟩, ⟨@resV_cell, @bne_self_eq_false.{0}⟩⟩⟩⟩⟩, ⟨⟨⟨⟨@beq_self_eq_true.{0}, ⟨@Int.cast_ofNat_Int, @Int.toNat_zero⟩⟩, ⟨⟨@Int.toNat_natCast, @Nat.zero_le⟩, ⟨@Int.natCast_nonneg, @Int.le_refl⟩⟩⟩, ⟨⟨@Option.map_none.{0, 0}, ⟨@Nat.zero_mul, @Option.getD_none.{0}⟩⟩, ⟨⟨@Option.getD_some.{0}, @not_false_eq_true⟩, ⟨@Nat.sub_zero, @List.map_toArray.{0, 0}⟩⟩⟩⟩, ⟨⟨⟨@splice_succ, ⟨@splice_zero, @tab_len⟩⟩, ⟨⟨@ones_nil, @ones_cons_int⟩, ⟨@ones_cons_slc, @sameI_gc⟩⟩⟩, ⟨⟨@eqL_gc, ⟨@List.set_cons_zero.{0}, @List.set_cons_succ.{0}⟩⟩, ⟨⟨@Go.toList_madeCells_one, @u8s_ints⟩, ⟨@bytes_strB, @zeroCells_one⟩⟩⟩⟩⟩⟩⟩
theorem E2 : (type_of% @evOps_guard) ∧ ((type_of% @evQs_guard) ∧ (type_of% @evGd_eq)) := ⟨@evOps_guard, ⟨@evQs_guard, @evGd_eq⟩⟩
theorem E3 : ((type_of% @List.take_succ_cons.{0}) ∧ (type_of% @List.take_zero.{0})) ∧ ((type_of% @List.drop_succ_cons.{0}) ∧ (type_of% @List.drop_zero.{0})) := ⟨⟨@List.take_succ_cons.{0}, @List.take_zero.{0}⟩, ⟨@List.drop_succ_cons.{0}, @List.drop_zero.{0}⟩⟩
theorem E4 : (((type_of% @gc_length) ∧ (type_of% @ints_length)) ∧ ((type_of% @bools_length) ∧ ((type_of% @upto_length) ∧ (type_of% @List.length_set.{0})))) ∧ (((type_of% @z8_len) ∧ (type_of% @List.length_replicate.{0})) ∧ ((type_of% @List.length_cons.{0}) ∧ ((type_of% @List.length_nil.{0}) ∧ (type_of% @tab_len)))) := ⟨⟨⟨@gc_length, @ints_length⟩, ⟨@bools_length, ⟨@upto_length, @List.length_set.{0}⟩⟩⟩, ⟨⟨@z8_len, @List.length_replicate.{0}⟩, ⟨@List.length_cons.{0}, ⟨@List.length_nil.{0}, @tab_len⟩⟩⟩⟩
end Go.W8

/-
  Facts on the types of the program, each reckoned by the kernel. Conditions: none.
-/
namespace Go.Proofs
open Go.W8
theorem Tarr100 : arrT Try.prog 100 = some (8, 1) := by kernel_rfl
theorem Tarr110 : arrT Try.prog 110 = some (8, 1) := by kernel_rfl
theorem Tarr163 : arrT Try.prog 163 = some (8, 1) := by kernel_rfl
theorem Tarr30 : arrT Try.prog 30 = some (8, 1) := by kernel_rfl
theorem Tbld100 : bldP Try.prog 100 = some (ints .i64 z8, [(0, 1), (1, 1), (2, 1), (3, 1), (4, 1), (5, 1), (6, 1), (7, 1)]) := by kernel_rfl
theorem Tbld110 : bldP Try.prog 110 = some (ints .i64 z8, [(0, 1), (1, 1), (2, 1), (3, 1), (4, 1), (5, 1), (6, 1), (7, 1)]) := by kernel_rfl
theorem Tbld117 : bldP Try.prog 117 = some ([.int .i64 0, .int .i64 0, .int .i64 0], [(0, 1), (1, 1), (2, 1)]) := by kernel_rfl
theorem Tbld163 : bldP Try.prog 163 = some (bools (List.replicate 8 false), [(0, 1), (1, 1), (2, 1), (3, 1), (4, 1), (5, 1), (6, 1), (7, 1)]) := by kernel_rfl
theorem Tbool4 : boolT Try.prog 4 = true := by kernel_rfl
theorem Tby117 : bytesT Try.prog 117 = 24 := by kernel_rfl
theorem Tby132 : bytesT Try.prog 132 = 24 := by kernel_rfl
theorem Tby2 : bytesT Try.prog 2 = 8 := by kernel_rfl
theorem Tby3 : bytesT Try.prog 3 = 8 := by kernel_rfl
theorem Tby47 : bytesT Try.prog 47 = 24 := by kernel_rfl
theorem Tfld117_0 : fldO Try.prog 117 0 = some (0, 2) := by kernel_rfl
theorem Tfld117_1 : fldO Try.prog 117 1 = some (1, 2) := by kernel_rfl
theorem Tfld32_0 : fldO Try.prog 32 0 = some (0, 2) := by kernel_rfl
theorem Tfld32_1 : fldO Try.prog 32 1 = some (1, 30) := by kernel_rfl
theorem Tfld32_2 : fldO Try.prog 32 2 = some (9, 30) := by kernel_rfl
theorem Tfld49_0 : fldO Try.prog 49 0 = some (0, 2) := by kernel_rfl
theorem Tfld49_1 : fldO Try.prog 49 1 = some (1, 30) := by kernel_rfl
theorem Tfld49_2 : fldO Try.prog 49 2 = some (9, 30) := by kernel_rfl
theorem Tint2 : intT Try.prog 2 = some .i64 := by kernel_rfl
theorem Tint3 : intT Try.prog 3 = some .i64 := by kernel_rfl
theorem Tld100 : ldT Try.prog 100 = some (some 8) := by kernel_rfl
theorem Tld110 : ldT Try.prog 110 = some (some 8) := by kernel_rfl
theorem Tld117 : ldT Try.prog 117 = some (some 3) := by kernel_rfl
theorem Tld132 : ldT Try.prog 132 = some none := by kernel_rfl
theorem Tld2 : ldT Try.prog 2 = some none := by kernel_rfl
theorem Tld3 : ldT Try.prog 3 = some none := by kernel_rfl
theorem Tld30 : ldT Try.prog 30 = some (some 8) := by kernel_rfl
theorem Tld32 : ldT Try.prog 32 = some (some 17) := by kernel_rfl
theorem Tld4 : ldT Try.prog 4 = some none := by kernel_rfl
theorem Tld47 : ldT Try.prog 47 = some none := by kernel_rfl
theorem Tld49 : ldT Try.prog 49 = some (some 17) := by kernel_rfl
theorem Tld5 : ldT Try.prog 5 = some none := by kernel_rfl
theorem Tpar5 : parT Try.prog 5 = true := by kernel_rfl
theorem Tslc114 : slcT Try.prog 114 = some 3 := by kernel_rfl
theorem Tslc132 : slcT Try.prog 132 = some 1 := by kernel_rfl
theorem Tslc171 : slcT Try.prog 171 = some 1 := by kernel_rfl
theorem Tslc28 : slcT Try.prog 28 = some 1 := by kernel_rfl
theorem Tslc43 : slcT Try.prog 43 = some 1 := by kernel_rfl
theorem Tslc47 : slcT Try.prog 47 = some 1 := by kernel_rfl
theorem Tslce114 : slcE Try.prog 114 = some 117 := by kernel_rfl
theorem Tslce132 : slcE Try.prog 132 = some 3 := by kernel_rfl
theorem Tslce171 : slcE Try.prog 171 = some 132 := by kernel_rfl
theorem Tslce28 : slcE Try.prog 28 = some 5 := by kernel_rfl
theorem Tslce43 : slcE Try.prog 43 = some 47 := by kernel_rfl
theorem Tslce47 : slcE Try.prog 47 = some 2 := by kernel_rfl
theorem Tst100 : stT Try.prog 100 = some 8 := by kernel_rfl
theorem Tst110 : stT Try.prog 110 = some 8 := by kernel_rfl
theorem Tst117 : stT Try.prog 117 = some 3 := by kernel_rfl
theorem Tst163 : stT Try.prog 163 = some 8 := by kernel_rfl
theorem Tst2 : stT Try.prog 2 = some 1 := by kernel_rfl
theorem Tst3 : stT Try.prog 3 = some 1 := by kernel_rfl
theorem Tst30 : stT Try.prog 30 = some 8 := by kernel_rfl
theorem Tst32 : stT Try.prog 32 = some 17 := by kernel_rfl
theorem Tst4 : stT Try.prog 4 = some 1 := by kernel_rfl
theorem Tst5 : stT Try.prog 5 = some 1 := by kernel_rfl
theorem Tzero100 : zeroT Try.prog 100 = some (ints .i64 z8) := by kernel_rfl
theorem Tzero110 : zeroT Try.prog 110 = some (ints .i64 z8) := by kernel_rfl
theorem Tzero117 : zeroT Try.prog 117 = some ([.int .i64 0, .int .i64 0, .int .i64 0]) := by kernel_rfl
theorem Tzero132 : zeroT Try.prog 132 = some ([.slice none 0 0]) := by kernel_rfl
theorem Tzero163 : zeroT Try.prog 163 = some (bools (List.replicate 8 false)) := by kernel_rfl
theorem Tzero2 : zeroT Try.prog 2 = some ([.int .i64 0]) := by kernel_rfl
theorem Tzero3 : zeroT Try.prog 3 = some ([.int .i64 0]) := by kernel_rfl
theorem Tzero30 : zeroT Try.prog 30 = some (ints .u8 z8) := by kernel_rfl
theorem Tzero32 : zeroT Try.prog 32 = some (gc 0 z8 z8) := by kernel_rfl
theorem Tzero47 : zeroT Try.prog 47 = some ([.slice none 0 0]) := by kernel_rfl
theorem fol : Try.prog.follows .mixedOrders = true := by kernel_rfl
end Go.Proofs

/-
  What the functions of this part hand back: each as a plain function of its arguments. Conditions: none.
-/
namespace Go.Proofs
open Go.W8
set_option linter.unusedVariables false
set_option linter.unusedSimpArgs false
set_option linter.unusedSectionVars false
set_option maxRecDepth 8000
set_option maxHeartbeats 4000000
--@plain
/-- The first n entries are the numbers less than n in some order, all others 0. -/
def IsPerm (x : List Int) (n : Nat) : Prop := (∀ i, i < n → x.getD i 0 < n) ∧ (∀ i, i < n → ∀ j, j < i → x.getD j 0 ≠ x.getD i 0) ∧ ∀ i, i < 8 → n ≤ i → x.getD i 0 = 0
instance (x : List Int) (n : Nat) : Decidable (IsPerm x n) := by unfold IsPerm; infer_instance

def IsG (s : Int) (x o : List Int) : Prop := 2 ≤ s ∧ s ≤ 8 ∧ IsPerm x s.toNat ∧ IsPerm o s.toNat ∧ ∀ i, i < s.toNat → x.getD i 0 ≠ o.getD i 0
instance (s : Int) (x o : List Int) : Decidable (IsG s x o) := by unfold IsG; infer_instance

def gridB (s : Int) (x o : List Int) : Bool := decide (IsG s x o)

theorem inj_surj : ∀ (n : Nat) (f : Nat → Nat), (∀ i, i < n → f i < n) → (∀ i, i < n → ∀ j, j < n → f i = f j → i = j) → ∀ j, j < n → ∃ i, i < n ∧ f i = j
  | 0, _, _, _, _, hj => absurd hj (Nat.not_lt_zero _)
  | n + 1, f, hf, hinj, j, hj => by
    have hg : ∀ i, i < n → (if f i = n then f n else f i) < n := by
      intro i hi
      split
      · rename_i h
        have h1 := hf n (Nat.lt_succ_self n)
        have h2 : f n ≠ n := fun h3 => by
          have := hinj i (by omega) n (by omega) (by rw [h, h3])
          omega
        omega
      · rename_i h
        have := hf i (by omega)
        omega
    have hgi : ∀ i, i < n → ∀ k, k < n → (if f i = n then f n else f i) = (if f k = n then f n else f k) → i = k := by
      intro i hi k hk h
      split at h
      · rename_i h1
        split at h
        · rename_i h2
          exact hinj i (by omega) k (by omega) (by rw [h1, h2])
        · have := hinj n (by omega) k (by omega) h
          omega
      · rename_i h1
        split at h
        · have := hinj i (by omega) n (by omega) h
          omega
        · exact hinj i (by omega) k (by omega) h
    have ih := inj_surj n (fun i => if f i = n then f n else f i) hg hgi
    by_cases hjn : f n = j
    · exact ⟨n, by omega, hjn⟩
    · by_cases hj2 : j = n
      · subst hj2
        have h1 := hf j (by omega)
        obtain ⟨i, hi, hfi⟩ := ih (f j) (by omega)
        split at hfi
        · rename_i h; exact ⟨i, by omega, h⟩
        · have := hinj i (by omega) j (by omega) hfi
          omega
      · obtain ⟨i, hi, hfi⟩ := ih j (by omega)
        split at hfi
        · exact absurd hfi hjn
        · exact ⟨i, by omega, hfi⟩

theorem surj_inj (n : Nat) (f : Nat → Nat) (hf : ∀ i, i < n → f i < n) (hs : ∀ j, j < n → ∃ i, i < n ∧ f i = j) : ∀ i, i < n → ∀ j, j < n → f i = f j → i = j := by
  have hc : ∃ s : Nat → Nat, ∀ j, j < n → s j < n ∧ f (s j) = j := by
    refine ⟨fun j => if h : j < n then Classical.choose (hs j h) else 0, fun j hj => ?_⟩
    simp only [hj, dif_pos]
    exact Classical.choose_spec (hs j hj)
  obtain ⟨s, hs'⟩ := hc
  have hsur := inj_surj n s (fun j hj => (hs' j hj).1) (fun i hi j hj h => by rw [← (hs' i hi).2, ← (hs' j hj).2, h])
  intro i hi j hj h
  obtain ⟨a, ha, rfl⟩ := hsur i hi
  obtain ⟨b, hb, rfl⟩ := hsur j hj
  rw [(hs' a ha).2, (hs' b hb).2] at h
  rw [h]

/-- The bits of the numbers f 0 .. f (k - 1). -/
def mask (f : Nat → Nat) : Nat → Nat
  | 0 => 0
  | k + 1 => mask f k ||| 2 ^ f k

theorem mask_bit (f : Nat → Nat) (j : Nat) : ∀ k, (mask f k).testBit j = true ↔ ∃ i, i < k ∧ f i = j
  | 0 => by simp [mask]
  | k + 1 => by
    simp only [mask, Nat.testBit_or, Bool.or_eq_true, mask_bit f j k, Nat.testBit_two_pow, decide_eq_true_eq]
    constructor
    · rintro (⟨i, hi, h⟩ | h)
      · exact ⟨i, by omega, h⟩
      · exact ⟨k, by omega, h⟩
    · rintro ⟨i, hi, h⟩
      rcases Nat.lt_succ_iff_lt_or_eq.1 hi with h1 | rfl
      · exact .inl ⟨i, h1, h⟩
      · exact .inr h

theorem mask_lt {f : Nat → Nat} {n : Nat} : ∀ {k : Nat}, (∀ i, i < k → f i < n) → mask f k < 2 ^ n
  | 0, _ => Nat.two_pow_pos n
  | k + 1, h => by
    unfold mask
    exact Nat.or_lt_two_pow (mask_lt fun i hi => h i (by omega)) (Nat.pow_lt_pow_right (by omega) (h k (by omega)))

theorem mask_full {f : Nat → Nat} {n : Nat} (hf : ∀ i, i < n → f i < n) : mask f n = 2 ^ n - 1 ↔ ∀ i, i < n → ∀ j, j < i → f j ≠ f i := by
  constructor
  · intro h i hi j hj he
    have := surj_inj n f hf (fun k hk => by
      have hb : (mask f n).testBit k = true := by rw [h, Nat.testBit_two_pow_sub_one]; simpa using hk
      exact (mask_bit f k n).1 hb) j (by omega) i hi he
    omega
  · intro h
    have hsur := inj_surj n f hf (fun i hi j hj he => by
      rcases Nat.lt_trichotomy i j with h1 | h1 | h1
      · exact absurd he (h j hj i h1)
      · exact h1
      · exact absurd he.symm (h i hi j h1))
    apply Nat.eq_of_testBit_eq
    intro k
    rw [Nat.testBit_two_pow_sub_one]
    by_cases hk : k < n
    · rw [decide_eq_true hk]
      exact (mask_bit f k n).2 (hsur k hk)
    · rw [decide_eq_false hk]
      cases hb : (mask f n).testBit k with
      | false => rfl
      | true =>
        obtain ⟨i, hi, rfl⟩ := (mask_bit f k n).1 hb
        exact absurd (hf i hi) hk

theorem or_i64 {a b : Nat} (ha : a < 4294967296) (hb : b < 4294967296) : IntKind.wrap .i64 ((BitVec.ofInt (IntKind.i64.bits) (a : Int) ||| BitVec.ofInt (IntKind.i64.bits) (b : Int)).toNat : Int) = ((a ||| b : Nat) : Int) := by
  have e : IntKind.i64.bits = 64 := rfl
  have h1 : a ||| b < 2 ^ 32 := Nat.or_lt_two_pow (by simpa using ha) (by simpa using hb)
  rw [e, BitVec.ofInt_natCast, BitVec.ofInt_natCast, BitVec.toNat_or, BitVec.toNat_ofNat, BitVec.toNat_ofNat, Nat.mod_eq_of_lt (by omega), Nat.mod_eq_of_lt (by omega)]
  rw [wrap_i64 (by omega) (by omega)]

theorem shl_i64 {j : Nat} (hj : j ≤ 32) : IntKind.wrap .i64 (1 * 2 ^ (min j (IntKind.i64.bits))) = ((2 ^ j : Nat) : Int) := by
  have e : IntKind.i64.bits = 64 := rfl
  have h1 : min j 64 = j := by omega
  have h2 : (2 : Nat) ^ j ≤ 2 ^ 32 := Nat.pow_le_pow_right (by omega) hj
  rw [e, h1, Int.one_mul]
  have h3 : ((2 : Int) ^ j) = ((2 ^ j : Nat) : Int) := by simp
  rw [h3]
  generalize 2 ^ j = m at h2
  rw [wrap_i64 (by omega) (by omega)]

end Go.Proofs

/-
  What the functions of this part hand back: each as a plain function of its arguments. Conditions: none.
-/
namespace Go.Proofs
open Go.W8
set_option linter.unusedVariables false
set_option linter.unusedSimpArgs false
set_option linter.unusedSectionVars false
set_option maxRecDepth 8000
set_option maxHeartbeats 4000000
--@plain
section
variable {H : Type} {enc : TypeId × Value → H} {P : Program} {w : World} {base : Nat} {spare : Nat → Bool} {held : Bool}

theorem trod_int_inv {e : TypeId} {k : IntKind} (hu : P.underlying e = some (.int k)) {fuel : Nat} {cs : List Value} {x : DataW H × List MemPlace} (h : DataW.trod enc P w base spare held fuel e cs = some x) :
    ∃ n, cs = [.int k n] ∧ (Lit.int k n).wf = true ∧ x = (.lit (.int k n), []) := by
  cases fuel with
  | zero => simp [DataW.trod] at h
  | succ fuel =>
    unfold DataW.trod at h
    rw [hu] at h
    split at h <;> simp_all only [Option.some.injEq, TypeDesc.int.injEq, reduceCtorEq]
    rename_i k1 k' n he
    split at h
    · rename_i hh
      obtain ⟨hk, hw⟩ := hh
      simp only [Option.some.injEq] at h
      refine ⟨n, ?_, ?_, ?_⟩
      · rw [hk]
      · exact hw
      · exact h.symm
    · cases h

theorem trod_int_mk {e : TypeId} {k : IntKind} (hu : P.underlying e = some (.int k)) {fuel : Nat} {n : Int} (hw : (Lit.int k n).wf = true) : DataW.trod enc P w base spare held (fuel + 1) e [.int k n] = some (.lit (.int k n), []) := by
  unfold DataW.trod
  rw [hu]
  simp [hw]

def toInt : Value → Int
  | .int _ n => n
  | _ => 0

theorem take_one {cs : List Value} {j : Nat} {v : Value} (h : (cs.drop j).take 1 = [v]) : cs[j]? = some v := by
  have : ((cs.drop j).take 1)[0]? = some v := by rw [h]; rfl
  simpa [List.getElem?_take, List.getElem?_drop] using this

theorem one_take {cs : List Value} {j : Nat} {v : Value} (h : cs[j]? = some v) : (cs.drop j).take 1 = [v] := by
  apply List.ext_getElem?
  intro i
  cases i with
  | zero => simpa [List.getElem?_take, List.getElem?_drop] using h
  | succ i => simp [List.getElem?_take]

theorem trod_ints_inv {t e : TypeId} {n : Nat} {k : IntKind} (ht : P.underlying t = some (.array n e)) (hu : P.underlying e = some (.int k)) (hc : P.cellsOf e = 1) (hn : P.cellsOf t = n) {fuel : Nat} {cs : List Value} {x : DataW H × List MemPlace}
    (h : DataW.trod enc P w base spare held fuel t cs = some x) :
    ∃ l : List Int, cs = ints k l ∧ l.length = n ∧ (∀ a ∈ l, (Lit.int k a).wf = true) ∧ x = (.agg (l.map fun a => .lit (.int k a)), []) := by
  cases fuel with
  | zero => simp [DataW.trod] at h
  | succ fuel =>
    unfold DataW.trod at h
    rw [ht] at h
    simp only [hn, hc, Nat.mul_one] at h
    split at h
    · rename_i hl
      simp only [Option.map_eq_some_iff] at h
      obtain ⟨r, hr, rfl⟩ := h
      obtain ⟨h1, h2⟩ := mapM_get hr
      rw [List.length_range] at h1
      have key : ∀ j, j < n → ∃ a, cs[j]? = some (.int k a) ∧ (Lit.int k a).wf = true ∧ r[j]? = some (.lit (.int k a), []) := by
        intro j hj
        have hrj : r[j]? = some r[j] := List.getElem?_eq_getElem (by omega)
        obtain ⟨y, hy, hf⟩ := h2 j _ hrj
        rw [List.getElem?_range hj] at hy
        simp only [Option.some.injEq] at hy
        subst hy
        obtain ⟨a, ha, hw, hx⟩ := trod_int_inv hu hf
        exact ⟨a, take_one ha, hw, by rw [hrj, hx]⟩
      refine ⟨cs.map toInt, ?_, by rw [List.length_map]; exact hl, ?_, ?_⟩
      · apply List.ext_getElem?
        intro j
        unfold ints
        rw [List.map_map, List.getElem?_map]
        by_cases hj : j < n
        · obtain ⟨a, ha, _, _⟩ := key j hj
          rw [ha]; rfl
        · rw [List.getElem?_eq_none (by omega)]; rfl
      · intro a ha
        obtain ⟨v, hv, rfl⟩ := List.mem_map.1 ha
        obtain ⟨j, hj⟩ := List.getElem?_of_mem hv
        have hjn : j < n := by
          rcases Nat.lt_or_ge j n with h | h
          · exact h
          · rw [List.getElem?_eq_none (by omega)] at hj; cases hj
        obtain ⟨a, ha, hw, _⟩ := key j hjn
        rw [ha] at hj
        simp only [Option.some.injEq] at hj
        rw [← hj]
        exact hw
      · have e1 : r.map (·.1) = (cs.map toInt).map fun a => (DataW.lit (.int k a) : DataW H) := by
          apply List.ext_getElem?
          intro j
          rw [List.map_map, List.getElem?_map, List.getElem?_map]
          by_cases hj : j < n
          · obtain ⟨a, ha, _, hr⟩ := key j hj
            rw [ha, hr]; rfl
          · rw [List.getElem?_eq_none (by omega), List.getElem?_eq_none (by omega)]; rfl
        have e2 : r.flatMap (·.2) = [] := by
          rw [List.flatMap_eq_nil_iff]
          intro y hy
          obtain ⟨j, hj⟩ := List.getElem?_of_mem hy
          have hjn : j < n := by
            rcases Nat.lt_or_ge j n with h | h
            · exact h
            · rw [List.getElem?_eq_none (by omega)] at hj; cases hj
          obtain ⟨a, _, _, hr⟩ := key j hjn
          rw [hr] at hj
          simp only [Option.some.injEq] at hj
          rw [← hj]
        rw [e1, e2]
    · cases h

theorem mapM_some {α β : Type} {f : α → Option β} {g : α → β} : ∀ {l : List α}, (∀ x ∈ l, f x = some (g x)) → l.mapM f = some (l.map g)
  | [], _ => rfl
  | a :: l, h => by
    rw [List.mapM_cons, h a List.mem_cons_self, mapM_some fun x hx => h x (List.mem_cons_of_mem _ hx)]
    rfl

theorem trod_ints_mk {t e : TypeId} {n : Nat} {k : IntKind} (ht : P.underlying t = some (.array n e)) (hu : P.underlying e = some (.int k)) (hc : P.cellsOf e = 1) (hn : P.cellsOf t = n) {fuel : Nat} {l : List Int} (hl : l.length = n)
    (hw : ∀ a ∈ l, (Lit.int k a).wf = true) : DataW.trod enc P w base spare held (fuel + 2) t (ints k l) = some (.agg (l.map fun a => .lit (.int k a)), []) := by
  unfold DataW.trod
  rw [ht]
  simp only [hn, hc, Nat.mul_one, ints_length, hl, if_true]
  have hm : (List.range n).mapM (fun i => DataW.trod enc P w base spare held (fuel + 1) e (((ints k l).drop i).take 1)) = some ((List.range n).map fun i => ((DataW.lit (.int k (l.getD i 0)) : DataW H), ([] : List MemPlace))) := by
    refine mapM_some fun i hi => ?_
    have hin : i < l.length := by rw [hl]; exact List.mem_range.1 hi
    rw [one_take (ints_get hin)]
    refine trod_int_mk hu (hw _ ?_)
    rw [List.getD_eq_getElem?_getD, List.getElem?_eq_getElem hin]
    exact List.getElem_mem hin
  rw [hm]
  simp only [Option.map_some, Option.some.injEq, Prod.mk.injEq]
  constructor
  · congr 1
    apply List.ext_getElem?
    intro j
    rw [List.map_map, List.getElem?_map, List.getElem?_map]
    by_cases hj : j < n
    · rw [List.getElem?_range hj, List.getElem?_eq_getElem (by omega)]
      simp [List.getD_eq_getElem?_getD, List.getElem?_eq_getElem (show j < l.length by omega)]
    · rw [List.getElem?_eq_none (by simpa using hj), List.getElem?_eq_none (by omega)]; rfl
  · rw [List.flatMap_eq_nil_iff]
    intro y hy
    obtain ⟨i, _, rfl⟩ := List.mem_map.1 hy
    rfl

/-- A grid's type. -/
structure GridT (P : Program) (t tn ta te : TypeId) (f0 f1 f2 : Field) : Prop where
  st : P.underlying t = some (.struct #[f0, f1, f2])
  y0 : f0.type = tn
  y1 : f1.type = ta
  y2 : f2.type = ta
  o0 : f0.offset = 0
  o1 : f1.offset = 1
  o2 : f2.offset = 9
  ct : P.cellsOf t = 17
  un : P.underlying tn = some (.int .i64)
  cn : P.cellsOf tn = 1
  ua : P.underlying ta = some (.array 8 te)
  ca : P.cellsOf ta = 8
  ue : P.underlying te = some (.int .u8)
  ce : P.cellsOf te = 1

def gridD (s : Int) (x o : List Int) : DataW H := .agg [.lit (.int .i64 s), .agg (x.map fun a => .lit (.int .u8 a)), .agg (o.map fun a => .lit (.int .u8 a))]

/-- A row of bytes. -/
structure Bytes8 (x : List Int) : Prop where
  len : x.length = 8
  lo : ∀ a ∈ x, 0 ≤ a
  hi : ∀ a ∈ x, a < 256

theorem wf_u8 {a : Int} : (Lit.int .u8 a).wf = true ↔ 0 ≤ a ∧ a < 256 := by
  simp [Lit.wf, IntKind.min, IntKind.max, IntKind.signed, IntKind.bits]; omega
theorem wf_i64 {a : Int} : (Lit.int .i64 a).wf = true ↔ -9223372036854775808 ≤ a ∧ a < 9223372036854775808 := by
  simp [Lit.wf, IntKind.min, IntKind.max, IntKind.signed, IntKind.bits]; omega

theorem open_grid {t tn ta te : TypeId} {f0 f1 f2 : Field} (G : GridT P t tn ta te f0 f1 f2) {r : Reach} {b0 : Nat} {v : Value} {d : DataW H} {p : List MemPlace} (hv : Value.okWide P w r b0 t v) (h : DataW.Trod enc P w base spare held t v d p) :
    ∃ s x o, v = .agg (gc s x o).toArray ∧ d = gridD s x o ∧ p = [] ∧ (-9223372036854775808 ≤ s ∧ s < 9223372036854775808) ∧ Bytes8 x ∧ Bytes8 o := by
  obtain ⟨fuel, hf⟩ := h
  unfold Value.okWide at hv
  rw [G.st] at hv
  obtain ⟨cs, rfl, hsz, _⟩ := hv
  cases fuel with
  | zero => simp [DataW.trod] at hf
  | succ fuel =>
    unfold DataW.trod at hf
    rw [G.st] at hf
    simp only [Value.cells, G.ct] at hf
    split at hf
    · rename_i hl
      simp only [Option.map_eq_some_iff] at hf
      obtain ⟨xs, hm, hxs⟩ := hf
      simp only [List.mapM_cons, List.mapM_nil, G.y0, G.y1, G.y2, G.o0, G.o1, G.o2, G.cn, G.ca, List.drop_zero, Option.bind_eq_bind, Option.pure_def, Option.bind_eq_some_iff, Option.some.injEq] at hm
      obtain ⟨a0, h0, r0, ⟨a1, h1, r1, ⟨a2, h2, r2, rfl, rfl⟩, rfl⟩, rfl⟩ := hm
      obtain ⟨s, hs, hws, rfl⟩ := trod_int_inv G.un h0
      obtain ⟨x, hx, hxl, hxw, rfl⟩ := trod_ints_inv G.ua G.ue G.ce G.ca h1
      obtain ⟨o, ho, hol, how, rfl⟩ := trod_ints_inv G.ua G.ue G.ce G.ca h2
      refine ⟨s, x, o, ?_, ?_, ?_, wf_i64.1 hws, ⟨hxl, fun a ha => (wf_u8.1 (hxw a ha)).1, fun a ha => (wf_u8.1 (hxw a ha)).2⟩, ⟨hol, fun a ha => (wf_u8.1 (how a ha)).1, fun a ha => (wf_u8.1 (how a ha)).2⟩⟩
      · congr 1
        apply Array.toList_inj.1
        show cs.toList = gc s x o
        unfold gc
        rw [← hx, ← ho]
        have e9 : cs.toList = cs.toList.take 1 ++ ((cs.toList.drop 1).take 8 ++ (cs.toList.drop 9).take 8) := by
          have hcl : (cs.toList.drop 9).length = 8 := by rw [List.length_drop]; omega
          have e : (cs.toList.drop 9).take 8 = cs.toList.drop 9 := List.take_of_length_le (by omega)
          rw [e]
          have e' : (cs.toList.drop 1).take 8 ++ cs.toList.drop 9 = cs.toList.drop 1 := by
            have : cs.toList.drop 9 = (cs.toList.drop 1).drop 8 := by rw [List.drop_drop]
            rw [this, List.take_append_drop]
          rw [e', List.take_append_drop]
        rw [hs] at e9
        exact e9
      · simp only [Prod.mk.injEq] at hxs
        exact hxs.1.symm
      · simp only [Prod.mk.injEq] at hxs
        exact hxs.2.symm
    · cases hf

theorem shut_grid {t tn ta te : TypeId} {f0 f1 f2 : Field} (G : GridT P t tn ta te f0 f1 f2) {s : Int} {x o : List Int} (hs : -9223372036854775808 ≤ s ∧ s < 9223372036854775808) (hx : Bytes8 x) (ho : Bytes8 o) :
    DataW.Trod enc P w base spare held t (.agg (gc s x o).toArray) (gridD s x o) [] := by
  refine ⟨3, ?_⟩
  unfold DataW.trod
  rw [G.st]
  simp only [Value.cells, G.ct, gc_length, hx.len, ho.len]
  have e0 : (gc s x o).take 1 = [.int .i64 s] := rfl
  have h0 : DataW.trod enc P w base spare held 2 tn ((gc s x o).take 1) = some (.lit (.int .i64 s), []) := by rw [e0]; exact trod_int_mk G.un (wf_i64.2 hs)
  have h1 : DataW.trod enc P w base spare held 2 ta (((gc s x o).drop 1).take 8) = some (.agg (x.map fun a => .lit (.int .u8 a)), []) := by
    rw [gc_take_x hx.len]; exact trod_ints_mk G.ua G.ue G.ce G.ca hx.len fun a ha => wf_u8.2 ⟨hx.lo a ha, hx.hi a ha⟩
  have h2 : DataW.trod enc P w base spare held 2 ta (((gc s x o).drop 9).take 8) = some (.agg (o.map fun a => .lit (.int .u8 a)), []) := by
    rw [gc_take_o hx.len ho.len]; exact trod_ints_mk G.ua G.ue G.ce G.ca ho.len fun a ha => wf_u8.2 ⟨ho.lo a ha, ho.hi a ha⟩
  simp only [G.y0, G.y1, G.y2, G.o0, G.o1, G.o2, G.cn, G.ca, List.drop_zero, List.mapM_cons, List.mapM_nil, h0, h1, h2, Option.bind_eq_bind, Option.bind_some, Option.pure_def, Option.map_some, Nat.reduceAdd, if_true]
  rfl

end

end Go.Proofs

/-
  What the functions of this part hand back: each as a plain function of its arguments. Conditions: none.
-/
namespace Go.Proofs
open Go.W8
set_option linter.unusedVariables false
set_option linter.unusedSimpArgs false
set_option linter.unusedSectionVars false
set_option maxRecDepth 8000
set_option maxHeartbeats 4000000

theorem within_c (x lo hi : Int) : Gives Try.prog 83 #[.int .i64 x, .int .i64 lo, .int .i64 hi] (.bool (decide (lo ≤ x) && decide (x ≤ hi))) := by
  refine Gives.of fun w => ?_
  refine acall_of (N := 15) (c := _) (rs := [.tmp 6]) (args := [_, _, _]) Try.func83 rfl (by decide) rfl rfl (Nat.le_of_ble_eq_true rfl) ?_
  refine Cd.rs [0, 1, 2] fun K hK => ?_
  simp (maxSteps := 2000000) (disch := first | omega | (simp only [E4, *] <;> omega) | fail) only [↓E0, E1, evP, evPlan, env0, envN, evOps, evOp, evQs, evQ, evV, setD, pureOp, ev, upd, updL, gate, binW, eqOp, binV, intOp, shOp, boolOp, unV, convV, nilV, fieldAddrV, indexAddrV, extractV, cellAt, cellsAt, findB, setB, fillL, buildV, Value.cells, lenV, minV, maxV, hav, sliceV, loV, hiV, bslQ, mksQ, appQ, partsOk, partsCells, delB, eqL, SameI, strOp, apzQ, cvtQ, capV, ↓reduceIte, Zj, Zk, Nat.reduceAdd, Nat.reduceLT, Nat.reduceEqDiff, Nat.reduceMul, Nat.reduceLeDiff, if_true, Zn, reduceCtorEq, ZA, eq_self, Int.reduceLE, Int.reduceLT, Int.reduceToNat, ne_eq, Nat.reduceSub]
  repeat refine And.intro (by omega) ?_
  intro g
  simp only [List.map_cons, List.map_nil, updL, upd, Nat.reduceEqDiff, if_true, if_false, ↓reduceIte]
  refine hK _ _ ?_; clear hK K
  refine Cd.rs [6] fun K hK => ?_
  simp (maxSteps := 2000000) (disch := first | omega | (simp only [E4, *] <;> omega) | fail) only [↓E0, E1, evP, evPlan, env0, envN, evOps, evOp, evQs, evQ, evV, setD, pureOp, ev, upd, updL, gate, binW, eqOp, binV, intOp, shOp, boolOp, unV, convV, nilV, fieldAddrV, indexAddrV, extractV, cellAt, cellsAt, findB, setB, fillL, buildV, Value.cells, lenV, minV, maxV, hav, sliceV, loV, hiV, bslQ, mksQ, appQ, partsOk, partsCells, delB, eqL, SameI, strOp, apzQ, cvtQ, capV, ↓reduceIte, Zj, Zk, Nat.reduceAdd, Nat.reduceLT, Nat.reduceEqDiff, Nat.reduceMul, Nat.reduceLeDiff, if_true, Zn, reduceCtorEq, ZA, eq_self, Int.reduceLE, Int.reduceLT, Int.reduceToNat, ne_eq, Nat.reduceSub]
  refine ⟨fun h => ?_, fun h => ?_⟩
  all_goals
    repeat refine And.intro (by omega) ?_
    intro g
    simp only [List.map_cons, List.map_nil, updL, upd, Nat.reduceEqDiff, if_true, if_false, ↓reduceIte]
    refine hK _ _ ?_; clear hK K
    refine ret1 rfl ?_
    simp [upd, h]

theorem l01In_c (x lo hi : Int) : Gives Try.prog 81 #[.int .i64 x, .int .i64 lo, .int .i64 hi] (.bool (decide (lo ≤ x) && decide (x ≤ hi))) := by
  refine Gives.of fun w => ?_
  refine acall_of (N := 15) (c := _) (rs := [.tmp 6]) (args := [_, _, _]) Try.func81 rfl (by decide) rfl rfl (Nat.le_of_ble_eq_true rfl) ?_
  refine Cd.rs [0, 1, 2] fun K hK => ?_
  simp (maxSteps := 2000000) (disch := first | omega | (simp only [E4, *] <;> omega) | fail) only [↓E0, E1, evP, evPlan, env0, envN, evOps, evOp, evQs, evQ, evV, setD, pureOp, ev, upd, updL, gate, binW, eqOp, binV, intOp, shOp, boolOp, unV, convV, nilV, fieldAddrV, indexAddrV, extractV, cellAt, cellsAt, findB, setB, fillL, buildV, Value.cells, lenV, minV, maxV, hav, sliceV, loV, hiV, bslQ, mksQ, appQ, partsOk, partsCells, delB, eqL, SameI, strOp, apzQ, cvtQ, capV, ↓reduceIte, Zj, Zk, Nat.reduceAdd, Nat.reduceLT, Nat.reduceEqDiff, Nat.reduceMul, Nat.reduceLeDiff, if_true, Zn, reduceCtorEq, ZA, eq_self, Int.reduceLE, Int.reduceLT, Int.reduceToNat, ne_eq, Nat.reduceSub]
  repeat refine And.intro (by omega) ?_
  intro g
  simp only [List.map_cons, List.map_nil, updL, upd, Nat.reduceEqDiff, if_true, if_false, ↓reduceIte]
  refine hK _ _ ?_; clear hK K
  refine Cd.rs [6] fun K hK => ?_
  simp (maxSteps := 2000000) (disch := first | omega | (simp only [E4, *] <;> omega) | fail) only [↓E0, E1, evP, evPlan, env0, envN, evOps, evOp, evQs, evQ, evV, setD, pureOp, ev, upd, updL, gate, binW, eqOp, binV, intOp, shOp, boolOp, unV, convV, nilV, fieldAddrV, indexAddrV, extractV, cellAt, cellsAt, findB, setB, fillL, buildV, Value.cells, lenV, minV, maxV, hav, sliceV, loV, hiV, bslQ, mksQ, appQ, partsOk, partsCells, delB, eqL, SameI, strOp, apzQ, cvtQ, capV, ↓reduceIte, Zj, Zk, Nat.reduceAdd, Nat.reduceLT, Nat.reduceEqDiff, Nat.reduceMul, Nat.reduceLeDiff, if_true, Zn, reduceCtorEq, ZA, eq_self, Int.reduceLE, Int.reduceLT, Int.reduceToNat, ne_eq, Nat.reduceSub]
  refine ⟨fun h => ?_, fun h => ?_⟩
  all_goals
    repeat refine And.intro (by omega) ?_
    intro g
    simp only [List.map_cons, List.map_nil, updL, upd, Nat.reduceEqDiff, if_true, if_false, ↓reduceIte]
    refine hK _ _ ?_; clear hK K
    refine ret1 rfl ?_
    simp [upd, h]

end Go.Proofs

/-
  What the functions of this part hand back: each as a plain function of its arguments. Conditions: none.
-/
namespace Go.Proofs
open Go.W8
set_option linter.unusedVariables false
set_option linter.unusedSimpArgs false
set_option linter.unusedSectionVars false
set_option maxRecDepth 8000
set_option maxHeartbeats 4000000
theorem bytes_get {x : List Int} (hx : Bytes8 x) {i : Nat} (hi : i < 8) : 0 ≤ x.getD i 0 ∧ x.getD i 0 < 256 := by
  have hl := hx.len
  rw [List.getD_eq_getElem?_getD, List.getElem?_eq_getElem (by omega), Option.getD_some]
  exact ⟨hx.lo _ (List.getElem_mem (by omega)), hx.hi _ (List.getElem_mem (by omega))⟩

/-- The numbers that have been met. -/
def metL (x : List Int) (n k : Nat) : List Bool := (List.range 8).map fun (j : Nat) => decide (∃ i, i < k ∧ i < n ∧ x.getD i 0 = (j : Int))
theorem metL_len (x : List Int) (n k : Nat) : (metL x n k).length = 8 := by simp [metL]
theorem metL_get (x : List Int) (n k : Nat) {j : Nat} (hj : j < 8) : (metL x n k).getD j false = decide (∃ i, i < k ∧ i < n ∧ x.getD i 0 = (j : Int)) := by
  unfold metL
  rw [List.getD_eq_getElem?_getD, List.getElem?_map, List.getElem?_range hj]
  rfl
theorem metL_zero (x : List Int) (n : Nat) : metL x n 0 = List.replicate 8 false := by
  unfold metL
  simp only [Nat.not_lt_zero, false_and, exists_false, decide_false]
  rfl
theorem metL_over {x : List Int} {n k : Nat} (h : n ≤ k) : metL x n (k + 1) = metL x n k := by
  unfold metL
  apply List.map_congr_left
  intro j _
  congr 1
  apply propext
  constructor
  · rintro ⟨i, _, h2, h3⟩; exact ⟨i, by omega, h2, h3⟩
  · rintro ⟨i, h1, h2, h3⟩; exact ⟨i, by omega, h2, h3⟩
theorem metL_set {x : List Int} {n k : Nat} {j : Nat} (h : k < n) (hj : x.getD k 0 = (j : Int)) : (metL x n k).set j true = metL x n (k + 1) := by
  apply List.ext_getElem?
  intro i
  by_cases hi : i < 8
  · by_cases e : j = i
    · subst e
      rw [List.getElem?_set_self (by rw [metL_len]; exact hi)]
      unfold metL
      rw [List.getElem?_map, List.getElem?_range hi]
      simp only [Option.map_some, Option.some.injEq]
      exact (decide_eq_true ⟨k, by omega, h, hj⟩).symm
    · rw [List.getElem?_set_ne e]
      unfold metL
      rw [List.getElem?_map, List.getElem?_map, List.getElem?_range hi]
      simp only [Option.map_some, Option.some.injEq]
      congr 1
      apply propext
      constructor
      · rintro ⟨a, h1, h2, h3⟩; exact ⟨a, by omega, h2, h3⟩
      · rintro ⟨a, h1, h2, h3⟩
        refine ⟨a, ?_, h2, h3⟩
        rcases Nat.lt_succ_iff_lt_or_eq.1 h1 with h4 | rfl
        · exact h4
        · omega
  · rw [List.getElem?_eq_none (by rw [List.length_set, metL_len]; omega), List.getElem?_eq_none (by rw [metL_len]; omega)]

/-- All is well with the entries ahead of k. -/
def PermTo (x : List Int) (n k : Nat) : Prop := ∀ i, i < k → (i < n → x.getD i 0 < n ∧ ∀ j, j < i → x.getD j 0 ≠ x.getD i 0) ∧ (n ≤ i → x.getD i 0 = 0)

theorem perm_iff {x : List Int} {n : Nat} (hn : n ≤ 8) : IsPerm x n ↔ PermTo x n 8 := by
  constructor
  · rintro ⟨h1, h2, h3⟩ i hi
    exact ⟨fun h => ⟨h1 i h, h2 i h⟩, fun h => h3 i hi h⟩
  · intro h
    exact ⟨fun i hi => ((h i (by omega)).1 hi).1, fun i hi => ((h i (by omega)).1 hi).2, fun i hi hn => (h i hi).2 hn⟩

theorem permTo_not {x : List Int} {n k : Nat} (hn : n ≤ 8) (hk : k < 8) (h : ¬ ((k < n → x.getD k 0 < n ∧ ∀ j, j < k → x.getD j 0 ≠ x.getD k 0) ∧ (n ≤ k → x.getD k 0 = 0))) : decide (IsPerm x n) = false :=
  decide_eq_false fun hp => h ((perm_iff hn).1 hp k hk)

theorem permTo_succ {x : List Int} {n k : Nat} (hp : PermTo x n k) (h : (k < n → x.getD k 0 < n ∧ ∀ j, j < k → x.getD j 0 ≠ x.getD k 0) ∧ (n ≤ k → x.getD k 0 = 0)) : PermTo x n (k + 1) := by
  intro i hi
  rcases Nat.lt_succ_iff_lt_or_eq.1 hi with h1 | rfl
  · exact hp i h1
  · exact h

theorem l01Perm_c (x : List Int) (n : Nat) (hx : Bytes8 x) (hn : n ≤ 8) : Gives Try.prog 163 #[.agg (ints .u8 x).toArray, .int .i64 (n : Int)] (.bool (decide (IsPerm x n))) := by
  have hl := hx.len
  refine Gives.of fun w => ?_
  refine acall_of (N := 36) (c := _) (rs := [.tmp 4]) (args := [_, _]) Try.func163 rfl (by decide) rfl rfl (Nat.le_of_ble_eq_true rfl) ?_
  refine Cd.rs [1, 2] fun K hK => ?_
  simp (maxSteps := 2000000) (disch := first | omega | (simp only [E4, *] <;> omega) | fail) only [↓E0, E1, evP, evPlan, env0, envN, evOps, evOp, evQs, evQ, evV, setD, pureOp, ev, upd, updL, gate, binW, eqOp, binV, intOp, shOp, boolOp, unV, convV, nilV, fieldAddrV, indexAddrV, extractV, cellAt, cellsAt, findB, setB, fillL, buildV, Value.cells, lenV, minV, maxV, hav, sliceV, loV, hiV, bslQ, mksQ, appQ, partsOk, partsCells, delB, eqL, SameI, strOp, apzQ, cvtQ, capV, ↓reduceIte, Zj, Zk, Nat.reduceAdd, Nat.reduceLT, Nat.reduceEqDiff, Nat.reduceMul, Nat.reduceLeDiff, if_true, Zn, reduceCtorEq, ZA, eq_self, Int.reduceLE, Int.reduceLT, Int.reduceToNat, ne_eq, Nat.reduceSub]
  intro b1 hb1
  repeat refine And.intro (by omega) ?_
  intro g
  simp only [List.map_cons, List.map_nil, updL, upd, Nat.reduceEqDiff, if_true, if_false, ↓reduceIte]
  refine hK _ _ ?_; clear hK K
  refine Cd.rs [1, 2, 5] fun K hK => ?_
  simp (maxSteps := 2000000) (disch := first | omega | (simp only [E4, *] <;> omega) | fail) only [↓E0, E1, evP, evPlan, env0, envN, evOps, evOp, evQs, evQ, evV, setD, pureOp, ev, upd, updL, gate, binW, eqOp, binV, intOp, shOp, boolOp, unV, convV, nilV, fieldAddrV, indexAddrV, extractV, cellAt, cellsAt, findB, setB, fillL, buildV, Value.cells, lenV, minV, maxV, hav, sliceV, loV, hiV, bslQ, mksQ, appQ, partsOk, partsCells, delB, eqL, SameI, strOp, apzQ, cvtQ, capV, ↓reduceIte, Zj, Zk, Nat.reduceAdd, Nat.reduceLT, Nat.reduceEqDiff, Nat.reduceMul, Nat.reduceLeDiff, if_true, Zn, reduceCtorEq, ZA, eq_self, Int.reduceLE, Int.reduceLT, Int.reduceToNat, ne_eq, Nat.reduceSub, Tbld163, Tst163, Tzero163]
  intro b2 hb2
  have n21 := hb2.ne
  repeat refine And.intro (by omega) ?_
  intro g
  simp only [List.map_cons, List.map_nil, updL, upd, Nat.reduceEqDiff, if_true, if_false, ↓reduceIte]
  refine hK _ _ ?_; clear hK K
  refine Cd.seq ?_
  refine Cd.rs [1, 2, 5, 6] fun K hK => ?_
  simp (maxSteps := 2000000) (disch := first | omega | (simp only [E4, *] <;> omega) | fail) only [↓E0, E1, evP, evPlan, env0, envN, evOps, evOp, evQs, evQ, evV, setD, pureOp, ev, upd, updL, gate, binW, eqOp, binV, intOp, shOp, boolOp, unV, convV, nilV, fieldAddrV, indexAddrV, extractV, cellAt, cellsAt, findB, setB, fillL, buildV, Value.cells, lenV, minV, maxV, hav, sliceV, loV, hiV, bslQ, mksQ, appQ, partsOk, partsCells, delB, eqL, SameI, strOp, apzQ, cvtQ, capV, ↓reduceIte, Zj, Zk, Nat.reduceAdd, Nat.reduceLT, Nat.reduceEqDiff, Nat.reduceMul, Nat.reduceLeDiff, if_true, Zn, reduceCtorEq, ZA, eq_self, Int.reduceLE, Int.reduceLT, Int.reduceToNat, ne_eq, Nat.reduceSub]
  repeat refine And.intro (by omega) ?_
  intro g
  simp only [List.map_cons, List.map_nil, updL, upd, Nat.reduceEqDiff, if_true, if_false, ↓reduceIte]
  refine hK _ _ ?_; clear hK K
  refine Cd.block ?_
  rw [← metL_zero x n]
  refine Cd.loop (fun m ρ M => ∃ g k, k + m = 8 ∧ PermTo x n k ∧ ρ = updL [(1, .int .i64 (n : Int)), (2, .pointer (some ⟨b1, 0, none⟩)), (5, .pointer (some ⟨b2, 0, none⟩)), (6, .int .i64 (k : Int))] g ∧
    M = [(b2, bools (metL x n k)), (b1, ints .u8 x)]) 8 ⟨_, 0, Nat.zero_add _, (fun _ h => absurd h (Nat.not_lt_zero _)), rfl, rfl⟩ ?_
  rintro m ρ M ⟨g, k, hk, hp, rfl, rfl⟩
  refine Cd.seq ?_
  refine Cd.rs [1, 2, 5, 6, 9] fun K hK => ?_
  simp (maxSteps := 2000000) (disch := first | omega | (simp only [E4, *] <;> omega) | fail) only [↓E0, E1, evP, evPlan, env0, envN, evOps, evOp, evQs, evQ, evV, setD, pureOp, ev, upd, updL, gate, binW, eqOp, binV, intOp, shOp, boolOp, unV, convV, nilV, fieldAddrV, indexAddrV, extractV, cellAt, cellsAt, findB, setB, fillL, buildV, Value.cells, lenV, minV, maxV, hav, sliceV, loV, hiV, bslQ, mksQ, appQ, partsOk, partsCells, delB, eqL, SameI, strOp, apzQ, cvtQ, capV, ↓reduceIte, Zj, Zk, Nat.reduceAdd, Nat.reduceLT, Nat.reduceEqDiff, Nat.reduceMul, Nat.reduceLeDiff, if_true, Zn, reduceCtorEq, ZA, eq_self, Int.reduceLE, Int.reduceLT, Int.reduceToNat, ne_eq, Nat.reduceSub]
  repeat refine And.intro (by omega) ?_
  intro g
  simp only [List.map_cons, List.map_nil, updL, upd, Nat.reduceEqDiff, if_true, if_false, ↓reduceIte]
  refine hK _ _ ?_; clear hK K
  refine Cd.condd rfl (fun h1 => ?_) (fun h1 => ?_)
  · have hb := bytes_get hx (i := k) (by omega)
    refine Cd.skip ?_
    refine thenN ?_
    refine Cd.seq ?_
    refine Cd.block ?_
    refine Cd.seq ?_
    refine Cd.rs [1, 2, 5, 6, 14] fun K hK => ?_
    simp (maxSteps := 2000000) (disch := first | omega | (simp only [E4, *] <;> omega) | fail) only [↓E0, E1, evP, evPlan, env0, envN, evOps, evOp, evQs, evQ, evV, setD, pureOp, ev, upd, updL, gate, binW, eqOp, binV, intOp, shOp, boolOp, unV, convV, nilV, fieldAddrV, indexAddrV, extractV, cellAt, cellsAt, findB, setB, fillL, buildV, Value.cells, lenV, minV, maxV, hav, sliceV, loV, hiV, bslQ, mksQ, appQ, partsOk, partsCells, delB, eqL, SameI, strOp, apzQ, cvtQ, capV, ↓reduceIte, Zj, Zk, Nat.reduceAdd, Nat.reduceLT, Nat.reduceEqDiff, Nat.reduceMul, Nat.reduceLeDiff, if_true, Zn, reduceCtorEq, ZA, eq_self, Int.reduceLE, Int.reduceLT, Int.reduceToNat, ne_eq, Nat.reduceSub]
    repeat refine And.intro (by omega) ?_
    intro g
    simp only [List.map_cons, List.map_nil, updL, upd, Nat.reduceEqDiff, if_true, if_false, ↓reduceIte]
    refine hK _ _ ?_; clear hK K
    refine Cd.condd rfl (fun h2 => ?_) (fun h2 => ?_)
    · refine Cd.seq ?_
      refine Cd.rs [1, 2, 5, 6, 18] fun K hK => ?_
      simp (maxSteps := 2000000) (disch := first | omega | (simp only [E4, n21, hl, *] <;> omega) | fail) only [↓E0, E1, evP, evPlan, env0, envN, evOps, evOp, evQs, evQ, evV, setD, pureOp, ev, upd, updL, gate, binW, eqOp, binV, intOp, shOp, boolOp, unV, convV, nilV, fieldAddrV, indexAddrV, extractV, cellAt, cellsAt, findB, setB, fillL, buildV, Value.cells, lenV, minV, maxV, hav, sliceV, loV, hiV, bslQ, mksQ, appQ, partsOk, partsCells, delB, eqL, SameI, strOp, apzQ, cvtQ, capV, ↓reduceIte, Zj, Zk, Nat.reduceAdd, Nat.reduceLT, Nat.reduceEqDiff, Nat.reduceMul, Nat.reduceLeDiff, if_true, Zn, reduceCtorEq, ZA, eq_self, Int.reduceLE, Int.reduceLT, Int.reduceToNat, ne_eq, Nat.reduceSub, Tarr30, Tld5, n21, hl]
      repeat refine And.intro (by omega) ?_
      repeat refine And.intro (by omega) ?_
      intro g
      simp only [List.map_cons, List.map_nil, updL, upd, Nat.reduceEqDiff, if_true, if_false, ↓reduceIte]
      refine hK _ _ ?_; clear hK K
      refine Cd.cond rfl (fun h3 => ?_) (fun h3 => ?_)
      · refine Cd.rs [4] fun K hK => ?_
        simp (maxSteps := 2000000) (disch := first | omega | (simp only [E4, *] <;> omega) | fail) only [↓E0, E1, evP, evPlan, env0, envN, evOps, evOp, evQs, evQ, evV, setD, pureOp, ev, upd, updL, gate, binW, eqOp, binV, intOp, shOp, boolOp, unV, convV, nilV, fieldAddrV, indexAddrV, extractV, cellAt, cellsAt, findB, setB, fillL, buildV, Value.cells, lenV, minV, maxV, hav, sliceV, loV, hiV, bslQ, mksQ, appQ, partsOk, partsCells, delB, eqL, SameI, strOp, apzQ, cvtQ, capV, ↓reduceIte, Zj, Zk, Nat.reduceAdd, Nat.reduceLT, Nat.reduceEqDiff, Nat.reduceMul, Nat.reduceLeDiff, if_true, Zn, reduceCtorEq, ZA, eq_self, Int.reduceLE, Int.reduceLT, Int.reduceToNat, ne_eq, Nat.reduceSub]
        repeat refine And.intro (by omega) ?_
        intro g
        simp only [List.map_cons, List.map_nil, updL, upd, Nat.reduceEqDiff, if_true, if_false, ↓reduceIte]
        refine hK _ _ ?_; clear hK K
        refine Cd.ret (thenR (thenR (inBR (thenR (roundR (inBR (thenR ?_)))))))
        simp (maxSteps := 2000000) (disch := first | omega | (simp only [E4, *] <;> omega) | fail) only [↓E0, E1, evP, evPlan, env0, envN, evOps, evOp, evQs, evQ, evV, setD, pureOp, ev, upd, updL, gate, binW, eqOp, binV, intOp, shOp, boolOp, unV, convV, nilV, fieldAddrV, indexAddrV, extractV, cellAt, cellsAt, findB, setB, fillL, buildV, Value.cells, lenV, minV, maxV, hav, sliceV, loV, hiV, bslQ, mksQ, appQ, partsOk, partsCells, delB, eqL, SameI, strOp, apzQ, cvtQ, capV, ↓reduceIte, Zj, Zk, Nat.reduceAdd, Nat.reduceLT, Nat.reduceEqDiff, Nat.reduceMul, Nat.reduceLeDiff, if_true, Zn, reduceCtorEq, ZA, eq_self, Int.reduceLE, Int.reduceLT, Int.reduceToNat, ne_eq, Nat.reduceSub]
        exact congrArg Value.bool (permTo_not (k := k) hn (by omega) fun h => by have := h.2 (by omega); rw [this] at h3; simp at h3).symm
      · refine Cd.skip ?_
        refine thenN ?_
        refine Cd.exit (thenX (inBX ?_))
        refine thenN ?_
        refine Cd.rr [1, 2, 5, 6] fun K hK => ?_
        simp (maxSteps := 2000000) (disch := first | omega | (simp only [E4, *] <;> omega) | fail) only [↓E0, E1, evP, evPlan, env0, envN, evOps, evOp, evQs, evQ, evV, setD, pureOp, ev, upd, updL, gate, binW, eqOp, binV, intOp, shOp, boolOp, unV, convV, nilV, fieldAddrV, indexAddrV, extractV, cellAt, cellsAt, findB, setB, fillL, buildV, Value.cells, lenV, minV, maxV, hav, sliceV, loV, hiV, bslQ, mksQ, appQ, partsOk, partsCells, delB, eqL, SameI, strOp, apzQ, cvtQ, capV, ↓reduceIte, Zj, Zk, Nat.reduceAdd, Nat.reduceLT, Nat.reduceEqDiff, Nat.reduceMul, Nat.reduceLeDiff, if_true, Zn, reduceCtorEq, ZA, eq_self, Int.reduceLE, Int.reduceLT, Int.reduceToNat, ne_eq, Nat.reduceSub]
        repeat refine And.intro (by omega) ?_
        intro g
        simp only [List.map_cons, List.map_nil, updL, upd, Nat.reduceEqDiff, if_true, if_false, ↓reduceIte]
        refine hK _ _ ?_; clear hK K
        exact roundN (m := m - 1) (by omega) ⟨_, k + 1, by omega, permTo_succ hp ⟨fun h => absurd h (by omega), fun _ => by simpa using h3⟩, rfl, by rw [metL_over (by omega)]⟩
    · refine Cd.skip ?_
      refine thenN ?_
      refine Cd.seq ?_
      refine Cd.rs [1, 2, 5, 6, 31] fun K hK => ?_
      simp (maxSteps := 2000000) (disch := first | omega | (simp only [E4, n21, hl, *] <;> omega) | fail) only [↓E0, E1, evP, evPlan, env0, envN, evOps, evOp, evQs, evQ, evV, setD, pureOp, ev, upd, updL, gate, binW, eqOp, binV, intOp, shOp, boolOp, unV, convV, nilV, fieldAddrV, indexAddrV, extractV, cellAt, cellsAt, findB, setB, fillL, buildV, Value.cells, lenV, minV, maxV, hav, sliceV, loV, hiV, bslQ, mksQ, appQ, partsOk, partsCells, delB, eqL, SameI, strOp, apzQ, cvtQ, capV, ↓reduceIte, Zj, Zk, Nat.reduceAdd, Nat.reduceLT, Nat.reduceEqDiff, Nat.reduceMul, Nat.reduceLeDiff, if_true, Zn, reduceCtorEq, ZA, eq_self, Int.reduceLE, Int.reduceLT, Int.reduceToNat, ne_eq, Nat.reduceSub, Tarr163, Tarr30, Tint2, Tld4, Tld5, Tpar5, n21, hl]
      refine ⟨by omega, fun h4 => ?_, fun h4 => ?_⟩
      · replace h4 := of_decide_eq_false h4
        obtain ⟨j, hj⟩ : ∃ j : Nat, x.getD k 0 = (j : Int) := ⟨(x.getD k 0).toNat, by omega⟩
        have hj8 : j < 8 := by omega
        simp (maxSteps := 2000000) (disch := first | omega | (simp only [E4, n21, hl, hj, metL_len, metL_get, *] <;> omega) | fail) only [↓E0, E1, evP, evPlan, env0, envN, evOps, evOp, evQs, evQ, evV, setD, pureOp, ev, upd, updL, gate, binW, eqOp, binV, intOp, shOp, boolOp, unV, convV, nilV, fieldAddrV, indexAddrV, extractV, cellAt, cellsAt, findB, setB, fillL, buildV, Value.cells, lenV, minV, maxV, hav, sliceV, loV, hiV, bslQ, mksQ, appQ, partsOk, partsCells, delB, eqL, SameI, strOp, apzQ, cvtQ, capV, ↓reduceIte, Zj, Zk, Nat.reduceAdd, Nat.reduceLT, Nat.reduceEqDiff, Nat.reduceMul, Nat.reduceLeDiff, if_true, Zn, reduceCtorEq, ZA, eq_self, Int.reduceLE, Int.reduceLT, Int.reduceToNat, ne_eq, Nat.reduceSub, Tarr163, Tarr30, Tint2, Tld4, Tld5, Tpar5, n21, hl, hj, metL_len, metL_get]
        repeat refine And.intro (by omega) ?_
        repeat refine And.intro (by omega) ?_
        intro g
        simp only [List.map_cons, List.map_nil, updL, upd, Nat.reduceEqDiff, if_true, if_false, ↓reduceIte]
        refine hK _ _ ?_; clear hK K
        refine Cd.condd rfl (fun h5 => ?_) (fun h5 => ?_)
        · refine Cd.rs [4] fun K hK => ?_
          simp (maxSteps := 2000000) (disch := first | omega | (simp only [E4, *] <;> omega) | fail) only [↓E0, E1, evP, evPlan, env0, envN, evOps, evOp, evQs, evQ, evV, setD, pureOp, ev, upd, updL, gate, binW, eqOp, binV, intOp, shOp, boolOp, unV, convV, nilV, fieldAddrV, indexAddrV, extractV, cellAt, cellsAt, findB, setB, fillL, buildV, Value.cells, lenV, minV, maxV, hav, sliceV, loV, hiV, bslQ, mksQ, appQ, partsOk, partsCells, delB, eqL, SameI, strOp, apzQ, cvtQ, capV, ↓reduceIte, Zj, Zk, Nat.reduceAdd, Nat.reduceLT, Nat.reduceEqDiff, Nat.reduceMul, Nat.reduceLeDiff, if_true, Zn, reduceCtorEq, ZA, eq_self, Int.reduceLE, Int.reduceLT, Int.reduceToNat, ne_eq, Nat.reduceSub]
          repeat refine And.intro (by omega) ?_
          intro g
          simp only [List.map_cons, List.map_nil, updL, upd, Nat.reduceEqDiff, if_true, if_false, ↓reduceIte]
          refine hK _ _ ?_; clear hK K
          refine Cd.ret (thenR (inBR (thenR (roundR (inBR (thenR ?_))))))
          simp (maxSteps := 2000000) (disch := first | omega | (simp only [E4, *] <;> omega) | fail) only [↓E0, E1, evP, evPlan, env0, envN, evOps, evOp, evQs, evQ, evV, setD, pureOp, ev, upd, updL, gate, binW, eqOp, binV, intOp, shOp, boolOp, unV, convV, nilV, fieldAddrV, indexAddrV, extractV, cellAt, cellsAt, findB, setB, fillL, buildV, Value.cells, lenV, minV, maxV, hav, sliceV, loV, hiV, bslQ, mksQ, appQ, partsOk, partsCells, delB, eqL, SameI, strOp, apzQ, cvtQ, capV, ↓reduceIte, Zj, Zk, Nat.reduceAdd, Nat.reduceLT, Nat.reduceEqDiff, Nat.reduceMul, Nat.reduceLeDiff, if_true, Zn, reduceCtorEq, ZA, eq_self, Int.reduceLE, Int.reduceLT, Int.reduceToNat, ne_eq, Nat.reduceSub]
          exact congrArg Value.bool (permTo_not (k := k) hn (by omega) fun h => by
            obtain ⟨i, h6, h7, h8⟩ := h5
            exact (h.1 (by omega)).2 i h6 (by rw [h8, hj])).symm
        · refine Cd.skip ?_
          refine thenN ?_
          refine Cd.rr [1, 2, 5, 6] fun K hK => ?_
          simp (maxSteps := 2000000) (disch := first | omega | (simp only [E4, n21, hl, hj, metL_len, *] <;> omega) | fail) only [↓E0, E1, evP, evPlan, env0, envN, evOps, evOp, evQs, evQ, evV, setD, pureOp, ev, upd, updL, gate, binW, eqOp, binV, intOp, shOp, boolOp, unV, convV, nilV, fieldAddrV, indexAddrV, extractV, cellAt, cellsAt, findB, setB, fillL, buildV, Value.cells, lenV, minV, maxV, hav, sliceV, loV, hiV, bslQ, mksQ, appQ, partsOk, partsCells, delB, eqL, SameI, strOp, apzQ, cvtQ, capV, ↓reduceIte, Zj, Zk, Nat.reduceAdd, Nat.reduceLT, Nat.reduceEqDiff, Nat.reduceMul, Nat.reduceLeDiff, if_true, Zn, reduceCtorEq, ZA, eq_self, Int.reduceLE, Int.reduceLT, Int.reduceToNat, ne_eq, Nat.reduceSub, Tarr163, Tarr30, Tld5, Tst4, n21, hl, hj, metL_len]
          repeat refine And.intro (by omega) ?_
          rw [metL_set (by omega) hj]
          repeat refine And.intro (by omega) ?_
          intro g
          simp only [List.map_cons, List.map_nil, updL, upd, Nat.reduceEqDiff, if_true, if_false, ↓reduceIte]
          refine hK _ _ ?_; clear hK K
          refine inBN ?_
          refine thenN ?_
          refine Cd.rr [1, 2, 5, 6] fun K hK => ?_
          simp (maxSteps := 2000000) (disch := first | omega | (simp only [E4, *] <;> omega) | fail) only [↓E0, E1, evP, evPlan, env0, envN, evOps, evOp, evQs, evQ, evV, setD, pureOp, ev, upd, updL, gate, binW, eqOp, binV, intOp, shOp, boolOp, unV, convV, nilV, fieldAddrV, indexAddrV, extractV, cellAt, cellsAt, findB, setB, fillL, buildV, Value.cells, lenV, minV, maxV, hav, sliceV, loV, hiV, bslQ, mksQ, appQ, partsOk, partsCells, delB, eqL, SameI, strOp, apzQ, cvtQ, capV, ↓reduceIte, Zj, Zk, Nat.reduceAdd, Nat.reduceLT, Nat.reduceEqDiff, Nat.reduceMul, Nat.reduceLeDiff, if_true, Zn, reduceCtorEq, ZA, eq_self, Int.reduceLE, Int.reduceLT, Int.reduceToNat, ne_eq, Nat.reduceSub]
          repeat refine And.intro (by omega) ?_
          intro g
          simp only [List.map_cons, List.map_nil, updL, upd, Nat.reduceEqDiff, if_true, if_false, ↓reduceIte]
          refine hK _ _ ?_; clear hK K
          exact roundN (m := m - 1) (by omega) ⟨_, k + 1, by omega, permTo_succ hp ⟨fun h => ⟨by omega, fun i hi he => h5 ⟨i, hi, by omega, by rw [he, hj]⟩⟩, fun h => absurd h (by omega)⟩, rfl, rfl⟩
      · repeat refine And.intro (by omega) ?_
        intro g
        simp only [List.map_cons, List.map_nil, updL, upd, Nat.reduceEqDiff, if_true, if_false, ↓reduceIte]
        refine hK _ _ ?_; clear hK K
        refine Cd.yes rfl ?_
        refine Cd.rs [4] fun K hK => ?_
        simp (maxSteps := 2000000) (disch := first | omega | (simp only [E4, *] <;> omega) | fail) only [↓E0, E1, evP, evPlan, env0, envN, evOps, evOp, evQs, evQ, evV, setD, pureOp, ev, upd, updL, gate, binW, eqOp, binV, intOp, shOp, boolOp, unV, convV, nilV, fieldAddrV, indexAddrV, extractV, cellAt, cellsAt, findB, setB, fillL, buildV, Value.cells, lenV, minV, maxV, hav, sliceV, loV, hiV, bslQ, mksQ, appQ, partsOk, partsCells, delB, eqL, SameI, strOp, apzQ, cvtQ, capV, ↓reduceIte, Zj, Zk, Nat.reduceAdd, Nat.reduceLT, Nat.reduceEqDiff, Nat.reduceMul, Nat.reduceLeDiff, if_true, Zn, reduceCtorEq, ZA, eq_self, Int.reduceLE, Int.reduceLT, Int.reduceToNat, ne_eq, Nat.reduceSub]
        repeat refine And.intro (by omega) ?_
        intro g
        simp only [List.map_cons, List.map_nil, updL, upd, Nat.reduceEqDiff, if_true, if_false, ↓reduceIte]
        refine hK _ _ ?_; clear hK K
        refine Cd.ret (thenR (inBR (thenR (roundR (inBR (thenR ?_))))))
        simp (maxSteps := 2000000) (disch := first | omega | (simp only [E4, *] <;> omega) | fail) only [↓E0, E1, evP, evPlan, env0, envN, evOps, evOp, evQs, evQ, evV, setD, pureOp, ev, upd, updL, gate, binW, eqOp, binV, intOp, shOp, boolOp, unV, convV, nilV, fieldAddrV, indexAddrV, extractV, cellAt, cellsAt, findB, setB, fillL, buildV, Value.cells, lenV, minV, maxV, hav, sliceV, loV, hiV, bslQ, mksQ, appQ, partsOk, partsCells, delB, eqL, SameI, strOp, apzQ, cvtQ, capV, ↓reduceIte, Zj, Zk, Nat.reduceAdd, Nat.reduceLT, Nat.reduceEqDiff, Nat.reduceMul, Nat.reduceLeDiff, if_true, Zn, reduceCtorEq, ZA, eq_self, Int.reduceLE, Int.reduceLT, Int.reduceToNat, ne_eq, Nat.reduceSub]
        exact congrArg Value.bool (permTo_not (k := k) hn (by omega) fun h => by have := (h.1 (by omega)).1; omega).symm
  · refine Cd.exit (thenX (roundX (inBX ?_)))
    refine thenN ?_
    obtain rfl : k = 8 := by omega
    refine Cd.rs [4] fun K hK => ?_
    simp (maxSteps := 2000000) (disch := first | omega | (simp only [E4, *] <;> omega) | fail) only [↓E0, E1, evP, evPlan, env0, envN, evOps, evOp, evQs, evQ, evV, setD, pureOp, ev, upd, updL, gate, binW, eqOp, binV, intOp, shOp, boolOp, unV, convV, nilV, fieldAddrV, indexAddrV, extractV, cellAt, cellsAt, findB, setB, fillL, buildV, Value.cells, lenV, minV, maxV, hav, sliceV, loV, hiV, bslQ, mksQ, appQ, partsOk, partsCells, delB, eqL, SameI, strOp, apzQ, cvtQ, capV, ↓reduceIte, Zj, Zk, Nat.reduceAdd, Nat.reduceLT, Nat.reduceEqDiff, Nat.reduceMul, Nat.reduceLeDiff, if_true, Zn, reduceCtorEq, ZA, eq_self, Int.reduceLE, Int.reduceLT, Int.reduceToNat, ne_eq, Nat.reduceSub]
    repeat refine And.intro (by omega) ?_
    intro g
    simp only [List.map_cons, List.map_nil, updL, upd, Nat.reduceEqDiff, if_true, if_false, ↓reduceIte]
    refine hK _ _ ?_; clear hK K
    refine Cd.ret ?_
    simp (maxSteps := 2000000) (disch := first | omega | (simp only [E4, *] <;> omega) | fail) only [↓E0, E1, evP, evPlan, env0, envN, evOps, evOp, evQs, evQ, evV, setD, pureOp, ev, upd, updL, gate, binW, eqOp, binV, intOp, shOp, boolOp, unV, convV, nilV, fieldAddrV, indexAddrV, extractV, cellAt, cellsAt, findB, setB, fillL, buildV, Value.cells, lenV, minV, maxV, hav, sliceV, loV, hiV, bslQ, mksQ, appQ, partsOk, partsCells, delB, eqL, SameI, strOp, apzQ, cvtQ, capV, ↓reduceIte, Zj, Zk, Nat.reduceAdd, Nat.reduceLT, Nat.reduceEqDiff, Nat.reduceMul, Nat.reduceLeDiff, if_true, Zn, reduceCtorEq, ZA, eq_self, Int.reduceLE, Int.reduceLT, Int.reduceToNat, ne_eq, Nat.reduceSub]
    exact congrArg Value.bool (decide_eq_true ((perm_iff hn).2 hp)).symm

end Go.Proofs

/-
  What the functions of this part hand back: each as a plain function of its arguments. Conditions: none.
-/
namespace Go.Proofs
open Go.W8
set_option linter.unusedVariables false
set_option linter.unusedSimpArgs false
set_option linter.unusedSectionVars false
set_option maxRecDepth 8000
set_option maxHeartbeats 4000000
--@plain
/-- The first place at which a row has the entry r. -/
def rowGo (x : List Int) (r : Int) : Nat → Nat → Nat
  | _, 0 => 0
  | i, m + 1 => if x.getD i 0 = r then i else rowGo x r (i + 1) m
def rowOf (x : List Int) (n : Nat) (r : Int) : Nat := rowGo x r 0 n

theorem rowGo_hit {x : List Int} {r : Int} : ∀ (m i j : Nat), i ≤ j → j < i + m → x.getD j 0 = r → (∀ l, i ≤ l → l < j → x.getD l 0 ≠ r) → rowGo x r i m = j
  | 0, i, j, h1, h2, _, _ => by omega
  | m + 1, i, j, h1, h2, h3, h4 => by
    unfold rowGo
    by_cases h : i = j
    · subst h; rw [if_pos h3]
    · rw [if_neg (h4 i (Nat.le_refl _) (by omega))]
      exact rowGo_hit m (i + 1) j (by omega) (by omega) h3 fun l hl => h4 l (by omega)
theorem rowGo_none {x : List Int} {r : Int} : ∀ (m i : Nat), (∀ l, i ≤ l → l < i + m → x.getD l 0 ≠ r) → rowGo x r i m = 0
  | 0, _, _ => rfl
  | m + 1, i, h => by
    unfold rowGo
    rw [if_neg (h i (Nat.le_refl _) (by omega))]
    exact rowGo_none m (i + 1) fun l hl hl' => h l (by omega) (by omega)
theorem rowOf_hit {x : List Int} {n j : Nat} {r : Int} (hj : j < n) (h : x.getD j 0 = r) (h' : ∀ l, l < j → x.getD l 0 ≠ r) : rowOf x n r = j := rowGo_hit n 0 j (Nat.zero_le _) (by omega) h fun l _ => h' l
theorem rowOf_none {x : List Int} {n : Nat} {r : Int} (h : ∀ l, l < n → x.getD l 0 ≠ r) : rowOf x n r = 0 := rowGo_none n 0 fun l _ hl => h l (by omega)
theorem rowOf_perm {x : List Int} {n j : Nat} (hp : IsPerm x n) (hj : j < n) : rowOf x n (x.getD j 0) = j := rowOf_hit hj rfl fun l hl => hp.2.1 j hj l hl
theorem perm_surj {x : List Int} {n : Nat} (hx : ∀ i, i < n → 0 ≤ x.getD i 0) (hp : IsPerm x n) {r : Int} (h0 : 0 ≤ r) (h1 : r < n) : ∃ i, i < n ∧ x.getD i 0 = r := by
  obtain ⟨i, hi, h⟩ := inj_surj n (fun i => (x.getD i 0).toNat) (fun i hi => by have := hp.1 i hi; have := hx i hi; omega)
    (fun i hi j hj h => by
      have a := hx i hi
      have b := hx j hj
      have h' : (x.getD i 0).toNat = (x.getD j 0).toNat := h
      rcases Nat.lt_trichotomy i j with h2 | h2 | h2
      · exact absurd (by omega) (hp.2.1 j hj i h2)
      · exact h2
      · exact absurd (by omega) (hp.2.1 i hi j h2)) r.toNat (by omega)
  have h' : (x.getD i 0).toNat = r.toNat := h
  exact ⟨i, hi, by have := hx i hi; omega⟩
theorem rowOf_lt {x : List Int} {n : Nat} (hx : ∀ i, i < n → 0 ≤ x.getD i 0) (hp : IsPerm x n) {r : Int} (h0 : 0 ≤ r) (h1 : r < n) : rowOf x n r < n ∧ x.getD (rowOf x n r) 0 = r := by
  obtain ⟨i, hi, rfl⟩ := perm_surj hx hp h0 h1
  rw [rowOf_perm hp hi]
  exact ⟨hi, rfl⟩
theorem rowOf_inj {x : List Int} {n : Nat} (hx : ∀ i, i < n → 0 ≤ x.getD i 0) (hp : IsPerm x n) {r r' : Int} (h0 : 0 ≤ r) (h1 : r < n) (h0' : 0 ≤ r') (h1' : r' < n) (h : rowOf x n r = rowOf x n r') : r = r' := by
  rw [← (rowOf_lt hx hp h0 h1).2, ← (rowOf_lt hx hp h0' h1').2, h]
theorem rowOf_le {x : List Int} {n : Nat} {r : Int} : rowOf x n r ≤ n := by
  by_cases h : ∃ j, j < n ∧ x.getD j 0 = r
  · have key : ∀ (m i : Nat), rowGo x r i m ≤ i + m := by
      intro m
      induction m with
      | zero => intro i; exact Nat.zero_le _
      | succ m ih =>
        intro i
        unfold rowGo
        split
        · omega
        · have := ih (i + 1); omega
    have := key n 0
    unfold rowOf
    omega
  · rw [rowOf_none fun l hl he => h ⟨l, hl, he⟩]; exact Nat.zero_le _

/-- The columns of the rows' marks. -/
def plc (x : List Int) (n : Nat) : List Int := (List.range 8).map fun (r : Nat) => (rowOf x n (r : Int) : Int)
def plcTo (x : List Int) (n k : Nat) : List Int := (List.range 8).map fun (r : Nat) => if rowOf x n (r : Int) < k ∧ x.getD (rowOf x n (r : Int)) 0 = (r : Int) then (rowOf x n (r : Int) : Int) else 0
theorem plc_len (x : List Int) (n : Nat) : (plc x n).length = 8 := by simp [plc]
theorem plcTo_len (x : List Int) (n k : Nat) : (plcTo x n k).length = 8 := by simp [plcTo]
theorem plc_get {x : List Int} {n r : Nat} (h : r < 8) : (plc x n).getD r 0 = (rowOf x n (r : Int) : Int) := by
  unfold plc
  rw [List.getD_eq_getElem?_getD, List.getElem?_map, List.getElem?_range h]; rfl
theorem plc_geti {x : List Int} {n : Nat} {r : Int} (h0 : 0 ≤ r) (h : r < 8) : (plc x n).getD r.toNat 0 = (rowOf x n r : Int) := by
  rw [plc_get (by omega)]
  rw [Int.toNat_of_nonneg h0]
theorem plcTo_zero (x : List Int) (n : Nat) : plcTo x n 0 = z8 := by
  unfold plcTo
  simp only [Nat.not_lt_zero, false_and, if_false]
  rfl
theorem plcTo_set {x : List Int} {n k : Nat} (hp : IsPerm x n) (hk : k < n) (hn : n ≤ 8) (h0 : 0 ≤ x.getD k 0) : (plcTo x n k).set (x.getD k 0).toNat (k : Int) = plcTo x n (k + 1) := by
  have h8 := hp.1 k hk
  apply List.ext_getElem?
  intro r
  unfold plcTo
  by_cases hr : r < 8
  · by_cases e : (x.getD k 0).toNat = r
    · subst e
      rw [List.getElem?_set_self (by simpa using hr), List.getElem?_map, List.getElem?_range hr]
      simp only [Option.map_some]
      have e1 : (((x.getD k 0).toNat : Nat) : Int) = x.getD k 0 := Int.toNat_of_nonneg h0
      rw [e1, rowOf_perm hp hk, if_pos ⟨Nat.lt_succ_self k, rfl⟩]
    · rw [List.getElem?_set_ne e, List.getElem?_map, List.getElem?_map, List.getElem?_range hr]
      simp only [Option.map_some]
      congr 1
      by_cases h : rowOf x n (r : Int) < k ∧ x.getD (rowOf x n (r : Int)) 0 = (r : Int)
      · rw [if_pos h, if_pos ⟨by omega, h.2⟩]
      · rw [if_neg h, if_neg fun h' => ?_]
        by_cases h3 : rowOf x n (r : Int) = k
        · rw [h3] at h'
          exact e (by omega)
        · exact h ⟨by omega, h'.2⟩
  · rw [List.getElem?_eq_none (by simp; omega), List.getElem?_eq_none (by simp; omega)]
theorem plcTo_full {x : List Int} {n : Nat} (hx : ∀ i, i < n → 0 ≤ x.getD i 0) (hp : IsPerm x n) : plcTo x n n = plc x n := by
  unfold plcTo plc
  apply List.map_congr_left
  intro r _
  by_cases hr : (r : Int) < n
  · have := rowOf_lt hx hp (r := (r : Int)) (by omega) hr
    rw [if_pos this]
  · have h0 : rowOf x n (r : Int) = 0 := rowOf_none fun l hl he => by have := hp.1 l hl; omega
    rw [h0]
    split <;> rfl

end Go.Proofs

/-
  What the functions of this part hand back: each as a plain function of its arguments. Conditions: none.
-/
namespace Go.Proofs
open Go.W8
set_option linter.unusedVariables false
set_option linter.unusedSimpArgs false
set_option linter.unusedSectionVars false
set_option maxRecDepth 8000
set_option maxHeartbeats 4000000
theorem l01Row_c (x : List Int) (hx : Bytes8 x) (n : Nat) (hn : n ≤ 8) (r : Int) : Gives Try.prog 114 #[.agg (ints .u8 x).toArray, .int .i64 (n : Int), .int .i64 r] (.int .i64 (rowOf x n r : Int)) := by
  have hl := hx.len
  skip
  refine Gives.of fun w => ?_
  refine acall_of (N := 20) (c := _) (rs := [.tmp 6]) (args := [_, _, _]) Try.func114 rfl (by decide) rfl rfl (Nat.le_of_ble_eq_true rfl) ?_
  refine Cd.rs [1, 2, 3] fun K hK => ?_
  simp (maxSteps := 2000000) (disch := first | (simp only [E4, hl] <;> omega) | omega | fail) only [↓E2, E3, bare, bareJ, ↓E0, E1, evP, evPlan, env0, envN, evOps, evOp, evQs, evQ, evV, setD, pureOp, ev, upd, updL, gate, binW, eqOp, binV, intOp, shOp, boolOp, unV, convV, nilV, fieldAddrV, indexAddrV, extractV, cellAt, cellsAt, findB, setB, fillL, buildV, Value.cells, lenV, minV, maxV, hav, sliceV, loV, hiV, bslQ, mksQ, appQ, partsOk, partsCells, delB, eqL, SameI, strOp, apzQ, cvtQ, capV, ↓reduceIte, Zj, Zk, Nat.reduceAdd, Nat.reduceLT, Nat.reduceEqDiff, Nat.reduceMul, Nat.reduceLeDiff, if_true, Zn, reduceCtorEq, ZA, eq_self, Int.reduceLE, Int.reduceLT, Int.reduceToNat, ne_eq, Nat.reduceSub, hl]
  repeat refine And.intro (by omega) ?_
  intro b1 hb1
  try simp (maxSteps := 2000000) (disch := first | (simp only [E4, hl] <;> omega) | omega | fail) only [↓E2, E3, bare, bareJ, ↓E0, E1, evP, evPlan, env0, envN, evOps, evOp, evQs, evQ, evV, setD, pureOp, ev, upd, updL, gate, binW, eqOp, binV, intOp, shOp, boolOp, unV, convV, nilV, fieldAddrV, indexAddrV, extractV, cellAt, cellsAt, findB, setB, fillL, buildV, Value.cells, lenV, minV, maxV, hav, sliceV, loV, hiV, bslQ, mksQ, appQ, partsOk, partsCells, delB, eqL, SameI, strOp, apzQ, cvtQ, capV, ↓reduceIte, Zj, Zk, Nat.reduceAdd, Nat.reduceLT, Nat.reduceEqDiff, Nat.reduceMul, Nat.reduceLeDiff, if_true, Zn, reduceCtorEq, ZA, eq_self, Int.reduceLE, Int.reduceLT, Int.reduceToNat, ne_eq, Nat.reduceSub, hl]
  repeat refine And.intro (by omega) ?_
  intro g
  simp only [List.map_cons, List.map_nil, updL, upd, Nat.reduceEqDiff, if_true, if_false, ↓reduceIte]
  refine hK _ _ ?_; clear hK K
  refine Cd.seq ?_
  refine Cd.rs [1, 2, 3, 7] fun K hK => ?_
  simp (maxSteps := 2000000) (disch := first | (simp only [E4, hl] <;> omega) | omega | fail) only [↓E2, E3, bare, bareJ, ↓E0, E1, evP, evPlan, env0, envN, evOps, evOp, evQs, evQ, evV, setD, pureOp, ev, upd, updL, gate, binW, eqOp, binV, intOp, shOp, boolOp, unV, convV, nilV, fieldAddrV, indexAddrV, extractV, cellAt, cellsAt, findB, setB, fillL, buildV, Value.cells, lenV, minV, maxV, hav, sliceV, loV, hiV, bslQ, mksQ, appQ, partsOk, partsCells, delB, eqL, SameI, strOp, apzQ, cvtQ, capV, ↓reduceIte, Zj, Zk, Nat.reduceAdd, Nat.reduceLT, Nat.reduceEqDiff, Nat.reduceMul, Nat.reduceLeDiff, if_true, Zn, reduceCtorEq, ZA, eq_self, Int.reduceLE, Int.reduceLT, Int.reduceToNat, ne_eq, Nat.reduceSub, hl]
  repeat refine And.intro (by omega) ?_
  intro g
  simp only [List.map_cons, List.map_nil, updL, upd, Nat.reduceEqDiff, if_true, if_false, ↓reduceIte]
  refine hK _ _ ?_; clear hK K
  refine Cd.block ?_
  refine Cd.loop (fun m ρ M => ∃ g k, k + m = n ∧ (∀ l, l < k → x.getD l 0 ≠ r) ∧ ρ = updL [(1, .int .i64 (n : Int)), (2, .int .i64 r), (3, .pointer (some ⟨b1, 0, none⟩)), (7, .int .i64 (k : Int))] g ∧ M = [(b1, ints .u8 x)]) n ⟨_, 0, Nat.zero_add _, (fun _ h => absurd h (Nat.not_lt_zero _)), rfl, rfl⟩ ?_
  rintro m ρ M ⟨g, k, hk, hno, rfl, rfl⟩
  refine Cd.seq ?_
  refine Cd.rs [1, 2, 3, 7, 10] fun K hK => ?_
  simp (maxSteps := 2000000) (disch := first | (simp only [E4, hl] <;> omega) | omega | fail) only [↓E2, E3, bare, bareJ, ↓E0, E1, evP, evPlan, env0, envN, evOps, evOp, evQs, evQ, evV, setD, pureOp, ev, upd, updL, gate, binW, eqOp, binV, intOp, shOp, boolOp, unV, convV, nilV, fieldAddrV, indexAddrV, extractV, cellAt, cellsAt, findB, setB, fillL, buildV, Value.cells, lenV, minV, maxV, hav, sliceV, loV, hiV, bslQ, mksQ, appQ, partsOk, partsCells, delB, eqL, SameI, strOp, apzQ, cvtQ, capV, ↓reduceIte, Zj, Zk, Nat.reduceAdd, Nat.reduceLT, Nat.reduceEqDiff, Nat.reduceMul, Nat.reduceLeDiff, if_true, Zn, reduceCtorEq, ZA, eq_self, Int.reduceLE, Int.reduceLT, Int.reduceToNat, ne_eq, Nat.reduceSub, hl]
  repeat refine And.intro (by omega) ?_
  intro g
  simp only [List.map_cons, List.map_nil, updL, upd, Nat.reduceEqDiff, if_true, if_false, ↓reduceIte]
  refine hK _ _ ?_; clear hK K
  refine Cd.condd rfl (fun h1 => ?_) (fun h1 => ?_)
  · have c1 := bytes_get hx (i := k) (by omega)
    refine Cd.skip ?_
    refine thenN ?_
    refine Cd.seq ?_
    refine Cd.block ?_
    refine Cd.rs [1, 2, 3, 7, 18] fun K hK => ?_
    simp (maxSteps := 2000000) (disch := first | (simp only [E4, hl] <;> omega) | omega | fail) only [↓E2, E3, bare, bareJ, ↓E0, E1, evP, evPlan, env0, envN, evOps, evOp, evQs, evQ, evV, setD, pureOp, ev, upd, updL, gate, binW, eqOp, binV, intOp, shOp, boolOp, unV, convV, nilV, fieldAddrV, indexAddrV, extractV, cellAt, cellsAt, findB, setB, fillL, buildV, Value.cells, lenV, minV, maxV, hav, sliceV, loV, hiV, bslQ, mksQ, appQ, partsOk, partsCells, delB, eqL, SameI, strOp, apzQ, cvtQ, capV, ↓reduceIte, Zj, Zk, Nat.reduceAdd, Nat.reduceLT, Nat.reduceEqDiff, Nat.reduceMul, Nat.reduceLeDiff, if_true, Zn, reduceCtorEq, ZA, eq_self, Int.reduceLE, Int.reduceLT, Int.reduceToNat, ne_eq, Nat.reduceSub, Tarr30, Tint2, Tld5, Tpar5, hl]
    repeat refine And.intro (by omega) ?_
    repeat refine And.intro (by omega) ?_
    intro g
    simp only [List.map_cons, List.map_nil, updL, upd, Nat.reduceEqDiff, if_true, if_false, ↓reduceIte]
    refine hK _ _ ?_; clear hK K
    refine Cd.cond rfl (fun h2 => ?_) (fun h2 => ?_)
    · refine Cd.rs [6] fun K hK => ?_
      simp (maxSteps := 2000000) (disch := first | (simp only [E4, hl] <;> omega) | omega | fail) only [↓E2, E3, bare, bareJ, ↓E0, E1, evP, evPlan, env0, envN, evOps, evOp, evQs, evQ, evV, setD, pureOp, ev, upd, updL, gate, binW, eqOp, binV, intOp, shOp, boolOp, unV, convV, nilV, fieldAddrV, indexAddrV, extractV, cellAt, cellsAt, findB, setB, fillL, buildV, Value.cells, lenV, minV, maxV, hav, sliceV, loV, hiV, bslQ, mksQ, appQ, partsOk, partsCells, delB, eqL, SameI, strOp, apzQ, cvtQ, capV, ↓reduceIte, Zj, Zk, Nat.reduceAdd, Nat.reduceLT, Nat.reduceEqDiff, Nat.reduceMul, Nat.reduceLeDiff, if_true, Zn, reduceCtorEq, ZA, eq_self, Int.reduceLE, Int.reduceLT, Int.reduceToNat, ne_eq, Nat.reduceSub, hl]
      repeat refine And.intro (by omega) ?_
      intro g
      simp only [List.map_cons, List.map_nil, updL, upd, Nat.reduceEqDiff, if_true, if_false, ↓reduceIte]
      refine hK _ _ ?_; clear hK K
      refine Cd.ret (inBR (thenR (roundR (inBR (thenR ?_)))))
      simp (maxSteps := 2000000) (disch := first | (simp only [E4, hl] <;> omega) | omega | fail) only [↓E2, E3, bare, bareJ, ↓E0, E1, evP, evPlan, env0, envN, evOps, evOp, evQs, evQ, evV, setD, pureOp, ev, upd, updL, gate, binW, eqOp, binV, intOp, shOp, boolOp, unV, convV, nilV, fieldAddrV, indexAddrV, extractV, cellAt, cellsAt, findB, setB, fillL, buildV, Value.cells, lenV, minV, maxV, hav, sliceV, loV, hiV, bslQ, mksQ, appQ, partsOk, partsCells, delB, eqL, SameI, strOp, apzQ, cvtQ, capV, ↓reduceIte, Zj, Zk, Nat.reduceAdd, Nat.reduceLT, Nat.reduceEqDiff, Nat.reduceMul, Nat.reduceLeDiff, if_true, Zn, reduceCtorEq, ZA, eq_self, Int.reduceLE, Int.reduceLT, Int.reduceToNat, ne_eq, Nat.reduceSub, hl]
      rw [rowOf_hit (by omega) (by simpa using h2) hno]
    · refine Cd.skip ?_
      refine inBN ?_
      refine thenN ?_
      refine Cd.rr [1, 2, 3, 7] fun K hK => ?_
      simp (maxSteps := 2000000) (disch := first | (simp only [E4, hl] <;> omega) | omega | fail) only [↓E2, E3, bare, bareJ, ↓E0, E1, evP, evPlan, env0, envN, evOps, evOp, evQs, evQ, evV, setD, pureOp, ev, upd, updL, gate, binW, eqOp, binV, intOp, shOp, boolOp, unV, convV, nilV, fieldAddrV, indexAddrV, extractV, cellAt, cellsAt, findB, setB, fillL, buildV, Value.cells, lenV, minV, maxV, hav, sliceV, loV, hiV, bslQ, mksQ, appQ, partsOk, partsCells, delB, eqL, SameI, strOp, apzQ, cvtQ, capV, ↓reduceIte, Zj, Zk, Nat.reduceAdd, Nat.reduceLT, Nat.reduceEqDiff, Nat.reduceMul, Nat.reduceLeDiff, if_true, Zn, reduceCtorEq, ZA, eq_self, Int.reduceLE, Int.reduceLT, Int.reduceToNat, ne_eq, Nat.reduceSub, hl]
      repeat refine And.intro (by omega) ?_
      intro g
      simp only [List.map_cons, List.map_nil, updL, upd, Nat.reduceEqDiff, if_true, if_false, ↓reduceIte]
      refine hK _ _ ?_; clear hK K
      refine roundN (m := m - 1) (by omega) ⟨_, k + 1, by omega, fun l hl => ?_, rfl, rfl⟩
      rcases Nat.lt_succ_iff_lt_or_eq.1 hl with h | rfl
      · exact hno l h
      · simpa using h2
  · refine Cd.exit (thenX (roundX (inBX ?_)))
    refine thenN ?_
    obtain rfl : k = n := by omega
    refine Cd.rs [6] fun K hK => ?_
    simp (maxSteps := 2000000) (disch := first | (simp only [E4, hl] <;> omega) | omega | fail) only [↓E2, E3, bare, bareJ, ↓E0, E1, evP, evPlan, env0, envN, evOps, evOp, evQs, evQ, evV, setD, pureOp, ev, upd, updL, gate, binW, eqOp, binV, intOp, shOp, boolOp, unV, convV, nilV, fieldAddrV, indexAddrV, extractV, cellAt, cellsAt, findB, setB, fillL, buildV, Value.cells, lenV, minV, maxV, hav, sliceV, loV, hiV, bslQ, mksQ, appQ, partsOk, partsCells, delB, eqL, SameI, strOp, apzQ, cvtQ, capV, ↓reduceIte, Zj, Zk, Nat.reduceAdd, Nat.reduceLT, Nat.reduceEqDiff, Nat.reduceMul, Nat.reduceLeDiff, if_true, Zn, reduceCtorEq, ZA, eq_self, Int.reduceLE, Int.reduceLT, Int.reduceToNat, ne_eq, Nat.reduceSub, hl]
    repeat refine And.intro (by omega) ?_
    intro g
    simp only [List.map_cons, List.map_nil, updL, upd, Nat.reduceEqDiff, if_true, if_false, ↓reduceIte]
    refine hK _ _ ?_; clear hK K
    refine Cd.ret ?_
    simp (maxSteps := 2000000) (disch := first | (simp only [E4, hl] <;> omega) | omega | fail) only [↓E2, E3, bare, bareJ, ↓E0, E1, evP, evPlan, env0, envN, evOps, evOp, evQs, evQ, evV, setD, pureOp, ev, upd, updL, gate, binW, eqOp, binV, intOp, shOp, boolOp, unV, convV, nilV, fieldAddrV, indexAddrV, extractV, cellAt, cellsAt, findB, setB, fillL, buildV, Value.cells, lenV, minV, maxV, hav, sliceV, loV, hiV, bslQ, mksQ, appQ, partsOk, partsCells, delB, eqL, SameI, strOp, apzQ, cvtQ, capV, ↓reduceIte, Zj, Zk, Nat.reduceAdd, Nat.reduceLT, Nat.reduceEqDiff, Nat.reduceMul, Nat.reduceLeDiff, if_true, Zn, reduceCtorEq, ZA, eq_self, Int.reduceLE, Int.reduceLT, Int.reduceToNat, ne_eq, Nat.reduceSub, hl]
    rw [rowOf_none hno]
    rfl

end Go.Proofs

/-
  What the functions of this part hand back: each as a plain function of its arguments. Conditions: none.
-/
namespace Go.Proofs
open Go.W8
set_option linter.unusedVariables false
set_option linter.unusedSimpArgs false
set_option linter.unusedSectionVars false
set_option maxRecDepth 8000
set_option maxHeartbeats 4000000
theorem n_c (s : Int) (x o : List Int) (hx : x.length = 8) (ho : o.length = 8) : Gives Try.prog 99 #[.agg (gc s x o).toArray] (.int .i64 s) := by
  refine Gives.of fun w => ?_
  refine acall_of (N := 5) (c := _) (rs := [.tmp 2]) (args := [_]) Try.func99 rfl (by decide) rfl rfl (Nat.le_of_ble_eq_true rfl) ?_
  refine Cd.rs [1] fun K hK => ?_
  simp (maxSteps := 2000000) (disch := first | omega | (simp only [E4, *] <;> omega) | fail) only [↓E0, E1, evP, evPlan, env0, envN, evOps, evOp, evQs, evQ, evV, setD, pureOp, ev, upd, updL, gate, binW, eqOp, binV, intOp, shOp, boolOp, unV, convV, nilV, fieldAddrV, indexAddrV, extractV, cellAt, cellsAt, findB, setB, fillL, buildV, Value.cells, lenV, minV, maxV, hav, sliceV, loV, hiV, bslQ, mksQ, appQ, partsOk, partsCells, delB, eqL, SameI, strOp, apzQ, cvtQ, capV, ↓reduceIte, Zj, Zk, Nat.reduceAdd, Nat.reduceLT, Nat.reduceEqDiff, Nat.reduceMul, Nat.reduceLeDiff, if_true, Zn, reduceCtorEq, ZA, eq_self, Int.reduceLE, Int.reduceLT, Int.reduceToNat, ne_eq, Nat.reduceSub]
  intro b1 hb1
  repeat refine And.intro (by omega) ?_
  intro g
  simp only [List.map_cons, List.map_nil, updL, upd, Nat.reduceEqDiff, if_true, if_false, ↓reduceIte]
  refine hK _ _ ?_; clear hK K
  refine Cd.rs [2] fun K hK => ?_
  simp (maxSteps := 2000000) (disch := first | omega | (simp only [E4, hx, ho, *] <;> omega) | fail) only [↓E0, E1, evP, evPlan, env0, envN, evOps, evOp, evQs, evQ, evV, setD, pureOp, ev, upd, updL, gate, binW, eqOp, binV, intOp, shOp, boolOp, unV, convV, nilV, fieldAddrV, indexAddrV, extractV, cellAt, cellsAt, findB, setB, fillL, buildV, Value.cells, lenV, minV, maxV, hav, sliceV, loV, hiV, bslQ, mksQ, appQ, partsOk, partsCells, delB, eqL, SameI, strOp, apzQ, cvtQ, capV, ↓reduceIte, Zj, Zk, Nat.reduceAdd, Nat.reduceLT, Nat.reduceEqDiff, Nat.reduceMul, Nat.reduceLeDiff, if_true, Zn, reduceCtorEq, ZA, eq_self, Int.reduceLE, Int.reduceLT, Int.reduceToNat, ne_eq, Nat.reduceSub, Tfld32_0, Tld2, hx, ho]
  repeat refine And.intro (by omega) ?_
  intro g
  simp only [List.map_cons, List.map_nil, updL, upd, Nat.reduceEqDiff, if_true, if_false, ↓reduceIte]
  refine hK _ _ ?_; clear hK K
  refine Cd.ret ?_
  simp (maxSteps := 2000000) (disch := first | omega | (simp only [E4, *] <;> omega) | fail) only [↓E0, E1, evP, evPlan, env0, envN, evOps, evOp, evQs, evQ, evV, setD, pureOp, ev, upd, updL, gate, binW, eqOp, binV, intOp, shOp, boolOp, unV, convV, nilV, fieldAddrV, indexAddrV, extractV, cellAt, cellsAt, findB, setB, fillL, buildV, Value.cells, lenV, minV, maxV, hav, sliceV, loV, hiV, bslQ, mksQ, appQ, partsOk, partsCells, delB, eqL, SameI, strOp, apzQ, cvtQ, capV, ↓reduceIte, Zj, Zk, Nat.reduceAdd, Nat.reduceLT, Nat.reduceEqDiff, Nat.reduceMul, Nat.reduceLeDiff, if_true, Zn, reduceCtorEq, ZA, eq_self, Int.reduceLE, Int.reduceLT, Int.reduceToNat, ne_eq, Nat.reduceSub]

theorem gridB_false {s : Int} {x o : List Int} (h : ¬ IsG s x o) : gridB s x o = false := decide_eq_false h
theorem gridB_true {s : Int} {x o : List Int} (h : IsG s x o) : gridB s x o = true := decide_eq_true h

theorem gridB_s {s : Int} {x o : List Int} (h : gridB s x o = true) : ∃ n : Nat, s = (n : Int) ∧ 2 ≤ n ∧ n ≤ 8 := by
  have := of_decide_eq_true h
  exact ⟨s.toNat, by have := this.1; omega, by have := this.1; omega, by have := this.2.1; omega⟩

theorem l01Is_c (s : Int) (x o : List Int) (hx : Bytes8 x) (ho : Bytes8 o) : Gives Try.prog 90 #[.agg (gc s x o).toArray] (.bool (gridB s x o)) := by
  have hl := hx.len
  have hm := ho.len
  refine Gives.of fun w => ?_
  refine acall_of (N := 39) (c := _) (rs := [.tmp 2]) (args := [_]) Try.func90 rfl (by decide) rfl rfl (Nat.le_of_ble_eq_true rfl) ?_
  refine Cd.rs [1] fun K hK => ?_
  simp (maxSteps := 2000000) (disch := first | omega | (simp only [E4, *] <;> omega) | fail) only [↓E0, E1, evP, evPlan, env0, envN, evOps, evOp, evQs, evQ, evV, setD, pureOp, ev, upd, updL, gate, binW, eqOp, binV, intOp, shOp, boolOp, unV, convV, nilV, fieldAddrV, indexAddrV, extractV, cellAt, cellsAt, findB, setB, fillL, buildV, Value.cells, lenV, minV, maxV, hav, sliceV, loV, hiV, bslQ, mksQ, appQ, partsOk, partsCells, delB, eqL, SameI, strOp, apzQ, cvtQ, capV, ↓reduceIte, Zj, Zk, Nat.reduceAdd, Nat.reduceLT, Nat.reduceEqDiff, Nat.reduceMul, Nat.reduceLeDiff, if_true, Zn, reduceCtorEq, ZA, eq_self, Int.reduceLE, Int.reduceLT, Int.reduceToNat, ne_eq, Nat.reduceSub]
  intro b1 hb1
  repeat refine And.intro (by omega) ?_
  intro g
  simp only [List.map_cons, List.map_nil, updL, upd, Nat.reduceEqDiff, if_true, if_false, ↓reduceIte]
  refine hK _ _ ?_; clear hK K
  refine Cd.seq ?_
  refine Cd.rs [1, 23] fun K hK => ?_
  have J : ∀ g b, (b = false ↔ (2 ≤ s ∧ s ≤ 8) ∧ IsPerm x s.toNat ∧ IsPerm o s.toNat) → K (updL [(1, .pointer (some ⟨b1, 0, none⟩)), (23, .bool b)] g) [(b1, gc s x o)] := by
    intro g b hb
    refine hK _ _ ?_
    clear hK K
    refine Cd.cond rfl (fun h1 => ?_) (fun h1 => ?_)
    · refine Cd.rs [2] fun K hK => ?_
      simp (maxSteps := 2000000) (disch := first | omega | (simp only [E4, *] <;> omega) | fail) only [↓E0, E1, evP, evPlan, env0, envN, evOps, evOp, evQs, evQ, evV, setD, pureOp, ev, upd, updL, gate, binW, eqOp, binV, intOp, shOp, boolOp, unV, convV, nilV, fieldAddrV, indexAddrV, extractV, cellAt, cellsAt, findB, setB, fillL, buildV, Value.cells, lenV, minV, maxV, hav, sliceV, loV, hiV, bslQ, mksQ, appQ, partsOk, partsCells, delB, eqL, SameI, strOp, apzQ, cvtQ, capV, ↓reduceIte, Zj, Zk, Nat.reduceAdd, Nat.reduceLT, Nat.reduceEqDiff, Nat.reduceMul, Nat.reduceLeDiff, if_true, Zn, reduceCtorEq, ZA, eq_self, Int.reduceLE, Int.reduceLT, Int.reduceToNat, ne_eq, Nat.reduceSub]
      repeat refine And.intro (by omega) ?_
      intro g
      simp only [List.map_cons, List.map_nil, updL, upd, Nat.reduceEqDiff, if_true, if_false, ↓reduceIte]
      refine hK _ _ ?_; clear hK K
      refine Cd.ret (thenR ?_)
      simp (maxSteps := 2000000) (disch := first | omega | (simp only [E4, *] <;> omega) | fail) only [↓E0, E1, evP, evPlan, env0, envN, evOps, evOp, evQs, evQ, evV, setD, pureOp, ev, upd, updL, gate, binW, eqOp, binV, intOp, shOp, boolOp, unV, convV, nilV, fieldAddrV, indexAddrV, extractV, cellAt, cellsAt, findB, setB, fillL, buildV, Value.cells, lenV, minV, maxV, hav, sliceV, loV, hiV, bslQ, mksQ, appQ, partsOk, partsCells, delB, eqL, SameI, strOp, apzQ, cvtQ, capV, ↓reduceIte, Zj, Zk, Nat.reduceAdd, Nat.reduceLT, Nat.reduceEqDiff, Nat.reduceMul, Nat.reduceLeDiff, if_true, Zn, reduceCtorEq, ZA, eq_self, Int.reduceLE, Int.reduceLT, Int.reduceToNat, ne_eq, Nat.reduceSub]
      exact congrArg Value.bool (gridB_false fun h => by rw [hb.2 ⟨⟨h.1, h.2.1⟩, h.2.2.1, h.2.2.2.1⟩] at h1; cases h1).symm
    · obtain ⟨hs, hpx, hpo⟩ := hb.1 h1
      obtain ⟨n, rfl⟩ : ∃ n : Nat, s = (n : Int) := ⟨s.toNat, by omega⟩
      rw [Int.toNat_natCast] at hpx hpo
      refine Cd.skip ?_
      refine thenN ?_
      refine Cd.seq ?_
      refine Cd.rs [1, 3] fun K hK => ?_
      simp (maxSteps := 2000000) (disch := first | omega | (simp only [E4, *] <;> omega) | fail) only [↓E0, E1, evP, evPlan, env0, envN, evOps, evOp, evQs, evQ, evV, setD, pureOp, ev, upd, updL, gate, binW, eqOp, binV, intOp, shOp, boolOp, unV, convV, nilV, fieldAddrV, indexAddrV, extractV, cellAt, cellsAt, findB, setB, fillL, buildV, Value.cells, lenV, minV, maxV, hav, sliceV, loV, hiV, bslQ, mksQ, appQ, partsOk, partsCells, delB, eqL, SameI, strOp, apzQ, cvtQ, capV, ↓reduceIte, Zj, Zk, Nat.reduceAdd, Nat.reduceLT, Nat.reduceEqDiff, Nat.reduceMul, Nat.reduceLeDiff, if_true, Zn, reduceCtorEq, ZA, eq_self, Int.reduceLE, Int.reduceLT, Int.reduceToNat, ne_eq, Nat.reduceSub]
      repeat refine And.intro (by omega) ?_
      intro g
      simp only [List.map_cons, List.map_nil, updL, upd, Nat.reduceEqDiff, if_true, if_false, ↓reduceIte]
      refine hK _ _ ?_; clear hK K
      refine Cd.block ?_
      refine Cd.loop (fun m ρ M => ∃ g k, k + m = n ∧ (∀ i, i < k → x.getD i 0 ≠ o.getD i 0) ∧ ρ = updL [(1, .pointer (some ⟨b1, 0, none⟩)), (3, .int .i64 (k : Int))] g ∧ M = [(b1, gc (n : Int) x o)]) n
        ⟨_, 0, Nat.zero_add _, (fun _ h => absurd h (Nat.not_lt_zero _)), rfl, rfl⟩ ?_
      rintro m ρ M ⟨g, k, hk, hd, rfl, rfl⟩
      refine Cd.seq ?_
      refine Cd.rs [1, 3, 27] fun K hK => ?_
      simp (maxSteps := 2000000) (disch := first | omega | (simp only [E4, hl, hm, *] <;> omega) | fail) only [↓E0, E1, evP, evPlan, env0, envN, evOps, evOp, evQs, evQ, evV, setD, pureOp, ev, upd, updL, gate, binW, eqOp, binV, intOp, shOp, boolOp, unV, convV, nilV, fieldAddrV, indexAddrV, extractV, cellAt, cellsAt, findB, setB, fillL, buildV, Value.cells, lenV, minV, maxV, hav, sliceV, loV, hiV, bslQ, mksQ, appQ, partsOk, partsCells, delB, eqL, SameI, strOp, apzQ, cvtQ, capV, ↓reduceIte, Zj, Zk, Nat.reduceAdd, Nat.reduceLT, Nat.reduceEqDiff, Nat.reduceMul, Nat.reduceLeDiff, if_true, Zn, reduceCtorEq, ZA, eq_self, Int.reduceLE, Int.reduceLT, Int.reduceToNat, ne_eq, Nat.reduceSub, Tfld32_0, Tld2, hl, hm]
      repeat refine And.intro (by omega) ?_
      intro g
      simp only [List.map_cons, List.map_nil, updL, upd, Nat.reduceEqDiff, if_true, if_false, ↓reduceIte]
      refine hK _ _ ?_; clear hK K
      refine Cd.condd rfl (fun h2 => ?_) (fun h2 => ?_)
      · refine Cd.skip ?_
        refine thenN ?_
        refine Cd.seq ?_
        refine Cd.block ?_
        refine Cd.qs [1, 3, 38] fol (by kernel_rfl) fun K hK => ?_
        simp (maxSteps := 2000000) (disch := first | omega | (simp only [E4, hl, hm, *] <;> omega) | fail) only [↓E0, E1, evP, evPlan, env0, envN, evOps, evOp, evQs, evQ, evV, setD, pureOp, ev, upd, updL, gate, binW, eqOp, binV, intOp, shOp, boolOp, unV, convV, nilV, fieldAddrV, indexAddrV, extractV, cellAt, cellsAt, findB, setB, fillL, buildV, Value.cells, lenV, minV, maxV, hav, sliceV, loV, hiV, bslQ, mksQ, appQ, partsOk, partsCells, delB, eqL, SameI, strOp, apzQ, cvtQ, capV, ↓reduceIte, Zj, Zk, Nat.reduceAdd, Nat.reduceLT, Nat.reduceEqDiff, Nat.reduceMul, Nat.reduceLeDiff, if_true, Zn, reduceCtorEq, ZA, eq_self, Int.reduceLE, Int.reduceLT, Int.reduceToNat, ne_eq, Nat.reduceSub, Tarr30, Tfld32_1, Tfld32_2, Tld5, hl, hm]
        repeat refine And.intro (by omega) ?_
        repeat refine And.intro (by omega) ?_
        intro g
        simp only [List.map_cons, List.map_nil, updL, upd, Nat.reduceEqDiff, if_true, if_false, ↓reduceIte]
        refine hK _ ?_; clear hK K
        refine Cd.cond rfl (fun h3 => ?_) (fun h3 => ?_)
        · refine Cd.rs [2] fun K hK => ?_
          simp (maxSteps := 2000000) (disch := first | omega | (simp only [E4, *] <;> omega) | fail) only [↓E0, E1, evP, evPlan, env0, envN, evOps, evOp, evQs, evQ, evV, setD, pureOp, ev, upd, updL, gate, binW, eqOp, binV, intOp, shOp, boolOp, unV, convV, nilV, fieldAddrV, indexAddrV, extractV, cellAt, cellsAt, findB, setB, fillL, buildV, Value.cells, lenV, minV, maxV, hav, sliceV, loV, hiV, bslQ, mksQ, appQ, partsOk, partsCells, delB, eqL, SameI, strOp, apzQ, cvtQ, capV, ↓reduceIte, Zj, Zk, Nat.reduceAdd, Nat.reduceLT, Nat.reduceEqDiff, Nat.reduceMul, Nat.reduceLeDiff, if_true, Zn, reduceCtorEq, ZA, eq_self, Int.reduceLE, Int.reduceLT, Int.reduceToNat, ne_eq, Nat.reduceSub]
          repeat refine And.intro (by omega) ?_
          intro g
          simp only [List.map_cons, List.map_nil, updL, upd, Nat.reduceEqDiff, if_true, if_false, ↓reduceIte]
          refine hK _ _ ?_; clear hK K
          refine Cd.ret (inBR (thenR (roundR (inBR (thenR ?_)))))
          simp (maxSteps := 2000000) (disch := first | omega | (simp only [E4, *] <;> omega) | fail) only [↓E0, E1, evP, evPlan, env0, envN, evOps, evOp, evQs, evQ, evV, setD, pureOp, ev, upd, updL, gate, binW, eqOp, binV, intOp, shOp, boolOp, unV, convV, nilV, fieldAddrV, indexAddrV, extractV, cellAt, cellsAt, findB, setB, fillL, buildV, Value.cells, lenV, minV, maxV, hav, sliceV, loV, hiV, bslQ, mksQ, appQ, partsOk, partsCells, delB, eqL, SameI, strOp, apzQ, cvtQ, capV, ↓reduceIte, Zj, Zk, Nat.reduceAdd, Nat.reduceLT, Nat.reduceEqDiff, Nat.reduceMul, Nat.reduceLeDiff, if_true, Zn, reduceCtorEq, ZA, eq_self, Int.reduceLE, Int.reduceLT, Int.reduceToNat, ne_eq, Nat.reduceSub]
          exact congrArg Value.bool (gridB_false fun h => h.2.2.2.2 k (by omega) (by simpa using h3)).symm
        · refine Cd.skip ?_
          refine inBN ?_
          refine thenN ?_
          refine Cd.rr [1, 3] fun K hK => ?_
          simp (maxSteps := 2000000) (disch := first | omega | (simp only [E4, *] <;> omega) | fail) only [↓E0, E1, evP, evPlan, env0, envN, evOps, evOp, evQs, evQ, evV, setD, pureOp, ev, upd, updL, gate, binW, eqOp, binV, intOp, shOp, boolOp, unV, convV, nilV, fieldAddrV, indexAddrV, extractV, cellAt, cellsAt, findB, setB, fillL, buildV, Value.cells, lenV, minV, maxV, hav, sliceV, loV, hiV, bslQ, mksQ, appQ, partsOk, partsCells, delB, eqL, SameI, strOp, apzQ, cvtQ, capV, ↓reduceIte, Zj, Zk, Nat.reduceAdd, Nat.reduceLT, Nat.reduceEqDiff, Nat.reduceMul, Nat.reduceLeDiff, if_true, Zn, reduceCtorEq, ZA, eq_self, Int.reduceLE, Int.reduceLT, Int.reduceToNat, ne_eq, Nat.reduceSub]
          repeat refine And.intro (by omega) ?_
          intro g
          simp only [List.map_cons, List.map_nil, updL, upd, Nat.reduceEqDiff, if_true, if_false, ↓reduceIte]
          refine hK _ _ ?_; clear hK K
          exact roundN (m := m - 1) (by omega) ⟨_, k + 1, by omega, fun i hi => by
            rcases Nat.lt_succ_iff_lt_or_eq.1 hi with h4 | rfl
            · exact hd i h4
            · simpa using h3, rfl, rfl⟩
      · refine Cd.exit (thenX (roundX (inBX ?_)))
        refine thenN ?_
        refine Cd.rs [2] fun K hK => ?_
        simp (maxSteps := 2000000) (disch := first | omega | (simp only [E4, *] <;> omega) | fail) only [↓E0, E1, evP, evPlan, env0, envN, evOps, evOp, evQs, evQ, evV, setD, pureOp, ev, upd, updL, gate, binW, eqOp, binV, intOp, shOp, boolOp, unV, convV, nilV, fieldAddrV, indexAddrV, extractV, cellAt, cellsAt, findB, setB, fillL, buildV, Value.cells, lenV, minV, maxV, hav, sliceV, loV, hiV, bslQ, mksQ, appQ, partsOk, partsCells, delB, eqL, SameI, strOp, apzQ, cvtQ, capV, ↓reduceIte, Zj, Zk, Nat.reduceAdd, Nat.reduceLT, Nat.reduceEqDiff, Nat.reduceMul, Nat.reduceLeDiff, if_true, Zn, reduceCtorEq, ZA, eq_self, Int.reduceLE, Int.reduceLT, Int.reduceToNat, ne_eq, Nat.reduceSub]
        repeat refine And.intro (by omega) ?_
        intro g
        simp only [List.map_cons, List.map_nil, updL, upd, Nat.reduceEqDiff, if_true, if_false, ↓reduceIte]
        refine hK _ _ ?_; clear hK K
        refine Cd.ret ?_
        simp (maxSteps := 2000000) (disch := first | omega | (simp only [E4, *] <;> omega) | fail) only [↓E0, E1, evP, evPlan, env0, envN, evOps, evOp, evQs, evQ, evV, setD, pureOp, ev, upd, updL, gate, binW, eqOp, binV, intOp, shOp, boolOp, unV, convV, nilV, fieldAddrV, indexAddrV, extractV, cellAt, cellsAt, findB, setB, fillL, buildV, Value.cells, lenV, minV, maxV, hav, sliceV, loV, hiV, bslQ, mksQ, appQ, partsOk, partsCells, delB, eqL, SameI, strOp, apzQ, cvtQ, capV, ↓reduceIte, Zj, Zk, Nat.reduceAdd, Nat.reduceLT, Nat.reduceEqDiff, Nat.reduceMul, Nat.reduceLeDiff, if_true, Zn, reduceCtorEq, ZA, eq_self, Int.reduceLE, Int.reduceLT, Int.reduceToNat, ne_eq, Nat.reduceSub]
        exact congrArg Value.bool (gridB_true ⟨hs.1, hs.2, hpx, hpo, fun i hi => hd i (by omega)⟩).symm
  clear hK
  simp (maxSteps := 2000000) (disch := first | omega | (simp only [E4, hl, hm, *] <;> omega) | fail) only [↓E0, E1, evP, evPlan, env0, envN, evOps, evOp, evQs, evQ, evV, setD, pureOp, ev, upd, updL, gate, binW, eqOp, binV, intOp, shOp, boolOp, unV, convV, nilV, fieldAddrV, indexAddrV, extractV, cellAt, cellsAt, findB, setB, fillL, buildV, Value.cells, lenV, minV, maxV, hav, sliceV, loV, hiV, bslQ, mksQ, appQ, partsOk, partsCells, delB, eqL, SameI, strOp, apzQ, cvtQ, capV, ↓reduceIte, Zj, Zk, Nat.reduceAdd, Nat.reduceLT, Nat.reduceEqDiff, Nat.reduceMul, Nat.reduceLeDiff, if_true, Zn, reduceCtorEq, ZA, eq_self, Int.reduceLE, Int.reduceLT, Int.reduceToNat, ne_eq, Nat.reduceSub, Tfld32_0, Tfld32_1, Tfld32_2, Tld2, Tld30, hl, hm]
  refine callK_gives (l01In_c _ _ _) ?_
  simp (maxSteps := 2000000) (disch := first | omega | (simp only [E4, hl, hm, *] <;> omega) | fail) only [↓E0, E1, evP, evPlan, env0, envN, evOps, evOp, evQs, evQ, evV, setD, pureOp, ev, upd, updL, gate, binW, eqOp, binV, intOp, shOp, boolOp, unV, convV, nilV, fieldAddrV, indexAddrV, extractV, cellAt, cellsAt, findB, setB, fillL, buildV, Value.cells, lenV, minV, maxV, hav, sliceV, loV, hiV, bslQ, mksQ, appQ, partsOk, partsCells, delB, eqL, SameI, strOp, apzQ, cvtQ, capV, ↓reduceIte, Zj, Zk, Nat.reduceAdd, Nat.reduceLT, Nat.reduceEqDiff, Nat.reduceMul, Nat.reduceLeDiff, if_true, Zn, reduceCtorEq, ZA, eq_self, Int.reduceLE, Int.reduceLT, Int.reduceToNat, ne_eq, Nat.reduceSub, Tfld32_0, Tfld32_1, Tfld32_2, Tld2, Tld30, hl, hm]
  refine ⟨fun h1 => ?_, fun h1 => ?_⟩
  · have hs : 2 ≤ s ∧ s ≤ 8 := by simpa using h1
    obtain ⟨n, rfl⟩ : ∃ n : Nat, s = (n : Int) := ⟨s.toNat, by omega⟩
    refine callK_gives (l01Perm_c x n hx (by omega)) ?_
    simp (maxSteps := 2000000) (disch := first | omega | (simp only [E4, hl, hm, *] <;> omega) | fail) only [↓E0, E1, evP, evPlan, env0, envN, evOps, evOp, evQs, evQ, evV, setD, pureOp, ev, upd, updL, gate, binW, eqOp, binV, intOp, shOp, boolOp, unV, convV, nilV, fieldAddrV, indexAddrV, extractV, cellAt, cellsAt, findB, setB, fillL, buildV, Value.cells, lenV, minV, maxV, hav, sliceV, loV, hiV, bslQ, mksQ, appQ, partsOk, partsCells, delB, eqL, SameI, strOp, apzQ, cvtQ, capV, ↓reduceIte, Zj, Zk, Nat.reduceAdd, Nat.reduceLT, Nat.reduceEqDiff, Nat.reduceMul, Nat.reduceLeDiff, if_true, Zn, reduceCtorEq, ZA, eq_self, Int.reduceLE, Int.reduceLT, Int.reduceToNat, ne_eq, Nat.reduceSub, Tfld32_0, Tfld32_1, Tfld32_2, Tld2, Tld30, hl, hm]
    refine ⟨fun h2 => ?_, fun h2 => ?_⟩
    · refine callK_gives (l01Perm_c o n ho (by omega)) ?_
      simp (maxSteps := 2000000) (disch := first | omega | (simp only [E4, hl, hm, *] <;> omega) | fail) only [↓E0, E1, evP, evPlan, env0, envN, evOps, evOp, evQs, evQ, evV, setD, pureOp, ev, upd, updL, gate, binW, eqOp, binV, intOp, shOp, boolOp, unV, convV, nilV, fieldAddrV, indexAddrV, extractV, cellAt, cellsAt, findB, setB, fillL, buildV, Value.cells, lenV, minV, maxV, hav, sliceV, loV, hiV, bslQ, mksQ, appQ, partsOk, partsCells, delB, eqL, SameI, strOp, apzQ, cvtQ, capV, ↓reduceIte, Zj, Zk, Nat.reduceAdd, Nat.reduceLT, Nat.reduceEqDiff, Nat.reduceMul, Nat.reduceLeDiff, if_true, Zn, reduceCtorEq, ZA, eq_self, Int.reduceLE, Int.reduceLT, Int.reduceToNat, ne_eq, Nat.reduceSub, Tfld32_0, Tfld32_1, Tfld32_2, Tld2, Tld30, hl, hm]
      repeat refine And.intro (by omega) ?_
      intro g
      simp only [List.map_cons, List.map_nil, updL, upd, Nat.reduceEqDiff, if_true, if_false, ↓reduceIte]
      refine J g _ ?_
      simp at h2
      simp [h2, hs]
    · repeat refine And.intro (by omega) ?_
      intro g
      simp only [List.map_cons, List.map_nil, updL, upd, Nat.reduceEqDiff, if_true, if_false, ↓reduceIte]
      refine J g _ ?_
      simp at h2
      simp [h2]
  · repeat refine And.intro (by omega) ?_
    intro g
    simp only [List.map_cons, List.map_nil, updL, upd, Nat.reduceEqDiff, if_true, if_false, ↓reduceIte]
    refine J g _ ?_
    simp at h1
    simp
    omega

/-- The mask of the entries ahead of k. -/
def maskL (x : List Int) (n k : Nat) : Nat := mask (fun i => (x.getD i 0).toNat) (min k n)
theorem maskL_zero (x : List Int) (n : Nat) : maskL x n 0 = 0 := by simp [maskL, mask]
theorem maskL_succ {x : List Int} {n k : Nat} (h : k < n) : maskL x n (k + 1) = maskL x n k ||| 2 ^ (x.getD k 0).toNat := by
  unfold maskL
  rw [Nat.min_eq_left (by omega), Nat.min_eq_left (by omega)]
  rfl
theorem maskL_over {x : List Int} {n k : Nat} (h : n ≤ k) : maskL x n (k + 1) = maskL x n k := by
  unfold maskL
  rw [Nat.min_eq_right (by omega), Nat.min_eq_right (by omega)]

/-- All is well with the entries ahead of k, but that one may come twice. -/
def FitTo (x : List Int) (n k : Nat) : Prop := ∀ i, i < k → x.getD i 0 < n ∧ (n ≤ i → x.getD i 0 = 0)

theorem mask_end {x : List Int} {n : Nat} (hx : Bytes8 x) (hn : n ≤ 8) (hd : FitTo x n 8) : ((maskL x n 8 : Int) == IntKind.wrap .i64 (((2 ^ n : Nat) : Int) - 1)) = decide (IsPerm x n) := by
  have hj2 : 2 ^ n ≤ 2 ^ 8 := Nat.pow_le_pow_right (by omega) hn
  have hp : 0 < 2 ^ n := Nat.two_pow_pos n
  have hf : ∀ i, i < n → (x.getD i 0).toNat < n := fun i hi => by have := (hd i (by omega)).1; have := (bytes_get hx (i := i) (by omega)).1; omega
  have hm := mask_full (f := fun i => (x.getD i 0).toNat) hf
  have e : maskL x n 8 = mask (fun i => (x.getD i 0).toNat) n := by unfold maskL; rw [Nat.min_eq_right hn]
  rw [e]
  have hw : IntKind.wrap .i64 (((2 ^ n : Nat) : Int) - 1) = ((2 ^ n - 1 : Nat) : Int) := by
    generalize 2 ^ n = m at hj2 hp
    rw [wrap_i64 (by omega) (by omega)]
    omega
  rw [hw]
  have hiff : ((mask (fun i => (x.getD i 0).toNat) n : Int) = ((2 ^ n - 1 : Nat) : Int)) ↔ IsPerm x n := by
    rw [Int.ofNat_inj, hm, perm_iff hn]
    constructor
    · intro h i hi
      refine ⟨fun hin => ⟨(hd i hi).1, fun j hj he => h i hin j hj (by rw [he])⟩, (hd i hi).2⟩
    · intro h i hi j hj he
      have h1 := bytes_get hx (i := i) (by omega)
      have h2 := bytes_get hx (i := j) (by omega)
      exact ((h i (by omega)).1 hi).2 j hj (by omega)
  by_cases h : IsPerm x n
  · rw [decide_eq_true h, hiff.2 h]; simp
  · rw [decide_eq_false h]
    exact beq_eq_false_iff_ne.2 fun he => h (hiff.1 he)

theorem isOrder_c (b o cap : Nat) (x : List Int) (n : Nat) (hx : Bytes8 x) (h2 : 2 ≤ n) (hn : n ≤ 8) : GivesR Try.prog 102 #[.slice (some ⟨b, o, none⟩) 8 cap, .int .i64 (n : Int)] [(b, o, ints .u8 x)] (.bool (decide (IsPerm x n))) := by
  have hl := hx.len
  refine GivesR.of (callable_of Try.func102 rfl (by decide)) fun w hR => ?_
  refine acall_of (N := 41) (c := _) (rs := [.tmp 4]) (args := [_, _]) Try.func102 rfl (by decide) rfl rfl (Nat.le_of_ble_eq_true rfl) ?_
  have hR := (told_ints hR).1
  rw [hl] at hR
  refine Cd.rs [0, 1] fun K hK => ?_
  simp (maxSteps := 2000000) (disch := first | omega | (simp only [E4, *] <;> omega) | fail) only [↓E0, E1, evP, evPlan, env0, envN, evOps, evOp, evQs, evQ, evV, setD, pureOp, ev, upd, updL, gate, binW, eqOp, binV, intOp, shOp, boolOp, unV, convV, nilV, fieldAddrV, indexAddrV, extractV, cellAt, cellsAt, findB, setB, fillL, buildV, Value.cells, lenV, minV, maxV, hav, sliceV, loV, hiV, bslQ, mksQ, appQ, partsOk, partsCells, delB, eqL, SameI, strOp, apzQ, cvtQ, capV, ↓reduceIte, Zj, Zk, Nat.reduceAdd, Nat.reduceLT, Nat.reduceEqDiff, Nat.reduceMul, Nat.reduceLeDiff, if_true, Zn, reduceCtorEq, ZA, eq_self, Int.reduceLE, Int.reduceLT, Int.reduceToNat, ne_eq, Nat.reduceSub]
  repeat refine And.intro (by omega) ?_
  intro g
  simp only [List.map_cons, List.map_nil, updL, upd, Nat.reduceEqDiff, if_true, if_false, ↓reduceIte]
  refine hK _ _ ?_; clear hK K
  refine Cd.rs [0, 1, 5] fun K hK => ?_
  simp (maxSteps := 2000000) (disch := first | omega | (simp only [E4, *] <;> omega) | fail) only [↓E0, E1, evP, evPlan, env0, envN, evOps, evOp, evQs, evQ, evV, setD, pureOp, ev, upd, updL, gate, binW, eqOp, binV, intOp, shOp, boolOp, unV, convV, nilV, fieldAddrV, indexAddrV, extractV, cellAt, cellsAt, findB, setB, fillL, buildV, Value.cells, lenV, minV, maxV, hav, sliceV, loV, hiV, bslQ, mksQ, appQ, partsOk, partsCells, delB, eqL, SameI, strOp, apzQ, cvtQ, capV, ↓reduceIte, Zj, Zk, Nat.reduceAdd, Nat.reduceLT, Nat.reduceEqDiff, Nat.reduceMul, Nat.reduceLeDiff, if_true, Zn, reduceCtorEq, ZA, eq_self, Int.reduceLE, Int.reduceLT, Int.reduceToNat, ne_eq, Nat.reduceSub]
  repeat refine And.intro (by omega) ?_
  intro g
  simp only [List.map_cons, List.map_nil, updL, upd, Nat.reduceEqDiff, if_true, if_false, ↓reduceIte]
  refine hK _ _ ?_; clear hK K
  refine Cd.seq ?_
  refine Cd.rs [1, 5, 8, 9, 10] fun K hK => ?_
  simp (maxSteps := 2000000) (disch := first | omega | (simp only [E4, *] <;> omega) | fail) only [↓E0, E1, evP, evPlan, env0, envN, evOps, evOp, evQs, evQ, evV, setD, pureOp, ev, upd, updL, gate, binW, eqOp, binV, intOp, shOp, boolOp, unV, convV, nilV, fieldAddrV, indexAddrV, extractV, cellAt, cellsAt, findB, setB, fillL, buildV, Value.cells, lenV, minV, maxV, hav, sliceV, loV, hiV, bslQ, mksQ, appQ, partsOk, partsCells, delB, eqL, SameI, strOp, apzQ, cvtQ, capV, ↓reduceIte, Zj, Zk, Nat.reduceAdd, Nat.reduceLT, Nat.reduceEqDiff, Nat.reduceMul, Nat.reduceLeDiff, if_true, Zn, reduceCtorEq, ZA, eq_self, Int.reduceLE, Int.reduceLT, Int.reduceToNat, ne_eq, Nat.reduceSub, Tslce28]
  repeat refine And.intro (by omega) ?_
  intro g
  simp only [List.map_cons, List.map_nil, updL, upd, Nat.reduceEqDiff, if_true, if_false, ↓reduceIte]
  refine hK _ _ ?_; clear hK K
  refine Cd.block ?_
  refine Cd.loop (fun m ρ M => ∃ g k, k + m = 8 ∧ FitTo x n k ∧ ρ = updL [(1, .int .i64 (n : Int)), (5, .int .i64 (maskL x n k : Int)), (8, .slice (some ⟨b, o, none⟩) 8 cap), (9, .int .i64 8), (10, .int .i64 (k : Int))] g ∧ M = []) 8
    ⟨_, 0, Nat.zero_add _, (fun _ h => absurd h (Nat.not_lt_zero _)), by rw [maskL_zero]; rfl, rfl⟩ ?_
  rintro m ρ M ⟨g, k, hk, hd, rfl, rfl⟩
  refine Cd.rs [1, 5, 8, 9, 10, 11] fun K hK => ?_
  simp (maxSteps := 2000000) (disch := first | omega | (simp only [E4, *] <;> omega) | fail) only [↓E0, E1, evP, evPlan, env0, envN, evOps, evOp, evQs, evQ, evV, setD, pureOp, ev, upd, updL, gate, binW, eqOp, binV, intOp, shOp, boolOp, unV, convV, nilV, fieldAddrV, indexAddrV, extractV, cellAt, cellsAt, findB, setB, fillL, buildV, Value.cells, lenV, minV, maxV, hav, sliceV, loV, hiV, bslQ, mksQ, appQ, partsOk, partsCells, delB, eqL, SameI, strOp, apzQ, cvtQ, capV, ↓reduceIte, Zj, Zk, Nat.reduceAdd, Nat.reduceLT, Nat.reduceEqDiff, Nat.reduceMul, Nat.reduceLeDiff, if_true, Zn, reduceCtorEq, ZA, eq_self, Int.reduceLE, Int.reduceLT, Int.reduceToNat, ne_eq, Nat.reduceSub]
  repeat refine And.intro (by omega) ?_
  intro g
  simp only [List.map_cons, List.map_nil, updL, upd, Nat.reduceEqDiff, if_true, if_false, ↓reduceIte]
  refine hK _ _ ?_; clear hK K
  refine Cd.seq ?_
  refine Cd.condd rfl (fun h1 => ?_) (fun h1 => ?_)
  · have hb := bytes_get hx (i := k) (by omega)
    refine Cd.skip ?_
    refine thenN ?_
    refine Cd.seq ?_
    refine Cd.block ?_
    refine Cd.rs [1, 5, 6, 7, 8, 9, 10] fun K hK => ?_
    simp (maxSteps := 2000000) (disch := first | omega | (simp only [E4, hR, *] <;> omega) | fail) only [↓E0, E1, evP, evPlan, env0, envN, evOps, evOp, evQs, evQ, evV, setD, pureOp, ev, upd, updL, gate, binW, eqOp, binV, intOp, shOp, boolOp, unV, convV, nilV, fieldAddrV, indexAddrV, extractV, cellAt, cellsAt, findB, setB, fillL, buildV, Value.cells, lenV, minV, maxV, hav, sliceV, loV, hiV, bslQ, mksQ, appQ, partsOk, partsCells, delB, eqL, SameI, strOp, apzQ, cvtQ, capV, ↓reduceIte, Zj, Zk, Nat.reduceAdd, Nat.reduceLT, Nat.reduceEqDiff, Nat.reduceMul, Nat.reduceLeDiff, if_true, Zn, reduceCtorEq, ZA, eq_self, Int.reduceLE, Int.reduceLT, Int.reduceToNat, ne_eq, Nat.reduceSub, Tld5, Tslc28, hR]
    repeat refine And.intro (by omega) ?_
    repeat refine And.intro (by omega) ?_
    intro g
    simp only [List.map_cons, List.map_nil, updL, upd, Nat.reduceEqDiff, if_true, if_false, ↓reduceIte]
    refine hK _ _ ?_; clear hK K
    refine Cd.seq ?_
    refine Cd.rs [1, 5, 6, 7, 8, 9, 10, 27] fun K hK => ?_
    have J : ∀ g b', (b' = false ↔ x.getD k 0 < n ∧ (n ≤ k → x.getD k 0 = 0)) → K (updL [(1, .int .i64 (n : Int)), (5, .int .i64 (maskL x n k : Int)), (6, .int .i64 (k : Int)), (7, .int .u8 (x.getD k 0)), (8, .slice (some ⟨b, o, none⟩) 8 cap), (9, .int .i64 8), (10, .int .i64 (k : Int)), (27, .bool b')] g) [] := by
      intro g b' hb'
      refine hK _ _ ?_
      clear hK K
      refine Cd.cond rfl (fun h3 => ?_) (fun h3 => ?_)
      · refine Cd.rs [4] fun K hK => ?_
        simp (maxSteps := 2000000) (disch := first | omega | (simp only [E4, *] <;> omega) | fail) only [↓E0, E1, evP, evPlan, env0, envN, evOps, evOp, evQs, evQ, evV, setD, pureOp, ev, upd, updL, gate, binW, eqOp, binV, intOp, shOp, boolOp, unV, convV, nilV, fieldAddrV, indexAddrV, extractV, cellAt, cellsAt, findB, setB, fillL, buildV, Value.cells, lenV, minV, maxV, hav, sliceV, loV, hiV, bslQ, mksQ, appQ, partsOk, partsCells, delB, eqL, SameI, strOp, apzQ, cvtQ, capV, ↓reduceIte, Zj, Zk, Nat.reduceAdd, Nat.reduceLT, Nat.reduceEqDiff, Nat.reduceMul, Nat.reduceLeDiff, if_true, Zn, reduceCtorEq, ZA, eq_self, Int.reduceLE, Int.reduceLT, Int.reduceToNat, ne_eq, Nat.reduceSub]
        repeat refine And.intro (by omega) ?_
        intro g
        simp only [List.map_cons, List.map_nil, updL, upd, Nat.reduceEqDiff, if_true, if_false, ↓reduceIte]
        refine hK _ _ ?_; clear hK K
        refine Cd.ret (thenR (inBR (thenR (roundR (inBR (thenR ?_))))))
        simp (maxSteps := 2000000) (disch := first | omega | (simp only [E4, *] <;> omega) | fail) only [↓E0, E1, evP, evPlan, env0, envN, evOps, evOp, evQs, evQ, evV, setD, pureOp, ev, upd, updL, gate, binW, eqOp, binV, intOp, shOp, boolOp, unV, convV, nilV, fieldAddrV, indexAddrV, extractV, cellAt, cellsAt, findB, setB, fillL, buildV, Value.cells, lenV, minV, maxV, hav, sliceV, loV, hiV, bslQ, mksQ, appQ, partsOk, partsCells, delB, eqL, SameI, strOp, apzQ, cvtQ, capV, ↓reduceIte, Zj, Zk, Nat.reduceAdd, Nat.reduceLT, Nat.reduceEqDiff, Nat.reduceMul, Nat.reduceLeDiff, if_true, Zn, reduceCtorEq, ZA, eq_self, Int.reduceLE, Int.reduceLT, Int.reduceToNat, ne_eq, Nat.reduceSub]
        refine congrArg Value.bool (decide_eq_false fun h => ?_).symm
        have : b' = false := hb'.2 (by
          have := (perm_iff hn).1 h k (by omega)
          by_cases hkn : k < n
          · exact ⟨(this.1 hkn).1, fun h => absurd h (by omega)⟩
          · exact ⟨by rw [this.2 (by omega)]; omega, this.2⟩)
        rw [this] at h3; cases h3
      · obtain ⟨h4, h5⟩ := hb'.1 h3
        have hd' : FitTo x n (k + 1) := fun i hi => by
          rcases Nat.lt_succ_iff_lt_or_eq.1 hi with h6 | rfl
          · exact hd i h6
          · exact ⟨h4, h5⟩
        refine Cd.skip ?_
        refine thenN ?_
        refine Cd.rs [1, 5, 7, 8, 9, 10, 30] fun K hK => ?_
        simp (maxSteps := 2000000) (disch := first | omega | (simp only [E4, *] <;> omega) | fail) only [↓E0, E1, evP, evPlan, env0, envN, evOps, evOp, evQs, evQ, evV, setD, pureOp, ev, upd, updL, gate, binW, eqOp, binV, intOp, shOp, boolOp, unV, convV, nilV, fieldAddrV, indexAddrV, extractV, cellAt, cellsAt, findB, setB, fillL, buildV, Value.cells, lenV, minV, maxV, hav, sliceV, loV, hiV, bslQ, mksQ, appQ, partsOk, partsCells, delB, eqL, SameI, strOp, apzQ, cvtQ, capV, ↓reduceIte, Zj, Zk, Nat.reduceAdd, Nat.reduceLT, Nat.reduceEqDiff, Nat.reduceMul, Nat.reduceLeDiff, if_true, Zn, reduceCtorEq, ZA, eq_self, Int.reduceLE, Int.reduceLT, Int.reduceToNat, ne_eq, Nat.reduceSub]
        repeat refine And.intro (by omega) ?_
        intro g
        simp only [List.map_cons, List.map_nil, updL, upd, Nat.reduceEqDiff, if_true, if_false, ↓reduceIte]
        refine hK _ _ ?_; clear hK K
        refine Cd.condd rfl (fun h3 => ?_) (fun h3 => ?_)
        · obtain ⟨j, hj⟩ : ∃ j : Nat, x.getD k 0 = (j : Int) := ⟨(x.getD k 0).toNat, by omega⟩
          have hm : maskL x n k < 2 ^ n := mask_lt fun i hi => by have := (hd i (by omega)).1; omega
          have hm2 : 2 ^ n ≤ 2 ^ 8 := Nat.pow_le_pow_right (by omega) hn
          have hj2 : 2 ^ j ≤ 2 ^ 8 := Nat.pow_le_pow_right (by omega) (by omega)
          refine Cd.rr [1, 5, 8, 9, 10] fun K hK => ?_
          simp (maxSteps := 2000000) (disch := first | omega | (simp only [E4, hj, shOp, shl_i64, *] <;> omega) | fail) only [↓E0, E1, evP, evPlan, env0, envN, evOps, evOp, evQs, evQ, evV, setD, pureOp, ev, upd, updL, gate, binW, eqOp, binV, intOp, shOp, boolOp, unV, convV, nilV, fieldAddrV, indexAddrV, extractV, cellAt, cellsAt, findB, setB, fillL, buildV, Value.cells, lenV, minV, maxV, hav, sliceV, loV, hiV, bslQ, mksQ, appQ, partsOk, partsCells, delB, eqL, SameI, strOp, apzQ, cvtQ, capV, ↓reduceIte, Zj, Zk, Nat.reduceAdd, Nat.reduceLT, Nat.reduceEqDiff, Nat.reduceMul, Nat.reduceLeDiff, if_true, Zn, reduceCtorEq, ZA, eq_self, Int.reduceLE, Int.reduceLT, Int.reduceToNat, ne_eq, Nat.reduceSub, hj, shOp, shl_i64]
          repeat refine And.intro (by omega) ?_
          rw [or_i64 (by omega) (by omega)]
          have e : maskL x n k ||| 2 ^ j = maskL x n (k + 1) := by rw [maskL_succ (by omega), hj]; rfl
          rw [e]
          repeat refine And.intro (by omega) ?_
          intro g
          simp only [List.map_cons, List.map_nil, updL, upd, Nat.reduceEqDiff, if_true, if_false, ↓reduceIte]
          refine hK _ _ ?_; clear hK K
          refine inBN ?_
          refine thenN ?_
          refine Cd.rr [1, 5, 8, 9, 10] fun K hK => ?_
          simp (maxSteps := 2000000) (disch := first | omega | (simp only [E4, *] <;> omega) | fail) only [↓E0, E1, evP, evPlan, env0, envN, evOps, evOp, evQs, evQ, evV, setD, pureOp, ev, upd, updL, gate, binW, eqOp, binV, intOp, shOp, boolOp, unV, convV, nilV, fieldAddrV, indexAddrV, extractV, cellAt, cellsAt, findB, setB, fillL, buildV, Value.cells, lenV, minV, maxV, hav, sliceV, loV, hiV, bslQ, mksQ, appQ, partsOk, partsCells, delB, eqL, SameI, strOp, apzQ, cvtQ, capV, ↓reduceIte, Zj, Zk, Nat.reduceAdd, Nat.reduceLT, Nat.reduceEqDiff, Nat.reduceMul, Nat.reduceLeDiff, if_true, Zn, reduceCtorEq, ZA, eq_self, Int.reduceLE, Int.reduceLT, Int.reduceToNat, ne_eq, Nat.reduceSub]
          repeat refine And.intro (by omega) ?_
          intro g
          simp only [List.map_cons, List.map_nil, updL, upd, Nat.reduceEqDiff, if_true, if_false, ↓reduceIte]
          refine hK _ _ ?_; clear hK K
          exact roundN (m := m - 1) (by omega) ⟨_, k + 1, by omega, hd', rfl, rfl⟩
        · refine Cd.skip ?_
          refine inBN ?_
          refine thenN ?_
          refine Cd.rr [1, 5, 8, 9, 10] fun K hK => ?_
          simp (maxSteps := 2000000) (disch := first | omega | (simp only [E4, *] <;> omega) | fail) only [↓E0, E1, evP, evPlan, env0, envN, evOps, evOp, evQs, evQ, evV, setD, pureOp, ev, upd, updL, gate, binW, eqOp, binV, intOp, shOp, boolOp, unV, convV, nilV, fieldAddrV, indexAddrV, extractV, cellAt, cellsAt, findB, setB, fillL, buildV, Value.cells, lenV, minV, maxV, hav, sliceV, loV, hiV, bslQ, mksQ, appQ, partsOk, partsCells, delB, eqL, SameI, strOp, apzQ, cvtQ, capV, ↓reduceIte, Zj, Zk, Nat.reduceAdd, Nat.reduceLT, Nat.reduceEqDiff, Nat.reduceMul, Nat.reduceLeDiff, if_true, Zn, reduceCtorEq, ZA, eq_self, Int.reduceLE, Int.reduceLT, Int.reduceToNat, ne_eq, Nat.reduceSub]
          repeat refine And.intro (by omega) ?_
          intro g
          simp only [List.map_cons, List.map_nil, updL, upd, Nat.reduceEqDiff, if_true, if_false, ↓reduceIte]
          refine hK _ _ ?_; clear hK K
          exact roundN (m := m - 1) (by omega) ⟨_, k + 1, by omega, hd', by rw [maskL_over (by omega)]; rfl, rfl⟩
    clear hK
    simp (maxSteps := 2000000) (disch := first | omega | (simp only [E4, *] <;> omega) | fail) only [↓E0, E1, evP, evPlan, env0, envN, evOps, evOp, evQs, evQ, evV, setD, pureOp, ev, upd, updL, gate, binW, eqOp, binV, intOp, shOp, boolOp, unV, convV, nilV, fieldAddrV, indexAddrV, extractV, cellAt, cellsAt, findB, setB, fillL, buildV, Value.cells, lenV, minV, maxV, hav, sliceV, loV, hiV, bslQ, mksQ, appQ, partsOk, partsCells, delB, eqL, SameI, strOp, apzQ, cvtQ, capV, ↓reduceIte, Zj, Zk, Nat.reduceAdd, Nat.reduceLT, Nat.reduceEqDiff, Nat.reduceMul, Nat.reduceLeDiff, if_true, Zn, reduceCtorEq, ZA, eq_self, Int.reduceLE, Int.reduceLT, Int.reduceToNat, ne_eq, Nat.reduceSub, Tint3, Tpar5]
    refine ⟨fun h3 => ?_, fun h3 => ?_⟩
    · skip
      refine ⟨fun h4 => ?_, fun h4 => ?_⟩
      · repeat refine And.intro (by omega) ?_
        intro g
        simp only [List.map_cons, List.map_nil, updL, upd, Nat.reduceEqDiff, if_true, if_false, ↓reduceIte]
        refine J _ _ ?_
        simp at h4 ⊢
        omega
      · repeat refine And.intro (by omega) ?_
        intro g
        simp only [List.map_cons, List.map_nil, updL, upd, Nat.reduceEqDiff, if_true, if_false, ↓reduceIte]
        refine J _ _ ?_
        simp at h4 ⊢
        omega
    · have h3 := of_decide_eq_false h3
      repeat refine And.intro (by omega) ?_
      intro g
      simp only [List.map_cons, List.map_nil, updL, upd, Nat.reduceEqDiff, if_true, if_false, ↓reduceIte]
      refine J _ _ ?_
      simp
      omega
  · refine Cd.exit (thenX (roundX (inBX ?_)))
    refine thenN ?_
    obtain rfl : k = 8 := by omega
    refine Cd.rs [4] fun K hK => ?_
    have hj2 : 2 ^ n ≤ 2 ^ 8 := Nat.pow_le_pow_right (by omega) hn
    simp (maxSteps := 2000000) (disch := first | omega | (simp only [E4, shOp, shl_i64, *] <;> omega) | fail) only [↓E0, E1, evP, evPlan, env0, envN, evOps, evOp, evQs, evQ, evV, setD, pureOp, ev, upd, updL, gate, binW, eqOp, binV, intOp, shOp, boolOp, unV, convV, nilV, fieldAddrV, indexAddrV, extractV, cellAt, cellsAt, findB, setB, fillL, buildV, Value.cells, lenV, minV, maxV, hav, sliceV, loV, hiV, bslQ, mksQ, appQ, partsOk, partsCells, delB, eqL, SameI, strOp, apzQ, cvtQ, capV, ↓reduceIte, Zj, Zk, Nat.reduceAdd, Nat.reduceLT, Nat.reduceEqDiff, Nat.reduceMul, Nat.reduceLeDiff, if_true, Zn, reduceCtorEq, ZA, eq_self, Int.reduceLE, Int.reduceLT, Int.reduceToNat, ne_eq, Nat.reduceSub, shOp, shl_i64]
    repeat refine And.intro (by omega) ?_
    repeat refine And.intro (by omega) ?_
    intro g
    simp only [List.map_cons, List.map_nil, updL, upd, Nat.reduceEqDiff, if_true, if_false, ↓reduceIte]
    refine hK _ _ ?_; clear hK K
    refine Cd.ret ?_
    simp (maxSteps := 2000000) (disch := first | omega | (simp only [E4, *] <;> omega) | fail) only [↓E0, E1, evP, evPlan, env0, envN, evOps, evOp, evQs, evQ, evV, setD, pureOp, ev, upd, updL, gate, binW, eqOp, binV, intOp, shOp, boolOp, unV, convV, nilV, fieldAddrV, indexAddrV, extractV, cellAt, cellsAt, findB, setB, fillL, buildV, Value.cells, lenV, minV, maxV, hav, sliceV, loV, hiV, bslQ, mksQ, appQ, partsOk, partsCells, delB, eqL, SameI, strOp, apzQ, cvtQ, capV, ↓reduceIte, Zj, Zk, Nat.reduceAdd, Nat.reduceLT, Nat.reduceEqDiff, Nat.reduceMul, Nat.reduceLeDiff, if_true, Zn, reduceCtorEq, ZA, eq_self, Int.reduceLE, Int.reduceLT, Int.reduceToNat, ne_eq, Nat.reduceSub]
    exact congrArg Value.bool (mask_end hx hn hd)

theorem IsGrid_c (s : Int) (x o : List Int) (hx : Bytes8 x) (ho : Bytes8 o) : Gives Try.prog 33 #[.agg (gc s x o).toArray] (.bool (gridB s x o)) := by
  have hl := hx.len
  have hm := ho.len
  refine Gives.of fun w => ?_
  refine acall_of (N := 39) (c := _) (rs := [.tmp 2]) (args := [_]) Try.func33 rfl (by decide) rfl rfl (Nat.le_of_ble_eq_true rfl) ?_
  refine Cd.rs [1] fun K hK => ?_
  simp (maxSteps := 2000000) (disch := first | omega | (simp only [E4, *] <;> omega) | fail) only [↓E0, E1, evP, evPlan, env0, envN, evOps, evOp, evQs, evQ, evV, setD, pureOp, ev, upd, updL, gate, binW, eqOp, binV, intOp, shOp, boolOp, unV, convV, nilV, fieldAddrV, indexAddrV, extractV, cellAt, cellsAt, findB, setB, fillL, buildV, Value.cells, lenV, minV, maxV, hav, sliceV, loV, hiV, bslQ, mksQ, appQ, partsOk, partsCells, delB, eqL, SameI, strOp, apzQ, cvtQ, capV, ↓reduceIte, Zj, Zk, Nat.reduceAdd, Nat.reduceLT, Nat.reduceEqDiff, Nat.reduceMul, Nat.reduceLeDiff, if_true, Zn, reduceCtorEq, ZA, eq_self, Int.reduceLE, Int.reduceLT, Int.reduceToNat, ne_eq, Nat.reduceSub]
  intro b1 hb1
  repeat refine And.intro (by omega) ?_
  intro g
  simp only [List.map_cons, List.map_nil, updL, upd, Nat.reduceEqDiff, if_true, if_false, ↓reduceIte]
  refine hK _ _ ?_; clear hK K
  refine Cd.seq ?_
  refine Cd.qs [1, 23] fol (by kernel_rfl) fun K hK => ?_
  have J : ∀ g b, (b = false ↔ (2 ≤ s ∧ s ≤ 8) ∧ IsPerm x s.toNat ∧ IsPerm o s.toNat) → K (updL [(1, .pointer (some ⟨b1, 0, none⟩)), (23, .bool b)] g) := by
    intro g b hb
    refine hK _ ?_
    clear hK K
    refine Cd.cond rfl (fun h1 => ?_) (fun h1 => ?_)
    · refine Cd.rs [2] fun K hK => ?_
      simp (maxSteps := 2000000) (disch := first | omega | (simp only [E4, *] <;> omega) | fail) only [↓E0, E1, evP, evPlan, env0, envN, evOps, evOp, evQs, evQ, evV, setD, pureOp, ev, upd, updL, gate, binW, eqOp, binV, intOp, shOp, boolOp, unV, convV, nilV, fieldAddrV, indexAddrV, extractV, cellAt, cellsAt, findB, setB, fillL, buildV, Value.cells, lenV, minV, maxV, hav, sliceV, loV, hiV, bslQ, mksQ, appQ, partsOk, partsCells, delB, eqL, SameI, strOp, apzQ, cvtQ, capV, ↓reduceIte, Zj, Zk, Nat.reduceAdd, Nat.reduceLT, Nat.reduceEqDiff, Nat.reduceMul, Nat.reduceLeDiff, if_true, Zn, reduceCtorEq, ZA, eq_self, Int.reduceLE, Int.reduceLT, Int.reduceToNat, ne_eq, Nat.reduceSub]
      repeat refine And.intro (by omega) ?_
      intro g
      simp only [List.map_cons, List.map_nil, updL, upd, Nat.reduceEqDiff, if_true, if_false, ↓reduceIte]
      refine hK _ _ ?_; clear hK K
      refine Cd.ret (thenR ?_)
      simp (maxSteps := 2000000) (disch := first | omega | (simp only [E4, *] <;> omega) | fail) only [↓E0, E1, evP, evPlan, env0, envN, evOps, evOp, evQs, evQ, evV, setD, pureOp, ev, upd, updL, gate, binW, eqOp, binV, intOp, shOp, boolOp, unV, convV, nilV, fieldAddrV, indexAddrV, extractV, cellAt, cellsAt, findB, setB, fillL, buildV, Value.cells, lenV, minV, maxV, hav, sliceV, loV, hiV, bslQ, mksQ, appQ, partsOk, partsCells, delB, eqL, SameI, strOp, apzQ, cvtQ, capV, ↓reduceIte, Zj, Zk, Nat.reduceAdd, Nat.reduceLT, Nat.reduceEqDiff, Nat.reduceMul, Nat.reduceLeDiff, if_true, Zn, reduceCtorEq, ZA, eq_self, Int.reduceLE, Int.reduceLT, Int.reduceToNat, ne_eq, Nat.reduceSub]
      exact congrArg Value.bool (gridB_false fun h => by rw [hb.2 ⟨⟨h.1, h.2.1⟩, h.2.2.1, h.2.2.2.1⟩] at h1; cases h1).symm
    · obtain ⟨hs, hpx, hpo⟩ := hb.1 h1
      obtain ⟨n, rfl⟩ : ∃ n : Nat, s = (n : Int) := ⟨s.toNat, by omega⟩
      rw [Int.toNat_natCast] at hpx hpo
      refine Cd.skip ?_
      refine thenN ?_
      refine Cd.seq ?_
      refine Cd.rs [1, 25, 26] fun K hK => ?_
      simp (maxSteps := 2000000) (disch := first | omega | (simp only [E4, hl, hm, *] <;> omega) | fail) only [↓E0, E1, evP, evPlan, env0, envN, evOps, evOp, evQs, evQ, evV, setD, pureOp, ev, upd, updL, gate, binW, eqOp, binV, intOp, shOp, boolOp, unV, convV, nilV, fieldAddrV, indexAddrV, extractV, cellAt, cellsAt, findB, setB, fillL, buildV, Value.cells, lenV, minV, maxV, hav, sliceV, loV, hiV, bslQ, mksQ, appQ, partsOk, partsCells, delB, eqL, SameI, strOp, apzQ, cvtQ, capV, ↓reduceIte, Zj, Zk, Nat.reduceAdd, Nat.reduceLT, Nat.reduceEqDiff, Nat.reduceMul, Nat.reduceLeDiff, if_true, Zn, reduceCtorEq, ZA, eq_self, Int.reduceLE, Int.reduceLT, Int.reduceToNat, ne_eq, Nat.reduceSub, Tld32, hl, hm]
      refine callK_gives (n_c _ x o hl hm) ?_
      simp (maxSteps := 2000000) (disch := first | omega | (simp only [E4, *] <;> omega) | fail) only [↓E0, E1, evP, evPlan, env0, envN, evOps, evOp, evQs, evQ, evV, setD, pureOp, ev, upd, updL, gate, binW, eqOp, binV, intOp, shOp, boolOp, unV, convV, nilV, fieldAddrV, indexAddrV, extractV, cellAt, cellsAt, findB, setB, fillL, buildV, Value.cells, lenV, minV, maxV, hav, sliceV, loV, hiV, bslQ, mksQ, appQ, partsOk, partsCells, delB, eqL, SameI, strOp, apzQ, cvtQ, capV, ↓reduceIte, Zj, Zk, Nat.reduceAdd, Nat.reduceLT, Nat.reduceEqDiff, Nat.reduceMul, Nat.reduceLeDiff, if_true, Zn, reduceCtorEq, ZA, eq_self, Int.reduceLE, Int.reduceLT, Int.reduceToNat, ne_eq, Nat.reduceSub, Tld32]
      repeat refine And.intro (by omega) ?_
      intro g
      simp only [List.map_cons, List.map_nil, updL, upd, Nat.reduceEqDiff, if_true, if_false, ↓reduceIte]
      refine hK _ _ ?_; clear hK K
      refine Cd.block ?_
      refine Cd.loop (fun m ρ M => ∃ g k, k + m = n ∧ (∀ i, i < k → x.getD i 0 ≠ o.getD i 0) ∧ ρ = updL [(1, .pointer (some ⟨b1, 0, none⟩)), (25, .int .i64 (n : Int)), (26, .int .i64 (k : Int))] g ∧ M = [(b1, gc (n : Int) x o)]) n
        ⟨_, 0, Nat.zero_add _, (fun _ h => absurd h (Nat.not_lt_zero _)), rfl, rfl⟩ ?_
      rintro m ρ M ⟨g, k, hk, hd, rfl, rfl⟩
      refine Cd.rs [1, 25, 26, 27] fun K hK => ?_
      simp (maxSteps := 2000000) (disch := first | omega | (simp only [E4, hl, hm, *] <;> omega) | fail) only [↓E0, E1, evP, evPlan, env0, envN, evOps, evOp, evQs, evQ, evV, setD, pureOp, ev, upd, updL, gate, binW, eqOp, binV, intOp, shOp, boolOp, unV, convV, nilV, fieldAddrV, indexAddrV, extractV, cellAt, cellsAt, findB, setB, fillL, buildV, Value.cells, lenV, minV, maxV, hav, sliceV, loV, hiV, bslQ, mksQ, appQ, partsOk, partsCells, delB, eqL, SameI, strOp, apzQ, cvtQ, capV, ↓reduceIte, Zj, Zk, Nat.reduceAdd, Nat.reduceLT, Nat.reduceEqDiff, Nat.reduceMul, Nat.reduceLeDiff, if_true, Zn, reduceCtorEq, ZA, eq_self, Int.reduceLE, Int.reduceLT, Int.reduceToNat, ne_eq, Nat.reduceSub, hl, hm]
      repeat refine And.intro (by omega) ?_
      intro g
      simp only [List.map_cons, List.map_nil, updL, upd, Nat.reduceEqDiff, if_true, if_false, ↓reduceIte]
      refine hK _ _ ?_; clear hK K
      refine Cd.seq ?_
      refine Cd.condd rfl (fun h2 => ?_) (fun h2 => ?_)
      · refine Cd.skip ?_
        refine thenN ?_
        refine Cd.seq ?_
        refine Cd.block ?_
        refine Cd.rs [1, 3, 25, 26] fun K hK => ?_
        simp (maxSteps := 2000000) (disch := first | omega | (simp only [E4, *] <;> omega) | fail) only [↓E0, E1, evP, evPlan, env0, envN, evOps, evOp, evQs, evQ, evV, setD, pureOp, ev, upd, updL, gate, binW, eqOp, binV, intOp, shOp, boolOp, unV, convV, nilV, fieldAddrV, indexAddrV, extractV, cellAt, cellsAt, findB, setB, fillL, buildV, Value.cells, lenV, minV, maxV, hav, sliceV, loV, hiV, bslQ, mksQ, appQ, partsOk, partsCells, delB, eqL, SameI, strOp, apzQ, cvtQ, capV, ↓reduceIte, Zj, Zk, Nat.reduceAdd, Nat.reduceLT, Nat.reduceEqDiff, Nat.reduceMul, Nat.reduceLeDiff, if_true, Zn, reduceCtorEq, ZA, eq_self, Int.reduceLE, Int.reduceLT, Int.reduceToNat, ne_eq, Nat.reduceSub]
        repeat refine And.intro (by omega) ?_
        intro g
        simp only [List.map_cons, List.map_nil, updL, upd, Nat.reduceEqDiff, if_true, if_false, ↓reduceIte]
        refine hK _ _ ?_; clear hK K
        refine Cd.qs [1, 25, 26, 37] fol (by kernel_rfl) fun K hK => ?_
        simp (maxSteps := 2000000) (disch := first | omega | (simp only [E4, hl, hm, *] <;> omega) | fail) only [↓E0, E1, evP, evPlan, env0, envN, evOps, evOp, evQs, evQ, evV, setD, pureOp, ev, upd, updL, gate, binW, eqOp, binV, intOp, shOp, boolOp, unV, convV, nilV, fieldAddrV, indexAddrV, extractV, cellAt, cellsAt, findB, setB, fillL, buildV, Value.cells, lenV, minV, maxV, hav, sliceV, loV, hiV, bslQ, mksQ, appQ, partsOk, partsCells, delB, eqL, SameI, strOp, apzQ, cvtQ, capV, ↓reduceIte, Zj, Zk, Nat.reduceAdd, Nat.reduceLT, Nat.reduceEqDiff, Nat.reduceMul, Nat.reduceLeDiff, if_true, Zn, reduceCtorEq, ZA, eq_self, Int.reduceLE, Int.reduceLT, Int.reduceToNat, ne_eq, Nat.reduceSub, Tarr30, Tfld32_1, Tfld32_2, Tld5, hl, hm]
        repeat refine And.intro (by omega) ?_
        repeat refine And.intro (by omega) ?_
        intro g
        simp only [List.map_cons, List.map_nil, updL, upd, Nat.reduceEqDiff, if_true, if_false, ↓reduceIte]
        refine hK _ ?_; clear hK K
        refine Cd.cond rfl (fun h3 => ?_) (fun h3 => ?_)
        · refine Cd.rs [2] fun K hK => ?_
          simp (maxSteps := 2000000) (disch := first | omega | (simp only [E4, *] <;> omega) | fail) only [↓E0, E1, evP, evPlan, env0, envN, evOps, evOp, evQs, evQ, evV, setD, pureOp, ev, upd, updL, gate, binW, eqOp, binV, intOp, shOp, boolOp, unV, convV, nilV, fieldAddrV, indexAddrV, extractV, cellAt, cellsAt, findB, setB, fillL, buildV, Value.cells, lenV, minV, maxV, hav, sliceV, loV, hiV, bslQ, mksQ, appQ, partsOk, partsCells, delB, eqL, SameI, strOp, apzQ, cvtQ, capV, ↓reduceIte, Zj, Zk, Nat.reduceAdd, Nat.reduceLT, Nat.reduceEqDiff, Nat.reduceMul, Nat.reduceLeDiff, if_true, Zn, reduceCtorEq, ZA, eq_self, Int.reduceLE, Int.reduceLT, Int.reduceToNat, ne_eq, Nat.reduceSub]
          repeat refine And.intro (by omega) ?_
          intro g
          simp only [List.map_cons, List.map_nil, updL, upd, Nat.reduceEqDiff, if_true, if_false, ↓reduceIte]
          refine hK _ _ ?_; clear hK K
          refine Cd.ret (inBR (thenR (roundR (inBR (thenR ?_)))))
          simp (maxSteps := 2000000) (disch := first | omega | (simp only [E4, *] <;> omega) | fail) only [↓E0, E1, evP, evPlan, env0, envN, evOps, evOp, evQs, evQ, evV, setD, pureOp, ev, upd, updL, gate, binW, eqOp, binV, intOp, shOp, boolOp, unV, convV, nilV, fieldAddrV, indexAddrV, extractV, cellAt, cellsAt, findB, setB, fillL, buildV, Value.cells, lenV, minV, maxV, hav, sliceV, loV, hiV, bslQ, mksQ, appQ, partsOk, partsCells, delB, eqL, SameI, strOp, apzQ, cvtQ, capV, ↓reduceIte, Zj, Zk, Nat.reduceAdd, Nat.reduceLT, Nat.reduceEqDiff, Nat.reduceMul, Nat.reduceLeDiff, if_true, Zn, reduceCtorEq, ZA, eq_self, Int.reduceLE, Int.reduceLT, Int.reduceToNat, ne_eq, Nat.reduceSub]
          exact congrArg Value.bool (gridB_false fun h => h.2.2.2.2 k (by omega) (by simpa using h3)).symm
        · refine Cd.skip ?_
          refine inBN ?_
          refine thenN ?_
          refine Cd.rr [1, 25, 26] fun K hK => ?_
          simp (maxSteps := 2000000) (disch := first | omega | (simp only [E4, *] <;> omega) | fail) only [↓E0, E1, evP, evPlan, env0, envN, evOps, evOp, evQs, evQ, evV, setD, pureOp, ev, upd, updL, gate, binW, eqOp, binV, intOp, shOp, boolOp, unV, convV, nilV, fieldAddrV, indexAddrV, extractV, cellAt, cellsAt, findB, setB, fillL, buildV, Value.cells, lenV, minV, maxV, hav, sliceV, loV, hiV, bslQ, mksQ, appQ, partsOk, partsCells, delB, eqL, SameI, strOp, apzQ, cvtQ, capV, ↓reduceIte, Zj, Zk, Nat.reduceAdd, Nat.reduceLT, Nat.reduceEqDiff, Nat.reduceMul, Nat.reduceLeDiff, if_true, Zn, reduceCtorEq, ZA, eq_self, Int.reduceLE, Int.reduceLT, Int.reduceToNat, ne_eq, Nat.reduceSub]
          repeat refine And.intro (by omega) ?_
          intro g
          simp only [List.map_cons, List.map_nil, updL, upd, Nat.reduceEqDiff, if_true, if_false, ↓reduceIte]
          refine hK _ _ ?_; clear hK K
          exact roundN (m := m - 1) (by omega) ⟨_, k + 1, by omega, fun i hi => by
            rcases Nat.lt_succ_iff_lt_or_eq.1 hi with h4 | rfl
            · exact hd i h4
            · simpa using h3, rfl, rfl⟩
      · refine Cd.exit (thenX (roundX (inBX ?_)))
        refine thenN ?_
        refine Cd.rs [2] fun K hK => ?_
        simp (maxSteps := 2000000) (disch := first | omega | (simp only [E4, *] <;> omega) | fail) only [↓E0, E1, evP, evPlan, env0, envN, evOps, evOp, evQs, evQ, evV, setD, pureOp, ev, upd, updL, gate, binW, eqOp, binV, intOp, shOp, boolOp, unV, convV, nilV, fieldAddrV, indexAddrV, extractV, cellAt, cellsAt, findB, setB, fillL, buildV, Value.cells, lenV, minV, maxV, hav, sliceV, loV, hiV, bslQ, mksQ, appQ, partsOk, partsCells, delB, eqL, SameI, strOp, apzQ, cvtQ, capV, ↓reduceIte, Zj, Zk, Nat.reduceAdd, Nat.reduceLT, Nat.reduceEqDiff, Nat.reduceMul, Nat.reduceLeDiff, if_true, Zn, reduceCtorEq, ZA, eq_self, Int.reduceLE, Int.reduceLT, Int.reduceToNat, ne_eq, Nat.reduceSub]
        repeat refine And.intro (by omega) ?_
        intro g
        simp only [List.map_cons, List.map_nil, updL, upd, Nat.reduceEqDiff, if_true, if_false, ↓reduceIte]
        refine hK _ _ ?_; clear hK K
        refine Cd.ret ?_
        simp (maxSteps := 2000000) (disch := first | omega | (simp only [E4, *] <;> omega) | fail) only [↓E0, E1, evP, evPlan, env0, envN, evOps, evOp, evQs, evQ, evV, setD, pureOp, ev, upd, updL, gate, binW, eqOp, binV, intOp, shOp, boolOp, unV, convV, nilV, fieldAddrV, indexAddrV, extractV, cellAt, cellsAt, findB, setB, fillL, buildV, Value.cells, lenV, minV, maxV, hav, sliceV, loV, hiV, bslQ, mksQ, appQ, partsOk, partsCells, delB, eqL, SameI, strOp, apzQ, cvtQ, capV, ↓reduceIte, Zj, Zk, Nat.reduceAdd, Nat.reduceLT, Nat.reduceEqDiff, Nat.reduceMul, Nat.reduceLeDiff, if_true, Zn, reduceCtorEq, ZA, eq_self, Int.reduceLE, Int.reduceLT, Int.reduceToNat, ne_eq, Nat.reduceSub]
        exact congrArg Value.bool (gridB_true ⟨hs.1, hs.2, hpx, hpo, fun i hi => hd i (by omega)⟩).symm
  clear hK
  simp (maxSteps := 2000000) (disch := first | omega | (simp only [E4, hl, hm, *] <;> omega) | fail) only [↓E0, E1, evP, evPlan, env0, envN, evOps, evOp, evQs, evQ, evV, setD, pureOp, ev, upd, updL, gate, binW, eqOp, binV, intOp, shOp, boolOp, unV, convV, nilV, fieldAddrV, indexAddrV, extractV, cellAt, cellsAt, findB, setB, fillL, buildV, Value.cells, lenV, minV, maxV, hav, sliceV, loV, hiV, bslQ, mksQ, appQ, partsOk, partsCells, delB, eqL, SameI, strOp, apzQ, cvtQ, capV, ↓reduceIte, Zj, Zk, Nat.reduceAdd, Nat.reduceLT, Nat.reduceEqDiff, Nat.reduceMul, Nat.reduceLeDiff, if_true, Zn, reduceCtorEq, ZA, eq_self, Int.reduceLE, Int.reduceLT, Int.reduceToNat, ne_eq, Nat.reduceSub, Tarr30, Tfld32_0, Tfld32_1, Tfld32_2, Tld2, Tld32, hl, hm]
  refine callQ_gives (within_c _ _ _) ?_
  simp (maxSteps := 2000000) (disch := first | omega | (simp only [E4, hl, hm, *] <;> omega) | fail) only [↓E0, E1, evP, evPlan, env0, envN, evOps, evOp, evQs, evQ, evV, setD, pureOp, ev, upd, updL, gate, binW, eqOp, binV, intOp, shOp, boolOp, unV, convV, nilV, fieldAddrV, indexAddrV, extractV, cellAt, cellsAt, findB, setB, fillL, buildV, Value.cells, lenV, minV, maxV, hav, sliceV, loV, hiV, bslQ, mksQ, appQ, partsOk, partsCells, delB, eqL, SameI, strOp, apzQ, cvtQ, capV, ↓reduceIte, Zj, Zk, Nat.reduceAdd, Nat.reduceLT, Nat.reduceEqDiff, Nat.reduceMul, Nat.reduceLeDiff, if_true, Zn, reduceCtorEq, ZA, eq_self, Int.reduceLE, Int.reduceLT, Int.reduceToNat, ne_eq, Nat.reduceSub, Tarr30, Tfld32_0, Tfld32_1, Tfld32_2, Tld2, Tld32, hl, hm]
  refine ⟨fun h1 => ?_, fun h1 => ?_⟩
  · have hs : 2 ≤ s ∧ s ≤ 8 := by simpa using h1
    obtain ⟨n, rfl⟩ : ∃ n : Nat, s = (n : Int) := ⟨s.toNat, by omega⟩
    refine callQ_gives (n_c _ x o hl hm) ?_
    simp (maxSteps := 2000000) (disch := first | omega | (simp only [E4, *] <;> omega) | fail) only [↓E0, E1, evP, evPlan, env0, envN, evOps, evOp, evQs, evQ, evV, setD, pureOp, ev, upd, updL, gate, binW, eqOp, binV, intOp, shOp, boolOp, unV, convV, nilV, fieldAddrV, indexAddrV, extractV, cellAt, cellsAt, findB, setB, fillL, buildV, Value.cells, lenV, minV, maxV, hav, sliceV, loV, hiV, bslQ, mksQ, appQ, partsOk, partsCells, delB, eqL, SameI, strOp, apzQ, cvtQ, capV, ↓reduceIte, Zj, Zk, Nat.reduceAdd, Nat.reduceLT, Nat.reduceEqDiff, Nat.reduceMul, Nat.reduceLeDiff, if_true, Zn, reduceCtorEq, ZA, eq_self, Int.reduceLE, Int.reduceLT, Int.reduceToNat, ne_eq, Nat.reduceSub, Tarr30, Tfld32_0, Tfld32_1, Tfld32_2, Tld2, Tld32]
    refine callQ_reads (isOrder_c b1 1 8 x n hx (by omega) (by omega)) (.cons (.sub (cs := gc (n : Int) x o) (by simp [findB]) (by rw [ints_length, hl]; exact sub_gc_x hl)) .nil) ?_
    simp (maxSteps := 2000000) (disch := first | omega | (simp only [E4, hl, hm, *] <;> omega) | fail) only [↓E0, E1, evP, evPlan, env0, envN, evOps, evOp, evQs, evQ, evV, setD, pureOp, ev, upd, updL, gate, binW, eqOp, binV, intOp, shOp, boolOp, unV, convV, nilV, fieldAddrV, indexAddrV, extractV, cellAt, cellsAt, findB, setB, fillL, buildV, Value.cells, lenV, minV, maxV, hav, sliceV, loV, hiV, bslQ, mksQ, appQ, partsOk, partsCells, delB, eqL, SameI, strOp, apzQ, cvtQ, capV, ↓reduceIte, Zj, Zk, Nat.reduceAdd, Nat.reduceLT, Nat.reduceEqDiff, Nat.reduceMul, Nat.reduceLeDiff, if_true, Zn, reduceCtorEq, ZA, eq_self, Int.reduceLE, Int.reduceLT, Int.reduceToNat, ne_eq, Nat.reduceSub, Tarr30, Tfld32_0, Tfld32_1, Tfld32_2, Tld2, Tld32, hl, hm]
    refine ⟨fun h2 => ?_, fun h2 => ?_⟩
    · refine callQ_gives (n_c _ x o hl hm) ?_
      simp (maxSteps := 2000000) (disch := first | omega | (simp only [E4, *] <;> omega) | fail) only [↓E0, E1, evP, evPlan, env0, envN, evOps, evOp, evQs, evQ, evV, setD, pureOp, ev, upd, updL, gate, binW, eqOp, binV, intOp, shOp, boolOp, unV, convV, nilV, fieldAddrV, indexAddrV, extractV, cellAt, cellsAt, findB, setB, fillL, buildV, Value.cells, lenV, minV, maxV, hav, sliceV, loV, hiV, bslQ, mksQ, appQ, partsOk, partsCells, delB, eqL, SameI, strOp, apzQ, cvtQ, capV, ↓reduceIte, Zj, Zk, Nat.reduceAdd, Nat.reduceLT, Nat.reduceEqDiff, Nat.reduceMul, Nat.reduceLeDiff, if_true, Zn, reduceCtorEq, ZA, eq_self, Int.reduceLE, Int.reduceLT, Int.reduceToNat, ne_eq, Nat.reduceSub, Tarr30, Tfld32_0, Tfld32_1, Tfld32_2, Tld2, Tld32]
      refine callQ_reads (isOrder_c b1 9 8 o n ho (by omega) (by omega)) (.cons (.sub (cs := gc (n : Int) x o) (by simp [findB]) (by rw [ints_length, hm]; exact sub_gc_o hl hm)) .nil) ?_
      simp (maxSteps := 2000000) (disch := first | omega | (simp only [E4, hl, hm, *] <;> omega) | fail) only [↓E0, E1, evP, evPlan, env0, envN, evOps, evOp, evQs, evQ, evV, setD, pureOp, ev, upd, updL, gate, binW, eqOp, binV, intOp, shOp, boolOp, unV, convV, nilV, fieldAddrV, indexAddrV, extractV, cellAt, cellsAt, findB, setB, fillL, buildV, Value.cells, lenV, minV, maxV, hav, sliceV, loV, hiV, bslQ, mksQ, appQ, partsOk, partsCells, delB, eqL, SameI, strOp, apzQ, cvtQ, capV, ↓reduceIte, Zj, Zk, Nat.reduceAdd, Nat.reduceLT, Nat.reduceEqDiff, Nat.reduceMul, Nat.reduceLeDiff, if_true, Zn, reduceCtorEq, ZA, eq_self, Int.reduceLE, Int.reduceLT, Int.reduceToNat, ne_eq, Nat.reduceSub, Tarr30, Tfld32_0, Tfld32_1, Tfld32_2, Tld2, Tld32, hl, hm]
      repeat refine And.intro (by omega) ?_
      intro g
      simp only [List.map_cons, List.map_nil, updL, upd, Nat.reduceEqDiff, if_true, if_false, ↓reduceIte]
      refine J g _ ?_
      simp at h2
      simp [h2, hs]
    · repeat refine And.intro (by omega) ?_
      intro g
      simp only [List.map_cons, List.map_nil, updL, upd, Nat.reduceEqDiff, if_true, if_false, ↓reduceIte]
      refine J g _ ?_
      simp at h2
      simp [h2]
  · repeat refine And.intro (by omega) ?_
    intro g
    simp only [List.map_cons, List.map_nil, updL, upd, Nat.reduceEqDiff, if_true, if_false, ↓reduceIte]
    refine J g _ ?_
    simp at h1
    simp
    omega

end Go.Proofs

/-
  What the functions of this part hand back: each as a plain function of its arguments. Conditions: none.
-/
namespace Go.Proofs
open Go.W8
set_option linter.unusedVariables false
set_option linter.unusedSimpArgs false
set_option linter.unusedSectionVars false
set_option maxRecDepth 8000
set_option maxHeartbeats 4000000
/-- Two spans have no end in common, and lie beside or within each other. -/
def freeB (a b c d : Int) : Bool := !(a == c || a == d || b == c || b == d) && ((decide (min a b < c) && decide (c < max a b)) == (decide (min a b < d) && decide (d < max a b)))

theorem min_if (a b : Int) : (if b < a then b else a) = min a b := by omega
theorem max_if (a b : Int) : (if b > a then b else a) = max a b := by omega

end Go.Proofs

/-
  What the functions of this part hand back: each as a plain function of its arguments. Conditions: none.
-/
namespace Go.Proofs
open Go.W8
set_option linter.unusedVariables false
set_option linter.unusedSimpArgs false
set_option linter.unusedSectionVars false
set_option maxRecDepth 8000
set_option maxHeartbeats 4000000
theorem gridB_perm {s : Int} {x o : List Int} (h : gridB s x o = true) : ∃ n : Nat, s = (n : Int) ∧ 2 ≤ n ∧ n ≤ 8 ∧ IsPerm x n ∧ IsPerm o n := by
  have := of_decide_eq_true h
  exact ⟨s.toNat, by have := this.1; omega, by have := this.1; omega, by have := this.2.1; omega, this.2.2.1, this.2.2.2.1⟩

end Go.Proofs

/-
  What the functions of this part hand back: each as a plain function of its arguments. Conditions: none.
-/
namespace Go.Proofs
open Go.W8
set_option linter.unusedVariables false
set_option linter.unusedSimpArgs false
set_option linter.unusedSectionVars false
set_option maxRecDepth 8000
set_option maxHeartbeats 4000000
theorem places_c (n : Nat) (x o y : List Int) (hx : Bytes8 x) (ho : Bytes8 o) (hy : Bytes8 y) (hn : n ≤ 8) (hp : IsPerm y n) : Gives Try.prog 166 #[.agg (gc (n : Int) x o).toArray, .agg (ints .u8 y).toArray] (.agg (ints .i64 (plc y n)).toArray) := by
  have hl := hx.len
  have hm := ho.len
  have hz := hy.len
  have pl := plcTo_len y n
  skip
  refine Gives.of fun w => ?_
  refine acall_of (N := 20) (c := _) (rs := [.cell 4 100]) (args := [_, _]) Try.func166 rfl (by decide) rfl rfl (Nat.le_of_ble_eq_true rfl) ?_
  refine Cd.rs [2, 3, 4] fun K hK => ?_
  simp (maxSteps := 2000000) (disch := first | (simp only [E4, hl, hm, hz, pl] <;> omega) | omega | fail) only [↓E2, E3, bare, bareJ, ↓E0, E1, evP, evPlan, env0, envN, evOps, evOp, evQs, evQ, evV, setD, pureOp, ev, upd, updL, gate, binW, eqOp, binV, intOp, shOp, boolOp, unV, convV, nilV, fieldAddrV, indexAddrV, extractV, cellAt, cellsAt, findB, setB, fillL, buildV, Value.cells, lenV, minV, maxV, hav, sliceV, loV, hiV, bslQ, mksQ, appQ, partsOk, partsCells, delB, eqL, SameI, strOp, apzQ, cvtQ, capV, ↓reduceIte, Zj, Zk, Nat.reduceAdd, Nat.reduceLT, Nat.reduceEqDiff, Nat.reduceMul, Nat.reduceLeDiff, if_true, Zn, reduceCtorEq, ZA, eq_self, Int.reduceLE, Int.reduceLT, Int.reduceToNat, ne_eq, Nat.reduceSub, Tzero100, hl, hm, hz, pl]
  repeat refine And.intro (by omega) ?_
  intro b1 hb1
  intro b2 hb2
  have nb2_b1 := hb2.ne
  intro b3 hb3
  have nb3_b2 := hb3.ne
  have nb3_b1 := hb3.tail.ne
  try simp (maxSteps := 2000000) (disch := first | (simp only [E4, hl, hm, hz, pl, nb2_b1, nb3_b2, nb3_b1] <;> omega) | omega | fail) only [↓E2, E3, bare, bareJ, ↓E0, E1, evP, evPlan, env0, envN, evOps, evOp, evQs, evQ, evV, setD, pureOp, ev, upd, updL, gate, binW, eqOp, binV, intOp, shOp, boolOp, unV, convV, nilV, fieldAddrV, indexAddrV, extractV, cellAt, cellsAt, findB, setB, fillL, buildV, Value.cells, lenV, minV, maxV, hav, sliceV, loV, hiV, bslQ, mksQ, appQ, partsOk, partsCells, delB, eqL, SameI, strOp, apzQ, cvtQ, capV, ↓reduceIte, Zj, Zk, Nat.reduceAdd, Nat.reduceLT, Nat.reduceEqDiff, Nat.reduceMul, Nat.reduceLeDiff, if_true, Zn, reduceCtorEq, ZA, eq_self, Int.reduceLE, Int.reduceLT, Int.reduceToNat, ne_eq, Nat.reduceSub, Tzero100, hl, hm, hz, pl, nb2_b1, nb3_b2, nb3_b1]
  repeat refine And.intro (by omega) ?_
  intro g
  simp only [List.map_cons, List.map_nil, updL, upd, Nat.reduceEqDiff, if_true, if_false, ↓reduceIte]
  refine hK _ _ ?_; clear hK K
  refine Cd.rs [2, 3, 4, 5] fun K hK => ?_
  simp (maxSteps := 2000000) (disch := first | (simp only [E4, hl, hm, hz, pl, nb2_b1, nb3_b2, nb3_b1] <;> omega) | omega | fail) only [↓E2, E3, bare, bareJ, ↓E0, E1, evP, evPlan, env0, envN, evOps, evOp, evQs, evQ, evV, setD, pureOp, ev, upd, updL, gate, binW, eqOp, binV, intOp, shOp, boolOp, unV, convV, nilV, fieldAddrV, indexAddrV, extractV, cellAt, cellsAt, findB, setB, fillL, buildV, Value.cells, lenV, minV, maxV, hav, sliceV, loV, hiV, bslQ, mksQ, appQ, partsOk, partsCells, delB, eqL, SameI, strOp, apzQ, cvtQ, capV, ↓reduceIte, Zj, Zk, Nat.reduceAdd, Nat.reduceLT, Nat.reduceEqDiff, Nat.reduceMul, Nat.reduceLeDiff, if_true, Zn, reduceCtorEq, ZA, eq_self, Int.reduceLE, Int.reduceLT, Int.reduceToNat, ne_eq, Nat.reduceSub, Tbld100, Tst100, Tzero100, hl, hm, hz, pl, nb2_b1, nb3_b2, nb3_b1]
  repeat refine And.intro (by omega) ?_
  intro b4 hb4
  have nb4_b3 := hb4.ne
  have nb4_b2 := hb4.tail.ne
  have nb4_b1 := hb4.tail.tail.ne
  try simp (maxSteps := 2000000) (disch := first | (simp only [E4, hl, hm, hz, pl, nb2_b1, nb3_b2, nb3_b1, nb4_b3, nb4_b2, nb4_b1] <;> omega) | omega | fail) only [↓E2, E3, bare, bareJ, ↓E0, E1, evP, evPlan, env0, envN, evOps, evOp, evQs, evQ, evV, setD, pureOp, ev, upd, updL, gate, binW, eqOp, binV, intOp, shOp, boolOp, unV, convV, nilV, fieldAddrV, indexAddrV, extractV, cellAt, cellsAt, findB, setB, fillL, buildV, Value.cells, lenV, minV, maxV, hav, sliceV, loV, hiV, bslQ, mksQ, appQ, partsOk, partsCells, delB, eqL, SameI, strOp, apzQ, cvtQ, capV, ↓reduceIte, Zj, Zk, Nat.reduceAdd, Nat.reduceLT, Nat.reduceEqDiff, Nat.reduceMul, Nat.reduceLeDiff, if_true, Zn, reduceCtorEq, ZA, eq_self, Int.reduceLE, Int.reduceLT, Int.reduceToNat, ne_eq, Nat.reduceSub, Tbld100, Tst100, Tzero100, hl, hm, hz, pl, nb2_b1, nb3_b2, nb3_b1, nb4_b3, nb4_b2, nb4_b1]
  repeat refine And.intro (by omega) ?_
  intro g
  simp only [List.map_cons, List.map_nil, updL, upd, Nat.reduceEqDiff, if_true, if_false, ↓reduceIte]
  refine hK _ _ ?_; clear hK K
  refine Cd.seq ?_
  refine Cd.rs [3, 4, 5, 9, 10] fun K hK => ?_
  simp (maxSteps := 2000000) (disch := first | (simp only [E4, hl, hm, hz, pl, nb2_b1, nb3_b2, nb3_b1, nb4_b3, nb4_b2, nb4_b1] <;> omega) | omega | fail) only [↓E2, E3, bare, bareJ, ↓E0, E1, evP, evPlan, env0, envN, evOps, evOp, evQs, evQ, evV, setD, pureOp, ev, upd, updL, gate, binW, eqOp, binV, intOp, shOp, boolOp, unV, convV, nilV, fieldAddrV, indexAddrV, extractV, cellAt, cellsAt, findB, setB, fillL, buildV, Value.cells, lenV, minV, maxV, hav, sliceV, loV, hiV, bslQ, mksQ, appQ, partsOk, partsCells, delB, eqL, SameI, strOp, apzQ, cvtQ, capV, ↓reduceIte, Zj, Zk, Nat.reduceAdd, Nat.reduceLT, Nat.reduceEqDiff, Nat.reduceMul, Nat.reduceLeDiff, if_true, Zn, reduceCtorEq, ZA, eq_self, Int.reduceLE, Int.reduceLT, Int.reduceToNat, ne_eq, Nat.reduceSub, Tld32, hl, hm, hz, pl, nb2_b1, nb3_b2, nb3_b1, nb4_b3, nb4_b2, nb4_b1]
  refine callK_gives (n_c _ _ _ hl hm) ?_
  simp (maxSteps := 2000000) (disch := first | (simp only [E4, hl, hm, hz, pl, nb2_b1, nb3_b2, nb3_b1, nb4_b3, nb4_b2, nb4_b1] <;> omega) | omega | fail) only [↓E2, E3, bare, bareJ, ↓E0, E1, evP, evPlan, env0, envN, evOps, evOp, evQs, evQ, evV, setD, pureOp, ev, upd, updL, gate, binW, eqOp, binV, intOp, shOp, boolOp, unV, convV, nilV, fieldAddrV, indexAddrV, extractV, cellAt, cellsAt, findB, setB, fillL, buildV, Value.cells, lenV, minV, maxV, hav, sliceV, loV, hiV, bslQ, mksQ, appQ, partsOk, partsCells, delB, eqL, SameI, strOp, apzQ, cvtQ, capV, ↓reduceIte, Zj, Zk, Nat.reduceAdd, Nat.reduceLT, Nat.reduceEqDiff, Nat.reduceMul, Nat.reduceLeDiff, if_true, Zn, reduceCtorEq, ZA, eq_self, Int.reduceLE, Int.reduceLT, Int.reduceToNat, ne_eq, Nat.reduceSub, Tld32, hl, hm, hz, pl, nb2_b1, nb3_b2, nb3_b1, nb4_b3, nb4_b2, nb4_b1]
  repeat refine And.intro (by omega) ?_
  intro g
  simp only [List.map_cons, List.map_nil, updL, upd, Nat.reduceEqDiff, if_true, if_false, ↓reduceIte]
  refine hK _ _ ?_; clear hK K
  refine Cd.block ?_
  refine Cd.loop (fun m ρ M => ∃ g k, k + m = n ∧ ρ = updL [(3, .pointer (some ⟨b2, 0, none⟩)), (4, .pointer (some ⟨b3, 0, none⟩)), (5, .pointer (some ⟨b4, 0, none⟩)), (9, .int .i64 (n : Int)), (10, .int .i64 (k : Int))] g ∧
    M = [(b4, ints .i64 (plcTo y n k)), (b3, ints .i64 z8), (b2, ints .u8 y), (b1, gc (n : Int) x o)]) n ⟨_, 0, Nat.zero_add _, rfl, by rw [plcTo_zero]⟩ ?_
  rintro m ρ M ⟨g, k, hk, rfl, rfl⟩
  refine Cd.rs [3, 4, 5, 9, 10, 11] fun K hK => ?_
  simp (maxSteps := 2000000) (disch := first | (simp only [E4, hl, hm, hz, pl, nb2_b1, nb3_b2, nb3_b1, nb4_b3, nb4_b2, nb4_b1] <;> omega) | omega | fail) only [↓E2, E3, bare, bareJ, ↓E0, E1, evP, evPlan, env0, envN, evOps, evOp, evQs, evQ, evV, setD, pureOp, ev, upd, updL, gate, binW, eqOp, binV, intOp, shOp, boolOp, unV, convV, nilV, fieldAddrV, indexAddrV, extractV, cellAt, cellsAt, findB, setB, fillL, buildV, Value.cells, lenV, minV, maxV, hav, sliceV, loV, hiV, bslQ, mksQ, appQ, partsOk, partsCells, delB, eqL, SameI, strOp, apzQ, cvtQ, capV, ↓reduceIte, Zj, Zk, Nat.reduceAdd, Nat.reduceLT, Nat.reduceEqDiff, Nat.reduceMul, Nat.reduceLeDiff, if_true, Zn, reduceCtorEq, ZA, eq_self, Int.reduceLE, Int.reduceLT, Int.reduceToNat, ne_eq, Nat.reduceSub, hl, hm, hz, pl, nb2_b1, nb3_b2, nb3_b1, nb4_b3, nb4_b2, nb4_b1]
  repeat refine And.intro (by omega) ?_
  intro g
  simp only [List.map_cons, List.map_nil, updL, upd, Nat.reduceEqDiff, if_true, if_false, ↓reduceIte]
  refine hK _ _ ?_; clear hK K
  refine Cd.seq ?_
  refine Cd.condd rfl (fun h1 => ?_) (fun h1 => ?_)
  · have c1 := bytes_get hy (i := k) (by omega)
    have c2 := hp.1 k (by omega)
    refine Cd.skip ?_
    refine thenN ?_
    refine Cd.seq ?_
    refine Cd.block ?_
    refine Cd.rs [3, 4, 5, 6, 9, 10] fun K hK => ?_
    simp (maxSteps := 2000000) (disch := first | (simp only [E4, hl, hm, hz, pl, nb2_b1, nb3_b2, nb3_b1, nb4_b3, nb4_b2, nb4_b1] <;> omega) | omega | fail) only [↓E2, E3, bare, bareJ, ↓E0, E1, evP, evPlan, env0, envN, evOps, evOp, evQs, evQ, evV, setD, pureOp, ev, upd, updL, gate, binW, eqOp, binV, intOp, shOp, boolOp, unV, convV, nilV, fieldAddrV, indexAddrV, extractV, cellAt, cellsAt, findB, setB, fillL, buildV, Value.cells, lenV, minV, maxV, hav, sliceV, loV, hiV, bslQ, mksQ, appQ, partsOk, partsCells, delB, eqL, SameI, strOp, apzQ, cvtQ, capV, ↓reduceIte, Zj, Zk, Nat.reduceAdd, Nat.reduceLT, Nat.reduceEqDiff, Nat.reduceMul, Nat.reduceLeDiff, if_true, Zn, reduceCtorEq, ZA, eq_self, Int.reduceLE, Int.reduceLT, Int.reduceToNat, ne_eq, Nat.reduceSub, hl, hm, hz, pl, nb2_b1, nb3_b2, nb3_b1, nb4_b3, nb4_b2, nb4_b1]
    repeat refine And.intro (by omega) ?_
    intro g
    simp only [List.map_cons, List.map_nil, updL, upd, Nat.reduceEqDiff, if_true, if_false, ↓reduceIte]
    refine hK _ _ ?_; clear hK K
    refine Cd.rr [3, 4, 5, 9, 10] fun K hK => ?_
    simp (maxSteps := 2000000) (disch := first | (simp only [E4, hl, hm, hz, pl, nb2_b1, nb3_b2, nb3_b1, nb4_b3, nb4_b2, nb4_b1] <;> omega) | omega | fail) only [↓E2, E3, bare, bareJ, ↓E0, E1, evP, evPlan, env0, envN, evOps, evOp, evQs, evQ, evV, setD, pureOp, ev, upd, updL, gate, binW, eqOp, binV, intOp, shOp, boolOp, unV, convV, nilV, fieldAddrV, indexAddrV, extractV, cellAt, cellsAt, findB, setB, fillL, buildV, Value.cells, lenV, minV, maxV, hav, sliceV, loV, hiV, bslQ, mksQ, appQ, partsOk, partsCells, delB, eqL, SameI, strOp, apzQ, cvtQ, capV, ↓reduceIte, Zj, Zk, Nat.reduceAdd, Nat.reduceLT, Nat.reduceEqDiff, Nat.reduceMul, Nat.reduceLeDiff, if_true, Zn, reduceCtorEq, ZA, eq_self, Int.reduceLE, Int.reduceLT, Int.reduceToNat, ne_eq, Nat.reduceSub, Tarr100, Tarr30, Tld5, Tst3, hl, hm, hz, pl, nb2_b1, nb3_b2, nb3_b1, nb4_b3, nb4_b2, nb4_b1]
    repeat refine And.intro (by omega) ?_
    rw [plcTo_set hp (by omega) hn c1.1]
    repeat refine And.intro (by omega) ?_
    intro g
    simp only [List.map_cons, List.map_nil, updL, upd, Nat.reduceEqDiff, if_true, if_false, ↓reduceIte]
    refine hK _ _ ?_; clear hK K
    refine inBN ?_
    refine thenN ?_
    refine Cd.rr [3, 4, 5, 9, 10] fun K hK => ?_
    simp (maxSteps := 2000000) (disch := first | (simp only [E4, hl, hm, hz, pl, nb2_b1, nb3_b2, nb3_b1, nb4_b3, nb4_b2, nb4_b1] <;> omega) | omega | fail) only [↓E2, E3, bare, bareJ, ↓E0, E1, evP, evPlan, env0, envN, evOps, evOp, evQs, evQ, evV, setD, pureOp, ev, upd, updL, gate, binW, eqOp, binV, intOp, shOp, boolOp, unV, convV, nilV, fieldAddrV, indexAddrV, extractV, cellAt, cellsAt, findB, setB, fillL, buildV, Value.cells, lenV, minV, maxV, hav, sliceV, loV, hiV, bslQ, mksQ, appQ, partsOk, partsCells, delB, eqL, SameI, strOp, apzQ, cvtQ, capV, ↓reduceIte, Zj, Zk, Nat.reduceAdd, Nat.reduceLT, Nat.reduceEqDiff, Nat.reduceMul, Nat.reduceLeDiff, if_true, Zn, reduceCtorEq, ZA, eq_self, Int.reduceLE, Int.reduceLT, Int.reduceToNat, ne_eq, Nat.reduceSub, hl, hm, hz, pl, nb2_b1, nb3_b2, nb3_b1, nb4_b3, nb4_b2, nb4_b1]
    repeat refine And.intro (by omega) ?_
    intro g
    simp only [List.map_cons, List.map_nil, updL, upd, Nat.reduceEqDiff, if_true, if_false, ↓reduceIte]
    refine hK _ _ ?_; clear hK K
    exact roundN (m := m - 1) (by omega) ⟨_, k + 1, by omega, rfl, rfl⟩
  · refine Cd.exit (thenX (roundX (inBX ?_)))
    refine thenN ?_
    obtain rfl : k = n := by omega
    rw [plcTo_full (fun i hi => (bytes_get hy (by omega)).1) hp]
    have pl := plc_len y k
    skip
    refine Cd.rs [4] fun K hK => ?_
    simp (maxSteps := 2000000) (disch := first | (simp only [E4, hl, hm, hz, pl, nb2_b1, nb3_b2, nb3_b1, nb4_b3, nb4_b2, nb4_b1] <;> omega) | omega | fail) only [↓E2, E3, bare, bareJ, ↓E0, E1, evP, evPlan, env0, envN, evOps, evOp, evQs, evQ, evV, setD, pureOp, ev, upd, updL, gate, binW, eqOp, binV, intOp, shOp, boolOp, unV, convV, nilV, fieldAddrV, indexAddrV, extractV, cellAt, cellsAt, findB, setB, fillL, buildV, Value.cells, lenV, minV, maxV, hav, sliceV, loV, hiV, bslQ, mksQ, appQ, partsOk, partsCells, delB, eqL, SameI, strOp, apzQ, cvtQ, capV, ↓reduceIte, Zj, Zk, Nat.reduceAdd, Nat.reduceLT, Nat.reduceEqDiff, Nat.reduceMul, Nat.reduceLeDiff, if_true, Zn, reduceCtorEq, ZA, eq_self, Int.reduceLE, Int.reduceLT, Int.reduceToNat, ne_eq, Nat.reduceSub, Tld100, Tst100, hl, hm, hz, pl, nb2_b1, nb3_b2, nb3_b1, nb4_b3, nb4_b2, nb4_b1]
    repeat refine And.intro (by omega) ?_
    intro g
    simp only [List.map_cons, List.map_nil, updL, upd, Nat.reduceEqDiff, if_true, if_false, ↓reduceIte]
    refine hK _ _ ?_; clear hK K
    refine Cd.ret ?_
    simp (maxSteps := 2000000) (disch := first | (simp only [E4, hl, hm, hz, pl, nb2_b1, nb3_b2, nb3_b1, nb4_b3, nb4_b2, nb4_b1] <;> omega) | omega | fail) only [↓E2, E3, bare, bareJ, ↓E0, E1, evP, evPlan, env0, envN, evOps, evOp, evQs, evQ, evV, setD, pureOp, ev, upd, updL, gate, binW, eqOp, binV, intOp, shOp, boolOp, unV, convV, nilV, fieldAddrV, indexAddrV, extractV, cellAt, cellsAt, findB, setB, fillL, buildV, Value.cells, lenV, minV, maxV, hav, sliceV, loV, hiV, bslQ, mksQ, appQ, partsOk, partsCells, delB, eqL, SameI, strOp, apzQ, cvtQ, capV, ↓reduceIte, Zj, Zk, Nat.reduceAdd, Nat.reduceLT, Nat.reduceEqDiff, Nat.reduceMul, Nat.reduceLeDiff, if_true, Zn, reduceCtorEq, ZA, eq_self, Int.reduceLE, Int.reduceLT, Int.reduceToNat, ne_eq, Nat.reduceSub, Tld100, hl, hm, hz, pl, nb2_b1, nb3_b2, nb3_b1, nb4_b3, nb4_b2, nb4_b1]

end Go.Proofs

/-
  What the functions of this part hand back: each as a plain function of its arguments. Conditions: none.
-/
namespace Go.Proofs
open Go.W8
set_option linter.unusedVariables false
set_option linter.unusedSimpArgs false
set_option linter.unusedSectionVars false
set_option maxRecDepth 8000
set_option maxHeartbeats 4000000
def betw (x a b : Int) : Bool := decide (min a b < x) && decide (x < max a b)
/-- The sign of the crossing of a column and a row, 0 if there is none. -/
def crossS (n : Nat) (x o : List Int) (i r : Nat) : Int :=
  if betw (r : Int) (x.getD i 0) (o.getD i 0) && betw (i : Int) (rowOf x n (r : Int)) (rowOf o n (r : Int)) then if (decide (o.getD i 0 > x.getD i 0) == decide ((rowOf x n (r : Int) : Int) < (rowOf o n (r : Int) : Int))) then 1 else -1 else 0
theorem crossS_cases (n : Nat) (x o : List Int) (i r : Nat) : crossS n x o i r = 0 ∨ crossS n x o i r = 1 ∨ crossS n x o i r = -1 := by
  unfold crossS
  split
  · split
    · exact .inr (.inl rfl)
    · exact .inr (.inr rfl)
  · exact .inl rfl
theorem isBetween_c (x a b : Int) : Gives Try.prog 191 #[.int .i64 x, .int .i64 a, .int .i64 b] (.bool (betw x a b)) := by
  refine Gives.of fun w => ?_
  refine acall_of (N := 19) (c := _) (rs := [.tmp 6]) (args := [_, _, _]) Try.func191 rfl (by decide) rfl rfl (Nat.le_of_ble_eq_true rfl) ?_
  refine Cd.rs [0, 1, 2] fun K hK => ?_
  simp (maxSteps := 2000000) (disch := first | (simp only [E4] <;> omega) | omega | fail) only [↓E2, E3, bare, bareJ, ↓E0, E1, evP, evPlan, env0, envN, evOps, evOp, evQs, evQ, evV, setD, pureOp, ev, upd, updL, gate, binW, eqOp, binV, intOp, shOp, boolOp, unV, convV, nilV, fieldAddrV, indexAddrV, extractV, cellAt, cellsAt, findB, setB, fillL, buildV, Value.cells, lenV, minV, maxV, hav, sliceV, loV, hiV, bslQ, mksQ, appQ, partsOk, partsCells, delB, eqL, SameI, strOp, apzQ, cvtQ, capV, ↓reduceIte, Zj, Zk, Nat.reduceAdd, Nat.reduceLT, Nat.reduceEqDiff, Nat.reduceMul, Nat.reduceLeDiff, if_true, Zn, reduceCtorEq, ZA, eq_self, Int.reduceLE, Int.reduceLT, Int.reduceToNat, ne_eq, Nat.reduceSub]
  repeat refine And.intro (by omega) ?_
  intro g
  simp only [List.map_cons, List.map_nil, updL, upd, Nat.reduceEqDiff, if_true, if_false, ↓reduceIte]
  refine hK _ _ ?_; clear hK K
  refine Cd.rs [6] fun K hK => ?_
  simp (maxSteps := 2000000) (disch := first | (simp only [E4] <;> omega) | omega | fail) only [↓E2, E3, bare, bareJ, ↓E0, E1, evP, evPlan, env0, envN, evOps, evOp, evQs, evQ, evV, setD, pureOp, ev, upd, updL, gate, binW, eqOp, binV, intOp, shOp, boolOp, unV, convV, nilV, fieldAddrV, indexAddrV, extractV, cellAt, cellsAt, findB, setB, fillL, buildV, Value.cells, lenV, minV, maxV, hav, sliceV, loV, hiV, bslQ, mksQ, appQ, partsOk, partsCells, delB, eqL, SameI, strOp, apzQ, cvtQ, capV, ↓reduceIte, Zj, Zk, Nat.reduceAdd, Nat.reduceLT, Nat.reduceEqDiff, Nat.reduceMul, Nat.reduceLeDiff, if_true, Zn, reduceCtorEq, ZA, eq_self, Int.reduceLE, Int.reduceLT, Int.reduceToNat, ne_eq, Nat.reduceSub]
  apply guardX_and 5 [13, 14, 15, 16, 17] (j := 5) (d := 12) (tp := 18) (tl := 17) rfl rfl rfl rfl rfl
  · intro hq
    simp (maxSteps := 2000000) (disch := first | (simp only [E4] <;> omega) | omega | fail) only [↓E2, E3, bare, bareJ, ↓E0, E1, evP, evPlan, env0, envN, evOps, evOp, evQs, evQ, evV, setD, pureOp, ev, upd, updL, gate, binW, eqOp, binV, intOp, shOp, boolOp, unV, convV, nilV, fieldAddrV, indexAddrV, extractV, cellAt, cellsAt, findB, setB, fillL, buildV, Value.cells, lenV, minV, maxV, hav, sliceV, loV, hiV, bslQ, mksQ, appQ, partsOk, partsCells, delB, eqL, SameI, strOp, apzQ, cvtQ, capV, ↓reduceIte, Zj, Zk, Nat.reduceAdd, Nat.reduceLT, Nat.reduceEqDiff, Nat.reduceMul, Nat.reduceLeDiff, if_true, Zn, reduceCtorEq, ZA, eq_self, Int.reduceLE, Int.reduceLT, Int.reduceToNat, ne_eq, Nat.reduceSub]
    exact rfl
  intro g
  simp (maxSteps := 2000000) (disch := first | (simp only [E4] <;> omega) | omega | fail) only [↓E2, E3, bare, bareJ, ↓E0, E1, evP, evPlan, env0, envN, evOps, evOp, evQs, evQ, evV, setD, pureOp, ev, upd, updL, gate, binW, eqOp, binV, intOp, shOp, boolOp, unV, convV, nilV, fieldAddrV, indexAddrV, extractV, cellAt, cellsAt, findB, setB, fillL, buildV, Value.cells, lenV, minV, maxV, hav, sliceV, loV, hiV, bslQ, mksQ, appQ, partsOk, partsCells, delB, eqL, SameI, strOp, apzQ, cvtQ, capV, ↓reduceIte, Zj, Zk, Nat.reduceAdd, Nat.reduceLT, Nat.reduceEqDiff, Nat.reduceMul, Nat.reduceLeDiff, if_true, Zn, reduceCtorEq, ZA, eq_self, Int.reduceLE, Int.reduceLT, Int.reduceToNat, ne_eq, Nat.reduceSub]
  repeat refine And.intro (by omega) ?_
  intro g
  simp only [List.map_cons, List.map_nil, updL, upd, Nat.reduceEqDiff, if_true, if_false, ↓reduceIte]
  refine hK _ _ ?_; clear hK K
  refine Cd.ret ?_
  simp (maxSteps := 2000000) (disch := first | (simp only [E4] <;> omega) | omega | fail) only [↓E2, E3, bare, bareJ, ↓E0, E1, evP, evPlan, env0, envN, evOps, evOp, evQs, evQ, evV, setD, pureOp, ev, upd, updL, gate, binW, eqOp, binV, intOp, shOp, boolOp, unV, convV, nilV, fieldAddrV, indexAddrV, extractV, cellAt, cellsAt, findB, setB, fillL, buildV, Value.cells, lenV, minV, maxV, hav, sliceV, loV, hiV, bslQ, mksQ, appQ, partsOk, partsCells, delB, eqL, SameI, strOp, apzQ, cvtQ, capV, ↓reduceIte, Zj, Zk, Nat.reduceAdd, Nat.reduceLT, Nat.reduceEqDiff, Nat.reduceMul, Nat.reduceLeDiff, if_true, Zn, reduceCtorEq, ZA, eq_self, Int.reduceLE, Int.reduceLT, Int.reduceToNat, ne_eq, Nat.reduceSub]
  rw [min_if, max_if]
  rfl

section
variable (n : Nat) (x o : List Int) (hx : Bytes8 x) (ho : Bytes8 o) (hn : n ≤ 8) (i r : Nat) (hi : i < n) (hr : r < n)
include hx ho hn hi hr
theorem l03Cross_c : Gives Try.prog 173 #[.agg (gc (n : Int) x o).toArray, .int .i64 (i : Int), .int .i64 (r : Int)] (.int .i64 (crossS n x o i r)) := by
  have hl := hx.len
  have hm := ho.len
  have c1 := bytes_get hx (i := i) (by omega)
  have c2 := bytes_get ho (i := i) (by omega)
  have c3 : rowOf x n (r : Int) ≤ n := rowOf_le
  have c4 : rowOf o n (r : Int) ≤ n := rowOf_le
  have m1 := min_if (x.getD i 0) (o.getD i 0)
  have m2 := max_if (x.getD i 0) (o.getD i 0)
  have m3 := min_if (rowOf x n (r : Int)) (rowOf o n (r : Int))
  have m4 := max_if (rowOf x n (r : Int)) (rowOf o n (r : Int))
  skip
  refine Gives.of fun w => ?_
  refine acall_of (N := 64) (c := _) (rs := [.tmp 6]) (args := [_, _, _]) Try.func173 rfl (by decide) rfl rfl (Nat.le_of_ble_eq_true rfl) ?_
  refine Cd.rs [1, 2, 3] fun K hK => ?_
  simp (maxSteps := 2000000) (disch := first | (simp only [E4, hl, hm, m1, m2, m3, m4] <;> omega) | omega | fail) only [↓E2, E3, bare, bareJ, ↓E0, E1, evP, evPlan, env0, envN, evOps, evOp, evQs, evQ, evV, setD, pureOp, ev, upd, updL, gate, binW, eqOp, binV, intOp, shOp, boolOp, unV, convV, nilV, fieldAddrV, indexAddrV, extractV, cellAt, cellsAt, findB, setB, fillL, buildV, Value.cells, lenV, minV, maxV, hav, sliceV, loV, hiV, bslQ, mksQ, appQ, partsOk, partsCells, delB, eqL, SameI, strOp, apzQ, cvtQ, capV, ↓reduceIte, Zj, Zk, Nat.reduceAdd, Nat.reduceLT, Nat.reduceEqDiff, Nat.reduceMul, Nat.reduceLeDiff, if_true, Zn, reduceCtorEq, ZA, eq_self, Int.reduceLE, Int.reduceLT, Int.reduceToNat, ne_eq, Nat.reduceSub, hl, hm, m1, m2, m3, m4]
  repeat refine And.intro (by omega) ?_
  intro b1 hb1
  try simp (maxSteps := 2000000) (disch := first | (simp only [E4, hl, hm, m1, m2, m3, m4] <;> omega) | omega | fail) only [↓E2, E3, bare, bareJ, ↓E0, E1, evP, evPlan, env0, envN, evOps, evOp, evQs, evQ, evV, setD, pureOp, ev, upd, updL, gate, binW, eqOp, binV, intOp, shOp, boolOp, unV, convV, nilV, fieldAddrV, indexAddrV, extractV, cellAt, cellsAt, findB, setB, fillL, buildV, Value.cells, lenV, minV, maxV, hav, sliceV, loV, hiV, bslQ, mksQ, appQ, partsOk, partsCells, delB, eqL, SameI, strOp, apzQ, cvtQ, capV, ↓reduceIte, Zj, Zk, Nat.reduceAdd, Nat.reduceLT, Nat.reduceEqDiff, Nat.reduceMul, Nat.reduceLeDiff, if_true, Zn, reduceCtorEq, ZA, eq_self, Int.reduceLE, Int.reduceLT, Int.reduceToNat, ne_eq, Nat.reduceSub, hl, hm, m1, m2, m3, m4]
  repeat refine And.intro (by omega) ?_
  intro g
  simp only [List.map_cons, List.map_nil, updL, upd, Nat.reduceEqDiff, if_true, if_false, ↓reduceIte]
  refine hK _ _ ?_; clear hK K
  refine Cd.qs [1, 2, 3, 7, 8] fol (by kernel_rfl) fun K hK => ?_
  simp (maxSteps := 2000000) (disch := first | (simp only [E4, hl, hm, m1, m2, m3, m4] <;> omega) | omega | fail) only [↓E2, E3, bare, bareJ, ↓E0, E1, evP, evPlan, env0, envN, evOps, evOp, evQs, evQ, evV, setD, pureOp, ev, upd, updL, gate, binW, eqOp, binV, intOp, shOp, boolOp, unV, convV, nilV, fieldAddrV, indexAddrV, extractV, cellAt, cellsAt, findB, setB, fillL, buildV, Value.cells, lenV, minV, maxV, hav, sliceV, loV, hiV, bslQ, mksQ, appQ, partsOk, partsCells, delB, eqL, SameI, strOp, apzQ, cvtQ, capV, ↓reduceIte, Zj, Zk, Nat.reduceAdd, Nat.reduceLT, Nat.reduceEqDiff, Nat.reduceMul, Nat.reduceLeDiff, if_true, Zn, reduceCtorEq, ZA, eq_self, Int.reduceLE, Int.reduceLT, Int.reduceToNat, ne_eq, Nat.reduceSub, Tarr30, Tfld32_1, Tfld32_2, Tint2, Tld5, Tpar5, hl, hm, m1, m2, m3, m4]
  repeat refine And.intro (by omega) ?_
  repeat refine And.intro (by omega) ?_
  intro g
  simp only [List.map_cons, List.map_nil, updL, upd, Nat.reduceEqDiff, if_true, if_false, ↓reduceIte]
  refine hK _ ?_; clear hK K
  refine Cd.qs [1, 2, 7, 8, 9, 10] fol (by kernel_rfl) fun K hK => ?_
  simp (maxSteps := 2000000) (disch := first | (simp only [E4, hl, hm, m1, m2, m3, m4] <;> omega) | omega | fail) only [↓E2, E3, bare, bareJ, ↓E0, E1, evP, evPlan, env0, envN, evOps, evOp, evQs, evQ, evV, setD, pureOp, ev, upd, updL, gate, binW, eqOp, binV, intOp, shOp, boolOp, unV, convV, nilV, fieldAddrV, indexAddrV, extractV, cellAt, cellsAt, findB, setB, fillL, buildV, Value.cells, lenV, minV, maxV, hav, sliceV, loV, hiV, bslQ, mksQ, appQ, partsOk, partsCells, delB, eqL, SameI, strOp, apzQ, cvtQ, capV, ↓reduceIte, Zj, Zk, Nat.reduceAdd, Nat.reduceLT, Nat.reduceEqDiff, Nat.reduceMul, Nat.reduceLeDiff, if_true, Zn, reduceCtorEq, ZA, eq_self, Int.reduceLE, Int.reduceLT, Int.reduceToNat, ne_eq, Nat.reduceSub, Tfld32_0, Tfld32_1, Tfld32_2, Tld2, Tld30, hl, hm, m1, m2, m3, m4]
  refine callQ_gives (l01Row_c x hx n hn _) ?_
  simp (maxSteps := 2000000) (disch := first | (simp only [E4, hl, hm, m1, m2, m3, m4] <;> omega) | omega | fail) only [↓E2, E3, bare, bareJ, ↓E0, E1, evP, evPlan, env0, envN, evOps, evOp, evQs, evQ, evV, setD, pureOp, ev, upd, updL, gate, binW, eqOp, binV, intOp, shOp, boolOp, unV, convV, nilV, fieldAddrV, indexAddrV, extractV, cellAt, cellsAt, findB, setB, fillL, buildV, Value.cells, lenV, minV, maxV, hav, sliceV, loV, hiV, bslQ, mksQ, appQ, partsOk, partsCells, delB, eqL, SameI, strOp, apzQ, cvtQ, capV, ↓reduceIte, Zj, Zk, Nat.reduceAdd, Nat.reduceLT, Nat.reduceEqDiff, Nat.reduceMul, Nat.reduceLeDiff, if_true, Zn, reduceCtorEq, ZA, eq_self, Int.reduceLE, Int.reduceLT, Int.reduceToNat, ne_eq, Nat.reduceSub, Tfld32_0, Tfld32_1, Tfld32_2, Tld2, Tld30, hl, hm, m1, m2, m3, m4]
  refine callQ_gives (l01Row_c o ho n hn _) ?_
  simp (maxSteps := 2000000) (disch := first | (simp only [E4, hl, hm, m1, m2, m3, m4] <;> omega) | omega | fail) only [↓E2, E3, bare, bareJ, ↓E0, E1, evP, evPlan, env0, envN, evOps, evOp, evQs, evQ, evV, setD, pureOp, ev, upd, updL, gate, binW, eqOp, binV, intOp, shOp, boolOp, unV, convV, nilV, fieldAddrV, indexAddrV, extractV, cellAt, cellsAt, findB, setB, fillL, buildV, Value.cells, lenV, minV, maxV, hav, sliceV, loV, hiV, bslQ, mksQ, appQ, partsOk, partsCells, delB, eqL, SameI, strOp, apzQ, cvtQ, capV, ↓reduceIte, Zj, Zk, Nat.reduceAdd, Nat.reduceLT, Nat.reduceEqDiff, Nat.reduceMul, Nat.reduceLeDiff, if_true, Zn, reduceCtorEq, ZA, eq_self, Int.reduceLE, Int.reduceLT, Int.reduceToNat, ne_eq, Nat.reduceSub, Tfld32_0, Tfld32_1, Tfld32_2, Tld2, Tld30, hl, hm, m1, m2, m3, m4]
  repeat refine And.intro (by omega) ?_
  intro g
  simp only [List.map_cons, List.map_nil, updL, upd, Nat.reduceEqDiff, if_true, if_false, ↓reduceIte]
  refine hK _ ?_; clear hK K
  refine Cd.seq ?_
  refine Cd.rs [7, 8, 9, 10, 56] fun K hK => ?_
  simp (maxSteps := 2000000) (disch := first | (simp only [E4, hl, hm, m1, m2, m3, m4] <;> omega) | omega | fail) only [↓E2, E3, bare, bareJ, ↓E0, E1, evP, evPlan, env0, envN, evOps, evOp, evQs, evQ, evV, setD, pureOp, ev, upd, updL, gate, binW, eqOp, binV, intOp, shOp, boolOp, unV, convV, nilV, fieldAddrV, indexAddrV, extractV, cellAt, cellsAt, findB, setB, fillL, buildV, Value.cells, lenV, minV, maxV, hav, sliceV, loV, hiV, bslQ, mksQ, appQ, partsOk, partsCells, delB, eqL, SameI, strOp, apzQ, cvtQ, capV, ↓reduceIte, Zj, Zk, Nat.reduceAdd, Nat.reduceLT, Nat.reduceEqDiff, Nat.reduceMul, Nat.reduceLeDiff, if_true, Zn, reduceCtorEq, ZA, eq_self, Int.reduceLE, Int.reduceLT, Int.reduceToNat, ne_eq, Nat.reduceSub, hl, hm, m1, m2, m3, m4]
  refine callK_gives (l01In_c _ _ _) ?_
  simp (maxSteps := 2000000) (disch := first | (simp only [E4, hl, hm, m1, m2, m3, m4] <;> omega) | omega | fail) only [↓E2, E3, bare, bareJ, ↓E0, E1, evP, evPlan, env0, envN, evOps, evOp, evQs, evQ, evV, setD, pureOp, ev, upd, updL, gate, binW, eqOp, binV, intOp, shOp, boolOp, unV, convV, nilV, fieldAddrV, indexAddrV, extractV, cellAt, cellsAt, findB, setB, fillL, buildV, Value.cells, lenV, minV, maxV, hav, sliceV, loV, hiV, bslQ, mksQ, appQ, partsOk, partsCells, delB, eqL, SameI, strOp, apzQ, cvtQ, capV, ↓reduceIte, Zj, Zk, Nat.reduceAdd, Nat.reduceLT, Nat.reduceEqDiff, Nat.reduceMul, Nat.reduceLeDiff, if_true, Zn, reduceCtorEq, ZA, eq_self, Int.reduceLE, Int.reduceLT, Int.reduceToNat, ne_eq, Nat.reduceSub, hl, hm, m1, m2, m3, m4]
  apply guardX_or 11 [45, 46, 47, 48, 49, 50, 51, 52, 53, 54, 55] (j := 11) (d := 44) (tp := 56) (tl := 55) rfl rfl rfl rfl rfl
  · intro hq
    simp (maxSteps := 2000000) (disch := first | (simp only [E4, hl, hm, m1, m2, m3, m4] <;> omega) | omega | fail) only [↓E2, E3, bare, bareJ, ↓E0, E1, evP, evPlan, env0, envN, evOps, evOp, evQs, evQ, evV, setD, pureOp, ev, upd, updL, gate, binW, eqOp, binV, intOp, shOp, boolOp, unV, convV, nilV, fieldAddrV, indexAddrV, extractV, cellAt, cellsAt, findB, setB, fillL, buildV, Value.cells, lenV, minV, maxV, hav, sliceV, loV, hiV, bslQ, mksQ, appQ, partsOk, partsCells, delB, eqL, SameI, strOp, apzQ, cvtQ, capV, ↓reduceIte, Zj, Zk, Nat.reduceAdd, Nat.reduceLT, Nat.reduceEqDiff, Nat.reduceMul, Nat.reduceLeDiff, if_true, Zn, reduceCtorEq, ZA, eq_self, Int.reduceLE, Int.reduceLT, Int.reduceToNat, ne_eq, Nat.reduceSub, hl, hm, m1, m2, m3, m4]
    refine callK_gives (l01In_c _ _ _) ?_
    simp (maxSteps := 2000000) (disch := first | (simp only [E4, hl, hm, m1, m2, m3, m4] <;> omega) | omega | fail) only [↓E2, E3, bare, bareJ, ↓E0, E1, evP, evPlan, env0, envN, evOps, evOp, evQs, evQ, evV, setD, pureOp, ev, upd, updL, gate, binW, eqOp, binV, intOp, shOp, boolOp, unV, convV, nilV, fieldAddrV, indexAddrV, extractV, cellAt, cellsAt, findB, setB, fillL, buildV, Value.cells, lenV, minV, maxV, hav, sliceV, loV, hiV, bslQ, mksQ, appQ, partsOk, partsCells, delB, eqL, SameI, strOp, apzQ, cvtQ, capV, ↓reduceIte, Zj, Zk, Nat.reduceAdd, Nat.reduceLT, Nat.reduceEqDiff, Nat.reduceMul, Nat.reduceLeDiff, if_true, Zn, reduceCtorEq, ZA, eq_self, Int.reduceLE, Int.reduceLT, Int.reduceToNat, ne_eq, Nat.reduceSub, hl, hm, m1, m2, m3, m4]
    exact rfl
  intro g
  simp (maxSteps := 2000000) (disch := first | (simp only [E4, hl, hm, m1, m2, m3, m4] <;> omega) | omega | fail) only [↓E2, E3, bare, bareJ, ↓E0, E1, evP, evPlan, env0, envN, evOps, evOp, evQs, evQ, evV, setD, pureOp, ev, upd, updL, gate, binW, eqOp, binV, intOp, shOp, boolOp, unV, convV, nilV, fieldAddrV, indexAddrV, extractV, cellAt, cellsAt, findB, setB, fillL, buildV, Value.cells, lenV, minV, maxV, hav, sliceV, loV, hiV, bslQ, mksQ, appQ, partsOk, partsCells, delB, eqL, SameI, strOp, apzQ, cvtQ, capV, ↓reduceIte, Zj, Zk, Nat.reduceAdd, Nat.reduceLT, Nat.reduceEqDiff, Nat.reduceMul, Nat.reduceLeDiff, if_true, Zn, reduceCtorEq, ZA, eq_self, Int.reduceLE, Int.reduceLT, Int.reduceToNat, ne_eq, Nat.reduceSub, hl, hm, m1, m2, m3, m4]
  repeat refine And.intro (by omega) ?_
  intro g
  simp only [List.map_cons, List.map_nil, updL, upd, Nat.reduceEqDiff, if_true, if_false, ↓reduceIte]
  refine hK _ _ ?_; clear hK K
  refine Cd.cond rfl (fun h1 => ?_) (fun h1 => ?_)
  · refine Cd.rs [6] fun K hK => ?_
    simp (maxSteps := 2000000) (disch := first | (simp only [E4, hl, hm, m1, m2, m3, m4] <;> omega) | omega | fail) only [↓E2, E3, bare, bareJ, ↓E0, E1, evP, evPlan, env0, envN, evOps, evOp, evQs, evQ, evV, setD, pureOp, ev, upd, updL, gate, binW, eqOp, binV, intOp, shOp, boolOp, unV, convV, nilV, fieldAddrV, indexAddrV, extractV, cellAt, cellsAt, findB, setB, fillL, buildV, Value.cells, lenV, minV, maxV, hav, sliceV, loV, hiV, bslQ, mksQ, appQ, partsOk, partsCells, delB, eqL, SameI, strOp, apzQ, cvtQ, capV, ↓reduceIte, Zj, Zk, Nat.reduceAdd, Nat.reduceLT, Nat.reduceEqDiff, Nat.reduceMul, Nat.reduceLeDiff, if_true, Zn, reduceCtorEq, ZA, eq_self, Int.reduceLE, Int.reduceLT, Int.reduceToNat, ne_eq, Nat.reduceSub, hl, hm, m1, m2, m3, m4]
    repeat refine And.intro (by omega) ?_
    intro g
    simp only [List.map_cons, List.map_nil, updL, upd, Nat.reduceEqDiff, if_true, if_false, ↓reduceIte]
    refine hK _ _ ?_; clear hK K
    refine Cd.ret (thenR ?_)
    simp (maxSteps := 2000000) (disch := first | (simp only [E4, hl, hm, m1, m2, m3, m4] <;> omega) | omega | fail) only [↓E2, E3, bare, bareJ, ↓E0, E1, evP, evPlan, env0, envN, evOps, evOp, evQs, evQ, evV, setD, pureOp, ev, upd, updL, gate, binW, eqOp, binV, intOp, shOp, boolOp, unV, convV, nilV, fieldAddrV, indexAddrV, extractV, cellAt, cellsAt, findB, setB, fillL, buildV, Value.cells, lenV, minV, maxV, hav, sliceV, loV, hiV, bslQ, mksQ, appQ, partsOk, partsCells, delB, eqL, SameI, strOp, apzQ, cvtQ, capV, ↓reduceIte, Zj, Zk, Nat.reduceAdd, Nat.reduceLT, Nat.reduceEqDiff, Nat.reduceMul, Nat.reduceLeDiff, if_true, Zn, reduceCtorEq, ZA, eq_self, Int.reduceLE, Int.reduceLT, Int.reduceToNat, ne_eq, Nat.reduceSub, hl, hm, m1, m2, m3, m4]
    unfold crossS betw
    rw [if_neg]
    simp only [decide_eq_true_eq, decide_eq_false_iff_not, beq_iff_eq, beq_eq_false_iff_ne, bne_iff_ne, bne_eq_false_iff_eq, Bool.and_eq_true, Bool.or_eq_true, Bool.or_eq_false_iff, Bool.not_eq_true', Bool.not_eq_false', Bool.and_eq_false_imp, ne_eq, gt_iff_lt, ge_iff_le, Int.not_lt, Int.not_le, Classical.not_not] at h1
    simp only [Bool.and_eq_true, decide_eq_true_eq]
    grind
  · have hb : (betw (r : Int) (x.getD i 0) (o.getD i 0) && betw (i : Int) (rowOf x n (r : Int)) (rowOf o n (r : Int))) = true := by
      simp only [decide_eq_true_eq, decide_eq_false_iff_not, beq_iff_eq, beq_eq_false_iff_ne, bne_iff_ne, bne_eq_false_iff_eq, Bool.and_eq_true, Bool.or_eq_true, Bool.or_eq_false_iff, Bool.not_eq_true', Bool.not_eq_false', Bool.and_eq_false_imp, ne_eq, gt_iff_lt, ge_iff_le, Int.not_lt, Int.not_le, Classical.not_not] at h1
      unfold betw
      simp only [Bool.and_eq_true, decide_eq_true_eq]
      omega
    unfold crossS
    rw [if_pos hb]
    refine Cd.skip ?_
    refine thenN ?_
    refine Cd.seq ?_
    refine Cd.rs [63] fun K hK => ?_
    simp (maxSteps := 2000000) (disch := first | (simp only [E4, hl, hm, m1, m2, m3, m4] <;> omega) | omega | fail) only [↓E2, E3, bare, bareJ, ↓E0, E1, evP, evPlan, env0, envN, evOps, evOp, evQs, evQ, evV, setD, pureOp, ev, upd, updL, gate, binW, eqOp, binV, intOp, shOp, boolOp, unV, convV, nilV, fieldAddrV, indexAddrV, extractV, cellAt, cellsAt, findB, setB, fillL, buildV, Value.cells, lenV, minV, maxV, hav, sliceV, loV, hiV, bslQ, mksQ, appQ, partsOk, partsCells, delB, eqL, SameI, strOp, apzQ, cvtQ, capV, ↓reduceIte, Zj, Zk, Nat.reduceAdd, Nat.reduceLT, Nat.reduceEqDiff, Nat.reduceMul, Nat.reduceLeDiff, if_true, Zn, reduceCtorEq, ZA, eq_self, Int.reduceLE, Int.reduceLT, Int.reduceToNat, ne_eq, Nat.reduceSub, Tbool4, hl, hm, m1, m2, m3, m4]
    repeat refine And.intro (by omega) ?_
    intro g
    simp only [List.map_cons, List.map_nil, updL, upd, Nat.reduceEqDiff, if_true, if_false, ↓reduceIte]
    refine hK _ _ ?_; clear hK K
    refine Cd.cond rfl (fun h2 => ?_) (fun h2 => ?_)
    · refine Cd.rs [6] fun K hK => ?_
      simp (maxSteps := 2000000) (disch := first | (simp only [E4, hl, hm, m1, m2, m3, m4] <;> omega) | omega | fail) only [↓E2, E3, bare, bareJ, ↓E0, E1, evP, evPlan, env0, envN, evOps, evOp, evQs, evQ, evV, setD, pureOp, ev, upd, updL, gate, binW, eqOp, binV, intOp, shOp, boolOp, unV, convV, nilV, fieldAddrV, indexAddrV, extractV, cellAt, cellsAt, findB, setB, fillL, buildV, Value.cells, lenV, minV, maxV, hav, sliceV, loV, hiV, bslQ, mksQ, appQ, partsOk, partsCells, delB, eqL, SameI, strOp, apzQ, cvtQ, capV, ↓reduceIte, Zj, Zk, Nat.reduceAdd, Nat.reduceLT, Nat.reduceEqDiff, Nat.reduceMul, Nat.reduceLeDiff, if_true, Zn, reduceCtorEq, ZA, eq_self, Int.reduceLE, Int.reduceLT, Int.reduceToNat, ne_eq, Nat.reduceSub, hl, hm, m1, m2, m3, m4]
      repeat refine And.intro (by omega) ?_
      intro g
      simp only [List.map_cons, List.map_nil, updL, upd, Nat.reduceEqDiff, if_true, if_false, ↓reduceIte]
      refine hK _ _ ?_; clear hK K
      refine Cd.ret (thenR ?_)
      simp (maxSteps := 2000000) (disch := first | (simp only [E4, hl, hm, m1, m2, m3, m4] <;> omega) | omega | fail) only [↓E2, E3, bare, bareJ, ↓E0, E1, evP, evPlan, env0, envN, evOps, evOp, evQs, evQ, evV, setD, pureOp, ev, upd, updL, gate, binW, eqOp, binV, intOp, shOp, boolOp, unV, convV, nilV, fieldAddrV, indexAddrV, extractV, cellAt, cellsAt, findB, setB, fillL, buildV, Value.cells, lenV, minV, maxV, hav, sliceV, loV, hiV, bslQ, mksQ, appQ, partsOk, partsCells, delB, eqL, SameI, strOp, apzQ, cvtQ, capV, ↓reduceIte, Zj, Zk, Nat.reduceAdd, Nat.reduceLT, Nat.reduceEqDiff, Nat.reduceMul, Nat.reduceLeDiff, if_true, Zn, reduceCtorEq, ZA, eq_self, Int.reduceLE, Int.reduceLT, Int.reduceToNat, ne_eq, Nat.reduceSub, hl, hm, m1, m2, m3, m4]
      rw [if_pos (by simpa using h2)]
    · refine Cd.skip ?_
      refine thenN ?_
      refine Cd.rs [6] fun K hK => ?_
      simp (maxSteps := 2000000) (disch := first | (simp only [E4, hl, hm, m1, m2, m3, m4] <;> omega) | omega | fail) only [↓E2, E3, bare, bareJ, ↓E0, E1, evP, evPlan, env0, envN, evOps, evOp, evQs, evQ, evV, setD, pureOp, ev, upd, updL, gate, binW, eqOp, binV, intOp, shOp, boolOp, unV, convV, nilV, fieldAddrV, indexAddrV, extractV, cellAt, cellsAt, findB, setB, fillL, buildV, Value.cells, lenV, minV, maxV, hav, sliceV, loV, hiV, bslQ, mksQ, appQ, partsOk, partsCells, delB, eqL, SameI, strOp, apzQ, cvtQ, capV, ↓reduceIte, Zj, Zk, Nat.reduceAdd, Nat.reduceLT, Nat.reduceEqDiff, Nat.reduceMul, Nat.reduceLeDiff, if_true, Zn, reduceCtorEq, ZA, eq_self, Int.reduceLE, Int.reduceLT, Int.reduceToNat, ne_eq, Nat.reduceSub, hl, hm, m1, m2, m3, m4]
      repeat refine And.intro (by omega) ?_
      intro g
      simp only [List.map_cons, List.map_nil, updL, upd, Nat.reduceEqDiff, if_true, if_false, ↓reduceIte]
      refine hK _ _ ?_; clear hK K
      refine Cd.ret ?_
      simp (maxSteps := 2000000) (disch := first | (simp only [E4, hl, hm, m1, m2, m3, m4] <;> omega) | omega | fail) only [↓E2, E3, bare, bareJ, ↓E0, E1, evP, evPlan, env0, envN, evOps, evOp, evQs, evQ, evV, setD, pureOp, ev, upd, updL, gate, binW, eqOp, binV, intOp, shOp, boolOp, unV, convV, nilV, fieldAddrV, indexAddrV, extractV, cellAt, cellsAt, findB, setB, fillL, buildV, Value.cells, lenV, minV, maxV, hav, sliceV, loV, hiV, bslQ, mksQ, appQ, partsOk, partsCells, delB, eqL, SameI, strOp, apzQ, cvtQ, capV, ↓reduceIte, Zj, Zk, Nat.reduceAdd, Nat.reduceLT, Nat.reduceEqDiff, Nat.reduceMul, Nat.reduceLeDiff, if_true, Zn, reduceCtorEq, ZA, eq_self, Int.reduceLE, Int.reduceLT, Int.reduceToNat, ne_eq, Nat.reduceSub, hl, hm, m1, m2, m3, m4]
      rw [if_neg (by simpa using h2)]
end

end Go.Proofs

/-
  What the functions of this part hand back: each as a plain function of its arguments. Conditions: none.
-/
namespace Go.Proofs
open Go.W8
set_option linter.unusedVariables false
set_option linter.unusedSimpArgs false
set_option linter.unusedSectionVars false
set_option maxRecDepth 8000
set_option maxHeartbeats 4000000
def crRow (n : Nat) (x o : List Int) (i : Nat) : Nat → List Int
  | 0 => []
  | r + 1 => crRow n x o i r ++ if crossS n x o i r = 0 then [] else [(i : Int), (r : Int), crossS n x o i r]
/-- The crossings, column by column, three numbers each. -/
def crTo (n : Nat) (x o : List Int) : Nat → List Int
  | 0 => []
  | i + 1 => crTo n x o i ++ crRow n x o i n
theorem crRow_len (n : Nat) (x o : List Int) (i : Nat) : ∀ r, ∃ m, m ≤ r ∧ (crRow n x o i r).length = m * 3
  | 0 => ⟨0, Nat.le_refl _, rfl⟩
  | r + 1 => by
    obtain ⟨m, h1, h2⟩ := crRow_len n x o i r
    unfold crRow
    rw [List.length_append, h2]
    split
    · exact ⟨m, by omega, by simp⟩
    · exact ⟨m + 1, by omega, by simp; omega⟩
theorem crTo_len (n : Nat) (x o : List Int) : ∀ i, ∃ m, m ≤ n * i ∧ (crTo n x o i).length = m * 3
  | 0 => ⟨0, Nat.le_refl _, rfl⟩
  | i + 1 => by
    obtain ⟨m, h1, h2⟩ := crTo_len n x o i
    obtain ⟨k, h3, h4⟩ := crRow_len n x o i n
    unfold crTo
    rw [List.length_append, h2, h4]
    exact ⟨m + k, by rw [Nat.mul_add]; omega, by omega⟩
/-- A slice of rows of w numbers each, in a block of its own. -/
def Sl (w : Nat) (l : List Int) (v : Value) (M : Blks) : Prop := ∃ b m cap rest, v = .slice (some ⟨b, 0, none⟩) m cap ∧ l.length = m * w ∧ m ≤ cap ∧ (ints .i64 l ++ rest).length = cap * w ∧ M = [(b, ints .i64 l ++ rest)]
theorem takeS {k : IntKind} {l : List Int} {m : Nat} (rest : List Value) (h : l.length = m) : List.take m (ints k l ++ rest) = ints k l := by
  rw [← h, ← ints_length k l, List.take_left]
theorem snocS (k : IntKind) (l : List Int) (a b c : Int) : ints k l ++ [.int k a, .int k b, .int k c] = ints k (l ++ [a, b, c]) := by
  simp [ints]
theorem nodup2 {a b : Nat} {x y : List Value} (h : ([(a, x), (b, y)].map (·.1)).Nodup) : ¬ a = b := by
  simp at h
  exact h

section
variable (n : Nat) (x o : List Int) (hx : Bytes8 x) (ho : Bytes8 o) (hn : n ≤ 8)
include hx ho hn
theorem l03Crossings_c : GivesX Try.prog 113 #[.agg (gc (n : Int) x o).toArray] [] [] (Sl 3 (crTo n x o n)) := by
  have hl := hx.len
  have hm := ho.len
  skip
  refine GivesX.of (callable_of Try.func113 rfl (by decide)) ?_ fun w hnd hlt hR => ?_
  · simp
  refine acall_of (N := 34) (c := _) (rs := [.tmp 2]) (args := [_]) Try.func113 rfl (by decide) rfl rfl (Nat.le_of_ble_eq_true rfl) ?_
  refine Cd.rs [1] fun K hK => ?_
  simp (maxSteps := 2000000) (disch := first | (simp only [E4, hl, hm] <;> omega) | omega | fail) only [↓E2, E3, bare, bareJ, ↓E0, E1, evP, evPlan, env0, envN, evOps, evOp, evQs, evQ, evV, setD, pureOp, ev, upd, updL, gate, binW, eqOp, binV, intOp, shOp, boolOp, unV, convV, nilV, fieldAddrV, indexAddrV, extractV, cellAt, cellsAt, findB, setB, fillL, buildV, Value.cells, lenV, minV, maxV, hav, sliceV, loV, hiV, bslQ, mksQ, appQ, partsOk, partsCells, delB, eqL, SameI, strOp, apzQ, cvtQ, capV, ↓reduceIte, Zj, Zk, Nat.reduceAdd, Nat.reduceLT, Nat.reduceEqDiff, Nat.reduceMul, Nat.reduceLeDiff, if_true, Zn, reduceCtorEq, ZA, eq_self, Int.reduceLE, Int.reduceLT, Int.reduceToNat, ne_eq, Nat.reduceSub, hl, hm]
  repeat refine And.intro (by omega) ?_
  intro b1 hb1
  try simp (maxSteps := 2000000) (disch := first | (simp only [E4, hl, hm] <;> omega) | omega | fail) only [↓E2, E3, bare, bareJ, ↓E0, E1, evP, evPlan, env0, envN, evOps, evOp, evQs, evQ, evV, setD, pureOp, ev, upd, updL, gate, binW, eqOp, binV, intOp, shOp, boolOp, unV, convV, nilV, fieldAddrV, indexAddrV, extractV, cellAt, cellsAt, findB, setB, fillL, buildV, Value.cells, lenV, minV, maxV, hav, sliceV, loV, hiV, bslQ, mksQ, appQ, partsOk, partsCells, delB, eqL, SameI, strOp, apzQ, cvtQ, capV, ↓reduceIte, Zj, Zk, Nat.reduceAdd, Nat.reduceLT, Nat.reduceEqDiff, Nat.reduceMul, Nat.reduceLeDiff, if_true, Zn, reduceCtorEq, ZA, eq_self, Int.reduceLE, Int.reduceLT, Int.reduceToNat, ne_eq, Nat.reduceSub, hl, hm]
  repeat refine And.intro (by omega) ?_
  intro g
  simp only [List.map_cons, List.map_nil, updL, upd, Nat.reduceEqDiff, if_true, if_false, ↓reduceIte]
  refine hK _ _ ?_; clear hK K
  refine Cd.rs [1, 3] fun K hK => ?_
  simp (maxSteps := 2000000) (disch := first | (simp only [E4, hl, hm] <;> omega) | omega | fail) only [↓E2, E3, bare, bareJ, ↓E0, E1, evP, evPlan, env0, envN, evOps, evOp, evQs, evQ, evV, setD, pureOp, ev, upd, updL, gate, binW, eqOp, binV, intOp, shOp, boolOp, unV, convV, nilV, fieldAddrV, indexAddrV, extractV, cellAt, cellsAt, findB, setB, fillL, buildV, Value.cells, lenV, minV, maxV, hav, sliceV, loV, hiV, bslQ, mksQ, appQ, partsOk, partsCells, delB, eqL, SameI, strOp, apzQ, cvtQ, capV, ↓reduceIte, Zj, Zk, Nat.reduceAdd, Nat.reduceLT, Nat.reduceEqDiff, Nat.reduceMul, Nat.reduceLeDiff, if_true, Zn, reduceCtorEq, ZA, eq_self, Int.reduceLE, Int.reduceLT, Int.reduceToNat, ne_eq, Nat.reduceSub, Tby117, Tslc114, Tslce114, Tzero117, hl, hm]
  repeat refine And.intro (by omega) ?_
  intro b2 hb2
  have nb2_b1 := hb2.ne
  try simp (maxSteps := 2000000) (disch := first | (simp only [E4, hl, hm, nb2_b1] <;> omega) | omega | fail) only [↓E2, E3, bare, bareJ, ↓E0, E1, evP, evPlan, env0, envN, evOps, evOp, evQs, evQ, evV, setD, pureOp, ev, upd, updL, gate, binW, eqOp, binV, intOp, shOp, boolOp, unV, convV, nilV, fieldAddrV, indexAddrV, extractV, cellAt, cellsAt, findB, setB, fillL, buildV, Value.cells, lenV, minV, maxV, hav, sliceV, loV, hiV, bslQ, mksQ, appQ, partsOk, partsCells, delB, eqL, SameI, strOp, apzQ, cvtQ, capV, ↓reduceIte, Zj, Zk, Nat.reduceAdd, Nat.reduceLT, Nat.reduceEqDiff, Nat.reduceMul, Nat.reduceLeDiff, if_true, Zn, reduceCtorEq, ZA, eq_self, Int.reduceLE, Int.reduceLT, Int.reduceToNat, ne_eq, Nat.reduceSub, Tby117, Tslc114, Tslce114, Tzero117, hl, hm, nb2_b1]
  repeat refine And.intro (by omega) ?_
  intro g
  simp only [List.map_cons, List.map_nil, updL, upd, Nat.reduceEqDiff, if_true, if_false, ↓reduceIte]
  refine hK _ _ ?_; clear hK K
  refine Cd.seq ?_
  refine Cd.rs [1, 3, 4] fun K hK => ?_
  simp (maxSteps := 2000000) (disch := first | (simp only [E4, hl, hm, nb2_b1] <;> omega) | omega | fail) only [↓E2, E3, bare, bareJ, ↓E0, E1, evP, evPlan, env0, envN, evOps, evOp, evQs, evQ, evV, setD, pureOp, ev, upd, updL, gate, binW, eqOp, binV, intOp, shOp, boolOp, unV, convV, nilV, fieldAddrV, indexAddrV, extractV, cellAt, cellsAt, findB, setB, fillL, buildV, Value.cells, lenV, minV, maxV, hav, sliceV, loV, hiV, bslQ, mksQ, appQ, partsOk, partsCells, delB, eqL, SameI, strOp, apzQ, cvtQ, capV, ↓reduceIte, Zj, Zk, Nat.reduceAdd, Nat.reduceLT, Nat.reduceEqDiff, Nat.reduceMul, Nat.reduceLeDiff, if_true, Zn, reduceCtorEq, ZA, eq_self, Int.reduceLE, Int.reduceLT, Int.reduceToNat, ne_eq, Nat.reduceSub, hl, hm, nb2_b1]
  repeat refine And.intro (by omega) ?_
  intro g
  simp only [List.map_cons, List.map_nil, updL, upd, Nat.reduceEqDiff, if_true, if_false, ↓reduceIte]
  refine hK _ _ ?_; clear hK K
  refine Cd.block ?_
  refine Cd.loop (fun m ρ M => ∃ g i b len cap rest, i + m = n ∧ (crTo n x o i).length = len * 3 ∧ len ≤ cap ∧ (ints .i64 (crTo n x o i) ++ rest).length = cap * 3 ∧ ρ = updL [(1, .pointer (some ⟨b1, 0, none⟩)), (3, .slice (some ⟨b, 0, none⟩) len cap), (4, .int .i64 (i : Int))] g ∧
    List.Sublist [(b, ints .i64 (crTo n x o i) ++ rest), (b1, gc (n : Int) x o)] M) n ⟨_, 0, b2, 0, 0, [], Nat.zero_add _, rfl, Nat.le_refl _, rfl, rfl, List.Sublist.refl _⟩ ?_
  rintro m ρ M ⟨g, i, b, len, cap, rest, hi, hlen, hcap, hrest, rfl, hM⟩
  refine Cd.drop hM ?_
  clear hM M
  refine Cd.nodup fun hnd => ?_
  have d1 := nodup2 hnd
  clear hnd
  have d1' : ¬ b1 = b := fun e => d1 e.symm
  skip
  refine Cd.seq ?_
  refine Cd.rs [1, 3, 4, 11] fun K hK => ?_
  simp (maxSteps := 2000000) (disch := first | (simp only [E4, hl, hm, nb2_b1, d1, d1'] <;> omega) | omega | fail) only [↓E2, E3, bare, bareJ, ↓E0, E1, evP, evPlan, env0, envN, evOps, evOp, evQs, evQ, evV, setD, pureOp, ev, upd, updL, gate, binW, eqOp, binV, intOp, shOp, boolOp, unV, convV, nilV, fieldAddrV, indexAddrV, extractV, cellAt, cellsAt, findB, setB, fillL, buildV, Value.cells, lenV, minV, maxV, hav, sliceV, loV, hiV, bslQ, mksQ, appQ, partsOk, partsCells, delB, eqL, SameI, strOp, apzQ, cvtQ, capV, ↓reduceIte, Zj, Zk, Nat.reduceAdd, Nat.reduceLT, Nat.reduceEqDiff, Nat.reduceMul, Nat.reduceLeDiff, if_true, Zn, reduceCtorEq, ZA, eq_self, Int.reduceLE, Int.reduceLT, Int.reduceToNat, ne_eq, Nat.reduceSub, Tfld32_0, Tld2, hl, hm, nb2_b1, d1, d1']
  repeat refine And.intro (by omega) ?_
  intro g
  simp only [List.map_cons, List.map_nil, updL, upd, Nat.reduceEqDiff, if_true, if_false, ↓reduceIte]
  refine hK _ _ ?_; clear hK K
  refine Cd.condd rfl (fun h1 => ?_) (fun h1 => ?_)
  · refine Cd.skip ?_
    refine thenN ?_
    refine Cd.seq ?_
    refine Cd.block ?_
    refine Cd.rs [1, 3, 4, 5] fun K hK => ?_
    simp (maxSteps := 2000000) (disch := first | (simp only [E4, hl, hm, nb2_b1, d1, d1'] <;> omega) | omega | fail) only [↓E2, E3, bare, bareJ, ↓E0, E1, evP, evPlan, env0, envN, evOps, evOp, evQs, evQ, evV, setD, pureOp, ev, upd, updL, gate, binW, eqOp, binV, intOp, shOp, boolOp, unV, convV, nilV, fieldAddrV, indexAddrV, extractV, cellAt, cellsAt, findB, setB, fillL, buildV, Value.cells, lenV, minV, maxV, hav, sliceV, loV, hiV, bslQ, mksQ, appQ, partsOk, partsCells, delB, eqL, SameI, strOp, apzQ, cvtQ, capV, ↓reduceIte, Zj, Zk, Nat.reduceAdd, Nat.reduceLT, Nat.reduceEqDiff, Nat.reduceMul, Nat.reduceLeDiff, if_true, Zn, reduceCtorEq, ZA, eq_self, Int.reduceLE, Int.reduceLT, Int.reduceToNat, ne_eq, Nat.reduceSub, hl, hm, nb2_b1, d1, d1']
    repeat refine And.intro (by omega) ?_
    intro g
    simp only [List.map_cons, List.map_nil, updL, upd, Nat.reduceEqDiff, if_true, if_false, ↓reduceIte]
    refine hK _ _ ?_; clear hK K
    refine Cd.block ?_
    refine Cd.loop (fun m ρ M => ∃ g r b len cap rest, r + m = n ∧ (crTo n x o i ++ crRow n x o i r).length = len * 3 ∧ len ≤ cap ∧ (ints .i64 (crTo n x o i ++ crRow n x o i r) ++ rest).length = cap * 3 ∧ ρ = updL [(1, .pointer (some ⟨b1, 0, none⟩)), (3, .slice (some ⟨b, 0, none⟩) len cap), (4, .int .i64 (i : Int)), (5, .int .i64 (r : Int))] g ∧
      List.Sublist [(b, ints .i64 (crTo n x o i ++ crRow n x o i r) ++ rest), (b1, gc (n : Int) x o)] M) n ⟨_, 0, b, len, cap, rest, Nat.zero_add _, by rw [show crRow n x o i 0 = [] from rfl, List.append_nil]; exact hlen, hcap, by rw [show crRow n x o i 0 = [] from rfl, List.append_nil]; exact hrest, rfl, by rw [show crRow n x o i 0 = [] from rfl, List.append_nil]; exact List.Sublist.refl _⟩ ?_
    rintro m' ρ M ⟨g, r, b, len, cap, rest, hr, hlen, hcap, hrest, rfl, hM⟩
    refine Cd.drop hM ?_
    clear hM M
    refine Cd.nodup fun hnd => ?_
    have e1 := nodup2 hnd
    clear hnd
    have e1' : ¬ b1 = b := fun e => e1 e.symm
    skip
    refine Cd.seq ?_
    refine Cd.rs [1, 3, 4, 5, 17] fun K hK => ?_
    simp (maxSteps := 2000000) (disch := first | (simp only [E4, hl, hm, nb2_b1, d1, d1', e1, e1'] <;> omega) | omega | fail) only [↓E2, E3, bare, bareJ, ↓E0, E1, evP, evPlan, env0, envN, evOps, evOp, evQs, evQ, evV, setD, pureOp, ev, upd, updL, gate, binW, eqOp, binV, intOp, shOp, boolOp, unV, convV, nilV, fieldAddrV, indexAddrV, extractV, cellAt, cellsAt, findB, setB, fillL, buildV, Value.cells, lenV, minV, maxV, hav, sliceV, loV, hiV, bslQ, mksQ, appQ, partsOk, partsCells, delB, eqL, SameI, strOp, apzQ, cvtQ, capV, ↓reduceIte, Zj, Zk, Nat.reduceAdd, Nat.reduceLT, Nat.reduceEqDiff, Nat.reduceMul, Nat.reduceLeDiff, if_true, Zn, reduceCtorEq, ZA, eq_self, Int.reduceLE, Int.reduceLT, Int.reduceToNat, ne_eq, Nat.reduceSub, Tfld32_0, Tld2, hl, hm, nb2_b1, d1, d1', e1, e1']
    repeat refine And.intro (by omega) ?_
    intro g
    simp only [List.map_cons, List.map_nil, updL, upd, Nat.reduceEqDiff, if_true, if_false, ↓reduceIte]
    refine hK _ _ ?_; clear hK K
    refine Cd.condd rfl (fun h2 => ?_) (fun h2 => ?_)
    · refine Cd.skip ?_
      refine thenN ?_
      refine Cd.seq ?_
      refine Cd.block ?_
      refine Cd.rs [1, 3, 4, 5, 6] fun K hK => ?_
      simp (maxSteps := 2000000) (disch := first | (simp only [E4, hl, hm, nb2_b1, d1, d1', e1, e1'] <;> omega) | omega | fail) only [↓E2, E3, bare, bareJ, ↓E0, E1, evP, evPlan, env0, envN, evOps, evOp, evQs, evQ, evV, setD, pureOp, ev, upd, updL, gate, binW, eqOp, binV, intOp, shOp, boolOp, unV, convV, nilV, fieldAddrV, indexAddrV, extractV, cellAt, cellsAt, findB, setB, fillL, buildV, Value.cells, lenV, minV, maxV, hav, sliceV, loV, hiV, bslQ, mksQ, appQ, partsOk, partsCells, delB, eqL, SameI, strOp, apzQ, cvtQ, capV, ↓reduceIte, Zj, Zk, Nat.reduceAdd, Nat.reduceLT, Nat.reduceEqDiff, Nat.reduceMul, Nat.reduceLeDiff, if_true, Zn, reduceCtorEq, ZA, eq_self, Int.reduceLE, Int.reduceLT, Int.reduceToNat, ne_eq, Nat.reduceSub, Tld32, hl, hm, nb2_b1, d1, d1', e1, e1']
      refine callK_gives (l03Cross_c n x o hx ho hn i r (by omega) (by omega)) ?_
      simp (maxSteps := 2000000) (disch := first | (simp only [E4, hl, hm, nb2_b1, d1, d1', e1, e1'] <;> omega) | omega | fail) only [↓E2, E3, bare, bareJ, ↓E0, E1, evP, evPlan, env0, envN, evOps, evOp, evQs, evQ, evV, setD, pureOp, ev, upd, updL, gate, binW, eqOp, binV, intOp, shOp, boolOp, unV, convV, nilV, fieldAddrV, indexAddrV, extractV, cellAt, cellsAt, findB, setB, fillL, buildV, Value.cells, lenV, minV, maxV, hav, sliceV, loV, hiV, bslQ, mksQ, appQ, partsOk, partsCells, delB, eqL, SameI, strOp, apzQ, cvtQ, capV, ↓reduceIte, Zj, Zk, Nat.reduceAdd, Nat.reduceLT, Nat.reduceEqDiff, Nat.reduceMul, Nat.reduceLeDiff, if_true, Zn, reduceCtorEq, ZA, eq_self, Int.reduceLE, Int.reduceLT, Int.reduceToNat, ne_eq, Nat.reduceSub, Tld32, hl, hm, nb2_b1, d1, d1', e1, e1']
      repeat refine And.intro (by omega) ?_
      intro g
      simp only [List.map_cons, List.map_nil, updL, upd, Nat.reduceEqDiff, if_true, if_false, ↓reduceIte]
      refine hK _ _ ?_; clear hK K
      refine Cd.rs [1, 3, 4, 5, 6, 25] fun K hK => ?_
      simp (maxSteps := 2000000) (disch := first | (simp only [E4, hl, hm, nb2_b1, d1, d1', e1, e1'] <;> omega) | omega | fail) only [↓E2, E3, bare, bareJ, ↓E0, E1, evP, evPlan, env0, envN, evOps, evOp, evQs, evQ, evV, setD, pureOp, ev, upd, updL, gate, binW, eqOp, binV, intOp, shOp, boolOp, unV, convV, nilV, fieldAddrV, indexAddrV, extractV, cellAt, cellsAt, findB, setB, fillL, buildV, Value.cells, lenV, minV, maxV, hav, sliceV, loV, hiV, bslQ, mksQ, appQ, partsOk, partsCells, delB, eqL, SameI, strOp, apzQ, cvtQ, capV, ↓reduceIte, Zj, Zk, Nat.reduceAdd, Nat.reduceLT, Nat.reduceEqDiff, Nat.reduceMul, Nat.reduceLeDiff, if_true, Zn, reduceCtorEq, ZA, eq_self, Int.reduceLE, Int.reduceLT, Int.reduceToNat, ne_eq, Nat.reduceSub, hl, hm, nb2_b1, d1, d1', e1, e1']
      repeat refine And.intro (by omega) ?_
      intro g
      simp only [List.map_cons, List.map_nil, updL, upd, Nat.reduceEqDiff, if_true, if_false, ↓reduceIte]
      refine hK _ _ ?_; clear hK K
      refine Cd.cond rfl (fun h3 => ?_) (fun h3 => ?_)
      · simp only [decide_eq_true_eq, decide_eq_false_iff_not, beq_iff_eq, beq_eq_false_iff_ne, bne_iff_ne, bne_eq_false_iff_eq, Bool.and_eq_true, Bool.or_eq_true, Bool.or_eq_false_iff, Bool.not_eq_true', Bool.not_eq_false', Bool.and_eq_false_imp, ne_eq, gt_iff_lt, ge_iff_le, Int.not_lt, Int.not_le, Classical.not_not] at h3
        refine Cd.rr [1, 3, 4, 5] fun K hK => ?_
        simp (maxSteps := 2000000) (disch := first | (simp only [E4, hl, hm, nb2_b1, d1, d1', e1, e1'] <;> omega) | omega | fail) only [↓E2, E3, bare, bareJ, ↓E0, E1, evP, evPlan, env0, envN, evOps, evOp, evQs, evQ, evV, setD, pureOp, ev, upd, updL, gate, binW, eqOp, binV, intOp, shOp, boolOp, unV, convV, nilV, fieldAddrV, indexAddrV, extractV, cellAt, cellsAt, findB, setB, fillL, buildV, Value.cells, lenV, minV, maxV, hav, sliceV, loV, hiV, bslQ, mksQ, appQ, partsOk, partsCells, delB, eqL, SameI, strOp, apzQ, cvtQ, capV, ↓reduceIte, Zj, Zk, Nat.reduceAdd, Nat.reduceLT, Nat.reduceEqDiff, Nat.reduceMul, Nat.reduceLeDiff, if_true, Zn, reduceCtorEq, ZA, eq_self, Int.reduceLE, Int.reduceLT, Int.reduceToNat, ne_eq, Nat.reduceSub, Tbld117, Tby117, Tslc114, Tslce114, Tzero117, hl, hm, nb2_b1, d1, d1', e1, e1']
        repeat refine And.intro (by omega) ?_
        intro b3 hb3
        have nb3_b2 := hb3.ne
        have nb3_b1 := hb3.tail.ne
        try simp (maxSteps := 2000000) (disch := first | (simp only [E4, hl, hm, nb2_b1, d1, d1', e1, e1', nb3_b2, nb3_b1] <;> omega) | omega | fail) only [↓E2, E3, bare, bareJ, ↓E0, E1, evP, evPlan, env0, envN, evOps, evOp, evQs, evQ, evV, setD, pureOp, ev, upd, updL, gate, binW, eqOp, binV, intOp, shOp, boolOp, unV, convV, nilV, fieldAddrV, indexAddrV, extractV, cellAt, cellsAt, findB, setB, fillL, buildV, Value.cells, lenV, minV, maxV, hav, sliceV, loV, hiV, bslQ, mksQ, appQ, partsOk, partsCells, delB, eqL, SameI, strOp, apzQ, cvtQ, capV, ↓reduceIte, Zj, Zk, Nat.reduceAdd, Nat.reduceLT, Nat.reduceEqDiff, Nat.reduceMul, Nat.reduceLeDiff, if_true, Zn, reduceCtorEq, ZA, eq_self, Int.reduceLE, Int.reduceLT, Int.reduceToNat, ne_eq, Nat.reduceSub, Tbld117, Tby117, Tslc114, Tslce114, Tzero117, hl, hm, nb2_b1, d1, d1', e1, e1', nb3_b2, nb3_b1]
        have ec : crTo n x o i ++ crRow n x o i (r + 1) = (crTo n x o i ++ crRow n x o i r) ++ [(i : Int), (r : Int), crossS n x o i r] := by
          show _ ++ (_ ++ _) = _
          rw [if_neg h3, List.append_assoc]
        have q9 : len ≤ 100 := by
          obtain ⟨m1, q1, q2⟩ := crTo_len n x o i
          obtain ⟨m2, q3, q4⟩ := crRow_len n x o i r
          have q6 : n * i ≤ 8 * 8 := Nat.mul_le_mul hn (by omega)
          rw [List.length_append, q2, q4] at hlen
          omega
        refine ⟨⟨hrest, hcap, by omega, by omega⟩, fun b' cap' rest' hf hc hr' => ?_⟩
        have et := takeS (k := .i64) rest hlen
        rw [et, snocS, ← ec]
        repeat refine And.intro (by omega) ?_
        intro g
        simp only [List.map_cons, List.map_nil, updL, upd, Nat.reduceEqDiff, if_true, if_false, ↓reduceIte]
        refine hK _ _ ?_; clear hK K
        refine inBN ?_
        refine thenN ?_
        refine Cd.rr [1, 3, 4, 5] fun K hK => ?_
        simp (maxSteps := 2000000) (disch := first | (simp only [E4, hl, hm, nb2_b1, d1, d1', e1, e1', nb3_b2, nb3_b1] <;> omega) | omega | fail) only [↓E2, E3, bare, bareJ, ↓E0, E1, evP, evPlan, env0, envN, evOps, evOp, evQs, evQ, evV, setD, pureOp, ev, upd, updL, gate, binW, eqOp, binV, intOp, shOp, boolOp, unV, convV, nilV, fieldAddrV, indexAddrV, extractV, cellAt, cellsAt, findB, setB, fillL, buildV, Value.cells, lenV, minV, maxV, hav, sliceV, loV, hiV, bslQ, mksQ, appQ, partsOk, partsCells, delB, eqL, SameI, strOp, apzQ, cvtQ, capV, ↓reduceIte, Zj, Zk, Nat.reduceAdd, Nat.reduceLT, Nat.reduceEqDiff, Nat.reduceMul, Nat.reduceLeDiff, if_true, Zn, reduceCtorEq, ZA, eq_self, Int.reduceLE, Int.reduceLT, Int.reduceToNat, ne_eq, Nat.reduceSub, hl, hm, nb2_b1, d1, d1', e1, e1', nb3_b2, nb3_b1]
        repeat refine And.intro (by omega) ?_
        intro g
        simp only [List.map_cons, List.map_nil, updL, upd, Nat.reduceEqDiff, if_true, if_false, ↓reduceIte]
        refine hK _ _ ?_; clear hK K
        refine roundN (m := m' - 1) (by omega) ⟨_, r + 1, b', len + 1, cap', rest', by omega, ?_, hc, ?_, rfl, List.Sublist.cons_cons _ (List.Sublist.cons _ (List.Sublist.refl _))⟩
        · rw [ec, List.length_append, hlen]
          show len * 3 + 3 = _
          omega
        · rw [ec, List.length_append, ints_length, List.length_append, hlen, hr']
          show len * 3 + 3 + _ = _
          omega
      · simp only [decide_eq_true_eq, decide_eq_false_iff_not, beq_iff_eq, beq_eq_false_iff_ne, bne_iff_ne, bne_eq_false_iff_eq, Bool.and_eq_true, Bool.or_eq_true, Bool.or_eq_false_iff, Bool.not_eq_true', Bool.not_eq_false', Bool.and_eq_false_imp, ne_eq, gt_iff_lt, ge_iff_le, Int.not_lt, Int.not_le, Classical.not_not] at h3
        have e : crRow n x o i (r + 1) = crRow n x o i r := by show _ ++ _ = _; rw [if_pos h3, List.append_nil]
        rw [← e] at hlen hrest
        rw [← e]
        refine Cd.skip ?_
        refine inBN ?_
        refine thenN ?_
        refine Cd.rr [1, 3, 4, 5] fun K hK => ?_
        simp (maxSteps := 2000000) (disch := first | (simp only [E4, hl, hm, nb2_b1, d1, d1', e1, e1'] <;> omega) | omega | fail) only [↓E2, E3, bare, bareJ, ↓E0, E1, evP, evPlan, env0, envN, evOps, evOp, evQs, evQ, evV, setD, pureOp, ev, upd, updL, gate, binW, eqOp, binV, intOp, shOp, boolOp, unV, convV, nilV, fieldAddrV, indexAddrV, extractV, cellAt, cellsAt, findB, setB, fillL, buildV, Value.cells, lenV, minV, maxV, hav, sliceV, loV, hiV, bslQ, mksQ, appQ, partsOk, partsCells, delB, eqL, SameI, strOp, apzQ, cvtQ, capV, ↓reduceIte, Zj, Zk, Nat.reduceAdd, Nat.reduceLT, Nat.reduceEqDiff, Nat.reduceMul, Nat.reduceLeDiff, if_true, Zn, reduceCtorEq, ZA, eq_self, Int.reduceLE, Int.reduceLT, Int.reduceToNat, ne_eq, Nat.reduceSub, hl, hm, nb2_b1, d1, d1', e1, e1']
        repeat refine And.intro (by omega) ?_
        intro g
        simp only [List.map_cons, List.map_nil, updL, upd, Nat.reduceEqDiff, if_true, if_false, ↓reduceIte]
        refine hK _ _ ?_; clear hK K
        exact roundN (m := m' - 1) (by omega) ⟨_, r + 1, b, len, cap, rest, by omega, hlen, hcap, hrest, rfl, List.Sublist.refl _⟩
    · refine Cd.exit (thenX (roundX (inBX ?_)))
      refine inBN ?_
      refine thenN ?_
      obtain rfl : n = r := by omega
      have ec : crTo n x o i ++ crRow n x o i n = crTo n x o (i + 1) := rfl
      rw [ec] at hlen hrest
      rw [ec]
      refine Cd.rr [1, 3, 4] fun K hK => ?_
      simp (maxSteps := 2000000) (disch := first | (simp only [E4, hl, hm, nb2_b1, d1, d1', e1, e1'] <;> omega) | omega | fail) only [↓E2, E3, bare, bareJ, ↓E0, E1, evP, evPlan, env0, envN, evOps, evOp, evQs, evQ, evV, setD, pureOp, ev, upd, updL, gate, binW, eqOp, binV, intOp, shOp, boolOp, unV, convV, nilV, fieldAddrV, indexAddrV, extractV, cellAt, cellsAt, findB, setB, fillL, buildV, Value.cells, lenV, minV, maxV, hav, sliceV, loV, hiV, bslQ, mksQ, appQ, partsOk, partsCells, delB, eqL, SameI, strOp, apzQ, cvtQ, capV, ↓reduceIte, Zj, Zk, Nat.reduceAdd, Nat.reduceLT, Nat.reduceEqDiff, Nat.reduceMul, Nat.reduceLeDiff, if_true, Zn, reduceCtorEq, ZA, eq_self, Int.reduceLE, Int.reduceLT, Int.reduceToNat, ne_eq, Nat.reduceSub, hl, hm, nb2_b1, d1, d1', e1, e1']
      repeat refine And.intro (by omega) ?_
      intro g
      simp only [List.map_cons, List.map_nil, updL, upd, Nat.reduceEqDiff, if_true, if_false, ↓reduceIte]
      refine hK _ _ ?_; clear hK K
      exact roundN (m := m - 1) (by omega) ⟨_, i + 1, b, len, cap, rest, by omega, hlen, hcap, hrest, rfl, List.Sublist.refl _⟩
  · refine Cd.exit (thenX (roundX (inBX ?_)))
    refine thenN ?_
    obtain rfl : n = i := by omega
    refine Cd.rs [2] fun K hK => ?_
    simp (maxSteps := 2000000) (disch := first | (simp only [E4, hl, hm, nb2_b1, d1, d1'] <;> omega) | omega | fail) only [↓E2, E3, bare, bareJ, ↓E0, E1, evP, evPlan, env0, envN, evOps, evOp, evQs, evQ, evV, setD, pureOp, ev, upd, updL, gate, binW, eqOp, binV, intOp, shOp, boolOp, unV, convV, nilV, fieldAddrV, indexAddrV, extractV, cellAt, cellsAt, findB, setB, fillL, buildV, Value.cells, lenV, minV, maxV, hav, sliceV, loV, hiV, bslQ, mksQ, appQ, partsOk, partsCells, delB, eqL, SameI, strOp, apzQ, cvtQ, capV, ↓reduceIte, Zj, Zk, Nat.reduceAdd, Nat.reduceLT, Nat.reduceEqDiff, Nat.reduceMul, Nat.reduceLeDiff, if_true, Zn, reduceCtorEq, ZA, eq_self, Int.reduceLE, Int.reduceLT, Int.reduceToNat, ne_eq, Nat.reduceSub, hl, hm, nb2_b1, d1, d1']
    repeat refine And.intro (by omega) ?_
    intro g
    simp only [List.map_cons, List.map_nil, updL, upd, Nat.reduceEqDiff, if_true, if_false, ↓reduceIte]
    refine hK _ _ ?_; clear hK K
    refine Cd.drop (List.Sublist.cons_cons _ (List.Sublist.cons _ List.Sublist.slnil)) ?_
    refine Cd.ret ?_
    simp (maxSteps := 2000000) (disch := first | (simp only [E4, hl, hm, nb2_b1, d1, d1'] <;> omega) | omega | fail) only [↓E2, E3, bare, bareJ, ↓E0, E1, evP, evPlan, env0, envN, evOps, evOp, evQs, evQ, evV, setD, pureOp, ev, upd, updL, gate, binW, eqOp, binV, intOp, shOp, boolOp, unV, convV, nilV, fieldAddrV, indexAddrV, extractV, cellAt, cellsAt, findB, setB, fillL, buildV, Value.cells, lenV, minV, maxV, hav, sliceV, loV, hiV, bslQ, mksQ, appQ, partsOk, partsCells, delB, eqL, SameI, strOp, apzQ, cvtQ, capV, ↓reduceIte, Zj, Zk, Nat.reduceAdd, Nat.reduceLT, Nat.reduceEqDiff, Nat.reduceMul, Nat.reduceLeDiff, if_true, Zn, reduceCtorEq, ZA, eq_self, Int.reduceLE, Int.reduceLT, Int.reduceToNat, ne_eq, Nat.reduceSub, hl, hm, nb2_b1, d1, d1']
    exact ⟨b, len, cap, rest, rfl, hlen, hcap, hrest, rfl⟩
end

end Go.Proofs

/-
  What the functions of this part hand back: each as a plain function of its arguments. Conditions: none.
-/
namespace Go.Proofs
open Go.W8
set_option linter.unusedVariables false
set_option linter.unusedSimpArgs false
set_option linter.unusedSectionVars false
set_option maxRecDepth 8000
set_option maxHeartbeats 4000000
--@plain
/-- The labels of a walk that goes on till it meets a label. -/
def walkC (nx : Nat → Nat) (c : Int) : Nat → Nat → List Int → List Int
  | 0, _, l => l
  | f + 1, k, l => if l.getD k 0 < 0 then walkC nx c f (nx k) (l.set k c) else l
/-- The labels and their number, by the columns ahead of i. -/
def compTo (nx : Nat → Nat) : Nat → List Int × Nat
  | 0 => (List.replicate 8 (-1), 0)
  | i + 1 => if 0 ≤ (compTo nx i).1.getD i 0 then compTo nx i else (walkC nx (compTo nx i).2 8 i (compTo nx i).1, (compTo nx i).2 + 1)
def negs (l : List Int) : Nat := l.countP fun e => decide (e < 0)

theorem cgetD_set {l : List Int} {i j : Nat} {v : Int} (h : i < l.length) : (l.set i v).getD j 0 = if i = j then v else l.getD j 0 := by
  rw [List.getD_eq_getElem?_getD, List.getElem?_set]
  by_cases e : i = j
  · subst e; rw [if_pos rfl, if_pos h, if_pos rfl]; rfl
  · rw [if_neg e, if_neg e, List.getD_eq_getElem?_getD]

theorem negs_set {c : Int} (hc : 0 ≤ c) : ∀ (l : List Int) (k : Nat), k < l.length → l.getD k 0 < 0 → negs (l.set k c) + 1 = negs l
  | [], k, h, _ => by simp at h
  | a :: l, 0, _, h => by
    have h : a < 0 := by simpa using h
    have h' : ¬ c < 0 := by omega
    simp [negs, h, h']
  | a :: l, k + 1, h, h1 => by
    have ih := negs_set hc l k (by simpa using h) (by simpa using h1)
    unfold negs at ih ⊢
    rw [List.set_cons_succ, List.countP_cons, List.countP_cons]
    omega
theorem negs_le {l : List Int} (h : l.length = 8) : negs l ≤ 8 := by
  unfold negs
  rw [← h]
  exact List.countP_le_length
theorem negs_pos {l : List Int} {k : Nat} (h : k < l.length) (h' : l.getD k 0 < 0) : 0 < negs l := by
  have := negs_set (c := 0) (Int.le_refl _) l k h h'
  omega

theorem walkC_end {nx : Nat → Nat} {c : Int} {k : Nat} {l : List Int} (h : ¬ l.getD k 0 < 0) : ∀ f, walkC nx c f k l = l
  | 0 => rfl
  | f + 1 => by unfold walkC; rw [if_neg h]
theorem walkC_step {nx : Nat → Nat} {c : Int} {k f : Nat} {l : List Int} (h : l.getD k 0 < 0) : walkC nx c (f + 1) k l = walkC nx c f (nx k) (l.set k c) := by
  show (if _ then _ else _) = _
  rw [if_pos h]
theorem walkC_len {nx : Nat → Nat} {c : Int} : ∀ (f k : Nat) (l : List Int), (walkC nx c f k l).length = l.length
  | 0, _, _ => rfl
  | f + 1, k, l => by
    unfold walkC
    split
    · rw [walkC_len f, List.length_set]
    · rfl
theorem walkC_get {nx : Nat → Nat} {c : Int} (hc : 0 ≤ c) : ∀ (f k : Nat) (l : List Int) (i : Nat), (walkC nx c f k l).getD i 0 = l.getD i 0 ∨ ((walkC nx c f k l).getD i 0 = c ∧ l.getD i 0 < 0)
  | 0, _, _, _ => .inl rfl
  | f + 1, k, l, i => by
    unfold walkC
    split
    · rename_i hk
      by_cases hkl : k < l.length
      · rcases walkC_get hc f (nx k) (l.set k c) i with h | ⟨h, h'⟩
        · rw [h, cgetD_set hkl]
          by_cases e : k = i
          · subst e; rw [if_pos rfl]; exact .inr ⟨rfl, hk⟩
          · rw [if_neg e]; exact .inl rfl
        · rw [cgetD_set hkl] at h'
          by_cases e : k = i
          · rw [if_pos e] at h'; omega
          · rw [if_neg e] at h'; exact .inr ⟨h, h'⟩
      · rw [List.set_eq_of_length_le (by omega)]
        exact walkC_get hc f (nx k) l i
    · exact .inl rfl
theorem walkC_self {nx : Nat → Nat} {c : Int} (hc : 0 ≤ c) {f k : Nat} {l : List Int} (hk : k < l.length) (h : l.getD k 0 < 0) : (walkC nx c (f + 1) k l).getD k 0 = c := by
  rw [walkC_step h]
  rcases walkC_get (nx := nx) hc f (nx k) (l.set k c) k with h | ⟨h, h'⟩
  · rw [h, cgetD_set hk, if_pos rfl]
  · exact h

theorem compTo_len (nx : Nat → Nat) : ∀ i, (compTo nx i).1.length = 8
  | 0 => rfl
  | i + 1 => by
    unfold compTo
    split
    · exact compTo_len nx i
    · show (walkC _ _ _ _ _).length = 8
      rw [walkC_len]; exact compTo_len nx i
theorem compTo_count (nx : Nat → Nat) : ∀ i, (compTo nx i).2 ≤ i
  | 0 => Nat.le_refl _
  | i + 1 => by
    have ih := compTo_count nx i
    unfold compTo
    split
    · omega
    · show (compTo nx i).2 + 1 ≤ _; omega
theorem compTo_bound (nx : Nat → Nat) : ∀ i j, j < 8 → -1 ≤ (compTo nx i).1.getD j 0 ∧ (compTo nx i).1.getD j 0 < ((compTo nx i).2 : Int)
  | 0, j, h => by
    have : (compTo nx 0).1.getD j 0 = -1 := by
      show (List.replicate 8 (-1 : Int)).getD j 0 = -1
      rw [List.getD_eq_getElem?_getD, List.getElem?_replicate_of_lt h]; rfl
    rw [this]
    show _ ∧ (-1 : Int) < ((0 : Nat) : Int)
    omega
  | i + 1, j, h => by
    have ih := compTo_bound nx i j h
    unfold compTo
    split
    · exact ih
    · show _ ≤ (walkC _ _ _ _ _).getD j 0 ∧ (walkC _ _ _ _ _).getD j 0 < (((compTo nx i).2 + 1 : Nat) : Int)
      rcases walkC_get (nx := nx) (c := ((compTo nx i).2 : Int)) (by omega) 8 i (compTo nx i).1 j with h1 | ⟨h1, _⟩
      · rw [h1]; omega
      · rw [h1]; omega
theorem compTo_done (nx : Nat → Nat) : ∀ i, i ≤ 8 → ∀ j, j < i → 0 ≤ (compTo nx i).1.getD j 0
  | 0, _, j, h => absurd h (Nat.not_lt_zero _)
  | i + 1, hi, j, h => by
    unfold compTo
    split
    · rename_i h0
      rcases Nat.lt_succ_iff_lt_or_eq.1 h with h1 | rfl
      · exact compTo_done nx i (by omega) j h1
      · exact h0
    · rename_i h0
      show 0 ≤ (walkC _ _ _ _ _).getD j 0
      rcases Nat.lt_succ_iff_lt_or_eq.1 h with h1 | rfl
      · have := compTo_done nx i (by omega) j h1
        rcases walkC_get (nx := nx) (c := ((compTo nx i).2 : Int)) (by omega) 8 i (compTo nx i).1 j with h1 | ⟨h1, _⟩
        · rw [h1]; exact this
        · rw [h1]; omega
      · rw [walkC_self (by omega) (by rw [compTo_len]; omega) (by omega)]
        omega
theorem compTo_same {nx : Nat → Nat} {i : Nat} (h : 0 ≤ (compTo nx i).1.getD i 0) : compTo nx (i + 1) = compTo nx i := by
  show (if _ then _ else _) = _
  rw [if_pos h]
theorem compTo_more {nx : Nat → Nat} {i : Nat} (h : ¬ 0 ≤ (compTo nx i).1.getD i 0) : compTo nx (i + 1) = (walkC nx (compTo nx i).2 8 i (compTo nx i).1, (compTo nx i).2 + 1) := by
  show (if _ then _ else _) = _
  rw [if_neg h]

/-- The next column of a component. -/
def nextOf (n : Nat) (x o : List Int) (k : Nat) : Nat := rowOf x n (o.getD k 0)
def comps (n : Nat) (x o : List Int) : List Int × Nat := compTo (nextOf n x o) n
/-- All entries one more. -/
def incL (l : List Int) : List Int := l.map (· + 1)
/-- The first k entries one less again. -/
def decTo (l : List Int) (k : Nat) : List Int := (List.range 8).map fun j => if j < k then l.getD j 0 else l.getD j 0 + 1
theorem fillTo_set (k : Nat) (hk : k < 8) : (upto 8 (fun _ => -1) 0 k).set k (-1) = upto 8 (fun _ => -1) 0 (k + 1) := upto_set rfl
theorem fillTo_full : upto 8 (fun _ => -1) 0 8 = List.replicate 8 (-1) := of_eq_true (eq_true (by decide))

end Go.Proofs

/-
  What the functions of this part hand back: each as a plain function of its arguments. Conditions: none.
-/
namespace Go.Proofs
open Go.W8
set_option linter.unusedVariables false
set_option linter.unusedSimpArgs false
set_option linter.unusedSectionVars false
set_option maxRecDepth 8000
set_option maxHeartbeats 4000000
theorem nodup4 {a b c d : Nat} {x y z u : List Value} (h : ([(a, x), (b, y), (c, z), (d, u)].map (·.1)).Nodup) : (¬ a = b ∧ ¬ a = c ∧ ¬ a = d) ∧ (¬ b = c ∧ ¬ b = d) ∧ ¬ c = d := by
  simp at h
  exact h

section
variable (n : Nat) (x o : List Int) (hx : Bytes8 x) (ho : Bytes8 o) (hn : n ≤ 8) (px : IsPerm x n) (po : IsPerm o n)
include hx ho hn px po
theorem crossings_c : GivesX Try.prog 174 #[.agg (gc (n : Int) x o).toArray] [] [] (Sl 3 (crTo n x o n)) := by
  have hl := hx.len
  have hm := ho.len
  have pl := plc_len x n
  have ql := plc_len o n
  skip
  refine GivesX.of (callable_of Try.func174 rfl (by decide)) ?_ fun w hnd hlt hR => ?_
  · simp
  refine acall_of (N := 83) (c := _) (rs := [.tmp 2]) (args := [_]) Try.func174 rfl (by decide) rfl rfl (Nat.le_of_ble_eq_true rfl) ?_
  refine Cd.rs [1] fun K hK => ?_
  simp (maxSteps := 2000000) (disch := first | (simp only [E4, hl, hm, pl, ql] <;> omega) | omega | fail) only [↓E2, E3, bare, bareJ, ↓E0, E1, evP, evPlan, env0, envN, evOps, evOp, evQs, evQ, evV, setD, pureOp, ev, upd, updL, gate, binW, eqOp, binV, intOp, shOp, boolOp, unV, convV, nilV, fieldAddrV, indexAddrV, extractV, cellAt, cellsAt, findB, setB, fillL, buildV, Value.cells, lenV, minV, maxV, hav, sliceV, loV, hiV, bslQ, mksQ, appQ, partsOk, partsCells, delB, eqL, SameI, strOp, apzQ, cvtQ, capV, ↓reduceIte, Zj, Zk, Nat.reduceAdd, Nat.reduceLT, Nat.reduceEqDiff, Nat.reduceMul, Nat.reduceLeDiff, if_true, Zn, reduceCtorEq, ZA, eq_self, Int.reduceLE, Int.reduceLT, Int.reduceToNat, ne_eq, Nat.reduceSub, hl, hm, pl, ql]
  repeat refine And.intro (by omega) ?_
  intro b1 hb1
  try simp (maxSteps := 2000000) (disch := first | (simp only [E4, hl, hm, pl, ql] <;> omega) | omega | fail) only [↓E2, E3, bare, bareJ, ↓E0, E1, evP, evPlan, env0, envN, evOps, evOp, evQs, evQ, evV, setD, pureOp, ev, upd, updL, gate, binW, eqOp, binV, intOp, shOp, boolOp, unV, convV, nilV, fieldAddrV, indexAddrV, extractV, cellAt, cellsAt, findB, setB, fillL, buildV, Value.cells, lenV, minV, maxV, hav, sliceV, loV, hiV, bslQ, mksQ, appQ, partsOk, partsCells, delB, eqL, SameI, strOp, apzQ, cvtQ, capV, ↓reduceIte, Zj, Zk, Nat.reduceAdd, Nat.reduceLT, Nat.reduceEqDiff, Nat.reduceMul, Nat.reduceLeDiff, if_true, Zn, reduceCtorEq, ZA, eq_self, Int.reduceLE, Int.reduceLT, Int.reduceToNat, ne_eq, Nat.reduceSub, hl, hm, pl, ql]
  repeat refine And.intro (by omega) ?_
  intro g
  simp only [List.map_cons, List.map_nil, updL, upd, Nat.reduceEqDiff, if_true, if_false, ↓reduceIte]
  refine hK _ _ ?_; clear hK K
  refine Cd.ps [1, 3, 4, 5] (Plan.take 0 (Plan.take 1 (Plan.take 2 (Plan.take 3 (Plan.take 4 (Plan.take 5 (Plan.take 6 (Plan.take 7 (Plan.more 8 (Plan.more 9 (Plan.one 10 (Plan.one 11 (Plan.one 12 (Plan.take 13 (Plan.done))))) (Plan.one 10 (Plan.one 9 (Plan.one 11 (Plan.one 12 (Plan.take 13 (Plan.done))))))) (Plan.more 9 (Plan.more 8 (Plan.one 10 (Plan.one 11 (Plan.one 12 (Plan.take 13 (Plan.done))))) (Plan.one 10 (Plan.more 8 (Plan.one 11 (Plan.one 12 (Plan.take 13 (Plan.done)))) (Plan.one 11 (Plan.more 8 (Plan.one 12 (Plan.take 13 (Plan.done))) (Plan.one 12 (Plan.one 8 (Plan.take 13 (Plan.done))))))))) (Plan.one 10 (Plan.more 8 (Plan.one 9 (Plan.one 11 (Plan.one 12 (Plan.take 13 (Plan.done))))) (Plan.one 9 (Plan.more 8 (Plan.one 11 (Plan.one 12 (Plan.take 13 (Plan.done)))) (Plan.one 11 (Plan.more 8 (Plan.one 12 (Plan.take 13 (Plan.done))) (Plan.one 12 (Plan.one 8 (Plan.take 13 (Plan.done)))))))))))))))))))) fol (by kernel_rfl) (Nat.le_of_ble_eq_true rfl) fun K hK => ?_
  have J : ∀ g c1 c2 c3 M, [(c3, []), (c2, ints .i64 (plc o n)), (c1, ints .i64 (plc x n)), (b1, gc (n : Int) x o)].Perm M → K (updL [(1, .pointer (some ⟨b1, 0, none⟩)), (3, .pointer (some ⟨c1, 0, none⟩)), (4, .pointer (some ⟨c2, 0, none⟩)), (5, .slice (some ⟨c3, 0, none⟩) 0 0)] g) M := by
    intro g c1 c2 c3 M hM
    refine hK _ _ (Cd.turn hM ?_); clear hK K
    clear hM
    refine Cd.seq ?_
    refine Cd.nodup fun hnd => ?_
    obtain ⟨⟨d1, d2, d3⟩, ⟨d4, d5⟩, d6⟩ := nodup4 hnd
    clear hnd
    skip
    refine Cd.rs [1, 3, 4, 5, 21, 22] fun K hK => ?_
    simp (maxSteps := 2000000) (disch := first | (simp only [E4, hl, hm, pl, ql, d1, d2, d3, d4, d5, d6] <;> omega) | omega | fail) only [↓E2, E3, bare, bareJ, ↓E0, E1, evP, evPlan, env0, envN, evOps, evOp, evQs, evQ, evV, setD, pureOp, ev, upd, updL, gate, binW, eqOp, binV, intOp, shOp, boolOp, unV, convV, nilV, fieldAddrV, indexAddrV, extractV, cellAt, cellsAt, findB, setB, fillL, buildV, Value.cells, lenV, minV, maxV, hav, sliceV, loV, hiV, bslQ, mksQ, appQ, partsOk, partsCells, delB, eqL, SameI, strOp, apzQ, cvtQ, capV, ↓reduceIte, Zj, Zk, Nat.reduceAdd, Nat.reduceLT, Nat.reduceEqDiff, Nat.reduceMul, Nat.reduceLeDiff, if_true, Zn, reduceCtorEq, ZA, eq_self, Int.reduceLE, Int.reduceLT, Int.reduceToNat, ne_eq, Nat.reduceSub, Tld32, hl, hm, pl, ql, d1, d2, d3, d4, d5, d6]
    refine callK_gives (n_c _ _ _ hl hm) ?_
    simp (maxSteps := 2000000) (disch := first | (simp only [E4, hl, hm, pl, ql, d1, d2, d3, d4, d5, d6] <;> omega) | omega | fail) only [↓E2, E3, bare, bareJ, ↓E0, E1, evP, evPlan, env0, envN, evOps, evOp, evQs, evQ, evV, setD, pureOp, ev, upd, updL, gate, binW, eqOp, binV, intOp, shOp, boolOp, unV, convV, nilV, fieldAddrV, indexAddrV, extractV, cellAt, cellsAt, findB, setB, fillL, buildV, Value.cells, lenV, minV, maxV, hav, sliceV, loV, hiV, bslQ, mksQ, appQ, partsOk, partsCells, delB, eqL, SameI, strOp, apzQ, cvtQ, capV, ↓reduceIte, Zj, Zk, Nat.reduceAdd, Nat.reduceLT, Nat.reduceEqDiff, Nat.reduceMul, Nat.reduceLeDiff, if_true, Zn, reduceCtorEq, ZA, eq_self, Int.reduceLE, Int.reduceLT, Int.reduceToNat, ne_eq, Nat.reduceSub, Tld32, hl, hm, pl, ql, d1, d2, d3, d4, d5, d6]
    repeat refine And.intro (by omega) ?_
    intro g
    simp only [List.map_cons, List.map_nil, updL, upd, Nat.reduceEqDiff, if_true, if_false, ↓reduceIte]
    refine hK _ _ ?_; clear hK K
    refine Cd.block ?_
    refine Cd.loop (fun m ρ M => ∃ g i b len cap rest, i + m = n ∧ (crTo n x o i).length = len * 3 ∧ len ≤ cap ∧ (ints .i64 (crTo n x o i) ++ rest).length = cap * 3 ∧ ρ = updL [(1, .pointer (some ⟨b1, 0, none⟩)), (3, .pointer (some ⟨c1, 0, none⟩)), (4, .pointer (some ⟨c2, 0, none⟩)), (5, .slice (some ⟨b, 0, none⟩) len cap), (21, .int .i64 (n : Int)), (22, .int .i64 (i : Int))] g ∧
      List.Sublist [(b, ints .i64 (crTo n x o i) ++ rest), (c2, ints .i64 (plc o n)), (c1, ints .i64 (plc x n)), (b1, gc (n : Int) x o)] M) n ⟨_, 0, c3, 0, 0, [], Nat.zero_add _, rfl, Nat.le_refl _, rfl, rfl, List.Sublist.refl _⟩ ?_
    rintro m ρ M ⟨g, i, b, len, cap, rest, hi, hlen, hcap, hrest, rfl, hM⟩
    refine Cd.drop hM ?_
    clear hM M
    refine Cd.nodup fun hnd => ?_
    obtain ⟨⟨f1, f2, f3⟩, _⟩ := nodup4 hnd
    clear hnd
    skip
    refine Cd.rs [1, 3, 4, 5, 21, 22, 23] fun K hK => ?_
    simp (maxSteps := 2000000) (disch := first | (simp only [E4, hl, hm, pl, ql, d1, d2, d3, d4, d5, d6, f1, f2, f3] <;> omega) | omega | fail) only [↓E2, E3, bare, bareJ, ↓E0, E1, evP, evPlan, env0, envN, evOps, evOp, evQs, evQ, evV, setD, pureOp, ev, upd, updL, gate, binW, eqOp, binV, intOp, shOp, boolOp, unV, convV, nilV, fieldAddrV, indexAddrV, extractV, cellAt, cellsAt, findB, setB, fillL, buildV, Value.cells, lenV, minV, maxV, hav, sliceV, loV, hiV, bslQ, mksQ, appQ, partsOk, partsCells, delB, eqL, SameI, strOp, apzQ, cvtQ, capV, ↓reduceIte, Zj, Zk, Nat.reduceAdd, Nat.reduceLT, Nat.reduceEqDiff, Nat.reduceMul, Nat.reduceLeDiff, if_true, Zn, reduceCtorEq, ZA, eq_self, Int.reduceLE, Int.reduceLT, Int.reduceToNat, ne_eq, Nat.reduceSub, hl, hm, pl, ql, d1, d2, d3, d4, d5, d6, f1, f2, f3]
    repeat refine And.intro (by omega) ?_
    intro g
    simp only [List.map_cons, List.map_nil, updL, upd, Nat.reduceEqDiff, if_true, if_false, ↓reduceIte]
    refine hK _ _ ?_; clear hK K
    refine Cd.seq ?_
    refine Cd.condd rfl (fun h1 => ?_) (fun h1 => ?_)
    · refine Cd.skip ?_
      refine thenN ?_
      refine Cd.seq ?_
      refine Cd.block ?_
      refine Cd.rs [1, 3, 4, 5, 6, 21, 22] fun K hK => ?_
      simp (maxSteps := 2000000) (disch := first | (simp only [E4, hl, hm, pl, ql, d1, d2, d3, d4, d5, d6, f1, f2, f3] <;> omega) | omega | fail) only [↓E2, E3, bare, bareJ, ↓E0, E1, evP, evPlan, env0, envN, evOps, evOp, evQs, evQ, evV, setD, pureOp, ev, upd, updL, gate, binW, eqOp, binV, intOp, shOp, boolOp, unV, convV, nilV, fieldAddrV, indexAddrV, extractV, cellAt, cellsAt, findB, setB, fillL, buildV, Value.cells, lenV, minV, maxV, hav, sliceV, loV, hiV, bslQ, mksQ, appQ, partsOk, partsCells, delB, eqL, SameI, strOp, apzQ, cvtQ, capV, ↓reduceIte, Zj, Zk, Nat.reduceAdd, Nat.reduceLT, Nat.reduceEqDiff, Nat.reduceMul, Nat.reduceLeDiff, if_true, Zn, reduceCtorEq, ZA, eq_self, Int.reduceLE, Int.reduceLT, Int.reduceToNat, ne_eq, Nat.reduceSub, hl, hm, pl, ql, d1, d2, d3, d4, d5, d6, f1, f2, f3]
      repeat refine And.intro (by omega) ?_
      intro g
      simp only [List.map_cons, List.map_nil, updL, upd, Nat.reduceEqDiff, if_true, if_false, ↓reduceIte]
      refine hK _ _ ?_; clear hK K
      refine Cd.rs [1, 3, 4, 5, 6, 21, 22, 26, 27] fun K hK => ?_
      simp (maxSteps := 2000000) (disch := first | (simp only [E4, hl, hm, pl, ql, d1, d2, d3, d4, d5, d6, f1, f2, f3] <;> omega) | omega | fail) only [↓E2, E3, bare, bareJ, ↓E0, E1, evP, evPlan, env0, envN, evOps, evOp, evQs, evQ, evV, setD, pureOp, ev, upd, updL, gate, binW, eqOp, binV, intOp, shOp, boolOp, unV, convV, nilV, fieldAddrV, indexAddrV, extractV, cellAt, cellsAt, findB, setB, fillL, buildV, Value.cells, lenV, minV, maxV, hav, sliceV, loV, hiV, bslQ, mksQ, appQ, partsOk, partsCells, delB, eqL, SameI, strOp, apzQ, cvtQ, capV, ↓reduceIte, Zj, Zk, Nat.reduceAdd, Nat.reduceLT, Nat.reduceEqDiff, Nat.reduceMul, Nat.reduceLeDiff, if_true, Zn, reduceCtorEq, ZA, eq_self, Int.reduceLE, Int.reduceLT, Int.reduceToNat, ne_eq, Nat.reduceSub, Tld32, hl, hm, pl, ql, d1, d2, d3, d4, d5, d6, f1, f2, f3]
      refine callK_gives (n_c _ _ _ hl hm) ?_
      simp (maxSteps := 2000000) (disch := first | (simp only [E4, hl, hm, pl, ql, d1, d2, d3, d4, d5, d6, f1, f2, f3] <;> omega) | omega | fail) only [↓E2, E3, bare, bareJ, ↓E0, E1, evP, evPlan, env0, envN, evOps, evOp, evQs, evQ, evV, setD, pureOp, ev, upd, updL, gate, binW, eqOp, binV, intOp, shOp, boolOp, unV, convV, nilV, fieldAddrV, indexAddrV, extractV, cellAt, cellsAt, findB, setB, fillL, buildV, Value.cells, lenV, minV, maxV, hav, sliceV, loV, hiV, bslQ, mksQ, appQ, partsOk, partsCells, delB, eqL, SameI, strOp, apzQ, cvtQ, capV, ↓reduceIte, Zj, Zk, Nat.reduceAdd, Nat.reduceLT, Nat.reduceEqDiff, Nat.reduceMul, Nat.reduceLeDiff, if_true, Zn, reduceCtorEq, ZA, eq_self, Int.reduceLE, Int.reduceLT, Int.reduceToNat, ne_eq, Nat.reduceSub, Tld32, hl, hm, pl, ql, d1, d2, d3, d4, d5, d6, f1, f2, f3]
      repeat refine And.intro (by omega) ?_
      intro g
      simp only [List.map_cons, List.map_nil, updL, upd, Nat.reduceEqDiff, if_true, if_false, ↓reduceIte]
      refine hK _ _ ?_; clear hK K
      refine Cd.block ?_
      refine Cd.loop (fun m ρ M => ∃ g r b len cap rest, r + m = n ∧ (crTo n x o i ++ crRow n x o i r).length = len * 3 ∧ len ≤ cap ∧ (ints .i64 (crTo n x o i ++ crRow n x o i r) ++ rest).length = cap * 3 ∧ ρ = updL [(1, .pointer (some ⟨b1, 0, none⟩)), (3, .pointer (some ⟨c1, 0, none⟩)), (4, .pointer (some ⟨c2, 0, none⟩)), (5, .slice (some ⟨b, 0, none⟩) len cap), (6, .int .i64 (i : Int)), (21, .int .i64 (n : Int)), (22, .int .i64 (i : Int)), (26, .int .i64 (n : Int)), (27, .int .i64 (r : Int))] g ∧
        List.Sublist [(b, ints .i64 (crTo n x o i ++ crRow n x o i r) ++ rest), (c2, ints .i64 (plc o n)), (c1, ints .i64 (plc x n)), (b1, gc (n : Int) x o)] M) n ⟨_, 0, b, len, cap, rest, Nat.zero_add _, by rw [show crRow n x o i 0 = [] from rfl, List.append_nil]; exact hlen, hcap, by rw [show crRow n x o i 0 = [] from rfl, List.append_nil]; exact hrest, rfl, by rw [show crRow n x o i 0 = [] from rfl, List.append_nil]; exact List.Sublist.refl _⟩ ?_
      rintro m' ρ M ⟨g, r, b, len, cap, rest, hr, hlen, hcap, hrest, rfl, hM⟩
      refine Cd.drop hM ?_
      clear hM M
      refine Cd.nodup fun hnd => ?_
      obtain ⟨⟨k1, k2, k3⟩, _⟩ := nodup4 hnd
      clear hnd
      skip
      refine Cd.rs [1, 3, 4, 5, 6, 21, 22, 26, 27, 28] fun K hK => ?_
      simp (maxSteps := 2000000) (disch := first | (simp only [E4, hl, hm, pl, ql, d1, d2, d3, d4, d5, d6, f1, f2, f3, k1, k2, k3] <;> omega) | omega | fail) only [↓E2, E3, bare, bareJ, ↓E0, E1, evP, evPlan, env0, envN, evOps, evOp, evQs, evQ, evV, setD, pureOp, ev, upd, updL, gate, binW, eqOp, binV, intOp, shOp, boolOp, unV, convV, nilV, fieldAddrV, indexAddrV, extractV, cellAt, cellsAt, findB, setB, fillL, buildV, Value.cells, lenV, minV, maxV, hav, sliceV, loV, hiV, bslQ, mksQ, appQ, partsOk, partsCells, delB, eqL, SameI, strOp, apzQ, cvtQ, capV, ↓reduceIte, Zj, Zk, Nat.reduceAdd, Nat.reduceLT, Nat.reduceEqDiff, Nat.reduceMul, Nat.reduceLeDiff, if_true, Zn, reduceCtorEq, ZA, eq_self, Int.reduceLE, Int.reduceLT, Int.reduceToNat, ne_eq, Nat.reduceSub, hl, hm, pl, ql, d1, d2, d3, d4, d5, d6, f1, f2, f3, k1, k2, k3]
      repeat refine And.intro (by omega) ?_
      intro g
      simp only [List.map_cons, List.map_nil, updL, upd, Nat.reduceEqDiff, if_true, if_false, ↓reduceIte]
      refine hK _ _ ?_; clear hK K
      refine Cd.seq ?_
      refine Cd.condd rfl (fun h2 => ?_) (fun h2 => ?_)
      · refine Cd.skip ?_
        refine thenN ?_
        have e0 := plc_get (x := x) (n := n) (r := r) (by omega)
        have e2 := plc_get (x := o) (n := n) (r := r) (by omega)
        have v1 := bytes_get hx (i := i) (by omega)
        have v2 := bytes_get ho (i := i) (by omega)
        skip
        refine Cd.midq (fun ρ M => ∃ g b len cap rest, (crTo n x o i ++ crRow n x o i (r + 1)).length = len * 3 ∧ len ≤ cap ∧ (ints .i64 (crTo n x o i ++ crRow n x o i (r + 1)) ++ rest).length = cap * 3 ∧ ρ = updL [(1, .pointer (some ⟨b1, 0, none⟩)), (3, .pointer (some ⟨c1, 0, none⟩)), (4, .pointer (some ⟨c2, 0, none⟩)), (5, .slice (some ⟨b, 0, none⟩) len cap), (6, .int .i64 (i : Int)), (21, .int .i64 (n : Int)), (22, .int .i64 (i : Int)), (26, .int .i64 (n : Int)), (27, .int .i64 (r : Int))] g ∧
          List.Sublist [(b, ints .i64 (crTo n x o i ++ crRow n x o i (r + 1)) ++ rest), (c2, ints .i64 (plc o n)), (c1, ints .i64 (plc x n)), (b1, gc (n : Int) x o)] M) ?_ ?_
        · refine Cd.block ?_
          refine Cd.rs [1, 3, 4, 5, 6, 7, 21, 22, 26, 27] fun K hK => ?_
          simp (maxSteps := 2000000) (disch := first | (simp only [E4, hl, hm, pl, ql, d1, d2, d3, d4, d5, d6, f1, f2, f3, k1, k2, k3, e0, e2] <;> omega) | omega | fail) only [↓E2, E3, bare, bareJ, ↓E0, E1, evP, evPlan, env0, envN, evOps, evOp, evQs, evQ, evV, setD, pureOp, ev, upd, updL, gate, binW, eqOp, binV, intOp, shOp, boolOp, unV, convV, nilV, fieldAddrV, indexAddrV, extractV, cellAt, cellsAt, findB, setB, fillL, buildV, Value.cells, lenV, minV, maxV, hav, sliceV, loV, hiV, bslQ, mksQ, appQ, partsOk, partsCells, delB, eqL, SameI, strOp, apzQ, cvtQ, capV, ↓reduceIte, Zj, Zk, Nat.reduceAdd, Nat.reduceLT, Nat.reduceEqDiff, Nat.reduceMul, Nat.reduceLeDiff, if_true, Zn, reduceCtorEq, ZA, eq_self, Int.reduceLE, Int.reduceLT, Int.reduceToNat, ne_eq, Nat.reduceSub, hl, hm, pl, ql, d1, d2, d3, d4, d5, d6, f1, f2, f3, k1, k2, k3, e0, e2]
          repeat refine And.intro (by omega) ?_
          intro g
          simp only [List.map_cons, List.map_nil, updL, upd, Nat.reduceEqDiff, if_true, if_false, ↓reduceIte]
          refine hK _ _ ?_; clear hK K
          refine Cd.seq ?_
          refine Cd.qs [1, 3, 4, 5, 6, 7, 21, 22, 26, 27, 53] fol (by kernel_rfl) fun K hK => ?_
          simp (maxSteps := 2000000) (disch := first | (simp only [E4, hl, hm, pl, ql, d1, d2, d3, d4, d5, d6, f1, f2, f3, k1, k2, k3, e0, e2] <;> omega) | omega | fail) only [↓E2, E3, bare, bareJ, ↓E0, E1, evP, evPlan, env0, envN, evOps, evOp, evQs, evQ, evV, setD, pureOp, ev, upd, updL, gate, binW, eqOp, binV, intOp, shOp, boolOp, unV, convV, nilV, fieldAddrV, indexAddrV, extractV, cellAt, cellsAt, findB, setB, fillL, buildV, Value.cells, lenV, minV, maxV, hav, sliceV, loV, hiV, bslQ, mksQ, appQ, partsOk, partsCells, delB, eqL, SameI, strOp, apzQ, cvtQ, capV, ↓reduceIte, Zj, Zk, Nat.reduceAdd, Nat.reduceLT, Nat.reduceEqDiff, Nat.reduceMul, Nat.reduceLeDiff, if_true, Zn, reduceCtorEq, ZA, eq_self, Int.reduceLE, Int.reduceLT, Int.reduceToNat, ne_eq, Nat.reduceSub, Tarr100, Tarr30, Tfld32_1, Tfld32_2, Tint3, Tld3, Tld5, Tpar5, hl, hm, pl, ql, d1, d2, d3, d4, d5, d6, f1, f2, f3, k1, k2, k3, e0, e2]
          repeat refine And.intro (by omega) ?_
          refine callQ_gives (isBetween_c _ _ _) ?_
          simp (maxSteps := 2000000) (disch := first | (simp only [E4, hl, hm, pl, ql, d1, d2, d3, d4, d5, d6, f1, f2, f3, k1, k2, k3, e0, e2] <;> omega) | omega | fail) only [↓E2, E3, bare, bareJ, ↓E0, E1, evP, evPlan, env0, envN, evOps, evOp, evQs, evQ, evV, setD, pureOp, ev, upd, updL, gate, binW, eqOp, binV, intOp, shOp, boolOp, unV, convV, nilV, fieldAddrV, indexAddrV, extractV, cellAt, cellsAt, findB, setB, fillL, buildV, Value.cells, lenV, minV, maxV, hav, sliceV, loV, hiV, bslQ, mksQ, appQ, partsOk, partsCells, delB, eqL, SameI, strOp, apzQ, cvtQ, capV, ↓reduceIte, Zj, Zk, Nat.reduceAdd, Nat.reduceLT, Nat.reduceEqDiff, Nat.reduceMul, Nat.reduceLeDiff, if_true, Zn, reduceCtorEq, ZA, eq_self, Int.reduceLE, Int.reduceLT, Int.reduceToNat, ne_eq, Nat.reduceSub, Tarr100, Tarr30, Tfld32_1, Tfld32_2, Tint3, Tld3, Tld5, Tpar5, hl, hm, pl, ql, d1, d2, d3, d4, d5, d6, f1, f2, f3, k1, k2, k3, e0, e2]
          apply guardY_or 9 [44, 45, 46, 47, 48, 49, 50, 51, 52] (j := 13) (d := 43) (tp := 53) (tl := 52) rfl rfl rfl rfl rfl
          · intro hq
            simp (maxSteps := 2000000) (disch := first | (simp only [E4, hl, hm, pl, ql, d1, d2, d3, d4, d5, d6, f1, f2, f3, k1, k2, k3, e0, e2] <;> omega) | omega | fail) only [↓E2, E3, bare, bareJ, ↓E0, E1, evP, evPlan, env0, envN, evOps, evOp, evQs, evQ, evV, setD, pureOp, ev, upd, updL, gate, binW, eqOp, binV, intOp, shOp, boolOp, unV, convV, nilV, fieldAddrV, indexAddrV, extractV, cellAt, cellsAt, findB, setB, fillL, buildV, Value.cells, lenV, minV, maxV, hav, sliceV, loV, hiV, bslQ, mksQ, appQ, partsOk, partsCells, delB, eqL, SameI, strOp, apzQ, cvtQ, capV, ↓reduceIte, Zj, Zk, Nat.reduceAdd, Nat.reduceLT, Nat.reduceEqDiff, Nat.reduceMul, Nat.reduceLeDiff, if_true, Zn, reduceCtorEq, ZA, eq_self, Int.reduceLE, Int.reduceLT, Int.reduceToNat, ne_eq, Nat.reduceSub, Tarr100, Tarr30, Tfld32_1, Tfld32_2, Tint3, Tld3, Tld5, Tpar5, hl, hm, pl, ql, d1, d2, d3, d4, d5, d6, f1, f2, f3, k1, k2, k3, e0, e2]
            repeat refine And.intro (by omega) ?_
            refine callQ_gives (isBetween_c _ _ _) ?_
            simp (maxSteps := 2000000) (disch := first | (simp only [E4, hl, hm, pl, ql, d1, d2, d3, d4, d5, d6, f1, f2, f3, k1, k2, k3, e0, e2] <;> omega) | omega | fail) only [↓E2, E3, bare, bareJ, ↓E0, E1, evP, evPlan, env0, envN, evOps, evOp, evQs, evQ, evV, setD, pureOp, ev, upd, updL, gate, binW, eqOp, binV, intOp, shOp, boolOp, unV, convV, nilV, fieldAddrV, indexAddrV, extractV, cellAt, cellsAt, findB, setB, fillL, buildV, Value.cells, lenV, minV, maxV, hav, sliceV, loV, hiV, bslQ, mksQ, appQ, partsOk, partsCells, delB, eqL, SameI, strOp, apzQ, cvtQ, capV, ↓reduceIte, Zj, Zk, Nat.reduceAdd, Nat.reduceLT, Nat.reduceEqDiff, Nat.reduceMul, Nat.reduceLeDiff, if_true, Zn, reduceCtorEq, ZA, eq_self, Int.reduceLE, Int.reduceLT, Int.reduceToNat, ne_eq, Nat.reduceSub, Tarr100, Tarr30, Tfld32_1, Tfld32_2, Tint3, Tld3, Tld5, Tpar5, hl, hm, pl, ql, d1, d2, d3, d4, d5, d6, f1, f2, f3, k1, k2, k3, e0, e2]
            exact rfl
          intro g
          simp (maxSteps := 2000000) (disch := first | (simp only [E4, hl, hm, pl, ql, d1, d2, d3, d4, d5, d6, f1, f2, f3, k1, k2, k3, e0, e2] <;> omega) | omega | fail) only [↓E2, E3, bare, bareJ, ↓E0, E1, evP, evPlan, env0, envN, evOps, evOp, evQs, evQ, evV, setD, pureOp, ev, upd, updL, gate, binW, eqOp, binV, intOp, shOp, boolOp, unV, convV, nilV, fieldAddrV, indexAddrV, extractV, cellAt, cellsAt, findB, setB, fillL, buildV, Value.cells, lenV, minV, maxV, hav, sliceV, loV, hiV, bslQ, mksQ, appQ, partsOk, partsCells, delB, eqL, SameI, strOp, apzQ, cvtQ, capV, ↓reduceIte, Zj, Zk, Nat.reduceAdd, Nat.reduceLT, Nat.reduceEqDiff, Nat.reduceMul, Nat.reduceLeDiff, if_true, Zn, reduceCtorEq, ZA, eq_self, Int.reduceLE, Int.reduceLT, Int.reduceToNat, ne_eq, Nat.reduceSub, Tarr100, Tarr30, Tfld32_1, Tfld32_2, Tint3, Tld3, Tld5, Tpar5, hl, hm, pl, ql, d1, d2, d3, d4, d5, d6, f1, f2, f3, k1, k2, k3, e0, e2]
          repeat refine And.intro (by omega) ?_
          intro g
          simp only [List.map_cons, List.map_nil, updL, upd, Nat.reduceEqDiff, if_true, if_false, ↓reduceIte]
          refine hK _ ?_; clear hK K
          refine Cd.cond rfl (fun h3 => ?_) (fun h3 => ?_)
          · have hz : crossS n x o i r = 0 := by
              unfold crossS
              rw [if_neg]
              generalize betw (r : Int) (x.getD i 0) (o.getD i 0) = A at h3 ⊢
              generalize betw (i : Int) (rowOf x n (r : Int)) (rowOf o n (r : Int)) = B at h3 ⊢
              revert A B
              decide
            have e : crRow n x o i (r + 1) = crRow n x o i r := by show _ ++ _ = _; rw [if_pos hz, List.append_nil]
            refine Cd.exit (thenX (inBX ?_))
            exact midN ⟨_, b, len, cap, rest, by rw [e]; exact hlen, hcap, by rw [e]; exact hrest, (norm_of (by repeat (first | exact trivial | refine And.intro rfl ?_))), by rw [e]; exact List.Sublist.refl _⟩
          · have hb : (betw (r : Int) (x.getD i 0) (o.getD i 0) && betw (i : Int) (rowOf x n (r : Int)) (rowOf o n (r : Int))) = true := by
              generalize betw (r : Int) (x.getD i 0) (o.getD i 0) = A at h3 ⊢
              generalize betw (i : Int) (rowOf x n (r : Int)) (rowOf o n (r : Int)) = B at h3 ⊢
              revert A B
              decide
            have hne : (rowOf x n (r : Int) : Int) ≠ rowOf o n (r : Int) := by
              have hb' := hb
              simp only [betw, Bool.and_eq_true, decide_eq_true_eq] at hb'
              omega
            refine Cd.skip ?_
            refine thenN ?_
            refine Cd.qs [1, 3, 4, 5, 6, 7, 8, 9, 10, 21, 22, 26, 27] fol (by kernel_rfl) fun K hK => ?_
            simp (maxSteps := 2000000) (disch := first | (simp only [E4, hl, hm, pl, ql, d1, d2, d3, d4, d5, d6, f1, f2, f3, k1, k2, k3, e0, e2] <;> omega) | omega | fail) only [↓E2, E3, bare, bareJ, ↓E0, E1, evP, evPlan, env0, envN, evOps, evOp, evQs, evQ, evV, setD, pureOp, ev, upd, updL, gate, binW, eqOp, binV, intOp, shOp, boolOp, unV, convV, nilV, fieldAddrV, indexAddrV, extractV, cellAt, cellsAt, findB, setB, fillL, buildV, Value.cells, lenV, minV, maxV, hav, sliceV, loV, hiV, bslQ, mksQ, appQ, partsOk, partsCells, delB, eqL, SameI, strOp, apzQ, cvtQ, capV, ↓reduceIte, Zj, Zk, Nat.reduceAdd, Nat.reduceLT, Nat.reduceEqDiff, Nat.reduceMul, Nat.reduceLeDiff, if_true, Zn, reduceCtorEq, ZA, eq_self, Int.reduceLE, Int.reduceLT, Int.reduceToNat, ne_eq, Nat.reduceSub, Tarr100, Tarr30, Tfld32_1, Tfld32_2, Tld3, Tld5, hl, hm, pl, ql, d1, d2, d3, d4, d5, d6, f1, f2, f3, k1, k2, k3, e0, e2]
            repeat refine And.intro (by omega) ?_
            repeat refine And.intro (by omega) ?_
            intro g
            simp only [List.map_cons, List.map_nil, updL, upd, Nat.reduceEqDiff, if_true, if_false, ↓reduceIte]
            refine hK _ ?_; clear hK K
            refine Cd.midq (fun ρ M => ∃ g, ρ = updL [(1, .pointer (some ⟨b1, 0, none⟩)), (3, .pointer (some ⟨c1, 0, none⟩)), (4, .pointer (some ⟨c2, 0, none⟩)), (5, .slice (some ⟨b, 0, none⟩) len cap), (6, .int .i64 (i : Int)), (7, .int .i64 (r : Int)), (10, .int .i64 (crossS n x o i r)), (21, .int .i64 (n : Int)), (22, .int .i64 (i : Int)), (26, .int .i64 (n : Int)), (27, .int .i64 (r : Int))] g ∧ M = [(b, ints .i64 (crTo n x o i ++ crRow n x o i r) ++ rest), (c2, ints .i64 (plc o n)), (c1, ints .i64 (plc x n)), (b1, gc (n : Int) x o)]) ?_ ?_
            · refine Cd.rs [1, 3, 4, 5, 6, 7, 10, 21, 22, 26, 27, 72] fun K hK => ?_
              simp (maxSteps := 2000000) (disch := first | (simp only [E4, hl, hm, pl, ql, d1, d2, d3, d4, d5, d6, f1, f2, f3, k1, k2, k3, e0, e2] <;> omega) | omega | fail) only [↓E2, E3, bare, bareJ, ↓E0, E1, evP, evPlan, env0, envN, evOps, evOp, evQs, evQ, evV, setD, pureOp, ev, upd, updL, gate, binW, eqOp, binV, intOp, shOp, boolOp, unV, convV, nilV, fieldAddrV, indexAddrV, extractV, cellAt, cellsAt, findB, setB, fillL, buildV, Value.cells, lenV, minV, maxV, hav, sliceV, loV, hiV, bslQ, mksQ, appQ, partsOk, partsCells, delB, eqL, SameI, strOp, apzQ, cvtQ, capV, ↓reduceIte, Zj, Zk, Nat.reduceAdd, Nat.reduceLT, Nat.reduceEqDiff, Nat.reduceMul, Nat.reduceLeDiff, if_true, Zn, reduceCtorEq, ZA, eq_self, Int.reduceLE, Int.reduceLT, Int.reduceToNat, ne_eq, Nat.reduceSub, Tbool4, hl, hm, pl, ql, d1, d2, d3, d4, d5, d6, f1, f2, f3, k1, k2, k3, e0, e2]
              repeat refine And.intro (by omega) ?_
              intro g
              simp only [List.map_cons, List.map_nil, updL, upd, Nat.reduceEqDiff, if_true, if_false, ↓reduceIte]
              refine hK _ _ ?_; clear hK K
              refine Cd.cond rfl (fun h4 => ?_) (fun h4 => ?_)
              · have hs : crossS n x o i r = 1 := by
                  unfold crossS
                  rw [if_pos hb]
                  grind
                refine Cd.rr [1, 3, 4, 5, 6, 7, 10, 21, 22, 26, 27] fun K hK => ?_
                simp (maxSteps := 2000000) (disch := first | (simp only [E4, hl, hm, pl, ql, d1, d2, d3, d4, d5, d6, f1, f2, f3, k1, k2, k3, e0, e2] <;> omega) | omega | fail) only [↓E2, E3, bare, bareJ, ↓E0, E1, evP, evPlan, env0, envN, evOps, evOp, evQs, evQ, evV, setD, pureOp, ev, upd, updL, gate, binW, eqOp, binV, intOp, shOp, boolOp, unV, convV, nilV, fieldAddrV, indexAddrV, extractV, cellAt, cellsAt, findB, setB, fillL, buildV, Value.cells, lenV, minV, maxV, hav, sliceV, loV, hiV, bslQ, mksQ, appQ, partsOk, partsCells, delB, eqL, SameI, strOp, apzQ, cvtQ, capV, ↓reduceIte, Zj, Zk, Nat.reduceAdd, Nat.reduceLT, Nat.reduceEqDiff, Nat.reduceMul, Nat.reduceLeDiff, if_true, Zn, reduceCtorEq, ZA, eq_self, Int.reduceLE, Int.reduceLT, Int.reduceToNat, ne_eq, Nat.reduceSub, hl, hm, pl, ql, d1, d2, d3, d4, d5, d6, f1, f2, f3, k1, k2, k3, e0, e2]
                repeat refine And.intro (by omega) ?_
                intro g
                simp only [List.map_cons, List.map_nil, updL, upd, Nat.reduceEqDiff, if_true, if_false, ↓reduceIte]
                refine hK _ _ ?_; clear hK K
                rw [hs]
                exact midN ⟨_, (norm_of (by repeat (first | exact trivial | refine And.intro rfl ?_))), rfl⟩
              · have hs : crossS n x o i r = -1 := by
                  unfold crossS
                  rw [if_pos hb]
                  grind
                refine Cd.skip ?_
                rw [hs]
                exact midN ⟨_, (norm_of (by repeat (first | exact trivial | refine And.intro rfl ?_))), rfl⟩
            · rintro ρ M ⟨g, rfl, rfl⟩
              have h3 : ¬ crossS n x o i r = 0 := by
                unfold crossS
                rw [if_pos hb]
                split <;> omega
              refine Cd.rr [1, 3, 4, 5, 6, 21, 22, 26, 27] fun K hK => ?_
              simp (maxSteps := 2000000) (disch := first | (simp only [E4, hl, hm, pl, ql, d1, d2, d3, d4, d5, d6, f1, f2, f3, k1, k2, k3, e0, e2] <;> omega) | omega | fail) only [↓E2, E3, bare, bareJ, ↓E0, E1, evP, evPlan, env0, envN, evOps, evOp, evQs, evQ, evV, setD, pureOp, ev, upd, updL, gate, binW, eqOp, binV, intOp, shOp, boolOp, unV, convV, nilV, fieldAddrV, indexAddrV, extractV, cellAt, cellsAt, findB, setB, fillL, buildV, Value.cells, lenV, minV, maxV, hav, sliceV, loV, hiV, bslQ, mksQ, appQ, partsOk, partsCells, delB, eqL, SameI, strOp, apzQ, cvtQ, capV, ↓reduceIte, Zj, Zk, Nat.reduceAdd, Nat.reduceLT, Nat.reduceEqDiff, Nat.reduceMul, Nat.reduceLeDiff, if_true, Zn, reduceCtorEq, ZA, eq_self, Int.reduceLE, Int.reduceLT, Int.reduceToNat, ne_eq, Nat.reduceSub, Tbld117, Tby117, Tslc114, Tslce114, Tzero117, hl, hm, pl, ql, d1, d2, d3, d4, d5, d6, f1, f2, f3, k1, k2, k3, e0, e2]
              repeat refine And.intro (by omega) ?_
              intro b5 hb5
              have nb5_b1 := hb5.ne
              try simp (maxSteps := 2000000) (disch := first | (simp only [E4, hl, hm, pl, ql, d1, d2, d3, d4, d5, d6, f1, f2, f3, k1, k2, k3, e0, e2, nb5_b1] <;> omega) | omega | fail) only [↓E2, E3, bare, bareJ, ↓E0, E1, evP, evPlan, env0, envN, evOps, evOp, evQs, evQ, evV, setD, pureOp, ev, upd, updL, gate, binW, eqOp, binV, intOp, shOp, boolOp, unV, convV, nilV, fieldAddrV, indexAddrV, extractV, cellAt, cellsAt, findB, setB, fillL, buildV, Value.cells, lenV, minV, maxV, hav, sliceV, loV, hiV, bslQ, mksQ, appQ, partsOk, partsCells, delB, eqL, SameI, strOp, apzQ, cvtQ, capV, ↓reduceIte, Zj, Zk, Nat.reduceAdd, Nat.reduceLT, Nat.reduceEqDiff, Nat.reduceMul, Nat.reduceLeDiff, if_true, Zn, reduceCtorEq, ZA, eq_self, Int.reduceLE, Int.reduceLT, Int.reduceToNat, ne_eq, Nat.reduceSub, Tbld117, Tby117, Tslc114, Tslce114, Tzero117, hl, hm, pl, ql, d1, d2, d3, d4, d5, d6, f1, f2, f3, k1, k2, k3, e0, e2, nb5_b1]
              have ec : crTo n x o i ++ crRow n x o i (r + 1) = (crTo n x o i ++ crRow n x o i r) ++ [(i : Int), (r : Int), crossS n x o i r] := by
                show _ ++ (_ ++ _) = _
                rw [if_neg h3, List.append_assoc]
              have q9 : len ≤ 100 := by
                obtain ⟨m1, q1, q2⟩ := crTo_len n x o i
                obtain ⟨m2, q3, q4⟩ := crRow_len n x o i r
                have q6 : n * i ≤ 8 * 8 := Nat.mul_le_mul hn (by omega)
                rw [List.length_append, q2, q4] at hlen
                omega
              refine ⟨⟨hrest, hcap, by omega, by omega⟩, fun b' cap' rest' hf hc hr' => ?_⟩
              have et := takeS (k := .i64) rest hlen
              rw [et, snocS, ← ec]
              repeat refine And.intro (by omega) ?_
              intro g
              simp only [List.map_cons, List.map_nil, updL, upd, Nat.reduceEqDiff, if_true, if_false, ↓reduceIte]
              refine hK _ _ ?_; clear hK K
              refine inBN ?_
              refine midN ⟨_, b', len + 1, cap', rest', ?_, hc, ?_, (norm_of (by repeat (first | exact trivial | refine And.intro rfl ?_))), List.Sublist.cons_cons _ (List.Sublist.cons _ (List.Sublist.refl _))⟩
              · rw [ec, List.length_append, hlen]
                show len * 3 + 3 = _
                omega
              · rw [ec, List.length_append, ints_length, List.length_append, hlen, hr']
                show len * 3 + 3 + _ = _
                omega
        · rintro ρ M ⟨g, b, len, cap, rest, hlen, hcap, hrest, rfl, hM⟩
          refine Cd.drop hM ?_
          clear hM M
          refine Cd.rr [1, 3, 4, 5, 6, 21, 22, 26, 27] fun K hK => ?_
          simp (maxSteps := 2000000) (disch := first | (simp only [E4, hl, hm, pl, ql, d1, d2, d3, d4, d5, d6, f1, f2, f3, k1, k2, k3, e0, e2] <;> omega) | omega | fail) only [↓E2, E3, bare, bareJ, ↓E0, E1, evP, evPlan, env0, envN, evOps, evOp, evQs, evQ, evV, setD, pureOp, ev, upd, updL, gate, binW, eqOp, binV, intOp, shOp, boolOp, unV, convV, nilV, fieldAddrV, indexAddrV, extractV, cellAt, cellsAt, findB, setB, fillL, buildV, Value.cells, lenV, minV, maxV, hav, sliceV, loV, hiV, bslQ, mksQ, appQ, partsOk, partsCells, delB, eqL, SameI, strOp, apzQ, cvtQ, capV, ↓reduceIte, Zj, Zk, Nat.reduceAdd, Nat.reduceLT, Nat.reduceEqDiff, Nat.reduceMul, Nat.reduceLeDiff, if_true, Zn, reduceCtorEq, ZA, eq_self, Int.reduceLE, Int.reduceLT, Int.reduceToNat, ne_eq, Nat.reduceSub, hl, hm, pl, ql, d1, d2, d3, d4, d5, d6, f1, f2, f3, k1, k2, k3, e0, e2]
          repeat refine And.intro (by omega) ?_
          intro g
          simp only [List.map_cons, List.map_nil, updL, upd, Nat.reduceEqDiff, if_true, if_false, ↓reduceIte]
          refine hK _ _ ?_; clear hK K
          exact roundN (m := m' - 1) (by omega) ⟨_, r + 1, b, len, cap, rest, by omega, hlen, hcap, hrest, rfl, List.Sublist.refl _⟩
      · refine Cd.exit (thenX (roundX (inBX ?_)))
        refine inBN ?_
        refine thenN ?_
        obtain rfl : n = r := by omega
        have ec : crTo n x o i ++ crRow n x o i n = crTo n x o (i + 1) := rfl
        rw [ec] at hlen hrest
        rw [ec]
        refine Cd.rr [1, 3, 4, 5, 21, 22] fun K hK => ?_
        simp (maxSteps := 2000000) (disch := first | (simp only [E4, hl, hm, pl, ql, d1, d2, d3, d4, d5, d6, f1, f2, f3, k1, k2, k3] <;> omega) | omega | fail) only [↓E2, E3, bare, bareJ, ↓E0, E1, evP, evPlan, env0, envN, evOps, evOp, evQs, evQ, evV, setD, pureOp, ev, upd, updL, gate, binW, eqOp, binV, intOp, shOp, boolOp, unV, convV, nilV, fieldAddrV, indexAddrV, extractV, cellAt, cellsAt, findB, setB, fillL, buildV, Value.cells, lenV, minV, maxV, hav, sliceV, loV, hiV, bslQ, mksQ, appQ, partsOk, partsCells, delB, eqL, SameI, strOp, apzQ, cvtQ, capV, ↓reduceIte, Zj, Zk, Nat.reduceAdd, Nat.reduceLT, Nat.reduceEqDiff, Nat.reduceMul, Nat.reduceLeDiff, if_true, Zn, reduceCtorEq, ZA, eq_self, Int.reduceLE, Int.reduceLT, Int.reduceToNat, ne_eq, Nat.reduceSub, hl, hm, pl, ql, d1, d2, d3, d4, d5, d6, f1, f2, f3, k1, k2, k3]
        repeat refine And.intro (by omega) ?_
        intro g
        simp only [List.map_cons, List.map_nil, updL, upd, Nat.reduceEqDiff, if_true, if_false, ↓reduceIte]
        refine hK _ _ ?_; clear hK K
        exact roundN (m := m - 1) (by omega) ⟨_, i + 1, b, len, cap, rest, by omega, hlen, hcap, hrest, rfl, List.Sublist.refl _⟩
    · refine Cd.exit (thenX (roundX (inBX ?_)))
      refine thenN ?_
      obtain rfl : n = i := by omega
      refine Cd.rs [2] fun K hK => ?_
      simp (maxSteps := 2000000) (disch := first | (simp only [E4, hl, hm, pl, ql, d1, d2, d3, d4, d5, d6, f1, f2, f3] <;> omega) | omega | fail) only [↓E2, E3, bare, bareJ, ↓E0, E1, evP, evPlan, env0, envN, evOps, evOp, evQs, evQ, evV, setD, pureOp, ev, upd, updL, gate, binW, eqOp, binV, intOp, shOp, boolOp, unV, convV, nilV, fieldAddrV, indexAddrV, extractV, cellAt, cellsAt, findB, setB, fillL, buildV, Value.cells, lenV, minV, maxV, hav, sliceV, loV, hiV, bslQ, mksQ, appQ, partsOk, partsCells, delB, eqL, SameI, strOp, apzQ, cvtQ, capV, ↓reduceIte, Zj, Zk, Nat.reduceAdd, Nat.reduceLT, Nat.reduceEqDiff, Nat.reduceMul, Nat.reduceLeDiff, if_true, Zn, reduceCtorEq, ZA, eq_self, Int.reduceLE, Int.reduceLT, Int.reduceToNat, ne_eq, Nat.reduceSub, hl, hm, pl, ql, d1, d2, d3, d4, d5, d6, f1, f2, f3]
      repeat refine And.intro (by omega) ?_
      intro g
      simp only [List.map_cons, List.map_nil, updL, upd, Nat.reduceEqDiff, if_true, if_false, ↓reduceIte]
      refine hK _ _ ?_; clear hK K
      refine Cd.drop (List.Sublist.cons_cons _ (List.Sublist.cons _ (List.Sublist.cons _ (List.Sublist.cons _ List.Sublist.slnil)))) ?_
      refine Cd.ret ?_
      simp (maxSteps := 2000000) (disch := first | (simp only [E4, hl, hm, pl, ql, d1, d2, d3, d4, d5, d6, f1, f2, f3] <;> omega) | omega | fail) only [↓E2, E3, bare, bareJ, ↓E0, E1, evP, evPlan, env0, envN, evOps, evOp, evQs, evQ, evV, setD, pureOp, ev, upd, updL, gate, binW, eqOp, binV, intOp, shOp, boolOp, unV, convV, nilV, fieldAddrV, indexAddrV, extractV, cellAt, cellsAt, findB, setB, fillL, buildV, Value.cells, lenV, minV, maxV, hav, sliceV, loV, hiV, bslQ, mksQ, appQ, partsOk, partsCells, delB, eqL, SameI, strOp, apzQ, cvtQ, capV, ↓reduceIte, Zj, Zk, Nat.reduceAdd, Nat.reduceLT, Nat.reduceEqDiff, Nat.reduceMul, Nat.reduceLeDiff, if_true, Zn, reduceCtorEq, ZA, eq_self, Int.reduceLE, Int.reduceLT, Int.reduceToNat, ne_eq, Nat.reduceSub, hl, hm, pl, ql, d1, d2, d3, d4, d5, d6, f1, f2, f3]
      exact ⟨b, len, cap, rest, rfl, hlen, hcap, hrest, rfl⟩
  clear hK
  simp (maxSteps := 2000000) (disch := first | (simp only [E4, hl, hm, pl, ql] <;> omega) | omega | fail) only [↓E2, E3, bare, bareJ, ↓E0, E1, evP, evPlan, env0, envN, evOps, evOp, evQs, evQ, evV, setD, pureOp, ev, upd, updL, gate, binW, eqOp, binV, intOp, shOp, boolOp, unV, convV, nilV, fieldAddrV, indexAddrV, extractV, cellAt, cellsAt, findB, setB, fillL, buildV, Value.cells, lenV, minV, maxV, hav, sliceV, loV, hiV, bslQ, mksQ, appQ, partsOk, partsCells, delB, eqL, SameI, strOp, apzQ, cvtQ, capV, ↓reduceIte, Zj, Zk, Nat.reduceAdd, Nat.reduceLT, Nat.reduceEqDiff, Nat.reduceMul, Nat.reduceLeDiff, if_true, Zn, reduceCtorEq, ZA, eq_self, Int.reduceLE, Int.reduceLT, Int.reduceToNat, ne_eq, Nat.reduceSub, Tby117, Tfld32_1, Tfld32_2, Tld30, Tld32, Tslc114, Tslce114, Tst100, Tzero100, Tzero117, ↓YR, hl, hm, pl, ql]
  refine callP_gives (places_c n x o x hx ho hx hn px) ?_
  simp (maxSteps := 2000000) (disch := first | (simp only [E4, hl, hm, pl, ql] <;> omega) | omega | fail) only [↓E2, E3, bare, bareJ, ↓E0, E1, evP, evPlan, env0, envN, evOps, evOp, evQs, evQ, evV, setD, pureOp, ev, upd, updL, gate, binW, eqOp, binV, intOp, shOp, boolOp, unV, convV, nilV, fieldAddrV, indexAddrV, extractV, cellAt, cellsAt, findB, setB, fillL, buildV, Value.cells, lenV, minV, maxV, hav, sliceV, loV, hiV, bslQ, mksQ, appQ, partsOk, partsCells, delB, eqL, SameI, strOp, apzQ, cvtQ, capV, ↓reduceIte, Zj, Zk, Nat.reduceAdd, Nat.reduceLT, Nat.reduceEqDiff, Nat.reduceMul, Nat.reduceLeDiff, if_true, Zn, reduceCtorEq, ZA, eq_self, Int.reduceLE, Int.reduceLT, Int.reduceToNat, ne_eq, Nat.reduceSub, Tby117, Tfld32_1, Tfld32_2, Tld30, Tld32, Tslc114, Tslce114, Tst100, Tzero100, Tzero117, ↓YR, hl, hm, pl, ql]
  refine callP_gives (places_c n x o o hx ho ho hn po) ?_
  simp (maxSteps := 2000000) (disch := first | (simp only [E4, hl, hm, pl, ql] <;> omega) | omega | fail) only [↓E2, E3, bare, bareJ, ↓E0, E1, evP, evPlan, env0, envN, evOps, evOp, evQs, evQ, evV, setD, pureOp, ev, upd, updL, gate, binW, eqOp, binV, intOp, shOp, boolOp, unV, convV, nilV, fieldAddrV, indexAddrV, extractV, cellAt, cellsAt, findB, setB, fillL, buildV, Value.cells, lenV, minV, maxV, hav, sliceV, loV, hiV, bslQ, mksQ, appQ, partsOk, partsCells, delB, eqL, SameI, strOp, apzQ, cvtQ, capV, ↓reduceIte, Zj, Zk, Nat.reduceAdd, Nat.reduceLT, Nat.reduceEqDiff, Nat.reduceMul, Nat.reduceLeDiff, if_true, Zn, reduceCtorEq, ZA, eq_self, Int.reduceLE, Int.reduceLT, Int.reduceToNat, ne_eq, Nat.reduceSub, Tby117, Tfld32_1, Tfld32_2, Tld30, Tld32, Tslc114, Tslce114, Tst100, Tzero100, Tzero117, ↓YR, hl, hm, pl, ql]
  repeat' first
      | omega
      | refine moreX_go ?_ ?_
      | with_reducible refine And.intro ?_ ?_
      | (with_reducible intro (b : Nat) (hb : Fresh _ _ b); have hb := hb.all; simp only [List.mem_cons, List.not_mem_nil, forall_eq_or_imp, or_false, forall_eq, false_implies, implies_true, and_true] at hb)
      | (with_reducible intro (b' : Nat) (cap' : Nat) (rest' : List Value) (hf' : Fresh _ _ b') (hc' : _ ≤ cap') (hr' : rest'.length = _); have hfa := hf'.all; simp only [List.mem_cons, List.not_mem_nil, forall_eq_or_imp, or_false, forall_eq, false_implies, implies_true, and_true] at hfa)
      | simp (maxSteps := 2000000) (disch := first | (simp only [E4, hl, hm, pl, ql] <;> omega) | omega | fail) only [↓E2, E3, bare, bareJ, ↓E0, E1, evP, evPlan, env0, envN, evOps, evOp, evQs, evQ, evV, setD, pureOp, ev, upd, updL, gate, binW, eqOp, binV, intOp, shOp, boolOp, unV, convV, nilV, fieldAddrV, indexAddrV, extractV, cellAt, cellsAt, findB, setB, fillL, buildV, Value.cells, lenV, minV, maxV, hav, sliceV, loV, hiV, bslQ, mksQ, appQ, partsOk, partsCells, delB, eqL, SameI, strOp, apzQ, cvtQ, capV, ↓reduceIte, Zj, Zk, Nat.reduceAdd, Nat.reduceLT, Nat.reduceEqDiff, Nat.reduceMul, Nat.reduceLeDiff, if_true, Zn, reduceCtorEq, ZA, eq_self, Int.reduceLE, Int.reduceLT, Int.reduceToNat, ne_eq, Nat.reduceSub, Tby117, Tfld32_1, Tfld32_2, Tld30, Tld32, Tslc114, Tslce114, Tst100, Tzero100, Tzero117, ↓YR, hl, hm, pl, ql, *]
  all_goals
    repeat refine And.intro (by omega) ?_
    intro g
    simp only [List.map_cons, List.map_nil, updL, upd, Nat.reduceEqDiff, if_true, if_false, ↓reduceIte]
    first
    | exact J g _ _ _ _ (.refl _)
    | exact J g _ _ _ _ (.swap ..)
    | exact J g _ _ _ _ (.cons _ (.swap ..))
    | exact J g _ _ _ _ (.trans (.swap ..) (.cons _ (.swap ..)))
    | exact J g _ _ _ _ (.trans (.cons _ (.swap ..)) (.swap ..))
    | exact J g _ _ _ _ (.trans (.swap ..) (.trans (.cons _ (.swap ..)) (.swap ..)))
end

end Go.Proofs

/-
  What the functions of this part hand back: each as a plain function of its arguments. Conditions: none.
-/
namespace Go.Proofs
open Go.W8
set_option linter.unusedVariables false
set_option linter.unusedSimpArgs false
set_option linter.unusedSectionVars false
set_option maxRecDepth 8000
set_option maxHeartbeats 4000000
/-- What a function that asks for a grid hands back. -/
def wrapP (s : Int) (x o : List Int) (Post : Value → Blks → Prop) (z : Value) (v : Value) (M : Blks) : Prop := if gridB s x o then ResS Post 0 v M else v = .tuple #[z, .int .i64 1] ∧ M = []
theorem wrapP_yes {s : Int} {x o : List Int} {Post : Value → Blks → Prop} {z v : Value} {M : Blks} (h : gridB s x o = true) (hP : Post v M) : wrapP s x o Post z (.tuple #[v, .int .i64 0]) M := by
  unfold wrapP
  rw [if_pos h]
  exact ⟨v, rfl, hP⟩
theorem wrapP_no {s : Int} {x o : List Int} {Post : Value → Blks → Prop} {z : Value} (h : ¬ gridB s x o = true) : wrapP s x o Post z (.tuple #[z, .int .i64 1]) [] := by
  unfold wrapP
  rw [if_neg h]
  exact ⟨rfl, rfl⟩
theorem wrapP_pair {s : Int} {x o : List Int} {Post : Value → Blks → Prop} {z v : Value} {M : Blks} (h : wrapP s x o Post z v M) : ∃ u c, v = .tuple #[u, .int .i64 c] := by
  unfold wrapP at h
  split at h
  · obtain ⟨u, rfl, _⟩ := h; exact ⟨_, _, rfl⟩
  · exact ⟨_, _, h.1⟩
def codeG (s : Int) (x o : List Int) : Int := if gridB s x o then 0 else 1
theorem wrapP_res {s : Int} {x o : List Int} {Post Post' : Value → Blks → Prop} {z v : Value} {M : Blks} (h : wrapP s x o Post z v M) (h1 : gridB s x o = true → ∀ v M, Post v M → Post' v M) (h2 : ¬ gridB s x o = true → Post' z []) : ResS Post' (codeG s x o) v M := by
  unfold wrapP at h
  unfold codeG
  split at h
  · rename_i hg
    rw [if_pos hg]
    obtain ⟨u, rfl, hu⟩ := h
    exact ⟨u, rfl, h1 hg u M hu⟩
  · rename_i hg
    rw [if_neg hg]
    obtain ⟨rfl, rfl⟩ := h
    exact ⟨z, rfl, h2 hg⟩
end Go.Proofs

/-
  What the functions of this part hand back: each as a plain function of its arguments. Conditions: none.
-/
namespace Go.Proofs
open Go.W8
set_option linter.unusedVariables false
set_option linter.unusedSimpArgs false
set_option linter.unusedSectionVars false
set_option maxRecDepth 8000
set_option maxHeartbeats 4000000
theorem int64_len {l : List Int} {m : Nat} (h : (ints .i64 l).length = m * 1) : m = l.length := by
  rw [ints_length] at h; omega
theorem eqInt64S_c (l : List Int) (R : Rd) (v v' : Value) (h : RdS R 1 (ints .i64 l) v) (h' : RdS R 1 (ints .i64 l) v') (hb : l.length < 4611686018427387904) : GivesR Try.prog 52 #[v, v'] R (.bool true) := by
  obtain ⟨a, m, cap, rfl, hm, _⟩ := id h
  obtain ⟨a', m', cap', rfl, hm', _⟩ := id h'
  obtain rfl := int64_len hm
  obtain rfl := int64_len hm'
  refine GivesR.of (callable_of Try.func52 rfl (by decide)) fun w hR => ?_
  refine acall_of (N := 26) (c := _) (rs := [.tmp 4]) (args := [_, _]) Try.func52 rfl (by decide) rfl rfl (Nat.le_of_ble_eq_true rfl) ?_
  refine Cd.rs [0, 1] fun K hK => ?_
  simp (maxSteps := 2000000) (disch := first | (simp only [E4] <;> omega) | omega | fail) only [↓E2, E3, bare, bareJ, ↓E0, E1, evP, evPlan, env0, envN, evOps, evOp, evQs, evQ, evV, setD, pureOp, ev, upd, updL, gate, binW, eqOp, binV, intOp, shOp, boolOp, unV, convV, nilV, fieldAddrV, indexAddrV, extractV, cellAt, cellsAt, findB, setB, fillL, buildV, Value.cells, lenV, minV, maxV, hav, sliceV, loV, hiV, bslQ, mksQ, appQ, partsOk, partsCells, delB, eqL, SameI, strOp, apzQ, cvtQ, capV, ↓reduceIte, Zj, Zk, Nat.reduceAdd, Nat.reduceLT, Nat.reduceEqDiff, Nat.reduceMul, Nat.reduceLeDiff, if_true, Zn, reduceCtorEq, ZA, eq_self, Int.reduceLE, Int.reduceLT, Int.reduceToNat, ne_eq, Nat.reduceSub]
  repeat refine And.intro (by omega) ?_
  intro g
  simp only [List.map_cons, List.map_nil, updL, upd, Nat.reduceEqDiff, if_true, if_false, ↓reduceIte]
  refine hK _ _ ?_; clear hK K
  refine Cd.seq ?_
  refine Cd.rs [0, 1, 10] fun K hK => ?_
  simp (maxSteps := 2000000) (disch := first | (simp only [E4] <;> omega) | omega | fail) only [↓E2, E3, bare, bareJ, ↓E0, E1, evP, evPlan, env0, envN, evOps, evOp, evQs, evQ, evV, setD, pureOp, ev, upd, updL, gate, binW, eqOp, binV, intOp, shOp, boolOp, unV, convV, nilV, fieldAddrV, indexAddrV, extractV, cellAt, cellsAt, findB, setB, fillL, buildV, Value.cells, lenV, minV, maxV, hav, sliceV, loV, hiV, bslQ, mksQ, appQ, partsOk, partsCells, delB, eqL, SameI, strOp, apzQ, cvtQ, capV, ↓reduceIte, Zj, Zk, Nat.reduceAdd, Nat.reduceLT, Nat.reduceEqDiff, Nat.reduceMul, Nat.reduceLeDiff, if_true, Zn, reduceCtorEq, ZA, eq_self, Int.reduceLE, Int.reduceLT, Int.reduceToNat, ne_eq, Nat.reduceSub, Tslce47]
  repeat refine And.intro (by omega) ?_
  intro g
  simp only [List.map_cons, List.map_nil, updL, upd, Nat.reduceEqDiff, if_true, if_false, ↓reduceIte]
  refine hK _ _ ?_; clear hK K
  refine Cd.no rfl ?_
  refine Cd.skip ?_
  refine thenN ?_
  refine Cd.seq ?_
  refine Cd.rs [0, 1, 5] fun K hK => ?_
  simp (maxSteps := 2000000) (disch := first | (simp only [E4] <;> omega) | omega | fail) only [↓E2, E3, bare, bareJ, ↓E0, E1, evP, evPlan, env0, envN, evOps, evOp, evQs, evQ, evV, setD, pureOp, ev, upd, updL, gate, binW, eqOp, binV, intOp, shOp, boolOp, unV, convV, nilV, fieldAddrV, indexAddrV, extractV, cellAt, cellsAt, findB, setB, fillL, buildV, Value.cells, lenV, minV, maxV, hav, sliceV, loV, hiV, bslQ, mksQ, appQ, partsOk, partsCells, delB, eqL, SameI, strOp, apzQ, cvtQ, capV, ↓reduceIte, Zj, Zk, Nat.reduceAdd, Nat.reduceLT, Nat.reduceEqDiff, Nat.reduceMul, Nat.reduceLeDiff, if_true, Zn, reduceCtorEq, ZA, eq_self, Int.reduceLE, Int.reduceLT, Int.reduceToNat, ne_eq, Nat.reduceSub]
  repeat refine And.intro (by omega) ?_
  intro g
  simp only [List.map_cons, List.map_nil, updL, upd, Nat.reduceEqDiff, if_true, if_false, ↓reduceIte]
  refine hK _ _ ?_; clear hK K
  refine Cd.block ?_
  refine Cd.loop (fun n ρ M => ∃ g k, k + n = l.length ∧ ρ = updL [(0, .slice a l.length cap), (1, .slice a' l.length cap'), (5, .int .i64 (k : Int))] g ∧ M = []) l.length ⟨_, 0, Nat.zero_add _, rfl, rfl⟩ ?_
  rintro n ρ M ⟨g, k, hk, rfl, rfl⟩
  refine Cd.seq ?_
  refine Cd.rs [0, 1, 5, 14] fun K hK => ?_
  simp (maxSteps := 2000000) (disch := first | (simp only [E4] <;> omega) | omega | fail) only [↓E2, E3, bare, bareJ, ↓E0, E1, evP, evPlan, env0, envN, evOps, evOp, evQs, evQ, evV, setD, pureOp, ev, upd, updL, gate, binW, eqOp, binV, intOp, shOp, boolOp, unV, convV, nilV, fieldAddrV, indexAddrV, extractV, cellAt, cellsAt, findB, setB, fillL, buildV, Value.cells, lenV, minV, maxV, hav, sliceV, loV, hiV, bslQ, mksQ, appQ, partsOk, partsCells, delB, eqL, SameI, strOp, apzQ, cvtQ, capV, ↓reduceIte, Zj, Zk, Nat.reduceAdd, Nat.reduceLT, Nat.reduceEqDiff, Nat.reduceMul, Nat.reduceLeDiff, if_true, Zn, reduceCtorEq, ZA, eq_self, Int.reduceLE, Int.reduceLT, Int.reduceToNat, ne_eq, Nat.reduceSub, Tslce47]
  repeat refine And.intro (by omega) ?_
  intro g
  simp only [List.map_cons, List.map_nil, updL, upd, Nat.reduceEqDiff, if_true, if_false, ↓reduceIte]
  refine hK _ _ ?_; clear hK K
  refine Cd.condd rfl (fun h2 => ?_) (fun h2 => ?_)
  · obtain ⟨b, rfl, q⟩ := h.get hR (ints_get (i := k) (by omega))
    obtain ⟨b', rfl, q'⟩ := h'.get hR (ints_get (i := k) (by omega))
    refine Cd.skip ?_
    refine thenN ?_
    refine Cd.seq ?_
    refine Cd.block ?_
    skip
    refine Cd.qs [0, 1, 5, 25] fol (by kernel_rfl) fun K hK => ?_
    simp (maxSteps := 2000000) (disch := first | (simp only [E4, q, q'] <;> omega) | omega | fail) only [↓E2, E3, bare, bareJ, ↓E0, E1, evP, evPlan, env0, envN, evOps, evOp, evQs, evQ, evV, setD, pureOp, ev, upd, updL, gate, binW, eqOp, binV, intOp, shOp, boolOp, unV, convV, nilV, fieldAddrV, indexAddrV, extractV, cellAt, cellsAt, findB, setB, fillL, buildV, Value.cells, lenV, minV, maxV, hav, sliceV, loV, hiV, bslQ, mksQ, appQ, partsOk, partsCells, delB, eqL, SameI, strOp, apzQ, cvtQ, capV, ↓reduceIte, Zj, Zk, Nat.reduceAdd, Nat.reduceLT, Nat.reduceEqDiff, Nat.reduceMul, Nat.reduceLeDiff, if_true, Zn, reduceCtorEq, ZA, eq_self, Int.reduceLE, Int.reduceLT, Int.reduceToNat, ne_eq, Nat.reduceSub, Tld2, Tslc47, q, q']
    repeat refine And.intro (by omega) ?_
    intro g
    simp only [List.map_cons, List.map_nil, updL, upd, Nat.reduceEqDiff, if_true, if_false, ↓reduceIte]
    refine hK _ ?_; clear hK K
    refine Cd.no rfl ?_
    refine Cd.skip ?_
    refine inBN ?_
    refine thenN ?_
    refine Cd.rr [0, 1, 5] fun K hK => ?_
    simp (maxSteps := 2000000) (disch := first | (simp only [E4, q, q'] <;> omega) | omega | fail) only [↓E2, E3, bare, bareJ, ↓E0, E1, evP, evPlan, env0, envN, evOps, evOp, evQs, evQ, evV, setD, pureOp, ev, upd, updL, gate, binW, eqOp, binV, intOp, shOp, boolOp, unV, convV, nilV, fieldAddrV, indexAddrV, extractV, cellAt, cellsAt, findB, setB, fillL, buildV, Value.cells, lenV, minV, maxV, hav, sliceV, loV, hiV, bslQ, mksQ, appQ, partsOk, partsCells, delB, eqL, SameI, strOp, apzQ, cvtQ, capV, ↓reduceIte, Zj, Zk, Nat.reduceAdd, Nat.reduceLT, Nat.reduceEqDiff, Nat.reduceMul, Nat.reduceLeDiff, if_true, Zn, reduceCtorEq, ZA, eq_self, Int.reduceLE, Int.reduceLT, Int.reduceToNat, ne_eq, Nat.reduceSub, q, q']
    repeat refine And.intro (by omega) ?_
    intro g
    simp only [List.map_cons, List.map_nil, updL, upd, Nat.reduceEqDiff, if_true, if_false, ↓reduceIte]
    refine hK _ _ ?_; clear hK K
    exact roundN (m := n - 1) (by omega) ⟨_, k + 1, by omega, rfl, rfl⟩
  · refine Cd.exit (thenX (roundX (inBX ?_)))
    refine thenN ?_
    refine Cd.rs [4] fun K hK => ?_
    simp (maxSteps := 2000000) (disch := first | (simp only [E4] <;> omega) | omega | fail) only [↓E2, E3, bare, bareJ, ↓E0, E1, evP, evPlan, env0, envN, evOps, evOp, evQs, evQ, evV, setD, pureOp, ev, upd, updL, gate, binW, eqOp, binV, intOp, shOp, boolOp, unV, convV, nilV, fieldAddrV, indexAddrV, extractV, cellAt, cellsAt, findB, setB, fillL, buildV, Value.cells, lenV, minV, maxV, hav, sliceV, loV, hiV, bslQ, mksQ, appQ, partsOk, partsCells, delB, eqL, SameI, strOp, apzQ, cvtQ, capV, ↓reduceIte, Zj, Zk, Nat.reduceAdd, Nat.reduceLT, Nat.reduceEqDiff, Nat.reduceMul, Nat.reduceLeDiff, if_true, Zn, reduceCtorEq, ZA, eq_self, Int.reduceLE, Int.reduceLT, Int.reduceToNat, ne_eq, Nat.reduceSub]
    repeat refine And.intro (by omega) ?_
    intro g
    simp only [List.map_cons, List.map_nil, updL, upd, Nat.reduceEqDiff, if_true, if_false, ↓reduceIte]
    refine hK _ _ ?_; clear hK K
    refine Cd.ret ?_
    simp (maxSteps := 2000000) (disch := first | (simp only [E4] <;> omega) | omega | fail) only [↓E2, E3, bare, bareJ, ↓E0, E1, evP, evPlan, env0, envN, evOps, evOp, evQs, evQ, evV, setD, pureOp, ev, upd, updL, gate, binW, eqOp, binV, intOp, shOp, boolOp, unV, convV, nilV, fieldAddrV, indexAddrV, extractV, cellAt, cellsAt, findB, setB, fillL, buildV, Value.cells, lenV, minV, maxV, hav, sliceV, loV, hiV, bslQ, mksQ, appQ, partsOk, partsCells, delB, eqL, SameI, strOp, apzQ, cvtQ, capV, ↓reduceIte, Zj, Zk, Nat.reduceAdd, Nat.reduceLT, Nat.reduceEqDiff, Nat.reduceMul, Nat.reduceLeDiff, if_true, Zn, reduceCtorEq, ZA, eq_self, Int.reduceLE, Int.reduceLT, Int.reduceToNat, ne_eq, Nat.reduceSub]

/-- Numbers from k on. -/
def upK (k : Int) (n : Nat) : List Int := (List.range n).map fun (i : Nat) => k + (i : Int)
theorem upK_len (k : Int) (n : Nat) : (upK k n).length = n := by simp [upK]
theorem upK_get {k : Int} {n i : Nat} (h : i < n) : (upK k n)[i]? = some (k + (i : Int)) := by
  unfold upK
  rw [List.getElem?_map, List.getElem?_range h]
  rfl
theorem upK_getD {k : Int} {n i : Nat} (h : i < n) : (upK k n).getD i 0 = k + (i : Int) := by
  rw [List.getD_eq_getElem?_getD, upK_get h]; rfl
/-- The first i marked. -/
def mkK (l : List Int) (k : Int) (i : Nat) : List Int := upK k i ++ l.drop i
theorem mkK_len {l : List Int} {k : Int} {i : Nat} (h : i ≤ l.length) : (mkK l k i).length = l.length := by
  unfold mkK
  rw [List.length_append, upK_len, List.length_drop]; omega
theorem mkK_full (l : List Int) (k : Int) : mkK l k l.length = upK k l.length := by
  unfold mkK
  rw [List.drop_of_length_le (Nat.le_refl _), List.append_nil]
theorem mkK_set {l : List Int} {k : Int} {i : Nat} (h : i < l.length) : (mkK l k i).set i (k + (i : Int)) = mkK l k (i + 1) := by
  apply List.ext_getElem?
  intro j
  unfold mkK
  by_cases e : i = j
  · subst e
    rw [List.getElem?_set_self (by rw [List.length_append, upK_len, List.length_drop]; omega), List.getElem?_append_left (by rw [upK_len]; omega), upK_get (by omega)]
  · rw [List.getElem?_set_ne e]
    by_cases hj : j < i
    · rw [List.getElem?_append_left (by rw [upK_len]; omega), List.getElem?_append_left (by rw [upK_len]; omega), upK_get hj, upK_get (by omega)]
    · rw [List.getElem?_append_right (by rw [upK_len]; omega), List.getElem?_append_right (by rw [upK_len]; omega), upK_len, upK_len, List.getElem?_drop, List.getElem?_drop]
      congr 1
      omega

theorem markInt64S_c (l : List Int) (v : Value) (L : Blks) (h : SlN 1 (ints .i64 l) v L) (k : Nat) (hb : k + l.length < 4611686018427387904) :
    GivesX Try.prog 53 #[v, .int .i64 (k : Int)] L [] (fun r M' => r = .int .i64 ((k + l.length : Nat) : Int) ∧ SlN 1 (ints .i64 (upK k l.length)) v M') := by
  obtain ⟨a, cap, rfl⟩ : ∃ a cap, v = .slice a l.length cap := by
    rcases h with ⟨h1, h2, h3⟩ | ⟨b, m, cap, cs, h1, h2, h3⟩
    · have := congrArg List.length h1
      rw [ints_length] at this
      exact ⟨_, _, by rw [this]; exact h2⟩
    · obtain rfl := int64_len h3.len
      exact ⟨_, _, h1⟩
  refine GivesX.of (callable_of Try.func53 rfl (by decide)) ?_ fun w hnd hlt hR => ?_
  · simp
  refine acall_of (N := 19) (c := _) (rs := [.tmp 4]) (args := [_, _]) Try.func53 rfl (by decide) rfl rfl (Nat.le_of_ble_eq_true rfl) ?_
  refine Cd.rs [0, 1] fun K hK => ?_
  simp (maxSteps := 2000000) (disch := first | (simp only [E4] <;> omega) | omega | fail) only [↓E2, E3, bare, bareJ, ↓E0, E1, evP, evPlan, env0, envN, evOps, evOp, evQs, evQ, evV, setD, pureOp, ev, upd, updL, gate, binW, eqOp, binV, intOp, shOp, boolOp, unV, convV, nilV, fieldAddrV, indexAddrV, extractV, cellAt, cellsAt, findB, setB, fillL, buildV, Value.cells, lenV, minV, maxV, hav, sliceV, loV, hiV, bslQ, mksQ, appQ, partsOk, partsCells, delB, eqL, SameI, strOp, apzQ, cvtQ, capV, ↓reduceIte, Zj, Zk, Nat.reduceAdd, Nat.reduceLT, Nat.reduceEqDiff, Nat.reduceMul, Nat.reduceLeDiff, if_true, Zn, reduceCtorEq, ZA, eq_self, Int.reduceLE, Int.reduceLT, Int.reduceToNat, ne_eq, Nat.reduceSub]
  repeat refine And.intro (by omega) ?_
  intro g
  simp only [List.map_cons, List.map_nil, updL, upd, Nat.reduceEqDiff, if_true, if_false, ↓reduceIte]
  refine hK _ _ ?_; clear hK K
  refine Cd.seq ?_
  refine Cd.rs [0, 1, 5] fun K hK => ?_
  simp (maxSteps := 2000000) (disch := first | (simp only [E4] <;> omega) | omega | fail) only [↓E2, E3, bare, bareJ, ↓E0, E1, evP, evPlan, env0, envN, evOps, evOp, evQs, evQ, evV, setD, pureOp, ev, upd, updL, gate, binW, eqOp, binV, intOp, shOp, boolOp, unV, convV, nilV, fieldAddrV, indexAddrV, extractV, cellAt, cellsAt, findB, setB, fillL, buildV, Value.cells, lenV, minV, maxV, hav, sliceV, loV, hiV, bslQ, mksQ, appQ, partsOk, partsCells, delB, eqL, SameI, strOp, apzQ, cvtQ, capV, ↓reduceIte, Zj, Zk, Nat.reduceAdd, Nat.reduceLT, Nat.reduceEqDiff, Nat.reduceMul, Nat.reduceLeDiff, if_true, Zn, reduceCtorEq, ZA, eq_self, Int.reduceLE, Int.reduceLT, Int.reduceToNat, ne_eq, Nat.reduceSub]
  repeat refine And.intro (by omega) ?_
  intro g
  simp only [List.map_cons, List.map_nil, updL, upd, Nat.reduceEqDiff, if_true, if_false, ↓reduceIte]
  refine hK _ _ ?_; clear hK K
  refine Cd.block ?_
  refine Cd.loop (fun n ρ M => ∃ g i, i + n = l.length ∧ ρ = updL [(0, .slice a l.length cap), (1, .int .i64 ((k + i : Nat) : Int)), (5, .int .i64 (i : Int))] g ∧ SlN 1 (ints .i64 (mkK l k i)) (.slice a l.length cap) M) l.length ⟨_, 0, Nat.zero_add _, rfl, h⟩ ?_
  rintro n ρ M ⟨g, i, hi, rfl, hM⟩
  refine Cd.seq ?_
  refine Cd.rs [0, 1, 5, 9] fun K hK => ?_
  simp (maxSteps := 2000000) (disch := first | (simp only [E4] <;> omega) | omega | fail) only [↓E2, E3, bare, bareJ, ↓E0, E1, evP, evPlan, env0, envN, evOps, evOp, evQs, evQ, evV, setD, pureOp, ev, upd, updL, gate, binW, eqOp, binV, intOp, shOp, boolOp, unV, convV, nilV, fieldAddrV, indexAddrV, extractV, cellAt, cellsAt, findB, setB, fillL, buildV, Value.cells, lenV, minV, maxV, hav, sliceV, loV, hiV, bslQ, mksQ, appQ, partsOk, partsCells, delB, eqL, SameI, strOp, apzQ, cvtQ, capV, ↓reduceIte, Zj, Zk, Nat.reduceAdd, Nat.reduceLT, Nat.reduceEqDiff, Nat.reduceMul, Nat.reduceLeDiff, if_true, Zn, reduceCtorEq, ZA, eq_self, Int.reduceLE, Int.reduceLT, Int.reduceToNat, ne_eq, Nat.reduceSub, Tslce47]
  repeat refine And.intro (by omega) ?_
  intro g
  simp only [List.map_cons, List.map_nil, updL, upd, Nat.reduceEqDiff, if_true, if_false, ↓reduceIte]
  refine hK _ _ ?_; clear hK K
  refine Cd.condd rfl (fun h1 => ?_) (fun h1 => ?_)
  · rcases hM with ⟨e, _, _⟩ | ⟨b, m, cap', cs, e, rfl, hr⟩
    · have := congrArg List.length e
      rw [ints_length, mkK_len (by omega)] at this
      simp only [List.length_nil] at this
      omega
    cases e
    have hr' := hr.set (j := i) (by omega) (.int .i64 (k + i : Int))
    rw [ints_set, mkK_set (by omega)] at hr'
    have hf := hr.fits (k := i + 1) (by omega)
    refine Cd.skip ?_
    refine thenN ?_
    refine Cd.seq ?_
    refine Cd.block ?_
    refine Cd.rs [0, 1, 5] fun K hK => ?_
    simp (maxSteps := 2000000) (disch := first | (simp only [E4] <;> omega) | omega | fail) only [↓E2, E3, bare, bareJ, ↓E0, E1, evP, evPlan, env0, envN, evOps, evOp, evQs, evQ, evV, setD, pureOp, ev, upd, updL, gate, binW, eqOp, binV, intOp, shOp, boolOp, unV, convV, nilV, fieldAddrV, indexAddrV, extractV, cellAt, cellsAt, findB, setB, fillL, buildV, Value.cells, lenV, minV, maxV, hav, sliceV, loV, hiV, bslQ, mksQ, appQ, partsOk, partsCells, delB, eqL, SameI, strOp, apzQ, cvtQ, capV, ↓reduceIte, Zj, Zk, Nat.reduceAdd, Nat.reduceLT, Nat.reduceEqDiff, Nat.reduceMul, Nat.reduceLeDiff, if_true, Zn, reduceCtorEq, ZA, eq_self, Int.reduceLE, Int.reduceLT, Int.reduceToNat, ne_eq, Nat.reduceSub, Tslc47, Tst2]
    repeat refine And.intro (by omega) ?_
    intro g
    simp only [List.map_cons, List.map_nil, updL, upd, Nat.reduceEqDiff, if_true, if_false, ↓reduceIte]
    refine hK _ _ ?_; clear hK K
    refine Cd.rr [0, 1, 5] fun K hK => ?_
    simp (maxSteps := 2000000) (disch := first | (simp only [E4] <;> omega) | omega | fail) only [↓E2, E3, bare, bareJ, ↓E0, E1, evP, evPlan, env0, envN, evOps, evOp, evQs, evQ, evV, setD, pureOp, ev, upd, updL, gate, binW, eqOp, binV, intOp, shOp, boolOp, unV, convV, nilV, fieldAddrV, indexAddrV, extractV, cellAt, cellsAt, findB, setB, fillL, buildV, Value.cells, lenV, minV, maxV, hav, sliceV, loV, hiV, bslQ, mksQ, appQ, partsOk, partsCells, delB, eqL, SameI, strOp, apzQ, cvtQ, capV, ↓reduceIte, Zj, Zk, Nat.reduceAdd, Nat.reduceLT, Nat.reduceEqDiff, Nat.reduceMul, Nat.reduceLeDiff, if_true, Zn, reduceCtorEq, ZA, eq_self, Int.reduceLE, Int.reduceLT, Int.reduceToNat, ne_eq, Nat.reduceSub]
    repeat refine And.intro (by omega) ?_
    intro g
    simp only [List.map_cons, List.map_nil, updL, upd, Nat.reduceEqDiff, if_true, if_false, ↓reduceIte]
    refine hK _ _ ?_; clear hK K
    refine inBN ?_
    refine thenN ?_
    refine Cd.rr [0, 1, 5] fun K hK => ?_
    simp (maxSteps := 2000000) (disch := first | (simp only [E4] <;> omega) | omega | fail) only [↓E2, E3, bare, bareJ, ↓E0, E1, evP, evPlan, env0, envN, evOps, evOp, evQs, evQ, evV, setD, pureOp, ev, upd, updL, gate, binW, eqOp, binV, intOp, shOp, boolOp, unV, convV, nilV, fieldAddrV, indexAddrV, extractV, cellAt, cellsAt, findB, setB, fillL, buildV, Value.cells, lenV, minV, maxV, hav, sliceV, loV, hiV, bslQ, mksQ, appQ, partsOk, partsCells, delB, eqL, SameI, strOp, apzQ, cvtQ, capV, ↓reduceIte, Zj, Zk, Nat.reduceAdd, Nat.reduceLT, Nat.reduceEqDiff, Nat.reduceMul, Nat.reduceLeDiff, if_true, Zn, reduceCtorEq, ZA, eq_self, Int.reduceLE, Int.reduceLT, Int.reduceToNat, ne_eq, Nat.reduceSub]
    repeat refine And.intro (by omega) ?_
    intro g
    simp only [List.map_cons, List.map_nil, updL, upd, Nat.reduceEqDiff, if_true, if_false, ↓reduceIte]
    refine hK _ _ ?_; clear hK K
    exact roundN (m := n - 1) (by omega) ⟨_, i + 1, by omega, rfl, SlN.row hr'⟩
  · obtain rfl : i = l.length := by omega
    refine Cd.exit (thenX (roundX (inBX ?_)))
    refine thenN ?_
    refine Cd.rs [4] fun K hK => ?_
    simp (maxSteps := 2000000) (disch := first | (simp only [E4] <;> omega) | omega | fail) only [↓E2, E3, bare, bareJ, ↓E0, E1, evP, evPlan, env0, envN, evOps, evOp, evQs, evQ, evV, setD, pureOp, ev, upd, updL, gate, binW, eqOp, binV, intOp, shOp, boolOp, unV, convV, nilV, fieldAddrV, indexAddrV, extractV, cellAt, cellsAt, findB, setB, fillL, buildV, Value.cells, lenV, minV, maxV, hav, sliceV, loV, hiV, bslQ, mksQ, appQ, partsOk, partsCells, delB, eqL, SameI, strOp, apzQ, cvtQ, capV, ↓reduceIte, Zj, Zk, Nat.reduceAdd, Nat.reduceLT, Nat.reduceEqDiff, Nat.reduceMul, Nat.reduceLeDiff, if_true, Zn, reduceCtorEq, ZA, eq_self, Int.reduceLE, Int.reduceLT, Int.reduceToNat, ne_eq, Nat.reduceSub]
    repeat refine And.intro (by omega) ?_
    intro g
    simp only [List.map_cons, List.map_nil, updL, upd, Nat.reduceEqDiff, if_true, if_false, ↓reduceIte]
    refine hK _ _ ?_; clear hK K
    refine Cd.ret ?_
    simp (maxSteps := 2000000) (disch := first | (simp only [E4] <;> omega) | omega | fail) only [↓E2, E3, bare, bareJ, ↓E0, E1, evP, evPlan, env0, envN, evOps, evOp, evQs, evQ, evV, setD, pureOp, ev, upd, updL, gate, binW, eqOp, binV, intOp, shOp, boolOp, unV, convV, nilV, fieldAddrV, indexAddrV, extractV, cellAt, cellsAt, findB, setB, fillL, buildV, Value.cells, lenV, minV, maxV, hav, sliceV, loV, hiV, bslQ, mksQ, appQ, partsOk, partsCells, delB, eqL, SameI, strOp, apzQ, cvtQ, capV, ↓reduceIte, Zj, Zk, Nat.reduceAdd, Nat.reduceLT, Nat.reduceEqDiff, Nat.reduceMul, Nat.reduceLeDiff, if_true, Zn, reduceCtorEq, ZA, eq_self, Int.reduceLE, Int.reduceLT, Int.reduceToNat, ne_eq, Nat.reduceSub]
    rw [mkK_full] at hM
    exact hM

theorem heldInt64S_c (n k : Nat) (v : Value) (R : Rd) (h : RdS R 1 (ints .i64 (upK k n)) v) (hb : k + n < 4611686018427387904) :
    GivesR Try.prog 54 #[v, .int .i64 (k : Int)] R (.int .i64 ((k + n : Nat) : Int)) := by
  obtain ⟨a, m, cap, rfl, hm, _⟩ := id h
  obtain rfl := int64_len hm
  rw [upK_len] at *
  refine GivesR.of (callable_of Try.func54 rfl (by decide)) fun w hR => ?_
  refine acall_of (N := 21) (c := _) (rs := [.tmp 4]) (args := [_, _]) Try.func54 rfl (by decide) rfl rfl (Nat.le_of_ble_eq_true rfl) ?_
  refine Cd.rs [0, 1] fun K hK => ?_
  simp (maxSteps := 2000000) (disch := first | (simp only [E4] <;> omega) | omega | fail) only [↓E2, E3, bare, bareJ, ↓E0, E1, evP, evPlan, env0, envN, evOps, evOp, evQs, evQ, evV, setD, pureOp, ev, upd, updL, gate, binW, eqOp, binV, intOp, shOp, boolOp, unV, convV, nilV, fieldAddrV, indexAddrV, extractV, cellAt, cellsAt, findB, setB, fillL, buildV, Value.cells, lenV, minV, maxV, hav, sliceV, loV, hiV, bslQ, mksQ, appQ, partsOk, partsCells, delB, eqL, SameI, strOp, apzQ, cvtQ, capV, ↓reduceIte, Zj, Zk, Nat.reduceAdd, Nat.reduceLT, Nat.reduceEqDiff, Nat.reduceMul, Nat.reduceLeDiff, if_true, Zn, reduceCtorEq, ZA, eq_self, Int.reduceLE, Int.reduceLT, Int.reduceToNat, ne_eq, Nat.reduceSub]
  repeat refine And.intro (by omega) ?_
  intro g
  simp only [List.map_cons, List.map_nil, updL, upd, Nat.reduceEqDiff, if_true, if_false, ↓reduceIte]
  refine hK _ _ ?_; clear hK K
  refine Cd.seq ?_
  refine Cd.rs [0, 1, 5] fun K hK => ?_
  simp (maxSteps := 2000000) (disch := first | (simp only [E4] <;> omega) | omega | fail) only [↓E2, E3, bare, bareJ, ↓E0, E1, evP, evPlan, env0, envN, evOps, evOp, evQs, evQ, evV, setD, pureOp, ev, upd, updL, gate, binW, eqOp, binV, intOp, shOp, boolOp, unV, convV, nilV, fieldAddrV, indexAddrV, extractV, cellAt, cellsAt, findB, setB, fillL, buildV, Value.cells, lenV, minV, maxV, hav, sliceV, loV, hiV, bslQ, mksQ, appQ, partsOk, partsCells, delB, eqL, SameI, strOp, apzQ, cvtQ, capV, ↓reduceIte, Zj, Zk, Nat.reduceAdd, Nat.reduceLT, Nat.reduceEqDiff, Nat.reduceMul, Nat.reduceLeDiff, if_true, Zn, reduceCtorEq, ZA, eq_self, Int.reduceLE, Int.reduceLT, Int.reduceToNat, ne_eq, Nat.reduceSub]
  repeat refine And.intro (by omega) ?_
  intro g
  simp only [List.map_cons, List.map_nil, updL, upd, Nat.reduceEqDiff, if_true, if_false, ↓reduceIte]
  refine hK _ _ ?_; clear hK K
  refine Cd.block ?_
  refine Cd.loop (fun q ρ M => ∃ g i, i + q = n ∧ ρ = updL [(0, .slice a n cap), (1, .int .i64 ((k + i : Nat) : Int)), (5, .int .i64 (i : Int))] g ∧ M = []) n ⟨_, 0, Nat.zero_add _, rfl, rfl⟩ ?_
  rintro q ρ M ⟨g, i, hi, rfl, rfl⟩
  refine Cd.seq ?_
  refine Cd.rs [0, 1, 5, 9] fun K hK => ?_
  simp (maxSteps := 2000000) (disch := first | (simp only [E4] <;> omega) | omega | fail) only [↓E2, E3, bare, bareJ, ↓E0, E1, evP, evPlan, env0, envN, evOps, evOp, evQs, evQ, evV, setD, pureOp, ev, upd, updL, gate, binW, eqOp, binV, intOp, shOp, boolOp, unV, convV, nilV, fieldAddrV, indexAddrV, extractV, cellAt, cellsAt, findB, setB, fillL, buildV, Value.cells, lenV, minV, maxV, hav, sliceV, loV, hiV, bslQ, mksQ, appQ, partsOk, partsCells, delB, eqL, SameI, strOp, apzQ, cvtQ, capV, ↓reduceIte, Zj, Zk, Nat.reduceAdd, Nat.reduceLT, Nat.reduceEqDiff, Nat.reduceMul, Nat.reduceLeDiff, if_true, Zn, reduceCtorEq, ZA, eq_self, Int.reduceLE, Int.reduceLT, Int.reduceToNat, ne_eq, Nat.reduceSub, Tslce47]
  repeat refine And.intro (by omega) ?_
  intro g
  simp only [List.map_cons, List.map_nil, updL, upd, Nat.reduceEqDiff, if_true, if_false, ↓reduceIte]
  refine hK _ _ ?_; clear hK K
  refine Cd.condd rfl (fun h1 => ?_) (fun h1 => ?_)
  · obtain ⟨b, rfl, q1⟩ := h.get hR (ints_get (i := i) (by rw [upK_len]; omega))
    rw [upK_getD (by omega)] at q1
    refine Cd.skip ?_
    refine thenN ?_
    refine Cd.seq ?_
    refine Cd.block ?_
    skip
    refine Cd.seq ?_
    refine Cd.rs [0, 1, 5, 17] fun K hK => ?_
    simp (maxSteps := 2000000) (disch := first | (simp only [E4, q1] <;> omega) | omega | fail) only [↓E2, E3, bare, bareJ, ↓E0, E1, evP, evPlan, env0, envN, evOps, evOp, evQs, evQ, evV, setD, pureOp, ev, upd, updL, gate, binW, eqOp, binV, intOp, shOp, boolOp, unV, convV, nilV, fieldAddrV, indexAddrV, extractV, cellAt, cellsAt, findB, setB, fillL, buildV, Value.cells, lenV, minV, maxV, hav, sliceV, loV, hiV, bslQ, mksQ, appQ, partsOk, partsCells, delB, eqL, SameI, strOp, apzQ, cvtQ, capV, ↓reduceIte, Zj, Zk, Nat.reduceAdd, Nat.reduceLT, Nat.reduceEqDiff, Nat.reduceMul, Nat.reduceLeDiff, if_true, Zn, reduceCtorEq, ZA, eq_self, Int.reduceLE, Int.reduceLT, Int.reduceToNat, ne_eq, Nat.reduceSub, Tld2, Tslc47, q1]
    repeat refine And.intro (by omega) ?_
    intro g
    simp only [List.map_cons, List.map_nil, updL, upd, Nat.reduceEqDiff, if_true, if_false, ↓reduceIte]
    refine hK _ _ ?_; clear hK K
    refine Cd.same rfl (by omega) ?_
    refine Cd.skip ?_
    refine thenN ?_
    refine Cd.rr [0, 1, 5] fun K hK => ?_
    simp (maxSteps := 2000000) (disch := first | (simp only [E4, q1] <;> omega) | omega | fail) only [↓E2, E3, bare, bareJ, ↓E0, E1, evP, evPlan, env0, envN, evOps, evOp, evQs, evQ, evV, setD, pureOp, ev, upd, updL, gate, binW, eqOp, binV, intOp, shOp, boolOp, unV, convV, nilV, fieldAddrV, indexAddrV, extractV, cellAt, cellsAt, findB, setB, fillL, buildV, Value.cells, lenV, minV, maxV, hav, sliceV, loV, hiV, bslQ, mksQ, appQ, partsOk, partsCells, delB, eqL, SameI, strOp, apzQ, cvtQ, capV, ↓reduceIte, Zj, Zk, Nat.reduceAdd, Nat.reduceLT, Nat.reduceEqDiff, Nat.reduceMul, Nat.reduceLeDiff, if_true, Zn, reduceCtorEq, ZA, eq_self, Int.reduceLE, Int.reduceLT, Int.reduceToNat, ne_eq, Nat.reduceSub, q1]
    repeat refine And.intro (by omega) ?_
    intro g
    simp only [List.map_cons, List.map_nil, updL, upd, Nat.reduceEqDiff, if_true, if_false, ↓reduceIte]
    refine hK _ _ ?_; clear hK K
    refine inBN ?_
    refine thenN ?_
    refine Cd.rr [0, 1, 5] fun K hK => ?_
    simp (maxSteps := 2000000) (disch := first | (simp only [E4, q1] <;> omega) | omega | fail) only [↓E2, E3, bare, bareJ, ↓E0, E1, evP, evPlan, env0, envN, evOps, evOp, evQs, evQ, evV, setD, pureOp, ev, upd, updL, gate, binW, eqOp, binV, intOp, shOp, boolOp, unV, convV, nilV, fieldAddrV, indexAddrV, extractV, cellAt, cellsAt, findB, setB, fillL, buildV, Value.cells, lenV, minV, maxV, hav, sliceV, loV, hiV, bslQ, mksQ, appQ, partsOk, partsCells, delB, eqL, SameI, strOp, apzQ, cvtQ, capV, ↓reduceIte, Zj, Zk, Nat.reduceAdd, Nat.reduceLT, Nat.reduceEqDiff, Nat.reduceMul, Nat.reduceLeDiff, if_true, Zn, reduceCtorEq, ZA, eq_self, Int.reduceLE, Int.reduceLT, Int.reduceToNat, ne_eq, Nat.reduceSub, q1]
    repeat refine And.intro (by omega) ?_
    intro g
    simp only [List.map_cons, List.map_nil, updL, upd, Nat.reduceEqDiff, if_true, if_false, ↓reduceIte]
    refine hK _ _ ?_; clear hK K
    exact roundN (m := q - 1) (by omega) ⟨_, i + 1, by omega, rfl, rfl⟩
  · obtain rfl : i = n := by omega
    refine Cd.exit (thenX (roundX (inBX ?_)))
    refine thenN ?_
    refine Cd.rs [4] fun K hK => ?_
    simp (maxSteps := 2000000) (disch := first | (simp only [E4] <;> omega) | omega | fail) only [↓E2, E3, bare, bareJ, ↓E0, E1, evP, evPlan, env0, envN, evOps, evOp, evQs, evQ, evV, setD, pureOp, ev, upd, updL, gate, binW, eqOp, binV, intOp, shOp, boolOp, unV, convV, nilV, fieldAddrV, indexAddrV, extractV, cellAt, cellsAt, findB, setB, fillL, buildV, Value.cells, lenV, minV, maxV, hav, sliceV, loV, hiV, bslQ, mksQ, appQ, partsOk, partsCells, delB, eqL, SameI, strOp, apzQ, cvtQ, capV, ↓reduceIte, Zj, Zk, Nat.reduceAdd, Nat.reduceLT, Nat.reduceEqDiff, Nat.reduceMul, Nat.reduceLeDiff, if_true, Zn, reduceCtorEq, ZA, eq_self, Int.reduceLE, Int.reduceLT, Int.reduceToNat, ne_eq, Nat.reduceSub]
    repeat refine And.intro (by omega) ?_
    intro g
    simp only [List.map_cons, List.map_nil, updL, upd, Nat.reduceEqDiff, if_true, if_false, ↓reduceIte]
    refine hK _ _ ?_; clear hK K
    refine Cd.ret ?_
    simp (maxSteps := 2000000) (disch := first | (simp only [E4] <;> omega) | omega | fail) only [↓E2, E3, bare, bareJ, ↓E0, E1, evP, evPlan, env0, envN, evOps, evOp, evQs, evQ, evV, setD, pureOp, ev, upd, updL, gate, binW, eqOp, binV, intOp, shOp, boolOp, unV, convV, nilV, fieldAddrV, indexAddrV, extractV, cellAt, cellsAt, findB, setB, fillL, buildV, Value.cells, lenV, minV, maxV, hav, sliceV, loV, hiV, bslQ, mksQ, appQ, partsOk, partsCells, delB, eqL, SameI, strOp, apzQ, cvtQ, capV, ↓reduceIte, Zj, Zk, Nat.reduceAdd, Nat.reduceLT, Nat.reduceEqDiff, Nat.reduceMul, Nat.reduceLeDiff, if_true, Zn, reduceCtorEq, ZA, eq_self, Int.reduceLE, Int.reduceLT, Int.reduceToNat, ne_eq, Nat.reduceSub]

end Go.Proofs

