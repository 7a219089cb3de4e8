/-
  Facts on the types of the program, each reckoned by the kernel. Conditions: none.
-/
import Derived.Test.YtclfpogolgindacLT
import Derived.ProofKit
import Derived.OpenShut
import Derived.Below
import Derived.ChangeSame
import Derived.Test.YtclfpogolgindacProg
namespace Go.Proofs
open Go.W8
theorem ty_arr_115 : arrT Try.prog 115 = some (8, 8) := by kernel_rfl
theorem ty_arr_136 : arrT Try.prog 136 = some (8, 1) := by kernel_rfl
theorem ty_arr_22 : arrT Try.prog 22 = some (8, 1) := by kernel_rfl
theorem ty_arr_93 : arrT Try.prog 93 = some (8, 1) := by kernel_rfl
theorem ty_arr_96 : arrT Try.prog 96 = some (8, 1) := by kernel_rfl
theorem ty_bld_100 : bldP Try.prog 100 = some ([.int .i64 0, .int .i64 0, .int .i64 0, .int .i64 0, .int .i64 0, .int .i64 0], [(0, 1), (1, 1), (2, 1), (3, 1), (4, 1), (5, 1)]) := by kernel_rfl
theorem ty_bld_115 : bldP Try.prog 115 = some (ints .i64 (List.replicate 64 0), [(0, 8), (8, 8), (16, 8), (24, 8), (32, 8), (40, 8), (48, 8), (56, 8)]) := by kernel_rfl
theorem ty_bld_136 : bldP Try.prog 136 = some (bools (List.replicate 8 false), [(0, 1), (1, 1), (2, 1), (3, 1), (4, 1), (5, 1), (6, 1), (7, 1)]) := by kernel_rfl
theorem ty_bld_22 : bldP Try.prog 22 = some (ints .u8 z8, [(0, 1), (1, 1), (2, 1), (3, 1), (4, 1), (5, 1), (6, 1), (7, 1)]) := by kernel_rfl
theorem ty_bld_25 : bldP Try.prog 25 = some (gc 0 z8 z8, [(0, 1), (1, 8), (9, 8)]) := by kernel_rfl
theorem ty_bld_43 : bldP Try.prog 43 = some ([.int .i64 0] ++ [.slice none 0 0], [(0, 1), (1, 1)]) := by kernel_rfl
theorem ty_bld_75 : bldP Try.prog 75 = some ([.int .i64 0, .int .i64 0, .int .i64 0, .int .i64 0], [(0, 1), (1, 1), (2, 1), (3, 1)]) := by kernel_rfl
theorem ty_bld_92 : bldP Try.prog 92 = some ([.int .i64 0, .int .i64 0, .int .i64 0], [(0, 1), (1, 1), (2, 1)]) := by kernel_rfl
theorem ty_bld_93 : bldP Try.prog 93 = some (ints .i64 z8, [(0, 1), (1, 1), (2, 1), (3, 1), (4, 1), (5, 1), (6, 1), (7, 1)]) := by kernel_rfl
theorem ty_bld_96 : bldP Try.prog 96 = some (ints .i64 z8, [(0, 1), (1, 1), (2, 1), (3, 1), (4, 1), (5, 1), (6, 1), (7, 1)]) := by kernel_rfl
theorem ty_bool_4 : boolT Try.prog 4 = true := by kernel_rfl
theorem ty_by_2 : bytesT Try.prog 2 = 8 := by kernel_rfl
theorem ty_by_39 : bytesT Try.prog 39 = 24 := by kernel_rfl
theorem ty_by_43 : bytesT Try.prog 43 = 32 := by kernel_rfl
theorem ty_by_92 : bytesT Try.prog 92 = 24 := by kernel_rfl
theorem ty_eqt_25 : eqT Try.prog 25 = some 17 := by kernel_rfl
theorem ty_fld_24_0 : fldO Try.prog 24 0 = some (0, 2) := by kernel_rfl
theorem ty_fld_24_1 : fldO Try.prog 24 1 = some (1, 22) := by kernel_rfl
theorem ty_fld_24_2 : fldO Try.prog 24 2 = some (9, 22) := by kernel_rfl
theorem ty_fld_25_0 : fldO Try.prog 25 0 = some (0, 2) := by kernel_rfl
theorem ty_fld_25_1 : fldO Try.prog 25 1 = some (1, 22) := by kernel_rfl
theorem ty_fld_25_2 : fldO Try.prog 25 2 = some (9, 22) := by kernel_rfl
theorem ty_fld_41_0 : fldO Try.prog 41 0 = some (0, 2) := by kernel_rfl
theorem ty_fld_41_1 : fldO Try.prog 41 1 = some (1, 39) := by kernel_rfl
theorem ty_fld_43_0 : fldO Try.prog 43 0 = some (0, 2) := by kernel_rfl
theorem ty_fld_43_1 : fldO Try.prog 43 1 = some (1, 39) := by kernel_rfl
theorem ty_fld_75_0 : fldO Try.prog 75 0 = some (0, 3) := by kernel_rfl
theorem ty_fld_75_1 : fldO Try.prog 75 1 = some (1, 3) := by kernel_rfl
theorem ty_fld_75_2 : fldO Try.prog 75 2 = some (2, 3) := by kernel_rfl
theorem ty_fld_75_3 : fldO Try.prog 75 3 = some (3, 3) := by kernel_rfl
theorem ty_fld_92_0 : fldO Try.prog 92 0 = some (0, 2) := by kernel_rfl
theorem ty_fld_92_1 : fldO Try.prog 92 1 = some (1, 2) := by kernel_rfl
theorem ty_fld_92_2 : fldO Try.prog 92 2 = some (2, 2) := by kernel_rfl
theorem ty_int_2 : intT Try.prog 2 = some .i64 := by kernel_rfl
theorem ty_int_3 : intT Try.prog 3 = some .i64 := by kernel_rfl
theorem ty_int_5 : intT Try.prog 5 = some .u8 := by kernel_rfl
theorem ty_ld_100 : ldT Try.prog 100 = some (some 6) := by kernel_rfl
theorem ty_ld_2 : ldT Try.prog 2 = some none := by kernel_rfl
theorem ty_ld_22 : ldT Try.prog 22 = some (some 8) := by kernel_rfl
theorem ty_ld_24 : ldT Try.prog 24 = some (some 17) := by kernel_rfl
theorem ty_ld_25 : ldT Try.prog 25 = some (some 17) := by kernel_rfl
theorem ty_ld_3 : ldT Try.prog 3 = some none := by kernel_rfl
theorem ty_ld_39 : ldT Try.prog 39 = some none := by kernel_rfl
theorem ty_ld_4 : ldT Try.prog 4 = some none := by kernel_rfl
theorem ty_ld_41 : ldT Try.prog 41 = some (some 2) := by kernel_rfl
theorem ty_ld_43 : ldT Try.prog 43 = some (some 2) := by kernel_rfl
theorem ty_ld_5 : ldT Try.prog 5 = some none := by kernel_rfl
theorem ty_ld_75 : ldT Try.prog 75 = some (some 4) := by kernel_rfl
theorem ty_ld_92 : ldT Try.prog 92 = some (some 3) := by kernel_rfl
theorem ty_ld_93 : ldT Try.prog 93 = some (some 8) := by kernel_rfl
theorem ty_ld_96 : ldT Try.prog 96 = some (some 8) := by kernel_rfl
theorem ty_par_2 : parT Try.prog 2 = true := by kernel_rfl
theorem ty_par_3 : parT Try.prog 3 = true := by kernel_rfl
theorem ty_par_5 : parT Try.prog 5 = true := by kernel_rfl
theorem ty_slc_114 : slcT Try.prog 114 = some 2 := by kernel_rfl
theorem ty_slc_123 : slcT Try.prog 123 = some 1 := by kernel_rfl
theorem ty_slc_33 : slcT Try.prog 33 = some 1 := by kernel_rfl
theorem ty_slc_39 : slcT Try.prog 39 = some 1 := by kernel_rfl
theorem ty_slc_50 : slcT Try.prog 50 = some 3 := by kernel_rfl
theorem ty_slce_114 : slcE Try.prog 114 = some 43 := by kernel_rfl
theorem ty_slce_123 : slcE Try.prog 123 = some 5 := by kernel_rfl
theorem ty_slce_33 : slcE Try.prog 33 = some 39 := by kernel_rfl
theorem ty_slce_39 : slcE Try.prog 39 = some 2 := by kernel_rfl
theorem ty_slce_50 : slcE Try.prog 50 = some 92 := by kernel_rfl
theorem ty_st_100 : stT Try.prog 100 = some 6 := by kernel_rfl
theorem ty_st_115 : stT Try.prog 115 = some 64 := by kernel_rfl
theorem ty_st_136 : stT Try.prog 136 = some 8 := by kernel_rfl
theorem ty_st_2 : stT Try.prog 2 = some 1 := by kernel_rfl
theorem ty_st_22 : stT Try.prog 22 = some 8 := by kernel_rfl
theorem ty_st_25 : stT Try.prog 25 = some 17 := by kernel_rfl
theorem ty_st_3 : stT Try.prog 3 = some 1 := by kernel_rfl
theorem ty_st_39 : stT Try.prog 39 = some 1 := by kernel_rfl
theorem ty_st_4 : stT Try.prog 4 = some 1 := by kernel_rfl
theorem ty_st_43 : stT Try.prog 43 = some 2 := by kernel_rfl
theorem ty_st_5 : stT Try.prog 5 = some 1 := by kernel_rfl
theorem ty_st_75 : stT Try.prog 75 = some 4 := by kernel_rfl
theorem ty_st_92 : stT Try.prog 92 = some 3 := by kernel_rfl
theorem ty_st_93 : stT Try.prog 93 = some 8 := by kernel_rfl
theorem ty_st_96 : stT Try.prog 96 = some 8 := by kernel_rfl
theorem ty_zero_100 : zeroT Try.prog 100 = some ([.int .i64 0, .int .i64 0, .int .i64 0, .int .i64 0, .int .i64 0, .int .i64 0]) := by kernel_rfl
theorem ty_zero_115 : zeroT Try.prog 115 = some (ints .i64 (List.replicate 64 0)) := by kernel_rfl
theorem ty_zero_136 : zeroT Try.prog 136 = some (bools (List.replicate 8 false)) := by kernel_rfl
theorem ty_zero_2 : zeroT Try.prog 2 = some ([.int .i64 0]) := by kernel_rfl
theorem ty_zero_22 : zeroT Try.prog 22 = some (ints .u8 z8) := by kernel_rfl
theorem ty_zero_25 : zeroT Try.prog 25 = some (gc 0 z8 z8) := by kernel_rfl
theorem ty_zero_39 : zeroT Try.prog 39 = some ([.slice none 0 0]) := by kernel_rfl
theorem ty_zero_43 : zeroT Try.prog 43 = some ([.int .i64 0] ++ [.slice none 0 0]) := by kernel_rfl
theorem ty_zero_75 : zeroT Try.prog 75 = some ([.int .i64 0, .int .i64 0, .int .i64 0, .int .i64 0]) := by kernel_rfl
theorem ty_zero_92 : zeroT Try.prog 92 = some ([.int .i64 0, .int .i64 0, .int .i64 0]) := by kernel_rfl
theorem ty_zero_93 : zeroT Try.prog 93 = some (ints .i64 z8) := by kernel_rfl
theorem ty_zero_96 : zeroT Try.prog 96 = some (ints .i64 z8) := by kernel_rfl
theorem fol : Try.prog.follows .mixedOrders = true := by kernel_rfl
end Go.Proofs
