/-
  Facts on the types of the program, each reckoned by the kernel. Conditions: none.
-/
import Derived.Test.YtclfpogolgindacLX
import Derived.ProofKit
import Derived.OpenShut
import Derived.Below
import Derived.ChangeSame
import Derived.Test.YtclfpogolgindacProg
namespace Go.Proofs
open Go.W8
theorem ty_arr_136 : arrT Try.prog 136 = some (8, 1) := by kernel_rfl
theorem ty_arr_22 : arrT Try.prog 22 = some (8, 1) := by kernel_rfl
theorem ty_bld_136 : bldP Try.prog 136 = some (bools (List.replicate 8 false), [(0, 1), (1, 1), (2, 1), (3, 1), (4, 1), (5, 1), (6, 1), (7, 1)]) := by kernel_rfl
theorem ty_bld_25 : bldP Try.prog 25 = some (gc 0 z8 z8, [(0, 1), (1, 8), (9, 8)]) := by kernel_rfl
theorem ty_bool_4 : boolT Try.prog 4 = true := by kernel_rfl
theorem ty_by_2 : bytesT Try.prog 2 = 8 := by kernel_rfl
theorem ty_fld_24_0 : fldO Try.prog 24 0 = some (0, 2) := by kernel_rfl
theorem ty_fld_24_1 : fldO Try.prog 24 1 = some (1, 22) := by kernel_rfl
theorem ty_fld_24_2 : fldO Try.prog 24 2 = some (9, 22) := by kernel_rfl
theorem ty_fld_25_0 : fldO Try.prog 25 0 = some (0, 2) := by kernel_rfl
theorem ty_fld_25_1 : fldO Try.prog 25 1 = some (1, 22) := by kernel_rfl
theorem ty_fld_25_2 : fldO Try.prog 25 2 = some (9, 22) := by kernel_rfl
theorem ty_int_2 : intT Try.prog 2 = some .i64 := by kernel_rfl
theorem ty_int_3 : intT Try.prog 3 = some .i64 := by kernel_rfl
theorem ty_ld_2 : ldT Try.prog 2 = some none := by kernel_rfl
theorem ty_ld_22 : ldT Try.prog 22 = some (some 8) := by kernel_rfl
theorem ty_ld_24 : ldT Try.prog 24 = some (some 17) := by kernel_rfl
theorem ty_ld_25 : ldT Try.prog 25 = some (some 17) := by kernel_rfl
theorem ty_ld_4 : ldT Try.prog 4 = some none := by kernel_rfl
theorem ty_ld_5 : ldT Try.prog 5 = some none := by kernel_rfl
theorem ty_par_5 : parT Try.prog 5 = true := by kernel_rfl
theorem ty_slc_123 : slcT Try.prog 123 = some 1 := by kernel_rfl
theorem ty_slc_39 : slcT Try.prog 39 = some 1 := by kernel_rfl
theorem ty_slce_123 : slcE Try.prog 123 = some 5 := by kernel_rfl
theorem ty_slce_39 : slcE Try.prog 39 = some 2 := by kernel_rfl
theorem ty_st_136 : stT Try.prog 136 = some 8 := by kernel_rfl
theorem ty_st_2 : stT Try.prog 2 = some 1 := by kernel_rfl
theorem ty_st_22 : stT Try.prog 22 = some 8 := by kernel_rfl
theorem ty_st_25 : stT Try.prog 25 = some 17 := by kernel_rfl
theorem ty_st_4 : stT Try.prog 4 = some 1 := by kernel_rfl
theorem ty_st_5 : stT Try.prog 5 = some 1 := by kernel_rfl
theorem ty_zero_136 : zeroT Try.prog 136 = some (bools (List.replicate 8 false)) := by kernel_rfl
theorem ty_zero_2 : zeroT Try.prog 2 = some ([.int .i64 0]) := by kernel_rfl
theorem ty_zero_22 : zeroT Try.prog 22 = some (ints .u8 z8) := by kernel_rfl
theorem ty_zero_25 : zeroT Try.prog 25 = some (gc 0 z8 z8) := by kernel_rfl
theorem fol : Try.prog.follows .mixedOrders = true := by kernel_rfl
end Go.Proofs
