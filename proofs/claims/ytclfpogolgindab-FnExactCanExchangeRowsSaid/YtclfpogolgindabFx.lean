/-
  Facts on the types of the program, each reckoned by the kernel. Conditions: none.
-/
import Derived.Test.YtclfpogolgindabLX
import Derived.ProofKit
import Derived.OpenShut
import Derived.Below
import Derived.ChangeSame
import Derived.Test.YtclfpogolgindabProg
namespace Go.Proofs
open Go.W8
theorem ty_arr_109 : arrT Try.prog 109 = some (8, 1) := by kernel_rfl
theorem ty_arr_119 : arrT Try.prog 119 = some (8, 1) := by kernel_rfl
theorem ty_arr_22 : arrT Try.prog 22 = some (8, 1) := by kernel_rfl
theorem ty_bld_109 : bldP Try.prog 109 = some (ints .i64 z8, [(0, 1), (1, 1), (2, 1), (3, 1), (4, 1), (5, 1), (6, 1), (7, 1)]) := by kernel_rfl
theorem ty_bld_119 : bldP Try.prog 119 = some (bools (List.replicate 8 false), [(0, 1), (1, 1), (2, 1), (3, 1), (4, 1), (5, 1), (6, 1), (7, 1)]) := by kernel_rfl
theorem ty_bool_4 : boolT Try.prog 4 = true := by kernel_rfl
theorem ty_by_2 : bytesT Try.prog 2 = 8 := by kernel_rfl
theorem ty_fld_24_0 : fldO Try.prog 24 0 = some (0, 2) := by kernel_rfl
theorem ty_fld_24_1 : fldO Try.prog 24 1 = some (1, 22) := by kernel_rfl
theorem ty_fld_24_2 : fldO Try.prog 24 2 = some (9, 22) := by kernel_rfl
theorem ty_fld_27_0 : fldO Try.prog 27 0 = some (0, 2) := by kernel_rfl
theorem ty_fld_27_1 : fldO Try.prog 27 1 = some (1, 22) := by kernel_rfl
theorem ty_fld_27_2 : fldO Try.prog 27 2 = some (9, 22) := by kernel_rfl
theorem ty_int_2 : intT Try.prog 2 = some .i64 := by kernel_rfl
theorem ty_int_3 : intT Try.prog 3 = some .i64 := by kernel_rfl
theorem ty_ld_109 : ldT Try.prog 109 = some (some 8) := by kernel_rfl
theorem ty_ld_2 : ldT Try.prog 2 = some none := by kernel_rfl
theorem ty_ld_22 : ldT Try.prog 22 = some (some 8) := by kernel_rfl
theorem ty_ld_24 : ldT Try.prog 24 = some (some 17) := by kernel_rfl
theorem ty_ld_27 : ldT Try.prog 27 = some (some 17) := by kernel_rfl
theorem ty_ld_3 : ldT Try.prog 3 = some none := by kernel_rfl
theorem ty_ld_4 : ldT Try.prog 4 = some none := by kernel_rfl
theorem ty_ld_5 : ldT Try.prog 5 = some none := by kernel_rfl
theorem ty_par_5 : parT Try.prog 5 = true := by kernel_rfl
theorem ty_slc_42 : slcT Try.prog 42 = some 1 := by kernel_rfl
theorem ty_slc_92 : slcT Try.prog 92 = some 1 := by kernel_rfl
theorem ty_slce_42 : slcE Try.prog 42 = some 2 := by kernel_rfl
theorem ty_slce_92 : slcE Try.prog 92 = some 5 := by kernel_rfl
theorem ty_st_109 : stT Try.prog 109 = some 8 := by kernel_rfl
theorem ty_st_119 : stT Try.prog 119 = some 8 := by kernel_rfl
theorem ty_st_2 : stT Try.prog 2 = some 1 := by kernel_rfl
theorem ty_st_22 : stT Try.prog 22 = some 8 := by kernel_rfl
theorem ty_st_27 : stT Try.prog 27 = some 17 := by kernel_rfl
theorem ty_st_3 : stT Try.prog 3 = some 1 := by kernel_rfl
theorem ty_st_4 : stT Try.prog 4 = some 1 := by kernel_rfl
theorem ty_st_5 : stT Try.prog 5 = some 1 := by kernel_rfl
theorem ty_zero_109 : zeroT Try.prog 109 = some (ints .i64 z8) := by kernel_rfl
theorem ty_zero_119 : zeroT Try.prog 119 = some (bools (List.replicate 8 false)) := by kernel_rfl
theorem ty_zero_2 : zeroT Try.prog 2 = some ([.int .i64 0]) := by kernel_rfl
theorem ty_zero_22 : zeroT Try.prog 22 = some (ints .u8 z8) := by kernel_rfl
theorem ty_zero_27 : zeroT Try.prog 27 = some (gc 0 z8 z8) := by kernel_rfl
theorem fol : Try.prog.follows .mixedOrders = true := by kernel_rfl
end Go.Proofs
