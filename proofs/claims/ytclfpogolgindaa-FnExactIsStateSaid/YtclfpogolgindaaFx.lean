/-
  Facts on the types of the program, each reckoned by the kernel. Conditions: none.
-/
import Derived.Test.YtclfpogolgindaaLX
import Derived.ProofKit
import Derived.OpenShut
import Derived.Below
import Derived.ChangeSame
import Derived.Test.YtclfpogolgindaaProg
namespace Go.Proofs
open Go.W8
theorem ty_arr_134 : arrT Try.prog 134 = some (8, 1) := by kernel_rfl
theorem ty_arr_23 : arrT Try.prog 23 = some (8, 1) := by kernel_rfl
theorem ty_arr_35 : arrT Try.prog 35 = some (8, 1) := by kernel_rfl
theorem ty_bld_134 : bldP Try.prog 134 = some (bools (List.replicate 8 false), [(0, 1), (1, 1), (2, 1), (3, 1), (4, 1), (5, 1), (6, 1), (7, 1)]) := by kernel_rfl
theorem ty_bool_4 : boolT Try.prog 4 = true := by kernel_rfl
theorem ty_fld_25_0 : fldO Try.prog 25 0 = some (0, 2) := by kernel_rfl
theorem ty_fld_25_1 : fldO Try.prog 25 1 = some (1, 23) := by kernel_rfl
theorem ty_fld_25_2 : fldO Try.prog 25 2 = some (9, 23) := by kernel_rfl
theorem ty_fld_30_0 : fldO Try.prog 30 0 = some (0, 2) := by kernel_rfl
theorem ty_fld_30_1 : fldO Try.prog 30 1 = some (1, 23) := by kernel_rfl
theorem ty_fld_30_2 : fldO Try.prog 30 2 = some (9, 23) := by kernel_rfl
theorem ty_int_2 : intT Try.prog 2 = some .i64 := by kernel_rfl
theorem ty_int_3 : intT Try.prog 3 = some .i64 := by kernel_rfl
theorem ty_ld_2 : ldT Try.prog 2 = some none := by kernel_rfl
theorem ty_ld_23 : ldT Try.prog 23 = some (some 8) := by kernel_rfl
theorem ty_ld_25 : ldT Try.prog 25 = some (some 17) := by kernel_rfl
theorem ty_ld_30 : ldT Try.prog 30 = some (some 17) := by kernel_rfl
theorem ty_ld_35 : ldT Try.prog 35 = some (some 8) := by kernel_rfl
theorem ty_ld_4 : ldT Try.prog 4 = some none := by kernel_rfl
theorem ty_ld_5 : ldT Try.prog 5 = some none := by kernel_rfl
theorem ty_par_5 : parT Try.prog 5 = true := by kernel_rfl
theorem ty_slc_60 : slcT Try.prog 60 = some 1 := by kernel_rfl
theorem ty_slce_60 : slcE Try.prog 60 = some 5 := by kernel_rfl
theorem ty_st_134 : stT Try.prog 134 = some 8 := by kernel_rfl
theorem ty_st_2 : stT Try.prog 2 = some 1 := by kernel_rfl
theorem ty_st_23 : stT Try.prog 23 = some 8 := by kernel_rfl
theorem ty_st_25 : stT Try.prog 25 = some 17 := by kernel_rfl
theorem ty_st_35 : stT Try.prog 35 = some 8 := by kernel_rfl
theorem ty_st_4 : stT Try.prog 4 = some 1 := by kernel_rfl
theorem ty_st_5 : stT Try.prog 5 = some 1 := by kernel_rfl
theorem ty_zero_134 : zeroT Try.prog 134 = some (bools (List.replicate 8 false)) := by kernel_rfl
theorem ty_zero_23 : zeroT Try.prog 23 = some (ints .u8 z8) := by kernel_rfl
theorem ty_zero_25 : zeroT Try.prog 25 = some (gc 0 z8 z8) := by kernel_rfl
theorem ty_zero_35 : zeroT Try.prog 35 = some (ints .u8 z8) := by kernel_rfl
theorem fol : Try.prog.follows .mixedOrders = true := by kernel_rfl
end Go.Proofs
