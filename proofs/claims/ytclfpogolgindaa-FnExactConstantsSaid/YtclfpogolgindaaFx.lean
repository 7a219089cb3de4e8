/-
  Facts on the types of the program, each reckoned by the kernel. Conditions: none.
-/
import Derived.Test.YtclfpogolgindaaL8
import Derived.ProofKit
import Derived.OpenShut
import Derived.Below
import Derived.ChangeSame
import Derived.Test.YtclfpogolgindaaProg
namespace Go.Proofs
open Go.W8
theorem ty_arr_23 : arrT Try.prog 23 = some (8, 1) := by kernel_rfl
theorem ty_fld_25_0 : fldO Try.prog 25 0 = some (0, 2) := by kernel_rfl
theorem ty_fld_25_1 : fldO Try.prog 25 1 = some (1, 23) := by kernel_rfl
theorem ty_fld_25_2 : fldO Try.prog 25 2 = some (9, 23) := by kernel_rfl
theorem ty_fld_30_0 : fldO Try.prog 30 0 = some (0, 2) := by kernel_rfl
theorem ty_fld_30_1 : fldO Try.prog 30 1 = some (1, 23) := by kernel_rfl
theorem ty_fld_30_2 : fldO Try.prog 30 2 = some (9, 23) := by kernel_rfl
theorem ty_ld_2 : ldT Try.prog 2 = some none := by kernel_rfl
theorem ty_ld_23 : ldT Try.prog 23 = some (some 8) := by kernel_rfl
theorem ty_ld_25 : ldT Try.prog 25 = some (some 17) := by kernel_rfl
theorem ty_ld_5 : ldT Try.prog 5 = some none := by kernel_rfl
theorem ty_st_2 : stT Try.prog 2 = some 1 := by kernel_rfl
theorem ty_st_23 : stT Try.prog 23 = some 8 := by kernel_rfl
theorem ty_st_25 : stT Try.prog 25 = some 17 := by kernel_rfl
theorem ty_st_5 : stT Try.prog 5 = some 1 := by kernel_rfl
theorem ty_zero_23 : zeroT Try.prog 23 = some (ints .u8 z8) := by kernel_rfl
theorem ty_zero_25 : zeroT Try.prog 25 = some (gc 0 z8 z8) := by kernel_rfl
theorem fol : Try.prog.follows .mixedOrders = true := by kernel_rfl
end Go.Proofs
