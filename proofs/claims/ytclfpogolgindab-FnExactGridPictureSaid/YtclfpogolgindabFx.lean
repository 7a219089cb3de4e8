/-
  Facts on the types of the program, each reckoned by the kernel. Conditions: none.
-/
import Derived.Test.YtclfpogolgindabLZ
import Derived.ProofKit
import Derived.OpenShut
import Derived.Below
import Derived.ChangeSame
import Derived.Test.YtclfpogolgindabProg
namespace Go.Proofs
open Go.W8
theorem Tagg2 : aggT Try.prog 2 = false := by kernel_rfl
theorem Tagg42 : aggT Try.prog 42 = false := by kernel_rfl
theorem Tarr109 : arrT Try.prog 109 = some (8, 1) := by kernel_rfl
theorem Tarr119 : arrT Try.prog 119 = some (8, 1) := by kernel_rfl
theorem Tarr120 : arrT Try.prog 120 = some (8, 8) := by kernel_rfl
theorem Tarr125 : arrT Try.prog 125 = some (129, 1) := by kernel_rfl
theorem Tarr22 : arrT Try.prog 22 = some (8, 1) := by kernel_rfl
theorem Tarr83 : arrT Try.prog 83 = some (8, 1) := by kernel_rfl
theorem Tarre125 : arrE Try.prog 125 = some 2 := by kernel_rfl
theorem Tbld109 : bldP Try.prog 109 = some (ints .i64 z8, [(0, 1), (1, 1), (2, 1), (3, 1), (4, 1), (5, 1), (6, 1), (7, 1)]) := by kernel_rfl
theorem Tbld117 : bldP Try.prog 117 = some ([.int .i64 0, .int .i64 0, .int .i64 0], [(0, 1), (1, 1), (2, 1)]) := by kernel_rfl
theorem Tbld119 : bldP Try.prog 119 = some (bools (List.replicate 8 false), [(0, 1), (1, 1), (2, 1), (3, 1), (4, 1), (5, 1), (6, 1), (7, 1)]) := by kernel_rfl
theorem Tbld120 : bldP Try.prog 120 = some (ints .i64 (List.replicate 64 0), [(0, 8), (8, 8), (16, 8), (24, 8), (32, 8), (40, 8), (48, 8), (56, 8)]) := by kernel_rfl
theorem Tbld27 : bldP Try.prog 27 = some (gc 0 z8 z8, [(0, 1), (1, 8), (9, 8)]) := by kernel_rfl
theorem Tbld47 : bldP Try.prog 47 = some ([.int .i64 0, .slice none 0 0], [(0, 1), (1, 1)]) := by kernel_rfl
theorem Tbld83 : bldP Try.prog 83 = some (ints .i64 z8, [(0, 1), (1, 1), (2, 1), (3, 1), (4, 1), (5, 1), (6, 1), (7, 1)]) := by kernel_rfl
theorem Tbool4 : boolT Try.prog 4 = true := by kernel_rfl
theorem Tby117 : bytesT Try.prog 117 = 24 := by kernel_rfl
theorem Tby125 : bytesT Try.prog 125 = 1032 := by kernel_rfl
theorem Tby2 : bytesT Try.prog 2 = 8 := by kernel_rfl
theorem Tby3 : bytesT Try.prog 3 = 8 := by kernel_rfl
theorem Tby5 : bytesT Try.prog 5 = 1 := by kernel_rfl
theorem Tfld117_2 : fldO Try.prog 117 2 = some (2, 2) := by kernel_rfl
theorem Tfld24_0 : fldO Try.prog 24 0 = some (0, 2) := by kernel_rfl
theorem Tfld24_1 : fldO Try.prog 24 1 = some (1, 22) := by kernel_rfl
theorem Tfld24_2 : fldO Try.prog 24 2 = some (9, 22) := by kernel_rfl
theorem Tfld27_0 : fldO Try.prog 27 0 = some (0, 2) := by kernel_rfl
theorem Tfld27_1 : fldO Try.prog 27 1 = some (1, 22) := by kernel_rfl
theorem Tfld27_2 : fldO Try.prog 27 2 = some (9, 22) := by kernel_rfl
theorem Tfld44_0 : fldO Try.prog 44 0 = some (0, 2) := by kernel_rfl
theorem Tfld44_1 : fldO Try.prog 44 1 = some (1, 42) := by kernel_rfl
theorem Tfld47_0 : fldO Try.prog 47 0 = some (0, 2) := by kernel_rfl
theorem Tfld47_1 : fldO Try.prog 47 1 = some (1, 42) := by kernel_rfl
theorem Thas2 : hasT Try.prog 2 = true := by kernel_rfl
theorem Thas42 : hasT Try.prog 42 = true := by kernel_rfl
theorem Tint2 : intT Try.prog 2 = some .i64 := by kernel_rfl
theorem Tint3 : intT Try.prog 3 = some .i64 := by kernel_rfl
theorem Tint5 : intT Try.prog 5 = some .u8 := by kernel_rfl
theorem Tintn9 : intT Try.prog 9 = none := by kernel_rfl
theorem Tld109 : ldT Try.prog 109 = some (some 8) := by kernel_rfl
theorem Tld117 : ldT Try.prog 117 = some (some 3) := by kernel_rfl
theorem Tld119 : ldT Try.prog 119 = some (some 8) := by kernel_rfl
theorem Tld120 : ldT Try.prog 120 = some (some 64) := by kernel_rfl
theorem Tld125 : ldT Try.prog 125 = some (some 129) := by kernel_rfl
theorem Tld2 : ldT Try.prog 2 = some none := by kernel_rfl
theorem Tld22 : ldT Try.prog 22 = some (some 8) := by kernel_rfl
theorem Tld24 : ldT Try.prog 24 = some (some 17) := by kernel_rfl
theorem Tld27 : ldT Try.prog 27 = some (some 17) := by kernel_rfl
theorem Tld3 : ldT Try.prog 3 = some none := by kernel_rfl
theorem Tld4 : ldT Try.prog 4 = some none := by kernel_rfl
theorem Tld42 : ldT Try.prog 42 = some none := by kernel_rfl
theorem Tld44 : ldT Try.prog 44 = some (some 2) := by kernel_rfl
theorem Tld47 : ldT Try.prog 47 = some (some 2) := by kernel_rfl
theorem Tld5 : ldT Try.prog 5 = some none := by kernel_rfl
theorem Tld83 : ldT Try.prog 83 = some (some 8) := by kernel_rfl
theorem Tpar2 : parT Try.prog 2 = true := by kernel_rfl
theorem Tpar3 : parT Try.prog 3 = true := by kernel_rfl
theorem Tpar42 : parT Try.prog 42 = true := by kernel_rfl
theorem Tpar5 : parT Try.prog 5 = true := by kernel_rfl
theorem Tslc114 : slcT Try.prog 114 = some 3 := by kernel_rfl
theorem Tslc123 : slcT Try.prog 123 = some 129 := by kernel_rfl
theorem Tslc42 : slcT Try.prog 42 = some 1 := by kernel_rfl
theorem Tslc88 : slcT Try.prog 88 = some 1 := by kernel_rfl
theorem Tslc92 : slcT Try.prog 92 = some 1 := by kernel_rfl
theorem Tslce114 : slcE Try.prog 114 = some 117 := by kernel_rfl
theorem Tslce123 : slcE Try.prog 123 = some 125 := by kernel_rfl
theorem Tslce42 : slcE Try.prog 42 = some 2 := by kernel_rfl
theorem Tslce88 : slcE Try.prog 88 = some 3 := by kernel_rfl
theorem Tslce92 : slcE Try.prog 92 = some 5 := by kernel_rfl
theorem Tst109 : stT Try.prog 109 = some 8 := by kernel_rfl
theorem Tst117 : stT Try.prog 117 = some 3 := by kernel_rfl
theorem Tst119 : stT Try.prog 119 = some 8 := by kernel_rfl
theorem Tst120 : stT Try.prog 120 = some 64 := by kernel_rfl
theorem Tst125 : stT Try.prog 125 = some 129 := by kernel_rfl
theorem Tst2 : stT Try.prog 2 = some 1 := by kernel_rfl
theorem Tst22 : stT Try.prog 22 = some 8 := by kernel_rfl
theorem Tst27 : stT Try.prog 27 = some 17 := by kernel_rfl
theorem Tst3 : stT Try.prog 3 = some 1 := by kernel_rfl
theorem Tst4 : stT Try.prog 4 = some 1 := by kernel_rfl
theorem Tst42 : stT Try.prog 42 = some 1 := by kernel_rfl
theorem Tst47 : stT Try.prog 47 = some 2 := by kernel_rfl
theorem Tst5 : stT Try.prog 5 = some 1 := by kernel_rfl
theorem Tst83 : stT Try.prog 83 = some 8 := by kernel_rfl
theorem Tstr9 : strT Try.prog 9 = true := by kernel_rfl
theorem Tsz2 : szT Try.prog 2 = 1 := by kernel_rfl
theorem Tsz42 : szT Try.prog 42 = 1 := by kernel_rfl
theorem Tzero109 : zeroT Try.prog 109 = some (ints .i64 z8) := by kernel_rfl
theorem Tzero117 : zeroT Try.prog 117 = some ([.int .i64 0, .int .i64 0, .int .i64 0]) := by kernel_rfl
theorem Tzero119 : zeroT Try.prog 119 = some (bools (List.replicate 8 false)) := by kernel_rfl
theorem Tzero120 : zeroT Try.prog 120 = some (ints .i64 (List.replicate 64 0)) := by kernel_rfl
theorem Tzero125 : zeroT Try.prog 125 = some (ints .i64 (List.replicate 129 0)) := by kernel_rfl
theorem Tzero2 : zeroT Try.prog 2 = some ([.int .i64 0]) := by kernel_rfl
theorem Tzero22 : zeroT Try.prog 22 = some (ints .u8 z8) := by kernel_rfl
theorem Tzero27 : zeroT Try.prog 27 = some (gc 0 z8 z8) := by kernel_rfl
theorem Tzero3 : zeroT Try.prog 3 = some ([.int .i64 0]) := by kernel_rfl
theorem Tzero47 : zeroT Try.prog 47 = some ([.int .i64 0, .slice none 0 0]) := by kernel_rfl
theorem Tzero5 : zeroT Try.prog 5 = some ([.int .u8 0]) := by kernel_rfl
theorem Tzero83 : zeroT Try.prog 83 = some (ints .i64 z8) := by kernel_rfl
theorem fol : Try.prog.follows .mixedOrders = true := by kernel_rfl
end Go.Proofs
