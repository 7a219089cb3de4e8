/-
  Facts on the types of the program, each reckoned by the kernel. Conditions: none.
-/
import Derived.Test.YtclfpogolgindaaLZ
import Derived.ProofKit
import Derived.OpenShut
import Derived.Below
import Derived.ChangeSame
import Derived.Test.YtclfpogolgindaaProg
namespace Go.Proofs
open Go.W8
theorem Tarr115 : arrT Try.prog 115 = some (8, 1) := by kernel_rfl
theorem Tarr134 : arrT Try.prog 134 = some (8, 1) := by kernel_rfl
theorem Tarr23 : arrT Try.prog 23 = some (8, 1) := by kernel_rfl
theorem Tarr35 : arrT Try.prog 35 = some (8, 1) := by kernel_rfl
theorem Tbld104 : bldP Try.prog 104 = some ([.int .i64 0, .int .i64 0, .int .i64 0, .int .i64 0], [(0, 1), (1, 1), (2, 1), (3, 1)]) := by kernel_rfl
theorem Tbld110 : bldP Try.prog 110 = some ([.int .i64 0, .int .i64 0, .int .i64 0, .int .i64 0, .int .i64 0, .int .i64 0], [(0, 1), (1, 1), (2, 1), (3, 1), (4, 1), (5, 1)]) := by kernel_rfl
theorem Tbld115 : bldP Try.prog 115 = some (ints .i64 z8, [(0, 1), (1, 1), (2, 1), (3, 1), (4, 1), (5, 1), (6, 1), (7, 1)]) := by kernel_rfl
theorem Tbld126 : bldP Try.prog 126 = some ([.slice none 0 0, .int .i64 0, .int .u64 0], [(0, 1), (1, 1), (2, 1)]) := by kernel_rfl
theorem Tbld134 : bldP Try.prog 134 = some (bools (List.replicate 8 false), [(0, 1), (1, 1), (2, 1), (3, 1), (4, 1), (5, 1), (6, 1), (7, 1)]) := by kernel_rfl
theorem Tbld23 : bldP Try.prog 23 = some (ints .u8 z8, [(0, 1), (1, 1), (2, 1), (3, 1), (4, 1), (5, 1), (6, 1), (7, 1)]) := by kernel_rfl
theorem Tbld25 : bldP Try.prog 25 = some (gc 0 z8 z8, [(0, 1), (1, 8), (9, 8)]) := by kernel_rfl
theorem Tbld35 : bldP Try.prog 35 = some (ints .u8 z8, [(0, 1), (1, 1), (2, 1), (3, 1), (4, 1), (5, 1), (6, 1), (7, 1)]) := by kernel_rfl
theorem Tbool4 : boolT Try.prog 4 = true := by kernel_rfl
theorem Tby2 : bytesT Try.prog 2 = 8 := by kernel_rfl
theorem Tby35 : bytesT Try.prog 35 = 8 := by kernel_rfl
theorem Tby44 : bytesT Try.prog 44 = 24 := by kernel_rfl
theorem Tby5 : bytesT Try.prog 5 = 1 := by kernel_rfl
theorem Teqt25 : eqT Try.prog 25 = some 17 := by kernel_rfl
theorem Tfld104_0 : fldO Try.prog 104 0 = some (0, 3) := by kernel_rfl
theorem Tfld104_1 : fldO Try.prog 104 1 = some (1, 3) := by kernel_rfl
theorem Tfld104_2 : fldO Try.prog 104 2 = some (2, 3) := by kernel_rfl
theorem Tfld104_3 : fldO Try.prog 104 3 = some (3, 3) := by kernel_rfl
theorem Tfld126_0 : fldO Try.prog 126 0 = some (0, 60) := by kernel_rfl
theorem Tfld126_1 : fldO Try.prog 126 1 = some (1, 3) := by kernel_rfl
theorem Tfld126_2 : fldO Try.prog 126 2 = some (2, 124) := by kernel_rfl
theorem Tfld25_0 : fldO Try.prog 25 0 = some (0, 2) := by kernel_rfl
theorem Tfld25_1 : fldO Try.prog 25 1 = some (1, 23) := by kernel_rfl
theorem Tfld25_2 : fldO Try.prog 25 2 = some (9, 23) := by kernel_rfl
theorem Tfld30_0 : fldO Try.prog 30 0 = some (0, 2) := by kernel_rfl
theorem Tfld30_1 : fldO Try.prog 30 1 = some (1, 23) := by kernel_rfl
theorem Tfld30_2 : fldO Try.prog 30 2 = some (9, 23) := by kernel_rfl
theorem Tfld46_0 : fldO Try.prog 46 0 = some (0, 2) := by kernel_rfl
theorem Tfld46_1 : fldO Try.prog 46 1 = some (1, 44) := by kernel_rfl
theorem Tfld49_0 : fldO Try.prog 49 0 = some (0, 2) := by kernel_rfl
theorem Tfld49_1 : fldO Try.prog 49 1 = some (1, 44) := by kernel_rfl
theorem Tint124 : intT Try.prog 124 = some .u64 := by kernel_rfl
theorem Tint2 : intT Try.prog 2 = some .i64 := by kernel_rfl
theorem Tint3 : intT Try.prog 3 = some .i64 := by kernel_rfl
theorem Tint5 : intT Try.prog 5 = some .u8 := by kernel_rfl
theorem Tintn9 : intT Try.prog 9 = none := by kernel_rfl
theorem Tld104 : ldT Try.prog 104 = some (some 4) := by kernel_rfl
theorem Tld110 : ldT Try.prog 110 = some (some 6) := by kernel_rfl
theorem Tld115 : ldT Try.prog 115 = some (some 8) := by kernel_rfl
theorem Tld120 : ldT Try.prog 120 = some none := by kernel_rfl
theorem Tld124 : ldT Try.prog 124 = some none := by kernel_rfl
theorem Tld2 : ldT Try.prog 2 = some none := by kernel_rfl
theorem Tld23 : ldT Try.prog 23 = some (some 8) := by kernel_rfl
theorem Tld25 : ldT Try.prog 25 = some (some 17) := by kernel_rfl
theorem Tld3 : ldT Try.prog 3 = some none := by kernel_rfl
theorem Tld30 : ldT Try.prog 30 = some (some 17) := by kernel_rfl
theorem Tld35 : ldT Try.prog 35 = some (some 8) := by kernel_rfl
theorem Tld38 : ldT Try.prog 38 = some none := by kernel_rfl
theorem Tld4 : ldT Try.prog 4 = some none := by kernel_rfl
theorem Tld44 : ldT Try.prog 44 = some none := by kernel_rfl
theorem Tld46 : ldT Try.prog 46 = some (some 2) := by kernel_rfl
theorem Tld49 : ldT Try.prog 49 = some (some 2) := by kernel_rfl
theorem Tld5 : ldT Try.prog 5 = some none := by kernel_rfl
theorem Tld60 : ldT Try.prog 60 = some none := by kernel_rfl
theorem Tpar124 : parT Try.prog 124 = true := by kernel_rfl
theorem Tpar2 : parT Try.prog 2 = true := by kernel_rfl
theorem Tpar3 : parT Try.prog 3 = true := by kernel_rfl
theorem Tpar5 : parT Try.prog 5 = true := by kernel_rfl
theorem Tslc38 : slcT Try.prog 38 = some 8 := by kernel_rfl
theorem Tslc44 : slcT Try.prog 44 = some 1 := by kernel_rfl
theorem Tslc60 : slcT Try.prog 60 = some 1 := by kernel_rfl
theorem Tslc71 : slcT Try.prog 71 = some 1 := by kernel_rfl
theorem Tslce38 : slcE Try.prog 38 = some 35 := by kernel_rfl
theorem Tslce44 : slcE Try.prog 44 = some 2 := by kernel_rfl
theorem Tslce60 : slcE Try.prog 60 = some 5 := by kernel_rfl
theorem Tslce71 : slcE Try.prog 71 = some 44 := by kernel_rfl
theorem Tst104 : stT Try.prog 104 = some 4 := by kernel_rfl
theorem Tst110 : stT Try.prog 110 = some 6 := by kernel_rfl
theorem Tst115 : stT Try.prog 115 = some 8 := by kernel_rfl
theorem Tst120 : stT Try.prog 120 = some 1 := by kernel_rfl
theorem Tst124 : stT Try.prog 124 = some 1 := by kernel_rfl
theorem Tst134 : stT Try.prog 134 = some 8 := by kernel_rfl
theorem Tst2 : stT Try.prog 2 = some 1 := by kernel_rfl
theorem Tst23 : stT Try.prog 23 = some 8 := by kernel_rfl
theorem Tst25 : stT Try.prog 25 = some 17 := by kernel_rfl
theorem Tst3 : stT Try.prog 3 = some 1 := by kernel_rfl
theorem Tst35 : stT Try.prog 35 = some 8 := by kernel_rfl
theorem Tst38 : stT Try.prog 38 = some 1 := by kernel_rfl
theorem Tst4 : stT Try.prog 4 = some 1 := by kernel_rfl
theorem Tst44 : stT Try.prog 44 = some 1 := by kernel_rfl
theorem Tst49 : stT Try.prog 49 = some 2 := by kernel_rfl
theorem Tst5 : stT Try.prog 5 = some 1 := by kernel_rfl
theorem Tstr9 : strT Try.prog 9 = true := by kernel_rfl
theorem Tzero104 : zeroT Try.prog 104 = some ([.int .i64 0, .int .i64 0, .int .i64 0, .int .i64 0]) := by kernel_rfl
theorem Tzero110 : zeroT Try.prog 110 = some ([.int .i64 0, .int .i64 0, .int .i64 0, .int .i64 0, .int .i64 0, .int .i64 0]) := by kernel_rfl
theorem Tzero115 : zeroT Try.prog 115 = some (ints .i64 z8) := by kernel_rfl
theorem Tzero120 : zeroT Try.prog 120 = some ([.nilFunc]) := by kernel_rfl
theorem Tzero134 : zeroT Try.prog 134 = some (bools (List.replicate 8 false)) := by kernel_rfl
theorem Tzero2 : zeroT Try.prog 2 = some ([.int .i64 0]) := by kernel_rfl
theorem Tzero23 : zeroT Try.prog 23 = some (ints .u8 z8) := by kernel_rfl
theorem Tzero25 : zeroT Try.prog 25 = some (gc 0 z8 z8) := by kernel_rfl
theorem Tzero35 : zeroT Try.prog 35 = some (ints .u8 z8) := by kernel_rfl
theorem Tzero38 : zeroT Try.prog 38 = some ([.slice none 0 0]) := by kernel_rfl
theorem Tzero44 : zeroT Try.prog 44 = some ([.slice none 0 0]) := by kernel_rfl
theorem Tzero49 : zeroT Try.prog 49 = some ([.int .i64 0, .slice none 0 0]) := by kernel_rfl
theorem Tzero5 : zeroT Try.prog 5 = some ([.int .u8 0]) := by kernel_rfl
theorem fol : Try.prog.follows .mixedOrders = true := by kernel_rfl
end Go.Proofs
