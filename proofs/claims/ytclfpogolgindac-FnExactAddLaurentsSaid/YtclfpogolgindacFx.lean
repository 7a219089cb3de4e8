/-
  Facts on the types of the program, each reckoned by the kernel. Conditions: none.
-/
import Derived.Test.YtclfpogolgindacLZ
import Derived.ProofKit
import Derived.OpenShut
import Derived.Below
import Derived.ChangeSame
import Derived.Test.YtclfpogolgindacProg
namespace Go.Proofs
open Go.W8
theorem Tarr115 : arrT Try.prog 115 = some (8, 8) := by kernel_rfl
theorem Tarr136 : arrT Try.prog 136 = some (8, 1) := by kernel_rfl
theorem Tarr22 : arrT Try.prog 22 = some (8, 1) := by kernel_rfl
theorem Tarr93 : arrT Try.prog 93 = some (8, 1) := by kernel_rfl
theorem Tarr96 : arrT Try.prog 96 = some (8, 1) := by kernel_rfl
theorem Tbld100 : bldP Try.prog 100 = some ([.int .i64 0, .int .i64 0, .int .i64 0, .int .i64 0, .int .i64 0, .int .i64 0], [(0, 1), (1, 1), (2, 1), (3, 1), (4, 1), (5, 1)]) := by kernel_rfl
theorem Tbld115 : bldP Try.prog 115 = some (ints .i64 (List.replicate 64 0), [(0, 8), (8, 8), (16, 8), (24, 8), (32, 8), (40, 8), (48, 8), (56, 8)]) := by kernel_rfl
theorem Tbld136 : bldP Try.prog 136 = some (bools (List.replicate 8 false), [(0, 1), (1, 1), (2, 1), (3, 1), (4, 1), (5, 1), (6, 1), (7, 1)]) := by kernel_rfl
theorem Tbld22 : bldP Try.prog 22 = some (ints .u8 z8, [(0, 1), (1, 1), (2, 1), (3, 1), (4, 1), (5, 1), (6, 1), (7, 1)]) := by kernel_rfl
theorem Tbld25 : bldP Try.prog 25 = some (gc 0 z8 z8, [(0, 1), (1, 8), (9, 8)]) := by kernel_rfl
theorem Tbld43 : bldP Try.prog 43 = some ([.int .i64 0, .slice none 0 0], [(0, 1), (1, 1)]) := by kernel_rfl
theorem Tbld75 : bldP Try.prog 75 = some ([.int .i64 0, .int .i64 0, .int .i64 0, .int .i64 0], [(0, 1), (1, 1), (2, 1), (3, 1)]) := by kernel_rfl
theorem Tbld92 : bldP Try.prog 92 = some ([.int .i64 0, .int .i64 0, .int .i64 0], [(0, 1), (1, 1), (2, 1)]) := by kernel_rfl
theorem Tbld93 : bldP Try.prog 93 = some (ints .i64 z8, [(0, 1), (1, 1), (2, 1), (3, 1), (4, 1), (5, 1), (6, 1), (7, 1)]) := by kernel_rfl
theorem Tbld96 : bldP Try.prog 96 = some (ints .i64 z8, [(0, 1), (1, 1), (2, 1), (3, 1), (4, 1), (5, 1), (6, 1), (7, 1)]) := by kernel_rfl
theorem Tbool4 : boolT Try.prog 4 = true := by kernel_rfl
theorem Tby2 : bytesT Try.prog 2 = 8 := by kernel_rfl
theorem Tby39 : bytesT Try.prog 39 = 24 := by kernel_rfl
theorem Tby43 : bytesT Try.prog 43 = 32 := by kernel_rfl
theorem Tby92 : bytesT Try.prog 92 = 24 := by kernel_rfl
theorem Teqt25 : eqT Try.prog 25 = some 17 := by kernel_rfl
theorem Tfld24_0 : fldO Try.prog 24 0 = some (0, 2) := by kernel_rfl
theorem Tfld24_1 : fldO Try.prog 24 1 = some (1, 22) := by kernel_rfl
theorem Tfld24_2 : fldO Try.prog 24 2 = some (9, 22) := by kernel_rfl
theorem Tfld25_0 : fldO Try.prog 25 0 = some (0, 2) := by kernel_rfl
theorem Tfld25_1 : fldO Try.prog 25 1 = some (1, 22) := by kernel_rfl
theorem Tfld25_2 : fldO Try.prog 25 2 = some (9, 22) := by kernel_rfl
theorem Tfld41_0 : fldO Try.prog 41 0 = some (0, 2) := by kernel_rfl
theorem Tfld41_1 : fldO Try.prog 41 1 = some (1, 39) := by kernel_rfl
theorem Tfld43_0 : fldO Try.prog 43 0 = some (0, 2) := by kernel_rfl
theorem Tfld43_1 : fldO Try.prog 43 1 = some (1, 39) := by kernel_rfl
theorem Tfld75_0 : fldO Try.prog 75 0 = some (0, 3) := by kernel_rfl
theorem Tfld75_1 : fldO Try.prog 75 1 = some (1, 3) := by kernel_rfl
theorem Tfld75_2 : fldO Try.prog 75 2 = some (2, 3) := by kernel_rfl
theorem Tfld75_3 : fldO Try.prog 75 3 = some (3, 3) := by kernel_rfl
theorem Tfld92_0 : fldO Try.prog 92 0 = some (0, 2) := by kernel_rfl
theorem Tfld92_1 : fldO Try.prog 92 1 = some (1, 2) := by kernel_rfl
theorem Tfld92_2 : fldO Try.prog 92 2 = some (2, 2) := by kernel_rfl
theorem Tint2 : intT Try.prog 2 = some .i64 := by kernel_rfl
theorem Tint3 : intT Try.prog 3 = some .i64 := by kernel_rfl
theorem Tint5 : intT Try.prog 5 = some .u8 := by kernel_rfl
theorem Tld100 : ldT Try.prog 100 = some (some 6) := by kernel_rfl
theorem Tld2 : ldT Try.prog 2 = some none := by kernel_rfl
theorem Tld22 : ldT Try.prog 22 = some (some 8) := by kernel_rfl
theorem Tld24 : ldT Try.prog 24 = some (some 17) := by kernel_rfl
theorem Tld25 : ldT Try.prog 25 = some (some 17) := by kernel_rfl
theorem Tld3 : ldT Try.prog 3 = some none := by kernel_rfl
theorem Tld39 : ldT Try.prog 39 = some none := by kernel_rfl
theorem Tld4 : ldT Try.prog 4 = some none := by kernel_rfl
theorem Tld41 : ldT Try.prog 41 = some (some 2) := by kernel_rfl
theorem Tld43 : ldT Try.prog 43 = some (some 2) := by kernel_rfl
theorem Tld5 : ldT Try.prog 5 = some none := by kernel_rfl
theorem Tld75 : ldT Try.prog 75 = some (some 4) := by kernel_rfl
theorem Tld92 : ldT Try.prog 92 = some (some 3) := by kernel_rfl
theorem Tld93 : ldT Try.prog 93 = some (some 8) := by kernel_rfl
theorem Tld96 : ldT Try.prog 96 = some (some 8) := by kernel_rfl
theorem Tpar2 : parT Try.prog 2 = true := by kernel_rfl
theorem Tpar3 : parT Try.prog 3 = true := by kernel_rfl
theorem Tpar5 : parT Try.prog 5 = true := by kernel_rfl
theorem Tslc114 : slcT Try.prog 114 = some 2 := by kernel_rfl
theorem Tslc123 : slcT Try.prog 123 = some 1 := by kernel_rfl
theorem Tslc33 : slcT Try.prog 33 = some 1 := by kernel_rfl
theorem Tslc39 : slcT Try.prog 39 = some 1 := by kernel_rfl
theorem Tslc50 : slcT Try.prog 50 = some 3 := by kernel_rfl
theorem Tslce114 : slcE Try.prog 114 = some 43 := by kernel_rfl
theorem Tslce123 : slcE Try.prog 123 = some 5 := by kernel_rfl
theorem Tslce33 : slcE Try.prog 33 = some 39 := by kernel_rfl
theorem Tslce39 : slcE Try.prog 39 = some 2 := by kernel_rfl
theorem Tslce50 : slcE Try.prog 50 = some 92 := by kernel_rfl
theorem Tst100 : stT Try.prog 100 = some 6 := by kernel_rfl
theorem Tst115 : stT Try.prog 115 = some 64 := by kernel_rfl
theorem Tst136 : stT Try.prog 136 = some 8 := by kernel_rfl
theorem Tst2 : stT Try.prog 2 = some 1 := by kernel_rfl
theorem Tst22 : stT Try.prog 22 = some 8 := by kernel_rfl
theorem Tst25 : stT Try.prog 25 = some 17 := by kernel_rfl
theorem Tst3 : stT Try.prog 3 = some 1 := by kernel_rfl
theorem Tst39 : stT Try.prog 39 = some 1 := by kernel_rfl
theorem Tst4 : stT Try.prog 4 = some 1 := by kernel_rfl
theorem Tst43 : stT Try.prog 43 = some 2 := by kernel_rfl
theorem Tst5 : stT Try.prog 5 = some 1 := by kernel_rfl
theorem Tst75 : stT Try.prog 75 = some 4 := by kernel_rfl
theorem Tst92 : stT Try.prog 92 = some 3 := by kernel_rfl
theorem Tst93 : stT Try.prog 93 = some 8 := by kernel_rfl
theorem Tst96 : stT Try.prog 96 = some 8 := by kernel_rfl
theorem Tzero100 : zeroT Try.prog 100 = some ([.int .i64 0, .int .i64 0, .int .i64 0, .int .i64 0, .int .i64 0, .int .i64 0]) := by kernel_rfl
theorem Tzero115 : zeroT Try.prog 115 = some (ints .i64 (List.replicate 64 0)) := by kernel_rfl
theorem Tzero136 : zeroT Try.prog 136 = some (bools (List.replicate 8 false)) := by kernel_rfl
theorem Tzero2 : zeroT Try.prog 2 = some ([.int .i64 0]) := by kernel_rfl
theorem Tzero22 : zeroT Try.prog 22 = some (ints .u8 z8) := by kernel_rfl
theorem Tzero25 : zeroT Try.prog 25 = some (gc 0 z8 z8) := by kernel_rfl
theorem Tzero39 : zeroT Try.prog 39 = some ([.slice none 0 0]) := by kernel_rfl
theorem Tzero43 : zeroT Try.prog 43 = some ([.int .i64 0, .slice none 0 0]) := by kernel_rfl
theorem Tzero75 : zeroT Try.prog 75 = some ([.int .i64 0, .int .i64 0, .int .i64 0, .int .i64 0]) := by kernel_rfl
theorem Tzero92 : zeroT Try.prog 92 = some ([.int .i64 0, .int .i64 0, .int .i64 0]) := by kernel_rfl
theorem Tzero93 : zeroT Try.prog 93 = some (ints .i64 z8) := by kernel_rfl
theorem Tzero96 : zeroT Try.prog 96 = some (ints .i64 z8) := by kernel_rfl
theorem fol : Try.prog.follows .mixedOrders = true := by kernel_rfl
end Go.Proofs
