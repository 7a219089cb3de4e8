/-
  Facts on the types of the program, each reckoned by the kernel. Conditions: none.
-/
import Derived.Test.YtdfddcfgagfdoaaLB
import Derived.ProofKit
import Derived.OpenShut
import Derived.Below
import Derived.ChangeSame
import Derived.Test.YtdfddcfgagfdoaaProg
namespace Go.Proofs
open Go.W8
theorem Tagg2 : aggT Try.prog 2 = false := by kernel_rfl
theorem Tagg47 : aggT Try.prog 47 = false := by kernel_rfl
theorem Tarr100 : arrT Try.prog 100 = some (8, 1) := by kernel_rfl
theorem Tarr110 : arrT Try.prog 110 = some (8, 1) := by kernel_rfl
theorem Tarr113 : arrT Try.prog 113 = some (8, 8) := by kernel_rfl
theorem Tarr163 : arrT Try.prog 163 = some (8, 1) := by kernel_rfl
theorem Tarr166 : arrT Try.prog 166 = some (129, 1) := by kernel_rfl
theorem Tarr30 : arrT Try.prog 30 = some (8, 1) := by kernel_rfl
theorem Tarr80 : arrT Try.prog 80 = some (8, 1) := by kernel_rfl
theorem Tarre166 : arrE Try.prog 166 = some 2 := by kernel_rfl
theorem Tbld100 : bldP Try.prog 100 = some (ints .i64 z8, [(0, 1), (1, 1), (2, 1), (3, 1), (4, 1), (5, 1), (6, 1), (7, 1)]) := by kernel_rfl
theorem Tbld110 : bldP Try.prog 110 = some (ints .i64 z8, [(0, 1), (1, 1), (2, 1), (3, 1), (4, 1), (5, 1), (6, 1), (7, 1)]) := by kernel_rfl
theorem Tbld113 : bldP Try.prog 113 = some (ints .i64 (List.replicate 64 0), [(0, 8), (8, 8), (16, 8), (24, 8), (32, 8), (40, 8), (48, 8), (56, 8)]) := by kernel_rfl
theorem Tbld117 : bldP Try.prog 117 = some ([.int .i64 0, .int .i64 0, .int .i64 0], [(0, 1), (1, 1), (2, 1)]) := by kernel_rfl
theorem Tbld145 : bldP Try.prog 145 = some ([.slice none 0 0, .int .i64 0, .int .u64 0], [(0, 1), (1, 1), (2, 1)]) := by kernel_rfl
theorem Tbld163 : bldP Try.prog 163 = some (bools (List.replicate 8 false), [(0, 1), (1, 1), (2, 1), (3, 1), (4, 1), (5, 1), (6, 1), (7, 1)]) := by kernel_rfl
theorem Tbld30 : bldP Try.prog 30 = some (ints .u8 z8, [(0, 1), (1, 1), (2, 1), (3, 1), (4, 1), (5, 1), (6, 1), (7, 1)]) := by kernel_rfl
theorem Tbld32 : bldP Try.prog 32 = some (gc 0 z8 z8, [(0, 1), (1, 8), (9, 8)]) := by kernel_rfl
theorem Tbld56 : bldP Try.prog 56 = some ([.int .i64 0, .slice none 0 0], [(0, 1), (1, 1)]) := by kernel_rfl
theorem Tbld80 : bldP Try.prog 80 = some (ints .u8 z8, [(0, 1), (1, 1), (2, 1), (3, 1), (4, 1), (5, 1), (6, 1), (7, 1)]) := by kernel_rfl
theorem Tbld87 : bldP Try.prog 87 = some ([.int .i64 0, .int .i64 0, .int .i64 0, .int .i64 0], [(0, 1), (1, 1), (2, 1), (3, 1)]) := by kernel_rfl
theorem Tbld93 : bldP Try.prog 93 = some ([.int .i64 0, .int .i64 0, .int .i64 0, .int .i64 0, .int .i64 0, .int .i64 0], [(0, 1), (1, 1), (2, 1), (3, 1), (4, 1), (5, 1)]) := by kernel_rfl
theorem Tbool4 : boolT Try.prog 4 = true := by kernel_rfl
theorem Tby117 : bytesT Try.prog 117 = 24 := by kernel_rfl
theorem Tby132 : bytesT Try.prog 132 = 24 := by kernel_rfl
theorem Tby166 : bytesT Try.prog 166 = 1032 := by kernel_rfl
theorem Tby2 : bytesT Try.prog 2 = 8 := by kernel_rfl
theorem Tby3 : bytesT Try.prog 3 = 8 := by kernel_rfl
theorem Tby47 : bytesT Try.prog 47 = 24 := by kernel_rfl
theorem Tby80 : bytesT Try.prog 80 = 8 := by kernel_rfl
theorem Tby93 : bytesT Try.prog 93 = 48 := by kernel_rfl
theorem Teqt32 : eqT Try.prog 32 = some 17 := by kernel_rfl
theorem Teqt93 : eqT Try.prog 93 = some 6 := by kernel_rfl
theorem Tfld117_0 : fldO Try.prog 117 0 = some (0, 2) := by kernel_rfl
theorem Tfld117_1 : fldO Try.prog 117 1 = some (1, 2) := by kernel_rfl
theorem Tfld117_2 : fldO Try.prog 117 2 = some (2, 2) := by kernel_rfl
theorem Tfld145_0 : fldO Try.prog 145 0 = some (0, 28) := by kernel_rfl
theorem Tfld145_1 : fldO Try.prog 145 1 = some (1, 3) := by kernel_rfl
theorem Tfld145_2 : fldO Try.prog 145 2 = some (2, 143) := by kernel_rfl
theorem Tfld32_0 : fldO Try.prog 32 0 = some (0, 2) := by kernel_rfl
theorem Tfld32_1 : fldO Try.prog 32 1 = some (1, 30) := by kernel_rfl
theorem Tfld32_2 : fldO Try.prog 32 2 = some (9, 30) := by kernel_rfl
theorem Tfld49_0 : fldO Try.prog 49 0 = some (0, 2) := by kernel_rfl
theorem Tfld49_1 : fldO Try.prog 49 1 = some (1, 30) := by kernel_rfl
theorem Tfld49_2 : fldO Try.prog 49 2 = some (9, 30) := by kernel_rfl
theorem Tfld56_0 : fldO Try.prog 56 0 = some (0, 2) := by kernel_rfl
theorem Tfld56_1 : fldO Try.prog 56 1 = some (1, 47) := by kernel_rfl
theorem Tfld61_0 : fldO Try.prog 61 0 = some (0, 2) := by kernel_rfl
theorem Tfld61_1 : fldO Try.prog 61 1 = some (1, 47) := by kernel_rfl
theorem Tfld87_0 : fldO Try.prog 87 0 = some (0, 3) := by kernel_rfl
theorem Tfld87_1 : fldO Try.prog 87 1 = some (1, 3) := by kernel_rfl
theorem Tfld87_2 : fldO Try.prog 87 2 = some (2, 3) := by kernel_rfl
theorem Tfld87_3 : fldO Try.prog 87 3 = some (3, 3) := by kernel_rfl
theorem Tfld93_0 : fldO Try.prog 93 0 = some (0, 2) := by kernel_rfl
theorem Tfld93_1 : fldO Try.prog 93 1 = some (1, 2) := by kernel_rfl
theorem Tfld93_2 : fldO Try.prog 93 2 = some (2, 2) := by kernel_rfl
theorem Tfld93_3 : fldO Try.prog 93 3 = some (3, 2) := by kernel_rfl
theorem Tfld93_4 : fldO Try.prog 93 4 = some (4, 2) := by kernel_rfl
theorem Tfld93_5 : fldO Try.prog 93 5 = some (5, 2) := by kernel_rfl
theorem Thas2 : hasT Try.prog 2 = true := by kernel_rfl
theorem Thas47 : hasT Try.prog 47 = true := by kernel_rfl
theorem Tint143 : intT Try.prog 143 = some .u64 := by kernel_rfl
theorem Tint2 : intT Try.prog 2 = some .i64 := by kernel_rfl
theorem Tint3 : intT Try.prog 3 = some .i64 := by kernel_rfl
theorem Tint5 : intT Try.prog 5 = some .u8 := by kernel_rfl
theorem Tld100 : ldT Try.prog 100 = some (some 8) := by kernel_rfl
theorem Tld110 : ldT Try.prog 110 = some (some 8) := by kernel_rfl
theorem Tld113 : ldT Try.prog 113 = some (some 64) := by kernel_rfl
theorem Tld117 : ldT Try.prog 117 = some (some 3) := by kernel_rfl
theorem Tld132 : ldT Try.prog 132 = some none := by kernel_rfl
theorem Tld142 : ldT Try.prog 142 = some none := by kernel_rfl
theorem Tld143 : ldT Try.prog 143 = some none := by kernel_rfl
theorem Tld163 : ldT Try.prog 163 = some (some 8) := by kernel_rfl
theorem Tld166 : ldT Try.prog 166 = some (some 129) := by kernel_rfl
theorem Tld2 : ldT Try.prog 2 = some none := by kernel_rfl
theorem Tld22 : ldT Try.prog 22 = some none := by kernel_rfl
theorem Tld28 : ldT Try.prog 28 = some none := by kernel_rfl
theorem Tld3 : ldT Try.prog 3 = some none := by kernel_rfl
theorem Tld30 : ldT Try.prog 30 = some (some 8) := by kernel_rfl
theorem Tld32 : ldT Try.prog 32 = some (some 17) := by kernel_rfl
theorem Tld4 : ldT Try.prog 4 = some none := by kernel_rfl
theorem Tld47 : ldT Try.prog 47 = some none := by kernel_rfl
theorem Tld49 : ldT Try.prog 49 = some (some 17) := by kernel_rfl
theorem Tld5 : ldT Try.prog 5 = some none := by kernel_rfl
theorem Tld56 : ldT Try.prog 56 = some (some 2) := by kernel_rfl
theorem Tld61 : ldT Try.prog 61 = some (some 2) := by kernel_rfl
theorem Tld71 : ldT Try.prog 71 = some none := by kernel_rfl
theorem Tld80 : ldT Try.prog 80 = some (some 8) := by kernel_rfl
theorem Tld87 : ldT Try.prog 87 = some (some 4) := by kernel_rfl
theorem Tld93 : ldT Try.prog 93 = some (some 6) := by kernel_rfl
theorem Tpar143 : parT Try.prog 143 = true := by kernel_rfl
theorem Tpar2 : parT Try.prog 2 = true := by kernel_rfl
theorem Tpar3 : parT Try.prog 3 = true := by kernel_rfl
theorem Tpar47 : parT Try.prog 47 = true := by kernel_rfl
theorem Tpar5 : parT Try.prog 5 = true := by kernel_rfl
theorem Tslc114 : slcT Try.prog 114 = some 3 := by kernel_rfl
theorem Tslc132 : slcT Try.prog 132 = some 1 := by kernel_rfl
theorem Tslc164 : slcT Try.prog 164 = some 129 := by kernel_rfl
theorem Tslc171 : slcT Try.prog 171 = some 1 := by kernel_rfl
theorem Tslc22 : slcT Try.prog 22 = some 8 := by kernel_rfl
theorem Tslc28 : slcT Try.prog 28 = some 1 := by kernel_rfl
theorem Tslc43 : slcT Try.prog 43 = some 1 := by kernel_rfl
theorem Tslc47 : slcT Try.prog 47 = some 1 := by kernel_rfl
theorem Tslc71 : slcT Try.prog 71 = some 6 := by kernel_rfl
theorem Tslce114 : slcE Try.prog 114 = some 117 := by kernel_rfl
theorem Tslce132 : slcE Try.prog 132 = some 3 := by kernel_rfl
theorem Tslce164 : slcE Try.prog 164 = some 166 := by kernel_rfl
theorem Tslce171 : slcE Try.prog 171 = some 132 := by kernel_rfl
theorem Tslce22 : slcE Try.prog 22 = some 80 := by kernel_rfl
theorem Tslce28 : slcE Try.prog 28 = some 5 := by kernel_rfl
theorem Tslce43 : slcE Try.prog 43 = some 47 := by kernel_rfl
theorem Tslce47 : slcE Try.prog 47 = some 2 := by kernel_rfl
theorem Tslce71 : slcE Try.prog 71 = some 93 := by kernel_rfl
theorem Tst100 : stT Try.prog 100 = some 8 := by kernel_rfl
theorem Tst110 : stT Try.prog 110 = some 8 := by kernel_rfl
theorem Tst113 : stT Try.prog 113 = some 64 := by kernel_rfl
theorem Tst117 : stT Try.prog 117 = some 3 := by kernel_rfl
theorem Tst142 : stT Try.prog 142 = some 1 := by kernel_rfl
theorem Tst143 : stT Try.prog 143 = some 1 := by kernel_rfl
theorem Tst163 : stT Try.prog 163 = some 8 := by kernel_rfl
theorem Tst166 : stT Try.prog 166 = some 129 := by kernel_rfl
theorem Tst2 : stT Try.prog 2 = some 1 := by kernel_rfl
theorem Tst22 : stT Try.prog 22 = some 1 := by kernel_rfl
theorem Tst3 : stT Try.prog 3 = some 1 := by kernel_rfl
theorem Tst30 : stT Try.prog 30 = some 8 := by kernel_rfl
theorem Tst32 : stT Try.prog 32 = some 17 := by kernel_rfl
theorem Tst4 : stT Try.prog 4 = some 1 := by kernel_rfl
theorem Tst47 : stT Try.prog 47 = some 1 := by kernel_rfl
theorem Tst5 : stT Try.prog 5 = some 1 := by kernel_rfl
theorem Tst56 : stT Try.prog 56 = some 2 := by kernel_rfl
theorem Tst71 : stT Try.prog 71 = some 1 := by kernel_rfl
theorem Tst87 : stT Try.prog 87 = some 4 := by kernel_rfl
theorem Tst93 : stT Try.prog 93 = some 6 := by kernel_rfl
theorem Tsz2 : szT Try.prog 2 = 1 := by kernel_rfl
theorem Tsz47 : szT Try.prog 47 = 1 := by kernel_rfl
theorem Tzero100 : zeroT Try.prog 100 = some (ints .i64 z8) := by kernel_rfl
theorem Tzero110 : zeroT Try.prog 110 = some (ints .i64 z8) := by kernel_rfl
theorem Tzero113 : zeroT Try.prog 113 = some (ints .i64 (List.replicate 64 0)) := by kernel_rfl
theorem Tzero117 : zeroT Try.prog 117 = some ([.int .i64 0, .int .i64 0, .int .i64 0]) := by kernel_rfl
theorem Tzero132 : zeroT Try.prog 132 = some ([.slice none 0 0]) := by kernel_rfl
theorem Tzero142 : zeroT Try.prog 142 = some ([.nilFunc]) := by kernel_rfl
theorem Tzero163 : zeroT Try.prog 163 = some (bools (List.replicate 8 false)) := by kernel_rfl
theorem Tzero166 : zeroT Try.prog 166 = some (ints .i64 (List.replicate 129 0)) := by kernel_rfl
theorem Tzero2 : zeroT Try.prog 2 = some ([.int .i64 0]) := by kernel_rfl
theorem Tzero22 : zeroT Try.prog 22 = some ([.slice none 0 0]) := by kernel_rfl
theorem Tzero3 : zeroT Try.prog 3 = some ([.int .i64 0]) := by kernel_rfl
theorem Tzero30 : zeroT Try.prog 30 = some (ints .u8 z8) := by kernel_rfl
theorem Tzero32 : zeroT Try.prog 32 = some (gc 0 z8 z8) := by kernel_rfl
theorem Tzero47 : zeroT Try.prog 47 = some ([.slice none 0 0]) := by kernel_rfl
theorem Tzero56 : zeroT Try.prog 56 = some ([.int .i64 0, .slice none 0 0]) := by kernel_rfl
theorem Tzero71 : zeroT Try.prog 71 = some ([.slice none 0 0]) := by kernel_rfl
theorem Tzero80 : zeroT Try.prog 80 = some (ints .u8 z8) := by kernel_rfl
theorem Tzero87 : zeroT Try.prog 87 = some ([.int .i64 0, .int .i64 0, .int .i64 0, .int .i64 0]) := by kernel_rfl
theorem Tzero93 : zeroT Try.prog 93 = some ([.int .i64 0, .int .i64 0, .int .i64 0, .int .i64 0, .int .i64 0, .int .i64 0]) := by kernel_rfl
theorem fol : Try.prog.follows .mixedOrders = true := by kernel_rfl
end Go.Proofs
