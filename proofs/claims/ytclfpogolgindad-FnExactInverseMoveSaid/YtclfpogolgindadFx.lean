/-
  Facts on the types of the program, each reckoned by the kernel. Conditions: none.
-/
import Derived.Test.YtclfpogolgindadLT
import Derived.ProofKit
import Derived.OpenShut
import Derived.Below
import Derived.ChangeSame
import Derived.Test.YtclfpogolgindadProg
namespace Go.Proofs
open Go.W8
theorem Tagg2 : aggT Try.prog 2 = false := by kernel_rfl
theorem Tagg25 : aggT Try.prog 25 = false := by kernel_rfl
theorem Tarr106 : arrT Try.prog 106 = some (8, 1) := by kernel_rfl
theorem Tarr129 : arrT Try.prog 129 = some (8, 8) := by kernel_rfl
theorem Tarr131 : arrT Try.prog 131 = some (8, 1) := by kernel_rfl
theorem Tarr135 : arrT Try.prog 135 = some (129, 1) := by kernel_rfl
theorem Tarr156 : arrT Try.prog 156 = some (8, 1) := by kernel_rfl
theorem Tarr22 : arrT Try.prog 22 = some (8, 1) := by kernel_rfl
theorem Tarre135 : arrE Try.prog 135 = some 2 := by kernel_rfl
theorem Tbld106 : bldP Try.prog 106 = some (ints .i64 z8, [(0, 1), (1, 1), (2, 1), (3, 1), (4, 1), (5, 1), (6, 1), (7, 1)]) := by kernel_rfl
theorem Tbld120 : bldP Try.prog 120 = some ([.int .i64 0, .int .i64 0, .int .i64 0, .int .i64 0], [(0, 1), (1, 1), (2, 1), (3, 1)]) := by kernel_rfl
theorem Tbld129 : bldP Try.prog 129 = some (ints .i64 (List.replicate 64 0), [(0, 8), (8, 8), (16, 8), (24, 8), (32, 8), (40, 8), (48, 8), (56, 8)]) := by kernel_rfl
theorem Tbld131 : bldP Try.prog 131 = some (bools (List.replicate 8 false), [(0, 1), (1, 1), (2, 1), (3, 1), (4, 1), (5, 1), (6, 1), (7, 1)]) := by kernel_rfl
theorem Tbld147 : bldP Try.prog 147 = some ([.slice none 0 0] ++ [.int .i64 0] ++ [.int .u64 0], [(0, 1), (1, 1), (2, 1)]) := by kernel_rfl
theorem Tbld152 : bldP Try.prog 152 = some ([.int .i64 0, .int .i64 0, .int .i64 0], [(0, 1), (1, 1), (2, 1)]) := by kernel_rfl
theorem Tbld156 : bldP Try.prog 156 = some (ints .i64 z8, [(0, 1), (1, 1), (2, 1), (3, 1), (4, 1), (5, 1), (6, 1), (7, 1)]) := by kernel_rfl
theorem Tbld22 : bldP Try.prog 22 = some (ints .u8 z8, [(0, 1), (1, 1), (2, 1), (3, 1), (4, 1), (5, 1), (6, 1), (7, 1)]) := by kernel_rfl
theorem Tbld27 : bldP Try.prog 27 = some ([.int .i64 0] ++ [.slice none 0 0], [(0, 1), (1, 1)]) := by kernel_rfl
theorem Tbld30 : bldP Try.prog 30 = some (gc 0 z8 z8, [(0, 1), (1, 8), (9, 8)]) := by kernel_rfl
theorem Tbld47 : bldP Try.prog 47 = some ([.int .i64 0, .int .i64 0, .int .i64 0, .int .i64 0, .int .i64 0, .int .i64 0], [(0, 1), (1, 1), (2, 1), (3, 1), (4, 1), (5, 1)]) := by kernel_rfl
theorem Tbool4 : boolT Try.prog 4 = true := by kernel_rfl
theorem Tby104 : bytesT Try.prog 104 = 24 := by kernel_rfl
theorem Tby135 : bytesT Try.prog 135 = 1032 := by kernel_rfl
theorem Tby152 : bytesT Try.prog 152 = 24 := by kernel_rfl
theorem Tby2 : bytesT Try.prog 2 = 8 := by kernel_rfl
theorem Tby25 : bytesT Try.prog 25 = 24 := by kernel_rfl
theorem Tby3 : bytesT Try.prog 3 = 8 := by kernel_rfl
theorem Tby47 : bytesT Try.prog 47 = 48 := by kernel_rfl
theorem Teqt30 : eqT Try.prog 30 = some 17 := by kernel_rfl
theorem Teqt47 : eqT Try.prog 47 = some 6 := by kernel_rfl
theorem Tfld120_0 : fldO Try.prog 120 0 = some (0, 3) := by kernel_rfl
theorem Tfld120_1 : fldO Try.prog 120 1 = some (1, 3) := by kernel_rfl
theorem Tfld120_2 : fldO Try.prog 120 2 = some (2, 3) := by kernel_rfl
theorem Tfld120_3 : fldO Try.prog 120 3 = some (3, 3) := by kernel_rfl
theorem Tfld147_0 : fldO Try.prog 147 0 = some (0, 50) := by kernel_rfl
theorem Tfld147_1 : fldO Try.prog 147 1 = some (1, 3) := by kernel_rfl
theorem Tfld147_2 : fldO Try.prog 147 2 = some (2, 145) := by kernel_rfl
theorem Tfld152_0 : fldO Try.prog 152 0 = some (0, 2) := by kernel_rfl
theorem Tfld152_1 : fldO Try.prog 152 1 = some (1, 2) := by kernel_rfl
theorem Tfld24_0 : fldO Try.prog 24 0 = some (0, 2) := by kernel_rfl
theorem Tfld24_1 : fldO Try.prog 24 1 = some (1, 22) := by kernel_rfl
theorem Tfld24_2 : fldO Try.prog 24 2 = some (9, 22) := by kernel_rfl
theorem Tfld27_0 : fldO Try.prog 27 0 = some (0, 2) := by kernel_rfl
theorem Tfld27_1 : fldO Try.prog 27 1 = some (1, 25) := by kernel_rfl
theorem Tfld30_0 : fldO Try.prog 30 0 = some (0, 2) := by kernel_rfl
theorem Tfld30_1 : fldO Try.prog 30 1 = some (1, 22) := by kernel_rfl
theorem Tfld30_2 : fldO Try.prog 30 2 = some (9, 22) := by kernel_rfl
theorem Tfld35_0 : fldO Try.prog 35 0 = some (0, 2) := by kernel_rfl
theorem Tfld35_1 : fldO Try.prog 35 1 = some (1, 25) := by kernel_rfl
theorem Tfld44_0 : fldO Try.prog 44 0 = some (0, 2) := by kernel_rfl
theorem Tfld44_1 : fldO Try.prog 44 1 = some (1, 2) := by kernel_rfl
theorem Tfld44_2 : fldO Try.prog 44 2 = some (2, 2) := by kernel_rfl
theorem Tfld44_3 : fldO Try.prog 44 3 = some (3, 2) := by kernel_rfl
theorem Tfld44_4 : fldO Try.prog 44 4 = some (4, 2) := by kernel_rfl
theorem Tfld44_5 : fldO Try.prog 44 5 = some (5, 2) := by kernel_rfl
theorem Tfld47_0 : fldO Try.prog 47 0 = some (0, 2) := by kernel_rfl
theorem Tfld47_1 : fldO Try.prog 47 1 = some (1, 2) := by kernel_rfl
theorem Tfld47_2 : fldO Try.prog 47 2 = some (2, 2) := by kernel_rfl
theorem Tfld47_3 : fldO Try.prog 47 3 = some (3, 2) := by kernel_rfl
theorem Tfld47_4 : fldO Try.prog 47 4 = some (4, 2) := by kernel_rfl
theorem Tfld47_5 : fldO Try.prog 47 5 = some (5, 2) := by kernel_rfl
theorem Thas2 : hasT Try.prog 2 = true := by kernel_rfl
theorem Thas25 : hasT Try.prog 25 = true := by kernel_rfl
theorem Tint145 : intT Try.prog 145 = some .u64 := by kernel_rfl
theorem Tint2 : intT Try.prog 2 = some .i64 := by kernel_rfl
theorem Tint3 : intT Try.prog 3 = some .i64 := by kernel_rfl
theorem Tint5 : intT Try.prog 5 = some .u8 := by kernel_rfl
theorem Tld104 : ldT Try.prog 104 = some none := by kernel_rfl
theorem Tld106 : ldT Try.prog 106 = some (some 8) := by kernel_rfl
theorem Tld120 : ldT Try.prog 120 = some (some 4) := by kernel_rfl
theorem Tld129 : ldT Try.prog 129 = some (some 64) := by kernel_rfl
theorem Tld131 : ldT Try.prog 131 = some (some 8) := by kernel_rfl
theorem Tld135 : ldT Try.prog 135 = some (some 129) := by kernel_rfl
theorem Tld145 : ldT Try.prog 145 = some none := by kernel_rfl
theorem Tld152 : ldT Try.prog 152 = some (some 3) := by kernel_rfl
theorem Tld156 : ldT Try.prog 156 = some (some 8) := by kernel_rfl
theorem Tld2 : ldT Try.prog 2 = some none := by kernel_rfl
theorem Tld22 : ldT Try.prog 22 = some (some 8) := by kernel_rfl
theorem Tld24 : ldT Try.prog 24 = some (some 17) := by kernel_rfl
theorem Tld25 : ldT Try.prog 25 = some none := by kernel_rfl
theorem Tld27 : ldT Try.prog 27 = some (some 2) := by kernel_rfl
theorem Tld3 : ldT Try.prog 3 = some none := by kernel_rfl
theorem Tld30 : ldT Try.prog 30 = some (some 17) := by kernel_rfl
theorem Tld35 : ldT Try.prog 35 = some (some 2) := by kernel_rfl
theorem Tld4 : ldT Try.prog 4 = some none := by kernel_rfl
theorem Tld44 : ldT Try.prog 44 = some (some 6) := by kernel_rfl
theorem Tld47 : ldT Try.prog 47 = some (some 6) := by kernel_rfl
theorem Tld5 : ldT Try.prog 5 = some none := by kernel_rfl
theorem Tld50 : ldT Try.prog 50 = some none := by kernel_rfl
theorem Tld68 : ldT Try.prog 68 = some none := by kernel_rfl
theorem Tpar145 : parT Try.prog 145 = true := by kernel_rfl
theorem Tpar2 : parT Try.prog 2 = true := by kernel_rfl
theorem Tpar25 : parT Try.prog 25 = true := by kernel_rfl
theorem Tpar3 : parT Try.prog 3 = true := by kernel_rfl
theorem Tpar5 : parT Try.prog 5 = true := by kernel_rfl
theorem Tslc104 : slcT Try.prog 104 = some 1 := by kernel_rfl
theorem Tslc109 : slcT Try.prog 109 = some 3 := by kernel_rfl
theorem Tslc133 : slcT Try.prog 133 = some 129 := by kernel_rfl
theorem Tslc158 : slcT Try.prog 158 = some 1 := by kernel_rfl
theorem Tslc25 : slcT Try.prog 25 = some 1 := by kernel_rfl
theorem Tslc50 : slcT Try.prog 50 = some 1 := by kernel_rfl
theorem Tslc53 : slcT Try.prog 53 = some 1 := by kernel_rfl
theorem Tslc68 : slcT Try.prog 68 = some 6 := by kernel_rfl
theorem Tslce104 : slcE Try.prog 104 = some 3 := by kernel_rfl
theorem Tslce109 : slcE Try.prog 109 = some 152 := by kernel_rfl
theorem Tslce133 : slcE Try.prog 133 = some 135 := by kernel_rfl
theorem Tslce158 : slcE Try.prog 158 = some 104 := by kernel_rfl
theorem Tslce25 : slcE Try.prog 25 = some 2 := by kernel_rfl
theorem Tslce50 : slcE Try.prog 50 = some 5 := by kernel_rfl
theorem Tslce53 : slcE Try.prog 53 = some 25 := by kernel_rfl
theorem Tslce68 : slcE Try.prog 68 = some 47 := by kernel_rfl
theorem Tst106 : stT Try.prog 106 = some 8 := by kernel_rfl
theorem Tst120 : stT Try.prog 120 = some 4 := by kernel_rfl
theorem Tst129 : stT Try.prog 129 = some 64 := by kernel_rfl
theorem Tst131 : stT Try.prog 131 = some 8 := by kernel_rfl
theorem Tst135 : stT Try.prog 135 = some 129 := by kernel_rfl
theorem Tst145 : stT Try.prog 145 = some 1 := by kernel_rfl
theorem Tst152 : stT Try.prog 152 = some 3 := by kernel_rfl
theorem Tst156 : stT Try.prog 156 = some 8 := by kernel_rfl
theorem Tst2 : stT Try.prog 2 = some 1 := by kernel_rfl
theorem Tst22 : stT Try.prog 22 = some 8 := by kernel_rfl
theorem Tst25 : stT Try.prog 25 = some 1 := by kernel_rfl
theorem Tst27 : stT Try.prog 27 = some 2 := by kernel_rfl
theorem Tst3 : stT Try.prog 3 = some 1 := by kernel_rfl
theorem Tst30 : stT Try.prog 30 = some 17 := by kernel_rfl
theorem Tst4 : stT Try.prog 4 = some 1 := by kernel_rfl
theorem Tst47 : stT Try.prog 47 = some 6 := by kernel_rfl
theorem Tst5 : stT Try.prog 5 = some 1 := by kernel_rfl
theorem Tst68 : stT Try.prog 68 = some 1 := by kernel_rfl
theorem Tsz2 : szT Try.prog 2 = 1 := by kernel_rfl
theorem Tsz25 : szT Try.prog 25 = 1 := by kernel_rfl
theorem Tzero104 : zeroT Try.prog 104 = some ([.slice none 0 0]) := by kernel_rfl
theorem Tzero106 : zeroT Try.prog 106 = some (ints .i64 z8) := by kernel_rfl
theorem Tzero120 : zeroT Try.prog 120 = some ([.int .i64 0, .int .i64 0, .int .i64 0, .int .i64 0]) := by kernel_rfl
theorem Tzero129 : zeroT Try.prog 129 = some (ints .i64 (List.replicate 64 0)) := by kernel_rfl
theorem Tzero131 : zeroT Try.prog 131 = some (bools (List.replicate 8 false)) := by kernel_rfl
theorem Tzero135 : zeroT Try.prog 135 = some (ints .i64 (List.replicate 129 0)) := by kernel_rfl
theorem Tzero152 : zeroT Try.prog 152 = some ([.int .i64 0, .int .i64 0, .int .i64 0]) := by kernel_rfl
theorem Tzero156 : zeroT Try.prog 156 = some (ints .i64 z8) := by kernel_rfl
theorem Tzero2 : zeroT Try.prog 2 = some ([.int .i64 0]) := by kernel_rfl
theorem Tzero22 : zeroT Try.prog 22 = some (ints .u8 z8) := by kernel_rfl
theorem Tzero25 : zeroT Try.prog 25 = some ([.slice none 0 0]) := by kernel_rfl
theorem Tzero27 : zeroT Try.prog 27 = some ([.int .i64 0] ++ [.slice none 0 0]) := by kernel_rfl
theorem Tzero3 : zeroT Try.prog 3 = some ([.int .i64 0]) := by kernel_rfl
theorem Tzero30 : zeroT Try.prog 30 = some (gc 0 z8 z8) := by kernel_rfl
theorem Tzero47 : zeroT Try.prog 47 = some ([.int .i64 0, .int .i64 0, .int .i64 0, .int .i64 0, .int .i64 0, .int .i64 0]) := by kernel_rfl
theorem Tzero68 : zeroT Try.prog 68 = some ([.slice none 0 0]) := by kernel_rfl
theorem fol : Try.prog.follows .mixedOrders = true := by kernel_rfl
end Go.Proofs
