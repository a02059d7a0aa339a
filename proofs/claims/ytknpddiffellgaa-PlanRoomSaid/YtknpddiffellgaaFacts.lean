/- Closed facts on the program's types and functions. -/
import Derived.Test.YtknpddiffellgaaProg
import Derived.Test.YtknpddiffellgaaDraw
namespace Go.Proofs.Ytknpddiffellgaa
theorem Try.at3 : atomT Try.prog 3 = true := by kernel_rfl
theorem Try.at4 : atomT Try.prog 4 = true := by kernel_rfl
theorem Try.at25 : atomT Try.prog 25 = true := by kernel_rfl
theorem Try.at93 : atomT Try.prog 93 = true := by kernel_rfl
theorem Try.ag24 : aggT Try.prog 24 = some 2 := by kernel_rfl
theorem Try.ag27 : aggT Try.prog 27 = some 4 := by kernel_rfl
theorem Try.ag32 : aggT Try.prog 32 = some 4 := by kernel_rfl
theorem Try.ag34 : aggT Try.prog 34 = some 2 := by kernel_rfl
theorem Try.ag60 : aggT Try.prog 60 = some 2 := by kernel_rfl
theorem Try.z3 : zeroT Try.prog 3 = some [.int .i64 0] := by kernel_rfl
theorem Try.z24 : zeroT Try.prog 24 = some [.int .i64 0, .int .i64 0] := by kernel_rfl
theorem Try.z27 : zeroT Try.prog 27 = some [.int .i64 0, .int .i64 0, .slice none 0 0, .bool false] := by kernel_rfl
theorem Try.z32 : zeroT Try.prog 32 = some [.int .i64 0, .int .i64 0, .slice none 0 0, .bool false] := by kernel_rfl
theorem Try.z34 : zeroT Try.prog 34 = some [.int .i64 0, .int .i64 0] := by kernel_rfl
theorem Try.z60 : zeroT Try.prog 60 = some [.int .i64 0, .int .i64 0] := by kernel_rfl
theorem Try.z93 : zeroT Try.prog 93 = some [.int .u64 0] := by kernel_rfl
theorem Try.p27 : partsT Try.prog 27 = some [(0, 1), (1, 1), (2, 1), (3, 1)] := by kernel_rfl
theorem Try.p32 : partsT Try.prog 32 = some [(0, 1), (1, 1), (2, 1), (3, 1)] := by kernel_rfl
theorem Try.p34 : partsT Try.prog 34 = some [(0, 1), (1, 1)] := by kernel_rfl
theorem Try.p60 : partsT Try.prog 60 = some [(0, 1), (1, 1)] := by kernel_rfl
theorem Try.fo24_0 : fieldT Try.prog 24 0 = some 0 := by kernel_rfl
theorem Try.fo24_1 : fieldT Try.prog 24 1 = some 1 := by kernel_rfl
theorem Try.fo27_0 : fieldT Try.prog 27 0 = some 0 := by kernel_rfl
theorem Try.fo27_1 : fieldT Try.prog 27 1 = some 1 := by kernel_rfl
theorem Try.fo27_2 : fieldT Try.prog 27 2 = some 2 := by kernel_rfl
theorem Try.fo27_3 : fieldT Try.prog 27 3 = some 3 := by kernel_rfl
theorem Try.fo32_0 : fieldT Try.prog 32 0 = some 0 := by kernel_rfl
theorem Try.fo32_1 : fieldT Try.prog 32 1 = some 1 := by kernel_rfl
theorem Try.fo32_2 : fieldT Try.prog 32 2 = some 2 := by kernel_rfl
theorem Try.fo32_3 : fieldT Try.prog 32 3 = some 3 := by kernel_rfl
theorem Try.fo34_0 : fieldT Try.prog 34 0 = some 0 := by kernel_rfl
theorem Try.fo34_1 : fieldT Try.prog 34 1 = some 1 := by kernel_rfl
theorem Try.fo60_0 : fieldT Try.prog 60 0 = some 0 := by kernel_rfl
theorem Try.fo60_1 : fieldT Try.prog 60 1 = some 1 := by kernel_rfl
theorem Try.el22 : elemT Try.prog 22 = some (25, 1) := by kernel_rfl
theorem Try.inf25 : infoT Try.prog 25 = some ([.slice none 0 0], 1, 24) := by kernel_rfl
theorem Try.el25 : elemT Try.prog 25 = some (3, 1) := by kernel_rfl
theorem Try.inf3 : infoT Try.prog 3 = some ([.int .i64 0], 1, 8) := by kernel_rfl
theorem Try.el29 : elemT Try.prog 29 = some (25, 1) := by kernel_rfl
theorem Try.el41 : elemT Try.prog 41 = some (24, 2) := by kernel_rfl
theorem Try.inf24 : infoT Try.prog 24 = some ([.int .i64 0, .int .i64 0], 2, 16) := by kernel_rfl
theorem Try.el42 : elemT Try.prog 42 = some (34, 2) := by kernel_rfl
theorem Try.inf34 : infoT Try.prog 34 = some ([.int .i64 0, .int .i64 0], 2, 16) := by kernel_rfl
theorem Try.el45 : elemT Try.prog 45 = some (32, 4) := by kernel_rfl
theorem Try.inf32 : infoT Try.prog 32 = some ([.int .i64 0, .int .i64 0, .slice none 0 0, .bool false], 4, 48) := by kernel_rfl
theorem Try.el47 : elemT Try.prog 47 = some (27, 4) := by kernel_rfl
theorem Try.inf27 : infoT Try.prog 27 = some ([.int .i64 0, .int .i64 0, .slice none 0 0, .bool false], 4, 48) := by kernel_rfl
theorem Try.el56 : elemT Try.prog 56 = some (60, 2) := by kernel_rfl
theorem Try.inf60 : infoT Try.prog 60 = some ([.int .i64 0, .int .i64 0], 2, 16) := by kernel_rfl
theorem Try.el64 : elemT Try.prog 64 = some (4, 1) := by kernel_rfl
theorem Try.inf4 : infoT Try.prog 4 = some ([.bool false], 1, 1) := by kernel_rfl
theorem Try.it3 : intT Try.prog 3 = some .i64 := by kernel_rfl
theorem Try.it5 : intT Try.prog 5 = some .u8 := by kernel_rfl
theorem Try.it72 : intT Try.prog 72 = some .u64 := by kernel_rfl
theorem Try.it85 : intT Try.prog 85 = some .u32 := by kernel_rfl
theorem Try.it93 : intT Try.prog 93 = some .u64 := by kernel_rfl
theorem Try.en11 : enterT Try.prog 11 = true := by kernel_rfl
theorem Try.en12 : enterT Try.prog 12 = true := by kernel_rfl
theorem Try.en13 : enterT Try.prog 13 = true := by kernel_rfl
theorem Try.en14 : enterT Try.prog 14 = true := by kernel_rfl
theorem Try.en15 : enterT Try.prog 15 = true := by kernel_rfl
theorem Try.en16 : enterT Try.prog 16 = true := by kernel_rfl
theorem Try.en17 : enterT Try.prog 17 = true := by kernel_rfl
theorem Try.en18 : enterT Try.prog 18 = true := by kernel_rfl
theorem Try.en19 : enterT Try.prog 19 = true := by kernel_rfl
theorem Try.en20 : enterT Try.prog 20 = true := by kernel_rfl
theorem Try.en21 : enterT Try.prog 21 = true := by kernel_rfl
theorem Try.en22 : enterT Try.prog 22 = true := by kernel_rfl
theorem Try.en23 : enterT Try.prog 23 = true := by kernel_rfl
theorem Try.en24 : enterT Try.prog 24 = true := by kernel_rfl
theorem Try.en25 : enterT Try.prog 25 = true := by kernel_rfl
theorem Try.en26 : enterT Try.prog 26 = true := by kernel_rfl
theorem Try.en27 : enterT Try.prog 27 = true := by kernel_rfl
theorem Try.en28 : enterT Try.prog 28 = true := by kernel_rfl
theorem Try.en29 : enterT Try.prog 29 = true := by kernel_rfl
theorem Try.en30 : enterT Try.prog 30 = true := by kernel_rfl
theorem Try.en31 : enterT Try.prog 31 = true := by kernel_rfl
theorem Try.en32 : enterT Try.prog 32 = true := by kernel_rfl
theorem Try.en33 : enterT Try.prog 33 = true := by kernel_rfl
theorem Try.en34 : enterT Try.prog 34 = true := by kernel_rfl
theorem Try.en35 : enterT Try.prog 35 = true := by kernel_rfl
theorem Try.en36 : enterT Try.prog 36 = true := by kernel_rfl
theorem Try.en37 : enterT Try.prog 37 = true := by kernel_rfl
theorem Try.en38 : enterT Try.prog 38 = true := by kernel_rfl
theorem Try.en39 : enterT Try.prog 39 = true := by kernel_rfl
theorem Try.en40 : enterT Try.prog 40 = true := by kernel_rfl
theorem Try.en41 : enterT Try.prog 41 = true := by kernel_rfl
theorem Try.en42 : enterT Try.prog 42 = true := by kernel_rfl
theorem Try.en43 : enterT Try.prog 43 = true := by kernel_rfl
theorem Try.en44 : enterT Try.prog 44 = true := by kernel_rfl
theorem Try.en45 : enterT Try.prog 45 = true := by kernel_rfl
theorem Try.en46 : enterT Try.prog 46 = true := by kernel_rfl
theorem Try.en47 : enterT Try.prog 47 = true := by kernel_rfl
theorem Try.en48 : enterT Try.prog 48 = true := by kernel_rfl
theorem Try.en49 : enterT Try.prog 49 = true := by kernel_rfl
theorem Try.en50 : enterT Try.prog 50 = true := by kernel_rfl
theorem Try.en51 : enterT Try.prog 51 = true := by kernel_rfl
theorem Try.en52 : enterT Try.prog 52 = true := by kernel_rfl
theorem Try.en53 : enterT Try.prog 53 = true := by kernel_rfl
theorem Try.en54 : enterT Try.prog 54 = true := by kernel_rfl
theorem Try.en55 : enterT Try.prog 55 = true := by kernel_rfl
theorem Try.en56 : enterT Try.prog 56 = true := by kernel_rfl
theorem Try.en57 : enterT Try.prog 57 = true := by kernel_rfl
theorem Try.en58 : enterT Try.prog 58 = true := by kernel_rfl
theorem Try.en59 : enterT Try.prog 59 = true := by kernel_rfl
theorem Try.en60 : enterT Try.prog 60 = true := by kernel_rfl
theorem Try.en61 : enterT Try.prog 61 = true := by kernel_rfl
theorem Try.en62 : enterT Try.prog 62 = true := by kernel_rfl
theorem Try.en63 : enterT Try.prog 63 = true := by kernel_rfl
theorem Try.en64 : enterT Try.prog 64 = true := by kernel_rfl
theorem Try.en65 : enterT Try.prog 65 = true := by kernel_rfl
theorem Try.en66 : enterT Try.prog 66 = true := by kernel_rfl
theorem Try.en67 : enterT Try.prog 67 = true := by kernel_rfl
theorem Try.en68 : enterT Try.prog 68 = true := by kernel_rfl
theorem Try.en69 : enterT Try.prog 69 = true := by kernel_rfl
theorem Try.en70 : enterT Try.prog 70 = true := by kernel_rfl
theorem Try.mixed : Try.prog.follows .mixedOrders = true := by kernel_rfl
end Go.Proofs.Ytknpddiffellgaa
