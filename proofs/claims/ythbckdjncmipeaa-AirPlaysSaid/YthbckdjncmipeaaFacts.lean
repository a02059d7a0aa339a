/- Closed facts on the program's types and functions. -/
import Derived.Test.YthbckdjncmipeaaProg
import Derived.Test.YthbckdjncmipeaaDraw
namespace Go.Proofs.Ythbckdjncmipeaa
theorem Try.at3 : atomT Try.prog 3 = true := by kernel_rfl
theorem Try.at5 : atomT Try.prog 5 = true := by kernel_rfl
theorem Try.at29 : atomT Try.prog 29 = true := by kernel_rfl
theorem Try.at30 : atomT Try.prog 30 = true := by kernel_rfl
theorem Try.at60 : atomT Try.prog 60 = true := by kernel_rfl
theorem Try.at65 : atomT Try.prog 65 = true := by kernel_rfl
theorem Try.ag34 : aggT Try.prog 34 = some 2 := by kernel_rfl
theorem Try.ag51 : aggT Try.prog 51 = some 4 := by kernel_rfl
theorem Try.ag59 : aggT Try.prog 59 = some 3 := by kernel_rfl
theorem Try.ag70 : aggT Try.prog 70 = some 3 := by kernel_rfl
theorem Try.z34 : zeroT Try.prog 34 = some [.int .i64 0, .slice none 0 0] := by kernel_rfl
theorem Try.z51 : zeroT Try.prog 51 = some [.int .u8 0, .int .u64 0, .int .i64 0, .slice none 0 0] := by kernel_rfl
theorem Try.z59 : zeroT Try.prog 59 = some [.int .u64 0, .int .i64 0, .slice none 0 0] := by kernel_rfl
theorem Try.z62 : zeroT Try.prog 62 = some [.int .i64 0, .int .u64 0, .slice none 0 0] := by kernel_rfl
theorem Try.z67 : zeroT Try.prog 67 = some [.int .i64 0, .int .u64 0, .slice none 0 0] := by kernel_rfl
theorem Try.z70 : zeroT Try.prog 70 = some [.int .u64 0, .int .i64 0, .slice none 0 0] := by kernel_rfl
theorem Try.p34 : partsT Try.prog 34 = some [(0, 1), (1, 1)] := by kernel_rfl
theorem Try.p59 : partsT Try.prog 59 = some [(0, 1), (1, 2)] := by kernel_rfl
theorem Try.p62 : partsT Try.prog 62 = some [(0, 1), (1, 1), (2, 1)] := by kernel_rfl
theorem Try.p67 : partsT Try.prog 67 = some [(0, 1), (1, 1), (2, 1)] := by kernel_rfl
theorem Try.p70 : partsT Try.prog 70 = some [(0, 1), (1, 2)] := by kernel_rfl
theorem Try.fo34_0 : fieldT Try.prog 34 0 = some 0 := by kernel_rfl
theorem Try.fo34_1 : fieldT Try.prog 34 1 = some 1 := by kernel_rfl
theorem Try.fo51_0 : fieldT Try.prog 51 0 = some 0 := by kernel_rfl
theorem Try.fo51_1 : fieldT Try.prog 51 1 = some 1 := by kernel_rfl
theorem Try.fo51_2 : fieldT Try.prog 51 2 = some 2 := by kernel_rfl
theorem Try.fo59_0 : fieldT Try.prog 59 0 = some 0 := by kernel_rfl
theorem Try.fo59_1 : fieldT Try.prog 59 1 = some 1 := by kernel_rfl
theorem Try.fo62_0 : fieldT Try.prog 62 0 = some 0 := by kernel_rfl
theorem Try.fo62_1 : fieldT Try.prog 62 1 = some 1 := by kernel_rfl
theorem Try.fo62_2 : fieldT Try.prog 62 2 = some 2 := by kernel_rfl
theorem Try.fo67_0 : fieldT Try.prog 67 0 = some 0 := by kernel_rfl
theorem Try.fo67_1 : fieldT Try.prog 67 1 = some 1 := by kernel_rfl
theorem Try.fo67_2 : fieldT Try.prog 67 2 = some 2 := by kernel_rfl
theorem Try.fo70_0 : fieldT Try.prog 70 0 = some 0 := by kernel_rfl
theorem Try.fo70_1 : fieldT Try.prog 70 1 = some 1 := by kernel_rfl
theorem Try.el22 : elemT Try.prog 22 = some (29, 1) := by kernel_rfl
theorem Try.inf29 : infoT Try.prog 29 = some ([.slice none 0 0], 1, 24) := by kernel_rfl
theorem Try.el28 : elemT Try.prog 28 = some (30, 1) := by kernel_rfl
theorem Try.inf30 : infoT Try.prog 30 = some ([.int .u64 0], 1, 8) := by kernel_rfl
theorem Try.el29 : elemT Try.prog 29 = some (5, 1) := by kernel_rfl
theorem Try.inf5 : infoT Try.prog 5 = some ([.int .u8 0], 1, 1) := by kernel_rfl
theorem Try.el46 : elemT Try.prog 46 = some (51, 4) := by kernel_rfl
theorem Try.inf51 : infoT Try.prog 51 = some ([.int .u8 0, .int .u64 0, .int .i64 0, .slice none 0 0], 4, 48) := by kernel_rfl
theorem Try.el60 : elemT Try.prog 60 = some (59, 3) := by kernel_rfl
theorem Try.inf59 : infoT Try.prog 59 = some ([.int .u64 0, .int .i64 0, .slice none 0 0], 3, 40) := by kernel_rfl
theorem Try.el65 : elemT Try.prog 65 = some (70, 3) := by kernel_rfl
theorem Try.inf70 : infoT Try.prog 70 = some ([.int .u64 0, .int .i64 0, .slice none 0 0], 3, 40) := by kernel_rfl
theorem Try.it3 : intT Try.prog 3 = some .i64 := by kernel_rfl
theorem Try.it5 : intT Try.prog 5 = some .u8 := by kernel_rfl
theorem Try.it30 : intT Try.prog 30 = some .u64 := by kernel_rfl
theorem Try.it77 : intT Try.prog 77 = some .u64 := by kernel_rfl
theorem Try.en7 : enterT Try.prog 7 = true := by kernel_rfl
theorem Try.en8 : enterT Try.prog 8 = true := by kernel_rfl
theorem Try.en9 : enterT Try.prog 9 = true := by kernel_rfl
theorem Try.en10 : enterT Try.prog 10 = true := by kernel_rfl
theorem Try.en11 : enterT Try.prog 11 = true := by kernel_rfl
theorem Try.en12 : enterT Try.prog 12 = true := by kernel_rfl
theorem Try.en13 : enterT Try.prog 13 = true := by kernel_rfl
theorem Try.en14 : enterT Try.prog 14 = true := by kernel_rfl
theorem Try.en15 : enterT Try.prog 15 = true := by kernel_rfl
theorem Try.en16 : enterT Try.prog 16 = true := by kernel_rfl
theorem Try.en17 : enterT Try.prog 17 = true := by kernel_rfl
theorem Try.en18 : enterT Try.prog 18 = true := by kernel_rfl
theorem Try.en19 : enterT Try.prog 19 = true := by kernel_rfl
theorem Try.en20 : enterT Try.prog 20 = true := by kernel_rfl
theorem Try.en21 : enterT Try.prog 21 = true := by kernel_rfl
theorem Try.en22 : enterT Try.prog 22 = true := by kernel_rfl
theorem Try.en23 : enterT Try.prog 23 = true := by kernel_rfl
theorem Try.en24 : enterT Try.prog 24 = true := by kernel_rfl
theorem Try.en25 : enterT Try.prog 25 = true := by kernel_rfl
theorem Try.en26 : enterT Try.prog 26 = true := by kernel_rfl
theorem Try.en27 : enterT Try.prog 27 = true := by kernel_rfl
theorem Try.en28 : enterT Try.prog 28 = true := by kernel_rfl
theorem Try.en29 : enterT Try.prog 29 = true := by kernel_rfl
theorem Try.mixed : Try.prog.follows .mixedOrders = true := by kernel_rfl
end Go.Proofs.Ythbckdjncmipeaa
