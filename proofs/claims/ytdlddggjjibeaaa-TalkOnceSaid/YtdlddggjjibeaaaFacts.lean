/- Closed facts on the program's types and functions. -/
import Derived.Test.YtdlddggjjibeaaaProg
import Derived.Test.YtdlddggjjibeaaaDraw
namespace Go.Proofs.Ytdlddggjjibeaaa
theorem Try.at3 : atomT Try.prog 3 = true := by kernel_rfl
theorem Try.at4 : atomT Try.prog 4 = true := by kernel_rfl
theorem Try.at5 : atomT Try.prog 5 = true := by kernel_rfl
theorem Try.at24 : atomT Try.prog 24 = true := by kernel_rfl
theorem Try.at26 : atomT Try.prog 26 = true := by kernel_rfl
theorem Try.at28 : atomT Try.prog 28 = true := by kernel_rfl
theorem Try.at30 : atomT Try.prog 30 = true := by kernel_rfl
theorem Try.at32 : atomT Try.prog 32 = true := by kernel_rfl
theorem Try.at63 : atomT Try.prog 63 = true := by kernel_rfl
theorem Try.at70 : atomT Try.prog 70 = true := by kernel_rfl
theorem Try.ag27 : aggT Try.prog 27 = some 2 := by kernel_rfl
theorem Try.ag31 : aggT Try.prog 31 = some 2 := by kernel_rfl
theorem Try.ag34 : aggT Try.prog 34 = some 7 := by kernel_rfl
theorem Try.ag40 : aggT Try.prog 40 = some 4 := by kernel_rfl
theorem Try.ag54 : aggT Try.prog 54 = some 9 := by kernel_rfl
theorem Try.ag76 : aggT Try.prog 76 = some 3 := by kernel_rfl
theorem Try.z27 : zeroT Try.prog 27 = some [.pointer none, .pointer none] := by kernel_rfl
theorem Try.z29 : zeroT Try.prog 29 = some [.slice none 0 0, .slice none 0 0] := by kernel_rfl
theorem Try.z31 : zeroT Try.prog 31 = some [.slice none 0 0, .slice none 0 0] := by kernel_rfl
theorem Try.z34 : zeroT Try.prog 34 = some [.int .u8 0, .int .u32 0, .int .u32 0, .int .u32 0, .int .u32 0, .bool false, .slice none 0 0] := by kernel_rfl
theorem Try.z40 : zeroT Try.prog 40 = some [.int .u8 0, .bool false, .int .u8 0, .slice none 0 0] := by kernel_rfl
theorem Try.z54 : zeroT Try.prog 54 = some [.int .u8 0, .slice none 0 0, .int .u8 0, .int .u32 0, .int .u32 0, .int .u32 0, .int .u32 0, .bool false, .slice none 0 0] := by kernel_rfl
theorem Try.z65 : zeroT Try.prog 65 = some [.int .u8 0, .int .u32 0, .int .u32 0, .slice none 0 0, .slice none 0 0, .int .i64 0, .int .i64 0, .int .u32 0] := by kernel_rfl
theorem Try.z72 : zeroT Try.prog 72 = some [.int .u8 0, .int .u32 0, .int .u32 0, .int .u32 0, .int .u32 0, .bool false, .slice none 0 0, .int .u32 0, .slice none 0 0, .int .u32 0] := by kernel_rfl
theorem Try.z76 : zeroT Try.prog 76 = some [.int .u32 0, .slice none 0 0, .int .i64 0] := by kernel_rfl
theorem Try.p34 : partsT Try.prog 34 = some [(0, 1), (1, 1), (2, 1), (3, 1), (4, 1), (5, 1), (6, 1)] := by kernel_rfl
theorem Try.p65 : partsT Try.prog 65 = some [(0, 1), (1, 1), (2, 1), (3, 1), (4, 1), (5, 1), (6, 1), (7, 1)] := by kernel_rfl
theorem Try.p72 : partsT Try.prog 72 = some [(0, 7), (7, 1), (8, 1), (9, 1)] := by kernel_rfl
theorem Try.p76 : partsT Try.prog 76 = some [(0, 1), (1, 1), (2, 1)] := by kernel_rfl
theorem Try.fo34_0 : fieldT Try.prog 34 0 = some 0 := by kernel_rfl
theorem Try.fo34_1 : fieldT Try.prog 34 1 = some 1 := by kernel_rfl
theorem Try.fo34_2 : fieldT Try.prog 34 2 = some 2 := by kernel_rfl
theorem Try.fo34_3 : fieldT Try.prog 34 3 = some 3 := by kernel_rfl
theorem Try.fo34_4 : fieldT Try.prog 34 4 = some 4 := by kernel_rfl
theorem Try.fo34_5 : fieldT Try.prog 34 5 = some 5 := by kernel_rfl
theorem Try.fo34_6 : fieldT Try.prog 34 6 = some 6 := by kernel_rfl
theorem Try.fo40_0 : fieldT Try.prog 40 0 = some 0 := by kernel_rfl
theorem Try.fo40_1 : fieldT Try.prog 40 1 = some 1 := by kernel_rfl
theorem Try.fo40_2 : fieldT Try.prog 40 2 = some 2 := by kernel_rfl
theorem Try.fo40_3 : fieldT Try.prog 40 3 = some 3 := by kernel_rfl
theorem Try.fo54_0 : fieldT Try.prog 54 0 = some 0 := by kernel_rfl
theorem Try.fo54_1 : fieldT Try.prog 54 1 = some 1 := by kernel_rfl
theorem Try.fo54_2 : fieldT Try.prog 54 2 = some 2 := by kernel_rfl
theorem Try.fo65_0 : fieldT Try.prog 65 0 = some 0 := by kernel_rfl
theorem Try.fo65_1 : fieldT Try.prog 65 1 = some 1 := by kernel_rfl
theorem Try.fo65_2 : fieldT Try.prog 65 2 = some 2 := by kernel_rfl
theorem Try.fo65_3 : fieldT Try.prog 65 3 = some 3 := by kernel_rfl
theorem Try.fo65_4 : fieldT Try.prog 65 4 = some 4 := by kernel_rfl
theorem Try.fo65_5 : fieldT Try.prog 65 5 = some 5 := by kernel_rfl
theorem Try.fo65_6 : fieldT Try.prog 65 6 = some 6 := by kernel_rfl
theorem Try.fo65_7 : fieldT Try.prog 65 7 = some 7 := by kernel_rfl
theorem Try.fo72_0 : fieldT Try.prog 72 0 = some 0 := by kernel_rfl
theorem Try.fo72_1 : fieldT Try.prog 72 1 = some 7 := by kernel_rfl
theorem Try.fo72_2 : fieldT Try.prog 72 2 = some 8 := by kernel_rfl
theorem Try.fo72_3 : fieldT Try.prog 72 3 = some 9 := by kernel_rfl
theorem Try.fo76_0 : fieldT Try.prog 76 0 = some 0 := by kernel_rfl
theorem Try.fo76_1 : fieldT Try.prog 76 1 = some 1 := by kernel_rfl
theorem Try.fo76_2 : fieldT Try.prog 76 2 = some 2 := by kernel_rfl
theorem Try.el22 : elemT Try.prog 22 = some (40, 4) := by kernel_rfl
theorem Try.inf40 : infoT Try.prog 40 = some ([.int .u8 0, .bool false, .int .u8 0, .slice none 0 0], 4, 32) := by kernel_rfl
theorem Try.el28 : elemT Try.prog 28 = some (32, 1) := by kernel_rfl
theorem Try.inf32 : infoT Try.prog 32 = some ([.slice none 0 0], 1, 24) := by kernel_rfl
theorem Try.el30 : elemT Try.prog 30 = some (34, 7) := by kernel_rfl
theorem Try.inf34 : infoT Try.prog 34 = some ([.int .u8 0, .int .u32 0, .int .u32 0, .int .u32 0, .int .u32 0, .bool false, .slice none 0 0], 7, 48) := by kernel_rfl
theorem Try.el32 : elemT Try.prog 32 = some (5, 1) := by kernel_rfl
theorem Try.inf5 : infoT Try.prog 5 = some ([.int .u8 0], 1, 1) := by kernel_rfl
theorem Try.el50 : elemT Try.prog 50 = some (54, 9) := by kernel_rfl
theorem Try.inf54 : infoT Try.prog 54 = some ([.int .u8 0, .slice none 0 0, .int .u8 0, .int .u32 0, .int .u32 0, .int .u32 0, .int .u32 0, .bool false, .slice none 0 0], 9, 80) := by kernel_rfl
theorem Try.el63 : elemT Try.prog 63 = some (3, 1) := by kernel_rfl
theorem Try.inf3 : infoT Try.prog 3 = some ([.int .i64 0], 1, 8) := by kernel_rfl
theorem Try.el70 : elemT Try.prog 70 = some (76, 3) := by kernel_rfl
theorem Try.inf76 : infoT Try.prog 76 = some ([.int .u32 0, .slice none 0 0, .int .i64 0], 3, 40) := by kernel_rfl
theorem Try.ar27 : arrT Try.prog 27 = some (2, 1) := by kernel_rfl
theorem Try.ar29 : arrT Try.prog 29 = some (2, 1) := by kernel_rfl
theorem Try.ar31 : arrT Try.prog 31 = some (2, 1) := by kernel_rfl
theorem Try.it3 : intT Try.prog 3 = some .i64 := by kernel_rfl
theorem Try.it5 : intT Try.prog 5 = some .u8 := by kernel_rfl
theorem Try.it26 : intT Try.prog 26 = some .u32 := by kernel_rfl
theorem Try.it79 : intT Try.prog 79 = some .u64 := by kernel_rfl
theorem Try.en9 : enterT Try.prog 9 = true := by kernel_rfl
theorem Try.en10 : enterT Try.prog 10 = true := by kernel_rfl
theorem Try.en11 : enterT Try.prog 11 = true := by kernel_rfl
theorem Try.en12 : enterT Try.prog 12 = true := by kernel_rfl
theorem Try.en13 : enterT Try.prog 13 = true := by kernel_rfl
theorem Try.en14 : enterT Try.prog 14 = true := by kernel_rfl
theorem Try.en15 : enterT Try.prog 15 = true := by kernel_rfl
theorem Try.en16 : enterT Try.prog 16 = true := by kernel_rfl
theorem Try.en17 : enterT Try.prog 17 = true := by kernel_rfl
theorem Try.en18 : enterT Try.prog 18 = true := by kernel_rfl
theorem Try.en19 : enterT Try.prog 19 = true := by kernel_rfl
theorem Try.en20 : enterT Try.prog 20 = true := by kernel_rfl
theorem Try.en21 : enterT Try.prog 21 = true := by kernel_rfl
theorem Try.en22 : enterT Try.prog 22 = true := by kernel_rfl
theorem Try.en23 : enterT Try.prog 23 = true := by kernel_rfl
theorem Try.en24 : enterT Try.prog 24 = true := by kernel_rfl
theorem Try.en25 : enterT Try.prog 25 = true := by kernel_rfl
theorem Try.en26 : enterT Try.prog 26 = true := by kernel_rfl
theorem Try.en27 : enterT Try.prog 27 = true := by kernel_rfl
theorem Try.en28 : enterT Try.prog 28 = true := by kernel_rfl
theorem Try.en29 : enterT Try.prog 29 = true := by kernel_rfl
theorem Try.en30 : enterT Try.prog 30 = true := by kernel_rfl
theorem Try.mixed : Try.prog.follows .mixedOrders = true := by kernel_rfl
end Go.Proofs.Ytdlddggjjibeaaa
