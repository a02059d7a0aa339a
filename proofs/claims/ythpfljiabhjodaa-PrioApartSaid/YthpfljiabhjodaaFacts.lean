/- Closed facts on the program's types and functions. -/
import Derived.Test.YthpfljiabhjodaaProg
import Derived.Test.YthpfljiabhjodaaDraw
namespace Go.Proofs.Ythpfljiabhjodaa
theorem Try.at3 : atomT Try.prog 3 = true := by kernel_rfl
theorem Try.at5 : atomT Try.prog 5 = true := by kernel_rfl
theorem Try.at22 : atomT Try.prog 22 = true := by kernel_rfl
theorem Try.at52 : atomT Try.prog 52 = true := by kernel_rfl
theorem Try.at56 : atomT Try.prog 56 = true := by kernel_rfl
theorem Try.at95 : atomT Try.prog 95 = true := by kernel_rfl
theorem Try.ag24 : aggT Try.prog 24 = some 3 := by kernel_rfl
theorem Try.ag25 : aggT Try.prog 25 = some 3 := by kernel_rfl
theorem Try.ag44 : aggT Try.prog 44 = some 4 := by kernel_rfl
theorem Try.z3 : zeroT Try.prog 3 = some [.int .i64 0] := by kernel_rfl
theorem Try.z24 : zeroT Try.prog 24 = some [.int .u32 0, .int .u8 0, .int .u32 0] := by kernel_rfl
theorem Try.z25 : zeroT Try.prog 25 = some [.int .u32 0, .int .u8 0, .int .u32 0] := by kernel_rfl
theorem Try.z44 : zeroT Try.prog 44 = some [.int .u8 0, .int .u32 0, .int .u8 0, .int .u32 0] := by kernel_rfl
theorem Try.z58 : zeroT Try.prog 58 = some [.slice none 0 0, .map none] := by kernel_rfl
theorem Try.z60 : zeroT Try.prog 60 = some [.slice none 0 0, .map none] := by kernel_rfl
theorem Try.z95 : zeroT Try.prog 95 = some [.int .u64 0] := by kernel_rfl
theorem Try.p25 : partsT Try.prog 25 = some [(0, 1), (1, 1), (2, 1)] := by kernel_rfl
theorem Try.p58 : partsT Try.prog 58 = some [(0, 1), (1, 1)] := by kernel_rfl
theorem Try.p60 : partsT Try.prog 60 = some [(0, 2)] := by kernel_rfl
theorem Try.fo24_0 : fieldT Try.prog 24 0 = some 0 := by kernel_rfl
theorem Try.fo24_1 : fieldT Try.prog 24 1 = some 1 := by kernel_rfl
theorem Try.fo24_2 : fieldT Try.prog 24 2 = some 2 := by kernel_rfl
theorem Try.fo25_0 : fieldT Try.prog 25 0 = some 0 := by kernel_rfl
theorem Try.fo25_1 : fieldT Try.prog 25 1 = some 1 := by kernel_rfl
theorem Try.fo25_2 : fieldT Try.prog 25 2 = some 2 := by kernel_rfl
theorem Try.fo44_0 : fieldT Try.prog 44 0 = some 0 := by kernel_rfl
theorem Try.fo44_1 : fieldT Try.prog 44 1 = some 1 := by kernel_rfl
theorem Try.fo58_0 : fieldT Try.prog 58 0 = some 0 := by kernel_rfl
theorem Try.fo58_1 : fieldT Try.prog 58 1 = some 1 := by kernel_rfl
theorem Try.fo60_0 : fieldT Try.prog 60 0 = some 0 := by kernel_rfl
theorem Try.el30 : elemT Try.prog 30 = some (24, 3) := by kernel_rfl
theorem Try.inf24 : infoT Try.prog 24 = some ([.int .u32 0, .int .u8 0, .int .u32 0], 3, 12) := by kernel_rfl
theorem Try.el42 : elemT Try.prog 42 = some (44, 4) := by kernel_rfl
theorem Try.inf44 : infoT Try.prog 44 = some ([.int .u8 0, .int .u32 0, .int .u8 0, .int .u32 0], 4, 16) := by kernel_rfl
theorem Try.el52 : elemT Try.prog 52 = some (25, 3) := by kernel_rfl
theorem Try.inf25 : infoT Try.prog 25 = some ([.int .u32 0, .int .u8 0, .int .u32 0], 3, 12) := by kernel_rfl
theorem Try.el82 : elemT Try.prog 82 = some (3, 1) := by kernel_rfl
theorem Try.inf3 : infoT Try.prog 3 = some ([.int .i64 0], 1, 8) := by kernel_rfl
theorem Try.it3 : intT Try.prog 3 = some .i64 := by kernel_rfl
theorem Try.it5 : intT Try.prog 5 = some .u8 := by kernel_rfl
theorem Try.it22 : intT Try.prog 22 = some .u32 := by kernel_rfl
theorem Try.it81 : intT Try.prog 81 = some .u64 := by kernel_rfl
theorem Try.it95 : intT Try.prog 95 = some .u64 := by kernel_rfl
theorem Try.zv3 : (Try.prog.info? 3).bind (·.zero) = some (.int .i64 0) := by kernel_rfl
theorem Try.zv4 : (Try.prog.info? 4).bind (·.zero) = some (.bool false) := by kernel_rfl
theorem Try.en8 : enterT Try.prog 8 = true := by kernel_rfl
theorem Try.en9 : enterT Try.prog 9 = true := by kernel_rfl
theorem Try.en10 : enterT Try.prog 10 = true := by kernel_rfl
theorem Try.en11 : enterT Try.prog 11 = true := by kernel_rfl
theorem Try.en12 : enterT Try.prog 12 = true := by kernel_rfl
theorem Try.en13 : enterT Try.prog 13 = true := by kernel_rfl
theorem Try.en14 : enterT Try.prog 14 = true := by kernel_rfl
theorem Try.en15 : enterT Try.prog 15 = true := by kernel_rfl
theorem Try.en16 : enterT Try.prog 16 = true := by kernel_rfl
theorem Try.en17 : enterT Try.prog 17 = true := by kernel_rfl
theorem Try.en18 : enterT Try.prog 18 = true := by kernel_rfl
theorem Try.en19 : enterT Try.prog 19 = true := by kernel_rfl
theorem Try.en20 : enterT Try.prog 20 = true := by kernel_rfl
theorem Try.en21 : enterT Try.prog 21 = true := by kernel_rfl
theorem Try.en22 : enterT Try.prog 22 = true := by kernel_rfl
theorem Try.en23 : enterT Try.prog 23 = true := by kernel_rfl
theorem Try.en24 : enterT Try.prog 24 = true := by kernel_rfl
theorem Try.en25 : enterT Try.prog 25 = true := by kernel_rfl
theorem Try.en26 : enterT Try.prog 26 = true := by kernel_rfl
theorem Try.en27 : enterT Try.prog 27 = true := by kernel_rfl
theorem Try.en28 : enterT Try.prog 28 = true := by kernel_rfl
theorem Try.en29 : enterT Try.prog 29 = true := by kernel_rfl
theorem Try.en30 : enterT Try.prog 30 = true := by kernel_rfl
theorem Try.en31 : enterT Try.prog 31 = true := by kernel_rfl
theorem Try.en32 : enterT Try.prog 32 = true := by kernel_rfl
theorem Try.en33 : enterT Try.prog 33 = true := by kernel_rfl
theorem Try.en34 : enterT Try.prog 34 = true := by kernel_rfl
theorem Try.en35 : enterT Try.prog 35 = true := by kernel_rfl
theorem Try.en36 : enterT Try.prog 36 = true := by kernel_rfl
theorem Try.en37 : enterT Try.prog 37 = true := by kernel_rfl
theorem Try.en38 : enterT Try.prog 38 = true := by kernel_rfl
theorem Try.en39 : enterT Try.prog 39 = true := by kernel_rfl
theorem Try.en40 : enterT Try.prog 40 = true := by kernel_rfl
theorem Try.en41 : enterT Try.prog 41 = true := by kernel_rfl
theorem Try.en42 : enterT Try.prog 42 = true := by kernel_rfl
theorem Try.en43 : enterT Try.prog 43 = true := by kernel_rfl
theorem Try.en44 : enterT Try.prog 44 = true := by kernel_rfl
theorem Try.en45 : enterT Try.prog 45 = true := by kernel_rfl
theorem Try.en46 : enterT Try.prog 46 = true := by kernel_rfl
theorem Try.en47 : enterT Try.prog 47 = true := by kernel_rfl
theorem Try.en48 : enterT Try.prog 48 = true := by kernel_rfl
theorem Try.en49 : enterT Try.prog 49 = true := by kernel_rfl
theorem Try.en50 : enterT Try.prog 50 = true := by kernel_rfl
theorem Try.en51 : enterT Try.prog 51 = true := by kernel_rfl
theorem Try.en52 : enterT Try.prog 52 = true := by kernel_rfl
theorem Try.en53 : enterT Try.prog 53 = true := by kernel_rfl
theorem Try.en54 : enterT Try.prog 54 = true := by kernel_rfl
theorem Try.en55 : enterT Try.prog 55 = true := by kernel_rfl
theorem Try.en56 : enterT Try.prog 56 = true := by kernel_rfl
theorem Try.en57 : enterT Try.prog 57 = true := by kernel_rfl
theorem Try.en74 : enterT Try.prog 74 = true := by kernel_rfl
theorem Try.en75 : enterT Try.prog 75 = true := by kernel_rfl
theorem Try.en76 : enterT Try.prog 76 = true := by kernel_rfl
theorem Try.en77 : enterT Try.prog 77 = true := by kernel_rfl
theorem Try.mixed : Try.prog.follows .mixedOrders = true := by kernel_rfl
end Go.Proofs.Ythpfljiabhjodaa
