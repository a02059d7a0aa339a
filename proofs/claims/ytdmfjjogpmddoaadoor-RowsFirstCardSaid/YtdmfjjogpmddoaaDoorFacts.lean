/- Closed facts on the program's types and functions. -/
import Derived.Test.YtdmfjjogpmddoaaDoorProg
import Derived.Test.YtdmfjjogpmddoaaDoorDraw
namespace Go.Proofs.YtdmfjjogpmddoaaDoor
theorem Tryd.at3 : atomT Tryd.prog 3 = true := by kernel_rfl
theorem Tryd.at4 : atomT Tryd.prog 4 = true := by kernel_rfl
theorem Tryd.at5 : atomT Tryd.prog 5 = true := by kernel_rfl
theorem Tryd.at24 : atomT Tryd.prog 24 = true := by kernel_rfl
theorem Tryd.at29 : atomT Tryd.prog 29 = true := by kernel_rfl
theorem Tryd.at36 : atomT Tryd.prog 36 = true := by kernel_rfl
theorem Tryd.at40 : atomT Tryd.prog 40 = true := by kernel_rfl
theorem Tryd.at44 : atomT Tryd.prog 44 = true := by kernel_rfl
theorem Tryd.at71 : atomT Tryd.prog 71 = true := by kernel_rfl
theorem Tryd.at77 : atomT Tryd.prog 77 = true := by kernel_rfl
theorem Tryd.at78 : atomT Tryd.prog 78 = true := by kernel_rfl
theorem Tryd.at79 : atomT Tryd.prog 79 = true := by kernel_rfl
theorem Tryd.at124 : atomT Tryd.prog 124 = true := by kernel_rfl
theorem Tryd.ag64 : aggT Tryd.prog 64 = some 5 := by kernel_rfl
theorem Tryd.ag81 : aggT Tryd.prog 81 = some 5 := by kernel_rfl
theorem Tryd.ag83 : aggT Tryd.prog 83 = some 2 := by kernel_rfl
theorem Tryd.ag107 : aggT Tryd.prog 107 = some 32 := by kernel_rfl
theorem Tryd.z3 : zeroT Tryd.prog 3 = some [.int .i64 0] := by kernel_rfl
theorem Tryd.z24 : zeroT Tryd.prog 24 = some [.pointer none] := by kernel_rfl
theorem Tryd.z29 : zeroT Tryd.prog 29 = some [.slice none 0 0] := by kernel_rfl
theorem Tryd.z36 : zeroT Tryd.prog 36 = some [.slice none 0 0] := by kernel_rfl
theorem Tryd.z50 : zeroT Tryd.prog 50 = some [.int .i64 0, .int .i64 0] := by kernel_rfl
theorem Tryd.z64 : zeroT Tryd.prog 64 = some [.int .u8 0, .int .u32 0, .int .i64 0, .slice none 0 0, .bool false] := by kernel_rfl
theorem Tryd.z73 : zeroT Tryd.prog 73 = some [.slice none 0 0, .slice none 0 0] := by kernel_rfl
theorem Tryd.z78 : zeroT Tryd.prog 78 = some [.map none] := by kernel_rfl
theorem Tryd.z81 : zeroT Tryd.prog 81 = some [.int .i64 0, .int .i64 0, .int .u16 0, .map none, .slice none 0 0] := by kernel_rfl
theorem Tryd.z83 : zeroT Tryd.prog 83 = some [.int .i64 0, .int .u16 0] := by kernel_rfl
theorem Tryd.z107 : zeroT Tryd.prog 107 = some [.int .u8 0, .int .u8 0, .int .u8 0, .int .u8 0, .int .u8 0, .int .u8 0, .int .u8 0, .int .u8 0, .int .u8 0, .int .u8 0, .int .u8 0, .int .u8 0, .int .u8 0, .int .u8 0, .int .u8 0, .int .u8 0, .int .u8 0, .int .u8 0, .int .u8 0, .int .u8 0, .int .u8 0, .int .u8 0, .int .u8 0, .int .u8 0, .int .u8 0, .int .u8 0, .int .u8 0, .int .u8 0, .int .u8 0, .int .u8 0, .int .u8 0, .int .u8 0] := by kernel_rfl
theorem Tryd.z124 : zeroT Tryd.prog 124 = some [.int .u64 0] := by kernel_rfl
theorem Tryd.p73 : partsT Tryd.prog 73 = some [(0, 1), (1, 1)] := by kernel_rfl
theorem Tryd.p81 : partsT Tryd.prog 81 = some [(0, 1), (1, 1), (2, 1), (3, 1), (4, 1)] := by kernel_rfl
theorem Tryd.p83 : partsT Tryd.prog 83 = some [(0, 1), (1, 1)] := by kernel_rfl
theorem Tryd.fo64_0 : fieldT Tryd.prog 64 0 = some 0 := by kernel_rfl
theorem Tryd.fo64_1 : fieldT Tryd.prog 64 1 = some 1 := by kernel_rfl
theorem Tryd.fo64_2 : fieldT Tryd.prog 64 2 = some 2 := by kernel_rfl
theorem Tryd.fo64_3 : fieldT Tryd.prog 64 3 = some 3 := by kernel_rfl
theorem Tryd.fo64_4 : fieldT Tryd.prog 64 4 = some 4 := by kernel_rfl
theorem Tryd.fo73_0 : fieldT Tryd.prog 73 0 = some 0 := by kernel_rfl
theorem Tryd.fo73_1 : fieldT Tryd.prog 73 1 = some 1 := by kernel_rfl
theorem Tryd.fo81_0 : fieldT Tryd.prog 81 0 = some 0 := by kernel_rfl
theorem Tryd.fo81_1 : fieldT Tryd.prog 81 1 = some 1 := by kernel_rfl
theorem Tryd.fo81_2 : fieldT Tryd.prog 81 2 = some 2 := by kernel_rfl
theorem Tryd.fo81_3 : fieldT Tryd.prog 81 3 = some 3 := by kernel_rfl
theorem Tryd.fo81_4 : fieldT Tryd.prog 81 4 = some 4 := by kernel_rfl
theorem Tryd.fo83_0 : fieldT Tryd.prog 83 0 = some 0 := by kernel_rfl
theorem Tryd.fo83_1 : fieldT Tryd.prog 83 1 = some 1 := by kernel_rfl
theorem Tryd.el22 : elemT Tryd.prog 22 = some (5, 1) := by kernel_rfl
theorem Tryd.inf5 : infoT Tryd.prog 5 = some ([.int .u8 0], 1, 1) := by kernel_rfl
theorem Tryd.el29 : elemT Tryd.prog 29 = some (40, 1) := by kernel_rfl
theorem Tryd.inf40 : infoT Tryd.prog 40 = some ([.int .u32 0], 1, 4) := by kernel_rfl
theorem Tryd.el36 : elemT Tryd.prog 36 = some (3, 1) := by kernel_rfl
theorem Tryd.inf3 : infoT Tryd.prog 3 = some ([.int .i64 0], 1, 8) := by kernel_rfl
theorem Tryd.el44 : elemT Tryd.prog 44 = some (4, 1) := by kernel_rfl
theorem Tryd.inf4 : infoT Tryd.prog 4 = some ([.bool false], 1, 1) := by kernel_rfl
theorem Tryd.el56 : elemT Tryd.prog 56 = some (64, 5) := by kernel_rfl
theorem Tryd.inf64 : infoT Tryd.prog 64 = some ([.int .u8 0, .int .u32 0, .int .i64 0, .slice none 0 0, .bool false], 5, 48) := by kernel_rfl
theorem Tryd.el71 : elemT Tryd.prog 71 = some (29, 1) := by kernel_rfl
theorem Tryd.inf29 : infoT Tryd.prog 29 = some ([.slice none 0 0], 1, 24) := by kernel_rfl
theorem Tryd.el79 : elemT Tryd.prog 79 = some (77, 1) := by kernel_rfl
theorem Tryd.inf77 : infoT Tryd.prog 77 = some ([.int .u16 0], 1, 2) := by kernel_rfl
theorem Tryd.ar50 : arrT Tryd.prog 50 = some (2, 1) := by kernel_rfl
theorem Tryd.ar107 : arrT Tryd.prog 107 = some (32, 1) := by kernel_rfl
theorem Tryd.it3 : intT Tryd.prog 3 = some .i64 := by kernel_rfl
theorem Tryd.it5 : intT Tryd.prog 5 = some .u8 := by kernel_rfl
theorem Tryd.it40 : intT Tryd.prog 40 = some .u32 := by kernel_rfl
theorem Tryd.it106 : intT Tryd.prog 106 = some .u64 := by kernel_rfl
theorem Tryd.it124 : intT Tryd.prog 124 = some .u64 := by kernel_rfl
theorem Tryd.zv4 : (Tryd.prog.info? 4).bind (·.zero) = some (.bool false) := by kernel_rfl
theorem Tryd.zv83 : (Tryd.prog.info? 83).bind (·.zero) = some (.agg #[.int .i64 0, .int .u16 0]) := by kernel_rfl
theorem Tryd.en10 : enterT Tryd.prog 10 = true := by kernel_rfl
theorem Tryd.en11 : enterT Tryd.prog 11 = true := by kernel_rfl
theorem Tryd.en12 : enterT Tryd.prog 12 = true := by kernel_rfl
theorem Tryd.en13 : enterT Tryd.prog 13 = true := by kernel_rfl
theorem Tryd.en14 : enterT Tryd.prog 14 = true := by kernel_rfl
theorem Tryd.en15 : enterT Tryd.prog 15 = true := by kernel_rfl
theorem Tryd.en16 : enterT Tryd.prog 16 = true := by kernel_rfl
theorem Tryd.en17 : enterT Tryd.prog 17 = true := by kernel_rfl
theorem Tryd.en18 : enterT Tryd.prog 18 = true := by kernel_rfl
theorem Tryd.en19 : enterT Tryd.prog 19 = true := by kernel_rfl
theorem Tryd.en20 : enterT Tryd.prog 20 = true := by kernel_rfl
theorem Tryd.en21 : enterT Tryd.prog 21 = true := by kernel_rfl
theorem Tryd.en22 : enterT Tryd.prog 22 = true := by kernel_rfl
theorem Tryd.en23 : enterT Tryd.prog 23 = true := by kernel_rfl
theorem Tryd.en24 : enterT Tryd.prog 24 = true := by kernel_rfl
theorem Tryd.en25 : enterT Tryd.prog 25 = true := by kernel_rfl
theorem Tryd.en26 : enterT Tryd.prog 26 = true := by kernel_rfl
theorem Tryd.en27 : enterT Tryd.prog 27 = true := by kernel_rfl
theorem Tryd.en28 : enterT Tryd.prog 28 = true := by kernel_rfl
theorem Tryd.en29 : enterT Tryd.prog 29 = true := by kernel_rfl
theorem Tryd.en30 : enterT Tryd.prog 30 = true := by kernel_rfl
theorem Tryd.en31 : enterT Tryd.prog 31 = true := by kernel_rfl
theorem Tryd.en32 : enterT Tryd.prog 32 = true := by kernel_rfl
theorem Tryd.en33 : enterT Tryd.prog 33 = true := by kernel_rfl
theorem Tryd.en34 : enterT Tryd.prog 34 = true := by kernel_rfl
theorem Tryd.en35 : enterT Tryd.prog 35 = true := by kernel_rfl
theorem Tryd.en36 : enterT Tryd.prog 36 = true := by kernel_rfl
theorem Tryd.en37 : enterT Tryd.prog 37 = true := by kernel_rfl
theorem Tryd.en38 : enterT Tryd.prog 38 = true := by kernel_rfl
theorem Tryd.en39 : enterT Tryd.prog 39 = true := by kernel_rfl
theorem Tryd.en40 : enterT Tryd.prog 40 = true := by kernel_rfl
theorem Tryd.en41 : enterT Tryd.prog 41 = true := by kernel_rfl
theorem Tryd.en42 : enterT Tryd.prog 42 = true := by kernel_rfl
theorem Tryd.en43 : enterT Tryd.prog 43 = true := by kernel_rfl
theorem Tryd.en44 : enterT Tryd.prog 44 = true := by kernel_rfl
theorem Tryd.en45 : enterT Tryd.prog 45 = true := by kernel_rfl
theorem Tryd.en46 : enterT Tryd.prog 46 = true := by kernel_rfl
theorem Tryd.en47 : enterT Tryd.prog 47 = true := by kernel_rfl
theorem Tryd.en48 : enterT Tryd.prog 48 = true := by kernel_rfl
theorem Tryd.en49 : enterT Tryd.prog 49 = true := by kernel_rfl
theorem Tryd.en50 : enterT Tryd.prog 50 = true := by kernel_rfl
theorem Tryd.en51 : enterT Tryd.prog 51 = true := by kernel_rfl
theorem Tryd.en52 : enterT Tryd.prog 52 = true := by kernel_rfl
theorem Tryd.en53 : enterT Tryd.prog 53 = true := by kernel_rfl
theorem Tryd.en54 : enterT Tryd.prog 54 = true := by kernel_rfl
theorem Tryd.en55 : enterT Tryd.prog 55 = true := by kernel_rfl
theorem Tryd.en56 : enterT Tryd.prog 56 = true := by kernel_rfl
theorem Tryd.en57 : enterT Tryd.prog 57 = true := by kernel_rfl
theorem Tryd.en58 : enterT Tryd.prog 58 = true := by kernel_rfl
theorem Tryd.en60 : enterT Tryd.prog 60 = true := by kernel_rfl
theorem Tryd.en61 : enterT Tryd.prog 61 = true := by kernel_rfl
theorem Tryd.en62 : enterT Tryd.prog 62 = true := by kernel_rfl
theorem Tryd.en63 : enterT Tryd.prog 63 = true := by kernel_rfl
theorem Tryd.en64 : enterT Tryd.prog 64 = true := by kernel_rfl
theorem Tryd.en65 : enterT Tryd.prog 65 = true := by kernel_rfl
theorem Tryd.en66 : enterT Tryd.prog 66 = true := by kernel_rfl
theorem Tryd.en67 : enterT Tryd.prog 67 = true := by kernel_rfl
theorem Tryd.en68 : enterT Tryd.prog 68 = true := by kernel_rfl
theorem Tryd.en69 : enterT Tryd.prog 69 = true := by kernel_rfl
theorem Tryd.en70 : enterT Tryd.prog 70 = true := by kernel_rfl
theorem Tryd.en71 : enterT Tryd.prog 71 = true := by kernel_rfl
theorem Tryd.en72 : enterT Tryd.prog 72 = true := by kernel_rfl
theorem Tryd.en73 : enterT Tryd.prog 73 = true := by kernel_rfl
theorem Tryd.en74 : enterT Tryd.prog 74 = true := by kernel_rfl
theorem Tryd.en75 : enterT Tryd.prog 75 = true := by kernel_rfl
theorem Tryd.en76 : enterT Tryd.prog 76 = true := by kernel_rfl
theorem Tryd.en77 : enterT Tryd.prog 77 = true := by kernel_rfl
theorem Tryd.en78 : enterT Tryd.prog 78 = true := by kernel_rfl
theorem Tryd.en79 : enterT Tryd.prog 79 = true := by kernel_rfl
theorem Tryd.en80 : enterT Tryd.prog 80 = true := by kernel_rfl
theorem Tryd.en81 : enterT Tryd.prog 81 = true := by kernel_rfl
theorem Tryd.en82 : enterT Tryd.prog 82 = true := by kernel_rfl
theorem Tryd.en83 : enterT Tryd.prog 83 = true := by kernel_rfl
theorem Tryd.en84 : enterT Tryd.prog 84 = true := by kernel_rfl
theorem Tryd.en85 : enterT Tryd.prog 85 = true := by kernel_rfl
theorem Tryd.en86 : enterT Tryd.prog 86 = true := by kernel_rfl
theorem Tryd.en87 : enterT Tryd.prog 87 = true := by kernel_rfl
theorem Tryd.en88 : enterT Tryd.prog 88 = true := by kernel_rfl
theorem Tryd.en89 : enterT Tryd.prog 89 = true := by kernel_rfl
theorem Tryd.en90 : enterT Tryd.prog 90 = true := by kernel_rfl
theorem Tryd.en91 : enterT Tryd.prog 91 = true := by kernel_rfl
theorem Tryd.en92 : enterT Tryd.prog 92 = true := by kernel_rfl
theorem Tryd.en93 : enterT Tryd.prog 93 = true := by kernel_rfl
theorem Tryd.en94 : enterT Tryd.prog 94 = true := by kernel_rfl
theorem Tryd.en95 : enterT Tryd.prog 95 = true := by kernel_rfl
theorem Tryd.en96 : enterT Tryd.prog 96 = true := by kernel_rfl
theorem Tryd.mixed : Tryd.prog.follows .mixedOrders = true := by kernel_rfl
end Go.Proofs.YtdmfjjogpmddoaaDoor
