/- Closed facts on the program's types and functions. -/
import Derived.Test.YtbhnbnecaejjiaaDoorProg
import Derived.Test.YtbhnbnecaejjiaaDoorDraw
namespace Go.Proofs.YtbhnbnecaejjiaaDoor
theorem Tryd.at3 : atomT Tryd.prog 3 = true := by kernel_rfl
theorem Tryd.at4 : atomT Tryd.prog 4 = true := by kernel_rfl
theorem Tryd.at5 : atomT Tryd.prog 5 = true := by kernel_rfl
theorem Tryd.at24 : atomT Tryd.prog 24 = true := by kernel_rfl
theorem Tryd.at28 : atomT Tryd.prog 28 = true := by kernel_rfl
theorem Tryd.at34 : atomT Tryd.prog 34 = true := by kernel_rfl
theorem Tryd.at36 : atomT Tryd.prog 36 = true := by kernel_rfl
theorem Tryd.at42 : atomT Tryd.prog 42 = true := by kernel_rfl
theorem Tryd.at43 : atomT Tryd.prog 43 = true := by kernel_rfl
theorem Tryd.at52 : atomT Tryd.prog 52 = true := by kernel_rfl
theorem Tryd.at65 : atomT Tryd.prog 65 = true := by kernel_rfl
theorem Tryd.at95 : atomT Tryd.prog 95 = true := by kernel_rfl
theorem Tryd.at96 : atomT Tryd.prog 96 = true := by kernel_rfl
theorem Tryd.at97 : atomT Tryd.prog 97 = true := by kernel_rfl
theorem Tryd.at165 : atomT Tryd.prog 165 = true := by kernel_rfl
theorem Tryd.ag58 : aggT Tryd.prog 58 = some 3 := by kernel_rfl
theorem Tryd.ag70 : aggT Tryd.prog 70 = some 2 := by kernel_rfl
theorem Tryd.ag75 : aggT Tryd.prog 75 = some 2 := by kernel_rfl
theorem Tryd.ag84 : aggT Tryd.prog 84 = some 4 := by kernel_rfl
theorem Tryd.ag90 : aggT Tryd.prog 90 = some 2 := by kernel_rfl
theorem Tryd.ag99 : aggT Tryd.prog 99 = some 5 := by kernel_rfl
theorem Tryd.ag102 : aggT Tryd.prog 102 = some 2 := by kernel_rfl
theorem Tryd.ag110 : aggT Tryd.prog 110 = some 3 := by kernel_rfl
theorem Tryd.ag120 : aggT Tryd.prog 120 = some 2 := by kernel_rfl
theorem Tryd.ag129 : aggT Tryd.prog 129 = some 1 := by kernel_rfl
theorem Tryd.ag139 : aggT Tryd.prog 139 = some 32 := by kernel_rfl
theorem Tryd.ag160 : aggT Tryd.prog 160 = some 0 := by kernel_rfl
theorem Tryd.z3 : zeroT Tryd.prog 3 = some [.int .i64 0] := by kernel_rfl
theorem Tryd.z24 : zeroT Tryd.prog 24 = some [.pointer none] := by kernel_rfl
theorem Tryd.z34 : zeroT Tryd.prog 34 = some [.slice none 0 0] := by kernel_rfl
theorem Tryd.z45 : zeroT Tryd.prog 45 = some [.slice none 0 0, .slice none 0 0] := by kernel_rfl
theorem Tryd.z52 : zeroT Tryd.prog 52 = some [.slice none 0 0] := by kernel_rfl
theorem Tryd.z58 : zeroT Tryd.prog 58 = some [.int .u32 0, .int .i64 0, .int .i64 0] := by kernel_rfl
theorem Tryd.z70 : zeroT Tryd.prog 70 = some [.int .i64 0, .slice none 0 0] := by kernel_rfl
theorem Tryd.z75 : zeroT Tryd.prog 75 = some [.int .u32 0, .int .u8 0] := by kernel_rfl
theorem Tryd.z84 : zeroT Tryd.prog 84 = some [.int .u8 0, .int .u16 0, .int .u8 0, .bool false] := by kernel_rfl
theorem Tryd.z90 : zeroT Tryd.prog 90 = some [.int .u8 0, .int .u16 0] := by kernel_rfl
theorem Tryd.z96 : zeroT Tryd.prog 96 = some [.map none] := by kernel_rfl
theorem Tryd.z99 : zeroT Tryd.prog 99 = some [.int .i64 0, .int .i64 0, .int .u16 0, .map none, .slice none 0 0] := by kernel_rfl
theorem Tryd.z102 : zeroT Tryd.prog 102 = some [.int .i64 0, .int .u16 0] := by kernel_rfl
theorem Tryd.z110 : zeroT Tryd.prog 110 = some [.int .u32 0, .int .i64 0, .int .i64 0] := by kernel_rfl
theorem Tryd.z120 : zeroT Tryd.prog 120 = some [.int .u32 0, .int .u8 0] := by kernel_rfl
theorem Tryd.z129 : zeroT Tryd.prog 129 = some [.slice none 0 0] := by kernel_rfl
theorem Tryd.z139 : zeroT Tryd.prog 139 = some [.int .u8 0, .int .u8 0, .int .u8 0, .int .u8 0, .int .u8 0, .int .u8 0, .int .u8 0, .int .u8 0, .int .u8 0, .int .u8 0, .int .u8 0, .int .u8 0, .int .u8 0, .int .u8 0, .int .u8 0, .int .u8 0, .int .u8 0, .int .u8 0, .int .u8 0, .int .u8 0, .int .u8 0, .int .u8 0, .int .u8 0, .int .u8 0, .int .u8 0, .int .u8 0, .int .u8 0, .int .u8 0, .int .u8 0, .int .u8 0, .int .u8 0, .int .u8 0] := by kernel_rfl
theorem Tryd.z160 : zeroT Tryd.prog 160 = some [] := by kernel_rfl
theorem Tryd.z165 : zeroT Tryd.prog 165 = some [.int .u64 0] := by kernel_rfl
theorem Tryd.p45 : partsT Tryd.prog 45 = some [(0, 1), (1, 1)] := by kernel_rfl
theorem Tryd.p58 : partsT Tryd.prog 58 = some [(0, 1), (1, 1), (2, 1)] := by kernel_rfl
theorem Tryd.p70 : partsT Tryd.prog 70 = some [(0, 1), (1, 1)] := by kernel_rfl
theorem Tryd.p75 : partsT Tryd.prog 75 = some [(0, 1), (1, 1)] := by kernel_rfl
theorem Tryd.p99 : partsT Tryd.prog 99 = some [(0, 1), (1, 1), (2, 1), (3, 1), (4, 1)] := by kernel_rfl
theorem Tryd.p102 : partsT Tryd.prog 102 = some [(0, 1), (1, 1)] := by kernel_rfl
theorem Tryd.p110 : partsT Tryd.prog 110 = some [(0, 1), (1, 1), (2, 1)] := by kernel_rfl
theorem Tryd.p120 : partsT Tryd.prog 120 = some [(0, 1), (1, 1)] := by kernel_rfl
theorem Tryd.p129 : partsT Tryd.prog 129 = some [(0, 1)] := by kernel_rfl
theorem Tryd.p160 : partsT Tryd.prog 160 = some [] := by kernel_rfl
theorem Tryd.fo45_0 : fieldT Tryd.prog 45 0 = some 0 := by kernel_rfl
theorem Tryd.fo45_1 : fieldT Tryd.prog 45 1 = some 1 := by kernel_rfl
theorem Tryd.fo58_0 : fieldT Tryd.prog 58 0 = some 0 := by kernel_rfl
theorem Tryd.fo58_1 : fieldT Tryd.prog 58 1 = some 1 := by kernel_rfl
theorem Tryd.fo58_2 : fieldT Tryd.prog 58 2 = some 2 := by kernel_rfl
theorem Tryd.fo70_0 : fieldT Tryd.prog 70 0 = some 0 := by kernel_rfl
theorem Tryd.fo70_1 : fieldT Tryd.prog 70 1 = some 1 := by kernel_rfl
theorem Tryd.fo75_0 : fieldT Tryd.prog 75 0 = some 0 := by kernel_rfl
theorem Tryd.fo75_1 : fieldT Tryd.prog 75 1 = some 1 := by kernel_rfl
theorem Tryd.fo84_0 : fieldT Tryd.prog 84 0 = some 0 := by kernel_rfl
theorem Tryd.fo84_1 : fieldT Tryd.prog 84 1 = some 1 := by kernel_rfl
theorem Tryd.fo84_2 : fieldT Tryd.prog 84 2 = some 2 := by kernel_rfl
theorem Tryd.fo84_3 : fieldT Tryd.prog 84 3 = some 3 := by kernel_rfl
theorem Tryd.fo90_0 : fieldT Tryd.prog 90 0 = some 0 := by kernel_rfl
theorem Tryd.fo90_1 : fieldT Tryd.prog 90 1 = some 1 := by kernel_rfl
theorem Tryd.fo99_0 : fieldT Tryd.prog 99 0 = some 0 := by kernel_rfl
theorem Tryd.fo99_1 : fieldT Tryd.prog 99 1 = some 1 := by kernel_rfl
theorem Tryd.fo99_2 : fieldT Tryd.prog 99 2 = some 2 := by kernel_rfl
theorem Tryd.fo99_3 : fieldT Tryd.prog 99 3 = some 3 := by kernel_rfl
theorem Tryd.fo99_4 : fieldT Tryd.prog 99 4 = some 4 := by kernel_rfl
theorem Tryd.fo102_0 : fieldT Tryd.prog 102 0 = some 0 := by kernel_rfl
theorem Tryd.fo102_1 : fieldT Tryd.prog 102 1 = some 1 := by kernel_rfl
theorem Tryd.fo120_0 : fieldT Tryd.prog 120 0 = some 0 := by kernel_rfl
theorem Tryd.fo120_1 : fieldT Tryd.prog 120 1 = some 1 := by kernel_rfl
theorem Tryd.fo129_0 : fieldT Tryd.prog 129 0 = some 0 := by kernel_rfl
theorem Tryd.el22 : elemT Tryd.prog 22 = some (90, 2) := by kernel_rfl
theorem Tryd.inf90 : infoT Tryd.prog 90 = some ([.int .u8 0, .int .u16 0], 2, 4) := by kernel_rfl
theorem Tryd.el29 : elemT Tryd.prog 29 = some (58, 3) := by kernel_rfl
theorem Tryd.inf58 : infoT Tryd.prog 58 = some ([.int .u32 0, .int .i64 0, .int .i64 0], 3, 24) := by kernel_rfl
theorem Tryd.el34 : elemT Tryd.prog 34 = some (36, 1) := by kernel_rfl
theorem Tryd.inf36 : infoT Tryd.prog 36 = some ([.int .u32 0], 1, 4) := by kernel_rfl
theorem Tryd.el39 : elemT Tryd.prog 39 = some (110, 3) := by kernel_rfl
theorem Tryd.inf110 : infoT Tryd.prog 110 = some ([.int .u32 0, .int .i64 0, .int .i64 0], 3, 24) := by kernel_rfl
theorem Tryd.el42 : elemT Tryd.prog 42 = some (34, 1) := by kernel_rfl
theorem Tryd.inf34 : infoT Tryd.prog 34 = some ([.slice none 0 0], 1, 24) := by kernel_rfl
theorem Tryd.el43 : elemT Tryd.prog 43 = some (4, 1) := by kernel_rfl
theorem Tryd.inf4 : infoT Tryd.prog 4 = some ([.bool false], 1, 1) := by kernel_rfl
theorem Tryd.el52 : elemT Tryd.prog 52 = some (3, 1) := by kernel_rfl
theorem Tryd.inf3 : infoT Tryd.prog 3 = some ([.int .i64 0], 1, 8) := by kernel_rfl
theorem Tryd.el63 : elemT Tryd.prog 63 = some (84, 4) := by kernel_rfl
theorem Tryd.inf84 : infoT Tryd.prog 84 = some ([.int .u8 0, .int .u16 0, .int .u8 0, .bool false], 4, 6) := by kernel_rfl
theorem Tryd.el64 : elemT Tryd.prog 64 = some (75, 2) := by kernel_rfl
theorem Tryd.inf75 : infoT Tryd.prog 75 = some ([.int .u32 0, .int .u8 0], 2, 8) := by kernel_rfl
theorem Tryd.el65 : elemT Tryd.prog 65 = some (120, 2) := by kernel_rfl
theorem Tryd.inf120 : infoT Tryd.prog 120 = some ([.int .u32 0, .int .u8 0], 2, 8) := by kernel_rfl
theorem Tryd.el97 : elemT Tryd.prog 97 = some (95, 1) := by kernel_rfl
theorem Tryd.inf95 : infoT Tryd.prog 95 = some ([.int .u16 0], 1, 2) := by kernel_rfl
theorem Tryd.ar139 : arrT Tryd.prog 139 = some (32, 1) := by kernel_rfl
theorem Tryd.it3 : intT Tryd.prog 3 = some .i64 := by kernel_rfl
theorem Tryd.it5 : intT Tryd.prog 5 = some .u8 := by kernel_rfl
theorem Tryd.it36 : intT Tryd.prog 36 = some .u32 := by kernel_rfl
theorem Tryd.it138 : intT Tryd.prog 138 = some .u64 := by kernel_rfl
theorem Tryd.it165 : intT Tryd.prog 165 = some .u64 := by kernel_rfl
theorem Tryd.zv102 : (Tryd.prog.info? 102).bind (·.zero) = some (.agg #[.int .i64 0, .int .u16 0]) := by kernel_rfl
theorem Tryd.zv160 : (Tryd.prog.info? 160).bind (·.zero) = some (.agg #[]) := by kernel_rfl
theorem Tryd.en13 : enterT Tryd.prog 13 = true := by kernel_rfl
theorem Tryd.en14 : enterT Tryd.prog 14 = true := by kernel_rfl
theorem Tryd.en15 : enterT Tryd.prog 15 = true := by kernel_rfl
theorem Tryd.en16 : enterT Tryd.prog 16 = true := by kernel_rfl
theorem Tryd.en17 : enterT Tryd.prog 17 = true := by kernel_rfl
theorem Tryd.en18 : enterT Tryd.prog 18 = true := by kernel_rfl
theorem Tryd.en19 : enterT Tryd.prog 19 = true := by kernel_rfl
theorem Tryd.en20 : enterT Tryd.prog 20 = true := by kernel_rfl
theorem Tryd.en21 : enterT Tryd.prog 21 = true := by kernel_rfl
theorem Tryd.en22 : enterT Tryd.prog 22 = true := by kernel_rfl
theorem Tryd.en23 : enterT Tryd.prog 23 = true := by kernel_rfl
theorem Tryd.en24 : enterT Tryd.prog 24 = true := by kernel_rfl
theorem Tryd.en25 : enterT Tryd.prog 25 = true := by kernel_rfl
theorem Tryd.en26 : enterT Tryd.prog 26 = true := by kernel_rfl
theorem Tryd.en27 : enterT Tryd.prog 27 = true := by kernel_rfl
theorem Tryd.en28 : enterT Tryd.prog 28 = true := by kernel_rfl
theorem Tryd.en29 : enterT Tryd.prog 29 = true := by kernel_rfl
theorem Tryd.en30 : enterT Tryd.prog 30 = true := by kernel_rfl
theorem Tryd.en31 : enterT Tryd.prog 31 = true := by kernel_rfl
theorem Tryd.en32 : enterT Tryd.prog 32 = true := by kernel_rfl
theorem Tryd.en33 : enterT Tryd.prog 33 = true := by kernel_rfl
theorem Tryd.en34 : enterT Tryd.prog 34 = true := by kernel_rfl
theorem Tryd.en35 : enterT Tryd.prog 35 = true := by kernel_rfl
theorem Tryd.en36 : enterT Tryd.prog 36 = true := by kernel_rfl
theorem Tryd.en37 : enterT Tryd.prog 37 = true := by kernel_rfl
theorem Tryd.en38 : enterT Tryd.prog 38 = true := by kernel_rfl
theorem Tryd.en39 : enterT Tryd.prog 39 = true := by kernel_rfl
theorem Tryd.en40 : enterT Tryd.prog 40 = true := by kernel_rfl
theorem Tryd.en41 : enterT Tryd.prog 41 = true := by kernel_rfl
theorem Tryd.en42 : enterT Tryd.prog 42 = true := by kernel_rfl
theorem Tryd.en43 : enterT Tryd.prog 43 = true := by kernel_rfl
theorem Tryd.en44 : enterT Tryd.prog 44 = true := by kernel_rfl
theorem Tryd.en45 : enterT Tryd.prog 45 = true := by kernel_rfl
theorem Tryd.en46 : enterT Tryd.prog 46 = true := by kernel_rfl
theorem Tryd.en47 : enterT Tryd.prog 47 = true := by kernel_rfl
theorem Tryd.en48 : enterT Tryd.prog 48 = true := by kernel_rfl
theorem Tryd.en49 : enterT Tryd.prog 49 = true := by kernel_rfl
theorem Tryd.en50 : enterT Tryd.prog 50 = true := by kernel_rfl
theorem Tryd.en51 : enterT Tryd.prog 51 = true := by kernel_rfl
theorem Tryd.en52 : enterT Tryd.prog 52 = true := by kernel_rfl
theorem Tryd.en53 : enterT Tryd.prog 53 = true := by kernel_rfl
theorem Tryd.en54 : enterT Tryd.prog 54 = true := by kernel_rfl
theorem Tryd.en55 : enterT Tryd.prog 55 = true := by kernel_rfl
theorem Tryd.en56 : enterT Tryd.prog 56 = true := by kernel_rfl
theorem Tryd.en57 : enterT Tryd.prog 57 = true := by kernel_rfl
theorem Tryd.en58 : enterT Tryd.prog 58 = true := by kernel_rfl
theorem Tryd.en59 : enterT Tryd.prog 59 = true := by kernel_rfl
theorem Tryd.en60 : enterT Tryd.prog 60 = true := by kernel_rfl
theorem Tryd.en61 : enterT Tryd.prog 61 = true := by kernel_rfl
theorem Tryd.en62 : enterT Tryd.prog 62 = true := by kernel_rfl
theorem Tryd.en63 : enterT Tryd.prog 63 = true := by kernel_rfl
theorem Tryd.en64 : enterT Tryd.prog 64 = true := by kernel_rfl
theorem Tryd.en65 : enterT Tryd.prog 65 = true := by kernel_rfl
theorem Tryd.en66 : enterT Tryd.prog 66 = true := by kernel_rfl
theorem Tryd.en67 : enterT Tryd.prog 67 = true := by kernel_rfl
theorem Tryd.en68 : enterT Tryd.prog 68 = true := by kernel_rfl
theorem Tryd.en69 : enterT Tryd.prog 69 = true := by kernel_rfl
theorem Tryd.en70 : enterT Tryd.prog 70 = true := by kernel_rfl
theorem Tryd.en71 : enterT Tryd.prog 71 = true := by kernel_rfl
theorem Tryd.en72 : enterT Tryd.prog 72 = true := by kernel_rfl
theorem Tryd.en73 : enterT Tryd.prog 73 = true := by kernel_rfl
theorem Tryd.en74 : enterT Tryd.prog 74 = true := by kernel_rfl
theorem Tryd.en75 : enterT Tryd.prog 75 = true := by kernel_rfl
theorem Tryd.en76 : enterT Tryd.prog 76 = true := by kernel_rfl
theorem Tryd.en77 : enterT Tryd.prog 77 = true := by kernel_rfl
theorem Tryd.en78 : enterT Tryd.prog 78 = true := by kernel_rfl
theorem Tryd.en79 : enterT Tryd.prog 79 = true := by kernel_rfl
theorem Tryd.en80 : enterT Tryd.prog 80 = true := by kernel_rfl
theorem Tryd.en81 : enterT Tryd.prog 81 = true := by kernel_rfl
theorem Tryd.en82 : enterT Tryd.prog 82 = true := by kernel_rfl
theorem Tryd.en84 : enterT Tryd.prog 84 = true := by kernel_rfl
theorem Tryd.en85 : enterT Tryd.prog 85 = true := by kernel_rfl
theorem Tryd.en86 : enterT Tryd.prog 86 = true := by kernel_rfl
theorem Tryd.en87 : enterT Tryd.prog 87 = true := by kernel_rfl
theorem Tryd.en88 : enterT Tryd.prog 88 = true := by kernel_rfl
theorem Tryd.en89 : enterT Tryd.prog 89 = true := by kernel_rfl
theorem Tryd.en90 : enterT Tryd.prog 90 = true := by kernel_rfl
theorem Tryd.en91 : enterT Tryd.prog 91 = true := by kernel_rfl
theorem Tryd.en92 : enterT Tryd.prog 92 = true := by kernel_rfl
theorem Tryd.en93 : enterT Tryd.prog 93 = true := by kernel_rfl
theorem Tryd.en94 : enterT Tryd.prog 94 = true := by kernel_rfl
theorem Tryd.en95 : enterT Tryd.prog 95 = true := by kernel_rfl
theorem Tryd.en96 : enterT Tryd.prog 96 = true := by kernel_rfl
theorem Tryd.en97 : enterT Tryd.prog 97 = true := by kernel_rfl
theorem Tryd.en98 : enterT Tryd.prog 98 = true := by kernel_rfl
theorem Tryd.en99 : enterT Tryd.prog 99 = true := by kernel_rfl
theorem Tryd.en100 : enterT Tryd.prog 100 = true := by kernel_rfl
theorem Tryd.en101 : enterT Tryd.prog 101 = true := by kernel_rfl
theorem Tryd.en102 : enterT Tryd.prog 102 = true := by kernel_rfl
theorem Tryd.en103 : enterT Tryd.prog 103 = true := by kernel_rfl
theorem Tryd.en104 : enterT Tryd.prog 104 = true := by kernel_rfl
theorem Tryd.en105 : enterT Tryd.prog 105 = true := by kernel_rfl
theorem Tryd.en106 : enterT Tryd.prog 106 = true := by kernel_rfl
theorem Tryd.en107 : enterT Tryd.prog 107 = true := by kernel_rfl
theorem Tryd.en108 : enterT Tryd.prog 108 = true := by kernel_rfl
theorem Tryd.en109 : enterT Tryd.prog 109 = true := by kernel_rfl
theorem Tryd.en110 : enterT Tryd.prog 110 = true := by kernel_rfl
theorem Tryd.en111 : enterT Tryd.prog 111 = true := by kernel_rfl
theorem Tryd.en112 : enterT Tryd.prog 112 = true := by kernel_rfl
theorem Tryd.en113 : enterT Tryd.prog 113 = true := by kernel_rfl
theorem Tryd.en114 : enterT Tryd.prog 114 = true := by kernel_rfl
theorem Tryd.en115 : enterT Tryd.prog 115 = true := by kernel_rfl
theorem Tryd.en116 : enterT Tryd.prog 116 = true := by kernel_rfl
theorem Tryd.en117 : enterT Tryd.prog 117 = true := by kernel_rfl
theorem Tryd.en118 : enterT Tryd.prog 118 = true := by kernel_rfl
theorem Tryd.en119 : enterT Tryd.prog 119 = true := by kernel_rfl
theorem Tryd.en120 : enterT Tryd.prog 120 = true := by kernel_rfl
theorem Tryd.en121 : enterT Tryd.prog 121 = true := by kernel_rfl
theorem Tryd.en122 : enterT Tryd.prog 122 = true := by kernel_rfl
theorem Tryd.en123 : enterT Tryd.prog 123 = true := by kernel_rfl
theorem Tryd.en124 : enterT Tryd.prog 124 = true := by kernel_rfl
theorem Tryd.en125 : enterT Tryd.prog 125 = true := by kernel_rfl
theorem Tryd.en126 : enterT Tryd.prog 126 = true := by kernel_rfl
theorem Tryd.en127 : enterT Tryd.prog 127 = true := by kernel_rfl
theorem Tryd.en128 : enterT Tryd.prog 128 = true := by kernel_rfl
theorem Tryd.en129 : enterT Tryd.prog 129 = true := by kernel_rfl
theorem Tryd.en130 : enterT Tryd.prog 130 = true := by kernel_rfl
theorem Tryd.en131 : enterT Tryd.prog 131 = true := by kernel_rfl
theorem Tryd.en132 : enterT Tryd.prog 132 = true := by kernel_rfl
theorem Tryd.en133 : enterT Tryd.prog 133 = true := by kernel_rfl
theorem Tryd.mixed : Tryd.prog.follows .mixedOrders = true := by kernel_rfl
end Go.Proofs.YtbhnbnecaejjiaaDoor
