/-
  Texts that belong together, laid into one file: Tab, FwZ, TabI, P1, W1, W2, W3, W4, W5, Sh, P3, W6, W7, P4, W8, W9, W10, W11, W12, FwK.
-/
import Derived.Test.YtigfbpbnohkokaaGreatRows
import Derived.Lib.IndexLaws
import Derived.Shelf.Strings.Builder1
import Derived.Shelf.Strings.Builder2
import Derived.Shelf.Strings.OnBuilder
import Derived.Shelf.Small.Bits
import Derived.Shelf.Strconv.Itoa0
import Derived.Shelf.Strings.Search1
import Derived.Shelf.Strings.Search2
import Derived.Shelf.Strings.Cut
import Derived.Shelf.LaysM
import Derived.Shelf.Strings.Shaped
import Derived.Shelf.Sort.Plain
import Derived.Shelf.Slices.In.SortNone
import Derived.Test.YtigfbpbnohkokaaGreatProg
import Derived.Shelf.SlIter.Nil
import Derived.Shelf.SortM.Plain
import Derived.Shelf.SortM.SortNone
import Derived.Ground.GgzProg
import Derived.Ground.SlgmProg
import Derived.Test.YtigfbpbnohkokaaGreatQ1
namespace Go.Proofs.YtigfbpbnohkokaaGreat
open Go Go.Fw Go.Proofs
theorem by123 : bytesOf' Tryz.prog 123 = some 40 := by kernel_rfl
theorem by26 : bytesOf' Tryz.prog 26 = some 32 := by kernel_rfl
theorem by29 : bytesOf' Tryz.prog 29 = some 48 := by kernel_rfl
theorem by3 : bytesOf' Tryz.prog 3 = some 8 := by kernel_rfl
theorem by5 : bytesOf' Tryz.prog 5 = some 1 := by kernel_rfl
theorem by9 : bytesOf' Tryz.prog 9 = some 16 := by kernel_rfl
theorem en100 : entered Tryz.prog 100 = true := by kernel_rfl
theorem en101 : entered Tryz.prog 101 = true := by kernel_rfl
theorem en102 : entered Tryz.prog 102 = true := by kernel_rfl
theorem en103 : entered Tryz.prog 103 = true := by kernel_rfl
theorem en104 : entered Tryz.prog 104 = true := by kernel_rfl
theorem en105 : entered Tryz.prog 105 = true := by kernel_rfl
theorem en106 : entered Tryz.prog 106 = true := by kernel_rfl
theorem en107 : entered Tryz.prog 107 = true := by kernel_rfl
theorem en108 : entered Tryz.prog 108 = true := by kernel_rfl
theorem en109 : entered Tryz.prog 109 = true := by kernel_rfl
theorem en11 : entered Tryz.prog 11 = true := by kernel_rfl
theorem en110 : entered Tryz.prog 110 = true := by kernel_rfl
theorem en111 : entered Tryz.prog 111 = true := by kernel_rfl
theorem en112 : entered Tryz.prog 112 = true := by kernel_rfl
theorem en113 : entered Tryz.prog 113 = true := by kernel_rfl
theorem en114 : entered Tryz.prog 114 = true := by kernel_rfl
theorem en115 : entered Tryz.prog 115 = true := by kernel_rfl
theorem en116 : entered Tryz.prog 116 = true := by kernel_rfl
theorem en117 : entered Tryz.prog 117 = true := by kernel_rfl
theorem en118 : entered Tryz.prog 118 = true := by kernel_rfl
theorem en119 : entered Tryz.prog 119 = true := by kernel_rfl
theorem en12 : entered Tryz.prog 12 = true := by kernel_rfl
theorem en120 : entered Tryz.prog 120 = true := by kernel_rfl
theorem en121 : entered Tryz.prog 121 = true := by kernel_rfl
theorem en122 : entered Tryz.prog 122 = true := by kernel_rfl
theorem en123 : entered Tryz.prog 123 = true := by kernel_rfl
theorem en124 : entered Tryz.prog 124 = true := by kernel_rfl
theorem en125 : entered Tryz.prog 125 = true := by kernel_rfl
theorem en126 : entered Tryz.prog 126 = true := by kernel_rfl
theorem en127 : entered Tryz.prog 127 = true := by kernel_rfl
theorem en128 : entered Tryz.prog 128 = true := by kernel_rfl
theorem en129 : entered Tryz.prog 129 = true := by kernel_rfl
theorem en13 : entered Tryz.prog 13 = true := by kernel_rfl
theorem en130 : entered Tryz.prog 130 = true := by kernel_rfl
theorem en131 : entered Tryz.prog 131 = true := by kernel_rfl
theorem en132 : entered Tryz.prog 132 = true := by kernel_rfl
theorem en136 : entered Tryz.prog 136 = true := by kernel_rfl
theorem en137 : entered Tryz.prog 137 = true := by kernel_rfl
theorem en138 : entered Tryz.prog 138 = true := by kernel_rfl
theorem en139 : entered Tryz.prog 139 = true := by kernel_rfl
theorem en14 : entered Tryz.prog 14 = true := by kernel_rfl
theorem en143 : entered Tryz.prog 143 = true := by kernel_rfl
theorem en149 : entered Tryz.prog 149 = true := by kernel_rfl
theorem en15 : entered Tryz.prog 15 = true := by kernel_rfl
theorem en16 : entered Tryz.prog 16 = true := by kernel_rfl
theorem en17 : entered Tryz.prog 17 = true := by kernel_rfl
theorem en18 : entered Tryz.prog 18 = true := by kernel_rfl
theorem en19 : entered Tryz.prog 19 = true := by kernel_rfl
theorem en191 : entered Tryz.prog 191 = true := by kernel_rfl
theorem en20 : entered Tryz.prog 20 = true := by kernel_rfl
theorem en21 : entered Tryz.prog 21 = true := by kernel_rfl
theorem en22 : entered Tryz.prog 22 = true := by kernel_rfl
theorem en23 : entered Tryz.prog 23 = true := by kernel_rfl
theorem en24 : entered Tryz.prog 24 = true := by kernel_rfl
theorem en25 : entered Tryz.prog 25 = true := by kernel_rfl
theorem en26 : entered Tryz.prog 26 = true := by kernel_rfl
theorem en27 : entered Tryz.prog 27 = true := by kernel_rfl
theorem en28 : entered Tryz.prog 28 = true := by kernel_rfl
theorem en29 : entered Tryz.prog 29 = true := by kernel_rfl
theorem en30 : entered Tryz.prog 30 = true := by kernel_rfl
theorem en31 : entered Tryz.prog 31 = true := by kernel_rfl
theorem en32 : entered Tryz.prog 32 = true := by kernel_rfl
theorem en33 : entered Tryz.prog 33 = true := by kernel_rfl
theorem en34 : entered Tryz.prog 34 = true := by kernel_rfl
theorem en35 : entered Tryz.prog 35 = true := by kernel_rfl
theorem en36 : entered Tryz.prog 36 = true := by kernel_rfl
theorem en37 : entered Tryz.prog 37 = true := by kernel_rfl
theorem en38 : entered Tryz.prog 38 = true := by kernel_rfl
theorem en39 : entered Tryz.prog 39 = true := by kernel_rfl
theorem en40 : entered Tryz.prog 40 = true := by kernel_rfl
theorem en41 : entered Tryz.prog 41 = true := by kernel_rfl
theorem en42 : entered Tryz.prog 42 = true := by kernel_rfl
theorem en43 : entered Tryz.prog 43 = true := by kernel_rfl
theorem en44 : entered Tryz.prog 44 = true := by kernel_rfl
theorem en45 : entered Tryz.prog 45 = true := by kernel_rfl
theorem en46 : entered Tryz.prog 46 = true := by kernel_rfl
theorem en47 : entered Tryz.prog 47 = true := by kernel_rfl
theorem en48 : entered Tryz.prog 48 = true := by kernel_rfl
theorem en49 : entered Tryz.prog 49 = true := by kernel_rfl
theorem en50 : entered Tryz.prog 50 = true := by kernel_rfl
theorem en51 : entered Tryz.prog 51 = true := by kernel_rfl
theorem en52 : entered Tryz.prog 52 = true := by kernel_rfl
theorem en53 : entered Tryz.prog 53 = true := by kernel_rfl
theorem en54 : entered Tryz.prog 54 = true := by kernel_rfl
theorem en55 : entered Tryz.prog 55 = true := by kernel_rfl
theorem en56 : entered Tryz.prog 56 = true := by kernel_rfl
theorem en57 : entered Tryz.prog 57 = true := by kernel_rfl
theorem en58 : entered Tryz.prog 58 = true := by kernel_rfl
theorem en59 : entered Tryz.prog 59 = true := by kernel_rfl
theorem en60 : entered Tryz.prog 60 = true := by kernel_rfl
theorem en61 : entered Tryz.prog 61 = true := by kernel_rfl
theorem en62 : entered Tryz.prog 62 = true := by kernel_rfl
theorem en63 : entered Tryz.prog 63 = true := by kernel_rfl
theorem en64 : entered Tryz.prog 64 = true := by kernel_rfl
theorem en65 : entered Tryz.prog 65 = true := by kernel_rfl
theorem en66 : entered Tryz.prog 66 = true := by kernel_rfl
theorem en67 : entered Tryz.prog 67 = true := by kernel_rfl
theorem en68 : entered Tryz.prog 68 = true := by kernel_rfl
theorem en69 : entered Tryz.prog 69 = true := by kernel_rfl
theorem en70 : entered Tryz.prog 70 = true := by kernel_rfl
theorem en71 : entered Tryz.prog 71 = true := by kernel_rfl
theorem en72 : entered Tryz.prog 72 = true := by kernel_rfl
theorem en73 : entered Tryz.prog 73 = true := by kernel_rfl
theorem en74 : entered Tryz.prog 74 = true := by kernel_rfl
theorem en75 : entered Tryz.prog 75 = true := by kernel_rfl
theorem en76 : entered Tryz.prog 76 = true := by kernel_rfl
theorem en77 : entered Tryz.prog 77 = true := by kernel_rfl
theorem en78 : entered Tryz.prog 78 = true := by kernel_rfl
theorem en79 : entered Tryz.prog 79 = true := by kernel_rfl
theorem en80 : entered Tryz.prog 80 = true := by kernel_rfl
theorem en81 : entered Tryz.prog 81 = true := by kernel_rfl
theorem en82 : entered Tryz.prog 82 = true := by kernel_rfl
theorem en83 : entered Tryz.prog 83 = true := by kernel_rfl
theorem en84 : entered Tryz.prog 84 = true := by kernel_rfl
theorem en85 : entered Tryz.prog 85 = true := by kernel_rfl
theorem en86 : entered Tryz.prog 86 = true := by kernel_rfl
theorem en87 : entered Tryz.prog 87 = true := by kernel_rfl
theorem en88 : entered Tryz.prog 88 = true := by kernel_rfl
theorem en89 : entered Tryz.prog 89 = true := by kernel_rfl
theorem en90 : entered Tryz.prog 90 = true := by kernel_rfl
theorem en91 : entered Tryz.prog 91 = true := by kernel_rfl
theorem en92 : entered Tryz.prog 92 = true := by kernel_rfl
theorem en93 : entered Tryz.prog 93 = true := by kernel_rfl
theorem en94 : entered Tryz.prog 94 = true := by kernel_rfl
theorem en95 : entered Tryz.prog 95 = true := by kernel_rfl
theorem en96 : entered Tryz.prog 96 = true := by kernel_rfl
theorem en97 : entered Tryz.prog 97 = true := by kernel_rfl
theorem en98 : entered Tryz.prog 98 = true := by kernel_rfl
theorem en99 : entered Tryz.prog 99 = true := by kernel_rfl
theorem fo104_0 : foOf Tryz.prog 104 0 = some 0 := by kernel_rfl
theorem fo104_1 : foOf Tryz.prog 104 1 = some 1 := by kernel_rfl
theorem fo104_2 : foOf Tryz.prog 104 2 = some 2 := by kernel_rfl
theorem fo104_3 : foOf Tryz.prog 104 3 = some 3 := by kernel_rfl
theorem fo123_0 : foOf Tryz.prog 123 0 = some 0 := by kernel_rfl
theorem fo123_1 : foOf Tryz.prog 123 1 = some 1 := by kernel_rfl
theorem fo123_2 : foOf Tryz.prog 123 2 = some 2 := by kernel_rfl
theorem fo123_3 : foOf Tryz.prog 123 3 = some 3 := by kernel_rfl
theorem fo133_0 : foOf Tryz.prog 133 0 = some 0 := by kernel_rfl
theorem fo133_1 : foOf Tryz.prog 133 1 = some 1 := by kernel_rfl
theorem fo167_0 : foOf Tryz.prog 167 0 = some 0 := by kernel_rfl
theorem fo169_0 : foOf Tryz.prog 169 0 = some 0 := by kernel_rfl
theorem fo169_1 : foOf Tryz.prog 169 1 = some 1 := by kernel_rfl
theorem fo169_2 : foOf Tryz.prog 169 2 = some 2 := by kernel_rfl
theorem fo187_0 : foOf Tryz.prog 187 0 = some 0 := by kernel_rfl
theorem fo187_1 : foOf Tryz.prog 187 1 = some 1 := by kernel_rfl
theorem fo26_0 : foOf Tryz.prog 26 0 = some 0 := by kernel_rfl
theorem fo26_1 : foOf Tryz.prog 26 1 = some 1 := by kernel_rfl
theorem fo26_2 : foOf Tryz.prog 26 2 = some 2 := by kernel_rfl
theorem fo29_0 : foOf Tryz.prog 29 0 = some 0 := by kernel_rfl
theorem fo29_1 : foOf Tryz.prog 29 1 = some 1 := by kernel_rfl
theorem fo29_2 : foOf Tryz.prog 29 2 = some 2 := by kernel_rfl
theorem fo31_0 : foOf Tryz.prog 31 0 = some 0 := by kernel_rfl
theorem fo49_0 : foOf Tryz.prog 49 0 = some 0 := by kernel_rfl
theorem fo49_1 : foOf Tryz.prog 49 1 = some 1 := by kernel_rfl
theorem fo49_2 : foOf Tryz.prog 49 2 = some 2 := by kernel_rfl
theorem fo49_3 : foOf Tryz.prog 49 3 = some 3 := by kernel_rfl
theorem fo49_4 : foOf Tryz.prog 49 4 = some 4 := by kernel_rfl
theorem fo52_0 : foOf Tryz.prog 52 0 = some 0 := by kernel_rfl
theorem fo52_1 : foOf Tryz.prog 52 1 = some 1 := by kernel_rfl
theorem fo52_2 : foOf Tryz.prog 52 2 = some 2 := by kernel_rfl
theorem fo52_3 : foOf Tryz.prog 52 3 = some 3 := by kernel_rfl
theorem fo52_4 : foOf Tryz.prog 52 4 = some 4 := by kernel_rfl
theorem fo52_5 : foOf Tryz.prog 52 5 = some 5 := by kernel_rfl
theorem fo52_6 : foOf Tryz.prog 52 6 = some 6 := by kernel_rfl
theorem fo52_7 : foOf Tryz.prog 52 7 = some 7 := by kernel_rfl
theorem fo52_8 : foOf Tryz.prog 52 8 = some 8 := by kernel_rfl
theorem fo54_0 : foOf Tryz.prog 54 0 = some 0 := by kernel_rfl
theorem fo54_1 : foOf Tryz.prog 54 1 = some 1 := by kernel_rfl
theorem fo70_0 : foOf Tryz.prog 70 0 = some 0 := by kernel_rfl
theorem fo70_1 : foOf Tryz.prog 70 1 = some 1 := by kernel_rfl
theorem fo79_0 : foOf Tryz.prog 79 0 = some 0 := by kernel_rfl
theorem fo79_1 : foOf Tryz.prog 79 1 = some 1 := by kernel_rfl
theorem fo86_0 : foOf Tryz.prog 86 0 = some 0 := by kernel_rfl
theorem fo86_1 : foOf Tryz.prog 86 1 = some 1 := by kernel_rfl
theorem fo90_0 : foOf Tryz.prog 90 0 = some 0 := by kernel_rfl
theorem fo90_1 : foOf Tryz.prog 90 1 = some 1 := by kernel_rfl
theorem fo90_2 : foOf Tryz.prog 90 2 = some 2 := by kernel_rfl
theorem fo90_3 : foOf Tryz.prog 90 3 = some 3 := by kernel_rfl
theorem fo90_4 : foOf Tryz.prog 90 4 = some 259 := by kernel_rfl
theorem pl104 : placesOf Tryz.prog 104 = some [(0, 1), (1, 1), (2, 1), (3, 1)] := by kernel_rfl
theorem pl123 : placesOf Tryz.prog 123 = some [(0, 1), (1, 1), (2, 1), (3, 1)] := by kernel_rfl
theorem pl133 : placesOf Tryz.prog 133 = some [(0, 1), (1, 1)] := by kernel_rfl
theorem pl167 : placesOf Tryz.prog 167 = some [(0, 1)] := by kernel_rfl
theorem pl169 : placesOf Tryz.prog 169 = some [(0, 1), (1, 1), (2, 1)] := by kernel_rfl
theorem pl187 : placesOf Tryz.prog 187 = some [(0, 1), (1, 1)] := by kernel_rfl
theorem pl26 : placesOf Tryz.prog 26 = some [(0, 1), (1, 1), (2, 1)] := by kernel_rfl
theorem pl29 : placesOf Tryz.prog 29 = some [(0, 1), (1, 1), (2, 1)] := by kernel_rfl
theorem pl31 : placesOf Tryz.prog 31 = some [(0, 1)] := by kernel_rfl
theorem pl40 : placesOf Tryz.prog 40 = some [(0, 1)] := by kernel_rfl
theorem pl49 : placesOf Tryz.prog 49 = some [(0, 1), (1, 1), (2, 1), (3, 1), (4, 1)] := by kernel_rfl
theorem pl52 : placesOf Tryz.prog 52 = some [(0, 1), (1, 1), (2, 1), (3, 1), (4, 1), (5, 1), (6, 1), (7, 1), (8, 1)] := by kernel_rfl
theorem pl70 : placesOf Tryz.prog 70 = some [(0, 1), (1, 1)] := by kernel_rfl
theorem pl79 : placesOf Tryz.prog 79 = some [(0, 1), (1, 1)] := by kernel_rfl
theorem pl86 : placesOf Tryz.prog 86 = some [(0, 1), (1, 1)] := by kernel_rfl
theorem pl90 : placesOf Tryz.prog 90 = some [(0, 1), (1, 1), (2, 1), (3, 256), (259, 1)] := by kernel_rfl
theorem sz104 : szOf Tryz.prog 104 = some 4 := by kernel_rfl
theorem sz123 : szOf Tryz.prog 123 = some 4 := by kernel_rfl
theorem sz167 : szOf Tryz.prog 167 = some 1 := by kernel_rfl
theorem sz24 : szOf Tryz.prog 24 = some 1 := by kernel_rfl
theorem sz26 : szOf Tryz.prog 26 = some 3 := by kernel_rfl
theorem sz27 : szOf Tryz.prog 27 = some 1 := by kernel_rfl
theorem sz29 : szOf Tryz.prog 29 = some 3 := by kernel_rfl
theorem sz3 : szOf Tryz.prog 3 = some 1 := by kernel_rfl
theorem sz31 : szOf Tryz.prog 31 = some 1 := by kernel_rfl
theorem sz35 : szOf Tryz.prog 35 = some 1 := by kernel_rfl
theorem sz4 : szOf Tryz.prog 4 = some 1 := by kernel_rfl
theorem sz47 : szOf Tryz.prog 47 = some 1 := by kernel_rfl
theorem sz49 : szOf Tryz.prog 49 = some 5 := by kernel_rfl
theorem sz5 : szOf Tryz.prog 5 = some 1 := by kernel_rfl
theorem sz52 : szOf Tryz.prog 52 = some 9 := by kernel_rfl
theorem sz54 : szOf Tryz.prog 54 = some 10 := by kernel_rfl
theorem sz70 : szOf Tryz.prog 70 = some 2 := by kernel_rfl
theorem sz84 : szOf Tryz.prog 84 = some 1 := by kernel_rfl
theorem sz86 : szOf Tryz.prog 86 = some 2 := by kernel_rfl
theorem sz87 : szOf Tryz.prog 87 = some 32 := by kernel_rfl
theorem sz9 : szOf Tryz.prog 9 = some 1 := by kernel_rfl
theorem ze102 : zeroOf Tryz.prog 102 = some (.pointer none) := by kernel_rfl
theorem ze104 : zeroOf Tryz.prog 104 = some (.agg #[.bool false, .slice none 0 0, .string ByteArray.empty, .int .i64 0]) := by kernel_rfl
theorem ze123 : zeroOf Tryz.prog 123 = some (.agg #[.int .i64 0, .int .i64 0, .string ByteArray.empty, .bool false]) := by kernel_rfl
theorem ze131 : zeroOf Tryz.prog 131 = some (.pointer none) := by kernel_rfl
theorem ze133 : zeroOf Tryz.prog 133 = some (.agg #[.pointer none, .int .i64 0]) := by kernel_rfl
theorem ze167 : zeroOf Tryz.prog 167 = some (.agg #[.map none]) := by kernel_rfl
theorem ze169 : zeroOf Tryz.prog 169 = some (.agg #[.bool false, .map none, .slice none 0 0]) := by kernel_rfl
theorem ze187 : zeroOf Tryz.prog 187 = some (.agg #[.string ByteArray.empty, .int .i64 0]) := by kernel_rfl
theorem ze24 : zeroOf Tryz.prog 24 = some (.slice none 0 0) := by kernel_rfl
theorem ze26 : zeroOf Tryz.prog 26 = some (.agg #[.string ByteArray.empty, .bool false, .int .i64 0]) := by kernel_rfl
theorem ze27 : zeroOf Tryz.prog 27 = some (.slice none 0 0) := by kernel_rfl
theorem ze29 : zeroOf Tryz.prog 29 = some (.agg #[.string ByteArray.empty, .bool false, .slice none 0 0]) := by kernel_rfl
theorem ze3 : zeroOf Tryz.prog 3 = some (.int .i64 0) := by kernel_rfl
theorem ze31 : zeroOf Tryz.prog 31 = some (.agg #[.slice none 0 0]) := by kernel_rfl
theorem ze35 : zeroOf Tryz.prog 35 = some (.int .i64 0) := by kernel_rfl
theorem ze4 : zeroOf Tryz.prog 4 = some (.bool false) := by kernel_rfl
theorem ze40 : zeroOf Tryz.prog 40 = some (.agg #[.slice none 0 0]) := by kernel_rfl
theorem ze47 : zeroOf Tryz.prog 47 = some (.slice none 0 0) := by kernel_rfl
theorem ze49 : zeroOf Tryz.prog 49 = some (.agg #[.int .i64 0, .int .i64 0, .int .i64 0, .slice none 0 0, .slice none 0 0]) := by kernel_rfl
theorem ze5 : zeroOf Tryz.prog 5 = some (.int .u8 0) := by kernel_rfl
theorem ze52 : zeroOf Tryz.prog 52 = some (.agg #[.int .i64 0, .string ByteArray.empty, .string ByteArray.empty, .int .i64 0, .int .i64 0, .int .i64 0, .bool false, .bool false, .slice none 0 0]) := by kernel_rfl
theorem ze62 : zeroOf Tryz.prog 62 = some (.agg #[.int .i64 0, .int .i64 0, .int .i64 0, .int .i64 0, .int .i64 0, .int .i64 0, .int .i64 0, .int .i64 0, .int .i64 0, .int .i64 0, .int .i64 0, .int .i64 0]) := by kernel_rfl
theorem ze70 : zeroOf Tryz.prog 70 = some (.agg #[.slice none 0 0, .slice none 0 0]) := by kernel_rfl
theorem ze79 : zeroOf Tryz.prog 79 = some (.agg #[.slice none 0 0, .bool false]) := by kernel_rfl
theorem ze86 : zeroOf Tryz.prog 86 = some (.agg #[.string ByteArray.empty, .bool false]) := by kernel_rfl
theorem ze9 : zeroOf Tryz.prog 9 = some (.string ByteArray.empty) := by kernel_rfl
theorem ze90 : zeroOf Tryz.prog 90 = some (.agg #[.nilIface, .pointer none, .map none, .string ByteArray.empty, .bool false, .string ByteArray.empty, .bool false, .string ByteArray.empty, .bool false, .string ByteArray.empty, .bool false, .string ByteArray.empty, .bool false, .string ByteArray.empty, .bool false, .string ByteArray.empty, .bool false, .string ByteArray.empty, .bool false, .string ByteArray.empty, .bool false, .string ByteArray.empty, .bool false, .string ByteArray.empty, .bool false, .string ByteArray.empty, .bool false, .string ByteArray.empty, .bool false, .string ByteArray.empty, .bool false, .string ByteArray.empty, .bool false, .string ByteArray.empty, .bool false, .string ByteArray.empty, .bool false, .string ByteArray.empty, .bool false, .string ByteArray.empty, .bool false, .string ByteArray.empty, .bool false, .string ByteArray.empty, .bool false, .string ByteArray.empty, .bool false, .string ByteArray.empty, .bool false, .string ByteArray.empty, .bool false, .string ByteArray.empty, .bool false, .string ByteArray.empty, .bool false, .string ByteArray.empty, .bool false, .string ByteArray.empty, .bool false, .string ByteArray.empty, .bool false, .string ByteArray.empty, .bool false, .string ByteArray.empty, .bool false, .string ByteArray.empty, .bool false, .string ByteArray.empty, .bool false, .string ByteArray.empty, .bool false, .string ByteArray.empty, .bool false, .string ByteArray.empty, .bool false, .string ByteArray.empty, .bool false, .string ByteArray.empty, .bool false, .string ByteArray.empty, .bool false, .string ByteArray.empty, .bool false, .string ByteArray.empty, .bool false, .string ByteArray.empty, .bool false, .string ByteArray.empty, .bool false, .string ByteArray.empty, .bool false, .string ByteArray.empty, .bool false, .string ByteArray.empty, .bool false, .string ByteArray.empty, .bool false, .string ByteArray.empty, .bool false, .string ByteArray.empty, .bool false, .string ByteArray.empty, .bool false, .string ByteArray.empty, .bool false, .string ByteArray.empty, .bool false, .string ByteArray.empty, .bool false, .string ByteArray.empty, .bool false, .string ByteArray.empty, .bool false, .string ByteArray.empty, .bool false, .string ByteArray.empty, .bool false, .string ByteArray.empty, .bool false, .string ByteArray.empty, .bool false, .string ByteArray.empty, .bool false, .string ByteArray.empty, .bool false, .string ByteArray.empty, .bool false, .string ByteArray.empty, .bool false, .string ByteArray.empty, .bool false, .string ByteArray.empty, .bool false, .string ByteArray.empty, .bool false, .string ByteArray.empty, .bool false, .string ByteArray.empty, .bool false, .string ByteArray.empty, .bool false, .string ByteArray.empty, .bool false, .string ByteArray.empty, .bool false, .string ByteArray.empty, .bool false, .string ByteArray.empty, .bool false, .string ByteArray.empty, .bool false, .string ByteArray.empty, .bool false, .string ByteArray.empty, .bool false, .string ByteArray.empty, .bool false, .string ByteArray.empty, .bool false, .string ByteArray.empty, .bool false, .string ByteArray.empty, .bool false, .string ByteArray.empty, .bool false, .string ByteArray.empty, .bool false, .string ByteArray.empty, .bool false, .string ByteArray.empty, .bool false, .string ByteArray.empty, .bool false, .string ByteArray.empty, .bool false, .string ByteArray.empty, .bool false, .string ByteArray.empty, .bool false, .string ByteArray.empty, .bool false, .string ByteArray.empty, .bool false, .string ByteArray.empty, .bool false, .string ByteArray.empty, .bool false, .string ByteArray.empty, .bool false, .string ByteArray.empty, .bool false, .string ByteArray.empty, .bool false, .string ByteArray.empty, .bool false, .string ByteArray.empty, .bool false, .string ByteArray.empty, .bool false, .string ByteArray.empty, .bool false, .string ByteArray.empty, .bool false, .string ByteArray.empty, .bool false, .string ByteArray.empty, .bool false, .string ByteArray.empty, .bool false, .string ByteArray.empty, .bool false, .string ByteArray.empty, .bool false, .string ByteArray.empty, .bool false, .string ByteArray.empty, .bool false, .string ByteArray.empty, .bool false, .string ByteArray.empty, .bool false, .string ByteArray.empty, .bool false, .string ByteArray.empty, .bool false, .string ByteArray.empty, .bool false, .string ByteArray.empty, .bool false, .string ByteArray.empty, .bool false, .string ByteArray.empty, .bool false, .string ByteArray.empty, .bool false, .string ByteArray.empty, .bool false, .string ByteArray.empty, .bool false, .string ByteArray.empty, .bool false, .string ByteArray.empty, .bool false, .string ByteArray.empty, .bool false, .string ByteArray.empty, .bool false, .string ByteArray.empty, .bool false, .string ByteArray.empty, .bool false, .string ByteArray.empty, .bool false, .string ByteArray.empty, .bool false, .string ByteArray.empty, .bool false, .string ByteArray.empty, .bool false, .int .i64 0]) := by kernel_rfl

end Go.Proofs.YtigfbpbnohkokaaGreat

namespace Go.Fw
open Go Go.RowKit
set_option linter.unusedVariables false
set_option linter.unusedSimpArgs false

/-! ## Facts of the tables, found by class -/
class LdC (P : Program) (t : Nat) : Prop where h : ∃ dd, P.underlying t = some dd ∧ aggD dd = false
class AgC (P : Program) (t : Nat) (k : outParam Nat) : Prop where h : ∃ dd, P.underlying t = some dd ∧ aggD dd = true ∧ szOf P t = some k
class SlC (P : Program) (t : Nat) (e m : outParam Nat) : Prop where h : P.underlying t = some (.slice e) ∧ szOf P e = some m
class SlY (P : Program) (t : Nat) : Prop where h : ∃ e, P.underlying t = some (.slice e)
class IfC (P : Program) (t : Nat) : Prop where h : ∃ dd, P.underlying t = some dd ∧ ∀ ms, dd ≠ .interface ms
class FoC (P : Program) (s f : Nat) (k : outParam Nat) : Prop where h : foOf P s f = some k
class SzC (P : Program) (t : Nat) (k : outParam Nat) : Prop where h : szOf P t = some k
class ZeC (P : Program) (t : Nat) (z : outParam Value) : Prop where h : zeroOf P t = some z
class PlC (P : Program) (t : Nat) (l : outParam (List (Nat × Nat))) : Prop where h : placesOf P t = some l
class EnC (P : Program) (f : Nat) : Prop where h : entered P f = true

/-! ## Operations that look at slots alone -/
def stepV (F : Env) : Op → Option Value
 | .move x => ev? F x
 | .assign x => ev? F x
 | .pick c x y => match ev? F c with
  | some (.bool true) => ev? F x
  | some (.bool false) => ev? F y
  | _ => none
 | .extract x ix => match ev? F x with
  | some (.tuple vs) => vs[ix]?
  | _ => none
 | .nilCheck x => match ev? F x with
  | some v => bif nilOK v then some v else none
  | none => none
 | _ => none

theorem stepV_run {P : Program} {n : Nat} {F : Env} {ds : List Deferred} {o : Oper} {v : Value} (h : stepV F o.op = some v) {a : Act} (hk : Knows n F ds a) (w : World) : (execOp a.eval o).run P w = .ok (.value v) w := by
 obtain ⟨d, op, ty, ps, af, g⟩ := o
 simp only at h
 cases op with
 | move x => simp only [stepV] at h; simp only [execOp, hk.eval h, Sem.run_pure]
 | assign x => simp only [stepV] at h; simp only [execOp, hk.eval h, Sem.run_pure]
 | pick c x y =>
  simp only [stepV] at h
  split at h
  ·rename_i hc; simp only [execOp, hk.eval h, hk.eval hc, asBool]; rfl
  ·rename_i hc; simp only [execOp, hk.eval h, hk.eval hc, asBool]; rfl
  ·cases h
 | extract x ix =>
  simp only [stepV] at h
  split at h
  ·rename_i vs hx; simp only [execOp, hk.eval hx, Instr.extract, h, Sem.run_bind, Sem.run_pure, Result.andThen_ok]
  ·cases h
 | nilCheck x =>
  simp only [stepV] at h
  split at h
  ·rename_i u hx
   cases hn : nilOK u with
   | false => rw [hn] at h; cases h
   | true =>
    rw [hn] at h; simp only [cond_true, Option.some.injEq] at h; subst h
    exact run_nilCheck_ok hn _ x rfl _ (hk.eval hx) w
  ·cases h
 | _ => simp [stepV] at h

def stepE (n : Nat) (ops : Array Oper) (F : Env) (o : Oper) : Option Env := match guardV ops F o.guard with
  | some true => bif dstOK n o.dst then (match stepV F o.op with
   | some v => some (putE F o.dst v)
   | none => none) else none
  | some false => bif dstOK n o.dst then some (putE F o.dst undef) else none
  | none => none

/-- What is to be done begins with this operation. -/
structure ExO (P : Program) (n : Nat) (ops : Array Oper) (B : Array Nat) (dr : Bool) (K : KT) (i : Nat) (m : Bool) (o : Oper) (s : List (Nat × Bool)) (F : Env) (ds : List Deferred) (T : List (Nat × (World → Prop))) (w : World) : Prop where
 out : ops[i]? = some o → Ex P n ops B dr K ((i, m) :: s) F ds T w

section
variable {P : Program} {n : Nat} {ops : Array Oper} {B : Array Nat} {dr : Bool} {K : KT} {s : List (Nat × Bool)} {F F' : Env} {ds : List Deferred} {T : List (Nat × (World → Prop))} {w : World} {i : Nat}
variable {d : Option Tmp} {ty : TypeId} {ps : String} {af : Array Edge} {g : Option (Nat × Bool)}

def nth : List Oper → Nat → Option Oper
 | o :: _, 0 => some o
 | _ :: r, i + 1 => nth r i
 | [], _ => none
theorem nth_get (l : List Oper) : ∀ (i : Nat) (o : Oper), nth l i = some o → l[i]? = some o := by
 induction l with
 | nil => intro i o h; cases h
 | cons a r ih =>
  intro i o h
  cases i with
  | zero => exact h
  | succ i => exact ih i o h
theorem Ex.at {m : Bool} {l : List Oper} {o : Oper} (ho : nth l i = some o) (h : ExO P n ⟨l⟩ B dr K i m o s F ds T w) : Ex P n ⟨l⟩ B dr K ((i, m) :: s) F ds T w := h.out (by simpa using nth_get l i o ho)

theorem y_pure {o : Oper} (hs : stepE n ops F o = some F') (h : Ex P n ops B dr K s F' ds T w) : ExO P n ops B dr K i false o s F ds T w := ⟨fun ho => by
 unfold stepE at hs
 split at hs
 ·rename_i hg
  cases hd : dstOK n o.dst with
  | false => rw [hd] at hs; cases hs
  | true =>
   rw [hd] at hs; simp only [cond_true] at hs
   split at hs
   ·rename_i v hv
    simp only [Option.some.injEq] at hs; subst hs
    exact Ex.pure_ ho hg hd v (fun a hk w' => stepV_run hv hk w') h
   ·cases hs
 ·rename_i hg
  cases hd : dstOK n o.dst with
  | false => rw [hd] at hs; cases hs
  | true =>
   rw [hd] at hs; simp only [cond_true, Option.some.injEq] at hs; subst hs
   exact Ex.skip_ ho hg hd h
 ·cases hs⟩

def skipE (n : Nat) (ops : Array Oper) (F : Env) (o : Oper) : Option Env := match guardV ops F o.guard with
  | some false => bif dstOK n o.dst then some (putE F o.dst undef) else none
  | _ => none
theorem y_skipm {o : Oper} (hs : skipE n ops F o = some F') (h : Ex P n ops B dr K s F' ds T w) : ExO P n ops B dr K i true o s F ds T w := ⟨fun ho => by
 unfold skipE at hs
 split at hs
 ·rename_i hg
  cases hd : dstOK n o.dst with
  | false => rw [hd] at hs; cases hs
  | true =>
   rw [hd] at hs; simp only [cond_true, Option.some.injEq] at hs; subst hs
   exact Ex.skipm_ ho hg hd h
 ·cases hs⟩

/-- A list, laid out. -/
inductive LEq : List Value → List Value → Prop
 | nil {l : List Value} (h : l = []) : LEq l []
 | cons {l r r' : List Value} {a : Value} (h : l = a :: r) (h2 : LEq r r') : LEq l (a :: r')
 | refl (l : List Value) : LEq l l
theorem LEq.eq {l l' : List Value} (h : LEq l l') : l = l' := by
 induction h with
 | nil h => exact h
 | cons h _ ih => rw [h, ih]
 | refl => rfl

/-! ## Steps with facts of the tables -/
theorem y_fa {s0 f : Nat} {x : Operand} {b off k : Nat} (hq : (guardV ops F g, dstOK n d, ev? F x) = (some true, true, some (.pointer (some ⟨b, off, none⟩)))) [hf : FoC P s0 f k] (h : Ex P n ops B dr K s (putE F d (.pointer (some ⟨b, off + k, none⟩))) ds T w) : ExO P n ops B dr K i false ⟨d, .fieldAddr s0 x f, ty, ps, af, g⟩ s F ds T w := ExO.mk fun ho =>
 x_fa ho (congrArg (·.1) hq) (congrArg (·.2.1) hq) hf.h (congrArg (·.2.2) hq) h

theorem y_ld {t : Nat} {x : Operand} {b off : Nat} {v : Value} {cs : List Value} {Tb : Nat} {fr : Nat × Nat} (hx : ev? F x = some (.pointer (some ⟨b, off, none⟩))) (hb : w.heap[b]? = some (.cells cs.toArray Tb fr)) (hv : cs[off]? = some v) (hq : (guardV ops F g, dstOK n d) = (some true, true)) [hu : LdC P t] (h : Ex P n ops B dr K s (putE F d v) ds (bif dr then addT dr i (fun w' => w'.cell? ⟨b, off, none⟩ = some v) T else T) w) : ExO P n ops B dr K i false ⟨d, .load t x, ty, ps, af, g⟩ s F ds T w := ExO.mk fun ho => by
 obtain ⟨dd, h1, h2⟩ := hu.h
 refine x_ld ho (congrArg (·.1) hq) (congrArg (·.2) hq) h1 h2 hx (cell_of hb hv) ?_
 cases dr <;> exact h
theorem y_ldA {t : Nat} {x : Operand} {b off m : Nat} {cs l : List Value} {Tb : Nat} {fr : Nat × Nat} (hx : ev? F x = some (.pointer (some ⟨b, off, none⟩))) (hb : w.heap[b]? = some (.cells cs.toArray Tb fr)) [hu : AgC P t m] (hv : LEq ((cs.drop off).take m) l) (hl : Nat.beq l.length m = true) (h0 : Nat.blt 0 m = true) (hq : (guardV ops F g, dstOK n d) = (some true, true)) (h : Ex P n ops B dr K s (putE F d (.agg l.toArray)) ds (bif dr then addT dr i (fun w' => RowAt w' b off l) T else T) w) : ExO P n ops B dr K i false ⟨d, .load t x, ty, ps, af, g⟩ s F ds T w := ExO.mk fun ho => by
 obtain ⟨dd, h1, h2, h3⟩ := hu.h
 have e := Nat.eq_of_beq_eq_true hl
 refine x_ldA l ho (congrArg (·.1) hq) (congrArg (·.2) hq) h1 h2 (by rw [e]; exact h3) (by rw [e]; exact h0) hx ⟨_, _, _, hb, by rw [e]; simpa using hv.eq⟩ ?_
 cases dr <;> exact h
theorem y_done {Q : Exit → Act → World → Prop} (h : At n Q .normal F ds w) (hK : ∀ F' w', At n Q .normal F' ds w' → ∀ T, K F' T w') : Ex P n ops B dr K [] F ds T w := Ex.done (hK _ _ h)
end

/-! ## Regions in the text's order -/
def KN (n : Nat) (ds : List Deferred) (Q : Exit → Act → World → Prop) : KT := fun F' _ w' => At n Q .normal F' ds w'
def isMov (o : Oper) : Bool := match o.op with
 | .box .. | .alloc .. | .store .. | .mapUpdate .. | .buildSlice .. | .makeSlice .. | .makeMap .. | .insert .. | .mapEntry .. | .entryStore .. | .range .. | .next .. | .entry .. | .panic .. | .defer .. | .send .. | .go .. => true
 | .call c => match c.callee with
  | .builtin b => match b with
   | .len | .cap | .min | .max => false
   | _ => true
  | _ => true
 | _ => false
def idx : List Nat := 0 :: 1 :: 2 :: 3 :: 4 :: 5 :: 6 :: 7 :: 8 :: 9 :: 10 :: 11 :: 12 :: 13 :: 14 :: 15 :: 16 :: 17 :: 18 :: 19 :: 20 :: 21 :: 22 :: 23 :: 24 :: 25 :: 26 :: 27 :: 28 :: 29 :: 30 :: 31 :: 32 :: 33 :: 34 :: 35 :: 36 :: 37 :: 38 :: 39 :: 40 :: 41 :: 42 :: 43 :: 44 :: 45 :: 46 :: 47 :: 48 :: 49 :: 50 :: 51 :: 52 :: 53 :: 54 :: 55 :: 56 :: 57 :: 58 :: 59 :: 60 :: 61 :: 62 :: 63 :: 64 :: 65 :: 66 :: 67 :: 68 :: 69 :: 70 :: 71 :: 72 :: 73 :: 74 :: 75 :: 76 :: 77 :: 78 :: 79 :: 80 :: 81 :: 82 :: 83 :: 84 :: 85 :: 86 :: 87 :: 88 :: 89 :: 90 :: 91 :: 92 :: 93 :: 94 :: 95 :: 96 :: 97 :: 98 :: 99 :: 100 :: 101 :: 102 :: 103 :: 104 :: 105 :: 106 :: 107 :: 108 :: 109 :: 110 :: 111 :: 112 :: 113 :: 114 :: 115 :: 116 :: 117 :: 118 :: 119 :: 120 :: 121 :: 122 :: 123 :: 124 :: 125 :: 126 :: 127 :: 128 :: 129 :: 130 :: 131 :: 132 :: 133 :: 134 :: 135 :: 136 :: 137 :: 138 :: 139 :: 140 :: 141 :: 142 :: 143 :: 144 :: 145 :: 146 :: 147 :: 148 :: 149 :: 150 :: 151 :: 152 :: 153 :: 154 :: 155 :: 156 :: 157 :: 158 :: 159 :: []
def schedZ : List Nat → List Oper → List (Nat × Bool)
 | i :: is, o :: os => (i, isMov o) :: schedZ is os
 | _, _ => []
section
variable {P : Program} {n : Nat} {ro : Option Nat} {ops : Array Oper} {B : Array Nat} {dr : Bool} {Q : Exit → Act → World → Prop} {F : Env} {ds : List Deferred} {T : List (Nat × (World → Prop))} {w : World}
def noCv : List Oper → Bool
 | [] => true
 | o :: r => match o.op with
  | .convert .. => false
  | _ => noCv r
theorem y_reg {id : Nat} {l : List Oper} (hc : noCv l = true) (hs : plainOK ⟨l⟩ (schedZ idx l) = true) (h : Ex P n ⟨l⟩ #[] false (KN n ds Q) (schedZ idx l) F ds [] w) : W P n ro (.region id ⟨l⟩ false) Q F ds w :=
 W.reg _ hs fun K hK => Ex.mk fun a TW hk hf => by
  have h1 := h.out a TW hk hf
  simp only [cond_false] at h1 ⊢
  have key : ∀ (s : List (Nat × Bool)) (a : Act) (w : World), runL P ⟨l⟩ (fin n ds (KN n ds Q)) s a w → runL P ⟨l⟩ (fin n ds K) s a w := by
   intro s
   induction s with
   | nil => rintro a w ⟨F', hk, hq⟩; exact ⟨F', hk, fun T => hK _ _ (hq T) T⟩
   | cons x s ih =>
    intro a w h
    exact stA_mono (fun a' w' h' => ih _ _ h') h
  exact key _ _ _ h1
theorem y_fin (h : At n Q .normal F ds w) : Ex P n ops B dr (KN n ds Q) [] F ds T w := Ex.done fun _ => h
end

/-! ## Counted steps -/
structure Cn (n : Nat) : Prop where mk' ::
theorem Cn.dec {n : Nat} (h : Cn (n + 1)) : Cn n := Cn.mk'
class PtC (P : Program) (t : Nat) : Prop where h : ∃ e, P.underlying t = some (.pointer e)
class MpC (P : Program) (t : Nat) : Prop where h : ∃ k e, P.underlying t = some (.map k e)
class StC (P : Program) (t : Nat) : Prop where h : P.underlying t = some .string
class BoC (P : Program) (t : Nat) : Prop where h : P.underlying t = some .bool

def cmpI (o : BinOp) (a b : Int) : Option Bool := match o with
 | .lss => some (decide (a < b))
 | .leq => some (decide (a ≤ b))
 | .gtr => some (decide (a > b))
 | .geq => some (decide (a ≥ b))
 | .eql => some (a == b)
 | .neq => some (a != b)
 | _ => none
section
variable {P : Program} {n : Nat} {ops : Array Oper} {B : Array Nat} {dr : Bool} {K : KT} {s : List (Nat × Bool)} {F F' : Env} {ds : List Deferred} {T : List (Nat × (World → Prop))} {w : World} {i : Nat}
variable {d : Option Tmp} {ty : TypeId} {ps : String} {af : Array Edge} {g : Option (Nat × Bool)} {t t2 : Nat} {x y : Operand}

theorem y_cmp {op : BinOp} {k : IntKind} {a0 b0 : Int} {r : Bool} (hx : (ev? F x, ev? F y) = (some (.int k a0), some (.int k b0))) (hr : cmpI op a0 b0 = some r) (hq : (guardV ops F g, dstOK n d) = (some true, true)) (h : Ex P n ops B dr K s (putE F d (.bool r)) ds T w) : ExO P n ops B dr K i false ⟨d, .binOp op t x y t2, ty, ps, af, g⟩ s F ds T w := ExO.mk fun ho => by
 have hg := congrArg (·.1) hq; have hd := congrArg (·.2) hq; have h1 := congrArg (·.1) hx; have h2 := congrArg (·.2) hx
 cases op <;> simp only [cmpI, Option.some.injEq, reduceCtorEq] at hr
 ·exact x_eqi _ ho hg hd h1 h2 hr h
 ·exact x_nei _ ho hg hd h1 h2 hr h
 ·exact x_lss _ ho hg hd h1 h2 hr h
 ·exact x_leq _ ho hg hd h1 h2 hr h
 ·exact x_gtr _ ho hg hd h1 h2 hr h
 ·exact x_geq _ ho hg hd h1 h2 hr h
theorem y_pe (r : Bool) {p : Option Addr}  (hx : (ev? F x, ev? F y) = (some (.pointer p), some (.pointer none))) (hr : p.isNone = r) (hq : (guardV ops F g, dstOK n d) = (some true, true)) [hu : PtC P t] (h : Ex P n ops B dr K s (putE F d (.bool r)) ds T w) : ExO P n ops B dr K i false ⟨d, .binOp .eql t x y t2, ty, ps, af, g⟩ s F ds T w := ExO.mk fun ho => by
 obtain ⟨e, hu⟩ := hu.h
 exact x_eqpn r ho (congrArg (·.1) hq) (congrArg (·.2) hq) hu (congrArg (·.1) hx) (congrArg (·.2) hx) hr h
theorem y_pn (r : Bool) {p : Option Addr}  (hx : (ev? F x, ev? F y) = (some (.pointer p), some (.pointer none))) (hr : (!p.isNone) = r) (hq : (guardV ops F g, dstOK n d) = (some true, true)) [hu : PtC P t] (h : Ex P n ops B dr K s (putE F d (.bool r)) ds T w) : ExO P n ops B dr K i false ⟨d, .binOp .neq t x y t2, ty, ps, af, g⟩ s F ds T w := ExO.mk fun ho => by
 obtain ⟨e, hu⟩ := hu.h
 exact x_nepn r ho (congrArg (·.1) hq) (congrArg (·.2) hq) hu (congrArg (·.1) hx) (congrArg (·.2) hx) hr h
theorem y_se (r : Bool) {p : Option Addr} {l0 c0 : Nat} (hx : (ev? F x, ev? F y) = (some (.slice p l0 c0), some (.slice none 0 0))) (hr : p.isNone = r) (hq : (guardV ops F g, dstOK n d) = (some true, true)) [hu : SlY P t] (h : Ex P n ops B dr K s (putE F d (.bool r)) ds T w) : ExO P n ops B dr K i false ⟨d, .binOp .eql t x y t2, ty, ps, af, g⟩ s F ds T w := ExO.mk fun ho => by
 obtain ⟨e, hu⟩ := hu.h
 exact x_eqsn r ho (congrArg (·.1) hq) (congrArg (·.2) hq) hu (congrArg (·.1) hx) (congrArg (·.2) hx) hr h
theorem y_sn (r : Bool) {p : Option Addr} {l0 c0 : Nat} (hx : (ev? F x, ev? F y) = (some (.slice p l0 c0), some (.slice none 0 0))) (hr : (!p.isNone) = r) (hq : (guardV ops F g, dstOK n d) = (some true, true)) [hu : SlY P t] (h : Ex P n ops B dr K s (putE F d (.bool r)) ds T w) : ExO P n ops B dr K i false ⟨d, .binOp .neq t x y t2, ty, ps, af, g⟩ s F ds T w := ExO.mk fun ho => by
 obtain ⟨e, hu⟩ := hu.h
 exact x_nesn r ho (congrArg (·.1) hq) (congrArg (·.2) hq) hu (congrArg (·.1) hx) (congrArg (·.2) hx) hr h
theorem y_me (r : Bool) {p : Option Nat}  (hx : (ev? F x, ev? F y) = (some (.map p), some (.map none))) (hr : p.isNone = r) (hq : (guardV ops F g, dstOK n d) = (some true, true)) [hu : MpC P t] (h : Ex P n ops B dr K s (putE F d (.bool r)) ds T w) : ExO P n ops B dr K i false ⟨d, .binOp .eql t x y t2, ty, ps, af, g⟩ s F ds T w := ExO.mk fun ho => by
 obtain ⟨k, e, hu⟩ := hu.h
 exact x_eqmn r ho (congrArg (·.1) hq) (congrArg (·.2) hq) hu (congrArg (·.1) hx) (congrArg (·.2) hx) hr h
theorem y_mn (r : Bool) {p : Option Nat}  (hx : (ev? F x, ev? F y) = (some (.map p), some (.map none))) (hr : (!p.isNone) = r) (hq : (guardV ops F g, dstOK n d) = (some true, true)) [hu : MpC P t] (h : Ex P n ops B dr K s (putE F d (.bool r)) ds T w) : ExO P n ops B dr K i false ⟨d, .binOp .neq t x y t2, ty, ps, af, g⟩ s F ds T w := ExO.mk fun ho => by
 obtain ⟨k, e, hu⟩ := hu.h
 exact x_nemn r ho (congrArg (·.1) hq) (congrArg (·.2) hq) hu (congrArg (·.1) hx) (congrArg (·.2) hx) hr h

theorem y_not (r : Bool) {b : Bool} (hx : ev? F x = some (.bool b)) (hr : (!b) = r) (hq : (guardV ops F g, dstOK n d) = (some true, true)) (h : Ex P n ops B dr K s (putE F d (.bool r)) ds T w) : ExO P n ops B dr K i false ⟨d, .unOp .not t x, ty, ps, af, g⟩ s F ds T w := ExO.mk fun ho =>
 x_not r ho (congrArg (·.1) hq) (congrArg (·.2) hq) hx hr h
theorem y_eqb (r : Bool) {a b : Bool} (hx : (ev? F x, ev? F y) = (some (.bool a), some (.bool b))) (hr : (a == b) = r) (hq : (guardV ops F g, dstOK n d) = (some true, true)) [hu : BoC P t] (h : Ex P n ops B dr K s (putE F d (.bool r)) ds T w) : ExO P n ops B dr K i false ⟨d, .binOp .eql t x y t2, ty, ps, af, g⟩ s F ds T w := ExO.mk fun ho =>
 x_eqb r ho (congrArg (·.1) hq) (congrArg (·.2) hq) hu.h (congrArg (·.1) hx) (congrArg (·.2) hx) hr h
theorem y_len {e m : Nat} {p : Option Addr} {len cp : Nat} (hx : ev? F x = some (.slice p len cp)) (hq : (guardV ops F g, dstOK n d) = (some true, true)) [hu : SlC P t e m] (h : Ex P n ops B dr K s (putE F d (.int .i64 (len : Int))) ds T w) : ExO P n ops B dr K i false ⟨d, .call ⟨.builtin .len, #[x], #[t]⟩, ty, ps, af, g⟩ s F ds T w := ExO.mk fun ho =>
 x_len ho (congrArg (·.1) hq) (congrArg (·.2) hq) rfl hu.h.1 hx h
theorem y_lenS {a : List UInt8} (hx : ev? F x = some (.string (strB a))) (hq : (guardV ops F g, dstOK n d) = (some true, true)) [hu : StC P t] (h : Ex P n ops B dr K s (putE F d (.int .i64 (a.length : Int))) ds T w) : ExO P n ops B dr K i false ⟨d, .call ⟨.builtin .len, #[x], #[t]⟩, ty, ps, af, g⟩ s F ds T w := ExO.mk fun ho =>
 x_lenS ho (congrArg (·.1) hq) (congrArg (·.2) hq) rfl hu.h hx h
theorem y_build {parts : Array (Nat × Operand)} {vs : List (Nat × Value)} {pl : List (Nat × Nat)} {z : Value} {Z cells : List Value} (hx : evps? F parts.toList = some vs) (hq : (guardV ops F g, dstOK n d) = (some true, true)) [hp : PlC P t pl] [hz : ZeC P t z] (hZ : z.cells = Z.toArray) (hf : Instr.fill (fun i => pl[i]?) Z.toArray vs = some cells.toArray) (h : Ex P n ops B dr K s (putE F d (.agg cells.toArray)) ds T w) : ExO P n ops B dr K i false ⟨d, .build t parts, ty, ps, af, g⟩ s F ds T w := ExO.mk fun ho =>
 x_build cells ho (congrArg (·.1) hq) (congrArg (·.2) hq) hp.h hz.h hx hZ hf h
theorem y_mkif {v : Value} (hx : ev? F x = some v) (hq : (guardV ops F g, dstOK n d) = (some true, true)) [hu : IfC P t] (h : Ex P n ops B dr K s (putE F d (.iface t v)) ds T w) : ExO P n ops B dr K i false ⟨d, .makeInterface t x, ty, ps, af, g⟩ s F ds T w := ExO.mk fun ho => by
 obtain ⟨dd, h1, h2⟩ := hu.h
 exact x_mkif ho (congrArg (·.1) hq) (congrArg (·.2) hq) hx h1 h2 h

/-! ## Steps that make or turn a block -/
section
theorem y_box {v : Value} {cs : List Value} {C : Nat → World → Prop} (hx : ev? F x = some v) (hc : v.cells = cs.toArray) (hq : (guardV ops F g, dstOK n d) = (some true, true)) (hM : ∀ b w1, b = w.heap.size → w1 = w.alloc (.cells cs.toArray t) → C b w1) (h : ∀ b w1, C b w1 → Ex P n ops B dr K s (putE F d (.pointer (some ⟨b, 0, none⟩))) ds [] w1) : ExO P n ops B dr K i true ⟨d, .box t x, ty, ps, af, g⟩ s F ds [] w := ExO.mk fun ho =>
 x_box cs ho (congrArg (·.1) hq) (congrArg (·.2) hq) hx hc fun b w1 hb hw => ⟨trivial, h b w1 (hM b w1 hb hw)⟩
theorem y_alloc {z : Value} {cs : List Value} {C : Nat → World → Prop} (hq : (guardV ops F g, dstOK n d) = (some true, true)) [hz : ZeC P t z] (hc : z.cells = cs.toArray) (hM : ∀ b w1, b = w.heap.size → w1 = w.alloc (.cells cs.toArray t) → C b w1) (h : ∀ b w1, C b w1 → Ex P n ops B dr K s (putE F d (.pointer (some ⟨b, 0, none⟩))) ds [] w1) : ExO P n ops B dr K i true ⟨d, .alloc t, ty, ps, af, g⟩ s F ds [] w := ExO.mk fun ho =>
 x_alloc cs ho (congrArg (·.1) hq) (congrArg (·.2) hq) hz.h hc fun b w1 hb hw => ⟨trivial, h b w1 (hM b w1 hb hw)⟩
theorem y_st {v : Value} {b off Tb m : Nat} {cs l cs2 : List Value} {C : World → Prop} (hx : (ev? F x, ev? F y) = (some (.pointer (some ⟨b, off, none⟩)), some v)) (hv : v.cells = l.toArray) (h1 : l.all Value.oneCell' = true) (hb : w.heap[b]? = some (.cells cs.toArray Tb (0, 0))) [hs : SzC P t m] (hm : Nat.beq l.length m = true) (hle : Nat.ble (off + m) cs.length = true) (hc2 : LEq (cs.take off ++ l ++ cs.drop (off + m)) cs2) (hq : (guardV ops F g, dstOK n d) = (some true, true)) (hM : ∀ w1, w1 = w.putObj b (.cells cs2.toArray Tb (0, 0)) → C w1) (h : ∀ w1, C w1 → Ex P n ops B dr K s (putE F d undef) ds [] w1) : ExO P n ops B dr K i true ⟨d, .store t x y, ty, ps, af, g⟩ s F ds [] w := ExO.mk fun ho => by
 have e := Nat.eq_of_beq_eq_true hm
 exact x_st l cs2 ho (congrArg (·.1) hq) (congrArg (·.2) hq) (by rw [e]; exact hs.h) (congrArg (·.1) hx) (congrArg (·.2) hx) hv h1 hb rfl (by rw [e]; exact hle) (by rw [e]; exact hc2.eq) fun w1 hw => ⟨trivial, h w1 (hM w1 hw)⟩
end

/-! ## Results out of cells -/
theorem y_rv {b off : Nat} {cs : List Value} {Tb : Nat} {fr : Nat × Nat} {v : Value} (hb : w.heap[b]? = some (.cells cs.toArray Tb fr)) [hu : LdC P t] (hv : cs[off]? = some v) : (loadVar t ⟨b, off, none⟩).run P w = .ok v w := by
 obtain ⟨dd, h1, h2⟩ := hu.h
 exact run_loadVar1 h1 h2 (cell_of hb hv)
theorem y_rA {b off m : Nat} {cs l : List Value} {Tb : Nat} {fr : Nat × Nat} (hb : w.heap[b]? = some (.cells cs.toArray Tb fr)) [hu : AgC P t m] (hv : LEq ((cs.drop off).take m) l) (hl : Nat.beq l.length m = true) (h0 : Nat.blt 0 m = true) : (loadVar t ⟨b, off, none⟩).run P w = .ok (.agg l.toArray) w := by
 obtain ⟨dd, h1, h2, h3⟩ := hu.h
 have e := Nat.eq_of_beq_eq_true hl
 exact run_loadVarA h1 h2 (by rw [e]; exact h3) ⟨_, _, _, hb, by rw [e]; simpa using hv.eq⟩ (by rw [e]; simpa [Nat.blt_eq] using h0)
theorem pnd {p G : Prop} (h : G) (hp : p := by
 repeat (first
  | exact trivial
  | refine ⟨.inl (by dsimp only; decide), ?_⟩
  | refine ⟨.inr (cell_of (by first | exact M.at_ 0 rfl | exact M.at_ 1 rfl | exact M.at_ 2 rfl | exact M.at_ 3 rfl | exact M.at_ 4 rfl | exact M.at_ 5 rfl | exact M.at_ 6 rfl | exact M.at_ 7 rfl | exact M.at_ 8 rfl | exact M.at_ 9 rfl | exact M.at_ 10 rfl | exact M.at_ 11 rfl) rfl), ?_⟩
  | refine ⟨.inr ⟨_, _, _, (by first | exact M.at_ 0 rfl | exact M.at_ 1 rfl | exact M.at_ 2 rfl | exact M.at_ 3 rfl | exact M.at_ 4 rfl | exact M.at_ 5 rfl | exact M.at_ 6 rfl | exact M.at_ 7 rfl | exact M.at_ 8 rfl | exact M.at_ 9 rfl | exact M.at_ 10 rfl | exact M.at_ 11 rfl), rfl⟩, ?_⟩)) : p ∧ G := ⟨hp, h⟩
end

section
variable {P : Program} {n : Nat} {ops : Array Oper} {B : Array Nat} {dr : Bool} {K : KT} {s : List (Nat × Bool)} {F : Env} {ds : List Deferred} {T : List (Nat × (World → Prop))} {w : World} {i : Nat}
variable {d : Option Tmp} {ty : TypeId} {ps : String} {af : Array Edge} {g : Option (Nat × Bool)} {t t2 : Nat} {x y : Operand}
theorem y_eqS {a b : List UInt8} (hx : (ev? F x, ev? F y) = (some (.string (strB a)), some (.string (strB b)))) (hq : (guardV ops F g, dstOK n d) = (some true, true)) (h : Ex P n ops B dr K s (putE F d (.bool (decide (a = b)))) ds T w) : ExO P n ops B dr K i false ⟨d, .binOp .eql t x y t2, ty, ps, af, g⟩ s F ds T w := ExO.mk fun ho =>
 x_eqS _ ho (congrArg (·.1) hq) (congrArg (·.2) hq) (congrArg (·.1) hx) (congrArg (·.2) hx) rfl h
theorem y_neS {a b : List UInt8} (hx : (ev? F x, ev? F y) = (some (.string (strB a)), some (.string (strB b)))) (hq : (guardV ops F g, dstOK n d) = (some true, true)) (h : Ex P n ops B dr K s (putE F d (.bool (!decide (a = b)))) ds T w) : ExO P n ops B dr K i false ⟨d, .binOp .neq t x y t2, ty, ps, af, g⟩ s F ds T w := ExO.mk fun ho =>
 x_neS _ ho (congrArg (·.1) hq) (congrArg (·.2) hq) (congrArg (·.1) hx) (congrArg (·.2) hx) rfl h
theorem y_mkfn {fn : Fn} {first cap : Array Operand} {vs us : List Value} (hx : (evs? F first.toList, evs? F cap.toList) = (some vs, some us)) (hq : (guardV ops F g, dstOK n d) = (some true, true)) (h : Ex P n ops B dr K s (putE F d (.func fn vs.toArray us.toArray)) ds T w) : ExO P n ops B dr K i false ⟨d, .makeFunc fn first cap, ty, ps, af, g⟩ s F ds T w := ExO.mk fun ho =>
 x_mkfn ho (congrArg (·.1) hq) (congrArg (·.2) hq) (congrArg (·.1) hx) (congrArg (·.2) hx) h
theorem At.ok {Q : Exit → Act → World → Prop} {e : Exit} (h : At n Q e F ds w) : At n Q e F ds w := h
theorem W.ok {Q : Exit → Act → World → Prop} {ro : Option Nat} {c : Code} (h : W P n ro c Q F ds w) : W P n ro c Q F ds w := h
end

/-- The walk goes on by itself: what needs no count, and n steps that do. -/
theorem go {A G : Prop} (n : Nat) (k : A) (h : Cn n → A → G := by
 intro c_ k_
 repeat (first
  | (refine At.ok ?_; first
    | refine At.then_n ?_
    | refine At.then_r ?_
    | refine At.then_x ?_
    | refine At.blk_n ?_
    | refine At.blk_r ?_
    | refine At.blk_x ?_
    | refine At.blk_y rfl ?_
    | refine At.loop_x ?_
    | refine At.loop_r ?_
    | refine At.cut_r ?_
    | refine At.cut_x ?_
    | refine At.fall ?_
    | (replace c_ := Cn.dec c_; first
      | refine At.ret1 _ rfl (by repeat (first | exact trivial | refine ⟨rfl, ?_⟩ | refine ⟨⟨_, rfl, y_rA (by first | exact M.at_ 0 rfl | exact M.at_ 1 rfl | exact M.at_ 2 rfl | exact M.at_ 3 rfl | exact M.at_ 4 rfl | exact M.at_ 5 rfl | exact M.at_ 6 rfl | exact M.at_ 7 rfl | exact M.at_ 8 rfl | exact M.at_ 9 rfl | exact M.at_ 10 rfl | exact M.at_ 11 rfl) (by first | ((repeat (first | exact LEq.nil rfl | apply LEq.cons rfl)); done) | exact LEq.refl _) (by rfl) (by rfl)⟩, ?_⟩ | refine ⟨⟨_, rfl, y_rv (by first | exact M.at_ 0 rfl | exact M.at_ 1 rfl | exact M.at_ 2 rfl | exact M.at_ 3 rfl | exact M.at_ 4 rfl | exact M.at_ 5 rfl | exact M.at_ 6 rfl | exact M.at_ 7 rfl | exact M.at_ 8 rfl | exact M.at_ 9 rfl | exact M.at_ 10 rfl | exact M.at_ 11 rfl) (by rfl)⟩, ?_⟩)) ?_
      | refine At.ret2 _ _ rfl (by repeat (first | exact trivial | refine ⟨rfl, ?_⟩ | refine ⟨⟨_, rfl, y_rA (by first | exact M.at_ 0 rfl | exact M.at_ 1 rfl | exact M.at_ 2 rfl | exact M.at_ 3 rfl | exact M.at_ 4 rfl | exact M.at_ 5 rfl | exact M.at_ 6 rfl | exact M.at_ 7 rfl | exact M.at_ 8 rfl | exact M.at_ 9 rfl | exact M.at_ 10 rfl | exact M.at_ 11 rfl) (by first | ((repeat (first | exact LEq.nil rfl | apply LEq.cons rfl)); done) | exact LEq.refl _) (by rfl) (by rfl)⟩, ?_⟩ | refine ⟨⟨_, rfl, y_rv (by first | exact M.at_ 0 rfl | exact M.at_ 1 rfl | exact M.at_ 2 rfl | exact M.at_ 3 rfl | exact M.at_ 4 rfl | exact M.at_ 5 rfl | exact M.at_ 6 rfl | exact M.at_ 7 rfl | exact M.at_ 8 rfl | exact M.at_ 9 rfl | exact M.at_ 10 rfl | exact M.at_ 11 rfl) (by rfl)⟩, ?_⟩)) ?_
      | refine At.ret3 _ _ _ rfl (by repeat (first | exact trivial | refine ⟨rfl, ?_⟩ | refine ⟨⟨_, rfl, y_rA (by first | exact M.at_ 0 rfl | exact M.at_ 1 rfl | exact M.at_ 2 rfl | exact M.at_ 3 rfl | exact M.at_ 4 rfl | exact M.at_ 5 rfl | exact M.at_ 6 rfl | exact M.at_ 7 rfl | exact M.at_ 8 rfl | exact M.at_ 9 rfl | exact M.at_ 10 rfl | exact M.at_ 11 rfl) (by first | ((repeat (first | exact LEq.nil rfl | apply LEq.cons rfl)); done) | exact LEq.refl _) (by rfl) (by rfl)⟩, ?_⟩ | refine ⟨⟨_, rfl, y_rv (by first | exact M.at_ 0 rfl | exact M.at_ 1 rfl | exact M.at_ 2 rfl | exact M.at_ 3 rfl | exact M.at_ 4 rfl | exact M.at_ 5 rfl | exact M.at_ 6 rfl | exact M.at_ 7 rfl | exact M.at_ 8 rfl | exact M.at_ 9 rfl | exact M.at_ 10 rfl | exact M.at_ 11 rfl) (by rfl)⟩, ?_⟩)) ?_
      | refine At.ret0 rfl ?_))
  | (refine W.ok ?_; first
    | refine W.seq ?_
    | refine y_reg rfl (by kernel_rfl) ?_
    | refine W.ret ?_
    | refine W.skip ?_
    | refine W.exit ?_
    | refine W.block ?_
    | refine W.condT rfl ?_
    | refine W.condF rfl ?_)
  | (refine Ex.at rfl ?_; first
    | refine y_pure rfl ?_
    | refine y_fa rfl ?_
    | refine y_skipm rfl ?_
    | (replace c_ := Cn.dec c_; first
      | refine y_ld rfl (by first | exact M.at_ 0 rfl | exact M.at_ 1 rfl | exact M.at_ 2 rfl | exact M.at_ 3 rfl | exact M.at_ 4 rfl | exact M.at_ 5 rfl | exact M.at_ 6 rfl | exact M.at_ 7 rfl | exact M.at_ 8 rfl | exact M.at_ 9 rfl | exact M.at_ 10 rfl | exact M.at_ 11 rfl) (by rfl) rfl ?_
      | refine y_ldA rfl (by first | exact M.at_ 0 rfl | exact M.at_ 1 rfl | exact M.at_ 2 rfl | exact M.at_ 3 rfl | exact M.at_ 4 rfl | exact M.at_ 5 rfl | exact M.at_ 6 rfl | exact M.at_ 7 rfl | exact M.at_ 8 rfl | exact M.at_ 9 rfl | exact M.at_ 10 rfl | exact M.at_ 11 rfl) (by first | ((repeat (first | exact LEq.nil rfl | apply LEq.cons rfl)); done) | exact LEq.refl _) (by rfl) (by rfl) rfl ?_
      | refine y_cmp rfl rfl rfl ?_
      | refine y_len rfl rfl ?_
      | refine y_build rfl rfl (by rfl) (by rfl) ?_
      | refine y_not true rfl rfl rfl ?_
      | refine y_not false rfl rfl rfl ?_
      | refine y_not _ rfl rfl rfl ?_
      | refine y_pe true rfl rfl rfl ?_
      | refine y_pe false rfl rfl rfl ?_
      | refine y_pe _ rfl rfl rfl ?_
      | refine y_pn true rfl rfl rfl ?_
      | refine y_pn false rfl rfl rfl ?_
      | refine y_pn _ rfl rfl rfl ?_
      | refine y_se true rfl rfl rfl ?_
      | refine y_se false rfl rfl rfl ?_
      | refine y_se _ rfl rfl rfl ?_
      | refine y_sn true rfl rfl rfl ?_
      | refine y_sn false rfl rfl rfl ?_
      | refine y_sn _ rfl rfl rfl ?_
      | refine y_me true rfl rfl rfl ?_
      | refine y_me false rfl rfl rfl ?_
      | refine y_me _ rfl rfl rfl ?_
      | refine y_mn true rfl rfl rfl ?_
      | refine y_mn false rfl rfl rfl ?_
      | refine y_mn _ rfl rfl rfl ?_
      | refine y_eqS rfl rfl ?_
      | refine y_neS rfl rfl ?_
      | refine y_lenS rfl rfl ?_
      | refine y_mkif rfl rfl ?_
      | refine y_mkfn rfl rfl ?_
      | refine y_eqb true rfl rfl rfl ?_
      | refine y_eqb false rfl rfl rfl ?_
      | refine y_eqb _ rfl rfl rfl ?_
      | refine y_box rfl rfl rfl (fun _ _ hb_ hw_ => M.acons hb_ hw_) ?_
      | refine y_alloc rfl (by rfl) (fun _ _ hb_ hw_ => M.acons hb_ hw_) ?_
      | refine y_st rfl rfl rfl (M.at_ 0 rfl) (by rfl) (by rfl) (by first | ((repeat (first | exact LEq.nil rfl | apply LEq.cons rfl)); done) | exact LEq.refl _) rfl (fun _ hw_ => M.put 0 rfl hw_) ?_
      | refine y_st rfl rfl rfl (M.at_ 1 rfl) (by rfl) (by rfl) (by first | ((repeat (first | exact LEq.nil rfl | apply LEq.cons rfl)); done) | exact LEq.refl _) rfl (fun _ hw_ => M.put 1 rfl hw_) ?_
      | refine y_st rfl rfl rfl (M.at_ 2 rfl) (by rfl) (by rfl) (by first | ((repeat (first | exact LEq.nil rfl | apply LEq.cons rfl)); done) | exact LEq.refl _) rfl (fun _ hw_ => M.put 2 rfl hw_) ?_
      | refine y_st rfl rfl rfl (M.at_ 3 rfl) (by rfl) (by rfl) (by first | ((repeat (first | exact LEq.nil rfl | apply LEq.cons rfl)); done) | exact LEq.refl _) rfl (fun _ hw_ => M.put 3 rfl hw_) ?_
      | refine y_st rfl rfl rfl (M.at_ 4 rfl) (by rfl) (by rfl) (by first | ((repeat (first | exact LEq.nil rfl | apply LEq.cons rfl)); done) | exact LEq.refl _) rfl (fun _ hw_ => M.put 4 rfl hw_) ?_
      | refine y_st rfl rfl rfl (M.at_ 5 rfl) (by rfl) (by rfl) (by first | ((repeat (first | exact LEq.nil rfl | apply LEq.cons rfl)); done) | exact LEq.refl _) rfl (fun _ hw_ => M.put 5 rfl hw_) ?_
      | refine y_st rfl rfl rfl (M.at_ 6 rfl) (by rfl) (by rfl) (by first | ((repeat (first | exact LEq.nil rfl | apply LEq.cons rfl)); done) | exact LEq.refl _) rfl (fun _ hw_ => M.put 6 rfl hw_) ?_
      | refine y_st rfl rfl rfl (M.at_ 7 rfl) (by rfl) (by rfl) (by first | ((repeat (first | exact LEq.nil rfl | apply LEq.cons rfl)); done) | exact LEq.refl _) rfl (fun _ hw_ => M.put 7 rfl hw_) ?_
      | refine y_st rfl rfl rfl (M.at_ 8 rfl) (by rfl) (by rfl) (by first | ((repeat (first | exact LEq.nil rfl | apply LEq.cons rfl)); done) | exact LEq.refl _) rfl (fun _ hw_ => M.put 8 rfl hw_) ?_
      | refine y_st rfl rfl rfl (M.at_ 9 rfl) (by rfl) (by rfl) (by first | ((repeat (first | exact LEq.nil rfl | apply LEq.cons rfl)); done) | exact LEq.refl _) rfl (fun _ hw_ => M.put 9 rfl hw_) ?_
      | refine y_st rfl rfl rfl (M.at_ 10 rfl) (by rfl) (by rfl) (by first | ((repeat (first | exact LEq.nil rfl | apply LEq.cons rfl)); done) | exact LEq.refl _) rfl (fun _ hw_ => M.put 10 rfl hw_) ?_
      | refine y_st rfl rfl rfl (M.at_ 11 rfl) (by rfl) (by rfl) (by first | ((repeat (first | exact LEq.nil rfl | apply LEq.cons rfl)); done) | exact LEq.refl _) rfl (fun _ hw_ => M.put 11 rfl hw_) ?_))
  | refine y_fin ?_
  | refine y_done ?_ hK)
 exact k_) : G := h Cn.mk' k

/-- So, with m pieces of code that are followed by others. -/
theorem gs {A G : Prop} (n m : Nat) (k : A) (h : Cn n → Cn m → A → G := by
 intro c_ s_ k_
 repeat (first
  | (refine At.ok ?_; first
    | refine At.then_n ?_
    | refine At.then_r ?_
    | refine At.then_x ?_
    | refine At.blk_n ?_
    | refine At.blk_r ?_
    | refine At.blk_x ?_
    | refine At.blk_y rfl ?_
    | refine At.loop_x ?_
    | refine At.loop_r ?_
    | refine At.cut_r ?_
    | refine At.cut_x ?_
    | refine At.fall ?_
    | (replace c_ := Cn.dec c_; first
      | refine At.ret1 _ rfl (by repeat (first | exact trivial | refine ⟨rfl, ?_⟩ | refine ⟨⟨_, rfl, y_rA (by first | exact M.at_ 0 rfl | exact M.at_ 1 rfl | exact M.at_ 2 rfl | exact M.at_ 3 rfl | exact M.at_ 4 rfl | exact M.at_ 5 rfl | exact M.at_ 6 rfl | exact M.at_ 7 rfl | exact M.at_ 8 rfl | exact M.at_ 9 rfl | exact M.at_ 10 rfl | exact M.at_ 11 rfl) (by first | ((repeat (first | exact LEq.nil rfl | apply LEq.cons rfl)); done) | exact LEq.refl _) (by rfl) (by rfl)⟩, ?_⟩ | refine ⟨⟨_, rfl, y_rv (by first | exact M.at_ 0 rfl | exact M.at_ 1 rfl | exact M.at_ 2 rfl | exact M.at_ 3 rfl | exact M.at_ 4 rfl | exact M.at_ 5 rfl | exact M.at_ 6 rfl | exact M.at_ 7 rfl | exact M.at_ 8 rfl | exact M.at_ 9 rfl | exact M.at_ 10 rfl | exact M.at_ 11 rfl) (by rfl)⟩, ?_⟩)) ?_
      | refine At.ret2 _ _ rfl (by repeat (first | exact trivial | refine ⟨rfl, ?_⟩ | refine ⟨⟨_, rfl, y_rA (by first | exact M.at_ 0 rfl | exact M.at_ 1 rfl | exact M.at_ 2 rfl | exact M.at_ 3 rfl | exact M.at_ 4 rfl | exact M.at_ 5 rfl | exact M.at_ 6 rfl | exact M.at_ 7 rfl | exact M.at_ 8 rfl | exact M.at_ 9 rfl | exact M.at_ 10 rfl | exact M.at_ 11 rfl) (by first | ((repeat (first | exact LEq.nil rfl | apply LEq.cons rfl)); done) | exact LEq.refl _) (by rfl) (by rfl)⟩, ?_⟩ | refine ⟨⟨_, rfl, y_rv (by first | exact M.at_ 0 rfl | exact M.at_ 1 rfl | exact M.at_ 2 rfl | exact M.at_ 3 rfl | exact M.at_ 4 rfl | exact M.at_ 5 rfl | exact M.at_ 6 rfl | exact M.at_ 7 rfl | exact M.at_ 8 rfl | exact M.at_ 9 rfl | exact M.at_ 10 rfl | exact M.at_ 11 rfl) (by rfl)⟩, ?_⟩)) ?_
      | refine At.ret3 _ _ _ rfl (by repeat (first | exact trivial | refine ⟨rfl, ?_⟩ | refine ⟨⟨_, rfl, y_rA (by first | exact M.at_ 0 rfl | exact M.at_ 1 rfl | exact M.at_ 2 rfl | exact M.at_ 3 rfl | exact M.at_ 4 rfl | exact M.at_ 5 rfl | exact M.at_ 6 rfl | exact M.at_ 7 rfl | exact M.at_ 8 rfl | exact M.at_ 9 rfl | exact M.at_ 10 rfl | exact M.at_ 11 rfl) (by first | ((repeat (first | exact LEq.nil rfl | apply LEq.cons rfl)); done) | exact LEq.refl _) (by rfl) (by rfl)⟩, ?_⟩ | refine ⟨⟨_, rfl, y_rv (by first | exact M.at_ 0 rfl | exact M.at_ 1 rfl | exact M.at_ 2 rfl | exact M.at_ 3 rfl | exact M.at_ 4 rfl | exact M.at_ 5 rfl | exact M.at_ 6 rfl | exact M.at_ 7 rfl | exact M.at_ 8 rfl | exact M.at_ 9 rfl | exact M.at_ 10 rfl | exact M.at_ 11 rfl) (by rfl)⟩, ?_⟩)) ?_
      | refine At.ret0 rfl ?_))
  | (refine W.ok ?_; first
    | (replace s_ := Cn.dec s_; refine W.seq ?_)
    | refine y_reg rfl (by kernel_rfl) ?_
    | refine W.ret ?_
    | refine W.skip ?_
    | refine W.exit ?_
    | refine W.block ?_
    | refine W.condT rfl ?_
    | refine W.condF rfl ?_)
  | (refine Ex.at rfl ?_; first
    | refine y_pure rfl ?_
    | refine y_fa rfl ?_
    | refine y_skipm rfl ?_
    | (replace c_ := Cn.dec c_; first
      | refine y_ld rfl (by first | exact M.at_ 0 rfl | exact M.at_ 1 rfl | exact M.at_ 2 rfl | exact M.at_ 3 rfl | exact M.at_ 4 rfl | exact M.at_ 5 rfl | exact M.at_ 6 rfl | exact M.at_ 7 rfl | exact M.at_ 8 rfl | exact M.at_ 9 rfl | exact M.at_ 10 rfl | exact M.at_ 11 rfl) (by rfl) rfl ?_
      | refine y_ldA rfl (by first | exact M.at_ 0 rfl | exact M.at_ 1 rfl | exact M.at_ 2 rfl | exact M.at_ 3 rfl | exact M.at_ 4 rfl | exact M.at_ 5 rfl | exact M.at_ 6 rfl | exact M.at_ 7 rfl | exact M.at_ 8 rfl | exact M.at_ 9 rfl | exact M.at_ 10 rfl | exact M.at_ 11 rfl) (by first | ((repeat (first | exact LEq.nil rfl | apply LEq.cons rfl)); done) | exact LEq.refl _) (by rfl) (by rfl) rfl ?_
      | refine y_cmp rfl rfl rfl ?_
      | refine y_len rfl rfl ?_
      | refine y_build rfl rfl (by rfl) (by rfl) ?_
      | refine y_not true rfl rfl rfl ?_
      | refine y_not false rfl rfl rfl ?_
      | refine y_not _ rfl rfl rfl ?_
      | refine y_pe true rfl rfl rfl ?_
      | refine y_pe false rfl rfl rfl ?_
      | refine y_pe _ rfl rfl rfl ?_
      | refine y_pn true rfl rfl rfl ?_
      | refine y_pn false rfl rfl rfl ?_
      | refine y_pn _ rfl rfl rfl ?_
      | refine y_se true rfl rfl rfl ?_
      | refine y_se false rfl rfl rfl ?_
      | refine y_se _ rfl rfl rfl ?_
      | refine y_sn true rfl rfl rfl ?_
      | refine y_sn false rfl rfl rfl ?_
      | refine y_sn _ rfl rfl rfl ?_
      | refine y_me true rfl rfl rfl ?_
      | refine y_me false rfl rfl rfl ?_
      | refine y_me _ rfl rfl rfl ?_
      | refine y_mn true rfl rfl rfl ?_
      | refine y_mn false rfl rfl rfl ?_
      | refine y_mn _ rfl rfl rfl ?_
      | refine y_eqS rfl rfl ?_
      | refine y_neS rfl rfl ?_
      | refine y_lenS rfl rfl ?_
      | refine y_mkif rfl rfl ?_
      | refine y_mkfn rfl rfl ?_
      | refine y_eqb true rfl rfl rfl ?_
      | refine y_eqb false rfl rfl rfl ?_
      | refine y_eqb _ rfl rfl rfl ?_
      | refine y_box rfl rfl rfl (fun _ _ hb_ hw_ => M.acons hb_ hw_) ?_
      | refine y_alloc rfl (by rfl) (fun _ _ hb_ hw_ => M.acons hb_ hw_) ?_
      | refine y_st rfl rfl rfl (M.at_ 0 rfl) (by rfl) (by rfl) (by first | ((repeat (first | exact LEq.nil rfl | apply LEq.cons rfl)); done) | exact LEq.refl _) rfl (fun _ hw_ => M.put 0 rfl hw_) ?_
      | refine y_st rfl rfl rfl (M.at_ 1 rfl) (by rfl) (by rfl) (by first | ((repeat (first | exact LEq.nil rfl | apply LEq.cons rfl)); done) | exact LEq.refl _) rfl (fun _ hw_ => M.put 1 rfl hw_) ?_
      | refine y_st rfl rfl rfl (M.at_ 2 rfl) (by rfl) (by rfl) (by first | ((repeat (first | exact LEq.nil rfl | apply LEq.cons rfl)); done) | exact LEq.refl _) rfl (fun _ hw_ => M.put 2 rfl hw_) ?_
      | refine y_st rfl rfl rfl (M.at_ 3 rfl) (by rfl) (by rfl) (by first | ((repeat (first | exact LEq.nil rfl | apply LEq.cons rfl)); done) | exact LEq.refl _) rfl (fun _ hw_ => M.put 3 rfl hw_) ?_
      | refine y_st rfl rfl rfl (M.at_ 4 rfl) (by rfl) (by rfl) (by first | ((repeat (first | exact LEq.nil rfl | apply LEq.cons rfl)); done) | exact LEq.refl _) rfl (fun _ hw_ => M.put 4 rfl hw_) ?_
      | refine y_st rfl rfl rfl (M.at_ 5 rfl) (by rfl) (by rfl) (by first | ((repeat (first | exact LEq.nil rfl | apply LEq.cons rfl)); done) | exact LEq.refl _) rfl (fun _ hw_ => M.put 5 rfl hw_) ?_
      | refine y_st rfl rfl rfl (M.at_ 6 rfl) (by rfl) (by rfl) (by first | ((repeat (first | exact LEq.nil rfl | apply LEq.cons rfl)); done) | exact LEq.refl _) rfl (fun _ hw_ => M.put 6 rfl hw_) ?_
      | refine y_st rfl rfl rfl (M.at_ 7 rfl) (by rfl) (by rfl) (by first | ((repeat (first | exact LEq.nil rfl | apply LEq.cons rfl)); done) | exact LEq.refl _) rfl (fun _ hw_ => M.put 7 rfl hw_) ?_
      | refine y_st rfl rfl rfl (M.at_ 8 rfl) (by rfl) (by rfl) (by first | ((repeat (first | exact LEq.nil rfl | apply LEq.cons rfl)); done) | exact LEq.refl _) rfl (fun _ hw_ => M.put 8 rfl hw_) ?_
      | refine y_st rfl rfl rfl (M.at_ 9 rfl) (by rfl) (by rfl) (by first | ((repeat (first | exact LEq.nil rfl | apply LEq.cons rfl)); done) | exact LEq.refl _) rfl (fun _ hw_ => M.put 9 rfl hw_) ?_
      | refine y_st rfl rfl rfl (M.at_ 10 rfl) (by rfl) (by rfl) (by first | ((repeat (first | exact LEq.nil rfl | apply LEq.cons rfl)); done) | exact LEq.refl _) rfl (fun _ hw_ => M.put 10 rfl hw_) ?_
      | refine y_st rfl rfl rfl (M.at_ 11 rfl) (by rfl) (by rfl) (by first | ((repeat (first | exact LEq.nil rfl | apply LEq.cons rfl)); done) | exact LEq.refl _) rfl (fun _ hw_ => M.put 11 rfl hw_) ?_))
  | refine y_fin ?_
  | refine y_done ?_ hK)
 exact k_) : G := h Cn.mk' Cn.mk' k

/-- So, and then both ways of a bool that code asks for. -/
theorem cnd {A A' G : Prop} (n : Nat) (k : A) (k' : A') (h : Cn n → A → A' → G := by
 intro c_ k_ k2_
 repeat (first
  | (refine At.ok ?_; first
    | refine At.then_n ?_
    | refine At.then_r ?_
    | refine At.then_x ?_
    | refine At.blk_n ?_
    | refine At.blk_r ?_
    | refine At.blk_x ?_
    | refine At.blk_y rfl ?_
    | refine At.loop_x ?_
    | refine At.loop_r ?_
    | refine At.cut_r ?_
    | refine At.cut_x ?_
    | refine At.fall ?_
    | (replace c_ := Cn.dec c_; first
      | refine At.ret1 _ rfl (by repeat (first | exact trivial | refine ⟨rfl, ?_⟩ | refine ⟨⟨_, rfl, y_rA (by first | exact M.at_ 0 rfl | exact M.at_ 1 rfl | exact M.at_ 2 rfl | exact M.at_ 3 rfl | exact M.at_ 4 rfl | exact M.at_ 5 rfl | exact M.at_ 6 rfl | exact M.at_ 7 rfl | exact M.at_ 8 rfl | exact M.at_ 9 rfl | exact M.at_ 10 rfl | exact M.at_ 11 rfl) (by first | ((repeat (first | exact LEq.nil rfl | apply LEq.cons rfl)); done) | exact LEq.refl _) (by rfl) (by rfl)⟩, ?_⟩ | refine ⟨⟨_, rfl, y_rv (by first | exact M.at_ 0 rfl | exact M.at_ 1 rfl | exact M.at_ 2 rfl | exact M.at_ 3 rfl | exact M.at_ 4 rfl | exact M.at_ 5 rfl | exact M.at_ 6 rfl | exact M.at_ 7 rfl | exact M.at_ 8 rfl | exact M.at_ 9 rfl | exact M.at_ 10 rfl | exact M.at_ 11 rfl) (by rfl)⟩, ?_⟩)) ?_
      | refine At.ret2 _ _ rfl (by repeat (first | exact trivial | refine ⟨rfl, ?_⟩ | refine ⟨⟨_, rfl, y_rA (by first | exact M.at_ 0 rfl | exact M.at_ 1 rfl | exact M.at_ 2 rfl | exact M.at_ 3 rfl | exact M.at_ 4 rfl | exact M.at_ 5 rfl | exact M.at_ 6 rfl | exact M.at_ 7 rfl | exact M.at_ 8 rfl | exact M.at_ 9 rfl | exact M.at_ 10 rfl | exact M.at_ 11 rfl) (by first | ((repeat (first | exact LEq.nil rfl | apply LEq.cons rfl)); done) | exact LEq.refl _) (by rfl) (by rfl)⟩, ?_⟩ | refine ⟨⟨_, rfl, y_rv (by first | exact M.at_ 0 rfl | exact M.at_ 1 rfl | exact M.at_ 2 rfl | exact M.at_ 3 rfl | exact M.at_ 4 rfl | exact M.at_ 5 rfl | exact M.at_ 6 rfl | exact M.at_ 7 rfl | exact M.at_ 8 rfl | exact M.at_ 9 rfl | exact M.at_ 10 rfl | exact M.at_ 11 rfl) (by rfl)⟩, ?_⟩)) ?_
      | refine At.ret3 _ _ _ rfl (by repeat (first | exact trivial | refine ⟨rfl, ?_⟩ | refine ⟨⟨_, rfl, y_rA (by first | exact M.at_ 0 rfl | exact M.at_ 1 rfl | exact M.at_ 2 rfl | exact M.at_ 3 rfl | exact M.at_ 4 rfl | exact M.at_ 5 rfl | exact M.at_ 6 rfl | exact M.at_ 7 rfl | exact M.at_ 8 rfl | exact M.at_ 9 rfl | exact M.at_ 10 rfl | exact M.at_ 11 rfl) (by first | ((repeat (first | exact LEq.nil rfl | apply LEq.cons rfl)); done) | exact LEq.refl _) (by rfl) (by rfl)⟩, ?_⟩ | refine ⟨⟨_, rfl, y_rv (by first | exact M.at_ 0 rfl | exact M.at_ 1 rfl | exact M.at_ 2 rfl | exact M.at_ 3 rfl | exact M.at_ 4 rfl | exact M.at_ 5 rfl | exact M.at_ 6 rfl | exact M.at_ 7 rfl | exact M.at_ 8 rfl | exact M.at_ 9 rfl | exact M.at_ 10 rfl | exact M.at_ 11 rfl) (by rfl)⟩, ?_⟩)) ?_
      | refine At.ret0 rfl ?_))
  | (refine W.ok ?_; first
    | refine W.seq ?_
    | refine y_reg rfl (by kernel_rfl) ?_
    | refine W.ret ?_
    | refine W.skip ?_
    | refine W.exit ?_
    | refine W.block ?_
    | refine W.condT rfl ?_
    | refine W.condF rfl ?_)
  | (refine Ex.at rfl ?_; first
    | refine y_pure rfl ?_
    | refine y_fa rfl ?_
    | refine y_skipm rfl ?_
    | (replace c_ := Cn.dec c_; first
      | refine y_ld rfl (by first | exact M.at_ 0 rfl | exact M.at_ 1 rfl | exact M.at_ 2 rfl | exact M.at_ 3 rfl | exact M.at_ 4 rfl | exact M.at_ 5 rfl | exact M.at_ 6 rfl | exact M.at_ 7 rfl | exact M.at_ 8 rfl | exact M.at_ 9 rfl | exact M.at_ 10 rfl | exact M.at_ 11 rfl) (by rfl) rfl ?_
      | refine y_ldA rfl (by first | exact M.at_ 0 rfl | exact M.at_ 1 rfl | exact M.at_ 2 rfl | exact M.at_ 3 rfl | exact M.at_ 4 rfl | exact M.at_ 5 rfl | exact M.at_ 6 rfl | exact M.at_ 7 rfl | exact M.at_ 8 rfl | exact M.at_ 9 rfl | exact M.at_ 10 rfl | exact M.at_ 11 rfl) (by first | ((repeat (first | exact LEq.nil rfl | apply LEq.cons rfl)); done) | exact LEq.refl _) (by rfl) (by rfl) rfl ?_
      | refine y_cmp rfl rfl rfl ?_
      | refine y_len rfl rfl ?_
      | refine y_build rfl rfl (by rfl) (by rfl) ?_
      | refine y_not true rfl rfl rfl ?_
      | refine y_not false rfl rfl rfl ?_
      | refine y_not _ rfl rfl rfl ?_
      | refine y_pe true rfl rfl rfl ?_
      | refine y_pe false rfl rfl rfl ?_
      | refine y_pe _ rfl rfl rfl ?_
      | refine y_pn true rfl rfl rfl ?_
      | refine y_pn false rfl rfl rfl ?_
      | refine y_pn _ rfl rfl rfl ?_
      | refine y_se true rfl rfl rfl ?_
      | refine y_se false rfl rfl rfl ?_
      | refine y_se _ rfl rfl rfl ?_
      | refine y_sn true rfl rfl rfl ?_
      | refine y_sn false rfl rfl rfl ?_
      | refine y_sn _ rfl rfl rfl ?_
      | refine y_me true rfl rfl rfl ?_
      | refine y_me false rfl rfl rfl ?_
      | refine y_me _ rfl rfl rfl ?_
      | refine y_mn true rfl rfl rfl ?_
      | refine y_mn false rfl rfl rfl ?_
      | refine y_mn _ rfl rfl rfl ?_
      | refine y_eqS rfl rfl ?_
      | refine y_neS rfl rfl ?_
      | refine y_lenS rfl rfl ?_
      | refine y_mkif rfl rfl ?_
      | refine y_mkfn rfl rfl ?_
      | refine y_eqb true rfl rfl rfl ?_
      | refine y_eqb false rfl rfl rfl ?_
      | refine y_eqb _ rfl rfl rfl ?_
      | refine y_box rfl rfl rfl (fun _ _ hb_ hw_ => M.acons hb_ hw_) ?_
      | refine y_alloc rfl (by rfl) (fun _ _ hb_ hw_ => M.acons hb_ hw_) ?_
      | refine y_st rfl rfl rfl (M.at_ 0 rfl) (by rfl) (by rfl) (by first | ((repeat (first | exact LEq.nil rfl | apply LEq.cons rfl)); done) | exact LEq.refl _) rfl (fun _ hw_ => M.put 0 rfl hw_) ?_
      | refine y_st rfl rfl rfl (M.at_ 1 rfl) (by rfl) (by rfl) (by first | ((repeat (first | exact LEq.nil rfl | apply LEq.cons rfl)); done) | exact LEq.refl _) rfl (fun _ hw_ => M.put 1 rfl hw_) ?_
      | refine y_st rfl rfl rfl (M.at_ 2 rfl) (by rfl) (by rfl) (by first | ((repeat (first | exact LEq.nil rfl | apply LEq.cons rfl)); done) | exact LEq.refl _) rfl (fun _ hw_ => M.put 2 rfl hw_) ?_
      | refine y_st rfl rfl rfl (M.at_ 3 rfl) (by rfl) (by rfl) (by first | ((repeat (first | exact LEq.nil rfl | apply LEq.cons rfl)); done) | exact LEq.refl _) rfl (fun _ hw_ => M.put 3 rfl hw_) ?_
      | refine y_st rfl rfl rfl (M.at_ 4 rfl) (by rfl) (by rfl) (by first | ((repeat (first | exact LEq.nil rfl | apply LEq.cons rfl)); done) | exact LEq.refl _) rfl (fun _ hw_ => M.put 4 rfl hw_) ?_
      | refine y_st rfl rfl rfl (M.at_ 5 rfl) (by rfl) (by rfl) (by first | ((repeat (first | exact LEq.nil rfl | apply LEq.cons rfl)); done) | exact LEq.refl _) rfl (fun _ hw_ => M.put 5 rfl hw_) ?_
      | refine y_st rfl rfl rfl (M.at_ 6 rfl) (by rfl) (by rfl) (by first | ((repeat (first | exact LEq.nil rfl | apply LEq.cons rfl)); done) | exact LEq.refl _) rfl (fun _ hw_ => M.put 6 rfl hw_) ?_
      | refine y_st rfl rfl rfl (M.at_ 7 rfl) (by rfl) (by rfl) (by first | ((repeat (first | exact LEq.nil rfl | apply LEq.cons rfl)); done) | exact LEq.refl _) rfl (fun _ hw_ => M.put 7 rfl hw_) ?_
      | refine y_st rfl rfl rfl (M.at_ 8 rfl) (by rfl) (by rfl) (by first | ((repeat (first | exact LEq.nil rfl | apply LEq.cons rfl)); done) | exact LEq.refl _) rfl (fun _ hw_ => M.put 8 rfl hw_) ?_
      | refine y_st rfl rfl rfl (M.at_ 9 rfl) (by rfl) (by rfl) (by first | ((repeat (first | exact LEq.nil rfl | apply LEq.cons rfl)); done) | exact LEq.refl _) rfl (fun _ hw_ => M.put 9 rfl hw_) ?_
      | refine y_st rfl rfl rfl (M.at_ 10 rfl) (by rfl) (by rfl) (by first | ((repeat (first | exact LEq.nil rfl | apply LEq.cons rfl)); done) | exact LEq.refl _) rfl (fun _ hw_ => M.put 10 rfl hw_) ?_
      | refine y_st rfl rfl rfl (M.at_ 11 rfl) (by rfl) (by rfl) (by first | ((repeat (first | exact LEq.nil rfl | apply LEq.cons rfl)); done) | exact LEq.refl _) rfl (fun _ hw_ => M.put 11 rfl hw_) ?_))
  | refine y_fin ?_
  | refine y_done ?_ hK)
 refine W.cond rfl (fun h_ => ?_) (fun h_ => ?_)
 ·try simp only [sA, sB, sC, sD, sE, sF, sG, sH, sI, sJ, sK, sL, sM, sN, sO] at h_
  revert h_
  exact k_
 ·try simp only [sA, sB, sC, sD, sE, sF, sG, sH, sI, sJ, sK, sL, sM, sN, sO] at h_
  revert h_
  exact k2_) : G := h Cn.mk' k k'

/-- So, and then both ways of a bool in a slot. -/
theorem Ex.splitC {P : Program} {n : Nat} {ops : Array Oper} {B : Array Nat} {dr : Bool} {K : KT} {s : List (Nat × Bool)} {F : Env} {ds : List Deferred} {T : List (Nat × (World → Prop))} {w : World} {t : Nat} (c : Cn t) {b : Bool} (hb : look F t = some (.bool b)) (ht : b = true → Ex P n ops B dr K s ((t, .bool true) :: F) ds T w) (hf : b = false → Ex P n ops B dr K s ((t, .bool false) :: F) ds T w) : Ex P n ops B dr K s F ds T w := Ex.split t hb ht hf
theorem spl {A A' G : Prop} (n t : Nat) (k : A) (k' : A') (h : Cn n → Cn t → A → A' → G := by
 intro c_ t_ k_ k2_
 repeat (first
  | (refine At.ok ?_; first
    | refine At.then_n ?_
    | refine At.then_r ?_
    | refine At.then_x ?_
    | refine At.blk_n ?_
    | refine At.blk_r ?_
    | refine At.blk_x ?_
    | refine At.blk_y rfl ?_
    | refine At.loop_x ?_
    | refine At.loop_r ?_
    | refine At.cut_r ?_
    | refine At.cut_x ?_
    | refine At.fall ?_
    | (replace c_ := Cn.dec c_; first
      | refine At.ret1 _ rfl (by repeat (first | exact trivial | refine ⟨rfl, ?_⟩ | refine ⟨⟨_, rfl, y_rA (by first | exact M.at_ 0 rfl | exact M.at_ 1 rfl | exact M.at_ 2 rfl | exact M.at_ 3 rfl | exact M.at_ 4 rfl | exact M.at_ 5 rfl | exact M.at_ 6 rfl | exact M.at_ 7 rfl | exact M.at_ 8 rfl | exact M.at_ 9 rfl | exact M.at_ 10 rfl | exact M.at_ 11 rfl) (by first | ((repeat (first | exact LEq.nil rfl | apply LEq.cons rfl)); done) | exact LEq.refl _) (by rfl) (by rfl)⟩, ?_⟩ | refine ⟨⟨_, rfl, y_rv (by first | exact M.at_ 0 rfl | exact M.at_ 1 rfl | exact M.at_ 2 rfl | exact M.at_ 3 rfl | exact M.at_ 4 rfl | exact M.at_ 5 rfl | exact M.at_ 6 rfl | exact M.at_ 7 rfl | exact M.at_ 8 rfl | exact M.at_ 9 rfl | exact M.at_ 10 rfl | exact M.at_ 11 rfl) (by rfl)⟩, ?_⟩)) ?_
      | refine At.ret2 _ _ rfl (by repeat (first | exact trivial | refine ⟨rfl, ?_⟩ | refine ⟨⟨_, rfl, y_rA (by first | exact M.at_ 0 rfl | exact M.at_ 1 rfl | exact M.at_ 2 rfl | exact M.at_ 3 rfl | exact M.at_ 4 rfl | exact M.at_ 5 rfl | exact M.at_ 6 rfl | exact M.at_ 7 rfl | exact M.at_ 8 rfl | exact M.at_ 9 rfl | exact M.at_ 10 rfl | exact M.at_ 11 rfl) (by first | ((repeat (first | exact LEq.nil rfl | apply LEq.cons rfl)); done) | exact LEq.refl _) (by rfl) (by rfl)⟩, ?_⟩ | refine ⟨⟨_, rfl, y_rv (by first | exact M.at_ 0 rfl | exact M.at_ 1 rfl | exact M.at_ 2 rfl | exact M.at_ 3 rfl | exact M.at_ 4 rfl | exact M.at_ 5 rfl | exact M.at_ 6 rfl | exact M.at_ 7 rfl | exact M.at_ 8 rfl | exact M.at_ 9 rfl | exact M.at_ 10 rfl | exact M.at_ 11 rfl) (by rfl)⟩, ?_⟩)) ?_
      | refine At.ret3 _ _ _ rfl (by repeat (first | exact trivial | refine ⟨rfl, ?_⟩ | refine ⟨⟨_, rfl, y_rA (by first | exact M.at_ 0 rfl | exact M.at_ 1 rfl | exact M.at_ 2 rfl | exact M.at_ 3 rfl | exact M.at_ 4 rfl | exact M.at_ 5 rfl | exact M.at_ 6 rfl | exact M.at_ 7 rfl | exact M.at_ 8 rfl | exact M.at_ 9 rfl | exact M.at_ 10 rfl | exact M.at_ 11 rfl) (by first | ((repeat (first | exact LEq.nil rfl | apply LEq.cons rfl)); done) | exact LEq.refl _) (by rfl) (by rfl)⟩, ?_⟩ | refine ⟨⟨_, rfl, y_rv (by first | exact M.at_ 0 rfl | exact M.at_ 1 rfl | exact M.at_ 2 rfl | exact M.at_ 3 rfl | exact M.at_ 4 rfl | exact M.at_ 5 rfl | exact M.at_ 6 rfl | exact M.at_ 7 rfl | exact M.at_ 8 rfl | exact M.at_ 9 rfl | exact M.at_ 10 rfl | exact M.at_ 11 rfl) (by rfl)⟩, ?_⟩)) ?_
      | refine At.ret0 rfl ?_))
  | (refine W.ok ?_; first
    | refine W.seq ?_
    | refine y_reg rfl (by kernel_rfl) ?_
    | refine W.ret ?_
    | refine W.skip ?_
    | refine W.exit ?_
    | refine W.block ?_
    | refine W.condT rfl ?_
    | refine W.condF rfl ?_)
  | (refine Ex.at rfl ?_; first
    | refine y_pure rfl ?_
    | refine y_fa rfl ?_
    | refine y_skipm rfl ?_
    | (replace c_ := Cn.dec c_; first
      | refine y_ld rfl (by first | exact M.at_ 0 rfl | exact M.at_ 1 rfl | exact M.at_ 2 rfl | exact M.at_ 3 rfl | exact M.at_ 4 rfl | exact M.at_ 5 rfl | exact M.at_ 6 rfl | exact M.at_ 7 rfl | exact M.at_ 8 rfl | exact M.at_ 9 rfl | exact M.at_ 10 rfl | exact M.at_ 11 rfl) (by rfl) rfl ?_
      | refine y_ldA rfl (by first | exact M.at_ 0 rfl | exact M.at_ 1 rfl | exact M.at_ 2 rfl | exact M.at_ 3 rfl | exact M.at_ 4 rfl | exact M.at_ 5 rfl | exact M.at_ 6 rfl | exact M.at_ 7 rfl | exact M.at_ 8 rfl | exact M.at_ 9 rfl | exact M.at_ 10 rfl | exact M.at_ 11 rfl) (by first | ((repeat (first | exact LEq.nil rfl | apply LEq.cons rfl)); done) | exact LEq.refl _) (by rfl) (by rfl) rfl ?_
      | refine y_cmp rfl rfl rfl ?_
      | refine y_len rfl rfl ?_
      | refine y_build rfl rfl (by rfl) (by rfl) ?_
      | refine y_not true rfl rfl rfl ?_
      | refine y_not false rfl rfl rfl ?_
      | refine y_not _ rfl rfl rfl ?_
      | refine y_pe true rfl rfl rfl ?_
      | refine y_pe false rfl rfl rfl ?_
      | refine y_pe _ rfl rfl rfl ?_
      | refine y_pn true rfl rfl rfl ?_
      | refine y_pn false rfl rfl rfl ?_
      | refine y_pn _ rfl rfl rfl ?_
      | refine y_se true rfl rfl rfl ?_
      | refine y_se false rfl rfl rfl ?_
      | refine y_se _ rfl rfl rfl ?_
      | refine y_sn true rfl rfl rfl ?_
      | refine y_sn false rfl rfl rfl ?_
      | refine y_sn _ rfl rfl rfl ?_
      | refine y_me true rfl rfl rfl ?_
      | refine y_me false rfl rfl rfl ?_
      | refine y_me _ rfl rfl rfl ?_
      | refine y_mn true rfl rfl rfl ?_
      | refine y_mn false rfl rfl rfl ?_
      | refine y_mn _ rfl rfl rfl ?_
      | refine y_eqS rfl rfl ?_
      | refine y_neS rfl rfl ?_
      | refine y_lenS rfl rfl ?_
      | refine y_mkif rfl rfl ?_
      | refine y_mkfn rfl rfl ?_
      | refine y_eqb true rfl rfl rfl ?_
      | refine y_eqb false rfl rfl rfl ?_
      | refine y_eqb _ rfl rfl rfl ?_
      | refine y_box rfl rfl rfl (fun _ _ hb_ hw_ => M.acons hb_ hw_) ?_
      | refine y_alloc rfl (by rfl) (fun _ _ hb_ hw_ => M.acons hb_ hw_) ?_
      | refine y_st rfl rfl rfl (M.at_ 0 rfl) (by rfl) (by rfl) (by first | ((repeat (first | exact LEq.nil rfl | apply LEq.cons rfl)); done) | exact LEq.refl _) rfl (fun _ hw_ => M.put 0 rfl hw_) ?_
      | refine y_st rfl rfl rfl (M.at_ 1 rfl) (by rfl) (by rfl) (by first | ((repeat (first | exact LEq.nil rfl | apply LEq.cons rfl)); done) | exact LEq.refl _) rfl (fun _ hw_ => M.put 1 rfl hw_) ?_
      | refine y_st rfl rfl rfl (M.at_ 2 rfl) (by rfl) (by rfl) (by first | ((repeat (first | exact LEq.nil rfl | apply LEq.cons rfl)); done) | exact LEq.refl _) rfl (fun _ hw_ => M.put 2 rfl hw_) ?_
      | refine y_st rfl rfl rfl (M.at_ 3 rfl) (by rfl) (by rfl) (by first | ((repeat (first | exact LEq.nil rfl | apply LEq.cons rfl)); done) | exact LEq.refl _) rfl (fun _ hw_ => M.put 3 rfl hw_) ?_
      | refine y_st rfl rfl rfl (M.at_ 4 rfl) (by rfl) (by rfl) (by first | ((repeat (first | exact LEq.nil rfl | apply LEq.cons rfl)); done) | exact LEq.refl _) rfl (fun _ hw_ => M.put 4 rfl hw_) ?_
      | refine y_st rfl rfl rfl (M.at_ 5 rfl) (by rfl) (by rfl) (by first | ((repeat (first | exact LEq.nil rfl | apply LEq.cons rfl)); done) | exact LEq.refl _) rfl (fun _ hw_ => M.put 5 rfl hw_) ?_
      | refine y_st rfl rfl rfl (M.at_ 6 rfl) (by rfl) (by rfl) (by first | ((repeat (first | exact LEq.nil rfl | apply LEq.cons rfl)); done) | exact LEq.refl _) rfl (fun _ hw_ => M.put 6 rfl hw_) ?_
      | refine y_st rfl rfl rfl (M.at_ 7 rfl) (by rfl) (by rfl) (by first | ((repeat (first | exact LEq.nil rfl | apply LEq.cons rfl)); done) | exact LEq.refl _) rfl (fun _ hw_ => M.put 7 rfl hw_) ?_
      | refine y_st rfl rfl rfl (M.at_ 8 rfl) (by rfl) (by rfl) (by first | ((repeat (first | exact LEq.nil rfl | apply LEq.cons rfl)); done) | exact LEq.refl _) rfl (fun _ hw_ => M.put 8 rfl hw_) ?_
      | refine y_st rfl rfl rfl (M.at_ 9 rfl) (by rfl) (by rfl) (by first | ((repeat (first | exact LEq.nil rfl | apply LEq.cons rfl)); done) | exact LEq.refl _) rfl (fun _ hw_ => M.put 9 rfl hw_) ?_
      | refine y_st rfl rfl rfl (M.at_ 10 rfl) (by rfl) (by rfl) (by first | ((repeat (first | exact LEq.nil rfl | apply LEq.cons rfl)); done) | exact LEq.refl _) rfl (fun _ hw_ => M.put 10 rfl hw_) ?_
      | refine y_st rfl rfl rfl (M.at_ 11 rfl) (by rfl) (by rfl) (by first | ((repeat (first | exact LEq.nil rfl | apply LEq.cons rfl)); done) | exact LEq.refl _) rfl (fun _ hw_ => M.put 11 rfl hw_) ?_))
  | refine y_fin ?_
  | refine y_done ?_ hK)
 refine Ex.splitC t_ rfl (fun h_ => ?_) (fun h_ => ?_)
 ·try simp only [sA, sB, sC, sD, sE, sF, sG, sH, sI, sJ, sK, sL, sM, sN, sO] at h_
  revert h_
  exact k_
 ·try simp only [sA, sB, sC, sD, sE, sF, sG, sH, sI, sJ, sK, sL, sM, sN, sO] at h_
  revert h_
  exact k2_) : G := h Cn.mk' Cn.mk' k k'
end Go.Fw

namespace Go.Proofs.YtigfbpbnohkokaaGreat
open Go Go.Fw Go.Proofs
instance : LdC Tryz.prog 3 := ⟨⟨_, Tryz.underlying3, rfl⟩⟩
instance : LdC Tryz.prog 4 := ⟨⟨_, Tryz.underlying4, rfl⟩⟩
instance : BoC Tryz.prog 4 := ⟨Tryz.underlying4⟩
instance : LdC Tryz.prog 5 := ⟨⟨_, Tryz.underlying5, rfl⟩⟩
instance : LdC Tryz.prog 9 := ⟨⟨_, Tryz.underlying9, rfl⟩⟩
instance : StC Tryz.prog 9 := ⟨Tryz.underlying9⟩
instance : SlC Tryz.prog 22 26 3 := ⟨Tryz.underlying22, sz26⟩
instance : LdC Tryz.prog 24 := ⟨⟨_, Tryz.underlying24, rfl⟩⟩
instance : SlC Tryz.prog 24 29 3 := ⟨Tryz.underlying24, sz29⟩
instance : AgC Tryz.prog 26 3 := ⟨⟨_, Tryz.underlying26, rfl, sz26⟩⟩
instance : LdC Tryz.prog 27 := ⟨⟨_, Tryz.underlying27, rfl⟩⟩
instance : SlY Tryz.prog 27 := ⟨⟨_, Tryz.underlying27⟩⟩
instance : SlC Tryz.prog 27 5 1 := ⟨Tryz.underlying27, sz5⟩
instance : AgC Tryz.prog 29 3 := ⟨⟨_, Tryz.underlying29, rfl, sz29⟩⟩
instance : AgC Tryz.prog 31 1 := ⟨⟨_, Tryz.underlying31, rfl, sz31⟩⟩
instance : LdC Tryz.prog 34 := ⟨⟨_, Tryz.underlying34, rfl⟩⟩
instance : PtC Tryz.prog 34 := ⟨⟨_, Tryz.underlying34⟩⟩
instance : LdC Tryz.prog 35 := ⟨⟨_, Tryz.underlying35, rfl⟩⟩
instance : IfC Tryz.prog 38 := ⟨⟨_, Tryz.underlying38, fun _ e => by cases e⟩⟩
instance : SlC Tryz.prog 42 54 10 := ⟨Tryz.underlying42, sz54⟩
instance : IfC Tryz.prog 44 := ⟨⟨_, Tryz.underlying44, fun _ e => by cases e⟩⟩
instance : LdC Tryz.prog 47 := ⟨⟨_, Tryz.underlying47, rfl⟩⟩
instance : SlC Tryz.prog 47 9 1 := ⟨Tryz.underlying47, sz9⟩
instance : AgC Tryz.prog 49 5 := ⟨⟨_, Tryz.underlying49, rfl, sz49⟩⟩
instance : AgC Tryz.prog 52 9 := ⟨⟨_, Tryz.underlying52, rfl, sz52⟩⟩
instance : AgC Tryz.prog 54 10 := ⟨⟨_, Tryz.underlying54, rfl, sz54⟩⟩
instance : SlC Tryz.prog 61 3 1 := ⟨Tryz.underlying61, sz3⟩
instance : LdC Tryz.prog 68 := ⟨⟨_, Tryz.underlying68, rfl⟩⟩
instance : SlC Tryz.prog 68 123 4 := ⟨Tryz.underlying68, sz123⟩
instance : AgC Tryz.prog 70 2 := ⟨⟨_, Tryz.underlying70, rfl, sz70⟩⟩
instance : LdC Tryz.prog 82 := ⟨⟨_, Tryz.underlying82, rfl⟩⟩
instance : LdC Tryz.prog 83 := ⟨⟨_, Tryz.underlying83, rfl⟩⟩
instance : PtC Tryz.prog 83 := ⟨⟨_, Tryz.underlying83⟩⟩
instance : LdC Tryz.prog 84 := ⟨⟨_, Tryz.underlying84, rfl⟩⟩
instance : AgC Tryz.prog 86 2 := ⟨⟨_, Tryz.underlying86, rfl, sz86⟩⟩
instance : LdC Tryz.prog 102 := ⟨⟨_, Tryz.underlying102, rfl⟩⟩
instance : PtC Tryz.prog 102 := ⟨⟨_, Tryz.underlying102⟩⟩
instance : PtC Tryz.prog 109 := ⟨⟨_, Tryz.underlying109⟩⟩
instance : SlC Tryz.prog 116 86 2 := ⟨Tryz.underlying116, sz86⟩
instance : AgC Tryz.prog 123 4 := ⟨⟨_, Tryz.underlying123, rfl, sz123⟩⟩
instance : LdC Tryz.prog 131 := ⟨⟨_, Tryz.underlying131, rfl⟩⟩
instance : PtC Tryz.prog 131 := ⟨⟨_, Tryz.underlying131⟩⟩
instance : LdC Tryz.prog 144 := ⟨⟨_, Tryz.underlying144, rfl⟩⟩
instance : LdC Tryz.prog 165 := ⟨⟨_, Tryz.underlying165, rfl⟩⟩
instance : AgC Tryz.prog 167 1 := ⟨⟨_, Tryz.underlying167, rfl, sz167⟩⟩
instance : EnC Tryz.prog 100 := ⟨en100⟩
instance : EnC Tryz.prog 101 := ⟨en101⟩
instance : EnC Tryz.prog 102 := ⟨en102⟩
instance : EnC Tryz.prog 103 := ⟨en103⟩
instance : EnC Tryz.prog 104 := ⟨en104⟩
instance : EnC Tryz.prog 105 := ⟨en105⟩
instance : EnC Tryz.prog 106 := ⟨en106⟩
instance : EnC Tryz.prog 107 := ⟨en107⟩
instance : EnC Tryz.prog 109 := ⟨en109⟩
instance : EnC Tryz.prog 11 := ⟨en11⟩
instance : EnC Tryz.prog 110 := ⟨en110⟩
instance : EnC Tryz.prog 111 := ⟨en111⟩
instance : EnC Tryz.prog 112 := ⟨en112⟩
instance : EnC Tryz.prog 113 := ⟨en113⟩
instance : EnC Tryz.prog 115 := ⟨en115⟩
instance : EnC Tryz.prog 116 := ⟨en116⟩
instance : EnC Tryz.prog 117 := ⟨en117⟩
instance : EnC Tryz.prog 118 := ⟨en118⟩
instance : EnC Tryz.prog 119 := ⟨en119⟩
instance : EnC Tryz.prog 12 := ⟨en12⟩
instance : EnC Tryz.prog 120 := ⟨en120⟩
instance : EnC Tryz.prog 121 := ⟨en121⟩
instance : EnC Tryz.prog 122 := ⟨en122⟩
instance : EnC Tryz.prog 123 := ⟨en123⟩
instance : EnC Tryz.prog 124 := ⟨en124⟩
instance : EnC Tryz.prog 125 := ⟨en125⟩
instance : EnC Tryz.prog 126 := ⟨en126⟩
instance : EnC Tryz.prog 128 := ⟨en128⟩
instance : EnC Tryz.prog 129 := ⟨en129⟩
instance : EnC Tryz.prog 13 := ⟨en13⟩
instance : EnC Tryz.prog 130 := ⟨en130⟩
instance : EnC Tryz.prog 131 := ⟨en131⟩
instance : EnC Tryz.prog 132 := ⟨en132⟩
instance : EnC Tryz.prog 137 := ⟨en137⟩
instance : EnC Tryz.prog 139 := ⟨en139⟩
instance : EnC Tryz.prog 14 := ⟨en14⟩
instance : EnC Tryz.prog 143 := ⟨en143⟩
instance : EnC Tryz.prog 149 := ⟨en149⟩
instance : EnC Tryz.prog 15 := ⟨en15⟩
instance : EnC Tryz.prog 16 := ⟨en16⟩
instance : EnC Tryz.prog 17 := ⟨en17⟩
instance : EnC Tryz.prog 18 := ⟨en18⟩
instance : EnC Tryz.prog 19 := ⟨en19⟩
instance : EnC Tryz.prog 20 := ⟨en20⟩
instance : EnC Tryz.prog 21 := ⟨en21⟩
instance : EnC Tryz.prog 22 := ⟨en22⟩
instance : EnC Tryz.prog 23 := ⟨en23⟩
instance : EnC Tryz.prog 24 := ⟨en24⟩
instance : EnC Tryz.prog 25 := ⟨en25⟩
instance : EnC Tryz.prog 26 := ⟨en26⟩
instance : EnC Tryz.prog 27 := ⟨en27⟩
instance : EnC Tryz.prog 28 := ⟨en28⟩
instance : EnC Tryz.prog 29 := ⟨en29⟩
instance : EnC Tryz.prog 30 := ⟨en30⟩
instance : EnC Tryz.prog 31 := ⟨en31⟩
instance : EnC Tryz.prog 32 := ⟨en32⟩
instance : EnC Tryz.prog 33 := ⟨en33⟩
instance : EnC Tryz.prog 34 := ⟨en34⟩
instance : EnC Tryz.prog 35 := ⟨en35⟩
instance : EnC Tryz.prog 36 := ⟨en36⟩
instance : EnC Tryz.prog 37 := ⟨en37⟩
instance : EnC Tryz.prog 38 := ⟨en38⟩
instance : EnC Tryz.prog 39 := ⟨en39⟩
instance : EnC Tryz.prog 40 := ⟨en40⟩
instance : EnC Tryz.prog 41 := ⟨en41⟩
instance : EnC Tryz.prog 42 := ⟨en42⟩
instance : EnC Tryz.prog 43 := ⟨en43⟩
instance : EnC Tryz.prog 44 := ⟨en44⟩
instance : EnC Tryz.prog 45 := ⟨en45⟩
instance : EnC Tryz.prog 46 := ⟨en46⟩
instance : EnC Tryz.prog 47 := ⟨en47⟩
instance : EnC Tryz.prog 48 := ⟨en48⟩
instance : EnC Tryz.prog 49 := ⟨en49⟩
instance : EnC Tryz.prog 50 := ⟨en50⟩
instance : EnC Tryz.prog 51 := ⟨en51⟩
instance : EnC Tryz.prog 52 := ⟨en52⟩
instance : EnC Tryz.prog 53 := ⟨en53⟩
instance : EnC Tryz.prog 54 := ⟨en54⟩
instance : EnC Tryz.prog 55 := ⟨en55⟩
instance : EnC Tryz.prog 56 := ⟨en56⟩
instance : EnC Tryz.prog 57 := ⟨en57⟩
instance : EnC Tryz.prog 58 := ⟨en58⟩
instance : EnC Tryz.prog 59 := ⟨en59⟩
instance : EnC Tryz.prog 60 := ⟨en60⟩
instance : EnC Tryz.prog 61 := ⟨en61⟩
instance : EnC Tryz.prog 62 := ⟨en62⟩
instance : EnC Tryz.prog 63 := ⟨en63⟩
instance : EnC Tryz.prog 64 := ⟨en64⟩
instance : EnC Tryz.prog 66 := ⟨en66⟩
instance : EnC Tryz.prog 67 := ⟨en67⟩
instance : EnC Tryz.prog 76 := ⟨en76⟩
instance : EnC Tryz.prog 77 := ⟨en77⟩
instance : EnC Tryz.prog 78 := ⟨en78⟩
instance : EnC Tryz.prog 79 := ⟨en79⟩
instance : EnC Tryz.prog 80 := ⟨en80⟩
instance : EnC Tryz.prog 81 := ⟨en81⟩
instance : EnC Tryz.prog 82 := ⟨en82⟩
instance : EnC Tryz.prog 83 := ⟨en83⟩
instance : EnC Tryz.prog 84 := ⟨en84⟩
instance : EnC Tryz.prog 85 := ⟨en85⟩
instance : EnC Tryz.prog 86 := ⟨en86⟩
instance : EnC Tryz.prog 87 := ⟨en87⟩
instance : EnC Tryz.prog 88 := ⟨en88⟩
instance : EnC Tryz.prog 89 := ⟨en89⟩
instance : EnC Tryz.prog 90 := ⟨en90⟩
instance : EnC Tryz.prog 91 := ⟨en91⟩
instance : EnC Tryz.prog 92 := ⟨en92⟩
instance : EnC Tryz.prog 93 := ⟨en93⟩
instance : EnC Tryz.prog 94 := ⟨en94⟩
instance : EnC Tryz.prog 95 := ⟨en95⟩
instance : EnC Tryz.prog 96 := ⟨en96⟩
instance : EnC Tryz.prog 97 := ⟨en97⟩
instance : EnC Tryz.prog 98 := ⟨en98⟩
instance : EnC Tryz.prog 99 := ⟨en99⟩
instance : FoC Tryz.prog 104 0 0 := ⟨fo104_0⟩
instance : FoC Tryz.prog 104 1 1 := ⟨fo104_1⟩
instance : FoC Tryz.prog 104 2 2 := ⟨fo104_2⟩
instance : FoC Tryz.prog 104 3 3 := ⟨fo104_3⟩
instance : FoC Tryz.prog 123 0 0 := ⟨fo123_0⟩
instance : FoC Tryz.prog 123 1 1 := ⟨fo123_1⟩
instance : FoC Tryz.prog 123 2 2 := ⟨fo123_2⟩
instance : FoC Tryz.prog 123 3 3 := ⟨fo123_3⟩
instance : FoC Tryz.prog 133 0 0 := ⟨fo133_0⟩
instance : FoC Tryz.prog 133 1 1 := ⟨fo133_1⟩
instance : FoC Tryz.prog 167 0 0 := ⟨fo167_0⟩
instance : FoC Tryz.prog 169 0 0 := ⟨fo169_0⟩
instance : FoC Tryz.prog 169 1 1 := ⟨fo169_1⟩
instance : FoC Tryz.prog 169 2 2 := ⟨fo169_2⟩
instance : FoC Tryz.prog 187 0 0 := ⟨fo187_0⟩
instance : FoC Tryz.prog 187 1 1 := ⟨fo187_1⟩
instance : FoC Tryz.prog 26 0 0 := ⟨fo26_0⟩
instance : FoC Tryz.prog 26 1 1 := ⟨fo26_1⟩
instance : FoC Tryz.prog 26 2 2 := ⟨fo26_2⟩
instance : FoC Tryz.prog 29 0 0 := ⟨fo29_0⟩
instance : FoC Tryz.prog 29 1 1 := ⟨fo29_1⟩
instance : FoC Tryz.prog 29 2 2 := ⟨fo29_2⟩
instance : FoC Tryz.prog 31 0 0 := ⟨fo31_0⟩
instance : FoC Tryz.prog 49 0 0 := ⟨fo49_0⟩
instance : FoC Tryz.prog 49 1 1 := ⟨fo49_1⟩
instance : FoC Tryz.prog 49 2 2 := ⟨fo49_2⟩
instance : FoC Tryz.prog 49 3 3 := ⟨fo49_3⟩
instance : FoC Tryz.prog 49 4 4 := ⟨fo49_4⟩
instance : FoC Tryz.prog 52 0 0 := ⟨fo52_0⟩
instance : FoC Tryz.prog 52 1 1 := ⟨fo52_1⟩
instance : FoC Tryz.prog 52 2 2 := ⟨fo52_2⟩
instance : FoC Tryz.prog 52 3 3 := ⟨fo52_3⟩
instance : FoC Tryz.prog 52 4 4 := ⟨fo52_4⟩
instance : FoC Tryz.prog 52 5 5 := ⟨fo52_5⟩
instance : FoC Tryz.prog 52 6 6 := ⟨fo52_6⟩
instance : FoC Tryz.prog 52 7 7 := ⟨fo52_7⟩
instance : FoC Tryz.prog 52 8 8 := ⟨fo52_8⟩
instance : FoC Tryz.prog 54 0 0 := ⟨fo54_0⟩
instance : FoC Tryz.prog 54 1 1 := ⟨fo54_1⟩
instance : FoC Tryz.prog 70 0 0 := ⟨fo70_0⟩
instance : FoC Tryz.prog 70 1 1 := ⟨fo70_1⟩
instance : FoC Tryz.prog 79 0 0 := ⟨fo79_0⟩
instance : FoC Tryz.prog 79 1 1 := ⟨fo79_1⟩
instance : FoC Tryz.prog 86 0 0 := ⟨fo86_0⟩
instance : FoC Tryz.prog 86 1 1 := ⟨fo86_1⟩
instance : FoC Tryz.prog 90 0 0 := ⟨fo90_0⟩
instance : FoC Tryz.prog 90 1 1 := ⟨fo90_1⟩
instance : FoC Tryz.prog 90 2 2 := ⟨fo90_2⟩
instance : FoC Tryz.prog 90 3 3 := ⟨fo90_3⟩
instance : FoC Tryz.prog 90 4 259 := ⟨fo90_4⟩
instance : PlC Tryz.prog 104 [(0, 1), (1, 1), (2, 1), (3, 1)] := ⟨pl104⟩
instance : PlC Tryz.prog 123 [(0, 1), (1, 1), (2, 1), (3, 1)] := ⟨pl123⟩
instance : PlC Tryz.prog 133 [(0, 1), (1, 1)] := ⟨pl133⟩
instance : PlC Tryz.prog 167 [(0, 1)] := ⟨pl167⟩
instance : PlC Tryz.prog 169 [(0, 1), (1, 1), (2, 1)] := ⟨pl169⟩
instance : PlC Tryz.prog 187 [(0, 1), (1, 1)] := ⟨pl187⟩
instance : PlC Tryz.prog 26 [(0, 1), (1, 1), (2, 1)] := ⟨pl26⟩
instance : PlC Tryz.prog 29 [(0, 1), (1, 1), (2, 1)] := ⟨pl29⟩
instance : PlC Tryz.prog 31 [(0, 1)] := ⟨pl31⟩
instance : PlC Tryz.prog 40 [(0, 1)] := ⟨pl40⟩
instance : PlC Tryz.prog 49 [(0, 1), (1, 1), (2, 1), (3, 1), (4, 1)] := ⟨pl49⟩
instance : PlC Tryz.prog 52 [(0, 1), (1, 1), (2, 1), (3, 1), (4, 1), (5, 1), (6, 1), (7, 1), (8, 1)] := ⟨pl52⟩
instance : PlC Tryz.prog 70 [(0, 1), (1, 1)] := ⟨pl70⟩
instance : PlC Tryz.prog 79 [(0, 1), (1, 1)] := ⟨pl79⟩
instance : PlC Tryz.prog 86 [(0, 1), (1, 1)] := ⟨pl86⟩
instance : PlC Tryz.prog 90 [(0, 1), (1, 1), (2, 1), (3, 256), (259, 1)] := ⟨pl90⟩
instance : SzC Tryz.prog 104 4 := ⟨sz104⟩
instance : SzC Tryz.prog 123 4 := ⟨sz123⟩
instance : SzC Tryz.prog 24 1 := ⟨sz24⟩
instance : SzC Tryz.prog 26 3 := ⟨sz26⟩
instance : SzC Tryz.prog 27 1 := ⟨sz27⟩
instance : SzC Tryz.prog 29 3 := ⟨sz29⟩
instance : SzC Tryz.prog 3 1 := ⟨sz3⟩
instance : SzC Tryz.prog 31 1 := ⟨sz31⟩
instance : SzC Tryz.prog 35 1 := ⟨sz35⟩
instance : SzC Tryz.prog 4 1 := ⟨sz4⟩
instance : SzC Tryz.prog 47 1 := ⟨sz47⟩
instance : SzC Tryz.prog 49 5 := ⟨sz49⟩
instance : SzC Tryz.prog 5 1 := ⟨sz5⟩
instance : SzC Tryz.prog 52 9 := ⟨sz52⟩
instance : SzC Tryz.prog 70 2 := ⟨sz70⟩
instance : SzC Tryz.prog 84 1 := ⟨sz84⟩
instance : SzC Tryz.prog 86 2 := ⟨sz86⟩
instance : SzC Tryz.prog 9 1 := ⟨sz9⟩
instance : ZeC Tryz.prog 104 (.agg #[.bool false, .slice none 0 0, .string ByteArray.empty, .int .i64 0]) := ⟨ze104⟩
instance : ZeC Tryz.prog 123 (.agg #[.int .i64 0, .int .i64 0, .string ByteArray.empty, .bool false]) := ⟨ze123⟩
instance : ZeC Tryz.prog 133 (.agg #[.pointer none, .int .i64 0]) := ⟨ze133⟩
instance : ZeC Tryz.prog 167 (.agg #[.map none]) := ⟨ze167⟩
instance : ZeC Tryz.prog 169 (.agg #[.bool false, .map none, .slice none 0 0]) := ⟨ze169⟩
instance : ZeC Tryz.prog 187 (.agg #[.string ByteArray.empty, .int .i64 0]) := ⟨ze187⟩
instance : ZeC Tryz.prog 24 (.slice none 0 0) := ⟨ze24⟩
instance : ZeC Tryz.prog 26 (.agg #[.string ByteArray.empty, .bool false, .int .i64 0]) := ⟨ze26⟩
instance : ZeC Tryz.prog 27 (.slice none 0 0) := ⟨ze27⟩
instance : ZeC Tryz.prog 29 (.agg #[.string ByteArray.empty, .bool false, .slice none 0 0]) := ⟨ze29⟩
instance : ZeC Tryz.prog 31 (.agg #[.slice none 0 0]) := ⟨ze31⟩
instance : ZeC Tryz.prog 35 (.int .i64 0) := ⟨ze35⟩
instance : ZeC Tryz.prog 4 (.bool false) := ⟨ze4⟩
instance : ZeC Tryz.prog 40 (.agg #[.slice none 0 0]) := ⟨ze40⟩
instance : ZeC Tryz.prog 47 (.slice none 0 0) := ⟨ze47⟩
instance : ZeC Tryz.prog 49 (.agg #[.int .i64 0, .int .i64 0, .int .i64 0, .slice none 0 0, .slice none 0 0]) := ⟨ze49⟩
instance : ZeC Tryz.prog 52 (.agg #[.int .i64 0, .string ByteArray.empty, .string ByteArray.empty, .int .i64 0, .int .i64 0, .int .i64 0, .bool false, .bool false, .slice none 0 0]) := ⟨ze52⟩
instance : ZeC Tryz.prog 62 (.agg #[.int .i64 0, .int .i64 0, .int .i64 0, .int .i64 0, .int .i64 0, .int .i64 0, .int .i64 0, .int .i64 0, .int .i64 0, .int .i64 0, .int .i64 0, .int .i64 0]) := ⟨ze62⟩
instance : ZeC Tryz.prog 70 (.agg #[.slice none 0 0, .slice none 0 0]) := ⟨ze70⟩
instance : ZeC Tryz.prog 79 (.agg #[.slice none 0 0, .bool false]) := ⟨ze79⟩
instance : ZeC Tryz.prog 86 (.agg #[.string ByteArray.empty, .bool false]) := ⟨ze86⟩
instance : ZeC Tryz.prog 90 (.agg #[.nilIface, .pointer none, .map none, .string ByteArray.empty, .bool false, .string ByteArray.empty, .bool false, .string ByteArray.empty, .bool false, .string ByteArray.empty, .bool false, .string ByteArray.empty, .bool false, .string ByteArray.empty, .bool false, .string ByteArray.empty, .bool false, .string ByteArray.empty, .bool false, .string ByteArray.empty, .bool false, .string ByteArray.empty, .bool false, .string ByteArray.empty, .bool false, .string ByteArray.empty, .bool false, .string ByteArray.empty, .bool false, .string ByteArray.empty, .bool false, .string ByteArray.empty, .bool false, .string ByteArray.empty, .bool false, .string ByteArray.empty, .bool false, .string ByteArray.empty, .bool false, .string ByteArray.empty, .bool false, .string ByteArray.empty, .bool false, .string ByteArray.empty, .bool false, .string ByteArray.empty, .bool false, .string ByteArray.empty, .bool false, .string ByteArray.empty, .bool false, .string ByteArray.empty, .bool false, .string ByteArray.empty, .bool false, .string ByteArray.empty, .bool false, .string ByteArray.empty, .bool false, .string ByteArray.empty, .bool false, .string ByteArray.empty, .bool false, .string ByteArray.empty, .bool false, .string ByteArray.empty, .bool false, .string ByteArray.empty, .bool false, .string ByteArray.empty, .bool false, .string ByteArray.empty, .bool false, .string ByteArray.empty, .bool false, .string ByteArray.empty, .bool false, .string ByteArray.empty, .bool false, .string ByteArray.empty, .bool false, .string ByteArray.empty, .bool false, .string ByteArray.empty, .bool false, .string ByteArray.empty, .bool false, .string ByteArray.empty, .bool false, .string ByteArray.empty, .bool false, .string ByteArray.empty, .bool false, .string ByteArray.empty, .bool false, .string ByteArray.empty, .bool false, .string ByteArray.empty, .bool false, .string ByteArray.empty, .bool false, .string ByteArray.empty, .bool false, .string ByteArray.empty, .bool false, .string ByteArray.empty, .bool false, .string ByteArray.empty, .bool false, .string ByteArray.empty, .bool false, .string ByteArray.empty, .bool false, .string ByteArray.empty, .bool false, .string ByteArray.empty, .bool false, .string ByteArray.empty, .bool false, .string ByteArray.empty, .bool false, .string ByteArray.empty, .bool false, .string ByteArray.empty, .bool false, .string ByteArray.empty, .bool false, .string ByteArray.empty, .bool false, .string ByteArray.empty, .bool false, .string ByteArray.empty, .bool false, .string ByteArray.empty, .bool false, .string ByteArray.empty, .bool false, .string ByteArray.empty, .bool false, .string ByteArray.empty, .bool false, .string ByteArray.empty, .bool false, .string ByteArray.empty, .bool false, .string ByteArray.empty, .bool false, .string ByteArray.empty, .bool false, .string ByteArray.empty, .bool false, .string ByteArray.empty, .bool false, .string ByteArray.empty, .bool false, .string ByteArray.empty, .bool false, .string ByteArray.empty, .bool false, .string ByteArray.empty, .bool false, .string ByteArray.empty, .bool false, .string ByteArray.empty, .bool false, .string ByteArray.empty, .bool false, .string ByteArray.empty, .bool false, .string ByteArray.empty, .bool false, .string ByteArray.empty, .bool false, .string ByteArray.empty, .bool false, .string ByteArray.empty, .bool false, .string ByteArray.empty, .bool false, .string ByteArray.empty, .bool false, .string ByteArray.empty, .bool false, .string ByteArray.empty, .bool false, .string ByteArray.empty, .bool false, .string ByteArray.empty, .bool false, .string ByteArray.empty, .bool false, .string ByteArray.empty, .bool false, .string ByteArray.empty, .bool false, .string ByteArray.empty, .bool false, .string ByteArray.empty, .bool false, .string ByteArray.empty, .bool false, .string ByteArray.empty, .bool false, .string ByteArray.empty, .bool false, .string ByteArray.empty, .bool false, .string ByteArray.empty, .bool false, .string ByteArray.empty, .bool false, .string ByteArray.empty, .bool false, .string ByteArray.empty, .bool false, .string ByteArray.empty, .bool false, .string ByteArray.empty, .bool false, .string ByteArray.empty, .bool false, .string ByteArray.empty, .bool false, .string ByteArray.empty, .bool false, .string ByteArray.empty, .bool false, .string ByteArray.empty, .bool false, .string ByteArray.empty, .bool false, .string ByteArray.empty, .bool false, .string ByteArray.empty, .bool false, .string ByteArray.empty, .bool false, .string ByteArray.empty, .bool false, .string ByteArray.empty, .bool false, .string ByteArray.empty, .bool false, .string ByteArray.empty, .bool false, .string ByteArray.empty, .bool false, .string ByteArray.empty, .bool false, .string ByteArray.empty, .bool false, .string ByteArray.empty, .bool false, .string ByteArray.empty, .bool false, .string ByteArray.empty, .bool false, .string ByteArray.empty, .bool false, .int .i64 0]) := ⟨ze90⟩
end Go.Proofs.YtigfbpbnohkokaaGreat

namespace Go.Proofs.YtigfbpbnohkokaaGreat
open Go Go.Fw
set_option linter.unusedVariables false
set_option linter.unusedSimpArgs false

/-- A text's pieces, between any slashes. -/
def splitS : List UInt8 → List (List UInt8)
 | [] => [[]]
 | c :: s => if c = 47 then [] :: splitS s else match splitS s with
  | [] => [[c]]
  | p :: r => (c :: p) :: r
/-- Pieces with a slash between. -/
def joinS : List (List UInt8) → List UInt8
 | [] => []
 | [p] => p
 | p :: q :: r => p ++ 47 :: joinS (q :: r)

theorem splitS_ne : ∀ s, splitS s ≠ []
 | [] => by simp [splitS]
 | c :: s => by
  unfold splitS
  split
  ·simp
  ·split <;> simp
theorem splitS_ex (s : List UInt8) : ∃ p r, splitS s = p :: r := by
 cases h : splitS s with
 | nil => exact absurd h (splitS_ne s)
 | cons p r => exact ⟨p, r, rfl⟩
theorem joinS_cons {p : List UInt8} {r : List (List UInt8)} (h : r ≠ []) : joinS (p :: r) = p ++ 47 :: joinS r := by
 cases r with
 | nil => exact absurd rfl h
 | cons q r => rfl
theorem joinS_splitS : ∀ s, joinS (splitS s) = s
 | [] => rfl
 | c :: s => by
  have ih := joinS_splitS s
  unfold splitS
  split
  ·rename_i hc; subst hc
   rw [joinS_cons (splitS_ne s), ih]; rfl
  ·obtain ⟨p, r, hs⟩ := splitS_ex s
   rw [hs] at ih ⊢
   simp only
   cases r with
   | nil => simp [joinS] at ih ⊢; exact ih
   | cons q r => simp only [joinS, List.cons_append] at ih ⊢; rw [ih]
theorem splitS_no : ∀ s, ∀ p ∈ splitS s, (47 : UInt8) ∉ p
 | [], p, hp => by simp [splitS] at hp; subst hp; simp
 | c :: s, p, hp => by
  unfold splitS at hp
  split at hp
  ·rcases List.mem_cons.1 hp with rfl | hp
   ·simp
   ·exact splitS_no s p hp
  ·rename_i hc
   obtain ⟨q, r, hs⟩ := splitS_ex s
   rw [hs] at hp
   simp only at hp
   have ih := splitS_no s
   rw [hs] at ih
   rcases List.mem_cons.1 hp with rfl | hp
   ·have := ih q (by simp)
    simp only [List.mem_cons, not_or]
    exact ⟨fun e => hc e.symm, this⟩
   ·exact ih p (by simp [hp])
theorem splitS_one : ∀ {s : List UInt8}, (47 : UInt8) ∉ s → splitS s = [s]
 | [], _ => rfl
 | c :: s, h => by
  simp only [List.mem_cons, not_or] at h
  unfold splitS
  rw [if_neg (fun e => h.1 e.symm), splitS_one h.2]
theorem splitS_app : ∀ {p : List UInt8} (s : List UInt8), (47 : UInt8) ∉ p → splitS (p ++ 47 :: s) = p :: splitS s
 | [], s, _ => by simp [splitS]
 | c :: p, s, h => by
  simp only [List.mem_cons, not_or] at h
  rw [List.cons_append]
  conv => lhs; unfold splitS
  rw [if_neg (fun e => h.1 e.symm), splitS_app s h.2]
theorem splitS_joinS : ∀ {l : List (List UInt8)}, l ≠ [] → (∀ p ∈ l, (47 : UInt8) ∉ p) → splitS (joinS l) = l
 | [], h, _ => absurd rfl h
 | [p], _, h => splitS_one (h p (by simp))
 | p :: q :: r, _, h => by
  unfold joinS
  rw [splitS_app _ (h p (by simp)), splitS_joinS (by simp) (fun x hx => h x (by simp at hx ⊢; exact .inr hx))]

theorem splitS_idx_none {s : List UInt8} (h : Lib.indexByte s 47 = -1) : splitS s = [s] :=
 splitS_one fun hm => by
  obtain ⟨k, hk⟩ := List.mem_iff_getElem?.1 hm
  exact Lib.indexByte_none h k hk
theorem splitS_idx {s : List UInt8} {o : Nat} (h : Lib.indexByte s 47 = (o : Int)) : splitS s = s.take o :: splitS (s.drop (o + 1)) ∧ o < s.length := by
 obtain ⟨h1, h2⟩ := Lib.indexByte_some h
 have hlt := (List.getElem?_eq_some_iff.1 h1).1
 refine ⟨?_, hlt⟩
 have hd : s.drop o = 47 :: s.drop (o + 1) := by
  rw [List.drop_eq_getElem_cons hlt]
  congr 1
  exact (List.getElem?_eq_some_iff.1 h1).2
 conv => lhs; rw [← List.take_append_drop o s, hd]
 refine splitS_app _ (fun hm => ?_)
 obtain ⟨k, hk⟩ := List.mem_iff_getElem?.1 hm
 rw [List.getElem?_take] at hk
 split at hk
 ·rename_i hlk; exact h2 k hlk hk
 ·cases hk

/-! ## What the functions tell -/
def nameC (c : UInt8) : Prop := 32 ≤ c.toNat ∧ c.toNat ≤ 126 ∧ c.toNat ≠ 47 ∧ c.toNat ≠ 92
instance (c : UInt8) : Decidable (nameC c) := by unfold nameC; infer_instance
def nameOK (s : List UInt8) : Prop := 1 ≤ s.length ∧ s.length ≤ 32 ∧ s ≠ [46] ∧ s ≠ [46, 46] ∧ ∀ c ∈ s, nameC c
instance (s : List UInt8) : Decidable (nameOK s) := by unfold nameOK; infer_instance
def nameP (s : List UInt8) : Int := if nameOK s then 0 else 8
def allOK (l : List (List UInt8)) : Prop := ∀ p ∈ l, nameOK p
instance (l : List (List UInt8)) : Decidable (allOK l) := by unfold allOK; infer_instance
def splitP (p : List UInt8) : Option (List (List UInt8)) :=
 if p = [] then some [] else if 120 < p.length then none else if (splitS p).length ≤ 8 ∧ allOK (splitS p) then some (splitS p) else none
def joinP (l : List (List UInt8)) : Option (List UInt8) :=
 if l.length ≤ 8 ∧ allOK l ∧ (joinS l).length ≤ 120 then some (joinS l) else none
def cleanStep (l : List (List UInt8)) (p : List UInt8) : List (List UInt8) := if p = [] ∨ p = [46] then l else if p = [46, 46] then l.dropLast else l ++ [p]
def cleanL (s : List UInt8) : List (List UInt8) := (splitS s).foldl cleanStep []
/-- The path, and the error. -/
def cleanP (s : List UInt8) : List UInt8 × Int := if 1024 < s.length then ([], 3) else match joinP (cleanL s) with | some p => (p, 0) | none => ([], 8)
def parentP (p : List UInt8) : List UInt8 × List UInt8 × Int :=
 match splitP p with
 | none => ([], [], 8)
 | some l => if l = [] then ([], [], 9) else (joinS l.dropLast, l.getLast?.getD [], 0)
def underP (p dir : List UInt8) : Bool :=
 match splitP p, splitP dir with
 | some a, some b => b.isPrefixOf a
 | _, _ => false
/-- A path's names, whatever they are; the root has none. -/
def namesP (p : List UInt8) : List (List UInt8) := if p = [] then [] else splitS p
def compareL : List (List UInt8) → List (List UInt8) → Int
 | [], [] => 0
 | [], _ :: _ => -1
 | _ :: _, [] => 1
 | p :: a, q :: b => if Lib.compareBytes p q ≠ 0 then Lib.compareBytes p q else compareL a b
def compareP (a b : List UInt8) : Int := compareL (namesP a) (namesP b)
theorem rune_name {s : List UInt8} {pos : Nat} {c : UInt8} (hc : s[pos]? = some c) : (32 ≤ (Utf8.decode (strB s) pos).1 ∧ (Utf8.decode (strB s) pos).1 ≤ 126 ∧ (Utf8.decode (strB s) pos).1 ≠ 47 ∧ (Utf8.decode (strB s) pos).1 ≠ 92) ↔ nameC c := by
 unfold nameC
 by_cases h : c.toNat < 128
 ·rw [decode_lo hc h]
 ·have := decode_hi hc (by omega)
  omega
theorem rune_one {s : List UInt8} {pos : Nat} {c : UInt8} (hc : s[pos]? = some c) (h : nameC c) : nxtP s pos = pos + 1 := by
 unfold nxtP
 rw [if_pos (List.getElem?_eq_some_iff.1 hc).1, decode_lo hc (by have := h.2.1; omega)]
theorem nameP_bad {s : List UInt8} {pos : Nat} {c : UInt8} (hc : s[pos]? = some c) (h : ¬ nameC c) : nameP s = 8 := by
 rw [nameP, if_neg (fun h2 => h (h2.2.2.2.2 c (List.mem_of_getElem? hc)))]
theorem nameP_ok {s : List UInt8} (h1 : 1 ≤ s.length) (h2 : s.length ≤ 32) (h3 : s ≠ [46]) (h4 : s ≠ [46, 46]) (h : ∀ (k : Nat) c, k < s.length → s[k]? = some c → nameC c) : nameP s = 0 := by
 rw [nameP, if_pos]
 refine ⟨h1, h2, h3, h4, fun c hc => ?_⟩
 obtain ⟨k, hk⟩ := List.mem_iff_getElem?.1 hc
 exact h k c (List.getElem?_eq_some_iff.1 hk).1 hk
theorem nameP_zero {s : List UInt8} : nameP s = 0 ↔ nameOK s := by unfold nameP; split <;> simp [*]
theorem nameOK_no {s : List UInt8} (h : nameOK s) : (47 : UInt8) ∉ s := fun hm => (h.2.2.2.2 _ hm).2.2.1 rfl
theorem namesP_some {p : List UInt8} (h : p ≠ []) : namesP p = splitS p := if_neg h

theorem c47 {c : UInt8} (h : (c.toNat : Int) = 47) : c = 47 := by
 have h2 : c.toNat = 47 := by omega
 exact UInt8.toNat_inj.1 (h2.trans rfl)
/-- Where the reference stands in a text. -/
def PInv (s : List UInt8) (i q : Nat) (A : List (List UInt8)) : Prop :=
 A.length ≤ i ∧ ((i ≤ s.length ∧ q ≤ i ∧ splitS s = A ++ splitS (s.drop q) ∧ (47 : UInt8) ∉ (s.drop q).take (i - q)) ∨ (i = s.length + 1 ∧ splitS s = A))
theorem PInv.zero (s : List UInt8) : PInv s 0 0 [] := ⟨Nat.le_refl _, .inl ⟨Nat.zero_le _, Nat.le_refl _, rfl, by simp⟩⟩
theorem PInv.last {s : List UInt8} {q : Nat} {A : List (List UInt8)} (h : PInv s s.length q A) : q ≤ s.length ∧ PInv s (s.length + 1) (s.length + 1) (A ++ [(s.drop q).take (s.length - q)]) := by
 rcases h with ⟨h0, ⟨_, h1, h2, h3⟩ | ⟨h1, _⟩⟩
 ·refine ⟨h1, by simp; omega, .inr ⟨rfl, ?_⟩⟩
  have e : (s.drop q).take (s.length - q) = s.drop q := List.take_of_length_le (by simp)
  rw [e] at h3 ⊢
  rw [h2, splitS_one h3]
 ·omega
theorem PInv.slash {s : List UInt8} {i q : Nat} {A : List (List UInt8)} (h : PInv s i q A) (hi : s[i]? = some 47) : q ≤ i ∧ PInv s (i + 1) (i + 1) (A ++ [(s.drop q).take (i - q)]) := by
 have hlt := (List.getElem?_eq_some_iff.1 hi).1
 rcases h with ⟨h0, ⟨_, h1, h2, h3⟩ | ⟨h1, _⟩⟩
 ·refine ⟨h1, by simp; omega, .inl ⟨by omega, Nat.le_refl _, ?_, by simp⟩⟩
  have hd : s.drop q = (s.drop q).take (i - q) ++ 47 :: s.drop (i + 1) := by
   conv => lhs; rw [← List.take_append_drop (i - q) (s.drop q)]
   rw [List.drop_drop, show q + (i - q) = i from by omega]
   congr 1
   rw [List.drop_eq_getElem_cons hlt]
   congr 1
   exact (List.getElem?_eq_some_iff.1 hi).2
  rw [h2]
  conv => lhs; rw [hd]
  rw [splitS_app _ h3]
  simp
 ·omega
theorem PInv.other {s : List UInt8} {i q : Nat} {A : List (List UInt8)} {c : UInt8} (h : PInv s i q A) (hi : s[i]? = some c) (hc : c ≠ 47) : PInv s (i + 1) q A := by
 have hlt := (List.getElem?_eq_some_iff.1 hi).1
 rcases h with ⟨h0, ⟨_, h1, h2, h3⟩ | ⟨h1, _⟩⟩
 ·refine ⟨by omega, .inl ⟨by omega, by omega, h2, ?_⟩⟩
  rw [show i + 1 - q = (i - q) + 1 from by omega, List.take_add_one]
  simp only [List.mem_append, not_or]
  refine ⟨h3, ?_⟩
  rw [List.getElem?_drop, show q + (i - q) = i from by omega, hi]
  simpa using fun e => hc e.symm
 ·omega
theorem PInv.done {s : List UInt8} {i q : Nat} {A : List (List UInt8)} (h : PInv s i q A) (hi : s.length < i) : splitS s = A := by
 rcases h with ⟨h0, ⟨h1, _⟩ | ⟨_, h1⟩⟩
 ·omega
 ·exact h1

abbrev ptr (b : Nat) : Value := .pointer (some ⟨b, 0, none⟩)
def splitE (p : List UInt8) : Int := if (splitP p).isSome then 0 else 8
def splitN (p : List UInt8) : List (List UInt8) := (splitP p).getD []
theorem splitP_bad {p : List UInt8} (h0 : p ≠ []) (h : ¬ ((splitS p).length ≤ 8 ∧ allOK (splitS p))) : splitP p = none := by
 unfold splitP; rw [if_neg h0, if_neg h]; split <;> rfl
theorem splitP_long {p : List UInt8} (h : 120 < p.length) : splitP p = none := by
 unfold splitP; rw [if_neg (by intro e; subst e; simp at h), if_pos h]
theorem splitP_good {p : List UInt8} (h0 : p ≠ []) (h1 : p.length ≤ 120) (h : (splitS p).length ≤ 8 ∧ allOK (splitS p)) : splitP p = some (splitS p) := by
 unfold splitP; rw [if_neg h0, if_neg (by omega), if_pos h]
theorem splitE_none {p : List UInt8} (h : splitP p = none) : splitE p = 8 ∧ splitN p = [] := by simp [splitE, splitN, h]
theorem splitE_some {p : List UInt8} {l : List (List UInt8)} (h : splitP p = some l) : splitE p = 0 ∧ splitN p = l := by simp [splitE, splitN, h]
theorem joinS_split {s p : List UInt8} {q : List (List UInt8)} (h : splitS s = p :: q) : s = joinS (p :: q) := by rw [← h, joinS_splitS]
theorem split_rest {s p : List UInt8} {q : List (List UInt8)} (h : splitS s = p :: q) (hq : q ≠ []) : splitS (joinS q) = q :=
 splitS_joinS hq fun x hx => splitS_no s x (by rw [h]; exact List.mem_cons_of_mem _ hx)
theorem joinS_len {p : List UInt8} {q : List (List UInt8)} (hq : q ≠ []) : (joinS (p :: q)).length = p.length + 1 + (joinS q).length := by rw [joinS_cons hq]; simp; omega

theorem joinS_le : ∀ {l : List (List UInt8)} {k : Nat}, (∀ x ∈ l, x.length ≤ k) → (joinS l).length ≤ (k + 1) * l.length
 | [], k, _ => by simp [joinS]
 | [p], k, h => by have := h p (by simp); simp [joinS]; omega
 | p :: q :: r, k, h => by
  have h1 := h p (by simp)
  have h2 := joinS_le (l := q :: r) (k := k) (fun x hx => h x (List.mem_cons_of_mem _ hx))
  simp only [joinS, List.length_append, List.length_cons] at h2 ⊢
  rw [Nat.mul_succ (k + 1)]
  omega
theorem joinS_snoc : ∀ (a : List (List UInt8)) (x : List UInt8), joinS (a ++ [x]) = if a = [] then x else joinS a ++ 47 :: x
 | [], x => rfl
 | [p], x => by simp [joinS]
 | p :: q :: r, x => by
  have := joinS_snoc (q :: r) x
  simp only [List.cons_append, joinS] at this ⊢
  rw [this]; simp
theorem allOK_len {l : List (List UInt8)} (h : allOK l) : ∀ x ∈ l, x.length ≤ 32 := fun x hx => (h x hx).2.1
def joinE (l : List (List UInt8)) : Int := if (joinP l).isSome then 0 else 8
def joinV (l : List (List UInt8)) : List UInt8 := (joinP l).getD []
theorem joinP_many {l : List (List UInt8)} (h : 8 < l.length) : joinE l = 8 ∧ joinV l = [] := by
 have : joinP l = none := by unfold joinP; rw [if_neg (by intro h2; omega)]
 simp [joinE, joinV, this]
theorem joinP_bad {l : List (List UInt8)} {x : List UInt8} (hx : x ∈ l) (h : ¬ nameOK x) : joinE l = 8 ∧ joinV l = [] := by
 have : joinP l = none := by unfold joinP; rw [if_neg (by intro h2; exact h (h2.2.1 x hx))]
 simp [joinE, joinV, this]
theorem joinP_long {l : List (List UInt8)} (h : 120 < (joinS l).length) : joinE l = 8 ∧ joinV l = [] := by
 have : joinP l = none := by unfold joinP; rw [if_neg (by intro h2; have := h2.2.2; omega)]
 simp [joinE, joinV, this]
theorem joinP_good {l : List (List UInt8)} (h1 : l.length ≤ 8) (h2 : allOK l) (h3 : (joinS l).length ≤ 120) : joinE l = 0 ∧ joinV l = joinS l := by
 have : joinP l = some (joinS l) := by unfold joinP; rw [if_pos ⟨h1, h2, h3⟩]
 simp [joinE, joinV, this]
theorem cleanP_long {s : List UInt8} (h : 1024 < s.length) : cleanP s = ([], 3) := by unfold cleanP; rw [if_pos h]
theorem cleanP_join {s : List UInt8} (h : s.length ≤ 1024) : cleanP s = (joinV (cleanL s), joinE (cleanL s)) := by
 unfold cleanP joinV joinE; rw [if_neg (by omega)]
 cases joinP (cleanL s) <;> rfl
theorem splitS_len : ∀ s : List UInt8, (splitS s).length ≤ s.length + 1
 | [] => by simp [splitS]
 | c :: s => by
  have ih := splitS_len s
  unfold splitS
  split
  ·simp; omega
  ·obtain ⟨p, r, hs⟩ := splitS_ex s
   rw [hs] at ih ⊢
   simp at ih ⊢; omega
theorem all_take {l : List (List UInt8)} {q : Nat} {x : List UInt8} (h : ∀ (k : Nat) y, k < q → l[k]? = some y → nameOK y) (hx : l[q]? = some x) (hn : nameOK x) : ∀ (k : Nat) y, k < q + 1 → l[k]? = some y → nameOK y := by
 intro k y hk hy
 rcases Nat.lt_or_ge k q with h1 | h1
 ·exact h k y h1 hy
 ·have : k = q := by omega
  subst this; rw [hx] at hy; cases hy; exact hn
theorem all_all {l : List (List UInt8)} (h : ∀ (k : Nat) y, k < l.length → l[k]? = some y → nameOK y) : allOK l := fun x hx => by
 obtain ⟨k, hk⟩ := List.mem_iff_getElem?.1 hx
 exact h k x (List.getElem?_eq_some_iff.1 hk).1 hk
theorem get_lt {α : Type} {l : List α} {q : Nat} (h : q < l.length) : ∃ x, l[q]? = some x := ⟨l[q], List.getElem?_eq_getElem h⟩
theorem take_snoc {α : Type} {l : List α} {q : Nat} {x : α} (h : l[q]? = some x) : l.take (q + 1) = l.take q ++ [x] := by rw [List.take_add_one, h]; rfl

theorem cleanStep_dot {A : List (List UInt8)} {p : List UInt8} (h : p = [] ∨ p = [46]) : cleanStep A p = A := by unfold cleanStep; rw [if_pos h]
theorem cleanStep_up {A : List (List UInt8)} {p : List UInt8} (h1 : p ≠ []) (h2 : p ≠ [46]) (h : p = [46, 46]) : cleanStep A p = A.take (A.length - 1) := by
 unfold cleanStep; rw [if_neg (by simp [h1, h2]), if_pos h, List.dropLast_eq_take]
theorem cleanStep_in {A : List (List UInt8)} {p : List UInt8} (h1 : p ≠ []) (h2 : p ≠ [46]) (h : p ≠ [46, 46]) : cleanStep A p = A ++ [p] := by
 unfold cleanStep; rw [if_neg (by simp [h1, h2]), if_neg h]
end Go.Proofs.YtigfbpbnohkokaaGreat

namespace Go.Proofs.YtigfbpbnohkokaaGreat
open Go Go.Fw Go.RowKit Go.Proofs
set_option linter.unusedVariables false
set_option linter.unusedSimpArgs false
set_option maxRecDepth 100000
set_option maxHeartbeats 4000000

-- valise/path.Name
theorem name_c {w0 : World} {s : List UInt8}  : Ret Tryz.prog 110 #[strV s] w0 fun r w' => r = .int .i64 (nameP s) ∧ New w0 w' := by
 have M : Sep w0 [] w0 := St.nil w0
 refine Ret.of_W Tryz.func110 rfl Tryz.ntmps110 rfl ?_
 refine spl 2 8 ?_ ?_
 ·intro hsp1
  refine go 1 ?_
  exact ⟨by rw [nameP, if_neg (fun h => by have := h.1; omega)], M.frm⟩
 ·intro hsp1
  refine spl 2 13 ?_ ?_
  ·intro hsp2
   refine go 1 ?_
   exact ⟨by rw [nameP, if_neg (fun h => by have := h.2.1; omega)], M.frm⟩
  ·intro hsp2
   refine spl 1 17 ?_ ?_
   ·intro hsp3
    refine go 1 ?_
    exact ⟨by rw [nameP, if_neg (fun h => h.2.2.1 hsp3)], M.frm⟩
   ·intro hsp3
    refine cnd 1 ?_ ?_
    ·intro hco4
     refine go 1 ?_
     exact ⟨by rw [nameP, if_neg (fun h => h.2.2.2.1 hco4)], M.frm⟩
    ·intro hco4
     refine go 0 ?_
     refine x_rngS rfl rfl rfl Tryz.underlying9 rfl ?_
     intro brange1 wrange1 hbrange1 hwrange1
     have M := M.acons hbrange1 hwrange1
     refine ⟨trivial, ?_⟩
     refine go 0 ?_
     refine W.loop (σ := Nat) (fun q => [(22, _)]) (fun q w => q ≤ s.length ∧ (∀ (k : Nat) c, k < q → s[k]? = some c → nameC c) ∧ Sep w0 [(brange1, .stringIter (strB s) q)] w) (fun q => s.length - q) 0 ⟨rfl, trivial⟩ ⟨Nat.zero_le _, fun k c h => by omega, M⟩ ?_
     rintro q w ⟨hle, hall, M⟩
     refine go 0 ?_
     refine x_nxtU rfl rfl rfl rfl (by first | exact M.at_ 0 rfl | exact M.at_ 1 rfl | exact M.at_ 2 rfl | exact M.at_ 3 rfl | exact M.at_ 4 rfl | exact M.at_ 5 rfl | exact M.at_ 6 rfl | exact M.at_ 7 rfl) ?_
     intro wnext1 hwnext1
     have M := by first | exact M.nxt 0 rfl hwnext1 | exact M.nxt 1 rfl hwnext1 | exact M.nxt 2 rfl hwnext1 | exact M.nxt 3 rfl hwnext1 | exact M.nxt 4 rfl hwnext1 | exact M.nxt 5 rfl hwnext1 | exact M.nxt 6 rfl hwnext1 | exact M.nxt 7 rfl hwnext1
     refine ⟨trivial, ?_⟩
     refine x_ext rfl rfl rfl rfl (nxt0 _ _) ?_
     refine cnd 0 ?_ ?_
     ·intro hco5
      obtain ⟨c, hc⟩ : ∃ c, s[q]? = some c := ⟨s[q], List.getElem?_eq_getElem hco5⟩
      have hr := rune_name hc
      refine go 0 ?_
      refine x_ext rfl rfl rfl rfl (nxt2 (by assumption)) ?_
      refine spl 1 28 ?_ ?_
      ·intro hsp4
       refine go 1 ?_
       exact ⟨by rw [nameP_bad hc (fun h => by have := hr.2 h; omega)], M.frm⟩
      ·intro hsp4
       refine spl 1 32 ?_ ?_
       ·intro hsp5
        refine go 1 ?_
        exact ⟨by rw [nameP_bad hc (fun h => by have := hr.2 h; omega)], M.frm⟩
       ·intro hsp5
        refine spl 1 36 ?_ ?_
        ·intro hsp6
         refine go 1 ?_
         exact ⟨by rw [nameP_bad hc (fun h => by have := hr.2 h; omega)], M.frm⟩
        ·intro hsp6
         refine cnd 1 ?_ ?_
         ·intro hco9
          refine go 1 ?_
          exact ⟨by rw [nameP_bad hc (fun h => by have := hr.2 h; omega)], M.frm⟩
         ·intro hco9
          refine go 0 ?_
          exact At.back (q + 1) ⟨rfl, trivial⟩ ⟨by omega, fun k c2 hk hc2 => by
           rcases Nat.lt_or_ge k q with h1 | h1
           ·exact hall k c2 h1 hc2
           ·have : k = q := by omega
            subst this; rw [hc] at hc2; cases hc2; exact hr.1 (by omega), by rw [← rune_one hc (hr.1 (by omega))]; exact M⟩ (by first | omega | (simp only; omega) | (simp; done) | (simp; omega))
     ·intro hco5
      refine go 1 ?_
      exact ⟨by rw [nameP_ok (by omega) (by omega) hsp3 hco4 (fun k c hk hc => hall k c (by omega) hc)], M.frm⟩

-- valise/valiseref13.Name
theorem rname_c {w0 : World} {s : List UInt8}  : Ret Tryz.prog 57 #[strV s] w0 fun r w' => r = .int .i64 (nameP s) ∧ New w0 w' := by
 have M : Sep w0 [] w0 := St.nil w0
 refine Ret.of_W Tryz.func57 rfl Tryz.ntmps57 rfl ?_
 refine spl 2 7 ?_ ?_
 ·intro hsp1
  refine go 1 ?_
  exact ⟨by rw [nameP, if_neg (fun h => by have := h.1; omega)], M.frm⟩
 ·intro hsp1
  refine spl 2 12 ?_ ?_
  ·intro hsp2
   refine go 1 ?_
   exact ⟨by rw [nameP, if_neg (fun h => by have := h.2.1; omega)], M.frm⟩
  ·intro hsp2
   refine spl 1 16 ?_ ?_
   ·intro hsp3
    refine go 1 ?_
    exact ⟨by rw [nameP, if_neg (fun h => h.2.2.1 hsp3)], M.frm⟩
   ·intro hsp3
    refine cnd 1 ?_ ?_
    ·intro hco4
     refine go 1 ?_
     exact ⟨by rw [nameP, if_neg (fun h => h.2.2.2.1 hco4)], M.frm⟩
    ·intro hco4
     refine go 0 ?_
     refine W.loop (σ := Nat) (fun q => [(0, _), (3, .int .i64 ((q : Nat) : Int))]) (fun q w => q ≤ s.length ∧ (∀ (k : Nat) c, k < q → s[k]? = some c → nameC c) ∧ Sep w0 [] w) (fun q => s.length - q) 0 ⟨rfl, rfl, trivial⟩ ⟨Nat.zero_le _, fun k c h => by omega, M⟩ ?_
     rintro q w ⟨hle, hall, M⟩
     refine cnd 2 ?_ ?_
     ·intro hco5
      obtain ⟨c, hc⟩ : ∃ c, s[q]? = some c := ⟨s[q]'(by omega), List.getElem?_eq_getElem (by omega)⟩
      have hr : nameC c ↔ _ := Iff.rfl
      unfold nameC at hr
      refine go 0 ?_
      refine x_ixS q rfl rfl rfl Tryz.underlying9 rfl rfl rfl hc ?_
      refine spl 1 30 ?_ ?_
      ·intro hsp4
       refine go 1 ?_
       exact ⟨by rw [nameP_bad hc (fun h => by unfold nameC at h; omega)], M.frm⟩
      ·intro hsp4
       refine go 0 ?_
       refine x_ixS q rfl rfl rfl Tryz.underlying9 rfl rfl rfl hc ?_
       refine spl 1 36 ?_ ?_
       ·intro hsp5
        refine go 1 ?_
        exact ⟨by rw [nameP_bad hc (fun h => by unfold nameC at h; omega)], M.frm⟩
       ·intro hsp5
        refine go 0 ?_
        refine x_ixS q rfl rfl rfl Tryz.underlying9 rfl rfl rfl hc ?_
        refine spl 1 42 ?_ ?_
        ·intro hsp6
         refine go 1 ?_
         exact ⟨by rw [nameP_bad hc (fun h => by unfold nameC at h; omega)], M.frm⟩
        ·intro hsp6
         refine go 0 ?_
         refine x_ixS q rfl rfl rfl Tryz.underlying9 rfl rfl rfl hc ?_
         refine cnd 1 ?_ ?_
         ·intro hco9
          refine go 1 ?_
          exact ⟨by rw [nameP_bad hc (fun h => by unfold nameC at h; omega)], M.frm⟩
         ·intro hco9
          refine go 0 ?_
          refine x_add _ rfl rfl rfl rfl rfl (wadd (by omega) (by omega)) ?_
          refine go 0 ?_
          exact At.back (q + 1) ⟨rfl, rfl, trivial⟩ ⟨by omega, fun k c2 hk hc2 => by
           rcases Nat.lt_or_ge k q with h1 | h1
           ·exact hall k c2 h1 hc2
           ·have : k = q := by omega
            subst this; rw [hc] at hc2; cases hc2; unfold nameC; omega, M⟩ (by first | omega | (simp only; omega) | (simp; done) | (simp; omega))
     ·intro hco5
      refine go 1 ?_
      exact ⟨by rw [nameP_ok (by omega) (by omega) hsp3 hco4 (fun k c hk hc => hall k c (by omega) hc)], M.frm⟩

end Go.Proofs.YtigfbpbnohkokaaGreat

namespace Go.Proofs.YtigfbpbnohkokaaGreat
open Go Go.Fw Go.RowKit Go.Proofs
set_option linter.unusedVariables false
set_option linter.unusedSimpArgs false
set_option maxRecDepth 100000
set_option maxHeartbeats 4000000

-- internal/stringslite.IndexByte
theorem idxb_c {w0 : World} {s : List UInt8} {c : UInt8}  : Ret Tryz.prog 149 #[strV s, .int .u8 (c.toNat : Int)] w0 fun r w' => r = .int .i64 (Lib.indexByte s c) ∧ New w0 w' := by
 have M : Sep w0 [] w0 := St.nil w0
 refine Ret.of_W Tryz.func149 rfl Tryz.ntmps149 rfl ?_
 refine go 0 ?_
 refine x_xcall rfl rfl rfl rfl rfl Tryz.func166 (by kernel_rfl) (by kernel_rfl) (by kernel_rfl) (by kernel_rfl) (Lib.run_indexByteString _ _ _) trivial ?_
 refine go 1 ?_
 exact ⟨by simp [strB], M.frm⟩

-- internal/stringslite.Index
theorem index1_c {w0 : World} {s : List UInt8} {c : UInt8}  : Ret Tryz.prog 143 #[strV s, strV [c]] w0 fun r w' => r = .int .i64 (Lib.indexByte s c) ∧ New w0 w' := by
 have M : Sep w0 [] w0 := St.nil w0
 refine Ret.of_W Tryz.func143 rfl Tryz.ntmps143 rfl ?_
 refine go 1 ?_
 refine x_eqi false rfl rfl rfl rfl rfl rfl ?_
 refine cnd 1 ?_ ?_
 ·intro hco1
  refine go 1 ?_
  subst hco1; exact ⟨by simp [Lib.indexByte], M.frm⟩
 ·intro hco1
  refine go 0 ?_
  refine x_eqi true rfl rfl rfl rfl rfl rfl ?_
  refine go 0 ?_
  refine x_ixS 0 rfl rfl rfl Tryz.underlying9 rfl rfl rfl rfl ?_
  refine x_call rfl rfl rfl rfl rfl en149 (idxb_c) ?_
  rintro r wcall1 ⟨rfl, hncall1⟩
  have M := M.new hncall1
  refine ⟨trivial, ?_⟩
  refine go 1 ?_
  exact ⟨rfl, M.frm⟩

-- internal/stringslite.Cut
theorem slcut_c {w0 : World} {s : List UInt8} (hl : s.length ≤ 9223372036854775807) : Ret Tryz.prog 132 #[strV s, strV [47]] w0 fun r w' => ∃ p q, splitS s = p :: q ∧ r = .tuple #[strV p, strV (joinS q), .bool (decide (q ≠ []))] ∧ New w0 w' := by
 have M : Sep w0 [] w0 := St.nil w0
 refine Ret.of_W Tryz.func132 rfl Tryz.ntmps132 rfl ?_
 refine go 0 ?_
 refine x_call rfl rfl rfl rfl rfl en143 (index1_c) ?_
 rintro r wcall1 ⟨rfl, hncall1⟩
 have M := M.new hncall1
 refine ⟨trivial, ?_⟩
 refine cnd 1 ?_ ?_
 ·intro hco1
  obtain ⟨o, ho⟩ : ∃ o : Nat, Lib.indexByte s 47 = (o : Int) := ⟨(Lib.indexByte s 47).toNat, by omega⟩
  obtain ⟨hsp, hlt⟩ := splitS_idx ho
  refine go 0 ?_
  refine W.regD (by kernel_rfl) #[0, 0, 3, 0, 0, 0, 32, 112, 248, 7, 1023, 2047] [(0, false), (1, false), (2, false), (3, false), (4, false), (5, false), (6, false), (7, false), (8, false), (9, false), (10, false), (11, false)] (by kernel_rfl) ?_
  intro K wD1 hK hwD1
  have M := M.drew hwD1
  refine go 0 ?_
  refine x_sshS o rfl rfl rfl Tryz.underlying9 rfl rfl ho (by omega) ?_
  refine go 1 ?_
  refine x_add ((o + 1 : Nat) : Int) rfl rfl rfl rfl rfl (by rw [ho]; exact (w64 (by simp; omega) (by simp; omega)).trans (by simp)) ?_
  refine x_sslS (o + 1) rfl rfl rfl Tryz.underlying9 rfl rfl rfl (by omega) ?_
  refine go 1 ?_
  exact ⟨_, _, hsp, by rw [joinS_splitS]; simp [splitS_ne], M.frm⟩
 ·intro hco1
  have hm : Lib.indexByte s 47 = -1 := by have := Lib.indexByte_ge s 47; omega
  refine go 1 ?_
  exact ⟨s, [], splitS_idx_none hm, rfl, M.frm⟩

-- strings.Cut
theorem cut_c {w0 : World} {s : List UInt8} (hl : s.length ≤ 9223372036854775807) : Ret Tryz.prog 109 #[strV s, strV [47]] w0 fun r w' => ∃ p q, splitS s = p :: q ∧ r = .tuple #[strV p, strV (joinS q), .bool (decide (q ≠ []))] ∧ New w0 w' := by
 have M : Sep w0 [] w0 := St.nil w0
 refine Ret.of_W Tryz.func109 rfl Tryz.ntmps109 rfl ?_
 refine go 0 ?_
 refine x_call rfl rfl rfl rfl rfl en132 (slcut_c hl) ?_
 rintro r wcall1 ⟨pcall1, qcall1, hscall1, rfl, hncall1⟩
 have M := M.new hncall1
 refine ⟨trivial, ?_⟩
 refine go 1 ?_
 exact ⟨_, _, hscall1, rfl, M.frm⟩

end Go.Proofs.YtigfbpbnohkokaaGreat

namespace Go.Proofs.YtigfbpbnohkokaaGreat
open Go Go.Fw Go.RowKit Go.Proofs
set_option linter.unusedVariables false
set_option linter.unusedSimpArgs false
set_option maxRecDepth 100000
set_option maxHeartbeats 4000000

-- valise/path.pieces
theorem pieces_c {w0 : World} {s : List UInt8}  : Ret Tryz.prog 76 #[strV s] w0 fun r w' => ∃ b, r = .func (.func 108) #[] #[ptr b] ∧ Sep w0 [(b, .cells [strV s].toArray 9 (0, 0))] w' := by
 have M : Sep w0 [] w0 := St.nil w0
 refine Ret.of_W Tryz.func76 rfl Tryz.ntmps76 rfl ?_
 refine go 1 ?_
 intro _ _ M
 refine go 2 ?_
 exact ⟨_, rfl, M⟩

-- valise/path.pieces$1
theorem pieces_it {w0 : World} {b l0 : Nat} {s : List UInt8} {I : List UInt8 → List (List UInt8) → World → Prop} {X : World → Prop} (hl : s.length ≤ 9223372036854775807)
  (hb : ∀ x rest w, I x rest w → w.heap[b]? = some (.cells [strV x].toArray 9 (0, 0)))
  (hput : ∀ x y rest w w1, I x rest w → w1 = w.putObj b (.cells [strV y].toArray 9 (0, 0)) → I y rest w1)
  (hnew : ∀ x rest w w1, I x rest w → New w w1 → I x rest w1)
  (hY : ∀ p rest w, I (joinS (p :: rest)) (p :: rest) w → Yld Tryz.prog l0 [strV p] w fun v w' => ∃ bb : Bool, v = .bool bb ∧ (bb = true → I (joinS (p :: rest)) rest w') ∧ (bb = false → X w'))
  (h0 : I s (splitS s) w0) : Ret Tryz.prog 108 #[.func (.yield l0) #[] #[], ptr b] w0 fun r w' => r = .tuple #[] ∧ ((∃ x, I x [] w') ∨ X w') := by
 refine Ret.of_W Tryz.func108 rfl Tryz.ntmps108 rfl ?_
 refine go 0 ?_
 refine W.loop (σ := List UInt8) (fun x => [(0, _), (1, _)]) (fun x w => I x (splitS x) w ∧ x.length ≤ 9223372036854775807) (fun x => x.length) s ⟨rfl, rfl, trivial⟩ ⟨h0, hl⟩ ?_
 rintro x w ⟨hI, hxl⟩
 refine go 0 ?_
 refine x_ld rfl rfl rfl Tryz.underlying9 rfl rfl (cell_of (hb _ _ _ hI) rfl) ?_
 refine x_call rfl rfl rfl rfl rfl en109 (cut_c hxl) ?_
 rintro r w1 ⟨p, q, hs, rfl, hn⟩
 have hI := hnew _ _ _ _ hI hn
 have hx := joinS_split hs
 rw [hs] at hI
 subst hx
 refine ⟨trivial, ?_⟩
 refine go 0 ?_
 refine x_yld rfl rfl rfl rfl rfl (hY p q w1 hI) ?_
 rintro v w2 ⟨bb, rfl, hb1, hb2⟩
 refine ⟨trivial, ?_⟩
 refine spl 1 16 ?_ ?_
 ·intro hsp1
  refine go 1 ?_
  exact ⟨rfl, .inr (hb2 hsp1)⟩
 ·intro hsp1
  refine cnd 1 ?_ ?_
  ·intro hco2
   have hq0 : q = [] := by simpa using hco2
   subst hq0
   refine go 1 ?_
   exact ⟨rfl, .inl ⟨_, hb1 (by simpa using hsp1)⟩⟩
  ·intro hco2
   have hq0 : q ≠ [] := by simpa using hco2
   have hI2 := hb1 (by simpa using hsp1)
   have hjl := joinS_len (p := p) hq0
   refine go 0 ?_
   refine x_st [_] _ rfl rfl rfl sz9 rfl rfl rfl rfl (hb _ _ _ hI2) rfl rfl rfl ?_
   intro wst1 hwst1
   have hI3 := hput _ _ _ _ _ hI2 hwst1
   refine ⟨trivial, ?_⟩
   refine go 0 ?_
   exact At.back (joinS q) ⟨rfl, rfl, trivial⟩ ⟨by rw [split_rest hs hq0]; exact hI3, by omega⟩ (by first | omega | (simp only; omega) | (simp; done) | (simp; omega))

end Go.Proofs.YtigfbpbnohkokaaGreat

namespace Go.Proofs.YtigfbpbnohkokaaGreat
open Go Go.Fw Go.RowKit Go.Proofs
set_option linter.unusedVariables false
set_option linter.unusedSimpArgs false
set_option maxRecDepth 100000
set_option maxHeartbeats 4000000

-- valise/path.Split
theorem split_c {w0 : World} {p : List UInt8}  : Ret Tryz.prog 96 #[strV p] w0 fun r w' => ∃ v Lr, r = .tuple #[v, .int .i64 (splitE p)] ∧ Sep w0 Lr w' ∧ StrsO Lr v (splitN p) := by
 have M : Sep w0 [] w0 := St.nil w0
 refine Ret.of_W Tryz.func96 rfl Tryz.ntmps96 rfl ?_
 refine go 1 ?_
 intro bal1 _ M
 refine go 1 ?_
 intro bal2 _ M
 refine cnd 1 ?_ ?_
 ·intro hco1
  refine go 1 ?_
  intro _ M
  refine go 1 ?_
  intro _ M
  refine go 1 ?_
  subst hco1; exact ⟨_, [], rfl, M.frm, OwL.nil⟩
 ·intro hco1
  refine cnd 2 ?_ ?_
  ·intro hco2
   refine go 1 ?_
   intro _ M
   refine go 1 ?_
   intro _ M
   refine go 1 ?_
   have h := splitE_none (splitP_long (p := p) (by omega)); exact ⟨_, [], by rw [h.1], M.frm, by rw [h.2]; exact OwL.nil⟩
  ·intro hco2
   refine go 1 ?_
   intro bal3 _ M
   refine go 0 ?_
   refine x_call rfl rfl rfl rfl rfl en76 (pieces_c) ?_
   rintro r wcall1 ⟨bcall1, rfl, Mcall1⟩
   have M := M.grow Mcall1
   refine ⟨trivial, ?_⟩
   refine go 0 ?_
   refine W.range rfl en108 (fun rr hkt hps has hbdrng1 w2 hw2 => ?_)
   have M := M.range hw2
   refine (pieces_it (I := fun x rest w' => ∃ A ov Lo, splitS p = A ++ rest ∧ A.length ≤ 8 ∧ allOK A ∧ StrsO Lo ov A ∧ Sep w0 ([(bal3, Obj.cells [ov].toArray 47 (0, 0)), (bal2, Obj.cells [Value.int .i64 0].toArray 35 (0, 0)), (bal1, Obj.cells [Value.slice none 0 0].toArray 47 (0, 0)), (bcall1, Obj.cells [strV x].toArray 9 (0, 0)), (wcall1.heap.size, .deferred (some [])), (wcall1.heap.size + 1, .loop { rr with state := .ready, pending := none })] ++ Lo) w') (X := fun w' => ∃ x ov Lo, splitP p = none ∧ Sep w0 ([(bal3, Obj.cells [ov].toArray 47 (0, 0)), (bal2, Obj.cells [Value.int .i64 8].toArray 35 (0, 0)), (bal1, Obj.cells [Value.slice none 0 0].toArray 47 (0, 0)), (bcall1, Obj.cells [strV x].toArray 9 (0, 0)), (wcall1.heap.size, .deferred (some [])), (wcall1.heap.size + 1, .loop { rr with state := .done, pending := some .ret })] ++ Lo) w') (by omega) ?_ ?_ ?_ ?_ ⟨[], _, [], rfl, by simp, by simp [allOK], OwL.nil, by simpa using M⟩).mono ?_
   ·rintro x rest w' ⟨A, ov, Lo, hsp, hA8, hAok, how, M⟩
    exact M.at_ 3 rfl
   ·rintro x y rest w' w1 ⟨A, ov, Lo, hsp, hA8, hAok, how, M⟩ hw1
    have M := M.put 3 rfl hw1
    exact ⟨A, ov, Lo, hsp, hA8, hAok, how, M⟩
   ·rintro x rest w' w1 ⟨A, ov, Lo, hsp, hA8, hAok, how, M⟩ hn
    have M := M.new hn
    exact ⟨A, ov, Lo, hsp, hA8, hAok, how, M⟩
   ·rintro n rest w' ⟨A, ov, Lo, hsp, hA8, hAok, how, M⟩
    obtain ⟨p0, cap0, rfl⟩ := how.shape
    refine Yld.one (M.at_ 5 rfl) hkt hps rfl has ?_
    refine go 0 ?_
    refine At.asg hbdrng1 (M.at_ 5 rfl) ?_
    generalize hwb : World.putObj _ _ _ = wb
    have M := M.put 5 rfl hwb.symm
    refine go 0 ?_
    refine x_call rfl rfl rfl rfl rfl en110 (name_c) ?_
    rintro r wcall2 ⟨rfl, hncall2⟩
    have M := M.new hncall2
    refine ⟨trivial, ?_⟩
    refine spl 1 17 ?_ ?_
    ·intro hsp1
     refine go 1 ?_
     intro _ M
     refine go 1 ?_
     intro _ M
     refine go 0 ?_
     refine At.rnd_r (by first | exact M.at_ 0 rfl | exact M.at_ 1 rfl | exact M.at_ 2 rfl | exact M.at_ 3 rfl | exact M.at_ 4 rfl | exact M.at_ 5 rfl | exact M.at_ 6 rfl | exact M.at_ 7 rfl) ?_
     generalize hwz : World.putObj _ _ _ = wz
     have M := M.put 5 rfl hwz.symm
     exact ⟨false, rfl, fun h => (by cases h), fun _ => ⟨_, _, Lo, splitP_bad hco1 (fun h => hsp1 (nameP_zero.2 (h.2 n (by rw [hsp]; simp)))), M⟩⟩
    ·intro hsp1
     refine cnd 3 ?_ ?_
     ·intro hco4
      refine go 1 ?_
      intro _ M
      refine go 1 ?_
      intro _ M
      refine go 0 ?_
      refine At.rnd_r (by first | exact M.at_ 0 rfl | exact M.at_ 1 rfl | exact M.at_ 2 rfl | exact M.at_ 3 rfl | exact M.at_ 4 rfl | exact M.at_ 5 rfl | exact M.at_ 6 rfl | exact M.at_ 7 rfl) ?_
      generalize hwz : World.putObj _ _ _ = wz
      have M := M.put 5 rfl hwz.symm
      exact ⟨false, rfl, fun h => (by cases h), fun _ => ⟨_, _, Lo, splitP_bad hco1 (fun h => by have := h.1; rw [hsp] at this; simp at this; omega), M⟩⟩
     ·intro hco4
      refine go 1 ?_
      refine x_bs1 (cs := [strV n]) rfl rfl rfl Tryz.underlying47 sz9 ze9 (Z := [_]) rfl rfl (by decide) (by decide) rfl rfl rfl ?_
      intro bbs1 wbs1 hbbs1 hwbs1
      have M0 := M.acons hbbs1 hwbs1
      have hslbs1 : Sl wbs1 (.slice (some ⟨bbs1, 0, none⟩) 1 1) 1 1 [strV n] := .inr ⟨bbs1, 0, 1, _, _, _, rfl, by omega, M0.at_ 0 rfl, rfl, rfl⟩
      have M := M0.tail
      refine ⟨trivial, ?_⟩
      refine x_apL rfl rfl rfl rfl Tryz.underlying47 sz9 ze9 rfl by9 rfl rfl how (M.perm (List.perm_append_comm (l₁ := [_, _, _, _, _, _]) (l₂ := Lo))) (strCs_one _) (hslbs1.src Tryz.underlying47 (by intro u hu; simp at hu; subst hu; rfl)) (by first | omega | (simp; omega)) (by decide) (by first | omega | (simp; omega)) ?_
      intro Lo v6 wap1 how M
      have M := M.perm List.perm_append_comm
      obtain ⟨p6, cap6, rfl⟩ := how.shape
      refine ⟨trivial, ?_⟩
      refine go 1 ?_
      intro _ M
      refine go 0 ?_
      refine At.rnd_n (by first | exact M.at_ 0 rfl | exact M.at_ 1 rfl | exact M.at_ 2 rfl | exact M.at_ 3 rfl | exact M.at_ 4 rfl | exact M.at_ 5 rfl | exact M.at_ 6 rfl | exact M.at_ 7 rfl) ?_
      generalize hwz : World.putObj _ _ _ = wz
      have M := M.put 5 rfl hwz.symm
      have hnz : nameOK n := nameP_zero.1 (by simpa using hsp1)
      refine ⟨true, rfl, fun _ => ⟨A ++ [n], _, Lo, by rw [hsp]; simp, by simp; omega, fun x hx => ?_, strsO_snoc how, M⟩, fun h => (by cases h)⟩
      rcases List.mem_append.1 hx with h | h
      ·exact hAok x h
      ·simp at h; subst h; exact hnz
   ·rintro v w3 ⟨rfl, ⟨x, ⟨A, ov, Lo, hsp, hA8, hAok, how, M⟩⟩ | HX⟩
    ·refine .inl ⟨.ready, by simp, M.at_ 5 rfl, ?_⟩
     generalize hwx : World.putObj _ _ _ = w4
     have M := M.put 5 rfl hwx.symm
     simp only [List.append_nil] at hsp
     have hgood := splitP_good hco1 (by omega) (by rw [hsp]; exact ⟨hA8, hAok⟩)
     have hE := splitE_some hgood
     obtain ⟨p0, cap0, rfl⟩ := how.shape
     refine go 2 ?_
     intro _ M
     refine go 1 ?_
     intro _ M
     refine go 0 ?_
     refine At.mark (M.at_ 4 rfl) ?_
     generalize hwy : World.putObj _ _ _ = w5
     have M := M.put 4 rfl hwy.symm
     refine go 1 ?_
     rw [hsp] at hE; exact ⟨_, Lo, by rw [hE.1], (M.sub (List.sublist_append_right [_, _, _, _, _, _] Lo)), by rw [hE.2]; exact how⟩
    ·obtain ⟨x, ov, Lo, hbad, M⟩ := HX
     have hE := splitE_none hbad
     refine .inr ⟨.done, _, by simp, M.at_ 5 rfl, ?_⟩
     generalize hwx : World.putObj _ _ _ = w4
     have M := M.put 5 rfl hwx.symm
     refine go 0 ?_
     refine At.mark (M.at_ 4 rfl) ?_
     generalize hwy : World.putObj _ _ _ = w5
     have M := M.put 4 rfl hwy.symm
     refine go 1 ?_
     exact ⟨_, [], by rw [hE.1], M.frm, by rw [hE.2]; exact OwL.nil⟩

end Go.Proofs.YtigfbpbnohkokaaGreat

namespace Go.Proofs.YtigfbpbnohkokaaGreat
open Go Go.Fw Go.RowKit Go.Proofs
set_option linter.unusedVariables false
set_option linter.unusedSimpArgs false
set_option maxRecDepth 100000
set_option maxHeartbeats 4000000

-- valise/valiseref13.Pieces
theorem rpieces_c {w0 : World} {s : List UInt8} (hl : s.length ≤ 1099511627776) : Ret Tryz.prog 56 #[strV s] w0 fun r w' => ∃ Lr, Sep w0 Lr w' ∧ StrsO Lr r (splitS s) := by
 have M : Sep w0 [] w0 := St.nil w0
 refine Ret.of_W Tryz.func56 rfl Tryz.ntmps56 rfl ?_
 refine go 0 ?_
 refine W.loop (σ := Nat × Nat × Value) (fun s0 => [(0, _), (3, s0.2.2), (4, .int .i64 ((s0.2.1 : Nat) : Int)), (5, .int .i64 ((s0.1 : Nat) : Int))]) (fun s0 w => s0.1 ≤ s.length + 1 ∧ s0.2.1 ≤ s.length + 1 ∧ ∃ A Lo, PInv s s0.1 s0.2.1 A ∧ StrsO Lo s0.2.2 A ∧ Sep w0 ([] ++ Lo) w) (fun s0 => s.length + 1 - s0.1) (0, 0, .slice none 0 0) ⟨rfl, rfl, rfl, rfl, trivial⟩ ⟨by simp, by simp, [], [], PInv.zero s, OwL.nil, M⟩ ?_
 rintro ⟨i, q, ov⟩ w ⟨hi, hq, A, Lo, hP, how, M⟩
 simp only at hi hq hP how ⊢
 have hAl := hP.1
 refine cnd 2 ?_ ?_
 ·intro hco1
  refine spl 2 16 ?_ ?_
  ·intro hsp1
   have hie : i = s.length := by omega
   subst hie
   obtain ⟨hqi, hP2⟩ := hP.last
   refine go 0 ?_
   refine x_sslhS q s.length rfl rfl rfl Tryz.underlying9 rfl rfl rfl rfl rfl hqi (Nat.le_refl _) ?_
   refine x_bs1 (cs := [strV ((s.drop q).take (s.length - q))]) rfl rfl rfl Tryz.underlying47 sz9 ze9 (Z := [_]) rfl rfl (by decide) (by decide) rfl rfl rfl ?_
   intro bbs1 wbs1 hbbs1 hwbs1
   have M0 := M.acons hbbs1 hwbs1
   have hslbs1 : Sl wbs1 (.slice (some ⟨bbs1, 0, none⟩) 1 1) 1 1 [strV ((s.drop q).take (s.length - q))] := .inr ⟨bbs1, 0, 1, _, _, _, rfl, by omega, M0.at_ 0 rfl, rfl, rfl⟩
   have M := M0.tail
   refine ⟨trivial, ?_⟩
   refine x_apL rfl rfl rfl rfl Tryz.underlying47 sz9 ze9 rfl by9 rfl rfl how (M.perm (List.perm_append_comm (l₁ := []) (l₂ := Lo))) (strCs_one _) (hslbs1.src Tryz.underlying47 (by intro u hu; simp at hu; subst hu; rfl)) (by omega) (by decide) (by omega) ?_
   intro Lo v6 wap1 how M
   have M := M.perm List.perm_append_comm
   refine ⟨trivial, ?_⟩
   refine go 0 ?_
   refine x_add ((s.length + 1 : Nat) : Int) rfl rfl rfl rfl rfl (by rw [w64 (by omega) (by omega)]; simp) ?_
   refine go 0 ?_
   refine x_add ((s.length + 1 : Nat) : Int) rfl rfl rfl rfl rfl (by rw [w64 (by omega) (by omega)]; simp) ?_
   refine go 0 ?_
   exact At.back ((s.length + 1, s.length + 1, v6)) ⟨rfl, rfl, rfl, rfl, trivial⟩ ⟨by simp, by simp, _, _, hP2, strsO_snoc how, M⟩ (by first | omega | (simp only; omega) | (simp; done) | (simp; omega))
  ·intro hsp1
   have hlt : i < s.length := by omega
   obtain ⟨c, hc⟩ : ∃ c, s[i]? = some c := ⟨s[i], List.getElem?_eq_getElem hlt⟩
   refine go 0 ?_
   refine x_ixS i rfl rfl rfl Tryz.underlying9 rfl rfl rfl hc ?_
   refine cnd 1 ?_ ?_
   ·intro hco3
    have hc47 : c = 47 := c47 hco3
    subst hc47
    obtain ⟨hqi, hP2⟩ := hP.slash hc
    refine go 0 ?_
    refine x_sslhS q i rfl rfl rfl Tryz.underlying9 rfl rfl rfl rfl rfl hqi (by omega) ?_
    refine x_bs1 (cs := [strV ((s.drop q).take (i - q))]) rfl rfl rfl Tryz.underlying47 sz9 ze9 (Z := [_]) rfl rfl (by decide) (by decide) rfl rfl rfl ?_
    intro bbs2 wbs2 hbbs2 hwbs2
    have M0 := M.acons hbbs2 hwbs2
    have hslbs2 : Sl wbs2 (.slice (some ⟨bbs2, 0, none⟩) 1 1) 1 1 [strV ((s.drop q).take (i - q))] := .inr ⟨bbs2, 0, 1, _, _, _, rfl, by omega, M0.at_ 0 rfl, rfl, rfl⟩
    have M := M0.tail
    refine ⟨trivial, ?_⟩
    refine x_apL rfl rfl rfl rfl Tryz.underlying47 sz9 ze9 rfl by9 rfl rfl how (M.perm (List.perm_append_comm (l₁ := []) (l₂ := Lo))) (strCs_one _) (hslbs2.src Tryz.underlying47 (by intro u hu; simp at hu; subst hu; rfl)) (by omega) (by decide) (by omega) ?_
    intro Lo v6 wap2 how M
    have M := M.perm List.perm_append_comm
    refine ⟨trivial, ?_⟩
    refine go 0 ?_
    refine x_add ((i + 1 : Nat) : Int) rfl rfl rfl rfl rfl (by rw [w64 (by omega) (by omega)]; simp) ?_
    refine go 0 ?_
    refine x_add ((i + 1 : Nat) : Int) rfl rfl rfl rfl rfl (by rw [w64 (by omega) (by omega)]; simp) ?_
    refine go 0 ?_
    exact At.back ((i + 1, i + 1, v6)) ⟨rfl, rfl, rfl, rfl, trivial⟩ ⟨by simp; omega, by simp; omega, _, _, hP2, strsO_snoc how, M⟩ (by first | omega | (simp only; omega) | (simp; done) | (simp; omega))
   ·intro hco3
    have hc47 : c ≠ 47 := fun e => by subst e; simp at hco3
    refine go 0 ?_
    refine x_add ((i + 1 : Nat) : Int) rfl rfl rfl rfl rfl (by rw [w64 (by omega) (by omega)]; simp) ?_
    refine go 0 ?_
    exact At.back ((i + 1, q, ov)) ⟨rfl, rfl, rfl, rfl, trivial⟩ ⟨by simp; omega, by simpa using hq, _, _, hP.other hc hc47, how, M⟩ (by first | omega | (simp only; omega) | (simp; done) | (simp; omega))
 ·intro hco1
  refine go 1 ?_
  exact ⟨Lo, M, by rw [hP.done (by omega)]; exact how⟩

end Go.Proofs.YtigfbpbnohkokaaGreat

namespace Go.Proofs
open Go.Shelf
def Tryz.lays156_ren : Go.Shelf.Ren := ⟨fun | 156 => 111 | 165 => 133 | 166 => 134 | 169 => 135 | 240 => 144 | 241 => 145 | 276 => 153 | 277 => 154 | n => n, fun | 31 => 47 | 9 => 9 | 3 => 3 | 4 => 4 | 0 => 0 | 20 => 20 | 72 => 206 | 76 => 210 | 70 => 204 | 37 => 27 | 75 => 209 | 127 => 214 | 164 => 220 | 5 => 5 | 80 => 212 | n => n, fun | n => n⟩
theorem Tryz.lays156 : Go.Proofs.Lays.n156 Tryz.prog Tryz.lays156_ren := {
 mixed := by kernel_rfl
 f156 := Tryz.func111.trans (congrArg some (by kernel_rfl))
 f165 := Tryz.func133.trans (congrArg some (by kernel_rfl))
 f166 := Tryz.func134.trans (congrArg some (by kernel_rfl))
 f169 := Tryz.func135.trans (congrArg some (by kernel_rfl))
 f240 := Tryz.func144.trans (congrArg some (by kernel_rfl))
 f241 := Tryz.func145.trans (congrArg some (by kernel_rfl))
 f276 := Tryz.func153.trans (congrArg some (by kernel_rfl))
 f277 := Tryz.func154.trans (congrArg some (by kernel_rfl))
 t0 := Tryz.underlying0
 a0 := Tryz.isAgg0
 z0 := Tryz.sizeOf0
 v0 := Tryz.zeroValue0
 t3 := Tryz.underlying3
 a3 := Tryz.isAgg3
 z3 := Tryz.sizeOf3
 v3 := Tryz.zeroValue3
 t4 := Tryz.underlying4
 a4 := Tryz.isAgg4
 z4 := Tryz.sizeOf4
 v4 := Tryz.zeroValue4
 t9 := Tryz.underlying9
 a9 := Tryz.isAgg9
 z9 := Tryz.sizeOf9
 v9 := Tryz.zeroValue9
 t20 := Tryz.underlying20
 a20 := Tryz.isAgg20
 z20 := Tryz.sizeOf20
 v20 := Tryz.zeroValue20
 t31 := Tryz.underlying47
 a31 := Tryz.isAgg47
 z31 := Tryz.sizeOf47
 v31 := Tryz.zeroValue47
 t37 := Tryz.underlying27
 a37 := Tryz.isAgg27
 z37 := Tryz.sizeOf27
 v37 := Tryz.zeroValue27
 t70 := Tryz.underlying204
 a70 := Tryz.isAgg204
 z70 := Tryz.sizeOf204
 v70 := Tryz.zeroValue204
 t72 := Tryz.underlying206
 a72 := Tryz.isAgg206
 z72 := Tryz.sizeOf206
 v72 := Tryz.zeroValue206
 t75 := Tryz.underlying209
 a75 := Tryz.isAgg209
 z75 := Tryz.sizeOf209
 v75 := Tryz.zeroValue209
 t76 := Tryz.underlying210
 a76 := Tryz.isAgg210
 z76 := Tryz.sizeOf210
 v76 := Tryz.zeroValue210
 t127 := Tryz.underlying214
 a127 := Tryz.isAgg214
 z127 := Tryz.sizeOf214
 v127 := Tryz.zeroValue214
 t164 := Tryz.underlying220
 a164 := Tryz.isAgg220
 z164 := Tryz.sizeOf220
 v164 := Tryz.zeroValue220 }
theorem Tryz.Builder_Extra_156 : Builder.Extra Tryz.prog Tryz.lays156_ren := {
 sizeBuilder := by kernel_rfl
 liesBuilder := by kernel_rfl
 t5 := Tryz.underlying5
 a5 := Tryz.isAgg5
 z5 := Tryz.sizeOf5
 v5 := Tryz.zeroValue5
 infoByte := by kernel_rfl
 cellsByte := by kernel_rfl
 sizeByte := by kernel_rfl
 neB5 := by decide }
open Go.RowKit in
/-- strings.Join: "Join concatenates the elements of its first argument to create a single string. The separator string sep is placed between elements in the resulting string.": HOWEVER MANY ELEMENTS. Below the heap's end the world is as it was. (LAID: no walk: one application.) -/
theorem Tryz.strings_Join (bk o c : Nat) (xs : List ByteArray) (sep : ByteArray) (w : World) (hcells : ∀ (j : Nat) x, xs[j]? = some x → w.cell? ⟨bk, o + j, none⟩ = some (.string x)) (hbk : bk < w.heap.size) (hN : xs.length ≤ 140737488355328) (hcap : xs.length ≤ c) (hlen : (Lib.join (xs.map (·.data.toList)) sep.data.toList).length ≤ 140737488355328) :
  Calls Tryz.prog 111 #[.slice (some ⟨bk, o, none⟩) xs.length c, .string sep] w fun e w' => e = .returned (.string ⟨(Lib.join (xs.map (·.data.toList)) sep.data.toList).toArray⟩) ∧ Below w.heap.size w w' := Any.strings_Join Tryz.lays156 Tryz.Builder_Extra_156 bk o c xs sep w hcells hbk hN hcap hlen
open Go.RowKit in
/-- No element: the empty string; the world is as it was. (Whatever the slice's address and capacity: a nil slice too.) (LAID: no walk: one application.) -/
theorem Tryz.strings_Join_none (a : Option Addr) (c : Nat) (sep : ByteArray) (w : World) :
  Calls Tryz.prog 111 #[.slice a 0 c, .string sep] w fun e w' => e = .returned (.string ⟨#[]⟩) ∧ w' = w := Any.strings_Join_none Tryz.lays156 Tryz.Builder_Extra_156 a c sep w
end Go.Proofs
namespace Go.Proofs
open Go.Shelf
def Tryz.keysA_ren : Go.Shelf.Ren := ⟨fun | 7 => 131 | 10 => 142 | n => n, fun | 23 => 165 | 26 => 9 | 3 => 131 | 28 => 202 | 0 => 0 | 27 => 139 | 33 => 176 | 4 => 4 | n => n, fun | n => n⟩
theorem Tryz.keysA : Go.Proofs.SlLaysZ.n7 Tryz.prog Tryz.keysA_ren := {
 mixed := by kernel_rfl
 f7 := ⟨Tryz.f131.name, by decide, Tryz.func131.trans (congrArg some (by kernel_rfl))⟩
 f10 := ⟨Tryz.f142.name, by decide, Tryz.func142.trans (congrArg some (by kernel_rfl))⟩
 t0 := Tryz.underlying0
 a0 := Tryz.isAgg0
 z0 := Tryz.sizeOf0
 v0 := Tryz.zeroValue0
 t4 := Tryz.underlying4
 a4 := Tryz.isAgg4
 z4 := Tryz.sizeOf4
 v4 := Tryz.zeroValue4
 t23 := Tryz.underlying165
 a23 := Tryz.isAgg165
 z23 := Tryz.sizeOf165
 v23 := Tryz.zeroValue165
 t26 := Tryz.underlying9
 a26 := Tryz.isAgg9
 z26 := Tryz.sizeOf9
 v26 := Tryz.zeroValue9
 t27 := Tryz.underlying139
 a27 := Tryz.isAgg139
 z27 := Tryz.sizeOf139
 v27 := Tryz.zeroValue139
 t28 := Tryz.underlying202
 a28 := Tryz.isAgg202
 z28 := Tryz.sizeOf202
 v28 := Tryz.zeroValue202
 t33 := Tryz.underlying176
 a33 := Tryz.isAgg176
 z33 := Tryz.sizeOf176
 v33 := Tryz.zeroValue176 }
def Tryz.sortedA_ren : Go.Shelf.Ren := ⟨fun | 6 => 130 | 8 => 140 | 9 => 141 | 11 => 146 | 13 => 148 | 12 => 147 | 23 => 164 | 24 => 165 | 14 => 155 | 15 => 156 | 16 => 157 | 17 => 158 | 18 => 159 | 19 => 160 | 20 => 161 | 21 => 162 | 22 => 163 | 25 => 168 | 26 => 169 | 27 => 170 | 28 => 171 | 29 => 172 | 30 => 173 | 31 => 174 | n => n, fun | 26 => 9 | 28 => 202 | 24 => 47 | 0 => 0 | 3 => 3 | 37 => 218 | 48 => 232 | 50 => 234 | 4 => 4 | 40 => 225 | 39 => 224 | 45 => 229 | 5 => 5 | 9 => 9 | 51 => 237 | 55 => 241 | 57 => 243 | 58 => 244 | 33 => 176 | n => n, fun | n => n⟩
theorem Tryz.sortedA : Go.Proofs.SlLaysZ.n6 Tryz.prog Tryz.sortedA_ren := {
 mixed := by kernel_rfl
 f6 := ⟨Tryz.f130.name, by decide, Tryz.func130.trans (congrArg some (by kernel_rfl))⟩
 f8 := ⟨Tryz.f140.name, by decide, Tryz.func140.trans (congrArg some (by kernel_rfl))⟩
 f11 := ⟨Tryz.f146.name, by decide, Tryz.func146.trans (congrArg some (by kernel_rfl))⟩
 t0 := Tryz.underlying0
 a0 := Tryz.isAgg0
 z0 := Tryz.sizeOf0
 v0 := Tryz.zeroValue0
 t24 := Tryz.underlying47
 a24 := Tryz.isAgg47
 z24 := Tryz.sizeOf47
 v24 := Tryz.zeroValue47
 t26 := Tryz.underlying9
 a26 := Tryz.isAgg9
 z26 := Tryz.sizeOf9
 v26 := Tryz.zeroValue9
 t28 := Tryz.underlying202
 a28 := Tryz.isAgg202
 z28 := Tryz.sizeOf202
 v28 := Tryz.zeroValue202
 i26 := by kernel_rfl }
def Tryz.sortA_ren : Go.Shelf.Ren := ⟨fun | 6 => 141 | 8 => 148 | 9 => 147 | 19 => 164 | 20 => 165 | 21 => 155 | 22 => 156 | 23 => 157 | 24 => 158 | 25 => 159 | 26 => 160 | 27 => 161 | 28 => 162 | 29 => 163 | 36 => 168 | 31 => 169 | 32 => 170 | 37 => 171 | 38 => 172 | 39 => 173 | 41 => 174 | n => n, fun | 27 => 47 | 29 => 9 | 3 => 3 | 32 => 218 | 26 => 47 | 0 => 0 | 44 => 232 | 46 => 234 | 4 => 4 | 36 => 225 | 35 => 224 | 41 => 229 | 5 => 5 | 9 => 9 | 53 => 237 | 57 => 241 | 63 => 243 | 64 => 244 | n => n, fun | n => n⟩
theorem Tryz.sortA : Go.Proofs.SlLaysM.n6 Tryz.prog Tryz.sortA_ren := {
 mixed := by kernel_rfl
 f6 := ⟨Tryz.f141.name, by decide, Tryz.func141.trans (congrArg some (by kernel_rfl))⟩
 f8 := Tryz.func148.trans (congrArg some (by kernel_rfl))
 f9 := ⟨Tryz.f147.name, by decide, Tryz.func147.trans (congrArg some (by kernel_rfl))⟩
 f19 := Tryz.func164.trans (congrArg some (by kernel_rfl))
 f20 := Tryz.func165.trans (congrArg some (by kernel_rfl))
 f21 := ⟨Tryz.f155.name, by decide, Tryz.func155.trans (congrArg some (by kernel_rfl))⟩
 f22 := ⟨Tryz.f156.name, by decide, Tryz.func156.trans (congrArg some (by kernel_rfl))⟩
 f23 := ⟨Tryz.f157.name, by decide, Tryz.func157.trans (congrArg some (by kernel_rfl))⟩
 f24 := ⟨Tryz.f158.name, by decide, Tryz.func158.trans (congrArg some (by kernel_rfl))⟩
 f25 := ⟨Tryz.f159.name, by decide, Tryz.func159.trans (congrArg some (by kernel_rfl))⟩
 f26 := ⟨Tryz.f160.name, by decide, Tryz.func160.trans (congrArg some (by kernel_rfl))⟩
 f27 := ⟨Tryz.f161.name, by decide, Tryz.func161.trans (congrArg some (by kernel_rfl))⟩
 f28 := ⟨Tryz.f162.name, by decide, Tryz.func162.trans (congrArg some (by kernel_rfl))⟩
 f29 := ⟨Tryz.f163.name, by decide, Tryz.func163.trans (congrArg some (by kernel_rfl))⟩
 f31 := Tryz.func169.trans (congrArg some (by kernel_rfl))
 f32 := Tryz.func170.trans (congrArg some (by kernel_rfl))
 f36 := ⟨Tryz.f168.name, by decide, Tryz.func168.trans (congrArg some (by kernel_rfl))⟩
 f37 := ⟨Tryz.f171.name, by decide, Tryz.func171.trans (congrArg some (by kernel_rfl))⟩
 f38 := ⟨Tryz.f172.name, by decide, Tryz.func172.trans (congrArg some (by kernel_rfl))⟩
 f39 := ⟨Tryz.f173.name, by decide, Tryz.func173.trans (congrArg some (by kernel_rfl))⟩
 f41 := ⟨Tryz.f174.name, by decide, Tryz.func174.trans (congrArg some (by kernel_rfl))⟩
 t0 := Tryz.underlying0
 a0 := Tryz.isAgg0
 z0 := Tryz.sizeOf0
 v0 := Tryz.zeroValue0
 t3 := Tryz.underlying3
 a3 := Tryz.isAgg3
 z3 := Tryz.sizeOf3
 v3 := Tryz.zeroValue3
 t4 := Tryz.underlying4
 a4 := Tryz.isAgg4
 z4 := Tryz.sizeOf4
 v4 := Tryz.zeroValue4
 t5 := Tryz.underlying5
 a5 := Tryz.isAgg5
 z5 := Tryz.sizeOf5
 v5 := Tryz.zeroValue5
 t9 := Tryz.underlying9
 a9 := Tryz.isAgg9
 z9 := Tryz.sizeOf9
 v9 := Tryz.zeroValue9
 t26 := Tryz.underlying47
 a26 := Tryz.isAgg47
 z26 := Tryz.sizeOf47
 v26 := Tryz.zeroValue47
 t27 := Tryz.underlying47
 a27 := Tryz.isAgg47
 z27 := Tryz.sizeOf47
 v27 := Tryz.zeroValue47
 t29 := Tryz.underlying9
 a29 := Tryz.isAgg9
 z29 := Tryz.sizeOf9
 v29 := Tryz.zeroValue9
 t32 := Tryz.underlying218
 a32 := Tryz.isAgg218
 z32 := Tryz.sizeOf218
 v32 := Tryz.zeroValue218
 t35 := Tryz.underlying224
 a35 := Tryz.isAgg224
 z35 := Tryz.sizeOf224
 v35 := Tryz.zeroValue224
 t36 := Tryz.underlying225
 a36 := Tryz.isAgg225
 z36 := Tryz.sizeOf225
 v36 := Tryz.zeroValue225
 t41 := Tryz.underlying229
 a41 := Tryz.isAgg229
 z41 := Tryz.sizeOf229
 v41 := Tryz.zeroValue229
 t44 := Tryz.underlying232
 a44 := Tryz.isAgg232
 z44 := Tryz.sizeOf232
 v44 := Tryz.zeroValue232
 t46 := Tryz.underlying234
 a46 := Tryz.isAgg234
 z46 := Tryz.sizeOf234
 v46 := Tryz.zeroValue234
 t53 := Tryz.underlying237
 a53 := Tryz.isAgg237
 z53 := Tryz.sizeOf237
 v53 := Tryz.zeroValue237
 t57 := Tryz.underlying241
 a57 := Tryz.isAgg241
 z57 := Tryz.sizeOf241
 v57 := Tryz.zeroValue241
 t63 := Tryz.underlying243
 a63 := Tryz.isAgg243
 z63 := Tryz.sizeOf243
 v63 := Tryz.zeroValue243
 t64 := Tryz.underlying244
 a64 := Tryz.isAgg244
 z64 := Tryz.sizeOf244
 v64 := Tryz.zeroValue244 }
end Go.Proofs

namespace Go.Proofs.YtigfbpbnohkokaaGreat
open Go Go.Fw Go.RowKit
set_option linter.unusedVariables false
set_option linter.unusedSimpArgs false

theorem libjoin : ∀ l : List (List UInt8), Lib.join l [47] = joinS l
 | [] => rfl
 | [p] => by simp [Lib.join_one, joinS]
 | p :: q :: r => by
  have h := libjoin (q :: r)
  rw [Lib.join_cons p (q :: r) [47]] 
  rw [Lib.join_cons q r [47]] at h
  simp only [joinS, Lib.joinTail, List.map_cons, List.flatten_cons] at h ⊢
  rw [← h]; simp
theorem below_new {w w' : World} (h : Below w.heap.size w w') : New w w' := ⟨h.size, fun b hb _ => h.block b hb, by simp, by simp, h.os, h.tape, h.output⟩
theorem join_c {w0 : World} {v : Value} {l : List (List UInt8)} (h : StrsAt w0 v l) (hl : l.length ≤ 1000000) (hlen : (joinS l).length ≤ 1099511627776) :
  Ret Tryz.prog 111 #[v, strV [47]] w0 fun r w' => r = strV (joinS l) ∧ New w0 w' := by
 rcases h with ⟨h1, _, p, cap, rfl⟩ | ⟨rfl, h1, h2⟩ | ⟨b, off, cap, all, T, fr, rfl, hcap, hb, h3, h4⟩
 ·have hl0 : l = [] := List.length_eq_zero_iff.1 h1
  subst hl0
  refine Ret.of_calls ((Tryz.strings_Join_none p cap (strB [47]) w0).mono ?_)
  rintro e w' ⟨rfl, rfl⟩
  exact ⟨_, rfl, rfl, Frm.refl _ _⟩
 ·have hl0 : l = [] := List.length_eq_zero_iff.1 h1
  subst hl0
  refine Ret.of_calls ((Tryz.strings_Join_none none 0 (strB [47]) w0).mono ?_)
  rintro e w' ⟨rfl, rfl⟩
  exact ⟨_, rfl, rfl, Frm.refl _ _⟩
 ·have hsl : StrsAt w0 (.slice (some ⟨b, off, none⟩) l.length cap) l := .inr (.inr ⟨b, off, cap, all, T, fr, rfl, hcap, hb, h3, h4⟩)
  have hc : ∀ (j : Nat) x, (l.map strB)[j]? = some x → w0.cell? ⟨b, off + j, none⟩ = some (.string x) := by
   intro j x hx
   rw [List.getElem?_map] at hx
   cases hj : l[j]? with
   | none => rw [hj] at hx; cases hx
   | some y =>
    rw [hj] at hx; cases hx
    have := StrsAt.cell hsl hj
    simpa using this
  have e1 : (l.map strB).map (·.data.toList) = l := by
   rw [List.map_map]
   conv => rhs; rw [← List.map_id l]
   exact List.map_congr_left fun x _ => by simp [strB]
  have e2 : (strB [47]).data.toList = [47] := rfl
  have e3 : Lib.join ((l.map strB).map (·.data.toList)) (strB [47]).data.toList = joinS l := by rw [e1, e2, libjoin]
  have := Tryz.strings_Join b off cap (l.map strB) (strB [47]) w0 hc (Array.getElem?_eq_some_iff.1 hb).1 (by simp; omega) (by simpa using hcap) (by rw [e3]; omega)
  rw [e3, List.length_map] at this
  refine Ret.of_calls (this.mono ?_)
  rintro e w' ⟨rfl, hbl⟩
  exact ⟨_, rfl, rfl, below_new hbl⟩
end Go.Proofs.YtigfbpbnohkokaaGreat

namespace Go.Proofs.YtigfbpbnohkokaaGreat
open Go Go.Fw Go.RowKit Go.Proofs
set_option linter.unusedVariables false
set_option linter.unusedSimpArgs false
set_option maxRecDepth 100000
set_option maxHeartbeats 4000000

-- valise/path.Join
theorem pjoin_c {w0 : World} {v : Value} {l : List (List UInt8)} (h : StrsAt w0 v l)  : Ret Tryz.prog 77 #[v] w0 fun r w' => r = .tuple #[strV (joinV l), .int .i64 (joinE l)] ∧ New w0 w' := by
 have M : Sep w0 [] w0 := St.nil w0
 obtain ⟨p, cap, rfl⟩ := h.shape
 refine Ret.of_W Tryz.func77 rfl Tryz.ntmps77 rfl ?_
 refine cnd 2 ?_ ?_
 ·intro hco1
  refine go 1 ?_
  have hE := joinP_many (l := l) (by omega); exact ⟨by rw [hE.1, hE.2]; rfl, M.frm⟩
 ·intro hco1
  refine go 1 ?_
  refine W.loop (σ := Nat) (fun q => [(0, _), (10, _), (11, _), (12, .int .i64 ((q : Nat) : Int))]) (fun q w => q ≤ l.length ∧ (∀ (k : Nat) y, k < q → l[k]? = some y → nameOK y) ∧ Sep w0 [] w) (fun q => l.length - q) 0 ⟨rfl, rfl, rfl, rfl, trivial⟩ ⟨Nat.zero_le _, fun k c h => by omega, M⟩ ?_
  rintro q w ⟨hq, hall, M⟩
  refine cnd 1 ?_ ?_
  ·intro hco2
   obtain ⟨x, hx⟩ := get_lt (l := l) (q := q) (by omega)
   obtain ⟨bk, off, rfl, _⟩ := (h.new M.frm).blk (j := q) (by omega)
   refine go 0 ?_
   refine x_ia q rfl rfl rfl Tryz.underlying47 sz9 rfl rfl rfl (by omega) ?_
   refine x_ld rfl rfl rfl Tryz.underlying9 rfl rfl (StrsAt.cell (h.new M.frm) hx) ?_
   refine go 0 ?_
   refine x_call rfl rfl rfl rfl rfl en110 (name_c) ?_
   rintro r wcall1 ⟨rfl, hncall1⟩
   have M := M.new hncall1
   refine ⟨trivial, ?_⟩
   refine cnd 1 ?_ ?_
   ·intro hco3
    refine go 1 ?_
    have hE := joinP_bad (List.mem_of_getElem? hx) (fun h => hco3 (nameP_zero.2 h)); exact ⟨by rw [hE.1, hE.2]; rfl, M.frm⟩
   ·intro hco3
    refine go 0 ?_
    refine x_add _ rfl rfl rfl rfl rfl (wadd (by omega) (by omega)) ?_
    refine go 0 ?_
    exact At.back (q + 1) ⟨rfl, rfl, rfl, rfl, trivial⟩ ⟨by omega, all_take hall hx (nameP_zero.1 hco3), M⟩ (by first | omega | (simp only; omega) | (simp; done) | (simp; omega))
  ·intro hco2
   have hok : allOK l := all_all fun k y hk => hall k y (by omega)
   have hjl := joinS_le (allOK_len hok)
   refine go 0 ?_
   refine x_call rfl rfl rfl rfl rfl en111 (join_c (h.new M.frm) (by omega) (by omega)) ?_
   rintro r w3 ⟨rfl, hn⟩
   have M := M.new hn
   refine ⟨trivial, ?_⟩
   refine cnd 2 ?_ ?_
   ·intro hco4
    refine go 1 ?_
    have hE := joinP_long (l := l) (by omega); exact ⟨by rw [hE.1, hE.2]; rfl, M.frm⟩
   ·intro hco4
    refine go 1 ?_
    have hE := joinP_good (l := l) (by omega) hok (by omega); exact ⟨by rw [hE.1, hE.2], M.frm⟩

-- valise/valiseref13.Text
theorem rtext_c {w0 : World} {v : Value} {l : List (List UInt8)} (h : StrsAt w0 v l) (hl : l.length ≤ 100) (hb : ∀ x ∈ l, x.length ≤ 100000) : Ret Tryz.prog 35 #[v] w0 fun r w' => r = strV (joinS l) ∧ New w0 w' := by
 have M : Sep w0 [] w0 := St.nil w0
 obtain ⟨p, cap, rfl⟩ := h.shape
 refine Ret.of_W Tryz.func35 rfl Tryz.ntmps35 rfl ?_
 refine go 0 ?_
 refine W.loop (σ := Nat) (fun q => [(0, _), (3, strV (joinS (l.take q))), (4, .int .i64 ((q : Nat) : Int))]) (fun q w => q ≤ l.length ∧ Sep w0 [] w) (fun q => l.length - q) 0 ⟨rfl, rfl, rfl, trivial⟩ ⟨Nat.zero_le _, M⟩ ?_
 rintro q w ⟨hq, M⟩
 have hjl := joinS_le (l := l.take q) (k := 100000) (fun x hx => hb x (List.mem_of_mem_take hx))
 have hjl2 : (joinS (l.take q)).length ≤ 10000100 := by
  rw [List.length_take] at hjl
  have : min q l.length ≤ 100 := by omega
  omega
 refine cnd 2 ?_ ?_
 ·intro hco1
  obtain ⟨x, hx⟩ := get_lt (l := l) (q := q) (by omega)
  obtain ⟨bk, off, rfl, _⟩ := (h.new M.frm).blk (j := q) (by omega)
  have hxl := hb x (List.mem_of_getElem? hx)
  have htk : joinS (l.take (q + 1)) = _ := (congrArg joinS (take_snoc hx)).trans (joinS_snoc _ _)
  refine cnd 1 ?_ ?_
  ·intro hco2
   refine go 0 ?_
   refine x_catS rfl rfl rfl rfl rfl (by first | omega | (simp; omega)) ?_
   refine go 0 ?_
   refine x_ia q rfl rfl rfl Tryz.underlying47 sz9 rfl rfl rfl (by omega) ?_
   refine x_ld rfl rfl rfl Tryz.underlying9 rfl rfl (StrsAt.cell (h.new M.frm) hx) ?_
   refine x_catS rfl rfl rfl rfl rfl (by first | omega | (simp; omega)) ?_
   refine go 0 ?_
   refine x_add _ rfl rfl rfl rfl rfl (wadd (by omega) (by omega)) ?_
   refine go 0 ?_
   exact At.back (q + 1) ⟨rfl, (by rw [htk, if_neg (by intro e; have := congrArg List.length e; rw [List.length_take] at this; simp only [List.length_nil] at this; omega)]; simp only [List.append_assoc, List.singleton_append, List.cons_append, List.nil_append]; rfl), rfl, trivial⟩ ⟨by omega, M⟩ (by first | omega | (simp only; omega) | (simp; done) | (simp; omega))
  ·intro hco2
   refine go 0 ?_
   refine x_ia q rfl rfl rfl Tryz.underlying47 sz9 rfl rfl rfl (by omega) ?_
   refine x_ld rfl rfl rfl Tryz.underlying9 rfl rfl (StrsAt.cell (h.new M.frm) hx) ?_
   refine x_catS rfl rfl rfl rfl rfl (by first | omega | (simp; omega)) ?_
   refine go 0 ?_
   refine x_add _ rfl rfl rfl rfl rfl (wadd (by omega) (by omega)) ?_
   refine go 0 ?_
   exact At.back (q + 1) ⟨rfl, (by have hq0 : q = 0 := (by omega); subst hq0; rw [htk, if_pos (show List.take 0 l = [] from rfl)]; rfl), rfl, trivial⟩ ⟨by omega, M⟩ (by first | omega | (simp only; omega) | (simp; done) | (simp; omega))
 ·intro hco1
  refine go 1 ?_
  have hq : q = l.length := by omega
  subst hq; exact ⟨by rw [List.take_length], M.frm⟩

-- valise/valiseref13.Join
theorem rjoin_c {w0 : World} {v : Value} {l : List (List UInt8)} (h : StrsAt w0 v l)  : Ret Tryz.prog 115 #[v] w0 fun r w' => r = .tuple #[strV (joinV l), .int .i64 (joinE l)] ∧ New w0 w' := by
 have M : Sep w0 [] w0 := St.nil w0
 obtain ⟨p, cap, rfl⟩ := h.shape
 refine Ret.of_W Tryz.func115 rfl Tryz.ntmps115 rfl ?_
 refine cnd 2 ?_ ?_
 ·intro hco1
  refine go 1 ?_
  have hE := joinP_many (l := l) (by omega); exact ⟨by rw [hE.1, hE.2]; rfl, M.frm⟩
 ·intro hco1
  refine go 0 ?_
  refine W.loop (σ := Nat) (fun q => [(0, _), (4, .int .i64 ((q : Nat) : Int))]) (fun q w => q ≤ l.length ∧ (∀ (k : Nat) y, k < q → l[k]? = some y → nameOK y) ∧ Sep w0 [] w) (fun q => l.length - q) 0 ⟨rfl, rfl, trivial⟩ ⟨Nat.zero_le _, fun k c h => by omega, M⟩ ?_
  rintro q w ⟨hq, hall, M⟩
  refine cnd 2 ?_ ?_
  ·intro hco2
   obtain ⟨x, hx⟩ := get_lt (l := l) (q := q) (by omega)
   obtain ⟨bk, off, rfl, _⟩ := (h.new M.frm).blk (j := q) (by omega)
   refine go 0 ?_
   refine x_ia q rfl rfl rfl Tryz.underlying47 sz9 rfl rfl rfl (by omega) ?_
   refine x_ld rfl rfl rfl Tryz.underlying9 rfl rfl (StrsAt.cell (h.new M.frm) hx) ?_
   refine x_call rfl rfl rfl rfl rfl en57 (rname_c) ?_
   rintro r wcall1 ⟨rfl, hncall1⟩
   have M := M.new hncall1
   refine ⟨trivial, ?_⟩
   refine cnd 1 ?_ ?_
   ·intro hco3
    refine go 1 ?_
    have hE := joinP_bad (List.mem_of_getElem? hx) (fun h => hco3 (nameP_zero.2 h)); exact ⟨by rw [hE.1, hE.2]; rfl, M.frm⟩
   ·intro hco3
    refine go 0 ?_
    refine x_add _ rfl rfl rfl rfl rfl (wadd (by omega) (by omega)) ?_
    refine go 0 ?_
    exact At.back (q + 1) ⟨rfl, rfl, trivial⟩ ⟨by omega, all_take hall hx (nameP_zero.1 hco3), M⟩ (by first | omega | (simp only; omega) | (simp; done) | (simp; omega))
  ·intro hco2
   have hok : allOK l := all_all fun k y hk => hall k y (by omega)
   have hjl := joinS_le (allOK_len hok)
   refine go 0 ?_
   refine x_call rfl rfl rfl rfl rfl en35 (rtext_c (h.new M.frm) (by omega) (fun x hx => by have := allOK_len hok x hx; omega)) ?_
   rintro r w3 ⟨rfl, hn⟩
   have M := M.new hn
   refine ⟨trivial, ?_⟩
   refine cnd 2 ?_ ?_
   ·intro hco4
    refine go 1 ?_
    have hE := joinP_long (l := l) (by omega); exact ⟨by rw [hE.1, hE.2]; rfl, M.frm⟩
   ·intro hco4
    refine go 1 ?_
    have hE := joinP_good (l := l) (by omega) hok (by omega); exact ⟨by rw [hE.1, hE.2], M.frm⟩

end Go.Proofs.YtigfbpbnohkokaaGreat

namespace Go.Proofs.YtigfbpbnohkokaaGreat
open Go Go.Fw Go.RowKit Go.Proofs
set_option linter.unusedVariables false
set_option linter.unusedSimpArgs false
set_option maxRecDepth 100000
set_option maxHeartbeats 4000000

-- valise/path.Clean
theorem clean_c {w0 : World} {s : List UInt8}  : Ret Tryz.prog 45 #[strV s] w0 fun r w' => r = .tuple #[strV (cleanP s).1, .int .i64 (cleanP s).2] ∧ New w0 w' := by
 have M : Sep w0 [] w0 := St.nil w0
 refine Ret.of_W Tryz.func45 rfl Tryz.ntmps45 rfl ?_
 refine cnd 2 ?_ ?_
 ·intro hco1
  refine go 1 ?_
  rw [cleanP_long (by omega)]; exact ⟨rfl, M.frm⟩
 ·intro hco1
  refine go 1 ?_
  intro bal1 _ M
  refine go 0 ?_
  refine x_call rfl rfl rfl rfl rfl en76 (pieces_c) ?_
  rintro r wcall1 ⟨bcall1, rfl, Mcall1⟩
  have M := M.grow Mcall1
  refine ⟨trivial, ?_⟩
  refine go 0 ?_
  refine W.range rfl en108 (fun rr hkt hps has hbdrng1 w2 hw2 => ?_)
  have M := M.range hw2
  refine (pieces_it (I := fun x rest w' => ∃ A ov Lo, cleanL s = rest.foldl cleanStep A ∧ A.length + rest.length ≤ 1025 ∧ StrsO Lo ov A ∧ Sep w0 ([(bal1, Obj.cells [ov].toArray 47 (0, 0)), (bcall1, Obj.cells [strV x].toArray 9 (0, 0)), (wcall1.heap.size, .deferred (some [])), (wcall1.heap.size + 1, .loop { rr with state := .ready, pending := none })] ++ Lo) w') (X := fun w' => False) (by omega) ?_ ?_ ?_ ?_ ⟨[], _, [], rfl, by have := splitS_len s; simp; omega, OwL.nil, by simpa using M⟩).mono ?_
  ·rintro x rest w' ⟨A, ov, Lo, hcl, hlen, how, M⟩
   exact M.at_ 1 rfl
  ·rintro x y rest w' w1 ⟨A, ov, Lo, hcl, hlen, how, M⟩ hw1
   have M := M.put 1 rfl hw1
   exact ⟨A, ov, Lo, hcl, hlen, how, M⟩
  ·rintro x rest w' w1 ⟨A, ov, Lo, hcl, hlen, how, M⟩ hn
   have M := M.new hn
   exact ⟨A, ov, Lo, hcl, hlen, how, M⟩
  ·rintro n rest w' ⟨A, ov, Lo, hcl, hlen, how, M⟩
   obtain ⟨p0, cap0, rfl, hcap0⟩ := how.shape2 (by decide)
   simp only [List.foldl_cons, List.length_cons] at hcl hlen
   refine Yld.one (M.at_ 3 rfl) hkt hps rfl has ?_
   refine go 0 ?_
   refine At.asg hbdrng1 (M.at_ 3 rfl) ?_
   generalize hwb : World.putObj _ _ _ = wb
   have M := M.put 3 rfl hwb.symm
   refine spl 1 15 ?_ ?_
   ·intro hsp1
    refine go 0 ?_
    refine At.rnd_n (by first | exact M.at_ 0 rfl | exact M.at_ 1 rfl | exact M.at_ 2 rfl | exact M.at_ 3 rfl | exact M.at_ 4 rfl | exact M.at_ 5 rfl | exact M.at_ 6 rfl | exact M.at_ 7 rfl) ?_
    generalize hwz : World.putObj _ _ _ = wz
    have M := M.put 3 rfl hwz.symm
    exact ⟨true, rfl, fun _ => ⟨A, _, Lo, by rw [hcl, cleanStep_dot (.inl hsp1)], by omega, how, M⟩, fun h => (by cases h)⟩
   ·intro hsp1
    refine cnd 1 ?_ ?_
    ·intro hco3
     refine go 0 ?_
     refine At.rnd_n (by first | exact M.at_ 0 rfl | exact M.at_ 1 rfl | exact M.at_ 2 rfl | exact M.at_ 3 rfl | exact M.at_ 4 rfl | exact M.at_ 5 rfl | exact M.at_ 6 rfl | exact M.at_ 7 rfl) ?_
     generalize hwz : World.putObj _ _ _ = wz
     have M := M.put 3 rfl hwz.symm
     exact ⟨true, rfl, fun _ => ⟨A, _, Lo, by rw [hcl, cleanStep_dot (.inr hco3)], by omega, how, M⟩, fun h => (by cases h)⟩
    ·intro hco3
     refine cnd 1 ?_ ?_
     ·intro hco4
      refine go 1 ?_
      refine x_bs1 (cs := [strV n]) rfl rfl rfl Tryz.underlying47 sz9 ze9 (Z := [_]) rfl rfl (by decide) (by decide) rfl rfl rfl ?_
      intro bbs1 wbs1 hbbs1 hwbs1
      have M0 := M.acons hbbs1 hwbs1
      have hslbs1 : Sl wbs1 (.slice (some ⟨bbs1, 0, none⟩) 1 1) 1 1 [strV n] := .inr ⟨bbs1, 0, 1, _, _, _, rfl, by omega, M0.at_ 0 rfl, rfl, rfl⟩
      have M := M0.tail
      refine ⟨trivial, ?_⟩
      refine x_apL rfl rfl rfl rfl Tryz.underlying47 sz9 ze9 rfl by9 rfl rfl how (M.perm (List.perm_append_comm (l₁ := [_, _, _, _]) (l₂ := Lo))) (strCs_one _) (hslbs1.src Tryz.underlying47 (by intro u hu; simp at hu; subst hu; rfl)) (by first | omega | (simp; omega)) (by decide) (by first | omega | (simp; omega)) ?_
      intro Lo v6 wap1 how M
      have M := M.perm List.perm_append_comm
      obtain ⟨p6, cap6, rfl⟩ := how.shape
      refine ⟨trivial, ?_⟩
      refine go 1 ?_
      intro _ M
      refine go 0 ?_
      refine At.rnd_n (by first | exact M.at_ 0 rfl | exact M.at_ 1 rfl | exact M.at_ 2 rfl | exact M.at_ 3 rfl | exact M.at_ 4 rfl | exact M.at_ 5 rfl | exact M.at_ 6 rfl | exact M.at_ 7 rfl) ?_
      generalize hwz : World.putObj _ _ _ = wz
      have M := M.put 3 rfl hwz.symm
      exact ⟨true, rfl, fun _ => ⟨A ++ [n], _, Lo, by rw [hcl, cleanStep_in hsp1 hco3 hco4], by simp; omega, strsO_snoc how, M⟩, fun h => (by cases h)⟩
     ·intro hco4
      have hup : n = [46, 46] := by simpa using hco4
      refine cnd 3 ?_ ?_
      ·intro hco5
       refine go 3 ?_
       refine x_sub ((A.length - 1 : Nat) : Int) rfl rfl rfl rfl rfl (by rw [w64 (by omega) (by omega)]; omega) ?_
       refine x_slh (A.length - 1) rfl rfl rfl Tryz.underlying47 sz9 rfl rfl rfl (by omega) ?_
       refine go 1 ?_
       intro _ M
       refine go 0 ?_
       refine At.rnd_n (by first | exact M.at_ 0 rfl | exact M.at_ 1 rfl | exact M.at_ 2 rfl | exact M.at_ 3 rfl | exact M.at_ 4 rfl | exact M.at_ 5 rfl | exact M.at_ 6 rfl | exact M.at_ 7 rfl) ?_
       generalize hwz : World.putObj _ _ _ = wz
       have M := M.put 3 rfl hwz.symm
       exact ⟨true, rfl, fun _ => ⟨A.take (A.length - 1), _, Lo, by rw [hcl, cleanStep_up hsp1 hco3 hup], by simp; omega, strsO_take how (by omega), M⟩, fun h => (by cases h)⟩
      ·intro hco5
       refine go 0 ?_
       refine At.rnd_n (by first | exact M.at_ 0 rfl | exact M.at_ 1 rfl | exact M.at_ 2 rfl | exact M.at_ 3 rfl | exact M.at_ 4 rfl | exact M.at_ 5 rfl | exact M.at_ 6 rfl | exact M.at_ 7 rfl) ?_
       generalize hwz : World.putObj _ _ _ = wz
       have M := M.put 3 rfl hwz.symm
       exact ⟨true, rfl, fun _ => ⟨A, _, Lo, by rw [hcl, cleanStep_up hsp1 hco3 hup, List.take_of_length_le (by omega)], by omega, how, M⟩, fun h => (by cases h)⟩
  ·rintro v w3 ⟨rfl, ⟨x, ⟨A, ov, Lo, hcl, hlen, how, M⟩⟩ | HX⟩
   ·refine .inl ⟨.ready, by simp, M.at_ 3 rfl, ?_⟩
    generalize hwx : World.putObj _ _ _ = w4
    have M := M.put 3 rfl hwx.symm
    simp only [List.foldl_nil, List.length_nil] at hcl hlen
    obtain ⟨p0, cap0, rfl⟩ := how.shape
    refine go 1 ?_
    refine x_call rfl rfl rfl rfl rfl en77 (pjoin_c (strsO_at how M (fun x hx => List.mem_append_right [_, _, _, _] hx))) ?_
    rintro r w5 ⟨rfl, hn5⟩
    have M := M.new hn5
    refine ⟨trivial, ?_⟩
    refine go 0 ?_
    refine At.mark (M.at_ 2 rfl) ?_
    generalize hwy : World.putObj _ _ _ = w6
    have M := M.put 2 rfl hwy.symm
    refine go 1 ?_
    rw [cleanP_join (by omega), hcl]; exact ⟨rfl, M.frm⟩
   ·exact HX.elim

end Go.Proofs.YtigfbpbnohkokaaGreat

namespace Go.Proofs.YtigfbpbnohkokaaGreat
open Go Go.Fw
set_option linter.unusedVariables false
set_option linter.unusedSimpArgs false

theorem splitP_cases (p : List UInt8) : (p = [] ∧ splitP p = some []) ∨ (p ≠ [] ∧ splitP p = none) ∨ (p ≠ [] ∧ p.length ≤ 120 ∧ (splitS p).length ≤ 8 ∧ allOK (splitS p) ∧ splitP p = some (splitS p)) := by
 by_cases h : p = []
 ·exact .inl ⟨h, by unfold splitP; rw [if_pos h]⟩
 ·by_cases h1 : 120 < p.length
  ·exact .inr (.inl ⟨h, splitP_long h1⟩)
  ·by_cases h2 : (splitS p).length ≤ 8 ∧ allOK (splitS p)
   ·exact .inr (.inr ⟨h, by omega, h2.1, h2.2, splitP_good h (by omega) h2⟩)
   ·exact .inr (.inl ⟨h, splitP_bad h h2⟩)

/-- Where the last c is. -/
def LastAt (s : List UInt8) (c : UInt8) (z : Int) : Prop := (z = -1 ∧ c ∉ s) ∨ ∃ a x, s = a ++ c :: x ∧ c ∉ x ∧ z = (a.length : Int)
theorem joinS_app : ∀ {a b : List (List UInt8)}, a ≠ [] → b ≠ [] → joinS (a ++ b) = joinS a ++ 47 :: joinS b
 | [], _, h, _ => absurd rfl h
 | [p], b, _, hb => by rw [List.singleton_append, joinS_cons hb]; rfl
 | p :: q :: r, b, _, hb => by
  have := joinS_app (a := q :: r) (b := b) (by simp) hb
  show joinS (p :: (q :: r ++ b)) = joinS (p :: q :: r) ++ 47 :: joinS b
  rw [joinS_cons (p := p) (r := q :: r ++ b) (by simp), this, joinS_cons (p := p) (r := q :: r) (by simp)]
  simp
theorem app_cons_inj {a b x y : List UInt8} {c : UInt8} (h : a ++ c :: x = b ++ c :: y) (hx : c ∉ x) (hy : c ∉ y) : a = b ∧ x = y := by
 induction a generalizing b with
 | nil => cases b with
  | nil => simp at h; exact ⟨rfl, h⟩
  | cons d b => simp at h; exact absurd (by rw [h.2]; simp) hx
 | cons e a ih => cases b with
  | nil => simp at h; exact absurd (by rw [← h.2]; simp) hy
  | cons d b =>
   simp at h
   obtain ⟨h1, h2⟩ := ih h.2
   exact ⟨by rw [h.1, h1], h2⟩

theorem parentP_bad {p : List UInt8} (h : splitE p ≠ 0) : parentP p = ([], [], 8) ∧ splitE p = 8 := by
 unfold splitE at h ⊢
 unfold parentP
 cases hs : splitP p with
 | none => exact ⟨rfl, rfl⟩
 | some l => rw [hs] at h; simp at h
theorem split_snoc (p : List UInt8) : ∃ a x, splitS p = a ++ [x] := ⟨(splitS p).dropLast, (splitS p).getLast (splitS_ne p), (List.dropLast_concat_getLast _).symm⟩
theorem parentP_some {p : List UInt8} (h0 : p ≠ []) (h : splitE p = 0) {a : List (List UInt8)} {x : List UInt8} (hs : splitS p = a ++ [x]) : parentP p = (joinS a, x, 0) := by
 rcases splitP_cases p with ⟨h1, _⟩ | ⟨_, h1⟩ | ⟨_, _, _, _, h1⟩
 ·exact absurd h1 h0
 ·rw [(splitE_none h1).1] at h; cases h
 ·unfold parentP; rw [h1]; simp only; rw [if_neg (splitS_ne p), hs]; simp
theorem parentP_last {p : List UInt8} (h0 : p ≠ []) (h : splitE p = 0) {z : Int} (hz : LastAt p 47 z) :
  (z = -1 → parentP p = ([], p, 0)) ∧ ∀ i : Nat, z = (i : Int) → i < p.length ∧ parentP p = (p.take i, p.drop (i + 1), 0) := by
 obtain ⟨a, x, hs⟩ := split_snoc p
 have hx : (47 : UInt8) ∉ x := splitS_no p x (by rw [hs]; simp)
 have hp := parentP_some h0 h hs
 have hj : p = joinS (a ++ [x]) := by rw [← hs, joinS_splitS]
 by_cases ha : a = []
 ·subst ha
  have hpx : p = x := by rw [hj]; rfl
  rcases hz with ⟨rfl, _⟩ | ⟨b, y, h1, _, _⟩
  ·refine ⟨fun _ => by rw [hp, hpx]; rfl, fun i hi => by omega⟩
  ·exact absurd (by rw [← hpx, h1]; simp) hx
 ·rw [joinS_app ha (by simp)] at hj
  rcases hz with ⟨rfl, h2⟩ | ⟨b, y, h1, h2, rfl⟩
  ·exact absurd (by rw [hj]; simp) h2
  ·obtain ⟨h3, h4⟩ := app_cons_inj (h1.symm.trans hj) h2 hx
   refine ⟨fun hz => by omega, fun i hi => ?_⟩
   have : i = b.length := by omega
   subst this
   rw [hp, h1, ← h3]
   have h5 : joinS [x] = x := rfl
   rw [h5] at h4
   subst h4
   simp

theorem splitS_slash : ∀ (s t : List UInt8), splitS (s ++ 47 :: t) = splitS s ++ splitS t
 | [], t => by simp [splitS]
 | c :: s, t => by
  have ih := splitS_slash s t
  rw [List.cons_append]
  by_cases hc : c = 47
  ·subst hc
   have e1 : splitS (47 :: (s ++ 47 :: t)) = [] :: splitS (s ++ 47 :: t) := by conv => lhs; unfold splitS; rw [if_pos rfl]
   have e2 : splitS (47 :: s) = [] :: splitS s := by conv => lhs; unfold splitS; rw [if_pos rfl]
   rw [e1, e2, ih]; rfl
  ·obtain ⟨p, r, hs⟩ := splitS_ex s
   have e1 : splitS (c :: (s ++ 47 :: t)) = (c :: p) :: (r ++ splitS t) := by
    conv => lhs; unfold splitS; rw [if_neg hc]
    rw [ih, hs]; rfl
   have e2 : splitS (c :: s) = (c :: p) :: r := by
    conv => lhs; unfold splitS; rw [if_neg hc]
    rw [hs]
   rw [e1, e2]; rfl

/-- What the program asks of a path and a directory. -/
def underQ (p dir : List UInt8) : Bool := decide (splitE p = 0) && decide (splitE dir = 0) && (decide (dir = []) || decide (p = dir) || (dir ++ [47]).isPrefixOf p)
theorem under_eq (p dir : List UInt8) : underQ p dir = underP p dir := by
 unfold underQ underP
 rcases splitP_cases p with ⟨hp, h1⟩ | ⟨_, h1⟩ | ⟨hp, _, _, _, h1⟩
 case inr.inl => rw [(splitE_none h1).1, h1]; rfl
 all_goals rcases splitP_cases dir with ⟨hd, h2⟩ | ⟨_, h2⟩ | ⟨hd, _, _, _, h2⟩
 case inl.inr.inl => rw [(splitE_none h2).1, h1, h2]; simp
 case inr.inr.inr.inl => rw [(splitE_none h2).1, h1, h2]; simp
 all_goals rw [(splitE_some h1).1, (splitE_some h2).1, h1, h2]; simp only [decide_true, Bool.true_and]
 ·subst hp hd; rfl
 ·subst hp
  obtain ⟨q, r, hs⟩ := splitS_ex dir
  rw [hs, decide_eq_false hd, decide_eq_false (Ne.symm hd)]
  cases dir with
  | nil => exact absurd rfl hd
  | cons c d => rfl
 ·subst hd; simp
 ·rw [decide_eq_false hd, Bool.false_or]
  rw [Bool.eq_iff_iff, Bool.or_eq_true, decide_eq_true_eq, List.isPrefixOf_iff_prefix, List.isPrefixOf_iff_prefix]
  constructor
  ·rintro (rfl | ⟨t, ht⟩)
   ·exact List.prefix_refl _
   ·rw [← ht, List.append_assoc, List.singleton_append, splitS_slash]
    exact List.prefix_append _ _
  ·rintro ⟨c, hc⟩
   by_cases h0 : c = []
   ·subst h0
    rw [List.append_nil] at hc
    left; rw [← joinS_splitS p, ← hc, joinS_splitS]
   ·right
    refine ⟨joinS c, ?_⟩
    rw [List.append_assoc, List.singleton_append]
    have := joinS_app (splitS_ne dir) h0
    rw [hc, joinS_splitS, joinS_splitS] at this
    exact this.symm

theorem underP_eq (p dir : List UInt8) : underP p dir = (decide (splitE p = 0) && decide (splitE dir = 0) && (splitN dir).isPrefixOf (splitN p)) := by
 unfold underP splitE splitN
 cases splitP p <;> cases splitP dir <;> simp
theorem splitE_nil : splitE [] = 0 := rfl
theorem splitE_len {p : List UInt8} (h : splitE p = 0) : p.length ≤ 120 := by
 rcases splitP_cases p with ⟨h1, _⟩ | ⟨_, h1⟩ | ⟨_, h2, _⟩
 ·subst h1; simp
 ·rw [(splitE_none h1).1] at h; cases h
 ·exact h2
theorem splitN_facts {p : List UInt8} (h : splitE p = 0) : (p = [] ∧ splitN p = []) ∨ (p ≠ [] ∧ splitN p = splitS p ∧ (splitS p).length ≤ 8 ∧ allOK (splitS p)) := by
 rcases splitP_cases p with ⟨h1, h2⟩ | ⟨_, h1⟩ | ⟨h1, _, h3, h4, h2⟩
 ·exact .inl ⟨h1, (splitE_some h2).2⟩
 ·rw [(splitE_none h1).1] at h; cases h
 ·exact .inr ⟨h1, (splitE_some h2).2, h3, h4⟩
theorem splitN_len (p : List UInt8) : (splitN p).length ≤ 8 := by
 rcases splitP_cases p with ⟨h1, h2⟩ | ⟨_, h1⟩ | ⟨h1, _, h3, h4, h2⟩
 ·rw [(splitE_some h2).2]; simp
 ·rw [(splitE_none h1).2]; simp
 ·rw [(splitE_some h2).2]; exact h3
theorem pre_step {A B : List (List UInt8)} {q : Nat} {x y : List UInt8} (h : B.take q = A.take q) (hx : A[q]? = some x) (hy : B[q]? = some y) (he : x = y) : B.take (q + 1) = A.take (q + 1) := by
 rw [take_snoc hx, take_snoc hy, h, he]
theorem pre_no {A B : List (List UInt8)} {q : Nat} {x y : List UInt8} (hx : A[q]? = some x) (hy : B[q]? = some y) (he : ¬ x = y) : B.isPrefixOf A = false := by
 rw [← Bool.not_eq_true, List.isPrefixOf_iff_prefix]
 rintro ⟨c, rfl⟩
 have hlt := (List.getElem?_eq_some_iff.1 hy).1
 rw [List.getElem?_append_left hlt, hy] at hx
 exact he (Option.some.inj hx).symm
theorem pre_yes {A B : List (List UInt8)} (h : B.take B.length = A.take B.length) : B.isPrefixOf A = true := by
 rw [List.isPrefixOf_iff_prefix, List.prefix_iff_eq_take, ← h, List.take_length]
theorem pre_long {A B : List (List UInt8)} (h : A.length < B.length) : B.isPrefixOf A = false := by
 rw [← Bool.not_eq_true, List.isPrefixOf_iff_prefix]; intro h2; have := h2.length_le; omega

/-! ## Order -/
theorem cmp_drop {a b : List UInt8} {i : Nat} {c : UInt8} (ha : a[i]? = some c) (hb : b[i]? = some c) : Lib.compareBytes (a.drop i) (b.drop i) = Lib.compareBytes (a.drop (i + 1)) (b.drop (i + 1)) := by
 have h1 := (List.getElem?_eq_some_iff.1 ha); have h2 := (List.getElem?_eq_some_iff.1 hb)
 obtain ⟨l1, e1⟩ := h1; obtain ⟨l2, e2⟩ := h2
 rw [List.drop_eq_getElem_cons l1, List.drop_eq_getElem_cons l2, e1, e2]
 conv => lhs; unfold Lib.compareBytes
 rw [if_neg (by simp), if_neg (by simp)]
theorem cmp_ne {a b : List UInt8} {i : Nat} {c d : UInt8} (ha : a[i]? = some c) (hb : b[i]? = some d) (h : c ≠ d) : Lib.compareBytes (a.drop i) (b.drop i) = if c < d then -1 else 1 := by
 obtain ⟨l1, e1⟩ := (List.getElem?_eq_some_iff.1 ha); obtain ⟨l2, e2⟩ := (List.getElem?_eq_some_iff.1 hb)
 rw [List.drop_eq_getElem_cons l1, List.drop_eq_getElem_cons l2, e1, e2]
 unfold Lib.compareBytes
 by_cases h3 : c < d
 ·rw [if_pos h3, if_pos h3]
 ·rw [if_neg h3, if_neg h3]
  have : d < c := by
   rw [UInt8.lt_iff_toNat_lt] at h3 ⊢
   have : c.toNat ≠ d.toNat := fun e => h (UInt8.toNat_inj.1 e)
   omega
  rw [if_pos this]
theorem cmp_end {a b : List UInt8} {i : Nat} (h : a.length ≤ i ∨ b.length ≤ i) (hi : i ≤ a.length ∧ i ≤ b.length) : Lib.compareBytes (a.drop i) (b.drop i) = if a.length < b.length then -1 else if b.length < a.length then 1 else 0 := by
 rcases Nat.lt_or_ge i a.length with h1 | h1
 ·have hb : b.length = i := by omega
  have hdb : b.drop i = [] := List.drop_eq_nil_of_le (by omega)
  rw [hdb, List.drop_eq_getElem_cons h1, if_neg (by omega), if_pos (by omega)]; rfl
 ·have hda : a.drop i = [] := List.drop_eq_nil_of_le (by omega)
  rcases Nat.lt_or_ge i b.length with h2 | h2
  ·rw [hda, List.drop_eq_getElem_cons h2, if_pos (by omega)]; rfl
  ·have hdb : b.drop i = [] := List.drop_eq_nil_of_le (by omega)
   rw [hda, hdb, if_neg (by omega), if_neg (by omega)]; rfl
theorem cmp_cases : ∀ (a b : List UInt8), Lib.compareBytes a b = -1 ∨ (Lib.compareBytes a b = 0 ∧ a = b) ∨ Lib.compareBytes a b = 1
 | [], [] => .inr (.inl ⟨rfl, rfl⟩)
 | [], _ :: _ => .inl rfl
 | _ :: _, [] => .inr (.inr rfl)
 | c :: a, d :: b => by
  unfold Lib.compareBytes
  split
  ·exact .inl rfl
  ·split
   ·exact .inr (.inr rfl)
   ·rename_i h1 h2
    have hcd : c = d := by
     rw [UInt8.lt_iff_toNat_lt] at h1 h2
     exact UInt8.toNat_inj.1 (by omega)
    rcases cmp_cases a b with h | ⟨h, h3⟩ | h
    ·exact .inl h
    ·exact .inr (.inl ⟨h, by rw [hcd, h3]⟩)
    ·exact .inr (.inr h)
theorem cmp_self : ∀ a : List UInt8, Lib.compareBytes a a = 0
 | [] => rfl
 | c :: a => by unfold Lib.compareBytes; rw [if_neg (by simp), if_neg (by simp)]; exact cmp_self a
theorem cmp_swap : ∀ a b : List UInt8, Lib.compareBytes b a = - Lib.compareBytes a b
 | [], [] => rfl
 | [], _ :: _ => rfl
 | _ :: _, [] => rfl
 | c :: a, d :: b => by
  have ih := cmp_swap a b
  conv => lhs; unfold Lib.compareBytes
  conv => rhs; unfold Lib.compareBytes
  by_cases h1 : c < d
  ·have h2 : ¬ d < c := by rw [UInt8.lt_iff_toNat_lt] at h1 ⊢; omega
   rw [if_pos h1, if_neg h2, if_pos h1]; rfl
  ·by_cases h2 : d < c
   ·rw [if_pos h2, if_neg h1, if_pos h2]
   ·rw [if_neg h2, if_neg h1, if_neg h1, if_neg h2, ih]
theorem compareL_step {p q : List (List UInt8)} {i : Nat} {x y : List UInt8} (hp : p[i]? = some x) (hq : q[i]? = some y) :
  compareL (p.drop i) (q.drop i) = if Lib.compareBytes x y ≠ 0 then Lib.compareBytes x y else compareL (p.drop (i + 1)) (q.drop (i + 1)) := by
 obtain ⟨l1, e1⟩ := (List.getElem?_eq_some_iff.1 hp); obtain ⟨l2, e2⟩ := (List.getElem?_eq_some_iff.1 hq)
 rw [List.drop_eq_getElem_cons l1, List.drop_eq_getElem_cons l2, e1, e2]
 rfl
theorem compareL_end {p q : List (List UInt8)} {i : Nat} (h : p.length ≤ i ∨ q.length ≤ i) (hi : i ≤ p.length ∧ i ≤ q.length) : compareL (p.drop i) (q.drop i) = if p.length < q.length then -1 else if q.length < p.length then 1 else 0 := by
 rcases Nat.lt_or_ge i p.length with h1 | h1
 ·have hdb : q.drop i = [] := List.drop_eq_nil_of_le (by omega)
  rw [hdb, List.drop_eq_getElem_cons h1, if_neg (by omega), if_pos (by omega)]; rfl
 ·have hda : p.drop i = [] := List.drop_eq_nil_of_le (by omega)
  rcases Nat.lt_or_ge i q.length with h2 | h2
  ·rw [hda, List.drop_eq_getElem_cons h2, if_pos (by omega)]; rfl
  ·have hdb : q.drop i = [] := List.drop_eq_nil_of_le (by omega)
   rw [hda, hdb, if_neg (by omega), if_neg (by omega)]; rfl

/-- Names that are cut off one by one. -/
def CutOK (l : List (List UInt8)) : Prop := (∀ x ∈ l, (47 : UInt8) ∉ x) ∧ (joinS l).length ≤ 9223372036854775807
theorem namesP_cut {p : List UInt8} (h : p.length ≤ 9223372036854775807) : CutOK (namesP p) ∧ joinS (namesP p) = p := by
 unfold namesP
 split
 ·rename_i h0; subst h0; exact ⟨⟨by simp, by simp [joinS]⟩, rfl⟩
 ·exact ⟨⟨splitS_no p, by rw [joinS_splitS]; exact h⟩, joinS_splitS p⟩
theorem CutOK.tail {x : List UInt8} {l : List (List UInt8)} (h : CutOK (x :: l)) : CutOK l := by
 refine ⟨fun y hy => h.1 y (List.mem_cons_of_mem _ hy), ?_⟩
 have h2 := h.2
 by_cases hl : l = []
 ·subst hl; simp [joinS]
 ·rw [joinS_len hl] at h2; omega
theorem CutOK.split {x : List UInt8} {l : List (List UInt8)} (h : CutOK (x :: l)) : splitS (joinS (x :: l)) = x :: l := splitS_joinS (by simp) h.1
theorem namesP_len (p : List UInt8) : (namesP p).length ≤ p.length + 1 := by
 unfold namesP; split
 ·simp
 ·exact splitS_len p
theorem mem_joinS_le : ∀ {l : List (List UInt8)} {x : List UInt8}, x ∈ l → x.length ≤ (joinS l).length
 | [p], x, h => by simp at h; subst h; exact Nat.le_refl _
 | p :: q :: r, x, h => by
  rw [joinS_len (by simp)]
  rcases List.mem_cons.1 h with rfl | h
  ·omega
  ·have := mem_joinS_le h; omega
end Go.Proofs.YtigfbpbnohkokaaGreat

namespace Go.Proofs.YtigfbpbnohkokaaGreat
open Go Go.Fw Go.RowKit Go.Proofs
set_option linter.unusedVariables false
set_option linter.unusedSimpArgs false
set_option maxRecDepth 100000
set_option maxHeartbeats 4000000

-- valise/valiseref13.Split
theorem rsplit_c {w0 : World} {p : List UInt8}  : Ret Tryz.prog 31 #[strV p] w0 fun r w' => ∃ v Lr, r = .tuple #[v, .int .i64 (splitE p)] ∧ Sep w0 Lr w' ∧ StrsO Lr v (splitN p) := by
 have M : Sep w0 [] w0 := St.nil w0
 refine Ret.of_W Tryz.func31 rfl Tryz.ntmps31 rfl ?_
 refine cnd 1 ?_ ?_
 ·intro hco1
  refine go 1 ?_
  subst hco1; exact ⟨_, [], rfl, M.frm, OwL.nil⟩
 ·intro hco1
  refine cnd 2 ?_ ?_
  ·intro hco2
   refine go 1 ?_
   have h := splitE_none (splitP_long (p := p) (by omega)); exact ⟨_, [], by rw [h.1], M.frm, by rw [h.2]; exact OwL.nil⟩
  ·intro hco2
   refine go 0 ?_
   refine x_call rfl rfl rfl rfl rfl en56 (rpieces_c (s := p) (by omega)) ?_
   rintro v1 w1 ⟨L1, M1, hs1⟩
   have M := M.grow M1
   obtain ⟨p1, cap1, rfl⟩ := hs1.shape
   have hl1 := splitS_len p
   refine ⟨trivial, ?_⟩
   refine cnd 2 ?_ ?_
   ·intro hco3
    refine go 1 ?_
    have h := splitE_none (splitP_bad hco1 (fun h => by have := h.1; omega)); exact ⟨_, [], by rw [h.1], M.frm, by rw [h.2]; exact OwL.nil⟩
   ·intro hco3
    refine go 0 ?_
    refine W.loop (σ := Nat) (fun q => [(4, _), (5, .int .i64 ((q : Nat) : Int))]) (fun q w => q ≤ (splitS p).length ∧ (∀ (k : Nat) y, k < q → (splitS p)[k]? = some y → nameOK y) ∧ Sep w0 L1 w) (fun q => (splitS p).length - q) 0 ⟨rfl, rfl, trivial⟩ ⟨Nat.zero_le _, fun k c h => by omega, M⟩ ?_
    rintro q w ⟨hq, hall, M⟩
    refine cnd 2 ?_ ?_
    ·intro hco4
     obtain ⟨x, hx⟩ := get_lt (l := splitS p) (q := q) (by omega)
     have hAt := strsO_at hs1 M (fun _ h => h)
     obtain ⟨bk, off, rfl, _⟩ := hAt.blk (j := q) (by omega)
     refine go 0 ?_
     refine x_ia q rfl rfl rfl Tryz.underlying47 sz9 rfl rfl rfl (by omega) ?_
     refine x_ld rfl rfl rfl Tryz.underlying9 rfl rfl (StrsAt.cell hAt hx) ?_
     refine x_call rfl rfl rfl rfl rfl en57 (rname_c) ?_
     rintro r wcall2 ⟨rfl, hncall2⟩
     have M := M.new hncall2
     refine ⟨trivial, ?_⟩
     refine cnd 1 ?_ ?_
     ·intro hco5
      refine go 1 ?_
      have h := splitE_none (splitP_bad hco1 (fun h => hco5 (nameP_zero.2 (h.2 x (List.mem_of_getElem? hx))))); exact ⟨_, [], by rw [h.1], M.frm, by rw [h.2]; exact OwL.nil⟩
     ·intro hco5
      refine go 0 ?_
      refine x_add _ rfl rfl rfl rfl rfl (wadd (by omega) (by omega)) ?_
      refine go 0 ?_
      exact At.back (q + 1) ⟨rfl, rfl, trivial⟩ ⟨by omega, all_take hall hx (nameP_zero.1 hco5), M⟩ (by first | omega | (simp only; omega) | (simp; done) | (simp; omega))
    ·intro hco4
     refine go 1 ?_
     have h := splitE_some (splitP_good hco1 (by omega) ⟨by omega, all_all fun k y hk => hall k y (by omega)⟩); exact ⟨_, L1, by rw [h.1], M, by rw [h.2]; exact hs1⟩

-- valise/valiseref13.Clean
theorem rclean_c {w0 : World} {s : List UInt8}  : Ret Tryz.prog 84 #[strV s] w0 fun r w' => r = .tuple #[strV (cleanP s).1, .int .i64 (cleanP s).2] ∧ New w0 w' := by
 have M : Sep w0 [] w0 := St.nil w0
 refine Ret.of_W Tryz.func84 rfl Tryz.ntmps84 rfl ?_
 refine cnd 2 ?_ ?_
 ·intro hco1
  refine go 1 ?_
  rw [cleanP_long (by omega)]; exact ⟨rfl, M.frm⟩
 ·intro hco1
  refine go 0 ?_
  refine x_call rfl rfl rfl rfl rfl en56 (rpieces_c (s := s) (by omega)) ?_
  rintro v1 w1 ⟨L1, M1, hs1⟩
  have M := M.grow M1
  obtain ⟨p1, cap1, rfl⟩ := hs1.shape
  have hl1 := splitS_len s
  refine ⟨trivial, ?_⟩
  refine go 0 ?_
  refine W.loop (σ := Nat × Value) (fun q => [(4, q.2), (5, _), (6, .int .i64 ((q.1 : Nat) : Int))]) (fun q w => q.1 ≤ (splitS s).length ∧ ∃ A Lo, A = ((splitS s).take q.1).foldl cleanStep [] ∧ A.length ≤ q.1 ∧ StrsO Lo q.2 A ∧ Sep w0 (L1 ++ Lo) w) (fun q => (splitS s).length - q.1) (0, .slice none 0 0) ⟨rfl, rfl, rfl, trivial⟩ ⟨Nat.zero_le _, [], [], rfl, Nat.le_refl _, OwL.nil, by simpa using M⟩ ?_
  rintro ⟨q, ov⟩ w ⟨hq, A, Lo, hA, hAl, how, M⟩
  simp only at hq hA hAl how ⊢
  obtain ⟨p0, cap0, rfl, hcap0⟩ := how.shape2 (by decide)
  refine cnd 2 ?_ ?_
  ·intro hco2
   obtain ⟨x, hx⟩ := get_lt (l := splitS s) (q := q) (by omega)
   have hAt := strsO_at hs1 M (fun _ h => List.mem_append_left _ h)
   obtain ⟨bk, off, rfl, _⟩ := hAt.blk (j := q) (by omega)
   have htk : ((splitS s).take (q + 1)).foldl cleanStep [] = cleanStep A x := by rw [take_snoc hx, List.foldl_append, ← hA]; rfl
   refine go 0 ?_
   refine x_ia q rfl rfl rfl Tryz.underlying47 sz9 rfl rfl rfl (by omega) ?_
   refine x_ld rfl rfl rfl Tryz.underlying9 rfl rfl (StrsAt.cell hAt hx) ?_
   refine cnd 1 ?_ ?_
   ·intro hco3
    refine go 0 ?_
    refine W.condT (congrArg (fun b => some (Value.bool b)) (decide_eq_true hco3)) ?_
    refine go 0 ?_
    refine x_add _ rfl rfl rfl rfl rfl (wadd (by omega) (by omega)) ?_
    refine go 0 ?_
    exact At.back ((q + 1, _)) ⟨rfl, rfl, rfl, trivial⟩ ⟨by simp; omega, A, Lo, by rw [htk, cleanStep_dot (.inl hco3)], by simp; omega, how, M⟩ (by first | omega | (simp only; omega) | (simp; done) | (simp; omega))
   ·intro hco3
    refine cnd 1 ?_ ?_
    ·intro hco5
     refine go 0 ?_
     refine x_add _ rfl rfl rfl rfl rfl (wadd (by omega) (by omega)) ?_
     refine go 0 ?_
     exact At.back ((q + 1, _)) ⟨rfl, rfl, rfl, trivial⟩ ⟨by simp; omega, A, Lo, by rw [htk, cleanStep_dot (.inr hco5)], by simp; omega, how, M⟩ (by first | omega | (simp only; omega) | (simp; done) | (simp; omega))
    ·intro hco5
     refine cnd 1 ?_ ?_
     ·intro hco6
      refine cnd 2 ?_ ?_
      ·intro hco7
       refine go 1 ?_
       refine x_sub ((A.length - 1 : Nat) : Int) rfl rfl rfl rfl rfl (by rw [w64 (by omega) (by omega)]; omega) ?_
       refine x_slh (A.length - 1) rfl rfl rfl Tryz.underlying47 sz9 rfl rfl rfl (by omega) ?_
       refine go 0 ?_
       refine x_add _ rfl rfl rfl rfl rfl (wadd (by omega) (by omega)) ?_
       refine go 0 ?_
       exact At.back ((q + 1, _)) ⟨rfl, rfl, rfl, trivial⟩ ⟨by simp; omega, A.take (A.length - 1), Lo, by rw [htk, cleanStep_up hco3 hco5 hco6], by simp; omega, strsO_take how (by omega), M⟩ (by first | omega | (simp only; omega) | (simp; done) | (simp; omega))
      ·intro hco7
       refine go 0 ?_
       refine x_add _ rfl rfl rfl rfl rfl (wadd (by omega) (by omega)) ?_
       refine go 0 ?_
       exact At.back ((q + 1, _)) ⟨rfl, rfl, rfl, trivial⟩ ⟨by simp; omega, A, Lo, by rw [htk, cleanStep_up hco3 hco5 hco6, List.take_of_length_le (by omega)], by simp; omega, how, M⟩ (by first | omega | (simp only; omega) | (simp; done) | (simp; omega))
     ·intro hco6
      refine go 0 ?_
      refine x_ia q rfl rfl rfl Tryz.underlying47 sz9 rfl rfl rfl (by omega) ?_
      refine x_ld rfl rfl rfl Tryz.underlying9 rfl rfl (StrsAt.cell hAt hx) ?_
      refine x_bs1 (cs := [strV x]) rfl rfl rfl Tryz.underlying47 sz9 ze9 (Z := [_]) rfl rfl (by decide) (by decide) rfl rfl rfl ?_
      intro bbs1 wbs1 hbbs1 hwbs1
      have M0 := M.acons hbbs1 hwbs1
      have hslbs1 : Sl wbs1 (.slice (some ⟨bbs1, 0, none⟩) 1 1) 1 1 [strV x] := .inr ⟨bbs1, 0, 1, _, _, _, rfl, by omega, M0.at_ 0 rfl, rfl, rfl⟩
      have M := M0.tail
      refine ⟨trivial, ?_⟩
      refine x_apL rfl rfl rfl rfl Tryz.underlying47 sz9 ze9 rfl by9 rfl rfl how (M.perm (List.perm_append_comm (l₁ := L1) (l₂ := Lo))) (strCs_one _) (hslbs1.src Tryz.underlying47 (by intro u hu; simp at hu; subst hu; rfl)) (by first | omega | (simp; omega)) (by decide) (by first | omega | (simp; omega)) ?_
      intro Lo v6 wap1 how M
      have M := M.perm List.perm_append_comm
      refine ⟨trivial, ?_⟩
      refine go 0 ?_
      refine x_add _ rfl rfl rfl rfl rfl (wadd (by omega) (by omega)) ?_
      refine go 0 ?_
      exact At.back ((q + 1, v6)) ⟨rfl, rfl, rfl, trivial⟩ ⟨by simp; omega, A ++ [x], Lo, by rw [htk, cleanStep_in hco3 hco5 hco6], by simp; omega, strsO_snoc how, M⟩ (by first | omega | (simp only; omega) | (simp; done) | (simp; omega))
  ·intro hco2
   have hql : q = (splitS s).length := by omega
   subst hql
   rw [List.take_length] at hA
   refine go 0 ?_
   refine x_call rfl rfl rfl rfl rfl en115 (rjoin_c (strsO_at how M (fun _ h => List.mem_append_right _ h))) ?_
   rintro r w5 ⟨rfl, hn5⟩
   have M := M.new hn5
   refine ⟨trivial, ?_⟩
   refine go 1 ?_
   rw [cleanP_join (by omega)]; have : cleanL s = A := hA.symm
   rw [this]; exact ⟨rfl, M.frm⟩

end Go.Proofs.YtigfbpbnohkokaaGreat

namespace Go.Proofs.YtigfbpbnohkokaaGreat
open Go Go.Fw Go.RowKit Go.Proofs
set_option linter.unusedVariables false
set_option linter.unusedSimpArgs false
set_option maxRecDepth 100000
set_option maxHeartbeats 4000000

-- internal/bytealg.LastIndexByteString
theorem lastidxS_c {w0 : World} {s : List UInt8} {c : UInt8} (hl : s.length ≤ 9223372036854775807) : Ret Tryz.prog 137 #[strV s, .int .u8 (c.toNat : Int)] w0 fun r w' => (∃ z, r = .int .i64 z ∧ LastAt s c z) ∧ New w0 w' := by
 have M : Sep w0 [] w0 := St.nil w0
 refine Ret.of_W Tryz.func137 rfl Tryz.ntmps137 rfl ?_
 refine go 1 ?_
 refine x_sub _ rfl rfl rfl rfl rfl (wsub (by omega) (by omega)) ?_
 refine go 0 ?_
 refine W.loop (σ := Nat) (fun q => [(0, _), (1, _), (5, .int .i64 ((q : Int) - 1))]) (fun q w => q ≤ s.length ∧ c ∉ s.drop q ∧ Sep w0 [] w) (fun q => q) s.length ⟨rfl, rfl, rfl, trivial⟩ ⟨Nat.le_refl _, by simp, M⟩ ?_
 rintro q w ⟨hq, hno, M⟩
 refine cnd 1 ?_ ?_
 ·intro hco1
  obtain ⟨t, rfl⟩ : ∃ t, q = t + 1 := ⟨q - 1, by omega⟩
  obtain ⟨d, hd⟩ := get_lt (l := s) (q := t) (by omega)
  refine go 0 ?_
  refine x_ixS t rfl rfl rfl Tryz.underlying9 rfl rfl (by omega) hd ?_
  refine cnd 1 ?_ ?_
  ·intro hco2
   refine go 1 ?_
   have hdc : d = c := UInt8.toNat_inj.1 (by omega)
   subst hdc
   refine ⟨⟨_, rfl, .inr ⟨s.take t, s.drop (t + 1), ?_, hno, by simp; omega⟩⟩, M.frm⟩
   obtain ⟨l1, e1⟩ := (List.getElem?_eq_some_iff.1 hd)
   rw [← e1, ← List.drop_eq_getElem_cons l1, List.take_append_drop]
  ·intro hco2
   refine go 0 ?_
   refine x_sub ((t : Int) - 1) rfl rfl rfl rfl rfl (by rw [w64 (by omega) (by omega)]; omega) ?_
   refine go 0 ?_
   exact At.back (t) ⟨rfl, rfl, rfl, trivial⟩ ⟨by omega, by
    obtain ⟨l1, e1⟩ := (List.getElem?_eq_some_iff.1 hd)
    rw [List.drop_eq_getElem_cons l1, e1, List.mem_cons, not_or]
    exact ⟨fun e => by subst e; simp at hco2, hno⟩, M⟩ (by first | omega | (simp only; omega) | (simp; done) | (simp; omega))
 ·intro hco1
  refine go 1 ?_
  have hq0 : q = 0 := by omega
  subst hq0; exact ⟨⟨_, rfl, .inl ⟨rfl, by simpa using hno⟩⟩, M.frm⟩

-- strings.LastIndexByte
theorem lastidx_c {w0 : World} {s : List UInt8} {c : UInt8} (hl : s.length ≤ 9223372036854775807) : Ret Tryz.prog 124 #[strV s, .int .u8 (c.toNat : Int)] w0 fun r w' => (∃ z, r = .int .i64 z ∧ LastAt s c z) ∧ New w0 w' := by
 have M : Sep w0 [] w0 := St.nil w0
 refine Ret.of_W Tryz.func124 rfl Tryz.ntmps124 rfl ?_
 refine go 0 ?_
 refine x_call rfl rfl rfl rfl rfl en137 (lastidxS_c hl) ?_
 rintro r w1 ⟨⟨z, rfl, hz⟩, hn⟩
 have M := M.new hn
 refine ⟨trivial, ?_⟩
 refine go 1 ?_
 exact ⟨⟨z, rfl, hz⟩, M.frm⟩

-- internal/stringslite.HasPrefix
theorem hasprefS_c {w0 : World} {s t : List UInt8}  : Ret Tryz.prog 139 #[strV s, strV t] w0 fun r w' => r = .bool (t.isPrefixOf s) ∧ New w0 w' := by
 have M : Sep w0 [] w0 := St.nil w0
 refine Ret.of_W Tryz.func139 rfl Tryz.ntmps139 rfl ?_
 refine spl 3 10 ?_ ?_
 ·intro hsp1
  refine go 1 ?_
  refine x_sshS t.length rfl rfl rfl Tryz.underlying9 rfl rfl rfl (by omega) ?_
  refine go 2 ?_
  exact ⟨by congr 1; rw [Bool.eq_iff_iff, decide_eq_true_eq, List.isPrefixOf_iff_prefix, List.prefix_iff_eq_take]; exact ⟨Eq.symm, Eq.symm⟩, M.frm⟩
 ·intro hsp1
  refine go 1 ?_
  exact ⟨by congr 1; rw [eq_comm, ← Bool.not_eq_true, List.isPrefixOf_iff_prefix]; intro h; have := h.length_le; omega, M.frm⟩

-- strings.HasPrefix
theorem haspref_c {w0 : World} {s t : List UInt8}  : Ret Tryz.prog 129 #[strV s, strV t] w0 fun r w' => r = .bool (t.isPrefixOf s) ∧ New w0 w' := by
 have M : Sep w0 [] w0 := St.nil w0
 refine Ret.of_W Tryz.func129 rfl Tryz.ntmps129 rfl ?_
 refine go 0 ?_
 refine x_call rfl rfl rfl rfl rfl en139 (hasprefS_c) ?_
 rintro r w1 ⟨rfl, hn⟩
 have M := M.new hn
 refine ⟨trivial, ?_⟩
 refine go 1 ?_
 exact ⟨rfl, M.frm⟩

end Go.Proofs.YtigfbpbnohkokaaGreat

namespace Go.Proofs.YtigfbpbnohkokaaGreat
open Go Go.Fw Go.RowKit Go.Proofs
set_option linter.unusedVariables false
set_option linter.unusedSimpArgs false
set_option maxRecDepth 100000
set_option maxHeartbeats 4000000

-- valise/path.Parent
theorem parent_c {w0 : World} {p : List UInt8}  : Ret Tryz.prog 97 #[strV p] w0 fun r w' => r = .tuple #[strV (parentP p).1, strV (parentP p).2.1, .int .i64 (parentP p).2.2] ∧ New w0 w' := by
 have M : Sep w0 [] w0 := St.nil w0
 refine Ret.of_W Tryz.func97 rfl Tryz.ntmps97 rfl ?_
 refine go 0 ?_
 refine x_call rfl rfl rfl rfl rfl en96 (split_c) ?_
 rintro r wcall1 ⟨vcall1, Lcall1, rfl, Mcall1, hscall1⟩
 have M := M.grow Mcall1
 refine ⟨trivial, ?_⟩
 refine cnd 1 ?_ ?_
 ·intro hco1
  refine go 1 ?_
  have h := parentP_bad hco1; exact ⟨by rw [h.1, h.2]; rfl, M.frm⟩
 ·intro hco1
  refine cnd 1 ?_ ?_
  ·intro hco2
   refine go 1 ?_
   subst hco2; exact ⟨rfl, M.frm⟩
  ·intro hco2
   have hpl0 := splitE_len hco1
   refine go 0 ?_
   refine x_call rfl rfl rfl rfl rfl en124 (lastidx_c (c := 47) (by omega)) ?_
   rintro r w2 ⟨⟨z, rfl, hz⟩, hn⟩
   have M := M.new hn
   have hpl := parentP_last hco2 hco1 hz
   refine ⟨trivial, ?_⟩
   refine cnd 1 ?_ ?_
   ·intro hco3
    refine go 1 ?_
    have hz1 : z = -1 := by rcases hz with ⟨h, _⟩ | ⟨a, x, _, _, h⟩ <;> omega
    rw [hpl.1 hz1]; exact ⟨rfl, M.frm⟩
   ·intro hco3
    obtain ⟨i, hi⟩ : ∃ i : Nat, z = (i : Int) := ⟨z.toNat, by omega⟩
    obtain ⟨hlt, hpi⟩ := hpl.2 i hi
    refine go 0 ?_
    refine W.regD (by kernel_rfl) #[0, 0, 3, 0, 0, 16, 56, 7, 255, 511] [(0, false), (1, false), (2, false), (3, false), (4, false), (5, false), (6, false), (7, false), (8, false), (9, false)] (by kernel_rfl) ?_
    intro K wD1 hK hwD1
    have M := M.drew hwD1
    refine go 0 ?_
    refine x_sshS i rfl rfl rfl Tryz.underlying9 rfl rfl hi (by omega) ?_
    refine go 0 ?_
    refine x_add ((i + 1 : Nat) : Int) rfl rfl rfl rfl rfl (by rw [hi]; exact (w64 (by omega) (by omega)).trans (by omega)) ?_
    refine x_sslS (i + 1) rfl rfl rfl Tryz.underlying9 rfl rfl rfl (by omega) ?_
    refine go 1 ?_
    rw [hpi]; exact ⟨rfl, M.frm⟩

-- valise/valiseref13.Parent
theorem rparent_c {w0 : World} {p : List UInt8}  : Ret Tryz.prog 123 #[strV p] w0 fun r w' => r = .tuple #[strV (parentP p).1, strV (parentP p).2.1, .int .i64 (parentP p).2.2] ∧ New w0 w' := by
 have M : Sep w0 [] w0 := St.nil w0
 refine Ret.of_W Tryz.func123 rfl Tryz.ntmps123 rfl ?_
 refine go 0 ?_
 refine x_call rfl rfl rfl rfl rfl en31 (rsplit_c) ?_
 rintro r w1 ⟨v1, L1, rfl, M1, hs1⟩
 have M := M.grow M1
 generalize hN : splitN p = N at hs1
 obtain ⟨p1, cap1, rfl, hcap1⟩ := hs1.shape2 (by decide)
 refine ⟨trivial, ?_⟩
 refine cnd 1 ?_ ?_
 ·intro hco1
  refine go 1 ?_
  have h := parentP_bad hco1; exact ⟨by rw [h.1, h.2]; rfl, M.frm⟩
 ·intro hco1
  refine cnd 2 ?_ ?_
  ·intro hco2
   refine go 1 ?_
   rcases splitN_facts hco1 with ⟨h1, h2⟩ | ⟨h1, h2, _⟩
   ·subst h1; exact ⟨rfl, M.frm⟩
   ·exact absurd (List.length_eq_zero_iff.1 (show N.length = 0 by omega)) (by rw [← hN, h2]; exact splitS_ne p)
  ·intro hco2
   obtain ⟨h0, h1, h2, h3⟩ : p ≠ [] ∧ splitN p = splitS p ∧ (splitS p).length ≤ 8 ∧ allOK (splitS p) := by
    rcases splitN_facts hco1 with ⟨h1, h2⟩ | h
    ·exact absurd (by rw [← hN, h2]; rfl) hco2
    ·exact h
   obtain ⟨a, x, hax⟩ := split_snoc p
   obtain rfl : N = a ++ [x] := by rw [← hN, h1, hax]
   have hpp := parentP_some h0 hco1 hax
   have hlen : (a ++ [x]).length = a.length + 1 := by simp
   have hl8 : a.length ≤ 8 := by rw [hax, hlen] at h2; omega
   have hAt := strsO_at hs1 M (fun _ h => h)
   obtain ⟨bk, off, rfl, _⟩ := hAt.blk (j := a.length) (by omega)
   have hta : StrsO L1 (.slice (some ⟨bk, off, none⟩) a.length cap1) a := by
    have := strsO_take hs1 (j := a.length) (by simp)
    rwa [List.take_left' rfl] at this
   refine go 0 ?_
   refine W.regD (by kernel_rfl) #[0, 0, 2, 6, 15, 31, 0, 0, 128, 384, 960, 1984, 63, 8191, 16383] [(0, false), (1, false), (2, false), (3, false), (4, false), (6, false), (7, false), (8, false), (9, false), (10, false), (11, false), (5, true), (12, false), (13, false), (14, false)] (by kernel_rfl) ?_
   intro K wD1 hK hwD1
   have M := M.drew hwD1
   refine go 1 ?_
   refine x_sub ((a.length : Nat) : Int) rfl rfl rfl rfl rfl (by rw [w64 (by omega) (by omega)]; omega) ?_
   refine x_slh a.length rfl rfl rfl Tryz.underlying47 sz9 rfl rfl rfl (by omega) ?_
   refine go 1 ?_
   refine x_sub ((a.length : Nat) : Int) rfl rfl rfl rfl rfl (by rw [w64 (by omega) (by omega)]; omega) ?_
   refine x_ia a.length rfl rfl rfl Tryz.underlying47 sz9 rfl rfl rfl (by omega) ?_
   refine x_ld rfl rfl rfl Tryz.underlying9 rfl rfl (StrsAt.cell (strsO_at hs1 M (fun _ h => h)) (x := x) (by simp)) ?_
   refine x_call rfl rfl rfl rfl rfl en35 (rtext_c (strsO_at hta M (fun _ h => h)) (by omega) (fun y hy => by have := allOK_len h3 y (by rw [hax]; exact List.mem_append_left _ hy); omega)) ?_
   rintro r w3 ⟨rfl, hn3⟩
   have M := M.new hn3
   refine ⟨⟨.inr (StrsAt.cell (strsO_at hs1 M (fun _ h => h)) (x := x) (by simp)), trivial⟩, ?_⟩
   refine go 1 ?_
   rw [hpp]; exact ⟨rfl, M.frm⟩

-- valise/path.Under
theorem under_c {w0 : World} {p dir : List UInt8}  : Ret Tryz.prog 106 #[strV p, strV dir] w0 fun r w' => r = .bool (underP p dir) ∧ New w0 w' := by
 have M : Sep w0 [] w0 := St.nil w0
 refine Ret.of_W Tryz.func106 rfl Tryz.ntmps106 rfl ?_
 refine go 0 ?_
 refine x_call rfl rfl rfl rfl rfl en96 (split_c) ?_
 rintro r wcall1 ⟨vcall1, Lcall1, rfl, Mcall1, hscall1⟩
 have M := M.grow Mcall1
 refine ⟨trivial, ?_⟩
 refine go 0 ?_
 refine x_call rfl rfl rfl rfl rfl en96 (split_c) ?_
 rintro r wcall2 ⟨vcall2, Lcall2, rfl, Mcall2, hscall2⟩
 have M := M.grow Mcall2
 refine ⟨trivial, ?_⟩
 refine spl 1 21 ?_ ?_
 ·intro hsp1
  refine spl 1 25 ?_ ?_
  ·intro hsp2
   have hdl := splitE_len hsp2
   refine spl 1 28 ?_ ?_
   ·intro hsp3
    refine go 1 ?_
    exact ⟨by rw [← under_eq]; simp [underQ, splitE_nil, *], M.frm⟩
   ·intro hsp3
    refine spl 1 33 ?_ ?_
    ·intro hsp4
     refine go 1 ?_
     exact ⟨by rw [← under_eq]; simp [underQ, splitE_nil, *], M.frm⟩
    ·intro hsp4
     refine go 0 ?_
     refine x_catS rfl rfl rfl rfl rfl (by simp; omega) ?_
     refine x_call rfl rfl rfl rfl rfl en129 (haspref_c) ?_
     rintro r w3 ⟨rfl, hn3⟩
     have M := M.new hn3
     refine ⟨trivial, ?_⟩
     refine go 1 ?_
     exact ⟨by rw [← under_eq]; simp [underQ, splitE_nil, *], M.frm⟩
  ·intro hsp2
   refine go 1 ?_
   exact ⟨by rw [← under_eq]; simp [underQ, splitE_nil, *], M.frm⟩
 ·intro hsp1
  refine go 1 ?_
  exact ⟨by rw [← under_eq]; simp [underQ, splitE_nil, *], M.frm⟩

-- valise/valiseref13.Under
theorem runder_c {w0 : World} {p dir : List UInt8}  : Ret Tryz.prog 34 #[strV p, strV dir] w0 fun r w' => r = .bool (underP p dir) ∧ New w0 w' := by
 have M : Sep w0 [] w0 := St.nil w0
 refine Ret.of_W Tryz.func34 rfl Tryz.ntmps34 rfl ?_
 refine go 0 ?_
 refine x_call rfl rfl rfl rfl rfl en31 (rsplit_c) ?_
 rintro r w1 ⟨v1, L1, rfl, M1, hs1⟩
 have M := M.grow M1
 generalize hA : splitN p = A at hs1
 obtain ⟨p1, cap1, rfl, hcap1⟩ := hs1.shape2 (by decide)
 refine ⟨trivial, ?_⟩
 refine go 0 ?_
 refine x_call rfl rfl rfl rfl rfl en31 (rsplit_c) ?_
 rintro r w2 ⟨v2, L2, rfl, M2, hs2⟩
 have M := M.grow M2
 generalize hB : splitN dir = B at hs2
 obtain ⟨p2, cap2, rfl, hcap2⟩ := hs2.shape2 (by decide)
 have hU := underP_eq p dir
 have hlA := splitN_len p
 have hlB := splitN_len dir
 rw [hA] at hlA
 rw [hB] at hlB
 rw [hA, hB] at hU
 refine ⟨trivial, ?_⟩
 refine spl 1 22 ?_ ?_
 ·intro hsp1
  refine go 1 ?_
  exact ⟨by rw [hU]; simp [hsp1], M.frm⟩
 ·intro hsp1
  refine spl 1 26 ?_ ?_
  ·intro hsp2
   refine go 1 ?_
   exact ⟨by rw [hU]; simp [hsp2], M.frm⟩
  ·intro hsp2
   refine cnd 3 ?_ ?_
   ·intro hco3
    refine go 1 ?_
    exact ⟨by rw [hU, pre_long (by omega)]; simp, M.frm⟩
   ·intro hco3
    refine go 0 ?_
    refine W.loop (σ := Nat) (fun q => [(5, _), (7, _), (9, .int .i64 ((q : Nat) : Int))]) (fun q w => q ≤ B.length ∧ B.take q = A.take q ∧ Sep w0 (L1 ++ L2) w) (fun q => B.length - q) 0 ⟨rfl, rfl, rfl, trivial⟩ ⟨Nat.zero_le _, rfl, M⟩ ?_
    rintro q w ⟨hq, hpre, M⟩
    refine cnd 2 ?_ ?_
    ·intro hco4
     obtain ⟨y, hy⟩ := get_lt (l := B) (q := q) (by omega)
     obtain ⟨x, hx⟩ := get_lt (l := A) (q := q) (by omega)
     obtain ⟨bk1, off1, rfl, _⟩ := (strsO_at hs1 M (fun _ h => List.mem_append_left _ h)).blk (j := q) (by omega)
     obtain ⟨bk2, off2, rfl, _⟩ := (strsO_at hs2 M (fun _ h => List.mem_append_right _ h)).blk (j := q) (by omega)
     refine go 0 ?_
     refine W.regD (by kernel_rfl) #[0, 0, 3, 7, 0, 0, 48, 112, 255] [(0, false), (1, false), (2, false), (3, false), (4, false), (5, false), (6, false), (7, false), (8, false)] (by kernel_rfl) ?_
     intro K wD1 hK hwD1
     have M := M.drew hwD1
     refine go 0 ?_
     refine x_ia q rfl rfl rfl Tryz.underlying47 sz9 rfl rfl rfl (by omega) ?_
     refine x_ld rfl rfl rfl Tryz.underlying9 rfl rfl (StrsAt.cell (strsO_at hs1 M (fun _ h => List.mem_append_left _ h)) hx) ?_
     refine go 0 ?_
     refine x_ia q rfl rfl rfl Tryz.underlying47 sz9 rfl rfl rfl (by omega) ?_
     refine x_ld rfl rfl rfl Tryz.underlying9 rfl rfl (StrsAt.cell (strsO_at hs2 M (fun _ h => List.mem_append_right _ h)) hy) ?_
     refine cnd 1 ?_ ?_
     ·intro hco5
      refine go 1 ?_
      exact ⟨by rw [hU, pre_no hx hy hco5]; simp, M.frm⟩
     ·intro hco5
      refine go 0 ?_
      refine x_add _ rfl rfl rfl rfl rfl (wadd (by omega) (by omega)) ?_
      refine go 0 ?_
      exact At.back (q + 1) ⟨rfl, rfl, rfl, trivial⟩ ⟨by omega, pre_step hpre hx hy hco5, M⟩ (by first | omega | (simp only; omega) | (simp; done) | (simp; omega))
    ·intro hco4
     refine go 1 ?_
     have hqB : q = B.length := by omega
     subst hqB
     exact ⟨by rw [hU, pre_yes hpre, hsp1, hsp2]; rfl, M.frm⟩

end Go.Proofs.YtigfbpbnohkokaaGreat

namespace Go.Proofs.YtigfbpbnohkokaaGreat
open Go Go.Fw Go.RowKit Go.Proofs
set_option linter.unusedVariables false
set_option linter.unusedSimpArgs false


end Go.Proofs.YtigfbpbnohkokaaGreat

namespace Go.Proofs.YtigfbpbnohkokaaGreat
open Go Go.Fw Go.RowKit Go.Proofs
set_option linter.unusedVariables false
set_option linter.unusedSimpArgs false
set_option maxRecDepth 100000
set_option maxHeartbeats 4000000

-- valise/valiseref13.list
theorem rlist_c {w0 : World} {s : List UInt8} (hl : s.length ≤ 1099511627776) : Ret Tryz.prog 94 #[strV s] w0 fun r w' => ∃ Lr, Sep w0 Lr w' ∧ StrsO Lr r (namesP s) := by
 have M : Sep w0 [] w0 := St.nil w0
 refine Ret.of_W Tryz.func94 rfl Tryz.ntmps94 rfl ?_
 refine cnd 1 ?_ ?_
 ·intro hco1
  refine go 1 ?_
  subst hco1; exact ⟨[], M.frm, OwL.nil⟩
 ·intro hco1
  refine go 0 ?_
  refine x_call rfl rfl rfl rfl rfl en56 (rpieces_c (by omega)) ?_
  rintro v1 w1 ⟨L1, M1, hs1⟩
  have M := M.grow M1
  refine ⟨trivial, ?_⟩
  refine go 1 ?_
  rw [namesP_some hco1]; exact ⟨L1, M, hs1⟩

-- valise/valiseref13.below
theorem rbelow_c {w0 : World} {a b : List UInt8} (hl : a.length ≤ 9223372036854775807) : Ret Tryz.prog 95 #[strV a, strV b] w0 fun r w' => r = .bool (decide (Lib.compareBytes a b < 0)) ∧ New w0 w' := by
 have M : Sep w0 [] w0 := St.nil w0
 refine Ret.of_W Tryz.func95 rfl Tryz.ntmps95 rfl ?_
 refine go 0 ?_
 refine W.loop (σ := Nat) (fun q => [(0, _), (1, _), (5, .int .i64 ((q : Nat) : Int))]) (fun q w => q ≤ a.length ∧ q ≤ b.length ∧ Lib.compareBytes a b = Lib.compareBytes (a.drop q) (b.drop q) ∧ Sep w0 [] w) (fun q => a.length - q) 0 ⟨rfl, rfl, rfl, trivial⟩ ⟨Nat.zero_le _, Nat.zero_le _, rfl, M⟩ ?_
 rintro q w ⟨hqa, hqb, hcmp, M⟩
 refine spl 2 10 ?_ ?_
 ·intro hsp1
  refine cnd 2 ?_ ?_
  ·intro hco1
   obtain ⟨c, hc⟩ := get_lt (l := a) (q := q) (by omega)
   obtain ⟨d, hd⟩ := get_lt (l := b) (q := q) (by omega)
   refine go 0 ?_
   refine W.regD (by kernel_rfl) #[0, 0, 3, 0, 0, 24, 63] [(0, false), (1, false), (2, false), (3, false), (4, false), (5, false), (6, false)] (by kernel_rfl) ?_
   intro K wD1 hK hwD1
   have M := M.drew hwD1
   refine go 0 ?_
   refine x_ixS q rfl rfl rfl Tryz.underlying9 rfl rfl rfl hc ?_
   refine go 0 ?_
   refine x_ixS q rfl rfl rfl Tryz.underlying9 rfl rfl rfl hd ?_
   refine cnd 1 ?_ ?_
   ·intro hco2
    refine go 0 ?_
    refine W.regD (by kernel_rfl) #[0, 0, 3, 0, 0, 24, 63, 127] [(0, false), (1, false), (2, false), (3, false), (4, false), (5, false), (6, false), (7, false)] (by kernel_rfl) ?_
    intro K wD2 hK hwD2
    have M := M.drew hwD2
    refine go 0 ?_
    refine x_ixS q rfl rfl rfl Tryz.underlying9 rfl rfl rfl hc ?_
    refine go 0 ?_
    refine x_ixS q rfl rfl rfl Tryz.underlying9 rfl rfl rfl hd ?_
    refine go 2 ?_
    have hne : c ≠ d := fun e => hco2 (by rw [e])
    refine ⟨?_, M.frm⟩
    rw [hcmp, cmp_ne hc hd hne]
    congr 1
    rw [Bool.eq_iff_iff, decide_eq_true_eq, decide_eq_true_eq]
    by_cases h : c < d
    ·rw [if_pos h]; rw [UInt8.lt_iff_toNat_lt] at h; omega
    ·rw [if_neg h]; rw [UInt8.lt_iff_toNat_lt] at h; omega
   ·intro hco2
    have hcd : c = d := UInt8.toNat_inj.1 (by omega)
    subst hcd
    refine go 0 ?_
    refine x_add _ rfl rfl rfl rfl rfl (wadd (by omega) (by omega)) ?_
    refine go 0 ?_
    exact At.back (q + 1) ⟨rfl, rfl, rfl, trivial⟩ ⟨by omega, by omega, by rw [hcmp, cmp_drop hc hd], M⟩ (by first | omega | (simp only; omega) | (simp; done) | (simp; omega))
  ·intro hco1
   refine go 4 ?_
   refine ⟨?_, M.frm⟩
   rw [hcmp, cmp_end (by omega) ⟨hqa, hqb⟩]
   congr 1
   rw [Bool.eq_iff_iff, decide_eq_true_eq, decide_eq_true_eq]
   split
   ·omega
   ·split <;> omega
 ·intro hsp1
  refine go 4 ?_
  refine ⟨?_, M.frm⟩
  rw [hcmp, cmp_end (by omega) ⟨hqa, hqb⟩]
  congr 1
  rw [Bool.eq_iff_iff, decide_eq_true_eq, decide_eq_true_eq]
  split
  ·omega
  ·split <;> omega

-- valise/valiseref13.Compare
theorem rcompare_c {w0 : World} {a b : List UInt8} (hla : a.length ≤ 1099511627776) (hlb : b.length ≤ 1099511627776) : Ret Tryz.prog 58 #[strV a, strV b] w0 fun r w' => r = .int .i64 (compareP a b) ∧ New w0 w' := by
 have M : Sep w0 [] w0 := St.nil w0
 refine Ret.of_W Tryz.func58 rfl Tryz.ntmps58 rfl ?_
 refine go 0 ?_
 refine x_call rfl rfl rfl rfl rfl en94 (rlist_c hla) ?_
 rintro v1 w1 ⟨L1, M1, hs1⟩
 have M := M.grow M1
 have hok1 := (namesP_cut (p := a) (by omega)).1
 have hln1 := namesP_len a
 have hC : compareP a b = compareL (namesP a) (namesP b) := rfl
 generalize hA : namesP a = A at hs1 hok1 hC hln1
 obtain ⟨p1, cap1, rfl⟩ := hs1.shape
 refine ⟨trivial, ?_⟩
 refine go 0 ?_
 refine x_call rfl rfl rfl rfl rfl en94 (rlist_c hlb) ?_
 rintro v2 w2 ⟨L2, M2, hs2⟩
 have M := M.grow M2
 have hok2 := (namesP_cut (p := b) (by omega)).1
 have hln2 := namesP_len b
 generalize hB : namesP b = B at hs2 hok2 hC hln2
 obtain ⟨p2, cap2, rfl⟩ := hs2.shape
 refine ⟨trivial, ?_⟩
 refine go 0 ?_
 refine W.loop (σ := Nat) (fun q => [(5, _), (6, _), (7, .int .i64 ((q : Nat) : Int))]) (fun q w => q ≤ A.length ∧ q ≤ B.length ∧ compareP a b = compareL (A.drop q) (B.drop q) ∧ Sep w0 (L1 ++ L2) w) (fun q => A.length - q) 0 ⟨rfl, rfl, rfl, trivial⟩ ⟨Nat.zero_le _, Nat.zero_le _, hC, M⟩ ?_
 rintro q w ⟨hqa, hqb, hcmp, M⟩
 refine spl 2 16 ?_ ?_
 ·intro hsp1
  refine cnd 2 ?_ ?_
  ·intro hco1
   obtain ⟨y, hy⟩ := get_lt (l := B) (q := q) (by omega)
   obtain ⟨x, hx⟩ := get_lt (l := A) (q := q) (by omega)
   obtain ⟨bk1, off1, rfl, _⟩ := (strsO_at hs1 M (fun _ h => List.mem_append_left _ h)).blk (j := q) (by omega)
   obtain ⟨bk2, off2, rfl, _⟩ := (strsO_at hs2 M (fun _ h => List.mem_append_right _ h)).blk (j := q) (by omega)
   have hst := compareL_step hx hy
   have hcc := cmp_cases x y
   have hsw := cmp_swap x y
   have hxl := mem_joinS_le (List.mem_of_getElem? hx)
   have hyl := mem_joinS_le (List.mem_of_getElem? hy)
   have hj1 := hok1.2
   have hj2 := hok2.2
   refine go 0 ?_
   refine W.regD (by kernel_rfl) #[0, 0, 3, 7, 0, 0, 48, 112, 255] [(0, false), (1, false), (2, false), (3, false), (4, false), (5, false), (6, false), (7, false), (8, true)] (by kernel_rfl) ?_
   intro K wD1 hK hwD1
   have M := M.drew hwD1
   refine go 0 ?_
   refine x_ia q rfl rfl rfl Tryz.underlying47 sz9 rfl rfl rfl (by omega) ?_
   refine x_ld rfl rfl rfl Tryz.underlying9 rfl rfl (StrsAt.cell (strsO_at hs1 M (fun _ h => List.mem_append_left _ h)) hx) ?_
   refine go 0 ?_
   refine x_ia q rfl rfl rfl Tryz.underlying47 sz9 rfl rfl rfl (by omega) ?_
   refine x_ld rfl rfl rfl Tryz.underlying9 rfl rfl (StrsAt.cell (strsO_at hs2 M (fun _ h => List.mem_append_right _ h)) hy) ?_
   refine x_call rfl rfl rfl rfl rfl en95 (rbelow_c (by omega)) ?_
   rintro r w3 ⟨rfl, hn3⟩
   have M := M.new hn3
   refine pnd ?_
   refine cnd 0 ?_ ?_
   ·intro hco2
    refine go 1 ?_
    have h1 : Lib.compareBytes x y = -1 := by rcases hcc with h | h | h <;> omega
    exact ⟨by rw [hcmp, hst, h1]; rfl, M.frm⟩
   ·intro hco2
    refine go 0 ?_
    refine W.regD (by kernel_rfl) #[0, 0, 3, 7, 0, 0, 48, 112, 255] [(0, false), (1, false), (2, false), (3, false), (4, false), (5, false), (6, false), (7, false), (8, true)] (by kernel_rfl) ?_
    intro K wD2 hK hwD2
    have M := M.drew hwD2
    refine go 0 ?_
    refine x_ia q rfl rfl rfl Tryz.underlying47 sz9 rfl rfl rfl (by omega) ?_
    refine x_ld rfl rfl rfl Tryz.underlying9 rfl rfl (StrsAt.cell (strsO_at hs2 M (fun _ h => List.mem_append_right _ h)) hy) ?_
    refine go 0 ?_
    refine x_ia q rfl rfl rfl Tryz.underlying47 sz9 rfl rfl rfl (by omega) ?_
    refine x_ld rfl rfl rfl Tryz.underlying9 rfl rfl (StrsAt.cell (strsO_at hs1 M (fun _ h => List.mem_append_left _ h)) hx) ?_
    refine x_call rfl rfl rfl rfl rfl en95 (rbelow_c (by omega)) ?_
    rintro r w4 ⟨rfl, hn4⟩
    have M := M.new hn4
    refine pnd ?_
    refine cnd 0 ?_ ?_
    ·intro hco3
     refine go 1 ?_
     have h1 : Lib.compareBytes x y = 1 := by rcases hcc with h | h | h <;> omega
     exact ⟨by rw [hcmp, hst, h1]; rfl, M.frm⟩
    ·intro hco3
     refine go 0 ?_
     refine x_add _ rfl rfl rfl rfl rfl (wadd (by omega) (by omega)) ?_
     refine go 0 ?_
     exact At.back (q + 1) ⟨rfl, rfl, rfl, trivial⟩ ⟨by omega, by omega, by rw [hcmp, hst, if_neg (by omega)], M⟩ (by first | omega | (simp only; omega) | (simp; done) | (simp; omega))
  ·intro hco1
   refine cnd 3 ?_ ?_
   ·intro hco4
    refine go 1 ?_
    exact ⟨by rw [hcmp, compareL_end (by omega) ⟨hqa, hqb⟩]; congr 1; split <;> (try split) <;> omega, M.frm⟩
   ·intro hco4
    refine cnd 3 ?_ ?_
    ·intro hco5
     refine go 1 ?_
     exact ⟨by rw [hcmp, compareL_end (by omega) ⟨hqa, hqb⟩]; congr 1; split <;> (try split) <;> omega, M.frm⟩
    ·intro hco5
     refine go 1 ?_
     exact ⟨by rw [hcmp, compareL_end (by omega) ⟨hqa, hqb⟩]; congr 1; split <;> (try split) <;> omega, M.frm⟩
 ·intro hsp1
  refine cnd 3 ?_ ?_
  ·intro hco7
   refine go 1 ?_
   exact ⟨by rw [hcmp, compareL_end (by omega) ⟨hqa, hqb⟩]; congr 1; split <;> (try split) <;> omega, M.frm⟩
  ·intro hco7
   refine cnd 3 ?_ ?_
   ·intro hco8
    refine go 1 ?_
    exact ⟨by rw [hcmp, compareL_end (by omega) ⟨hqa, hqb⟩]; congr 1; split <;> (try split) <;> omega, M.frm⟩
   ·intro hco8
    refine go 1 ?_
    exact ⟨by rw [hcmp, compareL_end (by omega) ⟨hqa, hqb⟩]; congr 1; split <;> (try split) <;> omega, M.frm⟩

-- valise/valiseref13.Same
theorem same_c {w0 : World} {u v : Value} {A B : List (List UInt8)} (hu : StrsAt w0 u A) (hv : StrsAt w0 v B) (hlA : A.length ≤ 1099511627776) : Ret Tryz.prog 54 #[u, v] w0 fun r w' => r = .bool (decide (A = B)) ∧ New w0 w' := by
 have M : Sep w0 [] w0 := St.nil w0
 obtain ⟨p1, cap1, rfl⟩ := hu.shape
 obtain ⟨p2, cap2, rfl⟩ := hv.shape
 refine Ret.of_W Tryz.func54 rfl Tryz.ntmps54 rfl ?_
 refine cnd 3 ?_ ?_
 ·intro hco1
  refine go 1 ?_
  exact ⟨by rw [decide_eq_false]; intro e; subst e; omega, M.frm⟩
 ·intro hco1
  refine go 0 ?_
  refine W.loop (σ := Nat) (fun q => [(0, _), (1, _), (5, .int .i64 ((q : Nat) : Int))]) (fun q w => q ≤ A.length ∧ B.take q = A.take q ∧ Sep w0 [] w) (fun q => A.length - q) 0 ⟨rfl, rfl, rfl, trivial⟩ ⟨Nat.zero_le _, rfl, M⟩ ?_
  rintro q w ⟨hq, hpre, M⟩
  refine cnd 2 ?_ ?_
  ·intro hco2
   obtain ⟨y, hy⟩ := get_lt (l := B) (q := q) (by omega)
   obtain ⟨x, hx⟩ := get_lt (l := A) (q := q) (by omega)
   obtain ⟨bk1, off1, rfl, _⟩ := hu.blk (j := q) (by omega)
   obtain ⟨bk2, off2, rfl, _⟩ := hv.blk (j := q) (by omega)
   refine go 0 ?_
   refine W.regD (by kernel_rfl) #[0, 0, 3, 7, 0, 0, 48, 112, 255] [(0, false), (1, false), (2, false), (3, false), (4, false), (5, false), (6, false), (7, false), (8, false)] (by kernel_rfl) ?_
   intro K wD1 hK hwD1
   have M := M.drew hwD1
   refine go 0 ?_
   refine x_ia q rfl rfl rfl Tryz.underlying47 sz9 rfl rfl rfl (by omega) ?_
   refine x_ld rfl rfl rfl Tryz.underlying9 rfl rfl (StrsAt.cell (hu.new M.frm) hx) ?_
   refine go 0 ?_
   refine x_ia q rfl rfl rfl Tryz.underlying47 sz9 rfl rfl rfl (by omega) ?_
   refine x_ld rfl rfl rfl Tryz.underlying9 rfl rfl (StrsAt.cell (hv.new M.frm) hy) ?_
   refine cnd 1 ?_ ?_
   ·intro hco3
    refine go 1 ?_
    exact ⟨by rw [decide_eq_false]; intro e; subst e; rw [hx] at hy; exact hco3 (Option.some.inj hy), M.frm⟩
   ·intro hco3
    refine go 0 ?_
    refine x_add _ rfl rfl rfl rfl rfl (wadd (by omega) (by omega)) ?_
    refine go 0 ?_
    exact At.back (q + 1) ⟨rfl, rfl, rfl, trivial⟩ ⟨by omega, pre_step hpre hx hy hco3, M⟩ (by first | omega | (simp only; omega) | (simp; done) | (simp; omega))
  ·intro hco2
   refine go 1 ?_
   have hq1 : q = A.length := by omega
   subst hq1
   exact ⟨by rw [decide_eq_true]; rw [List.take_length, List.take_of_length_le (by omega)] at hpre; exact hpre.symm, M.frm⟩

end Go.Proofs.YtigfbpbnohkokaaGreat

namespace Go.Fw
open Go Go.RowKit
set_option linter.unusedVariables false
set_option linter.unusedSimpArgs false

def byteV (x : UInt8) : Value := .int .u8 (x.toNat : Int)
def byteCs (b : List UInt8) : List Value := b.map byteV
theorem byteCs_one (b : List UInt8) : ∀ u ∈ byteCs b, u.oneCell' = true := by
 intro u hu; obtain ⟨x, _, rfl⟩ := List.mem_map.1 hu; rfl
theorem byteCs_len (b : List UInt8) : (byteCs b).length = b.length := by simp [byteCs]
theorem byteCs_get {b : List UInt8} {j : Nat} {x : UInt8} (h : b[j]? = some x) : (byteCs b)[j]? = some (byteV x) := by simp [byteCs, h]
abbrev BytesAt (w : World) (v : Value) (b : List UInt8) : Prop := Sg w v 1 b.length (byteCs b)
abbrev BytesO (L : List (Nat × Obj)) (v : Value) (b : List UInt8) : Prop := OwL L v 1 b.length (byteCs b)

theorem St.put2 {S : Nat → Prop} {w0 w w1 : World} {A B : List (Nat × Obj)} {b : Nat} {o0 o : Obj} (h : St S w0 (A ++ (b, o0) :: B) w) (hw : w1 = w.putObj b o) : St S w0 (A ++ (b, o) :: B) w1 := by
 have := h.put A.length (b := b) (o0 := o0) (o := o) (by simp) hw
 simpa using this
theorem St.inn {S : Nat → Prop} {w0 w : World} {F A B C : List (Nat × Obj)} (h : St S w0 (F ++ (A ++ (B ++ C))) w) : St S w0 (A ++ (B ++ (C ++ F))) w := by
 have := h.perm List.perm_append_comm
 simpa only [List.append_assoc] using this
theorem St.out {S : Nat → Prop} {w0 w : World} {A B C : List (Nat × Obj)} (F : List (Nat × Obj)) (h : St S w0 (A ++ (B ++ (C ++ F))) w) : St S w0 (F ++ (A ++ (B ++ C))) w := by
 have e : A ++ (B ++ (C ++ F)) = (A ++ (B ++ C)) ++ F := by simp only [List.append_assoc]
 rw [e] at h
 exact h.perm List.perm_append_comm
theorem St.inn2 {S : Nat → Prop} {w0 w : World} {F B C : List (Nat × Obj)} (h : St S w0 (F ++ (B ++ C)) w) : St S w0 (B ++ (C ++ F)) w := St.inn (A := []) h
theorem St.out2 {S : Nat → Prop} {w0 w : World} {B C : List (Nat × Obj)} (F : List (Nat × Obj)) (h : St S w0 (B ++ (C ++ F)) w) : St S w0 (F ++ (B ++ C)) w := St.out (A := []) F h
theorem St.cutR2 {S : Nat → Prop} {w0 w : World} {B C D : List (Nat × Obj)} (h : St S w0 (B ++ (C ++ D)) w) : St S w0 (B ++ C) w :=
 h.sub (List.Sublist.append (List.Sublist.refl _) (List.sublist_append_left _ _))
theorem SlL.get {w : World} {L : List (Nat × Obj)} {v : Value} {m k : Nat} {cs : List Value} (h : SlL L v m k cs) (hg : ∀ x ∈ L, w.heap[x.1]? = some x.2) : Sl w v m k cs := by
 rcases h with h | ⟨b, off, cap, all, T, fr, h1, h2, h3, h4⟩
 ·exact .inl h
 ·exact .inr ⟨b, off, cap, all, T, fr, h1, h2, hg _ h3, h4⟩
theorem strsO_get {w : World} {L : List (Nat × Obj)} {v : Value} {A : List (List UInt8)} (h : StrsO L v A) (hg : ∀ x ∈ L, w.heap[x.1]? = some x.2) : StrsAt w v A := .inr ((OwL.sl h (by decide)).get hg)
theorem bytesO_get {w : World} {L : List (Nat × Obj)} {v : Value} {b : List UInt8} (h : BytesO L v b) (hg : ∀ x ∈ L, w.heap[x.1]? = some x.2) : BytesAt w v b := .inr ((OwL.sl h (by decide)).get hg)
theorem strOf_bytes {w : World} {v : Value} {b : List UInt8} (h : BytesAt w v b) : StrOf w v b := by
 rcases h with ⟨h1, _, p, cap, rfl⟩ | ⟨rfl, h1, _⟩ | ⟨blk, off, cap, all, T, fr, rfl, hcap, hb, h3, h4⟩
 ·have hb0 : b = [] := List.length_eq_zero_iff.1 h1
  subst hb0
  cases p with
  | none => exact .inl ⟨cap, rfl, rfl⟩
  | some a => exact .inr ⟨a, cap, rfl, fun j hj => absurd hj (by simp)⟩
 ·exact .inl ⟨0, rfl, List.length_eq_zero_iff.1 h1⟩
 ·refine .inr ⟨_, cap, rfl, fun j hj => ?_⟩
  have hsl : Sl w (.slice (some ⟨blk, off, none⟩) b.length cap) 1 b.length (byteCs b) := .inr ⟨blk, off, cap, all, T, fr, rfl, hcap, hb, h3, h4⟩
  have := Sl.cell1 hsl (j := j) (byteCs_get (List.getElem?_eq_getElem hj))
  simp only [Addr.add]
  split
  ·rename_i h0; subst h0; simpa [byteV] using this
  ·simpa [byteV] using this

theorem nodup_le {α : Type} : ∀ {l d : List α}, l.Nodup → (∀ x ∈ l, x ∈ d) → l.length ≤ d.length
 | [], _, _, _ => Nat.zero_le _
 | x :: l, d, hn, hs => by
  obtain ⟨A, B, rfl⟩ := List.append_of_mem (hs x (by simp))
  have := nodup_le (l := l) (d := A ++ B) (List.nodup_cons.1 hn).2 (fun y hy => by
   have h1 := hs y (List.mem_cons_of_mem _ hy)
   have h2 : y ≠ x := fun e => (List.nodup_cons.1 hn).1 (e ▸ hy)
   simp only [List.mem_append, List.mem_cons] at h1 ⊢
   rcases h1 with h1 | h1 | h1
   ·exact .inl h1
   ·exact absurd h1 h2
   ·exact .inr h1)
  simp only [List.length_append, List.length_cons] at this ⊢
  omega

/-- A round that is handed two things. -/
theorem Yld.two {P : Program} {n : Nat} {F : Env} {w : World} {l : Nat} {r : Loop} {p q : Tmp} {v u : Value} {asg : Code} {R : Value → World → Prop} (hl : LoopAt w l r .ready none) (hk : KnowsT n F r.tmps) (hp : r.params = #[p, q]) (hlt : Nat.blt p n = true) (hlq : Nat.blt q n = true) (has : r.assign = asg)
  (h : W P n (some l) asg (AsgQ P n l r R) ((q, u) :: (p, v) :: F) [] w) : Yld P l [v, u] w R := by
 refine ⟨_, hl, by simp [hp], ?_⟩
 have hlt : p < n := by simpa [Nat.blt_eq] using hlt
 have hlq : q < n := by simpa [Nat.blt_eq] using hlq
 have step : ∀ {F : Env} {tm : Array Value} {t : Tmp} {v : Value}, t < n → KnowsT n F tm → KnowsT n ((t, v) :: F) (tm.setIfInBounds t v) := by
  intro F tm t v ht hk
  refine ⟨by simp [hk.size], fun s u hu => ?_⟩
  rw [look_put] at hu
  by_cases e : t = s
  ·subst e; rw [if_pos rfl] at hu; cases hu; simp [hk.size, ht]
  ·rw [if_neg e] at hu; rw [Array.getElem?_setIfInBounds_ne e]; exact hk.slot s u hu
 have hk1 := step (v := u) hlq (step (v := v) hlt hk)
 have hk2 : Knows n ((q, u) :: (p, v) :: F) [] { tmps := (r.tmps.setIfInBounds p v).setIfInBounds q u, defers := [] } := ⟨hk1.size, rfl, hk1.slot⟩
 have h1 := h.out _ hk2
 unfold Rnd
 refine roundIn_of_wpIn (F := Fw none) trivial ?_
 simp only [hp, has]
 simp only [Array.zip, List.zip_toArray] at *
 have e0 : (Array.foldl (fun tmps (x : Tmp × Value) => tmps.setIfInBounds x.fst x.snd) r.tmps (Array.zipWith Prod.mk #[p, q] [v, u].toArray)) = (r.tmps.setIfInBounds p v).setIfInBounds q u := by simp
 rw [e0]
 refine wpIn_mono h1 ?_
 intro e a w1 hq
 cases e with
 | normal =>
  obtain ⟨hl1, hb⟩ := hq
  refine ⟨_, run_beginRound hl1 rfl, ?_⟩
  refine wpIn_mono hb ?_
  intro e a w2 hq
  cases e with
  | normal => exact ⟨_, _, run_endRound none hq.1, _, rfl, hq.2⟩
  | ret => exact ⟨_, _, run_endRound (some .ret) hq.1, _, rfl, hq.2⟩
  | exit id => exact ⟨_, _, run_endRound (some (.exit id)) hq.1, _, rfl, hq.2⟩
  | goto t => exact hq.elim
  | panic ch => exact hq.elim
  | outgrown => exact hq.elim
 | ret => exact hq.elim
 | exit id => exact hq.elim
 | goto t => exact hq.elim
 | panic ch => exact hq.elim
 | outgrown => exact hq.elim

/-! ## Maps by texts -/
theorem strB_beq (a b : List UInt8) : (strB a == strB b) = decide (a = b) := by
 show ByteArray.beq _ _ = _
 rw [Bool.eq_iff_iff]
 simp only [ByteArray.beq, beq_iff_eq, decide_eq_true_eq]
 exact ⟨fun h => strB_inj (by cases ha : strB a; cases hb : strB b; rw [ha, hb] at h; simp at h; rw [h]), fun h => by rw [h]⟩
theorem strKey {P : Program} {K : TypeId} (hK : P.underlying K = some .string) : KeyLaw P K strV where
 eq a b w := by
  unfold Op.equal Op.maxDepth Op.equalIn
  rw [Sem.run_bind, run_underlying hK]
  show Result.ok (strB a == strB b) w = _
  rw [strB_beq]
 ck e a w := by
  unfold Instr.checkKey
  rw [Sem.run_bind, run_underlying hK]
  rfl
 now := ⟨_, hK, .inl fun a b => by show some (strB a == strB b) = _; rw [strB_beq]⟩
 sb a := by simp [Instr.sameBits, strB_beq]

/-- What a map's len tells. -/
def LenAt (w : World) (mb : Option Nat) (k : Nat) : Prop := (mb = none ∧ k = 0) ∨ ∃ r es clock, mb = some r ∧ w.heap[r]? = some (.map es clock) ∧ es.size = k
theorem x_lenm {P : Program} {n : Nat} {ops : Array Oper} {B : Array Nat} {dr : Bool} {K : KT} {s : List (Nat × Bool)} {F : Env} {ds : List Deferred} {T : List (Nat × (World → Prop))} {w : World} {i : Nat}
  {d : Option Tmp} {ty : TypeId} {ps : String} {af : Array Edge} {g : Option (Nat × Bool)} {t k e : Nat} {x : Operand} {mb : Option Nat} {at0 : Array TypeId} (len : Nat) (ho : ops[i]? = some ⟨d, .call ⟨.builtin .len, #[x], at0⟩, ty, ps, af, g⟩) (hg : guardV ops F g = some true) (hd : dstOK n d = true) (ht : at0[0]? = some t) (hu : P.underlying t = some (.map k e)) (hx : ev? F x = some (.map mb)) (hl : LenAt w mb len)
  (h : Ex P n ops B dr K s (putE F d (.int .i64 (len : Int))) ds (addT dr i (fun w' => LenAt w' mb len) T) w) : Ex P n ops B dr K ((i, false) :: s) F ds T w :=
 Ex.read_ ho hg hd _ (fun w' => LenAt w' mb len) (fun at_ hk w' hR => by
  rcases hR with ⟨rfl, rfl⟩ | ⟨r, es, clock, rfl, h1, rfl⟩
  ·simp [execOp, resolve, invoke, builtin, Builtin.len_, ht, hk.eval hx, run_underlying hu, goInt]
  ·have h2 : (getObj r).run P w' = .ok (.map es clock) w' := by simp [getObj, Sem.run, h1]
   simp [execOp, resolve, invoke, builtin, Builtin.len_, ht, hk.eval hx, run_underlying hu, goInt, h2]) hl h

/-- How many keys a map has. -/
theorem run_lenMap {P : Program} {κ : Type} [DecidableEq κ] {enc : κ → Value} {w : World} {r : Nat} {o : Obj} {g : κ → Option Value} (hr : w.heap[r]? = some o) (hm : MapF enc o g) :
  ∃ es clock, o = .map es clock ∧ (es.size = 0 ↔ ∀ k, g k = none) := by
 obtain ⟨es, clock, l, rfl, he, hn, hg, _⟩ := hm
 refine ⟨es, clock, rfl, ?_⟩
 have hl : es.size = l.length := by have := congrArg List.length he; simpa using this
 rw [hl]
 constructor
 ·intro h k
  cases hk : g k with
  | none => rfl
  | some v => have := (hg k v).1 hk; rw [List.length_eq_zero_iff.1 h] at this; cases this
 ·intro h
  cases l with
  | nil => rfl
  | cons p l => have := (hg p.1 p.2).2 (by simp); rw [h] at this; cases this
end Go.Fw
