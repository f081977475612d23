/-
  Facts of the program's tables, by program.
-/
import Derived.Test.YtkieecaaijlokaaRows
import Derived.Test.YtkieecaaijlokaaFwE
namespace Go.Proofs.Ytkieecaaijlokaa
open Go Go.Fw Go.Proofs
theorem by0 : bytesOf' Try.prog 0 = some 0 := by kernel_rfl
theorem by1 : bytesOf' Try.prog 1 = some 8 := by kernel_rfl
theorem by10 : bytesOf' Try.prog 10 = some 16 := by kernel_rfl
theorem by11 : bytesOf' Try.prog 11 = some 16 := by kernel_rfl
theorem by12 : bytesOf' Try.prog 12 = some 8 := by kernel_rfl
theorem by13 : bytesOf' Try.prog 13 = some 24 := by kernel_rfl
theorem by14 : bytesOf' Try.prog 14 = some 24 := by kernel_rfl
theorem by15 : bytesOf' Try.prog 15 = some 8 := by kernel_rfl
theorem by16 : bytesOf' Try.prog 16 = some 8 := by kernel_rfl
theorem by17 : bytesOf' Try.prog 17 = some 8 := by kernel_rfl
theorem by18 : bytesOf' Try.prog 18 = some 8 := by kernel_rfl
theorem by19 : bytesOf' Try.prog 19 = some 8 := by kernel_rfl
theorem by2 : bytesOf' Try.prog 2 = some 8 := by kernel_rfl
theorem by20 : bytesOf' Try.prog 20 = some 16 := by kernel_rfl
theorem by21 : bytesOf' Try.prog 21 = some 4 := by kernel_rfl
theorem by22 : bytesOf' Try.prog 22 = some 24 := by kernel_rfl
theorem by23 : bytesOf' Try.prog 23 = some 8 := by kernel_rfl
theorem by24 : bytesOf' Try.prog 24 = some 0 := by kernel_rfl
theorem by25 : bytesOf' Try.prog 25 = some 8 := by kernel_rfl
theorem by26 : bytesOf' Try.prog 26 = some 0 := by kernel_rfl
theorem by27 : bytesOf' Try.prog 27 = some 8 := by kernel_rfl
theorem by28 : bytesOf' Try.prog 28 = some 8 := by kernel_rfl
theorem by29 : bytesOf' Try.prog 29 = some 8 := by kernel_rfl
theorem by3 : bytesOf' Try.prog 3 = some 8 := by kernel_rfl
theorem by30 : bytesOf' Try.prog 30 = some 8 := by kernel_rfl
theorem by31 : bytesOf' Try.prog 31 = some 8 := by kernel_rfl
theorem by32 : bytesOf' Try.prog 32 = some 8 := by kernel_rfl
theorem by33 : bytesOf' Try.prog 33 = some 0 := by kernel_rfl
theorem by34 : bytesOf' Try.prog 34 = some 8 := by kernel_rfl
theorem by35 : bytesOf' Try.prog 35 = some 0 := by kernel_rfl
theorem by36 : bytesOf' Try.prog 36 = some 8 := by kernel_rfl
theorem by37 : bytesOf' Try.prog 37 = some 8 := by kernel_rfl
theorem by38 : bytesOf' Try.prog 38 = some 8 := by kernel_rfl
theorem by39 : bytesOf' Try.prog 39 = some 8 := by kernel_rfl
theorem by4 : bytesOf' Try.prog 4 = some 1 := by kernel_rfl
theorem by40 : bytesOf' Try.prog 40 = some 0 := by kernel_rfl
theorem by41 : bytesOf' Try.prog 41 = some 8 := by kernel_rfl
theorem by42 : bytesOf' Try.prog 42 = some 0 := by kernel_rfl
theorem by43 : bytesOf' Try.prog 43 = some 8 := by kernel_rfl
theorem by44 : bytesOf' Try.prog 44 = some 8 := by kernel_rfl
theorem by45 : bytesOf' Try.prog 45 = some 8 := by kernel_rfl
theorem by46 : bytesOf' Try.prog 46 = some 8 := by kernel_rfl
theorem by47 : bytesOf' Try.prog 47 = some 8 := by kernel_rfl
theorem by48 : bytesOf' Try.prog 48 = some 8 := by kernel_rfl
theorem by49 : bytesOf' Try.prog 49 = some 8 := by kernel_rfl
theorem by5 : bytesOf' Try.prog 5 = some 1 := by kernel_rfl
theorem by50 : bytesOf' Try.prog 50 = some 8 := by kernel_rfl
theorem by51 : bytesOf' Try.prog 51 = some 8 := by kernel_rfl
theorem by52 : bytesOf' Try.prog 52 = some 8 := by kernel_rfl
theorem by53 : bytesOf' Try.prog 53 = some 8 := by kernel_rfl
theorem by54 : bytesOf' Try.prog 54 = some 8 := by kernel_rfl
theorem by55 : bytesOf' Try.prog 55 = some 8 := by kernel_rfl
theorem by56 : bytesOf' Try.prog 56 = some 8 := by kernel_rfl
theorem by57 : bytesOf' Try.prog 57 = some 0 := by kernel_rfl
theorem by58 : bytesOf' Try.prog 58 = some 0 := by kernel_rfl
theorem by59 : bytesOf' Try.prog 59 = some 8 := by kernel_rfl
theorem by6 : bytesOf' Try.prog 6 = some 1 := by kernel_rfl
theorem by60 : bytesOf' Try.prog 60 = some 8 := by kernel_rfl
theorem by61 : bytesOf' Try.prog 61 = some 24 := by kernel_rfl
theorem by62 : bytesOf' Try.prog 62 = some 32 := by kernel_rfl
theorem by63 : bytesOf' Try.prog 63 = some 32 := by kernel_rfl
theorem by64 : bytesOf' Try.prog 64 = some 8 := by kernel_rfl
theorem by65 : bytesOf' Try.prog 65 = some 16 := by kernel_rfl
theorem by66 : bytesOf' Try.prog 66 = some 16 := by kernel_rfl
theorem by67 : bytesOf' Try.prog 67 = some 0 := by kernel_rfl
theorem by68 : bytesOf' Try.prog 68 = some 8 := by kernel_rfl
theorem by69 : bytesOf' Try.prog 69 = some 8 := by kernel_rfl
theorem by7 : bytesOf' Try.prog 7 = some 24 := by kernel_rfl
theorem by70 : bytesOf' Try.prog 70 = some 8 := by kernel_rfl
theorem by71 : bytesOf' Try.prog 71 = some 8 := by kernel_rfl
theorem by72 : bytesOf' Try.prog 72 = some 8 := by kernel_rfl
theorem by73 : bytesOf' Try.prog 73 = some 8 := by kernel_rfl
theorem by74 : bytesOf' Try.prog 74 = some 8 := by kernel_rfl
theorem by75 : bytesOf' Try.prog 75 = some 4 := by kernel_rfl
theorem by76 : bytesOf' Try.prog 76 = some 0 := by kernel_rfl
theorem by77 : bytesOf' Try.prog 77 = some 8 := by kernel_rfl
theorem by78 : bytesOf' Try.prog 78 = some 40 := by kernel_rfl
theorem by79 : bytesOf' Try.prog 79 = some 40 := by kernel_rfl
theorem by8 : bytesOf' Try.prog 8 = some 24 := by kernel_rfl
theorem by80 : bytesOf' Try.prog 80 = some 0 := by kernel_rfl
theorem by81 : bytesOf' Try.prog 81 = some 0 := by kernel_rfl
theorem by82 : bytesOf' Try.prog 82 = some 0 := by kernel_rfl
theorem by83 : bytesOf' Try.prog 83 = some 8 := by kernel_rfl
theorem by84 : bytesOf' Try.prog 84 = some 1 := by kernel_rfl
theorem by85 : bytesOf' Try.prog 85 = some 1 := by kernel_rfl
theorem by86 : bytesOf' Try.prog 86 = some 8 := by kernel_rfl
theorem by87 : bytesOf' Try.prog 87 = some 4 := by kernel_rfl
theorem by88 : bytesOf' Try.prog 88 = some 4 := by kernel_rfl
theorem by89 : bytesOf' Try.prog 89 = some 48 := by kernel_rfl
theorem by9 : bytesOf' Try.prog 9 = some 16 := by kernel_rfl
theorem by90 : bytesOf' Try.prog 90 = some 48 := by kernel_rfl
theorem en13 : entered Try.prog 13 = true := by kernel_rfl
theorem en14 : entered Try.prog 14 = true := by kernel_rfl
theorem en15 : entered Try.prog 15 = true := by kernel_rfl
theorem en16 : entered Try.prog 16 = true := by kernel_rfl
theorem en17 : entered Try.prog 17 = true := by kernel_rfl
theorem en18 : entered Try.prog 18 = true := by kernel_rfl
theorem en19 : entered Try.prog 19 = true := by kernel_rfl
theorem en20 : entered Try.prog 20 = true := by kernel_rfl
theorem en21 : entered Try.prog 21 = true := by kernel_rfl
theorem en22 : entered Try.prog 22 = true := by kernel_rfl
theorem en23 : entered Try.prog 23 = true := by kernel_rfl
theorem en24 : entered Try.prog 24 = true := by kernel_rfl
theorem en25 : entered Try.prog 25 = true := by kernel_rfl
theorem en26 : entered Try.prog 26 = true := by kernel_rfl
theorem en27 : entered Try.prog 27 = true := by kernel_rfl
theorem en28 : entered Try.prog 28 = true := by kernel_rfl
theorem en29 : entered Try.prog 29 = true := by kernel_rfl
theorem en30 : entered Try.prog 30 = true := by kernel_rfl
theorem en31 : entered Try.prog 31 = true := by kernel_rfl
theorem en32 : entered Try.prog 32 = true := by kernel_rfl
theorem en33 : entered Try.prog 33 = true := by kernel_rfl
theorem en34 : entered Try.prog 34 = true := by kernel_rfl
theorem en35 : entered Try.prog 35 = true := by kernel_rfl
theorem en36 : entered Try.prog 36 = true := by kernel_rfl
theorem en37 : entered Try.prog 37 = true := by kernel_rfl
theorem en38 : entered Try.prog 38 = true := by kernel_rfl
theorem en39 : entered Try.prog 39 = true := by kernel_rfl
theorem en40 : entered Try.prog 40 = true := by kernel_rfl
theorem en41 : entered Try.prog 41 = true := by kernel_rfl
theorem en42 : entered Try.prog 42 = true := by kernel_rfl
theorem en43 : entered Try.prog 43 = true := by kernel_rfl
theorem en44 : entered Try.prog 44 = true := by kernel_rfl
theorem en45 : entered Try.prog 45 = true := by kernel_rfl
theorem en46 : entered Try.prog 46 = true := by kernel_rfl
theorem en47 : entered Try.prog 47 = true := by kernel_rfl
theorem en48 : entered Try.prog 48 = true := by kernel_rfl
theorem en49 : entered Try.prog 49 = true := by kernel_rfl
theorem en50 : entered Try.prog 50 = true := by kernel_rfl
theorem en51 : entered Try.prog 51 = true := by kernel_rfl
theorem en53 : entered Try.prog 53 = true := by kernel_rfl
theorem en56 : entered Try.prog 56 = true := by kernel_rfl
theorem en58 : entered Try.prog 58 = true := by kernel_rfl
theorem en59 : entered Try.prog 59 = true := by kernel_rfl
theorem en61 : entered Try.prog 61 = true := by kernel_rfl
theorem fo63_0 : foOf Try.prog 63 0 = some 0 := by kernel_rfl
theorem fo63_1 : foOf Try.prog 63 1 = some 1 := by kernel_rfl
theorem sz0 : szOf Try.prog 0 = some 1 := by kernel_rfl
theorem sz1 : szOf Try.prog 1 = some 1 := by kernel_rfl
theorem sz10 : szOf Try.prog 10 = some 1 := by kernel_rfl
theorem sz11 : szOf Try.prog 11 = some 1 := by kernel_rfl
theorem sz12 : szOf Try.prog 12 = some 1 := by kernel_rfl
theorem sz13 : szOf Try.prog 13 = some 2 := by kernel_rfl
theorem sz14 : szOf Try.prog 14 = some 2 := by kernel_rfl
theorem sz15 : szOf Try.prog 15 = some 1 := by kernel_rfl
theorem sz16 : szOf Try.prog 16 = some 1 := by kernel_rfl
theorem sz17 : szOf Try.prog 17 = some 1 := by kernel_rfl
theorem sz18 : szOf Try.prog 18 = some 1 := by kernel_rfl
theorem sz19 : szOf Try.prog 19 = some 1 := by kernel_rfl
theorem sz2 : szOf Try.prog 2 = some 1 := by kernel_rfl
theorem sz20 : szOf Try.prog 20 = some 1 := by kernel_rfl
theorem sz21 : szOf Try.prog 21 = some 1 := by kernel_rfl
theorem sz22 : szOf Try.prog 22 = some 1 := by kernel_rfl
theorem sz23 : szOf Try.prog 23 = some 1 := by kernel_rfl
theorem sz24 : szOf Try.prog 24 = some 1 := by kernel_rfl
theorem sz25 : szOf Try.prog 25 = some 1 := by kernel_rfl
theorem sz26 : szOf Try.prog 26 = some 1 := by kernel_rfl
theorem sz27 : szOf Try.prog 27 = some 1 := by kernel_rfl
theorem sz28 : szOf Try.prog 28 = some 1 := by kernel_rfl
theorem sz29 : szOf Try.prog 29 = some 1 := by kernel_rfl
theorem sz3 : szOf Try.prog 3 = some 1 := by kernel_rfl
theorem sz30 : szOf Try.prog 30 = some 1 := by kernel_rfl
theorem sz31 : szOf Try.prog 31 = some 1 := by kernel_rfl
theorem sz32 : szOf Try.prog 32 = some 1 := by kernel_rfl
theorem sz33 : szOf Try.prog 33 = some 1 := by kernel_rfl
theorem sz34 : szOf Try.prog 34 = some 1 := by kernel_rfl
theorem sz35 : szOf Try.prog 35 = some 1 := by kernel_rfl
theorem sz36 : szOf Try.prog 36 = some 1 := by kernel_rfl
theorem sz37 : szOf Try.prog 37 = some 1 := by kernel_rfl
theorem sz38 : szOf Try.prog 38 = some 1 := by kernel_rfl
theorem sz39 : szOf Try.prog 39 = some 1 := by kernel_rfl
theorem sz4 : szOf Try.prog 4 = some 1 := by kernel_rfl
theorem sz40 : szOf Try.prog 40 = some 1 := by kernel_rfl
theorem sz41 : szOf Try.prog 41 = some 1 := by kernel_rfl
theorem sz42 : szOf Try.prog 42 = some 1 := by kernel_rfl
theorem sz43 : szOf Try.prog 43 = some 1 := by kernel_rfl
theorem sz44 : szOf Try.prog 44 = some 1 := by kernel_rfl
theorem sz45 : szOf Try.prog 45 = some 1 := by kernel_rfl
theorem sz46 : szOf Try.prog 46 = some 1 := by kernel_rfl
theorem sz47 : szOf Try.prog 47 = some 1 := by kernel_rfl
theorem sz48 : szOf Try.prog 48 = some 1 := by kernel_rfl
theorem sz49 : szOf Try.prog 49 = some 1 := by kernel_rfl
theorem sz5 : szOf Try.prog 5 = some 1 := by kernel_rfl
theorem sz50 : szOf Try.prog 50 = some 1 := by kernel_rfl
theorem sz51 : szOf Try.prog 51 = some 1 := by kernel_rfl
theorem sz52 : szOf Try.prog 52 = some 1 := by kernel_rfl
theorem sz53 : szOf Try.prog 53 = some 1 := by kernel_rfl
theorem sz54 : szOf Try.prog 54 = some 1 := by kernel_rfl
theorem sz55 : szOf Try.prog 55 = some 1 := by kernel_rfl
theorem sz56 : szOf Try.prog 56 = some 1 := by kernel_rfl
theorem sz57 : szOf Try.prog 57 = some 1 := by kernel_rfl
theorem sz58 : szOf Try.prog 58 = some 1 := by kernel_rfl
theorem sz59 : szOf Try.prog 59 = some 1 := by kernel_rfl
theorem sz6 : szOf Try.prog 6 = some 1 := by kernel_rfl
theorem sz60 : szOf Try.prog 60 = some 1 := by kernel_rfl
theorem sz61 : szOf Try.prog 61 = some 1 := by kernel_rfl
theorem sz62 : szOf Try.prog 62 = some 2 := by kernel_rfl
theorem sz63 : szOf Try.prog 63 = some 2 := by kernel_rfl
theorem sz64 : szOf Try.prog 64 = some 1 := by kernel_rfl
theorem sz65 : szOf Try.prog 65 = some 1 := by kernel_rfl
theorem sz66 : szOf Try.prog 66 = some 1 := by kernel_rfl
theorem sz67 : szOf Try.prog 67 = some 1 := by kernel_rfl
theorem sz68 : szOf Try.prog 68 = some 1 := by kernel_rfl
theorem sz69 : szOf Try.prog 69 = some 1 := by kernel_rfl
theorem sz7 : szOf Try.prog 7 = some 4 := by kernel_rfl
theorem sz70 : szOf Try.prog 70 = some 1 := by kernel_rfl
theorem sz71 : szOf Try.prog 71 = some 1 := by kernel_rfl
theorem sz72 : szOf Try.prog 72 = some 1 := by kernel_rfl
theorem sz73 : szOf Try.prog 73 = some 1 := by kernel_rfl
theorem sz74 : szOf Try.prog 74 = some 1 := by kernel_rfl
theorem sz75 : szOf Try.prog 75 = some 1 := by kernel_rfl
theorem sz76 : szOf Try.prog 76 = some 1 := by kernel_rfl
theorem sz77 : szOf Try.prog 77 = some 1 := by kernel_rfl
theorem sz78 : szOf Try.prog 78 = some 4 := by kernel_rfl
theorem sz79 : szOf Try.prog 79 = some 4 := by kernel_rfl
theorem sz8 : szOf Try.prog 8 = some 4 := by kernel_rfl
theorem sz80 : szOf Try.prog 80 = some 0 := by kernel_rfl
theorem sz81 : szOf Try.prog 81 = some 0 := by kernel_rfl
theorem sz82 : szOf Try.prog 82 = some 0 := by kernel_rfl
theorem sz83 : szOf Try.prog 83 = some 1 := by kernel_rfl
theorem sz84 : szOf Try.prog 84 = some 1 := by kernel_rfl
theorem sz85 : szOf Try.prog 85 = some 1 := by kernel_rfl
theorem sz86 : szOf Try.prog 86 = some 1 := by kernel_rfl
theorem sz87 : szOf Try.prog 87 = some 1 := by kernel_rfl
theorem sz88 : szOf Try.prog 88 = some 1 := by kernel_rfl
theorem sz89 : szOf Try.prog 89 = some 11 := by kernel_rfl
theorem sz9 : szOf Try.prog 9 = some 1 := by kernel_rfl
theorem sz90 : szOf Try.prog 90 = some 11 := by kernel_rfl
theorem ze1 : zeroOf Try.prog 1 = some (.nilFunc) := by kernel_rfl
theorem ze10 : zeroOf Try.prog 10 = some (.string ByteArray.empty) := by kernel_rfl
theorem ze11 : zeroOf Try.prog 11 = some (.string ByteArray.empty) := by kernel_rfl
theorem ze12 : zeroOf Try.prog 12 = some (.int .u64 0) := by kernel_rfl
theorem ze13 : zeroOf Try.prog 13 = some (.agg #[.string ByteArray.empty, .int .u64 0]) := by kernel_rfl
theorem ze14 : zeroOf Try.prog 14 = some (.agg #[.string ByteArray.empty, .int .u64 0]) := by kernel_rfl
theorem ze15 : zeroOf Try.prog 15 = some (.pointer none) := by kernel_rfl
theorem ze16 : zeroOf Try.prog 16 = some (.pointer none) := by kernel_rfl
theorem ze17 : zeroOf Try.prog 17 = some (.pointer none) := by kernel_rfl
theorem ze18 : zeroOf Try.prog 18 = some (.agg #[.pointer none]) := by kernel_rfl
theorem ze19 : zeroOf Try.prog 19 = some (.agg #[.pointer none]) := by kernel_rfl
theorem ze2 : zeroOf Try.prog 2 = some (.int .i64 0) := by kernel_rfl
theorem ze20 : zeroOf Try.prog 20 = some (.nilIface) := by kernel_rfl
theorem ze21 : zeroOf Try.prog 21 = some (.int .i32 0) := by kernel_rfl
theorem ze22 : zeroOf Try.prog 22 = some (.slice none 0 0) := by kernel_rfl
theorem ze23 : zeroOf Try.prog 23 = some (.int .i64 0) := by kernel_rfl
theorem ze25 : zeroOf Try.prog 25 = some (.nilFunc) := by kernel_rfl
theorem ze27 : zeroOf Try.prog 27 = some (.nilFunc) := by kernel_rfl
theorem ze28 : zeroOf Try.prog 28 = some (.nilFunc) := by kernel_rfl
theorem ze29 : zeroOf Try.prog 29 = some (.nilFunc) := by kernel_rfl
theorem ze3 : zeroOf Try.prog 3 = some (.int .i64 0) := by kernel_rfl
theorem ze30 : zeroOf Try.prog 30 = some (.nilFunc) := by kernel_rfl
theorem ze31 : zeroOf Try.prog 31 = some (.nilFunc) := by kernel_rfl
theorem ze32 : zeroOf Try.prog 32 = some (.nilFunc) := by kernel_rfl
theorem ze34 : zeroOf Try.prog 34 = some (.nilFunc) := by kernel_rfl
theorem ze36 : zeroOf Try.prog 36 = some (.nilFunc) := by kernel_rfl
theorem ze37 : zeroOf Try.prog 37 = some (.nilFunc) := by kernel_rfl
theorem ze38 : zeroOf Try.prog 38 = some (.nilFunc) := by kernel_rfl
theorem ze39 : zeroOf Try.prog 39 = some (.nilFunc) := by kernel_rfl
theorem ze4 : zeroOf Try.prog 4 = some (.bool false) := by kernel_rfl
theorem ze41 : zeroOf Try.prog 41 = some (.nilFunc) := by kernel_rfl
theorem ze43 : zeroOf Try.prog 43 = some (.nilFunc) := by kernel_rfl
theorem ze44 : zeroOf Try.prog 44 = some (.nilFunc) := by kernel_rfl
theorem ze45 : zeroOf Try.prog 45 = some (.nilFunc) := by kernel_rfl
theorem ze46 : zeroOf Try.prog 46 = some (.nilFunc) := by kernel_rfl
theorem ze47 : zeroOf Try.prog 47 = some (.nilFunc) := by kernel_rfl
theorem ze48 : zeroOf Try.prog 48 = some (.nilFunc) := by kernel_rfl
theorem ze49 : zeroOf Try.prog 49 = some (.nilFunc) := by kernel_rfl
theorem ze5 : zeroOf Try.prog 5 = some (.int .u8 0) := by kernel_rfl
theorem ze50 : zeroOf Try.prog 50 = some (.nilFunc) := by kernel_rfl
theorem ze51 : zeroOf Try.prog 51 = some (.nilFunc) := by kernel_rfl
theorem ze52 : zeroOf Try.prog 52 = some (.nilFunc) := by kernel_rfl
theorem ze53 : zeroOf Try.prog 53 = some (.nilFunc) := by kernel_rfl
theorem ze54 : zeroOf Try.prog 54 = some (.nilFunc) := by kernel_rfl
theorem ze55 : zeroOf Try.prog 55 = some (.nilFunc) := by kernel_rfl
theorem ze56 : zeroOf Try.prog 56 = some (.nilFunc) := by kernel_rfl
theorem ze59 : zeroOf Try.prog 59 = some (.nilFunc) := by kernel_rfl
theorem ze6 : zeroOf Try.prog 6 = some (.int .u8 0) := by kernel_rfl
theorem ze60 : zeroOf Try.prog 60 = some (.pointer none) := by kernel_rfl
theorem ze61 : zeroOf Try.prog 61 = some (.slice none 0 0) := by kernel_rfl
theorem ze62 : zeroOf Try.prog 62 = some (.agg #[.pointer none, .slice none 0 0]) := by kernel_rfl
theorem ze63 : zeroOf Try.prog 63 = some (.agg #[.pointer none, .slice none 0 0]) := by kernel_rfl
theorem ze64 : zeroOf Try.prog 64 = some (.nilFunc) := by kernel_rfl
theorem ze65 : zeroOf Try.prog 65 = some (.nilIface) := by kernel_rfl
theorem ze66 : zeroOf Try.prog 66 = some (.nilIface) := by kernel_rfl
theorem ze68 : zeroOf Try.prog 68 = some (.nilFunc) := by kernel_rfl
theorem ze69 : zeroOf Try.prog 69 = some (.nilFunc) := by kernel_rfl
theorem ze7 : zeroOf Try.prog 7 = some (.agg #[.int .i64 0, .int .i64 0, .bool false, .int .u8 0]) := by kernel_rfl
theorem ze70 : zeroOf Try.prog 70 = some (.pointer none) := by kernel_rfl
theorem ze71 : zeroOf Try.prog 71 = some (.pointer none) := by kernel_rfl
theorem ze72 : zeroOf Try.prog 72 = some (.nilFunc) := by kernel_rfl
theorem ze73 : zeroOf Try.prog 73 = some (.nilFunc) := by kernel_rfl
theorem ze74 : zeroOf Try.prog 74 = some (.int .u64 0) := by kernel_rfl
theorem ze75 : zeroOf Try.prog 75 = some (.int .u32 0) := by kernel_rfl
theorem ze77 : zeroOf Try.prog 77 = some (.nilFunc) := by kernel_rfl
theorem ze78 : zeroOf Try.prog 78 = some (.agg #[.pointer none, .pointer none, .pointer none, .string ByteArray.empty]) := by kernel_rfl
theorem ze79 : zeroOf Try.prog 79 = some (.agg #[.pointer none, .pointer none, .pointer none, .string ByteArray.empty]) := by kernel_rfl
theorem ze8 : zeroOf Try.prog 8 = some (.agg #[.int .i64 0, .int .i64 0, .bool false, .int .u8 0]) := by kernel_rfl
theorem ze80 : zeroOf Try.prog 80 = some (.agg #[]) := by kernel_rfl
theorem ze81 : zeroOf Try.prog 81 = some (.agg #[]) := by kernel_rfl
theorem ze82 : zeroOf Try.prog 82 = some (.agg #[]) := by kernel_rfl
theorem ze83 : zeroOf Try.prog 83 = some (.nilFunc) := by kernel_rfl
theorem ze84 : zeroOf Try.prog 84 = some (.int .u8 0) := by kernel_rfl
theorem ze85 : zeroOf Try.prog 85 = some (.int .u8 0) := by kernel_rfl
theorem ze86 : zeroOf Try.prog 86 = some (.nilFunc) := by kernel_rfl
theorem ze87 : zeroOf Try.prog 87 = some (.int .i32 0) := by kernel_rfl
theorem ze88 : zeroOf Try.prog 88 = some (.int .i32 0) := by kernel_rfl
theorem ze89 : zeroOf Try.prog 89 = some (.agg #[.int .u64 0, .int .u64 0, .int .u32 0, .int .u8 0, .int .u8 0, .int .u8 0, .int .u8 0, .nilFunc, .pointer none, .int .i32 0, .int .i32 0]) := by kernel_rfl
theorem ze9 : zeroOf Try.prog 9 = some (.string ByteArray.empty) := by kernel_rfl
theorem ze90 : zeroOf Try.prog 90 = some (.agg #[.int .u64 0, .int .u64 0, .int .u32 0, .int .u8 0, .int .u8 0, .int .u8 0, .int .u8 0, .nilFunc, .pointer none, .int .i32 0, .int .i32 0]) := by kernel_rfl

end Go.Proofs.Ytkieecaaijlokaa
