/-
  Facts of the program's tables, by program.
-/
import Derived.Test.YtbbccdcjhoecpaaRows
import Derived.Test.YtbbccdcjhoecpaaFwE
namespace Go.Proofs.Ytbbccdcjhoecpaa
open Go Go.Fw Go.Proofs
theorem by29 : bytesOf' Try.prog 29 = some 24 := by kernel_rfl
theorem by5 : bytesOf' Try.prog 5 = some 1 := by kernel_rfl
theorem en10 : entered Try.prog 10 = true := by kernel_rfl
theorem en11 : entered Try.prog 11 = true := by kernel_rfl
theorem en12 : entered Try.prog 12 = true := by kernel_rfl
theorem en13 : entered Try.prog 13 = true := by kernel_rfl
theorem en14 : entered Try.prog 14 = true := by kernel_rfl
theorem en15 : entered Try.prog 15 = true := by kernel_rfl
theorem en16 : entered Try.prog 16 = true := by kernel_rfl
theorem en20 : entered Try.prog 20 = true := by kernel_rfl
theorem en21 : entered Try.prog 21 = true := by kernel_rfl
theorem en22 : entered Try.prog 22 = true := by kernel_rfl
theorem en23 : entered Try.prog 23 = true := by kernel_rfl
theorem en24 : entered Try.prog 24 = true := by kernel_rfl
theorem en25 : entered Try.prog 25 = true := by kernel_rfl
theorem en26 : entered Try.prog 26 = true := by kernel_rfl
theorem en27 : entered Try.prog 27 = true := by kernel_rfl
theorem en28 : entered Try.prog 28 = true := by kernel_rfl
theorem en29 : entered Try.prog 29 = true := by kernel_rfl
theorem en30 : entered Try.prog 30 = true := by kernel_rfl
theorem en31 : entered Try.prog 31 = true := by kernel_rfl
theorem en32 : entered Try.prog 32 = true := by kernel_rfl
theorem en38 : entered Try.prog 38 = true := by kernel_rfl
theorem en39 : entered Try.prog 39 = true := by kernel_rfl
theorem en40 : entered Try.prog 40 = true := by kernel_rfl
theorem en41 : entered Try.prog 41 = true := by kernel_rfl
theorem en8 : entered Try.prog 8 = true := by kernel_rfl
theorem en9 : entered Try.prog 9 = true := by kernel_rfl
theorem fo29_0 : foOf Try.prog 29 0 = some 0 := by kernel_rfl
theorem fo39_0 : foOf Try.prog 39 0 = some 0 := by kernel_rfl
theorem fo39_1 : foOf Try.prog 39 1 = some 1 := by kernel_rfl
theorem fo39_2 : foOf Try.prog 39 2 = some 3 := by kernel_rfl
theorem fo60_0 : foOf Try.prog 60 0 = some 0 := by kernel_rfl
theorem fo63_0 : foOf Try.prog 63 0 = some 0 := by kernel_rfl
theorem fo63_1 : foOf Try.prog 63 1 = some 1 := by kernel_rfl
theorem fo63_2 : foOf Try.prog 63 2 = some 2 := by kernel_rfl
theorem fo63_3 : foOf Try.prog 63 3 = some 3 := by kernel_rfl
theorem fo67_0 : foOf Try.prog 67 0 = some 0 := by kernel_rfl
theorem fo67_1 : foOf Try.prog 67 1 = some 2 := by kernel_rfl
theorem fo67_2 : foOf Try.prog 67 2 = some 3 := by kernel_rfl
theorem fo70_0 : foOf Try.prog 70 0 = some 0 := by kernel_rfl
theorem fo70_1 : foOf Try.prog 70 1 = some 4 := by kernel_rfl
theorem fo70_2 : foOf Try.prog 70 2 = some 5 := by kernel_rfl
theorem pl29 : placesOf Try.prog 29 = some [(0, 1), (1, 1)] := by kernel_rfl
theorem pl60 : placesOf Try.prog 60 = some [(0, 1)] := by kernel_rfl
theorem pl63 : placesOf Try.prog 63 = some [(0, 1), (1, 1), (2, 1), (3, 1)] := by kernel_rfl
theorem pl67 : placesOf Try.prog 67 = some [(0, 2), (2, 1), (3, 1)] := by kernel_rfl
theorem pl70 : placesOf Try.prog 70 = some [(0, 4), (4, 1), (5, 1)] := by kernel_rfl
theorem sz29 : szOf Try.prog 29 = some 2 := by kernel_rfl
theorem sz3 : szOf Try.prog 3 = some 1 := by kernel_rfl
theorem sz31 : szOf Try.prog 31 = some 1 := by kernel_rfl
theorem sz32 : szOf Try.prog 32 = some 1 := by kernel_rfl
theorem sz39 : szOf Try.prog 39 = some 4 := by kernel_rfl
theorem sz5 : szOf Try.prog 5 = some 1 := by kernel_rfl
theorem sz58 : szOf Try.prog 58 = some 1 := by kernel_rfl
theorem sz60 : szOf Try.prog 60 = some 1 := by kernel_rfl
theorem sz70 : szOf Try.prog 70 = some 6 := by kernel_rfl
theorem ze29 : zeroOf Try.prog 29 = some (.agg #[.string ByteArray.empty, .int .i64 0]) := by kernel_rfl
theorem ze3 : zeroOf Try.prog 3 = some (.int .i64 0) := by kernel_rfl
theorem ze32 : zeroOf Try.prog 32 = some (.slice none 0 0) := by kernel_rfl
theorem ze5 : zeroOf Try.prog 5 = some (.int .u8 0) := by kernel_rfl
theorem ze58 : zeroOf Try.prog 58 = some (.pointer none) := by kernel_rfl
theorem ze60 : zeroOf Try.prog 60 = some (.agg #[.pointer none]) := by kernel_rfl
theorem ze63 : zeroOf Try.prog 63 = some (.agg #[.int .i64 0, .int .i64 0, .pointer none, .map none]) := by kernel_rfl
theorem ze67 : zeroOf Try.prog 67 = some (.agg #[.string ByteArray.empty, .int .i64 0, .slice none 0 0, .int .i64 0]) := by kernel_rfl
theorem ze70 : zeroOf Try.prog 70 = some (.agg #[.string ByteArray.empty, .int .i64 0, .slice none 0 0, .int .i64 0, .pointer none, .pointer none]) := by kernel_rfl
theorem eqg29 : (!Try.prog.eqGuardType Try.prog.depth 29) = true := by kernel_rfl
end Go.Proofs.Ytbbccdcjhoecpaa
