/-
  CachePins, whatever is given.
-/
import Derived.Test.YtbbccdcjhoecpaaW18
namespace Go.Proofs.Ytbbccdcjhoecpaa
open Go Go.Fw Go.RowKit Go.Proofs

theorem pins_c {w0 : World} {k : Key} {sv : Value} {b : List UInt8} {v2 : Value} {A : List Ac} {bud : Int} (hA : ActsIn w0 v2 A) (hB : BytesIn w0 sv b) : Ret Try.prog 6 #[encK k, sv, v2, .int .i64 bud] w0 fun v w' => v = .bool true ∧ New w0 w' := by
  by_cases h : 0 ≤ bud ∧ bud ≤ 1048576
  · by_cases hg : fewA A ∧ b.length ≤ 4096 ∧ k.1.size ≤ 100
    · by_cases hf : (b.length : Int) ≤ bud
      · exact pins_fit hA hB h hg.1 hg.2 hf
      · exact pins_full hA hB h hg.1 hg.2 (by omega)
    · exact pins_out hA hB h hg
  · exact pins_bad hA hB (by omega)
end Go.Proofs.Ytbbccdcjhoecpaa
