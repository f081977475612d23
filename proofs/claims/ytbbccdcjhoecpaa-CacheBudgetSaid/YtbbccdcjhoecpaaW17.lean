/-
  CacheBudget, whatever the budget.
-/
import Derived.Test.YtbbccdcjhoecpaaW16
namespace Go.Proofs.Ytbbccdcjhoecpaa
open Go Go.Fw Go.RowKit Go.Proofs

theorem budget_c {w0 : World} {bud : Int} {v0 : Value} {A : List Ac} (hA : ActsIn w0 v0 A) : Ret Try.prog 4 #[.int .i64 bud, v0] w0 fun v w' => v = .bool true ∧ New w0 w' := by
  by_cases h : 0 ≤ bud ∧ bud ≤ 1048576
  · exact budget_ok h hA
  · exact budget_bad (by omega)
end Go.Proofs.Ytbbccdcjhoecpaa
