/-
  Facts of the program for the rows of laws.
-/
import Derived.Test.YtkieecaaijlokaaFwR
import Derived.Test.YtkieecaaijlokaaRows
namespace Go.Proofs.Ytkieecaaijlokaa
open Go Go.Fw Go.ChangeShapes Go.WideShapes Go.ChangeAt Go.RowKit
theorem own : ownKnob Try.prog.godebug = none := by kernel_rfl
theorem laid : laidOutB Try.prog = true := by kernel_rfl
theorem cStr : Try.prog.cellsOf 9 = 1 := by kernel_rfl
theorem strs_flat : ∀ l : List (List UInt8), (l.flatMap fun s => [strV s]) = strCs l
  | [] => rfl
  | x :: l => by rw [List.flatMap_cons, strs_flat l]; rfl
theorem strs_of {H : Type} {W : World} {R : List UInt8 → DataW H → Prop} {v : Value} {l : List (List UInt8)} {d : DataW H} (h : SlR W 1 (fun s : List UInt8 => [strV s]) R (v, l) d) : StrsAt W v l := by
  have := h.1
  rw [strs_flat] at this
  exact this
end Go.Proofs.Ytkieecaaijlokaa
