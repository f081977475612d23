/-
  No cell of these rows narrows 'for every input' (looked for: loops, veiled, ifaces, maps, wideKeys, modest, calm, conditions, laid).
  DERIVED. THE GIVEN ROWS OF THIS SEAT. 7 by the template 'for every input the law returns true; each argument reads behind the call as it read before'; 0 by the template 'total and deterministic' (their statements: YtebfjdolgchgaaaTotals.lean).
  GIVEN WITH THE SEED: the statements are not yours to turn. If you find one false, say at which input.
  Laid BY PROGRAM, IN A SANDBOX (cutbox-rows.mjs): the forced cells as the released guide's own fill.sh prints them over the translation ecb364da6d3f83db… (all of the seat's roots in one cut). By AI agents, Wed Nov 11 2026. No macro, syntax, notation, axiom, sorry.
-/
import Derived.Test.YtebfjdolgchgaaaChecked
import GoSem.Claim
import GoSem.ClaimJoined
import GoSem.ClaimMapViews
import Derived.JoinedTies
import Derived.KernelRfl
namespace Go.Proofs.Ytebfjdolgchgaaa
/- THE CELL 'sum', in the pinned program and in every row, IS THE sha256 OF THE DUMP (.gsa) THAT YtebfjdolgchgaaaProg.lean LOADS. Nothing in Lean hashes anything: it is a label: what it is worth is what the hold of that sum in a sandbox is worth. -/
noncomputable def Try.pinned : Pinned := { name := "ytebfjdolgchgaaa", sum := "ecb364da6d3f83db370b558437eab5d3778de1476e7e8f576f6b469adbc3184c", checked := Try.checked }
namespace Rows
def none {H : Type} : Left H := { results := [], args := [] }

/-- 'valiselaw20.VfsPlays': WHATEVER THE INPUT: true; the input reads as it did. -/
def vfsPlaysSpec : ChangeSpec := { name := "vfsPlays", fn := fun _ => fun
  | [d1, d2] => { results := [.lit (.bool true)], args := [d1, d2] }
  | _ => none }
def vfsPlaysRow : OpenClaim := { program := "ytebfjdolgchgaaa", sum := "ecb364da6d3f83db370b558437eab5d3778de1476e7e8f576f6b469adbc3184c", func := "valise/valiselaw20.VfsPlays", spec := "vfsPlays", unfollowed := true, recurses := true, apart := false }
def VfsPlaysSaid : Prop := vfsPlaysRow.holds Try.pinned (OpenSpec.ofChange vfsPlaysSpec)

/-- ITS FALSE NEIGHBOUR: 'it returns false'. Refute it at one input. -/
def vfsPlaysWrong : ChangeSpec := { name := "vfsPlays", fn := fun _ => fun
  | [d1, d2] => { results := [.lit (.bool false)], args := [d1, d2] }
  | _ => none }
def VfsPlaysWrongFalsely : Prop := vfsPlaysRow.holds Try.pinned (OpenSpec.ofChange vfsPlaysWrong)

/-- 'valiselaw20.VfsMany': WHATEVER THE INPUT: true; the input reads as it did. -/
def vfsManySpec : ChangeSpec := { name := "vfsMany", fn := fun _ => fun
  | [d] => { results := [.lit (.bool true)], args := [d] }
  | _ => none }
def vfsManyRow : OpenClaim := { program := "ytebfjdolgchgaaa", sum := "ecb364da6d3f83db370b558437eab5d3778de1476e7e8f576f6b469adbc3184c", func := "valise/valiselaw20.VfsMany", spec := "vfsMany", unfollowed := true, recurses := true, apart := false }
def VfsManySaid : Prop := vfsManyRow.holds Try.pinned (OpenSpec.ofChange vfsManySpec)

/-- ITS FALSE NEIGHBOUR: 'it returns false'. Refute it at one input. -/
def vfsManyWrong : ChangeSpec := { name := "vfsMany", fn := fun _ => fun
  | [d] => { results := [.lit (.bool false)], args := [d] }
  | _ => none }
def VfsManyWrongFalsely : Prop := vfsManyRow.holds Try.pinned (OpenSpec.ofChange vfsManyWrong)

/-- 'valiselaw20.VfsLine': WHATEVER THE INPUT: true; the input reads as it did. -/
def vfsLineSpec : ChangeSpec := { name := "vfsLine", fn := fun _ => fun
  | [d1, d2] => { results := [.lit (.bool true)], args := [d1, d2] }
  | _ => none }
def vfsLineRow : OpenClaim := { program := "ytebfjdolgchgaaa", sum := "ecb364da6d3f83db370b558437eab5d3778de1476e7e8f576f6b469adbc3184c", func := "valise/valiselaw20.VfsLine", spec := "vfsLine", unfollowed := true, recurses := true, apart := false }
def VfsLineSaid : Prop := vfsLineRow.holds Try.pinned (OpenSpec.ofChange vfsLineSpec)

/-- ITS FALSE NEIGHBOUR: 'it returns false'. Refute it at one input. -/
def vfsLineWrong : ChangeSpec := { name := "vfsLine", fn := fun _ => fun
  | [d1, d2] => { results := [.lit (.bool false)], args := [d1, d2] }
  | _ => none }
def VfsLineWrongFalsely : Prop := vfsLineRow.holds Try.pinned (OpenSpec.ofChange vfsLineWrong)

/-- 'valiselaw20.VfsGoesOn': WHATEVER THE INPUT: true; the input reads as it did. -/
def vfsGoesOnSpec : ChangeSpec := { name := "vfsGoesOn", fn := fun _ => fun
  | [d1, d2] => { results := [.lit (.bool true)], args := [d1, d2] }
  | _ => none }
def vfsGoesOnRow : OpenClaim := { program := "ytebfjdolgchgaaa", sum := "ecb364da6d3f83db370b558437eab5d3778de1476e7e8f576f6b469adbc3184c", func := "valise/valiselaw20.VfsGoesOn", spec := "vfsGoesOn", unfollowed := true, recurses := true, apart := false }
def VfsGoesOnSaid : Prop := vfsGoesOnRow.holds Try.pinned (OpenSpec.ofChange vfsGoesOnSpec)

/-- ITS FALSE NEIGHBOUR: 'it returns false'. Refute it at one input. -/
def vfsGoesOnWrong : ChangeSpec := { name := "vfsGoesOn", fn := fun _ => fun
  | [d1, d2] => { results := [.lit (.bool false)], args := [d1, d2] }
  | _ => none }
def VfsGoesOnWrongFalsely : Prop := vfsGoesOnRow.holds Try.pinned (OpenSpec.ofChange vfsGoesOnWrong)

/-- 'valiselaw20.VfsWriters': WHATEVER THE INPUT: true; the input reads as it did. -/
def vfsWritersSpec : ChangeSpec := { name := "vfsWriters", fn := fun _ => fun
  | [d1, d2] => { results := [.lit (.bool true)], args := [d1, d2] }
  | _ => none }
def vfsWritersRow : OpenClaim := { program := "ytebfjdolgchgaaa", sum := "ecb364da6d3f83db370b558437eab5d3778de1476e7e8f576f6b469adbc3184c", func := "valise/valiselaw20.VfsWriters", spec := "vfsWriters", unfollowed := true, recurses := true, apart := false }
def VfsWritersSaid : Prop := vfsWritersRow.holds Try.pinned (OpenSpec.ofChange vfsWritersSpec)

/-- ITS FALSE NEIGHBOUR: 'it returns false'. Refute it at one input. -/
def vfsWritersWrong : ChangeSpec := { name := "vfsWriters", fn := fun _ => fun
  | [d1, d2] => { results := [.lit (.bool false)], args := [d1, d2] }
  | _ => none }
def VfsWritersWrongFalsely : Prop := vfsWritersRow.holds Try.pinned (OpenSpec.ofChange vfsWritersWrong)

/-- 'valiselaw20.VfsFirst': WHATEVER THE INPUT: true; the input reads as it did. -/
def vfsFirstSpec : ChangeSpec := { name := "vfsFirst", fn := fun _ => fun
  | [d1, d2] => { results := [.lit (.bool true)], args := [d1, d2] }
  | _ => none }
def vfsFirstRow : OpenClaim := { program := "ytebfjdolgchgaaa", sum := "ecb364da6d3f83db370b558437eab5d3778de1476e7e8f576f6b469adbc3184c", func := "valise/valiselaw20.VfsFirst", spec := "vfsFirst", unfollowed := true, recurses := true, apart := false }
def VfsFirstSaid : Prop := vfsFirstRow.holds Try.pinned (OpenSpec.ofChange vfsFirstSpec)

/-- ITS FALSE NEIGHBOUR: 'it returns false'. Refute it at one input. -/
def vfsFirstWrong : ChangeSpec := { name := "vfsFirst", fn := fun _ => fun
  | [d1, d2] => { results := [.lit (.bool false)], args := [d1, d2] }
  | _ => none }
def VfsFirstWrongFalsely : Prop := vfsFirstRow.holds Try.pinned (OpenSpec.ofChange vfsFirstWrong)

/-- 'valiselaw20.VfsNil': WHATEVER THE INPUT: true; the input reads as it did. -/
def vfsNilSpec : ChangeSpec := { name := "vfsNil", fn := fun _ => fun
  | [d1, d2, d3] => { results := [.lit (.bool true)], args := [d1, d2, d3] }
  | _ => none }
def vfsNilRow : OpenClaim := { program := "ytebfjdolgchgaaa", sum := "ecb364da6d3f83db370b558437eab5d3778de1476e7e8f576f6b469adbc3184c", func := "valise/valiselaw20.VfsNil", spec := "vfsNil", unfollowed := true, recurses := true, apart := false }
def VfsNilSaid : Prop := vfsNilRow.holds Try.pinned (OpenSpec.ofChange vfsNilSpec)

/-- ITS FALSE NEIGHBOUR: 'it returns false'. Refute it at one input. -/
def vfsNilWrong : ChangeSpec := { name := "vfsNil", fn := fun _ => fun
  | [d1, d2, d3] => { results := [.lit (.bool false)], args := [d1, d2, d3] }
  | _ => none }
def VfsNilWrongFalsely : Prop := vfsNilRow.holds Try.pinned (OpenSpec.ofChange vfsNilWrong)

/- THE SECOND FORM. 'bulk': how many values and letters a reading holds, each counted each time it is reached (what is shared counts as often as it is met; a slice's spare places count too). A statement '..UptoSaid' is the law's where the arguments, and the package variables that the reading takes, are together of bulk at most 1048576: NARROWER than '..Said'. Prove '..Said' where nothing that the law and all that it calls make is longer than what came in: it says more and counts as full. Else prove '..UptoSaid'. A law counts once. -/
mutual
def uptoBulk {H : Type} : DataW H → Nat
  | .lit (.string bytes) => bytes.length + 1
  | .lit _ => 1
  | .nil => 1
  | .ptr d => uptoBulk d + 1
  | .slice elems spare => uptoBulkAll elems + uptoBulkAll spare + 1
  | .agg parts => uptoBulkAll parts + 1
  | .iface _ d => uptoBulk d + 1
  | .map entries => uptoBulkEntries entries + 1
  | .held _ => 1
def uptoBulkAll {H : Type} : List (DataW H) → Nat
  | [] => 0
  | d :: r => uptoBulk d + uptoBulkAll r
def uptoBulkEntries {H : Type} : List (Lit × DataW H) → Nat
  | [] => 0
  | x :: r => uptoBulkEntry x + uptoBulkEntries r
def uptoBulkEntry {H : Type} : Lit × DataW H → Nat
  | (.string bytes, d) => bytes.length + uptoBulk d + 1
  | (_, d) => uptoBulk d + 1
 end
def uptoSmall : (H : Type) → List (DataW H) → Bool := fun _ ds => decide (uptoBulkAll ds ≤ 1048576)
def OpenSpec.upto (s : _root_.Go.ChangeSpec) : _root_.Go.OpenSpec := { _root_.Go.OpenSpec.ofChange s with cond := some uptoSmall }

/-- 'valiselaw20.VfsPlays', WHERE WHAT IT READS IS OF BULK AT MOST 1048576: true; the input reads as it did. -/
def vfsPlaysUptoRow : OpenClaim := { program := "ytebfjdolgchgaaa", sum := "ecb364da6d3f83db370b558437eab5d3778de1476e7e8f576f6b469adbc3184c", func := "valise/valiselaw20.VfsPlays", spec := "vfsPlays", unfollowed := true, recurses := true, apart := false, narrowed := true }
def VfsPlaysUptoSaid : Prop := vfsPlaysUptoRow.holds Try.pinned (OpenSpec.upto vfsPlaysSpec)

/-- 'valiselaw20.VfsMany', WHERE WHAT IT READS IS OF BULK AT MOST 1048576: true; the input reads as it did. -/
def vfsManyUptoRow : OpenClaim := { program := "ytebfjdolgchgaaa", sum := "ecb364da6d3f83db370b558437eab5d3778de1476e7e8f576f6b469adbc3184c", func := "valise/valiselaw20.VfsMany", spec := "vfsMany", unfollowed := true, recurses := true, apart := false, narrowed := true }
def VfsManyUptoSaid : Prop := vfsManyUptoRow.holds Try.pinned (OpenSpec.upto vfsManySpec)

/-- 'valiselaw20.VfsLine', WHERE WHAT IT READS IS OF BULK AT MOST 1048576: true; the input reads as it did. -/
def vfsLineUptoRow : OpenClaim := { program := "ytebfjdolgchgaaa", sum := "ecb364da6d3f83db370b558437eab5d3778de1476e7e8f576f6b469adbc3184c", func := "valise/valiselaw20.VfsLine", spec := "vfsLine", unfollowed := true, recurses := true, apart := false, narrowed := true }
def VfsLineUptoSaid : Prop := vfsLineUptoRow.holds Try.pinned (OpenSpec.upto vfsLineSpec)

/-- 'valiselaw20.VfsGoesOn', WHERE WHAT IT READS IS OF BULK AT MOST 1048576: true; the input reads as it did. -/
def vfsGoesOnUptoRow : OpenClaim := { program := "ytebfjdolgchgaaa", sum := "ecb364da6d3f83db370b558437eab5d3778de1476e7e8f576f6b469adbc3184c", func := "valise/valiselaw20.VfsGoesOn", spec := "vfsGoesOn", unfollowed := true, recurses := true, apart := false, narrowed := true }
def VfsGoesOnUptoSaid : Prop := vfsGoesOnUptoRow.holds Try.pinned (OpenSpec.upto vfsGoesOnSpec)

/-- 'valiselaw20.VfsWriters', WHERE WHAT IT READS IS OF BULK AT MOST 1048576: true; the input reads as it did. -/
def vfsWritersUptoRow : OpenClaim := { program := "ytebfjdolgchgaaa", sum := "ecb364da6d3f83db370b558437eab5d3778de1476e7e8f576f6b469adbc3184c", func := "valise/valiselaw20.VfsWriters", spec := "vfsWriters", unfollowed := true, recurses := true, apart := false, narrowed := true }
def VfsWritersUptoSaid : Prop := vfsWritersUptoRow.holds Try.pinned (OpenSpec.upto vfsWritersSpec)

/-- 'valiselaw20.VfsFirst', WHERE WHAT IT READS IS OF BULK AT MOST 1048576: true; the input reads as it did. -/
def vfsFirstUptoRow : OpenClaim := { program := "ytebfjdolgchgaaa", sum := "ecb364da6d3f83db370b558437eab5d3778de1476e7e8f576f6b469adbc3184c", func := "valise/valiselaw20.VfsFirst", spec := "vfsFirst", unfollowed := true, recurses := true, apart := false, narrowed := true }
def VfsFirstUptoSaid : Prop := vfsFirstUptoRow.holds Try.pinned (OpenSpec.upto vfsFirstSpec)

/-- 'valiselaw20.VfsNil', WHERE WHAT IT READS IS OF BULK AT MOST 1048576: true; the input reads as it did. -/
def vfsNilUptoRow : OpenClaim := { program := "ytebfjdolgchgaaa", sum := "ecb364da6d3f83db370b558437eab5d3778de1476e7e8f576f6b469adbc3184c", func := "valise/valiselaw20.VfsNil", spec := "vfsNil", unfollowed := true, recurses := true, apart := false, narrowed := true }
def VfsNilUptoSaid : Prop := vfsNilUptoRow.holds Try.pinned (OpenSpec.upto vfsNilSpec)

end Rows
end Go.Proofs.Ytebfjdolgchgaaa
