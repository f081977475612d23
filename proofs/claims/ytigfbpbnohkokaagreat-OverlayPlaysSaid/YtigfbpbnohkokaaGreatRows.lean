/-
  No cell of these rows narrows 'for every input' (looked for: loops, veiled, ifaces, maps, wideKeys, modest, calm, conditions, laid).
  DERIVED. THE GIVEN ROWS OF THIS SEAT. 8 by the template 'for every input the law returns true; each argument reads behind the call as it read before'; 0 by the template 'total and deterministic' (their statements: YtigfbpbnohkokaaGreatTotals.lean).
  GIVEN WITH THE SEED: the statements are not yours to turn. If you find one false, say at which input.
  Laid BY PROGRAM, IN A SANDBOX (cutbox-rows.mjs): the forced cells as the released guide's own fill.sh prints them over the translation 35a4cd5ab35e7ad7… (all of the seat's roots in one cut). By AI agents, Wed Nov 11 2026. No macro, syntax, notation, axiom, sorry.
-/
import Derived.Test.YtigfbpbnohkokaaGreatChecked
import GoSem.Claim
import GoSem.ClaimJoined
import GoSem.ClaimMapViews
import Derived.JoinedTies
import Derived.KernelRfl
namespace Go.Proofs.YtigfbpbnohkokaaGreat
/- THE CELL 'sum', in the pinned program and in every row, IS THE sha256 OF THE DUMP (.gsa) THAT YtigfbpbnohkokaaGreatProg.lean LOADS. Nothing in Lean hashes anything: it is a label: what it is worth is what the hold of that sum in a sandbox is worth. -/
noncomputable def Tryz.pinned : Pinned := { name := "ytigfbpbnohkokaagreat", sum := "35a4cd5ab35e7ad70a6f3a1b6e22696a7a178090f922c14d357db241fffd41da", checked := Tryz.checked }
namespace Rows
def none {H : Type} : Left H := { results := [], args := [] }

/-- 'valiselaw19.OverlayNews': WHATEVER THE INPUT: true; the input reads as it did. -/
def overlayNewsSpec : ChangeSpec := { name := "overlayNews", fn := fun _ => fun
  | [d] => { results := [.lit (.bool true)], args := [d] }
  | _ => none }
def overlayNewsRow : OpenClaim := { program := "ytigfbpbnohkokaagreat", sum := "35a4cd5ab35e7ad70a6f3a1b6e22696a7a178090f922c14d357db241fffd41da", func := "valise/valiselaw19.OverlayNews", spec := "overlayNews", inPlace := ["internal/bytealg.IndexByteString", "internal/bytealg.IndexString", "internal/abi.NoEscape", "internal/bytealg.MakeNoZero"], unfollowed := true, recurses := true, named := ["internal/bytealg.MaxLen"], apart := false }
def OverlayNewsSaid : Prop := overlayNewsRow.holds Tryz.pinned (OpenSpec.ofChange overlayNewsSpec)

/-- ITS FALSE NEIGHBOUR: 'it returns false'. Refute it at one input. -/
def overlayNewsWrong : ChangeSpec := { name := "overlayNews", fn := fun _ => fun
  | [d] => { results := [.lit (.bool false)], args := [d] }
  | _ => none }
def OverlayNewsWrongFalsely : Prop := overlayNewsRow.holds Tryz.pinned (OpenSpec.ofChange overlayNewsWrong)

/-- 'valiselaw19.OverlayBytes': WHATEVER THE INPUT: true; the input reads as it did. -/
def overlayBytesSpec : ChangeSpec := { name := "overlayBytes", fn := fun _ => fun
  | [d1, d2, d3, d4] => { results := [.lit (.bool true)], args := [d1, d2, d3, d4] }
  | _ => none }
def overlayBytesRow : OpenClaim := { program := "ytigfbpbnohkokaagreat", sum := "35a4cd5ab35e7ad70a6f3a1b6e22696a7a178090f922c14d357db241fffd41da", func := "valise/valiselaw19.OverlayBytes", spec := "overlayBytes", inPlace := ["internal/bytealg.IndexByteString", "internal/bytealg.IndexString", "internal/abi.NoEscape", "internal/bytealg.MakeNoZero"], unfollowed := true, recurses := true, named := ["internal/bytealg.MaxLen"], apart := false }
def OverlayBytesSaid : Prop := overlayBytesRow.holds Tryz.pinned (OpenSpec.ofChange overlayBytesSpec)

/-- ITS FALSE NEIGHBOUR: 'it returns false'. Refute it at one input. -/
def overlayBytesWrong : ChangeSpec := { name := "overlayBytes", fn := fun _ => fun
  | [d1, d2, d3, d4] => { results := [.lit (.bool false)], args := [d1, d2, d3, d4] }
  | _ => none }
def OverlayBytesWrongFalsely : Prop := overlayBytesRow.holds Tryz.pinned (OpenSpec.ofChange overlayBytesWrong)

/-- 'valiselaw19.OverlayRefuses': WHATEVER THE INPUT: true; the input reads as it did. -/
def overlayRefusesSpec : ChangeSpec := { name := "overlayRefuses", fn := fun _ => fun
  | [d1, d2, d3] => { results := [.lit (.bool true)], args := [d1, d2, d3] }
  | _ => none }
def overlayRefusesRow : OpenClaim := { program := "ytigfbpbnohkokaagreat", sum := "35a4cd5ab35e7ad70a6f3a1b6e22696a7a178090f922c14d357db241fffd41da", func := "valise/valiselaw19.OverlayRefuses", spec := "overlayRefuses", inPlace := ["internal/bytealg.IndexByteString", "internal/bytealg.IndexString", "internal/abi.NoEscape", "internal/bytealg.MakeNoZero"], unfollowed := true, recurses := true, named := ["internal/bytealg.MaxLen"], apart := false }
def OverlayRefusesSaid : Prop := overlayRefusesRow.holds Tryz.pinned (OpenSpec.ofChange overlayRefusesSpec)

/-- ITS FALSE NEIGHBOUR: 'it returns false'. Refute it at one input. -/
def overlayRefusesWrong : ChangeSpec := { name := "overlayRefuses", fn := fun _ => fun
  | [d1, d2, d3] => { results := [.lit (.bool false)], args := [d1, d2, d3] }
  | _ => none }
def OverlayRefusesWrongFalsely : Prop := overlayRefusesRow.holds Tryz.pinned (OpenSpec.ofChange overlayRefusesWrong)

/-- 'valiselaw19.OverlayQuota': WHATEVER THE INPUT: true; the input reads as it did. -/
def overlayQuotaSpec : ChangeSpec := { name := "overlayQuota", fn := fun _ => fun
  | [d] => { results := [.lit (.bool true)], args := [d] }
  | _ => none }
def overlayQuotaRow : OpenClaim := { program := "ytigfbpbnohkokaagreat", sum := "35a4cd5ab35e7ad70a6f3a1b6e22696a7a178090f922c14d357db241fffd41da", func := "valise/valiselaw19.OverlayQuota", spec := "overlayQuota", inPlace := ["internal/bytealg.IndexByteString", "internal/bytealg.IndexString", "internal/abi.NoEscape", "internal/bytealg.MakeNoZero"], unfollowed := true, recurses := true, named := ["internal/bytealg.MaxLen"], apart := false }
def OverlayQuotaSaid : Prop := overlayQuotaRow.holds Tryz.pinned (OpenSpec.ofChange overlayQuotaSpec)

/-- ITS FALSE NEIGHBOUR: 'it returns false'. Refute it at one input. -/
def overlayQuotaWrong : ChangeSpec := { name := "overlayQuota", fn := fun _ => fun
  | [d] => { results := [.lit (.bool false)], args := [d] }
  | _ => none }
def OverlayQuotaWrongFalsely : Prop := overlayQuotaRow.holds Tryz.pinned (OpenSpec.ofChange overlayQuotaWrong)

/-- 'valiselaw19.OverlayMoves': WHATEVER THE INPUT: true; the input reads as it did. -/
def overlayMovesSpec : ChangeSpec := { name := "overlayMoves", fn := fun _ => fun
  | [d1, d2, d3, d4] => { results := [.lit (.bool true)], args := [d1, d2, d3, d4] }
  | _ => none }
def overlayMovesRow : OpenClaim := { program := "ytigfbpbnohkokaagreat", sum := "35a4cd5ab35e7ad70a6f3a1b6e22696a7a178090f922c14d357db241fffd41da", func := "valise/valiselaw19.OverlayMoves", spec := "overlayMoves", inPlace := ["internal/bytealg.IndexByteString", "internal/bytealg.IndexString", "internal/abi.NoEscape", "internal/bytealg.MakeNoZero"], unfollowed := true, recurses := true, named := ["internal/bytealg.MaxLen"], apart := false }
def OverlayMovesSaid : Prop := overlayMovesRow.holds Tryz.pinned (OpenSpec.ofChange overlayMovesSpec)

/-- ITS FALSE NEIGHBOUR: 'it returns false'. Refute it at one input. -/
def overlayMovesWrong : ChangeSpec := { name := "overlayMoves", fn := fun _ => fun
  | [d1, d2, d3, d4] => { results := [.lit (.bool false)], args := [d1, d2, d3, d4] }
  | _ => none }
def OverlayMovesWrongFalsely : Prop := overlayMovesRow.holds Tryz.pinned (OpenSpec.ofChange overlayMovesWrong)

/-- 'valiselaw19.OverlayApart': WHATEVER THE INPUT: true; the input reads as it did. -/
def overlayApartSpec : ChangeSpec := { name := "overlayApart", fn := fun _ => fun
  | [d1, d2, d3] => { results := [.lit (.bool true)], args := [d1, d2, d3] }
  | _ => none }
def overlayApartRow : OpenClaim := { program := "ytigfbpbnohkokaagreat", sum := "35a4cd5ab35e7ad70a6f3a1b6e22696a7a178090f922c14d357db241fffd41da", func := "valise/valiselaw19.OverlayApart", spec := "overlayApart", inPlace := ["internal/bytealg.IndexByteString", "internal/bytealg.IndexString", "internal/abi.NoEscape", "internal/bytealg.MakeNoZero"], unfollowed := true, recurses := true, named := ["internal/bytealg.MaxLen"], apart := false }
def OverlayApartSaid : Prop := overlayApartRow.holds Tryz.pinned (OpenSpec.ofChange overlayApartSpec)

/-- ITS FALSE NEIGHBOUR: 'it returns false'. Refute it at one input. -/
def overlayApartWrong : ChangeSpec := { name := "overlayApart", fn := fun _ => fun
  | [d1, d2, d3] => { results := [.lit (.bool false)], args := [d1, d2, d3] }
  | _ => none }
def OverlayApartWrongFalsely : Prop := overlayApartRow.holds Tryz.pinned (OpenSpec.ofChange overlayApartWrong)

/-- 'valiselaw19.OverlayPlays': WHATEVER THE INPUT: true; the input reads as it did. -/
def overlayPlaysSpec : ChangeSpec := { name := "overlayPlays", fn := fun _ => fun
  | [d1, d2] => { results := [.lit (.bool true)], args := [d1, d2] }
  | _ => none }
def overlayPlaysRow : OpenClaim := { program := "ytigfbpbnohkokaagreat", sum := "35a4cd5ab35e7ad70a6f3a1b6e22696a7a178090f922c14d357db241fffd41da", func := "valise/valiselaw19.OverlayPlays", spec := "overlayPlays", inPlace := ["internal/bytealg.IndexByteString", "internal/bytealg.IndexString", "internal/abi.NoEscape", "internal/bytealg.MakeNoZero"], unfollowed := true, recurses := true, named := ["internal/bytealg.MaxLen"], apart := false }
def OverlayPlaysSaid : Prop := overlayPlaysRow.holds Tryz.pinned (OpenSpec.ofChange overlayPlaysSpec)

/-- ITS FALSE NEIGHBOUR: 'it returns false'. Refute it at one input. -/
def overlayPlaysWrong : ChangeSpec := { name := "overlayPlays", fn := fun _ => fun
  | [d1, d2] => { results := [.lit (.bool false)], args := [d1, d2] }
  | _ => none }
def OverlayPlaysWrongFalsely : Prop := overlayPlaysRow.holds Tryz.pinned (OpenSpec.ofChange overlayPlaysWrong)

/-- 'valiselaw19.OverlayNil': WHATEVER THE INPUT: true; the input reads as it did. -/
def overlayNilSpec : ChangeSpec := { name := "overlayNil", fn := fun _ => fun
  | [d1, d2, d3] => { results := [.lit (.bool true)], args := [d1, d2, d3] }
  | _ => none }
def overlayNilRow : OpenClaim := { program := "ytigfbpbnohkokaagreat", sum := "35a4cd5ab35e7ad70a6f3a1b6e22696a7a178090f922c14d357db241fffd41da", func := "valise/valiselaw19.OverlayNil", spec := "overlayNil", inPlace := ["internal/bytealg.IndexByteString", "internal/bytealg.IndexString", "internal/abi.NoEscape", "internal/bytealg.MakeNoZero"], unfollowed := true, recurses := true, named := ["internal/bytealg.MaxLen"], apart := false }
def OverlayNilSaid : Prop := overlayNilRow.holds Tryz.pinned (OpenSpec.ofChange overlayNilSpec)

/-- ITS FALSE NEIGHBOUR: 'it returns false'. Refute it at one input. -/
def overlayNilWrong : ChangeSpec := { name := "overlayNil", fn := fun _ => fun
  | [d1, d2, d3] => { results := [.lit (.bool false)], args := [d1, d2, d3] }
  | _ => none }
def OverlayNilWrongFalsely : Prop := overlayNilRow.holds Tryz.pinned (OpenSpec.ofChange overlayNilWrong)

/- THE SECOND FORM. 'bulk': how many values and letters a reading holds, each counted each time it is reached (what is shared counts as often as it is met; a slice's spare places count too). A statement '..UptoSaid' is the law's where the arguments, and the package variables that the reading takes, are together of bulk at most 1048576: NARROWER than '..Said'. Prove '..Said' where nothing that the law and all that it calls make is longer than what came in: it says more and counts as full. Else prove '..UptoSaid'. A law counts once. -/
mutual
def uptoBulk {H : Type} : DataW H → Nat
  | .lit (.string bytes) => bytes.length + 1
  | .lit _ => 1
  | .nil => 1
  | .ptr d => uptoBulk d + 1
  | .slice elems spare => uptoBulkAll elems + uptoBulkAll spare + 1
  | .agg parts => uptoBulkAll parts + 1
  | .iface _ d => uptoBulk d + 1
  | .map entries => uptoBulkEntries entries + 1
  | .held _ => 1
def uptoBulkAll {H : Type} : List (DataW H) → Nat
  | [] => 0
  | d :: r => uptoBulk d + uptoBulkAll r
def uptoBulkEntries {H : Type} : List (Lit × DataW H) → Nat
  | [] => 0
  | x :: r => uptoBulkEntry x + uptoBulkEntries r
def uptoBulkEntry {H : Type} : Lit × DataW H → Nat
  | (.string bytes, d) => bytes.length + uptoBulk d + 1
  | (_, d) => uptoBulk d + 1
 end
def uptoSmall : (H : Type) → List (DataW H) → Bool := fun _ ds => decide (uptoBulkAll ds ≤ 1048576)
def OpenSpec.upto (s : _root_.Go.ChangeSpec) : _root_.Go.OpenSpec := { _root_.Go.OpenSpec.ofChange s with cond := some uptoSmall }

/-- 'valiselaw19.OverlayNews', WHERE WHAT IT READS IS OF BULK AT MOST 1048576: true; the input reads as it did. -/
def overlayNewsUptoRow : OpenClaim := { program := "ytigfbpbnohkokaagreat", sum := "35a4cd5ab35e7ad70a6f3a1b6e22696a7a178090f922c14d357db241fffd41da", func := "valise/valiselaw19.OverlayNews", spec := "overlayNews", inPlace := ["internal/bytealg.IndexByteString", "internal/bytealg.IndexString", "internal/abi.NoEscape", "internal/bytealg.MakeNoZero"], unfollowed := true, recurses := true, named := ["internal/bytealg.MaxLen"], apart := false, narrowed := true }
def OverlayNewsUptoSaid : Prop := overlayNewsUptoRow.holds Tryz.pinned (OpenSpec.upto overlayNewsSpec)

/-- 'valiselaw19.OverlayBytes', WHERE WHAT IT READS IS OF BULK AT MOST 1048576: true; the input reads as it did. -/
def overlayBytesUptoRow : OpenClaim := { program := "ytigfbpbnohkokaagreat", sum := "35a4cd5ab35e7ad70a6f3a1b6e22696a7a178090f922c14d357db241fffd41da", func := "valise/valiselaw19.OverlayBytes", spec := "overlayBytes", inPlace := ["internal/bytealg.IndexByteString", "internal/bytealg.IndexString", "internal/abi.NoEscape", "internal/bytealg.MakeNoZero"], unfollowed := true, recurses := true, named := ["internal/bytealg.MaxLen"], apart := false, narrowed := true }
def OverlayBytesUptoSaid : Prop := overlayBytesUptoRow.holds Tryz.pinned (OpenSpec.upto overlayBytesSpec)

/-- 'valiselaw19.OverlayRefuses', WHERE WHAT IT READS IS OF BULK AT MOST 1048576: true; the input reads as it did. -/
def overlayRefusesUptoRow : OpenClaim := { program := "ytigfbpbnohkokaagreat", sum := "35a4cd5ab35e7ad70a6f3a1b6e22696a7a178090f922c14d357db241fffd41da", func := "valise/valiselaw19.OverlayRefuses", spec := "overlayRefuses", inPlace := ["internal/bytealg.IndexByteString", "internal/bytealg.IndexString", "internal/abi.NoEscape", "internal/bytealg.MakeNoZero"], unfollowed := true, recurses := true, named := ["internal/bytealg.MaxLen"], apart := false, narrowed := true }
def OverlayRefusesUptoSaid : Prop := overlayRefusesUptoRow.holds Tryz.pinned (OpenSpec.upto overlayRefusesSpec)

/-- 'valiselaw19.OverlayQuota', WHERE WHAT IT READS IS OF BULK AT MOST 1048576: true; the input reads as it did. -/
def overlayQuotaUptoRow : OpenClaim := { program := "ytigfbpbnohkokaagreat", sum := "35a4cd5ab35e7ad70a6f3a1b6e22696a7a178090f922c14d357db241fffd41da", func := "valise/valiselaw19.OverlayQuota", spec := "overlayQuota", inPlace := ["internal/bytealg.IndexByteString", "internal/bytealg.IndexString", "internal/abi.NoEscape", "internal/bytealg.MakeNoZero"], unfollowed := true, recurses := true, named := ["internal/bytealg.MaxLen"], apart := false, narrowed := true }
def OverlayQuotaUptoSaid : Prop := overlayQuotaUptoRow.holds Tryz.pinned (OpenSpec.upto overlayQuotaSpec)

/-- 'valiselaw19.OverlayMoves', WHERE WHAT IT READS IS OF BULK AT MOST 1048576: true; the input reads as it did. -/
def overlayMovesUptoRow : OpenClaim := { program := "ytigfbpbnohkokaagreat", sum := "35a4cd5ab35e7ad70a6f3a1b6e22696a7a178090f922c14d357db241fffd41da", func := "valise/valiselaw19.OverlayMoves", spec := "overlayMoves", inPlace := ["internal/bytealg.IndexByteString", "internal/bytealg.IndexString", "internal/abi.NoEscape", "internal/bytealg.MakeNoZero"], unfollowed := true, recurses := true, named := ["internal/bytealg.MaxLen"], apart := false, narrowed := true }
def OverlayMovesUptoSaid : Prop := overlayMovesUptoRow.holds Tryz.pinned (OpenSpec.upto overlayMovesSpec)

/-- 'valiselaw19.OverlayApart', WHERE WHAT IT READS IS OF BULK AT MOST 1048576: true; the input reads as it did. -/
def overlayApartUptoRow : OpenClaim := { program := "ytigfbpbnohkokaagreat", sum := "35a4cd5ab35e7ad70a6f3a1b6e22696a7a178090f922c14d357db241fffd41da", func := "valise/valiselaw19.OverlayApart", spec := "overlayApart", inPlace := ["internal/bytealg.IndexByteString", "internal/bytealg.IndexString", "internal/abi.NoEscape", "internal/bytealg.MakeNoZero"], unfollowed := true, recurses := true, named := ["internal/bytealg.MaxLen"], apart := false, narrowed := true }
def OverlayApartUptoSaid : Prop := overlayApartUptoRow.holds Tryz.pinned (OpenSpec.upto overlayApartSpec)

/-- 'valiselaw19.OverlayPlays', WHERE WHAT IT READS IS OF BULK AT MOST 1048576: true; the input reads as it did. -/
def overlayPlaysUptoRow : OpenClaim := { program := "ytigfbpbnohkokaagreat", sum := "35a4cd5ab35e7ad70a6f3a1b6e22696a7a178090f922c14d357db241fffd41da", func := "valise/valiselaw19.OverlayPlays", spec := "overlayPlays", inPlace := ["internal/bytealg.IndexByteString", "internal/bytealg.IndexString", "internal/abi.NoEscape", "internal/bytealg.MakeNoZero"], unfollowed := true, recurses := true, named := ["internal/bytealg.MaxLen"], apart := false, narrowed := true }
def OverlayPlaysUptoSaid : Prop := overlayPlaysUptoRow.holds Tryz.pinned (OpenSpec.upto overlayPlaysSpec)

/-- 'valiselaw19.OverlayNil', WHERE WHAT IT READS IS OF BULK AT MOST 1048576: true; the input reads as it did. -/
def overlayNilUptoRow : OpenClaim := { program := "ytigfbpbnohkokaagreat", sum := "35a4cd5ab35e7ad70a6f3a1b6e22696a7a178090f922c14d357db241fffd41da", func := "valise/valiselaw19.OverlayNil", spec := "overlayNil", inPlace := ["internal/bytealg.IndexByteString", "internal/bytealg.IndexString", "internal/abi.NoEscape", "internal/bytealg.MakeNoZero"], unfollowed := true, recurses := true, named := ["internal/bytealg.MaxLen"], apart := false, narrowed := true }
def OverlayNilUptoSaid : Prop := overlayNilUptoRow.holds Tryz.pinned (OpenSpec.upto overlayNilSpec)

end Rows
end Go.Proofs.YtigfbpbnohkokaaGreat
