/-
  The document's examples: what the cache has.
-/
import Derived.Test.YtbbccdcjhoecpaaM2
import Derived.Test.YtbbccdcjhoecpaaW11
namespace Go.Proofs.Ytbbccdcjhoecpaa
open Go Go.Fw Go.RowKit Go.Proofs
set_option linter.unusedVariables false
set_option linter.unusedSimpArgs false

def kA (i : Int) : Key := (⟨#[97]⟩, i)
def kB : Key := (⟨#[98]⟩, 0)
def kC : Key := (⟨#[99]⟩, 0)
abbrev zs (n : Nat) : List UInt8 := List.replicate n 0

theorem lp1 : putM 10 [] (kA 0) (zs 4) = ([(kA 0, zs 4, 0)], 0) := by kernel_rfl
theorem lp2 : putM 10 [(kA 0, zs 4, 0)] (kA 1) (zs 4) = ([(kA 1, zs 4, 0), (kA 0, zs 4, 0)], 0) := by kernel_rfl
theorem lg1 : getM [(kA 1, zs 4, 0), (kA 0, zs 4, 0)] (kA 0) = ([(kA 0, zs 4, 0), (kA 1, zs 4, 0)], some (zs 4)) := by kernel_rfl
theorem lp3 : putM 10 [(kA 0, zs 4, 0), (kA 1, zs 4, 0)] kB (zs 4) = ([(kB, zs 4, 0), (kA 0, zs 4, 0)], 0) := by kernel_rfl
theorem lg2 : getM [(kB, zs 4, 0), (kA 0, zs 4, 0)] (kA 1) = ([(kB, zs 4, 0), (kA 0, zs 4, 0)], none) := by kernel_rfl
theorem ln1 : pinM [(kB, zs 4, 0), (kA 0, zs 4, 0)] (kA 0) 1 = ([(kB, zs 4, 0), (kA 0, zs 4, 1)], 0) := by kernel_rfl
theorem lp4 : putM 10 [(kB, zs 4, 0), (kA 0, zs 4, 1)] kC (zs 7) = ([(kB, zs 4, 0), (kA 0, zs 4, 1)], 7) := by kernel_rfl
theorem lp5 : putM 10 [(kB, zs 4, 0), (kA 0, zs 4, 1)] kC (zs 6) = ([(kC, zs 6, 0), (kA 0, zs 4, 1)], 0) := by kernel_rfl
theorem ls1 : totM [(kC, zs 6, 0), (kA 0, zs 4, 1)] = 10 := by kernel_rfl

theorem bytes_made {w : World} {b n : Nat} {T : TypeId} {fr : Nat × Nat} (h : w.heap[b]? = some (.cells (List.replicate n (.int .u8 0)).toArray T fr)) : BytesAt w (.slice (some ⟨b, 0, none⟩) n n) (List.replicate n 0) := by
  refine .inr ⟨b, 0, n, _, T, fr, by simp, by simp, h, ?_, by simp⟩
  simp [byteV]

section
variable {w0 w w1 : World} {L : List (Nat × Obj)} {c : Nat} {bud : Int} {M M' : List Blk} {q : Int}
theorem CS.opPut' (h : CS w0 L c bud M w) {k : Key} {sv : Value} {b : List UInt8} (he : putM bud M k b = (M', q)) (hb : BytesIn w sv b) (hblk : b ≠ [] → ∀ g, blkOf sv = some g → g < w0.heap.size ∨ g ∈ L.map (·.1)) (hlen : b.length ≤ 1099511627776) :
    Ret Try.prog 10 #[ptr c, encK k, sv] w fun v w' => v = .int .i64 q ∧ CS w0 L c bud M' w' := by
  have := h.opPut (k := k) hb hblk hlen
  rw [he] at this; exact this
theorem CS.opPin' (h : CS w0 L c bud M w) {k : Key} (he : pinM M k 1 = (M', q)) (hp : ∀ m ∈ M, m.2.2 < 1000000000) : Ret Try.prog 20 #[ptr c, encK k] w fun v w' => v = .int .i64 q ∧ CS w0 L c bud M' w' := by
  have := h.opPin k hp
  rw [he] at this; exact this
theorem CS.opGetS (h : CS w0 L c bud M w) {k : Key} {b : List UInt8} (he : getM M k = (M', some b)) : Ret Try.prog 16 #[ptr c, encK k] w fun v w' => CS w0 L c bud M' w' ∧ ∃ sv, v = .tuple #[sv, .bool true] ∧ BytesAt w' sv b ∧ b.length ≤ 4096 ∧ ∀ g, blkOf sv = some g → w.heap.size ≤ g ∧ ∀ o, w'.heap[g]? = some o → CS w0 (L ++ [(g, o)]) c bud M' w' := by
  have := h.opGet k
  rw [he] at this; exact this
theorem CS.opGetN (h : CS w0 L c bud M w) {k : Key} (he : getM M k = (M', none)) : Ret Try.prog 16 #[ptr c, encK k] w fun v w' => CS w0 L c bud M' w' ∧ v = .tuple #[.slice none 0 0, .bool false] := by
  have := h.opGet k
  rw [he] at this; exact this
theorem CS.opSize' (h : CS w0 L c bud M w) (he : totM M = q) : Ret Try.prog 15 #[ptr c] w fun v w' => v = .int .i64 q ∧ w = w' := by
  have := h.opSize
  rw [he] at this; exact this
end
end Go.Proofs.Ytbbccdcjhoecpaa
