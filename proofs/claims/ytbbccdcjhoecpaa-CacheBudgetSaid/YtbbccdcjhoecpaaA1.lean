/-
  Calls, as they are given to the laws.
-/
import Derived.Test.YtbbccdcjhoecpaaL1
namespace Go.Proofs.Ytbbccdcjhoecpaa
open Go Go.Fw Go.RowKit Go.Proofs
set_option linter.unusedVariables false
set_option linter.unusedSimpArgs false

structure Ac where
  kind : Int
  k : Key
  sv : Value
  b : List UInt8

def Ac.cells (a : Ac) : List Value := [.int .i64 a.kind, .string a.k.1, .int .i64 a.k.2, a.sv]

def ActsIn (w : World) (v : Value) (A : List Ac) : Prop := ∃ p cap, v = .slice p A.length cap ∧ A.length ≤ 9223372036854775807 ∧ ∀ i a, A[i]? = some a → ∃ b off, p = some ⟨b, off, none⟩ ∧ b < w.heap.size ∧ RowAt w b (off + i * 4) a.cells ∧ BytesIn w a.sv a.b

theorem BytesIn.lt {w : World} {sv : Value} {b : List UInt8} (h : BytesIn w sv b) (hne : b ≠ []) {g : Nat} (hg : blkOf sv = some g) : g < w.heap.size := by
  rcases h with ⟨h1, _⟩ | ⟨_, h2⟩
  · exact absurd h1 hne
  · exact h2.lt g hg

theorem rowAt_keep {w w1 : World} {b off : Nat} {l : List Value} (h : RowAt w b off l) (hs : w1.heap[b]? = w.heap[b]?) : RowAt w1 b off l := by
  obtain ⟨cs, T, fr, h1, h2⟩ := h
  exact ⟨cs, T, fr, by rw [hs]; exact h1, h2⟩

theorem BytesIn.new {w w1 : World} {sv : Value} {b : List UInt8} (h : BytesIn w sv b) (hn : New w w1) : BytesIn w1 sv b := h.keep fun _ g _ hlt => hn.old g hlt id

theorem ActsIn.new {w w1 : World} {v : Value} {A : List Ac} (h : ActsIn w v A) (hn : New w w1) : ActsIn w1 v A := by
  obtain ⟨p, cap, h1, h0, h2⟩ := h
  refine ⟨p, cap, h1, h0, fun i a ha => ?_⟩
  obtain ⟨b, off, h3, h4, h5, h6⟩ := h2 i a ha
  exact ⟨b, off, h3, Nat.lt_of_lt_of_le h4 hn.size, rowAt_keep h5 (hn.old b h4 id), h6.new hn⟩

def fewA (A : List Ac) : Prop := A.length ≤ 60 ∧ ∀ a ∈ A, a.b.length ≤ 5000 ∧ a.k.1.size ≤ 100
instance (A : List Ac) : Decidable (fewA A) := by unfold fewA; infer_instance

def doM (bud : Int) (M : List Blk) (a : Ac) : List Blk :=
  if a.kind = 1 then (putM bud M a.k a.b).1 else if a.kind = 2 then (pinM M a.k 1).1 else if a.kind = 3 then (pinM M a.k (-1)).1 else if a.kind = 4 then dropM M a.k.1 else (getM M a.k).1

theorem CS.last {w0 w : World} {L : List (Nat × Obj)} {c : Nat} {bud : Int} {M : List Blk} {b : Nat} {o : Obj} (h : CS w0 (L ++ [(b, o)]) c bud M w) : w.heap[b]? = some o := h.at_ L.length (by simp)
theorem CS.init {w0 w : World} {L : List (Nat × Obj)} {c : Nat} {bud : Int} {M : List Blk} {x : Nat × Obj} (h : CS w0 (L ++ [x]) c bud M w) : CS w0 L c bud M w := h.sub (List.sublist_append_left _ _)

theorem row_cell {w : World} {b off : Nat} {l : List Value} (h : RowAt w b off l) {j : Nat} {u : Value} (hj : l[j]? = some u) : w.cell? ⟨b, off + j, none⟩ = some u := by
  obtain ⟨cs, T, fr, h1, h2⟩ := h
  have hlt : j < l.length := (List.getElem?_eq_some_iff.1 hj).1
  rw [← h2, List.getElem?_take, if_pos hlt, List.getElem?_drop] at hj
  simp only [World.cell?, h1]
  simpa using hj
end Go.Proofs.Ytbbccdcjhoecpaa
