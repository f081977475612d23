/-
  Keys, as cells; small facts.
-/
import Derived.Test.YtbbccdcjhoecpaaC4
namespace Go.Proofs.Ytbbccdcjhoecpaa
open Go Go.Fw Go.RowKit Go.Proofs
set_option linter.unusedVariables false
set_option linter.unusedSimpArgs false

def keyCells (L : List Nd) : List Value := L.flatMap fun n => [.string n.f, .int .i64 n.i]
theorem keyCells_app (A B : List Nd) : keyCells (A ++ B) = keyCells A ++ keyCells B := by simp [keyCells]
theorem keyCells_one (L : List Nd) : ∀ u ∈ keyCells L, u.oneCell' = true := by
  intro u hu
  simp only [keyCells, List.mem_flatMap] at hu
  obtain ⟨n, _, hu⟩ := hu
  simp at hu
  rcases hu with rfl | rfl <;> rfl
theorem keyCells_len (L : List Nd) : (keyCells L).length = L.length * 2 := by
  induction L with
  | nil => rfl
  | cons n L ih => simp [keyCells] at ih ⊢; omega

/-- Those that do not stand in a file. -/
def notIn (L : List Nd) (f : ByteArray) : List Nd := L.filter fun n => n.f ≠ f

theorem fp_sub {c e r : Nat} {L L' : List Nd} (h : ∀ n ∈ L', n ∈ L) : ∀ x ∈ fp c e r L', x ∈ fp c e r L := by
  intro x hx
  simp only [fp, List.mem_cons, List.mem_append] at hx ⊢
  rcases hx with hx | hx | hx | hx | hx
  · exact .inl hx
  · exact .inr (.inl hx)
  · exact .inr (.inr (.inl hx))
  · obtain ⟨n, hn, rfl⟩ := List.mem_map.1 hx
    exact .inr (.inr (.inr (.inl (mem_ids (h n hn)))))
  · obtain ⟨n, hn, h2⟩ := List.mem_filterMap.1 hx
    exact .inr (.inr (.inr (.inr (mem_blks (h n hn) h2))))

theorem lstI_snoc : ∀ (A : List Nat) (x e : Nat), lstI (A ++ [x]) e = x
  | [], _, _ => rfl
  | [_], _, _ => rfl
  | _ :: b :: A, x, e => lstI_snoc (b :: A) x e
theorem lstI_rev (A : List Nat) (e : Nat) : lstI A e = hdI A.reverse e := by
  rcases List.eq_nil_or_concat A with rfl | ⟨A, x, rfl⟩
  · rfl
  · simp [lstI_snoc, hdI]
end Go.Proofs.Ytbbccdcjhoecpaa
