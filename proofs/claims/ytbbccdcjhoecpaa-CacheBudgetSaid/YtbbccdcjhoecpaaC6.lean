/-
  A cache and blocks of one's own beside it.
-/
import Derived.Test.YtbbccdcjhoecpaaC5
import Derived.Test.YtbbccdcjhoecpaaFwH
namespace Go.Proofs.Ytbbccdcjhoecpaa
open Go Go.Fw Go.RowKit Go.Proofs
set_option linter.unusedVariables false
set_option linter.unusedSimpArgs false

theorem CAt.put {w w1 : World} {c e r : Nat} {bud : Int} {L : List Nd} {b : Nat} {o : Obj} (h : CAt w c e r bud L) (hb : b ∉ fp c e r L) (hw : w1 = w.putObj b o) : CAt w1 c e r bud L :=
  h.same fun x hx => hp_put hw (fun e1 => hb (e1 ▸ hx))
theorem CAt.drw {w w1 : World} {c e r : Nat} {bud : Int} {L : List Nd} (h : CAt w c e r bud L) (hw : w1 = w.drew) : CAt w1 c e r bud L := h.same fun x _ => hp_drew hw x
theorem CAt.alc {w w1 : World} {c e r : Nat} {bud : Int} {L : List Nd} {o : Obj} (h : CAt w c e r bud L) (hw : w1 = w.alloc o) : CAt w1 c e r bud L := h.new (Frm.alc hw)

theorem notIn_app (A B : List Nd) (f : ByteArray) : notIn (A ++ B) f = notIn A f ++ notIn B f := by simp [notIn]
theorem notIn_mem {L : List Nd} {f : ByteArray} {n : Nd} (h : n ∈ notIn L f) : n ∈ L := (List.mem_filter.1 h).1
theorem notIn_len (L : List Nd) (f : ByteArray) : (notIn L f).length ≤ L.length := List.length_filter_le _ _
theorem ids_nil {L : List Nd} (h : ([] : List Nat) = ids L) : L = [] := by cases L with | nil => rfl | cons a b => cases h
theorem ids_cons {L : List Nd} {x : Nat} {r : List Nat} (h : x :: r = ids L) : ∃ n L', L = n :: L' ∧ x = n.id ∧ r = ids L' := by
  cases L with | nil => cases h | cons a b => cases h; exact ⟨a, b, rfl, rfl, rfl⟩

/-- What the loops over the ring ask for. -/
theorem CAt.stepF {w : World} {c e r : Nat} {bud : Int} {A R : List Nd} (h : CAt w c e r bud (A ++ R)) : OkBlk w e ∧ ∀ x r2, ids R = x :: r2 → x ≠ e ∧ OkBlk w x ∧ w.cell? ⟨x, 5, none⟩ = some (ptr (hdI r2 e)) := by
  refine ⟨okBlk_end h.ring.end_at, fun x r2 hx => ?_⟩
  obtain ⟨n, R', rfl, rfl, rfl⟩ := ids_cons hx.symm
  obtain ⟨g1, g2⟩ := h.ring.node_at
  exact ⟨g2, okBlk_node g1, cell_of g1 rfl⟩

theorem ids_rev (P : List Nd) : ids P.reverse = (ids P).reverse := by simp [ids]

theorem CAt.stepB {w : World} {c e r : Nat} {bud : Int} {P K : List Nd} (h : CAt w c e r bud (P.reverse ++ K)) : OkBlk w e ∧ ∀ x r2, ids P = x :: r2 → x ≠ e ∧ OkBlk w x ∧ w.cell? ⟨x, 4, none⟩ = some (ptr (hdI r2 e)) := by
  refine ⟨okBlk_end h.ring.end_at, fun x r2 hx => ?_⟩
  obtain ⟨n, P', rfl, rfl, rfl⟩ := ids_cons hx.symm
  rw [List.reverse_cons, List.append_assoc] at h
  obtain ⟨g1, g2⟩ := Ring.node_at (A := P'.reverse) (l := n) (B := K) h.ring
  refine ⟨g2, okBlk_node g1, cell_of g1 ?_⟩
  rw [lstI_rev, ids_rev, List.reverse_reverse]
  rfl
end Go.Proofs.Ytbbccdcjhoecpaa
