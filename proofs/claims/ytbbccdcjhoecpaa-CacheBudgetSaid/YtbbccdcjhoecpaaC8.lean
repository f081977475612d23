/-
  Put: where the block stands.
-/
import Derived.Test.YtbbccdcjhoecpaaC7
namespace Go.Proofs.Ytbbccdcjhoecpaa
open Go Go.Fw Go.RowKit Go.Proofs
set_option linter.unusedVariables false
set_option linter.unusedSimpArgs false

/-- Where a key's block stands, or a new one. -/
def PutAt (L : List Nd) (k : Key) (A B : List Nd) (l : Nd) : Prop :=
  (L = A ++ l :: B ∧ l.key = k) ∨ (A = [] ∧ B = L ∧ l.f = k.1 ∧ l.i = k.2 ∧ l.b = [] ∧ l.sv = .slice none 0 0 ∧ l.pins = 0 ∧ ∀ n ∈ L, n.key ≠ k)

theorem PutAt.tot {L A B : List Nd} {k : Key} {l : Nd} (h : PutAt L k A B l) : tot (A ++ l :: B) = tot L := by
  rcases h with ⟨rfl, _⟩ | ⟨rfl, rfl, _, _, h3, _⟩
  · rfl
  · rw [List.nil_append, tot_cons, h3]; simp

theorem PutAt.key {L A B : List Nd} {k : Key} {l : Nd} (h : PutAt L k A B l) : l.key = k := by
  rcases h with ⟨_, h⟩ | ⟨_, _, h1, h2, _⟩
  · exact h
  · exact Prod.ext h1 h2

theorem tot_mid (A B : List Nd) (l : Nd) : Go.Proofs.Ytbbccdcjhoecpaa.tot (A ++ l :: B) = l.b.length + Go.Proofs.Ytbbccdcjhoecpaa.tot (A ++ B) := by rw [perm_tot (mid_perm A B l), tot_cons]

theorem CAt.okNode {w : World} {c e r : Nat} {bud : Int} {L : List Nd} (h : CAt w c e r bud L) {n : Nd} (hn : n ∈ L) : OkBlk w n.id := by
  obtain ⟨ah, nx, hr⟩ := h.ring
  exact okBlk_node (hr.node n hn)

theorem CAt.id_inj {w : World} {c e r : Nat} {bud : Int} {L : List Nd} (h : CAt w c e r bud L) {P K : List Nd} {n : Nd} (hL : L = P ++ n :: K) : ∀ m ∈ P ++ K, m.id ≠ n.id := by
  have hf := (fp_facts h.nd).2.2.2.2.2.2.2.2.2.1
  rw [hL, (perm_ids (mid_perm P K n)).nodup_iff] at hf
  simp only [ids, List.map_cons, List.nodup_cons] at hf
  intro m hm e1
  exact hf.1 (e1 ▸ List.mem_map.2 ⟨m, hm, rfl⟩)

theorem findK_one (L : List Nd) (k : Key) : ((findK L k).getD (.pointer none)).cells = [(findK L k).getD (.pointer none)].toArray ∧ ((findK L k).getD (.pointer none)).oneCell' = true := by
  unfold findK
  cases L.find? fun n => n.key = k <;> exact ⟨rfl, rfl⟩
end Go.Proofs.Ytbbccdcjhoecpaa
