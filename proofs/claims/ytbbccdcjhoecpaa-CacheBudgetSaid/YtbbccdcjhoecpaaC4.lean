/-
  A cache in memory: New, and more of how it turns.
-/
import Derived.Test.YtbbccdcjhoecpaaC3
namespace Go.Proofs.Ytbbccdcjhoecpaa
open Go Go.Fw Go.RowKit Go.Proofs
set_option linter.unusedVariables false
set_option linter.unusedSimpArgs false

theorem CAt.made {w : World} {c e r : Nat} {bud : Int} {o : Obj} (hc : w.heap[c]? = some (.cells [.int .i64 bud, .int .i64 0, ptr e, .map (some r)].toArray 63 (0, 0)))
    (he : w.heap[e]? = some (endO e e)) (hr : w.heap[r]? = some o) (ho : o = .map #[] 0) (h1 : c ≠ e) (h2 : c ≠ r) (h3 : e ≠ r) : CAt w c e r bud [] := by
  subst ho
  refine ⟨hc, ⟨fun _ => e, fun _ => e, he, by simp, ?_, by simp [ids]⟩, ⟨_, _, hr, MapF.made, by simp⟩, by simp, ?_, by simp, by simp, by simp [tot]⟩
  · simp [ids, linked]
  · simp [fp, ids, blks, h1, h2, h3]

/-- Pins of a node turned. -/
theorem ids_mid (A B : List Nd) (l l' : Nd) (h : l.id = l'.id) : ids (A ++ l :: B) = ids (A ++ l' :: B) := by simp [ids, h]

theorem CAt.pinned {w w' : World} {c e r : Nat} {bud : Int} {A B : List Nd} {l : Nd} {q : Int} {a b : Nat} (h : CAt w c e r bud (A ++ l :: B))
    (hl : w.heap[l.id]? = some (nodeO l a b)) (hw : w'.heap[l.id]? = some (nodeO { l with pins := q } a b)) (hs : ∀ x, x ≠ l.id → w'.heap[x]? = w.heap[x]?) : CAt w' c e r bud (A ++ { l with pins := q } :: B) := by
  obtain ⟨ah, nx, hr⟩ := h.ring
  have hids : ids (A ++ { l with pins := q } :: B) = ids (A ++ l :: B) := by simp [ids]
  have hblk : blks (A ++ { l with pins := q } :: B) = blks (A ++ l :: B) := by simp only [blks, List.filterMap_append, List.filterMap_cons]
  have htot : tot (A ++ { l with pins := q } :: B) = tot (A ++ l :: B) := by simp [tot]
  have hkey : (A ++ { l with pins := q } :: B).map Nd.key = (A ++ l :: B).map Nd.key := by simp [Nd.key]
  have hnd := hr.nd
  have hfp : ∀ x ∈ fp c e r (A ++ l :: B), x = l.id → x ∈ ids (A ++ l :: B) := fun x _ hx => by rw [hx]; exact mem_ids (by simp)
  have hf := fp_facts h.nd
  have hlm : l.id ∈ ids (A ++ l :: B) := mem_ids (by simp)
  have hab : ah l.id = a ∧ nx l.id = b := by
    have := hr.node l (by simp)
    rw [hl] at this
    simp [nodeO, ptr] at this
    exact ⟨this.1.symm, this.2.symm⟩
  refine ⟨?_, ⟨ah, nx, ?_, ?_, by rw [hids]; exact hr.link, by rw [hids]; exact hr.nd⟩, ?_, ?_, ?_, by rw [hkey]; exact h.keys, ?_, by rw [htot]; exact h.sz⟩
  · rw [hs c (fun e1 => hf.2.2.2.1 (e1 ▸ hlm)), htot]; exact h.hc
  · rw [hs e (fun e1 => hf.2.2.2.2.2.1 (e1 ▸ hlm))]; exact hr.endb
  · intro n hn
    simp only [List.mem_append, List.mem_cons] at hn
    have old : n ∈ A ++ l :: B → n.id ≠ l.id → w'.heap[n.id]? = some (nodeO n (ah n.id) (nx n.id)) := fun h1 h2 => by rw [hs n.id h2]; exact hr.node n h1
    have hndi := hf.2.2.2.2.2.2.2.2.2.1
    rw [ids_app] at hndi
    rw [List.nodup_append] at hndi
    rcases hn with hn | rfl | hn
    · exact old (by simp [hn]) (fun e1 => hndi.2.2 n.id (mem_ids hn) l.id (by simp [ids]) e1)
    · simp only; rw [hw, hab.1, hab.2]
    · refine old (by simp [hn]) (fun e1 => ?_)
      have := hndi.2.1
      simp only [ids, List.map_cons, List.nodup_cons] at this
      exact this.1 (e1 ▸ mem_ids hn)
  · obtain ⟨o, g, ho, hg, hm⟩ := h.mp
    refine ⟨o, g, by rw [hs r (fun e1 => hf.2.2.2.2.2.2.2.1 (e1 ▸ hlm))]; exact ho, hg, fun k v => (hm k v).trans ?_⟩
    constructor
    · rintro ⟨n, hn, h1, h2⟩
      simp only [List.mem_append, List.mem_cons] at hn
      rcases hn with hn | hn | hn
      · exact ⟨n, by simp [hn], h1, h2⟩
      · exact ⟨{ l with pins := q }, by simp, by rw [← h1, hn], by rw [h2, hn]⟩
      · exact ⟨n, by simp [hn], h1, h2⟩
    · rintro ⟨n, hn, h1, h2⟩
      simp only [List.mem_append, List.mem_cons] at hn
      rcases hn with hn | hn | hn
      · exact ⟨n, by simp [hn], h1, h2⟩
      · exact ⟨l, by simp, by rw [← h1, hn], by rw [h2, hn]⟩
      · exact ⟨n, by simp [hn], h1, h2⟩
  · intro n hn
    simp only [List.mem_append, List.mem_cons] at hn
    have old : n ∈ A ++ l :: B → BytesAt w' n.sv n.b := fun h1 => (h.bs n h1).same fun x hx => hs x (fun e1 => hf.2.2.2.2.2.2.2.2.2.2.2 l.id hlm (e1 ▸ mem_blks h1 hx))
    rcases hn with hn | rfl | hn
    · exact old (by simp [hn])
    · exact (h.bs l (by simp)).same fun x hx => hs x (fun e1 => hf.2.2.2.2.2.2.2.2.2.2.2 l.id hlm (e1 ▸ mem_blks (n := l) (by simp) hx))
    · exact old (by simp [hn])
  · unfold fp; rw [hids, hblk]; exact h.nd
  · intro n hn
    simp only [List.mem_append, List.mem_cons] at hn
    rcases hn with hn | rfl | hn
    · exact h.len n (by simp [hn])
    · exact h.len l (by simp)
    · exact h.len n (by simp [hn])
end Go.Proofs.Ytbbccdcjhoecpaa
