/-
  A cache in memory: how it turns.
-/
import Derived.Test.YtbbccdcjhoecpaaC2
namespace Go.Proofs.Ytbbccdcjhoecpaa
open Go Go.Fw Go.RowKit Go.Proofs
set_option linter.unusedVariables false
set_option linter.unusedSimpArgs false

theorem BytesAt.shape {w : World} {sv : Value} {b : List UInt8} (h : BytesAt w sv b) : ∃ p cap, sv = .slice p b.length cap := by
  rcases h with ⟨rfl, h1, _⟩ | ⟨g, off, cap, all, T, fr, rfl, _⟩
  · exact ⟨none, 0, by rw [h1]⟩
  · exact ⟨_, _, rfl⟩

/-- Bytes that are given: where there are none nothing is asked of the block. -/
def BytesIn (w : World) (sv : Value) (b : List UInt8) : Prop := (b = [] ∧ ∃ p cap, sv = .slice p 0 cap) ∨ (b ≠ [] ∧ BytesAt w sv b)

theorem BytesAt.in_ {w : World} {sv : Value} {b : List UInt8} (h : BytesAt w sv b) : BytesIn w sv b := by
  by_cases hb : b = []
  · obtain ⟨p, cap, h1⟩ := h.shape
    exact .inl ⟨hb, p, cap, by rw [h1, hb]; rfl⟩
  · exact .inr ⟨hb, h⟩
theorem BytesIn.shape {w : World} {sv : Value} {b : List UInt8} (h : BytesIn w sv b) : ∃ p cap, sv = .slice p b.length cap := by
  rcases h with ⟨rfl, p, cap, rfl⟩ | ⟨_, h⟩
  · exact ⟨p, cap, rfl⟩
  · exact h.shape
theorem BytesIn.keep {w w1 : World} {sv : Value} {b : List UInt8} (h : BytesIn w sv b) (hs : b ≠ [] → ∀ g, blkOf sv = some g → g < w.heap.size → w1.heap[g]? = w.heap[g]?) : BytesIn w1 sv b := by
  rcases h with h | ⟨h1, h2⟩
  · exact .inl h
  · exact .inr ⟨h1, h2.same fun g hg => hs h1 g hg (h2.lt g hg)⟩
theorem BytesIn.src {w : World} {sv : Value} {b : List UInt8} (h : BytesIn w sv b) : Src Try.prog 1 31 sv b.length (b.map byteV) w := by
  rcases h with ⟨rfl, p, cap, rfl⟩ | ⟨_, h⟩
  · cases p with
    | none => exact Src.ofNil w Try.underlying31 cap
    | some a => exact Src.ofSlice w Try.underlying31 a 0 cap [] (by simp) (fun j u hu => by simp at hu) (by simp)
  · exact h.src Try.underlying31 (byteV_one b)

theorem CAt.lid {w : World} {c e r : Nat} {bud : Int} {A B : List Nd} {l : Nd} (h : CAt w c e r bud (A ++ l :: B)) : l.id ∉ e :: ids (A ++ B) ∧ l.id ≠ c ∧ l.id ≠ r := by
  obtain ⟨h1, h2, h3, h4, h5, h6, h7, h8, h9, h10, h11, h12⟩ := fp_facts ((perm_fp (mid_perm A B l)).nodup_iff.1 h.nd)
  simp only [ids, List.map_cons, List.mem_cons, not_or, List.nodup_cons] at h4 h6 h8 h10
  refine ⟨?_, Ne.symm h4.1, Ne.symm h8.1⟩
  simp only [List.mem_cons, not_or]
  exact ⟨Ne.symm h6.1, h10.1⟩

theorem CAt.tots {w : World} {c e r : Nat} {bud : Int} {A B : List Nd} {l : Nd} (h : CAt w c e r bud (A ++ l :: B)) : IntKind.i64.wrap (tot (A ++ l :: B) - (l.b.length : Int)) = tot (A ++ B) := by
  have h1 := h.sz
  have h2 : tot (A ++ l :: B) = l.b.length + tot (A ++ B) := by rw [perm_tot (mid_perm A B l), tot_cons]
  have h3 : 0 ≤ tot (A ++ B) := (len_le (A ++ B) (fun n hn => h.len n (by simp at hn ⊢; rcases hn with h | h <;> simp [h]))).1
  rw [wrap64_id (by omega) (by omega)]
  omega

theorem Frm.sub {S S' : Nat → Prop} {w w' : World} (h : Frm S w w') (hs : ∀ b, S b → S' b) : Frm S' w w' := (Frm.refl S' w).trans h fun b hb _ => .inl (hs b hb)

/-- One is taken out. -/
theorem CAt.removed {w w' : World} {c e r : Nat} {bud : Int} {A B : List Nd} {l : Nd} {o2 : Obj} {g : Key → Option Value} (h : CAt w c e r bud (A ++ l :: B))
    (hc : w'.heap[c]? = some (.cells [.int .i64 bud, .int .i64 (tot (A ++ B)), ptr e, .map (some r)].toArray 63 (0, 0))) (hr : Ring w' e (A ++ B)) (ho : w'.heap[r]? = some o2) (hm : MapF encK o2 (setF g l.key none))
    (hg : ∀ k v, g k = some v ↔ ∃ n ∈ A ++ l :: B, n.key = k ∧ v = ptr n.id) (hs : ∀ b ∈ blks (A ++ l :: B), w'.heap[b]? = w.heap[b]?) : CAt w' c e r bud (A ++ B) := by
  have hsub : ∀ n ∈ A ++ B, n ∈ A ++ l :: B := fun n hn => by simp at hn ⊢; rcases hn with h | h <;> simp [h]
  have hk := (((mid_perm A B l).map Nd.key).nodup_iff).1 h.keys
  simp only [List.map_cons, List.nodup_cons] at hk
  refine ⟨hc, hr, ⟨o2, _, ho, hm, fun k v => ?_⟩, fun n hn => (h.bs n (hsub n hn)).same fun b hb => hs b (mem_blks (hsub n hn) hb), ?_, hk.2, fun n hn => h.len n (hsub n hn), ?_⟩
  · unfold setF
    by_cases e1 : k = l.key
    · subst e1
      simp only [if_true]
      refine ⟨fun h => by simp at h, fun ⟨n, hn, h1, _⟩ => ?_⟩
      exact absurd (List.mem_map.2 ⟨n, hn, h1⟩) hk.1
    · rw [if_neg e1, hg]
      constructor
      · rintro ⟨n, hn, h1, h2⟩
        refine ⟨n, ?_, h1, h2⟩
        simp at hn ⊢
        rcases hn with hn | rfl | hn
        · exact .inl hn
        · exact absurd h1.symm e1
        · exact .inr hn
      · rintro ⟨n, hn, h1, h2⟩; exact ⟨n, hsub n hn, h1, h2⟩
  · refine h.nd.sublist ?_
    unfold fp
    rw [ids_app, ids_app, blks_app, blks_app]
    refine List.Sublist.cons_cons _ (List.Sublist.cons_cons _ (List.Sublist.cons_cons _ (List.Sublist.append (List.Sublist.append (List.Sublist.refl _) (List.sublist_cons_self _ _)) (List.Sublist.append (List.Sublist.refl _) ?_))))
    unfold blks
    rw [List.filterMap_cons]
    split
    · exact List.Sublist.refl _
    · exact List.sublist_cons_self _ _
  · have h1 := h.sz
    rw [perm_tot (mid_perm A B l), tot_cons] at h1
    omega
end Go.Proofs.Ytbbccdcjhoecpaa
