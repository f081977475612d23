/-
  A cache in memory: one more, and other bytes; what Put lets go.
-/
import Derived.Test.YtbbccdcjhoecpaaC6
namespace Go.Proofs.Ytbbccdcjhoecpaa
open Go Go.Fw Go.RowKit Go.Proofs
set_option linter.unusedVariables false
set_option linter.unusedSimpArgs false

theorem CAt.added {w w' : World} {c e r : Nat} {bud : Int} {L : List Nd} {l : Nd} {o2 : Obj} {g : Key → Option Value} (h : CAt w c e r bud L) (hb : l.b = []) (hsv : l.sv = .slice none 0 0) (hid : l.id ∉ fp c e r L) (hk : ∀ n ∈ L, n.key ≠ l.key)
    (hr : Ring w' e (l :: L)) (ho : w'.heap[r]? = some o2) (hm : MapF encK o2 (setF g l.key (some (ptr l.id)))) (hg : ∀ k v, g k = some v ↔ ∃ n ∈ L, n.key = k ∧ v = ptr n.id) (hs : ∀ b, b = c ∨ b ∈ blks L → w'.heap[b]? = w.heap[b]?) : CAt w' c e r bud (l :: L) := by
  have htot : tot (l :: L) = tot L := by rw [tot_cons, hb]; simp
  have hblks : blks (l :: L) = blks L := by simp [blks, hsv, blkOf]
  refine ⟨by rw [hs c (.inl rfl), htot]; exact h.hc, hr, ⟨o2, _, ho, hm, fun k v => ?_⟩, fun n hn => ?_, ?_, ?_, fun n hn => ?_, by rw [htot]; exact h.sz⟩
  · unfold setF
    by_cases e1 : k = l.key
    · subst e1
      simp only [if_true, Option.some.injEq]
      constructor
      · rintro rfl; exact ⟨l, by simp, rfl, rfl⟩
      · rintro ⟨n, hn, h1, rfl⟩
        rcases List.mem_cons.1 hn with rfl | hn
        · rfl
        · exact absurd h1 (hk n hn)
    · rw [if_neg e1, hg]
      constructor
      · rintro ⟨n, hn, h1, h2⟩; exact ⟨n, List.mem_cons_of_mem _ hn, h1, h2⟩
      · rintro ⟨n, hn, h1, h2⟩
        rcases List.mem_cons.1 hn with rfl | hn
        · exact absurd h1.symm e1
        · exact ⟨n, hn, h1, h2⟩
  · rcases List.mem_cons.1 hn with rfl | hn
    · exact .inl ⟨hsv, by simp [hb], by simp [hb]⟩
    · exact (h.bs n hn).same fun b hb => hs b (.inr (mem_blks hn hb))
  · have : (fp c e r (l :: L)).Perm (l.id :: fp c e r L) := by
      unfold fp
      rw [hblks]
      exact (((List.Perm.swap l.id r _).cons e).cons c).trans (((List.Perm.swap l.id e _).cons c).trans (List.Perm.swap l.id c _))
    rw [this.nodup_iff, List.nodup_cons]
    exact ⟨hid, h.nd⟩
  · simp only [List.map_cons, List.nodup_cons]
    refine ⟨fun hm => ?_, h.keys⟩
    obtain ⟨n, hn, h1⟩ := List.mem_map.1 hm
    exact hk n hn h1
  · rcases List.mem_cons.1 hn with rfl | hn
    · simp [hb]
    · exact h.len n hn

theorem fp_reblock {c e r : Nat} {A B : List Nd} {l l2 : Nd} (hi : l2.id = l.id) (h : (fp c e r (A ++ l :: B)).Nodup) (hb : ∀ g, blkOf l2.sv = some g → g ∉ fp c e r (A ++ l :: B)) : (fp c e r (A ++ l2 :: B)).Nodup := by
  have h1 := (perm_fp (mid_perm A B l)).nodup_iff.1 h
  rw [(perm_fp (mid_perm A B l2)).nodup_iff]
  have h2 : (c :: e :: r :: (l.id :: ids (A ++ B) ++ blks (A ++ B))).Nodup := by
    refine h1.sublist ?_
    unfold fp
    refine List.Sublist.cons_cons _ (List.Sublist.cons_cons _ (List.Sublist.cons_cons _ (List.Sublist.append (List.Sublist.refl _) ?_)))
    simp only [blks, List.filterMap_cons]
    split
    · exact List.Sublist.refl _
    · exact List.sublist_cons_self _ _
  have e1 : fp c e r (l2 :: (A ++ B)) = c :: e :: r :: (l.id :: ids (A ++ B) ++ blks (l2 :: (A ++ B))) := by simp [fp, ids, hi]
  rw [e1]
  cases hg : blkOf l2.sv with
  | none =>
    have : blks (l2 :: (A ++ B)) = blks (A ++ B) := by simp [blks, hg]
    rw [this]; exact h2
  | some g =>
    have h3 : blks (l2 :: (A ++ B)) = g :: blks (A ++ B) := by simp [blks, hg]
    rw [h3]
    have hp : (c :: e :: r :: (l.id :: ids (A ++ B) ++ g :: blks (A ++ B))).Perm (g :: (c :: e :: r :: (l.id :: ids (A ++ B) ++ blks (A ++ B)))) := by
      exact List.perm_middle (l₁ := c :: e :: r :: (l.id :: ids (A ++ B)))
    rw [hp.nodup_iff, List.nodup_cons]
    refine ⟨fun hm => hb g hg ?_, h2⟩
    refine (perm_fp (mid_perm A B l)).mem_iff.2 ?_
    simp only [fp, ids, List.map_cons, List.mem_cons, List.mem_append, List.cons_append] at hm ⊢
    rcases hm with hm | hm | hm | hm | hm | hm
    · exact .inl hm
    · exact .inr (.inl hm)
    · exact .inr (.inr (.inl hm))
    · exact .inr (.inr (.inr (.inl hm)))
    · exact .inr (.inr (.inr (.inr (.inl hm))))
    · exact .inr (.inr (.inr (.inr (.inr (by simp only [blks, List.filterMap_cons]; split <;> simp_all [blks])))))

/-- Other bytes. -/
theorem CAt.reblock {w w' : World} {c e r : Nat} {bud : Int} {A B : List Nd} {l l2 : Nd} {sv : Value} {b2 : List UInt8} {a b : Nat} (h : CAt w c e r bud (A ++ l :: B)) (hl2 : l2 = { l with sv := sv, b := b2 })
    (hl : w.heap[l.id]? = some (nodeO l a b)) (hw : w'.heap[l.id]? = some (nodeO l2 a b)) (hc : w'.heap[c]? = some (.cells [.int .i64 bud, .int .i64 (tot (A ++ l2 :: B)), ptr e, .map (some r)].toArray 63 (0, 0)))
    (hbs : BytesAt w' sv b2) (hblk : ∀ g, blkOf sv = some g → g ∉ fp c e r (A ++ l :: B)) (hb2 : b2.length ≤ 4096) (htot : tot (A ++ l2 :: B) ≤ 2097152)
    (hs : ∀ x ∈ fp c e r (A ++ l :: B), x ≠ l.id → x ≠ c → w'.heap[x]? = w.heap[x]?) : CAt w' c e r bud (A ++ l2 :: B) := by
  obtain ⟨ah, nx, hr⟩ := h.ring
  have hi : l2.id = l.id := by rw [hl2]
  have hids : ids (A ++ l2 :: B) = ids (A ++ l :: B) := by simp [ids, hi]
  have hkey : (A ++ l2 :: B).map Nd.key = (A ++ l :: B).map Nd.key := by simp [Nd.key, hl2]
  have hf := fp_facts h.nd
  have hlm : l.id ∈ ids (A ++ l :: B) := mem_ids (by simp)
  have hab : ah l.id = a ∧ nx l.id = b := by
    have := hr.node l (by simp)
    rw [hl] at this
    simp [nodeO, ptr] at this
    exact ⟨this.1.symm, this.2.symm⟩
  have hsub : ∀ x, x = e ∨ x = r ∨ x ∈ ids (A ++ l :: B) ∨ x ∈ blks (A ++ l :: B) → x ∈ fp c e r (A ++ l :: B) := fun x hx => by
    simp only [fp, List.mem_cons, List.mem_append]; rcases hx with hx | hx | hx | hx <;> simp [hx]
  refine ⟨hc, ⟨ah, nx, ?_, ?_, by rw [hids]; exact hr.link, by rw [hids]; exact hr.nd⟩, ?_, ?_, fp_reblock hi h.nd (by rw [hl2]; exact hblk), by rw [hkey]; exact h.keys, ?_, htot⟩
  · rw [hs e (hsub e (.inl rfl)) (fun e1 => hf.2.2.2.2.2.1 (e1 ▸ hlm)) (fun e1 => hf.1 e1.symm)]; exact hr.endb
  · intro n hn
    simp only [List.mem_append, List.mem_cons] at hn
    have old : n ∈ A ++ l :: B → n.id ≠ l.id → w'.heap[n.id]? = some (nodeO n (ah n.id) (nx n.id)) := fun h1 h2 => by
      rw [hs n.id (hsub _ (.inr (.inr (.inl (mem_ids h1))))) h2 (fun e1 => hf.2.2.2.1 (e1 ▸ mem_ids h1))]; exact hr.node n h1
    have hndi := hf.2.2.2.2.2.2.2.2.2.1
    rw [ids_app] at hndi
    rw [List.nodup_append] at hndi
    rcases hn with hn | rfl | hn
    · exact old (by simp [hn]) (fun e1 => hndi.2.2 n.id (mem_ids hn) l.id (by simp [ids]) e1)
    · rw [hi, hw, hab.1, hab.2]
    · refine old (by simp [hn]) (fun e1 => ?_)
      have := hndi.2.1
      simp only [ids, List.map_cons, List.nodup_cons] at this
      exact this.1 (e1 ▸ mem_ids hn)
  · obtain ⟨o, g, ho, hg, hm⟩ := h.mp
    refine ⟨o, g, by rw [hs r (hsub r (.inr (.inl rfl))) (fun e1 => hf.2.2.2.2.2.2.2.1 (e1 ▸ hlm)) (fun e1 => hf.2.1 e1.symm)]; exact ho, hg, fun k v => (hm k v).trans ?_⟩
    constructor
    · rintro ⟨n, hn, h1, h2⟩
      simp only [List.mem_append, List.mem_cons] at hn
      rcases hn with hn | hn | hn
      · exact ⟨n, by simp [hn], h1, h2⟩
      · exact ⟨l2, by simp, by rw [← h1, hn, hl2], by rw [h2, hn, hi]⟩
      · exact ⟨n, by simp [hn], h1, h2⟩
    · rintro ⟨n, hn, h1, h2⟩
      simp only [List.mem_append, List.mem_cons] at hn
      rcases hn with hn | hn | hn
      · exact ⟨n, by simp [hn], h1, h2⟩
      · exact ⟨l, by simp, by rw [← h1, hn, hl2], by rw [h2, hn, hi]⟩
      · exact ⟨n, by simp [hn], h1, h2⟩
  · intro n hn
    simp only [List.mem_append, List.mem_cons] at hn
    have old : n ∈ A ++ l :: B → BytesAt w' n.sv n.b := fun h1 => (h.bs n h1).same fun x hx =>
      hs x (hsub x (.inr (.inr (.inr (mem_blks h1 hx))))) (fun e1 => hf.2.2.2.2.2.2.2.2.2.2.2 l.id hlm (e1 ▸ mem_blks h1 hx)) (fun e1 => hf.2.2.2.2.1 (e1 ▸ mem_blks h1 hx))
    rcases hn with hn | rfl | hn
    · exact old (by simp [hn])
    · rw [hl2]; exact hbs
    · exact old (by simp [hn])
  · intro n hn
    simp only [List.mem_append, List.mem_cons] at hn
    rcases hn with hn | rfl | hn
    · exact h.len n (by simp [hn])
    · rw [hl2]; exact hb2
    · exact h.len n (by simp [hn])

/-- What is let go, from the end on: of a list turned round, those that are looked at yet; those that stay. -/
def evict (bud : Int) : List Nd → List Nd → List Nd
  | [], K => K
  | x :: P, K => if tot ((x :: P).reverse ++ K) ≤ bud then (x :: P).reverse ++ K else if P ≠ [] ∧ x.pins = 0 then evict bud P K else evict bud P (x :: K)

theorem evict_sub (bud : Int) : ∀ (P K : List Nd), ∀ n ∈ evict bud P K, n ∈ P.reverse ++ K
  | [], K, n, h => by simpa [evict] using h
  | x :: P, K, n, h => by
    unfold evict at h
    split at h
    · exact h
    · split at h
      · have := evict_sub bud P K n h
        simp only [List.reverse_cons, List.mem_append, List.mem_singleton] at this ⊢
        rcases this with h1 | h1
        · exact .inl (.inl h1)
        · exact .inr h1
      · have := evict_sub bud P (x :: K) n h
        simpa using this

/-- There is room behind it. -/
theorem evict_le (bud : Int) (l : Nd) : ∀ (P : List Nd) (K : List Nd), (∀ n ∈ P ++ K, 0 ≤ n.pins) → (∀ n ∈ K, 0 < n.pins) → (l.b.length : Int) + ((P ++ K).map fun n => if 0 < n.pins then (n.b.length : Int) else 0).sum ≤ bud → tot (evict bud (P ++ [l]) K) ≤ bud
  | [], K, hp, hK, hle => by
    have e1 : (K.map fun n => if 0 < n.pins then (n.b.length : Int) else 0) = K.map fun n => (n.b.length : Int) := List.map_congr_left fun n hn => by rw [if_pos (hK n hn)]
    simp only [List.nil_append] at hle ⊢
    rw [e1] at hle
    unfold evict
    have ht : tot ([l].reverse ++ K) ≤ bud := by simp only [List.reverse_singleton, List.singleton_append, tot_cons]; exact hle
    rw [if_pos ht]; exact ht
  | x :: P, K, hp, hK, hle => by
    rw [List.cons_append]
    unfold evict
    split
    · assumption
    · split
      · rename_i h1 h2
        refine evict_le bud l P K (fun n hn => hp n (by simp at hn ⊢; exact .inr hn)) hK ?_
        simp only [List.cons_append, List.map_cons, List.sum_cons, h2.2, Int.lt_irrefl, if_false] at hle
        omega
      · rename_i h1 h2
        have hx : 0 < x.pins := by
          have h3 := hp x (by simp)
          have : ¬ x.pins = 0 := fun h4 => h2 ⟨by simp, h4⟩
          omega
        refine evict_le bud l P (x :: K) (fun n hn => hp n (by simp at hn ⊢; rcases hn with h | h | h <;> simp [h])) (fun n hn => ?_) ?_
        · rcases List.mem_cons.1 hn with rfl | hn
          · exact hx
          · exact hK n hn
        · have e2 : ∀ (g : Nd → Int), ((P ++ x :: K).map g).sum = (((x :: P) ++ K).map g).sum := fun g => by
            refine perm_sum (List.Perm.map g ?_)
            exact List.perm_middle
          rw [e2]; exact hle
end Go.Proofs.Ytbbccdcjhoecpaa
