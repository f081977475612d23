/-
  Taking out of the ring, putting ahead: the contracts.
-/
import Derived.Test.YtbbccdcjhoecpaaP1
import Derived.Test.YtbbccdcjhoecpaaW2
namespace Go.Proofs.Ytbbccdcjhoecpaa
open Go Go.Fw Go.RowKit Go.Proofs
set_option linter.unusedVariables false
set_option linter.unusedSimpArgs false

theorem snoc_of_ne {α : Type} : ∀ (x : α) (l : List α), ∃ A p, x :: l = A ++ [p]
  | x, [] => ⟨[], x, rfl⟩
  | x, y :: l => let ⟨A, p, h⟩ := snoc_of_ne y l; ⟨x :: A, p, by rw [h]; rfl⟩

theorem cons_of_snoc {α : Type} (l : List α) (x : α) : ∃ q B, l ++ [x] = q :: B := by
  cases l with
  | nil => exact ⟨x, [], rfl⟩
  | cons y l => exact ⟨y, l ++ [x], rfl⟩

theorem ids_app (A B : List Nd) : ids (A ++ B) = ids A ++ ids B := by simp [ids]

/-- What turns in a ring. -/
abbrev InRing (e : Nat) (L : List Nd) : Nat → Prop := fun b => b ∈ e :: ids L

theorem cut_ring {w : World} {e : Nat} {A B : List Nd} {l : Nd} (h : Ring w e (A ++ l :: B)) :
    Ret Try.prog 39 #[.agg #[ptr e], ptr l.id] w fun r w' => r = .tuple #[] ∧ Ring w' e (A ++ B) ∧ (∃ x y, w'.heap[l.id]? = some (nodeO l x y)) ∧ Frm (InRing e (A ++ l :: B)) w w' := by
  obtain ⟨ah, nx, h⟩ := h
  obtain ⟨A', p, hA⟩ := snoc_of_ne e (ids A)
  obtain ⟨q, B', hB⟩ := cons_of_snoc (ids B) e
  have hcyc : e :: (ids (A ++ l :: B) ++ [e]) = A' ++ p :: l.id :: q :: B' := by
    rw [ids_app]
    show e :: (ids A ++ l.id :: ids B ++ [e]) = _
    rw [List.append_assoc, List.cons_append, hB, ← List.cons_append, hA]
    simp
  have hnew : e :: (ids (A ++ B) ++ [e]) = A' ++ p :: q :: B' := by
    rw [ids_app, List.append_assoc, hB, ← List.cons_append, hA]
    simp
  have hl := h.link
  rw [hcyc] at hl
  have hl2 := hl
  rw [linked_app] at hl2
  simp only [linked] at hl2
  obtain ⟨_, hpn, hlp, hlq, hql, _⟩ := hl2
  have hnd := h.nd
  rw [ids_app] at hnd
  have hids : e :: (ids A ++ ids (l :: B)) = A' ++ p :: l.id :: ids B := by
    show e :: (ids A ++ l.id :: ids B) = _
    rw [← List.cons_append, hA]; simp
  have hnd2 := hnd
  rw [hids] at hnd2
  have hpm : p ∈ e :: ids A := by rw [hA]; simp
  have hqm : q ∈ ids B ++ [e] := by rw [hB]; simp
  have hpm' : p ∈ e :: ids (A ++ l :: B) := by rw [ids_app]; simp at hpm ⊢; rcases hpm with h1 | h1 <;> simp [h1]
  have hqm' : q ∈ e :: ids (A ++ l :: B) := by rw [ids_app]; simp [ids] at hqm ⊢; rcases hqm with h1 | h1 <;> simp [h1]
  have hlm' : l.id ∈ e :: ids (A ++ l :: B) := by rw [ids_app]; simp [ids]
  -- who is apart from whom
  rw [List.nodup_append] at hnd2
  obtain ⟨n1, n2, n3⟩ := hnd2
  simp only [List.nodup_cons] at n2
  obtain ⟨n21, n22, n23⟩ := n2
  have hpl : l.id ≠ p := fun e1 => n21 (by rw [← e1]; simp)
  have hql' : l.id ≠ q := by
    intro e1
    rw [← e1] at hqm
    rcases List.mem_append.1 hqm with h1 | h1
    · exact n22 h1
    · simp at h1
      have := hnd
      simp only [List.nodup_cons] at this
      exact this.1 (by simp [ids, h1])
  have hpB : p ∉ ids B := fun h1 => n21 (List.mem_cons_of_mem _ h1)
  have hA'p : ∀ a ∈ A', a ≠ p := fun a ha e1 => n3 a ha p (by simp) e1
  have heA : e ∉ ids A := by
    simp only [List.nodup_cons] at hnd
    exact fun h1 => hnd.1 (by simp [h1])
  have heB : e ∉ ids B := by
    simp only [List.nodup_cons] at hnd
    exact fun h1 => hnd.1 (by simp [ids] at h1 ⊢; exact .inr (.inr h1))
  have htail : (A' ++ [p]).tail = ids A := by rw [← hA]; rfl
  have hAB : ∀ a ∈ ids A, a ∉ ids B := fun a ha hb => by
    simp only [List.nodup_cons, List.nodup_append] at hnd
    exact hnd.2.2.2 a ha a (by simp [ids] at hb ⊢; exact .inr hb) rfl
  have hAq : ∀ a ∈ (A' ++ [p]).tail, a ≠ q := by
    rw [htail]
    intro a ha e1
    subst e1
    rcases List.mem_append.1 hqm with h1 | h1
    · exact hAB a ha h1
    · simp at h1; exact heA (h1 ▸ ha)
  have hdl : (q :: B').dropLast = ids B := by rw [← hB, List.dropLast_concat]
  have hBp : ∀ a ∈ (q :: B').dropLast, a ≠ p := by
    rw [hdl]; intro a ha e1; exact hpB (e1 ▸ ha)
  have hBq : ∀ a ∈ B', a ≠ q := by
    have : (q :: B').Nodup := by
      rw [← hB, List.nodup_append]
      simp only [List.nodup_cons, List.nodup_append] at hnd
      refine ⟨?_, by simp, ?_⟩
      · have := hnd.2.2.1; simp [ids] at this ⊢; exact this.2
      · intro a ha b hb e1; simp at hb; exact heB (hb ▸ e1 ▸ ha)
    simp only [List.nodup_cons] at this
    exact fun a ha e1 => this.1 (e1 ▸ ha)
  have hlink := linked_cut hl hA'p hAq hBp hBq
  have hnodup : (e :: ids (A ++ B)).Nodup := by
    rw [ids_app]
    refine hnd.sublist ?_
    refine List.Sublist.cons_cons _ (List.Sublist.append (List.Sublist.refl _) (List.sublist_cons_self _ _))
  have hsub : ∀ x ∈ e :: ids (A ++ B), x ∈ e :: ids (A ++ l :: B) := by
    intro x hx; rw [ids_app] at hx ⊢; simp [ids] at hx ⊢; rcases hx with h1 | h1 | h1
    · exact .inl h1
    · exact .inr (.inl h1)
    · exact .inr (.inr (.inr h1))
  have hneq : ∀ x ∈ e :: ids (A ++ B), x ≠ l.id := by
    intro x hx e1
    subst e1
    rw [ids_app] at hx
    have h0 := hnd
    simp only [List.nodup_cons, List.nodup_append] at h0
    rcases List.mem_cons.1 hx with h1 | h1
    · exact h0.1 (by simp [ids, h1])
    · rcases List.mem_append.1 h1 with h1 | h1
      · exact h0.2.2.2 l.id h1 l.id (by simp [ids]) rfl
      · exact n22 h1
  have hln := h.node l (by simp)
  obtain ⟨p0, p1, p2, p3, hp, hp1, hp2⟩ := h.six hpm'
  obtain ⟨q0, q1, q2, q3, hq, hq1, hq2⟩ := h.six hqm'
  rw [hlp, hlq] at hln
  by_cases hpq : p = q
  · subst hpq
    refine (cut1 hln hp hpl).mono ?_
    rintro r w' ⟨rfl, M⟩
    have m0 := M.at_ 0 rfl
    have m1 := M.at_ 1 rfl
    have hF : Frm (InRing e (A ++ l :: B)) w w' := (Frm.refl _ w).trans M.frm (by rintro b (rfl | rfl) _ <;> exact .inl (by assumption))
    refine ⟨rfl, ⟨_, _, RingF.of_six (by rw [hnew]; exact hlink) hnodup ?_⟩, ⟨p, p, m0⟩, hF⟩
    intro x hx
    have hxl := hneq x hx
    by_cases hxp : x = p
    · subst hxp
      refine ⟨p0, p1, p2, p3, by rw [m1]; simp [upd, ptr], hp1, fun nd hn => hp2 nd (by simp at hn ⊢; rcases hn with h1 | h1 <;> simp [h1])⟩
    · obtain ⟨a, b, c, d, g1, g2, g3⟩ := h.six (hsub x hx)
      have hlt : x < w.heap.size := (Array.getElem?_eq_some_iff.1 g1).1
      refine ⟨a, b, c, d, by rw [M.old x hlt (by simp [hxl, hxp]), g1]; simp [upd, hxp], g2, fun nd hn => g3 nd (by simp at hn ⊢; rcases hn with h1 | h1 <;> simp [h1])⟩
  · refine (cut2 hln hp hq hpl hql' hpq).mono ?_
    rintro r w' ⟨rfl, M⟩
    have m0 := M.at_ 0 rfl
    have m1 := M.at_ 1 rfl
    have m2 := M.at_ 2 rfl
    have hF : Frm (InRing e (A ++ l :: B)) w w' := (Frm.refl _ w).trans M.frm (by rintro b (rfl | rfl | rfl) _ <;> exact .inl (by assumption))
    refine ⟨rfl, ⟨_, _, RingF.of_six (by rw [hnew]; exact hlink) hnodup ?_⟩, ⟨p, q, m0⟩, hF⟩
    intro x hx
    have hxl := hneq x hx
    by_cases hxp : x = p
    · subst hxp
      refine ⟨p0, p1, p2, p3, by rw [m1]; simp [upd, ptr, hpq], hp1, fun nd hn => hp2 nd (by simp at hn ⊢; rcases hn with h1 | h1 <;> simp [h1])⟩
    · by_cases hxq : x = q
      · subst hxq
        refine ⟨q0, q1, q2, q3, by rw [m2]; simp [upd, ptr, hxp], hq1, fun nd hn => hq2 nd (by simp at hn ⊢; rcases hn with h1 | h1 <;> simp [h1])⟩
      · obtain ⟨a, b, c, d, g1, g2, g3⟩ := h.six (hsub x hx)
        have hlt : x < w.heap.size := (Array.getElem?_eq_some_iff.1 g1).1
        refine ⟨a, b, c, d, by rw [M.old x hlt (by simp [hxl, hxp, hxq]), g1]; simp [upd, hxp, hxq], g2, fun nd hn => g3 nd (by simp at hn ⊢; rcases hn with h1 | h1 <;> simp [h1])⟩

theorem front_ring {w : World} {e : Nat} {L : List Nd} {l : Nd} {x0 y0 : Value} (h : Ring w e L) (hl : w.heap[l.id]? = some (.cells [.string l.f, .int .i64 l.i, l.sv, .int .i64 l.pins, x0, y0].toArray 70 (0, 0))) (hn : l.id ∉ e :: ids L) :
    Ret Try.prog 27 #[.agg #[ptr e], ptr l.id] w fun r w' => r = .tuple #[] ∧ Ring w' e (l :: L) ∧ Frm (InRing e (l :: L)) w w' := by
  obtain ⟨ah, nx, h⟩ := h
  obtain ⟨q, B, hB⟩ := cons_of_snoc (ids L) e
  have hk := h.link
  rw [hB] at hk
  have hq0 : nx e = q := hk.1
  have hqm : q ∈ e :: ids L := by
    have : q ∈ ids L ++ [e] := by rw [hB]; simp
    rcases List.mem_append.1 this with h1 | h1
    · exact List.mem_cons_of_mem _ h1
    · simp at h1; simp [h1]
  have hle : l.id ≠ e := fun e1 => hn (by simp [e1])
  have hlq : l.id ≠ q := fun e1 => hn (e1 ▸ hqm)
  have hdl : (q :: B).dropLast = ids L := by rw [← hB, List.dropLast_concat]
  have hnd := h.nd
  simp only [List.nodup_cons] at hnd
  have hB2 : ∀ a ∈ B, a ≠ q ∧ a ≠ l.id := by
    have h1 : (q :: B).Nodup := by
      rw [← hB, List.nodup_append]
      exact ⟨hnd.2, by simp, fun a ha b hb e1 => by simp at hb; exact hnd.1 (hb ▸ e1 ▸ ha)⟩
    simp only [List.nodup_cons] at h1
    refine fun a ha => ⟨fun e1 => h1.1 (e1 ▸ ha), fun e1 => hn ?_⟩
    have : a ∈ ids L ++ [e] := by rw [hB]; simp [ha]
    rw [← e1]
    rcases List.mem_append.1 this with h2 | h2
    · exact List.mem_cons_of_mem _ h2
    · simp at h2; simp [h2]
  have hlink := linked_front (l := l.id) hk (by rw [hdl]; exact fun a ha => ⟨fun e1 => hnd.1 (e1 ▸ ha), fun e1 => hn (e1 ▸ List.mem_cons_of_mem _ ha)⟩) hB2 hle (Ne.symm hlq)
  have hnodup : (e :: ids (l :: L)).Nodup := by
    show (e :: l.id :: ids L).Nodup
    simp only [List.nodup_cons, List.mem_cons, not_or] at hn ⊢
    exact ⟨⟨Ne.symm hle, hnd.1⟩, hn.2, hnd.2⟩
  have hnew : e :: (ids (l :: L) ++ [e]) = e :: l.id :: q :: B := by
    show e :: l.id :: (ids L ++ [e]) = _
    rw [hB]
  obtain ⟨p0, p1, p2, p3, hp, hp1, hp2⟩ := h.six (x := e) (by simp)
  rw [hq0] at hp
  by_cases hpq : e = q
  · subst hpq
    refine (front1 hl hp hle).mono ?_
    rintro r w' ⟨rfl, M⟩
    have m0 := M.at_ 0 rfl
    have m1 := M.at_ 1 rfl
    have hF : Frm (InRing e (l :: L)) w w' := (Frm.refl _ w).trans M.frm (by rintro b (rfl | rfl) _ <;> exact .inl (by simp [InRing, ids]))
    refine ⟨rfl, ⟨_, _, RingF.of_six (by rw [hnew]; exact hlink) hnodup ?_⟩, hF⟩
    intro x hx
    by_cases hxl : x = l.id
    · subst hxl
      refine ⟨.string l.f, .int .i64 l.i, l.sv, .int .i64 l.pins, by rw [m0]; simp [upd, ptr, hle], fun e1 => absurd e1 hle, fun nd hnd1 e1 => ?_⟩
      rcases List.mem_cons.1 hnd1 with rfl | h2
      · rfl
      · exact absurd (List.mem_cons_of_mem e (List.mem_map.2 ⟨nd, h2, e1⟩)) hn
    · by_cases hxe : x = e
      · subst hxe
        refine ⟨p0, p1, p2, p3, by rw [m1]; simp [upd, ptr], hp1, fun nd hnd1 e1 => ?_⟩
        rcases List.mem_cons.1 hnd1 with rfl | h2
        · exact absurd e1 hle
        · exact hp2 nd h2 e1
      · have hx' : x ∈ e :: ids L := by simp [ids] at hx ⊢; rcases hx with h1 | h1 | h1; exact .inl h1; exact absurd h1 hxl; exact .inr h1
        obtain ⟨a, b, c, d, g1, g2, g3⟩ := h.six hx'
        have hlt : x < w.heap.size := (Array.getElem?_eq_some_iff.1 g1).1
        refine ⟨a, b, c, d, by rw [M.old x hlt (by simp [hxl, hxe]), g1]; simp [upd, hxl, hxe], g2, fun nd hnd1 e1 => ?_⟩
        rcases List.mem_cons.1 hnd1 with rfl | h2
        · exact absurd e1.symm hxl
        · exact g3 nd h2 e1
  · obtain ⟨q0, q1, q2, q3, hq, hq1, hq2⟩ := h.six hqm
    refine (front2 hl hp hq hle hlq hpq).mono ?_
    rintro r w' ⟨rfl, M⟩
    have m0 := M.at_ 0 rfl
    have m1 := M.at_ 1 rfl
    have m2 := M.at_ 2 rfl
    have hF : Frm (InRing e (l :: L)) w w' := (Frm.refl _ w).trans M.frm (by
      rintro b (rfl | rfl | rfl) _
      · exact .inl (by simp [InRing, ids])
      · exact .inl (by simp [InRing, ids])
      · exact .inl (by simp [InRing, ids] at hqm ⊢; rcases hqm with h1 | h1; exact .inl h1; exact .inr (.inr h1)))
    refine ⟨rfl, ⟨_, _, RingF.of_six (by rw [hnew]; exact hlink) hnodup ?_⟩, hF⟩
    intro x hx
    by_cases hxl : x = l.id
    · subst hxl
      refine ⟨.string l.f, .int .i64 l.i, l.sv, .int .i64 l.pins, by rw [m0]; simp [upd, ptr, hle, hlq], fun e1 => absurd e1 hle, fun nd hnd1 e1 => ?_⟩
      rcases List.mem_cons.1 hnd1 with rfl | h2
      · rfl
      · exact absurd (List.mem_cons_of_mem e (List.mem_map.2 ⟨nd, h2, e1⟩)) hn
    · by_cases hxe : x = e
      · subst hxe
        refine ⟨p0, p1, p2, p3, by rw [m1]; simp [upd, ptr, hpq, Ne.symm hle], hp1, fun nd hnd1 e1 => ?_⟩
        rcases List.mem_cons.1 hnd1 with rfl | h2
        · exact absurd e1 hle
        · exact hp2 nd h2 e1
      · have hx' : x ∈ e :: ids L := by simp [ids] at hx ⊢; rcases hx with h1 | h1 | h1; exact .inl h1; exact absurd h1 hxl; exact .inr h1
        by_cases hxq : x = q
        · subst hxq
          refine ⟨q0, q1, q2, q3, by rw [m2]; simp [upd, ptr, hxe, hxl], hq1, fun nd hnd1 e1 => ?_⟩
          rcases List.mem_cons.1 hnd1 with rfl | h2
          · exact absurd e1.symm hxl
          · exact hq2 nd h2 e1
        · obtain ⟨a, b, c, d, g1, g2, g3⟩ := h.six hx'
          have hlt : x < w.heap.size := (Array.getElem?_eq_some_iff.1 g1).1
          refine ⟨a, b, c, d, by rw [M.old x hlt (by simp [hxl, hxe, hxq]), g1]; simp [upd, hxl, hxe, hxq], g2, fun nd hnd1 e1 => ?_⟩
          rcases List.mem_cons.1 hnd1 with rfl | h2
          · exact absurd e1.symm hxl
          · exact g3 nd h2 e1
end Go.Proofs.Ytbbccdcjhoecpaa
