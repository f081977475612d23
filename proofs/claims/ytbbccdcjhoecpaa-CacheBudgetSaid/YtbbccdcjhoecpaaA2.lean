/-
  Keys that stay; a block that is got; small laws.
-/
import Derived.Test.YtbbccdcjhoecpaaA1
import Derived.Test.YtbbccdcjhoecpaaL2
namespace Go.Proofs.Ytbbccdcjhoecpaa
open Go Go.Fw Go.RowKit Go.Proofs
set_option linter.unusedVariables false
set_option linter.unusedSimpArgs false

section
variable {w0 w w1 : World} {L : List (Nat × Obj)} {c : Nat} {bud : Int} {M : List Blk}

theorem CS.opKeysL (h : CS w0 L c bud M w) (hlen : M.length ≤ 1000000) : Ret Try.prog 12 #[ptr c] w fun v w' => ∃ p cap L', v = .slice p M.length cap ∧ CS w0 L' c bud M w' ∧ L.Sublist L' ∧
    ∀ M' w'', CS w0 L' c bud M' w'' → ∀ (i : Nat) m, M[i]? = some m → ∃ b, p = some ⟨b, 0, none⟩ ∧ RowAt w'' b (0 + i * 2) [.string m.1.1, .int .i64 m.1.2] := by
  refine (h.opKeys hlen).mono ?_
  rintro v w' ⟨how, _, hc, hbk⟩
  rcases how with ⟨rfl, h2, _⟩ | ⟨b, cap, rest, T, rfl, h2, _, _⟩
  · refine ⟨none, 0, L, by rw [h2], hc, List.Sublist.refl _, fun M' w'' _ i m hm => ?_⟩
    have := (List.getElem?_eq_some_iff.1 hm).1
    omega
  · refine ⟨_, cap, _, rfl, (hbk b rfl).2 _ h2, List.sublist_append_left _ _, fun M' w'' hc' i m hm => ⟨b, rfl, keyM_row hc'.last hm⟩⟩

theorem getM_has {m : Blk} (hk : (M.map (·.1)).Nodup) (hm : m ∈ M) : getM M m.1 = (m :: woM M m.1, some m.2.1) ∧ (m :: woM M m.1).Perm M := by
  obtain ⟨A, B, rfl⟩ := List.append_of_mem hm
  have hp : (A ++ m :: B).Perm (m :: (A ++ B)) := List.perm_middle
  have hn := (hp.map (·.1)).nodup_iff.1 hk
  simp only [List.map_cons, List.nodup_cons] at hn
  have g1 : ∀ x ∈ A ++ B, x.1 ≠ m.1 := fun x hx e => hn.1 (List.mem_map.2 ⟨x, hx, e⟩)
  have hwo : woM (A ++ m :: B) m.1 = A ++ B := by
    unfold woM
    rw [List.filter_append, List.filter_cons]
    rw [List.filter_eq_self.2 (fun x hx => decide_eq_true (g1 x (by simp [hx]))), List.filter_eq_self.2 (fun x hx => decide_eq_true (g1 x (by simp [hx])))]
    simp
  have hf : (A ++ m :: B).find? (fun x => decide (x.1 = m.1)) = some m := by
    rw [List.find?_append, List.find?_eq_none.2 (fun x hx hd => g1 x (by simp [hx]) (of_decide_eq_true hd))]
    simp
  refine ⟨?_, by rw [hwo]; exact hp.symm⟩
  unfold getM
  rw [hf]

theorem totM_perm {M M' : List Blk} (h : M.Perm M') : totM M = totM M' := perm_sum (h.map _)

theorem totM_nn (M : List Blk) : 0 ≤ totM M := by
  induction M with
  | nil => exact Int.le_refl _
  | cons m M ih => unfold totM at *; simp only [List.map_cons, List.sum_cons]; omega

theorem totM_app (A B : List Blk) : totM (A ++ B) = totM A + totM B := by simp [totM]

theorem totM_take {j : Nat} {m : Blk} (hm : M[j]? = some m) : totM (M.take (j + 1)) = totM (M.take j) + m.2.1.length := by
  rw [List.take_add_one, hm]
  simp [totM]

theorem totM_take_le (j : Nat) : totM (M.take j) ≤ totM M := by
  have h := totM_app (M.take j) (M.drop j)
  rw [List.take_append_drop] at h
  have := totM_nn (M.drop j)
  omega

theorem nodup_idx {l : List Key} (h : l.Nodup) {i j : Nat} {a b : Key} (hi : l[i]? = some a) (hj : l[j]? = some b) (hne : i ≠ j) : a ≠ b := by
  rintro rfl
  have hlt := (List.getElem?_eq_some_iff.1 hi).1
  have hlt2 := (List.getElem?_eq_some_iff.1 hj).1
  rw [List.getElem?_eq_getElem hlt] at hi
  rw [List.getElem?_eq_getElem hlt2] at hj
  exact hne ((List.getElem_inj (h₀ := hlt) (h₁ := hlt2) h).1 ((Option.some.inj hi).trans (Option.some.inj hj).symm))

/-- The bounds of a cache's list behind calls. -/
def BdM (n : Nat) (M : List Blk) : Prop := M.length ≤ n ∧ ∀ m ∈ M, m.2.2 ≤ (n : Int)

theorem evictM_len (bud : Int) : ∀ (P K : List Blk), (evictM bud P K).length ≤ P.length + K.length
  | [], K => by simp [evictM]
  | x :: P, K => by
    unfold evictM
    split
    · simp; omega
    · split
      · have := evictM_len bud P K; simp; omega
      · have := evictM_len bud P (x :: K); simp at this ⊢; omega

theorem BdM.step {n : Nat} {M : List Blk} (h : BdM n M) (bud : Int) (a : Ac) : BdM (n + 1) (doM bud M a) := by
  obtain ⟨h1, h2⟩ := h
  have hmono : ∀ {m : Blk}, m ∈ M → m.2.2 ≤ ((n + 1 : Nat) : Int) := fun hm => by have := h2 _ hm; omega
  have hid : BdM (n + 1) M := ⟨by omega, fun m hm => hmono hm⟩
  have hwl : (woM M a.k).length ≤ M.length := List.length_filter_le _ _
  have hpin : pinsM M a.k ≤ (n : Int) := by
    unfold pinsM
    cases hf : M.find? fun m => m.1 = a.k with
    | none => simp
    | some m => exact h2 m (List.mem_of_find?_eq_some hf)
  have hpm : ∀ q : Int, q ≤ 1 → BdM (n + 1) (pinM M a.k q).1 := fun q hq => by
    unfold pinM
    split
    · exact hid
    · split
      · exact hid
      · refine ⟨by simp; omega, fun m hm => ?_⟩
        obtain ⟨x, hx, rfl⟩ := List.mem_map.1 hm
        have := h2 x hx
        split
        · simp only; omega
        · omega
  unfold doM
  split
  · unfold putM
    split
    · exact hid
    · split
      · exact hid
      · refine ⟨?_, fun m hm => ?_⟩
        · have := evictM_len bud ((a.k, a.b, pinsM M a.k) :: woM M a.k).reverse []
          simp at this ⊢; omega
        · have := evictM_sub _ _ _ m hm
          simp only [List.reverse_reverse, List.append_nil, List.mem_cons] at this
          rcases this with rfl | h3
          · simp only; omega
          · exact hmono (List.mem_filter.1 h3).1
  · split
    · exact hpm 1 (by omega)
    · split
      · exact hpm (-1) (by omega)
      · split
        · exact ⟨Nat.le_trans (List.length_filter_le _ _) (by omega), fun m hm => hmono (List.mem_filter.1 hm).1⟩
        · unfold getM
          split
          · exact hid
          · rename_i m hf
            have hmm := List.mem_of_find?_eq_some hf
            refine ⟨by simp; omega, fun x hx => ?_⟩
            rcases List.mem_cons.1 hx with rfl | hx
            · exact hmono hmm
            · exact hmono (List.mem_filter.1 hx).1
end
end Go.Proofs.Ytbbccdcjhoecpaa
