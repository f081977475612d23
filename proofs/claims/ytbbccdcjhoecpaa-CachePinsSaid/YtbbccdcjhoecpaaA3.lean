/-
  What has a pin stays.
-/
import Derived.Test.YtbbccdcjhoecpaaA2
namespace Go.Proofs.Ytbbccdcjhoecpaa
open Go Go.Fw Go.RowKit Go.Proofs Go.WideShapes
set_option linter.unusedVariables false
set_option linter.unusedSimpArgs false

def skipA (a : Ac) (k : Key) : Prop := (a.k = k ∧ 1 ≤ a.kind ∧ a.kind ≤ 3) ∨ (a.kind = 4 ∧ a.k.1 = k.1)
instance (a : Ac) (k : Key) : Decidable (skipA a k) := by unfold skipA; infer_instance

theorem evictM_keep (bud : Int) {m : Blk} (hm : m.2.2 ≠ 0) : ∀ (P K : List Blk), m ∈ P ∨ m ∈ K → m ∈ evictM bud P K
  | [], K, h => by rcases h with h | h; simp at h; exact h
  | x :: P, K, h => by
    unfold evictM
    split
    · simp only [List.mem_append, List.mem_reverse]; exact h
    · split
      · rename_i h2
        refine evictM_keep bud hm P K ?_
        rcases h with h | h
        · rcases List.mem_cons.1 h with rfl | h
          · exact absurd h2.2 hm
          · exact .inl h
        · exact .inr h
      · refine evictM_keep bud hm P (x :: K) ?_
        rcases h with h | h
        · rcases List.mem_cons.1 h with rfl | h
          · exact .inr (by simp)
          · exact .inl h
        · exact .inr (by simp [h])

theorem find_has {M : List Blk} {m : Blk} (hk : (M.map (·.1)).Nodup) (hm : m ∈ M) : M.find? (fun x => decide (x.1 = m.1)) = some m := by
  obtain ⟨A, B, rfl⟩ := List.append_of_mem hm
  have hp : (A ++ m :: B).Perm (m :: (A ++ B)) := List.perm_middle
  have hn := (hp.map (·.1)).nodup_iff.1 hk
  simp only [List.map_cons, List.nodup_cons] at hn
  have g1 : ∀ x ∈ A ++ B, x.1 ≠ m.1 := fun x hx e => hn.1 (List.mem_map.2 ⟨x, hx, e⟩)
  rw [List.find?_append, List.find?_eq_none.2 (fun x hx hd => g1 x (by simp [hx]) (of_decide_eq_true hd))]
  simp

theorem keepM {bud : Int} {M : List Blk} {k : Key} {b : List UInt8} {a : Ac} (hk : (M.map (·.1)).Nodup) (hm : (k, b, (1 : Int)) ∈ M) (hs : ¬ skipA a k) : (k, b, (1 : Int)) ∈ doM bud M a := by
  have hne : 1 ≤ a.kind → a.kind ≤ 3 → a.k ≠ k := fun h1 h2 e => hs (.inl ⟨e, h1, h2⟩)
  have hpm : ∀ q : Int, a.k ≠ k → (k, b, (1 : Int)) ∈ (pinM M a.k q).1 := fun q hne => by
    unfold pinM
    split
    · exact hm
    · split
      · exact hm
      · refine List.mem_map.2 ⟨_, hm, ?_⟩
        rw [if_neg (fun e => hne e.symm)]
  have hwo : a.k ≠ k → (k, b, (1 : Int)) ∈ woM M a.k := fun hne => List.mem_filter.2 ⟨hm, decide_eq_true (fun e => hne e.symm)⟩
  unfold doM
  split
  · rename_i h1
    have hne := hne (by omega) (by omega)
    unfold putM
    split
    · exact hm
    · split
      · exact hm
      · refine evictM_keep bud (by simp) _ _ (.inl ?_)
        simp only [List.mem_reverse, List.mem_cons]
        exact .inr (hwo hne)
  · split
    · exact hpm 1 (hne (by omega) (by omega))
    · split
      · exact hpm (-1) (hne (by omega) (by omega))
      · split
        · rename_i h4
          exact List.mem_filter.2 ⟨hm, decide_eq_true (fun e => hs (.inr ⟨h4, e.symm⟩))⟩
        · unfold getM
          split
          · exact hm
          · rename_i m hf
            by_cases he : a.k = k
            · have hf' := find_has hk hm
              simp only at hf'
              rw [he] at hf
              rw [hf'] at hf
              cases hf
              simp
            · exact List.mem_cons_of_mem _ (hwo he)

theorem pins_has {M : List Blk} {m : Blk} (hk : (M.map (·.1)).Nodup) (hm : m ∈ M) : pinsM M m.1 = m.2.2 := by
  unfold pinsM
  rw [find_has hk hm]; rfl

theorem pin_has {M : List Blk} {m : Blk} {q : Int} (hk : (M.map (·.1)).Nodup) (hm : m ∈ M) (hq : 0 ≤ m.2.2 + q) : pinM M m.1 q = (M.map fun x => if x.1 = m.1 then (x.1, x.2.1, x.2.2 + q) else x, 0) := by
  unfold pinM
  rw [find_has hk hm]
  simp only
  rw [if_neg (by omega)]

theorem pin_low {M : List Blk} {m : Blk} {q : Int} (hk : (M.map (·.1)).Nodup) (hm : m ∈ M) (hq : m.2.2 + q < 0) : pinM M m.1 q = (M, 2) := by
  unfold pinM
  rw [find_has hk hm]
  simp only
  rw [if_pos hq]

theorem put_nil {bud : Int} {k : Key} {b : List UInt8} (hb : b.length ≤ 4096) : putM bud [] k b = if (b.length : Int) ≤ bud then ([(k, b, 0)], 0) else ([], 7) := by
  unfold putM
  rw [if_neg (by omega)]
  by_cases h : (b.length : Int) ≤ bud
  · rw [if_neg (by simp [heldM]; omega), if_pos h]
    have : woM [] k = [] := rfl
    have hp : pinsM [] k = 0 := rfl
    rw [this, hp]
    show (evictM bud [(k, b, 0)] [], (0 : Int)) = _
    unfold evictM
    rw [if_pos (by simp [totM]; exact h)]
    rfl
  · rw [if_pos (by simp [heldM]; omega), if_neg h]

section
variable {w0 w w1 : World} {L : List (Nat × Obj)} {c : Nat} {bud : Int} {M M' : List Blk} {q : Int}
theorem CS.opUnpin' (h : CS w0 L c bud M w) {k : Key} (he : pinM M k (-1) = (M', q)) (hp : ∀ m ∈ M, m.2.2 < 1000000000) : Ret Try.prog 21 #[ptr c, encK k] w fun v w' => v = .int .i64 q ∧ CS w0 L c bud M' w' := by
  have := h.opUnpin k hp
  rw [he] at this; exact this
theorem CS.opPins' (h : CS w0 L c bud M w) {k : Key} (he : pinsM M k = q) : Ret Try.prog 22 #[ptr c, encK k] w fun v w' => v = .int .i64 q ∧ CS w0 L c bud M w' := by
  have := h.opPins k
  rw [he] at this; exact this
end

theorem drop_less {M : List Blk} {m : Blk} (hm : m ∈ M) : (dropM M m.1.1).length < M.length := by
  unfold dropM
  refine Nat.lt_of_le_of_ne (List.length_filter_le _ _) (fun e => ?_)
  have := List.length_filter_eq_length_iff.1 e m hm
  simp at this
theorem drop_none {M : List Blk} {k : Key} : getM (dropM M k.1) k = (dropM M k.1, none) := by
  unfold getM
  rw [List.find?_eq_none.2 (fun x hx hd => by
    have h1 := (List.mem_filter.1 hx).2
    have h2 := of_decide_eq_true hd
    simp at h1
    exact h1 (by rw [h2]))]
theorem row_key {w : World} {b off : Nat} {a : Ac} (h : RowAt w b off a.cells) : RowAt w b (off + 1) [.string a.k.1, .int .i64 a.k.2] := by
  obtain ⟨cs, T, fr, h1, h2⟩ := h
  refine ⟨cs, T, fr, h1, ?_⟩
  have := congrArg (fun l => (l.drop 1).take 2) h2
  simp only [Ac.cells, List.length_cons, List.length_nil] at this
  rw [List.drop_take, List.take_take, List.drop_drop] at this
  simpa using this

theorem skip_iff4 {a : Ac} {k : Key} (h : a.kind = 4) : (a.k.1.toList == k.1.toList) = true ↔ skipA a k := by
  unfold skipA
  simp only [beq_iff_eq]
  constructor
  · intro e; exact .inr ⟨h, ba_inj e⟩
  · rintro (⟨_, _, h2⟩ | ⟨_, e⟩)
    · omega
    · rw [e]
theorem skip_no {a : Ac} {k : Key} (h1 : ¬ (a.k = k ∧ 1 ≤ a.kind ∧ a.kind ≤ 3)) (h4 : a.kind ≠ 4) : ¬ skipA a k := by
  rintro (h | h)
  · exact h1 h
  · exact h4 h.1

theorem BytesAt.strOf {w : World} {sv : Value} {b : List UInt8} (h : BytesAt w sv b) : StrOf w sv b := by
  rcases h with ⟨rfl, h1, h2⟩ | ⟨g, off, cap, all, T, fr, rfl, hle, hb, h1, h2⟩
  · exact .inl ⟨0, rfl, by simpa using h2⟩
  · refine .inr ⟨⟨g, off, none⟩, cap, rfl, fun j hj => ?_⟩
    have hr : RowAt w g off (b.map byteV) := ⟨all, T, fr, hb, by simpa using h1⟩
    have := row_cell hr (j := j) (u := byteV b[j]) (by simp [List.getElem?_eq_getElem hj])
    rw [add_plain]
    exact this
theorem BytesIn.strOf {w : World} {sv : Value} {b : List UInt8} (h : BytesIn w sv b) : StrOf w sv b := by
  rcases h with ⟨rfl, p, cap, rfl⟩ | ⟨_, h⟩
  · cases p with
    | none => exact .inl ⟨cap, rfl, rfl⟩
    | some a => exact .inr ⟨a, cap, rfl, fun j hj => by simp at hj⟩
  · exact h.strOf

theorem BdM.perm {n : Nat} {M M' : List Blk} (h : BdM n M) (hp : M'.Perm M) : BdM n M' := ⟨by rw [hp.length_eq]; exact h.1, fun m hm => h.2 m (hp.mem_iff.1 hm)⟩
end Go.Proofs.Ytbbccdcjhoecpaa
