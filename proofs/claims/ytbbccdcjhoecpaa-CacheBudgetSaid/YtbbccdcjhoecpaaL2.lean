/-
  Blocks of one size, put one after the other: the plain law.
-/
import Derived.Test.YtbbccdcjhoecpaaL1
namespace Go.Proofs.Ytbbccdcjhoecpaa
open Go Go.Fw Go.RowKit Go.Proofs
set_option linter.unusedVariables false
set_option linter.unusedSimpArgs false

def seqM (size q : Nat) : Nat → List Blk
  | 0 => []
  | i + 1 => ((kA (i : Int), zs size, 0) :: seqM size q i).take q

theorem seqM_mem {size q : Nat} : ∀ {i : Nat} {m : Blk}, m ∈ seqM size q i → ∃ j, j < i ∧ m = (kA ((j : Nat) : Int), zs size, 0)
  | i + 1, m, h => by
    have := List.mem_of_mem_take h
    rcases List.mem_cons.1 this with rfl | h1
    · exact ⟨i, by omega, rfl⟩
    · obtain ⟨j, h2, h3⟩ := seqM_mem h1
      exact ⟨j, by omega, h3⟩

theorem seqM_len (size q : Nat) : ∀ i, (seqM size q i).length = min i q
  | 0 => by simp [seqM]
  | i + 1 => by
    simp only [seqM, List.length_take, List.length_cons, seqM_len size q i]
    omega

theorem seqM_get (size q : Nat) : ∀ (i j : Nat), j < min i q → (seqM size q i)[j]? = some (kA ((i - 1 - j : Nat) : Int), zs size, 0)
  | 0, j, h => by omega
  | i + 1, j, h => by
    simp only [seqM]
    rw [List.getElem?_take, if_pos (by omega)]
    cases j with
    | zero => simp
    | succ j =>
      rw [List.getElem?_cons_succ, seqM_get size q i j (by omega)]
      congr 4
      omega

theorem kA_inj {a b : Nat} (h : kA (a : Int) = kA (b : Int)) : a = b := by
  have := congrArg Prod.snd h
  simp only [kA] at this
  omega

theorem totM_same {size : Nat} : ∀ (L : List Blk), (∀ m ∈ L, m.2.1.length = size) → totM L = (L.length * size : Nat)
  | [], _ => by simp [totM]
  | m :: L, h => by
    have h1 := totM_same L (fun m hm => h m (List.mem_cons_of_mem _ hm))
    have h2 := h m (by simp)
    unfold totM at *
    simp only [List.map_cons, List.sum_cons, List.length_cons, h1, h2]
    rw [Nat.succ_mul]; omega

theorem evict_take {bud : Int} {size q : Nat} (hq : ((q * size : Nat) : Int) ≤ bud) (hq2 : bud < (((q + 1) * size : Nat) : Int)) (hq1 : 1 ≤ q) {L : List Blk} (hL : ∀ m ∈ L, m.2.1.length = size ∧ m.2.2 = 0) (hlen : L.length ≤ q + 1) :
    evictM bud L.reverse [] = L.take q := by
  have hfit : ∀ X : List Blk, (∀ m ∈ X, m.2.1.length = size) → X.length ≤ q → evictM bud X.reverse [] = X := by
    intro X hX hl
    cases hr : X.reverse with
    | nil => simp at hr; subst hr; rfl
    | cons x P =>
      have e1 : (x :: P).reverse = X := by rw [← hr, List.reverse_reverse]
      unfold evictM
      rw [e1, List.append_nil, if_pos]
      rw [totM_same X hX]
      have : X.length * size ≤ q * size := Nat.mul_le_mul_right _ hl
      omega
  rcases Nat.lt_or_ge q L.length with h | h
  · have hl : L.length = q + 1 := by omega
    rcases List.eq_nil_or_concat L with rfl | ⟨L', x, rfl⟩
    · simp at hl
    · simp only [List.concat_eq_append] at *
      have hl' : L'.length = q := by simpa using hl
      have e1 : (L' ++ [x]).reverse = x :: L'.reverse := by simp
      rw [e1]
      unfold evictM
      rw [← e1, List.reverse_reverse, List.append_nil, if_neg, if_pos]
      · rw [hfit L' (fun m hm => (hL m (by simp [hm])).1) (by omega), List.take_append_of_le_length (by omega), List.take_of_length_le (by omega)]
      · exact ⟨fun e2 => by simp at e2; subst e2; simp at hl'; omega, (hL x (by simp)).2⟩
      · rw [totM_same _ (fun m hm => (hL m hm).1), hl]; omega
  · rw [hfit L (fun m hm => (hL m hm).1) h, List.take_of_length_le h]

theorem heldM_zero {M : List Blk} (h : ∀ m ∈ M, m.2.2 = 0) (k : Key) : heldM M k = 0 := by
  induction M with
  | nil => rfl
  | cons m M ih =>
    have h1 := ih (fun m hm => h m (List.mem_cons_of_mem _ hm))
    have h2 := h m (by simp)
    unfold heldM at *
    simp [h1, h2]

/-- One more block of the size. -/
theorem put_seq {bud : Int} {size q : Nat} (hs : 1 ≤ size ∧ size ≤ 4096) (hq : ((q * size : Nat) : Int) ≤ bud) (hq2 : bud < (((q + 1) * size : Nat) : Int)) (i : Nat) :
    putM bud (seqM size q i) (kA (i : Int)) (zs size) = (seqM size q (i + 1), if (size : Int) ≤ bud then 0 else 7) := by
  have hp : ∀ m ∈ seqM size q i, m.2.1.length = size ∧ m.2.2 = 0 := fun m hm => by obtain ⟨j, _, rfl⟩ := seqM_mem hm; simp
  have hk : ∀ m ∈ seqM size q i, m.1 ≠ kA (i : Int) := fun m hm e => by
    obtain ⟨j, h1, rfl⟩ := seqM_mem hm
    have := kA_inj e
    omega
  unfold putM
  rw [if_neg (by simp; omega), heldM_zero (fun m hm => (hp m hm).2)]
  by_cases hf : (size : Int) ≤ bud
  · rw [if_neg (by simp; omega), if_pos hf]
    have hwo : woM (seqM size q i) (kA (i : Int)) = seqM size q i := List.filter_eq_self.2 fun m hm => decide_eq_true (hk m hm)
    have hpi : pinsM (seqM size q i) (kA (i : Int)) = 0 := by
      unfold pinsM
      rw [List.find?_eq_none.2 (fun m hm => by simpa using hk m hm)]; rfl
    rw [hwo, hpi]
    have hq1 : 1 ≤ q := by
      rcases Nat.eq_zero_or_pos q with h0 | h0
      · subst h0; simp at hq2; omega
      · exact h0
    rw [evict_take hq hq2 hq1 (fun m hm => ?_) (by simp [seqM_len]; omega)]
    · rfl
    · rcases List.mem_cons.1 hm with rfl | hm
      · simp
      · exact hp m hm
  · rw [if_pos (by simp; omega), if_neg hf]
    have hq0 : q = 0 := by
      rcases Nat.eq_zero_or_pos q with h0 | h0
      · exact h0
      · have : 1 * size ≤ q * size := Nat.mul_le_mul_right _ h0
        omega
    subst hq0
    have : ∀ i, seqM size 0 i = [] := fun i => by cases i <;> simp [seqM]
    rw [this, this]

theorem keyM_row {w : World} {b : Nat} {M : List Blk} {rest : List Value} {T : TypeId} {fr : Nat × Nat} {j : Nat} {m : Blk} (h : w.heap[b]? = some (.cells (keyM M ++ rest).toArray T fr)) (hm : M[j]? = some m) : RowAt w b (0 + j * 2) [.string m.1.1, .int .i64 m.1.2] := by
  refine ⟨_, T, fr, h, ?_⟩
  have key : ∀ (M : List Blk) (j : Nat), M[j]? = some m → ((keyM M ++ rest).drop (j * 2)).take 2 = [.string m.1.1, .int .i64 m.1.2] := by
    intro M
    induction M with
    | nil => intro j hj; simp at hj
    | cons x M ih =>
      intro j hj
      have e1 : keyM (x :: M) = .string x.1.1 :: .int .i64 x.1.2 :: keyM M := by simp [keyM]
      rw [e1]
      cases j with
      | zero => simp at hj; subst hj; simp
      | succ j =>
        rw [show (j + 1) * 2 = j * 2 + 2 from by omega]
        simpa using ih j (by simpa using hj)
  simpa using key M j hm
end Go.Proofs.Ytbbccdcjhoecpaa
