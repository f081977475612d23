/-
  Paths, there and back: the plain laws.
-/
import Derived.Test.YtkieecaaijlokaaP4
namespace Go.Proofs.Ytkieecaaijlokaa
open Go Go.Fw
set_option linter.unusedVariables false
set_option linter.unusedSimpArgs false

theorem nameOK_ne {x : List UInt8} (h : nameOK x) : x ≠ [] ∧ x ≠ [46] ∧ x ≠ [46, 46] := ⟨fun e => by subst e; have := h.1; simp at this, h.2.2.1, h.2.2.2.1⟩
theorem allOK_no {l : List (List UInt8)} (h : allOK l) : ∀ x ∈ l, (47 : UInt8) ∉ x := fun x hx => nameOK_no (h x hx)
theorem joinS_nil {l : List (List UInt8)} (h : allOK l) : joinS l = [] ↔ l = [] := by
  constructor
  · intro e
    match l, h, e with
    | [], _, _ => rfl
    | [p], h, e => exact absurd e (nameOK_ne (h p (by simp))).1
    | p :: q :: r, h, e => simp [joinS] at e
  · rintro rfl; rfl
theorem namesP_join {l : List (List UInt8)} (h : allOK l) : namesP (joinS l) = l := by
  unfold namesP
  split
  · rename_i e; exact ((joinS_nil h).1 e).symm
  · rename_i e; exact splitS_joinS (fun e2 => e (by subst e2; rfl)) (allOK_no h)
theorem joinE_cases (l : List (List UInt8)) : (joinE l = 0 ∧ joinV l = joinS l ∧ l.length ≤ 8 ∧ allOK l ∧ (joinS l).length ≤ 120) ∨ (joinE l = 8 ∧ joinV l = []) := by
  by_cases h : l.length ≤ 8 ∧ allOK l ∧ (joinS l).length ≤ 120
  · have := joinP_good h.1 h.2.1 h.2.2
    exact .inl ⟨this.1, this.2, h⟩
  · right
    have : joinP l = none := by unfold joinP; rw [if_neg h]
    simp [joinE, joinV, this]
theorem splitN_join {l : List (List UInt8)} (h1 : l.length ≤ 8) (h2 : allOK l) (h3 : (joinS l).length ≤ 120) : splitE (joinS l) = 0 ∧ splitN (joinS l) = l := by
  by_cases h : l = []
  · subst h; exact ⟨rfl, rfl⟩
  · have hs := splitS_joinS h (allOK_no h2)
    have := splitE_some (splitP_good (p := joinS l) (fun e => h ((joinS_nil h2).1 e)) h3 (by rw [hs]; exact ⟨h1, h2⟩))
    rw [hs] at this
    exact this
theorem join_split {p : List UInt8} (h : splitE p = 0) : joinV (splitN p) = p ∧ joinE (splitN p) = 0 := by
  rcases splitN_facts h with ⟨h1, h2⟩ | ⟨h1, h2, h3, h4⟩
  · rw [h2, h1]; exact ⟨rfl, rfl⟩
  · have h5 := splitE_len h
    have := joinP_good h3 h4 (by rw [joinS_splitS]; exact h5)
    rw [h2, this.1, this.2, joinS_splitS]; exact ⟨rfl, rfl⟩
theorem split_join {l : List (List UInt8)} (h : joinE l = 0) : splitE (joinV l) = 0 ∧ splitN (joinV l) = l := by
  rcases joinE_cases l with ⟨_, h1, h2, h3, h4⟩ | ⟨h1, _⟩
  · rw [h1]; exact splitN_join h2 h3 h4
  · rw [h1] at h; cases h
theorem joinE_bad {l : List (List UInt8)} (h : ¬ joinE l = 0) : joinE l = 8 ∧ joinV l = [] := by
  rcases joinE_cases l with ⟨h1, _⟩ | h1
  · exact absurd h1 h
  · exact h1

/-! ## What is clean -/
theorem fold_ok : ∀ (l A : List (List UInt8)), allOK l → l.foldl cleanStep A = A ++ l
  | [], A, _ => by simp
  | x :: l, A, h => by
    obtain ⟨h1, h2, h3⟩ := nameOK_ne (h x (by simp))
    rw [List.foldl_cons, cleanStep_in h1 h2 h3, fold_ok l _ (fun y hy => h y (List.mem_cons_of_mem _ hy))]
    simp
theorem fold_split {l : List (List UInt8)} (h : allOK l) (A : List (List UInt8)) : (splitS (joinS l)).foldl cleanStep A = A ++ l := by
  by_cases h0 : l = []
  · subst h0
    simp [joinS, splitS, cleanStep]
  · rw [splitS_joinS h0 (allOK_no h), fold_ok l A h]
theorem clean_bad {s : List UInt8} (h : ¬ (cleanP s).2 = 0) : (cleanP s).1 = [] := by
  unfold cleanP at h ⊢
  split
  · rfl
  · rename_i h1
    rw [if_neg h1] at h
    cases hj : joinP (cleanL s) with
    | none => rfl
    | some p => rw [hj] at h; simp at h
theorem clean_ok {s : List UInt8} (h : (cleanP s).2 = 0) : ∃ l, l.length ≤ 8 ∧ allOK l ∧ (joinS l).length ≤ 120 ∧ (cleanP s).1 = joinS l := by
  unfold cleanP at h ⊢
  split
  · rename_i h1; rw [if_pos h1] at h; cases h
  · rename_i h1
    rw [if_neg h1] at h
    unfold joinP at h ⊢
    by_cases h2 : (cleanL s).length ≤ 8 ∧ allOK (cleanL s) ∧ (joinS (cleanL s)).length ≤ 120
    · exact ⟨cleanL s, h2.1, h2.2.1, h2.2.2, by rw [if_pos h2]⟩
    · rw [if_neg h2] at h; cases h
theorem cleanP_of {s : List UInt8} {l : List (List UInt8)} (hs : s.length ≤ 1024) (hl : cleanL s = l) (h1 : l.length ≤ 8) (h2 : allOK l) (h3 : (joinS l).length ≤ 120) : cleanP s = (joinS l, 0) := by
  rw [cleanP_join hs, hl]
  have := joinP_good h1 h2 h3
  rw [this.1, this.2]
theorem clean_clean {l : List (List UInt8)} (h1 : l.length ≤ 8) (h2 : allOK l) (h3 : (joinS l).length ≤ 120) : cleanP (joinS l) = (joinS l, 0) :=
  cleanP_of (by omega) (by unfold cleanL; rw [fold_split h2]; rfl) h1 h2 h3
theorem clean_about {l : List (List UInt8)} (h1 : l.length ≤ 8) (h2 : allOK l) (h3 : (joinS l).length ≤ 120) : cleanP (([47, 47, 46, 47] ++ joinS l) ++ [47, 46, 47, 120, 47, 46, 46, 47, 47]) = (joinS l, 0) := by
  refine cleanP_of (by simp; omega) ?_ h1 h2 h3
  unfold cleanL
  have e : ([47, 47, 46, 47] ++ joinS l) ++ [47, 46, 47, 120, 47, 46, 46, 47, 47] = [] ++ 47 :: ([] ++ 47 :: ([46] ++ 47 :: (joinS l ++ 47 :: ([46] ++ 47 :: ([120] ++ 47 :: ([46, 46] ++ 47 :: ([] ++ 47 :: []))))))) := by simp
  rw [e]
  simp only [splitS_slash, List.foldl_append]
  have d1 : splitS [] = [[]] := rfl
  have d2 : splitS [46] = [[46]] := rfl
  have d3 : splitS [120] = [[120]] := rfl
  have d4 : splitS [46, 46] = [[46, 46]] := rfl
  rw [d1, d2, d3, d4]
  simp only [List.foldl_cons, List.foldl_nil]
  have c1 : ∀ A, cleanStep A [] = A := fun A => cleanStep_dot (.inl rfl)
  have c2 : ∀ A, cleanStep A [46] = A := fun A => cleanStep_dot (.inr rfl)
  have c3 : ∀ A, cleanStep A [120] = A ++ [[120]] := fun A => cleanStep_in (by decide) (by decide) (by decide)
  have c4 : ∀ A, cleanStep A [46, 46] = A.take (A.length - 1) := fun A => cleanStep_up (by decide) (by decide) rfl
  rw [c1, c1, c2, fold_split h2, c2, c3, c4, c1, c1]
  simp

/-! ## Order -/
theorem cmpL_cases : ∀ (a b : List (List UInt8)), compareL a b = -1 ∨ (compareL a b = 0 ∧ a = b) ∨ compareL a b = 1
  | [], [] => .inr (.inl ⟨rfl, rfl⟩)
  | [], _ :: _ => .inl rfl
  | _ :: _, [] => .inr (.inr rfl)
  | x :: a, y :: b => by
    unfold compareL
    rcases cmp_cases x y with h | ⟨h, rfl⟩ | h
    · rw [if_pos (by omega)]; exact .inl h
    · rw [if_neg (by omega)]
      rcases cmpL_cases a b with h2 | ⟨h2, rfl⟩ | h2
      · exact .inl h2
      · exact .inr (.inl ⟨h2, rfl⟩)
      · exact .inr (.inr h2)
    · rw [if_pos (by omega)]; exact .inr (.inr h)
theorem cmpL_self : ∀ a : List (List UInt8), compareL a a = 0
  | [] => rfl
  | x :: a => by unfold compareL; rw [if_neg (by rw [cmp_self]; simp)]; exact cmpL_self a
theorem cmpL_swap : ∀ a b : List (List UInt8), compareL b a = - compareL a b
  | [], [] => rfl
  | [], _ :: _ => rfl
  | _ :: _, [] => rfl
  | x :: a, y :: b => by
    have ih := cmpL_swap a b
    have h := cmp_swap x y
    conv => lhs; unfold compareL
    conv => rhs; unfold compareL
    by_cases h0 : Lib.compareBytes x y = 0
    · rw [if_neg (by omega), if_neg (by omega), ih]
    · rw [if_pos (by omega), if_pos h0, h]
theorem cmp_trans : ∀ {a b c : List UInt8}, Lib.compareBytes a b ≤ 0 → Lib.compareBytes b c ≤ 0 → Lib.compareBytes a c < 0 ∨ (Lib.compareBytes a b = 0 ∧ Lib.compareBytes b c = 0)
  | [], [], [], _, _ => .inr ⟨rfl, rfl⟩
  | [], [], _ :: _, _, _ => .inl (by show (-1 : Int) < 0; omega)
  | [], _ :: _, [], _, h => by exfalso; have : (1 : Int) ≤ 0 := h; omega
  | [], _ :: _, _ :: _, _, _ => .inl (by show (-1 : Int) < 0; omega)
  | _ :: _, [], _, h, _ => by exfalso; have : (1 : Int) ≤ 0 := h; omega
  | _ :: _, _ :: _, [], _, h => by exfalso; have : (1 : Int) ≤ 0 := h; omega
  | x :: a, y :: b, z :: c, h1, h2 => by
    unfold Lib.compareBytes at h1 h2 ⊢
    by_cases g1 : x < y
    · by_cases g2 : y < z
      · left; rw [if_pos (by rw [UInt8.lt_iff_toNat_lt] at *; omega)]; omega
      · rw [if_neg g2] at h2
        by_cases g3 : z < y
        · rw [if_pos g3] at h2; omega
        · left; rw [if_pos (by rw [UInt8.lt_iff_toNat_lt] at *; omega)]; omega
    · rw [if_neg g1] at h1
      by_cases g1' : y < x
      · rw [if_pos g1'] at h1; omega
      · have hxy : x = y := UInt8.toNat_inj.1 (by rw [UInt8.lt_iff_toNat_lt] at *; omega)
        subst hxy
        rw [if_neg g1'] at h1
        rw [if_neg (show ¬ x < x by rw [UInt8.lt_iff_toNat_lt]; omega), if_neg (show ¬ x < x by rw [UInt8.lt_iff_toNat_lt]; omega)]
        by_cases g2 : x < z
        · left; rw [if_pos g2]; omega
        · rw [if_neg g2] at h2
          by_cases g3 : z < x
          · rw [if_pos g3] at h2; omega
          · rw [if_neg g3] at h2
            rw [if_neg g2, if_neg g3]
            rw [if_neg g2, if_neg g3]
            exact cmp_trans h1 h2
theorem cmpL_trans : ∀ {a b c : List (List UInt8)}, compareL a b ≤ 0 → compareL b c ≤ 0 → compareL a c < 0 ∨ (compareL a b = 0 ∧ compareL b c = 0)
  | [], [], [], _, _ => .inr ⟨rfl, rfl⟩
  | [], [], _ :: _, _, _ => .inl (by show (-1 : Int) < 0; omega)
  | [], _ :: _, [], _, h => by exfalso; have : (1 : Int) ≤ 0 := h; omega
  | [], _ :: _, _ :: _, _, _ => .inl (by show (-1 : Int) < 0; omega)
  | _ :: _, [], _, h, _ => by exfalso; have : (1 : Int) ≤ 0 := h; omega
  | _ :: _, _ :: _, [], _, h => by exfalso; have : (1 : Int) ≤ 0 := h; omega
  | x :: a, y :: b, z :: c, h1, h2 => by
    have e1 : compareL (x :: a) (y :: b) = if Lib.compareBytes x y ≠ 0 then Lib.compareBytes x y else compareL a b := rfl
    have e2 : compareL (y :: b) (z :: c) = if Lib.compareBytes y z ≠ 0 then Lib.compareBytes y z else compareL b c := rfl
    have e3 : compareL (x :: a) (z :: c) = if Lib.compareBytes x z ≠ 0 then Lib.compareBytes x z else compareL a c := rfl
    rw [e1] at h1 ⊢
    rw [e2] at h2 ⊢
    rw [e3]
    have k1 : Lib.compareBytes x y ≤ 0 := by by_cases g : Lib.compareBytes x y = 0; omega; rw [if_pos g] at h1; exact h1
    have k2 : Lib.compareBytes y z ≤ 0 := by by_cases g : Lib.compareBytes y z = 0; omega; rw [if_pos g] at h2; exact h2
    rcases cmp_trans k1 k2 with h | ⟨g1, g2⟩
    · left; rw [if_pos (by omega)]; exact h
    · have hxy : x = y := by rcases cmp_cases x y with h | ⟨_, h⟩ | h; omega; exact h; omega
      subst hxy
      rw [if_neg (by omega)] at h1 h2
      rw [if_neg (by omega), if_neg (by omega), if_neg (by omega)]
      exact cmpL_trans h1 h2
theorem namesP_inj {a b : List UInt8} (h : namesP a = namesP b) : a = b := by
  have key : ∀ p, joinS (namesP p) = p := fun p => by
    unfold namesP; split
    · rename_i h; rw [h]; rfl
    · exact joinS_splitS p
  rw [← key a, ← key b, h]
theorem cmpP_cases (a b : List UInt8) : compareP a b = -1 ∨ (compareP a b = 0 ∧ a = b) ∨ compareP a b = 1 :=
  (cmpL_cases (namesP a) (namesP b)).imp id (fun h => h.imp (fun h => ⟨h.1, namesP_inj h.2⟩) id)
theorem cmpP_swap (a b : List UInt8) : compareP b a = - compareP a b := cmpL_swap _ _
theorem cmpP_self (a : List UInt8) : compareP a a = 0 := cmpL_self _
theorem cmpP_trans {a b c : List UInt8} (h1 : compareP a b ≤ 0) (h2 : compareP b c ≤ 0) : compareP a c < 0 ∨ (compareP a b = 0 ∧ compareP b c = 0) := cmpL_trans h1 h2
theorem cmpP_zero {a b : List UInt8} (h : compareP a b = 0) : a = b := by rcases cmpP_cases a b with h1 | ⟨_, h1⟩ | h1; omega; exact h1; omega

/-! ## What stands under a directory -/
theorem namesP_splitN {p : List UInt8} (h : splitE p = 0) : namesP p = splitN p := by
  rcases splitN_facts h with ⟨h1, h2⟩ | ⟨h1, h2, _⟩
  · rw [h2, h1]; rfl
  · rw [h2, namesP_some h1]
theorem under_facts {p dir : List UInt8} (h : underP p dir = true) : splitE p = 0 ∧ splitE dir = 0 ∧ ∃ c, namesP p = namesP dir ++ c := by
  rw [underP_eq, Bool.and_eq_true, Bool.and_eq_true, decide_eq_true_eq, decide_eq_true_eq, List.isPrefixOf_iff_prefix] at h
  obtain ⟨⟨h1, h2⟩, c, hc⟩ := h
  exact ⟨h1, h2, c, by rw [namesP_splitN h1, namesP_splitN h2, hc]⟩
theorem under_of {p dir : List UInt8} (h1 : splitE p = 0) (h2 : splitE dir = 0) (h : ∃ c, namesP p = namesP dir ++ c) : underP p dir = true := by
  rw [underP_eq, h1, h2]
  obtain ⟨c, hc⟩ := h
  rw [namesP_splitN h1, namesP_splitN h2] at hc
  simp only [decide_true, Bool.true_and]
  rw [List.isPrefixOf_iff_prefix]
  exact ⟨c, hc.symm⟩
theorem cmpL_app : ∀ (b c : List (List UInt8)), compareL b (b ++ c) ≤ 0 ∧ (compareL b (b ++ c) = 0 → c = [])
  | [], [] => ⟨by show (0 : Int) ≤ 0; omega, fun _ => rfl⟩
  | [], _ :: _ => ⟨by show (-1 : Int) ≤ 0; omega, fun h => by have : (-1 : Int) = 0 := h; omega⟩
  | x :: b, c => by
    have e : compareL (x :: b) (x :: b ++ c) = compareL b (b ++ c) := by
      show (if Lib.compareBytes x x ≠ 0 then _ else _) = _
      rw [if_neg (by rw [cmp_self]; simp)]; rfl
    rw [e]; exact cmpL_app b c
theorem cmpL_between : ∀ {b c q : List (List UInt8)}, compareL b q ≤ 0 → compareL q (b ++ c) ≤ 0 → ∃ d, q = b ++ d
  | [], c, q, _, _ => ⟨q, rfl⟩
  | x :: b, c, [], h, _ => by exfalso; have : (1 : Int) ≤ 0 := h; omega
  | x :: b, c, y :: q, h1, h2 => by
    have e1 : compareL (x :: b) (y :: q) = if Lib.compareBytes x y ≠ 0 then Lib.compareBytes x y else compareL b q := rfl
    have e2 : compareL (y :: q) (x :: b ++ c) = if Lib.compareBytes y x ≠ 0 then Lib.compareBytes y x else compareL q (b ++ c) := rfl
    rw [e1] at h1
    rw [e2] at h2
    have hs := cmp_swap x y
    have k1 : Lib.compareBytes x y ≤ 0 := by by_cases g : Lib.compareBytes x y = 0; omega; rw [if_pos g] at h1; exact h1
    have k2 : Lib.compareBytes y x ≤ 0 := by by_cases g : Lib.compareBytes y x = 0; omega; rw [if_pos g] at h2; exact h2
    have hxy : x = y := by rcases cmp_cases x y with h | ⟨_, h⟩ | h; omega; exact h; omega
    subst hxy
    rw [if_neg (by omega)] at h1 h2
    obtain ⟨d, hd⟩ := cmpL_between h1 h2
    exact ⟨d, by rw [hd]; rfl⟩
theorem under_behind {p dir : List UInt8} (h : underP p dir = true) : compareP dir p ≤ 0 ∧ (compareP dir p = 0 ↔ dir = p) := by
  obtain ⟨_, _, c, hc⟩ := under_facts h
  have := cmpL_app (namesP dir) c
  rw [← hc] at this
  refine ⟨this.1, fun h0 => cmpP_zero h0, fun e => by rw [e]; exact cmpP_self p⟩
theorem under_between {p q dir : List UInt8} (h : underP p dir = true) (hq : splitE q = 0) (h1 : compareP dir q ≤ 0) (h2 : compareP q p ≤ 0) : underP q dir = true := by
  obtain ⟨_, hd, c, hc⟩ := under_facts h
  unfold compareP at h1 h2
  rw [hc] at h2
  exact under_of hq hd (cmpL_between h1 h2)

/-! ## Steps -/
theorem parent_bad {p : List UInt8} (h : ¬ (parentP p).2.2 = 0) : (parentP p).1 = [] ∧ (parentP p).2.1 = [] := by
  by_cases h1 : splitE p = 0
  · by_cases h2 : p = []
    · subst h2; exact ⟨rfl, rfl⟩
    · obtain ⟨a, x, hs⟩ := split_snoc p
      rw [parentP_some h2 h1 hs] at h
      exact absurd rfl h
  · rw [(parentP_bad h1).1]; exact ⟨rfl, rfl⟩
theorem parent_ok {p : List UInt8} (h : (parentP p).2.2 = 0) : ∃ a x, parentP p = (joinS a, x, 0) ∧ splitE (joinS a) = 0 ∧ splitN (joinS a) = a ∧ joinV (a ++ [x]) = p ∧ joinE (a ++ [x]) = 0 ∧ underP p (joinS a) = true ∧ underP (joinS a) p = false ∧ nameOK x ∧ a.length ≤ 8 := by
  by_cases h1 : splitE p = 0
  · by_cases h2 : p = []
    · subst h2; cases h
    · obtain ⟨a, x, hs⟩ := split_snoc p
      rcases splitN_facts h1 with ⟨h3, _⟩ | ⟨_, h3, h4, h5⟩
      · exact absurd h3 h2
      · have hl := splitE_len h1
        rw [hs] at h4 h5
        have ha : allOK a := fun y hy => h5 y (List.mem_append_left _ hy)
        have hal : a.length ≤ 8 := by simp at h4; omega
        have hja : (joinS a).length ≤ 120 := by
          have hp : p = joinS (a ++ [x]) := by rw [← hs, joinS_splitS]
          by_cases h0 : a = []
          · subst h0; simp [joinS]
          · rw [joinS_app h0 (by simp)] at hp
            have := congrArg List.length hp
            simp at this; omega
        have hsa := splitN_join hal ha hja
        have hjp : joinS (a ++ [x]) = p := by rw [← hs, joinS_splitS]
        have hg := joinP_good h4 h5 (by rw [hjp]; exact hl)
        refine ⟨a, x, parentP_some h2 h1 hs, hsa.1, hsa.2, by rw [hg.2, hjp], hg.1, ?_, ?_, h5 x (by simp), hal⟩
        · exact under_of h1 hsa.1 ⟨[x], by rw [namesP_some h2, hs, namesP_join ha]⟩
        · rw [← Bool.not_eq_true]
          intro hu
          obtain ⟨_, _, c, hc⟩ := under_facts hu
          rw [namesP_some h2, hs, namesP_join ha] at hc
          have := congrArg List.length hc
          simp only [List.length_append, List.length_cons, List.length_nil] at this; omega
  · rw [(parentP_bad h1).1] at h; cases h
theorem order_end {a b c : List UInt8} (h1 : compareP a b ≤ 0) (h2 : compareP b c ≤ 0) (h3 : 0 ≤ compareP a c) : compareP a b = 0 ∧ compareP b c = 0 ∧ compareP a c = 0 := by
  rcases cmpP_trans h1 h2 with h | ⟨g1, g2⟩
  · omega
  · refine ⟨g1, g2, ?_⟩
    rw [cmpP_zero g1, cmpP_zero g2]; exact cmpP_self c
theorem under_eqb {p dir : List UInt8} (h : underP p dir = true) : ((compareP dir p == 0) == decide (dir = p)) = true := by
  have := (under_behind h).2
  by_cases e : dir = p
  · rw [decide_eq_true e, this.2 e]; rfl
  · rw [decide_eq_false e, beq_eq_false_iff_ne.2 (fun h => e (this.1 h))]; rfl
end Go.Proofs.Ytkieecaaijlokaa
