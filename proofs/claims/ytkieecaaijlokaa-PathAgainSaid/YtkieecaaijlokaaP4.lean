/-
  Parents, what stands under what, and order: the plain laws.
-/
import Derived.Test.YtkieecaaijlokaaP1
namespace Go.Proofs.Ytkieecaaijlokaa
open Go Go.Fw
set_option linter.unusedVariables false
set_option linter.unusedSimpArgs false

theorem splitP_cases (p : List UInt8) : (p = [] ∧ splitP p = some []) ∨ (p ≠ [] ∧ splitP p = none) ∨ (p ≠ [] ∧ p.length ≤ 120 ∧ (splitS p).length ≤ 8 ∧ allOK (splitS p) ∧ splitP p = some (splitS p)) := by
  by_cases h : p = []
  · exact .inl ⟨h, by unfold splitP; rw [if_pos h]⟩
  · by_cases h1 : 120 < p.length
    · exact .inr (.inl ⟨h, splitP_long h1⟩)
    · by_cases h2 : (splitS p).length ≤ 8 ∧ allOK (splitS p)
      · exact .inr (.inr ⟨h, by omega, h2.1, h2.2, splitP_good h (by omega) h2⟩)
      · exact .inr (.inl ⟨h, splitP_bad h h2⟩)

/-- Where the last c is. -/
def LastAt (s : List UInt8) (c : UInt8) (z : Int) : Prop := (z = -1 ∧ c ∉ s) ∨ ∃ a x, s = a ++ c :: x ∧ c ∉ x ∧ z = (a.length : Int)
theorem joinS_app : ∀ {a b : List (List UInt8)}, a ≠ [] → b ≠ [] → joinS (a ++ b) = joinS a ++ 47 :: joinS b
  | [], _, h, _ => absurd rfl h
  | [p], b, _, hb => by rw [List.singleton_append, joinS_cons hb]; rfl
  | p :: q :: r, b, _, hb => by
    have := joinS_app (a := q :: r) (b := b) (by simp) hb
    show joinS (p :: (q :: r ++ b)) = joinS (p :: q :: r) ++ 47 :: joinS b
    rw [joinS_cons (p := p) (r := q :: r ++ b) (by simp), this, joinS_cons (p := p) (r := q :: r) (by simp)]
    simp
theorem noS_join {x : List UInt8} : joinS [x] = x := rfl
theorem app_cons_inj {a b x y : List UInt8} {c : UInt8} (h : a ++ c :: x = b ++ c :: y) (hx : c ∉ x) (hy : c ∉ y) : a = b ∧ x = y := by
  induction a generalizing b with
  | nil => cases b with
    | nil => simp at h; exact ⟨rfl, h⟩
    | cons d b => simp at h; exact absurd (by rw [h.2]; simp) hx
  | cons e a ih => cases b with
    | nil => simp at h; exact absurd (by rw [← h.2]; simp) hy
    | cons d b =>
      simp at h
      obtain ⟨h1, h2⟩ := ih h.2
      exact ⟨by rw [h.1, h1], h2⟩

theorem parentP_bad {p : List UInt8} (h : splitE p ≠ 0) : parentP p = ([], [], 8) ∧ splitE p = 8 := by
  unfold splitE at h ⊢
  unfold parentP
  cases hs : splitP p with
  | none => exact ⟨rfl, rfl⟩
  | some l => rw [hs] at h; simp at h
theorem parentP_root : parentP [] = ([], [], 9) := rfl
theorem split_snoc (p : List UInt8) : ∃ a x, splitS p = a ++ [x] := ⟨(splitS p).dropLast, (splitS p).getLast (splitS_ne p), (List.dropLast_concat_getLast _).symm⟩
theorem parentP_some {p : List UInt8} (h0 : p ≠ []) (h : splitE p = 0) {a : List (List UInt8)} {x : List UInt8} (hs : splitS p = a ++ [x]) : parentP p = (joinS a, x, 0) := by
  rcases splitP_cases p with ⟨h1, _⟩ | ⟨_, h1⟩ | ⟨_, _, _, _, h1⟩
  · exact absurd h1 h0
  · rw [(splitE_none h1).1] at h; cases h
  · unfold parentP; rw [h1]; simp only; rw [if_neg (splitS_ne p), hs]; simp
theorem parentP_last {p : List UInt8} (h0 : p ≠ []) (h : splitE p = 0) {z : Int} (hz : LastAt p 47 z) :
    (z = -1 → parentP p = ([], p, 0)) ∧ ∀ i : Nat, z = (i : Int) → i < p.length ∧ parentP p = (p.take i, p.drop (i + 1), 0) := by
  obtain ⟨a, x, hs⟩ := split_snoc p
  have hx : (47 : UInt8) ∉ x := splitS_no p x (by rw [hs]; simp)
  have hp := parentP_some h0 h hs
  have hj : p = joinS (a ++ [x]) := by rw [← hs, joinS_splitS]
  by_cases ha : a = []
  · subst ha
    have hpx : p = x := by rw [hj]; rfl
    rcases hz with ⟨rfl, _⟩ | ⟨b, y, h1, _, _⟩
    · refine ⟨fun _ => by rw [hp, hpx]; rfl, fun i hi => by omega⟩
    · exact absurd (by rw [← hpx, h1]; simp) hx
  · rw [joinS_app ha (by simp)] at hj
    rcases hz with ⟨rfl, h2⟩ | ⟨b, y, h1, h2, rfl⟩
    · exact absurd (by rw [hj]; simp) h2
    · obtain ⟨h3, h4⟩ := app_cons_inj (h1.symm.trans hj) h2 hx
      refine ⟨fun hz => by omega, fun i hi => ?_⟩
      have : i = b.length := by omega
      subst this
      rw [hp, h1, ← h3]
      have h5 : joinS [x] = x := rfl
      rw [h5] at h4
      subst h4
      simp

theorem splitS_slash : ∀ (s t : List UInt8), splitS (s ++ 47 :: t) = splitS s ++ splitS t
  | [], t => by simp [splitS]
  | c :: s, t => by
    have ih := splitS_slash s t
    rw [List.cons_append]
    by_cases hc : c = 47
    · subst hc
      have e1 : splitS (47 :: (s ++ 47 :: t)) = [] :: splitS (s ++ 47 :: t) := by conv => lhs; unfold splitS; rw [if_pos rfl]
      have e2 : splitS (47 :: s) = [] :: splitS s := by conv => lhs; unfold splitS; rw [if_pos rfl]
      rw [e1, e2, ih]; rfl
    · obtain ⟨p, r, hs⟩ := splitS_ex s
      have e1 : splitS (c :: (s ++ 47 :: t)) = (c :: p) :: (r ++ splitS t) := by
        conv => lhs; unfold splitS; rw [if_neg hc]
        rw [ih, hs]; rfl
      have e2 : splitS (c :: s) = (c :: p) :: r := by
        conv => lhs; unfold splitS; rw [if_neg hc]
        rw [hs]
      rw [e1, e2]; rfl

/-- What the program asks of a path and a directory. -/
def underQ (p dir : List UInt8) : Bool := decide (splitE p = 0) && decide (splitE dir = 0) && (decide (dir = []) || decide (p = dir) || (dir ++ [47]).isPrefixOf p)
theorem under_eq (p dir : List UInt8) : underQ p dir = underP p dir := by
  unfold underQ underP
  rcases splitP_cases p with ⟨hp, h1⟩ | ⟨_, h1⟩ | ⟨hp, _, _, _, h1⟩
  case inr.inl => rw [(splitE_none h1).1, h1]; rfl
  all_goals rcases splitP_cases dir with ⟨hd, h2⟩ | ⟨_, h2⟩ | ⟨hd, _, _, _, h2⟩
  case inl.inr.inl => rw [(splitE_none h2).1, h1, h2]; simp
  case inr.inr.inr.inl => rw [(splitE_none h2).1, h1, h2]; simp
  all_goals rw [(splitE_some h1).1, (splitE_some h2).1, h1, h2]; simp only [decide_true, Bool.true_and]
  · subst hp hd; rfl
  · subst hp
    obtain ⟨q, r, hs⟩ := splitS_ex dir
    rw [hs, decide_eq_false hd, decide_eq_false (Ne.symm hd)]
    cases dir with
    | nil => exact absurd rfl hd
    | cons c d => rfl
  · subst hd; simp
  · rw [decide_eq_false hd, Bool.false_or]
    rw [Bool.eq_iff_iff, Bool.or_eq_true, decide_eq_true_eq, List.isPrefixOf_iff_prefix, List.isPrefixOf_iff_prefix]
    constructor
    · rintro (rfl | ⟨t, ht⟩)
      · exact List.prefix_refl _
      · rw [← ht, List.append_assoc, List.singleton_append, splitS_slash]
        exact List.prefix_append _ _
    · rintro ⟨c, hc⟩
      by_cases h0 : c = []
      · subst h0
        rw [List.append_nil] at hc
        left; rw [← joinS_splitS p, ← hc, joinS_splitS]
      · right
        refine ⟨joinS c, ?_⟩
        rw [List.append_assoc, List.singleton_append]
        have := joinS_app (splitS_ne dir) h0
        rw [hc, joinS_splitS, joinS_splitS] at this
        exact this.symm

theorem underP_eq (p dir : List UInt8) : underP p dir = (decide (splitE p = 0) && decide (splitE dir = 0) && (splitN dir).isPrefixOf (splitN p)) := by
  unfold underP splitE splitN
  cases splitP p <;> cases splitP dir <;> simp
theorem splitE_nil : splitE [] = 0 := rfl
theorem splitE_len {p : List UInt8} (h : splitE p = 0) : p.length ≤ 120 := by
  rcases splitP_cases p with ⟨h1, _⟩ | ⟨_, h1⟩ | ⟨_, h2, _⟩
  · subst h1; simp
  · rw [(splitE_none h1).1] at h; cases h
  · exact h2
theorem splitN_facts {p : List UInt8} (h : splitE p = 0) : (p = [] ∧ splitN p = []) ∨ (p ≠ [] ∧ splitN p = splitS p ∧ (splitS p).length ≤ 8 ∧ allOK (splitS p)) := by
  rcases splitP_cases p with ⟨h1, h2⟩ | ⟨_, h1⟩ | ⟨h1, _, h3, h4, h2⟩
  · exact .inl ⟨h1, (splitE_some h2).2⟩
  · rw [(splitE_none h1).1] at h; cases h
  · exact .inr ⟨h1, (splitE_some h2).2, h3, h4⟩
theorem splitN_len (p : List UInt8) : (splitN p).length ≤ 8 := by
  rcases splitP_cases p with ⟨h1, h2⟩ | ⟨_, h1⟩ | ⟨h1, _, h3, h4, h2⟩
  · rw [(splitE_some h2).2]; simp
  · rw [(splitE_none h1).2]; simp
  · rw [(splitE_some h2).2]; exact h3
theorem pre_step {A B : List (List UInt8)} {q : Nat} {x y : List UInt8} (h : B.take q = A.take q) (hx : A[q]? = some x) (hy : B[q]? = some y) (he : x = y) : B.take (q + 1) = A.take (q + 1) := by
  rw [take_snoc hx, take_snoc hy, h, he]
theorem pre_no {A B : List (List UInt8)} {q : Nat} {x y : List UInt8} (hx : A[q]? = some x) (hy : B[q]? = some y) (he : ¬ x = y) : B.isPrefixOf A = false := by
  rw [← Bool.not_eq_true, List.isPrefixOf_iff_prefix]
  rintro ⟨c, rfl⟩
  have hlt := (List.getElem?_eq_some_iff.1 hy).1
  rw [List.getElem?_append_left hlt, hy] at hx
  exact he (Option.some.inj hx).symm
theorem pre_yes {A B : List (List UInt8)} (h : B.take B.length = A.take B.length) : B.isPrefixOf A = true := by
  rw [List.isPrefixOf_iff_prefix, List.prefix_iff_eq_take, ← h, List.take_length]
theorem pre_long {A B : List (List UInt8)} (h : A.length < B.length) : B.isPrefixOf A = false := by
  rw [← Bool.not_eq_true, List.isPrefixOf_iff_prefix]; intro h2; have := h2.length_le; omega

/-! ## Order -/
theorem cmp_drop {a b : List UInt8} {i : Nat} {c : UInt8} (ha : a[i]? = some c) (hb : b[i]? = some c) : Lib.compareBytes (a.drop i) (b.drop i) = Lib.compareBytes (a.drop (i + 1)) (b.drop (i + 1)) := by
  have h1 := (List.getElem?_eq_some_iff.1 ha); have h2 := (List.getElem?_eq_some_iff.1 hb)
  obtain ⟨l1, e1⟩ := h1; obtain ⟨l2, e2⟩ := h2
  rw [List.drop_eq_getElem_cons l1, List.drop_eq_getElem_cons l2, e1, e2]
  conv => lhs; unfold Lib.compareBytes
  rw [if_neg (by simp), if_neg (by simp)]
theorem cmp_ne {a b : List UInt8} {i : Nat} {c d : UInt8} (ha : a[i]? = some c) (hb : b[i]? = some d) (h : c ≠ d) : Lib.compareBytes (a.drop i) (b.drop i) = if c < d then -1 else 1 := by
  obtain ⟨l1, e1⟩ := (List.getElem?_eq_some_iff.1 ha); obtain ⟨l2, e2⟩ := (List.getElem?_eq_some_iff.1 hb)
  rw [List.drop_eq_getElem_cons l1, List.drop_eq_getElem_cons l2, e1, e2]
  unfold Lib.compareBytes
  by_cases h3 : c < d
  · rw [if_pos h3, if_pos h3]
  · rw [if_neg h3, if_neg h3]
    have : d < c := by
      rw [UInt8.lt_iff_toNat_lt] at h3 ⊢
      have : c.toNat ≠ d.toNat := fun e => h (UInt8.toNat_inj.1 e)
      omega
    rw [if_pos this]
theorem cmp_end {a b : List UInt8} {i : Nat} (h : a.length ≤ i ∨ b.length ≤ i) (hi : i ≤ a.length ∧ i ≤ b.length) : Lib.compareBytes (a.drop i) (b.drop i) = if a.length < b.length then -1 else if b.length < a.length then 1 else 0 := by
  rcases Nat.lt_or_ge i a.length with h1 | h1
  · have hb : b.length = i := by omega
    have hdb : b.drop i = [] := List.drop_eq_nil_of_le (by omega)
    rw [hdb, List.drop_eq_getElem_cons h1, if_neg (by omega), if_pos (by omega)]; rfl
  · have hda : a.drop i = [] := List.drop_eq_nil_of_le (by omega)
    rcases Nat.lt_or_ge i b.length with h2 | h2
    · rw [hda, List.drop_eq_getElem_cons h2, if_pos (by omega)]; rfl
    · have hdb : b.drop i = [] := List.drop_eq_nil_of_le (by omega)
      rw [hda, hdb, if_neg (by omega), if_neg (by omega)]; rfl
theorem cmp_cases : ∀ (a b : List UInt8), Lib.compareBytes a b = -1 ∨ (Lib.compareBytes a b = 0 ∧ a = b) ∨ Lib.compareBytes a b = 1
  | [], [] => .inr (.inl ⟨rfl, rfl⟩)
  | [], _ :: _ => .inl rfl
  | _ :: _, [] => .inr (.inr rfl)
  | c :: a, d :: b => by
    unfold Lib.compareBytes
    split
    · exact .inl rfl
    · split
      · exact .inr (.inr rfl)
      · rename_i h1 h2
        have hcd : c = d := by
          rw [UInt8.lt_iff_toNat_lt] at h1 h2
          exact UInt8.toNat_inj.1 (by omega)
        rcases cmp_cases a b with h | ⟨h, h3⟩ | h
        · exact .inl h
        · exact .inr (.inl ⟨h, by rw [hcd, h3]⟩)
        · exact .inr (.inr h)
theorem cmp_self : ∀ a : List UInt8, Lib.compareBytes a a = 0
  | [] => rfl
  | c :: a => by unfold Lib.compareBytes; rw [if_neg (by simp), if_neg (by simp)]; exact cmp_self a
theorem cmp_swap : ∀ a b : List UInt8, Lib.compareBytes b a = - Lib.compareBytes a b
  | [], [] => rfl
  | [], _ :: _ => rfl
  | _ :: _, [] => rfl
  | c :: a, d :: b => by
    have ih := cmp_swap a b
    conv => lhs; unfold Lib.compareBytes
    conv => rhs; unfold Lib.compareBytes
    by_cases h1 : c < d
    · have h2 : ¬ d < c := by rw [UInt8.lt_iff_toNat_lt] at h1 ⊢; omega
      rw [if_pos h1, if_neg h2, if_pos h1]; rfl
    · by_cases h2 : d < c
      · rw [if_pos h2, if_neg h1, if_pos h2]
      · rw [if_neg h2, if_neg h1, if_neg h1, if_neg h2, ih]
theorem compareL_step {p q : List (List UInt8)} {i : Nat} {x y : List UInt8} (hp : p[i]? = some x) (hq : q[i]? = some y) :
    compareL (p.drop i) (q.drop i) = if Lib.compareBytes x y ≠ 0 then Lib.compareBytes x y else compareL (p.drop (i + 1)) (q.drop (i + 1)) := by
  obtain ⟨l1, e1⟩ := (List.getElem?_eq_some_iff.1 hp); obtain ⟨l2, e2⟩ := (List.getElem?_eq_some_iff.1 hq)
  rw [List.drop_eq_getElem_cons l1, List.drop_eq_getElem_cons l2, e1, e2]
  rfl
theorem compareL_end {p q : List (List UInt8)} {i : Nat} (h : p.length ≤ i ∨ q.length ≤ i) (hi : i ≤ p.length ∧ i ≤ q.length) : compareL (p.drop i) (q.drop i) = if p.length < q.length then -1 else if q.length < p.length then 1 else 0 := by
  rcases Nat.lt_or_ge i p.length with h1 | h1
  · have hdb : q.drop i = [] := List.drop_eq_nil_of_le (by omega)
    rw [hdb, List.drop_eq_getElem_cons h1, if_neg (by omega), if_pos (by omega)]; rfl
  · have hda : p.drop i = [] := List.drop_eq_nil_of_le (by omega)
    rcases Nat.lt_or_ge i q.length with h2 | h2
    · rw [hda, List.drop_eq_getElem_cons h2, if_pos (by omega)]; rfl
    · have hdb : q.drop i = [] := List.drop_eq_nil_of_le (by omega)
      rw [hda, hdb, if_neg (by omega), if_neg (by omega)]; rfl

/-- Names that are cut off one by one. -/
def CutOK (l : List (List UInt8)) : Prop := (∀ x ∈ l, (47 : UInt8) ∉ x) ∧ (joinS l).length ≤ 9223372036854775807
theorem namesP_cut {p : List UInt8} (h : p.length ≤ 9223372036854775807) : CutOK (namesP p) ∧ joinS (namesP p) = p := by
  unfold namesP
  split
  · rename_i h0; subst h0; exact ⟨⟨by simp, by simp [joinS]⟩, rfl⟩
  · exact ⟨⟨splitS_no p, by rw [joinS_splitS]; exact h⟩, joinS_splitS p⟩
theorem namesP_ne {p : List UInt8} : namesP p ≠ [] ↔ p ≠ [] := by
  unfold namesP; split
  · rename_i h; simp [h]
  · rename_i h; simp [h, splitS_ne]
theorem CutOK.tail {x : List UInt8} {l : List (List UInt8)} (h : CutOK (x :: l)) : CutOK l := by
  refine ⟨fun y hy => h.1 y (List.mem_cons_of_mem _ hy), ?_⟩
  have h2 := h.2
  by_cases hl : l = []
  · subst hl; simp [joinS]
  · rw [joinS_len hl] at h2; omega
theorem CutOK.split {x : List UInt8} {l : List (List UInt8)} (h : CutOK (x :: l)) : splitS (joinS (x :: l)) = x :: l := splitS_joinS (by simp) h.1
theorem namesP_len (p : List UInt8) : (namesP p).length ≤ p.length + 1 := by
  unfold namesP; split
  · simp
  · exact splitS_len p
theorem mem_joinS_le : ∀ {l : List (List UInt8)} {x : List UInt8}, x ∈ l → x.length ≤ (joinS l).length
  | [p], x, h => by simp at h; subst h; exact Nat.le_refl _
  | p :: q :: r, x, h => by
    rw [joinS_len (by simp)]
    rcases List.mem_cons.1 h with rfl | h
    · omega
    · have := mem_joinS_le h; omega
end Go.Proofs.Ytkieecaaijlokaa
