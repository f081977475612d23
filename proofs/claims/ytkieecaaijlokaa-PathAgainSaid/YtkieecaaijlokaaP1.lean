/-
  Names and paths, as lists of bytes.
-/
import Derived.Test.YtkieecaaijlokaaFwJ
import Derived.Lib.IndexLaws
namespace Go.Proofs.Ytkieecaaijlokaa
open Go Go.Fw
set_option linter.unusedVariables false
set_option linter.unusedSimpArgs false

/-- A text's pieces, between any slashes. -/
def splitS : List UInt8 → List (List UInt8)
  | [] => [[]]
  | c :: s => if c = 47 then [] :: splitS s else match splitS s with
    | [] => [[c]]
    | p :: r => (c :: p) :: r
/-- Pieces with a slash between. -/
def joinS : List (List UInt8) → List UInt8
  | [] => []
  | [p] => p
  | p :: q :: r => p ++ 47 :: joinS (q :: r)

theorem splitS_ne : ∀ s, splitS s ≠ []
  | [] => by simp [splitS]
  | c :: s => by
    unfold splitS
    split
    · simp
    · split <;> simp
theorem splitS_ex (s : List UInt8) : ∃ p r, splitS s = p :: r := by
  cases h : splitS s with
  | nil => exact absurd h (splitS_ne s)
  | cons p r => exact ⟨p, r, rfl⟩
theorem joinS_cons {p : List UInt8} {r : List (List UInt8)} (h : r ≠ []) : joinS (p :: r) = p ++ 47 :: joinS r := by
  cases r with
  | nil => exact absurd rfl h
  | cons q r => rfl
theorem joinS_splitS : ∀ s, joinS (splitS s) = s
  | [] => rfl
  | c :: s => by
    have ih := joinS_splitS s
    unfold splitS
    split
    · rename_i hc; subst hc
      rw [joinS_cons (splitS_ne s), ih]; rfl
    · obtain ⟨p, r, hs⟩ := splitS_ex s
      rw [hs] at ih ⊢
      simp only
      cases r with
      | nil => simp [joinS] at ih ⊢; exact ih
      | cons q r => simp only [joinS, List.cons_append] at ih ⊢; rw [ih]
theorem splitS_no : ∀ s, ∀ p ∈ splitS s, (47 : UInt8) ∉ p
  | [], p, hp => by simp [splitS] at hp; subst hp; simp
  | c :: s, p, hp => by
    unfold splitS at hp
    split at hp
    · rcases List.mem_cons.1 hp with rfl | hp
      · simp
      · exact splitS_no s p hp
    · rename_i hc
      obtain ⟨q, r, hs⟩ := splitS_ex s
      rw [hs] at hp
      simp only at hp
      have ih := splitS_no s
      rw [hs] at ih
      rcases List.mem_cons.1 hp with rfl | hp
      · have := ih q (by simp)
        simp only [List.mem_cons, not_or]
        exact ⟨fun e => hc e.symm, this⟩
      · exact ih p (by simp [hp])
theorem splitS_one : ∀ {s : List UInt8}, (47 : UInt8) ∉ s → splitS s = [s]
  | [], _ => rfl
  | c :: s, h => by
    simp only [List.mem_cons, not_or] at h
    unfold splitS
    rw [if_neg (fun e => h.1 e.symm), splitS_one h.2]
theorem splitS_app : ∀ {p : List UInt8} (s : List UInt8), (47 : UInt8) ∉ p → splitS (p ++ 47 :: s) = p :: splitS s
  | [], s, _ => by simp [splitS]
  | c :: p, s, h => by
    simp only [List.mem_cons, not_or] at h
    rw [List.cons_append]
    conv => lhs; unfold splitS
    rw [if_neg (fun e => h.1 e.symm), splitS_app s h.2]
theorem splitS_joinS : ∀ {l : List (List UInt8)}, l ≠ [] → (∀ p ∈ l, (47 : UInt8) ∉ p) → splitS (joinS l) = l
  | [], h, _ => absurd rfl h
  | [p], _, h => splitS_one (h p (by simp))
  | p :: q :: r, _, h => by
    unfold joinS
    rw [splitS_app _ (h p (by simp)), splitS_joinS (by simp) (fun x hx => h x (by simp at hx ⊢; exact .inr hx))]

theorem splitS_idx_none {s : List UInt8} (h : Lib.indexByte s 47 = -1) : splitS s = [s] :=
  splitS_one fun hm => by
    obtain ⟨k, hk⟩ := List.mem_iff_getElem?.1 hm
    exact Lib.indexByte_none h k hk
theorem splitS_idx {s : List UInt8} {o : Nat} (h : Lib.indexByte s 47 = (o : Int)) : splitS s = s.take o :: splitS (s.drop (o + 1)) ∧ o < s.length := by
  obtain ⟨h1, h2⟩ := Lib.indexByte_some h
  have hlt := (List.getElem?_eq_some_iff.1 h1).1
  refine ⟨?_, hlt⟩
  have hd : s.drop o = 47 :: s.drop (o + 1) := by
    rw [List.drop_eq_getElem_cons hlt]
    congr 1
    exact (List.getElem?_eq_some_iff.1 h1).2
  conv => lhs; rw [← List.take_append_drop o s, hd]
  refine splitS_app _ (fun hm => ?_)
  obtain ⟨k, hk⟩ := List.mem_iff_getElem?.1 hm
  rw [List.getElem?_take] at hk
  split at hk
  · rename_i hlk; exact h2 k hlk hk
  · cases hk
theorem idx_cases (s : List UInt8) : Lib.indexByte s 47 = -1 ∨ ∃ o : Nat, Lib.indexByte s 47 = (o : Int) := by
  have := Lib.indexByte_ge s 47
  by_cases h : Lib.indexByte s 47 = -1
  · exact .inl h
  · exact .inr ⟨(Lib.indexByte s 47).toNat, by omega⟩

/-! ## What the functions tell -/
def nameC (c : UInt8) : Prop := 32 ≤ c.toNat ∧ c.toNat ≤ 126 ∧ c.toNat ≠ 47 ∧ c.toNat ≠ 92
instance (c : UInt8) : Decidable (nameC c) := by unfold nameC; infer_instance
def nameOK (s : List UInt8) : Prop := 1 ≤ s.length ∧ s.length ≤ 32 ∧ s ≠ [46] ∧ s ≠ [46, 46] ∧ ∀ c ∈ s, nameC c
instance (s : List UInt8) : Decidable (nameOK s) := by unfold nameOK; infer_instance
def nameP (s : List UInt8) : Int := if nameOK s then 0 else 8
def allOK (l : List (List UInt8)) : Prop := ∀ p ∈ l, nameOK p
instance (l : List (List UInt8)) : Decidable (allOK l) := by unfold allOK; infer_instance
def splitP (p : List UInt8) : Option (List (List UInt8)) :=
  if p = [] then some [] else if 120 < p.length then none else if (splitS p).length ≤ 8 ∧ allOK (splitS p) then some (splitS p) else none
def joinP (l : List (List UInt8)) : Option (List UInt8) :=
  if l.length ≤ 8 ∧ allOK l ∧ (joinS l).length ≤ 120 then some (joinS l) else none
def cleanStep (l : List (List UInt8)) (p : List UInt8) : List (List UInt8) := if p = [] ∨ p = [46] then l else if p = [46, 46] then l.dropLast else l ++ [p]
def cleanL (s : List UInt8) : List (List UInt8) := (splitS s).foldl cleanStep []
/-- The path, and the error. -/
def cleanP (s : List UInt8) : List UInt8 × Int := if 1024 < s.length then ([], 3) else match joinP (cleanL s) with | some p => (p, 0) | none => ([], 8)
def parentP (p : List UInt8) : List UInt8 × List UInt8 × Int :=
  match splitP p with
  | none => ([], [], 8)
  | some l => if l = [] then ([], [], 9) else (joinS l.dropLast, l.getLast?.getD [], 0)
def underP (p dir : List UInt8) : Bool :=
  match splitP p, splitP dir with
  | some a, some b => b.isPrefixOf a
  | _, _ => false
/-- A path's names, whatever they are; the root has none. -/
def namesP (p : List UInt8) : List (List UInt8) := if p = [] then [] else splitS p
def cmpB (a b : List UInt8) : Int := Lib.compareBytes a b
def compareL : List (List UInt8) → List (List UInt8) → Int
  | [], [] => 0
  | [], _ :: _ => -1
  | _ :: _, [] => 1
  | p :: a, q :: b => if Lib.compareBytes p q ≠ 0 then Lib.compareBytes p q else compareL a b
def compareP (a b : List UInt8) : Int := compareL (namesP a) (namesP b)
theorem rune_name {s : List UInt8} {pos : Nat} {c : UInt8} (hc : s[pos]? = some c) : (32 ≤ (Utf8.decode (strB s) pos).1 ∧ (Utf8.decode (strB s) pos).1 ≤ 126 ∧ (Utf8.decode (strB s) pos).1 ≠ 47 ∧ (Utf8.decode (strB s) pos).1 ≠ 92) ↔ nameC c := by
  unfold nameC
  by_cases h : c.toNat < 128
  · rw [decode_lo hc h]
  · have := decode_hi hc (by omega)
    omega
theorem rune_one {s : List UInt8} {pos : Nat} {c : UInt8} (hc : s[pos]? = some c) (h : nameC c) : nxtP s pos = pos + 1 := by
  unfold nxtP
  rw [if_pos (List.getElem?_eq_some_iff.1 hc).1, decode_lo hc (by have := h.2.1; omega)]
theorem nameP_bad {s : List UInt8} {pos : Nat} {c : UInt8} (hc : s[pos]? = some c) (h : ¬ nameC c) : nameP s = 8 := by
  rw [nameP, if_neg (fun h2 => h (h2.2.2.2.2 c (List.mem_of_getElem? hc)))]
theorem nameP_ok {s : List UInt8} (h1 : 1 ≤ s.length) (h2 : s.length ≤ 32) (h3 : s ≠ [46]) (h4 : s ≠ [46, 46]) (h : ∀ (k : Nat) c, k < s.length → s[k]? = some c → nameC c) : nameP s = 0 := by
  rw [nameP, if_pos]
  refine ⟨h1, h2, h3, h4, fun c hc => ?_⟩
  obtain ⟨k, hk⟩ := List.mem_iff_getElem?.1 hc
  exact h k c (List.getElem?_eq_some_iff.1 hk).1 hk
theorem nameP_zero {s : List UInt8} : nameP s = 0 ↔ nameOK s := by unfold nameP; split <;> simp [*]
theorem nameOK_no {s : List UInt8} (h : nameOK s) : (47 : UInt8) ∉ s := fun hm => (h.2.2.2.2 _ hm).2.2.1 rfl
theorem namesP_nil : namesP [] = [] := rfl
theorem namesP_some {p : List UInt8} (h : p ≠ []) : namesP p = splitS p := if_neg h

theorem c47 {c : UInt8} (h : (c.toNat : Int) = 47) : c = 47 := by
  have h2 : c.toNat = 47 := by omega
  exact UInt8.toNat_inj.1 (h2.trans rfl)
/-- Where the reference stands in a text. -/
def PInv (s : List UInt8) (i q : Nat) (A : List (List UInt8)) : Prop :=
  A.length ≤ i ∧ ((i ≤ s.length ∧ q ≤ i ∧ splitS s = A ++ splitS (s.drop q) ∧ (47 : UInt8) ∉ (s.drop q).take (i - q)) ∨ (i = s.length + 1 ∧ splitS s = A))
theorem PInv.zero (s : List UInt8) : PInv s 0 0 [] := ⟨Nat.le_refl _, .inl ⟨Nat.zero_le _, Nat.le_refl _, rfl, by simp⟩⟩
theorem PInv.last {s : List UInt8} {q : Nat} {A : List (List UInt8)} (h : PInv s s.length q A) : q ≤ s.length ∧ PInv s (s.length + 1) (s.length + 1) (A ++ [(s.drop q).take (s.length - q)]) := by
  rcases h with ⟨h0, ⟨_, h1, h2, h3⟩ | ⟨h1, _⟩⟩
  · refine ⟨h1, by simp; omega, .inr ⟨rfl, ?_⟩⟩
    have e : (s.drop q).take (s.length - q) = s.drop q := List.take_of_length_le (by simp)
    rw [e] at h3 ⊢
    rw [h2, splitS_one h3]
  · omega
theorem PInv.slash {s : List UInt8} {i q : Nat} {A : List (List UInt8)} (h : PInv s i q A) (hi : s[i]? = some 47) : q ≤ i ∧ PInv s (i + 1) (i + 1) (A ++ [(s.drop q).take (i - q)]) := by
  have hlt := (List.getElem?_eq_some_iff.1 hi).1
  rcases h with ⟨h0, ⟨_, h1, h2, h3⟩ | ⟨h1, _⟩⟩
  · refine ⟨h1, by simp; omega, .inl ⟨by omega, Nat.le_refl _, ?_, by simp⟩⟩
    have hd : s.drop q = (s.drop q).take (i - q) ++ 47 :: s.drop (i + 1) := by
      conv => lhs; rw [← List.take_append_drop (i - q) (s.drop q)]
      rw [List.drop_drop, show q + (i - q) = i from by omega]
      congr 1
      rw [List.drop_eq_getElem_cons hlt]
      congr 1
      exact (List.getElem?_eq_some_iff.1 hi).2
    rw [h2]
    conv => lhs; rw [hd]
    rw [splitS_app _ h3]
    simp
  · omega
theorem PInv.other {s : List UInt8} {i q : Nat} {A : List (List UInt8)} {c : UInt8} (h : PInv s i q A) (hi : s[i]? = some c) (hc : c ≠ 47) : PInv s (i + 1) q A := by
  have hlt := (List.getElem?_eq_some_iff.1 hi).1
  rcases h with ⟨h0, ⟨_, h1, h2, h3⟩ | ⟨h1, _⟩⟩
  · refine ⟨by omega, .inl ⟨by omega, by omega, h2, ?_⟩⟩
    rw [show i + 1 - q = (i - q) + 1 from by omega, List.take_add_one]
    simp only [List.mem_append, not_or]
    refine ⟨h3, ?_⟩
    rw [List.getElem?_drop, show q + (i - q) = i from by omega, hi]
    simpa using fun e => hc e.symm
  · omega
theorem PInv.done {s : List UInt8} {i q : Nat} {A : List (List UInt8)} (h : PInv s i q A) (hi : s.length < i) : splitS s = A := by
  rcases h with ⟨h0, ⟨h1, _⟩ | ⟨_, h1⟩⟩
  · omega
  · exact h1

abbrev ptr (b : Nat) : Value := .pointer (some ⟨b, 0, none⟩)
def splitE (p : List UInt8) : Int := if (splitP p).isSome then 0 else 8
def splitN (p : List UInt8) : List (List UInt8) := (splitP p).getD []
theorem splitP_bad {p : List UInt8} (h0 : p ≠ []) (h : ¬ ((splitS p).length ≤ 8 ∧ allOK (splitS p))) : splitP p = none := by
  unfold splitP; rw [if_neg h0, if_neg h]; split <;> rfl
theorem splitP_long {p : List UInt8} (h : 120 < p.length) : splitP p = none := by
  unfold splitP; rw [if_neg (by intro e; subst e; simp at h), if_pos h]
theorem splitP_good {p : List UInt8} (h0 : p ≠ []) (h1 : p.length ≤ 120) (h : (splitS p).length ≤ 8 ∧ allOK (splitS p)) : splitP p = some (splitS p) := by
  unfold splitP; rw [if_neg h0, if_neg (by omega), if_pos h]
theorem splitE_none {p : List UInt8} (h : splitP p = none) : splitE p = 8 ∧ splitN p = [] := by simp [splitE, splitN, h]
theorem splitE_some {p : List UInt8} {l : List (List UInt8)} (h : splitP p = some l) : splitE p = 0 ∧ splitN p = l := by simp [splitE, splitN, h]
theorem joinS_split {s p : List UInt8} {q : List (List UInt8)} (h : splitS s = p :: q) : s = joinS (p :: q) := by rw [← h, joinS_splitS]
theorem split_rest {s p : List UInt8} {q : List (List UInt8)} (h : splitS s = p :: q) (hq : q ≠ []) : splitS (joinS q) = q :=
  splitS_joinS hq fun x hx => splitS_no s x (by rw [h]; exact List.mem_cons_of_mem _ hx)
theorem joinS_len {p : List UInt8} {q : List (List UInt8)} (hq : q ≠ []) : (joinS (p :: q)).length = p.length + 1 + (joinS q).length := by rw [joinS_cons hq]; simp; omega

theorem joinS_le : ∀ {l : List (List UInt8)} {k : Nat}, (∀ x ∈ l, x.length ≤ k) → (joinS l).length ≤ (k + 1) * l.length
  | [], k, _ => by simp [joinS]
  | [p], k, h => by have := h p (by simp); simp [joinS]; omega
  | p :: q :: r, k, h => by
    have h1 := h p (by simp)
    have h2 := joinS_le (l := q :: r) (k := k) (fun x hx => h x (List.mem_cons_of_mem _ hx))
    simp only [joinS, List.length_append, List.length_cons] at h2 ⊢
    rw [Nat.mul_succ (k + 1)]
    omega
theorem joinS_snoc : ∀ (a : List (List UInt8)) (x : List UInt8), joinS (a ++ [x]) = if a = [] then x else joinS a ++ 47 :: x
  | [], x => rfl
  | [p], x => by simp [joinS]
  | p :: q :: r, x => by
    have := joinS_snoc (q :: r) x
    simp only [List.cons_append, joinS] at this ⊢
    rw [this]; simp
theorem allOK_len {l : List (List UInt8)} (h : allOK l) : ∀ x ∈ l, x.length ≤ 32 := fun x hx => (h x hx).2.1
def joinE (l : List (List UInt8)) : Int := if (joinP l).isSome then 0 else 8
def joinV (l : List (List UInt8)) : List UInt8 := (joinP l).getD []
theorem joinP_many {l : List (List UInt8)} (h : 8 < l.length) : joinE l = 8 ∧ joinV l = [] := by
  have : joinP l = none := by unfold joinP; rw [if_neg (by intro h2; omega)]
  simp [joinE, joinV, this]
theorem joinP_bad {l : List (List UInt8)} {x : List UInt8} (hx : x ∈ l) (h : ¬ nameOK x) : joinE l = 8 ∧ joinV l = [] := by
  have : joinP l = none := by unfold joinP; rw [if_neg (by intro h2; exact h (h2.2.1 x hx))]
  simp [joinE, joinV, this]
theorem joinP_long {l : List (List UInt8)} (h : 120 < (joinS l).length) : joinE l = 8 ∧ joinV l = [] := by
  have : joinP l = none := by unfold joinP; rw [if_neg (by intro h2; have := h2.2.2; omega)]
  simp [joinE, joinV, this]
theorem joinP_good {l : List (List UInt8)} (h1 : l.length ≤ 8) (h2 : allOK l) (h3 : (joinS l).length ≤ 120) : joinE l = 0 ∧ joinV l = joinS l := by
  have : joinP l = some (joinS l) := by unfold joinP; rw [if_pos ⟨h1, h2, h3⟩]
  simp [joinE, joinV, this]
theorem cleanP_long {s : List UInt8} (h : 1024 < s.length) : cleanP s = ([], 3) := by unfold cleanP; rw [if_pos h]
theorem cleanP_join {s : List UInt8} (h : s.length ≤ 1024) : cleanP s = (joinV (cleanL s), joinE (cleanL s)) := by
  unfold cleanP joinV joinE; rw [if_neg (by omega)]
  cases joinP (cleanL s) <;> rfl
theorem splitS_len : ∀ s : List UInt8, (splitS s).length ≤ s.length + 1
  | [] => by simp [splitS]
  | c :: s => by
    have ih := splitS_len s
    unfold splitS
    split
    · simp; omega
    · obtain ⟨p, r, hs⟩ := splitS_ex s
      rw [hs] at ih ⊢
      simp at ih ⊢; omega
theorem all_take {l : List (List UInt8)} {q : Nat} {x : List UInt8} (h : ∀ (k : Nat) y, k < q → l[k]? = some y → nameOK y) (hx : l[q]? = some x) (hn : nameOK x) : ∀ (k : Nat) y, k < q + 1 → l[k]? = some y → nameOK y := by
  intro k y hk hy
  rcases Nat.lt_or_ge k q with h1 | h1
  · exact h k y h1 hy
  · have : k = q := by omega
    subst this; rw [hx] at hy; cases hy; exact hn
theorem all_all {l : List (List UInt8)} (h : ∀ (k : Nat) y, k < l.length → l[k]? = some y → nameOK y) : allOK l := fun x hx => by
  obtain ⟨k, hk⟩ := List.mem_iff_getElem?.1 hx
  exact h k x (List.getElem?_eq_some_iff.1 hk).1 hk
theorem get_lt {α : Type} {l : List α} {q : Nat} (h : q < l.length) : ∃ x, l[q]? = some x := ⟨l[q], List.getElem?_eq_getElem h⟩
theorem take_snoc {α : Type} {l : List α} {q : Nat} {x : α} (h : l[q]? = some x) : l.take (q + 1) = l.take q ++ [x] := by rw [List.take_add_one, h]; rfl

theorem cleanStep_dot {A : List (List UInt8)} {p : List UInt8} (h : p = [] ∨ p = [46]) : cleanStep A p = A := by unfold cleanStep; rw [if_pos h]
theorem cleanStep_up {A : List (List UInt8)} {p : List UInt8} (h1 : p ≠ []) (h2 : p ≠ [46]) (h : p = [46, 46]) : cleanStep A p = A.take (A.length - 1) := by
  unfold cleanStep; rw [if_neg (by simp [h1, h2]), if_pos h, List.dropLast_eq_take]
theorem cleanStep_in {A : List (List UInt8)} {p : List UInt8} (h1 : p ≠ []) (h2 : p ≠ [46]) (h : p ≠ [46, 46]) : cleanStep A p = A ++ [p] := by
  unfold cleanStep; rw [if_neg (by simp [h1, h2]), if_neg h]
end Go.Proofs.Ytkieecaaijlokaa
