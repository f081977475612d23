/-
  Texts that belong together, laid into one file: P1, W1, W2, W3, W4, W5, Sh, P3, W6, W7, P4, W8, W9, W10, W11, W12, FwK, P5, T2, V1, V2, V3, T3, T4.
-/
import Derived.Lib.IndexLaws
import Derived.Shelf.Strings.Builder1
import Derived.Shelf.Strings.Builder2
import Derived.Shelf.Strings.OnBuilder
import Derived.Shelf.Small.Bits
import Derived.Shelf.Strconv.Itoa0
import Derived.Shelf.Strings.Search1
import Derived.Shelf.Strings.Search2
import Derived.Shelf.Strings.Cut
import Derived.Shelf.LaysM
import Derived.Shelf.Strings.Shaped
import Derived.Shelf.Sort.Plain
import Derived.Shelf.Slices.In.SortNone
import Derived.Test.YtigfbpbnohkokaaGreatProg
import Derived.Shelf.SlIter.Nil
import Derived.Shelf.SortM.Plain
import Derived.Shelf.SortM.SortNone
import Derived.Ground.GgzProg
import Derived.Ground.SlgmProg
import Derived.Test.YtigfbpbnohkokaaGreatQ1
namespace Go.Proofs.YtigfbpbnohkokaaGreat
open Go Go.Fw
set_option linter.unusedVariables false
set_option linter.unusedSimpArgs false

/-- A text's pieces, between any slashes. -/
def splitS : List UInt8 → List (List UInt8)
 | [] => [[]]
 | c :: s => if c = 47 then [] :: splitS s else match splitS s with
  | [] => [[c]]
  | p :: r => (c :: p) :: r
/-- Pieces with a slash between. -/
def joinS : List (List UInt8) → List UInt8
 | [] => []
 | [p] => p
 | p :: q :: r => p ++ 47 :: joinS (q :: r)

theorem splitS_ne : ∀ s, splitS s ≠ []
 | [] => by simp [splitS]
 | c :: s => by
  unfold splitS
  split
  ·simp
  ·split <;> simp
theorem splitS_ex (s : List UInt8) : ∃ p r, splitS s = p :: r := by
 cases h : splitS s with
 | nil => exact absurd h (splitS_ne s)
 | cons p r => exact ⟨p, r, rfl⟩
theorem joinS_cons {p : List UInt8} {r : List (List UInt8)} (h : r ≠ []) : joinS (p :: r) = p ++ 47 :: joinS r := by
 cases r with
 | nil => exact absurd rfl h
 | cons q r => rfl
theorem joinS_splitS : ∀ s, joinS (splitS s) = s
 | [] => rfl
 | c :: s => by
  have ih := joinS_splitS s
  unfold splitS
  split
  ·rename_i hc; subst hc
   rw [joinS_cons (splitS_ne s), ih]; rfl
  ·obtain ⟨p, r, hs⟩ := splitS_ex s
   rw [hs] at ih ⊢
   simp only
   cases r with
   | nil => simp [joinS] at ih ⊢; exact ih
   | cons q r => simp only [joinS, List.cons_append] at ih ⊢; rw [ih]
theorem splitS_no : ∀ s, ∀ p ∈ splitS s, (47 : UInt8) ∉ p
 | [], p, hp => by simp [splitS] at hp; subst hp; simp
 | c :: s, p, hp => by
  unfold splitS at hp
  split at hp
  ·rcases List.mem_cons.1 hp with rfl | hp
   ·simp
   ·exact splitS_no s p hp
  ·rename_i hc
   obtain ⟨q, r, hs⟩ := splitS_ex s
   rw [hs] at hp
   simp only at hp
   have ih := splitS_no s
   rw [hs] at ih
   rcases List.mem_cons.1 hp with rfl | hp
   ·have := ih q (by simp)
    simp only [List.mem_cons, not_or]
    exact ⟨fun e => hc e.symm, this⟩
   ·exact ih p (by simp [hp])
theorem splitS_one : ∀ {s : List UInt8}, (47 : UInt8) ∉ s → splitS s = [s]
 | [], _ => rfl
 | c :: s, h => by
  simp only [List.mem_cons, not_or] at h
  unfold splitS
  rw [if_neg (fun e => h.1 e.symm), splitS_one h.2]
theorem splitS_app : ∀ {p : List UInt8} (s : List UInt8), (47 : UInt8) ∉ p → splitS (p ++ 47 :: s) = p :: splitS s
 | [], s, _ => by simp [splitS]
 | c :: p, s, h => by
  simp only [List.mem_cons, not_or] at h
  rw [List.cons_append]
  conv => lhs; unfold splitS
  rw [if_neg (fun e => h.1 e.symm), splitS_app s h.2]
theorem splitS_joinS : ∀ {l : List (List UInt8)}, l ≠ [] → (∀ p ∈ l, (47 : UInt8) ∉ p) → splitS (joinS l) = l
 | [], h, _ => absurd rfl h
 | [p], _, h => splitS_one (h p (by simp))
 | p :: q :: r, _, h => by
  unfold joinS
  rw [splitS_app _ (h p (by simp)), splitS_joinS (by simp) (fun x hx => h x (by simp at hx ⊢; exact .inr hx))]

theorem splitS_idx_none {s : List UInt8} (h : Lib.indexByte s 47 = -1) : splitS s = [s] :=
 splitS_one fun hm => by
  obtain ⟨k, hk⟩ := List.mem_iff_getElem?.1 hm
  exact Lib.indexByte_none h k hk
theorem splitS_idx {s : List UInt8} {o : Nat} (h : Lib.indexByte s 47 = (o : Int)) : splitS s = s.take o :: splitS (s.drop (o + 1)) ∧ o < s.length := by
 obtain ⟨h1, h2⟩ := Lib.indexByte_some h
 have hlt := (List.getElem?_eq_some_iff.1 h1).1
 refine ⟨?_, hlt⟩
 have hd : s.drop o = 47 :: s.drop (o + 1) := by
  rw [List.drop_eq_getElem_cons hlt]
  congr 1
  exact (List.getElem?_eq_some_iff.1 h1).2
 conv => lhs; rw [← List.take_append_drop o s, hd]
 refine splitS_app _ (fun hm => ?_)
 obtain ⟨k, hk⟩ := List.mem_iff_getElem?.1 hm
 rw [List.getElem?_take] at hk
 split at hk
 ·rename_i hlk; exact h2 k hlk hk
 ·cases hk

/-! ## What the functions tell -/
def nameC (c : UInt8) : Prop := 32 ≤ c.toNat ∧ c.toNat ≤ 126 ∧ c.toNat ≠ 47 ∧ c.toNat ≠ 92
instance (c : UInt8) : Decidable (nameC c) := by unfold nameC; infer_instance
def nameOK (s : List UInt8) : Prop := 1 ≤ s.length ∧ s.length ≤ 32 ∧ s ≠ [46] ∧ s ≠ [46, 46] ∧ ∀ c ∈ s, nameC c
instance (s : List UInt8) : Decidable (nameOK s) := by unfold nameOK; infer_instance
def nameP (s : List UInt8) : Int := if nameOK s then 0 else 8
def allOK (l : List (List UInt8)) : Prop := ∀ p ∈ l, nameOK p
instance (l : List (List UInt8)) : Decidable (allOK l) := by unfold allOK; infer_instance
def splitP (p : List UInt8) : Option (List (List UInt8)) :=
 if p = [] then some [] else if 120 < p.length then none else if (splitS p).length ≤ 8 ∧ allOK (splitS p) then some (splitS p) else none
def joinP (l : List (List UInt8)) : Option (List UInt8) :=
 if l.length ≤ 8 ∧ allOK l ∧ (joinS l).length ≤ 120 then some (joinS l) else none
def cleanStep (l : List (List UInt8)) (p : List UInt8) : List (List UInt8) := if p = [] ∨ p = [46] then l else if p = [46, 46] then l.dropLast else l ++ [p]
def cleanL (s : List UInt8) : List (List UInt8) := (splitS s).foldl cleanStep []
/-- The path, and the error. -/
def cleanP (s : List UInt8) : List UInt8 × Int := if 1024 < s.length then ([], 3) else match joinP (cleanL s) with | some p => (p, 0) | none => ([], 8)
def parentP (p : List UInt8) : List UInt8 × List UInt8 × Int :=
 match splitP p with
 | none => ([], [], 8)
 | some l => if l = [] then ([], [], 9) else (joinS l.dropLast, l.getLast?.getD [], 0)
def underP (p dir : List UInt8) : Bool :=
 match splitP p, splitP dir with
 | some a, some b => b.isPrefixOf a
 | _, _ => false
/-- A path's names, whatever they are; the root has none. -/
def namesP (p : List UInt8) : List (List UInt8) := if p = [] then [] else splitS p
def compareL : List (List UInt8) → List (List UInt8) → Int
 | [], [] => 0
 | [], _ :: _ => -1
 | _ :: _, [] => 1
 | p :: a, q :: b => if Lib.compareBytes p q ≠ 0 then Lib.compareBytes p q else compareL a b
def compareP (a b : List UInt8) : Int := compareL (namesP a) (namesP b)
theorem rune_name {s : List UInt8} {pos : Nat} {c : UInt8} (hc : s[pos]? = some c) : (32 ≤ (Utf8.decode (strB s) pos).1 ∧ (Utf8.decode (strB s) pos).1 ≤ 126 ∧ (Utf8.decode (strB s) pos).1 ≠ 47 ∧ (Utf8.decode (strB s) pos).1 ≠ 92) ↔ nameC c := by
 unfold nameC
 by_cases h : c.toNat < 128
 ·rw [decode_lo hc h]
 ·have := decode_hi hc (by omega)
  omega
theorem rune_one {s : List UInt8} {pos : Nat} {c : UInt8} (hc : s[pos]? = some c) (h : nameC c) : nxtP s pos = pos + 1 := by
 unfold nxtP
 rw [if_pos (List.getElem?_eq_some_iff.1 hc).1, decode_lo hc (by have := h.2.1; omega)]
theorem nameP_bad {s : List UInt8} {pos : Nat} {c : UInt8} (hc : s[pos]? = some c) (h : ¬ nameC c) : nameP s = 8 := by
 rw [nameP, if_neg (fun h2 => h (h2.2.2.2.2 c (List.mem_of_getElem? hc)))]
theorem nameP_ok {s : List UInt8} (h1 : 1 ≤ s.length) (h2 : s.length ≤ 32) (h3 : s ≠ [46]) (h4 : s ≠ [46, 46]) (h : ∀ (k : Nat) c, k < s.length → s[k]? = some c → nameC c) : nameP s = 0 := by
 rw [nameP, if_pos]
 refine ⟨h1, h2, h3, h4, fun c hc => ?_⟩
 obtain ⟨k, hk⟩ := List.mem_iff_getElem?.1 hc
 exact h k c (List.getElem?_eq_some_iff.1 hk).1 hk
theorem nameP_zero {s : List UInt8} : nameP s = 0 ↔ nameOK s := by unfold nameP; split <;> simp [*]
theorem nameOK_no {s : List UInt8} (h : nameOK s) : (47 : UInt8) ∉ s := fun hm => (h.2.2.2.2 _ hm).2.2.1 rfl
theorem namesP_some {p : List UInt8} (h : p ≠ []) : namesP p = splitS p := if_neg h

/-- Where the reference stands in a text. -/
def PInv (s : List UInt8) (i q : Nat) (A : List (List UInt8)) : Prop :=
 A.length ≤ i ∧ ((i ≤ s.length ∧ q ≤ i ∧ splitS s = A ++ splitS (s.drop q) ∧ (47 : UInt8) ∉ (s.drop q).take (i - q)) ∨ (i = s.length + 1 ∧ splitS s = A))
theorem PInv.zero (s : List UInt8) : PInv s 0 0 [] := ⟨Nat.le_refl _, .inl ⟨Nat.zero_le _, Nat.le_refl _, rfl, by simp⟩⟩
theorem PInv.done {s : List UInt8} {i q : Nat} {A : List (List UInt8)} (h : PInv s i q A) (hi : s.length < i) : splitS s = A := by
 rcases h with ⟨h0, ⟨h1, _⟩ | ⟨_, h1⟩⟩
 ·omega
 ·exact h1

abbrev ptr (b : Nat) : Value := .pointer (some ⟨b, 0, none⟩)
def splitE (p : List UInt8) : Int := if (splitP p).isSome then 0 else 8
def splitN (p : List UInt8) : List (List UInt8) := (splitP p).getD []
theorem splitP_bad {p : List UInt8} (h0 : p ≠ []) (h : ¬ ((splitS p).length ≤ 8 ∧ allOK (splitS p))) : splitP p = none := by
 unfold splitP; rw [if_neg h0, if_neg h]; split <;> rfl
theorem splitP_long {p : List UInt8} (h : 120 < p.length) : splitP p = none := by
 unfold splitP; rw [if_neg (by intro e; subst e; simp at h), if_pos h]
theorem splitP_good {p : List UInt8} (h0 : p ≠ []) (h1 : p.length ≤ 120) (h : (splitS p).length ≤ 8 ∧ allOK (splitS p)) : splitP p = some (splitS p) := by
 unfold splitP; rw [if_neg h0, if_neg (by omega), if_pos h]
theorem splitE_none {p : List UInt8} (h : splitP p = none) : splitE p = 8 ∧ splitN p = [] := by simp [splitE, splitN, h]
theorem splitE_some {p : List UInt8} {l : List (List UInt8)} (h : splitP p = some l) : splitE p = 0 ∧ splitN p = l := by simp [splitE, splitN, h]
theorem joinS_split {s p : List UInt8} {q : List (List UInt8)} (h : splitS s = p :: q) : s = joinS (p :: q) := by rw [← h, joinS_splitS]
theorem split_rest {s p : List UInt8} {q : List (List UInt8)} (h : splitS s = p :: q) (hq : q ≠ []) : splitS (joinS q) = q :=
 splitS_joinS hq fun x hx => splitS_no s x (by rw [h]; exact List.mem_cons_of_mem _ hx)
theorem joinS_len {p : List UInt8} {q : List (List UInt8)} (hq : q ≠ []) : (joinS (p :: q)).length = p.length + 1 + (joinS q).length := by rw [joinS_cons hq]; simp; omega

theorem joinS_le : ∀ {l : List (List UInt8)} {k : Nat}, (∀ x ∈ l, x.length ≤ k) → (joinS l).length ≤ (k + 1) * l.length
 | [], k, _ => by simp [joinS]
 | [p], k, h => by have := h p (by simp); simp [joinS]; omega
 | p :: q :: r, k, h => by
  have h1 := h p (by simp)
  have h2 := joinS_le (l := q :: r) (k := k) (fun x hx => h x (List.mem_cons_of_mem _ hx))
  simp only [joinS, List.length_append, List.length_cons] at h2 ⊢
  rw [Nat.mul_succ (k + 1)]
  omega
theorem joinS_snoc : ∀ (a : List (List UInt8)) (x : List UInt8), joinS (a ++ [x]) = if a = [] then x else joinS a ++ 47 :: x
 | [], x => rfl
 | [p], x => by simp [joinS]
 | p :: q :: r, x => by
  have := joinS_snoc (q :: r) x
  simp only [List.cons_append, joinS] at this ⊢
  rw [this]; simp
theorem allOK_len {l : List (List UInt8)} (h : allOK l) : ∀ x ∈ l, x.length ≤ 32 := fun x hx => (h x hx).2.1
def joinE (l : List (List UInt8)) : Int := if (joinP l).isSome then 0 else 8
def joinV (l : List (List UInt8)) : List UInt8 := (joinP l).getD []
theorem joinP_many {l : List (List UInt8)} (h : 8 < l.length) : joinE l = 8 ∧ joinV l = [] := by
 have : joinP l = none := by unfold joinP; rw [if_neg (by intro h2; omega)]
 simp [joinE, joinV, this]
theorem joinP_bad {l : List (List UInt8)} {x : List UInt8} (hx : x ∈ l) (h : ¬ nameOK x) : joinE l = 8 ∧ joinV l = [] := by
 have : joinP l = none := by unfold joinP; rw [if_neg (by intro h2; exact h (h2.2.1 x hx))]
 simp [joinE, joinV, this]
theorem joinP_long {l : List (List UInt8)} (h : 120 < (joinS l).length) : joinE l = 8 ∧ joinV l = [] := by
 have : joinP l = none := by unfold joinP; rw [if_neg (by intro h2; have := h2.2.2; omega)]
 simp [joinE, joinV, this]
theorem joinP_good {l : List (List UInt8)} (h1 : l.length ≤ 8) (h2 : allOK l) (h3 : (joinS l).length ≤ 120) : joinE l = 0 ∧ joinV l = joinS l := by
 have : joinP l = some (joinS l) := by unfold joinP; rw [if_pos ⟨h1, h2, h3⟩]
 simp [joinE, joinV, this]
theorem cleanP_long {s : List UInt8} (h : 1024 < s.length) : cleanP s = ([], 3) := by unfold cleanP; rw [if_pos h]
theorem cleanP_join {s : List UInt8} (h : s.length ≤ 1024) : cleanP s = (joinV (cleanL s), joinE (cleanL s)) := by
 unfold cleanP joinV joinE; rw [if_neg (by omega)]
 cases joinP (cleanL s) <;> rfl
theorem splitS_len : ∀ s : List UInt8, (splitS s).length ≤ s.length + 1
 | [] => by simp [splitS]
 | c :: s => by
  have ih := splitS_len s
  unfold splitS
  split
  ·simp; omega
  ·obtain ⟨p, r, hs⟩ := splitS_ex s
   rw [hs] at ih ⊢
   simp at ih ⊢; omega
theorem all_take {l : List (List UInt8)} {q : Nat} {x : List UInt8} (h : ∀ (k : Nat) y, k < q → l[k]? = some y → nameOK y) (hx : l[q]? = some x) (hn : nameOK x) : ∀ (k : Nat) y, k < q + 1 → l[k]? = some y → nameOK y := by
 intro k y hk hy
 rcases Nat.lt_or_ge k q with h1 | h1
 ·exact h k y h1 hy
 ·have : k = q := by omega
  subst this; rw [hx] at hy; cases hy; exact hn
theorem all_all {l : List (List UInt8)} (h : ∀ (k : Nat) y, k < l.length → l[k]? = some y → nameOK y) : allOK l := fun x hx => by
 obtain ⟨k, hk⟩ := List.mem_iff_getElem?.1 hx
 exact h k x (List.getElem?_eq_some_iff.1 hk).1 hk
theorem get_lt {α : Type} {l : List α} {q : Nat} (h : q < l.length) : ∃ x, l[q]? = some x := ⟨l[q], List.getElem?_eq_getElem h⟩
theorem take_snoc {α : Type} {l : List α} {q : Nat} {x : α} (h : l[q]? = some x) : l.take (q + 1) = l.take q ++ [x] := by rw [List.take_add_one, h]; rfl

theorem cleanStep_dot {A : List (List UInt8)} {p : List UInt8} (h : p = [] ∨ p = [46]) : cleanStep A p = A := by unfold cleanStep; rw [if_pos h]
theorem cleanStep_up {A : List (List UInt8)} {p : List UInt8} (h1 : p ≠ []) (h2 : p ≠ [46]) (h : p = [46, 46]) : cleanStep A p = A.take (A.length - 1) := by
 unfold cleanStep; rw [if_neg (by simp [h1, h2]), if_pos h, List.dropLast_eq_take]
theorem cleanStep_in {A : List (List UInt8)} {p : List UInt8} (h1 : p ≠ []) (h2 : p ≠ [46]) (h : p ≠ [46, 46]) : cleanStep A p = A ++ [p] := by
 unfold cleanStep; rw [if_neg (by simp [h1, h2]), if_neg h]
end Go.Proofs.YtigfbpbnohkokaaGreat

namespace Go.Proofs.YtigfbpbnohkokaaGreat
open Go Go.Fw Go.RowKit Go.Proofs
set_option linter.unusedVariables false
set_option linter.unusedSimpArgs false

set_option maxRecDepth 100000 in
theorem name_c {w0 : World} {s : List UInt8}  : Ret Tryz.prog 110 #[strV s] w0 fun r w' => r = .int .i64 (nameP s) ∧ New w0 w' := by
 have M : Sep w0 [] w0 := St.nil w0
 refine Ret.of_W Tryz.func110 rfl Tryz.ntmps110 rfl ?_
 refine W.seq ?_
 refine W.sub [(0, _)] ⟨rfl, trivial⟩ ?_
 refine W.reg [(0, false)] (by kernel_rfl) ?_
 intro K hK
 refine x_assign rfl rfl rfl rfl ?_
 refine Ex.done (hK _ _ ?_)
 refine At.then_n ?_
 refine W.seq ?_
 refine W.seq ?_
 refine W.sub [(0, _)] ⟨rfl, trivial⟩ ?_
 refine W.reg [(0, false), (1, false), (2, false), (3, false), (4, false), (5, false), (6, false), (7, false), (8, false), (9, false), (10, false), (11, false), (12, false), (13, false), (14, false), (15, false)] (by kernel_rfl) ?_
 intro K hK
 refine x_move rfl rfl rfl rfl ?_
 refine x_lenS rfl rfl rfl rfl Tryz.underlying9 rfl ?_
 refine x_lss _ rfl rfl rfl rfl rfl rfl ?_
 refine x_move rfl rfl rfl rfl ?_
 refine Ex.split 8 rfl (fun hsp1 => ?_) (fun hsp1 => ?_)
 ·
  try simp only [sA, sB, sC, sD, sE, sF, ne_eq, Bool.not_eq_eq_eq_not, Bool.not_true, Bool.not_false, sK, sL, Bool.not_not, gt_iff_lt, ge_iff_le] at hsp1
  refine Ex.skip_ rfl rfl rfl ?_
  refine Ex.skip_ rfl rfl rfl ?_
  refine Ex.skip_ rfl rfl rfl ?_
  refine x_pickT rfl rfl rfl rfl rfl ?_
  refine x_move rfl rfl rfl rfl ?_
  refine Ex.skip_ rfl rfl rfl ?_
  refine Ex.skip_ rfl rfl rfl ?_
  refine x_pickT rfl rfl rfl rfl rfl ?_
  refine x_move rfl rfl rfl rfl ?_
  refine Ex.skip_ rfl rfl rfl ?_
  refine Ex.skip_ rfl rfl rfl ?_
  refine x_pickT rfl rfl rfl rfl rfl ?_
  refine Ex.done (hK _ _ ?_)
  refine At.then_n ?_
  refine W.condT rfl ?_
  refine W.seq ?_
  refine W.sub [] trivial ?_
  refine W.reg [(0, false)] (by kernel_rfl) ?_
  intro K hK
  refine x_assign rfl rfl rfl rfl ?_
  refine Ex.done (hK _ _ ?_)
  refine At.then_n ?_
  refine W.ret ?_
  refine At.then_r ?_
  refine At.ret1 (.tmp 2) rfl ⟨rfl, trivial⟩ ?_
  exact ⟨by rw [nameP, if_neg (fun h => by have := h.1; omega)], M.frm⟩
 ·
  try simp only [sA, sB, sC, sD, sE, sF, ne_eq, Bool.not_eq_eq_eq_not, Bool.not_true, Bool.not_false, sK, sL, Bool.not_not, gt_iff_lt, ge_iff_le] at hsp1
  refine x_move rfl rfl rfl rfl ?_
  refine x_lenS rfl rfl rfl rfl Tryz.underlying9 rfl ?_
  refine x_gtr _ rfl rfl rfl rfl rfl rfl ?_
  refine x_pickF rfl rfl rfl rfl rfl ?_
  refine x_move rfl rfl rfl rfl ?_
  refine Ex.split 13 rfl (fun hsp2 => ?_) (fun hsp2 => ?_)
  ·
   try simp only [sA, sB, sC, sD, sE, sF, ne_eq, Bool.not_eq_eq_eq_not, Bool.not_true, Bool.not_false, sK, sL, Bool.not_not, gt_iff_lt, ge_iff_le] at hsp2
   refine Ex.skip_ rfl rfl rfl ?_
   refine Ex.skip_ rfl rfl rfl ?_
   refine x_pickT rfl rfl rfl rfl rfl ?_
   refine x_move rfl rfl rfl rfl ?_
   refine Ex.skip_ rfl rfl rfl ?_
   refine Ex.skip_ rfl rfl rfl ?_
   refine x_pickT rfl rfl rfl rfl rfl ?_
   refine Ex.done (hK _ _ ?_)
   refine At.then_n ?_
   refine W.condT rfl ?_
   refine W.seq ?_
   refine W.sub [] trivial ?_
   refine W.reg [(0, false)] (by kernel_rfl) ?_
   intro K hK
   refine x_assign rfl rfl rfl rfl ?_
   refine Ex.done (hK _ _ ?_)
   refine At.then_n ?_
   refine W.ret ?_
   refine At.then_r ?_
   refine At.ret1 (.tmp 2) rfl ⟨rfl, trivial⟩ ?_
   exact ⟨by rw [nameP, if_neg (fun h => by have := h.2.1; omega)], M.frm⟩
  ·
   try simp only [sA, sB, sC, sD, sE, sF, ne_eq, Bool.not_eq_eq_eq_not, Bool.not_true, Bool.not_false, sK, sL, Bool.not_not, gt_iff_lt, ge_iff_le] at hsp2
   refine x_move rfl rfl rfl rfl ?_
   refine x_eqS _ rfl rfl rfl rfl rfl rfl ?_
   refine x_pickF rfl rfl rfl rfl rfl ?_
   refine x_move rfl rfl rfl rfl ?_
   refine Ex.split 17 rfl (fun hsp3 => ?_) (fun hsp3 => ?_)
   ·
    try simp only [sA, sB, sC, sD, sE, sF, ne_eq, Bool.not_eq_eq_eq_not, Bool.not_true, Bool.not_false, sK, sL, Bool.not_not, gt_iff_lt, ge_iff_le] at hsp3
    refine Ex.skip_ rfl rfl rfl ?_
    refine Ex.skip_ rfl rfl rfl ?_
    refine x_pickT rfl rfl rfl rfl rfl ?_
    refine Ex.done (hK _ _ ?_)
    refine At.then_n ?_
    refine W.condT rfl ?_
    refine W.seq ?_
    refine W.sub [] trivial ?_
    refine W.reg [(0, false)] (by kernel_rfl) ?_
    intro K hK
    refine x_assign rfl rfl rfl rfl ?_
    refine Ex.done (hK _ _ ?_)
    refine At.then_n ?_
    refine W.ret ?_
    refine At.then_r ?_
    refine At.ret1 (.tmp 2) rfl ⟨rfl, trivial⟩ ?_
    exact ⟨by rw [nameP, if_neg (fun h => h.2.2.1 hsp3)], M.frm⟩
   ·
    try simp only [sA, sB, sC, sD, sE, sF, ne_eq, Bool.not_eq_eq_eq_not, Bool.not_true, Bool.not_false, sK, sL, Bool.not_not, gt_iff_lt, ge_iff_le] at hsp3
    refine x_move rfl rfl rfl rfl ?_
    refine x_eqS _ rfl rfl rfl rfl rfl rfl ?_
    refine x_pickF rfl rfl rfl rfl rfl ?_
    refine Ex.done (hK _ _ ?_)
    refine At.then_n ?_
    refine W.cond rfl (fun hco4 => ?_) (fun hco4 => ?_)
    ·try simp only [sA, sB, sC, sD, sE, sF, ne_eq, Bool.not_eq_eq_eq_not, Bool.not_true, Bool.not_false, sK, sL, Bool.not_not, gt_iff_lt, ge_iff_le] at hco4
     refine W.seq ?_
     refine W.sub [] trivial ?_
     refine W.reg [(0, false)] (by kernel_rfl) ?_
     intro K hK
     refine x_assign rfl rfl rfl rfl ?_
     refine Ex.done (hK _ _ ?_)
     refine At.then_n ?_
     refine W.ret ?_
     refine At.then_r ?_
     refine At.ret1 (.tmp 2) rfl ⟨rfl, trivial⟩ ?_
     exact ⟨by rw [nameP, if_neg (fun h => h.2.2.2.1 hco4)], M.frm⟩
    ·try simp only [sA, sB, sC, sD, sE, sF, ne_eq, Bool.not_eq_eq_eq_not, Bool.not_true, Bool.not_false, sK, sL, Bool.not_not, gt_iff_lt, ge_iff_le] at hco4
     refine W.skip ?_
     refine At.then_n ?_
     refine W.seq ?_
     refine W.seq ?_
     refine W.sub [(0, _)] ⟨rfl, trivial⟩ ?_
     refine W.reg [(0, false), (1, true)] (by kernel_rfl) ?_
     intro K hK
     refine x_move rfl rfl rfl rfl ?_
     refine x_rngS rfl rfl rfl Tryz.underlying9 rfl ?_
     intro brange1 wrange1 hbrange1 hwrange1
     have M := M.acons hbrange1 hwrange1
     refine ⟨trivial, ?_⟩
     refine Ex.done (hK _ _ ?_)
     refine At.then_n ?_
     refine W.block ?_
     refine W.loop (σ := Nat) (fun q => [(22, _)]) (fun q w => q ≤ s.length ∧ (∀ (k : Nat) c, k < q → s[k]? = some c → nameC c) ∧ Sep w0 [(brange1, .stringIter (strB s) q)] w) (fun q => s.length - q) 0 ⟨rfl, trivial⟩ ⟨Nat.zero_le _, fun k c h => by omega, M⟩ ?_
     rintro q w ⟨hle, hall, M⟩
     refine W.seq ?_
     refine W.sub [(22, _)] ⟨rfl, trivial⟩ ?_
     refine W.reg [(0, true), (1, false)] (by kernel_rfl) ?_
     intro K hK
     refine x_nxtU rfl rfl rfl rfl (by first | exact M.at_ 0 rfl | exact M.at_ 1 rfl | exact M.at_ 2 rfl | exact M.at_ 3 rfl | exact M.at_ 4 rfl | exact M.at_ 5 rfl | exact M.at_ 6 rfl | exact M.at_ 7 rfl) ?_
     intro wnext1 hwnext1
     have M := by first | exact M.nxt 0 rfl hwnext1 | exact M.nxt 1 rfl hwnext1 | exact M.nxt 2 rfl hwnext1 | exact M.nxt 3 rfl hwnext1 | exact M.nxt 4 rfl hwnext1 | exact M.nxt 5 rfl hwnext1 | exact M.nxt 6 rfl hwnext1 | exact M.nxt 7 rfl hwnext1
     refine ⟨trivial, ?_⟩
     refine x_ext rfl rfl rfl rfl (nxt0 _ _) ?_
     refine Ex.done (hK _ _ ?_)
     refine At.then_n ?_
     refine W.seq ?_
     refine W.cond rfl (fun hco5 => ?_) (fun hco5 => ?_)
     ·try simp only [sA, sB, sC, sD, sE, sF, ne_eq, Bool.not_eq_eq_eq_not, Bool.not_true, Bool.not_false, sK, sL, Bool.not_not, gt_iff_lt, ge_iff_le] at hco5
      obtain ⟨c, hc⟩ : ∃ c, s[q]? = some c := ⟨s[q], List.getElem?_eq_getElem hco5⟩
      have hr := rune_name hc
      refine W.skip ?_
      refine At.then_n ?_
      refine W.block ?_
      refine W.seq ?_
      refine W.sub [(22, _), (23, _)] ⟨rfl, rfl, trivial⟩ ?_
      refine W.reg [(0, false), (1, false)] (by kernel_rfl) ?_
      intro K hK
      refine x_ext rfl rfl rfl rfl (nxt2 (by assumption)) ?_
      refine x_assign rfl rfl rfl rfl ?_
      refine Ex.done (hK _ _ ?_)
      refine At.then_n ?_
      refine W.seq ?_
      refine W.sub [(4, _), (22, _)] ⟨rfl, rfl, trivial⟩ ?_
      refine W.reg [(0, false), (1, false), (2, false), (3, false), (4, false), (5, false), (6, false), (7, false), (8, false), (9, false), (10, false), (11, false), (12, false), (13, false)] (by kernel_rfl) ?_
      intro K hK
      refine x_move rfl rfl rfl rfl ?_
      refine x_lss _ rfl rfl rfl rfl rfl rfl ?_
      refine x_move rfl rfl rfl rfl ?_
      refine Ex.split 28 rfl (fun hsp4 => ?_) (fun hsp4 => ?_)
      ·
       try simp only [sA, sB, sC, sD, sE, sF, ne_eq, Bool.not_eq_eq_eq_not, Bool.not_true, Bool.not_false, sK, sL, Bool.not_not, gt_iff_lt, ge_iff_le] at hsp4
       refine Ex.skip_ rfl rfl rfl ?_
       refine Ex.skip_ rfl rfl rfl ?_
       refine x_pickT rfl rfl rfl rfl rfl ?_
       refine x_move rfl rfl rfl rfl ?_
       refine Ex.skip_ rfl rfl rfl ?_
       refine Ex.skip_ rfl rfl rfl ?_
       refine x_pickT rfl rfl rfl rfl rfl ?_
       refine x_move rfl rfl rfl rfl ?_
       refine Ex.skip_ rfl rfl rfl ?_
       refine Ex.skip_ rfl rfl rfl ?_
       refine x_pickT rfl rfl rfl rfl rfl ?_
       refine Ex.done (hK _ _ ?_)
       refine At.then_n ?_
       refine W.condT rfl ?_
       refine W.seq ?_
       refine W.sub [] trivial ?_
       refine W.reg [(0, false)] (by kernel_rfl) ?_
       intro K hK
       refine x_assign rfl rfl rfl rfl ?_
       refine Ex.done (hK _ _ ?_)
       refine At.then_n ?_
       refine W.ret ?_
       refine At.blk_r ?_
       refine At.loop_r ?_
       refine At.blk_r ?_
       refine At.then_r ?_
       refine At.ret1 (.tmp 2) rfl ⟨rfl, trivial⟩ ?_
       exact ⟨by rw [nameP_bad hc (fun h => by have := hr.2 h; omega)], M.frm⟩
      ·
       try simp only [sA, sB, sC, sD, sE, sF, ne_eq, Bool.not_eq_eq_eq_not, Bool.not_true, Bool.not_false, sK, sL, Bool.not_not, gt_iff_lt, ge_iff_le] at hsp4
       refine x_move rfl rfl rfl rfl ?_
       refine x_gtr _ rfl rfl rfl rfl rfl rfl ?_
       refine x_pickF rfl rfl rfl rfl rfl ?_
       refine x_move rfl rfl rfl rfl ?_
       refine Ex.split 32 rfl (fun hsp5 => ?_) (fun hsp5 => ?_)
       ·
        try simp only [sA, sB, sC, sD, sE, sF, ne_eq, Bool.not_eq_eq_eq_not, Bool.not_true, Bool.not_false, sK, sL, Bool.not_not, gt_iff_lt, ge_iff_le] at hsp5
        refine Ex.skip_ rfl rfl rfl ?_
        refine Ex.skip_ rfl rfl rfl ?_
        refine x_pickT rfl rfl rfl rfl rfl ?_
        refine x_move rfl rfl rfl rfl ?_
        refine Ex.skip_ rfl rfl rfl ?_
        refine Ex.skip_ rfl rfl rfl ?_
        refine x_pickT rfl rfl rfl rfl rfl ?_
        refine Ex.done (hK _ _ ?_)
        refine At.then_n ?_
        refine W.condT rfl ?_
        refine W.seq ?_
        refine W.sub [] trivial ?_
        refine W.reg [(0, false)] (by kernel_rfl) ?_
        intro K hK
        refine x_assign rfl rfl rfl rfl ?_
        refine Ex.done (hK _ _ ?_)
        refine At.then_n ?_
        refine W.ret ?_
        refine At.blk_r ?_
        refine At.loop_r ?_
        refine At.blk_r ?_
        refine At.then_r ?_
        refine At.ret1 (.tmp 2) rfl ⟨rfl, trivial⟩ ?_
        exact ⟨by rw [nameP_bad hc (fun h => by have := hr.2 h; omega)], M.frm⟩
       ·
        try simp only [sA, sB, sC, sD, sE, sF, ne_eq, Bool.not_eq_eq_eq_not, Bool.not_true, Bool.not_false, sK, sL, Bool.not_not, gt_iff_lt, ge_iff_le] at hsp5
        refine x_move rfl rfl rfl rfl ?_
        refine x_eqi _ rfl rfl rfl rfl rfl rfl ?_
        refine x_pickF rfl rfl rfl rfl rfl ?_
        refine x_move rfl rfl rfl rfl ?_
        refine Ex.split 36 rfl (fun hsp6 => ?_) (fun hsp6 => ?_)
        ·
         try simp only [sA, sB, sC, sD, sE, sF, ne_eq, Bool.not_eq_eq_eq_not, Bool.not_true, Bool.not_false, sK, sL, Bool.not_not, gt_iff_lt, ge_iff_le] at hsp6
         refine Ex.skip_ rfl rfl rfl ?_
         refine Ex.skip_ rfl rfl rfl ?_
         refine x_pickT rfl rfl rfl rfl rfl ?_
         refine Ex.done (hK _ _ ?_)
         refine At.then_n ?_
         refine W.condT rfl ?_
         refine W.seq ?_
         refine W.sub [] trivial ?_
         refine W.reg [(0, false)] (by kernel_rfl) ?_
         intro K hK
         refine x_assign rfl rfl rfl rfl ?_
         refine Ex.done (hK _ _ ?_)
         refine At.then_n ?_
         refine W.ret ?_
         refine At.blk_r ?_
         refine At.loop_r ?_
         refine At.blk_r ?_
         refine At.then_r ?_
         refine At.ret1 (.tmp 2) rfl ⟨rfl, trivial⟩ ?_
         exact ⟨by rw [nameP_bad hc (fun h => by have := hr.2 h; omega)], M.frm⟩
        ·
         try simp only [sA, sB, sC, sD, sE, sF, ne_eq, Bool.not_eq_eq_eq_not, Bool.not_true, Bool.not_false, sK, sL, Bool.not_not, gt_iff_lt, ge_iff_le] at hsp6
         refine x_move rfl rfl rfl rfl ?_
         refine x_eqi _ rfl rfl rfl rfl rfl rfl ?_
         refine x_pickF rfl rfl rfl rfl rfl ?_
         refine Ex.done (hK _ _ ?_)
         refine At.then_n ?_
         refine W.cond rfl (fun hco9 => ?_) (fun hco9 => ?_)
         ·try simp only [sA, sB, sC, sD, sE, sF, ne_eq, Bool.not_eq_eq_eq_not, Bool.not_true, Bool.not_false, sK, sL, Bool.not_not, gt_iff_lt, ge_iff_le] at hco9
          refine W.seq ?_
          refine W.sub [] trivial ?_
          refine W.reg [(0, false)] (by kernel_rfl) ?_
          intro K hK
          refine x_assign rfl rfl rfl rfl ?_
          refine Ex.done (hK _ _ ?_)
          refine At.then_n ?_
          refine W.ret ?_
          refine At.blk_r ?_
          refine At.loop_r ?_
          refine At.blk_r ?_
          refine At.then_r ?_
          refine At.ret1 (.tmp 2) rfl ⟨rfl, trivial⟩ ?_
          exact ⟨by rw [nameP_bad hc (fun h => by have := hr.2 h; omega)], M.frm⟩
         ·try simp only [sA, sB, sC, sD, sE, sF, ne_eq, Bool.not_eq_eq_eq_not, Bool.not_true, Bool.not_false, sK, sL, Bool.not_not, gt_iff_lt, ge_iff_le] at hco9
          refine W.skip ?_
          refine At.blk_n ?_
          exact At.back (q + 1) ⟨rfl, trivial⟩ ⟨by omega, fun k c2 hk hc2 => by
           rcases Nat.lt_or_ge k q with h1 | h1
           ·exact hall k c2 h1 hc2
           ·have : k = q := by omega
            subst this; rw [hc] at hc2; cases hc2; exact hr.1 (by omega), by rw [← rune_one hc (hr.1 (by omega))]; exact M⟩ (by first | omega | (simp only; omega) | (simp; done) | (simp; omega))
     ·try simp only [sA, sB, sC, sD, sE, sF, ne_eq, Bool.not_eq_eq_eq_not, Bool.not_true, Bool.not_false, sK, sL, Bool.not_not, gt_iff_lt, ge_iff_le] at hco5
      refine W.exit ?_
      refine At.then_x ?_
      refine At.loop_x ?_
      refine At.blk_x ?_
      refine At.then_n ?_
      refine W.seq ?_
      refine W.sub [] trivial ?_
      refine W.reg [(0, false)] (by kernel_rfl) ?_
      intro K hK
      refine x_assign rfl rfl rfl rfl ?_
      refine Ex.done (hK _ _ ?_)
      refine At.then_n ?_
      refine W.ret ?_
      refine At.ret1 (.tmp 2) rfl ⟨rfl, trivial⟩ ?_
      exact ⟨by rw [nameP_ok (by omega) (by omega) hsp3 hco4 (fun k c hk hc => hall k c (by omega) hc)], M.frm⟩

end Go.Proofs.YtigfbpbnohkokaaGreat

namespace Go.Proofs.YtigfbpbnohkokaaGreat
open Go Go.Fw Go.RowKit Go.Proofs
set_option linter.unusedVariables false
set_option linter.unusedSimpArgs false

set_option maxRecDepth 100000 in
theorem idxb_c {w0 : World} {s : List UInt8} {c : UInt8}  : Ret Tryz.prog 149 #[strV s, .int .u8 (c.toNat : Int)] w0 fun r w' => r = .int .i64 (Lib.indexByte s c) ∧ New w0 w' := by
 have M : Sep w0 [] w0 := St.nil w0
 refine Ret.of_W Tryz.func149 rfl Tryz.ntmps149 rfl ?_
 refine W.seq ?_
 refine W.sub [(0, _), (1, _)] ⟨rfl, rfl, trivial⟩ ?_
 refine W.reg [(0, false)] (by kernel_rfl) ?_
 intro K hK
 refine x_assign rfl rfl rfl rfl ?_
 refine Ex.done (hK _ _ ?_)
 refine At.then_n ?_
 refine W.seq ?_
 refine W.sub [(0, _), (1, _)] ⟨rfl, rfl, trivial⟩ ?_
 refine W.reg [(0, false), (1, false), (2, true), (3, false)] (by kernel_rfl) ?_
 intro K hK
 refine x_move rfl rfl rfl rfl ?_
 refine x_move rfl rfl rfl rfl ?_
 refine x_xcall rfl rfl rfl rfl rfl Tryz.func166 (by kernel_rfl) (by kernel_rfl) (by kernel_rfl) (by kernel_rfl) (Lib.run_indexByteString _ _ _) trivial ?_
 refine x_assign rfl rfl rfl rfl ?_
 refine Ex.done (hK _ _ ?_)
 refine At.then_n ?_
 refine W.ret ?_
 refine At.ret1 (.tmp 4) rfl ⟨rfl, trivial⟩ ?_
 exact ⟨by simp [strB], M.frm⟩

set_option maxRecDepth 100000 in
theorem index1_c {w0 : World} {s : List UInt8} {c : UInt8}  : Ret Tryz.prog 143 #[strV s, strV [c]] w0 fun r w' => r = .int .i64 (Lib.indexByte s c) ∧ New w0 w' := by
 have M : Sep w0 [] w0 := St.nil w0
 refine Ret.of_W Tryz.func143 rfl Tryz.ntmps143 rfl ?_
 refine W.seq ?_
 refine W.sub [(0, _), (1, _)] ⟨rfl, rfl, trivial⟩ ?_
 refine W.reg [(0, false)] (by kernel_rfl) ?_
 intro K hK
 refine x_assign rfl rfl rfl rfl ?_
 refine Ex.done (hK _ _ ?_)
 refine At.then_n ?_
 refine W.seq ?_
 refine W.sub [(0, _), (1, _)] ⟨rfl, rfl, trivial⟩ ?_
 refine W.reg [(0, false), (1, false), (2, false)] (by kernel_rfl) ?_
 intro K hK
 refine x_move rfl rfl rfl rfl ?_
 refine x_lenS rfl rfl rfl rfl Tryz.underlying9 rfl ?_
 refine x_assign rfl rfl rfl rfl ?_
 refine Ex.done (hK _ _ ?_)
 refine At.then_n ?_
 refine W.seq ?_
 refine W.block ?_
 refine W.seq ?_
 refine W.sub [(0, _), (1, _), (5, _)] ⟨rfl, rfl, rfl, trivial⟩ ?_
 refine W.reg [(0, false), (1, false), (2, false), (3, false), (4, false), (5, false), (6, false), (7, false)] (by kernel_rfl) ?_
 intro K hK
 refine x_move rfl rfl rfl rfl ?_
 refine x_eqi false rfl rfl rfl rfl rfl rfl ?_
 refine x_move rfl rfl rfl rfl ?_
 refine x_move rfl rfl rfl rfl ?_
 refine x_move rfl rfl rfl rfl ?_
 refine x_eqS _ rfl rfl rfl rfl rfl rfl ?_
 refine x_pickF rfl rfl rfl rfl rfl ?_
 refine x_assign rfl rfl rfl rfl ?_
 refine Ex.done (hK _ _ ?_)
 refine At.then_n ?_
 refine W.cond rfl (fun hco1 => ?_) (fun hco1 => ?_)
 ·try simp only [sA, sB, sC, sD, sE, sF, ne_eq, Bool.not_eq_eq_eq_not, Bool.not_true, Bool.not_false, sK, sL, Bool.not_not, gt_iff_lt, ge_iff_le] at hco1
  refine W.seq ?_
  refine W.sub [] trivial ?_
  refine W.reg [(0, false)] (by kernel_rfl) ?_
  intro K hK
  refine x_assign rfl rfl rfl rfl ?_
  refine Ex.done (hK _ _ ?_)
  refine At.then_n ?_
  refine W.ret ?_
  refine At.blk_r ?_
  refine At.then_r ?_
  refine At.ret1 (.tmp 4) rfl ⟨rfl, trivial⟩ ?_
  subst hco1; exact ⟨by simp [Lib.indexByte], M.frm⟩
 ·try simp only [sA, sB, sC, sD, sE, sF, ne_eq, Bool.not_eq_eq_eq_not, Bool.not_true, Bool.not_false, sK, sL, Bool.not_not, gt_iff_lt, ge_iff_le] at hco1
  refine W.seq ?_
  refine W.sub [(0, _), (1, _), (5, _)] ⟨rfl, rfl, rfl, trivial⟩ ?_
  refine W.reg [(0, false), (1, false), (2, false)] (by kernel_rfl) ?_
  intro K hK
  refine x_move rfl rfl rfl rfl ?_
  refine x_eqi true rfl rfl rfl rfl rfl rfl ?_
  refine x_assign rfl rfl rfl rfl ?_
  refine Ex.done (hK _ _ ?_)
  refine At.then_n ?_
  refine W.condT rfl ?_
  refine W.seq ?_
  refine W.sub [(0, _), (1, _)] ⟨rfl, rfl, trivial⟩ ?_
  refine W.reg [(0, false), (1, false), (2, false), (3, true), (4, false)] (by kernel_rfl) ?_
  intro K hK
  refine x_move rfl rfl rfl rfl ?_
  refine x_move rfl rfl rfl rfl ?_
  refine x_ixS 0 rfl rfl rfl Tryz.underlying9 rfl rfl rfl rfl ?_
  refine x_call rfl rfl rfl rfl rfl en149 (idxb_c) ?_
  rintro r wcall1 ⟨rfl, hncall1⟩
  have M := M.new hncall1
  refine ⟨trivial, ?_⟩
  refine x_assign rfl rfl rfl rfl ?_
  refine Ex.done (hK _ _ ?_)
  refine At.then_n ?_
  refine W.ret ?_
  refine At.blk_r ?_
  refine At.then_r ?_
  refine At.ret1 (.tmp 4) rfl ⟨rfl, trivial⟩ ?_
  exact ⟨rfl, M.frm⟩

set_option maxRecDepth 100000 in
theorem slcut_c {w0 : World} {s : List UInt8} (hl : s.length ≤ 9223372036854775807) : Ret Tryz.prog 132 #[strV s, strV [47]] w0 fun r w' => ∃ p q, splitS s = p :: q ∧ r = .tuple #[strV p, strV (joinS q), .bool (decide (q ≠ []))] ∧ New w0 w' := by
 have M : Sep w0 [] w0 := St.nil w0
 refine Ret.of_W Tryz.func132 rfl Tryz.ntmps132 rfl ?_
 refine W.seq ?_
 refine W.sub [(0, _), (1, _)] ⟨rfl, rfl, trivial⟩ ?_
 refine W.reg [(0, false), (1, false), (2, false)] (by kernel_rfl) ?_
 intro K hK
 refine x_assign rfl rfl rfl rfl ?_
 refine x_assign rfl rfl rfl rfl ?_
 refine x_assign rfl rfl rfl rfl ?_
 refine Ex.done (hK _ _ ?_)
 refine At.then_n ?_
 refine W.seq ?_
 refine W.seq ?_
 refine W.sub [(0, _), (1, _)] ⟨rfl, rfl, trivial⟩ ?_
 refine W.reg [(0, false), (1, false), (2, true), (3, false)] (by kernel_rfl) ?_
 intro K hK
 refine x_move rfl rfl rfl rfl ?_
 refine x_move rfl rfl rfl rfl ?_
 refine x_call rfl rfl rfl rfl rfl en143 (index1_c) ?_
 rintro r wcall1 ⟨rfl, hncall1⟩
 have M := M.new hncall1
 refine ⟨trivial, ?_⟩
 refine x_assign rfl rfl rfl rfl ?_
 refine Ex.done (hK _ _ ?_)
 refine At.then_n ?_
 refine W.seq ?_
 refine W.sub [(0, _), (1, _), (7, _)] ⟨rfl, rfl, rfl, trivial⟩ ?_
 refine W.reg [(0, false), (1, false)] (by kernel_rfl) ?_
 intro K hK
 refine x_move rfl rfl rfl rfl ?_
 refine x_geq _ rfl rfl rfl rfl rfl rfl ?_
 refine Ex.done (hK _ _ ?_)
 refine At.then_n ?_
 refine W.cond rfl (fun hco1 => ?_) (fun hco1 => ?_)
 ·try simp only [sA, sB, sC, sD, sE, sF, ne_eq, Bool.not_eq_eq_eq_not, Bool.not_true, Bool.not_false, sK, sL, Bool.not_not, gt_iff_lt, ge_iff_le] at hco1
  obtain ⟨o, ho⟩ : ∃ o : Nat, Lib.indexByte s 47 = (o : Int) := ⟨(Lib.indexByte s 47).toNat, by omega⟩
  obtain ⟨hsp, hlt⟩ := splitS_idx ho
  refine W.seq ?_
  refine W.sub [(0, _), (1, _), (7, _)] ⟨rfl, rfl, rfl, trivial⟩ ?_
  refine W.regD (by kernel_rfl) #[0, 0, 3, 0, 0, 0, 32, 112, 248, 7, 1023, 2047] [(0, false), (1, false), (2, false), (3, false), (4, false), (5, false), (6, false), (7, false), (8, false), (9, false), (10, false), (11, false)] (by kernel_rfl) ?_
  intro K wD1 hK hwD1
  have M := M.drew hwD1
  refine x_move rfl rfl rfl rfl ?_
  refine x_move rfl rfl rfl rfl ?_
  refine x_sshS o rfl rfl rfl Tryz.underlying9 rfl rfl ho (by omega) ?_
  refine x_move rfl rfl rfl rfl ?_
  refine x_move rfl rfl rfl rfl ?_
  refine x_move rfl rfl rfl rfl ?_
  refine x_lenS rfl rfl rfl rfl Tryz.underlying9 rfl ?_
  refine x_add ((o + 1 : Nat) : Int) rfl rfl rfl rfl rfl (by rw [ho]; exact (w64 (by simp; omega) (by simp; omega)).trans (by simp)) ?_
  refine x_sslS (o + 1) rfl rfl rfl Tryz.underlying9 rfl rfl rfl (by omega) ?_
  refine x_assign rfl rfl rfl rfl ?_
  refine x_assign rfl rfl rfl rfl ?_
  refine x_assign rfl rfl rfl rfl ?_
  refine Ex.done (hK _ _ ?_)
  refine At.then_n ?_
  refine W.ret ?_
  refine At.then_r ?_
  refine At.ret3 (.tmp 4) (.tmp 5) (.tmp 6) rfl ⟨rfl, rfl, rfl, trivial⟩ ?_
  exact ⟨_, _, hsp, by rw [joinS_splitS]; simp [splitS_ne], M.frm⟩
 ·try simp only [sA, sB, sC, sD, sE, sF, ne_eq, Bool.not_eq_eq_eq_not, Bool.not_true, Bool.not_false, sK, sL, Bool.not_not, gt_iff_lt, ge_iff_le] at hco1
  have hm : Lib.indexByte s 47 = -1 := by have := Lib.indexByte_ge s 47; omega
  refine W.skip ?_
  refine At.then_n ?_
  refine W.seq ?_
  refine W.sub [(0, _)] ⟨rfl, trivial⟩ ?_
  refine W.reg [(0, false), (1, false), (2, false), (3, false)] (by kernel_rfl) ?_
  intro K hK
  refine x_move rfl rfl rfl rfl ?_
  refine x_assign rfl rfl rfl rfl ?_
  refine x_assign rfl rfl rfl rfl ?_
  refine x_assign rfl rfl rfl rfl ?_
  refine Ex.done (hK _ _ ?_)
  refine At.then_n ?_
  refine W.ret ?_
  refine At.ret3 (.tmp 4) (.tmp 5) (.tmp 6) rfl ⟨rfl, rfl, rfl, trivial⟩ ?_
  exact ⟨s, [], splitS_idx_none hm, rfl, M.frm⟩

set_option maxRecDepth 100000 in
theorem cut_c {w0 : World} {s : List UInt8} (hl : s.length ≤ 9223372036854775807) : Ret Tryz.prog 109 #[strV s, strV [47]] w0 fun r w' => ∃ p q, splitS s = p :: q ∧ r = .tuple #[strV p, strV (joinS q), .bool (decide (q ≠ []))] ∧ New w0 w' := by
 have M : Sep w0 [] w0 := St.nil w0
 refine Ret.of_W Tryz.func109 rfl Tryz.ntmps109 rfl ?_
 refine W.seq ?_
 refine W.sub [(0, _), (1, _)] ⟨rfl, rfl, trivial⟩ ?_
 refine W.reg [(0, false), (1, false), (2, false)] (by kernel_rfl) ?_
 intro K hK
 refine x_assign rfl rfl rfl rfl ?_
 refine x_assign rfl rfl rfl rfl ?_
 refine x_assign rfl rfl rfl rfl ?_
 refine Ex.done (hK _ _ ?_)
 refine At.then_n ?_
 refine W.seq ?_
 refine W.sub [(0, _), (1, _)] ⟨rfl, rfl, trivial⟩ ?_
 refine W.reg [(0, false), (1, false), (2, true), (3, false), (4, false), (5, false), (6, false), (7, false), (8, false)] (by kernel_rfl) ?_
 intro K hK
 refine x_move rfl rfl rfl rfl ?_
 refine x_move rfl rfl rfl rfl ?_
 refine x_call rfl rfl rfl rfl rfl en132 (slcut_c hl) ?_
 rintro r wcall1 ⟨pcall1, qcall1, hscall1, rfl, hncall1⟩
 have M := M.new hncall1
 refine ⟨trivial, ?_⟩
 refine x_ext rfl rfl rfl rfl rfl ?_
 refine x_ext rfl rfl rfl rfl rfl ?_
 refine x_ext rfl rfl rfl rfl rfl ?_
 refine x_assign rfl rfl rfl rfl ?_
 refine x_assign rfl rfl rfl rfl ?_
 refine x_assign rfl rfl rfl rfl ?_
 refine Ex.done (hK _ _ ?_)
 refine At.then_n ?_
 refine W.ret ?_
 refine At.ret3 (.tmp 4) (.tmp 5) (.tmp 6) rfl ⟨rfl, rfl, rfl, trivial⟩ ?_
 exact ⟨_, _, hscall1, rfl, M.frm⟩
end Go.Proofs.YtigfbpbnohkokaaGreat

namespace Go.Proofs.YtigfbpbnohkokaaGreat
open Go Go.Fw Go.RowKit Go.Proofs
set_option linter.unusedVariables false
set_option linter.unusedSimpArgs false

set_option maxRecDepth 100000 in
theorem pieces_c {w0 : World} {s : List UInt8}  : Ret Tryz.prog 76 #[strV s] w0 fun r w' => ∃ b, r = .func (.func 108) #[] #[ptr b] ∧ Sep w0 [(b, .cells [strV s].toArray 9 (0, 0))] w' := by
 have M : Sep w0 [] w0 := St.nil w0
 refine Ret.of_W Tryz.func76 rfl Tryz.ntmps76 rfl ?_
 refine W.seq ?_
 refine W.sub [(0, _)] ⟨rfl, trivial⟩ ?_
 refine W.reg [(0, true), (1, false)] (by kernel_rfl) ?_
 intro K hK
 refine x_box [_] rfl rfl rfl rfl rfl ?_
 intro bbx1 wbx1 hbbx1 hwbx1
 have M := M.acons hbbx1 hwbx1
 refine ⟨trivial, ?_⟩
 refine x_assign rfl rfl rfl rfl ?_
 refine Ex.done (hK _ _ ?_)
 refine At.then_n ?_
 refine W.seq ?_
 refine W.sub [(1, _)] ⟨rfl, trivial⟩ ?_
 refine W.reg [(0, false), (1, false)] (by kernel_rfl) ?_
 intro K hK
 refine x_mkfn rfl rfl rfl rfl rfl ?_
 refine x_assign rfl rfl rfl rfl ?_
 refine Ex.done (hK _ _ ?_)
 refine At.then_n ?_
 refine W.ret ?_
 refine At.ret1 (.tmp 2) rfl ⟨rfl, trivial⟩ ?_
 exact ⟨_, rfl, M⟩

set_option maxRecDepth 100000 in
theorem pieces_it {w0 : World} {b l0 : Nat} {s : List UInt8} {I : List UInt8 → List (List UInt8) → World → Prop} {X : World → Prop} (hl : s.length ≤ 9223372036854775807)
  (hb : ∀ x rest w, I x rest w → w.heap[b]? = some (.cells [strV x].toArray 9 (0, 0)))
  (hput : ∀ x y rest w w1, I x rest w → w1 = w.putObj b (.cells [strV y].toArray 9 (0, 0)) → I y rest w1)
  (hnew : ∀ x rest w w1, I x rest w → New w w1 → I x rest w1)
  (hY : ∀ p rest w, I (joinS (p :: rest)) (p :: rest) w → Yld Tryz.prog l0 [strV p] w fun v w' => ∃ bb : Bool, v = .bool bb ∧ (bb = true → I (joinS (p :: rest)) rest w') ∧ (bb = false → X w'))
  (h0 : I s (splitS s) w0) : Ret Tryz.prog 108 #[.func (.yield l0) #[] #[], ptr b] w0 fun r w' => r = .tuple #[] ∧ ((∃ x, I x [] w') ∨ X w') := by
 refine Ret.of_W Tryz.func108 rfl Tryz.ntmps108 rfl ?_
 refine W.block ?_
 refine W.loop (σ := List UInt8) (fun x => [(0, _), (1, _)]) (fun x w => I x (splitS x) w ∧ x.length ≤ 9223372036854775807) (fun x => x.length) s ⟨rfl, rfl, trivial⟩ ⟨h0, hl⟩ ?_
 rintro x w ⟨hI, hxl⟩
 refine W.block ?_
 refine W.seq ?_
 refine W.sub [(0, _), (1, _)] ⟨rfl, rfl, trivial⟩ ?_
 refine W.reg [(0, false), (1, true), (2, false), (3, false), (4, false), (5, false), (6, false), (7, false), (8, false)] (by kernel_rfl) ?_
 intro K hK
 refine x_ld rfl rfl rfl Tryz.underlying9 rfl rfl (cell_of (hb _ _ _ hI) rfl) ?_
 refine x_call rfl rfl rfl rfl rfl en109 (cut_c hxl) ?_
 rintro r w1 ⟨p, q, hs, rfl, hn⟩
 have hI := hnew _ _ _ _ hI hn
 have hx := joinS_split hs
 rw [hs] at hI
 subst hx
 refine ⟨trivial, ?_⟩
 refine x_move rfl rfl rfl rfl ?_
 refine x_ext rfl rfl rfl rfl rfl ?_
 refine x_ext rfl rfl rfl rfl rfl ?_
 refine x_ext rfl rfl rfl rfl rfl ?_
 refine x_assign rfl rfl rfl rfl ?_
 refine x_assign rfl rfl rfl rfl ?_
 refine x_assign rfl rfl rfl rfl ?_
 refine Ex.done (hK _ _ ?_)
 refine At.then_n ?_
 refine W.seq ?_
 refine W.seq ?_
 refine W.sub [(0, _), (1, _), (3, _), (4, _), (5, _)] ⟨rfl, rfl, rfl, rfl, rfl, trivial⟩ ?_
 refine W.reg [(0, false), (1, false), (2, true), (3, false), (4, false), (5, false), (6, false), (7, false)] (by kernel_rfl) ?_
 intro K hK
 refine x_move rfl rfl rfl rfl ?_
 refine x_move rfl rfl rfl rfl ?_
 refine x_yld rfl rfl rfl rfl rfl (hY p q w1 hI) ?_
 rintro v w2 ⟨bb, rfl, hb1, hb2⟩
 refine ⟨trivial, ?_⟩
 refine x_not _ rfl rfl rfl rfl rfl ?_
 refine x_move rfl rfl rfl rfl ?_
 refine Ex.split 16 rfl (fun hsp1 => ?_) (fun hsp1 => ?_)
 ·
  try simp only [sA, sB, sC, sD, sE, sF, ne_eq, Bool.not_eq_eq_eq_not, Bool.not_true, Bool.not_false, sK, sL, Bool.not_not, gt_iff_lt, ge_iff_le] at hsp1
  refine Ex.skip_ rfl rfl rfl ?_
  refine Ex.skip_ rfl rfl rfl ?_
  refine x_pickT rfl rfl rfl rfl rfl ?_
  refine Ex.done (hK _ _ ?_)
  refine At.then_n ?_
  refine W.condT rfl ?_
  refine W.ret ?_
  refine At.then_r ?_
  refine At.blk_r ?_
  refine At.loop_r ?_
  refine At.blk_r ?_
  refine At.ret0 rfl ?_
  exact ⟨rfl, .inr (hb2 hsp1)⟩
 ·
  try simp only [sA, sB, sC, sD, sE, sF, ne_eq, Bool.not_eq_eq_eq_not, Bool.not_true, Bool.not_false, sK, sL, Bool.not_not, gt_iff_lt, ge_iff_le] at hsp1
  refine x_move rfl rfl rfl rfl ?_
  refine x_not _ rfl rfl rfl rfl rfl ?_
  refine x_pickF rfl rfl rfl rfl rfl ?_
  refine Ex.done (hK _ _ ?_)
  refine At.then_n ?_
  refine W.cond rfl (fun hco2 => ?_) (fun hco2 => ?_)
  ·try simp only [sA, sB, sC, sD, sE, sF, ne_eq, Bool.not_eq_eq_eq_not, Bool.not_true, Bool.not_false, sK, sL, Bool.not_not, gt_iff_lt, ge_iff_le] at hco2
   have hq0 : q = [] := by simpa using hco2
   subst hq0
   refine W.ret ?_
   refine At.then_r ?_
   refine At.blk_r ?_
   refine At.loop_r ?_
   refine At.blk_r ?_
   refine At.ret0 rfl ?_
   exact ⟨rfl, .inl ⟨_, hb1 (by simpa using hsp1)⟩⟩
  ·try simp only [sA, sB, sC, sD, sE, sF, ne_eq, Bool.not_eq_eq_eq_not, Bool.not_true, Bool.not_false, sK, sL, Bool.not_not, gt_iff_lt, ge_iff_le] at hco2
   have hq0 : q ≠ [] := by simpa using hco2
   have hI2 := hb1 (by simpa using hsp1)
   have hjl := joinS_len (p := p) hq0
   refine W.skip ?_
   refine At.then_n ?_
   refine W.sub [(0, _), (1, _), (4, _)] ⟨rfl, rfl, rfl, trivial⟩ ?_
   refine W.reg [(0, false), (1, true)] (by kernel_rfl) ?_
   intro K hK
   refine x_move rfl rfl rfl rfl ?_
   refine x_st [_] _ rfl rfl rfl sz9 rfl rfl rfl rfl (hb _ _ _ hI2) rfl rfl rfl ?_
   intro wst1 hwst1
   have hI3 := hput _ _ _ _ _ hI2 hwst1
   refine ⟨trivial, ?_⟩
   refine Ex.done (hK _ _ ?_)
   refine At.blk_n ?_
   exact At.back (joinS q) ⟨rfl, rfl, trivial⟩ ⟨by rw [split_rest hs hq0]; exact hI3, by omega⟩ (by first | omega | (simp only; omega) | (simp; done) | (simp; omega))
end Go.Proofs.YtigfbpbnohkokaaGreat

namespace Go.Proofs.YtigfbpbnohkokaaGreat
open Go Go.Fw Go.RowKit Go.Proofs
set_option linter.unusedVariables false
set_option linter.unusedSimpArgs false

set_option maxRecDepth 100000 in
theorem split_c {w0 : World} {p : List UInt8}  : Ret Tryz.prog 96 #[strV p] w0 fun r w' => ∃ v Lr, r = .tuple #[v, .int .i64 (splitE p)] ∧ Sep w0 Lr w' ∧ StrsO Lr v (splitN p) := by
 have M : Sep w0 [] w0 := St.nil w0
 refine Ret.of_W Tryz.func96 rfl Tryz.ntmps96 rfl ?_
 refine W.seq ?_
 refine W.sub [(0, _)] ⟨rfl, trivial⟩ ?_
 refine W.reg [(0, true), (1, true)] (by kernel_rfl) ?_
 intro K hK
 refine x_alloc [_] rfl rfl rfl ze47 rfl ?_
 intro bal1 wal1 hbal1 hwal1
 have M := M.acons hbal1 hwal1
 refine ⟨trivial, ?_⟩
 refine x_alloc [_] rfl rfl rfl ze35 rfl ?_
 intro bal2 wal2 hbal2 hwal2
 have M := M.acons hbal2 hwal2
 refine ⟨trivial, ?_⟩
 refine Ex.done (hK _ _ ?_)
 refine At.then_n ?_
 refine W.seq ?_
 refine W.seq ?_
 refine W.sub [(0, _), (2, _), (3, _)] ⟨rfl, rfl, rfl, trivial⟩ ?_
 refine W.reg [(0, false), (1, false)] (by kernel_rfl) ?_
 intro K hK
 refine x_move rfl rfl rfl rfl ?_
 refine x_eqS _ rfl rfl rfl rfl rfl rfl ?_
 refine Ex.done (hK _ _ ?_)
 refine At.then_n ?_
 refine W.cond rfl (fun hco1 => ?_) (fun hco1 => ?_)
 ·try simp only [sA, sB, sC, sD, sE, sF, ne_eq, Bool.not_eq_eq_eq_not, Bool.not_true, Bool.not_false, sK, sL, Bool.not_not, gt_iff_lt, ge_iff_le] at hco1
  refine W.seq ?_
  refine W.sub [(2, _), (3, _)] ⟨rfl, rfl, trivial⟩ ?_
  refine W.reg [(0, true), (1, true)] (by kernel_rfl) ?_
  intro K hK
  refine x_st [_] _ rfl rfl rfl sz47 rfl rfl rfl rfl (by first | exact M.at_ 0 rfl | exact M.at_ 1 rfl | exact M.at_ 2 rfl | exact M.at_ 3 rfl | exact M.at_ 4 rfl | exact M.at_ 5 rfl | exact M.at_ 6 rfl | exact M.at_ 7 rfl) rfl rfl rfl ?_
  intro wst1 hwst1
  have M := by first | exact M.put 0 rfl hwst1 | exact M.put 1 rfl hwst1 | exact M.put 2 rfl hwst1 | exact M.put 3 rfl hwst1 | exact M.put 4 rfl hwst1 | exact M.put 5 rfl hwst1 | exact M.put 6 rfl hwst1 | exact M.put 7 rfl hwst1
  refine ⟨trivial, ?_⟩
  refine x_st [_] _ rfl rfl rfl sz35 rfl rfl rfl rfl (by first | exact M.at_ 0 rfl | exact M.at_ 1 rfl | exact M.at_ 2 rfl | exact M.at_ 3 rfl | exact M.at_ 4 rfl | exact M.at_ 5 rfl | exact M.at_ 6 rfl | exact M.at_ 7 rfl) rfl rfl rfl ?_
  intro wst2 hwst2
  have M := by first | exact M.put 0 rfl hwst2 | exact M.put 1 rfl hwst2 | exact M.put 2 rfl hwst2 | exact M.put 3 rfl hwst2 | exact M.put 4 rfl hwst2 | exact M.put 5 rfl hwst2 | exact M.put 6 rfl hwst2 | exact M.put 7 rfl hwst2
  refine ⟨trivial, ?_⟩
  refine Ex.done (hK _ _ ?_)
  refine At.then_n ?_
  refine W.ret ?_
  refine At.then_r ?_
  refine At.ret2 (.cell 2 47) (.cell 3 35) rfl ⟨⟨_, rfl, run_loadVar1 Tryz.underlying47 rfl (cell_of (by first | exact M.at_ 0 rfl | exact M.at_ 1 rfl | exact M.at_ 2 rfl | exact M.at_ 3 rfl | exact M.at_ 4 rfl | exact M.at_ 5 rfl | exact M.at_ 6 rfl | exact M.at_ 7 rfl) rfl)⟩, ⟨_, rfl, run_loadVar1 Tryz.underlying35 rfl (cell_of (by first | exact M.at_ 0 rfl | exact M.at_ 1 rfl | exact M.at_ 2 rfl | exact M.at_ 3 rfl | exact M.at_ 4 rfl | exact M.at_ 5 rfl | exact M.at_ 6 rfl | exact M.at_ 7 rfl) rfl)⟩, trivial⟩ ?_
  subst hco1; exact ⟨_, [], rfl, M.frm, OwL.nil⟩
 ·try simp only [sA, sB, sC, sD, sE, sF, ne_eq, Bool.not_eq_eq_eq_not, Bool.not_true, Bool.not_false, sK, sL, Bool.not_not, gt_iff_lt, ge_iff_le] at hco1
  refine W.skip ?_
  refine At.then_n ?_
  refine W.seq ?_
  refine W.seq ?_
  refine W.sub [(0, _), (2, _), (3, _)] ⟨rfl, rfl, rfl, trivial⟩ ?_
  refine W.reg [(0, false), (1, false), (2, false)] (by kernel_rfl) ?_
  intro K hK
  refine x_move rfl rfl rfl rfl ?_
  refine x_lenS rfl rfl rfl rfl Tryz.underlying9 rfl ?_
  refine x_gtr _ rfl rfl rfl rfl rfl rfl ?_
  refine Ex.done (hK _ _ ?_)
  refine At.then_n ?_
  refine W.cond rfl (fun hco2 => ?_) (fun hco2 => ?_)
  ·try simp only [sA, sB, sC, sD, sE, sF, ne_eq, Bool.not_eq_eq_eq_not, Bool.not_true, Bool.not_false, sK, sL, Bool.not_not, gt_iff_lt, ge_iff_le] at hco2
   refine W.seq ?_
   refine W.sub [(2, _), (3, _)] ⟨rfl, rfl, trivial⟩ ?_
   refine W.reg [(0, true), (1, true)] (by kernel_rfl) ?_
   intro K hK
   refine x_st [_] _ rfl rfl rfl sz47 rfl rfl rfl rfl (by first | exact M.at_ 0 rfl | exact M.at_ 1 rfl | exact M.at_ 2 rfl | exact M.at_ 3 rfl | exact M.at_ 4 rfl | exact M.at_ 5 rfl | exact M.at_ 6 rfl | exact M.at_ 7 rfl) rfl rfl rfl ?_
   intro wst3 hwst3
   have M := by first | exact M.put 0 rfl hwst3 | exact M.put 1 rfl hwst3 | exact M.put 2 rfl hwst3 | exact M.put 3 rfl hwst3 | exact M.put 4 rfl hwst3 | exact M.put 5 rfl hwst3 | exact M.put 6 rfl hwst3 | exact M.put 7 rfl hwst3
   refine ⟨trivial, ?_⟩
   refine x_st [_] _ rfl rfl rfl sz35 rfl rfl rfl rfl (by first | exact M.at_ 0 rfl | exact M.at_ 1 rfl | exact M.at_ 2 rfl | exact M.at_ 3 rfl | exact M.at_ 4 rfl | exact M.at_ 5 rfl | exact M.at_ 6 rfl | exact M.at_ 7 rfl) rfl rfl rfl ?_
   intro wst4 hwst4
   have M := by first | exact M.put 0 rfl hwst4 | exact M.put 1 rfl hwst4 | exact M.put 2 rfl hwst4 | exact M.put 3 rfl hwst4 | exact M.put 4 rfl hwst4 | exact M.put 5 rfl hwst4 | exact M.put 6 rfl hwst4 | exact M.put 7 rfl hwst4
   refine ⟨trivial, ?_⟩
   refine Ex.done (hK _ _ ?_)
   refine At.then_n ?_
   refine W.ret ?_
   refine At.then_r ?_
   refine At.ret2 (.cell 2 47) (.cell 3 35) rfl ⟨⟨_, rfl, run_loadVar1 Tryz.underlying47 rfl (cell_of (by first | exact M.at_ 0 rfl | exact M.at_ 1 rfl | exact M.at_ 2 rfl | exact M.at_ 3 rfl | exact M.at_ 4 rfl | exact M.at_ 5 rfl | exact M.at_ 6 rfl | exact M.at_ 7 rfl) rfl)⟩, ⟨_, rfl, run_loadVar1 Tryz.underlying35 rfl (cell_of (by first | exact M.at_ 0 rfl | exact M.at_ 1 rfl | exact M.at_ 2 rfl | exact M.at_ 3 rfl | exact M.at_ 4 rfl | exact M.at_ 5 rfl | exact M.at_ 6 rfl | exact M.at_ 7 rfl) rfl)⟩, trivial⟩ ?_
   have h := splitE_none (splitP_long (p := p) (by omega)); exact ⟨_, [], by rw [h.1], M.frm, by rw [h.2]; exact OwL.nil⟩
  ·try simp only [sA, sB, sC, sD, sE, sF, ne_eq, Bool.not_eq_eq_eq_not, Bool.not_true, Bool.not_false, sK, sL, Bool.not_not, gt_iff_lt, ge_iff_le] at hco2
   refine W.skip ?_
   refine At.then_n ?_
   refine W.seq ?_
   refine W.sub [(0, _), (2, _), (3, _)] ⟨rfl, rfl, rfl, trivial⟩ ?_
   refine W.reg [(0, true)] (by kernel_rfl) ?_
   intro K hK
   refine x_alloc [_] rfl rfl rfl ze47 rfl ?_
   intro bal3 wal3 hbal3 hwal3
   have M := M.acons hbal3 hwal3
   refine ⟨trivial, ?_⟩
   refine Ex.done (hK _ _ ?_)
   refine At.then_n ?_
   refine W.seq ?_
   refine W.seq ?_
   refine W.sub [(0, _), (2, _), (3, _), (4, _)] ⟨rfl, rfl, rfl, rfl, trivial⟩ ?_
   refine W.reg [(0, false), (1, true)] (by kernel_rfl) ?_
   intro K hK
   refine x_move rfl rfl rfl rfl ?_
   refine x_call rfl rfl rfl rfl rfl en76 (pieces_c) ?_
   rintro r wcall1 ⟨bcall1, rfl, Mcall1⟩
   have M := M.grow Mcall1
   refine ⟨trivial, ?_⟩
   refine Ex.done (hK _ _ ?_)
   refine At.then_n ?_
   refine W.block ?_
   refine W.sub [(2, _), (3, _), (4, _), (12, _)] ⟨rfl, rfl, rfl, rfl, trivial⟩ ?_
   refine W.range rfl en108 (fun rr hkt hps has hbdrng1 w2 hw2 => ?_)
   have M := M.range hw2
   refine (pieces_it (I := fun x rest w' => ∃ A ov Lo, splitS p = A ++ rest ∧ A.length ≤ 8 ∧ allOK A ∧ StrsO Lo ov A ∧ Sep w0 ([(bal3, Obj.cells [ov].toArray 47 (0, 0)), (bal2, Obj.cells [Value.int .i64 0].toArray 35 (0, 0)), (bal1, Obj.cells [Value.slice none 0 0].toArray 47 (0, 0)), (bcall1, Obj.cells [strV x].toArray 9 (0, 0)), (wcall1.heap.size, .deferred (some [])), (wcall1.heap.size + 1, .loop { rr with state := .ready, pending := none })] ++ Lo) w') (X := fun w' => ∃ x ov Lo, splitP p = none ∧ Sep w0 ([(bal3, Obj.cells [ov].toArray 47 (0, 0)), (bal2, Obj.cells [Value.int .i64 8].toArray 35 (0, 0)), (bal1, Obj.cells [Value.slice none 0 0].toArray 47 (0, 0)), (bcall1, Obj.cells [strV x].toArray 9 (0, 0)), (wcall1.heap.size, .deferred (some [])), (wcall1.heap.size + 1, .loop { rr with state := .done, pending := some .ret })] ++ Lo) w') (by omega) ?_ ?_ ?_ ?_ ⟨[], _, [], rfl, by simp, by simp [allOK], OwL.nil, by simpa using M⟩).mono ?_
   ·rintro x rest w' ⟨A, ov, Lo, hsp, hA8, hAok, how, M⟩
    exact M.at_ 3 rfl
   ·rintro x y rest w' w1 ⟨A, ov, Lo, hsp, hA8, hAok, how, M⟩ hw1
    have M := M.put 3 rfl hw1
    exact ⟨A, ov, Lo, hsp, hA8, hAok, how, M⟩
   ·rintro x rest w' w1 ⟨A, ov, Lo, hsp, hA8, hAok, how, M⟩ hn
    have M := M.new hn
    exact ⟨A, ov, Lo, hsp, hA8, hAok, how, M⟩
   ·rintro n rest w' ⟨A, ov, Lo, hsp, hA8, hAok, how, M⟩
    obtain ⟨p0, cap0, rfl⟩ := how.shape
    refine Yld.one (M.at_ 5 rfl) hkt hps rfl has ?_
    refine W.sub [(2, _), (3, _), (4, _), (13, _)] ⟨rfl, rfl, rfl, rfl, trivial⟩ ?_
    refine W.reg [(0, false)] (by kernel_rfl) ?_
    intro K hK
    refine x_assign rfl rfl rfl rfl ?_
    refine Ex.done (hK _ _ ?_)
    refine At.asg hbdrng1 (M.at_ 5 rfl) ?_
    generalize hwb : World.putObj _ _ _ = wb
    have M := M.put 5 rfl hwb.symm
    refine W.block ?_
    refine W.seq ?_
    refine W.seq ?_
    refine W.sub [(2, _), (3, _), (4, _), (5, _)] ⟨rfl, rfl, rfl, rfl, trivial⟩ ?_
    refine W.reg [(0, false), (1, true), (2, false), (3, false), (4, false), (5, false), (6, false), (7, false)] (by kernel_rfl) ?_
    intro K hK
    refine x_move rfl rfl rfl rfl ?_
    refine x_call rfl rfl rfl rfl rfl en110 (name_c) ?_
    rintro r wcall2 ⟨rfl, hncall2⟩
    have M := M.new hncall2
    refine ⟨trivial, ?_⟩
    refine x_nei _ rfl rfl rfl rfl rfl rfl ?_
    refine x_move rfl rfl rfl rfl ?_
    refine Ex.split 17 rfl (fun hsp1 => ?_) (fun hsp1 => ?_)
    ·
     try simp only [sA, sB, sC, sD, sE, sF, ne_eq, Bool.not_eq_eq_eq_not, Bool.not_true, Bool.not_false, sK, sL, Bool.not_not, gt_iff_lt, ge_iff_le] at hsp1
     refine Ex.skip_ rfl rfl rfl ?_
     refine Ex.skip_ rfl rfl rfl ?_
     refine Ex.skip_ rfl rfl rfl ?_
     refine x_pickT rfl rfl rfl rfl rfl ?_
     refine Ex.done (hK _ _ ?_)
     refine At.then_n ?_
     refine W.condT rfl ?_
     refine W.seq ?_
     refine W.sub [(2, _), (3, _)] ⟨rfl, rfl, trivial⟩ ?_
     refine W.reg [(0, true), (1, true)] (by kernel_rfl) ?_
     intro K hK
     refine x_st [_] _ rfl rfl rfl sz47 rfl rfl rfl rfl (by first | exact M.at_ 0 rfl | exact M.at_ 1 rfl | exact M.at_ 2 rfl | exact M.at_ 3 rfl | exact M.at_ 4 rfl | exact M.at_ 5 rfl | exact M.at_ 6 rfl | exact M.at_ 7 rfl) rfl rfl rfl ?_
     intro wst5 hwst5
     have M := by first | exact M.put 0 rfl hwst5 | exact M.put 1 rfl hwst5 | exact M.put 2 rfl hwst5 | exact M.put 3 rfl hwst5 | exact M.put 4 rfl hwst5 | exact M.put 5 rfl hwst5 | exact M.put 6 rfl hwst5 | exact M.put 7 rfl hwst5
     refine ⟨trivial, ?_⟩
     refine x_st [_] _ rfl rfl rfl sz35 rfl rfl rfl rfl (by first | exact M.at_ 0 rfl | exact M.at_ 1 rfl | exact M.at_ 2 rfl | exact M.at_ 3 rfl | exact M.at_ 4 rfl | exact M.at_ 5 rfl | exact M.at_ 6 rfl | exact M.at_ 7 rfl) rfl rfl rfl ?_
     intro wst6 hwst6
     have M := by first | exact M.put 0 rfl hwst6 | exact M.put 1 rfl hwst6 | exact M.put 2 rfl hwst6 | exact M.put 3 rfl hwst6 | exact M.put 4 rfl hwst6 | exact M.put 5 rfl hwst6 | exact M.put 6 rfl hwst6 | exact M.put 7 rfl hwst6
     refine ⟨trivial, ?_⟩
     refine Ex.done (hK _ _ ?_)
     refine At.then_n ?_
     refine W.ret ?_
     refine At.then_r ?_
     refine At.blk_r ?_
     refine At.rnd_r (by first | exact M.at_ 0 rfl | exact M.at_ 1 rfl | exact M.at_ 2 rfl | exact M.at_ 3 rfl | exact M.at_ 4 rfl | exact M.at_ 5 rfl | exact M.at_ 6 rfl | exact M.at_ 7 rfl) ?_
     generalize hwz : World.putObj _ _ _ = wz
     have M := M.put 5 rfl hwz.symm
     exact ⟨false, rfl, fun h => (by cases h), fun _ => ⟨_, _, Lo, splitP_bad hco1 (fun h => hsp1 (nameP_zero.2 (h.2 n (by rw [hsp]; simp)))), M⟩⟩
    ·
     try simp only [sA, sB, sC, sD, sE, sF, ne_eq, Bool.not_eq_eq_eq_not, Bool.not_true, Bool.not_false, sK, sL, Bool.not_not, gt_iff_lt, ge_iff_le] at hsp1
     refine x_ld rfl rfl rfl Tryz.underlying47 rfl rfl (cell_of (by first | exact M.at_ 0 rfl | exact M.at_ 1 rfl | exact M.at_ 2 rfl | exact M.at_ 3 rfl | exact M.at_ 4 rfl | exact M.at_ 5 rfl | exact M.at_ 6 rfl | exact M.at_ 7 rfl) rfl) ?_
     refine x_len rfl rfl rfl rfl Tryz.underlying47 rfl ?_
     refine x_eqi _ rfl rfl rfl rfl rfl rfl ?_
     refine x_pickF rfl rfl rfl rfl rfl ?_
     refine Ex.done (hK _ _ ?_)
     refine At.then_n ?_
     refine W.cond rfl (fun hco4 => ?_) (fun hco4 => ?_)
     ·try simp only [sA, sB, sC, sD, sE, sF, ne_eq, Bool.not_eq_eq_eq_not, Bool.not_true, Bool.not_false, sK, sL, Bool.not_not, gt_iff_lt, ge_iff_le] at hco4
      refine W.seq ?_
      refine W.sub [(2, _), (3, _)] ⟨rfl, rfl, trivial⟩ ?_
      refine W.reg [(0, true), (1, true)] (by kernel_rfl) ?_
      intro K hK
      refine x_st [_] _ rfl rfl rfl sz47 rfl rfl rfl rfl (by first | exact M.at_ 0 rfl | exact M.at_ 1 rfl | exact M.at_ 2 rfl | exact M.at_ 3 rfl | exact M.at_ 4 rfl | exact M.at_ 5 rfl | exact M.at_ 6 rfl | exact M.at_ 7 rfl) rfl rfl rfl ?_
      intro wst7 hwst7
      have M := by first | exact M.put 0 rfl hwst7 | exact M.put 1 rfl hwst7 | exact M.put 2 rfl hwst7 | exact M.put 3 rfl hwst7 | exact M.put 4 rfl hwst7 | exact M.put 5 rfl hwst7 | exact M.put 6 rfl hwst7 | exact M.put 7 rfl hwst7
      refine ⟨trivial, ?_⟩
      refine x_st [_] _ rfl rfl rfl sz35 rfl rfl rfl rfl (by first | exact M.at_ 0 rfl | exact M.at_ 1 rfl | exact M.at_ 2 rfl | exact M.at_ 3 rfl | exact M.at_ 4 rfl | exact M.at_ 5 rfl | exact M.at_ 6 rfl | exact M.at_ 7 rfl) rfl rfl rfl ?_
      intro wst8 hwst8
      have M := by first | exact M.put 0 rfl hwst8 | exact M.put 1 rfl hwst8 | exact M.put 2 rfl hwst8 | exact M.put 3 rfl hwst8 | exact M.put 4 rfl hwst8 | exact M.put 5 rfl hwst8 | exact M.put 6 rfl hwst8 | exact M.put 7 rfl hwst8
      refine ⟨trivial, ?_⟩
      refine Ex.done (hK _ _ ?_)
      refine At.then_n ?_
      refine W.ret ?_
      refine At.then_r ?_
      refine At.blk_r ?_
      refine At.rnd_r (by first | exact M.at_ 0 rfl | exact M.at_ 1 rfl | exact M.at_ 2 rfl | exact M.at_ 3 rfl | exact M.at_ 4 rfl | exact M.at_ 5 rfl | exact M.at_ 6 rfl | exact M.at_ 7 rfl) ?_
      generalize hwz : World.putObj _ _ _ = wz
      have M := M.put 5 rfl hwz.symm
      exact ⟨false, rfl, fun h => (by cases h), fun _ => ⟨_, _, Lo, splitP_bad hco1 (fun h => by have := h.1; rw [hsp] at this; simp at this; omega), M⟩⟩
     ·try simp only [sA, sB, sC, sD, sE, sF, ne_eq, Bool.not_eq_eq_eq_not, Bool.not_true, Bool.not_false, sK, sL, Bool.not_not, gt_iff_lt, ge_iff_le] at hco4
      refine W.skip ?_
      refine At.then_n ?_
      refine W.sub [(4, _), (5, _)] ⟨rfl, rfl, trivial⟩ ?_
      refine W.reg [(0, false), (1, false), (2, true), (3, true), (4, true)] (by kernel_rfl) ?_
      intro K hK
      refine x_ld rfl rfl rfl Tryz.underlying47 rfl rfl (cell_of (by first | exact M.at_ 0 rfl | exact M.at_ 1 rfl | exact M.at_ 2 rfl | exact M.at_ 3 rfl | exact M.at_ 4 rfl | exact M.at_ 5 rfl | exact M.at_ 6 rfl | exact M.at_ 7 rfl) rfl) ?_
      refine x_move rfl rfl rfl rfl ?_
      refine x_bs1 (cs := [strV n]) rfl rfl rfl Tryz.underlying47 sz9 ze9 (Z := [_]) rfl rfl (by decide) (by decide) rfl rfl rfl ?_
      intro bbs1 wbs1 hbbs1 hwbs1
      have M0 := M.acons hbbs1 hwbs1
      have hslbs1 : Sl wbs1 (.slice (some ⟨bbs1, 0, none⟩) 1 1) 1 1 [strV n] := .inr ⟨bbs1, 0, 1, _, _, _, rfl, by omega, M0.at_ 0 rfl, rfl, rfl⟩
      have M := M0.tail
      refine ⟨trivial, ?_⟩
      refine x_apL rfl rfl rfl rfl Tryz.underlying47 sz9 ze9 rfl by9 rfl rfl how (M.perm (List.perm_append_comm (l₁ := [_, _, _, _, _, _]) (l₂ := Lo))) (strCs_one _) (hslbs1.src Tryz.underlying47 (by intro u hu; simp at hu; subst hu; rfl)) (by first | omega | (simp; omega)) (by decide) (by first | omega | (simp; omega)) ?_
      intro Lo v6 wap1 how M
      have M := M.perm List.perm_append_comm
      obtain ⟨p6, cap6, rfl⟩ := how.shape
      refine ⟨trivial, ?_⟩
      refine x_st [_] _ rfl rfl rfl sz47 rfl rfl rfl rfl (by first | exact M.at_ 0 rfl | exact M.at_ 1 rfl | exact M.at_ 2 rfl | exact M.at_ 3 rfl | exact M.at_ 4 rfl | exact M.at_ 5 rfl | exact M.at_ 6 rfl | exact M.at_ 7 rfl) rfl rfl rfl ?_
      intro wst9 hwst9
      have M := by first | exact M.put 0 rfl hwst9 | exact M.put 1 rfl hwst9 | exact M.put 2 rfl hwst9 | exact M.put 3 rfl hwst9 | exact M.put 4 rfl hwst9 | exact M.put 5 rfl hwst9 | exact M.put 6 rfl hwst9 | exact M.put 7 rfl hwst9
      refine ⟨trivial, ?_⟩
      refine Ex.done (hK _ _ ?_)
      refine At.blk_n ?_
      refine At.rnd_n (by first | exact M.at_ 0 rfl | exact M.at_ 1 rfl | exact M.at_ 2 rfl | exact M.at_ 3 rfl | exact M.at_ 4 rfl | exact M.at_ 5 rfl | exact M.at_ 6 rfl | exact M.at_ 7 rfl) ?_
      generalize hwz : World.putObj _ _ _ = wz
      have M := M.put 5 rfl hwz.symm
      have hnz : nameOK n := nameP_zero.1 (by simpa using hsp1)
      refine ⟨true, rfl, fun _ => ⟨A ++ [n], _, Lo, by rw [hsp]; simp, by simp; omega, fun x hx => ?_, strsO_snoc how, M⟩, fun h => (by cases h)⟩
      rcases List.mem_append.1 hx with h | h
      ·exact hAok x h
      ·simp at h; subst h; exact hnz
   ·rintro v w3 ⟨rfl, ⟨x, ⟨A, ov, Lo, hsp, hA8, hAok, how, M⟩⟩ | HX⟩
    ·refine .inl ⟨.ready, by simp, M.at_ 5 rfl, ?_⟩
     generalize hwx : World.putObj _ _ _ = w4
     have M := M.put 5 rfl hwx.symm
     simp only [List.append_nil] at hsp
     have hgood := splitP_good hco1 (by omega) (by rw [hsp]; exact ⟨hA8, hAok⟩)
     have hE := splitE_some hgood
     obtain ⟨p0, cap0, rfl⟩ := how.shape
     refine At.blk_n ?_
     refine At.then_n ?_
     refine W.seq ?_
     refine W.sub [(2, _), (3, _), (4, _)] ⟨rfl, rfl, rfl, trivial⟩ ?_
     refine W.reg [(0, false), (1, true), (2, true)] (by kernel_rfl) ?_
     intro K hK
     refine x_ld rfl rfl rfl Tryz.underlying47 rfl rfl (cell_of (by first | exact M.at_ 0 rfl | exact M.at_ 1 rfl | exact M.at_ 2 rfl | exact M.at_ 3 rfl | exact M.at_ 4 rfl | exact M.at_ 5 rfl | exact M.at_ 6 rfl | exact M.at_ 7 rfl) rfl) ?_
     refine x_st [_] _ rfl rfl rfl sz47 rfl rfl rfl rfl (by first | exact M.at_ 0 rfl | exact M.at_ 1 rfl | exact M.at_ 2 rfl | exact M.at_ 3 rfl | exact M.at_ 4 rfl | exact M.at_ 5 rfl | exact M.at_ 6 rfl | exact M.at_ 7 rfl) rfl rfl rfl ?_
     intro wst10 hwst10
     have M := by first | exact M.put 0 rfl hwst10 | exact M.put 1 rfl hwst10 | exact M.put 2 rfl hwst10 | exact M.put 3 rfl hwst10 | exact M.put 4 rfl hwst10 | exact M.put 5 rfl hwst10 | exact M.put 6 rfl hwst10 | exact M.put 7 rfl hwst10
     refine ⟨trivial, ?_⟩
     refine x_st [_] _ rfl rfl rfl sz35 rfl rfl rfl rfl (by first | exact M.at_ 0 rfl | exact M.at_ 1 rfl | exact M.at_ 2 rfl | exact M.at_ 3 rfl | exact M.at_ 4 rfl | exact M.at_ 5 rfl | exact M.at_ 6 rfl | exact M.at_ 7 rfl) rfl rfl rfl ?_
     intro wst11 hwst11
     have M := by first | exact M.put 0 rfl hwst11 | exact M.put 1 rfl hwst11 | exact M.put 2 rfl hwst11 | exact M.put 3 rfl hwst11 | exact M.put 4 rfl hwst11 | exact M.put 5 rfl hwst11 | exact M.put 6 rfl hwst11 | exact M.put 7 rfl hwst11
     refine ⟨trivial, ?_⟩
     refine Ex.done (hK _ _ ?_)
     refine At.then_n ?_
     refine W.ret ?_
     refine At.mark (M.at_ 4 rfl) ?_
     generalize hwy : World.putObj _ _ _ = w5
     have M := M.put 4 rfl hwy.symm
     refine At.ret2 (.cell 2 47) (.cell 3 35) rfl ⟨⟨_, rfl, run_loadVar1 Tryz.underlying47 rfl (cell_of (by first | exact M.at_ 0 rfl | exact M.at_ 1 rfl | exact M.at_ 2 rfl | exact M.at_ 3 rfl | exact M.at_ 4 rfl | exact M.at_ 5 rfl | exact M.at_ 6 rfl | exact M.at_ 7 rfl) rfl)⟩, ⟨_, rfl, run_loadVar1 Tryz.underlying35 rfl (cell_of (by first | exact M.at_ 0 rfl | exact M.at_ 1 rfl | exact M.at_ 2 rfl | exact M.at_ 3 rfl | exact M.at_ 4 rfl | exact M.at_ 5 rfl | exact M.at_ 6 rfl | exact M.at_ 7 rfl) rfl)⟩, trivial⟩ ?_
     rw [hsp] at hE; exact ⟨_, Lo, by rw [hE.1], (M.sub (List.sublist_append_right [_, _, _, _, _, _] Lo)), by rw [hE.2]; exact how⟩
    ·obtain ⟨x, ov, Lo, hbad, M⟩ := HX
     have hE := splitE_none hbad
     refine .inr ⟨.done, _, by simp, M.at_ 5 rfl, ?_⟩
     generalize hwx : World.putObj _ _ _ = w4
     have M := M.put 5 rfl hwx.symm
     refine W.ret ?_
     refine At.blk_r ?_
     refine At.then_r ?_
     refine At.mark (M.at_ 4 rfl) ?_
     generalize hwy : World.putObj _ _ _ = w5
     have M := M.put 4 rfl hwy.symm
     refine At.ret2 (.cell 2 47) (.cell 3 35) rfl ⟨⟨_, rfl, run_loadVar1 Tryz.underlying47 rfl (cell_of (by first | exact M.at_ 0 rfl | exact M.at_ 1 rfl | exact M.at_ 2 rfl | exact M.at_ 3 rfl | exact M.at_ 4 rfl | exact M.at_ 5 rfl | exact M.at_ 6 rfl | exact M.at_ 7 rfl) rfl)⟩, ⟨_, rfl, run_loadVar1 Tryz.underlying35 rfl (cell_of (by first | exact M.at_ 0 rfl | exact M.at_ 1 rfl | exact M.at_ 2 rfl | exact M.at_ 3 rfl | exact M.at_ 4 rfl | exact M.at_ 5 rfl | exact M.at_ 6 rfl | exact M.at_ 7 rfl) rfl)⟩, trivial⟩ ?_
     exact ⟨_, [], by rw [hE.1], M.frm, by rw [hE.2]; exact OwL.nil⟩
end Go.Proofs.YtigfbpbnohkokaaGreat

namespace Go.Proofs.YtigfbpbnohkokaaGreat
open Go Go.Fw Go.RowKit Go.Proofs
set_option linter.unusedVariables false
set_option linter.unusedSimpArgs false

end Go.Proofs.YtigfbpbnohkokaaGreat

namespace Go.Proofs
open Go.Shelf
def Tryz.lays156_ren : Go.Shelf.Ren := ⟨fun | 156 => 111 | 165 => 133 | 166 => 134 | 169 => 135 | 240 => 144 | 241 => 145 | 276 => 153 | 277 => 154 | n => n, fun | 31 => 47 | 9 => 9 | 3 => 3 | 4 => 4 | 0 => 0 | 20 => 20 | 72 => 206 | 76 => 210 | 70 => 204 | 37 => 27 | 75 => 209 | 127 => 214 | 164 => 220 | 5 => 5 | 80 => 212 | n => n, fun | n => n⟩
theorem Tryz.lays156 : Go.Proofs.Lays.n156 Tryz.prog Tryz.lays156_ren := {
 mixed := by kernel_rfl
 f156 := Tryz.func111.trans (congrArg some (by kernel_rfl))
 f165 := Tryz.func133.trans (congrArg some (by kernel_rfl))
 f166 := Tryz.func134.trans (congrArg some (by kernel_rfl))
 f169 := Tryz.func135.trans (congrArg some (by kernel_rfl))
 f240 := Tryz.func144.trans (congrArg some (by kernel_rfl))
 f241 := Tryz.func145.trans (congrArg some (by kernel_rfl))
 f276 := Tryz.func153.trans (congrArg some (by kernel_rfl))
 f277 := Tryz.func154.trans (congrArg some (by kernel_rfl))
 t0 := Tryz.underlying0
 a0 := Tryz.isAgg0
 z0 := Tryz.sizeOf0
 v0 := Tryz.zeroValue0
 t3 := Tryz.underlying3
 a3 := Tryz.isAgg3
 z3 := Tryz.sizeOf3
 v3 := Tryz.zeroValue3
 t4 := Tryz.underlying4
 a4 := Tryz.isAgg4
 z4 := Tryz.sizeOf4
 v4 := Tryz.zeroValue4
 t9 := Tryz.underlying9
 a9 := Tryz.isAgg9
 z9 := Tryz.sizeOf9
 v9 := Tryz.zeroValue9
 t20 := Tryz.underlying20
 a20 := Tryz.isAgg20
 z20 := Tryz.sizeOf20
 v20 := Tryz.zeroValue20
 t31 := Tryz.underlying47
 a31 := Tryz.isAgg47
 z31 := Tryz.sizeOf47
 v31 := Tryz.zeroValue47
 t37 := Tryz.underlying27
 a37 := Tryz.isAgg27
 z37 := Tryz.sizeOf27
 v37 := Tryz.zeroValue27
 t70 := Tryz.underlying204
 a70 := Tryz.isAgg204
 z70 := Tryz.sizeOf204
 v70 := Tryz.zeroValue204
 t72 := Tryz.underlying206
 a72 := Tryz.isAgg206
 z72 := Tryz.sizeOf206
 v72 := Tryz.zeroValue206
 t75 := Tryz.underlying209
 a75 := Tryz.isAgg209
 z75 := Tryz.sizeOf209
 v75 := Tryz.zeroValue209
 t76 := Tryz.underlying210
 a76 := Tryz.isAgg210
 z76 := Tryz.sizeOf210
 v76 := Tryz.zeroValue210
 t127 := Tryz.underlying214
 a127 := Tryz.isAgg214
 z127 := Tryz.sizeOf214
 v127 := Tryz.zeroValue214
 t164 := Tryz.underlying220
 a164 := Tryz.isAgg220
 z164 := Tryz.sizeOf220
 v164 := Tryz.zeroValue220 }
theorem Tryz.Builder_Extra_156 : Builder.Extra Tryz.prog Tryz.lays156_ren := {
 sizeBuilder := by kernel_rfl
 liesBuilder := by kernel_rfl
 t5 := Tryz.underlying5
 a5 := Tryz.isAgg5
 z5 := Tryz.sizeOf5
 v5 := Tryz.zeroValue5
 infoByte := by kernel_rfl
 cellsByte := by kernel_rfl
 sizeByte := by kernel_rfl
 neB5 := by decide }
open Go.RowKit in
/-- strings.Join: "Join concatenates the elements of its first argument to create a single string. The separator string sep is placed between elements in the resulting string.": HOWEVER MANY ELEMENTS. Below the heap's end the world is as it was. (LAID: no walk: one application.) -/
theorem Tryz.strings_Join (bk o c : Nat) (xs : List ByteArray) (sep : ByteArray) (w : World) (hcells : ∀ (j : Nat) x, xs[j]? = some x → w.cell? ⟨bk, o + j, none⟩ = some (.string x)) (hbk : bk < w.heap.size) (hN : xs.length ≤ 140737488355328) (hcap : xs.length ≤ c) (hlen : (Lib.join (xs.map (·.data.toList)) sep.data.toList).length ≤ 140737488355328) :
  Calls Tryz.prog 111 #[.slice (some ⟨bk, o, none⟩) xs.length c, .string sep] w fun e w' => e = .returned (.string ⟨(Lib.join (xs.map (·.data.toList)) sep.data.toList).toArray⟩) ∧ Below w.heap.size w w' := Any.strings_Join Tryz.lays156 Tryz.Builder_Extra_156 bk o c xs sep w hcells hbk hN hcap hlen
open Go.RowKit in
/-- No element: the empty string; the world is as it was. (Whatever the slice's address and capacity: a nil slice too.) (LAID: no walk: one application.) -/
theorem Tryz.strings_Join_none (a : Option Addr) (c : Nat) (sep : ByteArray) (w : World) :
  Calls Tryz.prog 111 #[.slice a 0 c, .string sep] w fun e w' => e = .returned (.string ⟨#[]⟩) ∧ w' = w := Any.strings_Join_none Tryz.lays156 Tryz.Builder_Extra_156 a c sep w
end Go.Proofs
namespace Go.Proofs
open Go.Shelf
def Tryz.keysA_ren : Go.Shelf.Ren := ⟨fun | 7 => 131 | 10 => 142 | n => n, fun | 23 => 165 | 26 => 9 | 3 => 131 | 28 => 202 | 0 => 0 | 27 => 139 | 33 => 176 | 4 => 4 | n => n, fun | n => n⟩
theorem Tryz.keysA : Go.Proofs.SlLaysZ.n7 Tryz.prog Tryz.keysA_ren := {
 mixed := by kernel_rfl
 f7 := ⟨Tryz.f131.name, by decide, Tryz.func131.trans (congrArg some (by kernel_rfl))⟩
 f10 := ⟨Tryz.f142.name, by decide, Tryz.func142.trans (congrArg some (by kernel_rfl))⟩
 t0 := Tryz.underlying0
 a0 := Tryz.isAgg0
 z0 := Tryz.sizeOf0
 v0 := Tryz.zeroValue0
 t4 := Tryz.underlying4
 a4 := Tryz.isAgg4
 z4 := Tryz.sizeOf4
 v4 := Tryz.zeroValue4
 t23 := Tryz.underlying165
 a23 := Tryz.isAgg165
 z23 := Tryz.sizeOf165
 v23 := Tryz.zeroValue165
 t26 := Tryz.underlying9
 a26 := Tryz.isAgg9
 z26 := Tryz.sizeOf9
 v26 := Tryz.zeroValue9
 t27 := Tryz.underlying139
 a27 := Tryz.isAgg139
 z27 := Tryz.sizeOf139
 v27 := Tryz.zeroValue139
 t28 := Tryz.underlying202
 a28 := Tryz.isAgg202
 z28 := Tryz.sizeOf202
 v28 := Tryz.zeroValue202
 t33 := Tryz.underlying176
 a33 := Tryz.isAgg176
 z33 := Tryz.sizeOf176
 v33 := Tryz.zeroValue176 }
def Tryz.sortedA_ren : Go.Shelf.Ren := ⟨fun | 6 => 130 | 8 => 140 | 9 => 141 | 11 => 146 | 13 => 148 | 12 => 147 | 23 => 164 | 24 => 165 | 14 => 155 | 15 => 156 | 16 => 157 | 17 => 158 | 18 => 159 | 19 => 160 | 20 => 161 | 21 => 162 | 22 => 163 | 25 => 168 | 26 => 169 | 27 => 170 | 28 => 171 | 29 => 172 | 30 => 173 | 31 => 174 | n => n, fun | 26 => 9 | 28 => 202 | 24 => 47 | 0 => 0 | 3 => 3 | 37 => 218 | 48 => 232 | 50 => 234 | 4 => 4 | 40 => 225 | 39 => 224 | 45 => 229 | 5 => 5 | 9 => 9 | 51 => 237 | 55 => 241 | 57 => 243 | 58 => 244 | 33 => 176 | n => n, fun | n => n⟩
theorem Tryz.sortedA : Go.Proofs.SlLaysZ.n6 Tryz.prog Tryz.sortedA_ren := {
 mixed := by kernel_rfl
 f6 := ⟨Tryz.f130.name, by decide, Tryz.func130.trans (congrArg some (by kernel_rfl))⟩
 f8 := ⟨Tryz.f140.name, by decide, Tryz.func140.trans (congrArg some (by kernel_rfl))⟩
 f11 := ⟨Tryz.f146.name, by decide, Tryz.func146.trans (congrArg some (by kernel_rfl))⟩
 t0 := Tryz.underlying0
 a0 := Tryz.isAgg0
 z0 := Tryz.sizeOf0
 v0 := Tryz.zeroValue0
 t24 := Tryz.underlying47
 a24 := Tryz.isAgg47
 z24 := Tryz.sizeOf47
 v24 := Tryz.zeroValue47
 t26 := Tryz.underlying9
 a26 := Tryz.isAgg9
 z26 := Tryz.sizeOf9
 v26 := Tryz.zeroValue9
 t28 := Tryz.underlying202
 a28 := Tryz.isAgg202
 z28 := Tryz.sizeOf202
 v28 := Tryz.zeroValue202
 i26 := by kernel_rfl }
def Tryz.sortA_ren : Go.Shelf.Ren := ⟨fun | 6 => 141 | 8 => 148 | 9 => 147 | 19 => 164 | 20 => 165 | 21 => 155 | 22 => 156 | 23 => 157 | 24 => 158 | 25 => 159 | 26 => 160 | 27 => 161 | 28 => 162 | 29 => 163 | 36 => 168 | 31 => 169 | 32 => 170 | 37 => 171 | 38 => 172 | 39 => 173 | 41 => 174 | n => n, fun | 27 => 47 | 29 => 9 | 3 => 3 | 32 => 218 | 26 => 47 | 0 => 0 | 44 => 232 | 46 => 234 | 4 => 4 | 36 => 225 | 35 => 224 | 41 => 229 | 5 => 5 | 9 => 9 | 53 => 237 | 57 => 241 | 63 => 243 | 64 => 244 | n => n, fun | n => n⟩
theorem Tryz.sortA : Go.Proofs.SlLaysM.n6 Tryz.prog Tryz.sortA_ren := {
 mixed := by kernel_rfl
 f6 := ⟨Tryz.f141.name, by decide, Tryz.func141.trans (congrArg some (by kernel_rfl))⟩
 f8 := Tryz.func148.trans (congrArg some (by kernel_rfl))
 f9 := ⟨Tryz.f147.name, by decide, Tryz.func147.trans (congrArg some (by kernel_rfl))⟩
 f19 := Tryz.func164.trans (congrArg some (by kernel_rfl))
 f20 := Tryz.func165.trans (congrArg some (by kernel_rfl))
 f21 := ⟨Tryz.f155.name, by decide, Tryz.func155.trans (congrArg some (by kernel_rfl))⟩
 f22 := ⟨Tryz.f156.name, by decide, Tryz.func156.trans (congrArg some (by kernel_rfl))⟩
 f23 := ⟨Tryz.f157.name, by decide, Tryz.func157.trans (congrArg some (by kernel_rfl))⟩
 f24 := ⟨Tryz.f158.name, by decide, Tryz.func158.trans (congrArg some (by kernel_rfl))⟩
 f25 := ⟨Tryz.f159.name, by decide, Tryz.func159.trans (congrArg some (by kernel_rfl))⟩
 f26 := ⟨Tryz.f160.name, by decide, Tryz.func160.trans (congrArg some (by kernel_rfl))⟩
 f27 := ⟨Tryz.f161.name, by decide, Tryz.func161.trans (congrArg some (by kernel_rfl))⟩
 f28 := ⟨Tryz.f162.name, by decide, Tryz.func162.trans (congrArg some (by kernel_rfl))⟩
 f29 := ⟨Tryz.f163.name, by decide, Tryz.func163.trans (congrArg some (by kernel_rfl))⟩
 f31 := Tryz.func169.trans (congrArg some (by kernel_rfl))
 f32 := Tryz.func170.trans (congrArg some (by kernel_rfl))
 f36 := ⟨Tryz.f168.name, by decide, Tryz.func168.trans (congrArg some (by kernel_rfl))⟩
 f37 := ⟨Tryz.f171.name, by decide, Tryz.func171.trans (congrArg some (by kernel_rfl))⟩
 f38 := ⟨Tryz.f172.name, by decide, Tryz.func172.trans (congrArg some (by kernel_rfl))⟩
 f39 := ⟨Tryz.f173.name, by decide, Tryz.func173.trans (congrArg some (by kernel_rfl))⟩
 f41 := ⟨Tryz.f174.name, by decide, Tryz.func174.trans (congrArg some (by kernel_rfl))⟩
 t0 := Tryz.underlying0
 a0 := Tryz.isAgg0
 z0 := Tryz.sizeOf0
 v0 := Tryz.zeroValue0
 t3 := Tryz.underlying3
 a3 := Tryz.isAgg3
 z3 := Tryz.sizeOf3
 v3 := Tryz.zeroValue3
 t4 := Tryz.underlying4
 a4 := Tryz.isAgg4
 z4 := Tryz.sizeOf4
 v4 := Tryz.zeroValue4
 t5 := Tryz.underlying5
 a5 := Tryz.isAgg5
 z5 := Tryz.sizeOf5
 v5 := Tryz.zeroValue5
 t9 := Tryz.underlying9
 a9 := Tryz.isAgg9
 z9 := Tryz.sizeOf9
 v9 := Tryz.zeroValue9
 t26 := Tryz.underlying47
 a26 := Tryz.isAgg47
 z26 := Tryz.sizeOf47
 v26 := Tryz.zeroValue47
 t27 := Tryz.underlying47
 a27 := Tryz.isAgg47
 z27 := Tryz.sizeOf47
 v27 := Tryz.zeroValue47
 t29 := Tryz.underlying9
 a29 := Tryz.isAgg9
 z29 := Tryz.sizeOf9
 v29 := Tryz.zeroValue9
 t32 := Tryz.underlying218
 a32 := Tryz.isAgg218
 z32 := Tryz.sizeOf218
 v32 := Tryz.zeroValue218
 t35 := Tryz.underlying224
 a35 := Tryz.isAgg224
 z35 := Tryz.sizeOf224
 v35 := Tryz.zeroValue224
 t36 := Tryz.underlying225
 a36 := Tryz.isAgg225
 z36 := Tryz.sizeOf225
 v36 := Tryz.zeroValue225
 t41 := Tryz.underlying229
 a41 := Tryz.isAgg229
 z41 := Tryz.sizeOf229
 v41 := Tryz.zeroValue229
 t44 := Tryz.underlying232
 a44 := Tryz.isAgg232
 z44 := Tryz.sizeOf232
 v44 := Tryz.zeroValue232
 t46 := Tryz.underlying234
 a46 := Tryz.isAgg234
 z46 := Tryz.sizeOf234
 v46 := Tryz.zeroValue234
 t53 := Tryz.underlying237
 a53 := Tryz.isAgg237
 z53 := Tryz.sizeOf237
 v53 := Tryz.zeroValue237
 t57 := Tryz.underlying241
 a57 := Tryz.isAgg241
 z57 := Tryz.sizeOf241
 v57 := Tryz.zeroValue241
 t63 := Tryz.underlying243
 a63 := Tryz.isAgg243
 z63 := Tryz.sizeOf243
 v63 := Tryz.zeroValue243
 t64 := Tryz.underlying244
 a64 := Tryz.isAgg244
 z64 := Tryz.sizeOf244
 v64 := Tryz.zeroValue244 }
end Go.Proofs

namespace Go.Proofs.YtigfbpbnohkokaaGreat
open Go Go.Fw Go.RowKit
set_option linter.unusedVariables false
set_option linter.unusedSimpArgs false

theorem libjoin : ∀ l : List (List UInt8), Lib.join l [47] = joinS l
 | [] => rfl
 | [p] => by simp [Lib.join_one, joinS]
 | p :: q :: r => by
  have h := libjoin (q :: r)
  rw [Lib.join_cons p (q :: r) [47]] 
  rw [Lib.join_cons q r [47]] at h
  simp only [joinS, Lib.joinTail, List.map_cons, List.flatten_cons] at h ⊢
  rw [← h]; simp
theorem below_new {w w' : World} (h : Below w.heap.size w w') : New w w' := ⟨h.size, fun b hb _ => h.block b hb, by simp, by simp, h.os, h.tape, h.output⟩
theorem join_c {w0 : World} {v : Value} {l : List (List UInt8)} (h : StrsAt w0 v l) (hl : l.length ≤ 1000000) (hlen : (joinS l).length ≤ 1099511627776) :
  Ret Tryz.prog 111 #[v, strV [47]] w0 fun r w' => r = strV (joinS l) ∧ New w0 w' := by
 rcases h with ⟨h1, _, p, cap, rfl⟩ | ⟨rfl, h1, h2⟩ | ⟨b, off, cap, all, T, fr, rfl, hcap, hb, h3, h4⟩
 ·have hl0 : l = [] := List.length_eq_zero_iff.1 h1
  subst hl0
  refine Ret.of_calls ((Tryz.strings_Join_none p cap (strB [47]) w0).mono ?_)
  rintro e w' ⟨rfl, rfl⟩
  exact ⟨_, rfl, rfl, Frm.refl _ _⟩
 ·have hl0 : l = [] := List.length_eq_zero_iff.1 h1
  subst hl0
  refine Ret.of_calls ((Tryz.strings_Join_none none 0 (strB [47]) w0).mono ?_)
  rintro e w' ⟨rfl, rfl⟩
  exact ⟨_, rfl, rfl, Frm.refl _ _⟩
 ·have hsl : StrsAt w0 (.slice (some ⟨b, off, none⟩) l.length cap) l := .inr (.inr ⟨b, off, cap, all, T, fr, rfl, hcap, hb, h3, h4⟩)
  have hc : ∀ (j : Nat) x, (l.map strB)[j]? = some x → w0.cell? ⟨b, off + j, none⟩ = some (.string x) := by
   intro j x hx
   rw [List.getElem?_map] at hx
   cases hj : l[j]? with
   | none => rw [hj] at hx; cases hx
   | some y =>
    rw [hj] at hx; cases hx
    have := StrsAt.cell hsl hj
    simpa using this
  have e1 : (l.map strB).map (·.data.toList) = l := by
   rw [List.map_map]
   conv => rhs; rw [← List.map_id l]
   exact List.map_congr_left fun x _ => by simp [strB]
  have e2 : (strB [47]).data.toList = [47] := rfl
  have e3 : Lib.join ((l.map strB).map (·.data.toList)) (strB [47]).data.toList = joinS l := by rw [e1, e2, libjoin]
  have := Tryz.strings_Join b off cap (l.map strB) (strB [47]) w0 hc (Array.getElem?_eq_some_iff.1 hb).1 (by simp; omega) (by simpa using hcap) (by rw [e3]; omega)
  rw [e3, List.length_map] at this
  refine Ret.of_calls (this.mono ?_)
  rintro e w' ⟨rfl, hbl⟩
  exact ⟨_, rfl, rfl, below_new hbl⟩
end Go.Proofs.YtigfbpbnohkokaaGreat

namespace Go.Proofs.YtigfbpbnohkokaaGreat
open Go Go.Fw Go.RowKit Go.Proofs
set_option linter.unusedVariables false
set_option linter.unusedSimpArgs false

set_option maxRecDepth 100000 in
theorem pjoin_c {w0 : World} {v : Value} {l : List (List UInt8)} (h : StrsAt w0 v l)  : Ret Tryz.prog 77 #[v] w0 fun r w' => r = .tuple #[strV (joinV l), .int .i64 (joinE l)] ∧ New w0 w' := by
 have M : Sep w0 [] w0 := St.nil w0
 obtain ⟨p, cap, rfl⟩ := h.shape
 refine Ret.of_W Tryz.func77 rfl Tryz.ntmps77 rfl ?_
 refine W.seq ?_
 refine W.sub [(0, _)] ⟨rfl, trivial⟩ ?_
 refine W.reg [(0, false), (1, false)] (by kernel_rfl) ?_
 intro K hK
 refine x_assign rfl rfl rfl rfl ?_
 refine x_assign rfl rfl rfl rfl ?_
 refine Ex.done (hK _ _ ?_)
 refine At.then_n ?_
 refine W.seq ?_
 refine W.seq ?_
 refine W.sub [(0, _)] ⟨rfl, trivial⟩ ?_
 refine W.reg [(0, false), (1, false), (2, false)] (by kernel_rfl) ?_
 intro K hK
 refine x_move rfl rfl rfl rfl ?_
 refine x_len rfl rfl rfl rfl Tryz.underlying47 rfl ?_
 refine x_gtr _ rfl rfl rfl rfl rfl rfl ?_
 refine Ex.done (hK _ _ ?_)
 refine At.then_n ?_
 refine W.cond rfl (fun hco1 => ?_) (fun hco1 => ?_)
 ·try simp only [sA, sB, sC, sD, sE, sF, ne_eq, Bool.not_eq_eq_eq_not, Bool.not_true, Bool.not_false, sK, sL, Bool.not_not, gt_iff_lt, ge_iff_le] at hco1
  refine W.seq ?_
  refine W.sub [] trivial ?_
  refine W.reg [(0, false), (1, false)] (by kernel_rfl) ?_
  intro K hK
  refine x_assign rfl rfl rfl rfl ?_
  refine x_assign rfl rfl rfl rfl ?_
  refine Ex.done (hK _ _ ?_)
  refine At.then_n ?_
  refine W.ret ?_
  refine At.then_r ?_
  refine At.ret2 (.tmp 2) (.tmp 3) rfl ⟨rfl, rfl, trivial⟩ ?_
  have hE := joinP_many (l := l) (by omega); exact ⟨by rw [hE.1, hE.2]; rfl, M.frm⟩
 ·try simp only [sA, sB, sC, sD, sE, sF, ne_eq, Bool.not_eq_eq_eq_not, Bool.not_true, Bool.not_false, sK, sL, Bool.not_not, gt_iff_lt, ge_iff_le] at hco1
  refine W.skip ?_
  refine At.then_n ?_
  refine W.seq ?_
  refine W.seq ?_
  refine W.sub [(0, _)] ⟨rfl, trivial⟩ ?_
  refine W.reg [(0, false), (1, false), (2, false)] (by kernel_rfl) ?_
  intro K hK
  refine x_move rfl rfl rfl rfl ?_
  refine x_len rfl rfl rfl rfl Tryz.underlying47 rfl ?_
  refine x_move rfl rfl rfl rfl ?_
  refine Ex.done (hK _ _ ?_)
  refine At.then_n ?_
  refine W.block ?_
  refine W.loop (σ := Nat) (fun q => [(0, _), (10, _), (11, _), (12, .int .i64 ((q : Nat) : Int))]) (fun q w => q ≤ l.length ∧ (∀ (k : Nat) y, k < q → l[k]? = some y → nameOK y) ∧ Sep w0 [] w) (fun q => l.length - q) 0 ⟨rfl, rfl, rfl, rfl, trivial⟩ ⟨Nat.zero_le _, fun k c h => by omega, M⟩ ?_
  rintro q w ⟨hq, hall, M⟩
  refine W.seq ?_
  refine W.sub [(0, _), (10, _), (11, _), (12, _)] ⟨rfl, rfl, rfl, rfl, trivial⟩ ?_
  refine W.reg [(0, false)] (by kernel_rfl) ?_
  intro K hK
  refine x_lss _ rfl rfl rfl rfl rfl rfl ?_
  refine Ex.done (hK _ _ ?_)
  refine At.then_n ?_
  refine W.seq ?_
  refine W.cond rfl (fun hco2 => ?_) (fun hco2 => ?_)
  ·try simp only [sA, sB, sC, sD, sE, sF, ne_eq, Bool.not_eq_eq_eq_not, Bool.not_true, Bool.not_false, sK, sL, Bool.not_not, gt_iff_lt, ge_iff_le] at hco2
   obtain ⟨x, hx⟩ := get_lt (l := l) (q := q) (by omega)
   obtain ⟨bk, off, rfl, _⟩ := (h.new M.frm).blk (j := q) (by omega)
   refine W.skip ?_
   refine At.then_n ?_
   refine W.seq ?_
   refine W.block ?_
   refine W.seq ?_
   refine W.sub [(0, _), (10, _), (11, _), (12, _)] ⟨rfl, rfl, rfl, rfl, trivial⟩ ?_
   refine W.reg [(0, false), (1, false), (2, false)] (by kernel_rfl) ?_
   intro K hK
   refine x_ia q rfl rfl rfl Tryz.underlying47 sz9 rfl rfl rfl (by omega) ?_
   refine x_ld rfl rfl rfl Tryz.underlying9 rfl rfl (StrsAt.cell (h.new M.frm) hx) ?_
   refine x_assign rfl rfl rfl rfl ?_
   refine Ex.done (hK _ _ ?_)
   refine At.then_n ?_
   refine W.seq ?_
   refine W.sub [(0, _), (5, _), (10, _), (11, _), (12, _)] ⟨rfl, rfl, rfl, rfl, rfl, trivial⟩ ?_
   refine W.reg [(0, false), (1, true), (2, false)] (by kernel_rfl) ?_
   intro K hK
   refine x_move rfl rfl rfl rfl ?_
   refine x_call rfl rfl rfl rfl rfl en110 (name_c) ?_
   rintro r wcall1 ⟨rfl, hncall1⟩
   have M := M.new hncall1
   refine ⟨trivial, ?_⟩
   refine x_nei _ rfl rfl rfl rfl rfl rfl ?_
   refine Ex.done (hK _ _ ?_)
   refine At.then_n ?_
   refine W.cond rfl (fun hco3 => ?_) (fun hco3 => ?_)
   ·try simp only [sA, sB, sC, sD, sE, sF, ne_eq, Bool.not_eq_eq_eq_not, Bool.not_true, Bool.not_false, sK, sL, Bool.not_not, gt_iff_lt, ge_iff_le] at hco3
    refine W.seq ?_
    refine W.sub [] trivial ?_
    refine W.reg [(0, false), (1, false)] (by kernel_rfl) ?_
    intro K hK
    refine x_assign rfl rfl rfl rfl ?_
    refine x_assign rfl rfl rfl rfl ?_
    refine Ex.done (hK _ _ ?_)
    refine At.then_n ?_
    refine W.ret ?_
    refine At.blk_r ?_
    refine At.then_r ?_
    refine At.loop_r ?_
    refine At.blk_r ?_
    refine At.then_r ?_
    refine At.ret2 (.tmp 2) (.tmp 3) rfl ⟨rfl, rfl, trivial⟩ ?_
    have hE := joinP_bad (List.mem_of_getElem? hx) (fun h => hco3 (nameP_zero.2 h)); exact ⟨by rw [hE.1, hE.2]; rfl, M.frm⟩
   ·try simp only [sA, sB, sC, sD, sE, sF, ne_eq, Bool.not_eq_eq_eq_not, Bool.not_true, Bool.not_false, sK, sL, Bool.not_not, gt_iff_lt, ge_iff_le] at hco3
    refine W.skip ?_
    refine At.blk_n ?_
    refine At.then_n ?_
    refine W.sub [(0, _), (10, _), (11, _), (12, _)] ⟨rfl, rfl, rfl, rfl, trivial⟩ ?_
    refine W.reg [(0, false), (1, false)] (by kernel_rfl) ?_
    intro K hK
    refine x_add _ rfl rfl rfl rfl rfl (wadd (by omega) (by omega)) ?_
    refine x_move rfl rfl rfl rfl ?_
    refine Ex.done (hK _ _ ?_)
    exact At.back (q + 1) ⟨rfl, rfl, rfl, rfl, trivial⟩ ⟨by omega, all_take hall hx (nameP_zero.1 hco3), M⟩ (by first | omega | (simp only; omega) | (simp; done) | (simp; omega))
  ·try simp only [sA, sB, sC, sD, sE, sF, ne_eq, Bool.not_eq_eq_eq_not, Bool.not_true, Bool.not_false, sK, sL, Bool.not_not, gt_iff_lt, ge_iff_le] at hco2
   have hok : allOK l := all_all fun k y hk => hall k y (by omega)
   have hjl := joinS_le (allOK_len hok)
   refine W.exit ?_
   refine At.then_x ?_
   refine At.loop_x ?_
   refine At.blk_x ?_
   refine At.then_n ?_
   refine W.seq ?_
   refine W.sub [(0, _)] ⟨rfl, trivial⟩ ?_
   refine W.reg [(0, false), (1, true), (2, false)] (by kernel_rfl) ?_
   intro K hK
   refine x_move rfl rfl rfl rfl ?_
   refine x_call rfl rfl rfl rfl rfl en111 (join_c (h.new M.frm) (by omega) (by omega)) ?_
   rintro r w3 ⟨rfl, hn⟩
   have M := M.new hn
   refine ⟨trivial, ?_⟩
   refine x_assign rfl rfl rfl rfl ?_
   refine Ex.done (hK _ _ ?_)
   refine At.then_n ?_
   refine W.seq ?_
   refine W.seq ?_
   refine W.sub [(6, _)] ⟨rfl, trivial⟩ ?_
   refine W.reg [(0, false), (1, false), (2, false)] (by kernel_rfl) ?_
   intro K hK
   refine x_move rfl rfl rfl rfl ?_
   refine x_lenS rfl rfl rfl rfl Tryz.underlying9 rfl ?_
   refine x_gtr _ rfl rfl rfl rfl rfl rfl ?_
   refine Ex.done (hK _ _ ?_)
   refine At.then_n ?_
   refine W.cond rfl (fun hco4 => ?_) (fun hco4 => ?_)
   ·try simp only [sA, sB, sC, sD, sE, sF, ne_eq, Bool.not_eq_eq_eq_not, Bool.not_true, Bool.not_false, sK, sL, Bool.not_not, gt_iff_lt, ge_iff_le] at hco4
    refine W.seq ?_
    refine W.sub [] trivial ?_
    refine W.reg [(0, false), (1, false)] (by kernel_rfl) ?_
    intro K hK
    refine x_assign rfl rfl rfl rfl ?_
    refine x_assign rfl rfl rfl rfl ?_
    refine Ex.done (hK _ _ ?_)
    refine At.then_n ?_
    refine W.ret ?_
    refine At.then_r ?_
    refine At.ret2 (.tmp 2) (.tmp 3) rfl ⟨rfl, rfl, trivial⟩ ?_
    have hE := joinP_long (l := l) (by omega); exact ⟨by rw [hE.1, hE.2]; rfl, M.frm⟩
   ·try simp only [sA, sB, sC, sD, sE, sF, ne_eq, Bool.not_eq_eq_eq_not, Bool.not_true, Bool.not_false, sK, sL, Bool.not_not, gt_iff_lt, ge_iff_le] at hco4
    refine W.skip ?_
    refine At.then_n ?_
    refine W.seq ?_
    refine W.sub [(6, _)] ⟨rfl, trivial⟩ ?_
    refine W.reg [(0, false), (1, false), (2, false)] (by kernel_rfl) ?_
    intro K hK
    refine x_move rfl rfl rfl rfl ?_
    refine x_assign rfl rfl rfl rfl ?_
    refine x_assign rfl rfl rfl rfl ?_
    refine Ex.done (hK _ _ ?_)
    refine At.then_n ?_
    refine W.ret ?_
    refine At.ret2 (.tmp 2) (.tmp 3) rfl ⟨rfl, rfl, trivial⟩ ?_
    have hE := joinP_good (l := l) (by omega) hok (by omega); exact ⟨by rw [hE.1, hE.2], M.frm⟩


end Go.Proofs.YtigfbpbnohkokaaGreat

namespace Go.Proofs.YtigfbpbnohkokaaGreat
open Go Go.Fw Go.RowKit Go.Proofs
set_option linter.unusedVariables false
set_option linter.unusedSimpArgs false

set_option maxRecDepth 100000 in
theorem clean_c {w0 : World} {s : List UInt8}  : Ret Tryz.prog 45 #[strV s] w0 fun r w' => r = .tuple #[strV (cleanP s).1, .int .i64 (cleanP s).2] ∧ New w0 w' := by
 have M : Sep w0 [] w0 := St.nil w0
 refine Ret.of_W Tryz.func45 rfl Tryz.ntmps45 rfl ?_
 refine W.seq ?_
 refine W.sub [(0, _)] ⟨rfl, trivial⟩ ?_
 refine W.reg [(0, false), (1, false)] (by kernel_rfl) ?_
 intro K hK
 refine x_assign rfl rfl rfl rfl ?_
 refine x_assign rfl rfl rfl rfl ?_
 refine Ex.done (hK _ _ ?_)
 refine At.then_n ?_
 refine W.seq ?_
 refine W.seq ?_
 refine W.sub [(0, _)] ⟨rfl, trivial⟩ ?_
 refine W.reg [(0, false), (1, false), (2, false)] (by kernel_rfl) ?_
 intro K hK
 refine x_move rfl rfl rfl rfl ?_
 refine x_lenS rfl rfl rfl rfl Tryz.underlying9 rfl ?_
 refine x_gtr _ rfl rfl rfl rfl rfl rfl ?_
 refine Ex.done (hK _ _ ?_)
 refine At.then_n ?_
 refine W.cond rfl (fun hco1 => ?_) (fun hco1 => ?_)
 ·try simp only [sA, sB, sC, sD, sE, sF, ne_eq, Bool.not_eq_eq_eq_not, Bool.not_true, Bool.not_false, sK, sL, Bool.not_not, gt_iff_lt, ge_iff_le] at hco1
  refine W.seq ?_
  refine W.sub [] trivial ?_
  refine W.reg [(0, false), (1, false)] (by kernel_rfl) ?_
  intro K hK
  refine x_assign rfl rfl rfl rfl ?_
  refine x_assign rfl rfl rfl rfl ?_
  refine Ex.done (hK _ _ ?_)
  refine At.then_n ?_
  refine W.ret ?_
  refine At.then_r ?_
  refine At.ret2 (.tmp 2) (.tmp 3) rfl ⟨rfl, rfl, trivial⟩ ?_
  rw [cleanP_long (by omega)]; exact ⟨rfl, M.frm⟩
 ·try simp only [sA, sB, sC, sD, sE, sF, ne_eq, Bool.not_eq_eq_eq_not, Bool.not_true, Bool.not_false, sK, sL, Bool.not_not, gt_iff_lt, ge_iff_le] at hco1
  refine W.skip ?_
  refine At.then_n ?_
  refine W.seq ?_
  refine W.sub [(0, _)] ⟨rfl, trivial⟩ ?_
  refine W.reg [(0, true)] (by kernel_rfl) ?_
  intro K hK
  refine x_alloc [_] rfl rfl rfl ze47 rfl ?_
  intro bal1 wal1 hbal1 hwal1
  have M := M.acons hbal1 hwal1
  refine ⟨trivial, ?_⟩
  refine Ex.done (hK _ _ ?_)
  refine At.then_n ?_
  refine W.seq ?_
  refine W.seq ?_
  refine W.sub [(0, _), (4, _)] ⟨rfl, rfl, trivial⟩ ?_
  refine W.reg [(0, false), (1, true)] (by kernel_rfl) ?_
  intro K hK
  refine x_move rfl rfl rfl rfl ?_
  refine x_call rfl rfl rfl rfl rfl en76 (pieces_c) ?_
  rintro r wcall1 ⟨bcall1, rfl, Mcall1⟩
  have M := M.grow Mcall1
  refine ⟨trivial, ?_⟩
  refine Ex.done (hK _ _ ?_)
  refine At.then_n ?_
  refine W.block ?_
  refine W.sub [(4, _), (10, _)] ⟨rfl, rfl, trivial⟩ ?_
  refine W.range rfl en108 (fun rr hkt hps has hbdrng1 w2 hw2 => ?_)
  have M := M.range hw2
  refine (pieces_it (I := fun x rest w' => ∃ A ov Lo, cleanL s = rest.foldl cleanStep A ∧ A.length + rest.length ≤ 1025 ∧ StrsO Lo ov A ∧ Sep w0 ([(bal1, Obj.cells [ov].toArray 47 (0, 0)), (bcall1, Obj.cells [strV x].toArray 9 (0, 0)), (wcall1.heap.size, .deferred (some [])), (wcall1.heap.size + 1, .loop { rr with state := .ready, pending := none })] ++ Lo) w') (X := fun w' => False) (by omega) ?_ ?_ ?_ ?_ ⟨[], _, [], rfl, by have := splitS_len s; simp; omega, OwL.nil, by simpa using M⟩).mono ?_
  ·rintro x rest w' ⟨A, ov, Lo, hcl, hlen, how, M⟩
   exact M.at_ 1 rfl
  ·rintro x y rest w' w1 ⟨A, ov, Lo, hcl, hlen, how, M⟩ hw1
   have M := M.put 1 rfl hw1
   exact ⟨A, ov, Lo, hcl, hlen, how, M⟩
  ·rintro x rest w' w1 ⟨A, ov, Lo, hcl, hlen, how, M⟩ hn
   have M := M.new hn
   exact ⟨A, ov, Lo, hcl, hlen, how, M⟩
  ·rintro n rest w' ⟨A, ov, Lo, hcl, hlen, how, M⟩
   obtain ⟨p0, cap0, rfl, hcap0⟩ := how.shape2 (by decide)
   simp only [List.foldl_cons, List.length_cons] at hcl hlen
   refine Yld.one (M.at_ 3 rfl) hkt hps rfl has ?_
   refine W.sub [(4, _), (11, _)] ⟨rfl, rfl, trivial⟩ ?_
   refine W.reg [(0, false)] (by kernel_rfl) ?_
   intro K hK
   refine x_assign rfl rfl rfl rfl ?_
   refine Ex.done (hK _ _ ?_)
   refine At.asg hbdrng1 (M.at_ 3 rfl) ?_
   generalize hwb : World.putObj _ _ _ = wb
   have M := M.put 3 rfl hwb.symm
   refine W.block ?_
   refine W.block ?_
   refine W.seq ?_
   refine W.sub [(4, _), (5, _)] ⟨rfl, rfl, trivial⟩ ?_
   refine W.reg [(0, false), (1, false), (2, false), (3, false), (4, false), (5, false), (6, false)] (by kernel_rfl) ?_
   intro K hK
   refine x_move rfl rfl rfl rfl ?_
   refine x_eqS _ rfl rfl rfl rfl rfl rfl ?_
   refine x_move rfl rfl rfl rfl ?_
   refine Ex.split 15 rfl (fun hsp1 => ?_) (fun hsp1 => ?_)
   ·
    try simp only [sA, sB, sC, sD, sE, sF, ne_eq, Bool.not_eq_eq_eq_not, Bool.not_true, Bool.not_false, sK, sL, Bool.not_not, gt_iff_lt, ge_iff_le] at hsp1
    refine Ex.skip_ rfl rfl rfl ?_
    refine Ex.skip_ rfl rfl rfl ?_
    refine x_pickT rfl rfl rfl rfl rfl ?_
    refine x_assign rfl rfl rfl rfl ?_
    refine Ex.done (hK _ _ ?_)
    refine At.then_n ?_
    refine W.condT rfl ?_
    refine W.skip ?_
    refine At.blk_n ?_
    refine At.blk_n ?_
    refine At.rnd_n (by first | exact M.at_ 0 rfl | exact M.at_ 1 rfl | exact M.at_ 2 rfl | exact M.at_ 3 rfl | exact M.at_ 4 rfl | exact M.at_ 5 rfl | exact M.at_ 6 rfl | exact M.at_ 7 rfl) ?_
    generalize hwz : World.putObj _ _ _ = wz
    have M := M.put 3 rfl hwz.symm
    exact ⟨true, rfl, fun _ => ⟨A, _, Lo, by rw [hcl, cleanStep_dot (.inl hsp1)], by omega, how, M⟩, fun h => (by cases h)⟩
   ·
    try simp only [sA, sB, sC, sD, sE, sF, ne_eq, Bool.not_eq_eq_eq_not, Bool.not_true, Bool.not_false, sK, sL, Bool.not_not, gt_iff_lt, ge_iff_le] at hsp1
    refine x_move rfl rfl rfl rfl ?_
    refine x_eqS _ rfl rfl rfl rfl rfl rfl ?_
    refine x_pickF rfl rfl rfl rfl rfl ?_
    refine x_assign rfl rfl rfl rfl ?_
    refine Ex.done (hK _ _ ?_)
    refine At.then_n ?_
    refine W.cond rfl (fun hco3 => ?_) (fun hco3 => ?_)
    ·try simp only [sA, sB, sC, sD, sE, sF, ne_eq, Bool.not_eq_eq_eq_not, Bool.not_true, Bool.not_false, sK, sL, Bool.not_not, gt_iff_lt, ge_iff_le] at hco3
     refine W.skip ?_
     refine At.blk_n ?_
     refine At.blk_n ?_
     refine At.rnd_n (by first | exact M.at_ 0 rfl | exact M.at_ 1 rfl | exact M.at_ 2 rfl | exact M.at_ 3 rfl | exact M.at_ 4 rfl | exact M.at_ 5 rfl | exact M.at_ 6 rfl | exact M.at_ 7 rfl) ?_
     generalize hwz : World.putObj _ _ _ = wz
     have M := M.put 3 rfl hwz.symm
     exact ⟨true, rfl, fun _ => ⟨A, _, Lo, by rw [hcl, cleanStep_dot (.inr hco3)], by omega, how, M⟩, fun h => (by cases h)⟩
    ·try simp only [sA, sB, sC, sD, sE, sF, ne_eq, Bool.not_eq_eq_eq_not, Bool.not_true, Bool.not_false, sK, sL, Bool.not_not, gt_iff_lt, ge_iff_le] at hco3
     refine W.seq ?_
     refine W.sub [(4, _), (5, _)] ⟨rfl, rfl, trivial⟩ ?_
     refine W.reg [(0, false), (1, false), (2, false)] (by kernel_rfl) ?_
     intro K hK
     refine x_move rfl rfl rfl rfl ?_
     refine x_neS _ rfl rfl rfl rfl rfl rfl ?_
     refine x_assign rfl rfl rfl rfl ?_
     refine Ex.done (hK _ _ ?_)
     refine At.then_n ?_
     refine W.cond rfl (fun hco4 => ?_) (fun hco4 => ?_)
     ·try simp only [sA, sB, sC, sD, sE, sF, ne_eq, Bool.not_eq_eq_eq_not, Bool.not_true, Bool.not_false, sK, sL, Bool.not_not, gt_iff_lt, ge_iff_le] at hco4
      refine W.sub [(4, _), (5, _)] ⟨rfl, rfl, trivial⟩ ?_
      refine W.reg [(0, false), (1, false), (2, true), (3, true), (4, true)] (by kernel_rfl) ?_
      intro K hK
      refine x_ld rfl rfl rfl Tryz.underlying47 rfl rfl (cell_of (by first | exact M.at_ 0 rfl | exact M.at_ 1 rfl | exact M.at_ 2 rfl | exact M.at_ 3 rfl | exact M.at_ 4 rfl | exact M.at_ 5 rfl | exact M.at_ 6 rfl | exact M.at_ 7 rfl) rfl) ?_
      refine x_move rfl rfl rfl rfl ?_
      refine x_bs1 (cs := [strV n]) rfl rfl rfl Tryz.underlying47 sz9 ze9 (Z := [_]) rfl rfl (by decide) (by decide) rfl rfl rfl ?_
      intro bbs1 wbs1 hbbs1 hwbs1
      have M0 := M.acons hbbs1 hwbs1
      have hslbs1 : Sl wbs1 (.slice (some ⟨bbs1, 0, none⟩) 1 1) 1 1 [strV n] := .inr ⟨bbs1, 0, 1, _, _, _, rfl, by omega, M0.at_ 0 rfl, rfl, rfl⟩
      have M := M0.tail
      refine ⟨trivial, ?_⟩
      refine x_apL rfl rfl rfl rfl Tryz.underlying47 sz9 ze9 rfl by9 rfl rfl how (M.perm (List.perm_append_comm (l₁ := [_, _, _, _]) (l₂ := Lo))) (strCs_one _) (hslbs1.src Tryz.underlying47 (by intro u hu; simp at hu; subst hu; rfl)) (by first | omega | (simp; omega)) (by decide) (by first | omega | (simp; omega)) ?_
      intro Lo v6 wap1 how M
      have M := M.perm List.perm_append_comm
      obtain ⟨p6, cap6, rfl⟩ := how.shape
      refine ⟨trivial, ?_⟩
      refine x_st [_] _ rfl rfl rfl sz47 rfl rfl rfl rfl (by first | exact M.at_ 0 rfl | exact M.at_ 1 rfl | exact M.at_ 2 rfl | exact M.at_ 3 rfl | exact M.at_ 4 rfl | exact M.at_ 5 rfl | exact M.at_ 6 rfl | exact M.at_ 7 rfl) rfl rfl rfl ?_
      intro wst1 hwst1
      have M := by first | exact M.put 0 rfl hwst1 | exact M.put 1 rfl hwst1 | exact M.put 2 rfl hwst1 | exact M.put 3 rfl hwst1 | exact M.put 4 rfl hwst1 | exact M.put 5 rfl hwst1 | exact M.put 6 rfl hwst1 | exact M.put 7 rfl hwst1
      refine ⟨trivial, ?_⟩
      refine Ex.done (hK _ _ ?_)
      refine At.blk_n ?_
      refine At.blk_n ?_
      refine At.rnd_n (by first | exact M.at_ 0 rfl | exact M.at_ 1 rfl | exact M.at_ 2 rfl | exact M.at_ 3 rfl | exact M.at_ 4 rfl | exact M.at_ 5 rfl | exact M.at_ 6 rfl | exact M.at_ 7 rfl) ?_
      generalize hwz : World.putObj _ _ _ = wz
      have M := M.put 3 rfl hwz.symm
      exact ⟨true, rfl, fun _ => ⟨A ++ [n], _, Lo, by rw [hcl, cleanStep_in hsp1 hco3 hco4], by simp; omega, strsO_snoc how, M⟩, fun h => (by cases h)⟩
     ·try simp only [sA, sB, sC, sD, sE, sF, ne_eq, Bool.not_eq_eq_eq_not, Bool.not_true, Bool.not_false, sK, sL, Bool.not_not, gt_iff_lt, ge_iff_le] at hco4
      have hup : n = [46, 46] := by simpa using hco4
      refine W.seq ?_
      refine W.sub [(4, _)] ⟨rfl, trivial⟩ ?_
      refine W.reg [(0, false), (1, false), (2, false), (3, false)] (by kernel_rfl) ?_
      intro K hK
      refine x_ld rfl rfl rfl Tryz.underlying47 rfl rfl (cell_of (by first | exact M.at_ 0 rfl | exact M.at_ 1 rfl | exact M.at_ 2 rfl | exact M.at_ 3 rfl | exact M.at_ 4 rfl | exact M.at_ 5 rfl | exact M.at_ 6 rfl | exact M.at_ 7 rfl) rfl) ?_
      refine x_len rfl rfl rfl rfl Tryz.underlying47 rfl ?_
      refine x_gtr _ rfl rfl rfl rfl rfl rfl ?_
      refine x_assign rfl rfl rfl rfl ?_
      refine Ex.done (hK _ _ ?_)
      refine At.then_n ?_
      refine W.cond rfl (fun hco5 => ?_) (fun hco5 => ?_)
      ·try simp only [sA, sB, sC, sD, sE, sF, ne_eq, Bool.not_eq_eq_eq_not, Bool.not_true, Bool.not_false, sK, sL, Bool.not_not, gt_iff_lt, ge_iff_le] at hco5
       refine W.sub [(4, _)] ⟨rfl, trivial⟩ ?_
       refine W.reg [(0, false), (1, false), (2, false), (3, false), (4, false), (5, true)] (by kernel_rfl) ?_
       intro K hK
       refine x_ld rfl rfl rfl Tryz.underlying47 rfl rfl (cell_of (by first | exact M.at_ 0 rfl | exact M.at_ 1 rfl | exact M.at_ 2 rfl | exact M.at_ 3 rfl | exact M.at_ 4 rfl | exact M.at_ 5 rfl | exact M.at_ 6 rfl | exact M.at_ 7 rfl) rfl) ?_
       refine x_ld rfl rfl rfl Tryz.underlying47 rfl rfl (cell_of (by first | exact M.at_ 0 rfl | exact M.at_ 1 rfl | exact M.at_ 2 rfl | exact M.at_ 3 rfl | exact M.at_ 4 rfl | exact M.at_ 5 rfl | exact M.at_ 6 rfl | exact M.at_ 7 rfl) rfl) ?_
       refine x_len rfl rfl rfl rfl Tryz.underlying47 rfl ?_
       refine x_sub ((A.length - 1 : Nat) : Int) rfl rfl rfl rfl rfl (by rw [w64 (by omega) (by omega)]; omega) ?_
       refine x_slh (A.length - 1) rfl rfl rfl Tryz.underlying47 sz9 rfl rfl rfl (by omega) ?_
       refine x_st [_] _ rfl rfl rfl sz47 rfl rfl rfl rfl (by first | exact M.at_ 0 rfl | exact M.at_ 1 rfl | exact M.at_ 2 rfl | exact M.at_ 3 rfl | exact M.at_ 4 rfl | exact M.at_ 5 rfl | exact M.at_ 6 rfl | exact M.at_ 7 rfl) rfl rfl rfl ?_
       intro wst2 hwst2
       have M := by first | exact M.put 0 rfl hwst2 | exact M.put 1 rfl hwst2 | exact M.put 2 rfl hwst2 | exact M.put 3 rfl hwst2 | exact M.put 4 rfl hwst2 | exact M.put 5 rfl hwst2 | exact M.put 6 rfl hwst2 | exact M.put 7 rfl hwst2
       refine ⟨trivial, ?_⟩
       refine Ex.done (hK _ _ ?_)
       refine At.blk_n ?_
       refine At.blk_n ?_
       refine At.rnd_n (by first | exact M.at_ 0 rfl | exact M.at_ 1 rfl | exact M.at_ 2 rfl | exact M.at_ 3 rfl | exact M.at_ 4 rfl | exact M.at_ 5 rfl | exact M.at_ 6 rfl | exact M.at_ 7 rfl) ?_
       generalize hwz : World.putObj _ _ _ = wz
       have M := M.put 3 rfl hwz.symm
       exact ⟨true, rfl, fun _ => ⟨A.take (A.length - 1), _, Lo, by rw [hcl, cleanStep_up hsp1 hco3 hup], by simp; omega, strsO_take how (by omega), M⟩, fun h => (by cases h)⟩
      ·try simp only [sA, sB, sC, sD, sE, sF, ne_eq, Bool.not_eq_eq_eq_not, Bool.not_true, Bool.not_false, sK, sL, Bool.not_not, gt_iff_lt, ge_iff_le] at hco5
       refine W.skip ?_
       refine At.blk_n ?_
       refine At.blk_n ?_
       refine At.rnd_n (by first | exact M.at_ 0 rfl | exact M.at_ 1 rfl | exact M.at_ 2 rfl | exact M.at_ 3 rfl | exact M.at_ 4 rfl | exact M.at_ 5 rfl | exact M.at_ 6 rfl | exact M.at_ 7 rfl) ?_
       generalize hwz : World.putObj _ _ _ = wz
       have M := M.put 3 rfl hwz.symm
       exact ⟨true, rfl, fun _ => ⟨A, _, Lo, by rw [hcl, cleanStep_up hsp1 hco3 hup, List.take_of_length_le (by omega)], by omega, how, M⟩, fun h => (by cases h)⟩
  ·rintro v w3 ⟨rfl, ⟨x, ⟨A, ov, Lo, hcl, hlen, how, M⟩⟩ | HX⟩
   ·refine .inl ⟨.ready, by simp, M.at_ 3 rfl, ?_⟩
    generalize hwx : World.putObj _ _ _ = w4
    have M := M.put 3 rfl hwx.symm
    simp only [List.foldl_nil, List.length_nil] at hcl hlen
    obtain ⟨p0, cap0, rfl⟩ := how.shape
    refine At.blk_n ?_
    refine At.then_n ?_
    refine W.seq ?_
    refine W.sub [(4, _)] ⟨rfl, trivial⟩ ?_
    refine W.reg [(0, false), (1, true), (2, false), (3, false), (4, false), (5, false)] (by kernel_rfl) ?_
    intro K hK
    refine x_ld rfl rfl rfl Tryz.underlying47 rfl rfl (cell_of (by first | exact M.at_ 0 rfl | exact M.at_ 1 rfl | exact M.at_ 2 rfl | exact M.at_ 3 rfl | exact M.at_ 4 rfl | exact M.at_ 5 rfl | exact M.at_ 6 rfl | exact M.at_ 7 rfl) rfl) ?_
    refine x_call rfl rfl rfl rfl rfl en77 (pjoin_c (strsO_at how M (fun x hx => List.mem_append_right [_, _, _, _] hx))) ?_
    rintro r w5 ⟨rfl, hn5⟩
    have M := M.new hn5
    refine ⟨trivial, ?_⟩
    refine x_ext rfl rfl rfl rfl rfl ?_
    refine x_ext rfl rfl rfl rfl rfl ?_
    refine x_assign rfl rfl rfl rfl ?_
    refine x_assign rfl rfl rfl rfl ?_
    refine Ex.done (hK _ _ ?_)
    refine At.then_n ?_
    refine W.ret ?_
    refine At.mark (M.at_ 2 rfl) ?_
    generalize hwy : World.putObj _ _ _ = w6
    have M := M.put 2 rfl hwy.symm
    refine At.ret2 (.tmp 2) (.tmp 3) rfl ⟨rfl, rfl, trivial⟩ ?_
    rw [cleanP_join (by omega), hcl]; exact ⟨rfl, M.frm⟩
   ·exact HX.elim
end Go.Proofs.YtigfbpbnohkokaaGreat

namespace Go.Proofs.YtigfbpbnohkokaaGreat
open Go Go.Fw
set_option linter.unusedVariables false
set_option linter.unusedSimpArgs false

theorem splitP_cases (p : List UInt8) : (p = [] ∧ splitP p = some []) ∨ (p ≠ [] ∧ splitP p = none) ∨ (p ≠ [] ∧ p.length ≤ 120 ∧ (splitS p).length ≤ 8 ∧ allOK (splitS p) ∧ splitP p = some (splitS p)) := by
 by_cases h : p = []
 ·exact .inl ⟨h, by unfold splitP; rw [if_pos h]⟩
 ·by_cases h1 : 120 < p.length
  ·exact .inr (.inl ⟨h, splitP_long h1⟩)
  ·by_cases h2 : (splitS p).length ≤ 8 ∧ allOK (splitS p)
   ·exact .inr (.inr ⟨h, by omega, h2.1, h2.2, splitP_good h (by omega) h2⟩)
   ·exact .inr (.inl ⟨h, splitP_bad h h2⟩)

/-- Where the last c is. -/
def LastAt (s : List UInt8) (c : UInt8) (z : Int) : Prop := (z = -1 ∧ c ∉ s) ∨ ∃ a x, s = a ++ c :: x ∧ c ∉ x ∧ z = (a.length : Int)
theorem joinS_app : ∀ {a b : List (List UInt8)}, a ≠ [] → b ≠ [] → joinS (a ++ b) = joinS a ++ 47 :: joinS b
 | [], _, h, _ => absurd rfl h
 | [p], b, _, hb => by rw [List.singleton_append, joinS_cons hb]; rfl
 | p :: q :: r, b, _, hb => by
  have := joinS_app (a := q :: r) (b := b) (by simp) hb
  show joinS (p :: (q :: r ++ b)) = joinS (p :: q :: r) ++ 47 :: joinS b
  rw [joinS_cons (p := p) (r := q :: r ++ b) (by simp), this, joinS_cons (p := p) (r := q :: r) (by simp)]
  simp
theorem app_cons_inj {a b x y : List UInt8} {c : UInt8} (h : a ++ c :: x = b ++ c :: y) (hx : c ∉ x) (hy : c ∉ y) : a = b ∧ x = y := by
 induction a generalizing b with
 | nil => cases b with
  | nil => simp at h; exact ⟨rfl, h⟩
  | cons d b => simp at h; exact absurd (by rw [h.2]; simp) hx
 | cons e a ih => cases b with
  | nil => simp at h; exact absurd (by rw [← h.2]; simp) hy
  | cons d b =>
   simp at h
   obtain ⟨h1, h2⟩ := ih h.2
   exact ⟨by rw [h.1, h1], h2⟩

theorem parentP_bad {p : List UInt8} (h : splitE p ≠ 0) : parentP p = ([], [], 8) ∧ splitE p = 8 := by
 unfold splitE at h ⊢
 unfold parentP
 cases hs : splitP p with
 | none => exact ⟨rfl, rfl⟩
 | some l => rw [hs] at h; simp at h
theorem split_snoc (p : List UInt8) : ∃ a x, splitS p = a ++ [x] := ⟨(splitS p).dropLast, (splitS p).getLast (splitS_ne p), (List.dropLast_concat_getLast _).symm⟩
theorem parentP_some {p : List UInt8} (h0 : p ≠ []) (h : splitE p = 0) {a : List (List UInt8)} {x : List UInt8} (hs : splitS p = a ++ [x]) : parentP p = (joinS a, x, 0) := by
 rcases splitP_cases p with ⟨h1, _⟩ | ⟨_, h1⟩ | ⟨_, _, _, _, h1⟩
 ·exact absurd h1 h0
 ·rw [(splitE_none h1).1] at h; cases h
 ·unfold parentP; rw [h1]; simp only; rw [if_neg (splitS_ne p), hs]; simp
theorem parentP_last {p : List UInt8} (h0 : p ≠ []) (h : splitE p = 0) {z : Int} (hz : LastAt p 47 z) :
  (z = -1 → parentP p = ([], p, 0)) ∧ ∀ i : Nat, z = (i : Int) → i < p.length ∧ parentP p = (p.take i, p.drop (i + 1), 0) := by
 obtain ⟨a, x, hs⟩ := split_snoc p
 have hx : (47 : UInt8) ∉ x := splitS_no p x (by rw [hs]; simp)
 have hp := parentP_some h0 h hs
 have hj : p = joinS (a ++ [x]) := by rw [← hs, joinS_splitS]
 by_cases ha : a = []
 ·subst ha
  have hpx : p = x := by rw [hj]; rfl
  rcases hz with ⟨rfl, _⟩ | ⟨b, y, h1, _, _⟩
  ·refine ⟨fun _ => by rw [hp, hpx]; rfl, fun i hi => by omega⟩
  ·exact absurd (by rw [← hpx, h1]; simp) hx
 ·rw [joinS_app ha (by simp)] at hj
  rcases hz with ⟨rfl, h2⟩ | ⟨b, y, h1, h2, rfl⟩
  ·exact absurd (by rw [hj]; simp) h2
  ·obtain ⟨h3, h4⟩ := app_cons_inj (h1.symm.trans hj) h2 hx
   refine ⟨fun hz => by omega, fun i hi => ?_⟩
   have : i = b.length := by omega
   subst this
   rw [hp, h1, ← h3]
   have h5 : joinS [x] = x := rfl
   rw [h5] at h4
   subst h4
   simp

theorem splitS_slash : ∀ (s t : List UInt8), splitS (s ++ 47 :: t) = splitS s ++ splitS t
 | [], t => by simp [splitS]
 | c :: s, t => by
  have ih := splitS_slash s t
  rw [List.cons_append]
  by_cases hc : c = 47
  ·subst hc
   have e1 : splitS (47 :: (s ++ 47 :: t)) = [] :: splitS (s ++ 47 :: t) := by conv => lhs; unfold splitS; rw [if_pos rfl]
   have e2 : splitS (47 :: s) = [] :: splitS s := by conv => lhs; unfold splitS; rw [if_pos rfl]
   rw [e1, e2, ih]; rfl
  ·obtain ⟨p, r, hs⟩ := splitS_ex s
   have e1 : splitS (c :: (s ++ 47 :: t)) = (c :: p) :: (r ++ splitS t) := by
    conv => lhs; unfold splitS; rw [if_neg hc]
    rw [ih, hs]; rfl
   have e2 : splitS (c :: s) = (c :: p) :: r := by
    conv => lhs; unfold splitS; rw [if_neg hc]
    rw [hs]
   rw [e1, e2]; rfl

/-- What the program asks of a path and a directory. -/
def underQ (p dir : List UInt8) : Bool := decide (splitE p = 0) && decide (splitE dir = 0) && (decide (dir = []) || decide (p = dir) || (dir ++ [47]).isPrefixOf p)
theorem under_eq (p dir : List UInt8) : underQ p dir = underP p dir := by
 unfold underQ underP
 rcases splitP_cases p with ⟨hp, h1⟩ | ⟨_, h1⟩ | ⟨hp, _, _, _, h1⟩
 case inr.inl => rw [(splitE_none h1).1, h1]; rfl
 all_goals rcases splitP_cases dir with ⟨hd, h2⟩ | ⟨_, h2⟩ | ⟨hd, _, _, _, h2⟩
 case inl.inr.inl => rw [(splitE_none h2).1, h1, h2]; simp
 case inr.inr.inr.inl => rw [(splitE_none h2).1, h1, h2]; simp
 all_goals rw [(splitE_some h1).1, (splitE_some h2).1, h1, h2]; simp only [decide_true, Bool.true_and]
 ·subst hp hd; rfl
 ·subst hp
  obtain ⟨q, r, hs⟩ := splitS_ex dir
  rw [hs, decide_eq_false hd, decide_eq_false (Ne.symm hd)]
  cases dir with
  | nil => exact absurd rfl hd
  | cons c d => rfl
 ·subst hd; simp
 ·rw [decide_eq_false hd, Bool.false_or]
  rw [Bool.eq_iff_iff, Bool.or_eq_true, decide_eq_true_eq, List.isPrefixOf_iff_prefix, List.isPrefixOf_iff_prefix]
  constructor
  ·rintro (rfl | ⟨t, ht⟩)
   ·exact List.prefix_refl _
   ·rw [← ht, List.append_assoc, List.singleton_append, splitS_slash]
    exact List.prefix_append _ _
  ·rintro ⟨c, hc⟩
   by_cases h0 : c = []
   ·subst h0
    rw [List.append_nil] at hc
    left; rw [← joinS_splitS p, ← hc, joinS_splitS]
   ·right
    refine ⟨joinS c, ?_⟩
    rw [List.append_assoc, List.singleton_append]
    have := joinS_app (splitS_ne dir) h0
    rw [hc, joinS_splitS, joinS_splitS] at this
    exact this.symm

theorem underP_eq (p dir : List UInt8) : underP p dir = (decide (splitE p = 0) && decide (splitE dir = 0) && (splitN dir).isPrefixOf (splitN p)) := by
 unfold underP splitE splitN
 cases splitP p <;> cases splitP dir <;> simp
theorem splitE_nil : splitE [] = 0 := rfl
theorem splitE_len {p : List UInt8} (h : splitE p = 0) : p.length ≤ 120 := by
 rcases splitP_cases p with ⟨h1, _⟩ | ⟨_, h1⟩ | ⟨_, h2, _⟩
 ·subst h1; simp
 ·rw [(splitE_none h1).1] at h; cases h
 ·exact h2
theorem splitN_facts {p : List UInt8} (h : splitE p = 0) : (p = [] ∧ splitN p = []) ∨ (p ≠ [] ∧ splitN p = splitS p ∧ (splitS p).length ≤ 8 ∧ allOK (splitS p)) := by
 rcases splitP_cases p with ⟨h1, h2⟩ | ⟨_, h1⟩ | ⟨h1, _, h3, h4, h2⟩
 ·exact .inl ⟨h1, (splitE_some h2).2⟩
 ·rw [(splitE_none h1).1] at h; cases h
 ·exact .inr ⟨h1, (splitE_some h2).2, h3, h4⟩
theorem splitN_len (p : List UInt8) : (splitN p).length ≤ 8 := by
 rcases splitP_cases p with ⟨h1, h2⟩ | ⟨_, h1⟩ | ⟨h1, _, h3, h4, h2⟩
 ·rw [(splitE_some h2).2]; simp
 ·rw [(splitE_none h1).2]; simp
 ·rw [(splitE_some h2).2]; exact h3
theorem pre_step {A B : List (List UInt8)} {q : Nat} {x y : List UInt8} (h : B.take q = A.take q) (hx : A[q]? = some x) (hy : B[q]? = some y) (he : x = y) : B.take (q + 1) = A.take (q + 1) := by
 rw [take_snoc hx, take_snoc hy, h, he]

/-! ## Order -/
theorem cmp_cases : ∀ (a b : List UInt8), Lib.compareBytes a b = -1 ∨ (Lib.compareBytes a b = 0 ∧ a = b) ∨ Lib.compareBytes a b = 1
 | [], [] => .inr (.inl ⟨rfl, rfl⟩)
 | [], _ :: _ => .inl rfl
 | _ :: _, [] => .inr (.inr rfl)
 | c :: a, d :: b => by
  unfold Lib.compareBytes
  split
  ·exact .inl rfl
  ·split
   ·exact .inr (.inr rfl)
   ·rename_i h1 h2
    have hcd : c = d := by
     rw [UInt8.lt_iff_toNat_lt] at h1 h2
     exact UInt8.toNat_inj.1 (by omega)
    rcases cmp_cases a b with h | ⟨h, h3⟩ | h
    ·exact .inl h
    ·exact .inr (.inl ⟨h, by rw [hcd, h3]⟩)
    ·exact .inr (.inr h)
theorem cmp_self : ∀ a : List UInt8, Lib.compareBytes a a = 0
 | [] => rfl
 | c :: a => by unfold Lib.compareBytes; rw [if_neg (by simp), if_neg (by simp)]; exact cmp_self a
theorem cmp_swap : ∀ a b : List UInt8, Lib.compareBytes b a = - Lib.compareBytes a b
 | [], [] => rfl
 | [], _ :: _ => rfl
 | _ :: _, [] => rfl
 | c :: a, d :: b => by
  have ih := cmp_swap a b
  conv => lhs; unfold Lib.compareBytes
  conv => rhs; unfold Lib.compareBytes
  by_cases h1 : c < d
  ·have h2 : ¬ d < c := by rw [UInt8.lt_iff_toNat_lt] at h1 ⊢; omega
   rw [if_pos h1, if_neg h2, if_pos h1]; rfl
  ·by_cases h2 : d < c
   ·rw [if_pos h2, if_neg h1, if_pos h2]
   ·rw [if_neg h2, if_neg h1, if_neg h1, if_neg h2, ih]

/-- Names that are cut off one by one. -/
def CutOK (l : List (List UInt8)) : Prop := (∀ x ∈ l, (47 : UInt8) ∉ x) ∧ (joinS l).length ≤ 9223372036854775807
theorem CutOK.tail {x : List UInt8} {l : List (List UInt8)} (h : CutOK (x :: l)) : CutOK l := by
 refine ⟨fun y hy => h.1 y (List.mem_cons_of_mem _ hy), ?_⟩
 have h2 := h.2
 by_cases hl : l = []
 ·subst hl; simp [joinS]
 ·rw [joinS_len hl] at h2; omega
theorem CutOK.split {x : List UInt8} {l : List (List UInt8)} (h : CutOK (x :: l)) : splitS (joinS (x :: l)) = x :: l := splitS_joinS (by simp) h.1
end Go.Proofs.YtigfbpbnohkokaaGreat

namespace Go.Proofs.YtigfbpbnohkokaaGreat
open Go Go.Fw Go.RowKit Go.Proofs
set_option linter.unusedVariables false
set_option linter.unusedSimpArgs false


end Go.Proofs.YtigfbpbnohkokaaGreat

namespace Go.Proofs.YtigfbpbnohkokaaGreat
open Go Go.Fw Go.RowKit Go.Proofs
set_option linter.unusedVariables false
set_option linter.unusedSimpArgs false

set_option maxRecDepth 100000 in
theorem lastidxS_c {w0 : World} {s : List UInt8} {c : UInt8} (hl : s.length ≤ 9223372036854775807) : Ret Tryz.prog 137 #[strV s, .int .u8 (c.toNat : Int)] w0 fun r w' => (∃ z, r = .int .i64 z ∧ LastAt s c z) ∧ New w0 w' := by
 have M : Sep w0 [] w0 := St.nil w0
 refine Ret.of_W Tryz.func137 rfl Tryz.ntmps137 rfl ?_
 refine W.seq ?_
 refine W.sub [(0, _), (1, _)] ⟨rfl, rfl, trivial⟩ ?_
 refine W.reg [(0, false)] (by kernel_rfl) ?_
 intro K hK
 refine x_assign rfl rfl rfl rfl ?_
 refine Ex.done (hK _ _ ?_)
 refine At.then_n ?_
 refine W.seq ?_
 refine W.seq ?_
 refine W.sub [(0, _), (1, _)] ⟨rfl, rfl, trivial⟩ ?_
 refine W.reg [(0, false), (1, false), (2, false), (3, false)] (by kernel_rfl) ?_
 intro K hK
 refine x_move rfl rfl rfl rfl ?_
 refine x_lenS rfl rfl rfl rfl Tryz.underlying9 rfl ?_
 refine x_sub _ rfl rfl rfl rfl rfl (wsub (by omega) (by omega)) ?_
 refine x_assign rfl rfl rfl rfl ?_
 refine Ex.done (hK _ _ ?_)
 refine At.then_n ?_
 refine W.block ?_
 refine W.loop (σ := Nat) (fun q => [(0, _), (1, _), (5, .int .i64 ((q : Int) - 1))]) (fun q w => q ≤ s.length ∧ c ∉ s.drop q ∧ Sep w0 [] w) (fun q => q) s.length ⟨rfl, rfl, rfl, trivial⟩ ⟨Nat.le_refl _, by simp, M⟩ ?_
 rintro q w ⟨hq, hno, M⟩
 refine W.seq ?_
 refine W.seq ?_
 refine W.sub [(0, _), (1, _), (5, _)] ⟨rfl, rfl, rfl, trivial⟩ ?_
 refine W.reg [(0, false), (1, false)] (by kernel_rfl) ?_
 intro K hK
 refine x_move rfl rfl rfl rfl ?_
 refine x_geq _ rfl rfl rfl rfl rfl rfl ?_
 refine Ex.done (hK _ _ ?_)
 refine At.then_n ?_
 refine W.cond rfl (fun hco1 => ?_) (fun hco1 => ?_)
 ·try simp only [sA, sB, sC, sD, sE, sF, ne_eq, Bool.not_eq_eq_eq_not, Bool.not_true, Bool.not_false, sK, sL, Bool.not_not, gt_iff_lt, ge_iff_le] at hco1
  obtain ⟨t, rfl⟩ : ∃ t, q = t + 1 := ⟨q - 1, by omega⟩
  obtain ⟨d, hd⟩ := get_lt (l := s) (q := t) (by omega)
  refine W.skip ?_
  refine At.then_n ?_
  refine W.seq ?_
  refine W.block ?_
  refine W.seq ?_
  refine W.sub [(0, _), (1, _), (5, _)] ⟨rfl, rfl, rfl, trivial⟩ ?_
  refine W.reg [(0, false), (1, false), (2, false), (3, false), (4, false)] (by kernel_rfl) ?_
  intro K hK
  refine x_move rfl rfl rfl rfl ?_
  refine x_move rfl rfl rfl rfl ?_
  refine x_ixS t rfl rfl rfl Tryz.underlying9 rfl rfl (by omega) hd ?_
  refine x_move rfl rfl rfl rfl ?_
  refine x_eqi _ rfl rfl rfl rfl rfl rfl ?_
  refine Ex.done (hK _ _ ?_)
  refine At.then_n ?_
  refine W.cond rfl (fun hco2 => ?_) (fun hco2 => ?_)
  ·try simp only [sA, sB, sC, sD, sE, sF, ne_eq, Bool.not_eq_eq_eq_not, Bool.not_true, Bool.not_false, sK, sL, Bool.not_not, gt_iff_lt, ge_iff_le] at hco2
   refine W.seq ?_
   refine W.sub [(5, _)] ⟨rfl, trivial⟩ ?_
   refine W.reg [(0, false), (1, false)] (by kernel_rfl) ?_
   intro K hK
   refine x_move rfl rfl rfl rfl ?_
   refine x_assign rfl rfl rfl rfl ?_
   refine Ex.done (hK _ _ ?_)
   refine At.then_n ?_
   refine W.ret ?_
   refine At.blk_r ?_
   refine At.then_r ?_
   refine At.loop_r ?_
   refine At.blk_r ?_
   refine At.then_r ?_
   refine At.ret1 (.tmp 4) rfl ⟨rfl, trivial⟩ ?_
   have hdc : d = c := UInt8.toNat_inj.1 (by omega)
   subst hdc
   refine ⟨⟨_, rfl, .inr ⟨s.take t, s.drop (t + 1), ?_, hno, by simp; omega⟩⟩, M.frm⟩
   obtain ⟨l1, e1⟩ := (List.getElem?_eq_some_iff.1 hd)
   rw [← e1, ← List.drop_eq_getElem_cons l1, List.take_append_drop]
  ·try simp only [sA, sB, sC, sD, sE, sF, ne_eq, Bool.not_eq_eq_eq_not, Bool.not_true, Bool.not_false, sK, sL, Bool.not_not, gt_iff_lt, ge_iff_le] at hco2
   refine W.skip ?_
   refine At.blk_n ?_
   refine At.then_n ?_
   refine W.sub [(0, _), (1, _), (5, _)] ⟨rfl, rfl, rfl, trivial⟩ ?_
   refine W.reg [(0, false), (1, false), (2, false)] (by kernel_rfl) ?_
   intro K hK
   refine x_move rfl rfl rfl rfl ?_
   refine x_sub ((t : Int) - 1) rfl rfl rfl rfl rfl (by rw [w64 (by omega) (by omega)]; omega) ?_
   refine x_assign rfl rfl rfl rfl ?_
   refine Ex.done (hK _ _ ?_)
   exact At.back (t) ⟨rfl, rfl, rfl, trivial⟩ ⟨by omega, by
    obtain ⟨l1, e1⟩ := (List.getElem?_eq_some_iff.1 hd)
    rw [List.drop_eq_getElem_cons l1, e1, List.mem_cons, not_or]
    exact ⟨fun e => by subst e; simp at hco2, hno⟩, M⟩ (by first | omega | (simp only; omega) | (simp; done) | (simp; omega))
 ·try simp only [sA, sB, sC, sD, sE, sF, ne_eq, Bool.not_eq_eq_eq_not, Bool.not_true, Bool.not_false, sK, sL, Bool.not_not, gt_iff_lt, ge_iff_le] at hco1
  refine W.exit ?_
  refine At.then_x ?_
  refine At.loop_x ?_
  refine At.blk_x ?_
  refine At.then_n ?_
  refine W.seq ?_
  refine W.sub [] trivial ?_
  refine W.reg [(0, false)] (by kernel_rfl) ?_
  intro K hK
  refine x_assign rfl rfl rfl rfl ?_
  refine Ex.done (hK _ _ ?_)
  refine At.then_n ?_
  refine W.ret ?_
  refine At.ret1 (.tmp 4) rfl ⟨rfl, trivial⟩ ?_
  have hq0 : q = 0 := by omega
  subst hq0; exact ⟨⟨_, rfl, .inl ⟨rfl, by simpa using hno⟩⟩, M.frm⟩

set_option maxRecDepth 100000 in
theorem lastidx_c {w0 : World} {s : List UInt8} {c : UInt8} (hl : s.length ≤ 9223372036854775807) : Ret Tryz.prog 124 #[strV s, .int .u8 (c.toNat : Int)] w0 fun r w' => (∃ z, r = .int .i64 z ∧ LastAt s c z) ∧ New w0 w' := by
 have M : Sep w0 [] w0 := St.nil w0
 refine Ret.of_W Tryz.func124 rfl Tryz.ntmps124 rfl ?_
 refine W.seq ?_
 refine W.sub [(0, _), (1, _)] ⟨rfl, rfl, trivial⟩ ?_
 refine W.reg [(0, false)] (by kernel_rfl) ?_
 intro K hK
 refine x_assign rfl rfl rfl rfl ?_
 refine Ex.done (hK _ _ ?_)
 refine At.then_n ?_
 refine W.seq ?_
 refine W.sub [(0, _), (1, _)] ⟨rfl, rfl, trivial⟩ ?_
 refine W.reg [(0, false), (1, false), (2, true), (3, false)] (by kernel_rfl) ?_
 intro K hK
 refine x_move rfl rfl rfl rfl ?_
 refine x_move rfl rfl rfl rfl ?_
 refine x_call rfl rfl rfl rfl rfl en137 (lastidxS_c hl) ?_
 rintro r w1 ⟨⟨z, rfl, hz⟩, hn⟩
 have M := M.new hn
 refine ⟨trivial, ?_⟩
 refine x_assign rfl rfl rfl rfl ?_
 refine Ex.done (hK _ _ ?_)
 refine At.then_n ?_
 refine W.ret ?_
 refine At.ret1 (.tmp 4) rfl ⟨rfl, trivial⟩ ?_
 exact ⟨⟨z, rfl, hz⟩, M.frm⟩

set_option maxRecDepth 100000 in
theorem hasprefS_c {w0 : World} {s t : List UInt8}  : Ret Tryz.prog 139 #[strV s, strV t] w0 fun r w' => r = .bool (t.isPrefixOf s) ∧ New w0 w' := by
 have M : Sep w0 [] w0 := St.nil w0
 refine Ret.of_W Tryz.func139 rfl Tryz.ntmps139 rfl ?_
 refine W.seq ?_
 refine W.sub [(0, _), (1, _)] ⟨rfl, rfl, trivial⟩ ?_
 refine W.reg [(0, false)] (by kernel_rfl) ?_
 intro K hK
 refine x_assign rfl rfl rfl rfl ?_
 refine Ex.done (hK _ _ ?_)
 refine At.then_n ?_
 refine W.seq ?_
 refine W.sub [(0, _), (1, _)] ⟨rfl, rfl, trivial⟩ ?_
 refine W.reg [(0, false), (1, false), (2, false), (3, false), (4, false), (5, false), (6, false), (7, false), (8, false), (9, false), (10, false), (11, false), (12, false), (13, false)] (by kernel_rfl) ?_
 intro K hK
 refine x_move rfl rfl rfl rfl ?_
 refine x_lenS rfl rfl rfl rfl Tryz.underlying9 rfl ?_
 refine x_move rfl rfl rfl rfl ?_
 refine x_lenS rfl rfl rfl rfl Tryz.underlying9 rfl ?_
 refine x_geq _ rfl rfl rfl rfl rfl rfl ?_
 refine x_move rfl rfl rfl rfl ?_
 refine Ex.split 10 rfl (fun hsp1 => ?_) (fun hsp1 => ?_)
 ·
  try simp only [sA, sB, sC, sD, sE, sF, ne_eq, Bool.not_eq_eq_eq_not, Bool.not_true, Bool.not_false, sK, sL, Bool.not_not, gt_iff_lt, ge_iff_le] at hsp1
  refine x_move rfl rfl rfl rfl ?_
  refine x_move rfl rfl rfl rfl ?_
  refine x_lenS rfl rfl rfl rfl Tryz.underlying9 rfl ?_
  refine x_sshS t.length rfl rfl rfl Tryz.underlying9 rfl rfl rfl (by omega) ?_
  refine x_move rfl rfl rfl rfl ?_
  refine x_eqS _ rfl rfl rfl rfl rfl rfl ?_
  refine x_pickT rfl rfl rfl rfl rfl ?_
  refine x_assign rfl rfl rfl rfl ?_
  refine Ex.done (hK _ _ ?_)
  refine At.then_n ?_
  refine W.ret ?_
  refine At.ret1 (.tmp 4) rfl ⟨rfl, trivial⟩ ?_
  exact ⟨by congr 1; rw [Bool.eq_iff_iff, decide_eq_true_eq, List.isPrefixOf_iff_prefix, List.prefix_iff_eq_take]; exact ⟨Eq.symm, Eq.symm⟩, M.frm⟩
 ·
  try simp only [sA, sB, sC, sD, sE, sF, ne_eq, Bool.not_eq_eq_eq_not, Bool.not_true, Bool.not_false, sK, sL, Bool.not_not, gt_iff_lt, ge_iff_le] at hsp1
  refine Ex.skip_ rfl rfl rfl ?_
  refine Ex.skip_ rfl rfl rfl ?_
  refine Ex.skip_ rfl rfl rfl ?_
  refine Ex.skip_ rfl rfl rfl ?_
  refine Ex.skip_ rfl rfl rfl ?_
  refine Ex.skip_ rfl rfl rfl ?_
  refine x_pickF rfl rfl rfl rfl rfl ?_
  refine x_assign rfl rfl rfl rfl ?_
  refine Ex.done (hK _ _ ?_)
  refine At.then_n ?_
  refine W.ret ?_
  refine At.ret1 (.tmp 4) rfl ⟨rfl, trivial⟩ ?_
  exact ⟨by congr 1; rw [eq_comm, ← Bool.not_eq_true, List.isPrefixOf_iff_prefix]; intro h; have := h.length_le; omega, M.frm⟩

set_option maxRecDepth 100000 in
theorem haspref_c {w0 : World} {s t : List UInt8}  : Ret Tryz.prog 129 #[strV s, strV t] w0 fun r w' => r = .bool (t.isPrefixOf s) ∧ New w0 w' := by
 have M : Sep w0 [] w0 := St.nil w0
 refine Ret.of_W Tryz.func129 rfl Tryz.ntmps129 rfl ?_
 refine W.seq ?_
 refine W.sub [(0, _), (1, _)] ⟨rfl, rfl, trivial⟩ ?_
 refine W.reg [(0, false)] (by kernel_rfl) ?_
 intro K hK
 refine x_assign rfl rfl rfl rfl ?_
 refine Ex.done (hK _ _ ?_)
 refine At.then_n ?_
 refine W.seq ?_
 refine W.sub [(0, _), (1, _)] ⟨rfl, rfl, trivial⟩ ?_
 refine W.reg [(0, false), (1, false), (2, true), (3, false)] (by kernel_rfl) ?_
 intro K hK
 refine x_move rfl rfl rfl rfl ?_
 refine x_move rfl rfl rfl rfl ?_
 refine x_call rfl rfl rfl rfl rfl en139 (hasprefS_c) ?_
 rintro r w1 ⟨rfl, hn⟩
 have M := M.new hn
 refine ⟨trivial, ?_⟩
 refine x_assign rfl rfl rfl rfl ?_
 refine Ex.done (hK _ _ ?_)
 refine At.then_n ?_
 refine W.ret ?_
 refine At.ret1 (.tmp 4) rfl ⟨rfl, trivial⟩ ?_
 exact ⟨rfl, M.frm⟩
end Go.Proofs.YtigfbpbnohkokaaGreat

namespace Go.Proofs.YtigfbpbnohkokaaGreat
open Go Go.Fw Go.RowKit Go.Proofs
set_option linter.unusedVariables false
set_option linter.unusedSimpArgs false

set_option maxRecDepth 100000 in
theorem parent_c {w0 : World} {p : List UInt8}  : Ret Tryz.prog 97 #[strV p] w0 fun r w' => r = .tuple #[strV (parentP p).1, strV (parentP p).2.1, .int .i64 (parentP p).2.2] ∧ New w0 w' := by
 have M : Sep w0 [] w0 := St.nil w0
 refine Ret.of_W Tryz.func97 rfl Tryz.ntmps97 rfl ?_
 refine W.seq ?_
 refine W.sub [(0, _)] ⟨rfl, trivial⟩ ?_
 refine W.reg [(0, false), (1, false), (2, false)] (by kernel_rfl) ?_
 intro K hK
 refine x_assign rfl rfl rfl rfl ?_
 refine x_assign rfl rfl rfl rfl ?_
 refine x_assign rfl rfl rfl rfl ?_
 refine Ex.done (hK _ _ ?_)
 refine At.then_n ?_
 refine W.seq ?_
 refine W.seq ?_
 refine W.sub [(0, _)] ⟨rfl, trivial⟩ ?_
 refine W.reg [(0, false), (1, true), (2, false), (3, false), (4, false), (5, false), (6, false)] (by kernel_rfl) ?_
 intro K hK
 refine x_move rfl rfl rfl rfl ?_
 refine x_call rfl rfl rfl rfl rfl en96 (split_c) ?_
 rintro r wcall1 ⟨vcall1, Lcall1, rfl, Mcall1, hscall1⟩
 have M := M.grow Mcall1
 refine ⟨trivial, ?_⟩
 refine x_move rfl rfl rfl rfl ?_
 refine x_ext rfl rfl rfl rfl rfl ?_
 refine x_ext rfl rfl rfl rfl rfl ?_
 refine x_assign rfl rfl rfl rfl ?_
 refine x_assign rfl rfl rfl rfl ?_
 refine Ex.done (hK _ _ ?_)
 refine At.then_n ?_
 refine W.seq ?_
 refine W.sub [(0, _), (6, _)] ⟨rfl, rfl, trivial⟩ ?_
 refine W.reg [(0, false), (1, false)] (by kernel_rfl) ?_
 intro K hK
 refine x_move rfl rfl rfl rfl ?_
 refine x_nei _ rfl rfl rfl rfl rfl rfl ?_
 refine Ex.done (hK _ _ ?_)
 refine At.then_n ?_
 refine W.cond rfl (fun hco1 => ?_) (fun hco1 => ?_)
 ·try simp only [sA, sB, sC, sD, sE, sF, ne_eq, Bool.not_eq_eq_eq_not, Bool.not_true, Bool.not_false, sK, sL, Bool.not_not, gt_iff_lt, ge_iff_le] at hco1
  refine W.seq ?_
  refine W.sub [(6, _)] ⟨rfl, trivial⟩ ?_
  refine W.reg [(0, false), (1, false), (2, false), (3, false)] (by kernel_rfl) ?_
  intro K hK
  refine x_move rfl rfl rfl rfl ?_
  refine x_assign rfl rfl rfl rfl ?_
  refine x_assign rfl rfl rfl rfl ?_
  refine x_assign rfl rfl rfl rfl ?_
  refine Ex.done (hK _ _ ?_)
  refine At.then_n ?_
  refine W.ret ?_
  refine At.then_r ?_
  refine At.ret3 (.tmp 2) (.tmp 3) (.tmp 4) rfl ⟨rfl, rfl, rfl, trivial⟩ ?_
  have h := parentP_bad hco1; exact ⟨by rw [h.1, h.2]; rfl, M.frm⟩
 ·try simp only [sA, sB, sC, sD, sE, sF, ne_eq, Bool.not_eq_eq_eq_not, Bool.not_true, Bool.not_false, sK, sL, Bool.not_not, gt_iff_lt, ge_iff_le] at hco1
  refine W.skip ?_
  refine At.then_n ?_
  refine W.seq ?_
  refine W.seq ?_
  refine W.sub [(0, _)] ⟨rfl, trivial⟩ ?_
  refine W.reg [(0, false), (1, false)] (by kernel_rfl) ?_
  intro K hK
  refine x_move rfl rfl rfl rfl ?_
  refine x_eqS _ rfl rfl rfl rfl rfl rfl ?_
  refine Ex.done (hK _ _ ?_)
  refine At.then_n ?_
  refine W.cond rfl (fun hco2 => ?_) (fun hco2 => ?_)
  ·try simp only [sA, sB, sC, sD, sE, sF, ne_eq, Bool.not_eq_eq_eq_not, Bool.not_true, Bool.not_false, sK, sL, Bool.not_not, gt_iff_lt, ge_iff_le] at hco2
   refine W.seq ?_
   refine W.sub [] trivial ?_
   refine W.reg [(0, false), (1, false), (2, false)] (by kernel_rfl) ?_
   intro K hK
   refine x_assign rfl rfl rfl rfl ?_
   refine x_assign rfl rfl rfl rfl ?_
   refine x_assign rfl rfl rfl rfl ?_
   refine Ex.done (hK _ _ ?_)
   refine At.then_n ?_
   refine W.ret ?_
   refine At.then_r ?_
   refine At.ret3 (.tmp 2) (.tmp 3) (.tmp 4) rfl ⟨rfl, rfl, rfl, trivial⟩ ?_
   subst hco2; exact ⟨rfl, M.frm⟩
  ·try simp only [sA, sB, sC, sD, sE, sF, ne_eq, Bool.not_eq_eq_eq_not, Bool.not_true, Bool.not_false, sK, sL, Bool.not_not, gt_iff_lt, ge_iff_le] at hco2
   have hpl0 := splitE_len hco1
   refine W.skip ?_
   refine At.then_n ?_
   refine W.seq ?_
   refine W.sub [(0, _)] ⟨rfl, trivial⟩ ?_
   refine W.reg [(0, false), (1, true), (2, false)] (by kernel_rfl) ?_
   intro K hK
   refine x_move rfl rfl rfl rfl ?_
   refine x_call rfl rfl rfl rfl rfl en124 (lastidx_c (c := 47) (by omega)) ?_
   rintro r w2 ⟨⟨z, rfl, hz⟩, hn⟩
   have M := M.new hn
   have hpl := parentP_last hco2 hco1 hz
   refine ⟨trivial, ?_⟩
   refine x_assign rfl rfl rfl rfl ?_
   refine Ex.done (hK _ _ ?_)
   refine At.then_n ?_
   refine W.seq ?_
   refine W.seq ?_
   refine W.sub [(0, _), (7, _)] ⟨rfl, rfl, trivial⟩ ?_
   refine W.reg [(0, false), (1, false)] (by kernel_rfl) ?_
   intro K hK
   refine x_move rfl rfl rfl rfl ?_
   refine x_lss _ rfl rfl rfl rfl rfl rfl ?_
   refine Ex.done (hK _ _ ?_)
   refine At.then_n ?_
   refine W.cond rfl (fun hco3 => ?_) (fun hco3 => ?_)
   ·try simp only [sA, sB, sC, sD, sE, sF, ne_eq, Bool.not_eq_eq_eq_not, Bool.not_true, Bool.not_false, sK, sL, Bool.not_not, gt_iff_lt, ge_iff_le] at hco3
    refine W.seq ?_
    refine W.sub [(0, _)] ⟨rfl, trivial⟩ ?_
    refine W.reg [(0, false), (1, false), (2, false), (3, false)] (by kernel_rfl) ?_
    intro K hK
    refine x_move rfl rfl rfl rfl ?_
    refine x_assign rfl rfl rfl rfl ?_
    refine x_assign rfl rfl rfl rfl ?_
    refine x_assign rfl rfl rfl rfl ?_
    refine Ex.done (hK _ _ ?_)
    refine At.then_n ?_
    refine W.ret ?_
    refine At.then_r ?_
    refine At.ret3 (.tmp 2) (.tmp 3) (.tmp 4) rfl ⟨rfl, rfl, rfl, trivial⟩ ?_
    have hz1 : z = -1 := by rcases hz with ⟨h, _⟩ | ⟨a, x, _, _, h⟩ <;> omega
    rw [hpl.1 hz1]; exact ⟨rfl, M.frm⟩
   ·try simp only [sA, sB, sC, sD, sE, sF, ne_eq, Bool.not_eq_eq_eq_not, Bool.not_true, Bool.not_false, sK, sL, Bool.not_not, gt_iff_lt, ge_iff_le] at hco3
    obtain ⟨i, hi⟩ : ∃ i : Nat, z = (i : Int) := ⟨z.toNat, by omega⟩
    obtain ⟨hlt, hpi⟩ := hpl.2 i hi
    refine W.skip ?_
    refine At.then_n ?_
    refine W.seq ?_
    refine W.sub [(0, _), (7, _)] ⟨rfl, rfl, trivial⟩ ?_
    refine W.regD (by kernel_rfl) #[0, 0, 3, 0, 0, 16, 56, 7, 255, 511] [(0, false), (1, false), (2, false), (3, false), (4, false), (5, false), (6, false), (7, false), (8, false), (9, false)] (by kernel_rfl) ?_
    intro K wD1 hK hwD1
    have M := M.drew hwD1
    refine x_move rfl rfl rfl rfl ?_
    refine x_move rfl rfl rfl rfl ?_
    refine x_sshS i rfl rfl rfl Tryz.underlying9 rfl rfl hi (by omega) ?_
    refine x_move rfl rfl rfl rfl ?_
    refine x_move rfl rfl rfl rfl ?_
    refine x_add ((i + 1 : Nat) : Int) rfl rfl rfl rfl rfl (by rw [hi]; exact (w64 (by omega) (by omega)).trans (by omega)) ?_
    refine x_sslS (i + 1) rfl rfl rfl Tryz.underlying9 rfl rfl rfl (by omega) ?_
    refine x_assign rfl rfl rfl rfl ?_
    refine x_assign rfl rfl rfl rfl ?_
    refine x_assign rfl rfl rfl rfl ?_
    refine Ex.done (hK _ _ ?_)
    refine At.then_n ?_
    refine W.ret ?_
    refine At.ret3 (.tmp 2) (.tmp 3) (.tmp 4) rfl ⟨rfl, rfl, rfl, trivial⟩ ?_
    rw [hpi]; exact ⟨rfl, M.frm⟩


set_option maxRecDepth 100000 in
theorem under_c {w0 : World} {p dir : List UInt8}  : Ret Tryz.prog 106 #[strV p, strV dir] w0 fun r w' => r = .bool (underP p dir) ∧ New w0 w' := by
 have M : Sep w0 [] w0 := St.nil w0
 refine Ret.of_W Tryz.func106 rfl Tryz.ntmps106 rfl ?_
 refine W.seq ?_
 refine W.sub [(0, _), (1, _)] ⟨rfl, rfl, trivial⟩ ?_
 refine W.reg [(0, false)] (by kernel_rfl) ?_
 intro K hK
 refine x_assign rfl rfl rfl rfl ?_
 refine Ex.done (hK _ _ ?_)
 refine At.then_n ?_
 refine W.seq ?_
 refine W.sub [(0, _), (1, _)] ⟨rfl, rfl, trivial⟩ ?_
 refine W.reg [(0, false), (1, true), (2, false), (3, false), (4, false), (5, false), (6, false)] (by kernel_rfl) ?_
 intro K hK
 refine x_move rfl rfl rfl rfl ?_
 refine x_call rfl rfl rfl rfl rfl en96 (split_c) ?_
 rintro r wcall1 ⟨vcall1, Lcall1, rfl, Mcall1, hscall1⟩
 have M := M.grow Mcall1
 refine ⟨trivial, ?_⟩
 refine x_move rfl rfl rfl rfl ?_
 refine x_ext rfl rfl rfl rfl rfl ?_
 refine x_ext rfl rfl rfl rfl rfl ?_
 refine x_assign rfl rfl rfl rfl ?_
 refine x_assign rfl rfl rfl rfl ?_
 refine Ex.done (hK _ _ ?_)
 refine At.then_n ?_
 refine W.seq ?_
 refine W.sub [(0, _), (1, _), (6, _)] ⟨rfl, rfl, rfl, trivial⟩ ?_
 refine W.reg [(0, false), (1, true), (2, false), (3, false), (4, false), (5, false), (6, false)] (by kernel_rfl) ?_
 intro K hK
 refine x_move rfl rfl rfl rfl ?_
 refine x_call rfl rfl rfl rfl rfl en96 (split_c) ?_
 rintro r wcall2 ⟨vcall2, Lcall2, rfl, Mcall2, hscall2⟩
 have M := M.grow Mcall2
 refine ⟨trivial, ?_⟩
 refine x_move rfl rfl rfl rfl ?_
 refine x_ext rfl rfl rfl rfl rfl ?_
 refine x_ext rfl rfl rfl rfl rfl ?_
 refine x_assign rfl rfl rfl rfl ?_
 refine x_assign rfl rfl rfl rfl ?_
 refine Ex.done (hK _ _ ?_)
 refine At.then_n ?_
 refine W.seq ?_
 refine W.sub [(0, _), (1, _), (6, _), (8, _)] ⟨rfl, rfl, rfl, rfl, trivial⟩ ?_
 refine W.reg [(0, false), (1, false), (2, false), (3, false), (4, false), (5, false), (6, false), (7, false), (8, false), (9, false), (10, false), (11, false), (12, false), (13, false), (14, false), (15, false), (16, false), (17, false), (18, true), (19, false), (20, false), (21, false)] (by kernel_rfl) ?_
 intro K hK
 refine x_move rfl rfl rfl rfl ?_
 refine x_eqi _ rfl rfl rfl rfl rfl rfl ?_
 refine x_move rfl rfl rfl rfl ?_
 refine Ex.split 21 rfl (fun hsp1 => ?_) (fun hsp1 => ?_)
 ·
  try simp only [sA, sB, sC, sD, sE, sF, ne_eq, Bool.not_eq_eq_eq_not, Bool.not_true, Bool.not_false, sK, sL, Bool.not_not, gt_iff_lt, ge_iff_le] at hsp1
  refine x_move rfl rfl rfl rfl ?_
  refine x_eqi _ rfl rfl rfl rfl rfl rfl ?_
  refine x_pickT rfl rfl rfl rfl rfl ?_
  refine x_move rfl rfl rfl rfl ?_
  refine Ex.split 25 rfl (fun hsp2 => ?_) (fun hsp2 => ?_)
  ·
   try simp only [sA, sB, sC, sD, sE, sF, ne_eq, Bool.not_eq_eq_eq_not, Bool.not_true, Bool.not_false, sK, sL, Bool.not_not, gt_iff_lt, ge_iff_le] at hsp2
   have hdl := splitE_len hsp2
   refine x_move rfl rfl rfl rfl ?_
   refine x_eqS _ rfl rfl rfl rfl rfl rfl ?_
   refine x_move rfl rfl rfl rfl ?_
   refine Ex.split 28 rfl (fun hsp3 => ?_) (fun hsp3 => ?_)
   ·
    try simp only [sA, sB, sC, sD, sE, sF, ne_eq, Bool.not_eq_eq_eq_not, Bool.not_true, Bool.not_false, sK, sL, Bool.not_not, gt_iff_lt, ge_iff_le] at hsp3
    refine Ex.skip_ rfl rfl rfl ?_
    refine Ex.skip_ rfl rfl rfl ?_
    refine Ex.skip_ rfl rfl rfl ?_
    refine x_pickT rfl rfl rfl rfl rfl ?_
    refine x_move rfl rfl rfl rfl ?_
    refine Ex.skip_ rfl rfl rfl ?_
    refine Ex.skip_ rfl rfl rfl ?_
    refine Ex.skip_ rfl rfl rfl ?_
    refine Ex.skipm_ rfl rfl rfl ?_
    refine x_pickT rfl rfl rfl rfl rfl ?_
    refine x_pickT rfl rfl rfl rfl rfl ?_
    refine x_assign rfl rfl rfl rfl ?_
    refine Ex.done (hK _ _ ?_)
    refine At.then_n ?_
    refine W.ret ?_
    refine At.ret1 (.tmp 4) rfl ⟨rfl, trivial⟩ ?_
    exact ⟨by rw [← under_eq]; simp [underQ, splitE_nil, *], M.frm⟩
   ·
    try simp only [sA, sB, sC, sD, sE, sF, ne_eq, Bool.not_eq_eq_eq_not, Bool.not_true, Bool.not_false, sK, sL, Bool.not_not, gt_iff_lt, ge_iff_le] at hsp3
    refine x_move rfl rfl rfl rfl ?_
    refine x_move rfl rfl rfl rfl ?_
    refine x_eqS _ rfl rfl rfl rfl rfl rfl ?_
    refine x_pickF rfl rfl rfl rfl rfl ?_
    refine x_move rfl rfl rfl rfl ?_
    refine Ex.split 33 rfl (fun hsp4 => ?_) (fun hsp4 => ?_)
    ·
     try simp only [sA, sB, sC, sD, sE, sF, ne_eq, Bool.not_eq_eq_eq_not, Bool.not_true, Bool.not_false, sK, sL, Bool.not_not, gt_iff_lt, ge_iff_le] at hsp4
     refine Ex.skip_ rfl rfl rfl ?_
     refine Ex.skip_ rfl rfl rfl ?_
     refine Ex.skip_ rfl rfl rfl ?_
     refine Ex.skipm_ rfl rfl rfl ?_
     refine x_pickT rfl rfl rfl rfl rfl ?_
     refine x_pickT rfl rfl rfl rfl rfl ?_
     refine x_assign rfl rfl rfl rfl ?_
     refine Ex.done (hK _ _ ?_)
     refine At.then_n ?_
     refine W.ret ?_
     refine At.ret1 (.tmp 4) rfl ⟨rfl, trivial⟩ ?_
     exact ⟨by rw [← under_eq]; simp [underQ, splitE_nil, *], M.frm⟩
    ·
     try simp only [sA, sB, sC, sD, sE, sF, ne_eq, Bool.not_eq_eq_eq_not, Bool.not_true, Bool.not_false, sK, sL, Bool.not_not, gt_iff_lt, ge_iff_le] at hsp4
     refine x_move rfl rfl rfl rfl ?_
     refine x_move rfl rfl rfl rfl ?_
     refine x_catS rfl rfl rfl rfl rfl (by simp; omega) ?_
     refine x_call rfl rfl rfl rfl rfl en129 (haspref_c) ?_
     rintro r w3 ⟨rfl, hn3⟩
     have M := M.new hn3
     refine ⟨trivial, ?_⟩
     refine x_pickF rfl rfl rfl rfl rfl ?_
     refine x_pickT rfl rfl rfl rfl rfl ?_
     refine x_assign rfl rfl rfl rfl ?_
     refine Ex.done (hK _ _ ?_)
     refine At.then_n ?_
     refine W.ret ?_
     refine At.ret1 (.tmp 4) rfl ⟨rfl, trivial⟩ ?_
     exact ⟨by rw [← under_eq]; simp [underQ, splitE_nil, *], M.frm⟩
  ·
   try simp only [sA, sB, sC, sD, sE, sF, ne_eq, Bool.not_eq_eq_eq_not, Bool.not_true, Bool.not_false, sK, sL, Bool.not_not, gt_iff_lt, ge_iff_le] at hsp2
   refine Ex.skip_ rfl rfl rfl ?_
   refine Ex.skip_ rfl rfl rfl ?_
   refine Ex.skip_ rfl rfl rfl ?_
   refine Ex.skip_ rfl rfl rfl ?_
   refine Ex.skip_ rfl rfl rfl ?_
   refine Ex.skip_ rfl rfl rfl ?_
   refine Ex.skip_ rfl rfl rfl ?_
   refine Ex.skip_ rfl rfl rfl ?_
   refine Ex.skip_ rfl rfl rfl ?_
   refine Ex.skip_ rfl rfl rfl ?_
   refine Ex.skip_ rfl rfl rfl ?_
   refine Ex.skipm_ rfl rfl rfl ?_
   refine Ex.skip_ rfl rfl rfl ?_
   refine x_pickF rfl rfl rfl rfl rfl ?_
   refine x_assign rfl rfl rfl rfl ?_
   refine Ex.done (hK _ _ ?_)
   refine At.then_n ?_
   refine W.ret ?_
   refine At.ret1 (.tmp 4) rfl ⟨rfl, trivial⟩ ?_
   exact ⟨by rw [← under_eq]; simp [underQ, splitE_nil, *], M.frm⟩
 ·
  try simp only [sA, sB, sC, sD, sE, sF, ne_eq, Bool.not_eq_eq_eq_not, Bool.not_true, Bool.not_false, sK, sL, Bool.not_not, gt_iff_lt, ge_iff_le] at hsp1
  refine Ex.skip_ rfl rfl rfl ?_
  refine Ex.skip_ rfl rfl rfl ?_
  refine x_pickF rfl rfl rfl rfl rfl ?_
  refine x_move rfl rfl rfl rfl ?_
  refine Ex.skip_ rfl rfl rfl ?_
  refine Ex.skip_ rfl rfl rfl ?_
  refine Ex.skip_ rfl rfl rfl ?_
  refine Ex.skip_ rfl rfl rfl ?_
  refine Ex.skip_ rfl rfl rfl ?_
  refine Ex.skip_ rfl rfl rfl ?_
  refine Ex.skip_ rfl rfl rfl ?_
  refine Ex.skip_ rfl rfl rfl ?_
  refine Ex.skip_ rfl rfl rfl ?_
  refine Ex.skip_ rfl rfl rfl ?_
  refine Ex.skip_ rfl rfl rfl ?_
  refine Ex.skipm_ rfl rfl rfl ?_
  refine Ex.skip_ rfl rfl rfl ?_
  refine x_pickF rfl rfl rfl rfl rfl ?_
  refine x_assign rfl rfl rfl rfl ?_
  refine Ex.done (hK _ _ ?_)
  refine At.then_n ?_
  refine W.ret ?_
  refine At.ret1 (.tmp 4) rfl ⟨rfl, trivial⟩ ?_
  exact ⟨by rw [← under_eq]; simp [underQ, splitE_nil, *], M.frm⟩

end Go.Proofs.YtigfbpbnohkokaaGreat

namespace Go.Proofs.YtigfbpbnohkokaaGreat
open Go Go.Fw Go.RowKit Go.Proofs
set_option linter.unusedVariables false
set_option linter.unusedSimpArgs false


end Go.Proofs.YtigfbpbnohkokaaGreat

namespace Go.Proofs.YtigfbpbnohkokaaGreat
open Go Go.Fw Go.RowKit Go.Proofs
set_option linter.unusedVariables false
set_option linter.unusedSimpArgs false




set_option maxRecDepth 100000 in
theorem same_c {w0 : World} {u v : Value} {A B : List (List UInt8)} (hu : StrsAt w0 u A) (hv : StrsAt w0 v B) (hlA : A.length ≤ 1099511627776) : Ret Tryz.prog 54 #[u, v] w0 fun r w' => r = .bool (decide (A = B)) ∧ New w0 w' := by
 have M : Sep w0 [] w0 := St.nil w0
 obtain ⟨p1, cap1, rfl⟩ := hu.shape
 obtain ⟨p2, cap2, rfl⟩ := hv.shape
 refine Ret.of_W Tryz.func54 rfl Tryz.ntmps54 rfl ?_
 refine W.seq ?_
 refine W.sub [(0, _), (1, _)] ⟨rfl, rfl, trivial⟩ ?_
 refine W.reg [(0, false)] (by kernel_rfl) ?_
 intro K hK
 refine x_assign rfl rfl rfl rfl ?_
 refine Ex.done (hK _ _ ?_)
 refine At.then_n ?_
 refine W.seq ?_
 refine W.seq ?_
 refine W.sub [(0, _), (1, _)] ⟨rfl, rfl, trivial⟩ ?_
 refine W.reg [(0, false), (1, false), (2, false), (3, false), (4, false)] (by kernel_rfl) ?_
 intro K hK
 refine x_move rfl rfl rfl rfl ?_
 refine x_len rfl rfl rfl rfl Tryz.underlying47 rfl ?_
 refine x_move rfl rfl rfl rfl ?_
 refine x_len rfl rfl rfl rfl Tryz.underlying47 rfl ?_
 refine x_nei _ rfl rfl rfl rfl rfl rfl ?_
 refine Ex.done (hK _ _ ?_)
 refine At.then_n ?_
 refine W.cond rfl (fun hco1 => ?_) (fun hco1 => ?_)
 ·try simp only [sA, sB, sC, sD, sE, sF, ne_eq, Bool.not_eq_eq_eq_not, Bool.not_true, Bool.not_false, sK, sL, Bool.not_not, gt_iff_lt, ge_iff_le] at hco1
  refine W.seq ?_
  refine W.sub [] trivial ?_
  refine W.reg [(0, false)] (by kernel_rfl) ?_
  intro K hK
  refine x_assign rfl rfl rfl rfl ?_
  refine Ex.done (hK _ _ ?_)
  refine At.then_n ?_
  refine W.ret ?_
  refine At.then_r ?_
  refine At.ret1 (.tmp 4) rfl ⟨rfl, trivial⟩ ?_
  exact ⟨by rw [decide_eq_false]; intro e; subst e; omega, M.frm⟩
 ·try simp only [sA, sB, sC, sD, sE, sF, ne_eq, Bool.not_eq_eq_eq_not, Bool.not_true, Bool.not_false, sK, sL, Bool.not_not, gt_iff_lt, ge_iff_le] at hco1
  refine W.skip ?_
  refine At.then_n ?_
  refine W.seq ?_
  refine W.seq ?_
  refine W.sub [(0, _), (1, _)] ⟨rfl, rfl, trivial⟩ ?_
  refine W.reg [(0, false)] (by kernel_rfl) ?_
  intro K hK
  refine x_assign rfl rfl rfl rfl ?_
  refine Ex.done (hK _ _ ?_)
  refine At.then_n ?_
  refine W.block ?_
  refine W.loop (σ := Nat) (fun q => [(0, _), (1, _), (5, .int .i64 ((q : Nat) : Int))]) (fun q w => q ≤ A.length ∧ B.take q = A.take q ∧ Sep w0 [] w) (fun q => A.length - q) 0 ⟨rfl, rfl, rfl, trivial⟩ ⟨Nat.zero_le _, rfl, M⟩ ?_
  rintro q w ⟨hq, hpre, M⟩
  refine W.seq ?_
  refine W.seq ?_
  refine W.sub [(0, _), (1, _), (5, _)] ⟨rfl, rfl, rfl, trivial⟩ ?_
  refine W.reg [(0, false), (1, false), (2, false), (3, false)] (by kernel_rfl) ?_
  intro K hK
  refine x_move rfl rfl rfl rfl ?_
  refine x_move rfl rfl rfl rfl ?_
  refine x_len rfl rfl rfl rfl Tryz.underlying47 rfl ?_
  refine x_lss _ rfl rfl rfl rfl rfl rfl ?_
  refine Ex.done (hK _ _ ?_)
  refine At.then_n ?_
  refine W.cond rfl (fun hco2 => ?_) (fun hco2 => ?_)
  ·try simp only [sA, sB, sC, sD, sE, sF, ne_eq, Bool.not_eq_eq_eq_not, Bool.not_true, Bool.not_false, sK, sL, Bool.not_not, gt_iff_lt, ge_iff_le] at hco2
   obtain ⟨y, hy⟩ := get_lt (l := B) (q := q) (by omega)
   obtain ⟨x, hx⟩ := get_lt (l := A) (q := q) (by omega)
   obtain ⟨bk1, off1, rfl, _⟩ := hu.blk (j := q) (by omega)
   obtain ⟨bk2, off2, rfl, _⟩ := hv.blk (j := q) (by omega)
   refine W.skip ?_
   refine At.then_n ?_
   refine W.seq ?_
   refine W.block ?_
   refine W.seq ?_
   refine W.sub [(0, _), (1, _), (5, _)] ⟨rfl, rfl, rfl, trivial⟩ ?_
   refine W.regD (by kernel_rfl) #[0, 0, 3, 7, 0, 0, 48, 112, 255] [(0, false), (1, false), (2, false), (3, false), (4, false), (5, false), (6, false), (7, false), (8, false)] (by kernel_rfl) ?_
   intro K wD1 hK hwD1
   have M := M.drew hwD1
   refine x_move rfl rfl rfl rfl ?_
   refine x_move rfl rfl rfl rfl ?_
   refine x_ia q rfl rfl rfl Tryz.underlying47 sz9 rfl rfl rfl (by omega) ?_
   refine x_ld rfl rfl rfl Tryz.underlying9 rfl rfl (StrsAt.cell (hu.new M.frm) hx) ?_
   refine x_move rfl rfl rfl rfl ?_
   refine x_move rfl rfl rfl rfl ?_
   refine x_ia q rfl rfl rfl Tryz.underlying47 sz9 rfl rfl rfl (by omega) ?_
   refine x_ld rfl rfl rfl Tryz.underlying9 rfl rfl (StrsAt.cell (hv.new M.frm) hy) ?_
   refine x_neS _ rfl rfl rfl rfl rfl rfl ?_
   refine Ex.done (hK _ _ ?_)
   refine At.then_n ?_
   refine W.cond rfl (fun hco3 => ?_) (fun hco3 => ?_)
   ·try simp only [sA, sB, sC, sD, sE, sF, ne_eq, Bool.not_eq_eq_eq_not, Bool.not_true, Bool.not_false, sK, sL, Bool.not_not, gt_iff_lt, ge_iff_le] at hco3
    refine W.seq ?_
    refine W.sub [] trivial ?_
    refine W.reg [(0, false)] (by kernel_rfl) ?_
    intro K hK
    refine x_assign rfl rfl rfl rfl ?_
    refine Ex.done (hK _ _ ?_)
    refine At.then_n ?_
    refine W.ret ?_
    refine At.blk_r ?_
    refine At.then_r ?_
    refine At.loop_r ?_
    refine At.blk_r ?_
    refine At.then_r ?_
    refine At.ret1 (.tmp 4) rfl ⟨rfl, trivial⟩ ?_
    exact ⟨by rw [decide_eq_false]; intro e; subst e; rw [hx] at hy; exact hco3 (Option.some.inj hy), M.frm⟩
   ·try simp only [sA, sB, sC, sD, sE, sF, ne_eq, Bool.not_eq_eq_eq_not, Bool.not_true, Bool.not_false, sK, sL, Bool.not_not, gt_iff_lt, ge_iff_le] at hco3
    refine W.skip ?_
    refine At.blk_n ?_
    refine At.then_n ?_
    refine W.sub [(0, _), (1, _), (5, _)] ⟨rfl, rfl, rfl, trivial⟩ ?_
    refine W.reg [(0, false), (1, false), (2, false)] (by kernel_rfl) ?_
    intro K hK
    refine x_move rfl rfl rfl rfl ?_
    refine x_add _ rfl rfl rfl rfl rfl (wadd (by omega) (by omega)) ?_
    refine x_assign rfl rfl rfl rfl ?_
    refine Ex.done (hK _ _ ?_)
    exact At.back (q + 1) ⟨rfl, rfl, rfl, trivial⟩ ⟨by omega, pre_step hpre hx hy hco3, M⟩ (by first | omega | (simp only; omega) | (simp; done) | (simp; omega))
  ·try simp only [sA, sB, sC, sD, sE, sF, ne_eq, Bool.not_eq_eq_eq_not, Bool.not_true, Bool.not_false, sK, sL, Bool.not_not, gt_iff_lt, ge_iff_le] at hco2
   refine W.exit ?_
   refine At.then_x ?_
   refine At.loop_x ?_
   refine At.blk_x ?_
   refine At.then_n ?_
   refine W.seq ?_
   refine W.sub [] trivial ?_
   refine W.reg [(0, false)] (by kernel_rfl) ?_
   intro K hK
   refine x_assign rfl rfl rfl rfl ?_
   refine Ex.done (hK _ _ ?_)
   refine At.then_n ?_
   refine W.ret ?_
   refine At.ret1 (.tmp 4) rfl ⟨rfl, trivial⟩ ?_
   have hq1 : q = A.length := by omega
   subst hq1
   exact ⟨by rw [decide_eq_true]; rw [List.take_length, List.take_of_length_le (by omega)] at hpre; exact hpre.symm, M.frm⟩
end Go.Proofs.YtigfbpbnohkokaaGreat

namespace Go.Fw
open Go Go.RowKit
set_option linter.unusedVariables false
set_option linter.unusedSimpArgs false

def byteV (x : UInt8) : Value := .int .u8 (x.toNat : Int)
def byteCs (b : List UInt8) : List Value := b.map byteV
theorem byteCs_one (b : List UInt8) : ∀ u ∈ byteCs b, u.oneCell' = true := by
 intro u hu; obtain ⟨x, _, rfl⟩ := List.mem_map.1 hu; rfl
theorem byteCs_len (b : List UInt8) : (byteCs b).length = b.length := by simp [byteCs]
theorem byteCs_get {b : List UInt8} {j : Nat} {x : UInt8} (h : b[j]? = some x) : (byteCs b)[j]? = some (byteV x) := by simp [byteCs, h]
abbrev BytesAt (w : World) (v : Value) (b : List UInt8) : Prop := Sg w v 1 b.length (byteCs b)
abbrev BytesO (L : List (Nat × Obj)) (v : Value) (b : List UInt8) : Prop := OwL L v 1 b.length (byteCs b)

theorem St.put2 {S : Nat → Prop} {w0 w w1 : World} {A B : List (Nat × Obj)} {b : Nat} {o0 o : Obj} (h : St S w0 (A ++ (b, o0) :: B) w) (hw : w1 = w.putObj b o) : St S w0 (A ++ (b, o) :: B) w1 := by
 have := h.put A.length (b := b) (o0 := o0) (o := o) (by simp) hw
 simpa using this
theorem St.inn {S : Nat → Prop} {w0 w : World} {F A B C : List (Nat × Obj)} (h : St S w0 (F ++ (A ++ (B ++ C))) w) : St S w0 (A ++ (B ++ (C ++ F))) w := by
 have := h.perm List.perm_append_comm
 simpa only [List.append_assoc] using this
theorem St.out {S : Nat → Prop} {w0 w : World} {A B C : List (Nat × Obj)} (F : List (Nat × Obj)) (h : St S w0 (A ++ (B ++ (C ++ F))) w) : St S w0 (F ++ (A ++ (B ++ C))) w := by
 have e : A ++ (B ++ (C ++ F)) = (A ++ (B ++ C)) ++ F := by simp only [List.append_assoc]
 rw [e] at h
 exact h.perm List.perm_append_comm
theorem St.inn2 {S : Nat → Prop} {w0 w : World} {F B C : List (Nat × Obj)} (h : St S w0 (F ++ (B ++ C)) w) : St S w0 (B ++ (C ++ F)) w := St.inn (A := []) h
theorem St.out2 {S : Nat → Prop} {w0 w : World} {B C : List (Nat × Obj)} (F : List (Nat × Obj)) (h : St S w0 (B ++ (C ++ F)) w) : St S w0 (F ++ (B ++ C)) w := St.out (A := []) F h
theorem St.cutR2 {S : Nat → Prop} {w0 w : World} {B C D : List (Nat × Obj)} (h : St S w0 (B ++ (C ++ D)) w) : St S w0 (B ++ C) w :=
 h.sub (List.Sublist.append (List.Sublist.refl _) (List.sublist_append_left _ _))
theorem SlL.get {w : World} {L : List (Nat × Obj)} {v : Value} {m k : Nat} {cs : List Value} (h : SlL L v m k cs) (hg : ∀ x ∈ L, w.heap[x.1]? = some x.2) : Sl w v m k cs := by
 rcases h with h | ⟨b, off, cap, all, T, fr, h1, h2, h3, h4⟩
 ·exact .inl h
 ·exact .inr ⟨b, off, cap, all, T, fr, h1, h2, hg _ h3, h4⟩
theorem strsO_get {w : World} {L : List (Nat × Obj)} {v : Value} {A : List (List UInt8)} (h : StrsO L v A) (hg : ∀ x ∈ L, w.heap[x.1]? = some x.2) : StrsAt w v A := .inr ((OwL.sl h (by decide)).get hg)
theorem bytesO_get {w : World} {L : List (Nat × Obj)} {v : Value} {b : List UInt8} (h : BytesO L v b) (hg : ∀ x ∈ L, w.heap[x.1]? = some x.2) : BytesAt w v b := .inr ((OwL.sl h (by decide)).get hg)
theorem strOf_bytes {w : World} {v : Value} {b : List UInt8} (h : BytesAt w v b) : StrOf w v b := by
 rcases h with ⟨h1, _, p, cap, rfl⟩ | ⟨rfl, h1, _⟩ | ⟨blk, off, cap, all, T, fr, rfl, hcap, hb, h3, h4⟩
 ·have hb0 : b = [] := List.length_eq_zero_iff.1 h1
  subst hb0
  cases p with
  | none => exact .inl ⟨cap, rfl, rfl⟩
  | some a => exact .inr ⟨a, cap, rfl, fun j hj => absurd hj (by simp)⟩
 ·exact .inl ⟨0, rfl, List.length_eq_zero_iff.1 h1⟩
 ·refine .inr ⟨_, cap, rfl, fun j hj => ?_⟩
  have hsl : Sl w (.slice (some ⟨blk, off, none⟩) b.length cap) 1 b.length (byteCs b) := .inr ⟨blk, off, cap, all, T, fr, rfl, hcap, hb, h3, h4⟩
  have := Sl.cell1 hsl (j := j) (byteCs_get (List.getElem?_eq_getElem hj))
  simp only [Addr.add]
  split
  ·rename_i h0; subst h0; simpa [byteV] using this
  ·simpa [byteV] using this

theorem nodup_le {α : Type} : ∀ {l d : List α}, l.Nodup → (∀ x ∈ l, x ∈ d) → l.length ≤ d.length
 | [], _, _, _ => Nat.zero_le _
 | x :: l, d, hn, hs => by
  obtain ⟨A, B, rfl⟩ := List.append_of_mem (hs x (by simp))
  have := nodup_le (l := l) (d := A ++ B) (List.nodup_cons.1 hn).2 (fun y hy => by
   have h1 := hs y (List.mem_cons_of_mem _ hy)
   have h2 : y ≠ x := fun e => (List.nodup_cons.1 hn).1 (e ▸ hy)
   simp only [List.mem_append, List.mem_cons] at h1 ⊢
   rcases h1 with h1 | h1 | h1
   ·exact .inl h1
   ·exact absurd h1 h2
   ·exact .inr h1)
  simp only [List.length_append, List.length_cons] at this ⊢
  omega

/-- A round that is handed two things. -/
theorem Yld.two {P : Program} {n : Nat} {F : Env} {w : World} {l : Nat} {r : Loop} {p q : Tmp} {v u : Value} {asg : Code} {R : Value → World → Prop} (hl : LoopAt w l r .ready none) (hk : KnowsT n F r.tmps) (hp : r.params = #[p, q]) (hlt : Nat.blt p n = true) (hlq : Nat.blt q n = true) (has : r.assign = asg)
  (h : W P n (some l) asg (AsgQ P n l r R) ((q, u) :: (p, v) :: F) [] w) : Yld P l [v, u] w R := by
 refine ⟨_, hl, by simp [hp], ?_⟩
 have hlt : p < n := by simpa [Nat.blt_eq] using hlt
 have hlq : q < n := by simpa [Nat.blt_eq] using hlq
 have step : ∀ {F : Env} {tm : Array Value} {t : Tmp} {v : Value}, t < n → KnowsT n F tm → KnowsT n ((t, v) :: F) (tm.setIfInBounds t v) := by
  intro F tm t v ht hk
  refine ⟨by simp [hk.size], fun s u hu => ?_⟩
  rw [look_put] at hu
  by_cases e : t = s
  ·subst e; rw [if_pos rfl] at hu; cases hu; simp [hk.size, ht]
  ·rw [if_neg e] at hu; rw [Array.getElem?_setIfInBounds_ne e]; exact hk.slot s u hu
 have hk1 := step (v := u) hlq (step (v := v) hlt hk)
 have hk2 : Knows n ((q, u) :: (p, v) :: F) [] { tmps := (r.tmps.setIfInBounds p v).setIfInBounds q u, defers := [] } := ⟨hk1.size, rfl, hk1.slot⟩
 have h1 := h.out _ hk2
 unfold Rnd
 refine roundIn_of_wpIn (F := Fw none) trivial ?_
 simp only [hp, has]
 simp only [Array.zip, List.zip_toArray] at *
 have e0 : (Array.foldl (fun tmps (x : Tmp × Value) => tmps.setIfInBounds x.fst x.snd) r.tmps (Array.zipWith Prod.mk #[p, q] [v, u].toArray)) = (r.tmps.setIfInBounds p v).setIfInBounds q u := by simp
 rw [e0]
 refine wpIn_mono h1 ?_
 intro e a w1 hq
 cases e with
 | normal =>
  obtain ⟨hl1, hb⟩ := hq
  refine ⟨_, run_beginRound hl1 rfl, ?_⟩
  refine wpIn_mono hb ?_
  intro e a w2 hq
  cases e with
  | normal => exact ⟨_, _, run_endRound none hq.1, _, rfl, hq.2⟩
  | ret => exact ⟨_, _, run_endRound (some .ret) hq.1, _, rfl, hq.2⟩
  | exit id => exact ⟨_, _, run_endRound (some (.exit id)) hq.1, _, rfl, hq.2⟩
  | goto t => exact hq.elim
  | panic ch => exact hq.elim
  | outgrown => exact hq.elim
 | ret => exact hq.elim
 | exit id => exact hq.elim
 | goto t => exact hq.elim
 | panic ch => exact hq.elim
 | outgrown => exact hq.elim

/-! ## Maps by texts -/
theorem strB_beq (a b : List UInt8) : (strB a == strB b) = decide (a = b) := by
 show ByteArray.beq _ _ = _
 rw [Bool.eq_iff_iff]
 simp only [ByteArray.beq, beq_iff_eq, decide_eq_true_eq]
 exact ⟨fun h => strB_inj (by cases ha : strB a; cases hb : strB b; rw [ha, hb] at h; simp at h; rw [h]), fun h => by rw [h]⟩
theorem strKey {P : Program} {K : TypeId} (hK : P.underlying K = some .string) : KeyLaw P K strV where
 eq a b w := by
  unfold Op.equal Op.maxDepth Op.equalIn
  rw [Sem.run_bind, run_underlying hK]
  show Result.ok (strB a == strB b) w = _
  rw [strB_beq]
 ck e a w := by
  unfold Instr.checkKey
  rw [Sem.run_bind, run_underlying hK]
  rfl
 now := ⟨_, hK, .inl fun a b => by show some (strB a == strB b) = _; rw [strB_beq]⟩
 sb a := by simp [Instr.sameBits, strB_beq]

/-- What a map's len tells. -/
def LenAt (w : World) (mb : Option Nat) (k : Nat) : Prop := (mb = none ∧ k = 0) ∨ ∃ r es clock, mb = some r ∧ w.heap[r]? = some (.map es clock) ∧ es.size = k
theorem x_lenm {P : Program} {n : Nat} {ops : Array Oper} {B : Array Nat} {dr : Bool} {K : KT} {s : List (Nat × Bool)} {F : Env} {ds : List Deferred} {T : List (Nat × (World → Prop))} {w : World} {i : Nat}
  {d : Option Tmp} {ty : TypeId} {ps : String} {af : Array Edge} {g : Option (Nat × Bool)} {t k e : Nat} {x : Operand} {mb : Option Nat} {at0 : Array TypeId} (len : Nat) (ho : ops[i]? = some ⟨d, .call ⟨.builtin .len, #[x], at0⟩, ty, ps, af, g⟩) (hg : guardV ops F g = some true) (hd : dstOK n d = true) (ht : at0[0]? = some t) (hu : P.underlying t = some (.map k e)) (hx : ev? F x = some (.map mb)) (hl : LenAt w mb len)
  (h : Ex P n ops B dr K s (putE F d (.int .i64 (len : Int))) ds (addT dr i (fun w' => LenAt w' mb len) T) w) : Ex P n ops B dr K ((i, false) :: s) F ds T w :=
 Ex.read_ ho hg hd _ (fun w' => LenAt w' mb len) (fun at_ hk w' hR => by
  rcases hR with ⟨rfl, rfl⟩ | ⟨r, es, clock, rfl, h1, rfl⟩
  ·simp [execOp, resolve, invoke, builtin, Builtin.len_, ht, hk.eval hx, run_underlying hu, goInt]
  ·have h2 : (getObj r).run P w' = .ok (.map es clock) w' := by simp [getObj, Sem.run, h1]
   simp [execOp, resolve, invoke, builtin, Builtin.len_, ht, hk.eval hx, run_underlying hu, goInt, h2]) hl h

/-- How many keys a map has. -/
theorem run_lenMap {P : Program} {κ : Type} [DecidableEq κ] {enc : κ → Value} {w : World} {r : Nat} {o : Obj} {g : κ → Option Value} (hr : w.heap[r]? = some o) (hm : MapF enc o g) :
  ∃ es clock, o = .map es clock ∧ (es.size = 0 ↔ ∀ k, g k = none) := by
 obtain ⟨es, clock, l, rfl, he, hn, hg, _⟩ := hm
 refine ⟨es, clock, rfl, ?_⟩
 have hl : es.size = l.length := by have := congrArg List.length he; simpa using this
 rw [hl]
 constructor
 ·intro h k
  cases hk : g k with
  | none => rfl
  | some v => have := (hg k v).1 hk; rw [List.length_eq_zero_iff.1 h] at this; cases this
 ·intro h
  cases l with
  | nil => rfl
  | cons p l => have := (hg p.1 p.2).2 (by simp); rw [h] at this; cases this
end Go.Fw

namespace Go.Proofs.YtigfbpbnohkokaaGreat
open Go Go.Fw
set_option linter.unusedVariables false
set_option linter.unusedSimpArgs false

theorem nameOK_ne {x : List UInt8} (h : nameOK x) : x ≠ [] ∧ x ≠ [46] ∧ x ≠ [46, 46] := ⟨fun e => by subst e; have := h.1; simp at this, h.2.2.1, h.2.2.2.1⟩
theorem allOK_no {l : List (List UInt8)} (h : allOK l) : ∀ x ∈ l, (47 : UInt8) ∉ x := fun x hx => nameOK_no (h x hx)
theorem joinS_nil {l : List (List UInt8)} (h : allOK l) : joinS l = [] ↔ l = [] := by
 constructor
 ·intro e
  match l, h, e with
  | [], _, _ => rfl
  | [p], h, e => exact absurd e (nameOK_ne (h p (by simp))).1
  | p :: q :: r, h, e => simp [joinS] at e
 ·rintro rfl; rfl
theorem namesP_join {l : List (List UInt8)} (h : allOK l) : namesP (joinS l) = l := by
 unfold namesP
 split
 ·rename_i e; exact ((joinS_nil h).1 e).symm
 ·rename_i e; exact splitS_joinS (fun e2 => e (by subst e2; rfl)) (allOK_no h)
theorem splitN_join {l : List (List UInt8)} (h1 : l.length ≤ 8) (h2 : allOK l) (h3 : (joinS l).length ≤ 120) : splitE (joinS l) = 0 ∧ splitN (joinS l) = l := by
 by_cases h : l = []
 ·subst h; exact ⟨rfl, rfl⟩
 ·have hs := splitS_joinS h (allOK_no h2)
  have := splitE_some (splitP_good (p := joinS l) (fun e => h ((joinS_nil h2).1 e)) h3 (by rw [hs]; exact ⟨h1, h2⟩))
  rw [hs] at this
  exact this

/-! ## What is clean -/

/-! ## Order -/
theorem cmpL_cases : ∀ (a b : List (List UInt8)), compareL a b = -1 ∨ (compareL a b = 0 ∧ a = b) ∨ compareL a b = 1
 | [], [] => .inr (.inl ⟨rfl, rfl⟩)
 | [], _ :: _ => .inl rfl
 | _ :: _, [] => .inr (.inr rfl)
 | x :: a, y :: b => by
  unfold compareL
  rcases cmp_cases x y with h | ⟨h, rfl⟩ | h
  ·rw [if_pos (by omega)]; exact .inl h
  ·rw [if_neg (by omega)]
   rcases cmpL_cases a b with h2 | ⟨h2, rfl⟩ | h2
   ·exact .inl h2
   ·exact .inr (.inl ⟨h2, rfl⟩)
   ·exact .inr (.inr h2)
  ·rw [if_pos (by omega)]; exact .inr (.inr h)
theorem cmpL_self : ∀ a : List (List UInt8), compareL a a = 0
 | [] => rfl
 | x :: a => by unfold compareL; rw [if_neg (by rw [cmp_self]; simp)]; exact cmpL_self a
theorem cmpL_swap : ∀ a b : List (List UInt8), compareL b a = - compareL a b
 | [], [] => rfl
 | [], _ :: _ => rfl
 | _ :: _, [] => rfl
 | x :: a, y :: b => by
  have ih := cmpL_swap a b
  have h := cmp_swap x y
  conv => lhs; unfold compareL
  conv => rhs; unfold compareL
  by_cases h0 : Lib.compareBytes x y = 0
  ·rw [if_neg (by omega), if_neg (by omega), ih]
  ·rw [if_pos (by omega), if_pos h0, h]
theorem cmp_trans : ∀ {a b c : List UInt8}, Lib.compareBytes a b ≤ 0 → Lib.compareBytes b c ≤ 0 → Lib.compareBytes a c < 0 ∨ (Lib.compareBytes a b = 0 ∧ Lib.compareBytes b c = 0)
 | [], [], [], _, _ => .inr ⟨rfl, rfl⟩
 | [], [], _ :: _, _, _ => .inl (by show (-1 : Int) < 0; omega)
 | [], _ :: _, [], _, h => by exfalso; have : (1 : Int) ≤ 0 := h; omega
 | [], _ :: _, _ :: _, _, _ => .inl (by show (-1 : Int) < 0; omega)
 | _ :: _, [], _, h, _ => by exfalso; have : (1 : Int) ≤ 0 := h; omega
 | _ :: _, _ :: _, [], _, h => by exfalso; have : (1 : Int) ≤ 0 := h; omega
 | x :: a, y :: b, z :: c, h1, h2 => by
  unfold Lib.compareBytes at h1 h2 ⊢
  by_cases g1 : x < y
  ·by_cases g2 : y < z
   ·left; rw [if_pos (by rw [UInt8.lt_iff_toNat_lt] at *; omega)]; omega
   ·rw [if_neg g2] at h2
    by_cases g3 : z < y
    ·rw [if_pos g3] at h2; omega
    ·left; rw [if_pos (by rw [UInt8.lt_iff_toNat_lt] at *; omega)]; omega
  ·rw [if_neg g1] at h1
   by_cases g1' : y < x
   ·rw [if_pos g1'] at h1; omega
   ·have hxy : x = y := UInt8.toNat_inj.1 (by rw [UInt8.lt_iff_toNat_lt] at *; omega)
    subst hxy
    rw [if_neg g1'] at h1
    rw [if_neg (show ¬ x < x by rw [UInt8.lt_iff_toNat_lt]; omega), if_neg (show ¬ x < x by rw [UInt8.lt_iff_toNat_lt]; omega)]
    by_cases g2 : x < z
    ·left; rw [if_pos g2]; omega
    ·rw [if_neg g2] at h2
     by_cases g3 : z < x
     ·rw [if_pos g3] at h2; omega
     ·rw [if_neg g3] at h2
      rw [if_neg g2, if_neg g3]
      rw [if_neg g2, if_neg g3]
      exact cmp_trans h1 h2
theorem cmpL_trans : ∀ {a b c : List (List UInt8)}, compareL a b ≤ 0 → compareL b c ≤ 0 → compareL a c < 0 ∨ (compareL a b = 0 ∧ compareL b c = 0)
 | [], [], [], _, _ => .inr ⟨rfl, rfl⟩
 | [], [], _ :: _, _, _ => .inl (by show (-1 : Int) < 0; omega)
 | [], _ :: _, [], _, h => by exfalso; have : (1 : Int) ≤ 0 := h; omega
 | [], _ :: _, _ :: _, _, _ => .inl (by show (-1 : Int) < 0; omega)
 | _ :: _, [], _, h, _ => by exfalso; have : (1 : Int) ≤ 0 := h; omega
 | _ :: _, _ :: _, [], _, h => by exfalso; have : (1 : Int) ≤ 0 := h; omega
 | x :: a, y :: b, z :: c, h1, h2 => by
  have e1 : compareL (x :: a) (y :: b) = if Lib.compareBytes x y ≠ 0 then Lib.compareBytes x y else compareL a b := rfl
  have e2 : compareL (y :: b) (z :: c) = if Lib.compareBytes y z ≠ 0 then Lib.compareBytes y z else compareL b c := rfl
  have e3 : compareL (x :: a) (z :: c) = if Lib.compareBytes x z ≠ 0 then Lib.compareBytes x z else compareL a c := rfl
  rw [e1] at h1 ⊢
  rw [e2] at h2 ⊢
  rw [e3]
  have k1 : Lib.compareBytes x y ≤ 0 := by by_cases g : Lib.compareBytes x y = 0; omega; rw [if_pos g] at h1; exact h1
  have k2 : Lib.compareBytes y z ≤ 0 := by by_cases g : Lib.compareBytes y z = 0; omega; rw [if_pos g] at h2; exact h2
  rcases cmp_trans k1 k2 with h | ⟨g1, g2⟩
  ·left; rw [if_pos (by omega)]; exact h
  ·have hxy : x = y := by rcases cmp_cases x y with h | ⟨_, h⟩ | h; omega; exact h; omega
   subst hxy
   rw [if_neg (by omega)] at h1 h2
   rw [if_neg (by omega), if_neg (by omega), if_neg (by omega)]
   exact cmpL_trans h1 h2
theorem namesP_inj {a b : List UInt8} (h : namesP a = namesP b) : a = b := by
 have key : ∀ p, joinS (namesP p) = p := fun p => by
  unfold namesP; split
  ·rename_i h; rw [h]; rfl
  ·exact joinS_splitS p
 rw [← key a, ← key b, h]
theorem cmpP_cases (a b : List UInt8) : compareP a b = -1 ∨ (compareP a b = 0 ∧ a = b) ∨ compareP a b = 1 :=
 (cmpL_cases (namesP a) (namesP b)).imp id (fun h => h.imp (fun h => ⟨h.1, namesP_inj h.2⟩) id)
theorem cmpP_swap (a b : List UInt8) : compareP b a = - compareP a b := cmpL_swap _ _
theorem cmpP_self (a : List UInt8) : compareP a a = 0 := cmpL_self _
theorem cmpP_trans {a b c : List UInt8} (h1 : compareP a b ≤ 0) (h2 : compareP b c ≤ 0) : compareP a c < 0 ∨ (compareP a b = 0 ∧ compareP b c = 0) := cmpL_trans h1 h2

/-! ## What stands under a directory -/
theorem namesP_splitN {p : List UInt8} (h : splitE p = 0) : namesP p = splitN p := by
 rcases splitN_facts h with ⟨h1, h2⟩ | ⟨h1, h2, _⟩
 ·rw [h2, h1]; rfl
 ·rw [h2, namesP_some h1]
theorem under_facts {p dir : List UInt8} (h : underP p dir = true) : splitE p = 0 ∧ splitE dir = 0 ∧ ∃ c, namesP p = namesP dir ++ c := by
 rw [underP_eq, Bool.and_eq_true, Bool.and_eq_true, decide_eq_true_eq, decide_eq_true_eq, List.isPrefixOf_iff_prefix] at h
 obtain ⟨⟨h1, h2⟩, c, hc⟩ := h
 exact ⟨h1, h2, c, by rw [namesP_splitN h1, namesP_splitN h2, hc]⟩
theorem under_of {p dir : List UInt8} (h1 : splitE p = 0) (h2 : splitE dir = 0) (h : ∃ c, namesP p = namesP dir ++ c) : underP p dir = true := by
 rw [underP_eq, h1, h2]
 obtain ⟨c, hc⟩ := h
 rw [namesP_splitN h1, namesP_splitN h2] at hc
 simp only [decide_true, Bool.true_and]
 rw [List.isPrefixOf_iff_prefix]
 exact ⟨c, hc.symm⟩

/-! ## Steps -/
end Go.Proofs.YtigfbpbnohkokaaGreat

namespace Go.Proofs.YtigfbpbnohkokaaGreat
open Go Go.Fw Go.RowKit
set_option linter.unusedVariables false
set_option linter.unusedSimpArgs false

abbrev NP := List (List UInt8)
/-- What stands at a path: is it a directory, and its bytes. -/
abbrev Gf := NP → Option (Bool × List UInt8)

/-- What coming along names answers. -/
def comeG (g : Gf) : NP → NP → Int
 | _, [] => 0
 | pre, n :: r => match g pre with
  | some (true, _) => if (g (pre ++ [n])).isNone then 9 else comeG g (pre ++ [n]) r
  | _ => 17

structure Ent where
 p : NP
 b : Nat
 dir : Bool
 m : Nat
 o : Obj
 v : Value
 D : List (Nat × Obj)
 data : List UInt8

def Ent.kv (e : Ent) : Value := if e.dir then .map (some e.m) else .map none
def Ent.hd (e : Ent) : Nat × Obj := (e.b, .cells [.bool e.dir, e.kv, e.v].toArray 169 (0, 0))
def Ent.mp (e : Ent) : List (Nat × Obj) := if e.dir then [(e.m, e.o)] else []
def Ent.blks (e : Ent) : List (Nat × Obj) := e.hd :: (e.mp ++ e.D)
def blks (E : List Ent) : List (Nat × Obj) := E.flatMap Ent.blks
def ent (E : List Ent) (q : NP) : Option Ent := E.find? (fun e => decide (e.p = q))
def kids (E : List Ent) (q : NP) : List UInt8 → Option Value := fun n => (ent E (q ++ [n])).map fun e => ptr e.b
def absE (E : List Ent) : Gf := fun q => (ent E q).map fun e => (e.dir, e.data)
def POK (p : NP) : Prop := p.length ≤ 8 ∧ allOK p ∧ (joinS p).length ≤ 120

structure TI (E : List Ent) : Prop where
 nd : (E.map (·.p)).Nodup
 root : ∃ e, ent E [] = some e ∧ e.dir = true
 par : ∀ q n e, ent E (q ++ [n]) = some e → ∃ d, ent E q = some d ∧ d.dir = true
 ok : ∀ e ∈ E, POK e.p
 map : ∀ e ∈ E, e.dir = true → MapF strV e.o (kids E e.p)
 dat : ∀ e ∈ E, BytesO e.D e.v e.data ∧ e.data.length ≤ 65536
 dd : ∀ e ∈ E, e.dir = true → e.data = []

section
variable {E : List Ent} {e : Ent} {q : NP}
theorem ent_mem (h : ent E q = some e) : e ∈ E ∧ e.p = q := ⟨List.mem_of_find?_eq_some h, by have := List.find?_some h; simpa using this⟩
theorem ent_none (h : ent E q = none) : ∀ e ∈ E, e.p ≠ q := fun e he => by have := List.find?_eq_none.1 h e he; simpa using this
theorem ent_of : ∀ {E : List Ent} {e : Ent}, (E.map (·.p)).Nodup → e ∈ E → ent E e.p = some e
 | x :: E, e, hn, he => by
  unfold ent
  rw [List.find?_cons]
  simp only [List.map_cons, List.nodup_cons] at hn
  rcases List.mem_cons.1 he with rfl | he
  ·simp
  ·have : x.p ≠ e.p := fun h => hn.1 (h ▸ List.mem_map.2 ⟨e, he, rfl⟩)
   simp only [this, decide_false]
   exact ent_of hn.2 he
theorem TI.of (h : TI E) (he : e ∈ E) : ent E e.p = some e := ent_of h.nd he

theorem mem_blks {x : Nat × Obj} : x ∈ blks E ↔ ∃ e ∈ E, x ∈ e.blks := List.mem_flatMap
theorem mem_hd (he : e ∈ E) : e.hd ∈ blks E := mem_blks.2 ⟨e, he, by simp [Ent.blks]⟩
theorem mem_mp (he : e ∈ E) (hd : e.dir = true) : (e.m, e.o) ∈ blks E := mem_blks.2 ⟨e, he, by simp [Ent.blks, Ent.mp, hd]⟩
theorem mem_D (he : e ∈ E) {x : Nat × Obj} (hx : x ∈ e.D) : x ∈ blks E := mem_blks.2 ⟨e, he, by simp [Ent.blks, hx]⟩

/-- All that is under a path is under a directory. -/
theorem TI.pre (h : TI E) : ∀ {r q : NP} {e : Ent}, ent E (q ++ r) = some e → ∃ d, ent E q = some d ∧ (r ≠ [] → d.dir = true) := by
 intro r
 induction r with
 | nil => intro q e he; exact ⟨e, by simpa using he, fun h => absurd rfl h⟩
 | cons n r ih =>
  intro q e he
  have he : ent E ((q ++ [n]) ++ r) = some e := by simpa using he
  obtain ⟨d, hd, _⟩ := ih he
  obtain ⟨d2, h2, h3⟩ := h.par q n d hd
  exact ⟨d2, h2, fun _ => h3⟩
theorem comeE_zero (h : TI E) : ∀ {r q : NP} {d : Ent}, ent E q = some d → (comeG (absE E) q r = 0 ↔ ∃ e, ent E (q ++ r) = some e) := by
 intro r
 induction r with
 | nil => intro q d hd; exact ⟨fun _ => ⟨d, by simpa using hd⟩, fun _ => rfl⟩
 | cons n r ih =>
  intro q d hd
  have e1 : absE E q = some (d.dir, d.data) := by unfold absE; rw [hd]; rfl
  unfold comeG
  rw [e1]
  cases hdd : d.dir with
  | false =>
   refine ⟨fun h => by simp at h, fun ⟨e, he⟩ => ?_⟩
   obtain ⟨d2, h2, h3⟩ := h.pre he
   rw [hd] at h2; cases h2
   rw [h3 (by simp)] at hdd; cases hdd
  | true =>
   simp only
   cases hk : ent E (q ++ [n]) with
   | none =>
    have : absE E (q ++ [n]) = none := by unfold absE; rw [hk]; rfl
    rw [this]
    refine ⟨fun h => by simp at h, fun ⟨e, he⟩ => ?_⟩
    have he : ent E ((q ++ [n]) ++ r) = some e := by simpa using he
    obtain ⟨d2, h2, _⟩ := h.pre he
    rw [hk] at h2; cases h2
   | some k =>
    have : absE E (q ++ [n]) = some (k.dir, k.data) := by unfold absE; rw [hk]; rfl
    rw [this]
    simp only [Option.isNone_some, Bool.false_eq_true, if_false]
    rw [ih hk]; simp
end

/-! ## In memory -/
/-- A node's entries are there. -/
def EAt (w : World) (E : List Ent) : Prop := ∀ x ∈ blks E, w.heap[x.1]? = some x.2
section
variable {S : Nat → Prop} {w0 w w1 : World} {E : List Ent} {L : List (Nat × Obj)} {e : Ent}
theorem EAt.new (h : EAt w E) (hn : New w w1) : EAt w1 E := fun x hx => hn.keep (h x hx)
theorem EAt.of (M : St S w0 (blks E ++ L) w) : EAt w E := fun x hx => M.get (List.mem_append_left _ hx)
theorem EAt.of' (M : St S w0 L w) (hs : ∀ x ∈ blks E, x ∈ L) : EAt w E := fun x hx => M.get (hs x hx)
theorem EAt.hd (h : EAt w E) (he : e ∈ E) : w.heap[e.b]? = some (.cells [.bool e.dir, e.kv, e.v].toArray 169 (0, 0)) := h _ (mem_hd he)
theorem EAt.dir (h : EAt w E) (he : e ∈ E) : w.cell? ⟨e.b, 0, none⟩ = some (.bool e.dir) := cell_of (h.hd he) rfl
theorem EAt.kv (h : EAt w E) (he : e ∈ E) : w.cell? ⟨e.b, 1, none⟩ = some e.kv := cell_of (h.hd he) rfl
theorem EAt.data (h : EAt w E) (he : e ∈ E) : w.cell? ⟨e.b, 2, none⟩ = some e.v := cell_of (h.hd he) rfl
theorem EAt.mp (h : EAt w E) (he : e ∈ E) (hd : e.dir = true) : w.heap[e.m]? = some e.o := h _ (mem_mp he hd)
theorem Ent.kvT (hd : e.dir = true) : e.kv = .map (some e.m) := by simp [Ent.kv, hd]
theorem Ent.kvF (hd : e.dir = false) : e.kv = .map none := by simp [Ent.kv, hd]
theorem EAt.lk (h : EAt w E) (hT : TI E) (he : e ∈ E) (hd : e.dir = true) (n : List UInt8) : LkAt strV w e.m n (kids E e.p n) := ⟨e.o, kids E e.p, h.mp he hd, hT.map e he hd, rfl⟩
theorem EAt.bytes (h : EAt w E) (hT : TI E) (he : e ∈ E) : BytesAt w e.v e.data := by
 obtain ⟨h1, _⟩ := hT.dat e he
 rcases h1 with ⟨r1, r2, r3, _⟩ | ⟨b, cap, rest, T, r1, r2, r3, r4⟩
 ·exact .inr (.inl ⟨r1, r2, r3⟩)
 ·refine .inr (.inr ⟨b, 0, cap, _, T, (0, 0), r1, ?_, h _ (mem_D he (by rw [r2]; exact List.mem_singleton.2 rfl)), by simp [← r3], r3⟩)
  have : e.data.length * 1 ≤ cap * 1 := by rw [← r3, ← r4]; simp
  omega
/-- A tree, behind a pointer. -/
def TrA (w : World) (bt : Nat) (E : List Ent) : Prop := ∃ r, ent E [] = some r ∧ w.heap[bt]? = some (.cells [ptr r.b, .int .i64 ((E.length : Int) - 1)].toArray 133 (0, 0)) ∧ EAt w E ∧ TI E
theorem TrA.new {bt : Nat} (h : TrA w bt E) (hn : New w w1) : TrA w1 bt E := let ⟨r, h1, h2, h3, h4⟩ := h; ⟨r, h1, hn.keep h2, h3.new hn, h4⟩
theorem kids_getD (q : NP) (n : List UInt8) : (kids E q n).getD (.pointer none) = .pointer ((ent E (q ++ [n])).map fun e => ⟨e.b, 0, none⟩) := by
 unfold kids; cases ent E (q ++ [n]) <;> rfl
theorem come_at {l : NP} {j : Nat} {n : List UInt8} {d : Ent} (hn : l[j]? = some n) (hd : ent E (l.take j) = some d) :
  comeG (absE E) (l.take j) (l.drop j) = if d.dir = true then (if (ent E (l.take j ++ [n])).isNone = true then 9 else comeG (absE E) (l.take (j + 1)) (l.drop (j + 1))) else 17 := by
 obtain ⟨hl, rfl⟩ := List.getElem?_eq_some_iff.1 hn
 rw [List.drop_eq_getElem_cons hl, List.take_succ_eq_append_getElem hl]
 have e1 : absE E (l.take j) = some (d.dir, d.data) := by unfold absE; rw [hd]; rfl
 conv => lhs; unfold comeG
 rw [e1]
 cases d.dir with
 | false => simp
 | true =>
  have : (absE E (l.take j ++ [l[j]])).isNone = (ent E (l.take j ++ [l[j]])).isNone := by unfold absE; cases ent E (l.take j ++ [l[j]]) <;> rfl
  simp only [this, if_true]
theorem take_snoc' {l : NP} {j : Nat} {n : List UInt8} (hn : l[j]? = some n) : l.take (j + 1) = l.take j ++ [n] := by
 obtain ⟨hl, rfl⟩ := List.getElem?_eq_some_iff.1 hn
 exact List.take_succ_eq_append_getElem hl
/-- What comes of coming. -/
def ndP (E : List Ent) (q : NP) : Value := .pointer ((ent E q).map fun e => ⟨e.b, 0, none⟩)
theorem come_nd {l : NP} {r : Ent} (hT : TI E) (hr : ent E [] = some r) (h : comeG (absE E) [] l ≠ 0) : ent E l = none := by
 cases hl : ent E l with
 | none => rfl
 | some e => exact absurd ((comeE_zero hT hr).2 ⟨e, by simpa using hl⟩) h
/-- What looking for a path answers. -/
def findG (g : Gf) (p : List UInt8) : Int := if splitE p = 0 then comeG g [] (splitN p) else splitE p
/-- What looking for a path's directory answers. -/
def homeG (g : Gf) (p : List UInt8) (root : Int) : Int :=
 if splitE p = 0 then (if splitN p = [] then root else
  if comeG g [] (splitN p).dropLast = 0 then (if ((g (splitN p).dropLast).getD (false, [])).1 = true then 0 else 17) else comeG g [] (splitN p).dropLast)
 else splitE p
theorem findG_bad {g : Gf} {p : List UInt8} (h : ¬ splitE p = 0) : findG g p = splitE p := if_neg h
theorem findG_ok {g : Gf} {p : List UInt8} (h : splitE p = 0) : findG g p = comeG g [] (splitN p) := if_pos h
theorem homeG_bad {g : Gf} {p : List UInt8} {root : Int} (h : ¬ splitE p = 0) : homeG g p root = splitE p := if_neg h
theorem homeG_root {g : Gf} {p : List UInt8} {root : Int} (h : splitE p = 0) (hn : splitN p = []) : homeG g p root = root := by unfold homeG; rw [if_pos h, if_pos hn]
theorem findG_ent {p : List UInt8} {r : Ent} (hT : TI E) (hr : ent E [] = some r) (h : findG (absE E) p = 0) : splitE p = 0 ∧ ∃ e, ent E (splitN p) = some e := by
 unfold findG at h
 split at h
 ·rename_i h1; exact ⟨h1, by simpa using (comeE_zero hT hr).1 h⟩
 ·rename_i h1; exact absurd h h1
/-- All of a tree's blocks. -/
def tb (bt : Nat) (E : List Ent) : List (Nat × Obj) := (bt, .cells [ndP E [], .int .i64 ((E.length : Int) - 1)].toArray 133 (0, 0)) :: blks E
theorem TrA.of {bt : Nat} (hT : TI E) (M : St S w0 (tb bt E ++ L) w) : TrA w bt E := by
 obtain ⟨r, hr, _⟩ := hT.root
 refine ⟨r, hr, ?_, fun x hx => M.get (by simp [tb, hx]), hT⟩
 have := M.at_ 0 (by rfl)
 unfold ndP at this
 rw [hr] at this
 exact this
end
end Go.Proofs.YtigfbpbnohkokaaGreat

namespace Go.Proofs.YtigfbpbnohkokaaGreat
open Go Go.Fw Go.RowKit Go.Proofs
set_option linter.unusedVariables false
set_option linter.unusedSimpArgs false

set_option maxRecDepth 100000 in
theorem clone_c {w0 : World} {v : Value} {b : List UInt8} (h : BytesAt w0 v b) (hl : b.length ≤ 1099511627776) : Ret Tryz.prog 82 #[v] w0 fun r w' => ∃ Lr, Sep w0 Lr w' ∧ BytesO Lr r b := by
 have M : Sep w0 [] w0 := St.nil w0
 obtain ⟨p, cap, rfl⟩ := h.shape
 refine Ret.of_W Tryz.func82 rfl Tryz.ntmps82 rfl ?_
 refine W.seq ?_
 refine W.sub [(0, _)] ⟨rfl, trivial⟩ ?_
 refine W.reg [(0, false)] (by kernel_rfl) ?_
 intro K hK
 refine x_assign rfl rfl rfl rfl ?_
 refine Ex.done (hK _ _ ?_)
 refine At.then_n ?_
 refine W.seq ?_
 refine W.seq ?_
 refine W.sub [(0, _)] ⟨rfl, trivial⟩ ?_
 refine W.reg [(0, false), (1, false)] (by kernel_rfl) ?_
 intro K hK
 refine x_move rfl rfl rfl rfl ?_
 refine x_eqsn _ rfl rfl rfl Tryz.underlying27 rfl rfl rfl ?_
 refine Ex.done (hK _ _ ?_)
 refine At.then_n ?_
 refine W.cond rfl (fun hco1 => ?_) (fun hco1 => ?_)
 ·try simp only [sA, sB, sC, sD, sE, sF, ne_eq, Bool.not_eq_eq_eq_not, Bool.not_true, Bool.not_false, sK, sL, Bool.not_not, gt_iff_lt, ge_iff_le] at hco1
  have hp : p = none := by simpa using hco1
  subst hp
  have hb : b = [] := by
   rcases h with ⟨h, _⟩ | ⟨_, h, _⟩ | ⟨_, _, _, _, _, _, h, _⟩
   ·exact List.length_eq_zero_iff.1 h
   ·exact List.length_eq_zero_iff.1 h
   ·cases h
  subst hb
  refine W.seq ?_
  refine W.sub [] trivial ?_
  refine W.reg [(0, false)] (by kernel_rfl) ?_
  intro K hK
  refine x_assign rfl rfl rfl rfl ?_
  refine Ex.done (hK _ _ ?_)
  refine At.then_n ?_
  refine W.ret ?_
  refine At.then_r ?_
  refine At.ret1 (.tmp 2) rfl ⟨rfl, trivial⟩ ?_
  exact ⟨[], M, OwL.nil⟩
 ·try simp only [sA, sB, sC, sD, sE, sF, ne_eq, Bool.not_eq_eq_eq_not, Bool.not_true, Bool.not_false, sK, sL, Bool.not_not, gt_iff_lt, ge_iff_le] at hco1
  refine W.skip ?_
  refine At.then_n ?_
  refine W.seq ?_
  refine W.sub [(0, _)] ⟨rfl, trivial⟩ ?_
  refine W.reg [(0, true), (1, false), (2, true), (3, false)] (by kernel_rfl) ?_
  intro K hK
  refine x_bs0 rfl rfl rfl Tryz.underlying27 sz5 ?_
  intro bb wb hbb hwb
  have M := M.acons hbb hwb
  refine ⟨trivial, ?_⟩
  refine x_move rfl rfl rfl rfl ?_
  refine x_apL (L := [_]) (L0 := []) (cs := []) (nn := 0) rfl rfl rfl rfl Tryz.underlying27 sz5 ze5 rfl by5 rfl rfl (.inr ⟨bb, 0, [], _, rfl, rfl, rfl, rfl⟩) M (by simp) ((h.new M.frm).src Tryz.underlying27 (byteCs_one _)) (by omega) (by decide) (by omega) ?_
  intro Lo v6 w6 how M
  rw [Nat.zero_add, List.nil_append] at how
  refine ⟨trivial, ?_⟩
  refine x_assign rfl rfl rfl rfl ?_
  refine Ex.done (hK _ _ ?_)
  refine At.then_n ?_
  refine W.ret ?_
  refine At.ret1 (.tmp 2) rfl ⟨rfl, trivial⟩ ?_
  exact ⟨Lo, by simpa using M, how⟩

set_option maxRecDepth 100000 in
theorem directory_c {w0 : World}   : Ret Tryz.prog 98 #[] w0 fun r w' => ∃ b m, r = ptr b ∧ Sep w0 [(m, .map #[] 0), (b, .cells [.bool true, .map (some m), .slice none 0 0].toArray 169 (0, 0))] w' := by
 have M : Sep w0 [] w0 := St.nil w0
 refine Ret.of_W Tryz.func98 rfl Tryz.ntmps98 rfl ?_
 refine W.seq ?_
 refine W.sub [] trivial ?_
 refine W.reg [(0, false)] (by kernel_rfl) ?_
 intro K hK
 refine x_assign rfl rfl rfl rfl ?_
 refine Ex.done (hK _ _ ?_)
 refine At.then_n ?_
 refine W.seq ?_
 refine W.sub [] trivial ?_
 refine W.reg [(0, true), (1, false), (2, false), (3, true), (4, false)] (by kernel_rfl) ?_
 intro K hK
 refine x_mkmap rfl rfl rfl ?_
 intro bmm1 wmm1 hbmm1 hwmm1
 have M := M.acons hbmm1 hwmm1
 refine ⟨trivial, ?_⟩
 refine x_build [_] rfl rfl rfl pl167 ze167 rfl rfl rfl ?_
 refine x_build [_, _, _] rfl rfl rfl pl169 ze169 rfl rfl rfl ?_
 refine x_box [_, _, _] rfl rfl rfl rfl rfl ?_
 intro bbx1 wbx1 hbbx1 hwbx1
 have M := M.acons hbbx1 hwbx1
 refine ⟨trivial, ?_⟩
 refine x_assign rfl rfl rfl rfl ?_
 refine Ex.done (hK _ _ ?_)
 refine At.then_n ?_
 refine W.ret ?_
 refine At.ret1 (.tmp 0) rfl ⟨rfl, trivial⟩ ?_
 exact ⟨_, _, rfl, M.perm (.swap _ _ _)⟩

set_option maxRecDepth 100000 in
theorem new_c {w0 : World}   : Ret Tryz.prog 62 #[] w0 fun r w' => ∃ b m bt, r = ptr bt ∧ Sep w0 [(bt, .cells [ptr b, .int .i64 0].toArray 133 (0, 0)), (m, .map #[] 0), (b, .cells [.bool true, .map (some m), .slice none 0 0].toArray 169 (0, 0))] w' := by
 have M : Sep w0 [] w0 := St.nil w0
 refine Ret.of_W Tryz.func62 rfl Tryz.ntmps62 rfl ?_
 refine W.seq ?_
 refine W.sub [] trivial ?_
 refine W.reg [(0, false)] (by kernel_rfl) ?_
 intro K hK
 refine x_assign rfl rfl rfl rfl ?_
 refine Ex.done (hK _ _ ?_)
 refine At.then_n ?_
 refine W.seq ?_
 refine W.sub [] trivial ?_
 refine W.reg [(0, true), (1, false), (2, true), (3, false)] (by kernel_rfl) ?_
 intro K hK
 refine x_call rfl rfl rfl rfl rfl en98 (directory_c) ?_
 rintro r wcall1 ⟨bcall1, mcall1, rfl, Mcall1⟩
 have M := M.grow Mcall1
 refine ⟨trivial, ?_⟩
 refine x_build [_, _] rfl rfl rfl pl133 ze133 rfl rfl rfl ?_
 refine x_box [_, _] rfl rfl rfl rfl rfl ?_
 intro bbx1 wbx1 hbbx1 hwbx1
 have M := M.acons hbbx1 hwbx1
 refine ⟨trivial, ?_⟩
 refine x_assign rfl rfl rfl rfl ?_
 refine Ex.done (hK _ _ ?_)
 refine At.then_n ?_
 refine W.ret ?_
 refine At.ret1 (.tmp 0) rfl ⟨rfl, trivial⟩ ?_
 exact ⟨_, _, _, rfl, M⟩

set_option maxRecDepth 100000 in
theorem made_c {w0 : World} {bt : Nat} {E : List Ent}  (hA : TrA w0 bt E)  : Ret Tryz.prog 78 #[ptr bt] w0 fun r w' => r = .bool true ∧ w0 = w' := by
 have M : Sep w0 [] w0 := St.nil w0
 obtain ⟨rt, hrt, hbt, hE, hT⟩ := hA
 refine Ret.of_W Tryz.func78 rfl Tryz.ntmps78 rfl ?_
 refine W.seq ?_
 refine W.sub [(0, _)] ⟨rfl, trivial⟩ ?_
 refine W.reg [(0, false)] (by kernel_rfl) ?_
 intro K hK
 refine x_assign rfl rfl rfl rfl ?_
 refine Ex.done (hK _ _ ?_)
 refine At.then_n ?_
 refine W.seq ?_
 refine W.sub [(0, _)] ⟨rfl, trivial⟩ ?_
 refine W.reg [(0, false), (1, false), (2, false), (3, false), (4, false), (5, false), (6, false), (7, false), (8, false), (9, false)] (by kernel_rfl) ?_
 intro K hK
 refine x_move rfl rfl rfl rfl ?_
 refine x_nepn true rfl rfl rfl Tryz.underlying83 rfl rfl rfl ?_
 refine x_move rfl rfl rfl rfl ?_
 refine x_move rfl rfl rfl rfl ?_
 refine x_nil rfl rfl rfl rfl rfl ?_
 refine x_fa rfl rfl rfl fo133_0 rfl ?_
 refine x_ld rfl rfl rfl Tryz.underlying131 rfl rfl (cell_of hbt rfl) ?_
 refine x_nepn true rfl rfl rfl Tryz.underlying131 rfl rfl rfl ?_
 refine x_pickT rfl rfl rfl rfl rfl ?_
 refine x_assign rfl rfl rfl rfl ?_
 refine Ex.done (hK _ _ ?_)
 refine At.then_n ?_
 refine W.ret ?_
 refine At.ret1 (.tmp 2) rfl ⟨rfl, trivial⟩ ?_
 exact ⟨rfl, rfl⟩

set_option maxRecDepth 100000 in
theorem come_c {w0 : World} {bt : Nat} {E : List Ent} {v : Value} {l : NP} (hA : TrA w0 bt E) (h : StrsAt w0 v l) (hl : l.length ≤ 1000) : Ret Tryz.prog 125 #[ptr bt, v] w0 fun r w' => r = .tuple #[ndP E l, .int .i64 (comeG (absE E) [] l)] ∧ New w0 w' := by
 have M : Sep w0 [] w0 := St.nil w0
 obtain ⟨rt, hrt, hbt, hE, hT⟩ := hA
 obtain ⟨p, cap, rfl⟩ := h.shape
 refine Ret.of_W Tryz.func125 rfl Tryz.ntmps125 rfl ?_
 refine W.seq ?_
 refine W.sub [(0, _), (1, _)] ⟨rfl, rfl, trivial⟩ ?_
 refine W.reg [(0, false), (1, false)] (by kernel_rfl) ?_
 intro K hK
 refine x_assign rfl rfl rfl rfl ?_
 refine x_assign rfl rfl rfl rfl ?_
 refine Ex.done (hK _ _ ?_)
 refine At.then_n ?_
 refine W.seq ?_
 refine W.sub [(0, _), (1, _)] ⟨rfl, rfl, trivial⟩ ?_
 refine W.reg [(0, false), (1, false), (2, false), (3, false), (4, false)] (by kernel_rfl) ?_
 intro K hK
 refine x_move rfl rfl rfl rfl ?_
 refine x_nil rfl rfl rfl rfl rfl ?_
 refine x_fa rfl rfl rfl fo133_0 rfl ?_
 refine x_ld rfl rfl rfl Tryz.underlying131 rfl rfl (cell_of hbt rfl) ?_
 refine x_assign rfl rfl rfl rfl ?_
 refine Ex.done (hK _ _ ?_)
 refine At.then_n ?_
 refine W.seq ?_
 refine W.seq ?_
 refine W.sub [(1, _), (6, _)] ⟨rfl, rfl, trivial⟩ ?_
 refine W.reg [(0, false), (1, false), (2, false)] (by kernel_rfl) ?_
 intro K hK
 refine x_move rfl rfl rfl rfl ?_
 refine x_len rfl rfl rfl rfl Tryz.underlying47 rfl ?_
 refine x_move rfl rfl rfl rfl ?_
 refine Ex.done (hK _ _ ?_)
 refine At.then_n ?_
 refine W.block ?_
 refine W.loop (σ := Nat × Ent) (fun q => [(6, ptr q.2.b), (13, _), (14, _), (15, .int .i64 ((q.1 : Nat) : Int))]) (fun q w => q.1 ≤ l.length ∧ ent E (l.take q.1) = some q.2 ∧ comeG (absE E) [] l = comeG (absE E) (l.take q.1) (l.drop q.1) ∧ Sep w0 [] w) (fun q => l.length - q.1) (0, rt) ⟨rfl, rfl, rfl, rfl, trivial⟩ ⟨Nat.zero_le _, hrt, rfl, M⟩ ?_
 rintro ⟨q, d⟩ w ⟨hq, hd, hcm, M⟩
 simp only at hq hd hcm
 have hE := hE.new M.frm
 have hdm := (ent_mem hd).1
 have hdp := (ent_mem hd).2
 refine W.seq ?_
 refine W.sub [(6, _), (13, _), (14, _), (15, _)] ⟨rfl, rfl, rfl, rfl, trivial⟩ ?_
 refine W.reg [(0, false)] (by kernel_rfl) ?_
 intro K hK
 refine x_lss _ rfl rfl rfl rfl rfl rfl ?_
 refine Ex.done (hK _ _ ?_)
 refine At.then_n ?_
 refine W.seq ?_
 refine W.cond rfl (fun hco1 => ?_) (fun hco1 => ?_)
 ·try simp only [sA, sB, sC, sD, sE, sF, ne_eq, Bool.not_eq_eq_eq_not, Bool.not_true, Bool.not_false, sK, sL, Bool.not_not, gt_iff_lt, ge_iff_le] at hco1
  obtain ⟨x, hx⟩ := get_lt (l := l) (q := q) (by omega)
  obtain ⟨bk, off, rfl, _⟩ := (h.new M.frm).blk (j := q) (by omega)
  rw [come_at hx hd] at hcm
  refine W.skip ?_
  refine At.then_n ?_
  refine W.seq ?_
  refine W.block ?_
  refine W.seq ?_
  refine W.sub [(6, _), (13, _), (14, _), (15, _)] ⟨rfl, rfl, rfl, rfl, trivial⟩ ?_
  refine W.reg [(0, false), (1, false), (2, false)] (by kernel_rfl) ?_
  intro K hK
  refine x_ia q rfl rfl rfl Tryz.underlying47 sz9 rfl rfl rfl (by omega) ?_
  refine x_ld rfl rfl rfl Tryz.underlying9 rfl rfl (StrsAt.cell (h.new M.frm) hx) ?_
  refine x_assign rfl rfl rfl rfl ?_
  refine Ex.done (hK _ _ ?_)
  refine At.then_n ?_
  refine W.seq ?_
  refine W.seq ?_
  refine W.sub [(6, _), (8, _), (13, _), (14, _), (15, _)] ⟨rfl, rfl, rfl, rfl, rfl, trivial⟩ ?_
  refine W.reg [(0, false), (1, false), (2, false), (3, false), (4, false)] (by kernel_rfl) ?_
  intro K hK
  refine x_move rfl rfl rfl rfl ?_
  refine x_nil rfl rfl rfl rfl rfl ?_
  refine x_fa rfl rfl rfl fo169_0 rfl ?_
  refine x_ld rfl rfl rfl Tryz.underlying4 rfl rfl (hE.dir hdm) ?_
  refine x_not _ rfl rfl rfl rfl rfl ?_
  refine Ex.done (hK _ _ ?_)
  refine At.then_n ?_
  refine W.cond rfl (fun hco2 => ?_) (fun hco2 => ?_)
  ·try simp only [sA, sB, sC, sD, sE, sF, ne_eq, Bool.not_eq_eq_eq_not, Bool.not_true, Bool.not_false, sK, sL, Bool.not_not, gt_iff_lt, ge_iff_le] at hco2
   refine W.seq ?_
   refine W.sub [] trivial ?_
   refine W.reg [(0, false), (1, false)] (by kernel_rfl) ?_
   intro K hK
   refine x_assign rfl rfl rfl rfl ?_
   refine x_assign rfl rfl rfl rfl ?_
   refine Ex.done (hK _ _ ?_)
   refine At.then_n ?_
   refine W.ret ?_
   refine At.then_r ?_
   refine At.blk_r ?_
   refine At.then_r ?_
   refine At.loop_r ?_
   refine At.blk_r ?_
   refine At.then_r ?_
   refine At.ret2 (.tmp 4) (.tmp 5) rfl ⟨rfl, rfl, trivial⟩ ?_
   rw [if_neg (by simp [hco2])] at hcm
   exact ⟨by rw [hcm, ndP, come_nd hT hrt (by rw [hcm]; decide)]; rfl, M.frm⟩
  ·try simp only [sA, sB, sC, sD, sE, sF, ne_eq, Bool.not_eq_eq_eq_not, Bool.not_true, Bool.not_false, sK, sL, Bool.not_not, gt_iff_lt, ge_iff_le] at hco2
   refine W.skip ?_
   refine At.then_n ?_
   refine W.seq ?_
   refine W.sub [(6, _), (8, _), (13, _), (14, _), (15, _)] ⟨rfl, rfl, rfl, rfl, rfl, trivial⟩ ?_
   refine W.reg [(0, false), (1, false), (2, false), (3, false), (4, false), (5, false), (6, false), (7, false)] (by kernel_rfl) ?_
   intro K hK
   refine x_move rfl rfl rfl rfl ?_
   refine x_nil rfl rfl rfl rfl rfl ?_
   refine x_fa rfl rfl rfl fo169_1 rfl ?_
   refine x_fa rfl rfl rfl fo167_0 rfl ?_
   refine x_ld rfl rfl rfl Tryz.underlying165 rfl rfl (by have := hE.kv hdm; rw [Ent.kvT hco2] at this; exact this) ?_
   refine x_move rfl rfl rfl rfl ?_
   refine x_lk1 (enc := strV) x rfl rfl rfl (strKey Tryz.underlying9) Tryz.underlying165 ze131 rfl rfl (hE.lk hT hdm hco2 x) ?_
   rw [hdp, kids_getD]
   refine x_assign rfl rfl rfl rfl ?_
   refine Ex.done (hK _ _ ?_)
   refine At.then_n ?_
   refine W.seq ?_
   refine W.sub [(6, _), (13, _), (14, _), (15, _)] ⟨rfl, rfl, rfl, rfl, trivial⟩ ?_
   refine W.reg [(0, false), (1, false)] (by kernel_rfl) ?_
   intro K hK
   refine x_move rfl rfl rfl rfl ?_
   refine x_eqpn (ent E (l.take q ++ [x])).isNone rfl rfl rfl Tryz.underlying131 rfl rfl (by cases ent E (l.take q ++ [x]) <;> rfl) ?_
   refine Ex.done (hK _ _ ?_)
   refine At.then_n ?_
   refine W.cond rfl (fun hco3 => ?_) (fun hco3 => ?_)
   ·try simp only [sA, sB, sC, sD, sE, sF, ne_eq, Bool.not_eq_eq_eq_not, Bool.not_true, Bool.not_false, sK, sL, Bool.not_not, gt_iff_lt, ge_iff_le] at hco3
    rw [if_pos hco2, if_pos hco3] at hcm
    refine W.seq ?_
    refine W.sub [] trivial ?_
    refine W.reg [(0, false), (1, false)] (by kernel_rfl) ?_
    intro K hK
    refine x_assign rfl rfl rfl rfl ?_
    refine x_assign rfl rfl rfl rfl ?_
    refine Ex.done (hK _ _ ?_)
    refine At.then_n ?_
    refine W.ret ?_
    refine At.blk_r ?_
    refine At.then_r ?_
    refine At.loop_r ?_
    refine At.blk_r ?_
    refine At.then_r ?_
    refine At.ret2 (.tmp 4) (.tmp 5) rfl ⟨rfl, rfl, trivial⟩ ?_
    exact ⟨by rw [hcm, ndP, come_nd hT hrt (by rw [hcm]; decide)]; rfl, M.frm⟩
   ·try simp only [sA, sB, sC, sD, sE, sF, ne_eq, Bool.not_eq_eq_eq_not, Bool.not_true, Bool.not_false, sK, sL, Bool.not_not, gt_iff_lt, ge_iff_le] at hco3
    rw [if_pos hco2, if_neg (by simp [hco3])] at hcm
    obtain ⟨k, hk⟩ : ∃ k, ent E (l.take q ++ [x]) = some k := by
     cases hk : ent E (l.take q ++ [x]) with
     | none => rw [hk] at hco3; cases hco3
     | some k => exact ⟨k, rfl⟩
    have hk2 : ent E (l.take (q + 1)) = some k := by rw [take_snoc' hx]; exact hk
    refine W.skip ?_
    refine At.blk_n ?_
    refine At.then_n ?_
    refine W.sub [(6, _), (13, _), (14, _), (15, _)] ⟨rfl, rfl, rfl, rfl, trivial⟩ ?_
    refine W.reg [(0, false), (1, false)] (by kernel_rfl) ?_
    intro K hK
    refine x_add _ rfl rfl rfl rfl rfl (wadd (by omega) (by omega)) ?_
    refine x_move rfl rfl rfl rfl ?_
    refine Ex.done (hK _ _ ?_)
    exact At.back ((q + 1, k)) ⟨(by rw [hk]; rfl), rfl, rfl, rfl, trivial⟩ ⟨by omega, hk2, hcm, M⟩ (by first | omega | (simp only; omega) | (simp; done) | (simp; omega))
 ·try simp only [sA, sB, sC, sD, sE, sF, ne_eq, Bool.not_eq_eq_eq_not, Bool.not_true, Bool.not_false, sK, sL, Bool.not_not, gt_iff_lt, ge_iff_le] at hco1
  refine W.exit ?_
  refine At.then_x ?_
  refine At.loop_x ?_
  refine At.blk_x ?_
  refine At.then_n ?_
  refine W.seq ?_
  refine W.sub [(6, _)] ⟨rfl, trivial⟩ ?_
  refine W.reg [(0, false), (1, false), (2, false)] (by kernel_rfl) ?_
  intro K hK
  refine x_move rfl rfl rfl rfl ?_
  refine x_assign rfl rfl rfl rfl ?_
  refine x_assign rfl rfl rfl rfl ?_
  refine Ex.done (hK _ _ ?_)
  refine At.then_n ?_
  refine W.ret ?_
  refine At.ret2 (.tmp 4) (.tmp 5) rfl ⟨rfl, rfl, trivial⟩ ?_
  obtain rfl : q = l.length := by omega
  rw [List.drop_length, List.take_length] at hcm
  rw [List.take_length] at hd
  exact ⟨by rw [hcm, ndP, hd]; rfl, M.frm⟩
end Go.Proofs.YtigfbpbnohkokaaGreat

namespace Go.Proofs.YtigfbpbnohkokaaGreat
open Go Go.Fw Go.RowKit Go.Proofs
set_option linter.unusedVariables false
set_option linter.unusedSimpArgs false

set_option maxRecDepth 100000 in
theorem find_c {w0 : World} {bt : Nat} {E : List Ent} {p : List UInt8} (hA : TrA w0 bt E)  : Ret Tryz.prog 99 #[ptr bt, strV p] w0 fun r w' => (∃ nd, r = .tuple #[nd, .int .i64 (findG (absE E) p)] ∧ (findG (absE E) p = 0 → nd = ndP E (splitN p))) ∧ New w0 w' := by
 have M : Sep w0 [] w0 := St.nil w0
 have hA0 := hA
 obtain ⟨rt, hrt, hbt, hE, hT⟩ := hA0
 refine Ret.of_W Tryz.func99 rfl Tryz.ntmps99 rfl ?_
 refine W.seq ?_
 refine W.sub [(0, _), (1, _)] ⟨rfl, rfl, trivial⟩ ?_
 refine W.reg [(0, false), (1, false)] (by kernel_rfl) ?_
 intro K hK
 refine x_assign rfl rfl rfl rfl ?_
 refine x_assign rfl rfl rfl rfl ?_
 refine Ex.done (hK _ _ ?_)
 refine At.then_n ?_
 refine W.seq ?_
 refine W.seq ?_
 refine W.sub [(0, _), (1, _)] ⟨rfl, rfl, trivial⟩ ?_
 refine W.reg [(0, false), (1, true), (2, false)] (by kernel_rfl) ?_
 intro K hK
 refine x_move rfl rfl rfl rfl ?_
 refine x_call rfl rfl rfl rfl rfl en78 (made_c (hA.new M.frm)) ?_
 rintro r wcall1 ⟨rfl, rfl⟩
 refine ⟨trivial, ?_⟩
 refine x_not false rfl rfl rfl rfl rfl ?_
 refine Ex.done (hK _ _ ?_)
 refine At.then_n ?_
 refine W.condF rfl ?_
 refine W.skip ?_
 refine At.then_n ?_
 refine W.seq ?_
 refine W.sub [(0, _), (1, _)] ⟨rfl, rfl, trivial⟩ ?_
 refine W.reg [(0, false), (1, true), (2, false), (3, false), (4, false), (5, false), (6, false)] (by kernel_rfl) ?_
 intro K hK
 refine x_move rfl rfl rfl rfl ?_
 refine x_call rfl rfl rfl rfl rfl en96 (split_c) ?_
 rintro r w2 ⟨v2, L2, rfl, M2, hs2⟩
 have M := M.grow M2
 obtain ⟨p2, cap2, rfl, hcap2⟩ := hs2.shape2 (by decide)
 refine ⟨trivial, ?_⟩
 refine x_move rfl rfl rfl rfl ?_
 refine x_ext rfl rfl rfl rfl rfl ?_
 refine x_ext rfl rfl rfl rfl rfl ?_
 refine x_assign rfl rfl rfl rfl ?_
 refine x_assign rfl rfl rfl rfl ?_
 refine Ex.done (hK _ _ ?_)
 refine At.then_n ?_
 refine W.seq ?_
 refine W.seq ?_
 refine W.sub [(0, _), (6, _), (7, _)] ⟨rfl, rfl, rfl, trivial⟩ ?_
 refine W.reg [(0, false), (1, false)] (by kernel_rfl) ?_
 intro K hK
 refine x_move rfl rfl rfl rfl ?_
 refine x_nei _ rfl rfl rfl rfl rfl rfl ?_
 refine Ex.done (hK _ _ ?_)
 refine At.then_n ?_
 refine W.cond rfl (fun hco2 => ?_) (fun hco2 => ?_)
 ·try simp only [sA, sB, sC, sD, sE, sF, ne_eq, Bool.not_eq_eq_eq_not, Bool.not_true, Bool.not_false, sK, sL, Bool.not_not, gt_iff_lt, ge_iff_le] at hco2
  refine W.seq ?_
  refine W.sub [(7, _)] ⟨rfl, trivial⟩ ?_
  refine W.reg [(0, false), (1, false), (2, false)] (by kernel_rfl) ?_
  intro K hK
  refine x_move rfl rfl rfl rfl ?_
  refine x_assign rfl rfl rfl rfl ?_
  refine x_assign rfl rfl rfl rfl ?_
  refine Ex.done (hK _ _ ?_)
  refine At.then_n ?_
  refine W.ret ?_
  refine At.then_r ?_
  refine At.ret2 (.tmp 4) (.tmp 5) rfl ⟨rfl, rfl, trivial⟩ ?_
  rw [findG_bad hco2]; exact ⟨⟨_, rfl, fun h => absurd h hco2⟩, M.frm⟩
 ·try simp only [sA, sB, sC, sD, sE, sF, ne_eq, Bool.not_eq_eq_eq_not, Bool.not_true, Bool.not_false, sK, sL, Bool.not_not, gt_iff_lt, ge_iff_le] at hco2
  refine W.skip ?_
  refine At.then_n ?_
  refine W.seq ?_
  refine W.sub [(0, _), (6, _)] ⟨rfl, rfl, trivial⟩ ?_
  refine W.reg [(0, false), (1, false), (2, true), (3, false), (4, false), (5, false), (6, false)] (by kernel_rfl) ?_
  intro K hK
  refine x_move rfl rfl rfl rfl ?_
  refine x_move rfl rfl rfl rfl ?_
  refine x_call rfl rfl rfl rfl rfl en125 (come_c (hA.new M.frm) (strsO_at hs2 M (fun _ h => h)) (by have := splitN_len p; omega)) ?_
  rintro r w3 ⟨rfl, hn3⟩
  have M := M.new hn3
  refine ⟨trivial, ?_⟩
  refine x_ext rfl rfl rfl rfl rfl ?_
  refine x_ext rfl rfl rfl rfl rfl ?_
  refine x_assign rfl rfl rfl rfl ?_
  refine x_assign rfl rfl rfl rfl ?_
  refine Ex.done (hK _ _ ?_)
  refine At.then_n ?_
  refine W.ret ?_
  refine At.ret2 (.tmp 4) (.tmp 5) rfl ⟨rfl, rfl, trivial⟩ ?_
  rw [findG_ok hco2]; exact ⟨⟨_, rfl, fun _ => rfl⟩, M.frm⟩

set_option maxRecDepth 100000 in
theorem home_c {w0 : World} {bt : Nat} {E : List Ent} {p : List UInt8} {root : Int} (hA : TrA w0 bt E) (hroot : root ≠ 0) : Ret Tryz.prog 100 #[ptr bt, strV p, .int .i64 root] w0 fun r w' => (∃ nd nm, r = .tuple #[nd, nm, .int .i64 (homeG (absE E) p root)] ∧ (homeG (absE E) p root = 0 → splitE p = 0 ∧ ∃ q n d, splitN p = q ++ [n] ∧ ent E q = some d ∧ d.dir = true ∧ nd = ptr d.b ∧ nm = strV n)) ∧ New w0 w' := by
 have M : Sep w0 [] w0 := St.nil w0
 have hA0 := hA
 obtain ⟨rt, hrt, hbt, hE, hT⟩ := hA0
 refine Ret.of_W Tryz.func100 rfl Tryz.ntmps100 rfl ?_
 refine W.seq ?_
 refine W.sub [(0, _), (1, _), (2, _)] ⟨rfl, rfl, rfl, trivial⟩ ?_
 refine W.reg [(0, false), (1, false), (2, false)] (by kernel_rfl) ?_
 intro K hK
 refine x_assign rfl rfl rfl rfl ?_
 refine x_assign rfl rfl rfl rfl ?_
 refine x_assign rfl rfl rfl rfl ?_
 refine Ex.done (hK _ _ ?_)
 refine At.then_n ?_
 refine W.seq ?_
 refine W.seq ?_
 refine W.sub [(0, _), (1, _), (2, _)] ⟨rfl, rfl, rfl, trivial⟩ ?_
 refine W.reg [(0, false), (1, true), (2, false)] (by kernel_rfl) ?_
 intro K hK
 refine x_move rfl rfl rfl rfl ?_
 refine x_call rfl rfl rfl rfl rfl en78 (made_c (hA.new M.frm)) ?_
 rintro r wcall1 ⟨rfl, rfl⟩
 refine ⟨trivial, ?_⟩
 refine x_not false rfl rfl rfl rfl rfl ?_
 refine Ex.done (hK _ _ ?_)
 refine At.then_n ?_
 refine W.condF rfl ?_
 refine W.skip ?_
 refine At.then_n ?_
 refine W.seq ?_
 refine W.sub [(0, _), (1, _), (2, _)] ⟨rfl, rfl, rfl, trivial⟩ ?_
 refine W.reg [(0, false), (1, true), (2, false), (3, false), (4, false), (5, false), (6, false)] (by kernel_rfl) ?_
 intro K hK
 refine x_move rfl rfl rfl rfl ?_
 refine x_call rfl rfl rfl rfl rfl en96 (split_c) ?_
 rintro r w2 ⟨v2, L2, rfl, M2, hs2⟩
 have M := M.grow M2
 obtain ⟨p2, cap2, rfl, hcap2⟩ := hs2.shape2 (by decide)
 refine ⟨trivial, ?_⟩
 refine x_move rfl rfl rfl rfl ?_
 refine x_ext rfl rfl rfl rfl rfl ?_
 refine x_ext rfl rfl rfl rfl rfl ?_
 refine x_assign rfl rfl rfl rfl ?_
 refine x_assign rfl rfl rfl rfl ?_
 refine Ex.done (hK _ _ ?_)
 refine At.then_n ?_
 refine W.seq ?_
 refine W.block ?_
 refine W.seq ?_
 refine W.sub [(0, _), (2, _), (9, _), (10, _)] ⟨rfl, rfl, rfl, rfl, trivial⟩ ?_
 refine W.reg [(0, false), (1, false), (2, false)] (by kernel_rfl) ?_
 intro K hK
 refine x_move rfl rfl rfl rfl ?_
 refine x_nei _ rfl rfl rfl rfl rfl rfl ?_
 refine x_assign rfl rfl rfl rfl ?_
 refine Ex.done (hK _ _ ?_)
 refine At.then_n ?_
 refine W.cond rfl (fun hco2 => ?_) (fun hco2 => ?_)
 ·try simp only [sA, sB, sC, sD, sE, sF, ne_eq, Bool.not_eq_eq_eq_not, Bool.not_true, Bool.not_false, sK, sL, Bool.not_not, gt_iff_lt, ge_iff_le] at hco2
  refine W.seq ?_
  refine W.sub [(10, _)] ⟨rfl, trivial⟩ ?_
  refine W.reg [(0, false), (1, false), (2, false), (3, false)] (by kernel_rfl) ?_
  intro K hK
  refine x_move rfl rfl rfl rfl ?_
  refine x_assign rfl rfl rfl rfl ?_
  refine x_assign rfl rfl rfl rfl ?_
  refine x_assign rfl rfl rfl rfl ?_
  refine Ex.done (hK _ _ ?_)
  refine At.then_n ?_
  refine W.ret ?_
  refine At.blk_r ?_
  refine At.then_r ?_
  refine At.ret3 (.tmp 6) (.tmp 7) (.tmp 8) rfl ⟨rfl, rfl, rfl, trivial⟩ ?_
  rw [homeG_bad hco2]; exact ⟨⟨_, _, rfl, fun h => absurd h hco2⟩, M.frm⟩
 ·try simp only [sA, sB, sC, sD, sE, sF, ne_eq, Bool.not_eq_eq_eq_not, Bool.not_true, Bool.not_false, sK, sL, Bool.not_not, gt_iff_lt, ge_iff_le] at hco2
  refine W.seq ?_
  refine W.sub [(0, _), (2, _), (9, _)] ⟨rfl, rfl, rfl, trivial⟩ ?_
  refine W.reg [(0, false), (1, false), (2, false), (3, false)] (by kernel_rfl) ?_
  intro K hK
  refine x_move rfl rfl rfl rfl ?_
  refine x_len rfl rfl rfl rfl Tryz.underlying47 rfl ?_
  refine x_eqi _ rfl rfl rfl rfl rfl rfl ?_
  refine x_assign rfl rfl rfl rfl ?_
  refine Ex.done (hK _ _ ?_)
  refine At.then_n ?_
  refine W.cond rfl (fun hco3 => ?_) (fun hco3 => ?_)
  ·try simp only [sA, sB, sC, sD, sE, sF, ne_eq, Bool.not_eq_eq_eq_not, Bool.not_true, Bool.not_false, sK, sL, Bool.not_not, gt_iff_lt, ge_iff_le] at hco3
   have hnil : splitN p = [] := List.length_eq_zero_iff.1 (by omega)
   refine W.seq ?_
   refine W.sub [(2, _)] ⟨rfl, trivial⟩ ?_
   refine W.reg [(0, false), (1, false), (2, false), (3, false)] (by kernel_rfl) ?_
   intro K hK
   refine x_move rfl rfl rfl rfl ?_
   refine x_assign rfl rfl rfl rfl ?_
   refine x_assign rfl rfl rfl rfl ?_
   refine x_assign rfl rfl rfl rfl ?_
   refine Ex.done (hK _ _ ?_)
   refine At.then_n ?_
   refine W.ret ?_
   refine At.blk_r ?_
   refine At.then_r ?_
   refine At.ret3 (.tmp 6) (.tmp 7) (.tmp 8) rfl ⟨rfl, rfl, rfl, trivial⟩ ?_
   rw [homeG_root hco2 hnil]; exact ⟨⟨_, _, rfl, fun h => absurd h hroot⟩, M.frm⟩
  ·try simp only [sA, sB, sC, sD, sE, sF, ne_eq, Bool.not_eq_eq_eq_not, Bool.not_true, Bool.not_false, sK, sL, Bool.not_not, gt_iff_lt, ge_iff_le] at hco3
   have hnil : splitN p ≠ [] := fun e => hco3 (by rw [e]; rfl)
   have hsl := splitN_len p
   have hq0 : (splitN p).dropLast = (splitN p).take ((splitN p).length - 1) := List.dropLast_eq_take
   obtain ⟨q, n, hqn⟩ : ∃ q n, splitN p = q ++ [n] := ⟨_, _, (List.dropLast_concat_getLast hnil).symm⟩
   have hq : (splitN p).dropLast = q := by rw [hqn]; simp
   have hlen : (splitN p).length = q.length + 1 := by rw [hqn]; simp
   refine W.skip ?_
   refine At.blk_n ?_
   refine At.then_n ?_
   refine W.seq ?_
   refine W.sub [(0, _), (9, _)] ⟨rfl, rfl, trivial⟩ ?_
   refine W.reg [(0, false), (1, false), (2, false), (3, false), (4, false), (5, false), (6, true), (7, false), (8, false), (9, false), (10, false), (11, false)] (by kernel_rfl) ?_
   intro K hK
   refine x_move rfl rfl rfl rfl ?_
   refine x_move rfl rfl rfl rfl ?_
   refine x_move rfl rfl rfl rfl ?_
   refine x_len rfl rfl rfl rfl Tryz.underlying47 rfl ?_
   refine x_sub _ rfl rfl rfl rfl rfl (wsub (by omega) (by omega)) ?_
   refine x_slh q.length rfl rfl rfl Tryz.underlying47 sz9 rfl rfl (by omega) (by omega) ?_
   refine x_call rfl rfl rfl rfl rfl en125 (come_c (hA.new M.frm) (strsO_at (strsO_take hs2 (j := q.length) (by omega)) M (fun _ h => h)) (by simp; omega)) ?_
   rintro r w3 ⟨rfl, hn3⟩
   have M := M.new hn3
   have htk : (splitN p).take q.length = q := by rw [hqn]; simp
   rw [htk]
   refine ⟨trivial, ?_⟩
   refine x_move rfl rfl rfl rfl ?_
   refine x_ext rfl rfl rfl rfl rfl ?_
   refine x_ext rfl rfl rfl rfl rfl ?_
   refine x_assign rfl rfl rfl rfl ?_
   refine x_assign rfl rfl rfl rfl ?_
   refine Ex.done (hK _ _ ?_)
   refine At.then_n ?_
   refine W.seq ?_
   refine W.seq ?_
   refine W.sub [(9, _), (10, _), (11, _)] ⟨rfl, rfl, rfl, trivial⟩ ?_
   refine W.reg [(0, false), (1, false), (2, false), (3, false), (4, false), (5, false), (6, false), (7, false), (8, false)] (by kernel_rfl) ?_
   intro K hK
   refine x_move rfl rfl rfl rfl ?_
   refine x_eqi _ rfl rfl rfl rfl rfl rfl ?_
   refine x_move rfl rfl rfl rfl ?_
   refine Ex.split 41 rfl (fun hsp1 => ?_) (fun hsp1 => ?_)
   ·
    try simp only [sA, sB, sC, sD, sE, sF, ne_eq, Bool.not_eq_eq_eq_not, Bool.not_true, Bool.not_false, sK, sL, Bool.not_not, gt_iff_lt, ge_iff_le] at hsp1
    obtain ⟨d, hd⟩ : ∃ d, ent E q = some d := by simpa using (comeE_zero hT hrt).1 hsp1
    have hnd : ndP E q = ptr d.b := by unfold ndP; rw [hd]; rfl
    rw [hnd]
    have hgq : absE E q = some (d.dir, d.data) := by unfold absE; rw [hd]; rfl
    obtain ⟨bk, off, rfl, _⟩ := (strsO_at hs2 M (fun _ h => h)).blk (j := q.length) (by omega)
    have hHG : homeG (absE E) p root = if d.dir = true then 0 else 17 := by unfold homeG; rw [if_pos hco2, if_neg hnil, hq, if_pos hsp1, hgq]; rfl
    refine x_move rfl rfl rfl rfl ?_
    refine x_nil rfl rfl rfl rfl rfl ?_
    refine x_fa rfl rfl rfl fo169_0 rfl ?_
    refine x_ld rfl rfl rfl Tryz.underlying4 rfl rfl ((hE.new M.frm).dir (ent_mem hd).1) ?_
    refine x_not _ rfl rfl rfl rfl rfl ?_
    refine x_pickT rfl rfl rfl rfl rfl ?_
    refine Ex.done (hK _ _ ?_)
    refine At.then_n ?_
    refine W.cond rfl (fun hco4 => ?_) (fun hco4 => ?_)
    ·try simp only [sA, sB, sC, sD, sE, sF, ne_eq, Bool.not_eq_eq_eq_not, Bool.not_true, Bool.not_false, sK, sL, Bool.not_not, gt_iff_lt, ge_iff_le] at hco4
     refine W.sub [(9, _), (11, _)] ⟨rfl, rfl, trivial⟩ ?_
     refine W.reg [(0, false)] (by kernel_rfl) ?_
     intro K hK
     refine x_assign rfl rfl rfl rfl ?_
     refine Ex.done (hK _ _ ?_)
     refine At.then_n ?_
     refine W.seq ?_
     refine W.seq ?_
     refine W.sub [(9, _), (10, _), (11, _)] ⟨rfl, rfl, rfl, trivial⟩ ?_
     refine W.reg [(0, false), (1, false)] (by kernel_rfl) ?_
     intro K hK
     refine x_move rfl rfl rfl rfl ?_
     refine x_nei true rfl rfl rfl rfl rfl (by decide) ?_
     refine Ex.done (hK _ _ ?_)
     refine At.then_n ?_
     refine W.condT rfl ?_
     refine W.seq ?_
     refine W.sub [(10, _)] ⟨rfl, trivial⟩ ?_
     refine W.reg [(0, false), (1, false), (2, false), (3, false)] (by kernel_rfl) ?_
     intro K hK
     refine x_move rfl rfl rfl rfl ?_
     refine x_assign rfl rfl rfl rfl ?_
     refine x_assign rfl rfl rfl rfl ?_
     refine x_assign rfl rfl rfl rfl ?_
     refine Ex.done (hK _ _ ?_)
     refine At.then_n ?_
     refine W.ret ?_
     refine At.then_r ?_
     refine At.ret3 (.tmp 6) (.tmp 7) (.tmp 8) rfl ⟨rfl, rfl, rfl, trivial⟩ ?_
     rw [if_neg (by simp [hco4])] at hHG
     rw [hHG]; exact ⟨⟨_, _, rfl, fun h => by cases h⟩, M.frm⟩
    ·try simp only [sA, sB, sC, sD, sE, sF, ne_eq, Bool.not_eq_eq_eq_not, Bool.not_true, Bool.not_false, sK, sL, Bool.not_not, gt_iff_lt, ge_iff_le] at hco4
     refine W.skip ?_
     refine At.then_n ?_
     refine W.seq ?_
     refine W.seq ?_
     refine W.sub [(9, _), (10, _), (11, _)] ⟨rfl, rfl, rfl, trivial⟩ ?_
     refine W.reg [(0, false), (1, false)] (by kernel_rfl) ?_
     intro K hK
     refine x_move rfl rfl rfl rfl ?_
     refine x_nei false rfl rfl rfl rfl rfl (by rw [hsp1]; rfl) ?_
     refine Ex.done (hK _ _ ?_)
     refine At.then_n ?_
     refine W.condF rfl ?_
     refine W.skip ?_
     refine At.then_n ?_
     refine W.seq ?_
     refine W.sub [(9, _), (11, _)] ⟨rfl, rfl, trivial⟩ ?_
     refine W.regD (by kernel_rfl) #[0, 0, 0, 4, 12, 30, 62, 1, 255, 511] [(0, false), (1, false), (2, false), (3, false), (4, false), (5, false), (6, false), (7, false), (8, false), (9, false)] (by kernel_rfl) ?_
     intro K wD1 hK hwD1
     have M := M.drew hwD1
     refine x_move rfl rfl rfl rfl ?_
     refine x_move rfl rfl rfl rfl ?_
     refine x_move rfl rfl rfl rfl ?_
     refine x_len rfl rfl rfl rfl Tryz.underlying47 rfl ?_
     refine x_sub _ rfl rfl rfl rfl rfl (wsub (by omega) (by omega)) ?_
     refine x_ia q.length rfl rfl rfl Tryz.underlying47 sz9 rfl rfl (by omega) (by omega) ?_
     refine x_ld rfl rfl rfl Tryz.underlying9 rfl rfl (StrsAt.cell (strsO_at hs2 M (fun _ h => h)) (x := n) (by rw [hqn]; simp)) ?_
     refine x_assign rfl rfl rfl rfl ?_
     refine x_assign rfl rfl rfl rfl ?_
     refine x_assign rfl rfl rfl rfl ?_
     refine Ex.done (hK _ _ ?_)
     refine At.then_n ?_
     refine W.ret ?_
     refine At.ret3 (.tmp 6) (.tmp 7) (.tmp 8) rfl ⟨rfl, rfl, rfl, trivial⟩ ?_
     rw [if_pos (by simpa using hco4)] at hHG
     rw [hHG]; exact ⟨⟨_, _, by rw [hsp1]; rfl, fun h => ⟨hco2, q, n, d, hqn, hd, by simpa using hco4, rfl, rfl⟩⟩, M.frm⟩
   ·
    try simp only [sA, sB, sC, sD, sE, sF, ne_eq, Bool.not_eq_eq_eq_not, Bool.not_true, Bool.not_false, sK, sL, Bool.not_not, gt_iff_lt, ge_iff_le] at hsp1
    have hHG : homeG (absE E) p root = comeG (absE E) [] q := by unfold homeG; rw [if_pos hco2, if_neg hnil, hq, if_neg hsp1]
    refine Ex.skip_ rfl rfl rfl ?_
    refine Ex.skip_ rfl rfl rfl ?_
    refine Ex.skip_ rfl rfl rfl ?_
    refine Ex.skip_ rfl rfl rfl ?_
    refine Ex.skip_ rfl rfl rfl ?_
    refine x_pickF rfl rfl rfl rfl rfl ?_
    refine Ex.done (hK _ _ ?_)
    refine At.then_n ?_
    refine W.condF rfl ?_
    refine W.skip ?_
    refine At.then_n ?_
    refine W.seq ?_
    refine W.seq ?_
    refine W.sub [(9, _), (10, _), (11, _)] ⟨rfl, rfl, rfl, trivial⟩ ?_
    refine W.reg [(0, false), (1, false)] (by kernel_rfl) ?_
    intro K hK
    refine x_move rfl rfl rfl rfl ?_
    refine x_nei true rfl rfl rfl rfl rfl (by simp [hsp1]) ?_
    refine Ex.done (hK _ _ ?_)
    refine At.then_n ?_
    refine W.condT rfl ?_
    refine W.seq ?_
    refine W.sub [(10, _)] ⟨rfl, trivial⟩ ?_
    refine W.reg [(0, false), (1, false), (2, false), (3, false)] (by kernel_rfl) ?_
    intro K hK
    refine x_move rfl rfl rfl rfl ?_
    refine x_assign rfl rfl rfl rfl ?_
    refine x_assign rfl rfl rfl rfl ?_
    refine x_assign rfl rfl rfl rfl ?_
    refine Ex.done (hK _ _ ?_)
    refine At.then_n ?_
    refine W.ret ?_
    refine At.then_r ?_
    refine At.ret3 (.tmp 6) (.tmp 7) (.tmp 8) rfl ⟨rfl, rfl, rfl, trivial⟩ ?_
    rw [hHG]; exact ⟨⟨_, _, rfl, fun h => absurd h hsp1⟩, M.frm⟩
end Go.Proofs.YtigfbpbnohkokaaGreat

namespace Go.Proofs.YtigfbpbnohkokaaGreat
open Go Go.Fw Go.RowKit Go.Proofs
set_option linter.unusedVariables false
set_option linter.unusedSimpArgs false

set_option maxRecDepth 100000 in
theorem file_c {w0 : World} {E : List Ent} {e : Ent} {p : List UInt8} (hE : EAt w0 E) (hT : TI E) (he : e ∈ E) : Ret Tryz.prog 81 #[strV p, ptr e.b] w0 fun r w' => ∃ v Lr, r = .agg #[strV p, .bool e.dir, v] ∧ Sep w0 Lr w' ∧ BytesO Lr v e.data := by
 have M : Sep w0 [] w0 := St.nil w0
 have hb := hE.bytes hT he
 have hdl := (hT.dat e he).2
 refine Ret.of_W Tryz.func81 rfl Tryz.ntmps81 rfl ?_
 refine W.seq ?_
 refine W.sub [(0, _), (1, _)] ⟨rfl, rfl, trivial⟩ ?_
 refine W.reg [(0, true)] (by kernel_rfl) ?_
 intro K hK
 refine x_alloc [_, _, _] rfl rfl rfl ze29 rfl ?_
 intro bal1 wal1 hbal1 hwal1
 have M := M.acons hbal1 hwal1
 refine ⟨trivial, ?_⟩
 refine Ex.done (hK _ _ ?_)
 refine At.then_n ?_
 refine W.seq ?_
 refine W.sub [(0, _), (1, _), (4, _)] ⟨rfl, rfl, rfl, trivial⟩ ?_
 refine W.regD (by kernel_rfl) #[0, 0, 2, 6, 14, 0, 32, 96, 224, 480, 1023, 2047] [(0, false), (1, false), (2, false), (3, false), (4, false), (5, false), (6, false), (7, false), (8, false), (9, true), (10, false), (11, true)] (by kernel_rfl) ?_
 intro K wD1 hK hwD1
 have M := M.drew hwD1
 refine x_move rfl rfl rfl rfl ?_
 refine x_move rfl rfl rfl rfl ?_
 refine x_nil rfl rfl rfl rfl rfl ?_
 refine x_fa rfl rfl rfl fo169_0 rfl ?_
 refine x_ld rfl rfl rfl Tryz.underlying4 rfl rfl ((hE.new M.frm).dir he) ?_
 refine x_move rfl rfl rfl rfl ?_
 refine x_nil rfl rfl rfl rfl rfl ?_
 refine x_fa rfl rfl rfl fo169_2 rfl ?_
 refine x_ld rfl rfl rfl Tryz.underlying27 rfl rfl ((hE.new M.frm).data he) ?_
 refine x_call rfl rfl rfl rfl rfl en82 (clone_c (hb.new M.frm) (by omega)) ?_
 rintro v w1 ⟨L1, M1, hb1⟩
 have M := M.grow M1
 obtain ⟨pv, cv, rfl⟩ := hb1.shape
 refine ⟨⟨.inl (by kernel_rfl), .inr ((hE.new M.frm).dir he), trivial⟩, ?_⟩
 refine x_build [_, _, _] rfl rfl rfl pl29 ze29 rfl rfl rfl ?_
 refine x_st [_, _, _] _ rfl rfl rfl sz29 rfl rfl rfl rfl (by first | exact M.at_ 0 rfl | exact M.at_ 1 rfl | exact M.at_ 2 rfl | exact M.at_ 3 rfl | exact M.at_ 4 rfl | exact M.at_ 5 rfl | exact M.at_ 6 rfl | exact M.at_ 7 rfl) rfl rfl rfl ?_
 intro wst1 hwst1
 have M := by first | exact M.put 0 rfl hwst1 | exact M.put 1 rfl hwst1 | exact M.put 2 rfl hwst1 | exact M.put 3 rfl hwst1 | exact M.put 4 rfl hwst1 | exact M.put 5 rfl hwst1 | exact M.put 6 rfl hwst1 | exact M.put 7 rfl hwst1
 refine ⟨⟨.inl (by kernel_rfl), .inl (by kernel_rfl), trivial⟩, ?_⟩
 refine Ex.done (hK _ _ ?_)
 refine At.then_n ?_
 refine W.ret ?_
 refine At.ret1 (.cell 4 29) rfl ⟨⟨_, rfl, run_loadVarA (l := [_, _, _]) Tryz.underlying29 rfl sz29 ⟨_, _, _, (by first | exact M.at_ 0 rfl | exact M.at_ 1 rfl | exact M.at_ 2 rfl | exact M.at_ 3 rfl | exact M.at_ 4 rfl | exact M.at_ 5 rfl | exact M.at_ 6 rfl | exact M.at_ 7 rfl), rfl⟩ (Nat.zero_lt_succ _)⟩, trivial⟩ ?_
 exact ⟨_, _, rfl, (M.sub (List.sublist_cons_self _ _)), hb1⟩
end Go.Proofs.YtigfbpbnohkokaaGreat

namespace Go.Proofs.YtigfbpbnohkokaaGreat
open Go Go.Fw Go.RowKit
set_option linter.unusedVariables false
set_option linter.unusedSimpArgs false

def setO (E : List Ent) (q : NP) (o' : Obj) : List Ent := E.map fun e => if e.p = q then { e with o := o' } else e
def rm (E : List Ent) (s : NP) : List Ent := E.filter fun e => !decide (e.p = s)
/-- Another one, or none, stands at a name of a directory. -/
def upd (E : List Ent) (q : NP) (o' : Obj) (n : List UInt8) (x : Option Ent) : List Ent := setO (rm E (q ++ [n])) q o' ++ x.toList

section
variable {E : List Ent} {q s r : NP} {o' : Obj} {n : List UInt8} {d e : Ent} {x : Option Ent}
theorem setO_p (E : List Ent) (q : NP) (o' : Obj) : (setO E q o').map (·.p) = E.map (·.p) := by
 unfold setO; rw [List.map_map]
 exact List.map_congr_left fun e _ => by simp only [Function.comp_apply]; split <;> rfl
theorem ent_setO : ent (setO E q o') r = (ent E r).map fun e => if e.p = q then { e with o := o' } else e := by
 unfold setO ent
 rw [List.find?_map]
 have : ((fun e : Ent => decide (e.p = r)) ∘ fun e => if e.p = q then { e with o := o' } else e) = fun e => decide (e.p = r) := by
  funext e; simp only [Function.comp_apply]; split <;> rfl
 rw [this]
theorem ent_rm : ent (rm E s) r = if r = s then none else ent E r := by
 unfold rm ent
 rw [List.find?_filter]
 by_cases h : r = s
 ·rw [if_pos h, List.find?_eq_none]
  intro e _
  simp only [Bool.and_eq_true, Bool.not_eq_true', decide_eq_false_iff_not, decide_eq_true_eq, not_and]
  exact fun h1 h2 => h1 (h2.trans h)
 ·rw [if_neg h]
  congr 1
  funext e
  by_cases h2 : e.p = r
  ·have : e.p ≠ s := fun h3 => h (h2.symm.trans h3)
   simp [h2, h]
  ·simp [h2]
theorem ent_app {A B : List Ent} : ent (A ++ B) r = (ent A r).or (ent B r) := List.find?_append
theorem ent_opt : ent x.toList r = x.filter fun e => decide (e.p = r) := by
 cases x with
 | none => rfl
 | some e => unfold ent; by_cases h : e.p = r <;> simp [Option.filter, h]
theorem ent_upd (hx : ∀ e, x = some e → e.p = q ++ [n]) : ent (upd E q o' n x) r = if r = q ++ [n] then x else (ent E r).map fun e => if e.p = q then { e with o := o' } else e := by
 unfold upd
 rw [ent_app, ent_setO, ent_rm, ent_opt]
 by_cases h : r = q ++ [n]
 ·rw [if_pos h, if_pos h]
  cases x with
  | none => rfl
  | some e => simp [Option.filter, hx e rfl, h]
 ·rw [if_neg h, if_neg h]
  have : x.filter (fun e => decide (e.p = r)) = none := by
   cases x with
   | none => rfl
   | some e => have : e.p ≠ r := fun h2 => h (h2.symm.trans (hx e rfl)); simp [Option.filter, this]
  rw [this, Option.or_none]
theorem snoc_inj {a b : NP} {m k : List UInt8} (h : a ++ [m] = b ++ [k]) : a = b ∧ m = k := by
 have := List.append_inj' h rfl
 exact ⟨this.1, by simpa using this.2⟩
theorem snoc_ne (a : NP) (m : List UInt8) : a ≠ a ++ [m] := fun h => by have := congrArg List.length h; simp at this

/-- What may stand at a name. -/
structure NewOK (q : NP) (n : List UInt8) (e : Ent) : Prop where
 p : e.p = q ++ [n]
 ok : POK e.p
 map : e.dir = true → MapF strV e.o (fun _ => none)
 dat : BytesO e.D e.v e.data ∧ e.data.length ≤ 65536
 dd : e.dir = true → e.data = []
theorem TI.upd (h : TI E) (hd : ent E q = some d) (hdd : d.dir = true) (hleaf : ∀ k, ent E ((q ++ [n]) ++ [k]) = none) (hx : ∀ e, x = some e → NewOK q n e)
  (hm : MapF strV o' (setF (kids E q) n (x.map fun e => ptr e.b))) : TI (upd E q o' n x) := by
 have hxp : ∀ e, x = some e → e.p = q ++ [n] := fun e he => (hx e he).p
 have E1 : ∀ r, ent (Go.Proofs.YtigfbpbnohkokaaGreat.upd E q o' n x) r = if r = q ++ [n] then x else (ent E r).map fun e => if e.p = q then { e with o := o' } else e := fun r => ent_upd hxp
 have hnd : ((Go.Proofs.YtigfbpbnohkokaaGreat.upd E q o' n x).map (·.p)).Nodup := by
  unfold Go.Proofs.YtigfbpbnohkokaaGreat.upd
  rw [List.map_append, setO_p, List.nodup_append]
  refine ⟨((List.filter_sublist (l := E)).map _).nodup h.nd, by cases x <;> simp, ?_⟩
  intro a ha b hb e
  obtain ⟨y, hy, rfl⟩ := List.mem_map.1 ha
  obtain ⟨z, hz, rfl⟩ := List.mem_map.1 hb
  have := hxp z (by cases x <;> simp_all)
  have hy2 := (List.mem_filter.1 hy).2
  simp only [Bool.not_eq_true', decide_eq_false_iff_not] at hy2
  exact hy2 (e.trans this)
 have key : ∀ e ∈ Go.Proofs.YtigfbpbnohkokaaGreat.upd E q o' n x, (x = some e) ∨ ∃ e0 ∈ E, e0.p ≠ q ++ [n] ∧ e = if e0.p = q then { e0 with o := o' } else e0 := fun e he => by
  have h1 := E1 e.p
  rw [ent_of hnd he] at h1
  split at h1
  ·exact .inl h1.symm
  ·rename_i h2
   cases h3 : ent E e.p with
   | none => rw [h3] at h1; cases h1
   | some e0 =>
    rw [h3] at h1
    obtain ⟨h4, h5⟩ := ent_mem h3
    exact .inr ⟨e0, h4, by rw [h5]; exact h2, Option.some.inj h1⟩
 have kk : ∀ s, kids (Go.Proofs.YtigfbpbnohkokaaGreat.upd E q o' n x) s = if s = q then setF (kids E q) n (x.map fun e => ptr e.b) else if s = q ++ [n] then fun _ => none else kids E s := fun s => by
  funext k
  unfold kids
  rw [E1]
  by_cases h1 : s = q
  ·rw [if_pos h1, h1]
   unfold setF
   by_cases h2 : k = n
   ·rw [if_pos (by rw [h2]), if_pos h2]
   ·rw [if_neg (fun h3 => h2 (snoc_inj h3).2), if_neg h2]
    show _ = Option.map (fun e => ptr e.b) (ent E (q ++ [k]))
    cases ent E (q ++ [k]) with
    | none => rfl
    | some e => simp only [Option.map_some]; split <;> rfl
  ·rw [if_neg h1, if_neg (fun h3 => h1 (snoc_inj h3).1)]
   by_cases h2 : s = q ++ [n]
   ·rw [if_pos h2, h2, hleaf k]; rfl
   ·rw [if_neg h2]
    cases ent E (s ++ [k]) with
    | none => rfl
    | some e => simp only [Option.map_some]; split <;> rfl
 refine ⟨hnd, ?_, ?_, ?_, ?_, ?_, ?_⟩
 ·obtain ⟨rt, h1, h2⟩ := h.root
  rw [E1, if_neg (fun h => by simp at h), h1]
  refine ⟨_, rfl, ?_⟩
  dsimp only
  split <;> exact h2
 ·intro s k e he
  rw [E1] at he
  split at he
  ·rename_i h1
   obtain ⟨rfl, rfl⟩ := snoc_inj h1
   rw [E1, if_neg (snoc_ne _ _), hd]
   refine ⟨_, rfl, ?_⟩
   dsimp only
   split <;> exact hdd
  ·cases h3 : ent E (s ++ [k]) with
   | none => rw [h3] at he; cases he
   | some e0 =>
    obtain ⟨d2, h4, h5⟩ := h.par s k e0 h3
    rw [E1, if_neg, h4]
    ·refine ⟨_, rfl, ?_⟩
     dsimp only
     split <;> exact h5
    ·rintro rfl; rw [hleaf k] at h3; cases h3
 ·intro e he
  rcases key e he with h1 | ⟨e0, h1, _, rfl⟩
  ·exact (hx e h1).ok
  ·have := h.ok e0 h1; split <;> exact this
 ·intro e he hed
  rw [kk]
  rcases key e he with h1 | ⟨e0, h1, h2, rfl⟩
  ·have h3 := hx e h1
   rw [h3.p, if_neg (fun h => snoc_ne q n h.symm), if_pos rfl]
   exact h3.map hed
  ·by_cases h3 : e0.p = q
   ·rw [if_pos h3] at hed ⊢
    rw [if_pos h3]; exact hm
   ·rw [if_neg h3] at hed ⊢
    rw [if_neg h3, if_neg h2]; exact h.map e0 h1 hed
 ·intro e he
  rcases key e he with h1 | ⟨e0, h1, _, rfl⟩
  ·exact (hx e h1).dat
  ·have := h.dat e0 h1; split <;> exact this
 ·intro e he hed
  rcases key e he with h1 | ⟨e0, h1, _, rfl⟩
  ·exact (hx e h1).dd hed
  ·have := h.dd e0 h1; split at hed <;> (split <;> first | exact this hed | (rename_i a b; exact absurd ‹_› ‹_›))

theorem blks_sub {E' : List Ent} (h : E'.Sublist E) : (blks E').Sublist (blks E) := by
 induction h with
 | slnil => exact List.Sublist.refl _
 | cons a _ ih => exact ih.trans (List.sublist_append_right _ _)
 | cons_cons a _ ih => exact List.Sublist.append (List.Sublist.refl _) ih
theorem setO_split {A B : List Ent} (hn : ((A ++ d :: B).map (·.p)).Nodup) : setO (A ++ d :: B) d.p o' = A ++ { d with o := o' } :: B := by
 unfold setO
 rw [List.map_append, List.map_cons, if_pos rfl]
 simp only [List.map_append, List.map_cons, List.nodup_append, List.nodup_cons] at hn
 have h1 : ∀ e ∈ A, e.p ≠ d.p := fun e he h => hn.2.2 e.p (List.mem_map.2 ⟨e, he, rfl⟩) d.p (by simp) h
 have h2 : ∀ e ∈ B, e.p ≠ d.p := fun e he h => hn.2.1.1 (List.mem_map.2 ⟨e, he, h⟩)
 have hA : A.map (fun e => if e.p = d.p then { e with o := o' } else e) = A := by
  conv => rhs; rw [← List.map_id A]
  exact List.map_congr_left fun e he => by rw [if_neg (h1 e he)]; rfl
 have hB : B.map (fun e => if e.p = d.p then { e with o := o' } else e) = B := by
  conv => rhs; rw [← List.map_id B]
  exact List.map_congr_left fun e he => by rw [if_neg (h2 e he)]; rfl
 rw [hA, hB]
/-- A directory's map was written. -/
theorem mapput {S : Nat → Prop} {w0 w w1 : World} {P Q : List (Nat × Obj)} (M : St S w0 (P ++ (blks E ++ Q)) w) (hn : (E.map (·.p)).Nodup) (hd : ent E q = some d) (hdd : d.dir = true) (hw : w1 = w.putObj d.m o') : St S w0 (P ++ (blks (setO E q o') ++ Q)) w1 := by
 obtain ⟨h1, rfl⟩ := ent_mem hd
 obtain ⟨A, B, rfl⟩ := List.append_of_mem h1
 rw [setO_split hn]
 have e1 : ∀ o, blks (A ++ { d with o := o } :: B) = (blks A ++ [d.hd]) ++ (d.m, o) :: (d.D ++ blks B) := fun o => by
  simp [blks, Ent.blks, Ent.mp, hdd, Ent.hd, Ent.kv]
 have e2 := e1 d.o
 have e3 : A ++ { d with o := d.o } :: B = A ++ d :: B := rfl
 rw [e3] at e2
 rw [e2] at M
 rw [e1 o']
 have M2 : St S w0 ((P ++ (blks A ++ [d.hd])) ++ (d.m, d.o) :: (d.D ++ blks B ++ Q)) w := by simpa using M
 simpa using M2.put2 hw
theorem absE_upd (hx : ∀ e, x = some e → e.p = q ++ [n]) : absE (upd E q o' n x) r = if r = q ++ [n] then x.map (fun e => (e.dir, e.data)) else absE E r := by
 unfold absE
 rw [ent_upd hx]
 split
 ·rfl
 ·cases ent E r with
  | none => rfl
  | some e => simp only [Option.map_some]; split <;> rfl
theorem rm_none (h : ent E s = none) : rm E s = E := List.filter_eq_self.2 fun e he => by simpa using ent_none h e he
theorem setO_rm : setO (rm E s) q o' = rm (setO E q o') s := by
 unfold setO rm
 rw [List.filter_map]
 congr 1
 congr 1
 funext e
 simp only [Function.comp_apply]; split <;> rfl
theorem rm_len : ∀ {E : List Ent} {e : Ent}, (E.map (·.p)).Nodup → ent E s = some e → (rm E s).length + 1 = E.length
 | x :: E, e, hn, he => by
  simp only [List.map_cons, List.nodup_cons] at hn
  unfold ent at he
  rw [List.find?_cons] at he
  by_cases h : x.p = s
  ·have h2 : ent E s = none := List.find?_eq_none.2 fun y hy => by
    simp only [decide_eq_true_eq]; intro h3; exact hn.1 (List.mem_map.2 ⟨y, hy, h3.trans h.symm⟩)
   have : rm (x :: E) s = E := by
    show List.filter _ (x :: E) = E
    rw [List.filter_cons_of_neg (by simp [h])]
    exact rm_none h2
   rw [this]; rfl
  ·simp only [h, decide_false] at he
   have := rm_len hn.2 he
   have h2 : rm (x :: E) s = x :: rm E s := List.filter_cons_of_pos (by simp [h])
   rw [h2]; simp; omega
theorem upd_len_new (h : ent E (q ++ [n]) = none) : (upd E q o' n (some e)).length = E.length + 1 := by
 unfold upd; rw [rm_none h]; simp [setO]
theorem upd_len_same (hn : (E.map (·.p)).Nodup) (h : ent E (q ++ [n]) = some d) : (upd E q o' n (some e)).length = E.length := by
 have := rm_len hn h
 unfold upd; simp [setO]; omega
theorem upd_len_rm (hn : (E.map (·.p)).Nodup) (h : ent E (q ++ [n]) = some d) : (upd E q o' n none).length + 1 = E.length := by
 have := rm_len hn h
 unfold upd; simp [setO]; omega
theorem blks_app (A B : List Ent) : blks (A ++ B) = blks A ++ blks B := List.flatMap_append
theorem upd_ndP (hx : ∀ e, x = some e → e.p = q ++ [n]) : ndP (upd E q o' n x) [] = ndP E [] := by
 unfold ndP
 rw [ent_upd hx, if_neg (fun h => by simp at h)]
 cases ent E [] with
 | none => rfl
 | some e => simp only [Option.map_some]; split <;> rfl
end
end Go.Proofs.YtigfbpbnohkokaaGreat

namespace Go.Proofs.YtigfbpbnohkokaaGreat
open Go Go.Fw Go.RowKit
set_option linter.unusedVariables false
set_option linter.unusedSimpArgs false

def setG (g : Gf) (s : NP) (v : Option (Bool × List UInt8)) : Gf := fun r => if r = s then v else g r
def mkdirG (g : Gf) (full : Bool) (p : List UInt8) : Int × Gf :=
 if homeG g p 10 = 0 then (if (g (splitN p)).isSome = true then (10, g) else if full = true then (7, g) else (0, setG g (splitN p) (some (true, [])))) else (homeG g p 10, g)
def putG (g : Gf) (full : Bool) (p b : List UInt8) : Int × Gf :=
 if homeG g p 16 = 0 then (if ((g (splitN p)).getD (false, [])).1 = true then (16, g) else if 65536 < b.length then (3, g) else if (g (splitN p)).isNone = true ∧ full = true then (7, g) else (0, setG g (splitN p) (some (false, b)))) else (homeG g p 16, g)
/-- Does anything stand in it? -/
def emptyG (g : Gf) (q : NP) : Prop := ∀ n, g (q ++ [n]) = none
open Classical in
noncomputable def removeG (g : Gf) (p : List UInt8) : Int × Gf :=
 if findG g p = 0 then (if p = [] ∨ ¬ emptyG g (splitN p) then (18, g) else (0, setG g (splitN p) none)) else (findG g p, g)

section
variable {S : Nat → Prop} {w0 w w1 : World} {E : List Ent} {L N : List (Nat × Obj)} {q : NP} {o' : Obj} {n p : List UInt8} {x : Ent} {bt : Nat} {z : Int}
theorem EAt.tb (M : St S w0 (tb bt E ++ L) w) : EAt w E := fun x hx => M.get (List.mem_append_left _ (List.mem_cons_of_mem _ hx))
theorem POK_split (h : splitE p = 0) : POK (splitN p) := by
 rcases splitN_facts h with ⟨h1, h2⟩ | ⟨h1, h2, h3, h4⟩
 ·rw [h2]; exact ⟨by simp, by simp [allOK], by simp [joinS]⟩
 ·rw [h2]; exact ⟨h3, h4, by rw [joinS_splitS]; exact splitE_len h⟩
theorem absE_some {r : NP} : (absE E r).isSome = (ent E r).isSome := by unfold absE; cases ent E r <;> rfl
theorem absE_none {r : NP} : absE E r = none ↔ ent E r = none := by unfold absE; cases ent E r <;> simp
theorem absE_at {r : NP} {d : Ent} (h : ent E r = some d) : absE E r = some (d.dir, d.data) := by unfold absE; rw [h]; rfl
theorem TI.leaf (hT : TI E) {s : NP} (h : ∀ d, ent E s = some d → d.dir = false) : ∀ k, ent E (s ++ [k]) = none := fun k => by
 cases hk : ent E (s ++ [k]) with
 | none => rfl
 | some e =>
  obtain ⟨d, h1, h2⟩ := hT.par s k e hk
  rw [h d h1] at h2; cases h2
theorem EAt.map (h : EAt w E) {d : Ent} (hd : d ∈ E) (hdd : d.dir = true) : w.cell? ⟨d.b, 1, none⟩ = some (.map (some d.m)) := by have := h.kv hd; rwa [Ent.kvT hdd] at this
theorem kvLen {e : Ent} (hT : TI E) (he : ent E q = some e) : ∃ mb len, e.kv = .map mb ∧ (∀ {w : World}, EAt w E → LenAt w mb len) ∧ (len = 0 ↔ emptyG (absE E) q) := by
 obtain ⟨h1, rfl⟩ := ent_mem he
 cases hd : e.dir with
 | false =>
  refine ⟨none, 0, Ent.kvF hd, fun _ => .inl ⟨rfl, rfl⟩, fun _ n => absE_none.2 (hT.leaf (fun d hd2 => ?_) n), fun _ => rfl⟩
  rw [he] at hd2; cases hd2; exact hd
 | true =>
  have hm := hT.map e h1 hd
  obtain ⟨es, clock, ho, hs⟩ := run_lenMap (P := Tryz.prog) (w := (default : World).alloc e.o) (heap_alloc (default : World) e.o _ |>.trans (if_pos rfl)) hm
  refine ⟨some e.m, es.size, Ent.kvT hd, fun h => .inr ⟨e.m, es, clock, rfl, by rw [h.mp h1 hd, ho], rfl⟩, ?_⟩
  rw [hs]
  unfold emptyG
  constructor
  ·intro h n
   have := h n
   unfold kids at this
   rw [absE_none]
   cases hk : ent E (e.p ++ [n]) with
   | none => rfl
   | some d => rw [hk] at this; cases this
  ·intro h n
   unfold kids
   rw [absE_none.1 (h n)]; rfl
theorem home_found {e : Ent} {root : Int} (hT : TI E) (hE : splitE p = 0) (hn : splitN p ≠ []) (he : ent E (splitN p) = some e) : homeG (absE E) p root = 0 := by
 obtain ⟨q, n, hqn⟩ : ∃ q n, splitN p = q ++ [n] := ⟨_, _, (List.dropLast_concat_getLast hn).symm⟩
 rw [hqn] at he
 obtain ⟨d, hd, hdd⟩ := hT.par q n e he
 obtain ⟨rt, hrt, _⟩ := hT.root
 unfold homeG
 have hq : (splitN p).dropLast = q := by rw [hqn]; simp
 rw [if_pos hE, if_neg hn, hq, if_pos ((comeE_zero hT hrt).2 ⟨d, hd⟩), absE_at hd]
 simp [hdd]
theorem updFin {xo : Option Ent} (M : St S w0 ((bt, .cells [ndP E [], .int .i64 z].toArray 133 (0, 0)) :: (blks (setO E q o') ++ (L ++ N))) w) (hb : N.Perm (blks xo.toList)) (hp : ∀ e, xo = some e → e.p = q ++ [n])
  (hz : z = ((upd E q o' n xo).length : Int) - 1) : St S w0 (tb bt (upd E q o' n xo) ++ L) w := by
 have h1 : (blks (setO (rm E (q ++ [n])) q o')).Sublist (blks (setO E q o')) := by
  rw [setO_rm]; exact blks_sub (List.filter_sublist)
 have M1 := M.sub (List.Sublist.cons_cons _ (List.Sublist.append h1 (List.Sublist.refl _)))
 unfold tb
 rw [upd_ndP hp, ← hz]
 refine M1.perm ?_
 unfold upd
 rw [blks_app]
 refine List.Perm.cons _ ?_
 refine ((List.perm_append_comm.trans (List.Perm.append_right _ hb)).append_left _).trans ?_
 simp
theorem updFin2 {xo : Option Ent} {y : Nat × Obj} (M : St S w0 ([y, (bt, .cells [ndP E [], .int .i64 z].toArray 133 (0, 0))] ++ (blks (setO E q o') ++ (L ++ N))) w) (hb : (y :: N).Perm (blks xo.toList)) (hp : ∀ e, xo = some e → e.p = q ++ [n])
  (hz : z = ((upd E q o' n xo).length : Int) - 1) : St S w0 (tb bt (upd E q o' n xo) ++ L) w := by
 refine updFin (N := y :: N) (M.perm ?_) hb hp hz
 refine (List.Perm.swap _ _ _).trans (List.Perm.cons _ ?_)
 show (y :: (blks (setO E q o') ++ (L ++ N))).Perm (blks (setO E q o') ++ (L ++ y :: N))
 rw [← List.append_assoc, ← List.append_assoc]
 exact List.perm_middle.symm
end
end Go.Proofs.YtigfbpbnohkokaaGreat
