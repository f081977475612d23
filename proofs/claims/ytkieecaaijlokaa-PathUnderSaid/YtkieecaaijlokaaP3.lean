/-
  Texts joined by the library.
-/
import Derived.Test.YtkieecaaijlokaaP1
import Derived.Test.YtkieecaaijlokaaSh
namespace Go.Proofs.Ytkieecaaijlokaa
open Go Go.Fw Go.RowKit
set_option linter.unusedVariables false
set_option linter.unusedSimpArgs false

theorem libjoin : ∀ l : List (List UInt8), Lib.join l [47] = joinS l
  | [] => rfl
  | [p] => by simp [Lib.join_one, joinS]
  | p :: q :: r => by
    have h := libjoin (q :: r)
    rw [Lib.join_cons p (q :: r) [47]] 
    rw [Lib.join_cons q r [47]] at h
    simp only [joinS, Lib.joinTail, List.map_cons, List.flatten_cons] at h ⊢
    rw [← h]; simp
theorem below_new {w w' : World} (h : Below w.heap.size w w') : New w w' := ⟨h.size, fun b hb _ => h.block b hb, by simp, by simp, h.os, h.tape, h.output⟩
theorem join_c {w0 : World} {v : Value} {l : List (List UInt8)} (h : StrsAt w0 v l) (hl : l.length ≤ 1000000) (hlen : (joinS l).length ≤ 1099511627776) :
    Ret Try.prog 32 #[v, strV [47]] w0 fun r w' => r = strV (joinS l) ∧ New w0 w' := by
  rcases h with ⟨h1, _, p, cap, rfl⟩ | ⟨rfl, h1, h2⟩ | ⟨b, off, cap, all, T, fr, rfl, hcap, hb, h3, h4⟩
  · have hl0 : l = [] := List.length_eq_zero_iff.1 h1
    subst hl0
    refine Ret.of_calls ((Try.strings_Join_none p cap (strB [47]) w0).mono ?_)
    rintro e w' ⟨rfl, rfl⟩
    exact ⟨_, rfl, rfl, Frm.refl _ _⟩
  · have hl0 : l = [] := List.length_eq_zero_iff.1 h1
    subst hl0
    refine Ret.of_calls ((Try.strings_Join_none none 0 (strB [47]) w0).mono ?_)
    rintro e w' ⟨rfl, rfl⟩
    exact ⟨_, rfl, rfl, Frm.refl _ _⟩
  · have hsl : StrsAt w0 (.slice (some ⟨b, off, none⟩) l.length cap) l := .inr (.inr ⟨b, off, cap, all, T, fr, rfl, hcap, hb, h3, h4⟩)
    have hc : ∀ (j : Nat) x, (l.map strB)[j]? = some x → w0.cell? ⟨b, off + j, none⟩ = some (.string x) := by
      intro j x hx
      rw [List.getElem?_map] at hx
      cases hj : l[j]? with
      | none => rw [hj] at hx; cases hx
      | some y =>
        rw [hj] at hx; cases hx
        have := StrsAt.cell hsl hj
        simpa using this
    have e1 : (l.map strB).map (·.data.toList) = l := by
      rw [List.map_map]
      conv => rhs; rw [← List.map_id l]
      exact List.map_congr_left fun x _ => by simp [strB]
    have e2 : (strB [47]).data.toList = [47] := rfl
    have e3 : Lib.join ((l.map strB).map (·.data.toList)) (strB [47]).data.toList = joinS l := by rw [e1, e2, libjoin]
    have := Try.strings_Join b off cap (l.map strB) (strB [47]) w0 hc (Array.getElem?_eq_some_iff.1 hb).1 (by simp; omega) (by simpa using hcap) (by rw [e3]; omega)
    rw [e3, List.length_map] at this
    refine Ret.of_calls (this.mono ?_)
    rintro e w' ⟨rfl, hbl⟩
    exact ⟨_, rfl, rfl, below_new hbl⟩
theorem cmpS_c {w0 : World} {a b : List UInt8} : Ret Try.prog 37 #[strV a, strV b] w0 fun r w' => r = .int .i64 (Lib.compareBytes a b) ∧ w0 = w' := by
  refine Ret.of_calls ((Try.strings_Compare (strB a) (strB b) w0).mono ?_)
  rintro e w' ⟨rfl, rfl⟩
  exact ⟨_, rfl, by simp [strB], rfl⟩
end Go.Proofs.Ytkieecaaijlokaa
