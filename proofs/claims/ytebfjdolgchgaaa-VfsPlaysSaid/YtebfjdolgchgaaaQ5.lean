/-
  Texts that belong together, laid into one file: L3, L4, L5, L6, L7, L8, L9, L10, F4, FwX, K1, E1, E2, E3, E4, E5, K2, E6, E7, K3.
-/
import Derived.Test.YtebfjdolgchgaaaQ4
namespace Go.Proofs.Ytebfjdolgchgaaa
open Go Go.Fw Go.RowKit
set_option linter.unusedVariables false
set_option linter.unusedSimpArgs false

def chgC (c : Cl) : Bool := match c.l with | o :: _ => chgO o | [] => false
def rwC (c : Cl) : Bool := match c.l with | o :: _ => !decide (o.k = 2) | [] => false
def statC (c : Cl) (key : List UInt8) : Option (Bool × Bool) :=
 if key = [] then (if c.st = 0 then none else some (chgC c, !(decide (c.st = 1) && c.w)))
 else if 2 ≤ c.st ∧ c.key = key then some (rwC c, !(decide (c.st = 2) && c.w)) else none
def MemC (q : List Qa × List Qa) (j : Nat) (s : Option (Bool × Bool)) : Prop := ∀ wr, (((j : Int), wr) ∈ q.1 ↔ s = some (wr, true)) ∧ (((j : Int), wr) ∈ q.2 ↔ s = some (wr, false))
structure CI (c : Cl) : Prop where
 le : c.st ≤ 3
 l0 : 1 ≤ c.st → c.l ≠ []
 w1 : c.w = true → c.st = 1 ∨ (c.st = 2 ∧ c.key ≠ [])
 kl : 2 ≤ c.st → c.key ≠ [] → chgC c = false
structure SI (S : VS) : Prop where
 ci : ∀ c ∈ S.c, CI c
 me : ∀ key j c, S.c[j]? = some c → MemC (S.q key) j (statC c key)
section
variable {S : VS} {i j : Nat} {c d : Cl} {o : OpS} {key key' : List UInt8} {q : List Qa × List Qa} {who : Int} {wr : Bool} {s : Option (Bool × Bool)}
theorem MemC.no (h : MemC q j none) : hasQ q.1 j = false ∧ hasQ q.2 j = false := by
 refine ⟨hasQ_no.2 fun a ha e => ?_, hasQ_no.2 fun a ha e => ?_⟩
 ·obtain ⟨x, y⟩ := a; simp only at e; subst e; have := (h y).1.1 ha; cases this
 ·obtain ⟨x, y⟩ := a; simp only at e; subst e; have := (h y).2.1 ha; cases this
theorem MemC.ask (h : MemC q j s) (hj : j ≠ i) : MemC (askQ q (i : Int) wr).1 j s := by
 have hne : ∀ wr', (((j : Int), wr') : Qa) ≠ ((i : Int), wr) := fun wr' e => hj (by have := congrArg Prod.fst e; simp only at this; omega)
 unfold askQ
 split
 ·exact h
 ·split
  ·intro wr'; simp only [List.mem_append, List.mem_singleton, hne wr', or_false]; exact h wr'
  ·intro wr'; simp only [List.mem_append, List.mem_singleton, hne wr', or_false]; exact h wr'
theorem MemC.asked (h : MemC q i none) : MemC (askQ q (i : Int) wr).1 i (some (wr, (askQ q (i : Int) wr).2.1)) := by
 obtain ⟨h1, h2⟩ := h.no
 have hn := hasQ_no.1 h1
 have hn2 := hasQ_no.1 h2
 unfold askQ
 rw [if_neg (by rw [h1, h2]; decide)]
 split
 ·intro wr'
  refine ⟨?_, ?_⟩
  ·simp only [List.mem_append, List.mem_singleton, Prod.mk.injEq, true_and, Option.some.injEq]
   refine ⟨fun h => ?_, fun h => .inr (by rw [h.1])⟩
   rcases h with h | h
   ·exact absurd rfl (hn _ h)
   ·exact ⟨h.symm, trivial⟩
  ·simp only [Option.some.injEq, Prod.mk.injEq]
   exact ⟨fun h => absurd rfl (hn2 _ h), fun h => by cases h.2⟩
 ·intro wr'
  refine ⟨?_, ?_⟩
  ·simp only [Option.some.injEq, Prod.mk.injEq]
   exact ⟨fun h => absurd rfl (hn _ h), fun h => by cases h.2⟩
  ·simp only [List.mem_append, List.mem_singleton, Prod.mk.injEq, true_and, Option.some.injEq]
   refine ⟨fun h => ?_, fun h => .inr (by rw [h.1])⟩
   rcases h with h | h
   ·exact absurd rfl (hn2 _ h)
   ·exact ⟨h.symm, trivial⟩
theorem free_me (hq : QI q) (h : MemC q j s) (hj : j ≠ i) : ((j : Int) ∈ (freeQ q (i : Int)).2.1 ∧ ∃ wr, s = some (wr, false) ∧ MemC (freeQ q (i : Int)).1 j (some (wr, true))) ∨ ((j : Int) ∉ (freeQ q (i : Int)).2.1 ∧ MemC (freeQ q (i : Int)).1 j s) := by
 unfold freeQ
 split
 ·obtain ⟨m, h1, h2, h3⟩ := grant_all (w := q.2) (h := dropQ q.1 i) (now := [])
  simp only [h1, h2, h3, List.nil_append]
  have hd : ∀ wr', (((j : Int), wr') ∈ dropQ q.1 (i : Int) ↔ ((j : Int), wr') ∈ q.1) := fun wr' => by
   unfold dropQ; rw [List.mem_filter]
   refine ⟨fun h => h.1, fun h => ⟨h, ?_⟩⟩
   have : ¬ (j : Int) = i := fun e => hj (by omega)
   simp [this]
  have hnd := hq.one
  rw [List.map_append, List.nodup_append] at hnd
  obtain ⟨n1, n2, n3⟩ := hnd
  by_cases hin : (j : Int) ∈ (q.2.take m).map (·.1)
  ·refine .inl ⟨hin, ?_⟩
   obtain ⟨a, ha, e⟩ := List.mem_map.1 hin
   obtain ⟨x, y⟩ := a
   simp only at e
   subst e
   have hin2 := List.mem_of_mem_take ha
   refine ⟨y, (h y).2.1 hin2, fun wr' => ⟨?_, ?_⟩⟩
   ·simp only [List.mem_append, hd, Option.some.injEq, Prod.mk.injEq, and_true]
    refine ⟨fun h' => ?_, fun h' => by subst h'; exact .inr ha⟩
    rcases h' with h' | h'
    ·exact absurd rfl (n3 _ (List.mem_map.2 ⟨_, h', rfl⟩) _ (List.mem_map.2 ⟨_, hin2, rfl⟩))
    ·have e1 := (h wr').2.1 (List.mem_of_mem_take h')
     rw [(h y).2.1 hin2] at e1
     cases e1; rfl
   ·simp only [Option.some.injEq, Prod.mk.injEq, Bool.true_eq_false, and_false, iff_false]
    intro h'
    have hs := List.take_append_drop m q.2
    rw [← hs, List.map_append, List.nodup_append] at n2
    exact absurd rfl (n2.2.2 _ hin _ (List.mem_map.2 ⟨_, h', rfl⟩))
  ·refine .inr ⟨hin, fun wr' => ⟨?_, ?_⟩⟩
   ·simp only [List.mem_append, hd]
    refine ⟨fun h' => ?_, fun h' => .inl ((h wr').1.2 h')⟩
    rcases h' with h' | h'
    ·exact (h wr').1.1 h'
    ·exact absurd (List.mem_map.2 ⟨_, h', rfl⟩) hin
   ·refine ⟨fun h' => (h wr').2.1 (List.mem_of_mem_drop h'), fun h' => ?_⟩
    have := (h wr').2.2 h'
    rw [← List.take_append_drop m q.2] at this
    rcases List.mem_append.1 this with h' | h'
    ·exact absurd (List.mem_map.2 ⟨_, h', rfl⟩) hin
    ·exact h'
 ·exact .inr ⟨by simp, h⟩
theorem free_i (hq : QI q) (h : ∃ wr, ((i : Int), wr) ∈ q.1) : MemC (freeQ q (i : Int)).1 i none := by
 obtain ⟨wr, h⟩ := h
 have hh : hasQ q.1 i = true := hasQ_iff.2 ⟨_, h, rfl⟩
 unfold freeQ
 rw [if_pos hh]
 obtain ⟨m, h1, h2, h3⟩ := grant_all (w := q.2) (h := dropQ q.1 i) (now := [])
 simp only [h1, h2]
 have hnd := hq.one
 rw [List.map_append, List.nodup_append] at hnd
 obtain ⟨n1, n2, n3⟩ := hnd
 have hno : ∀ wr', ((i : Int), wr') ∉ q.2 := fun wr' h' => absurd rfl (n3 _ (List.mem_map.2 ⟨_, h, rfl⟩) _ (List.mem_map.2 ⟨_, h', rfl⟩))
 intro wr'
 refine ⟨⟨fun h' => ?_, fun h' => by cases h'⟩, ⟨fun h' => ?_, fun h' => by cases h'⟩⟩
 ·rcases List.mem_append.1 h' with h' | h'
  ·unfold dropQ at h'; have := (List.mem_filter.1 h').2; simp at this
  ·exact absurd (List.mem_of_mem_take h') (hno wr')
 ·exact absurd (List.mem_of_mem_drop h') (hno wr')
theorem wakeC_get {now : List Int} (hn : ∀ w ∈ now, 0 ≤ w) : ∀ {cs : List Cl}, (wakeC cs now)[j]? = (cs[j]?).map fun c => if (j : Int) ∈ now then { c with w := false } else c := by
 induction now with
 | nil => intro cs; show cs[j]? = _; cases cs[j]? <;> rfl
 | cons w now ih =>
  intro cs
  show (wakeC (cs.modify w.toNat fun c => { c with w := false }) now)[j]? = _
  rw [ih (fun w h => hn w (by simp [h])), List.getElem?_modify]
  have h0 := hn w (by simp)
  cases cs[j]? with
  | none => rfl
  | some c =>
   simp only [Option.map_eq_map, Option.map_some, Option.some.injEq, List.mem_cons]
   by_cases e : w.toNat = j
   ·have e2 : (j : Int) = w := by omega
    simp only [e, e2, if_true, true_or]
    split <;> rfl
   ·have e2 : ¬ (j : Int) = w := by omega
    simp only [e, e2, if_false, false_or]
theorem stat_wake (hc : CI c) (hs : statC c key = some (wr, false)) : CI { c with w := false } ∧ statC { c with w := false } key = some (wr, true) ∧ ∀ k, k ≠ key → statC { c with w := false } k = statC c k := by
 refine ⟨⟨hc.le, hc.l0, fun h => (by cases h), hc.kl⟩, ?_, fun k hk => ?_⟩
 ·unfold statC at hs ⊢
  split at hs
  ·rename_i e
   rw [if_pos e]
   split at hs
   ·cases hs
   ·rename_i e2
    rw [if_neg e2]
    simp only [Option.some.injEq, Prod.mk.injEq] at hs
    simp only [Bool.and_false, Bool.not_false, Option.some.injEq, Prod.mk.injEq, and_true]
    exact hs.1
  ·rename_i e
   rw [if_neg e]
   split at hs
   ·rename_i e2
    rw [if_pos e2]
    simp only [Option.some.injEq, Prod.mk.injEq] at hs
    simp only [Bool.and_false, Bool.not_false, Option.some.injEq, Prod.mk.injEq, and_true]
    exact hs.1
   ·cases hs
 ·unfold statC at hs ⊢
  split at hs
  ·rename_i e
   subst e
   rw [if_neg hk, if_neg hk]
   split at hs
   ·cases hs
   ·simp only [Option.some.injEq, Prod.mk.injEq, Bool.not_eq_false', Bool.and_eq_true, decide_eq_true_eq] at hs
    rw [if_neg (by simp only [hs.2.1]; omega), if_neg (by simp only [hs.2.1]; omega)]
  ·rename_i e
   split at hs
   ·rename_i e2
    simp only [Option.some.injEq, Prod.mk.injEq, Bool.not_eq_false', Bool.and_eq_true, decide_eq_true_eq] at hs
    by_cases h0 : k = []
    ·subst h0
     simp only [if_true, hs.2.1, hs.2.2]
     simp [chgC]
    ·rw [if_neg h0, if_neg h0, if_neg (fun h => hk (h.2.symm.trans e2.2)), if_neg (fun h => hk (h.2.symm.trans e2.2))]
   ·cases hs
theorem SI.freed (hV : VI S) (hci : ∀ c ∈ S.c, CI c) (hme : ∀ k j c, j ≠ i → S.c[j]? = some c → MemC (S.q k) j (statC c k)) :
  (∀ c ∈ (freeV S i key).c, CI c) ∧ (∀ k j c, j ≠ i → (freeV S i key).c[j]? = some c → MemC ((freeV S i key).q k) j (statC c k)) ∧ (∀ k, k ≠ key → (freeV S i key).q k = S.q k) := by
 have hnow : ∀ w ∈ (freeQ (S.q key) (i : Int)).2.1, 0 ≤ w := fun w hw => by
  obtain ⟨a, ha, rfl⟩ := free_now hw
  exact (hV.wh key a (List.mem_append_right _ ha)).1
 have hk : ∀ k, k ≠ key → (freeV S i key).q k = S.q k := fun k hk => setQ_other hk
 refine ⟨fun d hd => ?_, fun k j d hj hd => ?_, hk⟩
 ·obtain ⟨x, hx, h | h⟩ := wakeC_mem hd
  ·subst h; exact hci d hx
  ·subst h; have := hci x hx; exact ⟨this.le, this.l0, fun h => (by cases h), this.kl⟩
 ·simp only [freeV] at hd
  rw [wakeC_get hnow] at hd
  cases e : S.c[j]? with
  | none => rw [e] at hd; cases hd
  | some x =>
   rw [e] at hd
   simp only [Option.map_some, Option.some.injEq] at hd
   have hx := hme key j x hj e
   rcases free_me (hV.qi key) hx hj with ⟨h1, wr, h2, h3⟩ | ⟨h1, h2⟩
   ·rw [if_pos h1] at hd
    obtain ⟨_, g2, g3⟩ := stat_wake (hci x (List.mem_of_getElem? e)) h2
    subst hd
    by_cases ek : k = key
    ·subst ek; rw [g2]; simp only [freeV, setQ_same]; exact h3
    ·rw [hk k ek, g3 k ek]; exact hme k j x hj e
   ·rw [if_neg h1] at hd
    subst hd
    by_cases ek : k = key
    ·subst ek; simp only [freeV, setQ_same]; exact h2
    ·rw [hk k ek]; exact hme k j x hj e
theorem SI.new {f : List Raw} {h : HF} {ls : List (List OpS)} : SI (newV f h ls) := by
 refine ⟨fun c hc => ?_, fun key j c hc => ?_⟩
 ·obtain ⟨l, _, rfl⟩ := List.mem_map.1 hc
  exact ⟨Nat.zero_le _, fun h => (by cases h), fun h => (by cases h), fun h => absurd h (by simp)⟩
 ·obtain ⟨l, _, rfl⟩ := List.mem_map.1 (List.mem_of_getElem? hc)
  have : statC (⟨l, 0, 0, 0, 0, [], false⟩ : Cl) key = none := by unfold statC; simp
  rw [this]
  intro wr
  exact ⟨⟨fun h => (by cases h), fun h => (by cases h)⟩, ⟨fun h => (by cases h), fun h => (by cases h)⟩⟩
end
end Go.Proofs.Ytebfjdolgchgaaa

namespace Go.Proofs.Ytebfjdolgchgaaa
open Go Go.Fw Go.RowKit
set_option linter.unusedVariables false
set_option linter.unusedSimpArgs false

section
variable {S : VS} {i j : Nat} {c d : Cl} {o : OpS} {r : List OpS} {key key' : List UInt8}
theorem lock_chg (h : lockO o = true) : chgO o = false := by
 unfold lockO at h; rw [decide_eq_true_eq] at h
 unfold chgO
 rw [decide_eq_false (by omega), decide_eq_false (by omega)]; rfl
theorem get_set {cs : List Cl} (hi : i < cs.length) (h : (cs.set i d)[j]? = some c) : (j = i ∧ c = d) ∨ (j ≠ i ∧ cs[j]? = some c) := by
 rw [List.getElem?_set] at h
 by_cases e : i = j
 ·subst e
  simp only [if_true, hi, Option.some.injEq] at h
  exact .inl ⟨rfl, h.symm⟩
 ·rw [if_neg e] at h; exact .inr ⟨fun e2 => e e2.symm, h⟩
theorem freeV_get {k : Nat} {y : Cl} (hV : VI S) (h : (freeV S k key).c[j]? = some y) : ∃ x, S.c[j]? = some x ∧ (y = x ∨ y = { x with w := false }) := by
 have hnow : ∀ w ∈ (freeQ (S.q key) (k : Int)).2.1, 0 ≤ w := fun w hw => by
  obtain ⟨a, ha, rfl⟩ := free_now hw
  exact (hV.wh key a (List.mem_append_right _ ha)).1
 simp only [freeV] at h
 rw [wakeC_get hnow] at h
 cases e : S.c[j]? with
 | none => rw [e] at h; cases h
 | some x =>
  rw [e] at h
  simp only [Option.map_some, Option.some.injEq] at h
  refine ⟨x, rfl, ?_⟩
  split at h
  ·exact .inr h.symm
  ·exact .inl h.symm
theorem endV_get {k : Nat} {y : Cl} (hV : VI S) (h : (endV S k c).c[j]? = some y) : ∃ x, S.c[j]? = some x ∧ (y = x ∨ y = { x with w := false }) := by
 unfold endV at h
 split at h
 ·exact freeV_get hV h
 ·obtain ⟨x, h1, h2⟩ := freeV_get hV.free h
  obtain ⟨z, h3, h4⟩ := freeV_get hV h1
  refine ⟨z, h3, ?_⟩
  rcases h2 with rfl | rfl <;> rcases h4 with rfl | rfl <;> first | exact .inl rfl | exact .inr rfl
theorem SI.one (hS : SI S) (hi : i < S.c.length) {S' : VS} (hc' : S'.c = S.c.set i d) (hd : CI d) (hm : ∀ key, MemC (S'.q key) i (statC d key)) (ho : ∀ key j c, j ≠ i → S.c[j]? = some c → MemC (S'.q key) j (statC c key)) : SI S' := by
 refine ⟨fun x hx => ?_, fun key j x hx => ?_⟩
 ·rw [hc'] at hx
  rcases set_mem hx with h | h
  ·exact hS.ci x h
  ·subst h; exact hd
 ·rw [hc'] at hx
  rcases get_set hi hx with ⟨rfl, rfl⟩ | ⟨hj, h⟩
  ·exact hm key
  ·exact ho key j x hj h
theorem SI.step (hV : VI S) (hS : SI S) (hc : S.c[i]? = some c) (hl : c.l = o :: r) (hw : c.w = false) : SI (stepS S i c o) := by
 have hi : i < S.c.length := (List.getElem?_eq_some_iff.1 hc).1
 have hm := List.mem_of_getElem? hc
 have hC := hS.ci c hm
 have hle := hC.le
 have hchg : chgC c = chgO o := by unfold chgC; rw [hl]
 have hrw : rwC c = !decide (o.k = 2) := by unfold rwC; rw [hl]
 unfold stepS
 split
 ·rename_i h0
  have hno : ∀ k, statC c k = none := fun k => by unfold statC; simp [h0]
  have ha := MemC.asked (wr := chgO o) (by have := hS.me [] i c hc; rwa [hno] at this)
  refine hS.one hi rfl ⟨by simp, fun _ => by simp only; rw [hl]; simp, fun _ => .inl rfl, fun h => absurd h (by simp)⟩ (fun key => ?_) (fun key j x hj hx => ?_)
  ·by_cases e : key = []
   ·subst e
    have : statC { c with bg := S.s, w := !(askQ (S.q []) i (chgO o)).2.1, st := 1 } [] = some (chgO o, (askQ (S.q []) i (chgO o)).2.1) := by
     unfold statC; simp [chgC, hl]
    rw [this]
    simp only [beginS, setQ_same]
    exact ha
   ·have : statC { c with bg := S.s, w := !(askQ (S.q []) i (chgO o)).2.1, st := 1 } key = none := by unfold statC; simp [e]
    rw [this]
    simp only [beginS, setQ_other e]
    have := hS.me key i c hc
    rwa [hno] at this
  ·have h1 := hS.me key j x hx
   by_cases e : key = []
   ·subst e; simp only [beginS, setQ_same]; exact h1.ask hj
   ·simp only [beginS, setQ_other e]; exact h1
 ·rename_i h0
  have htree : statC c [] = some (chgO o, !(decide (c.st = 1) && c.w)) := by unfold statC; rw [if_pos rfl, if_neg h0, hchg]
  split
  ·rename_i h1
   have hno : ∀ k, k ≠ [] → statC c k = none := fun k hk => by unfold statC; rw [if_neg hk, if_neg (by omega)]
   rw [hw] at htree
   simp only [Bool.and_false, Bool.not_false] at htree
   unfold askS
   split
   ·rename_i hlk
    have hkey : (47 :: fileP S.h i o.h) ≠ [] := by simp
    generalize hK : 47 :: fileP S.h i o.h = K at hkey ⊢
    have ha := MemC.asked (wr := !decide (o.k = 2)) (by have := hS.me K i c hc; rwa [hno _ hkey] at this)
    refine hS.one hi rfl ⟨by simp, fun _ => by simp only; rw [hl]; simp, fun _ => .inr ⟨rfl, hkey⟩, fun _ _ => ?_⟩ (fun key => ?_) (fun key j x hj hx => ?_)
    ·unfold chgC; simp only; rw [hl]; exact lock_chg hlk
    ·by_cases e : key = K
     ·subst e
      have : statC { c with key := key, w := !(askQ (S.q key) i (!decide (o.k = 2))).2.1, st := 2 } key = some (!decide (o.k = 2), (askQ (S.q key) i (!decide (o.k = 2))).2.1) := by
       unfold statC; simp [rwC, hl, hkey]
      rw [this]
      simp only [setQ_same]
      exact ha
     ·by_cases e0 : key = []
      ·subst e0
       have : statC { c with key := K, w := !(askQ (S.q K) i (!decide (o.k = 2))).2.1, st := 2 } [] = some (chgO o, true) := by unfold statC; simp [chgC, hl]
       rw [this, ← htree]
       simp only [setQ_other e]
       exact hS.me [] i c hc
      ·have : statC { c with key := K, w := !(askQ (S.q K) i (!decide (o.k = 2))).2.1, st := 2 } key = none := by
        unfold statC; rw [if_neg e0, if_neg (fun h => e h.2.symm)]
       rw [this]
       simp only [setQ_other e]
       have := hS.me key i c hc
       rwa [hno _ e0] at this
    ·have h2 := hS.me key j x hx
     by_cases e : key = K
     ·subst e; simp only [setQ_same]; exact h2.ask hj
     ·simp only [setQ_other e]; exact h2
   ·refine hS.one hi rfl ⟨by simp, fun _ => by simp only; rw [hl]; simp, fun h => (by simp only at h; rw [hw] at h; cases h), fun _ h => absurd rfl h⟩ (fun key => ?_) (fun key j x hj hx => hS.me key j x hx)
    by_cases e0 : key = []
    ·subst e0
     have : statC { c with key := [], st := 2 } [] = some (chgO o, true) := by unfold statC; simp [chgC, hl]
     rw [this, ← htree]
     exact hS.me [] i c hc
    ·have : statC { c with key := [], st := 2 } key = none := by unfold statC; rw [if_neg e0, if_neg (fun h => e0 h.2.symm)]
     rw [this]
     have := hS.me key i c hc
     rwa [hno _ e0] at this
  ·rename_i h1
   split
   ·rename_i h2
    refine hS.one hi rfl ⟨by simp, fun _ => by simp only; rw [hl]; simp, fun h => (by simp only at h; rw [hw] at h; cases h), fun _ h => ?_⟩ (fun key => ?_) (fun key j x hj hx => hS.me key j x hx)
    ·exact hC.kl (by omega) h
    ·have : statC { c with dd := S.o.length, st := 3 } key = statC c key := by
      unfold statC
      simp [h2, chgC, rwC, hw]
     rw [this]
     exact hS.me key i c hc
   ·have h3 : c.st = 3 := by omega
    have hcur : ∀ S' : VS, (∀ k, k ≠ [] → k ≠ c.key → MemC (S'.q k) i none) → True := fun _ _ => trivial
    have hh0 : ∃ wr, ((i : Int), wr) ∈ (S.q []).1 := ⟨chgC c, ((hS.me [] i c hc) _).1.2 (by unfold statC; simp [h3])⟩
    have hother : ∀ k, k ≠ [] → k ≠ c.key → MemC (S.q k) i none := fun k e1 e2 => by
     have := hS.me k i c hc
     have e : statC c k = none := by unfold statC; rw [if_neg e1, if_neg (fun h => e2 h.2.symm)]
     rwa [e] at this
    have key1 : (∀ x ∈ (endV S i c).c, CI x) ∧ (∀ k j x, j ≠ i → (endV S i c).c[j]? = some x → MemC ((endV S i c).q k) j (statC x k)) ∧ ∀ k, MemC ((endV S i c).q k) i none := by
     unfold endV
     split
     ·rename_i e
      obtain ⟨g1, g2, g3⟩ := SI.freed (i := i) (key := []) hV hS.ci (fun k j x _ hx => hS.me k j x hx)
      refine ⟨g1, g2, fun k => ?_⟩
      by_cases e0 : k = []
      ·subst e0; simp only [freeV, setQ_same]; exact free_i (hV.qi []) hh0
      ·rw [g3 k e0]; exact hother k e0 (by rw [e]; exact e0)
     ·rename_i e
      obtain ⟨g1, g2, g3⟩ := SI.freed (i := i) (key := c.key) hV hS.ci (fun k j x _ hx => hS.me k j x hx)
      have hV2 : VI (freeV S i c.key) := hV.free
      obtain ⟨f1, f2, f3⟩ := SI.freed (i := i) (key := []) hV2 g1 g2
      refine ⟨f1, f2, fun k => ?_⟩
      have hk0 : (freeV S i c.key).q [] = S.q [] := g3 [] (fun h => e h.symm)
      by_cases e0 : k = []
      ·subst e0
       have : (freeV (freeV S i c.key) i []).q [] = (freeQ ((freeV S i c.key).q []) i).1 := by
        show setQ (freeV S i c.key).q [] (freeQ ((freeV S i c.key).q []) ↑i).1 [] = _
        exact setQ_same
       rw [this]
       exact free_i (hV2.qi []) (by rw [hk0]; exact hh0)
      ·rw [f3 k e0]
       by_cases e1 : k = c.key
       ·subst e1
        simp only [freeV, setQ_same]
        exact free_i (hV.qi _) ⟨rwC c, ((hS.me c.key i c hc) _).1.2 (by unfold statC; rw [if_neg e, if_pos ⟨by omega, rfl⟩]; simp [h3])⟩
       ·rw [g3 k e1]; exact hother k e0 e1
    obtain ⟨g1, g2, g3⟩ := key1
    refine ⟨fun x hx => ?_, fun k j x hx => ?_⟩
    ·obtain ⟨j, hj⟩ := List.getElem?_of_mem hx
     simp only [endS] at hj
     rw [List.getElem?_modify] at hj
     cases e : (endV S i c).c[j]? with
     | none => rw [e] at hj; cases hj
     | some y =>
      rw [e] at hj
      simp only [Option.map_eq_map, Option.map_some, Option.some.injEq] at hj
      by_cases ej : i = j
      ·subst ej
       rw [if_pos rfl] at hj
       subst hj
       obtain ⟨z, hz, h⟩ := endV_get hV e
       rw [hc] at hz
       cases hz
       refine ⟨Nat.zero_le _, fun h => (by cases h), fun h2 => ?_, fun h => absurd h (by simp)⟩
       rcases h with h | h <;> subst h <;> simp only at h2
       ·rw [hw] at h2; cases h2
       ·cases h2
      ·rw [if_neg ej] at hj
       subst hj
       exact g1 _ (List.mem_of_getElem? e)
    ·simp only [endS] at hx ⊢
     rw [List.getElem?_modify] at hx
     cases e : (endV S i c).c[j]? with
     | none => rw [e] at hx; cases hx
     | some y =>
      rw [e] at hx
      simp only [Option.map_eq_map, Option.map_some, Option.some.injEq] at hx
      by_cases ej : i = j
      ·subst ej
       rw [if_pos rfl] at hx
       subst hx
       have : statC { y with l := c.l.drop 1, n := c.n + 1, st := 0 } k = none := by unfold statC; simp
       rw [this]; exact g3 k
      ·rw [if_neg ej] at hx
       subst hx
       exact g2 k j y (fun e => ej e.symm) e
end
end Go.Proofs.Ytebfjdolgchgaaa

namespace Go.Proofs.Ytebfjdolgchgaaa
open Go Go.Fw Go.RowKit
set_option linter.unusedVariables false
set_option linter.unusedSimpArgs false

def isW (j : Nat) (d : Dd) : Bool := decide (d.who = (j : Int))
def cntO (o : List Dd) (j : Nat) : Nat := o.countP (isW j)
def playO (ls : List (List OpS)) : List Raw → HF → List Dd → Prop × List Raw × HF
 | f, h, [] => (True, f, h)
 | f, h, d :: o => match (ls[d.who.toNat]?).bind (·[d.n]?) with
  | none => (False, f, h)
  | some p => (d.r = (doS f h d.who p).1 ∧ (playO ls (doS f h d.who p).2.1 (doS f h d.who p).2.2 o).1, (playO ls (doS f h d.who p).2.1 (doS f h d.who p).2.2 o).2)
def wtC (c : Cl) : Nat := 4 * c.n + c.st
def cnC (c : Cl) : Nat := c.n + (if c.st = 3 then 1 else 0)
def totS (cs : List Cl) : Nat := (cs.map wtC).sum

structure OI (ls : List (List OpS)) (f0 : List Raw) (h0 : HF) (S : VS) : Prop where
 len : S.c.length = ls.length
 lst : ∀ (j : Nat) (c : Cl), S.c[j]? = some c → ∃ l0, ls[j]? = some l0 ∧ c.l = l0.drop c.n ∧ c.n ≤ l0.length
 seq : ∀ (t : Nat) (d : Dd), S.o[t]? = some d → ∃ j l0, d.who = (j : Nat) ∧ ls[j]? = some l0 ∧ d.n = cntO (S.o.take t) j ∧ d.n < l0.length
 cnt : ∀ (j : Nat) (c : Cl), S.c[j]? = some c → cntO S.o j = c.n + (if c.st = 3 then 1 else 0)
 tim : ∀ d ∈ S.o, d.bg < S.s ∧ (d.en = -1 ∨ (d.bg : Int) < d.en)
 cbg : ∀ c ∈ S.c, 1 ≤ c.st → c.bg < S.s
 ord : ∀ (t t' : Nat) (d d' : Dd), t' < t → S.o[t]? = some d → S.o[t']? = some d' → d.en = -1 ∨ (d'.bg : Int) ≤ d.en
 dd : ∀ (j : Nat) (c : Cl), S.c[j]? = some c → c.st = 3 → ∃ d, S.o[c.dd]? = some d ∧ d.who = (j : Int) ∧ d.n = c.n ∧ d.en = -1
 en : ∀ (t : Nat) (d : Dd), S.o[t]? = some d → (d.en = -1 ∧ ∃ (j : Nat) (c : Cl), d.who = (j : Int) ∧ S.c[j]? = some c ∧ c.st = 3 ∧ c.dd = t) ∨ 0 ≤ d.en
 pl : (playO ls f0 h0 S.o).1 ∧ (playO ls f0 h0 S.o).2 = (S.f, S.h)
 sum : S.s = totS S.c
 ol : S.o.length = (S.c.map cnC).sum

section
variable {S : VS} {i j t : Nat} {c d : Cl} {x : Dd} {o : List Dd} {p : OpS} {r : List OpS} {ls : List (List OpS)} {f0 : List Raw} {h0 : HF}
theorem cntO_snoc : cntO (o ++ [x]) j = cntO o j + (if x.who = (j : Int) then 1 else 0) := by
 unfold cntO isW; rw [List.countP_append]; simp [List.countP_cons]
theorem isW_mod {f : Dd → Dd} (hf : ∀ d, (f d).who = d.who) : ∀ {o : List Dd} {t : Nat}, cntO (o.modify t f) j = cntO o j
 | [], t => by simp [cntO]
 | a :: o, 0 => by simp [cntO, isW, List.countP_cons, hf]
 | a :: o, t + 1 => by
  have := isW_mod hf (o := o) (t := t)
  unfold cntO at this ⊢
  rw [List.modify_succ_cons, List.countP_cons, List.countP_cons, this]
theorem take_mod {f : Dd → Dd} : ∀ {o : List Dd} {t n : Nat}, (o.modify t f).take n = (o.take n).modify t f
 | [], t, n => by simp
 | a :: o, 0, 0 => by simp
 | a :: o, 0, n + 1 => by simp
 | a :: o, t + 1, 0 => by simp
 | a :: o, t + 1, n + 1 => by simp only [List.modify_succ_cons, List.take_succ_cons]; rw [take_mod]
theorem play_snoc : ∀ {o : List Dd} {f : List Raw} {h : HF}, (playO ls f h o).1 → (ls[x.who.toNat]?).bind (·[x.n]?) = some p → x.r = (doS (playO ls f h o).2.1 (playO ls f h o).2.2 x.who p).1 →
  (playO ls f h (o ++ [x])).1 ∧ (playO ls f h (o ++ [x])).2 = (doS (playO ls f h o).2.1 (playO ls f h o).2.2 x.who p).2
 | [], f, h, h1, h2, h3 => by
  simp only [List.nil_append, playO] at h3 ⊢
  rw [h2]
  exact ⟨⟨h3, trivial⟩, rfl⟩
 | a :: o, f, h, h1, h2, h3 => by
  simp only [List.cons_append, playO] at h1 h3 ⊢
  cases e : (ls[a.who.toNat]?).bind (·[a.n]?) with
  | none => rw [e] at h1; exact h1.elim
  | some q =>
   rw [e] at h1 h3
   simp only at h1 h3 ⊢
   obtain ⟨g1, g2⟩ := play_snoc (o := o) h1.2 h2 h3
   exact ⟨⟨h1.1, g1⟩, g2⟩
theorem play_mod {g : Dd → Dd} (hw : ∀ d, (g d).who = d.who) (hn : ∀ d, (g d).n = d.n) (hr : ∀ d, (g d).r = d.r) : ∀ {o : List Dd} {f : List Raw} {h : HF} {t : Nat}, playO ls f h (o.modify t g) = playO ls f h o
 | [], f, h, t => by simp
 | a :: o, f, h, 0 => by simp only [List.modify_zero_cons, playO, hw, hn, hr]
 | a :: o, f, h, t + 1 => by
  simp only [List.modify_succ_cons, playO]
  cases (ls[a.who.toNat]?).bind (·[a.n]?) with
  | none => rfl
  | some q => simp only; rw [play_mod hw hn hr]
theorem map_mod {α β : Type} {g : α → β} {f : α → α} (h : ∀ a, g (f a) = g a) : ∀ {l : List α} {t : Nat}, (l.modify t f).map g = l.map g
 | [], t => by simp
 | a :: l, 0 => by simp [h]
 | a :: l, t + 1 => by simp only [List.modify_succ_cons, List.map_cons]; rw [map_mod h]
theorem wake_map {β : Type} {g : Cl → β} (h : ∀ a : Cl, g { a with w := false } = g a) : ∀ {now : List Int} {cs : List Cl}, (wakeC cs now).map g = cs.map g
 | [], cs => rfl
 | w :: now, cs => by
  show (wakeC (cs.modify w.toNat fun c => { c with w := false }) now).map g = _
  rw [wake_map h, map_mod h]
theorem endV_map {β : Type} {g : Cl → β} (h : ∀ a : Cl, g { a with w := false } = g a) : (endV S i c).c.map g = S.c.map g := by
 unfold endV
 split <;> simp only [freeV, wake_map h]
theorem sumg_set {g : Cl → Nat} {cs : List Cl} : ∀ {i : Nat}, cs[i]? = some c → ((cs.set i d).map g).sum + g c = (cs.map g).sum + g d := by
 induction cs with
 | nil => intro i h; simp at h
 | cons a cs ih =>
  intro i h
  cases i with
  | zero => simp at h; subst h; simp; omega
  | succ i =>
   have := ih (i := i) (by simpa using h)
   simp only [List.set_cons_succ, List.map_cons, List.sum_cons] at this ⊢
   omega
theorem sum_set {cs : List Cl} {i : Nat} (h : cs[i]? = some c) : totS (cs.set i d) + wtC c = totS cs + wtC d := sumg_set h
theorem sumg_mod {g : Cl → Nat} {cs : List Cl} {f : Cl → Cl} {i : Nat} (h : cs[i]? = some c) : ((cs.modify i f).map g).sum + g c = (cs.map g).sum + g (f c) := by
 have e : cs.modify i f = cs.set i (f c) := by
  apply List.ext_getElem?
  intro j
  rw [List.getElem?_modify, List.getElem?_set]
  by_cases e : i = j
  ·subst e
   have hlt := (List.getElem?_eq_some_iff.1 h).1
   rw [h]; simp [hlt]
  ·simp only [e, if_false]; cases cs[j]? <;> rfl
 rw [e]; exact sumg_set h
theorem sum_mod {cs : List Cl} {f : Cl → Cl} {i : Nat} (h : cs[i]? = some c) : totS (cs.modify i f) + wtC c = totS cs + wtC (f c) := sumg_mod h
theorem OI.idle {S' : VS} (hO : OI ls f0 h0 S) (hc : S.c[i]? = some c) (ho : S'.o = S.o) (hs : S'.s = S.s + 1) (hf : (S'.f, S'.h) = (S.f, S.h)) (hc' : S'.c = S.c.set i d) (h1 : d.l = c.l) (h2 : d.n = c.n) (h3 : c.st ≠ 3) (h4 : d.st ≠ 3) (h5 : wtC d = wtC c + 1) (h6 : d.bg < S.s + 1) : OI ls f0 h0 S' := by
 have hi : i < S.c.length := (List.getElem?_eq_some_iff.1 hc).1
 have hg : ∀ (j : Nat) (y : Cl), S'.c[j]? = some y → (j = i ∧ y = d) ∨ (j ≠ i ∧ S.c[j]? = some y) := fun j y h => by rw [hc'] at h; exact get_set hi h
 refine ⟨by rw [hc', List.length_set]; exact hO.len, fun j y hy => ?_, by rw [ho]; exact hO.seq, fun j y hy => ?_, fun x hx => ?_, fun y hy hst => ?_, by rw [ho]; exact hO.ord, fun j y hy hst => ?_, fun t x hx => ?_, by rw [ho, hf]; exact hO.pl, ?_, ?_⟩
 ·rcases hg j y hy with ⟨rfl, rfl⟩ | ⟨_, h⟩
  ·rw [h1, h2]; exact hO.lst _ c hc
  ·exact hO.lst j y h
 ·rw [ho]
  rcases hg j y hy with ⟨rfl, rfl⟩ | ⟨_, h⟩
  ·have := hO.cnt _ c hc
   rw [if_neg h3] at this
   rw [if_neg h4, h2]; exact this
  ·exact hO.cnt j y h
 ·rw [ho] at hx; rw [hs]
  have := hO.tim x hx
  exact ⟨by omega, this.2⟩
 ·rw [hs]
  obtain ⟨j, hj⟩ := List.getElem?_of_mem hy
  rcases hg j y hj with ⟨rfl, rfl⟩ | ⟨_, h⟩
  ·exact h6
  ·have := hO.cbg y (List.mem_of_getElem? h) hst; omega
 ·rw [ho]
  rcases hg j y hy with ⟨rfl, rfl⟩ | ⟨_, h⟩
  ·exact absurd hst h4
  ·exact hO.dd j y h hst
 ·rw [ho] at hx
  rcases hO.en t x hx with ⟨e1, j, y, e2, e3, e4, e5⟩ | h
  ·refine .inl ⟨e1, j, y, e2, ?_, e4, e5⟩
   have hj : i ≠ j := fun e => by subst e; rw [hc] at e3; cases e3; exact h3 e4
   rw [hc', List.getElem?_set, if_neg hj]; exact e3
  ·exact .inr h
 ·rw [hs, hc', hO.sum]
  have := sum_set (d := d) hc
  omega
 ·rw [ho, hc', hO.ol]
  have := sumg_set (g := cnC) (d := d) hc
  have e1 : cnC c = c.n := by unfold cnC; rw [if_neg h3]; rfl
  have e2 : cnC d = c.n := by unfold cnC; rw [if_neg h4, h2]; rfl
  omega
theorem OI.step (hV : VI S) (hO : OI ls f0 h0 S) (hc : S.c[i]? = some c) (hl : c.l = p :: r) : OI ls f0 h0 (stepS S i c p) := by
 have hi : i < S.c.length := (List.getElem?_eq_some_iff.1 hc).1
 have hm := List.mem_of_getElem? hc
 have hst := hV.st c hm
 unfold stepS
 split
 ·rename_i e0
  exact hO.idle (d := { c with bg := S.s, w := !(askQ (S.q []) i (chgO p)).2.1, st := 1 }) hc rfl rfl rfl rfl rfl rfl (by omega) (by simp) (by simp only [wtC]; omega) (by simp only; omega)
 ·rename_i e0
  have hbg := hO.cbg c hm (by omega)
  split
  ·rename_i e1
   unfold askS
   split
   ·exact hO.idle (d := { c with key := 47 :: fileP S.h i p.h, w := !(askQ (S.q (47 :: fileP S.h i p.h)) i (!decide (p.k = 2))).2.1, st := 2 }) hc rfl rfl rfl rfl rfl rfl (by omega) (by simp) (by simp only [wtC]; omega) (by simp only; omega)
   ·exact hO.idle (d := { c with key := [], st := 2 }) hc rfl rfl rfl rfl rfl rfl (by omega) (by simp) (by simp only [wtC]; omega) (by simp only; omega)
  ·rename_i e1
   obtain ⟨l0, hl0, hl1, hl2⟩ := hO.lst i c hc
   have hp : l0[c.n]? = some p := by
    have := congrArg (·[0]?) (hl1.symm.trans hl)
    simpa using this
   have hlt := (List.getElem?_eq_some_iff.1 hp).1
   have hcn := hO.cnt i c hc
   split
   ·rename_i e2
    have hn3 : ¬ c.st = 3 := by omega
    rw [if_neg hn3] at hcn
    have hg : ∀ (j : Nat) (y : Cl), (commitS S i c p).c[j]? = some y → (j = i ∧ y = { c with dd := S.o.length, st := 3 }) ∨ (j ≠ i ∧ S.c[j]? = some y) := fun j y h => get_set hi h
    have hog : ∀ (t : Nat) (x : Dd), (commitS S i c p).o[t]? = some x → S.o[t]? = some x ∨ (t = S.o.length ∧ x = ⟨i, c.n, c.bg, -1, (doS S.f S.h i p).1⟩) := fun t x h => by
     simp only [commitS] at h
     rw [List.getElem?_append] at h
     split at h
     ·exact .inl h
     ·have : t - S.o.length = 0 := by
       rcases Nat.eq_zero_or_pos (t - S.o.length) with h0 | h0
       ·exact h0
       ·rw [List.getElem?_eq_none (by simp; omega)] at h; cases h
      rw [this] at h
      simp only [List.getElem?_cons_zero, Option.some.injEq] at h
      exact .inr ⟨by omega, h.symm⟩
    refine ⟨by simp only [commitS, List.length_set]; exact hO.len, fun j y hy => ?_, fun t x hx => ?_, fun j y hy => ?_, fun x hx => ?_, fun y hy hst => ?_, fun t t' x x' htt hx hx' => ?_, fun j y hy hst => ?_, fun t x hx => ?_, ?_, ?_, ?_⟩
    ·rcases hg j y hy with ⟨rfl, rfl⟩ | ⟨_, h⟩
     ·exact ⟨l0, hl0, hl1, hl2⟩
     ·exact hO.lst j y h
    ·rcases hog t x hx with h | ⟨rfl, rfl⟩
     ·obtain ⟨j, l, g1, g2, g3, g4⟩ := hO.seq t x h
      refine ⟨j, l, g1, g2, ?_, g4⟩
      simp only [commitS]
      rw [List.take_append_of_le_length (Nat.le_of_lt (List.getElem?_eq_some_iff.1 h).1)]
      exact g3
     ·refine ⟨i, l0, rfl, hl0, ?_, hlt⟩
      simp only [commitS]
      rw [List.take_append_of_le_length (Nat.le_refl _), List.take_length, hcn]; simp
    ·simp only [commitS]
     rw [cntO_snoc]
     rcases hg j y hy with ⟨rfl, rfl⟩ | ⟨hj, h⟩
     ·simp [hcn]
     ·rw [hO.cnt j y h]
      have : ¬ ((i : Nat) : Int) = (j : Nat) := by omega
      rw [if_neg this]; rfl
    ·simp only [commitS] at hx ⊢
     rcases List.mem_append.1 hx with h | h
     ·have := hO.tim x h
      exact ⟨by omega, this.2⟩
     ·rw [List.mem_singleton.1 h]; exact ⟨by simp only; omega, .inl rfl⟩
    ·simp only [commitS]
     obtain ⟨j, hj⟩ := List.getElem?_of_mem hy
     rcases hg j y hj with ⟨rfl, rfl⟩ | ⟨_, h⟩
     ·simp only; omega
     ·have := hO.cbg y (List.mem_of_getElem? h) hst; omega
    ·rcases hog t x hx with h | ⟨rfl, rfl⟩
     ·rcases hog t' x' hx' with h' | ⟨rfl, rfl⟩
      ·exact hO.ord t t' x x' htt h h'
      ·have := (List.getElem?_eq_some_iff.1 h).1; omega
     ·exact .inl rfl
    ·rcases hg j y hy with ⟨rfl, rfl⟩ | ⟨_, h⟩
     ·exact ⟨_, by simp only [commitS]; rw [List.getElem?_append_right (Nat.le_refl _), Nat.sub_self]; rfl, rfl, rfl, rfl⟩
     ·obtain ⟨x, g1, g2⟩ := hO.dd j y h hst
      exact ⟨x, by simp only [commitS]; rw [List.getElem?_append_left (List.getElem?_eq_some_iff.1 g1).1]; exact g1, g2⟩
    ·rcases hog t x hx with h | ⟨rfl, rfl⟩
     ·rcases hO.en t x h with ⟨g1, j, y, g2, g3, g4, g5⟩ | h
      ·refine .inl ⟨g1, j, y, g2, ?_, g4, g5⟩
       have hj : i ≠ j := fun e => by subst e; rw [hc] at g3; cases g3; exact hn3 g4
       simp only [commitS]
       rw [List.getElem?_set, if_neg hj]; exact g3
      ·exact .inr h
     ·refine .inl ⟨rfl, i, { c with dd := S.o.length, st := 3 }, rfl, ?_, rfl, rfl⟩
      simp only [commitS]
      rw [List.getElem?_set, if_pos rfl, if_pos hi]
    ·simp only [commitS]
     obtain ⟨g1, g2⟩ := hO.pl
     have e1 := congrArg Prod.fst g2
     have e2 := congrArg Prod.snd g2
     simp only at e1 e2
     have := play_snoc (ls := ls) (x := ⟨i, c.n, c.bg, -1, (doS S.f S.h i p).1⟩) (p := p) g1 (by simp [hl0, hp]) (by rw [e1, e2])
     rw [e1, e2] at this
     exact this
    ·simp only [commitS]
     have := sum_set (d := { c with dd := S.o.length, st := 3 }) hc
     rw [hO.sum]
     simp only [wtC] at this
     omega
    ·simp only [commitS]
     have := sumg_set (g := cnC) (d := { c with dd := S.o.length, st := 3 }) hc
     have e1 : cnC c = c.n := by unfold cnC; rw [if_neg hn3]; rfl
     have e2 : cnC { c with dd := S.o.length, st := 3 } = c.n + 1 := by unfold cnC; rw [if_pos rfl]
     have e3 := hO.ol
     rw [List.length_append, List.length_singleton]
     omega
   ·rename_i e2
    have h3 : c.st = 3 := by omega
    obtain ⟨x0, hx0, hw0, hn0, he0⟩ := hO.dd i c hc h3
    have hdl := (List.getElem?_eq_some_iff.1 hx0).1
    rw [if_pos h3] at hcn
    have hg : ∀ (j : Nat) (y : Cl), (endS S i c).c[j]? = some y → (j = i ∧ y.l = c.l.drop 1 ∧ y.n = c.n + 1 ∧ y.st = 0) ∨ (j ≠ i ∧ ∃ z, S.c[j]? = some z ∧ (y = z ∨ y = { z with w := false })) := fun j y h => by
     simp only [endS] at h
     rw [List.getElem?_modify] at h
     cases e : (endV S i c).c[j]? with
     | none => rw [e] at h; cases h
     | some z =>
      rw [e] at h
      simp only [Option.map_eq_map, Option.map_some, Option.some.injEq] at h
      by_cases ej : i = j
      ·subst ej; rw [if_pos rfl] at h; subst h; exact .inl ⟨rfl, rfl, rfl, rfl⟩
      ·rw [if_neg ej] at h; subst h; exact .inr ⟨fun e => ej e.symm, endV_get hV e⟩
    have hback : ∀ (j : Nat) (z : Cl), j ≠ i → S.c[j]? = some z → ∃ y, (endS S i c).c[j]? = some y ∧ y.st = z.st ∧ y.dd = z.dd := fun j z hj hz => by
     have hjl := (List.getElem?_eq_some_iff.1 hz).1
     have hE : j < (endV S i c).c.length := by rw [endV_len]; exact hjl
     obtain ⟨z', g1, g2⟩ := endV_get hV (List.getElem?_eq_getElem hE)
     rw [hz] at g1; cases g1
     refine ⟨(endV S i c).c[j], ?_, ?_⟩
     ·simp only [endS]
      rw [List.getElem?_modify, List.getElem?_eq_getElem hE]
      simp only [Option.map_eq_map, Option.map_some, if_neg (fun e : i = j => hj e.symm)]
     ·rcases g2 with g2 | g2 <;> rw [g2] <;> exact ⟨rfl, rfl⟩
    have hog : ∀ (t : Nat) (x : Dd), (endS S i c).o[t]? = some x → (t = c.dd ∧ x = { x0 with en := S.s }) ∨ (t ≠ c.dd ∧ S.o[t]? = some x) := fun t x h => by
     simp only [endS] at h
     rw [List.getElem?_modify] at h
     by_cases e : c.dd = t
     ·subst e
      rw [hx0] at h
      simp only [if_true, Option.map_eq_map, Option.map_some, Option.some.injEq] at h
      exact .inl ⟨rfl, h.symm⟩
     ·refine .inr ⟨fun e2 => e e2.symm, ?_⟩
      simp only [e, if_false] at h
      cases e3 : S.o[t]? with
      | none => rw [e3] at h; cases h
      | some y => rw [e3] at h; exact h
    have h0t := hO.tim x0 (List.mem_of_getElem? hx0)
    refine ⟨by simp only [endS, List.length_modify, endV_len]; exact hO.len, fun j y hy => ?_, fun t x hx => ?_, fun j y hy => ?_, fun x hx => ?_, fun y hy hst => ?_, fun t t' x x' htt hx hx' => ?_, fun j y hy hst => ?_, fun t x hx => ?_, ?_, ?_, ?_⟩
    ·rcases hg j y hy with ⟨rfl, g1, g2, g3⟩ | ⟨_, z, hz, h⟩
     ·exact ⟨l0, hl0, by rw [g1, g2, hl1, List.drop_drop], by rw [g2]; omega⟩
     ·have := hO.lst j z hz
      rcases h with rfl | rfl <;> exact this
    ·have hcm : ∀ k, cntO ((endS S i c).o.take t) k = cntO (S.o.take t) k := fun k => by
      simp only [endS]; rw [take_mod, isW_mod (f := fun d : Dd => { d with en := (S.s : Int) }) (fun _ => rfl)]
     rcases hog t x hx with ⟨rfl, rfl⟩ | ⟨_, h⟩
     ·obtain ⟨j, l, g1, g2, g3, g4⟩ := hO.seq _ x0 hx0
      exact ⟨j, l, g1, g2, by rw [hcm]; exact g3, g4⟩
     ·obtain ⟨j, l, g1, g2, g3, g4⟩ := hO.seq t x h
      exact ⟨j, l, g1, g2, by rw [hcm]; exact g3, g4⟩
    ·simp only [endS]
     rw [isW_mod (f := fun d : Dd => { d with en := (S.s : Int) }) (fun _ => rfl)]
     rcases hg j y hy with ⟨rfl, g1, g2, g3⟩ | ⟨_, z, hz, h⟩
     ·rw [g2, g3, hcn]; simp
     ·have := hO.cnt j z hz
      rcases h with rfl | rfl <;> exact this
    ·obtain ⟨t, ht⟩ := List.getElem?_of_mem hx
     simp only [endS]
     rcases hog t x ht with ⟨rfl, rfl⟩ | ⟨_, h⟩
     ·exact ⟨by simp only; omega, .inr (by simp only; omega)⟩
     ·have := hO.tim x (List.mem_of_getElem? h)
      exact ⟨by omega, this.2⟩
    ·obtain ⟨j, hj⟩ := List.getElem?_of_mem hy
     simp only [endS]
     rcases hg j y hj with ⟨rfl, g1, g2, g3⟩ | ⟨_, z, hz, h⟩
     ·omega
     ·have hz2 := List.mem_of_getElem? hz
      rcases h with rfl | rfl
      ·have := hO.cbg y hz2 hst; omega
      ·have := hO.cbg z hz2 hst; simp only; omega
    ·have hb : ∀ (t : Nat) (x : Dd), (endS S i c).o[t]? = some x → ∃ y, S.o[t]? = some y ∧ x.bg = y.bg := fun t x h => by
      rcases hog t x h with ⟨rfl, rfl⟩ | ⟨_, h⟩
      ·exact ⟨x0, hx0, rfl⟩
      ·exact ⟨x, h, rfl⟩
     obtain ⟨y', g1, g2⟩ := hb t' x' hx'
     rw [g2]
     rcases hog t x hx with ⟨rfl, rfl⟩ | ⟨_, h⟩
     ·have := (hO.tim y' (List.mem_of_getElem? g1)).1
      right; simp only; omega
     ·exact hO.ord t t' x y' htt h g1
    ·rcases hg j y hy with ⟨rfl, g1, g2, g3⟩ | ⟨hj, z, hz, h⟩
     ·omega
     ·have hzs : z.st = 3 ∧ z.dd = y.dd ∧ z.n = y.n := by rcases h with rfl | rfl <;> exact ⟨hst, rfl, rfl⟩
      obtain ⟨x, g1, g2, g3, g4⟩ := hO.dd j z hz hzs.1
      refine ⟨x, ?_, g2, by rw [g3]; exact hzs.2.2, g4⟩
      have hne : c.dd ≠ y.dd := fun e => by
       rw [hzs.2.1, ← e, hx0] at g1
       cases g1
       rw [hw0] at g2
       omega
      simp only [endS]
      rw [List.getElem?_modify, ← hzs.2.1, g1]
      simp only [hzs.2.1, hne, if_false, Option.map_eq_map, Option.map_some]
    ·rcases hog t x hx with ⟨rfl, rfl⟩ | ⟨ht, h⟩
     ·right; simp only; omega
     ·rcases hO.en t x h with ⟨g1, j, z, g2, g3, g4, g5⟩ | h
      ·have hj : j ≠ i := fun e => by subst e; rw [hc] at g3; cases g3; exact ht g5.symm
       obtain ⟨y, f1, f2, f3⟩ := hback j z hj g3
       exact .inl ⟨g1, j, y, g2, f1, by rw [f2]; exact g4, by rw [f3]; exact g5⟩
      ·exact .inr h
    ·simp only [endS]
     rw [play_mod (g := fun d : Dd => { d with en := (S.s : Int) }) (fun _ => rfl) (fun _ => rfl) (fun _ => rfl), endV_o.2.2.1, endV_o.2.2.2]
     exact hO.pl
    ·simp only [endS]
     have hE : i < (endV S i c).c.length := by rw [endV_len]; exact hi
     obtain ⟨z, g1, g2⟩ := endV_get hV (List.getElem?_eq_getElem hE)
     rw [hc] at g1; cases g1
     have hwt : wtC (endV S i c).c[i] = wtC c := by rcases g2 with g2 | g2 <;> rw [g2] <;> rfl
     have := sum_mod (f := fun d => { d with l := c.l.drop 1, n := c.n + 1, st := 0 }) (List.getElem?_eq_getElem hE)
     rw [hwt] at this
     have e : totS (endV S i c).c = totS S.c := by unfold totS; rw [endV_map (fun _ => rfl)]
     rw [e] at this
     rw [hO.sum]
     simp only [wtC] at this
     omega
    ·simp only [endS]
     have hE : i < (endV S i c).c.length := by rw [endV_len]; exact hi
     obtain ⟨z, g1, g2⟩ := endV_get hV (List.getElem?_eq_getElem hE)
     rw [hc] at g1; cases g1
     have hwt : cnC (endV S i c).c[i] = c.n + 1 := by unfold cnC; rcases g2 with g2 | g2 <;> rw [g2] <;> simp only [h3, if_true]
     have := sumg_mod (g := cnC) (f := fun d => { d with l := c.l.drop 1, n := c.n + 1, st := 0 }) (List.getElem?_eq_getElem hE)
     rw [hwt, endV_map (g := cnC) (fun _ => rfl)] at this
     have e2 : ∀ z : Cl, cnC { z with l := c.l.drop 1, n := c.n + 1, st := 0 } = c.n + 1 := fun z => rfl
     rw [e2] at this
     rw [List.length_modify, hO.ol]
     omega
theorem OI.new (f : List Raw) (h : HF) (ls : List (List OpS)) : OI ls f h (newV f h ls) := by
 have hg : ∀ (j : Nat) (y : Cl), (newV f h ls).c[j]? = some y → ∃ l, ls[j]? = some l ∧ y = ⟨l, 0, 0, 0, 0, [], false⟩ := fun j y hy => by
  simp only [newV, List.getElem?_map] at hy
  cases e : ls[j]? with
  | none => rw [e] at hy; cases hy
  | some l => rw [e] at hy; simp only [Option.map_some, Option.some.injEq] at hy; exact ⟨l, rfl, hy.symm⟩
 refine ⟨by simp [newV], fun j y hy => ?_, fun t x hx => by simp [newV] at hx, fun j y hy => ?_, fun x hx => by simp [newV] at hx, fun y hy hst => ?_, fun t t' x x' _ hx => by simp [newV] at hx, fun j y hy hst => ?_, fun t x hx => by simp [newV] at hx, ⟨trivial, rfl⟩, ?_, ?_⟩
 ·obtain ⟨l, h1, rfl⟩ := hg j y hy; exact ⟨l, h1, by simp, by simp⟩
 ·obtain ⟨l, h1, rfl⟩ := hg j y hy; simp [newV, cntO]
 ·obtain ⟨j, hj⟩ := List.getElem?_of_mem hy
  obtain ⟨l, h1, rfl⟩ := hg j y hj; simp at hst
 ·obtain ⟨l, h1, rfl⟩ := hg j y hy; cases hst
 ·simp only [newV, totS, List.map_map]
  have : ∀ l : List (List OpS), (l.map (wtC ∘ fun l => (⟨l, 0, 0, 0, 0, [], false⟩ : Cl))).sum = 0 := fun l => by
   induction l with
   | nil => rfl
   | cons a l ih => simp only [List.map_cons, List.sum_cons, ih]; rfl
  exact (this ls).symm
 ·simp only [newV, List.map_map]
  have : ∀ l : List (List OpS), (l.map (cnC ∘ fun l => (⟨l, 0, 0, 0, 0, [], false⟩ : Cl))).sum = 0 := fun l => by
   induction l with
   | nil => rfl
   | cons a l ih => simp only [List.map_cons, List.sum_cons, ih]; rfl
  exact (this ls).symm
end
end Go.Proofs.Ytebfjdolgchgaaa

namespace Go.Proofs.Ytebfjdolgchgaaa
open Go Go.Fw Go.RowKit
set_option linter.unusedVariables false
set_option linter.unusedSimpArgs false

structure AI (ls : List (List OpS)) (f0 : List Raw) (h0 : HF) (S : VS) : Prop where
 vi : VI S
 si : SI S
 oi : OI ls f0 h0 S
section
variable {S : VS} {ls : List (List OpS)} {f0 : List Raw} {h0 : HF} {who : Int} {c : Cl} {i : Nat}
theorem AI.new (hl : ls.length ≤ 8) : AI ls f0 h0 (newV f0 h0 ls) := ⟨VI.new hl, SI.new, OI.new _ _ _⟩
theorem cliS_some (h : cliS S who = some c) : 0 ≤ who ∧ S.c[who.toNat]? = some c := by
 unfold cliS at h
 split at h
 ·rename_i h0; exact ⟨h0, h⟩
 ·cases h
theorem cliS_at (h : S.c[i]? = some c) : cliS S (i : Int) = some c := by
 unfold cliS
 rw [if_pos (by omega), Int.toNat_natCast, h]
theorem AI.step (hA : AI ls f0 h0 S) : AI ls f0 h0 (stepV S who).1 := by
 unfold stepV
 cases h : cliS S who with
 | none => exact hA
 | some c =>
  simp only
  cases hl : c.l with
  | nil => exact hA
  | cons o r =>
   simp only
   split
   ·exact hA
   ·rename_i hw
    simp only [Bool.not_eq_true] at hw
    have hc := (cliS_some h).2
    exact ⟨hA.vi.step hc, hA.si.step hA.vi hc hl hw, hA.oi.step hA.vi hc hl⟩
def runV (S : VS) (ps : List Int) : VS := ps.foldl (fun S p => (stepV S p).1) S
theorem AI.run : ∀ {ps : List Int} {S : VS}, AI ls f0 h0 S → AI ls f0 h0 (runV S ps)
 | [], S, h => h
 | p :: ps, S, h => AI.run (ps := ps) h.step

/-! ## How many steps there are -/
def allL (ls : List (List OpS)) : Nat := (ls.map List.length).sum
theorem sum_le {α β : Type} {g : α → Nat} {k : β → Nat} : ∀ {l : List α} {m : List β}, l.length = m.length → (∀ (i : Nat) (a : α) (b : β), l[i]? = some a → m[i]? = some b → g a ≤ k b) → (l.map g).sum ≤ (m.map k).sum ∧ ((l.map g).sum = (m.map k).sum → ∀ (i : Nat) (a : α) (b : β), l[i]? = some a → m[i]? = some b → g a = k b)
 | [], [], _, _ => ⟨Nat.le_refl _, fun _ i a b h => by simp at h⟩
 | a :: l, b :: m, hl, h => by
  obtain ⟨h1, h2⟩ := sum_le (l := l) (m := m) (by simpa using hl) (fun i x y hx hy => h (i + 1) x y (by simpa using hx) (by simpa using hy))
  have h0 := h 0 a b rfl rfl
  simp only [List.map_cons, List.sum_cons]
  refine ⟨by omega, fun e i x y hx hy => ?_⟩
  cases i with
  | zero => simp at hx hy; subst hx; subst hy; omega
  | succ i => exact h2 (by omega) i x y (by simpa using hx) (by simpa using hy)
theorem mul_sum (ls : List (List OpS)) : (ls.map fun l => 4 * l.length).sum = 4 * allL ls := by
 unfold allL
 induction ls with
 | nil => rfl
 | cons l ls ih => simp only [List.map_cons, List.sum_cons, ih]; omega
theorem AI.wt (hA : AI ls f0 h0 S) (j : Nat) (c : Cl) (l : List OpS) (hc : S.c[j]? = some c) (hl : ls[j]? = some l) : wtC c ≤ 4 * l.length ∧ (wtC c = 4 * l.length → c.l = [] ∧ c.st = 0 ∧ c.n = l.length) := by
 obtain ⟨l0, h1, h2, h3⟩ := hA.oi.lst j c hc
 rw [hl] at h1; cases h1
 have hC := hA.si.ci c (List.mem_of_getElem? hc)
 have hle := hC.le
 have hlen : c.l.length = l.length - c.n := by rw [h2, List.length_drop]
 unfold wtC
 by_cases h0 : c.st = 0
 ·refine ⟨by omega, fun h => ⟨?_, h0, by omega⟩⟩
  have : c.l.length = 0 := by omega
  exact List.length_eq_zero_iff.1 this
 ·have := hC.l0 (by omega)
  have : c.l.length ≠ 0 := fun e => this (List.length_eq_zero_iff.1 e)
  exact ⟨by omega, fun h => by omega⟩
theorem AI.sum (hA : AI ls f0 h0 S) : S.s ≤ 4 * allL ls ∧ (S.s = 4 * allL ls → ∀ (j : Nat) (c : Cl), S.c[j]? = some c → c.l = [] ∧ c.st = 0) := by
 have h := sum_le (g := wtC) (k := fun l : List OpS => 4 * l.length) (l := S.c) (m := ls) hA.oi.len (fun j c l hc hl => (hA.wt j c l hc hl).1)
 rw [mul_sum] at h
 have e := hA.oi.sum
 unfold totS at e
 refine ⟨by omega, fun he j c hc => ?_⟩
 obtain ⟨l0, h1, _, _⟩ := hA.oi.lst j c hc
 have := h.2 (by omega) j c l0 hc h1
 have := (hA.wt j c l0 hc h1).2 this
 exact ⟨this.1, this.2.1⟩
theorem AI.left (hA : AI ls f0 h0 S) (h : S.s < 4 * allL ls) : ∃ c ∈ S.c, c.l ≠ [] := by
 refine Classical.byContradiction fun hno => ?_
 have hall : ∀ c ∈ S.c, c.l = [] := fun c hc => Classical.byContradiction fun e => hno ⟨c, hc, e⟩
 have key : ∀ (j : Nat) (c : Cl) (l : List OpS), S.c[j]? = some c → ls[j]? = some l → 4 * l.length ≤ wtC c := fun j c l hc hl => by
  obtain ⟨l0, h1, h2, h3⟩ := hA.oi.lst j c hc
  rw [hl] at h1; cases h1
  have h4 : c.l.length = l.length - c.n := by rw [h2, List.length_drop]
  rw [hall c (List.mem_of_getElem? hc)] at h4
  simp only [List.length_nil] at h4
  unfold wtC; omega
 have := (sum_le (g := fun l : List OpS => 4 * l.length) (k := wtC) (l := ls) (m := S.c) hA.oi.len.symm (fun j l c hl hc => key j c l hc hl)).1
 rw [mul_sum] at this
 have e := hA.oi.sum
 unfold totS at e
 omega
theorem stepV_s : (stepV S who).1.s = S.s + (stepV S who).2.toNat := by
 unfold stepV
 cases h : cliS S who with
 | none => rfl
 | some c =>
  simp only
  cases hl : c.l with
  | nil => rfl
  | cons o r =>
   simp only
   split
   ·rfl
   ·show (stepS S who.toNat c o).s = S.s + 1
    unfold stepS
    split
    ·rfl
    ·split
     ·unfold askS; split <;> rfl
     ·split <;> rfl
theorem AI.done (hA : AI ls f0 h0 S) (h : ¬ S.s < 4 * allL ls) : (∀ w, leftV S w = 0) ∧ (∀ w, blockV S w = false) ∧ (∀ w, (stepV S w).2 = false) ∧ (∀ d ∈ S.o, 0 ≤ d.en) ∧ S.o.length = allL ls := by
 obtain ⟨h1, h2⟩ := hA.sum
 have h2 := h2 (by omega)
 have hl : ∀ w c, cliS S w = some c → c.l = [] := fun w c hc => (h2 _ c (cliS_some hc).2).1
 refine ⟨fun w => ?_, fun w => ?_, fun w => ?_, fun d hd => ?_, ?_⟩
 ·unfold leftV
  cases e : cliS S w with
  | none => rfl
  | some c => simp only; rw [hl w c e]; rfl
 ·unfold blockV
  cases e : cliS S w with
  | none => rfl
  | some c =>
   simp only
   have hc := (cliS_some e).2
   have := (h2 _ c hc).2
   cases hw : c.w with
   | false => rfl
   | true => rcases (hA.si.ci c (List.mem_of_getElem? hc)).w1 hw with h | h <;> omega
 ·unfold stepV
  cases e : cliS S w with
  | none => rfl
  | some c => simp only; rw [hl w c e]
 ·obtain ⟨t, ht⟩ := List.getElem?_of_mem hd
  rcases hA.oi.en t d ht with ⟨_, j, c, _, g2, g3, _⟩ | h
  ·have := (h2 j c g2).2; omega
  ·exact h
 ·have e1 : (S.c.map cnC).sum = (ls.map List.length).sum := by
   refine Nat.le_antisymm ?_ ?_
   ·refine (sum_le (g := cnC) (k := List.length) (l := S.c) (m := ls) hA.oi.len fun j c l hc hl => ?_).1
    obtain ⟨l0, g1, g2, g3⟩ := hA.oi.lst j c hc
    rw [hl] at g1; cases g1
    have := (h2 j c hc).2
    unfold cnC; rw [if_neg (by omega)]; omega
   ·refine (sum_le (g := List.length) (k := cnC) (l := ls) (m := S.c) hA.oi.len.symm fun j l c hl hc => ?_).1
    obtain ⟨l0, g1, g2, g3⟩ := hA.oi.lst j c hc
    rw [hl] at g1; cases g1
    have g4 : c.l.length = l.length - c.n := by rw [g2, List.length_drop]
    rw [(h2 j c hc).1] at g4
    simp only [List.length_nil] at g4
    unfold cnC; omega
  rw [hA.oi.ol, e1]; rfl
end
end Go.Proofs.Ytebfjdolgchgaaa

namespace Go.Proofs.Ytebfjdolgchgaaa
open Go Go.Fw Go.RowKit
set_option linter.unusedVariables false
set_option linter.unusedSimpArgs false

section
variable {S : VS} {ls : List (List OpS)} {f0 : List Raw} {h0 : HF} {who : Int} {c : Cl} {i : Nat} {o : OpS} {r : List OpS}
theorem stepV_at (hc : S.c[i]? = some c) (hl : c.l = o :: r) (hw : c.w = false) : stepV S (i : Int) = (stepS S i c o, true) := by
 unfold stepV
 rw [cliS_at hc]
 simp only [hl]
 rw [if_neg (by rw [hw]; decide), Int.toNat_natCast]
theorem stepV_yes (h : (stepV S who).2 = true) : ∃ (i : Nat) (c : Cl) (o : OpS) (r : List OpS), who = (i : Int) ∧ S.c[i]? = some c ∧ c.l = o :: r ∧ c.w = false ∧ stepV S who = (stepS S i c o, true) := by
 cases e : cliS S who with
 | none => unfold stepV at h; rw [e] at h; cases h
 | some c =>
  obtain ⟨h1, h2⟩ := cliS_some e
  have hw0 : who = (who.toNat : Int) := by omega
  cases hl : c.l with
  | nil => unfold stepV at h; rw [e] at h; simp only [hl] at h; cases h
  | cons o r =>
   cases hw : c.w with
   | true => unfold stepV at h; rw [e] at h; simp only [hl, hw, if_true] at h; cases h
   | false => exact ⟨who.toNat, c, o, r, hw0, h2, hl, hw, by rw [hw0]; exact stepV_at h2 hl hw⟩

theorem mayQ_w {h : List Qa} (hh : ∀ a ∈ h, a.2 = true) : mayQ h true = h.isEmpty := by unfold mayQ; simp
/-! ## Who asks first does so first -/
structure FI (S : VS) (came : List Int) : Prop where
 op : ∀ c ∈ S.c, ∀ o ∈ c.l, chgO o = true ∧ lockO o = false
 one : ∀ c ∈ S.c, c.l.length + c.n ≤ 1
 wr : ∀ a ∈ (S.q []).1 ++ (S.q []).2, a.2 = true
 ky : ∀ c ∈ S.c, 2 ≤ c.st → c.key = []
 bg : ∀ (j : Nat) (c : Cl), S.c[j]? = some c → ((j : Int) ∈ came ↔ 1 ≤ c.st ∨ 1 ≤ c.n)
 ord : ∃ E : List Int, came = E ++ ((S.q []).1 ++ (S.q []).2).map (·.1) ∧
  ((S.o.map (·.who) = E ∧ ∀ c ∈ S.c, c.st ≠ 3) ∨ (∃ (i : Nat) (c : Cl), (S.q []).1 = [((i : Int), true)] ∧ S.c[i]? = some c ∧ c.st = 3 ∧ S.o.map (·.who) = E ++ [(i : Int)]))
theorem FI.head (hA : AI ls f0 h0 S) {came : List Int} (h : FI S came) (hc : S.c[i]? = some c) (hl : c.l = o :: r) (hs : 2 ≤ c.st) : (S.q []).1 = [((i : Int), true)] := by
 have hch : chgC c = true := by unfold chgC; rw [hl]; exact (h.op c (List.mem_of_getElem? hc) o (by rw [hl]; simp)).1
 have hm : ((i : Int), true) ∈ (S.q []).1 := ((hA.si.me [] i c hc) true).1.2 (by unfold statC; rw [if_pos rfl, if_neg (by omega), hch, decide_eq_false (by omega)]; rfl)
 have hle : (S.q []).1.length ≤ 1 := by
  rcases (hA.vi.qi []).excl with h | h
  ·have := h _ hm; cases this
  ·exact h
 cases e : (S.q []).1 with
 | nil => rw [e] at hm; cases hm
 | cons x s =>
  have : s = [] := by
   rw [e] at hle
   cases s with
   | nil => rfl
   | cons _ _ => simp at hle
  subst this
  rw [e] at hm
  rw [List.mem_singleton.1 hm]
theorem FI.step {came : List Int} (hA : AI ls f0 h0 S) (h : FI S came) (hs : (stepV S (i : Int)).2 = true) : FI (stepV S (i : Int)).1 (if (i : Int) ∈ came then came else came ++ [(i : Int)]) := by
 obtain ⟨j, c, o, r, hj, hc, hl, hw, he⟩ := stepV_yes hs
 have : j = i := by omega
 subst this
 rw [he]
 simp only
 have hi : j < S.c.length := (List.getElem?_eq_some_iff.1 hc).1
 have hm := List.mem_of_getElem? hc
 have hop := h.op c hm o (by rw [hl]; simp)
 have hone := h.one c hm
 have hn0 : c.n = 0 := by rw [hl] at hone; simp at hone; omega
 have hbg := h.bg j c hc
 obtain ⟨E, ho1, ho2⟩ := h.ord
 have hle := (hA.si.ci c hm).le
 by_cases h0 : c.st = 0
 ·have hnot : (j : Int) ∉ came := fun e => by have := hbg.1 e; omega
  rw [if_neg hnot]
  have hst : stepS S j c o = beginS S j c o := by unfold stepS; rw [if_pos h0]
  rw [hst]
  have hme := hA.si.me [] j c hc
  rw [show statC c [] = none by unfold statC; simp [h0]] at hme
  have hno : hasQ (S.q []).1 j = false ∧ hasQ (S.q []).2 j = false := MemC.no hme
  have hask : (askQ (S.q []) (j : Int) (chgO o)).1.1 ++ (askQ (S.q []) (j : Int) (chgO o)).1.2 = ((S.q []).1 ++ (S.q []).2) ++ [((j : Int), true)] ∧ ((S.q []).1 ≠ [] → (askQ (S.q []) (j : Int) (chgO o)).1.1 = (S.q []).1) := by
   unfold askQ
   rw [if_neg (by rw [hno.1, hno.2]; decide), hop.1]
   split
   ·rename_i hm
    simp only [Bool.and_eq_true, List.isEmpty_iff] at hm
    refine ⟨by simp [hm.1], fun hne => ?_⟩
    have := hm.2
    rw [mayQ_w (fun a ha => h.wr a (List.mem_append_left _ ha)), List.isEmpty_iff] at this
    exact absurd this hne
   ·exact ⟨by simp, fun _ => rfl⟩
  have hg : ∀ (k : Nat) (y : Cl), (beginS S j c o).c[k]? = some y → (k = j ∧ y.l = c.l ∧ y.n = c.n ∧ y.st = 1) ∨ (k ≠ j ∧ S.c[k]? = some y) := fun k y hy => by
   rcases get_set hi hy with ⟨rfl, rfl⟩ | h
   ·exact .inl ⟨rfl, rfl, rfl, rfl⟩
   ·exact .inr h
  have hgm : ∀ y ∈ (beginS S j c o).c, (y.l = c.l ∧ y.n = c.n ∧ y.st = 1) ∨ y ∈ S.c := fun y hy => by
   obtain ⟨k, hk⟩ := List.getElem?_of_mem hy
   rcases hg k y hk with ⟨_, g⟩ | ⟨_, g⟩
   ·exact .inl g
   ·exact .inr (List.mem_of_getElem? g)
  have hq : (beginS S j c o).q [] = (askQ (S.q []) (j : Int) (chgO o)).1 := by simp only [beginS, setQ_same]
  refine ⟨fun y hy => ?_, fun y hy => ?_, fun a ha => ?_, fun y hy hs => ?_, fun k y hy => ?_, E, ?_, ?_⟩
  ·rcases hgm y hy with g | g
   ·rw [g.1]; exact h.op c hm
   ·exact h.op y g
  ·rcases hgm y hy with g | g
   ·rw [g.1, g.2.1]; exact hone
   ·exact h.one y g
  ·rw [hq, hask.1] at ha
   rcases List.mem_append.1 ha with g | g
   ·exact h.wr a g
   ·rw [List.mem_singleton.1 g]
  ·rcases hgm y hy with g | g
   ·omega
   ·exact h.ky y g hs
  ·rw [List.mem_append, List.mem_singleton]
   rcases hg k y hy with ⟨rfl, g⟩ | ⟨hk, g⟩
   ·exact ⟨fun _ => .inl (by omega), fun _ => .inr rfl⟩
   ·rw [h.bg k y g]
    exact ⟨fun e => by rcases e with e | e; exact e; omega, .inl⟩
  ·rw [hq, hask.1, ho1]; simp
  ·rcases ho2 with ⟨g1, g2⟩ | ⟨k, x, g1, g2, g3, g4⟩
   ·refine .inl ⟨g1, fun y hy => ?_⟩
    rcases hgm y hy with g | g
    ·omega
    ·exact g2 y g
   ·have hkj : j ≠ k := fun e => by subst e; rw [hc] at g2; cases g2; omega
    refine .inr ⟨k, x, ?_, ?_, g3, g4⟩
    ·rw [hq, hask.2 (by rw [g1]; simp), g1]
    ·simp only [beginS]; rw [List.getElem?_set, if_neg hkj]; exact g2
 ·have hin : (j : Int) ∈ came := hbg.2 (.inl (by omega))
  rw [if_pos hin]
  by_cases h1 : c.st = 1
  ·have hst : stepS S j c o = { S with c := S.c.set j { c with key := [], st := 2 }, s := S.s + 1 } := by
    unfold stepS askS; rw [if_neg h0, if_pos h1, if_neg (by rw [hop.2]; decide)]
   rw [hst]
   have hgm : ∀ y ∈ S.c.set j { c with key := [], st := 2 }, (y.l = c.l ∧ y.n = c.n ∧ y.st = 2 ∧ y.key = []) ∨ y ∈ S.c := fun y hy => by
    rcases set_mem hy with g | g
    ·exact .inr g
    ·subst g; exact .inl ⟨rfl, rfl, rfl, rfl⟩
   refine ⟨fun y hy => ?_, fun y hy => ?_, h.wr, fun y hy hs => ?_, fun k y hy => ?_, E, ho1, ?_⟩
   ·rcases hgm y hy with g | g
    ·rw [g.1]; exact h.op c hm
    ·exact h.op y g
   ·rcases hgm y hy with g | g
    ·rw [g.1, g.2.1]; exact hone
    ·exact h.one y g
   ·rcases hgm y hy with g | g
    ·exact g.2.2.2
    ·exact h.ky y g hs
   ·rcases get_set hi hy with ⟨rfl, rfl⟩ | ⟨_, g⟩
    ·exact ⟨fun _ => .inl (by simp), fun _ => hin⟩
    ·exact h.bg k y g
   ·rcases ho2 with ⟨g1, g2⟩ | ⟨k, x, g1, g2, g3, g4⟩
    ·refine .inl ⟨g1, fun y hy => ?_⟩
     rcases hgm y hy with g | g
     ·omega
     ·exact g2 y g
    ·have hkj : j ≠ k := fun e => by subst e; rw [hc] at g2; cases g2; omega
     refine .inr ⟨k, x, g1, ?_, g3, g4⟩
     simp only; rw [List.getElem?_set, if_neg hkj]; exact g2
  ·have hhead := FI.head hA h hc hl (by omega)
   by_cases h2 : c.st = 2
   ·have hst : stepS S j c o = commitS S j c o := by unfold stepS; rw [if_neg h0, if_neg h1, if_pos h2]
    rw [hst]
    have hgm : ∀ y ∈ (commitS S j c o).c, (y.l = c.l ∧ y.n = c.n ∧ y.st = 3 ∧ y.key = c.key) ∨ y ∈ S.c := fun y hy => by
     rcases set_mem hy with g | g
     ·exact .inr g
     ·subst g; exact .inl ⟨rfl, rfl, rfl, rfl⟩
    refine ⟨fun y hy => ?_, fun y hy => ?_, h.wr, fun y hy hs => ?_, fun k y hy => ?_, E, ho1, ?_⟩
    ·rcases hgm y hy with g | g
     ·rw [g.1]; exact h.op c hm
     ·exact h.op y g
    ·rcases hgm y hy with g | g
     ·rw [g.1, g.2.1]; exact hone
     ·exact h.one y g
    ·rcases hgm y hy with g | g
     ·rw [g.2.2.2]; exact h.ky c hm (by omega)
     ·exact h.ky y g hs
    ·rcases get_set hi hy with ⟨rfl, rfl⟩ | ⟨_, g⟩
     ·exact ⟨fun _ => .inl (by simp), fun _ => hin⟩
     ·exact h.bg k y g
    ·rcases ho2 with ⟨g1, g2⟩ | ⟨k, x, g1, g2, g3, g4⟩
     ·refine .inr ⟨j, { c with dd := S.o.length, st := 3 }, hhead, ?_, rfl, ?_⟩
      ·simp only [commitS]; rw [List.getElem?_set, if_pos rfl, if_pos hi]
      ·simp only [commitS, List.map_append, g1]; rfl
     ·rw [hhead] at g1
      simp only [List.cons.injEq, Prod.mk.injEq, and_true] at g1
      have : j = k := by omega
      subst this; rw [hc] at g2; cases g2; omega
   ·have h3 : c.st = 3 := by omega
    have hk0 := h.ky c hm (by omega)
    have hend : endV S j c = freeV S j [] := by unfold endV; rw [if_pos hk0]
    have hst : stepS S j c o = endS S j c := by unfold stepS; rw [if_neg h0, if_neg h1, if_neg h2]
    rw [hst]
    have hq : (endS S j c).q [] = (freeQ (S.q []) (j : Int)).1 := by simp only [endS]; rw [hend]; simp only [freeV, setQ_same]
    have hw2 : ∀ a ∈ (S.q []).2, a.2 = true := fun a ha => h.wr a (List.mem_append_right _ ha)
    have hfree : (freeQ (S.q []) (j : Int)).1.1 ++ (freeQ (S.q []) (j : Int)).1.2 = (S.q []).2 := by
     unfold freeQ
     rw [if_pos (hasQ_iff.2 ⟨((j : Int), true), by rw [hhead]; simp, rfl⟩)]
     obtain ⟨m, g1, g2, _⟩ := grant_all (w := (S.q []).2) (h := dropQ (S.q []).1 j) (now := [])
     simp only [g1, g2]
     rw [List.append_assoc, List.take_append_drop, hhead]
     simp [dropQ]
    have hg : ∀ (k : Nat) (y : Cl), (endS S j c).c[k]? = some y → (k = j ∧ y.l = c.l.drop 1 ∧ y.n = c.n + 1 ∧ y.st = 0) ∨ (k ≠ j ∧ ∃ z, S.c[k]? = some z ∧ (y = z ∨ y = { z with w := false })) := fun k y hy => by
     simp only [endS] at hy
     rw [List.getElem?_modify] at hy
     cases e : (endV S j c).c[k]? with
     | none => rw [e] at hy; cases hy
     | some z =>
      rw [e] at hy
      simp only [Option.map_eq_map, Option.map_some, Option.some.injEq] at hy
      by_cases ej : j = k
      ·subst ej; rw [if_pos rfl] at hy; subst hy; exact .inl ⟨rfl, rfl, rfl, rfl⟩
      ·rw [if_neg ej] at hy; subst hy; exact .inr ⟨fun e => ej e.symm, endV_get hA.vi e⟩
    have hgm : ∀ y ∈ (endS S j c).c, (y.l = c.l.drop 1 ∧ y.n = c.n + 1 ∧ y.st = 0) ∨ ∃ (k : Nat) (z : Cl), k ≠ j ∧ S.c[k]? = some z ∧ y.l = z.l ∧ y.n = z.n ∧ y.st = z.st ∧ y.key = z.key := fun y hy => by
     obtain ⟨k, hk⟩ := List.getElem?_of_mem hy
     rcases hg k y hk with ⟨_, g⟩ | ⟨hk, z, g1, g2⟩
     ·exact .inl g
     ·exact .inr ⟨k, z, hk, g1, by rcases g2 with rfl | rfl <;> exact ⟨rfl, rfl, rfl, rfl⟩⟩
    refine ⟨fun y hy => ?_, fun y hy => ?_, fun a ha => ?_, fun y hy hs => ?_, fun k y hy => ?_, E ++ [(j : Int)], ?_, ?_⟩
    ·rcases hgm y hy with g | ⟨k, z, _, g1, g2, _⟩
     ·rw [g.1]; exact fun x hx => h.op c hm x (List.mem_of_mem_drop hx)
     ·rw [g2]; exact h.op z (List.mem_of_getElem? g1)
    ·rcases hgm y hy with g | ⟨k, z, _, g1, g2, g3, _⟩
     ·rw [g.1, g.2.1, List.length_drop]; omega
     ·rw [g2, g3]; exact h.one z (List.mem_of_getElem? g1)
    ·rw [hq, hfree] at ha; exact hw2 a ha
    ·rcases hgm y hy with g | ⟨k, z, _, g1, _, _, g2, g3⟩
     ·omega
     ·rw [g3]; exact h.ky z (List.mem_of_getElem? g1) (by omega)
    ·rcases hg k y hy with ⟨rfl, g⟩ | ⟨_, z, g1, g2⟩
     ·exact ⟨fun _ => .inr (by omega), fun _ => hin⟩
     ·have := h.bg k z g1
      rcases g2 with rfl | rfl <;> exact this
    ·rw [hq, hfree, ho1, hhead]; simp
    ·rcases ho2 with ⟨g1, g2⟩ | ⟨k, x, g1, g2, g3, g4⟩
     ·exact absurd h3 (g2 c hm)
     ·rw [hhead] at g1
      simp only [List.cons.injEq, Prod.mk.injEq, and_true] at g1
      have : j = k := by omega
      subst this
      refine .inl ⟨?_, fun y hy h3y => ?_⟩
      ·simp only [endS]
       rw [map_mod (g := fun d : Dd => d.who) (f := fun d : Dd => { d with en := (S.s : Int) }) (fun _ => rfl)]
       exact g4
      ·rcases hgm y hy with g | ⟨k, z, hk, g5, _, _, g6, _⟩
       ·omega
       ·have hz3 : z.st = 3 := by omega
        have hzl := (hA.si.ci z (List.mem_of_getElem? g5)).l0 (by omega)
        cases e : z.l with
        | nil => exact hzl e
        | cons o' r' =>
         have := FI.head hA h g5 e (by omega)
         rw [hhead] at this
         simp only [List.cons.injEq, Prod.mk.injEq, and_true] at this
         omega
theorem FI.new (hop : ∀ l ∈ ls, l.length ≤ 1 ∧ ∀ o ∈ l, chgO o = true ∧ lockO o = false) : FI (newV f0 h0 ls) [] := by
 have hg : ∀ c ∈ (newV f0 h0 ls).c, ∃ l ∈ ls, c = ⟨l, 0, 0, 0, 0, [], false⟩ := fun c hc => by
  obtain ⟨l, hl, rfl⟩ := List.mem_map.1 hc; exact ⟨l, hl, rfl⟩
 refine ⟨fun c hc => ?_, fun c hc => ?_, fun a ha => (by cases ha), fun c hc hs => ?_, fun j c hc => ?_, [], rfl, .inl ⟨rfl, fun c hc => ?_⟩⟩
 ·obtain ⟨l, hl, rfl⟩ := hg c hc; exact (hop l hl).2
 ·obtain ⟨l, hl, rfl⟩ := hg c hc; exact (hop l hl).1
 ·obtain ⟨l, hl, rfl⟩ := hg c hc; rfl
 ·obtain ⟨l, hl, rfl⟩ := hg c (List.mem_of_getElem? hc); simp
 ·obtain ⟨l, hl, rfl⟩ := hg c hc; simp
end
end Go.Proofs.Ytebfjdolgchgaaa

namespace Go.Proofs.Ytebfjdolgchgaaa
open Go Go.Fw Go.RowKit
set_option linter.unusedVariables false
set_option linter.unusedSimpArgs false

abbrev AskR := Int × List UInt8 × Bool × Bool
def ofR (key : List UInt8) (h : Bool) (a : AskR) : Bool := decide (a.2.1 = key) && (a.2.2.2 == h)
def mayR (k : List AskR) (key : List UInt8) (w : Bool) : Bool := (k.filter (ofR key true)).isEmpty || (!w && !(k.filter (ofR key true)).any (fun a => a.2.2.1))
def isR (who : Int) (key : List UInt8) (a : AskR) : Bool := decide (a.1 = who ∧ a.2.1 = key)
def askR (k : List AskR) (who : Int) (key : List UInt8) (w : Bool) : List AskR × Bool × Int :=
 if who < 0 ∨ 8 ≤ who then (k, false, 2) else if k.any (isR who key) = true then (k, false, 18) else
  (k ++ [(who, key, w, (k.filter (ofR key false)).isEmpty && mayR k key w)], (k.filter (ofR key false)).isEmpty && mayR k key w, 0)
def firstR' (k : List AskR) (key : List UInt8) : Option Nat := k.findIdx? (ofR key false)
def grantR (key : List UInt8) : Nat → List AskR → List Int → List AskR × List Int
 | 0, k, now => (k, now)
 | f + 1, k, now => match firstR' k key with
  | none => (k, now)
  | some i => match k[i]? with
   | none => (k, now)
   | some a => if mayR k key a.2.2.1 = true then grantR key f (k.set i (a.1, a.2.1, a.2.2.1, true)) (now ++ [a.1]) else (k, now)
def takeR (k : List AskR) (who : Int) (key : List UInt8) : List AskR := k.filter fun a => !(isR who key a && a.2.2.2)
def freeR (k : List AskR) (who : Int) (key : List UInt8) : List AskR × List Int × Int :=
 if who < 0 ∨ 8 ≤ who then (k, [], 2) else
  if (takeR k who key).length = k.length then (k, [], 9) else
   ((grantR key k.length (takeR k who key) []).1, (grantR key k.length (takeR k who key) []).2, 0)
structure RC where
 l : List OpS
 st : Nat
 n : Nat
 bg : Nat
 key : List UInt8
structure RSy where
 f : List Raw
 h : HF
 k : List AskR
 c : List RC
 o : List Dd
 s : Nat
def rcl (R : RSy) (who : Int) : Option RC := if 0 ≤ who then R.c[who.toNat]? else none
def blockR (R : RSy) (who : Int) : Bool := R.k.any fun a => decide (a.1 = who) && !a.2.2.2
def leftR (R : RSy) (who : Int) : Int := match rcl R who with | none => 0 | some c => c.l.length
def endO (o : List Dd) (who : Int) (n s : Nat) : List Dd := o.map fun d => if d.who = who ∧ d.n = n then { d with en := s } else d
def stepR' (R : RSy) (i : Nat) (c : RC) (o : OpS) : RSy :=
 if c.st = 0 then { R with k := (askR R.k i [] (chgO o)).1, c := R.c.set i { c with bg := R.s, st := 1 }, s := R.s + 1 }
 else if c.st = 1 then (if lockO o = true then { R with k := (askR R.k i (47 :: fileP R.h i o.h) (!decide (o.k = 2))).1, c := R.c.set i { c with key := 47 :: fileP R.h i o.h, st := 2 }, s := R.s + 1 } else { R with c := R.c.set i { c with key := [], st := 2 }, s := R.s + 1 })
 else if c.st = 2 then { R with f := (doS R.f R.h i o).2.1, h := (doS R.f R.h i o).2.2, o := R.o ++ [⟨i, c.n, c.bg, -1, (doS R.f R.h i o).1⟩], c := R.c.set i { c with st := 3 }, s := R.s + 1 }
 else { R with k := (freeR (if c.key = [] then R.k else (freeR R.k i c.key).1) i []).1, o := endO R.o i c.n R.s, c := R.c.set i ⟨c.l.drop 1, 0, c.n + 1, 0, []⟩, s := R.s + 1 }
def stepR (R : RSy) (who : Int) : RSy × Bool := match rcl R who with
 | none => (R, false)
 | some c => match c.l with
  | [] => (R, false)
  | o :: _ => if blockR R who = true then (R, false) else (stepR' R who.toNat c o, true)
def newR (f : List Raw) (h : HF) (ls : List (List OpS)) : RSy := ⟨f, h, [], ls.map (fun l => ⟨l, 0, 0, 0, []⟩), [], 0⟩

/-! ## Locks -/
def inR (key : List UInt8) (h : Bool) (a : Qa) : AskR := (a.1, key, a.2, h)
def RelK (k : List AskR) (Q : QM) : Prop := ∀ key, k.filter (fun a => decide (a.2.1 = key)) = (Q key).1.map (inR key true) ++ (Q key).2.map (inR key false)
section
variable {k : List AskR} {Q : QM} {key key' : List UInt8} {who : Int} {w b : Bool} {q : List Qa × List Qa}
theorem of_filter : k.filter (ofR key b) = (k.filter (fun a => decide (a.2.1 = key))).filter (fun a => a.2.2.2 == b) := by
 rw [List.filter_filter]; congr 1; funext a; unfold ofR; rw [Bool.and_comm]
theorem RelK.held (h : RelK k Q) : k.filter (ofR key true) = (Q key).1.map (inR key true) := by
 rw [of_filter, h key, List.filter_append]
 have e1 : ((Q key).1.map (inR key true)).filter (fun a => a.2.2.2 == true) = (Q key).1.map (inR key true) := by
  rw [List.filter_eq_self]; intro a ha; obtain ⟨x, _, rfl⟩ := List.mem_map.1 ha; rfl
 have e2 : ((Q key).2.map (inR key false)).filter (fun a => a.2.2.2 == true) = [] := by
  rw [List.filter_eq_nil_iff]; intro a ha; obtain ⟨x, _, rfl⟩ := List.mem_map.1 ha; simp [inR]
 rw [e1, e2, List.append_nil]
theorem RelK.waits (h : RelK k Q) : k.filter (ofR key false) = (Q key).2.map (inR key false) := by
 rw [of_filter, h key, List.filter_append]
 have e1 : ((Q key).1.map (inR key true)).filter (fun a => a.2.2.2 == false) = [] := by
  rw [List.filter_eq_nil_iff]; intro a ha; obtain ⟨x, _, rfl⟩ := List.mem_map.1 ha; simp [inR]
 have e2 : ((Q key).2.map (inR key false)).filter (fun a => a.2.2.2 == false) = (Q key).2.map (inR key false) := by
  rw [List.filter_eq_self]; intro a ha; obtain ⟨x, _, rfl⟩ := List.mem_map.1 ha; rfl
 rw [e1, e2, List.nil_append]
theorem RelK.may (h : RelK k Q) (he : (∀ a ∈ (Q key).1, a.2 = false) ∨ (Q key).1.length ≤ 1) : mayR k key w = mayQ (Q key).1 w := by
 unfold mayR mayQ
 rw [h.held]
 cases e : (Q key).1 with
 | nil => rfl
 | cons x r =>
  rw [e] at he
  simp only [List.map_cons, List.isEmpty_cons, Bool.false_or, List.head?_cons, Option.map_some, Option.getD_some, List.any_cons, inR]
  rcases he with he | he
  ·have h1 := he x (by simp)
   have h2 : (r.map (inR key true)).any (fun a => a.2.2.1) = false := by
    rw [List.any_eq_false]; intro y hy; obtain ⟨z, hz, rfl⟩ := List.mem_map.1 hy; simp [inR, he z (by simp [hz])]
   rw [h2, h1]; simp
  ·have : r = [] := by
    cases r with
    | nil => rfl
    | cons _ _ => simp at he
   subst this; simp
theorem RelK.mem (h : RelK k Q) : (who, key, w, b) ∈ k ↔ (who, w) ∈ (if b = true then (Q key).1 else (Q key).2) := by
 have e : (who, key, w, b) ∈ k ↔ (who, key, w, b) ∈ k.filter (fun a => decide (a.2.1 = key)) := by rw [List.mem_filter]; simp
 rw [e, h key, List.mem_append]
 cases b with
 | true =>
  simp only [if_true]
  refine ⟨fun h => ?_, fun h => .inl (List.mem_map.2 ⟨_, h, rfl⟩)⟩
  rcases h with h | h
  ·obtain ⟨x, hx, e⟩ := List.mem_map.1 h; unfold inR at e; cases e; exact hx
  ·obtain ⟨x, hx, e⟩ := List.mem_map.1 h; unfold inR at e; cases e
 | false =>
  simp only [Bool.false_eq_true, if_false]
  refine ⟨fun h => ?_, fun h => .inr (List.mem_map.2 ⟨_, h, rfl⟩)⟩
  rcases h with h | h
  ·obtain ⟨x, hx, e⟩ := List.mem_map.1 h; unfold inR at e; cases e
  ·obtain ⟨x, hx, e⟩ := List.mem_map.1 h; unfold inR at e; cases e; exact hx
theorem RelK.has (h : RelK k Q) : k.any (isR who key) = (hasQ (Q key).1 who || hasQ (Q key).2 who) := by
 rw [Bool.eq_iff_iff, List.any_eq_true, Bool.or_eq_true, hasQ_iff, hasQ_iff]
 constructor
 ·rintro ⟨⟨x, y, z, t⟩, hm, hi⟩
  unfold isR at hi
  rw [decide_eq_true_eq] at hi
  obtain ⟨rfl, rfl⟩ := hi
  have := h.mem.1 hm
  cases t with
  | true => exact .inl ⟨_, this, rfl⟩
  | false => exact .inr ⟨_, this, rfl⟩
 ·rintro (⟨⟨x, y⟩, hm, rfl⟩ | ⟨⟨x, y⟩, hm, rfl⟩)
  ·exact ⟨(x, key, y, true), h.mem.2 (by simpa using hm), by unfold isR; simp⟩
  ·exact ⟨(x, key, y, false), h.mem.2 (by simpa using hm), by unfold isR; simp⟩
theorem RelK.ask (h : RelK k Q) (hq : QI (Q key)) (hw : 0 ≤ who ∧ who < 8) : RelK (askR k who key w).1 (setQ Q key (askQ (Q key) who w).1) := by
 unfold askR askQ
 rw [if_neg (by omega), h.has, h.may hq.excl, h.waits]
 have hm : ((Q key).2.map (inR key false)).isEmpty = (Q key).2.isEmpty := by cases (Q key).2 <;> rfl
 rw [hm]
 by_cases h1 : (hasQ (Q key).1 who || hasQ (Q key).2 who) = true
 ·rw [if_pos h1, if_pos h1]
  intro k'
  by_cases e : k' = key
  ·subst e; unfold setQ; rw [if_pos rfl]; exact h k'
  ·unfold setQ; rw [if_neg e]; exact h k'
 ·rw [if_neg h1, if_neg h1]
  intro k'
  simp only [List.filter_append]
  by_cases e : k' = key
  ·subst e
   have e2 : (setQ Q k' (if ((Q k').2.isEmpty && mayQ (Q k').1 w) = true then (((Q k').1 ++ [(who, w)], (Q k').2), true, (0 : Int)) else (((Q k').1, (Q k').2 ++ [(who, w)]), false, 0)).1) k' = (if ((Q k').2.isEmpty && mayQ (Q k').1 w) = true then (((Q k').1 ++ [(who, w)], (Q k').2), true, (0 : Int)) else (((Q k').1, (Q k').2 ++ [(who, w)]), false, 0)).1 := by unfold setQ; rw [if_pos rfl]
   rw [e2, h k']
   simp only [List.filter_cons, decide_true, if_true, List.filter_nil]
   cases hb : ((Q k').2.isEmpty && mayQ (Q k').1 w) with
   | true =>
    simp only [if_true]
    rw [Bool.and_eq_true, List.isEmpty_iff] at hb
    rw [hb.1]; simp [inR]
   | false => simp [inR]
  ·unfold setQ; rw [if_neg e]
   rw [h k']
   have : (decide (key = k')) = false := decide_eq_false (fun e2 => e e2.symm)
   simp [List.filter_cons, this]
theorem split_atQ {α : Type} {p : α → Bool} : ∀ {A1 A2 B1 B2 : List α} {x : α}, A1 ++ x :: B1 = A2 ++ B2 → (∀ a ∈ A1, p a = true) → p x = false → (∀ a ∈ A2, p a = true) → (∀ a ∈ B2, p a = false) → A1 = A2 ∧ x :: B1 = B2
 | [], [], B1, B2, x, h, _, _, _, _ => ⟨rfl, h⟩
 | [], a :: A2, B1, B2, x, h, _, h2, h3, _ => by
  simp only [List.nil_append, List.cons_append, List.cons.injEq] at h
  have := h3 a (by simp)
  rw [← h.1, h2] at this; cases this
 | a :: A1, [], B1, B2, x, h, h1, _, _, h4 => by
  simp only [List.nil_append, List.cons_append] at h
  have := h4 a (by rw [← h]; simp)
  rw [h1 a (by simp)] at this; cases this
 | a :: A1, c :: A2, B1, B2, x, h, h1, h2, h3, h4 => by
  simp only [List.cons_append, List.cons.injEq] at h
  obtain ⟨g1, g2⟩ := split_atQ h.2 (fun y hy => h1 y (by simp [hy])) h2 (fun y hy => h3 y (by simp [hy])) h4
  exact ⟨by rw [h.1, g1], g2⟩
theorem first_none (h : RelK k Q) (hw : (Q key).2 = []) : firstR' k key = none := by
 unfold firstR'
 rw [List.findIdx?_eq_none_iff]
 intro a ha
 have := h.waits (key := key)
 rw [hw] at this
 simp only [List.map_nil] at this
 have := List.filter_eq_nil_iff.1 this a ha
 simpa using this
theorem first_some (h : RelK k Q) {a : Qa} {r : List Qa} (hw : (Q key).2 = a :: r) : ∃ A B, k = A ++ (a.1, key, a.2, false) :: B ∧ firstR' k key = some A.length ∧ RelK (A ++ (a.1, key, a.2, true) :: B) (setQ Q key ((Q key).1 ++ [a], r)) := by
 cases hf : firstR' k key with
 | none =>
  unfold firstR' at hf
  rw [List.findIdx?_eq_none_iff] at hf
  have : k.filter (ofR key false) = [] := List.filter_eq_nil_iff.2 fun x hx => by rw [hf x hx]; simp
  rw [h.waits, hw] at this; cases this
 | some i =>
  unfold firstR' at hf
  obtain ⟨hi, h1, h2⟩ := List.findIdx?_eq_some_iff_getElem.1 hf
  have hk : k = k.take i ++ k[i] :: k.drop (i + 1) := by rw [← List.drop_eq_getElem_cons hi, List.take_append_drop]
  have hA : ∀ x ∈ k.take i, ofR key false x = false := fun x hx => by
   obtain ⟨j, hj, rfl⟩ := List.mem_take_iff_getElem.1 hx
   have := h2 j (by omega)
   simpa using this
  have hlen : (k.take i).length = i := by rw [List.length_take]; omega
  generalize k.take i = A at hk hA hlen
  generalize k.drop (i + 1) = B at hk
  generalize k[i] = x at hk h1
  unfold ofR at h1
  simp only [Bool.and_eq_true, decide_eq_true_eq, beq_iff_eq] at h1
  have hkey := h key
  rw [hk, List.filter_append, List.filter_cons, if_pos (by simp [h1.1]), hw, List.map_cons] at hkey
  obtain ⟨g1, g2⟩ := split_atQ (p := fun y : AskR => y.2.2.2) hkey (fun y hy => by
   obtain ⟨y1, y2⟩ := List.mem_filter.1 hy
   have := hA y y1
   unfold ofR at this
   simp only [y2, Bool.true_and] at this
   simpa using this) h1.2 (fun y hy => by obtain ⟨z, _, rfl⟩ := List.mem_map.1 hy; rfl) (fun y hy => by
   rcases List.mem_cons.1 hy with rfl | hy
   ·rfl
   ·obtain ⟨z, _, rfl⟩ := List.mem_map.1 hy; rfl)
  simp only [List.cons.injEq] at g2
  obtain ⟨g2, g3⟩ := g2
  have hx : x = (a.1, key, a.2, false) := g2
  subst hx
  refine ⟨A, B, hk, by rw [hlen], fun key' => ?_⟩
  by_cases e : key' = key
  ·subst e
   have e2 : setQ Q key' ((Q key').1 ++ [a], r) key' = ((Q key').1 ++ [a], r) := by unfold setQ; rw [if_pos rfl]
   rw [e2, List.filter_append, List.filter_cons, if_pos (by simp), g1, g3]
   simp [inR]
  ·have e2 : setQ Q key ((Q key).1 ++ [a], r) key' = Q key' := by unfold setQ; rw [if_neg e]
   have e3 := h key'
   have e4 : decide (key = key') = false := decide_eq_false (fun h => e h.symm)
   rw [hk, List.filter_append, List.filter_cons] at e3
   simp only [e4, Bool.false_eq_true, if_false] at e3
   rw [e2, List.filter_append, List.filter_cons]
   simp only [e4, Bool.false_eq_true, if_false]
   exact e3
theorem grant_rel : ∀ (w : List Qa) (k : List AskR) (Q : QM) (f : Nat) (now : List Int), RelK k Q → (Q key).2 = w → ((∀ a ∈ (Q key).1, a.2 = false) ∨ (Q key).1.length ≤ 1) → w.length ≤ f →
  (grantR key f k now).2 = (grantQ (Q key).1 w now).2.2 ∧ RelK (grantR key f k now).1 (setQ Q key ((grantQ (Q key).1 w now).1, (grantQ (Q key).1 w now).2.1))
 | [], k, Q, f, now, h, hw, he, hf => by
  have hsame : RelK k (setQ Q key ((Q key).1, [])) := fun k' => by
   by_cases e : k' = key
   ·subst e; unfold setQ; rw [if_pos rfl, h k', hw]
   ·unfold setQ; rw [if_neg e]; exact h k'
  cases f with
  | zero => exact ⟨rfl, hsame⟩
  | succ f =>
   unfold grantR
   rw [first_none h hw]
   exact ⟨rfl, hsame⟩
 | a :: w, k, Q, f, now, h, hw, he, hf => by
  cases f with
  | zero => simp at hf
  | succ f =>
   obtain ⟨A, B, h1, h2, h3⟩ := first_some h hw
   have hget : k[A.length]? = some (a.1, key, a.2, false) := by rw [h1, List.getElem?_append_right (Nat.le_refl _), Nat.sub_self]; rfl
   have hset : k.set A.length (a.1, key, a.2, true) = A ++ (a.1, key, a.2, true) :: B := by rw [h1, List.set_append_right _ _ (Nat.le_refl _), Nat.sub_self]; rfl
   unfold grantR grantQ
   rw [h2]
   simp only [hget]
   rw [h.may he]
   by_cases hm : mayQ (Q key).1 a.2 = true
   ·rw [if_pos hm, if_pos hm, hset]
    have e2 : setQ Q key ((Q key).1 ++ [a], w) key = ((Q key).1 ++ [a], w) := by unfold setQ; rw [if_pos rfl]
    obtain ⟨g1, g2⟩ := grant_rel w _ _ f (now ++ [a.1]) h3 (by rw [e2]) (by rw [e2]; exact mayQ_excl (who := a.1) he hm) (by simp at hf; omega)
    rw [e2] at g1 g2
    refine ⟨g1, fun k' => ?_⟩
    have := g2 k'
    by_cases e : k' = key
    ·subst e; simp only [setQ, if_true] at this ⊢; exact this
    ·simp only [setQ, e, if_false] at this ⊢; exact this
   ·rw [if_neg hm, if_neg hm]
    refine ⟨rfl, fun k' => ?_⟩
    by_cases e : k' = key
    ·subst e; unfold setQ; rw [if_pos rfl, h k', hw]
    ·unfold setQ; rw [if_neg e]; exact h k'
theorem take_rel (h : RelK k Q) : RelK (takeR k who key) (setQ Q key (dropQ (Q key).1 who, (Q key).2)) := fun k' => by
 unfold takeR
 rw [List.filter_filter]
 have e0 : (fun a : AskR => decide (a.2.1 = k') && !(isR who key a && a.2.2.2)) = fun a => !(isR who key a && a.2.2.2) && decide (a.2.1 = k') := by funext a; rw [Bool.and_comm]
 rw [e0, ← List.filter_filter, h k', List.filter_append]
 by_cases e : k' = key
 ·subst e
  unfold setQ; rw [if_pos rfl]
  congr 1
  ·rw [List.filter_map]
   congr 1
   unfold dropQ
   congr 1
   funext a
   simp [isR, inR, Function.comp]
  ·rw [List.filter_eq_self]
   intro a ha; obtain ⟨x, _, rfl⟩ := List.mem_map.1 ha; simp [inR]
 ·unfold setQ; rw [if_neg e]
  congr 1
  ·rw [List.filter_eq_self]
   intro a ha; obtain ⟨x, _, rfl⟩ := List.mem_map.1 ha; simp [inR, isR, e]
  ·rw [List.filter_eq_self]
   intro a ha; obtain ⟨x, _, rfl⟩ := List.mem_map.1 ha; simp [inR]
theorem RelK.free (h : RelK k Q) (hq : QI (Q key)) (hw : 0 ≤ who ∧ who < 8) : (freeR k who key).2.1 = (freeQ (Q key) who).2.1 ∧ RelK (freeR k who key).1 (setQ Q key (freeQ (Q key) who).1) := by
 have hsame : RelK k (setQ Q key (Q key)) := fun k' => by
  by_cases e : k' = key
  ·subst e; unfold setQ; rw [if_pos rfl]; exact h k'
  ·unfold setQ; rw [if_neg e]; exact h k'
 unfold freeR freeQ
 rw [if_neg (by omega)]
 by_cases hh : hasQ (Q key).1 who = true
 ·rw [if_pos hh]
  obtain ⟨⟨x, y⟩, ha, hx⟩ := hasQ_iff.1 hh
  simp only at hx; subst hx
  have hne : ¬ (takeR k x key).length = k.length := fun e => by
   unfold takeR at e
   have := List.length_filter_eq_length_iff.1 e (x, key, y, true) (h.mem.2 (by simpa using ha))
   simp [isR] at this
  rw [if_neg hne]
  have hd := hq.drop (who := x)
  have e2 : setQ Q key (dropQ (Q key).1 x, (Q key).2) key = (dropQ (Q key).1 x, (Q key).2) := by unfold setQ; rw [if_pos rfl]
  have hlen : (Q key).2.length ≤ k.length := by
   have := congrArg List.length (h key)
   rw [List.length_append, List.length_map, List.length_map] at this
   have := List.length_filter_le (fun a : AskR => decide (a.2.1 = key)) k
   omega
  obtain ⟨g1, g2⟩ := grant_rel (key := key) (Q key).2 _ _ k.length [] (take_rel (who := x) (key := key) h) (by rw [e2]) (by rw [e2]; exact hd.2) hlen
  rw [e2] at g1 g2
  refine ⟨g1, fun k' => ?_⟩
  have := g2 k'
  by_cases e : k' = key
  ·subst e; simp only [setQ, if_true] at this ⊢; exact this
  ·simp only [setQ, e, if_false] at this ⊢; exact this
 ·rw [if_neg hh]
  have hno : takeR k who key = k := by
   unfold takeR
   rw [List.filter_eq_self]
   rintro ⟨x, y, z, t⟩ ha
   simp only [Bool.not_eq_true', Bool.and_eq_false_iff]
   cases t with
   | false => exact .inr rfl
   | true =>
    left
    unfold isR
    rw [decide_eq_false_iff_not]
    rintro ⟨rfl, rfl⟩
    exact hh (hasQ_iff.2 ⟨_, by simpa using h.mem.1 ha, rfl⟩)
  rw [hno, if_pos rfl]
  exact ⟨rfl, hsame⟩
end
end Go.Proofs.Ytebfjdolgchgaaa

namespace Go.Proofs.Ytebfjdolgchgaaa
open Go Go.Fw Go.RowKit
set_option linter.unusedVariables false
set_option linter.unusedSimpArgs false

structure RelC (c : Cl) (d : RC) : Prop where
 l : d.l = c.l
 st : d.st = c.st
 n : d.n = c.n
 bg : 1 ≤ c.st → d.bg = c.bg
 key : 2 ≤ c.st → d.key = c.key
structure RR (S : VS) (R : RSy) : Prop where
 f : R.f = S.f
 h : R.h = S.h
 k : RelK R.k S.q
 len : R.c.length = S.c.length
 cl : ∀ (j : Nat) (c : Cl) (d : RC), S.c[j]? = some c → R.c[j]? = some d → RelC c d
 o : R.o = S.o
 s : R.s = S.s
section
variable {S : VS} {R : RSy} {ls : List (List OpS)} {f0 : List Raw} {h0 : HF} {who : Int} {c : Cl} {d : RC} {i j : Nat} {p : OpS} {r : List OpS}
theorem RR.get (hR : RR S R) (hc : S.c[j]? = some c) : ∃ d, R.c[j]? = some d ∧ RelC c d := by
 have hlt := (List.getElem?_eq_some_iff.1 hc).1
 have h2 : j < R.c.length := by rw [hR.len]; exact hlt
 exact ⟨R.c[j], List.getElem?_eq_getElem h2, hR.cl j c _ hc (List.getElem?_eq_getElem h2)⟩
theorem RR.rcl (hR : RR S R) : (∀ c, cliS S who = some c → ∃ d, rcl R who = some d ∧ RelC c d) ∧ (cliS S who = none → Go.Proofs.Ytebfjdolgchgaaa.rcl R who = none) := by
 unfold cliS Go.Proofs.Ytebfjdolgchgaaa.rcl
 by_cases h : 0 ≤ who
 ·rw [if_pos h, if_pos h]
  refine ⟨fun c hc => hR.get hc, fun hn => ?_⟩
  rw [List.getElem?_eq_none_iff] at hn ⊢
  rw [hR.len]; exact hn
 ·rw [if_neg h, if_neg h]
  exact ⟨fun c hc => (by cases hc), fun _ => rfl⟩
theorem RR.left (hR : RR S R) : leftR R who = leftV S who := by
 unfold leftR leftV
 cases e : cliS S who with
 | none => rw [hR.rcl.2 e]
 | some c =>
  obtain ⟨d, h1, h2⟩ := hR.rcl.1 c e
  rw [h1]; simp only; rw [h2.l]
theorem RR.block (hA : AI ls f0 h0 S) (hR : RR S R) : blockR R who = blockV S who := by
 rw [Bool.eq_iff_iff]
 unfold blockR blockV
 rw [List.any_eq_true]
 constructor
 ·rintro ⟨⟨x, key, w, b⟩, hm, hb⟩
  simp only [Bool.and_eq_true, decide_eq_true_eq, Bool.not_eq_true'] at hb
  obtain ⟨rfl, rfl⟩ := hb
  have hm := hR.k.mem.1 hm
  simp only [Bool.false_eq_true, if_false] at hm
  obtain ⟨g1, g2⟩ := hA.vi.wh key _ (List.mem_append_right _ hm)
  simp only at g1 g2
  have hlt : x.toNat < S.c.length := by omega
  have hget := List.getElem?_eq_getElem hlt
  have hx : x = (x.toNat : Int) := by omega
  have hs := ((hA.si.me key x.toNat _ hget) w).2.1 (by rw [← hx]; exact hm)
  have e : cliS S x = some S.c[x.toNat] := by have := cliS_at hget; rw [← hx] at this; exact this
  rw [e]
  simp only
  unfold statC at hs
  split at hs
  ·split at hs
   ·cases hs
   ·simp only [Option.some.injEq, Prod.mk.injEq, Bool.not_eq_false', Bool.and_eq_true] at hs
    exact hs.2.2
  ·split at hs
   ·simp only [Option.some.injEq, Prod.mk.injEq, Bool.not_eq_false', Bool.and_eq_true] at hs
    exact hs.2.2
   ·cases hs
 ·intro h
  cases e : cliS S who with
  | none => rw [e] at h; cases h
  | some c =>
   rw [e] at h
   simp only at h
   obtain ⟨g1, g2⟩ := cliS_some e
   have hw : who = (who.toNat : Int) := by omega
   rcases (hA.si.ci c (List.mem_of_getElem? g2)).w1 h with h1 | ⟨h1, h2⟩
   ·have := ((hA.si.me [] who.toNat c g2) (chgC c)).2.2 (by unfold statC; simp [h1, h])
    exact ⟨(who, [], chgC c, false), hR.k.mem.2 (by rw [hw]; simpa using this), by simp⟩
   ·have := ((hA.si.me c.key who.toNat c g2) (rwC c)).2.2 (by unfold statC; rw [if_neg h2, if_pos ⟨by omega, rfl⟩]; simp [h1, h])
    exact ⟨(who, c.key, rwC c, false), hR.k.mem.2 (by rw [hw]; simpa using this), by simp⟩
theorem RR.set (hR : RR S R) {S' : VS} {R' : RSy} {c' : Cl} {d' : RC} (hi : i < S.c.length) (hc : S'.c = S.c.set i c') (hd : R'.c = R.c.set i d') (hcd : RelC c' d') (hf : R'.f = S'.f) (hh : R'.h = S'.h) (hk : RelK R'.k S'.q) (ho : R'.o = S'.o) (hs : R'.s = S'.s) : RR S' R' := by
 refine ⟨hf, hh, hk, by rw [hc, hd, List.length_set, List.length_set]; exact hR.len, fun j c d g1 g2 => ?_, ho, hs⟩
 rw [hc, List.getElem?_set] at g1
 rw [hd, List.getElem?_set] at g2
 by_cases e : i = j
 ·subst e
  have hi2 : i < R.c.length := by rw [hR.len]; exact hi
  simp only [if_true, hi, hi2, Option.some.injEq] at g1 g2
  subst g1; subst g2; exact hcd
 ·rw [if_neg e] at g1 g2
  exact hR.cl j c d g1 g2
theorem endO_mod (hO : OI ls f0 h0 S) (hc : S.c[i]? = some c) (h3 : c.st = 3) (s : Nat) : endO S.o (i : Int) c.n s = S.o.modify c.dd fun d => { d with en := (s : Int) } := by
 obtain ⟨x0, hx0, hw0, hn0, _⟩ := hO.dd i c hc h3
 unfold endO
 apply List.ext_getElem?
 intro t
 rw [List.getElem?_map, List.getElem?_modify]
 cases e : S.o[t]? with
 | none => rfl
 | some d =>
  simp only [Option.map_some, Option.map_eq_map, Option.some.injEq]
  by_cases et : c.dd = t
  ·subst et
   rw [hx0] at e; cases e
   rw [if_pos ⟨hw0, hn0⟩, if_pos rfl]
  ·rw [if_neg et]
   rw [if_neg]
   rintro ⟨g1, g2⟩
   obtain ⟨j1, l1, e1, e2, e3, e4⟩ := hO.seq t d e
   obtain ⟨j2, l2, f1, f2, f3, f4⟩ := hO.seq c.dd x0 hx0
   have a1 : j1 = i := by omega
   have a2 : j2 = i := by omega
   subst a2; subst a1
   have hcnt : ∀ {a b : Nat} {x : Dd}, a < b → S.o[a]? = some x → x.who = (j1 : Int) → cntO (S.o.take a) j1 + 1 ≤ cntO (S.o.take b) j1 := fun {a b x} hab hx hxw => by
    have h1 : cntO (S.o.take (a + 1)) j1 = cntO (S.o.take a) j1 + 1 := by
     rw [List.take_add_one, hx]
     simp only [Option.toList_some]
     rw [cntO_snoc, if_pos hxw]
    have h2 : cntO (S.o.take (a + 1)) j1 ≤ cntO (S.o.take b) j1 := by
     unfold cntO
     exact List.Sublist.countP_le (List.take_sublist_take_left (by omega))
    omega
   rcases Nat.lt_or_gt_of_ne et with h | h
   ·have := hcnt h hx0 hw0; omega
   ·have := hcnt h e g1; omega
theorem RR.step (hA : AI ls f0 h0 S) (hR : RR S R) : (stepR R who).2 = (stepV S who).2 ∧ RR (stepV S who).1 (stepR R who).1 := by
 unfold stepR
 cases e : cliS S who with
 | none =>
  have h1 : stepV S who = (S, false) := by unfold stepV; rw [e]
  rw [hR.rcl.2 e, h1]; exact ⟨rfl, hR⟩
 | some c =>
  obtain ⟨d, h1, h2⟩ := hR.rcl.1 c e
  rw [h1]
  simp only
  obtain ⟨g1, g2⟩ := cliS_some e
  cases hl : c.l with
  | nil =>
   have h3 : stepV S who = (S, false) := by unfold stepV; rw [e]; simp only [hl]
   rw [h2.l, hl, h3]; exact ⟨rfl, hR⟩
  | cons p r =>
   rw [h2.l, hl]
   simp only
   rw [hR.block hA]
   have hb : blockV S who = c.w := by unfold blockV; rw [e]
   rw [hb]
   cases hw : c.w with
   | true =>
    have h3 : stepV S who = (S, false) := by unfold stepV; rw [e]; simp only [hl, hw, if_true]
    rw [if_pos rfl, h3]; exact ⟨rfl, hR⟩
   | false =>
    have h3 : stepV S who = (stepS S who.toNat c p, true) := by unfold stepV; rw [e]; simp only [hl]; rw [if_neg (by rw [hw]; decide)]
    rw [if_neg (by decide), h3]
    refine ⟨rfl, ?_⟩
    simp only
    generalize who.toNat = i at g2
    have hi : i < S.c.length := (List.getElem?_eq_some_iff.1 g2).1
    have hi8 : 0 ≤ (i : Int) ∧ (i : Int) < 8 := by have := hA.vi.le; omega
    have hst := (hA.si.ci c (List.mem_of_getElem? g2)).le
    have hst3 := hA.vi.st c (List.mem_of_getElem? g2)
    unfold stepR' stepS
    rw [h2.st]
    by_cases e0 : c.st = 0
    ·rw [if_pos e0, if_pos e0]
     refine hR.set hi rfl rfl ⟨h2.l, rfl, h2.n, fun _ => hR.s, fun h => absurd h (by simp)⟩ hR.f hR.h ?_ hR.o (by simp only [beginS]; rw [hR.s])
     exact hR.k.ask (hA.vi.qi []) hi8
    ·rw [if_neg e0, if_neg e0]
     have hbg := h2.bg (by omega)
     by_cases e1 : c.st = 1
     ·rw [if_pos e1, if_pos e1, hR.h]
      unfold askS
      by_cases hlk : lockO p = true
      ·rw [if_pos hlk, if_pos hlk]
       refine hR.set hi rfl rfl ⟨h2.l, rfl, h2.n, fun _ => hbg, fun _ => rfl⟩ hR.f rfl ?_ hR.o (by simp only; rw [hR.s])
       exact hR.k.ask (hA.vi.qi _) hi8
      ·rw [if_neg hlk, if_neg hlk]
       exact hR.set hi rfl rfl ⟨h2.l, rfl, h2.n, fun _ => hbg, fun _ => rfl⟩ hR.f rfl hR.k hR.o (by simp only; rw [hR.s])
     ·rw [if_neg e1, if_neg e1]
      have hkey := h2.key (by omega)
      by_cases e2 : c.st = 2
      ·rw [if_pos e2, if_pos e2]
       refine hR.set hi rfl rfl ⟨h2.l, rfl, h2.n, fun _ => hbg, fun _ => hkey⟩ (by simp only [commitS]; rw [hR.f, hR.h]) (by simp only [commitS]; rw [hR.f, hR.h]) hR.k (by simp only [commitS]; rw [hR.o, hR.f, hR.h, h2.n, hbg]) (by simp only [commitS]; rw [hR.s])
      ·rw [if_neg e2, if_neg e2]
       have e3 : c.st = 3 := by omega
       refine ⟨?_, ?_, ?_, ?_, fun j x y hx hy => ?_, ?_, ?_⟩
       ·simp only [endS]; rw [endV_o.2.2.1]; exact hR.f
       ·simp only [endS]; rw [endV_o.2.2.2]; exact hR.h
       ·simp only [endS]
        rw [hkey]
        unfold endV
        by_cases ek : c.key = []
        ·rw [if_pos ek, if_pos ek]
         exact (hR.k.free (hA.vi.qi []) hi8).2
        ·rw [if_neg ek, if_neg ek]
         have k1 := (hR.k.free (key := c.key) (hA.vi.qi c.key) hi8).2
         have hV2 : VI (freeV S i c.key) := hA.vi.free
         exact (RelK.free (Q := (freeV S i c.key).q) k1 (hV2.qi []) hi8).2
       ·simp only [endS, List.length_set, List.length_modify, endV_len]; exact hR.len
       ·simp only [endS] at hx
        simp only at hy
        rw [List.getElem?_modify] at hx
        rw [List.getElem?_set] at hy
        cases ez : (endV S i c).c[j]? with
        | none => rw [ez] at hx; cases hx
        | some z =>
         rw [ez] at hx
         simp only [Option.map_eq_map, Option.map_some, Option.some.injEq] at hx
         by_cases ej : i = j
         ·subst ej
          have hi2 : i < R.c.length := by rw [hR.len]; exact hi
          simp only [if_true, hi2, Option.some.injEq] at hx hy
          subst hx; subst hy
          exact ⟨by simp only; rw [h2.l], rfl, by simp only; rw [h2.n], fun h => absurd h (by simp), fun h => absurd h (by simp)⟩
         ·rw [if_neg ej] at hx hy
          subst hx
          obtain ⟨w, k1, k2⟩ := endV_get hA.vi ez
          have := hR.cl j w y k1 hy
          rcases k2 with rfl | rfl
          ·exact this
          ·exact ⟨this.l, this.st, this.n, this.bg, this.key⟩
       ·simp only [endS]; rw [hR.o, hR.s, h2.n]; exact endO_mod hA.oi g2 e3 S.s
       ·simp only [endS]; rw [hR.s]
theorem RR.new : RR (newV f0 h0 ls) (newR f0 h0 ls) := by
 refine ⟨rfl, rfl, fun key => rfl, by simp [newV, newR], fun j c d hc hd => ?_, rfl, rfl⟩
 simp only [newV, newR, List.getElem?_map] at hc hd
 cases e : ls[j]? with
 | none => rw [e] at hc; cases hc
 | some l =>
  rw [e] at hc hd
  simp only [Option.map_some, Option.some.injEq] at hc hd
  subst hc; subst hd
  exact ⟨rfl, rfl, rfl, fun h => absurd h (by simp), fun h => absurd h (by simp)⟩
end
end Go.Proofs.Ytebfjdolgchgaaa

namespace Go.Proofs.Ytebfjdolgchgaaa
open Go Go.Fw Go.RowKit
set_option linter.unusedVariables false
set_option linter.unusedSimpArgs false
theorem TreeL.nil : TreeL [] := by
 refine ⟨fun q => if q = [] then some (true, []) else none, ⟨rfl, fun q n v h => ?_, fun q v h => ?_⟩, ⟨List.Pairwise.nil, fun x => ⟨fun h => (by cases h), fun h => ?_⟩⟩⟩
 ·simp at h
 ·by_cases e : q = []
  ·subst e
   simp at h; subst h
   exact ⟨⟨by simp, by simp [allOK], by decide⟩, by simp, fun _ => rfl⟩
  ·simp [e] at h
 ·obtain ⟨N, h0, _, h⟩ := h
  simp [h0] at h
theorem RI.nil : RI [] [] := ⟨TreeL.nil, by simp, by decide, fun x hx => (by cases hx), List.nodup_nil, fun x hx => (by cases hx)⟩
def hello : List UInt8 := [104, 101, 108, 108, 111]
def world' : List UInt8 := [119, 111, 114, 108, 100]
def fl0 : List Raw := [([97], false, hello), ([100, 47, 98], false, world')]
def fN : List Raw := fillL fl0 (fl0.foldl withR [])
theorem fl0_ok : OKd fl0 := by
 intro x hx
 simp only [fl0, List.mem_cons, List.not_mem_nil, or_false] at hx
 rcases hx with rfl | rfl <;> exact ⟨by decide, by simp⟩
theorem fl0_bad : ¬ badL fl0 := by
 rintro ⟨i, k, x, y, hx, hy, hne, _, hu⟩
 have hi := (List.getElem?_eq_some_iff.1 hx).1
 have hk := (List.getElem?_eq_some_iff.1 hy).1
 simp only [fl0, List.length_cons, List.length_nil] at hi hk
 have h : (i = 0 ∧ k = 1) ∨ (i = 1 ∧ k = 0) := by omega
 rcases h with ⟨rfl, rfl⟩ | ⟨rfl, rfl⟩
 ·simp only [fl0, List.getElem?_cons_zero, List.getElem?_cons_succ, Option.some.injEq] at hx hy
  subst hx; subst hy
  exact absurd hu (by decide +kernel)
 ·simp only [fl0, List.getElem?_cons_zero, List.getElem?_cons_succ, Option.some.injEq] at hx hy
  subst hx; subst hy
  exact absurd hu (by decide +kernel)
theorem fl0_of : ofL fl0 = (fillL fl0 (fl0.foldl withR []), 0) := by
 rw [ofL_4 (by decide +kernel) (by decide +kernel) fl0_bad, if_neg (by decide +kernel)]
theorem fl0_new : newS fl0 = (fillL fl0 (fl0.foldl withR []), 0) := by
 rw [newS_0 (by decide +kernel) (by rw [bare_of2 fl0_ok, fl0_of]) (by decide +kernel), fl0_of]
theorem fN_eq : fN = (putL (putL (mkdirL [] [100]).1 [97] hello).1 [100, 47, 98] world').1 := by decide +kernel
theorem fN_tree : TreeL fN := by rw [fN_eq]; exact (((TreeL.nil.mkdir _).put _ _).put _ _)
theorem fN_ri : RI fN [] := ⟨fN_tree, by decide +kernel, by decide +kernel, fun x hx => (by cases hx), List.nodup_nil, fun x hx => (by cases hx)⟩
theorem fN_0 : (newS fl0).2 = 0 := by rw [fl0_new]
theorem fN_1 : (newS fl0).1 = fN := by rw [fl0_new]; rfl
end Go.Proofs.Ytebfjdolgchgaaa

namespace Go.Proofs.Ytebfjdolgchgaaa
open Go Go.Fw Go.RowKit Go.Proofs
set_option linter.unusedVariables false
set_option linter.unusedSimpArgs false
set_option maxRecDepth 100000
set_option maxHeartbeats 4000000

-- valise/valiselaw20.files
theorem vfiles_c {w00 w0 : World} {X : List (Nat × Obj)} (M : Sep w00 X w0) : Ret Try.prog 13 #[] w0 fun r w' => ∃ pu cu Lr, r = .agg #[.slice pu fN.length cu, .slice none 0 0] ∧ FilesK w00 Lr (.slice pu fN.length cu) fN ∧ Sep w00 (X ++ Lr) w' := by
 refine Ret.of_W Try.func13 rfl Try.ntmps13 rfl ?_
 refine go 1 ?_
 intro bal1 _ M
 refine go 0 ?_
 refine W.reg [(0, true), (1, true), (2, false), (3, true), (4, true), (5, false), (6, true), (7, true), (8, false), (9, false), (10, false), (11, true), (12, true), (13, false)] (by kernel_rfl) ?_
 intro K hK
 refine x_bsN (byteCs hello) rfl rfl rfl Try.underlying56 sz5 ze5 (Z := [_]) rfl rfl (by decide) (by decide) rfl (by kernel_rfl) ?_
 intro bbs1 wbs1 hbbs1 hwbs1
 have M := M.acons hbbs1 hwbs1
 refine ⟨trivial, ?_⟩
 refine x_cvsl rfl rfl rfl rfl Try.underlying56 Try.underlying5 rfl (M.at_ 0 rfl) ?_
 intro wcv1 hwcv1
 have M := M.put 0 rfl hwcv1
 refine ⟨trivial, ?_⟩
 refine go 1 ?_
 refine x_bsN (byteCs world') rfl rfl rfl Try.underlying56 sz5 ze5 (Z := [_]) rfl rfl (by decide) (by decide) rfl (by kernel_rfl) ?_
 intro bbs2 wbs2 hbbs2 hwbs2
 have M := M.acons hbbs2 hwbs2
 refine ⟨trivial, ?_⟩
 refine x_cvsl rfl rfl rfl rfl Try.underlying56 Try.underlying5 rfl (M.at_ 0 rfl) ?_
 intro wcv2 hwcv2
 have M := M.put 0 rfl hwcv2
 refine ⟨trivial, ?_⟩
 refine go 1 ?_
 refine x_bsN [strV [97], .bool false, .slice (some ⟨bbs1, 0, none⟩) 5 5, strV [100, 47, 98], .bool false, .slice (some ⟨bbs2, 0, none⟩) 5 5] rfl rfl rfl Try.underlying31 sz88 ze88 (Z := [_, _, _]) rfl rfl (by decide) (by decide) rfl (by first | rfl | kernel_rfl) ?_
 intro bbs3 wbs3 hbbs3 hwbs3
 have M := M.acons hbbs3 hwbs3
 have M : Sep w00 ([(bbs3, .cells ([strV [97], .bool false, .slice (some ⟨bbs1, 0, none⟩) 5 5, strV [100, 47, 98], .bool false, .slice (some ⟨bbs2, 0, none⟩) 5 5]).toArray 88 (0, 0)), (bbs2, .cells (byteCs world').toArray 5 (5, 6)), (bbs1, .cells (byteCs hello).toArray 5 (5, 6))] ++ ((bal1, .cells [.slice none 0 0, .slice none 0 0].toArray 36 (0, 0)) :: X)) wbs3 := M
 have hFz : FilesK w00 [(bbs3, .cells ([strV [97], .bool false, .slice (some ⟨bbs1, 0, none⟩) 5 5, strV [100, 47, 98], .bool false, .slice (some ⟨bbs2, 0, none⟩) 5 5]).toArray 88 (0, 0)), (bbs2, .cells (byteCs world').toArray 5 (5, 6)), (bbs1, .cells (byteCs hello).toArray 5 (5, 6))] (.slice (some ⟨bbs3, 0, none⟩) 2 2) fl0 := ⟨[(([97], false, hello), .slice (some ⟨bbs1, 0, none⟩) 5 5), (([100, 47, 98], false, world'), .slice (some ⟨bbs2, 0, none⟩) 5 5)], rfl, SgK.slL (.inr ⟨bbs3, 0, 2, _, _, _, rfl, Nat.le_refl _, List.mem_cons_self, rfl, rfl⟩) (fun _ h => h), fun f hf => by
  simp only [List.mem_cons, List.not_mem_nil, or_false] at hf
  rcases hf with rfl | rfl
  ·exact ⟨SgK.litB (List.mem_cons_of_mem _ (List.mem_cons_of_mem _ List.mem_cons_self)) rfl, rfl⟩
  ·exact ⟨SgK.litB (List.mem_cons_of_mem _ List.mem_cons_self) rfl, rfl⟩⟩
 refine ⟨trivial, ?_⟩
 refine x_call rfl rfl rfl rfl rfl en30 (fnewK_c (X := _ :: X) M hFz (by decide) fl0_ok fN_0) ?_
 rintro r_ wcall1 ⟨pu, cu, Lr, rfl, hF, M⟩
 rw [fN_1] at hF ⊢
 have M : Sep w00 ((bal1, .cells [.slice none 0 0, .slice none 0 0].toArray 36 (0, 0)) :: (X ++ Lr)) wcall1 := M
 refine ⟨trivial, ?_⟩
 refine go 1 ?_
 intro bal2 _ M
 refine x_st [_, _] _ rfl rfl rfl sz36 rfl rfl rfl rfl atM rfl rfl rfl ?_
 intro wst1 hwst1
 have M : Sep w00 ((bal2, .cells [.slice pu fN.length cu, .slice none 0 0].toArray 36 (0, 0)) :: (bal1, .cells [.slice none 0 0, .slice none 0 0].toArray 36 (0, 0)) :: (X ++ Lr)) wst1 := M.put 0 rfl hwst1
 refine ⟨trivial, ?_⟩
 refine go 1 ?_
 refine x_st [_, _] _ rfl rfl rfl sz36 rfl rfl rfl rfl atM rfl rfl rfl ?_
 intro wst2 hwst2
 have M : Sep w00 ((bal2, .cells [.slice pu fN.length cu, .slice none 0 0].toArray 36 (0, 0)) :: (bal1, .cells [.slice pu fN.length cu, .slice none 0 0].toArray 36 (0, 0)) :: (X ++ Lr)) wst2 := M.put 1 rfl hwst2
 refine ⟨trivial, ?_⟩
 refine go 1 ?_
 exact ⟨pu, cu, Lr, rfl, hF, M.tail.tail⟩

end Go.Proofs.Ytebfjdolgchgaaa

namespace Go.Fw
open Go Go.RowKit
set_option linter.unusedVariables false
set_option linter.unusedSimpArgs false

def OwX (L : List (Nat × Obj)) (v : Value) (m n : Nat) (cs : List Value) : Prop :=
 (v = .slice none 0 0 ∧ n = 0 ∧ cs = [] ∧ L = []) ∨
 ∃ b pre cap rest post T, v = .slice (some ⟨b, pre.length, none⟩) n cap ∧ L = [(b, .cells (pre ++ (cs ++ (rest ++ post))).toArray T (0, 0))] ∧ cs.length = n * m ∧ (cs ++ rest).length = cap * m
section
variable {P : Program} {S : Nat → Prop} {w0 w w1 : World} {L L' : List (Nat × Obj)} {v : Value} {m k n : Nat} {cs : List Value}
theorem OwX.nil : OwX [] (.slice none 0 0) m 0 [] := .inl ⟨rfl, rfl, rfl, rfl⟩
theorem OwX.shape (h : OwX L v m k cs) : ∃ p cap, v = .slice p k cap := by
 rcases h with ⟨rfl, rfl, _⟩ | ⟨b, pre, cap, rest, post, T, h1, _⟩
 ·exact ⟨none, 0, rfl⟩
 ·exact ⟨_, cap, h1⟩
theorem OwX.len (h : OwX L v m k cs) : cs.length = k * m := by
 rcases h with ⟨rfl, rfl, rfl, _⟩ | ⟨b, pre, cap, rest, post, T, h1, _, h2, _⟩
 ·simp
 ·exact h2
theorem OwX.sl (h : OwX L v m k cs) (hm : 0 < m) : SlL L v m k cs := by
 rcases h with ⟨h1, h2, h3, _⟩ | ⟨b, pre, cap, rest, post, T, h1, rfl, h3, h4⟩
 ·exact .inl ⟨h1, h2, h3⟩
 ·refine .inr ⟨b, pre.length, cap, _, T, (0, 0), h1, ?_, List.mem_singleton.2 rfl, by simp [← h3], h3⟩
  have : k * m ≤ cap * m := by rw [← h3, ← h4]; simp
  exact Nat.le_of_mul_le_mul_right this hm
theorem add_at (b off k : Nat) : (some (⟨b, off, none⟩ : Addr)).map (fun x => x.add k) = some ⟨b, off + k, none⟩ := by
 simp only [Option.map_some, Option.some.injEq]
 unfold Addr.add
 split
 ·rename_i h; subst h; rfl
 ·rfl
theorem OwX.tail {b off cap : Nat} {a : List Value} (h : OwX L (.slice (some ⟨b, off, none⟩) (n + 1) cap) m (n + 1) (a ++ cs)) (ha : a.length = m) (hm : 0 < m) : OwX L (.slice (if cap = 1 then some ⟨b, off, none⟩ else (some (⟨b, off, none⟩ : Addr)).map (fun x => x.add (1 * m))) n (cap - 1)) m n cs := by
 rw [add_at]
 rcases h with ⟨h1, _⟩ | ⟨b', pre, cap', rest, post, T, h1, rfl, h3, h4⟩
 ·cases h1
 ·cases h1
  rw [List.length_append, ha, Nat.add_mul] at h3
  by_cases hc : cap = 1
  ·subst hc
   simp only [List.length_append, ha] at h4
   have hcs : cs = [] := List.length_eq_zero_iff.1 (by omega)
   have hr : rest = [] := List.length_eq_zero_iff.1 (by omega)
   subst hcs; subst hr
   refine .inr ⟨b, pre, 0, [], a ++ post, T, by simp, by simp, ?_, by simp⟩
   simp only [List.length_nil] at h3 ⊢; omega
  ·rw [if_neg hc]
   refine .inr ⟨b, pre ++ a, cap - 1, rest, post, T, by rw [List.length_append, ha, Nat.one_mul], by simp only [List.append_assoc], by omega, ?_⟩
   simp only [List.length_append, ha] at h4 ⊢
   rw [Nat.sub_mul]; omega
end
theorem run_append_x {P : Program} {w : World} {v : Value} {m n t tx e bts k : Nat} {ty : TypeId} {z x : Value} {cs news : List Value} {L L0 : List (Nat × Obj)} {S : Nat → Prop} {w0 : World} (ht : P.underlying t = some (.slice e)) (hm : szOf P e = some m) (hz : zeroOf P e = some z) (hzm : z.cells.size = m) (hby : bytesOf' P e = some bts)
  (hv : OwX L v m n cs) (M : St S w0 (L ++ L0) w) (hcs : ∀ u ∈ cs, u.oneCell' = true) (hs : Src P m tx x k news w) (hfit : (n + k) * bts ≤ 70368744177664) (hb : bts ≤ 1048576) (h63 : n + k ≤ 9223372036854775807) :
  ∃ v' w' L', (Builtin.append_ #[t, tx] ty #[v, x]).run P w = .ok v' w' ∧ OwX L' v' m (n + k) (cs ++ news) ∧ St S w0 (L' ++ L0) w' := by
 obtain ⟨i, hi, hi1, hi2, hi3⟩ : ∃ i, P.info? e = some i ∧ i.size = m ∧ i.zero = some z ∧ i.bytes = bts := by
  unfold szOf at hm; unfold zeroOf at hz; unfold bytesOf' at hby
  cases h : P.info? e with
  | none => simp [h] at hm
  | some i => simp [h] at hm hz hby; exact ⟨i, rfl, hm, hz, hby⟩
 subst hi1 hi3
 have hlen : cs.length = n * i.size := hv.len
 have grow : ∀ (base : Option Addr) (sCap : Nat), v = .slice base n sCap → sCap < n + k → (Builtin.firstCells i.size n (.slice base n sCap)).run P w.drew = .ok cs.toArray w.drew →
   ∃ v' w' L', (Builtin.append_ #[t, tx] ty #[v, x]).run P w = .ok v' w' ∧ OwX L' v' i.size (n + k) (cs ++ news) ∧ St S w0 (L' ++ L0) w' := by
  intro base sCap hve hlt hold
  have hfit' : Builtin.nextslicecap (n + k) sCap * i.bytes ≤ 281474976710656 := by
   have h1 := nextslicecap_le hlt
   have h2 : Builtin.nextslicecap (n + k) sCap * i.bytes ≤ (2 * (n + k) + 1024) * i.bytes := Nat.mul_le_mul_right _ h1
   have h3 : (2 * (n + k) + 1024) * i.bytes = 2 * ((n + k) * i.bytes) + 1024 * i.bytes := by rw [Nat.add_mul, Nat.mul_assoc]
   omega
  have := run_append_grow_src (P := P) w t tx ty e i z ht hi hi2 base n sCap cs hold x k news hs hlt (by omega) hfit'
  have ML : St S w0 L0 w := M.dropL
  refine ⟨_, _, [(w.heap.size, .cells (([] : List Value) ++ ((cs ++ news) ++ ((Builtin.zeroCells z.cells (grownCap w (n + k) sCap e - (n + k))).toList ++ []))).toArray e (0, 0))], by rw [hve, this]; rfl, .inr ⟨w.heap.size, [], grownCap w (n + k) sCap e, (Builtin.zeroCells z.cells (grownCap w (n + k) sCap e - (n + k))).toList, [], e, rfl, rfl, ?_, ?_⟩, ?_⟩
  ·rw [List.length_append, hlen, hs.newsLen, Nat.add_mul]
  ·have hcap : n + k ≤ grownCap w (n + k) sCap e := by simp [grownCap, Question.cut]
   simp only [List.length_append, hlen, hs.newsLen, Builtin.zeroCells, Array.length_toList, Array.size_map, Array.size_range, hzm]
   rw [← Nat.add_mul, ← Nat.add_mul]
   congr 1
   omega
  ·refine (ML.drew rfl).acons (o := _) (b := w.heap.size) rfl ?_
   congr 2
   apply Array.ext'
   simp
 rcases hv with ⟨rfl, rfl, rfl, rfl⟩ | ⟨b, pre, cap, rest, post, T, rfl, rfl, h1, h2⟩
 ·by_cases hk : k = 0
  ·subst hk
   have hn0 : news = [] := by have := hs.newsLen; simpa using this
   subst hn0
   refine ⟨.slice none 0 0, w, [], ?_, .inl ⟨rfl, rfl, rfl, rfl⟩, M⟩
   rcases hs.kind with ⟨e', hkd⟩ | hkd <;> simp [Builtin.append_, run_underlying ht, run_underlying hkd, sizeOf, typeInfo, hi, hs.len, hs.cells]
  ·exact grow none 0 rfl (by omega) (by simp [Builtin.firstCells])
 ·have hbk : w.heap[b]? = some (.cells (pre ++ (cs ++ (rest ++ post))).toArray T (0, 0)) := M.at_ 0 rfl
  by_cases hroom : n + k ≤ cap
  ·have hl2 : (cs ++ rest).length = cs.length + rest.length := List.length_append
   have hnl := hs.newsLen
   have hle : n * i.size + k * i.size ≤ cap * i.size := by rw [← Nat.add_mul]; exact Nat.mul_le_mul_right _ hroom
   have hst := run_storeCells (P := P) (b := b) (T := T) (fr := (0, 0)) (pre.length + n * i.size) news 0 (pre ++ (cs ++ (rest ++ post))) w hbk (by simp only [Nat.add_zero, List.length_append]; simp only [List.length_append] at h2; omega) hs.one (by simp)
   simp only [Nat.add_zero] at hst
   have hcells : (pre ++ (cs ++ (rest ++ post))).take (pre.length + n * i.size) ++ news ++ (pre ++ (cs ++ (rest ++ post))).drop (pre.length + n * i.size + news.length) = pre ++ ((cs ++ news) ++ (rest.drop news.length ++ post)) := by
    rw [List.take_append, List.take_of_length_le (Nat.le_add_right _ _), List.drop_append, List.drop_of_length_le (by omega), List.nil_append, Nat.add_sub_cancel_left, ← h1, List.take_left' rfl]
    rw [show pre.length + cs.length + news.length - pre.length = cs.length + news.length by omega, List.drop_append, List.drop_of_length_le (by omega), List.nil_append, Nat.add_sub_cancel_left]
    rw [List.drop_append_of_le_length (by simp only [List.length_append] at h2; omega)]
    simp only [List.append_assoc]
   rw [hcells] at hst
   refine ⟨.slice (some ⟨b, pre.length, none⟩) (n + k) cap, w.putObj b (.cells (pre ++ ((cs ++ news) ++ (rest.drop news.length ++ post))).toArray T (0, 0)), [(b, .cells (pre ++ ((cs ++ news) ++ (rest.drop news.length ++ post))).toArray T (0, 0))], ?_, .inr ⟨b, pre, cap, rest.drop news.length, post, T, rfl, rfl, ?_, ?_⟩, ?_⟩
   ·rcases hs.kind with ⟨e', hkd⟩ | hkd <;> simp [Builtin.append_, run_underlying ht, run_underlying hkd, sizeOf, typeInfo, hi, hs.len, hroom, hs.cells, Addr.add_lit, hst]
   ·rw [List.length_append, h1, hnl, Nat.add_mul]
   ·simp only [List.length_append, List.length_drop, h1, hnl] at h2 ⊢
    omega
   ·exact M.put 0 (b := b) rfl rfl
  ·refine grow (some ⟨b, pre.length, none⟩) cap rfl (by omega) ?_
   refine run_firstCells_some w.drew i.size n ⟨b, pre.length, none⟩ n cap cs h1 (fun j u hu => ?_)
   have ea : (⟨b, pre.length, none⟩ : Addr).add j = ⟨b, pre.length + j, none⟩ := by
    unfold Addr.add; split
    ·rename_i hj; subst hj; rfl
    ·rfl
   rw [ea]
   exact cell_of (w := w.drew) hbk (by rw [List.getElem?_append_right (by omega), Nat.add_sub_cancel_left, List.getElem?_append_left (by simpa using (List.getElem?_eq_some_iff.1 hu).1)]; simpa using hu)
section
variable {P : Program} {n : Nat} {ops : Array Oper} {B : Array Nat} {dr : Bool} {K : KT} {s : List (Nat × Bool)} {F : Env} {ds : List Deferred} {T : List (Nat × (World → Prop))} {w : World} {i : Nat}
theorem x_apX {d : Option Tmp} {ty : TypeId} {ps : String} {af : Array Edge} {gd : Option (Nat × Bool)} {x y : Operand} {t tx e m bts k nn : Nat} {z0 xv sv : Value} {cs news : List Value} {at0 : Array TypeId} {S : Nat → Prop} {w0 : World} {L L0 : List (Nat × Obj)} (ho : ops[i]? = some ⟨d, .call ⟨.builtin .append, #[x, y], at0⟩, ty, ps, af, gd⟩) (hg : guardV ops F gd = some true) (hd : dstOK n d = true)
  (hat : at0 = #[t, tx]) (ht : P.underlying t = some (.slice e)) (hm : szOf P e = some m) (hz : zeroOf P e = some z0) (hzm : z0.cells.size = m) (hby : bytesOf' P e = some bts)
  (hx : ev? F x = some sv) (hy : ev? F y = some xv) (hv : OwX L sv m nn cs) (M : St S w0 (L ++ L0) w) (hcs : ∀ u ∈ cs, u.oneCell' = true) (hs : Src P m tx xv k news w) (hfit : (nn + k) * bts ≤ 70368744177664) (hb : bts ≤ 1048576) (h63 : nn + k ≤ 9223372036854775807)
  (h : ∀ L' v' w1, OwX L' v' m (nn + k) (cs ++ news) → St S w0 (L' ++ L0) w1 → pend B i T w1 ∧ Ex P n ops B dr K s (putE F d v') ds T w1) : Ex P n ops B dr K ((i, true) :: s) F ds T w := by
 obtain ⟨v', w', L', h1, h2, h3⟩ := run_append_x (ty := ty) ht hm hz hzm hby hv M hcs hs hfit hb h63
 obtain ⟨g1, g2⟩ := h L' v' w' h2 h3
 refine x_mv ho hg hd (v := v') (w1 := w') (fun at_ hk => ?_) g1 g2
 subst hat
 simp only [execOp, resolve, List.map_toArray, List.map_cons, List.map_nil, hk.eval hx, hk.eval hy, Sem.run_bind, Sem.run_pure, Result.andThen_ok, invoke, builtin, h1]
theorem x_clr {d : Option Tmp} {ty : TypeId} {ps : String} {af : Array Edge} {gd : Option (Nat × Bool)} {x : Operand} {t e m len cap b off Tb : Nat} {z : Value} {cs : List Value} {at0 : Array TypeId} (ho : ops[i]? = some ⟨d, .call ⟨.builtin .clear, #[x], at0⟩, ty, ps, af, gd⟩) (hg : guardV ops F gd = some true) (hd : dstOK n d = true)
  (hat : at0 = #[t]) (ht : P.underlying t = some (.slice e)) (hz : zeroOf P e = some z) (hzm : z.cells.size = m) (hm : 0 < m) (hz1 : z.cells.toList.all Value.oneCell' = true) (hx : ev? F x = some (.slice (some ⟨b, off, none⟩) len cap)) (hb : w.heap[b]? = some (.cells cs.toArray Tb (0, 0))) (h0 : 0 < len) (hle : off + len * m ≤ cs.length)
  (h : ∀ zs w1, zs.length = len * m → w1 = w.putObj b (.cells (cs.take off ++ zs ++ cs.drop (off + len * m)).toArray Tb (0, 0)) → pend B i T w1 ∧ Ex P n ops B dr K s (putE F d (.tuple #[])) ds T w1) : Ex P n ops B dr K ((i, true) :: s) F ds T w := by
 have hl : (Builtin.zeroCells z.cells len).toList.length = len * m := by
  simp only [Builtin.zeroCells, Array.length_toList, Array.size_map, Array.size_range, hzm]
 have h1 : ∀ u ∈ (Builtin.zeroCells z.cells len).toList, u.oneCell' = true := by
  intro u hu
  simp only [Builtin.zeroCells, Array.toList_map, List.mem_map] at hu
  obtain ⟨j, _, rfl⟩ := hu
  rw [List.all_eq_true] at hz1
  have hj : j % z.cells.size < z.cells.size := Nat.mod_lt _ (by omega)
  rw [getElem!_pos z.cells _ hj]
  exact hz1 _ (by simp)
 have hst := run_storeCells (P := P) (b := b) (T := Tb) (fr := (0, 0)) off (Builtin.zeroCells z.cells len).toList 0 cs w hb (by rw [hl]; omega) h1 (by simp)
 simp only [Nat.add_zero, hl] at hst
 obtain ⟨g1, g2⟩ := h _ _ hl rfl
 refine x_mv ho hg hd (v := .tuple #[]) (fun at_ hk => ?_) g1 g2
 subst hat
 obtain ⟨l2, rfl⟩ : ∃ l2, len = l2 + 1 := ⟨len - 1, by omega⟩
 simp only [execOp, resolve, List.map_toArray, List.map_cons, List.map_nil, hk.eval hx, Sem.run_bind, Sem.run_pure, Result.andThen_ok, invoke, builtin]
 simp [Builtin.clear_, run_underlying ht, run_zero' hz, hst]
end
end Go.Fw

namespace Go.Proofs.Ytebfjdolgchgaaa
open Go Go.Fw Go.RowKit
set_option linter.unusedVariables false
set_option linter.unusedSimpArgs false

def qR (a : Qa) : List Value := [.int .i64 a.1, .bool a.2]
def qCs (q : List Qa) : List Value := q.flatMap qR
theorem qCs_len (q : List Qa) : (qCs q).length = q.length * 2 := flat_len (e1 := qR) (fun _ _ => rfl)
theorem qCs_one (q : List Qa) : ∀ u ∈ qCs q, u.oneCell' = true := by
 intro u hu
 obtain ⟨x, _, hu⟩ := List.mem_flatMap.1 hu
 unfold qR at hu
 simp only [List.mem_cons, List.not_mem_nil, or_false] at hu
 rcases hu with rfl | rfl <;> rfl
theorem qCs_app (a b : List Qa) : qCs (a ++ b) = qCs a ++ qCs b := List.flatMap_append
theorem qRow {w : World} {b off cap n : Nat} {q : List Qa} {a : Qa} {j : Nat} (h : Sl w (.slice (some ⟨b, off, none⟩) n cap) 2 n (qCs q)) (hj : q[j]? = some a) : RowAt w b (off + j * 2) (qR a) :=
 h.row (j := j) (l := qR a) rfl (flat_drop (m := 2) (e1 := qR) (by decide) (fun _ _ => rfl) hj) (by simp [qR])
theorem qCs_set {cur : List Qa} {i : Nat} {x : Qa} {rest : List Value} (hi : i < cur.length) : (qCs cur ++ rest).take (0 + i * 2) ++ qR x ++ (qCs cur ++ rest).drop (0 + i * 2 + 2) = qCs (cur.set i x) ++ rest := by
 have e : cur = cur.take i ++ cur[i] :: cur.drop (i + 1) := by rw [← List.drop_eq_getElem_cons hi, List.take_append_drop]
 have hl : (cur.take i).length = i := by rw [List.length_take]; omega
 generalize cur[i] = y at e
 generalize cur.drop (i + 1) = B at e
 generalize cur.take i = A at e hl
 subst e
 have h1 : (qCs A).length = i * 2 := by rw [qCs_len, hl]
 have h2 : qCs (A ++ y :: B) = qCs A ++ (qR y ++ qCs B) := by rw [qCs_app]; rfl
 have h3 : (A ++ y :: B).set i x = A ++ x :: B := by rw [List.set_append_right _ _ (by omega), hl, Nat.sub_self]; rfl
 have h4 : qCs (A ++ x :: B) = qCs A ++ (qR x ++ qCs B) := by rw [qCs_app]; rfl
 rw [h2, h3, h4, Nat.zero_add, List.append_assoc, List.append_assoc, List.take_append_of_le_length (by omega), List.take_of_length_le (by omega), List.drop_append, List.drop_of_length_le (by omega), h1, List.nil_append, show i * 2 + 2 - i * 2 = 2 by omega, List.append_assoc (qR y), List.drop_append_of_le_length (by simp [qR])]
 simp [qR]
theorem qCs_take (cur : List Qa) (i : Nat) : (qCs cur).take (i * 2) = qCs (cur.take i) := by
 induction cur generalizing i with
 | nil => simp [qCs]
 | cons a r ih =>
  cases i with
  | zero => simp [qCs]
  | succ i =>
   have h1 : qCs (a :: r) = qR a ++ qCs r := rfl
   have h2 : qCs ((a :: r).take (i + 1)) = qR a ++ qCs (r.take i) := rfl
   rw [h1, h2, ← ih, show (i + 1) * 2 = 2 + i * 2 by omega, List.take_append, show (qR a).length = 2 from rfl, show 2 + i * 2 - 2 = i * 2 by omega, List.take_of_length_le (by simp [qR])]
theorem Sl.blk' {w : World} {v : Value} {m n : Nat} {cs : List Value} (h : Sl w v m n cs) (hn : 0 < n) : ∃ b off cap, v = .slice (some ⟨b, off, none⟩) n cap := by
 rcases h with ⟨_, h, _⟩ | ⟨b, off, cap, _, _, _, h, _⟩
 ·omega
 ·exact ⟨b, off, cap, h⟩

structure Lk where
 key : List UInt8
 b : Nat
 hv : Value
 hD : List (Nat × Obj)
 wv : Value
 wD : List (Nat × Obj)
def Lk.hd (x : Lk) : Nat × Obj := (x.b, .cells [x.hv, x.wv].toArray 140 (0, 0))
def Lk.blks (x : Lk) : List (Nat × Obj) := x.hd :: (x.hD ++ x.wD)
structure Lk.OK (x : Lk) (q : List Qa × List Qa) : Prop where
 h : OwL x.hD x.hv 2 q.1.length (qCs q.1)
 w : OwX x.wD x.wv 2 q.2.length (qCs q.2)
structure LkS where
 bl : Nat
 bm : Nat
 om : Obj
 K : List Lk
def lkK (K : List Lk) : List (Nat × Obj) := K.flatMap Lk.blks
def lkB (s : LkS) : List (Nat × Obj) := (s.bl, .cells [.map (some s.bm)].toArray 107 (0, 0)) :: (s.bm, s.om) :: lkK s.K
def lget (K : List Lk) (key : List UInt8) : Option Lk := K.find? fun x => decide (x.key = key)
def lmap (K : List Lk) : List UInt8 → Option Value := fun key => (lget K key).map fun x => ptr x.b
structure LR (s : LkS) (Q : QM) : Prop where
 mp : MapF strV s.om (lmap s.K)
 nd : (s.K.map (·.key)).Nodup
 ok : ∀ x ∈ s.K, x.OK (Q x.key)
 no : ∀ key, lget s.K key = none → Q key = ([], [])
section
variable {s : LkS} {Q : QM} {K : List Lk} {x x' : Lk} {key : List UInt8} {q : List Qa × List Qa} {o : Obj}
theorem lkK_app (a b : List Lk) : lkK (a ++ b) = lkK a ++ lkK b := List.flatMap_append
theorem lkK_cons (x : Lk) (b : List Lk) : lkK (x :: b) = x.blks ++ lkK b := List.flatMap_cons
theorem lget_some (h : lget K key = some x) : x ∈ K ∧ x.key = key := ⟨List.mem_of_find?_eq_some h, by have := List.find?_some h; simpa using this⟩
theorem lget_at : ∀ {A B : List Lk}, ((A ++ x :: B).map (·.key)).Nodup → ∀ k, lget (A ++ x :: B) k = if x.key = k then some x else lget (A ++ B) k
 | [], B, hn, k => by unfold lget; rw [List.nil_append, List.nil_append, List.find?_cons]; by_cases h : x.key = k <;> simp [h]
 | a :: A, B, hn, k => by
  simp only [List.cons_append, List.map_cons, List.nodup_cons] at hn
  have ih := lget_at (A := A) (B := B) hn.2 k
  unfold lget at ih ⊢
  rw [List.cons_append, List.cons_append, List.find?_cons, List.find?_cons, ih]
  by_cases h : a.key = k
  ·have : ¬ x.key = k := fun e => hn.1 (by rw [h, ← e]; simp)
   simp [h, this]
  ·simp [h]
theorem lmap_set {A B : List Lk} (hn : ((A ++ x :: B).map (·.key)).Nodup) (hk : x'.key = x.key) (hb : x'.b = x.b) : lmap (A ++ x' :: B) = lmap (A ++ x :: B) := by
 funext k
 unfold lmap
 have hn' : ((A ++ x' :: B).map (·.key)).Nodup := by
  simp only [List.map_append, List.map_cons] at hn ⊢; rw [hk]; exact hn
 rw [lget_at hn, lget_at hn', hk]
 split
 ·simp [hb]
 ·rfl
theorem LR.take (h : LR s Q) (hx : lget s.K key = some x) : ∃ R : List (Nat × Obj), (lkB s).Perm (x.blks ++ ((s.bl, .cells [.map (some s.bm)].toArray 107 (0, 0)) :: (s.bm, s.om) :: R)) ∧ x.key = key ∧ x.OK (Q key) ∧
  (∀ (x' : Lk) (q : List Qa × List Qa), x'.key = key → x'.b = x.b → x'.OK q → ∃ s', s'.bl = s.bl ∧ LR s' (setQ Q key q) ∧ (x'.blks ++ ((s.bl, .cells [.map (some s.bm)].toArray 107 (0, 0)) :: (s.bm, s.om) :: R)).Perm (lkB s')) ∧
  (∀ o, MapF strV o (setF (lmap s.K) key none) → ∃ s', s'.bl = s.bl ∧ LR s' (setQ Q key ([], [])) ∧ ((s.bl, .cells [.map (some s.bm)].toArray 107 (0, 0)) :: (s.bm, o) :: R).Perm (lkB s')) := by
 obtain ⟨hm, hk⟩ := lget_some hx
 obtain ⟨A, B, hAB⟩ := List.append_of_mem hm
 have hn : ((A ++ x :: B).map (·.key)).Nodup := by rw [← hAB]; exact h.nd
 have hout : ∀ y ∈ A ++ B, y.key ≠ key := fun y hy e => by
  simp only [List.map_append, List.map_cons] at hn
  rw [List.nodup_append] at hn
  obtain ⟨_, n2, n3⟩ := hn
  rw [List.nodup_cons] at n2
  rcases List.mem_append.1 hy with hy | hy
  ·exact n3 _ (List.mem_map.2 ⟨y, hy, rfl⟩) x.key (by simp) (e.trans hk.symm)
  ·exact n2.1 (by rw [hk, ← e]; exact List.mem_map.2 ⟨y, hy, rfl⟩)
 refine ⟨lkK (A ++ B), ?_, hk, by rw [← hk]; exact h.ok x hm, fun x' q h1 h2 h3 => ?_, fun o ho => ?_⟩
 ·unfold lkB; rw [hAB, lkK_app, lkK_cons, lkK_app]
  exact perm_c fun p => by simp only [List.countP_append, List.countP_cons]; omega
 ·have hn' : ((A ++ x' :: B).map (·.key)).Nodup := by
   simp only [List.map_append, List.map_cons] at hn ⊢; rw [h1, ← hk]; exact hn
  refine ⟨⟨s.bl, s.bm, s.om, A ++ x' :: B⟩, rfl, ⟨?_, hn', fun y hy => ?_, fun k hk' => ?_⟩, ?_⟩
  ·have := h.mp
   rw [hAB] at this
   rw [lmap_set hn (h1.trans hk.symm) h2]; exact this
  ·rcases List.mem_append.1 hy with hy | hy
   ·unfold setQ; rw [if_neg (hout y (List.mem_append_left _ hy))]; exact h.ok y (by rw [hAB]; simp [hy])
   ·rcases List.mem_cons.1 hy with rfl | hy
    ·unfold setQ; rw [if_pos h1]; exact h3
    ·unfold setQ; rw [if_neg (hout y (List.mem_append_right _ hy))]; exact h.ok y (by rw [hAB]; simp [hy])
  ·rw [lget_at hn'] at hk'
   split at hk'
   ·cases hk'
   ·rename_i e
    unfold setQ
    rw [if_neg (fun e2 => e (h1.trans e2.symm))]
    refine h.no k ?_
    rw [hAB, lget_at hn, if_neg (fun e2 => e (h1.trans (hk.symm.trans e2)))]
    exact hk'
  ·unfold lkB; simp only [lkK_app, lkK_cons]
   exact perm_c fun p => by simp only [List.countP_append, List.countP_cons]; omega
 ·have hn2 : ((A ++ B).map (·.key)).Nodup := by
   refine List.Nodup.sublist ?_ hn
   exact ((List.Sublist.refl A).append (List.sublist_cons_self x B)).map _
  refine ⟨⟨s.bl, s.bm, o, A ++ B⟩, rfl, ⟨?_, hn2, fun y hy => ?_, fun k hk' => ?_⟩, ?_⟩
  ·have e : lmap (A ++ B) = setF (lmap s.K) key none := by
    funext k
    rw [hAB]
    show (lget (A ++ B) k).map (fun x => ptr x.b) = if k = key then none else (lget (A ++ x :: B) k).map (fun x => ptr x.b)
    rw [lget_at hn]
    by_cases e : key = k
    ·subst e
     rw [if_pos rfl]
     have : lget (A ++ B) key = none := by
      unfold lget; rw [List.find?_eq_none]; intro y hy; simpa using hout y hy
     rw [this]; rfl
    ·rw [if_neg (fun e2 => e e2.symm), if_neg (fun e2 => e (hk.symm.trans e2))]
   rw [e]; exact ho
  ·unfold setQ; rw [if_neg (hout y hy)]; exact h.ok y (by rw [hAB]; rcases List.mem_append.1 hy with h | h <;> simp [h])
  ·unfold setQ
   by_cases e : k = key
   ·rw [if_pos e]
   ·rw [if_neg e]
    refine h.no k ?_
    rw [hAB, lget_at hn, if_neg (fun e2 => e (e2.symm.trans hk))]
    exact hk'
  ·unfold lkB; simp only [lkK_app]
   exact List.Perm.refl _
theorem lk_in {y : Nat × Obj} {R : List (Nat × Obj)} (hy : y ∈ x.blks) : y ∈ x.hd :: (x.hD ++ (x.wD ++ R)) := by
 unfold Lk.blks at hy
 simp only [List.mem_cons, List.mem_append] at hy ⊢
 rcases hy with h | h | h
 ·exact .inl h
 ·exact .inr (.inl h)
 ·exact .inr (.inr (.inl h))
theorem lk_out {w00 w : World} (x : Lk) {TL X Y : List (Nat × Obj)} (M : Sep w00 (x.hd :: (x.hD ++ (x.wD ++ (TL ++ X)))) w) (hp : (x.blks ++ TL).Perm Y) : Sep w00 (Y ++ X) w := by
 refine M.perm (List.Perm.trans ?_ (hp.append_right X))
 unfold Lk.blks
 simp only [List.append_assoc, List.cons_append]
 exact List.Perm.refl _
theorem lk_bl {w00 w : World} {X : List (Nat × Obj)} (M : Sep w00 X w) (hs : ∀ y ∈ lkB s, y ∈ X) : w.heap[s.bl]? = some (.cells [.map (some s.bm)].toArray 107 (0, 0)) := M.get (hs _ List.mem_cons_self)
theorem lk_om {w00 w : World} {X : List (Nat × Obj)} (M : Sep w00 X w) (hs : ∀ y ∈ lkB s, y ∈ X) : w.heap[s.bm]? = some s.om := M.get (hs _ (List.mem_cons_of_mem _ List.mem_cons_self))
theorem setQ_id (Q : QM) (key : List UInt8) : setQ Q key (Q key) = Q := by
 funext k; unfold setQ; split
 ·rename_i h; rw [h]
 ·rfl
def zInts (l : List Int) : List Value := l.map fun z => .int .i64 z
theorem zInts_one (l : List Int) : ∀ u ∈ zInts l, u.oneCell' = true := by
 intro u hu; obtain ⟨x, _, rfl⟩ := List.mem_map.1 hu; rfl
theorem LR.add (h : LR s Q) (hx : lget s.K key = none) {b : Nat} (ho : MapF strV o (setF (lmap s.K) key (some (ptr b)))) : ∃ s' x, s'.bl = s.bl ∧ LR s' Q ∧ lget s'.K key = some x ∧ x.b = b ∧ ((b, Obj.cells [Value.slice none 0 0, .slice none 0 0].toArray 140 (0, 0)) :: ((s.bl, .cells [.map (some s.bm)].toArray 107 (0, 0)) :: (s.bm, o) :: lkK s.K)).Perm (lkB s') := by
 have hout : ∀ y ∈ s.K, y.key ≠ key := fun y hy e => by
  unfold lget at hx; rw [List.find?_eq_none] at hx; exact hx y hy (by simp [e])
 have hg : ∀ k, lget (⟨key, b, .slice none 0 0, [], .slice none 0 0, []⟩ :: s.K) k = if key = k then some ⟨key, b, .slice none 0 0, [], .slice none 0 0, []⟩ else lget s.K k := fun k => by
  unfold lget; rw [List.find?_cons]; by_cases h : key = k <;> simp [h]
 refine ⟨⟨s.bl, s.bm, o, ⟨key, b, .slice none 0 0, [], .slice none 0 0, []⟩ :: s.K⟩, ⟨key, b, .slice none 0 0, [], .slice none 0 0, []⟩, rfl, ⟨?_, ?_, fun y hy => ?_, fun k hk => ?_⟩, by rw [hg, if_pos rfl], rfl, ?_⟩
 ·have e : lmap (⟨key, b, .slice none 0 0, [], .slice none 0 0, []⟩ :: s.K) = setF (lmap s.K) key (some (ptr b)) := by
   funext k
   show (lget _ k).map (fun x => ptr x.b) = if k = key then some (ptr b) else (lget s.K k).map (fun x => ptr x.b)
   rw [hg]
   by_cases e : key = k
   ·subst e; rw [if_pos rfl, if_pos rfl]; rfl
   ·rw [if_neg e, if_neg (fun e2 => e e2.symm)]
  rw [e]; exact ho
 ·simp only [List.map_cons, List.nodup_cons]
  exact ⟨fun hm => by obtain ⟨y, hy, e⟩ := List.mem_map.1 hm; exact hout y hy e, h.nd⟩
 ·rcases List.mem_cons.1 hy with rfl | hy
  ·simp only; rw [h.no key hx]; exact ⟨OwL.nil, OwX.nil⟩
  ·exact h.ok y hy
 ·rw [hg] at hk
  split at hk
  ·cases hk
  ·exact h.no k hk
 ·unfold lkB; simp only [lkK_cons, Lk.blks, Lk.hd, List.append_nil]
  exact perm_c fun p => by simp only [List.countP_append, List.countP_cons, List.countP_nil]; omega
end
end Go.Proofs.Ytebfjdolgchgaaa

namespace Go.Proofs.Ytebfjdolgchgaaa
open Go Go.Fw Go.RowKit Go.Proofs
set_option linter.unusedVariables false
set_option linter.unusedSimpArgs false
set_option maxRecDepth 100000
set_option maxHeartbeats 4000000

-- valise/locks.New
theorem lnew_c {w0 : World} : Ret Try.prog 27 #[] w0 fun r w' => ∃ s : LkS, r = ptr s.bl ∧ LR s noQ ∧ Sep w0 (lkB s) w' := by
 have M : Sep w0 [] w0 := St.nil w0
 refine Ret.of_W Try.func27 rfl Try.ntmps27 rfl ?_
 refine go 0 ?_
 refine x_mkmap rfl rfl rfl ?_
 intro bmm1 wmm1 hbmm1 hwmm1
 have M := M.acons hbmm1 hwmm1
 refine ⟨trivial, ?_⟩
 refine go 2 ?_
 intro bbx1 _ M
 refine go 1 ?_
 exact ⟨⟨bbx1, bmm1, .map #[] 0, []⟩, rfl, ⟨MapF.made, by simp, fun x hx => (by cases hx), fun _ _ => rfl⟩, M⟩

-- valise/locks.client
theorem lclient_c {w0 : World} {who : Int} (h0 : 0 ≤ who) (h8 : who < 8) : Ret Try.prog 64 #[.int .i64 who] w0 fun r w' => r = .bool true ∧ w0 = w' := by
 refine Ret.of_W Try.func64 rfl Try.ntmps64 rfl ?_
 refine go 0 ?_
 refine x_geq true rfl rfl rfl rfl rfl (decide_eq_true h0) ?_
 refine go 0 ?_
 refine x_lss true rfl rfl rfl rfl rfl (decide_eq_true h8) ?_
 refine go 1 ?_
 exact ⟨rfl, rfl⟩

-- (*valise/locks.Locks).Ask$1
theorem askis_c {w0 : World} {a : Qa} {bw Tb : Nat} {fr : Nat × Nat} {who : Int} (hw : w0.heap[bw]? = some (.cells [.int .i64 who].toArray Tb fr)) : Ret Try.prog 65 #[.agg #[.int .i64 a.1, .bool a.2], ptr bw] w0 fun r w' => r = .bool (decide (a.1 = who)) ∧ New w0 w' := by
 have M : Sep w0 [] w0 := St.nil w0
 refine Ret.of_W Try.func65 rfl Try.ntmps65 rfl ?_
 refine go 1 ?_
 intro _ _ M
 refine go 1 ?_
 refine x_ld rfl rfl rfl Try.underlying3 rfl rfl (cell_of (New.keep M.frm hw) rfl) ?_
 refine go 2 ?_
 exact ⟨rfl, M.frm⟩

-- (*valise/locks.Locks).Free$1
theorem freeis_c {w0 : World} {a : Qa} {bw Tb : Nat} {fr : Nat × Nat} {who : Int} (hw : w0.heap[bw]? = some (.cells [.int .i64 who].toArray Tb fr)) : Ret Try.prog 94 #[.agg #[.int .i64 a.1, .bool a.2], ptr bw] w0 fun r w' => r = .bool (decide (a.1 = who)) ∧ New w0 w' := by
 have M : Sep w0 [] w0 := St.nil w0
 refine Ret.of_W Try.func94 rfl Try.ntmps94 rfl ?_
 refine go 1 ?_
 intro _ _ M
 refine go 1 ?_
 refine x_ld rfl rfl rfl Try.underlying3 rfl rfl (cell_of (New.keep M.frm hw) rfl) ?_
 refine go 2 ?_
 exact ⟨rfl, M.frm⟩

-- (*valise/locks.lock).may
theorem lmay_c {w00 w0 : World} {x : Lk} {q : List Qa × List Qa} {wr : Bool} {X : List (Nat × Obj)} (M : Sep w00 X w0) (hx : x.OK q) (hs : ∀ y ∈ x.blks, y ∈ X) : Ret Try.prog 67 #[ptr x.b, .bool wr] w0 fun r w' => r = .bool (mayQ q.1 wr) ∧ w0 = w' := by
 have hhd : w0.heap[x.b]? = some (.cells [x.hv, x.wv].toArray 140 (0, 0)) := M.get (hs x.hd (by simp [Lk.blks]))
 obtain ⟨p, cap, hsh⟩ := hx.h.shape
 have hsl := (hx.h.sl (by decide)).at_ M (fun y hy => hs y (by simp [Lk.blks, hy]))
 rw [hsh] at hhd hsl
 refine Ret.of_W Try.func67 rfl Try.ntmps67 rfl ?_
 refine go 0 ?_
 refine x_ld rfl rfl rfl Try.underlying136 rfl rfl (cell_of hhd rfl) ?_
 refine spl 2 12 ?_ ?_
 ·intro hsp1
  have hq0 : q.1 = [] := List.length_eq_zero_iff.1 (by omega)
  refine go 1 ?_
  exact ⟨by unfold mayQ; rw [hq0]; rfl, rfl⟩
 ·intro hsp1
  have hq0 : 0 < q.1.length := by omega
  obtain ⟨a, ha⟩ := get_lt (l := q.1) (q := 0) hq0
  obtain ⟨bb, off, cap2, e2⟩ := Sl.blk' hsl hq0
  cases e2
  have hrow := qRow hsl ha
  have hmay : mayQ q.1 wr = (!wr && !a.2) := by
   cases e : q.1 with
   | nil => rw [e] at hq0; simp at hq0
   | cons b r => rw [e] at ha; simp at ha; subst ha; rfl
  refine spl 1 15 ?_ ?_
  ·intro hsp2
   refine go 0 ?_
   refine x_ld rfl rfl rfl Try.underlying136 rfl rfl (cell_of hhd rfl) ?_
   refine x_ia 0 rfl rfl rfl Try.underlying136 sz142 rfl rfl rfl hq0 ?_
   refine go 0 ?_
   refine x_ld rfl rfl rfl Try.underlying4 rfl rfl (RowAt.cell hrow (j := 1) rfl) ?_
   refine go 2 ?_
   exact ⟨by rw [hmay]; simp [hsp2], rfl⟩
  ·intro hsp2
   refine go 1 ?_
   exact ⟨by rw [hmay]; simp [hsp2], rfl⟩

-- (*valise/locks.queue[valise/locks.asked]).all
theorem qall_c {w0 : World} {b o : Nat} : Ret Try.prog 85 #[.pointer (some ⟨b, o, none⟩)] w0 fun r w' => ∃ bb, r = .func (.func 89) #[] #[ptr bb] ∧ Sep w0 [(bb, .cells [.pointer (some ⟨b, o, none⟩)].toArray 160 (0, 0))] w' := by
 have M : Sep w0 [] w0 := St.nil w0
 refine Ret.of_W Try.func85 rfl Try.ntmps85 rfl ?_
 refine go 1 ?_
 intro bbx1 _ M
 refine go 2 ?_
 exact ⟨bbx1, rfl, M⟩

-- (*valise/locks.queue[valise/locks.asked]).all$1
theorem qall_it {w0 : World} {bb l0 bq oq : Nat} {v : Value} {q : List Qa} {I : List Qa → World → Prop} {X : World → Prop} (hlen : q.length ≤ 1000)
  (hn : ∀ rest w w', I rest w → New w w' → I rest w')
  (hb : ∀ rest w, I rest w → w.cell? ⟨bb, 0, none⟩ = some (.pointer (some ⟨bq, oq, none⟩)) ∧ w.cell? ⟨bq, oq, none⟩ = some v ∧ Sl w v 2 q.length (qCs q))
  (hY : ∀ a rest w, I (a :: rest) w → Yld Try.prog l0 [.agg #[.int .i64 a.1, .bool a.2]] w fun v w' => ∃ b : Bool, v = .bool b ∧ (b = true → I rest w') ∧ (b = false → X w'))
  (h0 : I q w0) : Ret Try.prog 89 #[.func (.yield l0) #[] #[], ptr bb] w0 fun r w' => r = .tuple #[] ∧ (I [] w' ∨ X w') := by
 obtain ⟨p, cap, rfl⟩ := (hb _ _ h0).2.2.shape
 have hI := h0
 refine Ret.of_W Try.func89 rfl Try.ntmps89 rfl ?_
 refine go 0 ?_
 refine x_ld rfl rfl rfl Try.underlying160 rfl rfl (hb _ _ hI).1 ?_
 refine go 0 ?_
 refine x_ld rfl rfl rfl Try.underlying136 rfl rfl (by have := (hb _ _ hI).2.1; simpa using this) ?_
 refine go 1 ?_
 refine W.loop (σ := Nat) (fun j => [(0, _), (8, _), (9, _), (10, .int .i64 ((j : Nat) : Int))]) (fun j w => j ≤ q.length ∧ I (q.drop j) w) (fun j => q.length - j) 0 ⟨rfl, rfl, rfl, rfl, trivial⟩ ⟨Nat.zero_le _, hI⟩ ?_
 rintro j w ⟨hj, hJ⟩
 refine cnd 1 ?_ ?_
 ·intro hco1
  obtain ⟨a, ha⟩ := get_lt (l := q) (q := j) (by omega)
  obtain ⟨b, off, cap2, e2⟩ := Sl.blk' (hb _ _ hJ).2.2 (by omega)
  cases e2
  have hdr : q.drop j = a :: q.drop (j + 1) := by
   obtain ⟨h1, rfl⟩ := List.getElem?_eq_some_iff.1 ha
   exact List.drop_eq_getElem_cons h1
  rw [hdr] at hJ
  have hrow := qRow (hb _ _ hJ).2.2 ha
  have M : Sep w [] w := St.nil w
  refine go 0 ?_
  refine x_ia j rfl rfl rfl Try.underlying136 sz142 rfl rfl rfl (by omega) ?_
  refine x_ldA [_, _] rfl rfl rfl Try.underlying142 rfl sz142 rfl rfl hrow ?_
  refine go 1 ?_
  intro _ _ M
  refine go 1 ?_
  intro _ M
  refine go 1 ?_
  have hJ2 := hn _ _ _ hJ M.frm
  refine x_yld rfl rfl rfl rfl rfl (hY _ _ _ hJ2) ?_
  rintro v w3 ⟨bb2, rfl, hb1, hb2⟩
  refine ⟨trivial, ?_⟩
  refine cnd 1 ?_ ?_
  ·intro hco2
   refine go 1 ?_
   exact ⟨rfl, .inr (hb2 hco2)⟩
  ·intro hco2
   refine go 0 ?_
   refine x_add _ rfl rfl rfl rfl rfl (wadd (by omega) (by omega)) ?_
   refine go 0 ?_
   exact At.back (j + 1) ⟨rfl, rfl, rfl, rfl, trivial⟩ ⟨by omega, hb1 hco2⟩ (by first | omega | (simp only; omega) | (simp; done) | (simp; omega))
 ·intro hco1
  refine go 1 ?_
  have hj2 : q.drop j = [] := List.drop_eq_nil_of_le (by omega)
  rw [hj2] at hJ
  exact ⟨rfl, .inl hJ⟩

end Go.Proofs.Ytebfjdolgchgaaa

namespace Go.Proofs.Ytebfjdolgchgaaa
open Go Go.Fw Go.RowKit Go.Proofs
set_option linter.unusedVariables false
set_option linter.unusedSimpArgs false
set_option maxRecDepth 100000
set_option maxHeartbeats 4000000

-- (*valise/locks.queue[valise/locks.asked]).has
theorem qhas_c {w0 : World} {bq oq g : Nat} {cp : Array Value} {v : Value} {q : List Qa} {f : Qa → Bool} (hent : entered Try.prog g = true) (hlen : q.length ≤ 1000) (hc : ∀ w, New w0 w → w.cell? ⟨bq, oq, none⟩ = some v) (hs : Sl w0 v 2 q.length (qCs q))
  (hg : ∀ a ∈ q, ∀ w, New w0 w → Ret Try.prog g (#[] ++ [.agg #[.int .i64 a.1, .bool a.2]].toArray ++ cp) w fun r w' => r = .bool (f a) ∧ New w w') : Ret Try.prog 66 #[.pointer (some ⟨bq, oq, none⟩), .func (.func g) #[] cp] w0 fun r w' => r = .bool (q.any f) ∧ New w0 w' := by
 have M : Sep w0 [] w0 := St.nil w0
 refine Ret.of_W Try.func66 rfl Try.ntmps66 rfl ?_
 refine go 1 ?_
 intro bbx1 _ M
 refine go 1 ?_
 intro bal1 _ M
 refine go 0 ?_
 refine x_call rfl rfl rfl rfl rfl en85 (qall_c) ?_
 rintro r_ wcall1 ⟨bcall1, rfl, M1⟩
 have M := M.grow M1
 refine ⟨trivial, ?_⟩
 refine go 0 ?_
 refine W.range rfl en89 (fun rr hkt hps has hbdrng1 w2 hw2 => ?_)
 have M := M.range hw2
 refine (qall_it (bq := bq) (oq := oq) (v := v) (I := fun rest w' => ∃ A, q = A ++ rest ∧ A.any f = false ∧ Sep w0 ([(bal1, .cells [.bool false].toArray 4 (0, 0)), (bbx1, .cells [.func (.func g) #[] cp].toArray 143 (0, 0)), (bcall1, .cells [.pointer (some ⟨bq, oq, none⟩)].toArray 160 (0, 0)), (wcall1.heap.size, .deferred (some [])), (wcall1.heap.size + 1, .loop { rr with state := .ready, pending := none })]) w') (X := fun w' => q.any f = true ∧ Sep w0 ([(bal1, .cells [.bool true].toArray 4 (0, 0)), (bbx1, .cells [.func (.func g) #[] cp].toArray 143 (0, 0)), (bcall1, .cells [.pointer (some ⟨bq, oq, none⟩)].toArray 160 (0, 0)), (wcall1.heap.size, .deferred (some [])), (wcall1.heap.size + 1, .loop { rr with state := .done, pending := some .ret })]) w') hlen ?_ ?_ ?_ ⟨[], rfl, rfl, M⟩).mono ?_
 ·rintro rest w w' ⟨A, hA, hno, M⟩ hn
  exact ⟨A, hA, hno, M.new hn⟩
 ·rintro rest w' ⟨A, hA, hno, M⟩
  exact ⟨cell_of (M.at_ 2 rfl) rfl, hc _ M.frm, hs.new M.frm⟩
 ·rintro a rest w' ⟨A, hA, hno, M⟩
  refine Yld.one (M.at_ 4 rfl) hkt hps rfl has ?_
  refine go 1 ?_
  intro _ _ M
  refine go 1 ?_
  intro _ M
  refine go 0 ?_
  refine At.asg hbdrng1 (M.at_ 5 rfl) ?_
  generalize hwb : World.putObj _ _ _ = wb
  have M := M.put 5 rfl hwb.symm
  refine go 2 ?_
  refine x_call rfl rfl rfl rfl rfl hent (hg a (by rw [hA]; simp) _ M.frm) ?_
  rintro r_ w5 ⟨rfl, hn5⟩
  have M := M.new hn5
  refine ⟨trivial, ?_⟩
  refine cnd 0 ?_ ?_
  ·intro hco1
   refine go 1 ?_
   intro _ M
   refine go 0 ?_
   refine At.rnd_r atM ?_
   generalize hwz : World.putObj _ _ _ = wz
   have M := M.put 5 rfl hwz.symm
   exact ⟨false, rfl, fun h => (by cases h), fun _ => ⟨by rw [hA]; simp [hco1], M.tail⟩⟩
  ·intro hco1
   refine go 0 ?_
   refine At.rnd_n atM ?_
   generalize hwz : World.putObj _ _ _ = wz
   have M := M.put 5 rfl hwz.symm
   exact ⟨true, rfl, fun _ => ⟨A ++ [a], by rw [hA]; simp, by simp [hno, hco1], M.tail⟩, fun h => (by cases h)⟩
 ·rintro v3 w3 ⟨rfl, ⟨A, hA, hno, M⟩ | ⟨hany, M⟩⟩
  ·refine .inl ⟨.ready, by simp, M.at_ 4 rfl, ?_⟩
   generalize hwx : World.putObj _ _ _ = w4
   have M := M.put 4 rfl hwx.symm
   rw [List.append_nil] at hA
   refine go 1 ?_
   intro _ M
   refine go 0 ?_
   refine At.mark (M.at_ 3 rfl) ?_
   generalize hwy : World.putObj _ _ _ = w6
   have M := M.put 3 rfl hwy.symm
   refine go 1 ?_
   exact ⟨by rw [hA, hno], M.frm⟩
  ·refine .inr ⟨.done, _, by simp, M.at_ 4 rfl, ?_⟩
   generalize hwx : World.putObj _ _ _ = w4
   have M := M.put 4 rfl hwx.symm
   refine go 0 ?_
   refine At.mark (M.at_ 3 rfl) ?_
   generalize hwy : World.putObj _ _ _ = w6
   have M := M.put 3 rfl hwy.symm
   refine go 1 ?_
   exact ⟨by rw [hany], M.frm⟩

-- slices.IndexFunc[[]valise/locks.asked,valise/locks.asked]
theorem qidx_c {w0 : World} {p : Option Addr} {cap g : Nat} {cp : Array Value} {q : List Qa} {f : Qa → Bool} (h : Sl w0 (.slice p q.length cap) 2 q.length (qCs q)) (hl : q.length ≤ 1000) (hent : entered Try.prog g = true)
  (hg : ∀ a ∈ q, ∀ w, New w0 w → Ret Try.prog g (#[] ++ [.agg #[.int .i64 a.1, .bool a.2]].toArray ++ cp) w fun r w' => r = .bool (f a) ∧ New w w') : Ret Try.prog 96 #[.slice p q.length cap, .func (.func g) #[] cp] w0 fun r w' => r = .int .i64 (idxI q f) ∧ New w0 w' := by
 have M : Sep w0 [] w0 := St.nil w0
 refine Ret.of_W Try.func96 rfl Try.ntmps96 rfl ?_
 refine go 1 ?_
 refine W.loop (σ := Nat) (fun j => [(0, _), (1, _), (7, _), (8, .int .i64 ((j : Nat) : Int))]) (fun j w => j ≤ q.length ∧ (∀ x ∈ q.take j, f x = false) ∧ Sep w0 [] w) (fun j => q.length - j) 0 ⟨rfl, rfl, rfl, rfl, trivial⟩ ⟨Nat.zero_le _, by simp, M⟩ ?_
 rintro j w ⟨hj, hno, M⟩
 refine cnd 1 ?_ ?_
 ·intro hco1
  obtain ⟨x, hx⟩ := get_lt (l := q) (q := j) (by omega)
  have hs := h.new M.frm
  obtain ⟨b, off, cap2, e2⟩ := Sl.blk' hs (by omega)
  cases e2
  have hrow := qRow hs hx
  refine go 0 ?_
  refine x_ia j rfl rfl rfl Try.underlying136 sz142 rfl rfl rfl (by omega) ?_
  refine x_ldA [_, _] rfl rfl rfl Try.underlying142 rfl sz142 rfl rfl hrow ?_
  refine x_call rfl rfl rfl rfl rfl hent (hg x (List.mem_of_getElem? hx) _ M.frm) ?_
  rintro v w1 ⟨rfl, hn1⟩
  have M := M.new hn1
  refine ⟨trivial, ?_⟩
  refine cnd 0 ?_ ?_
  ·intro hco2
   refine go 1 ?_
   exact ⟨by rw [idxI_at hx hno hco2], M.frm⟩
  ·intro hco2
   refine go 0 ?_
   refine x_add _ rfl rfl rfl rfl rfl (wadd (by omega) (by omega)) ?_
   refine go 0 ?_
   exact At.back (j + 1) ⟨rfl, rfl, rfl, rfl, trivial⟩ ⟨by omega, mem_take_snoc hx hno hco2, M⟩ (by first | omega | (simp only; omega) | (simp; done) | (simp; omega))
 ·intro hco1
  refine go 1 ?_
  have hj2 : j = q.length := by omega
  subst hj2
  rw [List.take_length] at hno
  exact ⟨by rw [idxI_no hno], M.frm⟩

end Go.Proofs.Ytebfjdolgchgaaa

namespace Go.Proofs.Ytebfjdolgchgaaa
open Go Go.Fw Go.RowKit Go.Proofs
set_option linter.unusedVariables false
set_option linter.unusedSimpArgs false
set_option maxRecDepth 100000
set_option maxHeartbeats 4000000

-- (*valise/locks.Locks).Ask
theorem lask_c {w00 w0 : World} {s : LkS} {Q : QM} {X : List (Nat × Obj)} {who : Int} {key : List UInt8} {wr : Bool} (M : Sep w00 (lkB s ++ X) w0) (hR : LR s Q) (hq : QI (Q key)) (hl1 : (Q key).1.length ≤ 1000) (hl2 : (Q key).2.length ≤ 1000) (h0 : 0 ≤ who) (h8 : who < 8) : Ret Try.prog 42 #[ptr s.bl, .int .i64 who, strV key, .bool wr] w0 fun r w' => ∃ s' e, r = .tuple #[.bool (askQ (Q key) who wr).2.1, .int .i64 e] ∧ s'.bl = s.bl ∧ LR s' (setQ Q key (askQ (Q key) who wr).1) ∧ Sep w00 (lkB s' ++ X) w' := by
 refine Ret.of_W Try.func42 rfl Try.ntmps42 rfl ?_
 refine go 1 ?_
 intro bbx1 _ M
 refine go 1 ?_
 refine x_ld rfl rfl rfl Try.underlying105 rfl rfl (cell_of (lk_bl M (fun y (hy : y ∈ lkB s) => by simp [hy])) rfl) ?_
 refine go 2 ?_
 refine x_call rfl rfl rfl rfl rfl en64 (lclient_c h0 h8) ?_
 rintro r_ w_ ⟨rfl, rfl⟩
 refine ⟨trivial, ?_⟩
 refine go 1 ?_
 refine x_ld rfl rfl rfl Try.underlying105 rfl rfl (cell_of (lk_bl M (fun y (hy : y ∈ lkB s) => by simp [hy])) rfl) ?_
 refine go 0 ?_
 refine x_lk1 (enc := strV) key rfl rfl rfl (strKey Try.underlying9) Try.underlying105 ze135 rfl rfl ⟨s.om, lmap s.K, lk_om M (fun y (hy : y ∈ lkB s) => by simp [hy]), hR.mp, rfl⟩ ?_
 rw [show (lmap s.K key).getD (.pointer none) = Value.pointer ((lget s.K key).map fun x => ⟨x.b, 0, none⟩) by unfold lmap; cases lget s.K key <;> rfl]
 refine gs 0 0 ?_
 refine W.seqC (fun F' w' => ∃ s1 x, F' = [(3, .bool wr), (5, ptr bbx1), (10, ptr x.b)] ∧ s1.bl = s.bl ∧ LR s1 Q ∧ lget s1.K key = some x ∧ Sep w00 ((bbx1, .cells [.int .i64 who].toArray 3 (0, 0)) :: (lkB s1 ++ X)) w') ?_ ?_
 ·refine cnd 1 ?_ ?_
  ·intro hco3
   have hg2 : lget s.K key = none := by simpa using hco3
   refine go 2 ?_
   intro bbx2 _ M
   refine go 0 ?_
   refine x_ld rfl rfl rfl Try.underlying105 rfl rfl (cell_of (lk_bl M (fun y (hy : y ∈ lkB s) => by simp [hy])) rfl) ?_
   refine go 0 ?_
   refine x_mup (enc := strV) _ rfl rfl rfl (strKey Try.underlying9) Try.underlying105 rfl rfl rfl (lk_om M (fun y (hy : y ∈ lkB s) => by simp [hy])) hR.mp ?_
   intro omu1 wmu1 hmmu1 hwmu1
   have M := M.put 3 rfl hwmu1
   refine ⟨trivial, ?_⟩
   refine go 0 ?_
   refine At.sub [(3, _), (5, _), (10, _)] ⟨rfl, rfl, rfl, trivial⟩ ?_
   refine At.cut_n ?_
   obtain ⟨s', x, g1, g2, g3, g4, g5⟩ := hR.add (b := bbx2) hg2 hmmu1
   exact ⟨s', x, by rw [g4], g1, g2, g3, M.perm ((List.Perm.swap _ _ _).trans (List.Perm.cons _ (g5.append_right X)))⟩
  ·intro hco3
   obtain ⟨x, hg2⟩ : ∃ x, lget s.K key = some x := by
    cases e : lget s.K key with
    | none => rw [e] at hco3; cases hco3
    | some x => exact ⟨x, rfl⟩
   rw [hg2]
   simp only [Option.map_some]
   refine go 0 ?_
   refine At.sub [(3, _), (5, _), (10, _)] ⟨rfl, rfl, rfl, trivial⟩ ?_
   refine At.cut_n ?_
   exact ⟨s, x, rfl, rfl, hR, hg2, M⟩
 rintro F1 wc ⟨s1, x, rfl, hbl, hR1, hx, M⟩
 obtain ⟨R, hperm, hk, hOK, hback, _⟩ := hR1.take hx
 obtain ⟨kk, xb, hv, hD, wv, wD⟩ := x
 simp only at hk hback
 have hOh : OwL hD hv 2 (Q key).1.length (qCs (Q key).1) := hOK.h
 have hOw : OwX wD wv 2 (Q key).2.length (qCs (Q key).2) := hOK.w
 obtain ⟨ph, ch, rfl⟩ := hOh.shape
 obtain ⟨pw, cw, rfl⟩ := hOw.shape
 have M : Sep w00 ((bbx1, .cells [.int .i64 who].toArray 3 (0, 0)) :: (xb, .cells [.slice ph (Q key).1.length ch, .slice pw (Q key).2.length cw].toArray 140 (0, 0)) :: (hD ++ (wD ++ (((s1.bl, .cells [.map (some s1.bm)].toArray 107 (0, 0)) :: (s1.bm, s1.om) :: R) ++ X)))) wc := M.perm ((List.Perm.cons _ ((hperm.append_right X).trans (by unfold Lk.blks Lk.hd; simp only [List.append_assoc, List.cons_append]; exact List.Perm.refl _))))
 refine go 1 ?_
 refine x_call rfl rfl rfl rfl rfl en66 (qhas_c (v := .slice ph (Q key).1.length ch) (f := fun a => decide (a.1 = who)) en65 hl1 (fun w hn => cell_of (hn.keep (M.at_ 1 rfl)) rfl) ((hOh.sl (by decide)).at_ M (fun y hy => by simp [hy])) (fun a _ w hn => askis_c (hn.keep (M.at_ 0 rfl)))) ?_
 rintro r_ wcall2 ⟨h2_, hn2⟩
 obtain rfl : r_ = .bool (hasQ (Q key).1 who) := h2_
 have M := M.new hn2
 refine ⟨trivial, ?_⟩
 refine spl 0 49 ?_ ?_
 ·intro hsp1
  refine go 1 ?_
  have hb : (hasQ (Q key).1 who || hasQ (Q key).2 who) = true := by rw [hsp1]; simp
  have hA : askQ (Q key) who wr = (Q key, false, 18) := by unfold askQ; rw [if_pos hb]
  obtain ⟨s', g1, g2, g3⟩ := hback ⟨kk, xb, _, hD, _, wD⟩ (Q key) hk rfl hOK
  exact ⟨s', 18, by rw [hA], g1.trans hbl, by rw [hA]; exact g2, lk_out ⟨kk, xb, _, hD, _, wD⟩ M.tail g3⟩
 ·intro hsp1
  refine go 0 ?_
  refine x_call rfl rfl rfl rfl rfl en66 (qhas_c (v := .slice pw (Q key).2.length cw) (f := fun a => decide (a.1 = who)) en65 hl2 (fun w hn => cell_of (hn.keep (M.at_ 1 rfl)) rfl) ((hOw.sl (by decide)).at_ M (fun y hy => by simp [hy])) (fun a _ w hn => askis_c (hn.keep (M.at_ 0 rfl)))) ?_
  rintro r_ wcall3 ⟨h2_, hn3⟩
  obtain rfl : r_ = .bool (hasQ (Q key).2 who) := h2_
  have M := M.new hn3
  refine ⟨trivial, ?_⟩
  refine cnd 0 ?_ ?_
  ·intro hco5
   refine go 1 ?_
   have hb : (hasQ (Q key).1 who || hasQ (Q key).2 who) = true := by rw [hco5]; simp
   have hA : askQ (Q key) who wr = (Q key, false, 18) := by unfold askQ; rw [if_pos hb]
   obtain ⟨s', g1, g2, g3⟩ := hback ⟨kk, xb, _, hD, _, wD⟩ (Q key) hk rfl hOK
   exact ⟨s', 18, by rw [hA], g1.trans hbl, by rw [hA]; exact g2, lk_out ⟨kk, xb, _, hD, _, wD⟩ M.tail g3⟩
  ·intro hco5
   have hno : ¬ (hasQ (Q key).1 who || hasQ (Q key).2 who) = true := by rw [hsp1, hco5]; decide
   have hq1 : (Q key).1.length ≤ 1000 := hl1
   refine go 3 ?_
   intro bal1 _ M
   refine go 1 ?_
   intro _ M
   refine spl 3 66 ?_ ?_
   ·intro hsp2
    refine go 0 ?_
    refine x_call rfl rfl rfl rfl rfl en67 (lmay_c M hOK (fun y hy => List.mem_cons_of_mem _ (List.mem_cons_of_mem _ (lk_in hy)))) ?_
    rintro r_ w_ ⟨rfl, rfl⟩
    refine ⟨trivial, ?_⟩
    refine cnd 0 ?_ ?_
    ·intro hco6
     have hA : askQ (Q key) who wr = (((Q key).1 ++ [(who, wr)], (Q key).2), true, 0) := by unfold askQ; rw [if_neg hno, if_pos (by rw [hco6, List.length_eq_zero_iff.1 (by omega : (Q key).2.length = 0)]; rfl)]
     refine go 0 ?_
     refine W.regD (by kernel_rfl) #[0, 0, 2, 6, 14, 30, 0, 64, 254, 511, 1023, 2047, 4095] [(0, false), (1, false), (2, false), (3, false), (4, false), (5, false), (6, false), (7, true), (8, true), (9, false), (10, false), (11, false), (12, true)] (by kernel_rfl) ?_
     intro K wD1 hK hwD1
     have M := M.drew hwD1
     refine go 2 ?_
     refine x_bs1 (cs := [.int .i64 who, .bool wr]) rfl rfl rfl Try.underlying136 sz142 ze142 (Z := [_, _]) rfl rfl (by decide) (by decide) rfl rfl rfl ?_
     intro bbs1 wbs1 hbbs1 hwbs1
     have M0 := M.acons hbbs1 hwbs1
     have hslbs1 : Sl wbs1 (.slice (some ⟨bbs1, 0, none⟩) 1 1) 2 1 [.int .i64 who, .bool wr] := .inr ⟨bbs1, 0, 1, _, _, _, rfl, by omega, M0.at_ 0 rfl, rfl, rfl⟩
     have M := M0.tail
     refine pnd ?_
     have M : Sep w00 ((bal1, .cells [.int .i64 who, .bool wr].toArray 142 (0, 0)) :: (bbx1, .cells [.int .i64 who].toArray 3 (0, 0)) :: (xb, .cells [.slice ph (Q key).1.length ch, .slice pw (Q key).2.length cw].toArray 140 (0, 0)) :: (hD ++ (wD ++ (((s1.bl, .cells [.map (some s1.bm)].toArray 107 (0, 0)) :: (s1.bm, s1.om) :: R) ++ X)))) _ := M
     have M : Sep w00 (hD ++ ((bal1, .cells [.int .i64 who, .bool wr].toArray 142 (0, 0)) :: (bbx1, .cells [.int .i64 who].toArray 3 (0, 0)) :: (xb, .cells [.slice ph (Q key).1.length ch, .slice pw (Q key).2.length cw].toArray 140 (0, 0)) :: (wD ++ (((s1.bl, .cells [.map (some s1.bm)].toArray 107 (0, 0)) :: (s1.bm, s1.om) :: R) ++ X)))) _ := M.perm (perm_c fun p => by simp only [List.countP_append, List.countP_cons, List.countP_nil]; omega)
     refine x_apL rfl rfl rfl rfl Try.underlying136 sz142 ze142 rfl by142 rfl rfl hOh M (qCs_one _) (hslbs1.src Try.underlying136 (by intro u hu; simp at hu; rcases hu with rfl | rfl <;> rfl)) (by omega) (by decide) (by omega) ?_
     intro Lo v6 wapbs1 how M
     have M : Sep w00 ((bal1, .cells [.int .i64 who, .bool wr].toArray 142 (0, 0)) :: (bbx1, .cells [.int .i64 who].toArray 3 (0, 0)) :: (xb, .cells [.slice ph (Q key).1.length ch, .slice pw (Q key).2.length cw].toArray 140 (0, 0)) :: (Lo ++ (wD ++ (((s1.bl, .cells [.map (some s1.bm)].toArray 107 (0, 0)) :: (s1.bm, s1.om) :: R) ++ X)))) _ := M.perm (perm_c fun p => by simp only [List.countP_append, List.countP_cons, List.countP_nil]; omega)
     obtain ⟨p6, c6, rfl⟩ := how.shape
     refine pnd ?_
     refine go 0 ?_
     refine x_st [_] _ rfl rfl rfl sz136 rfl rfl rfl rfl atM rfl rfl rfl ?_
     intro wst2 hwst2
     have M := by first | exact M.put 0 rfl hwst2 | exact M.put 1 rfl hwst2 | exact M.put 2 rfl hwst2 | exact M.put 3 rfl hwst2 | exact M.put 4 rfl hwst2 | exact M.put 5 rfl hwst2 | exact M.put 6 rfl hwst2 | exact M.put 7 rfl hwst2
     refine pnd ?_
     refine go 1 ?_
     obtain ⟨s', g1, g2, g3⟩ := hback ⟨kk, xb, _, Lo, _, wD⟩ ((Q key).1 ++ [(who, wr)], (Q key).2) hk rfl ⟨by rw [List.length_append, qCs_app]; exact how, hOw⟩
     exact ⟨s', 0, by rw [hA], g1.trans hbl, by rw [hA]; exact g2, lk_out ⟨kk, xb, _, Lo, _, wD⟩ M.tail.tail g3⟩
    ·intro hco6
     have hA : askQ (Q key) who wr = (((Q key).1, (Q key).2 ++ [(who, wr)]), false, 0) := by unfold askQ; rw [if_neg hno, if_neg (by rw [hco6]; simp)]
     refine go 0 ?_
     refine W.regD (by kernel_rfl) #[0, 0, 2, 6, 14, 30, 0, 64, 254, 511, 1023, 2047, 4095] [(0, false), (1, false), (2, false), (3, false), (4, false), (5, false), (6, false), (7, true), (8, true), (9, false), (10, false), (11, false), (12, true)] (by kernel_rfl) ?_
     intro K wD2 hK hwD2
     have M := M.drew hwD2
     refine go 2 ?_
     refine x_bs1 (cs := [.int .i64 who, .bool wr]) rfl rfl rfl Try.underlying136 sz142 ze142 (Z := [_, _]) rfl rfl (by decide) (by decide) rfl rfl rfl ?_
     intro bbs2 wbs2 hbbs2 hwbs2
     have M0 := M.acons hbbs2 hwbs2
     have hslbs2 : Sl wbs2 (.slice (some ⟨bbs2, 0, none⟩) 1 1) 2 1 [.int .i64 who, .bool wr] := .inr ⟨bbs2, 0, 1, _, _, _, rfl, by omega, M0.at_ 0 rfl, rfl, rfl⟩
     have M := M0.tail
     refine pnd ?_
     have M : Sep w00 ((bal1, .cells [.int .i64 who, .bool wr].toArray 142 (0, 0)) :: (bbx1, .cells [.int .i64 who].toArray 3 (0, 0)) :: (xb, .cells [.slice ph (Q key).1.length ch, .slice pw (Q key).2.length cw].toArray 140 (0, 0)) :: (hD ++ (wD ++ (((s1.bl, .cells [.map (some s1.bm)].toArray 107 (0, 0)) :: (s1.bm, s1.om) :: R) ++ X)))) _ := M
     have M : Sep w00 (wD ++ ((bal1, .cells [.int .i64 who, .bool wr].toArray 142 (0, 0)) :: (bbx1, .cells [.int .i64 who].toArray 3 (0, 0)) :: (xb, .cells [.slice ph (Q key).1.length ch, .slice pw (Q key).2.length cw].toArray 140 (0, 0)) :: (hD ++ (((s1.bl, .cells [.map (some s1.bm)].toArray 107 (0, 0)) :: (s1.bm, s1.om) :: R) ++ X)))) _ := M.perm (perm_c fun p => by simp only [List.countP_append, List.countP_cons, List.countP_nil]; omega)
     refine x_apX rfl rfl rfl rfl Try.underlying136 sz142 ze142 rfl by142 rfl rfl hOw M (qCs_one _) (hslbs2.src Try.underlying136 (by intro u hu; simp at hu; rcases hu with rfl | rfl <;> rfl)) (by omega) (by decide) (by omega) ?_
     intro Lo v6 wapbs2 how M
     have M : Sep w00 ((bal1, .cells [.int .i64 who, .bool wr].toArray 142 (0, 0)) :: (bbx1, .cells [.int .i64 who].toArray 3 (0, 0)) :: (xb, .cells [.slice ph (Q key).1.length ch, .slice pw (Q key).2.length cw].toArray 140 (0, 0)) :: (hD ++ (Lo ++ (((s1.bl, .cells [.map (some s1.bm)].toArray 107 (0, 0)) :: (s1.bm, s1.om) :: R) ++ X)))) _ := M.perm (perm_c fun p => by simp only [List.countP_append, List.countP_cons, List.countP_nil]; omega)
     obtain ⟨p6, c6, rfl⟩ := how.shape
     refine pnd ?_
     refine go 0 ?_
     refine x_st [_] _ rfl rfl rfl sz136 rfl rfl rfl rfl atM rfl rfl rfl ?_
     intro wst3 hwst3
     have M := by first | exact M.put 0 rfl hwst3 | exact M.put 1 rfl hwst3 | exact M.put 2 rfl hwst3 | exact M.put 3 rfl hwst3 | exact M.put 4 rfl hwst3 | exact M.put 5 rfl hwst3 | exact M.put 6 rfl hwst3 | exact M.put 7 rfl hwst3
     refine pnd ?_
     refine go 1 ?_
     obtain ⟨s', g1, g2, g3⟩ := hback ⟨kk, xb, _, hD, _, Lo⟩ ((Q key).1, (Q key).2 ++ [(who, wr)]) hk rfl ⟨hOh, by rw [List.length_append, qCs_app]; exact how⟩
     exact ⟨s', 0, by rw [hA], g1.trans hbl, by rw [hA]; exact g2, lk_out ⟨kk, xb, _, hD, _, Lo⟩ M.tail.tail g3⟩
   ·intro hsp2
    have hA : askQ (Q key) who wr = (((Q key).1, (Q key).2 ++ [(who, wr)]), false, 0) := by
     unfold askQ
     rw [if_neg hno, if_neg]
     intro e
     rw [Bool.and_eq_true, List.isEmpty_iff] at e
     rw [e.1] at hsp2; simp at hsp2
    refine go 0 ?_
    refine W.regD (by kernel_rfl) #[0, 0, 2, 6, 14, 30, 0, 64, 254, 511, 1023, 2047, 4095] [(0, false), (1, false), (2, false), (3, false), (4, false), (5, false), (6, false), (7, true), (8, true), (9, false), (10, false), (11, false), (12, true)] (by kernel_rfl) ?_
    intro K wD3 hK hwD3
    have M := M.drew hwD3
    refine go 2 ?_
    refine x_bs1 (cs := [.int .i64 who, .bool wr]) rfl rfl rfl Try.underlying136 sz142 ze142 (Z := [_, _]) rfl rfl (by decide) (by decide) rfl rfl rfl ?_
    intro bbs3 wbs3 hbbs3 hwbs3
    have M0 := M.acons hbbs3 hwbs3
    have hslbs3 : Sl wbs3 (.slice (some ⟨bbs3, 0, none⟩) 1 1) 2 1 [.int .i64 who, .bool wr] := .inr ⟨bbs3, 0, 1, _, _, _, rfl, by omega, M0.at_ 0 rfl, rfl, rfl⟩
    have M := M0.tail
    refine pnd ?_
    have M : Sep w00 ((bal1, .cells [.int .i64 who, .bool wr].toArray 142 (0, 0)) :: (bbx1, .cells [.int .i64 who].toArray 3 (0, 0)) :: (xb, .cells [.slice ph (Q key).1.length ch, .slice pw (Q key).2.length cw].toArray 140 (0, 0)) :: (hD ++ (wD ++ (((s1.bl, .cells [.map (some s1.bm)].toArray 107 (0, 0)) :: (s1.bm, s1.om) :: R) ++ X)))) _ := M
    have M : Sep w00 (wD ++ ((bal1, .cells [.int .i64 who, .bool wr].toArray 142 (0, 0)) :: (bbx1, .cells [.int .i64 who].toArray 3 (0, 0)) :: (xb, .cells [.slice ph (Q key).1.length ch, .slice pw (Q key).2.length cw].toArray 140 (0, 0)) :: (hD ++ (((s1.bl, .cells [.map (some s1.bm)].toArray 107 (0, 0)) :: (s1.bm, s1.om) :: R) ++ X)))) _ := M.perm (perm_c fun p => by simp only [List.countP_append, List.countP_cons, List.countP_nil]; omega)
    refine x_apX rfl rfl rfl rfl Try.underlying136 sz142 ze142 rfl by142 rfl rfl hOw M (qCs_one _) (hslbs3.src Try.underlying136 (by intro u hu; simp at hu; rcases hu with rfl | rfl <;> rfl)) (by omega) (by decide) (by omega) ?_
    intro Lo v6 wapbs3 how M
    have M : Sep w00 ((bal1, .cells [.int .i64 who, .bool wr].toArray 142 (0, 0)) :: (bbx1, .cells [.int .i64 who].toArray 3 (0, 0)) :: (xb, .cells [.slice ph (Q key).1.length ch, .slice pw (Q key).2.length cw].toArray 140 (0, 0)) :: (hD ++ (Lo ++ (((s1.bl, .cells [.map (some s1.bm)].toArray 107 (0, 0)) :: (s1.bm, s1.om) :: R) ++ X)))) _ := M.perm (perm_c fun p => by simp only [List.countP_append, List.countP_cons, List.countP_nil]; omega)
    obtain ⟨p6, c6, rfl⟩ := how.shape
    refine pnd ?_
    refine go 0 ?_
    refine x_st [_] _ rfl rfl rfl sz136 rfl rfl rfl rfl atM rfl rfl rfl ?_
    intro wst4 hwst4
    have M := by first | exact M.put 0 rfl hwst4 | exact M.put 1 rfl hwst4 | exact M.put 2 rfl hwst4 | exact M.put 3 rfl hwst4 | exact M.put 4 rfl hwst4 | exact M.put 5 rfl hwst4 | exact M.put 6 rfl hwst4 | exact M.put 7 rfl hwst4
    refine pnd ?_
    refine go 1 ?_
    obtain ⟨s', g1, g2, g3⟩ := hback ⟨kk, xb, _, hD, _, Lo⟩ ((Q key).1, (Q key).2 ++ [(who, wr)]) hk rfl ⟨hOh, by rw [List.length_append, qCs_app]; exact how⟩
    exact ⟨s', 0, by rw [hA], g1.trans hbl, by rw [hA]; exact g2, lk_out ⟨kk, xb, _, hD, _, Lo⟩ M.tail.tail g3⟩

end Go.Proofs.Ytebfjdolgchgaaa

namespace Go.Proofs.Ytebfjdolgchgaaa
open Go Go.Fw Go.RowKit Go.Proofs
set_option linter.unusedVariables false
set_option linter.unusedSimpArgs false
set_option maxRecDepth 100000
set_option maxHeartbeats 4000000

-- slices.DeleteFunc[[]valise/locks.asked,valise/locks.asked]
theorem ldel_c {w00 w0 : World} {v : Value} {D L0 : List (Nat × Obj)} {q : List Qa} {g : Nat} {cp : Array Value} {f : Qa → Bool} (h : OwL D v 2 q.length (qCs q)) (M : Sep w00 (D ++ L0) w0) (hlen : q.length ≤ 1000) (hent : entered Try.prog g = true)
  (hg : ∀ a ∈ q, ∀ w Y, Sep w00 (Y ++ L0) w → Ret Try.prog g (#[] ++ [.agg #[.int .i64 a.1, .bool a.2]].toArray ++ cp) w fun r w' => r = .bool (f a) ∧ New w w') : Ret Try.prog 95 #[v, .func (.func g) #[] cp] w0 fun r w' => ∃ D', OwL D' r 2 (q.filter fun a => !f a).length (qCs (q.filter fun a => !f a)) ∧ Sep w00 (D' ++ L0) w' := by
 obtain ⟨p, cap, rfl⟩ := h.shape
 refine Ret.of_W Try.func95 rfl Try.ntmps95 rfl ?_
 refine go 0 ?_
 refine x_call rfl rfl rfl rfl rfl en96 (qidx_c ((h.sl (by decide)).at_ M (fun y hy => by simp [hy])) hlen hent (fun a ha w hn => hg a ha w D (M.new hn))) ?_
 rintro r_ wcall1 ⟨rfl, hn1⟩
 have M := M.new hn1
 refine ⟨trivial, ?_⟩
 refine cnd 1 ?_ ?_
 ·intro hco1
  have hall : (q.filter fun a => !f a) = q := by
   rw [List.filter_eq_self]
   intro a ha
   unfold idxI at hco1
   cases e : q.findIdx? f with
   | none => rw [List.findIdx?_eq_none_iff] at e; rw [e a ha]; rfl
   | some k => rw [e] at hco1; simp only at hco1; omega
  refine go 1 ?_
  exact ⟨D, by rw [hall]; exact h, M⟩
 ·intro hco1
  obtain ⟨i0, hidx, hi0, hfi, hno⟩ : ∃ i0 : Nat, idxI q f = (i0 : Int) ∧ ∃ hi : i0 < q.length, f q[i0] = true ∧ ∀ a ∈ q.take i0, f a = false := by
   unfold idxI at hco1 ⊢
   cases e : q.findIdx? f with
   | none => rw [e] at hco1; exact absurd rfl hco1
   | some k =>
    obtain ⟨h1, h2, h3⟩ := List.findIdx?_eq_some_iff_getElem.1 e
    refine ⟨k, rfl, h1, h2, fun a ha => ?_⟩
    obtain ⟨j, hj, rfl⟩ := List.mem_take_iff_getElem.1 ha
    have := h3 j (by omega)
    simpa using this
  rw [hidx]
  rcases h with ⟨_, hz, _⟩ | ⟨b, cap2, rest, T, e2, rfl, h3, h4⟩
  ·omega
  cases e2
  have hl4 : q.length * 2 + rest.length = cap * 2 := by rw [← h4, List.length_append, h3]
  have hf0 : (q.take (i0 + 1)).filter (fun a => !f a) = q.take i0 := by
   rw [List.take_add_one, List.getElem?_eq_getElem hi0, Option.toList_some, List.filter_append, List.filter_eq_self.2 (fun a ha => by rw [hno a ha]; rfl)]
   simp [hfi]
  refine go 0 ?_
  refine x_add ((i0 + 1 : Nat) : Int) rfl rfl rfl rfl rfl (by rw [wadd (by omega) (by omega)]; simp) ?_
  refine go 0 ?_
  refine W.loop (σ := Nat × Nat × List Qa) (fun s => [(0, _), (1, _), (5, .int .i64 ((s.2.1 : Nat) : Int)), (6, .int .i64 ((s.1 : Nat) : Int))]) (fun s w => s.2.1 < s.1 ∧ s.1 ≤ q.length ∧ s.2.2.length = q.length ∧ s.2.2.take s.2.1 = (q.take s.1).filter (fun a => !f a) ∧ s.2.2.drop s.1 = q.drop s.1 ∧ Sep w00 ([(b, .cells (qCs s.2.2 ++ rest).toArray T (0, 0))] ++ L0) w) (fun s => q.length - s.1) (i0 + 1, i0, q) ⟨rfl, rfl, rfl, rfl, trivial⟩ ⟨by simp, hi0, rfl, by simp only; rw [hf0], rfl, M⟩ ?_
  rintro ⟨j, i, cur⟩ w ⟨hij, hj, hcl, hct, hcd, M⟩
  simp only at hij hj hcl hct hcd M ⊢
  refine cnd 2 ?_ ?_
  ·intro hco2
   have hjl : j < q.length := by omega
   obtain ⟨x, hx⟩ := get_lt (l := q) (q := j) hjl
   have hcx : cur[j]? = some x := by
    have := congrArg (·[0]?) hcd
    simpa [hx] using this
   have hcl2 : (qCs cur).length = q.length * 2 := by rw [qCs_len, hcl]
   have hslc : ∀ {w' : World} {X : List (Nat × Obj)}, Sep w00 X w' → (b, Obj.cells (qCs cur ++ rest).toArray T (0, 0)) ∈ X → Sl w' (.slice (some ⟨b, 0, none⟩) q.length cap) 2 q.length (qCs cur) := fun M hX => .inr ⟨b, 0, cap, _, T, _, rfl, by omega, M.get hX, by simp [← hcl2], hcl2⟩
   have hrow := qRow (hslc M (by simp)) hcx
   refine go 0 ?_
   refine x_ia j rfl rfl rfl Try.underlying136 sz142 rfl rfl rfl (by omega) ?_
   refine x_ldA [_, _] rfl rfl rfl Try.underlying142 rfl sz142 rfl rfl hrow ?_
   refine go 1 ?_
   intro _ _ M
   refine go 1 ?_
   intro _ M
   refine go 1 ?_
   refine x_call rfl rfl rfl rfl rfl hent (hg x (List.mem_of_getElem? hx) _ [_, _] M) ?_
   rintro v w1 ⟨rfl, hn1⟩
   have M := M.new hn1
   refine ⟨trivial, ?_⟩
   refine cnd 1 ?_ ?_
   ·intro hco3
    have hfx : f x = false := hco3
    refine go 1 ?_
    refine x_ia i rfl rfl rfl Try.underlying136 sz142 rfl rfl rfl (by omega) ?_
    refine x_st [_, _] (qCs (cur.set i x) ++ rest) rfl rfl rfl sz142 rfl rfl rfl rfl (M.at_ 1 rfl) rfl (Nat.ble_eq_true_of_le (by simp only [List.length_append, hcl2, List.length_cons, List.length_nil]; omega)) (qCs_set (by omega)) ?_
    intro wst2 hwst2
    have M := M.put 1 rfl hwst2
    refine ⟨trivial, ?_⟩
    refine go 0 ?_
    refine x_add ((i + 1 : Nat) : Int) rfl rfl rfl rfl rfl (by rw [wadd (by omega) (by omega)]; simp) ?_
    refine go 0 ?_
    refine x_add ((j + 1 : Nat) : Int) rfl rfl rfl rfl rfl (by rw [wadd (by omega) (by omega)]; simp) ?_
    refine go 0 ?_
    exact At.back ((j + 1, i + 1, cur.set i x)) ⟨rfl, rfl, rfl, rfl, trivial⟩ ⟨by simp only; omega, hjl, by simp only [List.length_set]; exact hcl, by
     simp only
     rw [take_snoc hx, List.filter_append, ← hct]
     have e : (cur.set i x)[i]? = some x := by rw [List.getElem?_set, if_pos rfl, if_pos (by omega)]
     rw [take_snoc e, List.take_set_of_le (Nat.le_refl _)]
     simp [hfx], by
     simp only
     rw [List.drop_set_of_lt (by omega)]
     have := congrArg (List.drop 1) hcd
     simpa using this, M.tail⟩ (by first | omega | (simp only; omega) | (simp; done) | (simp; omega))
   ·intro hco3
    refine go 0 ?_
    refine x_add ((j + 1 : Nat) : Int) rfl rfl rfl rfl rfl (by rw [wadd (by omega) (by omega)]; simp) ?_
    refine go 0 ?_
    exact At.back ((j + 1, i, cur)) ⟨rfl, rfl, rfl, rfl, trivial⟩ ⟨by simp only; omega, hjl, hcl, by
     simp only
     rw [take_snoc hx, List.filter_append, ← hct]
     have hfx : f x = true := by simpa using hco3
     simp [hfx], by
     have := congrArg (List.drop 1) hcd
     simpa using this, M.tail⟩ (by first | omega | (simp only; omega) | (simp; done) | (simp; omega))
  ·intro hco2
   have hj2 : j = q.length := by omega
   subst hj2
   rw [List.take_length] at hct
   have hcl2 : (qCs cur).length = q.length * 2 := by rw [qCs_len, hcl]
   have hgt : 0 < q.length - i := by omega
   refine go 0 ?_
   refine x_sll i rfl rfl rfl Try.underlying136 sz142 rfl rfl rfl (by omega) ?_
   rw [if_neg (show ¬ cap = i by omega), add_at]
   refine x_clr (m := 2) (off := 0 + i * 2) (len := q.length - i) (cs := qCs cur ++ rest) rfl rfl rfl rfl Try.underlying136 ze142 rfl (by decide) rfl rfl (M.at_ 0 rfl) hgt (by simp only [List.length_append, hcl2]; omega) ?_
   intro zs wcl hzs hwcl
   have M := M.put 0 rfl hwcl
   refine ⟨trivial, ?_⟩
   refine go 0 ?_
   refine x_slh i rfl rfl rfl Try.underlying136 sz142 rfl rfl rfl (by omega) ?_
   refine go 1 ?_
   rw [← hct]
   have hti : (cur.take i).length = i := by rw [List.length_take]; omega
   have hqt : (qCs cur ++ rest).take (0 + i * 2) = qCs (cur.take i) := by rw [Nat.zero_add, List.take_append_of_le_length (by omega), qCs_take]
   refine ⟨[(b, _)], .inr ⟨b, cap, zs ++ (qCs cur ++ rest).drop (0 + i * 2 + (q.length - i) * 2), T, by rw [hti], by rw [hqt, List.append_assoc], by rw [qCs_len, hti], ?_⟩, M⟩
   simp only [List.length_append, List.length_drop, qCs_len, hti, hzs, hcl]; omega

end Go.Proofs.Ytebfjdolgchgaaa

namespace Go.Proofs.Ytebfjdolgchgaaa
open Go Go.Fw Go.RowKit Go.Proofs
set_option linter.unusedVariables false
set_option linter.unusedSimpArgs false
set_option maxRecDepth 100000
set_option maxHeartbeats 4000000

-- (*valise/locks.Locks).Free
theorem lfree_c {w00 w0 : World} {s : LkS} {Q : QM} {X : List (Nat × Obj)} {who : Int} {key : List UInt8} (M : Sep w00 (lkB s ++ X) w0) (hR : LR s Q) (hq : QI (Q key)) (hl1 : (Q key).1.length ≤ 1000) (hl2 : (Q key).2.length ≤ 1000) (h0 : 0 ≤ who) (h8 : who < 8) : Ret Try.prog 93 #[ptr s.bl, .int .i64 who, strV key] w0 fun r w' => ∃ s' e v Lv, r = .tuple #[v, .int .i64 e] ∧ OwL Lv v 1 (freeQ (Q key) who).2.1.length (zInts (freeQ (Q key) who).2.1) ∧ s'.bl = s.bl ∧ LR s' (setQ Q key (freeQ (Q key) who).1) ∧ Sep w00 (Lv ++ (lkB s' ++ X)) w' := by
 refine Ret.of_W Try.func93 rfl Try.ntmps93 rfl ?_
 refine go 1 ?_
 intro bbx1 _ M
 refine go 1 ?_
 refine x_ld rfl rfl rfl Try.underlying105 rfl rfl (cell_of (lk_bl M (fun y (hy : y ∈ lkB s) => by simp [hy])) rfl) ?_
 refine go 2 ?_
 refine x_call rfl rfl rfl rfl rfl en64 (lclient_c h0 h8) ?_
 rintro r_ w_ ⟨rfl, rfl⟩
 refine ⟨trivial, ?_⟩
 refine go 1 ?_
 refine x_ld rfl rfl rfl Try.underlying105 rfl rfl (cell_of (lk_bl M (fun y (hy : y ∈ lkB s) => by simp [hy])) rfl) ?_
 refine go 0 ?_
 refine x_lk1 (enc := strV) key rfl rfl rfl (strKey Try.underlying9) Try.underlying105 ze135 rfl rfl ⟨s.om, lmap s.K, lk_om M (fun y (hy : y ∈ lkB s) => by simp [hy]), hR.mp, rfl⟩ ?_
 rw [show (lmap s.K key).getD (.pointer none) = Value.pointer ((lget s.K key).map fun x => ⟨x.b, 0, none⟩) by unfold lmap; cases lget s.K key <;> rfl]
 refine spl 2 35 ?_ ?_
 ·intro hsp1
  have hg2 : lget s.K key = none := by simpa using hsp1
  have hQ := hR.no key hg2
  have hF : freeQ (Q key) who = (Q key, [], 9) := by unfold freeQ; rw [hQ]; rfl
  refine go 1 ?_
  exact ⟨s, 9, _, [], rfl, by rw [hF]; exact OwL.nil, rfl, by rw [hF, setQ_id]; exact hR, M.tail⟩
 ·intro hsp1
  obtain ⟨x, hg2⟩ : ∃ x, lget s.K key = some x := by
   cases e : lget s.K key with
   | none => rw [e] at hsp1; cases hsp1
   | some x => exact ⟨x, rfl⟩
  rw [hg2]
  simp only [Option.map_some]
  obtain ⟨R, hperm, hk, hOK, hback, hdel⟩ := hR.take hg2
  obtain ⟨kk, xb, hv, hD, wv, wD⟩ := x
  simp only at hk hback
  have hOh : OwL hD hv 2 (Q key).1.length (qCs (Q key).1) := hOK.h
  have hOw : OwX wD wv 2 (Q key).2.length (qCs (Q key).2) := hOK.w
  obtain ⟨ph, ch, rfl⟩ := hOh.shape
  have M : Sep w00 ((bbx1, .cells [.int .i64 who].toArray 3 (0, 0)) :: (xb, .cells [.slice ph (Q key).1.length ch, wv].toArray 140 (0, 0)) :: (hD ++ (wD ++ (((s.bl, .cells [.map (some s.bm)].toArray 107 (0, 0)) :: (s.bm, s.om) :: R) ++ X)))) _ := M.perm ((List.Perm.cons _ ((hperm.append_right X).trans (by unfold Lk.blks Lk.hd; simp only [List.append_assoc, List.cons_append]; exact List.Perm.refl _))))
  refine go 0 ?_
  refine x_call rfl rfl rfl rfl rfl en66 (qhas_c (v := .slice ph (Q key).1.length ch) (f := fun a => decide (a.1 = who)) en94 hl1 (fun w hn => cell_of (hn.keep (M.at_ 1 rfl)) rfl) ((hOh.sl (by decide)).at_ M (fun y hy => by simp [hy])) (fun a _ w hn => freeis_c (hn.keep (M.at_ 0 rfl)))) ?_
  rintro r_ wcall2 ⟨h2_, hn2⟩
  obtain rfl : r_ = .bool (hasQ (Q key).1 who) := h2_
  have M := M.new hn2
  refine ⟨trivial, ?_⟩
  refine cnd 1 ?_ ?_
  ·intro hco4
   have hF : freeQ (Q key) who = (Q key, [], 9) := by unfold freeQ; rw [if_neg (by rw [hco4]; decide)]
   obtain ⟨s', g1, g2, g3⟩ := hback ⟨kk, xb, _, hD, _, wD⟩ (Q key) hk rfl hOK
   refine go 1 ?_
   exact ⟨s', 9, _, [], rfl, by rw [hF]; exact OwL.nil, g1, by rw [hF]; exact g2, lk_out (X := X) ⟨kk, xb, _, hD, _, wD⟩ M.tail g3⟩
  ·intro hco4
   have hF : freeQ (Q key) who = (((grantQ (dropQ (Q key).1 who) (Q key).2 []).1, (grantQ (dropQ (Q key).1 who) (Q key).2 []).2.1), (grantQ (dropQ (Q key).1 who) (Q key).2 []).2.2, 0) := by unfold freeQ; rw [if_pos hco4]
   refine go 1 ?_
   refine x_call rfl rfl rfl rfl rfl en95 (ldel_c (f := fun a => decide (a.1 = who)) hOh (M.perm (show List.Perm _ (hD ++ ((bbx1, .cells [.int .i64 who].toArray 3 (0, 0)) :: (xb, .cells [.slice ph (Q key).1.length ch, wv].toArray 140 (0, 0)) :: (wD ++ (((s.bl, .cells [.map (some s.bm)].toArray 107 (0, 0)) :: (s.bm, s.om) :: R) ++ X)))) from (perm_c fun p => by simp only [List.countP_append, List.countP_cons, List.countP_nil]; omega))) hl1 en94 (fun a _ w Y M => freeis_c (M.get (List.mem_append_right _ List.mem_cons_self)))) ?_
   rintro r_ wcall3 ⟨D3, hO3, M⟩
   obtain ⟨p3, c3, rfl⟩ := hO3.shape
   have M : Sep w00 ((bbx1, .cells [.int .i64 who].toArray 3 (0, 0)) :: (xb, .cells [.slice ph (Q key).1.length ch, wv].toArray 140 (0, 0)) :: (D3 ++ (wD ++ (((s.bl, .cells [.map (some s.bm)].toArray 107 (0, 0)) :: (s.bm, s.om) :: R) ++ X)))) _ := M.perm (perm_c fun p => by simp only [List.countP_append, List.countP_cons, List.countP_nil]; omega)
   refine ⟨trivial, ?_⟩
   refine go 1 ?_
   intro _ M
   refine go 0 ?_
   refine W.loop (σ := List Qa × List Qa × List Int × Value) (fun g => [(0, _), (2, _), (8, _), (10, g.2.2.2)]) (fun g w => grantQ (dropQ (Q key).1 who) (Q key).2 [] = grantQ g.1 g.2.1 g.2.2.1 ∧ g.1.length + g.2.1.length ≤ 2000 ∧ g.2.1.length + g.2.2.1.length ≤ 1000 ∧ ∃ hv' D' wv' Dw Dn, OwL D' hv' 2 g.1.length (qCs g.1) ∧ OwX Dw wv' 2 g.2.1.length (qCs g.2.1) ∧ OwL Dn g.2.2.2 1 g.2.2.1.length (zInts g.2.2.1) ∧ Sep w00 ((bbx1, .cells [.int .i64 who].toArray 3 (0, 0)) :: (xb, .cells [hv', wv'].toArray 140 (0, 0)) :: (D' ++ (Dw ++ (Dn ++ (((s.bl, .cells [.map (some s.bm)].toArray 107 (0, 0)) :: (s.bm, s.om) :: R) ++ X))))) w) (fun g => g.2.1.length) (dropQ (Q key).1 who, (Q key).2, [], .slice none 0 0) ⟨rfl, rfl, rfl, rfl, trivial⟩ ⟨rfl, by have := List.length_filter_le (fun a : Qa => !decide (a.1 = who)) (Q key).1; simp only [dropQ]; omega, by simpa using hl2, _, D3, _, wD, [], hO3, hOw, OwL.nil, M⟩ ?_
   rintro ⟨hq', wq, now, nv⟩ w ⟨hG, hg1, hg2', hv', D', wv', Dw, Dn, hO', hW', hN', M⟩
   simp only at hG hg1 hg2' hO' hW' hN' M ⊢
   obtain ⟨ph', ch', rfl⟩ := hO'.shape
   obtain ⟨pw', cw', rfl⟩ := hW'.shape
   obtain ⟨pn', cn', rfl⟩ := hN'.shape
   refine spl 3 61 ?_ ?_
   ·intro hsp2
    obtain ⟨a, wr', rfl⟩ : ∃ a wr', wq = a :: wr' := by
     cases wq with
     | nil => simp at hsp2
     | cons a r => exact ⟨a, r, rfl⟩
    have hslw := (hW'.sl (by decide)).at_ M (fun y hy => by simp [hy])
    obtain ⟨bw', ow', cw2_, e2⟩ := Sl.blk' hslw (by simp)
    cases e2
    have hrow := qRow (j := 0) hslw rfl
    refine go 1 ?_
    refine x_ia 0 rfl rfl rfl Try.underlying136 sz142 rfl rfl rfl (by simp) ?_
    refine go 0 ?_
    refine x_ld rfl rfl rfl Try.underlying4 rfl rfl (RowAt.cell hrow (j := 1) rfl) ?_
    refine x_call rfl rfl rfl rfl rfl en67 (lmay_c (x := ⟨kk, xb, _, D', _, Dw⟩) (q := (hq', a :: wr')) M ⟨hO', hW'⟩ (fun y hy => List.mem_cons_of_mem _ (lk_in hy))) ?_
    rintro r_ w_ ⟨rfl, rfl⟩
    refine ⟨trivial, ?_⟩
    refine cnd 0 ?_ ?_
    ·intro hco5
     have hG2 : grantQ hq' (a :: wr') now = grantQ (hq' ++ [a]) wr' (now ++ [a.1]) := by show (if mayQ hq' a.2 = true then _ else _) = _; rw [if_pos hco5]
     rw [hG2] at hG
     have hW2 := OwX.tail (a := qR a) (cs := qCs wr') hW' rfl (by decide)
     refine go 1 ?_
     refine x_ia 0 rfl rfl rfl Try.underlying136 sz142 rfl rfl rfl (by simp) ?_
     refine x_ldA [_, _] rfl rfl rfl Try.underlying142 rfl sz142 rfl rfl hrow ?_
     refine go 1 ?_
     intro bal1 _ M
     refine go 1 ?_
     intro _ M
     refine go 1 ?_
     refine x_sll 1 rfl rfl rfl Try.underlying136 sz142 rfl rfl rfl (by simp) ?_
     refine go 0 ?_
     refine x_st [_] _ rfl rfl rfl sz136 rfl rfl rfl rfl atM rfl rfl rfl ?_
     intro wst3 hwst3
     have M : Sep w00 ((bal1, .cells [.int .i64 a.1, .bool a.2].toArray 142 (0, 0)) :: (bbx1, .cells [.int .i64 who].toArray 3 (0, 0)) :: (xb, .cells [.slice ph' hq'.length ch', (.slice (if cw' = 1 then some ⟨bw', ow', none⟩ else (some (⟨bw', ow', none⟩ : Addr)).map (fun x => x.add (1 * 2))) wr'.length (cw' - 1))].toArray 140 (0, 0)) :: (D' ++ (Dw ++ (Dn ++ (((s.bl, .cells [.map (some s.bm)].toArray 107 (0, 0)) :: (s.bm, s.om) :: R) ++ X))))) wst3 := M.put 2 rfl hwst3
     generalize hwv2 : Value.slice (if cw' = 1 then some ⟨bw', ow', none⟩ else (some (⟨bw', ow', none⟩ : Addr)).map (fun x => x.add (1 * 2))) wr'.length (cw' - 1) = wv2 at M hW2
     refine ⟨trivial, ?_⟩
     refine go 0 ?_
     refine W.regD (by kernel_rfl) #[0, 0, 2, 6, 14, 30, 0, 64, 254, 511, 1023, 2047, 4095] [(0, false), (1, false), (2, false), (3, false), (4, false), (5, false), (6, false), (7, true), (8, true), (9, false), (10, false), (11, false), (12, true)] (by kernel_rfl) ?_
     intro K wD1 hK hwD1
     have M := M.drew hwD1
     refine go 2 ?_
     refine x_bs1 (cs := [.int .i64 a.1, .bool a.2]) rfl rfl rfl Try.underlying136 sz142 ze142 (Z := [_, _]) rfl rfl (by decide) (by decide) rfl rfl rfl ?_
     intro bbs1 wbs1 hbbs1 hwbs1
     have M0 := M.acons hbbs1 hwbs1
     have hslbs1 : Sl wbs1 (.slice (some ⟨bbs1, 0, none⟩) 1 1) 2 1 [.int .i64 a.1, .bool a.2] := .inr ⟨bbs1, 0, 1, _, _, _, rfl, by omega, M0.at_ 0 rfl, rfl, rfl⟩
     have M := M0.tail
     refine pnd ?_
     have M : Sep w00 (D' ++ ((bal1, .cells [.int .i64 a.1, .bool a.2].toArray 142 (0, 0)) :: (bbx1, .cells [.int .i64 who].toArray 3 (0, 0)) :: (xb, .cells [.slice ph' hq'.length ch', wv2].toArray 140 (0, 0)) :: (Dw ++ (Dn ++ (((s.bl, .cells [.map (some s.bm)].toArray 107 (0, 0)) :: (s.bm, s.om) :: R) ++ X))))) _ := M.perm (perm_c fun p => by simp only [List.countP_append, List.countP_cons, List.countP_nil]; omega)
     refine x_apL rfl rfl rfl rfl Try.underlying136 sz142 ze142 rfl by142 rfl rfl hO' M (qCs_one _) (hslbs1.src Try.underlying136 (by intro u hu; simp at hu; rcases hu with rfl | rfl <;> rfl)) (by simp at hg1; omega) (by decide) (by simp at hg1; omega) ?_
     intro Lo v6 wap1 how M
     have M : Sep w00 ((bal1, .cells [.int .i64 a.1, .bool a.2].toArray 142 (0, 0)) :: (bbx1, .cells [.int .i64 who].toArray 3 (0, 0)) :: (xb, .cells [.slice ph' hq'.length ch', wv2].toArray 140 (0, 0)) :: (Lo ++ (Dw ++ (Dn ++ (((s.bl, .cells [.map (some s.bm)].toArray 107 (0, 0)) :: (s.bm, s.om) :: R) ++ X))))) _ := M.perm (perm_c fun p => by simp only [List.countP_append, List.countP_cons, List.countP_nil]; omega)
     obtain ⟨p6, c6, rfl⟩ := how.shape
     refine pnd ?_
     refine go 0 ?_
     refine x_st [_] _ rfl rfl rfl sz136 rfl rfl rfl rfl atM rfl rfl rfl ?_
     intro wst4 hwst4
     have M := by first | exact M.put 0 rfl hwst4 | exact M.put 1 rfl hwst4 | exact M.put 2 rfl hwst4 | exact M.put 3 rfl hwst4 | exact M.put 4 rfl hwst4 | exact M.put 5 rfl hwst4 | exact M.put 6 rfl hwst4 | exact M.put 7 rfl hwst4
     refine pnd ?_
     refine go 1 ?_
     refine x_bs1 (cs := [.int .i64 a.1]) rfl rfl rfl Try.underlying23 sz3 ze3 (Z := [_]) rfl rfl (by decide) (by decide) rfl rfl rfl ?_
     intro bbs2 wbs2 hbbs2 hwbs2
     have M0 := M.acons hbbs2 hwbs2
     have hslbs2 : Sl wbs2 (.slice (some ⟨bbs2, 0, none⟩) 1 1) 1 1 [.int .i64 a.1] := .inr ⟨bbs2, 0, 1, _, _, _, rfl, by omega, M0.at_ 0 rfl, rfl, rfl⟩
     have M := M0.tail
     refine ⟨trivial, ?_⟩
     have M : Sep w00 ((bal1, .cells [.int .i64 a.1, .bool a.2].toArray 142 (0, 0)) :: (bbx1, .cells [.int .i64 who].toArray 3 (0, 0)) :: (xb, .cells [.slice p6 (hq'.length + 1) c6, wv2].toArray 140 (0, 0)) :: (Lo ++ (Dw ++ (Dn ++ (((s.bl, .cells [.map (some s.bm)].toArray 107 (0, 0)) :: (s.bm, s.om) :: R) ++ X))))) _ := M
     have M : Sep w00 (Dn ++ ((bal1, .cells [.int .i64 a.1, .bool a.2].toArray 142 (0, 0)) :: (bbx1, .cells [.int .i64 who].toArray 3 (0, 0)) :: (xb, .cells [.slice p6 (hq'.length + 1) c6, wv2].toArray 140 (0, 0)) :: (Lo ++ (Dw ++ (((s.bl, .cells [.map (some s.bm)].toArray 107 (0, 0)) :: (s.bm, s.om) :: R) ++ X))))) _ := M.perm (perm_c fun p => by simp only [List.countP_append, List.countP_cons, List.countP_nil]; omega)
     refine x_apL rfl rfl rfl rfl Try.underlying23 sz3 ze3 rfl by3 rfl rfl hN' M (zInts_one _) (hslbs2.src Try.underlying23 (by intro u hu; simp at hu; rcases hu with rfl | rfl <;> rfl)) (by simp at hg2'; omega) (by decide) (by simp at hg2'; omega) ?_
     intro Ln v7 wap2 how7 M
     have M : Sep w00 ((bal1, .cells [.int .i64 a.1, .bool a.2].toArray 142 (0, 0)) :: (bbx1, .cells [.int .i64 who].toArray 3 (0, 0)) :: (xb, .cells [.slice p6 (hq'.length + 1) c6, wv2].toArray 140 (0, 0)) :: (Lo ++ (Dw ++ (Ln ++ (((s.bl, .cells [.map (some s.bm)].toArray 107 (0, 0)) :: (s.bm, s.om) :: R) ++ X))))) _ := M.perm (perm_c fun p => by simp only [List.countP_append, List.countP_cons, List.countP_nil]; omega)
     obtain ⟨p7, c7, rfl⟩ := how7.shape
     refine ⟨trivial, ?_⟩
     refine go 0 ?_
     exact At.back ((hq' ++ [a], wr', now ++ [a.1], .slice p7 (now.length + 1) c7)) ⟨rfl, rfl, rfl, rfl, trivial⟩ ⟨hG, by simp at hg1 ⊢; omega, by simp at hg2' ⊢; omega, _, Lo, _, Dw, Ln, by simp only [List.length_append, qCs_app]; exact how, hW2, by simp only [List.length_append, zInts, List.map_append] at how7 ⊢; exact how7, M.tail⟩ (by first | omega | (simp only; omega) | (simp; done) | (simp; omega))
    ·intro hco5
     have hG2 : grantQ hq' (a :: wr') now = (hq', a :: wr', now) := by show (if mayQ hq' a.2 = true then _ else _) = _; rw [if_neg (by rw [hco5]; decide)]
     rw [hG2] at hG
     have hne : hq'.length ≠ 0 := fun e => by rw [List.length_eq_zero_iff.1 e] at hco5; cases hco5
     refine go 2 ?_
     refine x_eqi false rfl rfl rfl rfl rfl (by rw [beq_eq_false_iff_ne]; omega) ?_
     refine go 1 ?_
     obtain ⟨s', g1, g2, g3⟩ := hback ⟨kk, xb, _, D', _, Dw⟩ (hq', a :: wr') hk rfl ⟨hO', hW'⟩
     have M3 : Sep w00 ((xb, .cells [.slice ph' hq'.length ch', (.slice (some ⟨bw', ow', none⟩) (a :: wr').length cw')].toArray 140 (0, 0)) :: (D' ++ (Dw ++ (((s.bl, .cells [.map (some s.bm)].toArray 107 (0, 0)) :: (s.bm, s.om) :: R) ++ (Dn ++ X))))) _ := M.tail.perm (perm_c fun p => by simp only [List.countP_append, List.countP_cons, List.countP_nil]; omega)
     exact ⟨s', 0, _, Dn, rfl, by rw [hF, hG]; exact hN', g1, by rw [hF, hG]; exact g2, (lk_out ⟨kk, xb, _, D', _, Dw⟩ M3 g3).perm (perm_c fun p => by simp only [List.countP_append]; omega)⟩
   ·intro hsp2
    obtain rfl : wq = [] := List.length_eq_zero_iff.1 (by omega)
    have hG2 : grantQ hq' [] now = (hq', [], now) := rfl
    rw [hG2] at hG
    refine cnd 3 ?_ ?_
    ·intro hco8
     obtain rfl : hq' = [] := List.length_eq_zero_iff.1 (by omega)
     have hbl : w.heap[s.bl]? = some (.cells [.map (some s.bm)].toArray 107 (0, 0)) := M.get (by simp)
     have hom : w.heap[s.bm]? = some s.om := M.get (by simp)
     refine go 0 ?_
     refine x_ld rfl rfl rfl Try.underlying105 rfl rfl (cell_of hbl rfl) ?_
     refine go 0 ?_
     refine x_del (enc := strV) key rfl rfl rfl (strKey Try.underlying9) Try.underlying105 rfl rfl rfl hom hR.mp ?_
     intro ode1 wde1 hmde1 hwde1
     have M : Sep w00 ((s.bm, s.om) :: ((s.bl, .cells [.map (some s.bm)].toArray 107 (0, 0)) :: (R ++ (Dn ++ (X ++ ((bbx1, .cells [.int .i64 who].toArray 3 (0, 0)) :: (xb, .cells [.slice ph' ([] : List Qa).length ch', .slice pw' ([] : List Qa).length cw'].toArray 140 (0, 0)) :: (D' ++ Dw))))))) w := M.perm (perm_c fun p => by simp only [List.countP_append, List.countP_cons, List.countP_nil]; omega)
     have M := M.put 0 rfl hwde1
     refine ⟨trivial, ?_⟩
     refine go 1 ?_
     obtain ⟨s', g1, g2, g3⟩ := hdel ode1 hmde1
     have M : Sep w00 ((s.bm, ode1) :: ((s.bl, .cells [.map (some s.bm)].toArray 107 (0, 0)) :: (R ++ (Dn ++ (X ++ ((bbx1, .cells [.int .i64 who].toArray 3 (0, 0)) :: (xb, .cells [.slice ph' ([] : List Qa).length ch', .slice pw' ([] : List Qa).length cw'].toArray 140 (0, 0)) :: (D' ++ Dw))))))) _ := M
     have M3 : Sep w00 (((bbx1, .cells [.int .i64 who].toArray 3 (0, 0)) :: (xb, .cells [.slice ph' ([] : List Qa).length ch', .slice pw' ([] : List Qa).length cw'].toArray 140 (0, 0)) :: (D' ++ Dw)) ++ (((s.bl, .cells [.map (some s.bm)].toArray 107 (0, 0)) :: (s.bm, ode1) :: R) ++ (Dn ++ X))) _ := M.perm (perm_c fun p => by simp only [List.countP_append, List.countP_cons, List.countP_nil]; omega)
     have M4 := (M3.dropL).perm (g3.append_right (Dn ++ X))
     exact ⟨s', 0, _, Dn, rfl, by rw [hF, hG]; exact hN', g1, by rw [hF, hG]; exact g2, M4.perm (perm_c fun p => by simp only [List.countP_append]; omega)⟩
    ·intro hco8
     refine go 1 ?_
     obtain ⟨s', g1, g2, g3⟩ := hback ⟨kk, xb, _, D', _, Dw⟩ (hq', []) hk rfl ⟨hO', hW'⟩
     have M3 : Sep w00 ((xb, .cells [.slice ph' hq'.length ch', .slice pw' ([] : List Qa).length cw'].toArray 140 (0, 0)) :: (D' ++ (Dw ++ (((s.bl, .cells [.map (some s.bm)].toArray 107 (0, 0)) :: (s.bm, s.om) :: R) ++ (Dn ++ X))))) _ := M.tail.perm (perm_c fun p => by simp only [List.countP_append, List.countP_cons, List.countP_nil]; omega)
     exact ⟨s', 0, _, Dn, rfl, by rw [hF, hG]; exact hN', g1, by rw [hF, hG]; exact g2, (lk_out ⟨kk, xb, _, D', _, Dw⟩ M3 g3).perm (perm_c fun p => by simp only [List.countP_append]; omega)⟩

end Go.Proofs.Ytebfjdolgchgaaa

namespace Go.Proofs.Ytebfjdolgchgaaa
open Go Go.Fw Go.RowKit
set_option linter.unusedVariables false
set_option linter.unusedSimpArgs false

theorem RI.hlen {l : List Raw} {hl : List Opn} (h : RI l hl) : hl.length ≤ 128 := by
 let g : Nat → Nat → Int × Int := fun a b => ((a : Int), (b : Int) + 1)
 have h2 := nodup_le (l := hl.map fun x => (x.1, x.2.1)) (d := (List.range 8).flatMap fun a => (List.range 16).map (g a)) h.nd (fun x hx => by
  obtain ⟨y, hy, rfl⟩ := List.mem_map.1 hx
  obtain ⟨g1, g2, g3, g4⟩ := h.kr y hy
  refine List.mem_flatMap.2 ⟨y.1.toNat, List.mem_range.2 (by omega), List.mem_map.2 ⟨(y.2.1 - 1).toNat, List.mem_range.2 (by omega), ?_⟩⟩
  show (((y.1.toNat : Nat) : Int), (((y.2.1 - 1).toNat : Nat) : Int) + 1) = (y.1, y.2.1)
  rw [Int.toNat_of_nonneg g1, Int.toNat_of_nonneg (by omega)]
  simp)
 rw [List.length_map] at h2
 refine Nat.le_trans h2 (Nat.le_of_eq ?_)
 rw [List.length_flatMap]
 simp only [List.length_map, List.length_range]
 decide

def OpsK (w00 : World) (L : List (Nat × Obj)) (v : Value) (l : List OpS) : Prop := ∃ R : List (OpS × Value), R.map (·.1) = l ∧ SgK w00 L v 9 l.length (R.flatMap fun x => opC x.1 x.2) ∧ ∀ x ∈ R, BytesK w00 L x.2 x.1.d
def ddR (d : Dd) (dv lv : Value) : List Value := [.int .i64 d.who, .int .i64 (d.n : Int), .int .i64 (d.bg : Int), .int .i64 d.en, .int .i64 d.r.e, .int .i64 d.r.h, .int .i64 d.r.n, dv, lv]
abbrev DdV := Dd × Value × Value
def ddV (x : DdV) : List Value := ddR x.1 x.2.1 x.2.2
def ddCs (R : List DdV) : List Value := R.flatMap ddV
def DdK (w00 : World) (L : List (Nat × Obj)) (x : DdV) : Prop := RsK w00 L (rsV x.1.r x.2.1 x.2.2) x.1.r
theorem ddCs_len (R : List DdV) : (ddCs R).length = R.length * 9 := flat_len (e1 := ddV) (fun _ _ => rfl)
theorem ddCs_app (a b : List DdV) : ddCs (a ++ b) = ddCs a ++ ddCs b := List.flatMap_append

structure CM where
 b : Nat
 v : Value
def nextF (st : Nat) : Nat := if st = 0 then 28 else if st = 1 then 45 else if st = 2 then 68 else 86
def cCs (bs i : Nat) (c : Cl) (v : Value) : List Value := [.int .i64 (i : Int), v, .int .i64 (c.n : Int), .func (.func (nextF c.st)) #[ptr bs] #[], .int .i64 (c.bg : Int), .int .i64 (c.dd : Int), strV c.key, .bool c.w]
def cBk (bs i : Nat) (c : Cl) (m : CM) : Nat × Obj := (m.b, .cells (cCs bs i c m.v).toArray 83 (0, 0))
def cliB (bs : Nat) : Nat → List Cl → List CM → List (Nat × Obj)
 | i, c :: cs, m :: ms => cBk bs i c m :: cliB bs (i + 1) cs ms
 | _, _, _ => []
structure VM where
 bp : Nat
 lk : LkS
 cv : Value
 cD : List (Nat × Obj)
 ov : Value
 oD : List (Nat × Obj)
 oR : List DdV
 cm : List CM
 u : Value
 hv : Value
structure VfI where
 bs : Nat
 cb : List Nat
def sysB (I : VfI) (m : VM) (s : Nat) : Nat × Obj := (I.bs, .cells [.iface 30 (ptr m.bp), ptr m.lk.bl, m.cv, m.ov, .int .i64 (s : Int)].toArray 77 (0, 0))
def plnB (m : VM) : Nat × Obj := (m.bp, .cells [m.u, m.hv].toArray 39 (0, 0))
def vmB (I : VfI) (S : VS) (m : VM) : List (Nat × Obj) := sysB I m S.s :: plnB m :: (lkB m.lk ++ (cliB I.bs 0 S.c m.cm ++ (m.cD ++ m.oD)))
structure VMR (w00 : World) (L : List (Nat × Obj)) (I : VfI) (S : VS) (m : VM) : Prop where
 lk : LR m.lk S.q
 cb : m.cm.map (·.b) = I.cb
 cl : m.cm.length = S.c.length
 cs : OwL m.cD m.cv 1 S.c.length (I.cb.map ptr)
 ls : ∀ (i : Nat) (c : Cl) (x : CM), S.c[i]? = some c → m.cm[i]? = some x → OpsK w00 L x.v c.l
 oo : m.oR.map (·.1) = S.o
 os : OwL m.oD m.ov 9 m.oR.length (ddCs m.oR)
 od : ∀ x ∈ m.oR, DdK w00 L x
 fs : FilesK w00 L m.u S.f
 hs : ∃ hl, hfL hl = S.h ∧ OpnK w00 L m.hv hl ∧ RI S.f hl
 vi : VI S
def VfW (w00 : World) (X : List (Nat × Obj)) (I : VfI) (S : VS) (w : World) : Prop :=
 ∃ m L, VMR w00 L I S m ∧ Sep w00 (X ++ (vmB I S m ++ L)) w
section
variable {w00 w0 w w1 : World} {X Y L L' : List (Nat × Obj)} {I : VfI} {S : VS} {m : VM} {i j : Nat} {c c' : Cl} {x x' : CM}
theorem VfW.frm (h : VfW w00 X I S w) : New w00 w := let ⟨_, _, _, M⟩ := h; M.frm
theorem VfW.at_ (h : VfW w00 X I S w) (k : Nat) {b : Nat} {o : Obj} (hk : X[k]? = some (b, o)) : w.heap[b]? = some o :=
 let ⟨_, _, _, M⟩ := h; M.get (List.mem_append_left _ (List.mem_of_getElem? hk))
theorem VfW.get (h : VfW w00 X I S w) {x : Nat × Obj} (hk : x ∈ X) : w.heap[x.1]? = some x.2 :=
 let ⟨_, _, _, M⟩ := h; M.get (List.mem_append_left _ hk)
theorem VfW.acons (h : VfW w00 X I S w) {o : Obj} {b : Nat} (hb : b = w.heap.size) (hw : w1 = w.alloc o) : VfW w00 ((b, o) :: X) I S w1 :=
 let ⟨m, L, h1, M⟩ := h; ⟨m, L, h1, M.acons hb hw⟩
theorem VfW.put (h : VfW w00 X I S w) (k : Nat) {b : Nat} {o0 o : Obj} (hk : X[k]? = some (b, o0)) (hw : w1 = w.putObj b o) : VfW w00 (X.set k (b, o)) I S w1 := by
 obtain ⟨m, L, h1, M⟩ := h
 have hl : k < X.length := (List.getElem?_eq_some_iff.1 hk).1
 have := M.put k (by rw [List.getElem?_append_left hl]; exact hk) hw (o := o)
 rw [List.set_append_left _ _ hl] at this
 exact ⟨m, L, h1, this⟩
theorem VfW.new (h : VfW w00 X I S w) (hn : New w w1) : VfW w00 X I S w1 := let ⟨m, L, h1, M⟩ := h; ⟨m, L, h1, M.new hn⟩
theorem VfW.drew (h : VfW w00 X I S w) (hw : w1 = w.drew) : VfW w00 X I S w1 := let ⟨m, L, h1, M⟩ := h; ⟨m, L, h1, M.drew hw⟩
theorem VfW.grow (h : VfW w00 X I S w) (hc : Sep w Y w1) : VfW w00 (Y ++ X) I S w1 := by
 obtain ⟨m, L, h1, M⟩ := h
 exact ⟨m, L, h1, by simpa only [List.append_assoc] using M.grow' hc⟩
theorem VfW.sub (h : VfW w00 X I S w) (hs : Y.Sublist X) : VfW w00 Y I S w := let ⟨m, L, h1, M⟩ := h; ⟨m, L, h1, M.sub (List.Sublist.append hs (List.Sublist.refl _))⟩
theorem VfW.tail {x : Nat × Obj} (h : VfW w00 (x :: X) I S w) : VfW w00 X I S w := h.sub (List.sublist_cons_self _ _)
theorem VfW.dropL (h : VfW w00 (Y ++ X) I S w) : VfW w00 X I S w := h.sub (List.sublist_append_right _ _)
theorem VfW.perm (h : VfW w00 X I S w) (hs : X.Perm Y) : VfW w00 Y I S w := let ⟨m, L, h1, M⟩ := h; ⟨m, L, h1, M.perm (hs.append_right _)⟩
theorem VfW.sep (h : VfW w00 X I S w) : Sep w00 X w := let ⟨_, _, _, M⟩ := h; M.dropR
theorem VfW.vi (h : VfW w00 X I S w) : VI S := let ⟨_, _, h1, _⟩ := h; h1.vi
theorem OpsK.mono {v : Value} {l : List OpS} (h : OpsK w00 L v l) (hs : ∀ y ∈ L, y ∈ L') : OpsK w00 L' v l := let ⟨R, h1, h2, h3⟩ := h; ⟨R, h1, h2.mono hs, fun x hx => (h3 x hx).mono hs⟩
theorem cliB_out (bs : Nat) : ∀ {cs : List Cl} {ms : List CM} {i k : Nat}, ms.length = cs.length → cs[i]? = some c → ms[i]? = some x →
  ∃ A B, cliB bs k cs ms = A ++ cBk bs (k + i) c x :: B ∧ ∀ c' x', cliB bs k (cs.set i c') (ms.set i x') = A ++ cBk bs (k + i) c' x' :: B
 | [], _, i, k, _, hc, _ => by simp at hc
 | a :: cs, [], i, k, hl, _, _ => by simp at hl
 | a :: cs, y :: ms, 0, k, hl, hc, hx => by
  simp at hc hx; subst hc; subst hx
  exact ⟨[], cliB bs (k + 1) cs ms, rfl, fun c' x' => rfl⟩
 | a :: cs, y :: ms, i + 1, k, hl, hc, hx => by
  obtain ⟨A, B, h1, h2⟩ := cliB_out bs (cs := cs) (ms := ms) (i := i) (k := k + 1) (by simpa using hl) (by simpa using hc) (by simpa using hx)
  refine ⟨cBk bs k a y :: A, B, ?_, fun c' x' => ?_⟩
  ·show cBk bs k a y :: cliB bs (k + 1) cs ms = _
   rw [h1, show k + 1 + i = k + (i + 1) by omega]; rfl
  ·show cBk bs k a y :: cliB bs (k + 1) (cs.set i c') (ms.set i x') = _
   rw [h2, show k + 1 + i = k + (i + 1) by omega]; rfl
theorem VMR.out (h : VMR w00 L I S m) (hc : S.c[i]? = some c) : ∃ x R, m.cm[i]? = some x ∧ I.cb[i]? = some x.b ∧ OpsK w00 L x.v c.l ∧
  (vmB I S m).Perm (cBk I.bs i c x :: sysB I m S.s :: plnB m :: (lkB m.lk ++ (m.oD ++ R))) ∧
  ∀ (S' : VS) (m' : VM) (c' : Cl) (x' : CM), S'.c = S.c.set i c' → m'.cm = m.cm.set i x' → m'.cD = m.cD → (cBk I.bs i c' x' :: sysB I m' S'.s :: plnB m' :: (lkB m'.lk ++ (m'.oD ++ R))).Perm (vmB I S' m') := by
 have hi : i < m.cm.length := by rw [h.cl]; exact (List.getElem?_eq_some_iff.1 hc).1
 have hx := List.getElem?_eq_getElem hi
 obtain ⟨A, B, h1, h2⟩ := cliB_out I.bs (k := 0) h.cl hc hx
 rw [Nat.zero_add] at h1 h2
 refine ⟨m.cm[i], A ++ (B ++ m.cD), hx, ?_, h.ls i c _ hc hx, ?_, fun S' m' c' x' e1 e2 e3 => ?_⟩
 ·rw [← h.cb, List.getElem?_map, hx]; rfl
 ·unfold vmB; rw [h1]
  exact perm_c fun p => by simp only [List.countP_append, List.countP_cons]; omega
 ·unfold vmB; rw [e1, e2, h2, e3]
  exact perm_c fun p => by simp only [List.countP_append, List.countP_cons]; omega
theorem VI.qlen (h : VI S) (key : List UInt8) : (S.q key).1.length ≤ 1000 ∧ (S.q key).2.length ≤ 1000 := by
 have h2 := nodup_le (l := ((S.q key).1 ++ (S.q key).2).map (·.1)) (d := (List.range 8).map fun a : Nat => (a : Int)) (h.qi key).one (fun x hx => by
  obtain ⟨y, hy, rfl⟩ := List.mem_map.1 hx
  obtain ⟨g1, g2⟩ := h.wh key y hy
  have := h.le
  exact List.mem_map.2 ⟨y.1.toNat, List.mem_range.2 (by omega), by omega⟩)
 rw [List.length_map, List.length_append, List.length_map, List.length_range] at h2
 omega
theorem VI.s (h : VI S) (k : Nat) : VI { S with s := k } := ⟨h.qi, h.wh, h.dd, h.st, h.le⟩
theorem VMR.upd (h : VMR w00 L I S m) (hx : m.cm[i]? = some x) {S' : VS} {m' : VM} (e1 : S'.c = S.c.set i c') (e2 : m'.cm = m.cm.set i x') (e3 : m'.cD = m.cD) (e4 : m'.cv = m.cv) (hb : x'.b = x.b) (hL : ∀ y ∈ L, y ∈ L')
  (hlk : LR m'.lk S'.q) (hls : OpsK w00 L' x'.v c'.l) (hoo : m'.oR.map (·.1) = S'.o) (hos : OwL m'.oD m'.ov 9 m'.oR.length (ddCs m'.oR)) (hod : ∀ x ∈ m'.oR, DdK w00 L' x)
  (hfs : FilesK w00 L' m'.u S'.f) (hhs : ∃ hl, hfL hl = S'.h ∧ OpnK w00 L' m'.hv hl ∧ RI S'.f hl) (hvi : VI S') : VMR w00 L' I S' m' := by
 refine ⟨hlk, ?_, by rw [e1, e2, List.length_set, List.length_set]; exact h.cl, by rw [e1, e3, e4, List.length_set]; exact h.cs, fun j d y hd hy => ?_, hoo, hos, hod, hfs, hhs, hvi⟩
 ·rw [e2, ← h.cb]
  apply List.ext_getElem?
  intro j
  rw [List.getElem?_map, List.getElem?_map, List.getElem?_set]
  by_cases e : i = j
  ·subst e
   rw [if_pos rfl, hx]
   have hlt := (List.getElem?_eq_some_iff.1 hx).1
   rw [if_pos hlt]
   simp [hb]
  ·rw [if_neg e]
 ·rw [e1, List.getElem?_set] at hd
  rw [e2, List.getElem?_set] at hy
  by_cases e : i = j
  ·subst e
   rw [if_pos rfl] at hd hy
   split at hd
   ·split at hy
    ·simp only [Option.some.injEq] at hd hy; subst hd; subst hy; exact hls
    ·cases hy
   ·cases hd
  ·rw [if_neg e] at hd hy
   exact (h.ls j d y hd hy).mono hL
theorem DdK.mono {y : DdV} (h : DdK w00 L y) (hs : ∀ y ∈ L, y ∈ L') : DdK w00 L' y := RsK.mono h hs
theorem VfW.shut {S' : VS} {m' : VM} {bk sy pl : Nat × Obj} {lk oD R : List (Nat × Obj)} (hR' : VMR w00 L' I S' m') (hp : (bk :: sy :: pl :: (lk ++ (oD ++ R))).Perm (vmB I S' m')) (M : Sep w00 (bk :: sy :: pl :: (lk ++ (oD ++ (R ++ (L' ++ X))))) w) : VfW w00 X I S' w :=
 ⟨m', L', hR', M.perm (((by simp only [List.append_assoc, List.cons_append]; exact List.Perm.refl _ : (bk :: sy :: pl :: (lk ++ (oD ++ (R ++ (L' ++ X))))).Perm ((bk :: sy :: pl :: (lk ++ (oD ++ R))) ++ (L' ++ X)))).trans ((hp.append_right _).trans (perm_c fun p => by simp only [List.countP_append]; omega)))⟩
theorem set_same {α : Type} {l : List α} {a : α} {i : Nat} (h : l[i]? = some a) : l = l.set i a := by
 apply List.ext_getElem?
 intro j
 rw [List.getElem?_set]
 split
 ·rename_i e; subst e; rw [if_pos (List.getElem?_eq_some_iff.1 h).1]; exact h
 ·rfl
end
end Go.Proofs.Ytebfjdolgchgaaa

namespace Go.Proofs.Ytebfjdolgchgaaa
open Go Go.Fw Go.RowKit Go.Proofs
set_option linter.unusedVariables false
set_option linter.unusedSimpArgs false
set_option maxRecDepth 100000
set_option maxHeartbeats 4000000

-- (*valise/vfs.client).op
theorem cop_c {w00 w0 : World} {X L : List (Nat × Obj)} {b Tb : Nat} {fr : Nat × Nat} {cs : List Value} {v : Value} {o : OpS} {r : List OpS} (M' : Sep w00 X w0) (hs : ∀ y ∈ L, y ∈ X) (hb : w0.heap[b]? = some (.cells cs.toArray Tb fr)) (hc : cs[1]? = some v) (hv : OpsK w00 L v (o :: r)) : Ret Try.prog 44 #[ptr b] w0 fun rr w' => ∃ dv, rr = .agg (opC o dv).toArray ∧ BytesK w00 L dv o.d ∧ New w0 w' := by
 obtain ⟨R, hR, hsg, hdd⟩ := hv
 have hsg := hsg _ _ M' hs
 cases R with
 | nil => cases hR
 | cons y R' =>
 obtain ⟨o', dv⟩ := y
 simp only [List.map_cons, List.cons.injEq] at hR
 obtain ⟨rfl, rfl⟩ := hR
 have hbd := hdd _ List.mem_cons_self
 obtain ⟨p, cap, rfl⟩ := hsg.shape
 obtain ⟨b2, off, rfl, _⟩ := Sg.blk (j := 0) hsg (by simp)
 obtain ⟨pd, cd, hdvs⟩ := Sg.shape (hbd _ _ M' hs)
 simp only at hdvs
 subst hdvs
 have M : Sep w0 [] w0 := St.nil w0
 refine Ret.of_W Try.func44 rfl Try.ntmps44 rfl ?_
 refine go 1 ?_
 intro _ _ M
 refine go 0 ?_
 refine x_ld rfl rfl rfl Try.underlying62 rfl rfl (cell_of (New.keep M.frm hb) (by simpa using hc)) ?_
 refine x_ia 0 rfl rfl rfl Try.underlying62 sz66 rfl rfl rfl (by simp) ?_
 refine x_ldA [_, _, _, _, _, _, _, _, _] rfl rfl rfl Try.underlying66 rfl sz66 rfl rfl ((((Sg.sl hsg (by simp)).new M.frm).row (j := 0) (l := opC o' (.slice pd o'.d.length cd)) rfl (by simp [opC]) (by simp [opC]))) ?_
 refine go 1 ?_
 intro _ M
 refine go 1 ?_
 exact ⟨_, rfl, hbd, M.frm⟩

-- valise/vfs.changes
theorem vchg_c {w0 : World} {o : OpS} {dv : Value} : Ret Try.prog 43 #[.agg (opC o dv).toArray] w0 fun r w' => r = .bool (chgO o) ∧ New w0 w' := by
 have M : Sep w0 [] w0 := St.nil w0
 refine Ret.of_W Try.func43 rfl Try.ntmps43 rfl ?_
 refine go 1 ?_
 intro _ _ M
 refine cnd 2 ?_ ?_
 ·intro hco1
  rw [show (o.k == 6) = true by rw [hco1]; rfl]
  refine go 1 ?_
  exact ⟨by unfold chgO; simp [hco1], M.frm⟩
 ·intro hco1
  refine cnd 1 ?_ ?_
  ·intro hco3
   rw [show (o.k == 7) = true by rw [hco3]; rfl]
   refine go 1 ?_
   exact ⟨by unfold chgO; simp [hco3], M.frm⟩
  ·intro hco3
   refine cnd 1 ?_ ?_
   ·intro hco5
    rw [show (o.k == 8) = true by rw [hco5]; rfl]
    refine go 1 ?_
    exact ⟨by unfold chgO; simp [hco5], M.frm⟩
   ·intro hco5
    refine cnd 1 ?_ ?_
    ·intro hco7
     refine go 1 ?_
     exact ⟨by unfold chgO; simp [hco7], M.frm⟩
    ·intro hco7
     refine cnd 1 ?_ ?_
     ·intro hco8
      refine go 2 ?_
      exact ⟨by unfold chgO; simp [hco8], M.frm⟩
     ·intro hco8
      refine go 1 ?_
      exact ⟨by unfold chgO; simp [hco1, hco3, hco5, hco7, hco8], M.frm⟩

-- (*valise/vfs.Sys).begin
theorem vbegin_c {w00 w0 : World} {X : List (Nat × Obj)} {I : VfI} {S : VS} {i b : Nat} {c : Cl} {o : OpS} {r : List OpS} (M : VfW w00 X I S w0) (hc : S.c[i]? = some c) (hl : c.l = o :: r) (hcb : I.cb[i]? = some b) (hst : c.st = 0) : Ret Try.prog 28 #[ptr I.bs, ptr b] w0 fun rr w' => rr = .tuple #[] ∧ VfW w00 X I { beginS S i c o with s := S.s } w' := by
 obtain ⟨m, L, hR, M⟩ := M
 obtain ⟨x, R, hx, hxb, hops, hperm, hback⟩ := hR.out hc
 rw [hcb] at hxb
 simp only [Option.some.injEq] at hxb
 subst hxb
 rw [hl] at hops
 have hi8 : (i : Int) < 8 := by have := hR.vi.le; have := (List.getElem?_eq_some_iff.1 hc).1; omega
 have M : Sep w00 ((x.b, .cells [.int .i64 (i : Int), x.v, .int .i64 (c.n : Int), .func (.func (nextF c.st)) #[ptr I.bs] #[], .int .i64 (c.bg : Int), .int .i64 (c.dd : Int), strV c.key, .bool c.w].toArray 83 (0, 0)) :: (I.bs, .cells [.iface 30 (ptr m.bp), ptr m.lk.bl, m.cv, m.ov, .int .i64 (S.s : Int)].toArray 77 (0, 0)) :: (m.bp, .cells [m.u, m.hv].toArray 39 (0, 0)) :: (lkB m.lk ++ (m.oD ++ (R ++ (L ++ X))))) w0 := M.perm (List.Perm.trans (List.perm_append_comm.trans ((hperm.append_right L).append_right X)) (by simp only [cBk, cCs, sysB, plnB, List.append_assoc, List.cons_append]; exact List.Perm.refl _))
 refine Ret.of_W Try.func28 rfl Try.ntmps28 rfl ?_
 refine go 1 ?_
 refine x_st [_] _ rfl rfl rfl sz3 rfl rfl rfl rfl atM rfl rfl rfl ?_
 intro wst1 hwst1
 have M : Sep w00 ((x.b, .cells [.int .i64 (i : Int), x.v, .int .i64 (c.n : Int), .func (.func (nextF c.st)) #[ptr I.bs] #[], .int .i64 (S.s : Int), .int .i64 (c.dd : Int), strV c.key, .bool c.w].toArray 83 (0, 0)) :: (I.bs, .cells [.iface 30 (ptr m.bp), ptr m.lk.bl, m.cv, m.ov, .int .i64 (S.s : Int)].toArray 77 (0, 0)) :: (m.bp, .cells [m.u, m.hv].toArray 39 (0, 0)) :: (lkB m.lk ++ (m.oD ++ (R ++ (L ++ X))))) wst1 := M.put 0 rfl hwst1
 refine ⟨trivial, ?_⟩
 refine go 0 ?_
 refine W.regD (by kernel_rfl) #[0, 1, 3, 7, 0, 16, 48, 112, 0, 256, 768, 2047, 4095, 8191, 8191, 16383, 65535] [(0, false), (1, false), (2, false), (3, false), (4, false), (5, false), (6, false), (7, false), (8, false), (9, true), (10, true), (11, true), (12, false), (13, false), (14, false), (15, false), (16, false)] (by kernel_rfl) ?_
 intro K wD1 hK hwD1
 have M := M.drew hwD1
 refine go 2 ?_
 refine x_call rfl rfl rfl rfl rfl en44 (cop_c (L := L) (v := x.v) M (fun y hy => by simp [hy]) (M.at_ 0 rfl) rfl hops) ?_
 rintro r_ wcall1 ⟨dv, rfl, hdv, hn1⟩
 have M := M.new hn1
 refine pnd ?_
 refine x_call rfl rfl rfl rfl rfl en43 (vchg_c) ?_
 rintro r_ wcall2 ⟨rfl, hn2⟩
 have M := M.new hn2
 refine pnd ?_
 refine x_call rfl rfl rfl rfl rfl en42 (lask_c (key := []) (M.perm (show List.Perm _ (lkB m.lk ++ ((x.b, .cells [.int .i64 (i : Int), x.v, .int .i64 (c.n : Int), .func (.func (nextF c.st)) #[ptr I.bs] #[], .int .i64 (S.s : Int), .int .i64 (c.dd : Int), strV c.key, .bool c.w].toArray 83 (0, 0)) :: (I.bs, .cells [.iface 30 (ptr m.bp), ptr m.lk.bl, m.cv, m.ov, .int .i64 (S.s : Int)].toArray 77 (0, 0)) :: (m.bp, .cells [m.u, m.hv].toArray 39 (0, 0)) :: (m.oD ++ (R ++ (L ++ X))))) from (perm_c fun p => by simp only [List.countP_append, List.countP_cons, List.countP_nil]; omega))) hR.lk (hR.vi.qi []) (hR.vi.qlen []).1 (hR.vi.qlen []).2 (by omega) hi8) ?_
 rintro r_ wcall3 ⟨lk', e_, rfl, hbl, hLR, M⟩
 have M : Sep w00 ((x.b, .cells [.int .i64 (i : Int), x.v, .int .i64 (c.n : Int), .func (.func (nextF c.st)) #[ptr I.bs] #[], .int .i64 (S.s : Int), .int .i64 (c.dd : Int), strV c.key, .bool c.w].toArray 83 (0, 0)) :: (I.bs, .cells [.iface 30 (ptr m.bp), ptr m.lk.bl, m.cv, m.ov, .int .i64 (S.s : Int)].toArray 77 (0, 0)) :: (m.bp, .cells [m.u, m.hv].toArray 39 (0, 0)) :: (lkB lk' ++ (m.oD ++ (R ++ (L ++ X))))) _ := M.perm (perm_c fun p => by simp only [List.countP_append, List.countP_cons, List.countP_nil]; omega)
 refine pnd ?_
 refine go 2 ?_
 intro _ M
 refine go 2 ?_
 intro wst3 M
 refine go 1 ?_
 have hvi : VI { beginS S i c o with s := S.s } := by have := (hR.vi.step (o := o) hc).s S.s; unfold stepS at this; rw [if_pos hst] at this; exact this
 have hM : VMR w00 L I { beginS S i c o with s := S.s } { m with lk := lk' } := hR.upd (i := i) (x := x) (x' := x) (c' := { c with bg := S.s, w := !(askQ (S.q []) i (chgO o)).2.1, st := 1 }) hx rfl (set_same hx) rfl rfl rfl (fun y hy => hy) hLR (by rw [show ({ c with bg := S.s, w := !(askQ (S.q []) i (chgO o)).2.1, st := 1 } : Cl).l = c.l from rfl, hl]; exact hops) hR.oo hR.os hR.od hR.fs hR.hs hvi
 have M2 : Sep w00 (cBk I.bs i { c with bg := S.s, w := !(askQ (S.q []) i (chgO o)).2.1, st := 1 } x :: sysB I { m with lk := lk' } S.s :: plnB m :: (lkB lk' ++ (m.oD ++ (R ++ (L ++ X))))) wst3 := by unfold sysB; simp only [hbl]; exact M
 exact ⟨rfl, VfW.shut hM (hback _ { m with lk := lk' } { c with bg := S.s, w := !(askQ (S.q []) i (chgO o)).2.1, st := 1 } x rfl (set_same hx) rfl) M2⟩

end Go.Proofs.Ytebfjdolgchgaaa

namespace Go.Proofs.Ytebfjdolgchgaaa
open Go Go.Fw Go.RowKit Go.Proofs
set_option linter.unusedVariables false
set_option linter.unusedSimpArgs false
set_option maxRecDepth 100000
set_option maxHeartbeats 4000000

-- (valise/valiseref19.FS).File
theorem fsfile_c {w0 : World} {u hv : Value} {hl : List Opn} {who n : Int} (h : OpnAt w0 hv hl) (hlen : hl.length ≤ 100000) : Ret Try.prog 32 #[.agg #[u, hv], .int .i64 who, .int .i64 n] w0 fun r w' => r = strV (fileP (hfL hl) who n) ∧ New w0 w' := by
 have M : Sep w0 [] w0 := St.nil w0
 obtain ⟨ph, chh, rfl⟩ := Sg.shape h
 have hat := atO_cases hl who n
 refine Ret.of_W Try.func32 rfl Try.ntmps32 rfl ?_
 refine go 1 ?_
 intro _ _ M
 refine go 1 ?_
 refine x_call rfl rfl rfl rfl rfl en50 (rat_c (h.new M.frm) hlen) ?_
 rintro r_ wcall1 ⟨rfl, hncall1⟩
 have M := M.new hncall1
 refine ⟨trivial, ?_⟩
 refine cnd 1 ?_ ?_
 ·intro hco1
  rcases hat with ⟨_, _, _, _, h1, _⟩ | ⟨_, _, hno⟩
  ·omega
  refine go 1 ?_
  exact ⟨by unfold fileP; rw [hno]; rfl, M.frm⟩
 ·intro hco1
  rcases hat with ⟨j, x, hx, hxo, hatj, _, hsome⟩ | ⟨_, h1, _⟩
  rotate_left
  ·omega
  rw [hatj]
  have hj := (List.getElem?_eq_some_iff.1 hx).1
  obtain ⟨bb, off, rfl, _⟩ := OpnAt.blk (h.new M.frm) (j := j) (by omega)
  have hrow := OpnAt.row (h.new M.frm) hx
  refine go 1 ?_
  refine x_ia j rfl rfl rfl Try.underlying34 sz118 rfl rfl rfl (by omega) ?_
  refine go 0 ?_
  refine x_ld rfl rfl rfl Try.underlying9 rfl rfl (RowAt.cell hrow (j := 2) rfl) ?_
  refine go 1 ?_
  exact ⟨by unfold fileP; rw [hsome], M.frm⟩

-- (*valise/valiselaw20.plain).File
theorem pfile_c {w0 : World} {u hv : Value} {hl : List Opn} {bp : Nat} {who n : Int} (hb : w0.heap[bp]? = some (.cells [u, hv].toArray 39 (0, 0))) (h : OpnAt w0 hv hl) (hlen : hl.length ≤ 100000) : Ret Try.prog 113 #[ptr bp, .int .i64 who, .int .i64 n] w0 fun r w' => r = strV (fileP (hfL hl) who n) ∧ New w0 w' := by
 have M : Sep w0 [] w0 := St.nil w0
 refine Ret.of_W Try.func113 rfl Try.ntmps113 rfl ?_
 refine go 0 ?_
 refine x_ldA [_, _] rfl rfl rfl Try.underlying36 rfl sz36 rfl rfl ⟨_, _, _, hb, rfl⟩ ?_
 refine go 0 ?_
 refine x_call rfl rfl rfl rfl rfl en32 (fsfile_c h hlen) ?_
 rintro r_ wcall1 ⟨rfl, hncall1⟩
 have M := M.new hncall1
 refine ⟨trivial, ?_⟩
 refine go 1 ?_
 exact ⟨rfl, M.frm⟩

-- (*valise/valiselaw20.plain).Do
theorem pdo_c {w00 w0 : World} {X L : List (Nat × Obj)} {u hv : Value} {l : List Raw} {hl : List Opn} {bp : Nat} {who : Int} {o : OpS} {dv : Value} (M : Sep w00 ((bp, .cells [u, hv].toArray 39 (0, 0)) :: (X ++ L)) w0) (hF : FilesK w00 L u l) (hO : OpnK w00 L hv hl) (hI : RI l hl) (hlen : hl.length ≤ 1000) (hdv : BytesK w00 L dv o.d) (hod : o.d.length ≤ 131072) : Ret Try.prog 112 #[ptr bp, .int .i64 who, .agg (opC o dv).toArray] w0 fun r w' => ∃ u' hv' hl' L', RsK w00 (L ++ L') r (doS l (hfL hl) who o).1 ∧ FilesK w00 (L ++ L') u' (doS l (hfL hl) who o).2.1 ∧ OpnK w00 (L ++ L') hv' hl' ∧ RI (doS l (hfL hl) who o).2.1 hl' ∧ hfL hl' = (doS l (hfL hl) who o).2.2 ∧ Sep w00 ((bp, .cells [u', hv'].toArray 39 (0, 0)) :: (X ++ (L ++ L'))) w' := by
 have hLL : ∀ y ∈ L, y ∈ (bp, .cells [u, hv].toArray 39 (0, 0)) :: (X ++ L) := fun y hy => by simp [hy]
 obtain ⟨pd, cd, rfl⟩ := (hdv _ _ M hLL).shape
 obtain ⟨pu, cu, rfl⟩ := (hF.at_ M hLL).shape
 obtain ⟨ph, ch, rfl⟩ := Sg.shape (hO _ _ M hLL)
 refine Ret.of_W Try.func112 rfl Try.ntmps112 rfl ?_
 refine go 1 ?_
 intro _ _ M
 refine go 1 ?_
 intro _ _ M
 refine go 0 ?_
 refine W.regT (by kernel_rfl) #[0, 1, 3, 7, 0, 0, 63, 127, 255, 255, 0, 0, 3583, 8191] (.tri [(0, false), (1, false), (2, false), (3, false), (4, false), (5, false)] 6 (.par [(7, false), (8, false), (9, false)] 10 (.leaf [(11, true), (12, true), (13, true)]) 11 (.leaf [(10, true), (12, true), (13, true)])) 10 (.par [] 6 (.leaf [(7, false), (8, false), (9, false), (11, true), (12, true), (13, true)]) 11 (.leaf [(6, true), (7, false), (8, false), (9, false), (12, true), (13, true)])) 11 (.par [] 6 (.leaf [(7, false), (8, false), (9, false), (10, true), (12, true), (13, true)]) 10 (.leaf [(6, true), (7, false), (8, false), (9, false), (12, true), (13, true)]))) (by kernel_rfl) ?_
 intro K wD1 hK hwD1
 have M := M.drew hwD1
 refine ExT.tri ?_
 refine go 2 ?_
 refine Ex.fork ?_
 refine ⟨?_, ?_, ?_⟩
 ·refine x_call rfl rfl rfl rfl rfl en24 (fdo_c (X := _ :: _ :: _ :: X) M hF hO hI hlen hdv hod) ?_
  rintro r_ w1_ ⟨pu', cu', ph', ch', hl', L', rv, rfl, ⟨q1, k1, q2, k2, rfl, hr4, hr5⟩, hF', hO', hI', hh', hln', M⟩
  have M : Sep w00 (_ :: _ :: _ :: (X ++ (L ++ L'))) _ := M
  refine pnd ?_
  refine Ex.fork ?_
  refine ExT.par ?_
  refine go 0 ?_
  refine Ex.fork ?_
  refine ⟨?_, ?_⟩
  ·refine x_alloc [_, _] rfl rfl rfl ze36 rfl ?_
   intro bal2 wal2 hbal2 hwal2
   have M := M.acons hbal2 hwal2
   refine pnd ?_
   refine Ex.fork ?_
   refine ExT.leaf ?_
   refine x_alloc [_, _, _, _, _] rfl rfl rfl ze59 rfl ?_
   intro bal3 wal3 hbal3 hwal3
   have M := M.acons hbal3 hwal3
   refine pnd ?_
   refine x_st [_, _] _ rfl rfl rfl sz36 rfl rfl rfl rfl atM rfl rfl rfl ?_
   intro wst1 hwst1
   have M := by first | exact M.put 0 rfl hwst1 | exact M.put 1 rfl hwst1 | exact M.put 2 rfl hwst1 | exact M.put 3 rfl hwst1 | exact M.put 4 rfl hwst1 | exact M.put 5 rfl hwst1 | exact M.put 6 rfl hwst1 | exact M.put 7 rfl hwst1
   refine pnd ?_
   refine x_st [_, _, _, _, _] _ rfl rfl rfl sz59 rfl rfl rfl rfl atM rfl rfl rfl ?_
   intro wst2 hwst2
   have M := by first | exact M.put 0 rfl hwst2 | exact M.put 1 rfl hwst2 | exact M.put 2 rfl hwst2 | exact M.put 3 rfl hwst2 | exact M.put 4 rfl hwst2 | exact M.put 5 rfl hwst2 | exact M.put 6 rfl hwst2 | exact M.put 7 rfl hwst2
   refine pnd ?_
   refine go 2 ?_
   intro _ M
   refine go 2 ?_
   intro _ M
   refine go 1 ?_
   exact ⟨_, _, hl', L', ⟨q1, k1, q2, k2, rfl, hr4, hr5⟩, hF', hO', hI', hh', M.tail.tail.tail.tail⟩
  ·refine x_alloc [_, _, _, _, _] rfl rfl rfl ze59 rfl ?_
   intro bal4 wal4 hbal4 hwal4
   have M := M.acons hbal4 hwal4
   refine pnd ?_
   refine Ex.fork ?_
   refine ExT.leaf ?_
   refine x_alloc [_, _] rfl rfl rfl ze36 rfl ?_
   intro bal5 wal5 hbal5 hwal5
   have M := M.acons hbal5 hwal5
   refine pnd ?_
   refine x_st [_, _] _ rfl rfl rfl sz36 rfl rfl rfl rfl atM rfl rfl rfl ?_
   intro wst5 hwst5
   have M := by first | exact M.put 0 rfl hwst5 | exact M.put 1 rfl hwst5 | exact M.put 2 rfl hwst5 | exact M.put 3 rfl hwst5 | exact M.put 4 rfl hwst5 | exact M.put 5 rfl hwst5 | exact M.put 6 rfl hwst5 | exact M.put 7 rfl hwst5
   refine pnd ?_
   refine x_st [_, _, _, _, _] _ rfl rfl rfl sz59 rfl rfl rfl rfl atM rfl rfl rfl ?_
   intro wst6 hwst6
   have M := by first | exact M.put 0 rfl hwst6 | exact M.put 1 rfl hwst6 | exact M.put 2 rfl hwst6 | exact M.put 3 rfl hwst6 | exact M.put 4 rfl hwst6 | exact M.put 5 rfl hwst6 | exact M.put 6 rfl hwst6 | exact M.put 7 rfl hwst6
   refine pnd ?_
   refine go 2 ?_
   intro _ M
   refine go 2 ?_
   intro _ M
   refine go 1 ?_
   exact ⟨_, _, hl', L', ⟨q1, k1, q2, k2, rfl, hr4, hr5⟩, hF', hO', hI', hh', M.tail.tail.tail.tail⟩
 ·refine x_alloc [_, _] rfl rfl rfl ze36 rfl ?_
  intro bal6 wal6 hbal6 hwal6
  have M := M.acons hbal6 hwal6
  refine pnd ?_
  refine Ex.fork ?_
  refine ExT.par ?_
  refine Ex.fork ?_
  refine ⟨?_, ?_⟩
  ·refine x_call rfl rfl rfl rfl rfl en24 (fdo_c (X := _ :: _ :: _ :: _ :: X) M hF hO hI hlen hdv hod) ?_
   rintro r_ w2_ ⟨pu', cu', ph', ch', hl', L', rv, rfl, ⟨q1, k1, q2, k2, rfl, hr4, hr5⟩, hF', hO', hI', hh', hln', M⟩
   have M : Sep w00 (_ :: _ :: _ :: _ :: (X ++ (L ++ L'))) _ := M
   refine pnd ?_
   refine Ex.fork ?_
   refine ExT.leaf ?_
   refine go 0 ?_
   refine x_alloc [_, _, _, _, _] rfl rfl rfl ze59 rfl ?_
   intro bal7 wal7 hbal7 hwal7
   have M := M.acons hbal7 hwal7
   refine pnd ?_
   refine x_st [_, _] _ rfl rfl rfl sz36 rfl rfl rfl rfl atM rfl rfl rfl ?_
   intro wst9 hwst9
   have M := by first | exact M.put 0 rfl hwst9 | exact M.put 1 rfl hwst9 | exact M.put 2 rfl hwst9 | exact M.put 3 rfl hwst9 | exact M.put 4 rfl hwst9 | exact M.put 5 rfl hwst9 | exact M.put 6 rfl hwst9 | exact M.put 7 rfl hwst9
   refine pnd ?_
   refine x_st [_, _, _, _, _] _ rfl rfl rfl sz59 rfl rfl rfl rfl atM rfl rfl rfl ?_
   intro wst10 hwst10
   have M := by first | exact M.put 0 rfl hwst10 | exact M.put 1 rfl hwst10 | exact M.put 2 rfl hwst10 | exact M.put 3 rfl hwst10 | exact M.put 4 rfl hwst10 | exact M.put 5 rfl hwst10 | exact M.put 6 rfl hwst10 | exact M.put 7 rfl hwst10
   refine pnd ?_
   refine go 2 ?_
   intro _ M
   refine go 2 ?_
   intro _ M
   refine go 1 ?_
   exact ⟨_, _, hl', L', ⟨q1, k1, q2, k2, rfl, hr4, hr5⟩, hF', hO', hI', hh', M.tail.tail.tail.tail⟩
  ·refine x_alloc [_, _, _, _, _] rfl rfl rfl ze59 rfl ?_
   intro bal8 wal8 hbal8 hwal8
   have M := M.acons hbal8 hwal8
   refine pnd ?_
   refine Ex.fork ?_
   refine ExT.leaf ?_
   refine x_call rfl rfl rfl rfl rfl en24 (fdo_c (X := _ :: _ :: _ :: _ :: _ :: X) M hF hO hI hlen hdv hod) ?_
   rintro r_ w3_ ⟨pu', cu', ph', ch', hl', L', rv, rfl, ⟨q1, k1, q2, k2, rfl, hr4, hr5⟩, hF', hO', hI', hh', hln', M⟩
   have M : Sep w00 (_ :: _ :: _ :: _ :: _ :: (X ++ (L ++ L'))) _ := M
   refine pnd ?_
   refine go 0 ?_
   refine x_st [_, _] _ rfl rfl rfl sz36 rfl rfl rfl rfl atM rfl rfl rfl ?_
   intro wst13 hwst13
   have M := by first | exact M.put 0 rfl hwst13 | exact M.put 1 rfl hwst13 | exact M.put 2 rfl hwst13 | exact M.put 3 rfl hwst13 | exact M.put 4 rfl hwst13 | exact M.put 5 rfl hwst13 | exact M.put 6 rfl hwst13 | exact M.put 7 rfl hwst13
   refine pnd ?_
   refine x_st [_, _, _, _, _] _ rfl rfl rfl sz59 rfl rfl rfl rfl atM rfl rfl rfl ?_
   intro wst14 hwst14
   have M := by first | exact M.put 0 rfl hwst14 | exact M.put 1 rfl hwst14 | exact M.put 2 rfl hwst14 | exact M.put 3 rfl hwst14 | exact M.put 4 rfl hwst14 | exact M.put 5 rfl hwst14 | exact M.put 6 rfl hwst14 | exact M.put 7 rfl hwst14
   refine pnd ?_
   refine go 2 ?_
   intro _ M
   refine go 2 ?_
   intro _ M
   refine go 1 ?_
   exact ⟨_, _, hl', L', ⟨q1, k1, q2, k2, rfl, hr4, hr5⟩, hF', hO', hI', hh', M.tail.tail.tail.tail⟩
 ·refine x_alloc [_, _, _, _, _] rfl rfl rfl ze59 rfl ?_
  intro bal9 wal9 hbal9 hwal9
  have M := M.acons hbal9 hwal9
  refine pnd ?_
  refine Ex.fork ?_
  refine ExT.par ?_
  refine Ex.fork ?_
  refine ⟨?_, ?_⟩
  ·refine x_call rfl rfl rfl rfl rfl en24 (fdo_c (X := _ :: _ :: _ :: _ :: X) M hF hO hI hlen hdv hod) ?_
   rintro r_ w4_ ⟨pu', cu', ph', ch', hl', L', rv, rfl, ⟨q1, k1, q2, k2, rfl, hr4, hr5⟩, hF', hO', hI', hh', hln', M⟩
   have M : Sep w00 (_ :: _ :: _ :: _ :: (X ++ (L ++ L'))) _ := M
   refine pnd ?_
   refine Ex.fork ?_
   refine ExT.leaf ?_
   refine go 0 ?_
   refine x_alloc [_, _] rfl rfl rfl ze36 rfl ?_
   intro bal10 wal10 hbal10 hwal10
   have M := M.acons hbal10 hwal10
   refine pnd ?_
   refine x_st [_, _] _ rfl rfl rfl sz36 rfl rfl rfl rfl atM rfl rfl rfl ?_
   intro wst17 hwst17
   have M := by first | exact M.put 0 rfl hwst17 | exact M.put 1 rfl hwst17 | exact M.put 2 rfl hwst17 | exact M.put 3 rfl hwst17 | exact M.put 4 rfl hwst17 | exact M.put 5 rfl hwst17 | exact M.put 6 rfl hwst17 | exact M.put 7 rfl hwst17
   refine pnd ?_
   refine x_st [_, _, _, _, _] _ rfl rfl rfl sz59 rfl rfl rfl rfl atM rfl rfl rfl ?_
   intro wst18 hwst18
   have M := by first | exact M.put 0 rfl hwst18 | exact M.put 1 rfl hwst18 | exact M.put 2 rfl hwst18 | exact M.put 3 rfl hwst18 | exact M.put 4 rfl hwst18 | exact M.put 5 rfl hwst18 | exact M.put 6 rfl hwst18 | exact M.put 7 rfl hwst18
   refine pnd ?_
   refine go 2 ?_
   intro _ M
   refine go 2 ?_
   intro _ M
   refine go 1 ?_
   exact ⟨_, _, hl', L', ⟨q1, k1, q2, k2, rfl, hr4, hr5⟩, hF', hO', hI', hh', M.tail.tail.tail.tail⟩
  ·refine x_alloc [_, _] rfl rfl rfl ze36 rfl ?_
   intro bal11 wal11 hbal11 hwal11
   have M := M.acons hbal11 hwal11
   refine pnd ?_
   refine Ex.fork ?_
   refine ExT.leaf ?_
   refine x_call rfl rfl rfl rfl rfl en24 (fdo_c (X := _ :: _ :: _ :: _ :: _ :: X) M hF hO hI hlen hdv hod) ?_
   rintro r_ w5_ ⟨pu', cu', ph', ch', hl', L', rv, rfl, ⟨q1, k1, q2, k2, rfl, hr4, hr5⟩, hF', hO', hI', hh', hln', M⟩
   have M : Sep w00 (_ :: _ :: _ :: _ :: _ :: (X ++ (L ++ L'))) _ := M
   refine pnd ?_
   refine go 0 ?_
   refine x_st [_, _] _ rfl rfl rfl sz36 rfl rfl rfl rfl atM rfl rfl rfl ?_
   intro wst21 hwst21
   have M := by first | exact M.put 0 rfl hwst21 | exact M.put 1 rfl hwst21 | exact M.put 2 rfl hwst21 | exact M.put 3 rfl hwst21 | exact M.put 4 rfl hwst21 | exact M.put 5 rfl hwst21 | exact M.put 6 rfl hwst21 | exact M.put 7 rfl hwst21
   refine pnd ?_
   refine x_st [_, _, _, _, _] _ rfl rfl rfl sz59 rfl rfl rfl rfl atM rfl rfl rfl ?_
   intro wst22 hwst22
   have M := by first | exact M.put 0 rfl hwst22 | exact M.put 1 rfl hwst22 | exact M.put 2 rfl hwst22 | exact M.put 3 rfl hwst22 | exact M.put 4 rfl hwst22 | exact M.put 5 rfl hwst22 | exact M.put 6 rfl hwst22 | exact M.put 7 rfl hwst22
   refine pnd ?_
   refine go 2 ?_
   intro _ M
   refine go 2 ?_
   intro _ M
   refine go 1 ?_
   exact ⟨_, _, hl', L', ⟨q1, k1, q2, k2, rfl, hr4, hr5⟩, hF', hO', hI', hh', M.tail.tail.tail.tail⟩

end Go.Proofs.Ytebfjdolgchgaaa

namespace Go.Proofs.Ytebfjdolgchgaaa
open Go Go.Fw Go.RowKit
set_option linter.unusedVariables false
set_option linter.unusedSimpArgs false

theorem RI.pathLen {l : List Raw} {hl : List Opn} {who n : Int} (h : RI l hl) : (fileP (hfL hl) who n).length ≤ 120 := by
 unfold fileP
 rcases atO_cases hl who n with ⟨j, x, hx, _, _, _, h2⟩ | ⟨_, _, h2⟩
 ·rw [h2]
  obtain ⟨d, hd⟩ := h.ho x (List.mem_of_getElem? hx)
  exact (h.tr.row hd).2.2.1
 ·rw [h2]
  exact Nat.zero_le _
theorem askS_lock {S : VS} {i : Nat} {c : Cl} {o : OpS} {P : List UInt8} (h : lockO o = true) (hP : fileP S.h i o.h = P) : { askS S i c o with s := S.s } = { S with q := setQ S.q (47 :: P) (askQ (S.q (47 :: P)) i (!decide (o.k = 2))).1, c := S.c.set i { c with key := 47 :: P, w := !(askQ (S.q (47 :: P)) i (!decide (o.k = 2))).2.1, st := 2 } } := by
 subst hP; unfold askS; rw [if_pos h]
theorem askS_no {S : VS} {i : Nat} {c : Cl} {o : OpS} (h : lockO o = false) : { askS S i c o with s := S.s } = { S with c := S.c.set i { c with key := [], st := 2 } } := by
 unfold askS; rw [if_neg (by rw [h]; decide)]
theorem VI.askS {S : VS} {i : Nat} {c : Cl} {o : OpS} (h : VI S) (hc : S.c[i]? = some c) (hst : c.st = 1) : VI { askS S i c o with s := S.s } := by
 have := (h.step (o := o) hc).s S.s
 unfold stepS at this
 rw [if_neg (by omega), if_pos hst] at this
 exact this
theorem VI.commitS {S : VS} {i : Nat} {c : Cl} {o : OpS} (h : VI S) (hc : S.c[i]? = some c) (hst : c.st = 2) : VI { commitS S i c o with s := S.s } := by
 have := (h.step (o := o) hc).s S.s
 unfold stepS at this
 rw [if_neg (by omega), if_neg (by omega), if_pos hst] at this
 exact this
theorem ddCs_one {w00 : World} {L : List (Nat × Obj)} {R : List DdV} (h : ∀ x ∈ R, DdK w00 L x) : ∀ u ∈ ddCs R, u.oneCell' = true := by
 intro u hu
 obtain ⟨x, hx, hu⟩ := List.mem_flatMap.1 hu
 obtain ⟨p1, c1, p2, c2, e, _, _⟩ := h x hx
 obtain ⟨d, a, b⟩ := x
 simp only [rsV, Value.agg.injEq, Array.mk.injEq, List.cons.injEq, true_and, and_true] at e
 obtain ⟨e1, e2⟩ := e
 subst e1; subst e2
 simp only [ddV, ddR, List.mem_cons, List.not_mem_nil, or_false] at hu
 rcases hu with rfl | rfl | rfl | rfl | rfl | rfl | rfl | rfl | rfl <;> rfl
end Go.Proofs.Ytebfjdolgchgaaa
