/-
  Texts that belong together, laid into one file: P5, T2, V1, V2, V3, T3, T4, V4, V5, T1, T5, V6, V7, V8, V9, T6, T7, V10, V11, V12, T8, V13, V14, V15, T9, V16, T10, V17, T11, V18, T12.
-/
import Derived.Test.YtigfbpbnohkokaaGreatQ2
namespace Go.Proofs.YtigfbpbnohkokaaGreat
open Go Go.Fw
set_option linter.unusedVariables false
set_option linter.unusedSimpArgs false

theorem nameOK_ne {x : List UInt8} (h : nameOK x) : x ≠ [] ∧ x ≠ [46] ∧ x ≠ [46, 46] := ⟨fun e => by subst e; have := h.1; simp at this, h.2.2.1, h.2.2.2.1⟩
theorem allOK_no {l : List (List UInt8)} (h : allOK l) : ∀ x ∈ l, (47 : UInt8) ∉ x := fun x hx => nameOK_no (h x hx)
theorem joinS_nil {l : List (List UInt8)} (h : allOK l) : joinS l = [] ↔ l = [] := by
 constructor
 ·intro e
  match l, h, e with
  | [], _, _ => rfl
  | [p], h, e => exact absurd e (nameOK_ne (h p (by simp))).1
  | p :: q :: r, h, e => simp [joinS] at e
 ·rintro rfl; rfl
theorem namesP_join {l : List (List UInt8)} (h : allOK l) : namesP (joinS l) = l := by
 unfold namesP
 split
 ·rename_i e; exact ((joinS_nil h).1 e).symm
 ·rename_i e; exact splitS_joinS (fun e2 => e (by subst e2; rfl)) (allOK_no h)
theorem splitN_join {l : List (List UInt8)} (h1 : l.length ≤ 8) (h2 : allOK l) (h3 : (joinS l).length ≤ 120) : splitE (joinS l) = 0 ∧ splitN (joinS l) = l := by
 by_cases h : l = []
 ·subst h; exact ⟨rfl, rfl⟩
 ·have hs := splitS_joinS h (allOK_no h2)
  have := splitE_some (splitP_good (p := joinS l) (fun e => h ((joinS_nil h2).1 e)) h3 (by rw [hs]; exact ⟨h1, h2⟩))
  rw [hs] at this
  exact this

/-! ## What is clean -/
theorem clean_ok {s : List UInt8} (h : (cleanP s).2 = 0) : ∃ l, l.length ≤ 8 ∧ allOK l ∧ (joinS l).length ≤ 120 ∧ (cleanP s).1 = joinS l := by
 unfold cleanP at h ⊢
 split
 ·rename_i h1; rw [if_pos h1] at h; cases h
 ·rename_i h1
  rw [if_neg h1] at h
  unfold joinP at h ⊢
  by_cases h2 : (cleanL s).length ≤ 8 ∧ allOK (cleanL s) ∧ (joinS (cleanL s)).length ≤ 120
  ·exact ⟨cleanL s, h2.1, h2.2.1, h2.2.2, by rw [if_pos h2]⟩
  ·rw [if_neg h2] at h; cases h

/-! ## Order -/
theorem cmpL_cases : ∀ (a b : List (List UInt8)), compareL a b = -1 ∨ (compareL a b = 0 ∧ a = b) ∨ compareL a b = 1
 | [], [] => .inr (.inl ⟨rfl, rfl⟩)
 | [], _ :: _ => .inl rfl
 | _ :: _, [] => .inr (.inr rfl)
 | x :: a, y :: b => by
  unfold compareL
  rcases cmp_cases x y with h | ⟨h, rfl⟩ | h
  ·rw [if_pos (by omega)]; exact .inl h
  ·rw [if_neg (by omega)]
   rcases cmpL_cases a b with h2 | ⟨h2, rfl⟩ | h2
   ·exact .inl h2
   ·exact .inr (.inl ⟨h2, rfl⟩)
   ·exact .inr (.inr h2)
  ·rw [if_pos (by omega)]; exact .inr (.inr h)
theorem cmpL_self : ∀ a : List (List UInt8), compareL a a = 0
 | [] => rfl
 | x :: a => by unfold compareL; rw [if_neg (by rw [cmp_self]; simp)]; exact cmpL_self a
theorem cmpL_swap : ∀ a b : List (List UInt8), compareL b a = - compareL a b
 | [], [] => rfl
 | [], _ :: _ => rfl
 | _ :: _, [] => rfl
 | x :: a, y :: b => by
  have ih := cmpL_swap a b
  have h := cmp_swap x y
  conv => lhs; unfold compareL
  conv => rhs; unfold compareL
  by_cases h0 : Lib.compareBytes x y = 0
  ·rw [if_neg (by omega), if_neg (by omega), ih]
  ·rw [if_pos (by omega), if_pos h0, h]
theorem cmp_trans : ∀ {a b c : List UInt8}, Lib.compareBytes a b ≤ 0 → Lib.compareBytes b c ≤ 0 → Lib.compareBytes a c < 0 ∨ (Lib.compareBytes a b = 0 ∧ Lib.compareBytes b c = 0)
 | [], [], [], _, _ => .inr ⟨rfl, rfl⟩
 | [], [], _ :: _, _, _ => .inl (by show (-1 : Int) < 0; omega)
 | [], _ :: _, [], _, h => by exfalso; have : (1 : Int) ≤ 0 := h; omega
 | [], _ :: _, _ :: _, _, _ => .inl (by show (-1 : Int) < 0; omega)
 | _ :: _, [], _, h, _ => by exfalso; have : (1 : Int) ≤ 0 := h; omega
 | _ :: _, _ :: _, [], _, h => by exfalso; have : (1 : Int) ≤ 0 := h; omega
 | x :: a, y :: b, z :: c, h1, h2 => by
  unfold Lib.compareBytes at h1 h2 ⊢
  by_cases g1 : x < y
  ·by_cases g2 : y < z
   ·left; rw [if_pos (by rw [UInt8.lt_iff_toNat_lt] at *; omega)]; omega
   ·rw [if_neg g2] at h2
    by_cases g3 : z < y
    ·rw [if_pos g3] at h2; omega
    ·left; rw [if_pos (by rw [UInt8.lt_iff_toNat_lt] at *; omega)]; omega
  ·rw [if_neg g1] at h1
   by_cases g1' : y < x
   ·rw [if_pos g1'] at h1; omega
   ·have hxy : x = y := UInt8.toNat_inj.1 (by rw [UInt8.lt_iff_toNat_lt] at *; omega)
    subst hxy
    rw [if_neg g1'] at h1
    rw [if_neg (show ¬ x < x by rw [UInt8.lt_iff_toNat_lt]; omega), if_neg (show ¬ x < x by rw [UInt8.lt_iff_toNat_lt]; omega)]
    by_cases g2 : x < z
    ·left; rw [if_pos g2]; omega
    ·rw [if_neg g2] at h2
     by_cases g3 : z < x
     ·rw [if_pos g3] at h2; omega
     ·rw [if_neg g3] at h2
      rw [if_neg g2, if_neg g3]
      rw [if_neg g2, if_neg g3]
      exact cmp_trans h1 h2
theorem cmpL_trans : ∀ {a b c : List (List UInt8)}, compareL a b ≤ 0 → compareL b c ≤ 0 → compareL a c < 0 ∨ (compareL a b = 0 ∧ compareL b c = 0)
 | [], [], [], _, _ => .inr ⟨rfl, rfl⟩
 | [], [], _ :: _, _, _ => .inl (by show (-1 : Int) < 0; omega)
 | [], _ :: _, [], _, h => by exfalso; have : (1 : Int) ≤ 0 := h; omega
 | [], _ :: _, _ :: _, _, _ => .inl (by show (-1 : Int) < 0; omega)
 | _ :: _, [], _, h, _ => by exfalso; have : (1 : Int) ≤ 0 := h; omega
 | _ :: _, _ :: _, [], _, h => by exfalso; have : (1 : Int) ≤ 0 := h; omega
 | x :: a, y :: b, z :: c, h1, h2 => by
  have e1 : compareL (x :: a) (y :: b) = if Lib.compareBytes x y ≠ 0 then Lib.compareBytes x y else compareL a b := rfl
  have e2 : compareL (y :: b) (z :: c) = if Lib.compareBytes y z ≠ 0 then Lib.compareBytes y z else compareL b c := rfl
  have e3 : compareL (x :: a) (z :: c) = if Lib.compareBytes x z ≠ 0 then Lib.compareBytes x z else compareL a c := rfl
  rw [e1] at h1 ⊢
  rw [e2] at h2 ⊢
  rw [e3]
  have k1 : Lib.compareBytes x y ≤ 0 := by by_cases g : Lib.compareBytes x y = 0; omega; rw [if_pos g] at h1; exact h1
  have k2 : Lib.compareBytes y z ≤ 0 := by by_cases g : Lib.compareBytes y z = 0; omega; rw [if_pos g] at h2; exact h2
  rcases cmp_trans k1 k2 with h | ⟨g1, g2⟩
  ·left; rw [if_pos (by omega)]; exact h
  ·have hxy : x = y := by rcases cmp_cases x y with h | ⟨_, h⟩ | h; omega; exact h; omega
   subst hxy
   rw [if_neg (by omega)] at h1 h2
   rw [if_neg (by omega), if_neg (by omega), if_neg (by omega)]
   exact cmpL_trans h1 h2
theorem namesP_inj {a b : List UInt8} (h : namesP a = namesP b) : a = b := by
 have key : ∀ p, joinS (namesP p) = p := fun p => by
  unfold namesP; split
  ·rename_i h; rw [h]; rfl
  ·exact joinS_splitS p
 rw [← key a, ← key b, h]
theorem cmpP_cases (a b : List UInt8) : compareP a b = -1 ∨ (compareP a b = 0 ∧ a = b) ∨ compareP a b = 1 :=
 (cmpL_cases (namesP a) (namesP b)).imp id (fun h => h.imp (fun h => ⟨h.1, namesP_inj h.2⟩) id)
theorem cmpP_swap (a b : List UInt8) : compareP b a = - compareP a b := cmpL_swap _ _
theorem cmpP_self (a : List UInt8) : compareP a a = 0 := cmpL_self _
theorem cmpP_trans {a b c : List UInt8} (h1 : compareP a b ≤ 0) (h2 : compareP b c ≤ 0) : compareP a c < 0 ∨ (compareP a b = 0 ∧ compareP b c = 0) := cmpL_trans h1 h2

/-! ## What stands under a directory -/
theorem namesP_splitN {p : List UInt8} (h : splitE p = 0) : namesP p = splitN p := by
 rcases splitN_facts h with ⟨h1, h2⟩ | ⟨h1, h2, _⟩
 ·rw [h2, h1]; rfl
 ·rw [h2, namesP_some h1]
theorem under_facts {p dir : List UInt8} (h : underP p dir = true) : splitE p = 0 ∧ splitE dir = 0 ∧ ∃ c, namesP p = namesP dir ++ c := by
 rw [underP_eq, Bool.and_eq_true, Bool.and_eq_true, decide_eq_true_eq, decide_eq_true_eq, List.isPrefixOf_iff_prefix] at h
 obtain ⟨⟨h1, h2⟩, c, hc⟩ := h
 exact ⟨h1, h2, c, by rw [namesP_splitN h1, namesP_splitN h2, hc]⟩
theorem under_of {p dir : List UInt8} (h1 : splitE p = 0) (h2 : splitE dir = 0) (h : ∃ c, namesP p = namesP dir ++ c) : underP p dir = true := by
 rw [underP_eq, h1, h2]
 obtain ⟨c, hc⟩ := h
 rw [namesP_splitN h1, namesP_splitN h2] at hc
 simp only [decide_true, Bool.true_and]
 rw [List.isPrefixOf_iff_prefix]
 exact ⟨c, hc.symm⟩

/-! ## Steps -/
end Go.Proofs.YtigfbpbnohkokaaGreat

namespace Go.Proofs.YtigfbpbnohkokaaGreat
open Go Go.Fw Go.RowKit
set_option linter.unusedVariables false
set_option linter.unusedSimpArgs false

abbrev NP := List (List UInt8)
/-- What stands at a path: is it a directory, and its bytes. -/
abbrev Gf := NP → Option (Bool × List UInt8)

/-- What coming along names answers. -/
def comeG (g : Gf) : NP → NP → Int
 | _, [] => 0
 | pre, n :: r => match g pre with
  | some (true, _) => if (g (pre ++ [n])).isNone then 9 else comeG g (pre ++ [n]) r
  | _ => 17

structure Ent where
 p : NP
 b : Nat
 dir : Bool
 m : Nat
 o : Obj
 v : Value
 D : List (Nat × Obj)
 data : List UInt8

def Ent.kv (e : Ent) : Value := if e.dir then .map (some e.m) else .map none
def Ent.hd (e : Ent) : Nat × Obj := (e.b, .cells [.bool e.dir, e.kv, e.v].toArray 169 (0, 0))
def Ent.mp (e : Ent) : List (Nat × Obj) := if e.dir then [(e.m, e.o)] else []
def Ent.blks (e : Ent) : List (Nat × Obj) := e.hd :: (e.mp ++ e.D)
def blks (E : List Ent) : List (Nat × Obj) := E.flatMap Ent.blks
def ent (E : List Ent) (q : NP) : Option Ent := E.find? (fun e => decide (e.p = q))
def kids (E : List Ent) (q : NP) : List UInt8 → Option Value := fun n => (ent E (q ++ [n])).map fun e => ptr e.b
def absE (E : List Ent) : Gf := fun q => (ent E q).map fun e => (e.dir, e.data)
def POK (p : NP) : Prop := p.length ≤ 8 ∧ allOK p ∧ (joinS p).length ≤ 120

structure TI (E : List Ent) : Prop where
 nd : (E.map (·.p)).Nodup
 root : ∃ e, ent E [] = some e ∧ e.dir = true
 par : ∀ q n e, ent E (q ++ [n]) = some e → ∃ d, ent E q = some d ∧ d.dir = true
 ok : ∀ e ∈ E, POK e.p
 map : ∀ e ∈ E, e.dir = true → MapF strV e.o (kids E e.p)
 dat : ∀ e ∈ E, BytesO e.D e.v e.data ∧ e.data.length ≤ 65536
 dd : ∀ e ∈ E, e.dir = true → e.data = []

section
variable {E : List Ent} {e : Ent} {q : NP}
theorem ent_mem (h : ent E q = some e) : e ∈ E ∧ e.p = q := ⟨List.mem_of_find?_eq_some h, by have := List.find?_some h; simpa using this⟩
theorem ent_none (h : ent E q = none) : ∀ e ∈ E, e.p ≠ q := fun e he => by have := List.find?_eq_none.1 h e he; simpa using this
theorem ent_of : ∀ {E : List Ent} {e : Ent}, (E.map (·.p)).Nodup → e ∈ E → ent E e.p = some e
 | x :: E, e, hn, he => by
  unfold ent
  rw [List.find?_cons]
  simp only [List.map_cons, List.nodup_cons] at hn
  rcases List.mem_cons.1 he with rfl | he
  ·simp
  ·have : x.p ≠ e.p := fun h => hn.1 (h ▸ List.mem_map.2 ⟨e, he, rfl⟩)
   simp only [this, decide_false]
   exact ent_of hn.2 he
theorem TI.of (h : TI E) (he : e ∈ E) : ent E e.p = some e := ent_of h.nd he

theorem mem_blks {x : Nat × Obj} : x ∈ blks E ↔ ∃ e ∈ E, x ∈ e.blks := List.mem_flatMap
theorem mem_hd (he : e ∈ E) : e.hd ∈ blks E := mem_blks.2 ⟨e, he, by simp [Ent.blks]⟩
theorem mem_mp (he : e ∈ E) (hd : e.dir = true) : (e.m, e.o) ∈ blks E := mem_blks.2 ⟨e, he, by simp [Ent.blks, Ent.mp, hd]⟩
theorem mem_D (he : e ∈ E) {x : Nat × Obj} (hx : x ∈ e.D) : x ∈ blks E := mem_blks.2 ⟨e, he, by simp [Ent.blks, hx]⟩

/-- All that is under a path is under a directory. -/
theorem TI.pre (h : TI E) : ∀ {r q : NP} {e : Ent}, ent E (q ++ r) = some e → ∃ d, ent E q = some d ∧ (r ≠ [] → d.dir = true) := by
 intro r
 induction r with
 | nil => intro q e he; exact ⟨e, by simpa using he, fun h => absurd rfl h⟩
 | cons n r ih =>
  intro q e he
  have he : ent E ((q ++ [n]) ++ r) = some e := by simpa using he
  obtain ⟨d, hd, _⟩ := ih he
  obtain ⟨d2, h2, h3⟩ := h.par q n d hd
  exact ⟨d2, h2, fun _ => h3⟩
theorem comeE_zero (h : TI E) : ∀ {r q : NP} {d : Ent}, ent E q = some d → (comeG (absE E) q r = 0 ↔ ∃ e, ent E (q ++ r) = some e) := by
 intro r
 induction r with
 | nil => intro q d hd; exact ⟨fun _ => ⟨d, by simpa using hd⟩, fun _ => rfl⟩
 | cons n r ih =>
  intro q d hd
  have e1 : absE E q = some (d.dir, d.data) := by unfold absE; rw [hd]; rfl
  unfold comeG
  rw [e1]
  cases hdd : d.dir with
  | false =>
   refine ⟨fun h => by simp at h, fun ⟨e, he⟩ => ?_⟩
   obtain ⟨d2, h2, h3⟩ := h.pre he
   rw [hd] at h2; cases h2
   rw [h3 (by simp)] at hdd; cases hdd
  | true =>
   simp only
   cases hk : ent E (q ++ [n]) with
   | none =>
    have : absE E (q ++ [n]) = none := by unfold absE; rw [hk]; rfl
    rw [this]
    refine ⟨fun h => by simp at h, fun ⟨e, he⟩ => ?_⟩
    have he : ent E ((q ++ [n]) ++ r) = some e := by simpa using he
    obtain ⟨d2, h2, _⟩ := h.pre he
    rw [hk] at h2; cases h2
   | some k =>
    have : absE E (q ++ [n]) = some (k.dir, k.data) := by unfold absE; rw [hk]; rfl
    rw [this]
    simp only [Option.isNone_some, Bool.false_eq_true, if_false]
    rw [ih hk]; simp
end

/-! ## In memory -/
/-- A node's entries are there. -/
def EAt (w : World) (E : List Ent) : Prop := ∀ x ∈ blks E, w.heap[x.1]? = some x.2
section
variable {S : Nat → Prop} {w0 w w1 : World} {E : List Ent} {L : List (Nat × Obj)} {e : Ent}
theorem EAt.new (h : EAt w E) (hn : New w w1) : EAt w1 E := fun x hx => hn.keep (h x hx)
theorem EAt.of (M : St S w0 (blks E ++ L) w) : EAt w E := fun x hx => M.get (List.mem_append_left _ hx)
theorem EAt.of' (M : St S w0 L w) (hs : ∀ x ∈ blks E, x ∈ L) : EAt w E := fun x hx => M.get (hs x hx)
theorem EAt.hd (h : EAt w E) (he : e ∈ E) : w.heap[e.b]? = some (.cells [.bool e.dir, e.kv, e.v].toArray 169 (0, 0)) := h _ (mem_hd he)
theorem EAt.dir (h : EAt w E) (he : e ∈ E) : w.cell? ⟨e.b, 0, none⟩ = some (.bool e.dir) := cell_of (h.hd he) rfl
theorem EAt.kv (h : EAt w E) (he : e ∈ E) : w.cell? ⟨e.b, 1, none⟩ = some e.kv := cell_of (h.hd he) rfl
theorem EAt.data (h : EAt w E) (he : e ∈ E) : w.cell? ⟨e.b, 2, none⟩ = some e.v := cell_of (h.hd he) rfl
theorem EAt.mp (h : EAt w E) (he : e ∈ E) (hd : e.dir = true) : w.heap[e.m]? = some e.o := h _ (mem_mp he hd)
theorem Ent.kvT (hd : e.dir = true) : e.kv = .map (some e.m) := by simp [Ent.kv, hd]
theorem Ent.kvF (hd : e.dir = false) : e.kv = .map none := by simp [Ent.kv, hd]
theorem EAt.lk (h : EAt w E) (hT : TI E) (he : e ∈ E) (hd : e.dir = true) (n : List UInt8) : LkAt strV w e.m n (kids E e.p n) := ⟨e.o, kids E e.p, h.mp he hd, hT.map e he hd, rfl⟩
theorem EAt.bytes (h : EAt w E) (hT : TI E) (he : e ∈ E) : BytesAt w e.v e.data := by
 obtain ⟨h1, _⟩ := hT.dat e he
 rcases h1 with ⟨r1, r2, r3, _⟩ | ⟨b, cap, rest, T, r1, r2, r3, r4⟩
 ·exact .inr (.inl ⟨r1, r2, r3⟩)
 ·refine .inr (.inr ⟨b, 0, cap, _, T, (0, 0), r1, ?_, h _ (mem_D he (by rw [r2]; exact List.mem_singleton.2 rfl)), by simp [← r3], r3⟩)
  have : e.data.length * 1 ≤ cap * 1 := by rw [← r3, ← r4]; simp
  omega
/-- A tree, behind a pointer. -/
def TrA (w : World) (bt : Nat) (E : List Ent) : Prop := ∃ r, ent E [] = some r ∧ w.heap[bt]? = some (.cells [ptr r.b, .int .i64 ((E.length : Int) - 1)].toArray 133 (0, 0)) ∧ EAt w E ∧ TI E
theorem TrA.new {bt : Nat} (h : TrA w bt E) (hn : New w w1) : TrA w1 bt E := let ⟨r, h1, h2, h3, h4⟩ := h; ⟨r, h1, hn.keep h2, h3.new hn, h4⟩
theorem kids_getD (q : NP) (n : List UInt8) : (kids E q n).getD (.pointer none) = .pointer ((ent E (q ++ [n])).map fun e => ⟨e.b, 0, none⟩) := by
 unfold kids; cases ent E (q ++ [n]) <;> rfl
theorem come_at {l : NP} {j : Nat} {n : List UInt8} {d : Ent} (hn : l[j]? = some n) (hd : ent E (l.take j) = some d) :
  comeG (absE E) (l.take j) (l.drop j) = if d.dir = true then (if (ent E (l.take j ++ [n])).isNone = true then 9 else comeG (absE E) (l.take (j + 1)) (l.drop (j + 1))) else 17 := by
 obtain ⟨hl, rfl⟩ := List.getElem?_eq_some_iff.1 hn
 rw [List.drop_eq_getElem_cons hl, List.take_succ_eq_append_getElem hl]
 have e1 : absE E (l.take j) = some (d.dir, d.data) := by unfold absE; rw [hd]; rfl
 conv => lhs; unfold comeG
 rw [e1]
 cases d.dir with
 | false => simp
 | true =>
  have : (absE E (l.take j ++ [l[j]])).isNone = (ent E (l.take j ++ [l[j]])).isNone := by unfold absE; cases ent E (l.take j ++ [l[j]]) <;> rfl
  simp only [this, if_true]
theorem take_snoc' {l : NP} {j : Nat} {n : List UInt8} (hn : l[j]? = some n) : l.take (j + 1) = l.take j ++ [n] := by
 obtain ⟨hl, rfl⟩ := List.getElem?_eq_some_iff.1 hn
 exact List.take_succ_eq_append_getElem hl
/-- What comes of coming. -/
def ndP (E : List Ent) (q : NP) : Value := .pointer ((ent E q).map fun e => ⟨e.b, 0, none⟩)
theorem come_nd {l : NP} {r : Ent} (hT : TI E) (hr : ent E [] = some r) (h : comeG (absE E) [] l ≠ 0) : ent E l = none := by
 cases hl : ent E l with
 | none => rfl
 | some e => exact absurd ((comeE_zero hT hr).2 ⟨e, by simpa using hl⟩) h
/-- What looking for a path answers. -/
def findG (g : Gf) (p : List UInt8) : Int := if splitE p = 0 then comeG g [] (splitN p) else splitE p
/-- What looking for a path's directory answers. -/
def homeG (g : Gf) (p : List UInt8) (root : Int) : Int :=
 if splitE p = 0 then (if splitN p = [] then root else
  if comeG g [] (splitN p).dropLast = 0 then (if ((g (splitN p).dropLast).getD (false, [])).1 = true then 0 else 17) else comeG g [] (splitN p).dropLast)
 else splitE p
theorem findG_bad {g : Gf} {p : List UInt8} (h : ¬ splitE p = 0) : findG g p = splitE p := if_neg h
theorem findG_ok {g : Gf} {p : List UInt8} (h : splitE p = 0) : findG g p = comeG g [] (splitN p) := if_pos h
theorem homeG_bad {g : Gf} {p : List UInt8} {root : Int} (h : ¬ splitE p = 0) : homeG g p root = splitE p := if_neg h
theorem homeG_root {g : Gf} {p : List UInt8} {root : Int} (h : splitE p = 0) (hn : splitN p = []) : homeG g p root = root := by unfold homeG; rw [if_pos h, if_pos hn]
theorem findG_ent {p : List UInt8} {r : Ent} (hT : TI E) (hr : ent E [] = some r) (h : findG (absE E) p = 0) : splitE p = 0 ∧ ∃ e, ent E (splitN p) = some e := by
 unfold findG at h
 split at h
 ·rename_i h1; exact ⟨h1, by simpa using (comeE_zero hT hr).1 h⟩
 ·rename_i h1; exact absurd h h1
/-- All of a tree's blocks. -/
def tb (bt : Nat) (E : List Ent) : List (Nat × Obj) := (bt, .cells [ndP E [], .int .i64 ((E.length : Int) - 1)].toArray 133 (0, 0)) :: blks E
theorem TrA.of {bt : Nat} (hT : TI E) (M : St S w0 (tb bt E ++ L) w) : TrA w bt E := by
 obtain ⟨r, hr, _⟩ := hT.root
 refine ⟨r, hr, ?_, fun x hx => M.get (by simp [tb, hx]), hT⟩
 have := M.at_ 0 (by rfl)
 unfold ndP at this
 rw [hr] at this
 exact this
end
end Go.Proofs.YtigfbpbnohkokaaGreat

namespace Go.Proofs.YtigfbpbnohkokaaGreat
open Go Go.Fw Go.RowKit Go.Proofs
set_option linter.unusedVariables false
set_option linter.unusedSimpArgs false
set_option maxRecDepth 100000
set_option maxHeartbeats 4000000

-- slices.Clone[[]byte,byte]
theorem clone_c {w0 : World} {v : Value} {b : List UInt8} (h : BytesAt w0 v b) (hl : b.length ≤ 1099511627776) : Ret Tryz.prog 82 #[v] w0 fun r w' => ∃ Lr, Sep w0 Lr w' ∧ BytesO Lr r b := by
 have M : Sep w0 [] w0 := St.nil w0
 obtain ⟨p, cap, rfl⟩ := h.shape
 refine Ret.of_W Tryz.func82 rfl Tryz.ntmps82 rfl ?_
 refine cnd 1 ?_ ?_
 ·intro hco1
  have hp : p = none := by simpa using hco1
  subst hp
  have hb : b = [] := by
   rcases h with ⟨h, _⟩ | ⟨_, h, _⟩ | ⟨_, _, _, _, _, _, h, _⟩
   ·exact List.length_eq_zero_iff.1 h
   ·exact List.length_eq_zero_iff.1 h
   ·cases h
  subst hb
  refine go 1 ?_
  exact ⟨[], M, OwL.nil⟩
 ·intro hco1
  refine go 0 ?_
  refine x_bs0 rfl rfl rfl Tryz.underlying27 sz5 ?_
  intro bb wb hbb hwb
  have M := M.acons hbb hwb
  refine ⟨trivial, ?_⟩
  refine go 0 ?_
  refine x_apL (L := [_]) (L0 := []) (cs := []) (nn := 0) rfl rfl rfl rfl Tryz.underlying27 sz5 ze5 rfl by5 rfl rfl (.inr ⟨bb, 0, [], _, rfl, rfl, rfl, rfl⟩) M (by simp) ((h.new M.frm).src Tryz.underlying27 (byteCs_one _)) (by omega) (by decide) (by omega) ?_
  intro Lo v6 w6 how M
  rw [Nat.zero_add, List.nil_append] at how
  refine ⟨trivial, ?_⟩
  refine go 1 ?_
  exact ⟨Lo, by simpa using M, how⟩

-- valise/tree.directory
theorem directory_c {w0 : World}   : Ret Tryz.prog 98 #[] w0 fun r w' => ∃ b m, r = ptr b ∧ Sep w0 [(m, .map #[] 0), (b, .cells [.bool true, .map (some m), .slice none 0 0].toArray 169 (0, 0))] w' := by
 have M : Sep w0 [] w0 := St.nil w0
 refine Ret.of_W Tryz.func98 rfl Tryz.ntmps98 rfl ?_
 refine go 0 ?_
 refine x_mkmap rfl rfl rfl ?_
 intro bmm1 wmm1 hbmm1 hwmm1
 have M := M.acons hbmm1 hwmm1
 refine ⟨trivial, ?_⟩
 refine go 3 ?_
 intro _ _ M
 refine go 1 ?_
 exact ⟨_, _, rfl, M.perm (.swap _ _ _)⟩

-- valise/tree.New
theorem new_c {w0 : World}   : Ret Tryz.prog 62 #[] w0 fun r w' => ∃ b m bt, r = ptr bt ∧ Sep w0 [(bt, .cells [ptr b, .int .i64 0].toArray 133 (0, 0)), (m, .map #[] 0), (b, .cells [.bool true, .map (some m), .slice none 0 0].toArray 169 (0, 0))] w' := by
 have M : Sep w0 [] w0 := St.nil w0
 refine Ret.of_W Tryz.func62 rfl Tryz.ntmps62 rfl ?_
 refine go 0 ?_
 refine x_call rfl rfl rfl rfl rfl en98 (directory_c) ?_
 rintro r wcall1 ⟨bcall1, mcall1, rfl, Mcall1⟩
 have M := M.grow Mcall1
 refine ⟨trivial, ?_⟩
 refine go 2 ?_
 intro _ _ M
 refine go 1 ?_
 exact ⟨_, _, _, rfl, M⟩

-- (*valise/tree.Tree).made
theorem made_c {w0 : World} {bt : Nat} {E : List Ent}  (hA : TrA w0 bt E)  : Ret Tryz.prog 78 #[ptr bt] w0 fun r w' => r = .bool true ∧ w0 = w' := by
 have M : Sep w0 [] w0 := St.nil w0
 obtain ⟨rt, hrt, hbt, hE, hT⟩ := hA
 refine Ret.of_W Tryz.func78 rfl Tryz.ntmps78 rfl ?_
 refine go 1 ?_
 refine x_ld rfl rfl rfl Tryz.underlying131 rfl rfl (cell_of hbt rfl) ?_
 refine go 2 ?_
 exact ⟨rfl, rfl⟩

-- (*valise/tree.Tree).come
theorem come_c {w0 : World} {bt : Nat} {E : List Ent} {v : Value} {l : NP} (hA : TrA w0 bt E) (h : StrsAt w0 v l) (hl : l.length ≤ 1000) : Ret Tryz.prog 125 #[ptr bt, v] w0 fun r w' => r = .tuple #[ndP E l, .int .i64 (comeG (absE E) [] l)] ∧ New w0 w' := by
 have M : Sep w0 [] w0 := St.nil w0
 obtain ⟨rt, hrt, hbt, hE, hT⟩ := hA
 obtain ⟨p, cap, rfl⟩ := h.shape
 refine Ret.of_W Tryz.func125 rfl Tryz.ntmps125 rfl ?_
 refine go 0 ?_
 refine x_ld rfl rfl rfl Tryz.underlying131 rfl rfl (cell_of hbt rfl) ?_
 refine go 1 ?_
 refine W.loop (σ := Nat × Ent) (fun q => [(6, ptr q.2.b), (13, _), (14, _), (15, .int .i64 ((q.1 : Nat) : Int))]) (fun q w => q.1 ≤ l.length ∧ ent E (l.take q.1) = some q.2 ∧ comeG (absE E) [] l = comeG (absE E) (l.take q.1) (l.drop q.1) ∧ Sep w0 [] w) (fun q => l.length - q.1) (0, rt) ⟨rfl, rfl, rfl, rfl, trivial⟩ ⟨Nat.zero_le _, hrt, rfl, M⟩ ?_
 rintro ⟨q, d⟩ w ⟨hq, hd, hcm, M⟩
 simp only at hq hd hcm
 have hE := hE.new M.frm
 have hdm := (ent_mem hd).1
 have hdp := (ent_mem hd).2
 refine cnd 1 ?_ ?_
 ·intro hco1
  obtain ⟨x, hx⟩ := get_lt (l := l) (q := q) (by omega)
  obtain ⟨bk, off, rfl, _⟩ := (h.new M.frm).blk (j := q) (by omega)
  rw [come_at hx hd] at hcm
  refine go 0 ?_
  refine x_ia q rfl rfl rfl Tryz.underlying47 sz9 rfl rfl rfl (by omega) ?_
  refine x_ld rfl rfl rfl Tryz.underlying9 rfl rfl (StrsAt.cell (h.new M.frm) hx) ?_
  refine go 0 ?_
  refine x_ld rfl rfl rfl Tryz.underlying4 rfl rfl (hE.dir hdm) ?_
  refine cnd 1 ?_ ?_
  ·intro hco2
   refine go 1 ?_
   rw [if_neg (by simp [hco2])] at hcm
   exact ⟨by rw [hcm, ndP, come_nd hT hrt (by rw [hcm]; decide)]; rfl, M.frm⟩
  ·intro hco2
   refine go 0 ?_
   refine x_ld rfl rfl rfl Tryz.underlying165 rfl rfl (by have := hE.kv hdm; rw [Ent.kvT hco2] at this; exact this) ?_
   refine go 0 ?_
   refine x_lk1 (enc := strV) x rfl rfl rfl (strKey Tryz.underlying9) Tryz.underlying165 ze131 rfl rfl (hE.lk hT hdm hco2 x) ?_
   rw [hdp, kids_getD]
   refine go 0 ?_
   refine x_eqpn (ent E (l.take q ++ [x])).isNone rfl rfl rfl Tryz.underlying131 rfl rfl (by cases ent E (l.take q ++ [x]) <;> rfl) ?_
   refine cnd 0 ?_ ?_
   ·intro hco3
    rw [if_pos hco2, if_pos hco3] at hcm
    refine go 1 ?_
    exact ⟨by rw [hcm, ndP, come_nd hT hrt (by rw [hcm]; decide)]; rfl, M.frm⟩
   ·intro hco3
    rw [if_pos hco2, if_neg (by simp [hco3])] at hcm
    obtain ⟨k, hk⟩ : ∃ k, ent E (l.take q ++ [x]) = some k := by
     cases hk : ent E (l.take q ++ [x]) with
     | none => rw [hk] at hco3; cases hco3
     | some k => exact ⟨k, rfl⟩
    have hk2 : ent E (l.take (q + 1)) = some k := by rw [take_snoc' hx]; exact hk
    refine go 0 ?_
    refine x_add _ rfl rfl rfl rfl rfl (wadd (by omega) (by omega)) ?_
    refine go 0 ?_
    exact At.back ((q + 1, k)) ⟨(by rw [hk]; rfl), rfl, rfl, rfl, trivial⟩ ⟨by omega, hk2, hcm, M⟩ (by first | omega | (simp only; omega) | (simp; done) | (simp; omega))
 ·intro hco1
  refine go 1 ?_
  obtain rfl : q = l.length := by omega
  rw [List.drop_length, List.take_length] at hcm
  rw [List.take_length] at hd
  exact ⟨by rw [hcm, ndP, hd]; rfl, M.frm⟩

end Go.Proofs.YtigfbpbnohkokaaGreat

namespace Go.Proofs.YtigfbpbnohkokaaGreat
open Go Go.Fw Go.RowKit Go.Proofs
set_option linter.unusedVariables false
set_option linter.unusedSimpArgs false
set_option maxRecDepth 100000
set_option maxHeartbeats 4000000

-- (*valise/tree.Tree).find
theorem find_c {w0 : World} {bt : Nat} {E : List Ent} {p : List UInt8} (hA : TrA w0 bt E)  : Ret Tryz.prog 99 #[ptr bt, strV p] w0 fun r w' => (∃ nd, r = .tuple #[nd, .int .i64 (findG (absE E) p)] ∧ (findG (absE E) p = 0 → nd = ndP E (splitN p))) ∧ New w0 w' := by
 have M : Sep w0 [] w0 := St.nil w0
 have hA0 := hA
 obtain ⟨rt, hrt, hbt, hE, hT⟩ := hA0
 refine Ret.of_W Tryz.func99 rfl Tryz.ntmps99 rfl ?_
 refine go 0 ?_
 refine x_call rfl rfl rfl rfl rfl en78 (made_c (hA.new M.frm)) ?_
 rintro r wcall1 ⟨rfl, rfl⟩
 refine ⟨trivial, ?_⟩
 refine go 1 ?_
 refine x_call rfl rfl rfl rfl rfl en96 (split_c) ?_
 rintro r w2 ⟨v2, L2, rfl, M2, hs2⟩
 have M := M.grow M2
 obtain ⟨p2, cap2, rfl, hcap2⟩ := hs2.shape2 (by decide)
 refine ⟨trivial, ?_⟩
 refine cnd 1 ?_ ?_
 ·intro hco2
  refine go 1 ?_
  rw [findG_bad hco2]; exact ⟨⟨_, rfl, fun h => absurd h hco2⟩, M.frm⟩
 ·intro hco2
  refine go 0 ?_
  refine x_call rfl rfl rfl rfl rfl en125 (come_c (hA.new M.frm) (strsO_at hs2 M (fun _ h => h)) (by have := splitN_len p; omega)) ?_
  rintro r w3 ⟨rfl, hn3⟩
  have M := M.new hn3
  refine ⟨trivial, ?_⟩
  refine go 1 ?_
  rw [findG_ok hco2]; exact ⟨⟨_, rfl, fun _ => rfl⟩, M.frm⟩

-- (*valise/tree.Tree).home
theorem home_c {w0 : World} {bt : Nat} {E : List Ent} {p : List UInt8} {root : Int} (hA : TrA w0 bt E) (hroot : root ≠ 0) : Ret Tryz.prog 100 #[ptr bt, strV p, .int .i64 root] w0 fun r w' => (∃ nd nm, r = .tuple #[nd, nm, .int .i64 (homeG (absE E) p root)] ∧ (homeG (absE E) p root = 0 → splitE p = 0 ∧ ∃ q n d, splitN p = q ++ [n] ∧ ent E q = some d ∧ d.dir = true ∧ nd = ptr d.b ∧ nm = strV n)) ∧ New w0 w' := by
 have M : Sep w0 [] w0 := St.nil w0
 have hA0 := hA
 obtain ⟨rt, hrt, hbt, hE, hT⟩ := hA0
 refine Ret.of_W Tryz.func100 rfl Tryz.ntmps100 rfl ?_
 refine go 0 ?_
 refine x_call rfl rfl rfl rfl rfl en78 (made_c (hA.new M.frm)) ?_
 rintro r wcall1 ⟨rfl, rfl⟩
 refine ⟨trivial, ?_⟩
 refine go 1 ?_
 refine x_call rfl rfl rfl rfl rfl en96 (split_c) ?_
 rintro r w2 ⟨v2, L2, rfl, M2, hs2⟩
 have M := M.grow M2
 obtain ⟨p2, cap2, rfl, hcap2⟩ := hs2.shape2 (by decide)
 refine ⟨trivial, ?_⟩
 refine cnd 1 ?_ ?_
 ·intro hco2
  refine go 1 ?_
  rw [homeG_bad hco2]; exact ⟨⟨_, _, rfl, fun h => absurd h hco2⟩, M.frm⟩
 ·intro hco2
  refine cnd 2 ?_ ?_
  ·intro hco3
   have hnil : splitN p = [] := List.length_eq_zero_iff.1 (by omega)
   refine go 1 ?_
   rw [homeG_root hco2 hnil]; exact ⟨⟨_, _, rfl, fun h => absurd h hroot⟩, M.frm⟩
  ·intro hco3
   have hnil : splitN p ≠ [] := fun e => hco3 (by rw [e]; rfl)
   have hsl := splitN_len p
   have hq0 : (splitN p).dropLast = (splitN p).take ((splitN p).length - 1) := List.dropLast_eq_take
   obtain ⟨q, n, hqn⟩ : ∃ q n, splitN p = q ++ [n] := ⟨_, _, (List.dropLast_concat_getLast hnil).symm⟩
   have hq : (splitN p).dropLast = q := by rw [hqn]; simp
   have hlen : (splitN p).length = q.length + 1 := by rw [hqn]; simp
   refine go 1 ?_
   refine x_sub _ rfl rfl rfl rfl rfl (wsub (by omega) (by omega)) ?_
   refine x_slh q.length rfl rfl rfl Tryz.underlying47 sz9 rfl rfl (by omega) (by omega) ?_
   refine x_call rfl rfl rfl rfl rfl en125 (come_c (hA.new M.frm) (strsO_at (strsO_take hs2 (j := q.length) (by omega)) M (fun _ h => h)) (by simp; omega)) ?_
   rintro r w3 ⟨rfl, hn3⟩
   have M := M.new hn3
   have htk : (splitN p).take q.length = q := by rw [hqn]; simp
   rw [htk]
   refine ⟨trivial, ?_⟩
   refine spl 1 41 ?_ ?_
   ·intro hsp1
    obtain ⟨d, hd⟩ : ∃ d, ent E q = some d := by simpa using (comeE_zero hT hrt).1 hsp1
    have hnd : ndP E q = ptr d.b := by unfold ndP; rw [hd]; rfl
    rw [hnd]
    have hgq : absE E q = some (d.dir, d.data) := by unfold absE; rw [hd]; rfl
    obtain ⟨bk, off, rfl, _⟩ := (strsO_at hs2 M (fun _ h => h)).blk (j := q.length) (by omega)
    have hHG : homeG (absE E) p root = if d.dir = true then 0 else 17 := by unfold homeG; rw [if_pos hco2, if_neg hnil, hq, if_pos hsp1, hgq]; rfl
    refine go 0 ?_
    refine x_ld rfl rfl rfl Tryz.underlying4 rfl rfl ((hE.new M.frm).dir (ent_mem hd).1) ?_
    refine cnd 1 ?_ ?_
    ·intro hco4
     refine go 0 ?_
     refine x_nei true rfl rfl rfl rfl rfl (by decide) ?_
     refine go 1 ?_
     rw [if_neg (by simp [hco4])] at hHG
     rw [hHG]; exact ⟨⟨_, _, rfl, fun h => by cases h⟩, M.frm⟩
    ·intro hco4
     refine go 0 ?_
     refine x_nei false rfl rfl rfl rfl rfl (by rw [hsp1]; rfl) ?_
     refine go 0 ?_
     refine W.regD (by kernel_rfl) #[0, 0, 0, 4, 12, 30, 62, 1, 255, 511] [(0, false), (1, false), (2, false), (3, false), (4, false), (5, false), (6, false), (7, false), (8, false), (9, false)] (by kernel_rfl) ?_
     intro K wD1 hK hwD1
     have M := M.drew hwD1
     refine go 1 ?_
     refine x_sub _ rfl rfl rfl rfl rfl (wsub (by omega) (by omega)) ?_
     refine x_ia q.length rfl rfl rfl Tryz.underlying47 sz9 rfl rfl (by omega) (by omega) ?_
     refine x_ld rfl rfl rfl Tryz.underlying9 rfl rfl (StrsAt.cell (strsO_at hs2 M (fun _ h => h)) (x := n) (by rw [hqn]; simp)) ?_
     refine go 1 ?_
     rw [if_pos (by simpa using hco4)] at hHG
     rw [hHG]; exact ⟨⟨_, _, by rw [hsp1]; rfl, fun h => ⟨hco2, q, n, d, hqn, hd, by simpa using hco4, rfl, rfl⟩⟩, M.frm⟩
   ·intro hsp1
    have hHG : homeG (absE E) p root = comeG (absE E) [] q := by unfold homeG; rw [if_pos hco2, if_neg hnil, hq, if_neg hsp1]
    refine go 0 ?_
    refine x_nei true rfl rfl rfl rfl rfl (by simp [hsp1]) ?_
    refine go 1 ?_
    rw [hHG]; exact ⟨⟨_, _, rfl, fun h => absurd h hsp1⟩, M.frm⟩

end Go.Proofs.YtigfbpbnohkokaaGreat

namespace Go.Proofs.YtigfbpbnohkokaaGreat
open Go Go.Fw Go.RowKit Go.Proofs
set_option linter.unusedVariables false
set_option linter.unusedSimpArgs false
set_option maxRecDepth 100000
set_option maxHeartbeats 4000000

-- valise/tree.file
theorem file_c {w0 : World} {E : List Ent} {e : Ent} {p : List UInt8} (hE : EAt w0 E) (hT : TI E) (he : e ∈ E) : Ret Tryz.prog 81 #[strV p, ptr e.b] w0 fun r w' => ∃ v Lr, r = .agg #[strV p, .bool e.dir, v] ∧ Sep w0 Lr w' ∧ BytesO Lr v e.data := by
 have M : Sep w0 [] w0 := St.nil w0
 have hb := hE.bytes hT he
 have hdl := (hT.dat e he).2
 refine Ret.of_W Tryz.func81 rfl Tryz.ntmps81 rfl ?_
 refine go 1 ?_
 intro _ _ M
 refine go 0 ?_
 refine W.regD (by kernel_rfl) #[0, 0, 2, 6, 14, 0, 32, 96, 224, 480, 1023, 2047] [(0, false), (1, false), (2, false), (3, false), (4, false), (5, false), (6, false), (7, false), (8, false), (9, true), (10, false), (11, true)] (by kernel_rfl) ?_
 intro K wD1 hK hwD1
 have M := M.drew hwD1
 refine go 0 ?_
 refine x_ld rfl rfl rfl Tryz.underlying4 rfl rfl ((hE.new M.frm).dir he) ?_
 refine go 0 ?_
 refine x_ld rfl rfl rfl Tryz.underlying27 rfl rfl ((hE.new M.frm).data he) ?_
 refine x_call rfl rfl rfl rfl rfl en82 (clone_c (hb.new M.frm) (by omega)) ?_
 rintro v w1 ⟨L1, M1, hb1⟩
 have M := M.grow M1
 obtain ⟨pv, cv, rfl⟩ := hb1.shape
 refine ⟨⟨.inl (by kernel_rfl), .inr ((hE.new M.frm).dir he), trivial⟩, ?_⟩
 refine go 1 ?_
 refine x_st [_, _, _] _ rfl rfl rfl sz29 rfl rfl rfl rfl (by first | exact M.at_ 0 rfl | exact M.at_ 1 rfl | exact M.at_ 2 rfl | exact M.at_ 3 rfl | exact M.at_ 4 rfl | exact M.at_ 5 rfl | exact M.at_ 6 rfl | exact M.at_ 7 rfl) rfl rfl rfl ?_
 intro wst1 hwst1
 have M := by first | exact M.put 0 rfl hwst1 | exact M.put 1 rfl hwst1 | exact M.put 2 rfl hwst1 | exact M.put 3 rfl hwst1 | exact M.put 4 rfl hwst1 | exact M.put 5 rfl hwst1 | exact M.put 6 rfl hwst1 | exact M.put 7 rfl hwst1
 refine pnd ?_
 refine go 1 ?_
 exact ⟨_, _, rfl, (M.sub (List.sublist_cons_self _ _)), hb1⟩

end Go.Proofs.YtigfbpbnohkokaaGreat

namespace Go.Proofs.YtigfbpbnohkokaaGreat
open Go Go.Fw Go.RowKit
set_option linter.unusedVariables false
set_option linter.unusedSimpArgs false

def setO (E : List Ent) (q : NP) (o' : Obj) : List Ent := E.map fun e => if e.p = q then { e with o := o' } else e
def rm (E : List Ent) (s : NP) : List Ent := E.filter fun e => !decide (e.p = s)
/-- Another one, or none, stands at a name of a directory. -/
def upd (E : List Ent) (q : NP) (o' : Obj) (n : List UInt8) (x : Option Ent) : List Ent := setO (rm E (q ++ [n])) q o' ++ x.toList

section
variable {E : List Ent} {q s r : NP} {o' : Obj} {n : List UInt8} {d e : Ent} {x : Option Ent}
theorem setO_p (E : List Ent) (q : NP) (o' : Obj) : (setO E q o').map (·.p) = E.map (·.p) := by
 unfold setO; rw [List.map_map]
 exact List.map_congr_left fun e _ => by simp only [Function.comp_apply]; split <;> rfl
theorem ent_setO : ent (setO E q o') r = (ent E r).map fun e => if e.p = q then { e with o := o' } else e := by
 unfold setO ent
 rw [List.find?_map]
 have : ((fun e : Ent => decide (e.p = r)) ∘ fun e => if e.p = q then { e with o := o' } else e) = fun e => decide (e.p = r) := by
  funext e; simp only [Function.comp_apply]; split <;> rfl
 rw [this]
theorem ent_rm : ent (rm E s) r = if r = s then none else ent E r := by
 unfold rm ent
 rw [List.find?_filter]
 by_cases h : r = s
 ·rw [if_pos h, List.find?_eq_none]
  intro e _
  simp only [Bool.and_eq_true, Bool.not_eq_true', decide_eq_false_iff_not, decide_eq_true_eq, not_and]
  exact fun h1 h2 => h1 (h2.trans h)
 ·rw [if_neg h]
  congr 1
  funext e
  by_cases h2 : e.p = r
  ·have : e.p ≠ s := fun h3 => h (h2.symm.trans h3)
   simp [h2, h]
  ·simp [h2]
theorem ent_app {A B : List Ent} : ent (A ++ B) r = (ent A r).or (ent B r) := List.find?_append
theorem ent_opt : ent x.toList r = x.filter fun e => decide (e.p = r) := by
 cases x with
 | none => rfl
 | some e => unfold ent; by_cases h : e.p = r <;> simp [Option.filter, h]
theorem ent_upd (hx : ∀ e, x = some e → e.p = q ++ [n]) : ent (upd E q o' n x) r = if r = q ++ [n] then x else (ent E r).map fun e => if e.p = q then { e with o := o' } else e := by
 unfold upd
 rw [ent_app, ent_setO, ent_rm, ent_opt]
 by_cases h : r = q ++ [n]
 ·rw [if_pos h, if_pos h]
  cases x with
  | none => rfl
  | some e => simp [Option.filter, hx e rfl, h]
 ·rw [if_neg h, if_neg h]
  have : x.filter (fun e => decide (e.p = r)) = none := by
   cases x with
   | none => rfl
   | some e => have : e.p ≠ r := fun h2 => h (h2.symm.trans (hx e rfl)); simp [Option.filter, this]
  rw [this, Option.or_none]
theorem snoc_inj {a b : NP} {m k : List UInt8} (h : a ++ [m] = b ++ [k]) : a = b ∧ m = k := by
 have := List.append_inj' h rfl
 exact ⟨this.1, by simpa using this.2⟩
theorem snoc_ne (a : NP) (m : List UInt8) : a ≠ a ++ [m] := fun h => by have := congrArg List.length h; simp at this

/-- What may stand at a name. -/
structure NewOK (q : NP) (n : List UInt8) (e : Ent) : Prop where
 p : e.p = q ++ [n]
 ok : POK e.p
 map : e.dir = true → MapF strV e.o (fun _ => none)
 dat : BytesO e.D e.v e.data ∧ e.data.length ≤ 65536
 dd : e.dir = true → e.data = []
theorem TI.upd (h : TI E) (hd : ent E q = some d) (hdd : d.dir = true) (hleaf : ∀ k, ent E ((q ++ [n]) ++ [k]) = none) (hx : ∀ e, x = some e → NewOK q n e)
  (hm : MapF strV o' (setF (kids E q) n (x.map fun e => ptr e.b))) : TI (upd E q o' n x) := by
 have hxp : ∀ e, x = some e → e.p = q ++ [n] := fun e he => (hx e he).p
 have E1 : ∀ r, ent (Go.Proofs.YtigfbpbnohkokaaGreat.upd E q o' n x) r = if r = q ++ [n] then x else (ent E r).map fun e => if e.p = q then { e with o := o' } else e := fun r => ent_upd hxp
 have hnd : ((Go.Proofs.YtigfbpbnohkokaaGreat.upd E q o' n x).map (·.p)).Nodup := by
  unfold Go.Proofs.YtigfbpbnohkokaaGreat.upd
  rw [List.map_append, setO_p, List.nodup_append]
  refine ⟨((List.filter_sublist (l := E)).map _).nodup h.nd, by cases x <;> simp, ?_⟩
  intro a ha b hb e
  obtain ⟨y, hy, rfl⟩ := List.mem_map.1 ha
  obtain ⟨z, hz, rfl⟩ := List.mem_map.1 hb
  have := hxp z (by cases x <;> simp_all)
  have hy2 := (List.mem_filter.1 hy).2
  simp only [Bool.not_eq_true', decide_eq_false_iff_not] at hy2
  exact hy2 (e.trans this)
 have key : ∀ e ∈ Go.Proofs.YtigfbpbnohkokaaGreat.upd E q o' n x, (x = some e) ∨ ∃ e0 ∈ E, e0.p ≠ q ++ [n] ∧ e = if e0.p = q then { e0 with o := o' } else e0 := fun e he => by
  have h1 := E1 e.p
  rw [ent_of hnd he] at h1
  split at h1
  ·exact .inl h1.symm
  ·rename_i h2
   cases h3 : ent E e.p with
   | none => rw [h3] at h1; cases h1
   | some e0 =>
    rw [h3] at h1
    obtain ⟨h4, h5⟩ := ent_mem h3
    exact .inr ⟨e0, h4, by rw [h5]; exact h2, Option.some.inj h1⟩
 have kk : ∀ s, kids (Go.Proofs.YtigfbpbnohkokaaGreat.upd E q o' n x) s = if s = q then setF (kids E q) n (x.map fun e => ptr e.b) else if s = q ++ [n] then fun _ => none else kids E s := fun s => by
  funext k
  unfold kids
  rw [E1]
  by_cases h1 : s = q
  ·rw [if_pos h1, h1]
   unfold setF
   by_cases h2 : k = n
   ·rw [if_pos (by rw [h2]), if_pos h2]
   ·rw [if_neg (fun h3 => h2 (snoc_inj h3).2), if_neg h2]
    show _ = Option.map (fun e => ptr e.b) (ent E (q ++ [k]))
    cases ent E (q ++ [k]) with
    | none => rfl
    | some e => simp only [Option.map_some]; split <;> rfl
  ·rw [if_neg h1, if_neg (fun h3 => h1 (snoc_inj h3).1)]
   by_cases h2 : s = q ++ [n]
   ·rw [if_pos h2, h2, hleaf k]; rfl
   ·rw [if_neg h2]
    cases ent E (s ++ [k]) with
    | none => rfl
    | some e => simp only [Option.map_some]; split <;> rfl
 refine ⟨hnd, ?_, ?_, ?_, ?_, ?_, ?_⟩
 ·obtain ⟨rt, h1, h2⟩ := h.root
  rw [E1, if_neg (fun h => by simp at h), h1]
  refine ⟨_, rfl, ?_⟩
  dsimp only
  split <;> exact h2
 ·intro s k e he
  rw [E1] at he
  split at he
  ·rename_i h1
   obtain ⟨rfl, rfl⟩ := snoc_inj h1
   rw [E1, if_neg (snoc_ne _ _), hd]
   refine ⟨_, rfl, ?_⟩
   dsimp only
   split <;> exact hdd
  ·cases h3 : ent E (s ++ [k]) with
   | none => rw [h3] at he; cases he
   | some e0 =>
    obtain ⟨d2, h4, h5⟩ := h.par s k e0 h3
    rw [E1, if_neg, h4]
    ·refine ⟨_, rfl, ?_⟩
     dsimp only
     split <;> exact h5
    ·rintro rfl; rw [hleaf k] at h3; cases h3
 ·intro e he
  rcases key e he with h1 | ⟨e0, h1, _, rfl⟩
  ·exact (hx e h1).ok
  ·have := h.ok e0 h1; split <;> exact this
 ·intro e he hed
  rw [kk]
  rcases key e he with h1 | ⟨e0, h1, h2, rfl⟩
  ·have h3 := hx e h1
   rw [h3.p, if_neg (fun h => snoc_ne q n h.symm), if_pos rfl]
   exact h3.map hed
  ·by_cases h3 : e0.p = q
   ·rw [if_pos h3] at hed ⊢
    rw [if_pos h3]; exact hm
   ·rw [if_neg h3] at hed ⊢
    rw [if_neg h3, if_neg h2]; exact h.map e0 h1 hed
 ·intro e he
  rcases key e he with h1 | ⟨e0, h1, _, rfl⟩
  ·exact (hx e h1).dat
  ·have := h.dat e0 h1; split <;> exact this
 ·intro e he hed
  rcases key e he with h1 | ⟨e0, h1, _, rfl⟩
  ·exact (hx e h1).dd hed
  ·have := h.dd e0 h1; split at hed <;> (split <;> first | exact this hed | (rename_i a b; exact absurd ‹_› ‹_›))

theorem blks_sub {E' : List Ent} (h : E'.Sublist E) : (blks E').Sublist (blks E) := by
 induction h with
 | slnil => exact List.Sublist.refl _
 | cons a _ ih => exact ih.trans (List.sublist_append_right _ _)
 | cons_cons a _ ih => exact List.Sublist.append (List.Sublist.refl _) ih
theorem setO_split {A B : List Ent} (hn : ((A ++ d :: B).map (·.p)).Nodup) : setO (A ++ d :: B) d.p o' = A ++ { d with o := o' } :: B := by
 unfold setO
 rw [List.map_append, List.map_cons, if_pos rfl]
 simp only [List.map_append, List.map_cons, List.nodup_append, List.nodup_cons] at hn
 have h1 : ∀ e ∈ A, e.p ≠ d.p := fun e he h => hn.2.2 e.p (List.mem_map.2 ⟨e, he, rfl⟩) d.p (by simp) h
 have h2 : ∀ e ∈ B, e.p ≠ d.p := fun e he h => hn.2.1.1 (List.mem_map.2 ⟨e, he, h⟩)
 have hA : A.map (fun e => if e.p = d.p then { e with o := o' } else e) = A := by
  conv => rhs; rw [← List.map_id A]
  exact List.map_congr_left fun e he => by rw [if_neg (h1 e he)]; rfl
 have hB : B.map (fun e => if e.p = d.p then { e with o := o' } else e) = B := by
  conv => rhs; rw [← List.map_id B]
  exact List.map_congr_left fun e he => by rw [if_neg (h2 e he)]; rfl
 rw [hA, hB]
/-- A directory's map was written. -/
theorem mapput {S : Nat → Prop} {w0 w w1 : World} {P Q : List (Nat × Obj)} (M : St S w0 (P ++ (blks E ++ Q)) w) (hn : (E.map (·.p)).Nodup) (hd : ent E q = some d) (hdd : d.dir = true) (hw : w1 = w.putObj d.m o') : St S w0 (P ++ (blks (setO E q o') ++ Q)) w1 := by
 obtain ⟨h1, rfl⟩ := ent_mem hd
 obtain ⟨A, B, rfl⟩ := List.append_of_mem h1
 rw [setO_split hn]
 have e1 : ∀ o, blks (A ++ { d with o := o } :: B) = (blks A ++ [d.hd]) ++ (d.m, o) :: (d.D ++ blks B) := fun o => by
  simp [blks, Ent.blks, Ent.mp, hdd, Ent.hd, Ent.kv]
 have e2 := e1 d.o
 have e3 : A ++ { d with o := d.o } :: B = A ++ d :: B := rfl
 rw [e3] at e2
 rw [e2] at M
 rw [e1 o']
 have M2 : St S w0 ((P ++ (blks A ++ [d.hd])) ++ (d.m, d.o) :: (d.D ++ blks B ++ Q)) w := by simpa using M
 simpa using M2.put2 hw
theorem absE_upd (hx : ∀ e, x = some e → e.p = q ++ [n]) : absE (upd E q o' n x) r = if r = q ++ [n] then x.map (fun e => (e.dir, e.data)) else absE E r := by
 unfold absE
 rw [ent_upd hx]
 split
 ·rfl
 ·cases ent E r with
  | none => rfl
  | some e => simp only [Option.map_some]; split <;> rfl
theorem rm_none (h : ent E s = none) : rm E s = E := List.filter_eq_self.2 fun e he => by simpa using ent_none h e he
theorem setO_rm : setO (rm E s) q o' = rm (setO E q o') s := by
 unfold setO rm
 rw [List.filter_map]
 congr 1
 congr 1
 funext e
 simp only [Function.comp_apply]; split <;> rfl
theorem rm_len : ∀ {E : List Ent} {e : Ent}, (E.map (·.p)).Nodup → ent E s = some e → (rm E s).length + 1 = E.length
 | x :: E, e, hn, he => by
  simp only [List.map_cons, List.nodup_cons] at hn
  unfold ent at he
  rw [List.find?_cons] at he
  by_cases h : x.p = s
  ·have h2 : ent E s = none := List.find?_eq_none.2 fun y hy => by
    simp only [decide_eq_true_eq]; intro h3; exact hn.1 (List.mem_map.2 ⟨y, hy, h3.trans h.symm⟩)
   have : rm (x :: E) s = E := by
    show List.filter _ (x :: E) = E
    rw [List.filter_cons_of_neg (by simp [h])]
    exact rm_none h2
   rw [this]; rfl
  ·simp only [h, decide_false] at he
   have := rm_len hn.2 he
   have h2 : rm (x :: E) s = x :: rm E s := List.filter_cons_of_pos (by simp [h])
   rw [h2]; simp; omega
theorem upd_len_new (h : ent E (q ++ [n]) = none) : (upd E q o' n (some e)).length = E.length + 1 := by
 unfold upd; rw [rm_none h]; simp [setO]
theorem upd_len_same (hn : (E.map (·.p)).Nodup) (h : ent E (q ++ [n]) = some d) : (upd E q o' n (some e)).length = E.length := by
 have := rm_len hn h
 unfold upd; simp [setO]; omega
theorem upd_len_rm (hn : (E.map (·.p)).Nodup) (h : ent E (q ++ [n]) = some d) : (upd E q o' n none).length + 1 = E.length := by
 have := rm_len hn h
 unfold upd; simp [setO]; omega
theorem blks_app (A B : List Ent) : blks (A ++ B) = blks A ++ blks B := List.flatMap_append
theorem upd_ndP (hx : ∀ e, x = some e → e.p = q ++ [n]) : ndP (upd E q o' n x) [] = ndP E [] := by
 unfold ndP
 rw [ent_upd hx, if_neg (fun h => by simp at h)]
 cases ent E [] with
 | none => rfl
 | some e => simp only [Option.map_some]; split <;> rfl
end
end Go.Proofs.YtigfbpbnohkokaaGreat

namespace Go.Proofs.YtigfbpbnohkokaaGreat
open Go Go.Fw Go.RowKit
set_option linter.unusedVariables false
set_option linter.unusedSimpArgs false

def setG (g : Gf) (s : NP) (v : Option (Bool × List UInt8)) : Gf := fun r => if r = s then v else g r
def mkdirG (g : Gf) (full : Bool) (p : List UInt8) : Int × Gf :=
 if homeG g p 10 = 0 then (if (g (splitN p)).isSome = true then (10, g) else if full = true then (7, g) else (0, setG g (splitN p) (some (true, [])))) else (homeG g p 10, g)
def putG (g : Gf) (full : Bool) (p b : List UInt8) : Int × Gf :=
 if homeG g p 16 = 0 then (if ((g (splitN p)).getD (false, [])).1 = true then (16, g) else if 65536 < b.length then (3, g) else if (g (splitN p)).isNone = true ∧ full = true then (7, g) else (0, setG g (splitN p) (some (false, b)))) else (homeG g p 16, g)
/-- Does anything stand in it? -/
def emptyG (g : Gf) (q : NP) : Prop := ∀ n, g (q ++ [n]) = none
open Classical in
noncomputable def removeG (g : Gf) (p : List UInt8) : Int × Gf :=
 if findG g p = 0 then (if p = [] ∨ ¬ emptyG g (splitN p) then (18, g) else (0, setG g (splitN p) none)) else (findG g p, g)

section
variable {S : Nat → Prop} {w0 w w1 : World} {E : List Ent} {L N : List (Nat × Obj)} {q : NP} {o' : Obj} {n p : List UInt8} {x : Ent} {bt : Nat} {z : Int}
theorem EAt.tb (M : St S w0 (tb bt E ++ L) w) : EAt w E := fun x hx => M.get (List.mem_append_left _ (List.mem_cons_of_mem _ hx))
theorem POK_split (h : splitE p = 0) : POK (splitN p) := by
 rcases splitN_facts h with ⟨h1, h2⟩ | ⟨h1, h2, h3, h4⟩
 ·rw [h2]; exact ⟨by simp, by simp [allOK], by simp [joinS]⟩
 ·rw [h2]; exact ⟨h3, h4, by rw [joinS_splitS]; exact splitE_len h⟩
theorem absE_some {r : NP} : (absE E r).isSome = (ent E r).isSome := by unfold absE; cases ent E r <;> rfl
theorem absE_none {r : NP} : absE E r = none ↔ ent E r = none := by unfold absE; cases ent E r <;> simp
theorem absE_at {r : NP} {d : Ent} (h : ent E r = some d) : absE E r = some (d.dir, d.data) := by unfold absE; rw [h]; rfl
theorem TI.leaf (hT : TI E) {s : NP} (h : ∀ d, ent E s = some d → d.dir = false) : ∀ k, ent E (s ++ [k]) = none := fun k => by
 cases hk : ent E (s ++ [k]) with
 | none => rfl
 | some e =>
  obtain ⟨d, h1, h2⟩ := hT.par s k e hk
  rw [h d h1] at h2; cases h2
theorem EAt.map (h : EAt w E) {d : Ent} (hd : d ∈ E) (hdd : d.dir = true) : w.cell? ⟨d.b, 1, none⟩ = some (.map (some d.m)) := by have := h.kv hd; rwa [Ent.kvT hdd] at this
theorem kvLen {e : Ent} (hT : TI E) (he : ent E q = some e) : ∃ mb len, e.kv = .map mb ∧ (∀ {w : World}, EAt w E → LenAt w mb len) ∧ (len = 0 ↔ emptyG (absE E) q) := by
 obtain ⟨h1, rfl⟩ := ent_mem he
 cases hd : e.dir with
 | false =>
  refine ⟨none, 0, Ent.kvF hd, fun _ => .inl ⟨rfl, rfl⟩, fun _ n => absE_none.2 (hT.leaf (fun d hd2 => ?_) n), fun _ => rfl⟩
  rw [he] at hd2; cases hd2; exact hd
 | true =>
  have hm := hT.map e h1 hd
  obtain ⟨es, clock, ho, hs⟩ := run_lenMap (P := Tryz.prog) (w := (default : World).alloc e.o) (heap_alloc (default : World) e.o _ |>.trans (if_pos rfl)) hm
  refine ⟨some e.m, es.size, Ent.kvT hd, fun h => .inr ⟨e.m, es, clock, rfl, by rw [h.mp h1 hd, ho], rfl⟩, ?_⟩
  rw [hs]
  unfold emptyG
  constructor
  ·intro h n
   have := h n
   unfold kids at this
   rw [absE_none]
   cases hk : ent E (e.p ++ [n]) with
   | none => rfl
   | some d => rw [hk] at this; cases this
  ·intro h n
   unfold kids
   rw [absE_none.1 (h n)]; rfl
theorem home_found {e : Ent} {root : Int} (hT : TI E) (hE : splitE p = 0) (hn : splitN p ≠ []) (he : ent E (splitN p) = some e) : homeG (absE E) p root = 0 := by
 obtain ⟨q, n, hqn⟩ : ∃ q n, splitN p = q ++ [n] := ⟨_, _, (List.dropLast_concat_getLast hn).symm⟩
 rw [hqn] at he
 obtain ⟨d, hd, hdd⟩ := hT.par q n e he
 obtain ⟨rt, hrt, _⟩ := hT.root
 unfold homeG
 have hq : (splitN p).dropLast = q := by rw [hqn]; simp
 rw [if_pos hE, if_neg hn, hq, if_pos ((comeE_zero hT hrt).2 ⟨d, hd⟩), absE_at hd]
 simp [hdd]
theorem updFin {xo : Option Ent} (M : St S w0 ((bt, .cells [ndP E [], .int .i64 z].toArray 133 (0, 0)) :: (blks (setO E q o') ++ (L ++ N))) w) (hb : N.Perm (blks xo.toList)) (hp : ∀ e, xo = some e → e.p = q ++ [n])
  (hz : z = ((upd E q o' n xo).length : Int) - 1) : St S w0 (tb bt (upd E q o' n xo) ++ L) w := by
 have h1 : (blks (setO (rm E (q ++ [n])) q o')).Sublist (blks (setO E q o')) := by
  rw [setO_rm]; exact blks_sub (List.filter_sublist)
 have M1 := M.sub (List.Sublist.cons_cons _ (List.Sublist.append h1 (List.Sublist.refl _)))
 unfold tb
 rw [upd_ndP hp, ← hz]
 refine M1.perm ?_
 unfold upd
 rw [blks_app]
 refine List.Perm.cons _ ?_
 refine ((List.perm_append_comm.trans (List.Perm.append_right _ hb)).append_left _).trans ?_
 simp
theorem updFin2 {xo : Option Ent} {y : Nat × Obj} (M : St S w0 ([y, (bt, .cells [ndP E [], .int .i64 z].toArray 133 (0, 0))] ++ (blks (setO E q o') ++ (L ++ N))) w) (hb : (y :: N).Perm (blks xo.toList)) (hp : ∀ e, xo = some e → e.p = q ++ [n])
  (hz : z = ((upd E q o' n xo).length : Int) - 1) : St S w0 (tb bt (upd E q o' n xo) ++ L) w := by
 refine updFin (N := y :: N) (M.perm ?_) hb hp hz
 refine (List.Perm.swap _ _ _).trans (List.Perm.cons _ ?_)
 show (y :: (blks (setO E q o') ++ (L ++ N))).Perm (blks (setO E q o') ++ (L ++ y :: N))
 rw [← List.append_assoc, ← List.append_assoc]
 exact List.perm_middle.symm
end
end Go.Proofs.YtigfbpbnohkokaaGreat

namespace Go.Proofs.YtigfbpbnohkokaaGreat
open Go Go.Fw Go.RowKit Go.Proofs
set_option linter.unusedVariables false
set_option linter.unusedSimpArgs false
set_option maxRecDepth 100000
set_option maxHeartbeats 4000000

-- (*valise/tree.Tree).Mkdir
theorem mkdir_c {w0 : World} {w00 : World} {bt : Nat} {E : List Ent} {L : List (Nat × Obj)} {p : List UInt8} (M : Sep w00 (tb bt E ++ L) w0) (hT : TI E) (hl : E.length ≤ 129)  : Ret Tryz.prog 102 #[ptr bt, strV p] w0 fun r w' => ∃ E', r = .int .i64 (mkdirG (absE E) (decide (E.length = 129)) p).1 ∧ absE E' = (mkdirG (absE E) (decide (E.length = 129)) p).2 ∧ TI E' ∧ E'.length ≤ 129 ∧ Sep w00 (tb bt E' ++ L) w' := by
 have hA := TrA.of hT M
 obtain ⟨rt, hrt, _⟩ := hT.root
 refine Ret.of_W Tryz.func102 rfl Tryz.ntmps102 rfl ?_
 refine go 0 ?_
 refine x_call rfl rfl rfl rfl rfl en100 (home_c hA (by decide)) ?_
 rintro r w1 ⟨⟨nd, nm, rfl, hh⟩, hn1⟩
 have M := M.new hn1
 refine ⟨trivial, ?_⟩
 refine cnd 1 ?_ ?_
 ·intro hco1
  refine go 1 ?_
  unfold mkdirG; rw [if_neg hco1]; exact ⟨E, rfl, rfl, hT, hl, M⟩
 ·intro hco1
  obtain ⟨hse, q, n, d, hqn, hd, hdd, rfl, rfl⟩ := hh hco1
  obtain ⟨hdm, hdp⟩ := ent_mem hd
  have hmap := hT.map d hdm hdd
  rw [hdp] at hmap
  have hPOK := POK_split hse
  rw [hqn] at hPOK
  have hlk : ∀ {w : World}, EAt w E → LkAt strV w d.m n (kids E q n) := fun h => by have := h.lk hT hdm hdd n; rwa [hdp] at this
  unfold mkdirG
  rw [if_pos hco1, hqn]
  refine go 0 ?_
  refine x_ld rfl rfl rfl Tryz.underlying165 rfl rfl ((EAt.of' M (fun x hx => by simp [tb, hx])).map hdm hdd) ?_
  refine go 0 ?_
  refine x_lk1 (enc := strV) n rfl rfl rfl (strKey Tryz.underlying9) Tryz.underlying165 ze131 rfl rfl (hlk (EAt.of' M (fun x hx => by simp [tb, hx]))) ?_
  rw [kids_getD]
  refine x_nepn (ent E (q ++ [n])).isSome rfl rfl rfl Tryz.underlying131 rfl rfl (by cases ent E (q ++ [n]) <;> rfl) ?_
  refine cnd 0 ?_ ?_
  ·intro hco2
   refine go 1 ?_
   rw [absE_some, if_pos hco2]; exact ⟨E, rfl, rfl, hT, hl, M⟩
  ·intro hco2
   rw [absE_some, if_neg (by simp [hco2])]
   have hnone : ent E (q ++ [n]) = none := by cases h : ent E (q ++ [n]) with | none => rfl | some e => rw [h] at hco2; cases hco2
   refine go 0 ?_
   refine x_ld rfl rfl rfl Tryz.underlying3 rfl rfl (cell_of (M.at_ 0 rfl) rfl) ?_
   refine cnd 1 ?_ ?_
   ·intro hco3
    refine go 1 ?_
    rw [if_pos (by simp; omega)]; exact ⟨E, rfl, rfl, hT, hl, M⟩
   ·intro hco3
    rw [if_neg (by simp; omega)]
    refine go 0 ?_
    refine W.regD (by kernel_rfl) #[0, 1, 3, 7, 15, 0, 0, 127] [(0, false), (1, false), (2, false), (3, false), (4, false), (5, false), (6, true), (7, true)] (by kernel_rfl) ?_
    intro K wD1 hK hwD1
    have M := M.drew hwD1
    refine go 0 ?_
    refine x_ld rfl rfl rfl Tryz.underlying165 rfl rfl ((EAt.of' M (fun x hx => by simp [tb, hx])).map hdm hdd) ?_
    refine go 0 ?_
    refine x_call rfl rfl rfl rfl rfl en98 (directory_c) ?_
    rintro r wcall2 ⟨bcall2, mcall2, rfl, Mcall2⟩
    have M := M.grow Mcall2
    refine ⟨⟨.inr ((EAt.of' M (fun x hx => by simp [tb, hx])).map hdm hdd), trivial⟩, ?_⟩
    refine x_mup (enc := strV) n rfl rfl rfl (strKey Tryz.underlying9) Tryz.underlying165 rfl rfl rfl ((EAt.of' M (fun x hx => by simp [tb, hx])).mp hdm hdd) hmap ?_
    intro omu1 wmu1 hmmu1 hwmu1
    have M := mapput (P := [_]) (Q := L ++ _) (by simpa [tb] using M) hT.nd hd hdd hwmu1
    refine pnd ?_
    refine go 0 ?_
    refine x_ld rfl rfl rfl Tryz.underlying3 rfl rfl (cell_of (M.at_ 0 rfl) rfl) ?_
    refine x_add _ rfl rfl rfl rfl rfl (wadd (by omega) (by omega)) ?_
    refine go 1 ?_
    intro _ M
    refine go 1 ?_
    refine ⟨upd E q omu1 n (some ⟨q ++ [n], bcall2, true, mcall2, .map #[] 0, .slice none 0 0, [], []⟩), rfl, ?_, ?_, ?_, ?_⟩
    funext r
    rw [absE_upd (fun e he => by cases he; rfl)]
    rfl
    exact hT.upd hd hdd (hT.leaf fun d2 h2 => by rw [hnone] at h2; cases h2) (fun e he => by cases he; exact ⟨rfl, hPOK, fun _ => MapF.made, ⟨OwL.nil, by simp⟩, fun _ => rfl⟩) hmmu1
    rw [upd_len_new hnone]; omega
    refine updFin M (List.Perm.swap _ _ _) (fun e he => by cases he; rfl) ?_
    rw [upd_len_new hnone]; simp

-- (*valise/tree.Tree).Put
theorem put_c {w0 : World} {w00 : World} {bt : Nat} {E : List Ent} {L : List (Nat × Obj)} {p : List UInt8} {v : Value} {b : List UInt8} (M : Sep w00 (tb bt E ++ L) w0) (hT : TI E) (hl : E.length ≤ 129) (hv : ∀ w M, Sep w00 M w → (∀ x ∈ L, x ∈ M) → BytesAt w v b) : Ret Tryz.prog 67 #[ptr bt, strV p, v] w0 fun r w' => ∃ E', r = .int .i64 (putG (absE E) (decide (E.length = 129)) p b).1 ∧ absE E' = (putG (absE E) (decide (E.length = 129)) p b).2 ∧ TI E' ∧ E'.length ≤ 129 ∧ Sep w00 (tb bt E' ++ L) w' := by
 have hA := TrA.of hT M
 obtain ⟨rt, hrt, _⟩ := hT.root
 obtain ⟨pv, cv, rfl⟩ := (hv _ _ M (fun x hx => by simp [hx])).shape
 refine Ret.of_W Tryz.func67 rfl Tryz.ntmps67 rfl ?_
 refine go 0 ?_
 refine x_call rfl rfl rfl rfl rfl en100 (home_c hA (by decide)) ?_
 rintro r w1 ⟨⟨nd, nm, rfl, hh⟩, hn1⟩
 have M := M.new hn1
 refine ⟨trivial, ?_⟩
 refine cnd 1 ?_ ?_
 ·intro hco1
  refine go 1 ?_
  unfold putG; rw [if_neg hco1]; exact ⟨E, rfl, rfl, hT, hl, M⟩
 ·intro hco1
  obtain ⟨hse, q, n, d, hqn, hd, hdd, rfl, rfl⟩ := hh hco1
  obtain ⟨hdm, hdp⟩ := ent_mem hd
  have hmap := hT.map d hdm hdd
  rw [hdp] at hmap
  have hPOK := POK_split hse
  rw [hqn] at hPOK
  have hlk : ∀ {w : World}, EAt w E → LkAt strV w d.m n (kids E q n) := fun h => by have := h.lk hT hdm hdd n; rwa [hdp] at this
  unfold putG
  rw [if_pos hco1, hqn]
  refine go 0 ?_
  refine x_ld rfl rfl rfl Tryz.underlying165 rfl rfl ((EAt.of' M (fun x hx => by simp [tb, hx])).map hdm hdd) ?_
  refine go 0 ?_
  refine x_lk1 (enc := strV) n rfl rfl rfl (strKey Tryz.underlying9) Tryz.underlying165 ze131 rfl rfl (hlk (EAt.of' M (fun x hx => by simp [tb, hx]))) ?_
  rw [kids_getD]
  refine go 0 ?_
  refine x_nepn (ent E (q ++ [n])).isSome rfl rfl rfl Tryz.underlying131 rfl rfl (by cases ent E (q ++ [n]) <;> rfl) ?_
  refine spl 0 31 ?_ ?_
  ·intro hsp1
   obtain ⟨k, hk⟩ := Option.isSome_iff_exists.1 hsp1
   obtain ⟨hkm, hkp⟩ := ent_mem hk
   rw [hk]
   refine go 0 ?_
   refine x_ld rfl rfl rfl Tryz.underlying4 rfl rfl ((EAt.of' M (fun x hx => by simp [tb, hx])).dir hkm) ?_
   refine cnd 0 ?_ ?_
   ·intro hco2
    refine go 1 ?_
    rw [absE_at hk, if_pos (show ((some (k.dir, k.data)).getD (false, [])).1 = true from hco2)]; exact ⟨E, rfl, rfl, hT, hl, M⟩
   ·intro hco2
    rw [absE_at hk, if_neg (show ¬ ((some (k.dir, k.data)).getD (false, [])).1 = true by simp [hco2])]
    refine cnd 2 ?_ ?_
    ·intro hco3
     refine go 1 ?_
     rw [if_pos (by omega)]; exact ⟨E, rfl, rfl, hT, hl, M⟩
    ·intro hco3
     rw [if_neg (by omega), if_neg (by simp)]
     refine go 2 ?_
     refine W.regD (by kernel_rfl) #[0, 1, 3, 7, 15, 0, 0, 64, 192, 448, 1023] [(0, false), (1, false), (2, false), (3, false), (4, false), (5, false), (6, false), (7, true), (8, false), (9, true), (10, true)] (by kernel_rfl) ?_
     intro K wD1 hK hwD1
     have M := M.drew hwD1
     refine go 0 ?_
     refine x_ld rfl rfl rfl Tryz.underlying165 rfl rfl ((EAt.of' M (fun x hx => by simp [tb, hx])).map hdm hdd) ?_
     refine go 0 ?_
     refine x_call rfl rfl rfl rfl rfl en82 (clone_c (hv _ _ M (fun x hx => by simp [tb, hx])) (by omega)) ?_
     rintro r w2c ⟨Lc, Mc, hbc⟩
     have M := M.grow Mc
     obtain ⟨pc, cc, rfl⟩ := hbc.shape
     refine ⟨⟨.inr ((EAt.of' M (fun x hx => by simp [tb, hx])).map hdm hdd), trivial⟩, ?_⟩
     refine go 1 ?_
     refine x_box [_, _, _] rfl rfl rfl rfl rfl ?_
     intro bbx1 wbx1 hbbx1 hwbx1
     have M := M.acons hbbx1 hwbx1
     refine ⟨⟨.inr ((EAt.of' M (fun x hx => by simp [tb, hx])).map hdm hdd), trivial⟩, ?_⟩
     refine x_mup (enc := strV) n rfl rfl rfl (strKey Tryz.underlying9) Tryz.underlying165 rfl rfl rfl ((EAt.of' M (fun x hx => by simp [tb, hx])).mp hdm hdd) hmap ?_
     intro omu1 wmu1 hmmu1 hwmu1
     have M := mapput (P := [(bbx1, .cells [.bool false, .map none, .slice pc b.length cc].toArray 169 (0, 0)), (bt, .cells [ndP E [], .int .i64 ((E.length : Int) - 1)].toArray 133 (0, 0))]) (Q := L ++ Lc) (by simpa [tb, Value.cells] using M) hT.nd hd hdd hwmu1
     refine pnd ?_
     refine go 1 ?_
     refine ⟨upd E q omu1 n (some ⟨q ++ [n], bbx1, false, 0, .map #[] 0, .slice pc b.length cc, Lc, b⟩), rfl, ?_, ?_, ?_, ?_⟩
     funext r
     rw [absE_upd (fun e he => by cases he; rfl)]
     rfl
     exact hT.upd hd hdd (hT.leaf fun d2 h2 => by rw [hk] at h2; cases h2; simpa using hco2) (fun e he => by cases he; exact ⟨rfl, hPOK, (by simp), ⟨hbc, by show b.length ≤ 65536; omega⟩, (by simp)⟩) hmmu1
     rw [upd_len_same hT.nd hk]; omega
     refine updFin2 M (by simp [blks, Ent.blks, Ent.mp, Ent.hd, Ent.kv]) (fun e he => by cases he; rfl) ?_
     rw [upd_len_same hT.nd hk]
  ·intro hsp1
   have hnone : ent E (q ++ [n]) = none := by cases h : ent E (q ++ [n]) with | none => rfl | some e => rw [h] at hsp1; cases hsp1
   rw [hnone]
   refine cnd 2 ?_ ?_
   ·intro hco7
    refine go 1 ?_
    rw [absE_none.2 hnone, if_neg (by simp), if_pos (by omega)]; exact ⟨E, rfl, rfl, hT, hl, M⟩
   ·intro hco7
    rw [absE_none.2 hnone, if_neg (by simp), if_neg (by omega)]
    refine go 1 ?_
    refine x_ld rfl rfl rfl Tryz.underlying3 rfl rfl (cell_of (M.at_ 0 rfl) rfl) ?_
    refine cnd 1 ?_ ?_
    ·intro hco8
     refine go 1 ?_
     rw [if_pos ⟨rfl, by simp; omega⟩]; exact ⟨E, rfl, rfl, hT, hl, M⟩
    ·intro hco8
     rw [if_neg (fun h => by have := h.2; simp at this; omega)]
     refine go 1 ?_
     refine x_ld rfl rfl rfl Tryz.underlying3 rfl rfl (cell_of (M.at_ 0 rfl) rfl) ?_
     refine x_add _ rfl rfl rfl rfl rfl (wadd (by omega) (by omega)) ?_
     refine go 1 ?_
     intro _ M
     refine go 0 ?_
     refine W.regD (by kernel_rfl) #[0, 1, 3, 7, 15, 0, 0, 64, 192, 448, 1023] [(0, false), (1, false), (2, false), (3, false), (4, false), (5, false), (6, false), (7, true), (8, false), (9, true), (10, true)] (by kernel_rfl) ?_
     intro K wD2 hK hwD2
     have M := M.drew hwD2
     refine go 0 ?_
     refine x_ld rfl rfl rfl Tryz.underlying165 rfl rfl ((EAt.of' M (fun x hx => by simp [tb, hx])).map hdm hdd) ?_
     refine go 0 ?_
     refine x_call rfl rfl rfl rfl rfl en82 (clone_c (hv _ _ M (fun x hx => by simp [tb, hx])) (by omega)) ?_
     rintro r w3c ⟨Lc, Mc, hbc⟩
     have M := M.grow Mc
     obtain ⟨pc, cc, rfl⟩ := hbc.shape
     refine ⟨⟨.inr ((EAt.of' M (fun x hx => by simp [tb, hx])).map hdm hdd), trivial⟩, ?_⟩
     refine go 1 ?_
     refine x_box [_, _, _] rfl rfl rfl rfl rfl ?_
     intro bbx2 wbx2 hbbx2 hwbx2
     have M := M.acons hbbx2 hwbx2
     refine ⟨⟨.inr ((EAt.of' M (fun x hx => by simp [tb, hx])).map hdm hdd), trivial⟩, ?_⟩
     refine x_mup (enc := strV) n rfl rfl rfl (strKey Tryz.underlying9) Tryz.underlying165 rfl rfl rfl ((EAt.of' M (fun x hx => by simp [tb, hx])).mp hdm hdd) hmap ?_
     intro omu2 wmu2 hmmu2 hwmu2
     have M := mapput (P := [(bbx2, .cells [.bool false, .map none, .slice pc b.length cc].toArray 169 (0, 0)), (bt, .cells [ndP E [], .int .i64 ((E.length : Int) - 1 + 1)].toArray 133 (0, 0))]) (Q := L ++ Lc) (by simpa [tb, Value.cells] using M) hT.nd hd hdd hwmu2
     refine pnd ?_
     refine go 1 ?_
     refine ⟨upd E q omu2 n (some ⟨q ++ [n], bbx2, false, 0, .map #[] 0, .slice pc b.length cc, Lc, b⟩), rfl, ?_, ?_, ?_, ?_⟩
     funext r
     rw [absE_upd (fun e he => by cases he; rfl)]
     rfl
     exact hT.upd hd hdd (hT.leaf fun d2 h2 => by rw [hnone] at h2; cases h2) (fun e he => by cases he; exact ⟨rfl, hPOK, (by simp), ⟨hbc, by show b.length ≤ 65536; omega⟩, (by simp)⟩) hmmu2
     rw [upd_len_new hnone]; omega
     refine updFin2 M (by simp [blks, Ent.blks, Ent.mp, Ent.hd, Ent.kv]) (fun e he => by cases he; rfl) ?_
     rw [upd_len_new hnone]; simp

end Go.Proofs.YtigfbpbnohkokaaGreat

namespace Go.Proofs.YtigfbpbnohkokaaGreat
open Go Go.Fw Go.RowKit Go.Proofs
set_option linter.unusedVariables false
set_option linter.unusedSimpArgs false
set_option maxRecDepth 100000
set_option maxHeartbeats 4000000

-- (*valise/tree.Tree).Remove
theorem remove_c {w0 : World} {w00 : World} {bt : Nat} {E : List Ent} {L : List (Nat × Obj)} {p : List UInt8} (M : Sep w00 (tb bt E ++ L) w0) (hT : TI E) (hl : E.length ≤ 129)  : Ret Tryz.prog 104 #[ptr bt, strV p] w0 fun r w' => ∃ E', r = .int .i64 (removeG (absE E) p).1 ∧ absE E' = (removeG (absE E) p).2 ∧ TI E' ∧ E'.length ≤ 129 ∧ Sep w00 (tb bt E' ++ L) w' := by
 have hA := TrA.of hT M
 obtain ⟨rt, hrt, _⟩ := hT.root
 refine Ret.of_W Tryz.func104 rfl Tryz.ntmps104 rfl ?_
 refine go 0 ?_
 refine x_call rfl rfl rfl rfl rfl en99 (find_c hA) ?_
 rintro r w1 ⟨⟨nd, rfl, hh⟩, hn1⟩
 have M := M.new hn1
 refine ⟨trivial, ?_⟩
 refine cnd 1 ?_ ?_
 ·intro hco1
  refine go 1 ?_
  unfold removeG; rw [if_neg hco1]; exact ⟨E, rfl, rfl, hT, hl, M⟩
 ·intro hco1
  unfold removeG
  rw [if_pos hco1]
  obtain rfl := hh hco1
  obtain ⟨hse, e, he⟩ := findG_ent hT hrt hco1
  obtain ⟨mb, len, hkv, hlen, hemp⟩ := kvLen hT he
  have hnd : ndP E (splitN p) = ptr e.b := by unfold ndP; rw [he]; rfl
  rw [hnd]
  obtain ⟨hem, hep⟩ := ent_mem he
  refine spl 1 23 ?_ ?_
  ·intro hsp1
   refine go 1 ?_
   rw [if_pos (.inl hsp1)]; exact ⟨E, rfl, rfl, hT, hl, M⟩
  ·intro hsp1
   refine go 0 ?_
   refine x_ld rfl rfl rfl Tryz.underlying165 rfl rfl (by have := (EAt.of' M (fun x hx => by simp [tb, hx])).kv hem; rw [hkv] at this; exact this) ?_
   refine x_lenm len rfl rfl rfl rfl Tryz.underlying165 rfl (hlen (EAt.of' M (fun x hx => by simp [tb, hx]))) ?_
   refine cnd 1 ?_ ?_
   ·intro hco3
    refine go 1 ?_
    rw [if_pos (.inr fun h => by have := hemp.2 h; omega)]; exact ⟨E, rfl, rfl, hT, hl, M⟩
   ·intro hco3
    have hem0 : emptyG (absE E) (splitN p) := hemp.1 (by omega)
    rw [if_neg (fun h => h.elim hsp1 (fun h => h hem0))]
    have hn0 : splitN p ≠ [] := fun h => hsp1 (by rcases splitN_facts hse with ⟨h1, _⟩ | ⟨_, h2, _⟩; exact h1; rw [h2] at h; exact absurd h (splitS_ne p))
    have hA := TrA.of hT M
    refine go 0 ?_
    refine x_call rfl rfl rfl rfl rfl en100 (home_c hA (by decide)) ?_
    rintro r w2 ⟨⟨nd2, nm, rfl, hh2⟩, hn2⟩
    have M := M.new hn2
    obtain ⟨_, q, n, d, hqn, hd, hdd, rfl, rfl⟩ := hh2 (home_found hT hse hn0 he)
    obtain ⟨hdm, hdp⟩ := ent_mem hd
    have hmap := hT.map d hdm hdd
    rw [hdp] at hmap
    refine ⟨trivial, ?_⟩
    refine go 0 ?_
    refine x_ld rfl rfl rfl Tryz.underlying165 rfl rfl ((EAt.of' M (fun x hx => by simp [tb, hx])).map hdm hdd) ?_
    refine go 0 ?_
    refine x_del (enc := strV) n rfl rfl rfl (strKey Tryz.underlying9) Tryz.underlying165 rfl rfl rfl ((EAt.of' M (fun x hx => by simp [tb, hx])).mp hdm hdd) hmap ?_
    intro ode1 wde1 hmde1 hwde1
    have M := mapput (P := [_]) (Q := L) (by simpa [tb] using M) hT.nd hd hdd hwde1
    refine ⟨trivial, ?_⟩
    refine go 0 ?_
    refine x_ld rfl rfl rfl Tryz.underlying3 rfl rfl (cell_of (M.at_ 0 rfl) rfl) ?_
    refine x_sub _ rfl rfl rfl rfl rfl (wsub (by omega) (by omega)) ?_
    refine go 1 ?_
    intro _ M
    refine go 1 ?_
    rw [hqn] at hem0 he ⊢
    refine ⟨upd E q ode1 n none, rfl, ?_, ?_, ?_, ?_⟩
    funext r
    rw [absE_upd (fun e he => by cases he)]
    rfl
    exact hT.upd hd hdd (fun k => absE_none.1 (hem0 k)) (fun e he => by cases he) hmde1
    have := upd_len_rm (o' := ode1) hT.nd he; omega
    refine updFin (N := []) (by simpa using M) (List.Perm.refl _) (fun e he => by cases he) ?_
    have := upd_len_rm (o' := ode1) hT.nd he; omega

end Go.Proofs.YtigfbpbnohkokaaGreat

namespace Go.Proofs.YtigfbpbnohkokaaGreat
open Go Go.Fw Go.RowKit Go.Maps Go.MapKept
set_option linter.unusedVariables false
set_option linter.unusedSimpArgs false

abbrev ltS (x y : List UInt8) : Prop := Lib.compareBytes x y < 0
theorem lt_cmp : ∀ {a b : List UInt8}, a < b ↔ ltS a b
 | [], [] => by constructor; intro h; exact absurd h (List.lt_irrefl _); intro h; exact absurd h (by show ¬ (0 : Int) < 0; omega)
 | [], _ :: _ => ⟨fun _ => by show (-1 : Int) < 0; omega, fun _ => List.nil_lt_cons _ _⟩
 | _ :: _, [] => ⟨fun h => absurd h (List.not_lt_nil _), fun h => absurd h (by show ¬ (1 : Int) < 0; omega)⟩
 | x :: a, y :: b => by
  rw [List.cons_lt_cons_iff, lt_cmp (a := a) (b := b)]
  show _ ↔ (if x < y then (-1 : Int) else if y < x then 1 else Lib.compareBytes a b) < 0
  by_cases h1 : x < y
  ·rw [if_pos h1]; exact ⟨fun _ => by omega, fun _ => .inl h1⟩
  ·rw [if_neg h1]
   by_cases h2 : y < x
   ·rw [if_pos h2]
    refine ⟨?_, fun h => by omega⟩
    rintro (h | ⟨rfl, _⟩)
    ·exact absurd h h1
    ·exact absurd h2 h1
   ·rw [if_neg h2]
    have : x = y := UInt8.toNat_inj.1 (by rw [UInt8.lt_iff_toNat_lt] at *; omega)
    exact ⟨fun h => h.elim (fun h => absurd h h1) (fun h => h.2), fun h => .inr ⟨this, h⟩⟩
theorem ltS_irr (a : List UInt8) : ¬ ltS a a := by unfold ltS; rw [cmp_self]; omega
theorem ltS_tr {a b c : List UInt8} (h1 : ltS a b) (h2 : ltS b c) : ltS a c := lt_cmp.1 (List.lt_trans (lt_cmp.2 h1) (lt_cmp.2 h2))
theorem ltS_or {a b : List UInt8} (h : a ≠ b) : ltS a b ∨ ltS b a := by
 rcases cmp_cases a b with h1 | ⟨_, h1⟩ | h1
 ·exact .inl (by unfold ltS; omega)
 ·exact absurd h1 h
 ·exact .inr (by unfold ltS; rw [cmp_swap]; omega)

/-- Sorted, each once. -/
theorem sorted_strict {l : List (List UInt8)} (hn : l.Nodup) : (l.mergeSort (fun x y => decide (x ≤ y))).Pairwise ltS := by
 have tr : ∀ a b c : List UInt8, decide (a ≤ b) = true → decide (b ≤ c) = true → decide (a ≤ c) = true := fun a b c h1 h2 => by simp only [decide_eq_true_eq] at *; exact List.le_trans h1 h2
 have to : ∀ a b : List UInt8, (decide (a ≤ b) || decide (b ≤ a)) = true := fun a b => by simp only [Bool.or_eq_true, decide_eq_true_eq]; exact List.le_total a b
 have h1 := List.pairwise_mergeSort tr to l
 have h2 : (l.mergeSort (fun x y => decide (x ≤ y))).Nodup := (List.mergeSort_perm l _).nodup_iff.2 hn
 refine (List.pairwise_and_iff.2 ⟨h1, h2⟩).imp fun {a b} ⟨h, hne⟩ => ?_
 simp only [decide_eq_true_eq] at h
 rcases ltS_or hne with h3 | h3
 ·exact h3
 ·exact absurd (lt_cmp.2 h3) h

theorem strict_ext : ∀ {a b : List (List UInt8)}, a.Pairwise ltS → b.Pairwise ltS → (∀ x, x ∈ a ↔ x ∈ b) → a = b := fun ha hb h =>
 List.Perm.eq_of_pairwise (le := ltS) (fun a b _ _ h1 h2 => absurd (ltS_tr h1 h2) (ltS_irr _)) ha hb ((List.perm_ext_iff_of_nodup (ha.imp fun h e => by subst e; exact ltS_irr _ h) (hb.imp fun h e => by subst e; exact ltS_irr _ h)).2 h)

def Rany : Value → Option (DataW Unit × List MemPlace) := fun _ => some (.lit (.bool true), [])

/-- A map that is at hand, in the kit's words. -/
theorem mapF_own {P : Program} {K : TypeId} {w : World} {b : Nat} {o : Obj} {g : List UInt8 → Option Value} (hK : P.underlying K = some .string) (hb : w.heap[b]? = some o) (hm : MapF strV o g) (dom : List (List UInt8)) (hdom : ∀ k v, g k = some v → k ∈ dom ∧ k.length ≤ 1000) (hl : dom.length ≤ 1000) :
  ∃ nn D0, w.ownsMap P K Rany b nn D0 ∧ size D0 ≤ 1000 ∧ ∀ ss : List (List UInt8), ss.Perm (strKeys D0) → ss.Nodup ∧ ∀ k, k ∈ ss ↔ g k ≠ none := by
 obtain ⟨es, clock, l, rfl, he, hn, hg, hst⟩ := hm
 have hlen : es.size = l.length := by have := congrArg List.length he; simpa using this
 have hsub : ∀ k ∈ l.map (·.1), k ∈ dom := fun k hk => by
  obtain ⟨p, hp, rfl⟩ := List.mem_map.1 hk
  exact (hdom p.1 p.2 ((hg p.1 p.2).2 hp)).1
 have hll : l.length ≤ dom.length := by
  have := nodup_le hn hsub
  simpa using this
 have hkey : ∀ x ∈ es.toList, ∃ k v, (k, v) ∈ l ∧ x.key = strV k := fun x hx => by
  obtain ⟨i, hi⟩ := List.mem_iff_getElem?.1 hx
  obtain ⟨p, hp, hpk⟩ := ents_rev he hi
  exact ⟨p.1, p.2, List.mem_of_getElem? hp, hpk⟩
 have hrd : ∀ x ∈ es.toList, ∀ k, x.key = strV k → k.length ≤ 1000 → WideElems.rd P K Rany x = some (.string k, .lit (.bool true)) := fun x hx k hk hkl => by
  unfold WideElems.rd
  rw [hk]
  have : keyOf P K (strV k) = some (.string k) := by
   have hsz : (strB k).size ≤ maxLen := by rw [strB_size]; unfold maxLen; omega
   simp [keyOf, hK, mapKey, strV, hsz]
   simp [strB]
  rw [this]; rfl
 have hkl : ∀ k v, (k, v) ∈ l → k.length ≤ 1000 := fun k v h => (hdom k v ((hg k v).2 h)).2
 have hmap : (es.toList.map (WideElems.rg P K Rany)).map (fun p => strOf p.1) = l.map (·.1) := by
  rw [List.map_map]
  have h1 : es.toList.map (fun e => (e.key, e.val)) = l.map fun p => (strV p.1, p.2) := he
  apply List.ext_getElem?
  intro i
  rw [List.getElem?_map, List.getElem?_map]
  cases hi : es.toList[i]? with
  | none =>
   have : l[i]? = none := by rw [List.getElem?_eq_none_iff] at hi ⊢; rw [← hlen]; simpa using hi
   rw [this]; rfl
  | some e =>
   obtain ⟨p, hp, hpk⟩ := ents_rev he hi
   rw [hp]
   have := WideElems.rg_of (hrd e (List.mem_of_getElem? hi) p.1 hpk (hkl p.1 p.2 (List.mem_of_getElem? hp)))
   simp only [Option.map_some, Function.comp_apply, this]
   rfl
 refine ⟨es.size, _, ⟨es, clock, hb, ⟨by rw [hlen]; unfold maxLen; omega, hst, fun x hx => ?_⟩, Nat.le_refl _, rfl⟩, ?_, ?_⟩
 ·obtain ⟨k, v, hkv, hk⟩ := hkey x hx
  exact ⟨_, hrd x hx k hk (hkl k v hkv)⟩
 ·show (List.foldr DataW.insert [] (es.toList.map (WideElems.rg P K Rany))).length ≤ 1000
  rw [length_sorted]; simp; omega
 ·intro ss hss
  have hp : ss.Perm (l.map (·.1)) := by
   refine hss.trans ?_
   rw [← hmap]
   exact (WideShapes.sorted_perm _).map _
  refine ⟨hp.nodup_iff.2 hn, fun k => ?_⟩
  rw [hp.mem_iff, List.mem_map]
  constructor
  ·rintro ⟨p, hp, rfl⟩; rw [(hg p.1 p.2).2 hp]; simp
  ·intro h
   cases hk : g k with
   | none => exact absurd hk h
   | some v => exact ⟨(k, v), (hg k v).1 hk, rfl⟩

theorem keys_c {w0 : World} {mb : Option Nat} : Ret Tryz.prog 131 #[.map mb] w0 fun r w' => ∃ b, r = .func (.func 142) #[] #[ptr b] ∧ Sep w0 [(b, .cells [.map mb].toArray 165 (0, 0))] w' := by
 have cK : CallsIn Fence.wide 5 Tryz.prog 131 #[.map mb] w0 fun e w' => e = .returned (.func (.func 142) #[] #[.pointer (some ⟨w0.heap.size, 0, none⟩)]) ∧ w' = w0.alloc (.cells #[.map mb] 165) := AnyZ.keys_in Tryz.keysA Fence.wide 5 trivial rfl mb w0
 refine Ret.of_calls ((callsIn_wide.1 cK).mono ?_)
 rintro e w' ⟨rfl, rfl⟩
 exact ⟨_, rfl, _, rfl, by simpa using (St.nil w0 : Sep w0 [] w0).acons rfl rfl⟩

/-- slices.Sort's two contracts. -/
theorem sortsA (m : Nat) : AnyZ.SortsIn Tryz.prog Tryz.sortedA_ren Fence.wide m :=
 ⟨fun blk off cap ss W hH hblk hsz => callsIn_wide.2 (AnyM.slices_Sort_string Tryz.sortA blk off cap ss W hH hblk hsz),
  fun p cap W => callsIn_wide.2 (AnyM.slices_Sort_string_none Tryz.sortA p cap W)⟩

/-- The keys of a map that is at hand, sorted, in a slice of one's own. -/
theorem sorted_c {w0 : World} {bm b : Nat} {o : Obj} {g : List UInt8 → Option Value} (hbm : w0.heap[bm]? = some (.cells [.map (some b)].toArray 165 (0, 0))) (hb : w0.heap[b]? = some o) (hm : MapF strV o g) (dom : List (List UInt8)) (hdom : ∀ k v, g k = some v → k ∈ dom ∧ k.length ≤ 1000) (hl : dom.length ≤ 1000) :
  Ret Tryz.prog 130 #[.func (.func 142) #[] #[ptr bm]] w0 fun r w' => ∃ ks Lr, ks.Pairwise ltS ∧ (∀ k, k ∈ ks ↔ g k ≠ none) ∧ Sep w0 Lr w' ∧ StrsO Lr r ks := by
 obtain ⟨nn, D0, hown, hsz, hks⟩ := mapF_own Tryz.underlying9 hb hm dom hdom hl
 have hlt : bm < w0.heap.size := (Array.getElem?_eq_some_iff.1 hbm).1
 have hcell : w0.cell? ⟨bm, 0, none⟩ = some (.map (some b)) := cell_of hbm rfl
 have hseq : SeqGives Fence.wide 2 Tryz.prog 142 #[.pointer (some ⟨bm, 0, none⟩)] encStr (fun ss => ss.Perm (strKeys D0)) (Maps.size D0) w0 :=
  AnyZ.keys_gives (ρ := Tryz.keysA_ren) { Tryz.keysA with } Fence.wide _ trivial rfl (by omega) bm b nn D0 _ hlt hcell hown
 have cS := AnyZ.sorted_in Tryz.sortedA Fence.wide 5 trivial trivial trivial trivial rfl (by omega) (sortsA _) (enters_of Tryz.func141 (by kernel_rfl) rfl) 142 #[.pointer (some ⟨bm, 0, none⟩)] trivial (enters_of Tryz.func142 (by kernel_rfl) rfl) _ _ (by unfold maxLen; omega) (by omega) _ hseq
 change CallsIn _ _ Tryz.prog 130 _ _ _ at cS
 refine Ret.of_calls ((callsIn_wide.1 cS).mono ?_)
 rintro e w' ⟨v, ss, rfl, hS, hrow, hnil, hbl⟩
 obtain ⟨hnd, hmem⟩ := hks ss hS
 have hperm := List.mergeSort_perm ss (fun x y => decide (x ≤ y))
 have hlen : (ss.mergeSort (fun x y => decide (x ≤ y))).length = ss.length := hperm.length_eq
 have hN := below_new hbl
 have henc : (ss.mergeSort (fun x y => decide (x ≤ y))).map encStr = strCs (ss.mergeSort (fun x y => decide (x ≤ y))) := List.map_congr_left fun x _ => rfl
 rw [henc] at hrow
 have key : ∃ Lr, Sep w0 Lr w' ∧ StrsO Lr v (ss.mergeSort (fun x y => decide (x ≤ y))) := by
  rcases hrow.2 with ⟨rfl, hz⟩ | ⟨gb, cap, cur, rfl, hbase, hgb, r1, r2, r3, r4⟩
  ·have : ss.mergeSort (fun x y => decide (x ≤ y)) = [] := List.length_eq_zero_iff.1 (by omega)
   rw [this]; exact ⟨[], hN, OwL.nil⟩
  ·refine ⟨[(gb, .cells cur 9 (0, 0))], ⟨hN.size, hN.old, by simp, fun x hx => by rw [List.mem_singleton.1 hx]; exact ⟨hgb, .inr hbase⟩, hN.os, hN.tape, hN.output⟩, ?_⟩
   unfold StrsO
   rw [hlen]
   have hcur : strCs (ss.mergeSort (fun x y => decide (x ≤ y))) ++ cur.toList.drop (ss.length * 1) = cur.toList := by rw [← r4, List.take_append_drop]
   refine .inr ⟨gb, cap, cur.toList.drop (ss.length * 1), 9, rfl, ?_, by rw [strCs_len, hlen]; omega, ?_⟩
   ·rw [hcur]
   ·rw [hcur]; simpa using r3
 obtain ⟨Lr, h1, h2⟩ := key
 exact ⟨_, rfl, _, Lr, sorted_strict hnd, fun k => by rw [hperm.mem_iff]; exact hmem k, h1, h2⟩

/-- .. of the nil map. -/
theorem sortedN_c {w0 : World} {bm : Nat} (hbm : w0.heap[bm]? = some (.cells [.map none].toArray 165 (0, 0))) :
  Ret Tryz.prog 130 #[.func (.func 142) #[] #[ptr bm]] w0 fun r w' => r = .slice none 0 0 ∧ New w0 w' := by
 have hlt : bm < w0.heap.size := (Array.getElem?_eq_some_iff.1 hbm).1
 have hcell : w0.cell? ⟨bm, 0, none⟩ = some (.map none) := cell_of hbm rfl
 have hseq : SeqGives Fence.wide 2 Tryz.prog 142 #[.pointer (some ⟨bm, 0, none⟩)] encStr (fun ss : List (List UInt8) => ss = []) 0 w0 :=
  AnyZ.keys_gives_nil (ρ := Tryz.keysA_ren) { Tryz.keysA with } Fence.wide _ trivial rfl bm _ hlt hcell
 have cS := AnyZ.sorted_in Tryz.sortedA Fence.wide 5 trivial trivial trivial trivial rfl (by omega) (sortsA _) (enters_of Tryz.func141 (by kernel_rfl) rfl) 142 #[.pointer (some ⟨bm, 0, none⟩)] trivial (enters_of Tryz.func142 (by kernel_rfl) rfl) _ 0 (Nat.zero_le _) (by omega) _ hseq
 change CallsIn _ _ Tryz.prog 130 _ _ _ at cS
 refine Ret.of_calls ((callsIn_wide.1 cS).mono ?_)
 rintro e w' ⟨v, ss, rfl, rfl, hrow, hnil, hbl⟩
 exact ⟨_, rfl, hnil.2 rfl, below_new hbl⟩
end Go.Proofs.YtigfbpbnohkokaaGreat

namespace Go.Proofs.YtigfbpbnohkokaaGreat
open Go Go.Fw Go.RowKit
set_option linter.unusedVariables false
set_option linter.unusedSimpArgs false

/-- The names in a directory, in order. -/
def ksE (E : List Ent) (q : NP) : NP := (E.filterMap fun e => if e.p.dropLast = q ∧ e.p ≠ [] then e.p.getLast? else none).mergeSort (fun x y => decide (x ≤ y))
/-- All that stands under a path: each directory ahead of what is in it. -/
def dfs (E : List Ent) : Nat → NP → List Ent
 | 0, _ => []
 | k + 1, q => (ksE E q).flatMap fun n => match ent E (q ++ [n]) with | some e => e :: dfs E k (q ++ [n]) | none => []
section
variable {E : List Ent} {q : NP} {n : List UInt8} {e : Ent} {w0 : World}
theorem ks_of {e : Ent} : (if e.p.dropLast = q ∧ e.p ≠ [] then e.p.getLast? else none) = some n ↔ e.p = q ++ [n] := by
 constructor
 ·intro h
  split at h
  ·rename_i h1
   obtain ⟨h2, h3⟩ := h1
   rw [List.getLast?_eq_some_getLast h3] at h
   cases h
   rw [← h2, List.dropLast_concat_getLast h3]
  ·cases h
 ·intro h
  rw [h]; simp
theorem ksE_nodup (hT : TI E) : (E.filterMap fun e => if e.p.dropLast = q ∧ e.p ≠ [] then e.p.getLast? else none).Nodup := by
 have h := hT.nd
 generalize E = l at h
 induction l with
 | nil => simp
 | cons a l ih =>
  simp only [List.map_cons, List.nodup_cons] at h
  rw [List.filterMap_cons]
  cases ha : (if a.p.dropLast = q ∧ a.p ≠ [] then a.p.getLast? else none) with
  | none => exact ih h.2
  | some n =>
   refine List.nodup_cons.2 ⟨fun hm => ?_, ih h.2⟩
   obtain ⟨b, hb, hbn⟩ := List.mem_filterMap.1 hm
   exact h.1 (List.mem_map.2 ⟨b, hb, (ks_of.1 hbn).trans (ks_of.1 ha).symm⟩)
theorem ksE_strict (hT : TI E) : (ksE E q).Pairwise ltS := sorted_strict (ksE_nodup hT)
theorem mem_ksE (hT : TI E) : n ∈ ksE E q ↔ ∃ e, ent E (q ++ [n]) = some e := by
 unfold ksE
 rw [(List.mergeSort_perm _ _).mem_iff, List.mem_filterMap]
 constructor
 ·rintro ⟨e, he, h⟩
  have := ks_of.1 h
  exact ⟨e, this ▸ ent_of hT.nd he⟩
 ·rintro ⟨e, he⟩
  obtain ⟨h1, h2⟩ := ent_mem he
  exact ⟨e, h1, ks_of.2 h2⟩
theorem ksE_len : (ksE E q).length ≤ E.length := by
 unfold ksE
 rw [(List.mergeSort_perm _ _).length_eq]
 exact List.length_filterMap_le _ E
theorem kids_some : kids E q n ≠ none ↔ ∃ e, ent E (q ++ [n]) = some e := by
 unfold kids; cases ent E (q ++ [n]) <;> simp
theorem kdom (hT : TI E) (hl : E.length ≤ 129) : ∃ dom : NP, dom.length ≤ 1000 ∧ ∀ k v, kids E q k = some v → k ∈ dom ∧ k.length ≤ 1000 := by
 refine ⟨E.filterMap fun e => e.p.getLast?, ?_, fun k v h => ?_⟩
 ·have := List.length_filterMap_le (fun e : Ent => e.p.getLast?) E; omega
 ·obtain ⟨e, he⟩ := kids_some.1 (by rw [h]; simp)
  obtain ⟨h1, h2⟩ := ent_mem he
  refine ⟨List.mem_filterMap.2 ⟨e, h1, by rw [h2]; simp⟩, ?_⟩
  have := allOK_len (hT.ok e h1).2.1 k (by rw [h2]; simp)
  omega
theorem Ent.kv_one (e : Ent) : e.kv.oneCell' = true := by unfold Ent.kv; split <;> rfl
/-- What one name brings. -/
def gone (E : List Ent) (k : Nat) (q : NP) (n : List UInt8) : List Ent := match ent E (q ++ [n]) with | some e => e :: dfs E k (q ++ [n]) | none => []
theorem dfs_succ (E : List Ent) (k : Nat) (q : NP) : dfs E (k + 1) q = (ksE E q).flatMap (gone E k q) := rfl
theorem gone_some {k : Nat} (h : ent E (q ++ [n]) = some e) : gone E k q n = e :: dfs E k (q ++ [n]) := by unfold gone; rw [h]
theorem under_join {B r : NP} (h : allOK (B ++ r)) : (if joinS (B ++ r) = [] then n else joinS (B ++ r) ++ 47 :: n) = joinS (B ++ (r ++ [n])) := by
 rw [← List.append_assoc, joinS_snoc]
 by_cases h0 : B ++ r = []
 ·rw [if_pos ((joinS_nil h).2 h0), if_pos h0]
 ·rw [if_neg (fun h1 => h0 ((joinS_nil h).1 h1)), if_neg h0]
theorem join_small {B r : NP} (h : allOK (B ++ r)) (hB : B.length ≤ 8) (hr : r.length ≤ 8) : (joinS (B ++ r)).length ≤ 1000 := by
 have := joinS_le (k := 32) (allOK_len h)
 simp only [List.length_append] at this
 omega
/-- The names of what stands there, sorted. -/
theorem sortedE_c {bm : Nat} (hT : TI E) (hl : E.length ≤ 129) (he : ent E q = some e) (hE : EAt w0 E) (hbm : w0.heap[bm]? = some (.cells [e.kv].toArray 165 (0, 0))) :
  Ret Tryz.prog 130 #[.func (.func 142) #[] #[ptr bm]] w0 fun r w' => ∃ Lr, Sep w0 Lr w' ∧ StrsO Lr r (ksE E q) := by
 obtain ⟨h1, rfl⟩ := ent_mem he
 cases hd : e.dir with
 | true =>
  rw [Ent.kvT hd] at hbm
  obtain ⟨dom, h2, h3⟩ := kdom (q := e.p) hT hl
  refine (sorted_c hbm (hE.mp h1 hd) (hT.map e h1 hd) dom h3 h2).mono ?_
  rintro r w' ⟨ks, Lr, h4, h5, M, h6⟩
  have : ks = ksE E e.p := strict_ext h4 (ksE_strict hT) fun x => by rw [h5, mem_ksE hT, kids_some]
  subst this
  exact ⟨Lr, M, h6⟩
 | false =>
  rw [Ent.kvF hd] at hbm
  refine (sortedN_c hbm).mono ?_
  rintro r w' ⟨rfl, hn⟩
  have : ksE E e.p = [] := List.eq_nil_iff_forall_not_mem.2 fun x hx => by
   obtain ⟨k, hk⟩ := (mem_ksE hT).1 hx
   have := hT.leaf (s := e.p) (fun d hd2 => by rw [he] at hd2; cases hd2; exact hd) x
   rw [this] at hk; cases hk
  rw [this]
  exact ⟨[], hn, OwL.nil⟩
end
end Go.Proofs.YtigfbpbnohkokaaGreat

namespace Go.Proofs.YtigfbpbnohkokaaGreat
open Go Go.Fw Go.RowKit Go.Proofs
set_option linter.unusedVariables false
set_option linter.unusedSimpArgs false
set_option maxRecDepth 100000
set_option maxHeartbeats 4000000

-- valise/tree.under
theorem tunder_c {w0 : World} {a n : List UInt8} (ha : a.length ≤ 100000) (hn : n.length ≤ 100000) : Ret Tryz.prog 113 #[strV a, strV n] w0 fun r w' => r = strV (if a = [] then n else a ++ 47 :: n) ∧ w0 = w' := by
 have M : Sep w0 [] w0 := St.nil w0
 refine Ret.of_W Tryz.func113 rfl Tryz.ntmps113 rfl ?_
 refine cnd 1 ?_ ?_
 ·intro hco1
  refine go 1 ?_
  exact ⟨by rw [if_pos hco1], rfl⟩
 ·intro hco1
  refine go 0 ?_
  refine x_catS rfl rfl rfl rfl rfl (by simp; omega) ?_
  refine go 0 ?_
  refine x_catS rfl rfl rfl rfl rfl (by simp; omega) ?_
  refine go 1 ?_
  exact ⟨by rw [if_neg hco1]; simp, rfl⟩

-- (valise/tree.dict[*valise/tree.node]).all
theorem all_c {w0 : World} {u : Value} (hu : u.oneCell' = true) : Ret Tryz.prog 112 #[.agg #[u]] w0 fun r w' => ∃ bd, r = .func (.func 136) #[] #[ptr bd] ∧ Sep w0 [(bd, .cells [u].toArray 167 (0, 0))] w' := by
 have M : Sep w0 [] w0 := St.nil w0
 refine Ret.of_W Tryz.func112 rfl Tryz.ntmps112 rfl ?_
 refine go 1 ?_
 intro _ _ M
 refine go 2 ?_
 exact ⟨_, rfl, M⟩

-- (valise/tree.dict[*valise/tree.node]).all$1
theorem all_it {w0 : World} {bd l0 : Nat} {q : NP} {E : List Ent} {e : Ent} {I : NP → List (Nat × Obj) → World → Prop} {X : World → Prop} (hT : TI E) (hl : E.length ≤ 129) (he : ent E q = some e)
  (hb : ∀ rest Lx w, I rest Lx w → w.heap[bd]? = some (.cells [e.kv].toArray 167 (0, 0)) ∧ EAt w E)
  (hgrow : ∀ rest Lx Lr w w', I rest Lx w → Sep w Lr w' → I rest (Lx ++ Lr) w')
  (hget : ∀ rest Lx w (x : Nat × Obj), I rest Lx w → x ∈ Lx → w.heap[x.1]? = some x.2)
  (hY : ∀ n rest Lx w k, I (n :: rest) Lx w → ent E (q ++ [n]) = some k → Yld Tryz.prog l0 [strV n, ptr k.b] w fun v w' => ∃ bb : Bool, v = .bool bb ∧ (bb = true → I rest Lx w') ∧ (bb = false → X w'))
  (h0 : I (ksE E q) [] w0) : Ret Tryz.prog 136 #[.func (.yield l0) #[] #[], ptr bd] w0 fun r w' => r = .tuple #[] ∧ ((∃ Lx, I [] Lx w') ∨ X w') := by
 obtain ⟨hem, hep⟩ := ent_mem he
 obtain ⟨mb, len, hkv, _, _⟩ := kvLen hT he
 have hI := h0
 simp only [hkv] at hb
 have hkl := ksE_len (E := E) (q := q)
 refine Ret.of_W Tryz.func136 rfl Tryz.ntmps136 rfl ?_
 refine go 0 ?_
 refine x_ld rfl rfl rfl Tryz.underlying165 rfl rfl (cell_of (hb _ _ _ hI).1 rfl) ?_
 refine x_call rfl rfl rfl rfl rfl en131 (keys_c) ?_
 rintro r w1 ⟨bk, rfl, M1⟩
 have hI := hgrow _ _ _ _ _ hI M1
 have hbk := M1.at_ 0 rfl
 have hE1 := (hb _ _ _ hI).2
 refine ⟨trivial, ?_⟩
 refine x_call rfl rfl rfl rfl rfl en130 (sortedE_c hT hl he hE1 (by rw [hkv]; exact hbk)) ?_
 rintro v w2 ⟨Lr, M2, hks⟩
 have hI := hgrow _ _ _ _ _ hI M2
 obtain ⟨pk, ck, rfl⟩ := hks.shape
 refine ⟨trivial, ?_⟩
 refine go 1 ?_
 refine W.loop (σ := Nat × List (Nat × Obj)) (fun j => [(0, _), (1, _), (8, _), (9, _), (10, .int .i64 ((j.1 : Nat) : Int))]) (fun j w => j.1 ≤ (ksE E q).length ∧ I ((ksE E q).drop j.1) j.2 w ∧ (∀ x ∈ Lr, x ∈ j.2)) (fun j => (ksE E q).length - j.1) (0, _) ⟨rfl, rfl, rfl, rfl, rfl, trivial⟩ ⟨Nat.zero_le _, hI, fun x hx => List.mem_append_right _ hx⟩ ?_
 rintro ⟨j, Lx⟩ w ⟨hj, hJ, hsub⟩
 simp only at hj hJ hsub
 refine cnd 1 ?_ ?_
 ·intro hco1
  obtain ⟨x, hx⟩ := get_lt (l := ksE E q) (q := j) (by omega)
  have hst := strsO_get hks (fun y hy => hget _ _ _ y hJ (hsub y hy))
  obtain ⟨bb, off, rfl, _⟩ := hst.blk (j := j) (by omega)
  obtain ⟨k, hk⟩ := (mem_ksE hT).1 (List.mem_of_getElem? hx)
  have hdr : (ksE E q).drop j = x :: (ksE E q).drop (j + 1) := by
   obtain ⟨h1, rfl⟩ := List.getElem?_eq_some_iff.1 hx
   exact List.drop_eq_getElem_cons h1
  rw [hdr] at hJ
  have hed : e.dir = true := by
   obtain ⟨d, h1, h2⟩ := hT.par q x k hk
   rw [he] at h1; cases h1; exact h2
  have hE := (hb _ _ _ hJ).2
  obtain rfl : some e.m = mb := by have := (Ent.kvT hed).symm.trans hkv; simpa using this
  refine go 0 ?_
  refine x_ia j rfl rfl rfl Tryz.underlying47 sz9 rfl rfl rfl (by omega) ?_
  refine x_ld rfl rfl rfl Tryz.underlying9 rfl rfl (StrsAt.cell hst hx) ?_
  refine go 0 ?_
  refine x_ld rfl rfl rfl Tryz.underlying165 rfl rfl (cell_of (hb _ _ _ hJ).1 rfl) ?_
  refine go 0 ?_
  refine x_lk1 (enc := strV) x rfl rfl rfl (strKey Tryz.underlying9) Tryz.underlying165 ze131 rfl rfl (hE.lk hT hem hed x) ?_
  rw [hep, kids_getD, hk]
  refine x_yld rfl rfl rfl rfl rfl (hY x _ _ _ k hJ hk) ?_
  rintro v w3 ⟨bb2, rfl, hb1, hb2⟩
  refine ⟨trivial, ?_⟩
  refine cnd 1 ?_ ?_
  ·intro hco2
   refine go 1 ?_
   exact ⟨rfl, .inr (hb2 hco2)⟩
  ·intro hco2
   refine go 0 ?_
   refine x_add _ rfl rfl rfl rfl rfl (wadd (by omega) (by omega)) ?_
   refine go 0 ?_
   exact At.back ((j + 1, Lx)) ⟨rfl, rfl, rfl, rfl, rfl, trivial⟩ ⟨by omega, hb1 hco2, hsub⟩ (by first | omega | (simp only; omega) | (simp; done) | (simp; omega))
 ·intro hco1
  refine go 1 ?_
  have hj2 : (ksE E q).drop j = [] := List.drop_eq_nil_of_le (by omega)
  rw [hj2] at hJ
  exact ⟨rfl, .inl ⟨_, hJ⟩⟩

end Go.Proofs.YtigfbpbnohkokaaGreat

namespace Go.Proofs.YtigfbpbnohkokaaGreat
open Go Go.Fw Go.RowKit Go.Proofs
set_option linter.unusedVariables false
set_option linter.unusedSimpArgs false
set_option maxRecDepth 100000
set_option maxHeartbeats 4000000

-- valise/tree.walk
theorem walk_step {w00 w0 : World} {E : List Ent} {q0 B r : NP} {e : Ent} {g : Nat} {lb : Array Value} {V : List Ent → List (Nat × Obj) → Prop} {done : List Ent} {Lv Lx : List (Nat × Obj)} {fuel : Nat} {TOT : List Ent} (hT : TI E) (hl : E.length ≤ 129) (hent : entered Tryz.prog g = true) (hB : B.length ≤ 8 ∧ allOK B) (hE0 : EAt w00 E)
  (hv : ∀ {w : World} done r k Lv Lx, V done Lv → r ≠ [] → ent E (q0 ++ r) = some k → (∃ t, done ++ k :: t = TOT) → Sep w00 (Lv ++ Lx) w → Ret Tryz.prog g (#[] ++ [strV (joinS (B ++ r)), ptr k.b].toArray ++ lb) w fun v w' => ∃ Lv', V (done ++ [k]) Lv' ∧ Sep w00 (Lv' ++ Lx) w')
  (ih : ∀ {w : World} done r k Lv Lx, V done Lv → ent E (q0 ++ r) = some k → 8 < fuel + (q0 ++ r).length → (∃ t, done ++ (dfs E fuel (q0 ++ r) ++ t) = TOT) → Sep w00 (Lv ++ Lx) w → Ret Tryz.prog 79 #[strV (joinS (B ++ r)), ptr k.b, .func (.func g) #[] lb] w fun v w' => v = .tuple #[] ∧ ∃ Lv', V (done ++ dfs E fuel (q0 ++ r)) Lv' ∧ Sep w00 (Lv' ++ Lx) w')
  (he : ent E (q0 ++ r) = some e) (hfu : 8 < fuel + 1 + (q0 ++ r).length) (hTt : ∃ t, done ++ (dfs E (fuel + 1) (q0 ++ r) ++ t) = TOT) (hVd : V done Lv) (M : Sep w00 (Lv ++ Lx) w0) : Ret Tryz.prog 79 #[strV (joinS (B ++ r)), ptr e.b, .func (.func g) #[] lb] w0 fun v w' => v = .tuple #[] ∧ ∃ Lv', V (done ++ dfs E (fuel + 1) (q0 ++ r)) Lv' ∧ Sep w00 (Lv' ++ Lx) w' := by
 obtain ⟨tt, hTt⟩ := hTt
 obtain ⟨hem, hep⟩ := ent_mem he
 have hok := hT.ok e hem
 rw [hep] at hok
 have hBr : allOK (B ++ r) := fun x hx => (List.mem_append.1 hx).elim (hB.2 x) (fun h => hok.2.1 x (List.mem_append_right _ h))
 have hjl := join_small hBr hB.1 (by have := hok.1; simp at this; omega)
 refine Ret.of_W Tryz.func79 rfl Tryz.ntmps79 rfl ?_
 refine go 1 ?_
 intro bbx1 _ M
 refine go 1 ?_
 intro bbx2 _ M
 refine go 0 ?_
 refine x_ldA [_] rfl rfl rfl Tryz.underlying167 rfl sz167 rfl rfl ⟨_, _, _, (hE0.new M.frm).hd hem, rfl⟩ ?_
 refine x_call rfl rfl rfl rfl rfl en112 (all_c (Ent.kv_one e)) ?_
 rintro r_ wcall1 ⟨bd, rfl, M1⟩
 have M := M.grow M1
 refine ⟨trivial, ?_⟩
 refine go 0 ?_
 refine W.range rfl en136 (fun rr hkt hps has hbdrng1 w2 hw2 => ?_)
 have M := M.range hw2
 have M : Sep w00 ([(bbx2, .cells [.func (.func g) #[] lb].toArray 144 (0, 0)), (bbx1, .cells [strV (joinS (B ++ r))].toArray 9 (0, 0)), (bd, .cells [e.kv].toArray 167 (0, 0)), (wcall1.heap.size, .deferred (some [])), (wcall1.heap.size + 1, .loop { rr with state := .ready, pending := none })] ++ (Lv ++ (Lx ++ []))) w2 := M.perm (perm_c fun p => by simp only [List.countP_append, List.countP_cons, List.countP_nil]; omega)
 refine (all_it (I := fun rest Lq w' => ∃ done' Lv', V done' Lv' ∧ done' ++ rest.flatMap (gone E fuel (q0 ++ r)) = done ++ dfs E (fuel + 1) (q0 ++ r) ∧ Sep w00 ([(bbx2, .cells [.func (.func g) #[] lb].toArray 144 (0, 0)), (bbx1, .cells [strV (joinS (B ++ r))].toArray 9 (0, 0)), (bd, .cells [e.kv].toArray 167 (0, 0)), (wcall1.heap.size, .deferred (some [])), (wcall1.heap.size + 1, .loop { rr with state := .ready, pending := none })] ++ (Lv' ++ (Lx ++ Lq))) w') (X := fun _ => False) hT hl he ?_ ?_ ?_ ?_ ⟨done, Lv, hVd, rfl, M⟩).mono ?_
 ·rintro rest Lq w' ⟨done', Lv', hVd', hdn, M⟩
  exact ⟨M.at_ 2 rfl, hE0.new M.frm⟩
 ·rintro rest Lq Lr w' w1 ⟨done', Lv', hVd', hdn, M⟩ M1
  exact ⟨done', Lv', hVd', hdn, by simpa only [List.append_assoc] using M.grow M1⟩
 ·rintro rest Lq w' x ⟨done', Lv', hVd', hdn, M⟩ hx
  exact M.get (by simp [hx])
 ·rintro n rest Lq w' k ⟨done', Lv', hVd', hdn, M⟩ hk
  have hk2 : ent E (q0 ++ (r ++ [n])) = some k := by simpa only [List.append_assoc] using hk
  have hkok := hT.ok k (ent_mem hk).1
  have hnl : n.length ≤ 32 := allOK_len hkok.2.1 n (by rw [(ent_mem hk).2]; simp)
  rw [List.flatMap_cons, gone_some hk] at hdn
  have hund := under_join (n := n) hBr
  refine Yld.two (M.at_ 4 rfl) hkt hps rfl rfl has ?_
  refine go 0 ?_
  refine At.asg hbdrng1 (M.at_ 4 rfl) ?_
  generalize hwb : World.putObj _ _ _ = wb
  have M := M.put 4 rfl hwb.symm
  refine go 0 ?_
  refine W.regD (by kernel_rfl) #[0, 0, 0, 6, 0, 31] [(0, false), (1, false), (2, false), (4, false), (3, true), (5, true)] (by kernel_rfl) ?_
  intro K wD1 hK hwD1
  have M := M.drew hwD1
  refine go 2 ?_
  refine x_call rfl rfl rfl rfl rfl en113 (tunder_c (by omega) (by omega)) ?_
  rintro r_ w_ ⟨rfl, rfl⟩
  rw [hund]
  refine pnd ?_
  have M := St.inn2 (F := [_, _, _, _, _]) M
  refine x_call rfl rfl rfl rfl rfl hent (hv done' (r ++ [n]) k Lv' _ hVd' (by simp) hk2 ⟨_, by rw [← hTt, ← List.append_assoc done, ← hdn]; simp only [List.append_assoc, List.cons_append]; rfl⟩ M) ?_
  rintro v3 w3 ⟨Lv3, hVd3, M⟩
  have M := M.out2 [_, _, _, _, _]
  refine pnd ?_
  refine go 0 ?_
  refine W.regD (by kernel_rfl) #[0, 0, 3, 0, 0, 31] [(0, false), (1, false), (3, false), (4, false), (2, true), (5, true)] (by kernel_rfl) ?_
  intro K wD2 hK hwD2
  have M := M.drew hwD2
  refine go 2 ?_
  refine x_call rfl rfl rfl rfl rfl en113 (tunder_c (by omega) (by omega)) ?_
  rintro r_ w_ ⟨rfl, rfl⟩
  rw [hund]
  refine pnd ?_
  refine x_call rfl rfl rfl rfl rfl en79 (ih (done' ++ [k]) (r ++ [n]) k Lv3 _ hVd3 hk2 (by simp only [List.length_append, List.length_cons, List.length_nil] at hfu ⊢; omega) ⟨_, by rw [← hTt, ← List.append_assoc done, ← hdn]; simp only [List.append_assoc, List.cons_append, List.nil_append]; rfl⟩ (St.inn2 (F := [_, _, _, _, _]) M)) ?_
  rintro v5 w5 ⟨rfl, Lv5, hVd5, M⟩
  have M := M.out2 [_, _, _, _, _]
  refine pnd ?_
  refine go 0 ?_
  refine At.rnd_n (by first | exact M.at_ 0 rfl | exact M.at_ 1 rfl | exact M.at_ 2 rfl | exact M.at_ 3 rfl | exact M.at_ 4 rfl | exact M.at_ 5 rfl | exact M.at_ 6 rfl | exact M.at_ 7 rfl) ?_
  generalize hwy : World.putObj _ _ _ = wy
  have M := M.put 4 rfl hwy.symm
  exact ⟨true, rfl, fun _ => ⟨_, Lv5, hVd5, by rw [← hdn]; simp only [List.append_assoc, List.cons_append, List.nil_append], M⟩, fun h => by cases h⟩
 ·rintro v w3 ⟨rfl, ⟨Lq, done', Lv', hVd', hdn, M⟩ | HX⟩
  ·refine .inl ⟨.ready, by simp, M.at_ 4 rfl, ?_⟩
   generalize hwx : World.putObj _ _ _ = w4
   have M := M.put 4 rfl hwx.symm
   refine go 0 ?_
   refine At.mark (M.at_ 3 rfl) ?_
   generalize hwy : World.putObj _ _ _ = w5
   have M := M.put 3 rfl hwy.symm
   refine go 1 ?_
   refine ⟨rfl, Lv', ?_, ?_⟩
   rw [List.flatMap_nil, List.append_nil] at hdn
   rw [← hdn]; exact hVd'
   exact (St.dropL (L' := [_, _, _, _, _]) M).cutR2
  ·exact HX.elim

end Go.Proofs.YtigfbpbnohkokaaGreat

namespace Go.Proofs.YtigfbpbnohkokaaGreat
open Go Go.Fw Go.RowKit Go.Proofs
set_option linter.unusedVariables false
set_option linter.unusedSimpArgs false


/-- Going through what stands under a path. -/
theorem walk_c {w00 : World} {E : List Ent} {q0 B : NP} {g : Nat} {lb : Array Value} {V : List Ent → List (Nat × Obj) → Prop} {TOT : List Ent} (hT : TI E) (hl : E.length ≤ 129) (hent : entered Tryz.prog g = true) (hB : B.length ≤ 8 ∧ allOK B) (hE0 : EAt w00 E)
  (hv : ∀ {w : World} done r k Lv Lx, V done Lv → r ≠ [] → ent E (q0 ++ r) = some k → (∃ t, done ++ k :: t = TOT) → Sep w00 (Lv ++ Lx) w → Ret Tryz.prog g (#[] ++ [strV (joinS (B ++ r)), ptr k.b].toArray ++ lb) w fun v w' => ∃ Lv', V (done ++ [k]) Lv' ∧ Sep w00 (Lv' ++ Lx) w') :
  ∀ (fuel : Nat) {w : World} (done : List Ent) (r : NP) (k : Ent) (Lv Lx : List (Nat × Obj)), V done Lv → ent E (q0 ++ r) = some k → 8 < fuel + (q0 ++ r).length → (∃ t, done ++ (dfs E fuel (q0 ++ r) ++ t) = TOT) → Sep w00 (Lv ++ Lx) w → Ret Tryz.prog 79 #[strV (joinS (B ++ r)), ptr k.b, .func (.func g) #[] lb] w fun v w' => v = .tuple #[] ∧ ∃ Lv', V (done ++ dfs E fuel (q0 ++ r)) Lv' ∧ Sep w00 (Lv' ++ Lx) w'
 | 0, w, done, r, k, Lv, Lx, _, hk, hf, _, _ => by
  have := (hT.ok k (ent_mem hk).1).1
  rw [(ent_mem hk).2] at this
  omega
 | fuel + 1, w, done, r, k, Lv, Lx, hV, hk, hf, ht, M => walk_step hT hl hent hB hE0 hv (fun done r k Lv Lx hV hk hf ht M => walk_c hT hl hent hB hE0 hv fuel done r k Lv Lx hV hk hf ht M) hk hf ht hV M

/-! ## Rows of files -/
abbrev Raw := List UInt8 × Bool × List UInt8
def fCs (l : List (Raw × Value)) : List Value := l.flatMap fun f => [strV f.1.1, .bool f.1.2.1, f.2]
theorem fCs_len (l : List (Raw × Value)) : (fCs l).length = l.length * 3 := by
 induction l with
 | nil => rfl
 | cons a l ih => simp only [fCs, List.flatMap_cons, List.length_append, List.length_cons, List.length_nil] at ih ⊢; omega
/-- A slice that holds these files. -/
def FilesAt (w : World) (v : Value) (l : List Raw) : Prop := ∃ fs : List (Raw × Value), fs.map (·.1) = l ∧ Sg w v 3 fs.length (fCs fs) ∧ ∀ f ∈ fs, BytesAt w f.2 f.1.2.2 ∧ f.2.oneCell' = true
/-- .. of one's own. -/
def FilesO (L : List (Nat × Obj)) (v : Value) (l : List Raw) : Prop := ∃ (fs : List (Raw × Value)) (Lo Ld : List (Nat × Obj)), fs.map (·.1) = l ∧ L = Lo ++ Ld ∧ OwL Lo v 3 fs.length (fCs fs) ∧ ∀ f ∈ fs, SlL Ld f.2 1 f.1.2.2.length (byteCs f.1.2.2) ∧ f.2.oneCell' = true
theorem FilesAt.new {w w' : World} {v : Value} {l : List Raw} (h : FilesAt w v l) (hn : New w w') : FilesAt w' v l :=
 let ⟨fs, h1, h2, h3⟩ := h; ⟨fs, h1, h2.new hn, fun f hf => ⟨(h3 f hf).1.new hn, (h3 f hf).2⟩⟩
theorem filesO_get {w : World} {L : List (Nat × Obj)} {v : Value} {l : List Raw} (h : FilesO L v l) (hg : ∀ x ∈ L, w.heap[x.1]? = some x.2) : FilesAt w v l := by
 obtain ⟨fs, Lo, Ld, h1, rfl, h2, h3⟩ := h
 exact ⟨fs, h1, .inr ((h2.sl (by decide)).get fun x hx => hg x (List.mem_append_left _ hx)), fun f hf => ⟨.inr ((h3 f hf).1.get fun x hx => hg x (List.mem_append_right _ hx)), (h3 f hf).2⟩⟩
def Ent.raw (e : Ent) : Raw := (joinS e.p, e.dir, e.data)
theorem fCs_one {l : List (Raw × Value)} (h : ∀ f ∈ l, f.2.oneCell' = true) : ∀ u ∈ fCs l, u.oneCell' = true := by
 intro u hu
 obtain ⟨f, hf, hu⟩ := List.mem_flatMap.1 hu
 simp only [List.mem_cons, List.not_mem_nil, or_false] at hu
 rcases hu with rfl | rfl | rfl
 ·rfl
 ·rfl
 ·exact h f hf

end Go.Proofs.YtigfbpbnohkokaaGreat

namespace Go.Proofs.YtigfbpbnohkokaaGreat
open Go Go.Fw Go.RowKit Go.Proofs
set_option linter.unusedVariables false
set_option linter.unusedSimpArgs false
set_option maxRecDepth 100000
set_option maxHeartbeats 4000000

-- (*valise/tree.Tree).Files$1
theorem visitF_c {w00 w0 : World} {E : List Ent} {k : Ent} {bo : Nat} {ov : Value} {Lo Ld Lx : List (Nat × Obj)} {fs : List (Raw × Value)} (hT : TI E) (hE0 : EAt w00 E) (hkm : k ∈ E) (hfl : fs.length ≤ 1000) (how : OwL Lo ov 3 fs.length (fCs fs)) (hdat : ∀ f ∈ fs, SlL Ld f.2 1 f.1.2.2.length (byteCs f.1.2.2) ∧ f.2.oneCell' = true)
  (M : Sep w00 ((bo, .cells [ov].toArray 24 (0, 0)) :: (Lo ++ (Ld ++ Lx))) w0) : Ret Tryz.prog 80 #[strV (joinS k.p), ptr k.b, ptr bo] w0 fun v w' => ∃ ov' Lo' Lf dv, OwL Lo' ov' 3 (fs ++ [(k.raw, dv)]).length (fCs (fs ++ [(k.raw, dv)])) ∧ (∀ f ∈ fs ++ [(k.raw, dv)], SlL (Ld ++ Lf) f.2 1 f.1.2.2.length (byteCs f.1.2.2) ∧ f.2.oneCell' = true) ∧ Sep w00 ((bo, .cells [ov'].toArray 24 (0, 0)) :: (Lo' ++ ((Ld ++ Lf) ++ Lx))) w' := by
 have hfo := fCs_one (fun f hf => (hdat f hf).2)
 refine Ret.of_W Tryz.func80 rfl Tryz.ntmps80 rfl ?_
 refine go 0 ?_
 refine W.regD (by kernel_rfl) #[0, 0, 0, 6, 14, 31, 63] [(0, false), (1, false), (2, false), (3, true), (4, true), (5, true), (6, true)] (by kernel_rfl) ?_
 intro K wD1 hK hwD1
 have M := M.drew hwD1
 refine go 1 ?_
 refine x_call rfl rfl rfl rfl rfl en81 (file_c (hE0.new M.frm) hT hkm) ?_
 rintro r_ w1 ⟨dv, Lf, rfl, Mf, hbf⟩
 have M := M.grow Mf
 obtain ⟨pf, cf, rfl⟩ := hbf.shape
 refine pnd ?_
 refine x_bs1 (cs := [strV (joinS k.p), .bool k.dir, .slice pf k.data.length cf]) rfl rfl rfl Tryz.underlying24 sz29 ze29 (Z := [_, _, _]) rfl rfl (by decide) (by decide) rfl rfl rfl ?_
 intro bbs1 wbs1 hbbs1 hwbs1
 have M0 := M.acons hbbs1 hwbs1
 have hslbs1 : Sl wbs1 (.slice (some ⟨bbs1, 0, none⟩) 1 1) 3 1 [strV (joinS k.p), .bool k.dir, .slice pf k.data.length cf] := .inr ⟨bbs1, 0, 1, _, _, _, rfl, by omega, M0.at_ 0 rfl, rfl, rfl⟩
 have M := M0.tail
 refine pnd ?_
 have M : Sep w00 (Lo ++ ((bo, .cells [ov].toArray 24 (0, 0)) :: (Ld ++ (Lx ++ Lf)))) wbs1 := M.perm (perm_c fun p => by simp only [List.countP_append, List.countP_cons, List.countP_nil]; omega)
 refine x_apL rfl rfl rfl rfl Tryz.underlying24 sz29 ze29 rfl by29 rfl rfl how M hfo (hslbs1.src Tryz.underlying24 (by intro u hu; simp at hu; rcases hu with rfl | rfl | rfl <;> rfl)) (by omega) (by decide) (by omega) ?_
 intro Lo2 v6 w6 how M
 have M : Sep w00 ((bo, .cells [ov].toArray 24 (0, 0)) :: (Lo2 ++ ((Ld ++ Lf) ++ Lx))) w6 := M.perm (perm_c fun p => by simp only [List.countP_append, List.countP_cons, List.countP_nil]; omega)
 obtain ⟨p6, c6, rfl⟩ := how.shape
 refine pnd ?_
 refine x_st [_] _ rfl rfl rfl sz24 rfl rfl rfl rfl (by first | exact M.at_ 0 rfl | exact M.at_ 1 rfl | exact M.at_ 2 rfl | exact M.at_ 3 rfl | exact M.at_ 4 rfl | exact M.at_ 5 rfl | exact M.at_ 6 rfl | exact M.at_ 7 rfl) rfl rfl rfl ?_
 intro wst1 hwst1
 have M := by first | exact M.put 0 rfl hwst1 | exact M.put 1 rfl hwst1 | exact M.put 2 rfl hwst1 | exact M.put 3 rfl hwst1 | exact M.put 4 rfl hwst1 | exact M.put 5 rfl hwst1 | exact M.put 6 rfl hwst1 | exact M.put 7 rfl hwst1
 refine pnd ?_
 refine go 1 ?_
 refine ⟨_, Lo2, Lf, .slice pf k.data.length cf, by simpa [fCs, Ent.raw] using how, ?_, M⟩
 intro f hf
 rcases List.mem_append.1 hf with hf | hf
 ·exact ⟨(hdat f hf).1.mono (fun x hx => List.mem_append_left _ hx), (hdat f hf).2⟩
 ·obtain rfl := List.mem_singleton.1 hf
  exact ⟨(OwL.sl hbf (by decide)).mono (fun x hx => List.mem_append_right _ hx), rfl⟩

-- (*valise/tree.Tree).Files
theorem files_c {w0 : World} {bt : Nat} {E : List Ent}  (hA : TrA w0 bt E) (hl : E.length ≤ 129) (hdl : (dfs E 9 []).length ≤ 1000) : Ret Tryz.prog 46 #[ptr bt] w0 fun r w' => ∃ Lr, Sep w0 Lr w' ∧ FilesO Lr r ((dfs E 9 []).map Ent.raw) := by
 have M : Sep w0 [] w0 := St.nil w0
 have hA0 := hA
 obtain ⟨rt, hrt, hbt, hE, hT⟩ := hA0
 refine Ret.of_W Tryz.func46 rfl Tryz.ntmps46 rfl ?_
 refine go 0 ?_
 refine x_call rfl rfl rfl rfl rfl en78 (made_c (hA.new M.frm)) ?_
 rintro r w1 ⟨rfl, rfl⟩
 refine ⟨trivial, ?_⟩
 refine go 2 ?_
 intro bal1 _ M
 refine go 0 ?_
 refine x_ld rfl rfl rfl Tryz.underlying131 rfl rfl (cell_of (New.keep M.frm hbt) rfl) ?_
 refine go 1 ?_
 refine x_call rfl rfl rfl rfl rfl en79 (walk_c (w00 := w0) (q0 := []) (B := []) (lb := #[ptr bal1]) (TOT := dfs E 9 []) (V := fun done Lv => ∃ ov Lo Ld fs, Lv = (bal1, .cells [ov].toArray 24 (0, 0)) :: (Lo ++ Ld) ∧ fs.map (·.1) = done.map Ent.raw ∧ OwL Lo ov 3 fs.length (fCs fs) ∧ ∀ f ∈ fs, SlL Ld f.2 1 f.1.2.2.length (byteCs f.1.2.2) ∧ f.2.oneCell' = true) hT hl en80 ⟨by simp, by simp [allOK]⟩ hE
  (fun {w} done r k Lv Lx hV hr hk ht M => by
   obtain ⟨ov, Lo, Ld, fs, rfl, hm, how, hd⟩ := hV
   have hfl : fs.length = done.length := by simpa using congrArg List.length hm
   have hdn : done.length ≤ 1000 := by obtain ⟨t, ht⟩ := ht; have := congrArg List.length ht; simp at this; omega
   have hkp : k.p = r := (ent_mem hk).2
   have := visitF_c (Lx := Lx) hT hE (ent_mem hk).1 (by omega) how hd (by simpa only [List.cons_append, List.append_assoc] using M)
   rw [hkp] at this
   refine this.mono ?_
   rintro v w' ⟨ov', Lo', Lf, dv, h1, h2, M⟩
   refine ⟨_, ⟨ov', Lo', Ld ++ Lf, _, rfl, by simp [hm], h1, h2⟩, by simpa only [List.cons_append, List.append_assoc] using M⟩)
  9 [] [] rt [(bal1, _)] [] ⟨_, [], [], [], rfl, rfl, OwL.nil, by simp⟩ hrt (by simp) ⟨[], by simp⟩ (by simpa using M)) ?_
 rintro v w2 ⟨rfl, Lv, ⟨ov, Lo, Ld, fs, rfl, hm, how, hd⟩, M⟩
 refine ⟨trivial, ?_⟩
 refine go 0 ?_
 refine x_ld rfl rfl rfl Tryz.underlying24 rfl rfl (cell_of (M.at_ 0 rfl) rfl) ?_
 refine go 1 ?_
 simp only [List.append_nil, List.nil_append] at M hm
 exact ⟨_, M.tail, fs, Lo, Ld, hm, rfl, how, hd⟩

end Go.Proofs.YtigfbpbnohkokaaGreat

namespace Go.Proofs.YtigfbpbnohkokaaGreat
open Go Go.Fw Go.RowKit
set_option linter.unusedVariables false
set_option linter.unusedSimpArgs false

section
variable {E : List Ent} {q a b r s : NP} {n : List UInt8} {e : Ent}
/-- All that stands under a path is gone through, and nothing else. -/
theorem mem_dfs (hT : TI E) : ∀ {fuel : Nat} {q : NP}, 8 < fuel + q.length → ∀ {e : Ent}, e ∈ dfs E fuel q ↔ ∃ t, t ≠ [] ∧ ent E (q ++ t) = some e
 | 0, q, hf, e => by
  refine ⟨fun h => (by cases h), fun ⟨t, _, h⟩ => ?_⟩
  have := (hT.ok e (ent_mem h).1).1
  rw [(ent_mem h).2] at this
  simp at this; omega
 | fuel + 1, q, hf, e => by
  rw [dfs_succ, List.mem_flatMap]
  constructor
  ·rintro ⟨n, hn, he⟩
   obtain ⟨k, hk⟩ := (mem_ksE hT).1 hn
   rw [gone_some hk] at he
   rcases List.mem_cons.1 he with rfl | he
   ·exact ⟨[n], by simp, hk⟩
   ·obtain ⟨t, _, ht⟩ := (mem_dfs hT (by simp; omega)).1 he
    exact ⟨n :: t, by simp, by simpa using ht⟩
  ·rintro ⟨t, h0, ht⟩
   obtain ⟨n, t, rfl⟩ : ∃ n t', t = n :: t' := by cases t with | nil => exact absurd rfl h0 | cons n t => exact ⟨n, t, rfl⟩
   have ht2 : ent E ((q ++ [n]) ++ t) = some e := by simpa using ht
   obtain ⟨k, hk, _⟩ := hT.pre ht2
   refine ⟨n, (mem_ksE hT).2 ⟨k, hk⟩, ?_⟩
   rw [gone_some hk]
   by_cases h1 : t = []
   ·subst h1
    rw [List.append_nil, hk] at ht2
    cases ht2; exact List.mem_cons_self
   ·exact List.mem_cons_of_mem _ ((mem_dfs hT (by simp; omega)).2 ⟨t, h1, ht2⟩)

abbrev ltP (a b : NP) : Prop := compareL a b < 0
theorem ltP_irr (a : NP) : ¬ ltP a a := by unfold ltP; rw [cmpL_self]; omega
theorem ltP_pre (q : NP) {a b : NP} : ltP (q ++ a) (q ++ b) ↔ ltP a b := by
 induction q with
 | nil => rfl
 | cons x q ih =>
  unfold ltP at *
  show (if Lib.compareBytes x x ≠ 0 then _ else compareL (q ++ a) (q ++ b)) < 0 ↔ _
  rw [if_neg (by rw [cmp_self]; simp)]
  exact ih
theorem ltP_snoc (q : NP) {t : NP} (h : t ≠ []) : ltP q (q ++ t) := by
 have := (ltP_pre q (a := []) (b := t)).2 (by cases t with | nil => exact absurd rfl h | cons x t => show (-1 : Int) < 0; omega)
 simpa using this
theorem ltP_head (q : NP) {m n : List UInt8} (h : ltS m n) (s t : NP) : ltP (q ++ m :: s) (q ++ n :: t) := by
 rw [ltP_pre]
 unfold ltP ltS at *
 show (if Lib.compareBytes m n ≠ 0 then Lib.compareBytes m n else _) < 0
 rw [if_pos (by omega)]; exact h
/-- .. in order. -/
theorem dfs_sorted (hT : TI E) : ∀ {fuel : Nat} {q : NP}, 8 < fuel + q.length → (dfs E fuel q).Pairwise (fun x y => ltP x.p y.p)
 | 0, _, _ => List.Pairwise.nil
 | fuel + 1, q, hf => by
  rw [dfs_succ]
  have key : ∀ n, ∀ e ∈ gone E fuel q n, ∃ t, e.p = q ++ n :: t := fun n e he => by
   unfold gone at he
   cases hk : ent E (q ++ [n]) with
   | none => rw [hk] at he; cases he
   | some k =>
    rw [hk] at he
    rcases List.mem_cons.1 he with rfl | he
    ·exact ⟨[], (ent_mem hk).2⟩
    ·obtain ⟨t, _, ht⟩ := (mem_dfs hT (by simp; omega)).1 he
     exact ⟨t, by rw [(ent_mem ht).2]; simp⟩
  have h1 := ksE_strict (q := q) hT
  generalize ksE E q = l at h1
  induction l with
  | nil => exact List.Pairwise.nil
  | cons n l ih =>
   rw [List.flatMap_cons, List.pairwise_append]
   rw [List.pairwise_cons] at h1
   refine ⟨?_, ih h1.2, fun x hx y hy => ?_⟩
   ·unfold gone
    cases hk : ent E (q ++ [n]) with
    | none => exact List.Pairwise.nil
    | some k =>
     refine List.pairwise_cons.2 ⟨fun y hy => ?_, dfs_sorted hT (by simp; omega)⟩
     obtain ⟨t, h0, ht⟩ := (mem_dfs hT (by simp; omega)).1 hy
     rw [(ent_mem hk).2, (ent_mem ht).2]
     exact ltP_snoc _ h0
   ·obtain ⟨s, hs⟩ := key n x hx
    obtain ⟨m, hm, hy⟩ := List.mem_flatMap.1 hy
    obtain ⟨t, ht⟩ := key m y hy
    rw [hs, ht]
    exact ltP_head q (h1.1 m hm) s t
theorem dfs_len (hT : TI E) : (dfs E 9 []).length ≤ E.length := by
 refine nodup_le ?_ fun e he => ?_
 ·exact (dfs_sorted hT (by simp)).imp fun h e => by subst e; exact ltP_irr _ h
 ·obtain ⟨t, _, h⟩ := (mem_dfs hT (by simp)).1 he
  exact (ent_mem h).1
theorem joinS_splitN {p : List UInt8} (h : splitE p = 0) : joinS (splitN p) = p := by
 rcases splitN_facts h with ⟨h1, h2⟩ | ⟨h1, h2, _⟩
 ·rw [h2, h1]; rfl
 ·rw [h2, joinS_splitS]
theorem POK_iff {l : NP} (h : allOK l) : splitE (joinS l) = 0 ↔ POK l := by
 constructor
 ·intro h1
  have h2 := POK_split h1
  have : splitN (joinS l) = l := by
   rw [← namesP_splitN h1, namesP_join h]
  rwa [this] at h2
 ·rintro ⟨h1, h2, h3⟩; exact (splitN_join h1 h2 h3).1
end
end Go.Proofs.YtigfbpbnohkokaaGreat

namespace Go.Proofs.YtigfbpbnohkokaaGreat
open Go Go.Fw Go.RowKit
set_option linter.unusedVariables false
set_option linter.unusedSimpArgs false

/-- What stood at a stands at b. -/
def moveG (g : Gf) (a b : NP) : Gf := fun r => if b.isPrefixOf r then g (a ++ r.drop b.length) else if a.isPrefixOf r then none else g r
def fitsG (g : Gf) (a b : NP) : Prop := ∀ r, g (a ++ r) ≠ none → POK (b ++ r)
open Classical in
noncomputable def renameG (g : Gf) (x y : List UInt8) : Int × Gf :=
 if findG g x = 0 then (if x = [] then (18, g) else if homeG g y 10 = 0 then (if x = y then (0, g) else if underP y x = true then (18, g) else if (g (splitN y)).isSome = true then (10, g) else if ¬ fitsG g (splitN x) (splitN y) then (8, g) else (0, moveG g (splitN x) (splitN y))) else (homeG g y 10, g)) else (findG g x, g)
def mv (a b : NP) (e : Ent) : Ent := if a.isPrefixOf e.p then { e with p := b ++ e.p.drop a.length } else e
theorem ipf {a b : NP} : a.isPrefixOf b = true ↔ ∃ t, b = a ++ t := by
 rw [List.isPrefixOf_iff_prefix]
 exact ⟨fun ⟨t, h⟩ => ⟨t, h.symm⟩, fun ⟨t, h⟩ => ⟨t, h.symm⟩⟩
theorem ipf_app (a t : NP) : a.isPrefixOf (a ++ t) = true := ipf.2 ⟨t, rfl⟩

section
variable {E : List Ent} {qa qb : NP} {na nb : List UInt8} {oa ob : Obj} {ea da db : Ent} {g1 : List UInt8 → Option Value}
/-- The files, with what is moved there. -/
def ren (E : List Ent) (qa qb : NP) (na nb : List UInt8) (oa ob : Obj) : List Ent := (setO (setO E qa oa) qb ob).map (mv (qa ++ [na]) (qb ++ [nb]))
/-- What Find tells. -/
def findV (g : Gf) (p : List UInt8) : List UInt8 × Bool × List UInt8 := if findG g p = 0 then (p, (g (splitN p)).getD (false, [])) else ([], false, [])
def listG (g : Gf) (p : List UInt8) : Int := if findG g p = 0 then (if ((g (splitN p)).getD (false, [])).1 = true then 0 else 17) else findG g p
theorem mv_hd (a b : NP) (e : Ent) : (mv a b e).blks = e.blks := by unfold mv; split <;> rfl
theorem blks_mv (a b : NP) : ∀ E : List Ent, blks (E.map (mv a b)) = blks E
 | [] => rfl
 | e :: E => by
  have := blks_mv a b E
  unfold blks at this ⊢
  rw [List.map_cons, List.flatMap_cons, List.flatMap_cons, this, mv_hd]
theorem snoc_cases (s a : NP) (n k : List UInt8) (t : NP) (h : s ++ [n] = (a ++ [k]) ++ t) : (t = [] ∧ s = a ∧ n = k) ∨ ∃ t', s = (a ++ [k]) ++ t' ∧ t = t' ++ [n] := by
 by_cases h0 : t = []
 ·subst h0
  obtain ⟨h1, h2⟩ := snoc_inj (by simpa using h)
  exact .inl ⟨rfl, h1, h2⟩
 ·obtain ⟨t', m, rfl⟩ : ∃ t' m, t = t' ++ [m] := ⟨_, _, (List.dropLast_concat_getLast h0).symm⟩
  rw [← List.append_assoc] at h
  obtain ⟨h1, h2⟩ := snoc_inj h
  exact .inr ⟨t', h1, by rw [h2]⟩

theorem TI.ren (hT : TI E) (ha : ent E (qa ++ [na]) = some ea) (hda : ent E qa = some da) (hdb : ent E qb = some db) (hdd : db.dir = true) (hbn : ent E (qb ++ [nb]) = none) (hnu : ¬ (qa ++ [na]).isPrefixOf (qb ++ [nb]) = true)
  (hfit : fitsG (absE E) (qa ++ [na]) (qb ++ [nb])) (hoa : MapF strV oa (setF (kids E qa) na none)) (hob : MapF strV ob (setF (if qb = qa then setF (kids E qa) na none else kids E qb) nb (some (ptr ea.b)))) :
  TI (Go.Proofs.YtigfbpbnohkokaaGreat.ren E qa qb na nb oa ob) ∧ absE (Go.Proofs.YtigfbpbnohkokaaGreat.ren E qa qb na nb oa ob) = moveG (absE E) (qa ++ [na]) (qb ++ [nb]) ∧ (Go.Proofs.YtigfbpbnohkokaaGreat.ren E qa qb na nb oa ob).length = E.length ∧ ndP (Go.Proofs.YtigfbpbnohkokaaGreat.ren E qa qb na nb oa ob) [] = ndP E [] := by
 have hpa : ∀ t, qb ++ [nb] ≠ (qa ++ [na]) ++ t := fun t h => hnu (ipf.2 ⟨t, h⟩)
 -- nothing stands under b
 have hb0 : ∀ t, ent E ((qb ++ [nb]) ++ t) = none := fun t => by
  cases h : ent E ((qb ++ [nb]) ++ t) with
  | none => rfl
  | some e => obtain ⟨d, h1, _⟩ := hT.pre h; rw [hbn] at h1; cases h1
 have hqb_a : ∀ t, qb ≠ (qa ++ [na]) ++ t := fun t h => hpa (t ++ [nb]) (by rw [h]; simp)
 have hqa_a : ∀ t, qa ≠ (qa ++ [na]) ++ t := fun t h => by have := congrArg List.length h; simp only [List.length_append, List.length_cons, List.length_nil] at this; omega
 have hqb_b : ∀ t, qb ≠ (qb ++ [nb]) ++ t := fun t h => by have := congrArg List.length h; simp only [List.length_append, List.length_cons, List.length_nil] at this; omega
 have hqa_b : ∀ t, qa ≠ (qb ++ [nb]) ++ t := fun t h => by have := hb0 t; rw [← h, hda] at this; cases this
 -- where each comes from
 have key : ∀ e' ∈ Go.Proofs.YtigfbpbnohkokaaGreat.ren E qa qb na nb oa ob, (∃ t e, ent E ((qa ++ [na]) ++ t) = some e ∧ e' = { e with p := (qb ++ [nb]) ++ t }) ∨
   ∃ e, ent E e.p = some e ∧ (∀ t, e.p ≠ (qa ++ [na]) ++ t) ∧ (∀ t, e.p ≠ (qb ++ [nb]) ++ t) ∧ e' = if e.p = qb then { e with o := ob } else if e.p = qa then { e with o := oa } else e := fun e' he => by
  obtain ⟨e2, h2, rfl⟩ := List.mem_map.1 he
  obtain ⟨e1, h1, rfl⟩ := List.mem_map.1 h2
  obtain ⟨e, h0, rfl⟩ := List.mem_map.1 h1
  have hent := hT.of h0
  have hp : ∀ (x : Ent), (if x.p = qa then { x with o := oa } else x).p = x.p := fun x => by split <;> rfl
  have hp2 : ∀ (x : Ent), (if x.p = qb then { x with o := ob } else x).p = x.p := fun x => by split <;> rfl
  simp only [hp]
  by_cases ht : ∃ t, e.p = (qa ++ [na]) ++ t
  ·obtain ⟨t, ht⟩ := ht
   left
   have n1 : e.p ≠ qa := fun h => hqa_a t (h.symm.trans ht)
   have n2 : e.p ≠ qb := fun h => hqb_a t (h.symm.trans ht)
   rw [if_neg n1, if_neg n2]
   refine ⟨t, e, ht ▸ hent, ?_⟩
   unfold mv
   rw [ht, if_pos (ipf_app _ _), List.drop_left]
  ·right
   have hna : ∀ t, e.p ≠ (qa ++ [na]) ++ t := fun t h => ht ⟨t, h⟩
   refine ⟨e, hent, hna, fun t h => ?_, ?_⟩
   ·have := hb0 t; rw [← h, hent] at this; cases this
   ·unfold mv
    rw [if_neg]
    ·by_cases n2 : e.p = qb
     ·rw [if_pos n2, if_pos n2]
      split <;> rfl
     ·rw [if_neg n2, if_neg n2]
    ·rw [ipf]
     rintro ⟨t, h⟩
     refine hna t ?_
     rw [← h]
     split
     ·split <;> rfl
     ·split <;> rfl
 have hnd : ((Go.Proofs.YtigfbpbnohkokaaGreat.ren E qa qb na nb oa ob).map (·.p)).Nodup := by
  unfold Go.Proofs.YtigfbpbnohkokaaGreat.ren
  rw [List.map_map]
  have e0 : (setO (setO E qa oa) qb ob).map (·.p) = E.map (·.p) := by rw [setO_p, setO_p]
  have hmem : ∀ p ∈ (setO (setO E qa oa) qb ob).map (·.p), ∀ t, p ≠ (qb ++ [nb]) ++ t := fun p hp t h => by
   rw [e0] at hp
   obtain ⟨e, he, rfl⟩ := List.mem_map.1 hp
   have := hb0 t; rw [← h, hT.of he] at this; cases this
  have e1 : (setO (setO E qa oa) qb ob).map ((·.p) ∘ mv (qa ++ [na]) (qb ++ [nb])) = ((setO (setO E qa oa) qb ob).map (·.p)).map (fun p => if (qa ++ [na]).isPrefixOf p then (qb ++ [nb]) ++ p.drop (qa ++ [na]).length else p) := by
   rw [List.map_map]
   exact List.map_congr_left fun e _ => by simp only [Function.comp_apply, mv]; split <;> rfl
  rw [e1]
  rw [e0] at hmem ⊢
  refine List.pairwise_map.2 ((List.Pairwise.and_mem.1 hT.nd).imp fun {p p'} ⟨hp, hp', hne⟩ => ?_)
  by_cases c1 : (qa ++ [na]).isPrefixOf p = true
  ·obtain ⟨t, rfl⟩ := ipf.1 c1
   rw [if_pos c1, List.drop_left]
   by_cases c2 : (qa ++ [na]).isPrefixOf p' = true
   ·obtain ⟨t', rfl⟩ := ipf.1 c2
    rw [if_pos c2, List.drop_left]
    intro h
    exact hne (by rw [List.append_cancel_left h])
   ·rw [if_neg c2]; exact fun h => hmem p' hp' t h.symm
  ·rw [if_neg c1]
   by_cases c2 : (qa ++ [na]).isPrefixOf p' = true
   ·obtain ⟨t', rfl⟩ := ipf.1 c2
    rw [if_pos c2, List.drop_left]
    exact fun h => hmem p hp t' h
   ·rw [if_neg c2]; exact hne
 have hmemr : ∀ e0 ∈ E, mv (qa ++ [na]) (qb ++ [nb]) (if e0.p = qb then { e0 with o := ob } else if e0.p = qa then { e0 with o := oa } else e0) ∈ Go.Proofs.YtigfbpbnohkokaaGreat.ren E qa qb na nb oa ob := fun e0 he => by
  refine List.mem_map.2 ⟨_, ?_, rfl⟩
  refine List.mem_map.2 ⟨if e0.p = qa then { e0 with o := oa } else e0, List.mem_map.2 ⟨e0, he, rfl⟩, ?_⟩
  by_cases c1 : e0.p = qa
  ·rw [if_pos c1]
  ·rw [if_neg c1]
 -- what stands where
 have E1 : ∀ r, ent (Go.Proofs.YtigfbpbnohkokaaGreat.ren E qa qb na nb oa ob) r = if (qb ++ [nb]).isPrefixOf r then (ent E ((qa ++ [na]) ++ r.drop (qb ++ [nb]).length)).map (fun e => { e with p := r }) else if (qa ++ [na]).isPrefixOf r then none else (ent E r).map (fun e => if e.p = qb then { e with o := ob } else if e.p = qa then { e with o := oa } else e) := fun r => by
  cases hr : ent (Go.Proofs.YtigfbpbnohkokaaGreat.ren E qa qb na nb oa ob) r with
  | some e' =>
   obtain ⟨h1, h2⟩ := ent_mem hr
   rcases key e' h1 with ⟨t, e, h3, rfl⟩ | ⟨e, h3, h4, h5, rfl⟩
   ·have h2' : (qb ++ [nb]) ++ t = r := h2
    subst h2'
    rw [if_pos (ipf_app _ _), List.drop_left, h3]; rfl
   ·have hep : (if e.p = qb then { e with o := ob } else if e.p = qa then { e with o := oa } else e).p = e.p := by split; rfl; split <;> rfl
    have h2' : e.p = r := hep.symm.trans h2
    have c1 : ¬ (qb ++ [nb]).isPrefixOf r = true := fun h => by obtain ⟨t, ht⟩ := ipf.1 h; exact h5 t (h2'.trans ht)
    have c2 : ¬ (qa ++ [na]).isPrefixOf r = true := fun h => by obtain ⟨t, ht⟩ := ipf.1 h; exact h4 t (h2'.trans ht)
    rw [if_neg c1, if_neg c2, ← h2', h3]
    rfl
  | none =>
   have hno := ent_none hr
   split
   ·rename_i c1
    obtain ⟨t, rfl⟩ := ipf.1 c1
    rw [List.drop_left]
    cases he : ent E ((qa ++ [na]) ++ t) with
    | none => rfl
    | some e =>
     exfalso
     obtain ⟨h1, h2⟩ := ent_mem he
     have := hmemr e h1
     rw [if_neg (fun h => hqb_a t (h.symm.trans h2)), if_neg (fun h => hqa_a t (h.symm.trans h2))] at this
     refine hno _ this ?_
     unfold mv
     rw [h2, if_pos (ipf_app _ _), List.drop_left]
   ·rename_i c1
    split
    ·rfl
    ·rename_i c2
     cases he : ent E r with
     | none => rfl
     | some e =>
      exfalso
      obtain ⟨h1, rfl⟩ := ent_mem he
      refine hno _ (hmemr e h1) ?_
      unfold mv
      have hep : (if e.p = qb then { e with o := ob } else if e.p = qa then { e with o := oa } else e).p = e.p := by split; rfl; split <;> rfl
      rw [hep, if_neg c2, hep]
 have hno_a : ∀ s : NP, ¬ (qa ++ [na]).isPrefixOf s = true → ∀ n, (qa ++ [na]).isPrefixOf (s ++ [n]) = true → s = qa ∧ n = na := fun s h n h2 => by
  obtain ⟨t, ht⟩ := ipf.1 h2
  rcases snoc_cases _ _ _ _ _ ht with ⟨_, h3, h4⟩ | ⟨t', h3, _⟩
  ·exact ⟨h3, h4⟩
  ·exact absurd (ipf.2 ⟨t', h3⟩) h
 have hno_b : ∀ s : NP, ¬ (qb ++ [nb]).isPrefixOf s = true → ∀ n, (qb ++ [nb]).isPrefixOf (s ++ [n]) = true → s = qb ∧ n = nb := fun s h n h2 => by
  obtain ⟨t, ht⟩ := ipf.1 h2
  rcases snoc_cases _ _ _ _ _ ht with ⟨_, h3, h4⟩ | ⟨t', h3, _⟩
  ·exact ⟨h3, h4⟩
  ·exact absurd (ipf.2 ⟨t', h3⟩) h
 have hkb : ∀ t n, kids (Go.Proofs.YtigfbpbnohkokaaGreat.ren E qa qb na nb oa ob) ((qb ++ [nb]) ++ t) n = kids E ((qa ++ [na]) ++ t) n := fun t n => by
  unfold kids
  rw [List.append_assoc (qb ++ [nb]), E1, if_pos (ipf_app _ _), List.drop_left, List.append_assoc (qa ++ [na])]
  cases ent E ((qa ++ [na]) ++ (t ++ [n])) <;> rfl
 have hko : ∀ s, (∀ t, s ≠ (qa ++ [na]) ++ t) → (∀ t, s ≠ (qb ++ [nb]) ++ t) → ∀ n, kids (Go.Proofs.YtigfbpbnohkokaaGreat.ren E qa qb na nb oa ob) s n = if s = qb ∧ n = nb then some (ptr ea.b) else if s = qa ∧ n = na then none else kids E s n := fun s h1 h2 n => by
  unfold kids
  rw [E1]
  have c1 : ¬ (qa ++ [na]).isPrefixOf s = true := fun h => by obtain ⟨t, ht⟩ := ipf.1 h; exact h1 t ht
  have c2 : ¬ (qb ++ [nb]).isPrefixOf s = true := fun h => by obtain ⟨t, ht⟩ := ipf.1 h; exact h2 t ht
  by_cases c3 : s = qb ∧ n = nb
  ·obtain ⟨rfl, rfl⟩ := c3
   rw [if_pos (show s = s ∧ n = n from ⟨rfl, rfl⟩), if_pos (by simp)]
   have : (s ++ [n]).drop (s ++ [n]).length = [] := List.drop_length
   rw [this, List.append_nil, ha]; rfl
  ·rw [if_neg c3, if_neg (fun h => c3 (hno_b s c2 n h))]
   by_cases c4 : s = qa ∧ n = na
   ·obtain ⟨rfl, rfl⟩ := c4
    rw [if_pos (show s = s ∧ n = n from ⟨rfl, rfl⟩), if_pos (show (s ++ [n]).isPrefixOf (s ++ [n]) = true by simp)]; rfl
   ·rw [if_neg c4, if_neg (fun h => c4 (hno_a s c1 n h))]
    cases ent E (s ++ [n]) with
    | none => rfl
    | some e => simp only [Option.map_some]; split; rfl; split <;> rfl
 refine ⟨⟨hnd, ?_, ?_, ?_, ?_, ?_, ?_⟩, ?_, ?_, ?_⟩
 ·obtain ⟨rt, h1, h2⟩ := hT.root
  rw [E1, if_neg (by rw [ipf]; rintro ⟨t, ht⟩; simp at ht), if_neg (by rw [ipf]; rintro ⟨t, ht⟩; simp at ht), h1]
  refine ⟨_, rfl, ?_⟩
  dsimp only
  split; exact h2; split <;> exact h2
 ·intro s n e he
  rw [E1] at he
  split at he
  ·rename_i c1
   obtain ⟨t, ht⟩ := ipf.1 c1
   rcases snoc_cases _ _ _ _ _ ht with ⟨h3, h4, h5⟩ | ⟨t', h3, h4⟩
   ·subst h4
    rw [E1, if_neg (fun h => by obtain ⟨t, ht⟩ := ipf.1 h; exact hqb_b t ht), if_neg (fun h => by obtain ⟨t, ht⟩ := ipf.1 h; exact hqb_a t ht), hdb]
    refine ⟨_, rfl, ?_⟩
    dsimp only
    split; exact hdd; split <;> exact hdd
   ·have hd0 : (s ++ [n]).drop (qb ++ [nb]).length = t' ++ [n] := by rw [h3, List.append_assoc, List.drop_left]
    rw [hd0] at he
    cases h5 : ent E ((qa ++ [na]) ++ (t' ++ [n])) with
    | none => rw [h5] at he; cases he
    | some e0 =>
     obtain ⟨d, h6, h7⟩ := hT.par ((qa ++ [na]) ++ t') n e0 (by simpa using h5)
     rw [E1, h3, if_pos (ipf_app _ _), List.drop_left, h6]
     exact ⟨_, rfl, h7⟩
  ·rename_i c1
   split at he
   ·cases he
   ·rename_i c2
    cases h5 : ent E (s ++ [n]) with
    | none => rw [h5] at he; cases he
    | some e0 =>
     obtain ⟨d, h6, h7⟩ := hT.par s n e0 h5
     rw [E1, if_neg, if_neg, h6]
     ·refine ⟨_, rfl, ?_⟩
      dsimp only
      split; exact h7; split <;> exact h7
     ·intro h; obtain ⟨t, rfl⟩ := ipf.1 h
      exact c2 (by rw [List.append_assoc]; exact ipf_app _ _)
     ·intro h; obtain ⟨t, rfl⟩ := ipf.1 h
      exact c1 (by rw [List.append_assoc]; exact ipf_app _ _)
 ·intro e' he
  rcases key e' he with ⟨t, e, h3, rfl⟩ | ⟨e, h3, _, _, rfl⟩
  ·exact hfit t (by rw [absE_at h3]; simp)
  ·have := hT.ok e (ent_mem h3).1
   split; exact this; split <;> exact this
 ·intro e' he hd'
  rcases key e' he with ⟨t, e, h3, rfl⟩ | ⟨e, h3, h4, h5, rfl⟩
  ·have : kids (Go.Proofs.YtigfbpbnohkokaaGreat.ren E qa qb na nb oa ob) ((qb ++ [nb]) ++ t) = kids E e.p := by
    funext n; rw [hkb, (ent_mem h3).2]
   show MapF strV e.o (kids _ ((qb ++ [nb]) ++ t))
   rw [this]
   exact hT.map e (ent_mem h3).1 hd'
  ·by_cases c1 : e.p = qb
   ·rw [if_pos c1] at hd' ⊢
    show MapF strV ob (kids _ e.p)
    have : kids (Go.Proofs.YtigfbpbnohkokaaGreat.ren E qa qb na nb oa ob) e.p = setF (if qb = qa then setF (kids E qa) na none else kids E qb) nb (some (ptr ea.b)) := by
     funext n
     rw [hko _ h4 h5, c1]
     unfold setF
     by_cases c2 : n = nb
     ·rw [if_pos ⟨rfl, c2⟩, if_pos c2]
     ·rw [if_neg (fun h => c2 h.2), if_neg c2]
      by_cases c3 : qb = qa
      ·rw [if_pos c3]
       by_cases c4 : n = na
       ·rw [if_pos ⟨c3, c4⟩, if_pos c4]
       ·rw [if_neg (fun h => c4 h.2), if_neg c4, c3]
      ·rw [if_neg (fun h => c3 h.1), if_neg c3]
    rw [this]; exact hob
   ·rw [if_neg c1] at hd' ⊢
    by_cases c2 : e.p = qa
    ·rw [if_pos c2] at hd' ⊢
     show MapF strV oa (kids _ e.p)
     have : kids (Go.Proofs.YtigfbpbnohkokaaGreat.ren E qa qb na nb oa ob) e.p = setF (kids E qa) na none := by
      funext n
      rw [hko _ h4 h5, if_neg (fun h => c1 h.1), c2]
      unfold setF
      by_cases c4 : n = na
      ·rw [if_pos ⟨rfl, c4⟩, if_pos c4]
      ·rw [if_neg (fun h => c4 h.2), if_neg c4]
     rw [this]; exact hoa
    ·rw [if_neg c2] at hd' ⊢
     have : kids (Go.Proofs.YtigfbpbnohkokaaGreat.ren E qa qb na nb oa ob) e.p = kids E e.p := by
      funext n
      rw [hko _ h4 h5, if_neg (fun h => c1 h.1), if_neg (fun h => c2 h.1)]
     rw [this]; exact hT.map e (ent_mem h3).1 hd'
 ·intro e' he
  rcases key e' he with ⟨t, e, h3, rfl⟩ | ⟨e, h3, _, _, rfl⟩
  ·exact hT.dat e (ent_mem h3).1
  ·have := hT.dat e (ent_mem h3).1
   split; exact this; split <;> exact this
 ·intro e' he
  rcases key e' he with ⟨t, e, h3, rfl⟩ | ⟨e, h3, _, _, rfl⟩
  ·exact hT.dd e (ent_mem h3).1
  ·have := hT.dd e (ent_mem h3).1
   split; exact this; split <;> exact this
 ·funext r
  unfold moveG
  show Option.map _ (ent _ r) = _
  rw [E1]
  split
  ·unfold absE; cases ent E ((qa ++ [na]) ++ r.drop (qb ++ [nb]).length) <;> rfl
  ·split
   ·rfl
   ·unfold absE
    cases ent E r with
    | none => rfl
    | some e => simp only [Option.map_some]; split; rfl; split <;> rfl
 ·unfold Go.Proofs.YtigfbpbnohkokaaGreat.ren setO; simp
 ·unfold ndP
  rw [E1, if_neg (by rw [ipf]; rintro ⟨t, ht⟩; simp at ht), if_neg (by rw [ipf]; rintro ⟨t, ht⟩; simp at ht)]
  cases ent E [] with
  | none => rfl
  | some e => simp only [Option.map_some]; split; rfl; split <;> rfl
theorem ent_two (hT : TI E) (hdb : ent E qb = some db) (hdd : db.dir = true) (hoa : MapF strV oa (setF (kids E qa) na none)) :
  ∃ d, ent (setO E qa oa) qb = some d ∧ d.b = db.b ∧ d.m = db.m ∧ d.dir = true ∧ MapF strV d.o (if qb = qa then setF (kids E qa) na none else kids E qb) := by
 rw [ent_setO, hdb]
 have hp := (ent_mem hdb).2
 by_cases h : qb = qa
 ·refine ⟨_, rfl, ?_⟩
  simp only [hp, if_pos h]
  exact ⟨trivial, trivial, hdd, hoa⟩
 ·refine ⟨_, rfl, ?_⟩
  simp only [hp, if_neg h]
  have := hT.map db (ent_mem hdb).1 hdd
  rw [hp] at this
  exact ⟨trivial, trivial, hdd, this⟩
theorem not_under {x y : List UInt8} (hx : splitE x = 0) (hy : splitE y = 0) (h : underP y x = false) : ¬ (splitN x).isPrefixOf (splitN y) = true := fun hp => by
 obtain ⟨t, ht⟩ := ipf.1 hp
 have := under_of hy hx ⟨t, by rw [namesP_splitN hx, namesP_splitN hy]; exact ht⟩
 rw [this] at h; cases h
end
end Go.Proofs.YtigfbpbnohkokaaGreat

namespace Go.Proofs.YtigfbpbnohkokaaGreat
open Go Go.Fw Go.RowKit Go.Proofs
set_option linter.unusedVariables false
set_option linter.unusedSimpArgs false
set_option maxRecDepth 100000
set_option maxHeartbeats 4000000

-- valise/tree.fits$1
theorem visitO_c {w00 w0 : World} {s : List UInt8} {u : Value} {bo : Nat} {ok : Bool} {Lx : List (Nat × Obj)} (M : Sep w00 ((bo, .cells [.bool ok].toArray 4 (0, 0)) :: Lx) w0) : Ret Tryz.prog 138 #[strV s, u, ptr bo] w0 fun v w' => Sep w00 ((bo, .cells [.bool (ok && decide (splitE s = 0))].toArray 4 (0, 0)) :: Lx) w' := by
 refine Ret.of_W Tryz.func138 rfl Tryz.ntmps138 rfl ?_
 refine go 0 ?_
 refine x_call rfl rfl rfl rfl rfl en96 (split_c) ?_
 rintro r_ w1 ⟨v1, L1, rfl, M1, hs1⟩
 have M := M.grow M1
 have M : Sep w00 ((bo, .cells [.bool ok].toArray 4 (0, 0)) :: (L1 ++ Lx)) w1 := M.perm (perm_c fun p => by simp only [List.countP_append, List.countP_cons, List.countP_nil]; omega)
 refine ⟨trivial, ?_⟩
 refine spl 1 13 ?_ ?_
 ·intro hsp1
  refine go 2 ?_
  intro _ M
  refine go 1 ?_
  rw [hsp1, Bool.true_and]
  exact M.sub (List.Sublist.cons_cons _ (List.sublist_append_right _ _))
 ·intro hsp1
  refine go 1 ?_
  intro _ M
  refine go 1 ?_
  rw [hsp1, Bool.false_and]
  exact M.sub (List.Sublist.cons_cons _ (List.sublist_append_right _ _))

-- valise/tree.fits
theorem fits_c {w0 : World} {E : List Ent} {e : Ent} {q0 B : NP} (hT : TI E) (hl : E.length ≤ 129) (hE : EAt w0 E) (he : ent E q0 = some e) (hB : POK B) : Ret Tryz.prog 128 #[strV (joinS B), ptr e.b] w0 fun r w' => (∃ bb, r = .bool bb ∧ (bb = true ↔ fitsG (absE E) q0 B)) ∧ New w0 w' := by
 have M : Sep w0 [] w0 := St.nil w0
 have hsB : splitE (joinS B) = 0 := (POK_iff hB.2.1).2 hB
 refine Ret.of_W Tryz.func128 rfl Tryz.ntmps128 rfl ?_
 refine go 0 ?_
 refine x_call rfl rfl rfl rfl rfl en96 (split_c) ?_
 rintro r_ w1 ⟨v1, L1, rfl, M1, hs1⟩
 have M := (M.grow M1).frm
 refine ⟨trivial, ?_⟩
 refine go 0 ?_
 refine x_eqi true rfl rfl rfl rfl rfl (by rw [hsB]; rfl) ?_
 refine go 1 ?_
 intro bal1 _ M
 refine x_st [_] _ rfl rfl rfl sz4 rfl rfl rfl rfl (by first | exact M.at_ 0 rfl | exact M.at_ 1 rfl | exact M.at_ 2 rfl | exact M.at_ 3 rfl | exact M.at_ 4 rfl | exact M.at_ 5 rfl | exact M.at_ 6 rfl | exact M.at_ 7 rfl) rfl rfl rfl ?_
 intro wst1 hwst1
 have M := M.put 0 rfl hwst1
 have hwalk := walk_c (w00 := w0) (q0 := q0) (B := B) (lb := #[ptr bal1]) (g := 138) (TOT := dfs E 9 q0) (V := fun done Lv => Lv = [(bal1, .cells [.bool (done.all fun k => decide (splitE (joinS (B ++ k.p.drop q0.length)) = 0))].toArray 4 (0, 0))]) hT hl en138 ⟨hB.1, hB.2.1⟩ hE
  (fun {w} done r k Lv Lx hV hr hk ht M => by
   subst hV
   refine (visitO_c M).mono ?_
   rintro v w' M
   refine ⟨_, rfl, ?_⟩
   rw [List.all_append]
   have : k.p.drop q0.length = r := by rw [(ent_mem hk).2]; simp
   simp only [List.all_cons, List.all_nil, Bool.and_true, this]
   exact M)
  9 [] [] e [(bal1, _)] [] rfl (by simpa using he) (by omega) ⟨[], by simp⟩ (by simpa using M)
 simp only [List.append_nil, List.nil_append] at hwalk
 refine ⟨trivial, ?_⟩
 refine go 1 ?_
 refine x_call rfl rfl rfl rfl rfl en79 hwalk ?_
 rintro v w2 ⟨rfl, Lv, rfl, M⟩
 refine ⟨trivial, ?_⟩
 refine go 0 ?_
 refine x_ld rfl rfl rfl Tryz.underlying4 rfl rfl (cell_of (M.at_ 0 rfl) rfl) ?_
 refine go 1 ?_
 refine ⟨⟨_, rfl, ?_⟩, M.frm⟩
 simp only [List.nil_append, List.append_nil, List.all_eq_true, decide_eq_true_eq]
 constructor
 ·intro h r hr
  by_cases h0 : r = []
  ·subst h0; simpa using hB
  ·obtain ⟨k, hk⟩ : ∃ k, ent E (q0 ++ r) = some k := by
    cases hk : ent E (q0 ++ r) with
    | none => exact absurd (absE_none.2 hk) hr
    | some k => exact ⟨k, rfl⟩
   have h1 := h k ((mem_dfs hT (by omega)).2 ⟨r, h0, hk⟩)
   have h2 : k.p.drop q0.length = r := by rw [(ent_mem hk).2]; simp
   rw [h2] at h1
   have hkok := (hT.ok k (ent_mem hk).1).2.1
   rw [(ent_mem hk).2] at hkok
   exact (POK_iff (fun x hx => (List.mem_append.1 hx).elim (hB.2.1 x) (fun h => hkok x (List.mem_append_right _ h)))).1 h1
 ·intro h k hk
  obtain ⟨r, h0, hr⟩ := (mem_dfs hT (by omega)).1 hk
  have h2 : k.p.drop q0.length = r := by rw [(ent_mem hr).2]; simp
  rw [h2]
  have h3 := h r (by rw [absE_at hr]; simp)
  exact (POK_iff h3.2.1).2 h3

end Go.Proofs.YtigfbpbnohkokaaGreat

namespace Go.Proofs.YtigfbpbnohkokaaGreat
open Go Go.Fw Go.RowKit Go.Proofs
set_option linter.unusedVariables false
set_option linter.unusedSimpArgs false
set_option maxRecDepth 100000
set_option maxHeartbeats 4000000

-- (*valise/tree.Tree).Rename
theorem rename_c {w0 : World} {w00 : World} {bt : Nat} {E : List Ent} {L : List (Nat × Obj)} {x y : List UInt8} (M : Sep w00 (tb bt E ++ L) w0) (hT : TI E) (hl : E.length ≤ 129)  : Ret Tryz.prog 105 #[ptr bt, strV x, strV y] w0 fun r w' => ∃ E', r = .int .i64 (renameG (absE E) x y).1 ∧ absE E' = (renameG (absE E) x y).2 ∧ TI E' ∧ E'.length ≤ 129 ∧ Sep w00 (tb bt E' ++ L) w' := by
 have hA := TrA.of hT M
 obtain ⟨rt, hrt, _⟩ := hT.root
 refine Ret.of_W Tryz.func105 rfl Tryz.ntmps105 rfl ?_
 refine go 0 ?_
 refine x_call rfl rfl rfl rfl rfl en99 (find_c hA) ?_
 rintro r_ w1 ⟨⟨nd, rfl, hh⟩, hn1⟩
 have M := M.new hn1
 refine ⟨trivial, ?_⟩
 refine cnd 1 ?_ ?_
 ·intro hco1
  refine go 1 ?_
  unfold renameG; rw [if_neg hco1]; exact ⟨E, rfl, rfl, hT, hl, M⟩
 ·intro hco1
  unfold renameG
  rw [if_pos hco1]
  obtain rfl := hh hco1
  obtain ⟨hsx, ea, hea⟩ := findG_ent hT hrt hco1
  have hnd : ndP E (splitN x) = ptr ea.b := by unfold ndP; rw [hea]; rfl
  rw [hnd]
  refine cnd 1 ?_ ?_
  ·intro hco2
   refine go 1 ?_
   rw [if_pos hco2]; exact ⟨E, rfl, rfl, hT, hl, M⟩
  ·intro hco2
   rw [if_neg hco2]
   have hA := TrA.of hT M
   have hx0 : splitN x ≠ [] := fun h => hco2 (by rcases splitN_facts hsx with ⟨h1, _⟩ | ⟨_, h2, _⟩; exact h1; rw [h2] at h; exact absurd h (splitS_ne x))
   refine go 0 ?_
   refine x_call rfl rfl rfl rfl rfl en100 (home_c hA (by decide)) ?_
   rintro r_ w2 ⟨⟨nd2, nm2, rfl, hh2⟩, hn2⟩
   have M := M.new hn2
   refine ⟨trivial, ?_⟩
   refine cnd 1 ?_ ?_
   ·intro hco3
    refine go 1 ?_
    rw [if_neg hco3]; exact ⟨E, rfl, rfl, hT, hl, M⟩
   ·intro hco3
    rw [if_pos hco3]
    obtain ⟨hsy, qb, nb, db, hqb, hdb, hddb, rfl, rfl⟩ := hh2 hco3
    have hPOK := POK_split hsy
    have hmapb := hT.map db (ent_mem hdb).1 hddb
    rw [(ent_mem hdb).2] at hmapb
    have hlk : ∀ {w : World}, EAt w E → LkAt strV w db.m nb (kids E qb nb) := fun h => by have := h.lk hT (ent_mem hdb).1 hddb nb; rwa [(ent_mem hdb).2] at this
    refine cnd 1 ?_ ?_
    ·intro hco4
     refine go 1 ?_
     rw [if_pos hco4]; exact ⟨E, rfl, rfl, hT, hl, M⟩
    ·intro hco4
     rw [if_neg hco4]
     refine go 0 ?_
     refine x_call rfl rfl rfl rfl rfl en106 (under_c) ?_
     rintro r wcall3 ⟨rfl, hncall3⟩
     have M := M.new hncall3
     refine ⟨trivial, ?_⟩
     refine cnd 0 ?_ ?_
     ·intro hco5
      refine go 1 ?_
      rw [if_pos hco5]; exact ⟨E, rfl, rfl, hT, hl, M⟩
     ·intro hco5
      rw [if_neg (by simp [hco5])]
      have hnu := not_under hsx hsy hco5
      refine go 0 ?_
      refine x_ld rfl rfl rfl Tryz.underlying165 rfl rfl ((EAt.of' M (fun x hx => by simp [tb, hx])).map (ent_mem hdb).1 hddb) ?_
      refine go 0 ?_
      refine x_lk1 (enc := strV) nb rfl rfl rfl (strKey Tryz.underlying9) Tryz.underlying165 ze131 rfl rfl (hlk (EAt.of' M (fun x hx => by simp [tb, hx]))) ?_
      rw [kids_getD]
      refine x_nepn (ent E (qb ++ [nb])).isSome rfl rfl rfl Tryz.underlying131 rfl rfl (by cases ent E (qb ++ [nb]) <;> rfl) ?_
      refine cnd 0 ?_ ?_
      ·intro hco6
       refine go 1 ?_
       rw [hqb, absE_some, if_pos hco6]; exact ⟨E, rfl, rfl, hT, hl, M⟩
      ·intro hco6
       rw [hqb, absE_some, if_neg (by simp [hco6])]
       have hnone : ent E (qb ++ [nb]) = none := by cases h : ent E (qb ++ [nb]) with | none => rfl | some e => rw [h] at hco6; cases hco6
       have hfits : ∀ {w : World}, EAt w E → Ret Tryz.prog 128 #[strV y, ptr ea.b] w fun r w' => (∃ bb, r = .bool bb ∧ (bb = true ↔ fitsG (absE E) (splitN x) (splitN y))) ∧ New w w' := fun h => by
        have := fits_c (B := splitN y) hT hl h hea (POK_split hsy)
        rwa [joinS_splitN hsy] at this
       rw [← hqb]
       refine go 0 ?_
       refine x_call rfl rfl rfl rfl rfl en128 (hfits (EAt.of' M (fun x hx => by simp [tb, hx]))) ?_
       rintro r_ w4 ⟨⟨bb, rfl, hbb⟩, hn4⟩
       have M := M.new hn4
       refine ⟨trivial, ?_⟩
       refine cnd 1 ?_ ?_
       ·intro hco7
        refine go 1 ?_
        rw [if_pos (fun h => by have := hbb.2 h; rw [hco7] at this; cases this)]; exact ⟨E, rfl, rfl, hT, hl, M⟩
       ·intro hco7
        have hfit := hbb.1 hco7
        rw [if_neg (fun h => h hfit)]
        have hA := TrA.of hT M
        refine go 0 ?_
        refine x_call rfl rfl rfl rfl rfl en100 (home_c hA (by decide)) ?_
        rintro r_ w5 ⟨⟨nd5, nm5, rfl, hh5⟩, hn5⟩
        have M := M.new hn5
        obtain ⟨_, qa, na, da, hqa, hda, hdda, rfl, rfl⟩ := hh5 (home_found hT hsx hx0 hea)
        have hmapa := hT.map da (ent_mem hda).1 hdda
        rw [(ent_mem hda).2] at hmapa
        refine ⟨trivial, ?_⟩
        refine go 0 ?_
        refine x_ld rfl rfl rfl Tryz.underlying165 rfl rfl ((EAt.of' M (fun x hx => by simp [tb, hx])).map (ent_mem hda).1 hdda) ?_
        refine go 0 ?_
        refine x_del (enc := strV) na rfl rfl rfl (strKey Tryz.underlying9) Tryz.underlying165 rfl rfl rfl ((EAt.of' M (fun x hx => by simp [tb, hx])).mp (ent_mem hda).1 hdda) hmapa ?_
        intro ode1 wde1 hmde1 hwde1
        have M := mapput (P := [_]) (Q := L) (by simpa [tb] using M) hT.nd hda hdda hwde1
        obtain ⟨d', hd', hb', hm', hdir', hmf'⟩ := ent_two (qb := qb) hT hdb hddb hmde1
        rw [← hb']
        refine ⟨trivial, ?_⟩
        refine go 0 ?_
        refine x_ld rfl rfl rfl Tryz.underlying165 rfl rfl ((EAt.of' M (fun x hx => by simp [hx])).map (ent_mem hd').1 hdir') ?_
        refine go 0 ?_
        refine x_mup (enc := strV) nb rfl rfl rfl (strKey Tryz.underlying9) Tryz.underlying165 rfl rfl rfl ((EAt.of' M (fun x hx => by simp [hx])).mp (ent_mem hd').1 hdir') hmf' ?_
        intro omu1 wmu1 hmmu1 hwmu1
        have M := mapput (P := [_]) (Q := L) M (by rw [setO_p]; exact hT.nd) hd' hdir' hwmu1
        refine ⟨trivial, ?_⟩
        refine go 1 ?_
        rw [hqa] at hea hfit hnu ⊢
        rw [hqb] at hfit hnu ⊢
        obtain ⟨h1, h2, h3, h4⟩ := hT.ren hea hda hdb hddb hnone hnu hfit hmde1 hmmu1
        refine ⟨ren E qa qb na nb ode1 omu1, rfl, h2, h1, by omega, ?_⟩
        unfold tb
        rw [h4, h3, ren, blks_mv]
        exact M

end Go.Proofs.YtigfbpbnohkokaaGreat

namespace Go.Proofs.YtigfbpbnohkokaaGreat
open Go Go.Fw Go.RowKit Go.Proofs
set_option linter.unusedVariables false
set_option linter.unusedSimpArgs false
set_option maxRecDepth 100000
set_option maxHeartbeats 4000000

-- (*valise/tree.Tree).Find
theorem findv_c {w0 : World} {bt : Nat} {E : List Ent} {p : List UInt8} (hA : TrA w0 bt E)  : Ret Tryz.prog 66 #[ptr bt, strV p] w0 fun r w' => ∃ dv Lr, r = .tuple #[.agg #[strV (findV (absE E) p).1, .bool (findV (absE E) p).2.1, dv], .int .i64 (findG (absE E) p)] ∧ Sep w0 Lr w' ∧ BytesO Lr dv (findV (absE E) p).2.2 := by
 have M : Sep w0 [] w0 := St.nil w0
 have hA0 := hA
 obtain ⟨rt, hrt, hbt, hE, hT⟩ := hA0
 refine Ret.of_W Tryz.func66 rfl Tryz.ntmps66 rfl ?_
 refine go 1 ?_
 intro _ _ M
 refine go 0 ?_
 refine x_call rfl rfl rfl rfl rfl en99 (find_c (hA.new M.frm)) ?_
 rintro r_ w1 ⟨⟨nd, rfl, hh⟩, hn1⟩
 have M := M.new hn1
 refine ⟨trivial, ?_⟩
 refine cnd 1 ?_ ?_
 ·intro hco1
  refine go 2 ?_
  intro _ M
  refine go 1 ?_
  rw [findV, if_neg hco1]; exact ⟨_, [], rfl, M.frm, OwL.nil⟩
 ·intro hco1
  obtain rfl := hh hco1
  obtain ⟨hse, e, he⟩ := findG_ent hT hrt hco1
  have hnd : ndP E (splitN p) = ptr e.b := by unfold ndP; rw [he]; rfl
  rw [hnd]
  have hfv : findV (absE E) p = (p, e.dir, e.data) := by unfold findV; rw [if_pos hco1, absE_at he]; rfl
  rw [hfv, hco1]
  refine go 0 ?_
  refine x_call rfl rfl rfl rfl rfl en81 (file_c (hE.new M.frm) hT (ent_mem he).1) ?_
  rintro r_ w2 ⟨v2, L2, rfl, M2, hb2⟩
  have M := M.grow M2
  obtain ⟨p2, c2, rfl⟩ := hb2.shape
  refine ⟨trivial, ?_⟩
  refine go 1 ?_
  intro _ M
  refine go 1 ?_
  exact ⟨_, L2, rfl, M.tail, hb2⟩

-- (*valise/tree.Tree).List
theorem list_c {w0 : World} {bt : Nat} {E : List Ent} {p : List UInt8} (hA : TrA w0 bt E) (hl : E.length ≤ 129) : Ret Tryz.prog 107 #[ptr bt, strV p] w0 fun r w' => ∃ v Lr, r = .tuple #[v, .int .i64 (listG (absE E) p)] ∧ Sep w0 Lr w' ∧ StrsO Lr v (if listG (absE E) p = 0 then ksE E (splitN p) else []) := by
 have M : Sep w0 [] w0 := St.nil w0
 have hA0 := hA
 obtain ⟨rt, hrt, hbt, hE, hT⟩ := hA0
 refine Ret.of_W Tryz.func107 rfl Tryz.ntmps107 rfl ?_
 refine go 0 ?_
 refine x_call rfl rfl rfl rfl rfl en99 (find_c (hA.new M.frm)) ?_
 rintro r_ w1 ⟨⟨nd, rfl, hh⟩, hn1⟩
 have M := M.new hn1
 refine ⟨trivial, ?_⟩
 refine cnd 1 ?_ ?_
 ·intro hco1
  refine go 1 ?_
  have h1 : listG (absE E) p = findG (absE E) p := by unfold listG; rw [if_neg hco1]
  rw [h1, if_neg hco1]; exact ⟨_, [], rfl, M.frm, OwL.nil⟩
 ·intro hco1
  obtain rfl := hh hco1
  obtain ⟨hse, e, he⟩ := findG_ent hT hrt hco1
  have hnd : ndP E (splitN p) = ptr e.b := by unfold ndP; rw [he]; rfl
  rw [hnd]
  obtain ⟨mb, len, hkv, _, _⟩ := kvLen hT he
  have hlg : listG (absE E) p = if e.dir = true then 0 else 17 := by unfold listG; rw [if_pos hco1, absE_at he]; rfl
  refine go 0 ?_
  refine x_ld rfl rfl rfl Tryz.underlying4 rfl rfl ((hE.new M.frm).dir (ent_mem he).1) ?_
  refine cnd 1 ?_ ?_
  ·intro hco2
   refine go 1 ?_
   rw [if_neg (by simp [hco2])] at hlg
   rw [hlg]; exact ⟨_, [], rfl, M.frm, OwL.nil⟩
  ·intro hco2
   rw [if_pos hco2] at hlg
   rw [hlg, if_pos rfl]
   refine go 0 ?_
   refine x_ld rfl rfl rfl Tryz.underlying165 rfl rfl (by have := (hE.new M.frm).kv (ent_mem he).1; rw [hkv] at this; exact this) ?_
   refine x_call rfl rfl rfl rfl rfl en131 (keys_c) ?_
   rintro r_ w2 ⟨bk, rfl, M2⟩
   have M := M.grow M2
   refine ⟨trivial, ?_⟩
   refine x_call rfl rfl rfl rfl rfl en130 (sortedE_c hT hl he (hE.new M.frm) (by rw [hkv]; exact M.at_ 0 rfl)) ?_
   rintro r_ w3 ⟨Lr, M3, hs3⟩
   have M := M.grow M3
   refine ⟨trivial, ?_⟩
   refine go 1 ?_
   exact ⟨_, Lr, rfl, M.tail, hs3⟩

end Go.Proofs.YtigfbpbnohkokaaGreat

namespace Go.Proofs.YtigfbpbnohkokaaGreat
open Go Go.Fw Go.RowKit
set_option linter.unusedVariables false
set_option linter.unusedSimpArgs false

section
variable {w : World} {p : Option Addr} {v dv : Value} {l : List Raw} {x : Raw} {b off n len cap j : Nat} {fs : List (Raw × Value)}
theorem FilesAt.shape (h : FilesAt w v l) : ∃ p cap, v = .slice p l.length cap := by
 obtain ⟨fs, h1, h2, _⟩ := h
 have : fs.length = l.length := by rw [← h1]; simp
 rw [← this]; exact h2.shape
theorem FilesAt.blk (h : FilesAt w (.slice p len cap) l) (hj : j < l.length) : ∃ b off, p = some ⟨b, off, none⟩ ∧ len = l.length := by
 obtain ⟨fs, h1, h2, _⟩ := h
 have : fs.length = l.length := by rw [← h1]; simp
 rw [← this]; exact h2.blk (j := j) (by omega)
theorem fCs_row : ∀ {fs : List (Raw × Value)} {j : Nat} {f : Raw × Value}, fs[j]? = some f → ((fCs fs).drop (j * 3)).take 3 = [strV f.1.1, .bool f.1.2.1, f.2]
 | g :: fs, 0, f, h => by simp at h; subst h; simp [fCs]
 | g :: fs, j + 1, f, h => by
  have := fCs_row (fs := fs) (j := j) (f := f) (by simpa using h)
  have e : (fCs (g :: fs)).drop ((j + 1) * 3) = (fCs fs).drop (j * 3) := by
   show (([strV g.1.1, .bool g.1.2.1, g.2] : List Value) ++ fCs fs).drop _ = _
   rw [show (j + 1) * 3 = ([strV g.1.1, Value.bool g.1.2.1, g.2] : List Value).length + j * 3 by simp; omega, ← List.drop_drop, List.drop_left]
  rw [e]; exact this
theorem FilesAt.row (h : FilesAt w (.slice (some ⟨b, off, none⟩) len cap) l) (hx : l[j]? = some x) : ∃ p c, RowAt w b (off + j * 3) [strV x.1, .bool x.2.1, .slice p x.2.2.length c] ∧ BytesAt w (.slice p x.2.2.length c) x.2.2 := by
 obtain ⟨fs, h1, h2, h3⟩ := h
 have hj : j < l.length := (List.getElem?_eq_some_iff.1 hx).1
 have hlen : fs.length = l.length := by rw [← h1]; simp
 obtain ⟨f, hf⟩ := get_lt (l := fs) (q := j) (by omega)
 have hfx : f.1 = x := by
  rw [← h1, List.getElem?_map, hf] at hx
  simpa using hx
 subst hfx
 obtain ⟨h4, _⟩ := h3 f (List.mem_of_getElem? hf)
 obtain ⟨p, c, h5⟩ := h4.shape
 have hsl := h2.sl (by omega)
 obtain ⟨b', off', h6, h7⟩ := h2.blk (j := j) (by omega)
 cases h6; subst h7
 refine ⟨p, c, ?_, h5 ▸ h4⟩
 rw [← h5]
 exact hsl.row (j := j) (l := [strV f.1.1, .bool f.1.2.1, f.2]) rfl (fCs_row hf) (by simp)
theorem RowAt.cell {u : Value} {l : List Value} (h : RowAt w b off l) {j : Nat} (hu : l[j]? = some u) : w.cell? ⟨b, off + j, none⟩ = some u := by
 obtain ⟨cs, T, fr, h1, h2⟩ := h
 refine cell_of h1 ?_
 have : ((cs.toList.drop off).take l.length)[j]? = some u := by rw [h2]; exact hu
 rw [List.getElem?_take] at this
 split at this
 ·rw [List.getElem?_drop] at this; simpa using this
 ·cases this
end

/-- Why a file may not be by itself. -/
def singleR (x : Raw) : Int := if splitE x.1 = 0 ∧ splitN x.1 ≠ [] then (if x.2.1 = true ∧ x.2.2 ≠ [] then 16 else if 65536 < x.2.2.length then 3 else 0) else 8
/-- Does one stand in another that is no directory? -/
def badR (l : List Raw) : Prop := ∃ x ∈ l, ∃ y ∈ l, y.2.1 = false ∧ ∃ t, t ≠ [] ∧ splitN x.1 = splitN y.1 ++ t
open Classical in
noncomputable def togetherR (l : List Raw) : Int := if (l.map (·.1)).Nodup then (if badR l then 17 else 0) else 10
/-- What laying a path makes, name by name. -/
def layI (g : Gf) (l : NP) (dir : Bool) (b : List UInt8) : Nat → Gf
 | 0 => g
 | j + 1 => if (layI g l dir b j) (l.take (j + 1)) = none then setG (layI g l dir b j) (l.take (j + 1)) (some (if j + 1 = l.length ∧ dir = false then (false, b) else (true, []))) else layI g l dir b j
def layG (g : Gf) (x : Raw) : Gf := layI g (splitN x.1) x.2.1 x.2.2 (splitN x.1).length
section
variable {l : List Raw} {x : Raw} {j : Nat}
theorem take_mem (hx : l[j]? = some x) : l.take (j + 1) = l.take j ++ [x] := by
 obtain ⟨h1, rfl⟩ := List.getElem?_eq_some_iff.1 hx
 exact List.take_succ_eq_append_getElem h1
theorem nodup_step (h : ((l.take j).map (·.1)).Nodup) (hx : l[j]? = some x) (hno : ∀ y ∈ l.take j, y.1 ≠ x.1) : ((l.take (j + 1)).map (·.1)).Nodup := by
 rw [take_mem hx, List.map_append, List.nodup_append]
 refine ⟨h, by simp, ?_⟩
 intro a ha b hb e
 obtain ⟨y, hy, rfl⟩ := List.mem_map.1 ha
 simp at hb
 exact hno y hy (e.trans hb)
theorem dup_step (hx : l[j]? = some x) (hy : ∃ y ∈ l.take j, y.1 = x.1) : ¬ (l.map (·.1)).Nodup := fun h => by
 obtain ⟨y, hy, e⟩ := hy
 have h2 : ((l.take (j + 1)).map (·.1)).Nodup := ((List.take_sublist _ _).map _).nodup h
 rw [take_mem hx, List.map_append, List.nodup_append] at h2
 exact h2.2.2 y.1 (List.mem_map.2 ⟨y, hy, rfl⟩) x.1 (by simp) e
/-- What of given files a map tells. -/
def TellsB (g : List UInt8 → Option Value) (l : List Raw) : Prop := ∀ k v, g k = some v ↔ ∃ x ∈ l, x.1 = k ∧ v = .bool x.2.1
theorem TellsB.nil : TellsB (fun _ => none) [] := fun k v => by simp
theorem TellsB.snoc {g : List UInt8 → Option Value} (h : TellsB g (l.take j)) (hx : l[j]? = some x) (hno : g x.1 = none) : TellsB (setF g x.1 (some (.bool x.2.1))) (l.take (j + 1)) := fun k v => by
 rw [take_mem hx]
 unfold setF
 by_cases e : k = x.1
 ·rw [if_pos e]
  constructor
  ·intro h2; cases h2; exact ⟨x, by simp, e.symm, rfl⟩
  ·rintro ⟨y, hy, h1, rfl⟩
   rcases List.mem_append.1 hy with hy | hy
   ·have := (h k _).2 ⟨y, hy, h1, rfl⟩
    rw [e, hno] at this; cases this
   ·rw [List.mem_singleton.1 hy]
 ·rw [if_neg e, h k v]
  constructor
  ·rintro ⟨y, hy, h1, h2⟩; exact ⟨y, List.mem_append_left _ hy, h1, h2⟩
  ·rintro ⟨y, hy, h1, h2⟩
   rcases List.mem_append.1 hy with hy | hy
   ·exact ⟨y, hy, h1, h2⟩
   ·rw [List.mem_singleton.1 hy] at h1; exact absurd h1.symm e
theorem TellsB.no {g : List UInt8 → Option Value} (h : TellsB g l) {k : List UInt8} (hk : g k = none) : ∀ y ∈ l, y.1 ≠ k := fun y hy e => by
 have := (h k (.bool y.2.1)).2 ⟨y, hy, e, rfl⟩
 rw [hk] at this; cases this
theorem TellsB.bool {g : List UInt8 → Option Value} (h : TellsB g l) (k : List UInt8) : ∃ dd, (g k).getD (.bool false) = .bool dd ∧ ((g k).isSome = true → g k = some (.bool dd)) := by
 cases hk : g k with
 | none => exact ⟨false, rfl, fun h => by cases h⟩
 | some v =>
  obtain ⟨y, _, _, rfl⟩ := (h k v).1 hk
  exact ⟨_, rfl, fun _ => rfl⟩
/-- It stands in no file. -/
def okR (l : List Raw) (x : Raw) : Prop := ∀ y ∈ l, y.2.1 = false → ∀ t, t ≠ [] → splitN x.1 ≠ splitN y.1 ++ t
theorem okR_bad : (∀ x ∈ l, okR l x) ↔ ¬ badR l := by
 constructor
 ·rintro h ⟨x, hx, y, hy, h1, t, h2, h3⟩; exact h x hx y hy h1 t h2 h3
 ·intro h x hx y hy h1 t h2 h3; exact h ⟨x, hx, y, hy, h1, t, h2, h3⟩
theorem single_ok (h : singleR x = 0) : splitE x.1 = 0 ∧ splitN x.1 ≠ [] ∧ (x.2.1 = true → x.2.2 = []) ∧ x.2.2.length ≤ 65536 := by
 unfold singleR at h
 split at h
 ·rename_i h1
  split at h
  ·cases h
  ·rename_i h2
   split at h
   ·cases h
   ·refine ⟨h1.1, h1.2, fun h3 => ?_, by omega⟩
    cases hx : x.2.2 with
    | nil => rfl
    | cons a b => exact absurd ⟨h3, by rw [hx]; simp⟩ h2
 ·cases h
theorem parent_take {p : List UInt8} (h : splitE p = 0) {t : Nat} (ht : t ≤ (splitN p).length) (h0 : joinS ((splitN p).take t) ≠ []) : ∃ y, parentP (joinS ((splitN p).take t)) = (joinS ((splitN p).take (t - 1)), y, 0) ∧ t ≠ 0 := by
 have hP := POK_split h
 have ht0 : t ≠ 0 := fun e => h0 (by rw [e]; rfl)
 have hok : allOK ((splitN p).take t) := fun y hy => hP.2.1 y (List.mem_of_mem_take hy)
 obtain ⟨n, hn⟩ := get_lt (l := splitN p) (q := t - 1) (by omega)
 have e1 := take_snoc' hn
 have e2 : t - 1 + 1 = t := by omega
 rw [e2] at e1
 have hne : (splitN p).take t ≠ [] := fun e => h0 (by rw [e]; rfl)
 have hj : splitE (joinS ((splitN p).take t)) = 0 := by
  refine (POK_iff hok).2 ⟨by rw [List.length_take]; have := hP.1; omega, hok, ?_⟩
  have e : joinS (splitN p) = joinS ((splitN p).take t ++ (splitN p).drop t) := by rw [List.take_append_drop]
  by_cases h4 : (splitN p).drop t = []
  ·rw [h4, List.append_nil] at e; rw [← e]; exact hP.2.2
  ·rw [joinS_app hne h4] at e
   have := congrArg List.length e
   have h5 := hP.2.2
   simp at this; omega
 exact ⟨n, parentP_some h0 hj (by rw [splitS_joinS hne (allOK_no hok)]; exact e1), ht0⟩
end
/-- On the way along a path's names. -/
structure LayI (E0 : List Ent) (x : Raw) (j : Nat) (E : List Ent) (d : Ent) : Prop where
 le : j ≤ (splitN x.1).length
 ti : TI E
 abs : absE E = layI (absE E0) (splitN x.1) x.2.1 x.2.2 j
 at_ : ent E ((splitN x.1).take j) = some d
 dir : j < (splitN x.1).length → d.dir = true
 len : E.length ≤ E0.length + j
 fut : ∀ s, j < s → s < (splitN x.1).length → ∀ e, ent E ((splitN x.1).take s) = some e → e.dir = true
section
variable {E0 E : List Ent} {x : Raw} {j : Nat} {d k y : Ent} {n : List UInt8} {o' : Obj}
theorem LayI.old (h : LayI E0 x j E d) (hn : (splitN x.1)[j]? = some n) (hk : ent E ((splitN x.1).take j ++ [n]) = some k) : LayI E0 x (j + 1) E k := by
 have hj : j < (splitN x.1).length := (List.getElem?_eq_some_iff.1 hn).1
 rw [← take_snoc' hn] at hk
 refine ⟨hj, h.ti, ?_, hk, fun h1 => h.fut (j + 1) (by omega) h1 k hk, by have := h.len; omega, fun s h1 h2 e he => h.fut s (by omega) h2 e he⟩
 rw [h.abs]
 conv => rhs; unfold layI
 rw [← h.abs, if_neg]
 rw [absE_none, hk]; simp
theorem LayI.new (h : LayI E0 x j E d) (hn : (splitN x.1)[j]? = some n) (hk : ent E ((splitN x.1).take j ++ [n]) = none) (hy : NewOK ((splitN x.1).take j) n y) (hyd : (y.dir, y.data) = if j + 1 = (splitN x.1).length ∧ x.2.1 = false then (false, x.2.2) else (true, []))
  (hm : MapF strV o' (setF (kids E ((splitN x.1).take j)) n (some (ptr y.b)))) : LayI E0 x (j + 1) (upd E ((splitN x.1).take j) o' n (some y)) y := by
 have hj : j < (splitN x.1).length := (List.getElem?_eq_some_iff.1 hn).1
 have hxp : ∀ e, some y = some e → e.p = (splitN x.1).take j ++ [n] := fun e he => by cases he; exact hy.p
 refine ⟨hj, h.ti.upd h.at_ (h.dir hj) (h.ti.leaf fun d2 h2 => by rw [hk] at h2; cases h2) (fun e he => by cases he; exact hy) hm, ?_, ?_, fun h1 => ?_, ?_, fun s h1 h2 e he => ?_⟩
 ·funext r
  rw [absE_upd hxp]
  unfold layI
  rw [← h.abs, take_snoc' hn, if_pos (absE_none.2 hk)]
  unfold setG
  split
  ·rw [Option.map_some, hyd]
  ·rfl
 ·rw [take_snoc' hn, ent_upd hxp, if_pos rfl]
 ·rw [if_neg (by omega)] at hyd
  exact (Prod.mk.inj hyd).1
 ·rw [upd_len_new hk]; have := h.len; omega
 ·rw [ent_upd hxp] at he
  have : (splitN x.1).take s ≠ (splitN x.1).take j ++ [n] := fun e1 => by
   rw [← take_snoc' hn] at e1
   have := congrArg List.length e1
   simp only [List.length_take] at this; omega
  rw [if_neg this] at he
  cases h3 : ent E ((splitN x.1).take s) with
  | none => rw [h3] at he; cases he
  | some e0 =>
   rw [h3] at he
   have := h.fut s (by omega) h2 e0 h3
   cases he
   dsimp only
   split <;> exact this
theorem LayI.ok (h : LayI E0 x j E d) (hx : splitE x.1 = 0) (hn : (splitN x.1)[j]? = some n) : POK ((splitN x.1).take j ++ [n]) := by
 have := POK_split hx
 rw [← take_snoc' hn]
 obtain ⟨h1, h2, h3⟩ := this
 refine ⟨by simp; omega, fun y hy => h2 y (List.mem_of_mem_take hy), ?_⟩
 have e : joinS (splitN x.1) = joinS ((splitN x.1).take (j + 1) ++ (splitN x.1).drop (j + 1)) := by rw [List.take_append_drop]
 by_cases h4 : (splitN x.1).drop (j + 1) = []
 ·rw [h4, List.append_nil] at e; rw [← e]; exact h3
 ·have h5 : (splitN x.1).take (j + 1) ≠ [] := fun h => by
   have h6 := congrArg List.length h
   have h7 : j < (splitN x.1).length := (List.getElem?_eq_some_iff.1 hn).1
   rw [List.length_take] at h6
   simp only [List.length_nil] at h6; omega
  rw [joinS_app h5 h4] at e
  have := congrArg List.length e
  simp at this; omega
end
end Go.Proofs.YtigfbpbnohkokaaGreat

namespace Go.Proofs.YtigfbpbnohkokaaGreat
open Go Go.Fw Go.RowKit Go.Proofs
set_option linter.unusedVariables false
set_option linter.unusedSimpArgs false
set_option maxRecDepth 100000
set_option maxHeartbeats 4000000

-- valise/tree.single
theorem single_c {w0 : World} {x : Raw} {p : Option Addr} {c : Nat} : Ret Tryz.prog 60 #[.agg #[strV x.1, .bool x.2.1, .slice p x.2.2.length c]] w0 fun r w' => r = .int .i64 (singleR x) ∧ New w0 w' := by
 have M : Sep w0 [] w0 := St.nil w0
 refine Ret.of_W Tryz.func60 rfl Tryz.ntmps60 rfl ?_
 refine go 1 ?_
 intro _ _ M
 refine go 1 ?_
 refine x_call rfl rfl rfl rfl rfl en96 (split_c) ?_
 rintro r_ w1 ⟨v1, L1, rfl, M1, hs1⟩
 have M := M.grow M1
 obtain ⟨p1, c1, rfl⟩ := hs1.shape
 refine ⟨trivial, ?_⟩
 refine spl 1 14 ?_ ?_
 ·intro hsp1
  refine go 1 ?_
  exact ⟨by unfold singleR; rw [if_neg (fun h => hsp1 h.1)], M.frm⟩
 ·intro hsp1
  refine cnd 2 ?_ ?_
  ·intro hco2
   refine go 1 ?_
   exact ⟨by unfold singleR; rw [if_neg (fun h => h.2 (List.length_eq_zero_iff.1 (by omega)))], M.frm⟩
  ·intro hco2
   have hs0 : splitE x.1 = 0 ∧ splitN x.1 ≠ [] := ⟨hsp1, fun e => hco2 (by rw [e]; rfl)⟩
   unfold singleR
   rw [if_pos hs0]
   refine spl 1 22 ?_ ?_
   ·intro hsp2
    refine cnd 3 ?_ ?_
    ·intro hco3
     refine go 1 ?_
     exact ⟨by rw [if_pos ⟨hsp2, fun e => by rw [e] at hco3; simp at hco3⟩], M.frm⟩
    ·intro hco3
     have hx0 : x.2.2 = [] := List.length_eq_zero_iff.1 (by omega)
     refine cnd 3 ?_ ?_
     ·intro hco4
      refine go 1 ?_
      exact ⟨by rw [if_neg (fun h => h.2 hx0), if_pos (by omega)], M.frm⟩
     ·intro hco4
      refine go 1 ?_
      exact ⟨by rw [if_neg (fun h => h.2 hx0), if_neg (by omega)], M.frm⟩
   ·intro hsp2
    refine cnd 3 ?_ ?_
    ·intro hco6
     refine go 1 ?_
     exact ⟨by rw [if_neg (fun h => by have := h.1; rw [hsp2] at this; cases this), if_pos (by omega)], M.frm⟩
    ·intro hco6
     refine go 1 ?_
     exact ⟨by rw [if_neg (fun h => by have := h.1; rw [hsp2] at this; cases this), if_neg (by omega)], M.frm⟩

end Go.Proofs.YtigfbpbnohkokaaGreat

namespace Go.Proofs.YtigfbpbnohkokaaGreat
open Go Go.Fw Go.RowKit Go.Proofs
set_option linter.unusedVariables false
set_option linter.unusedSimpArgs false
set_option maxRecDepth 100000
set_option maxHeartbeats 4000000

-- (*valise/tree.Tree).lay
theorem lay_c {w00 w0 : World} {bt : Nat} {E : List Ent} {L : List (Nat × Obj)} {x : Raw} {dv : Value} (M : Sep w00 (tb bt E ++ L) w0) (hT : TI E) (hl : E.length ≤ 100000) (hs : splitE x.1 = 0) (hv : ∀ w M, Sep w00 M w → (∀ y ∈ L, y ∈ M) → BytesAt w dv x.2.2) (hbl : x.2.2.length ≤ 65536) (hpre : ∀ s, s < (splitN x.1).length → ∀ e, ent E ((splitN x.1).take s) = some e → e.dir = true) : Ret Tryz.prog 63 #[ptr bt, strV x.1, dv, .bool x.2.1] w0 fun r w' => ∃ E', r = .tuple #[] ∧ absE E' = layG (absE E) x ∧ TI E' ∧ E'.length ≤ E.length + 8 ∧ Sep w00 (tb bt E' ++ L) w' := by
 obtain ⟨pv, cv, rfl⟩ := (hv _ _ M (fun y hy => by simp [hy])).shape
 obtain ⟨rt, hrt, hrd⟩ := hT.root
 refine Ret.of_W Tryz.func63 rfl Tryz.ntmps63 rfl ?_
 refine go 0 ?_
 refine x_call rfl rfl rfl rfl rfl en96 (split_c) ?_
 rintro r_ w1 ⟨v1, L2, rfl, M1, hs1⟩
 have M := M.grow M1
 obtain ⟨p1, c1, rfl⟩ := hs1.shape
 have M : Sep w00 (tb bt E ++ (L ++ L2)) w1 := by simpa only [List.append_assoc] using M
 have hsl := splitN_len x.1
 have hroot : ndP E [] = ptr rt.b := by unfold ndP; rw [hrt]; rfl
 refine ⟨trivial, ?_⟩
 refine go 0 ?_
 refine x_ld rfl rfl rfl Tryz.underlying131 rfl rfl (by have h0 : w1.cell? ⟨bt, 0, none⟩ = some (ndP E []) := cell_of (M.at_ 0 rfl) rfl; rw [hroot] at h0; exact h0) ?_
 refine go 1 ?_
 refine W.loop (σ := Nat × List Ent × Ent) (fun q => [(0, _), (2, _), (3, _), (8, _), (10, ptr q.2.2.b), (23, _), (24, _), (25, .int .i64 ((q.1 : Nat) : Int))]) (fun q w => LayI E x q.1 q.2.1 q.2.2 ∧ Sep w00 (tb bt q.2.1 ++ (L ++ L2)) w) (fun q => (splitN x.1).length - q.1) (0, E, rt) ⟨rfl, rfl, rfl, rfl, rfl, rfl, rfl, rfl, trivial⟩ ⟨⟨Nat.zero_le _, hT, rfl, hrt, fun _ => hrd, Nat.le_refl _, fun s _ h2 e he => hpre s h2 e he⟩, M⟩ ?_
 rintro ⟨j, Ej, d⟩ w ⟨hI, M⟩
 simp only at hI M
 have hTj := hI.ti
 obtain ⟨hdm, hdp⟩ := ent_mem hI.at_
 have hjl := hI.le
 have hEl := hI.len
 refine cnd 1 ?_ ?_
 ·intro hco1
  obtain ⟨n, hx⟩ := get_lt (l := splitN x.1) (q := j) (by omega)
  have hst := strsO_at hs1 M (fun y hy => by simp [hy])
  obtain ⟨bk, off, rfl, _⟩ := hst.blk (j := j) (by omega)
  have hdd := hI.dir (by omega)
  have hmap := hTj.map d hdm hdd
  rw [hdp] at hmap
  have hPOK := hI.ok hs hx
  have hlk : ∀ {w : World}, EAt w Ej → LkAt strV w d.m n (kids Ej ((splitN x.1).take j) n) := fun h => by have := h.lk hTj hdm hdd n; rwa [hdp] at this
  refine go 0 ?_
  refine x_ia j rfl rfl rfl Tryz.underlying47 sz9 rfl rfl rfl (by omega) ?_
  refine x_ld rfl rfl rfl Tryz.underlying9 rfl rfl (StrsAt.cell hst hx) ?_
  refine go 0 ?_
  refine x_ld rfl rfl rfl Tryz.underlying165 rfl rfl ((EAt.of' M (fun x hx => by simp [tb, hx])).map hdm hdd) ?_
  refine go 0 ?_
  refine x_lk1 (enc := strV) n rfl rfl rfl (strKey Tryz.underlying9) Tryz.underlying165 ze131 rfl rfl (hlk (EAt.of' M (fun x hx => by simp [tb, hx]))) ?_
  rw [kids_getD]
  refine go 0 ?_
  refine x_eqpn (ent Ej ((splitN x.1).take j ++ [n])).isNone rfl rfl rfl Tryz.underlying131 rfl rfl (by cases ent Ej ((splitN x.1).take j ++ [n]) <;> rfl) ?_
  refine cnd 0 ?_ ?_
  ·intro hco2
   have hnone : ent Ej ((splitN x.1).take j ++ [n]) = none := Option.isNone_iff_eq_none.1 hco2
   refine go 0 ?_
   refine x_call rfl rfl rfl rfl rfl en98 (directory_c) ?_
   rintro r_ w2 ⟨b2, m2, rfl, M2⟩
   have M := M.grow M2
   have M0 := M
   refine ⟨trivial, ?_⟩
   refine go 1 ?_
   refine x_sub _ rfl rfl rfl rfl rfl (wsub (by omega) (by omega)) ?_
   refine spl 1 45 ?_ ?_
   ·intro hsp1
    refine cnd 1 ?_ ?_
    ·intro hco3
     have M := M0.dropR
     refine go 0 ?_
     refine x_call rfl rfl rfl rfl rfl en82 (clone_c (hv _ _ M (fun y hy => by simp [tb, hy])) (by omega)) ?_
     rintro r_ w3 ⟨Lc, Mc, hbc⟩
     have M := M.grow Mc
     obtain ⟨pc, cc, rfl⟩ := hbc.shape
     refine ⟨trivial, ?_⟩
     refine go 2 ?_
     intro bbx1 _ M
     refine go 0 ?_
     refine x_ld rfl rfl rfl Tryz.underlying165 rfl rfl ((EAt.of' M (fun x hx => by simp [tb, hx])).map hdm hdd) ?_
     refine go 0 ?_
     refine x_mup (enc := strV) n rfl rfl rfl (strKey Tryz.underlying9) Tryz.underlying165 rfl rfl rfl ((EAt.of' M (fun x hx => by simp [tb, hx])).mp hdm hdd) hmap ?_
     intro omu1 wmu1 hmmu1 hwmu1
     have M := mapput (P := [(bbx1, .cells [.bool false, .map none, .slice pc x.2.2.length cc].toArray 169 (0, 0)), (bt, .cells [ndP Ej [], .int .i64 ((Ej.length : Int) - 1)].toArray 133 (0, 0))]) (Q := (L ++ L2) ++ Lc) (by simpa [tb, Value.cells] using M) hTj.nd hI.at_ hdd hwmu1
     refine ⟨trivial, ?_⟩
     refine go 0 ?_
     refine x_ld rfl rfl rfl Tryz.underlying3 rfl rfl (cell_of (M.at_ 1 rfl) rfl) ?_
     refine x_add _ rfl rfl rfl rfl rfl (wadd (by omega) (by omega)) ?_
     refine go 1 ?_
     intro _ M
     refine go 0 ?_
     refine x_add _ rfl rfl rfl rfl rfl (wadd (by omega) (by omega)) ?_
     refine go 0 ?_
     exact At.back ((j + 1, upd Ej ((splitN x.1).take j) omu1 n (some ⟨(splitN x.1).take j ++ [n], bbx1, false, 0, .map #[] 0, .slice pc x.2.2.length cc, Lc, x.2.2⟩), ⟨(splitN x.1).take j ++ [n], bbx1, false, 0, .map #[] 0, .slice pc x.2.2.length cc, Lc, x.2.2⟩)) ⟨rfl, rfl, rfl, rfl, rfl, rfl, rfl, rfl, trivial⟩ ⟨hI.new hx hnone ⟨rfl, hPOK, (by simp), ⟨hbc, hbl⟩, (by simp)⟩ (by rw [if_pos ⟨by omega, by simpa using hco3⟩]) hmmu1, by refine updFin2 M (by simp [blks, Ent.blks, Ent.mp, Ent.hd, Ent.kv]) (fun e he => by cases he; rfl) ?_; rw [upd_len_new hnone]; simp⟩ (by first | omega | (simp only; omega) | (simp; done) | (simp; omega))
    ·intro hco3
     refine go 0 ?_
     refine x_ld rfl rfl rfl Tryz.underlying165 rfl rfl ((EAt.of' M (fun x hx => by simp [tb, hx])).map hdm hdd) ?_
     refine go 0 ?_
     refine x_mup (enc := strV) n rfl rfl rfl (strKey Tryz.underlying9) Tryz.underlying165 rfl rfl rfl ((EAt.of' M (fun x hx => by simp [tb, hx])).mp hdm hdd) hmap ?_
     intro omu2 wmu2 hmmu2 hwmu2
     have M := mapput (P := [_]) (Q := (L ++ L2) ++ _) (by simpa [tb] using M) hTj.nd hI.at_ hdd hwmu2
     refine ⟨trivial, ?_⟩
     refine go 0 ?_
     refine x_ld rfl rfl rfl Tryz.underlying3 rfl rfl (cell_of (M.at_ 0 rfl) rfl) ?_
     refine x_add _ rfl rfl rfl rfl rfl (wadd (by omega) (by omega)) ?_
     refine go 1 ?_
     intro _ M
     refine go 0 ?_
     refine x_add _ rfl rfl rfl rfl rfl (wadd (by omega) (by omega)) ?_
     refine go 0 ?_
     exact At.back ((j + 1, upd Ej ((splitN x.1).take j) omu2 n (some ⟨(splitN x.1).take j ++ [n], b2, true, m2, .map #[] 0, .slice none 0 0, [], []⟩), ⟨(splitN x.1).take j ++ [n], b2, true, m2, .map #[] 0, .slice none 0 0, [], []⟩)) ⟨rfl, rfl, rfl, rfl, rfl, rfl, rfl, rfl, trivial⟩ ⟨hI.new hx hnone ⟨rfl, hPOK, fun _ => MapF.made, ⟨OwL.nil, by simp⟩, fun _ => rfl⟩ (by rw [if_neg (fun h => by have := h.2; rw [this] at hco3; cases hco3)]) hmmu2, by refine updFin M (List.Perm.swap _ _ _) (fun e he => by cases he; rfl) ?_; rw [upd_len_new hnone]; simp⟩ (by first | omega | (simp only; omega) | (simp; done) | (simp; omega))
   ·intro hsp1
    refine go 0 ?_
    refine x_ld rfl rfl rfl Tryz.underlying165 rfl rfl ((EAt.of' M (fun x hx => by simp [tb, hx])).map hdm hdd) ?_
    refine go 0 ?_
    refine x_mup (enc := strV) n rfl rfl rfl (strKey Tryz.underlying9) Tryz.underlying165 rfl rfl rfl ((EAt.of' M (fun x hx => by simp [tb, hx])).mp hdm hdd) hmap ?_
    intro omu3 wmu3 hmmu3 hwmu3
    have M := mapput (P := [_]) (Q := (L ++ L2) ++ _) (by simpa [tb] using M) hTj.nd hI.at_ hdd hwmu3
    refine ⟨trivial, ?_⟩
    refine go 0 ?_
    refine x_ld rfl rfl rfl Tryz.underlying3 rfl rfl (cell_of (M.at_ 0 rfl) rfl) ?_
    refine x_add _ rfl rfl rfl rfl rfl (wadd (by omega) (by omega)) ?_
    refine go 1 ?_
    intro _ M
    refine go 0 ?_
    refine x_add _ rfl rfl rfl rfl rfl (wadd (by omega) (by omega)) ?_
    refine go 0 ?_
    exact At.back ((j + 1, upd Ej ((splitN x.1).take j) omu3 n (some ⟨(splitN x.1).take j ++ [n], b2, true, m2, .map #[] 0, .slice none 0 0, [], []⟩), ⟨(splitN x.1).take j ++ [n], b2, true, m2, .map #[] 0, .slice none 0 0, [], []⟩)) ⟨rfl, rfl, rfl, rfl, rfl, rfl, rfl, rfl, trivial⟩ ⟨hI.new hx hnone ⟨rfl, hPOK, fun _ => MapF.made, ⟨OwL.nil, by simp⟩, fun _ => rfl⟩ (by rw [if_neg (fun h => by have := h.1; omega)]) hmmu3, by refine updFin M (List.Perm.swap _ _ _) (fun e he => by cases he; rfl) ?_; rw [upd_len_new hnone]; simp⟩ (by first | omega | (simp only; omega) | (simp; done) | (simp; omega))
  ·intro hco2
   obtain ⟨k, hk⟩ : ∃ k, ent Ej ((splitN x.1).take j ++ [n]) = some k := by
    cases hk : ent Ej ((splitN x.1).take j ++ [n]) with
    | none => rw [hk] at hco2; cases hco2
    | some k => exact ⟨k, rfl⟩
   rw [hk]
   refine go 0 ?_
   refine x_add _ rfl rfl rfl rfl rfl (wadd (by omega) (by omega)) ?_
   refine go 0 ?_
   exact At.back ((j + 1, Ej, k)) ⟨rfl, rfl, rfl, rfl, rfl, rfl, rfl, rfl, trivial⟩ ⟨hI.old hx hk, M⟩ (by first | omega | (simp only; omega) | (simp; done) | (simp; omega))
 ·intro hco1
  refine go 1 ?_
  obtain rfl : j = (splitN x.1).length := by omega
  exact ⟨Ej, rfl, hI.abs, hTj, by omega, by have M2 : Sep w00 ((tb bt Ej ++ L) ++ L2) w := (by simpa only [List.append_assoc] using M); exact M2.dropR⟩

end Go.Proofs.YtigfbpbnohkokaaGreat

namespace Go.Proofs.YtigfbpbnohkokaaGreat
open Go Go.Fw Go.RowKit Go.Proofs
set_option linter.unusedVariables false
set_option linter.unusedSimpArgs false
set_option maxRecDepth 100000
set_option maxHeartbeats 4000000

-- valise/tree.together
theorem together_c {w0 : World} {v : Value} {l : List Raw} (h : FilesAt w0 v l) (hl : l.length ≤ 1000) (hs : ∀ x ∈ l, singleR x = 0) : Ret Tryz.prog 61 #[v] w0 fun r w' => r = .int .i64 (togetherR l) ∧ New w0 w' := by
 have M : Sep w0 [] w0 := St.nil w0
 obtain ⟨pv, cv, rfl⟩ := h.shape
 refine Ret.of_W Tryz.func61 rfl Tryz.ntmps61 rfl ?_
 refine go 0 ?_
 refine x_mkmap rfl rfl rfl ?_
 intro bmm1 wmm1 hbmm1 hwmm1
 have M := M.acons hbmm1 hwmm1
 refine ⟨trivial, ?_⟩
 refine go 1 ?_
 refine W.loop (σ := Nat × Obj × (List UInt8 → Option Value)) (fun q => [(0, _), (3, _), (14, _), (15, _), (16, .int .i64 ((q.1 : Nat) : Int))]) (fun q w => q.1 ≤ l.length ∧ ((l.take q.1).map (·.1)).Nodup ∧ MapF strV q.2.1 q.2.2 ∧ TellsB q.2.2 (l.take q.1) ∧ Sep w0 [(bmm1, q.2.1)] w) (fun q => l.length - q.1) (0, .map #[] 0, fun _ => none) ⟨rfl, rfl, rfl, rfl, rfl, trivial⟩ ⟨Nat.zero_le _, by simp, MapF.made, TellsB.nil, M⟩ ?_
 rintro ⟨j, om, g⟩ w ⟨hj, hnd, hm, hg, M⟩
 simp only at hj hnd hm hg M
 refine cnd 1 ?_ ?_
 ·intro hco1
  obtain ⟨x, hx⟩ := get_lt (l := l) (q := j) (by omega)
  obtain ⟨bb, off, rfl, _⟩ := (h.new M.frm).blk (j := j) (by omega)
  obtain ⟨pd, cd, hrow, _⟩ := (h.new M.frm).row hx
  refine go 0 ?_
  refine x_ia j rfl rfl rfl Tryz.underlying24 sz29 rfl rfl rfl (by omega) ?_
  refine x_ldA [_, _, _] rfl rfl rfl Tryz.underlying29 rfl sz29 rfl rfl hrow ?_
  refine go 1 ?_
  intro _ _ M
  refine go 1 ?_
  intro _ M
  refine go 1 ?_
  refine x_lk2 (enc := strV) x.1 rfl rfl rfl (strKey Tryz.underlying9) Tryz.underlying160 ze4 rfl rfl ⟨om, g, M.at_ 1 rfl, hm, rfl⟩ ?_
  refine cnd 0 ?_ ?_
  ·intro hco2
   obtain ⟨v0, hv0⟩ := Option.isSome_iff_exists.1 hco2
   obtain ⟨y, hy1, hy2, _⟩ := (hg _ _).1 hv0
   refine go 1 ?_
   exact ⟨by unfold togetherR; rw [if_neg (dup_step hx ⟨y, hy1, hy2⟩)], M.frm⟩
  ·intro hco2
   have hgn : g x.1 = none := by cases h : g x.1 with | none => rfl | some v => rw [h] at hco2; cases hco2
   refine go 2 ?_
   refine x_mup (enc := strV) x.1 rfl rfl rfl (strKey Tryz.underlying9) Tryz.underlying160 rfl rfl rfl (M.at_ 1 rfl) hm ?_
   intro omu1 wmu1 hmmu1 hwmu1
   have M := M.put 1 rfl hwmu1
   refine ⟨trivial, ?_⟩
   refine go 0 ?_
   refine x_add _ rfl rfl rfl rfl rfl (wadd (by omega) (by omega)) ?_
   refine go 0 ?_
   exact At.back ((j + 1, omu1, setF g x.1 (some (.bool x.2.1)))) ⟨rfl, rfl, rfl, rfl, rfl, trivial⟩ ⟨by omega, nodup_step hnd hx (hg.no hgn), hmmu1, hg.snoc hx hgn, M.tail⟩ (by first | omega | (simp only; omega) | (simp; done) | (simp; omega))
 ·intro hco1
  have hj2 : j = l.length := by omega
  subst hj2
  rw [List.take_length] at hnd hg
  refine go 1 ?_
  refine W.loop (σ := Nat) (fun i => [(3, _), (34, _), (35, _), (36, .int .i64 ((i : Nat) : Int))]) (fun i w => i ≤ l.length ∧ (∀ x ∈ l.take i, okR l x) ∧ Sep w0 [(bmm1, om)] w) (fun i => l.length - i) 0 ⟨rfl, rfl, rfl, rfl, trivial⟩ ⟨Nat.zero_le _, by simp, M⟩ ?_
  rintro i w ⟨hi, hok, M⟩
  refine cnd 1 ?_ ?_
  ·intro hco3
   obtain ⟨x, hx⟩ := get_lt (l := l) (q := i) (by omega)
   obtain ⟨bb, off, rfl, _⟩ := (h.new M.frm).blk (j := i) (by omega)
   obtain ⟨pd, cd, hrow, _⟩ := (h.new M.frm).row hx
   have hxl := List.mem_of_getElem? hx
   obtain ⟨hxE, hxN, _⟩ := single_ok (hs x hxl)
   refine go 0 ?_
   refine x_ia i rfl rfl rfl Tryz.underlying24 sz29 rfl rfl rfl (by omega) ?_
   refine x_ldA [_, _, _] rfl rfl rfl Tryz.underlying29 rfl sz29 rfl rfl hrow ?_
   refine go 1 ?_
   intro _ _ M
   refine go 1 ?_
   intro _ M
   refine go 1 ?_
   refine W.loop (σ := List UInt8 × Nat) (fun q => [(3, _), (10, strV q.1), (34, _), (35, _), (36, _)]) (fun q w => q.2 ≤ (splitN x.1).length ∧ q.1 = joinS ((splitN x.1).take q.2) ∧ (∀ y ∈ l, y.2.1 = false → ∀ s, q.2 ≤ s → s < (splitN x.1).length → splitN y.1 ≠ (splitN x.1).take s) ∧ Sep w0 [(bmm1, om)] w) (fun q => q.2) (x.1, (splitN x.1).length) ⟨rfl, rfl, rfl, rfl, rfl, trivial⟩ ⟨Nat.le_refl _, by rw [List.take_length, joinS_splitN hxE], fun y _ _ s h1 h2 => by omega, M.tail⟩ ?_
   rintro ⟨p, t⟩ w ⟨ht, hp, hno, M⟩
   simp only at ht hp hno M
   refine cnd 1 ?_ ?_
   ·intro hco4
    obtain ⟨y0, hpar, ht0⟩ := parent_take hxE ht (by rw [← hp]; exact hco4)
    rw [← hp] at hpar
    obtain ⟨dd, hdd1, hdd2⟩ := hg.bool (joinS ((splitN x.1).take (t - 1)))
    refine go 0 ?_
    refine x_call rfl rfl rfl rfl rfl en97 (parent_c) ?_
    rintro r_ w1 ⟨rfl, hn1⟩
    have M := M.new hn1
    rw [hpar]
    refine ⟨trivial, ?_⟩
    refine go 0 ?_
    refine x_lk2 (enc := strV) (joinS ((splitN x.1).take (t - 1))) rfl rfl rfl (strKey Tryz.underlying9) Tryz.underlying160 ze4 rfl rfl ⟨om, g, M.at_ 0 rfl, hm, rfl⟩ ?_
    rw [hdd1]
    refine spl 0 57 ?_ ?_
    ·intro hsp1
     refine cnd 1 ?_ ?_
     ·intro hco5
      obtain ⟨y, hy1, hy2, hy3⟩ := (hg _ _).1 (hdd2 hsp1)
      rw [hco5] at hy3
      have hy3 : y.2.1 = false := by simpa using hy3.symm
      have hyN : splitN y.1 = (splitN x.1).take (t - 1) := by
       rw [← namesP_splitN (single_ok (hs y hy1)).1, hy2, namesP_join (fun z hz => (POK_split hxE).2.1 z (List.mem_of_mem_take hz))]
      refine go 1 ?_
      exact ⟨by unfold togetherR; rw [if_pos hnd, if_pos ⟨x, hxl, y, hy1, hy3, (splitN x.1).drop (t - 1), fun e => by have := List.drop_eq_nil_iff.1 e; omega, by rw [hyN, List.take_append_drop]⟩], M.frm⟩
     ·intro hco5
      refine go 0 ?_
      exact At.back ((joinS ((splitN x.1).take (t - 1)), t - 1)) ⟨rfl, rfl, rfl, rfl, rfl, trivial⟩ ⟨by omega, rfl, fun y hy h1 s h2 h3 => by
       rcases Nat.eq_or_lt_of_le h2 with h4 | h4
       ·intro h5
        have := (hg y.1 _).2 ⟨y, hy, rfl, rfl⟩
        rw [← joinS_splitN (single_ok (hs y hy)).1, h5, ← h4, hdd2 hsp1, h1, hco5] at this
        cases this
       ·exact hno y hy h1 s (by omega) h3, M⟩ (by first | omega | (simp only; omega) | (simp; done) | (simp; omega))
    ·intro hsp1
     refine go 0 ?_
     exact At.back ((joinS ((splitN x.1).take (t - 1)), t - 1)) ⟨rfl, rfl, rfl, rfl, rfl, trivial⟩ ⟨by omega, rfl, fun y hy h1 s h2 h3 => by
      rcases Nat.eq_or_lt_of_le h2 with h4 | h4
      ·intro h5
       have := (hg y.1 _).2 ⟨y, hy, rfl, rfl⟩
       rw [← joinS_splitN (single_ok (hs y hy)).1, h5, ← h4] at this
       rw [this] at hsp1; cases hsp1
      ·exact hno y hy h1 s (by omega) h3, M⟩ (by first | omega | (simp only; omega) | (simp; done) | (simp; omega))
   ·intro hco4
    refine go 0 ?_
    refine x_add _ rfl rfl rfl rfl rfl (wadd (by omega) (by omega)) ?_
    refine go 0 ?_
    exact At.back ((i + 1)) ⟨rfl, rfl, rfl, rfl, trivial⟩ ⟨by omega, fun z hz => by
     rw [take_mem hx] at hz
     rcases List.mem_append.1 hz with hz | hz
     ·exact hok z hz
     ·rw [List.mem_singleton.1 hz]
      intro y hy h1 s h2 h3
      have ht0 : t = 0 := by
       have h4 := (joinS_nil (fun z hz => (POK_split hxE).2.1 z (List.mem_of_mem_take hz))).1 (hp.symm.trans hco4)
       have := congrArg List.length h4
       rw [List.length_take] at this
       have h5 := List.length_pos_iff.2 hxN
       simp only [List.length_nil] at this; omega
      refine hno y hy h1 (splitN y.1).length (by omega) ?_ (by rw [h3, List.take_left])
      have := congrArg List.length h3
      have h6 := List.length_pos_iff.2 h2
      simp only [List.length_append] at this; omega, M⟩ (by first | omega | (simp only; omega) | (simp; done) | (simp; omega))
  ·intro hco3
   refine go 1 ?_
   obtain rfl : i = l.length := by omega
   rw [List.take_length] at hok
   exact ⟨by unfold togetherR; rw [if_pos hnd, if_neg (okR_bad.1 hok)], M.frm⟩

end Go.Proofs.YtigfbpbnohkokaaGreat

namespace Go.Proofs.YtigfbpbnohkokaaGreat
open Go Go.Fw Go.RowKit
set_option linter.unusedVariables false
set_option linter.unusedSimpArgs false

def gNew : Gf := fun r => if r = [] then some (true, []) else none
def newE (b m : Nat) : List Ent := [⟨[], b, true, m, .map #[] 0, .slice none 0 0, [], []⟩]
theorem TI.new (b m : Nat) : TI (newE b m) ∧ absE (newE b m) = gNew := by
 have e1 : ∀ r, ent (newE b m) r = if r = [] then some ⟨[], b, true, m, .map #[] 0, .slice none 0 0, [], []⟩ else none := fun r => by
  unfold ent newE
  by_cases h : r = []
  ·subst h; simp
  ·have : ¬ ([] : NP) = r := fun h2 => h h2.symm
   simp [h, this]
 have e2 : kids (newE b m) [] = fun _ => none := by funext n; unfold kids; rw [e1]; rfl
 refine ⟨⟨by simp [newE], ⟨_, by rw [e1, if_pos rfl], rfl⟩, fun q n e he => ?_, ?_, ?_, ?_, ?_⟩, ?_⟩
 ·rw [e1, if_neg (by simp)] at he; cases he
 ·intro e he; rw [List.mem_singleton.1 he]; exact ⟨by simp, by simp [allOK], by simp [joinS]⟩
 ·intro e he _
  rw [List.mem_singleton.1 he, e2]; exact MapF.made
 ·intro e he; rw [List.mem_singleton.1 he]; exact ⟨OwL.nil, by simp⟩
 ·intro e he _; rw [List.mem_singleton.1 he]
 ·funext r
  unfold absE gNew
  rw [e1]
  split <;> rfl
theorem newT {w0 w : World} {S : Nat → Prop} {bt b m : Nat} (M : St S w0 [(bt, .cells [ptr b, .int .i64 0].toArray 133 (0, 0)), (m, .map #[] 0), (b, .cells [.bool true, .map (some m), .slice none 0 0].toArray 169 (0, 0))] w) : St S w0 (tb bt (newE b m)) w :=
 M.perm (List.Perm.cons _ (List.Perm.swap _ _ _))
theorem RowAt.new {w w1 : World} {b off : Nat} {l : List Value} (h : RowAt w b off l) (hn : New w w1) : RowAt w1 b off l :=
 let ⟨cs, T, fr, h1, h2⟩ := h; ⟨cs, T, fr, hn.keep h1, h2⟩
/-- The first file's error. -/
def firstR (l : List Raw) : Int := match l.find? (fun x => decide (singleR x ≠ 0)) with | some x => singleR x | none => 0
theorem firstR_at : ∀ {l : List Raw} {j : Nat} {x : Raw}, l[j]? = some x → (∀ y ∈ l.take j, singleR y = 0) → singleR x ≠ 0 → firstR l = singleR x
 | y :: l, 0, x, h, _, hx => by simp at h; subst h; unfold firstR; simp [hx]
 | y :: l, j + 1, x, h, hy, hx => by
  have h0 := hy y (by simp)
  have := firstR_at (l := l) (j := j) (by simpa using h) (fun z hz => hy z (by simp [hz])) hx
  unfold firstR at this ⊢
  rw [List.find?_cons]
  simp only [h0, ne_eq, not_true_eq_false, decide_false]
  exact this
theorem firstR_ok {l : List Raw} (h : ∀ y ∈ l, singleR y = 0) : firstR l = 0 := by
 unfold firstR
 have : l.find? (fun x => decide (singleR x ≠ 0)) = none := List.find?_eq_none.2 fun y hy => by simp [h y hy]
 rw [this]
theorem layI_file {g : Gf} {l : NP} {dir : Bool} {b : List UInt8} : ∀ {j : Nat} {r : NP} {c : List UInt8}, layI g l dir b j r = some (false, c) → g r = some (false, c) ∨ (r = l ∧ dir = false)
 | 0, r, c, h => .inl h
 | j + 1, r, c, h => by
  unfold layI at h
  split at h
  ·unfold setG at h
   split at h
   ·rename_i h1
    split at h
    ·rename_i h2; exact .inr ⟨by rw [h1, h2.1, List.take_length], h2.2⟩
    ·cases h
   ·exact layI_file h
  ·exact layI_file h
theorem lays_file : ∀ {l : List Raw} {g : Gf} {r : NP} {c : List UInt8}, (l.foldl layG g) r = some (false, c) → g r = some (false, c) ∨ ∃ y ∈ l, r = splitN y.1 ∧ y.2.1 = false
 | [], g, r, c, h => .inl h
 | x :: l, g, r, c, h => by
  rcases lays_file (l := l) (g := layG g x) h with h | ⟨y, h1, h2⟩
  ·rcases layI_file h with h | ⟨h1, h2⟩
   ·exact .inl h
   ·exact .inr ⟨x, by simp, h1, h2⟩
  ·exact .inr ⟨y, by simp [h1], h2⟩
theorem together_ok {l : List Raw} (h : togetherR l = 0) : (l.map (·.1)).Nodup ∧ ¬ badR l := by
 unfold togetherR at h
 split at h
 ·rename_i h1
  split at h
  ·cases h
  ·rename_i h2; exact ⟨h1, h2⟩
 ·cases h
theorem lay_pre {l : List Raw} {E : List Ent} {x : Raw} {j : Nat} (hx : l[j]? = some x) (hab : absE E = (l.take j).foldl layG gNew) (ht : togetherR l = 0) : ∀ s, s < (splitN x.1).length → ∀ e, ent E ((splitN x.1).take s) = some e → e.dir = true := fun s hs e he => by
 cases hd : e.dir with
 | true => rfl
 | false =>
  exfalso
  have h1 := absE_at he
  rw [hab, hd] at h1
  rcases lays_file h1 with h2 | ⟨y, h2, h3, h4⟩
  ·unfold gNew at h2; split at h2 <;> cases h2
  ·refine (together_ok ht).2 ⟨x, List.mem_of_getElem? hx, y, List.mem_of_mem_take h2, h4, (splitN x.1).drop s, fun e1 => ?_, ?_⟩
   ·have := List.drop_eq_nil_iff.1 e1; omega
   ·rw [← h3, List.take_append_drop]
end Go.Proofs.YtigfbpbnohkokaaGreat

namespace Go.Proofs.YtigfbpbnohkokaaGreat
open Go Go.Fw Go.RowKit Go.Proofs
set_option linter.unusedVariables false
set_option linter.unusedSimpArgs false
set_option maxRecDepth 100000
set_option maxHeartbeats 4000000

-- valise/tree.Of
theorem of_c {w0 : World} {v : Value} {l : List Raw} (h : FilesAt w0 v l) (hl : l.length ≤ 1000) : Ret Tryz.prog 38 #[v] w0 fun r w' => (firstR l ≠ 0 ∧ r = .tuple #[.pointer none, .int .i64 (firstR l)] ∧ New w0 w') ∨ (firstR l = 0 ∧ togetherR l ≠ 0 ∧ r = .tuple #[.pointer none, .int .i64 (togetherR l)] ∧ New w0 w') ∨ (firstR l = 0 ∧ togetherR l = 0 ∧ (∀ x ∈ l, singleR x = 0) ∧ ∃ E' bt, TI E' ∧ absE E' = l.foldl layG gNew ∧ ((129 < E'.length ∧ r = .tuple #[.pointer none, .int .i64 7] ∧ New w0 w') ∨ (E'.length ≤ 129 ∧ r = .tuple #[ptr bt, .int .i64 0] ∧ Sep w0 (tb bt E') w'))) := by
 have M : Sep w0 [] w0 := St.nil w0
 obtain ⟨pv, cv, rfl⟩ := h.shape
 refine Ret.of_W Tryz.func38 rfl Tryz.ntmps38 rfl ?_
 refine go 1 ?_
 refine W.loop (σ := Nat) (fun j => [(0, _), (11, _), (12, _), (13, .int .i64 ((j : Nat) : Int))]) (fun j w => j ≤ l.length ∧ (∀ x ∈ l.take j, singleR x = 0) ∧ Sep w0 [] w) (fun j => l.length - j) 0 ⟨rfl, rfl, rfl, rfl, trivial⟩ ⟨Nat.zero_le _, by simp, M⟩ ?_
 rintro j w ⟨hj, hok, M⟩
 refine cnd 1 ?_ ?_
 ·intro hco1
  obtain ⟨x, hx⟩ := get_lt (l := l) (q := j) (by omega)
  obtain ⟨bb, off, rfl, _⟩ := (h.new M.frm).blk (j := j) (by omega)
  obtain ⟨pd, cd, hrow, _⟩ := (h.new M.frm).row hx
  refine go 0 ?_
  refine x_ia j rfl rfl rfl Tryz.underlying24 sz29 rfl rfl rfl (by omega) ?_
  refine x_ldA [_, _, _] rfl rfl rfl Tryz.underlying29 rfl sz29 rfl rfl hrow ?_
  refine go 1 ?_
  intro _ _ M
  refine go 1 ?_
  intro _ M
  refine go 1 ?_
  refine x_call rfl rfl rfl rfl rfl en60 (single_c (x := x)) ?_
  rintro r_ w1 ⟨rfl, hn1⟩
  have M := M.new hn1
  refine ⟨trivial, ?_⟩
  refine cnd 1 ?_ ?_
  ·intro hco2
   refine go 1 ?_
   have hf := firstR_at hx hok hco2
   exact .inl ⟨by rw [hf]; exact hco2, by rw [hf], M.frm⟩
  ·intro hco2
   refine go 0 ?_
   refine x_add _ rfl rfl rfl rfl rfl (wadd (by omega) (by omega)) ?_
   refine go 0 ?_
   exact At.back (j + 1) ⟨rfl, rfl, rfl, rfl, trivial⟩ ⟨by omega, fun z hz => by
    rw [take_mem hx] at hz
    rcases List.mem_append.1 hz with hz | hz
    ·exact hok z hz
    ·rw [List.mem_singleton.1 hz]; exact hco2, M.tail⟩ (by first | omega | (simp only; omega) | (simp; done) | (simp; omega))
 ·intro hco1
  have hj2 : j = l.length := by omega
  subst hj2
  rw [List.take_length] at hok
  have hf := firstR_ok hok
  refine go 0 ?_
  refine x_call rfl rfl rfl rfl rfl en61 (together_c (h.new M.frm) hl hok) ?_
  rintro r_ w2 ⟨rfl, hn2⟩
  have M := M.new hn2
  refine ⟨trivial, ?_⟩
  refine cnd 1 ?_ ?_
  ·intro hco3
   refine go 1 ?_
   exact .inr (.inl ⟨hf, hco3, rfl, M.frm⟩)
  ·intro hco3
   refine go 0 ?_
   refine x_call rfl rfl rfl rfl rfl en62 (new_c) ?_
   rintro r_ w3 ⟨b3, m3, bt, rfl, M3⟩
   have M3 := M.trans M3
   have M := newT M3
   obtain ⟨hT3, hab3⟩ := TI.new b3 m3
   refine ⟨trivial, ?_⟩
   refine go 1 ?_
   refine W.loop (σ := Nat × List Ent) (fun q => [(8, _), (29, _), (30, _), (31, .int .i64 ((q.1 : Nat) : Int))]) (fun q w => q.1 ≤ l.length ∧ TI q.2 ∧ absE q.2 = (l.take q.1).foldl layG gNew ∧ q.2.length ≤ 1 + 8 * q.1 ∧ Sep w0 (tb bt q.2) w) (fun q => l.length - q.1) (0, newE b3 m3) ⟨rfl, rfl, rfl, rfl, trivial⟩ ⟨Nat.zero_le _, hT3, hab3, Nat.le_refl _, M⟩ ?_
   rintro ⟨i, Ei⟩ w ⟨hi, hTi, habi, hEl, M⟩
   simp only at hi hTi habi hEl M
   refine cnd 1 ?_ ?_
   ·intro hco4
    obtain ⟨x, hx⟩ := get_lt (l := l) (q := i) (by omega)
    obtain ⟨bb, off, rfl, _⟩ := h.blk (j := i) (by omega)
    obtain ⟨pd, cd, hrow0, hbd⟩ := h.row hx
    have hrow := RowAt.new hrow0 M.frm
    obtain ⟨hxE, hxN, hxd, hxl⟩ := single_ok (hok x (List.mem_of_getElem? hx))
    refine go 0 ?_
    refine x_ia i rfl rfl rfl Tryz.underlying24 sz29 rfl rfl rfl (by omega) ?_
    refine x_ldA [_, _, _] rfl rfl rfl Tryz.underlying29 rfl sz29 rfl rfl hrow ?_
    refine go 1 ?_
    intro _ _ M
    refine go 1 ?_
    intro _ M
    refine go 3 ?_
    refine x_call rfl rfl rfl rfl rfl en63 (lay_c (w00 := w0) (L := [_]) (x := x) (M.perm (List.perm_append_comm (l₁ := [_]))) hTi (by omega) hxE (fun w M hM _ => hbd.new hM.frm) hxl (lay_pre hx habi hco3)) ?_
    rintro r_ w4 ⟨E2, rfl, h1, h2, h3, M⟩
    have M := M.dropR
    refine ⟨trivial, ?_⟩
    refine go 0 ?_
    refine x_add _ rfl rfl rfl rfl rfl (wadd (by omega) (by omega)) ?_
    refine go 0 ?_
    exact At.back ((i + 1, E2)) ⟨rfl, rfl, rfl, rfl, trivial⟩ ⟨by omega, h2, by rw [take_mem hx, List.foldl_append, h1, habi]; rfl, by show E2.length ≤ 1 + 8 * (i + 1); omega, M⟩ (by first | omega | (simp only; omega) | (simp; done) | (simp; omega))
   ·intro hco4
    have hi2 : i = l.length := by omega
    subst hi2
    rw [List.take_length] at habi
    refine go 0 ?_
    refine x_ld rfl rfl rfl Tryz.underlying3 rfl rfl (cell_of (M.at_ 0 rfl) rfl) ?_
    refine cnd 1 ?_ ?_
    ·intro hco5
     refine go 1 ?_
     exact .inr (.inr ⟨hf, hco3, hok, Ei, bt, hTi, habi, .inl ⟨by omega, rfl, M.frm⟩⟩)
    ·intro hco5
     refine go 1 ?_
     exact .inr (.inr ⟨hf, hco3, hok, Ei, bt, hTi, habi, .inr ⟨by omega, rfl, M⟩⟩)

end Go.Proofs.YtigfbpbnohkokaaGreat

namespace Go.Proofs.YtigfbpbnohkokaaGreat
open Go Go.Fw Go.RowKit
set_option linter.unusedVariables false
set_option linter.unusedSimpArgs false

/-- A copy of what stands at the paths of S. -/
structure CPs (E : List Ent) (S : NP → Prop) (E' : List Ent) : Prop where
 nd : (E'.map (·.p)).Nodup
 inn : ∀ r, S r → absE E' r = absE E r
 out : ∀ r, ¬ S r → ent E' r = none
 map : ∀ e ∈ E', e.dir = true → MapF strV e.o (kids E' e.p)
 dat : ∀ e ∈ E', BytesO e.D e.v e.data
section
variable {E E1 E2 E' : List Ent} {S S' : NP → Prop} {q : NP} {n : List UInt8} {d e k : Ent} {dn : NP} {o' : Obj}
theorem absE_inv {r : NP} (h : absE E' r = absE E r) (he : ent E r = some e) : ∃ e', ent E' r = some e' ∧ e'.dir = e.dir ∧ e'.data = e.data := by
 rw [absE_at he] at h
 unfold absE at h
 cases h1 : ent E' r with
 | none => rw [h1] at h; cases h
 | some e' => rw [h1] at h; simp only [Option.map_some, Option.some.injEq, Prod.mk.injEq] at h; exact ⟨e', rfl, h.1, h.2⟩
theorem CPs.same (h : CPs E S E') (hs : ∀ r, S r → S' r) (hn : ∀ r, S' r → ¬ S r → ent E r = none) : CPs E S' E' := by
 refine ⟨h.nd, fun r hr => ?_, fun r hr => h.out r fun h1 => hr (hs r h1), h.map, h.dat⟩
 by_cases h1 : S r
 ·exact h.inn r h1
 ·rw [absE_none.2 (h.out r h1), absE_none.2 (hn r hr h1)]
theorem CPs.ti (hT : TI E) (h : CPs E (fun r => ∃ t, r = [] ++ t) E') : TI E' ∧ absE E' = absE E := by
 have hab : ∀ r, absE E' r = absE E r := fun r => h.inn r ⟨r, rfl⟩
 have back : ∀ {r : NP} {e' : Ent}, ent E' r = some e' → ∃ e, ent E r = some e ∧ e.dir = e'.dir ∧ e.data = e'.data := fun {r e'} he => absE_inv (hab r).symm he
 have hp : ∀ e ∈ E', ∃ e0, ent E e.p = some e0 ∧ e0.dir = e.dir ∧ e0.data = e.data := fun e he => back (ent_of h.nd he)
 refine ⟨⟨h.nd, ?_, fun q n e he => ?_, fun e he => ?_, h.map, fun e he => ⟨h.dat e he, ?_⟩, fun e he hd => ?_⟩, funext hab⟩
 ·obtain ⟨r, h1, h2⟩ := hT.root
  obtain ⟨e', h3, h4, _⟩ := absE_inv (hab []) h1
  exact ⟨e', h3, h4.trans h2⟩
 ·obtain ⟨e0, h1, _⟩ := back he
  obtain ⟨d, h2, h3⟩ := hT.par q n e0 h1
  obtain ⟨d', h4, h5, _⟩ := absE_inv (hab q) h2
  exact ⟨d', h4, h5.trans h3⟩
 ·obtain ⟨e0, h1, _⟩ := hp e he
  have := hT.ok e0 (ent_mem h1).1
  rwa [(ent_mem h1).2] at this
 ·obtain ⟨e0, h1, _, h3⟩ := hp e he
  rw [← h3]; exact (hT.dat e0 (ent_mem h1).1).2
 ·obtain ⟨e0, h1, h2, h3⟩ := hp e he
  rw [← h3]; exact hT.dd e0 (ent_mem h1).1 (h2.trans hd)
theorem CPs.one (he : ent E q = some e) {b m : Nat} {v : Value} {D : List (Nat × Obj)} (hv : BytesO D v e.data) (hdd : e.dir = true → e.data = []) : CPs E (fun r => r = q) [⟨q, b, e.dir, m, .map #[] 0, v, D, e.data⟩] := by
 have e1 : ∀ r, ent [(⟨q, b, e.dir, m, .map #[] 0, v, D, e.data⟩ : Ent)] r = if r = q then some ⟨q, b, e.dir, m, .map #[] 0, v, D, e.data⟩ else none := fun r => by
  unfold ent
  by_cases h : r = q
  ·subst h; simp
  ·have : ¬ q = r := fun h2 => h h2.symm
   simp [h, this]
 refine ⟨by simp, fun r hr => ?_, fun r hr => by rw [e1, if_neg hr], fun x hx _ => ?_, fun x hx => ?_⟩
 ·subst hr
  rw [absE_at he]; unfold absE; rw [e1, if_pos rfl]; rfl
 ·rw [List.mem_singleton.1 hx]
  have : kids [(⟨q, b, e.dir, m, .map #[] 0, v, D, e.data⟩ : Ent)] q = fun _ => none := by
   funext n; unfold kids; rw [e1, if_neg (fun h => snoc_ne q n h.symm)]; rfl
  show MapF strV _ (kids _ q)
  rw [this]; exact MapF.made
 ·rw [List.mem_singleton.1 hx]; exact hv
theorem CPs.step (h : CPs E (fun r => r = q ∨ ∃ m ∈ dn, ∃ t, r = q ++ m :: t) E1) (htop : ent E1 q = some d) (hdd : d.dir = true) (hn : n ∉ dn) (h2 : CPs E (fun r => ∃ t, r = (q ++ [n]) ++ t) E2) (hk : ent E2 (q ++ [n]) = some k)
  (hm : MapF strV o' (setF (kids E1 q) n (some (ptr k.b)))) : CPs E (fun r => r = q ∨ ∃ m ∈ dn ++ [n], ∃ t, r = q ++ m :: t) (setO E1 q o' ++ E2) ∧ ent (setO E1 q o' ++ E2) q = some { d with o := o' } := by
 have hS1 : ∀ t, ¬ ((q ++ [n]) ++ t = q ∨ ∃ m ∈ dn, ∃ t', (q ++ [n]) ++ t = q ++ m :: t') := fun t h1 => by
  rcases h1 with h1 | ⟨m, hm, t', h1⟩
  ·have := congrArg List.length h1; simp only [List.length_append, List.length_cons, List.length_nil] at this; omega
  ·rw [List.append_assoc] at h1
   have := List.append_cancel_left h1
   simp at this
   exact hn (this.1 ▸ hm)
 have hn1 : ∀ t, ent E1 ((q ++ [n]) ++ t) = none := fun t => h.out _ (hS1 t)
 have hn2 : ∀ r, (∀ t, r ≠ (q ++ [n]) ++ t) → ent E2 r = none := fun r hr => h2.out r fun ⟨t, ht⟩ => hr t ht
 have hent : ∀ r, ent (setO E1 q o' ++ E2) r = ((ent E1 r).map fun e => if e.p = q then { e with o := o' } else e).or (ent E2 r) := fun r => by rw [ent_app, ent_setO]
 have hA : ∀ r, (∀ t, r ≠ (q ++ [n]) ++ t) → ent (setO E1 q o' ++ E2) r = (ent E1 r).map fun e => if e.p = q then { e with o := o' } else e := fun r hr => by
  rw [hent, hn2 r hr, Option.or_none]
 have hB : ∀ t, ent (setO E1 q o' ++ E2) ((q ++ [n]) ++ t) = ent E2 ((q ++ [n]) ++ t) := fun t => by rw [hent, hn1]; rfl
 have hqn : ∀ t, q ≠ (q ++ [n]) ++ t := fun t h1 => by have := congrArg List.length h1; simp only [List.length_append, List.length_cons, List.length_nil] at this; omega
 have hp : ∀ (x : Ent), (if x.p = q then { x with o := o' } else x).p = x.p := fun x => by split <;> rfl
 have habs1 : ∀ r, Option.map (fun e : Ent => (e.dir, e.data)) ((ent E1 r).map fun e => if e.p = q then { e with o := o' } else e) = absE E1 r := fun r => by
  unfold absE
  cases ent E1 r with
  | none => rfl
  | some e => simp only [Option.map_some]; split <;> rfl
 have hkid : ∀ (s : NP) (m : List UInt8), Option.map (fun e : Ent => ptr e.b) ((ent E1 (s ++ [m])).map fun e => if e.p = q then { e with o := o' } else e) = kids E1 s m := fun s m => by
  unfold kids
  cases ent E1 (s ++ [m]) with
  | none => rfl
  | some e => simp only [Option.map_some]; split <;> rfl
 have mem1 : ∀ e ∈ E1, ∀ t, e.p ≠ (q ++ [n]) ++ t := fun e he t h1 => by
  have := ent_of h.nd he
  rw [h1, hn1] at this; cases this
 have mem2 : ∀ e ∈ E2, ∃ t, e.p = (q ++ [n]) ++ t := fun e he => by
  have h1 := ent_of h2.nd he
  by_cases h3 : ∃ t, e.p = (q ++ [n]) ++ t
  ·exact h3
  ·rw [h2.out e.p h3] at h1; cases h1
 refine ⟨⟨?_, fun r hr => ?_, fun r hr => ?_, fun e he hd => ?_, fun e he => ?_⟩, ?_⟩
 ·rw [List.map_append, setO_p, List.nodup_append]
  refine ⟨h.nd, h2.nd, ?_⟩
  intro a ha b hb e
  obtain ⟨x, hx, rfl⟩ := List.mem_map.1 ha
  obtain ⟨y, hy, rfl⟩ := List.mem_map.1 hb
  obtain ⟨t, ht⟩ := mem2 y hy
  exact mem1 x hx t (e.trans ht)
 ·by_cases h1 : ∃ t, r = (q ++ [n]) ++ t
  ·obtain ⟨t, rfl⟩ := h1
   unfold absE
   rw [hB]
   exact h2.inn _ ⟨t, rfl⟩
  ·have h1' : ∀ t, r ≠ (q ++ [n]) ++ t := fun t h3 => h1 ⟨t, h3⟩
   show Option.map _ (ent _ r) = _
   rw [hA r h1', habs1]
   refine h.inn r ?_
   rcases hr with hr | ⟨m, hm, t, hr⟩
   ·exact .inl hr
   ·rcases List.mem_append.1 hm with hm | hm
    ·exact .inr ⟨m, hm, t, hr⟩
    ·rw [List.mem_singleton.1 hm] at hr
     exact absurd (by rw [hr]; simp) (h1' t)
 ·have h1' : ∀ t, r ≠ (q ++ [n]) ++ t := fun t h3 => hr (.inr ⟨n, by simp, t, by rw [h3]; simp⟩)
  rw [hA r h1', h.out r]
  ·rfl
  ·rintro (h3 | ⟨m, hm, t, h3⟩)
   ·exact hr (.inl h3)
   ·exact hr (.inr ⟨m, List.mem_append_left _ hm, t, h3⟩)
 ·rcases List.mem_append.1 he with he | he
  ·obtain ⟨e0, he0, rfl⟩ := List.mem_map.1 he
   have hp0 := hp e0
   simp only [hp0]
   by_cases h3 : e0.p = q
   ·rw [if_pos h3] at hd ⊢
    show MapF strV o' (kids _ e0.p)
    have : kids (setO E1 q o' ++ E2) e0.p = setF (kids E1 q) n (some (ptr k.b)) := by
     funext m
     rw [h3]
     unfold setF
     by_cases h4 : m = n
     ·rw [if_pos h4, h4]
      show Option.map _ (ent _ (q ++ [n])) = _
      have := hB []
      rw [List.append_nil] at this
      rw [this, hk]; rfl
     ·rw [if_neg h4]
      show Option.map _ (ent _ (q ++ [m])) = _
      rw [hA _ (fun t h5 => by
       rw [List.append_assoc] at h5
       have := List.append_cancel_left h5
       simp at this
       exact h4 this.1), hkid]
    rw [this]; exact hm
   ·rw [if_neg h3] at hd ⊢
    have : kids (setO E1 q o' ++ E2) e0.p = kids E1 e0.p := by
     funext m
     show Option.map _ (ent _ (e0.p ++ [m])) = _
     rw [hA _ (fun t h5 => ?_), hkid]
     rcases snoc_cases _ _ _ _ _ h5 with ⟨_, h6, _⟩ | ⟨t', h6, _⟩
     ·exact h3 h6
     ·exact mem1 e0 he0 t' h6
    rw [this]; exact h.map e0 he0 hd
  ·obtain ⟨t, ht⟩ := mem2 e he
   have : kids (setO E1 q o' ++ E2) e.p = kids E2 e.p := by
    funext m
    show Option.map _ (ent _ (e.p ++ [m])) = Option.map _ (ent _ (e.p ++ [m]))
    rw [ht, List.append_assoc (q ++ [n]), hB]
   rw [this]; exact h2.map e he hd
 ·rcases List.mem_append.1 he with he | he
  ·obtain ⟨e0, he0, rfl⟩ := List.mem_map.1 he
   have := h.dat e0 he0
   split <;> exact this
  ·exact h2.dat e he
 ·rw [hA q hqn, htop]
  simp only [Option.map_some, (ent_mem htop).2, if_true]
theorem CPs.fin (hT : TI E) (he : ent E q = some e) (h : CPs E (fun r => r = q ∨ ∃ m ∈ ksE E q, ∃ t, r = q ++ m :: t) E') : CPs E (fun r => ∃ t, r = q ++ t) E' := by
 refine h.same (fun r hr => ?_) (fun r ⟨t, ht⟩ hr => ?_)
 ·rcases hr with rfl | ⟨m, _, t, rfl⟩
  ·exact ⟨[], by simp⟩
  ·exact ⟨_, rfl⟩
 ·cases hk : ent E r with
  | none => rfl
  | some k =>
   exfalso
   cases t with
   | nil => exact hr (.inl (by simpa using ht))
   | cons m t =>
    refine hr (.inr ⟨m, ?_, t, ht⟩)
    obtain ⟨d, h1, _⟩ := hT.pre (q := q ++ [m]) (r := t) (e := k) (by rw [← hk, ht]; simp)
    exact (mem_ksE hT).2 ⟨d, h1⟩
end
end Go.Proofs.YtigfbpbnohkokaaGreat

namespace Go.Proofs.YtigfbpbnohkokaaGreat
open Go Go.Fw Go.RowKit Go.Proofs
set_option linter.unusedVariables false
set_option linter.unusedSimpArgs false


end Go.Proofs.YtigfbpbnohkokaaGreat

namespace Go.Proofs.YtigfbpbnohkokaaGreat
open Go Go.Fw Go.RowKit
set_option linter.unusedVariables false
set_option linter.unusedSimpArgs false

/-- Told by the world w00 and these blocks. -/
def SgK (w00 : World) (L : List (Nat × Obj)) (v : Value) (m n : Nat) (cs : List Value) : Prop := ∀ w M, Sep w00 M w → (∀ x ∈ L, x ∈ M) → Sg w v m n cs
def FilesK (w00 : World) (L : List (Nat × Obj)) (v : Value) (l : List Raw) : Prop := ∃ fs : List (Raw × Value), fs.map (·.1) = l ∧ SgK w00 L v 3 fs.length (fCs fs) ∧ ∀ f ∈ fs, SgK w00 L f.2 1 f.1.2.2.length (byteCs f.1.2.2) ∧ f.2.oneCell' = true
section
variable {w00 w : World} {L L' M : List (Nat × Obj)} {v : Value} {m n : Nat} {cs : List Value} {l : List Raw}
theorem SgK.mono (h : SgK w00 L v m n cs) (hs : ∀ x ∈ L, x ∈ L') : SgK w00 L' v m n cs := fun w M hM hx => h w M hM fun x hx2 => hx x (hs x hx2)
theorem SgK.old (h : Sg w00 v m n cs) : SgK w00 L v m n cs := fun w M hM _ => h.new hM.frm
theorem SgK.own (h : OwL L' v m n cs) (hm : 0 < m) (hs : ∀ x ∈ L', x ∈ L) : SgK w00 L v m n cs := fun w M hM hx => .inr ((h.sl hm).get fun x hx2 => hM.get (hx x (hs x hx2)))
theorem SgK.slL (h : SlL L' v m n cs) (hs : ∀ x ∈ L', x ∈ L) : SgK w00 L v m n cs := fun w M hM hx => .inr (h.get fun x hx2 => hM.get (hx x (hs x hx2)))
theorem FilesK.mono (h : FilesK w00 L v l) (hs : ∀ x ∈ L, x ∈ L') : FilesK w00 L' v l := let ⟨fs, h1, h2, h3⟩ := h; ⟨fs, h1, h2.mono hs, fun f hf => ⟨(h3 f hf).1.mono hs, (h3 f hf).2⟩⟩
theorem FilesK.old (h : FilesAt w00 v l) : FilesK w00 L v l := let ⟨fs, h1, h2, h3⟩ := h; ⟨fs, h1, SgK.old h2, fun f hf => ⟨SgK.old (h3 f hf).1, (h3 f hf).2⟩⟩
theorem FilesK.own (h : FilesO L v l) : FilesK w00 L v l :=
 let ⟨fs, Lo, Ld, h1, h2, h3, h4⟩ := h
 ⟨fs, h1, SgK.own h3 (by decide) (fun x hx => by rw [h2]; exact List.mem_append_left _ hx), fun f hf => ⟨SgK.slL (h4 f hf).1 (fun x hx => by rw [h2]; exact List.mem_append_right _ hx), (h4 f hf).2⟩⟩
theorem FilesK.at_ (h : FilesK w00 L v l) (hM : Sep w00 M w) (hs : ∀ x ∈ L, x ∈ M) : FilesAt w v l := let ⟨fs, h1, h2, h3⟩ := h; ⟨fs, h1, h2 w M hM hs, fun f hf => ⟨(h3 f hf).1 w M hM hs, (h3 f hf).2⟩⟩
end
section
variable {P : Program} {w : World} {p : Option Addr} {n cap m j : Nat} {cs : List Value}
theorem Sg.take (h : Sg w (.slice p n cap) m n cs) (hj : j ≤ n) : Sg w (.slice p j cap) m j (cs.take (j * m)) := by
 rcases h with ⟨h1, h2, _⟩ | h
 ·have : j = 0 := by omega
  subst this; exact .inl ⟨rfl, by simp, p, cap, rfl⟩
 ·exact .inr (h.take hj)
theorem Sg.drop (h : Sg w (.slice p n cap) m n cs) (hj : j ≤ n) : Sg w (.slice (if cap = j then p else p.map (·.add (j * m))) (n - j) (cap - j)) m (n - j) (cs.drop (j * m)) := by
 rcases h with ⟨h1, h2, _⟩ | h
 ·have : j = 0 := by omega
  subst this; exact .inl ⟨by omega, by rw [h2]; simp, _, _, by rw [show n - 0 = 0 by omega]⟩
 ·exact .inr (h.drop hj)
theorem Sg.capLe (h : Sg w (.slice p n cap) m n cs) : n ≤ cap := by
 rcases h with ⟨h1, _⟩ | ⟨h1, _⟩ | ⟨b, off, cap', all, T, fr, h1, h2, _⟩
 ·omega
 ·cases h1; omega
 ·cases h1; exact h2
theorem fCs_app (a b : List (Raw × Value)) : fCs (a ++ b) = fCs a ++ fCs b := List.flatMap_append
theorem fCs_take {fs : List (Raw × Value)} (hj : j ≤ fs.length) : (fCs fs).take (j * 3) = fCs (fs.take j) := by
 conv => lhs; rw [← List.take_append_drop j fs, fCs_app]
 rw [List.take_left' (by rw [fCs_len, List.length_take]; congr 1; omega)]
theorem fCs_drop {fs : List (Raw × Value)} (hj : j ≤ fs.length) : (fCs fs).drop (j * 3) = fCs (fs.drop j) := by
 conv => lhs; rw [← List.take_append_drop j fs, fCs_app]
 rw [List.drop_left' (by rw [fCs_len, List.length_take]; congr 1; omega)]
end
/-- The place of a path; below 0: it is not there. -/
def atR (l : List Raw) (p : List UInt8) : Int := match l.findIdx? (fun x => decide (x.1 = p)) with | some i => (i : Int) | none => -1
theorem atR_some {l : List Raw} {p : List UInt8} {j : Nat} {x : Raw} (hx : l[j]? = some x) (hp : x.1 = p) (hno : ∀ y ∈ l.take j, y.1 ≠ p) : atR l p = j := by
 unfold atR
 have : l.findIdx? (fun x => decide (x.1 = p)) = some j := by
  rw [List.findIdx?_eq_some_iff_getElem]
  obtain ⟨h1, rfl⟩ := List.getElem?_eq_some_iff.1 hx
  refine ⟨h1, by simpa using hp, fun i hi => ?_⟩
  have := hno l[i] (List.mem_take_iff_getElem.2 ⟨i, by omega, rfl⟩)
  simpa using this
 rw [this]
theorem atR_none {l : List Raw} {p : List UInt8} (hno : ∀ y ∈ l, y.1 ≠ p) : atR l p = -1 := by
 unfold atR
 have : l.findIdx? (fun x => decide (x.1 = p)) = none := List.findIdx?_eq_none_iff.2 fun y hy => by simpa using hno y hy
 rw [this]
theorem atR_cases (l : List Raw) (p : List UInt8) : (∃ j x, l[j]? = some x ∧ x.1 = p ∧ atR l p = (j : Nat) ∧ ∀ y ∈ l.take j, y.1 ≠ p) ∨ ((∀ y ∈ l, y.1 ≠ p) ∧ atR l p = -1) := by
 cases h : l.findIdx? (fun x => decide (x.1 = p)) with
 | none =>
  right
  have h2 := List.findIdx?_eq_none_iff.1 h
  refine ⟨fun y hy => by simpa using h2 y hy, ?_⟩
  unfold atR; rw [h]
 | some j =>
  left
  obtain ⟨h1, h2, h3⟩ := List.findIdx?_eq_some_iff_getElem.1 h
  refine ⟨j, l[j], List.getElem?_eq_getElem h1, by simpa using h2, by unfold atR; rw [h], fun y hy => ?_⟩
  obtain ⟨i, hi, rfl⟩ := List.mem_take_iff_getElem.1 hy
  have := h3 i (by omega)
  simpa using this
/-- What the document finds. -/
def fileZ : Raw := ([], false, [])
def findF (l : List Raw) : NP → NP → Raw → Raw × Int
 | _, [], f => (f, 0)
 | pre, n :: r, f => if f.2.1 = true then (match l.find? (fun x => decide (x.1 = joinS (pre ++ [n]))) with | some x => findF l (pre ++ [n]) r x | none => (fileZ, 9)) else (fileZ, 17)
def findL (l : List Raw) (p : List UInt8) : Raw × Int := if splitE p = 0 then findF l [] (splitN p) ([], true, []) else (fileZ, 8)
theorem at_find {l : List Raw} {p : List UInt8} {j : Nat} {x : Raw} (hx : l[j]? = some x) (hp : x.1 = p) (hno : ∀ y ∈ l.take j, y.1 ≠ p) : l.find? (fun x => decide (x.1 = p)) = some x := by
 obtain ⟨h1, rfl⟩ := List.getElem?_eq_some_iff.1 hx
 rw [List.find?_eq_some_iff_getElem]
 refine ⟨by simpa using hp, j, h1, rfl, fun i hi => ?_⟩
 have := hno l[i] (List.mem_take_iff_getElem.2 ⟨i, by omega, rfl⟩)
 simpa using this
theorem at_find0 {l : List Raw} {p : List UInt8} (hno : ∀ y ∈ l, y.1 ≠ p) : l.find? (fun x => decide (x.1 = p)) = none := List.find?_eq_none.2 fun y hy => by simpa using hno y hy
theorem findF_at {l : List Raw} {N : NP} {j : Nat} {n : List UInt8} {f : Raw} (hn : N[j]? = some n) : findF l (N.take j) (N.drop j) f = if f.2.1 = true then (match l.find? (fun x => decide (x.1 = joinS (N.take (j + 1)))) with | some x => findF l (N.take (j + 1)) (N.drop (j + 1)) x | none => (fileZ, 9)) else (fileZ, 17) := by
 obtain ⟨hl, rfl⟩ := List.getElem?_eq_some_iff.1 hn
 rw [List.drop_eq_getElem_cons hl, List.take_succ_eq_append_getElem hl]
 rfl
theorem splitE_8 {p : List UInt8} (h : ¬ splitE p = 0) : splitE p = 8 := by
 rcases splitP_cases p with ⟨h1, h2⟩ | ⟨_, h1⟩ | ⟨h1, _, h3, h4, h2⟩
 ·subst h1; exact absurd rfl h
 ·exact (splitE_none h1).1
 ·exact absurd (splitE_some h2).1 h
/-- The names in a directory, as the document tells them. -/
def namesL (l : List Raw) (p : List UInt8) : NP := (l.filter fun x => decide ((parentP x.1).1 = p)).map fun x => (parentP x.1).2.1
def listL (l : List Raw) (p : List UInt8) : NP × Int := if (findL l p).2 = 0 then (if (findL l p).1.2.1 = true then (namesL l p, 0) else ([], 17)) else ([], (findL l p).2)
theorem namesL_len (l : List Raw) (p : List UInt8) : (namesL l p).length ≤ l.length := by unfold namesL; rw [List.length_map]; exact List.length_filter_le _ _
theorem namesL_step {l : List Raw} {p : List UInt8} {j : Nat} {x : Raw} (hx : l[j]? = some x) : namesL (l.take (j + 1)) p = namesL (l.take j) p ++ if (parentP x.1).1 = p then [(parentP x.1).2.1] else [] := by
 obtain ⟨h1, rfl⟩ := List.getElem?_eq_some_iff.1 hx
 unfold namesL
 rw [List.take_succ_eq_append_getElem h1, List.filter_append, List.map_append]
 congr 1
 by_cases h : (parentP (l[j]).1).1 = p
 ·rw [List.filter_cons_of_pos (by simpa using h), if_pos h]; rfl
 ·rw [List.filter_cons_of_neg (by simpa using h), if_neg h]; rfl
/-- Why there is no directory for a path. -/
def homeL (l : List Raw) (p : List UInt8) (root : Int) : Int := if splitE p = 0 then (if splitN p = [] then root else if (findL l (joinS ((splitN p).take ((splitN p).length - 1)))).2 = 0 then (if (findL l (joinS ((splitN p).take ((splitN p).length - 1)))).1.2.1 = true then 0 else 17) else (findL l (joinS ((splitN p).take ((splitN p).length - 1)))).2) else 8
/-- What stands in the way of taking away. -/
def busyL (l : List Raw) (p : List UInt8) : Bool := l.any fun x => decide (x.1 ≠ p) && underP x.1 p
def removeL (l : List Raw) (p : List UInt8) : List Raw × Int := if (findL l p).2 = 0 then (if p = [] then (l, 18) else if busyL l p = true then (l, 18) else (l.eraseIdx (atR l p).toNat, 0)) else (l, (findL l p).2)
theorem findF_mem {l : List Raw} : ∀ {r pre : NP} {f : Raw}, (findF l pre r f).2 = 0 → r ≠ [] → ∃ x ∈ l, x.1 = joinS (pre ++ r)
 | [], _, _, _, h => absurd rfl h
 | n :: r, pre, f, h, _ => by
  unfold findF at h
  split at h
  ·cases hx : l.find? (fun x => decide (x.1 = joinS (pre ++ [n]))) with
   | none => rw [hx] at h; cases h
   | some x =>
    rw [hx] at h
    by_cases hr : r = []
    ·subst hr
     exact ⟨x, List.mem_of_find?_eq_some hx, by simpa using List.find?_some hx⟩
    ·obtain ⟨y, h1, h2⟩ := findF_mem (r := r) h hr
     exact ⟨y, h1, by rw [h2]; simp⟩
  ·cases h
theorem findL_mem {l : List Raw} {p : List UInt8} (h : (findL l p).2 = 0) (hp : p ≠ []) : ∃ x ∈ l, x.1 = p := by
 unfold findL at h
 split at h
 ·rename_i hs
  have h0 : splitN p ≠ [] := fun e => hp (by rcases splitN_facts hs with ⟨h1, _⟩ | ⟨_, h2, _⟩; exact h1; rw [h2] at e; exact absurd e (splitS_ne p))
  obtain ⟨x, h1, h2⟩ := findF_mem h h0
  exact ⟨x, h1, by rw [h2, List.nil_append, joinS_splitN hs]⟩
 ·cases h
/-- A row with a file more. -/
def withR (l : List Raw) (x : Raw) : List Raw := l.takeWhile (fun y => decide (compareP y.1 x.1 < 0)) ++ x :: l.dropWhile (fun y => decide (compareP y.1 x.1 < 0))
theorem withR_at {l : List Raw} {x : Raw} {j : Nat} (hj : j ≤ l.length) (h1 : ∀ y ∈ l.take j, compareP y.1 x.1 < 0) (h2 : ∀ y, l[j]? = some y → ¬ compareP y.1 x.1 < 0) : withR l x = l.take j ++ x :: l.drop j := by
 have key : ∀ (A B : List Raw), (∀ y ∈ A, compareP y.1 x.1 < 0) → (∀ y, B.head? = some y → ¬ compareP y.1 x.1 < 0) → (A ++ B).takeWhile (fun y => decide (compareP y.1 x.1 < 0)) = A ∧ (A ++ B).dropWhile (fun y => decide (compareP y.1 x.1 < 0)) = B := fun A B hA hB => by
  induction A with
  | nil =>
   cases B with
   | nil => exact ⟨rfl, rfl⟩
   | cons b B =>
    have := hB b rfl
    constructor
    ·rw [List.nil_append, List.takeWhile_cons_of_neg (by simpa using this)]
    ·rw [List.nil_append, List.dropWhile_cons_of_neg (by simpa using this)]
  | cons a A ih =>
   have h3 := hA a (by simp)
   obtain ⟨h4, h5⟩ := ih (fun y hy => hA y (by simp [hy]))
   constructor
   ·rw [List.cons_append, List.takeWhile_cons_of_pos (by simpa using h3), h4]
   ·rw [List.cons_append, List.dropWhile_cons_of_pos (by simpa using h3), h5]
 obtain ⟨h3, h4⟩ := key (l.take j) (l.drop j) h1 (fun y hy => h2 y (by rw [List.head?_drop] at hy; exact hy))
 rw [List.take_append_drop] at h3 h4
 unfold withR
 rw [h3, h4]
theorem St.mix {S : Nat → Prop} {w0 w : World} {F A B X Lo : List (Nat × Obj)} (h : St S w0 ((F ++ ((A ++ B) ++ X)) ++ Lo) w) : St S w0 ((A ++ (B ++ Lo)) ++ (X ++ F)) w := h.perm (perm_c fun p => by simp only [List.countP_append]; omega)
theorem St.mix0 {S : Nat → Prop} {w0 w : World} {F A X Lo : List (Nat × Obj)} (h : St S w0 ((F ++ (A ++ X)) ++ Lo) w) : St S w0 ((A ++ Lo) ++ (X ++ F)) w := h.perm (perm_c fun p => by simp only [List.countP_append]; omega)
def mkdirL (l : List Raw) (p : List UInt8) : List Raw × Int := if homeL l p 10 = 0 then (if 0 ≤ atR l p then (l, 10) else if 128 ≤ l.length then (l, 7) else (withR l (p, true, []), 0)) else (l, homeL l p 10)
def putL (l : List Raw) (p b : List UInt8) : List Raw × Int :=
 if homeL l p 16 = 0 then
  (match l.find? (fun x => decide (x.1 = p)) with
   | some x => if x.2.1 = true then (l, 16) else if 65536 < b.length then (l, 3) else (withR (l.eraseIdx (atR l p).toNat) (p, false, b), 0)
   | none => if 65536 < b.length then (l, 3) else if 128 ≤ l.length then (l, 7) else (withR l (p, false, b), 0))
 else (l, homeL l p 16)
end Go.Proofs.YtigfbpbnohkokaaGreat

namespace Go.Proofs.YtigfbpbnohkokaaGreat
open Go Go.Fw Go.RowKit Go.Proofs
set_option linter.unusedVariables false
set_option linter.unusedSimpArgs false
set_option maxRecDepth 100000
set_option maxHeartbeats 4000000

-- (valise/valiseref16.Tree).At
theorem at_c {w0 : World} {v : Value} {l : List Raw} {p : List UInt8} (h : FilesAt w0 v l) (hl : l.length ≤ 100000) : Ret Tryz.prog 32 #[.agg #[v], strV p] w0 fun r w' => r = .int .i64 (atR l p) ∧ New w0 w' := by
 have M : Sep w0 [] w0 := St.nil w0
 obtain ⟨pv, cv, rfl⟩ := h.shape
 refine Ret.of_W Tryz.func32 rfl Tryz.ntmps32 rfl ?_
 refine go 1 ?_
 intro bbx1 _ M
 refine go 0 ?_
 refine W.loop (σ := Nat) (fun j => [(1, _), (2, _), (5, .int .i64 ((j : Nat) : Int))]) (fun j w => j ≤ l.length ∧ (∀ y ∈ l.take j, y.1 ≠ p) ∧ Sep w0 [(bbx1, .cells [.slice pv l.length cv].toArray 31 (0, 0))] w) (fun j => l.length - j) 0 ⟨rfl, rfl, rfl, trivial⟩ ⟨Nat.zero_le _, by simp, M⟩ ?_
 rintro j w ⟨hj, hno, M⟩
 refine cnd 3 ?_ ?_
 ·intro hco1
  obtain ⟨x, hx⟩ := get_lt (l := l) (q := j) (by omega)
  obtain ⟨bb, off, rfl, _⟩ := (h.new M.frm).blk (j := j) (by omega)
  obtain ⟨pd, cd, hrow, _⟩ := (h.new M.frm).row hx
  refine go 1 ?_
  refine x_ia j rfl rfl rfl Tryz.underlying24 sz29 rfl rfl rfl (by omega) ?_
  refine go 0 ?_
  refine x_ld rfl rfl rfl Tryz.underlying9 rfl rfl (RowAt.cell hrow (j := 0) rfl) ?_
  refine cnd 1 ?_ ?_
  ·intro hco2
   refine go 1 ?_
   exact ⟨by rw [atR_some hx hco2 hno], M.frm⟩
  ·intro hco2
   refine go 0 ?_
   refine x_add _ rfl rfl rfl rfl rfl (wadd (by omega) (by omega)) ?_
   refine go 0 ?_
   exact At.back (j + 1) ⟨rfl, rfl, rfl, trivial⟩ ⟨by omega, fun y hy => by
    rw [take_mem hx] at hy
    rcases List.mem_append.1 hy with hy | hy
    ·exact hno y hy
    ·rw [List.mem_singleton.1 hy]; exact hco2, M⟩ (by first | omega | (simp only; omega) | (simp; done) | (simp; omega))
 ·intro hco1
  refine go 1 ?_
  have hj2 : j = l.length := by omega
  subst hj2
  rw [List.take_length] at hno
  exact ⟨by rw [atR_none hno], M.frm⟩

-- valise/valiseref16.Same
theorem fsame_c {w0 : World} {v u : Value} {l k : List Raw} (h : FilesAt w0 v l) (g : FilesAt w0 u k) (hl : l.length ≤ 100000) : Ret Tryz.prog 20 #[v, u] w0 fun r w' => r = .bool (decide (l = k)) ∧ New w0 w' := by
 have M : Sep w0 [] w0 := St.nil w0
 obtain ⟨pv, cv, rfl⟩ := h.shape
 obtain ⟨pu, cu, rfl⟩ := g.shape
 refine Ret.of_W Tryz.func20 rfl Tryz.ntmps20 rfl ?_
 refine cnd 3 ?_ ?_
 ·intro hco1
  refine go 1 ?_
  exact ⟨by rw [decide_eq_false (fun e => hco1 (by rw [e]))], M.frm⟩
 ·intro hco1
  have hlk : l.length = k.length := by omega
  refine go 0 ?_
  refine W.loop (σ := Nat) (fun j => [(0, _), (1, _), (5, .int .i64 ((j : Nat) : Int))]) (fun j w => j ≤ l.length ∧ l.take j = k.take j ∧ Sep w0 [] w) (fun j => l.length - j) 0 ⟨rfl, rfl, rfl, trivial⟩ ⟨Nat.zero_le _, rfl, M⟩ ?_
  rintro j w ⟨hj, heq, M⟩
  refine cnd 2 ?_ ?_
  ·intro hco2
   obtain ⟨x, hx⟩ := get_lt (l := l) (q := j) (by omega)
   obtain ⟨y, hy⟩ := get_lt (l := k) (q := j) (by omega)
   obtain ⟨b1, o1, rfl, _⟩ := (h.new M.frm).blk (j := j) (by omega)
   obtain ⟨b2, o2, rfl, _⟩ := (g.new M.frm).blk (j := j) (by omega)
   have M1 := M
   refine go 0 ?_
   refine W.regD (by kernel_rfl) #[0, 0, 3, 7, 15, 0, 0, 96, 224, 480, 1023, 2047, 4095, 4095, 16383, 32767, 65535, 4095, 4095, 397311, 921599, 1970175, 4194303, 8388607, 16777215, 33554431, 33554431, 134217727, 268435455, 536870911, 1073741823, 33554431, 33554431, 6476005375, 15065939967, 32245809151, 66605547519, 137438953471, 274877906943] [(0, false), (1, false), (2, false), (3, false), (4, false), (5, false), (6, false), (7, false), (8, false), (9, false), (10, false), (11, false), (12, false), (13, false), (14, false), (15, false), (16, false), (17, false), (18, false), (19, false), (20, false), (21, false), (22, false), (23, false), (24, false), (25, false), (26, false), (27, false), (28, false), (29, false), (30, false), (31, false), (32, false), (33, false), (34, false), (35, false), (36, false), (37, false), (38, false)] (by kernel_rfl) ?_
   intro K wD1 hK hwD1
   have M := M.drew hwD1
   obtain ⟨p1, c1, hr1, hb1⟩ := (h.new M.frm).row hx
   obtain ⟨p2, c2, hr2, hb2⟩ := (g.new M.frm).row hy
   have hne : x ≠ y → l ≠ k := fun h e => h (Option.some.inj (hx.symm.trans ((congrArg (fun z : List Raw => z[j]?) e).trans hy)))
   refine go 0 ?_
   refine x_ia j rfl rfl rfl Tryz.underlying24 sz29 rfl rfl rfl (by omega) ?_
   refine go 0 ?_
   refine x_ld rfl rfl rfl Tryz.underlying9 rfl rfl (RowAt.cell hr1 (j := 0) rfl) ?_
   refine go 0 ?_
   refine x_ia j rfl rfl rfl Tryz.underlying24 sz29 rfl rfl rfl (by omega) ?_
   refine go 0 ?_
   refine x_ld rfl rfl rfl Tryz.underlying9 rfl rfl (RowAt.cell hr2 (j := 0) rfl) ?_
   refine spl 1 28 ?_ ?_
   ·intro hsp1
    refine go 1 ?_
    exact ⟨by rw [decide_eq_false (hne fun e => hsp1 (by rw [e]))], M.frm⟩
   ·intro hsp1
    refine go 0 ?_
    refine x_ia j rfl rfl rfl Tryz.underlying24 sz29 rfl rfl rfl (by omega) ?_
    refine go 0 ?_
    refine x_ld rfl rfl rfl Tryz.underlying4 rfl rfl (RowAt.cell hr1 (j := 1) rfl) ?_
    refine go 0 ?_
    refine x_ia j rfl rfl rfl Tryz.underlying24 sz29 rfl rfl rfl (by omega) ?_
    refine go 0 ?_
    refine x_ld rfl rfl rfl Tryz.underlying4 rfl rfl (RowAt.cell hr2 (j := 1) rfl) ?_
    refine x_neb _ rfl rfl rfl Tryz.underlying4 rfl rfl rfl ?_
    refine spl 0 41 ?_ ?_
    ·intro hsp2
     refine go 1 ?_
     exact ⟨by rw [decide_eq_false (hne fun e => hsp2 (by rw [e]))], M.frm⟩
    ·intro hsp2
     refine go 0 ?_
     refine x_ia j rfl rfl rfl Tryz.underlying24 sz29 rfl rfl rfl (by omega) ?_
     refine go 0 ?_
     refine x_ld rfl rfl rfl Tryz.underlying27 rfl rfl (RowAt.cell hr1 (j := 2) rfl) ?_
     refine x_cvbs _ rfl rfl rfl Tryz.underlying27 Tryz.underlying5 Tryz.underlying9 rfl (strOf_bytes hb1) ?_
     refine go 0 ?_
     refine x_ia j rfl rfl rfl Tryz.underlying24 sz29 rfl rfl rfl (by omega) ?_
     refine go 0 ?_
     refine x_ld rfl rfl rfl Tryz.underlying27 rfl rfl (RowAt.cell hr2 (j := 2) rfl) ?_
     refine x_cvbs _ rfl rfl rfl Tryz.underlying27 Tryz.underlying5 Tryz.underlying9 rfl (strOf_bytes hb2) ?_
     refine cnd 1 ?_ ?_
     ·intro hco5
      refine go 1 ?_
      exact ⟨by rw [decide_eq_false (hne fun e => hco5 (by rw [e]))], M.frm⟩
     ·intro hco5
      refine go 0 ?_
      refine x_add _ rfl rfl rfl rfl rfl (wadd (by omega) (by omega)) ?_
      refine go 0 ?_
      exact At.back (j + 1) ⟨rfl, rfl, rfl, trivial⟩ ⟨by omega, by rw [take_mem hx, take_mem hy, heq, show x = y from Prod.ext hsp1 (Prod.ext hsp2 hco5)], M⟩ (by first | omega | (simp only; omega) | (simp; done) | (simp; omega))
  ·intro hco2
   refine go 1 ?_
   have hj2 : j = l.length := by omega
   subst hj2
   rw [List.take_length, hlk, List.take_length] at heq
   exact ⟨by rw [decide_eq_true heq], M.frm⟩

end Go.Proofs.YtigfbpbnohkokaaGreat

namespace Go.Proofs.YtigfbpbnohkokaaGreat
open Go Go.Fw Go.RowKit
set_option linter.unusedVariables false
set_option linter.unusedSimpArgs false

/-- A file, where it stands when x is moved to y. -/
def mvN (x y : List UInt8) (f : Raw) : Raw := if underP f.1 x = true then (y ++ f.1.drop x.length, f.2) else f
def movL (x y : List UInt8) (l : List Raw) : List Raw := l.foldl (fun a f => withR a (mvN x y f)) []
def badN (x y : List UInt8) (f : Raw) : Bool := underP f.1 x && decide (splitE (mvN x y f).1 ≠ 0)
def renameL (l : List Raw) (x y : List UInt8) : List Raw × Int :=
 if (findL l x).2 = 0 then (if x = [] then (l, 18) else if homeL l y 10 = 0 then (if x = y then (l, 0) else if underP y x = true then (l, 18) else if 0 ≤ atR l y then (l, 10) else if l.any (badN x y) = true then (l, 8) else (movL x y l, 0)) else (l, homeL l y 10)) else (l, (findL l x).2)
theorem withR_mem {l : List Raw} {x y : Raw} : y ∈ withR l x ↔ y = x ∨ y ∈ l := by
 unfold withR
 have e := List.takeWhile_append_dropWhile (p := fun y : Raw => decide (compareP y.1 x.1 < 0)) (l := l)
 rw [List.mem_append, List.mem_cons]
 constructor
 ·rintro (h | h | h)
  ·exact .inr (by rw [← e]; exact List.mem_append_left _ h)
  ·exact .inl h
  ·exact .inr (by rw [← e]; exact List.mem_append_right _ h)
 ·rintro (h | h)
  ·exact .inr (.inl h)
  ·rw [← e] at h
   rcases List.mem_append.1 h with h | h
   ·exact .inl h
   ·exact .inr (.inr h)
theorem withR_len (l : List Raw) (x : Raw) : (withR l x).length = l.length + 1 := by
 unfold withR
 have e := congrArg List.length (List.takeWhile_append_dropWhile (p := fun y : Raw => decide (compareP y.1 x.1 < 0)) (l := l))
 simp only [List.length_append, List.length_cons] at e ⊢
 omega
theorem foldW_mem {g : Raw → Raw} : ∀ {l A : List Raw} {y : Raw}, y ∈ l.foldl (fun a f => withR a (g f)) A ↔ y ∈ A ∨ ∃ f ∈ l, y = g f
 | [], A, y => by simp
 | f :: l, A, y => by
  rw [List.foldl_cons, foldW_mem, withR_mem]
  constructor
  ·rintro ((h | h) | ⟨z, h1, h2⟩)
   ·exact .inr ⟨f, by simp, h⟩
   ·exact .inl h
   ·exact .inr ⟨z, by simp [h1], h2⟩
  ·rintro (h | ⟨z, h1, h2⟩)
   ·exact .inl (.inr h)
   ·rcases List.mem_cons.1 h1 with rfl | h1
    ·exact .inl (.inl h2)
    ·exact .inr ⟨z, h1, h2⟩
theorem foldW_len {g : Raw → Raw} : ∀ (l A : List Raw), (l.foldl (fun a f => withR a (g f)) A).length = A.length + l.length
 | [], A => by simp
 | f :: l, A => by rw [List.foldl_cons, foldW_len, withR_len]; simp; omega
theorem mvN_len {x y : List UInt8} {f : Raw} (hf : f.1.length ≤ 1000) (hy : y.length ≤ 1000) : (mvN x y f).1.length ≤ 2000 := by
 unfold mvN
 split
 ·simp; omega
 ·omega
theorem movL_step {x y : List UInt8} {l : List Raw} {j : Nat} {f : Raw} (hf : l[j]? = some f) : movL x y (l.take (j + 1)) = withR (movL x y (l.take j)) (mvN x y f) := by
 unfold movL
 rw [take_mem hf, List.foldl_append]; rfl
/-- A file of a row that stays. -/
theorem FilesK.get {w00 w : World} {L M : List (Nat × Obj)} {l : List Raw} {b off n cap j : Nat} {x : Raw} (h : FilesK w00 L (.slice (some ⟨b, off, none⟩) n cap) l) (hx : l[j]? = some x) (hM : Sep w00 M w) (hs : ∀ y ∈ L, y ∈ M) :
  ∃ p c, SgK w00 L (.slice p x.2.2.length c) 1 x.2.2.length (byteCs x.2.2) ∧ RowAt w b (off + j * 3) [strV x.1, .bool x.2.1, .slice p x.2.2.length c] := by
 obtain ⟨fs, h1, h2, h3⟩ := h
 have hj : j < l.length := (List.getElem?_eq_some_iff.1 hx).1
 have hlen : fs.length = l.length := by rw [← h1]; simp
 obtain ⟨f, hf⟩ := get_lt (l := fs) (q := j) (by omega)
 have hfx : f.1 = x := by
  rw [← h1, List.getElem?_map, hf] at hx
  simpa using hx
 subst hfx
 obtain ⟨h4, _⟩ := h3 f (List.mem_of_getElem? hf)
 obtain ⟨p, c, h5⟩ := (h4 w M hM hs).shape
 have hsl := (h2 w M hM hs).sl (by omega)
 obtain ⟨b', off', h6, h7⟩ := (h2 w M hM hs).blk (j := j) (by omega)
 cases h6; subst h7
 refine ⟨p, c, h5 ▸ h4, ?_⟩
 rw [← h5]
 exact hsl.row (j := j) (l := [strV f.1.1, .bool f.1.2.1, f.2]) rfl (fCs_row hf) (by simp)
theorem under_len {p d : List UInt8} (h : underP p d = true) : d.length ≤ p.length := by
 obtain ⟨h1, h2, c, hc⟩ := under_facts h
 rw [namesP_splitN h1, namesP_splitN h2] at hc
 have e1 := joinS_splitN h1
 have e2 := joinS_splitN h2
 rw [hc] at e1
 by_cases hc0 : c = []
 ·subst hc0; rw [List.append_nil, e2] at e1; rw [e1]; exact Nat.le_refl _
 ·by_cases hd0 : splitN d = []
  ·rw [hd0] at e2; rw [← e2]; simp [joinS]
  ·rw [joinS_app hd0 hc0, e2] at e1
   have := congrArg List.length e1
   simp at this; omega
end Go.Proofs.YtigfbpbnohkokaaGreat
