/-
  Where a node stands in the ring; small facts for the walks.
-/
import Derived.Test.YtbbccdcjhoecpaaC1
namespace Go.Proofs.Ytbbccdcjhoecpaa
open Go Go.Fw Go.RowKit Go.Proofs
set_option linter.unusedVariables false
set_option linter.unusedSimpArgs false

def lstI : List Nat → Nat → Nat
  | [], e => e
  | [x], _ => x
  | _ :: y :: r, e => lstI (y :: r) e

theorem hdI_app (B : List Nat) (e : Nat) : ∃ B', B ++ [e] = hdI B e :: B' := by cases B with | nil => exact ⟨[], rfl⟩ | cons x B => exact ⟨B ++ [e], rfl⟩
theorem lstI_app : ∀ (A : List Nat) (e : Nat), ∃ A', e :: A = A' ++ [lstI A e]
  | [], e => ⟨[], rfl⟩
  | [x], e => ⟨[e], rfl⟩
  | x :: y :: r, e => by
    obtain ⟨A', h⟩ := lstI_app (y :: r) x
    refine ⟨e :: A', ?_⟩
    have : ∀ (r : List Nat) (y a b : Nat), lstI (y :: r) a = lstI (y :: r) b := by
      intro r
      induction r with
      | nil => intro y a b; rfl
      | cons z r ih => intro y a b; simp only [lstI]; exact ih z a b
    show e :: x :: y :: r = e :: A' ++ [lstI (y :: r) e]
    rw [h, this r y x e]
    rfl

theorem RingF.at_ {w : World} {e : Nat} {A B : List Nd} {l : Nd} {ah nx : Nat → Nat} (h : RingF w e (A ++ l :: B) ah nx) : ah l.id = lstI (ids A) e ∧ nx l.id = hdI (ids B) e := by
  obtain ⟨A', hA⟩ := lstI_app (ids A) e
  obtain ⟨B', hB⟩ := hdI_app (ids B) e
  have hl := h.link
  have hcyc : e :: (ids (A ++ l :: B) ++ [e]) = A' ++ lstI (ids A) e :: l.id :: hdI (ids B) e :: B' := by
    rw [ids_app]
    show e :: (ids A ++ l.id :: ids B ++ [e]) = _
    rw [List.append_assoc, List.cons_append, hB, ← List.cons_append, hA]
    simp
  rw [hcyc, linked_app] at hl
  simp only [linked] at hl
  exact ⟨hl.2.2.1, hl.2.2.2.1⟩

theorem RingF.end_ {w : World} {e : Nat} {L : List Nd} {ah nx : Nat → Nat} (h : RingF w e L ah nx) : ah e = lstI (ids L) e ∧ nx e = hdI (ids L) e := by
  obtain ⟨A', hA⟩ := lstI_app (ids L) e
  obtain ⟨B', hB⟩ := hdI_app (ids L) e
  have hl := h.link
  refine ⟨?_, ?_⟩
  · rw [← List.cons_append, hA, List.append_assoc, List.singleton_append, linked_app] at hl
    simp only [linked] at hl
    exact hl.2.2.1
  · rw [hB] at hl
    exact hl.1

theorem Ring.node_at {w : World} {e : Nat} {A B : List Nd} {l : Nd} (h : Ring w e (A ++ l :: B)) : w.heap[l.id]? = some (nodeO l (lstI (ids A) e) (hdI (ids B) e)) ∧ l.id ≠ e := by
  obtain ⟨ah, nx, h⟩ := h
  obtain ⟨h1, h2⟩ := h.at_
  have h3 := h.node l (by simp)
  rw [h1, h2] at h3
  refine ⟨h3, fun e1 => ?_⟩
  have := h.nd
  rw [List.nodup_cons] at this
  exact this.1 (by rw [ids_app]; simp [ids, e1])

theorem Ring.end_at {w : World} {e : Nat} {L : List Nd} (h : Ring w e L) : w.heap[e]? = some (endO (lstI (ids L) e) (hdI (ids L) e)) := by
  obtain ⟨ah, nx, h⟩ := h
  obtain ⟨h1, h2⟩ := h.end_
  have h3 := h.endb
  rw [h1, h2] at h3
  exact h3

theorem okBlk_node {w : World} {x : Nat} {nd : Nd} {a b : Nat} (h : w.heap[x]? = some (nodeO nd a b)) : OkBlk w x := ⟨_, _, h, by simp⟩
theorem okBlk_end {w : World} {x : Nat} {a b : Nat} (h : w.heap[x]? = some (endO a b)) : OkBlk w x := ⟨_, _, h, by simp⟩

/-- What the cache's map tells of a key. -/
def findK (L : List Nd) (k : Key) : Option Value := (L.find? fun n => n.key = k).map fun n => ptr n.id

theorem key_inj {L : List Nd} (hk : (L.map Nd.key).Nodup) {n m : Nd} (hn : n ∈ L) (hm : m ∈ L) (h : n.key = m.key) : n = m := by
  obtain ⟨i, hi⟩ := List.mem_iff_getElem?.1 hn
  obtain ⟨j, hj⟩ := List.mem_iff_getElem?.1 hm
  have h1 : (L.map Nd.key)[i]? = some n.key := by simp [hi]
  have h2 : (L.map Nd.key)[j]? = some n.key := by simp [hj, h]
  have hlt : i < (L.map Nd.key).length := (List.getElem?_eq_some_iff.1 h1).1
  have hlt2 : j < (L.map Nd.key).length := (List.getElem?_eq_some_iff.1 h2).1
  rw [List.getElem?_eq_getElem hlt] at h1
  rw [List.getElem?_eq_getElem hlt2] at h2
  have this : i = j := (List.getElem_inj (h₀ := hlt) (h₁ := hlt2) hk).1 ((Option.some.inj h1).trans (Option.some.inj h2).symm)
  subst this
  rw [hi] at hj
  exact Option.some.inj hj

theorem CAt.look {w : World} {c e r : Nat} {bud : Int} {L : List Nd} (h : CAt w c e r bud L) (k : Key) : LkAt encK w r k (findK L k) := by
  obtain ⟨o, g, ho, hg, hm⟩ := h.mp
  refine ⟨o, g, ho, hg, ?_⟩
  unfold findK
  cases hf : L.find? fun n => n.key = k with
  | none =>
    cases hgk : g k with
    | none => rfl
    | some v =>
      obtain ⟨n, hn, h1, _⟩ := (hm k v).1 hgk
      have := List.find?_eq_none.1 hf n hn
      simp [h1] at this
  | some n =>
    have h1 := List.mem_of_find?_eq_some hf
    have h2 := List.find?_some hf
    exact (hm k (ptr n.id)).2 ⟨n, h1, by simpa using h2, rfl⟩

/-- A key that is there stands somewhere. -/
theorem findK_some {L : List Nd} {k : Key} (h : (findK L k).isSome = true) : ∃ A l B, L = A ++ l :: B ∧ l.key = k ∧ findK L k = some (ptr l.id) ∧ ∀ n ∈ A, n.key ≠ k := by
  unfold findK at *
  cases hf : L.find? fun n => n.key = k with
  | none => rw [hf] at h; cases h
  | some l =>
    obtain ⟨h1, A, B, rfl, h2⟩ := List.find?_eq_some_iff_append.1 hf
    exact ⟨A, l, B, rfl, by simpa using h1, rfl, fun n hn => by simpa using h2 n hn⟩

theorem findK_none {L : List Nd} {k : Key} (h : (findK L k).isSome = false) : (∀ n ∈ L, n.key ≠ k) ∧ findK L k = none := by
  unfold findK at *
  cases hf : L.find? fun n => n.key = k with
  | none => exact ⟨fun n hn => by simpa using List.find?_eq_none.1 hf n hn, rfl⟩
  | some l => rw [hf] at h; cases h

theorem run_ne_key (a b : Key) (x y : Operand) (w : World) : (do eqGuard .neq 29 x y (encK a) (encK b); binOp .neq 29 (encK a) (encK b) : Sem Value).run Try.prog w = .ok (.bool (!decide (a = b))) w := by
  have hg : (eqGuard .neq 29 x y (encK a) (encK b)).run Try.prog w = .ok () w := by
    unfold eqGuard encK
    simp only [Bool.not_true, Bool.false_eq_true, if_false, Sem.run_bind, run_program, Result.andThen_ok]
    rw [if_pos eqg29]
    rfl
  rw [Sem.run_bind, hg]
  simp only [Result.andThen_ok, binOp, encK]
  rw [Sem.run_bind]
  have := equal_key a b w
  unfold encK at this
  rw [this]
  rfl

theorem run_eq_key (a b : Key) (x y : Operand) (w : World) : (do eqGuard .eql 29 x y (encK a) (encK b); binOp .eql 29 (encK a) (encK b) : Sem Value).run Try.prog w = .ok (.bool (decide (a = b))) w := by
  have hg : (eqGuard .eql 29 x y (encK a) (encK b)).run Try.prog w = .ok () w := by
    unfold eqGuard encK
    simp only [Bool.not_true, Bool.false_eq_true, if_false, Sem.run_bind, run_program, Result.andThen_ok]
    rw [if_pos eqg29]
    rfl
  rw [Sem.run_bind, hg]
  simp only [Result.andThen_ok, binOp, encK]
  rw [Sem.run_bind]
  have := equal_key a b w
  unfold encK at this
  rw [this]
  rfl

theorem byteV_one (b : List UInt8) : ∀ u ∈ b.map byteV, u.oneCell' = true := by
  intro u hu
  obtain ⟨x, _, rfl⟩ := List.mem_map.1 hu
  rfl

/-- How many bytes the pinned ones have, but for one key. -/
def heldOf (L : List Nd) (k : Key) : Int := (L.map fun n => if 0 < n.pins ∧ n.key ≠ k then (n.b.length : Int) else 0).sum

theorem len_le (L : List Nd) (h : ∀ n ∈ L, n.b.length ≤ 4096) : 0 ≤ tot L ∧ tot L ≤ 4096 * L.length := by
  induction L with
  | nil => simp [tot]
  | cons x L ih =>
    have h1 := ih (fun n hn => h n (List.mem_cons_of_mem _ hn))
    have h2 := h x (by simp)
    rw [tot_cons]
    simp only [List.length_cons]
    omega

theorem held_le (L : List Nd) (k : Key) : 0 ≤ heldOf L k ∧ heldOf L k ≤ tot L := by
  induction L with
  | nil => simp [heldOf, tot]
  | cons x L ih =>
    unfold heldOf tot at *
    simp only [List.map_cons, List.sum_cons]
    split <;> omega

theorem wrap64_id {x : Int} (h1 : -9223372036854775808 ≤ x) (h2 : x ≤ 9223372036854775807) : IntKind.i64.wrap x = x := by
  exact IntWalk.i64_in _ ⟨h1, h2⟩
end Go.Proofs.Ytbbccdcjhoecpaa
