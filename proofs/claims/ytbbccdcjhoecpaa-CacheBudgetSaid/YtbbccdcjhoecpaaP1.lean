/-
  The cache's ring: plain words.
-/
import Derived.Test.YtbbccdcjhoecpaaFwE
namespace Go.Proofs.Ytbbccdcjhoecpaa
open Go Go.Fw Go.RowKit Go.Proofs
set_option linter.unusedVariables false
set_option linter.unusedSimpArgs false

/-- A node of the ring. -/
structure Nd where
  id : Nat
  f : ByteArray
  i : Int
  sv : Value
  b : List UInt8
  pins : Int

def ptr (x : Nat) : Value := .pointer (some ⟨x, 0, none⟩)
def nodeO (nd : Nd) (ah nx : Nat) : Obj := .cells [.string nd.f, .int .i64 nd.i, nd.sv, .int .i64 nd.pins, ptr ah, ptr nx].toArray 70 (0, 0)
def endO (ah nx : Nat) : Obj := .cells [.string ByteArray.empty, .int .i64 0, .slice none 0 0, .int .i64 0, ptr ah, ptr nx].toArray 70 (0, 0)

/-- Those that stand one behind the other lead to one another. -/
def linked (ah nx : Nat → Nat) : List Nat → Prop
  | a :: b :: r => nx a = b ∧ ah b = a ∧ linked ah nx (b :: r)
  | _ => True

theorem linked_app (ah nx : Nat → Nat) (a : Nat) (Y : List Nat) : ∀ X : List Nat, linked ah nx (X ++ a :: Y) ↔ linked ah nx (X ++ [a]) ∧ linked ah nx (a :: Y)
  | [] => by cases Y <;> simp [linked]
  | [x] => by simp [linked, and_assoc]
  | x :: y :: X => by
    have := linked_app ah nx a Y (y :: X)
    simp only [List.cons_append, linked] at this ⊢
    rw [this]
    simp only [and_assoc]

theorem linked_congr {ah nx ah' nx' : Nat → Nat} : ∀ {l : List Nat}, linked ah nx l → (∀ a ∈ l.dropLast, nx' a = nx a) → (∀ a ∈ l.tail, ah' a = ah a) → linked ah' nx' l
  | [], _, _, _ => trivial
  | [_], _, _, _ => trivial
  | a :: b :: r, h, h1, h2 => by
    obtain ⟨e1, e2, h3⟩ := h
    refine ⟨by rw [h1 a (by simp)]; exact e1, by rw [h2 b (by simp)]; exact e2, linked_congr h3 (fun x hx => h1 x (by simp; exact .inr hx)) (fun x hx => h2 x (by simp at hx ⊢; exact .inr hx))⟩

def upd (g : Nat → Nat) (a v : Nat) : Nat → Nat := fun x => if x = a then v else g x

/-- Taking one out. -/
theorem linked_cut {ah nx : Nat → Nat} {A B : List Nat} {p l q : Nat} (h : linked ah nx (A ++ p :: l :: q :: B)) (h1 : ∀ a ∈ A, a ≠ p) (h2 : ∀ a ∈ (A ++ [p]).tail, a ≠ q) (h3 : ∀ a ∈ (q :: B).dropLast, a ≠ p) (h4 : ∀ a ∈ B, a ≠ q) :
    linked (upd ah q p) (upd nx p q) (A ++ p :: q :: B) := by
  rw [linked_app] at h ⊢
  obtain ⟨ha, hb⟩ := h
  simp only [linked] at hb ⊢
  obtain ⟨_, _, _, _, hb⟩ := hb
  refine ⟨linked_congr ha (fun a ha => ?_) (fun a ha => ?_), by simp [upd], by simp [upd], linked_congr hb (fun a ha => ?_) (fun a ha => ?_)⟩
  · rw [List.dropLast_concat] at ha; simp [upd, h1 a ha]
  · simp [upd, h2 a ha]
  · simp [upd, h3 a ha]
  · simp at ha; simp [upd, h4 a ha]

/-- Putting one ahead of all. -/
theorem linked_front {ah nx : Nat → Nat} {B : List Nat} {e l q : Nat} (h : linked ah nx (e :: q :: B)) (h1 : ∀ a ∈ (q :: B).dropLast, a ≠ e ∧ a ≠ l) (h2 : ∀ a ∈ B, a ≠ q ∧ a ≠ l) (h3 : l ≠ e) (h4 : q ≠ l) :
    linked (upd (upd ah l e) q l) (upd (upd nx l q) e l) (e :: l :: q :: B) := by
  simp only [linked] at h ⊢
  obtain ⟨_, _, hb⟩ := h
  refine ⟨by simp [upd], by simp [upd, Ne.symm h4], by simp [upd, h3], by simp [upd], linked_congr hb (fun a ha => ?_) (fun a ha => ?_)⟩
  · simp [upd, h1 a ha]
  · simp at ha; simp [upd, h2 a ha]

def ids (L : List Nd) : List Nat := L.map (·.id)

/-- The ring e holds the nodes L, in this order. -/
structure RingF (w : World) (e : Nat) (L : List Nd) (ah nx : Nat → Nat) : Prop where
  endb : w.heap[e]? = some (endO (ah e) (nx e))
  node : ∀ nd ∈ L, w.heap[nd.id]? = some (nodeO nd (ah nd.id) (nx nd.id))
  link : linked ah nx (e :: (ids L ++ [e]))
  nd : (e :: ids L).Nodup

def Ring (w : World) (e : Nat) (L : List Nd) : Prop := ∃ ah nx, RingF w e L ah nx

theorem RingF.same {w w' : World} {e : Nat} {L : List Nd} {ah nx : Nat → Nat} (h : RingF w e L ah nx) (hs : ∀ b ∈ e :: ids L, w'.heap[b]? = w.heap[b]?) : RingF w' e L ah nx :=
  ⟨by rw [hs e (by simp)]; exact h.endb, fun nd hn => by rw [hs nd.id (by simp [ids]; exact .inr ⟨nd, hn, rfl⟩)]; exact h.node nd hn, h.link, h.nd⟩

theorem Ring.same {w w' : World} {e : Nat} {L : List Nd} (h : Ring w e L) (hs : ∀ b ∈ e :: ids L, w'.heap[b]? = w.heap[b]?) : Ring w' e L :=
  let ⟨ah, nx, h⟩ := h; ⟨ah, nx, h.same hs⟩

/-- A block that stands in the ring: the end, or a node: six cells. -/
theorem RingF.six {w : World} {e : Nat} {L : List Nd} {ah nx : Nat → Nat} (h : RingF w e L ah nx) {x : Nat} (hx : x ∈ e :: ids L) : ∃ a b c d, w.heap[x]? = some (.cells [a, b, c, d, ptr (ah x), ptr (nx x)].toArray 70 (0, 0)) ∧
    (x = e → [a, b, c, d] = [.string ByteArray.empty, .int .i64 0, .slice none 0 0, .int .i64 0]) ∧ (∀ nd ∈ L, nd.id = x → [a, b, c, d] = [.string nd.f, .int .i64 nd.i, nd.sv, .int .i64 nd.pins]) := by
  rcases List.mem_cons.1 hx with rfl | hx
  · refine ⟨_, _, _, _, h.endb, fun _ => rfl, fun nd hn e1 => ?_⟩
    have := h.nd
    rw [List.nodup_cons] at this
    exact absurd (List.mem_map.2 ⟨nd, hn, e1⟩) this.1
  · obtain ⟨nd, hn, rfl⟩ := List.mem_map.1 hx
    refine ⟨_, _, _, _, h.node nd hn, fun e1 => ?_, fun nd' hn' e1 => ?_⟩
    · have := h.nd
      rw [List.nodup_cons] at this
      exact absurd (e1 ▸ hx) this.1
    · have h1 := h.node nd hn
      have h2 := h.node nd' hn'
      rw [e1, h1] at h2
      simp [nodeO] at h2
      rw [h2.1, h2.2.1, h2.2.2.1, h2.2.2.2]

/-- The ring after blocks were turned: every block of it holds what it held, but for the two links. -/
theorem RingF.of_six {w : World} {e : Nat} {L : List Nd} {ah nx : Nat → Nat} (hl : linked ah nx (e :: (ids L ++ [e]))) (hn : (e :: ids L).Nodup)
    (h : ∀ x ∈ e :: ids L, ∃ a b c d, w.heap[x]? = some (.cells [a, b, c, d, ptr (ah x), ptr (nx x)].toArray 70 (0, 0)) ∧
    (x = e → [a, b, c, d] = [.string ByteArray.empty, .int .i64 0, .slice none 0 0, .int .i64 0]) ∧ (∀ nd ∈ L, nd.id = x → [a, b, c, d] = [.string nd.f, .int .i64 nd.i, nd.sv, .int .i64 nd.pins])) : RingF w e L ah nx := by
  refine ⟨?_, fun nd hnd => ?_, hl, hn⟩
  · obtain ⟨a, b, c, d, h1, h2, _⟩ := h e (by simp)
    have := h2 rfl
    simp only [List.cons.injEq, and_true] at this
    obtain ⟨rfl, rfl, rfl, rfl⟩ := this
    exact h1
  · obtain ⟨a, b, c, d, h1, _, h2⟩ := h nd.id (by simp [ids]; exact .inr ⟨nd, hnd, rfl⟩)
    have := h2 nd hnd rfl
    simp only [List.cons.injEq, and_true] at this
    obtain ⟨rfl, rfl, rfl, rfl⟩ := this
    exact h1
end Go.Proofs.Ytbbccdcjhoecpaa
