/-
  Part E: what is owned, and what stays.
-/
import Derived.Test.YtkieecaaijlokaaFwD
namespace Go.Fw
open Go Go.RowKit
set_option linter.unusedVariables false
set_option linter.unusedSimpArgs false

/-- From w0 on to w: of what lay there nothing has turned but in S; the blocks of L hold this, each may be written, none stands twice. -/
structure St (S : Nat → Prop) (w0 : World) (L : List (Nat × Obj)) (w : World) : Prop where
  size : w0.heap.size ≤ w.heap.size
  old : ∀ b, b < w0.heap.size → ¬ S b → w.heap[b]? = w0.heap[b]?
  nd : (L.map (·.1)).Nodup
  own : ∀ x ∈ L, w.heap[x.1]? = some x.2 ∧ (S x.1 ∨ w0.heap.size ≤ x.1)
  os : w.os = w0.os
  tape : w.tape = w0.tape
  output : w.output = w0.output

abbrev Frm (S : Nat → Prop) (w0 w : World) : Prop := St S w0 [] w
def None' : Nat → Prop := fun _ => False
abbrev New (w0 w : World) : Prop := Frm None' w0 w

section
variable {S : Nat → Prop} {w0 w w1 : World} {L : List (Nat × Obj)}

theorem Frm.refl (S : Nat → Prop) (w : World) : Frm S w w := ⟨Nat.le_refl _, fun _ _ _ => rfl, by simp, by simp, rfl, rfl, rfl⟩
theorem St.frm (h : St S w0 L w) : Frm S w0 w := ⟨h.size, h.old, by simp, by simp, h.os, h.tape, h.output⟩
theorem St.at_ (h : St S w0 L w) (k : Nat) {b : Nat} {o : Obj} (hk : L[k]? = some (b, o)) : w.heap[b]? = some o := (h.own (b, o) (List.mem_of_getElem? hk)).1
theorem St.get (h : St S w0 L w) {b : Nat} {o : Obj} (hk : (b, o) ∈ L) : w.heap[b]? = some o := (h.own (b, o) hk).1
theorem St.lt (h : St S w0 L w) {b : Nat} {o : Obj} (hk : (b, o) ∈ L) : b < w.heap.size := (Array.getElem?_eq_some_iff.1 (h.get hk)).1
theorem St.sub {L' : List (Nat × Obj)} (h : St S w0 L w) (hs : L'.Sublist L) : St S w0 L' w := ⟨h.size, h.old, (hs.map _).nodup h.nd, fun x hx => h.own x (hs.subset hx), h.os, h.tape, h.output⟩
theorem St.perm {L' : List (Nat × Obj)} (h : St S w0 L w) (hs : L.Perm L') : St S w0 L' w := ⟨h.size, h.old, (hs.map _).nodup_iff.1 h.nd, fun x hx => h.own x (hs.symm.subset hx), h.os, h.tape, h.output⟩

theorem St.drew (h : St S w0 L w) (hw : w1 = w.drew) : St S w0 L w1 := by subst hw; exact ⟨h.size, h.old, h.nd, h.own, h.os, h.tape, h.output⟩

theorem heap_alloc (w : World) (o : Obj) (b : Nat) : (w.alloc o).heap[b]? = if b = w.heap.size then some o else w.heap[b]? := by
  show (w.heap.push o)[b]? = _
  rw [Array.getElem?_push]

theorem heap_putObj (w : World) (b k : Nat) (o : Obj) : (w.putObj b o).heap[k]? = if k = b ∧ b < w.heap.size then some o else w.heap[k]? := by
  simp only [World.putObj, Array.getElem?_setIfInBounds]
  by_cases h : b = k
  · subst h
    by_cases h2 : b < w.heap.size
    · simp [h2]
    · simp [h2]
  · rw [if_neg h, if_neg (fun e => h e.1.symm)]

theorem St.alloc (h : St S w0 L w) {o : Obj} {b : Nat} (hb : b = w.heap.size) (hw : w1 = w.alloc o) : St S w0 (L ++ [(b, o)]) w1 := by
  subst hw hb
  refine ⟨by simp; have := h.size; omega, fun b hb hS => ?_, ?_, fun x hx => ?_, h.os, h.tape, h.output⟩
  · rw [heap_alloc, if_neg (by have := h.size; omega)]; exact h.old b hb hS
  · rw [List.map_append, List.nodup_append]
    refine ⟨h.nd, by simp, ?_⟩
    intro a ha c hc
    simp at hc
    subst hc
    obtain ⟨x, hx, rfl⟩ := List.mem_map.1 ha
    have := (Array.getElem?_eq_some_iff.1 (h.own x hx).1).1
    omega
  · rcases List.mem_append.1 hx with hx | hx
    · obtain ⟨h1, h2⟩ := h.own x hx
      have := (Array.getElem?_eq_some_iff.1 h1).1
      exact ⟨by rw [heap_alloc, if_neg (by omega)]; exact h1, h2⟩
    · simp at hx
      subst hx
      exact ⟨by rw [heap_alloc, if_pos rfl], .inr h.size⟩

theorem nodup_at : ∀ {L : List (Nat × Obj)} {i j : Nat} {b : Nat} {o o' : Obj}, (L.map (·.1)).Nodup → L[i]? = some (b, o) → L[j]? = some (b, o') → i = j := by
  intro L i j b o o' hnd hi hj
  have h1 : (L.map (·.1))[i]? = some b := by simp [hi]
  have h2 : (L.map (·.1))[j]? = some b := by simp [hj]
  have hlt : i < (L.map (·.1)).length := (List.getElem?_eq_some_iff.1 h1).1
  have hlt2 : j < (L.map (·.1)).length := (List.getElem?_eq_some_iff.1 h2).1
  rw [List.getElem?_eq_getElem hlt] at h1
  rw [List.getElem?_eq_getElem hlt2] at h2
  exact (List.getElem_inj hnd).1 (by rw [Option.some.inj h1, Option.some.inj h2])

theorem St.put (h : St S w0 L w) (k : Nat) {b : Nat} {o0 o : Obj} (hk : L[k]? = some (b, o0)) (hw : w1 = w.putObj b o) : St S w0 (L.set k (b, o)) w1 := by
  subst hw
  have hmem := List.mem_of_getElem? hk
  obtain ⟨hb, hS⟩ := h.own (b, o0) hmem
  have hlt : b < w.heap.size := (Array.getElem?_eq_some_iff.1 hb).1
  have hkl : k < L.length := (List.getElem?_eq_some_iff.1 hk).1
  have hmap : (L.set k (b, o)).map (·.1) = L.map (·.1) := by
    apply List.ext_getElem?
    intro j
    rw [List.getElem?_map, List.getElem?_map, List.getElem?_set]
    split
    · rename_i e; subst e; rw [hk]; rfl
    · rfl
  refine ⟨by simpa using h.size, fun c hc hcS => ?_, by rw [hmap]; exact h.nd, fun x hx => ?_, h.os, h.tape, h.output⟩
  · rw [heap_putObj, if_neg ?_]
    · exact h.old c hc hcS
    · rintro ⟨rfl, _⟩
      simp only at hS
      rcases hS with hS | hS
      · exact hcS hS
      · omega
  · obtain ⟨j, hj⟩ := List.getElem?_of_mem hx
    rw [List.getElem?_set] at hj
    split at hj
    · rename_i e; subst e
      cases hj
      exact ⟨by rw [heap_putObj, if_pos ⟨rfl, hlt⟩], hS⟩
    · rename_i e
      obtain ⟨h1, h2⟩ := h.own x (List.mem_of_getElem? hj)
      refine ⟨?_, h2⟩
      rw [heap_putObj, if_neg ?_]
      · exact h1
      · rintro ⟨e2, _⟩
        apply e
        obtain ⟨xb, xo⟩ := x
        simp only at e2
        subst e2
        exact nodup_at h.nd hk hj

/-- Behind a call that turns S' alone. -/
theorem St.call {S' : Nat → Prop} (h : St S w0 L w) (hc : Frm S' w w1) (hL : ∀ x ∈ L, ¬ S' x.1) (hS : ∀ b, S' b → b < w.heap.size → S b ∨ w0.heap.size ≤ b) : St S w0 L w1 := by
  refine ⟨Nat.le_trans h.size hc.size, fun b hb hbS => ?_, h.nd, fun x hx => ?_, hc.os.trans h.os, hc.tape.trans h.tape, hc.output.trans h.output⟩
  · have hlt : b < w.heap.size := Nat.lt_of_lt_of_le hb h.size
    rw [hc.old b hlt ?_]
    · exact h.old b hb hbS
    · intro hs
      rcases hS b hs hlt with h1 | h1
      · exact hbS h1
      · omega
  · obtain ⟨h1, h2⟩ := h.own x hx
    have hlt := (Array.getElem?_eq_some_iff.1 h1).1
    exact ⟨by rw [hc.old x.1 hlt (hL x hx)]; exact h1, h2⟩

theorem St.new (h : St S w0 L w) (hc : New w w1) : St S w0 L w1 := h.call hc (fun _ _ h => h) (fun _ h => h.elim)

/-- Two ways, one behind the other. -/
theorem Frm.trans {S' : Nat → Prop} (h : Frm S w0 w) (hc : Frm S' w w1) (hS : ∀ b, S' b → b < w.heap.size → S b ∨ w0.heap.size ≤ b) : Frm S w0 w1 := St.call h hc (by simp) hS

theorem St.range {r : Loop} (h : St S w0 L w) (hw : w1 = (w.alloc (.deferred (some []))).alloc (.loop r)) : St S w0 (L ++ [(w.heap.size, .deferred (some [])), (w.heap.size + 1, .loop r)]) w1 := by
  have h1 := (h.alloc (b := w.heap.size) rfl rfl).alloc (b := w.heap.size + 1) (by simp) hw
  simpa using h1

theorem Frm.drw {S : Nat → Prop} (hw : w1 = w.drew) : Frm S w w1 := (Frm.refl S w).drew hw
theorem Frm.alc {S : Nat → Prop} {o : Obj} (hw : w1 = w.alloc o) : Frm S w w1 := ((Frm.refl S w).alloc rfl hw).frm
theorem Frm.put {S : Nat → Prop} {b : Nat} {o : Obj} (hS : S b) (hw : w1 = w.putObj b o) : Frm S w w1 := by
  subst hw
  refine ⟨by simp, fun c _ hc => ?_, by simp, by simp, rfl, rfl, rfl⟩
  rw [heap_putObj, if_neg]
  rintro ⟨rfl, _⟩
  exact hc hS
theorem Frm.trans' {S : Nat → Prop} (h : Frm S w0 w) (hc : Frm S w w1) : Frm S w0 w1 := h.trans hc fun _ hb _ => .inl hb

/-- Blocks that are told by another, taken in. -/
theorem St.join {L' : List (Nat × Obj)} (h : St S w0 L w) (h' : St S w0 L' w) (hd : ∀ x ∈ L, ∀ y ∈ L', x.1 ≠ y.1) : St S w0 (L ++ L') w := by
  refine ⟨h.size, h.old, ?_, fun x hx => ?_, h.os, h.tape, h.output⟩
  · rw [List.map_append, List.nodup_append]
    refine ⟨h.nd, h'.nd, ?_⟩
    intro a ha c hc
    obtain ⟨x, hx, rfl⟩ := List.mem_map.1 ha
    obtain ⟨y, hy, rfl⟩ := List.mem_map.1 hc
    exact hd x hx y hy
  · rcases List.mem_append.1 hx with hx | hx
    · exact h.own x hx
    · exact h'.own x hx
/-- New blocks that a callee tells of. -/
theorem St.grow {L' : List (Nat × Obj)} (h : St S w0 L w) (hc : St None' w L' w1) : St S w0 (L ++ L') w1 := by
  have h1 := h.new hc.frm
  refine h1.join ⟨h1.size, h1.old, hc.nd, fun x hx => ?_, h1.os, h1.tape, h1.output⟩ (fun x hx y hy => ?_)
  · obtain ⟨g1, g2⟩ := hc.own x hx
    exact ⟨g1, .inr (Nat.le_trans h.size (g2.resolve_left id))⟩
  · obtain ⟨g1, _⟩ := h.own x hx
    have g2 := (hc.own y hy).2.resolve_left id
    have := (Array.getElem?_eq_some_iff.1 g1).1
    omega

end

theorem hp_drew {w w1 : World} (hw : w1 = w.drew) (b : Nat) : w1.heap[b]? = w.heap[b]? := by subst hw; rfl
theorem hp_put {w w1 : World} {b k : Nat} {o : Obj} (hw : w1 = w.putObj b o) (h : k ≠ b) : w1.heap[k]? = w.heap[k]? := by rw [hw]; exact World.putObj_heap_other h
theorem hp_putS {w w1 : World} {b : Nat} {o o0 : Obj} (hw : w1 = w.putObj b o) (h : w.heap[b]? = some o0) : w1.heap[b]? = some o := by
  rw [hw]; exact World.putObj_heap_same (Array.getElem?_eq_some_iff.1 h).1
theorem hp_al {w w1 : World} {k : Nat} {o o0 : Obj} (hw : w1 = w.alloc o) (h : w.heap[k]? = some o0) : w1.heap[k]? = some o0 := by
  rw [hw, heap_alloc, if_neg (by have := (Array.getElem?_eq_some_iff.1 h).1; omega)]; exact h

/-- A call of yield. -/
theorem x_yld {P : Program} {n : Nat} {ops : Array Oper} {B : Array Nat} {dr : Bool} {K : KT} {s : List (Nat × Bool)} {F : Env} {ds : List Deferred} {T : List (Nat × (World → Prop))} {w : World} {i : Nat}
    {d : Option Tmp} {ty : TypeId} {ps : String} {af : Array Edge} {g : Option (Nat × Bool)} {x : Operand} {args : Array Operand} {at0 : Array TypeId} {l : Nat} {vs : List Value} {R : Value → World → Prop}
    (ho : ops[i]? = some ⟨d, .call ⟨.value x, args, at0⟩, ty, ps, af, g⟩) (hg : guardV ops F g = some true) (hd : dstOK n d = true)
    (hx : ev? F x = some (.func (.yield l) #[] #[])) (hargs : evs? F args.toList = some vs) (hc : Yld P l vs w R)
    (h : ∀ v w', R v w' → pend B i T w' ∧ Ex P n ops B dr K s (putE F d v) ds T w') : Ex P n ops B dr K ((i, true) :: s) F ds T w :=
  let ⟨_, hl, hn, hc⟩ := hc
  x_yield ho hg hd hx hargs hl hn hc h
end Go.Fw
