/-
  Texts that belong together, laid into one file: FwS, T17, V29, T18, T19, V33, R16.
-/
import Derived.Test.YtccfmfehfhfhhaaQ5
namespace Go.Fw
open Go Go.ChangeShapes Go.WideShapes Go.ChangeAt Go.RowKit
set_option linter.unusedVariables false
set_option linter.unusedSimpArgs false
section
variable {H : Type} {enc : TypeId × Value → H} {P : Program} {W : World} {sp : Nat → Bool}

theorem rd_bytes {t e : TypeId} (ht : P.underlying t = some (.slice e)) (he : P.underlying e = some (.int .u8)) (hc : P.cellsOf e = 1) :
    Rd enc P W sp t (fun a : Value × List UInt8 => [a.1]) (fun a d => BytesAt W a.1 a.2 ∧ a.2.length ≤ maxLen ∧ ((d = .nil ∧ a.2 = []) ∨ ∃ ds rest, d = .slice ds rest ∧ ds.length = a.2.length)) := fun fuel cs x h => by
  obtain ⟨⟨v, A⟩, rfl, h1, h2, h3, h4⟩ := rd_slice ht hc (by decide) (rd_int he) fuel cs x h
  refine ⟨(v, A.map fun z => UInt8.ofNat z.toNat), rfl, ?_, by simpa using h2, by
    rcases h4 with ⟨h4, h5⟩ | ⟨ds, rest, h4, h5, _⟩
    · exact .inl ⟨h4, by simp only at h5 ⊢; rw [h5]; rfl⟩
    · exact .inr ⟨ds, rest, h4, by simpa using h5⟩⟩
  have hv : ∀ l : List Int, (∀ z ∈ l, (Lit.int .u8 z).wf = true) → l.flatMap (fun z : Int => [Value.int .u8 z]) = byteCs (l.map fun z => UInt8.ofNat z.toNat) := by
    intro l hl
    induction l with
    | nil => rfl
    | cons z l ih =>
      have hb := bounds_u8 (hl z (by simp))
      rw [List.flatMap_cons, ih fun y hy => hl y (by simp [hy])]
      simp only [byteCs, List.map_cons, byteV, UInt8.toNat_ofNat', List.singleton_append, List.cons.injEq, and_true]
      congr 1
      have : z.toNat % 2 ^ 8 = z.toNat := Nat.mod_eq_of_lt (by omega)
      rw [this]; omega
  have := hv A (fun z hz => by obtain ⟨_, d', hd, _⟩ := h3 z hz; exact hd)
  simp only at h1 this ⊢
  rw [this] at h1
  unfold BytesAt
  rw [List.length_map]
  exact h1
theorem rd_struct2 {t : TypeId} {f0 f1 : Field} {α0 α1 : Type} {c0 : α0 → Value} {c1 : α1 → Value} {R0 : α0 → DataW H → Prop} {R1 : α1 → DataW H → Prop} (ht : P.underlying t = some (.struct #[f0, f1])) (hc : P.cellsOf t = 2)
    (h0 : f0.offset = 0 ∧ P.cellsOf f0.type = 1) (h1 : f1.offset = 1 ∧ P.cellsOf f1.type = 1) (r0 : Rd enc P W sp f0.type (fun a => [c0 a]) R0) (r1 : Rd enc P W sp f1.type (fun a => [c1 a]) R1) :
    Rd enc P W sp t (fun a : α0 × α1 => [c0 (a.1), c1 (a.2)]) (fun a d => ∃ d0 d1, d = .agg [d0, d1] ∧ R0 (a.1) d0 ∧ R1 (a.2) d1) := fun fuel cs x h => by
  obtain ⟨xs, n, _, rfl, hl, hlen, hf⟩ := DataW.trod_struct ht h
  rw [hc] at hl
  match xs, hlen, cs, hl with
  | [y0, y1], _, [u0, u1], _ =>
    have g0 := hf 0 f0 rfl
    rw [h0.1, h0.2] at g0
    obtain ⟨a0, e0, q0⟩ := r0 n [u0] y0 g0
    have g1 := hf 1 f1 rfl
    rw [h1.1, h1.2] at g1
    obtain ⟨a1, e1, q1⟩ := r1 n [u1] y1 g1
    simp only [List.cons.injEq, and_true] at e0 e1
    subst e0 e1
    exact ⟨(a0, a1), rfl, y0.1, y1.1, rfl, q0, q1⟩
theorem rd_struct3 {t : TypeId} {f0 f1 f2 : Field} {α0 α1 α2 : Type} {c0 : α0 → Value} {c1 : α1 → Value} {c2 : α2 → Value} {R0 : α0 → DataW H → Prop} {R1 : α1 → DataW H → Prop} {R2 : α2 → DataW H → Prop} (ht : P.underlying t = some (.struct #[f0, f1, f2])) (hc : P.cellsOf t = 3)
    (h0 : f0.offset = 0 ∧ P.cellsOf f0.type = 1) (h1 : f1.offset = 1 ∧ P.cellsOf f1.type = 1) (h2 : f2.offset = 2 ∧ P.cellsOf f2.type = 1) (r0 : Rd enc P W sp f0.type (fun a => [c0 a]) R0) (r1 : Rd enc P W sp f1.type (fun a => [c1 a]) R1) (r2 : Rd enc P W sp f2.type (fun a => [c2 a]) R2) :
    Rd enc P W sp t (fun a : α0 × α1 × α2 => [c0 (a.1), c1 (a.2.1), c2 (a.2.2)]) (fun a d => ∃ d0 d1 d2, d = .agg [d0, d1, d2] ∧ R0 (a.1) d0 ∧ R1 (a.2.1) d1 ∧ R2 (a.2.2) d2) := fun fuel cs x h => by
  obtain ⟨xs, n, _, rfl, hl, hlen, hf⟩ := DataW.trod_struct ht h
  rw [hc] at hl
  match xs, hlen, cs, hl with
  | [y0, y1, y2], _, [u0, u1, u2], _ =>
    have g0 := hf 0 f0 rfl
    rw [h0.1, h0.2] at g0
    obtain ⟨a0, e0, q0⟩ := r0 n [u0] y0 g0
    have g1 := hf 1 f1 rfl
    rw [h1.1, h1.2] at g1
    obtain ⟨a1, e1, q1⟩ := r1 n [u1] y1 g1
    have g2 := hf 2 f2 rfl
    rw [h2.1, h2.2] at g2
    obtain ⟨a2, e2, q2⟩ := r2 n [u2] y2 g2
    simp only [List.cons.injEq, and_true] at e0 e1 e2
    subst e0 e1 e2
    exact ⟨(a0, a1, a2), rfl, y0.1, y1.1, y2.1, rfl, q0, q1, q2⟩
theorem rd_struct4 {t : TypeId} {f0 f1 f2 f3 : Field} {α0 α1 α2 α3 : Type} {c0 : α0 → Value} {c1 : α1 → Value} {c2 : α2 → Value} {c3 : α3 → Value} {R0 : α0 → DataW H → Prop} {R1 : α1 → DataW H → Prop} {R2 : α2 → DataW H → Prop} {R3 : α3 → DataW H → Prop} (ht : P.underlying t = some (.struct #[f0, f1, f2, f3])) (hc : P.cellsOf t = 4)
    (h0 : f0.offset = 0 ∧ P.cellsOf f0.type = 1) (h1 : f1.offset = 1 ∧ P.cellsOf f1.type = 1) (h2 : f2.offset = 2 ∧ P.cellsOf f2.type = 1) (h3 : f3.offset = 3 ∧ P.cellsOf f3.type = 1) (r0 : Rd enc P W sp f0.type (fun a => [c0 a]) R0) (r1 : Rd enc P W sp f1.type (fun a => [c1 a]) R1) (r2 : Rd enc P W sp f2.type (fun a => [c2 a]) R2) (r3 : Rd enc P W sp f3.type (fun a => [c3 a]) R3) :
    Rd enc P W sp t (fun a : α0 × α1 × α2 × α3 => [c0 (a.1), c1 (a.2.1), c2 (a.2.2.1), c3 (a.2.2.2)]) (fun a d => ∃ d0 d1 d2 d3, d = .agg [d0, d1, d2, d3] ∧ R0 (a.1) d0 ∧ R1 (a.2.1) d1 ∧ R2 (a.2.2.1) d2 ∧ R3 (a.2.2.2) d3) := fun fuel cs x h => by
  obtain ⟨xs, n, _, rfl, hl, hlen, hf⟩ := DataW.trod_struct ht h
  rw [hc] at hl
  match xs, hlen, cs, hl with
  | [y0, y1, y2, y3], _, [u0, u1, u2, u3], _ =>
    have g0 := hf 0 f0 rfl
    rw [h0.1, h0.2] at g0
    obtain ⟨a0, e0, q0⟩ := r0 n [u0] y0 g0
    have g1 := hf 1 f1 rfl
    rw [h1.1, h1.2] at g1
    obtain ⟨a1, e1, q1⟩ := r1 n [u1] y1 g1
    have g2 := hf 2 f2 rfl
    rw [h2.1, h2.2] at g2
    obtain ⟨a2, e2, q2⟩ := r2 n [u2] y2 g2
    have g3 := hf 3 f3 rfl
    rw [h3.1, h3.2] at g3
    obtain ⟨a3, e3, q3⟩ := r3 n [u3] y3 g3
    simp only [List.cons.injEq, and_true] at e0 e1 e2 e3
    subst e0 e1 e2 e3
    exact ⟨(a0, a1, a2, a3), rfl, y0.1, y1.1, y2.1, y3.1, rfl, q0, q1, q2, q3⟩
theorem rd_struct5 {t : TypeId} {f0 f1 f2 f3 f4 : Field} {α0 α1 α2 α3 α4 : Type} {c0 : α0 → Value} {c1 : α1 → Value} {c2 : α2 → Value} {c3 : α3 → Value} {c4 : α4 → Value} {R0 : α0 → DataW H → Prop} {R1 : α1 → DataW H → Prop} {R2 : α2 → DataW H → Prop} {R3 : α3 → DataW H → Prop} {R4 : α4 → DataW H → Prop} (ht : P.underlying t = some (.struct #[f0, f1, f2, f3, f4])) (hc : P.cellsOf t = 5)
    (h0 : f0.offset = 0 ∧ P.cellsOf f0.type = 1) (h1 : f1.offset = 1 ∧ P.cellsOf f1.type = 1) (h2 : f2.offset = 2 ∧ P.cellsOf f2.type = 1) (h3 : f3.offset = 3 ∧ P.cellsOf f3.type = 1) (h4 : f4.offset = 4 ∧ P.cellsOf f4.type = 1) (r0 : Rd enc P W sp f0.type (fun a => [c0 a]) R0) (r1 : Rd enc P W sp f1.type (fun a => [c1 a]) R1) (r2 : Rd enc P W sp f2.type (fun a => [c2 a]) R2) (r3 : Rd enc P W sp f3.type (fun a => [c3 a]) R3) (r4 : Rd enc P W sp f4.type (fun a => [c4 a]) R4) :
    Rd enc P W sp t (fun a : α0 × α1 × α2 × α3 × α4 => [c0 (a.1), c1 (a.2.1), c2 (a.2.2.1), c3 (a.2.2.2.1), c4 (a.2.2.2.2)]) (fun a d => ∃ d0 d1 d2 d3 d4, d = .agg [d0, d1, d2, d3, d4] ∧ R0 (a.1) d0 ∧ R1 (a.2.1) d1 ∧ R2 (a.2.2.1) d2 ∧ R3 (a.2.2.2.1) d3 ∧ R4 (a.2.2.2.2) d4) := fun fuel cs x h => by
  obtain ⟨xs, n, _, rfl, hl, hlen, hf⟩ := DataW.trod_struct ht h
  rw [hc] at hl
  match xs, hlen, cs, hl with
  | [y0, y1, y2, y3, y4], _, [u0, u1, u2, u3, u4], _ =>
    have g0 := hf 0 f0 rfl
    rw [h0.1, h0.2] at g0
    obtain ⟨a0, e0, q0⟩ := r0 n [u0] y0 g0
    have g1 := hf 1 f1 rfl
    rw [h1.1, h1.2] at g1
    obtain ⟨a1, e1, q1⟩ := r1 n [u1] y1 g1
    have g2 := hf 2 f2 rfl
    rw [h2.1, h2.2] at g2
    obtain ⟨a2, e2, q2⟩ := r2 n [u2] y2 g2
    have g3 := hf 3 f3 rfl
    rw [h3.1, h3.2] at g3
    obtain ⟨a3, e3, q3⟩ := r3 n [u3] y3 g3
    have g4 := hf 4 f4 rfl
    rw [h4.1, h4.2] at g4
    obtain ⟨a4, e4, q4⟩ := r4 n [u4] y4 g4
    simp only [List.cons.injEq, and_true] at e0 e1 e2 e3 e4
    subst e0 e1 e2 e3 e4
    exact ⟨(a0, a1, a2, a3, a4), rfl, y0.1, y1.1, y2.1, y3.1, y4.1, rfl, q0, q1, q2, q3, q4⟩
theorem rd_struct6 {t : TypeId} {f0 f1 f2 f3 f4 f5 : Field} {α0 α1 α2 α3 α4 α5 : Type} {c0 : α0 → Value} {c1 : α1 → Value} {c2 : α2 → Value} {c3 : α3 → Value} {c4 : α4 → Value} {c5 : α5 → Value} {R0 : α0 → DataW H → Prop} {R1 : α1 → DataW H → Prop} {R2 : α2 → DataW H → Prop} {R3 : α3 → DataW H → Prop} {R4 : α4 → DataW H → Prop} {R5 : α5 → DataW H → Prop} (ht : P.underlying t = some (.struct #[f0, f1, f2, f3, f4, f5])) (hc : P.cellsOf t = 6)
    (h0 : f0.offset = 0 ∧ P.cellsOf f0.type = 1) (h1 : f1.offset = 1 ∧ P.cellsOf f1.type = 1) (h2 : f2.offset = 2 ∧ P.cellsOf f2.type = 1) (h3 : f3.offset = 3 ∧ P.cellsOf f3.type = 1) (h4 : f4.offset = 4 ∧ P.cellsOf f4.type = 1) (h5 : f5.offset = 5 ∧ P.cellsOf f5.type = 1) (r0 : Rd enc P W sp f0.type (fun a => [c0 a]) R0) (r1 : Rd enc P W sp f1.type (fun a => [c1 a]) R1) (r2 : Rd enc P W sp f2.type (fun a => [c2 a]) R2) (r3 : Rd enc P W sp f3.type (fun a => [c3 a]) R3) (r4 : Rd enc P W sp f4.type (fun a => [c4 a]) R4) (r5 : Rd enc P W sp f5.type (fun a => [c5 a]) R5) :
    Rd enc P W sp t (fun a : α0 × α1 × α2 × α3 × α4 × α5 => [c0 (a.1), c1 (a.2.1), c2 (a.2.2.1), c3 (a.2.2.2.1), c4 (a.2.2.2.2.1), c5 (a.2.2.2.2.2)]) (fun a d => ∃ d0 d1 d2 d3 d4 d5, d = .agg [d0, d1, d2, d3, d4, d5] ∧ R0 (a.1) d0 ∧ R1 (a.2.1) d1 ∧ R2 (a.2.2.1) d2 ∧ R3 (a.2.2.2.1) d3 ∧ R4 (a.2.2.2.2.1) d4 ∧ R5 (a.2.2.2.2.2) d5) := fun fuel cs x h => by
  obtain ⟨xs, n, _, rfl, hl, hlen, hf⟩ := DataW.trod_struct ht h
  rw [hc] at hl
  match xs, hlen, cs, hl with
  | [y0, y1, y2, y3, y4, y5], _, [u0, u1, u2, u3, u4, u5], _ =>
    have g0 := hf 0 f0 rfl
    rw [h0.1, h0.2] at g0
    obtain ⟨a0, e0, q0⟩ := r0 n [u0] y0 g0
    have g1 := hf 1 f1 rfl
    rw [h1.1, h1.2] at g1
    obtain ⟨a1, e1, q1⟩ := r1 n [u1] y1 g1
    have g2 := hf 2 f2 rfl
    rw [h2.1, h2.2] at g2
    obtain ⟨a2, e2, q2⟩ := r2 n [u2] y2 g2
    have g3 := hf 3 f3 rfl
    rw [h3.1, h3.2] at g3
    obtain ⟨a3, e3, q3⟩ := r3 n [u3] y3 g3
    have g4 := hf 4 f4 rfl
    rw [h4.1, h4.2] at g4
    obtain ⟨a4, e4, q4⟩ := r4 n [u4] y4 g4
    have g5 := hf 5 f5 rfl
    rw [h5.1, h5.2] at g5
    obtain ⟨a5, e5, q5⟩ := r5 n [u5] y5 g5
    simp only [List.cons.injEq, and_true] at e0 e1 e2 e3 e4 e5
    subst e0 e1 e2 e3 e4 e5
    exact ⟨(a0, a1, a2, a3, a4, a5), rfl, y0.1, y1.1, y2.1, y3.1, y4.1, y5.1, rfl, q0, q1, q2, q3, q4, q5⟩
theorem rd_struct7 {t : TypeId} {f0 f1 f2 f3 f4 f5 f6 : Field} {α0 α1 α2 α3 α4 α5 α6 : Type} {c0 : α0 → Value} {c1 : α1 → Value} {c2 : α2 → Value} {c3 : α3 → Value} {c4 : α4 → Value} {c5 : α5 → Value} {c6 : α6 → Value} {R0 : α0 → DataW H → Prop} {R1 : α1 → DataW H → Prop} {R2 : α2 → DataW H → Prop} {R3 : α3 → DataW H → Prop} {R4 : α4 → DataW H → Prop} {R5 : α5 → DataW H → Prop} {R6 : α6 → DataW H → Prop} (ht : P.underlying t = some (.struct #[f0, f1, f2, f3, f4, f5, f6])) (hc : P.cellsOf t = 7)
    (h0 : f0.offset = 0 ∧ P.cellsOf f0.type = 1) (h1 : f1.offset = 1 ∧ P.cellsOf f1.type = 1) (h2 : f2.offset = 2 ∧ P.cellsOf f2.type = 1) (h3 : f3.offset = 3 ∧ P.cellsOf f3.type = 1) (h4 : f4.offset = 4 ∧ P.cellsOf f4.type = 1) (h5 : f5.offset = 5 ∧ P.cellsOf f5.type = 1) (h6 : f6.offset = 6 ∧ P.cellsOf f6.type = 1) (r0 : Rd enc P W sp f0.type (fun a => [c0 a]) R0) (r1 : Rd enc P W sp f1.type (fun a => [c1 a]) R1) (r2 : Rd enc P W sp f2.type (fun a => [c2 a]) R2) (r3 : Rd enc P W sp f3.type (fun a => [c3 a]) R3) (r4 : Rd enc P W sp f4.type (fun a => [c4 a]) R4) (r5 : Rd enc P W sp f5.type (fun a => [c5 a]) R5) (r6 : Rd enc P W sp f6.type (fun a => [c6 a]) R6) :
    Rd enc P W sp t (fun a : α0 × α1 × α2 × α3 × α4 × α5 × α6 => [c0 (a.1), c1 (a.2.1), c2 (a.2.2.1), c3 (a.2.2.2.1), c4 (a.2.2.2.2.1), c5 (a.2.2.2.2.2.1), c6 (a.2.2.2.2.2.2)]) (fun a d => ∃ d0 d1 d2 d3 d4 d5 d6, d = .agg [d0, d1, d2, d3, d4, d5, d6] ∧ R0 (a.1) d0 ∧ R1 (a.2.1) d1 ∧ R2 (a.2.2.1) d2 ∧ R3 (a.2.2.2.1) d3 ∧ R4 (a.2.2.2.2.1) d4 ∧ R5 (a.2.2.2.2.2.1) d5 ∧ R6 (a.2.2.2.2.2.2) d6) := fun fuel cs x h => by
  obtain ⟨xs, n, _, rfl, hl, hlen, hf⟩ := DataW.trod_struct ht h
  rw [hc] at hl
  match xs, hlen, cs, hl with
  | [y0, y1, y2, y3, y4, y5, y6], _, [u0, u1, u2, u3, u4, u5, u6], _ =>
    have g0 := hf 0 f0 rfl
    rw [h0.1, h0.2] at g0
    obtain ⟨a0, e0, q0⟩ := r0 n [u0] y0 g0
    have g1 := hf 1 f1 rfl
    rw [h1.1, h1.2] at g1
    obtain ⟨a1, e1, q1⟩ := r1 n [u1] y1 g1
    have g2 := hf 2 f2 rfl
    rw [h2.1, h2.2] at g2
    obtain ⟨a2, e2, q2⟩ := r2 n [u2] y2 g2
    have g3 := hf 3 f3 rfl
    rw [h3.1, h3.2] at g3
    obtain ⟨a3, e3, q3⟩ := r3 n [u3] y3 g3
    have g4 := hf 4 f4 rfl
    rw [h4.1, h4.2] at g4
    obtain ⟨a4, e4, q4⟩ := r4 n [u4] y4 g4
    have g5 := hf 5 f5 rfl
    rw [h5.1, h5.2] at g5
    obtain ⟨a5, e5, q5⟩ := r5 n [u5] y5 g5
    have g6 := hf 6 f6 rfl
    rw [h6.1, h6.2] at g6
    obtain ⟨a6, e6, q6⟩ := r6 n [u6] y6 g6
    simp only [List.cons.injEq, and_true] at e0 e1 e2 e3 e4 e5 e6
    subst e0 e1 e2 e3 e4 e5 e6
    exact ⟨(a0, a1, a2, a3, a4, a5, a6), rfl, y0.1, y1.1, y2.1, y3.1, y4.1, y5.1, y6.1, rfl, q0, q1, q2, q3, q4, q5, q6⟩
theorem rd_struct8 {t : TypeId} {f0 f1 f2 f3 f4 f5 f6 f7 : Field} {α0 α1 α2 α3 α4 α5 α6 α7 : Type} {c0 : α0 → Value} {c1 : α1 → Value} {c2 : α2 → Value} {c3 : α3 → Value} {c4 : α4 → Value} {c5 : α5 → Value} {c6 : α6 → Value} {c7 : α7 → Value} {R0 : α0 → DataW H → Prop} {R1 : α1 → DataW H → Prop} {R2 : α2 → DataW H → Prop} {R3 : α3 → DataW H → Prop} {R4 : α4 → DataW H → Prop} {R5 : α5 → DataW H → Prop} {R6 : α6 → DataW H → Prop} {R7 : α7 → DataW H → Prop} (ht : P.underlying t = some (.struct #[f0, f1, f2, f3, f4, f5, f6, f7])) (hc : P.cellsOf t = 8)
    (h0 : f0.offset = 0 ∧ P.cellsOf f0.type = 1) (h1 : f1.offset = 1 ∧ P.cellsOf f1.type = 1) (h2 : f2.offset = 2 ∧ P.cellsOf f2.type = 1) (h3 : f3.offset = 3 ∧ P.cellsOf f3.type = 1) (h4 : f4.offset = 4 ∧ P.cellsOf f4.type = 1) (h5 : f5.offset = 5 ∧ P.cellsOf f5.type = 1) (h6 : f6.offset = 6 ∧ P.cellsOf f6.type = 1) (h7 : f7.offset = 7 ∧ P.cellsOf f7.type = 1) (r0 : Rd enc P W sp f0.type (fun a => [c0 a]) R0) (r1 : Rd enc P W sp f1.type (fun a => [c1 a]) R1) (r2 : Rd enc P W sp f2.type (fun a => [c2 a]) R2) (r3 : Rd enc P W sp f3.type (fun a => [c3 a]) R3) (r4 : Rd enc P W sp f4.type (fun a => [c4 a]) R4) (r5 : Rd enc P W sp f5.type (fun a => [c5 a]) R5) (r6 : Rd enc P W sp f6.type (fun a => [c6 a]) R6) (r7 : Rd enc P W sp f7.type (fun a => [c7 a]) R7) :
    Rd enc P W sp t (fun a : α0 × α1 × α2 × α3 × α4 × α5 × α6 × α7 => [c0 (a.1), c1 (a.2.1), c2 (a.2.2.1), c3 (a.2.2.2.1), c4 (a.2.2.2.2.1), c5 (a.2.2.2.2.2.1), c6 (a.2.2.2.2.2.2.1), c7 (a.2.2.2.2.2.2.2)]) (fun a d => ∃ d0 d1 d2 d3 d4 d5 d6 d7, d = .agg [d0, d1, d2, d3, d4, d5, d6, d7] ∧ R0 (a.1) d0 ∧ R1 (a.2.1) d1 ∧ R2 (a.2.2.1) d2 ∧ R3 (a.2.2.2.1) d3 ∧ R4 (a.2.2.2.2.1) d4 ∧ R5 (a.2.2.2.2.2.1) d5 ∧ R6 (a.2.2.2.2.2.2.1) d6 ∧ R7 (a.2.2.2.2.2.2.2) d7) := fun fuel cs x h => by
  obtain ⟨xs, n, _, rfl, hl, hlen, hf⟩ := DataW.trod_struct ht h
  rw [hc] at hl
  match xs, hlen, cs, hl with
  | [y0, y1, y2, y3, y4, y5, y6, y7], _, [u0, u1, u2, u3, u4, u5, u6, u7], _ =>
    have g0 := hf 0 f0 rfl
    rw [h0.1, h0.2] at g0
    obtain ⟨a0, e0, q0⟩ := r0 n [u0] y0 g0
    have g1 := hf 1 f1 rfl
    rw [h1.1, h1.2] at g1
    obtain ⟨a1, e1, q1⟩ := r1 n [u1] y1 g1
    have g2 := hf 2 f2 rfl
    rw [h2.1, h2.2] at g2
    obtain ⟨a2, e2, q2⟩ := r2 n [u2] y2 g2
    have g3 := hf 3 f3 rfl
    rw [h3.1, h3.2] at g3
    obtain ⟨a3, e3, q3⟩ := r3 n [u3] y3 g3
    have g4 := hf 4 f4 rfl
    rw [h4.1, h4.2] at g4
    obtain ⟨a4, e4, q4⟩ := r4 n [u4] y4 g4
    have g5 := hf 5 f5 rfl
    rw [h5.1, h5.2] at g5
    obtain ⟨a5, e5, q5⟩ := r5 n [u5] y5 g5
    have g6 := hf 6 f6 rfl
    rw [h6.1, h6.2] at g6
    obtain ⟨a6, e6, q6⟩ := r6 n [u6] y6 g6
    have g7 := hf 7 f7 rfl
    rw [h7.1, h7.2] at g7
    obtain ⟨a7, e7, q7⟩ := r7 n [u7] y7 g7
    simp only [List.cons.injEq, and_true] at e0 e1 e2 e3 e4 e5 e6 e7
    subst e0 e1 e2 e3 e4 e5 e6 e7
    exact ⟨(a0, a1, a2, a3, a4, a5, a6, a7), rfl, y0.1, y1.1, y2.1, y3.1, y4.1, y5.1, y6.1, y7.1, rfl, q0, q1, q2, q3, q4, q5, q6, q7⟩
end
end Go.Fw

namespace Go.Proofs.Ytccfmfehfhfhhaa
open Go Go.Fw Go.RowKit
set_option linter.unusedVariables false
set_option linter.unusedSimpArgs false

/-- A call: its kind, two paths, bytes. -/
structure Ac where
  k : Int
  p : List UInt8
  q : List UInt8
  b : List UInt8
def aC (a : Ac × Value) : List Value := [.int .i64 a.1.k, strV a.1.p, strV a.1.q, a.2]
/-- A slice that holds these calls. -/
def ActsAt (w : World) (v : Value) (l : List Ac) : Prop := ∃ ac : List (Ac × Value), ac.map (·.1) = l ∧ Sg w v 4 ac.length (ac.flatMap aC) ∧ ∀ f ∈ ac, BytesAt w f.2 f.1.b
def smallA (a : Ac) : Bool := decide (a.b.length ≤ 131072) && (decide (a.p.length ≤ 300) && decide (a.q.length ≤ 300))
def fewL (l : List Ac) : Bool := decide (l.length ≤ 40) && l.all smallA
section
variable {w w1 : World} {p : Option Addr} {v : Value} {l : List Ac} {a : Ac} {b off len cap j : Nat}
theorem ActsAt.new (h : ActsAt w v l) (hn : New w w1) : ActsAt w1 v l := let ⟨ac, h1, h2, h3⟩ := h; ⟨ac, h1, h2.new hn, fun f hf => (h3 f hf).new hn⟩
theorem ActsAt.shape (h : ActsAt w v l) : ∃ p cap, v = .slice p l.length cap := by
  obtain ⟨ac, h1, h2, _⟩ := h
  have : ac.length = l.length := by rw [← h1]; simp
  rw [← this]; exact h2.shape
theorem ActsAt.blk (h : ActsAt w (.slice p len cap) l) (hj : j < l.length) : ∃ b off, p = some ⟨b, off, none⟩ ∧ len = l.length := by
  obtain ⟨ac, h1, h2, _⟩ := h
  have : ac.length = l.length := by rw [← h1]; simp
  rw [← this]; exact h2.blk (j := j) (by omega)
theorem ActsAt.row (h : ActsAt w (.slice (some ⟨b, off, none⟩) len cap) l) (hx : l[j]? = some a) : ∃ p c, RowAt w b (off + j * 4) [.int .i64 a.k, strV a.p, strV a.q, .slice p a.b.length c] ∧ BytesAt w (.slice p a.b.length c) a.b := by
  obtain ⟨ac, h1, h2, h3⟩ := h
  have hj : j < l.length := (List.getElem?_eq_some_iff.1 hx).1
  have hlen : ac.length = l.length := by rw [← h1]; simp
  obtain ⟨f, hf⟩ := get_lt (l := ac) (q := j) (by omega)
  have hfx : f.1 = a := by
    rw [← h1, List.getElem?_map, hf] at hx
    simpa using hx
  subst hfx
  have h4 := h3 f (List.mem_of_getElem? hf)
  obtain ⟨p, c, h5⟩ := h4.shape
  have hsl := h2.sl (by omega)
  obtain ⟨b', off', h6, h7⟩ := h2.blk (j := j) (by omega)
  cases h6; subst h7
  refine ⟨p, c, ?_, h5 ▸ h4⟩
  rw [← h5]
  have hfd : ((ac.flatMap aC).drop (j * 4)).take (aC f).length = aC f := flat_drop (m := 4) (by decide) (fun _ _ => rfl) hf
  exact hsl.row (j := j) (l := aC f) rfl hfd (by simp [aC])
theorem few_no (hx : l[j]? = some a) (h : 40 ≤ j ∨ smallA a = false) : fewL l = false := by
  have hj := (List.getElem?_eq_some_iff.1 hx).1
  unfold fewL
  rcases h with h | h
  · rw [decide_eq_false (by omega)]; rfl
  · have : l.all smallA = false := by
      rw [List.all_eq_false]
      exact ⟨a, List.mem_of_getElem? hx, by simp [h]⟩
    rw [this, Bool.and_false]
theorem few_yes (h : ∀ x ∈ l, smallA x = true) (hl : l.length ≤ 40) : fewL l = true := by
  unfold fewL
  rw [decide_eq_true hl, List.all_eq_true.2 h]; rfl
theorem few_out (h : fewL l = true) : l.length ≤ 40 ∧ ∀ x ∈ l, x.b.length ≤ 131072 ∧ x.p.length ≤ 300 ∧ x.q.length ≤ 300 := by
  unfold fewL at h
  simp only [Bool.and_eq_true, decide_eq_true_eq, List.all_eq_true] at h
  refine ⟨h.1, fun x hx => ?_⟩
  have := h.2 x hx
  unfold smallA at this
  simpa using this
theorem few_small (h : fewL l = true) (hx : l[j]? = some a) : smallA a = true := by
  unfold fewL at h
  simp only [Bool.and_eq_true, decide_eq_true_eq, List.all_eq_true] at h
  exact h.2 a (List.mem_of_getElem? hx)
theorem mem_take_snoc {α : Type} {l : List α} {x : α} {P : α → Prop} (hx : l[j]? = some x) (h : ∀ y ∈ l.take j, P y) (hp : P x) : ∀ y ∈ l.take (j + 1), P y := fun y hy => by
  rw [take_snoc hx] at hy
  rcases List.mem_append.1 hy with hy | hy
  · exact h y hy
  · rw [List.mem_singleton.1 hy]; exact hp

end
section
variable {l : List Raw} {p q b : List UInt8}
theorem mkdirL_bad (h : ¬ (mkdirL l p).2 = 0) : (mkdirL l p).1 = l := by
  unfold mkdirL at h ⊢
  split
  · rename_i h0
    rw [if_pos h0] at h
    split
    · rfl
    · rename_i h1
      rw [if_neg h1] at h
      split
      · rfl
      · rename_i h2; rw [if_neg h2] at h; exact absurd rfl h
  · rfl
theorem putL_bad (h : ¬ (putL l p b).2 = 0) : (putL l p b).1 = l := by
  unfold putL at h ⊢
  split
  · rename_i h0
    rw [if_pos h0] at h
    cases hf : l.find? (fun x => decide (x.1 = p)) with
    | some x =>
      rw [hf] at h
      simp only at h ⊢
      split
      · rfl
      · rename_i h1
        rw [if_neg h1] at h
        split
        · rfl
        · rename_i h2; rw [if_neg h2] at h; exact absurd rfl h
    | none =>
      rw [hf] at h
      simp only at h ⊢
      split
      · rfl
      · rename_i h1
        rw [if_neg h1] at h
        split
        · rfl
        · rename_i h2; rw [if_neg h2] at h; exact absurd rfl h
  · rfl
theorem removeL_bad (h : ¬ (removeL l p).2 = 0) : (removeL l p).1 = l := by
  unfold removeL at h ⊢
  split
  · rename_i h0
    rw [if_pos h0] at h
    split
    · rfl
    · rename_i h1
      rw [if_neg h1] at h
      split
      · rfl
      · rename_i h2; rw [if_neg h2] at h; exact absurd rfl h
  · rfl
theorem renameL_bad (h : ¬ (renameL l p q).2 = 0) : (renameL l p q).1 = l := by
  unfold renameL at h ⊢
  split
  · rename_i h0
    rw [if_pos h0] at h
    split
    · rfl
    · rename_i h1
      rw [if_neg h1] at h
      split
      · rename_i h2
        rw [if_pos h2] at h
        split
        · rfl
        · rename_i h3
          rw [if_neg h3] at h
          split
          · rfl
          · rename_i h4
            rw [if_neg h4] at h
            split
            · rfl
            · rename_i h5
              rw [if_neg h5] at h
              split
              · rfl
              · rename_i h6; rw [if_neg h6] at h; exact absurd rfl h
      · rfl
  · rfl
end

section
variable {E : List Ent} {k : List Raw} {x y : Raw} {i j : Nat}
theorem shape_row (h : TR E k) (hx : x ∈ k) : ∃ N n, parentP x.1 = (joinS N, n, 0) ∧ (findL k (joinS N)).1.2.1 = true ∧ (findL k (joinS N)).2 = 0 ∧ (listL k (joinS N)).2 = 0 ∧ n ∈ (listL k (joinS N)).1 := by
  obtain ⟨h1, h2, h3, h4⟩ := h.row hx
  have hN : (splitN x.1).dropLast ++ [(splitN x.1).getLast h2] = splitN x.1 := List.dropLast_concat_getLast h2
  generalize (splitN x.1).dropLast = N at hN
  generalize (splitN x.1).getLast h2 = n at hN
  have hP := POK_split h1
  rw [← hN] at hP h3
  have hsp := hP.pre.sp
  obtain ⟨e, he, _⟩ := absE_ent h3
  obtain ⟨d, hd, hdd⟩ := h.ti.par N n e he
  obtain ⟨r, hr, _⟩ := h.ti.root
  have hf : findG (absE E) (joinS N) = 0 := by
    rw [findG_ok hsp.1, hsp.2]
    exact (comeE_zero h.ti hr).2 ⟨d, by simpa using hd⟩
  have hl : listG (absE E) (joinS N) = 0 := by
    unfold listG
    rw [if_pos hf, hsp.2, absE_at hd, if_pos (by simpa using hdd)]
  refine ⟨N, n, ?_, ?_, ?_, ?_, ?_⟩
  · rw [← joinS_splitN h1, ← hN]; exact parent_row hP
  · rw [h.rel.findL h.ti.gi]
    simp only [findV, hf, if_true, hsp.2]
    rw [absE_at hd]; exact hdd
  · rw [h.rel.findL h.ti.gi]; exact hf
  · rw [h.rel.list h.ti]; exact hl
  · rw [h.rel.list h.ti, if_pos hl, hsp.2]
    exact (mem_ksE h.ti).2 ⟨e, he⟩
theorem listL_len (k : List Raw) (p : List UInt8) : (listL k p).1.length ≤ k.length := by
  unfold listL
  split
  · split
    · exact namesL_len k p
    · simp
  · simp
theorem TR.lt (h : TR E k) (hy : k[i]? = some y) (hx : k[j]? = some x) (hij : i < j) : compareP y.1 x.1 < 0 := by
  obtain ⟨a1, rfl⟩ := List.getElem?_eq_some_iff.1 hy
  obtain ⟨b1, rfl⟩ := List.getElem?_eq_some_iff.1 hx
  exact List.pairwise_iff_getElem.1 h.rel.srt i j a1 b1 hij
theorem in_take {l : NP} {a b : List UInt8} (hb : l[j]? = some b) : decide (a ∈ l.take (j + 1)) = (decide (a ∈ l.take j) || decide (b = a)) := by
  rw [take_snoc hb, Bool.eq_iff_iff]
  simp only [List.mem_append, List.mem_singleton, decide_eq_true_eq, Bool.or_eq_true]
  exact ⟨fun h => h.imp id Eq.symm, fun h => h.imp id Eq.symm⟩
end
end Go.Proofs.Ytccfmfehfhfhhaa

namespace Go.Proofs.Ytccfmfehfhfhhaa
open Go Go.Fw Go.RowKit Go.Proofs
set_option linter.unusedVariables false
set_option linter.unusedSimpArgs false

set_option maxRecDepth 100000 in
theorem few_c {w0 : World} {v : Value} {l : List Ac} (h : ActsAt w0 v l) (hl : l.length ≤ 9223372036854775807) : Ret Try.prog 16 #[v] w0 fun r w' => r = .bool (fewL l) ∧ New w0 w' := by
  have M : Sep w0 [] w0 := St.nil w0
  obtain ⟨pv, cv, rfl⟩ := h.shape
  refine Ret.of_W Try.func16 rfl Try.ntmps16 rfl ?_
  refine W.seq ?_
  refine W.sub [(0, _)] ⟨rfl, trivial⟩ ?_
  refine W.reg [(0, false)] (by kernel_rfl) ?_
  intro K hK
  refine x_assign rfl rfl rfl rfl ?_
  refine Ex.done (hK _ _ ?_)
  refine At.then_n ?_
  refine W.seq ?_
  refine W.seq ?_
  refine W.sub [(0, _)] ⟨rfl, trivial⟩ ?_
  refine W.reg [(0, false)] (by kernel_rfl) ?_
  intro K hK
  refine x_assign rfl rfl rfl rfl ?_
  refine Ex.done (hK _ _ ?_)
  refine At.then_n ?_
  refine W.block ?_
  refine W.loop (σ := Nat) (fun j => [(0, _), (3, .int .i64 ((j : Nat) : Int))]) (fun j w => j ≤ l.length ∧ j ≤ 40 ∧ (∀ x ∈ l.take j, smallA x = true) ∧ Sep w0 [] w) (fun j => l.length - j) 0 ⟨rfl, rfl, trivial⟩ ⟨Nat.zero_le _, by omega, by simp, M⟩ ?_
  rintro j w ⟨hj, hj40, hok, M⟩
  refine W.seq ?_
  refine W.seq ?_
  refine W.sub [(0, _), (3, _)] ⟨rfl, rfl, trivial⟩ ?_
  refine W.reg [(0, false), (1, false), (2, false), (3, false)] (by kernel_rfl) ?_
  intro K hK
  refine x_move rfl rfl rfl rfl ?_
  refine x_move rfl rfl rfl rfl ?_
  refine x_len rfl rfl rfl rfl Try.underlying38 rfl ?_
  refine x_lss _ rfl rfl rfl rfl rfl rfl ?_
  refine Ex.done (hK _ _ ?_)
  refine At.then_n ?_
  refine W.cond rfl (fun hco1 => ?_) (fun hco1 => ?_)
  · try simp only [decide_eq_true_eq, decide_eq_false_iff_not, Bool.not_eq_true', Bool.not_eq_false', beq_iff_eq, bne_iff_ne, ne_eq, Bool.not_eq_eq_eq_not, Bool.not_true, Bool.not_false, beq_eq_false_iff_ne, bne_eq_false_iff_eq, Bool.not_not, gt_iff_lt, ge_iff_le] at hco1
    obtain ⟨x, hx⟩ := get_lt (l := l) (q := j) (by omega)
    obtain ⟨bb, off, rfl, _⟩ := (h.new M.frm).blk (j := j) (by omega)
    obtain ⟨pd, cd, hrow, hbx⟩ := (h.new M.frm).row hx
    refine W.skip ?_
    refine At.then_n ?_
    refine W.seq ?_
    refine W.block ?_
    refine W.seq ?_
    refine W.sub [(0, _), (3, _)] ⟨rfl, rfl, trivial⟩ ?_
    refine W.reg [(0, false), (1, false), (2, false), (3, false), (4, false), (5, false), (6, false), (7, false), (8, false), (9, false), (10, false), (11, false), (12, false), (13, false), (14, false), (15, false), (16, false), (17, false), (18, false), (19, false), (20, false), (21, false), (22, false), (23, false), (24, false), (25, false), (26, false), (27, false), (28, false)] (by kernel_rfl) ?_
    intro K hK
    refine x_move rfl rfl rfl rfl ?_
    refine x_geq _ rfl rfl rfl rfl rfl rfl ?_
    refine x_move rfl rfl rfl rfl ?_
    refine Ex.split 12 rfl (fun hsp1 => ?_) (fun hsp1 => ?_)
    ·
      try simp only [decide_eq_true_eq, decide_eq_false_iff_not, Bool.not_eq_true', Bool.not_eq_false', beq_iff_eq, bne_iff_ne, ne_eq, Bool.not_eq_eq_eq_not, Bool.not_true, Bool.not_false, beq_eq_false_iff_ne, bne_eq_false_iff_eq, Bool.not_not, gt_iff_lt, ge_iff_le] at hsp1
      refine Ex.skip_ rfl rfl rfl ?_
      refine Ex.skip_ rfl rfl rfl ?_
      refine Ex.skip_ rfl rfl rfl ?_
      refine Ex.skip_ rfl rfl rfl ?_
      refine Ex.skip_ rfl rfl rfl ?_
      refine Ex.skip_ rfl rfl rfl ?_
      refine Ex.skip_ rfl rfl rfl ?_
      refine x_pickT rfl rfl rfl rfl rfl ?_
      refine x_move rfl rfl rfl rfl ?_
      refine Ex.skip_ rfl rfl rfl ?_
      refine Ex.skip_ rfl rfl rfl ?_
      refine Ex.skip_ rfl rfl rfl ?_
      refine Ex.skip_ rfl rfl rfl ?_
      refine Ex.skip_ rfl rfl rfl ?_
      refine Ex.skip_ rfl rfl rfl ?_
      refine Ex.skip_ rfl rfl rfl ?_
      refine x_pickT rfl rfl rfl rfl rfl ?_
      refine x_move rfl rfl rfl rfl ?_
      refine Ex.skip_ rfl rfl rfl ?_
      refine Ex.skip_ rfl rfl rfl ?_
      refine Ex.skip_ rfl rfl rfl ?_
      refine Ex.skip_ rfl rfl rfl ?_
      refine Ex.skip_ rfl rfl rfl ?_
      refine Ex.skip_ rfl rfl rfl ?_
      refine Ex.skip_ rfl rfl rfl ?_
      refine x_pickT rfl rfl rfl rfl rfl ?_
      refine Ex.done (hK _ _ ?_)
      refine At.then_n ?_
      refine W.condT rfl ?_
      refine W.seq ?_
      refine W.sub [] trivial ?_
      refine W.reg [(0, false)] (by kernel_rfl) ?_
      intro K hK
      refine x_assign rfl rfl rfl rfl ?_
      refine Ex.done (hK _ _ ?_)
      refine At.then_n ?_
      refine W.ret ?_
      refine At.blk_r ?_
      refine At.then_r ?_
      refine At.loop_r ?_
      refine At.blk_r ?_
      refine At.then_r ?_
      refine At.ret1 (.tmp 2) rfl ⟨rfl, trivial⟩ ?_
      rw [few_no hx (.inl (by omega))]; exact ⟨rfl, M.frm⟩
    ·
      try simp only [decide_eq_true_eq, decide_eq_false_iff_not, Bool.not_eq_true', Bool.not_eq_false', beq_iff_eq, bne_iff_ne, ne_eq, Bool.not_eq_eq_eq_not, Bool.not_true, Bool.not_false, beq_eq_false_iff_ne, bne_eq_false_iff_eq, Bool.not_not, gt_iff_lt, ge_iff_le] at hsp1
      refine x_move rfl rfl rfl rfl ?_
      refine x_move rfl rfl rfl rfl ?_
      refine x_ia j rfl rfl rfl Try.underlying38 sz43 rfl rfl rfl (by omega) ?_
      refine x_fa rfl rfl rfl fo43_3 rfl ?_
      refine x_ld rfl rfl rfl Try.underlying23 rfl rfl (RowAt.cell hrow (j := 3) rfl) ?_
      refine x_len rfl rfl rfl rfl Try.underlying23 rfl ?_
      refine x_gtr _ rfl rfl rfl rfl rfl rfl ?_
      refine x_pickF rfl rfl rfl rfl rfl ?_
      refine x_move rfl rfl rfl rfl ?_
      refine Ex.split 21 rfl (fun hsp2 => ?_) (fun hsp2 => ?_)
      ·
        try simp only [decide_eq_true_eq, decide_eq_false_iff_not, Bool.not_eq_true', Bool.not_eq_false', beq_iff_eq, bne_iff_ne, ne_eq, Bool.not_eq_eq_eq_not, Bool.not_true, Bool.not_false, beq_eq_false_iff_ne, bne_eq_false_iff_eq, Bool.not_not, gt_iff_lt, ge_iff_le] at hsp2
        refine Ex.skip_ rfl rfl rfl ?_
        refine Ex.skip_ rfl rfl rfl ?_
        refine Ex.skip_ rfl rfl rfl ?_
        refine Ex.skip_ rfl rfl rfl ?_
        refine Ex.skip_ rfl rfl rfl ?_
        refine Ex.skip_ rfl rfl rfl ?_
        refine Ex.skip_ rfl rfl rfl ?_
        refine x_pickT rfl rfl rfl rfl rfl ?_
        refine x_move rfl rfl rfl rfl ?_
        refine Ex.skip_ rfl rfl rfl ?_
        refine Ex.skip_ rfl rfl rfl ?_
        refine Ex.skip_ rfl rfl rfl ?_
        refine Ex.skip_ rfl rfl rfl ?_
        refine Ex.skip_ rfl rfl rfl ?_
        refine Ex.skip_ rfl rfl rfl ?_
        refine Ex.skip_ rfl rfl rfl ?_
        refine x_pickT rfl rfl rfl rfl rfl ?_
        refine Ex.done (hK _ _ ?_)
        refine At.then_n ?_
        refine W.condT rfl ?_
        refine W.seq ?_
        refine W.sub [] trivial ?_
        refine W.reg [(0, false)] (by kernel_rfl) ?_
        intro K hK
        refine x_assign rfl rfl rfl rfl ?_
        refine Ex.done (hK _ _ ?_)
        refine At.then_n ?_
        refine W.ret ?_
        refine At.blk_r ?_
        refine At.then_r ?_
        refine At.loop_r ?_
        refine At.blk_r ?_
        refine At.then_r ?_
        refine At.ret1 (.tmp 2) rfl ⟨rfl, trivial⟩ ?_
        have hsm : smallA x = false := by unfold smallA; rw [show decide (x.b.length ≤ 131072) = false from decide_eq_false (by omega)]; simp
        rw [few_no hx (.inr hsm)]; exact ⟨rfl, M.frm⟩
      ·
        try simp only [decide_eq_true_eq, decide_eq_false_iff_not, Bool.not_eq_true', Bool.not_eq_false', beq_iff_eq, bne_iff_ne, ne_eq, Bool.not_eq_eq_eq_not, Bool.not_true, Bool.not_false, beq_eq_false_iff_ne, bne_eq_false_iff_eq, Bool.not_not, gt_iff_lt, ge_iff_le] at hsp2
        refine x_move rfl rfl rfl rfl ?_
        refine x_move rfl rfl rfl rfl ?_
        refine x_ia j rfl rfl rfl Try.underlying38 sz43 rfl rfl rfl (by omega) ?_
        refine x_fa rfl rfl rfl fo43_1 rfl ?_
        refine x_ld rfl rfl rfl Try.underlying9 rfl rfl (RowAt.cell hrow (j := 1) rfl) ?_
        refine x_lenS rfl rfl rfl rfl Try.underlying9 rfl ?_
        refine x_gtr _ rfl rfl rfl rfl rfl rfl ?_
        refine x_pickF rfl rfl rfl rfl rfl ?_
        refine x_move rfl rfl rfl rfl ?_
        refine Ex.split 30 rfl (fun hsp3 => ?_) (fun hsp3 => ?_)
        ·
          try simp only [decide_eq_true_eq, decide_eq_false_iff_not, Bool.not_eq_true', Bool.not_eq_false', beq_iff_eq, bne_iff_ne, ne_eq, Bool.not_eq_eq_eq_not, Bool.not_true, Bool.not_false, beq_eq_false_iff_ne, bne_eq_false_iff_eq, Bool.not_not, gt_iff_lt, ge_iff_le] at hsp3
          refine Ex.skip_ rfl rfl rfl ?_
          refine Ex.skip_ rfl rfl rfl ?_
          refine Ex.skip_ rfl rfl rfl ?_
          refine Ex.skip_ rfl rfl rfl ?_
          refine Ex.skip_ rfl rfl rfl ?_
          refine Ex.skip_ rfl rfl rfl ?_
          refine Ex.skip_ rfl rfl rfl ?_
          refine x_pickT rfl rfl rfl rfl rfl ?_
          refine Ex.done (hK _ _ ?_)
          refine At.then_n ?_
          refine W.condT rfl ?_
          refine W.seq ?_
          refine W.sub [] trivial ?_
          refine W.reg [(0, false)] (by kernel_rfl) ?_
          intro K hK
          refine x_assign rfl rfl rfl rfl ?_
          refine Ex.done (hK _ _ ?_)
          refine At.then_n ?_
          refine W.ret ?_
          refine At.blk_r ?_
          refine At.then_r ?_
          refine At.loop_r ?_
          refine At.blk_r ?_
          refine At.then_r ?_
          refine At.ret1 (.tmp 2) rfl ⟨rfl, trivial⟩ ?_
          have hsm : smallA x = false := by unfold smallA; rw [show decide (x.p.length ≤ 300) = false from decide_eq_false (by omega)]; simp
          rw [few_no hx (.inr hsm)]; exact ⟨rfl, M.frm⟩
        ·
          try simp only [decide_eq_true_eq, decide_eq_false_iff_not, Bool.not_eq_true', Bool.not_eq_false', beq_iff_eq, bne_iff_ne, ne_eq, Bool.not_eq_eq_eq_not, Bool.not_true, Bool.not_false, beq_eq_false_iff_ne, bne_eq_false_iff_eq, Bool.not_not, gt_iff_lt, ge_iff_le] at hsp3
          refine x_move rfl rfl rfl rfl ?_
          refine x_move rfl rfl rfl rfl ?_
          refine x_ia j rfl rfl rfl Try.underlying38 sz43 rfl rfl rfl (by omega) ?_
          refine x_fa rfl rfl rfl fo43_2 rfl ?_
          refine x_ld rfl rfl rfl Try.underlying9 rfl rfl (RowAt.cell hrow (j := 2) rfl) ?_
          refine x_lenS rfl rfl rfl rfl Try.underlying9 rfl ?_
          refine x_gtr _ rfl rfl rfl rfl rfl rfl ?_
          refine x_pickF rfl rfl rfl rfl rfl ?_
          refine Ex.done (hK _ _ ?_)
          refine At.then_n ?_
          refine W.cond rfl (fun hco5 => ?_) (fun hco5 => ?_)
          · try simp only [decide_eq_true_eq, decide_eq_false_iff_not, Bool.not_eq_true', Bool.not_eq_false', beq_iff_eq, bne_iff_ne, ne_eq, Bool.not_eq_eq_eq_not, Bool.not_true, Bool.not_false, beq_eq_false_iff_ne, bne_eq_false_iff_eq, Bool.not_not, gt_iff_lt, ge_iff_le] at hco5
            refine W.seq ?_
            refine W.sub [] trivial ?_
            refine W.reg [(0, false)] (by kernel_rfl) ?_
            intro K hK
            refine x_assign rfl rfl rfl rfl ?_
            refine Ex.done (hK _ _ ?_)
            refine At.then_n ?_
            refine W.ret ?_
            refine At.blk_r ?_
            refine At.then_r ?_
            refine At.loop_r ?_
            refine At.blk_r ?_
            refine At.then_r ?_
            refine At.ret1 (.tmp 2) rfl ⟨rfl, trivial⟩ ?_
            have hsm : smallA x = false := by unfold smallA; rw [show decide (x.q.length ≤ 300) = false from decide_eq_false (by omega)]; simp
            rw [few_no hx (.inr hsm)]; exact ⟨rfl, M.frm⟩
          · try simp only [decide_eq_true_eq, decide_eq_false_iff_not, Bool.not_eq_true', Bool.not_eq_false', beq_iff_eq, bne_iff_ne, ne_eq, Bool.not_eq_eq_eq_not, Bool.not_true, Bool.not_false, beq_eq_false_iff_ne, bne_eq_false_iff_eq, Bool.not_not, gt_iff_lt, ge_iff_le] at hco5
            refine W.skip ?_
            refine At.blk_n ?_
            refine At.then_n ?_
            refine W.sub [(0, _), (3, _)] ⟨rfl, rfl, trivial⟩ ?_
            refine W.reg [(0, false), (1, false), (2, false)] (by kernel_rfl) ?_
            intro K hK
            refine x_move rfl rfl rfl rfl ?_
            refine x_add _ rfl rfl rfl rfl rfl (wadd (by omega) (by omega)) ?_
            refine x_assign rfl rfl rfl rfl ?_
            refine Ex.done (hK _ _ ?_)
            exact At.back (j + 1) ⟨rfl, rfl, trivial⟩ ⟨by omega, by omega, mem_take_snoc hx hok (by unfold smallA; simp; omega), M⟩ (by first | omega | (simp only; omega) | (simp; done) | (simp; omega))
  · try simp only [decide_eq_true_eq, decide_eq_false_iff_not, Bool.not_eq_true', Bool.not_eq_false', beq_iff_eq, bne_iff_ne, ne_eq, Bool.not_eq_eq_eq_not, Bool.not_true, Bool.not_false, beq_eq_false_iff_ne, bne_eq_false_iff_eq, Bool.not_not, gt_iff_lt, ge_iff_le] at hco1
    refine W.exit ?_
    refine At.then_x ?_
    refine At.loop_x ?_
    refine At.blk_x ?_
    refine At.then_n ?_
    refine W.seq ?_
    refine W.sub [] trivial ?_
    refine W.reg [(0, false)] (by kernel_rfl) ?_
    intro K hK
    refine x_assign rfl rfl rfl rfl ?_
    refine Ex.done (hK _ _ ?_)
    refine At.then_n ?_
    refine W.ret ?_
    refine At.ret1 (.tmp 2) rfl ⟨rfl, trivial⟩ ?_
    have hj2 : j = l.length := by omega
    subst hj2
    rw [List.take_length] at hok
    rw [few_yes hok (by omega)]; exact ⟨rfl, M.frm⟩

set_option maxRecDepth 100000 in
theorem done_c {w0 : World} {v : Value} {l : List Ac} (h : ActsAt w0 v l) (hl : l.length ≤ 9223372036854775807) : Ret Try.prog 17 #[v] w0 fun r w' => ∃ bt E k, r = ptr bt ∧ TR E k ∧ Sep w0 (tb bt E) w' := by
  have M : Sep w0 [] w0 := St.nil w0
  obtain ⟨pv, cv, rfl⟩ := h.shape
  refine Ret.of_W Try.func17 rfl Try.ntmps17 rfl ?_
  refine W.seq ?_
  refine W.sub [(0, _)] ⟨rfl, trivial⟩ ?_
  refine W.reg [(0, false)] (by kernel_rfl) ?_
  intro K hK
  refine x_assign rfl rfl rfl rfl ?_
  refine Ex.done (hK _ _ ?_)
  refine At.then_n ?_
  refine W.seq ?_
  refine W.sub [(0, _)] ⟨rfl, trivial⟩ ?_
  refine W.reg [(0, true), (1, false)] (by kernel_rfl) ?_
  intro K hK
  refine x_call rfl rfl rfl rfl rfl en24 (new_r) ?_
  rintro r_ w1 ⟨bt, E1, rfl, h1, M⟩
  refine ⟨trivial, ?_⟩
  refine x_assign rfl rfl rfl rfl ?_
  refine Ex.done (hK _ _ ?_)
  refine At.then_n ?_
  refine W.seq ?_
  refine W.seq ?_
  refine W.sub [(0, _), (3, _)] ⟨rfl, rfl, trivial⟩ ?_
  refine W.reg [(0, false)] (by kernel_rfl) ?_
  intro K hK
  refine x_assign rfl rfl rfl rfl ?_
  refine Ex.done (hK _ _ ?_)
  refine At.then_n ?_
  refine W.block ?_
  refine W.loop (σ := Nat × List Ent × List Raw) (fun q => [(0, _), (3, _), (4, .int .i64 ((q.1 : Nat) : Int))]) (fun q w => q.1 ≤ l.length ∧ TR q.2.1 q.2.2 ∧ Sep w0 (tb bt q.2.1) w) (fun q => l.length - q.1) (0, E1, []) ⟨rfl, rfl, rfl, trivial⟩ ⟨Nat.zero_le _, h1, M⟩ ?_
  rintro ⟨j, E, k⟩ w ⟨hj, hR, M⟩
  simp only at hj hR M
  have M : Sep w0 (tb bt E ++ []) w := by simpa using M
  refine W.seq ?_
  refine W.seq ?_
  refine W.sub [(0, _), (3, _), (4, _)] ⟨rfl, rfl, rfl, trivial⟩ ?_
  refine W.reg [(0, false), (1, false), (2, false), (3, false), (4, false), (5, false), (6, false), (7, false)] (by kernel_rfl) ?_
  intro K hK
  refine x_move rfl rfl rfl rfl ?_
  refine x_move rfl rfl rfl rfl ?_
  refine x_len rfl rfl rfl rfl Try.underlying38 rfl ?_
  refine x_lss _ rfl rfl rfl rfl rfl rfl ?_
  refine x_move rfl rfl rfl rfl ?_
  refine Ex.split 10 rfl (fun hsp1 => ?_) (fun hsp1 => ?_)
  ·
    try simp only [decide_eq_true_eq, decide_eq_false_iff_not, Bool.not_eq_true', Bool.not_eq_false', beq_iff_eq, bne_iff_ne, ne_eq, Bool.not_eq_eq_eq_not, Bool.not_true, Bool.not_false, beq_eq_false_iff_ne, bne_eq_false_iff_eq, Bool.not_not, gt_iff_lt, ge_iff_le] at hsp1
    obtain ⟨x, hx⟩ := get_lt (l := l) (q := j) (by omega)
    obtain ⟨bb, off, rfl, _⟩ := h.blk (j := j) (by omega)
    obtain ⟨pd, cd, hrow0, hbx⟩ := h.row hx
    have hrow := RowAt.new hrow0 M.frm
    refine x_move rfl rfl rfl rfl ?_
    refine x_nepn true rfl rfl rfl Try.underlying27 rfl rfl rfl ?_
    refine x_pickT rfl rfl rfl rfl rfl ?_
    refine Ex.done (hK _ _ ?_)
    refine At.then_n ?_
    refine W.condT rfl ?_
    refine W.skip ?_
    refine At.then_n ?_
    refine W.seq ?_
    refine W.block ?_
    refine W.seq ?_
    refine W.sub [(0, _), (3, _), (4, _)] ⟨rfl, rfl, rfl, trivial⟩ ?_
    refine W.reg [(0, false), (1, false), (2, false), (3, false), (4, false)] (by kernel_rfl) ?_
    intro K hK
    refine x_move rfl rfl rfl rfl ?_
    refine x_move rfl rfl rfl rfl ?_
    refine x_ia j rfl rfl rfl Try.underlying38 sz43 rfl rfl rfl (by omega) ?_
    refine x_fa rfl rfl rfl fo43_0 rfl ?_
    refine x_ld rfl rfl rfl Try.underlying3 rfl rfl (RowAt.cell hrow (j := 0) rfl) ?_
    refine Ex.done (hK _ _ ?_)
    refine At.then_n ?_
    refine W.block ?_
    refine W.seq ?_
    refine W.sub [(0, _), (3, _), (4, _), (20, _)] ⟨rfl, rfl, rfl, rfl, trivial⟩ ?_
    refine W.reg [(0, false), (1, false)] (by kernel_rfl) ?_
    intro K hK
    refine x_eqi _ rfl rfl rfl rfl rfl rfl ?_
    refine x_assign rfl rfl rfl rfl ?_
    refine Ex.done (hK _ _ ?_)
    refine At.then_n ?_
    refine W.cond rfl (fun hco2 => ?_) (fun hco2 => ?_)
    · try simp only [decide_eq_true_eq, decide_eq_false_iff_not, Bool.not_eq_true', Bool.not_eq_false', beq_iff_eq, bne_iff_ne, ne_eq, Bool.not_eq_eq_eq_not, Bool.not_true, Bool.not_false, beq_eq_false_iff_ne, bne_eq_false_iff_eq, Bool.not_not, gt_iff_lt, ge_iff_le] at hco2
      refine W.sub [(0, _), (3, _), (4, _)] ⟨rfl, rfl, rfl, trivial⟩ ?_
      refine W.reg [(0, false), (1, false), (2, false), (3, false), (4, false), (5, false), (6, true)] (by kernel_rfl) ?_
      intro K hK
      refine x_move rfl rfl rfl rfl ?_
      refine x_move rfl rfl rfl rfl ?_
      refine x_move rfl rfl rfl rfl ?_
      refine x_ia j rfl rfl rfl Try.underlying38 sz43 rfl rfl rfl (by omega) ?_
      refine x_fa rfl rfl rfl fo43_1 rfl ?_
      refine x_ld rfl rfl rfl Try.underlying9 rfl rfl (RowAt.cell hrow (j := 1) rfl) ?_
      refine x_call rfl rfl rfl rfl rfl en19 (mkdir_r M hR) ?_
      rintro r_ w2 ⟨E2, rfl, h2, M⟩
      refine ⟨trivial, ?_⟩
      refine Ex.done (hK _ _ ?_)
      refine At.blk_n ?_
      refine At.blk_n ?_
      refine At.then_n ?_
      refine W.sub [(0, _), (3, _), (4, _)] ⟨rfl, rfl, rfl, trivial⟩ ?_
      refine W.reg [(0, false), (1, false), (2, false)] (by kernel_rfl) ?_
      intro K hK
      refine x_move rfl rfl rfl rfl ?_
      refine x_add _ rfl rfl rfl rfl rfl (wadd (by omega) (by omega)) ?_
      refine x_assign rfl rfl rfl rfl ?_
      refine Ex.done (hK _ _ ?_)
      exact At.back ((j + 1, E2, _)) ⟨rfl, rfl, rfl, trivial⟩ ⟨by omega, h2, by simpa using M⟩ (by first | omega | (simp only; omega) | (simp; done) | (simp; omega))
    · try simp only [decide_eq_true_eq, decide_eq_false_iff_not, Bool.not_eq_true', Bool.not_eq_false', beq_iff_eq, bne_iff_ne, ne_eq, Bool.not_eq_eq_eq_not, Bool.not_true, Bool.not_false, beq_eq_false_iff_ne, bne_eq_false_iff_eq, Bool.not_not, gt_iff_lt, ge_iff_le] at hco2
      refine W.seq ?_
      refine W.sub [(0, _), (3, _), (4, _), (20, _)] ⟨rfl, rfl, rfl, rfl, trivial⟩ ?_
      refine W.reg [(0, false), (1, false)] (by kernel_rfl) ?_
      intro K hK
      refine x_eqi _ rfl rfl rfl rfl rfl rfl ?_
      refine x_assign rfl rfl rfl rfl ?_
      refine Ex.done (hK _ _ ?_)
      refine At.then_n ?_
      refine W.cond rfl (fun hco3 => ?_) (fun hco3 => ?_)
      · try simp only [decide_eq_true_eq, decide_eq_false_iff_not, Bool.not_eq_true', Bool.not_eq_false', beq_iff_eq, bne_iff_ne, ne_eq, Bool.not_eq_eq_eq_not, Bool.not_true, Bool.not_false, beq_eq_false_iff_ne, bne_eq_false_iff_eq, Bool.not_not, gt_iff_lt, ge_iff_le] at hco3
        refine W.sub [(0, _), (3, _), (4, _)] ⟨rfl, rfl, rfl, trivial⟩ ?_
        refine W.regD (by kernel_rfl) #[0, 0, 0, 6, 14, 30, 0, 0, 192, 448, 960, 2047] [(0, false), (1, false), (2, false), (3, false), (4, false), (5, false), (6, false), (7, false), (8, false), (9, false), (10, false), (11, true)] (by kernel_rfl) ?_
        intro K wD1 hK hwD1
        have M := M.drew hwD1
        have hrow := RowAt.new hrow0 M.frm
        refine x_move rfl rfl rfl rfl ?_
        refine x_move rfl rfl rfl rfl ?_
        refine x_move rfl rfl rfl rfl ?_
        refine x_ia j rfl rfl rfl Try.underlying38 sz43 rfl rfl rfl (by omega) ?_
        refine x_fa rfl rfl rfl fo43_1 rfl ?_
        refine x_ld rfl rfl rfl Try.underlying9 rfl rfl (RowAt.cell hrow (j := 1) rfl) ?_
        refine x_move rfl rfl rfl rfl ?_
        refine x_move rfl rfl rfl rfl ?_
        refine x_ia j rfl rfl rfl Try.underlying38 sz43 rfl rfl rfl (by omega) ?_
        refine x_fa rfl rfl rfl fo43_3 rfl ?_
        refine x_ld rfl rfl rfl Try.underlying23 rfl rfl (RowAt.cell hrow (j := 3) rfl) ?_
        refine x_call rfl rfl rfl rfl rfl en20 (put_r M hR (SgK.old hbx)) ?_
        rintro r_ w3 ⟨E3, rfl, h3, M⟩
        refine ⟨⟨.inl (by kernel_rfl), .inl (by kernel_rfl), trivial⟩, ?_⟩
        refine Ex.done (hK _ _ ?_)
        refine At.blk_n ?_
        refine At.blk_n ?_
        refine At.then_n ?_
        refine W.sub [(0, _), (3, _), (4, _)] ⟨rfl, rfl, rfl, trivial⟩ ?_
        refine W.reg [(0, false), (1, false), (2, false)] (by kernel_rfl) ?_
        intro K hK
        refine x_move rfl rfl rfl rfl ?_
        refine x_add _ rfl rfl rfl rfl rfl (wadd (by omega) (by omega)) ?_
        refine x_assign rfl rfl rfl rfl ?_
        refine Ex.done (hK _ _ ?_)
        exact At.back ((j + 1, E3, _)) ⟨rfl, rfl, rfl, trivial⟩ ⟨by omega, h3, by simpa using M⟩ (by first | omega | (simp only; omega) | (simp; done) | (simp; omega))
      · try simp only [decide_eq_true_eq, decide_eq_false_iff_not, Bool.not_eq_true', Bool.not_eq_false', beq_iff_eq, bne_iff_ne, ne_eq, Bool.not_eq_eq_eq_not, Bool.not_true, Bool.not_false, beq_eq_false_iff_ne, bne_eq_false_iff_eq, Bool.not_not, gt_iff_lt, ge_iff_le] at hco3
        refine W.seq ?_
        refine W.sub [(0, _), (3, _), (4, _), (20, _)] ⟨rfl, rfl, rfl, rfl, trivial⟩ ?_
        refine W.reg [(0, false), (1, false)] (by kernel_rfl) ?_
        intro K hK
        refine x_eqi _ rfl rfl rfl rfl rfl rfl ?_
        refine x_assign rfl rfl rfl rfl ?_
        refine Ex.done (hK _ _ ?_)
        refine At.then_n ?_
        refine W.cond rfl (fun hco4 => ?_) (fun hco4 => ?_)
        · try simp only [decide_eq_true_eq, decide_eq_false_iff_not, Bool.not_eq_true', Bool.not_eq_false', beq_iff_eq, bne_iff_ne, ne_eq, Bool.not_eq_eq_eq_not, Bool.not_true, Bool.not_false, beq_eq_false_iff_ne, bne_eq_false_iff_eq, Bool.not_not, gt_iff_lt, ge_iff_le] at hco4
          refine W.sub [(0, _), (3, _), (4, _)] ⟨rfl, rfl, rfl, trivial⟩ ?_
          refine W.reg [(0, false), (1, false), (2, false), (3, false), (4, false), (5, false), (6, true)] (by kernel_rfl) ?_
          intro K hK
          refine x_move rfl rfl rfl rfl ?_
          refine x_move rfl rfl rfl rfl ?_
          refine x_move rfl rfl rfl rfl ?_
          refine x_ia j rfl rfl rfl Try.underlying38 sz43 rfl rfl rfl (by omega) ?_
          refine x_fa rfl rfl rfl fo43_1 rfl ?_
          refine x_ld rfl rfl rfl Try.underlying9 rfl rfl (RowAt.cell hrow (j := 1) rfl) ?_
          refine x_call rfl rfl rfl rfl rfl en21 (remove_r M hR) ?_
          rintro r_ w4 ⟨E4, rfl, h4, M⟩
          refine ⟨trivial, ?_⟩
          refine Ex.done (hK _ _ ?_)
          refine At.blk_n ?_
          refine At.blk_n ?_
          refine At.then_n ?_
          refine W.sub [(0, _), (3, _), (4, _)] ⟨rfl, rfl, rfl, trivial⟩ ?_
          refine W.reg [(0, false), (1, false), (2, false)] (by kernel_rfl) ?_
          intro K hK
          refine x_move rfl rfl rfl rfl ?_
          refine x_add _ rfl rfl rfl rfl rfl (wadd (by omega) (by omega)) ?_
          refine x_assign rfl rfl rfl rfl ?_
          refine Ex.done (hK _ _ ?_)
          exact At.back ((j + 1, E4, _)) ⟨rfl, rfl, rfl, trivial⟩ ⟨by omega, h4, by simpa using M⟩ (by first | omega | (simp only; omega) | (simp; done) | (simp; omega))
        · try simp only [decide_eq_true_eq, decide_eq_false_iff_not, Bool.not_eq_true', Bool.not_eq_false', beq_iff_eq, bne_iff_ne, ne_eq, Bool.not_eq_eq_eq_not, Bool.not_true, Bool.not_false, beq_eq_false_iff_ne, bne_eq_false_iff_eq, Bool.not_not, gt_iff_lt, ge_iff_le] at hco4
          refine W.seq ?_
          refine W.sub [(0, _), (3, _), (4, _), (20, _)] ⟨rfl, rfl, rfl, rfl, trivial⟩ ?_
          refine W.reg [(0, false), (1, false)] (by kernel_rfl) ?_
          intro K hK
          refine x_eqi _ rfl rfl rfl rfl rfl rfl ?_
          refine x_assign rfl rfl rfl rfl ?_
          refine Ex.done (hK _ _ ?_)
          refine At.then_n ?_
          refine W.cond rfl (fun hco5 => ?_) (fun hco5 => ?_)
          · try simp only [decide_eq_true_eq, decide_eq_false_iff_not, Bool.not_eq_true', Bool.not_eq_false', beq_iff_eq, bne_iff_ne, ne_eq, Bool.not_eq_eq_eq_not, Bool.not_true, Bool.not_false, beq_eq_false_iff_ne, bne_eq_false_iff_eq, Bool.not_not, gt_iff_lt, ge_iff_le] at hco5
            refine W.sub [(0, _), (3, _), (4, _)] ⟨rfl, rfl, rfl, trivial⟩ ?_
            refine W.regD (by kernel_rfl) #[0, 0, 0, 6, 14, 30, 0, 0, 192, 448, 960, 2047] [(0, false), (1, false), (2, false), (3, false), (4, false), (5, false), (6, false), (7, false), (8, false), (9, false), (10, false), (11, true)] (by kernel_rfl) ?_
            intro K wD2 hK hwD2
            have M := M.drew hwD2
            have hrow := RowAt.new hrow0 M.frm
            refine x_move rfl rfl rfl rfl ?_
            refine x_move rfl rfl rfl rfl ?_
            refine x_move rfl rfl rfl rfl ?_
            refine x_ia j rfl rfl rfl Try.underlying38 sz43 rfl rfl rfl (by omega) ?_
            refine x_fa rfl rfl rfl fo43_1 rfl ?_
            refine x_ld rfl rfl rfl Try.underlying9 rfl rfl (RowAt.cell hrow (j := 1) rfl) ?_
            refine x_move rfl rfl rfl rfl ?_
            refine x_move rfl rfl rfl rfl ?_
            refine x_ia j rfl rfl rfl Try.underlying38 sz43 rfl rfl rfl (by omega) ?_
            refine x_fa rfl rfl rfl fo43_2 rfl ?_
            refine x_ld rfl rfl rfl Try.underlying9 rfl rfl (RowAt.cell hrow (j := 2) rfl) ?_
            refine x_call rfl rfl rfl rfl rfl en22 (rename_r M hR) ?_
            rintro r_ w5 ⟨E5, rfl, h5, M⟩
            refine ⟨⟨.inl (by kernel_rfl), .inl (by kernel_rfl), trivial⟩, ?_⟩
            refine Ex.done (hK _ _ ?_)
            refine At.blk_n ?_
            refine At.blk_n ?_
            refine At.then_n ?_
            refine W.sub [(0, _), (3, _), (4, _)] ⟨rfl, rfl, rfl, trivial⟩ ?_
            refine W.reg [(0, false), (1, false), (2, false)] (by kernel_rfl) ?_
            intro K hK
            refine x_move rfl rfl rfl rfl ?_
            refine x_add _ rfl rfl rfl rfl rfl (wadd (by omega) (by omega)) ?_
            refine x_assign rfl rfl rfl rfl ?_
            refine Ex.done (hK _ _ ?_)
            exact At.back ((j + 1, E5, _)) ⟨rfl, rfl, rfl, trivial⟩ ⟨by omega, h5, by simpa using M⟩ (by first | omega | (simp only; omega) | (simp; done) | (simp; omega))
          · try simp only [decide_eq_true_eq, decide_eq_false_iff_not, Bool.not_eq_true', Bool.not_eq_false', beq_iff_eq, bne_iff_ne, ne_eq, Bool.not_eq_eq_eq_not, Bool.not_true, Bool.not_false, beq_eq_false_iff_ne, bne_eq_false_iff_eq, Bool.not_not, gt_iff_lt, ge_iff_le] at hco5
            refine W.skip ?_
            refine At.blk_n ?_
            refine At.blk_n ?_
            refine At.then_n ?_
            refine W.sub [(0, _), (3, _), (4, _)] ⟨rfl, rfl, rfl, trivial⟩ ?_
            refine W.reg [(0, false), (1, false), (2, false)] (by kernel_rfl) ?_
            intro K hK
            refine x_move rfl rfl rfl rfl ?_
            refine x_add _ rfl rfl rfl rfl rfl (wadd (by omega) (by omega)) ?_
            refine x_assign rfl rfl rfl rfl ?_
            refine Ex.done (hK _ _ ?_)
            exact At.back ((j + 1, E, k)) ⟨rfl, rfl, rfl, trivial⟩ ⟨by omega, hR, by simpa using M⟩ (by first | omega | (simp only; omega) | (simp; done) | (simp; omega))
  ·
    try simp only [decide_eq_true_eq, decide_eq_false_iff_not, Bool.not_eq_true', Bool.not_eq_false', beq_iff_eq, bne_iff_ne, ne_eq, Bool.not_eq_eq_eq_not, Bool.not_true, Bool.not_false, beq_eq_false_iff_ne, bne_eq_false_iff_eq, Bool.not_not, gt_iff_lt, ge_iff_le] at hsp1
    refine Ex.skip_ rfl rfl rfl ?_
    refine Ex.skip_ rfl rfl rfl ?_
    refine x_pickF rfl rfl rfl rfl rfl ?_
    refine Ex.done (hK _ _ ?_)
    refine At.then_n ?_
    refine W.condF rfl ?_
    refine W.exit ?_
    refine At.then_x ?_
    refine At.loop_x ?_
    refine At.blk_x ?_
    refine At.then_n ?_
    refine W.seq ?_
    refine W.sub [(3, _)] ⟨rfl, trivial⟩ ?_
    refine W.reg [(0, false), (1, false)] (by kernel_rfl) ?_
    intro K hK
    refine x_move rfl rfl rfl rfl ?_
    refine x_assign rfl rfl rfl rfl ?_
    refine Ex.done (hK _ _ ?_)
    refine At.then_n ?_
    refine W.ret ?_
    refine At.ret1 (.tmp 2) rfl ⟨rfl, trivial⟩ ?_
    exact ⟨_, E, k, rfl, hR, by simpa using M⟩
end Go.Proofs.Ytccfmfehfhfhhaa

namespace Go.Proofs.Ytccfmfehfhfhhaa
open Go Go.Fw Go.RowKit
set_option linter.unusedVariables false
set_option linter.unusedSimpArgs false

section
variable {E : List Ent} {k m : List Raw} {x y : Raw} {i j : Nat}
theorem TR.okl (h : TR E k) (hs : m.Sublist k) : OkL m where
  one x hx := by
    have hx := hs.subset hx
    obtain ⟨h1, h2, h3, h4⟩ := h.row hx
    obtain ⟨h5, h6⟩ := h.data x hx
    exact ⟨h1, h2, h6, h5⟩
  nd := (hs.map _).nodup (srt_names h.rel.srt)
  top x hx y hy hd t ht he := by
    obtain ⟨_, _, h3, _⟩ := h.row (hs.subset hx)
    obtain ⟨_, _, g3, _⟩ := h.row (hs.subset hy)
    rw [he] at h3
    obtain ⟨b, _, h4, _⟩ := h.ti.gi.pre h3 ht
    rw [g3] at h4
    have h5 := Option.some.inj h4
    rw [h5] at hd
    cases hd
theorem OkL.single (h : OkL m) : ∀ x ∈ m, singleR x = 0 := fun x hx => by
  obtain ⟨h1, h2, h3, h4⟩ := h.one x hx
  unfold singleR
  rw [if_pos ⟨h1, h2⟩, if_neg (fun e => e.2 (h3 e.1)), if_neg (by omega)]
theorem OkL.together (h : OkL m) : togetherR m = 0 := by
  unfold togetherR
  rw [if_pos h.nd, if_neg]
  rintro ⟨x, hx, y, hy, hd, t, ht, he⟩
  exact h.top x hx y hy hd t ht he
/-- Rows of a tree's that make the tree. -/
theorem back_of (h : TR E k) (hs : m.Sublist k) (hc : ∀ x ∈ k, ∃ z ∈ m, ∃ t, splitN z.1 = splitN x.1 ++ t) : ofL m = (k, 0) := by
  have hO := h.okl hs
  have hG : m.foldl layG gNew = absE E := by
    funext r
    rw [lay_all hO]
    by_cases h0 : r = []
    · subst h0; rw [if_pos rfl, h.ti.gi.root]
    · rw [if_neg h0]
      cases hv : absE E r with
      | some v =>
        have hP := (h.ti.gi.ok r v hv).1
        have hm : (joinS r, v) ∈ k := (h.rel.mem _).2 ⟨r, h0, rfl, hv⟩
        obtain ⟨z, hz, t, ht⟩ := hc _ hm
        simp only at ht
        rw [hP.sp.2] at ht
        unfold ofG
        cases hf : m.find? (fun x => decide (splitN x.1 = r)) with
        | some y =>
          have hy := hs.subset (List.mem_of_find?_eq_some hf)
          have he := List.find?_some hf
          simp at he
          obtain ⟨_, _, g3, _⟩ := h.row hy
          rw [he, hv] at g3
          exact g3.symm
        | none =>
          have hno : ∀ y ∈ m, splitN y.1 ≠ r := fun y hy => by simpa using List.find?_eq_none.1 hf y hy
          simp only
          rw [if_pos (List.any_eq_true.2 ⟨z, hz, ipf.2 ⟨t, ht⟩⟩)]
          have ht0 : t ≠ [] := fun e => hno z hz (by rw [ht, e, List.append_nil])
          obtain ⟨_, _, g3, _⟩ := h.row (hs.subset hz)
          rw [ht] at g3
          obtain ⟨b, _, g4, _⟩ := h.ti.gi.pre g3 ht0
          rw [hv] at g4
          cases g4
          rw [h.ti.gi.dirT hv]
      | none =>
        unfold ofG
        have hno : ∀ y ∈ m, ∀ t, splitN y.1 ≠ r ++ t := fun y hy t ht => by
          obtain ⟨_, _, g3, _⟩ := h.row (hs.subset hy)
          rw [ht] at g3
          by_cases ht0 : t = []
          · subst ht0; rw [List.append_nil, hv] at g3; cases g3
          · obtain ⟨b, _, g4, _⟩ := h.ti.gi.pre g3 ht0
            rw [hv] at g4; cases g4
        have hf : m.find? (fun x => decide (splitN x.1 = r)) = none := List.find?_eq_none.2 fun y hy e => by
          simp at e
          exact hno y hy [] (by rw [e, List.append_nil])
        rw [hf]
        simp only
        rw [if_neg]
        intro ha
        obtain ⟨y, hy, hp⟩ := List.any_eq_true.1 ha
        obtain ⟨t, ht⟩ := ipf.1 hp
        exact hno y hy t ht
  have hR := fill_rel hO
  rw [hG] at hR
  have hk := rel_ext hR h.rel
  rw [ofL_ok hO.single hO.together, hk, if_neg (by have := h.le; omega)]
theorem back_all (h : TR E k) : ofL k = (k, 0) := back_of h (List.Sublist.refl _) fun x hx => ⟨x, hx, [], by simp⟩

/-- Is nothing that stands under it next? -/
def keepB (k : List Raw) (i : Nat) : Bool := match k[i]?, k[i + 1]? with
  | some x, some y => !underP y.1 x.1
  | _, _ => true
def someT (k : List Raw) : Nat → List Raw
  | 0 => []
  | i + 1 => match k[i]? with
    | some x => if keepB k i = true then someT k i ++ [x] else someT k i
    | none => someT k i
theorem keepB_end (h : i + 1 = k.length) : keepB k i = true := by
  unfold keepB
  rw [show k[i + 1]? = none from List.getElem?_eq_none (by omega)]
  cases k[i]? <;> rfl
theorem keepB_in (hx : k[i]? = some x) (hy : k[i + 1]? = some y) : keepB k i = !underP y.1 x.1 := by unfold keepB; rw [hx, hy]
theorem someT_in (hx : k[i]? = some x) (h : keepB k i = true) : someT k (i + 1) = someT k i ++ [x] := by
  conv => lhs; unfold someT
  rw [hx]; simp only; rw [if_pos h]
theorem someT_out (hx : k[i]? = some x) (h : keepB k i = false) : someT k (i + 1) = someT k i := by
  conv => lhs; unfold someT
  rw [hx]; simp only; rw [if_neg (by simp [h])]
theorem someT_sub : ∀ (i : Nat), (someT k i).Sublist (k.take i)
  | 0 => by simp [someT]
  | i + 1 => by
    have ih := someT_sub i
    cases hx : k[i]? with
    | some x =>
      rw [take_snoc hx]
      cases hk : keepB k i with
      | true => rw [someT_in hx hk]; exact ih.append (List.Sublist.refl _)
      | false => rw [someT_out hx hk]; exact ih.trans (List.sublist_append_left _ _)
    | none =>
      unfold someT
      rw [hx]
      simp only
      have hle := List.getElem?_eq_none_iff.1 hx
      have e1 : k.take (i + 1) = k.take i := by rw [List.take_of_length_le (by omega), List.take_of_length_le hle]
      rw [e1]
      exact ih
theorem someT_len (i : Nat) : (someT k i).length ≤ i := by
  have := (someT_sub (k := k) i).length_le
  rw [List.length_take] at this
  omega
theorem someT_mem : ∀ {i : Nat}, j < i → k[j]? = some x → keepB k j = true → x ∈ someT k i
  | 0, h, _, _ => by omega
  | i + 1, h, hx, hk => by
    rcases Nat.lt_or_ge j i with h1 | h1
    · have ih := someT_mem h1 hx hk
      unfold someT
      split
      · split
        · exact List.mem_append_left _ ih
        · exact ih
      · exact ih
    · have : j = i := by omega
      subst this
      rw [someT_in hx hk]; simp
theorem back_some (h : TR E k) : ofL (someT k k.length) = (k, 0) := by
  refine back_of h (by have := someT_sub (k := k) k.length; rwa [List.take_length] at this) fun x hx => ?_
  obtain ⟨i, hi⟩ := List.mem_iff_getElem?.1 hx
  -- the last one that stands under it
  have key : ∀ (n j : Nat) (z : Raw), k.length - j ≤ n → k[j]? = some z → (∃ t, splitN z.1 = splitN x.1 ++ t) → ∃ z ∈ someT k k.length, ∃ t, splitN z.1 = splitN x.1 ++ t := by
    intro n
    induction n with
    | zero =>
      intro j z hn hz _
      have := (List.getElem?_eq_some_iff.1 hz).1
      omega
    | succ n ih =>
      intro j z hn hz ⟨t, ht⟩
      have hj := (List.getElem?_eq_some_iff.1 hz).1
      cases hk : keepB k j with
      | true => exact ⟨z, someT_mem hj hz hk, t, ht⟩
      | false =>
        rcases Nat.lt_or_ge (j + 1) k.length with h1 | h1
        · obtain ⟨y, hy⟩ := get_lt (l := k) (q := j + 1) h1
          rw [keepB_in hz hy] at hk
          have hu : underP y.1 z.1 = true := by simpa using hk
          rw [underP_eq] at hu
          simp only [Bool.and_eq_true, decide_eq_true_eq] at hu
          obtain ⟨u, hu⟩ := ipf.1 hu.2
          exact ih (j + 1) y (by omega) hy ⟨t ++ u, by rw [hu, ht, List.append_assoc]⟩
        · rw [keepB_end (by omega)] at hk; cases hk
  exact key k.length i x (by omega) hi ⟨[], by simp⟩
end
end Go.Proofs.Ytccfmfehfhfhhaa

namespace Go.Proofs.Ytccfmfehfhfhhaa
open Go Go.Fw Go.RowKit
set_option linter.unusedVariables false
set_option linter.unusedSimpArgs false

/-- Bytes that may be written, whatever they are. -/
def WrN (L : List (Nat × Obj)) (v : Value) (n : Nat) : Prop := (v = .slice none 0 0 ∧ n = 0) ∨ ∃ (bk cap : Nat) (cs : List Value) (T : TypeId), v = .slice (some ⟨bk, 0, none⟩) n cap ∧ (bk, Obj.cells cs.toArray T (0, 0)) ∈ L ∧ n ≤ cs.length ∧ ∀ j < n, ∃ x : UInt8, cs[j]? = some (byteV x)
section
variable {L L' A B : List (Nat × Obj)} {v : Value} {n k : Nat} {b : List UInt8}
theorem WrN.own (h : OwL L v 1 n (byteCs b)) (hs : ∀ y ∈ L, y ∈ L') : WrN L' v n := by
  have hlen := h.len
  rw [byteCs_len] at hlen
  rcases h with ⟨h1, h2, _⟩ | ⟨bk, cap, rest, T, h1, rfl, h3, h4⟩
  · exact .inl ⟨h1, h2⟩
  · refine .inr ⟨bk, cap, byteCs b ++ rest, T, h1, hs _ (List.mem_singleton.2 rfl), by rw [List.length_append, byteCs_len]; omega, fun j hj => ?_⟩
    obtain ⟨x, hx⟩ := get_lt (l := b) (q := j) (by omega)
    exact ⟨x, by rw [List.getElem?_append_left (by rw [byteCs_len]; omega)]; exact byteCs_get hx⟩
theorem WrN.mono (h : WrN L v n) (hs : ∀ y ∈ L, y ∈ L') : WrN L' v n := h.imp id fun ⟨bk, cap, cs, T, h1, h2, h3⟩ => ⟨bk, cap, cs, T, h1, hs _ h2, h3⟩
theorem WrN.shape (h : WrN L v n) : ∃ p cap, v = .slice p n cap := by
  rcases h with ⟨rfl, rfl⟩ | ⟨bk, cap, cs, T, rfl, _⟩
  · exact ⟨none, 0, rfl⟩
  · exact ⟨_, cap, rfl⟩
/-- Behind a byte that was written. -/
theorem WrN.set {bk T : Nat} {cs : List Value} {y : UInt8} (h : WrN (A ++ (bk, Obj.cells cs.toArray T (0, 0)) :: B) v n) (hcs : ∀ j < k, ∃ x : UInt8, cs[j]? = some (byteV x)) (hk : k ≤ cs.length) {q : Nat} (hq : q < k) :
    WrN (A ++ (bk, Obj.cells (cs.set q (byteV y)).toArray T (0, 0)) :: B) v n := by
  rcases h with h | ⟨b', cap, cs', T', h1, h2, h3, h4⟩
  · exact .inl h
  · rcases List.mem_append.1 h2 with h5 | h5
    · exact .inr ⟨b', cap, cs', T', h1, List.mem_append_left _ h5, h3, h4⟩
    · rcases List.mem_cons.1 h5 with h6 | h6
      · simp only [Prod.mk.injEq, Obj.cells.injEq, and_true] at h6
        obtain ⟨rfl, h7, rfl⟩ := h6
        have h7 : cs' = cs := by have := congrArg Array.toList h7; simpa using this
        subst h7
        refine .inr ⟨b', cap, cs'.set q (byteV y), T', h1, List.mem_append_right _ List.mem_cons_self, by rw [List.length_set]; exact h3, fun j hj => ?_⟩
        rw [List.getElem?_set]
        by_cases e : q = j
        · subst e
          rw [if_pos rfl, if_pos (by omega)]
          exact ⟨y, rfl⟩
        · rw [if_neg e]; exact h4 j hj
      · exact .inr ⟨b', cap, cs', T', h1, List.mem_append_right _ (List.mem_cons_of_mem _ h6), h3, h4⟩
end

section
variable {l : List Raw} {w0 : World}
theorem of_r2 {v : Value} (h : FilesAt w0 v l) (hl : l.length ≤ 1000) : Ret Try.prog 12 #[v] w0 fun r w' => ∃ po TB, r = .tuple #[.pointer po, .int .i64 (ofL l).2] ∧ Sep w0 TB w' ∧ (po.isNone = !decide ((ofL l).2 = 0)) ∧ ((ofL l).2 = 0 → ∃ E bt, po = some ⟨bt, 0, none⟩ ∧ TB = tb bt E ∧ TR E (ofL l).1) :=
  (of_r h hl).mono fun r w' hh => by
    rcases hh with ⟨h1, h2, hn⟩ | ⟨h1, E, bt, h2, hR, M⟩
    · exact ⟨none, [], h2, hn, by rw [decide_eq_false h1]; rfl, fun e => absurd e h1⟩
    · exact ⟨some ⟨bt, 0, none⟩, tb bt E, h2, M, by rw [decide_eq_true h1]; rfl, fun _ => ⟨E, bt, rfl, rfl, hR⟩⟩
end
theorem u8_succ (x : UInt8) : IntKind.u8.wrap ((x.toNat : Int) + 1) = ((x + 1 : UInt8).toNat : Int) := by
  have h := x.toNat_lt
  rw [UInt8.toNat_add]
  simp only [IntKind.wrap, IntKind.bits, IntKind.signed]
  rcases Nat.lt_or_ge (x.toNat + 1) 256 with h1 | h1
  · first | (simp; done) | (simp; omega)
  · have : x.toNat = 255 := by omega
    simp [this]
theorem TR.find_data {E : List Ent} {l : List Raw} (h : TR E l) (p : List UInt8) : (findL l p).1.2.2.length ≤ 65536 := by
  rw [h.rel.findL h.ti.gi]
  simp only [findV]
  split
  · cases hv : absE E (splitN p) with
    | none => simp
    | some v => exact (h.ti.gi.ok _ v hv).2.1
  · simp
/-- Rows of one's own, with bytes that may be written. -/
structure InO (Lo Ld : List (Nat × Obj)) (v : Value) (fs : List (Raw × Value)) : Prop where
  own : OwL Lo v 3 fs.length (fCs fs)
  dat : ∀ f ∈ fs, (∃ Lf, (∀ y ∈ Lf, y ∈ Ld) ∧ OwL Lf f.2 1 f.1.2.2.length (byteCs f.1.2.2)) ∧ f.2.oneCell' = true
theorem InO.files {Lo Ld L : List (Nat × Obj)} {v : Value} {fs : List (Raw × Value)} {S : Nat → Prop} {w0 w : World} (h : InO Lo Ld v fs) (M : St S w0 L w) (h1 : ∀ y ∈ Lo, y ∈ L) (h2 : ∀ y ∈ Ld, y ∈ L) : FilesAt w v (fs.map (·.1)) :=
  ⟨fs, rfl, .inr ((h.own.sl (by decide)).at_ M h1), fun f hf => ⟨by
    obtain ⟨⟨Lf, g1, g2⟩, _⟩ := h.dat f hf
    exact .inr ((g2.sl (by decide)).at_ M fun y hy => h2 y (g1 y hy)), (h.dat f hf).2⟩⟩
end Go.Proofs.Ytccfmfehfhfhhaa

namespace Go.Proofs.Ytccfmfehfhfhhaa
open Go Go.Fw Go.RowKit Go.Proofs
set_option linter.unusedVariables false
set_option linter.unusedSimpArgs false

set_option maxRecDepth 100000 in
theorem treeOf_c {w0 : World} {v : Value} {l : List Raw} (h : FilesAt w0 v l) (hd : ∀ x ∈ l, x.2.2.length ≤ 1099511627776) (hl : l.length ≤ 1099511627776) : Ret Try.prog 3 #[v] w0 fun r w' => r = .bool true ∧ New w0 w' := by
  have M : Sep w0 [] w0 := St.nil w0
  obtain ⟨pv, cv, rfl⟩ := h.shape
  refine Ret.of_W Try.func3 rfl Try.ntmps3 rfl ?_
  refine W.seq ?_
  refine W.sub [(0, _)] ⟨rfl, trivial⟩ ?_
  refine W.reg [(0, false)] (by kernel_rfl) ?_
  intro K hK
  refine x_assign rfl rfl rfl rfl ?_
  refine Ex.done (hK _ _ ?_)
  refine At.then_n ?_
  refine W.seq ?_
  refine W.sub [(0, _)] ⟨rfl, trivial⟩ ?_
  refine W.reg [(0, false)] (by kernel_rfl) ?_
  intro K hK
  refine x_assign rfl rfl rfl rfl ?_
  refine Ex.done (hK _ _ ?_)
  refine At.then_n ?_
  refine W.sub [(0, _), (3, _)] ⟨rfl, rfl, trivial⟩ ?_
  refine W.seqC (fun F' w' => ∃ z : Int, F' = [(0, .slice pv l.length cv), (3, .int .i64 z)] ∧ Sep w0 [] w') ?_ ?_
  · refine W.seq ?_
    refine W.sub [(0, _), (3, _)] ⟨rfl, rfl, trivial⟩ ?_
    refine W.reg [(0, false)] (by kernel_rfl) ?_
    intro K hK
    refine x_assign rfl rfl rfl rfl ?_
    refine Ex.done (hK _ _ ?_)
    refine At.then_n ?_
    refine W.block ?_
    refine W.loop (σ := Nat × Int) (fun q => [(0, _), (3, .int .i64 q.2), (4, .int .i64 ((q.1 : Nat) : Int))]) (fun q w => q.1 ≤ l.length ∧ 0 ≤ q.2 ∧ q.2 ≤ 131072 * (q.1 : Int) ∧ q.1 ≤ 200 ∧ Sep w0 [] w) (fun q => l.length - q.1) (0, 0) ⟨rfl, rfl, rfl, trivial⟩ ⟨Nat.zero_le _, by simp, by simp, by simp, M⟩ ?_
    rintro ⟨j, z⟩ w ⟨hj, hz0, hz1, hj2, M⟩
    simp only at hj hz0 hz1 hj2
    refine W.seq ?_
    refine W.seq ?_
    refine W.sub [(0, _), (3, _), (4, _)] ⟨rfl, rfl, rfl, trivial⟩ ?_
    refine W.reg [(0, false), (1, false), (2, false), (3, false), (4, false), (5, false), (6, false), (7, false)] (by kernel_rfl) ?_
    intro K hK
    refine x_move rfl rfl rfl rfl ?_
    refine x_move rfl rfl rfl rfl ?_
    refine x_len rfl rfl rfl rfl Try.underlying22 rfl ?_
    refine x_lss _ rfl rfl rfl rfl rfl rfl ?_
    refine x_move rfl rfl rfl rfl ?_
    refine Ex.split 17 rfl (fun hsp1 => ?_) (fun hsp1 => ?_)
    ·
      try simp only [decide_eq_true_eq, decide_eq_false_iff_not, Bool.not_eq_true', Bool.not_eq_false', beq_iff_eq, bne_iff_ne, ne_eq, Bool.not_eq_eq_eq_not, Bool.not_true, Bool.not_false, beq_eq_false_iff_ne, bne_eq_false_iff_eq, Bool.not_not, gt_iff_lt, ge_iff_le] at hsp1
      refine x_move rfl rfl rfl rfl ?_
      refine x_lss _ rfl rfl rfl rfl rfl rfl ?_
      refine x_pickT rfl rfl rfl rfl rfl ?_
      refine Ex.done (hK _ _ ?_)
      refine At.then_n ?_
      refine W.cond rfl (fun hco1 => ?_) (fun hco1 => ?_)
      · try simp only [decide_eq_true_eq, decide_eq_false_iff_not, Bool.not_eq_true', Bool.not_eq_false', beq_iff_eq, bne_iff_ne, ne_eq, Bool.not_eq_eq_eq_not, Bool.not_true, Bool.not_false, beq_eq_false_iff_ne, bne_eq_false_iff_eq, Bool.not_not, gt_iff_lt, ge_iff_le] at hco1
        obtain ⟨x, hx⟩ := get_lt (l := l) (q := j) (by omega)
        obtain ⟨bb, off, rfl, _⟩ := (h.new M.frm).blk (j := j) (by omega)
        obtain ⟨pd, cd, hrow, _⟩ := (h.new M.frm).row hx
        obtain ⟨mz, hmz⟩ : ∃ mz : Int, mz = if (131072 : Int) < (x.2.2.length : Int) then 131072 else (x.2.2.length : Int) := ⟨_, rfl⟩
        have hmz2 : 0 ≤ mz ∧ mz ≤ 131072 := by rw [hmz]; split <;> omega
        refine W.skip ?_
        refine At.then_n ?_
        refine W.seq ?_
        refine W.block ?_
        refine W.sub [(0, _), (3, _), (4, _)] ⟨rfl, rfl, rfl, trivial⟩ ?_
        refine W.reg [(0, false), (1, false), (2, false), (3, false), (4, false), (5, false), (6, false), (7, false), (8, false), (9, false)] (by kernel_rfl) ?_
        intro K hK
        refine x_move rfl rfl rfl rfl ?_
        refine x_move rfl rfl rfl rfl ?_
        refine x_move rfl rfl rfl rfl ?_
        refine x_ia j rfl rfl rfl Try.underlying22 sz25 rfl rfl rfl (by omega) ?_
        refine x_fa rfl rfl rfl fo25_2 rfl ?_
        refine x_ld rfl rfl rfl Try.underlying23 rfl rfl (RowAt.cell hrow (j := 2) rfl) ?_
        refine x_len rfl rfl rfl rfl Try.underlying23 rfl ?_
        refine x_min mz rfl rfl rfl rfl rfl hmz.symm ?_
        refine x_add _ rfl rfl rfl rfl rfl (wadd (by omega) (by omega)) ?_
        refine x_assign rfl rfl rfl rfl ?_
        refine Ex.done (hK _ _ ?_)
        refine At.blk_n ?_
        refine At.then_n ?_
        refine W.sub [(0, _), (3, _), (4, _)] ⟨rfl, rfl, rfl, trivial⟩ ?_
        refine W.reg [(0, false), (1, false), (2, false)] (by kernel_rfl) ?_
        intro K hK
        refine x_move rfl rfl rfl rfl ?_
        refine x_add _ rfl rfl rfl rfl rfl (wadd (by omega) (by omega)) ?_
        refine x_assign rfl rfl rfl rfl ?_
        refine Ex.done (hK _ _ ?_)
        exact At.back ((j + 1, z + mz)) ⟨rfl, rfl, rfl, trivial⟩ ⟨by omega, by simp only; omega, by simp only; omega, by simp only; omega, M⟩ (by first | omega | (simp only; omega) | (simp; done) | (simp; omega))
      · try simp only [decide_eq_true_eq, decide_eq_false_iff_not, Bool.not_eq_true', Bool.not_eq_false', beq_iff_eq, bne_iff_ne, ne_eq, Bool.not_eq_eq_eq_not, Bool.not_true, Bool.not_false, beq_eq_false_iff_ne, bne_eq_false_iff_eq, Bool.not_not, gt_iff_lt, ge_iff_le] at hco1
        refine W.exit ?_
        refine At.then_x ?_
        refine At.loop_x ?_
        refine At.blk_x ?_
        refine At.sub [(0, _), (3, _)] ⟨rfl, rfl, trivial⟩ ?_
        refine At.cut_n ?_
        exact ⟨_, rfl, M⟩
    ·
      try simp only [decide_eq_true_eq, decide_eq_false_iff_not, Bool.not_eq_true', Bool.not_eq_false', beq_iff_eq, bne_iff_ne, ne_eq, Bool.not_eq_eq_eq_not, Bool.not_true, Bool.not_false, beq_eq_false_iff_ne, bne_eq_false_iff_eq, Bool.not_not, gt_iff_lt, ge_iff_le] at hsp1
      refine Ex.skip_ rfl rfl rfl ?_
      refine Ex.skip_ rfl rfl rfl ?_
      refine x_pickF rfl rfl rfl rfl rfl ?_
      refine Ex.done (hK _ _ ?_)
      refine At.then_n ?_
      refine W.condF rfl ?_
      refine W.exit ?_
      refine At.then_x ?_
      refine At.loop_x ?_
      refine At.blk_x ?_
      refine At.sub [(0, _), (3, _)] ⟨rfl, rfl, trivial⟩ ?_
      refine At.cut_n ?_
      exact ⟨_, rfl, M⟩
  rintro F1 wc ⟨z, rfl, M⟩
  refine W.seq ?_
  refine W.seq ?_
  refine W.sub [(0, _), (3, _)] ⟨rfl, rfl, trivial⟩ ?_
  refine W.reg [(0, false), (1, false), (2, false), (3, false), (4, false), (5, false), (6, false)] (by kernel_rfl) ?_
  intro K hK
  refine x_move rfl rfl rfl rfl ?_
  refine x_len rfl rfl rfl rfl Try.underlying22 rfl ?_
  refine x_gtr _ rfl rfl rfl rfl rfl rfl ?_
  refine x_move rfl rfl rfl rfl ?_
  refine Ex.split 35 rfl (fun hsp2 => ?_) (fun hsp2 => ?_)
  ·
    try simp only [decide_eq_true_eq, decide_eq_false_iff_not, Bool.not_eq_true', Bool.not_eq_false', beq_iff_eq, bne_iff_ne, ne_eq, Bool.not_eq_eq_eq_not, Bool.not_true, Bool.not_false, beq_eq_false_iff_ne, bne_eq_false_iff_eq, Bool.not_not, gt_iff_lt, ge_iff_le] at hsp2
    refine Ex.skip_ rfl rfl rfl ?_
    refine Ex.skip_ rfl rfl rfl ?_
    refine x_pickT rfl rfl rfl rfl rfl ?_
    refine Ex.done (hK _ _ ?_)
    refine At.then_n ?_
    refine W.condT rfl ?_
    refine W.seq ?_
    refine W.sub [] trivial ?_
    refine W.reg [(0, true), (1, false)] (by kernel_rfl) ?_
    intro K hK
    refine x_call rfl rfl rfl rfl rfl en11 (lives16_c) ?_
    rintro r_ wcall1 ⟨rfl, hncall1⟩
    have M := M.new hncall1
    refine ⟨trivial, ?_⟩
    refine x_assign rfl rfl rfl rfl ?_
    refine Ex.done (hK _ _ ?_)
    refine At.then_n ?_
    refine W.ret ?_
    refine At.then_r ?_
    refine At.ret1 (.tmp 2) rfl ⟨rfl, trivial⟩ ?_
    exact ⟨rfl, M.frm⟩
  ·
    try simp only [decide_eq_true_eq, decide_eq_false_iff_not, Bool.not_eq_true', Bool.not_eq_false', beq_iff_eq, bne_iff_ne, ne_eq, Bool.not_eq_eq_eq_not, Bool.not_true, Bool.not_false, beq_eq_false_iff_ne, bne_eq_false_iff_eq, Bool.not_not, gt_iff_lt, ge_iff_le] at hsp2
    refine x_move rfl rfl rfl rfl ?_
    refine x_gtr _ rfl rfl rfl rfl rfl rfl ?_
    refine x_pickF rfl rfl rfl rfl rfl ?_
    refine Ex.done (hK _ _ ?_)
    refine At.then_n ?_
    refine W.cond rfl (fun hco4 => ?_) (fun hco4 => ?_)
    · try simp only [decide_eq_true_eq, decide_eq_false_iff_not, Bool.not_eq_true', Bool.not_eq_false', beq_iff_eq, bne_iff_ne, ne_eq, Bool.not_eq_eq_eq_not, Bool.not_true, Bool.not_false, beq_eq_false_iff_ne, bne_eq_false_iff_eq, Bool.not_not, gt_iff_lt, ge_iff_le] at hco4
      refine W.seq ?_
      refine W.sub [] trivial ?_
      refine W.reg [(0, true), (1, false)] (by kernel_rfl) ?_
      intro K hK
      refine x_call rfl rfl rfl rfl rfl en11 (lives16_c) ?_
      rintro r_ wcall2 ⟨rfl, hncall2⟩
      have M := M.new hncall2
      refine ⟨trivial, ?_⟩
      refine x_assign rfl rfl rfl rfl ?_
      refine Ex.done (hK _ _ ?_)
      refine At.then_n ?_
      refine W.ret ?_
      refine At.then_r ?_
      refine At.ret1 (.tmp 2) rfl ⟨rfl, trivial⟩ ?_
      exact ⟨rfl, M.frm⟩
    · try simp only [decide_eq_true_eq, decide_eq_false_iff_not, Bool.not_eq_true', Bool.not_eq_false', beq_iff_eq, bne_iff_ne, ne_eq, Bool.not_eq_eq_eq_not, Bool.not_true, Bool.not_false, beq_eq_false_iff_ne, bne_eq_false_iff_eq, Bool.not_not, gt_iff_lt, ge_iff_le] at hco4
      refine W.skip ?_
      refine At.then_n ?_
      refine W.seq ?_
      refine W.sub [(0, _)] ⟨rfl, trivial⟩ ?_
      refine W.reg [(0, false)] (by kernel_rfl) ?_
      intro K hK
      refine x_assign rfl rfl rfl rfl ?_
      refine Ex.done (hK _ _ ?_)
      refine At.then_n ?_
      refine W.seq ?_
      refine W.seq ?_
      refine W.sub [(0, _), (5, _)] ⟨rfl, rfl, trivial⟩ ?_
      refine W.reg [(0, false)] (by kernel_rfl) ?_
      intro K hK
      refine x_assign rfl rfl rfl rfl ?_
      refine Ex.done (hK _ _ ?_)
      refine At.then_n ?_
      refine W.block ?_
      refine W.loop (σ := Nat × List (Raw × Value) × List (Nat × Obj) × List (Nat × Obj) × Value) (fun q => [(0, _), (5, q.2.2.2.2), (6, .int .i64 ((q.1 : Nat) : Int))]) (fun q w => q.1 ≤ l.length ∧ q.2.1.map (·.1) = l.take q.1 ∧ InO q.2.2.1 q.2.2.2.1 q.2.2.2.2 q.2.1 ∧ Sep w0 (q.2.2.1 ++ q.2.2.2.1) w) (fun q => l.length - q.1) (0, [], [], [], .slice none 0 0) ⟨rfl, rfl, rfl, trivial⟩ ⟨Nat.zero_le _, rfl, ⟨OwL.nil, by simp⟩, by simpa using M⟩ ?_
      rintro ⟨j, fs, Lo, Ld, sv⟩ w ⟨hj, hfm, hin, M⟩
      simp only at hj hfm hin M
      have hfl : fs.length = j := by have := congrArg List.length hfm; simp at this; omega
      obtain ⟨ps, cs, rfl⟩ := hin.own.shape
      refine W.seq ?_
      refine W.seq ?_
      refine W.sub [(0, _), (5, _), (6, _)] ⟨rfl, rfl, rfl, trivial⟩ ?_
      refine W.reg [(0, false), (1, false), (2, false), (3, false)] (by kernel_rfl) ?_
      intro K hK
      refine x_move rfl rfl rfl rfl ?_
      refine x_move rfl rfl rfl rfl ?_
      refine x_len rfl rfl rfl rfl Try.underlying22 rfl ?_
      refine x_lss _ rfl rfl rfl rfl rfl rfl ?_
      refine Ex.done (hK _ _ ?_)
      refine At.then_n ?_
      refine W.cond rfl (fun hco5 => ?_) (fun hco5 => ?_)
      · try simp only [decide_eq_true_eq, decide_eq_false_iff_not, Bool.not_eq_true', Bool.not_eq_false', beq_iff_eq, bne_iff_ne, ne_eq, Bool.not_eq_eq_eq_not, Bool.not_true, Bool.not_false, beq_eq_false_iff_ne, bne_eq_false_iff_eq, Bool.not_not, gt_iff_lt, ge_iff_le] at hco5
        obtain ⟨x, hx⟩ := get_lt (l := l) (q := j) (by omega)
        obtain ⟨bb, off, rfl, _⟩ := h.blk (j := j) (by omega)
        obtain ⟨pd, cd, hrow0, hbd⟩ := h.row hx
        have hxd := hd x (List.mem_of_getElem? hx)
        refine W.skip ?_
        refine At.then_n ?_
        refine W.seq ?_
        refine W.block ?_
        refine W.sub [(0, _), (5, _), (6, _)] ⟨rfl, rfl, rfl, trivial⟩ ?_
        refine W.regD (by kernel_rfl) #[0, 0, 0, 6, 14, 30, 0, 0, 192, 448, 960, 0, 0, 0, 12288, 28672, 61440, 129024, 262142, 524286, 1048575, 2097151] [(0, false), (1, false), (2, false), (3, false), (4, false), (5, false), (6, false), (7, false), (8, false), (9, false), (10, false), (12, false), (13, false), (14, false), (15, false), (16, false), (11, true), (17, true), (18, false), (19, true), (20, true), (21, false)] (by kernel_rfl) ?_
        intro K wD1 hK hwD1
        have M := M.drew hwD1
        have hrow := RowAt.new hrow0 M.frm
        refine x_move rfl rfl rfl rfl ?_
        refine x_move rfl rfl rfl rfl ?_
        refine x_move rfl rfl rfl rfl ?_
        refine x_ia j rfl rfl rfl Try.underlying22 sz25 rfl rfl rfl (by omega) ?_
        refine x_fa rfl rfl rfl fo25_0 rfl ?_
        refine x_ld rfl rfl rfl Try.underlying9 rfl rfl (RowAt.cell hrow (j := 0) rfl) ?_
        refine x_move rfl rfl rfl rfl ?_
        refine x_move rfl rfl rfl rfl ?_
        refine x_ia j rfl rfl rfl Try.underlying22 sz25 rfl rfl rfl (by omega) ?_
        refine x_fa rfl rfl rfl fo25_1 rfl ?_
        refine x_ld rfl rfl rfl Try.underlying4 rfl rfl (RowAt.cell hrow (j := 1) rfl) ?_
        refine x_move rfl rfl rfl rfl ?_
        refine x_move rfl rfl rfl rfl ?_
        refine x_ia j rfl rfl rfl Try.underlying22 sz25 rfl rfl rfl (by omega) ?_
        refine x_fa rfl rfl rfl fo25_2 rfl ?_
        refine x_ld rfl rfl rfl Try.underlying23 rfl rfl (RowAt.cell hrow (j := 2) rfl) ?_
        refine x_bs0 rfl rfl rfl Try.underlying23 sz5 ?_
        intro bb1 wb1 hbb1 hwb1
        have M := M.acons hbb1 hwb1
        have hrow := RowAt.new hrow0 M.frm
        refine ⟨⟨.inr (RowAt.cell hrow (j := 2) rfl), .inr (RowAt.cell hrow (j := 1) rfl), .inr (RowAt.cell hrow (j := 0) rfl), trivial⟩, ?_⟩
        refine x_apL (L := [_]) (L0 := Lo ++ Ld) (cs := []) (nn := 0) rfl rfl rfl rfl Try.underlying23 sz5 ze5 rfl by5 rfl rfl (.inr ⟨bb1, 0, [], _, rfl, rfl, rfl, rfl⟩) M (by simp) ((hbd.new M.frm).src Try.underlying23 (byteCs_one _)) (by omega) (by decide) (by omega) ?_
        intro Lf v6 w6 how6 M
        rw [Nat.zero_add, List.nil_append] at how6
        have hrow := RowAt.new hrow0 M.frm
        obtain ⟨p6, c6, rfl⟩ := how6.shape
        refine ⟨⟨.inl (by kernel_rfl), .inr (RowAt.cell hrow (j := 1) rfl), .inr (RowAt.cell hrow (j := 0) rfl), trivial⟩, ?_⟩
        refine x_build [_, _, _] rfl rfl rfl pl25 ze25 rfl rfl rfl ?_
        refine x_bs1 (cs := [strV x.1, .bool x.2.1, .slice p6 x.2.2.length c6]) rfl rfl rfl Try.underlying22 sz25 ze25 (Z := [_, _, _]) rfl rfl (by decide) (by decide) rfl rfl rfl ?_
        intro bbs2 wbs2 hbbs2 hwbs2
        have M0 := M.acons hbbs2 hwbs2
        have hslbs2 : Sl wbs2 (.slice (some ⟨bbs2, 0, none⟩) 1 1) 3 1 [strV x.1, .bool x.2.1, .slice p6 x.2.2.length c6] := .inr ⟨bbs2, 0, 1, _, _, _, rfl, by omega, M0.at_ 0 rfl, rfl, rfl⟩
        have M := M0.tail
        refine ⟨⟨.inl (by kernel_rfl), .inl (by kernel_rfl), .inl (by kernel_rfl), trivial⟩, ?_⟩
        have M : Sep w0 (Lo ++ (Ld ++ Lf)) wbs2 := M.perm (perm_c fun p => by simp only [List.countP_append]; omega)
        refine x_apL rfl rfl rfl rfl Try.underlying22 sz25 ze25 rfl by25 rfl rfl hin.own M (fCs_one (fun f hf => (hin.dat f hf).2)) (hslbs2.src Try.underlying22 (by intro u hu; simp at hu; rcases hu with rfl | rfl | rfl <;> rfl)) (by omega) (by decide) (by omega) ?_
        intro Lo2 v7 w7 how7 M
        refine ⟨⟨.inl (by kernel_rfl), .inl (by kernel_rfl), .inl (by kernel_rfl), trivial⟩, ?_⟩
        refine x_assign rfl rfl rfl rfl ?_
        refine Ex.done (hK _ _ ?_)
        refine At.blk_n ?_
        refine At.then_n ?_
        refine W.sub [(0, _), (5, _), (6, _)] ⟨rfl, rfl, rfl, trivial⟩ ?_
        refine W.reg [(0, false), (1, false), (2, false)] (by kernel_rfl) ?_
        intro K hK
        refine x_move rfl rfl rfl rfl ?_
        refine x_add _ rfl rfl rfl rfl rfl (wadd (by omega) (by omega)) ?_
        refine x_assign rfl rfl rfl rfl ?_
        refine Ex.done (hK _ _ ?_)
        exact At.back ((j + 1, fs ++ [(x, .slice p6 x.2.2.length c6)], Lo2, Ld ++ Lf, v7)) ⟨rfl, rfl, rfl, trivial⟩ ⟨by omega, by simp only; rw [take_snoc hx, List.map_append, hfm]; rfl, ⟨by simp only; rw [fCs_app]; simpa [fCs] using how7, by
          intro f hf
          rcases List.mem_append.1 hf with hf | hf
          · obtain ⟨⟨Lg, g1, g2⟩, g3⟩ := hin.dat f hf
            exact ⟨⟨Lg, fun y hy => List.mem_append_left _ (g1 y hy), g2⟩, g3⟩
          · rw [List.mem_singleton.1 hf]; exact ⟨⟨Lf, fun y hy => List.mem_append_right _ hy, how6⟩, rfl⟩⟩, M⟩ (by first | omega | (simp only; omega) | (simp; done) | (simp; omega))
      · try simp only [decide_eq_true_eq, decide_eq_false_iff_not, Bool.not_eq_true', Bool.not_eq_false', beq_iff_eq, bne_iff_ne, ne_eq, Bool.not_eq_eq_eq_not, Bool.not_true, Bool.not_false, beq_eq_false_iff_ne, bne_eq_false_iff_eq, Bool.not_not, gt_iff_lt, ge_iff_le] at hco5
        have hj2 : j = l.length := by omega
        have hfa := hin.files M (fun y hy => by simp [hy]) (fun y hy => by simp [hy])
        rw [hfm, hj2, List.take_length] at hfa
        refine W.exit ?_
        refine At.then_x ?_
        refine At.loop_x ?_
        refine At.blk_x ?_
        refine At.then_n ?_
        refine W.seq ?_
        refine W.sub [(0, _), (5, _)] ⟨rfl, rfl, trivial⟩ ?_
        refine W.reg [(0, false), (1, true), (2, false), (3, false), (4, false), (5, false), (6, false)] (by kernel_rfl) ?_
        intro K hK
        refine x_move rfl rfl rfl rfl ?_
        refine x_call rfl rfl rfl rfl rfl en12 (of_r2 hfa (by omega)) ?_
        rintro r_ w3 ⟨po, TB, rfl, M3, hpo, htr⟩
        have M := M.grow M3
        refine ⟨trivial, ?_⟩
        refine x_move rfl rfl rfl rfl ?_
        refine x_ext rfl rfl rfl rfl rfl ?_
        refine x_ext rfl rfl rfl rfl rfl ?_
        refine x_assign rfl rfl rfl rfl ?_
        refine x_assign rfl rfl rfl rfl ?_
        refine Ex.done (hK _ _ ?_)
        refine At.then_n ?_
        refine W.seq ?_
        refine W.sub [(0, _), (5, _), (7, _), (8, _)] ⟨rfl, rfl, rfl, rfl, trivial⟩ ?_
        refine W.reg [(0, false), (1, true), (2, false), (3, false), (4, false), (5, true), (6, true), (7, false)] (by kernel_rfl) ?_
        intro K hK
        refine x_move rfl rfl rfl rfl ?_
        refine x_call rfl rfl rfl rfl rfl en13 (rof_c M h (by omega)) ?_
        rintro r_ w4 ⟨u, Lr, rfl, hu, M⟩
        obtain ⟨pu, cu, rfl⟩ := (hu.at_ M (fun y hy => by simp [hy])).shape
        refine ⟨trivial, ?_⟩
        refine x_move rfl rfl rfl rfl ?_
        refine x_ext rfl rfl rfl rfl rfl ?_
        refine x_ext rfl rfl rfl rfl rfl ?_
        refine x_alloc [_] rfl rfl rfl ze32 rfl ?_
        intro bal1 wal1 hbal1 hwal1
        have M := M.acons hbal1 hwal1
        refine ⟨trivial, ?_⟩
        refine x_st [_] _ rfl rfl rfl sz32 rfl rfl rfl rfl (by first | exact M.at_ 0 rfl | exact M.at_ 1 rfl | exact M.at_ 2 rfl | exact M.at_ 3 rfl | exact M.at_ 4 rfl | exact M.at_ 5 rfl | exact M.at_ 6 rfl | exact M.at_ 7 rfl) rfl rfl rfl ?_
        intro wst1 hwst1
        have M := M.put 0 rfl hwst1
        obtain ⟨Y, hY⟩ : ∃ Y, Y = (bal1, Obj.cells [.slice pu (ofL l).1.length cu].toArray 32 (0, 0)) :: (Lr ++ TB) := ⟨_, rfl⟩
        have M : Sep w0 (Ld ++ (Lo ++ Y)) wst1 := by
          rw [hY]
          have M2 : Sep w0 ((bal1, Obj.cells [.slice pu (ofL l).1.length cu].toArray 32 (0, 0)) :: (Lr ++ ((Lo ++ Ld) ++ TB))) wst1 := M
          exact M2.perm (perm_c fun p => by simp only [List.countP_append, List.countP_cons]; omega)
        have hwr0 : ∀ f ∈ fs, WrN Ld f.2 f.1.2.2.length := fun f hf => by obtain ⟨⟨Lg, g1, g2⟩, _⟩ := hin.dat f hf; exact WrN.own g2 g1
        refine ⟨trivial, ?_⟩
        refine x_assign rfl rfl rfl rfl ?_
        refine Ex.done (hK _ _ ?_)
        refine At.then_n ?_
        refine W.seq ?_
        refine W.seq ?_
        refine W.sub [(5, _), (7, _), (8, _), (9, _), (10, _)] ⟨rfl, rfl, rfl, rfl, rfl, trivial⟩ ?_
        refine W.reg [(0, false)] (by kernel_rfl) ?_
        intro K hK
        refine x_assign rfl rfl rfl rfl ?_
        refine Ex.done (hK _ _ ?_)
        refine At.then_n ?_
        refine W.block ?_
        refine W.loop (σ := Nat × List (Nat × Obj)) (fun q => [(5, _), (7, _), (8, _), (9, _), (10, _), (11, .int .i64 ((q.1 : Nat) : Int))]) (fun q w => q.1 ≤ fs.length ∧ (∀ f ∈ fs, WrN q.2 f.2 f.1.2.2.length) ∧ Sep w0 (q.2 ++ (Lo ++ Y)) w) (fun q => fs.length - q.1) (0, Ld) ⟨rfl, rfl, rfl, rfl, rfl, rfl, trivial⟩ ⟨Nat.zero_le _, hwr0, M⟩ ?_
        rintro ⟨i, Ld2⟩ w ⟨hi, hwr, M⟩
        simp only at hi hwr M
        refine W.seq ?_
        refine W.seq ?_
        refine W.sub [(5, _), (7, _), (8, _), (9, _), (10, _), (11, _)] ⟨rfl, rfl, rfl, rfl, rfl, rfl, trivial⟩ ?_
        refine W.reg [(0, false), (1, false), (2, false), (3, false)] (by kernel_rfl) ?_
        intro K hK
        refine x_move rfl rfl rfl rfl ?_
        refine x_move rfl rfl rfl rfl ?_
        refine x_len rfl rfl rfl rfl Try.underlying22 rfl ?_
        refine x_lss _ rfl rfl rfl rfl rfl rfl ?_
        refine Ex.done (hK _ _ ?_)
        refine At.then_n ?_
        refine W.cond rfl (fun hco6 => ?_) (fun hco6 => ?_)
        · try simp only [decide_eq_true_eq, decide_eq_false_iff_not, Bool.not_eq_true', Bool.not_eq_false', beq_iff_eq, bne_iff_ne, ne_eq, Bool.not_eq_eq_eq_not, Bool.not_true, Bool.not_false, beq_eq_false_iff_ne, bne_eq_false_iff_eq, Bool.not_not, gt_iff_lt, ge_iff_le] at hco6
          obtain ⟨⟨x, dv⟩, hf⟩ := get_lt (l := fs) (q := i) (by omega)
          obtain ⟨bb, off, rfl, _⟩ := Sl.blk ((hin.own.sl (by decide)).at_ M (fun y hy => by simp [hy])) (j := i) (by omega)
          obtain ⟨pd, cd, hdv⟩ := (hwr _ (List.mem_of_getElem? hf)).shape
          simp only at hdv
          subst hdv
          have hxl : x.2.2.length ≤ 1099511627776 := by
            have h1 : x ∈ fs.map (·.1) := List.mem_map.2 ⟨_, List.mem_of_getElem? hf, rfl⟩
            rw [hfm] at h1
            exact hd x (List.mem_of_mem_take h1)
          refine W.skip ?_
          refine At.then_n ?_
          refine W.seq ?_
          refine W.block ?_
          refine W.seq ?_
          refine W.sub [(5, _), (7, _), (8, _), (9, _), (10, _), (11, _)] ⟨rfl, rfl, rfl, rfl, rfl, rfl, trivial⟩ ?_
          refine W.reg [(0, false)] (by kernel_rfl) ?_
          intro K hK
          refine x_assign rfl rfl rfl rfl ?_
          refine Ex.done (hK _ _ ?_)
          refine At.then_n ?_
          refine W.block ?_
          refine W.loop (σ := Nat × List (Nat × Obj)) (fun q => [(5, _), (7, _), (8, _), (9, _), (10, _), (11, _), (12, .int .i64 ((q.1 : Nat) : Int))]) (fun q w => q.1 ≤ x.2.2.length ∧ (∀ f ∈ fs, WrN q.2 f.2 f.1.2.2.length) ∧ Sep w0 (q.2 ++ (Lo ++ Y)) w) (fun q => x.2.2.length - q.1) (0, Ld2) ⟨rfl, rfl, rfl, rfl, rfl, rfl, rfl, trivial⟩ ⟨Nat.zero_le _, hwr, M⟩ ?_
          rintro ⟨k, Ld3⟩ w ⟨hk, hwr3, M⟩
          simp only at hk hwr3 M
          have hrow : RowAt w bb (off + i * 3) [strV x.1, .bool x.2.1, .slice pd x.2.2.length cd] := ((hin.own.sl (by decide)).at_ M (fun y hy => by simp [hy])).row rfl (fCs_row hf) (by simp)
          refine W.seq ?_
          refine W.seq ?_
          refine W.sub [(5, _), (7, _), (8, _), (9, _), (10, _), (11, _), (12, _)] ⟨rfl, rfl, rfl, rfl, rfl, rfl, rfl, trivial⟩ ?_
          refine W.reg [(0, false), (1, false), (2, false), (3, false), (4, false), (5, false), (6, false), (7, false)] (by kernel_rfl) ?_
          intro K hK
          refine x_move rfl rfl rfl rfl ?_
          refine x_move rfl rfl rfl rfl ?_
          refine x_move rfl rfl rfl rfl ?_
          refine x_ia i rfl rfl rfl Try.underlying22 sz25 rfl rfl rfl (by omega) ?_
          refine x_fa rfl rfl rfl fo25_2 rfl ?_
          refine x_ld rfl rfl rfl Try.underlying23 rfl rfl (RowAt.cell hrow (j := 2) rfl) ?_
          refine x_len rfl rfl rfl rfl Try.underlying23 rfl ?_
          refine x_lss _ rfl rfl rfl rfl rfl rfl ?_
          refine Ex.done (hK _ _ ?_)
          refine At.then_n ?_
          refine W.cond rfl (fun hco7 => ?_) (fun hco7 => ?_)
          · try simp only [decide_eq_true_eq, decide_eq_false_iff_not, Bool.not_eq_true', Bool.not_eq_false', beq_iff_eq, bne_iff_ne, ne_eq, Bool.not_eq_eq_eq_not, Bool.not_true, Bool.not_false, beq_eq_false_iff_ne, bne_eq_false_iff_eq, Bool.not_not, gt_iff_lt, ge_iff_le] at hco7
            rcases hwr3 _ (List.mem_of_getElem? hf) with ⟨_, h0⟩ | ⟨bk, cap, cs2, T, hv, hm, hn, hu8⟩
            · simp only at h0; omega
            simp only at hv hn hu8
            cases hv
            obtain ⟨y, hy⟩ := hu8 k (by omega)
            obtain ⟨A, B, rfl⟩ := List.append_of_mem hm
            have M : Sep w0 (A ++ (bk, Obj.cells cs2.toArray T (0, 0)) :: (B ++ (Lo ++ Y))) w := by simpa using M
            have hklt : k < cs2.length := (List.getElem?_eq_some_iff.1 hy).1
            refine W.skip ?_
            refine At.then_n ?_
            refine W.seq ?_
            refine W.block ?_
            refine W.sub [(5, _), (7, _), (8, _), (9, _), (10, _), (11, _), (12, _)] ⟨rfl, rfl, rfl, rfl, rfl, rfl, rfl, trivial⟩ ?_
            refine W.regD (by kernel_rfl) #[0, 0, 3, 7, 15, 0, 0, 0, 192, 448, 960, 0, 4032, 8128, 16320, 32767, 65535] [(0, false), (1, false), (2, false), (3, false), (4, false), (5, false), (6, false), (7, false), (8, false), (9, false), (10, false), (11, false), (12, false), (13, false), (14, false), (15, false), (16, true)] (by kernel_rfl) ?_
            intro K wD2 hK hwD2
            have M := M.drew hwD2
            have hrow := RowAt.new hrow (Frm.drw hwD2)
            refine x_move rfl rfl rfl rfl ?_
            refine x_move rfl rfl rfl rfl ?_
            refine x_ia i rfl rfl rfl Try.underlying22 sz25 rfl rfl rfl (by omega) ?_
            refine x_fa rfl rfl rfl fo25_2 rfl ?_
            refine x_ld rfl rfl rfl Try.underlying23 rfl rfl (RowAt.cell hrow (j := 2) rfl) ?_
            refine x_move rfl rfl rfl rfl ?_
            refine x_move rfl rfl rfl rfl ?_
            refine x_move rfl rfl rfl rfl ?_
            refine x_ia i rfl rfl rfl Try.underlying22 sz25 rfl rfl rfl (by omega) ?_
            refine x_fa rfl rfl rfl fo25_2 rfl ?_
            refine x_ld rfl rfl rfl Try.underlying23 rfl rfl (RowAt.cell hrow (j := 2) rfl) ?_
            refine x_move rfl rfl rfl rfl ?_
            refine x_ia k rfl rfl rfl Try.underlying23 sz5 rfl rfl rfl (by omega) ?_
            refine x_ld rfl rfl rfl Try.underlying5 rfl rfl (cell_of (M.get (b := bk) (List.mem_append_right _ List.mem_cons_self)) (by simpa using hy)) ?_
            refine x_add (((y + 1 : UInt8).toNat : Nat) : Int) rfl rfl rfl rfl rfl (u8_succ y) ?_
            refine x_ia k rfl rfl rfl Try.underlying23 sz5 rfl rfl rfl (by omega) ?_
            refine x_st [_] (cs2.set k (byteV (y + 1))) rfl rfl rfl sz5 rfl rfl rfl rfl (M.get (b := bk) (List.mem_append_right _ List.mem_cons_self)) rfl (by rw [Nat.ble_eq]; simp; omega) (by simp [List.set_eq_take_append_cons_drop, hklt, byteV]) ?_
            intro wst2 hwst2
            have M := M.put2 hwst2
            refine ⟨⟨.inl (by kernel_rfl), .inl (by kernel_rfl), .inl (by kernel_rfl), trivial⟩, ?_⟩
            refine Ex.done (hK _ _ ?_)
            refine At.blk_n ?_
            refine At.then_n ?_
            refine W.sub [(5, _), (7, _), (8, _), (9, _), (10, _), (11, _), (12, _)] ⟨rfl, rfl, rfl, rfl, rfl, rfl, rfl, trivial⟩ ?_
            refine W.reg [(0, false), (1, false), (2, false)] (by kernel_rfl) ?_
            intro K hK
            refine x_move rfl rfl rfl rfl ?_
            refine x_add _ rfl rfl rfl rfl rfl (wadd (by omega) (by omega)) ?_
            refine x_assign rfl rfl rfl rfl ?_
            refine Ex.done (hK _ _ ?_)
            exact At.back ((k + 1, A ++ (bk, Obj.cells (cs2.set k (byteV (y + 1))).toArray T (0, 0)) :: B)) ⟨rfl, rfl, rfl, rfl, rfl, rfl, rfl, trivial⟩ ⟨by omega, fun f hf => WrN.set (hwr3 f hf) hu8 hn (by omega), by simpa using M⟩ (by first | omega | (simp only; omega) | (simp; done) | (simp; omega))
          · try simp only [decide_eq_true_eq, decide_eq_false_iff_not, Bool.not_eq_true', Bool.not_eq_false', beq_iff_eq, bne_iff_ne, ne_eq, Bool.not_eq_eq_eq_not, Bool.not_true, Bool.not_false, beq_eq_false_iff_ne, bne_eq_false_iff_eq, Bool.not_not, gt_iff_lt, ge_iff_le] at hco7
            refine W.exit ?_
            refine At.then_x ?_
            refine At.loop_x ?_
            refine At.blk_x ?_
            refine At.blk_n ?_
            refine At.then_n ?_
            refine W.sub [(5, _), (7, _), (8, _), (9, _), (10, _), (11, _)] ⟨rfl, rfl, rfl, rfl, rfl, rfl, trivial⟩ ?_
            refine W.reg [(0, false), (1, false), (2, false)] (by kernel_rfl) ?_
            intro K hK
            refine x_move rfl rfl rfl rfl ?_
            refine x_add _ rfl rfl rfl rfl rfl (wadd (by omega) (by omega)) ?_
            refine x_assign rfl rfl rfl rfl ?_
            refine Ex.done (hK _ _ ?_)
            exact At.back ((i + 1, Ld3)) ⟨rfl, rfl, rfl, rfl, rfl, rfl, trivial⟩ ⟨by omega, hwr3, M⟩ (by first | omega | (simp only; omega) | (simp; done) | (simp; omega))
        · try simp only [decide_eq_true_eq, decide_eq_false_iff_not, Bool.not_eq_true', Bool.not_eq_false', beq_iff_eq, bne_iff_ne, ne_eq, Bool.not_eq_eq_eq_not, Bool.not_true, Bool.not_false, beq_eq_false_iff_ne, bne_eq_false_iff_eq, Bool.not_not, gt_iff_lt, ge_iff_le] at hco6
          refine W.exit ?_
          refine At.then_x ?_
          refine At.loop_x ?_
          refine At.blk_x ?_
          refine At.then_n ?_
          refine W.seq ?_
          refine W.seq ?_
          refine W.sub [(7, _), (8, _), (9, _), (10, _)] ⟨rfl, rfl, rfl, rfl, trivial⟩ ?_
          refine W.reg [(0, false), (1, false), (2, false), (3, false), (4, false), (5, false), (6, false), (7, false), (8, false), (9, false)] (by kernel_rfl) ?_
          intro K hK
          refine x_move rfl rfl rfl rfl ?_
          refine x_move rfl rfl rfl rfl ?_
          refine x_nei false rfl rfl rfl rfl rfl (by simp) ?_
          refine x_move rfl rfl rfl rfl ?_
          refine x_move rfl rfl rfl rfl ?_
          refine x_nepn (decide ((ofL l).2 = 0)) rfl rfl rfl Try.underlying27 rfl rfl (by rw [hpo]; simp) ?_
          refine x_move rfl rfl rfl rfl ?_
          refine x_eqi (decide ((ofL l).2 = 0)) rfl rfl rfl rfl rfl (by rw [Bool.eq_iff_iff]; simp) ?_
          refine x_neb false rfl rfl rfl Try.underlying4 rfl rfl (by simp) ?_
          refine x_pickF rfl rfl rfl rfl rfl ?_
          refine Ex.done (hK _ _ ?_)
          refine At.then_n ?_
          refine W.condF rfl ?_
          refine W.skip ?_
          refine At.then_n ?_
          refine W.seq ?_
          refine W.sub [(7, _), (9, _)] ⟨rfl, rfl, trivial⟩ ?_
          refine W.regD (by kernel_rfl) #[0, 1, 3, 7, 15, 7, 39, 127, 255, 511, 1023, 2047, 4095] [(0, false), (1, false), (2, false), (3, false), (5, false), (6, false), (4, true), (7, true), (8, false), (9, false), (10, true), (11, false), (12, false)] (by kernel_rfl) ?_
          intro K wD3 hK hwD3
          have M := M.drew hwD3
          refine x_move rfl rfl rfl rfl ?_
          refine x_eqpn (!decide ((ofL l).2 = 0)) rfl rfl rfl Try.underlying27 rfl rfl hpo ?_
          refine x_move rfl rfl rfl rfl ?_
          refine Ex.split 121 rfl (fun hsp3 => ?_) (fun hsp3 => ?_)
          ·
            try simp only [decide_eq_true_eq, decide_eq_false_iff_not, Bool.not_eq_true', Bool.not_eq_false', beq_iff_eq, bne_iff_ne, ne_eq, Bool.not_eq_eq_eq_not, Bool.not_true, Bool.not_false, beq_eq_false_iff_ne, bne_eq_false_iff_eq, Bool.not_not, gt_iff_lt, ge_iff_le] at hsp3
            refine Ex.skip_ rfl rfl rfl ?_
            refine Ex.skip_ rfl rfl rfl ?_
            refine Ex.skip_ rfl rfl rfl ?_
            refine Ex.skipm_ rfl rfl rfl ?_
            refine Ex.skipm_ rfl rfl rfl ?_
            refine x_pickT rfl rfl rfl rfl rfl ?_
            refine x_move rfl rfl rfl rfl ?_
            refine x_call rfl rfl rfl rfl rfl en11 (lives16_c) ?_
            rintro r_ wcall5 ⟨rfl, hncall5⟩
            have M := M.new hncall5
            refine ⟨trivial, ?_⟩
            refine x_pickT rfl rfl rfl rfl rfl ?_
            refine x_assign rfl rfl rfl rfl ?_
            refine Ex.done (hK _ _ ?_)
            refine At.then_n ?_
            refine W.ret ?_
            refine At.ret1 (.tmp 2) rfl ⟨rfl, trivial⟩ ?_
            exact ⟨rfl, M.frm⟩
          ·
            try simp only [decide_eq_true_eq, decide_eq_false_iff_not, Bool.not_eq_true', Bool.not_eq_false', beq_iff_eq, bne_iff_ne, ne_eq, Bool.not_eq_eq_eq_not, Bool.not_true, Bool.not_false, beq_eq_false_iff_ne, bne_eq_false_iff_eq, Bool.not_not, gt_iff_lt, ge_iff_le] at hsp3
            have h0 : (ofL l).2 = 0 := by simpa using hsp3
            obtain ⟨E, bt, hpo2, hTB, hR⟩ := htr h0
            rw [hpo2]
            refine x_move rfl rfl rfl rfl ?_
            refine x_fa rfl rfl rfl fo32_0 rfl ?_
            refine x_ld rfl rfl rfl Try.underlying22 rfl rfl (cell_of (M.get (b := bal1) (o := Obj.cells [.slice pu (ofL l).1.length cu].toArray 32 (0, 0)) (by simp [hY])) rfl) ?_
            refine x_call rfl rfl rfl rfl rfl en15 (files_r (L := Lr ++ ((bal1, Obj.cells [.slice pu (ofL l).1.length cu].toArray 32 (0, 0)) :: (Lo ++ Ld2))) (M.perm (by rw [hY, hTB]; exact perm_c fun p => by simp only [List.countP_append, List.countP_cons]; omega)) hR) ?_
            rintro r_ w6 ⟨L6, hl6, M⟩
            refine ⟨⟨.inr (cell_of (M.get (b := bal1) (o := Obj.cells [.slice pu (ofL l).1.length cu].toArray 32 (0, 0)) (by simp [hY])) rfl), trivial⟩, ?_⟩
            refine x_call rfl rfl rfl rfl rfl en14 (fsame_c (filesO_get hl6 (fun x hx => M.get (by simp [hx]))) (hu.at_ M (fun y hy => by simp [hy])) (by have := hR.le; omega)) ?_
            rintro r_ w7 ⟨rfl, hn7⟩
            have M := M.new hn7
            rw [decide_eq_true rfl]
            refine ⟨⟨.inl (by kernel_rfl), trivial⟩, ?_⟩
            refine x_pickF rfl rfl rfl rfl rfl ?_
            refine x_move rfl rfl rfl rfl ?_
            refine x_call rfl rfl rfl rfl rfl en11 (lives16_c) ?_
            rintro r_ wcall8 ⟨rfl, hncall8⟩
            have M := M.new hncall8
            refine ⟨⟨.inl (by kernel_rfl), trivial⟩, ?_⟩
            refine x_pickT rfl rfl rfl rfl rfl ?_
            refine x_assign rfl rfl rfl rfl ?_
            refine Ex.done (hK _ _ ?_)
            refine At.then_n ?_
            refine W.ret ?_
            refine At.ret1 (.tmp 2) rfl ⟨rfl, trivial⟩ ?_
            exact ⟨rfl, M.frm⟩
end Go.Proofs.Ytccfmfehfhfhhaa

namespace Go.Proofs.Ytccfmfehfhfhhaa
open Go Go.Fw Go.ChangeShapes Go.WideShapes Go.ChangeAt Go.RowKit
set_option linter.unusedVariables false
set_option linter.unusedSimpArgs false

theorem cInt : Try.prog.cellsOf 3 = 1 := by kernel_rfl
theorem cBool : Try.prog.cellsOf 4 = 1 := by kernel_rfl
theorem cBytes : Try.prog.cellsOf 23 = 1 := by kernel_rfl
theorem cByte : Try.prog.cellsOf 5 = 1 := by kernel_rfl
theorem cAct : Try.prog.cellsOf 43 = 4 := by kernel_rfl
theorem cFile : Try.prog.cellsOf 25 = 3 := by kernel_rfl
section
variable {H : Type} {enc : TypeId × Value → H} {W : World} {sp : Nat → Bool}
abbrev ActV := Int × List UInt8 × List UInt8 × (Value × List UInt8)
abbrev FileV := List UInt8 × Bool × (Value × List UInt8)
def actE (a : ActV) : List Value := [.int .i64 a.1, strV a.2.1, strV a.2.2.1, a.2.2.2.1]
def fileE (a : FileV) : List Value := [strV a.1, .bool a.2.1, a.2.2.1]
def toAc (a : ActV) : Ac := ⟨a.1, a.2.1, a.2.2.1, a.2.2.2.2⟩
def toRaw (a : FileV) : Raw := (a.1, a.2.1, a.2.2.2)
theorem rd_bytes16 : Rd enc Try.prog W sp 23 (fun a : Value × List UInt8 => [a.1]) (fun a d => BytesAt W a.1 a.2 ∧ a.2.length ≤ maxLen ∧ ((d = .nil ∧ a.2 = []) ∨ ∃ ds rest, d = .slice ds rest ∧ ds.length = a.2.length)) := rd_bytes Try.underlying23 Try.underlying5 cByte
theorem rd_act : Rd enc Try.prog W sp 43 actE (fun a d => BytesAt W a.2.2.2.1 a.2.2.2.2) := fun fuel cs x h => by
  obtain ⟨a, h1, d0, d1, d2, d3, _, _, _, _, h2⟩ := rd_struct4 (R0 := _) (R1 := _) (R2 := _) (R3 := _) Try.underlying43 cAct ⟨rfl, cInt⟩ ⟨rfl, cStr⟩ ⟨rfl, cStr⟩ ⟨rfl, cBytes⟩ (rd_int Try.underlying3) (rd_string Try.underlying9) (rd_string Try.underlying9) rd_bytes16 fuel cs x h
  exact ⟨a, h1, h2.1⟩
theorem bulk_pos (d : DataW H) : 1 ≤ Rows.uptoBulk d := by
  cases d with
  | lit l => cases l <;> simp [Rows.uptoBulk]
  | _ => simp [Rows.uptoBulk]
theorem bulk_len : ∀ ds : List (DataW H), ds.length ≤ Rows.uptoBulkAll ds
  | [] => Nat.zero_le _
  | d :: ds => by
    have h1 := bulk_pos d
    have h2 := bulk_len ds
    simp only [Rows.uptoBulkAll, List.length_cons]
    omega
theorem bulk_mem {d : DataW H} : ∀ {ds : List (DataW H)}, d ∈ ds → Rows.uptoBulk d ≤ Rows.uptoBulkAll ds
  | e :: ds, h => by
    simp only [Rows.uptoBulkAll]
    rcases List.mem_cons.1 h with rfl | h
    · omega
    · have := bulk_mem h
      omega
theorem rd_file : Rd enc Try.prog W sp 25 fileE (fun a d => BytesAt W a.2.2.1 a.2.2.2 ∧ a.2.2.2.length ≤ Rows.uptoBulk d) := fun fuel cs x h => by
  obtain ⟨a, h1, d0, d1, d2, hd, _, _, h2⟩ := rd_struct3 (R0 := _) (R1 := _) (R2 := _) Try.underlying25 cFile ⟨rfl, cStr⟩ ⟨rfl, cBool⟩ ⟨rfl, cBytes⟩ (rd_string Try.underlying9) (rd_bool Try.underlying4) rd_bytes16 fuel cs x h
  refine ⟨a, h1, h2.1, ?_⟩
  rw [hd]
  have h5 : Rows.uptoBulk d2 ≤ Rows.uptoBulkAll [d0, d1, d2] := bulk_mem (by simp)
  simp only [Rows.uptoBulk]
  rcases h2.2.2 with ⟨h3, h4⟩ | ⟨ds, rest, h3, h4⟩
  · rw [h4]; exact Nat.zero_le _
  · rw [← h4]
    have h6 : Rows.uptoBulk d2 = Rows.uptoBulkAll ds + Rows.uptoBulkAll rest + 1 := by rw [h3]; simp only [Rows.uptoBulk]
    have := bulk_len ds
    omega
theorem acts_of {R : ActV → DataW H → Prop} (hR : ∀ a d, R a d → BytesAt W a.2.2.2.1 a.2.2.2.2) {v : Value} {l : List ActV} {d : DataW H} (h : SlR W 4 actE R (v, l) d) : ActsAt W v (l.map toAc) := by
  obtain ⟨h1, _, h3, _⟩ := h
  refine ⟨l.map fun a => (toAc a, a.2.2.2.1), by simp, ?_, fun f hf => ?_⟩
  · have e : (l.map fun a => (toAc a, a.2.2.2.1)).flatMap aC = l.flatMap actE := by rw [List.flatMap_map]; rfl
    rw [e, List.length_map]; exact h1
  · obtain ⟨a, ha, rfl⟩ := List.mem_map.1 hf
    obtain ⟨_, d', hd⟩ := h3 a ha
    exact hR a d' hd
theorem files_bulk {v : Value} {l : List FileV} {d : DataW H} (h : SlR W 3 fileE (fun a d => BytesAt W a.2.2.1 a.2.2.2 ∧ a.2.2.2.length ≤ Rows.uptoBulk d) (v, l) d) (hb : Rows.uptoBulk d ≤ 1048576) : (l.map toRaw).length ≤ 1099511627776 ∧ ∀ x ∈ l.map toRaw, x.2.2.length ≤ 1099511627776 := by
  obtain ⟨_, _, h3, h4⟩ := h
  simp only at h3 h4
  rcases h4 with ⟨_, rfl⟩ | ⟨ds, rest, rfl, h5, h6⟩
  · simp
  · simp only [Rows.uptoBulk] at hb
    have h7 := bulk_len ds
    refine ⟨by rw [List.length_map]; omega, fun x hx => ?_⟩
    obtain ⟨a, ha, rfl⟩ := List.mem_map.1 hx
    obtain ⟨i, hi⟩ := List.mem_iff_getElem?.1 ha
    obtain ⟨d', hd⟩ := get_lt (l := ds) (q := i) (by have := (List.getElem?_eq_some_iff.1 hi).1; omega)
    have h8 := (h6 i a d' hi hd).2
    have h9 := bulk_mem (List.mem_of_getElem? hd)
    show a.2.2.2.length ≤ _
    omega
theorem files_of {R : FileV → DataW H → Prop} (hR : ∀ a d, R a d → BytesAt W a.2.2.1 a.2.2.2) {v : Value} {l : List FileV} {d : DataW H} (h : SlR W 3 fileE R (v, l) d) : FilesAt W v (l.map toRaw) := by
  obtain ⟨h1, _, h3, _⟩ := h
  refine ⟨l.map fun a => (toRaw a, a.2.2.1), by rw [List.map_map]; rfl, ?_, fun f hf => ?_⟩
  · have e : fCs (l.map fun a => (toRaw a, a.2.2.1)) = l.flatMap fileE := by unfold fCs; rw [List.flatMap_map]; rfl
    rw [e, List.length_map]; exact h1
  · obtain ⟨a, ha, rfl⟩ := List.mem_map.1 hf
    obtain ⟨_, d', hd⟩ := h3 a ha
    have hb := hR a d' hd
    obtain ⟨p, c, hs⟩ := hb.shape
    exact ⟨hb, by simp only; rw [hs]; rfl⟩
end
end Go.Proofs.Ytccfmfehfhfhhaa
