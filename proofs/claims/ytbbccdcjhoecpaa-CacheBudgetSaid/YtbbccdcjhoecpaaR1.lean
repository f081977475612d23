/-
  Arguments of bytes and of calls, as they are read.
-/
import Derived.Test.YtbbccdcjhoecpaaR0
import Derived.Test.YtbbccdcjhoecpaaA1
namespace Go.Proofs.Ytbbccdcjhoecpaa
open Go Go.Fw Go.ChangeShapes Go.WideShapes Go.ChangeAt Go.RowKit
set_option linter.unusedVariables false
set_option linter.unusedSimpArgs false

theorem c39 : Try.prog.cellsOf 39 = 4 := by kernel_rfl
theorem c29 : Try.prog.cellsOf 29 = 2 := by kernel_rfl
theorem c31 : Try.prog.cellsOf 31 = 1 := by kernel_rfl
theorem c9 : Try.prog.cellsOf 9 = 1 := by kernel_rfl
theorem c3 : Try.prog.cellsOf 3 = 1 := by kernel_rfl
theorem c5 : Try.prog.cellsOf 5 = 1 := by kernel_rfl

theorem row_of_cells {w : World} {b off : Nat} {l : List Value} (h : ∀ i u, l[i]? = some u → w.cell? ⟨b, off + i, none⟩ = some u) (hp : 0 < l.length) : RowAt w b off l ∧ b < w.heap.size := by
  have h0 := h 0 l[0] (List.getElem?_eq_getElem hp)
  simp only [World.cell?] at h h0
  cases hb : w.heap[b]? with
  | none => simp [hb] at h0
  | some o =>
    have hlt : b < w.heap.size := (Array.getElem?_eq_some_iff.1 hb).1
    cases o with
    | cells cs T fr =>
      refine ⟨⟨cs, T, fr, hb, ?_⟩, hlt⟩
      apply List.ext_getElem?
      intro i
      rw [List.getElem?_take, List.getElem?_drop]
      rcases Nat.lt_or_ge i l.length with hi | hi
      · rw [if_pos hi, List.getElem?_eq_getElem hi]
        have := h i l[i] (List.getElem?_eq_getElem hi)
        rw [hb] at this
        simpa using this
      · rw [if_neg (by omega), List.getElem?_eq_none hi]
    | _ => simp [hb] at h0

section
variable {H : Type} {enc : TypeId × Value → H}

theorem open_bytes {W : World} {base : Nat} {sp : Nat → Bool} {fuel : Nat} {v : Value} {x : DataW H × List MemPlace} (h : DataW.trod enc Try.prog W base sp true fuel 31 [v] = some x) : ∃ b : List UInt8, BytesIn W v b ∧ b.length ≤ maxLen := by
  rcases open_ints Try.underlying31 Try.underlying5 c5 h with ⟨hcs, _⟩ | ⟨a, len, cap, zs, hcs, _, hl, hm, hz, hx, hcell, hwz⟩
  · simp at hcs
    subst hcs
    exact ⟨[], .inl ⟨rfl, none, 0, rfl⟩, by simp⟩
  · simp at hcs
    subst hcs
    have hzl : len ≤ zs.length := by rw [hz]; split <;> omega
    rcases Nat.eq_zero_or_pos len with h0 | h0
    · subst h0
      exact ⟨[], .inl ⟨rfl, some a, cap, rfl⟩, by simp⟩
    · obtain ⟨b, off, rfl, hc⟩ := ints_at hcell (by omega)
      let bs : List UInt8 := (zs.take len).map fun z => UInt8.ofNat z.toNat
      have hbl : bs.length = len := by simp [bs]; omega
      have hv : ∀ z ∈ zs, byteV (UInt8.ofNat z.toNat) = .int .u8 z := fun z hz => by
        have := bounds_u8 (hwz z hz)
        simp only [byteV, UInt8.toNat_ofNat']
        congr 1
        have : z.toNat % 2 ^ 8 = z.toNat := Nat.mod_eq_of_lt (by omega)
        rw [this]; omega
      have hrow := row_of_cells (w := W) (b := b) (off := off) (l := bs.map byteV) (fun i u hu => by
        have hi : i < len := by have := (List.getElem?_eq_some_iff.1 hu).1; simpa [hbl] using this
        rw [hc i (by omega)]
        simp only [bs, List.map_map, List.getElem?_map, List.getElem?_take, if_pos hi] at hu
        rw [List.getElem?_eq_getElem (by omega)] at hu
        simp only [Option.map_some, Function.comp] at hu
        rw [hv _ (List.getElem_mem _)] at hu
        rw [← hu]
        simp [List.getElem?_eq_getElem (show i < zs.length by omega)]) (by simp [hbl]; omega)
      obtain ⟨⟨cs, T, fr, hb, ht⟩, _⟩ := hrow
      refine ⟨bs, .inr ⟨fun e => by rw [e] at hbl; simp at hbl; omega, .inr ⟨b, off, cap, cs, T, fr, by rw [hbl], by omega, hb, ?_, by simp⟩⟩, by omega⟩
      rw [Nat.mul_one]
      simpa using ht

theorem open_acts {W : World} {d : DataW H} {p : List MemPlace} {v : Value} {sp : Nat → Bool} {base : Nat} (hval : Value.okWide Try.prog W .any base 35 v) (h : DataW.Trod enc Try.prog W 0 sp true 35 v d p) : ∃ A : List Ac, ActsIn W v A ∧ ∀ a ∈ A, a.b.length ≤ maxLen := by
  obtain ⟨a1, n1, cap1, rfl⟩ := okWide_slice Try.underlying35 hval
  obtain ⟨n, hn⟩ := h
  have hn : DataW.trod enc Try.prog W 0 sp true n 35 [.slice a1 n1 cap1] = some (d, p) := hn
  rcases DataW.trod_slice Try.underlying35 hn with ⟨hcs, _⟩ | ⟨a, len, cap, elems, rest, m, _, hcs, hx, _, hl, hm, hlen, hel, _⟩
  · simp at hcs
    obtain ⟨rfl, rfl, rfl⟩ := hcs
    exact ⟨[], ⟨none, 0, rfl, by simp, fun i a ha => by simp at ha⟩, by simp⟩
  · simp at hcs
    obtain ⟨rfl, rfl, rfl⟩ := hcs
    have hspot : 0 < n1 → a.spot = none := by
      intro hp
      have he := hel 0 hp
      rw [c39, List.getElem?_eq_getElem (by omega)] at he
      simp only [Option.bind_eq_some_iff] at he
      obtain ⟨cs, hcs, _⟩ := he
      obtain ⟨_, hlen4, hcell⟩ := World.cells?_some hcs
      have h0 := hcell 0 (by omega)
      rw [List.getElem?_eq_getElem (by omega)] at h0
      simpa [Addr.add] using World.cell?_spot h0
    have each : ∀ i, i < n1 → ∃ ac : Ac, (∃ b off, a = ⟨b, off, none⟩ ∧ b < W.heap.size ∧ RowAt W b (off + i * 4) ac.cells ∧ BytesIn W ac.sv ac.b) ∧ ac.b.length ≤ maxLen := by
      intro i hi
      have he := hel i hi
      rw [c39, List.getElem?_eq_getElem (by omega)] at he
      simp only [Option.bind_eq_some_iff] at he
      obtain ⟨cs, hcs, ht⟩ := he
      obtain ⟨hbs, hlen4, hcell⟩ := World.cells?_some hcs
      obtain ⟨xs, m2, rfl, _, hl4, hxl, hf⟩ := DataW.trod_struct Try.underlying39 ht
      have f0 : DataW.trod enc Try.prog W 0 sp true m2 3 ((cs.drop 0).take (Try.prog.cellsOf 3)) = xs[0]? := hf 0 _ rfl
      have f1 : DataW.trod enc Try.prog W 0 sp true m2 29 ((cs.drop 1).take (Try.prog.cellsOf 29)) = xs[1]? := hf 1 _ rfl
      have f2 : DataW.trod enc Try.prog W 0 sp true m2 31 ((cs.drop 3).take (Try.prog.cellsOf 31)) = xs[2]? := hf 2 _ rfl
      have hxl : xs.length = 3 := hxl
      rw [c3, List.getElem?_eq_getElem (by omega)] at f0
      rw [c29, List.getElem?_eq_getElem (by omega)] at f1
      rw [c31, List.getElem?_eq_getElem (by omega)] at f2
      obtain ⟨u0, u1, u2, u3, rfl⟩ : ∃ u0 u1 u2 u3, cs = [u0, u1, u2, u3] := by
        match cs, hlen4 with
        | [u0, u1, u2, u3], _ => exact ⟨u0, u1, u2, u3, rfl⟩
      obtain ⟨kind, e0, _, _⟩ := DataW.trod_int Try.underlying3 f0
      obtain ⟨ys, m3, rfl, _, _, hyl, hg⟩ := DataW.trod_struct Try.underlying29 f1
      have hyl : ys.length = 2 := hyl
      have g0 : DataW.trod enc Try.prog W 0 sp true m3 9 (([u1, u2].drop 0).take (Try.prog.cellsOf 9)) = ys[0]? := hg 0 _ rfl
      have g1 : DataW.trod enc Try.prog W 0 sp true m3 3 (([u1, u2].drop 1).take (Try.prog.cellsOf 3)) = ys[1]? := hg 1 _ rfl
      rw [c9, List.getElem?_eq_getElem (by omega)] at g0
      rw [c3, List.getElem?_eq_getElem (by omega)] at g1
      obtain ⟨f, e1, _, _⟩ := DataW.trod_string Try.underlying9 g0
      obtain ⟨ix, e2, _, _⟩ := DataW.trod_int Try.underlying3 g1
      have f2 : DataW.trod enc Try.prog W 0 sp true _ 31 [u3] = some _ := f2
      obtain ⟨b, hb, hbm⟩ := open_bytes f2
      simp at e0 e1 e2
      subst e0 e1 e2
      refine ⟨⟨kind, (f, ix), u3, b⟩, ?_, hbm⟩
      obtain ⟨bk, off, spot⟩ := a
      have hsp := hspot (by omega)
      simp only at hsp
      subst hsp
      have hr := row_of_cells (w := W) (b := bk) (off := off + i * 4) (l := [.int .i64 kind, .string f, .int .i64 ix, u3]) (fun j u hu => by
        have hj : j < 4 := (List.getElem?_eq_some_iff.1 hu).1
        have := hcell j hj
        rw [add_plain, add_plain] at this
        rw [this]
        exact hu) (by simp)
      exact ⟨bk, off, rfl, hr.2, hr.1, hb⟩
    let A : List Ac := (List.range n1).attach.map fun ⟨i, hi⟩ => Classical.choose (each i (List.mem_range.1 hi))
    have hAl : A.length = n1 := by simp [A]
    have hA : ∀ i ac, A[i]? = some ac → (∃ b off, a = ⟨b, off, none⟩ ∧ b < W.heap.size ∧ RowAt W b (off + i * 4) ac.cells ∧ BytesIn W ac.sv ac.b) ∧ ac.b.length ≤ maxLen := by
      intro i ac hac
      have hi : i < n1 := by rw [← hAl]; exact (List.getElem?_eq_some_iff.1 hac).1
      have : A[i]? = some (Classical.choose (each i hi)) := by
        simp only [A, List.getElem?_map]
        rw [List.getElem?_eq_getElem (by simpa using hi)]
        simp
      rw [this] at hac
      cases hac
      exact Classical.choose_spec (each i hi)
    refine ⟨A, ⟨some a, cap1, by rw [hAl], by unfold maxLen at hm; omega, fun i ac hac => ?_⟩, fun ac hac => ?_⟩
    · obtain ⟨⟨b, off, h1, h2, h3, h4⟩, _⟩ := hA i ac hac
      exact ⟨b, off, by rw [h1], h2, h3, h4⟩
    · obtain ⟨i, hi⟩ := List.mem_iff_getElem?.1 hac
      exact (hA i ac hi).2
end
end Go.Proofs.Ytbbccdcjhoecpaa
