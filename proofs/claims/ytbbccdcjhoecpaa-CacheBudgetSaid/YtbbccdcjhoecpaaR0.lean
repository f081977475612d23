/-
  From a law's contract to its row.
-/
import Derived.Test.YtbbccdcjhoecpaaFwH
import Derived.Test.YtbbccdcjhoecpaaK1
import Derived.Test.YtbbccdcjhoecpaaRows
import Derived.WalkKit
import Derived.ProofKit
import Derived.OpenShut
import Derived.Carry
namespace Go.Proofs.Ytbbccdcjhoecpaa
open Go Go.Fw Go.ChangeShapes Go.WideShapes Go.ChangeAt Go.RowKit
set_option linter.unusedVariables false
set_option linter.unusedSimpArgs false

theorem own : ownKnob Try.prog.godebug = none := by kernel_rfl
theorem laid : laidOutB Try.prog = true := by kernel_rfl

theorem New.below {w w' : World} (h : New w w') : Below w.heap.size w w' := ⟨h.os, h.tape, h.output, h.size, fun k hk => h.old k hk id⟩

section
variable {H : Type} {enc : TypeId × Value → H}

theorem trodAll_below {P : Program} {W W' : World} (hl : laidOutB P = true) (hb : Below W.heap.size W W') : ∀ {ts : List TypeId} {vs : List Value} {ds : List (DataW H)} {ps : List MemPlace}, (∀ t ∈ ts, P.readableRec t = true ∧ t < P.types.size) →
    DataW.TrodAll enc P W 0 (fun _ => true) true ts vs ds ps → (∀ x ∈ ps, x.block < W.heap.size) → DataW.TrodAll enc P W' 0 (fun b => decide (b < W.heap.size)) true ts vs ds ps
  | [], [], [], _, _, h, _ => h
  | t :: ts, v :: vs, d :: ds, ps, ht, ⟨p, q, h1, h2, e⟩, hs =>
    ⟨p, q, Below.trod hl (ht t (by simp)).1 (ht t (by simp)).2 h1 hb (fun x hx => hs x (by rw [e]; simp [hx])), trodAll_below hl hb (fun t h => ht t (by simp [h])) h2 (fun x hx => hs x (by rw [e]; simp [hx])), e⟩

/-- Behind a law that answered true, and turned nothing that lay there. -/
theorem law_post {P : Program} {f : Func} {s : ChangeSpec} {W W' : World} {args : Array Value} {ds gs : List (DataW H)} {before : List MemPlace} {b : TypeId} (hl : laidOutB P = true) (hr : ∀ t ∈ f.params.toList, P.readableRec t = true ∧ t < P.types.size)
    (hv : s.vars = []) (hres : f.resultTypes = #[b]) (hb : P.underlying b = some .bool) (hW : DataW.Whole enc P f.params.toList s.vars false W args.toList ds gs before)
    (hs : s.fn H (ds ++ gs) = { results := [.lit (.bool true)], args := ds }) (hn : New W W') : s.post enc P f false true false false W args (.bool true) W' := by
  have hlt := hW.lt
  have hW0 := hW
  obtain ⟨p, q, hA, hV, rfl, hfz, hnd⟩ := hW
  refine ⟨ds, gs, p ++ q, [], p, q, hW0, ?_, ?_, ?_, (New.below hn).frame _, fun h => by cases h⟩
  · rw [hs, hres]
    exact trodAll_cons_mk (shut_bool hb _) trodAll_mk0
  · rw [hs]
    exact trodAll_below hl (New.below hn) hr hA (fun x hx => hlt x (by simp [hx]))
  · rw [hs]
    rw [hv] at hV ⊢
    obtain ⟨rfl, rfl⟩ := trodVars_none hV
    exact rfl

theorem open_key {W : World} {d : DataW H} {p : List MemPlace} {v : Value} {sp : Nat → Bool} {base : Nat} (hval : Value.okWide Try.prog W .any base 29 v) (h : DataW.Trod enc Try.prog W 0 sp true 29 v d p) : ∃ k : Key, v = encK k ∧ k.1.size ≤ maxLen := by
  obtain ⟨cs, rfl, _⟩ := okWide_struct Try.underlying29 hval
  obtain ⟨n, hn⟩ := h
  obtain ⟨xs, m, rfl, hx, hl, hxl, hf⟩ := DataW.trod_struct Try.underlying29 hn
  have hc29 : Try.prog.cellsOf 29 = 2 := by kernel_rfl
  have hc9 : Try.prog.cellsOf 9 = 1 := by kernel_rfl
  have hc3 : Try.prog.cellsOf 3 = 1 := by kernel_rfl
  have hxl : xs.length = 2 := hxl
  have f0 := hf 0 _ rfl
  have f1 := hf 1 _ rfl
  rw [hc29] at hl
  obtain ⟨x0, x1, rfl⟩ : ∃ x0 x1, xs = [x0, x1] := by
    match xs, hxl with
    | [x0, x1], _ => exact ⟨x0, x1, rfl⟩
  have f0 : DataW.trod enc Try.prog W 0 sp true m 9 ((cs.toList.drop 0).take (Try.prog.cellsOf 9)) = some x0 := f0
  have f1 : DataW.trod enc Try.prog W 0 sp true m 3 ((cs.toList.drop 1).take (Try.prog.cellsOf 3)) = some x1 := f1
  rw [hc9] at f0
  rw [hc3] at f1
  obtain ⟨f, e0, _, hsz⟩ := DataW.trod_string Try.underlying9 f0
  obtain ⟨i, e1, _, _⟩ := DataW.trod_int Try.underlying3 f1
  refine ⟨(f, i), ?_, hsz⟩
  unfold encK
  have hl : cs.toList.length = 2 := hl
  obtain ⟨a0, a1, ha⟩ : ∃ a0 a1, cs.toList = [a0, a1] := by
    match hq : cs.toList, hl with
    | [a0, a1], _ => exact ⟨a0, a1, rfl⟩
  rw [ha] at e0 e1
  simp at e0 e1
  subst e0 e1
  cases cs
  simp at ha
  rw [ha]
end
end Go.Proofs.Ytbbccdcjhoecpaa
