/-
  Part R: arguments as they are read; from a law's contract to its row.
-/
import Derived.Test.YtkieecaaijlokaaFwJ
import Derived.WalkKit
import Derived.ProofKit
import Derived.OpenShut
import Derived.Carry
import Derived.JoinedCond
namespace Go.Fw
open Go Go.ChangeShapes Go.WideShapes Go.ChangeAt Go.RowKit
set_option linter.unusedVariables false
set_option linter.unusedSimpArgs false

theorem New.below {w w' : World} (h : New w w') : Below w.heap.size w w' := ⟨h.os, h.tape, h.output, h.size, fun k hk => h.old k hk id⟩
theorem below_new {w w' : World} (h : Below w.heap.size w w') : New w w' := ⟨h.size, fun b hb _ => h.block b hb, by simp, by simp, h.os, h.tape, h.output⟩

section
variable {H : Type} {enc : TypeId × Value → H}

theorem trodAll_below {P : Program} {W W' : World} (hl : laidOutB P = true) (hb : Below W.heap.size W W') : ∀ {ts : List TypeId} {vs : List Value} {ds : List (DataW H)} {ps : List MemPlace}, (∀ t ∈ ts, P.readableRec t = true ∧ t < P.types.size) →
    DataW.TrodAll enc P W 0 (fun _ => true) true ts vs ds ps → (∀ x ∈ ps, x.block < W.heap.size) → DataW.TrodAll enc P W' 0 (fun b => decide (b < W.heap.size)) true ts vs ds ps
  | [], [], [], _, _, h, _ => h
  | t :: ts, v :: vs, d :: ds, ps, ht, ⟨p, q, h1, h2, e⟩, hs =>
    ⟨p, q, Below.trod hl (ht t (by simp)).1 (ht t (by simp)).2 h1 hb (fun x hx => hs x (by rw [e]; simp [hx])), trodAll_below hl hb (fun t h => ht t (by simp [h])) h2 (fun x hx => hs x (by rw [e]; simp [hx])), e⟩

/-- Behind a law that answered true, and turned nothing that lay there. -/
theorem law_post {P : Program} {f : Func} {s : ChangeSpec} {W W' : World} {args : Array Value} {ds gs : List (DataW H)} {before : List MemPlace} {b : TypeId} (hl : laidOutB P = true) (hr : ∀ t ∈ f.params.toList, P.readableRec t = true ∧ t < P.types.size)
    (hv : s.vars = []) (hres : f.resultTypes = #[b]) (hb : P.underlying b = some .bool) (hW : DataW.Whole enc P f.params.toList s.vars false W args.toList ds gs before)
    (hs : s.fn H (ds ++ gs) = { results := [.lit (.bool true)], args := ds }) (hn : New W W') : s.post enc P f false true false false W args (.bool true) W' := by
  have hlt := hW.lt
  have hW0 := hW
  obtain ⟨p, q, hA, hV, rfl, hfz, hnd⟩ := hW
  refine ⟨ds, gs, p ++ q, [], p, q, hW0, ?_, ?_, ?_, (New.below hn).frame _, fun h => by cases h⟩
  · rw [hs, hres]
    exact trodAll_cons_mk (shut_bool hb _) trodAll_mk0
  · rw [hs]
    exact trodAll_below hl (New.below hn) hr hA (fun x hx => hlt x (by simp [hx]))
  · rw [hs]
    rw [hv] at hV ⊢
    obtain ⟨rfl, rfl⟩ := trodVars_none hV
    exact rfl

/-- How values of a type are read: their cells, and what holds of them. -/
def Rd (enc : TypeId × Value → H) (P : Program) (W : World) (sp : Nat → Bool) (t : TypeId) {α : Type} (e1 : α → List Value) (R : α → DataW H → Prop) : Prop :=
  ∀ fuel cs x, DataW.trod enc P W 0 sp true fuel t cs = some x → ∃ a, cs = e1 a ∧ R a x.1

variable {P : Program} {W : World} {sp : Nat → Bool}

theorem rd_string {t : TypeId} (ht : P.underlying t = some .string) : Rd enc P W sp t (fun s : List UInt8 => [strV s]) (fun s d => s.length ≤ maxLen ∧ d = .lit (.string s)) := fun fuel cs x h => by
  obtain ⟨s, rfl, rfl, hm⟩ := DataW.trod_string ht h
  obtain ⟨l, rfl⟩ := strB_of s
  exact ⟨l, rfl, by rw [strB_size] at hm; exact hm, by simp [strB]⟩
theorem rd_int {t : TypeId} {k : IntKind} (ht : P.underlying t = some (.int k)) : Rd enc P W sp t (fun z : Int => [.int k z]) (fun z d => (Lit.int k z).wf = true ∧ d = .lit (.int k z)) := fun fuel cs x h => by
  obtain ⟨n, rfl, rfl, hw⟩ := DataW.trod_int ht h
  exact ⟨n, rfl, hw, rfl⟩
theorem rd_bool {t : TypeId} (ht : P.underlying t = some .bool) : Rd enc P W sp t (fun b : Bool => [.bool b]) (fun b d => d = .lit (.bool b)) := fun fuel cs x h => by
  obtain ⟨n, rfl, rfl⟩ := DataW.trod_bool ht h
  exact ⟨n, rfl, rfl⟩

theorem row_of_cells {w : World} {b off : Nat} {l : List Value} (h : ∀ i u, l[i]? = some u → w.cell? ⟨b, off + i, none⟩ = some u) (hp : 0 < l.length) : RowAt w b off l ∧ b < w.heap.size := by
  have h0 := h 0 l[0] (List.getElem?_eq_getElem hp)
  simp only [World.cell?] at h h0
  cases hb : w.heap[b]? with
  | none => simp [hb] at h0
  | some o =>
    have hlt : b < w.heap.size := (Array.getElem?_eq_some_iff.1 hb).1
    cases o with
    | cells cs T fr =>
      refine ⟨⟨cs, T, fr, hb, ?_⟩, hlt⟩
      apply List.ext_getElem?
      intro i
      rw [List.getElem?_take, List.getElem?_drop]
      rcases Nat.lt_or_ge i l.length with hi | hi
      · rw [if_pos hi, List.getElem?_eq_getElem hi]
        have := h i l[i] (List.getElem?_eq_getElem hi)
        rw [hb] at this
        simpa using this
      · rw [if_neg (by omega), List.getElem?_eq_none hi]
    | _ => simp [hb] at h0

theorem flat_len {α : Type} {e1 : α → List Value} {m : Nat} : ∀ {A : List α}, (∀ a ∈ A, (e1 a).length = m) → (A.flatMap e1).length = A.length * m
  | [], _ => by simp
  | a :: A, h => by
    have := flat_len (A := A) (fun x hx => h x (List.mem_cons_of_mem _ hx))
    rw [List.flatMap_cons, List.length_append, h a (by simp), this, List.length_cons, Nat.succ_mul]; omega
theorem flat_get {α : Type} {e1 : α → List Value} {m : Nat} (hm : 0 < m) : ∀ {A : List α}, (∀ a ∈ A, (e1 a).length = m) → ∀ (i j : Nat) (a : α), A[i]? = some a → j < m → (A.flatMap e1)[i * m + j]? = (e1 a)[j]?
  | [], _, i, j, a, h, _ => by simp at h
  | x :: A, hA, 0, j, a, h, hj => by
    simp at h; subst h
    rw [List.flatMap_cons, List.getElem?_append_left (by rw [hA x (by simp)]; omega)]
    simp
  | x :: A, hA, i + 1, j, a, h, hj => by
    simp at h
    have ih := flat_get hm (A := A) (fun x hx => hA x (List.mem_cons_of_mem _ hx)) i j a h hj
    rw [List.flatMap_cons, List.getElem?_append_right (by rw [hA x (by simp), Nat.succ_mul]; omega), hA x (by simp), ← ih]
    congr 1
    rw [Nat.succ_mul]; omega
theorem flat_drop {α : Type} {e1 : α → List Value} {m : Nat} (hm : 0 < m) {A : List α} (hA : ∀ a ∈ A, (e1 a).length = m) {i : Nat} {a : α} (h : A[i]? = some a) : ((A.flatMap e1).drop (i * m)).take (e1 a).length = e1 a := by
  have ha := hA a (List.mem_of_getElem? h)
  apply List.ext_getElem?
  intro j
  rw [List.getElem?_take, List.getElem?_drop]
  rcases Nat.lt_or_ge j m with hj | hj
  · rw [if_pos (by omega), flat_get hm hA i j a h hj]
  · rw [if_neg (by omega), List.getElem?_eq_none (by omega)]

/-- What a slice that is read holds. -/
def SlR {α : Type} (W : World) (m : Nat) (e1 : α → List Value) (R : α → DataW H → Prop) (a : Value × List α) (d : DataW H) : Prop :=
  Sg W a.1 m a.2.length (a.2.flatMap e1) ∧ a.2.length ≤ maxLen ∧ (∀ x ∈ a.2, (e1 x).length = m ∧ ∃ d', R x d') ∧ ((d = .nil ∧ a.2 = []) ∨ ∃ ds rest, d = .slice ds rest ∧ ds.length = a.2.length ∧ ∀ (i : Nat) x d', a.2[i]? = some x → ds[i]? = some d' → R x d')

theorem add_pl (b off j : Nat) : (⟨b, off, none⟩ : Addr).add j = ⟨b, off + j, none⟩ := by
  unfold Addr.add; split
  · rename_i h; subst h; rfl
  · rfl

theorem rd_slice {t e m : Nat} {α : Type} {e1 : α → List Value} {R : α → DataW H → Prop} (ht : P.underlying t = some (.slice e)) (hc : P.cellsOf e = m) (hm : 0 < m) (hR : Rd enc P W sp e e1 R) :
    Rd enc P W sp t (fun a : Value × List α => [a.1]) (SlR W m e1 R) := fun fuel cs x h => by
  rcases DataW.trod_slice ht h with ⟨rfl, rfl⟩ | ⟨a, len, cap, elems, rest, n, _, rfl, rfl, _, hl, hmx, hlen, hel, _⟩
  · exact ⟨(.slice none 0 0, []), rfl, .inl ⟨rfl, rfl, none, 0, rfl⟩, by simp, by simp, .inl ⟨rfl, rfl⟩⟩
  · have each : ∀ i (hi : i < len), ∃ c x, W.cells? 0 (a.add (i * m)) m = some (e1 c) ∧ elems[i]? = some x ∧ R c x.1 := by
      intro i hi
      have he := hel i hi
      rw [hc, List.getElem?_eq_getElem (by omega)] at he
      simp only [Option.bind_eq_some_iff] at he
      obtain ⟨cs, hcs, ht⟩ := he
      obtain ⟨c, rfl, hr⟩ := hR _ _ _ ht
      exact ⟨c, elems[i], hcs, List.getElem?_eq_getElem (by omega), hr⟩
    let A : List α := (List.range len).attach.map fun ⟨i, hi⟩ => Classical.choose (each i (List.mem_range.1 hi))
    have hAl : A.length = len := by simp [A]
    have hA : ∀ i c, A[i]? = some c → ∃ x, W.cells? 0 (a.add (i * m)) m = some (e1 c) ∧ elems[i]? = some x ∧ R c x.1 := by
      intro i c hac
      have hi : i < len := by rw [← hAl]; exact (List.getElem?_eq_some_iff.1 hac).1
      have : A[i]? = some (Classical.choose (each i hi)) := by
        simp only [A, List.getElem?_map]
        rw [List.getElem?_eq_getElem (by simpa using hi)]
        simp
      rw [this] at hac
      cases hac
      exact Classical.choose_spec (each i hi)
    have hlen1 : ∀ c ∈ A, (e1 c).length = m := by
      intro c hc
      obtain ⟨i, hi⟩ := List.mem_iff_getElem?.1 hc
      obtain ⟨x, h1, _, _⟩ := hA i c hi
      exact (World.cells?_some h1).2.1
    refine ⟨(.slice (some a) len cap, A), rfl, ?_, by rw [hAl]; omega, fun c hc => ?_, .inr ⟨_, _, rfl, by simp [hAl, hlen], fun i c d' hi hd => ?_⟩⟩
    · simp only
      rcases Nat.eq_zero_or_pos len with h0 | h0
      · subst h0
        have : A = [] := List.length_eq_zero_iff.1 hAl
        rw [this]
        exact .inl ⟨rfl, rfl, some a, cap, rfl⟩
      · have hspot : a.spot = none := by
          obtain ⟨c, x, h1, _, _⟩ := each 0 h0
          obtain ⟨_, hl4, hcell⟩ := World.cells?_some h1
          have h2 := hcell 0 (by omega)
          rw [List.getElem?_eq_getElem (by omega)] at h2
          simpa [Addr.add] using World.cell?_spot h2
        obtain ⟨bk, off, spot⟩ := a
        simp only at hspot
        subst hspot
        have hrow := row_of_cells (w := W) (b := bk) (off := off) (l := A.flatMap e1) (fun k u hu => by
          have hk : k < A.length * m := by rw [← flat_len hlen1]; exact (List.getElem?_eq_some_iff.1 hu).1
          have hi : k / m < A.length := Nat.div_lt_of_lt_mul (by rw [Nat.mul_comm]; exact hk)
          have hj : k % m < m := Nat.mod_lt _ hm
          have hkk : k / m * m + k % m = k := by rw [Nat.mul_comm]; exact Nat.div_add_mod k m
          obtain ⟨c, hc⟩ : ∃ c, A[k / m]? = some c := ⟨A[k / m], List.getElem?_eq_getElem hi⟩
          obtain ⟨x, h1, _, _⟩ := hA _ c hc
          obtain ⟨_, hl4, hcell⟩ := World.cells?_some h1
          have h2 := hcell (k % m) (by omega)
          have h3 := flat_get hm hlen1 (k / m) (k % m) c hc hj
          rw [hkk, hu] at h3
          rw [add_pl, add_pl, ← h3] at h2
          rw [show off + k = off + k / m * m + k % m from by omega]
          exact h2) (by rw [flat_len hlen1, hAl]; exact Nat.mul_pos h0 hm)
        obtain ⟨⟨cs, T, fr, hb, htk⟩, _⟩ := hrow
        rw [flat_len hlen1] at htk
        exact .inr (.inr ⟨bk, off, cap, cs, T, fr, by rw [hAl], by rw [hAl]; omega, hb, htk, flat_len hlen1⟩)
    · obtain ⟨i, hi⟩ := List.mem_iff_getElem?.1 hc
      obtain ⟨x, _, _, hr⟩ := hA i c hi
      exact ⟨hlen1 c hc, x.1, hr⟩
    · obtain ⟨x, _, h2, h3⟩ := hA i c hi
      rw [List.getElem?_map, h2] at hd
      cases hd
      exact h3

/-- An argument that is one cell. -/
theorem open1 {t : TypeId} {α : Type} {e1 : α → List Value} {R : α → DataW H → Prop} (hR : Rd enc P W sp t e1 R) {v : Value} {d : DataW H} {p : List MemPlace} (h : DataW.Trod enc P W 0 sp true t v d p) (hv : v.cells = #[v]) : ∃ a, [v] = e1 a ∧ R a d := by
  obtain ⟨n, hn⟩ := h
  rw [hv] at hn
  exact hR _ _ _ hn
end
end Go.Fw
