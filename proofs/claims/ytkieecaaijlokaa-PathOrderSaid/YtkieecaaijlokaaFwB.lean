/-
  Part B: frames as lists of slots; one law an operation.
-/
import Derived.Test.YtkieecaaijlokaaFwA
namespace Go.Fw
open Go
set_option linter.unusedVariables false
set_option linter.unusedSimpArgs false

abbrev Env := List (Nat × Value)

def look : Env → Nat → Option Value
  | [], _ => none
  | (s, v) :: r, t => bif Nat.beq s t then some v else look r t

def ev? (F : Env) : Operand → Option Value
  | .tmp t => look F t
  | .const v => some v
  | .global g => some (.pointer (some ⟨g, 0, none⟩))
  | .func f => some (.func (.func f) #[] #[])

def evs? (F : Env) : List Operand → Option (List Value)
  | [] => some []
  | x :: r => match ev? F x, evs? F r with
    | some v, some vs => some (v :: vs)
    | _, _ => none

structure Knows (n : Nat) (F : Env) (ds : List Deferred) (a : Act) : Prop where
  size : a.tmps.size = n
  defers : a.defers = ds
  slot : ∀ t v, look F t = some v → a.tmps[t]? = some v

theorem Knows.eval {n : Nat} {F : Env} {ds : List Deferred} {a : Act} (h : Knows n F ds a) {x : Operand} {v : Value} (hx : ev? F x = some v) : a.eval x = v := by
  cases x with
  | tmp t => have := h.slot t v hx; simp [Act.eval, this]
  | const c => simp [ev?] at hx; simp [Act.eval, hx]
  | global g => simp [ev?] at hx; simp [Act.eval, hx]
  | func f => simp [ev?] at hx; simp [Act.eval, hx]

theorem Knows.evals {n : Nat} {F : Env} {ds : List Deferred} {a : Act} (h : Knows n F ds a) : ∀ {l : List Operand} {vs : List Value}, evs? F l = some vs → l.map a.eval = vs
  | [], vs, hx => by simp [evs?] at hx; simp [hx]
  | x :: r, vs, hx => by
    unfold evs? at hx
    split at hx
    · rename_i v vs' h1 h2
      simp only [Option.some.injEq] at hx
      subst hx
      simp [h.eval h1, h.evals h2]
    · cases hx

def putE (F : Env) (d : Option Tmp) (v : Value) : Env := match d with | some d => (d, v) :: F | none => F
def dstOK (n : Nat) (d : Option Tmp) : Bool := match d with | some d => Nat.blt d n | none => true

theorem look_put (F : Env) (d t : Nat) (v : Value) : look ((d, v) :: F) t = if d = t then some v else look F t := by
  simp only [look]
  by_cases h : d = t
  · subst h; simp
  · rw [if_neg h]
    cases hb : Nat.beq d t with
    | true => exact absurd (Nat.eq_of_beq_eq_true hb) h
    | false => rfl

theorem Knows.put {n : Nat} {F : Env} {ds : List Deferred} {a : Act} (h : Knows n F ds a) {d : Option Tmp} (hd : dstOK n d = true) (v : Value) : Knows n (putE F d v) ds (a.put d v) := by
  cases d with
  | none => exact h
  | some d =>
    have hlt : d < n := by simpa [dstOK, Nat.blt_eq] using hd
    refine ⟨by simp [Act.put, h.size], by simp [Act.put, h.defers], fun t u hu => ?_⟩
    simp only [putE, look_put] at hu
    by_cases hdt : d = t
    · subst hdt
      simp only [if_true, Option.some.injEq] at hu
      subst hu
      simp [Act.put, h.size, hlt]
    · rw [if_neg hdt] at hu
      simp only [Act.put]
      rw [Array.getElem?_setIfInBounds_ne hdt]
      exact h.slot t u hu

def guardV (ops : Array Oper) (F : Env) : Option (Nat × Bool) → Option Bool
  | none => some true
  | some (j, want) => match (ops[j]?).bind (·.dst) with
    | none => some false
    | some t => match look F t with
      | some (.bool b) => some (b == want)
      | some _ => some false
      | none => none

theorem Knows.wanted {n : Nat} {F : Env} {ds : List Deferred} {a : Act} (h : Knows n F ds a) {ops : Array Oper} {o : Oper} {b : Bool} (hg : guardV ops F o.guard = some b) :
    Region.wanted o (yielded ops a.tmps) = b := by
  unfold Region.wanted
  cases hgo : o.guard with
  | none => rw [hgo] at hg; simpa [guardV] using hg
  | some jw =>
    obtain ⟨j, want⟩ := jw
    rw [hgo] at hg
    simp only [guardV] at hg
    simp only [yielded]
    cases hd : (ops[j]?).bind (·.dst) with
    | none => rw [hd] at hg; simp only [Option.some.injEq] at hg; subst hg; rfl
    | some t =>
      rw [hd] at hg
      simp only at hg
      cases hl : look F t with
      | none => rw [hl] at hg; cases hg
      | some v =>
        have h1 := h.slot t v hl
        rw [hl] at hg
        simp only [Option.bind_some, h1]
        cases v with
        | bool c => simp only [Option.some.injEq] at hg; subst hg; cases c <;> cases want <;> rfl
        | _ => simp only [Option.some.injEq] at hg; subst hg; rfl

/-- What is asked again of what may still come up. -/
def Fits (P : Program) (T : List (Nat × (World → Prop))) (TW : List Watch) : Prop :=
  ∀ x ∈ TW, (∀ w', x.s.run P w' = .ok (.value x.v) w') ∨ ∃ y ∈ T, y.1 = x.i ∧ ∀ w', y.2 w' → x.s.run P w' = .ok (.value x.v) w'

def pend (B : Array Nat) (i : Nat) : List (Nat × (World → Prop)) → World → Prop
  | [], _ => True
  | y :: T, w' => (anc B y.1 i = true ∨ y.2 w') ∧ pend B i T w'

theorem pend_mem {B : Array Nat} {i : Nat} {w' : World} : ∀ {T : List (Nat × (World → Prop))}, pend B i T w' → ∀ y ∈ T, anc B y.1 i = true ∨ y.2 w'
  | [], _, y, hy => by cases hy
  | z :: T, h, y, hy => by
    rcases List.mem_cons.1 hy with rfl | hy
    · exact h.1
    · exact pend_mem h.2 y hy

def addT (dr : Bool) (i : Nat) (R : World → Prop) (T : List (Nat × (World → Prop))) : List (Nat × (World → Prop)) := bif dr then (i, R) :: T else T

/-- What is asked at the end: of the slots, of what may still come up, of the world. -/
abbrev KT := Env → List (Nat × (World → Prop)) → World → Prop

def fin (n : Nat) (ds : List Deferred) (K : KT) (a : Act) (w : World) : Prop := ∃ F', Knows n F' ds a ∧ ∀ T, K F' T w
def finT (P : Program) (n : Nat) (ds : List Deferred) (K : KT) (TW : List Watch) (a : Act) (w : World) : Prop := ∃ F' T, Knows n F' ds a ∧ Fits P T TW ∧ K F' T w

structure Ex (P : Program) (n : Nat) (ops : Array Oper) (B : Array Nat) (dr : Bool) (K : KT) (s : List (Nat × Bool)) (F : Env) (ds : List Deferred) (T : List (Nat × (World → Prop))) (w : World) : Prop where mk ::
  out : ∀ a TW, Knows n F ds a → Fits P T TW → bif dr then runS P ops B (finT P n ds K) s TW a w else runL P ops (fin n ds K) s a w
section
variable {P : Program} {n : Nat} {ops : Array Oper} {B : Array Nat} {dr : Bool} {K : KT} {s : List (Nat × Bool)} {F : Env} {ds : List Deferred} {T : List (Nat × (World → Prop))} {w : World} {i : Nat} {o : Oper}

theorem Ex.done (h : ∀ T, K F T w) : Ex P n ops B dr K [] F ds T w := Ex.mk fun a TW hk hf => by
  cases dr
  · exact ⟨F, hk, h⟩
  · exact ⟨F, T, hk, hf, h T⟩

theorem Ex.fork (h : K F T w) : Ex P n ops B true K [] F ds T w := Ex.mk fun a TW hk hf => ⟨F, T, hk, hf, h⟩

theorem Ex.pure_ (ho : ops[i]? = some o) (hg : guardV ops F o.guard = some true) (hd : dstOK n o.dst = true) (v : Value)
    (hy : ∀ a, Knows n F ds a → ∀ w', (execOp a.eval o).run P w' = .ok (.value v) w') (h : Ex P n ops B dr K s (putE F o.dst v) ds T w) : Ex P n ops B dr K ((i, false) :: s) F ds T w := Ex.mk fun a TW hk hf => by
  have hw := hk.wanted hg
  have hr := hy a hk
  cases dr
  · have h' := h.out _ TW (hk.put hd v) hf
    simp only [cond_false, runL, stA, ho, hw, if_true, OpR, hr w, nextR] at h' ⊢
    exact h'
  · refine ⟨o, ho, ?_⟩
    rw [if_neg (by simp)]
    refine ⟨v, .inl ⟨hw, hr w⟩, ?_⟩
    refine h.out _ _ (hk.put hd v) ?_
    unfold addW
    rw [if_pos hw]
    intro x hx
    rcases List.mem_cons.1 hx with rfl | hx
    · exact .inl hr
    · exact hf x hx

theorem Ex.read_ (ho : ops[i]? = some o) (hg : guardV ops F o.guard = some true) (hd : dstOK n o.dst = true) (v : Value) (R : World → Prop)
    (hy : ∀ a, Knows n F ds a → ∀ w', R w' → (execOp a.eval o).run P w' = .ok (.value v) w') (hR : R w) (h : Ex P n ops B dr K s (putE F o.dst v) ds (addT dr i R T) w) : Ex P n ops B dr K ((i, false) :: s) F ds T w := Ex.mk fun a TW hk hf => by
  have hw := hk.wanted hg
  have hr := hy a hk
  cases dr
  · have h' := h.out _ TW (hk.put hd v) hf
    simp only [cond_false, runL, stA, ho, hw, if_true, OpR, hr w hR, nextR] at h' ⊢
    exact h'
  · refine ⟨o, ho, ?_⟩
    rw [if_neg (by simp)]
    refine ⟨v, .inl ⟨hw, hr w hR⟩, ?_⟩
    refine h.out _ _ (hk.put hd v) ?_
    unfold addW
    rw [if_pos hw]
    intro x hx
    rcases List.mem_cons.1 hx with rfl | hx
    · exact .inr ⟨(i, R), List.mem_cons_self, rfl, hr⟩
    · rcases hf x hx with h1 | ⟨y, hy, h1⟩
      · exact .inl h1
      · exact .inr ⟨y, List.mem_cons_of_mem _ hy, h1⟩

theorem Ex.skip_ (ho : ops[i]? = some o) (hg : guardV ops F o.guard = some false) (hd : dstOK n o.dst = true)
    (h : Ex P n ops B dr K s (putE F o.dst undef) ds T w) : Ex P n ops B dr K ((i, false) :: s) F ds T w := Ex.mk fun a TW hk hf => by
  have hw := hk.wanted hg
  cases dr
  · have h' := h.out _ TW (hk.put hd undef) hf
    simp only [cond_false, runL, stA, ho, hw, Bool.false_eq_true, if_false] at h' ⊢
    exact h'
  · refine ⟨o, ho, ?_⟩
    rw [if_neg (by simp)]
    refine ⟨undef, .inr ⟨hw, rfl⟩, ?_⟩
    have e1 : addW ops o a i undef TW = TW := by unfold addW; rw [if_neg (by simp [hw])]
    rw [e1]
    exact h.out (a.put o.dst undef) TW (hk.put hd undef) hf

theorem Ex.skipm_ (ho : ops[i]? = some o) (hg : guardV ops F o.guard = some false) (hd : dstOK n o.dst = true)
    (h : Ex P n ops B dr K s (putE F o.dst undef) ds T w) : Ex P n ops B dr K ((i, true) :: s) F ds T w := Ex.mk fun a TW hk hf => by
  have hw := hk.wanted hg
  have h' := h.out _ TW (hk.put hd undef) hf
  cases dr
  · simp only [cond_false, runL, stA, ho, hw, Bool.false_eq_true, if_false] at h' ⊢
    exact h'
  · refine ⟨o, ho, ?_⟩
    rw [if_pos rfl]
    unfold stA
    simp only [ho, hw, Bool.false_eq_true, if_false]
    exact ⟨.inl trivial, h'⟩

theorem Ex.mov_ (ho : ops[i]? = some o) (hg : guardV ops F o.guard = some true) (hd : dstOK n o.dst = true) (R : Value → World → Prop)
    (hy : ∀ a, Knows n F ds a → OpR P o a.eval w R) (hR : ∀ v w', R v w' → pend B i T w' ∧ Ex P n ops B dr K s (putE F o.dst v) ds T w') : Ex P n ops B dr K ((i, true) :: s) F ds T w := Ex.mk fun a TW hk hf => by
  have hw := hk.wanted hg
  cases dr
  · simp only [cond_false, runL, stA, ho, hw, if_true]
    exact nextR_mono (hy a hk) fun v w' h => (hR v w' h).2.out _ TW (hk.put hd v) hf
  · refine ⟨o, ho, ?_⟩
    rw [if_pos rfl]
    unfold stA
    simp only [ho, hw, if_true]
    refine nextR_mono (hy a hk) fun v w' h => ?_
    obtain ⟨hp, he⟩ := hR v w' h
    refine ⟨.inr fun x hx => ?_, he.out _ TW (hk.put hd v) hf⟩
    rcases hf x hx with h1 | ⟨y, hy, h1, h2⟩
    · exact .inr (h1 w')
    · rcases pend_mem hp y hy with h3 | h3
      · exact .inl (h1 ▸ h3)
      · exact .inr (h2 w' h3)

/-- A slot that holds a bool: two ways. -/
theorem Ex.split (t : Nat) {b : Bool} (hb : look F t = some (.bool b)) (ht : b = true → Ex P n ops B dr K s ((t, .bool true) :: F) ds T w) (hf : b = false → Ex P n ops B dr K s ((t, .bool false) :: F) ds T w) : Ex P n ops B dr K s F ds T w := Ex.mk fun a TW hk hfit => by
  cases b
  · exact (hf rfl).out a TW ⟨hk.size, hk.defers, fun u v hu => by
      rw [look_put] at hu
      by_cases e : t = u
      · subst e; rw [if_pos rfl] at hu; cases hu; exact hk.slot t _ hb
      · rw [if_neg e] at hu; exact hk.slot u v hu⟩ hfit
  · exact (ht rfl).out a TW ⟨hk.size, hk.defers, fun u v hu => by
      rw [look_put] at hu
      by_cases e : t = u
      · subst e; rw [if_pos rfl] at hu; cases hu; exact hk.slot t _ hb
      · rw [if_neg e] at hu; exact hk.slot u v hu⟩ hfit

/-- A slot's value, written otherwise. -/
theorem Ex.rw (t : Nat) {v : Value} (u : Value) (hv : look F t = some v) (e : v = u) (h : Ex P n ops B dr K s ((t, u) :: F) ds T w) : Ex P n ops B dr K s F ds T w := Ex.mk fun a TW hk hfit => by
  subst e
  refine h.out a TW ⟨hk.size, hk.defers, fun x y hu => ?_⟩ hfit
  rw [look_put] at hu
  by_cases e : t = x
  · subst e; rw [if_pos rfl] at hu; cases hu; exact hk.slot t _ hv
  · rw [if_neg e] at hu; exact hk.slot x y hu
end

/-! ## Memory -/
def aggD : TypeDesc → Bool | .struct _ | .array _ _ => true | _ => false
def szOf (P : Program) (t : TypeId) : Option Nat := (P.info? t).map (·.size)
def zeroOf (P : Program) (t : TypeId) : Option Value := (P.info? t).bind (·.zero)
def bytesOf' (P : Program) (t : TypeId) : Option Nat := (P.info? t).map (·.bytes)
/-- The offset of a field that takes up room. -/
def foOf (P : Program) (s : TypeId) (f : Nat) : Option Nat := match P.underlying s with
  | some (.struct fs) => match fs[f]? with
    | some fd => match szOf P fd.type with
      | some (_ + 1) => some fd.offset
      | _ => none
    | none => none
  | _ => none

section
variable {P : Program} {w : World}
theorem run_sizeOf' {t : TypeId} {m : Nat} (h : szOf P t = some m) : (sizeOf t).run P w = .ok m w := by
  unfold szOf at h
  cases hi : P.info? t with
  | none => simp [hi] at h
  | some i => simp [hi] at h; simp [sizeOf, typeInfo, hi, h]
theorem run_zero' {t : TypeId} {z : Value} (h : zeroOf P t = some z) : (zeroValue t).run P w = .ok z w := by
  unfold zeroOf at h
  cases hi : P.info? t with
  | none => simp [hi] at h
  | some i => simp [hi] at h; simp [zeroValue, typeInfo, hi, h]
theorem run_isAgg' {t : TypeId} {d : TypeDesc} (h : P.underlying t = some d) : (isAgg t).run P w = .ok (aggD d) w := by
  unfold isAgg
  rw [Sem.run_bind, run_underlying h]
  cases d <;> rfl

theorem cell_of {b off : Nat} {cs : List Value} {T : TypeId} {fr : Nat × Nat} {v : Value} (h : w.heap[b]? = some (.cells cs.toArray T fr)) (hv : cs[off]? = some v) : w.cell? ⟨b, off, none⟩ = some v := by
  simp [World.cell?, h, hv]

theorem run_loadVar1 {t : TypeId} {d : TypeDesc} {a : Addr} {v : Value} (h : P.underlying t = some d) (hd : aggD d = false) (hc : w.cell? a = some v) : (loadVar t a).run P w = .ok v w := by
  unfold loadVar
  rw [Sem.run_bind, run_isAgg' h, hd]
  simp [hc]

theorem run_loadCells {b : Nat} {cs : List Value} {T : TypeId} {fr : Nat × Nat} (h : w.heap[b]? = some (.cells cs.toArray T fr)) (off : Nat) : ∀ (m j : Nat) (acc : Array Value), off + j + m ≤ cs.length →
    (loadCellsFrom ⟨b, off, none⟩ j m acc).run P w = .ok (acc ++ ((cs.drop (off + j)).take m).toArray) w
  | 0, j, acc, _ => by simp [loadCellsFrom]
  | m + 1, j, acc, hle => by
    have hlt : off + j < cs.length := by omega
    have hc : w.cell? ((⟨b, off, none⟩ : Addr).add j) = some cs[off + j] := by
      unfold Addr.add
      split
      · rename_i hj; subst hj; exact cell_of h (by simp)
      · exact cell_of h (by simp [hlt])
    unfold loadCellsFrom
    rw [Sem.run_bind, run_load, hc]
    simp only [Result.andThen_ok]
    rw [run_loadCells h off m (j + 1) _ (by omega)]
    rw [show cs.drop (off + j) = cs[off + j] :: cs.drop (off + (j + 1)) from by rw [List.drop_eq_getElem_cons hlt]; rfl]
    simp

/-- What lies from off on. -/
def RowAt (w : World) (b off : Nat) (l : List Value) : Prop := ∃ cs T fr, w.heap[b]? = some (.cells cs T fr) ∧ (cs.toList.drop off).take l.length = l

theorem run_loadVarA {t : TypeId} {d : TypeDesc} {b off : Nat} {l : List Value} (h : P.underlying t = some d) (hd : aggD d = true) (hs : szOf P t = some l.length) (hc : RowAt w b off l) (hl : 0 < l.length) : (loadVar t ⟨b, off, none⟩).run P w = .ok (.agg l.toArray) w := by
  obtain ⟨cs, T, fr, hb, he⟩ := hc
  unfold loadVar
  rw [Sem.run_bind, run_isAgg' h, hd]
  simp only [Result.andThen_ok, if_true]
  rw [Sem.run_bind, run_sizeOf' hs]
  simp only [Result.andThen_ok]
  unfold loadCells
  have hlen : off + l.length ≤ cs.size := by
    have h1 := congrArg List.length he
    simp at h1
    omega
  have := run_loadCells (P := P) (w := w) (b := b) (cs := cs.toList) (T := T) (fr := fr) (by simpa using hb) off l.length 0 #[] (by simpa using hlen)
  rw [Sem.run_bind, this]
  simp [he]

theorem set_parts {α : Type} (cs : List α) (p : Nat) (h : p < cs.length) (v : α) (l : List α) : (cs.set p v).take (p + 1) ++ l ++ (cs.set p v).drop (p + 1 + l.length) = cs.take p ++ v :: l ++ cs.drop (p + (l.length + 1)) := by
  rw [List.set_eq_take_append_cons_drop, if_pos h]
  have hl : (cs.take p).length = p := by simp; omega
  have e1 : (cs.take p).take (p + 1) = cs.take p := List.take_of_length_le (by omega)
  have e2 : (cs.take p).drop (p + 1 + l.length) = [] := List.drop_eq_nil_of_le (by omega)
  rw [List.take_append, List.drop_append, hl, e1, e2]
  rw [show p + 1 - p = 1 from by omega, show p + 1 + l.length - p = l.length + 1 from by omega]
  simp only [List.take_succ_cons, List.take_zero, List.nil_append, List.drop_succ_cons, List.drop_drop, List.append_assoc, List.cons_append]
  rw [show p + 1 + l.length = p + (l.length + 1) from by omega]

theorem run_storeCells {b : Nat} {T : TypeId} {fr : Nat × Nat} (off : Nat) : ∀ (l : List Value) (j : Nat) (cs : List Value) (w : World), w.heap[b]? = some (.cells cs.toArray T fr) → off + j + l.length ≤ cs.length →
    (∀ v ∈ l, v.oneCell' = true) → (∀ x, off + j ≤ x → x < off + j + l.length → (decide (fr.1 ≤ x) && decide (x < fr.2)) = false) →
    (storeCells ⟨b, off, none⟩ l j).run P w = .ok () (w.putObj b (.cells (cs.take (off + j) ++ l ++ cs.drop (off + j + l.length)).toArray T fr))
  | [], j, cs, w, h, hle, _, _ => by
    have hb : b < w.heap.size := (Array.getElem?_eq_some_iff.1 h).1
    simp only [storeCells, List.length_nil, Nat.add_zero, List.append_nil, List.take_append_drop]
    simp only [Sem.run_pure, World.putObj]
    congr 1
    cases w
    simp only [World.mk.injEq, and_true]
    apply Array.ext_getElem?
    intro k
    rw [Array.getElem?_setIfInBounds]
    split
    · rename_i hk; subst hk; exact h
    · rfl
  | v :: l, j, cs, w, h, hle, hv, hfr => by
    have hb : b < w.heap.size := (Array.getElem?_eq_some_iff.1 h).1
    simp only [List.length_cons] at hle hfr ⊢
    have hlt : off + j < cs.length := by omega
    have ea : (⟨b, off, none⟩ : Addr).add j = ⟨b, off + j, none⟩ := by
      unfold Addr.add
      split
      · rename_i hj; subst hj; rfl
      · rfl
    have hc : w.cell? ⟨b, off + j, none⟩ = some cs[off + j] := cell_of h (by simp [hlt])
    have hf : w.frozen? ⟨b, off + j, none⟩ = false := by
      simp only [World.frozen?, h]
      exact hfr (off + j) (Nat.le_refl _) (by omega)
    unfold storeCells
    rw [ea, Sem.run_bind, run_store P w _ v .plain (hv v List.mem_cons_self), hc]
    simp only [hf, Bool.false_eq_true, if_false, Result.andThen_ok]
    have e1 : w.setCell ⟨b, off + j, none⟩ v = w.putObj b (.cells (cs.set (off + j) v).toArray T fr) := by
      simp only [World.setCell, World.putObj]
      congr 1
      apply Array.ext_getElem?
      intro k
      rw [Array.getElem?_modify, Array.getElem?_setIfInBounds]
      split
      · rename_i hk; subst hk; simp only [h]; simp
      · rfl
    rw [e1]
    have h2 : (w.putObj b (.cells (cs.set (off + j) v).toArray T fr)).heap[b]? = some (.cells (cs.set (off + j) v).toArray T fr) := World.putObj_heap_same hb
    rw [run_storeCells off l (j + 1) _ _ h2 (by simp; omega) (fun u hu => hv u (List.mem_cons_of_mem _ hu)) (fun x h1 h2 => hfr x (by omega) (by omega))]
    congr 1
    simp only [World.putObj]
    congr 1
    apply Array.ext_getElem?
    intro k
    simp only [Array.getElem?_setIfInBounds, Array.size_setIfInBounds]
    split
    · congr 3
      exact set_parts cs (off + j) hlt v l
    · rfl

theorem run_storeVar' {t : TypeId} {b off : Nat} {cs l : List Value} {T : TypeId} {fr : Nat × Nat} {v : Value} (hs : szOf P t = some l.length) (hv : v.cells = l.toArray) (hb : w.heap[b]? = some (.cells cs.toArray T fr)) (hle : off + l.length ≤ cs.length)
    (h1 : ∀ v ∈ l, v.oneCell' = true) (hfr : ∀ x, off ≤ x → x < off + l.length → (decide (fr.1 ≤ x) && decide (x < fr.2)) = false) :
    (storeVar t ⟨b, off, none⟩ v).run P w = .ok () (w.putObj b (.cells (cs.take off ++ l ++ cs.drop (off + l.length)).toArray T fr)) := by
  unfold storeVar
  rw [Sem.run_bind, run_sizeOf' hs, hv]
  simp only [Result.andThen_ok, List.size_toArray, ne_eq, not_true_eq_false, if_false]
  have := run_storeCells (P := P) off l 0 cs w hb (by simpa using hle) h1 (by simpa using hfr)
  simpa using this
end
end Go.Fw
