/-
  Part G: maps, as functions.
-/
import Derived.Test.YtkieecaaijlokaaFwF
namespace Go.Fw
open Go Go.RowKit
set_option linter.unusedVariables false
set_option linter.unusedSimpArgs false

/-- How keys of type K are told apart. -/
structure KeyLaw (P : Program) (K : TypeId) {κ : Type} [DecidableEq κ] (enc : κ → Value) : Prop where
  eq : ∀ a b w, (Op.equal K (enc a) (enc b)).run P w = .ok (decide (a = b)) w
  ck : ∀ e a w, (Instr.checkKey e 10000 K (enc a)).run P w = .ok () w
  now : ∃ d, P.underlying K = some d ∧ ((∀ a b, Instr.sameNow d (enc a) (enc b) = some (decide (a = b))) ∨ (∀ a b, Instr.sameNow d (enc a) (enc b) = none))
  sb : ∀ a, Instr.sameBits 10000 (enc a) (enc a) = true

section
variable {P : Program} {K : TypeId} {κ : Type} [DecidableEq κ] {enc : κ → Value}

/-- The entries of a list of pairs. -/
def Ents (enc : κ → Value) (es : List MapEntry) (l : List (κ × Value)) : Prop := es.map (fun e => (e.key, e.val)) = l.map fun p => (enc p.1, p.2)

def fnd (a : κ) : List (κ × Value) → Nat → Option (Nat × Value)
  | [], _ => none
  | (b, v) :: l, i => if a = b then some (i, v) else fnd a l (i + 1)

theorem fnd_some {a : κ} : ∀ {l : List (κ × Value)} {i j : Nat} {v : Value}, fnd a l i = some (j, v) → ∃ k, j = i + k ∧ l[k]? = some (a, v)
  | [], _, _, _, h => by cases h
  | (b, u) :: l, i, j, v, h => by
    unfold fnd at h
    split at h
    · rename_i e; subst e; cases h; exact ⟨0, rfl, rfl⟩
    · obtain ⟨k, h1, h2⟩ := fnd_some h
      exact ⟨k + 1, by omega, by simpa using h2⟩

theorem fnd_none {a : κ} : ∀ {l : List (κ × Value)} {i : Nat}, fnd a l i = none → ∀ p ∈ l, p.1 ≠ a
  | [], _, _, _, hp => by cases hp
  | (b, u) :: l, i, h, p, hp => by
    unfold fnd at h
    split at h
    · cases h
    · rename_i e
      rcases List.mem_cons.1 hp with rfl | hp
      · exact fun e1 => e e1.symm
      · exact fnd_none h p hp

theorem run_findKey (H : KeyLaw P K enc) (a : κ) (es : List MapEntry) (l : List (κ × Value)) (he : Ents enc es l) (w : World) : (Instr.findKey K (enc a) es).run P w = .ok (fnd a l 0) w := by
  obtain ⟨d, hd, hnow⟩ := H.now
  have ask : ∀ (es : List MapEntry) (l : List (κ × Value)) (i : Nat), Ents enc es l → (Instr.findAsking K (enc a) es i).run P w = .ok (fnd a l i) w := by
    intro es
    induction es with
    | nil => intro l i he; cases l with | nil => rfl | cons p l => simp [Ents] at he
    | cons e es ih =>
      intro l i he
      cases l with
      | nil => simp [Ents] at he
      | cons p l =>
        obtain ⟨b, u⟩ := p
        simp only [Ents, List.map_cons, List.cons.injEq, Prod.mk.injEq] at he
        obtain ⟨⟨h1, h2⟩, h3⟩ := he
        unfold Instr.findAsking
        rw [Sem.run_bind, h1, H.eq]
        simp only [Result.andThen_ok, decide_eq_true_eq, fnd]
        split
        · rw [Sem.run_pure, h2]
        · exact ih l (i + 1) h3
  unfold Instr.findKey
  rw [Sem.run_bind, run_underlying hd]
  simp only [Result.andThen_ok]
  rcases hnow with hnow | hnow
  · have now : ∀ (es : List MapEntry) (l : List (κ × Value)) (i : Nat), Ents enc es l → Instr.findNow d (enc a) es i = some (fnd a l i) := by
      intro es
      induction es with
      | nil => intro l i he; cases l with | nil => rfl | cons p l => simp [Ents] at he
      | cons e es ih =>
        intro l i he
        cases l with
        | nil => simp [Ents] at he
        | cons p l =>
          obtain ⟨b, u⟩ := p
          simp only [Ents, List.map_cons, List.cons.injEq, Prod.mk.injEq] at he
          obtain ⟨⟨h1, h2⟩, h3⟩ := he
          unfold Instr.findNow fnd
          rw [h1, hnow a b]
          by_cases e1 : a = b
          · simp [e1, h2]
          · simp only [e1, decide_false, if_false]
            exact ih l (i + 1) h3
    rw [now es l 0 he]
    rfl
  · cases es with
    | nil => cases l with | nil => rfl | cons p l => simp [Ents] at he
    | cons e es =>
      have : Instr.findNow d (enc a) (e :: es) 0 = none := by
        cases l with
        | nil => simp [Ents] at he
        | cons p l =>
          simp only [Ents, List.map_cons, List.cons.injEq, Prod.mk.injEq] at he
          unfold Instr.findNow
          rw [he.1.1, hnow]
      rw [this]
      exact ask _ l 0 he

/-- Block r is a map that tells of each key what g tells. -/
def MapF (enc : κ → Value) (o : Obj) (g : κ → Option Value) : Prop :=
  ∃ es clock l, o = .map es clock ∧ Ents enc es.toList l ∧ (l.map (·.1)).Nodup ∧ ∀ k v, g k = some v ↔ (k, v) ∈ l

theorem MapF.fnd {g : κ → Option Value} {l : List (κ × Value)} (hn : (l.map (·.1)).Nodup) (hg : ∀ k v, g k = some v ↔ (k, v) ∈ l) (a : κ) : (Fw.fnd a l 0).map (·.2) = g a := by
  cases hf : Fw.fnd a l 0 with
  | none =>
    cases hga : g a with
    | none => rfl
    | some v => exact absurd rfl (fnd_none hf _ ((hg a v).1 hga))
  | some x =>
    obtain ⟨j, v⟩ := x
    obtain ⟨k, _, h2⟩ := fnd_some hf
    exact ((hg a v).2 (List.mem_of_getElem? h2)).symm

omit [DecidableEq κ] in
theorem MapF.made : MapF enc (.map #[] 0) (fun _ => none) := ⟨#[], 0, [], rfl, rfl, by simp, by simp⟩

variable {w : World} {T r : Nat} {o : Obj} {g : κ → Option Value}

theorem run_checkKey' (H : KeyLaw P K enc) (e : Bool) (a : κ) : (Instr.checkKey e 10000 K (enc a)).run P w = .ok () w := H.ck e a w

theorem run_lookup2 (H : KeyLaw P K enc) {E : TypeId} {z : Value} (hT : P.underlying T = some (.map K E)) (hz : zeroOf P E = some z) (hr : w.heap[r]? = some o) (hm : MapF enc o g) (a : κ) :
    (Instr.lookup T (.map (some r)) (enc a) true).run P w = .ok (.tuple #[(g a).getD z, .bool (g a).isSome]) w := by
  obtain ⟨es, clock, l, rfl, he, hn, hg⟩ := hm
  unfold Instr.lookup
  have h1 : (getObj r).run P w = .ok (.map es clock) w := by simp [getObj, Sem.run, hr]
  simp only [Sem.run_bind, run_underlying hT, Result.andThen_ok, h1, Sem.run_pure, H.ck, run_findKey H a es.toList l he]
  have h2 := MapF.fnd hn hg a
  cases hf : Fw.fnd a l 0 with
  | none =>
    rw [hf] at h2
    simp only [Sem.run_bind, run_zero' hz, Result.andThen_ok, Sem.run_pure, if_true]
    rw [← h2]; rfl
  | some x =>
    rw [hf] at h2
    obtain ⟨j, v⟩ := x
    simp only [Sem.run_pure, Result.andThen_ok, if_true]
    rw [← h2]; rfl

theorem run_lookup1 (H : KeyLaw P K enc) {E : TypeId} {z : Value} (hT : P.underlying T = some (.map K E)) (hz : zeroOf P E = some z) (hr : w.heap[r]? = some o) (hm : MapF enc o g) (a : κ) :
    (Instr.lookup T (.map (some r)) (enc a) false).run P w = .ok ((g a).getD z) w := by
  obtain ⟨es, clock, l, rfl, he, hn, hg⟩ := hm
  unfold Instr.lookup
  have h1 : (getObj r).run P w = .ok (.map es clock) w := by simp [getObj, Sem.run, hr]
  simp only [Sem.run_bind, run_underlying hT, Result.andThen_ok, h1, Sem.run_pure, H.ck, run_findKey H a es.toList l he]
  have h2 := MapF.fnd hn hg a
  cases hf : Fw.fnd a l 0 with
  | none =>
    rw [hf] at h2
    simp only [Sem.run_bind, run_zero' hz, Result.andThen_ok, Sem.run_pure, Bool.false_eq_true, if_false]
    rw [← h2]; rfl
  | some x =>
    rw [hf] at h2
    obtain ⟨j, v⟩ := x
    simp only [Sem.run_pure, Result.andThen_ok, Bool.false_eq_true, if_false]
    rw [← h2]; rfl

def setF (g : κ → Option Value) (a : κ) (v : Option Value) : κ → Option Value := fun k => if k = a then v else g k

omit [DecidableEq κ] in
theorem ents_at {es : List MapEntry} {l : List (κ × Value)} (he : Ents enc es l) {i : Nat} {p : κ × Value} (h : l[i]? = some p) : ∃ e, es[i]? = some e ∧ e.key = enc p.1 ∧ e.val = p.2 := by
  have h1 : (es.map (fun e => (e.key, e.val)))[i]? = some (enc p.1, p.2) := by rw [he, List.getElem?_map, h]; rfl
  rw [List.getElem?_map, Option.map_eq_some_iff] at h1
  obtain ⟨e, h2, h3⟩ := h1
  simp only [Prod.mk.injEq] at h3
  exact ⟨e, h2, h3.1, h3.2⟩

theorem map_eraseIdx' {α β : Type} (f : α → β) : ∀ (l : List α) (i : Nat), (l.eraseIdx i).map f = (l.map f).eraseIdx i
  | [], _ => rfl
  | _ :: _, 0 => rfl
  | x :: l, i + 1 => by simp [map_eraseIdx' f l i]

omit [DecidableEq κ] in
theorem nodup_key {l : List (κ × Value)} (hn : (l.map (·.1)).Nodup) {i j : Nat} {p q : κ × Value} (hi : l[i]? = some p) (hj : l[j]? = some q) (h : p.1 = q.1) : i = j := by
  have h1 : (l.map (·.1))[i]? = some p.1 := by simp [hi]
  have h2 : (l.map (·.1))[j]? = some p.1 := by simp [hj, h]
  have hlt : i < (l.map (·.1)).length := (List.getElem?_eq_some_iff.1 h1).1
  have hlt2 : j < (l.map (·.1)).length := (List.getElem?_eq_some_iff.1 h2).1
  rw [List.getElem?_eq_getElem hlt] at h1
  rw [List.getElem?_eq_getElem hlt2] at h2
  exact (List.getElem_inj hn).1 (by rw [Option.some.inj h1, Option.some.inj h2])

theorem run_mapUpdate (H : KeyLaw P K enc) {E : TypeId} (hT : P.underlying T = some (.map K E)) (hr : w.heap[r]? = some o) (hm : MapF enc o g) (a : κ) (v : Value) :
    ∃ o', (Instr.mapUpdate T (.map (some r)) (enc a) v).run P w = .ok () (w.putObj r o') ∧ MapF enc o' (setF g a (some v)) := by
  obtain ⟨es, clock, l, rfl, he, hn, hg⟩ := hm
  unfold Instr.mapUpdate
  have h1 : (getObj r).run P w = .ok (.map es clock) w := by simp [getObj, Sem.run, hr]
  have h3 : ∀ o', (setObj r o').run P w = .ok () (w.putObj r o') := fun o' => by simp [setObj, Sem.run, hr, World.putObj]
  simp only [Sem.run_bind, run_underlying hT, Result.andThen_ok, h1, H.ck, run_findKey H a es.toList l he]
  cases hf : Fw.fnd a l 0 with
  | none =>
    have hno := fnd_none hf
    refine ⟨.map (es.push { key := enc a, val := v, born := clock }) (clock + 1), by simp only [h3], _, _, l ++ [(a, v)], rfl, ?_, ?_, ?_⟩
    · simp only [Ents, Array.toList_push, List.map_append, List.map_cons, List.map_nil]
      rw [show es.toList.map (fun e => (e.key, e.val)) = l.map fun p => (enc p.1, p.2) from he]
    · rw [List.map_append, List.nodup_append]
      refine ⟨hn, by simp, fun x hx y hy e => ?_⟩
      simp at hy
      obtain ⟨p, hp, rfl⟩ := List.mem_map.1 hx
      exact hno p hp (e.trans hy)
    · intro k u
      unfold setF
      by_cases e : k = a
      · subst e
        simp only [if_true, List.mem_append, List.mem_singleton, Prod.mk.injEq, true_and]
        constructor
        · intro h; cases h; exact .inr rfl
        · rintro (h | h)
          · exact absurd rfl (hno _ h)
          · rw [h]
      · rw [if_neg e, hg]; simp [e]
  | some x =>
    obtain ⟨j, u⟩ := x
    obtain ⟨i, h4, h5⟩ := fnd_some hf
    simp only [Nat.zero_add] at h4
    subst h4
    obtain ⟨en, h6, h7, h8⟩ := ents_at he h5
    have hi : j < es.size := by simpa using (List.getElem?_eq_some_iff.1 h6).1
    have h6' : es[j]? = some en := by simpa using h6
    have hkeep : (Instr.keyThatStays (((es[j]?).map (·.key)).getD (enc a)) (enc a)).run P w = .ok (enc a) w := by
      simp only [h6', Option.map_some, Option.getD_some, h7]
      unfold Instr.keyThatStays
      rw [if_pos (H.sb a)]
      rfl
    refine ⟨.map (es.modify j fun e => { e with key := enc a, val := v }) clock, by simp only [Sem.run_bind, hkeep, Result.andThen_ok, h3], _, _, l.set j (a, v), rfl, ?_, ?_, ?_⟩
    · simp only [Ents, Array.toList_modify]
      apply List.ext_getElem?
      intro k
      rw [List.getElem?_map, List.getElem?_map, List.getElem?_modify, List.getElem?_set]
      have hjl : j < l.length := (List.getElem?_eq_some_iff.1 h5).1
      by_cases e : j = k
      · subst e
        rw [if_pos rfl, if_pos hjl]
        rw [h6]
        simp
      · rw [if_neg e]
        have := congrArg (fun x => x[k]?) he
        simp only [List.getElem?_map] at this
        rw [← this]
        cases es.toList[k]? <;> simp [e]
    · have : (l.set j (a, v)).map (·.1) = l.map (·.1) := by
        apply List.ext_getElem?
        intro k
        have hjl : j < l.length := (List.getElem?_eq_some_iff.1 h5).1
        rw [List.getElem?_map, List.getElem?_map, List.getElem?_set]
        by_cases e : j = k
        · subst e; rw [if_pos rfl, if_pos hjl, h5]; rfl
        · rw [if_neg e]
      rw [this]; exact hn
    · intro k u'
      have hjl : j < l.length := (List.getElem?_eq_some_iff.1 h5).1
      unfold setF
      by_cases e : k = a
      · subst e
        simp only [if_true, Option.some.injEq]
        constructor
        · rintro rfl; exact List.mem_iff_getElem?.2 ⟨j, by rw [List.getElem?_set, if_pos rfl, if_pos hjl]⟩
        · intro h
          obtain ⟨q, hq⟩ := List.mem_iff_getElem?.1 h
          rw [List.getElem?_set] at hq
          by_cases e2 : j = q
          · rw [if_pos e2, if_pos hjl] at hq; cases hq; rfl
          · rw [if_neg e2] at hq
            exact absurd (nodup_key hn h5 hq rfl) e2
      · rw [if_neg e, hg]
        constructor
        · intro h
          obtain ⟨q, hq⟩ := List.mem_iff_getElem?.1 h
          refine List.mem_iff_getElem?.2 ⟨q, ?_⟩
          rw [List.getElem?_set]
          by_cases e2 : j = q
          · subst e2; rw [h5] at hq; cases hq; exact absurd rfl e
          · rw [if_neg e2]; exact hq
        · intro h
          obtain ⟨q, hq⟩ := List.mem_iff_getElem?.1 h
          rw [List.getElem?_set] at hq
          by_cases e2 : j = q
          · rw [if_pos e2, if_pos hjl] at hq; cases hq; exact absurd rfl e
          · rw [if_neg e2] at hq; exact List.mem_iff_getElem?.2 ⟨q, hq⟩

theorem run_delete (H : KeyLaw P K enc) {E ty : TypeId} (hT : P.underlying T = some (.map K E)) (hr : w.heap[r]? = some o) (hm : MapF enc o g) (a : κ) {at0 : Array TypeId} (hat : at0[0]? = some T) :
    ∃ o', (Builtin.delete_ at0 ty #[.map (some r), enc a]).run P w = .ok (.tuple #[]) (w.putObj r o') ∧ MapF enc o' (setF g a none) := by
  obtain ⟨es, clock, l, rfl, he, hn, hg⟩ := hm
  unfold Builtin.delete_
  have h1 : (getObj r).run P w = .ok (.map es clock) w := by simp [getObj, Sem.run, hr]
  have h3 : ∀ o', (setObj r o').run P w = .ok () (w.putObj r o') := fun o' => by simp [setObj, Sem.run, hr, World.putObj]
  have hx : (#[.map (some r), enc a] : Array Value)[0]? = some (.map (some r)) := rfl
  have hy : (#[.map (some r), enc a] : Array Value)[1]? = some (enc a) := rfl
  simp only [hat, hx, hy, Sem.run_bind, run_underlying hT, Result.andThen_ok, h1, H.ck, run_findKey H a es.toList l he]
  cases hf : Fw.fnd a l 0 with
  | none =>
    have hno := fnd_none hf
    refine ⟨.map es clock, by simp only [Sem.run_bind, h3, Result.andThen_ok, Sem.run_pure], _, _, l, rfl, he, hn, fun k u => ?_⟩
    unfold setF
    by_cases e : k = a
    · subst e; simp only [if_true]; exact ⟨fun h => by simp at h, fun h => absurd rfl (hno _ h)⟩
    · rw [if_neg e]; exact hg k u
  | some x =>
    obtain ⟨j, u⟩ := x
    obtain ⟨i, h4, h5⟩ := fnd_some hf
    simp only [Nat.zero_add] at h4
    subst h4
    have hjl : j < l.length := (List.getElem?_eq_some_iff.1 h5).1
    refine ⟨.map (es.eraseIdxIfInBounds j) clock, by simp only [Sem.run_bind, h3, Result.andThen_ok, Sem.run_pure], _, _, l.eraseIdx j, rfl, ?_, ?_, ?_⟩
    · simp only [Ents]
      have : (es.eraseIdxIfInBounds j).toList = es.toList.eraseIdx j := by
        obtain ⟨en, h6, _, _⟩ := ents_at he h5
        have hi : j < es.size := by simpa using (List.getElem?_eq_some_iff.1 h6).1
        unfold Array.eraseIdxIfInBounds
        rw [dif_pos hi, Array.toList_eraseIdx]
      rw [this, map_eraseIdx', map_eraseIdx']
      rw [show es.toList.map (fun e => (e.key, e.val)) = l.map fun p => (enc p.1, p.2) from he]
    · rw [map_eraseIdx']; exact hn.sublist (List.eraseIdx_sublist _ _)
    · intro k u'
      unfold setF
      rw [List.mem_eraseIdx_iff_getElem?]
      by_cases e : k = a
      · subst e
        simp only [if_true]
        refine ⟨fun h => by simp at h, fun ⟨q, hq1, hq2⟩ => ?_⟩
        exact absurd (nodup_key hn hq2 h5 rfl) hq1
      · rw [if_neg e, hg]
        constructor
        · intro h
          obtain ⟨q, hq⟩ := List.mem_iff_getElem?.1 h
          refine ⟨q, fun e2 => ?_, hq⟩
          subst e2; rw [h5] at hq; cases hq; exact e rfl
        · rintro ⟨q, _, hq⟩; exact List.mem_iff_getElem?.2 ⟨q, hq⟩
end

section
variable {P : Program} {n : Nat} {ops : Array Oper} {B : Array Nat} {dr : Bool} {K : KT} {s : List (Nat × Bool)} {F : Env} {ds : List Deferred} {T : List (Nat × (World → Prop))} {w : World} {i : Nat}
variable {d : Option Tmp} {ty : TypeId} {ps : String} {af : Array Edge} {gd : Option (Nat × Bool)} {KT E M : TypeId} {κ : Type} [DecidableEq κ] {enc : κ → Value} {x y z : Operand} {r : Nat} {o : Obj} {g : κ → Option Value} {zv v : Value}

/-- What a map tells of one key. -/
def LkAt (enc : κ → Value) (w : World) (r : Nat) (a : κ) (ga : Option Value) : Prop := ∃ o g, w.heap[r]? = some o ∧ MapF enc o g ∧ g a = ga

omit [DecidableEq κ] in
theorem LkAt.same {w w1 : World} {a : κ} {ga : Option Value} (h : LkAt enc w r a ga) (hs : w1.heap[r]? = w.heap[r]?) : LkAt enc w1 r a ga :=
  let ⟨o, g, h1, h2, h3⟩ := h; ⟨o, g, by rw [hs]; exact h1, h2, h3⟩
omit [DecidableEq κ] in
theorem LkAt.alloc {w w1 : World} {a : κ} {ga : Option Value} (h : LkAt enc w r a ga) {o : Obj} (hw : w1 = w.alloc o) : LkAt enc w1 r a ga := by
  refine h.same ?_
  obtain ⟨_, _, h1, _⟩ := h
  have := (Array.getElem?_eq_some_iff.1 h1).1
  rw [hw, heap_alloc, if_neg (by omega)]

theorem x_lk2 (a : κ) {ga : Option Value} (ho : ops[i]? = some ⟨d, .lookup M x y true, ty, ps, af, gd⟩) (hg : guardV ops F gd = some true) (hd : dstOK n d = true) (H : KeyLaw P KT enc) (hT : P.underlying M = some (.map KT E)) (hz : zeroOf P E = some zv)
    (hx : ev? F x = some (.map (some r))) (hy : ev? F y = some (enc a)) (hl : LkAt enc w r a ga)
    (h : Ex P n ops B dr K s (putE F d (.tuple #[ga.getD zv, .bool ga.isSome])) ds (addT dr i (fun w' => LkAt enc w' r a ga) T) w) : Ex P n ops B dr K ((i, false) :: s) F ds T w :=
  Ex.read_ ho hg hd _ (fun w' => LkAt enc w' r a ga) (fun at_ hk w' hR => by
    obtain ⟨o, g, h1, h2, h3⟩ := hR
    simp only [execOp, hk.eval hx, hk.eval hy, Sem.run_bind, run_lookup2 H hT hz h1 h2 a, Result.andThen_ok, Sem.run_pure, h3]) hl h

theorem x_lk1 (a : κ) {ga : Option Value} (ho : ops[i]? = some ⟨d, .lookup M x y false, ty, ps, af, gd⟩) (hg : guardV ops F gd = some true) (hd : dstOK n d = true) (H : KeyLaw P KT enc) (hT : P.underlying M = some (.map KT E)) (hz : zeroOf P E = some zv)
    (hx : ev? F x = some (.map (some r))) (hy : ev? F y = some (enc a)) (hl : LkAt enc w r a ga)
    (h : Ex P n ops B dr K s (putE F d (ga.getD zv)) ds (addT dr i (fun w' => LkAt enc w' r a ga) T) w) : Ex P n ops B dr K ((i, false) :: s) F ds T w :=
  Ex.read_ ho hg hd _ (fun w' => LkAt enc w' r a ga) (fun at_ hk w' hR => by
    obtain ⟨o, g, h1, h2, h3⟩ := hR
    simp only [execOp, hk.eval hx, hk.eval hy, Sem.run_bind, run_lookup1 H hT hz h1 h2 a, Result.andThen_ok, Sem.run_pure, h3]) hl h

theorem x_mup (a : κ) (ho : ops[i]? = some ⟨d, .mapUpdate M x y z, ty, ps, af, gd⟩) (hg : guardV ops F gd = some true) (hd : dstOK n d = true) (H : KeyLaw P KT enc) (hT : P.underlying M = some (.map KT E))
    (hx : ev? F x = some (.map (some r))) (hy : ev? F y = some (enc a)) (hz : ev? F z = some v) (hr : w.heap[r]? = some o) (hm : MapF enc o g)
    (h : ∀ o' w1, MapF enc o' (setF g a (some v)) → w1 = w.putObj r o' → pend B i T w1 ∧ Ex P n ops B dr K s (putE F d undef) ds T w1) : Ex P n ops B dr K ((i, true) :: s) F ds T w := by
  obtain ⟨o', h1, h2⟩ := run_mapUpdate H hT hr hm a v
  refine x_mvs ho hg hd (w1 := w.putObj r o') (fun at_ hk => ?_) (h o' _ h2 rfl).1 (h o' _ h2 rfl).2
  simp only [execOp, hk.eval hx, hk.eval hy, hk.eval hz, Sem.run_bind, h1, Result.andThen_ok, Sem.run_pure]

theorem x_del (a : κ) {at0 : Array TypeId} (ho : ops[i]? = some ⟨d, .call ⟨.builtin .delete, #[x, y], at0⟩, ty, ps, af, gd⟩) (hg : guardV ops F gd = some true) (hd : dstOK n d = true) (H : KeyLaw P KT enc) (hT : P.underlying M = some (.map KT E)) (hat : at0[0]? = some M)
    (hx : ev? F x = some (.map (some r))) (hy : ev? F y = some (enc a)) (hr : w.heap[r]? = some o) (hm : MapF enc o g)
    (h : ∀ o' w1, MapF enc o' (setF g a none) → w1 = w.putObj r o' → pend B i T w1 ∧ Ex P n ops B dr K s (putE F d (.tuple #[])) ds T w1) : Ex P n ops B dr K ((i, true) :: s) F ds T w := by
  obtain ⟨o', h1, h2⟩ := run_delete (ty := ty) H hT hr hm a hat
  refine x_mv ho hg hd (v := .tuple #[]) (w1 := w.putObj r o') (fun at_ hk => ?_) (h o' _ h2 rfl).1 (h o' _ h2 rfl).2
  simp only [execOp, resolve, List.map_toArray, List.map_cons, List.map_nil, hk.eval hx, hk.eval hy, Sem.run_bind, Sem.run_pure, Result.andThen_ok, invoke, builtin, h1]

/-- The empty slice literal. -/
theorem run_buildSlice0 {t e : TypeId} {m : Nat} (ht : P.underlying t = some (.slice e)) (hm : szOf P e = some m) : (Instr.buildSlice t 0 #[]).run P w = .ok (.slice (some ⟨w.heap.size, 0, none⟩) 0 0) (w.alloc (.cells #[] e)) := by
  unfold Instr.buildSlice
  simp only [Sem.run_bind, run_underlying ht, Result.andThen_ok, run_sizeOf' hm, Nat.zero_mul]
  rw [if_neg (by decide)]
  have e0 : (Array.range 0).map (fun _ => (default : Value)) = #[] := by simp
  simp [Instr.fill, newRow, e0]

theorem x_bs0 {t e : TypeId} {m : Nat} (ho : ops[i]? = some ⟨d, .buildSlice t 0 #[], ty, ps, af, gd⟩) (hg : guardV ops F gd = some true) (hd : dstOK n d = true) (ht : P.underlying t = some (.slice e)) (hm : szOf P e = some m)
    (h : ∀ b w1, b = w.heap.size → w1 = w.alloc (.cells [].toArray e) → pend B i T w1 ∧ Ex P n ops B dr K s (putE F d (.slice (some ⟨b, 0, none⟩) 0 0)) ds T w1) : Ex P n ops B dr K ((i, true) :: s) F ds T w := by
  obtain ⟨h1, h2⟩ := h _ _ rfl rfl
  refine x_mv ho hg hd (v := .slice (some ⟨w.heap.size, 0, none⟩) 0 0) (w1 := w.alloc (.cells [].toArray e)) (fun at_ hk => ?_) h1 h2
  have := run_buildSlice0 (P := P) (w := w) ht hm
  simp only [execOp, List.map_toArray, List.map_nil, Sem.run_bind]
  rw [this]
  rfl

theorem run_buildSlice1 {t e : TypeId} {m : Nat} {z v : Value} {Z cs : List Value} (ht : P.underlying t = some (.slice e)) (hm : szOf P e = some m) (hz : zeroOf P e = some z) (hZ : z.cells = Z.toArray) (hZm : Z.length = m) (h0 : 0 < m) (h24 : m ≤ 16777216)
    (hv : v.cells = cs.toArray) (hcs : cs.length = m) : (Instr.buildSlice t 1 #[(0, v)]).run P w = .ok (.slice (some ⟨w.heap.size, 0, none⟩) 1 1) (w.alloc (.cells cs.toArray e)) := by
  unfold Instr.buildSlice
  simp only [Sem.run_bind, run_underlying ht, Result.andThen_ok, run_sizeOf' hm, Nat.one_mul]
  rw [if_neg (by omega), if_neg (by omega)]
  simp only [Sem.run_bind, run_zero' hz, Result.andThen_ok, Sem.run_pure, hZ]
  have hfill : Instr.fill (fun i => some (i * m, m)) ((Array.range m).map fun i => Z.toArray[i % Z.toArray.size]!) [(0, v)] = some cs.toArray := by
    unfold Instr.fill
    simp only [hv, List.size_toArray, hcs, Nat.zero_mul, Nat.zero_add, Array.size_map, Array.size_range, ne_eq, not_true_eq_false, Nat.lt_irrefl, gt_iff_lt, decide_false, or_self, if_false, Instr.fill]
    congr 1
    have key : ∀ (l : List Value) (k : Nat) (a : Array Value), k + l.length ≤ a.size → ((l.zipIdx k).foldl (fun cs (x : Value × Nat) => cs.setIfInBounds x.2 x.1) a).toList = a.toList.take k ++ l ++ a.toList.drop (k + l.length) := by
      intro l
      induction l with
      | nil => intro k a _; simp
      | cons x l ih =>
        intro k a hle
        simp only [List.length_cons] at hle
        simp only [List.zipIdx_cons, List.foldl_cons]
        rw [ih (k + 1) _ (by simp; omega)]
        simp only [Array.toList_setIfInBounds]
        have := set_parts a.toList k (by simp; omega) x l
        rw [this]
        simp
    simp only [Bool.or_self, Bool.false_eq_true, if_false]
    congr 1
    apply Array.ext'
    have h1 := key cs 0 ((Array.range m).map fun i => Z.toArray[i % Z.toArray.size]!) (by simp [hcs])
    have h2 : Array.foldl (fun cs (x : Value × Nat) => cs.setIfInBounds x.2 x.1) ((Array.range m).map fun i => Z.toArray[i % Z.toArray.size]!) cs.toArray.zipIdx = (cs.zipIdx 0).foldl (fun cs (x : Value × Nat) => cs.setIfInBounds x.2 x.1) ((Array.range m).map fun i => Z.toArray[i % Z.toArray.size]!) := by
      rw [← Array.foldl_toList]; simp
    have h3 := congrArg Array.toList h2
    rw [h1] at h3
    simp only [List.size_toArray] at h3
    rw [h3]
    simp [hcs]
  simp only [List.size_toArray] at hfill ⊢
  rw [hfill]
  simp [newRow]

theorem x_bs1 {t e : TypeId} {m : Nat} {z v : Value} {Z cs : List Value} (ho : ops[i]? = some ⟨d, .buildSlice t 1 #[(0, x)], ty, ps, af, gd⟩) (hg : guardV ops F gd = some true) (hd : dstOK n d = true) (ht : P.underlying t = some (.slice e)) (hm : szOf P e = some m) (hz : zeroOf P e = some z) (hZ : z.cells = Z.toArray) (hZm : Z.length = m) (h0 : 0 < m) (h24 : m ≤ 16777216)
    (hx : ev? F x = some v) (hv : v.cells = cs.toArray) (hcs : cs.length = m)
    (h : ∀ b w1, b = w.heap.size → w1 = w.alloc (.cells cs.toArray e) → pend B i T w1 ∧ Ex P n ops B dr K s (putE F d (.slice (some ⟨b, 0, none⟩) 1 1)) ds T w1) : Ex P n ops B dr K ((i, true) :: s) F ds T w := by
  obtain ⟨h1, h2⟩ := h _ _ rfl rfl
  refine x_mv ho hg hd (v := .slice (some ⟨w.heap.size, 0, none⟩) 1 1) (w1 := w.alloc (.cells cs.toArray e)) (fun at_ hk => ?_) h1 h2
  have := run_buildSlice1 (P := P) (w := w) ht hm hz hZ hZm h0 h24 hv hcs
  simp only [execOp, List.map_toArray, List.map_cons, List.map_nil, hk.eval hx, Sem.run_bind]
  rw [this]
  rfl

theorem x_app {t tx e m bts k nn : Nat} {z0 xv sv : Value} {cs news : List Value} {at0 : Array TypeId} (ho : ops[i]? = some ⟨d, .call ⟨.builtin .append, #[x, y], at0⟩, ty, ps, af, gd⟩) (hg : guardV ops F gd = some true) (hd : dstOK n d = true)
    (hat : at0 = #[t, tx]) (ht : P.underlying t = some (.slice e)) (hm : szOf P e = some m) (hz : zeroOf P e = some z0) (hzm : z0.cells.size = m) (hby : bytesOf' P e = some bts)
    (hx : ev? F x = some sv) (hy : ev? F y = some xv) (hv : OwS w sv m nn cs) (hcs : ∀ u ∈ cs, u.oneCell' = true) (hs : Src P m tx xv k news w) (hfit : (nn + k) * bts ≤ 70368744177664) (hb : bts ≤ 1048576) (h63 : nn + k ≤ 9223372036854775807)
    (h : ∀ v' w1, OwS w1 v' m (nn + k) (cs ++ news) → (sv = .slice none 0 0 ∧ k = 0 ∧ v' = sv ∧ w1 = w ∨ ApTo w sv v' w1) → pend B i T w1 ∧ Ex P n ops B dr K s (putE F d v') ds T w1) : Ex P n ops B dr K ((i, true) :: s) F ds T w := by
  obtain ⟨v', w', h1, h2, h3⟩ := run_append_ow (ty := ty) ht hm hz hzm hby hv hcs hs hfit hb h63
  obtain ⟨g1, g2⟩ := h v' w' h2 h3
  refine x_mv ho hg hd (v := v') (w1 := w') (fun at_ hk => ?_) g1 g2
  subst hat
  simp only [execOp, resolve, List.map_toArray, List.map_cons, List.map_nil, hk.eval hx, hk.eval hy, Sem.run_bind, Sem.run_pure, Result.andThen_ok, invoke, builtin, h1]
end

/-- Behind an append onto a slice of one's own. -/
theorem ApTo.frm {w w1 : World} {v v' : Value} (h : ApTo w v v' w1) : Frm (fun b => blkOf v = some b) w w1 := by
  rcases h with ⟨b, o, h1, h2, rfl⟩ | ⟨h1, o, rfl⟩
  · refine ⟨by simp, fun c _ hc => ?_, by simp, by simp, rfl, rfl, rfl⟩
    rw [heap_putObj, if_neg]
    rintro ⟨rfl, _⟩
    exact hc h1
  · exact (St.alloc (St.drew (Frm.refl _ w) rfl) rfl rfl).frm

theorem ApTo.blk {w w1 : World} {v v' : Value} (h : ApTo w v v' w1) : ∃ b, blkOf v' = some b ∧ (blkOf v = some b ∨ b = w.heap.size) := by
  rcases h with ⟨b, o, h1, h2, rfl⟩ | ⟨h1, o, rfl⟩
  · exact ⟨b, h2, .inl h1⟩
  · exact ⟨_, h1, .inr rfl⟩
end Go.Fw
