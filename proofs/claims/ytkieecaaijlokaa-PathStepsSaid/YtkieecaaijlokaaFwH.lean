/-
  Part H: more of what stays.
-/
import Derived.Test.YtkieecaaijlokaaFwG
import Derived.Laws.MakeOwn
import Derived.Laws.BytesString
import Derived.Laws.IdiomStrings
namespace Go.Fw
open Go Go.RowKit
set_option linter.unusedVariables false
set_option linter.unusedSimpArgs false

theorem ba_inj {a b : ByteArray} (h : a.toList = b.toList) : a = b := by
  rw [ByteArray.toList_eq, ByteArray.toList_eq] at h
  cases a; cases b
  simp only [ByteArray.mk.injEq]
  exact Array.toList_inj.1 h

theorem St.weak {S S' : Nat → Prop} {w0 w : World} {L : List (Nat × Obj)} (h : St S w0 L w) (hs : ∀ b, S b → S' b) : St S' w0 L w :=
  ⟨h.size, fun b hb hn => h.old b hb fun h1 => hn (hs b h1), h.nd, fun x hx => ⟨(h.own x hx).1, (h.own x hx).2.imp (hs _) id⟩, h.os, h.tape, h.output⟩

theorem St.ge {w0 w : World} {L : List (Nat × Obj)} (h : St None' w0 L w) (k : Nat) {b : Nat} {o : Obj} (hk : L[k]? = some (b, o)) : w0.heap.size ≤ b := (h.own (b, o) (List.mem_of_getElem? hk)).2.resolve_left id

/-- Behind a call that turns what lay there at first alone. -/
theorem St.call' {S S' : Nat → Prop} {w0 w w1 : World} {L : List (Nat × Obj)} (h : St S w0 L w) (hc : Frm S' w w1) (hL : ∀ x ∈ L, ¬ S' x.1) (hS : ∀ b, S' b → S b ∨ w0.heap.size ≤ b) : St S w0 L w1 := h.call hc hL (fun b hb _ => hS b hb)

theorem New.keep {w w1 : World} (h : New w w1) {b : Nat} {o : Obj} (hb : w.heap[b]? = some o) : w1.heap[b]? = some o := (h.old b (Array.getElem?_eq_some_iff.1 hb).1 id).trans hb

theorem madeCells_one (z : Value) (n : Nat) : madeCells #[z] n = (List.replicate n z).toArray := by
  unfold madeCells
  apply Array.ext
  · simp
  · intro i h1 h2
    simp [Nat.mod_one]

/-- make of a slice of elements of one cell. -/
theorem x_ms {P : Program} {n : Nat} {ops : Array Oper} {B : Array Nat} {dr : Bool} {K : KT} {s : List (Nat × Bool)} {F : Env} {ds : List Deferred} {T : List (Nat × (World → Prop))} {w : World} {i : Nat}
    {d : Option Tmp} {ty : TypeId} {ps : String} {af : Array Edge} {g : Option (Nat × Bool)} {x y : Operand} {t e bts : TypeId} {z : Value} {k1 k2 : IntKind} (l c : Nat)
    (ho : ops[i]? = some ⟨d, .makeSlice t x y, ty, ps, af, g⟩) (hg : guardV ops F g = some true) (hd : dstOK n d = true) (ht : P.underlying t = some (.slice e)) (hs : szOf P e = some 1) (hz : zeroOf P e = some z) (hzc : z.cells = #[z]) (hby : bytesOf' P e = some bts)
    (hx : ev? F x = some (.int k1 (l : Int))) (hy : ev? F y = some (.int k2 (c : Int))) (hlc : l ≤ c) (hb : bts * c ≤ 281474976710656) (h63 : c ≤ 9223372036854775807)
    (h : ∀ b w1, b = w.heap.size → w1 = w.alloc (.cells (List.replicate c z).toArray e) → pend B i T w1 ∧ Ex P n ops B dr K s (putE F d (.slice (some ⟨b, 0, none⟩) l c)) ds T w1) : Ex P n ops B dr K ((i, true) :: s) F ds T w := by
  obtain ⟨g1, g2⟩ := h _ _ rfl rfl
  refine x_mv ho hg hd (v := .slice (some ⟨w.heap.size, 0, none⟩) l c) (w1 := w.alloc (.cells (List.replicate c z).toArray e)) (fun at_ hk => ?_) g1 g2
  unfold szOf at hs
  unfold zeroOf at hz
  unfold bytesOf' at hby
  cases hi : P.info? e with
  | none => simp [hi] at hs
  | some inf =>
    simp [hi] at hs hz hby
    have hb' : (bts : Int) * (c : Int) ≤ 281474976710656 := by rw [← Int.natCast_mul]; exact Int.ofNat_le.2 hb
    have := run_make (P := P) w t e inf z ht hi hz k1 k2 l c (by omega) (by omega) (by rw [hby]; exact hb') (by omega)
    simp only [execOp, hk.eval hx, hk.eval hy, Sem.run_bind, this, Result.andThen_ok, Sem.run_pure, Int.toNat_natCast, hs, Nat.mul_one, hzc, madeCells_one]

/-- Bytes that make a string. -/
def StrOf (w : World) (v : Value) (b : List UInt8) : Prop := (∃ cap, v = .slice none 0 cap ∧ b = []) ∨ ∃ a cap, v = .slice (some a) b.length cap ∧ ∀ j (hj : j < b.length), w.cell? (a.add j) = some (.int .u8 (b[j].toNat : Int))

theorem run_strOf {P : Program} {w : World} {v : Value} {b : List UInt8} {t1 t2 e : TypeId} (hs : P.underlying t1 = some (.slice e)) (he : P.underlying e = some (.int .u8)) (hd : P.underlying t2 = some .string) (h : StrOf w v b) : (convert t1 t2 v).run P w = .ok (.string ⟨b.toArray⟩) w := by
  rcases h with ⟨cap, rfl, rfl⟩ | ⟨a, cap, rfl, hc⟩
  · rw [run_convert_bytes_string w t1 t2 e none 0 cap hs he hd]
    rfl
  · exact run_convert_bytes_back w t1 t2 e a cap b hs he hd hc

theorem x_cvbs {P : Program} {n : Nat} {ops : Array Oper} {B : Array Nat} {dr : Bool} {K : KT} {s : List (Nat × Bool)} {F : Env} {ds : List Deferred} {T : List (Nat × (World → Prop))} {w : World} {i : Nat}
    {d : Option Tmp} {ty : TypeId} {ps : String} {af : Array Edge} {g : Option (Nat × Bool)} {x : Operand} {t1 t2 e : TypeId} {v : Value} (b : List UInt8)
    (ho : ops[i]? = some ⟨d, .convert t1 t2 x, ty, ps, af, g⟩) (hg : guardV ops F g = some true) (hd : dstOK n d = true) (h1 : P.underlying t1 = some (.slice e)) (he : P.underlying e = some (.int .u8)) (h2 : P.underlying t2 = some .string)
    (hx : ev? F x = some v) (hs : StrOf w v b) (h : Ex P n ops B dr K s (putE F d (.string ⟨b.toArray⟩)) ds (addT dr i (fun w' => StrOf w' v b) T) w) : Ex P n ops B dr K ((i, false) :: s) F ds T w :=
  Ex.read_ ho hg hd _ (fun w' => StrOf w' v b) (fun a hk w' hR => by
    simp only [execOp, hk.eval hx, Sem.run_bind, run_strOf h1 he h2 hR, Result.andThen_ok, Sem.run_pure]) hs h
end Go.Fw
