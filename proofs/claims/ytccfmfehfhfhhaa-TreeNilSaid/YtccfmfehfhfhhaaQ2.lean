/-
  Texts that belong together, laid into one file: FwJ, FwR, R0, Tab, P1, W1, W2, W3, W4, W5, W6, W7, P4, W8.
-/
import Derived.Laws.RangeAny
import Derived.Lib.Bytealg
import Derived.WalkKit
import Derived.ProofKit
import Derived.OpenShut
import Derived.Carry
import Derived.JoinedCond
import Derived.Test.YtccfmfehfhfhhaaRows
import Derived.Lib.IndexLaws
import Derived.Test.YtccfmfehfhfhhaaQ1
namespace Go.Fw
open Go Go.RowKit
set_option linter.unusedVariables false
set_option linter.unusedSimpArgs false

/-! ## Blocks -/
abbrev Sep (w0 : World) (L : List (Nat × Obj)) (w : World) : Prop := St None' w0 L w

theorem perm_c {α : Type} {l l' : List α} (h : ∀ p : α → Bool, l.countP p = l'.countP p) : l.Perm l' := by
  classical
  letI : BEq α := ⟨fun a b => decide (a = b)⟩
  haveI : LawfulBEq α := { eq_of_beq := fun h => of_decide_eq_true h, rfl := decide_eq_true rfl }
  exact List.perm_iff_count.2 fun a => h _

section
variable {S : Nat → Prop} {w0 w w1 : World} {L L' : List (Nat × Obj)}

theorem St.acons (h : St S w0 L w) {o : Obj} {b : Nat} (hb : b = w.heap.size) (hw : w1 = w.alloc o) : St S w0 ((b, o) :: L) w1 :=
  (h.alloc hb hw).perm (List.perm_append_singleton _ _)
theorem St.nil (w : World) : Sep w [] w := Frm.refl _ _
theorem St.grow' (h : St S w0 L w) (hc : Sep w L' w1) : St S w0 (L' ++ L) w1 := (h.grow hc).perm List.perm_append_comm
theorem St.tail {x : Nat × Obj} (h : St S w0 (x :: L) w) : St S w0 L w := h.sub (List.sublist_cons_self _ _)
theorem St.dropL {L' : List (Nat × Obj)} (h : St S w0 (L' ++ L) w) : St S w0 L w := h.sub (List.sublist_append_right _ _)
theorem St.dropR {L' : List (Nat × Obj)} (h : St S w0 (L ++ L') w) : St S w0 L w := h.sub (List.sublist_append_left _ _)
/-- From a nearer world on. -/
theorem St.trans {L' : List (Nat × Obj)} (h : Sep w0 L w) (h' : Sep w L' w1) : Sep w0 L' w1 := by
  have := h.grow' h'
  exact this.dropR
end

/-! ## Numbers -/
theorem w64 {x : Int} (h1 : -9223372036854775808 ≤ x) (h2 : x < 9223372036854775808) : IntKind.i64.wrap x = x := IntWalk.i64_in _ ⟨h1, by omega⟩
theorem wadd {a b : Int} (h1 : -9223372036854775808 ≤ a + b) (h2 : a + b < 9223372036854775808) : IntKind.i64.wrap (a + b) = a + b := w64 h1 h2
theorem wsub {a b : Int} (h1 : -9223372036854775808 ≤ a - b) (h2 : a - b < 9223372036854775808) : IntKind.i64.wrap (a - b) = a - b := w64 h1 h2
theorem wmul {a b : Int} (h1 : -9223372036854775808 ≤ a * b) (h2 : a * b < 9223372036854775808) : IntKind.i64.wrap (a * b) = a * b := w64 h1 h2
theorem wneg {a : Int} (h1 : -9223372036854775808 ≤ 0 - a) (h2 : 0 - a < 9223372036854775808) : IntKind.i64.wrap (0 - a) = 0 - a := w64 h1 h2

/-! ## Strings -/
def strB (s : List UInt8) : ByteArray := ⟨s.toArray⟩
abbrev strV (s : List UInt8) : Value := .string (strB s)
theorem strB_of (x : ByteArray) : ∃ s, x = strB s := ⟨x.data.toList, by cases x; simp [strB]⟩
theorem strB_size (s : List UInt8) : (strB s).size = s.length := by simp [strB, ByteArray.size]
theorem strB_list (s : List UInt8) : (strB s).toList = s := ByteArray.toList_mk s
theorem strB_inj {a b : List UInt8} (h : strB a = strB b) : a = b := by have := congrArg ByteArray.toList h; rwa [strB_list, strB_list] at this
theorem strB_iff {a b : List UInt8} : strB a = strB b ↔ a = b := ⟨strB_inj, fun h => h ▸ rfl⟩
theorem strB_app (a b : List UInt8) : strB a ++ strB b = strB (a ++ b) := by
  apply ByteArray.ext
  rw [ByteArray.data_append]
  simp [strB]
theorem strB_ext (a : List UInt8) (i j : Nat) : (strB a).extract i j = strB ((a.drop i).take (j - i)) := by
  apply ByteArray.ext
  rw [ByteArray.data_extract]
  simp only [strB]
  apply Array.ext'
  simp [List.extract_eq_take_drop]
theorem strB_get (a : List UInt8) (j : Nat) : (strB a)[j]? = a[j]? := by
  simp only [strB]
  by_cases h : j < a.length
  · rw [List.getElem?_eq_getElem h]
    have h2 : j < (ByteArray.mk a.toArray).size := by simpa [ByteArray.size] using h
    rw [getElem?_pos (ByteArray.mk a.toArray) j h2]
    rfl
  · rw [List.getElem?_eq_none (by omega), getElem?_neg]
    simpa [ByteArray.size] using h

section
variable {P : Program} {n : Nat} {ops : Array Oper} {B : Array Nat} {dr : Bool} {K : KT} {s : List (Nat × Bool)} {F : Env} {ds : List Deferred} {T : List (Nat × (World → Prop))} {w : World} {i : Nat}
  {d : Option Tmp} {ty : TypeId} {ps : String} {af : Array Edge} {g : Option (Nat × Bool)} {t t2 : TypeId} {x y lo hi ix : Operand}

theorem x_eqS {a b : List UInt8} (r : Bool) (ho : ops[i]? = some ⟨d, .binOp .eql t x y t2, ty, ps, af, g⟩) (hg : guardV ops F g = some true) (hd : dstOK n d = true) (hx : ev? F x = some (.string (strB a))) (hy : ev? F y = some (.string (strB b))) (hr : decide (a = b) = r)
    (h : Ex P n ops B dr K s (putE F d (.bool r)) ds T w) : Ex P n ops B dr K ((i, false) :: s) F ds T w := x_eqs r ho hg hd hx hy (by rw [strB_list, strB_list, ← hr]; rw [Bool.eq_iff_iff]; simp) h
theorem x_neS {a b : List UInt8} (r : Bool) (ho : ops[i]? = some ⟨d, .binOp .neq t x y t2, ty, ps, af, g⟩) (hg : guardV ops F g = some true) (hd : dstOK n d = true) (hx : ev? F x = some (.string (strB a))) (hy : ev? F y = some (.string (strB b))) (hr : (!decide (a = b)) = r)
    (h : Ex P n ops B dr K s (putE F d (.bool r)) ds T w) : Ex P n ops B dr K ((i, false) :: s) F ds T w := x_nes r ho hg hd hx hy (by rw [strB_list, strB_list, ← hr]; rw [Bool.eq_iff_iff]; simp) h
theorem x_ltS {a b : List UInt8} (r : Bool) (ho : ops[i]? = some ⟨d, .binOp .lss t x y t2, ty, ps, af, g⟩) (hg : guardV ops F g = some true) (hd : dstOK n d = true) (hx : ev? F x = some (.string (strB a))) (hy : ev? F y = some (.string (strB b))) (hr : Op.bytesLess a b = r)
    (h : Ex P n ops B dr K s (putE F d (.bool r)) ds T w) : Ex P n ops B dr K ((i, false) :: s) F ds T w := x_lts r ho hg hd hx hy (by rw [strB_list, strB_list]; exact hr) h
theorem x_lenS {a : List UInt8} {at0 : Array TypeId} (ho : ops[i]? = some ⟨d, .call ⟨.builtin .len, #[x], at0⟩, ty, ps, af, g⟩) (hg : guardV ops F g = some true) (hd : dstOK n d = true) (ht : at0[0]? = some t) (hu : P.underlying t = some .string) (hx : ev? F x = some (.string (strB a)))
    (h : Ex P n ops B dr K s (putE F d (.int .i64 (a.length : Int))) ds T w) : Ex P n ops B dr K ((i, false) :: s) F ds T w := x_lens ho hg hd ht hu hx (by rw [strB_size]; exact h)
theorem x_ixS {k : IntKind} {z : Int} {a : List UInt8} {c : UInt8} (j : Nat) (ho : ops[i]? = some ⟨d, .index t x ix, ty, ps, af, g⟩) (hg : guardV ops F g = some true) (hd : dstOK n d = true) (hu : P.underlying t = some .string) (hx : ev? F x = some (.string (strB a))) (hi : ev? F ix = some (.int k z)) (hj : z = (j : Int)) (hc : a[j]? = some c)
    (h : Ex P n ops B dr K s (putE F d (.int .u8 (c.toNat : Int))) ds T w) : Ex P n ops B dr K ((i, false) :: s) F ds T w := x_ixs j ho hg hd hu hx hi hj (by rw [strB_get]; exact hc) h
theorem x_catS {a b : List UInt8} (ho : ops[i]? = some ⟨d, .binOp .add t x y t2, ty, ps, af, g⟩) (hg : guardV ops F g = some true) (hd : dstOK n d = true) (hx : ev? F x = some (.string (strB a))) (hy : ev? F y = some (.string (strB b))) (hr : a.length + b.length ≤ 9223372036854775807)
    (h : Ex P n ops B dr K s (putE F d (.string (strB (a ++ b)))) ds T w) : Ex P n ops B dr K ((i, false) :: s) F ds T w := x_cat ho hg hd hx hy (by rw [strB_size, strB_size]; show ((a.length + b.length : Nat) : Int) ≤ 9223372036854775807; omega) (by rw [strB_app]; exact h)
theorem x_sshS {a : List UInt8} {k : IntKind} {z : Int} (j : Nat) (ho : ops[i]? = some ⟨d, .slice t x none (some hi) none, ty, ps, af, g⟩) (hg : guardV ops F g = some true) (hd : dstOK n d = true)
    (hu : P.underlying t = some .string) (hx : ev? F x = some (.string (strB a))) (hh : ev? F hi = some (.int k z)) (hj : z = (j : Int)) (hle : j ≤ a.length)
    (h : Ex P n ops B dr K s (putE F d (.string (strB (a.take j)))) ds T w) : Ex P n ops B dr K ((i, false) :: s) F ds T w := x_ssh j ho hg hd hu hx hh hj (by rw [strB_size]; exact hle) (by rw [strB_ext]; simpa using h)
theorem x_sslS {a : List UInt8} {k : IntKind} {z : Int} (j : Nat) (ho : ops[i]? = some ⟨d, .slice t x (some lo) none none, ty, ps, af, g⟩) (hg : guardV ops F g = some true) (hd : dstOK n d = true)
    (hu : P.underlying t = some .string) (hx : ev? F x = some (.string (strB a))) (hh : ev? F lo = some (.int k z)) (hj : z = (j : Int)) (hle : j ≤ a.length)
    (h : Ex P n ops B dr K s (putE F d (.string (strB (a.drop j)))) ds T w) : Ex P n ops B dr K ((i, false) :: s) F ds T w := x_ssl j ho hg hd hu hx hh hj (by rw [strB_size]; exact hle) (by
      rw [strB_ext, strB_size, List.take_of_length_le (by simp)]; exact h)
theorem x_sslhS {a : List UInt8} {k1 k2 : IntKind} {z1 z2 : Int} (j1 j2 : Nat) (ho : ops[i]? = some ⟨d, .slice t x (some lo) (some hi) none, ty, ps, af, g⟩) (hg : guardV ops F g = some true) (hd : dstOK n d = true)
    (hu : P.underlying t = some .string) (hx : ev? F x = some (.string (strB a))) (hl : ev? F lo = some (.int k1 z1)) (hh : ev? F hi = some (.int k2 z2)) (hj1 : z1 = (j1 : Int)) (hj2 : z2 = (j2 : Int)) (hle : j1 ≤ j2) (hle2 : j2 ≤ a.length)
    (h : Ex P n ops B dr K s (putE F d (.string (strB ((a.drop j1).take (j2 - j1))))) ds T w) : Ex P n ops B dr K ((i, false) :: s) F ds T w := x_sslh j1 j2 ho hg hd hu hx hl hh hj1 hj2 hle (by rw [strB_size]; exact hle2) (by rw [strB_ext]; exact h)

theorem x_max {k : IntKind} {a0 b0 : Int} {at0 : Array TypeId} (r : Int) (ho : ops[i]? = some ⟨d, .call ⟨.builtin .max, #[x, y], at0⟩, ty, ps, af, g⟩) (hg : guardV ops F g = some true) (hd : dstOK n d = true) (hx : ev? F x = some (.int k a0)) (hy : ev? F y = some (.int k b0)) (hr : (if a0 < b0 then b0 else a0) = r) (h : Ex P n ops B dr K s (putE F d (.int k r)) ds T w) : Ex P n ops B dr K ((i, false) :: s) F ds T w :=
  Ex.pure_ ho hg hd _ (fun a hk w' => by subst hr; simp [execOp, resolve, invoke, builtin, Builtin.max_, Builtin.max2, hk.eval hx, hk.eval hy]) h

/-- A text that is gone through. -/
theorem x_rngS {a : List UInt8} (ho : ops[i]? = some ⟨d, .range t x, ty, ps, af, g⟩) (hg : guardV ops F g = some true) (hd : dstOK n d = true) (hu : P.underlying t = some .string) (hx : ev? F x = some (.string (strB a)))
    (h : ∀ b w1, b = w.heap.size → w1 = w.alloc (.stringIter (strB a) 0) → pend B i T w1 ∧ Ex P n ops B dr K s (putE F d (.pointer (some ⟨b, 0, none⟩))) ds T w1) : Ex P n ops B dr K ((i, true) :: s) F ds T w :=
  Ex.mov_ ho hg hd (fun v w' => v = .pointer (some ⟨w.heap.size, 0, none⟩) ∧ w' = w.alloc (.stringIter (strB a) 0)) (fun at_ hk => by
    unfold OpR
    simp only [execOp, hk.eval hx, Sem.run_bind, run_range_string w t (strB a) hu, Result.andThen_ok, Sem.run_pure, nextR]
    first | exact ⟨rfl, rfl⟩ | exact ⟨trivial, rfl⟩ | trivial) (by rintro v w1 ⟨rfl, rfl⟩; exact h _ _ rfl rfl)

theorem run_nextS_end {b pos : Nat} {a : List UInt8} (hb : w.heap[b]? = some (.stringIter (strB a) pos)) (hp : ¬ pos < a.length) : (Instr.next (.pointer (some ⟨b, 0, none⟩)) true ty).run P w = .ok (.tuple #[.bool false]) w := by
  have : ¬ pos < (strB a).size := by rw [strB_size]; exact hp
  simp [Instr.next, getObj, Sem.run, hb, this]
theorem run_nextS {b pos : Nat} {a : List UInt8} (hb : w.heap[b]? = some (.stringIter (strB a) pos)) (hp : pos < a.length) :
    (Instr.next (.pointer (some ⟨b, 0, none⟩)) true ty).run P w = .ok (.tuple #[.bool true, .int .i64 pos, .int .i32 (Utf8.decode (strB a) pos).1]) (w.putObj b (.stringIter (strB a) (pos + (Utf8.decode (strB a) pos).2))) := by
  have h : pos < (strB a).size := by rw [strB_size]; exact hp
  simp only [Instr.next, getObj, setObj, Sem.run_bind, Sem.run, hb, Result.andThen, h, if_true]
  simp [goInt, World.putObj]

theorem x_nxtS_end {b pos : Nat} {a : List UInt8} (ho : ops[i]? = some ⟨d, .next x true, ty, ps, af, g⟩) (hg : guardV ops F g = some true) (hd : dstOK n d = true) (hx : ev? F x = some (.pointer (some ⟨b, 0, none⟩))) (hb : w.heap[b]? = some (.stringIter (strB a) pos)) (hp : ¬ pos < a.length)
    (hT : pend B i T w) (h : Ex P n ops B dr K s (putE F d (.tuple #[.bool false])) ds T w) : Ex P n ops B dr K ((i, true) :: s) F ds T w :=
  Ex.mov_ ho hg hd (fun v w' => v = .tuple #[.bool false] ∧ w' = w) (fun at_ hk => by
    unfold OpR
    simp only [execOp, hk.eval hx, Sem.run_bind, run_nextS_end hb hp, Result.andThen_ok, Sem.run_pure, nextR]
    first | exact ⟨rfl, rfl⟩ | exact ⟨trivial, rfl⟩ | trivial) (by rintro v w1 ⟨rfl, rfl⟩; exact ⟨hT, h⟩)
theorem x_nxtS {b pos : Nat} {a : List UInt8} (ho : ops[i]? = some ⟨d, .next x true, ty, ps, af, g⟩) (hg : guardV ops F g = some true) (hd : dstOK n d = true) (hx : ev? F x = some (.pointer (some ⟨b, 0, none⟩))) (hb : w.heap[b]? = some (.stringIter (strB a) pos)) (hp : pos < a.length)
    (h : ∀ w1, w1 = w.putObj b (.stringIter (strB a) (pos + (Utf8.decode (strB a) pos).2)) → pend B i T w1 ∧ Ex P n ops B dr K s (putE F d (.tuple #[.bool true, .int .i64 pos, .int .i32 (Utf8.decode (strB a) pos).1])) ds T w1) : Ex P n ops B dr K ((i, true) :: s) F ds T w :=
  Ex.mov_ ho hg hd (fun v w' => v = .tuple #[.bool true, .int .i64 pos, .int .i32 (Utf8.decode (strB a) pos).1] ∧ w' = w.putObj b (.stringIter (strB a) (pos + (Utf8.decode (strB a) pos).2))) (fun at_ hk => by
    unfold OpR
    simp only [execOp, hk.eval hx, Sem.run_bind, run_nextS hb hp, Result.andThen_ok, Sem.run_pure, nextR]
    first | exact ⟨rfl, rfl⟩ | exact ⟨trivial, rfl⟩ | trivial) (by rintro v w1 ⟨rfl, rfl⟩; exact h _ rfl)
end

/-- What 'next' tells of a text, at a place. -/
def nxtV (a : List UInt8) (pos : Nat) : Array Value := if pos < a.length then #[.bool true, .int .i64 pos, .int .i32 (Utf8.decode (strB a) pos).1] else #[.bool false]
def nxtP (a : List UInt8) (pos : Nat) : Nat := if pos < a.length then pos + (Utf8.decode (strB a) pos).2 else pos
theorem nxt0 (a : List UInt8) (pos : Nat) : (nxtV a pos)[0]? = some (.bool (decide (pos < a.length))) := by
  unfold nxtV; split <;> simp [*]
theorem nxt1 {a : List UInt8} {pos : Nat} (h : pos < a.length) : (nxtV a pos)[1]? = some (.int .i64 pos) := by simp [nxtV, h]
theorem nxt2 {a : List UInt8} {pos : Nat} (h : pos < a.length) : (nxtV a pos)[2]? = some (.int .i32 (Utf8.decode (strB a) pos).1) := by simp [nxtV, h]
theorem x_nxtU {P : Program} {n : Nat} {ops : Array Oper} {B : Array Nat} {dr : Bool} {K : KT} {s : List (Nat × Bool)} {F : Env} {ds : List Deferred} {T : List (Nat × (World → Prop))} {w : World} {i : Nat}
    {d : Option Tmp} {ty : TypeId} {ps : String} {af : Array Edge} {g : Option (Nat × Bool)} {x : Operand} {b pos : Nat} {a : List UInt8} (ho : ops[i]? = some ⟨d, .next x true, ty, ps, af, g⟩) (hg : guardV ops F g = some true) (hd : dstOK n d = true) (hx : ev? F x = some (.pointer (some ⟨b, 0, none⟩))) (hb : w.heap[b]? = some (.stringIter (strB a) pos))
    (h : ∀ w1, w1 = (if pos < a.length then w.putObj b (.stringIter (strB a) (pos + (Utf8.decode (strB a) pos).2)) else w) → pend B i T w1 ∧ Ex P n ops B dr K s (putE F d (.tuple (nxtV a pos))) ds T w1) : Ex P n ops B dr K ((i, true) :: s) F ds T w := by
  unfold nxtV at h
  by_cases hp : pos < a.length
  · simp only [hp, if_true] at h
    exact x_nxtS ho hg hd hx hb hp h
  · simp only [hp, if_false] at h
    exact x_nxtS_end ho hg hd hx hb hp (h _ rfl).1 (h _ rfl).2
theorem St.nxt {S : Nat → Prop} {w0 w w1 : World} {L : List (Nat × Obj)} {b pos : Nat} {a : List UInt8} (h : St S w0 L w) (k : Nat) (hk : L[k]? = some (b, .stringIter (strB a) pos)) (hw : w1 = (if pos < a.length then w.putObj b (.stringIter (strB a) (pos + (Utf8.decode (strB a) pos).2)) else w)) : St S w0 (L.set k (b, .stringIter (strB a) (nxtP a pos))) w1 := by
  unfold nxtP
  split
  · rename_i hp; rw [if_pos hp] at hw; exact h.put k hk hw
  · rename_i hp; rw [if_neg hp] at hw; subst hw
    have : L.set k (b, Obj.stringIter (strB a) pos) = L := by
      apply List.ext_getElem?
      intro j
      rw [List.getElem?_set]
      split
      · rename_i e; subst e; split
        · exact hk.symm
        · rename_i hl; rw [List.getElem?_eq_none (by omega)]
      · rfl
    rw [this]; exact h

theorem decode_lo {a : List UInt8} {pos : Nat} {c : UInt8} (hc : a[pos]? = some c) (h : c.toNat < 128) : Utf8.decode (strB a) pos = (c.toNat, 1) := by
  have hp : pos < a.length := (List.getElem?_eq_some_iff.1 hc).1
  have h1 : pos < (strB a).size := by rw [strB_size]; exact hp
  have e : (strB a)[pos]'h1 = c := by
    have := strB_get a pos
    rw [hc, getElem?_pos (strB a) pos h1] at this
    exact Option.some.inj this
  rw [decode_ascii (strB a) pos h1 (by rw [e]; exact h), e]
theorem decode_hi {a : List UInt8} {pos : Nat} {c : UInt8} (hc : a[pos]? = some c) (h : 128 ≤ c.toNat) : 128 ≤ (Utf8.decode (strB a) pos).1 ∧ 1 ≤ (Utf8.decode (strB a) pos).2 := by
  have hp : pos < a.length := (List.getElem?_eq_some_iff.1 hc).1
  have h1 : pos < (strB a).size := by rw [strB_size]; exact hp
  have e : (strB a)[pos]'h1 = c := by
    have := strB_get a pos
    rw [hc, getElem?_pos (strB a) pos h1] at this
    exact Option.some.inj this
  exact decode_high (strB a) pos h1 (by rw [e]; exact h)

/-- A call of a function that the model answers by itself. -/
theorem x_xcall {P : Program} {n : Nat} {ops : Array Oper} {B : Array Nat} {dr : Bool} {K : KT} {s : List (Nat × Bool)} {F : Env} {ds : List Deferred} {T : List (Nat × (World → Prop))} {w : World} {i : Nat}
    {d : Option Tmp} {ty : TypeId} {ps : String} {af : Array Edge} {g : Option (Nat × Bool)} {x : Operand} {args : Array Operand} {at0 : Array TypeId} {f : FuncId} {fn : Func} {vs : List Value} {v : Value} {e : Array Value → Sem Value} (ho : ops[i]? = some ⟨d, .call ⟨.value x, args, at0⟩, ty, ps, af, g⟩) (hg : guardV ops F g = some true) (hd : dstOK n d = true)
    (hx : ev? F x = some (.func (.func f) #[] #[])) (hargs : evs? F args.toList = some vs) (hf : P.funcs[f]? = some fn) (hname : (fn.name == "runtime.NumGoroutine") = false) (hb : fn.body.isNone = true) (hn : Extern.findNext fn = none) (he : Extern.find fn = some e)
    (hr : (e vs.toArray).run P w = .ok v w) (hT : pend B i T w) (h : Ex P n ops B dr K s (putE F d v) ds T w) : Ex P n ops B dr K ((i, true) :: s) F ds T w :=
  Ex.mov_ ho hg hd (fun v' w' => v' = v ∧ w' = w) (fun a hk => by
    unfold OpR
    simp only [execOp, resolve, hk.eval hx, evs_array hk hargs, Deferred.ofValue, Sem.run_bind, Sem.run_pure, Result.andThen_ok, invoke, run_callFunc_extern hf hname hb hn he]
    simp [hr, Result.andThen, nextR]) (by rintro v' w' ⟨rfl, rfl⟩; exact ⟨hT, h⟩)

/-! ## Slices, told by their blocks -/
/-- A slice among these blocks: n elements of m cells. -/
def SlL (L : List (Nat × Obj)) (v : Value) (m n : Nat) (cs : List Value) : Prop :=
  (v = .slice none 0 0 ∧ n = 0 ∧ cs = []) ∨
  ∃ b off cap all T fr, v = .slice (some ⟨b, off, none⟩) n cap ∧ n ≤ cap ∧ (b, Obj.cells all T fr) ∈ L ∧ (all.toList.drop off).take (n * m) = cs ∧ cs.length = n * m
/-- A slice of one's own: its block alone. -/
def OwL (L : List (Nat × Obj)) (v : Value) (m n : Nat) (cs : List Value) : Prop :=
  (v = .slice none 0 0 ∧ n = 0 ∧ cs = [] ∧ L = []) ∨
  ∃ b cap rest T, v = .slice (some ⟨b, 0, none⟩) n cap ∧ L = [(b, .cells (cs ++ rest).toArray T (0, 0))] ∧ cs.length = n * m ∧ (cs ++ rest).length = cap * m

section
variable {P : Program} {S : Nat → Prop} {w0 w w1 : World} {L L' : List (Nat × Obj)} {v : Value} {m k : Nat} {cs : List Value}
theorem SlL.at_ (h : SlL L v m k cs) (M : St S w0 L' w) (hs : ∀ x ∈ L, x ∈ L') : Sl w v m k cs := by
  rcases h with h | ⟨b, off, cap, all, T, fr, h1, h2, h3, h4⟩
  · exact .inl h
  · exact .inr ⟨b, off, cap, all, T, fr, h1, h2, M.get (hs _ h3), h4⟩
theorem SlL.mono (h : SlL L v m k cs) (hs : ∀ x ∈ L, x ∈ L') : SlL L' v m k cs := by
  rcases h with h | ⟨b, off, cap, all, T, fr, h1, h2, h3, h4⟩
  · exact .inl h
  · exact .inr ⟨b, off, cap, all, T, fr, h1, h2, hs _ h3, h4⟩
theorem OwL.sl (h : OwL L v m k cs) (hm : 0 < m) : SlL L v m k cs := by
  rcases h with ⟨h1, h2, h3, _⟩ | ⟨b, cap, rest, T, h1, rfl, h3, h4⟩
  · exact .inl ⟨h1, h2, h3⟩
  · refine .inr ⟨b, 0, cap, _, T, (0, 0), h1, ?_, List.mem_singleton.2 rfl, by simp [← h3], h3⟩
    have : k * m ≤ cap * m := by rw [← h3, ← h4]; simp
    exact Nat.le_of_mul_le_mul_right this hm
theorem OwL.ows (h : OwL L v m k cs) (M : St S w0 L' w) (hs : ∀ x ∈ L, x ∈ L') : OwS w v m k cs := by
  rcases h with ⟨h1, h2, h3, _⟩ | ⟨b, cap, rest, T, h1, rfl, h3, h4⟩
  · exact .inl ⟨h1, h2, h3⟩
  · exact .inr ⟨b, cap, rest, T, h1, M.get (hs _ (List.mem_singleton.2 rfl)), h3, h4⟩
theorem OwL.nil : OwL [] (.slice none 0 0) m 0 [] := .inl ⟨rfl, rfl, rfl, rfl⟩
theorem OwL.shape (h : OwL L v m k cs) : ∃ p cap, v = .slice p k cap := by
  rcases h with ⟨rfl, rfl, _⟩ | ⟨b, cap, rest, T, h1, _⟩
  · exact ⟨none, 0, rfl⟩
  · exact ⟨_, cap, h1⟩
theorem OwL.shape2 (h : OwL L v m k cs) (hm : 0 < m) : ∃ p cap, v = .slice p k cap ∧ k ≤ cap := by
  rcases h with ⟨rfl, rfl, _⟩ | ⟨b, cap, rest, T, h1, _, h3, h4⟩
  · exact ⟨none, 0, rfl, Nat.le_refl _⟩
  · refine ⟨_, cap, h1, ?_⟩
    have : k * m ≤ cap * m := by rw [← h3, ← h4]; simp
    exact Nat.le_of_mul_le_mul_right this hm
theorem SlL.shape (h : SlL L v m k cs) : ∃ p cap, v = .slice p k cap := by
  rcases h with ⟨rfl, rfl, _⟩ | ⟨b, off, cap, all, T, fr, h1, _⟩
  · exact ⟨none, 0, rfl⟩
  · exact ⟨_, cap, h1⟩
theorem OwL.len (h : OwL L v m k cs) : cs.length = k * m := by
  rcases h with ⟨rfl, rfl, rfl, _⟩ | ⟨b, cap, rest, T, h1, _, h2, _⟩
  · simp
  · exact h2
theorem Sl.shape (h : Sl w v m k cs) : ∃ p cap, v = .slice p k cap := by
  rcases h with ⟨rfl, rfl, _⟩ | ⟨b, off, cap, all, T, fr, h1, _⟩
  · exact ⟨none, 0, rfl⟩
  · exact ⟨_, cap, h1⟩
theorem Sl.new (h : Sl w v m k cs) (hn : New w w1) : Sl w1 v m k cs := h.same fun b hb => hn.old b (h.lt b hb) id
theorem Sl.len (h : Sl w v m k cs) : cs.length = k * m := by
  rcases h with ⟨rfl, rfl, rfl⟩ | ⟨b, off, cap, all, T, fr, h1, _, _, _, h2⟩
  · simp
  · exact h2

theorem OwL.take {p : Option Addr} {len cap j : Nat} (h : OwL L (.slice p len cap) m k cs) (hj : j ≤ k) : OwL L (.slice p j cap) m j (cs.take (j * m)) := by
  rcases h with ⟨h1, rfl, rfl, rfl⟩ | ⟨b, cap', rest, T, h1, rfl, h3, h4⟩
  · have : j = 0 := by omega
    subst this
    cases h1
    exact .inl ⟨rfl, rfl, by simp, rfl⟩
  · cases h1
    have hle : j * m ≤ k * m := Nat.mul_le_mul_right _ hj
    refine .inr ⟨b, cap, cs.drop (j * m) ++ rest, T, rfl, ?_, by rw [List.length_take, h3]; omega, ?_⟩
    · rw [← List.append_assoc, List.take_append_drop]
    · rw [← List.append_assoc, List.take_append_drop]; exact h4

/-- A slice that was made, told by its block. -/
theorem OwS.owl (h : OwS w1 v m k cs) (hn : New w w1) (hf : ∀ b, blkOf v = some b → w.heap.size ≤ b) : ∃ L', Sep w L' w1 ∧ OwL L' v m k cs := by
  rcases h with ⟨rfl, rfl, rfl⟩ | ⟨b, cap, rest, T, rfl, hb, h1, h2⟩
  · exact ⟨[], hn, OwL.nil⟩
  · exact ⟨[(b, _)], ⟨hn.size, hn.old, by simp, by simp [hb, hf b rfl], hn.os, hn.tape, hn.output⟩, .inr ⟨b, cap, rest, T, rfl, rfl, h1, h2⟩⟩
end

/-- append to a slice of one's own. -/
theorem x_apL {P : Program} {n : Nat} {ops : Array Oper} {B : Array Nat} {dr : Bool} {K : KT} {s : List (Nat × Bool)} {F : Env} {ds : List Deferred} {T : List (Nat × (World → Prop))} {w : World} {i : Nat}
    {d : Option Tmp} {ty : TypeId} {ps : String} {af : Array Edge} {gd : Option (Nat × Bool)} {x y : Operand} {t tx e m bts k nn : Nat} {z0 xv sv : Value} {cs news : List Value} {at0 : Array TypeId} {S : Nat → Prop} {w0 : World} {L L0 : List (Nat × Obj)} (ho : ops[i]? = some ⟨d, .call ⟨.builtin .append, #[x, y], at0⟩, ty, ps, af, gd⟩) (hg : guardV ops F gd = some true) (hd : dstOK n d = true)
    (hat : at0 = #[t, tx]) (ht : P.underlying t = some (.slice e)) (hm : szOf P e = some m) (hz : zeroOf P e = some z0) (hzm : z0.cells.size = m) (hby : bytesOf' P e = some bts)
    (hx : ev? F x = some sv) (hy : ev? F y = some xv) (hv : OwL L sv m nn cs) (M : St S w0 (L ++ L0) w) (hcs : ∀ u ∈ cs, u.oneCell' = true) (hs : Src P m tx xv k news w) (hfit : (nn + k) * bts ≤ 70368744177664) (hb : bts ≤ 1048576) (h63 : nn + k ≤ 9223372036854775807)
    (h : ∀ L' v' w1, OwL L' v' m (nn + k) (cs ++ news) → St S w0 (L' ++ L0) w1 → pend B i T w1 ∧ Ex P n ops B dr K s (putE F d v') ds T w1) : Ex P n ops B dr K ((i, true) :: s) F ds T w := by
  refine x_app ho hg hd hat ht hm hz hzm hby hx hy (hv.ows M (fun x hx => List.mem_append_left _ hx)) hcs hs hfit hb h63 (fun v' w1 h1 h2 => ?_)
  have key : ∀ b, blkOf v' = some b → ∃ cap rest T, v' = .slice (some ⟨b, 0, none⟩) (nn + k) cap ∧ w1.heap[b]? = some (.cells ((cs ++ news) ++ rest).toArray T (0, 0)) ∧ (cs ++ news).length = (nn + k) * m ∧ ((cs ++ news) ++ rest).length = cap * m := by
    intro b hb
    rcases h1 with ⟨rfl, _⟩ | ⟨b', cap, rest, T, rfl, g1, g2, g3⟩
    · cases hb
    · cases hb; exact ⟨cap, rest, T, rfl, g1, g2, g3⟩
  rcases h2 with ⟨rfl, rfl, rfl, rfl⟩ | ⟨b, o, g1, g2, rfl⟩ | ⟨g1, o, rfl⟩
  · rcases hv with ⟨_, rfl, rfl, rfl⟩ | ⟨b, cap, rest, T, g, _⟩
    · have h0 : news = [] := by have := hs.newsLen; simpa using this
      subst h0
      exact h [] _ _ OwL.nil M
    · cases g
  · obtain ⟨cap, rest, T, rfl, g3, g4, g5⟩ := key b g2
    rcases hv with ⟨rfl, _⟩ | ⟨b', cap', rest', T', rfl, rfl, g6, g7⟩
    · cases g1
    · cases g1
      have M1 := M.put 0 (b := b') (o0 := .cells (cs ++ rest').toArray T' (0, 0)) (o := o) rfl rfl
      have M1 : St S w0 ([(b', o)] ++ L0) (w.putObj b' o) := M1
      have g8 := M1.at_ 0 (b := b') (o := o) rfl
      rw [g3] at g8; cases g8
      exact h [(b', _)] _ _ (.inr ⟨b', cap, rest, T, rfl, rfl, g4, g5⟩) M1
  · obtain ⟨cap, rest, T, rfl, g3, g4, g5⟩ := key _ g1
    have M1 := (M.drew rfl).acons (b := w.heap.size) rfl (o := o) rfl
    have g8 := M1.at_ 0 (b := w.heap.size) (o := o) rfl
    rw [g3] at g8; cases g8
    refine h [(w.heap.size, _)] _ _ (.inr ⟨_, cap, rest, T, rfl, rfl, g4, g5⟩) (M1.sub ?_)
    exact List.Sublist.cons_cons _ (List.sublist_append_right _ _)

/-- A slice literal. -/
theorem x_bsN {P : Program} {n : Nat} {ops : Array Oper} {B : Array Nat} {dr : Bool} {K : KT} {s : List (Nat × Bool)} {F : Env} {ds : List Deferred} {T : List (Nat × (World → Prop))} {w : World} {i : Nat}
    {d : Option Tmp} {ty : TypeId} {ps : String} {af : Array Edge} {gd : Option (Nat × Bool)} {t e : TypeId} {m N : Nat} {z : Value} {Z : List Value} {parts : Array (Nat × Operand)} {vs : List (Nat × Value)} (cells : List Value) (ho : ops[i]? = some ⟨d, .buildSlice t N parts, ty, ps, af, gd⟩) (hg : guardV ops F gd = some true) (hd : dstOK n d = true)
    (ht : P.underlying t = some (.slice e)) (hm : szOf P e = some m) (hz : zeroOf P e = some z) (hZ : z.cells = Z.toArray) (hZm : Z.length = m) (h0 : 0 < N * m) (h24 : N * m ≤ 16777216)
    (hx : evps? F parts.toList = some vs) (hf : Instr.fill (fun i => some (i * m, m)) ((Array.range (N * m)).map fun i => Z.toArray[i % Z.toArray.size]!) vs = some cells.toArray)
    (h : ∀ b w1, b = w.heap.size → w1 = w.alloc (.cells cells.toArray e) → pend B i T w1 ∧ Ex P n ops B dr K s (putE F d (.slice (some ⟨b, 0, none⟩) N N)) ds T w1) : Ex P n ops B dr K ((i, true) :: s) F ds T w := by
  obtain ⟨h1, h2⟩ := h _ _ rfl rfl
  have hm0 : m ≠ 0 := by rintro rfl; simp at h0
  have run : (Instr.buildSlice t N vs.toArray).run P w = .ok (.slice (some ⟨w.heap.size, 0, none⟩) N N) (w.alloc (.cells cells.toArray e)) := by
    unfold Instr.buildSlice
    simp only [Sem.run_bind, run_underlying ht, Result.andThen_ok, run_sizeOf' hm]
    rw [if_neg (by omega), if_neg (by omega)]
    simp only [Sem.run_bind, run_zero' hz, Result.andThen_ok, Sem.run_pure, hZ]
    have hf2 := hf
    simp only [List.size_toArray] at hf2 ⊢
    rw [hf2]
    simp [newRow]
  refine x_mv ho hg hd (v := .slice (some ⟨w.heap.size, 0, none⟩) N N) (w1 := w.alloc (.cells cells.toArray e)) (fun at_ hk => ?_) h1 h2
  simp only [execOp, evps_array hk hx, Sem.run_bind]
  rw [run]
  rfl

/-- A slice that is given: where it is empty nothing is asked of its block. -/
def Sg (w : World) (v : Value) (m n : Nat) (cs : List Value) : Prop := (n = 0 ∧ cs = [] ∧ ∃ p cap, v = .slice p 0 cap) ∨ Sl w v m n cs
section
variable {P : Program} {w w1 : World} {v : Value} {m n : Nat} {cs : List Value}
theorem Sg.shape (h : Sg w v m n cs) : ∃ p cap, v = .slice p n cap := by
  rcases h with ⟨rfl, _, p, cap, rfl⟩ | h
  · exact ⟨p, cap, rfl⟩
  · exact h.shape
theorem Sg.new (h : Sg w v m n cs) (hn : New w w1) : Sg w1 v m n cs := h.imp id fun h => h.new hn
theorem Sg.len (h : Sg w v m n cs) : cs.length = n * m := by
  rcases h with ⟨rfl, rfl, _⟩ | h
  · simp
  · exact h.len
theorem Sg.sl (h : Sg w v m n cs) (hn : n ≠ 0) : Sl w v m n cs := h.resolve_left fun e => hn e.1
theorem Sg.src (h : Sg w v m n cs) {tx e' : TypeId} (hk : P.underlying tx = some (.slice e')) (h1 : ∀ u ∈ cs, u.oneCell' = true) : Src P m tx v n cs w := by
  rcases h with ⟨rfl, rfl, p, cap, rfl⟩ | h
  · cases p with
    | none => exact Src.ofNil w hk cap
    | some a => exact Src.ofSlice w hk a 0 cap [] (by simp) (fun j u hu => by simp at hu) (by simp)
  · exact h.src hk h1
end

/-! ## Rows of strings -/
def strCs (l : List (List UInt8)) : List Value := l.map strV
theorem strCs_one (l : List (List UInt8)) : ∀ u ∈ strCs l, u.oneCell' = true := by
  intro u hu; obtain ⟨x, _, rfl⟩ := List.mem_map.1 hu; rfl
theorem strCs_len (l : List (List UInt8)) : (strCs l).length = l.length := by simp [strCs]
theorem strCs_app (a b : List (List UInt8)) : strCs (a ++ b) = strCs a ++ strCs b := by simp [strCs]
theorem strCs_take (a : List (List UInt8)) (j : Nat) : (strCs a).take j = strCs (a.take j) := by simp [strCs, List.map_take]
theorem strCs_get {l : List (List UInt8)} {j : Nat} {x : List UInt8} (h : l[j]? = some x) : (strCs l)[j]? = some (strV x) := by simp [strCs, h]
/-- A slice that holds these texts. -/
abbrev StrsAt (w : World) (v : Value) (l : List (List UInt8)) : Prop := Sg w v 1 l.length (strCs l)
abbrev StrsL (L : List (Nat × Obj)) (v : Value) (l : List (List UInt8)) : Prop := SlL L v 1 l.length (strCs l)
abbrev StrsO (L : List (Nat × Obj)) (v : Value) (l : List (List UInt8)) : Prop := OwL L v 1 l.length (strCs l)

theorem strsO_snoc {L : List (Nat × Obj)} {v : Value} {A : List (List UInt8)} {n : List UInt8} (h : OwL L v 1 (A.length + 1) (strCs A ++ [strV n])) : StrsO L v (A ++ [n]) := by
  have e1 : (A ++ [n]).length = A.length + 1 := by simp
  have e2 : strCs (A ++ [n]) = strCs A ++ [strV n] := by simp [strCs]
  unfold StrsO; rw [e1, e2]; exact h
theorem strsO_at {S : Nat → Prop} {w0 w : World} {L Lo : List (Nat × Obj)} {v : Value} {A : List (List UInt8)} (h : StrsO Lo v A) (M : St S w0 L w) (hs : ∀ x ∈ Lo, x ∈ L) : StrsAt w v A := .inr ((OwL.sl h (by decide)).at_ M hs)
theorem strsO_take {L : List (Nat × Obj)} {p : Option Addr} {len cap j : Nat} {A : List (List UInt8)} (h : StrsO L (.slice p len cap) A) (hj : j ≤ A.length) : StrsO L (.slice p j cap) (A.take j) := by
  have h1 := OwL.take h hj
  have e1 : (A.take j).length = j := by simp; omega
  have e2 : strCs (A.take j) = (strCs A).take (j * 1) := by simp [strCs, List.map_take]
  unfold StrsO; rw [e1, e2]; exact h1
theorem Sg.blk {w : World} {p : Option Addr} {len cap m n j : Nat} {cs : List Value} (h : Sg w (.slice p len cap) m n cs) (hj : j < n) : ∃ b off, p = some ⟨b, off, none⟩ ∧ len = n := by
  rcases h.sl (by omega) with ⟨_, h2, _⟩ | ⟨b, off, cap', all, T, fr, h1, _⟩
  · omega
  · cases h1; exact ⟨b, off, rfl, rfl⟩
theorem Sl.blk {w : World} {p : Option Addr} {len cap m n j : Nat} {cs : List Value} (h : Sl w (.slice p len cap) m n cs) (hj : j < n) : ∃ b off, p = some ⟨b, off, none⟩ ∧ len = n := by
  rcases h with ⟨_, h2, _⟩ | ⟨b, off, cap', all, T, fr, h1, _⟩
  · omega
  · cases h1; exact ⟨b, off, rfl, rfl⟩
theorem Sl.cell1 {w : World} {b off n cap j : Nat} {cs : List Value} {u : Value} (h : Sl w (.slice (some ⟨b, off, none⟩) n cap) 1 n cs) (hu : cs[j]? = some u) : w.cell? ⟨b, off + j * 1, none⟩ = some u := by
  have := h.cell (j := j) (q := 0) rfl (by simpa using hu)
  simpa using this
theorem StrsAt.cell {w : World} {b off n cap j : Nat} {l : List (List UInt8)} {x : List UInt8} (h : StrsAt w (.slice (some ⟨b, off, none⟩) n cap) l) (hx : l[j]? = some x) : w.cell? ⟨b, off + j * 1, none⟩ = some (strV x) := by
  have hj : j < l.length := (List.getElem?_eq_some_iff.1 hx).1
  have h := h.sl (by omega)
  have hn : n = l.length := by
    rcases h with ⟨h1, _⟩ | ⟨_, _, _, _, _, _, h1, _⟩
    · cases h1
    · cases h1; rfl
  subst hn
  exact Sl.cell1 h (strCs_get hx)
end Go.Fw

namespace Go.Fw
open Go Go.ChangeShapes Go.WideShapes Go.ChangeAt Go.RowKit
set_option linter.unusedVariables false
set_option linter.unusedSimpArgs false

theorem New.below {w w' : World} (h : New w w') : Below w.heap.size w w' := ⟨h.os, h.tape, h.output, h.size, fun k hk => h.old k hk id⟩
theorem below_new {w w' : World} (h : Below w.heap.size w w') : New w w' := ⟨h.size, fun b hb _ => h.block b hb, by simp, by simp, h.os, h.tape, h.output⟩

section
variable {H : Type} {enc : TypeId × Value → H}

theorem trodAll_below {P : Program} {W W' : World} (hl : laidOutB P = true) (hb : Below W.heap.size W W') : ∀ {ts : List TypeId} {vs : List Value} {ds : List (DataW H)} {ps : List MemPlace}, (∀ t ∈ ts, P.readableRec t = true ∧ t < P.types.size) →
    DataW.TrodAll enc P W 0 (fun _ => true) true ts vs ds ps → (∀ x ∈ ps, x.block < W.heap.size) → DataW.TrodAll enc P W' 0 (fun b => decide (b < W.heap.size)) true ts vs ds ps
  | [], [], [], _, _, h, _ => h
  | t :: ts, v :: vs, d :: ds, ps, ht, ⟨p, q, h1, h2, e⟩, hs =>
    ⟨p, q, Below.trod hl (ht t (by simp)).1 (ht t (by simp)).2 h1 hb (fun x hx => hs x (by rw [e]; simp [hx])), trodAll_below hl hb (fun t h => ht t (by simp [h])) h2 (fun x hx => hs x (by rw [e]; simp [hx])), e⟩

/-- Behind a law that answered true, and turned nothing that lay there. -/
theorem law_post {P : Program} {f : Func} {s : ChangeSpec} {W W' : World} {args : Array Value} {ds gs : List (DataW H)} {before : List MemPlace} {b : TypeId} (hl : laidOutB P = true) (hr : ∀ t ∈ f.params.toList, P.readableRec t = true ∧ t < P.types.size)
    (hv : s.vars = []) (hres : f.resultTypes = #[b]) (hb : P.underlying b = some .bool) (hW : DataW.Whole enc P f.params.toList s.vars false W args.toList ds gs before)
    (hs : s.fn H (ds ++ gs) = { results := [.lit (.bool true)], args := ds }) (hn : New W W') : s.post enc P f false true false false W args (.bool true) W' := by
  have hlt := hW.lt
  have hW0 := hW
  obtain ⟨p, q, hA, hV, rfl, hfz, hnd⟩ := hW
  refine ⟨ds, gs, p ++ q, [], p, q, hW0, ?_, ?_, ?_, (New.below hn).frame _, fun h => by cases h⟩
  · rw [hs, hres]
    exact trodAll_cons_mk (shut_bool hb _) trodAll_mk0
  · rw [hs]
    exact trodAll_below hl (New.below hn) hr hA (fun x hx => hlt x (by simp [hx]))
  · rw [hs]
    rw [hv] at hV ⊢
    obtain ⟨rfl, rfl⟩ := trodVars_none hV
    exact rfl

/-- How values of a type are read: their cells, and what holds of them. -/
def Rd (enc : TypeId × Value → H) (P : Program) (W : World) (sp : Nat → Bool) (t : TypeId) {α : Type} (e1 : α → List Value) (R : α → DataW H → Prop) : Prop :=
  ∀ fuel cs x, DataW.trod enc P W 0 sp true fuel t cs = some x → ∃ a, cs = e1 a ∧ R a x.1

variable {P : Program} {W : World} {sp : Nat → Bool}

theorem rd_string {t : TypeId} (ht : P.underlying t = some .string) : Rd enc P W sp t (fun s : List UInt8 => [strV s]) (fun s d => s.length ≤ maxLen ∧ d = .lit (.string s)) := fun fuel cs x h => by
  obtain ⟨s, rfl, rfl, hm⟩ := DataW.trod_string ht h
  obtain ⟨l, rfl⟩ := strB_of s
  exact ⟨l, rfl, by rw [strB_size] at hm; exact hm, by simp [strB]⟩
theorem rd_int {t : TypeId} {k : IntKind} (ht : P.underlying t = some (.int k)) : Rd enc P W sp t (fun z : Int => [.int k z]) (fun z d => (Lit.int k z).wf = true ∧ d = .lit (.int k z)) := fun fuel cs x h => by
  obtain ⟨n, rfl, rfl, hw⟩ := DataW.trod_int ht h
  exact ⟨n, rfl, hw, rfl⟩
theorem rd_bool {t : TypeId} (ht : P.underlying t = some .bool) : Rd enc P W sp t (fun b : Bool => [.bool b]) (fun b d => d = .lit (.bool b)) := fun fuel cs x h => by
  obtain ⟨n, rfl, rfl⟩ := DataW.trod_bool ht h
  exact ⟨n, rfl, rfl⟩

theorem row_of_cells {w : World} {b off : Nat} {l : List Value} (h : ∀ i u, l[i]? = some u → w.cell? ⟨b, off + i, none⟩ = some u) (hp : 0 < l.length) : RowAt w b off l ∧ b < w.heap.size := by
  have h0 := h 0 l[0] (List.getElem?_eq_getElem hp)
  simp only [World.cell?] at h h0
  cases hb : w.heap[b]? with
  | none => simp [hb] at h0
  | some o =>
    have hlt : b < w.heap.size := (Array.getElem?_eq_some_iff.1 hb).1
    cases o with
    | cells cs T fr =>
      refine ⟨⟨cs, T, fr, hb, ?_⟩, hlt⟩
      apply List.ext_getElem?
      intro i
      rw [List.getElem?_take, List.getElem?_drop]
      rcases Nat.lt_or_ge i l.length with hi | hi
      · rw [if_pos hi, List.getElem?_eq_getElem hi]
        have := h i l[i] (List.getElem?_eq_getElem hi)
        rw [hb] at this
        simpa using this
      · rw [if_neg (by omega), List.getElem?_eq_none hi]
    | _ => simp [hb] at h0

theorem flat_len {α : Type} {e1 : α → List Value} {m : Nat} : ∀ {A : List α}, (∀ a ∈ A, (e1 a).length = m) → (A.flatMap e1).length = A.length * m
  | [], _ => by simp
  | a :: A, h => by
    have := flat_len (A := A) (fun x hx => h x (List.mem_cons_of_mem _ hx))
    rw [List.flatMap_cons, List.length_append, h a (by simp), this, List.length_cons, Nat.succ_mul]; omega
theorem flat_get {α : Type} {e1 : α → List Value} {m : Nat} (hm : 0 < m) : ∀ {A : List α}, (∀ a ∈ A, (e1 a).length = m) → ∀ (i j : Nat) (a : α), A[i]? = some a → j < m → (A.flatMap e1)[i * m + j]? = (e1 a)[j]?
  | [], _, i, j, a, h, _ => by simp at h
  | x :: A, hA, 0, j, a, h, hj => by
    simp at h; subst h
    rw [List.flatMap_cons, List.getElem?_append_left (by rw [hA x (by simp)]; omega)]
    simp
  | x :: A, hA, i + 1, j, a, h, hj => by
    simp at h
    have ih := flat_get hm (A := A) (fun x hx => hA x (List.mem_cons_of_mem _ hx)) i j a h hj
    rw [List.flatMap_cons, List.getElem?_append_right (by rw [hA x (by simp), Nat.succ_mul]; omega), hA x (by simp), ← ih]
    congr 1
    rw [Nat.succ_mul]; omega
theorem flat_drop {α : Type} {e1 : α → List Value} {m : Nat} (hm : 0 < m) {A : List α} (hA : ∀ a ∈ A, (e1 a).length = m) {i : Nat} {a : α} (h : A[i]? = some a) : ((A.flatMap e1).drop (i * m)).take (e1 a).length = e1 a := by
  have ha := hA a (List.mem_of_getElem? h)
  apply List.ext_getElem?
  intro j
  rw [List.getElem?_take, List.getElem?_drop]
  rcases Nat.lt_or_ge j m with hj | hj
  · rw [if_pos (by omega), flat_get hm hA i j a h hj]
  · rw [if_neg (by omega), List.getElem?_eq_none (by omega)]

/-- What a slice that is read holds. -/
def SlR {α : Type} (W : World) (m : Nat) (e1 : α → List Value) (R : α → DataW H → Prop) (a : Value × List α) (d : DataW H) : Prop :=
  Sg W a.1 m a.2.length (a.2.flatMap e1) ∧ a.2.length ≤ maxLen ∧ (∀ x ∈ a.2, (e1 x).length = m ∧ ∃ d', R x d') ∧ ((d = .nil ∧ a.2 = []) ∨ ∃ ds rest, d = .slice ds rest ∧ ds.length = a.2.length ∧ ∀ (i : Nat) x d', a.2[i]? = some x → ds[i]? = some d' → R x d')

theorem add_pl (b off j : Nat) : (⟨b, off, none⟩ : Addr).add j = ⟨b, off + j, none⟩ := by
  unfold Addr.add; split
  · rename_i h; subst h; rfl
  · rfl

theorem rd_slice {t e m : Nat} {α : Type} {e1 : α → List Value} {R : α → DataW H → Prop} (ht : P.underlying t = some (.slice e)) (hc : P.cellsOf e = m) (hm : 0 < m) (hR : Rd enc P W sp e e1 R) :
    Rd enc P W sp t (fun a : Value × List α => [a.1]) (SlR W m e1 R) := fun fuel cs x h => by
  rcases DataW.trod_slice ht h with ⟨rfl, rfl⟩ | ⟨a, len, cap, elems, rest, n, _, rfl, rfl, _, hl, hmx, hlen, hel, _⟩
  · exact ⟨(.slice none 0 0, []), rfl, .inl ⟨rfl, rfl, none, 0, rfl⟩, by simp, by simp, .inl ⟨rfl, rfl⟩⟩
  · have each : ∀ i (hi : i < len), ∃ c x, W.cells? 0 (a.add (i * m)) m = some (e1 c) ∧ elems[i]? = some x ∧ R c x.1 := by
      intro i hi
      have he := hel i hi
      rw [hc, List.getElem?_eq_getElem (by omega)] at he
      simp only [Option.bind_eq_some_iff] at he
      obtain ⟨cs, hcs, ht⟩ := he
      obtain ⟨c, rfl, hr⟩ := hR _ _ _ ht
      exact ⟨c, elems[i], hcs, List.getElem?_eq_getElem (by omega), hr⟩
    let A : List α := (List.range len).attach.map fun ⟨i, hi⟩ => Classical.choose (each i (List.mem_range.1 hi))
    have hAl : A.length = len := by simp [A]
    have hA : ∀ i c, A[i]? = some c → ∃ x, W.cells? 0 (a.add (i * m)) m = some (e1 c) ∧ elems[i]? = some x ∧ R c x.1 := by
      intro i c hac
      have hi : i < len := by rw [← hAl]; exact (List.getElem?_eq_some_iff.1 hac).1
      have : A[i]? = some (Classical.choose (each i hi)) := by
        simp only [A, List.getElem?_map]
        rw [List.getElem?_eq_getElem (by simpa using hi)]
        simp
      rw [this] at hac
      cases hac
      exact Classical.choose_spec (each i hi)
    have hlen1 : ∀ c ∈ A, (e1 c).length = m := by
      intro c hc
      obtain ⟨i, hi⟩ := List.mem_iff_getElem?.1 hc
      obtain ⟨x, h1, _, _⟩ := hA i c hi
      exact (World.cells?_some h1).2.1
    refine ⟨(.slice (some a) len cap, A), rfl, ?_, by rw [hAl]; omega, fun c hc => ?_, .inr ⟨_, _, rfl, by simp [hAl, hlen], fun i c d' hi hd => ?_⟩⟩
    · simp only
      rcases Nat.eq_zero_or_pos len with h0 | h0
      · subst h0
        have : A = [] := List.length_eq_zero_iff.1 hAl
        rw [this]
        exact .inl ⟨rfl, rfl, some a, cap, rfl⟩
      · have hspot : a.spot = none := by
          obtain ⟨c, x, h1, _, _⟩ := each 0 h0
          obtain ⟨_, hl4, hcell⟩ := World.cells?_some h1
          have h2 := hcell 0 (by omega)
          rw [List.getElem?_eq_getElem (by omega)] at h2
          simpa [Addr.add] using World.cell?_spot h2
        obtain ⟨bk, off, spot⟩ := a
        simp only at hspot
        subst hspot
        have hrow := row_of_cells (w := W) (b := bk) (off := off) (l := A.flatMap e1) (fun k u hu => by
          have hk : k < A.length * m := by rw [← flat_len hlen1]; exact (List.getElem?_eq_some_iff.1 hu).1
          have hi : k / m < A.length := Nat.div_lt_of_lt_mul (by rw [Nat.mul_comm]; exact hk)
          have hj : k % m < m := Nat.mod_lt _ hm
          have hkk : k / m * m + k % m = k := by rw [Nat.mul_comm]; exact Nat.div_add_mod k m
          obtain ⟨c, hc⟩ : ∃ c, A[k / m]? = some c := ⟨A[k / m], List.getElem?_eq_getElem hi⟩
          obtain ⟨x, h1, _, _⟩ := hA _ c hc
          obtain ⟨_, hl4, hcell⟩ := World.cells?_some h1
          have h2 := hcell (k % m) (by omega)
          have h3 := flat_get hm hlen1 (k / m) (k % m) c hc hj
          rw [hkk, hu] at h3
          rw [add_pl, add_pl, ← h3] at h2
          rw [show off + k = off + k / m * m + k % m from by omega]
          exact h2) (by rw [flat_len hlen1, hAl]; exact Nat.mul_pos h0 hm)
        obtain ⟨⟨cs, T, fr, hb, htk⟩, _⟩ := hrow
        rw [flat_len hlen1] at htk
        exact .inr (.inr ⟨bk, off, cap, cs, T, fr, by rw [hAl], by rw [hAl]; omega, hb, htk, flat_len hlen1⟩)
    · obtain ⟨i, hi⟩ := List.mem_iff_getElem?.1 hc
      obtain ⟨x, _, _, hr⟩ := hA i c hi
      exact ⟨hlen1 c hc, x.1, hr⟩
    · obtain ⟨x, _, h2, h3⟩ := hA i c hi
      rw [List.getElem?_map, h2] at hd
      cases hd
      exact h3

/-- An argument that is one cell. -/
theorem open1 {t : TypeId} {α : Type} {e1 : α → List Value} {R : α → DataW H → Prop} (hR : Rd enc P W sp t e1 R) {v : Value} {d : DataW H} {p : List MemPlace} (h : DataW.Trod enc P W 0 sp true t v d p) (hv : v.cells = #[v]) : ∃ a, [v] = e1 a ∧ R a d := by
  obtain ⟨n, hn⟩ := h
  rw [hv] at hn
  exact hR _ _ _ hn
end
end Go.Fw

namespace Go.Proofs.Ytccfmfehfhfhhaa
open Go Go.Fw Go.ChangeShapes Go.WideShapes Go.ChangeAt Go.RowKit
theorem own : ownKnob Try.prog.godebug = none := by kernel_rfl
theorem laid : laidOutB Try.prog = true := by kernel_rfl
theorem cStr : Try.prog.cellsOf 9 = 1 := by kernel_rfl
theorem strs_flat : ∀ l : List (List UInt8), (l.flatMap fun s => [strV s]) = strCs l
  | [] => rfl
  | x :: l => by rw [List.flatMap_cons, strs_flat l]; rfl
theorem strs_of {H : Type} {W : World} {R : List UInt8 → DataW H → Prop} {v : Value} {l : List (List UInt8)} {d : DataW H} (h : SlR W 1 (fun s : List UInt8 => [strV s]) R (v, l) d) : StrsAt W v l := by
  have := h.1
  rw [strs_flat] at this
  exact this
end Go.Proofs.Ytccfmfehfhfhhaa

namespace Go.Proofs.Ytccfmfehfhfhhaa
open Go Go.Fw Go.Proofs
theorem by0 : bytesOf' Try.prog 0 = some 0 := by kernel_rfl
theorem by1 : bytesOf' Try.prog 1 = some 8 := by kernel_rfl
theorem by10 : bytesOf' Try.prog 10 = some 16 := by kernel_rfl
theorem by100 : bytesOf' Try.prog 100 = some 8 := by kernel_rfl
theorem by101 : bytesOf' Try.prog 101 = some 0 := by kernel_rfl
theorem by102 : bytesOf' Try.prog 102 = some 0 := by kernel_rfl
theorem by103 : bytesOf' Try.prog 103 = some 8 := by kernel_rfl
theorem by104 : bytesOf' Try.prog 104 = some 8 := by kernel_rfl
theorem by105 : bytesOf' Try.prog 105 = some 8 := by kernel_rfl
theorem by106 : bytesOf' Try.prog 106 = some 8 := by kernel_rfl
theorem by107 : bytesOf' Try.prog 107 = some 8 := by kernel_rfl
theorem by108 : bytesOf' Try.prog 108 = some 8 := by kernel_rfl
theorem by109 : bytesOf' Try.prog 109 = some 8 := by kernel_rfl
theorem by11 : bytesOf' Try.prog 11 = some 16 := by kernel_rfl
theorem by110 : bytesOf' Try.prog 110 = some 8 := by kernel_rfl
theorem by111 : bytesOf' Try.prog 111 = some 8 := by kernel_rfl
theorem by112 : bytesOf' Try.prog 112 = some 8 := by kernel_rfl
theorem by113 : bytesOf' Try.prog 113 = some 8 := by kernel_rfl
theorem by114 : bytesOf' Try.prog 114 = some 8 := by kernel_rfl
theorem by115 : bytesOf' Try.prog 115 = some 8 := by kernel_rfl
theorem by116 : bytesOf' Try.prog 116 = some 8 := by kernel_rfl
theorem by117 : bytesOf' Try.prog 117 = some 8 := by kernel_rfl
theorem by118 : bytesOf' Try.prog 118 = some 0 := by kernel_rfl
theorem by119 : bytesOf' Try.prog 119 = some 8 := by kernel_rfl
theorem by12 : bytesOf' Try.prog 12 = some 8 := by kernel_rfl
theorem by120 : bytesOf' Try.prog 120 = some 8 := by kernel_rfl
theorem by121 : bytesOf' Try.prog 121 = some 8 := by kernel_rfl
theorem by122 : bytesOf' Try.prog 122 = some 0 := by kernel_rfl
theorem by123 : bytesOf' Try.prog 123 = some 8 := by kernel_rfl
theorem by124 : bytesOf' Try.prog 124 = some 8 := by kernel_rfl
theorem by125 : bytesOf' Try.prog 125 = some 8 := by kernel_rfl
theorem by126 : bytesOf' Try.prog 126 = some 0 := by kernel_rfl
theorem by127 : bytesOf' Try.prog 127 = some 8 := by kernel_rfl
theorem by128 : bytesOf' Try.prog 128 = some 8 := by kernel_rfl
theorem by129 : bytesOf' Try.prog 129 = some 4 := by kernel_rfl
theorem by13 : bytesOf' Try.prog 13 = some 24 := by kernel_rfl
theorem by130 : bytesOf' Try.prog 130 = some 8 := by kernel_rfl
theorem by131 : bytesOf' Try.prog 131 = some 8 := by kernel_rfl
theorem by132 : bytesOf' Try.prog 132 = some 8 := by kernel_rfl
theorem by133 : bytesOf' Try.prog 133 = some 8 := by kernel_rfl
theorem by134 : bytesOf' Try.prog 134 = some 8 := by kernel_rfl
theorem by135 : bytesOf' Try.prog 135 = some 8 := by kernel_rfl
theorem by136 : bytesOf' Try.prog 136 = some 8 := by kernel_rfl
theorem by137 : bytesOf' Try.prog 137 = some 8 := by kernel_rfl
theorem by138 : bytesOf' Try.prog 138 = some 8 := by kernel_rfl
theorem by139 : bytesOf' Try.prog 139 = some 0 := by kernel_rfl
theorem by14 : bytesOf' Try.prog 14 = some 24 := by kernel_rfl
theorem by140 : bytesOf' Try.prog 140 = some 8 := by kernel_rfl
theorem by141 : bytesOf' Try.prog 141 = some 8 := by kernel_rfl
theorem by142 : bytesOf' Try.prog 142 = some 0 := by kernel_rfl
theorem by143 : bytesOf' Try.prog 143 = some 8 := by kernel_rfl
theorem by144 : bytesOf' Try.prog 144 = some 8 := by kernel_rfl
theorem by145 : bytesOf' Try.prog 145 = some 40 := by kernel_rfl
theorem by146 : bytesOf' Try.prog 146 = some 40 := by kernel_rfl
theorem by147 : bytesOf' Try.prog 147 = some 0 := by kernel_rfl
theorem by148 : bytesOf' Try.prog 148 = some 0 := by kernel_rfl
theorem by149 : bytesOf' Try.prog 149 = some 0 := by kernel_rfl
theorem by15 : bytesOf' Try.prog 15 = some 8 := by kernel_rfl
theorem by150 : bytesOf' Try.prog 150 = some 8 := by kernel_rfl
theorem by151 : bytesOf' Try.prog 151 = some 1 := by kernel_rfl
theorem by152 : bytesOf' Try.prog 152 = some 1 := by kernel_rfl
theorem by153 : bytesOf' Try.prog 153 = some 8 := by kernel_rfl
theorem by154 : bytesOf' Try.prog 154 = some 8 := by kernel_rfl
theorem by155 : bytesOf' Try.prog 155 = some 4 := by kernel_rfl
theorem by156 : bytesOf' Try.prog 156 = some 4 := by kernel_rfl
theorem by157 : bytesOf' Try.prog 157 = some 48 := by kernel_rfl
theorem by158 : bytesOf' Try.prog 158 = some 48 := by kernel_rfl
theorem by159 : bytesOf' Try.prog 159 = some 8 := by kernel_rfl
theorem by16 : bytesOf' Try.prog 16 = some 8 := by kernel_rfl
theorem by17 : bytesOf' Try.prog 17 = some 8 := by kernel_rfl
theorem by18 : bytesOf' Try.prog 18 = some 8 := by kernel_rfl
theorem by19 : bytesOf' Try.prog 19 = some 8 := by kernel_rfl
theorem by2 : bytesOf' Try.prog 2 = some 8 := by kernel_rfl
theorem by20 : bytesOf' Try.prog 20 = some 16 := by kernel_rfl
theorem by21 : bytesOf' Try.prog 21 = some 4 := by kernel_rfl
theorem by22 : bytesOf' Try.prog 22 = some 24 := by kernel_rfl
theorem by23 : bytesOf' Try.prog 23 = some 24 := by kernel_rfl
theorem by24 : bytesOf' Try.prog 24 = some 48 := by kernel_rfl
theorem by25 : bytesOf' Try.prog 25 = some 48 := by kernel_rfl
theorem by26 : bytesOf' Try.prog 26 = some 8 := by kernel_rfl
theorem by27 : bytesOf' Try.prog 27 = some 8 := by kernel_rfl
theorem by28 : bytesOf' Try.prog 28 = some 8 := by kernel_rfl
theorem by29 : bytesOf' Try.prog 29 = some 0 := by kernel_rfl
theorem by3 : bytesOf' Try.prog 3 = some 8 := by kernel_rfl
theorem by30 : bytesOf' Try.prog 30 = some 8 := by kernel_rfl
theorem by31 : bytesOf' Try.prog 31 = some 24 := by kernel_rfl
theorem by32 : bytesOf' Try.prog 32 = some 24 := by kernel_rfl
theorem by33 : bytesOf' Try.prog 33 = some 0 := by kernel_rfl
theorem by34 : bytesOf' Try.prog 34 = some 8 := by kernel_rfl
theorem by35 : bytesOf' Try.prog 35 = some 8 := by kernel_rfl
theorem by36 : bytesOf' Try.prog 36 = some 8 := by kernel_rfl
theorem by37 : bytesOf' Try.prog 37 = some 8 := by kernel_rfl
theorem by38 : bytesOf' Try.prog 38 = some 24 := by kernel_rfl
theorem by39 : bytesOf' Try.prog 39 = some 8 := by kernel_rfl
theorem by4 : bytesOf' Try.prog 4 = some 1 := by kernel_rfl
theorem by40 : bytesOf' Try.prog 40 = some 8 := by kernel_rfl
theorem by41 : bytesOf' Try.prog 41 = some 8 := by kernel_rfl
theorem by42 : bytesOf' Try.prog 42 = some 64 := by kernel_rfl
theorem by43 : bytesOf' Try.prog 43 = some 64 := by kernel_rfl
theorem by44 : bytesOf' Try.prog 44 = some 8 := by kernel_rfl
theorem by45 : bytesOf' Try.prog 45 = some 8 := by kernel_rfl
theorem by46 : bytesOf' Try.prog 46 = some 8 := by kernel_rfl
theorem by47 : bytesOf' Try.prog 47 = some 8 := by kernel_rfl
theorem by48 : bytesOf' Try.prog 48 = some 0 := by kernel_rfl
theorem by49 : bytesOf' Try.prog 49 = some 8 := by kernel_rfl
theorem by5 : bytesOf' Try.prog 5 = some 1 := by kernel_rfl
theorem by50 : bytesOf' Try.prog 50 = some 8 := by kernel_rfl
theorem by51 : bytesOf' Try.prog 51 = some 8 := by kernel_rfl
theorem by52 : bytesOf' Try.prog 52 = some 8 := by kernel_rfl
theorem by53 : bytesOf' Try.prog 53 = some 0 := by kernel_rfl
theorem by54 : bytesOf' Try.prog 54 = some 8 := by kernel_rfl
theorem by55 : bytesOf' Try.prog 55 = some 8 := by kernel_rfl
theorem by56 : bytesOf' Try.prog 56 = some 24 := by kernel_rfl
theorem by57 : bytesOf' Try.prog 57 = some 0 := by kernel_rfl
theorem by58 : bytesOf' Try.prog 58 = some 8 := by kernel_rfl
theorem by59 : bytesOf' Try.prog 59 = some 0 := by kernel_rfl
theorem by6 : bytesOf' Try.prog 6 = some 1 := by kernel_rfl
theorem by60 : bytesOf' Try.prog 60 = some 8 := by kernel_rfl
theorem by61 : bytesOf' Try.prog 61 = some 8 := by kernel_rfl
theorem by62 : bytesOf' Try.prog 62 = some 16 := by kernel_rfl
theorem by63 : bytesOf' Try.prog 63 = some 16 := by kernel_rfl
theorem by64 : bytesOf' Try.prog 64 = some 8 := by kernel_rfl
theorem by65 : bytesOf' Try.prog 65 = some 8 := by kernel_rfl
theorem by66 : bytesOf' Try.prog 66 = some 8 := by kernel_rfl
theorem by67 : bytesOf' Try.prog 67 = some 8 := by kernel_rfl
theorem by68 : bytesOf' Try.prog 68 = some 0 := by kernel_rfl
theorem by69 : bytesOf' Try.prog 69 = some 8 := by kernel_rfl
theorem by7 : bytesOf' Try.prog 7 = some 24 := by kernel_rfl
theorem by70 : bytesOf' Try.prog 70 = some 8 := by kernel_rfl
theorem by71 : bytesOf' Try.prog 71 = some 8 := by kernel_rfl
theorem by72 : bytesOf' Try.prog 72 = some 8 := by kernel_rfl
theorem by73 : bytesOf' Try.prog 73 = some 8 := by kernel_rfl
theorem by74 : bytesOf' Try.prog 74 = some 8 := by kernel_rfl
theorem by75 : bytesOf' Try.prog 75 = some 8 := by kernel_rfl
theorem by76 : bytesOf' Try.prog 76 = some 0 := by kernel_rfl
theorem by77 : bytesOf' Try.prog 77 = some 8 := by kernel_rfl
theorem by78 : bytesOf' Try.prog 78 = some 8 := by kernel_rfl
theorem by79 : bytesOf' Try.prog 79 = some 8 := by kernel_rfl
theorem by8 : bytesOf' Try.prog 8 = some 24 := by kernel_rfl
theorem by80 : bytesOf' Try.prog 80 = some 8 := by kernel_rfl
theorem by81 : bytesOf' Try.prog 81 = some 40 := by kernel_rfl
theorem by82 : bytesOf' Try.prog 82 = some 40 := by kernel_rfl
theorem by83 : bytesOf' Try.prog 83 = some 8 := by kernel_rfl
theorem by84 : bytesOf' Try.prog 84 = some 8 := by kernel_rfl
theorem by85 : bytesOf' Try.prog 85 = some 0 := by kernel_rfl
theorem by86 : bytesOf' Try.prog 86 = some 8 := by kernel_rfl
theorem by87 : bytesOf' Try.prog 87 = some 8 := by kernel_rfl
theorem by88 : bytesOf' Try.prog 88 = some 8 := by kernel_rfl
theorem by89 : bytesOf' Try.prog 89 = some 8 := by kernel_rfl
theorem by9 : bytesOf' Try.prog 9 = some 16 := by kernel_rfl
theorem by90 : bytesOf' Try.prog 90 = some 8 := by kernel_rfl
theorem by91 : bytesOf' Try.prog 91 = some 8 := by kernel_rfl
theorem by92 : bytesOf' Try.prog 92 = some 8 := by kernel_rfl
theorem by93 : bytesOf' Try.prog 93 = some 8 := by kernel_rfl
theorem by94 : bytesOf' Try.prog 94 = some 8 := by kernel_rfl
theorem by95 : bytesOf' Try.prog 95 = some 8 := by kernel_rfl
theorem by96 : bytesOf' Try.prog 96 = some 8 := by kernel_rfl
theorem by97 : bytesOf' Try.prog 97 = some 0 := by kernel_rfl
theorem by98 : bytesOf' Try.prog 98 = some 8 := by kernel_rfl
theorem by99 : bytesOf' Try.prog 99 = some 8 := by kernel_rfl
theorem en100 : entered Try.prog 100 = true := by kernel_rfl
theorem en101 : entered Try.prog 101 = true := by kernel_rfl
theorem en102 : entered Try.prog 102 = true := by kernel_rfl
theorem en103 : entered Try.prog 103 = true := by kernel_rfl
theorem en104 : entered Try.prog 104 = true := by kernel_rfl
theorem en106 : entered Try.prog 106 = true := by kernel_rfl
theorem en107 : entered Try.prog 107 = true := by kernel_rfl
theorem en109 : entered Try.prog 109 = true := by kernel_rfl
theorem en11 : entered Try.prog 11 = true := by kernel_rfl
theorem en12 : entered Try.prog 12 = true := by kernel_rfl
theorem en13 : entered Try.prog 13 = true := by kernel_rfl
theorem en14 : entered Try.prog 14 = true := by kernel_rfl
theorem en15 : entered Try.prog 15 = true := by kernel_rfl
theorem en16 : entered Try.prog 16 = true := by kernel_rfl
theorem en17 : entered Try.prog 17 = true := by kernel_rfl
theorem en18 : entered Try.prog 18 = true := by kernel_rfl
theorem en19 : entered Try.prog 19 = true := by kernel_rfl
theorem en20 : entered Try.prog 20 = true := by kernel_rfl
theorem en21 : entered Try.prog 21 = true := by kernel_rfl
theorem en22 : entered Try.prog 22 = true := by kernel_rfl
theorem en23 : entered Try.prog 23 = true := by kernel_rfl
theorem en24 : entered Try.prog 24 = true := by kernel_rfl
theorem en25 : entered Try.prog 25 = true := by kernel_rfl
theorem en26 : entered Try.prog 26 = true := by kernel_rfl
theorem en27 : entered Try.prog 27 = true := by kernel_rfl
theorem en28 : entered Try.prog 28 = true := by kernel_rfl
theorem en29 : entered Try.prog 29 = true := by kernel_rfl
theorem en30 : entered Try.prog 30 = true := by kernel_rfl
theorem en31 : entered Try.prog 31 = true := by kernel_rfl
theorem en32 : entered Try.prog 32 = true := by kernel_rfl
theorem en33 : entered Try.prog 33 = true := by kernel_rfl
theorem en34 : entered Try.prog 34 = true := by kernel_rfl
theorem en35 : entered Try.prog 35 = true := by kernel_rfl
theorem en36 : entered Try.prog 36 = true := by kernel_rfl
theorem en37 : entered Try.prog 37 = true := by kernel_rfl
theorem en38 : entered Try.prog 38 = true := by kernel_rfl
theorem en39 : entered Try.prog 39 = true := by kernel_rfl
theorem en40 : entered Try.prog 40 = true := by kernel_rfl
theorem en41 : entered Try.prog 41 = true := by kernel_rfl
theorem en42 : entered Try.prog 42 = true := by kernel_rfl
theorem en43 : entered Try.prog 43 = true := by kernel_rfl
theorem en44 : entered Try.prog 44 = true := by kernel_rfl
theorem en45 : entered Try.prog 45 = true := by kernel_rfl
theorem en46 : entered Try.prog 46 = true := by kernel_rfl
theorem en47 : entered Try.prog 47 = true := by kernel_rfl
theorem en48 : entered Try.prog 48 = true := by kernel_rfl
theorem en49 : entered Try.prog 49 = true := by kernel_rfl
theorem en50 : entered Try.prog 50 = true := by kernel_rfl
theorem en51 : entered Try.prog 51 = true := by kernel_rfl
theorem en52 : entered Try.prog 52 = true := by kernel_rfl
theorem en53 : entered Try.prog 53 = true := by kernel_rfl
theorem en54 : entered Try.prog 54 = true := by kernel_rfl
theorem en55 : entered Try.prog 55 = true := by kernel_rfl
theorem en56 : entered Try.prog 56 = true := by kernel_rfl
theorem en57 : entered Try.prog 57 = true := by kernel_rfl
theorem en58 : entered Try.prog 58 = true := by kernel_rfl
theorem en59 : entered Try.prog 59 = true := by kernel_rfl
theorem en60 : entered Try.prog 60 = true := by kernel_rfl
theorem en61 : entered Try.prog 61 = true := by kernel_rfl
theorem en62 : entered Try.prog 62 = true := by kernel_rfl
theorem en63 : entered Try.prog 63 = true := by kernel_rfl
theorem en64 : entered Try.prog 64 = true := by kernel_rfl
theorem en65 : entered Try.prog 65 = true := by kernel_rfl
theorem en66 : entered Try.prog 66 = true := by kernel_rfl
theorem en67 : entered Try.prog 67 = true := by kernel_rfl
theorem en68 : entered Try.prog 68 = true := by kernel_rfl
theorem en69 : entered Try.prog 69 = true := by kernel_rfl
theorem en71 : entered Try.prog 71 = true := by kernel_rfl
theorem en72 : entered Try.prog 72 = true := by kernel_rfl
theorem en73 : entered Try.prog 73 = true := by kernel_rfl
theorem en74 : entered Try.prog 74 = true := by kernel_rfl
theorem en75 : entered Try.prog 75 = true := by kernel_rfl
theorem en76 : entered Try.prog 76 = true := by kernel_rfl
theorem en77 : entered Try.prog 77 = true := by kernel_rfl
theorem en78 : entered Try.prog 78 = true := by kernel_rfl
theorem en79 : entered Try.prog 79 = true := by kernel_rfl
theorem en80 : entered Try.prog 80 = true := by kernel_rfl
theorem en81 : entered Try.prog 81 = true := by kernel_rfl
theorem en82 : entered Try.prog 82 = true := by kernel_rfl
theorem en83 : entered Try.prog 83 = true := by kernel_rfl
theorem en84 : entered Try.prog 84 = true := by kernel_rfl
theorem en85 : entered Try.prog 85 = true := by kernel_rfl
theorem en86 : entered Try.prog 86 = true := by kernel_rfl
theorem en87 : entered Try.prog 87 = true := by kernel_rfl
theorem en88 : entered Try.prog 88 = true := by kernel_rfl
theorem en89 : entered Try.prog 89 = true := by kernel_rfl
theorem en90 : entered Try.prog 90 = true := by kernel_rfl
theorem en91 : entered Try.prog 91 = true := by kernel_rfl
theorem en92 : entered Try.prog 92 = true := by kernel_rfl
theorem en94 : entered Try.prog 94 = true := by kernel_rfl
theorem en95 : entered Try.prog 95 = true := by kernel_rfl
theorem en96 : entered Try.prog 96 = true := by kernel_rfl
theorem en97 : entered Try.prog 97 = true := by kernel_rfl
theorem en98 : entered Try.prog 98 = true := by kernel_rfl
theorem en99 : entered Try.prog 99 = true := by kernel_rfl
theorem fo25_0 : foOf Try.prog 25 0 = some 0 := by kernel_rfl
theorem fo25_1 : foOf Try.prog 25 1 = some 1 := by kernel_rfl
theorem fo25_2 : foOf Try.prog 25 2 = some 2 := by kernel_rfl
theorem fo32_0 : foOf Try.prog 32 0 = some 0 := by kernel_rfl
theorem fo43_0 : foOf Try.prog 43 0 = some 0 := by kernel_rfl
theorem fo43_1 : foOf Try.prog 43 1 = some 1 := by kernel_rfl
theorem fo43_2 : foOf Try.prog 43 2 = some 2 := by kernel_rfl
theorem fo43_3 : foOf Try.prog 43 3 = some 3 := by kernel_rfl
theorem fo63_0 : foOf Try.prog 63 0 = some 0 := by kernel_rfl
theorem fo63_1 : foOf Try.prog 63 1 = some 1 := by kernel_rfl
theorem fo80_0 : foOf Try.prog 80 0 = some 0 := by kernel_rfl
theorem fo82_0 : foOf Try.prog 82 0 = some 0 := by kernel_rfl
theorem fo82_1 : foOf Try.prog 82 1 = some 1 := by kernel_rfl
theorem fo82_2 : foOf Try.prog 82 2 = some 2 := by kernel_rfl
theorem pl25 : placesOf Try.prog 25 = some [(0, 1), (1, 1), (2, 1)] := by kernel_rfl
theorem pl32 : placesOf Try.prog 32 = some [(0, 1)] := by kernel_rfl
theorem pl63 : placesOf Try.prog 63 = some [(0, 1), (1, 1)] := by kernel_rfl
theorem pl80 : placesOf Try.prog 80 = some [(0, 1)] := by kernel_rfl
theorem pl82 : placesOf Try.prog 82 = some [(0, 1), (1, 1), (2, 1)] := by kernel_rfl
theorem sz0 : szOf Try.prog 0 = some 1 := by kernel_rfl
theorem sz1 : szOf Try.prog 1 = some 1 := by kernel_rfl
theorem sz10 : szOf Try.prog 10 = some 1 := by kernel_rfl
theorem sz100 : szOf Try.prog 100 = some 1 := by kernel_rfl
theorem sz101 : szOf Try.prog 101 = some 1 := by kernel_rfl
theorem sz102 : szOf Try.prog 102 = some 1 := by kernel_rfl
theorem sz103 : szOf Try.prog 103 = some 1 := by kernel_rfl
theorem sz104 : szOf Try.prog 104 = some 1 := by kernel_rfl
theorem sz105 : szOf Try.prog 105 = some 1 := by kernel_rfl
theorem sz106 : szOf Try.prog 106 = some 1 := by kernel_rfl
theorem sz107 : szOf Try.prog 107 = some 1 := by kernel_rfl
theorem sz108 : szOf Try.prog 108 = some 1 := by kernel_rfl
theorem sz109 : szOf Try.prog 109 = some 1 := by kernel_rfl
theorem sz11 : szOf Try.prog 11 = some 1 := by kernel_rfl
theorem sz110 : szOf Try.prog 110 = some 1 := by kernel_rfl
theorem sz111 : szOf Try.prog 111 = some 1 := by kernel_rfl
theorem sz112 : szOf Try.prog 112 = some 1 := by kernel_rfl
theorem sz113 : szOf Try.prog 113 = some 1 := by kernel_rfl
theorem sz114 : szOf Try.prog 114 = some 1 := by kernel_rfl
theorem sz115 : szOf Try.prog 115 = some 1 := by kernel_rfl
theorem sz116 : szOf Try.prog 116 = some 1 := by kernel_rfl
theorem sz117 : szOf Try.prog 117 = some 1 := by kernel_rfl
theorem sz118 : szOf Try.prog 118 = some 1 := by kernel_rfl
theorem sz119 : szOf Try.prog 119 = some 1 := by kernel_rfl
theorem sz12 : szOf Try.prog 12 = some 1 := by kernel_rfl
theorem sz120 : szOf Try.prog 120 = some 1 := by kernel_rfl
theorem sz121 : szOf Try.prog 121 = some 1 := by kernel_rfl
theorem sz122 : szOf Try.prog 122 = some 1 := by kernel_rfl
theorem sz123 : szOf Try.prog 123 = some 1 := by kernel_rfl
theorem sz124 : szOf Try.prog 124 = some 1 := by kernel_rfl
theorem sz125 : szOf Try.prog 125 = some 1 := by kernel_rfl
theorem sz126 : szOf Try.prog 126 = some 1 := by kernel_rfl
theorem sz127 : szOf Try.prog 127 = some 1 := by kernel_rfl
theorem sz128 : szOf Try.prog 128 = some 1 := by kernel_rfl
theorem sz129 : szOf Try.prog 129 = some 1 := by kernel_rfl
theorem sz13 : szOf Try.prog 13 = some 2 := by kernel_rfl
theorem sz130 : szOf Try.prog 130 = some 1 := by kernel_rfl
theorem sz131 : szOf Try.prog 131 = some 1 := by kernel_rfl
theorem sz132 : szOf Try.prog 132 = some 1 := by kernel_rfl
theorem sz133 : szOf Try.prog 133 = some 1 := by kernel_rfl
theorem sz134 : szOf Try.prog 134 = some 1 := by kernel_rfl
theorem sz135 : szOf Try.prog 135 = some 1 := by kernel_rfl
theorem sz136 : szOf Try.prog 136 = some 1 := by kernel_rfl
theorem sz137 : szOf Try.prog 137 = some 1 := by kernel_rfl
theorem sz138 : szOf Try.prog 138 = some 1 := by kernel_rfl
theorem sz139 : szOf Try.prog 139 = some 1 := by kernel_rfl
theorem sz14 : szOf Try.prog 14 = some 2 := by kernel_rfl
theorem sz140 : szOf Try.prog 140 = some 1 := by kernel_rfl
theorem sz141 : szOf Try.prog 141 = some 1 := by kernel_rfl
theorem sz142 : szOf Try.prog 142 = some 1 := by kernel_rfl
theorem sz143 : szOf Try.prog 143 = some 1 := by kernel_rfl
theorem sz144 : szOf Try.prog 144 = some 1 := by kernel_rfl
theorem sz145 : szOf Try.prog 145 = some 4 := by kernel_rfl
theorem sz146 : szOf Try.prog 146 = some 4 := by kernel_rfl
theorem sz147 : szOf Try.prog 147 = some 0 := by kernel_rfl
theorem sz148 : szOf Try.prog 148 = some 0 := by kernel_rfl
theorem sz149 : szOf Try.prog 149 = some 0 := by kernel_rfl
theorem sz15 : szOf Try.prog 15 = some 1 := by kernel_rfl
theorem sz150 : szOf Try.prog 150 = some 1 := by kernel_rfl
theorem sz151 : szOf Try.prog 151 = some 1 := by kernel_rfl
theorem sz152 : szOf Try.prog 152 = some 1 := by kernel_rfl
theorem sz153 : szOf Try.prog 153 = some 1 := by kernel_rfl
theorem sz154 : szOf Try.prog 154 = some 1 := by kernel_rfl
theorem sz155 : szOf Try.prog 155 = some 1 := by kernel_rfl
theorem sz156 : szOf Try.prog 156 = some 1 := by kernel_rfl
theorem sz157 : szOf Try.prog 157 = some 11 := by kernel_rfl
theorem sz158 : szOf Try.prog 158 = some 11 := by kernel_rfl
theorem sz159 : szOf Try.prog 159 = some 1 := by kernel_rfl
theorem sz16 : szOf Try.prog 16 = some 1 := by kernel_rfl
theorem sz17 : szOf Try.prog 17 = some 1 := by kernel_rfl
theorem sz18 : szOf Try.prog 18 = some 1 := by kernel_rfl
theorem sz19 : szOf Try.prog 19 = some 1 := by kernel_rfl
theorem sz2 : szOf Try.prog 2 = some 1 := by kernel_rfl
theorem sz20 : szOf Try.prog 20 = some 1 := by kernel_rfl
theorem sz21 : szOf Try.prog 21 = some 1 := by kernel_rfl
theorem sz22 : szOf Try.prog 22 = some 1 := by kernel_rfl
theorem sz23 : szOf Try.prog 23 = some 1 := by kernel_rfl
theorem sz24 : szOf Try.prog 24 = some 3 := by kernel_rfl
theorem sz25 : szOf Try.prog 25 = some 3 := by kernel_rfl
theorem sz26 : szOf Try.prog 26 = some 1 := by kernel_rfl
theorem sz27 : szOf Try.prog 27 = some 1 := by kernel_rfl
theorem sz28 : szOf Try.prog 28 = some 1 := by kernel_rfl
theorem sz29 : szOf Try.prog 29 = some 1 := by kernel_rfl
theorem sz3 : szOf Try.prog 3 = some 1 := by kernel_rfl
theorem sz30 : szOf Try.prog 30 = some 1 := by kernel_rfl
theorem sz31 : szOf Try.prog 31 = some 1 := by kernel_rfl
theorem sz32 : szOf Try.prog 32 = some 1 := by kernel_rfl
theorem sz33 : szOf Try.prog 33 = some 1 := by kernel_rfl
theorem sz34 : szOf Try.prog 34 = some 1 := by kernel_rfl
theorem sz35 : szOf Try.prog 35 = some 1 := by kernel_rfl
theorem sz36 : szOf Try.prog 36 = some 1 := by kernel_rfl
theorem sz37 : szOf Try.prog 37 = some 1 := by kernel_rfl
theorem sz38 : szOf Try.prog 38 = some 1 := by kernel_rfl
theorem sz39 : szOf Try.prog 39 = some 1 := by kernel_rfl
theorem sz4 : szOf Try.prog 4 = some 1 := by kernel_rfl
theorem sz40 : szOf Try.prog 40 = some 1 := by kernel_rfl
theorem sz41 : szOf Try.prog 41 = some 1 := by kernel_rfl
theorem sz42 : szOf Try.prog 42 = some 4 := by kernel_rfl
theorem sz43 : szOf Try.prog 43 = some 4 := by kernel_rfl
theorem sz44 : szOf Try.prog 44 = some 1 := by kernel_rfl
theorem sz45 : szOf Try.prog 45 = some 1 := by kernel_rfl
theorem sz46 : szOf Try.prog 46 = some 1 := by kernel_rfl
theorem sz47 : szOf Try.prog 47 = some 1 := by kernel_rfl
theorem sz48 : szOf Try.prog 48 = some 1 := by kernel_rfl
theorem sz49 : szOf Try.prog 49 = some 1 := by kernel_rfl
theorem sz5 : szOf Try.prog 5 = some 1 := by kernel_rfl
theorem sz50 : szOf Try.prog 50 = some 1 := by kernel_rfl
theorem sz51 : szOf Try.prog 51 = some 1 := by kernel_rfl
theorem sz52 : szOf Try.prog 52 = some 1 := by kernel_rfl
theorem sz53 : szOf Try.prog 53 = some 1 := by kernel_rfl
theorem sz54 : szOf Try.prog 54 = some 1 := by kernel_rfl
theorem sz55 : szOf Try.prog 55 = some 1 := by kernel_rfl
theorem sz56 : szOf Try.prog 56 = some 1 := by kernel_rfl
theorem sz57 : szOf Try.prog 57 = some 1 := by kernel_rfl
theorem sz58 : szOf Try.prog 58 = some 1 := by kernel_rfl
theorem sz59 : szOf Try.prog 59 = some 1 := by kernel_rfl
theorem sz6 : szOf Try.prog 6 = some 1 := by kernel_rfl
theorem sz60 : szOf Try.prog 60 = some 1 := by kernel_rfl
theorem sz61 : szOf Try.prog 61 = some 1 := by kernel_rfl
theorem sz62 : szOf Try.prog 62 = some 2 := by kernel_rfl
theorem sz63 : szOf Try.prog 63 = some 2 := by kernel_rfl
theorem sz64 : szOf Try.prog 64 = some 1 := by kernel_rfl
theorem sz65 : szOf Try.prog 65 = some 1 := by kernel_rfl
theorem sz66 : szOf Try.prog 66 = some 1 := by kernel_rfl
theorem sz67 : szOf Try.prog 67 = some 1 := by kernel_rfl
theorem sz68 : szOf Try.prog 68 = some 1 := by kernel_rfl
theorem sz69 : szOf Try.prog 69 = some 1 := by kernel_rfl
theorem sz7 : szOf Try.prog 7 = some 4 := by kernel_rfl
theorem sz70 : szOf Try.prog 70 = some 1 := by kernel_rfl
theorem sz71 : szOf Try.prog 71 = some 1 := by kernel_rfl
theorem sz72 : szOf Try.prog 72 = some 1 := by kernel_rfl
theorem sz73 : szOf Try.prog 73 = some 1 := by kernel_rfl
theorem sz74 : szOf Try.prog 74 = some 1 := by kernel_rfl
theorem sz75 : szOf Try.prog 75 = some 1 := by kernel_rfl
theorem sz76 : szOf Try.prog 76 = some 1 := by kernel_rfl
theorem sz77 : szOf Try.prog 77 = some 1 := by kernel_rfl
theorem sz78 : szOf Try.prog 78 = some 1 := by kernel_rfl
theorem sz79 : szOf Try.prog 79 = some 1 := by kernel_rfl
theorem sz8 : szOf Try.prog 8 = some 4 := by kernel_rfl
theorem sz80 : szOf Try.prog 80 = some 1 := by kernel_rfl
theorem sz81 : szOf Try.prog 81 = some 3 := by kernel_rfl
theorem sz82 : szOf Try.prog 82 = some 3 := by kernel_rfl
theorem sz83 : szOf Try.prog 83 = some 1 := by kernel_rfl
theorem sz84 : szOf Try.prog 84 = some 1 := by kernel_rfl
theorem sz85 : szOf Try.prog 85 = some 1 := by kernel_rfl
theorem sz86 : szOf Try.prog 86 = some 1 := by kernel_rfl
theorem sz87 : szOf Try.prog 87 = some 1 := by kernel_rfl
theorem sz88 : szOf Try.prog 88 = some 1 := by kernel_rfl
theorem sz89 : szOf Try.prog 89 = some 1 := by kernel_rfl
theorem sz9 : szOf Try.prog 9 = some 1 := by kernel_rfl
theorem sz90 : szOf Try.prog 90 = some 1 := by kernel_rfl
theorem sz91 : szOf Try.prog 91 = some 1 := by kernel_rfl
theorem sz92 : szOf Try.prog 92 = some 1 := by kernel_rfl
theorem sz93 : szOf Try.prog 93 = some 1 := by kernel_rfl
theorem sz94 : szOf Try.prog 94 = some 1 := by kernel_rfl
theorem sz95 : szOf Try.prog 95 = some 1 := by kernel_rfl
theorem sz96 : szOf Try.prog 96 = some 1 := by kernel_rfl
theorem sz97 : szOf Try.prog 97 = some 1 := by kernel_rfl
theorem sz98 : szOf Try.prog 98 = some 1 := by kernel_rfl
theorem sz99 : szOf Try.prog 99 = some 1 := by kernel_rfl
theorem ze1 : zeroOf Try.prog 1 = some (.nilFunc) := by kernel_rfl
theorem ze10 : zeroOf Try.prog 10 = some (.string ByteArray.empty) := by kernel_rfl
theorem ze100 : zeroOf Try.prog 100 = some (.map none) := by kernel_rfl
theorem ze103 : zeroOf Try.prog 103 = some (.nilFunc) := by kernel_rfl
theorem ze104 : zeroOf Try.prog 104 = some (.nilFunc) := by kernel_rfl
theorem ze105 : zeroOf Try.prog 105 = some (.nilFunc) := by kernel_rfl
theorem ze106 : zeroOf Try.prog 106 = some (.nilFunc) := by kernel_rfl
theorem ze107 : zeroOf Try.prog 107 = some (.nilFunc) := by kernel_rfl
theorem ze108 : zeroOf Try.prog 108 = some (.nilFunc) := by kernel_rfl
theorem ze109 : zeroOf Try.prog 109 = some (.nilFunc) := by kernel_rfl
theorem ze11 : zeroOf Try.prog 11 = some (.string ByteArray.empty) := by kernel_rfl
theorem ze110 : zeroOf Try.prog 110 = some (.nilFunc) := by kernel_rfl
theorem ze111 : zeroOf Try.prog 111 = some (.nilFunc) := by kernel_rfl
theorem ze112 : zeroOf Try.prog 112 = some (.nilFunc) := by kernel_rfl
theorem ze113 : zeroOf Try.prog 113 = some (.nilFunc) := by kernel_rfl
theorem ze114 : zeroOf Try.prog 114 = some (.nilFunc) := by kernel_rfl
theorem ze115 : zeroOf Try.prog 115 = some (.nilFunc) := by kernel_rfl
theorem ze116 : zeroOf Try.prog 116 = some (.nilFunc) := by kernel_rfl
theorem ze117 : zeroOf Try.prog 117 = some (.int .u64 0) := by kernel_rfl
theorem ze119 : zeroOf Try.prog 119 = some (.nilFunc) := by kernel_rfl
theorem ze12 : zeroOf Try.prog 12 = some (.int .u64 0) := by kernel_rfl
theorem ze120 : zeroOf Try.prog 120 = some (.nilFunc) := by kernel_rfl
theorem ze121 : zeroOf Try.prog 121 = some (.int .i64 0) := by kernel_rfl
theorem ze123 : zeroOf Try.prog 123 = some (.nilFunc) := by kernel_rfl
theorem ze124 : zeroOf Try.prog 124 = some (.nilFunc) := by kernel_rfl
theorem ze125 : zeroOf Try.prog 125 = some (.nilFunc) := by kernel_rfl
theorem ze127 : zeroOf Try.prog 127 = some (.nilFunc) := by kernel_rfl
theorem ze128 : zeroOf Try.prog 128 = some (.nilFunc) := by kernel_rfl
theorem ze129 : zeroOf Try.prog 129 = some (.int .u32 0) := by kernel_rfl
theorem ze13 : zeroOf Try.prog 13 = some (.agg #[.string ByteArray.empty, .int .u64 0]) := by kernel_rfl
theorem ze130 : zeroOf Try.prog 130 = some (.nilFunc) := by kernel_rfl
theorem ze131 : zeroOf Try.prog 131 = some (.int .u64 0) := by kernel_rfl
theorem ze132 : zeroOf Try.prog 132 = some (.int .u64 0) := by kernel_rfl
theorem ze133 : zeroOf Try.prog 133 = some (.nilFunc) := by kernel_rfl
theorem ze134 : zeroOf Try.prog 134 = some (.nilFunc) := by kernel_rfl
theorem ze135 : zeroOf Try.prog 135 = some (.nilFunc) := by kernel_rfl
theorem ze136 : zeroOf Try.prog 136 = some (.pointer none) := by kernel_rfl
theorem ze137 : zeroOf Try.prog 137 = some (.nilFunc) := by kernel_rfl
theorem ze138 : zeroOf Try.prog 138 = some (.pointer none) := by kernel_rfl
theorem ze14 : zeroOf Try.prog 14 = some (.agg #[.string ByteArray.empty, .int .u64 0]) := by kernel_rfl
theorem ze140 : zeroOf Try.prog 140 = some (.nilFunc) := by kernel_rfl
theorem ze141 : zeroOf Try.prog 141 = some (.nilFunc) := by kernel_rfl
theorem ze143 : zeroOf Try.prog 143 = some (.nilFunc) := by kernel_rfl
theorem ze144 : zeroOf Try.prog 144 = some (.nilFunc) := by kernel_rfl
theorem ze145 : zeroOf Try.prog 145 = some (.agg #[.pointer none, .pointer none, .pointer none, .string ByteArray.empty]) := by kernel_rfl
theorem ze146 : zeroOf Try.prog 146 = some (.agg #[.pointer none, .pointer none, .pointer none, .string ByteArray.empty]) := by kernel_rfl
theorem ze147 : zeroOf Try.prog 147 = some (.agg #[]) := by kernel_rfl
theorem ze148 : zeroOf Try.prog 148 = some (.agg #[]) := by kernel_rfl
theorem ze149 : zeroOf Try.prog 149 = some (.agg #[]) := by kernel_rfl
theorem ze15 : zeroOf Try.prog 15 = some (.pointer none) := by kernel_rfl
theorem ze150 : zeroOf Try.prog 150 = some (.nilFunc) := by kernel_rfl
theorem ze151 : zeroOf Try.prog 151 = some (.int .u8 0) := by kernel_rfl
theorem ze152 : zeroOf Try.prog 152 = some (.int .u8 0) := by kernel_rfl
theorem ze153 : zeroOf Try.prog 153 = some (.nilFunc) := by kernel_rfl
theorem ze154 : zeroOf Try.prog 154 = some (.pointer none) := by kernel_rfl
theorem ze155 : zeroOf Try.prog 155 = some (.int .i32 0) := by kernel_rfl
theorem ze156 : zeroOf Try.prog 156 = some (.int .i32 0) := by kernel_rfl
theorem ze157 : zeroOf Try.prog 157 = some (.agg #[.int .u64 0, .int .u64 0, .int .u32 0, .int .u8 0, .int .u8 0, .int .u8 0, .int .u8 0, .nilFunc, .pointer none, .int .i32 0, .int .i32 0]) := by kernel_rfl
theorem ze158 : zeroOf Try.prog 158 = some (.agg #[.int .u64 0, .int .u64 0, .int .u32 0, .int .u8 0, .int .u8 0, .int .u8 0, .int .u8 0, .nilFunc, .pointer none, .int .i32 0, .int .i32 0]) := by kernel_rfl
theorem ze159 : zeroOf Try.prog 159 = some (.pointer none) := by kernel_rfl
theorem ze16 : zeroOf Try.prog 16 = some (.pointer none) := by kernel_rfl
theorem ze17 : zeroOf Try.prog 17 = some (.pointer none) := by kernel_rfl
theorem ze18 : zeroOf Try.prog 18 = some (.agg #[.pointer none]) := by kernel_rfl
theorem ze19 : zeroOf Try.prog 19 = some (.agg #[.pointer none]) := by kernel_rfl
theorem ze2 : zeroOf Try.prog 2 = some (.int .i64 0) := by kernel_rfl
theorem ze20 : zeroOf Try.prog 20 = some (.nilIface) := by kernel_rfl
theorem ze21 : zeroOf Try.prog 21 = some (.int .i32 0) := by kernel_rfl
theorem ze22 : zeroOf Try.prog 22 = some (.slice none 0 0) := by kernel_rfl
theorem ze23 : zeroOf Try.prog 23 = some (.slice none 0 0) := by kernel_rfl
theorem ze24 : zeroOf Try.prog 24 = some (.agg #[.string ByteArray.empty, .bool false, .slice none 0 0]) := by kernel_rfl
theorem ze25 : zeroOf Try.prog 25 = some (.agg #[.string ByteArray.empty, .bool false, .slice none 0 0]) := by kernel_rfl
theorem ze26 : zeroOf Try.prog 26 = some (.nilFunc) := by kernel_rfl
theorem ze27 : zeroOf Try.prog 27 = some (.pointer none) := by kernel_rfl
theorem ze28 : zeroOf Try.prog 28 = some (.int .i64 0) := by kernel_rfl
theorem ze3 : zeroOf Try.prog 3 = some (.int .i64 0) := by kernel_rfl
theorem ze30 : zeroOf Try.prog 30 = some (.nilFunc) := by kernel_rfl
theorem ze31 : zeroOf Try.prog 31 = some (.agg #[.slice none 0 0]) := by kernel_rfl
theorem ze32 : zeroOf Try.prog 32 = some (.agg #[.slice none 0 0]) := by kernel_rfl
theorem ze34 : zeroOf Try.prog 34 = some (.nilFunc) := by kernel_rfl
theorem ze35 : zeroOf Try.prog 35 = some (.nilFunc) := by kernel_rfl
theorem ze36 : zeroOf Try.prog 36 = some (.nilFunc) := by kernel_rfl
theorem ze37 : zeroOf Try.prog 37 = some (.nilFunc) := by kernel_rfl
theorem ze38 : zeroOf Try.prog 38 = some (.slice none 0 0) := by kernel_rfl
theorem ze39 : zeroOf Try.prog 39 = some (.nilFunc) := by kernel_rfl
theorem ze4 : zeroOf Try.prog 4 = some (.bool false) := by kernel_rfl
theorem ze40 : zeroOf Try.prog 40 = some (.nilFunc) := by kernel_rfl
theorem ze41 : zeroOf Try.prog 41 = some (.nilFunc) := by kernel_rfl
theorem ze42 : zeroOf Try.prog 42 = some (.agg #[.int .i64 0, .string ByteArray.empty, .string ByteArray.empty, .slice none 0 0]) := by kernel_rfl
theorem ze43 : zeroOf Try.prog 43 = some (.agg #[.int .i64 0, .string ByteArray.empty, .string ByteArray.empty, .slice none 0 0]) := by kernel_rfl
theorem ze44 : zeroOf Try.prog 44 = some (.nilFunc) := by kernel_rfl
theorem ze45 : zeroOf Try.prog 45 = some (.nilFunc) := by kernel_rfl
theorem ze46 : zeroOf Try.prog 46 = some (.nilFunc) := by kernel_rfl
theorem ze47 : zeroOf Try.prog 47 = some (.nilFunc) := by kernel_rfl
theorem ze49 : zeroOf Try.prog 49 = some (.nilFunc) := by kernel_rfl
theorem ze5 : zeroOf Try.prog 5 = some (.int .u8 0) := by kernel_rfl
theorem ze50 : zeroOf Try.prog 50 = some (.nilFunc) := by kernel_rfl
theorem ze51 : zeroOf Try.prog 51 = some (.nilFunc) := by kernel_rfl
theorem ze52 : zeroOf Try.prog 52 = some (.nilFunc) := by kernel_rfl
theorem ze54 : zeroOf Try.prog 54 = some (.nilFunc) := by kernel_rfl
theorem ze55 : zeroOf Try.prog 55 = some (.nilFunc) := by kernel_rfl
theorem ze56 : zeroOf Try.prog 56 = some (.slice none 0 0) := by kernel_rfl
theorem ze58 : zeroOf Try.prog 58 = some (.nilFunc) := by kernel_rfl
theorem ze6 : zeroOf Try.prog 6 = some (.int .u8 0) := by kernel_rfl
theorem ze60 : zeroOf Try.prog 60 = some (.nilFunc) := by kernel_rfl
theorem ze61 : zeroOf Try.prog 61 = some (.pointer none) := by kernel_rfl
theorem ze62 : zeroOf Try.prog 62 = some (.agg #[.pointer none, .int .i64 0]) := by kernel_rfl
theorem ze63 : zeroOf Try.prog 63 = some (.agg #[.pointer none, .int .i64 0]) := by kernel_rfl
theorem ze64 : zeroOf Try.prog 64 = some (.nilFunc) := by kernel_rfl
theorem ze65 : zeroOf Try.prog 65 = some (.nilFunc) := by kernel_rfl
theorem ze66 : zeroOf Try.prog 66 = some (.nilFunc) := by kernel_rfl
theorem ze67 : zeroOf Try.prog 67 = some (.nilFunc) := by kernel_rfl
theorem ze69 : zeroOf Try.prog 69 = some (.nilFunc) := by kernel_rfl
theorem ze7 : zeroOf Try.prog 7 = some (.agg #[.int .i64 0, .int .i64 0, .bool false, .int .u8 0]) := by kernel_rfl
theorem ze70 : zeroOf Try.prog 70 = some (.nilFunc) := by kernel_rfl
theorem ze71 : zeroOf Try.prog 71 = some (.nilFunc) := by kernel_rfl
theorem ze72 : zeroOf Try.prog 72 = some (.nilFunc) := by kernel_rfl
theorem ze73 : zeroOf Try.prog 73 = some (.nilFunc) := by kernel_rfl
theorem ze74 : zeroOf Try.prog 74 = some (.nilFunc) := by kernel_rfl
theorem ze75 : zeroOf Try.prog 75 = some (.nilFunc) := by kernel_rfl
theorem ze77 : zeroOf Try.prog 77 = some (.nilFunc) := by kernel_rfl
theorem ze78 : zeroOf Try.prog 78 = some (.map none) := by kernel_rfl
theorem ze79 : zeroOf Try.prog 79 = some (.agg #[.map none]) := by kernel_rfl
theorem ze8 : zeroOf Try.prog 8 = some (.agg #[.int .i64 0, .int .i64 0, .bool false, .int .u8 0]) := by kernel_rfl
theorem ze80 : zeroOf Try.prog 80 = some (.agg #[.map none]) := by kernel_rfl
theorem ze81 : zeroOf Try.prog 81 = some (.agg #[.bool false, .map none, .slice none 0 0]) := by kernel_rfl
theorem ze82 : zeroOf Try.prog 82 = some (.agg #[.bool false, .map none, .slice none 0 0]) := by kernel_rfl
theorem ze83 : zeroOf Try.prog 83 = some (.nilFunc) := by kernel_rfl
theorem ze84 : zeroOf Try.prog 84 = some (.nilFunc) := by kernel_rfl
theorem ze86 : zeroOf Try.prog 86 = some (.nilFunc) := by kernel_rfl
theorem ze87 : zeroOf Try.prog 87 = some (.nilFunc) := by kernel_rfl
theorem ze88 : zeroOf Try.prog 88 = some (.nilFunc) := by kernel_rfl
theorem ze89 : zeroOf Try.prog 89 = some (.nilFunc) := by kernel_rfl
theorem ze9 : zeroOf Try.prog 9 = some (.string ByteArray.empty) := by kernel_rfl
theorem ze90 : zeroOf Try.prog 90 = some (.nilFunc) := by kernel_rfl
theorem ze91 : zeroOf Try.prog 91 = some (.nilFunc) := by kernel_rfl
theorem ze92 : zeroOf Try.prog 92 = some (.nilFunc) := by kernel_rfl
theorem ze93 : zeroOf Try.prog 93 = some (.nilFunc) := by kernel_rfl
theorem ze94 : zeroOf Try.prog 94 = some (.nilFunc) := by kernel_rfl
theorem ze95 : zeroOf Try.prog 95 = some (.nilFunc) := by kernel_rfl
theorem ze96 : zeroOf Try.prog 96 = some (.nilFunc) := by kernel_rfl
theorem ze98 : zeroOf Try.prog 98 = some (.nilFunc) := by kernel_rfl
theorem ze99 : zeroOf Try.prog 99 = some (.nilFunc) := by kernel_rfl

end Go.Proofs.Ytccfmfehfhfhhaa

namespace Go.Proofs.Ytccfmfehfhfhhaa
open Go Go.Fw
set_option linter.unusedVariables false
set_option linter.unusedSimpArgs false

/-- A text's pieces, between any slashes. -/
def splitS : List UInt8 → List (List UInt8)
  | [] => [[]]
  | c :: s => if c = 47 then [] :: splitS s else match splitS s with
    | [] => [[c]]
    | p :: r => (c :: p) :: r
/-- Pieces with a slash between. -/
def joinS : List (List UInt8) → List UInt8
  | [] => []
  | [p] => p
  | p :: q :: r => p ++ 47 :: joinS (q :: r)

theorem splitS_ne : ∀ s, splitS s ≠ []
  | [] => by simp [splitS]
  | c :: s => by
    unfold splitS
    split
    · simp
    · split <;> simp
theorem splitS_ex (s : List UInt8) : ∃ p r, splitS s = p :: r := by
  cases h : splitS s with
  | nil => exact absurd h (splitS_ne s)
  | cons p r => exact ⟨p, r, rfl⟩
theorem joinS_cons {p : List UInt8} {r : List (List UInt8)} (h : r ≠ []) : joinS (p :: r) = p ++ 47 :: joinS r := by
  cases r with
  | nil => exact absurd rfl h
  | cons q r => rfl
theorem joinS_splitS : ∀ s, joinS (splitS s) = s
  | [] => rfl
  | c :: s => by
    have ih := joinS_splitS s
    unfold splitS
    split
    · rename_i hc; subst hc
      rw [joinS_cons (splitS_ne s), ih]; rfl
    · obtain ⟨p, r, hs⟩ := splitS_ex s
      rw [hs] at ih ⊢
      simp only
      cases r with
      | nil => simp [joinS] at ih ⊢; exact ih
      | cons q r => simp only [joinS, List.cons_append] at ih ⊢; rw [ih]
theorem splitS_no : ∀ s, ∀ p ∈ splitS s, (47 : UInt8) ∉ p
  | [], p, hp => by simp [splitS] at hp; subst hp; simp
  | c :: s, p, hp => by
    unfold splitS at hp
    split at hp
    · rcases List.mem_cons.1 hp with rfl | hp
      · simp
      · exact splitS_no s p hp
    · rename_i hc
      obtain ⟨q, r, hs⟩ := splitS_ex s
      rw [hs] at hp
      simp only at hp
      have ih := splitS_no s
      rw [hs] at ih
      rcases List.mem_cons.1 hp with rfl | hp
      · have := ih q (by simp)
        simp only [List.mem_cons, not_or]
        exact ⟨fun e => hc e.symm, this⟩
      · exact ih p (by simp [hp])
theorem splitS_one : ∀ {s : List UInt8}, (47 : UInt8) ∉ s → splitS s = [s]
  | [], _ => rfl
  | c :: s, h => by
    simp only [List.mem_cons, not_or] at h
    unfold splitS
    rw [if_neg (fun e => h.1 e.symm), splitS_one h.2]
theorem splitS_app : ∀ {p : List UInt8} (s : List UInt8), (47 : UInt8) ∉ p → splitS (p ++ 47 :: s) = p :: splitS s
  | [], s, _ => by simp [splitS]
  | c :: p, s, h => by
    simp only [List.mem_cons, not_or] at h
    rw [List.cons_append]
    conv => lhs; unfold splitS
    rw [if_neg (fun e => h.1 e.symm), splitS_app s h.2]
theorem splitS_joinS : ∀ {l : List (List UInt8)}, l ≠ [] → (∀ p ∈ l, (47 : UInt8) ∉ p) → splitS (joinS l) = l
  | [], h, _ => absurd rfl h
  | [p], _, h => splitS_one (h p (by simp))
  | p :: q :: r, _, h => by
    unfold joinS
    rw [splitS_app _ (h p (by simp)), splitS_joinS (by simp) (fun x hx => h x (by simp at hx ⊢; exact .inr hx))]

theorem splitS_idx_none {s : List UInt8} (h : Lib.indexByte s 47 = -1) : splitS s = [s] :=
  splitS_one fun hm => by
    obtain ⟨k, hk⟩ := List.mem_iff_getElem?.1 hm
    exact Lib.indexByte_none h k hk
theorem splitS_idx {s : List UInt8} {o : Nat} (h : Lib.indexByte s 47 = (o : Int)) : splitS s = s.take o :: splitS (s.drop (o + 1)) ∧ o < s.length := by
  obtain ⟨h1, h2⟩ := Lib.indexByte_some h
  have hlt := (List.getElem?_eq_some_iff.1 h1).1
  refine ⟨?_, hlt⟩
  have hd : s.drop o = 47 :: s.drop (o + 1) := by
    rw [List.drop_eq_getElem_cons hlt]
    congr 1
    exact (List.getElem?_eq_some_iff.1 h1).2
  conv => lhs; rw [← List.take_append_drop o s, hd]
  refine splitS_app _ (fun hm => ?_)
  obtain ⟨k, hk⟩ := List.mem_iff_getElem?.1 hm
  rw [List.getElem?_take] at hk
  split at hk
  · rename_i hlk; exact h2 k hlk hk
  · cases hk
theorem idx_cases (s : List UInt8) : Lib.indexByte s 47 = -1 ∨ ∃ o : Nat, Lib.indexByte s 47 = (o : Int) := by
  have := Lib.indexByte_ge s 47
  by_cases h : Lib.indexByte s 47 = -1
  · exact .inl h
  · exact .inr ⟨(Lib.indexByte s 47).toNat, by omega⟩

/-! ## What the functions tell -/
def nameC (c : UInt8) : Prop := 32 ≤ c.toNat ∧ c.toNat ≤ 126 ∧ c.toNat ≠ 47 ∧ c.toNat ≠ 92
instance (c : UInt8) : Decidable (nameC c) := by unfold nameC; infer_instance
def nameOK (s : List UInt8) : Prop := 1 ≤ s.length ∧ s.length ≤ 32 ∧ s ≠ [46] ∧ s ≠ [46, 46] ∧ ∀ c ∈ s, nameC c
instance (s : List UInt8) : Decidable (nameOK s) := by unfold nameOK; infer_instance
def nameP (s : List UInt8) : Int := if nameOK s then 0 else 8
def allOK (l : List (List UInt8)) : Prop := ∀ p ∈ l, nameOK p
instance (l : List (List UInt8)) : Decidable (allOK l) := by unfold allOK; infer_instance
def splitP (p : List UInt8) : Option (List (List UInt8)) :=
  if p = [] then some [] else if 120 < p.length then none else if (splitS p).length ≤ 8 ∧ allOK (splitS p) then some (splitS p) else none
def joinP (l : List (List UInt8)) : Option (List UInt8) :=
  if l.length ≤ 8 ∧ allOK l ∧ (joinS l).length ≤ 120 then some (joinS l) else none
def cleanStep (l : List (List UInt8)) (p : List UInt8) : List (List UInt8) := if p = [] ∨ p = [46] then l else if p = [46, 46] then l.dropLast else l ++ [p]
def cleanL (s : List UInt8) : List (List UInt8) := (splitS s).foldl cleanStep []
/-- The path, and the error. -/
def cleanP (s : List UInt8) : List UInt8 × Int := if 1024 < s.length then ([], 3) else match joinP (cleanL s) with | some p => (p, 0) | none => ([], 8)
def parentP (p : List UInt8) : List UInt8 × List UInt8 × Int :=
  match splitP p with
  | none => ([], [], 8)
  | some l => if l = [] then ([], [], 9) else (joinS l.dropLast, l.getLast?.getD [], 0)
def underP (p dir : List UInt8) : Bool :=
  match splitP p, splitP dir with
  | some a, some b => b.isPrefixOf a
  | _, _ => false
/-- A path's names, whatever they are; the root has none. -/
def namesP (p : List UInt8) : List (List UInt8) := if p = [] then [] else splitS p
def cmpB (a b : List UInt8) : Int := Lib.compareBytes a b
def compareL : List (List UInt8) → List (List UInt8) → Int
  | [], [] => 0
  | [], _ :: _ => -1
  | _ :: _, [] => 1
  | p :: a, q :: b => if Lib.compareBytes p q ≠ 0 then Lib.compareBytes p q else compareL a b
def compareP (a b : List UInt8) : Int := compareL (namesP a) (namesP b)
theorem rune_name {s : List UInt8} {pos : Nat} {c : UInt8} (hc : s[pos]? = some c) : (32 ≤ (Utf8.decode (strB s) pos).1 ∧ (Utf8.decode (strB s) pos).1 ≤ 126 ∧ (Utf8.decode (strB s) pos).1 ≠ 47 ∧ (Utf8.decode (strB s) pos).1 ≠ 92) ↔ nameC c := by
  unfold nameC
  by_cases h : c.toNat < 128
  · rw [decode_lo hc h]
  · have := decode_hi hc (by omega)
    omega
theorem rune_one {s : List UInt8} {pos : Nat} {c : UInt8} (hc : s[pos]? = some c) (h : nameC c) : nxtP s pos = pos + 1 := by
  unfold nxtP
  rw [if_pos (List.getElem?_eq_some_iff.1 hc).1, decode_lo hc (by have := h.2.1; omega)]
theorem nameP_bad {s : List UInt8} {pos : Nat} {c : UInt8} (hc : s[pos]? = some c) (h : ¬ nameC c) : nameP s = 8 := by
  rw [nameP, if_neg (fun h2 => h (h2.2.2.2.2 c (List.mem_of_getElem? hc)))]
theorem nameP_ok {s : List UInt8} (h1 : 1 ≤ s.length) (h2 : s.length ≤ 32) (h3 : s ≠ [46]) (h4 : s ≠ [46, 46]) (h : ∀ (k : Nat) c, k < s.length → s[k]? = some c → nameC c) : nameP s = 0 := by
  rw [nameP, if_pos]
  refine ⟨h1, h2, h3, h4, fun c hc => ?_⟩
  obtain ⟨k, hk⟩ := List.mem_iff_getElem?.1 hc
  exact h k c (List.getElem?_eq_some_iff.1 hk).1 hk
theorem nameP_zero {s : List UInt8} : nameP s = 0 ↔ nameOK s := by unfold nameP; split <;> simp [*]
theorem nameOK_no {s : List UInt8} (h : nameOK s) : (47 : UInt8) ∉ s := fun hm => (h.2.2.2.2 _ hm).2.2.1 rfl
theorem namesP_nil : namesP [] = [] := rfl
theorem namesP_some {p : List UInt8} (h : p ≠ []) : namesP p = splitS p := if_neg h

theorem c47 {c : UInt8} (h : (c.toNat : Int) = 47) : c = 47 := by
  have h2 : c.toNat = 47 := by omega
  exact UInt8.toNat_inj.1 (h2.trans rfl)
/-- Where the reference stands in a text. -/
def PInv (s : List UInt8) (i q : Nat) (A : List (List UInt8)) : Prop :=
  A.length ≤ i ∧ ((i ≤ s.length ∧ q ≤ i ∧ splitS s = A ++ splitS (s.drop q) ∧ (47 : UInt8) ∉ (s.drop q).take (i - q)) ∨ (i = s.length + 1 ∧ splitS s = A))
theorem PInv.zero (s : List UInt8) : PInv s 0 0 [] := ⟨Nat.le_refl _, .inl ⟨Nat.zero_le _, Nat.le_refl _, rfl, by simp⟩⟩
theorem PInv.last {s : List UInt8} {q : Nat} {A : List (List UInt8)} (h : PInv s s.length q A) : q ≤ s.length ∧ PInv s (s.length + 1) (s.length + 1) (A ++ [(s.drop q).take (s.length - q)]) := by
  rcases h with ⟨h0, ⟨_, h1, h2, h3⟩ | ⟨h1, _⟩⟩
  · refine ⟨h1, by simp; omega, .inr ⟨rfl, ?_⟩⟩
    have e : (s.drop q).take (s.length - q) = s.drop q := List.take_of_length_le (by simp)
    rw [e] at h3 ⊢
    rw [h2, splitS_one h3]
  · omega
theorem PInv.slash {s : List UInt8} {i q : Nat} {A : List (List UInt8)} (h : PInv s i q A) (hi : s[i]? = some 47) : q ≤ i ∧ PInv s (i + 1) (i + 1) (A ++ [(s.drop q).take (i - q)]) := by
  have hlt := (List.getElem?_eq_some_iff.1 hi).1
  rcases h with ⟨h0, ⟨_, h1, h2, h3⟩ | ⟨h1, _⟩⟩
  · refine ⟨h1, by simp; omega, .inl ⟨by omega, Nat.le_refl _, ?_, by simp⟩⟩
    have hd : s.drop q = (s.drop q).take (i - q) ++ 47 :: s.drop (i + 1) := by
      conv => lhs; rw [← List.take_append_drop (i - q) (s.drop q)]
      rw [List.drop_drop, show q + (i - q) = i from by omega]
      congr 1
      rw [List.drop_eq_getElem_cons hlt]
      congr 1
      exact (List.getElem?_eq_some_iff.1 hi).2
    rw [h2]
    conv => lhs; rw [hd]
    rw [splitS_app _ h3]
    simp
  · omega
theorem PInv.other {s : List UInt8} {i q : Nat} {A : List (List UInt8)} {c : UInt8} (h : PInv s i q A) (hi : s[i]? = some c) (hc : c ≠ 47) : PInv s (i + 1) q A := by
  have hlt := (List.getElem?_eq_some_iff.1 hi).1
  rcases h with ⟨h0, ⟨_, h1, h2, h3⟩ | ⟨h1, _⟩⟩
  · refine ⟨by omega, .inl ⟨by omega, by omega, h2, ?_⟩⟩
    rw [show i + 1 - q = (i - q) + 1 from by omega, List.take_add_one]
    simp only [List.mem_append, not_or]
    refine ⟨h3, ?_⟩
    rw [List.getElem?_drop, show q + (i - q) = i from by omega, hi]
    simpa using fun e => hc e.symm
  · omega
theorem PInv.done {s : List UInt8} {i q : Nat} {A : List (List UInt8)} (h : PInv s i q A) (hi : s.length < i) : splitS s = A := by
  rcases h with ⟨h0, ⟨h1, _⟩ | ⟨_, h1⟩⟩
  · omega
  · exact h1

abbrev ptr (b : Nat) : Value := .pointer (some ⟨b, 0, none⟩)
def splitE (p : List UInt8) : Int := if (splitP p).isSome then 0 else 8
def splitN (p : List UInt8) : List (List UInt8) := (splitP p).getD []
theorem splitP_bad {p : List UInt8} (h0 : p ≠ []) (h : ¬ ((splitS p).length ≤ 8 ∧ allOK (splitS p))) : splitP p = none := by
  unfold splitP; rw [if_neg h0, if_neg h]; split <;> rfl
theorem splitP_long {p : List UInt8} (h : 120 < p.length) : splitP p = none := by
  unfold splitP; rw [if_neg (by intro e; subst e; simp at h), if_pos h]
theorem splitP_good {p : List UInt8} (h0 : p ≠ []) (h1 : p.length ≤ 120) (h : (splitS p).length ≤ 8 ∧ allOK (splitS p)) : splitP p = some (splitS p) := by
  unfold splitP; rw [if_neg h0, if_neg (by omega), if_pos h]
theorem splitE_none {p : List UInt8} (h : splitP p = none) : splitE p = 8 ∧ splitN p = [] := by simp [splitE, splitN, h]
theorem splitE_some {p : List UInt8} {l : List (List UInt8)} (h : splitP p = some l) : splitE p = 0 ∧ splitN p = l := by simp [splitE, splitN, h]
theorem joinS_split {s p : List UInt8} {q : List (List UInt8)} (h : splitS s = p :: q) : s = joinS (p :: q) := by rw [← h, joinS_splitS]
theorem split_rest {s p : List UInt8} {q : List (List UInt8)} (h : splitS s = p :: q) (hq : q ≠ []) : splitS (joinS q) = q :=
  splitS_joinS hq fun x hx => splitS_no s x (by rw [h]; exact List.mem_cons_of_mem _ hx)
theorem joinS_len {p : List UInt8} {q : List (List UInt8)} (hq : q ≠ []) : (joinS (p :: q)).length = p.length + 1 + (joinS q).length := by rw [joinS_cons hq]; simp; omega

theorem joinS_le : ∀ {l : List (List UInt8)} {k : Nat}, (∀ x ∈ l, x.length ≤ k) → (joinS l).length ≤ (k + 1) * l.length
  | [], k, _ => by simp [joinS]
  | [p], k, h => by have := h p (by simp); simp [joinS]; omega
  | p :: q :: r, k, h => by
    have h1 := h p (by simp)
    have h2 := joinS_le (l := q :: r) (k := k) (fun x hx => h x (List.mem_cons_of_mem _ hx))
    simp only [joinS, List.length_append, List.length_cons] at h2 ⊢
    rw [Nat.mul_succ (k + 1)]
    omega
theorem joinS_snoc : ∀ (a : List (List UInt8)) (x : List UInt8), joinS (a ++ [x]) = if a = [] then x else joinS a ++ 47 :: x
  | [], x => rfl
  | [p], x => by simp [joinS]
  | p :: q :: r, x => by
    have := joinS_snoc (q :: r) x
    simp only [List.cons_append, joinS] at this ⊢
    rw [this]; simp
theorem allOK_len {l : List (List UInt8)} (h : allOK l) : ∀ x ∈ l, x.length ≤ 32 := fun x hx => (h x hx).2.1
def joinE (l : List (List UInt8)) : Int := if (joinP l).isSome then 0 else 8
def joinV (l : List (List UInt8)) : List UInt8 := (joinP l).getD []
theorem joinP_many {l : List (List UInt8)} (h : 8 < l.length) : joinE l = 8 ∧ joinV l = [] := by
  have : joinP l = none := by unfold joinP; rw [if_neg (by intro h2; omega)]
  simp [joinE, joinV, this]
theorem joinP_bad {l : List (List UInt8)} {x : List UInt8} (hx : x ∈ l) (h : ¬ nameOK x) : joinE l = 8 ∧ joinV l = [] := by
  have : joinP l = none := by unfold joinP; rw [if_neg (by intro h2; exact h (h2.2.1 x hx))]
  simp [joinE, joinV, this]
theorem joinP_long {l : List (List UInt8)} (h : 120 < (joinS l).length) : joinE l = 8 ∧ joinV l = [] := by
  have : joinP l = none := by unfold joinP; rw [if_neg (by intro h2; have := h2.2.2; omega)]
  simp [joinE, joinV, this]
theorem joinP_good {l : List (List UInt8)} (h1 : l.length ≤ 8) (h2 : allOK l) (h3 : (joinS l).length ≤ 120) : joinE l = 0 ∧ joinV l = joinS l := by
  have : joinP l = some (joinS l) := by unfold joinP; rw [if_pos ⟨h1, h2, h3⟩]
  simp [joinE, joinV, this]
theorem cleanP_long {s : List UInt8} (h : 1024 < s.length) : cleanP s = ([], 3) := by unfold cleanP; rw [if_pos h]
theorem cleanP_join {s : List UInt8} (h : s.length ≤ 1024) : cleanP s = (joinV (cleanL s), joinE (cleanL s)) := by
  unfold cleanP joinV joinE; rw [if_neg (by omega)]
  cases joinP (cleanL s) <;> rfl
theorem splitS_len : ∀ s : List UInt8, (splitS s).length ≤ s.length + 1
  | [] => by simp [splitS]
  | c :: s => by
    have ih := splitS_len s
    unfold splitS
    split
    · simp; omega
    · obtain ⟨p, r, hs⟩ := splitS_ex s
      rw [hs] at ih ⊢
      simp at ih ⊢; omega
theorem all_take {l : List (List UInt8)} {q : Nat} {x : List UInt8} (h : ∀ (k : Nat) y, k < q → l[k]? = some y → nameOK y) (hx : l[q]? = some x) (hn : nameOK x) : ∀ (k : Nat) y, k < q + 1 → l[k]? = some y → nameOK y := by
  intro k y hk hy
  rcases Nat.lt_or_ge k q with h1 | h1
  · exact h k y h1 hy
  · have : k = q := by omega
    subst this; rw [hx] at hy; cases hy; exact hn
theorem all_all {l : List (List UInt8)} (h : ∀ (k : Nat) y, k < l.length → l[k]? = some y → nameOK y) : allOK l := fun x hx => by
  obtain ⟨k, hk⟩ := List.mem_iff_getElem?.1 hx
  exact h k x (List.getElem?_eq_some_iff.1 hk).1 hk
theorem get_lt {α : Type} {l : List α} {q : Nat} (h : q < l.length) : ∃ x, l[q]? = some x := ⟨l[q], List.getElem?_eq_getElem h⟩
theorem take_snoc {α : Type} {l : List α} {q : Nat} {x : α} (h : l[q]? = some x) : l.take (q + 1) = l.take q ++ [x] := by rw [List.take_add_one, h]; rfl

theorem cleanStep_dot {A : List (List UInt8)} {p : List UInt8} (h : p = [] ∨ p = [46]) : cleanStep A p = A := by unfold cleanStep; rw [if_pos h]
theorem cleanStep_up {A : List (List UInt8)} {p : List UInt8} (h1 : p ≠ []) (h2 : p ≠ [46]) (h : p = [46, 46]) : cleanStep A p = A.take (A.length - 1) := by
  unfold cleanStep; rw [if_neg (by simp [h1, h2]), if_pos h, List.dropLast_eq_take]
theorem cleanStep_in {A : List (List UInt8)} {p : List UInt8} (h1 : p ≠ []) (h2 : p ≠ [46]) (h : p ≠ [46, 46]) : cleanStep A p = A ++ [p] := by
  unfold cleanStep; rw [if_neg (by simp [h1, h2]), if_neg h]
end Go.Proofs.Ytccfmfehfhfhhaa

namespace Go.Proofs.Ytccfmfehfhfhhaa
open Go Go.Fw Go.RowKit Go.Proofs
set_option linter.unusedVariables false
set_option linter.unusedSimpArgs false

set_option maxRecDepth 100000 in
theorem name_c {w0 : World} {s : List UInt8}  : Ret Try.prog 74 #[strV s] w0 fun r w' => r = .int .i64 (nameP s) ∧ New w0 w' := by
  have M : Sep w0 [] w0 := St.nil w0
  refine Ret.of_W Try.func74 rfl Try.ntmps74 rfl ?_
  refine W.seq ?_
  refine W.sub [(0, _)] ⟨rfl, trivial⟩ ?_
  refine W.reg [(0, false)] (by kernel_rfl) ?_
  intro K hK
  refine x_assign rfl rfl rfl rfl ?_
  refine Ex.done (hK _ _ ?_)
  refine At.then_n ?_
  refine W.seq ?_
  refine W.seq ?_
  refine W.sub [(0, _)] ⟨rfl, trivial⟩ ?_
  refine W.reg [(0, false), (1, false), (2, false), (3, false), (4, false), (5, false), (6, false), (7, false), (8, false), (9, false), (10, false), (11, false), (12, false), (13, false), (14, false), (15, false)] (by kernel_rfl) ?_
  intro K hK
  refine x_move rfl rfl rfl rfl ?_
  refine x_lenS rfl rfl rfl rfl Try.underlying9 rfl ?_
  refine x_lss _ rfl rfl rfl rfl rfl rfl ?_
  refine x_move rfl rfl rfl rfl ?_
  refine Ex.split 8 rfl (fun hsp1 => ?_) (fun hsp1 => ?_)
  ·
    try simp only [decide_eq_true_eq, decide_eq_false_iff_not, Bool.not_eq_true', Bool.not_eq_false', beq_iff_eq, bne_iff_ne, ne_eq, Bool.not_eq_eq_eq_not, Bool.not_true, Bool.not_false, beq_eq_false_iff_ne, bne_eq_false_iff_eq, Bool.not_not, gt_iff_lt, ge_iff_le] at hsp1
    refine Ex.skip_ rfl rfl rfl ?_
    refine Ex.skip_ rfl rfl rfl ?_
    refine Ex.skip_ rfl rfl rfl ?_
    refine x_pickT rfl rfl rfl rfl rfl ?_
    refine x_move rfl rfl rfl rfl ?_
    refine Ex.skip_ rfl rfl rfl ?_
    refine Ex.skip_ rfl rfl rfl ?_
    refine x_pickT rfl rfl rfl rfl rfl ?_
    refine x_move rfl rfl rfl rfl ?_
    refine Ex.skip_ rfl rfl rfl ?_
    refine Ex.skip_ rfl rfl rfl ?_
    refine x_pickT rfl rfl rfl rfl rfl ?_
    refine Ex.done (hK _ _ ?_)
    refine At.then_n ?_
    refine W.condT rfl ?_
    refine W.seq ?_
    refine W.sub [] trivial ?_
    refine W.reg [(0, false)] (by kernel_rfl) ?_
    intro K hK
    refine x_assign rfl rfl rfl rfl ?_
    refine Ex.done (hK _ _ ?_)
    refine At.then_n ?_
    refine W.ret ?_
    refine At.then_r ?_
    refine At.ret1 (.tmp 2) rfl ⟨rfl, trivial⟩ ?_
    exact ⟨by rw [nameP, if_neg (fun h => by have := h.1; omega)], M.frm⟩
  ·
    try simp only [decide_eq_true_eq, decide_eq_false_iff_not, Bool.not_eq_true', Bool.not_eq_false', beq_iff_eq, bne_iff_ne, ne_eq, Bool.not_eq_eq_eq_not, Bool.not_true, Bool.not_false, beq_eq_false_iff_ne, bne_eq_false_iff_eq, Bool.not_not, gt_iff_lt, ge_iff_le] at hsp1
    refine x_move rfl rfl rfl rfl ?_
    refine x_lenS rfl rfl rfl rfl Try.underlying9 rfl ?_
    refine x_gtr _ rfl rfl rfl rfl rfl rfl ?_
    refine x_pickF rfl rfl rfl rfl rfl ?_
    refine x_move rfl rfl rfl rfl ?_
    refine Ex.split 13 rfl (fun hsp2 => ?_) (fun hsp2 => ?_)
    ·
      try simp only [decide_eq_true_eq, decide_eq_false_iff_not, Bool.not_eq_true', Bool.not_eq_false', beq_iff_eq, bne_iff_ne, ne_eq, Bool.not_eq_eq_eq_not, Bool.not_true, Bool.not_false, beq_eq_false_iff_ne, bne_eq_false_iff_eq, Bool.not_not, gt_iff_lt, ge_iff_le] at hsp2
      refine Ex.skip_ rfl rfl rfl ?_
      refine Ex.skip_ rfl rfl rfl ?_
      refine x_pickT rfl rfl rfl rfl rfl ?_
      refine x_move rfl rfl rfl rfl ?_
      refine Ex.skip_ rfl rfl rfl ?_
      refine Ex.skip_ rfl rfl rfl ?_
      refine x_pickT rfl rfl rfl rfl rfl ?_
      refine Ex.done (hK _ _ ?_)
      refine At.then_n ?_
      refine W.condT rfl ?_
      refine W.seq ?_
      refine W.sub [] trivial ?_
      refine W.reg [(0, false)] (by kernel_rfl) ?_
      intro K hK
      refine x_assign rfl rfl rfl rfl ?_
      refine Ex.done (hK _ _ ?_)
      refine At.then_n ?_
      refine W.ret ?_
      refine At.then_r ?_
      refine At.ret1 (.tmp 2) rfl ⟨rfl, trivial⟩ ?_
      exact ⟨by rw [nameP, if_neg (fun h => by have := h.2.1; omega)], M.frm⟩
    ·
      try simp only [decide_eq_true_eq, decide_eq_false_iff_not, Bool.not_eq_true', Bool.not_eq_false', beq_iff_eq, bne_iff_ne, ne_eq, Bool.not_eq_eq_eq_not, Bool.not_true, Bool.not_false, beq_eq_false_iff_ne, bne_eq_false_iff_eq, Bool.not_not, gt_iff_lt, ge_iff_le] at hsp2
      refine x_move rfl rfl rfl rfl ?_
      refine x_eqS _ rfl rfl rfl rfl rfl rfl ?_
      refine x_pickF rfl rfl rfl rfl rfl ?_
      refine x_move rfl rfl rfl rfl ?_
      refine Ex.split 17 rfl (fun hsp3 => ?_) (fun hsp3 => ?_)
      ·
        try simp only [decide_eq_true_eq, decide_eq_false_iff_not, Bool.not_eq_true', Bool.not_eq_false', beq_iff_eq, bne_iff_ne, ne_eq, Bool.not_eq_eq_eq_not, Bool.not_true, Bool.not_false, beq_eq_false_iff_ne, bne_eq_false_iff_eq, Bool.not_not, gt_iff_lt, ge_iff_le] at hsp3
        refine Ex.skip_ rfl rfl rfl ?_
        refine Ex.skip_ rfl rfl rfl ?_
        refine x_pickT rfl rfl rfl rfl rfl ?_
        refine Ex.done (hK _ _ ?_)
        refine At.then_n ?_
        refine W.condT rfl ?_
        refine W.seq ?_
        refine W.sub [] trivial ?_
        refine W.reg [(0, false)] (by kernel_rfl) ?_
        intro K hK
        refine x_assign rfl rfl rfl rfl ?_
        refine Ex.done (hK _ _ ?_)
        refine At.then_n ?_
        refine W.ret ?_
        refine At.then_r ?_
        refine At.ret1 (.tmp 2) rfl ⟨rfl, trivial⟩ ?_
        exact ⟨by rw [nameP, if_neg (fun h => h.2.2.1 hsp3)], M.frm⟩
      ·
        try simp only [decide_eq_true_eq, decide_eq_false_iff_not, Bool.not_eq_true', Bool.not_eq_false', beq_iff_eq, bne_iff_ne, ne_eq, Bool.not_eq_eq_eq_not, Bool.not_true, Bool.not_false, beq_eq_false_iff_ne, bne_eq_false_iff_eq, Bool.not_not, gt_iff_lt, ge_iff_le] at hsp3
        refine x_move rfl rfl rfl rfl ?_
        refine x_eqS _ rfl rfl rfl rfl rfl rfl ?_
        refine x_pickF rfl rfl rfl rfl rfl ?_
        refine Ex.done (hK _ _ ?_)
        refine At.then_n ?_
        refine W.cond rfl (fun hco4 => ?_) (fun hco4 => ?_)
        · try simp only [decide_eq_true_eq, decide_eq_false_iff_not, Bool.not_eq_true', Bool.not_eq_false', beq_iff_eq, bne_iff_ne, ne_eq, Bool.not_eq_eq_eq_not, Bool.not_true, Bool.not_false, beq_eq_false_iff_ne, bne_eq_false_iff_eq, Bool.not_not, gt_iff_lt, ge_iff_le] at hco4
          refine W.seq ?_
          refine W.sub [] trivial ?_
          refine W.reg [(0, false)] (by kernel_rfl) ?_
          intro K hK
          refine x_assign rfl rfl rfl rfl ?_
          refine Ex.done (hK _ _ ?_)
          refine At.then_n ?_
          refine W.ret ?_
          refine At.then_r ?_
          refine At.ret1 (.tmp 2) rfl ⟨rfl, trivial⟩ ?_
          exact ⟨by rw [nameP, if_neg (fun h => h.2.2.2.1 hco4)], M.frm⟩
        · try simp only [decide_eq_true_eq, decide_eq_false_iff_not, Bool.not_eq_true', Bool.not_eq_false', beq_iff_eq, bne_iff_ne, ne_eq, Bool.not_eq_eq_eq_not, Bool.not_true, Bool.not_false, beq_eq_false_iff_ne, bne_eq_false_iff_eq, Bool.not_not, gt_iff_lt, ge_iff_le] at hco4
          refine W.skip ?_
          refine At.then_n ?_
          refine W.seq ?_
          refine W.seq ?_
          refine W.sub [(0, _)] ⟨rfl, trivial⟩ ?_
          refine W.reg [(0, false), (1, true)] (by kernel_rfl) ?_
          intro K hK
          refine x_move rfl rfl rfl rfl ?_
          refine x_rngS rfl rfl rfl Try.underlying9 rfl ?_
          intro brange1 wrange1 hbrange1 hwrange1
          have M := M.acons hbrange1 hwrange1
          refine ⟨trivial, ?_⟩
          refine Ex.done (hK _ _ ?_)
          refine At.then_n ?_
          refine W.block ?_
          refine W.loop (σ := Nat) (fun q => [(22, _)]) (fun q w => q ≤ s.length ∧ (∀ (k : Nat) c, k < q → s[k]? = some c → nameC c) ∧ Sep w0 [(brange1, .stringIter (strB s) q)] w) (fun q => s.length - q) 0 ⟨rfl, trivial⟩ ⟨Nat.zero_le _, fun k c h => by omega, M⟩ ?_
          rintro q w ⟨hle, hall, M⟩
          refine W.seq ?_
          refine W.sub [(22, _)] ⟨rfl, trivial⟩ ?_
          refine W.reg [(0, true), (1, false)] (by kernel_rfl) ?_
          intro K hK
          refine x_nxtU rfl rfl rfl rfl (by first | exact M.at_ 0 rfl | exact M.at_ 1 rfl | exact M.at_ 2 rfl | exact M.at_ 3 rfl | exact M.at_ 4 rfl | exact M.at_ 5 rfl | exact M.at_ 6 rfl | exact M.at_ 7 rfl) ?_
          intro wnext1 hwnext1
          have M := by first | exact M.nxt 0 rfl hwnext1 | exact M.nxt 1 rfl hwnext1 | exact M.nxt 2 rfl hwnext1 | exact M.nxt 3 rfl hwnext1 | exact M.nxt 4 rfl hwnext1 | exact M.nxt 5 rfl hwnext1 | exact M.nxt 6 rfl hwnext1 | exact M.nxt 7 rfl hwnext1
          refine ⟨trivial, ?_⟩
          refine x_ext rfl rfl rfl rfl (nxt0 _ _) ?_
          refine Ex.done (hK _ _ ?_)
          refine At.then_n ?_
          refine W.seq ?_
          refine W.cond rfl (fun hco5 => ?_) (fun hco5 => ?_)
          · try simp only [decide_eq_true_eq, decide_eq_false_iff_not, Bool.not_eq_true', Bool.not_eq_false', beq_iff_eq, bne_iff_ne, ne_eq, Bool.not_eq_eq_eq_not, Bool.not_true, Bool.not_false, beq_eq_false_iff_ne, bne_eq_false_iff_eq, Bool.not_not, gt_iff_lt, ge_iff_le] at hco5
            obtain ⟨c, hc⟩ : ∃ c, s[q]? = some c := ⟨s[q], List.getElem?_eq_getElem hco5⟩
            have hr := rune_name hc
            refine W.skip ?_
            refine At.then_n ?_
            refine W.block ?_
            refine W.seq ?_
            refine W.sub [(22, _), (23, _)] ⟨rfl, rfl, trivial⟩ ?_
            refine W.reg [(0, false), (1, false)] (by kernel_rfl) ?_
            intro K hK
            refine x_ext rfl rfl rfl rfl (nxt2 (by assumption)) ?_
            refine x_assign rfl rfl rfl rfl ?_
            refine Ex.done (hK _ _ ?_)
            refine At.then_n ?_
            refine W.seq ?_
            refine W.sub [(4, _), (22, _)] ⟨rfl, rfl, trivial⟩ ?_
            refine W.reg [(0, false), (1, false), (2, false), (3, false), (4, false), (5, false), (6, false), (7, false), (8, false), (9, false), (10, false), (11, false), (12, false), (13, false)] (by kernel_rfl) ?_
            intro K hK
            refine x_move rfl rfl rfl rfl ?_
            refine x_lss _ rfl rfl rfl rfl rfl rfl ?_
            refine x_move rfl rfl rfl rfl ?_
            refine Ex.split 28 rfl (fun hsp4 => ?_) (fun hsp4 => ?_)
            ·
              try simp only [decide_eq_true_eq, decide_eq_false_iff_not, Bool.not_eq_true', Bool.not_eq_false', beq_iff_eq, bne_iff_ne, ne_eq, Bool.not_eq_eq_eq_not, Bool.not_true, Bool.not_false, beq_eq_false_iff_ne, bne_eq_false_iff_eq, Bool.not_not, gt_iff_lt, ge_iff_le] at hsp4
              refine Ex.skip_ rfl rfl rfl ?_
              refine Ex.skip_ rfl rfl rfl ?_
              refine x_pickT rfl rfl rfl rfl rfl ?_
              refine x_move rfl rfl rfl rfl ?_
              refine Ex.skip_ rfl rfl rfl ?_
              refine Ex.skip_ rfl rfl rfl ?_
              refine x_pickT rfl rfl rfl rfl rfl ?_
              refine x_move rfl rfl rfl rfl ?_
              refine Ex.skip_ rfl rfl rfl ?_
              refine Ex.skip_ rfl rfl rfl ?_
              refine x_pickT rfl rfl rfl rfl rfl ?_
              refine Ex.done (hK _ _ ?_)
              refine At.then_n ?_
              refine W.condT rfl ?_
              refine W.seq ?_
              refine W.sub [] trivial ?_
              refine W.reg [(0, false)] (by kernel_rfl) ?_
              intro K hK
              refine x_assign rfl rfl rfl rfl ?_
              refine Ex.done (hK _ _ ?_)
              refine At.then_n ?_
              refine W.ret ?_
              refine At.blk_r ?_
              refine At.loop_r ?_
              refine At.blk_r ?_
              refine At.then_r ?_
              refine At.ret1 (.tmp 2) rfl ⟨rfl, trivial⟩ ?_
              exact ⟨by rw [nameP_bad hc (fun h => by have := hr.2 h; omega)], M.frm⟩
            ·
              try simp only [decide_eq_true_eq, decide_eq_false_iff_not, Bool.not_eq_true', Bool.not_eq_false', beq_iff_eq, bne_iff_ne, ne_eq, Bool.not_eq_eq_eq_not, Bool.not_true, Bool.not_false, beq_eq_false_iff_ne, bne_eq_false_iff_eq, Bool.not_not, gt_iff_lt, ge_iff_le] at hsp4
              refine x_move rfl rfl rfl rfl ?_
              refine x_gtr _ rfl rfl rfl rfl rfl rfl ?_
              refine x_pickF rfl rfl rfl rfl rfl ?_
              refine x_move rfl rfl rfl rfl ?_
              refine Ex.split 32 rfl (fun hsp5 => ?_) (fun hsp5 => ?_)
              ·
                try simp only [decide_eq_true_eq, decide_eq_false_iff_not, Bool.not_eq_true', Bool.not_eq_false', beq_iff_eq, bne_iff_ne, ne_eq, Bool.not_eq_eq_eq_not, Bool.not_true, Bool.not_false, beq_eq_false_iff_ne, bne_eq_false_iff_eq, Bool.not_not, gt_iff_lt, ge_iff_le] at hsp5
                refine Ex.skip_ rfl rfl rfl ?_
                refine Ex.skip_ rfl rfl rfl ?_
                refine x_pickT rfl rfl rfl rfl rfl ?_
                refine x_move rfl rfl rfl rfl ?_
                refine Ex.skip_ rfl rfl rfl ?_
                refine Ex.skip_ rfl rfl rfl ?_
                refine x_pickT rfl rfl rfl rfl rfl ?_
                refine Ex.done (hK _ _ ?_)
                refine At.then_n ?_
                refine W.condT rfl ?_
                refine W.seq ?_
                refine W.sub [] trivial ?_
                refine W.reg [(0, false)] (by kernel_rfl) ?_
                intro K hK
                refine x_assign rfl rfl rfl rfl ?_
                refine Ex.done (hK _ _ ?_)
                refine At.then_n ?_
                refine W.ret ?_
                refine At.blk_r ?_
                refine At.loop_r ?_
                refine At.blk_r ?_
                refine At.then_r ?_
                refine At.ret1 (.tmp 2) rfl ⟨rfl, trivial⟩ ?_
                exact ⟨by rw [nameP_bad hc (fun h => by have := hr.2 h; omega)], M.frm⟩
              ·
                try simp only [decide_eq_true_eq, decide_eq_false_iff_not, Bool.not_eq_true', Bool.not_eq_false', beq_iff_eq, bne_iff_ne, ne_eq, Bool.not_eq_eq_eq_not, Bool.not_true, Bool.not_false, beq_eq_false_iff_ne, bne_eq_false_iff_eq, Bool.not_not, gt_iff_lt, ge_iff_le] at hsp5
                refine x_move rfl rfl rfl rfl ?_
                refine x_eqi _ rfl rfl rfl rfl rfl rfl ?_
                refine x_pickF rfl rfl rfl rfl rfl ?_
                refine x_move rfl rfl rfl rfl ?_
                refine Ex.split 36 rfl (fun hsp6 => ?_) (fun hsp6 => ?_)
                ·
                  try simp only [decide_eq_true_eq, decide_eq_false_iff_not, Bool.not_eq_true', Bool.not_eq_false', beq_iff_eq, bne_iff_ne, ne_eq, Bool.not_eq_eq_eq_not, Bool.not_true, Bool.not_false, beq_eq_false_iff_ne, bne_eq_false_iff_eq, Bool.not_not, gt_iff_lt, ge_iff_le] at hsp6
                  refine Ex.skip_ rfl rfl rfl ?_
                  refine Ex.skip_ rfl rfl rfl ?_
                  refine x_pickT rfl rfl rfl rfl rfl ?_
                  refine Ex.done (hK _ _ ?_)
                  refine At.then_n ?_
                  refine W.condT rfl ?_
                  refine W.seq ?_
                  refine W.sub [] trivial ?_
                  refine W.reg [(0, false)] (by kernel_rfl) ?_
                  intro K hK
                  refine x_assign rfl rfl rfl rfl ?_
                  refine Ex.done (hK _ _ ?_)
                  refine At.then_n ?_
                  refine W.ret ?_
                  refine At.blk_r ?_
                  refine At.loop_r ?_
                  refine At.blk_r ?_
                  refine At.then_r ?_
                  refine At.ret1 (.tmp 2) rfl ⟨rfl, trivial⟩ ?_
                  exact ⟨by rw [nameP_bad hc (fun h => by have := hr.2 h; omega)], M.frm⟩
                ·
                  try simp only [decide_eq_true_eq, decide_eq_false_iff_not, Bool.not_eq_true', Bool.not_eq_false', beq_iff_eq, bne_iff_ne, ne_eq, Bool.not_eq_eq_eq_not, Bool.not_true, Bool.not_false, beq_eq_false_iff_ne, bne_eq_false_iff_eq, Bool.not_not, gt_iff_lt, ge_iff_le] at hsp6
                  refine x_move rfl rfl rfl rfl ?_
                  refine x_eqi _ rfl rfl rfl rfl rfl rfl ?_
                  refine x_pickF rfl rfl rfl rfl rfl ?_
                  refine Ex.done (hK _ _ ?_)
                  refine At.then_n ?_
                  refine W.cond rfl (fun hco9 => ?_) (fun hco9 => ?_)
                  · try simp only [decide_eq_true_eq, decide_eq_false_iff_not, Bool.not_eq_true', Bool.not_eq_false', beq_iff_eq, bne_iff_ne, ne_eq, Bool.not_eq_eq_eq_not, Bool.not_true, Bool.not_false, beq_eq_false_iff_ne, bne_eq_false_iff_eq, Bool.not_not, gt_iff_lt, ge_iff_le] at hco9
                    refine W.seq ?_
                    refine W.sub [] trivial ?_
                    refine W.reg [(0, false)] (by kernel_rfl) ?_
                    intro K hK
                    refine x_assign rfl rfl rfl rfl ?_
                    refine Ex.done (hK _ _ ?_)
                    refine At.then_n ?_
                    refine W.ret ?_
                    refine At.blk_r ?_
                    refine At.loop_r ?_
                    refine At.blk_r ?_
                    refine At.then_r ?_
                    refine At.ret1 (.tmp 2) rfl ⟨rfl, trivial⟩ ?_
                    exact ⟨by rw [nameP_bad hc (fun h => by have := hr.2 h; omega)], M.frm⟩
                  · try simp only [decide_eq_true_eq, decide_eq_false_iff_not, Bool.not_eq_true', Bool.not_eq_false', beq_iff_eq, bne_iff_ne, ne_eq, Bool.not_eq_eq_eq_not, Bool.not_true, Bool.not_false, beq_eq_false_iff_ne, bne_eq_false_iff_eq, Bool.not_not, gt_iff_lt, ge_iff_le] at hco9
                    refine W.skip ?_
                    refine At.blk_n ?_
                    exact At.back (q + 1) ⟨rfl, trivial⟩ ⟨by omega, fun k c2 hk hc2 => by
                      rcases Nat.lt_or_ge k q with h1 | h1
                      · exact hall k c2 h1 hc2
                      · have : k = q := by omega
                        subst this; rw [hc] at hc2; cases hc2; exact hr.1 (by omega), by rw [← rune_one hc (hr.1 (by omega))]; exact M⟩ (by first | omega | (simp only; omega) | (simp; done) | (simp; omega))
          · try simp only [decide_eq_true_eq, decide_eq_false_iff_not, Bool.not_eq_true', Bool.not_eq_false', beq_iff_eq, bne_iff_ne, ne_eq, Bool.not_eq_eq_eq_not, Bool.not_true, Bool.not_false, beq_eq_false_iff_ne, bne_eq_false_iff_eq, Bool.not_not, gt_iff_lt, ge_iff_le] at hco5
            refine W.exit ?_
            refine At.then_x ?_
            refine At.loop_x ?_
            refine At.blk_x ?_
            refine At.then_n ?_
            refine W.seq ?_
            refine W.sub [] trivial ?_
            refine W.reg [(0, false)] (by kernel_rfl) ?_
            intro K hK
            refine x_assign rfl rfl rfl rfl ?_
            refine Ex.done (hK _ _ ?_)
            refine At.then_n ?_
            refine W.ret ?_
            refine At.ret1 (.tmp 2) rfl ⟨rfl, trivial⟩ ?_
            exact ⟨by rw [nameP_ok (by omega) (by omega) hsp3 hco4 (fun k c hk hc => hall k c (by omega) hc)], M.frm⟩

set_option maxRecDepth 100000 in
theorem rname_c {w0 : World} {s : List UInt8}  : Ret Try.prog 62 #[strV s] w0 fun r w' => r = .int .i64 (nameP s) ∧ New w0 w' := by
  have M : Sep w0 [] w0 := St.nil w0
  refine Ret.of_W Try.func62 rfl Try.ntmps62 rfl ?_
  refine W.seq ?_
  refine W.sub [(0, _)] ⟨rfl, trivial⟩ ?_
  refine W.reg [(0, false)] (by kernel_rfl) ?_
  intro K hK
  refine x_assign rfl rfl rfl rfl ?_
  refine Ex.done (hK _ _ ?_)
  refine At.then_n ?_
  refine W.seq ?_
  refine W.seq ?_
  refine W.sub [(0, _)] ⟨rfl, trivial⟩ ?_
  refine W.reg [(0, false), (1, false), (2, false), (3, false), (4, false), (5, false), (6, false), (7, false), (8, false), (9, false), (10, false), (11, false), (12, false), (13, false), (14, false), (15, false)] (by kernel_rfl) ?_
  intro K hK
  refine x_move rfl rfl rfl rfl ?_
  refine x_lenS rfl rfl rfl rfl Try.underlying9 rfl ?_
  refine x_lss _ rfl rfl rfl rfl rfl rfl ?_
  refine x_move rfl rfl rfl rfl ?_
  refine Ex.split 7 rfl (fun hsp1 => ?_) (fun hsp1 => ?_)
  ·
    try simp only [decide_eq_true_eq, decide_eq_false_iff_not, Bool.not_eq_true', Bool.not_eq_false', beq_iff_eq, bne_iff_ne, ne_eq, Bool.not_eq_eq_eq_not, Bool.not_true, Bool.not_false, beq_eq_false_iff_ne, bne_eq_false_iff_eq, Bool.not_not, gt_iff_lt, ge_iff_le] at hsp1
    refine Ex.skip_ rfl rfl rfl ?_
    refine Ex.skip_ rfl rfl rfl ?_
    refine Ex.skip_ rfl rfl rfl ?_
    refine x_pickT rfl rfl rfl rfl rfl ?_
    refine x_move rfl rfl rfl rfl ?_
    refine Ex.skip_ rfl rfl rfl ?_
    refine Ex.skip_ rfl rfl rfl ?_
    refine x_pickT rfl rfl rfl rfl rfl ?_
    refine x_move rfl rfl rfl rfl ?_
    refine Ex.skip_ rfl rfl rfl ?_
    refine Ex.skip_ rfl rfl rfl ?_
    refine x_pickT rfl rfl rfl rfl rfl ?_
    refine Ex.done (hK _ _ ?_)
    refine At.then_n ?_
    refine W.condT rfl ?_
    refine W.seq ?_
    refine W.sub [] trivial ?_
    refine W.reg [(0, false)] (by kernel_rfl) ?_
    intro K hK
    refine x_assign rfl rfl rfl rfl ?_
    refine Ex.done (hK _ _ ?_)
    refine At.then_n ?_
    refine W.ret ?_
    refine At.then_r ?_
    refine At.ret1 (.tmp 2) rfl ⟨rfl, trivial⟩ ?_
    exact ⟨by rw [nameP, if_neg (fun h => by have := h.1; omega)], M.frm⟩
  ·
    try simp only [decide_eq_true_eq, decide_eq_false_iff_not, Bool.not_eq_true', Bool.not_eq_false', beq_iff_eq, bne_iff_ne, ne_eq, Bool.not_eq_eq_eq_not, Bool.not_true, Bool.not_false, beq_eq_false_iff_ne, bne_eq_false_iff_eq, Bool.not_not, gt_iff_lt, ge_iff_le] at hsp1
    refine x_move rfl rfl rfl rfl ?_
    refine x_lenS rfl rfl rfl rfl Try.underlying9 rfl ?_
    refine x_gtr _ rfl rfl rfl rfl rfl rfl ?_
    refine x_pickF rfl rfl rfl rfl rfl ?_
    refine x_move rfl rfl rfl rfl ?_
    refine Ex.split 12 rfl (fun hsp2 => ?_) (fun hsp2 => ?_)
    ·
      try simp only [decide_eq_true_eq, decide_eq_false_iff_not, Bool.not_eq_true', Bool.not_eq_false', beq_iff_eq, bne_iff_ne, ne_eq, Bool.not_eq_eq_eq_not, Bool.not_true, Bool.not_false, beq_eq_false_iff_ne, bne_eq_false_iff_eq, Bool.not_not, gt_iff_lt, ge_iff_le] at hsp2
      refine Ex.skip_ rfl rfl rfl ?_
      refine Ex.skip_ rfl rfl rfl ?_
      refine x_pickT rfl rfl rfl rfl rfl ?_
      refine x_move rfl rfl rfl rfl ?_
      refine Ex.skip_ rfl rfl rfl ?_
      refine Ex.skip_ rfl rfl rfl ?_
      refine x_pickT rfl rfl rfl rfl rfl ?_
      refine Ex.done (hK _ _ ?_)
      refine At.then_n ?_
      refine W.condT rfl ?_
      refine W.seq ?_
      refine W.sub [] trivial ?_
      refine W.reg [(0, false)] (by kernel_rfl) ?_
      intro K hK
      refine x_assign rfl rfl rfl rfl ?_
      refine Ex.done (hK _ _ ?_)
      refine At.then_n ?_
      refine W.ret ?_
      refine At.then_r ?_
      refine At.ret1 (.tmp 2) rfl ⟨rfl, trivial⟩ ?_
      exact ⟨by rw [nameP, if_neg (fun h => by have := h.2.1; omega)], M.frm⟩
    ·
      try simp only [decide_eq_true_eq, decide_eq_false_iff_not, Bool.not_eq_true', Bool.not_eq_false', beq_iff_eq, bne_iff_ne, ne_eq, Bool.not_eq_eq_eq_not, Bool.not_true, Bool.not_false, beq_eq_false_iff_ne, bne_eq_false_iff_eq, Bool.not_not, gt_iff_lt, ge_iff_le] at hsp2
      refine x_move rfl rfl rfl rfl ?_
      refine x_eqS _ rfl rfl rfl rfl rfl rfl ?_
      refine x_pickF rfl rfl rfl rfl rfl ?_
      refine x_move rfl rfl rfl rfl ?_
      refine Ex.split 16 rfl (fun hsp3 => ?_) (fun hsp3 => ?_)
      ·
        try simp only [decide_eq_true_eq, decide_eq_false_iff_not, Bool.not_eq_true', Bool.not_eq_false', beq_iff_eq, bne_iff_ne, ne_eq, Bool.not_eq_eq_eq_not, Bool.not_true, Bool.not_false, beq_eq_false_iff_ne, bne_eq_false_iff_eq, Bool.not_not, gt_iff_lt, ge_iff_le] at hsp3
        refine Ex.skip_ rfl rfl rfl ?_
        refine Ex.skip_ rfl rfl rfl ?_
        refine x_pickT rfl rfl rfl rfl rfl ?_
        refine Ex.done (hK _ _ ?_)
        refine At.then_n ?_
        refine W.condT rfl ?_
        refine W.seq ?_
        refine W.sub [] trivial ?_
        refine W.reg [(0, false)] (by kernel_rfl) ?_
        intro K hK
        refine x_assign rfl rfl rfl rfl ?_
        refine Ex.done (hK _ _ ?_)
        refine At.then_n ?_
        refine W.ret ?_
        refine At.then_r ?_
        refine At.ret1 (.tmp 2) rfl ⟨rfl, trivial⟩ ?_
        exact ⟨by rw [nameP, if_neg (fun h => h.2.2.1 hsp3)], M.frm⟩
      ·
        try simp only [decide_eq_true_eq, decide_eq_false_iff_not, Bool.not_eq_true', Bool.not_eq_false', beq_iff_eq, bne_iff_ne, ne_eq, Bool.not_eq_eq_eq_not, Bool.not_true, Bool.not_false, beq_eq_false_iff_ne, bne_eq_false_iff_eq, Bool.not_not, gt_iff_lt, ge_iff_le] at hsp3
        refine x_move rfl rfl rfl rfl ?_
        refine x_eqS _ rfl rfl rfl rfl rfl rfl ?_
        refine x_pickF rfl rfl rfl rfl rfl ?_
        refine Ex.done (hK _ _ ?_)
        refine At.then_n ?_
        refine W.cond rfl (fun hco4 => ?_) (fun hco4 => ?_)
        · try simp only [decide_eq_true_eq, decide_eq_false_iff_not, Bool.not_eq_true', Bool.not_eq_false', beq_iff_eq, bne_iff_ne, ne_eq, Bool.not_eq_eq_eq_not, Bool.not_true, Bool.not_false, beq_eq_false_iff_ne, bne_eq_false_iff_eq, Bool.not_not, gt_iff_lt, ge_iff_le] at hco4
          refine W.seq ?_
          refine W.sub [] trivial ?_
          refine W.reg [(0, false)] (by kernel_rfl) ?_
          intro K hK
          refine x_assign rfl rfl rfl rfl ?_
          refine Ex.done (hK _ _ ?_)
          refine At.then_n ?_
          refine W.ret ?_
          refine At.then_r ?_
          refine At.ret1 (.tmp 2) rfl ⟨rfl, trivial⟩ ?_
          exact ⟨by rw [nameP, if_neg (fun h => h.2.2.2.1 hco4)], M.frm⟩
        · try simp only [decide_eq_true_eq, decide_eq_false_iff_not, Bool.not_eq_true', Bool.not_eq_false', beq_iff_eq, bne_iff_ne, ne_eq, Bool.not_eq_eq_eq_not, Bool.not_true, Bool.not_false, beq_eq_false_iff_ne, bne_eq_false_iff_eq, Bool.not_not, gt_iff_lt, ge_iff_le] at hco4
          refine W.skip ?_
          refine At.then_n ?_
          refine W.seq ?_
          refine W.seq ?_
          refine W.sub [(0, _)] ⟨rfl, trivial⟩ ?_
          refine W.reg [(0, false)] (by kernel_rfl) ?_
          intro K hK
          refine x_assign rfl rfl rfl rfl ?_
          refine Ex.done (hK _ _ ?_)
          refine At.then_n ?_
          refine W.block ?_
          refine W.loop (σ := Nat) (fun q => [(0, _), (3, .int .i64 ((q : Nat) : Int))]) (fun q w => q ≤ s.length ∧ (∀ (k : Nat) c, k < q → s[k]? = some c → nameC c) ∧ Sep w0 [] w) (fun q => s.length - q) 0 ⟨rfl, rfl, trivial⟩ ⟨Nat.zero_le _, fun k c h => by omega, M⟩ ?_
          rintro q w ⟨hle, hall, M⟩
          refine W.seq ?_
          refine W.seq ?_
          refine W.sub [(0, _), (3, _)] ⟨rfl, rfl, trivial⟩ ?_
          refine W.reg [(0, false), (1, false), (2, false), (3, false)] (by kernel_rfl) ?_
          intro K hK
          refine x_move rfl rfl rfl rfl ?_
          refine x_move rfl rfl rfl rfl ?_
          refine x_lenS rfl rfl rfl rfl Try.underlying9 rfl ?_
          refine x_lss _ rfl rfl rfl rfl rfl rfl ?_
          refine Ex.done (hK _ _ ?_)
          refine At.then_n ?_
          refine W.cond rfl (fun hco5 => ?_) (fun hco5 => ?_)
          · try simp only [decide_eq_true_eq, decide_eq_false_iff_not, Bool.not_eq_true', Bool.not_eq_false', beq_iff_eq, bne_iff_ne, ne_eq, Bool.not_eq_eq_eq_not, Bool.not_true, Bool.not_false, beq_eq_false_iff_ne, bne_eq_false_iff_eq, Bool.not_not, gt_iff_lt, ge_iff_le] at hco5
            obtain ⟨c, hc⟩ : ∃ c, s[q]? = some c := ⟨s[q]'(by omega), List.getElem?_eq_getElem (by omega)⟩
            have hr : nameC c ↔ _ := Iff.rfl
            unfold nameC at hr
            refine W.skip ?_
            refine At.then_n ?_
            refine W.seq ?_
            refine W.block ?_
            refine W.seq ?_
            refine W.sub [(0, _), (3, _)] ⟨rfl, rfl, trivial⟩ ?_
            refine W.reg [(0, false), (1, false), (2, false), (3, false), (4, false), (5, false), (6, false), (7, false), (8, false), (9, false), (10, false), (11, false), (12, false), (13, false), (14, false), (15, false), (16, false), (17, false), (18, false), (19, false), (20, false), (21, false)] (by kernel_rfl) ?_
            intro K hK
            refine x_move rfl rfl rfl rfl ?_
            refine x_move rfl rfl rfl rfl ?_
            refine x_ixS q rfl rfl rfl Try.underlying9 rfl rfl rfl hc ?_
            refine x_lss _ rfl rfl rfl rfl rfl rfl ?_
            refine x_move rfl rfl rfl rfl ?_
            refine Ex.split 30 rfl (fun hsp4 => ?_) (fun hsp4 => ?_)
            ·
              try simp only [decide_eq_true_eq, decide_eq_false_iff_not, Bool.not_eq_true', Bool.not_eq_false', beq_iff_eq, bne_iff_ne, ne_eq, Bool.not_eq_eq_eq_not, Bool.not_true, Bool.not_false, beq_eq_false_iff_ne, bne_eq_false_iff_eq, Bool.not_not, gt_iff_lt, ge_iff_le] at hsp4
              refine Ex.skip_ rfl rfl rfl ?_
              refine Ex.skip_ rfl rfl rfl ?_
              refine Ex.skip_ rfl rfl rfl ?_
              refine Ex.skip_ rfl rfl rfl ?_
              refine x_pickT rfl rfl rfl rfl rfl ?_
              refine x_move rfl rfl rfl rfl ?_
              refine Ex.skip_ rfl rfl rfl ?_
              refine Ex.skip_ rfl rfl rfl ?_
              refine Ex.skip_ rfl rfl rfl ?_
              refine Ex.skip_ rfl rfl rfl ?_
              refine x_pickT rfl rfl rfl rfl rfl ?_
              refine x_move rfl rfl rfl rfl ?_
              refine Ex.skip_ rfl rfl rfl ?_
              refine Ex.skip_ rfl rfl rfl ?_
              refine Ex.skip_ rfl rfl rfl ?_
              refine Ex.skip_ rfl rfl rfl ?_
              refine x_pickT rfl rfl rfl rfl rfl ?_
              refine Ex.done (hK _ _ ?_)
              refine At.then_n ?_
              refine W.condT rfl ?_
              refine W.seq ?_
              refine W.sub [] trivial ?_
              refine W.reg [(0, false)] (by kernel_rfl) ?_
              intro K hK
              refine x_assign rfl rfl rfl rfl ?_
              refine Ex.done (hK _ _ ?_)
              refine At.then_n ?_
              refine W.ret ?_
              refine At.blk_r ?_
              refine At.then_r ?_
              refine At.loop_r ?_
              refine At.blk_r ?_
              refine At.then_r ?_
              refine At.ret1 (.tmp 2) rfl ⟨rfl, trivial⟩ ?_
              exact ⟨by rw [nameP_bad hc (fun h => by unfold nameC at h; omega)], M.frm⟩
            ·
              try simp only [decide_eq_true_eq, decide_eq_false_iff_not, Bool.not_eq_true', Bool.not_eq_false', beq_iff_eq, bne_iff_ne, ne_eq, Bool.not_eq_eq_eq_not, Bool.not_true, Bool.not_false, beq_eq_false_iff_ne, bne_eq_false_iff_eq, Bool.not_not, gt_iff_lt, ge_iff_le] at hsp4
              refine x_move rfl rfl rfl rfl ?_
              refine x_move rfl rfl rfl rfl ?_
              refine x_ixS q rfl rfl rfl Try.underlying9 rfl rfl rfl hc ?_
              refine x_gtr _ rfl rfl rfl rfl rfl rfl ?_
              refine x_pickF rfl rfl rfl rfl rfl ?_
              refine x_move rfl rfl rfl rfl ?_
              refine Ex.split 36 rfl (fun hsp5 => ?_) (fun hsp5 => ?_)
              ·
                try simp only [decide_eq_true_eq, decide_eq_false_iff_not, Bool.not_eq_true', Bool.not_eq_false', beq_iff_eq, bne_iff_ne, ne_eq, Bool.not_eq_eq_eq_not, Bool.not_true, Bool.not_false, beq_eq_false_iff_ne, bne_eq_false_iff_eq, Bool.not_not, gt_iff_lt, ge_iff_le] at hsp5
                refine Ex.skip_ rfl rfl rfl ?_
                refine Ex.skip_ rfl rfl rfl ?_
                refine Ex.skip_ rfl rfl rfl ?_
                refine Ex.skip_ rfl rfl rfl ?_
                refine x_pickT rfl rfl rfl rfl rfl ?_
                refine x_move rfl rfl rfl rfl ?_
                refine Ex.skip_ rfl rfl rfl ?_
                refine Ex.skip_ rfl rfl rfl ?_
                refine Ex.skip_ rfl rfl rfl ?_
                refine Ex.skip_ rfl rfl rfl ?_
                refine x_pickT rfl rfl rfl rfl rfl ?_
                refine Ex.done (hK _ _ ?_)
                refine At.then_n ?_
                refine W.condT rfl ?_
                refine W.seq ?_
                refine W.sub [] trivial ?_
                refine W.reg [(0, false)] (by kernel_rfl) ?_
                intro K hK
                refine x_assign rfl rfl rfl rfl ?_
                refine Ex.done (hK _ _ ?_)
                refine At.then_n ?_
                refine W.ret ?_
                refine At.blk_r ?_
                refine At.then_r ?_
                refine At.loop_r ?_
                refine At.blk_r ?_
                refine At.then_r ?_
                refine At.ret1 (.tmp 2) rfl ⟨rfl, trivial⟩ ?_
                exact ⟨by rw [nameP_bad hc (fun h => by unfold nameC at h; omega)], M.frm⟩
              ·
                try simp only [decide_eq_true_eq, decide_eq_false_iff_not, Bool.not_eq_true', Bool.not_eq_false', beq_iff_eq, bne_iff_ne, ne_eq, Bool.not_eq_eq_eq_not, Bool.not_true, Bool.not_false, beq_eq_false_iff_ne, bne_eq_false_iff_eq, Bool.not_not, gt_iff_lt, ge_iff_le] at hsp5
                refine x_move rfl rfl rfl rfl ?_
                refine x_move rfl rfl rfl rfl ?_
                refine x_ixS q rfl rfl rfl Try.underlying9 rfl rfl rfl hc ?_
                refine x_eqi _ rfl rfl rfl rfl rfl rfl ?_
                refine x_pickF rfl rfl rfl rfl rfl ?_
                refine x_move rfl rfl rfl rfl ?_
                refine Ex.split 42 rfl (fun hsp6 => ?_) (fun hsp6 => ?_)
                ·
                  try simp only [decide_eq_true_eq, decide_eq_false_iff_not, Bool.not_eq_true', Bool.not_eq_false', beq_iff_eq, bne_iff_ne, ne_eq, Bool.not_eq_eq_eq_not, Bool.not_true, Bool.not_false, beq_eq_false_iff_ne, bne_eq_false_iff_eq, Bool.not_not, gt_iff_lt, ge_iff_le] at hsp6
                  refine Ex.skip_ rfl rfl rfl ?_
                  refine Ex.skip_ rfl rfl rfl ?_
                  refine Ex.skip_ rfl rfl rfl ?_
                  refine Ex.skip_ rfl rfl rfl ?_
                  refine x_pickT rfl rfl rfl rfl rfl ?_
                  refine Ex.done (hK _ _ ?_)
                  refine At.then_n ?_
                  refine W.condT rfl ?_
                  refine W.seq ?_
                  refine W.sub [] trivial ?_
                  refine W.reg [(0, false)] (by kernel_rfl) ?_
                  intro K hK
                  refine x_assign rfl rfl rfl rfl ?_
                  refine Ex.done (hK _ _ ?_)
                  refine At.then_n ?_
                  refine W.ret ?_
                  refine At.blk_r ?_
                  refine At.then_r ?_
                  refine At.loop_r ?_
                  refine At.blk_r ?_
                  refine At.then_r ?_
                  refine At.ret1 (.tmp 2) rfl ⟨rfl, trivial⟩ ?_
                  exact ⟨by rw [nameP_bad hc (fun h => by unfold nameC at h; omega)], M.frm⟩
                ·
                  try simp only [decide_eq_true_eq, decide_eq_false_iff_not, Bool.not_eq_true', Bool.not_eq_false', beq_iff_eq, bne_iff_ne, ne_eq, Bool.not_eq_eq_eq_not, Bool.not_true, Bool.not_false, beq_eq_false_iff_ne, bne_eq_false_iff_eq, Bool.not_not, gt_iff_lt, ge_iff_le] at hsp6
                  refine x_move rfl rfl rfl rfl ?_
                  refine x_move rfl rfl rfl rfl ?_
                  refine x_ixS q rfl rfl rfl Try.underlying9 rfl rfl rfl hc ?_
                  refine x_eqi _ rfl rfl rfl rfl rfl rfl ?_
                  refine x_pickF rfl rfl rfl rfl rfl ?_
                  refine Ex.done (hK _ _ ?_)
                  refine At.then_n ?_
                  refine W.cond rfl (fun hco9 => ?_) (fun hco9 => ?_)
                  · try simp only [decide_eq_true_eq, decide_eq_false_iff_not, Bool.not_eq_true', Bool.not_eq_false', beq_iff_eq, bne_iff_ne, ne_eq, Bool.not_eq_eq_eq_not, Bool.not_true, Bool.not_false, beq_eq_false_iff_ne, bne_eq_false_iff_eq, Bool.not_not, gt_iff_lt, ge_iff_le] at hco9
                    refine W.seq ?_
                    refine W.sub [] trivial ?_
                    refine W.reg [(0, false)] (by kernel_rfl) ?_
                    intro K hK
                    refine x_assign rfl rfl rfl rfl ?_
                    refine Ex.done (hK _ _ ?_)
                    refine At.then_n ?_
                    refine W.ret ?_
                    refine At.blk_r ?_
                    refine At.then_r ?_
                    refine At.loop_r ?_
                    refine At.blk_r ?_
                    refine At.then_r ?_
                    refine At.ret1 (.tmp 2) rfl ⟨rfl, trivial⟩ ?_
                    exact ⟨by rw [nameP_bad hc (fun h => by unfold nameC at h; omega)], M.frm⟩
                  · try simp only [decide_eq_true_eq, decide_eq_false_iff_not, Bool.not_eq_true', Bool.not_eq_false', beq_iff_eq, bne_iff_ne, ne_eq, Bool.not_eq_eq_eq_not, Bool.not_true, Bool.not_false, beq_eq_false_iff_ne, bne_eq_false_iff_eq, Bool.not_not, gt_iff_lt, ge_iff_le] at hco9
                    refine W.skip ?_
                    refine At.blk_n ?_
                    refine At.then_n ?_
                    refine W.sub [(0, _), (3, _)] ⟨rfl, rfl, trivial⟩ ?_
                    refine W.reg [(0, false), (1, false), (2, false)] (by kernel_rfl) ?_
                    intro K hK
                    refine x_move rfl rfl rfl rfl ?_
                    refine x_add _ rfl rfl rfl rfl rfl (wadd (by omega) (by omega)) ?_
                    refine x_assign rfl rfl rfl rfl ?_
                    refine Ex.done (hK _ _ ?_)
                    exact At.back (q + 1) ⟨rfl, rfl, trivial⟩ ⟨by omega, fun k c2 hk hc2 => by
                      rcases Nat.lt_or_ge k q with h1 | h1
                      · exact hall k c2 h1 hc2
                      · have : k = q := by omega
                        subst this; rw [hc] at hc2; cases hc2; unfold nameC; omega, M⟩ (by first | omega | (simp only; omega) | (simp; done) | (simp; omega))
          · try simp only [decide_eq_true_eq, decide_eq_false_iff_not, Bool.not_eq_true', Bool.not_eq_false', beq_iff_eq, bne_iff_ne, ne_eq, Bool.not_eq_eq_eq_not, Bool.not_true, Bool.not_false, beq_eq_false_iff_ne, bne_eq_false_iff_eq, Bool.not_not, gt_iff_lt, ge_iff_le] at hco5
            refine W.exit ?_
            refine At.then_x ?_
            refine At.loop_x ?_
            refine At.blk_x ?_
            refine At.then_n ?_
            refine W.seq ?_
            refine W.sub [] trivial ?_
            refine W.reg [(0, false)] (by kernel_rfl) ?_
            intro K hK
            refine x_assign rfl rfl rfl rfl ?_
            refine Ex.done (hK _ _ ?_)
            refine At.then_n ?_
            refine W.ret ?_
            refine At.ret1 (.tmp 2) rfl ⟨rfl, trivial⟩ ?_
            exact ⟨by rw [nameP_ok (by omega) (by omega) hsp3 hco4 (fun k c hk hc => hall k c (by omega) hc)], M.frm⟩
end Go.Proofs.Ytccfmfehfhfhhaa

namespace Go.Proofs.Ytccfmfehfhfhhaa
open Go Go.Fw Go.RowKit Go.Proofs
set_option linter.unusedVariables false
set_option linter.unusedSimpArgs false

set_option maxRecDepth 100000 in
theorem idxb_c {w0 : World} {s : List UInt8} {c : UInt8}  : Ret Try.prog 104 #[strV s, .int .u8 (c.toNat : Int)] w0 fun r w' => r = .int .i64 (Lib.indexByte s c) ∧ New w0 w' := by
  have M : Sep w0 [] w0 := St.nil w0
  refine Ret.of_W Try.func104 rfl Try.ntmps104 rfl ?_
  refine W.seq ?_
  refine W.sub [(0, _), (1, _)] ⟨rfl, rfl, trivial⟩ ?_
  refine W.reg [(0, false)] (by kernel_rfl) ?_
  intro K hK
  refine x_assign rfl rfl rfl rfl ?_
  refine Ex.done (hK _ _ ?_)
  refine At.then_n ?_
  refine W.seq ?_
  refine W.sub [(0, _), (1, _)] ⟨rfl, rfl, trivial⟩ ?_
  refine W.reg [(0, false), (1, false), (2, true), (3, false)] (by kernel_rfl) ?_
  intro K hK
  refine x_move rfl rfl rfl rfl ?_
  refine x_move rfl rfl rfl rfl ?_
  refine x_xcall rfl rfl rfl rfl rfl Try.func108 (by kernel_rfl) (by kernel_rfl) (by kernel_rfl) (by kernel_rfl) (Lib.run_indexByteString _ _ _) trivial ?_
  refine x_assign rfl rfl rfl rfl ?_
  refine Ex.done (hK _ _ ?_)
  refine At.then_n ?_
  refine W.ret ?_
  refine At.ret1 (.tmp 4) rfl ⟨rfl, trivial⟩ ?_
  exact ⟨by simp [strB], M.frm⟩

set_option maxRecDepth 100000 in
theorem index1_c {w0 : World} {s : List UInt8} {c : UInt8}  : Ret Try.prog 102 #[strV s, strV [c]] w0 fun r w' => r = .int .i64 (Lib.indexByte s c) ∧ New w0 w' := by
  have M : Sep w0 [] w0 := St.nil w0
  refine Ret.of_W Try.func102 rfl Try.ntmps102 rfl ?_
  refine W.seq ?_
  refine W.sub [(0, _), (1, _)] ⟨rfl, rfl, trivial⟩ ?_
  refine W.reg [(0, false)] (by kernel_rfl) ?_
  intro K hK
  refine x_assign rfl rfl rfl rfl ?_
  refine Ex.done (hK _ _ ?_)
  refine At.then_n ?_
  refine W.seq ?_
  refine W.sub [(0, _), (1, _)] ⟨rfl, rfl, trivial⟩ ?_
  refine W.reg [(0, false), (1, false), (2, false)] (by kernel_rfl) ?_
  intro K hK
  refine x_move rfl rfl rfl rfl ?_
  refine x_lenS rfl rfl rfl rfl Try.underlying9 rfl ?_
  refine x_assign rfl rfl rfl rfl ?_
  refine Ex.done (hK _ _ ?_)
  refine At.then_n ?_
  refine W.seq ?_
  refine W.block ?_
  refine W.seq ?_
  refine W.sub [(0, _), (1, _), (5, _)] ⟨rfl, rfl, rfl, trivial⟩ ?_
  refine W.reg [(0, false), (1, false), (2, false), (3, false), (4, false), (5, false), (6, false), (7, false)] (by kernel_rfl) ?_
  intro K hK
  refine x_move rfl rfl rfl rfl ?_
  refine x_eqi false rfl rfl rfl rfl rfl rfl ?_
  refine x_move rfl rfl rfl rfl ?_
  refine x_move rfl rfl rfl rfl ?_
  refine x_move rfl rfl rfl rfl ?_
  refine x_eqS _ rfl rfl rfl rfl rfl rfl ?_
  refine x_pickF rfl rfl rfl rfl rfl ?_
  refine x_assign rfl rfl rfl rfl ?_
  refine Ex.done (hK _ _ ?_)
  refine At.then_n ?_
  refine W.cond rfl (fun hco1 => ?_) (fun hco1 => ?_)
  · try simp only [decide_eq_true_eq, decide_eq_false_iff_not, Bool.not_eq_true', Bool.not_eq_false', beq_iff_eq, bne_iff_ne, ne_eq, Bool.not_eq_eq_eq_not, Bool.not_true, Bool.not_false, beq_eq_false_iff_ne, bne_eq_false_iff_eq, Bool.not_not, gt_iff_lt, ge_iff_le] at hco1
    refine W.seq ?_
    refine W.sub [] trivial ?_
    refine W.reg [(0, false)] (by kernel_rfl) ?_
    intro K hK
    refine x_assign rfl rfl rfl rfl ?_
    refine Ex.done (hK _ _ ?_)
    refine At.then_n ?_
    refine W.ret ?_
    refine At.blk_r ?_
    refine At.then_r ?_
    refine At.ret1 (.tmp 4) rfl ⟨rfl, trivial⟩ ?_
    subst hco1; exact ⟨by simp [Lib.indexByte], M.frm⟩
  · try simp only [decide_eq_true_eq, decide_eq_false_iff_not, Bool.not_eq_true', Bool.not_eq_false', beq_iff_eq, bne_iff_ne, ne_eq, Bool.not_eq_eq_eq_not, Bool.not_true, Bool.not_false, beq_eq_false_iff_ne, bne_eq_false_iff_eq, Bool.not_not, gt_iff_lt, ge_iff_le] at hco1
    refine W.seq ?_
    refine W.sub [(0, _), (1, _), (5, _)] ⟨rfl, rfl, rfl, trivial⟩ ?_
    refine W.reg [(0, false), (1, false), (2, false)] (by kernel_rfl) ?_
    intro K hK
    refine x_move rfl rfl rfl rfl ?_
    refine x_eqi true rfl rfl rfl rfl rfl rfl ?_
    refine x_assign rfl rfl rfl rfl ?_
    refine Ex.done (hK _ _ ?_)
    refine At.then_n ?_
    refine W.condT rfl ?_
    refine W.seq ?_
    refine W.sub [(0, _), (1, _)] ⟨rfl, rfl, trivial⟩ ?_
    refine W.reg [(0, false), (1, false), (2, false), (3, true), (4, false)] (by kernel_rfl) ?_
    intro K hK
    refine x_move rfl rfl rfl rfl ?_
    refine x_move rfl rfl rfl rfl ?_
    refine x_ixS 0 rfl rfl rfl Try.underlying9 rfl rfl rfl rfl ?_
    refine x_call rfl rfl rfl rfl rfl en104 (idxb_c) ?_
    rintro r wcall1 ⟨rfl, hncall1⟩
    have M := M.new hncall1
    refine ⟨trivial, ?_⟩
    refine x_assign rfl rfl rfl rfl ?_
    refine Ex.done (hK _ _ ?_)
    refine At.then_n ?_
    refine W.ret ?_
    refine At.blk_r ?_
    refine At.then_r ?_
    refine At.ret1 (.tmp 4) rfl ⟨rfl, trivial⟩ ?_
    exact ⟨rfl, M.frm⟩

set_option maxRecDepth 100000 in
theorem slcut_c {w0 : World} {s : List UInt8} (hl : s.length ≤ 9223372036854775807) : Ret Try.prog 95 #[strV s, strV [47]] w0 fun r w' => ∃ p q, splitS s = p :: q ∧ r = .tuple #[strV p, strV (joinS q), .bool (decide (q ≠ []))] ∧ New w0 w' := by
  have M : Sep w0 [] w0 := St.nil w0
  refine Ret.of_W Try.func95 rfl Try.ntmps95 rfl ?_
  refine W.seq ?_
  refine W.sub [(0, _), (1, _)] ⟨rfl, rfl, trivial⟩ ?_
  refine W.reg [(0, false), (1, false), (2, false)] (by kernel_rfl) ?_
  intro K hK
  refine x_assign rfl rfl rfl rfl ?_
  refine x_assign rfl rfl rfl rfl ?_
  refine x_assign rfl rfl rfl rfl ?_
  refine Ex.done (hK _ _ ?_)
  refine At.then_n ?_
  refine W.seq ?_
  refine W.seq ?_
  refine W.sub [(0, _), (1, _)] ⟨rfl, rfl, trivial⟩ ?_
  refine W.reg [(0, false), (1, false), (2, true), (3, false)] (by kernel_rfl) ?_
  intro K hK
  refine x_move rfl rfl rfl rfl ?_
  refine x_move rfl rfl rfl rfl ?_
  refine x_call rfl rfl rfl rfl rfl en102 (index1_c) ?_
  rintro r wcall1 ⟨rfl, hncall1⟩
  have M := M.new hncall1
  refine ⟨trivial, ?_⟩
  refine x_assign rfl rfl rfl rfl ?_
  refine Ex.done (hK _ _ ?_)
  refine At.then_n ?_
  refine W.seq ?_
  refine W.sub [(0, _), (1, _), (7, _)] ⟨rfl, rfl, rfl, trivial⟩ ?_
  refine W.reg [(0, false), (1, false)] (by kernel_rfl) ?_
  intro K hK
  refine x_move rfl rfl rfl rfl ?_
  refine x_geq _ rfl rfl rfl rfl rfl rfl ?_
  refine Ex.done (hK _ _ ?_)
  refine At.then_n ?_
  refine W.cond rfl (fun hco1 => ?_) (fun hco1 => ?_)
  · try simp only [decide_eq_true_eq, decide_eq_false_iff_not, Bool.not_eq_true', Bool.not_eq_false', beq_iff_eq, bne_iff_ne, ne_eq, Bool.not_eq_eq_eq_not, Bool.not_true, Bool.not_false, beq_eq_false_iff_ne, bne_eq_false_iff_eq, Bool.not_not, gt_iff_lt, ge_iff_le] at hco1
    obtain ⟨o, ho⟩ : ∃ o : Nat, Lib.indexByte s 47 = (o : Int) := ⟨(Lib.indexByte s 47).toNat, by omega⟩
    obtain ⟨hsp, hlt⟩ := splitS_idx ho
    refine W.seq ?_
    refine W.sub [(0, _), (1, _), (7, _)] ⟨rfl, rfl, rfl, trivial⟩ ?_
    refine W.regD (by kernel_rfl) #[0, 0, 3, 0, 0, 0, 32, 112, 248, 7, 1023, 2047] [(0, false), (1, false), (2, false), (3, false), (4, false), (5, false), (6, false), (7, false), (8, false), (9, false), (10, false), (11, false)] (by kernel_rfl) ?_
    intro K wD1 hK hwD1
    have M := M.drew hwD1
    refine x_move rfl rfl rfl rfl ?_
    refine x_move rfl rfl rfl rfl ?_
    refine x_sshS o rfl rfl rfl Try.underlying9 rfl rfl ho (by omega) ?_
    refine x_move rfl rfl rfl rfl ?_
    refine x_move rfl rfl rfl rfl ?_
    refine x_move rfl rfl rfl rfl ?_
    refine x_lenS rfl rfl rfl rfl Try.underlying9 rfl ?_
    refine x_add ((o + 1 : Nat) : Int) rfl rfl rfl rfl rfl (by rw [ho]; exact (w64 (by simp; omega) (by simp; omega)).trans (by simp)) ?_
    refine x_sslS (o + 1) rfl rfl rfl Try.underlying9 rfl rfl rfl (by omega) ?_
    refine x_assign rfl rfl rfl rfl ?_
    refine x_assign rfl rfl rfl rfl ?_
    refine x_assign rfl rfl rfl rfl ?_
    refine Ex.done (hK _ _ ?_)
    refine At.then_n ?_
    refine W.ret ?_
    refine At.then_r ?_
    refine At.ret3 (.tmp 4) (.tmp 5) (.tmp 6) rfl ⟨rfl, rfl, rfl, trivial⟩ ?_
    exact ⟨_, _, hsp, by rw [joinS_splitS]; simp [splitS_ne], M.frm⟩
  · try simp only [decide_eq_true_eq, decide_eq_false_iff_not, Bool.not_eq_true', Bool.not_eq_false', beq_iff_eq, bne_iff_ne, ne_eq, Bool.not_eq_eq_eq_not, Bool.not_true, Bool.not_false, beq_eq_false_iff_ne, bne_eq_false_iff_eq, Bool.not_not, gt_iff_lt, ge_iff_le] at hco1
    have hm : Lib.indexByte s 47 = -1 := by have := Lib.indexByte_ge s 47; omega
    refine W.skip ?_
    refine At.then_n ?_
    refine W.seq ?_
    refine W.sub [(0, _)] ⟨rfl, trivial⟩ ?_
    refine W.reg [(0, false), (1, false), (2, false), (3, false)] (by kernel_rfl) ?_
    intro K hK
    refine x_move rfl rfl rfl rfl ?_
    refine x_assign rfl rfl rfl rfl ?_
    refine x_assign rfl rfl rfl rfl ?_
    refine x_assign rfl rfl rfl rfl ?_
    refine Ex.done (hK _ _ ?_)
    refine At.then_n ?_
    refine W.ret ?_
    refine At.ret3 (.tmp 4) (.tmp 5) (.tmp 6) rfl ⟨rfl, rfl, rfl, trivial⟩ ?_
    exact ⟨s, [], splitS_idx_none hm, rfl, M.frm⟩

set_option maxRecDepth 100000 in
theorem cut_c {w0 : World} {s : List UInt8} (hl : s.length ≤ 9223372036854775807) : Ret Try.prog 82 #[strV s, strV [47]] w0 fun r w' => ∃ p q, splitS s = p :: q ∧ r = .tuple #[strV p, strV (joinS q), .bool (decide (q ≠ []))] ∧ New w0 w' := by
  have M : Sep w0 [] w0 := St.nil w0
  refine Ret.of_W Try.func82 rfl Try.ntmps82 rfl ?_
  refine W.seq ?_
  refine W.sub [(0, _), (1, _)] ⟨rfl, rfl, trivial⟩ ?_
  refine W.reg [(0, false), (1, false), (2, false)] (by kernel_rfl) ?_
  intro K hK
  refine x_assign rfl rfl rfl rfl ?_
  refine x_assign rfl rfl rfl rfl ?_
  refine x_assign rfl rfl rfl rfl ?_
  refine Ex.done (hK _ _ ?_)
  refine At.then_n ?_
  refine W.seq ?_
  refine W.sub [(0, _), (1, _)] ⟨rfl, rfl, trivial⟩ ?_
  refine W.reg [(0, false), (1, false), (2, true), (3, false), (4, false), (5, false), (6, false), (7, false), (8, false)] (by kernel_rfl) ?_
  intro K hK
  refine x_move rfl rfl rfl rfl ?_
  refine x_move rfl rfl rfl rfl ?_
  refine x_call rfl rfl rfl rfl rfl en95 (slcut_c hl) ?_
  rintro r wcall1 ⟨pcall1, qcall1, hscall1, rfl, hncall1⟩
  have M := M.new hncall1
  refine ⟨trivial, ?_⟩
  refine x_ext rfl rfl rfl rfl rfl ?_
  refine x_ext rfl rfl rfl rfl rfl ?_
  refine x_ext rfl rfl rfl rfl rfl ?_
  refine x_assign rfl rfl rfl rfl ?_
  refine x_assign rfl rfl rfl rfl ?_
  refine x_assign rfl rfl rfl rfl ?_
  refine Ex.done (hK _ _ ?_)
  refine At.then_n ?_
  refine W.ret ?_
  refine At.ret3 (.tmp 4) (.tmp 5) (.tmp 6) rfl ⟨rfl, rfl, rfl, trivial⟩ ?_
  exact ⟨_, _, hscall1, rfl, M.frm⟩
end Go.Proofs.Ytccfmfehfhfhhaa

namespace Go.Proofs.Ytccfmfehfhfhhaa
open Go Go.Fw Go.RowKit Go.Proofs
set_option linter.unusedVariables false
set_option linter.unusedSimpArgs false

set_option maxRecDepth 100000 in
theorem pieces_c {w0 : World} {s : List UInt8}  : Ret Try.prog 73 #[strV s] w0 fun r w' => ∃ b, r = .func (.func 81) #[] #[ptr b] ∧ Sep w0 [(b, .cells [strV s].toArray 9 (0, 0))] w' := by
  have M : Sep w0 [] w0 := St.nil w0
  refine Ret.of_W Try.func73 rfl Try.ntmps73 rfl ?_
  refine W.seq ?_
  refine W.sub [(0, _)] ⟨rfl, trivial⟩ ?_
  refine W.reg [(0, true), (1, false)] (by kernel_rfl) ?_
  intro K hK
  refine x_box [_] rfl rfl rfl rfl rfl ?_
  intro bbx1 wbx1 hbbx1 hwbx1
  have M := M.acons hbbx1 hwbx1
  refine ⟨trivial, ?_⟩
  refine x_assign rfl rfl rfl rfl ?_
  refine Ex.done (hK _ _ ?_)
  refine At.then_n ?_
  refine W.seq ?_
  refine W.sub [(1, _)] ⟨rfl, trivial⟩ ?_
  refine W.reg [(0, false), (1, false)] (by kernel_rfl) ?_
  intro K hK
  refine x_mkfn rfl rfl rfl rfl rfl ?_
  refine x_assign rfl rfl rfl rfl ?_
  refine Ex.done (hK _ _ ?_)
  refine At.then_n ?_
  refine W.ret ?_
  refine At.ret1 (.tmp 2) rfl ⟨rfl, trivial⟩ ?_
  exact ⟨_, rfl, M⟩

set_option maxRecDepth 100000 in
theorem pieces_it {w0 : World} {b l0 : Nat} {s : List UInt8} {I : List UInt8 → List (List UInt8) → World → Prop} {X : World → Prop} (hl : s.length ≤ 9223372036854775807)
    (hb : ∀ x rest w, I x rest w → w.heap[b]? = some (.cells [strV x].toArray 9 (0, 0)))
    (hput : ∀ x y rest w w1, I x rest w → w1 = w.putObj b (.cells [strV y].toArray 9 (0, 0)) → I y rest w1)
    (hnew : ∀ x rest w w1, I x rest w → New w w1 → I x rest w1)
    (hY : ∀ p rest w, I (joinS (p :: rest)) (p :: rest) w → Yld Try.prog l0 [strV p] w fun v w' => ∃ bb : Bool, v = .bool bb ∧ (bb = true → I (joinS (p :: rest)) rest w') ∧ (bb = false → X w'))
    (h0 : I s (splitS s) w0) : Ret Try.prog 81 #[.func (.yield l0) #[] #[], ptr b] w0 fun r w' => r = .tuple #[] ∧ ((∃ x, I x [] w') ∨ X w') := by
  refine Ret.of_W Try.func81 rfl Try.ntmps81 rfl ?_
  refine W.block ?_
  refine W.loop (σ := List UInt8) (fun x => [(0, _), (1, _)]) (fun x w => I x (splitS x) w ∧ x.length ≤ 9223372036854775807) (fun x => x.length) s ⟨rfl, rfl, trivial⟩ ⟨h0, hl⟩ ?_
  rintro x w ⟨hI, hxl⟩
  refine W.block ?_
  refine W.seq ?_
  refine W.sub [(0, _), (1, _)] ⟨rfl, rfl, trivial⟩ ?_
  refine W.reg [(0, false), (1, true), (2, false), (3, false), (4, false), (5, false), (6, false), (7, false), (8, false)] (by kernel_rfl) ?_
  intro K hK
  refine x_ld rfl rfl rfl Try.underlying9 rfl rfl (cell_of (hb _ _ _ hI) rfl) ?_
  refine x_call rfl rfl rfl rfl rfl en82 (cut_c hxl) ?_
  rintro r w1 ⟨p, q, hs, rfl, hn⟩
  have hI := hnew _ _ _ _ hI hn
  have hx := joinS_split hs
  rw [hs] at hI
  subst hx
  refine ⟨trivial, ?_⟩
  refine x_move rfl rfl rfl rfl ?_
  refine x_ext rfl rfl rfl rfl rfl ?_
  refine x_ext rfl rfl rfl rfl rfl ?_
  refine x_ext rfl rfl rfl rfl rfl ?_
  refine x_assign rfl rfl rfl rfl ?_
  refine x_assign rfl rfl rfl rfl ?_
  refine x_assign rfl rfl rfl rfl ?_
  refine Ex.done (hK _ _ ?_)
  refine At.then_n ?_
  refine W.seq ?_
  refine W.seq ?_
  refine W.sub [(0, _), (1, _), (3, _), (4, _), (5, _)] ⟨rfl, rfl, rfl, rfl, rfl, trivial⟩ ?_
  refine W.reg [(0, false), (1, false), (2, true), (3, false), (4, false), (5, false), (6, false), (7, false)] (by kernel_rfl) ?_
  intro K hK
  refine x_move rfl rfl rfl rfl ?_
  refine x_move rfl rfl rfl rfl ?_
  refine x_yld rfl rfl rfl rfl rfl (hY p q w1 hI) ?_
  rintro v w2 ⟨bb, rfl, hb1, hb2⟩
  refine ⟨trivial, ?_⟩
  refine x_not _ rfl rfl rfl rfl rfl ?_
  refine x_move rfl rfl rfl rfl ?_
  refine Ex.split 16 rfl (fun hsp1 => ?_) (fun hsp1 => ?_)
  ·
    try simp only [decide_eq_true_eq, decide_eq_false_iff_not, Bool.not_eq_true', Bool.not_eq_false', beq_iff_eq, bne_iff_ne, ne_eq, Bool.not_eq_eq_eq_not, Bool.not_true, Bool.not_false, beq_eq_false_iff_ne, bne_eq_false_iff_eq, Bool.not_not, gt_iff_lt, ge_iff_le] at hsp1
    refine Ex.skip_ rfl rfl rfl ?_
    refine Ex.skip_ rfl rfl rfl ?_
    refine x_pickT rfl rfl rfl rfl rfl ?_
    refine Ex.done (hK _ _ ?_)
    refine At.then_n ?_
    refine W.condT rfl ?_
    refine W.ret ?_
    refine At.then_r ?_
    refine At.blk_r ?_
    refine At.loop_r ?_
    refine At.blk_r ?_
    refine At.ret0 rfl ?_
    exact ⟨rfl, .inr (hb2 hsp1)⟩
  ·
    try simp only [decide_eq_true_eq, decide_eq_false_iff_not, Bool.not_eq_true', Bool.not_eq_false', beq_iff_eq, bne_iff_ne, ne_eq, Bool.not_eq_eq_eq_not, Bool.not_true, Bool.not_false, beq_eq_false_iff_ne, bne_eq_false_iff_eq, Bool.not_not, gt_iff_lt, ge_iff_le] at hsp1
    refine x_move rfl rfl rfl rfl ?_
    refine x_not _ rfl rfl rfl rfl rfl ?_
    refine x_pickF rfl rfl rfl rfl rfl ?_
    refine Ex.done (hK _ _ ?_)
    refine At.then_n ?_
    refine W.cond rfl (fun hco2 => ?_) (fun hco2 => ?_)
    · try simp only [decide_eq_true_eq, decide_eq_false_iff_not, Bool.not_eq_true', Bool.not_eq_false', beq_iff_eq, bne_iff_ne, ne_eq, Bool.not_eq_eq_eq_not, Bool.not_true, Bool.not_false, beq_eq_false_iff_ne, bne_eq_false_iff_eq, Bool.not_not, gt_iff_lt, ge_iff_le] at hco2
      have hq0 : q = [] := by simpa using hco2
      subst hq0
      refine W.ret ?_
      refine At.then_r ?_
      refine At.blk_r ?_
      refine At.loop_r ?_
      refine At.blk_r ?_
      refine At.ret0 rfl ?_
      exact ⟨rfl, .inl ⟨_, hb1 (by simpa using hsp1)⟩⟩
    · try simp only [decide_eq_true_eq, decide_eq_false_iff_not, Bool.not_eq_true', Bool.not_eq_false', beq_iff_eq, bne_iff_ne, ne_eq, Bool.not_eq_eq_eq_not, Bool.not_true, Bool.not_false, beq_eq_false_iff_ne, bne_eq_false_iff_eq, Bool.not_not, gt_iff_lt, ge_iff_le] at hco2
      have hq0 : q ≠ [] := by simpa using hco2
      have hI2 := hb1 (by simpa using hsp1)
      have hjl := joinS_len (p := p) hq0
      refine W.skip ?_
      refine At.then_n ?_
      refine W.sub [(0, _), (1, _), (4, _)] ⟨rfl, rfl, rfl, trivial⟩ ?_
      refine W.reg [(0, false), (1, true)] (by kernel_rfl) ?_
      intro K hK
      refine x_move rfl rfl rfl rfl ?_
      refine x_st [_] _ rfl rfl rfl sz9 rfl rfl rfl rfl (hb _ _ _ hI2) rfl rfl rfl ?_
      intro wst1 hwst1
      have hI3 := hput _ _ _ _ _ hI2 hwst1
      refine ⟨trivial, ?_⟩
      refine Ex.done (hK _ _ ?_)
      refine At.blk_n ?_
      exact At.back (joinS q) ⟨rfl, rfl, trivial⟩ ⟨by rw [split_rest hs hq0]; exact hI3, by omega⟩ (by first | omega | (simp only; omega) | (simp; done) | (simp; omega))
end Go.Proofs.Ytccfmfehfhfhhaa

namespace Go.Proofs.Ytccfmfehfhfhhaa
open Go Go.Fw Go.RowKit Go.Proofs
set_option linter.unusedVariables false
set_option linter.unusedSimpArgs false

set_option maxRecDepth 100000 in
theorem split_c {w0 : World} {p : List UInt8}  : Ret Try.prog 59 #[strV p] w0 fun r w' => ∃ v Lr, r = .tuple #[v, .int .i64 (splitE p)] ∧ Sep w0 Lr w' ∧ StrsO Lr v (splitN p) := by
  have M : Sep w0 [] w0 := St.nil w0
  refine Ret.of_W Try.func59 rfl Try.ntmps59 rfl ?_
  refine W.seq ?_
  refine W.sub [(0, _)] ⟨rfl, trivial⟩ ?_
  refine W.reg [(0, true), (1, true)] (by kernel_rfl) ?_
  intro K hK
  refine x_alloc [_] rfl rfl rfl ze56 rfl ?_
  intro bal1 wal1 hbal1 hwal1
  have M := M.acons hbal1 hwal1
  refine ⟨trivial, ?_⟩
  refine x_alloc [_] rfl rfl rfl ze28 rfl ?_
  intro bal2 wal2 hbal2 hwal2
  have M := M.acons hbal2 hwal2
  refine ⟨trivial, ?_⟩
  refine Ex.done (hK _ _ ?_)
  refine At.then_n ?_
  refine W.seq ?_
  refine W.seq ?_
  refine W.sub [(0, _), (2, _), (3, _)] ⟨rfl, rfl, rfl, trivial⟩ ?_
  refine W.reg [(0, false), (1, false)] (by kernel_rfl) ?_
  intro K hK
  refine x_move rfl rfl rfl rfl ?_
  refine x_eqS _ rfl rfl rfl rfl rfl rfl ?_
  refine Ex.done (hK _ _ ?_)
  refine At.then_n ?_
  refine W.cond rfl (fun hco1 => ?_) (fun hco1 => ?_)
  · try simp only [decide_eq_true_eq, decide_eq_false_iff_not, Bool.not_eq_true', Bool.not_eq_false', beq_iff_eq, bne_iff_ne, ne_eq, Bool.not_eq_eq_eq_not, Bool.not_true, Bool.not_false, beq_eq_false_iff_ne, bne_eq_false_iff_eq, Bool.not_not, gt_iff_lt, ge_iff_le] at hco1
    refine W.seq ?_
    refine W.sub [(2, _), (3, _)] ⟨rfl, rfl, trivial⟩ ?_
    refine W.reg [(0, true), (1, true)] (by kernel_rfl) ?_
    intro K hK
    refine x_st [_] _ rfl rfl rfl sz56 rfl rfl rfl rfl (by first | exact M.at_ 0 rfl | exact M.at_ 1 rfl | exact M.at_ 2 rfl | exact M.at_ 3 rfl | exact M.at_ 4 rfl | exact M.at_ 5 rfl | exact M.at_ 6 rfl | exact M.at_ 7 rfl) rfl rfl rfl ?_
    intro wst1 hwst1
    have M := by first | exact M.put 0 rfl hwst1 | exact M.put 1 rfl hwst1 | exact M.put 2 rfl hwst1 | exact M.put 3 rfl hwst1 | exact M.put 4 rfl hwst1 | exact M.put 5 rfl hwst1 | exact M.put 6 rfl hwst1 | exact M.put 7 rfl hwst1
    refine ⟨trivial, ?_⟩
    refine x_st [_] _ rfl rfl rfl sz28 rfl rfl rfl rfl (by first | exact M.at_ 0 rfl | exact M.at_ 1 rfl | exact M.at_ 2 rfl | exact M.at_ 3 rfl | exact M.at_ 4 rfl | exact M.at_ 5 rfl | exact M.at_ 6 rfl | exact M.at_ 7 rfl) rfl rfl rfl ?_
    intro wst2 hwst2
    have M := by first | exact M.put 0 rfl hwst2 | exact M.put 1 rfl hwst2 | exact M.put 2 rfl hwst2 | exact M.put 3 rfl hwst2 | exact M.put 4 rfl hwst2 | exact M.put 5 rfl hwst2 | exact M.put 6 rfl hwst2 | exact M.put 7 rfl hwst2
    refine ⟨trivial, ?_⟩
    refine Ex.done (hK _ _ ?_)
    refine At.then_n ?_
    refine W.ret ?_
    refine At.then_r ?_
    refine At.ret2 (.cell 2 56) (.cell 3 28) rfl ⟨⟨_, rfl, run_loadVar1 Try.underlying56 rfl (cell_of (by first | exact M.at_ 0 rfl | exact M.at_ 1 rfl | exact M.at_ 2 rfl | exact M.at_ 3 rfl | exact M.at_ 4 rfl | exact M.at_ 5 rfl | exact M.at_ 6 rfl | exact M.at_ 7 rfl) rfl)⟩, ⟨_, rfl, run_loadVar1 Try.underlying28 rfl (cell_of (by first | exact M.at_ 0 rfl | exact M.at_ 1 rfl | exact M.at_ 2 rfl | exact M.at_ 3 rfl | exact M.at_ 4 rfl | exact M.at_ 5 rfl | exact M.at_ 6 rfl | exact M.at_ 7 rfl) rfl)⟩, trivial⟩ ?_
    subst hco1; exact ⟨_, [], rfl, M.frm, OwL.nil⟩
  · try simp only [decide_eq_true_eq, decide_eq_false_iff_not, Bool.not_eq_true', Bool.not_eq_false', beq_iff_eq, bne_iff_ne, ne_eq, Bool.not_eq_eq_eq_not, Bool.not_true, Bool.not_false, beq_eq_false_iff_ne, bne_eq_false_iff_eq, Bool.not_not, gt_iff_lt, ge_iff_le] at hco1
    refine W.skip ?_
    refine At.then_n ?_
    refine W.seq ?_
    refine W.seq ?_
    refine W.sub [(0, _), (2, _), (3, _)] ⟨rfl, rfl, rfl, trivial⟩ ?_
    refine W.reg [(0, false), (1, false), (2, false)] (by kernel_rfl) ?_
    intro K hK
    refine x_move rfl rfl rfl rfl ?_
    refine x_lenS rfl rfl rfl rfl Try.underlying9 rfl ?_
    refine x_gtr _ rfl rfl rfl rfl rfl rfl ?_
    refine Ex.done (hK _ _ ?_)
    refine At.then_n ?_
    refine W.cond rfl (fun hco2 => ?_) (fun hco2 => ?_)
    · try simp only [decide_eq_true_eq, decide_eq_false_iff_not, Bool.not_eq_true', Bool.not_eq_false', beq_iff_eq, bne_iff_ne, ne_eq, Bool.not_eq_eq_eq_not, Bool.not_true, Bool.not_false, beq_eq_false_iff_ne, bne_eq_false_iff_eq, Bool.not_not, gt_iff_lt, ge_iff_le] at hco2
      refine W.seq ?_
      refine W.sub [(2, _), (3, _)] ⟨rfl, rfl, trivial⟩ ?_
      refine W.reg [(0, true), (1, true)] (by kernel_rfl) ?_
      intro K hK
      refine x_st [_] _ rfl rfl rfl sz56 rfl rfl rfl rfl (by first | exact M.at_ 0 rfl | exact M.at_ 1 rfl | exact M.at_ 2 rfl | exact M.at_ 3 rfl | exact M.at_ 4 rfl | exact M.at_ 5 rfl | exact M.at_ 6 rfl | exact M.at_ 7 rfl) rfl rfl rfl ?_
      intro wst3 hwst3
      have M := by first | exact M.put 0 rfl hwst3 | exact M.put 1 rfl hwst3 | exact M.put 2 rfl hwst3 | exact M.put 3 rfl hwst3 | exact M.put 4 rfl hwst3 | exact M.put 5 rfl hwst3 | exact M.put 6 rfl hwst3 | exact M.put 7 rfl hwst3
      refine ⟨trivial, ?_⟩
      refine x_st [_] _ rfl rfl rfl sz28 rfl rfl rfl rfl (by first | exact M.at_ 0 rfl | exact M.at_ 1 rfl | exact M.at_ 2 rfl | exact M.at_ 3 rfl | exact M.at_ 4 rfl | exact M.at_ 5 rfl | exact M.at_ 6 rfl | exact M.at_ 7 rfl) rfl rfl rfl ?_
      intro wst4 hwst4
      have M := by first | exact M.put 0 rfl hwst4 | exact M.put 1 rfl hwst4 | exact M.put 2 rfl hwst4 | exact M.put 3 rfl hwst4 | exact M.put 4 rfl hwst4 | exact M.put 5 rfl hwst4 | exact M.put 6 rfl hwst4 | exact M.put 7 rfl hwst4
      refine ⟨trivial, ?_⟩
      refine Ex.done (hK _ _ ?_)
      refine At.then_n ?_
      refine W.ret ?_
      refine At.then_r ?_
      refine At.ret2 (.cell 2 56) (.cell 3 28) rfl ⟨⟨_, rfl, run_loadVar1 Try.underlying56 rfl (cell_of (by first | exact M.at_ 0 rfl | exact M.at_ 1 rfl | exact M.at_ 2 rfl | exact M.at_ 3 rfl | exact M.at_ 4 rfl | exact M.at_ 5 rfl | exact M.at_ 6 rfl | exact M.at_ 7 rfl) rfl)⟩, ⟨_, rfl, run_loadVar1 Try.underlying28 rfl (cell_of (by first | exact M.at_ 0 rfl | exact M.at_ 1 rfl | exact M.at_ 2 rfl | exact M.at_ 3 rfl | exact M.at_ 4 rfl | exact M.at_ 5 rfl | exact M.at_ 6 rfl | exact M.at_ 7 rfl) rfl)⟩, trivial⟩ ?_
      have h := splitE_none (splitP_long (p := p) (by omega)); exact ⟨_, [], by rw [h.1], M.frm, by rw [h.2]; exact OwL.nil⟩
    · try simp only [decide_eq_true_eq, decide_eq_false_iff_not, Bool.not_eq_true', Bool.not_eq_false', beq_iff_eq, bne_iff_ne, ne_eq, Bool.not_eq_eq_eq_not, Bool.not_true, Bool.not_false, beq_eq_false_iff_ne, bne_eq_false_iff_eq, Bool.not_not, gt_iff_lt, ge_iff_le] at hco2
      refine W.skip ?_
      refine At.then_n ?_
      refine W.seq ?_
      refine W.sub [(0, _), (2, _), (3, _)] ⟨rfl, rfl, rfl, trivial⟩ ?_
      refine W.reg [(0, true)] (by kernel_rfl) ?_
      intro K hK
      refine x_alloc [_] rfl rfl rfl ze56 rfl ?_
      intro bal3 wal3 hbal3 hwal3
      have M := M.acons hbal3 hwal3
      refine ⟨trivial, ?_⟩
      refine Ex.done (hK _ _ ?_)
      refine At.then_n ?_
      refine W.seq ?_
      refine W.seq ?_
      refine W.sub [(0, _), (2, _), (3, _), (4, _)] ⟨rfl, rfl, rfl, rfl, trivial⟩ ?_
      refine W.reg [(0, false), (1, true)] (by kernel_rfl) ?_
      intro K hK
      refine x_move rfl rfl rfl rfl ?_
      refine x_call rfl rfl rfl rfl rfl en73 (pieces_c) ?_
      rintro r wcall1 ⟨bcall1, rfl, Mcall1⟩
      have M := M.grow Mcall1
      refine ⟨trivial, ?_⟩
      refine Ex.done (hK _ _ ?_)
      refine At.then_n ?_
      refine W.block ?_
      refine W.sub [(2, _), (3, _), (4, _), (12, _)] ⟨rfl, rfl, rfl, rfl, trivial⟩ ?_
      refine W.range rfl en81 (fun rr hkt hps has hbdrng1 w2 hw2 => ?_)
      have M := M.range hw2
      refine (pieces_it (I := fun x rest w' => ∃ A ov Lo, splitS p = A ++ rest ∧ A.length ≤ 8 ∧ allOK A ∧ StrsO Lo ov A ∧ Sep w0 ([(bal3, Obj.cells [ov].toArray 56 (0, 0)), (bal2, Obj.cells [Value.int .i64 0].toArray 28 (0, 0)), (bal1, Obj.cells [Value.slice none 0 0].toArray 56 (0, 0)), (bcall1, Obj.cells [strV x].toArray 9 (0, 0)), (wcall1.heap.size, .deferred (some [])), (wcall1.heap.size + 1, .loop { rr with state := .ready, pending := none })] ++ Lo) w') (X := fun w' => ∃ x ov Lo, splitP p = none ∧ Sep w0 ([(bal3, Obj.cells [ov].toArray 56 (0, 0)), (bal2, Obj.cells [Value.int .i64 8].toArray 28 (0, 0)), (bal1, Obj.cells [Value.slice none 0 0].toArray 56 (0, 0)), (bcall1, Obj.cells [strV x].toArray 9 (0, 0)), (wcall1.heap.size, .deferred (some [])), (wcall1.heap.size + 1, .loop { rr with state := .done, pending := some .ret })] ++ Lo) w') (by omega) ?_ ?_ ?_ ?_ ⟨[], _, [], rfl, by simp, by simp [allOK], OwL.nil, by simpa using M⟩).mono ?_
      · rintro x rest w' ⟨A, ov, Lo, hsp, hA8, hAok, how, M⟩
        exact M.at_ 3 rfl
      · rintro x y rest w' w1 ⟨A, ov, Lo, hsp, hA8, hAok, how, M⟩ hw1
        have M := M.put 3 rfl hw1
        exact ⟨A, ov, Lo, hsp, hA8, hAok, how, M⟩
      · rintro x rest w' w1 ⟨A, ov, Lo, hsp, hA8, hAok, how, M⟩ hn
        have M := M.new hn
        exact ⟨A, ov, Lo, hsp, hA8, hAok, how, M⟩
      · rintro n rest w' ⟨A, ov, Lo, hsp, hA8, hAok, how, M⟩
        obtain ⟨p0, cap0, rfl⟩ := how.shape
        refine Yld.one (M.at_ 5 rfl) hkt hps rfl has ?_
        refine W.sub [(2, _), (3, _), (4, _), (13, _)] ⟨rfl, rfl, rfl, rfl, trivial⟩ ?_
        refine W.reg [(0, false)] (by kernel_rfl) ?_
        intro K hK
        refine x_assign rfl rfl rfl rfl ?_
        refine Ex.done (hK _ _ ?_)
        refine At.asg hbdrng1 (M.at_ 5 rfl) ?_
        generalize hwb : World.putObj _ _ _ = wb
        have M := M.put 5 rfl hwb.symm
        refine W.block ?_
        refine W.seq ?_
        refine W.seq ?_
        refine W.sub [(2, _), (3, _), (4, _), (5, _)] ⟨rfl, rfl, rfl, rfl, trivial⟩ ?_
        refine W.reg [(0, false), (1, true), (2, false), (3, false), (4, false), (5, false), (6, false), (7, false)] (by kernel_rfl) ?_
        intro K hK
        refine x_move rfl rfl rfl rfl ?_
        refine x_call rfl rfl rfl rfl rfl en74 (name_c) ?_
        rintro r wcall2 ⟨rfl, hncall2⟩
        have M := M.new hncall2
        refine ⟨trivial, ?_⟩
        refine x_nei _ rfl rfl rfl rfl rfl rfl ?_
        refine x_move rfl rfl rfl rfl ?_
        refine Ex.split 17 rfl (fun hsp1 => ?_) (fun hsp1 => ?_)
        ·
          try simp only [decide_eq_true_eq, decide_eq_false_iff_not, Bool.not_eq_true', Bool.not_eq_false', beq_iff_eq, bne_iff_ne, ne_eq, Bool.not_eq_eq_eq_not, Bool.not_true, Bool.not_false, beq_eq_false_iff_ne, bne_eq_false_iff_eq, Bool.not_not, gt_iff_lt, ge_iff_le] at hsp1
          refine Ex.skip_ rfl rfl rfl ?_
          refine Ex.skip_ rfl rfl rfl ?_
          refine Ex.skip_ rfl rfl rfl ?_
          refine x_pickT rfl rfl rfl rfl rfl ?_
          refine Ex.done (hK _ _ ?_)
          refine At.then_n ?_
          refine W.condT rfl ?_
          refine W.seq ?_
          refine W.sub [(2, _), (3, _)] ⟨rfl, rfl, trivial⟩ ?_
          refine W.reg [(0, true), (1, true)] (by kernel_rfl) ?_
          intro K hK
          refine x_st [_] _ rfl rfl rfl sz56 rfl rfl rfl rfl (by first | exact M.at_ 0 rfl | exact M.at_ 1 rfl | exact M.at_ 2 rfl | exact M.at_ 3 rfl | exact M.at_ 4 rfl | exact M.at_ 5 rfl | exact M.at_ 6 rfl | exact M.at_ 7 rfl) rfl rfl rfl ?_
          intro wst5 hwst5
          have M := by first | exact M.put 0 rfl hwst5 | exact M.put 1 rfl hwst5 | exact M.put 2 rfl hwst5 | exact M.put 3 rfl hwst5 | exact M.put 4 rfl hwst5 | exact M.put 5 rfl hwst5 | exact M.put 6 rfl hwst5 | exact M.put 7 rfl hwst5
          refine ⟨trivial, ?_⟩
          refine x_st [_] _ rfl rfl rfl sz28 rfl rfl rfl rfl (by first | exact M.at_ 0 rfl | exact M.at_ 1 rfl | exact M.at_ 2 rfl | exact M.at_ 3 rfl | exact M.at_ 4 rfl | exact M.at_ 5 rfl | exact M.at_ 6 rfl | exact M.at_ 7 rfl) rfl rfl rfl ?_
          intro wst6 hwst6
          have M := by first | exact M.put 0 rfl hwst6 | exact M.put 1 rfl hwst6 | exact M.put 2 rfl hwst6 | exact M.put 3 rfl hwst6 | exact M.put 4 rfl hwst6 | exact M.put 5 rfl hwst6 | exact M.put 6 rfl hwst6 | exact M.put 7 rfl hwst6
          refine ⟨trivial, ?_⟩
          refine Ex.done (hK _ _ ?_)
          refine At.then_n ?_
          refine W.ret ?_
          refine At.then_r ?_
          refine At.blk_r ?_
          refine At.rnd_r (by first | exact M.at_ 0 rfl | exact M.at_ 1 rfl | exact M.at_ 2 rfl | exact M.at_ 3 rfl | exact M.at_ 4 rfl | exact M.at_ 5 rfl | exact M.at_ 6 rfl | exact M.at_ 7 rfl) ?_
          generalize hwz : World.putObj _ _ _ = wz
          have M := M.put 5 rfl hwz.symm
          exact ⟨false, rfl, fun h => (by cases h), fun _ => ⟨_, _, Lo, splitP_bad hco1 (fun h => hsp1 (nameP_zero.2 (h.2 n (by rw [hsp]; simp)))), M⟩⟩
        ·
          try simp only [decide_eq_true_eq, decide_eq_false_iff_not, Bool.not_eq_true', Bool.not_eq_false', beq_iff_eq, bne_iff_ne, ne_eq, Bool.not_eq_eq_eq_not, Bool.not_true, Bool.not_false, beq_eq_false_iff_ne, bne_eq_false_iff_eq, Bool.not_not, gt_iff_lt, ge_iff_le] at hsp1
          refine x_ld rfl rfl rfl Try.underlying56 rfl rfl (cell_of (by first | exact M.at_ 0 rfl | exact M.at_ 1 rfl | exact M.at_ 2 rfl | exact M.at_ 3 rfl | exact M.at_ 4 rfl | exact M.at_ 5 rfl | exact M.at_ 6 rfl | exact M.at_ 7 rfl) rfl) ?_
          refine x_len rfl rfl rfl rfl Try.underlying56 rfl ?_
          refine x_eqi _ rfl rfl rfl rfl rfl rfl ?_
          refine x_pickF rfl rfl rfl rfl rfl ?_
          refine Ex.done (hK _ _ ?_)
          refine At.then_n ?_
          refine W.cond rfl (fun hco4 => ?_) (fun hco4 => ?_)
          · try simp only [decide_eq_true_eq, decide_eq_false_iff_not, Bool.not_eq_true', Bool.not_eq_false', beq_iff_eq, bne_iff_ne, ne_eq, Bool.not_eq_eq_eq_not, Bool.not_true, Bool.not_false, beq_eq_false_iff_ne, bne_eq_false_iff_eq, Bool.not_not, gt_iff_lt, ge_iff_le] at hco4
            refine W.seq ?_
            refine W.sub [(2, _), (3, _)] ⟨rfl, rfl, trivial⟩ ?_
            refine W.reg [(0, true), (1, true)] (by kernel_rfl) ?_
            intro K hK
            refine x_st [_] _ rfl rfl rfl sz56 rfl rfl rfl rfl (by first | exact M.at_ 0 rfl | exact M.at_ 1 rfl | exact M.at_ 2 rfl | exact M.at_ 3 rfl | exact M.at_ 4 rfl | exact M.at_ 5 rfl | exact M.at_ 6 rfl | exact M.at_ 7 rfl) rfl rfl rfl ?_
            intro wst7 hwst7
            have M := by first | exact M.put 0 rfl hwst7 | exact M.put 1 rfl hwst7 | exact M.put 2 rfl hwst7 | exact M.put 3 rfl hwst7 | exact M.put 4 rfl hwst7 | exact M.put 5 rfl hwst7 | exact M.put 6 rfl hwst7 | exact M.put 7 rfl hwst7
            refine ⟨trivial, ?_⟩
            refine x_st [_] _ rfl rfl rfl sz28 rfl rfl rfl rfl (by first | exact M.at_ 0 rfl | exact M.at_ 1 rfl | exact M.at_ 2 rfl | exact M.at_ 3 rfl | exact M.at_ 4 rfl | exact M.at_ 5 rfl | exact M.at_ 6 rfl | exact M.at_ 7 rfl) rfl rfl rfl ?_
            intro wst8 hwst8
            have M := by first | exact M.put 0 rfl hwst8 | exact M.put 1 rfl hwst8 | exact M.put 2 rfl hwst8 | exact M.put 3 rfl hwst8 | exact M.put 4 rfl hwst8 | exact M.put 5 rfl hwst8 | exact M.put 6 rfl hwst8 | exact M.put 7 rfl hwst8
            refine ⟨trivial, ?_⟩
            refine Ex.done (hK _ _ ?_)
            refine At.then_n ?_
            refine W.ret ?_
            refine At.then_r ?_
            refine At.blk_r ?_
            refine At.rnd_r (by first | exact M.at_ 0 rfl | exact M.at_ 1 rfl | exact M.at_ 2 rfl | exact M.at_ 3 rfl | exact M.at_ 4 rfl | exact M.at_ 5 rfl | exact M.at_ 6 rfl | exact M.at_ 7 rfl) ?_
            generalize hwz : World.putObj _ _ _ = wz
            have M := M.put 5 rfl hwz.symm
            exact ⟨false, rfl, fun h => (by cases h), fun _ => ⟨_, _, Lo, splitP_bad hco1 (fun h => by have := h.1; rw [hsp] at this; simp at this; omega), M⟩⟩
          · try simp only [decide_eq_true_eq, decide_eq_false_iff_not, Bool.not_eq_true', Bool.not_eq_false', beq_iff_eq, bne_iff_ne, ne_eq, Bool.not_eq_eq_eq_not, Bool.not_true, Bool.not_false, beq_eq_false_iff_ne, bne_eq_false_iff_eq, Bool.not_not, gt_iff_lt, ge_iff_le] at hco4
            refine W.skip ?_
            refine At.then_n ?_
            refine W.sub [(4, _), (5, _)] ⟨rfl, rfl, trivial⟩ ?_
            refine W.reg [(0, false), (1, false), (2, true), (3, true), (4, true)] (by kernel_rfl) ?_
            intro K hK
            refine x_ld rfl rfl rfl Try.underlying56 rfl rfl (cell_of (by first | exact M.at_ 0 rfl | exact M.at_ 1 rfl | exact M.at_ 2 rfl | exact M.at_ 3 rfl | exact M.at_ 4 rfl | exact M.at_ 5 rfl | exact M.at_ 6 rfl | exact M.at_ 7 rfl) rfl) ?_
            refine x_move rfl rfl rfl rfl ?_
            refine x_bs1 (cs := [strV n]) rfl rfl rfl Try.underlying56 sz9 ze9 (Z := [_]) rfl rfl (by decide) (by decide) rfl rfl rfl ?_
            intro bbs1 wbs1 hbbs1 hwbs1
            have M0 := M.acons hbbs1 hwbs1
            have hslbs1 : Sl wbs1 (.slice (some ⟨bbs1, 0, none⟩) 1 1) 1 1 [strV n] := .inr ⟨bbs1, 0, 1, _, _, _, rfl, by omega, M0.at_ 0 rfl, rfl, rfl⟩
            have M := M0.tail
            refine ⟨trivial, ?_⟩
            refine x_apL rfl rfl rfl rfl Try.underlying56 sz9 ze9 rfl by9 rfl rfl how (M.perm (List.perm_append_comm (l₁ := [_, _, _, _, _, _]) (l₂ := Lo))) (strCs_one _) (hslbs1.src Try.underlying56 (by intro u hu; simp at hu; subst hu; rfl)) (by first | omega | (simp; omega)) (by decide) (by first | omega | (simp; omega)) ?_
            intro Lo v6 wap1 how M
            have M := M.perm List.perm_append_comm
            obtain ⟨p6, cap6, rfl⟩ := how.shape
            refine ⟨trivial, ?_⟩
            refine x_st [_] _ rfl rfl rfl sz56 rfl rfl rfl rfl (by first | exact M.at_ 0 rfl | exact M.at_ 1 rfl | exact M.at_ 2 rfl | exact M.at_ 3 rfl | exact M.at_ 4 rfl | exact M.at_ 5 rfl | exact M.at_ 6 rfl | exact M.at_ 7 rfl) rfl rfl rfl ?_
            intro wst9 hwst9
            have M := by first | exact M.put 0 rfl hwst9 | exact M.put 1 rfl hwst9 | exact M.put 2 rfl hwst9 | exact M.put 3 rfl hwst9 | exact M.put 4 rfl hwst9 | exact M.put 5 rfl hwst9 | exact M.put 6 rfl hwst9 | exact M.put 7 rfl hwst9
            refine ⟨trivial, ?_⟩
            refine Ex.done (hK _ _ ?_)
            refine At.blk_n ?_
            refine At.rnd_n (by first | exact M.at_ 0 rfl | exact M.at_ 1 rfl | exact M.at_ 2 rfl | exact M.at_ 3 rfl | exact M.at_ 4 rfl | exact M.at_ 5 rfl | exact M.at_ 6 rfl | exact M.at_ 7 rfl) ?_
            generalize hwz : World.putObj _ _ _ = wz
            have M := M.put 5 rfl hwz.symm
            have hnz : nameOK n := nameP_zero.1 (by simpa using hsp1)
            refine ⟨true, rfl, fun _ => ⟨A ++ [n], _, Lo, by rw [hsp]; simp, by simp; omega, fun x hx => ?_, strsO_snoc how, M⟩, fun h => (by cases h)⟩
            rcases List.mem_append.1 hx with h | h
            · exact hAok x h
            · simp at h; subst h; exact hnz
      · rintro v w3 ⟨rfl, ⟨x, ⟨A, ov, Lo, hsp, hA8, hAok, how, M⟩⟩ | HX⟩
        · refine .inl ⟨.ready, by simp, M.at_ 5 rfl, ?_⟩
          generalize hwx : World.putObj _ _ _ = w4
          have M := M.put 5 rfl hwx.symm
          simp only [List.append_nil] at hsp
          have hgood := splitP_good hco1 (by omega) (by rw [hsp]; exact ⟨hA8, hAok⟩)
          have hE := splitE_some hgood
          obtain ⟨p0, cap0, rfl⟩ := how.shape
          refine At.blk_n ?_
          refine At.then_n ?_
          refine W.seq ?_
          refine W.sub [(2, _), (3, _), (4, _)] ⟨rfl, rfl, rfl, trivial⟩ ?_
          refine W.reg [(0, false), (1, true), (2, true)] (by kernel_rfl) ?_
          intro K hK
          refine x_ld rfl rfl rfl Try.underlying56 rfl rfl (cell_of (by first | exact M.at_ 0 rfl | exact M.at_ 1 rfl | exact M.at_ 2 rfl | exact M.at_ 3 rfl | exact M.at_ 4 rfl | exact M.at_ 5 rfl | exact M.at_ 6 rfl | exact M.at_ 7 rfl) rfl) ?_
          refine x_st [_] _ rfl rfl rfl sz56 rfl rfl rfl rfl (by first | exact M.at_ 0 rfl | exact M.at_ 1 rfl | exact M.at_ 2 rfl | exact M.at_ 3 rfl | exact M.at_ 4 rfl | exact M.at_ 5 rfl | exact M.at_ 6 rfl | exact M.at_ 7 rfl) rfl rfl rfl ?_
          intro wst10 hwst10
          have M := by first | exact M.put 0 rfl hwst10 | exact M.put 1 rfl hwst10 | exact M.put 2 rfl hwst10 | exact M.put 3 rfl hwst10 | exact M.put 4 rfl hwst10 | exact M.put 5 rfl hwst10 | exact M.put 6 rfl hwst10 | exact M.put 7 rfl hwst10
          refine ⟨trivial, ?_⟩
          refine x_st [_] _ rfl rfl rfl sz28 rfl rfl rfl rfl (by first | exact M.at_ 0 rfl | exact M.at_ 1 rfl | exact M.at_ 2 rfl | exact M.at_ 3 rfl | exact M.at_ 4 rfl | exact M.at_ 5 rfl | exact M.at_ 6 rfl | exact M.at_ 7 rfl) rfl rfl rfl ?_
          intro wst11 hwst11
          have M := by first | exact M.put 0 rfl hwst11 | exact M.put 1 rfl hwst11 | exact M.put 2 rfl hwst11 | exact M.put 3 rfl hwst11 | exact M.put 4 rfl hwst11 | exact M.put 5 rfl hwst11 | exact M.put 6 rfl hwst11 | exact M.put 7 rfl hwst11
          refine ⟨trivial, ?_⟩
          refine Ex.done (hK _ _ ?_)
          refine At.then_n ?_
          refine W.ret ?_
          refine At.mark (M.at_ 4 rfl) ?_
          generalize hwy : World.putObj _ _ _ = w5
          have M := M.put 4 rfl hwy.symm
          refine At.ret2 (.cell 2 56) (.cell 3 28) rfl ⟨⟨_, rfl, run_loadVar1 Try.underlying56 rfl (cell_of (by first | exact M.at_ 0 rfl | exact M.at_ 1 rfl | exact M.at_ 2 rfl | exact M.at_ 3 rfl | exact M.at_ 4 rfl | exact M.at_ 5 rfl | exact M.at_ 6 rfl | exact M.at_ 7 rfl) rfl)⟩, ⟨_, rfl, run_loadVar1 Try.underlying28 rfl (cell_of (by first | exact M.at_ 0 rfl | exact M.at_ 1 rfl | exact M.at_ 2 rfl | exact M.at_ 3 rfl | exact M.at_ 4 rfl | exact M.at_ 5 rfl | exact M.at_ 6 rfl | exact M.at_ 7 rfl) rfl)⟩, trivial⟩ ?_
          rw [hsp] at hE; exact ⟨_, Lo, by rw [hE.1], (M.sub (List.sublist_append_right [_, _, _, _, _, _] Lo)), by rw [hE.2]; exact how⟩
        · obtain ⟨x, ov, Lo, hbad, M⟩ := HX
          have hE := splitE_none hbad
          refine .inr ⟨.done, _, by simp, M.at_ 5 rfl, ?_⟩
          generalize hwx : World.putObj _ _ _ = w4
          have M := M.put 5 rfl hwx.symm
          refine W.ret ?_
          refine At.blk_r ?_
          refine At.then_r ?_
          refine At.mark (M.at_ 4 rfl) ?_
          generalize hwy : World.putObj _ _ _ = w5
          have M := M.put 4 rfl hwy.symm
          refine At.ret2 (.cell 2 56) (.cell 3 28) rfl ⟨⟨_, rfl, run_loadVar1 Try.underlying56 rfl (cell_of (by first | exact M.at_ 0 rfl | exact M.at_ 1 rfl | exact M.at_ 2 rfl | exact M.at_ 3 rfl | exact M.at_ 4 rfl | exact M.at_ 5 rfl | exact M.at_ 6 rfl | exact M.at_ 7 rfl) rfl)⟩, ⟨_, rfl, run_loadVar1 Try.underlying28 rfl (cell_of (by first | exact M.at_ 0 rfl | exact M.at_ 1 rfl | exact M.at_ 2 rfl | exact M.at_ 3 rfl | exact M.at_ 4 rfl | exact M.at_ 5 rfl | exact M.at_ 6 rfl | exact M.at_ 7 rfl) rfl)⟩, trivial⟩ ?_
          exact ⟨_, [], by rw [hE.1], M.frm, by rw [hE.2]; exact OwL.nil⟩
end Go.Proofs.Ytccfmfehfhfhhaa

namespace Go.Proofs.Ytccfmfehfhfhhaa
open Go Go.Fw Go.RowKit Go.Proofs
set_option linter.unusedVariables false
set_option linter.unusedSimpArgs false

set_option maxRecDepth 100000 in
set_option maxHeartbeats 1000000 in
theorem rpieces_c {w0 : World} {s : List UInt8} (hl : s.length ≤ 1099511627776) : Ret Try.prog 61 #[strV s] w0 fun r w' => ∃ Lr, Sep w0 Lr w' ∧ StrsO Lr r (splitS s) := by
  have M : Sep w0 [] w0 := St.nil w0
  refine Ret.of_W Try.func61 rfl Try.ntmps61 rfl ?_
  refine W.seq ?_
  refine W.sub [(0, _)] ⟨rfl, trivial⟩ ?_
  refine W.reg [(0, false)] (by kernel_rfl) ?_
  intro K hK
  refine x_assign rfl rfl rfl rfl ?_
  refine Ex.done (hK _ _ ?_)
  refine At.then_n ?_
  refine W.seq ?_
  refine W.sub [(0, _)] ⟨rfl, trivial⟩ ?_
  refine W.reg [(0, false)] (by kernel_rfl) ?_
  intro K hK
  refine x_assign rfl rfl rfl rfl ?_
  refine Ex.done (hK _ _ ?_)
  refine At.then_n ?_
  refine W.seq ?_
  refine W.sub [(0, _), (3, _)] ⟨rfl, rfl, trivial⟩ ?_
  refine W.reg [(0, false)] (by kernel_rfl) ?_
  intro K hK
  refine x_assign rfl rfl rfl rfl ?_
  refine Ex.done (hK _ _ ?_)
  refine At.then_n ?_
  refine W.seq ?_
  refine W.seq ?_
  refine W.sub [(0, _), (3, _), (4, _)] ⟨rfl, rfl, rfl, trivial⟩ ?_
  refine W.reg [(0, false)] (by kernel_rfl) ?_
  intro K hK
  refine x_assign rfl rfl rfl rfl ?_
  refine Ex.done (hK _ _ ?_)
  refine At.then_n ?_
  refine W.block ?_
  refine W.loop (σ := Nat × Nat × Value) (fun s0 => [(0, _), (3, s0.2.2), (4, .int .i64 ((s0.2.1 : Nat) : Int)), (5, .int .i64 ((s0.1 : Nat) : Int))]) (fun s0 w => s0.1 ≤ s.length + 1 ∧ s0.2.1 ≤ s.length + 1 ∧ ∃ A Lo, PInv s s0.1 s0.2.1 A ∧ StrsO Lo s0.2.2 A ∧ Sep w0 ([] ++ Lo) w) (fun s0 => s.length + 1 - s0.1) (0, 0, .slice none 0 0) ⟨rfl, rfl, rfl, rfl, trivial⟩ ⟨by simp, by simp, [], [], PInv.zero s, OwL.nil, M⟩ ?_
  rintro ⟨i, q, ov⟩ w ⟨hi, hq, A, Lo, hP, how, M⟩
  simp only at hi hq hP how ⊢
  have hAl := hP.1
  refine W.seq ?_
  refine W.seq ?_
  refine W.sub [(0, _), (3, _), (4, _), (5, _)] ⟨rfl, rfl, rfl, rfl, trivial⟩ ?_
  refine W.reg [(0, false), (1, false), (2, false), (3, false)] (by kernel_rfl) ?_
  intro K hK
  refine x_move rfl rfl rfl rfl ?_
  refine x_move rfl rfl rfl rfl ?_
  refine x_lenS rfl rfl rfl rfl Try.underlying9 rfl ?_
  refine x_leq _ rfl rfl rfl rfl rfl rfl ?_
  refine Ex.done (hK _ _ ?_)
  refine At.then_n ?_
  refine W.cond rfl (fun hco1 => ?_) (fun hco1 => ?_)
  · try simp only [decide_eq_true_eq, decide_eq_false_iff_not, Bool.not_eq_true', Bool.not_eq_false', beq_iff_eq, bne_iff_ne, ne_eq, Bool.not_eq_eq_eq_not, Bool.not_true, Bool.not_false, beq_eq_false_iff_ne, bne_eq_false_iff_eq, Bool.not_not, gt_iff_lt, ge_iff_le] at hco1
    refine W.skip ?_
    refine At.then_n ?_
    refine W.seq ?_
    refine W.block ?_
    refine W.seq ?_
    refine W.sub [(0, _), (3, _), (4, _), (5, _)] ⟨rfl, rfl, rfl, rfl, trivial⟩ ?_
    refine W.reg [(0, false), (1, false), (2, false), (3, false), (4, false), (5, false), (6, false), (7, false), (8, false), (9, false)] (by kernel_rfl) ?_
    intro K hK
    refine x_move rfl rfl rfl rfl ?_
    refine x_move rfl rfl rfl rfl ?_
    refine x_lenS rfl rfl rfl rfl Try.underlying9 rfl ?_
    refine x_eqi _ rfl rfl rfl rfl rfl rfl ?_
    refine x_move rfl rfl rfl rfl ?_
    refine Ex.split 16 rfl (fun hsp1 => ?_) (fun hsp1 => ?_)
    ·
      try simp only [decide_eq_true_eq, decide_eq_false_iff_not, Bool.not_eq_true', Bool.not_eq_false', beq_iff_eq, bne_iff_ne, ne_eq, Bool.not_eq_eq_eq_not, Bool.not_true, Bool.not_false, beq_eq_false_iff_ne, bne_eq_false_iff_eq, Bool.not_not, gt_iff_lt, ge_iff_le] at hsp1
      have hie : i = s.length := by omega
      subst hie
      obtain ⟨hqi, hP2⟩ := hP.last
      refine Ex.skip_ rfl rfl rfl ?_
      refine Ex.skip_ rfl rfl rfl ?_
      refine Ex.skip_ rfl rfl rfl ?_
      refine Ex.skip_ rfl rfl rfl ?_
      refine x_pickT rfl rfl rfl rfl rfl ?_
      refine Ex.done (hK _ _ ?_)
      refine At.then_n ?_
      refine W.condT rfl ?_
      refine W.seq ?_
      refine W.sub [(0, _), (3, _), (4, _), (5, _)] ⟨rfl, rfl, rfl, rfl, trivial⟩ ?_
      refine W.reg [(0, false), (1, false), (2, false), (3, false), (4, false), (5, true), (6, true), (7, false)] (by kernel_rfl) ?_
      intro K hK
      refine x_move rfl rfl rfl rfl ?_
      refine x_move rfl rfl rfl rfl ?_
      refine x_move rfl rfl rfl rfl ?_
      refine x_move rfl rfl rfl rfl ?_
      refine x_sslhS q s.length rfl rfl rfl Try.underlying9 rfl rfl rfl rfl rfl hqi (Nat.le_refl _) ?_
      refine x_bs1 (cs := [strV ((s.drop q).take (s.length - q))]) rfl rfl rfl Try.underlying56 sz9 ze9 (Z := [_]) rfl rfl (by decide) (by decide) rfl rfl rfl ?_
      intro bbs1 wbs1 hbbs1 hwbs1
      have M0 := M.acons hbbs1 hwbs1
      have hslbs1 : Sl wbs1 (.slice (some ⟨bbs1, 0, none⟩) 1 1) 1 1 [strV ((s.drop q).take (s.length - q))] := .inr ⟨bbs1, 0, 1, _, _, _, rfl, by omega, M0.at_ 0 rfl, rfl, rfl⟩
      have M := M0.tail
      refine ⟨trivial, ?_⟩
      refine x_apL rfl rfl rfl rfl Try.underlying56 sz9 ze9 rfl by9 rfl rfl how (M.perm (List.perm_append_comm (l₁ := []) (l₂ := Lo))) (strCs_one _) (hslbs1.src Try.underlying56 (by intro u hu; simp at hu; subst hu; rfl)) (by omega) (by decide) (by omega) ?_
      intro Lo v6 wap1 how M
      have M := M.perm List.perm_append_comm
      refine ⟨trivial, ?_⟩
      refine x_assign rfl rfl rfl rfl ?_
      refine Ex.done (hK _ _ ?_)
      refine At.then_n ?_
      refine W.sub [(0, _), (3, _), (5, _)] ⟨rfl, rfl, rfl, trivial⟩ ?_
      refine W.reg [(0, false), (1, false), (2, false)] (by kernel_rfl) ?_
      intro K hK
      refine x_move rfl rfl rfl rfl ?_
      refine x_add ((s.length + 1 : Nat) : Int) rfl rfl rfl rfl rfl (by rw [w64 (by omega) (by omega)]; simp) ?_
      refine x_assign rfl rfl rfl rfl ?_
      refine Ex.done (hK _ _ ?_)
      refine At.blk_n ?_
      refine At.then_n ?_
      refine W.sub [(0, _), (3, _), (4, _), (5, _)] ⟨rfl, rfl, rfl, rfl, trivial⟩ ?_
      refine W.reg [(0, false), (1, false), (2, false)] (by kernel_rfl) ?_
      intro K hK
      refine x_move rfl rfl rfl rfl ?_
      refine x_add ((s.length + 1 : Nat) : Int) rfl rfl rfl rfl rfl (by rw [w64 (by omega) (by omega)]; simp) ?_
      refine x_assign rfl rfl rfl rfl ?_
      refine Ex.done (hK _ _ ?_)
      exact At.back ((s.length + 1, s.length + 1, v6)) ⟨rfl, rfl, rfl, rfl, trivial⟩ ⟨by simp, by simp, _, _, hP2, strsO_snoc how, M⟩ (by first | omega | (simp only; omega) | (simp; done) | (simp; omega))
    ·
      try simp only [decide_eq_true_eq, decide_eq_false_iff_not, Bool.not_eq_true', Bool.not_eq_false', beq_iff_eq, bne_iff_ne, ne_eq, Bool.not_eq_eq_eq_not, Bool.not_true, Bool.not_false, beq_eq_false_iff_ne, bne_eq_false_iff_eq, Bool.not_not, gt_iff_lt, ge_iff_le] at hsp1
      have hlt : i < s.length := by omega
      obtain ⟨c, hc⟩ : ∃ c, s[i]? = some c := ⟨s[i], List.getElem?_eq_getElem hlt⟩
      refine x_move rfl rfl rfl rfl ?_
      refine x_move rfl rfl rfl rfl ?_
      refine x_ixS i rfl rfl rfl Try.underlying9 rfl rfl rfl hc ?_
      refine x_eqi _ rfl rfl rfl rfl rfl rfl ?_
      refine x_pickF rfl rfl rfl rfl rfl ?_
      refine Ex.done (hK _ _ ?_)
      refine At.then_n ?_
      refine W.cond rfl (fun hco3 => ?_) (fun hco3 => ?_)
      · try simp only [decide_eq_true_eq, decide_eq_false_iff_not, Bool.not_eq_true', Bool.not_eq_false', beq_iff_eq, bne_iff_ne, ne_eq, Bool.not_eq_eq_eq_not, Bool.not_true, Bool.not_false, beq_eq_false_iff_ne, bne_eq_false_iff_eq, Bool.not_not, gt_iff_lt, ge_iff_le] at hco3
        have hc47 : c = 47 := c47 hco3
        subst hc47
        obtain ⟨hqi, hP2⟩ := hP.slash hc
        refine W.seq ?_
        refine W.sub [(0, _), (3, _), (4, _), (5, _)] ⟨rfl, rfl, rfl, rfl, trivial⟩ ?_
        refine W.reg [(0, false), (1, false), (2, false), (3, false), (4, false), (5, true), (6, true), (7, false)] (by kernel_rfl) ?_
        intro K hK
        refine x_move rfl rfl rfl rfl ?_
        refine x_move rfl rfl rfl rfl ?_
        refine x_move rfl rfl rfl rfl ?_
        refine x_move rfl rfl rfl rfl ?_
        refine x_sslhS q i rfl rfl rfl Try.underlying9 rfl rfl rfl rfl rfl hqi (by omega) ?_
        refine x_bs1 (cs := [strV ((s.drop q).take (i - q))]) rfl rfl rfl Try.underlying56 sz9 ze9 (Z := [_]) rfl rfl (by decide) (by decide) rfl rfl rfl ?_
        intro bbs2 wbs2 hbbs2 hwbs2
        have M0 := M.acons hbbs2 hwbs2
        have hslbs2 : Sl wbs2 (.slice (some ⟨bbs2, 0, none⟩) 1 1) 1 1 [strV ((s.drop q).take (i - q))] := .inr ⟨bbs2, 0, 1, _, _, _, rfl, by omega, M0.at_ 0 rfl, rfl, rfl⟩
        have M := M0.tail
        refine ⟨trivial, ?_⟩
        refine x_apL rfl rfl rfl rfl Try.underlying56 sz9 ze9 rfl by9 rfl rfl how (M.perm (List.perm_append_comm (l₁ := []) (l₂ := Lo))) (strCs_one _) (hslbs2.src Try.underlying56 (by intro u hu; simp at hu; subst hu; rfl)) (by omega) (by decide) (by omega) ?_
        intro Lo v6 wap2 how M
        have M := M.perm List.perm_append_comm
        refine ⟨trivial, ?_⟩
        refine x_assign rfl rfl rfl rfl ?_
        refine Ex.done (hK _ _ ?_)
        refine At.then_n ?_
        refine W.sub [(0, _), (3, _), (5, _)] ⟨rfl, rfl, rfl, trivial⟩ ?_
        refine W.reg [(0, false), (1, false), (2, false)] (by kernel_rfl) ?_
        intro K hK
        refine x_move rfl rfl rfl rfl ?_
        refine x_add ((i + 1 : Nat) : Int) rfl rfl rfl rfl rfl (by rw [w64 (by omega) (by omega)]; simp) ?_
        refine x_assign rfl rfl rfl rfl ?_
        refine Ex.done (hK _ _ ?_)
        refine At.blk_n ?_
        refine At.then_n ?_
        refine W.sub [(0, _), (3, _), (4, _), (5, _)] ⟨rfl, rfl, rfl, rfl, trivial⟩ ?_
        refine W.reg [(0, false), (1, false), (2, false)] (by kernel_rfl) ?_
        intro K hK
        refine x_move rfl rfl rfl rfl ?_
        refine x_add ((i + 1 : Nat) : Int) rfl rfl rfl rfl rfl (by rw [w64 (by omega) (by omega)]; simp) ?_
        refine x_assign rfl rfl rfl rfl ?_
        refine Ex.done (hK _ _ ?_)
        exact At.back ((i + 1, i + 1, v6)) ⟨rfl, rfl, rfl, rfl, trivial⟩ ⟨by simp; omega, by simp; omega, _, _, hP2, strsO_snoc how, M⟩ (by first | omega | (simp only; omega) | (simp; done) | (simp; omega))
      · try simp only [decide_eq_true_eq, decide_eq_false_iff_not, Bool.not_eq_true', Bool.not_eq_false', beq_iff_eq, bne_iff_ne, ne_eq, Bool.not_eq_eq_eq_not, Bool.not_true, Bool.not_false, beq_eq_false_iff_ne, bne_eq_false_iff_eq, Bool.not_not, gt_iff_lt, ge_iff_le] at hco3
        have hc47 : c ≠ 47 := fun e => by subst e; simp at hco3
        refine W.skip ?_
        refine At.blk_n ?_
        refine At.then_n ?_
        refine W.sub [(0, _), (3, _), (4, _), (5, _)] ⟨rfl, rfl, rfl, rfl, trivial⟩ ?_
        refine W.reg [(0, false), (1, false), (2, false)] (by kernel_rfl) ?_
        intro K hK
        refine x_move rfl rfl rfl rfl ?_
        refine x_add ((i + 1 : Nat) : Int) rfl rfl rfl rfl rfl (by rw [w64 (by omega) (by omega)]; simp) ?_
        refine x_assign rfl rfl rfl rfl ?_
        refine Ex.done (hK _ _ ?_)
        exact At.back ((i + 1, q, ov)) ⟨rfl, rfl, rfl, rfl, trivial⟩ ⟨by simp; omega, by simpa using hq, _, _, hP.other hc hc47, how, M⟩ (by first | omega | (simp only; omega) | (simp; done) | (simp; omega))
  · try simp only [decide_eq_true_eq, decide_eq_false_iff_not, Bool.not_eq_true', Bool.not_eq_false', beq_iff_eq, bne_iff_ne, ne_eq, Bool.not_eq_eq_eq_not, Bool.not_true, Bool.not_false, beq_eq_false_iff_ne, bne_eq_false_iff_eq, Bool.not_not, gt_iff_lt, ge_iff_le] at hco1
    refine W.exit ?_
    refine At.then_x ?_
    refine At.loop_x ?_
    refine At.blk_x ?_
    refine At.then_n ?_
    refine W.seq ?_
    refine W.sub [(3, _)] ⟨rfl, trivial⟩ ?_
    refine W.reg [(0, false), (1, false)] (by kernel_rfl) ?_
    intro K hK
    refine x_move rfl rfl rfl rfl ?_
    refine x_assign rfl rfl rfl rfl ?_
    refine Ex.done (hK _ _ ?_)
    refine At.then_n ?_
    refine W.ret ?_
    refine At.ret1 (.tmp 2) rfl ⟨rfl, trivial⟩ ?_
    exact ⟨Lo, M, by rw [hP.done (by omega)]; exact how⟩
end Go.Proofs.Ytccfmfehfhfhhaa

namespace Go.Proofs.Ytccfmfehfhfhhaa
open Go Go.Fw Go.RowKit Go.Proofs
set_option linter.unusedVariables false
set_option linter.unusedSimpArgs false

set_option maxRecDepth 100000 in
theorem rtext_c {w0 : World} {v : Value} {l : List (List UInt8)} (h : StrsAt w0 v l) (hl : l.length ≤ 100) (hb : ∀ x ∈ l, x.length ≤ 100000) : Ret Try.prog 36 #[v] w0 fun r w' => r = strV (joinS l) ∧ New w0 w' := by
  have M : Sep w0 [] w0 := St.nil w0
  obtain ⟨p, cap, rfl⟩ := h.shape
  refine Ret.of_W Try.func36 rfl Try.ntmps36 rfl ?_
  refine W.seq ?_
  refine W.sub [(0, _)] ⟨rfl, trivial⟩ ?_
  refine W.reg [(0, false)] (by kernel_rfl) ?_
  intro K hK
  refine x_assign rfl rfl rfl rfl ?_
  refine Ex.done (hK _ _ ?_)
  refine At.then_n ?_
  refine W.seq ?_
  refine W.sub [(0, _)] ⟨rfl, trivial⟩ ?_
  refine W.reg [(0, false)] (by kernel_rfl) ?_
  intro K hK
  refine x_assign rfl rfl rfl rfl ?_
  refine Ex.done (hK _ _ ?_)
  refine At.then_n ?_
  refine W.seq ?_
  refine W.seq ?_
  refine W.sub [(0, _), (3, _)] ⟨rfl, rfl, trivial⟩ ?_
  refine W.reg [(0, false)] (by kernel_rfl) ?_
  intro K hK
  refine x_assign rfl rfl rfl rfl ?_
  refine Ex.done (hK _ _ ?_)
  refine At.then_n ?_
  refine W.block ?_
  refine W.loop (σ := Nat) (fun q => [(0, _), (3, strV (joinS (l.take q))), (4, .int .i64 ((q : Nat) : Int))]) (fun q w => q ≤ l.length ∧ Sep w0 [] w) (fun q => l.length - q) 0 ⟨rfl, rfl, rfl, trivial⟩ ⟨Nat.zero_le _, M⟩ ?_
  rintro q w ⟨hq, M⟩
  have hjl := joinS_le (l := l.take q) (k := 100000) (fun x hx => hb x (List.mem_of_mem_take hx))
  have hjl2 : (joinS (l.take q)).length ≤ 10000100 := by
    rw [List.length_take] at hjl
    have : min q l.length ≤ 100 := by omega
    omega
  refine W.seq ?_
  refine W.seq ?_
  refine W.sub [(0, _), (3, _), (4, _)] ⟨rfl, rfl, rfl, trivial⟩ ?_
  refine W.reg [(0, false), (1, false), (2, false), (3, false)] (by kernel_rfl) ?_
  intro K hK
  refine x_move rfl rfl rfl rfl ?_
  refine x_move rfl rfl rfl rfl ?_
  refine x_len rfl rfl rfl rfl Try.underlying56 rfl ?_
  refine x_lss _ rfl rfl rfl rfl rfl rfl ?_
  refine Ex.done (hK _ _ ?_)
  refine At.then_n ?_
  refine W.cond rfl (fun hco1 => ?_) (fun hco1 => ?_)
  · try simp only [decide_eq_true_eq, decide_eq_false_iff_not, Bool.not_eq_true', Bool.not_eq_false', beq_iff_eq, bne_iff_ne, ne_eq, Bool.not_eq_eq_eq_not, Bool.not_true, Bool.not_false, beq_eq_false_iff_ne, bne_eq_false_iff_eq, Bool.not_not, gt_iff_lt, ge_iff_le] at hco1
    obtain ⟨x, hx⟩ := get_lt (l := l) (q := q) (by omega)
    obtain ⟨bk, off, rfl, _⟩ := (h.new M.frm).blk (j := q) (by omega)
    have hxl := hb x (List.mem_of_getElem? hx)
    have htk : joinS (l.take (q + 1)) = _ := (congrArg joinS (take_snoc hx)).trans (joinS_snoc _ _)
    refine W.skip ?_
    refine At.then_n ?_
    refine W.seq ?_
    refine W.block ?_
    refine W.seq ?_
    refine W.seq ?_
    refine W.sub [(0, _), (3, _), (4, _)] ⟨rfl, rfl, rfl, trivial⟩ ?_
    refine W.reg [(0, false), (1, false)] (by kernel_rfl) ?_
    intro K hK
    refine x_move rfl rfl rfl rfl ?_
    refine x_gtr _ rfl rfl rfl rfl rfl rfl ?_
    refine Ex.done (hK _ _ ?_)
    refine At.then_n ?_
    refine W.cond rfl (fun hco2 => ?_) (fun hco2 => ?_)
    · try simp only [decide_eq_true_eq, decide_eq_false_iff_not, Bool.not_eq_true', Bool.not_eq_false', beq_iff_eq, bne_iff_ne, ne_eq, Bool.not_eq_eq_eq_not, Bool.not_true, Bool.not_false, beq_eq_false_iff_ne, bne_eq_false_iff_eq, Bool.not_not, gt_iff_lt, ge_iff_le] at hco2
      refine W.sub [(0, _), (3, _), (4, _)] ⟨rfl, rfl, rfl, trivial⟩ ?_
      refine W.reg [(0, false), (1, false), (2, false)] (by kernel_rfl) ?_
      intro K hK
      refine x_move rfl rfl rfl rfl ?_
      refine x_catS rfl rfl rfl rfl rfl (by first | omega | (simp; omega)) ?_
      refine x_assign rfl rfl rfl rfl ?_
      refine Ex.done (hK _ _ ?_)
      refine At.then_n ?_
      refine W.sub [(0, _), (3, _), (4, _)] ⟨rfl, rfl, rfl, trivial⟩ ?_
      refine W.reg [(0, false), (1, false), (2, false), (3, false), (4, false), (5, false), (6, false)] (by kernel_rfl) ?_
      intro K hK
      refine x_move rfl rfl rfl rfl ?_
      refine x_move rfl rfl rfl rfl ?_
      refine x_move rfl rfl rfl rfl ?_
      refine x_ia q rfl rfl rfl Try.underlying56 sz9 rfl rfl rfl (by omega) ?_
      refine x_ld rfl rfl rfl Try.underlying9 rfl rfl (StrsAt.cell (h.new M.frm) hx) ?_
      refine x_catS rfl rfl rfl rfl rfl (by first | omega | (simp; omega)) ?_
      refine x_assign rfl rfl rfl rfl ?_
      refine Ex.done (hK _ _ ?_)
      refine At.blk_n ?_
      refine At.then_n ?_
      refine W.sub [(0, _), (3, _), (4, _)] ⟨rfl, rfl, rfl, trivial⟩ ?_
      refine W.reg [(0, false), (1, false), (2, false)] (by kernel_rfl) ?_
      intro K hK
      refine x_move rfl rfl rfl rfl ?_
      refine x_add _ rfl rfl rfl rfl rfl (wadd (by omega) (by omega)) ?_
      refine x_assign rfl rfl rfl rfl ?_
      refine Ex.done (hK _ _ ?_)
      exact At.back (q + 1) ⟨rfl, (by rw [htk, if_neg (by intro e; have := congrArg List.length e; rw [List.length_take] at this; simp only [List.length_nil] at this; omega)]; simp only [List.append_assoc, List.singleton_append, List.cons_append, List.nil_append]; rfl), rfl, trivial⟩ ⟨by omega, M⟩ (by first | omega | (simp only; omega) | (simp; done) | (simp; omega))
    · try simp only [decide_eq_true_eq, decide_eq_false_iff_not, Bool.not_eq_true', Bool.not_eq_false', beq_iff_eq, bne_iff_ne, ne_eq, Bool.not_eq_eq_eq_not, Bool.not_true, Bool.not_false, beq_eq_false_iff_ne, bne_eq_false_iff_eq, Bool.not_not, gt_iff_lt, ge_iff_le] at hco2
      refine W.skip ?_
      refine At.then_n ?_
      refine W.sub [(0, _), (3, _), (4, _)] ⟨rfl, rfl, rfl, trivial⟩ ?_
      refine W.reg [(0, false), (1, false), (2, false), (3, false), (4, false), (5, false), (6, false)] (by kernel_rfl) ?_
      intro K hK
      refine x_move rfl rfl rfl rfl ?_
      refine x_move rfl rfl rfl rfl ?_
      refine x_move rfl rfl rfl rfl ?_
      refine x_ia q rfl rfl rfl Try.underlying56 sz9 rfl rfl rfl (by omega) ?_
      refine x_ld rfl rfl rfl Try.underlying9 rfl rfl (StrsAt.cell (h.new M.frm) hx) ?_
      refine x_catS rfl rfl rfl rfl rfl (by first | omega | (simp; omega)) ?_
      refine x_assign rfl rfl rfl rfl ?_
      refine Ex.done (hK _ _ ?_)
      refine At.blk_n ?_
      refine At.then_n ?_
      refine W.sub [(0, _), (3, _), (4, _)] ⟨rfl, rfl, rfl, trivial⟩ ?_
      refine W.reg [(0, false), (1, false), (2, false)] (by kernel_rfl) ?_
      intro K hK
      refine x_move rfl rfl rfl rfl ?_
      refine x_add _ rfl rfl rfl rfl rfl (wadd (by omega) (by omega)) ?_
      refine x_assign rfl rfl rfl rfl ?_
      refine Ex.done (hK _ _ ?_)
      exact At.back (q + 1) ⟨rfl, (by have hq0 : q = 0 := (by omega); subst hq0; rw [htk, if_pos (show List.take 0 l = [] from rfl)]; rfl), rfl, trivial⟩ ⟨by omega, M⟩ (by first | omega | (simp only; omega) | (simp; done) | (simp; omega))
  · try simp only [decide_eq_true_eq, decide_eq_false_iff_not, Bool.not_eq_true', Bool.not_eq_false', beq_iff_eq, bne_iff_ne, ne_eq, Bool.not_eq_eq_eq_not, Bool.not_true, Bool.not_false, beq_eq_false_iff_ne, bne_eq_false_iff_eq, Bool.not_not, gt_iff_lt, ge_iff_le] at hco1
    refine W.exit ?_
    refine At.then_x ?_
    refine At.loop_x ?_
    refine At.blk_x ?_
    refine At.then_n ?_
    refine W.seq ?_
    refine W.sub [(3, _)] ⟨rfl, trivial⟩ ?_
    refine W.reg [(0, false), (1, false)] (by kernel_rfl) ?_
    intro K hK
    refine x_move rfl rfl rfl rfl ?_
    refine x_assign rfl rfl rfl rfl ?_
    refine Ex.done (hK _ _ ?_)
    refine At.then_n ?_
    refine W.ret ?_
    refine At.ret1 (.tmp 2) rfl ⟨rfl, trivial⟩ ?_
    have hq : q = l.length := by omega
    subst hq; exact ⟨by rw [List.take_length], M.frm⟩
end Go.Proofs.Ytccfmfehfhfhhaa

namespace Go.Proofs.Ytccfmfehfhfhhaa
open Go Go.Fw Go.RowKit Go.Proofs
set_option linter.unusedVariables false
set_option linter.unusedSimpArgs false


end Go.Proofs.Ytccfmfehfhfhhaa

namespace Go.Proofs.Ytccfmfehfhfhhaa
open Go Go.Fw
set_option linter.unusedVariables false
set_option linter.unusedSimpArgs false

theorem splitP_cases (p : List UInt8) : (p = [] ∧ splitP p = some []) ∨ (p ≠ [] ∧ splitP p = none) ∨ (p ≠ [] ∧ p.length ≤ 120 ∧ (splitS p).length ≤ 8 ∧ allOK (splitS p) ∧ splitP p = some (splitS p)) := by
  by_cases h : p = []
  · exact .inl ⟨h, by unfold splitP; rw [if_pos h]⟩
  · by_cases h1 : 120 < p.length
    · exact .inr (.inl ⟨h, splitP_long h1⟩)
    · by_cases h2 : (splitS p).length ≤ 8 ∧ allOK (splitS p)
      · exact .inr (.inr ⟨h, by omega, h2.1, h2.2, splitP_good h (by omega) h2⟩)
      · exact .inr (.inl ⟨h, splitP_bad h h2⟩)

/-- Where the last c is. -/
def LastAt (s : List UInt8) (c : UInt8) (z : Int) : Prop := (z = -1 ∧ c ∉ s) ∨ ∃ a x, s = a ++ c :: x ∧ c ∉ x ∧ z = (a.length : Int)
theorem joinS_app : ∀ {a b : List (List UInt8)}, a ≠ [] → b ≠ [] → joinS (a ++ b) = joinS a ++ 47 :: joinS b
  | [], _, h, _ => absurd rfl h
  | [p], b, _, hb => by rw [List.singleton_append, joinS_cons hb]; rfl
  | p :: q :: r, b, _, hb => by
    have := joinS_app (a := q :: r) (b := b) (by simp) hb
    show joinS (p :: (q :: r ++ b)) = joinS (p :: q :: r) ++ 47 :: joinS b
    rw [joinS_cons (p := p) (r := q :: r ++ b) (by simp), this, joinS_cons (p := p) (r := q :: r) (by simp)]
    simp
theorem noS_join {x : List UInt8} : joinS [x] = x := rfl
theorem app_cons_inj {a b x y : List UInt8} {c : UInt8} (h : a ++ c :: x = b ++ c :: y) (hx : c ∉ x) (hy : c ∉ y) : a = b ∧ x = y := by
  induction a generalizing b with
  | nil => cases b with
    | nil => simp at h; exact ⟨rfl, h⟩
    | cons d b => simp at h; exact absurd (by rw [h.2]; simp) hx
  | cons e a ih => cases b with
    | nil => simp at h; exact absurd (by rw [← h.2]; simp) hy
    | cons d b =>
      simp at h
      obtain ⟨h1, h2⟩ := ih h.2
      exact ⟨by rw [h.1, h1], h2⟩

theorem parentP_bad {p : List UInt8} (h : splitE p ≠ 0) : parentP p = ([], [], 8) ∧ splitE p = 8 := by
  unfold splitE at h ⊢
  unfold parentP
  cases hs : splitP p with
  | none => exact ⟨rfl, rfl⟩
  | some l => rw [hs] at h; simp at h
theorem parentP_root : parentP [] = ([], [], 9) := rfl
theorem split_snoc (p : List UInt8) : ∃ a x, splitS p = a ++ [x] := ⟨(splitS p).dropLast, (splitS p).getLast (splitS_ne p), (List.dropLast_concat_getLast _).symm⟩
theorem parentP_some {p : List UInt8} (h0 : p ≠ []) (h : splitE p = 0) {a : List (List UInt8)} {x : List UInt8} (hs : splitS p = a ++ [x]) : parentP p = (joinS a, x, 0) := by
  rcases splitP_cases p with ⟨h1, _⟩ | ⟨_, h1⟩ | ⟨_, _, _, _, h1⟩
  · exact absurd h1 h0
  · rw [(splitE_none h1).1] at h; cases h
  · unfold parentP; rw [h1]; simp only; rw [if_neg (splitS_ne p), hs]; simp
theorem parentP_last {p : List UInt8} (h0 : p ≠ []) (h : splitE p = 0) {z : Int} (hz : LastAt p 47 z) :
    (z = -1 → parentP p = ([], p, 0)) ∧ ∀ i : Nat, z = (i : Int) → i < p.length ∧ parentP p = (p.take i, p.drop (i + 1), 0) := by
  obtain ⟨a, x, hs⟩ := split_snoc p
  have hx : (47 : UInt8) ∉ x := splitS_no p x (by rw [hs]; simp)
  have hp := parentP_some h0 h hs
  have hj : p = joinS (a ++ [x]) := by rw [← hs, joinS_splitS]
  by_cases ha : a = []
  · subst ha
    have hpx : p = x := by rw [hj]; rfl
    rcases hz with ⟨rfl, _⟩ | ⟨b, y, h1, _, _⟩
    · refine ⟨fun _ => by rw [hp, hpx]; rfl, fun i hi => by omega⟩
    · exact absurd (by rw [← hpx, h1]; simp) hx
  · rw [joinS_app ha (by simp)] at hj
    rcases hz with ⟨rfl, h2⟩ | ⟨b, y, h1, h2, rfl⟩
    · exact absurd (by rw [hj]; simp) h2
    · obtain ⟨h3, h4⟩ := app_cons_inj (h1.symm.trans hj) h2 hx
      refine ⟨fun hz => by omega, fun i hi => ?_⟩
      have : i = b.length := by omega
      subst this
      rw [hp, h1, ← h3]
      have h5 : joinS [x] = x := rfl
      rw [h5] at h4
      subst h4
      simp

theorem splitS_slash : ∀ (s t : List UInt8), splitS (s ++ 47 :: t) = splitS s ++ splitS t
  | [], t => by simp [splitS]
  | c :: s, t => by
    have ih := splitS_slash s t
    rw [List.cons_append]
    by_cases hc : c = 47
    · subst hc
      have e1 : splitS (47 :: (s ++ 47 :: t)) = [] :: splitS (s ++ 47 :: t) := by conv => lhs; unfold splitS; rw [if_pos rfl]
      have e2 : splitS (47 :: s) = [] :: splitS s := by conv => lhs; unfold splitS; rw [if_pos rfl]
      rw [e1, e2, ih]; rfl
    · obtain ⟨p, r, hs⟩ := splitS_ex s
      have e1 : splitS (c :: (s ++ 47 :: t)) = (c :: p) :: (r ++ splitS t) := by
        conv => lhs; unfold splitS; rw [if_neg hc]
        rw [ih, hs]; rfl
      have e2 : splitS (c :: s) = (c :: p) :: r := by
        conv => lhs; unfold splitS; rw [if_neg hc]
        rw [hs]
      rw [e1, e2]; rfl

/-- What the program asks of a path and a directory. -/
def underQ (p dir : List UInt8) : Bool := decide (splitE p = 0) && decide (splitE dir = 0) && (decide (dir = []) || decide (p = dir) || (dir ++ [47]).isPrefixOf p)
theorem under_eq (p dir : List UInt8) : underQ p dir = underP p dir := by
  unfold underQ underP
  rcases splitP_cases p with ⟨hp, h1⟩ | ⟨_, h1⟩ | ⟨hp, _, _, _, h1⟩
  case inr.inl => rw [(splitE_none h1).1, h1]; rfl
  all_goals rcases splitP_cases dir with ⟨hd, h2⟩ | ⟨_, h2⟩ | ⟨hd, _, _, _, h2⟩
  case inl.inr.inl => rw [(splitE_none h2).1, h1, h2]; simp
  case inr.inr.inr.inl => rw [(splitE_none h2).1, h1, h2]; simp
  all_goals rw [(splitE_some h1).1, (splitE_some h2).1, h1, h2]; simp only [decide_true, Bool.true_and]
  · subst hp hd; rfl
  · subst hp
    obtain ⟨q, r, hs⟩ := splitS_ex dir
    rw [hs, decide_eq_false hd, decide_eq_false (Ne.symm hd)]
    cases dir with
    | nil => exact absurd rfl hd
    | cons c d => rfl
  · subst hd; simp
  · rw [decide_eq_false hd, Bool.false_or]
    rw [Bool.eq_iff_iff, Bool.or_eq_true, decide_eq_true_eq, List.isPrefixOf_iff_prefix, List.isPrefixOf_iff_prefix]
    constructor
    · rintro (rfl | ⟨t, ht⟩)
      · exact List.prefix_refl _
      · rw [← ht, List.append_assoc, List.singleton_append, splitS_slash]
        exact List.prefix_append _ _
    · rintro ⟨c, hc⟩
      by_cases h0 : c = []
      · subst h0
        rw [List.append_nil] at hc
        left; rw [← joinS_splitS p, ← hc, joinS_splitS]
      · right
        refine ⟨joinS c, ?_⟩
        rw [List.append_assoc, List.singleton_append]
        have := joinS_app (splitS_ne dir) h0
        rw [hc, joinS_splitS, joinS_splitS] at this
        exact this.symm

theorem underP_eq (p dir : List UInt8) : underP p dir = (decide (splitE p = 0) && decide (splitE dir = 0) && (splitN dir).isPrefixOf (splitN p)) := by
  unfold underP splitE splitN
  cases splitP p <;> cases splitP dir <;> simp
theorem splitE_nil : splitE [] = 0 := rfl
theorem splitE_len {p : List UInt8} (h : splitE p = 0) : p.length ≤ 120 := by
  rcases splitP_cases p with ⟨h1, _⟩ | ⟨_, h1⟩ | ⟨_, h2, _⟩
  · subst h1; simp
  · rw [(splitE_none h1).1] at h; cases h
  · exact h2
theorem splitN_facts {p : List UInt8} (h : splitE p = 0) : (p = [] ∧ splitN p = []) ∨ (p ≠ [] ∧ splitN p = splitS p ∧ (splitS p).length ≤ 8 ∧ allOK (splitS p)) := by
  rcases splitP_cases p with ⟨h1, h2⟩ | ⟨_, h1⟩ | ⟨h1, _, h3, h4, h2⟩
  · exact .inl ⟨h1, (splitE_some h2).2⟩
  · rw [(splitE_none h1).1] at h; cases h
  · exact .inr ⟨h1, (splitE_some h2).2, h3, h4⟩
theorem splitN_len (p : List UInt8) : (splitN p).length ≤ 8 := by
  rcases splitP_cases p with ⟨h1, h2⟩ | ⟨_, h1⟩ | ⟨h1, _, h3, h4, h2⟩
  · rw [(splitE_some h2).2]; simp
  · rw [(splitE_none h1).2]; simp
  · rw [(splitE_some h2).2]; exact h3
theorem pre_step {A B : List (List UInt8)} {q : Nat} {x y : List UInt8} (h : B.take q = A.take q) (hx : A[q]? = some x) (hy : B[q]? = some y) (he : x = y) : B.take (q + 1) = A.take (q + 1) := by
  rw [take_snoc hx, take_snoc hy, h, he]
theorem pre_no {A B : List (List UInt8)} {q : Nat} {x y : List UInt8} (hx : A[q]? = some x) (hy : B[q]? = some y) (he : ¬ x = y) : B.isPrefixOf A = false := by
  rw [← Bool.not_eq_true, List.isPrefixOf_iff_prefix]
  rintro ⟨c, rfl⟩
  have hlt := (List.getElem?_eq_some_iff.1 hy).1
  rw [List.getElem?_append_left hlt, hy] at hx
  exact he (Option.some.inj hx).symm
theorem pre_yes {A B : List (List UInt8)} (h : B.take B.length = A.take B.length) : B.isPrefixOf A = true := by
  rw [List.isPrefixOf_iff_prefix, List.prefix_iff_eq_take, ← h, List.take_length]
theorem pre_long {A B : List (List UInt8)} (h : A.length < B.length) : B.isPrefixOf A = false := by
  rw [← Bool.not_eq_true, List.isPrefixOf_iff_prefix]; intro h2; have := h2.length_le; omega

/-! ## Order -/
theorem cmp_drop {a b : List UInt8} {i : Nat} {c : UInt8} (ha : a[i]? = some c) (hb : b[i]? = some c) : Lib.compareBytes (a.drop i) (b.drop i) = Lib.compareBytes (a.drop (i + 1)) (b.drop (i + 1)) := by
  have h1 := (List.getElem?_eq_some_iff.1 ha); have h2 := (List.getElem?_eq_some_iff.1 hb)
  obtain ⟨l1, e1⟩ := h1; obtain ⟨l2, e2⟩ := h2
  rw [List.drop_eq_getElem_cons l1, List.drop_eq_getElem_cons l2, e1, e2]
  conv => lhs; unfold Lib.compareBytes
  rw [if_neg (by simp), if_neg (by simp)]
theorem cmp_ne {a b : List UInt8} {i : Nat} {c d : UInt8} (ha : a[i]? = some c) (hb : b[i]? = some d) (h : c ≠ d) : Lib.compareBytes (a.drop i) (b.drop i) = if c < d then -1 else 1 := by
  obtain ⟨l1, e1⟩ := (List.getElem?_eq_some_iff.1 ha); obtain ⟨l2, e2⟩ := (List.getElem?_eq_some_iff.1 hb)
  rw [List.drop_eq_getElem_cons l1, List.drop_eq_getElem_cons l2, e1, e2]
  unfold Lib.compareBytes
  by_cases h3 : c < d
  · rw [if_pos h3, if_pos h3]
  · rw [if_neg h3, if_neg h3]
    have : d < c := by
      rw [UInt8.lt_iff_toNat_lt] at h3 ⊢
      have : c.toNat ≠ d.toNat := fun e => h (UInt8.toNat_inj.1 e)
      omega
    rw [if_pos this]
theorem cmp_end {a b : List UInt8} {i : Nat} (h : a.length ≤ i ∨ b.length ≤ i) (hi : i ≤ a.length ∧ i ≤ b.length) : Lib.compareBytes (a.drop i) (b.drop i) = if a.length < b.length then -1 else if b.length < a.length then 1 else 0 := by
  rcases Nat.lt_or_ge i a.length with h1 | h1
  · have hb : b.length = i := by omega
    have hdb : b.drop i = [] := List.drop_eq_nil_of_le (by omega)
    rw [hdb, List.drop_eq_getElem_cons h1, if_neg (by omega), if_pos (by omega)]; rfl
  · have hda : a.drop i = [] := List.drop_eq_nil_of_le (by omega)
    rcases Nat.lt_or_ge i b.length with h2 | h2
    · rw [hda, List.drop_eq_getElem_cons h2, if_pos (by omega)]; rfl
    · have hdb : b.drop i = [] := List.drop_eq_nil_of_le (by omega)
      rw [hda, hdb, if_neg (by omega), if_neg (by omega)]; rfl
theorem cmp_cases : ∀ (a b : List UInt8), Lib.compareBytes a b = -1 ∨ (Lib.compareBytes a b = 0 ∧ a = b) ∨ Lib.compareBytes a b = 1
  | [], [] => .inr (.inl ⟨rfl, rfl⟩)
  | [], _ :: _ => .inl rfl
  | _ :: _, [] => .inr (.inr rfl)
  | c :: a, d :: b => by
    unfold Lib.compareBytes
    split
    · exact .inl rfl
    · split
      · exact .inr (.inr rfl)
      · rename_i h1 h2
        have hcd : c = d := by
          rw [UInt8.lt_iff_toNat_lt] at h1 h2
          exact UInt8.toNat_inj.1 (by omega)
        rcases cmp_cases a b with h | ⟨h, h3⟩ | h
        · exact .inl h
        · exact .inr (.inl ⟨h, by rw [hcd, h3]⟩)
        · exact .inr (.inr h)
theorem cmp_self : ∀ a : List UInt8, Lib.compareBytes a a = 0
  | [] => rfl
  | c :: a => by unfold Lib.compareBytes; rw [if_neg (by simp), if_neg (by simp)]; exact cmp_self a
theorem cmp_swap : ∀ a b : List UInt8, Lib.compareBytes b a = - Lib.compareBytes a b
  | [], [] => rfl
  | [], _ :: _ => rfl
  | _ :: _, [] => rfl
  | c :: a, d :: b => by
    have ih := cmp_swap a b
    conv => lhs; unfold Lib.compareBytes
    conv => rhs; unfold Lib.compareBytes
    by_cases h1 : c < d
    · have h2 : ¬ d < c := by rw [UInt8.lt_iff_toNat_lt] at h1 ⊢; omega
      rw [if_pos h1, if_neg h2, if_pos h1]; rfl
    · by_cases h2 : d < c
      · rw [if_pos h2, if_neg h1, if_pos h2]
      · rw [if_neg h2, if_neg h1, if_neg h1, if_neg h2, ih]
theorem compareL_step {p q : List (List UInt8)} {i : Nat} {x y : List UInt8} (hp : p[i]? = some x) (hq : q[i]? = some y) :
    compareL (p.drop i) (q.drop i) = if Lib.compareBytes x y ≠ 0 then Lib.compareBytes x y else compareL (p.drop (i + 1)) (q.drop (i + 1)) := by
  obtain ⟨l1, e1⟩ := (List.getElem?_eq_some_iff.1 hp); obtain ⟨l2, e2⟩ := (List.getElem?_eq_some_iff.1 hq)
  rw [List.drop_eq_getElem_cons l1, List.drop_eq_getElem_cons l2, e1, e2]
  rfl
theorem compareL_end {p q : List (List UInt8)} {i : Nat} (h : p.length ≤ i ∨ q.length ≤ i) (hi : i ≤ p.length ∧ i ≤ q.length) : compareL (p.drop i) (q.drop i) = if p.length < q.length then -1 else if q.length < p.length then 1 else 0 := by
  rcases Nat.lt_or_ge i p.length with h1 | h1
  · have hdb : q.drop i = [] := List.drop_eq_nil_of_le (by omega)
    rw [hdb, List.drop_eq_getElem_cons h1, if_neg (by omega), if_pos (by omega)]; rfl
  · have hda : p.drop i = [] := List.drop_eq_nil_of_le (by omega)
    rcases Nat.lt_or_ge i q.length with h2 | h2
    · rw [hda, List.drop_eq_getElem_cons h2, if_pos (by omega)]; rfl
    · have hdb : q.drop i = [] := List.drop_eq_nil_of_le (by omega)
      rw [hda, hdb, if_neg (by omega), if_neg (by omega)]; rfl

/-- Names that are cut off one by one. -/
def CutOK (l : List (List UInt8)) : Prop := (∀ x ∈ l, (47 : UInt8) ∉ x) ∧ (joinS l).length ≤ 9223372036854775807
theorem namesP_cut {p : List UInt8} (h : p.length ≤ 9223372036854775807) : CutOK (namesP p) ∧ joinS (namesP p) = p := by
  unfold namesP
  split
  · rename_i h0; subst h0; exact ⟨⟨by simp, by simp [joinS]⟩, rfl⟩
  · exact ⟨⟨splitS_no p, by rw [joinS_splitS]; exact h⟩, joinS_splitS p⟩
theorem namesP_ne {p : List UInt8} : namesP p ≠ [] ↔ p ≠ [] := by
  unfold namesP; split
  · rename_i h; simp [h]
  · rename_i h; simp [h, splitS_ne]
theorem CutOK.tail {x : List UInt8} {l : List (List UInt8)} (h : CutOK (x :: l)) : CutOK l := by
  refine ⟨fun y hy => h.1 y (List.mem_cons_of_mem _ hy), ?_⟩
  have h2 := h.2
  by_cases hl : l = []
  · subst hl; simp [joinS]
  · rw [joinS_len hl] at h2; omega
theorem CutOK.split {x : List UInt8} {l : List (List UInt8)} (h : CutOK (x :: l)) : splitS (joinS (x :: l)) = x :: l := splitS_joinS (by simp) h.1
theorem namesP_len (p : List UInt8) : (namesP p).length ≤ p.length + 1 := by
  unfold namesP; split
  · simp
  · exact splitS_len p
theorem mem_joinS_le : ∀ {l : List (List UInt8)} {x : List UInt8}, x ∈ l → x.length ≤ (joinS l).length
  | [p], x, h => by simp at h; subst h; exact Nat.le_refl _
  | p :: q :: r, x, h => by
    rw [joinS_len (by simp)]
    rcases List.mem_cons.1 h with rfl | h
    · omega
    · have := mem_joinS_le h; omega
end Go.Proofs.Ytccfmfehfhfhhaa

namespace Go.Proofs.Ytccfmfehfhfhhaa
open Go Go.Fw Go.RowKit Go.Proofs
set_option linter.unusedVariables false
set_option linter.unusedSimpArgs false

set_option maxRecDepth 100000 in
theorem rsplit_c {w0 : World} {p : List UInt8}  : Ret Try.prog 33 #[strV p] w0 fun r w' => ∃ v Lr, r = .tuple #[v, .int .i64 (splitE p)] ∧ Sep w0 Lr w' ∧ StrsO Lr v (splitN p) := by
  have M : Sep w0 [] w0 := St.nil w0
  refine Ret.of_W Try.func33 rfl Try.ntmps33 rfl ?_
  refine W.seq ?_
  refine W.sub [(0, _)] ⟨rfl, trivial⟩ ?_
  refine W.reg [(0, false), (1, false)] (by kernel_rfl) ?_
  intro K hK
  refine x_assign rfl rfl rfl rfl ?_
  refine x_assign rfl rfl rfl rfl ?_
  refine Ex.done (hK _ _ ?_)
  refine At.then_n ?_
  refine W.seq ?_
  refine W.seq ?_
  refine W.sub [(0, _)] ⟨rfl, trivial⟩ ?_
  refine W.reg [(0, false), (1, false)] (by kernel_rfl) ?_
  intro K hK
  refine x_move rfl rfl rfl rfl ?_
  refine x_eqS _ rfl rfl rfl rfl rfl rfl ?_
  refine Ex.done (hK _ _ ?_)
  refine At.then_n ?_
  refine W.cond rfl (fun hco1 => ?_) (fun hco1 => ?_)
  · try simp only [decide_eq_true_eq, decide_eq_false_iff_not, Bool.not_eq_true', Bool.not_eq_false', beq_iff_eq, bne_iff_ne, ne_eq, Bool.not_eq_eq_eq_not, Bool.not_true, Bool.not_false, beq_eq_false_iff_ne, bne_eq_false_iff_eq, Bool.not_not, gt_iff_lt, ge_iff_le] at hco1
    refine W.seq ?_
    refine W.sub [] trivial ?_
    refine W.reg [(0, false), (1, false)] (by kernel_rfl) ?_
    intro K hK
    refine x_assign rfl rfl rfl rfl ?_
    refine x_assign rfl rfl rfl rfl ?_
    refine Ex.done (hK _ _ ?_)
    refine At.then_n ?_
    refine W.ret ?_
    refine At.then_r ?_
    refine At.ret2 (.tmp 2) (.tmp 3) rfl ⟨rfl, rfl, trivial⟩ ?_
    subst hco1; exact ⟨_, [], rfl, M.frm, OwL.nil⟩
  · try simp only [decide_eq_true_eq, decide_eq_false_iff_not, Bool.not_eq_true', Bool.not_eq_false', beq_iff_eq, bne_iff_ne, ne_eq, Bool.not_eq_eq_eq_not, Bool.not_true, Bool.not_false, beq_eq_false_iff_ne, bne_eq_false_iff_eq, Bool.not_not, gt_iff_lt, ge_iff_le] at hco1
    refine W.skip ?_
    refine At.then_n ?_
    refine W.seq ?_
    refine W.seq ?_
    refine W.sub [(0, _)] ⟨rfl, trivial⟩ ?_
    refine W.reg [(0, false), (1, false), (2, false)] (by kernel_rfl) ?_
    intro K hK
    refine x_move rfl rfl rfl rfl ?_
    refine x_lenS rfl rfl rfl rfl Try.underlying9 rfl ?_
    refine x_gtr _ rfl rfl rfl rfl rfl rfl ?_
    refine Ex.done (hK _ _ ?_)
    refine At.then_n ?_
    refine W.cond rfl (fun hco2 => ?_) (fun hco2 => ?_)
    · try simp only [decide_eq_true_eq, decide_eq_false_iff_not, Bool.not_eq_true', Bool.not_eq_false', beq_iff_eq, bne_iff_ne, ne_eq, Bool.not_eq_eq_eq_not, Bool.not_true, Bool.not_false, beq_eq_false_iff_ne, bne_eq_false_iff_eq, Bool.not_not, gt_iff_lt, ge_iff_le] at hco2
      refine W.seq ?_
      refine W.sub [] trivial ?_
      refine W.reg [(0, false), (1, false)] (by kernel_rfl) ?_
      intro K hK
      refine x_assign rfl rfl rfl rfl ?_
      refine x_assign rfl rfl rfl rfl ?_
      refine Ex.done (hK _ _ ?_)
      refine At.then_n ?_
      refine W.ret ?_
      refine At.then_r ?_
      refine At.ret2 (.tmp 2) (.tmp 3) rfl ⟨rfl, rfl, trivial⟩ ?_
      have h := splitE_none (splitP_long (p := p) (by omega)); exact ⟨_, [], by rw [h.1], M.frm, by rw [h.2]; exact OwL.nil⟩
    · try simp only [decide_eq_true_eq, decide_eq_false_iff_not, Bool.not_eq_true', Bool.not_eq_false', beq_iff_eq, bne_iff_ne, ne_eq, Bool.not_eq_eq_eq_not, Bool.not_true, Bool.not_false, beq_eq_false_iff_ne, bne_eq_false_iff_eq, Bool.not_not, gt_iff_lt, ge_iff_le] at hco2
      refine W.skip ?_
      refine At.then_n ?_
      refine W.seq ?_
      refine W.sub [(0, _)] ⟨rfl, trivial⟩ ?_
      refine W.reg [(0, false), (1, true), (2, false)] (by kernel_rfl) ?_
      intro K hK
      refine x_move rfl rfl rfl rfl ?_
      refine x_call rfl rfl rfl rfl rfl en61 (rpieces_c (s := p) (by omega)) ?_
      rintro v1 w1 ⟨L1, M1, hs1⟩
      have M := M.grow M1
      obtain ⟨p1, cap1, rfl⟩ := hs1.shape
      have hl1 := splitS_len p
      refine ⟨trivial, ?_⟩
      refine x_assign rfl rfl rfl rfl ?_
      refine Ex.done (hK _ _ ?_)
      refine At.then_n ?_
      refine W.seq ?_
      refine W.seq ?_
      refine W.sub [(4, _)] ⟨rfl, trivial⟩ ?_
      refine W.reg [(0, false), (1, false), (2, false)] (by kernel_rfl) ?_
      intro K hK
      refine x_move rfl rfl rfl rfl ?_
      refine x_len rfl rfl rfl rfl Try.underlying56 rfl ?_
      refine x_gtr _ rfl rfl rfl rfl rfl rfl ?_
      refine Ex.done (hK _ _ ?_)
      refine At.then_n ?_
      refine W.cond rfl (fun hco3 => ?_) (fun hco3 => ?_)
      · try simp only [decide_eq_true_eq, decide_eq_false_iff_not, Bool.not_eq_true', Bool.not_eq_false', beq_iff_eq, bne_iff_ne, ne_eq, Bool.not_eq_eq_eq_not, Bool.not_true, Bool.not_false, beq_eq_false_iff_ne, bne_eq_false_iff_eq, Bool.not_not, gt_iff_lt, ge_iff_le] at hco3
        refine W.seq ?_
        refine W.sub [] trivial ?_
        refine W.reg [(0, false), (1, false)] (by kernel_rfl) ?_
        intro K hK
        refine x_assign rfl rfl rfl rfl ?_
        refine x_assign rfl rfl rfl rfl ?_
        refine Ex.done (hK _ _ ?_)
        refine At.then_n ?_
        refine W.ret ?_
        refine At.then_r ?_
        refine At.ret2 (.tmp 2) (.tmp 3) rfl ⟨rfl, rfl, trivial⟩ ?_
        have h := splitE_none (splitP_bad hco1 (fun h => by have := h.1; omega)); exact ⟨_, [], by rw [h.1], M.frm, by rw [h.2]; exact OwL.nil⟩
      · try simp only [decide_eq_true_eq, decide_eq_false_iff_not, Bool.not_eq_true', Bool.not_eq_false', beq_iff_eq, bne_iff_ne, ne_eq, Bool.not_eq_eq_eq_not, Bool.not_true, Bool.not_false, beq_eq_false_iff_ne, bne_eq_false_iff_eq, Bool.not_not, gt_iff_lt, ge_iff_le] at hco3
        refine W.skip ?_
        refine At.then_n ?_
        refine W.seq ?_
        refine W.seq ?_
        refine W.sub [(4, _)] ⟨rfl, trivial⟩ ?_
        refine W.reg [(0, false)] (by kernel_rfl) ?_
        intro K hK
        refine x_assign rfl rfl rfl rfl ?_
        refine Ex.done (hK _ _ ?_)
        refine At.then_n ?_
        refine W.block ?_
        refine W.loop (σ := Nat) (fun q => [(4, _), (5, .int .i64 ((q : Nat) : Int))]) (fun q w => q ≤ (splitS p).length ∧ (∀ (k : Nat) y, k < q → (splitS p)[k]? = some y → nameOK y) ∧ Sep w0 L1 w) (fun q => (splitS p).length - q) 0 ⟨rfl, rfl, trivial⟩ ⟨Nat.zero_le _, fun k c h => by omega, M⟩ ?_
        rintro q w ⟨hq, hall, M⟩
        refine W.seq ?_
        refine W.seq ?_
        refine W.sub [(4, _), (5, _)] ⟨rfl, rfl, trivial⟩ ?_
        refine W.reg [(0, false), (1, false), (2, false), (3, false)] (by kernel_rfl) ?_
        intro K hK
        refine x_move rfl rfl rfl rfl ?_
        refine x_move rfl rfl rfl rfl ?_
        refine x_len rfl rfl rfl rfl Try.underlying56 rfl ?_
        refine x_lss _ rfl rfl rfl rfl rfl rfl ?_
        refine Ex.done (hK _ _ ?_)
        refine At.then_n ?_
        refine W.cond rfl (fun hco4 => ?_) (fun hco4 => ?_)
        · try simp only [decide_eq_true_eq, decide_eq_false_iff_not, Bool.not_eq_true', Bool.not_eq_false', beq_iff_eq, bne_iff_ne, ne_eq, Bool.not_eq_eq_eq_not, Bool.not_true, Bool.not_false, beq_eq_false_iff_ne, bne_eq_false_iff_eq, Bool.not_not, gt_iff_lt, ge_iff_le] at hco4
          obtain ⟨x, hx⟩ := get_lt (l := splitS p) (q := q) (by omega)
          have hAt := strsO_at hs1 M (fun _ h => h)
          obtain ⟨bk, off, rfl, _⟩ := hAt.blk (j := q) (by omega)
          refine W.skip ?_
          refine At.then_n ?_
          refine W.seq ?_
          refine W.block ?_
          refine W.seq ?_
          refine W.sub [(4, _), (5, _)] ⟨rfl, rfl, trivial⟩ ?_
          refine W.reg [(0, false), (1, false), (2, false), (3, false), (4, true), (5, false)] (by kernel_rfl) ?_
          intro K hK
          refine x_move rfl rfl rfl rfl ?_
          refine x_move rfl rfl rfl rfl ?_
          refine x_ia q rfl rfl rfl Try.underlying56 sz9 rfl rfl rfl (by omega) ?_
          refine x_ld rfl rfl rfl Try.underlying9 rfl rfl (StrsAt.cell hAt hx) ?_
          refine x_call rfl rfl rfl rfl rfl en62 (rname_c) ?_
          rintro r wcall2 ⟨rfl, hncall2⟩
          have M := M.new hncall2
          refine ⟨trivial, ?_⟩
          refine x_nei _ rfl rfl rfl rfl rfl rfl ?_
          refine Ex.done (hK _ _ ?_)
          refine At.then_n ?_
          refine W.cond rfl (fun hco5 => ?_) (fun hco5 => ?_)
          · try simp only [decide_eq_true_eq, decide_eq_false_iff_not, Bool.not_eq_true', Bool.not_eq_false', beq_iff_eq, bne_iff_ne, ne_eq, Bool.not_eq_eq_eq_not, Bool.not_true, Bool.not_false, beq_eq_false_iff_ne, bne_eq_false_iff_eq, Bool.not_not, gt_iff_lt, ge_iff_le] at hco5
            refine W.seq ?_
            refine W.sub [] trivial ?_
            refine W.reg [(0, false), (1, false)] (by kernel_rfl) ?_
            intro K hK
            refine x_assign rfl rfl rfl rfl ?_
            refine x_assign rfl rfl rfl rfl ?_
            refine Ex.done (hK _ _ ?_)
            refine At.then_n ?_
            refine W.ret ?_
            refine At.blk_r ?_
            refine At.then_r ?_
            refine At.loop_r ?_
            refine At.blk_r ?_
            refine At.then_r ?_
            refine At.ret2 (.tmp 2) (.tmp 3) rfl ⟨rfl, rfl, trivial⟩ ?_
            have h := splitE_none (splitP_bad hco1 (fun h => hco5 (nameP_zero.2 (h.2 x (List.mem_of_getElem? hx))))); exact ⟨_, [], by rw [h.1], M.frm, by rw [h.2]; exact OwL.nil⟩
          · try simp only [decide_eq_true_eq, decide_eq_false_iff_not, Bool.not_eq_true', Bool.not_eq_false', beq_iff_eq, bne_iff_ne, ne_eq, Bool.not_eq_eq_eq_not, Bool.not_true, Bool.not_false, beq_eq_false_iff_ne, bne_eq_false_iff_eq, Bool.not_not, gt_iff_lt, ge_iff_le] at hco5
            refine W.skip ?_
            refine At.blk_n ?_
            refine At.then_n ?_
            refine W.sub [(4, _), (5, _)] ⟨rfl, rfl, trivial⟩ ?_
            refine W.reg [(0, false), (1, false), (2, false)] (by kernel_rfl) ?_
            intro K hK
            refine x_move rfl rfl rfl rfl ?_
            refine x_add _ rfl rfl rfl rfl rfl (wadd (by omega) (by omega)) ?_
            refine x_assign rfl rfl rfl rfl ?_
            refine Ex.done (hK _ _ ?_)
            exact At.back (q + 1) ⟨rfl, rfl, trivial⟩ ⟨by omega, all_take hall hx (nameP_zero.1 hco5), M⟩ (by first | omega | (simp only; omega) | (simp; done) | (simp; omega))
        · try simp only [decide_eq_true_eq, decide_eq_false_iff_not, Bool.not_eq_true', Bool.not_eq_false', beq_iff_eq, bne_iff_ne, ne_eq, Bool.not_eq_eq_eq_not, Bool.not_true, Bool.not_false, beq_eq_false_iff_ne, bne_eq_false_iff_eq, Bool.not_not, gt_iff_lt, ge_iff_le] at hco4
          refine W.exit ?_
          refine At.then_x ?_
          refine At.loop_x ?_
          refine At.blk_x ?_
          refine At.then_n ?_
          refine W.seq ?_
          refine W.sub [(4, _)] ⟨rfl, trivial⟩ ?_
          refine W.reg [(0, false), (1, false), (2, false)] (by kernel_rfl) ?_
          intro K hK
          refine x_move rfl rfl rfl rfl ?_
          refine x_assign rfl rfl rfl rfl ?_
          refine x_assign rfl rfl rfl rfl ?_
          refine Ex.done (hK _ _ ?_)
          refine At.then_n ?_
          refine W.ret ?_
          refine At.ret2 (.tmp 2) (.tmp 3) rfl ⟨rfl, rfl, trivial⟩ ?_
          have h := splitE_some (splitP_good hco1 (by omega) ⟨by omega, all_all fun k y hk => hall k y (by omega)⟩); exact ⟨_, L1, by rw [h.1], M, by rw [h.2]; exact hs1⟩
end Go.Proofs.Ytccfmfehfhfhhaa
