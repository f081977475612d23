/-
  Part J: blocks of one's own in any order; strings as lists of bytes; slices told by their blocks; texts gone through.
-/
import Derived.Test.YtkieecaaijlokaaFwI
import Derived.Laws.RangeAny
import Derived.Lib.Bytealg
namespace Go.Fw
open Go Go.RowKit
set_option linter.unusedVariables false
set_option linter.unusedSimpArgs false

/-! ## Blocks -/
abbrev Sep (w0 : World) (L : List (Nat × Obj)) (w : World) : Prop := St None' w0 L w

theorem perm_c {α : Type} {l l' : List α} (h : ∀ p : α → Bool, l.countP p = l'.countP p) : l.Perm l' := by
  classical
  letI : BEq α := ⟨fun a b => decide (a = b)⟩
  haveI : LawfulBEq α := { eq_of_beq := fun h => of_decide_eq_true h, rfl := decide_eq_true rfl }
  exact List.perm_iff_count.2 fun a => h _

section
variable {S : Nat → Prop} {w0 w w1 : World} {L L' : List (Nat × Obj)}

theorem St.acons (h : St S w0 L w) {o : Obj} {b : Nat} (hb : b = w.heap.size) (hw : w1 = w.alloc o) : St S w0 ((b, o) :: L) w1 :=
  (h.alloc hb hw).perm (List.perm_append_singleton _ _)
theorem St.nil (w : World) : Sep w [] w := Frm.refl _ _
theorem St.grow' (h : St S w0 L w) (hc : Sep w L' w1) : St S w0 (L' ++ L) w1 := (h.grow hc).perm List.perm_append_comm
theorem St.tail {x : Nat × Obj} (h : St S w0 (x :: L) w) : St S w0 L w := h.sub (List.sublist_cons_self _ _)
theorem St.dropL {L' : List (Nat × Obj)} (h : St S w0 (L' ++ L) w) : St S w0 L w := h.sub (List.sublist_append_right _ _)
theorem St.dropR {L' : List (Nat × Obj)} (h : St S w0 (L ++ L') w) : St S w0 L w := h.sub (List.sublist_append_left _ _)
/-- From a nearer world on. -/
theorem St.trans {L' : List (Nat × Obj)} (h : Sep w0 L w) (h' : Sep w L' w1) : Sep w0 L' w1 := by
  have := h.grow' h'
  exact this.dropR
end

/-! ## Numbers -/
theorem w64 {x : Int} (h1 : -9223372036854775808 ≤ x) (h2 : x < 9223372036854775808) : IntKind.i64.wrap x = x := IntWalk.i64_in _ ⟨h1, by omega⟩
theorem wadd {a b : Int} (h1 : -9223372036854775808 ≤ a + b) (h2 : a + b < 9223372036854775808) : IntKind.i64.wrap (a + b) = a + b := w64 h1 h2
theorem wsub {a b : Int} (h1 : -9223372036854775808 ≤ a - b) (h2 : a - b < 9223372036854775808) : IntKind.i64.wrap (a - b) = a - b := w64 h1 h2
theorem wmul {a b : Int} (h1 : -9223372036854775808 ≤ a * b) (h2 : a * b < 9223372036854775808) : IntKind.i64.wrap (a * b) = a * b := w64 h1 h2
theorem wneg {a : Int} (h1 : -9223372036854775808 ≤ 0 - a) (h2 : 0 - a < 9223372036854775808) : IntKind.i64.wrap (0 - a) = 0 - a := w64 h1 h2

/-! ## Strings -/
def strB (s : List UInt8) : ByteArray := ⟨s.toArray⟩
abbrev strV (s : List UInt8) : Value := .string (strB s)
theorem strB_of (x : ByteArray) : ∃ s, x = strB s := ⟨x.data.toList, by cases x; simp [strB]⟩
theorem strB_size (s : List UInt8) : (strB s).size = s.length := by simp [strB, ByteArray.size]
theorem strB_list (s : List UInt8) : (strB s).toList = s := ByteArray.toList_mk s
theorem strB_inj {a b : List UInt8} (h : strB a = strB b) : a = b := by have := congrArg ByteArray.toList h; rwa [strB_list, strB_list] at this
theorem strB_iff {a b : List UInt8} : strB a = strB b ↔ a = b := ⟨strB_inj, fun h => h ▸ rfl⟩
theorem strB_app (a b : List UInt8) : strB a ++ strB b = strB (a ++ b) := by
  apply ByteArray.ext
  rw [ByteArray.data_append]
  simp [strB]
theorem strB_ext (a : List UInt8) (i j : Nat) : (strB a).extract i j = strB ((a.drop i).take (j - i)) := by
  apply ByteArray.ext
  rw [ByteArray.data_extract]
  simp only [strB]
  apply Array.ext'
  simp [List.extract_eq_take_drop]
theorem strB_get (a : List UInt8) (j : Nat) : (strB a)[j]? = a[j]? := by
  simp only [strB]
  by_cases h : j < a.length
  · rw [List.getElem?_eq_getElem h]
    have h2 : j < (ByteArray.mk a.toArray).size := by simpa [ByteArray.size] using h
    rw [getElem?_pos (ByteArray.mk a.toArray) j h2]
    rfl
  · rw [List.getElem?_eq_none (by omega), getElem?_neg]
    simpa [ByteArray.size] using h

section
variable {P : Program} {n : Nat} {ops : Array Oper} {B : Array Nat} {dr : Bool} {K : KT} {s : List (Nat × Bool)} {F : Env} {ds : List Deferred} {T : List (Nat × (World → Prop))} {w : World} {i : Nat}
  {d : Option Tmp} {ty : TypeId} {ps : String} {af : Array Edge} {g : Option (Nat × Bool)} {t t2 : TypeId} {x y lo hi ix : Operand}

theorem x_eqS {a b : List UInt8} (r : Bool) (ho : ops[i]? = some ⟨d, .binOp .eql t x y t2, ty, ps, af, g⟩) (hg : guardV ops F g = some true) (hd : dstOK n d = true) (hx : ev? F x = some (.string (strB a))) (hy : ev? F y = some (.string (strB b))) (hr : decide (a = b) = r)
    (h : Ex P n ops B dr K s (putE F d (.bool r)) ds T w) : Ex P n ops B dr K ((i, false) :: s) F ds T w := x_eqs r ho hg hd hx hy (by rw [strB_list, strB_list, ← hr]; rw [Bool.eq_iff_iff]; simp) h
theorem x_neS {a b : List UInt8} (r : Bool) (ho : ops[i]? = some ⟨d, .binOp .neq t x y t2, ty, ps, af, g⟩) (hg : guardV ops F g = some true) (hd : dstOK n d = true) (hx : ev? F x = some (.string (strB a))) (hy : ev? F y = some (.string (strB b))) (hr : (!decide (a = b)) = r)
    (h : Ex P n ops B dr K s (putE F d (.bool r)) ds T w) : Ex P n ops B dr K ((i, false) :: s) F ds T w := x_nes r ho hg hd hx hy (by rw [strB_list, strB_list, ← hr]; rw [Bool.eq_iff_iff]; simp) h
theorem x_ltS {a b : List UInt8} (r : Bool) (ho : ops[i]? = some ⟨d, .binOp .lss t x y t2, ty, ps, af, g⟩) (hg : guardV ops F g = some true) (hd : dstOK n d = true) (hx : ev? F x = some (.string (strB a))) (hy : ev? F y = some (.string (strB b))) (hr : Op.bytesLess a b = r)
    (h : Ex P n ops B dr K s (putE F d (.bool r)) ds T w) : Ex P n ops B dr K ((i, false) :: s) F ds T w := x_lts r ho hg hd hx hy (by rw [strB_list, strB_list]; exact hr) h
theorem x_lenS {a : List UInt8} {at0 : Array TypeId} (ho : ops[i]? = some ⟨d, .call ⟨.builtin .len, #[x], at0⟩, ty, ps, af, g⟩) (hg : guardV ops F g = some true) (hd : dstOK n d = true) (ht : at0[0]? = some t) (hu : P.underlying t = some .string) (hx : ev? F x = some (.string (strB a)))
    (h : Ex P n ops B dr K s (putE F d (.int .i64 (a.length : Int))) ds T w) : Ex P n ops B dr K ((i, false) :: s) F ds T w := x_lens ho hg hd ht hu hx (by rw [strB_size]; exact h)
theorem x_ixS {k : IntKind} {z : Int} {a : List UInt8} {c : UInt8} (j : Nat) (ho : ops[i]? = some ⟨d, .index t x ix, ty, ps, af, g⟩) (hg : guardV ops F g = some true) (hd : dstOK n d = true) (hu : P.underlying t = some .string) (hx : ev? F x = some (.string (strB a))) (hi : ev? F ix = some (.int k z)) (hj : z = (j : Int)) (hc : a[j]? = some c)
    (h : Ex P n ops B dr K s (putE F d (.int .u8 (c.toNat : Int))) ds T w) : Ex P n ops B dr K ((i, false) :: s) F ds T w := x_ixs j ho hg hd hu hx hi hj (by rw [strB_get]; exact hc) h
theorem x_catS {a b : List UInt8} (ho : ops[i]? = some ⟨d, .binOp .add t x y t2, ty, ps, af, g⟩) (hg : guardV ops F g = some true) (hd : dstOK n d = true) (hx : ev? F x = some (.string (strB a))) (hy : ev? F y = some (.string (strB b))) (hr : a.length + b.length ≤ 9223372036854775807)
    (h : Ex P n ops B dr K s (putE F d (.string (strB (a ++ b)))) ds T w) : Ex P n ops B dr K ((i, false) :: s) F ds T w := x_cat ho hg hd hx hy (by rw [strB_size, strB_size]; show ((a.length + b.length : Nat) : Int) ≤ 9223372036854775807; omega) (by rw [strB_app]; exact h)
theorem x_sshS {a : List UInt8} {k : IntKind} {z : Int} (j : Nat) (ho : ops[i]? = some ⟨d, .slice t x none (some hi) none, ty, ps, af, g⟩) (hg : guardV ops F g = some true) (hd : dstOK n d = true)
    (hu : P.underlying t = some .string) (hx : ev? F x = some (.string (strB a))) (hh : ev? F hi = some (.int k z)) (hj : z = (j : Int)) (hle : j ≤ a.length)
    (h : Ex P n ops B dr K s (putE F d (.string (strB (a.take j)))) ds T w) : Ex P n ops B dr K ((i, false) :: s) F ds T w := x_ssh j ho hg hd hu hx hh hj (by rw [strB_size]; exact hle) (by rw [strB_ext]; simpa using h)
theorem x_sslS {a : List UInt8} {k : IntKind} {z : Int} (j : Nat) (ho : ops[i]? = some ⟨d, .slice t x (some lo) none none, ty, ps, af, g⟩) (hg : guardV ops F g = some true) (hd : dstOK n d = true)
    (hu : P.underlying t = some .string) (hx : ev? F x = some (.string (strB a))) (hh : ev? F lo = some (.int k z)) (hj : z = (j : Int)) (hle : j ≤ a.length)
    (h : Ex P n ops B dr K s (putE F d (.string (strB (a.drop j)))) ds T w) : Ex P n ops B dr K ((i, false) :: s) F ds T w := x_ssl j ho hg hd hu hx hh hj (by rw [strB_size]; exact hle) (by
      rw [strB_ext, strB_size, List.take_of_length_le (by simp)]; exact h)
theorem x_sslhS {a : List UInt8} {k1 k2 : IntKind} {z1 z2 : Int} (j1 j2 : Nat) (ho : ops[i]? = some ⟨d, .slice t x (some lo) (some hi) none, ty, ps, af, g⟩) (hg : guardV ops F g = some true) (hd : dstOK n d = true)
    (hu : P.underlying t = some .string) (hx : ev? F x = some (.string (strB a))) (hl : ev? F lo = some (.int k1 z1)) (hh : ev? F hi = some (.int k2 z2)) (hj1 : z1 = (j1 : Int)) (hj2 : z2 = (j2 : Int)) (hle : j1 ≤ j2) (hle2 : j2 ≤ a.length)
    (h : Ex P n ops B dr K s (putE F d (.string (strB ((a.drop j1).take (j2 - j1))))) ds T w) : Ex P n ops B dr K ((i, false) :: s) F ds T w := x_sslh j1 j2 ho hg hd hu hx hl hh hj1 hj2 hle (by rw [strB_size]; exact hle2) (by rw [strB_ext]; exact h)

theorem x_max {k : IntKind} {a0 b0 : Int} {at0 : Array TypeId} (r : Int) (ho : ops[i]? = some ⟨d, .call ⟨.builtin .max, #[x, y], at0⟩, ty, ps, af, g⟩) (hg : guardV ops F g = some true) (hd : dstOK n d = true) (hx : ev? F x = some (.int k a0)) (hy : ev? F y = some (.int k b0)) (hr : (if a0 < b0 then b0 else a0) = r) (h : Ex P n ops B dr K s (putE F d (.int k r)) ds T w) : Ex P n ops B dr K ((i, false) :: s) F ds T w :=
  Ex.pure_ ho hg hd _ (fun a hk w' => by subst hr; simp [execOp, resolve, invoke, builtin, Builtin.max_, Builtin.max2, hk.eval hx, hk.eval hy]) h

/-- A text that is gone through. -/
theorem x_rngS {a : List UInt8} (ho : ops[i]? = some ⟨d, .range t x, ty, ps, af, g⟩) (hg : guardV ops F g = some true) (hd : dstOK n d = true) (hu : P.underlying t = some .string) (hx : ev? F x = some (.string (strB a)))
    (h : ∀ b w1, b = w.heap.size → w1 = w.alloc (.stringIter (strB a) 0) → pend B i T w1 ∧ Ex P n ops B dr K s (putE F d (.pointer (some ⟨b, 0, none⟩))) ds T w1) : Ex P n ops B dr K ((i, true) :: s) F ds T w :=
  Ex.mov_ ho hg hd (fun v w' => v = .pointer (some ⟨w.heap.size, 0, none⟩) ∧ w' = w.alloc (.stringIter (strB a) 0)) (fun at_ hk => by
    unfold OpR
    simp only [execOp, hk.eval hx, Sem.run_bind, run_range_string w t (strB a) hu, Result.andThen_ok, Sem.run_pure, nextR]
    first | exact ⟨rfl, rfl⟩ | exact ⟨trivial, rfl⟩ | trivial) (by rintro v w1 ⟨rfl, rfl⟩; exact h _ _ rfl rfl)

theorem run_nextS_end {b pos : Nat} {a : List UInt8} (hb : w.heap[b]? = some (.stringIter (strB a) pos)) (hp : ¬ pos < a.length) : (Instr.next (.pointer (some ⟨b, 0, none⟩)) true ty).run P w = .ok (.tuple #[.bool false]) w := by
  have : ¬ pos < (strB a).size := by rw [strB_size]; exact hp
  simp [Instr.next, getObj, Sem.run, hb, this]
theorem run_nextS {b pos : Nat} {a : List UInt8} (hb : w.heap[b]? = some (.stringIter (strB a) pos)) (hp : pos < a.length) :
    (Instr.next (.pointer (some ⟨b, 0, none⟩)) true ty).run P w = .ok (.tuple #[.bool true, .int .i64 pos, .int .i32 (Utf8.decode (strB a) pos).1]) (w.putObj b (.stringIter (strB a) (pos + (Utf8.decode (strB a) pos).2))) := by
  have h : pos < (strB a).size := by rw [strB_size]; exact hp
  simp only [Instr.next, getObj, setObj, Sem.run_bind, Sem.run, hb, Result.andThen, h, if_true]
  simp [goInt, World.putObj]

theorem x_nxtS_end {b pos : Nat} {a : List UInt8} (ho : ops[i]? = some ⟨d, .next x true, ty, ps, af, g⟩) (hg : guardV ops F g = some true) (hd : dstOK n d = true) (hx : ev? F x = some (.pointer (some ⟨b, 0, none⟩))) (hb : w.heap[b]? = some (.stringIter (strB a) pos)) (hp : ¬ pos < a.length)
    (hT : pend B i T w) (h : Ex P n ops B dr K s (putE F d (.tuple #[.bool false])) ds T w) : Ex P n ops B dr K ((i, true) :: s) F ds T w :=
  Ex.mov_ ho hg hd (fun v w' => v = .tuple #[.bool false] ∧ w' = w) (fun at_ hk => by
    unfold OpR
    simp only [execOp, hk.eval hx, Sem.run_bind, run_nextS_end hb hp, Result.andThen_ok, Sem.run_pure, nextR]
    first | exact ⟨rfl, rfl⟩ | exact ⟨trivial, rfl⟩ | trivial) (by rintro v w1 ⟨rfl, rfl⟩; exact ⟨hT, h⟩)
theorem x_nxtS {b pos : Nat} {a : List UInt8} (ho : ops[i]? = some ⟨d, .next x true, ty, ps, af, g⟩) (hg : guardV ops F g = some true) (hd : dstOK n d = true) (hx : ev? F x = some (.pointer (some ⟨b, 0, none⟩))) (hb : w.heap[b]? = some (.stringIter (strB a) pos)) (hp : pos < a.length)
    (h : ∀ w1, w1 = w.putObj b (.stringIter (strB a) (pos + (Utf8.decode (strB a) pos).2)) → pend B i T w1 ∧ Ex P n ops B dr K s (putE F d (.tuple #[.bool true, .int .i64 pos, .int .i32 (Utf8.decode (strB a) pos).1])) ds T w1) : Ex P n ops B dr K ((i, true) :: s) F ds T w :=
  Ex.mov_ ho hg hd (fun v w' => v = .tuple #[.bool true, .int .i64 pos, .int .i32 (Utf8.decode (strB a) pos).1] ∧ w' = w.putObj b (.stringIter (strB a) (pos + (Utf8.decode (strB a) pos).2))) (fun at_ hk => by
    unfold OpR
    simp only [execOp, hk.eval hx, Sem.run_bind, run_nextS hb hp, Result.andThen_ok, Sem.run_pure, nextR]
    first | exact ⟨rfl, rfl⟩ | exact ⟨trivial, rfl⟩ | trivial) (by rintro v w1 ⟨rfl, rfl⟩; exact h _ rfl)
end

/-- What 'next' tells of a text, at a place. -/
def nxtV (a : List UInt8) (pos : Nat) : Array Value := if pos < a.length then #[.bool true, .int .i64 pos, .int .i32 (Utf8.decode (strB a) pos).1] else #[.bool false]
def nxtP (a : List UInt8) (pos : Nat) : Nat := if pos < a.length then pos + (Utf8.decode (strB a) pos).2 else pos
theorem nxt0 (a : List UInt8) (pos : Nat) : (nxtV a pos)[0]? = some (.bool (decide (pos < a.length))) := by
  unfold nxtV; split <;> simp [*]
theorem nxt1 {a : List UInt8} {pos : Nat} (h : pos < a.length) : (nxtV a pos)[1]? = some (.int .i64 pos) := by simp [nxtV, h]
theorem nxt2 {a : List UInt8} {pos : Nat} (h : pos < a.length) : (nxtV a pos)[2]? = some (.int .i32 (Utf8.decode (strB a) pos).1) := by simp [nxtV, h]
theorem x_nxtU {P : Program} {n : Nat} {ops : Array Oper} {B : Array Nat} {dr : Bool} {K : KT} {s : List (Nat × Bool)} {F : Env} {ds : List Deferred} {T : List (Nat × (World → Prop))} {w : World} {i : Nat}
    {d : Option Tmp} {ty : TypeId} {ps : String} {af : Array Edge} {g : Option (Nat × Bool)} {x : Operand} {b pos : Nat} {a : List UInt8} (ho : ops[i]? = some ⟨d, .next x true, ty, ps, af, g⟩) (hg : guardV ops F g = some true) (hd : dstOK n d = true) (hx : ev? F x = some (.pointer (some ⟨b, 0, none⟩))) (hb : w.heap[b]? = some (.stringIter (strB a) pos))
    (h : ∀ w1, w1 = (if pos < a.length then w.putObj b (.stringIter (strB a) (pos + (Utf8.decode (strB a) pos).2)) else w) → pend B i T w1 ∧ Ex P n ops B dr K s (putE F d (.tuple (nxtV a pos))) ds T w1) : Ex P n ops B dr K ((i, true) :: s) F ds T w := by
  unfold nxtV at h
  by_cases hp : pos < a.length
  · simp only [hp, if_true] at h
    exact x_nxtS ho hg hd hx hb hp h
  · simp only [hp, if_false] at h
    exact x_nxtS_end ho hg hd hx hb hp (h _ rfl).1 (h _ rfl).2
theorem St.nxt {S : Nat → Prop} {w0 w w1 : World} {L : List (Nat × Obj)} {b pos : Nat} {a : List UInt8} (h : St S w0 L w) (k : Nat) (hk : L[k]? = some (b, .stringIter (strB a) pos)) (hw : w1 = (if pos < a.length then w.putObj b (.stringIter (strB a) (pos + (Utf8.decode (strB a) pos).2)) else w)) : St S w0 (L.set k (b, .stringIter (strB a) (nxtP a pos))) w1 := by
  unfold nxtP
  split
  · rename_i hp; rw [if_pos hp] at hw; exact h.put k hk hw
  · rename_i hp; rw [if_neg hp] at hw; subst hw
    have : L.set k (b, Obj.stringIter (strB a) pos) = L := by
      apply List.ext_getElem?
      intro j
      rw [List.getElem?_set]
      split
      · rename_i e; subst e; split
        · exact hk.symm
        · rename_i hl; rw [List.getElem?_eq_none (by omega)]
      · rfl
    rw [this]; exact h

theorem decode_lo {a : List UInt8} {pos : Nat} {c : UInt8} (hc : a[pos]? = some c) (h : c.toNat < 128) : Utf8.decode (strB a) pos = (c.toNat, 1) := by
  have hp : pos < a.length := (List.getElem?_eq_some_iff.1 hc).1
  have h1 : pos < (strB a).size := by rw [strB_size]; exact hp
  have e : (strB a)[pos]'h1 = c := by
    have := strB_get a pos
    rw [hc, getElem?_pos (strB a) pos h1] at this
    exact Option.some.inj this
  rw [decode_ascii (strB a) pos h1 (by rw [e]; exact h), e]
theorem decode_hi {a : List UInt8} {pos : Nat} {c : UInt8} (hc : a[pos]? = some c) (h : 128 ≤ c.toNat) : 128 ≤ (Utf8.decode (strB a) pos).1 ∧ 1 ≤ (Utf8.decode (strB a) pos).2 := by
  have hp : pos < a.length := (List.getElem?_eq_some_iff.1 hc).1
  have h1 : pos < (strB a).size := by rw [strB_size]; exact hp
  have e : (strB a)[pos]'h1 = c := by
    have := strB_get a pos
    rw [hc, getElem?_pos (strB a) pos h1] at this
    exact Option.some.inj this
  exact decode_high (strB a) pos h1 (by rw [e]; exact h)

/-- A call of a function that the model answers by itself. -/
theorem x_xcall {P : Program} {n : Nat} {ops : Array Oper} {B : Array Nat} {dr : Bool} {K : KT} {s : List (Nat × Bool)} {F : Env} {ds : List Deferred} {T : List (Nat × (World → Prop))} {w : World} {i : Nat}
    {d : Option Tmp} {ty : TypeId} {ps : String} {af : Array Edge} {g : Option (Nat × Bool)} {x : Operand} {args : Array Operand} {at0 : Array TypeId} {f : FuncId} {fn : Func} {vs : List Value} {v : Value} {e : Array Value → Sem Value} (ho : ops[i]? = some ⟨d, .call ⟨.value x, args, at0⟩, ty, ps, af, g⟩) (hg : guardV ops F g = some true) (hd : dstOK n d = true)
    (hx : ev? F x = some (.func (.func f) #[] #[])) (hargs : evs? F args.toList = some vs) (hf : P.funcs[f]? = some fn) (hname : (fn.name == "runtime.NumGoroutine") = false) (hb : fn.body.isNone = true) (hn : Extern.findNext fn = none) (he : Extern.find fn = some e)
    (hr : (e vs.toArray).run P w = .ok v w) (hT : pend B i T w) (h : Ex P n ops B dr K s (putE F d v) ds T w) : Ex P n ops B dr K ((i, true) :: s) F ds T w :=
  Ex.mov_ ho hg hd (fun v' w' => v' = v ∧ w' = w) (fun a hk => by
    unfold OpR
    simp only [execOp, resolve, hk.eval hx, evs_array hk hargs, Deferred.ofValue, Sem.run_bind, Sem.run_pure, Result.andThen_ok, invoke, run_callFunc_extern hf hname hb hn he]
    simp [hr, Result.andThen, nextR]) (by rintro v' w' ⟨rfl, rfl⟩; exact ⟨hT, h⟩)

/-! ## Slices, told by their blocks -/
/-- A slice among these blocks: n elements of m cells. -/
def SlL (L : List (Nat × Obj)) (v : Value) (m n : Nat) (cs : List Value) : Prop :=
  (v = .slice none 0 0 ∧ n = 0 ∧ cs = []) ∨
  ∃ b off cap all T fr, v = .slice (some ⟨b, off, none⟩) n cap ∧ n ≤ cap ∧ (b, Obj.cells all T fr) ∈ L ∧ (all.toList.drop off).take (n * m) = cs ∧ cs.length = n * m
/-- A slice of one's own: its block alone. -/
def OwL (L : List (Nat × Obj)) (v : Value) (m n : Nat) (cs : List Value) : Prop :=
  (v = .slice none 0 0 ∧ n = 0 ∧ cs = [] ∧ L = []) ∨
  ∃ b cap rest T, v = .slice (some ⟨b, 0, none⟩) n cap ∧ L = [(b, .cells (cs ++ rest).toArray T (0, 0))] ∧ cs.length = n * m ∧ (cs ++ rest).length = cap * m

section
variable {P : Program} {S : Nat → Prop} {w0 w w1 : World} {L L' : List (Nat × Obj)} {v : Value} {m k : Nat} {cs : List Value}
theorem SlL.at_ (h : SlL L v m k cs) (M : St S w0 L' w) (hs : ∀ x ∈ L, x ∈ L') : Sl w v m k cs := by
  rcases h with h | ⟨b, off, cap, all, T, fr, h1, h2, h3, h4⟩
  · exact .inl h
  · exact .inr ⟨b, off, cap, all, T, fr, h1, h2, M.get (hs _ h3), h4⟩
theorem SlL.mono (h : SlL L v m k cs) (hs : ∀ x ∈ L, x ∈ L') : SlL L' v m k cs := by
  rcases h with h | ⟨b, off, cap, all, T, fr, h1, h2, h3, h4⟩
  · exact .inl h
  · exact .inr ⟨b, off, cap, all, T, fr, h1, h2, hs _ h3, h4⟩
theorem OwL.sl (h : OwL L v m k cs) (hm : 0 < m) : SlL L v m k cs := by
  rcases h with ⟨h1, h2, h3, _⟩ | ⟨b, cap, rest, T, h1, rfl, h3, h4⟩
  · exact .inl ⟨h1, h2, h3⟩
  · refine .inr ⟨b, 0, cap, _, T, (0, 0), h1, ?_, List.mem_singleton.2 rfl, by simp [← h3], h3⟩
    have : k * m ≤ cap * m := by rw [← h3, ← h4]; simp
    exact Nat.le_of_mul_le_mul_right this hm
theorem OwL.ows (h : OwL L v m k cs) (M : St S w0 L' w) (hs : ∀ x ∈ L, x ∈ L') : OwS w v m k cs := by
  rcases h with ⟨h1, h2, h3, _⟩ | ⟨b, cap, rest, T, h1, rfl, h3, h4⟩
  · exact .inl ⟨h1, h2, h3⟩
  · exact .inr ⟨b, cap, rest, T, h1, M.get (hs _ (List.mem_singleton.2 rfl)), h3, h4⟩
theorem OwL.nil : OwL [] (.slice none 0 0) m 0 [] := .inl ⟨rfl, rfl, rfl, rfl⟩
theorem OwL.shape (h : OwL L v m k cs) : ∃ p cap, v = .slice p k cap := by
  rcases h with ⟨rfl, rfl, _⟩ | ⟨b, cap, rest, T, h1, _⟩
  · exact ⟨none, 0, rfl⟩
  · exact ⟨_, cap, h1⟩
theorem OwL.shape2 (h : OwL L v m k cs) (hm : 0 < m) : ∃ p cap, v = .slice p k cap ∧ k ≤ cap := by
  rcases h with ⟨rfl, rfl, _⟩ | ⟨b, cap, rest, T, h1, _, h3, h4⟩
  · exact ⟨none, 0, rfl, Nat.le_refl _⟩
  · refine ⟨_, cap, h1, ?_⟩
    have : k * m ≤ cap * m := by rw [← h3, ← h4]; simp
    exact Nat.le_of_mul_le_mul_right this hm
theorem SlL.shape (h : SlL L v m k cs) : ∃ p cap, v = .slice p k cap := by
  rcases h with ⟨rfl, rfl, _⟩ | ⟨b, off, cap, all, T, fr, h1, _⟩
  · exact ⟨none, 0, rfl⟩
  · exact ⟨_, cap, h1⟩
theorem OwL.len (h : OwL L v m k cs) : cs.length = k * m := by
  rcases h with ⟨rfl, rfl, rfl, _⟩ | ⟨b, cap, rest, T, h1, _, h2, _⟩
  · simp
  · exact h2
theorem Sl.shape (h : Sl w v m k cs) : ∃ p cap, v = .slice p k cap := by
  rcases h with ⟨rfl, rfl, _⟩ | ⟨b, off, cap, all, T, fr, h1, _⟩
  · exact ⟨none, 0, rfl⟩
  · exact ⟨_, cap, h1⟩
theorem Sl.new (h : Sl w v m k cs) (hn : New w w1) : Sl w1 v m k cs := h.same fun b hb => hn.old b (h.lt b hb) id
theorem Sl.len (h : Sl w v m k cs) : cs.length = k * m := by
  rcases h with ⟨rfl, rfl, rfl⟩ | ⟨b, off, cap, all, T, fr, h1, _, _, _, h2⟩
  · simp
  · exact h2

theorem OwL.take {p : Option Addr} {len cap j : Nat} (h : OwL L (.slice p len cap) m k cs) (hj : j ≤ k) : OwL L (.slice p j cap) m j (cs.take (j * m)) := by
  rcases h with ⟨h1, rfl, rfl, rfl⟩ | ⟨b, cap', rest, T, h1, rfl, h3, h4⟩
  · have : j = 0 := by omega
    subst this
    cases h1
    exact .inl ⟨rfl, rfl, by simp, rfl⟩
  · cases h1
    have hle : j * m ≤ k * m := Nat.mul_le_mul_right _ hj
    refine .inr ⟨b, cap, cs.drop (j * m) ++ rest, T, rfl, ?_, by rw [List.length_take, h3]; omega, ?_⟩
    · rw [← List.append_assoc, List.take_append_drop]
    · rw [← List.append_assoc, List.take_append_drop]; exact h4

/-- A slice that was made, told by its block. -/
theorem OwS.owl (h : OwS w1 v m k cs) (hn : New w w1) (hf : ∀ b, blkOf v = some b → w.heap.size ≤ b) : ∃ L', Sep w L' w1 ∧ OwL L' v m k cs := by
  rcases h with ⟨rfl, rfl, rfl⟩ | ⟨b, cap, rest, T, rfl, hb, h1, h2⟩
  · exact ⟨[], hn, OwL.nil⟩
  · exact ⟨[(b, _)], ⟨hn.size, hn.old, by simp, by simp [hb, hf b rfl], hn.os, hn.tape, hn.output⟩, .inr ⟨b, cap, rest, T, rfl, rfl, h1, h2⟩⟩
end

/-- append to a slice of one's own. -/
theorem x_apL {P : Program} {n : Nat} {ops : Array Oper} {B : Array Nat} {dr : Bool} {K : KT} {s : List (Nat × Bool)} {F : Env} {ds : List Deferred} {T : List (Nat × (World → Prop))} {w : World} {i : Nat}
    {d : Option Tmp} {ty : TypeId} {ps : String} {af : Array Edge} {gd : Option (Nat × Bool)} {x y : Operand} {t tx e m bts k nn : Nat} {z0 xv sv : Value} {cs news : List Value} {at0 : Array TypeId} {S : Nat → Prop} {w0 : World} {L L0 : List (Nat × Obj)} (ho : ops[i]? = some ⟨d, .call ⟨.builtin .append, #[x, y], at0⟩, ty, ps, af, gd⟩) (hg : guardV ops F gd = some true) (hd : dstOK n d = true)
    (hat : at0 = #[t, tx]) (ht : P.underlying t = some (.slice e)) (hm : szOf P e = some m) (hz : zeroOf P e = some z0) (hzm : z0.cells.size = m) (hby : bytesOf' P e = some bts)
    (hx : ev? F x = some sv) (hy : ev? F y = some xv) (hv : OwL L sv m nn cs) (M : St S w0 (L ++ L0) w) (hcs : ∀ u ∈ cs, u.oneCell' = true) (hs : Src P m tx xv k news w) (hfit : (nn + k) * bts ≤ 70368744177664) (hb : bts ≤ 1048576) (h63 : nn + k ≤ 9223372036854775807)
    (h : ∀ L' v' w1, OwL L' v' m (nn + k) (cs ++ news) → St S w0 (L' ++ L0) w1 → pend B i T w1 ∧ Ex P n ops B dr K s (putE F d v') ds T w1) : Ex P n ops B dr K ((i, true) :: s) F ds T w := by
  refine x_app ho hg hd hat ht hm hz hzm hby hx hy (hv.ows M (fun x hx => List.mem_append_left _ hx)) hcs hs hfit hb h63 (fun v' w1 h1 h2 => ?_)
  have key : ∀ b, blkOf v' = some b → ∃ cap rest T, v' = .slice (some ⟨b, 0, none⟩) (nn + k) cap ∧ w1.heap[b]? = some (.cells ((cs ++ news) ++ rest).toArray T (0, 0)) ∧ (cs ++ news).length = (nn + k) * m ∧ ((cs ++ news) ++ rest).length = cap * m := by
    intro b hb
    rcases h1 with ⟨rfl, _⟩ | ⟨b', cap, rest, T, rfl, g1, g2, g3⟩
    · cases hb
    · cases hb; exact ⟨cap, rest, T, rfl, g1, g2, g3⟩
  rcases h2 with ⟨rfl, rfl, rfl, rfl⟩ | ⟨b, o, g1, g2, rfl⟩ | ⟨g1, o, rfl⟩
  · rcases hv with ⟨_, rfl, rfl, rfl⟩ | ⟨b, cap, rest, T, g, _⟩
    · have h0 : news = [] := by have := hs.newsLen; simpa using this
      subst h0
      exact h [] _ _ OwL.nil M
    · cases g
  · obtain ⟨cap, rest, T, rfl, g3, g4, g5⟩ := key b g2
    rcases hv with ⟨rfl, _⟩ | ⟨b', cap', rest', T', rfl, rfl, g6, g7⟩
    · cases g1
    · cases g1
      have M1 := M.put 0 (b := b') (o0 := .cells (cs ++ rest').toArray T' (0, 0)) (o := o) rfl rfl
      have M1 : St S w0 ([(b', o)] ++ L0) (w.putObj b' o) := M1
      have g8 := M1.at_ 0 (b := b') (o := o) rfl
      rw [g3] at g8; cases g8
      exact h [(b', _)] _ _ (.inr ⟨b', cap, rest, T, rfl, rfl, g4, g5⟩) M1
  · obtain ⟨cap, rest, T, rfl, g3, g4, g5⟩ := key _ g1
    have M1 := (M.drew rfl).acons (b := w.heap.size) rfl (o := o) rfl
    have g8 := M1.at_ 0 (b := w.heap.size) (o := o) rfl
    rw [g3] at g8; cases g8
    refine h [(w.heap.size, _)] _ _ (.inr ⟨_, cap, rest, T, rfl, rfl, g4, g5⟩) (M1.sub ?_)
    exact List.Sublist.cons_cons _ (List.sublist_append_right _ _)

/-- A slice literal. -/
theorem x_bsN {P : Program} {n : Nat} {ops : Array Oper} {B : Array Nat} {dr : Bool} {K : KT} {s : List (Nat × Bool)} {F : Env} {ds : List Deferred} {T : List (Nat × (World → Prop))} {w : World} {i : Nat}
    {d : Option Tmp} {ty : TypeId} {ps : String} {af : Array Edge} {gd : Option (Nat × Bool)} {t e : TypeId} {m N : Nat} {z : Value} {Z : List Value} {parts : Array (Nat × Operand)} {vs : List (Nat × Value)} (cells : List Value) (ho : ops[i]? = some ⟨d, .buildSlice t N parts, ty, ps, af, gd⟩) (hg : guardV ops F gd = some true) (hd : dstOK n d = true)
    (ht : P.underlying t = some (.slice e)) (hm : szOf P e = some m) (hz : zeroOf P e = some z) (hZ : z.cells = Z.toArray) (hZm : Z.length = m) (h0 : 0 < N * m) (h24 : N * m ≤ 16777216)
    (hx : evps? F parts.toList = some vs) (hf : Instr.fill (fun i => some (i * m, m)) ((Array.range (N * m)).map fun i => Z.toArray[i % Z.toArray.size]!) vs = some cells.toArray)
    (h : ∀ b w1, b = w.heap.size → w1 = w.alloc (.cells cells.toArray e) → pend B i T w1 ∧ Ex P n ops B dr K s (putE F d (.slice (some ⟨b, 0, none⟩) N N)) ds T w1) : Ex P n ops B dr K ((i, true) :: s) F ds T w := by
  obtain ⟨h1, h2⟩ := h _ _ rfl rfl
  have hm0 : m ≠ 0 := by rintro rfl; simp at h0
  have run : (Instr.buildSlice t N vs.toArray).run P w = .ok (.slice (some ⟨w.heap.size, 0, none⟩) N N) (w.alloc (.cells cells.toArray e)) := by
    unfold Instr.buildSlice
    simp only [Sem.run_bind, run_underlying ht, Result.andThen_ok, run_sizeOf' hm]
    rw [if_neg (by omega), if_neg (by omega)]
    simp only [Sem.run_bind, run_zero' hz, Result.andThen_ok, Sem.run_pure, hZ]
    have hf2 := hf
    simp only [List.size_toArray] at hf2 ⊢
    rw [hf2]
    simp [newRow]
  refine x_mv ho hg hd (v := .slice (some ⟨w.heap.size, 0, none⟩) N N) (w1 := w.alloc (.cells cells.toArray e)) (fun at_ hk => ?_) h1 h2
  simp only [execOp, evps_array hk hx, Sem.run_bind]
  rw [run]
  rfl

/-- A slice that is given: where it is empty nothing is asked of its block. -/
def Sg (w : World) (v : Value) (m n : Nat) (cs : List Value) : Prop := (n = 0 ∧ cs = [] ∧ ∃ p cap, v = .slice p 0 cap) ∨ Sl w v m n cs
section
variable {P : Program} {w w1 : World} {v : Value} {m n : Nat} {cs : List Value}
theorem Sg.shape (h : Sg w v m n cs) : ∃ p cap, v = .slice p n cap := by
  rcases h with ⟨rfl, _, p, cap, rfl⟩ | h
  · exact ⟨p, cap, rfl⟩
  · exact h.shape
theorem Sg.new (h : Sg w v m n cs) (hn : New w w1) : Sg w1 v m n cs := h.imp id fun h => h.new hn
theorem Sg.len (h : Sg w v m n cs) : cs.length = n * m := by
  rcases h with ⟨rfl, rfl, _⟩ | h
  · simp
  · exact h.len
theorem Sg.sl (h : Sg w v m n cs) (hn : n ≠ 0) : Sl w v m n cs := h.resolve_left fun e => hn e.1
theorem Sg.src (h : Sg w v m n cs) {tx e' : TypeId} (hk : P.underlying tx = some (.slice e')) (h1 : ∀ u ∈ cs, u.oneCell' = true) : Src P m tx v n cs w := by
  rcases h with ⟨rfl, rfl, p, cap, rfl⟩ | h
  · cases p with
    | none => exact Src.ofNil w hk cap
    | some a => exact Src.ofSlice w hk a 0 cap [] (by simp) (fun j u hu => by simp at hu) (by simp)
  · exact h.src hk h1
end

/-! ## Rows of strings -/
def strCs (l : List (List UInt8)) : List Value := l.map strV
theorem strCs_one (l : List (List UInt8)) : ∀ u ∈ strCs l, u.oneCell' = true := by
  intro u hu; obtain ⟨x, _, rfl⟩ := List.mem_map.1 hu; rfl
theorem strCs_len (l : List (List UInt8)) : (strCs l).length = l.length := by simp [strCs]
theorem strCs_app (a b : List (List UInt8)) : strCs (a ++ b) = strCs a ++ strCs b := by simp [strCs]
theorem strCs_take (a : List (List UInt8)) (j : Nat) : (strCs a).take j = strCs (a.take j) := by simp [strCs, List.map_take]
theorem strCs_get {l : List (List UInt8)} {j : Nat} {x : List UInt8} (h : l[j]? = some x) : (strCs l)[j]? = some (strV x) := by simp [strCs, h]
/-- A slice that holds these texts. -/
abbrev StrsAt (w : World) (v : Value) (l : List (List UInt8)) : Prop := Sg w v 1 l.length (strCs l)
abbrev StrsL (L : List (Nat × Obj)) (v : Value) (l : List (List UInt8)) : Prop := SlL L v 1 l.length (strCs l)
abbrev StrsO (L : List (Nat × Obj)) (v : Value) (l : List (List UInt8)) : Prop := OwL L v 1 l.length (strCs l)

theorem strsO_snoc {L : List (Nat × Obj)} {v : Value} {A : List (List UInt8)} {n : List UInt8} (h : OwL L v 1 (A.length + 1) (strCs A ++ [strV n])) : StrsO L v (A ++ [n]) := by
  have e1 : (A ++ [n]).length = A.length + 1 := by simp
  have e2 : strCs (A ++ [n]) = strCs A ++ [strV n] := by simp [strCs]
  unfold StrsO; rw [e1, e2]; exact h
theorem strsO_at {S : Nat → Prop} {w0 w : World} {L Lo : List (Nat × Obj)} {v : Value} {A : List (List UInt8)} (h : StrsO Lo v A) (M : St S w0 L w) (hs : ∀ x ∈ Lo, x ∈ L) : StrsAt w v A := .inr ((OwL.sl h (by decide)).at_ M hs)
theorem strsO_take {L : List (Nat × Obj)} {p : Option Addr} {len cap j : Nat} {A : List (List UInt8)} (h : StrsO L (.slice p len cap) A) (hj : j ≤ A.length) : StrsO L (.slice p j cap) (A.take j) := by
  have h1 := OwL.take h hj
  have e1 : (A.take j).length = j := by simp; omega
  have e2 : strCs (A.take j) = (strCs A).take (j * 1) := by simp [strCs, List.map_take]
  unfold StrsO; rw [e1, e2]; exact h1
theorem Sg.blk {w : World} {p : Option Addr} {len cap m n j : Nat} {cs : List Value} (h : Sg w (.slice p len cap) m n cs) (hj : j < n) : ∃ b off, p = some ⟨b, off, none⟩ ∧ len = n := by
  rcases h.sl (by omega) with ⟨_, h2, _⟩ | ⟨b, off, cap', all, T, fr, h1, _⟩
  · omega
  · cases h1; exact ⟨b, off, rfl, rfl⟩
theorem Sl.blk {w : World} {p : Option Addr} {len cap m n j : Nat} {cs : List Value} (h : Sl w (.slice p len cap) m n cs) (hj : j < n) : ∃ b off, p = some ⟨b, off, none⟩ ∧ len = n := by
  rcases h with ⟨_, h2, _⟩ | ⟨b, off, cap', all, T, fr, h1, _⟩
  · omega
  · cases h1; exact ⟨b, off, rfl, rfl⟩
theorem Sl.cell1 {w : World} {b off n cap j : Nat} {cs : List Value} {u : Value} (h : Sl w (.slice (some ⟨b, off, none⟩) n cap) 1 n cs) (hu : cs[j]? = some u) : w.cell? ⟨b, off + j * 1, none⟩ = some u := by
  have := h.cell (j := j) (q := 0) rfl (by simpa using hu)
  simpa using this
theorem StrsAt.cell {w : World} {b off n cap j : Nat} {l : List (List UInt8)} {x : List UInt8} (h : StrsAt w (.slice (some ⟨b, off, none⟩) n cap) l) (hx : l[j]? = some x) : w.cell? ⟨b, off + j * 1, none⟩ = some (strV x) := by
  have hj : j < l.length := (List.getElem?_eq_some_iff.1 hx).1
  have h := h.sl (by omega)
  have hn : n = l.length := by
    rcases h with ⟨h1, _⟩ | ⟨_, _, _, _, _, _, h1, _⟩
    · cases h1
    · cases h1; rfl
  subst hn
  exact Sl.cell1 h (strCs_get hx)
end Go.Fw
