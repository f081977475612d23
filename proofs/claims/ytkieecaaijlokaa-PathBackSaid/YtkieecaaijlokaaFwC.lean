/-
  Part C: one law an operation.
-/
import Derived.Test.YtkieecaaijlokaaFwB
namespace Go.Fw
open Go
set_option linter.unusedVariables false
set_option linter.unusedSimpArgs false
section
variable {P : Program} {n : Nat} {ops : Array Oper} {B : Array Nat} {dr : Bool} {K : KT} {s : List (Nat × Bool)} {F : Env} {ds : List Deferred} {T : List (Nat × (World → Prop))} {w : World} {i : Nat}
variable {d : Option Tmp} {ty : TypeId} {ps : String} {af : Array Edge} {g : Option (Nat × Bool)}

theorem x_move {x : Operand} {v : Value} (ho : ops[i]? = some ⟨d, .move x, ty, ps, af, g⟩) (hg : guardV ops F g = some true) (hd : dstOK n d = true) (hx : ev? F x = some v) (h : Ex P n ops B dr K s (putE F d (v)) ds T w) : Ex P n ops B dr K ((i, false) :: s) F ds T w :=
  Ex.pure_ ho hg hd _ (fun a hk w' => by simp only [execOp, hk.eval hx, Sem.run_pure]) h

theorem x_assign {x : Operand} {v : Value} (ho : ops[i]? = some ⟨d, .assign x, ty, ps, af, g⟩) (hg : guardV ops F g = some true) (hd : dstOK n d = true) (hx : ev? F x = some v) (h : Ex P n ops B dr K s (putE F d (v)) ds T w) : Ex P n ops B dr K ((i, false) :: s) F ds T w :=
  Ex.pure_ ho hg hd _ (fun a hk w' => by simp only [execOp, hk.eval hx, Sem.run_pure]) h

theorem x_pickT {c x y : Operand} {v : Value} (ho : ops[i]? = some ⟨d, .pick c x y, ty, ps, af, g⟩) (hg : guardV ops F g = some true) (hd : dstOK n d = true) (hc : ev? F c = some (.bool true)) (hx : ev? F x = some v) (h : Ex P n ops B dr K s (putE F d (v)) ds T w) : Ex P n ops B dr K ((i, false) :: s) F ds T w :=
  Ex.pure_ ho hg hd _ (fun a hk w' => by simp only [execOp, hk.eval hx, hk.eval hc, asBool]; rfl) h

theorem x_pickF {c x y : Operand} {v : Value} (ho : ops[i]? = some ⟨d, .pick c x y, ty, ps, af, g⟩) (hg : guardV ops F g = some true) (hd : dstOK n d = true) (hc : ev? F c = some (.bool false)) (hx : ev? F y = some v) (h : Ex P n ops B dr K s (putE F d (v)) ds T w) : Ex P n ops B dr K ((i, false) :: s) F ds T w :=
  Ex.pure_ ho hg hd _ (fun a hk w' => by simp only [execOp, hk.eval hx, hk.eval hc, asBool]; rfl) h

def nilOK : Value → Bool | .pointer none => false | .nilIface => false | .nilFunc => false | .func (.method _) _ _ => false | _ => true

theorem x_nilp {x : Operand} {p : Addr} (ho : ops[i]? = some ⟨d, .nilCheck x, ty, ps, af, g⟩) (hg : guardV ops F g = some true) (hd : dstOK n d = true) (hx : ev? F x = some (.pointer (some p))) (h : Ex P n ops B dr K s (putE F d (.pointer (some p))) ds T w) : Ex P n ops B dr K ((i, false) :: s) F ds T w :=
  Ex.pure_ ho hg hd _ (fun a hk w' => by simp only [execOp, hk.eval hx, Sem.run_pure]) h

theorem run_nilCheck_ok {v : Value} (h : nilOK v = true) (o : Oper) (x : Operand) (ho : o.op = .nilCheck x) (ρ : Operand → Value) (hx : ρ x = v) (w : World) : (execOp ρ o).run P w = .ok (.value v) w := by
  unfold execOp
  rw [ho]
  simp only [hx]
  cases v with
  | pointer p => cases p with | none => cases h | some p => rfl
  | nilIface => cases h
  | nilFunc => cases h
  | func fn f c => cases fn <;> first | rfl | cases h
  | _ => rfl

theorem x_nil {x : Operand} {v : Value} (ho : ops[i]? = some ⟨d, .nilCheck x, ty, ps, af, g⟩) (hg : guardV ops F g = some true) (hd : dstOK n d = true) (hx : ev? F x = some v) (hv : nilOK v = true) (h : Ex P n ops B dr K s (putE F d (v)) ds T w) : Ex P n ops B dr K ((i, false) :: s) F ds T w :=
  Ex.pure_ ho hg hd _ (fun a hk w' => by exact run_nilCheck_ok hv _ x rfl _ (hk.eval hx) w') h

theorem run_fieldAt {s0 : TypeId} {b off f k : Nat} {w : World} (h : foOf P s0 f = some k) : (Instr.fieldAt s0 (.pointer (some ⟨b, off, none⟩)) f).run P w = .ok (.pointer (some ⟨b, off + k, none⟩)) w := by
  unfold foOf at h
  split at h
  · rename_i fs hu
    split at h
    · rename_i fd hf
      split at h
      · rename_i m hs
        simp only [Option.some.injEq] at h
        unfold Instr.fieldAt
        rw [Sem.run_bind, run_underlying hu]
        simp only [Result.andThen_ok, hf, Instr.sureAddr]
        simp only [Sem.run_bind, Sem.run_pure, Result.andThen_ok, fieldPlace, run_sizeOf' hs]
        simp only [Nat.add_one_ne_zero, if_false, Sem.run_pure, Result.andThen_ok]
        unfold Addr.add
        split
        · rename_i h0; rw [← h, h0]; simp
        · rw [← h]
      · cases h
    · cases h
  · cases h

theorem x_fa {s0 f : Nat} {x : Operand} {b off k : Nat} (ho : ops[i]? = some ⟨d, .fieldAddr s0 x f, ty, ps, af, g⟩) (hg : guardV ops F g = some true) (hd : dstOK n d = true) (hf : foOf P s0 f = some k) (hx : ev? F x = some (.pointer (some ⟨b, off, none⟩))) (h : Ex P n ops B dr K s (putE F d (.pointer (some ⟨b, off + k, none⟩))) ds T w) : Ex P n ops B dr K ((i, false) :: s) F ds T w :=
  Ex.pure_ ho hg hd _ (fun a hk w' => by simp only [execOp, hk.eval hx, Sem.run_bind, run_fieldAt hf, Result.andThen_ok, Sem.run_pure]) h

theorem run_indexAt_slice {t e m b off len cp j : Nat} {k : IntKind} {w : World} (hu : P.underlying t = some (.slice e)) (hs : szOf P e = some m) (hlt : j < len) :
    (Instr.indexAt t (.slice (some ⟨b, off, none⟩) len cp) (.int k (j : Int))).run P w = .ok (.pointer (some ⟨b, off + j * m, none⟩)) w := by
  unfold Instr.indexAt
  simp only [asIntOf, Sem.run_bind, Sem.run_pure, Result.andThen_ok, run_underlying hu, run_sizeOf' hs]
  rw [if_pos ⟨by omega, by omega⟩]
  simp only [Sem.run_bind, run_sizeOf' hs, Result.andThen_ok, Sem.run_pure, Int.toNat_natCast]
  unfold Addr.add
  split
  · rename_i h0; rw [h0]; simp
  · rfl
theorem run_indexAt_arr {t e m b off len j : Nat} {k : IntKind} {w : World} (hu : P.underlying t = some (.array len e)) (hs : szOf P e = some m) (hlt : j < len) :
    (Instr.indexAt t (.pointer (some ⟨b, off, none⟩)) (.int k (j : Int))).run P w = .ok (.pointer (some ⟨b, off + j * m, none⟩)) w := by
  unfold Instr.indexAt
  simp only [asIntOf, Sem.run_bind, Sem.run_pure, Result.andThen_ok, run_underlying hu, Instr.sureAddr, run_sizeOf' hs]
  rw [if_pos ⟨by omega, by omega⟩]
  simp only [Sem.run_bind, run_sizeOf' hs, Result.andThen_ok, Sem.run_pure, Int.toNat_natCast]
  unfold Addr.add
  split
  · rename_i h0; rw [h0]; simp
  · rfl

theorem x_ia {t e m b off len cp : Nat} {x ix : Operand} {k : IntKind} {z : Int} (j : Nat) (ho : ops[i]? = some ⟨d, .indexAddr t x ix, ty, ps, af, g⟩) (hg : guardV ops F g = some true) (hd : dstOK n d = true) (hu : P.underlying t = some (.slice e)) (hs : szOf P e = some m) (hx : ev? F x = some (.slice (some ⟨b, off, none⟩) len cp)) (hi : ev? F ix = some (.int k z)) (hj : z = (j : Int)) (hlt : j < len) (h : Ex P n ops B dr K s (putE F d (.pointer (some ⟨b, off + j * m, none⟩))) ds T w) : Ex P n ops B dr K ((i, false) :: s) F ds T w :=
  Ex.pure_ ho hg hd _ (fun a hk w' => by subst hj; simp only [execOp, hk.eval hx, hk.eval hi, Sem.run_bind, run_indexAt_slice hu hs hlt, Result.andThen_ok, Sem.run_pure]) h

theorem x_iaA {t e m b off len : Nat} {x ix : Operand} {k : IntKind} {z : Int} (j : Nat) (ho : ops[i]? = some ⟨d, .indexAddr t x ix, ty, ps, af, g⟩) (hg : guardV ops F g = some true) (hd : dstOK n d = true) (hu : P.underlying t = some (.array len e)) (hs : szOf P e = some m) (hx : ev? F x = some (.pointer (some ⟨b, off, none⟩))) (hi : ev? F ix = some (.int k z)) (hj : z = (j : Int)) (hlt : j < len) (h : Ex P n ops B dr K s (putE F d (.pointer (some ⟨b, off + j * m, none⟩))) ds T w) : Ex P n ops B dr K ((i, false) :: s) F ds T w :=
  Ex.pure_ ho hg hd _ (fun a hk w' => by subst hj; simp only [execOp, hk.eval hx, hk.eval hi, Sem.run_bind, run_indexAt_arr hu hs hlt, Result.andThen_ok, Sem.run_pure]) h

theorem run_index_str {t j : Nat} {b : ByteArray} {k : IntKind} {c : UInt8} {w : World} (hu : P.underlying t = some .string) (hc : b[j]? = some c) :
    (Instr.index t (.string b) (.int k (j : Int))).run P w = .ok (.int .u8 c.toNat) w := by
  unfold Instr.index
  simp only [asIntOf, Sem.run_bind, Sem.run_pure, Result.andThen_ok, run_underlying hu]
  rw [if_pos (by omega)]
  simp only [Int.toNat_natCast, hc, Sem.run_pure]

theorem x_ixs {t : Nat} {x ix : Operand} {k : IntKind} {z : Int} {b : ByteArray} {c : UInt8} (j : Nat) (ho : ops[i]? = some ⟨d, .index t x ix, ty, ps, af, g⟩) (hg : guardV ops F g = some true) (hd : dstOK n d = true) (hu : P.underlying t = some .string) (hx : ev? F x = some (.string b)) (hi : ev? F ix = some (.int k z)) (hj : z = (j : Int)) (hc : b[j]? = some c) (h : Ex P n ops B dr K s (putE F d (.int .u8 (c.toNat : Int))) ds T w) : Ex P n ops B dr K ((i, false) :: s) F ds T w :=
  Ex.pure_ ho hg hd _ (fun a hk w' => by subst hj; simp only [execOp, hk.eval hx, hk.eval hi, Sem.run_bind, run_index_str hu hc, Result.andThen_ok, Sem.run_pure]) h

theorem x_ext {x : Operand} {ix : Nat} {vs : Array Value} {v : Value} (ho : ops[i]? = some ⟨d, .extract x ix, ty, ps, af, g⟩) (hg : guardV ops F g = some true) (hd : dstOK n d = true) (hx : ev? F x = some (.tuple vs)) (hv : vs[ix]? = some v) (h : Ex P n ops B dr K s (putE F d (v)) ds T w) : Ex P n ops B dr K ((i, false) :: s) F ds T w :=
  Ex.pure_ ho hg hd _ (fun a hk w' => by simp only [execOp, hk.eval hx, Instr.extract, hv, Sem.run_bind, Sem.run_pure, Result.andThen_ok]) h

theorem x_not {t : Nat} {x : Operand} {b : Bool} (r : Bool) (ho : ops[i]? = some ⟨d, .unOp .not t x, ty, ps, af, g⟩) (hg : guardV ops F g = some true) (hd : dstOK n d = true) (hx : ev? F x = some (.bool b)) (hr : (!b) = r) (h : Ex P n ops B dr K s (putE F d (.bool r)) ds T w) : Ex P n ops B dr K ((i, false) :: s) F ds T w :=
  Ex.pure_ ho hg hd _ (fun a hk w' => by subst hr; simp only [execOp, hk.eval hx, Op.unary, Sem.run_bind, Sem.run_pure, Result.andThen_ok]) h

theorem x_neg {t : Nat} {x : Operand} {k : IntKind} {z : Int} (r : Int) (ho : ops[i]? = some ⟨d, .unOp .neg t x, ty, ps, af, g⟩) (hg : guardV ops F g = some true) (hd : dstOK n d = true) (hx : ev? F x = some (.int k z)) (hr : k.wrap (0 - z) = r) (h : Ex P n ops B dr K s (putE F d (.int k r)) ds T w) : Ex P n ops B dr K ((i, false) :: s) F ds T w :=
  Ex.pure_ ho hg hd _ (fun a hk w' => by subst hr; simp only [execOp, hk.eval hx, Op.unary, Op.intArith, Sem.run_bind, Sem.run_pure, Result.andThen_ok]) h

theorem x_add {t t2 : Nat} {x y : Operand} {k : IntKind} {a0 b0 : Int} (r : Int) (ho : ops[i]? = some ⟨d, .binOp .add t x y t2, ty, ps, af, g⟩) (hg : guardV ops F g = some true) (hd : dstOK n d = true) (hx : ev? F x = some (.int k a0)) (hy : ev? F y = some (.int k b0)) (hr : k.wrap (a0 + b0) = r) (h : Ex P n ops B dr K s (putE F d (.int k r)) ds T w) : Ex P n ops B dr K ((i, false) :: s) F ds T w :=
  Ex.pure_ ho hg hd _ (fun a hk w' => by subst hr; simp only [execOp, hk.eval hx, hk.eval hy, Sem.run_bind, eqGuard, binOp, Op.intArith, ne_eq, not_true_eq_false, if_false, Bool.not_false, if_true, Sem.run_pure, Result.andThen_ok]) h

theorem x_sub {t t2 : Nat} {x y : Operand} {k : IntKind} {a0 b0 : Int} (r : Int) (ho : ops[i]? = some ⟨d, .binOp .sub t x y t2, ty, ps, af, g⟩) (hg : guardV ops F g = some true) (hd : dstOK n d = true) (hx : ev? F x = some (.int k a0)) (hy : ev? F y = some (.int k b0)) (hr : k.wrap (a0 - b0) = r) (h : Ex P n ops B dr K s (putE F d (.int k r)) ds T w) : Ex P n ops B dr K ((i, false) :: s) F ds T w :=
  Ex.pure_ ho hg hd _ (fun a hk w' => by subst hr; simp only [execOp, hk.eval hx, hk.eval hy, Sem.run_bind, eqGuard, binOp, Op.intArith, ne_eq, not_true_eq_false, if_false, Bool.not_false, if_true, Sem.run_pure, Result.andThen_ok]) h

theorem x_mul {t t2 : Nat} {x y : Operand} {k : IntKind} {a0 b0 : Int} (r : Int) (ho : ops[i]? = some ⟨d, .binOp .mul t x y t2, ty, ps, af, g⟩) (hg : guardV ops F g = some true) (hd : dstOK n d = true) (hx : ev? F x = some (.int k a0)) (hy : ev? F y = some (.int k b0)) (hr : k.wrap (a0 * b0) = r) (h : Ex P n ops B dr K s (putE F d (.int k r)) ds T w) : Ex P n ops B dr K ((i, false) :: s) F ds T w :=
  Ex.pure_ ho hg hd _ (fun a hk w' => by subst hr; simp only [execOp, hk.eval hx, hk.eval hy, Sem.run_bind, eqGuard, binOp, Op.intArith, ne_eq, not_true_eq_false, if_false, Bool.not_false, if_true, Sem.run_pure, Result.andThen_ok]) h

theorem x_quo {t t2 : Nat} {x y : Operand} {k : IntKind} {a0 b0 : Int} (r : Int) (ho : ops[i]? = some ⟨d, .binOp .quo t x y t2, ty, ps, af, g⟩) (hg : guardV ops F g = some true) (hd : dstOK n d = true) (hx : ev? F x = some (.int k a0)) (hy : ev? F y = some (.int k b0)) (h0 : b0 ≠ 0) (hr : k.wrap (a0.tdiv b0) = r) (h : Ex P n ops B dr K s (putE F d (.int k r)) ds T w) : Ex P n ops B dr K ((i, false) :: s) F ds T w :=
  Ex.pure_ ho hg hd _ (fun a hk w' => by subst hr; simp only [execOp, hk.eval hx, hk.eval hy, Sem.run_bind, eqGuard, binOp, Op.intDiv, ne_eq, not_true_eq_false, if_false, h0, Bool.not_false, if_true, Sem.run_pure, Result.andThen_ok]) h

theorem x_rem {t t2 : Nat} {x y : Operand} {k : IntKind} {a0 b0 : Int} (r : Int) (ho : ops[i]? = some ⟨d, .binOp .rem t x y t2, ty, ps, af, g⟩) (hg : guardV ops F g = some true) (hd : dstOK n d = true) (hx : ev? F x = some (.int k a0)) (hy : ev? F y = some (.int k b0)) (h0 : b0 ≠ 0) (hr : a0.tmod b0 = r) (h : Ex P n ops B dr K s (putE F d (.int k r)) ds T w) : Ex P n ops B dr K ((i, false) :: s) F ds T w :=
  Ex.pure_ ho hg hd _ (fun a hk w' => by subst hr; simp only [execOp, hk.eval hx, hk.eval hy, Sem.run_bind, eqGuard, binOp, Op.intDiv, ne_eq, not_true_eq_false, if_false, h0, Bool.not_false, if_true, Sem.run_pure, Result.andThen_ok]) h

theorem x_and {t t2 : Nat} {x y : Operand} {k : IntKind} {a0 b0 : Int} (r : Int) (ho : ops[i]? = some ⟨d, .binOp .and t x y t2, ty, ps, af, g⟩) (hg : guardV ops F g = some true) (hd : dstOK n d = true) (hx : ev? F x = some (.int k a0)) (hy : ev? F y = some (.int k b0)) (hr : k.wrap ((BitVec.ofInt k.bits a0 &&& BitVec.ofInt k.bits b0).toNat : Int) = r) (h : Ex P n ops B dr K s (putE F d (.int k r)) ds T w) : Ex P n ops B dr K ((i, false) :: s) F ds T w :=
  Ex.pure_ ho hg hd _ (fun a hk w' => by subst hr; simp only [execOp, hk.eval hx, hk.eval hy, Sem.run_bind, eqGuard, binOp, Op.intBits, ne_eq, not_true_eq_false, if_false, Bool.not_false, if_true, Sem.run_pure, Result.andThen_ok]) h

theorem x_or {t t2 : Nat} {x y : Operand} {k : IntKind} {a0 b0 : Int} (r : Int) (ho : ops[i]? = some ⟨d, .binOp .or t x y t2, ty, ps, af, g⟩) (hg : guardV ops F g = some true) (hd : dstOK n d = true) (hx : ev? F x = some (.int k a0)) (hy : ev? F y = some (.int k b0)) (hr : k.wrap ((BitVec.ofInt k.bits a0 ||| BitVec.ofInt k.bits b0).toNat : Int) = r) (h : Ex P n ops B dr K s (putE F d (.int k r)) ds T w) : Ex P n ops B dr K ((i, false) :: s) F ds T w :=
  Ex.pure_ ho hg hd _ (fun a hk w' => by subst hr; simp only [execOp, hk.eval hx, hk.eval hy, Sem.run_bind, eqGuard, binOp, Op.intBits, ne_eq, not_true_eq_false, if_false, Bool.not_false, if_true, Sem.run_pure, Result.andThen_ok]) h

theorem x_xor {t t2 : Nat} {x y : Operand} {k : IntKind} {a0 b0 : Int} (r : Int) (ho : ops[i]? = some ⟨d, .binOp .xor t x y t2, ty, ps, af, g⟩) (hg : guardV ops F g = some true) (hd : dstOK n d = true) (hx : ev? F x = some (.int k a0)) (hy : ev? F y = some (.int k b0)) (hr : k.wrap ((BitVec.ofInt k.bits a0 ^^^ BitVec.ofInt k.bits b0).toNat : Int) = r) (h : Ex P n ops B dr K s (putE F d (.int k r)) ds T w) : Ex P n ops B dr K ((i, false) :: s) F ds T w :=
  Ex.pure_ ho hg hd _ (fun a hk w' => by subst hr; simp only [execOp, hk.eval hx, hk.eval hy, Sem.run_bind, eqGuard, binOp, Op.intBits, ne_eq, not_true_eq_false, if_false, Bool.not_false, if_true, Sem.run_pure, Result.andThen_ok]) h

theorem x_shl {t t2 : Nat} {x y : Operand} {k k2 : IntKind} {a0 b0 : Int} (r : Int) (ho : ops[i]? = some ⟨d, .binOp .shl t x y t2, ty, ps, af, g⟩) (hg : guardV ops F g = some true) (hd : dstOK n d = true) (hx : ev? F x = some (.int k a0)) (hy : ev? F y = some (.int k2 b0)) (h0 : ¬ b0 < 0) (hr : k.wrap (a0 * 2 ^ (min b0.toNat k.bits)) = r) (h : Ex P n ops B dr K s (putE F d (.int k r)) ds T w) : Ex P n ops B dr K ((i, false) :: s) F ds T w :=
  Ex.pure_ ho hg hd _ (fun a hk w' => by subst hr; simp only [execOp, hk.eval hx, hk.eval hy, Sem.run_bind, eqGuard, binOp, Op.shift, if_neg h0, Bool.not_false, if_true, Sem.run_pure, Result.andThen_ok]) h

theorem x_shr {t t2 : Nat} {x y : Operand} {k k2 : IntKind} {a0 b0 : Int} (r : Int) (ho : ops[i]? = some ⟨d, .binOp .shr t x y t2, ty, ps, af, g⟩) (hg : guardV ops F g = some true) (hd : dstOK n d = true) (hx : ev? F x = some (.int k a0)) (hy : ev? F y = some (.int k2 b0)) (h0 : ¬ b0 < 0) (hr : a0.fdiv (2 ^ (min b0.toNat k.bits)) = r) (h : Ex P n ops B dr K s (putE F d (.int k r)) ds T w) : Ex P n ops B dr K ((i, false) :: s) F ds T w :=
  Ex.pure_ ho hg hd _ (fun a hk w' => by subst hr; simp only [execOp, hk.eval hx, hk.eval hy, Sem.run_bind, eqGuard, binOp, Op.shift, if_neg h0, Bool.not_false, if_true, Sem.run_pure, Result.andThen_ok]) h

theorem x_lss {t t2 : Nat} {x y : Operand} {k : IntKind} {a0 b0 : Int} (r : Bool) (ho : ops[i]? = some ⟨d, .binOp .lss t x y t2, ty, ps, af, g⟩) (hg : guardV ops F g = some true) (hd : dstOK n d = true) (hx : ev? F x = some (.int k a0)) (hy : ev? F y = some (.int k b0)) (hr : decide (a0 < b0) = r) (h : Ex P n ops B dr K s (putE F d (.bool r)) ds T w) : Ex P n ops B dr K ((i, false) :: s) F ds T w :=
  Ex.pure_ ho hg hd _ (fun a hk w' => by subst hr; simp only [execOp, hk.eval hx, hk.eval hy, Sem.run_bind, eqGuard, binOp, Op.intCmp, ne_eq, not_true_eq_false, if_false, Bool.not_false, Bool.not_true, Bool.false_eq_true, if_true, Sem.run_pure, Result.andThen_ok]) h

theorem x_leq {t t2 : Nat} {x y : Operand} {k : IntKind} {a0 b0 : Int} (r : Bool) (ho : ops[i]? = some ⟨d, .binOp .leq t x y t2, ty, ps, af, g⟩) (hg : guardV ops F g = some true) (hd : dstOK n d = true) (hx : ev? F x = some (.int k a0)) (hy : ev? F y = some (.int k b0)) (hr : decide (a0 ≤ b0) = r) (h : Ex P n ops B dr K s (putE F d (.bool r)) ds T w) : Ex P n ops B dr K ((i, false) :: s) F ds T w :=
  Ex.pure_ ho hg hd _ (fun a hk w' => by subst hr; simp only [execOp, hk.eval hx, hk.eval hy, Sem.run_bind, eqGuard, binOp, Op.intCmp, ne_eq, not_true_eq_false, if_false, Bool.not_false, Bool.not_true, Bool.false_eq_true, if_true, Sem.run_pure, Result.andThen_ok]) h

theorem x_gtr {t t2 : Nat} {x y : Operand} {k : IntKind} {a0 b0 : Int} (r : Bool) (ho : ops[i]? = some ⟨d, .binOp .gtr t x y t2, ty, ps, af, g⟩) (hg : guardV ops F g = some true) (hd : dstOK n d = true) (hx : ev? F x = some (.int k a0)) (hy : ev? F y = some (.int k b0)) (hr : decide (a0 > b0) = r) (h : Ex P n ops B dr K s (putE F d (.bool r)) ds T w) : Ex P n ops B dr K ((i, false) :: s) F ds T w :=
  Ex.pure_ ho hg hd _ (fun a hk w' => by subst hr; simp only [execOp, hk.eval hx, hk.eval hy, Sem.run_bind, eqGuard, binOp, Op.intCmp, ne_eq, not_true_eq_false, if_false, Bool.not_false, Bool.not_true, Bool.false_eq_true, if_true, Sem.run_pure, Result.andThen_ok]) h

theorem x_geq {t t2 : Nat} {x y : Operand} {k : IntKind} {a0 b0 : Int} (r : Bool) (ho : ops[i]? = some ⟨d, .binOp .geq t x y t2, ty, ps, af, g⟩) (hg : guardV ops F g = some true) (hd : dstOK n d = true) (hx : ev? F x = some (.int k a0)) (hy : ev? F y = some (.int k b0)) (hr : decide (a0 ≥ b0) = r) (h : Ex P n ops B dr K s (putE F d (.bool r)) ds T w) : Ex P n ops B dr K ((i, false) :: s) F ds T w :=
  Ex.pure_ ho hg hd _ (fun a hk w' => by subst hr; simp only [execOp, hk.eval hx, hk.eval hy, Sem.run_bind, eqGuard, binOp, Op.intCmp, ne_eq, not_true_eq_false, if_false, Bool.not_false, Bool.not_true, Bool.false_eq_true, if_true, Sem.run_pure, Result.andThen_ok]) h

theorem x_eqi {t t2 : Nat} {x y : Operand} {k : IntKind} {a0 b0 : Int} (r : Bool) (ho : ops[i]? = some ⟨d, .binOp .eql t x y t2, ty, ps, af, g⟩) (hg : guardV ops F g = some true) (hd : dstOK n d = true) (hx : ev? F x = some (.int k a0)) (hy : ev? F y = some (.int k b0)) (hr : (a0 == b0) = r) (h : Ex P n ops B dr K s (putE F d (.bool r)) ds T w) : Ex P n ops B dr K ((i, false) :: s) F ds T w :=
  Ex.pure_ ho hg hd _ (fun a hk w' => by subst hr; simp only [execOp, hk.eval hx, hk.eval hy, Sem.run_bind, eqGuard, binOp, Op.intCmp, ne_eq, not_true_eq_false, if_false, Bool.not_false, Bool.not_true, Bool.false_eq_true, if_true, Sem.run_pure, Result.andThen_ok]) h

theorem x_nei {t t2 : Nat} {x y : Operand} {k : IntKind} {a0 b0 : Int} (r : Bool) (ho : ops[i]? = some ⟨d, .binOp .neq t x y t2, ty, ps, af, g⟩) (hg : guardV ops F g = some true) (hd : dstOK n d = true) (hx : ev? F x = some (.int k a0)) (hy : ev? F y = some (.int k b0)) (hr : (a0 != b0) = r) (h : Ex P n ops B dr K s (putE F d (.bool r)) ds T w) : Ex P n ops B dr K ((i, false) :: s) F ds T w :=
  Ex.pure_ ho hg hd _ (fun a hk w' => by subst hr; simp only [execOp, hk.eval hx, hk.eval hy, Sem.run_bind, eqGuard, binOp, Op.intCmp, ne_eq, not_true_eq_false, if_false, Bool.not_false, Bool.not_true, Bool.false_eq_true, if_true, Sem.run_pure, Result.andThen_ok]) h

theorem x_eqs {t t2 : Nat} {x y : Operand} {a0 b0 : ByteArray} (r : Bool) (ho : ops[i]? = some ⟨d, .binOp .eql t x y t2, ty, ps, af, g⟩) (hg : guardV ops F g = some true) (hd : dstOK n d = true) (hx : ev? F x = some (.string a0)) (hy : ev? F y = some (.string b0)) (hr : (a0.toList == b0.toList) = r) (h : Ex P n ops B dr K s (putE F d (.bool r)) ds T w) : Ex P n ops B dr K ((i, false) :: s) F ds T w :=
  Ex.pure_ ho hg hd _ (fun a hk w' => by subst hr; simp only [execOp, hk.eval hx, hk.eval hy, Sem.run_bind, eqGuard, binOp, Op.stringOp, Bool.not_false, Bool.not_true, Bool.false_eq_true, if_false, if_true, Sem.run_pure, Result.andThen_ok]) h

theorem x_nes {t t2 : Nat} {x y : Operand} {a0 b0 : ByteArray} (r : Bool) (ho : ops[i]? = some ⟨d, .binOp .neq t x y t2, ty, ps, af, g⟩) (hg : guardV ops F g = some true) (hd : dstOK n d = true) (hx : ev? F x = some (.string a0)) (hy : ev? F y = some (.string b0)) (hr : (!(a0.toList == b0.toList)) = r) (h : Ex P n ops B dr K s (putE F d (.bool r)) ds T w) : Ex P n ops B dr K ((i, false) :: s) F ds T w :=
  Ex.pure_ ho hg hd _ (fun a hk w' => by subst hr; simp only [execOp, hk.eval hx, hk.eval hy, Sem.run_bind, eqGuard, binOp, Op.stringOp, Bool.not_false, Bool.not_true, Bool.false_eq_true, if_false, if_true, Sem.run_pure, Result.andThen_ok]) h

theorem x_lts {t t2 : Nat} {x y : Operand} {a0 b0 : ByteArray} (r : Bool) (ho : ops[i]? = some ⟨d, .binOp .lss t x y t2, ty, ps, af, g⟩) (hg : guardV ops F g = some true) (hd : dstOK n d = true) (hx : ev? F x = some (.string a0)) (hy : ev? F y = some (.string b0)) (hr : Op.bytesLess a0.toList b0.toList = r) (h : Ex P n ops B dr K s (putE F d (.bool r)) ds T w) : Ex P n ops B dr K ((i, false) :: s) F ds T w :=
  Ex.pure_ ho hg hd _ (fun a hk w' => by subst hr; simp only [execOp, hk.eval hx, hk.eval hy, Sem.run_bind, eqGuard, binOp, Op.stringOp, Bool.not_false, Bool.not_true, Bool.false_eq_true, if_false, if_true, Sem.run_pure, Result.andThen_ok]) h

theorem x_les {t t2 : Nat} {x y : Operand} {a0 b0 : ByteArray} (r : Bool) (ho : ops[i]? = some ⟨d, .binOp .leq t x y t2, ty, ps, af, g⟩) (hg : guardV ops F g = some true) (hd : dstOK n d = true) (hx : ev? F x = some (.string a0)) (hy : ev? F y = some (.string b0)) (hr : (Op.bytesLess a0.toList b0.toList || a0.toList == b0.toList) = r) (h : Ex P n ops B dr K s (putE F d (.bool r)) ds T w) : Ex P n ops B dr K ((i, false) :: s) F ds T w :=
  Ex.pure_ ho hg hd _ (fun a hk w' => by subst hr; simp only [execOp, hk.eval hx, hk.eval hy, Sem.run_bind, eqGuard, binOp, Op.stringOp, Bool.not_false, Bool.not_true, Bool.false_eq_true, if_false, if_true, Sem.run_pure, Result.andThen_ok]) h

theorem x_gts {t t2 : Nat} {x y : Operand} {a0 b0 : ByteArray} (r : Bool) (ho : ops[i]? = some ⟨d, .binOp .gtr t x y t2, ty, ps, af, g⟩) (hg : guardV ops F g = some true) (hd : dstOK n d = true) (hx : ev? F x = some (.string a0)) (hy : ev? F y = some (.string b0)) (hr : (!(Op.bytesLess a0.toList b0.toList || a0.toList == b0.toList)) = r) (h : Ex P n ops B dr K s (putE F d (.bool r)) ds T w) : Ex P n ops B dr K ((i, false) :: s) F ds T w :=
  Ex.pure_ ho hg hd _ (fun a hk w' => by subst hr; simp only [execOp, hk.eval hx, hk.eval hy, Sem.run_bind, eqGuard, binOp, Op.stringOp, Bool.not_false, Bool.not_true, Bool.false_eq_true, if_false, if_true, Sem.run_pure, Result.andThen_ok]) h

theorem x_ges {t t2 : Nat} {x y : Operand} {a0 b0 : ByteArray} (r : Bool) (ho : ops[i]? = some ⟨d, .binOp .geq t x y t2, ty, ps, af, g⟩) (hg : guardV ops F g = some true) (hd : dstOK n d = true) (hx : ev? F x = some (.string a0)) (hy : ev? F y = some (.string b0)) (hr : (!Op.bytesLess a0.toList b0.toList) = r) (h : Ex P n ops B dr K s (putE F d (.bool r)) ds T w) : Ex P n ops B dr K ((i, false) :: s) F ds T w :=
  Ex.pure_ ho hg hd _ (fun a hk w' => by subst hr; simp only [execOp, hk.eval hx, hk.eval hy, Sem.run_bind, eqGuard, binOp, Op.stringOp, Bool.not_false, Bool.not_true, Bool.false_eq_true, if_false, if_true, Sem.run_pure, Result.andThen_ok]) h

theorem x_cat {t t2 : Nat} {x y : Operand} {a0 b0 : ByteArray} (ho : ops[i]? = some ⟨d, .binOp .add t x y t2, ty, ps, af, g⟩) (hg : guardV ops F g = some true) (hd : dstOK n d = true) (hx : ev? F x = some (.string a0)) (hy : ev? F y = some (.string b0)) (hr : ((a0.size + b0.size : Nat) : Int) ≤ IntKind.i64.max) (h : Ex P n ops B dr K s (putE F d (.string (a0 ++ b0))) ds T w) : Ex P n ops B dr K ((i, false) :: s) F ds T w :=
  Ex.pure_ ho hg hd _ (fun a hk w' => by simp only [execOp, hk.eval hx, hk.eval hy, Sem.run_bind, eqGuard, binOp, Op.stringOp, Bool.not_false, if_true, Sem.run_pure, Result.andThen_ok]; rw [if_neg (by omega)]; rfl) h

theorem x_bin {t t2 : Nat} {op : BinOp} {x y : Operand} {a0 b0 v : Value} (ho : ops[i]? = some ⟨d, .binOp op t x y t2, ty, ps, af, g⟩) (hg : guardV ops F g = some true) (hd : dstOK n d = true) (hx : ev? F x = some a0) (hy : ev? F y = some b0) (hr : ∀ w', (do eqGuard op t x y a0 b0; binOp op t a0 b0 : Sem Value).run P w' = .ok v w') (h : Ex P n ops B dr K s (putE F d (v)) ds T w) : Ex P n ops B dr K ((i, false) :: s) F ds T w :=
  Ex.pure_ ho hg hd _ (fun a hk w' => by simp only [execOp, hk.eval hx, hk.eval hy]; rw [Sem.run_bind, hr]; rfl) h

theorem x_binR {t t2 : Nat} {op : BinOp} {x y : Operand} {a0 b0 v : Value} (R : World → Prop) (ho : ops[i]? = some ⟨d, .binOp op t x y t2, ty, ps, af, g⟩) (hg : guardV ops F g = some true) (hd : dstOK n d = true) (hx : ev? F x = some a0) (hy : ev? F y = some b0) (hr : ∀ w', R w' → (do eqGuard op t x y a0 b0; binOp op t a0 b0 : Sem Value).run P w' = .ok v w') (hR0 : R w) (h : Ex P n ops B dr K s (putE F d (v)) ds (addT dr i (R) T) w) : Ex P n ops B dr K ((i, false) :: s) F ds T w :=
  Ex.read_ ho hg hd _ (R) (fun a hk w' hR => by simp only [execOp, hk.eval hx, hk.eval hy]; rw [Sem.run_bind, hr w' hR]; rfl) (hR0) h

theorem x_lens {t : Nat} {x : Operand} {b : ByteArray} {at0 : Array TypeId} (ho : ops[i]? = some ⟨d, .call ⟨.builtin .len, #[x], at0⟩, ty, ps, af, g⟩) (hg : guardV ops F g = some true) (hd : dstOK n d = true) (ht : at0[0]? = some t) (hu : P.underlying t = some .string) (hx : ev? F x = some (.string b)) (h : Ex P n ops B dr K s (putE F d (.int .i64 (b.size : Int))) ds T w) : Ex P n ops B dr K ((i, false) :: s) F ds T w :=
  Ex.pure_ ho hg hd _ (fun a hk w' => by simp [execOp, resolve, invoke, builtin, Builtin.len_, ht, hk.eval hx, run_underlying hu, goInt]) h

theorem x_len {t e : Nat} {x : Operand} {p : Option Addr} {len cp : Nat} {at0 : Array TypeId} (ho : ops[i]? = some ⟨d, .call ⟨.builtin .len, #[x], at0⟩, ty, ps, af, g⟩) (hg : guardV ops F g = some true) (hd : dstOK n d = true) (ht : at0[0]? = some t) (hu : P.underlying t = some (.slice e)) (hx : ev? F x = some (.slice p len cp)) (h : Ex P n ops B dr K s (putE F d (.int .i64 (len : Int))) ds T w) : Ex P n ops B dr K ((i, false) :: s) F ds T w :=
  Ex.pure_ ho hg hd _ (fun a hk w' => by simp [execOp, resolve, invoke, builtin, Builtin.len_, ht, hk.eval hx, run_underlying hu, goInt]) h

theorem x_min {x y : Operand} {k : IntKind} {a0 b0 : Int} {at0 : Array TypeId} (r : Int) (ho : ops[i]? = some ⟨d, .call ⟨.builtin .min, #[x, y], at0⟩, ty, ps, af, g⟩) (hg : guardV ops F g = some true) (hd : dstOK n d = true) (hx : ev? F x = some (.int k a0)) (hy : ev? F y = some (.int k b0)) (hr : (if b0 < a0 then b0 else a0) = r) (h : Ex P n ops B dr K s (putE F d (.int k r)) ds T w) : Ex P n ops B dr K ((i, false) :: s) F ds T w :=
  Ex.pure_ ho hg hd _ (fun a hk w' => by subst hr; simp [execOp, resolve, invoke, builtin, Builtin.min_, Builtin.min2, hk.eval hx, hk.eval hy]) h

theorem evs_array {n : Nat} {F : Env} {ds : List Deferred} {a : Act} (hk : Knows n F ds a) {l : Array Operand} {vs : List Value} (h : evs? F l.toList = some vs) : l.map a.eval = vs.toArray := by
  have := hk.evals h
  apply Array.ext'
  simpa using this

theorem x_mkfn {fn : Fn} {first cap : Array Operand} {vs us : List Value} (ho : ops[i]? = some ⟨d, .makeFunc fn first cap, ty, ps, af, g⟩) (hg : guardV ops F g = some true) (hd : dstOK n d = true) (hx : evs? F first.toList = some vs) (hy : evs? F cap.toList = some us) (h : Ex P n ops B dr K s (putE F d (.func fn vs.toArray us.toArray)) ds T w) : Ex P n ops B dr K ((i, false) :: s) F ds T w :=
  Ex.pure_ ho hg hd _ (fun a hk w' => by simp only [execOp, evs_array hk hx, evs_array hk hy, Instr.makeFunc, Sem.run_bind, Sem.run_pure, Result.andThen_ok]) h

/-- Where a struct's parts lie. -/
def placesOf (P : Program) (t : TypeId) : Option (List (Nat × Nat)) := match P.underlying t with
  | some (.struct fs) => fs.toList.mapM fun f => (szOf P f.type).map fun m => (f.offset, m)
  | _ => none
theorem run_mapM_places : ∀ (fs : List Field) (pl : List (Nat × Nat)) (w : World), fs.mapM (fun f => (szOf P f.type).map fun m => (f.offset, m)) = some pl → (fs.mapM (m := Sem) fun f => do pure (f.offset, ← sizeOf f.type)).run P w = .ok pl w
  | [], pl, w, h => by simp at h; subst h; rfl
  | f :: fs, pl, w, h => by
    simp only [List.mapM_cons, Option.bind_eq_bind, Option.bind_eq_some_iff, Option.map_eq_some_iff, Option.pure_def, Option.some.injEq] at h
    obtain ⟨q, ⟨m, hm, rfl⟩, pl', h', rfl⟩ := h
    simp only [List.mapM_cons, Sem.run_bind, run_sizeOf' hm, Result.andThen_ok, Sem.run_pure]
    rw [run_mapM_places fs pl' w h']
    rfl
theorem run_build {t : TypeId} {pl : List (Nat × Nat)} {z : Value} {Z : List Value} {parts : List (Nat × Value)} {cells : Array Value} {w : World} (hp : placesOf P t = some pl) (hz : zeroOf P t = some z) (hZ : z.cells = Z.toArray)
    (hf : Instr.fill (fun i => pl[i]?) Z.toArray parts = some cells) : (Instr.build t parts.toArray).run P w = .ok (.agg cells) w := by
  unfold placesOf at hp
  split at hp
  · rename_i fs hu
    unfold Instr.build
    simp only [Sem.run_bind, run_zero' hz, Result.andThen_ok, hZ, run_underlying hu]
    have h1 := run_mapM_places fs.toList pl w hp
    have h2 : (fs.mapM (m := Sem) fun f => do pure (f.offset, ← sizeOf f.type)) = (fun l => l.toArray) <$> (fs.toList.mapM (m := Sem) fun f => do pure (f.offset, ← sizeOf f.type)) := by
      rw [Array.mapM_eq_mapM_toList]
    rw [h2, Sem.run_map, h1]
    simp only [Result.andThen_ok, List.getElem?_toArray]
    rw [hf]
    rfl
  · cases hp

def evps? (F : Env) : List (Nat × Operand) → Option (List (Nat × Value))
  | [] => some []
  | (j, x) :: r => match ev? F x, evps? F r with
    | some v, some vs => some ((j, v) :: vs)
    | _, _ => none
theorem evps_list {n : Nat} {F : Env} {ds : List Deferred} {a : Act} (hk : Knows n F ds a) : ∀ {l : List (Nat × Operand)} {vs : List (Nat × Value)}, evps? F l = some vs → l.map (fun p => (p.1, a.eval p.2)) = vs
  | [], vs, h => by simp [evps?] at h; simp [h]
  | (j, x) :: r, vs, h => by
    unfold evps? at h
    split at h
    · rename_i v vs' h1 h2
      simp only [Option.some.injEq] at h
      subst h
      simp [hk.eval h1, evps_list hk h2]
    · cases h
theorem evps_array {n : Nat} {F : Env} {ds : List Deferred} {a : Act} (hk : Knows n F ds a) {l : Array (Nat × Operand)} {vs : List (Nat × Value)} (h : evps? F l.toList = some vs) : (l.map fun (j, x) => (j, a.eval x)) = vs.toArray := by
  have := evps_list hk h
  apply Array.ext'
  simpa using this

theorem x_build {t : Nat} {parts : Array (Nat × Operand)} {vs : List (Nat × Value)} {pl : List (Nat × Nat)} {z : Value} {Z : List Value} (cells : List Value) (ho : ops[i]? = some ⟨d, .build t parts, ty, ps, af, g⟩) (hg : guardV ops F g = some true) (hd : dstOK n d = true) (hp : placesOf P t = some pl) (hz : zeroOf P t = some z) (hx : evps? F parts.toList = some vs) (hZ : z.cells = Z.toArray) (hf : Instr.fill (fun i => pl[i]?) Z.toArray vs = some cells.toArray) (h : Ex P n ops B dr K s (putE F d (.agg cells.toArray)) ds T w) : Ex P n ops B dr K ((i, false) :: s) F ds T w :=
  Ex.pure_ ho hg hd _ (fun a hk w' => by simp only [execOp, evps_array hk hx, Sem.run_bind, run_build hp hz hZ hf, Result.andThen_ok, Sem.run_pure]) h

theorem x_mkif {t : Nat} {x : Operand} {v : Value} {dd : TypeDesc} (ho : ops[i]? = some ⟨d, .makeInterface t x, ty, ps, af, g⟩) (hg : guardV ops F g = some true) (hd : dstOK n d = true) (hx : ev? F x = some v) (hu : P.underlying t = some dd) (hi : ∀ ms, dd ≠ .interface ms) (h : Ex P n ops B dr K s (putE F d (.iface t v)) ds T w) : Ex P n ops B dr K ((i, false) :: s) F ds T w :=
  Ex.pure_ ho hg hd _ (fun a hk w' => by simp only [execOp, hk.eval hx, Instr.makeInterface, Sem.run_bind, run_underlying hu, Result.andThen_ok]; cases dd <;> first | rfl | exact absurd rfl (hi _)) h

theorem x_cvi {t1 t2 : Nat} {x : Operand} {k k0 : IntKind} {z : Int} {d1 : TypeDesc} (r : Int) (ho : ops[i]? = some ⟨d, .convert t1 t2 x, ty, ps, af, g⟩) (hg : guardV ops F g = some true) (hd : dstOK n d = true) (h1 : P.underlying t1 = some d1) (h2 : P.underlying t2 = some (.int k)) (hx : ev? F x = some (.int k0 z)) (hr : k.wrap z = r) (h : Ex P n ops B dr K s (putE F d (.int k r)) ds T w) : Ex P n ops B dr K ((i, false) :: s) F ds T w :=
  Ex.pure_ ho hg hd _ (fun a hk w' => by subst hr; simp only [execOp, hk.eval hx, convert, Sem.run_bind, run_underlying h1, run_underlying h2, Result.andThen_ok]; cases d1 <;> rfl) h

theorem x_cvss {t1 t2 : Nat} {x : Operand} {b : ByteArray} {d1 : TypeDesc} (ho : ops[i]? = some ⟨d, .convert t1 t2 x, ty, ps, af, g⟩) (hg : guardV ops F g = some true) (hd : dstOK n d = true) (h1 : P.underlying t1 = some d1) (h2 : P.underlying t2 = some .string) (hx : ev? F x = some (.string b)) (h : Ex P n ops B dr K s (putE F d (.string b)) ds T w) : Ex P n ops B dr K ((i, false) :: s) F ds T w :=
  Ex.pure_ ho hg hd _ (fun a hk w' => by simp only [execOp, hk.eval hx, convert, Sem.run_bind, run_underlying h1, run_underlying h2, Result.andThen_ok]; cases d1 <;> rfl) h

theorem x_ld {t : Nat} {x : Operand} {dd : TypeDesc} {p : Addr} {v : Value} (ho : ops[i]? = some ⟨d, .load t x, ty, ps, af, g⟩) (hg : guardV ops F g = some true) (hd : dstOK n d = true) (hu : P.underlying t = some dd) (ha : aggD dd = false) (hx : ev? F x = some (.pointer (some p))) (hc : w.cell? p = some v) (h : Ex P n ops B dr K s (putE F d (v)) ds (addT dr i (fun w' => w'.cell? p = some v) T) w) : Ex P n ops B dr K ((i, false) :: s) F ds T w :=
  Ex.read_ ho hg hd _ (fun w' => w'.cell? p = some v) (fun a hk w' hR => by simp only [execOp, hk.eval hx, Instr.loadAt, Instr.sureAddr, Sem.run_bind, Sem.run_pure, Result.andThen_ok, run_loadVar1 hu ha hR]) (hc) h

theorem x_ldA {t : Nat} {x : Operand} {dd : TypeDesc} {b off : Nat} (l : List Value) (ho : ops[i]? = some ⟨d, .load t x, ty, ps, af, g⟩) (hg : guardV ops F g = some true) (hd : dstOK n d = true) (hu : P.underlying t = some dd) (ha : aggD dd = true) (hs : szOf P t = some l.length) (hl : Nat.blt 0 l.length = true) (hx : ev? F x = some (.pointer (some ⟨b, off, none⟩))) (hc : RowAt w b off l) (h : Ex P n ops B dr K s (putE F d (.agg l.toArray)) ds (addT dr i (fun w' => RowAt w' b off l) T) w) : Ex P n ops B dr K ((i, false) :: s) F ds T w :=
  Ex.read_ ho hg hd _ (fun w' => RowAt w' b off l) (fun a hk w' hR => by simp only [execOp, hk.eval hx, Instr.loadAt, Instr.sureAddr, Sem.run_bind, Sem.run_pure, Result.andThen_ok, run_loadVarA hu ha hs hR (by simpa [Nat.blt_eq] using hl)]) (hc) h

theorem x_rd {op : Op} {v : Value} (R : World → Prop) (ho : ops[i]? = some ⟨d, op, ty, ps, af, g⟩) (hg : guardV ops F g = some true) (hd : dstOK n d = true) (hr : ∀ a, Knows n F ds a → ∀ w', R w' → (execOp a.eval ⟨d, op, ty, ps, af, g⟩).run P w' = .ok (.value v) w') (hR0 : R w) (h : Ex P n ops B dr K s (putE F d (v)) ds (addT dr i (R) T) w) : Ex P n ops B dr K ((i, false) :: s) F ds T w :=
  Ex.read_ ho hg hd _ (R) (fun a hk w' hR => by exact hr a hk w' hR) (hR0) h

theorem x_pu {op : Op} {v : Value} (ho : ops[i]? = some ⟨d, op, ty, ps, af, g⟩) (hg : guardV ops F g = some true) (hd : dstOK n d = true) (hr : ∀ a, Knows n F ds a → ∀ w', (execOp a.eval ⟨d, op, ty, ps, af, g⟩).run P w' = .ok (.value v) w') (h : Ex P n ops B dr K s (putE F d (v)) ds T w) : Ex P n ops B dr K ((i, false) :: s) F ds T w :=
  Ex.pure_ ho hg hd _ (fun a hk w' => by exact hr a hk w') h

theorem x_alloc {t : Nat} {z : Value} (cs : List Value) (ho : ops[i]? = some ⟨d, .alloc t, ty, ps, af, g⟩) (hg : guardV ops F g = some true) (hd : dstOK n d = true) (hz : zeroOf P t = some z) (hc : z.cells = cs.toArray) (h : ∀ b w1, b = w.heap.size → w1 = w.alloc (.cells cs.toArray t) → pend B i T w1 ∧ Ex P n ops B dr K s (putE F d (.pointer (some ⟨b, 0, none⟩))) ds T w1) : Ex P n ops B dr K ((i, true) :: s) F ds T w :=
  Ex.mov_ ho hg hd (fun v w' => v = .pointer (some ⟨w.heap.size, 0, none⟩) ∧ w' = w.alloc (.cells cs.toArray t)) (fun a hk => by unfold OpR; simp only [execOp, Instr.alloc, Sem.run_bind, run_zero' hz, Result.andThen_ok, newVar, newRow, run_newObj, Sem.run_pure, hc, nextR]; first | exact ⟨rfl, rfl⟩ | exact ⟨trivial, rfl⟩ | trivial) (by rintro v w' ⟨rfl, rfl⟩; exact h _ _ rfl rfl)

theorem x_box {t : Nat} {x : Operand} {v : Value} (cs : List Value) (ho : ops[i]? = some ⟨d, .box t x, ty, ps, af, g⟩) (hg : guardV ops F g = some true) (hd : dstOK n d = true) (hx : ev? F x = some v) (hc : v.cells = cs.toArray) (h : ∀ b w1, b = w.heap.size → w1 = w.alloc (.cells cs.toArray t) → pend B i T w1 ∧ Ex P n ops B dr K s (putE F d (.pointer (some ⟨b, 0, none⟩))) ds T w1) : Ex P n ops B dr K ((i, true) :: s) F ds T w :=
  Ex.mov_ ho hg hd (fun v w' => v = .pointer (some ⟨w.heap.size, 0, none⟩) ∧ w' = w.alloc (.cells cs.toArray t)) (fun a hk => by unfold OpR; simp only [execOp, hk.eval hx, Instr.box, Sem.run_bind, Result.andThen_ok, newVar, newRow, run_newObj, Sem.run_pure, hc, nextR]; first | exact ⟨rfl, rfl⟩ | exact ⟨trivial, rfl⟩ | trivial) (by rintro v w' ⟨rfl, rfl⟩; exact h _ _ rfl rfl)

theorem x_st {t : Nat} {x y : Operand} {v : Value} {b off Tb : Nat} {cs : List Value} {fr : Nat × Nat} (l cs2 : List Value) (ho : ops[i]? = some ⟨d, .store t x y, ty, ps, af, g⟩) (hg : guardV ops F g = some true) (hd : dstOK n d = true) (hs : szOf P t = some l.length) (hx : ev? F x = some (.pointer (some ⟨b, off, none⟩))) (hy : ev? F y = some v) (hv : v.cells = l.toArray) (h1 : l.all Value.oneCell' = true) (hb : w.heap[b]? = some (.cells cs.toArray Tb fr)) (hfr : fr = (0, 0)) (hle : Nat.ble (off + l.length) cs.length = true) (hc2 : cs.take off ++ l ++ cs.drop (off + l.length) = cs2) (h : ∀ w1, w1 = w.putObj b (.cells cs2.toArray Tb (0, 0)) → pend B i T w1 ∧ Ex P n ops B dr K s (putE F d undef) ds T w1) : Ex P n ops B dr K ((i, true) :: s) F ds T w :=
  Ex.mov_ ho hg hd (fun v w' => v = undef ∧ w' = w.putObj b (.cells cs2.toArray Tb (0, 0))) (fun a hk => by subst hc2 hfr; unfold OpR; simp only [execOp, hk.eval hx, hk.eval hy, Instr.storeAt, Instr.sureAddr, Sem.run_bind, Sem.run_pure, Result.andThen_ok, run_storeVar' hs hv hb (Nat.le_of_ble_eq_true hle) (List.all_eq_true.1 h1) (fun x _ _ => by simp), nextR]; first | exact ⟨rfl, rfl⟩ | exact ⟨trivial, rfl⟩ | trivial) (by rintro v w' ⟨rfl, rfl⟩; exact h _ rfl)

/-- A function that is entered when it is called. -/
def entered (P : Program) (f : FuncId) : Bool := match P.funcs[f]? with
  | some fn => !(fn.name == "runtime.NumGoroutine") && fn.body.isSome
  | none => false
theorem run_callFunc {f : FuncId} (h : entered P f = true) (args : Array Value) (w : World) : (callFunc f args).run P w = .ok (.enter f args) w := by
  unfold entered at h
  split at h
  · rename_i fn hf
    simp only [Bool.and_eq_true, Bool.not_eq_true'] at h
    unfold callFunc
    rw [Sem.run_bind, run_program]
    simp only [Result.andThen_ok, hf]
    rw [if_neg (by simp [h.1]), if_neg (by cases hb : fn.body <;> simp [hb] at h ⊢)]
    rfl
  · cases h

theorem x_call {x : Operand} {args : Array Operand} {at0 : Array TypeId} {f : FuncId} {first cap : Array Value} {vs : List Value} {R : Value → World → Prop} (ho : ops[i]? = some ⟨d, .call ⟨.value x, args, at0⟩, ty, ps, af, g⟩) (hg : guardV ops F g = some true) (hd : dstOK n d = true) (hx : ev? F x = some (.func (.func f) first cap)) (hargs : evs? F args.toList = some vs) (he : entered P f = true) (hc : Ret P f (first ++ vs.toArray ++ cap) w R) (h : ∀ v w', R v w' → pend B i T w' ∧ Ex P n ops B dr K s (putE F d v) ds T w') : Ex P n ops B dr K ((i, true) :: s) F ds T w :=
  Ex.mov_ ho hg hd (R) (fun a hk => by unfold OpR; simp only [execOp, resolve, hk.eval hx, evs_array hk hargs, Deferred.ofValue, Sem.run_bind, Sem.run_pure, Result.andThen_ok, invoke, run_callFunc he, nextR]; exact hc) (h)

theorem x_yield {x : Operand} {args : Array Operand} {at0 : Array TypeId} {l : Nat} {r : Loop} {vs : List Value} {R : Value → World → Prop} (ho : ops[i]? = some ⟨d, .call ⟨.value x, args, at0⟩, ty, ps, af, g⟩) (hg : guardV ops F g = some true) (hd : dstOK n d = true) (hx : ev? F x = some (.func (.yield l) #[] #[])) (hargs : evs? F args.toList = some vs) (hl : w.heap[l]? = some (.loop r)) (hn : vs.length = r.params.size) (hc : Rnd P l r.fn ((r.params.zip vs.toArray).foldl (fun tmps (t, a) => tmps.setIfInBounds t a) r.tmps) r.assign r.body w R) (h : ∀ v w', R v w' → pend B i T w' ∧ Ex P n ops B dr K s (putE F d v) ds T w') : Ex P n ops B dr K ((i, true) :: s) F ds T w :=
  Ex.mov_ ho hg hd (R) (fun a hk => by unfold OpR; simp only [execOp, resolve, hk.eval hx, evs_array hk hargs, Deferred.ofValue, Sem.run_bind, Sem.run_pure, Result.andThen_ok, invoke]; rw [show (#[] ++ vs.toArray : Array Value) = vs.toArray from by simp, run_yield hl (by simpa using hn)]; simp only [nextR]; exact hc) (h)

theorem x_mv {op : Op} {v : Value} {w1 : World} (ho : ops[i]? = some ⟨d, op, ty, ps, af, g⟩) (hg : guardV ops F g = some true) (hd : dstOK n d = true) (hr : ∀ a, Knows n F ds a → (execOp a.eval ⟨d, op, ty, ps, af, g⟩).run P w = .ok (.value v) w1) (hp : pend B i T w1) (h : Ex P n ops B dr K s (putE F d v) ds T w1) : Ex P n ops B dr K ((i, true) :: s) F ds T w :=
  Ex.mov_ ho hg hd (fun v' w' => v' = v ∧ w' = w1) (fun a hk => by unfold OpR; rw [hr a hk]; exact ⟨rfl, rfl⟩) (by rintro v w' ⟨rfl, rfl⟩; exact ⟨hp, h⟩)

theorem x_mvs {op : Op} {w1 : World} (ho : ops[i]? = some ⟨d, op, ty, ps, af, g⟩) (hg : guardV ops F g = some true) (hd : dstOK n d = true) (hr : ∀ a, Knows n F ds a → (execOp a.eval ⟨d, op, ty, ps, af, g⟩).run P w = .ok .skip w1) (hp : pend B i T w1) (h : Ex P n ops B dr K s (putE F d undef) ds T w1) : Ex P n ops B dr K ((i, true) :: s) F ds T w :=
  Ex.mov_ ho hg hd (fun v' w' => v' = undef ∧ w' = w1) (fun a hk => by unfold OpR; rw [hr a hk]; exact ⟨rfl, rfl⟩) (by rintro v w' ⟨rfl, rfl⟩; exact ⟨hp, h⟩)

theorem x_mv2 {op : Op} (R : Value → World → Prop) (ho : ops[i]? = some ⟨d, op, ty, ps, af, g⟩) (hg : guardV ops F g = some true) (hd : dstOK n d = true) (hr : ∀ a, Knows n F ds a → OpR P ⟨d, op, ty, ps, af, g⟩ a.eval w R) (h : ∀ v w1, R v w1 → pend B i T w1 ∧ Ex P n ops B dr K s (putE F d v) ds T w1) : Ex P n ops B dr K ((i, true) :: s) F ds T w :=
  Ex.mov_ ho hg hd (R) (fun a hk => by exact hr a hk) (h)

theorem x_mkmap {t : Nat} (ho : ops[i]? = some ⟨d, .makeMap t none, ty, ps, af, g⟩) (hg : guardV ops F g = some true) (hd : dstOK n d = true)  (h : ∀ b w1, b = w.heap.size → w1 = w.alloc (.map #[] 0) → pend B i T w1 ∧ Ex P n ops B dr K s (putE F d (.map (some b))) ds T w1) : Ex P n ops B dr K ((i, true) :: s) F ds T w :=
  Ex.mov_ ho hg hd (fun v w' => v = .map (some w.heap.size) ∧ w' = w.alloc (.map #[] 0)) (fun a hk => by unfold OpR; simp only [execOp, Option.map_none, Instr.makeMap, Sem.run_bind, run_newObj, Sem.run_pure, Result.andThen_ok, nextR]; first | exact ⟨rfl, rfl⟩ | exact ⟨trivial, rfl⟩ | trivial) (by rintro v w' ⟨rfl, rfl⟩; exact h _ _ rfl rfl)

theorem eq_of_equal {t : TypeId} {a b : Value} {r : Bool} {w : World} {x y : Operand} (hn : (∀ c, a ≠ .agg c) ∧ (∀ c, b ≠ .agg c) ∧ a ≠ .nilIface ∧ (∀ c, a ≠ .string c) ∧ (∀ k z, a ≠ .int k z) ∧ (∀ k z, a ≠ .float k z) ∧ (∀ k z u, a ≠ .complex k z u)) (h : (Op.equal t a b).run P w = .ok r w) :
    (do eqGuard .eql t x y a b; binOp .eql t a b : Sem Value).run P w = .ok (.bool r) w ∧ (do eqGuard .neq t x y a b; binOp .neq t a b : Sem Value).run P w = .ok (.bool (!r)) w := by
  obtain ⟨h1, h2, h3, h4, h5, h6, h7⟩ := hn
  have hg : ∀ op, (eqGuard op t x y a b).run P w = .ok () w := by
    intro op
    unfold eqGuard
    cases op <;> first | rfl | (cases a <;> first | exact absurd rfl h3 | exact absurd rfl (h1 _) | rfl)
  refine ⟨?_, ?_⟩
  · rw [Sem.run_bind, hg]
    simp only [Result.andThen_ok]
    cases a <;> first | exact absurd rfl (h1 _) | exact absurd rfl (h4 _) | exact absurd rfl (h5 _ _) | exact absurd rfl (h6 _ _) | exact absurd rfl (h7 _ _ _) | (simp only [binOp, Sem.run_bind, h, Result.andThen_ok, Sem.run_pure])
  · rw [Sem.run_bind, hg]
    simp only [Result.andThen_ok]
    cases a <;> first | exact absurd rfl (h1 _) | exact absurd rfl (h4 _) | exact absurd rfl (h5 _ _) | exact absurd rfl (h6 _ _) | exact absurd rfl (h7 _ _ _) | (simp only [binOp, Sem.run_bind, h, Result.andThen_ok, Sem.run_pure])

theorem run_equal_pn {t e : TypeId} {p : Option Addr} {w : World} (hu : P.underlying t = some (.pointer e)) : (Op.equal t (.pointer p) (.pointer none)).run P w = .ok p.isNone w := by
  unfold Op.equal Op.maxDepth Op.equalIn
  rw [Sem.run_bind, run_underlying hu]
  simp only [Result.andThen_ok]
  cases p <;> rfl

theorem x_eqpn {t t2 e : Nat} {x y : Operand} {p : Option Addr} (r : Bool) (ho : ops[i]? = some ⟨d, .binOp .eql t x y t2, ty, ps, af, g⟩) (hg : guardV ops F g = some true) (hd : dstOK n d = true) (hu : P.underlying t = some (.pointer e)) (hx : ev? F x = some (.pointer p)) (hy : ev? F y = some (.pointer none)) (hr : p.isNone = r) (h : Ex P n ops B dr K s (putE F d (.bool r)) ds T w) : Ex P n ops B dr K ((i, false) :: s) F ds T w :=
  Ex.pure_ ho hg hd _ (fun a hk w' => by subst hr; simp only [execOp, hk.eval hx, hk.eval hy]; rw [Sem.run_bind, (eq_of_equal (x := x) (y := y) (by simp) (run_equal_pn hu)).1]; rfl) h

theorem x_nepn {t t2 e : Nat} {x y : Operand} {p : Option Addr} (r : Bool) (ho : ops[i]? = some ⟨d, .binOp .neq t x y t2, ty, ps, af, g⟩) (hg : guardV ops F g = some true) (hd : dstOK n d = true) (hu : P.underlying t = some (.pointer e)) (hx : ev? F x = some (.pointer p)) (hy : ev? F y = some (.pointer none)) (hr : (!p.isNone) = r) (h : Ex P n ops B dr K s (putE F d (.bool r)) ds T w) : Ex P n ops B dr K ((i, false) :: s) F ds T w :=
  Ex.pure_ ho hg hd _ (fun a hk w' => by subst hr; simp only [execOp, hk.eval hx, hk.eval hy]; rw [Sem.run_bind, (eq_of_equal (x := x) (y := y) (by simp) (run_equal_pn hu)).2]; rfl) h

theorem run_equal_sn {t e : TypeId} {p : Option Addr} {l0 c0 : Nat} {w : World} (hu : P.underlying t = some (.slice e)) : (Op.equal t (.slice p l0 c0) (.slice none 0 0)).run P w = .ok p.isNone w := by
  unfold Op.equal Op.maxDepth Op.equalIn
  rw [Sem.run_bind, run_underlying hu]
  simp only [Result.andThen_ok]
  cases p <;> rfl

theorem x_eqsn {t t2 e : Nat} {x y : Operand} {p : Option Addr} {l0 c0 : Nat} (r : Bool) (ho : ops[i]? = some ⟨d, .binOp .eql t x y t2, ty, ps, af, g⟩) (hg : guardV ops F g = some true) (hd : dstOK n d = true) (hu : P.underlying t = some (.slice e)) (hx : ev? F x = some (.slice p l0 c0)) (hy : ev? F y = some (.slice none 0 0)) (hr : p.isNone = r) (h : Ex P n ops B dr K s (putE F d (.bool r)) ds T w) : Ex P n ops B dr K ((i, false) :: s) F ds T w :=
  Ex.pure_ ho hg hd _ (fun a hk w' => by subst hr; simp only [execOp, hk.eval hx, hk.eval hy]; rw [Sem.run_bind, (eq_of_equal (x := x) (y := y) (by simp) (run_equal_sn hu)).1]; rfl) h

theorem x_nesn {t t2 e : Nat} {x y : Operand} {p : Option Addr} {l0 c0 : Nat} (r : Bool) (ho : ops[i]? = some ⟨d, .binOp .neq t x y t2, ty, ps, af, g⟩) (hg : guardV ops F g = some true) (hd : dstOK n d = true) (hu : P.underlying t = some (.slice e)) (hx : ev? F x = some (.slice p l0 c0)) (hy : ev? F y = some (.slice none 0 0)) (hr : (!p.isNone) = r) (h : Ex P n ops B dr K s (putE F d (.bool r)) ds T w) : Ex P n ops B dr K ((i, false) :: s) F ds T w :=
  Ex.pure_ ho hg hd _ (fun a hk w' => by subst hr; simp only [execOp, hk.eval hx, hk.eval hy]; rw [Sem.run_bind, (eq_of_equal (x := x) (y := y) (by simp) (run_equal_sn hu)).2]; rfl) h

theorem run_equal_mn {t e : TypeId} {p : Option Nat} {e2 : TypeId} {w : World} (hu : P.underlying t = some (.map e e2)) : (Op.equal t (.map p) (.map none)).run P w = .ok p.isNone w := by
  unfold Op.equal Op.maxDepth Op.equalIn
  rw [Sem.run_bind, run_underlying hu]
  simp only [Result.andThen_ok]
  cases p <;> rfl

theorem x_eqmn {t t2 e : Nat} {x y : Operand} {p : Option Nat} {e2 : TypeId} (r : Bool) (ho : ops[i]? = some ⟨d, .binOp .eql t x y t2, ty, ps, af, g⟩) (hg : guardV ops F g = some true) (hd : dstOK n d = true) (hu : P.underlying t = some (.map e e2)) (hx : ev? F x = some (.map p)) (hy : ev? F y = some (.map none)) (hr : p.isNone = r) (h : Ex P n ops B dr K s (putE F d (.bool r)) ds T w) : Ex P n ops B dr K ((i, false) :: s) F ds T w :=
  Ex.pure_ ho hg hd _ (fun a hk w' => by subst hr; simp only [execOp, hk.eval hx, hk.eval hy]; rw [Sem.run_bind, (eq_of_equal (x := x) (y := y) (by simp) (run_equal_mn hu)).1]; rfl) h

theorem x_nemn {t t2 e : Nat} {x y : Operand} {p : Option Nat} {e2 : TypeId} (r : Bool) (ho : ops[i]? = some ⟨d, .binOp .neq t x y t2, ty, ps, af, g⟩) (hg : guardV ops F g = some true) (hd : dstOK n d = true) (hu : P.underlying t = some (.map e e2)) (hx : ev? F x = some (.map p)) (hy : ev? F y = some (.map none)) (hr : (!p.isNone) = r) (h : Ex P n ops B dr K s (putE F d (.bool r)) ds T w) : Ex P n ops B dr K ((i, false) :: s) F ds T w :=
  Ex.pure_ ho hg hd _ (fun a hk w' => by subst hr; simp only [execOp, hk.eval hx, hk.eval hy]; rw [Sem.run_bind, (eq_of_equal (x := x) (y := y) (by simp) (run_equal_mn hu)).2]; rfl) h

theorem x_eqb {t t2 : Nat} {x y : Operand} {a0 b0 : Bool} (r : Bool) (ho : ops[i]? = some ⟨d, .binOp .eql t x y t2, ty, ps, af, g⟩) (hg : guardV ops F g = some true) (hd : dstOK n d = true) (hu : P.underlying t = some .bool) (hx : ev? F x = some (.bool a0)) (hy : ev? F y = some (.bool b0)) (hr : (a0 == b0) = r) (h : Ex P n ops B dr K s (putE F d (.bool r)) ds T w) : Ex P n ops B dr K ((i, false) :: s) F ds T w :=
  Ex.pure_ ho hg hd _ (fun a hk w' => by subst hr; simp only [execOp, hk.eval hx, hk.eval hy]; rw [Sem.run_bind, (eq_of_equal (x := x) (y := y) (r := a0 == b0) (by simp) (by unfold Op.equal Op.maxDepth Op.equalIn; rw [Sem.run_bind, run_underlying hu]; rfl)).1]; rfl) h

theorem x_neb {t t2 : Nat} {x y : Operand} {a0 b0 : Bool} (r : Bool) (ho : ops[i]? = some ⟨d, .binOp .neq t x y t2, ty, ps, af, g⟩) (hg : guardV ops F g = some true) (hd : dstOK n d = true) (hu : P.underlying t = some .bool) (hx : ev? F x = some (.bool a0)) (hy : ev? F y = some (.bool b0)) (hr : (!(a0 == b0)) = r) (h : Ex P n ops B dr K s (putE F d (.bool r)) ds T w) : Ex P n ops B dr K ((i, false) :: s) F ds T w :=
  Ex.pure_ ho hg hd _ (fun a hk w' => by subst hr; simp only [execOp, hk.eval hx, hk.eval hy]; rw [Sem.run_bind, (eq_of_equal (x := x) (y := y) (r := a0 == b0) (by simp) (by unfold Op.equal Op.maxDepth Op.equalIn; rw [Sem.run_bind, run_underlying hu]; rfl)).2]; rfl) h

/-- A block of plain cells, not empty. -/
def OkBlk (w : World) (b : Nat) : Prop := ∃ (cs : List Value) (T : TypeId), w.heap[b]? = some (.cells cs.toArray T (0, 0)) ∧ cs.length ≠ 0
theorem run_sameAddr {b1 o1 b2 o2 : Nat} {w : World} (h1 : OkBlk w b1) (h2 : OkBlk w b2) : (sameAddr ⟨b1, o1, none⟩ ⟨b2, o2, none⟩).run P w = .ok (decide (b1 = b2 ∧ o1 = o2)) w := by
  obtain ⟨c1, T1, g1, n1⟩ := h1
  obtain ⟨c2, T2, g2, n2⟩ := h2
  unfold sameAddr
  by_cases hb : b1 = b2
  · subst hb
    simp only [beq_self_eq_true, if_true, Sem.run_pure]
    congr 1
    by_cases ho : o1 = o2
    · subst ho; simp
    · rw [decide_eq_false (by simp [ho])]
      simp [ho]
  · rw [if_neg (by simp [hb])]
    have f1 : ∀ o, w.frozen? ⟨b1, o, none⟩ = false := fun o => by simp [World.frozen?, g1]
    have f2 : ∀ o, w.frozen? ⟨b2, o, none⟩ = false := fun o => by simp [World.frozen?, g2]
    have s1 : w.shape? b1 = some (T1, c1.length) := by simp [World.shape?, g1]
    have s2 : w.shape? b2 = some (T2, c2.length) := by simp [World.shape?, g2]
    have t1 : (stringish ⟨b1, o1, none⟩).run P w = .ok false w := by simp [stringish, f1, s1]
    have t2 : (stringish ⟨b2, o2, none⟩).run P w = .ok false w := by simp [stringish, f2, s2]
    have v1 : (noView ⟨b1, o1, none⟩).run P w = .ok () w := by simp [noView, viewAt, s1]
    have v2 : (noView ⟨b2, o2, none⟩).run P w = .ok () w := by simp [noView, viewAt, s2]
    have m : (mayBeOne ⟨b1, o1, none⟩ ⟨b2, o2, none⟩).run P w = .ok false w := by
      unfold mayBeOne
      simp only [Sem.run_bind, t1, t2, Result.andThen_ok, run_shape, s1, s2, Sem.run_pure]
      rfl
    simp only [Sem.run_bind, run_frozen, f1, f2, Result.andThen_ok, Bool.false_and, Bool.false_eq_true, if_false, v1, v2, m, Sem.run_pure, Sem.run_ite]
    simp [hb]
theorem run_equal_pp {t e m b1 o1 b2 o2 : Nat} {w : World} (hu : P.underlying t = some (.pointer e)) (hs : szOf P e = some m) (hm : m ≠ 0) (h1 : OkBlk w b1) (h2 : OkBlk w b2) :
    (Op.equal t (.pointer (some ⟨b1, o1, none⟩)) (.pointer (some ⟨b2, o2, none⟩))).run P w = .ok (decide (b1 = b2 ∧ o1 = o2)) w := by
  unfold Op.equal Op.maxDepth Op.equalIn
  rw [Sem.run_bind, run_underlying hu]
  simp only [Result.andThen_ok]
  rw [Sem.run_bind, run_sizeOf' hs]
  simp only [Result.andThen_ok, ne_eq, hm, not_false_eq_true, if_true]
  exact run_sameAddr h1 h2

theorem x_eqpp {t t2 e m b1 o1 b2 o2 : Nat} {x y : Operand} (r : Bool) (ho : ops[i]? = some ⟨d, .binOp .eql t x y t2, ty, ps, af, g⟩) (hg : guardV ops F g = some true) (hd : dstOK n d = true) (hu : P.underlying t = some (.pointer e)) (hs : szOf P e = some m) (hm : m ≠ 0) (hx : ev? F x = some (.pointer (some ⟨b1, o1, none⟩))) (hy : ev? F y = some (.pointer (some ⟨b2, o2, none⟩))) (h1 : OkBlk w b1) (h2 : OkBlk w b2) (hr : decide (b1 = b2 ∧ o1 = o2) = r) (h : Ex P n ops B dr K s (putE F d (.bool r)) ds (addT dr i (fun w' => OkBlk w' b1 ∧ OkBlk w' b2) T) w) : Ex P n ops B dr K ((i, false) :: s) F ds T w :=
  Ex.read_ ho hg hd _ (fun w' => OkBlk w' b1 ∧ OkBlk w' b2) (fun a hk w' hR => by subst hr; simp only [execOp, hk.eval hx, hk.eval hy]; rw [Sem.run_bind, (eq_of_equal (x := x) (y := y) (by simp) (run_equal_pp hu hs hm hR.1 hR.2)).1]; rfl) (⟨h1, h2⟩) h

theorem x_nepp {t t2 e m b1 o1 b2 o2 : Nat} {x y : Operand} (r : Bool) (ho : ops[i]? = some ⟨d, .binOp .neq t x y t2, ty, ps, af, g⟩) (hg : guardV ops F g = some true) (hd : dstOK n d = true) (hu : P.underlying t = some (.pointer e)) (hs : szOf P e = some m) (hm : m ≠ 0) (hx : ev? F x = some (.pointer (some ⟨b1, o1, none⟩))) (hy : ev? F y = some (.pointer (some ⟨b2, o2, none⟩))) (h1 : OkBlk w b1) (h2 : OkBlk w b2) (hr : (!decide (b1 = b2 ∧ o1 = o2)) = r) (h : Ex P n ops B dr K s (putE F d (.bool r)) ds (addT dr i (fun w' => OkBlk w' b1 ∧ OkBlk w' b2) T) w) : Ex P n ops B dr K ((i, false) :: s) F ds T w :=
  Ex.read_ ho hg hd _ (fun w' => OkBlk w' b1 ∧ OkBlk w' b2) (fun a hk w' hR => by subst hr; simp only [execOp, hk.eval hx, hk.eval hy]; rw [Sem.run_bind, (eq_of_equal (x := x) (y := y) (by simp) (run_equal_pp hu hs hm hR.1 hR.2)).2]; rfl) (⟨h1, h2⟩) h

end
end Go.Fw
