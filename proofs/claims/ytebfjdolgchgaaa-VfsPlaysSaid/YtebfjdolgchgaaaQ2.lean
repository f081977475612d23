/-
  Texts that belong together, laid into one file: FwZ, TabI, P1, W1, W5, W6, P4, W8, W10, W12, FwK, P5, T2, T3, T4, T1, T5, V8, T6, T7, T8, T9, T10, T11, V18, T12.
-/
import Derived.Lib.IndexLaws
import Derived.Test.YtebfjdolgchgaaaQ1
namespace Go.Fw
open Go Go.RowKit
set_option linter.unusedVariables false
set_option linter.unusedSimpArgs false

/-! ## Facts of the tables, found by class -/
class LdC (P : Program) (t : Nat) : Prop where h : ∃ dd, P.underlying t = some dd ∧ aggD dd = false
class AgC (P : Program) (t : Nat) (k : outParam Nat) : Prop where h : ∃ dd, P.underlying t = some dd ∧ aggD dd = true ∧ szOf P t = some k
class SlC (P : Program) (t : Nat) (e m : outParam Nat) : Prop where h : P.underlying t = some (.slice e) ∧ szOf P e = some m
class SlY (P : Program) (t : Nat) : Prop where h : ∃ e, P.underlying t = some (.slice e)
class IfC (P : Program) (t : Nat) : Prop where h : ∃ dd, P.underlying t = some dd ∧ ∀ ms, dd ≠ .interface ms
class FoC (P : Program) (s f : Nat) (k : outParam Nat) : Prop where h : foOf P s f = some k
class SzC (P : Program) (t : Nat) (k : outParam Nat) : Prop where h : szOf P t = some k
class ZeC (P : Program) (t : Nat) (z : outParam Value) : Prop where h : zeroOf P t = some z
class PlC (P : Program) (t : Nat) (l : outParam (List (Nat × Nat))) : Prop where h : placesOf P t = some l
class EnC (P : Program) (f : Nat) : Prop where h : entered P f = true

/-! ## Operations that look at slots alone -/
def stepV (F : Env) : Op → Option Value
 | .move x => ev? F x
 | .assign x => ev? F x
 | .pick c x y => match ev? F c with
  | some (.bool true) => ev? F x
  | some (.bool false) => ev? F y
  | _ => none
 | .extract x ix => match ev? F x with
  | some (.tuple vs) => vs[ix]?
  | _ => none
 | .nilCheck x => match ev? F x with
  | some v => bif nilOK v then some v else none
  | none => none
 | _ => none

theorem stepV_run {P : Program} {n : Nat} {F : Env} {ds : List Deferred} {o : Oper} {v : Value} (h : stepV F o.op = some v) {a : Act} (hk : Knows n F ds a) (w : World) : (execOp a.eval o).run P w = .ok (.value v) w := by
 obtain ⟨d, op, ty, ps, af, g⟩ := o
 simp only at h
 cases op with
 | move x => simp only [stepV] at h; simp only [execOp, hk.eval h, Sem.run_pure]
 | assign x => simp only [stepV] at h; simp only [execOp, hk.eval h, Sem.run_pure]
 | pick c x y =>
  simp only [stepV] at h
  split at h
  ·rename_i hc; simp only [execOp, hk.eval h, hk.eval hc, asBool]; rfl
  ·rename_i hc; simp only [execOp, hk.eval h, hk.eval hc, asBool]; rfl
  ·cases h
 | extract x ix =>
  simp only [stepV] at h
  split at h
  ·rename_i vs hx; simp only [execOp, hk.eval hx, Instr.extract, h, Sem.run_bind, Sem.run_pure, Result.andThen_ok]
  ·cases h
 | nilCheck x =>
  simp only [stepV] at h
  split at h
  ·rename_i u hx
   cases hn : nilOK u with
   | false => rw [hn] at h; cases h
   | true =>
    rw [hn] at h; simp only [cond_true, Option.some.injEq] at h; subst h
    exact run_nilCheck_ok hn _ x rfl _ (hk.eval hx) w
  ·cases h
 | _ => simp [stepV] at h

def stepE (n : Nat) (ops : Array Oper) (F : Env) (o : Oper) : Option Env := match guardV ops F o.guard with
  | some true => bif dstOK n o.dst then (match stepV F o.op with
   | some v => some (putE F o.dst v)
   | none => none) else none
  | some false => bif dstOK n o.dst then some (putE F o.dst undef) else none
  | none => none

structure ExO (P : Program) (n : Nat) (ops : Array Oper) (B : Array Nat) (dr : Bool) (K : KT) (i : Nat) (m : Bool) (o : Oper) (s : List (Nat × Bool)) (F : Env) (ds : List Deferred) (T : List (Nat × (World → Prop))) (w : World) : Prop where
 out : ops[i]? = some o → Ex P n ops B dr K ((i, m) :: s) F ds T w

section
variable {P : Program} {n : Nat} {ops : Array Oper} {B : Array Nat} {dr : Bool} {K : KT} {s : List (Nat × Bool)} {F F' : Env} {ds : List Deferred} {T : List (Nat × (World → Prop))} {w : World} {i : Nat}
variable {d : Option Tmp} {ty : TypeId} {ps : String} {af : Array Edge} {g : Option (Nat × Bool)}

def nth : List Oper → Nat → Option Oper
 | o :: _, 0 => some o
 | _ :: r, i + 1 => nth r i
 | [], _ => none
theorem nth_get (l : List Oper) : ∀ (i : Nat) (o : Oper), nth l i = some o → l[i]? = some o := by
 induction l with
 | nil => intro i o h; cases h
 | cons a r ih =>
  intro i o h
  cases i with
  | zero => exact h
  | succ i => exact ih i o h
theorem Ex.at {m : Bool} {l : List Oper} {o : Oper} (ho : nth l i = some o) (h : ExO P n ⟨l⟩ B dr K i m o s F ds T w) : Ex P n ⟨l⟩ B dr K ((i, m) :: s) F ds T w := h.out (by simpa using nth_get l i o ho)

theorem y_pure {o : Oper} (hs : stepE n ops F o = some F') (h : Ex P n ops B dr K s F' ds T w) : ExO P n ops B dr K i false o s F ds T w := ⟨fun ho => by
 unfold stepE at hs
 split at hs
 ·rename_i hg
  cases hd : dstOK n o.dst with
  | false => rw [hd] at hs; cases hs
  | true =>
   rw [hd] at hs; simp only [cond_true] at hs
   split at hs
   ·rename_i v hv
    simp only [Option.some.injEq] at hs; subst hs
    exact Ex.pure_ ho hg hd v (fun a hk w' => stepV_run hv hk w') h
   ·cases hs
 ·rename_i hg
  cases hd : dstOK n o.dst with
  | false => rw [hd] at hs; cases hs
  | true =>
   rw [hd] at hs; simp only [cond_true, Option.some.injEq] at hs; subst hs
   exact Ex.skip_ ho hg hd h
 ·cases hs⟩

def skipE (n : Nat) (ops : Array Oper) (F : Env) (o : Oper) : Option Env := match guardV ops F o.guard with
  | some false => bif dstOK n o.dst then some (putE F o.dst undef) else none
  | _ => none
theorem y_skipm {o : Oper} (hs : skipE n ops F o = some F') (h : Ex P n ops B dr K s F' ds T w) : ExO P n ops B dr K i true o s F ds T w := ⟨fun ho => by
 unfold skipE at hs
 split at hs
 ·rename_i hg
  cases hd : dstOK n o.dst with
  | false => rw [hd] at hs; cases hs
  | true =>
   rw [hd] at hs; simp only [cond_true, Option.some.injEq] at hs; subst hs
   exact Ex.skipm_ ho hg hd h
 ·cases hs⟩

inductive LEq : List Value → List Value → Prop
 | nil {l : List Value} (h : l = []) : LEq l []
 | cons {l r r' : List Value} {a : Value} (h : l = a :: r) (h2 : LEq r r') : LEq l (a :: r')
 | refl (l : List Value) : LEq l l
theorem LEq.eq {l l' : List Value} (h : LEq l l') : l = l' := by
 induction h with
 | nil h => exact h
 | cons h _ ih => rw [h, ih]
 | refl => rfl

/-! ## Steps with facts of the tables -/
theorem y_fa {s0 f : Nat} {x : Operand} {b off k : Nat} (hq : (guardV ops F g, dstOK n d, ev? F x) = (some true, true, some (.pointer (some ⟨b, off, none⟩)))) [hf : FoC P s0 f k] (h : Ex P n ops B dr K s (putE F d (.pointer (some ⟨b, off + k, none⟩))) ds T w) : ExO P n ops B dr K i false ⟨d, .fieldAddr s0 x f, ty, ps, af, g⟩ s F ds T w := ExO.mk fun ho =>
 x_fa ho (congrArg (·.1) hq) (congrArg (·.2.1) hq) hf.h (congrArg (·.2.2) hq) h

theorem y_ld {t : Nat} {x : Operand} {b off : Nat} {v : Value} {cs : List Value} {Tb : Nat} {fr : Nat × Nat} (hx : ev? F x = some (.pointer (some ⟨b, off, none⟩))) (hb : w.heap[b]? = some (.cells cs.toArray Tb fr)) (hv : cs[off]? = some v) (hq : (guardV ops F g, dstOK n d) = (some true, true)) [hu : LdC P t] (h : Ex P n ops B dr K s (putE F d v) ds (bif dr then addT dr i (fun w' => w'.cell? ⟨b, off, none⟩ = some v) T else T) w) : ExO P n ops B dr K i false ⟨d, .load t x, ty, ps, af, g⟩ s F ds T w := ExO.mk fun ho => by
 obtain ⟨dd, h1, h2⟩ := hu.h
 refine x_ld ho (congrArg (·.1) hq) (congrArg (·.2) hq) h1 h2 hx (cell_of hb hv) ?_
 cases dr <;> exact h
theorem y_ldA {t : Nat} {x : Operand} {b off m : Nat} {cs l : List Value} {Tb : Nat} {fr : Nat × Nat} (hx : ev? F x = some (.pointer (some ⟨b, off, none⟩))) (hb : w.heap[b]? = some (.cells cs.toArray Tb fr)) [hu : AgC P t m] (hv : LEq ((cs.drop off).take m) l) (hl : Nat.beq l.length m = true) (h0 : Nat.blt 0 m = true) (hq : (guardV ops F g, dstOK n d) = (some true, true)) (h : Ex P n ops B dr K s (putE F d (.agg l.toArray)) ds (bif dr then addT dr i (fun w' => RowAt w' b off l) T else T) w) : ExO P n ops B dr K i false ⟨d, .load t x, ty, ps, af, g⟩ s F ds T w := ExO.mk fun ho => by
 obtain ⟨dd, h1, h2, h3⟩ := hu.h
 have e := Nat.eq_of_beq_eq_true hl
 refine x_ldA l ho (congrArg (·.1) hq) (congrArg (·.2) hq) h1 h2 (by rw [e]; exact h3) (by rw [e]; exact h0) hx ⟨_, _, _, hb, by rw [e]; simpa using hv.eq⟩ ?_
 cases dr <;> exact h
theorem y_done {Q : Exit → Act → World → Prop} (h : At n Q .normal F ds w) (hK : ∀ F' w', At n Q .normal F' ds w' → ∀ T, K F' T w') : Ex P n ops B dr K [] F ds T w := Ex.done (hK _ _ h)
end

/-! ## Regions in the text's order -/
def KN (n : Nat) (ds : List Deferred) (Q : Exit → Act → World → Prop) : KT := fun F' _ w' => At n Q .normal F' ds w'
def isMov (o : Oper) : Bool := match o.op with
 | .box .. | .alloc .. | .store .. | .mapUpdate .. | .buildSlice .. | .makeSlice .. | .makeMap .. | .insert .. | .mapEntry .. | .entryStore .. | .range .. | .next .. | .entry .. | .panic .. | .defer .. | .send .. | .go .. => true
 | .call c => match c.callee with
  | .builtin b => match b with
   | .len | .cap | .min | .max => false
   | _ => true
  | _ => true
 | _ => false
def idx : List Nat := 0 :: 1 :: 2 :: 3 :: 4 :: 5 :: 6 :: 7 :: 8 :: 9 :: 10 :: 11 :: 12 :: 13 :: 14 :: 15 :: 16 :: 17 :: 18 :: 19 :: 20 :: 21 :: 22 :: 23 :: 24 :: 25 :: 26 :: 27 :: 28 :: 29 :: 30 :: 31 :: 32 :: 33 :: 34 :: 35 :: 36 :: 37 :: 38 :: 39 :: 40 :: 41 :: 42 :: 43 :: 44 :: 45 :: 46 :: 47 :: 48 :: 49 :: 50 :: 51 :: 52 :: 53 :: 54 :: 55 :: 56 :: 57 :: 58 :: 59 :: 60 :: 61 :: 62 :: 63 :: 64 :: 65 :: 66 :: 67 :: 68 :: 69 :: 70 :: 71 :: 72 :: 73 :: 74 :: 75 :: 76 :: 77 :: 78 :: 79 :: 80 :: 81 :: 82 :: 83 :: 84 :: 85 :: 86 :: 87 :: 88 :: 89 :: 90 :: 91 :: 92 :: 93 :: 94 :: 95 :: 96 :: 97 :: 98 :: 99 :: 100 :: 101 :: 102 :: 103 :: 104 :: 105 :: 106 :: 107 :: 108 :: 109 :: 110 :: 111 :: 112 :: 113 :: 114 :: 115 :: 116 :: 117 :: 118 :: 119 :: 120 :: 121 :: 122 :: 123 :: 124 :: 125 :: 126 :: 127 :: 128 :: 129 :: 130 :: 131 :: 132 :: 133 :: 134 :: 135 :: 136 :: 137 :: 138 :: 139 :: 140 :: 141 :: 142 :: 143 :: 144 :: 145 :: 146 :: 147 :: 148 :: 149 :: 150 :: 151 :: 152 :: 153 :: 154 :: 155 :: 156 :: 157 :: 158 :: 159 :: []
def schedZ : List Nat → List Oper → List (Nat × Bool)
 | i :: is, o :: os => (i, isMov o) :: schedZ is os
 | _, _ => []
section
variable {P : Program} {n : Nat} {ro : Option Nat} {ops : Array Oper} {B : Array Nat} {dr : Bool} {Q : Exit → Act → World → Prop} {F : Env} {ds : List Deferred} {T : List (Nat × (World → Prop))} {w : World}
def noCv : List Oper → Bool
 | [] => true
 | o :: r => match o.op with
  | .convert .. => false
  | _ => noCv r
theorem y_reg {id : Nat} {l : List Oper} (hc : noCv l = true) (hs : plainOK ⟨l⟩ (schedZ idx l) = true) (h : Ex P n ⟨l⟩ #[] false (KN n ds Q) (schedZ idx l) F ds [] w) : W P n ro (.region id ⟨l⟩ false) Q F ds w :=
 W.reg _ hs fun K hK => Ex.mk fun a TW hk hf => by
  have h1 := h.out a TW hk hf
  simp only [cond_false] at h1 ⊢
  have key : ∀ (s : List (Nat × Bool)) (a : Act) (w : World), runL P ⟨l⟩ (fin n ds (KN n ds Q)) s a w → runL P ⟨l⟩ (fin n ds K) s a w := by
   intro s
   induction s with
   | nil => rintro a w ⟨F', hk, hq⟩; exact ⟨F', hk, fun T => hK _ _ (hq T) T⟩
   | cons x s ih =>
    intro a w h
    exact stA_mono (fun a' w' h' => ih _ _ h') h
  exact key _ _ _ h1
theorem y_fin (h : At n Q .normal F ds w) : Ex P n ops B dr (KN n ds Q) [] F ds T w := Ex.done fun _ => h
end

/-! ## Counted steps -/
structure Cn (n : Nat) : Prop where mk' ::
theorem Cn.dec {n : Nat} (h : Cn (n + 1)) : Cn n := Cn.mk'
class PtC (P : Program) (t : Nat) : Prop where h : ∃ e, P.underlying t = some (.pointer e)
class MpC (P : Program) (t : Nat) : Prop where h : ∃ k e, P.underlying t = some (.map k e)
class StC (P : Program) (t : Nat) : Prop where h : P.underlying t = some .string
class BoC (P : Program) (t : Nat) : Prop where h : P.underlying t = some .bool

def cmpI (o : BinOp) (a b : Int) : Option Bool := match o with
 | .lss => some (decide (a < b))
 | .leq => some (decide (a ≤ b))
 | .gtr => some (decide (a > b))
 | .geq => some (decide (a ≥ b))
 | .eql => some (a == b)
 | .neq => some (a != b)
 | _ => none
section
variable {P : Program} {n : Nat} {ops : Array Oper} {B : Array Nat} {dr : Bool} {K : KT} {s : List (Nat × Bool)} {F F' : Env} {ds : List Deferred} {T : List (Nat × (World → Prop))} {w : World} {i : Nat}
variable {d : Option Tmp} {ty : TypeId} {ps : String} {af : Array Edge} {g : Option (Nat × Bool)} {t t2 : Nat} {x y : Operand}

theorem y_cmp {op : BinOp} {k : IntKind} {a0 b0 : Int} {r : Bool} (hx : (ev? F x, ev? F y) = (some (.int k a0), some (.int k b0))) (hr : cmpI op a0 b0 = some r) (hq : (guardV ops F g, dstOK n d) = (some true, true)) (h : Ex P n ops B dr K s (putE F d (.bool r)) ds T w) : ExO P n ops B dr K i false ⟨d, .binOp op t x y t2, ty, ps, af, g⟩ s F ds T w := ExO.mk fun ho => by
 have hg := congrArg (·.1) hq; have hd := congrArg (·.2) hq; have h1 := congrArg (·.1) hx; have h2 := congrArg (·.2) hx
 cases op <;> simp only [cmpI, Option.some.injEq, reduceCtorEq] at hr
 ·exact x_eqi _ ho hg hd h1 h2 hr h
 ·exact x_nei _ ho hg hd h1 h2 hr h
 ·exact x_lss _ ho hg hd h1 h2 hr h
 ·exact x_leq _ ho hg hd h1 h2 hr h
 ·exact x_gtr _ ho hg hd h1 h2 hr h
 ·exact x_geq _ ho hg hd h1 h2 hr h
theorem y_pe (r : Bool) {p : Option Addr}  (hx : (ev? F x, ev? F y) = (some (.pointer p), some (.pointer none))) (hr : p.isNone = r) (hq : (guardV ops F g, dstOK n d) = (some true, true)) [hu : PtC P t] (h : Ex P n ops B dr K s (putE F d (.bool r)) ds T w) : ExO P n ops B dr K i false ⟨d, .binOp .eql t x y t2, ty, ps, af, g⟩ s F ds T w := ExO.mk fun ho => by
 obtain ⟨e, hu⟩ := hu.h
 exact x_eqpn r ho (congrArg (·.1) hq) (congrArg (·.2) hq) hu (congrArg (·.1) hx) (congrArg (·.2) hx) hr h
theorem y_pn (r : Bool) {p : Option Addr}  (hx : (ev? F x, ev? F y) = (some (.pointer p), some (.pointer none))) (hr : (!p.isNone) = r) (hq : (guardV ops F g, dstOK n d) = (some true, true)) [hu : PtC P t] (h : Ex P n ops B dr K s (putE F d (.bool r)) ds T w) : ExO P n ops B dr K i false ⟨d, .binOp .neq t x y t2, ty, ps, af, g⟩ s F ds T w := ExO.mk fun ho => by
 obtain ⟨e, hu⟩ := hu.h
 exact x_nepn r ho (congrArg (·.1) hq) (congrArg (·.2) hq) hu (congrArg (·.1) hx) (congrArg (·.2) hx) hr h
theorem y_se (r : Bool) {p : Option Addr} {l0 c0 : Nat} (hx : (ev? F x, ev? F y) = (some (.slice p l0 c0), some (.slice none 0 0))) (hr : p.isNone = r) (hq : (guardV ops F g, dstOK n d) = (some true, true)) [hu : SlY P t] (h : Ex P n ops B dr K s (putE F d (.bool r)) ds T w) : ExO P n ops B dr K i false ⟨d, .binOp .eql t x y t2, ty, ps, af, g⟩ s F ds T w := ExO.mk fun ho => by
 obtain ⟨e, hu⟩ := hu.h
 exact x_eqsn r ho (congrArg (·.1) hq) (congrArg (·.2) hq) hu (congrArg (·.1) hx) (congrArg (·.2) hx) hr h
theorem y_sn (r : Bool) {p : Option Addr} {l0 c0 : Nat} (hx : (ev? F x, ev? F y) = (some (.slice p l0 c0), some (.slice none 0 0))) (hr : (!p.isNone) = r) (hq : (guardV ops F g, dstOK n d) = (some true, true)) [hu : SlY P t] (h : Ex P n ops B dr K s (putE F d (.bool r)) ds T w) : ExO P n ops B dr K i false ⟨d, .binOp .neq t x y t2, ty, ps, af, g⟩ s F ds T w := ExO.mk fun ho => by
 obtain ⟨e, hu⟩ := hu.h
 exact x_nesn r ho (congrArg (·.1) hq) (congrArg (·.2) hq) hu (congrArg (·.1) hx) (congrArg (·.2) hx) hr h
theorem y_me (r : Bool) {p : Option Nat}  (hx : (ev? F x, ev? F y) = (some (.map p), some (.map none))) (hr : p.isNone = r) (hq : (guardV ops F g, dstOK n d) = (some true, true)) [hu : MpC P t] (h : Ex P n ops B dr K s (putE F d (.bool r)) ds T w) : ExO P n ops B dr K i false ⟨d, .binOp .eql t x y t2, ty, ps, af, g⟩ s F ds T w := ExO.mk fun ho => by
 obtain ⟨k, e, hu⟩ := hu.h
 exact x_eqmn r ho (congrArg (·.1) hq) (congrArg (·.2) hq) hu (congrArg (·.1) hx) (congrArg (·.2) hx) hr h
theorem y_mn (r : Bool) {p : Option Nat}  (hx : (ev? F x, ev? F y) = (some (.map p), some (.map none))) (hr : (!p.isNone) = r) (hq : (guardV ops F g, dstOK n d) = (some true, true)) [hu : MpC P t] (h : Ex P n ops B dr K s (putE F d (.bool r)) ds T w) : ExO P n ops B dr K i false ⟨d, .binOp .neq t x y t2, ty, ps, af, g⟩ s F ds T w := ExO.mk fun ho => by
 obtain ⟨k, e, hu⟩ := hu.h
 exact x_nemn r ho (congrArg (·.1) hq) (congrArg (·.2) hq) hu (congrArg (·.1) hx) (congrArg (·.2) hx) hr h

theorem y_not (r : Bool) {b : Bool} (hx : ev? F x = some (.bool b)) (hr : (!b) = r) (hq : (guardV ops F g, dstOK n d) = (some true, true)) (h : Ex P n ops B dr K s (putE F d (.bool r)) ds T w) : ExO P n ops B dr K i false ⟨d, .unOp .not t x, ty, ps, af, g⟩ s F ds T w := ExO.mk fun ho =>
 x_not r ho (congrArg (·.1) hq) (congrArg (·.2) hq) hx hr h
theorem y_eqb (r : Bool) {a b : Bool} (hx : (ev? F x, ev? F y) = (some (.bool a), some (.bool b))) (hr : (a == b) = r) (hq : (guardV ops F g, dstOK n d) = (some true, true)) [hu : BoC P t] (h : Ex P n ops B dr K s (putE F d (.bool r)) ds T w) : ExO P n ops B dr K i false ⟨d, .binOp .eql t x y t2, ty, ps, af, g⟩ s F ds T w := ExO.mk fun ho =>
 x_eqb r ho (congrArg (·.1) hq) (congrArg (·.2) hq) hu.h (congrArg (·.1) hx) (congrArg (·.2) hx) hr h
theorem y_len {e m : Nat} {p : Option Addr} {len cp : Nat} (hx : ev? F x = some (.slice p len cp)) (hq : (guardV ops F g, dstOK n d) = (some true, true)) [hu : SlC P t e m] (h : Ex P n ops B dr K s (putE F d (.int .i64 (len : Int))) ds T w) : ExO P n ops B dr K i false ⟨d, .call ⟨.builtin .len, #[x], #[t]⟩, ty, ps, af, g⟩ s F ds T w := ExO.mk fun ho =>
 x_len ho (congrArg (·.1) hq) (congrArg (·.2) hq) rfl hu.h.1 hx h
theorem y_lenS {a : List UInt8} (hx : ev? F x = some (.string (strB a))) (hq : (guardV ops F g, dstOK n d) = (some true, true)) [hu : StC P t] (h : Ex P n ops B dr K s (putE F d (.int .i64 (a.length : Int))) ds T w) : ExO P n ops B dr K i false ⟨d, .call ⟨.builtin .len, #[x], #[t]⟩, ty, ps, af, g⟩ s F ds T w := ExO.mk fun ho =>
 x_lenS ho (congrArg (·.1) hq) (congrArg (·.2) hq) rfl hu.h hx h
theorem y_build {parts : Array (Nat × Operand)} {vs : List (Nat × Value)} {pl : List (Nat × Nat)} {z : Value} {Z cells : List Value} (hx : evps? F parts.toList = some vs) (hq : (guardV ops F g, dstOK n d) = (some true, true)) [hp : PlC P t pl] [hz : ZeC P t z] (hZ : z.cells = Z.toArray) (hf : Instr.fill (fun i => pl[i]?) Z.toArray vs = some cells.toArray) (h : Ex P n ops B dr K s (putE F d (.agg cells.toArray)) ds T w) : ExO P n ops B dr K i false ⟨d, .build t parts, ty, ps, af, g⟩ s F ds T w := ExO.mk fun ho =>
 x_build cells ho (congrArg (·.1) hq) (congrArg (·.2) hq) hp.h hz.h hx hZ hf h
theorem y_mkif {v : Value} (hx : ev? F x = some v) (hq : (guardV ops F g, dstOK n d) = (some true, true)) [hu : IfC P t] (h : Ex P n ops B dr K s (putE F d (.iface t v)) ds T w) : ExO P n ops B dr K i false ⟨d, .makeInterface t x, ty, ps, af, g⟩ s F ds T w := ExO.mk fun ho => by
 obtain ⟨dd, h1, h2⟩ := hu.h
 exact x_mkif ho (congrArg (·.1) hq) (congrArg (·.2) hq) hx h1 h2 h

/-! ## Steps that make or turn a block -/
section
theorem y_box {v : Value} {cs : List Value} {C : Nat → World → Prop} (hx : ev? F x = some v) (hc : v.cells = cs.toArray) (hq : (guardV ops F g, dstOK n d) = (some true, true)) (hM : ∀ b w1, b = w.heap.size → w1 = w.alloc (.cells cs.toArray t) → C b w1) (h : ∀ b w1, C b w1 → Ex P n ops B dr K s (putE F d (.pointer (some ⟨b, 0, none⟩))) ds [] w1) : ExO P n ops B dr K i true ⟨d, .box t x, ty, ps, af, g⟩ s F ds [] w := ExO.mk fun ho =>
 x_box cs ho (congrArg (·.1) hq) (congrArg (·.2) hq) hx hc fun b w1 hb hw => ⟨trivial, h b w1 (hM b w1 hb hw)⟩
theorem y_alloc {z : Value} {cs : List Value} {C : Nat → World → Prop} (hq : (guardV ops F g, dstOK n d) = (some true, true)) [hz : ZeC P t z] (hc : z.cells = cs.toArray) (hM : ∀ b w1, b = w.heap.size → w1 = w.alloc (.cells cs.toArray t) → C b w1) (h : ∀ b w1, C b w1 → Ex P n ops B dr K s (putE F d (.pointer (some ⟨b, 0, none⟩))) ds [] w1) : ExO P n ops B dr K i true ⟨d, .alloc t, ty, ps, af, g⟩ s F ds [] w := ExO.mk fun ho =>
 x_alloc cs ho (congrArg (·.1) hq) (congrArg (·.2) hq) hz.h hc fun b w1 hb hw => ⟨trivial, h b w1 (hM b w1 hb hw)⟩
theorem y_st {v : Value} {b off Tb m : Nat} {cs l cs2 : List Value} {C : World → Prop} (hx : (ev? F x, ev? F y) = (some (.pointer (some ⟨b, off, none⟩)), some v)) (hv : v.cells = l.toArray) (h1 : l.all Value.oneCell' = true) (hb : w.heap[b]? = some (.cells cs.toArray Tb (0, 0))) [hs : SzC P t m] (hm : Nat.beq l.length m = true) (hle : Nat.ble (off + m) cs.length = true) (hc2 : LEq (cs.take off ++ l ++ cs.drop (off + m)) cs2) (hq : (guardV ops F g, dstOK n d) = (some true, true)) (hM : ∀ w1, w1 = w.putObj b (.cells cs2.toArray Tb (0, 0)) → C w1) (h : ∀ w1, C w1 → Ex P n ops B dr K s (putE F d undef) ds [] w1) : ExO P n ops B dr K i true ⟨d, .store t x y, ty, ps, af, g⟩ s F ds [] w := ExO.mk fun ho => by
 have e := Nat.eq_of_beq_eq_true hm
 exact x_st l cs2 ho (congrArg (·.1) hq) (congrArg (·.2) hq) (by rw [e]; exact hs.h) (congrArg (·.1) hx) (congrArg (·.2) hx) hv h1 hb rfl (by rw [e]; exact hle) (by rw [e]; exact hc2.eq) fun w1 hw => ⟨trivial, h w1 (hM w1 hw)⟩
end

/-! ## Results out of cells -/
theorem y_rv {b off : Nat} {cs : List Value} {Tb : Nat} {fr : Nat × Nat} {v : Value} (hb : w.heap[b]? = some (.cells cs.toArray Tb fr)) [hu : LdC P t] (hv : cs[off]? = some v) : (loadVar t ⟨b, off, none⟩).run P w = .ok v w := by
 obtain ⟨dd, h1, h2⟩ := hu.h
 exact run_loadVar1 h1 h2 (cell_of hb hv)
theorem y_rA {b off m : Nat} {cs l : List Value} {Tb : Nat} {fr : Nat × Nat} (hb : w.heap[b]? = some (.cells cs.toArray Tb fr)) [hu : AgC P t m] (hv : LEq ((cs.drop off).take m) l) (hl : Nat.beq l.length m = true) (h0 : Nat.blt 0 m = true) : (loadVar t ⟨b, off, none⟩).run P w = .ok (.agg l.toArray) w := by
 obtain ⟨dd, h1, h2, h3⟩ := hu.h
 have e := Nat.eq_of_beq_eq_true hl
 exact run_loadVarA h1 h2 (by rw [e]; exact h3) ⟨_, _, _, hb, by rw [e]; simpa using hv.eq⟩ (by rw [e]; simpa [Nat.blt_eq] using h0)
theorem pnd {p G : Prop} (h : G) (hp : p := by
 repeat (first
  | exact trivial
  | refine ⟨.inl (by dsimp only; decide), ?_⟩
  | refine ⟨.inr (cell_of (by first | exact M.at_ 0 rfl | exact M.at_ 1 rfl | exact M.at_ 2 rfl | exact M.at_ 3 rfl | exact M.at_ 4 rfl | exact M.at_ 5 rfl | exact M.at_ 6 rfl | exact M.at_ 7 rfl | exact M.at_ 8 rfl | exact M.at_ 9 rfl | exact M.at_ 10 rfl | exact M.at_ 11 rfl) rfl), ?_⟩
  | refine ⟨.inr ⟨_, _, _, (by first | exact M.at_ 0 rfl | exact M.at_ 1 rfl | exact M.at_ 2 rfl | exact M.at_ 3 rfl | exact M.at_ 4 rfl | exact M.at_ 5 rfl | exact M.at_ 6 rfl | exact M.at_ 7 rfl | exact M.at_ 8 rfl | exact M.at_ 9 rfl | exact M.at_ 10 rfl | exact M.at_ 11 rfl), rfl⟩, ?_⟩)) : p ∧ G := ⟨hp, h⟩
end

section
variable {P : Program} {n : Nat} {ops : Array Oper} {B : Array Nat} {dr : Bool} {K : KT} {s : List (Nat × Bool)} {F : Env} {ds : List Deferred} {T : List (Nat × (World → Prop))} {w : World} {i : Nat}
variable {d : Option Tmp} {ty : TypeId} {ps : String} {af : Array Edge} {g : Option (Nat × Bool)} {t t2 : Nat} {x y : Operand}
theorem y_eqS {a b : List UInt8} (hx : (ev? F x, ev? F y) = (some (.string (strB a)), some (.string (strB b)))) (hq : (guardV ops F g, dstOK n d) = (some true, true)) (h : Ex P n ops B dr K s (putE F d (.bool (decide (a = b)))) ds T w) : ExO P n ops B dr K i false ⟨d, .binOp .eql t x y t2, ty, ps, af, g⟩ s F ds T w := ExO.mk fun ho =>
 x_eqS _ ho (congrArg (·.1) hq) (congrArg (·.2) hq) (congrArg (·.1) hx) (congrArg (·.2) hx) rfl h
theorem y_neS {a b : List UInt8} (hx : (ev? F x, ev? F y) = (some (.string (strB a)), some (.string (strB b)))) (hq : (guardV ops F g, dstOK n d) = (some true, true)) (h : Ex P n ops B dr K s (putE F d (.bool (!decide (a = b)))) ds T w) : ExO P n ops B dr K i false ⟨d, .binOp .neq t x y t2, ty, ps, af, g⟩ s F ds T w := ExO.mk fun ho =>
 x_neS _ ho (congrArg (·.1) hq) (congrArg (·.2) hq) (congrArg (·.1) hx) (congrArg (·.2) hx) rfl h
theorem y_mkfn {fn : Fn} {first cap : Array Operand} {vs us : List Value} (hx : (evs? F first.toList, evs? F cap.toList) = (some vs, some us)) (hq : (guardV ops F g, dstOK n d) = (some true, true)) (h : Ex P n ops B dr K s (putE F d (.func fn vs.toArray us.toArray)) ds T w) : ExO P n ops B dr K i false ⟨d, .makeFunc fn first cap, ty, ps, af, g⟩ s F ds T w := ExO.mk fun ho =>
 x_mkfn ho (congrArg (·.1) hq) (congrArg (·.2) hq) (congrArg (·.1) hx) (congrArg (·.2) hx) h
theorem At.ok {Q : Exit → Act → World → Prop} {e : Exit} (h : At n Q e F ds w) : At n Q e F ds w := h
theorem W.ok {Q : Exit → Act → World → Prop} {ro : Option Nat} {c : Code} (h : W P n ro c Q F ds w) : W P n ro c Q F ds w := h
end

theorem go {A G : Prop} (n : Nat) (k : A) (h : Cn n → A → G := by
 intro c_ k_
 repeat (first
  | (refine At.ok ?_; first
    | refine At.then_n ?_
    | refine At.then_r ?_
    | refine At.then_x ?_
    | refine At.blk_n ?_
    | refine At.blk_r ?_
    | refine At.blk_x ?_
    | refine At.blk_y rfl ?_
    | refine At.loop_x ?_
    | refine At.loop_r ?_
    | refine At.cut_r ?_
    | refine At.cut_x ?_
    | refine At.fall ?_
    | (replace c_ := Cn.dec c_; first
      | refine At.ret1 _ rfl (by repeat (first | exact trivial | refine ⟨rfl, ?_⟩ | refine ⟨⟨_, rfl, y_rA (by first | exact M.at_ 0 rfl | exact M.at_ 1 rfl | exact M.at_ 2 rfl | exact M.at_ 3 rfl | exact M.at_ 4 rfl | exact M.at_ 5 rfl | exact M.at_ 6 rfl | exact M.at_ 7 rfl | exact M.at_ 8 rfl | exact M.at_ 9 rfl | exact M.at_ 10 rfl | exact M.at_ 11 rfl) (by first | ((repeat (first | exact LEq.nil rfl | apply LEq.cons rfl)); done) | exact LEq.refl _) (by rfl) (by rfl)⟩, ?_⟩ | refine ⟨⟨_, rfl, y_rv (by first | exact M.at_ 0 rfl | exact M.at_ 1 rfl | exact M.at_ 2 rfl | exact M.at_ 3 rfl | exact M.at_ 4 rfl | exact M.at_ 5 rfl | exact M.at_ 6 rfl | exact M.at_ 7 rfl | exact M.at_ 8 rfl | exact M.at_ 9 rfl | exact M.at_ 10 rfl | exact M.at_ 11 rfl) (by rfl)⟩, ?_⟩)) ?_
      | refine At.ret2 _ _ rfl (by repeat (first | exact trivial | refine ⟨rfl, ?_⟩ | refine ⟨⟨_, rfl, y_rA (by first | exact M.at_ 0 rfl | exact M.at_ 1 rfl | exact M.at_ 2 rfl | exact M.at_ 3 rfl | exact M.at_ 4 rfl | exact M.at_ 5 rfl | exact M.at_ 6 rfl | exact M.at_ 7 rfl | exact M.at_ 8 rfl | exact M.at_ 9 rfl | exact M.at_ 10 rfl | exact M.at_ 11 rfl) (by first | ((repeat (first | exact LEq.nil rfl | apply LEq.cons rfl)); done) | exact LEq.refl _) (by rfl) (by rfl)⟩, ?_⟩ | refine ⟨⟨_, rfl, y_rv (by first | exact M.at_ 0 rfl | exact M.at_ 1 rfl | exact M.at_ 2 rfl | exact M.at_ 3 rfl | exact M.at_ 4 rfl | exact M.at_ 5 rfl | exact M.at_ 6 rfl | exact M.at_ 7 rfl | exact M.at_ 8 rfl | exact M.at_ 9 rfl | exact M.at_ 10 rfl | exact M.at_ 11 rfl) (by rfl)⟩, ?_⟩)) ?_
      | refine At.ret3 _ _ _ rfl (by repeat (first | exact trivial | refine ⟨rfl, ?_⟩ | refine ⟨⟨_, rfl, y_rA (by first | exact M.at_ 0 rfl | exact M.at_ 1 rfl | exact M.at_ 2 rfl | exact M.at_ 3 rfl | exact M.at_ 4 rfl | exact M.at_ 5 rfl | exact M.at_ 6 rfl | exact M.at_ 7 rfl | exact M.at_ 8 rfl | exact M.at_ 9 rfl | exact M.at_ 10 rfl | exact M.at_ 11 rfl) (by first | ((repeat (first | exact LEq.nil rfl | apply LEq.cons rfl)); done) | exact LEq.refl _) (by rfl) (by rfl)⟩, ?_⟩ | refine ⟨⟨_, rfl, y_rv (by first | exact M.at_ 0 rfl | exact M.at_ 1 rfl | exact M.at_ 2 rfl | exact M.at_ 3 rfl | exact M.at_ 4 rfl | exact M.at_ 5 rfl | exact M.at_ 6 rfl | exact M.at_ 7 rfl | exact M.at_ 8 rfl | exact M.at_ 9 rfl | exact M.at_ 10 rfl | exact M.at_ 11 rfl) (by rfl)⟩, ?_⟩)) ?_
      | refine At.ret0 rfl ?_))
  | (refine W.ok ?_; first
    | refine W.seq ?_
    | refine y_reg rfl (by kernel_rfl) ?_
    | refine W.ret ?_
    | refine W.skip ?_
    | refine W.exit ?_
    | refine W.block ?_
    | refine W.condT rfl ?_
    | refine W.condF rfl ?_)
  | (refine Ex.at rfl ?_; first
    | refine y_pure rfl ?_
    | refine y_fa rfl ?_
    | refine y_skipm rfl ?_
    | (replace c_ := Cn.dec c_; first
      | refine y_ld rfl (by first | exact M.at_ 0 rfl | exact M.at_ 1 rfl | exact M.at_ 2 rfl | exact M.at_ 3 rfl | exact M.at_ 4 rfl | exact M.at_ 5 rfl | exact M.at_ 6 rfl | exact M.at_ 7 rfl | exact M.at_ 8 rfl | exact M.at_ 9 rfl | exact M.at_ 10 rfl | exact M.at_ 11 rfl) (by rfl) rfl ?_
      | refine y_ldA rfl (by first | exact M.at_ 0 rfl | exact M.at_ 1 rfl | exact M.at_ 2 rfl | exact M.at_ 3 rfl | exact M.at_ 4 rfl | exact M.at_ 5 rfl | exact M.at_ 6 rfl | exact M.at_ 7 rfl | exact M.at_ 8 rfl | exact M.at_ 9 rfl | exact M.at_ 10 rfl | exact M.at_ 11 rfl) (by first | ((repeat (first | exact LEq.nil rfl | apply LEq.cons rfl)); done) | exact LEq.refl _) (by rfl) (by rfl) rfl ?_
      | refine y_cmp rfl rfl rfl ?_
      | refine y_len rfl rfl ?_
      | refine y_build rfl rfl (by rfl) (by rfl) ?_
      | refine y_not true rfl rfl rfl ?_
      | refine y_not false rfl rfl rfl ?_
      | refine y_not _ rfl rfl rfl ?_
      | refine y_pe true rfl rfl rfl ?_
      | refine y_pe false rfl rfl rfl ?_
      | refine y_pe _ rfl rfl rfl ?_
      | refine y_pn true rfl rfl rfl ?_
      | refine y_pn false rfl rfl rfl ?_
      | refine y_pn _ rfl rfl rfl ?_
      | refine y_se true rfl rfl rfl ?_
      | refine y_se false rfl rfl rfl ?_
      | refine y_se _ rfl rfl rfl ?_
      | refine y_sn true rfl rfl rfl ?_
      | refine y_sn false rfl rfl rfl ?_
      | refine y_sn _ rfl rfl rfl ?_
      | refine y_me true rfl rfl rfl ?_
      | refine y_me false rfl rfl rfl ?_
      | refine y_me _ rfl rfl rfl ?_
      | refine y_mn true rfl rfl rfl ?_
      | refine y_mn false rfl rfl rfl ?_
      | refine y_mn _ rfl rfl rfl ?_
      | refine y_eqS rfl rfl ?_
      | refine y_neS rfl rfl ?_
      | refine y_lenS rfl rfl ?_
      | refine y_mkif rfl rfl ?_
      | refine y_mkfn rfl rfl ?_
      | refine y_eqb true rfl rfl rfl ?_
      | refine y_eqb false rfl rfl rfl ?_
      | refine y_eqb _ rfl rfl rfl ?_
      | refine y_box rfl rfl rfl (fun _ _ hb_ hw_ => M.acons hb_ hw_) ?_
      | refine y_alloc rfl (by rfl) (fun _ _ hb_ hw_ => M.acons hb_ hw_) ?_
      | refine y_st rfl rfl rfl (M.at_ 0 rfl) (by rfl) (by rfl) (by first | ((repeat (first | exact LEq.nil rfl | apply LEq.cons rfl)); done) | exact LEq.refl _) rfl (fun _ hw_ => M.put 0 rfl hw_) ?_
      | refine y_st rfl rfl rfl (M.at_ 1 rfl) (by rfl) (by rfl) (by first | ((repeat (first | exact LEq.nil rfl | apply LEq.cons rfl)); done) | exact LEq.refl _) rfl (fun _ hw_ => M.put 1 rfl hw_) ?_
      | refine y_st rfl rfl rfl (M.at_ 2 rfl) (by rfl) (by rfl) (by first | ((repeat (first | exact LEq.nil rfl | apply LEq.cons rfl)); done) | exact LEq.refl _) rfl (fun _ hw_ => M.put 2 rfl hw_) ?_
      | refine y_st rfl rfl rfl (M.at_ 3 rfl) (by rfl) (by rfl) (by first | ((repeat (first | exact LEq.nil rfl | apply LEq.cons rfl)); done) | exact LEq.refl _) rfl (fun _ hw_ => M.put 3 rfl hw_) ?_
      | refine y_st rfl rfl rfl (M.at_ 4 rfl) (by rfl) (by rfl) (by first | ((repeat (first | exact LEq.nil rfl | apply LEq.cons rfl)); done) | exact LEq.refl _) rfl (fun _ hw_ => M.put 4 rfl hw_) ?_
      | refine y_st rfl rfl rfl (M.at_ 5 rfl) (by rfl) (by rfl) (by first | ((repeat (first | exact LEq.nil rfl | apply LEq.cons rfl)); done) | exact LEq.refl _) rfl (fun _ hw_ => M.put 5 rfl hw_) ?_
      | refine y_st rfl rfl rfl (M.at_ 6 rfl) (by rfl) (by rfl) (by first | ((repeat (first | exact LEq.nil rfl | apply LEq.cons rfl)); done) | exact LEq.refl _) rfl (fun _ hw_ => M.put 6 rfl hw_) ?_
      | refine y_st rfl rfl rfl (M.at_ 7 rfl) (by rfl) (by rfl) (by first | ((repeat (first | exact LEq.nil rfl | apply LEq.cons rfl)); done) | exact LEq.refl _) rfl (fun _ hw_ => M.put 7 rfl hw_) ?_
      | refine y_st rfl rfl rfl (M.at_ 8 rfl) (by rfl) (by rfl) (by first | ((repeat (first | exact LEq.nil rfl | apply LEq.cons rfl)); done) | exact LEq.refl _) rfl (fun _ hw_ => M.put 8 rfl hw_) ?_
      | refine y_st rfl rfl rfl (M.at_ 9 rfl) (by rfl) (by rfl) (by first | ((repeat (first | exact LEq.nil rfl | apply LEq.cons rfl)); done) | exact LEq.refl _) rfl (fun _ hw_ => M.put 9 rfl hw_) ?_
      | refine y_st rfl rfl rfl (M.at_ 10 rfl) (by rfl) (by rfl) (by first | ((repeat (first | exact LEq.nil rfl | apply LEq.cons rfl)); done) | exact LEq.refl _) rfl (fun _ hw_ => M.put 10 rfl hw_) ?_
      | refine y_st rfl rfl rfl (M.at_ 11 rfl) (by rfl) (by rfl) (by first | ((repeat (first | exact LEq.nil rfl | apply LEq.cons rfl)); done) | exact LEq.refl _) rfl (fun _ hw_ => M.put 11 rfl hw_) ?_))
  | refine y_fin ?_
  | refine y_done ?_ hK)
 exact k_) : G := h Cn.mk' k

theorem gs {A G : Prop} (n m : Nat) (k : A) (h : Cn n → Cn m → A → G := by
 intro c_ s_ k_
 repeat (first
  | (refine At.ok ?_; first
    | refine At.then_n ?_
    | refine At.then_r ?_
    | refine At.then_x ?_
    | refine At.blk_n ?_
    | refine At.blk_r ?_
    | refine At.blk_x ?_
    | refine At.blk_y rfl ?_
    | refine At.loop_x ?_
    | refine At.loop_r ?_
    | refine At.cut_r ?_
    | refine At.cut_x ?_
    | refine At.fall ?_
    | (replace c_ := Cn.dec c_; first
      | refine At.ret1 _ rfl (by repeat (first | exact trivial | refine ⟨rfl, ?_⟩ | refine ⟨⟨_, rfl, y_rA (by first | exact M.at_ 0 rfl | exact M.at_ 1 rfl | exact M.at_ 2 rfl | exact M.at_ 3 rfl | exact M.at_ 4 rfl | exact M.at_ 5 rfl | exact M.at_ 6 rfl | exact M.at_ 7 rfl | exact M.at_ 8 rfl | exact M.at_ 9 rfl | exact M.at_ 10 rfl | exact M.at_ 11 rfl) (by first | ((repeat (first | exact LEq.nil rfl | apply LEq.cons rfl)); done) | exact LEq.refl _) (by rfl) (by rfl)⟩, ?_⟩ | refine ⟨⟨_, rfl, y_rv (by first | exact M.at_ 0 rfl | exact M.at_ 1 rfl | exact M.at_ 2 rfl | exact M.at_ 3 rfl | exact M.at_ 4 rfl | exact M.at_ 5 rfl | exact M.at_ 6 rfl | exact M.at_ 7 rfl | exact M.at_ 8 rfl | exact M.at_ 9 rfl | exact M.at_ 10 rfl | exact M.at_ 11 rfl) (by rfl)⟩, ?_⟩)) ?_
      | refine At.ret2 _ _ rfl (by repeat (first | exact trivial | refine ⟨rfl, ?_⟩ | refine ⟨⟨_, rfl, y_rA (by first | exact M.at_ 0 rfl | exact M.at_ 1 rfl | exact M.at_ 2 rfl | exact M.at_ 3 rfl | exact M.at_ 4 rfl | exact M.at_ 5 rfl | exact M.at_ 6 rfl | exact M.at_ 7 rfl | exact M.at_ 8 rfl | exact M.at_ 9 rfl | exact M.at_ 10 rfl | exact M.at_ 11 rfl) (by first | ((repeat (first | exact LEq.nil rfl | apply LEq.cons rfl)); done) | exact LEq.refl _) (by rfl) (by rfl)⟩, ?_⟩ | refine ⟨⟨_, rfl, y_rv (by first | exact M.at_ 0 rfl | exact M.at_ 1 rfl | exact M.at_ 2 rfl | exact M.at_ 3 rfl | exact M.at_ 4 rfl | exact M.at_ 5 rfl | exact M.at_ 6 rfl | exact M.at_ 7 rfl | exact M.at_ 8 rfl | exact M.at_ 9 rfl | exact M.at_ 10 rfl | exact M.at_ 11 rfl) (by rfl)⟩, ?_⟩)) ?_
      | refine At.ret3 _ _ _ rfl (by repeat (first | exact trivial | refine ⟨rfl, ?_⟩ | refine ⟨⟨_, rfl, y_rA (by first | exact M.at_ 0 rfl | exact M.at_ 1 rfl | exact M.at_ 2 rfl | exact M.at_ 3 rfl | exact M.at_ 4 rfl | exact M.at_ 5 rfl | exact M.at_ 6 rfl | exact M.at_ 7 rfl | exact M.at_ 8 rfl | exact M.at_ 9 rfl | exact M.at_ 10 rfl | exact M.at_ 11 rfl) (by first | ((repeat (first | exact LEq.nil rfl | apply LEq.cons rfl)); done) | exact LEq.refl _) (by rfl) (by rfl)⟩, ?_⟩ | refine ⟨⟨_, rfl, y_rv (by first | exact M.at_ 0 rfl | exact M.at_ 1 rfl | exact M.at_ 2 rfl | exact M.at_ 3 rfl | exact M.at_ 4 rfl | exact M.at_ 5 rfl | exact M.at_ 6 rfl | exact M.at_ 7 rfl | exact M.at_ 8 rfl | exact M.at_ 9 rfl | exact M.at_ 10 rfl | exact M.at_ 11 rfl) (by rfl)⟩, ?_⟩)) ?_
      | refine At.ret0 rfl ?_))
  | (refine W.ok ?_; first
    | (replace s_ := Cn.dec s_; refine W.seq ?_)
    | refine y_reg rfl (by kernel_rfl) ?_
    | refine W.ret ?_
    | refine W.skip ?_
    | refine W.exit ?_
    | refine W.block ?_
    | refine W.condT rfl ?_
    | refine W.condF rfl ?_)
  | (refine Ex.at rfl ?_; first
    | refine y_pure rfl ?_
    | refine y_fa rfl ?_
    | refine y_skipm rfl ?_
    | (replace c_ := Cn.dec c_; first
      | refine y_ld rfl (by first | exact M.at_ 0 rfl | exact M.at_ 1 rfl | exact M.at_ 2 rfl | exact M.at_ 3 rfl | exact M.at_ 4 rfl | exact M.at_ 5 rfl | exact M.at_ 6 rfl | exact M.at_ 7 rfl | exact M.at_ 8 rfl | exact M.at_ 9 rfl | exact M.at_ 10 rfl | exact M.at_ 11 rfl) (by rfl) rfl ?_
      | refine y_ldA rfl (by first | exact M.at_ 0 rfl | exact M.at_ 1 rfl | exact M.at_ 2 rfl | exact M.at_ 3 rfl | exact M.at_ 4 rfl | exact M.at_ 5 rfl | exact M.at_ 6 rfl | exact M.at_ 7 rfl | exact M.at_ 8 rfl | exact M.at_ 9 rfl | exact M.at_ 10 rfl | exact M.at_ 11 rfl) (by first | ((repeat (first | exact LEq.nil rfl | apply LEq.cons rfl)); done) | exact LEq.refl _) (by rfl) (by rfl) rfl ?_
      | refine y_cmp rfl rfl rfl ?_
      | refine y_len rfl rfl ?_
      | refine y_build rfl rfl (by rfl) (by rfl) ?_
      | refine y_not true rfl rfl rfl ?_
      | refine y_not false rfl rfl rfl ?_
      | refine y_not _ rfl rfl rfl ?_
      | refine y_pe true rfl rfl rfl ?_
      | refine y_pe false rfl rfl rfl ?_
      | refine y_pe _ rfl rfl rfl ?_
      | refine y_pn true rfl rfl rfl ?_
      | refine y_pn false rfl rfl rfl ?_
      | refine y_pn _ rfl rfl rfl ?_
      | refine y_se true rfl rfl rfl ?_
      | refine y_se false rfl rfl rfl ?_
      | refine y_se _ rfl rfl rfl ?_
      | refine y_sn true rfl rfl rfl ?_
      | refine y_sn false rfl rfl rfl ?_
      | refine y_sn _ rfl rfl rfl ?_
      | refine y_me true rfl rfl rfl ?_
      | refine y_me false rfl rfl rfl ?_
      | refine y_me _ rfl rfl rfl ?_
      | refine y_mn true rfl rfl rfl ?_
      | refine y_mn false rfl rfl rfl ?_
      | refine y_mn _ rfl rfl rfl ?_
      | refine y_eqS rfl rfl ?_
      | refine y_neS rfl rfl ?_
      | refine y_lenS rfl rfl ?_
      | refine y_mkif rfl rfl ?_
      | refine y_mkfn rfl rfl ?_
      | refine y_eqb true rfl rfl rfl ?_
      | refine y_eqb false rfl rfl rfl ?_
      | refine y_eqb _ rfl rfl rfl ?_
      | refine y_box rfl rfl rfl (fun _ _ hb_ hw_ => M.acons hb_ hw_) ?_
      | refine y_alloc rfl (by rfl) (fun _ _ hb_ hw_ => M.acons hb_ hw_) ?_
      | refine y_st rfl rfl rfl (M.at_ 0 rfl) (by rfl) (by rfl) (by first | ((repeat (first | exact LEq.nil rfl | apply LEq.cons rfl)); done) | exact LEq.refl _) rfl (fun _ hw_ => M.put 0 rfl hw_) ?_
      | refine y_st rfl rfl rfl (M.at_ 1 rfl) (by rfl) (by rfl) (by first | ((repeat (first | exact LEq.nil rfl | apply LEq.cons rfl)); done) | exact LEq.refl _) rfl (fun _ hw_ => M.put 1 rfl hw_) ?_
      | refine y_st rfl rfl rfl (M.at_ 2 rfl) (by rfl) (by rfl) (by first | ((repeat (first | exact LEq.nil rfl | apply LEq.cons rfl)); done) | exact LEq.refl _) rfl (fun _ hw_ => M.put 2 rfl hw_) ?_
      | refine y_st rfl rfl rfl (M.at_ 3 rfl) (by rfl) (by rfl) (by first | ((repeat (first | exact LEq.nil rfl | apply LEq.cons rfl)); done) | exact LEq.refl _) rfl (fun _ hw_ => M.put 3 rfl hw_) ?_
      | refine y_st rfl rfl rfl (M.at_ 4 rfl) (by rfl) (by rfl) (by first | ((repeat (first | exact LEq.nil rfl | apply LEq.cons rfl)); done) | exact LEq.refl _) rfl (fun _ hw_ => M.put 4 rfl hw_) ?_
      | refine y_st rfl rfl rfl (M.at_ 5 rfl) (by rfl) (by rfl) (by first | ((repeat (first | exact LEq.nil rfl | apply LEq.cons rfl)); done) | exact LEq.refl _) rfl (fun _ hw_ => M.put 5 rfl hw_) ?_
      | refine y_st rfl rfl rfl (M.at_ 6 rfl) (by rfl) (by rfl) (by first | ((repeat (first | exact LEq.nil rfl | apply LEq.cons rfl)); done) | exact LEq.refl _) rfl (fun _ hw_ => M.put 6 rfl hw_) ?_
      | refine y_st rfl rfl rfl (M.at_ 7 rfl) (by rfl) (by rfl) (by first | ((repeat (first | exact LEq.nil rfl | apply LEq.cons rfl)); done) | exact LEq.refl _) rfl (fun _ hw_ => M.put 7 rfl hw_) ?_
      | refine y_st rfl rfl rfl (M.at_ 8 rfl) (by rfl) (by rfl) (by first | ((repeat (first | exact LEq.nil rfl | apply LEq.cons rfl)); done) | exact LEq.refl _) rfl (fun _ hw_ => M.put 8 rfl hw_) ?_
      | refine y_st rfl rfl rfl (M.at_ 9 rfl) (by rfl) (by rfl) (by first | ((repeat (first | exact LEq.nil rfl | apply LEq.cons rfl)); done) | exact LEq.refl _) rfl (fun _ hw_ => M.put 9 rfl hw_) ?_
      | refine y_st rfl rfl rfl (M.at_ 10 rfl) (by rfl) (by rfl) (by first | ((repeat (first | exact LEq.nil rfl | apply LEq.cons rfl)); done) | exact LEq.refl _) rfl (fun _ hw_ => M.put 10 rfl hw_) ?_
      | refine y_st rfl rfl rfl (M.at_ 11 rfl) (by rfl) (by rfl) (by first | ((repeat (first | exact LEq.nil rfl | apply LEq.cons rfl)); done) | exact LEq.refl _) rfl (fun _ hw_ => M.put 11 rfl hw_) ?_))
  | refine y_fin ?_
  | refine y_done ?_ hK)
 exact k_) : G := h Cn.mk' Cn.mk' k

theorem cnd {A A' G : Prop} (n : Nat) (k : A) (k' : A') (h : Cn n → A → A' → G := by
 intro c_ k_ k2_
 repeat (first
  | (refine At.ok ?_; first
    | refine At.then_n ?_
    | refine At.then_r ?_
    | refine At.then_x ?_
    | refine At.blk_n ?_
    | refine At.blk_r ?_
    | refine At.blk_x ?_
    | refine At.blk_y rfl ?_
    | refine At.loop_x ?_
    | refine At.loop_r ?_
    | refine At.cut_r ?_
    | refine At.cut_x ?_
    | refine At.fall ?_
    | (replace c_ := Cn.dec c_; first
      | refine At.ret1 _ rfl (by repeat (first | exact trivial | refine ⟨rfl, ?_⟩ | refine ⟨⟨_, rfl, y_rA (by first | exact M.at_ 0 rfl | exact M.at_ 1 rfl | exact M.at_ 2 rfl | exact M.at_ 3 rfl | exact M.at_ 4 rfl | exact M.at_ 5 rfl | exact M.at_ 6 rfl | exact M.at_ 7 rfl | exact M.at_ 8 rfl | exact M.at_ 9 rfl | exact M.at_ 10 rfl | exact M.at_ 11 rfl) (by first | ((repeat (first | exact LEq.nil rfl | apply LEq.cons rfl)); done) | exact LEq.refl _) (by rfl) (by rfl)⟩, ?_⟩ | refine ⟨⟨_, rfl, y_rv (by first | exact M.at_ 0 rfl | exact M.at_ 1 rfl | exact M.at_ 2 rfl | exact M.at_ 3 rfl | exact M.at_ 4 rfl | exact M.at_ 5 rfl | exact M.at_ 6 rfl | exact M.at_ 7 rfl | exact M.at_ 8 rfl | exact M.at_ 9 rfl | exact M.at_ 10 rfl | exact M.at_ 11 rfl) (by rfl)⟩, ?_⟩)) ?_
      | refine At.ret2 _ _ rfl (by repeat (first | exact trivial | refine ⟨rfl, ?_⟩ | refine ⟨⟨_, rfl, y_rA (by first | exact M.at_ 0 rfl | exact M.at_ 1 rfl | exact M.at_ 2 rfl | exact M.at_ 3 rfl | exact M.at_ 4 rfl | exact M.at_ 5 rfl | exact M.at_ 6 rfl | exact M.at_ 7 rfl | exact M.at_ 8 rfl | exact M.at_ 9 rfl | exact M.at_ 10 rfl | exact M.at_ 11 rfl) (by first | ((repeat (first | exact LEq.nil rfl | apply LEq.cons rfl)); done) | exact LEq.refl _) (by rfl) (by rfl)⟩, ?_⟩ | refine ⟨⟨_, rfl, y_rv (by first | exact M.at_ 0 rfl | exact M.at_ 1 rfl | exact M.at_ 2 rfl | exact M.at_ 3 rfl | exact M.at_ 4 rfl | exact M.at_ 5 rfl | exact M.at_ 6 rfl | exact M.at_ 7 rfl | exact M.at_ 8 rfl | exact M.at_ 9 rfl | exact M.at_ 10 rfl | exact M.at_ 11 rfl) (by rfl)⟩, ?_⟩)) ?_
      | refine At.ret3 _ _ _ rfl (by repeat (first | exact trivial | refine ⟨rfl, ?_⟩ | refine ⟨⟨_, rfl, y_rA (by first | exact M.at_ 0 rfl | exact M.at_ 1 rfl | exact M.at_ 2 rfl | exact M.at_ 3 rfl | exact M.at_ 4 rfl | exact M.at_ 5 rfl | exact M.at_ 6 rfl | exact M.at_ 7 rfl | exact M.at_ 8 rfl | exact M.at_ 9 rfl | exact M.at_ 10 rfl | exact M.at_ 11 rfl) (by first | ((repeat (first | exact LEq.nil rfl | apply LEq.cons rfl)); done) | exact LEq.refl _) (by rfl) (by rfl)⟩, ?_⟩ | refine ⟨⟨_, rfl, y_rv (by first | exact M.at_ 0 rfl | exact M.at_ 1 rfl | exact M.at_ 2 rfl | exact M.at_ 3 rfl | exact M.at_ 4 rfl | exact M.at_ 5 rfl | exact M.at_ 6 rfl | exact M.at_ 7 rfl | exact M.at_ 8 rfl | exact M.at_ 9 rfl | exact M.at_ 10 rfl | exact M.at_ 11 rfl) (by rfl)⟩, ?_⟩)) ?_
      | refine At.ret0 rfl ?_))
  | (refine W.ok ?_; first
    | refine W.seq ?_
    | refine y_reg rfl (by kernel_rfl) ?_
    | refine W.ret ?_
    | refine W.skip ?_
    | refine W.exit ?_
    | refine W.block ?_
    | refine W.condT rfl ?_
    | refine W.condF rfl ?_)
  | (refine Ex.at rfl ?_; first
    | refine y_pure rfl ?_
    | refine y_fa rfl ?_
    | refine y_skipm rfl ?_
    | (replace c_ := Cn.dec c_; first
      | refine y_ld rfl (by first | exact M.at_ 0 rfl | exact M.at_ 1 rfl | exact M.at_ 2 rfl | exact M.at_ 3 rfl | exact M.at_ 4 rfl | exact M.at_ 5 rfl | exact M.at_ 6 rfl | exact M.at_ 7 rfl | exact M.at_ 8 rfl | exact M.at_ 9 rfl | exact M.at_ 10 rfl | exact M.at_ 11 rfl) (by rfl) rfl ?_
      | refine y_ldA rfl (by first | exact M.at_ 0 rfl | exact M.at_ 1 rfl | exact M.at_ 2 rfl | exact M.at_ 3 rfl | exact M.at_ 4 rfl | exact M.at_ 5 rfl | exact M.at_ 6 rfl | exact M.at_ 7 rfl | exact M.at_ 8 rfl | exact M.at_ 9 rfl | exact M.at_ 10 rfl | exact M.at_ 11 rfl) (by first | ((repeat (first | exact LEq.nil rfl | apply LEq.cons rfl)); done) | exact LEq.refl _) (by rfl) (by rfl) rfl ?_
      | refine y_cmp rfl rfl rfl ?_
      | refine y_len rfl rfl ?_
      | refine y_build rfl rfl (by rfl) (by rfl) ?_
      | refine y_not true rfl rfl rfl ?_
      | refine y_not false rfl rfl rfl ?_
      | refine y_not _ rfl rfl rfl ?_
      | refine y_pe true rfl rfl rfl ?_
      | refine y_pe false rfl rfl rfl ?_
      | refine y_pe _ rfl rfl rfl ?_
      | refine y_pn true rfl rfl rfl ?_
      | refine y_pn false rfl rfl rfl ?_
      | refine y_pn _ rfl rfl rfl ?_
      | refine y_se true rfl rfl rfl ?_
      | refine y_se false rfl rfl rfl ?_
      | refine y_se _ rfl rfl rfl ?_
      | refine y_sn true rfl rfl rfl ?_
      | refine y_sn false rfl rfl rfl ?_
      | refine y_sn _ rfl rfl rfl ?_
      | refine y_me true rfl rfl rfl ?_
      | refine y_me false rfl rfl rfl ?_
      | refine y_me _ rfl rfl rfl ?_
      | refine y_mn true rfl rfl rfl ?_
      | refine y_mn false rfl rfl rfl ?_
      | refine y_mn _ rfl rfl rfl ?_
      | refine y_eqS rfl rfl ?_
      | refine y_neS rfl rfl ?_
      | refine y_lenS rfl rfl ?_
      | refine y_mkif rfl rfl ?_
      | refine y_mkfn rfl rfl ?_
      | refine y_eqb true rfl rfl rfl ?_
      | refine y_eqb false rfl rfl rfl ?_
      | refine y_eqb _ rfl rfl rfl ?_
      | refine y_box rfl rfl rfl (fun _ _ hb_ hw_ => M.acons hb_ hw_) ?_
      | refine y_alloc rfl (by rfl) (fun _ _ hb_ hw_ => M.acons hb_ hw_) ?_
      | refine y_st rfl rfl rfl (M.at_ 0 rfl) (by rfl) (by rfl) (by first | ((repeat (first | exact LEq.nil rfl | apply LEq.cons rfl)); done) | exact LEq.refl _) rfl (fun _ hw_ => M.put 0 rfl hw_) ?_
      | refine y_st rfl rfl rfl (M.at_ 1 rfl) (by rfl) (by rfl) (by first | ((repeat (first | exact LEq.nil rfl | apply LEq.cons rfl)); done) | exact LEq.refl _) rfl (fun _ hw_ => M.put 1 rfl hw_) ?_
      | refine y_st rfl rfl rfl (M.at_ 2 rfl) (by rfl) (by rfl) (by first | ((repeat (first | exact LEq.nil rfl | apply LEq.cons rfl)); done) | exact LEq.refl _) rfl (fun _ hw_ => M.put 2 rfl hw_) ?_
      | refine y_st rfl rfl rfl (M.at_ 3 rfl) (by rfl) (by rfl) (by first | ((repeat (first | exact LEq.nil rfl | apply LEq.cons rfl)); done) | exact LEq.refl _) rfl (fun _ hw_ => M.put 3 rfl hw_) ?_
      | refine y_st rfl rfl rfl (M.at_ 4 rfl) (by rfl) (by rfl) (by first | ((repeat (first | exact LEq.nil rfl | apply LEq.cons rfl)); done) | exact LEq.refl _) rfl (fun _ hw_ => M.put 4 rfl hw_) ?_
      | refine y_st rfl rfl rfl (M.at_ 5 rfl) (by rfl) (by rfl) (by first | ((repeat (first | exact LEq.nil rfl | apply LEq.cons rfl)); done) | exact LEq.refl _) rfl (fun _ hw_ => M.put 5 rfl hw_) ?_
      | refine y_st rfl rfl rfl (M.at_ 6 rfl) (by rfl) (by rfl) (by first | ((repeat (first | exact LEq.nil rfl | apply LEq.cons rfl)); done) | exact LEq.refl _) rfl (fun _ hw_ => M.put 6 rfl hw_) ?_
      | refine y_st rfl rfl rfl (M.at_ 7 rfl) (by rfl) (by rfl) (by first | ((repeat (first | exact LEq.nil rfl | apply LEq.cons rfl)); done) | exact LEq.refl _) rfl (fun _ hw_ => M.put 7 rfl hw_) ?_
      | refine y_st rfl rfl rfl (M.at_ 8 rfl) (by rfl) (by rfl) (by first | ((repeat (first | exact LEq.nil rfl | apply LEq.cons rfl)); done) | exact LEq.refl _) rfl (fun _ hw_ => M.put 8 rfl hw_) ?_
      | refine y_st rfl rfl rfl (M.at_ 9 rfl) (by rfl) (by rfl) (by first | ((repeat (first | exact LEq.nil rfl | apply LEq.cons rfl)); done) | exact LEq.refl _) rfl (fun _ hw_ => M.put 9 rfl hw_) ?_
      | refine y_st rfl rfl rfl (M.at_ 10 rfl) (by rfl) (by rfl) (by first | ((repeat (first | exact LEq.nil rfl | apply LEq.cons rfl)); done) | exact LEq.refl _) rfl (fun _ hw_ => M.put 10 rfl hw_) ?_
      | refine y_st rfl rfl rfl (M.at_ 11 rfl) (by rfl) (by rfl) (by first | ((repeat (first | exact LEq.nil rfl | apply LEq.cons rfl)); done) | exact LEq.refl _) rfl (fun _ hw_ => M.put 11 rfl hw_) ?_))
  | refine y_fin ?_
  | refine y_done ?_ hK)
 refine W.cond rfl (fun h_ => ?_) (fun h_ => ?_)
 ·try simp only [sA, sB, sC, sD, sE, sF, sG, sH, sI, sJ, sK, sL, sM, sN, sO] at h_
  revert h_
  exact k_
 ·try simp only [sA, sB, sC, sD, sE, sF, sG, sH, sI, sJ, sK, sL, sM, sN, sO] at h_
  revert h_
  exact k2_) : G := h Cn.mk' k k'

theorem Ex.splitC {P : Program} {n : Nat} {ops : Array Oper} {B : Array Nat} {dr : Bool} {K : KT} {s : List (Nat × Bool)} {F : Env} {ds : List Deferred} {T : List (Nat × (World → Prop))} {w : World} {t : Nat} (c : Cn t) {b : Bool} (hb : look F t = some (.bool b)) (ht : b = true → Ex P n ops B dr K s ((t, .bool true) :: F) ds T w) (hf : b = false → Ex P n ops B dr K s ((t, .bool false) :: F) ds T w) : Ex P n ops B dr K s F ds T w := Ex.split t hb ht hf
theorem spl {A A' G : Prop} (n t : Nat) (k : A) (k' : A') (h : Cn n → Cn t → A → A' → G := by
 intro c_ t_ k_ k2_
 repeat (first
  | (refine At.ok ?_; first
    | refine At.then_n ?_
    | refine At.then_r ?_
    | refine At.then_x ?_
    | refine At.blk_n ?_
    | refine At.blk_r ?_
    | refine At.blk_x ?_
    | refine At.blk_y rfl ?_
    | refine At.loop_x ?_
    | refine At.loop_r ?_
    | refine At.cut_r ?_
    | refine At.cut_x ?_
    | refine At.fall ?_
    | (replace c_ := Cn.dec c_; first
      | refine At.ret1 _ rfl (by repeat (first | exact trivial | refine ⟨rfl, ?_⟩ | refine ⟨⟨_, rfl, y_rA (by first | exact M.at_ 0 rfl | exact M.at_ 1 rfl | exact M.at_ 2 rfl | exact M.at_ 3 rfl | exact M.at_ 4 rfl | exact M.at_ 5 rfl | exact M.at_ 6 rfl | exact M.at_ 7 rfl | exact M.at_ 8 rfl | exact M.at_ 9 rfl | exact M.at_ 10 rfl | exact M.at_ 11 rfl) (by first | ((repeat (first | exact LEq.nil rfl | apply LEq.cons rfl)); done) | exact LEq.refl _) (by rfl) (by rfl)⟩, ?_⟩ | refine ⟨⟨_, rfl, y_rv (by first | exact M.at_ 0 rfl | exact M.at_ 1 rfl | exact M.at_ 2 rfl | exact M.at_ 3 rfl | exact M.at_ 4 rfl | exact M.at_ 5 rfl | exact M.at_ 6 rfl | exact M.at_ 7 rfl | exact M.at_ 8 rfl | exact M.at_ 9 rfl | exact M.at_ 10 rfl | exact M.at_ 11 rfl) (by rfl)⟩, ?_⟩)) ?_
      | refine At.ret2 _ _ rfl (by repeat (first | exact trivial | refine ⟨rfl, ?_⟩ | refine ⟨⟨_, rfl, y_rA (by first | exact M.at_ 0 rfl | exact M.at_ 1 rfl | exact M.at_ 2 rfl | exact M.at_ 3 rfl | exact M.at_ 4 rfl | exact M.at_ 5 rfl | exact M.at_ 6 rfl | exact M.at_ 7 rfl | exact M.at_ 8 rfl | exact M.at_ 9 rfl | exact M.at_ 10 rfl | exact M.at_ 11 rfl) (by first | ((repeat (first | exact LEq.nil rfl | apply LEq.cons rfl)); done) | exact LEq.refl _) (by rfl) (by rfl)⟩, ?_⟩ | refine ⟨⟨_, rfl, y_rv (by first | exact M.at_ 0 rfl | exact M.at_ 1 rfl | exact M.at_ 2 rfl | exact M.at_ 3 rfl | exact M.at_ 4 rfl | exact M.at_ 5 rfl | exact M.at_ 6 rfl | exact M.at_ 7 rfl | exact M.at_ 8 rfl | exact M.at_ 9 rfl | exact M.at_ 10 rfl | exact M.at_ 11 rfl) (by rfl)⟩, ?_⟩)) ?_
      | refine At.ret3 _ _ _ rfl (by repeat (first | exact trivial | refine ⟨rfl, ?_⟩ | refine ⟨⟨_, rfl, y_rA (by first | exact M.at_ 0 rfl | exact M.at_ 1 rfl | exact M.at_ 2 rfl | exact M.at_ 3 rfl | exact M.at_ 4 rfl | exact M.at_ 5 rfl | exact M.at_ 6 rfl | exact M.at_ 7 rfl | exact M.at_ 8 rfl | exact M.at_ 9 rfl | exact M.at_ 10 rfl | exact M.at_ 11 rfl) (by first | ((repeat (first | exact LEq.nil rfl | apply LEq.cons rfl)); done) | exact LEq.refl _) (by rfl) (by rfl)⟩, ?_⟩ | refine ⟨⟨_, rfl, y_rv (by first | exact M.at_ 0 rfl | exact M.at_ 1 rfl | exact M.at_ 2 rfl | exact M.at_ 3 rfl | exact M.at_ 4 rfl | exact M.at_ 5 rfl | exact M.at_ 6 rfl | exact M.at_ 7 rfl | exact M.at_ 8 rfl | exact M.at_ 9 rfl | exact M.at_ 10 rfl | exact M.at_ 11 rfl) (by rfl)⟩, ?_⟩)) ?_
      | refine At.ret0 rfl ?_))
  | (refine W.ok ?_; first
    | refine W.seq ?_
    | refine y_reg rfl (by kernel_rfl) ?_
    | refine W.ret ?_
    | refine W.skip ?_
    | refine W.exit ?_
    | refine W.block ?_
    | refine W.condT rfl ?_
    | refine W.condF rfl ?_)
  | (refine Ex.at rfl ?_; first
    | refine y_pure rfl ?_
    | refine y_fa rfl ?_
    | refine y_skipm rfl ?_
    | (replace c_ := Cn.dec c_; first
      | refine y_ld rfl (by first | exact M.at_ 0 rfl | exact M.at_ 1 rfl | exact M.at_ 2 rfl | exact M.at_ 3 rfl | exact M.at_ 4 rfl | exact M.at_ 5 rfl | exact M.at_ 6 rfl | exact M.at_ 7 rfl | exact M.at_ 8 rfl | exact M.at_ 9 rfl | exact M.at_ 10 rfl | exact M.at_ 11 rfl) (by rfl) rfl ?_
      | refine y_ldA rfl (by first | exact M.at_ 0 rfl | exact M.at_ 1 rfl | exact M.at_ 2 rfl | exact M.at_ 3 rfl | exact M.at_ 4 rfl | exact M.at_ 5 rfl | exact M.at_ 6 rfl | exact M.at_ 7 rfl | exact M.at_ 8 rfl | exact M.at_ 9 rfl | exact M.at_ 10 rfl | exact M.at_ 11 rfl) (by first | ((repeat (first | exact LEq.nil rfl | apply LEq.cons rfl)); done) | exact LEq.refl _) (by rfl) (by rfl) rfl ?_
      | refine y_cmp rfl rfl rfl ?_
      | refine y_len rfl rfl ?_
      | refine y_build rfl rfl (by rfl) (by rfl) ?_
      | refine y_not true rfl rfl rfl ?_
      | refine y_not false rfl rfl rfl ?_
      | refine y_not _ rfl rfl rfl ?_
      | refine y_pe true rfl rfl rfl ?_
      | refine y_pe false rfl rfl rfl ?_
      | refine y_pe _ rfl rfl rfl ?_
      | refine y_pn true rfl rfl rfl ?_
      | refine y_pn false rfl rfl rfl ?_
      | refine y_pn _ rfl rfl rfl ?_
      | refine y_se true rfl rfl rfl ?_
      | refine y_se false rfl rfl rfl ?_
      | refine y_se _ rfl rfl rfl ?_
      | refine y_sn true rfl rfl rfl ?_
      | refine y_sn false rfl rfl rfl ?_
      | refine y_sn _ rfl rfl rfl ?_
      | refine y_me true rfl rfl rfl ?_
      | refine y_me false rfl rfl rfl ?_
      | refine y_me _ rfl rfl rfl ?_
      | refine y_mn true rfl rfl rfl ?_
      | refine y_mn false rfl rfl rfl ?_
      | refine y_mn _ rfl rfl rfl ?_
      | refine y_eqS rfl rfl ?_
      | refine y_neS rfl rfl ?_
      | refine y_lenS rfl rfl ?_
      | refine y_mkif rfl rfl ?_
      | refine y_mkfn rfl rfl ?_
      | refine y_eqb true rfl rfl rfl ?_
      | refine y_eqb false rfl rfl rfl ?_
      | refine y_eqb _ rfl rfl rfl ?_
      | refine y_box rfl rfl rfl (fun _ _ hb_ hw_ => M.acons hb_ hw_) ?_
      | refine y_alloc rfl (by rfl) (fun _ _ hb_ hw_ => M.acons hb_ hw_) ?_
      | refine y_st rfl rfl rfl (M.at_ 0 rfl) (by rfl) (by rfl) (by first | ((repeat (first | exact LEq.nil rfl | apply LEq.cons rfl)); done) | exact LEq.refl _) rfl (fun _ hw_ => M.put 0 rfl hw_) ?_
      | refine y_st rfl rfl rfl (M.at_ 1 rfl) (by rfl) (by rfl) (by first | ((repeat (first | exact LEq.nil rfl | apply LEq.cons rfl)); done) | exact LEq.refl _) rfl (fun _ hw_ => M.put 1 rfl hw_) ?_
      | refine y_st rfl rfl rfl (M.at_ 2 rfl) (by rfl) (by rfl) (by first | ((repeat (first | exact LEq.nil rfl | apply LEq.cons rfl)); done) | exact LEq.refl _) rfl (fun _ hw_ => M.put 2 rfl hw_) ?_
      | refine y_st rfl rfl rfl (M.at_ 3 rfl) (by rfl) (by rfl) (by first | ((repeat (first | exact LEq.nil rfl | apply LEq.cons rfl)); done) | exact LEq.refl _) rfl (fun _ hw_ => M.put 3 rfl hw_) ?_
      | refine y_st rfl rfl rfl (M.at_ 4 rfl) (by rfl) (by rfl) (by first | ((repeat (first | exact LEq.nil rfl | apply LEq.cons rfl)); done) | exact LEq.refl _) rfl (fun _ hw_ => M.put 4 rfl hw_) ?_
      | refine y_st rfl rfl rfl (M.at_ 5 rfl) (by rfl) (by rfl) (by first | ((repeat (first | exact LEq.nil rfl | apply LEq.cons rfl)); done) | exact LEq.refl _) rfl (fun _ hw_ => M.put 5 rfl hw_) ?_
      | refine y_st rfl rfl rfl (M.at_ 6 rfl) (by rfl) (by rfl) (by first | ((repeat (first | exact LEq.nil rfl | apply LEq.cons rfl)); done) | exact LEq.refl _) rfl (fun _ hw_ => M.put 6 rfl hw_) ?_
      | refine y_st rfl rfl rfl (M.at_ 7 rfl) (by rfl) (by rfl) (by first | ((repeat (first | exact LEq.nil rfl | apply LEq.cons rfl)); done) | exact LEq.refl _) rfl (fun _ hw_ => M.put 7 rfl hw_) ?_
      | refine y_st rfl rfl rfl (M.at_ 8 rfl) (by rfl) (by rfl) (by first | ((repeat (first | exact LEq.nil rfl | apply LEq.cons rfl)); done) | exact LEq.refl _) rfl (fun _ hw_ => M.put 8 rfl hw_) ?_
      | refine y_st rfl rfl rfl (M.at_ 9 rfl) (by rfl) (by rfl) (by first | ((repeat (first | exact LEq.nil rfl | apply LEq.cons rfl)); done) | exact LEq.refl _) rfl (fun _ hw_ => M.put 9 rfl hw_) ?_
      | refine y_st rfl rfl rfl (M.at_ 10 rfl) (by rfl) (by rfl) (by first | ((repeat (first | exact LEq.nil rfl | apply LEq.cons rfl)); done) | exact LEq.refl _) rfl (fun _ hw_ => M.put 10 rfl hw_) ?_
      | refine y_st rfl rfl rfl (M.at_ 11 rfl) (by rfl) (by rfl) (by first | ((repeat (first | exact LEq.nil rfl | apply LEq.cons rfl)); done) | exact LEq.refl _) rfl (fun _ hw_ => M.put 11 rfl hw_) ?_))
  | refine y_fin ?_
  | refine y_done ?_ hK)
 refine Ex.splitC t_ rfl (fun h_ => ?_) (fun h_ => ?_)
 ·try simp only [sA, sB, sC, sD, sE, sF, sG, sH, sI, sJ, sK, sL, sM, sN, sO] at h_
  revert h_
  exact k_
 ·try simp only [sA, sB, sC, sD, sE, sF, sG, sH, sI, sJ, sK, sL, sM, sN, sO] at h_
  revert h_
  exact k2_) : G := h Cn.mk' Cn.mk' k k'
end Go.Fw

namespace Go.Proofs.Ytebfjdolgchgaaa
open Go Go.Fw Go.Proofs
instance : LdC Try.prog 3 := ⟨⟨_, Try.underlying3, rfl⟩⟩
instance : LdC Try.prog 4 := ⟨⟨_, Try.underlying4, rfl⟩⟩
instance : BoC Try.prog 4 := ⟨Try.underlying4⟩
instance : LdC Try.prog 5 := ⟨⟨_, Try.underlying5, rfl⟩⟩
instance : LdC Try.prog 9 := ⟨⟨_, Try.underlying9, rfl⟩⟩
instance : StC Try.prog 9 := ⟨Try.underlying9⟩
instance : SlC Try.prog 22 62 1 := ⟨Try.underlying22, sz62⟩
instance : SlC Try.prog 23 3 1 := ⟨Try.underlying23, sz3⟩
instance : LdC Try.prog 26 := ⟨⟨_, Try.underlying26, rfl⟩⟩
instance : PtC Try.prog 26 := ⟨⟨_, Try.underlying26⟩⟩
instance : LdC Try.prog 27 := ⟨⟨_, Try.underlying27, rfl⟩⟩
instance : IfC Try.prog 30 := ⟨⟨_, Try.underlying30, fun _ e => by cases e⟩⟩
instance : LdC Try.prog 31 := ⟨⟨_, Try.underlying31, rfl⟩⟩
instance : SlC Try.prog 31 88 3 := ⟨Try.underlying31, sz88⟩
instance : AgC Try.prog 33 1 := ⟨⟨_, Try.underlying33, rfl, sz33⟩⟩
instance : LdC Try.prog 34 := ⟨⟨_, Try.underlying34, rfl⟩⟩
instance : SlC Try.prog 34 118 4 := ⟨Try.underlying34, sz118⟩
instance : AgC Try.prog 36 2 := ⟨⟨_, Try.underlying36, rfl, sz36⟩⟩
instance : LdC Try.prog 40 := ⟨⟨_, Try.underlying40, rfl⟩⟩
instance : SlC Try.prog 40 98 4 := ⟨Try.underlying40, sz98⟩
instance : AgC Try.prog 42 1 := ⟨⟨_, Try.underlying42, rfl, sz42⟩⟩
instance : LdC Try.prog 43 := ⟨⟨_, Try.underlying43, rfl⟩⟩
instance : SlC Try.prog 43 90 5 := ⟨Try.underlying43, sz90⟩
instance : LdC Try.prog 44 := ⟨⟨_, Try.underlying44, rfl⟩⟩
instance : SlY Try.prog 44 := ⟨⟨_, Try.underlying44⟩⟩
instance : SlC Try.prog 44 61 9 := ⟨Try.underlying44, sz61⟩
instance : AgC Try.prog 46 6 := ⟨⟨_, Try.underlying46, rfl, sz46⟩⟩
instance : LdC Try.prog 56 := ⟨⟨_, Try.underlying56, rfl⟩⟩
instance : SlY Try.prog 56 := ⟨⟨_, Try.underlying56⟩⟩
instance : SlC Try.prog 56 5 1 := ⟨Try.underlying56, sz5⟩
instance : LdC Try.prog 57 := ⟨⟨_, Try.underlying57, rfl⟩⟩
instance : SlY Try.prog 57 := ⟨⟨_, Try.underlying57⟩⟩
instance : SlC Try.prog 57 9 1 := ⟨Try.underlying57, sz9⟩
instance : AgC Try.prog 59 5 := ⟨⟨_, Try.underlying59, rfl, sz59⟩⟩
instance : LdC Try.prog 62 := ⟨⟨_, Try.underlying62, rfl⟩⟩
instance : SlC Try.prog 62 66 9 := ⟨Try.underlying62, sz66⟩
instance : AgC Try.prog 66 9 := ⟨⟨_, Try.underlying66, rfl, sz66⟩⟩
instance : LdC Try.prog 73 := ⟨⟨_, Try.underlying73, rfl⟩⟩
instance : LdC Try.prog 74 := ⟨⟨_, Try.underlying74, rfl⟩⟩
instance : PtC Try.prog 74 := ⟨⟨_, Try.underlying74⟩⟩
instance : LdC Try.prog 75 := ⟨⟨_, Try.underlying75, rfl⟩⟩
instance : SlC Try.prog 75 80 1 := ⟨Try.underlying75, sz80⟩
instance : LdC Try.prog 80 := ⟨⟨_, Try.underlying80, rfl⟩⟩
instance : PtC Try.prog 80 := ⟨⟨_, Try.underlying80⟩⟩
instance : LdC Try.prog 81 := ⟨⟨_, Try.underlying81, rfl⟩⟩
instance : AgC Try.prog 88 3 := ⟨⟨_, Try.underlying88, rfl, sz88⟩⟩
instance : AgC Try.prog 90 5 := ⟨⟨_, Try.underlying90, rfl, sz90⟩⟩
instance : AgC Try.prog 98 4 := ⟨⟨_, Try.underlying98, rfl, sz98⟩⟩
instance : LdC Try.prog 105 := ⟨⟨_, Try.underlying105, rfl⟩⟩
instance : MpC Try.prog 105 := ⟨⟨_, _, Try.underlying105⟩⟩
instance : AgC Try.prog 118 4 := ⟨⟨_, Try.underlying118, rfl, sz118⟩⟩
instance : PtC Try.prog 135 := ⟨⟨_, Try.underlying135⟩⟩
instance : LdC Try.prog 136 := ⟨⟨_, Try.underlying136, rfl⟩⟩
instance : SlC Try.prog 136 142 2 := ⟨Try.underlying136, sz142⟩
instance : AgC Try.prog 142 2 := ⟨⟨_, Try.underlying142, rfl, sz142⟩⟩
instance : LdC Try.prog 143 := ⟨⟨_, Try.underlying143, rfl⟩⟩
instance : LdC Try.prog 160 := ⟨⟨_, Try.underlying160, rfl⟩⟩
instance : EnC Try.prog 10 := ⟨en10⟩
instance : EnC Try.prog 11 := ⟨en11⟩
instance : EnC Try.prog 12 := ⟨en12⟩
instance : EnC Try.prog 13 := ⟨en13⟩
instance : EnC Try.prog 14 := ⟨en14⟩
instance : EnC Try.prog 15 := ⟨en15⟩
instance : EnC Try.prog 16 := ⟨en16⟩
instance : EnC Try.prog 17 := ⟨en17⟩
instance : EnC Try.prog 18 := ⟨en18⟩
instance : EnC Try.prog 19 := ⟨en19⟩
instance : EnC Try.prog 20 := ⟨en20⟩
instance : EnC Try.prog 21 := ⟨en21⟩
instance : EnC Try.prog 22 := ⟨en22⟩
instance : EnC Try.prog 23 := ⟨en23⟩
instance : EnC Try.prog 24 := ⟨en24⟩
instance : EnC Try.prog 25 := ⟨en25⟩
instance : EnC Try.prog 26 := ⟨en26⟩
instance : EnC Try.prog 27 := ⟨en27⟩
instance : EnC Try.prog 29 := ⟨en29⟩
instance : EnC Try.prog 30 := ⟨en30⟩
instance : EnC Try.prog 31 := ⟨en31⟩
instance : EnC Try.prog 32 := ⟨en32⟩
instance : EnC Try.prog 33 := ⟨en33⟩
instance : EnC Try.prog 34 := ⟨en34⟩
instance : EnC Try.prog 35 := ⟨en35⟩
instance : EnC Try.prog 36 := ⟨en36⟩
instance : EnC Try.prog 37 := ⟨en37⟩
instance : EnC Try.prog 38 := ⟨en38⟩
instance : EnC Try.prog 39 := ⟨en39⟩
instance : EnC Try.prog 40 := ⟨en40⟩
instance : EnC Try.prog 41 := ⟨en41⟩
instance : EnC Try.prog 42 := ⟨en42⟩
instance : EnC Try.prog 43 := ⟨en43⟩
instance : EnC Try.prog 44 := ⟨en44⟩
instance : EnC Try.prog 46 := ⟨en46⟩
instance : EnC Try.prog 47 := ⟨en47⟩
instance : EnC Try.prog 48 := ⟨en48⟩
instance : EnC Try.prog 49 := ⟨en49⟩
instance : EnC Try.prog 50 := ⟨en50⟩
instance : EnC Try.prog 51 := ⟨en51⟩
instance : EnC Try.prog 52 := ⟨en52⟩
instance : EnC Try.prog 53 := ⟨en53⟩
instance : EnC Try.prog 54 := ⟨en54⟩
instance : EnC Try.prog 55 := ⟨en55⟩
instance : EnC Try.prog 56 := ⟨en56⟩
instance : EnC Try.prog 57 := ⟨en57⟩
instance : EnC Try.prog 58 := ⟨en58⟩
instance : EnC Try.prog 59 := ⟨en59⟩
instance : EnC Try.prog 60 := ⟨en60⟩
instance : EnC Try.prog 61 := ⟨en61⟩
instance : EnC Try.prog 62 := ⟨en62⟩
instance : EnC Try.prog 63 := ⟨en63⟩
instance : EnC Try.prog 64 := ⟨en64⟩
instance : EnC Try.prog 65 := ⟨en65⟩
instance : EnC Try.prog 66 := ⟨en66⟩
instance : EnC Try.prog 67 := ⟨en67⟩
instance : EnC Try.prog 69 := ⟨en69⟩
instance : EnC Try.prog 70 := ⟨en70⟩
instance : EnC Try.prog 71 := ⟨en71⟩
instance : EnC Try.prog 72 := ⟨en72⟩
instance : EnC Try.prog 73 := ⟨en73⟩
instance : EnC Try.prog 75 := ⟨en75⟩
instance : EnC Try.prog 76 := ⟨en76⟩
instance : EnC Try.prog 77 := ⟨en77⟩
instance : EnC Try.prog 78 := ⟨en78⟩
instance : EnC Try.prog 79 := ⟨en79⟩
instance : EnC Try.prog 80 := ⟨en80⟩
instance : EnC Try.prog 81 := ⟨en81⟩
instance : EnC Try.prog 82 := ⟨en82⟩
instance : EnC Try.prog 83 := ⟨en83⟩
instance : EnC Try.prog 84 := ⟨en84⟩
instance : EnC Try.prog 85 := ⟨en85⟩
instance : EnC Try.prog 87 := ⟨en87⟩
instance : EnC Try.prog 88 := ⟨en88⟩
instance : EnC Try.prog 90 := ⟨en90⟩
instance : EnC Try.prog 91 := ⟨en91⟩
instance : EnC Try.prog 92 := ⟨en92⟩
instance : EnC Try.prog 93 := ⟨en93⟩
instance : EnC Try.prog 94 := ⟨en94⟩
instance : EnC Try.prog 95 := ⟨en95⟩
instance : EnC Try.prog 96 := ⟨en96⟩
instance : FoC Try.prog 107 0 0 := ⟨fo107_0⟩
instance : FoC Try.prog 118 0 0 := ⟨fo118_0⟩
instance : FoC Try.prog 118 1 1 := ⟨fo118_1⟩
instance : FoC Try.prog 118 2 2 := ⟨fo118_2⟩
instance : FoC Try.prog 118 3 3 := ⟨fo118_3⟩
instance : FoC Try.prog 138 0 0 := ⟨fo138_0⟩
instance : FoC Try.prog 140 0 0 := ⟨fo140_0⟩
instance : FoC Try.prog 140 1 1 := ⟨fo140_1⟩
instance : FoC Try.prog 142 0 0 := ⟨fo142_0⟩
instance : FoC Try.prog 142 1 1 := ⟨fo142_1⟩
instance : FoC Try.prog 33 0 0 := ⟨fo33_0⟩
instance : FoC Try.prog 36 0 0 := ⟨fo36_0⟩
instance : FoC Try.prog 36 1 1 := ⟨fo36_1⟩
instance : FoC Try.prog 39 0 0 := ⟨fo39_0⟩
instance : FoC Try.prog 42 0 0 := ⟨fo42_0⟩
instance : FoC Try.prog 46 0 0 := ⟨fo46_0⟩
instance : FoC Try.prog 46 1 2 := ⟨fo46_1⟩
instance : FoC Try.prog 46 2 3 := ⟨fo46_2⟩
instance : FoC Try.prog 46 3 4 := ⟨fo46_3⟩
instance : FoC Try.prog 46 4 5 := ⟨fo46_4⟩
instance : FoC Try.prog 59 0 0 := ⟨fo59_0⟩
instance : FoC Try.prog 59 1 1 := ⟨fo59_1⟩
instance : FoC Try.prog 59 2 2 := ⟨fo59_2⟩
instance : FoC Try.prog 59 3 3 := ⟨fo59_3⟩
instance : FoC Try.prog 59 4 4 := ⟨fo59_4⟩
instance : FoC Try.prog 61 0 0 := ⟨fo61_0⟩
instance : FoC Try.prog 61 1 1 := ⟨fo61_1⟩
instance : FoC Try.prog 61 2 2 := ⟨fo61_2⟩
instance : FoC Try.prog 61 3 3 := ⟨fo61_3⟩
instance : FoC Try.prog 61 4 4 := ⟨fo61_4⟩
instance : FoC Try.prog 66 0 0 := ⟨fo66_0⟩
instance : FoC Try.prog 66 1 1 := ⟨fo66_1⟩
instance : FoC Try.prog 66 2 2 := ⟨fo66_2⟩
instance : FoC Try.prog 66 3 3 := ⟨fo66_3⟩
instance : FoC Try.prog 66 4 4 := ⟨fo66_4⟩
instance : FoC Try.prog 66 5 5 := ⟨fo66_5⟩
instance : FoC Try.prog 66 6 6 := ⟨fo66_6⟩
instance : FoC Try.prog 66 7 7 := ⟨fo66_7⟩
instance : FoC Try.prog 66 8 8 := ⟨fo66_8⟩
instance : FoC Try.prog 77 0 0 := ⟨fo77_0⟩
instance : FoC Try.prog 77 1 1 := ⟨fo77_1⟩
instance : FoC Try.prog 77 2 2 := ⟨fo77_2⟩
instance : FoC Try.prog 77 3 3 := ⟨fo77_3⟩
instance : FoC Try.prog 77 4 4 := ⟨fo77_4⟩
instance : FoC Try.prog 83 0 0 := ⟨fo83_0⟩
instance : FoC Try.prog 83 1 1 := ⟨fo83_1⟩
instance : FoC Try.prog 83 2 2 := ⟨fo83_2⟩
instance : FoC Try.prog 83 3 3 := ⟨fo83_3⟩
instance : FoC Try.prog 83 4 4 := ⟨fo83_4⟩
instance : FoC Try.prog 83 5 5 := ⟨fo83_5⟩
instance : FoC Try.prog 83 6 6 := ⟨fo83_6⟩
instance : FoC Try.prog 83 7 7 := ⟨fo83_7⟩
instance : FoC Try.prog 88 0 0 := ⟨fo88_0⟩
instance : FoC Try.prog 88 1 1 := ⟨fo88_1⟩
instance : FoC Try.prog 88 2 2 := ⟨fo88_2⟩
instance : FoC Try.prog 90 0 0 := ⟨fo90_0⟩
instance : FoC Try.prog 90 1 1 := ⟨fo90_1⟩
instance : FoC Try.prog 90 2 2 := ⟨fo90_2⟩
instance : FoC Try.prog 90 3 3 := ⟨fo90_3⟩
instance : FoC Try.prog 90 4 4 := ⟨fo90_4⟩
instance : FoC Try.prog 98 0 0 := ⟨fo98_0⟩
instance : FoC Try.prog 98 1 1 := ⟨fo98_1⟩
instance : FoC Try.prog 98 2 2 := ⟨fo98_2⟩
instance : FoC Try.prog 98 3 3 := ⟨fo98_3⟩
instance : PlC Try.prog 107 [(0, 1)] := ⟨pl107⟩
instance : PlC Try.prog 118 [(0, 1), (1, 1), (2, 1), (3, 1)] := ⟨pl118⟩
instance : PlC Try.prog 140 [(0, 1), (1, 1)] := ⟨pl140⟩
instance : PlC Try.prog 142 [(0, 1), (1, 1)] := ⟨pl142⟩
instance : PlC Try.prog 33 [(0, 1)] := ⟨pl33⟩
instance : PlC Try.prog 36 [(0, 1), (1, 1)] := ⟨pl36⟩
instance : PlC Try.prog 39 [(0, 2)] := ⟨pl39⟩
instance : PlC Try.prog 42 [(0, 1)] := ⟨pl42⟩
instance : PlC Try.prog 46 [(0, 2), (2, 1), (3, 1), (4, 1), (5, 1)] := ⟨pl46⟩
instance : PlC Try.prog 59 [(0, 1), (1, 1), (2, 1), (3, 1), (4, 1)] := ⟨pl59⟩
instance : PlC Try.prog 61 [(0, 1), (1, 1), (2, 1), (3, 1), (4, 5)] := ⟨pl61⟩
instance : PlC Try.prog 66 [(0, 1), (1, 1), (2, 1), (3, 1), (4, 1), (5, 1), (6, 1), (7, 1), (8, 1)] := ⟨pl66⟩
instance : PlC Try.prog 77 [(0, 1), (1, 1), (2, 1), (3, 1), (4, 1)] := ⟨pl77⟩
instance : PlC Try.prog 83 [(0, 1), (1, 1), (2, 1), (3, 1), (4, 1), (5, 1), (6, 1), (7, 1)] := ⟨pl83⟩
instance : PlC Try.prog 88 [(0, 1), (1, 1), (2, 1)] := ⟨pl88⟩
instance : PlC Try.prog 90 [(0, 1), (1, 1), (2, 1), (3, 1), (4, 1)] := ⟨pl90⟩
instance : PlC Try.prog 98 [(0, 1), (1, 1), (2, 1), (3, 1)] := ⟨pl98⟩
instance : SzC Try.prog 118 4 := ⟨sz118⟩
instance : SzC Try.prog 136 1 := ⟨sz136⟩
instance : SzC Try.prog 142 2 := ⟨sz142⟩
instance : SzC Try.prog 3 1 := ⟨sz3⟩
instance : SzC Try.prog 33 1 := ⟨sz33⟩
instance : SzC Try.prog 36 2 := ⟨sz36⟩
instance : SzC Try.prog 4 1 := ⟨sz4⟩
instance : SzC Try.prog 40 1 := ⟨sz40⟩
instance : SzC Try.prog 42 1 := ⟨sz42⟩
instance : SzC Try.prog 43 1 := ⟨sz43⟩
instance : SzC Try.prog 44 1 := ⟨sz44⟩
instance : SzC Try.prog 46 6 := ⟨sz46⟩
instance : SzC Try.prog 5 1 := ⟨sz5⟩
instance : SzC Try.prog 56 1 := ⟨sz56⟩
instance : SzC Try.prog 57 1 := ⟨sz57⟩
instance : SzC Try.prog 59 5 := ⟨sz59⟩
instance : SzC Try.prog 62 1 := ⟨sz62⟩
instance : SzC Try.prog 66 9 := ⟨sz66⟩
instance : SzC Try.prog 75 1 := ⟨sz75⟩
instance : SzC Try.prog 80 1 := ⟨sz80⟩
instance : SzC Try.prog 81 1 := ⟨sz81⟩
instance : SzC Try.prog 88 3 := ⟨sz88⟩
instance : SzC Try.prog 9 1 := ⟨sz9⟩
instance : SzC Try.prog 90 5 := ⟨sz90⟩
instance : ZeC Try.prog 107 (.agg #[.map none]) := ⟨ze107⟩
instance : ZeC Try.prog 118 (.agg #[.int .i64 0, .int .i64 0, .string ByteArray.empty, .bool false]) := ⟨ze118⟩
instance : ZeC Try.prog 140 (.agg #[.slice none 0 0, .slice none 0 0]) := ⟨ze140⟩
instance : ZeC Try.prog 142 (.agg #[.int .i64 0, .bool false]) := ⟨ze142⟩
instance : ZeC Try.prog 33 (.agg #[.slice none 0 0]) := ⟨ze33⟩
instance : ZeC Try.prog 36 (.agg #[.slice none 0 0, .slice none 0 0]) := ⟨ze36⟩
instance : ZeC Try.prog 39 (.agg #[.slice none 0 0, .slice none 0 0]) := ⟨ze39⟩
instance : ZeC Try.prog 4 (.bool false) := ⟨ze4⟩
instance : ZeC Try.prog 42 (.agg #[.slice none 0 0]) := ⟨ze42⟩
instance : ZeC Try.prog 46 (.agg #[.slice none 0 0, .slice none 0 0, .slice none 0 0, .slice none 0 0, .slice none 0 0, .int .i64 0]) := ⟨ze46⟩
instance : ZeC Try.prog 59 (.agg #[.int .i64 0, .int .i64 0, .int .i64 0, .slice none 0 0, .slice none 0 0]) := ⟨ze59⟩
instance : ZeC Try.prog 61 (.agg #[.int .i64 0, .int .i64 0, .int .i64 0, .int .i64 0, .int .i64 0, .int .i64 0, .int .i64 0, .slice none 0 0, .slice none 0 0]) := ⟨ze61⟩
instance : ZeC Try.prog 66 (.agg #[.int .i64 0, .string ByteArray.empty, .string ByteArray.empty, .int .i64 0, .int .i64 0, .int .i64 0, .bool false, .bool false, .slice none 0 0]) := ⟨ze66⟩
instance : ZeC Try.prog 77 (.agg #[.nilIface, .pointer none, .slice none 0 0, .slice none 0 0, .int .i64 0]) := ⟨ze77⟩
instance : ZeC Try.prog 80 (.pointer none) := ⟨ze80⟩
instance : ZeC Try.prog 83 (.agg #[.int .i64 0, .slice none 0 0, .int .i64 0, .nilFunc, .int .i64 0, .int .i64 0, .string ByteArray.empty, .bool false]) := ⟨ze83⟩
instance : ZeC Try.prog 88 (.agg #[.string ByteArray.empty, .bool false, .slice none 0 0]) := ⟨ze88⟩
instance : ZeC Try.prog 90 (.agg #[.slice none 0 0, .int .i64 0, .int .i64 0, .int .i64 0, .string ByteArray.empty]) := ⟨ze90⟩
instance : ZeC Try.prog 98 (.agg #[.int .i64 0, .string ByteArray.empty, .bool false, .bool false]) := ⟨ze98⟩
end Go.Proofs.Ytebfjdolgchgaaa

namespace Go.Proofs.Ytebfjdolgchgaaa
open Go Go.Fw
set_option linter.unusedVariables false
set_option linter.unusedSimpArgs false

def splitS : List UInt8 → List (List UInt8)
 | [] => [[]]
 | c :: s => if c = 47 then [] :: splitS s else match splitS s with
  | [] => [[c]]
  | p :: r => (c :: p) :: r
def joinS : List (List UInt8) → List UInt8
 | [] => []
 | [p] => p
 | p :: q :: r => p ++ 47 :: joinS (q :: r)

theorem splitS_ne : ∀ s, splitS s ≠ []
 | [] => by simp [splitS]
 | c :: s => by
  unfold splitS
  split
  ·simp
  ·split <;> simp
theorem splitS_ex (s : List UInt8) : ∃ p r, splitS s = p :: r := by
 cases h : splitS s with
 | nil => exact absurd h (splitS_ne s)
 | cons p r => exact ⟨p, r, rfl⟩
theorem joinS_cons {p : List UInt8} {r : List (List UInt8)} (h : r ≠ []) : joinS (p :: r) = p ++ 47 :: joinS r := by
 cases r with
 | nil => exact absurd rfl h
 | cons q r => rfl
theorem joinS_splitS : ∀ s, joinS (splitS s) = s
 | [] => rfl
 | c :: s => by
  have ih := joinS_splitS s
  unfold splitS
  split
  ·rename_i hc; subst hc
   rw [joinS_cons (splitS_ne s), ih]; rfl
  ·obtain ⟨p, r, hs⟩ := splitS_ex s
   rw [hs] at ih ⊢
   simp only
   cases r with
   | nil => simp [joinS] at ih ⊢; exact ih
   | cons q r => simp only [joinS, List.cons_append] at ih ⊢; rw [ih]
theorem splitS_no : ∀ s, ∀ p ∈ splitS s, (47 : UInt8) ∉ p
 | [], p, hp => by simp [splitS] at hp; subst hp; simp
 | c :: s, p, hp => by
  unfold splitS at hp
  split at hp
  ·rcases List.mem_cons.1 hp with rfl | hp
   ·simp
   ·exact splitS_no s p hp
  ·rename_i hc
   obtain ⟨q, r, hs⟩ := splitS_ex s
   rw [hs] at hp
   simp only at hp
   have ih := splitS_no s
   rw [hs] at ih
   rcases List.mem_cons.1 hp with rfl | hp
   ·have := ih q (by simp)
    simp only [List.mem_cons, not_or]
    exact ⟨fun e => hc e.symm, this⟩
   ·exact ih p (by simp [hp])
theorem splitS_one : ∀ {s : List UInt8}, (47 : UInt8) ∉ s → splitS s = [s]
 | [], _ => rfl
 | c :: s, h => by
  simp only [List.mem_cons, not_or] at h
  unfold splitS
  rw [if_neg (fun e => h.1 e.symm), splitS_one h.2]
theorem splitS_app : ∀ {p : List UInt8} (s : List UInt8), (47 : UInt8) ∉ p → splitS (p ++ 47 :: s) = p :: splitS s
 | [], s, _ => by simp [splitS]
 | c :: p, s, h => by
  simp only [List.mem_cons, not_or] at h
  rw [List.cons_append]
  conv => lhs; unfold splitS
  rw [if_neg (fun e => h.1 e.symm), splitS_app s h.2]
theorem splitS_joinS : ∀ {l : List (List UInt8)}, l ≠ [] → (∀ p ∈ l, (47 : UInt8) ∉ p) → splitS (joinS l) = l
 | [], h, _ => absurd rfl h
 | [p], _, h => splitS_one (h p (by simp))
 | p :: q :: r, _, h => by
  unfold joinS
  rw [splitS_app _ (h p (by simp)), splitS_joinS (by simp) (fun x hx => h x (by simp at hx ⊢; exact .inr hx))]


/-! ## What the functions tell -/
def nameC (c : UInt8) : Prop := 32 ≤ c.toNat ∧ c.toNat ≤ 126 ∧ c.toNat ≠ 47 ∧ c.toNat ≠ 92
instance (c : UInt8) : Decidable (nameC c) := by unfold nameC; infer_instance
def nameOK (s : List UInt8) : Prop := 1 ≤ s.length ∧ s.length ≤ 32 ∧ s ≠ [46] ∧ s ≠ [46, 46] ∧ ∀ c ∈ s, nameC c
instance (s : List UInt8) : Decidable (nameOK s) := by unfold nameOK; infer_instance
def nameP (s : List UInt8) : Int := if nameOK s then 0 else 8
def allOK (l : List (List UInt8)) : Prop := ∀ p ∈ l, nameOK p
instance (l : List (List UInt8)) : Decidable (allOK l) := by unfold allOK; infer_instance
def splitP (p : List UInt8) : Option (List (List UInt8)) :=
 if p = [] then some [] else if 120 < p.length then none else if (splitS p).length ≤ 8 ∧ allOK (splitS p) then some (splitS p) else none
def joinP (l : List (List UInt8)) : Option (List UInt8) :=
 if l.length ≤ 8 ∧ allOK l ∧ (joinS l).length ≤ 120 then some (joinS l) else none
def cleanStep (l : List (List UInt8)) (p : List UInt8) : List (List UInt8) := if p = [] ∨ p = [46] then l else if p = [46, 46] then l.dropLast else l ++ [p]
def cleanL (s : List UInt8) : List (List UInt8) := (splitS s).foldl cleanStep []
def cleanP (s : List UInt8) : List UInt8 × Int := if 1024 < s.length then ([], 3) else match joinP (cleanL s) with | some p => (p, 0) | none => ([], 8)
def parentP (p : List UInt8) : List UInt8 × List UInt8 × Int :=
 match splitP p with
 | none => ([], [], 8)
 | some l => if l = [] then ([], [], 9) else (joinS l.dropLast, l.getLast?.getD [], 0)
def underP (p dir : List UInt8) : Bool :=
 match splitP p, splitP dir with
 | some a, some b => b.isPrefixOf a
 | _, _ => false
def namesP (p : List UInt8) : List (List UInt8) := if p = [] then [] else splitS p
def compareL : List (List UInt8) → List (List UInt8) → Int
 | [], [] => 0
 | [], _ :: _ => -1
 | _ :: _, [] => 1
 | p :: a, q :: b => if Lib.compareBytes p q ≠ 0 then Lib.compareBytes p q else compareL a b
def compareP (a b : List UInt8) : Int := compareL (namesP a) (namesP b)
theorem nameP_bad {s : List UInt8} {pos : Nat} {c : UInt8} (hc : s[pos]? = some c) (h : ¬ nameC c) : nameP s = 8 := by
 rw [nameP, if_neg (fun h2 => h (h2.2.2.2.2 c (List.mem_of_getElem? hc)))]
theorem nameP_ok {s : List UInt8} (h1 : 1 ≤ s.length) (h2 : s.length ≤ 32) (h3 : s ≠ [46]) (h4 : s ≠ [46, 46]) (h : ∀ (k : Nat) c, k < s.length → s[k]? = some c → nameC c) : nameP s = 0 := by
 rw [nameP, if_pos]
 refine ⟨h1, h2, h3, h4, fun c hc => ?_⟩
 obtain ⟨k, hk⟩ := List.mem_iff_getElem?.1 hc
 exact h k c (List.getElem?_eq_some_iff.1 hk).1 hk
theorem nameP_zero {s : List UInt8} : nameP s = 0 ↔ nameOK s := by unfold nameP; split <;> simp [*]
theorem nameOK_no {s : List UInt8} (h : nameOK s) : (47 : UInt8) ∉ s := fun hm => (h.2.2.2.2 _ hm).2.2.1 rfl
theorem namesP_some {p : List UInt8} (h : p ≠ []) : namesP p = splitS p := if_neg h

theorem c47 {c : UInt8} (h : (c.toNat : Int) = 47) : c = 47 := by
 have h2 : c.toNat = 47 := by omega
 exact UInt8.toNat_inj.1 (h2.trans rfl)
def PInv (s : List UInt8) (i q : Nat) (A : List (List UInt8)) : Prop :=
 A.length ≤ i ∧ ((i ≤ s.length ∧ q ≤ i ∧ splitS s = A ++ splitS (s.drop q) ∧ (47 : UInt8) ∉ (s.drop q).take (i - q)) ∨ (i = s.length + 1 ∧ splitS s = A))
theorem PInv.zero (s : List UInt8) : PInv s 0 0 [] := ⟨Nat.le_refl _, .inl ⟨Nat.zero_le _, Nat.le_refl _, rfl, by simp⟩⟩
theorem PInv.last {s : List UInt8} {q : Nat} {A : List (List UInt8)} (h : PInv s s.length q A) : q ≤ s.length ∧ PInv s (s.length + 1) (s.length + 1) (A ++ [(s.drop q).take (s.length - q)]) := by
 rcases h with ⟨h0, ⟨_, h1, h2, h3⟩ | ⟨h1, _⟩⟩
 ·refine ⟨h1, by simp; omega, .inr ⟨rfl, ?_⟩⟩
  have e : (s.drop q).take (s.length - q) = s.drop q := List.take_of_length_le (by simp)
  rw [e] at h3 ⊢
  rw [h2, splitS_one h3]
 ·omega
theorem PInv.slash {s : List UInt8} {i q : Nat} {A : List (List UInt8)} (h : PInv s i q A) (hi : s[i]? = some 47) : q ≤ i ∧ PInv s (i + 1) (i + 1) (A ++ [(s.drop q).take (i - q)]) := by
 have hlt := (List.getElem?_eq_some_iff.1 hi).1
 rcases h with ⟨h0, ⟨_, h1, h2, h3⟩ | ⟨h1, _⟩⟩
 ·refine ⟨h1, by simp; omega, .inl ⟨by omega, Nat.le_refl _, ?_, by simp⟩⟩
  have hd : s.drop q = (s.drop q).take (i - q) ++ 47 :: s.drop (i + 1) := by
   conv => lhs; rw [← List.take_append_drop (i - q) (s.drop q)]
   rw [List.drop_drop, show q + (i - q) = i from by omega]
   congr 1
   rw [List.drop_eq_getElem_cons hlt]
   congr 1
   exact (List.getElem?_eq_some_iff.1 hi).2
  rw [h2]
  conv => lhs; rw [hd]
  rw [splitS_app _ h3]
  simp
 ·omega
theorem PInv.other {s : List UInt8} {i q : Nat} {A : List (List UInt8)} {c : UInt8} (h : PInv s i q A) (hi : s[i]? = some c) (hc : c ≠ 47) : PInv s (i + 1) q A := by
 have hlt := (List.getElem?_eq_some_iff.1 hi).1
 rcases h with ⟨h0, ⟨_, h1, h2, h3⟩ | ⟨h1, _⟩⟩
 ·refine ⟨by omega, .inl ⟨by omega, by omega, h2, ?_⟩⟩
  rw [show i + 1 - q = (i - q) + 1 from by omega, List.take_add_one]
  simp only [List.mem_append, not_or]
  refine ⟨h3, ?_⟩
  rw [List.getElem?_drop, show q + (i - q) = i from by omega, hi]
  simpa using fun e => hc e.symm
 ·omega
theorem PInv.done {s : List UInt8} {i q : Nat} {A : List (List UInt8)} (h : PInv s i q A) (hi : s.length < i) : splitS s = A := by
 rcases h with ⟨h0, ⟨h1, _⟩ | ⟨_, h1⟩⟩
 ·omega
 ·exact h1

abbrev ptr (b : Nat) : Value := .pointer (some ⟨b, 0, none⟩)
def splitE (p : List UInt8) : Int := if (splitP p).isSome then 0 else 8
def splitN (p : List UInt8) : List (List UInt8) := (splitP p).getD []
theorem splitP_bad {p : List UInt8} (h0 : p ≠ []) (h : ¬ ((splitS p).length ≤ 8 ∧ allOK (splitS p))) : splitP p = none := by
 unfold splitP; rw [if_neg h0, if_neg h]; split <;> rfl
theorem splitP_long {p : List UInt8} (h : 120 < p.length) : splitP p = none := by
 unfold splitP; rw [if_neg (by intro e; subst e; simp at h), if_pos h]
theorem splitP_good {p : List UInt8} (h0 : p ≠ []) (h1 : p.length ≤ 120) (h : (splitS p).length ≤ 8 ∧ allOK (splitS p)) : splitP p = some (splitS p) := by
 unfold splitP; rw [if_neg h0, if_neg (by omega), if_pos h]
theorem splitE_none {p : List UInt8} (h : splitP p = none) : splitE p = 8 ∧ splitN p = [] := by simp [splitE, splitN, h]
theorem splitE_some {p : List UInt8} {l : List (List UInt8)} (h : splitP p = some l) : splitE p = 0 ∧ splitN p = l := by simp [splitE, splitN, h]
theorem joinS_len {p : List UInt8} {q : List (List UInt8)} (hq : q ≠ []) : (joinS (p :: q)).length = p.length + 1 + (joinS q).length := by rw [joinS_cons hq]; simp; omega

theorem joinS_le : ∀ {l : List (List UInt8)} {k : Nat}, (∀ x ∈ l, x.length ≤ k) → (joinS l).length ≤ (k + 1) * l.length
 | [], k, _ => by simp [joinS]
 | [p], k, h => by have := h p (by simp); simp [joinS]; omega
 | p :: q :: r, k, h => by
  have h1 := h p (by simp)
  have h2 := joinS_le (l := q :: r) (k := k) (fun x hx => h x (List.mem_cons_of_mem _ hx))
  simp only [joinS, List.length_append, List.length_cons] at h2 ⊢
  rw [Nat.mul_succ (k + 1)]
  omega
theorem joinS_snoc : ∀ (a : List (List UInt8)) (x : List UInt8), joinS (a ++ [x]) = if a = [] then x else joinS a ++ 47 :: x
 | [], x => rfl
 | [p], x => by simp [joinS]
 | p :: q :: r, x => by
  have := joinS_snoc (q :: r) x
  simp only [List.cons_append, joinS] at this ⊢
  rw [this]; simp
theorem allOK_len {l : List (List UInt8)} (h : allOK l) : ∀ x ∈ l, x.length ≤ 32 := fun x hx => (h x hx).2.1
def joinE (l : List (List UInt8)) : Int := if (joinP l).isSome then 0 else 8
def joinV (l : List (List UInt8)) : List UInt8 := (joinP l).getD []
theorem joinP_many {l : List (List UInt8)} (h : 8 < l.length) : joinE l = 8 ∧ joinV l = [] := by
 have : joinP l = none := by unfold joinP; rw [if_neg (by intro h2; omega)]
 simp [joinE, joinV, this]
theorem joinP_bad {l : List (List UInt8)} {x : List UInt8} (hx : x ∈ l) (h : ¬ nameOK x) : joinE l = 8 ∧ joinV l = [] := by
 have : joinP l = none := by unfold joinP; rw [if_neg (by intro h2; exact h (h2.2.1 x hx))]
 simp [joinE, joinV, this]
theorem joinP_long {l : List (List UInt8)} (h : 120 < (joinS l).length) : joinE l = 8 ∧ joinV l = [] := by
 have : joinP l = none := by unfold joinP; rw [if_neg (by intro h2; have := h2.2.2; omega)]
 simp [joinE, joinV, this]
theorem joinP_good {l : List (List UInt8)} (h1 : l.length ≤ 8) (h2 : allOK l) (h3 : (joinS l).length ≤ 120) : joinE l = 0 ∧ joinV l = joinS l := by
 have : joinP l = some (joinS l) := by unfold joinP; rw [if_pos ⟨h1, h2, h3⟩]
 simp [joinE, joinV, this]
theorem cleanP_long {s : List UInt8} (h : 1024 < s.length) : cleanP s = ([], 3) := by unfold cleanP; rw [if_pos h]
theorem cleanP_join {s : List UInt8} (h : s.length ≤ 1024) : cleanP s = (joinV (cleanL s), joinE (cleanL s)) := by
 unfold cleanP joinV joinE; rw [if_neg (by omega)]
 cases joinP (cleanL s) <;> rfl
theorem splitS_len : ∀ s : List UInt8, (splitS s).length ≤ s.length + 1
 | [] => by simp [splitS]
 | c :: s => by
  have ih := splitS_len s
  unfold splitS
  split
  ·simp; omega
  ·obtain ⟨p, r, hs⟩ := splitS_ex s
   rw [hs] at ih ⊢
   simp at ih ⊢; omega
theorem all_take {l : List (List UInt8)} {q : Nat} {x : List UInt8} (h : ∀ (k : Nat) y, k < q → l[k]? = some y → nameOK y) (hx : l[q]? = some x) (hn : nameOK x) : ∀ (k : Nat) y, k < q + 1 → l[k]? = some y → nameOK y := by
 intro k y hk hy
 rcases Nat.lt_or_ge k q with h1 | h1
 ·exact h k y h1 hy
 ·have : k = q := by omega
  subst this; rw [hx] at hy; cases hy; exact hn
theorem all_all {l : List (List UInt8)} (h : ∀ (k : Nat) y, k < l.length → l[k]? = some y → nameOK y) : allOK l := fun x hx => by
 obtain ⟨k, hk⟩ := List.mem_iff_getElem?.1 hx
 exact h k x (List.getElem?_eq_some_iff.1 hk).1 hk
theorem get_lt {α : Type} {l : List α} {q : Nat} (h : q < l.length) : ∃ x, l[q]? = some x := ⟨l[q], List.getElem?_eq_getElem h⟩
theorem take_snoc {α : Type} {l : List α} {q : Nat} {x : α} (h : l[q]? = some x) : l.take (q + 1) = l.take q ++ [x] := by rw [List.take_add_one, h]; rfl

theorem cleanStep_dot {A : List (List UInt8)} {p : List UInt8} (h : p = [] ∨ p = [46]) : cleanStep A p = A := by unfold cleanStep; rw [if_pos h]
theorem cleanStep_up {A : List (List UInt8)} {p : List UInt8} (h1 : p ≠ []) (h2 : p ≠ [46]) (h : p = [46, 46]) : cleanStep A p = A.take (A.length - 1) := by
 unfold cleanStep; rw [if_neg (by simp [h1, h2]), if_pos h, List.dropLast_eq_take]
theorem cleanStep_in {A : List (List UInt8)} {p : List UInt8} (h1 : p ≠ []) (h2 : p ≠ [46]) (h : p ≠ [46, 46]) : cleanStep A p = A ++ [p] := by
 unfold cleanStep; rw [if_neg (by simp [h1, h2]), if_neg h]
end Go.Proofs.Ytebfjdolgchgaaa

namespace Go.Proofs.Ytebfjdolgchgaaa
open Go Go.Fw Go.RowKit Go.Proofs
set_option linter.unusedVariables false
set_option linter.unusedSimpArgs false
set_option maxRecDepth 100000
set_option maxHeartbeats 4000000

-- valise/valiseref13.Name
theorem rname_c {w0 : World} {s : List UInt8}  : Ret Try.prog 87 #[strV s] w0 fun r w' => r = .int .i64 (nameP s) ∧ New w0 w' := by
 have M : Sep w0 [] w0 := St.nil w0
 refine Ret.of_W Try.func87 rfl Try.ntmps87 rfl ?_
 refine spl 2 7 ?_ ?_
 ·intro hsp1
  refine go 1 ?_
  exact ⟨by rw [nameP, if_neg (fun h => by have := h.1; omega)], M.frm⟩
 ·intro hsp1
  refine spl 2 12 ?_ ?_
  ·intro hsp2
   refine go 1 ?_
   exact ⟨by rw [nameP, if_neg (fun h => by have := h.2.1; omega)], M.frm⟩
  ·intro hsp2
   refine spl 1 16 ?_ ?_
   ·intro hsp3
    refine go 1 ?_
    exact ⟨by rw [nameP, if_neg (fun h => h.2.2.1 hsp3)], M.frm⟩
   ·intro hsp3
    refine cnd 1 ?_ ?_
    ·intro hco4
     refine go 1 ?_
     exact ⟨by rw [nameP, if_neg (fun h => h.2.2.2.1 hco4)], M.frm⟩
    ·intro hco4
     refine go 0 ?_
     refine W.loop (σ := Nat) (fun q => [(0, _), (3, .int .i64 ((q : Nat) : Int))]) (fun q w => q ≤ s.length ∧ (∀ (k : Nat) c, k < q → s[k]? = some c → nameC c) ∧ Sep w0 [] w) (fun q => s.length - q) 0 ⟨rfl, rfl, trivial⟩ ⟨Nat.zero_le _, fun k c h => by omega, M⟩ ?_
     rintro q w ⟨hle, hall, M⟩
     refine cnd 2 ?_ ?_
     ·intro hco5
      obtain ⟨c, hc⟩ : ∃ c, s[q]? = some c := ⟨s[q]'(by omega), List.getElem?_eq_getElem (by omega)⟩
      have hr : nameC c ↔ _ := Iff.rfl
      unfold nameC at hr
      refine go 0 ?_
      refine x_ixS q rfl rfl rfl Try.underlying9 rfl rfl rfl hc ?_
      refine spl 1 30 ?_ ?_
      ·intro hsp4
       refine go 1 ?_
       exact ⟨by rw [nameP_bad hc (fun h => by unfold nameC at h; omega)], M.frm⟩
      ·intro hsp4
       refine go 0 ?_
       refine x_ixS q rfl rfl rfl Try.underlying9 rfl rfl rfl hc ?_
       refine spl 1 36 ?_ ?_
       ·intro hsp5
        refine go 1 ?_
        exact ⟨by rw [nameP_bad hc (fun h => by unfold nameC at h; omega)], M.frm⟩
       ·intro hsp5
        refine go 0 ?_
        refine x_ixS q rfl rfl rfl Try.underlying9 rfl rfl rfl hc ?_
        refine spl 1 42 ?_ ?_
        ·intro hsp6
         refine go 1 ?_
         exact ⟨by rw [nameP_bad hc (fun h => by unfold nameC at h; omega)], M.frm⟩
        ·intro hsp6
         refine go 0 ?_
         refine x_ixS q rfl rfl rfl Try.underlying9 rfl rfl rfl hc ?_
         refine cnd 1 ?_ ?_
         ·intro hco9
          refine go 1 ?_
          exact ⟨by rw [nameP_bad hc (fun h => by unfold nameC at h; omega)], M.frm⟩
         ·intro hco9
          refine go 0 ?_
          refine x_add _ rfl rfl rfl rfl rfl (wadd (by omega) (by omega)) ?_
          refine go 0 ?_
          exact At.back (q + 1) ⟨rfl, rfl, trivial⟩ ⟨by omega, fun k c2 hk hc2 => by
           rcases Nat.lt_or_ge k q with h1 | h1
           ·exact hall k c2 h1 hc2
           ·have : k = q := by omega
            subst this; rw [hc] at hc2; cases hc2; unfold nameC; omega, M⟩ (by first | omega | (simp only; omega) | (simp; done) | (simp; omega))
     ·intro hco5
      refine go 1 ?_
      exact ⟨by rw [nameP_ok (by omega) (by omega) hsp3 hco4 (fun k c hk hc => hall k c (by omega) hc)], M.frm⟩

end Go.Proofs.Ytebfjdolgchgaaa

namespace Go.Proofs.Ytebfjdolgchgaaa
open Go Go.Fw Go.RowKit Go.Proofs
set_option linter.unusedVariables false
set_option linter.unusedSimpArgs false
set_option maxRecDepth 100000
set_option maxHeartbeats 4000000

-- valise/valiseref13.Pieces
theorem rpieces_c {w0 : World} {s : List UInt8} (hl : s.length ≤ 1099511627776) : Ret Try.prog 75 #[strV s] w0 fun r w' => ∃ Lr, Sep w0 Lr w' ∧ StrsO Lr r (splitS s) := by
 have M : Sep w0 [] w0 := St.nil w0
 refine Ret.of_W Try.func75 rfl Try.ntmps75 rfl ?_
 refine go 0 ?_
 refine W.loop (σ := Nat × Nat × Value) (fun s0 => [(0, _), (3, s0.2.2), (4, .int .i64 ((s0.2.1 : Nat) : Int)), (5, .int .i64 ((s0.1 : Nat) : Int))]) (fun s0 w => s0.1 ≤ s.length + 1 ∧ s0.2.1 ≤ s.length + 1 ∧ ∃ A Lo, PInv s s0.1 s0.2.1 A ∧ StrsO Lo s0.2.2 A ∧ Sep w0 ([] ++ Lo) w) (fun s0 => s.length + 1 - s0.1) (0, 0, .slice none 0 0) ⟨rfl, rfl, rfl, rfl, trivial⟩ ⟨by simp, by simp, [], [], PInv.zero s, OwL.nil, M⟩ ?_
 rintro ⟨i, q, ov⟩ w ⟨hi, hq, A, Lo, hP, how, M⟩
 simp only at hi hq hP how ⊢
 have hAl := hP.1
 refine cnd 2 ?_ ?_
 ·intro hco1
  refine spl 2 16 ?_ ?_
  ·intro hsp1
   have hie : i = s.length := by omega
   subst hie
   obtain ⟨hqi, hP2⟩ := hP.last
   refine go 0 ?_
   refine x_sslhS q s.length rfl rfl rfl Try.underlying9 rfl rfl rfl rfl rfl hqi (Nat.le_refl _) ?_
   refine x_bs1 (cs := [strV ((s.drop q).take (s.length - q))]) rfl rfl rfl Try.underlying57 sz9 ze9 (Z := [_]) rfl rfl (by decide) (by decide) rfl rfl rfl ?_
   intro bbs1 wbs1 hbbs1 hwbs1
   have M0 := M.acons hbbs1 hwbs1
   have hslbs1 : Sl wbs1 (.slice (some ⟨bbs1, 0, none⟩) 1 1) 1 1 [strV ((s.drop q).take (s.length - q))] := .inr ⟨bbs1, 0, 1, _, _, _, rfl, by omega, M0.at_ 0 rfl, rfl, rfl⟩
   have M := M0.tail
   refine ⟨trivial, ?_⟩
   refine x_apL rfl rfl rfl rfl Try.underlying57 sz9 ze9 rfl by9 rfl rfl how (M.perm (List.perm_append_comm (l₁ := []) (l₂ := Lo))) (strCs_one _) (hslbs1.src Try.underlying57 (by intro u hu; simp at hu; subst hu; rfl)) (by omega) (by decide) (by omega) ?_
   intro Lo v6 wap1 how M
   have M := M.perm List.perm_append_comm
   refine ⟨trivial, ?_⟩
   refine go 0 ?_
   refine x_add ((s.length + 1 : Nat) : Int) rfl rfl rfl rfl rfl (by rw [w64 (by omega) (by omega)]; simp) ?_
   refine go 0 ?_
   refine x_add ((s.length + 1 : Nat) : Int) rfl rfl rfl rfl rfl (by rw [w64 (by omega) (by omega)]; simp) ?_
   refine go 0 ?_
   exact At.back ((s.length + 1, s.length + 1, v6)) ⟨rfl, rfl, rfl, rfl, trivial⟩ ⟨by simp, by simp, _, _, hP2, strsO_snoc how, M⟩ (by first | omega | (simp only; omega) | (simp; done) | (simp; omega))
  ·intro hsp1
   have hlt : i < s.length := by omega
   obtain ⟨c, hc⟩ : ∃ c, s[i]? = some c := ⟨s[i], List.getElem?_eq_getElem hlt⟩
   refine go 0 ?_
   refine x_ixS i rfl rfl rfl Try.underlying9 rfl rfl rfl hc ?_
   refine cnd 1 ?_ ?_
   ·intro hco3
    have hc47 : c = 47 := c47 hco3
    subst hc47
    obtain ⟨hqi, hP2⟩ := hP.slash hc
    refine go 0 ?_
    refine x_sslhS q i rfl rfl rfl Try.underlying9 rfl rfl rfl rfl rfl hqi (by omega) ?_
    refine x_bs1 (cs := [strV ((s.drop q).take (i - q))]) rfl rfl rfl Try.underlying57 sz9 ze9 (Z := [_]) rfl rfl (by decide) (by decide) rfl rfl rfl ?_
    intro bbs2 wbs2 hbbs2 hwbs2
    have M0 := M.acons hbbs2 hwbs2
    have hslbs2 : Sl wbs2 (.slice (some ⟨bbs2, 0, none⟩) 1 1) 1 1 [strV ((s.drop q).take (i - q))] := .inr ⟨bbs2, 0, 1, _, _, _, rfl, by omega, M0.at_ 0 rfl, rfl, rfl⟩
    have M := M0.tail
    refine ⟨trivial, ?_⟩
    refine x_apL rfl rfl rfl rfl Try.underlying57 sz9 ze9 rfl by9 rfl rfl how (M.perm (List.perm_append_comm (l₁ := []) (l₂ := Lo))) (strCs_one _) (hslbs2.src Try.underlying57 (by intro u hu; simp at hu; subst hu; rfl)) (by omega) (by decide) (by omega) ?_
    intro Lo v6 wap2 how M
    have M := M.perm List.perm_append_comm
    refine ⟨trivial, ?_⟩
    refine go 0 ?_
    refine x_add ((i + 1 : Nat) : Int) rfl rfl rfl rfl rfl (by rw [w64 (by omega) (by omega)]; simp) ?_
    refine go 0 ?_
    refine x_add ((i + 1 : Nat) : Int) rfl rfl rfl rfl rfl (by rw [w64 (by omega) (by omega)]; simp) ?_
    refine go 0 ?_
    exact At.back ((i + 1, i + 1, v6)) ⟨rfl, rfl, rfl, rfl, trivial⟩ ⟨by simp; omega, by simp; omega, _, _, hP2, strsO_snoc how, M⟩ (by first | omega | (simp only; omega) | (simp; done) | (simp; omega))
   ·intro hco3
    have hc47 : c ≠ 47 := fun e => by subst e; simp at hco3
    refine go 0 ?_
    refine x_add ((i + 1 : Nat) : Int) rfl rfl rfl rfl rfl (by rw [w64 (by omega) (by omega)]; simp) ?_
    refine go 0 ?_
    exact At.back ((i + 1, q, ov)) ⟨rfl, rfl, rfl, rfl, trivial⟩ ⟨by simp; omega, by simpa using hq, _, _, hP.other hc hc47, how, M⟩ (by first | omega | (simp only; omega) | (simp; done) | (simp; omega))
 ·intro hco1
  refine go 1 ?_
  exact ⟨Lo, M, by rw [hP.done (by omega)]; exact how⟩

end Go.Proofs.Ytebfjdolgchgaaa

namespace Go.Proofs.Ytebfjdolgchgaaa
open Go Go.Fw Go.RowKit Go.Proofs
set_option linter.unusedVariables false
set_option linter.unusedSimpArgs false
set_option maxRecDepth 100000
set_option maxHeartbeats 4000000

-- valise/valiseref13.Text
theorem rtext_c {w0 : World} {v : Value} {l : List (List UInt8)} (h : StrsAt w0 v l) (hl : l.length ≤ 100) (hb : ∀ x ∈ l, x.length ≤ 100000) : Ret Try.prog 73 #[v] w0 fun r w' => r = strV (joinS l) ∧ New w0 w' := by
 have M : Sep w0 [] w0 := St.nil w0
 obtain ⟨p, cap, rfl⟩ := h.shape
 refine Ret.of_W Try.func73 rfl Try.ntmps73 rfl ?_
 refine go 0 ?_
 refine W.loop (σ := Nat) (fun q => [(0, _), (3, strV (joinS (l.take q))), (4, .int .i64 ((q : Nat) : Int))]) (fun q w => q ≤ l.length ∧ Sep w0 [] w) (fun q => l.length - q) 0 ⟨rfl, rfl, rfl, trivial⟩ ⟨Nat.zero_le _, M⟩ ?_
 rintro q w ⟨hq, M⟩
 have hjl := joinS_le (l := l.take q) (k := 100000) (fun x hx => hb x (List.mem_of_mem_take hx))
 have hjl2 : (joinS (l.take q)).length ≤ 10000100 := by
  rw [List.length_take] at hjl
  have : min q l.length ≤ 100 := by omega
  omega
 refine cnd 2 ?_ ?_
 ·intro hco1
  obtain ⟨x, hx⟩ := get_lt (l := l) (q := q) (by omega)
  obtain ⟨bk, off, rfl, _⟩ := (h.new M.frm).blk (j := q) (by omega)
  have hxl := hb x (List.mem_of_getElem? hx)
  have htk : joinS (l.take (q + 1)) = _ := (congrArg joinS (take_snoc hx)).trans (joinS_snoc _ _)
  refine cnd 1 ?_ ?_
  ·intro hco2
   refine go 0 ?_
   refine x_catS rfl rfl rfl rfl rfl (by first | omega | (simp; omega)) ?_
   refine go 0 ?_
   refine x_ia q rfl rfl rfl Try.underlying57 sz9 rfl rfl rfl (by omega) ?_
   refine x_ld rfl rfl rfl Try.underlying9 rfl rfl (StrsAt.cell (h.new M.frm) hx) ?_
   refine x_catS rfl rfl rfl rfl rfl (by first | omega | (simp; omega)) ?_
   refine go 0 ?_
   refine x_add _ rfl rfl rfl rfl rfl (wadd (by omega) (by omega)) ?_
   refine go 0 ?_
   exact At.back (q + 1) ⟨rfl, (by rw [htk, if_neg (by intro e; have := congrArg List.length e; rw [List.length_take] at this; simp only [List.length_nil] at this; omega)]; simp only [List.append_assoc, List.singleton_append, List.cons_append, List.nil_append]; rfl), rfl, trivial⟩ ⟨by omega, M⟩ (by first | omega | (simp only; omega) | (simp; done) | (simp; omega))
  ·intro hco2
   refine go 0 ?_
   refine x_ia q rfl rfl rfl Try.underlying57 sz9 rfl rfl rfl (by omega) ?_
   refine x_ld rfl rfl rfl Try.underlying9 rfl rfl (StrsAt.cell (h.new M.frm) hx) ?_
   refine x_catS rfl rfl rfl rfl rfl (by first | omega | (simp; omega)) ?_
   refine go 0 ?_
   refine x_add _ rfl rfl rfl rfl rfl (wadd (by omega) (by omega)) ?_
   refine go 0 ?_
   exact At.back (q + 1) ⟨rfl, (by have hq0 : q = 0 := (by omega); subst hq0; rw [htk, if_pos (show List.take 0 l = [] from rfl)]; rfl), rfl, trivial⟩ ⟨by omega, M⟩ (by first | omega | (simp only; omega) | (simp; done) | (simp; omega))
 ·intro hco1
  refine go 1 ?_
  have hq : q = l.length := by omega
  subst hq; exact ⟨by rw [List.take_length], M.frm⟩

-- valise/valiseref13.Join
theorem rjoin_c {w0 : World} {v : Value} {l : List (List UInt8)} (h : StrsAt w0 v l)  : Ret Try.prog 76 #[v] w0 fun r w' => r = .tuple #[strV (joinV l), .int .i64 (joinE l)] ∧ New w0 w' := by
 have M : Sep w0 [] w0 := St.nil w0
 obtain ⟨p, cap, rfl⟩ := h.shape
 refine Ret.of_W Try.func76 rfl Try.ntmps76 rfl ?_
 refine cnd 2 ?_ ?_
 ·intro hco1
  refine go 1 ?_
  have hE := joinP_many (l := l) (by omega); exact ⟨by rw [hE.1, hE.2]; rfl, M.frm⟩
 ·intro hco1
  refine go 0 ?_
  refine W.loop (σ := Nat) (fun q => [(0, _), (4, .int .i64 ((q : Nat) : Int))]) (fun q w => q ≤ l.length ∧ (∀ (k : Nat) y, k < q → l[k]? = some y → nameOK y) ∧ Sep w0 [] w) (fun q => l.length - q) 0 ⟨rfl, rfl, trivial⟩ ⟨Nat.zero_le _, fun k c h => by omega, M⟩ ?_
  rintro q w ⟨hq, hall, M⟩
  refine cnd 2 ?_ ?_
  ·intro hco2
   obtain ⟨x, hx⟩ := get_lt (l := l) (q := q) (by omega)
   obtain ⟨bk, off, rfl, _⟩ := (h.new M.frm).blk (j := q) (by omega)
   refine go 0 ?_
   refine x_ia q rfl rfl rfl Try.underlying57 sz9 rfl rfl rfl (by omega) ?_
   refine x_ld rfl rfl rfl Try.underlying9 rfl rfl (StrsAt.cell (h.new M.frm) hx) ?_
   refine x_call rfl rfl rfl rfl rfl en87 (rname_c) ?_
   rintro r wcall1 ⟨rfl, hncall1⟩
   have M := M.new hncall1
   refine ⟨trivial, ?_⟩
   refine cnd 1 ?_ ?_
   ·intro hco3
    refine go 1 ?_
    have hE := joinP_bad (List.mem_of_getElem? hx) (fun h => hco3 (nameP_zero.2 h)); exact ⟨by rw [hE.1, hE.2]; rfl, M.frm⟩
   ·intro hco3
    refine go 0 ?_
    refine x_add _ rfl rfl rfl rfl rfl (wadd (by omega) (by omega)) ?_
    refine go 0 ?_
    exact At.back (q + 1) ⟨rfl, rfl, trivial⟩ ⟨by omega, all_take hall hx (nameP_zero.1 hco3), M⟩ (by first | omega | (simp only; omega) | (simp; done) | (simp; omega))
  ·intro hco2
   have hok : allOK l := all_all fun k y hk => hall k y (by omega)
   have hjl := joinS_le (allOK_len hok)
   refine go 0 ?_
   refine x_call rfl rfl rfl rfl rfl en73 (rtext_c (h.new M.frm) (by omega) (fun x hx => by have := allOK_len hok x hx; omega)) ?_
   rintro r w3 ⟨rfl, hn⟩
   have M := M.new hn
   refine ⟨trivial, ?_⟩
   refine cnd 2 ?_ ?_
   ·intro hco4
    refine go 1 ?_
    have hE := joinP_long (l := l) (by omega); exact ⟨by rw [hE.1, hE.2]; rfl, M.frm⟩
   ·intro hco4
    refine go 1 ?_
    have hE := joinP_good (l := l) (by omega) hok (by omega); exact ⟨by rw [hE.1, hE.2], M.frm⟩

end Go.Proofs.Ytebfjdolgchgaaa

namespace Go.Proofs.Ytebfjdolgchgaaa
open Go Go.Fw
set_option linter.unusedVariables false
set_option linter.unusedSimpArgs false

theorem splitP_cases (p : List UInt8) : (p = [] ∧ splitP p = some []) ∨ (p ≠ [] ∧ splitP p = none) ∨ (p ≠ [] ∧ p.length ≤ 120 ∧ (splitS p).length ≤ 8 ∧ allOK (splitS p) ∧ splitP p = some (splitS p)) := by
 by_cases h : p = []
 ·exact .inl ⟨h, by unfold splitP; rw [if_pos h]⟩
 ·by_cases h1 : 120 < p.length
  ·exact .inr (.inl ⟨h, splitP_long h1⟩)
  ·by_cases h2 : (splitS p).length ≤ 8 ∧ allOK (splitS p)
   ·exact .inr (.inr ⟨h, by omega, h2.1, h2.2, splitP_good h (by omega) h2⟩)
   ·exact .inr (.inl ⟨h, splitP_bad h h2⟩)

theorem joinS_app : ∀ {a b : List (List UInt8)}, a ≠ [] → b ≠ [] → joinS (a ++ b) = joinS a ++ 47 :: joinS b
 | [], _, h, _ => absurd rfl h
 | [p], b, _, hb => by rw [List.singleton_append, joinS_cons hb]; rfl
 | p :: q :: r, b, _, hb => by
  have := joinS_app (a := q :: r) (b := b) (by simp) hb
  show joinS (p :: (q :: r ++ b)) = joinS (p :: q :: r) ++ 47 :: joinS b
  rw [joinS_cons (p := p) (r := q :: r ++ b) (by simp), this, joinS_cons (p := p) (r := q :: r) (by simp)]
  simp

theorem parentP_bad {p : List UInt8} (h : splitE p ≠ 0) : parentP p = ([], [], 8) ∧ splitE p = 8 := by
 unfold splitE at h ⊢
 unfold parentP
 cases hs : splitP p with
 | none => exact ⟨rfl, rfl⟩
 | some l => rw [hs] at h; simp at h
theorem split_snoc (p : List UInt8) : ∃ a x, splitS p = a ++ [x] := ⟨(splitS p).dropLast, (splitS p).getLast (splitS_ne p), (List.dropLast_concat_getLast _).symm⟩
theorem parentP_some {p : List UInt8} (h0 : p ≠ []) (h : splitE p = 0) {a : List (List UInt8)} {x : List UInt8} (hs : splitS p = a ++ [x]) : parentP p = (joinS a, x, 0) := by
 rcases splitP_cases p with ⟨h1, _⟩ | ⟨_, h1⟩ | ⟨_, _, _, _, h1⟩
 ·exact absurd h1 h0
 ·rw [(splitE_none h1).1] at h; cases h
 ·unfold parentP; rw [h1]; simp only; rw [if_neg (splitS_ne p), hs]; simp



theorem underP_eq (p dir : List UInt8) : underP p dir = (decide (splitE p = 0) && decide (splitE dir = 0) && (splitN dir).isPrefixOf (splitN p)) := by
 unfold underP splitE splitN
 cases splitP p <;> cases splitP dir <;> simp
theorem splitE_nil : splitE [] = 0 := rfl
theorem splitE_len {p : List UInt8} (h : splitE p = 0) : p.length ≤ 120 := by
 rcases splitP_cases p with ⟨h1, _⟩ | ⟨_, h1⟩ | ⟨_, h2, _⟩
 ·subst h1; simp
 ·rw [(splitE_none h1).1] at h; cases h
 ·exact h2
theorem splitN_facts {p : List UInt8} (h : splitE p = 0) : (p = [] ∧ splitN p = []) ∨ (p ≠ [] ∧ splitN p = splitS p ∧ (splitS p).length ≤ 8 ∧ allOK (splitS p)) := by
 rcases splitP_cases p with ⟨h1, h2⟩ | ⟨_, h1⟩ | ⟨h1, _, h3, h4, h2⟩
 ·exact .inl ⟨h1, (splitE_some h2).2⟩
 ·rw [(splitE_none h1).1] at h; cases h
 ·exact .inr ⟨h1, (splitE_some h2).2, h3, h4⟩
theorem splitN_len (p : List UInt8) : (splitN p).length ≤ 8 := by
 rcases splitP_cases p with ⟨h1, h2⟩ | ⟨_, h1⟩ | ⟨h1, _, h3, h4, h2⟩
 ·rw [(splitE_some h2).2]; simp
 ·rw [(splitE_none h1).2]; simp
 ·rw [(splitE_some h2).2]; exact h3
theorem pre_step {A B : List (List UInt8)} {q : Nat} {x y : List UInt8} (h : B.take q = A.take q) (hx : A[q]? = some x) (hy : B[q]? = some y) (he : x = y) : B.take (q + 1) = A.take (q + 1) := by
 rw [take_snoc hx, take_snoc hy, h, he]
theorem pre_no {A B : List (List UInt8)} {q : Nat} {x y : List UInt8} (hx : A[q]? = some x) (hy : B[q]? = some y) (he : ¬ x = y) : B.isPrefixOf A = false := by
 rw [← Bool.not_eq_true, List.isPrefixOf_iff_prefix]
 rintro ⟨c, rfl⟩
 have hlt := (List.getElem?_eq_some_iff.1 hy).1
 rw [List.getElem?_append_left hlt, hy] at hx
 exact he (Option.some.inj hx).symm
theorem pre_yes {A B : List (List UInt8)} (h : B.take B.length = A.take B.length) : B.isPrefixOf A = true := by
 rw [List.isPrefixOf_iff_prefix, List.prefix_iff_eq_take, ← h, List.take_length]
theorem pre_long {A B : List (List UInt8)} (h : A.length < B.length) : B.isPrefixOf A = false := by
 rw [← Bool.not_eq_true, List.isPrefixOf_iff_prefix]; intro h2; have := h2.length_le; omega

/-! ## Order -/
theorem cmp_drop {a b : List UInt8} {i : Nat} {c : UInt8} (ha : a[i]? = some c) (hb : b[i]? = some c) : Lib.compareBytes (a.drop i) (b.drop i) = Lib.compareBytes (a.drop (i + 1)) (b.drop (i + 1)) := by
 have h1 := (List.getElem?_eq_some_iff.1 ha); have h2 := (List.getElem?_eq_some_iff.1 hb)
 obtain ⟨l1, e1⟩ := h1; obtain ⟨l2, e2⟩ := h2
 rw [List.drop_eq_getElem_cons l1, List.drop_eq_getElem_cons l2, e1, e2]
 conv => lhs; unfold Lib.compareBytes
 rw [if_neg (by simp), if_neg (by simp)]
theorem cmp_ne {a b : List UInt8} {i : Nat} {c d : UInt8} (ha : a[i]? = some c) (hb : b[i]? = some d) (h : c ≠ d) : Lib.compareBytes (a.drop i) (b.drop i) = if c < d then -1 else 1 := by
 obtain ⟨l1, e1⟩ := (List.getElem?_eq_some_iff.1 ha); obtain ⟨l2, e2⟩ := (List.getElem?_eq_some_iff.1 hb)
 rw [List.drop_eq_getElem_cons l1, List.drop_eq_getElem_cons l2, e1, e2]
 unfold Lib.compareBytes
 by_cases h3 : c < d
 ·rw [if_pos h3, if_pos h3]
 ·rw [if_neg h3, if_neg h3]
  have : d < c := by
   rw [UInt8.lt_iff_toNat_lt] at h3 ⊢
   have : c.toNat ≠ d.toNat := fun e => h (UInt8.toNat_inj.1 e)
   omega
  rw [if_pos this]
theorem cmp_end {a b : List UInt8} {i : Nat} (h : a.length ≤ i ∨ b.length ≤ i) (hi : i ≤ a.length ∧ i ≤ b.length) : Lib.compareBytes (a.drop i) (b.drop i) = if a.length < b.length then -1 else if b.length < a.length then 1 else 0 := by
 rcases Nat.lt_or_ge i a.length with h1 | h1
 ·have hb : b.length = i := by omega
  have hdb : b.drop i = [] := List.drop_eq_nil_of_le (by omega)
  rw [hdb, List.drop_eq_getElem_cons h1, if_neg (by omega), if_pos (by omega)]; rfl
 ·have hda : a.drop i = [] := List.drop_eq_nil_of_le (by omega)
  rcases Nat.lt_or_ge i b.length with h2 | h2
  ·rw [hda, List.drop_eq_getElem_cons h2, if_pos (by omega)]; rfl
  ·have hdb : b.drop i = [] := List.drop_eq_nil_of_le (by omega)
   rw [hda, hdb, if_neg (by omega), if_neg (by omega)]; rfl
theorem cmp_cases : ∀ (a b : List UInt8), Lib.compareBytes a b = -1 ∨ (Lib.compareBytes a b = 0 ∧ a = b) ∨ Lib.compareBytes a b = 1
 | [], [] => .inr (.inl ⟨rfl, rfl⟩)
 | [], _ :: _ => .inl rfl
 | _ :: _, [] => .inr (.inr rfl)
 | c :: a, d :: b => by
  unfold Lib.compareBytes
  split
  ·exact .inl rfl
  ·split
   ·exact .inr (.inr rfl)
   ·rename_i h1 h2
    have hcd : c = d := by
     rw [UInt8.lt_iff_toNat_lt] at h1 h2
     exact UInt8.toNat_inj.1 (by omega)
    rcases cmp_cases a b with h | ⟨h, h3⟩ | h
    ·exact .inl h
    ·exact .inr (.inl ⟨h, by rw [hcd, h3]⟩)
    ·exact .inr (.inr h)
theorem cmp_self : ∀ a : List UInt8, Lib.compareBytes a a = 0
 | [] => rfl
 | c :: a => by unfold Lib.compareBytes; rw [if_neg (by simp), if_neg (by simp)]; exact cmp_self a
theorem cmp_swap : ∀ a b : List UInt8, Lib.compareBytes b a = - Lib.compareBytes a b
 | [], [] => rfl
 | [], _ :: _ => rfl
 | _ :: _, [] => rfl
 | c :: a, d :: b => by
  have ih := cmp_swap a b
  conv => lhs; unfold Lib.compareBytes
  conv => rhs; unfold Lib.compareBytes
  by_cases h1 : c < d
  ·have h2 : ¬ d < c := by rw [UInt8.lt_iff_toNat_lt] at h1 ⊢; omega
   rw [if_pos h1, if_neg h2, if_pos h1]; rfl
  ·by_cases h2 : d < c
   ·rw [if_pos h2, if_neg h1, if_pos h2]
   ·rw [if_neg h2, if_neg h1, if_neg h1, if_neg h2, ih]
theorem compareL_step {p q : List (List UInt8)} {i : Nat} {x y : List UInt8} (hp : p[i]? = some x) (hq : q[i]? = some y) :
  compareL (p.drop i) (q.drop i) = if Lib.compareBytes x y ≠ 0 then Lib.compareBytes x y else compareL (p.drop (i + 1)) (q.drop (i + 1)) := by
 obtain ⟨l1, e1⟩ := (List.getElem?_eq_some_iff.1 hp); obtain ⟨l2, e2⟩ := (List.getElem?_eq_some_iff.1 hq)
 rw [List.drop_eq_getElem_cons l1, List.drop_eq_getElem_cons l2, e1, e2]
 rfl
theorem compareL_end {p q : List (List UInt8)} {i : Nat} (h : p.length ≤ i ∨ q.length ≤ i) (hi : i ≤ p.length ∧ i ≤ q.length) : compareL (p.drop i) (q.drop i) = if p.length < q.length then -1 else if q.length < p.length then 1 else 0 := by
 rcases Nat.lt_or_ge i p.length with h1 | h1
 ·have hdb : q.drop i = [] := List.drop_eq_nil_of_le (by omega)
  rw [hdb, List.drop_eq_getElem_cons h1, if_neg (by omega), if_pos (by omega)]; rfl
 ·have hda : p.drop i = [] := List.drop_eq_nil_of_le (by omega)
  rcases Nat.lt_or_ge i q.length with h2 | h2
  ·rw [hda, List.drop_eq_getElem_cons h2, if_pos (by omega)]; rfl
  ·have hdb : q.drop i = [] := List.drop_eq_nil_of_le (by omega)
   rw [hda, hdb, if_neg (by omega), if_neg (by omega)]; rfl

def CutOK (l : List (List UInt8)) : Prop := (∀ x ∈ l, (47 : UInt8) ∉ x) ∧ (joinS l).length ≤ 9223372036854775807
theorem namesP_cut {p : List UInt8} (h : p.length ≤ 9223372036854775807) : CutOK (namesP p) ∧ joinS (namesP p) = p := by
 unfold namesP
 split
 ·rename_i h0; subst h0; exact ⟨⟨by simp, by simp [joinS]⟩, rfl⟩
 ·exact ⟨⟨splitS_no p, by rw [joinS_splitS]; exact h⟩, joinS_splitS p⟩
theorem CutOK.tail {x : List UInt8} {l : List (List UInt8)} (h : CutOK (x :: l)) : CutOK l := by
 refine ⟨fun y hy => h.1 y (List.mem_cons_of_mem _ hy), ?_⟩
 have h2 := h.2
 by_cases hl : l = []
 ·subst hl; simp [joinS]
 ·rw [joinS_len hl] at h2; omega
theorem CutOK.split {x : List UInt8} {l : List (List UInt8)} (h : CutOK (x :: l)) : splitS (joinS (x :: l)) = x :: l := splitS_joinS (by simp) h.1
theorem namesP_len (p : List UInt8) : (namesP p).length ≤ p.length + 1 := by
 unfold namesP; split
 ·simp
 ·exact splitS_len p
theorem mem_joinS_le : ∀ {l : List (List UInt8)} {x : List UInt8}, x ∈ l → x.length ≤ (joinS l).length
 | [p], x, h => by simp at h; subst h; exact Nat.le_refl _
 | p :: q :: r, x, h => by
  rw [joinS_len (by simp)]
  rcases List.mem_cons.1 h with rfl | h
  ·omega
  ·have := mem_joinS_le h; omega
end Go.Proofs.Ytebfjdolgchgaaa

namespace Go.Proofs.Ytebfjdolgchgaaa
open Go Go.Fw Go.RowKit Go.Proofs
set_option linter.unusedVariables false
set_option linter.unusedSimpArgs false
set_option maxRecDepth 100000
set_option maxHeartbeats 4000000

-- valise/valiseref13.Split
theorem rsplit_c {w0 : World} {p : List UInt8}  : Ret Try.prog 69 #[strV p] w0 fun r w' => ∃ v Lr, r = .tuple #[v, .int .i64 (splitE p)] ∧ Sep w0 Lr w' ∧ StrsO Lr v (splitN p) := by
 have M : Sep w0 [] w0 := St.nil w0
 refine Ret.of_W Try.func69 rfl Try.ntmps69 rfl ?_
 refine cnd 1 ?_ ?_
 ·intro hco1
  refine go 1 ?_
  subst hco1; exact ⟨_, [], rfl, M.frm, OwL.nil⟩
 ·intro hco1
  refine cnd 2 ?_ ?_
  ·intro hco2
   refine go 1 ?_
   have h := splitE_none (splitP_long (p := p) (by omega)); exact ⟨_, [], by rw [h.1], M.frm, by rw [h.2]; exact OwL.nil⟩
  ·intro hco2
   refine go 0 ?_
   refine x_call rfl rfl rfl rfl rfl en75 (rpieces_c (s := p) (by omega)) ?_
   rintro v1 w1 ⟨L1, M1, hs1⟩
   have M := M.grow M1
   obtain ⟨p1, cap1, rfl⟩ := hs1.shape
   have hl1 := splitS_len p
   refine ⟨trivial, ?_⟩
   refine cnd 2 ?_ ?_
   ·intro hco3
    refine go 1 ?_
    have h := splitE_none (splitP_bad hco1 (fun h => by have := h.1; omega)); exact ⟨_, [], by rw [h.1], M.frm, by rw [h.2]; exact OwL.nil⟩
   ·intro hco3
    refine go 0 ?_
    refine W.loop (σ := Nat) (fun q => [(4, _), (5, .int .i64 ((q : Nat) : Int))]) (fun q w => q ≤ (splitS p).length ∧ (∀ (k : Nat) y, k < q → (splitS p)[k]? = some y → nameOK y) ∧ Sep w0 L1 w) (fun q => (splitS p).length - q) 0 ⟨rfl, rfl, trivial⟩ ⟨Nat.zero_le _, fun k c h => by omega, M⟩ ?_
    rintro q w ⟨hq, hall, M⟩
    refine cnd 2 ?_ ?_
    ·intro hco4
     obtain ⟨x, hx⟩ := get_lt (l := splitS p) (q := q) (by omega)
     have hAt := strsO_at hs1 M (fun _ h => h)
     obtain ⟨bk, off, rfl, _⟩ := hAt.blk (j := q) (by omega)
     refine go 0 ?_
     refine x_ia q rfl rfl rfl Try.underlying57 sz9 rfl rfl rfl (by omega) ?_
     refine x_ld rfl rfl rfl Try.underlying9 rfl rfl (StrsAt.cell hAt hx) ?_
     refine x_call rfl rfl rfl rfl rfl en87 (rname_c) ?_
     rintro r wcall2 ⟨rfl, hncall2⟩
     have M := M.new hncall2
     refine ⟨trivial, ?_⟩
     refine cnd 1 ?_ ?_
     ·intro hco5
      refine go 1 ?_
      have h := splitE_none (splitP_bad hco1 (fun h => hco5 (nameP_zero.2 (h.2 x (List.mem_of_getElem? hx))))); exact ⟨_, [], by rw [h.1], M.frm, by rw [h.2]; exact OwL.nil⟩
     ·intro hco5
      refine go 0 ?_
      refine x_add _ rfl rfl rfl rfl rfl (wadd (by omega) (by omega)) ?_
      refine go 0 ?_
      exact At.back (q + 1) ⟨rfl, rfl, trivial⟩ ⟨by omega, all_take hall hx (nameP_zero.1 hco5), M⟩ (by first | omega | (simp only; omega) | (simp; done) | (simp; omega))
    ·intro hco4
     refine go 1 ?_
     have h := splitE_some (splitP_good hco1 (by omega) ⟨by omega, all_all fun k y hk => hall k y (by omega)⟩); exact ⟨_, L1, by rw [h.1], M, by rw [h.2]; exact hs1⟩

-- valise/valiseref13.Clean
theorem rclean_c {w0 : World} {s : List UInt8}  : Ret Try.prog 54 #[strV s] w0 fun r w' => r = .tuple #[strV (cleanP s).1, .int .i64 (cleanP s).2] ∧ New w0 w' := by
 have M : Sep w0 [] w0 := St.nil w0
 refine Ret.of_W Try.func54 rfl Try.ntmps54 rfl ?_
 refine cnd 2 ?_ ?_
 ·intro hco1
  refine go 1 ?_
  rw [cleanP_long (by omega)]; exact ⟨rfl, M.frm⟩
 ·intro hco1
  refine go 0 ?_
  refine x_call rfl rfl rfl rfl rfl en75 (rpieces_c (s := s) (by omega)) ?_
  rintro v1 w1 ⟨L1, M1, hs1⟩
  have M := M.grow M1
  obtain ⟨p1, cap1, rfl⟩ := hs1.shape
  have hl1 := splitS_len s
  refine ⟨trivial, ?_⟩
  refine go 0 ?_
  refine W.loop (σ := Nat × Value) (fun q => [(4, q.2), (5, _), (6, .int .i64 ((q.1 : Nat) : Int))]) (fun q w => q.1 ≤ (splitS s).length ∧ ∃ A Lo, A = ((splitS s).take q.1).foldl cleanStep [] ∧ A.length ≤ q.1 ∧ StrsO Lo q.2 A ∧ Sep w0 (L1 ++ Lo) w) (fun q => (splitS s).length - q.1) (0, .slice none 0 0) ⟨rfl, rfl, rfl, trivial⟩ ⟨Nat.zero_le _, [], [], rfl, Nat.le_refl _, OwL.nil, by simpa using M⟩ ?_
  rintro ⟨q, ov⟩ w ⟨hq, A, Lo, hA, hAl, how, M⟩
  simp only at hq hA hAl how ⊢
  obtain ⟨p0, cap0, rfl, hcap0⟩ := how.shape2 (by decide)
  refine cnd 2 ?_ ?_
  ·intro hco2
   obtain ⟨x, hx⟩ := get_lt (l := splitS s) (q := q) (by omega)
   have hAt := strsO_at hs1 M (fun _ h => List.mem_append_left _ h)
   obtain ⟨bk, off, rfl, _⟩ := hAt.blk (j := q) (by omega)
   have htk : ((splitS s).take (q + 1)).foldl cleanStep [] = cleanStep A x := by rw [take_snoc hx, List.foldl_append, ← hA]; rfl
   refine go 0 ?_
   refine x_ia q rfl rfl rfl Try.underlying57 sz9 rfl rfl rfl (by omega) ?_
   refine x_ld rfl rfl rfl Try.underlying9 rfl rfl (StrsAt.cell hAt hx) ?_
   refine cnd 1 ?_ ?_
   ·intro hco3
    refine go 0 ?_
    refine W.condT (congrArg (fun b => some (Value.bool b)) (decide_eq_true hco3)) ?_
    refine go 0 ?_
    refine x_add _ rfl rfl rfl rfl rfl (wadd (by omega) (by omega)) ?_
    refine go 0 ?_
    exact At.back ((q + 1, _)) ⟨rfl, rfl, rfl, trivial⟩ ⟨by simp; omega, A, Lo, by rw [htk, cleanStep_dot (.inl hco3)], by simp; omega, how, M⟩ (by first | omega | (simp only; omega) | (simp; done) | (simp; omega))
   ·intro hco3
    refine cnd 1 ?_ ?_
    ·intro hco5
     refine go 0 ?_
     refine x_add _ rfl rfl rfl rfl rfl (wadd (by omega) (by omega)) ?_
     refine go 0 ?_
     exact At.back ((q + 1, _)) ⟨rfl, rfl, rfl, trivial⟩ ⟨by simp; omega, A, Lo, by rw [htk, cleanStep_dot (.inr hco5)], by simp; omega, how, M⟩ (by first | omega | (simp only; omega) | (simp; done) | (simp; omega))
    ·intro hco5
     refine cnd 1 ?_ ?_
     ·intro hco6
      refine cnd 2 ?_ ?_
      ·intro hco7
       refine go 1 ?_
       refine x_sub ((A.length - 1 : Nat) : Int) rfl rfl rfl rfl rfl (by rw [w64 (by omega) (by omega)]; omega) ?_
       refine x_slh (A.length - 1) rfl rfl rfl Try.underlying57 sz9 rfl rfl rfl (by omega) ?_
       refine go 0 ?_
       refine x_add _ rfl rfl rfl rfl rfl (wadd (by omega) (by omega)) ?_
       refine go 0 ?_
       exact At.back ((q + 1, _)) ⟨rfl, rfl, rfl, trivial⟩ ⟨by simp; omega, A.take (A.length - 1), Lo, by rw [htk, cleanStep_up hco3 hco5 hco6], by simp; omega, strsO_take how (by omega), M⟩ (by first | omega | (simp only; omega) | (simp; done) | (simp; omega))
      ·intro hco7
       refine go 0 ?_
       refine x_add _ rfl rfl rfl rfl rfl (wadd (by omega) (by omega)) ?_
       refine go 0 ?_
       exact At.back ((q + 1, _)) ⟨rfl, rfl, rfl, trivial⟩ ⟨by simp; omega, A, Lo, by rw [htk, cleanStep_up hco3 hco5 hco6, List.take_of_length_le (by omega)], by simp; omega, how, M⟩ (by first | omega | (simp only; omega) | (simp; done) | (simp; omega))
     ·intro hco6
      refine go 0 ?_
      refine x_ia q rfl rfl rfl Try.underlying57 sz9 rfl rfl rfl (by omega) ?_
      refine x_ld rfl rfl rfl Try.underlying9 rfl rfl (StrsAt.cell hAt hx) ?_
      refine x_bs1 (cs := [strV x]) rfl rfl rfl Try.underlying57 sz9 ze9 (Z := [_]) rfl rfl (by decide) (by decide) rfl rfl rfl ?_
      intro bbs1 wbs1 hbbs1 hwbs1
      have M0 := M.acons hbbs1 hwbs1
      have hslbs1 : Sl wbs1 (.slice (some ⟨bbs1, 0, none⟩) 1 1) 1 1 [strV x] := .inr ⟨bbs1, 0, 1, _, _, _, rfl, by omega, M0.at_ 0 rfl, rfl, rfl⟩
      have M := M0.tail
      refine ⟨trivial, ?_⟩
      refine x_apL rfl rfl rfl rfl Try.underlying57 sz9 ze9 rfl by9 rfl rfl how (M.perm (List.perm_append_comm (l₁ := L1) (l₂ := Lo))) (strCs_one _) (hslbs1.src Try.underlying57 (by intro u hu; simp at hu; subst hu; rfl)) (by first | omega | (simp; omega)) (by decide) (by first | omega | (simp; omega)) ?_
      intro Lo v6 wap1 how M
      have M := M.perm List.perm_append_comm
      refine ⟨trivial, ?_⟩
      refine go 0 ?_
      refine x_add _ rfl rfl rfl rfl rfl (wadd (by omega) (by omega)) ?_
      refine go 0 ?_
      exact At.back ((q + 1, v6)) ⟨rfl, rfl, rfl, trivial⟩ ⟨by simp; omega, A ++ [x], Lo, by rw [htk, cleanStep_in hco3 hco5 hco6], by simp; omega, strsO_snoc how, M⟩ (by first | omega | (simp only; omega) | (simp; done) | (simp; omega))
  ·intro hco2
   have hql : q = (splitS s).length := by omega
   subst hql
   rw [List.take_length] at hA
   refine go 0 ?_
   refine x_call rfl rfl rfl rfl rfl en76 (rjoin_c (strsO_at how M (fun _ h => List.mem_append_right _ h))) ?_
   rintro r w5 ⟨rfl, hn5⟩
   have M := M.new hn5
   refine ⟨trivial, ?_⟩
   refine go 1 ?_
   rw [cleanP_join (by omega)]; have : cleanL s = A := hA.symm
   rw [this]; exact ⟨rfl, M.frm⟩

end Go.Proofs.Ytebfjdolgchgaaa

namespace Go.Proofs.Ytebfjdolgchgaaa
open Go Go.Fw Go.RowKit Go.Proofs
set_option linter.unusedVariables false
set_option linter.unusedSimpArgs false
set_option maxRecDepth 100000
set_option maxHeartbeats 4000000

-- valise/valiseref13.Parent
theorem rparent_c {w0 : World} {p : List UInt8}  : Ret Try.prog 84 #[strV p] w0 fun r w' => r = .tuple #[strV (parentP p).1, strV (parentP p).2.1, .int .i64 (parentP p).2.2] ∧ New w0 w' := by
 have M : Sep w0 [] w0 := St.nil w0
 refine Ret.of_W Try.func84 rfl Try.ntmps84 rfl ?_
 refine go 0 ?_
 refine x_call rfl rfl rfl rfl rfl en69 (rsplit_c) ?_
 rintro r w1 ⟨v1, L1, rfl, M1, hs1⟩
 have M := M.grow M1
 generalize hN : splitN p = N at hs1
 obtain ⟨p1, cap1, rfl, hcap1⟩ := hs1.shape2 (by decide)
 refine ⟨trivial, ?_⟩
 refine cnd 1 ?_ ?_
 ·intro hco1
  refine go 1 ?_
  have h := parentP_bad hco1; exact ⟨by rw [h.1, h.2]; rfl, M.frm⟩
 ·intro hco1
  refine cnd 2 ?_ ?_
  ·intro hco2
   refine go 1 ?_
   rcases splitN_facts hco1 with ⟨h1, h2⟩ | ⟨h1, h2, _⟩
   ·subst h1; exact ⟨rfl, M.frm⟩
   ·exact absurd (List.length_eq_zero_iff.1 (show N.length = 0 by omega)) (by rw [← hN, h2]; exact splitS_ne p)
  ·intro hco2
   obtain ⟨h0, h1, h2, h3⟩ : p ≠ [] ∧ splitN p = splitS p ∧ (splitS p).length ≤ 8 ∧ allOK (splitS p) := by
    rcases splitN_facts hco1 with ⟨h1, h2⟩ | h
    ·exact absurd (by rw [← hN, h2]; rfl) hco2
    ·exact h
   obtain ⟨a, x, hax⟩ := split_snoc p
   obtain rfl : N = a ++ [x] := by rw [← hN, h1, hax]
   have hpp := parentP_some h0 hco1 hax
   have hlen : (a ++ [x]).length = a.length + 1 := by simp
   have hl8 : a.length ≤ 8 := by rw [hax, hlen] at h2; omega
   have hAt := strsO_at hs1 M (fun _ h => h)
   obtain ⟨bk, off, rfl, _⟩ := hAt.blk (j := a.length) (by omega)
   have hta : StrsO L1 (.slice (some ⟨bk, off, none⟩) a.length cap1) a := by
    have := strsO_take hs1 (j := a.length) (by simp)
    rwa [List.take_left' rfl] at this
   refine go 0 ?_
   refine W.regD (by kernel_rfl) #[0, 0, 2, 6, 15, 31, 0, 0, 128, 384, 960, 1984, 63, 8191, 16383] [(0, false), (1, false), (2, false), (3, false), (4, false), (6, false), (7, false), (8, false), (9, false), (10, false), (11, false), (5, true), (12, false), (13, false), (14, false)] (by kernel_rfl) ?_
   intro K wD1 hK hwD1
   have M := M.drew hwD1
   refine go 1 ?_
   refine x_sub ((a.length : Nat) : Int) rfl rfl rfl rfl rfl (by rw [w64 (by omega) (by omega)]; omega) ?_
   refine x_slh a.length rfl rfl rfl Try.underlying57 sz9 rfl rfl rfl (by omega) ?_
   refine go 1 ?_
   refine x_sub ((a.length : Nat) : Int) rfl rfl rfl rfl rfl (by rw [w64 (by omega) (by omega)]; omega) ?_
   refine x_ia a.length rfl rfl rfl Try.underlying57 sz9 rfl rfl rfl (by omega) ?_
   refine x_ld rfl rfl rfl Try.underlying9 rfl rfl (StrsAt.cell (strsO_at hs1 M (fun _ h => h)) (x := x) (by simp)) ?_
   refine x_call rfl rfl rfl rfl rfl en73 (rtext_c (strsO_at hta M (fun _ h => h)) (by omega) (fun y hy => by have := allOK_len h3 y (by rw [hax]; exact List.mem_append_left _ hy); omega)) ?_
   rintro r w3 ⟨rfl, hn3⟩
   have M := M.new hn3
   refine ⟨⟨.inr (StrsAt.cell (strsO_at hs1 M (fun _ h => h)) (x := x) (by simp)), trivial⟩, ?_⟩
   refine go 1 ?_
   rw [hpp]; exact ⟨rfl, M.frm⟩

-- valise/valiseref13.Under
theorem runder_c {w0 : World} {p dir : List UInt8}  : Ret Try.prog 72 #[strV p, strV dir] w0 fun r w' => r = .bool (underP p dir) ∧ New w0 w' := by
 have M : Sep w0 [] w0 := St.nil w0
 refine Ret.of_W Try.func72 rfl Try.ntmps72 rfl ?_
 refine go 0 ?_
 refine x_call rfl rfl rfl rfl rfl en69 (rsplit_c) ?_
 rintro r w1 ⟨v1, L1, rfl, M1, hs1⟩
 have M := M.grow M1
 generalize hA : splitN p = A at hs1
 obtain ⟨p1, cap1, rfl, hcap1⟩ := hs1.shape2 (by decide)
 refine ⟨trivial, ?_⟩
 refine go 0 ?_
 refine x_call rfl rfl rfl rfl rfl en69 (rsplit_c) ?_
 rintro r w2 ⟨v2, L2, rfl, M2, hs2⟩
 have M := M.grow M2
 generalize hB : splitN dir = B at hs2
 obtain ⟨p2, cap2, rfl, hcap2⟩ := hs2.shape2 (by decide)
 have hU := underP_eq p dir
 have hlA := splitN_len p
 have hlB := splitN_len dir
 rw [hA] at hlA
 rw [hB] at hlB
 rw [hA, hB] at hU
 refine ⟨trivial, ?_⟩
 refine spl 1 22 ?_ ?_
 ·intro hsp1
  refine go 1 ?_
  exact ⟨by rw [hU]; simp [hsp1], M.frm⟩
 ·intro hsp1
  refine spl 1 26 ?_ ?_
  ·intro hsp2
   refine go 1 ?_
   exact ⟨by rw [hU]; simp [hsp2], M.frm⟩
  ·intro hsp2
   refine cnd 3 ?_ ?_
   ·intro hco3
    refine go 1 ?_
    exact ⟨by rw [hU, pre_long (by omega)]; simp, M.frm⟩
   ·intro hco3
    refine go 0 ?_
    refine W.loop (σ := Nat) (fun q => [(5, _), (7, _), (9, .int .i64 ((q : Nat) : Int))]) (fun q w => q ≤ B.length ∧ B.take q = A.take q ∧ Sep w0 (L1 ++ L2) w) (fun q => B.length - q) 0 ⟨rfl, rfl, rfl, trivial⟩ ⟨Nat.zero_le _, rfl, M⟩ ?_
    rintro q w ⟨hq, hpre, M⟩
    refine cnd 2 ?_ ?_
    ·intro hco4
     obtain ⟨y, hy⟩ := get_lt (l := B) (q := q) (by omega)
     obtain ⟨x, hx⟩ := get_lt (l := A) (q := q) (by omega)
     obtain ⟨bk1, off1, rfl, _⟩ := (strsO_at hs1 M (fun _ h => List.mem_append_left _ h)).blk (j := q) (by omega)
     obtain ⟨bk2, off2, rfl, _⟩ := (strsO_at hs2 M (fun _ h => List.mem_append_right _ h)).blk (j := q) (by omega)
     refine go 0 ?_
     refine W.regD (by kernel_rfl) #[0, 0, 3, 7, 0, 0, 48, 112, 255] [(0, false), (1, false), (2, false), (3, false), (4, false), (5, false), (6, false), (7, false), (8, false)] (by kernel_rfl) ?_
     intro K wD1 hK hwD1
     have M := M.drew hwD1
     refine go 0 ?_
     refine x_ia q rfl rfl rfl Try.underlying57 sz9 rfl rfl rfl (by omega) ?_
     refine x_ld rfl rfl rfl Try.underlying9 rfl rfl (StrsAt.cell (strsO_at hs1 M (fun _ h => List.mem_append_left _ h)) hx) ?_
     refine go 0 ?_
     refine x_ia q rfl rfl rfl Try.underlying57 sz9 rfl rfl rfl (by omega) ?_
     refine x_ld rfl rfl rfl Try.underlying9 rfl rfl (StrsAt.cell (strsO_at hs2 M (fun _ h => List.mem_append_right _ h)) hy) ?_
     refine cnd 1 ?_ ?_
     ·intro hco5
      refine go 1 ?_
      exact ⟨by rw [hU, pre_no hx hy hco5]; simp, M.frm⟩
     ·intro hco5
      refine go 0 ?_
      refine x_add _ rfl rfl rfl rfl rfl (wadd (by omega) (by omega)) ?_
      refine go 0 ?_
      exact At.back (q + 1) ⟨rfl, rfl, rfl, trivial⟩ ⟨by omega, pre_step hpre hx hy hco5, M⟩ (by first | omega | (simp only; omega) | (simp; done) | (simp; omega))
    ·intro hco4
     refine go 1 ?_
     have hqB : q = B.length := by omega
     subst hqB
     exact ⟨by rw [hU, pre_yes hpre, hsp1, hsp2]; rfl, M.frm⟩

end Go.Proofs.Ytebfjdolgchgaaa

namespace Go.Proofs.Ytebfjdolgchgaaa
open Go Go.Fw Go.RowKit Go.Proofs
set_option linter.unusedVariables false
set_option linter.unusedSimpArgs false
set_option maxRecDepth 100000
set_option maxHeartbeats 4000000

-- valise/valiseref13.list
theorem rlist_c {w0 : World} {s : List UInt8} (hl : s.length ≤ 1099511627776) : Ret Try.prog 91 #[strV s] w0 fun r w' => ∃ Lr, Sep w0 Lr w' ∧ StrsO Lr r (namesP s) := by
 have M : Sep w0 [] w0 := St.nil w0
 refine Ret.of_W Try.func91 rfl Try.ntmps91 rfl ?_
 refine cnd 1 ?_ ?_
 ·intro hco1
  refine go 1 ?_
  subst hco1; exact ⟨[], M.frm, OwL.nil⟩
 ·intro hco1
  refine go 0 ?_
  refine x_call rfl rfl rfl rfl rfl en75 (rpieces_c (by omega)) ?_
  rintro v1 w1 ⟨L1, M1, hs1⟩
  have M := M.grow M1
  refine ⟨trivial, ?_⟩
  refine go 1 ?_
  rw [namesP_some hco1]; exact ⟨L1, M, hs1⟩

-- valise/valiseref13.below
theorem rbelow_c {w0 : World} {a b : List UInt8} (hl : a.length ≤ 9223372036854775807) : Ret Try.prog 92 #[strV a, strV b] w0 fun r w' => r = .bool (decide (Lib.compareBytes a b < 0)) ∧ New w0 w' := by
 have M : Sep w0 [] w0 := St.nil w0
 refine Ret.of_W Try.func92 rfl Try.ntmps92 rfl ?_
 refine go 0 ?_
 refine W.loop (σ := Nat) (fun q => [(0, _), (1, _), (5, .int .i64 ((q : Nat) : Int))]) (fun q w => q ≤ a.length ∧ q ≤ b.length ∧ Lib.compareBytes a b = Lib.compareBytes (a.drop q) (b.drop q) ∧ Sep w0 [] w) (fun q => a.length - q) 0 ⟨rfl, rfl, rfl, trivial⟩ ⟨Nat.zero_le _, Nat.zero_le _, rfl, M⟩ ?_
 rintro q w ⟨hqa, hqb, hcmp, M⟩
 refine spl 2 10 ?_ ?_
 ·intro hsp1
  refine cnd 2 ?_ ?_
  ·intro hco1
   obtain ⟨c, hc⟩ := get_lt (l := a) (q := q) (by omega)
   obtain ⟨d, hd⟩ := get_lt (l := b) (q := q) (by omega)
   refine go 0 ?_
   refine W.regD (by kernel_rfl) #[0, 0, 3, 0, 0, 24, 63] [(0, false), (1, false), (2, false), (3, false), (4, false), (5, false), (6, false)] (by kernel_rfl) ?_
   intro K wD1 hK hwD1
   have M := M.drew hwD1
   refine go 0 ?_
   refine x_ixS q rfl rfl rfl Try.underlying9 rfl rfl rfl hc ?_
   refine go 0 ?_
   refine x_ixS q rfl rfl rfl Try.underlying9 rfl rfl rfl hd ?_
   refine cnd 1 ?_ ?_
   ·intro hco2
    refine go 0 ?_
    refine W.regD (by kernel_rfl) #[0, 0, 3, 0, 0, 24, 63, 127] [(0, false), (1, false), (2, false), (3, false), (4, false), (5, false), (6, false), (7, false)] (by kernel_rfl) ?_
    intro K wD2 hK hwD2
    have M := M.drew hwD2
    refine go 0 ?_
    refine x_ixS q rfl rfl rfl Try.underlying9 rfl rfl rfl hc ?_
    refine go 0 ?_
    refine x_ixS q rfl rfl rfl Try.underlying9 rfl rfl rfl hd ?_
    refine go 2 ?_
    have hne : c ≠ d := fun e => hco2 (by rw [e])
    refine ⟨?_, M.frm⟩
    rw [hcmp, cmp_ne hc hd hne]
    congr 1
    rw [Bool.eq_iff_iff, decide_eq_true_eq, decide_eq_true_eq]
    by_cases h : c < d
    ·rw [if_pos h]; rw [UInt8.lt_iff_toNat_lt] at h; omega
    ·rw [if_neg h]; rw [UInt8.lt_iff_toNat_lt] at h; omega
   ·intro hco2
    have hcd : c = d := UInt8.toNat_inj.1 (by omega)
    subst hcd
    refine go 0 ?_
    refine x_add _ rfl rfl rfl rfl rfl (wadd (by omega) (by omega)) ?_
    refine go 0 ?_
    exact At.back (q + 1) ⟨rfl, rfl, rfl, trivial⟩ ⟨by omega, by omega, by rw [hcmp, cmp_drop hc hd], M⟩ (by first | omega | (simp only; omega) | (simp; done) | (simp; omega))
  ·intro hco1
   refine go 4 ?_
   refine ⟨?_, M.frm⟩
   rw [hcmp, cmp_end (by omega) ⟨hqa, hqb⟩]
   congr 1
   rw [Bool.eq_iff_iff, decide_eq_true_eq, decide_eq_true_eq]
   split
   ·omega
   ·split <;> omega
 ·intro hsp1
  refine go 4 ?_
  refine ⟨?_, M.frm⟩
  rw [hcmp, cmp_end (by omega) ⟨hqa, hqb⟩]
  congr 1
  rw [Bool.eq_iff_iff, decide_eq_true_eq, decide_eq_true_eq]
  split
  ·omega
  ·split <;> omega

-- valise/valiseref13.Compare
theorem rcompare_c {w0 : World} {a b : List UInt8} (hla : a.length ≤ 1099511627776) (hlb : b.length ≤ 1099511627776) : Ret Try.prog 88 #[strV a, strV b] w0 fun r w' => r = .int .i64 (compareP a b) ∧ New w0 w' := by
 have M : Sep w0 [] w0 := St.nil w0
 refine Ret.of_W Try.func88 rfl Try.ntmps88 rfl ?_
 refine go 0 ?_
 refine x_call rfl rfl rfl rfl rfl en91 (rlist_c hla) ?_
 rintro v1 w1 ⟨L1, M1, hs1⟩
 have M := M.grow M1
 have hok1 := (namesP_cut (p := a) (by omega)).1
 have hln1 := namesP_len a
 have hC : compareP a b = compareL (namesP a) (namesP b) := rfl
 generalize hA : namesP a = A at hs1 hok1 hC hln1
 obtain ⟨p1, cap1, rfl⟩ := hs1.shape
 refine ⟨trivial, ?_⟩
 refine go 0 ?_
 refine x_call rfl rfl rfl rfl rfl en91 (rlist_c hlb) ?_
 rintro v2 w2 ⟨L2, M2, hs2⟩
 have M := M.grow M2
 have hok2 := (namesP_cut (p := b) (by omega)).1
 have hln2 := namesP_len b
 generalize hB : namesP b = B at hs2 hok2 hC hln2
 obtain ⟨p2, cap2, rfl⟩ := hs2.shape
 refine ⟨trivial, ?_⟩
 refine go 0 ?_
 refine W.loop (σ := Nat) (fun q => [(5, _), (6, _), (7, .int .i64 ((q : Nat) : Int))]) (fun q w => q ≤ A.length ∧ q ≤ B.length ∧ compareP a b = compareL (A.drop q) (B.drop q) ∧ Sep w0 (L1 ++ L2) w) (fun q => A.length - q) 0 ⟨rfl, rfl, rfl, trivial⟩ ⟨Nat.zero_le _, Nat.zero_le _, hC, M⟩ ?_
 rintro q w ⟨hqa, hqb, hcmp, M⟩
 refine spl 2 16 ?_ ?_
 ·intro hsp1
  refine cnd 2 ?_ ?_
  ·intro hco1
   obtain ⟨y, hy⟩ := get_lt (l := B) (q := q) (by omega)
   obtain ⟨x, hx⟩ := get_lt (l := A) (q := q) (by omega)
   obtain ⟨bk1, off1, rfl, _⟩ := (strsO_at hs1 M (fun _ h => List.mem_append_left _ h)).blk (j := q) (by omega)
   obtain ⟨bk2, off2, rfl, _⟩ := (strsO_at hs2 M (fun _ h => List.mem_append_right _ h)).blk (j := q) (by omega)
   have hst := compareL_step hx hy
   have hcc := cmp_cases x y
   have hsw := cmp_swap x y
   have hxl := mem_joinS_le (List.mem_of_getElem? hx)
   have hyl := mem_joinS_le (List.mem_of_getElem? hy)
   have hj1 := hok1.2
   have hj2 := hok2.2
   refine go 0 ?_
   refine W.regD (by kernel_rfl) #[0, 0, 3, 7, 0, 0, 48, 112, 255] [(0, false), (1, false), (2, false), (3, false), (4, false), (5, false), (6, false), (7, false), (8, true)] (by kernel_rfl) ?_
   intro K wD1 hK hwD1
   have M := M.drew hwD1
   refine go 0 ?_
   refine x_ia q rfl rfl rfl Try.underlying57 sz9 rfl rfl rfl (by omega) ?_
   refine x_ld rfl rfl rfl Try.underlying9 rfl rfl (StrsAt.cell (strsO_at hs1 M (fun _ h => List.mem_append_left _ h)) hx) ?_
   refine go 0 ?_
   refine x_ia q rfl rfl rfl Try.underlying57 sz9 rfl rfl rfl (by omega) ?_
   refine x_ld rfl rfl rfl Try.underlying9 rfl rfl (StrsAt.cell (strsO_at hs2 M (fun _ h => List.mem_append_right _ h)) hy) ?_
   refine x_call rfl rfl rfl rfl rfl en92 (rbelow_c (by omega)) ?_
   rintro r w3 ⟨rfl, hn3⟩
   have M := M.new hn3
   refine pnd ?_
   refine cnd 0 ?_ ?_
   ·intro hco2
    refine go 1 ?_
    have h1 : Lib.compareBytes x y = -1 := by rcases hcc with h | h | h <;> omega
    exact ⟨by rw [hcmp, hst, h1]; rfl, M.frm⟩
   ·intro hco2
    refine go 0 ?_
    refine W.regD (by kernel_rfl) #[0, 0, 3, 7, 0, 0, 48, 112, 255] [(0, false), (1, false), (2, false), (3, false), (4, false), (5, false), (6, false), (7, false), (8, true)] (by kernel_rfl) ?_
    intro K wD2 hK hwD2
    have M := M.drew hwD2
    refine go 0 ?_
    refine x_ia q rfl rfl rfl Try.underlying57 sz9 rfl rfl rfl (by omega) ?_
    refine x_ld rfl rfl rfl Try.underlying9 rfl rfl (StrsAt.cell (strsO_at hs2 M (fun _ h => List.mem_append_right _ h)) hy) ?_
    refine go 0 ?_
    refine x_ia q rfl rfl rfl Try.underlying57 sz9 rfl rfl rfl (by omega) ?_
    refine x_ld rfl rfl rfl Try.underlying9 rfl rfl (StrsAt.cell (strsO_at hs1 M (fun _ h => List.mem_append_left _ h)) hx) ?_
    refine x_call rfl rfl rfl rfl rfl en92 (rbelow_c (by omega)) ?_
    rintro r w4 ⟨rfl, hn4⟩
    have M := M.new hn4
    refine pnd ?_
    refine cnd 0 ?_ ?_
    ·intro hco3
     refine go 1 ?_
     have h1 : Lib.compareBytes x y = 1 := by rcases hcc with h | h | h <;> omega
     exact ⟨by rw [hcmp, hst, h1]; rfl, M.frm⟩
    ·intro hco3
     refine go 0 ?_
     refine x_add _ rfl rfl rfl rfl rfl (wadd (by omega) (by omega)) ?_
     refine go 0 ?_
     exact At.back (q + 1) ⟨rfl, rfl, rfl, trivial⟩ ⟨by omega, by omega, by rw [hcmp, hst, if_neg (by omega)], M⟩ (by first | omega | (simp only; omega) | (simp; done) | (simp; omega))
  ·intro hco1
   refine cnd 3 ?_ ?_
   ·intro hco4
    refine go 1 ?_
    exact ⟨by rw [hcmp, compareL_end (by omega) ⟨hqa, hqb⟩]; congr 1; split <;> (try split) <;> omega, M.frm⟩
   ·intro hco4
    refine cnd 3 ?_ ?_
    ·intro hco5
     refine go 1 ?_
     exact ⟨by rw [hcmp, compareL_end (by omega) ⟨hqa, hqb⟩]; congr 1; split <;> (try split) <;> omega, M.frm⟩
    ·intro hco5
     refine go 1 ?_
     exact ⟨by rw [hcmp, compareL_end (by omega) ⟨hqa, hqb⟩]; congr 1; split <;> (try split) <;> omega, M.frm⟩
 ·intro hsp1
  refine cnd 3 ?_ ?_
  ·intro hco7
   refine go 1 ?_
   exact ⟨by rw [hcmp, compareL_end (by omega) ⟨hqa, hqb⟩]; congr 1; split <;> (try split) <;> omega, M.frm⟩
  ·intro hco7
   refine cnd 3 ?_ ?_
   ·intro hco8
    refine go 1 ?_
    exact ⟨by rw [hcmp, compareL_end (by omega) ⟨hqa, hqb⟩]; congr 1; split <;> (try split) <;> omega, M.frm⟩
   ·intro hco8
    refine go 1 ?_
    exact ⟨by rw [hcmp, compareL_end (by omega) ⟨hqa, hqb⟩]; congr 1; split <;> (try split) <;> omega, M.frm⟩

-- valise/valiseref13.Same
theorem same_c {w0 : World} {u v : Value} {A B : List (List UInt8)} (hu : StrsAt w0 u A) (hv : StrsAt w0 v B) (hlA : A.length ≤ 1099511627776) : Ret Try.prog 41 #[u, v] w0 fun r w' => r = .bool (decide (A = B)) ∧ New w0 w' := by
 have M : Sep w0 [] w0 := St.nil w0
 obtain ⟨p1, cap1, rfl⟩ := hu.shape
 obtain ⟨p2, cap2, rfl⟩ := hv.shape
 refine Ret.of_W Try.func41 rfl Try.ntmps41 rfl ?_
 refine cnd 3 ?_ ?_
 ·intro hco1
  refine go 1 ?_
  exact ⟨by rw [decide_eq_false]; intro e; subst e; omega, M.frm⟩
 ·intro hco1
  refine go 0 ?_
  refine W.loop (σ := Nat) (fun q => [(0, _), (1, _), (5, .int .i64 ((q : Nat) : Int))]) (fun q w => q ≤ A.length ∧ B.take q = A.take q ∧ Sep w0 [] w) (fun q => A.length - q) 0 ⟨rfl, rfl, rfl, trivial⟩ ⟨Nat.zero_le _, rfl, M⟩ ?_
  rintro q w ⟨hq, hpre, M⟩
  refine cnd 2 ?_ ?_
  ·intro hco2
   obtain ⟨y, hy⟩ := get_lt (l := B) (q := q) (by omega)
   obtain ⟨x, hx⟩ := get_lt (l := A) (q := q) (by omega)
   obtain ⟨bk1, off1, rfl, _⟩ := hu.blk (j := q) (by omega)
   obtain ⟨bk2, off2, rfl, _⟩ := hv.blk (j := q) (by omega)
   refine go 0 ?_
   refine W.regD (by kernel_rfl) #[0, 0, 3, 7, 0, 0, 48, 112, 255] [(0, false), (1, false), (2, false), (3, false), (4, false), (5, false), (6, false), (7, false), (8, false)] (by kernel_rfl) ?_
   intro K wD1 hK hwD1
   have M := M.drew hwD1
   refine go 0 ?_
   refine x_ia q rfl rfl rfl Try.underlying57 sz9 rfl rfl rfl (by omega) ?_
   refine x_ld rfl rfl rfl Try.underlying9 rfl rfl (StrsAt.cell (hu.new M.frm) hx) ?_
   refine go 0 ?_
   refine x_ia q rfl rfl rfl Try.underlying57 sz9 rfl rfl rfl (by omega) ?_
   refine x_ld rfl rfl rfl Try.underlying9 rfl rfl (StrsAt.cell (hv.new M.frm) hy) ?_
   refine cnd 1 ?_ ?_
   ·intro hco3
    refine go 1 ?_
    exact ⟨by rw [decide_eq_false]; intro e; subst e; rw [hx] at hy; exact hco3 (Option.some.inj hy), M.frm⟩
   ·intro hco3
    refine go 0 ?_
    refine x_add _ rfl rfl rfl rfl rfl (wadd (by omega) (by omega)) ?_
    refine go 0 ?_
    exact At.back (q + 1) ⟨rfl, rfl, rfl, trivial⟩ ⟨by omega, pre_step hpre hx hy hco3, M⟩ (by first | omega | (simp only; omega) | (simp; done) | (simp; omega))
  ·intro hco2
   refine go 1 ?_
   have hq1 : q = A.length := by omega
   subst hq1
   exact ⟨by rw [decide_eq_true]; rw [List.take_length, List.take_of_length_le (by omega)] at hpre; exact hpre.symm, M.frm⟩

end Go.Proofs.Ytebfjdolgchgaaa

namespace Go.Fw
open Go Go.RowKit
set_option linter.unusedVariables false
set_option linter.unusedSimpArgs false

def byteV (x : UInt8) : Value := .int .u8 (x.toNat : Int)
def byteCs (b : List UInt8) : List Value := b.map byteV
theorem byteCs_one (b : List UInt8) : ∀ u ∈ byteCs b, u.oneCell' = true := by
 intro u hu; obtain ⟨x, _, rfl⟩ := List.mem_map.1 hu; rfl
theorem byteCs_len (b : List UInt8) : (byteCs b).length = b.length := by simp [byteCs]
theorem byteCs_get {b : List UInt8} {j : Nat} {x : UInt8} (h : b[j]? = some x) : (byteCs b)[j]? = some (byteV x) := by simp [byteCs, h]
abbrev BytesAt (w : World) (v : Value) (b : List UInt8) : Prop := Sg w v 1 b.length (byteCs b)
abbrev BytesO (L : List (Nat × Obj)) (v : Value) (b : List UInt8) : Prop := OwL L v 1 b.length (byteCs b)

theorem St.inn {S : Nat → Prop} {w0 w : World} {F A B C : List (Nat × Obj)} (h : St S w0 (F ++ (A ++ (B ++ C))) w) : St S w0 (A ++ (B ++ (C ++ F))) w := by
 have := h.perm List.perm_append_comm
 simpa only [List.append_assoc] using this
theorem St.out {S : Nat → Prop} {w0 w : World} {A B C : List (Nat × Obj)} (F : List (Nat × Obj)) (h : St S w0 (A ++ (B ++ (C ++ F))) w) : St S w0 (F ++ (A ++ (B ++ C))) w := by
 have e : A ++ (B ++ (C ++ F)) = (A ++ (B ++ C)) ++ F := by simp only [List.append_assoc]
 rw [e] at h
 exact h.perm List.perm_append_comm
theorem St.inn2 {S : Nat → Prop} {w0 w : World} {F B C : List (Nat × Obj)} (h : St S w0 (F ++ (B ++ C)) w) : St S w0 (B ++ (C ++ F)) w := St.inn (A := []) h
theorem St.out2 {S : Nat → Prop} {w0 w : World} {B C : List (Nat × Obj)} (F : List (Nat × Obj)) (h : St S w0 (B ++ (C ++ F)) w) : St S w0 (F ++ (B ++ C)) w := St.out (A := []) F h
theorem SlL.get {w : World} {L : List (Nat × Obj)} {v : Value} {m k : Nat} {cs : List Value} (h : SlL L v m k cs) (hg : ∀ x ∈ L, w.heap[x.1]? = some x.2) : Sl w v m k cs := by
 rcases h with h | ⟨b, off, cap, all, T, fr, h1, h2, h3, h4⟩
 ·exact .inl h
 ·exact .inr ⟨b, off, cap, all, T, fr, h1, h2, hg _ h3, h4⟩
theorem strOf_bytes {w : World} {v : Value} {b : List UInt8} (h : BytesAt w v b) : StrOf w v b := by
 rcases h with ⟨h1, _, p, cap, rfl⟩ | ⟨rfl, h1, _⟩ | ⟨blk, off, cap, all, T, fr, rfl, hcap, hb, h3, h4⟩
 ·have hb0 : b = [] := List.length_eq_zero_iff.1 h1
  subst hb0
  cases p with
  | none => exact .inl ⟨cap, rfl, rfl⟩
  | some a => exact .inr ⟨a, cap, rfl, fun j hj => absurd hj (by simp)⟩
 ·exact .inl ⟨0, rfl, List.length_eq_zero_iff.1 h1⟩
 ·refine .inr ⟨_, cap, rfl, fun j hj => ?_⟩
  have hsl : Sl w (.slice (some ⟨blk, off, none⟩) b.length cap) 1 b.length (byteCs b) := .inr ⟨blk, off, cap, all, T, fr, rfl, hcap, hb, h3, h4⟩
  have := Sl.cell1 hsl (j := j) (byteCs_get (List.getElem?_eq_getElem hj))
  simp only [Addr.add]
  split
  ·rename_i h0; subst h0; simpa [byteV] using this
  ·simpa [byteV] using this

theorem nodup_le {α : Type} : ∀ {l d : List α}, l.Nodup → (∀ x ∈ l, x ∈ d) → l.length ≤ d.length
 | [], _, _, _ => Nat.zero_le _
 | x :: l, d, hn, hs => by
  obtain ⟨A, B, rfl⟩ := List.append_of_mem (hs x (by simp))
  have := nodup_le (l := l) (d := A ++ B) (List.nodup_cons.1 hn).2 (fun y hy => by
   have h1 := hs y (List.mem_cons_of_mem _ hy)
   have h2 : y ≠ x := fun e => (List.nodup_cons.1 hn).1 (e ▸ hy)
   simp only [List.mem_append, List.mem_cons] at h1 ⊢
   rcases h1 with h1 | h1 | h1
   ·exact .inl h1
   ·exact absurd h1 h2
   ·exact .inr h1)
  simp only [List.length_append, List.length_cons] at this ⊢
  omega

theorem Yld.two {P : Program} {n : Nat} {F : Env} {w : World} {l : Nat} {r : Loop} {p q : Tmp} {v u : Value} {asg : Code} {R : Value → World → Prop} (hl : LoopAt w l r .ready none) (hk : KnowsT n F r.tmps) (hp : r.params = #[p, q]) (hlt : Nat.blt p n = true) (hlq : Nat.blt q n = true) (has : r.assign = asg)
  (h : W P n (some l) asg (AsgQ P n l r R) ((q, u) :: (p, v) :: F) [] w) : Yld P l [v, u] w R := by
 refine ⟨_, hl, by simp [hp], ?_⟩
 have hlt : p < n := by simpa [Nat.blt_eq] using hlt
 have hlq : q < n := by simpa [Nat.blt_eq] using hlq
 have step : ∀ {F : Env} {tm : Array Value} {t : Tmp} {v : Value}, t < n → KnowsT n F tm → KnowsT n ((t, v) :: F) (tm.setIfInBounds t v) := by
  intro F tm t v ht hk
  refine ⟨by simp [hk.size], fun s u hu => ?_⟩
  rw [look_put] at hu
  by_cases e : t = s
  ·subst e; rw [if_pos rfl] at hu; cases hu; simp [hk.size, ht]
  ·rw [if_neg e] at hu; rw [Array.getElem?_setIfInBounds_ne e]; exact hk.slot s u hu
 have hk1 := step (v := u) hlq (step (v := v) hlt hk)
 have hk2 : Knows n ((q, u) :: (p, v) :: F) [] { tmps := (r.tmps.setIfInBounds p v).setIfInBounds q u, defers := [] } := ⟨hk1.size, rfl, hk1.slot⟩
 have h1 := h.out _ hk2
 unfold Rnd
 refine roundIn_of_wpIn (F := Fw none) trivial ?_
 simp only [hp, has]
 simp only [Array.zip, List.zip_toArray] at *
 have e0 : (Array.foldl (fun tmps (x : Tmp × Value) => tmps.setIfInBounds x.fst x.snd) r.tmps (Array.zipWith Prod.mk #[p, q] [v, u].toArray)) = (r.tmps.setIfInBounds p v).setIfInBounds q u := by simp
 rw [e0]
 refine wpIn_mono h1 ?_
 intro e a w1 hq
 cases e with
 | normal =>
  obtain ⟨hl1, hb⟩ := hq
  refine ⟨_, run_beginRound hl1 rfl, ?_⟩
  refine wpIn_mono hb ?_
  intro e a w2 hq
  cases e with
  | normal => exact ⟨_, _, run_endRound none hq.1, _, rfl, hq.2⟩
  | ret => exact ⟨_, _, run_endRound (some .ret) hq.1, _, rfl, hq.2⟩
  | exit id => exact ⟨_, _, run_endRound (some (.exit id)) hq.1, _, rfl, hq.2⟩
  | goto t => exact hq.elim
  | panic ch => exact hq.elim
  | outgrown => exact hq.elim
 | ret => exact hq.elim
 | exit id => exact hq.elim
 | goto t => exact hq.elim
 | panic ch => exact hq.elim
 | outgrown => exact hq.elim

/-! ## Maps by texts -/
theorem strB_beq (a b : List UInt8) : (strB a == strB b) = decide (a = b) := by
 show ByteArray.beq _ _ = _
 rw [Bool.eq_iff_iff]
 simp only [ByteArray.beq, beq_iff_eq, decide_eq_true_eq]
 exact ⟨fun h => strB_inj (by cases ha : strB a; cases hb : strB b; rw [ha, hb] at h; simp at h; rw [h]), fun h => by rw [h]⟩
theorem strKey {P : Program} {K : TypeId} (hK : P.underlying K = some .string) : KeyLaw P K strV where
 eq a b w := by
  unfold Op.equal Op.maxDepth Op.equalIn
  rw [Sem.run_bind, run_underlying hK]
  show Result.ok (strB a == strB b) w = _
  rw [strB_beq]
 ck e a w := by
  unfold Instr.checkKey
  rw [Sem.run_bind, run_underlying hK]
  rfl
 now := ⟨_, hK, .inl fun a b => by show some (strB a == strB b) = _; rw [strB_beq]⟩
 sb a := by simp [Instr.sameBits, strB_beq]


end Go.Fw

namespace Go.Proofs.Ytebfjdolgchgaaa
open Go Go.Fw
set_option linter.unusedVariables false
set_option linter.unusedSimpArgs false

theorem nameOK_ne {x : List UInt8} (h : nameOK x) : x ≠ [] ∧ x ≠ [46] ∧ x ≠ [46, 46] := ⟨fun e => by subst e; have := h.1; simp at this, h.2.2.1, h.2.2.2.1⟩
theorem allOK_no {l : List (List UInt8)} (h : allOK l) : ∀ x ∈ l, (47 : UInt8) ∉ x := fun x hx => nameOK_no (h x hx)
theorem joinS_nil {l : List (List UInt8)} (h : allOK l) : joinS l = [] ↔ l = [] := by
 constructor
 ·intro e
  match l, h, e with
  | [], _, _ => rfl
  | [p], h, e => exact absurd e (nameOK_ne (h p (by simp))).1
  | p :: q :: r, h, e => simp [joinS] at e
 ·rintro rfl; rfl
theorem namesP_join {l : List (List UInt8)} (h : allOK l) : namesP (joinS l) = l := by
 unfold namesP
 split
 ·rename_i e; exact ((joinS_nil h).1 e).symm
 ·rename_i e; exact splitS_joinS (fun e2 => e (by subst e2; rfl)) (allOK_no h)
theorem splitN_join {l : List (List UInt8)} (h1 : l.length ≤ 8) (h2 : allOK l) (h3 : (joinS l).length ≤ 120) : splitE (joinS l) = 0 ∧ splitN (joinS l) = l := by
 by_cases h : l = []
 ·subst h; exact ⟨rfl, rfl⟩
 ·have hs := splitS_joinS h (allOK_no h2)
  have := splitE_some (splitP_good (p := joinS l) (fun e => h ((joinS_nil h2).1 e)) h3 (by rw [hs]; exact ⟨h1, h2⟩))
  rw [hs] at this
  exact this

/-! ## What is clean -/
theorem clean_ok {s : List UInt8} (h : (cleanP s).2 = 0) : ∃ l, l.length ≤ 8 ∧ allOK l ∧ (joinS l).length ≤ 120 ∧ (cleanP s).1 = joinS l := by
 unfold cleanP at h ⊢
 split
 ·rename_i h1; rw [if_pos h1] at h; cases h
 ·rename_i h1
  rw [if_neg h1] at h
  unfold joinP at h ⊢
  by_cases h2 : (cleanL s).length ≤ 8 ∧ allOK (cleanL s) ∧ (joinS (cleanL s)).length ≤ 120
  ·exact ⟨cleanL s, h2.1, h2.2.1, h2.2.2, by rw [if_pos h2]⟩
  ·rw [if_neg h2] at h; cases h

/-! ## Order -/
theorem cmpL_cases : ∀ (a b : List (List UInt8)), compareL a b = -1 ∨ (compareL a b = 0 ∧ a = b) ∨ compareL a b = 1
 | [], [] => .inr (.inl ⟨rfl, rfl⟩)
 | [], _ :: _ => .inl rfl
 | _ :: _, [] => .inr (.inr rfl)
 | x :: a, y :: b => by
  unfold compareL
  rcases cmp_cases x y with h | ⟨h, rfl⟩ | h
  ·rw [if_pos (by omega)]; exact .inl h
  ·rw [if_neg (by omega)]
   rcases cmpL_cases a b with h2 | ⟨h2, rfl⟩ | h2
   ·exact .inl h2
   ·exact .inr (.inl ⟨h2, rfl⟩)
   ·exact .inr (.inr h2)
  ·rw [if_pos (by omega)]; exact .inr (.inr h)
theorem cmpL_self : ∀ a : List (List UInt8), compareL a a = 0
 | [] => rfl
 | x :: a => by unfold compareL; rw [if_neg (by rw [cmp_self]; simp)]; exact cmpL_self a
theorem cmpL_swap : ∀ a b : List (List UInt8), compareL b a = - compareL a b
 | [], [] => rfl
 | [], _ :: _ => rfl
 | _ :: _, [] => rfl
 | x :: a, y :: b => by
  have ih := cmpL_swap a b
  have h := cmp_swap x y
  conv => lhs; unfold compareL
  conv => rhs; unfold compareL
  by_cases h0 : Lib.compareBytes x y = 0
  ·rw [if_neg (by omega), if_neg (by omega), ih]
  ·rw [if_pos (by omega), if_pos h0, h]
theorem cmp_trans : ∀ {a b c : List UInt8}, Lib.compareBytes a b ≤ 0 → Lib.compareBytes b c ≤ 0 → Lib.compareBytes a c < 0 ∨ (Lib.compareBytes a b = 0 ∧ Lib.compareBytes b c = 0)
 | [], [], [], _, _ => .inr ⟨rfl, rfl⟩
 | [], [], _ :: _, _, _ => .inl (by show (-1 : Int) < 0; omega)
 | [], _ :: _, [], _, h => by exfalso; have : (1 : Int) ≤ 0 := h; omega
 | [], _ :: _, _ :: _, _, _ => .inl (by show (-1 : Int) < 0; omega)
 | _ :: _, [], _, h, _ => by exfalso; have : (1 : Int) ≤ 0 := h; omega
 | _ :: _, _ :: _, [], _, h => by exfalso; have : (1 : Int) ≤ 0 := h; omega
 | x :: a, y :: b, z :: c, h1, h2 => by
  unfold Lib.compareBytes at h1 h2 ⊢
  by_cases g1 : x < y
  ·by_cases g2 : y < z
   ·left; rw [if_pos (by rw [UInt8.lt_iff_toNat_lt] at *; omega)]; omega
   ·rw [if_neg g2] at h2
    by_cases g3 : z < y
    ·rw [if_pos g3] at h2; omega
    ·left; rw [if_pos (by rw [UInt8.lt_iff_toNat_lt] at *; omega)]; omega
  ·rw [if_neg g1] at h1
   by_cases g1' : y < x
   ·rw [if_pos g1'] at h1; omega
   ·have hxy : x = y := UInt8.toNat_inj.1 (by rw [UInt8.lt_iff_toNat_lt] at *; omega)
    subst hxy
    rw [if_neg g1'] at h1
    rw [if_neg (show ¬ x < x by rw [UInt8.lt_iff_toNat_lt]; omega), if_neg (show ¬ x < x by rw [UInt8.lt_iff_toNat_lt]; omega)]
    by_cases g2 : x < z
    ·left; rw [if_pos g2]; omega
    ·rw [if_neg g2] at h2
     by_cases g3 : z < x
     ·rw [if_pos g3] at h2; omega
     ·rw [if_neg g3] at h2
      rw [if_neg g2, if_neg g3]
      rw [if_neg g2, if_neg g3]
      exact cmp_trans h1 h2
theorem cmpL_trans : ∀ {a b c : List (List UInt8)}, compareL a b ≤ 0 → compareL b c ≤ 0 → compareL a c < 0 ∨ (compareL a b = 0 ∧ compareL b c = 0)
 | [], [], [], _, _ => .inr ⟨rfl, rfl⟩
 | [], [], _ :: _, _, _ => .inl (by show (-1 : Int) < 0; omega)
 | [], _ :: _, [], _, h => by exfalso; have : (1 : Int) ≤ 0 := h; omega
 | [], _ :: _, _ :: _, _, _ => .inl (by show (-1 : Int) < 0; omega)
 | _ :: _, [], _, h, _ => by exfalso; have : (1 : Int) ≤ 0 := h; omega
 | _ :: _, _ :: _, [], _, h => by exfalso; have : (1 : Int) ≤ 0 := h; omega
 | x :: a, y :: b, z :: c, h1, h2 => by
  have e1 : compareL (x :: a) (y :: b) = if Lib.compareBytes x y ≠ 0 then Lib.compareBytes x y else compareL a b := rfl
  have e2 : compareL (y :: b) (z :: c) = if Lib.compareBytes y z ≠ 0 then Lib.compareBytes y z else compareL b c := rfl
  have e3 : compareL (x :: a) (z :: c) = if Lib.compareBytes x z ≠ 0 then Lib.compareBytes x z else compareL a c := rfl
  rw [e1] at h1 ⊢
  rw [e2] at h2 ⊢
  rw [e3]
  have k1 : Lib.compareBytes x y ≤ 0 := by by_cases g : Lib.compareBytes x y = 0; omega; rw [if_pos g] at h1; exact h1
  have k2 : Lib.compareBytes y z ≤ 0 := by by_cases g : Lib.compareBytes y z = 0; omega; rw [if_pos g] at h2; exact h2
  rcases cmp_trans k1 k2 with h | ⟨g1, g2⟩
  ·left; rw [if_pos (by omega)]; exact h
  ·have hxy : x = y := by rcases cmp_cases x y with h | ⟨_, h⟩ | h; omega; exact h; omega
   subst hxy
   rw [if_neg (by omega)] at h1 h2
   rw [if_neg (by omega), if_neg (by omega), if_neg (by omega)]
   exact cmpL_trans h1 h2
theorem namesP_inj {a b : List UInt8} (h : namesP a = namesP b) : a = b := by
 have key : ∀ p, joinS (namesP p) = p := fun p => by
  unfold namesP; split
  ·rename_i h; rw [h]; rfl
  ·exact joinS_splitS p
 rw [← key a, ← key b, h]
theorem cmpP_cases (a b : List UInt8) : compareP a b = -1 ∨ (compareP a b = 0 ∧ a = b) ∨ compareP a b = 1 :=
 (cmpL_cases (namesP a) (namesP b)).imp id (fun h => h.imp (fun h => ⟨h.1, namesP_inj h.2⟩) id)
theorem cmpP_swap (a b : List UInt8) : compareP b a = - compareP a b := cmpL_swap _ _
theorem cmpP_self (a : List UInt8) : compareP a a = 0 := cmpL_self _
theorem cmpP_trans {a b c : List UInt8} (h1 : compareP a b ≤ 0) (h2 : compareP b c ≤ 0) : compareP a c < 0 ∨ (compareP a b = 0 ∧ compareP b c = 0) := cmpL_trans h1 h2

/-! ## What stands under a directory -/
theorem namesP_splitN {p : List UInt8} (h : splitE p = 0) : namesP p = splitN p := by
 rcases splitN_facts h with ⟨h1, h2⟩ | ⟨h1, h2, _⟩
 ·rw [h2, h1]; rfl
 ·rw [h2, namesP_some h1]
theorem under_facts {p dir : List UInt8} (h : underP p dir = true) : splitE p = 0 ∧ splitE dir = 0 ∧ ∃ c, namesP p = namesP dir ++ c := by
 rw [underP_eq, Bool.and_eq_true, Bool.and_eq_true, decide_eq_true_eq, decide_eq_true_eq, List.isPrefixOf_iff_prefix] at h
 obtain ⟨⟨h1, h2⟩, c, hc⟩ := h
 exact ⟨h1, h2, c, by rw [namesP_splitN h1, namesP_splitN h2, hc]⟩
theorem under_of {p dir : List UInt8} (h1 : splitE p = 0) (h2 : splitE dir = 0) (h : ∃ c, namesP p = namesP dir ++ c) : underP p dir = true := by
 rw [underP_eq, h1, h2]
 obtain ⟨c, hc⟩ := h
 rw [namesP_splitN h1, namesP_splitN h2] at hc
 simp only [decide_true, Bool.true_and]
 rw [List.isPrefixOf_iff_prefix]
 exact ⟨c, hc.symm⟩

/-! ## Steps -/
end Go.Proofs.Ytebfjdolgchgaaa

namespace Go.Proofs.Ytebfjdolgchgaaa
open Go Go.Fw Go.RowKit
set_option linter.unusedVariables false
set_option linter.unusedSimpArgs false

abbrev NP := List (List UInt8)
abbrev Gf := NP → Option (Bool × List UInt8)

def comeG (g : Gf) : NP → NP → Int
 | _, [] => 0
 | pre, n :: r => match g pre with
  | some (true, _) => if (g (pre ++ [n])).isNone then 9 else comeG g (pre ++ [n]) r
  | _ => 17

structure Ent where
 p : NP
 b : Nat
 dir : Bool
 m : Nat
 o : Obj
 v : Value
 D : List (Nat × Obj)
 data : List UInt8

def Ent.kv (e : Ent) : Value := if e.dir then .map (some e.m) else .map none
def Ent.hd (e : Ent) : Nat × Obj := (e.b, .cells [.bool e.dir, e.kv, e.v].toArray 0 (0, 0))
def Ent.mp (e : Ent) : List (Nat × Obj) := if e.dir then [(e.m, e.o)] else []
def Ent.blks (e : Ent) : List (Nat × Obj) := e.hd :: (e.mp ++ e.D)
def blks (E : List Ent) : List (Nat × Obj) := E.flatMap Ent.blks
def ent (E : List Ent) (q : NP) : Option Ent := E.find? (fun e => decide (e.p = q))
def kids (E : List Ent) (q : NP) : List UInt8 → Option Value := fun n => (ent E (q ++ [n])).map fun e => ptr e.b
def absE (E : List Ent) : Gf := fun q => (ent E q).map fun e => (e.dir, e.data)
def POK (p : NP) : Prop := p.length ≤ 8 ∧ allOK p ∧ (joinS p).length ≤ 120

structure TI (E : List Ent) : Prop where
 nd : (E.map (·.p)).Nodup
 root : ∃ e, ent E [] = some e ∧ e.dir = true
 par : ∀ q n e, ent E (q ++ [n]) = some e → ∃ d, ent E q = some d ∧ d.dir = true
 ok : ∀ e ∈ E, POK e.p
 map : ∀ e ∈ E, e.dir = true → MapF strV e.o (kids E e.p)
 dat : ∀ e ∈ E, BytesO e.D e.v e.data ∧ e.data.length ≤ 65536
 dd : ∀ e ∈ E, e.dir = true → e.data = []

section
variable {E : List Ent} {e : Ent} {q : NP}
theorem ent_mem (h : ent E q = some e) : e ∈ E ∧ e.p = q := ⟨List.mem_of_find?_eq_some h, by have := List.find?_some h; simpa using this⟩
theorem ent_none (h : ent E q = none) : ∀ e ∈ E, e.p ≠ q := fun e he => by have := List.find?_eq_none.1 h e he; simpa using this
theorem ent_of : ∀ {E : List Ent} {e : Ent}, (E.map (·.p)).Nodup → e ∈ E → ent E e.p = some e
 | x :: E, e, hn, he => by
  unfold ent
  rw [List.find?_cons]
  simp only [List.map_cons, List.nodup_cons] at hn
  rcases List.mem_cons.1 he with rfl | he
  ·simp
  ·have : x.p ≠ e.p := fun h => hn.1 (h ▸ List.mem_map.2 ⟨e, he, rfl⟩)
   simp only [this, decide_false]
   exact ent_of hn.2 he
theorem TI.of (h : TI E) (he : e ∈ E) : ent E e.p = some e := ent_of h.nd he

theorem mem_blks {x : Nat × Obj} : x ∈ blks E ↔ ∃ e ∈ E, x ∈ e.blks := List.mem_flatMap
theorem mem_hd (he : e ∈ E) : e.hd ∈ blks E := mem_blks.2 ⟨e, he, by simp [Ent.blks]⟩
theorem mem_mp (he : e ∈ E) (hd : e.dir = true) : (e.m, e.o) ∈ blks E := mem_blks.2 ⟨e, he, by simp [Ent.blks, Ent.mp, hd]⟩

theorem TI.pre (h : TI E) : ∀ {r q : NP} {e : Ent}, ent E (q ++ r) = some e → ∃ d, ent E q = some d ∧ (r ≠ [] → d.dir = true) := by
 intro r
 induction r with
 | nil => intro q e he; exact ⟨e, by simpa using he, fun h => absurd rfl h⟩
 | cons n r ih =>
  intro q e he
  have he : ent E ((q ++ [n]) ++ r) = some e := by simpa using he
  obtain ⟨d, hd, _⟩ := ih he
  obtain ⟨d2, h2, h3⟩ := h.par q n d hd
  exact ⟨d2, h2, fun _ => h3⟩
theorem comeE_zero (h : TI E) : ∀ {r q : NP} {d : Ent}, ent E q = some d → (comeG (absE E) q r = 0 ↔ ∃ e, ent E (q ++ r) = some e) := by
 intro r
 induction r with
 | nil => intro q d hd; exact ⟨fun _ => ⟨d, by simpa using hd⟩, fun _ => rfl⟩
 | cons n r ih =>
  intro q d hd
  have e1 : absE E q = some (d.dir, d.data) := by unfold absE; rw [hd]; rfl
  unfold comeG
  rw [e1]
  cases hdd : d.dir with
  | false =>
   refine ⟨fun h => by simp at h, fun ⟨e, he⟩ => ?_⟩
   obtain ⟨d2, h2, h3⟩ := h.pre he
   rw [hd] at h2; cases h2
   rw [h3 (by simp)] at hdd; cases hdd
  | true =>
   simp only
   cases hk : ent E (q ++ [n]) with
   | none =>
    have : absE E (q ++ [n]) = none := by unfold absE; rw [hk]; rfl
    rw [this]
    refine ⟨fun h => by simp at h, fun ⟨e, he⟩ => ?_⟩
    have he : ent E ((q ++ [n]) ++ r) = some e := by simpa using he
    obtain ⟨d2, h2, _⟩ := h.pre he
    rw [hk] at h2; cases h2
   | some k =>
    have : absE E (q ++ [n]) = some (k.dir, k.data) := by unfold absE; rw [hk]; rfl
    rw [this]
    simp only [Option.isNone_some, Bool.false_eq_true, if_false]
    rw [ih hk]; simp
end

/-! ## In memory -/
def EAt (w : World) (E : List Ent) : Prop := ∀ x ∈ blks E, w.heap[x.1]? = some x.2
section
variable {S : Nat → Prop} {w0 w w1 : World} {E : List Ent} {L : List (Nat × Obj)} {e : Ent}
theorem EAt.new (h : EAt w E) (hn : New w w1) : EAt w1 E := fun x hx => hn.keep (h x hx)
theorem EAt.of (M : St S w0 (blks E ++ L) w) : EAt w E := fun x hx => M.get (List.mem_append_left _ hx)
theorem EAt.hd (h : EAt w E) (he : e ∈ E) : w.heap[e.b]? = some (.cells [.bool e.dir, e.kv, e.v].toArray 0 (0, 0)) := h _ (mem_hd he)
theorem EAt.dir (h : EAt w E) (he : e ∈ E) : w.cell? ⟨e.b, 0, none⟩ = some (.bool e.dir) := cell_of (h.hd he) rfl
theorem EAt.kv (h : EAt w E) (he : e ∈ E) : w.cell? ⟨e.b, 1, none⟩ = some e.kv := cell_of (h.hd he) rfl
theorem EAt.data (h : EAt w E) (he : e ∈ E) : w.cell? ⟨e.b, 2, none⟩ = some e.v := cell_of (h.hd he) rfl
theorem EAt.mp (h : EAt w E) (he : e ∈ E) (hd : e.dir = true) : w.heap[e.m]? = some e.o := h _ (mem_mp he hd)
theorem Ent.kvT (hd : e.dir = true) : e.kv = .map (some e.m) := by simp [Ent.kv, hd]
def TrA (w : World) (bt : Nat) (E : List Ent) : Prop := ∃ r, ent E [] = some r ∧ w.heap[bt]? = some (.cells [ptr r.b, .int .i64 ((E.length : Int) - 1)].toArray 0 (0, 0)) ∧ EAt w E ∧ TI E
theorem TrA.new {bt : Nat} (h : TrA w bt E) (hn : New w w1) : TrA w1 bt E := let ⟨r, h1, h2, h3, h4⟩ := h; ⟨r, h1, hn.keep h2, h3.new hn, h4⟩
theorem take_snoc' {l : NP} {j : Nat} {n : List UInt8} (hn : l[j]? = some n) : l.take (j + 1) = l.take j ++ [n] := by
 obtain ⟨hl, rfl⟩ := List.getElem?_eq_some_iff.1 hn
 exact List.take_succ_eq_append_getElem hl
def ndP (E : List Ent) (q : NP) : Value := .pointer ((ent E q).map fun e => ⟨e.b, 0, none⟩)
def findG (g : Gf) (p : List UInt8) : Int := if splitE p = 0 then comeG g [] (splitN p) else splitE p
def homeG (g : Gf) (p : List UInt8) (root : Int) : Int :=
 if splitE p = 0 then (if splitN p = [] then root else
  if comeG g [] (splitN p).dropLast = 0 then (if ((g (splitN p).dropLast).getD (false, [])).1 = true then 0 else 17) else comeG g [] (splitN p).dropLast)
 else splitE p
theorem findG_bad {g : Gf} {p : List UInt8} (h : ¬ splitE p = 0) : findG g p = splitE p := if_neg h
theorem findG_ok {g : Gf} {p : List UInt8} (h : splitE p = 0) : findG g p = comeG g [] (splitN p) := if_pos h
theorem findG_ent {p : List UInt8} {r : Ent} (hT : TI E) (hr : ent E [] = some r) (h : findG (absE E) p = 0) : splitE p = 0 ∧ ∃ e, ent E (splitN p) = some e := by
 unfold findG at h
 split at h
 ·rename_i h1; exact ⟨h1, by simpa using (comeE_zero hT hr).1 h⟩
 ·rename_i h1; exact absurd h h1
def tb (bt : Nat) (E : List Ent) : List (Nat × Obj) := (bt, .cells [ndP E [], .int .i64 ((E.length : Int) - 1)].toArray 0 (0, 0)) :: blks E
theorem TrA.of {bt : Nat} (hT : TI E) (M : St S w0 (tb bt E ++ L) w) : TrA w bt E := by
 obtain ⟨r, hr, _⟩ := hT.root
 refine ⟨r, hr, ?_, fun x hx => M.get (by simp [tb, hx]), hT⟩
 have := M.at_ 0 (by rfl)
 unfold ndP at this
 rw [hr] at this
 exact this
end
end Go.Proofs.Ytebfjdolgchgaaa

namespace Go.Proofs.Ytebfjdolgchgaaa
open Go Go.Fw Go.RowKit
set_option linter.unusedVariables false
set_option linter.unusedSimpArgs false

def setO (E : List Ent) (q : NP) (o' : Obj) : List Ent := E.map fun e => if e.p = q then { e with o := o' } else e
def rm (E : List Ent) (s : NP) : List Ent := E.filter fun e => !decide (e.p = s)
def upd (E : List Ent) (q : NP) (o' : Obj) (n : List UInt8) (x : Option Ent) : List Ent := setO (rm E (q ++ [n])) q o' ++ x.toList

section
variable {E : List Ent} {q s r : NP} {o' : Obj} {n : List UInt8} {d e : Ent} {x : Option Ent}
theorem setO_p (E : List Ent) (q : NP) (o' : Obj) : (setO E q o').map (·.p) = E.map (·.p) := by
 unfold setO; rw [List.map_map]
 exact List.map_congr_left fun e _ => by simp only [Function.comp_apply]; split <;> rfl
theorem ent_setO : ent (setO E q o') r = (ent E r).map fun e => if e.p = q then { e with o := o' } else e := by
 unfold setO ent
 rw [List.find?_map]
 have : ((fun e : Ent => decide (e.p = r)) ∘ fun e => if e.p = q then { e with o := o' } else e) = fun e => decide (e.p = r) := by
  funext e; simp only [Function.comp_apply]; split <;> rfl
 rw [this]
theorem ent_rm : ent (rm E s) r = if r = s then none else ent E r := by
 unfold rm ent
 rw [List.find?_filter]
 by_cases h : r = s
 ·rw [if_pos h, List.find?_eq_none]
  intro e _
  simp only [Bool.and_eq_true, Bool.not_eq_true', decide_eq_false_iff_not, decide_eq_true_eq, not_and]
  exact fun h1 h2 => h1 (h2.trans h)
 ·rw [if_neg h]
  congr 1
  funext e
  by_cases h2 : e.p = r
  ·have : e.p ≠ s := fun h3 => h (h2.symm.trans h3)
   simp [h2, h]
  ·simp [h2]
theorem ent_app {A B : List Ent} : ent (A ++ B) r = (ent A r).or (ent B r) := List.find?_append
theorem ent_opt : ent x.toList r = x.filter fun e => decide (e.p = r) := by
 cases x with
 | none => rfl
 | some e => unfold ent; by_cases h : e.p = r <;> simp [Option.filter, h]
theorem ent_upd (hx : ∀ e, x = some e → e.p = q ++ [n]) : ent (upd E q o' n x) r = if r = q ++ [n] then x else (ent E r).map fun e => if e.p = q then { e with o := o' } else e := by
 unfold upd
 rw [ent_app, ent_setO, ent_rm, ent_opt]
 by_cases h : r = q ++ [n]
 ·rw [if_pos h, if_pos h]
  cases x with
  | none => rfl
  | some e => simp [Option.filter, hx e rfl, h]
 ·rw [if_neg h, if_neg h]
  have : x.filter (fun e => decide (e.p = r)) = none := by
   cases x with
   | none => rfl
   | some e => have : e.p ≠ r := fun h2 => h (h2.symm.trans (hx e rfl)); simp [Option.filter, this]
  rw [this, Option.or_none]
theorem snoc_inj {a b : NP} {m k : List UInt8} (h : a ++ [m] = b ++ [k]) : a = b ∧ m = k := by
 have := List.append_inj' h rfl
 exact ⟨this.1, by simpa using this.2⟩
theorem snoc_ne (a : NP) (m : List UInt8) : a ≠ a ++ [m] := fun h => by have := congrArg List.length h; simp at this

structure NewOK (q : NP) (n : List UInt8) (e : Ent) : Prop where
 p : e.p = q ++ [n]
 ok : POK e.p
 map : e.dir = true → MapF strV e.o (fun _ => none)
 dat : BytesO e.D e.v e.data ∧ e.data.length ≤ 65536
 dd : e.dir = true → e.data = []
theorem TI.upd (h : TI E) (hd : ent E q = some d) (hdd : d.dir = true) (hleaf : ∀ k, ent E ((q ++ [n]) ++ [k]) = none) (hx : ∀ e, x = some e → NewOK q n e)
  (hm : MapF strV o' (setF (kids E q) n (x.map fun e => ptr e.b))) : TI (upd E q o' n x) := by
 have hxp : ∀ e, x = some e → e.p = q ++ [n] := fun e he => (hx e he).p
 have E1 : ∀ r, ent (Go.Proofs.Ytebfjdolgchgaaa.upd E q o' n x) r = if r = q ++ [n] then x else (ent E r).map fun e => if e.p = q then { e with o := o' } else e := fun r => ent_upd hxp
 have hnd : ((Go.Proofs.Ytebfjdolgchgaaa.upd E q o' n x).map (·.p)).Nodup := by
  unfold Go.Proofs.Ytebfjdolgchgaaa.upd
  rw [List.map_append, setO_p, List.nodup_append]
  refine ⟨((List.filter_sublist (l := E)).map _).nodup h.nd, by cases x <;> simp, ?_⟩
  intro a ha b hb e
  obtain ⟨y, hy, rfl⟩ := List.mem_map.1 ha
  obtain ⟨z, hz, rfl⟩ := List.mem_map.1 hb
  have := hxp z (by cases x <;> simp_all)
  have hy2 := (List.mem_filter.1 hy).2
  simp only [Bool.not_eq_true', decide_eq_false_iff_not] at hy2
  exact hy2 (e.trans this)
 have key : ∀ e ∈ Go.Proofs.Ytebfjdolgchgaaa.upd E q o' n x, (x = some e) ∨ ∃ e0 ∈ E, e0.p ≠ q ++ [n] ∧ e = if e0.p = q then { e0 with o := o' } else e0 := fun e he => by
  have h1 := E1 e.p
  rw [ent_of hnd he] at h1
  split at h1
  ·exact .inl h1.symm
  ·rename_i h2
   cases h3 : ent E e.p with
   | none => rw [h3] at h1; cases h1
   | some e0 =>
    rw [h3] at h1
    obtain ⟨h4, h5⟩ := ent_mem h3
    exact .inr ⟨e0, h4, by rw [h5]; exact h2, Option.some.inj h1⟩
 have kk : ∀ s, kids (Go.Proofs.Ytebfjdolgchgaaa.upd E q o' n x) s = if s = q then setF (kids E q) n (x.map fun e => ptr e.b) else if s = q ++ [n] then fun _ => none else kids E s := fun s => by
  funext k
  unfold kids
  rw [E1]
  by_cases h1 : s = q
  ·rw [if_pos h1, h1]
   unfold setF
   by_cases h2 : k = n
   ·rw [if_pos (by rw [h2]), if_pos h2]
   ·rw [if_neg (fun h3 => h2 (snoc_inj h3).2), if_neg h2]
    show _ = Option.map (fun e => ptr e.b) (ent E (q ++ [k]))
    cases ent E (q ++ [k]) with
    | none => rfl
    | some e => simp only [Option.map_some]; split <;> rfl
  ·rw [if_neg h1, if_neg (fun h3 => h1 (snoc_inj h3).1)]
   by_cases h2 : s = q ++ [n]
   ·rw [if_pos h2, h2, hleaf k]; rfl
   ·rw [if_neg h2]
    cases ent E (s ++ [k]) with
    | none => rfl
    | some e => simp only [Option.map_some]; split <;> rfl
 refine ⟨hnd, ?_, ?_, ?_, ?_, ?_, ?_⟩
 ·obtain ⟨rt, h1, h2⟩ := h.root
  rw [E1, if_neg (fun h => by simp at h), h1]
  refine ⟨_, rfl, ?_⟩
  dsimp only
  split <;> exact h2
 ·intro s k e he
  rw [E1] at he
  split at he
  ·rename_i h1
   obtain ⟨rfl, rfl⟩ := snoc_inj h1
   rw [E1, if_neg (snoc_ne _ _), hd]
   refine ⟨_, rfl, ?_⟩
   dsimp only
   split <;> exact hdd
  ·cases h3 : ent E (s ++ [k]) with
   | none => rw [h3] at he; cases he
   | some e0 =>
    obtain ⟨d2, h4, h5⟩ := h.par s k e0 h3
    rw [E1, if_neg, h4]
    ·refine ⟨_, rfl, ?_⟩
     dsimp only
     split <;> exact h5
    ·rintro rfl; rw [hleaf k] at h3; cases h3
 ·intro e he
  rcases key e he with h1 | ⟨e0, h1, _, rfl⟩
  ·exact (hx e h1).ok
  ·have := h.ok e0 h1; split <;> exact this
 ·intro e he hed
  rw [kk]
  rcases key e he with h1 | ⟨e0, h1, h2, rfl⟩
  ·have h3 := hx e h1
   rw [h3.p, if_neg (fun h => snoc_ne q n h.symm), if_pos rfl]
   exact h3.map hed
  ·by_cases h3 : e0.p = q
   ·rw [if_pos h3] at hed ⊢
    rw [if_pos h3]; exact hm
   ·rw [if_neg h3] at hed ⊢
    rw [if_neg h3, if_neg h2]; exact h.map e0 h1 hed
 ·intro e he
  rcases key e he with h1 | ⟨e0, h1, _, rfl⟩
  ·exact (hx e h1).dat
  ·have := h.dat e0 h1; split <;> exact this
 ·intro e he hed
  rcases key e he with h1 | ⟨e0, h1, _, rfl⟩
  ·exact (hx e h1).dd hed
  ·have := h.dd e0 h1; split at hed <;> (split <;> first | exact this hed | (rename_i a b; exact absurd ‹_› ‹_›))

theorem absE_upd (hx : ∀ e, x = some e → e.p = q ++ [n]) : absE (upd E q o' n x) r = if r = q ++ [n] then x.map (fun e => (e.dir, e.data)) else absE E r := by
 unfold absE
 rw [ent_upd hx]
 split
 ·rfl
 ·cases ent E r with
  | none => rfl
  | some e => simp only [Option.map_some]; split <;> rfl
theorem rm_none (h : ent E s = none) : rm E s = E := List.filter_eq_self.2 fun e he => by simpa using ent_none h e he
theorem upd_len_new (h : ent E (q ++ [n]) = none) : (upd E q o' n (some e)).length = E.length + 1 := by
 unfold upd; rw [rm_none h]; simp [setO]
end
end Go.Proofs.Ytebfjdolgchgaaa

namespace Go.Proofs.Ytebfjdolgchgaaa
open Go Go.Fw Go.RowKit
set_option linter.unusedVariables false
set_option linter.unusedSimpArgs false

def setG (g : Gf) (s : NP) (v : Option (Bool × List UInt8)) : Gf := fun r => if r = s then v else g r
def mkdirG (g : Gf) (full : Bool) (p : List UInt8) : Int × Gf :=
 if homeG g p 10 = 0 then (if (g (splitN p)).isSome = true then (10, g) else if full = true then (7, g) else (0, setG g (splitN p) (some (true, [])))) else (homeG g p 10, g)
def putG (g : Gf) (full : Bool) (p b : List UInt8) : Int × Gf :=
 if homeG g p 16 = 0 then (if ((g (splitN p)).getD (false, [])).1 = true then (16, g) else if 65536 < b.length then (3, g) else if (g (splitN p)).isNone = true ∧ full = true then (7, g) else (0, setG g (splitN p) (some (false, b)))) else (homeG g p 16, g)
def emptyG (g : Gf) (q : NP) : Prop := ∀ n, g (q ++ [n]) = none
open Classical in
noncomputable def removeG (g : Gf) (p : List UInt8) : Int × Gf :=
 if findG g p = 0 then (if p = [] ∨ ¬ emptyG g (splitN p) then (18, g) else (0, setG g (splitN p) none)) else (findG g p, g)

section
variable {S : Nat → Prop} {w0 w w1 : World} {E : List Ent} {L N : List (Nat × Obj)} {q : NP} {o' : Obj} {n p : List UInt8} {x : Ent} {bt : Nat} {z : Int}
theorem EAt.tb (M : St S w0 (tb bt E ++ L) w) : EAt w E := fun x hx => M.get (List.mem_append_left _ (List.mem_cons_of_mem _ hx))
theorem POK_split (h : splitE p = 0) : POK (splitN p) := by
 rcases splitN_facts h with ⟨h1, h2⟩ | ⟨h1, h2, h3, h4⟩
 ·rw [h2]; exact ⟨by simp, by simp [allOK], by simp [joinS]⟩
 ·rw [h2]; exact ⟨h3, h4, by rw [joinS_splitS]; exact splitE_len h⟩
theorem absE_none {r : NP} : absE E r = none ↔ ent E r = none := by unfold absE; cases ent E r <;> simp
theorem absE_at {r : NP} {d : Ent} (h : ent E r = some d) : absE E r = some (d.dir, d.data) := by unfold absE; rw [h]; rfl
theorem TI.leaf (hT : TI E) {s : NP} (h : ∀ d, ent E s = some d → d.dir = false) : ∀ k, ent E (s ++ [k]) = none := fun k => by
 cases hk : ent E (s ++ [k]) with
 | none => rfl
 | some e =>
  obtain ⟨d, h1, h2⟩ := hT.par s k e hk
  rw [h d h1] at h2; cases h2
theorem EAt.map (h : EAt w E) {d : Ent} (hd : d ∈ E) (hdd : d.dir = true) : w.cell? ⟨d.b, 1, none⟩ = some (.map (some d.m)) := by have := h.kv hd; rwa [Ent.kvT hdd] at this
end
end Go.Proofs.Ytebfjdolgchgaaa

namespace Go.Proofs.Ytebfjdolgchgaaa
open Go Go.Fw Go.RowKit Go.Maps Go.MapKept
set_option linter.unusedVariables false
set_option linter.unusedSimpArgs false

abbrev ltS (x y : List UInt8) : Prop := Lib.compareBytes x y < 0
theorem lt_cmp : ∀ {a b : List UInt8}, a < b ↔ ltS a b
 | [], [] => by constructor; intro h; exact absurd h (List.lt_irrefl _); intro h; exact absurd h (by show ¬ (0 : Int) < 0; omega)
 | [], _ :: _ => ⟨fun _ => by show (-1 : Int) < 0; omega, fun _ => List.nil_lt_cons _ _⟩
 | _ :: _, [] => ⟨fun h => absurd h (List.not_lt_nil _), fun h => absurd h (by show ¬ (1 : Int) < 0; omega)⟩
 | x :: a, y :: b => by
  rw [List.cons_lt_cons_iff, lt_cmp (a := a) (b := b)]
  show _ ↔ (if x < y then (-1 : Int) else if y < x then 1 else Lib.compareBytes a b) < 0
  by_cases h1 : x < y
  ·rw [if_pos h1]; exact ⟨fun _ => by omega, fun _ => .inl h1⟩
  ·rw [if_neg h1]
   by_cases h2 : y < x
   ·rw [if_pos h2]
    refine ⟨?_, fun h => by omega⟩
    rintro (h | ⟨rfl, _⟩)
    ·exact absurd h h1
    ·exact absurd h2 h1
   ·rw [if_neg h2]
    have : x = y := UInt8.toNat_inj.1 (by rw [UInt8.lt_iff_toNat_lt] at *; omega)
    exact ⟨fun h => h.elim (fun h => absurd h h1) (fun h => h.2), fun h => .inr ⟨this, h⟩⟩
theorem ltS_irr (a : List UInt8) : ¬ ltS a a := by unfold ltS; rw [cmp_self]; omega
theorem ltS_tr {a b c : List UInt8} (h1 : ltS a b) (h2 : ltS b c) : ltS a c := lt_cmp.1 (List.lt_trans (lt_cmp.2 h1) (lt_cmp.2 h2))
theorem ltS_or {a b : List UInt8} (h : a ≠ b) : ltS a b ∨ ltS b a := by
 rcases cmp_cases a b with h1 | ⟨_, h1⟩ | h1
 ·exact .inl (by unfold ltS; omega)
 ·exact absurd h1 h
 ·exact .inr (by unfold ltS; rw [cmp_swap]; omega)

theorem sorted_strict {l : List (List UInt8)} (hn : l.Nodup) : (l.mergeSort (fun x y => decide (x ≤ y))).Pairwise ltS := by
 have tr : ∀ a b c : List UInt8, decide (a ≤ b) = true → decide (b ≤ c) = true → decide (a ≤ c) = true := fun a b c h1 h2 => by simp only [decide_eq_true_eq] at *; exact List.le_trans h1 h2
 have to : ∀ a b : List UInt8, (decide (a ≤ b) || decide (b ≤ a)) = true := fun a b => by simp only [Bool.or_eq_true, decide_eq_true_eq]; exact List.le_total a b
 have h1 := List.pairwise_mergeSort tr to l
 have h2 : (l.mergeSort (fun x y => decide (x ≤ y))).Nodup := (List.mergeSort_perm l _).nodup_iff.2 hn
 refine (List.pairwise_and_iff.2 ⟨h1, h2⟩).imp fun {a b} ⟨h, hne⟩ => ?_
 simp only [decide_eq_true_eq] at h
 rcases ltS_or hne with h3 | h3
 ·exact h3
 ·exact absurd (lt_cmp.2 h3) h

theorem strict_ext : ∀ {a b : List (List UInt8)}, a.Pairwise ltS → b.Pairwise ltS → (∀ x, x ∈ a ↔ x ∈ b) → a = b := fun ha hb h =>
 List.Perm.eq_of_pairwise (le := ltS) (fun a b _ _ h1 h2 => absurd (ltS_tr h1 h2) (ltS_irr _)) ha hb ((List.perm_ext_iff_of_nodup (ha.imp fun h e => by subst e; exact ltS_irr _ h) (hb.imp fun h e => by subst e; exact ltS_irr _ h)).2 h)






end Go.Proofs.Ytebfjdolgchgaaa

namespace Go.Proofs.Ytebfjdolgchgaaa
open Go Go.Fw Go.RowKit
set_option linter.unusedVariables false
set_option linter.unusedSimpArgs false

def ksE (E : List Ent) (q : NP) : NP := (E.filterMap fun e => if e.p.dropLast = q ∧ e.p ≠ [] then e.p.getLast? else none).mergeSort (fun x y => decide (x ≤ y))
def dfs (E : List Ent) : Nat → NP → List Ent
 | 0, _ => []
 | k + 1, q => (ksE E q).flatMap fun n => match ent E (q ++ [n]) with | some e => e :: dfs E k (q ++ [n]) | none => []
section
variable {E : List Ent} {q : NP} {n : List UInt8} {e : Ent} {w0 : World}
theorem ks_of {e : Ent} : (if e.p.dropLast = q ∧ e.p ≠ [] then e.p.getLast? else none) = some n ↔ e.p = q ++ [n] := by
 constructor
 ·intro h
  split at h
  ·rename_i h1
   obtain ⟨h2, h3⟩ := h1
   rw [List.getLast?_eq_some_getLast h3] at h
   cases h
   rw [← h2, List.dropLast_concat_getLast h3]
  ·cases h
 ·intro h
  rw [h]; simp
theorem ksE_nodup (hT : TI E) : (E.filterMap fun e => if e.p.dropLast = q ∧ e.p ≠ [] then e.p.getLast? else none).Nodup := by
 have h := hT.nd
 generalize E = l at h
 induction l with
 | nil => simp
 | cons a l ih =>
  simp only [List.map_cons, List.nodup_cons] at h
  rw [List.filterMap_cons]
  cases ha : (if a.p.dropLast = q ∧ a.p ≠ [] then a.p.getLast? else none) with
  | none => exact ih h.2
  | some n =>
   refine List.nodup_cons.2 ⟨fun hm => ?_, ih h.2⟩
   obtain ⟨b, hb, hbn⟩ := List.mem_filterMap.1 hm
   exact h.1 (List.mem_map.2 ⟨b, hb, (ks_of.1 hbn).trans (ks_of.1 ha).symm⟩)
theorem ksE_strict (hT : TI E) : (ksE E q).Pairwise ltS := sorted_strict (ksE_nodup hT)
theorem mem_ksE (hT : TI E) : n ∈ ksE E q ↔ ∃ e, ent E (q ++ [n]) = some e := by
 unfold ksE
 rw [(List.mergeSort_perm _ _).mem_iff, List.mem_filterMap]
 constructor
 ·rintro ⟨e, he, h⟩
  have := ks_of.1 h
  exact ⟨e, this ▸ ent_of hT.nd he⟩
 ·rintro ⟨e, he⟩
  obtain ⟨h1, h2⟩ := ent_mem he
  exact ⟨e, h1, ks_of.2 h2⟩
def gone (E : List Ent) (k : Nat) (q : NP) (n : List UInt8) : List Ent := match ent E (q ++ [n]) with | some e => e :: dfs E k (q ++ [n]) | none => []
theorem dfs_succ (E : List Ent) (k : Nat) (q : NP) : dfs E (k + 1) q = (ksE E q).flatMap (gone E k q) := rfl
theorem gone_some {k : Nat} (h : ent E (q ++ [n]) = some e) : gone E k q n = e :: dfs E k (q ++ [n]) := by unfold gone; rw [h]
end
end Go.Proofs.Ytebfjdolgchgaaa

namespace Go.Proofs.Ytebfjdolgchgaaa
open Go Go.Fw Go.RowKit Go.Proofs
set_option linter.unusedVariables false
set_option linter.unusedSimpArgs false



/-! ## Rows of files -/
abbrev Raw := List UInt8 × Bool × List UInt8
def fCs (l : List (Raw × Value)) : List Value := l.flatMap fun f => [strV f.1.1, .bool f.1.2.1, f.2]
theorem fCs_len (l : List (Raw × Value)) : (fCs l).length = l.length * 3 := by
 induction l with
 | nil => rfl
 | cons a l ih => simp only [fCs, List.flatMap_cons, List.length_append, List.length_cons, List.length_nil] at ih ⊢; omega
def FilesAt (w : World) (v : Value) (l : List Raw) : Prop := ∃ fs : List (Raw × Value), fs.map (·.1) = l ∧ Sg w v 3 fs.length (fCs fs) ∧ ∀ f ∈ fs, BytesAt w f.2 f.1.2.2 ∧ f.2.oneCell' = true
def FilesO (L : List (Nat × Obj)) (v : Value) (l : List Raw) : Prop := ∃ (fs : List (Raw × Value)) (Lo Ld : List (Nat × Obj)), fs.map (·.1) = l ∧ L = Lo ++ Ld ∧ OwL Lo v 3 fs.length (fCs fs) ∧ ∀ f ∈ fs, SlL Ld f.2 1 f.1.2.2.length (byteCs f.1.2.2) ∧ f.2.oneCell' = true
theorem FilesAt.new {w w' : World} {v : Value} {l : List Raw} (h : FilesAt w v l) (hn : New w w') : FilesAt w' v l :=
 let ⟨fs, h1, h2, h3⟩ := h; ⟨fs, h1, h2.new hn, fun f hf => ⟨(h3 f hf).1.new hn, (h3 f hf).2⟩⟩
def Ent.raw (e : Ent) : Raw := (joinS e.p, e.dir, e.data)
theorem fCs_one {l : List (Raw × Value)} (h : ∀ f ∈ l, f.2.oneCell' = true) : ∀ u ∈ fCs l, u.oneCell' = true := by
 intro u hu
 obtain ⟨f, hf, hu⟩ := List.mem_flatMap.1 hu
 simp only [List.mem_cons, List.not_mem_nil, or_false] at hu
 rcases hu with rfl | rfl | rfl
 ·rfl
 ·rfl
 ·exact h f hf

end Go.Proofs.Ytebfjdolgchgaaa

namespace Go.Proofs.Ytebfjdolgchgaaa
open Go Go.Fw Go.RowKit
set_option linter.unusedVariables false
set_option linter.unusedSimpArgs false

section
variable {E : List Ent} {q a b r s : NP} {n : List UInt8} {e : Ent}
theorem mem_dfs (hT : TI E) : ∀ {fuel : Nat} {q : NP}, 8 < fuel + q.length → ∀ {e : Ent}, e ∈ dfs E fuel q ↔ ∃ t, t ≠ [] ∧ ent E (q ++ t) = some e
 | 0, q, hf, e => by
  refine ⟨fun h => (by cases h), fun ⟨t, _, h⟩ => ?_⟩
  have := (hT.ok e (ent_mem h).1).1
  rw [(ent_mem h).2] at this
  simp at this; omega
 | fuel + 1, q, hf, e => by
  rw [dfs_succ, List.mem_flatMap]
  constructor
  ·rintro ⟨n, hn, he⟩
   obtain ⟨k, hk⟩ := (mem_ksE hT).1 hn
   rw [gone_some hk] at he
   rcases List.mem_cons.1 he with rfl | he
   ·exact ⟨[n], by simp, hk⟩
   ·obtain ⟨t, _, ht⟩ := (mem_dfs hT (by simp; omega)).1 he
    exact ⟨n :: t, by simp, by simpa using ht⟩
  ·rintro ⟨t, h0, ht⟩
   obtain ⟨n, t, rfl⟩ : ∃ n t', t = n :: t' := by cases t with | nil => exact absurd rfl h0 | cons n t => exact ⟨n, t, rfl⟩
   have ht2 : ent E ((q ++ [n]) ++ t) = some e := by simpa using ht
   obtain ⟨k, hk, _⟩ := hT.pre ht2
   refine ⟨n, (mem_ksE hT).2 ⟨k, hk⟩, ?_⟩
   rw [gone_some hk]
   by_cases h1 : t = []
   ·subst h1
    rw [List.append_nil, hk] at ht2
    cases ht2; exact List.mem_cons_self
   ·exact List.mem_cons_of_mem _ ((mem_dfs hT (by simp; omega)).2 ⟨t, h1, ht2⟩)

abbrev ltP (a b : NP) : Prop := compareL a b < 0
theorem ltP_irr (a : NP) : ¬ ltP a a := by unfold ltP; rw [cmpL_self]; omega
theorem ltP_pre (q : NP) {a b : NP} : ltP (q ++ a) (q ++ b) ↔ ltP a b := by
 induction q with
 | nil => rfl
 | cons x q ih =>
  unfold ltP at *
  show (if Lib.compareBytes x x ≠ 0 then _ else compareL (q ++ a) (q ++ b)) < 0 ↔ _
  rw [if_neg (by rw [cmp_self]; simp)]
  exact ih
theorem ltP_snoc (q : NP) {t : NP} (h : t ≠ []) : ltP q (q ++ t) := by
 have := (ltP_pre q (a := []) (b := t)).2 (by cases t with | nil => exact absurd rfl h | cons x t => show (-1 : Int) < 0; omega)
 simpa using this
theorem ltP_head (q : NP) {m n : List UInt8} (h : ltS m n) (s t : NP) : ltP (q ++ m :: s) (q ++ n :: t) := by
 rw [ltP_pre]
 unfold ltP ltS at *
 show (if Lib.compareBytes m n ≠ 0 then Lib.compareBytes m n else _) < 0
 rw [if_pos (by omega)]; exact h
theorem dfs_sorted (hT : TI E) : ∀ {fuel : Nat} {q : NP}, 8 < fuel + q.length → (dfs E fuel q).Pairwise (fun x y => ltP x.p y.p)
 | 0, _, _ => List.Pairwise.nil
 | fuel + 1, q, hf => by
  rw [dfs_succ]
  have key : ∀ n, ∀ e ∈ gone E fuel q n, ∃ t, e.p = q ++ n :: t := fun n e he => by
   unfold gone at he
   cases hk : ent E (q ++ [n]) with
   | none => rw [hk] at he; cases he
   | some k =>
    rw [hk] at he
    rcases List.mem_cons.1 he with rfl | he
    ·exact ⟨[], (ent_mem hk).2⟩
    ·obtain ⟨t, _, ht⟩ := (mem_dfs hT (by simp; omega)).1 he
     exact ⟨t, by rw [(ent_mem ht).2]; simp⟩
  have h1 := ksE_strict (q := q) hT
  generalize ksE E q = l at h1
  induction l with
  | nil => exact List.Pairwise.nil
  | cons n l ih =>
   rw [List.flatMap_cons, List.pairwise_append]
   rw [List.pairwise_cons] at h1
   refine ⟨?_, ih h1.2, fun x hx y hy => ?_⟩
   ·unfold gone
    cases hk : ent E (q ++ [n]) with
    | none => exact List.Pairwise.nil
    | some k =>
     refine List.pairwise_cons.2 ⟨fun y hy => ?_, dfs_sorted hT (by simp; omega)⟩
     obtain ⟨t, h0, ht⟩ := (mem_dfs hT (by simp; omega)).1 hy
     rw [(ent_mem hk).2, (ent_mem ht).2]
     exact ltP_snoc _ h0
   ·obtain ⟨s, hs⟩ := key n x hx
    obtain ⟨m, hm, hy⟩ := List.mem_flatMap.1 hy
    obtain ⟨t, ht⟩ := key m y hy
    rw [hs, ht]
    exact ltP_head q (h1.1 m hm) s t
theorem joinS_splitN {p : List UInt8} (h : splitE p = 0) : joinS (splitN p) = p := by
 rcases splitN_facts h with ⟨h1, h2⟩ | ⟨h1, h2, _⟩
 ·rw [h2, h1]; rfl
 ·rw [h2, joinS_splitS]
theorem POK_iff {l : NP} (h : allOK l) : splitE (joinS l) = 0 ↔ POK l := by
 constructor
 ·intro h1
  have h2 := POK_split h1
  have : splitN (joinS l) = l := by
   rw [← namesP_splitN h1, namesP_join h]
  rwa [this] at h2
 ·rintro ⟨h1, h2, h3⟩; exact (splitN_join h1 h2 h3).1
end
end Go.Proofs.Ytebfjdolgchgaaa

namespace Go.Proofs.Ytebfjdolgchgaaa
open Go Go.Fw Go.RowKit
set_option linter.unusedVariables false
set_option linter.unusedSimpArgs false

def moveG (g : Gf) (a b : NP) : Gf := fun r => if b.isPrefixOf r then g (a ++ r.drop b.length) else if a.isPrefixOf r then none else g r
def fitsG (g : Gf) (a b : NP) : Prop := ∀ r, g (a ++ r) ≠ none → POK (b ++ r)
open Classical in
noncomputable def renameG (g : Gf) (x y : List UInt8) : Int × Gf :=
 if findG g x = 0 then (if x = [] then (18, g) else if homeG g y 10 = 0 then (if x = y then (0, g) else if underP y x = true then (18, g) else if (g (splitN y)).isSome = true then (10, g) else if ¬ fitsG g (splitN x) (splitN y) then (8, g) else (0, moveG g (splitN x) (splitN y))) else (homeG g y 10, g)) else (findG g x, g)
theorem ipf {a b : NP} : a.isPrefixOf b = true ↔ ∃ t, b = a ++ t := by
 rw [List.isPrefixOf_iff_prefix]
 exact ⟨fun ⟨t, h⟩ => ⟨t, h.symm⟩, fun ⟨t, h⟩ => ⟨t, h.symm⟩⟩
theorem ipf_app (a t : NP) : a.isPrefixOf (a ++ t) = true := ipf.2 ⟨t, rfl⟩

section
variable {E : List Ent} {qa qb : NP} {na nb : List UInt8} {oa ob : Obj} {ea da db : Ent} {g1 : List UInt8 → Option Value}
def findV (g : Gf) (p : List UInt8) : List UInt8 × Bool × List UInt8 := if findG g p = 0 then (p, (g (splitN p)).getD (false, [])) else ([], false, [])
def listG (g : Gf) (p : List UInt8) : Int := if findG g p = 0 then (if ((g (splitN p)).getD (false, [])).1 = true then 0 else 17) else findG g p

theorem not_under {x y : List UInt8} (hx : splitE x = 0) (hy : splitE y = 0) (h : underP y x = false) : ¬ (splitN x).isPrefixOf (splitN y) = true := fun hp => by
 obtain ⟨t, ht⟩ := ipf.1 hp
 have := under_of hy hx ⟨t, by rw [namesP_splitN hx, namesP_splitN hy]; exact ht⟩
 rw [this] at h; cases h
end
end Go.Proofs.Ytebfjdolgchgaaa

namespace Go.Proofs.Ytebfjdolgchgaaa
open Go Go.Fw Go.RowKit
set_option linter.unusedVariables false
set_option linter.unusedSimpArgs false

section
variable {w : World} {p : Option Addr} {v dv : Value} {l : List Raw} {x : Raw} {b off n len cap j : Nat} {fs : List (Raw × Value)}
theorem FilesAt.shape (h : FilesAt w v l) : ∃ p cap, v = .slice p l.length cap := by
 obtain ⟨fs, h1, h2, _⟩ := h
 have : fs.length = l.length := by rw [← h1]; simp
 rw [← this]; exact h2.shape
theorem FilesAt.blk (h : FilesAt w (.slice p len cap) l) (hj : j < l.length) : ∃ b off, p = some ⟨b, off, none⟩ ∧ len = l.length := by
 obtain ⟨fs, h1, h2, _⟩ := h
 have : fs.length = l.length := by rw [← h1]; simp
 rw [← this]; exact h2.blk (j := j) (by omega)
theorem fCs_row : ∀ {fs : List (Raw × Value)} {j : Nat} {f : Raw × Value}, fs[j]? = some f → ((fCs fs).drop (j * 3)).take 3 = [strV f.1.1, .bool f.1.2.1, f.2]
 | g :: fs, 0, f, h => by simp at h; subst h; simp [fCs]
 | g :: fs, j + 1, f, h => by
  have := fCs_row (fs := fs) (j := j) (f := f) (by simpa using h)
  have e : (fCs (g :: fs)).drop ((j + 1) * 3) = (fCs fs).drop (j * 3) := by
   show (([strV g.1.1, .bool g.1.2.1, g.2] : List Value) ++ fCs fs).drop _ = _
   rw [show (j + 1) * 3 = ([strV g.1.1, Value.bool g.1.2.1, g.2] : List Value).length + j * 3 by simp; omega, ← List.drop_drop, List.drop_left]
  rw [e]; exact this
theorem FilesAt.row (h : FilesAt w (.slice (some ⟨b, off, none⟩) len cap) l) (hx : l[j]? = some x) : ∃ p c, RowAt w b (off + j * 3) [strV x.1, .bool x.2.1, .slice p x.2.2.length c] ∧ BytesAt w (.slice p x.2.2.length c) x.2.2 := by
 obtain ⟨fs, h1, h2, h3⟩ := h
 have hj : j < l.length := (List.getElem?_eq_some_iff.1 hx).1
 have hlen : fs.length = l.length := by rw [← h1]; simp
 obtain ⟨f, hf⟩ := get_lt (l := fs) (q := j) (by omega)
 have hfx : f.1 = x := by
  rw [← h1, List.getElem?_map, hf] at hx
  simpa using hx
 subst hfx
 obtain ⟨h4, _⟩ := h3 f (List.mem_of_getElem? hf)
 obtain ⟨p, c, h5⟩ := h4.shape
 have hsl := h2.sl (by omega)
 obtain ⟨b', off', h6, h7⟩ := h2.blk (j := j) (by omega)
 cases h6; subst h7
 refine ⟨p, c, ?_, h5 ▸ h4⟩
 rw [← h5]
 exact hsl.row (j := j) (l := [strV f.1.1, .bool f.1.2.1, f.2]) rfl (fCs_row hf) (by simp)
theorem RowAt.cell {u : Value} {l : List Value} (h : RowAt w b off l) {j : Nat} (hu : l[j]? = some u) : w.cell? ⟨b, off + j, none⟩ = some u := by
 obtain ⟨cs, T, fr, h1, h2⟩ := h
 refine cell_of h1 ?_
 have : ((cs.toList.drop off).take l.length)[j]? = some u := by rw [h2]; exact hu
 rw [List.getElem?_take] at this
 split at this
 ·rw [List.getElem?_drop] at this; simpa using this
 ·cases this
end

def singleR (x : Raw) : Int := if splitE x.1 = 0 ∧ splitN x.1 ≠ [] then (if x.2.1 = true ∧ x.2.2 ≠ [] then 16 else if 65536 < x.2.2.length then 3 else 0) else 8
def badR (l : List Raw) : Prop := ∃ x ∈ l, ∃ y ∈ l, y.2.1 = false ∧ ∃ t, t ≠ [] ∧ splitN x.1 = splitN y.1 ++ t
open Classical in
noncomputable def togetherR (l : List Raw) : Int := if (l.map (·.1)).Nodup then (if badR l then 17 else 0) else 10
def layI (g : Gf) (l : NP) (dir : Bool) (b : List UInt8) : Nat → Gf
 | 0 => g
 | j + 1 => if (layI g l dir b j) (l.take (j + 1)) = none then setG (layI g l dir b j) (l.take (j + 1)) (some (if j + 1 = l.length ∧ dir = false then (false, b) else (true, []))) else layI g l dir b j
section
variable {l : List Raw} {x : Raw} {j : Nat}
theorem take_mem (hx : l[j]? = some x) : l.take (j + 1) = l.take j ++ [x] := by
 obtain ⟨h1, rfl⟩ := List.getElem?_eq_some_iff.1 hx
 exact List.take_succ_eq_append_getElem h1
theorem nodup_step (h : ((l.take j).map (·.1)).Nodup) (hx : l[j]? = some x) (hno : ∀ y ∈ l.take j, y.1 ≠ x.1) : ((l.take (j + 1)).map (·.1)).Nodup := by
 rw [take_mem hx, List.map_append, List.nodup_append]
 refine ⟨h, by simp, ?_⟩
 intro a ha b hb e
 obtain ⟨y, hy, rfl⟩ := List.mem_map.1 ha
 simp at hb
 exact hno y hy (e.trans hb)
theorem dup_step (hx : l[j]? = some x) (hy : ∃ y ∈ l.take j, y.1 = x.1) : ¬ (l.map (·.1)).Nodup := fun h => by
 obtain ⟨y, hy, e⟩ := hy
 have h2 : ((l.take (j + 1)).map (·.1)).Nodup := ((List.take_sublist _ _).map _).nodup h
 rw [take_mem hx, List.map_append, List.nodup_append] at h2
 exact h2.2.2 y.1 (List.mem_map.2 ⟨y, hy, rfl⟩) x.1 (by simp) e
def TellsB (g : List UInt8 → Option Value) (l : List Raw) : Prop := ∀ k v, g k = some v ↔ ∃ x ∈ l, x.1 = k ∧ v = .bool x.2.1
theorem TellsB.nil : TellsB (fun _ => none) [] := fun k v => by simp
theorem TellsB.no {g : List UInt8 → Option Value} (h : TellsB g l) {k : List UInt8} (hk : g k = none) : ∀ y ∈ l, y.1 ≠ k := fun y hy e => by
 have := (h k (.bool y.2.1)).2 ⟨y, hy, e, rfl⟩
 rw [hk] at this; cases this
theorem TellsB.bool {g : List UInt8 → Option Value} (h : TellsB g l) (k : List UInt8) : ∃ dd, (g k).getD (.bool false) = .bool dd ∧ ((g k).isSome = true → g k = some (.bool dd)) := by
 cases hk : g k with
 | none => exact ⟨false, rfl, fun h => by cases h⟩
 | some v =>
  obtain ⟨y, _, _, rfl⟩ := (h k v).1 hk
  exact ⟨_, rfl, fun _ => rfl⟩
theorem single_ok (h : singleR x = 0) : splitE x.1 = 0 ∧ splitN x.1 ≠ [] ∧ (x.2.1 = true → x.2.2 = []) ∧ x.2.2.length ≤ 65536 := by
 unfold singleR at h
 split at h
 ·rename_i h1
  split at h
  ·cases h
  ·rename_i h2
   split at h
   ·cases h
   ·refine ⟨h1.1, h1.2, fun h3 => ?_, by omega⟩
    cases hx : x.2.2 with
    | nil => rfl
    | cons a b => exact absurd ⟨h3, by rw [hx]; simp⟩ h2
 ·cases h
end
structure LayI (E0 : List Ent) (x : Raw) (j : Nat) (E : List Ent) (d : Ent) : Prop where
 le : j ≤ (splitN x.1).length
 ti : TI E
 abs : absE E = layI (absE E0) (splitN x.1) x.2.1 x.2.2 j
 at_ : ent E ((splitN x.1).take j) = some d
 dir : j < (splitN x.1).length → d.dir = true
 len : E.length ≤ E0.length + j
 fut : ∀ s, j < s → s < (splitN x.1).length → ∀ e, ent E ((splitN x.1).take s) = some e → e.dir = true
section
variable {E0 E : List Ent} {x : Raw} {j : Nat} {d k y : Ent} {n : List UInt8} {o' : Obj}
theorem LayI.old (h : LayI E0 x j E d) (hn : (splitN x.1)[j]? = some n) (hk : ent E ((splitN x.1).take j ++ [n]) = some k) : LayI E0 x (j + 1) E k := by
 have hj : j < (splitN x.1).length := (List.getElem?_eq_some_iff.1 hn).1
 rw [← take_snoc' hn] at hk
 refine ⟨hj, h.ti, ?_, hk, fun h1 => h.fut (j + 1) (by omega) h1 k hk, by have := h.len; omega, fun s h1 h2 e he => h.fut s (by omega) h2 e he⟩
 rw [h.abs]
 conv => rhs; unfold layI
 rw [← h.abs, if_neg]
 rw [absE_none, hk]; simp
theorem LayI.new (h : LayI E0 x j E d) (hn : (splitN x.1)[j]? = some n) (hk : ent E ((splitN x.1).take j ++ [n]) = none) (hy : NewOK ((splitN x.1).take j) n y) (hyd : (y.dir, y.data) = if j + 1 = (splitN x.1).length ∧ x.2.1 = false then (false, x.2.2) else (true, []))
  (hm : MapF strV o' (setF (kids E ((splitN x.1).take j)) n (some (ptr y.b)))) : LayI E0 x (j + 1) (upd E ((splitN x.1).take j) o' n (some y)) y := by
 have hj : j < (splitN x.1).length := (List.getElem?_eq_some_iff.1 hn).1
 have hxp : ∀ e, some y = some e → e.p = (splitN x.1).take j ++ [n] := fun e he => by cases he; exact hy.p
 refine ⟨hj, h.ti.upd h.at_ (h.dir hj) (h.ti.leaf fun d2 h2 => by rw [hk] at h2; cases h2) (fun e he => by cases he; exact hy) hm, ?_, ?_, fun h1 => ?_, ?_, fun s h1 h2 e he => ?_⟩
 ·funext r
  rw [absE_upd hxp]
  unfold layI
  rw [← h.abs, take_snoc' hn, if_pos (absE_none.2 hk)]
  unfold setG
  split
  ·rw [Option.map_some, hyd]
  ·rfl
 ·rw [take_snoc' hn, ent_upd hxp, if_pos rfl]
 ·rw [if_neg (by omega)] at hyd
  exact (Prod.mk.inj hyd).1
 ·rw [upd_len_new hk]; have := h.len; omega
 ·rw [ent_upd hxp] at he
  have : (splitN x.1).take s ≠ (splitN x.1).take j ++ [n] := fun e1 => by
   rw [← take_snoc' hn] at e1
   have := congrArg List.length e1
   simp only [List.length_take] at this; omega
  rw [if_neg this] at he
  cases h3 : ent E ((splitN x.1).take s) with
  | none => rw [h3] at he; cases he
  | some e0 =>
   rw [h3] at he
   have := h.fut s (by omega) h2 e0 h3
   cases he
   dsimp only
   split <;> exact this
theorem LayI.ok (h : LayI E0 x j E d) (hx : splitE x.1 = 0) (hn : (splitN x.1)[j]? = some n) : POK ((splitN x.1).take j ++ [n]) := by
 have := POK_split hx
 rw [← take_snoc' hn]
 obtain ⟨h1, h2, h3⟩ := this
 refine ⟨by simp; omega, fun y hy => h2 y (List.mem_of_mem_take hy), ?_⟩
 have e : joinS (splitN x.1) = joinS ((splitN x.1).take (j + 1) ++ (splitN x.1).drop (j + 1)) := by rw [List.take_append_drop]
 by_cases h4 : (splitN x.1).drop (j + 1) = []
 ·rw [h4, List.append_nil] at e; rw [← e]; exact h3
 ·have h5 : (splitN x.1).take (j + 1) ≠ [] := fun h => by
   have h6 := congrArg List.length h
   have h7 : j < (splitN x.1).length := (List.getElem?_eq_some_iff.1 hn).1
   rw [List.length_take] at h6
   simp only [List.length_nil] at h6; omega
  rw [joinS_app h5 h4] at e
  have := congrArg List.length e
  simp at this; omega
end
end Go.Proofs.Ytebfjdolgchgaaa

namespace Go.Proofs.Ytebfjdolgchgaaa
open Go Go.Fw Go.RowKit
set_option linter.unusedVariables false
set_option linter.unusedSimpArgs false

def gNew : Gf := fun r => if r = [] then some (true, []) else none
def newE (b m : Nat) : List Ent := [⟨[], b, true, m, .map #[] 0, .slice none 0 0, [], []⟩]
theorem TI.new (b m : Nat) : TI (newE b m) ∧ absE (newE b m) = gNew := by
 have e1 : ∀ r, ent (newE b m) r = if r = [] then some ⟨[], b, true, m, .map #[] 0, .slice none 0 0, [], []⟩ else none := fun r => by
  unfold ent newE
  by_cases h : r = []
  ·subst h; simp
  ·have : ¬ ([] : NP) = r := fun h2 => h h2.symm
   simp [h, this]
 have e2 : kids (newE b m) [] = fun _ => none := by funext n; unfold kids; rw [e1]; rfl
 refine ⟨⟨by simp [newE], ⟨_, by rw [e1, if_pos rfl], rfl⟩, fun q n e he => ?_, ?_, ?_, ?_, ?_⟩, ?_⟩
 ·rw [e1, if_neg (by simp)] at he; cases he
 ·intro e he; rw [List.mem_singleton.1 he]; exact ⟨by simp, by simp [allOK], by simp [joinS]⟩
 ·intro e he _
  rw [List.mem_singleton.1 he, e2]; exact MapF.made
 ·intro e he; rw [List.mem_singleton.1 he]; exact ⟨OwL.nil, by simp⟩
 ·intro e he _; rw [List.mem_singleton.1 he]
 ·funext r
  unfold absE gNew
  rw [e1]
  split <;> rfl
theorem RowAt.new {w w1 : World} {b off : Nat} {l : List Value} (h : RowAt w b off l) (hn : New w w1) : RowAt w1 b off l :=
 let ⟨cs, T, fr, h1, h2⟩ := h; ⟨cs, T, fr, hn.keep h1, h2⟩
def firstR (l : List Raw) : Int := match l.find? (fun x => decide (singleR x ≠ 0)) with | some x => singleR x | none => 0
theorem firstR_at : ∀ {l : List Raw} {j : Nat} {x : Raw}, l[j]? = some x → (∀ y ∈ l.take j, singleR y = 0) → singleR x ≠ 0 → firstR l = singleR x
 | y :: l, 0, x, h, _, hx => by simp at h; subst h; unfold firstR; simp [hx]
 | y :: l, j + 1, x, h, hy, hx => by
  have h0 := hy y (by simp)
  have := firstR_at (l := l) (j := j) (by simpa using h) (fun z hz => hy z (by simp [hz])) hx
  unfold firstR at this ⊢
  rw [List.find?_cons]
  simp only [h0, ne_eq, not_true_eq_false, decide_false]
  exact this
theorem firstR_ok {l : List Raw} (h : ∀ y ∈ l, singleR y = 0) : firstR l = 0 := by
 unfold firstR
 have : l.find? (fun x => decide (singleR x ≠ 0)) = none := List.find?_eq_none.2 fun y hy => by simp [h y hy]
 rw [this]
theorem together_ok {l : List Raw} (h : togetherR l = 0) : (l.map (·.1)).Nodup ∧ ¬ badR l := by
 unfold togetherR at h
 split at h
 ·rename_i h1
  split at h
  ·cases h
  ·rename_i h2; exact ⟨h1, h2⟩
 ·cases h
end Go.Proofs.Ytebfjdolgchgaaa

namespace Go.Proofs.Ytebfjdolgchgaaa
open Go Go.Fw Go.RowKit
set_option linter.unusedVariables false
set_option linter.unusedSimpArgs false

structure CPs (E : List Ent) (S : NP → Prop) (E' : List Ent) : Prop where
 nd : (E'.map (·.p)).Nodup
 inn : ∀ r, S r → absE E' r = absE E r
 out : ∀ r, ¬ S r → ent E' r = none
 map : ∀ e ∈ E', e.dir = true → MapF strV e.o (kids E' e.p)
 dat : ∀ e ∈ E', BytesO e.D e.v e.data
section
variable {E E1 E2 E' : List Ent} {S S' : NP → Prop} {q : NP} {n : List UInt8} {d e k : Ent} {dn : NP} {o' : Obj}
theorem absE_inv {r : NP} (h : absE E' r = absE E r) (he : ent E r = some e) : ∃ e', ent E' r = some e' ∧ e'.dir = e.dir ∧ e'.data = e.data := by
 rw [absE_at he] at h
 unfold absE at h
 cases h1 : ent E' r with
 | none => rw [h1] at h; cases h
 | some e' => rw [h1] at h; simp only [Option.map_some, Option.some.injEq, Prod.mk.injEq] at h; exact ⟨e', rfl, h.1, h.2⟩
theorem CPs.same (h : CPs E S E') (hs : ∀ r, S r → S' r) (hn : ∀ r, S' r → ¬ S r → ent E r = none) : CPs E S' E' := by
 refine ⟨h.nd, fun r hr => ?_, fun r hr => h.out r fun h1 => hr (hs r h1), h.map, h.dat⟩
 by_cases h1 : S r
 ·exact h.inn r h1
 ·rw [absE_none.2 (h.out r h1), absE_none.2 (hn r hr h1)]
theorem CPs.ti (hT : TI E) (h : CPs E (fun r => ∃ t, r = [] ++ t) E') : TI E' ∧ absE E' = absE E := by
 have hab : ∀ r, absE E' r = absE E r := fun r => h.inn r ⟨r, rfl⟩
 have back : ∀ {r : NP} {e' : Ent}, ent E' r = some e' → ∃ e, ent E r = some e ∧ e.dir = e'.dir ∧ e.data = e'.data := fun {r e'} he => absE_inv (hab r).symm he
 have hp : ∀ e ∈ E', ∃ e0, ent E e.p = some e0 ∧ e0.dir = e.dir ∧ e0.data = e.data := fun e he => back (ent_of h.nd he)
 refine ⟨⟨h.nd, ?_, fun q n e he => ?_, fun e he => ?_, h.map, fun e he => ⟨h.dat e he, ?_⟩, fun e he hd => ?_⟩, funext hab⟩
 ·obtain ⟨r, h1, h2⟩ := hT.root
  obtain ⟨e', h3, h4, _⟩ := absE_inv (hab []) h1
  exact ⟨e', h3, h4.trans h2⟩
 ·obtain ⟨e0, h1, _⟩ := back he
  obtain ⟨d, h2, h3⟩ := hT.par q n e0 h1
  obtain ⟨d', h4, h5, _⟩ := absE_inv (hab q) h2
  exact ⟨d', h4, h5.trans h3⟩
 ·obtain ⟨e0, h1, _⟩ := hp e he
  have := hT.ok e0 (ent_mem h1).1
  rwa [(ent_mem h1).2] at this
 ·obtain ⟨e0, h1, _, h3⟩ := hp e he
  rw [← h3]; exact (hT.dat e0 (ent_mem h1).1).2
 ·obtain ⟨e0, h1, h2, h3⟩ := hp e he
  rw [← h3]; exact hT.dd e0 (ent_mem h1).1 (h2.trans hd)
theorem CPs.one (he : ent E q = some e) {b m : Nat} {v : Value} {D : List (Nat × Obj)} (hv : BytesO D v e.data) (hdd : e.dir = true → e.data = []) : CPs E (fun r => r = q) [⟨q, b, e.dir, m, .map #[] 0, v, D, e.data⟩] := by
 have e1 : ∀ r, ent [(⟨q, b, e.dir, m, .map #[] 0, v, D, e.data⟩ : Ent)] r = if r = q then some ⟨q, b, e.dir, m, .map #[] 0, v, D, e.data⟩ else none := fun r => by
  unfold ent
  by_cases h : r = q
  ·subst h; simp
  ·have : ¬ q = r := fun h2 => h h2.symm
   simp [h, this]
 refine ⟨by simp, fun r hr => ?_, fun r hr => by rw [e1, if_neg hr], fun x hx _ => ?_, fun x hx => ?_⟩
 ·subst hr
  rw [absE_at he]; unfold absE; rw [e1, if_pos rfl]; rfl
 ·rw [List.mem_singleton.1 hx]
  have : kids [(⟨q, b, e.dir, m, .map #[] 0, v, D, e.data⟩ : Ent)] q = fun _ => none := by
   funext n; unfold kids; rw [e1, if_neg (fun h => snoc_ne q n h.symm)]; rfl
  show MapF strV _ (kids _ q)
  rw [this]; exact MapF.made
 ·rw [List.mem_singleton.1 hx]; exact hv
end
end Go.Proofs.Ytebfjdolgchgaaa

namespace Go.Proofs.Ytebfjdolgchgaaa
open Go Go.Fw Go.RowKit
set_option linter.unusedVariables false
set_option linter.unusedSimpArgs false

def SgK (w00 : World) (L : List (Nat × Obj)) (v : Value) (m n : Nat) (cs : List Value) : Prop := ∀ w M, Sep w00 M w → (∀ x ∈ L, x ∈ M) → Sg w v m n cs
def FilesK (w00 : World) (L : List (Nat × Obj)) (v : Value) (l : List Raw) : Prop := ∃ fs : List (Raw × Value), fs.map (·.1) = l ∧ SgK w00 L v 3 fs.length (fCs fs) ∧ ∀ f ∈ fs, SgK w00 L f.2 1 f.1.2.2.length (byteCs f.1.2.2) ∧ f.2.oneCell' = true
section
variable {w00 w : World} {L L' M : List (Nat × Obj)} {v : Value} {m n : Nat} {cs : List Value} {l : List Raw}
theorem SgK.mono (h : SgK w00 L v m n cs) (hs : ∀ x ∈ L, x ∈ L') : SgK w00 L' v m n cs := fun w M hM hx => h w M hM fun x hx2 => hx x (hs x hx2)
theorem SgK.old (h : Sg w00 v m n cs) : SgK w00 L v m n cs := fun w M hM _ => h.new hM.frm
theorem SgK.own (h : OwL L' v m n cs) (hm : 0 < m) (hs : ∀ x ∈ L', x ∈ L) : SgK w00 L v m n cs := fun w M hM hx => .inr ((h.sl hm).get fun x hx2 => hM.get (hx x (hs x hx2)))
theorem SgK.slL (h : SlL L' v m n cs) (hs : ∀ x ∈ L', x ∈ L) : SgK w00 L v m n cs := fun w M hM hx => .inr (h.get fun x hx2 => hM.get (hx x (hs x hx2)))
theorem FilesK.mono (h : FilesK w00 L v l) (hs : ∀ x ∈ L, x ∈ L') : FilesK w00 L' v l := let ⟨fs, h1, h2, h3⟩ := h; ⟨fs, h1, h2.mono hs, fun f hf => ⟨(h3 f hf).1.mono hs, (h3 f hf).2⟩⟩
theorem FilesK.old (h : FilesAt w00 v l) : FilesK w00 L v l := let ⟨fs, h1, h2, h3⟩ := h; ⟨fs, h1, SgK.old h2, fun f hf => ⟨SgK.old (h3 f hf).1, (h3 f hf).2⟩⟩
theorem FilesK.own (h : FilesO L v l) : FilesK w00 L v l :=
 let ⟨fs, Lo, Ld, h1, h2, h3, h4⟩ := h
 ⟨fs, h1, SgK.own h3 (by decide) (fun x hx => by rw [h2]; exact List.mem_append_left _ hx), fun f hf => ⟨SgK.slL (h4 f hf).1 (fun x hx => by rw [h2]; exact List.mem_append_right _ hx), (h4 f hf).2⟩⟩
theorem FilesK.at_ (h : FilesK w00 L v l) (hM : Sep w00 M w) (hs : ∀ x ∈ L, x ∈ M) : FilesAt w v l := let ⟨fs, h1, h2, h3⟩ := h; ⟨fs, h1, h2 w M hM hs, fun f hf => ⟨(h3 f hf).1 w M hM hs, (h3 f hf).2⟩⟩
end
section
variable {P : Program} {w : World} {p : Option Addr} {n cap m j : Nat} {cs : List Value}
theorem Sg.take (h : Sg w (.slice p n cap) m n cs) (hj : j ≤ n) : Sg w (.slice p j cap) m j (cs.take (j * m)) := by
 rcases h with ⟨h1, h2, _⟩ | h
 ·have : j = 0 := by omega
  subst this; exact .inl ⟨rfl, by simp, p, cap, rfl⟩
 ·exact .inr (h.take hj)
theorem Sg.drop (h : Sg w (.slice p n cap) m n cs) (hj : j ≤ n) : Sg w (.slice (if cap = j then p else p.map (·.add (j * m))) (n - j) (cap - j)) m (n - j) (cs.drop (j * m)) := by
 rcases h with ⟨h1, h2, _⟩ | h
 ·have : j = 0 := by omega
  subst this; exact .inl ⟨by omega, by rw [h2]; simp, _, _, by rw [show n - 0 = 0 by omega]⟩
 ·exact .inr (h.drop hj)
theorem Sg.capLe (h : Sg w (.slice p n cap) m n cs) : n ≤ cap := by
 rcases h with ⟨h1, _⟩ | ⟨h1, _⟩ | ⟨b, off, cap', all, T, fr, h1, h2, _⟩
 ·omega
 ·cases h1; omega
 ·cases h1; exact h2
theorem fCs_app (a b : List (Raw × Value)) : fCs (a ++ b) = fCs a ++ fCs b := List.flatMap_append
theorem fCs_take {fs : List (Raw × Value)} (hj : j ≤ fs.length) : (fCs fs).take (j * 3) = fCs (fs.take j) := by
 conv => lhs; rw [← List.take_append_drop j fs, fCs_app]
 rw [List.take_left' (by rw [fCs_len, List.length_take]; congr 1; omega)]
theorem fCs_drop {fs : List (Raw × Value)} (hj : j ≤ fs.length) : (fCs fs).drop (j * 3) = fCs (fs.drop j) := by
 conv => lhs; rw [← List.take_append_drop j fs, fCs_app]
 rw [List.drop_left' (by rw [fCs_len, List.length_take]; congr 1; omega)]
end
def atR (l : List Raw) (p : List UInt8) : Int := match l.findIdx? (fun x => decide (x.1 = p)) with | some i => (i : Int) | none => -1
theorem atR_some {l : List Raw} {p : List UInt8} {j : Nat} {x : Raw} (hx : l[j]? = some x) (hp : x.1 = p) (hno : ∀ y ∈ l.take j, y.1 ≠ p) : atR l p = j := by
 unfold atR
 have : l.findIdx? (fun x => decide (x.1 = p)) = some j := by
  rw [List.findIdx?_eq_some_iff_getElem]
  obtain ⟨h1, rfl⟩ := List.getElem?_eq_some_iff.1 hx
  refine ⟨h1, by simpa using hp, fun i hi => ?_⟩
  have := hno l[i] (List.mem_take_iff_getElem.2 ⟨i, by omega, rfl⟩)
  simpa using this
 rw [this]
theorem atR_none {l : List Raw} {p : List UInt8} (hno : ∀ y ∈ l, y.1 ≠ p) : atR l p = -1 := by
 unfold atR
 have : l.findIdx? (fun x => decide (x.1 = p)) = none := List.findIdx?_eq_none_iff.2 fun y hy => by simpa using hno y hy
 rw [this]
theorem atR_cases (l : List Raw) (p : List UInt8) : (∃ j x, l[j]? = some x ∧ x.1 = p ∧ atR l p = (j : Nat) ∧ ∀ y ∈ l.take j, y.1 ≠ p) ∨ ((∀ y ∈ l, y.1 ≠ p) ∧ atR l p = -1) := by
 cases h : l.findIdx? (fun x => decide (x.1 = p)) with
 | none =>
  right
  have h2 := List.findIdx?_eq_none_iff.1 h
  refine ⟨fun y hy => by simpa using h2 y hy, ?_⟩
  unfold atR; rw [h]
 | some j =>
  left
  obtain ⟨h1, h2, h3⟩ := List.findIdx?_eq_some_iff_getElem.1 h
  refine ⟨j, l[j], List.getElem?_eq_getElem h1, by simpa using h2, by unfold atR; rw [h], fun y hy => ?_⟩
  obtain ⟨i, hi, rfl⟩ := List.mem_take_iff_getElem.1 hy
  have := h3 i (by omega)
  simpa using this
def fileZ : Raw := ([], false, [])
def findF (l : List Raw) : NP → NP → Raw → Raw × Int
 | _, [], f => (f, 0)
 | pre, n :: r, f => if f.2.1 = true then (match l.find? (fun x => decide (x.1 = joinS (pre ++ [n]))) with | some x => findF l (pre ++ [n]) r x | none => (fileZ, 9)) else (fileZ, 17)
def findL (l : List Raw) (p : List UInt8) : Raw × Int := if splitE p = 0 then findF l [] (splitN p) ([], true, []) else (fileZ, 8)
theorem at_find {l : List Raw} {p : List UInt8} {j : Nat} {x : Raw} (hx : l[j]? = some x) (hp : x.1 = p) (hno : ∀ y ∈ l.take j, y.1 ≠ p) : l.find? (fun x => decide (x.1 = p)) = some x := by
 obtain ⟨h1, rfl⟩ := List.getElem?_eq_some_iff.1 hx
 rw [List.find?_eq_some_iff_getElem]
 refine ⟨by simpa using hp, j, h1, rfl, fun i hi => ?_⟩
 have := hno l[i] (List.mem_take_iff_getElem.2 ⟨i, by omega, rfl⟩)
 simpa using this
theorem at_find0 {l : List Raw} {p : List UInt8} (hno : ∀ y ∈ l, y.1 ≠ p) : l.find? (fun x => decide (x.1 = p)) = none := List.find?_eq_none.2 fun y hy => by simpa using hno y hy
theorem findF_at {l : List Raw} {N : NP} {j : Nat} {n : List UInt8} {f : Raw} (hn : N[j]? = some n) : findF l (N.take j) (N.drop j) f = if f.2.1 = true then (match l.find? (fun x => decide (x.1 = joinS (N.take (j + 1)))) with | some x => findF l (N.take (j + 1)) (N.drop (j + 1)) x | none => (fileZ, 9)) else (fileZ, 17) := by
 obtain ⟨hl, rfl⟩ := List.getElem?_eq_some_iff.1 hn
 rw [List.drop_eq_getElem_cons hl, List.take_succ_eq_append_getElem hl]
 rfl
theorem splitE_8 {p : List UInt8} (h : ¬ splitE p = 0) : splitE p = 8 := by
 rcases splitP_cases p with ⟨h1, h2⟩ | ⟨_, h1⟩ | ⟨h1, _, h3, h4, h2⟩
 ·subst h1; exact absurd rfl h
 ·exact (splitE_none h1).1
 ·exact absurd (splitE_some h2).1 h
def namesL (l : List Raw) (p : List UInt8) : NP := (l.filter fun x => decide ((parentP x.1).1 = p)).map fun x => (parentP x.1).2.1
def listL (l : List Raw) (p : List UInt8) : NP × Int := if (findL l p).2 = 0 then (if (findL l p).1.2.1 = true then (namesL l p, 0) else ([], 17)) else ([], (findL l p).2)
theorem namesL_len (l : List Raw) (p : List UInt8) : (namesL l p).length ≤ l.length := by unfold namesL; rw [List.length_map]; exact List.length_filter_le _ _
theorem namesL_step {l : List Raw} {p : List UInt8} {j : Nat} {x : Raw} (hx : l[j]? = some x) : namesL (l.take (j + 1)) p = namesL (l.take j) p ++ if (parentP x.1).1 = p then [(parentP x.1).2.1] else [] := by
 obtain ⟨h1, rfl⟩ := List.getElem?_eq_some_iff.1 hx
 unfold namesL
 rw [List.take_succ_eq_append_getElem h1, List.filter_append, List.map_append]
 congr 1
 by_cases h : (parentP (l[j]).1).1 = p
 ·rw [List.filter_cons_of_pos (by simpa using h), if_pos h]; rfl
 ·rw [List.filter_cons_of_neg (by simpa using h), if_neg h]; rfl
def homeL (l : List Raw) (p : List UInt8) (root : Int) : Int := if splitE p = 0 then (if splitN p = [] then root else if (findL l (joinS ((splitN p).take ((splitN p).length - 1)))).2 = 0 then (if (findL l (joinS ((splitN p).take ((splitN p).length - 1)))).1.2.1 = true then 0 else 17) else (findL l (joinS ((splitN p).take ((splitN p).length - 1)))).2) else 8
def busyL (l : List Raw) (p : List UInt8) : Bool := l.any fun x => decide (x.1 ≠ p) && underP x.1 p
def removeL (l : List Raw) (p : List UInt8) : List Raw × Int := if (findL l p).2 = 0 then (if p = [] then (l, 18) else if busyL l p = true then (l, 18) else (l.eraseIdx (atR l p).toNat, 0)) else (l, (findL l p).2)
theorem findF_mem {l : List Raw} : ∀ {r pre : NP} {f : Raw}, (findF l pre r f).2 = 0 → r ≠ [] → ∃ x ∈ l, x.1 = joinS (pre ++ r)
 | [], _, _, _, h => absurd rfl h
 | n :: r, pre, f, h, _ => by
  unfold findF at h
  split at h
  ·cases hx : l.find? (fun x => decide (x.1 = joinS (pre ++ [n]))) with
   | none => rw [hx] at h; cases h
   | some x =>
    rw [hx] at h
    by_cases hr : r = []
    ·subst hr
     exact ⟨x, List.mem_of_find?_eq_some hx, by simpa using List.find?_some hx⟩
    ·obtain ⟨y, h1, h2⟩ := findF_mem (r := r) h hr
     exact ⟨y, h1, by rw [h2]; simp⟩
  ·cases h
theorem findL_mem {l : List Raw} {p : List UInt8} (h : (findL l p).2 = 0) (hp : p ≠ []) : ∃ x ∈ l, x.1 = p := by
 unfold findL at h
 split at h
 ·rename_i hs
  have h0 : splitN p ≠ [] := fun e => hp (by rcases splitN_facts hs with ⟨h1, _⟩ | ⟨_, h2, _⟩; exact h1; rw [h2] at e; exact absurd e (splitS_ne p))
  obtain ⟨x, h1, h2⟩ := findF_mem h h0
  exact ⟨x, h1, by rw [h2, List.nil_append, joinS_splitN hs]⟩
 ·cases h
def withR (l : List Raw) (x : Raw) : List Raw := l.takeWhile (fun y => decide (compareP y.1 x.1 < 0)) ++ x :: l.dropWhile (fun y => decide (compareP y.1 x.1 < 0))
theorem withR_at {l : List Raw} {x : Raw} {j : Nat} (hj : j ≤ l.length) (h1 : ∀ y ∈ l.take j, compareP y.1 x.1 < 0) (h2 : ∀ y, l[j]? = some y → ¬ compareP y.1 x.1 < 0) : withR l x = l.take j ++ x :: l.drop j := by
 have key : ∀ (A B : List Raw), (∀ y ∈ A, compareP y.1 x.1 < 0) → (∀ y, B.head? = some y → ¬ compareP y.1 x.1 < 0) → (A ++ B).takeWhile (fun y => decide (compareP y.1 x.1 < 0)) = A ∧ (A ++ B).dropWhile (fun y => decide (compareP y.1 x.1 < 0)) = B := fun A B hA hB => by
  induction A with
  | nil =>
   cases B with
   | nil => exact ⟨rfl, rfl⟩
   | cons b B =>
    have := hB b rfl
    constructor
    ·rw [List.nil_append, List.takeWhile_cons_of_neg (by simpa using this)]
    ·rw [List.nil_append, List.dropWhile_cons_of_neg (by simpa using this)]
  | cons a A ih =>
   have h3 := hA a (by simp)
   obtain ⟨h4, h5⟩ := ih (fun y hy => hA y (by simp [hy]))
   constructor
   ·rw [List.cons_append, List.takeWhile_cons_of_pos (by simpa using h3), h4]
   ·rw [List.cons_append, List.dropWhile_cons_of_pos (by simpa using h3), h5]
 obtain ⟨h3, h4⟩ := key (l.take j) (l.drop j) h1 (fun y hy => h2 y (by rw [List.head?_drop] at hy; exact hy))
 rw [List.take_append_drop] at h3 h4
 unfold withR
 rw [h3, h4]
theorem St.mix {S : Nat → Prop} {w0 w : World} {F A B X Lo : List (Nat × Obj)} (h : St S w0 ((F ++ ((A ++ B) ++ X)) ++ Lo) w) : St S w0 ((A ++ (B ++ Lo)) ++ (X ++ F)) w := h.perm (perm_c fun p => by simp only [List.countP_append]; omega)
theorem St.mix0 {S : Nat → Prop} {w0 w : World} {F A X Lo : List (Nat × Obj)} (h : St S w0 ((F ++ (A ++ X)) ++ Lo) w) : St S w0 ((A ++ Lo) ++ (X ++ F)) w := h.perm (perm_c fun p => by simp only [List.countP_append]; omega)
def mkdirL (l : List Raw) (p : List UInt8) : List Raw × Int := if homeL l p 10 = 0 then (if 0 ≤ atR l p then (l, 10) else if 128 ≤ l.length then (l, 7) else (withR l (p, true, []), 0)) else (l, homeL l p 10)
def putL (l : List Raw) (p b : List UInt8) : List Raw × Int :=
 if homeL l p 16 = 0 then
  (match l.find? (fun x => decide (x.1 = p)) with
   | some x => if x.2.1 = true then (l, 16) else if 65536 < b.length then (l, 3) else (withR (l.eraseIdx (atR l p).toNat) (p, false, b), 0)
   | none => if 65536 < b.length then (l, 3) else if 128 ≤ l.length then (l, 7) else (withR l (p, false, b), 0))
 else (l, homeL l p 16)
end Go.Proofs.Ytebfjdolgchgaaa

namespace Go.Proofs.Ytebfjdolgchgaaa
open Go Go.Fw Go.RowKit Go.Proofs
set_option linter.unusedVariables false
set_option linter.unusedSimpArgs false
set_option maxRecDepth 100000
set_option maxHeartbeats 4000000

-- (valise/valiseref16.Tree).At
theorem at_c {w0 : World} {v : Value} {l : List Raw} {p : List UInt8} (h : FilesAt w0 v l) (hl : l.length ≤ 100000) : Ret Try.prog 70 #[.agg #[v], strV p] w0 fun r w' => r = .int .i64 (atR l p) ∧ New w0 w' := by
 have M : Sep w0 [] w0 := St.nil w0
 obtain ⟨pv, cv, rfl⟩ := h.shape
 refine Ret.of_W Try.func70 rfl Try.ntmps70 rfl ?_
 refine go 1 ?_
 intro bbx1 _ M
 refine go 0 ?_
 refine W.loop (σ := Nat) (fun j => [(1, _), (2, _), (5, .int .i64 ((j : Nat) : Int))]) (fun j w => j ≤ l.length ∧ (∀ y ∈ l.take j, y.1 ≠ p) ∧ Sep w0 [(bbx1, .cells [.slice pv l.length cv].toArray 33 (0, 0))] w) (fun j => l.length - j) 0 ⟨rfl, rfl, rfl, trivial⟩ ⟨Nat.zero_le _, by simp, M⟩ ?_
 rintro j w ⟨hj, hno, M⟩
 refine cnd 3 ?_ ?_
 ·intro hco1
  obtain ⟨x, hx⟩ := get_lt (l := l) (q := j) (by omega)
  obtain ⟨bb, off, rfl, _⟩ := (h.new M.frm).blk (j := j) (by omega)
  obtain ⟨pd, cd, hrow, _⟩ := (h.new M.frm).row hx
  refine go 1 ?_
  refine x_ia j rfl rfl rfl Try.underlying31 sz88 rfl rfl rfl (by omega) ?_
  refine go 0 ?_
  refine x_ld rfl rfl rfl Try.underlying9 rfl rfl (RowAt.cell hrow (j := 0) rfl) ?_
  refine cnd 1 ?_ ?_
  ·intro hco2
   refine go 1 ?_
   exact ⟨by rw [atR_some hx hco2 hno], M.frm⟩
  ·intro hco2
   refine go 0 ?_
   refine x_add _ rfl rfl rfl rfl rfl (wadd (by omega) (by omega)) ?_
   refine go 0 ?_
   exact At.back (j + 1) ⟨rfl, rfl, rfl, trivial⟩ ⟨by omega, fun y hy => by
    rw [take_mem hx] at hy
    rcases List.mem_append.1 hy with hy | hy
    ·exact hno y hy
    ·rw [List.mem_singleton.1 hy]; exact hco2, M⟩ (by first | omega | (simp only; omega) | (simp; done) | (simp; omega))
 ·intro hco1
  refine go 1 ?_
  have hj2 : j = l.length := by omega
  subst hj2
  rw [List.take_length] at hno
  exact ⟨by rw [atR_none hno], M.frm⟩

end Go.Proofs.Ytebfjdolgchgaaa

namespace Go.Proofs.Ytebfjdolgchgaaa
open Go Go.Fw Go.RowKit
set_option linter.unusedVariables false
set_option linter.unusedSimpArgs false

def mvN (x y : List UInt8) (f : Raw) : Raw := if underP f.1 x = true then (y ++ f.1.drop x.length, f.2) else f
def movL (x y : List UInt8) (l : List Raw) : List Raw := l.foldl (fun a f => withR a (mvN x y f)) []
def badN (x y : List UInt8) (f : Raw) : Bool := underP f.1 x && decide (splitE (mvN x y f).1 ≠ 0)
def renameL (l : List Raw) (x y : List UInt8) : List Raw × Int :=
 if (findL l x).2 = 0 then (if x = [] then (l, 18) else if homeL l y 10 = 0 then (if x = y then (l, 0) else if underP y x = true then (l, 18) else if 0 ≤ atR l y then (l, 10) else if l.any (badN x y) = true then (l, 8) else (movL x y l, 0)) else (l, homeL l y 10)) else (l, (findL l x).2)
theorem withR_mem {l : List Raw} {x y : Raw} : y ∈ withR l x ↔ y = x ∨ y ∈ l := by
 unfold withR
 have e := List.takeWhile_append_dropWhile (p := fun y : Raw => decide (compareP y.1 x.1 < 0)) (l := l)
 rw [List.mem_append, List.mem_cons]
 constructor
 ·rintro (h | h | h)
  ·exact .inr (by rw [← e]; exact List.mem_append_left _ h)
  ·exact .inl h
  ·exact .inr (by rw [← e]; exact List.mem_append_right _ h)
 ·rintro (h | h)
  ·exact .inr (.inl h)
  ·rw [← e] at h
   rcases List.mem_append.1 h with h | h
   ·exact .inl h
   ·exact .inr (.inr h)
theorem withR_len (l : List Raw) (x : Raw) : (withR l x).length = l.length + 1 := by
 unfold withR
 have e := congrArg List.length (List.takeWhile_append_dropWhile (p := fun y : Raw => decide (compareP y.1 x.1 < 0)) (l := l))
 simp only [List.length_append, List.length_cons] at e ⊢
 omega
theorem foldW_mem {g : Raw → Raw} : ∀ {l A : List Raw} {y : Raw}, y ∈ l.foldl (fun a f => withR a (g f)) A ↔ y ∈ A ∨ ∃ f ∈ l, y = g f
 | [], A, y => by simp
 | f :: l, A, y => by
  rw [List.foldl_cons, foldW_mem, withR_mem]
  constructor
  ·rintro ((h | h) | ⟨z, h1, h2⟩)
   ·exact .inr ⟨f, by simp, h⟩
   ·exact .inl h
   ·exact .inr ⟨z, by simp [h1], h2⟩
  ·rintro (h | ⟨z, h1, h2⟩)
   ·exact .inl (.inr h)
   ·rcases List.mem_cons.1 h1 with rfl | h1
    ·exact .inl (.inl h2)
    ·exact .inr ⟨z, h1, h2⟩
theorem foldW_len {g : Raw → Raw} : ∀ (l A : List Raw), (l.foldl (fun a f => withR a (g f)) A).length = A.length + l.length
 | [], A => by simp
 | f :: l, A => by rw [List.foldl_cons, foldW_len, withR_len]; simp; omega
theorem mvN_len {x y : List UInt8} {f : Raw} (hf : f.1.length ≤ 1000) (hy : y.length ≤ 1000) : (mvN x y f).1.length ≤ 2000 := by
 unfold mvN
 split
 ·simp; omega
 ·omega
theorem movL_step {x y : List UInt8} {l : List Raw} {j : Nat} {f : Raw} (hf : l[j]? = some f) : movL x y (l.take (j + 1)) = withR (movL x y (l.take j)) (mvN x y f) := by
 unfold movL
 rw [take_mem hf, List.foldl_append]; rfl
theorem FilesK.get {w00 w : World} {L M : List (Nat × Obj)} {l : List Raw} {b off n cap j : Nat} {x : Raw} (h : FilesK w00 L (.slice (some ⟨b, off, none⟩) n cap) l) (hx : l[j]? = some x) (hM : Sep w00 M w) (hs : ∀ y ∈ L, y ∈ M) :
  ∃ p c, SgK w00 L (.slice p x.2.2.length c) 1 x.2.2.length (byteCs x.2.2) ∧ RowAt w b (off + j * 3) [strV x.1, .bool x.2.1, .slice p x.2.2.length c] := by
 obtain ⟨fs, h1, h2, h3⟩ := h
 have hj : j < l.length := (List.getElem?_eq_some_iff.1 hx).1
 have hlen : fs.length = l.length := by rw [← h1]; simp
 obtain ⟨f, hf⟩ := get_lt (l := fs) (q := j) (by omega)
 have hfx : f.1 = x := by
  rw [← h1, List.getElem?_map, hf] at hx
  simpa using hx
 subst hfx
 obtain ⟨h4, _⟩ := h3 f (List.mem_of_getElem? hf)
 obtain ⟨p, c, h5⟩ := (h4 w M hM hs).shape
 have hsl := (h2 w M hM hs).sl (by omega)
 obtain ⟨b', off', h6, h7⟩ := (h2 w M hM hs).blk (j := j) (by omega)
 cases h6; subst h7
 refine ⟨p, c, h5 ▸ h4, ?_⟩
 rw [← h5]
 exact hsl.row (j := j) (l := [strV f.1.1, .bool f.1.2.1, f.2]) rfl (fCs_row hf) (by simp)
theorem under_len {p d : List UInt8} (h : underP p d = true) : d.length ≤ p.length := by
 obtain ⟨h1, h2, c, hc⟩ := under_facts h
 rw [namesP_splitN h1, namesP_splitN h2] at hc
 have e1 := joinS_splitN h1
 have e2 := joinS_splitN h2
 rw [hc] at e1
 by_cases hc0 : c = []
 ·subst hc0; rw [List.append_nil, e2] at e1; rw [e1]; exact Nat.le_refl _
 ·by_cases hd0 : splitN d = []
  ·rw [hd0] at e2; rw [← e2]; simp [joinS]
  ·rw [joinS_app hd0 hc0, e2] at e1
   have := congrArg List.length e1
   simp at this; omega
end Go.Proofs.Ytebfjdolgchgaaa
