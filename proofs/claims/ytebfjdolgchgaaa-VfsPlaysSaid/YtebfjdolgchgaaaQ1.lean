/-
  Texts that belong together, laid into one file: FwA, FwB, FwC, FwD, FwE, FwF, FwG, FwH, FwI, FwJ, FwR, R0, Tab.
-/
import Derived.WalkKit
import Derived.RangeFuncNested
import Derived.RangeFuncLeaves
import Derived.RangeFuncCalls
import Derived.OrdersIn
import Derived.Deep.AppendSrc
import Derived.Laws.IdiomStrings
import Derived.MapKept
import Derived.Laws.MakeOwn
import Derived.Laws.BytesString
import Derived.Laws.Slices
import Derived.Laws.RangeAny
import Derived.Lib.Bytealg
import Derived.ProofKit
import Derived.OpenShut
import Derived.Carry
import Derived.JoinedCond
import Derived.Test.YtebfjdolgchgaaaRows
namespace Go.Fw
open Go
set_option linter.unusedVariables false
set_option linter.unusedSimpArgs false

def Fw (ro : Option Nat) : Fence := { fn := fun _ => True, depth := none, alive := false, round := ro }


theorem room_all (ro : Option Nat) (n : Nat) : (Fw ro).room n := fun _ h => by simp [Fw] at h

def Ret (P : Program) (f : FuncId) (args : Array Value) (w : World) (R : Value → World → Prop) : Prop :=
 CallsIn (Fw none) 0 P f args w fun e w' => ∃ v, e = .returned v ∧ R v w'

def Rnd (P : Program) (l : Nat) (f : FuncId) (tmps : Array Value) (assign body : Code) (w : World) (R : Value → World → Prop) : Prop :=
 RoundIn (Fw none) 0 P l f tmps assign body w fun e w' => ∃ v, e = .returned v ∧ R v w'

theorem Ret.mono {P : Program} {f : FuncId} {args : Array Value} {w : World} {R R' : Value → World → Prop} (h : Ret P f args w R)
  (hr : ∀ v w', R v w' → R' v w') : Ret P f args w R' := CallsIn.mono h fun _ _ ⟨v, he, hR⟩ => ⟨v, he, hr _ _ hR⟩

theorem Rnd.mono {P : Program} {l : Nat} {f : FuncId} {tmps : Array Value} {assign body : Code} {w : World} {R R' : Value → World → Prop} (h : Rnd P l f tmps assign body w R)
  (hr : ∀ v w', R v w' → R' v w') : Rnd P l f tmps assign body w R' := RoundIn.mono h fun _ _ ⟨v, he, hR⟩ => ⟨v, he, hr _ _ hR⟩

def nextR (P : Program) : Result Next → (Value → World → Prop) → Prop
 | .ok (.value v) w', R => R v w'
 | .ok .skip w', R => R undef w'
 | .ok (.enter f args) w', R => Ret P f args w' R
 | .ok (.round l f tmps asg bd) w', R => Rnd P l f tmps asg bd w' R
 | _, _ => False

theorem nextR_mono {P : Program} {r : Result Next} {R R' : Value → World → Prop} (h : nextR P r R) (hr : ∀ v w', R v w' → R' v w') : nextR P r R' := by
 cases r with
 | ok x w' => cases x <;> simp only [nextR] at h ⊢ <;> first | exact hr _ _ h | exact h.mono hr | exact h
 | halt x w' => simp only [nextR] at h

def OpR (P : Program) (o : Oper) (ρ : Operand → Value) (w : World) (R : Value → World → Prop) : Prop :=
 nextR P ((execOp ρ o).run P w) R

def plainOp (o : Oper) : Bool := match o.op with | .defer _ | .select .. => false | _ => true
theorem plainOp_noDefer {o : Oper} (h : plainOp o = true) : ∀ c, o.op ≠ .defer c := fun c e => by simp [plainOp, e] at h
theorem plainOp_noSelect {o : Oper} (h : plainOp o = true) : ∀ cs b, o.op ≠ .select cs b := fun c b e => by simp [plainOp, e] at h

theorem wpIn_of_OpR {P : Program} {ro : Option Nat} {o : Oper} {a : Act} {w : World} {K : Act → World → Prop} {Q : Exit → Act → World → Prop} (ho : plainOp o = true)
  (h : OpR P o a.eval w fun v w' => K (a.put o.dst v) w') : o.wpIn (Fw ro) 0 P a w K Q := by
 refine ⟨fun _ _ => trivial, ?_⟩
 rw [Oper.semAt_eq _ _ _ (plainOp_noDefer ho)]
 unfold OpR at h
 generalize (execOp a.eval o).run P w = r at h ⊢
 cases r with
 | ok x w' =>
  cases x <;> simp only [nextR] at h <;> simp only [Oper.uponIn]
  case value v => exact h
  case skip => exact h
  case enter f args =>
   refine ⟨fun hd => by simp [Fw] at hd, ?_⟩
   have h' : CallsIn (Fw ro) 0 P f args w' _ := h
   exact h'.mono fun e w'' ⟨v, he, hR⟩ => by subst he; exact hR
  case round l f tmps asg bd =>
   refine ⟨fun hd => by simp [Fw] at hd, ?_⟩
   have h' : RoundIn (Fw ro) 0 P l f tmps asg bd w' _ := h
   exact h'.mono fun e w'' ⟨v, he, hR⟩ => by subst he; exact hR
 | halt x w' => simp only [nextR] at h

/-! Short names of rules for bools. -/
section
variable {p : Prop} [Decidable p] {b b' : Bool} {α : Type _} [BEq α] [LawfulBEq α] {x y : α} {i j : Int}
theorem sA : (decide p = true) = p := decide_eq_true_eq
theorem sB : decide p = false ↔ ¬p := decide_eq_false_iff_not
theorem sC : (!b) = true ↔ b = false := by cases b <;> simp
theorem sD : (!b) = false ↔ b = true := by cases b <;> simp
theorem sE : (x == y) = true ↔ x = y := beq_iff_eq
theorem sF : (x != y) = true ↔ x ≠ y := bne_iff_ne
theorem sG {α : Sort _} {x y : α} : (x ≠ y) = ¬(x = y) := ne_eq x y
theorem sH {a b : Bool} : (!a) = b ↔ a = !b := Bool.not_eq_eq_eq_not
theorem sI : (!true) = false := rfl
theorem sJ : (!false) = true := rfl
theorem sM : (!!b) = b := Bool.not_not b
theorem sN {α : Type _} [LT α] {x y : α} : x > y ↔ y < x := Iff.rfl
theorem sO {α : Type _} [LE α] {x y : α} : x ≥ y ↔ y ≤ x := Iff.rfl
theorem sK : (x == y) = false ↔ x ≠ y := beq_eq_false_iff_ne
theorem sL : (x != y) = false ↔ x = y := bne_eq_false_iff_eq
end

section sched
variable {P : Program} {ops : Array Oper} {Q : Act → World → Prop} {md : Region.Mode}

def stA (P : Program) (ops : Array Oper) (i : Nat) (K : Act → World → Prop) (a : Act) (w : World) : Prop :=
 match ops[i]? with
 | none => False
 | some o => if Region.wanted o (yielded ops a.tmps) then OpR P o a.eval w (fun v w' => K (a.put o.dst v) w') else K (a.put o.dst undef) w

theorem stA_mono {i : Nat} {a : Act} {w : World} {K K' : Act → World → Prop} (h : ∀ a w, K a w → K' a w) (hh : stA P ops i K a w) : stA P ops i K' a w := by
 unfold stA at *
 split
 ·rename_i ho; simp only [ho] at hh
 ·rename_i o ho
  simp only [ho] at hh
  split
  ·rename_i hw; simp only [hw, if_true] at hh; exact nextR_mono hh fun v w' => h _ _
  ·rename_i hw; simp only [hw] at hh; exact h _ _ hh

def plainAll (ops : Array Oper) : Bool := ops.all plainOp
theorem plainAll_spec (h : plainAll ops = true) {i : Nat} {o : Oper} (hi : ops[i]? = some o) : plainOp o = true := by
 unfold plainAll at h
 rw [Array.all_eq_true_iff_forall_mem] at h
 exact h o (Array.mem_of_getElem? hi)

theorem wpOpIn_of_stA (hp : plainAll ops = true) {ro : Option Nat} {i : Nat} {a : Act} {w : World} {K : Act → World → Prop} {Q : Exit → Act → World → Prop} (h : stA P ops i K a w) : wpOpIn (Fw ro) 0 P ops Q i K a w := by
 unfold stA at h
 unfold wpOpIn
 split
 ·rename_i ho; simp only [ho] at h
 ·rename_i o ho
  simp only [ho] at h
  split
  ·rename_i hw; simp only [hw, if_true] at h; exact wpIn_of_OpR (plainAll_spec hp ho) h
  ·rename_i hw; simp only [hw] at h; exact ⟨fun _ _ => trivial, h⟩

structure Watch where
 i : Nat
 s : Sem Next
 v : Value

def anc (B : Array Nat) (i j : Nat) : Bool := (B.getD j 0).testBit i

def ancOK (md : Region.Mode) (ops : Array Oper) (B : Array Nat) : Bool :=
 (List.range ops.size).all fun j => (List.range ops.size).all fun i => !anc B i j ||
  ((ops[j]?).map (·.after.any fun e => Region.binds md e && decide (e.on < j) && (e.on == i || anc B i e.on))).getD false

def anyT (P : Program) (md : Region.Mode) (ops : Array Oper) (B : Array Nat) (Q : Act → World → Prop) : Nat → Array Bool → List Watch → Act → World → Prop
 | 0, listed, _, a, w => Region.ready md ops listed = [] ∧ Q a w
 | fuel + 1, listed, T, a, w =>
  (Region.ready md ops listed = [] → Q a w) ∧
  ∀ i ∈ Region.ready md ops listed, stA P ops i (fun a' w' => (w' = w ∨ ∀ x ∈ T, anc B x.i i = true ∨ x.s.run P w' = .ok (.value x.v) w') ∧ anyT P md ops B Q fuel (listed.setIfInBounds i true) T a' w') a w

theorem wpAnyIn_of_anyT (hp : plainAll ops = true) {B : Array Nat} {ro : Option Nat} {Q' : Exit → Act → World → Prop} (hQ : ∀ a w, Q a w → Q' .normal a w) : ∀ (fuel : Nat) (listed : Array Bool) (T : List Watch) (a : Act) (w : World),
  anyT P md ops B Q fuel listed T a w → wpAnyIn (Fw ro) 0 P md ops Q' fuel listed a w
 | 0, _, _, _, _, h => ⟨h.1, hQ _ _ h.2⟩
 | fuel + 1, _, T, _, _, h => ⟨fun h0 => hQ _ _ (h.1 h0), fun i hi => wpOpIn_of_stA hp (stA_mono (fun a' w' h' => wpAnyIn_of_anyT hp hQ fuel _ T a' w' h'.2) (h.2 i hi))⟩

theorem anyT_sub {B : Array Nat} {T T' : List Watch} (hT : ∀ x ∈ T', x ∈ T) : ∀ (fuel : Nat) (listed : Array Bool) (a : Act) (w : World),
  anyT P md ops B Q fuel listed T a w → anyT P md ops B Q fuel listed T' a w
 | 0, _, _, _, h => h
 | fuel + 1, _, _, _, h => ⟨h.1, fun i hi => stA_mono (fun a' w' h' => ⟨h'.1.imp id (fun h2 x hx => h2 x (hT x hx)), anyT_sub hT fuel _ a' w' h'.2⟩) (h.2 i hi)⟩

def YAt (P : Program) (ops : Array Oper) (w : World) (o : Oper) (v : Value) (a : Act) : Prop :=
 (Region.wanted o (yielded ops a.tmps) = true ∧ (execOp a.eval o).run P w = .ok (.value v) w) ∨
 (Region.wanted o (yielded ops a.tmps) = false ∧ v = undef)

theorem YAt.stA {i : Nat} {o : Oper} {v : Value} {a : Act} {w : World} (hi : ops[i]? = some o) (hy : YAt P ops w o v a) {K : Act → World → Prop} (h : K (a.put o.dst v) w) : stA P ops i K a w := by
 unfold Fw.stA
 simp only [hi]
 rcases hy with ⟨hw, hv⟩ | ⟨hw, rfl⟩
 ·simp only [hw, if_true, OpR, hv, nextR]; exact h
 ·simp only [hw, Bool.false_eq_true, if_false]; exact h

theorem stA_put {j : Nat} {oi oj : Oper} {v : Value} (hj : ops[j]? = some oj) (hap : oi.apart ops oj = true) (hsj : ∀ cs b, oj.op ≠ .select cs b)
  (hsi : ∀ cs b, oi.op ≠ .select cs b) {K : Act → World → Prop} {a : Act} {w : World} (h : stA P ops j K (a.put oi.dst v) w) :
  stA P ops j (fun a' w' => (execOp a'.eval oi = execOp a.eval oi ∧ Region.wanted oi (yielded ops a'.tmps) = Region.wanted oi (yielded ops a.tmps)) ∧ K (a'.put oi.dst v) w') a w := by
 obtain ⟨h1, h2, h3⟩ := Oper.apart_spec hap
 unfold stA at *
 simp only [hj] at *
 rw [wanted_put oj a oi.dst v h1] at h
 split
 ·rename_i hw
  simp only [hw, if_true] at h
  unfold OpR at *
  rw [execOp_put oj hsj a oi.dst v h1] at h
  exact nextR_mono h fun u w' hK => ⟨⟨execOp_put oi hsi a oj.dst u h3, wanted_put oi a oj.dst u h3⟩, by rw [← Act.put_comm a v u h2]; exact hK⟩
 ·rename_i hw
  simp only [hw] at h
  exact ⟨⟨execOp_put oi hsi a oj.dst undef h3, wanted_put oi a oj.dst undef h3⟩, by rw [← Act.put_comm a v undef h2]; exact h⟩

def closed (md : Region.Mode) (ops : Array Oper) (listed : Array Bool) : Prop :=
 ∀ j o, ops[j]? = some o → listed.getD j false = true → ∀ e ∈ o.after, Region.binds md e = true → listed.getD e.on false = true

theorem closed_set {listed : Array Bool} {j : Nat} (hc : closed md ops listed) (hj : j ∈ Region.ready md ops listed) : closed md ops (listed.setIfInBounds j true) := by
 intro k o hk hl e he hb
 obtain ⟨_, oj, hoj, hall⟩ := mem_ready.1 hj
 by_cases hkj : j = k
 ·subst hkj
  rw [hoj] at hk
  cases hk
  exact getD_set_true (hall e he hb)
 ·rw [getD_set_ne false hkj] at hl
  exact getD_set_true (hc k o hk hl e he hb)

theorem anc_listed {B : Array Nat} (hB : ancOK md ops B = true) {listed : Array Bool} (hc : closed md ops listed) {i : Nat} (hi : i < ops.size) : ∀ (j : Nat) (o : Oper), ops[j]? = some o →
  (∀ e ∈ o.after, Region.binds md e = true → listed.getD e.on false = true) → anc B i j = true → listed.getD i false = true := by
 intro j
 induction j using Nat.strongRecOn with
 | _ j ih =>
  intro o hj hall ha
  have hlt : j < ops.size := (Array.getElem?_eq_some_iff.1 hj).1
  have h1 := List.all_eq_true.1 (List.all_eq_true.1 hB j (List.mem_range.2 hlt)) i (List.mem_range.2 hi)
  simp only [ha, hj, Bool.not_true, Bool.false_or, Option.map_some, Option.getD_some] at h1
  obtain ⟨e, he, h2⟩ := Array.any_eq_true'.1 h1
  simp only [Bool.and_eq_true, Bool.or_eq_true, decide_eq_true_eq, beq_iff_eq] at h2
  obtain ⟨⟨hb, hlt'⟩, h3⟩ := h2
  have hl := hall e he hb
  rcases h3 with h3 | h3
  ·exact h3 ▸ hl
  ·obtain ⟨oe, hoe⟩ : ∃ oe, ops[e.on]? = some oe := ⟨ops[e.on]'(by omega), Array.getElem?_eq_getElem (by omega)⟩
   exact ih e.on hlt' oe hoe (hc e.on oe hoe hl) h3

def addW (ops : Array Oper) (o : Oper) (a : Act) (i : Nat) (v : Value) (T : List Watch) : List Watch := if Region.wanted o (yielded ops a.tmps) then ⟨i, execOp a.eval o, v⟩ :: T else T
theorem mem_addW {o : Oper} {a : Act} {i : Nat} {v : Value} {T : List Watch} {x : Watch} (h : x ∈ T) : x ∈ addW ops o a i v T := by unfold addW; split <;> simp [h]

theorem first_T {B : Array Nat} (hB : ancOK md ops B = true) (hp : plainAll ops = true) {i : Nat} {oi : Oper} {v : Value} (hi : ops[i]? = some oi) :
  ∀ (fuel : Nat) (listed : Array Bool) (T : List Watch) (a : Act) (w : World),
   (∀ j oj, ops[j]? = some oj → j ≠ i → listed.getD j true = false → (∀ e ∈ oj.after, Region.binds md e = true → e.on ≠ i) → oi.apart ops oj = true) →
   closed md ops listed → i ∈ Region.ready md ops listed → YAt P ops w oi v a →
   anyT P md ops B Q fuel (listed.setIfInBounds i true) (addW ops oi a i v T) (a.put oi.dst v) w → anyT P md ops B Q (fuel + 1) listed T a w := by
 have hlt : i < ops.size := (Array.getElem?_eq_some_iff.1 hi).1
 intro fuel
 induction fuel with
 | zero =>
  intro listed T a w _ _ hr hy H
  refine ⟨fun h => (by rw [h] at hr; cases hr), fun j hj => ?_⟩
  by_cases hji : j = i
  ·subst hji; exact hy.stA hi ⟨.inl rfl, anyT_sub (fun x hx => mem_addW hx) _ _ _ _ H⟩
  ·have := ready_mono hj hji
   rw [H.1] at this
   cases this
 | succ fuel ih =>
  intro listed T a w hfree hc hr hy H
  refine ⟨fun h => (by rw [h] at hr; cases hr), fun j hj => ?_⟩
  by_cases hji : j = i
  ·subst hji; exact hy.stA hi ⟨.inl rfl, anyT_sub (fun x hx => mem_addW hx) _ _ _ _ H⟩
  ·have h1 := H.2 j (ready_mono hj hji)
   obtain ⟨hjun, oj, hoj, hall⟩ := mem_ready.1 hj
   have hiun : listed.getD i true = false := (mem_ready.1 hr).1
   have hiun' : listed.getD i false = true → False := fun h1 => by
    rcases Nat.lt_or_ge i listed.size with h' | h'
    ·simp [h'] at hiun h1; rw [hiun] at h1; cases h1
    ·simp [Array.getElem?_eq_none h'] at h1
   have hnot : ∀ e ∈ oj.after, Region.binds md e = true → e.on ≠ i := fun e he hb heq => hiun' (heq ▸ hall e he hb)
   have h2 := stA_put hoj (hfree j oj hoj hji hjun hnot) (plainOp_noSelect (plainAll_spec hp hoj)) (plainOp_noSelect (plainAll_spec hp hi)) h1
   have hfree' : ∀ k ok, ops[k]? = some ok → k ≠ i → (listed.setIfInBounds j true).getD k true = false →
     (∀ e ∈ ok.after, Region.binds md e = true → e.on ≠ i) → oi.apart ops ok = true := fun k ok hk hki hun hno => by
    refine hfree k ok hk hki ?_ hno
    by_cases hjk : j = k
    ·subst hjk; exact hjun
    ·rw [getD_set_ne true hjk] at hun; exact hun
   refine stA_mono (fun a' w' h3 => ?_) h2
   obtain ⟨⟨he, hw⟩, hobl, hgo⟩ := h3
   refine ⟨hobl.imp id (fun h x hx => h x (mem_addW hx)), ih (listed.setIfInBounds j true) T a' w' hfree' (closed_set hc hj) (ready_mono hr (Ne.symm hji)) ?_ ?_⟩
   ·unfold YAt at hy ⊢
    rw [hw, he]
    rcases hy with ⟨y1, y2⟩ | hy
    ·refine .inl ⟨y1, ?_⟩
     rcases hobl with rfl | hobl
     ·exact y2
     ·rcases hobl ⟨i, execOp a.eval oi, v⟩ (by simp [addW, y1]) with h4 | h4
      ·exact (hiun' (anc_listed hB hc hlt j oj hoj hall h4)).elim
      ·exact h4
    ·exact .inr hy
   ·rw [Array.setIfInBounds_comm _ _ hji]
    have e1 : addW ops oi a' i v T = addW ops oi a i v T := by unfold addW; rw [he, hw]
    rw [e1]
    exact hgo

def segFrom (md : Region.Mode) (ops : Array Oper) (k : Array Bool → Bool) : List (Nat × Bool) → Array Bool → Bool
 | [], listed => k listed
 | (i, m) :: s, listed =>
  (match ops[i]? with
   | none => false
   | some _ => if m then Region.ready md ops listed == [i] else (Region.ready md ops listed).contains i && Region.free md ops listed i) &&
  segFrom md ops k s (listed.setIfInBounds i true)

inductive Tr where
 | leaf (s : List (Nat × Bool))
 | two (s : List (Nat × Bool)) (i : Nat) (p1 : List (Nat × Bool)) (j : Nat) (p2 : List (Nat × Bool)) (t : Tr)
 | par (s : List (Nat × Bool)) (i : Nat) (t1 : Tr) (j : Nat) (t2 : Tr)
 | tri (s : List (Nat × Bool)) (i : Nat) (t1 : Tr) (j : Nat) (t2 : Tr) (k : Nat) (t3 : Tr)

def Tr.len : Tr → Nat
 | .leaf s => s.length
 | .two s _ p1 _ p2 t => (t.len + Nat.max p1.length p2.length + 1) + s.length
 | .par s _ t1 _ t2 => (Nat.max t1.len t2.len + 1) + s.length
 | .tri s _ t1 _ t2 _ t3 => (Nat.max t1.len (Nat.max t2.len t3.len) + 1) + s.length

def treeFrom (md : Region.Mode) (ops : Array Oper) : Tr → Array Bool → Bool
 | .leaf s, l => segFrom md ops (fun l => (Region.ready md ops l).isEmpty) s l
 | .two s i p1 j p2 t, l => segFrom md ops (fun l => Region.ready md ops l == [i, j] && (ops[i]?).isSome && (ops[j]?).isSome && segFrom md ops (treeFrom md ops t) p1 (l.setIfInBounds i true) && segFrom md ops (treeFrom md ops t) p2 (l.setIfInBounds j true)) s l
 | .par s i t1 j t2, l => segFrom md ops (fun l => Region.ready md ops l == [i, j] && (ops[i]?).isSome && (ops[j]?).isSome && treeFrom md ops t1 (l.setIfInBounds i true) && treeFrom md ops t2 (l.setIfInBounds j true)) s l
 | .tri s i t1 j t2 k t3, l => segFrom md ops (fun l => Region.ready md ops l == [i, j, k] && treeFrom md ops t1 (l.setIfInBounds i true) && treeFrom md ops t2 (l.setIfInBounds j true) && treeFrom md ops t3 (l.setIfInBounds k true)) s l

def treeOK (ops : Array Oper) (B : Array Nat) (t : Tr) : Bool :=
 plainAll ops && ancOK .any ops B && Nat.ble t.len ops.size && treeFrom .any ops t (Array.replicate ops.size false)
def schedOK (ops : Array Oper) (B : Array Nat) (s : List (Nat × Bool)) : Bool := treeOK ops B (.leaf s)

def runS (P : Program) (ops : Array Oper) (B : Array Nat) (Q : List Watch → Act → World → Prop) : List (Nat × Bool) → List Watch → Act → World → Prop
 | [], T, a, w => Q T a w
 | (i, m) :: s, T, a, w => ∃ o, ops[i]? = some o ∧
  if m then stA P ops i (fun a' w' => (w' = w ∨ ∀ x ∈ T, anc B x.i i = true ∨ x.s.run P w' = .ok (.value x.v) w') ∧ runS P ops B Q s T a' w') a w
  else ∃ v, YAt P ops w o v a ∧ runS P ops B Q s (addW ops o a i v T) (a.put o.dst v) w

def runT (P : Program) (ops : Array Oper) (B : Array Nat) (Q : Act → World → Prop) : Tr → List Watch → Act → World → Prop
 | .leaf s, T, a, w => runS P ops B (fun _ a w => Q a w) s T a w
 | .two s i p1 j p2 t, T, a, w => runS P ops B (fun T a w => runS P ops B (runT P ops B Q t) ((i, true) :: p1) T a w ∧ runS P ops B (runT P ops B Q t) ((j, true) :: p2) T a w) s T a w
 | .par s i t1 j t2, T, a, w => runS P ops B (fun T a w => runS P ops B (runT P ops B Q t1) [(i, true)] T a w ∧ runS P ops B (runT P ops B Q t2) [(j, true)] T a w) s T a w
 | .tri s i t1 j t2 k t3, T, a, w => runS P ops B (fun T a w => runS P ops B (runT P ops B Q t1) [(i, true)] T a w ∧ runS P ops B (runT P ops B Q t2) [(j, true)] T a w ∧ runS P ops B (runT P ops B Q t3) [(k, true)] T a w) s T a w

theorem anyT_of_runS {B : Array Nat} {R : List Watch → Act → World → Prop} {k : Array Bool → Bool} {m0 : Nat} (hB : ancOK md ops B = true) (hp : plainAll ops = true)
  (hk : ∀ listed T a w, closed md ops listed → k listed = true → R T a w → anyT P md ops B Q m0 listed T a w) : ∀ (s : List (Nat × Bool)) (listed : Array Bool) (T : List Watch) (a : Act) (w : World),
  closed md ops listed → segFrom md ops k s listed = true → runS P ops B R s T a w → anyT P md ops B Q (m0 + s.length) listed T a w
 | [], _, _, _, _, hc, hs, h => hk _ _ _ _ hc hs h
 | (i, m) :: s, listed, T, a, w, hc, hs, h => by
  obtain ⟨o, ho, h⟩ := h
  simp only [segFrom, ho, Bool.and_eq_true] at hs
  obtain ⟨hs1, hs2⟩ := hs
  by_cases hm : m = true
  ·simp only [hm, if_true, beq_iff_eq] at hs1 h
   refine ⟨fun h0 => (by rw [hs1] at h0; cases h0), fun j hj => ?_⟩
   have hj' := hj
   rw [hs1, List.mem_singleton] at hj'
   subst hj'
   exact stA_mono (fun a' w' h' => ⟨h'.1, anyT_of_runS hB hp hk s _ T a' w' (closed_set hc hj) hs2 h'.2⟩) h
  ·simp only [hm, Bool.false_eq_true, if_false, Bool.and_eq_true] at hs1 h
   obtain ⟨v, hy, h⟩ := h
   have hr : i ∈ Region.ready md ops listed := by simpa using hs1.1
   exact first_T hB hp ho (m0 + s.length) listed T a w (Region.free_spec ho hs1.2) hc hr hy (anyT_of_runS hB hp hk s _ _ _ _ (closed_set hc hr) hs2 h)

theorem closed_none (n : Nat) : closed md ops (Array.replicate n false) := by
 intro j o _ hl
 exfalso
 simp [Array.getElem?_replicate] at hl
 split at hl <;> simp at hl

theorem anyT_more {B : Array Nat} : ∀ (k : Nat) (fuel : Nat) (listed : Array Bool) (T : List Watch) (a : Act) (w : World), anyT P md ops B Q fuel listed T a w → anyT P md ops B Q (fuel + k) listed T a w := by
 intro k fuel
 induction fuel with
 | zero =>
  intro listed T a w h
  cases k with
  | zero => exact h
  | succ k => rw [Nat.zero_add]; exact ⟨fun _ => h.2, by rw [h.1]; simp⟩
 | succ fuel ih =>
  intro listed T a w h
  rw [Nat.succ_add]
  exact ⟨h.1, fun i hi => stA_mono (fun a' w' h' => ⟨h'.1, ih _ T a' w' h'.2⟩) (h.2 i hi)⟩

theorem anyT_le {B : Array Nat} {m m' : Nat} (hm : m ≤ m') {listed : Array Bool} {T : List Watch} {a : Act} {w : World} (h : anyT P md ops B Q m listed T a w) : anyT P md ops B Q m' listed T a w := by
 have := anyT_more (m' - m) _ _ _ _ _ h
 rwa [show m + (m' - m) = m' from by omega] at this

theorem anyT_of_runT {B : Array Nat} (hB : ancOK md ops B = true) (hp : plainAll ops = true) : ∀ (t : Tr) (listed : Array Bool) (T : List Watch) (a : Act) (w : World),
  closed md ops listed → treeFrom md ops t listed = true → runT P ops B Q t T a w → anyT P md ops B Q t.len listed T a w
 | .leaf s, listed, T, a, w, hc, hs, h => by
  simp only [runT] at h
  simp only [treeFrom] at hs
  simp only [Tr.len]
  have := anyT_of_runS (R := fun _ a w => Q a w) (m0 := 0) hB hp (k := fun l => (Region.ready md ops l).isEmpty) (fun listed T a w _ hk h => ⟨by simpa using hk, h⟩) s listed T a w hc hs h
  rwa [Nat.zero_add] at this
 | .two s i p1 j p2 t, listed, T, a, w, hc, hs, h => by
  simp only [runT] at h
  simp only [treeFrom] at hs
  simp only [Tr.len]
  refine anyT_of_runS (R := fun T a w => runS P ops B (runT P ops B Q t) ((i, true) :: p1) T a w ∧ runS P ops B (runT P ops B Q t) ((j, true) :: p2) T a w) (m0 := t.len + Nat.max p1.length p2.length + 1) hB hp
   (k := fun l => Region.ready md ops l == [i, j] && (ops[i]?).isSome && (ops[j]?).isSome && segFrom md ops (treeFrom md ops t) p1 (l.setIfInBounds i true) && segFrom md ops (treeFrom md ops t) p2 (l.setIfInBounds j true)) (fun listed T a w hc hk h => by
    simp only [Bool.and_eq_true, beq_iff_eq] at hk
    obtain ⟨⟨⟨⟨hr, h1⟩, h2⟩, h3⟩, h4⟩ := hk
    refine ⟨fun h0 => (by rw [hr] at h0; cases h0), fun q hq => ?_⟩
    obtain ⟨⟨o1, ho1, g1⟩, o2, ho2, g2⟩ := h
    simp only [if_true] at g1 g2
    have key : ∀ (p : List (Nat × Bool)) (l : Array Bool) T a w, p.length ≤ Nat.max p1.length p2.length → closed md ops l → segFrom md ops (treeFrom md ops t) p l = true → runS P ops B (runT P ops B Q t) p T a w → anyT P md ops B Q (t.len + Nat.max p1.length p2.length) l T a w := fun p l T a w hle hcl hsl hrl =>
     anyT_le (Nat.add_le_add_left hle _) (anyT_of_runS (R := runT P ops B Q t) (m0 := t.len) hB hp (fun l T a w hc hk h => anyT_of_runT hB hp t l T a w hc hk h) p l T a w hcl hsl hrl)
    have hq' := hq
    rw [hr] at hq'
    rcases List.mem_cons.1 hq' with rfl | hq'
    ·exact stA_mono (fun a' w' h' => ⟨h'.1, key p1 _ T a' w' (Nat.le_max_left _ _) (closed_set hc hq) h3 h'.2⟩) g1
    ·rw [List.mem_singleton] at hq'
     subst hq'
     exact stA_mono (fun a' w' h' => ⟨h'.1, key p2 _ T a' w' (Nat.le_max_right _ _) (closed_set hc hq) h4 h'.2⟩) g2) s listed T a w hc hs h
 | .par s i t1 j t2, listed, T, a, w, hc, hs, h => by
  simp only [runT] at h
  simp only [treeFrom] at hs
  simp only [Tr.len]
  refine anyT_of_runS (R := fun T a w => runS P ops B (runT P ops B Q t1) [(i, true)] T a w ∧ runS P ops B (runT P ops B Q t2) [(j, true)] T a w) (m0 := Nat.max t1.len t2.len + 1) hB hp
   (k := fun l => Region.ready md ops l == [i, j] && (ops[i]?).isSome && (ops[j]?).isSome && treeFrom md ops t1 (l.setIfInBounds i true) && treeFrom md ops t2 (l.setIfInBounds j true)) (fun listed T a w hc hk h => by
    simp only [Bool.and_eq_true, beq_iff_eq] at hk
    obtain ⟨⟨⟨⟨hr, h1⟩, h2⟩, h3⟩, h4⟩ := hk
    refine ⟨fun h0 => (by rw [hr] at h0; cases h0), fun q hq => ?_⟩
    obtain ⟨⟨o1, ho1, g1⟩, o2, ho2, g2⟩ := h
    simp only [if_true] at g1 g2
    have hq' := hq
    rw [hr] at hq'
    rcases List.mem_cons.1 hq' with rfl | hq'
    ·exact stA_mono (fun a' w' h' => ⟨h'.1, anyT_le (Nat.le_max_left _ _) (anyT_of_runT hB hp t1 _ T a' w' (closed_set hc hq) h3 h'.2)⟩) g1
    ·rw [List.mem_singleton] at hq'
     subst hq'
     exact stA_mono (fun a' w' h' => ⟨h'.1, anyT_le (Nat.le_max_right _ _) (anyT_of_runT hB hp t2 _ T a' w' (closed_set hc hq) h4 h'.2)⟩) g2) s listed T a w hc hs h
 | .tri s i t1 j t2 k t3, listed, T, a, w, hc, hs, h => by
  simp only [runT] at h
  simp only [treeFrom] at hs
  simp only [Tr.len]
  refine anyT_of_runS (R := fun T a w => runS P ops B (runT P ops B Q t1) [(i, true)] T a w ∧ runS P ops B (runT P ops B Q t2) [(j, true)] T a w ∧ runS P ops B (runT P ops B Q t3) [(k, true)] T a w) (m0 := Nat.max t1.len (Nat.max t2.len t3.len) + 1) hB hp
   (k := fun l => Region.ready md ops l == [i, j, k] && treeFrom md ops t1 (l.setIfInBounds i true) && treeFrom md ops t2 (l.setIfInBounds j true) && treeFrom md ops t3 (l.setIfInBounds k true)) (fun listed T a w hc hk h => by
    simp only [Bool.and_eq_true, beq_iff_eq] at hk
    obtain ⟨⟨⟨hr, h3⟩, h4⟩, h5⟩ := hk
    refine ⟨fun h0 => (by rw [hr] at h0; cases h0), fun q hq => ?_⟩
    obtain ⟨⟨o1, ho1, g1⟩, ⟨o2, ho2, g2⟩, o3, ho3, g3⟩ := h
    simp only [if_true] at g1 g2 g3
    have hq' := hq
    rw [hr] at hq'
    rcases List.mem_cons.1 hq' with rfl | hq'
    ·exact stA_mono (fun a' w' h' => ⟨h'.1, anyT_le (Nat.le_max_left _ _) (anyT_of_runT hB hp t1 _ T a' w' (closed_set hc hq) h3 h'.2)⟩) g1
    rcases List.mem_cons.1 hq' with rfl | hq'
    ·exact stA_mono (fun a' w' h' => ⟨h'.1, anyT_le (Nat.le_trans (Nat.le_max_left _ _) (Nat.le_max_right _ _)) (anyT_of_runT hB hp t2 _ T a' w' (closed_set hc hq) h4 h'.2)⟩) g2
    ·rw [List.mem_singleton] at hq'
     subst hq'
     exact stA_mono (fun a' w' h' => ⟨h'.1, anyT_le (Nat.le_trans (Nat.le_max_right _ _) (Nat.le_max_right _ _)) (anyT_of_runT hB hp t3 _ T a' w' (closed_set hc hq) h5 h'.2)⟩) g3) s listed T a w hc hs h

theorem region_tree {id : Nat} {ro : Option Nat} {B : Array Nat} {t : Tr} {a : Act} {w : World} {Q' : Exit → Act → World → Prop} (hm : P.follows .mixedOrders = true)
  (hs : treeOK ops B t = true) (h : runT P ops B (Q' .normal) t [] a { w with drawn := w.drawn + 1 }) : (Code.region id ops true).wpIn (Fw ro) 0 P Q' a w := by
 simp only [treeOK, Bool.and_eq_true] at hs
 obtain ⟨⟨⟨hp, hB⟩, hl⟩, hs⟩ := hs
 have hl := Nat.le_of_ble_eq_true hl
 refine wpIn_region_any hm ?_
 exact wpAnyIn_of_anyT hp (fun _ _ h => h) _ _ _ _ _ (anyT_le hl (anyT_of_runT hB hp t _ [] a _ (closed_none _) hs h))

def runL (P : Program) (ops : Array Oper) (Q : Act → World → Prop) : List (Nat × Bool) → Act → World → Prop
 | [], a, w => Q a w
 | (i, _) :: s, a, w => stA P ops i (runL P ops Q s) a w

def plainOK (ops : Array Oper) (s : List (Nat × Bool)) : Bool := plainAll ops && (s.map (·.1) == List.range ops.size)

theorem region_plain {id : Nat} {ro : Option Nat} {s : List (Nat × Bool)} {a : Act} {w : World} {Q' : Exit → Act → World → Prop} (hs : plainOK ops s = true)
  (h : runL P ops (Q' .normal) s a w) : (Code.region id ops false).wpIn (Fw ro) 0 P Q' a w := by
 simp only [plainOK, Bool.and_eq_true, beq_iff_eq] at hs
 obtain ⟨hp, hs⟩ := hs
 refine wpIn_region ?_
 rw [← hs]
 revert h
 clear hs
 induction s generalizing a w with
 | nil => exact fun h => h
 | cons i s ih =>
  intro h
  obtain ⟨i, m⟩ := i
  rw [List.map_cons, wpOpsIn_cons]
  exact wpOpIn_of_stA hp (stA_mono (fun a' w' h' => ih h') h)
end sched
end Go.Fw

namespace Go.Fw
open Go
set_option linter.unusedVariables false
set_option linter.unusedSimpArgs false

abbrev Env := List (Nat × Value)

def look : Env → Nat → Option Value
 | [], _ => none
 | (s, v) :: r, t => bif Nat.beq s t then some v else look r t

def ev? (F : Env) : Operand → Option Value
 | .tmp t => look F t
 | .const v => some v
 | .global g => some (.pointer (some ⟨g, 0, none⟩))
 | .func f => some (.func (.func f) #[] #[])

def evs? (F : Env) : List Operand → Option (List Value)
 | [] => some []
 | x :: r => match ev? F x, evs? F r with
  | some v, some vs => some (v :: vs)
  | _, _ => none

structure Knows (n : Nat) (F : Env) (ds : List Deferred) (a : Act) : Prop where
 size : a.tmps.size = n
 defers : a.defers = ds
 slot : ∀ t v, look F t = some v → a.tmps[t]? = some v

theorem Knows.eval {n : Nat} {F : Env} {ds : List Deferred} {a : Act} (h : Knows n F ds a) {x : Operand} {v : Value} (hx : ev? F x = some v) : a.eval x = v := by
 cases x with
 | tmp t => have := h.slot t v hx; simp [Act.eval, this]
 | const c => simp [ev?] at hx; simp [Act.eval, hx]
 | global g => simp [ev?] at hx; simp [Act.eval, hx]
 | func f => simp [ev?] at hx; simp [Act.eval, hx]

theorem Knows.evals {n : Nat} {F : Env} {ds : List Deferred} {a : Act} (h : Knows n F ds a) : ∀ {l : List Operand} {vs : List Value}, evs? F l = some vs → l.map a.eval = vs
 | [], vs, hx => by simp [evs?] at hx; simp [hx]
 | x :: r, vs, hx => by
  unfold evs? at hx
  split at hx
  ·rename_i v vs' h1 h2
   simp only [Option.some.injEq] at hx
   subst hx
   simp [h.eval h1, h.evals h2]
  ·cases hx

def putE (F : Env) (d : Option Tmp) (v : Value) : Env := match d with | some d => (d, v) :: F | none => F
def dstOK (n : Nat) (d : Option Tmp) : Bool := match d with | some d => Nat.blt d n | none => true

theorem look_put (F : Env) (d t : Nat) (v : Value) : look ((d, v) :: F) t = if d = t then some v else look F t := by
 simp only [look]
 by_cases h : d = t
 ·subst h; simp
 ·rw [if_neg h]
  cases hb : Nat.beq d t with
  | true => exact absurd (Nat.eq_of_beq_eq_true hb) h
  | false => rfl

theorem Knows.put {n : Nat} {F : Env} {ds : List Deferred} {a : Act} (h : Knows n F ds a) {d : Option Tmp} (hd : dstOK n d = true) (v : Value) : Knows n (putE F d v) ds (a.put d v) := by
 cases d with
 | none => exact h
 | some d =>
  have hlt : d < n := by simpa [dstOK, Nat.blt_eq] using hd
  refine ⟨by simp [Act.put, h.size], by simp [Act.put, h.defers], fun t u hu => ?_⟩
  simp only [putE, look_put] at hu
  by_cases hdt : d = t
  ·subst hdt
   simp only [if_true, Option.some.injEq] at hu
   subst hu
   simp [Act.put, h.size, hlt]
  ·rw [if_neg hdt] at hu
   simp only [Act.put]
   rw [Array.getElem?_setIfInBounds_ne hdt]
   exact h.slot t u hu

def guardV (ops : Array Oper) (F : Env) : Option (Nat × Bool) → Option Bool
 | none => some true
 | some (j, want) => match (ops[j]?).bind (·.dst) with
  | none => some false
  | some t => match look F t with
   | some (.bool b) => some (b == want)
   | some _ => some false
   | none => none

theorem Knows.wanted {n : Nat} {F : Env} {ds : List Deferred} {a : Act} (h : Knows n F ds a) {ops : Array Oper} {o : Oper} {b : Bool} (hg : guardV ops F o.guard = some b) :
  Region.wanted o (yielded ops a.tmps) = b := by
 unfold Region.wanted
 cases hgo : o.guard with
 | none => rw [hgo] at hg; simpa [guardV] using hg
 | some jw =>
  obtain ⟨j, want⟩ := jw
  rw [hgo] at hg
  simp only [guardV] at hg
  simp only [yielded]
  cases hd : (ops[j]?).bind (·.dst) with
  | none => rw [hd] at hg; simp only [Option.some.injEq] at hg; subst hg; rfl
  | some t =>
   rw [hd] at hg
   simp only at hg
   cases hl : look F t with
   | none => rw [hl] at hg; cases hg
   | some v =>
    have h1 := h.slot t v hl
    rw [hl] at hg
    simp only [Option.bind_some, h1]
    cases v with
    | bool c => simp only [Option.some.injEq] at hg; subst hg; cases c <;> cases want <;> rfl
    | _ => simp only [Option.some.injEq] at hg; subst hg; rfl

def Fits (P : Program) (T : List (Nat × (World → Prop))) (TW : List Watch) : Prop :=
 ∀ x ∈ TW, (∀ w', x.s.run P w' = .ok (.value x.v) w') ∨ ∃ y ∈ T, y.1 = x.i ∧ ∀ w', y.2 w' → x.s.run P w' = .ok (.value x.v) w'

def pend (B : Array Nat) (i : Nat) : List (Nat × (World → Prop)) → World → Prop
 | [], _ => True
 | y :: T, w' => (anc B y.1 i = true ∨ y.2 w') ∧ pend B i T w'

theorem pend_mem {B : Array Nat} {i : Nat} {w' : World} : ∀ {T : List (Nat × (World → Prop))}, pend B i T w' → ∀ y ∈ T, anc B y.1 i = true ∨ y.2 w'
 | [], _, y, hy => by cases hy
 | z :: T, h, y, hy => by
  rcases List.mem_cons.1 hy with rfl | hy
  ·exact h.1
  ·exact pend_mem h.2 y hy

def addT (dr : Bool) (i : Nat) (R : World → Prop) (T : List (Nat × (World → Prop))) : List (Nat × (World → Prop)) := bif dr then (i, R) :: T else T

abbrev KT := Env → List (Nat × (World → Prop)) → World → Prop

def fin (n : Nat) (ds : List Deferred) (K : KT) (a : Act) (w : World) : Prop := ∃ F', Knows n F' ds a ∧ ∀ T, K F' T w
def finT (P : Program) (n : Nat) (ds : List Deferred) (K : KT) (TW : List Watch) (a : Act) (w : World) : Prop := ∃ F' T, Knows n F' ds a ∧ Fits P T TW ∧ K F' T w

structure Ex (P : Program) (n : Nat) (ops : Array Oper) (B : Array Nat) (dr : Bool) (K : KT) (s : List (Nat × Bool)) (F : Env) (ds : List Deferred) (T : List (Nat × (World → Prop))) (w : World) : Prop where mk ::
 out : ∀ a TW, Knows n F ds a → Fits P T TW → bif dr then runS P ops B (finT P n ds K) s TW a w else runL P ops (fin n ds K) s a w
section
variable {P : Program} {n : Nat} {ops : Array Oper} {B : Array Nat} {dr : Bool} {K : KT} {s : List (Nat × Bool)} {F : Env} {ds : List Deferred} {T : List (Nat × (World → Prop))} {w : World} {i : Nat} {o : Oper}

theorem Ex.done (h : ∀ T, K F T w) : Ex P n ops B dr K [] F ds T w := Ex.mk fun a TW hk hf => by
 cases dr
 ·exact ⟨F, hk, h⟩
 ·exact ⟨F, T, hk, hf, h T⟩

theorem Ex.fork (h : K F T w) : Ex P n ops B true K [] F ds T w := Ex.mk fun a TW hk hf => ⟨F, T, hk, hf, h⟩

theorem Ex.pure_ (ho : ops[i]? = some o) (hg : guardV ops F o.guard = some true) (hd : dstOK n o.dst = true) (v : Value)
  (hy : ∀ a, Knows n F ds a → ∀ w', (execOp a.eval o).run P w' = .ok (.value v) w') (h : Ex P n ops B dr K s (putE F o.dst v) ds T w) : Ex P n ops B dr K ((i, false) :: s) F ds T w := Ex.mk fun a TW hk hf => by
 have hw := hk.wanted hg
 have hr := hy a hk
 cases dr
 ·have h' := h.out _ TW (hk.put hd v) hf
  simp only [cond_false, runL, stA, ho, hw, if_true, OpR, hr w, nextR] at h' ⊢
  exact h'
 ·refine ⟨o, ho, ?_⟩
  rw [if_neg (by simp)]
  refine ⟨v, .inl ⟨hw, hr w⟩, ?_⟩
  refine h.out _ _ (hk.put hd v) ?_
  unfold addW
  rw [if_pos hw]
  intro x hx
  rcases List.mem_cons.1 hx with rfl | hx
  ·exact .inl hr
  ·exact hf x hx

theorem Ex.read_ (ho : ops[i]? = some o) (hg : guardV ops F o.guard = some true) (hd : dstOK n o.dst = true) (v : Value) (R : World → Prop)
  (hy : ∀ a, Knows n F ds a → ∀ w', R w' → (execOp a.eval o).run P w' = .ok (.value v) w') (hR : R w) (h : Ex P n ops B dr K s (putE F o.dst v) ds (addT dr i R T) w) : Ex P n ops B dr K ((i, false) :: s) F ds T w := Ex.mk fun a TW hk hf => by
 have hw := hk.wanted hg
 have hr := hy a hk
 cases dr
 ·have h' := h.out _ TW (hk.put hd v) hf
  simp only [cond_false, runL, stA, ho, hw, if_true, OpR, hr w hR, nextR] at h' ⊢
  exact h'
 ·refine ⟨o, ho, ?_⟩
  rw [if_neg (by simp)]
  refine ⟨v, .inl ⟨hw, hr w hR⟩, ?_⟩
  refine h.out _ _ (hk.put hd v) ?_
  unfold addW
  rw [if_pos hw]
  intro x hx
  rcases List.mem_cons.1 hx with rfl | hx
  ·exact .inr ⟨(i, R), List.mem_cons_self, rfl, hr⟩
  ·rcases hf x hx with h1 | ⟨y, hy, h1⟩
   ·exact .inl h1
   ·exact .inr ⟨y, List.mem_cons_of_mem _ hy, h1⟩

theorem Ex.skip_ (ho : ops[i]? = some o) (hg : guardV ops F o.guard = some false) (hd : dstOK n o.dst = true)
  (h : Ex P n ops B dr K s (putE F o.dst undef) ds T w) : Ex P n ops B dr K ((i, false) :: s) F ds T w := Ex.mk fun a TW hk hf => by
 have hw := hk.wanted hg
 cases dr
 ·have h' := h.out _ TW (hk.put hd undef) hf
  simp only [cond_false, runL, stA, ho, hw, Bool.false_eq_true, if_false] at h' ⊢
  exact h'
 ·refine ⟨o, ho, ?_⟩
  rw [if_neg (by simp)]
  refine ⟨undef, .inr ⟨hw, rfl⟩, ?_⟩
  have e1 : addW ops o a i undef TW = TW := by unfold addW; rw [if_neg (by simp [hw])]
  rw [e1]
  exact h.out (a.put o.dst undef) TW (hk.put hd undef) hf

theorem Ex.skipm_ (ho : ops[i]? = some o) (hg : guardV ops F o.guard = some false) (hd : dstOK n o.dst = true)
  (h : Ex P n ops B dr K s (putE F o.dst undef) ds T w) : Ex P n ops B dr K ((i, true) :: s) F ds T w := Ex.mk fun a TW hk hf => by
 have hw := hk.wanted hg
 have h' := h.out _ TW (hk.put hd undef) hf
 cases dr
 ·simp only [cond_false, runL, stA, ho, hw, Bool.false_eq_true, if_false] at h' ⊢
  exact h'
 ·refine ⟨o, ho, ?_⟩
  rw [if_pos rfl]
  unfold stA
  simp only [ho, hw, Bool.false_eq_true, if_false]
  exact ⟨.inl trivial, h'⟩

theorem Ex.mov_ (ho : ops[i]? = some o) (hg : guardV ops F o.guard = some true) (hd : dstOK n o.dst = true) (R : Value → World → Prop)
  (hy : ∀ a, Knows n F ds a → OpR P o a.eval w R) (hR : ∀ v w', R v w' → pend B i T w' ∧ Ex P n ops B dr K s (putE F o.dst v) ds T w') : Ex P n ops B dr K ((i, true) :: s) F ds T w := Ex.mk fun a TW hk hf => by
 have hw := hk.wanted hg
 cases dr
 ·simp only [cond_false, runL, stA, ho, hw, if_true]
  exact nextR_mono (hy a hk) fun v w' h => (hR v w' h).2.out _ TW (hk.put hd v) hf
 ·refine ⟨o, ho, ?_⟩
  rw [if_pos rfl]
  unfold stA
  simp only [ho, hw, if_true]
  refine nextR_mono (hy a hk) fun v w' h => ?_
  obtain ⟨hp, he⟩ := hR v w' h
  refine ⟨.inr fun x hx => ?_, he.out _ TW (hk.put hd v) hf⟩
  rcases hf x hx with h1 | ⟨y, hy, h1, h2⟩
  ·exact .inr (h1 w')
  ·rcases pend_mem hp y hy with h3 | h3
   ·exact .inl (h1 ▸ h3)
   ·exact .inr (h2 w' h3)

theorem Ex.split (t : Nat) {b : Bool} (hb : look F t = some (.bool b)) (ht : b = true → Ex P n ops B dr K s ((t, .bool true) :: F) ds T w) (hf : b = false → Ex P n ops B dr K s ((t, .bool false) :: F) ds T w) : Ex P n ops B dr K s F ds T w := Ex.mk fun a TW hk hfit => by
 cases b
 ·exact (hf rfl).out a TW ⟨hk.size, hk.defers, fun u v hu => by
   rw [look_put] at hu
   by_cases e : t = u
   ·subst e; rw [if_pos rfl] at hu; cases hu; exact hk.slot t _ hb
   ·rw [if_neg e] at hu; exact hk.slot u v hu⟩ hfit
 ·exact (ht rfl).out a TW ⟨hk.size, hk.defers, fun u v hu => by
   rw [look_put] at hu
   by_cases e : t = u
   ·subst e; rw [if_pos rfl] at hu; cases hu; exact hk.slot t _ hb
   ·rw [if_neg e] at hu; exact hk.slot u v hu⟩ hfit

theorem Ex.rw (t : Nat) {v : Value} (u : Value) (hv : look F t = some v) (e : v = u) (h : Ex P n ops B dr K s ((t, u) :: F) ds T w) : Ex P n ops B dr K s F ds T w := Ex.mk fun a TW hk hfit => by
 subst e
 refine h.out a TW ⟨hk.size, hk.defers, fun x y hu => ?_⟩ hfit
 rw [look_put] at hu
 by_cases e : t = x
 ·subst e; rw [if_pos rfl] at hu; cases hu; exact hk.slot t _ hv
 ·rw [if_neg e] at hu; exact hk.slot x y hu
end

/-! ## Memory -/
def aggD : TypeDesc → Bool | .struct _ | .array _ _ => true | _ => false
def szOf (P : Program) (t : TypeId) : Option Nat := (P.info? t).map (·.size)
def zeroOf (P : Program) (t : TypeId) : Option Value := (P.info? t).bind (·.zero)
def bytesOf' (P : Program) (t : TypeId) : Option Nat := (P.info? t).map (·.bytes)
def foOf (P : Program) (s : TypeId) (f : Nat) : Option Nat := match P.underlying s with
 | some (.struct fs) => match fs[f]? with
  | some fd => match szOf P fd.type with
   | some (_ + 1) => some fd.offset
   | _ => none
  | none => none
 | _ => none

section
variable {P : Program} {w : World}
theorem run_sizeOf' {t : TypeId} {m : Nat} (h : szOf P t = some m) : (sizeOf t).run P w = .ok m w := by
 unfold szOf at h
 cases hi : P.info? t with
 | none => simp [hi] at h
 | some i => simp [hi] at h; simp [sizeOf, typeInfo, hi, h]
theorem run_zero' {t : TypeId} {z : Value} (h : zeroOf P t = some z) : (zeroValue t).run P w = .ok z w := by
 unfold zeroOf at h
 cases hi : P.info? t with
 | none => simp [hi] at h
 | some i => simp [hi] at h; simp [zeroValue, typeInfo, hi, h]
theorem run_isAgg' {t : TypeId} {d : TypeDesc} (h : P.underlying t = some d) : (isAgg t).run P w = .ok (aggD d) w := by
 unfold isAgg
 rw [Sem.run_bind, run_underlying h]
 cases d <;> rfl

theorem cell_of {b off : Nat} {cs : List Value} {T : TypeId} {fr : Nat × Nat} {v : Value} (h : w.heap[b]? = some (.cells cs.toArray T fr)) (hv : cs[off]? = some v) : w.cell? ⟨b, off, none⟩ = some v := by
 simp [World.cell?, h, hv]

theorem run_loadVar1 {t : TypeId} {d : TypeDesc} {a : Addr} {v : Value} (h : P.underlying t = some d) (hd : aggD d = false) (hc : w.cell? a = some v) : (loadVar t a).run P w = .ok v w := by
 unfold loadVar
 rw [Sem.run_bind, run_isAgg' h, hd]
 simp [hc]

theorem run_loadCells {b : Nat} {cs : List Value} {T : TypeId} {fr : Nat × Nat} (h : w.heap[b]? = some (.cells cs.toArray T fr)) (off : Nat) : ∀ (m j : Nat) (acc : Array Value), off + j + m ≤ cs.length →
  (loadCellsFrom ⟨b, off, none⟩ j m acc).run P w = .ok (acc ++ ((cs.drop (off + j)).take m).toArray) w
 | 0, j, acc, _ => by simp [loadCellsFrom]
 | m + 1, j, acc, hle => by
  have hlt : off + j < cs.length := by omega
  have hc : w.cell? ((⟨b, off, none⟩ : Addr).add j) = some cs[off + j] := by
   unfold Addr.add
   split
   ·rename_i hj; subst hj; exact cell_of h (by simp)
   ·exact cell_of h (by simp [hlt])
  unfold loadCellsFrom
  rw [Sem.run_bind, run_load, hc]
  simp only [Result.andThen_ok]
  rw [run_loadCells h off m (j + 1) _ (by omega)]
  rw [show cs.drop (off + j) = cs[off + j] :: cs.drop (off + (j + 1)) from by rw [List.drop_eq_getElem_cons hlt]; rfl]
  simp

def RowAt (w : World) (b off : Nat) (l : List Value) : Prop := ∃ cs T fr, w.heap[b]? = some (.cells cs T fr) ∧ (cs.toList.drop off).take l.length = l

theorem run_loadVarA {t : TypeId} {d : TypeDesc} {b off : Nat} {l : List Value} (h : P.underlying t = some d) (hd : aggD d = true) (hs : szOf P t = some l.length) (hc : RowAt w b off l) (hl : 0 < l.length) : (loadVar t ⟨b, off, none⟩).run P w = .ok (.agg l.toArray) w := by
 obtain ⟨cs, T, fr, hb, he⟩ := hc
 unfold loadVar
 rw [Sem.run_bind, run_isAgg' h, hd]
 simp only [Result.andThen_ok, if_true]
 rw [Sem.run_bind, run_sizeOf' hs]
 simp only [Result.andThen_ok]
 unfold loadCells
 have hlen : off + l.length ≤ cs.size := by
  have h1 := congrArg List.length he
  simp at h1
  omega
 have := run_loadCells (P := P) (w := w) (b := b) (cs := cs.toList) (T := T) (fr := fr) (by simpa using hb) off l.length 0 #[] (by simpa using hlen)
 rw [Sem.run_bind, this]
 simp [he]

theorem set_parts {α : Type} (cs : List α) (p : Nat) (h : p < cs.length) (v : α) (l : List α) : (cs.set p v).take (p + 1) ++ l ++ (cs.set p v).drop (p + 1 + l.length) = cs.take p ++ v :: l ++ cs.drop (p + (l.length + 1)) := by
 rw [List.set_eq_take_append_cons_drop, if_pos h]
 have hl : (cs.take p).length = p := by simp; omega
 have e1 : (cs.take p).take (p + 1) = cs.take p := List.take_of_length_le (by omega)
 have e2 : (cs.take p).drop (p + 1 + l.length) = [] := List.drop_eq_nil_of_le (by omega)
 rw [List.take_append, List.drop_append, hl, e1, e2]
 rw [show p + 1 - p = 1 from by omega, show p + 1 + l.length - p = l.length + 1 from by omega]
 simp only [List.take_succ_cons, List.take_zero, List.nil_append, List.drop_succ_cons, List.drop_drop, List.append_assoc, List.cons_append]
 rw [show p + 1 + l.length = p + (l.length + 1) from by omega]

theorem run_storeCells {b : Nat} {T : TypeId} {fr : Nat × Nat} (off : Nat) : ∀ (l : List Value) (j : Nat) (cs : List Value) (w : World), w.heap[b]? = some (.cells cs.toArray T fr) → off + j + l.length ≤ cs.length →
  (∀ v ∈ l, v.oneCell' = true) → (∀ x, off + j ≤ x → x < off + j + l.length → (decide (fr.1 ≤ x) && decide (x < fr.2)) = false) →
  (storeCells ⟨b, off, none⟩ l j).run P w = .ok () (w.putObj b (.cells (cs.take (off + j) ++ l ++ cs.drop (off + j + l.length)).toArray T fr))
 | [], j, cs, w, h, hle, _, _ => by
  have hb : b < w.heap.size := (Array.getElem?_eq_some_iff.1 h).1
  simp only [storeCells, List.length_nil, Nat.add_zero, List.append_nil, List.take_append_drop]
  simp only [Sem.run_pure, World.putObj]
  congr 1
  cases w
  simp only [World.mk.injEq, and_true]
  apply Array.ext_getElem?
  intro k
  rw [Array.getElem?_setIfInBounds]
  split
  ·rename_i hk; subst hk; exact h
  ·rfl
 | v :: l, j, cs, w, h, hle, hv, hfr => by
  have hb : b < w.heap.size := (Array.getElem?_eq_some_iff.1 h).1
  simp only [List.length_cons] at hle hfr ⊢
  have hlt : off + j < cs.length := by omega
  have ea : (⟨b, off, none⟩ : Addr).add j = ⟨b, off + j, none⟩ := by
   unfold Addr.add
   split
   ·rename_i hj; subst hj; rfl
   ·rfl
  have hc : w.cell? ⟨b, off + j, none⟩ = some cs[off + j] := cell_of h (by simp [hlt])
  have hf : w.frozen? ⟨b, off + j, none⟩ = false := by
   simp only [World.frozen?, h]
   exact hfr (off + j) (Nat.le_refl _) (by omega)
  unfold storeCells
  rw [ea, Sem.run_bind, run_store P w _ v .plain (hv v List.mem_cons_self), hc]
  simp only [hf, Bool.false_eq_true, if_false, Result.andThen_ok]
  have e1 : w.setCell ⟨b, off + j, none⟩ v = w.putObj b (.cells (cs.set (off + j) v).toArray T fr) := by
   simp only [World.setCell, World.putObj]
   congr 1
   apply Array.ext_getElem?
   intro k
   rw [Array.getElem?_modify, Array.getElem?_setIfInBounds]
   split
   ·rename_i hk; subst hk; simp only [h]; simp
   ·rfl
  rw [e1]
  have h2 : (w.putObj b (.cells (cs.set (off + j) v).toArray T fr)).heap[b]? = some (.cells (cs.set (off + j) v).toArray T fr) := World.putObj_heap_same hb
  rw [run_storeCells off l (j + 1) _ _ h2 (by simp; omega) (fun u hu => hv u (List.mem_cons_of_mem _ hu)) (fun x h1 h2 => hfr x (by omega) (by omega))]
  congr 1
  simp only [World.putObj]
  congr 1
  apply Array.ext_getElem?
  intro k
  simp only [Array.getElem?_setIfInBounds, Array.size_setIfInBounds]
  split
  ·congr 3
   exact set_parts cs (off + j) hlt v l
  ·rfl

theorem run_storeVar' {t : TypeId} {b off : Nat} {cs l : List Value} {T : TypeId} {fr : Nat × Nat} {v : Value} (hs : szOf P t = some l.length) (hv : v.cells = l.toArray) (hb : w.heap[b]? = some (.cells cs.toArray T fr)) (hle : off + l.length ≤ cs.length)
  (h1 : ∀ v ∈ l, v.oneCell' = true) (hfr : ∀ x, off ≤ x → x < off + l.length → (decide (fr.1 ≤ x) && decide (x < fr.2)) = false) :
  (storeVar t ⟨b, off, none⟩ v).run P w = .ok () (w.putObj b (.cells (cs.take off ++ l ++ cs.drop (off + l.length)).toArray T fr)) := by
 unfold storeVar
 rw [Sem.run_bind, run_sizeOf' hs, hv]
 simp only [Result.andThen_ok, List.size_toArray, ne_eq, not_true_eq_false, if_false]
 have := run_storeCells (P := P) off l 0 cs w hb (by simpa using hle) h1 (by simpa using hfr)
 simpa using this
end
end Go.Fw

namespace Go.Fw
open Go
set_option linter.unusedVariables false
set_option linter.unusedSimpArgs false
section
variable {P : Program} {n : Nat} {ops : Array Oper} {B : Array Nat} {dr : Bool} {K : KT} {s : List (Nat × Bool)} {F : Env} {ds : List Deferred} {T : List (Nat × (World → Prop))} {w : World} {i : Nat}
variable {d : Option Tmp} {ty : TypeId} {ps : String} {af : Array Edge} {g : Option (Nat × Bool)}





def nilOK : Value → Bool | .pointer none => false | .nilIface => false | .nilFunc => false | .func (.method _) _ _ => false | _ => true


theorem run_nilCheck_ok {v : Value} (h : nilOK v = true) (o : Oper) (x : Operand) (ho : o.op = .nilCheck x) (ρ : Operand → Value) (hx : ρ x = v) (w : World) : (execOp ρ o).run P w = .ok (.value v) w := by
 unfold execOp
 rw [ho]
 simp only [hx]
 cases v with
 | pointer p => cases p with | none => cases h | some p => rfl
 | nilIface => cases h
 | nilFunc => cases h
 | func fn f c => cases fn <;> first | rfl | cases h
 | _ => rfl


theorem run_fieldAt {s0 : TypeId} {b off f k : Nat} {w : World} (h : foOf P s0 f = some k) : (Instr.fieldAt s0 (.pointer (some ⟨b, off, none⟩)) f).run P w = .ok (.pointer (some ⟨b, off + k, none⟩)) w := by
 unfold foOf at h
 split at h
 ·rename_i fs hu
  split at h
  ·rename_i fd hf
   split at h
   ·rename_i m hs
    simp only [Option.some.injEq] at h
    unfold Instr.fieldAt
    rw [Sem.run_bind, run_underlying hu]
    simp only [Result.andThen_ok, hf, Instr.sureAddr]
    simp only [Sem.run_bind, Sem.run_pure, Result.andThen_ok, fieldPlace, run_sizeOf' hs]
    simp only [Nat.add_one_ne_zero, if_false, Sem.run_pure, Result.andThen_ok]
    unfold Addr.add
    split
    ·rename_i h0; rw [← h, h0]; simp
    ·rw [← h]
   ·cases h
  ·cases h
 ·cases h

theorem x_fa {s0 f : Nat} {x : Operand} {b off k : Nat} (ho : ops[i]? = some ⟨d, .fieldAddr s0 x f, ty, ps, af, g⟩) (hg : guardV ops F g = some true) (hd : dstOK n d = true) (hf : foOf P s0 f = some k) (hx : ev? F x = some (.pointer (some ⟨b, off, none⟩))) (h : Ex P n ops B dr K s (putE F d (.pointer (some ⟨b, off + k, none⟩))) ds T w) : Ex P n ops B dr K ((i, false) :: s) F ds T w :=
 Ex.pure_ ho hg hd _ (fun a hk w' => by simp only [execOp, hk.eval hx, Sem.run_bind, run_fieldAt hf, Result.andThen_ok, Sem.run_pure]) h

theorem run_indexAt_slice {t e m b off len cp j : Nat} {k : IntKind} {w : World} (hu : P.underlying t = some (.slice e)) (hs : szOf P e = some m) (hlt : j < len) :
  (Instr.indexAt t (.slice (some ⟨b, off, none⟩) len cp) (.int k (j : Int))).run P w = .ok (.pointer (some ⟨b, off + j * m, none⟩)) w := by
 unfold Instr.indexAt
 simp only [asIntOf, Sem.run_bind, Sem.run_pure, Result.andThen_ok, run_underlying hu, run_sizeOf' hs]
 rw [if_pos ⟨by omega, by omega⟩]
 simp only [Sem.run_bind, run_sizeOf' hs, Result.andThen_ok, Sem.run_pure, Int.toNat_natCast]
 unfold Addr.add
 split
 ·rename_i h0; rw [h0]; simp
 ·rfl

theorem x_ia {t e m b off len cp : Nat} {x ix : Operand} {k : IntKind} {z : Int} (j : Nat) (ho : ops[i]? = some ⟨d, .indexAddr t x ix, ty, ps, af, g⟩) (hg : guardV ops F g = some true) (hd : dstOK n d = true) (hu : P.underlying t = some (.slice e)) (hs : szOf P e = some m) (hx : ev? F x = some (.slice (some ⟨b, off, none⟩) len cp)) (hi : ev? F ix = some (.int k z)) (hj : z = (j : Int)) (hlt : j < len) (h : Ex P n ops B dr K s (putE F d (.pointer (some ⟨b, off + j * m, none⟩))) ds T w) : Ex P n ops B dr K ((i, false) :: s) F ds T w :=
 Ex.pure_ ho hg hd _ (fun a hk w' => by subst hj; simp only [execOp, hk.eval hx, hk.eval hi, Sem.run_bind, run_indexAt_slice hu hs hlt, Result.andThen_ok, Sem.run_pure]) h


theorem run_index_str {t j : Nat} {b : ByteArray} {k : IntKind} {c : UInt8} {w : World} (hu : P.underlying t = some .string) (hc : b[j]? = some c) :
  (Instr.index t (.string b) (.int k (j : Int))).run P w = .ok (.int .u8 c.toNat) w := by
 unfold Instr.index
 simp only [asIntOf, Sem.run_bind, Sem.run_pure, Result.andThen_ok, run_underlying hu]
 rw [if_pos (by omega)]
 simp only [Int.toNat_natCast, hc, Sem.run_pure]

theorem x_ixs {t : Nat} {x ix : Operand} {k : IntKind} {z : Int} {b : ByteArray} {c : UInt8} (j : Nat) (ho : ops[i]? = some ⟨d, .index t x ix, ty, ps, af, g⟩) (hg : guardV ops F g = some true) (hd : dstOK n d = true) (hu : P.underlying t = some .string) (hx : ev? F x = some (.string b)) (hi : ev? F ix = some (.int k z)) (hj : z = (j : Int)) (hc : b[j]? = some c) (h : Ex P n ops B dr K s (putE F d (.int .u8 (c.toNat : Int))) ds T w) : Ex P n ops B dr K ((i, false) :: s) F ds T w :=
 Ex.pure_ ho hg hd _ (fun a hk w' => by subst hj; simp only [execOp, hk.eval hx, hk.eval hi, Sem.run_bind, run_index_str hu hc, Result.andThen_ok, Sem.run_pure]) h


theorem x_not {t : Nat} {x : Operand} {b : Bool} (r : Bool) (ho : ops[i]? = some ⟨d, .unOp .not t x, ty, ps, af, g⟩) (hg : guardV ops F g = some true) (hd : dstOK n d = true) (hx : ev? F x = some (.bool b)) (hr : (!b) = r) (h : Ex P n ops B dr K s (putE F d (.bool r)) ds T w) : Ex P n ops B dr K ((i, false) :: s) F ds T w :=
 Ex.pure_ ho hg hd _ (fun a hk w' => by subst hr; simp only [execOp, hk.eval hx, Op.unary, Sem.run_bind, Sem.run_pure, Result.andThen_ok]) h


theorem x_add {t t2 : Nat} {x y : Operand} {k : IntKind} {a0 b0 : Int} (r : Int) (ho : ops[i]? = some ⟨d, .binOp .add t x y t2, ty, ps, af, g⟩) (hg : guardV ops F g = some true) (hd : dstOK n d = true) (hx : ev? F x = some (.int k a0)) (hy : ev? F y = some (.int k b0)) (hr : k.wrap (a0 + b0) = r) (h : Ex P n ops B dr K s (putE F d (.int k r)) ds T w) : Ex P n ops B dr K ((i, false) :: s) F ds T w :=
 Ex.pure_ ho hg hd _ (fun a hk w' => by subst hr; simp only [execOp, hk.eval hx, hk.eval hy, Sem.run_bind, eqGuard, binOp, Op.intArith, ne_eq, not_true_eq_false, if_false, Bool.not_false, if_true, Sem.run_pure, Result.andThen_ok]) h

theorem x_sub {t t2 : Nat} {x y : Operand} {k : IntKind} {a0 b0 : Int} (r : Int) (ho : ops[i]? = some ⟨d, .binOp .sub t x y t2, ty, ps, af, g⟩) (hg : guardV ops F g = some true) (hd : dstOK n d = true) (hx : ev? F x = some (.int k a0)) (hy : ev? F y = some (.int k b0)) (hr : k.wrap (a0 - b0) = r) (h : Ex P n ops B dr K s (putE F d (.int k r)) ds T w) : Ex P n ops B dr K ((i, false) :: s) F ds T w :=
 Ex.pure_ ho hg hd _ (fun a hk w' => by subst hr; simp only [execOp, hk.eval hx, hk.eval hy, Sem.run_bind, eqGuard, binOp, Op.intArith, ne_eq, not_true_eq_false, if_false, Bool.not_false, if_true, Sem.run_pure, Result.andThen_ok]) h









theorem x_lss {t t2 : Nat} {x y : Operand} {k : IntKind} {a0 b0 : Int} (r : Bool) (ho : ops[i]? = some ⟨d, .binOp .lss t x y t2, ty, ps, af, g⟩) (hg : guardV ops F g = some true) (hd : dstOK n d = true) (hx : ev? F x = some (.int k a0)) (hy : ev? F y = some (.int k b0)) (hr : decide (a0 < b0) = r) (h : Ex P n ops B dr K s (putE F d (.bool r)) ds T w) : Ex P n ops B dr K ((i, false) :: s) F ds T w :=
 Ex.pure_ ho hg hd _ (fun a hk w' => by subst hr; simp only [execOp, hk.eval hx, hk.eval hy, Sem.run_bind, eqGuard, binOp, Op.intCmp, ne_eq, not_true_eq_false, if_false, Bool.not_false, Bool.not_true, Bool.false_eq_true, if_true, Sem.run_pure, Result.andThen_ok]) h

theorem x_leq {t t2 : Nat} {x y : Operand} {k : IntKind} {a0 b0 : Int} (r : Bool) (ho : ops[i]? = some ⟨d, .binOp .leq t x y t2, ty, ps, af, g⟩) (hg : guardV ops F g = some true) (hd : dstOK n d = true) (hx : ev? F x = some (.int k a0)) (hy : ev? F y = some (.int k b0)) (hr : decide (a0 ≤ b0) = r) (h : Ex P n ops B dr K s (putE F d (.bool r)) ds T w) : Ex P n ops B dr K ((i, false) :: s) F ds T w :=
 Ex.pure_ ho hg hd _ (fun a hk w' => by subst hr; simp only [execOp, hk.eval hx, hk.eval hy, Sem.run_bind, eqGuard, binOp, Op.intCmp, ne_eq, not_true_eq_false, if_false, Bool.not_false, Bool.not_true, Bool.false_eq_true, if_true, Sem.run_pure, Result.andThen_ok]) h

theorem x_gtr {t t2 : Nat} {x y : Operand} {k : IntKind} {a0 b0 : Int} (r : Bool) (ho : ops[i]? = some ⟨d, .binOp .gtr t x y t2, ty, ps, af, g⟩) (hg : guardV ops F g = some true) (hd : dstOK n d = true) (hx : ev? F x = some (.int k a0)) (hy : ev? F y = some (.int k b0)) (hr : decide (a0 > b0) = r) (h : Ex P n ops B dr K s (putE F d (.bool r)) ds T w) : Ex P n ops B dr K ((i, false) :: s) F ds T w :=
 Ex.pure_ ho hg hd _ (fun a hk w' => by subst hr; simp only [execOp, hk.eval hx, hk.eval hy, Sem.run_bind, eqGuard, binOp, Op.intCmp, ne_eq, not_true_eq_false, if_false, Bool.not_false, Bool.not_true, Bool.false_eq_true, if_true, Sem.run_pure, Result.andThen_ok]) h

theorem x_geq {t t2 : Nat} {x y : Operand} {k : IntKind} {a0 b0 : Int} (r : Bool) (ho : ops[i]? = some ⟨d, .binOp .geq t x y t2, ty, ps, af, g⟩) (hg : guardV ops F g = some true) (hd : dstOK n d = true) (hx : ev? F x = some (.int k a0)) (hy : ev? F y = some (.int k b0)) (hr : decide (a0 ≥ b0) = r) (h : Ex P n ops B dr K s (putE F d (.bool r)) ds T w) : Ex P n ops B dr K ((i, false) :: s) F ds T w :=
 Ex.pure_ ho hg hd _ (fun a hk w' => by subst hr; simp only [execOp, hk.eval hx, hk.eval hy, Sem.run_bind, eqGuard, binOp, Op.intCmp, ne_eq, not_true_eq_false, if_false, Bool.not_false, Bool.not_true, Bool.false_eq_true, if_true, Sem.run_pure, Result.andThen_ok]) h

theorem x_eqi {t t2 : Nat} {x y : Operand} {k : IntKind} {a0 b0 : Int} (r : Bool) (ho : ops[i]? = some ⟨d, .binOp .eql t x y t2, ty, ps, af, g⟩) (hg : guardV ops F g = some true) (hd : dstOK n d = true) (hx : ev? F x = some (.int k a0)) (hy : ev? F y = some (.int k b0)) (hr : (a0 == b0) = r) (h : Ex P n ops B dr K s (putE F d (.bool r)) ds T w) : Ex P n ops B dr K ((i, false) :: s) F ds T w :=
 Ex.pure_ ho hg hd _ (fun a hk w' => by subst hr; simp only [execOp, hk.eval hx, hk.eval hy, Sem.run_bind, eqGuard, binOp, Op.intCmp, ne_eq, not_true_eq_false, if_false, Bool.not_false, Bool.not_true, Bool.false_eq_true, if_true, Sem.run_pure, Result.andThen_ok]) h

theorem x_nei {t t2 : Nat} {x y : Operand} {k : IntKind} {a0 b0 : Int} (r : Bool) (ho : ops[i]? = some ⟨d, .binOp .neq t x y t2, ty, ps, af, g⟩) (hg : guardV ops F g = some true) (hd : dstOK n d = true) (hx : ev? F x = some (.int k a0)) (hy : ev? F y = some (.int k b0)) (hr : (a0 != b0) = r) (h : Ex P n ops B dr K s (putE F d (.bool r)) ds T w) : Ex P n ops B dr K ((i, false) :: s) F ds T w :=
 Ex.pure_ ho hg hd _ (fun a hk w' => by subst hr; simp only [execOp, hk.eval hx, hk.eval hy, Sem.run_bind, eqGuard, binOp, Op.intCmp, ne_eq, not_true_eq_false, if_false, Bool.not_false, Bool.not_true, Bool.false_eq_true, if_true, Sem.run_pure, Result.andThen_ok]) h

theorem x_eqs {t t2 : Nat} {x y : Operand} {a0 b0 : ByteArray} (r : Bool) (ho : ops[i]? = some ⟨d, .binOp .eql t x y t2, ty, ps, af, g⟩) (hg : guardV ops F g = some true) (hd : dstOK n d = true) (hx : ev? F x = some (.string a0)) (hy : ev? F y = some (.string b0)) (hr : (a0.toList == b0.toList) = r) (h : Ex P n ops B dr K s (putE F d (.bool r)) ds T w) : Ex P n ops B dr K ((i, false) :: s) F ds T w :=
 Ex.pure_ ho hg hd _ (fun a hk w' => by subst hr; simp only [execOp, hk.eval hx, hk.eval hy, Sem.run_bind, eqGuard, binOp, Op.stringOp, Bool.not_false, Bool.not_true, Bool.false_eq_true, if_false, if_true, Sem.run_pure, Result.andThen_ok]) h

theorem x_nes {t t2 : Nat} {x y : Operand} {a0 b0 : ByteArray} (r : Bool) (ho : ops[i]? = some ⟨d, .binOp .neq t x y t2, ty, ps, af, g⟩) (hg : guardV ops F g = some true) (hd : dstOK n d = true) (hx : ev? F x = some (.string a0)) (hy : ev? F y = some (.string b0)) (hr : (!(a0.toList == b0.toList)) = r) (h : Ex P n ops B dr K s (putE F d (.bool r)) ds T w) : Ex P n ops B dr K ((i, false) :: s) F ds T w :=
 Ex.pure_ ho hg hd _ (fun a hk w' => by subst hr; simp only [execOp, hk.eval hx, hk.eval hy, Sem.run_bind, eqGuard, binOp, Op.stringOp, Bool.not_false, Bool.not_true, Bool.false_eq_true, if_false, if_true, Sem.run_pure, Result.andThen_ok]) h





theorem x_cat {t t2 : Nat} {x y : Operand} {a0 b0 : ByteArray} (ho : ops[i]? = some ⟨d, .binOp .add t x y t2, ty, ps, af, g⟩) (hg : guardV ops F g = some true) (hd : dstOK n d = true) (hx : ev? F x = some (.string a0)) (hy : ev? F y = some (.string b0)) (hr : ((a0.size + b0.size : Nat) : Int) ≤ IntKind.i64.max) (h : Ex P n ops B dr K s (putE F d (.string (a0 ++ b0))) ds T w) : Ex P n ops B dr K ((i, false) :: s) F ds T w :=
 Ex.pure_ ho hg hd _ (fun a hk w' => by simp only [execOp, hk.eval hx, hk.eval hy, Sem.run_bind, eqGuard, binOp, Op.stringOp, Bool.not_false, if_true, Sem.run_pure, Result.andThen_ok]; rw [if_neg (by omega)]; rfl) h



theorem x_lens {t : Nat} {x : Operand} {b : ByteArray} {at0 : Array TypeId} (ho : ops[i]? = some ⟨d, .call ⟨.builtin .len, #[x], at0⟩, ty, ps, af, g⟩) (hg : guardV ops F g = some true) (hd : dstOK n d = true) (ht : at0[0]? = some t) (hu : P.underlying t = some .string) (hx : ev? F x = some (.string b)) (h : Ex P n ops B dr K s (putE F d (.int .i64 (b.size : Int))) ds T w) : Ex P n ops B dr K ((i, false) :: s) F ds T w :=
 Ex.pure_ ho hg hd _ (fun a hk w' => by simp [execOp, resolve, invoke, builtin, Builtin.len_, ht, hk.eval hx, run_underlying hu, goInt]) h

theorem x_len {t e : Nat} {x : Operand} {p : Option Addr} {len cp : Nat} {at0 : Array TypeId} (ho : ops[i]? = some ⟨d, .call ⟨.builtin .len, #[x], at0⟩, ty, ps, af, g⟩) (hg : guardV ops F g = some true) (hd : dstOK n d = true) (ht : at0[0]? = some t) (hu : P.underlying t = some (.slice e)) (hx : ev? F x = some (.slice p len cp)) (h : Ex P n ops B dr K s (putE F d (.int .i64 (len : Int))) ds T w) : Ex P n ops B dr K ((i, false) :: s) F ds T w :=
 Ex.pure_ ho hg hd _ (fun a hk w' => by simp [execOp, resolve, invoke, builtin, Builtin.len_, ht, hk.eval hx, run_underlying hu, goInt]) h

theorem x_min {x y : Operand} {k : IntKind} {a0 b0 : Int} {at0 : Array TypeId} (r : Int) (ho : ops[i]? = some ⟨d, .call ⟨.builtin .min, #[x, y], at0⟩, ty, ps, af, g⟩) (hg : guardV ops F g = some true) (hd : dstOK n d = true) (hx : ev? F x = some (.int k a0)) (hy : ev? F y = some (.int k b0)) (hr : (if b0 < a0 then b0 else a0) = r) (h : Ex P n ops B dr K s (putE F d (.int k r)) ds T w) : Ex P n ops B dr K ((i, false) :: s) F ds T w :=
 Ex.pure_ ho hg hd _ (fun a hk w' => by subst hr; simp [execOp, resolve, invoke, builtin, Builtin.min_, Builtin.min2, hk.eval hx, hk.eval hy]) h

theorem evs_array {n : Nat} {F : Env} {ds : List Deferred} {a : Act} (hk : Knows n F ds a) {l : Array Operand} {vs : List Value} (h : evs? F l.toList = some vs) : l.map a.eval = vs.toArray := by
 have := hk.evals h
 apply Array.ext'
 simpa using this

theorem x_mkfn {fn : Fn} {first cap : Array Operand} {vs us : List Value} (ho : ops[i]? = some ⟨d, .makeFunc fn first cap, ty, ps, af, g⟩) (hg : guardV ops F g = some true) (hd : dstOK n d = true) (hx : evs? F first.toList = some vs) (hy : evs? F cap.toList = some us) (h : Ex P n ops B dr K s (putE F d (.func fn vs.toArray us.toArray)) ds T w) : Ex P n ops B dr K ((i, false) :: s) F ds T w :=
 Ex.pure_ ho hg hd _ (fun a hk w' => by simp only [execOp, evs_array hk hx, evs_array hk hy, Instr.makeFunc, Sem.run_bind, Sem.run_pure, Result.andThen_ok]) h

def placesOf (P : Program) (t : TypeId) : Option (List (Nat × Nat)) := match P.underlying t with
 | some (.struct fs) => fs.toList.mapM fun f => (szOf P f.type).map fun m => (f.offset, m)
 | _ => none
theorem run_mapM_places : ∀ (fs : List Field) (pl : List (Nat × Nat)) (w : World), fs.mapM (fun f => (szOf P f.type).map fun m => (f.offset, m)) = some pl → (fs.mapM (m := Sem) fun f => do pure (f.offset, ← sizeOf f.type)).run P w = .ok pl w
 | [], pl, w, h => by simp at h; subst h; rfl
 | f :: fs, pl, w, h => by
  simp only [List.mapM_cons, Option.bind_eq_bind, Option.bind_eq_some_iff, Option.map_eq_some_iff, Option.pure_def, Option.some.injEq] at h
  obtain ⟨q, ⟨m, hm, rfl⟩, pl', h', rfl⟩ := h
  simp only [List.mapM_cons, Sem.run_bind, run_sizeOf' hm, Result.andThen_ok, Sem.run_pure]
  rw [run_mapM_places fs pl' w h']
  rfl
theorem run_build {t : TypeId} {pl : List (Nat × Nat)} {z : Value} {Z : List Value} {parts : List (Nat × Value)} {cells : Array Value} {w : World} (hp : placesOf P t = some pl) (hz : zeroOf P t = some z) (hZ : z.cells = Z.toArray)
  (hf : Instr.fill (fun i => pl[i]?) Z.toArray parts = some cells) : (Instr.build t parts.toArray).run P w = .ok (.agg cells) w := by
 unfold placesOf at hp
 split at hp
 ·rename_i fs hu
  unfold Instr.build
  simp only [Sem.run_bind, run_zero' hz, Result.andThen_ok, hZ, run_underlying hu]
  have h1 := run_mapM_places fs.toList pl w hp
  have h2 : (fs.mapM (m := Sem) fun f => do pure (f.offset, ← sizeOf f.type)) = (fun l => l.toArray) <$> (fs.toList.mapM (m := Sem) fun f => do pure (f.offset, ← sizeOf f.type)) := by
   rw [Array.mapM_eq_mapM_toList]
  rw [h2, Sem.run_map, h1]
  simp only [Result.andThen_ok, List.getElem?_toArray]
  rw [hf]
  rfl
 ·cases hp

def evps? (F : Env) : List (Nat × Operand) → Option (List (Nat × Value))
 | [] => some []
 | (j, x) :: r => match ev? F x, evps? F r with
  | some v, some vs => some ((j, v) :: vs)
  | _, _ => none
theorem evps_list {n : Nat} {F : Env} {ds : List Deferred} {a : Act} (hk : Knows n F ds a) : ∀ {l : List (Nat × Operand)} {vs : List (Nat × Value)}, evps? F l = some vs → l.map (fun p => (p.1, a.eval p.2)) = vs
 | [], vs, h => by simp [evps?] at h; simp [h]
 | (j, x) :: r, vs, h => by
  unfold evps? at h
  split at h
  ·rename_i v vs' h1 h2
   simp only [Option.some.injEq] at h
   subst h
   simp [hk.eval h1, evps_list hk h2]
  ·cases h
theorem evps_array {n : Nat} {F : Env} {ds : List Deferred} {a : Act} (hk : Knows n F ds a) {l : Array (Nat × Operand)} {vs : List (Nat × Value)} (h : evps? F l.toList = some vs) : (l.map fun (j, x) => (j, a.eval x)) = vs.toArray := by
 have := evps_list hk h
 apply Array.ext'
 simpa using this

theorem x_build {t : Nat} {parts : Array (Nat × Operand)} {vs : List (Nat × Value)} {pl : List (Nat × Nat)} {z : Value} {Z : List Value} (cells : List Value) (ho : ops[i]? = some ⟨d, .build t parts, ty, ps, af, g⟩) (hg : guardV ops F g = some true) (hd : dstOK n d = true) (hp : placesOf P t = some pl) (hz : zeroOf P t = some z) (hx : evps? F parts.toList = some vs) (hZ : z.cells = Z.toArray) (hf : Instr.fill (fun i => pl[i]?) Z.toArray vs = some cells.toArray) (h : Ex P n ops B dr K s (putE F d (.agg cells.toArray)) ds T w) : Ex P n ops B dr K ((i, false) :: s) F ds T w :=
 Ex.pure_ ho hg hd _ (fun a hk w' => by simp only [execOp, evps_array hk hx, Sem.run_bind, run_build hp hz hZ hf, Result.andThen_ok, Sem.run_pure]) h

theorem x_mkif {t : Nat} {x : Operand} {v : Value} {dd : TypeDesc} (ho : ops[i]? = some ⟨d, .makeInterface t x, ty, ps, af, g⟩) (hg : guardV ops F g = some true) (hd : dstOK n d = true) (hx : ev? F x = some v) (hu : P.underlying t = some dd) (hi : ∀ ms, dd ≠ .interface ms) (h : Ex P n ops B dr K s (putE F d (.iface t v)) ds T w) : Ex P n ops B dr K ((i, false) :: s) F ds T w :=
 Ex.pure_ ho hg hd _ (fun a hk w' => by simp only [execOp, hk.eval hx, Instr.makeInterface, Sem.run_bind, run_underlying hu, Result.andThen_ok]; cases dd <;> first | rfl | exact absurd rfl (hi _)) h



theorem x_ld {t : Nat} {x : Operand} {dd : TypeDesc} {p : Addr} {v : Value} (ho : ops[i]? = some ⟨d, .load t x, ty, ps, af, g⟩) (hg : guardV ops F g = some true) (hd : dstOK n d = true) (hu : P.underlying t = some dd) (ha : aggD dd = false) (hx : ev? F x = some (.pointer (some p))) (hc : w.cell? p = some v) (h : Ex P n ops B dr K s (putE F d (v)) ds (addT dr i (fun w' => w'.cell? p = some v) T) w) : Ex P n ops B dr K ((i, false) :: s) F ds T w :=
 Ex.read_ ho hg hd _ (fun w' => w'.cell? p = some v) (fun a hk w' hR => by simp only [execOp, hk.eval hx, Instr.loadAt, Instr.sureAddr, Sem.run_bind, Sem.run_pure, Result.andThen_ok, run_loadVar1 hu ha hR]) (hc) h

theorem x_ldA {t : Nat} {x : Operand} {dd : TypeDesc} {b off : Nat} (l : List Value) (ho : ops[i]? = some ⟨d, .load t x, ty, ps, af, g⟩) (hg : guardV ops F g = some true) (hd : dstOK n d = true) (hu : P.underlying t = some dd) (ha : aggD dd = true) (hs : szOf P t = some l.length) (hl : Nat.blt 0 l.length = true) (hx : ev? F x = some (.pointer (some ⟨b, off, none⟩))) (hc : RowAt w b off l) (h : Ex P n ops B dr K s (putE F d (.agg l.toArray)) ds (addT dr i (fun w' => RowAt w' b off l) T) w) : Ex P n ops B dr K ((i, false) :: s) F ds T w :=
 Ex.read_ ho hg hd _ (fun w' => RowAt w' b off l) (fun a hk w' hR => by simp only [execOp, hk.eval hx, Instr.loadAt, Instr.sureAddr, Sem.run_bind, Sem.run_pure, Result.andThen_ok, run_loadVarA hu ha hs hR (by simpa [Nat.blt_eq] using hl)]) (hc) h



theorem x_alloc {t : Nat} {z : Value} (cs : List Value) (ho : ops[i]? = some ⟨d, .alloc t, ty, ps, af, g⟩) (hg : guardV ops F g = some true) (hd : dstOK n d = true) (hz : zeroOf P t = some z) (hc : z.cells = cs.toArray) (h : ∀ b w1, b = w.heap.size → w1 = w.alloc (.cells cs.toArray t) → pend B i T w1 ∧ Ex P n ops B dr K s (putE F d (.pointer (some ⟨b, 0, none⟩))) ds T w1) : Ex P n ops B dr K ((i, true) :: s) F ds T w :=
 Ex.mov_ ho hg hd (fun v w' => v = .pointer (some ⟨w.heap.size, 0, none⟩) ∧ w' = w.alloc (.cells cs.toArray t)) (fun a hk => by unfold OpR; simp only [execOp, Instr.alloc, Sem.run_bind, run_zero' hz, Result.andThen_ok, newVar, newRow, run_newObj, Sem.run_pure, hc, nextR]; first | exact ⟨rfl, rfl⟩ | exact ⟨trivial, rfl⟩ | trivial) (by rintro v w' ⟨rfl, rfl⟩; exact h _ _ rfl rfl)

theorem x_box {t : Nat} {x : Operand} {v : Value} (cs : List Value) (ho : ops[i]? = some ⟨d, .box t x, ty, ps, af, g⟩) (hg : guardV ops F g = some true) (hd : dstOK n d = true) (hx : ev? F x = some v) (hc : v.cells = cs.toArray) (h : ∀ b w1, b = w.heap.size → w1 = w.alloc (.cells cs.toArray t) → pend B i T w1 ∧ Ex P n ops B dr K s (putE F d (.pointer (some ⟨b, 0, none⟩))) ds T w1) : Ex P n ops B dr K ((i, true) :: s) F ds T w :=
 Ex.mov_ ho hg hd (fun v w' => v = .pointer (some ⟨w.heap.size, 0, none⟩) ∧ w' = w.alloc (.cells cs.toArray t)) (fun a hk => by unfold OpR; simp only [execOp, hk.eval hx, Instr.box, Sem.run_bind, Result.andThen_ok, newVar, newRow, run_newObj, Sem.run_pure, hc, nextR]; first | exact ⟨rfl, rfl⟩ | exact ⟨trivial, rfl⟩ | trivial) (by rintro v w' ⟨rfl, rfl⟩; exact h _ _ rfl rfl)

theorem x_st {t : Nat} {x y : Operand} {v : Value} {b off Tb : Nat} {cs : List Value} {fr : Nat × Nat} (l cs2 : List Value) (ho : ops[i]? = some ⟨d, .store t x y, ty, ps, af, g⟩) (hg : guardV ops F g = some true) (hd : dstOK n d = true) (hs : szOf P t = some l.length) (hx : ev? F x = some (.pointer (some ⟨b, off, none⟩))) (hy : ev? F y = some v) (hv : v.cells = l.toArray) (h1 : l.all Value.oneCell' = true) (hb : w.heap[b]? = some (.cells cs.toArray Tb fr)) (hfr : fr = (0, 0)) (hle : Nat.ble (off + l.length) cs.length = true) (hc2 : cs.take off ++ l ++ cs.drop (off + l.length) = cs2) (h : ∀ w1, w1 = w.putObj b (.cells cs2.toArray Tb (0, 0)) → pend B i T w1 ∧ Ex P n ops B dr K s (putE F d undef) ds T w1) : Ex P n ops B dr K ((i, true) :: s) F ds T w :=
 Ex.mov_ ho hg hd (fun v w' => v = undef ∧ w' = w.putObj b (.cells cs2.toArray Tb (0, 0))) (fun a hk => by subst hc2 hfr; unfold OpR; simp only [execOp, hk.eval hx, hk.eval hy, Instr.storeAt, Instr.sureAddr, Sem.run_bind, Sem.run_pure, Result.andThen_ok, run_storeVar' hs hv hb (Nat.le_of_ble_eq_true hle) (List.all_eq_true.1 h1) (fun x _ _ => by simp), nextR]; first | exact ⟨rfl, rfl⟩ | exact ⟨trivial, rfl⟩ | trivial) (by rintro v w' ⟨rfl, rfl⟩; exact h _ rfl)

def entered (P : Program) (f : FuncId) : Bool := match P.funcs[f]? with
 | some fn => !(fn.name == "runtime.NumGoroutine") && fn.body.isSome
 | none => false
theorem run_callFunc {f : FuncId} (h : entered P f = true) (args : Array Value) (w : World) : (callFunc f args).run P w = .ok (.enter f args) w := by
 unfold entered at h
 split at h
 ·rename_i fn hf
  simp only [Bool.and_eq_true, Bool.not_eq_true'] at h
  unfold callFunc
  rw [Sem.run_bind, run_program]
  simp only [Result.andThen_ok, hf]
  rw [if_neg (by simp [h.1]), if_neg (by cases hb : fn.body <;> simp [hb] at h ⊢)]
  rfl
 ·cases h

theorem x_call {x : Operand} {args : Array Operand} {at0 : Array TypeId} {f : FuncId} {first cap : Array Value} {vs : List Value} {R : Value → World → Prop} (ho : ops[i]? = some ⟨d, .call ⟨.value x, args, at0⟩, ty, ps, af, g⟩) (hg : guardV ops F g = some true) (hd : dstOK n d = true) (hx : ev? F x = some (.func (.func f) first cap)) (hargs : evs? F args.toList = some vs) (he : entered P f = true) (hc : Ret P f (first ++ vs.toArray ++ cap) w R) (h : ∀ v w', R v w' → pend B i T w' ∧ Ex P n ops B dr K s (putE F d v) ds T w') : Ex P n ops B dr K ((i, true) :: s) F ds T w :=
 Ex.mov_ ho hg hd (R) (fun a hk => by unfold OpR; simp only [execOp, resolve, hk.eval hx, evs_array hk hargs, Deferred.ofValue, Sem.run_bind, Sem.run_pure, Result.andThen_ok, invoke, run_callFunc he, nextR]; exact hc) (h)

theorem x_yield {x : Operand} {args : Array Operand} {at0 : Array TypeId} {l : Nat} {r : Loop} {vs : List Value} {R : Value → World → Prop} (ho : ops[i]? = some ⟨d, .call ⟨.value x, args, at0⟩, ty, ps, af, g⟩) (hg : guardV ops F g = some true) (hd : dstOK n d = true) (hx : ev? F x = some (.func (.yield l) #[] #[])) (hargs : evs? F args.toList = some vs) (hl : w.heap[l]? = some (.loop r)) (hn : vs.length = r.params.size) (hc : Rnd P l r.fn ((r.params.zip vs.toArray).foldl (fun tmps (t, a) => tmps.setIfInBounds t a) r.tmps) r.assign r.body w R) (h : ∀ v w', R v w' → pend B i T w' ∧ Ex P n ops B dr K s (putE F d v) ds T w') : Ex P n ops B dr K ((i, true) :: s) F ds T w :=
 Ex.mov_ ho hg hd (R) (fun a hk => by unfold OpR; simp only [execOp, resolve, hk.eval hx, evs_array hk hargs, Deferred.ofValue, Sem.run_bind, Sem.run_pure, Result.andThen_ok, invoke]; rw [show (#[] ++ vs.toArray : Array Value) = vs.toArray from by simp, run_yield hl (by simpa using hn)]; simp only [nextR]; exact hc) (h)

theorem x_mv {op : Op} {v : Value} {w1 : World} (ho : ops[i]? = some ⟨d, op, ty, ps, af, g⟩) (hg : guardV ops F g = some true) (hd : dstOK n d = true) (hr : ∀ a, Knows n F ds a → (execOp a.eval ⟨d, op, ty, ps, af, g⟩).run P w = .ok (.value v) w1) (hp : pend B i T w1) (h : Ex P n ops B dr K s (putE F d v) ds T w1) : Ex P n ops B dr K ((i, true) :: s) F ds T w :=
 Ex.mov_ ho hg hd (fun v' w' => v' = v ∧ w' = w1) (fun a hk => by unfold OpR; rw [hr a hk]; exact ⟨rfl, rfl⟩) (by rintro v w' ⟨rfl, rfl⟩; exact ⟨hp, h⟩)

theorem x_mvs {op : Op} {w1 : World} (ho : ops[i]? = some ⟨d, op, ty, ps, af, g⟩) (hg : guardV ops F g = some true) (hd : dstOK n d = true) (hr : ∀ a, Knows n F ds a → (execOp a.eval ⟨d, op, ty, ps, af, g⟩).run P w = .ok .skip w1) (hp : pend B i T w1) (h : Ex P n ops B dr K s (putE F d undef) ds T w1) : Ex P n ops B dr K ((i, true) :: s) F ds T w :=
 Ex.mov_ ho hg hd (fun v' w' => v' = undef ∧ w' = w1) (fun a hk => by unfold OpR; rw [hr a hk]; exact ⟨rfl, rfl⟩) (by rintro v w' ⟨rfl, rfl⟩; exact ⟨hp, h⟩)


theorem x_mkmap {t : Nat} (ho : ops[i]? = some ⟨d, .makeMap t none, ty, ps, af, g⟩) (hg : guardV ops F g = some true) (hd : dstOK n d = true)  (h : ∀ b w1, b = w.heap.size → w1 = w.alloc (.map #[] 0) → pend B i T w1 ∧ Ex P n ops B dr K s (putE F d (.map (some b))) ds T w1) : Ex P n ops B dr K ((i, true) :: s) F ds T w :=
 Ex.mov_ ho hg hd (fun v w' => v = .map (some w.heap.size) ∧ w' = w.alloc (.map #[] 0)) (fun a hk => by unfold OpR; simp only [execOp, Option.map_none, Instr.makeMap, Sem.run_bind, run_newObj, Sem.run_pure, Result.andThen_ok, nextR]; first | exact ⟨rfl, rfl⟩ | exact ⟨trivial, rfl⟩ | trivial) (by rintro v w' ⟨rfl, rfl⟩; exact h _ _ rfl rfl)

theorem eq_of_equal {t : TypeId} {a b : Value} {r : Bool} {w : World} {x y : Operand} (hn : (∀ c, a ≠ .agg c) ∧ (∀ c, b ≠ .agg c) ∧ a ≠ .nilIface ∧ (∀ c, a ≠ .string c) ∧ (∀ k z, a ≠ .int k z) ∧ (∀ k z, a ≠ .float k z) ∧ (∀ k z u, a ≠ .complex k z u)) (h : (Op.equal t a b).run P w = .ok r w) :
  (do eqGuard .eql t x y a b; binOp .eql t a b : Sem Value).run P w = .ok (.bool r) w ∧ (do eqGuard .neq t x y a b; binOp .neq t a b : Sem Value).run P w = .ok (.bool (!r)) w := by
 obtain ⟨h1, h2, h3, h4, h5, h6, h7⟩ := hn
 have hg : ∀ op, (eqGuard op t x y a b).run P w = .ok () w := by
  intro op
  unfold eqGuard
  cases op <;> first | rfl | (cases a <;> first | exact absurd rfl h3 | exact absurd rfl (h1 _) | rfl)
 refine ⟨?_, ?_⟩
 ·rw [Sem.run_bind, hg]
  simp only [Result.andThen_ok]
  cases a <;> first | exact absurd rfl (h1 _) | exact absurd rfl (h4 _) | exact absurd rfl (h5 _ _) | exact absurd rfl (h6 _ _) | exact absurd rfl (h7 _ _ _) | (simp only [binOp, Sem.run_bind, h, Result.andThen_ok, Sem.run_pure])
 ·rw [Sem.run_bind, hg]
  simp only [Result.andThen_ok]
  cases a <;> first | exact absurd rfl (h1 _) | exact absurd rfl (h4 _) | exact absurd rfl (h5 _ _) | exact absurd rfl (h6 _ _) | exact absurd rfl (h7 _ _ _) | (simp only [binOp, Sem.run_bind, h, Result.andThen_ok, Sem.run_pure])

theorem run_equal_pn {t e : TypeId} {p : Option Addr} {w : World} (hu : P.underlying t = some (.pointer e)) : (Op.equal t (.pointer p) (.pointer none)).run P w = .ok p.isNone w := by
 unfold Op.equal Op.maxDepth Op.equalIn
 rw [Sem.run_bind, run_underlying hu]
 simp only [Result.andThen_ok]
 cases p <;> rfl

theorem x_eqpn {t t2 e : Nat} {x y : Operand} {p : Option Addr} (r : Bool) (ho : ops[i]? = some ⟨d, .binOp .eql t x y t2, ty, ps, af, g⟩) (hg : guardV ops F g = some true) (hd : dstOK n d = true) (hu : P.underlying t = some (.pointer e)) (hx : ev? F x = some (.pointer p)) (hy : ev? F y = some (.pointer none)) (hr : p.isNone = r) (h : Ex P n ops B dr K s (putE F d (.bool r)) ds T w) : Ex P n ops B dr K ((i, false) :: s) F ds T w :=
 Ex.pure_ ho hg hd _ (fun a hk w' => by subst hr; simp only [execOp, hk.eval hx, hk.eval hy]; rw [Sem.run_bind, (eq_of_equal (x := x) (y := y) (by simp) (run_equal_pn hu)).1]; rfl) h

theorem x_nepn {t t2 e : Nat} {x y : Operand} {p : Option Addr} (r : Bool) (ho : ops[i]? = some ⟨d, .binOp .neq t x y t2, ty, ps, af, g⟩) (hg : guardV ops F g = some true) (hd : dstOK n d = true) (hu : P.underlying t = some (.pointer e)) (hx : ev? F x = some (.pointer p)) (hy : ev? F y = some (.pointer none)) (hr : (!p.isNone) = r) (h : Ex P n ops B dr K s (putE F d (.bool r)) ds T w) : Ex P n ops B dr K ((i, false) :: s) F ds T w :=
 Ex.pure_ ho hg hd _ (fun a hk w' => by subst hr; simp only [execOp, hk.eval hx, hk.eval hy]; rw [Sem.run_bind, (eq_of_equal (x := x) (y := y) (by simp) (run_equal_pn hu)).2]; rfl) h

theorem run_equal_sn {t e : TypeId} {p : Option Addr} {l0 c0 : Nat} {w : World} (hu : P.underlying t = some (.slice e)) : (Op.equal t (.slice p l0 c0) (.slice none 0 0)).run P w = .ok p.isNone w := by
 unfold Op.equal Op.maxDepth Op.equalIn
 rw [Sem.run_bind, run_underlying hu]
 simp only [Result.andThen_ok]
 cases p <;> rfl

theorem x_eqsn {t t2 e : Nat} {x y : Operand} {p : Option Addr} {l0 c0 : Nat} (r : Bool) (ho : ops[i]? = some ⟨d, .binOp .eql t x y t2, ty, ps, af, g⟩) (hg : guardV ops F g = some true) (hd : dstOK n d = true) (hu : P.underlying t = some (.slice e)) (hx : ev? F x = some (.slice p l0 c0)) (hy : ev? F y = some (.slice none 0 0)) (hr : p.isNone = r) (h : Ex P n ops B dr K s (putE F d (.bool r)) ds T w) : Ex P n ops B dr K ((i, false) :: s) F ds T w :=
 Ex.pure_ ho hg hd _ (fun a hk w' => by subst hr; simp only [execOp, hk.eval hx, hk.eval hy]; rw [Sem.run_bind, (eq_of_equal (x := x) (y := y) (by simp) (run_equal_sn hu)).1]; rfl) h

theorem x_nesn {t t2 e : Nat} {x y : Operand} {p : Option Addr} {l0 c0 : Nat} (r : Bool) (ho : ops[i]? = some ⟨d, .binOp .neq t x y t2, ty, ps, af, g⟩) (hg : guardV ops F g = some true) (hd : dstOK n d = true) (hu : P.underlying t = some (.slice e)) (hx : ev? F x = some (.slice p l0 c0)) (hy : ev? F y = some (.slice none 0 0)) (hr : (!p.isNone) = r) (h : Ex P n ops B dr K s (putE F d (.bool r)) ds T w) : Ex P n ops B dr K ((i, false) :: s) F ds T w :=
 Ex.pure_ ho hg hd _ (fun a hk w' => by subst hr; simp only [execOp, hk.eval hx, hk.eval hy]; rw [Sem.run_bind, (eq_of_equal (x := x) (y := y) (by simp) (run_equal_sn hu)).2]; rfl) h

theorem run_equal_mn {t e : TypeId} {p : Option Nat} {e2 : TypeId} {w : World} (hu : P.underlying t = some (.map e e2)) : (Op.equal t (.map p) (.map none)).run P w = .ok p.isNone w := by
 unfold Op.equal Op.maxDepth Op.equalIn
 rw [Sem.run_bind, run_underlying hu]
 simp only [Result.andThen_ok]
 cases p <;> rfl

theorem x_eqmn {t t2 e : Nat} {x y : Operand} {p : Option Nat} {e2 : TypeId} (r : Bool) (ho : ops[i]? = some ⟨d, .binOp .eql t x y t2, ty, ps, af, g⟩) (hg : guardV ops F g = some true) (hd : dstOK n d = true) (hu : P.underlying t = some (.map e e2)) (hx : ev? F x = some (.map p)) (hy : ev? F y = some (.map none)) (hr : p.isNone = r) (h : Ex P n ops B dr K s (putE F d (.bool r)) ds T w) : Ex P n ops B dr K ((i, false) :: s) F ds T w :=
 Ex.pure_ ho hg hd _ (fun a hk w' => by subst hr; simp only [execOp, hk.eval hx, hk.eval hy]; rw [Sem.run_bind, (eq_of_equal (x := x) (y := y) (by simp) (run_equal_mn hu)).1]; rfl) h

theorem x_nemn {t t2 e : Nat} {x y : Operand} {p : Option Nat} {e2 : TypeId} (r : Bool) (ho : ops[i]? = some ⟨d, .binOp .neq t x y t2, ty, ps, af, g⟩) (hg : guardV ops F g = some true) (hd : dstOK n d = true) (hu : P.underlying t = some (.map e e2)) (hx : ev? F x = some (.map p)) (hy : ev? F y = some (.map none)) (hr : (!p.isNone) = r) (h : Ex P n ops B dr K s (putE F d (.bool r)) ds T w) : Ex P n ops B dr K ((i, false) :: s) F ds T w :=
 Ex.pure_ ho hg hd _ (fun a hk w' => by subst hr; simp only [execOp, hk.eval hx, hk.eval hy]; rw [Sem.run_bind, (eq_of_equal (x := x) (y := y) (by simp) (run_equal_mn hu)).2]; rfl) h

theorem x_eqb {t t2 : Nat} {x y : Operand} {a0 b0 : Bool} (r : Bool) (ho : ops[i]? = some ⟨d, .binOp .eql t x y t2, ty, ps, af, g⟩) (hg : guardV ops F g = some true) (hd : dstOK n d = true) (hu : P.underlying t = some .bool) (hx : ev? F x = some (.bool a0)) (hy : ev? F y = some (.bool b0)) (hr : (a0 == b0) = r) (h : Ex P n ops B dr K s (putE F d (.bool r)) ds T w) : Ex P n ops B dr K ((i, false) :: s) F ds T w :=
 Ex.pure_ ho hg hd _ (fun a hk w' => by subst hr; simp only [execOp, hk.eval hx, hk.eval hy]; rw [Sem.run_bind, (eq_of_equal (x := x) (y := y) (r := a0 == b0) (by simp) (by unfold Op.equal Op.maxDepth Op.equalIn; rw [Sem.run_bind, run_underlying hu]; rfl)).1]; rfl) h

theorem x_neb {t t2 : Nat} {x y : Operand} {a0 b0 : Bool} (r : Bool) (ho : ops[i]? = some ⟨d, .binOp .neq t x y t2, ty, ps, af, g⟩) (hg : guardV ops F g = some true) (hd : dstOK n d = true) (hu : P.underlying t = some .bool) (hx : ev? F x = some (.bool a0)) (hy : ev? F y = some (.bool b0)) (hr : (!(a0 == b0)) = r) (h : Ex P n ops B dr K s (putE F d (.bool r)) ds T w) : Ex P n ops B dr K ((i, false) :: s) F ds T w :=
 Ex.pure_ ho hg hd _ (fun a hk w' => by subst hr; simp only [execOp, hk.eval hx, hk.eval hy]; rw [Sem.run_bind, (eq_of_equal (x := x) (y := y) (r := a0 == b0) (by simp) (by unfold Op.equal Op.maxDepth Op.equalIn; rw [Sem.run_bind, run_underlying hu]; rfl)).2]; rfl) h




end
end Go.Fw

namespace Go.Fw
open Go Go.RowKit
set_option linter.unusedVariables false
set_option linter.unusedSimpArgs false

structure W (P : Program) (n : Nat) (ro : Option Nat) (c : Code) (Q : Exit → Act → World → Prop) (F : Env) (ds : List Deferred) (w : World) : Prop where mk ::
 out : ∀ a, Knows n F ds a → c.wpIn (Fw ro) 0 P Q a w

structure At (n : Nat) (Q : Exit → Act → World → Prop) (e : Exit) (F : Env) (ds : List Deferred) (w : World) : Prop where mk ::
 out : ∀ a, Knows n F ds a → Q e a w

def allIn (F : Env) : Env → Prop
 | [] => True
 | (t, v) :: r => look F t = some v ∧ allIn F r

theorem allIn_look {F : Env} : ∀ {F' : Env}, allIn F F' → ∀ t v, look F' t = some v → look F t = some v
 | [], _, t, v, h => by cases h
 | (s, u) :: r, hi, t, v, h => by
  rw [look_put] at h
  by_cases e : s = t
  ·subst e; rw [if_pos rfl] at h; cases h; exact hi.1
  ·rw [if_neg e] at h; exact allIn_look hi.2 t v h

theorem Knows.sub {n : Nat} {F F' : Env} {ds : List Deferred} {a : Act} (h : Knows n F ds a) (hi : allIn F F') : Knows n F' ds a :=
 ⟨h.size, h.defers, fun t v hv => h.slot t v (allIn_look hi t v hv)⟩

section
variable {P : Program} {n : Nat} {ro : Option Nat} {Q : Exit → Act → World → Prop} {F : Env} {ds : List Deferred} {w : World}

theorem W.sub {c : Code} (F' : Env) (hi : allIn F F') (h : W P n ro c Q F' ds w) : W P n ro c Q F ds w := W.mk fun a hk => h.out a (hk.sub hi)
theorem At.sub {e : Exit} (F' : Env) (hi : allIn F F') (h : At n Q e F' ds w) : At n Q e F ds w := At.mk fun a hk => h.out a (hk.sub hi)

abbrev Thn (P : Program) (ro : Option Nat) (y : Code) (Q : Exit → Act → World → Prop) : Exit → Act → World → Prop := Exit.then (y.wpIn (Fw ro) 0 P Q) Q

theorem W.seq {x y : Code} (h : W P n ro x (Thn P ro y Q) F ds w) : W P n ro (.seq x y) Q F ds w := W.mk fun a hk => wpIn_seq (h.out a hk)
theorem W.skip (h : At n Q .normal F ds w) : W P n ro .skip Q F ds w := W.mk fun a hk => wpIn_skip (h.out a hk)
theorem W.exit {id : Nat} (h : At n Q (.exit id) F ds w) : W P n ro (.exit id) Q F ds w := W.mk fun a hk => wpIn_exit (h.out a hk)
theorem W.ret (h : At n Q .ret F ds w) : W P n ro .ret Q F ds w := W.mk fun a hk => wpIn_ret (h.out a hk)
theorem W.block {id : Nat} {c : Code} (h : W P n ro c (Exit.inBlock id Q) F ds w) : W P n ro (.block id c) Q F ds w := W.mk fun a hk => wpIn_block (h.out a hk)
theorem W.cond {c : Operand} {x y : Code} {b : Bool} (hc : ev? F c = some (.bool b)) (ht : b = true → W P n ro x Q F ds w) (hf : b = false → W P n ro y Q F ds w) : W P n ro (.cond c x y) Q F ds w :=
 W.mk fun a hk => wpIn_cond_split (hk.eval hc) (fun h => (ht h).out a hk) (fun h => (hf h).out a hk)
theorem W.condT {c : Operand} {x y : Code} (hc : ev? F c = some (.bool true)) (h : W P n ro x Q F ds w) : W P n ro (.cond c x y) Q F ds w := W.cond hc (fun _ => h) (fun e => by cases e)
theorem W.condF {c : Operand} {x y : Code} (hc : ev? F c = some (.bool false)) (h : W P n ro y Q F ds w) : W P n ro (.cond c x y) Q F ds w := W.cond hc (fun e => by cases e) (fun _ => h)

theorem At.then_n {y : Code} (h : W P n ro y Q F ds w) : At n (Thn P ro y Q) .normal F ds w := At.mk fun a hk => h.out a hk
theorem At.then_x {y : Code} {id : Nat} (h : At n Q (.exit id) F ds w) : At n (Thn P ro y Q) (.exit id) F ds w := At.mk fun a hk => h.out a hk
theorem At.then_r {y : Code} (h : At n Q .ret F ds w) : At n (Thn P ro y Q) .ret F ds w := At.mk fun a hk => h.out a hk
theorem At.blk_n {id : Nat} (h : At n Q .normal F ds w) : At n (Exit.inBlock id Q) .normal F ds w := At.mk fun a hk => h.out a hk
theorem At.blk_r {id : Nat} (h : At n Q .ret F ds w) : At n (Exit.inBlock id Q) .ret F ds w := At.mk fun a hk => h.out a hk
theorem At.blk_x {id : Nat} (h : At n Q .normal F ds w) : At n (Exit.inBlock id Q) (.exit id) F ds w := At.mk fun a hk => by simp only [Exit.inBlock, if_true]; exact h.out a hk
theorem At.blk_y {id id' : Nat} (hne : Nat.beq id' id = false) (h : At n Q (.exit id') F ds w) : At n (Exit.inBlock id Q) (.exit id') F ds w := At.mk fun a hk => by
 simp only [Exit.inBlock]
 rw [if_neg (fun e => by subst e; simp at hne)]
 exact h.out a hk

def ExT (P : Program) (n : Nat) (ops : Array Oper) (B : Array Nat) (K : KT) : Tr → Env → List Deferred → List (Nat × (World → Prop)) → World → Prop
 | .leaf s, F, ds, T, w => Ex P n ops B true K s F ds T w
 | .two s i p1 j p2 t, F, ds, T, w => Ex P n ops B true (fun F T w => Ex P n ops B true (fun F T w => ExT P n ops B K t F ds T w) ((i, true) :: p1) F ds T w ∧ Ex P n ops B true (fun F T w => ExT P n ops B K t F ds T w) ((j, true) :: p2) F ds T w) s F ds T w
 | .par s i t1 j t2, F, ds, T, w => Ex P n ops B true (fun F T w => Ex P n ops B true (fun F T w => ExT P n ops B K t1 F ds T w) [(i, true)] F ds T w ∧ Ex P n ops B true (fun F T w => ExT P n ops B K t2 F ds T w) [(j, true)] F ds T w) s F ds T w
 | .tri s i t1 j t2 k t3, F, ds, T, w => Ex P n ops B true (fun F T w => Ex P n ops B true (fun F T w => ExT P n ops B K t1 F ds T w) [(i, true)] F ds T w ∧ Ex P n ops B true (fun F T w => ExT P n ops B K t2 F ds T w) [(j, true)] F ds T w ∧ Ex P n ops B true (fun F T w => ExT P n ops B K t3 F ds T w) [(k, true)] F ds T w) s F ds T w

theorem ExT.tri {P : Program} {n : Nat} {ops : Array Oper} {B : Array Nat} {K : KT} {F : Env} {ds : List Deferred} {T : List (Nat × (World → Prop))} {w : World} {s : List (Nat × Bool)} {i j k : Nat} {t1 t2 t3 : Tr}
  (h : Ex P n ops B true (fun F T w => Ex P n ops B true (fun F T w => ExT P n ops B K t1 F ds T w) [(i, true)] F ds T w ∧ Ex P n ops B true (fun F T w => ExT P n ops B K t2 F ds T w) [(j, true)] F ds T w ∧ Ex P n ops B true (fun F T w => ExT P n ops B K t3 F ds T w) [(k, true)] F ds T w) s F ds T w) : ExT P n ops B K (.tri s i t1 j t2 k t3) F ds T w := h

theorem ExT.par {P : Program} {n : Nat} {ops : Array Oper} {B : Array Nat} {K : KT} {F : Env} {ds : List Deferred} {T : List (Nat × (World → Prop))} {w : World} {s : List (Nat × Bool)} {i j : Nat} {t1 t2 : Tr}
  (h : Ex P n ops B true (fun F T w => Ex P n ops B true (fun F T w => ExT P n ops B K t1 F ds T w) [(i, true)] F ds T w ∧ Ex P n ops B true (fun F T w => ExT P n ops B K t2 F ds T w) [(j, true)] F ds T w) s F ds T w) : ExT P n ops B K (.par s i t1 j t2) F ds T w := h
theorem ExT.leaf {P : Program} {n : Nat} {ops : Array Oper} {B : Array Nat} {K : KT} {F : Env} {ds : List Deferred} {T : List (Nat × (World → Prop))} {w : World} {s : List (Nat × Bool)} (h : Ex P n ops B true K s F ds T w) : ExT P n ops B K (.leaf s) F ds T w := h
theorem ExT.two {P : Program} {n : Nat} {ops : Array Oper} {B : Array Nat} {K : KT} {F : Env} {ds : List Deferred} {T : List (Nat × (World → Prop))} {w : World} {s p1 p2 : List (Nat × Bool)} {i j : Nat} {t : Tr}
  (h : Ex P n ops B true (fun F T w => Ex P n ops B true (fun F T w => ExT P n ops B K t F ds T w) ((i, true) :: p1) F ds T w ∧ Ex P n ops B true (fun F T w => ExT P n ops B K t F ds T w) ((j, true) :: p2) F ds T w) s F ds T w) : ExT P n ops B K (.two s i p1 j p2 t) F ds T w := h
theorem Ex.forkS {P : Program} {n : Nat} {ops : Array Oper} {B : Array Nat} {K : KT} {F : Env} {ds : List Deferred} {T : List (Nat × (World → Prop))} {w : World} (F' : Env) (hi : allIn F F') (h : K F' T w) : Ex P n ops B true K [] F ds T w := Ex.mk fun a TW hk hf => ⟨F', T, hk.sub hi, hf, h⟩

theorem runS_mono {P : Program} {ops : Array Oper} {B : Array Nat} {Q Q' : List Watch → Act → World → Prop} (hq : ∀ T a w, Q T a w → Q' T a w) : ∀ (s : List (Nat × Bool)) (T : List Watch) (a : Act) (w : World), runS P ops B Q s T a w → runS P ops B Q' s T a w := by
 intro s
 induction s with
 | nil => exact fun T a w h => hq T a w h
 | cons x s ih =>
  rintro T a w h
  obtain ⟨i, m⟩ := x
  obtain ⟨o, ho, h⟩ := h
  refine ⟨o, ho, ?_⟩
  cases m
  ·simp only [Bool.false_eq_true, if_false] at h ⊢
   obtain ⟨v, hy, h⟩ := h
   exact ⟨v, hy, ih _ _ _ h⟩
  ·simp only [if_true] at h ⊢
   exact stA_mono (fun a' w' h' => ⟨h'.1, ih _ _ _ h'.2⟩) h

theorem Ex.join {P : Program} {n : Nat} {ops : Array Oper} {B : Array Nat} {K : KT} {F : Env} {ds : List Deferred} {T : List (Nat × (World → Prop))} {w : World} {s1 s2 : List (Nat × Bool)} {t : Tr} (C : KT)
  (h1 : Ex P n ops B true C s1 F ds T w) (h2 : Ex P n ops B true C s2 F ds T w) (h : ∀ F T w, C F T w → ExT P n ops B K t F ds T w) :
  Ex P n ops B true (fun F T w => ExT P n ops B K t F ds T w) s1 F ds T w ∧ Ex P n ops B true (fun F T w => ExT P n ops B K t F ds T w) s2 F ds T w := by
 have key : ∀ s, Ex P n ops B true C s F ds T w → Ex P n ops B true (fun F T w => ExT P n ops B K t F ds T w) s F ds T w := fun s hs => Ex.mk fun a TW hk hf => by
  have := hs.out a TW hk hf
  simp only [cond_true] at this ⊢
  exact runS_mono (fun T a w ⟨F', T', hk', hf', h'⟩ => ⟨F', T', hk', hf', h F' T' w h'⟩) _ _ _ _ this
 exact ⟨key s1 h1, key s2 h2⟩

theorem runT_of_ExT {P : Program} {n : Nat} {ops : Array Oper} {B : Array Nat} {K : KT} {ds : List Deferred} {Q : Act → World → Prop} (hK : ∀ F T a w, Knows n F ds a → K F T w → Q a w) : ∀ (t : Tr) (F : Env) (T : List (Nat × (World → Prop))) (a : Act) (TW : List Watch) (w : World),
  Knows n F ds a → Fits P T TW → ExT P n ops B K t F ds T w → runT P ops B Q t TW a w
 | .leaf s, F, T, a, TW, w, hk, hf, h => by
  have h1 : runS P ops B (finT P n ds K) s TW a w := Ex.out h a TW hk hf
  exact runS_mono (fun T a w ⟨F', T', hk', _, h'⟩ => hK F' T' a w hk' h') s TW a w h1
 | .two s i p1 j p2 t, F, T, a, TW, w, hk, hf, h => by
  have h1 := Ex.out h a TW hk hf
  simp only [cond_true] at h1
  refine runS_mono ?_ s TW a w h1
  rintro TW' a' w' ⟨F', T', hk', hf', g1, g2⟩
  have g1 := g1.out a' TW' hk' hf'
  have g2 := g2.out a' TW' hk' hf'
  simp only [cond_true] at g1 g2
  refine ⟨runS_mono ?_ _ _ _ _ g1, runS_mono ?_ _ _ _ _ g2⟩
  ·rintro TW2 a2 w2 ⟨F2, T2, hk2, hf2, g⟩
   exact runT_of_ExT hK t F2 T2 a2 TW2 w2 hk2 hf2 g
  ·rintro TW2 a2 w2 ⟨F2, T2, hk2, hf2, g⟩
   exact runT_of_ExT hK t F2 T2 a2 TW2 w2 hk2 hf2 g
 | .par s i t1 j t2, F, T, a, TW, w, hk, hf, h => by
  have h1 := Ex.out h a TW hk hf
  simp only [cond_true] at h1
  refine runS_mono ?_ s TW a w h1
  rintro TW' a' w' ⟨F', T', hk', hf', g1, g2⟩
  have g1 := g1.out a' TW' hk' hf'
  have g2 := g2.out a' TW' hk' hf'
  simp only [cond_true] at g1 g2
  refine ⟨runS_mono ?_ _ _ _ _ g1, runS_mono ?_ _ _ _ _ g2⟩
  ·rintro TW2 a2 w2 ⟨F2, T2, hk2, hf2, g⟩
   exact runT_of_ExT hK t1 F2 T2 a2 TW2 w2 hk2 hf2 g
  ·rintro TW2 a2 w2 ⟨F2, T2, hk2, hf2, g⟩
   exact runT_of_ExT hK t2 F2 T2 a2 TW2 w2 hk2 hf2 g
 | .tri s i t1 j t2 k t3, F, T, a, TW, w, hk, hf, h => by
  have h1 := Ex.out h a TW hk hf
  simp only [cond_true] at h1
  refine runS_mono ?_ s TW a w h1
  rintro TW' a' w' ⟨F', T', hk', hf', g1, g2, g3⟩
  have g1 := g1.out a' TW' hk' hf'
  have g2 := g2.out a' TW' hk' hf'
  have g3 := g3.out a' TW' hk' hf'
  simp only [cond_true] at g1 g2 g3
  refine ⟨runS_mono ?_ _ _ _ _ g1, runS_mono ?_ _ _ _ _ g2, runS_mono ?_ _ _ _ _ g3⟩
  ·rintro TW2 a2 w2 ⟨F2, T2, hk2, hf2, g⟩
   exact runT_of_ExT hK t1 F2 T2 a2 TW2 w2 hk2 hf2 g
  ·rintro TW2 a2 w2 ⟨F2, T2, hk2, hf2, g⟩
   exact runT_of_ExT hK t2 F2 T2 a2 TW2 w2 hk2 hf2 g
  ·rintro TW2 a2 w2 ⟨F2, T2, hk2, hf2, g⟩
   exact runT_of_ExT hK t3 F2 T2 a2 TW2 w2 hk2 hf2 g

theorem W.regT {id : Nat} {ops : Array Oper} (hm : P.follows .mixedOrders = true) (B : Array Nat) (t : Tr) (hs : treeOK ops B t = true)
  (h : ∀ (K : KT) w1, (∀ F' w', At n Q .normal F' ds w' → ∀ T, K F' T w') → w1 = w.drew → ExT P n ops B K t F ds [] w1) : W P n ro (.region id ops true) Q F ds w := W.mk fun a hk => by
 refine region_tree hm hs ?_
 have h1 := h (fun F' _ w' => At n Q .normal F' ds w') _ (fun _ _ h _ => h) rfl
 exact runT_of_ExT (fun F T a w hk h => h.out a hk) t F [] a [] _ hk (fun x hx => by cases hx) h1

theorem W.regD {id : Nat} {ops : Array Oper} (hm : P.follows .mixedOrders = true) (B : Array Nat) (s : List (Nat × Bool)) (hs : schedOK ops B s = true)
  (h : ∀ (K : KT) w1, (∀ F' w', At n Q .normal F' ds w' → ∀ T, K F' T w') → w1 = w.drew → Ex P n ops B true K s F ds [] w1) : W P n ro (.region id ops true) Q F ds w :=
 W.regT hm B (.leaf s) hs h

theorem W.reg {id : Nat} {ops : Array Oper} (s : List (Nat × Bool)) (hs : plainOK ops s = true)
  (h : ∀ K : KT, (∀ F' w', At n Q .normal F' ds w' → ∀ T, K F' T w') → Ex P n ops #[] false K s F ds [] w) : W P n ro (.region id ops false) Q F ds w := W.mk fun a hk => by
 refine region_plain hs ?_
 have h1 := h (fun F' _ w' => At n Q .normal F' ds w') (fun _ _ h _ => h)
 have h1 := h1.out a [] hk (fun x hx => by cases hx)
 have key : ∀ (s : List (Nat × Bool)) (a : Act) (w : World), runL P ops (fin n ds fun F' _ w' => At n Q .normal F' ds w') s a w → runL P ops (Q .normal) s a w := by
  intro s
  induction s with
  | nil => rintro a w ⟨F', hk, hq⟩; exact (hq []).out a hk
  | cons x s ih =>
   intro a w h
   exact stA_mono (fun a' w' h' => ih _ _ h') h
 exact key _ _ _ h1

abbrev CutQ (n : Nat) (ds : List Deferred) (C : Env → World → Prop) (Q : Exit → Act → World → Prop) : Exit → Act → World → Prop := Exit.then (fun a w' => ∃ F', Knows n F' ds a ∧ C F' w') Q
theorem W.seqC {x y : Code} (C : Env → World → Prop) (h1 : W P n ro x (CutQ n ds C Q) F ds w) (h2 : ∀ F' w', C F' w' → W P n ro y Q F' ds w') : W P n ro (.seq x y) Q F ds w :=
 W.mk fun a hk => wpIn_seq (wpIn_mono (h1.out a hk) fun e a w hq => by
  cases e with
  | normal => obtain ⟨F', hk', hC⟩ := hq; exact (h2 F' w hC).out a hk'
  | _ => exact hq)
theorem At.cut_n {C : Env → World → Prop} (h : C F w) : At n (CutQ n ds C Q) .normal F ds w := At.mk fun _ hk => ⟨F, hk, h⟩
theorem At.cut_x {C : Env → World → Prop} {id : Nat} (h : At n Q (.exit id) F ds w) : At n (CutQ n ds C Q) (.exit id) F ds w := At.mk fun a hk => h.out a hk
theorem At.cut_r {C : Env → World → Prop} (h : At n Q .ret F ds w) : At n (CutQ n ds C Q) .ret F ds w := At.mk fun a hk => h.out a hk

theorem wpIn_loop_rel {ro : Option Nat} {P : Program} {Q : Exit → Act → World → Prop} {a : Act} {w : World} {c : Code} (J : Nat → Act → World → Prop) (m0 : Nat) (h₀ : J m0 a w)
  (round : ∀ m a w, J m a w → c.wpIn (Fw ro) 0 P (Exit.then (fun a' w' => ∃ m', m' < m ∧ J m' a' w') Q) a w) : (Code.loop c).wpIn (Fw ro) 0 P Q a w := by
 intro b k cs hro hb hr
 have key : ∀ j a w, J j a w →
   ∃ e a' w', Q e a' w' ∧ ArrivesIn (Machine.fenced P (Fw ro)) P (lone (b.atR a (.code c :: .inLoop c :: k)) cs w) b k cs e a' w' := by
  intro j
  induction j using Nat.strongRecOn with
  | _ j ih =>
   intro a w hI
   obtain ⟨e, a₁, w₁, hq, harr⟩ := round j a w hI b (.inLoop c :: k) cs hro hb hr
   cases e with
   | normal =>
    obtain ⟨m', hlt, hI₁⟩ := hq
    obtain ⟨e₂, a₂, w₂, hq₂, harr₂⟩ := ih m' hlt a₁ w₁ hI₁
    exact ⟨e₂, a₂, w₂, hq₂, .of_steps (StepsIn.trans harr (.one (fenced_calm (n := 0) hb hr rfl) stepR_inLoop)) harr₂⟩
   | exit id => exact ⟨_, a₁, w₁, hq, .pass (x := .inLoop c) rfl (fun _ _ => .inl (by simp)) harr⟩
   | goto l => exact ⟨_, a₁, w₁, hq, .pass (x := .inLoop c) rfl (fun _ _ => .inl (by simp)) harr⟩
   | ret => exact ⟨_, a₁, w₁, hq, .pass (x := .inLoop c) rfl (fun _ _ => .inl (by simp)) harr⟩
   | panic ch => exact ⟨_, a₁, w₁, hq, .pass (x := .inLoop c) rfl (fun _ _ => .inl (by simp)) harr⟩
   | outgrown => exact ⟨_, a₁, w₁, hq, .pass (x := .inLoop c) rfl (fun _ _ => .inl (by simp)) harr⟩
 obtain ⟨e, a', w', hq, harr⟩ := key _ a w h₀
 exact ⟨e, a', w', hq, .of_steps (.one (fenced_calm (n := 0) hb hr rfl) stepR_loop) harr⟩

abbrev LoopQ {σ : Type} (n : Nat) (ds : List Deferred) (Fσ : σ → Env) (I : σ → World → Prop) (μ : σ → Nat) (s : σ) (Q : Exit → Act → World → Prop) : Exit → Act → World → Prop :=
 Exit.then (fun a' w' => ∃ m', m' < μ s ∧ ∃ s', μ s' = m' ∧ Knows n (Fσ s') ds a' ∧ I s' w') Q

theorem W.loop {σ : Type} {c : Code} (Fσ : σ → Env) (I : σ → World → Prop) (μ : σ → Nat) (s0 : σ) (h0 : allIn F (Fσ s0)) (hI : I s0 w)
  (round : ∀ s w, I s w → W P n ro c (LoopQ n ds Fσ I μ s Q) (Fσ s) ds w) : W P n ro (.loop c) Q F ds w := W.mk fun a hk => by
 refine wpIn_loop_rel (fun m a w => ∃ s, μ s = m ∧ Knows n (Fσ s) ds a ∧ I s w) (μ s0) ⟨s0, rfl, hk.sub h0, hI⟩ ?_
 rintro m a w ⟨s, rfl, hk, hi⟩
 exact (round s w hi).out a hk

theorem At.back {σ : Type} {Fσ : σ → Env} {I : σ → World → Prop} {μ : σ → Nat} {s : σ} (s' : σ) (hF : allIn F (Fσ s')) (hI : I s' w) (hμ : μ s' < μ s) :
  At n (LoopQ n ds Fσ I μ s Q) .normal F ds w := At.mk fun a hk => ⟨_, hμ, s', rfl, hk.sub hF, hI⟩
theorem At.loop_x {σ : Type} {Fσ : σ → Env} {I : σ → World → Prop} {μ : σ → Nat} {s : σ} {id : Nat} (h : At n Q (.exit id) F ds w) : At n (LoopQ n ds Fσ I μ s Q) (.exit id) F ds w := At.mk fun a hk => h.out a hk
theorem At.loop_r {σ : Type} {Fσ : σ → Env} {I : σ → World → Prop} {μ : σ → Nat} {s : σ} (h : At n Q .ret F ds w) : At n (LoopQ n ds Fσ I μ s Q) .ret F ds w := At.mk fun a hk => h.out a hk

def Lv (P : Program) (fn : Func) (tmps : Array Value) (R : Value → World → Prop) : List Deferred → World → Prop
 | [], w => ∃ v, (results fn tmps).run P w = .ok v w ∧ R v w
 | d :: ds, w => ∃ r, d.target = .collected r ∧ w.heap[r]? = some (.deferred (some [])) ∧ Lv P fn tmps R ds (w.putObj r (.deferred none))

def RetQ (P : Program) (fn : Func) (R : Value → World → Prop) : Exit → Act → World → Prop
 | .normal, a, w => Lv P fn a.tmps R a.defers w
 | .ret, a, w => Lv P fn a.tmps R a.defers w
 | _, _, _ => False

theorem leaves_of_Lv {fn : Func} {tmps : Array Value} {R : Value → World → Prop} : ∀ (ds : List Deferred) (w : World), Lv P fn tmps R ds w → LeavesInM (Fw none) 0 P fn tmps (fun e w' => ∃ v, e = .returned v ∧ R v w') ds .returning w
 | [], w, h => by
  obtain ⟨v, hr, hR⟩ := h
  exact ⟨v, hr, v, rfl, hR⟩
 | d :: ds, w, h => by
  obtain ⟨r, ht, hb, h⟩ := h
  exact ⟨by simp, .inl ⟨r, _, ht, run_takeDeferred hb, leaves_of_Lv ds _ h⟩⟩

def argE : Nat → List Value → Env
 | _, [] => []
 | k, v :: r => (k, v) :: argE (k + 1) r

theorem look_argE : ∀ (vs : List Value) (k t : Nat) (v : Value), look (argE k vs) t = some v → k ≤ t ∧ vs[t - k]? = some v
 | [], _, _, _, h => by cases h
 | u :: r, k, t, v, h => by
  simp only [argE] at h
  rw [look_put] at h
  by_cases e : k = t
  ·subst e; rw [if_pos rfl] at h; cases h; exact ⟨Nat.le_refl _, by simp⟩
  ·rw [if_neg e] at h
   obtain ⟨h1, h2⟩ := look_argE r (k + 1) t v h
   refine ⟨by omega, ?_⟩
   rw [show t - k = (t - (k + 1)) + 1 from by omega]
   simpa using h2

theorem Ret.of_W {f : FuncId} {fn : Func} {c : Code} {args : Array Value} {R : Value → World → Prop} (hf : P.funcs[f]? = some fn) (hb : fn.body = some c) (hn : fn.ntmps = n) (hle : Nat.ble args.size n = true)
  (h : W P n none c (RetQ P fn R) (argE 0 args.toList) [] w) : Ret P f args w R := by
 have hle := Nat.le_of_ble_eq_true hle
 refine callsIn_of_wp_marks hf hb trivial ?_
 have hk : Knows n (argE 0 args.toList) [] { tmps := args ++ Array.replicate (fn.ntmps - args.size) undef, defers := [] } := by
  refine ⟨by simp [hn]; omega, rfl, fun t v hv => ?_⟩
  obtain ⟨_, h2⟩ := look_argE _ _ _ _ hv
  simp only [Nat.sub_zero, Array.getElem?_toList] at h2
  have hlt : t < args.size := (Array.getElem?_eq_some_iff.1 h2).1
  simp only
  rw [Array.getElem?_append_left hlt]
  exact h2
 refine wpIn_mono (h.out _ hk) ?_
 intro e a w hq
 cases e with
 | normal => exact leaves_of_Lv _ _ hq
 | ret => exact leaves_of_Lv _ _ hq
 | exit id => exact hq.elim
 | goto t => exact hq.elim
 | panic ch => exact hq.elim
 | outgrown => exact hq.elim

def ResAt (P : Program) (F : Env) (w : World) : List ResultVar → List Value → Prop
 | [], [] => True
 | .tmp t :: r, v :: vs => look F t = some v ∧ ResAt P F w r vs
 | .cell a ty :: r, v :: vs => (∃ p, look F a = some (.pointer (some p)) ∧ (loadVar ty p).run P w = .ok v w) ∧ ResAt P F w r vs
 | _, _ => False

def tup : List Value → Value
 | [v] => v
 | vs => .tuple vs.toArray

theorem run_results {fn : Func} {a : Act} (hk : Knows n F ds a) {rs : List ResultVar} {vs : List Value} (hr : fn.results = rs.toArray) (h : ResAt P F w rs vs) : (results fn a.tmps).run P w = .ok (tup vs) w := by
 have key : ∀ (G : ResultVar → Sem Value), (∀ t, G (.tmp t) = pure (a.tmps.getD t undef)) → (∀ b t, G (.cell b t) = do loadVar t (← asAddr (a.tmps.getD b undef))) →
   ∀ (rs : List ResultVar) (vs : List Value), ResAt P F w rs vs → (rs.mapM G).run P w = .ok vs w := by
  intro G hG1 hG2 rs
  induction rs with
  | nil => intro vs h; cases vs with | nil => rfl | cons v vs => exact h.elim
  | cons x rs ih =>
   intro vs h
   cases vs with
   | nil => cases x <;> exact h.elim
   | cons v vs =>
    cases x with
    | tmp t =>
     obtain ⟨h1, h2⟩ := h
     have e1 : a.tmps.getD t undef = v := by simp [hk.slot t v h1]
     simp only [List.mapM_cons, hG1, Sem.run_bind, Sem.run_pure, Result.andThen_ok, ih vs h2, e1]
    | cell b ty =>
     obtain ⟨⟨p, h1, h3⟩, h2⟩ := h
     have e1 : a.tmps.getD b undef = .pointer (some p) := by simp [hk.slot b _ h1]
     have e2 : (asAddr (.pointer (some p))).run P w = .ok p w := rfl
     simp only [List.mapM_cons, hG2, Sem.run_bind, Sem.run_pure, Result.andThen_ok, e1, e2, h3, ih vs h2]
 unfold results
 rw [Sem.run_bind, hr, List.mapM_toArray, Sem.run_map, key _ (fun _ => rfl) (fun _ _ => rfl) rs vs h]
 simp only [Result.andThen_ok, Sem.run_pure]
 congr 1
 cases vs with
 | nil => rfl
 | cons v vs => cases vs with
  | nil => rfl
  | cons u us => simp [tup]

theorem At.ret {fn : Func} {R : Value → World → Prop} (rs : List ResultVar) (vs : List Value) (hr : fn.results = rs.toArray) (h : ResAt P F w rs vs) (hR : R (tup vs) w) : At n (RetQ P fn R) .ret F [] w := At.mk fun a hk => by
 show Lv P fn a.tmps R a.defers w
 rw [hk.defers]
 exact ⟨_, run_results hk hr h, hR⟩

theorem At.ret0 {fn : Func} {R : Value → World → Prop} (hr : fn.results = #[]) (hR : R (.tuple #[]) w) : At n (RetQ P fn R) .ret F [] w := At.ret [] [] hr trivial hR
theorem At.ret1 {fn : Func} {R : Value → World → Prop} (r : ResultVar) {v : Value} (hr : fn.results = #[r]) (h : ResAt P F w [r] [v]) (hR : R v w) : At n (RetQ P fn R) .ret F [] w := At.ret [r] [v] hr h hR
theorem At.ret2 {fn : Func} {R : Value → World → Prop} (r r2 : ResultVar) {v v2 : Value} (hr : fn.results = #[r, r2]) (h : ResAt P F w [r, r2] [v, v2]) (hR : R (.tuple #[v, v2]) w) : At n (RetQ P fn R) .ret F [] w := At.ret [r, r2] [v, v2] hr h hR
theorem At.ret3 {fn : Func} {R : Value → World → Prop} (r r2 r3 : ResultVar) {v v2 v3 : Value} (hr : fn.results = #[r, r2, r3]) (h : ResAt P F w [r, r2, r3] [v, v2, v3]) (hR : R (.tuple #[v, v2, v3]) w) : At n (RetQ P fn R) .ret F [] w := At.ret [r, r2, r3] [v, v2, v3] hr h hR

theorem At.fall {fn : Func} {R : Value → World → Prop} (h : At n (RetQ P fn R) .ret F ds w) : At n (RetQ P fn R) .normal F ds w := At.mk h.out

theorem At.mark {fn : Func} {R : Value → World → Prop} {r : Nat} {asg : Array Value} (hb : w.heap[r]? = some (.deferred (some []))) (h : At n (RetQ P fn R) .ret F ds (w.putObj r (.deferred none))) : At n (RetQ P fn R) .ret F ({ target := .collected r, args := asg } :: ds) w := At.mk fun a hk => by
 show Lv P fn a.tmps R a.defers w
 rw [hk.defers]
 refine ⟨r, rfl, hb, ?_⟩
 have h1 := h.out { a with defers := ds } ⟨hk.size, rfl, hk.slot⟩
 exact h1

/-! ## Loops over functions -/
structure KnowsT (n : Nat) (F : Env) (tmps : Array Value) : Prop where
 size : tmps.size = n
 slot : ∀ t v, look F t = some v → tmps[t]? = some v

def Yld (P : Program) (l : Nat) (args : List Value) (w : World) (R : Value → World → Prop) : Prop :=
 ∃ r, w.heap[l]? = some (.loop r) ∧ args.length = r.params.size ∧ Rnd P l r.fn ((r.params.zip args.toArray).foldl (fun tmps (t, a) => tmps.setIfInBounds t a) r.tmps) r.assign r.body w R

def LoopAt (w : World) (l : Nat) (r : Loop) (st : LoopState) (pe : Option Code) : Prop := w.heap[l]? = some (.loop { r with state := st, pending := pe })

def RndQ (l : Nat) (r : Loop) (R : Value → World → Prop) : Exit → Act → World → Prop
 | .normal, _, w => LoopAt w l r .busy none ∧ R (.bool true) (w.putObj l (.loop { r with state := .ready, pending := none }))
 | .ret, _, w => LoopAt w l r .busy none ∧ R (.bool false) (w.putObj l (.loop { r with state := .done, pending := some .ret }))
 | .exit id, _, w => LoopAt w l r .busy none ∧ R (.bool false) (w.putObj l (.loop { r with state := .done, pending := some (.exit id) }))
 | _, _, _ => False

def AsgQ (P : Program) (n : Nat) (l : Nat) (r : Loop) (R : Value → World → Prop) : Exit → Act → World → Prop
 | .normal, a, w => LoopAt w l r .ready none ∧ r.body.wpIn (Fw (some l)) 0 P (RndQ l r R) a (w.putObj l (.loop { r with state := .busy, pending := none }))
 | _, _, _ => False

theorem At.asg {l : Nat} {r : Loop} {R : Value → World → Prop} {b : Code} (hb : r.body = b) (hl : LoopAt w l r .ready none) (h : W P n (some l) b (RndQ l r R) F ds (w.putObj l (.loop { r with state := .busy, pending := none }))) : At n (AsgQ P n l r R) .normal F ds w := by
 subst hb
 exact At.mk fun a hk => ⟨hl, h.out a hk⟩

theorem At.rnd_n {l : Nat} {r : Loop} {R : Value → World → Prop} (hl : LoopAt w l r .busy none) (h : R (.bool true) (w.putObj l (.loop { r with state := .ready, pending := none }))) : At n (RndQ l r R) .normal F ds w := At.mk fun _ _ => ⟨hl, h⟩
theorem At.rnd_r {l : Nat} {r : Loop} {R : Value → World → Prop} (hl : LoopAt w l r .busy none) (h : R (.bool false) (w.putObj l (.loop { r with state := .done, pending := some .ret }))) : At n (RndQ l r R) .ret F ds w := At.mk fun _ _ => ⟨hl, h⟩


theorem Yld.one {l : Nat} {r : Loop} {p : Tmp} {v : Value} {asg : Code} {R : Value → World → Prop} (hl : LoopAt w l r .ready none) (hk : KnowsT n F r.tmps) (hp : r.params = #[p]) (hlt : Nat.blt p n = true) (has : r.assign = asg)
  (h : W P n (some l) asg (AsgQ P n l r R) ((p, v) :: F) [] w) : Yld P l [v] w R := by
 refine ⟨_, hl, by simp [hp], ?_⟩
 have hlt : p < n := by simpa [Nat.blt_eq] using hlt
 have hk2 : Knows n ((p, v) :: F) [] { tmps := r.tmps.setIfInBounds p v, defers := [] } := by
  refine ⟨by simp [hk.size], rfl, fun t u hu => ?_⟩
  rw [look_put] at hu
  by_cases e : p = t
  ·subst e; rw [if_pos rfl] at hu; cases hu; simp [hk.size, hlt]
  ·rw [if_neg e] at hu; simp only; rw [Array.getElem?_setIfInBounds_ne e]; exact hk.slot t u hu
 have h1 := h.out _ hk2
 unfold Rnd
 refine roundIn_of_wpIn (F := Fw none) trivial ?_
 simp only [hp, has]
 simp only [Array.zip, List.zip_toArray] at *
 have e0 : (Array.foldl (fun tmps (x : Tmp × Value) => tmps.setIfInBounds x.fst x.snd) r.tmps (Array.zipWith Prod.mk #[p] [v].toArray)) = r.tmps.setIfInBounds p v := by simp
 rw [e0]
 refine wpIn_mono h1 ?_
 intro e a w1 hq
 cases e with
 | normal =>
  obtain ⟨hl1, hb⟩ := hq
  refine ⟨_, run_beginRound hl1 rfl, ?_⟩
  refine wpIn_mono hb ?_
  intro e a w2 hq
  cases e with
  | normal => exact ⟨_, _, run_endRound none hq.1, _, rfl, hq.2⟩
  | ret => exact ⟨_, _, run_endRound (some .ret) hq.1, _, rfl, hq.2⟩
  | exit id => exact ⟨_, _, run_endRound (some (.exit id)) hq.1, _, rfl, hq.2⟩
  | goto t => exact hq.elim
  | panic ch => exact hq.elim
  | outgrown => exact hq.elim
 | ret => exact hq.elim
 | exit id => exact hq.elim
 | goto t => exact hq.elim
 | panic ch => exact hq.elim
 | outgrown => exact hq.elim

def RngQ (P : Program) (n : Nat) (l : Nat) (r : Loop) (Q : Exit → Act → World → Prop) (ro : Option Nat) (F : Env) (ds : List Deferred) (w : World) : Prop :=
 (∃ st, st ≠ LoopState.busy ∧ LoopAt w l r st none ∧ At n Q .normal F ds (w.putObj l (.loop { r with state := .exhausted, pending := none }))) ∨
 (∃ st c, st ≠ LoopState.busy ∧ LoopAt w l r st (some c) ∧ W P n ro c Q F ds (w.putObj l (.loop { r with state := .exhausted, pending := some c })))

theorem W.range {g : Operand} {ps : Array Tmp} {asg body : Code} {gf : FuncId} {lb : Array Value} (hg : ev? F g = some (.func (.func gf) #[] lb)) (he : entered P gf = true)
  (h : ∀ r : Loop, KnowsT n F r.tmps → r.params = ps → r.assign = asg → r.body = body →
   ∀ w1, w1 = ((w.alloc (.deferred (some []))).alloc (.loop { r with state := .ready, pending := none })) →
   Ret P gf (#[.func (.yield (w.heap.size + 1)) #[] #[]] ++ lb) w1 fun _ w2 => RngQ P n (w.heap.size + 1) r Q none F ({ target := .collected w.heap.size, args := #[] } :: ds) w2) :
  W P n none (.rangeFunc g ps asg body) Q F ds w := W.mk fun a hk => by
 refine wpIn_rangeFunc ?_
 intro fn _
 have h1 := h { state := .ready, pending := none, fn, tmps := a.tmps, params := ps, assign := asg, body, defers := w.heap.size } ⟨hk.size, hk.slot⟩ rfl rfl rfl _ rfl
 refine ⟨w.heap.size + 1, [{ target := .collected w.heap.size, args := #[] }], (w.alloc (.deferred (some []))).alloc (.loop { state := .ready, pending := none, fn, tmps := a.tmps, params := ps, assign := asg, body, defers := w.heap.size }), { target := .fn (.func gf) lb, args := #[.func (.yield (w.heap.size + 1)) #[] #[]] }, (w.alloc (.deferred (some []))).alloc (.loop { state := .ready, pending := none, fn, tmps := a.tmps, params := ps, assign := asg, body, defers := w.heap.size }), gf, #[.func (.yield (w.heap.size + 1)) #[] #[]] ++ lb, (w.alloc (.deferred (some []))).alloc (.loop { state := .ready, pending := none, fn, tmps := a.tmps, params := ps, assign := asg, body, defers := w.heap.size }), run_enterLoop_outer _ _ _ _ _, ?_, fun _ _ => trivial, ?_, fun hd => by simp [Fw] at hd, ?_⟩
 ·simp only [resolve, hk.eval hg]
  simp [Deferred.ofValue, Act.eval]
 ·simp only [invoke, run_callFunc he]
 ·refine CallsIn.mono h1 ?_
  rintro e w3 ⟨v, rfl, hq⟩
  have hk2 : Knows n F ({ target := .collected w.heap.size, args := #[] } :: ds) { a with defers := [{ target := .collected w.heap.size, args := #[] }] ++ a.defers } := ⟨hk.size, by simp [hk.defers], hk.slot⟩
  rcases hq with ⟨st, hst, hl, hn⟩ | ⟨st, c, hst, hl, hn⟩
  ·exact ⟨none, _, run_endLoop hl hst, hn.out _ hk2⟩
  ·exact ⟨some c, _, run_endLoop hl hst, hn.out _ hk2⟩

end

theorem Ret.calls {P : Program} {f : FuncId} {args : Array Value} {w : World} {R : Value → World → Prop} (h : Ret P f args w R) : Calls P f args w fun e w' => ∃ v, e = .returned v ∧ R v w' :=
 CallsIn.calls h fun _ => room_all _ _

end Go.Fw

namespace Go.Fw
open Go Go.RowKit
set_option linter.unusedVariables false
set_option linter.unusedSimpArgs false

structure St (S : Nat → Prop) (w0 : World) (L : List (Nat × Obj)) (w : World) : Prop where
 size : w0.heap.size ≤ w.heap.size
 old : ∀ b, b < w0.heap.size → ¬ S b → w.heap[b]? = w0.heap[b]?
 nd : (L.map (·.1)).Nodup
 own : ∀ x ∈ L, w.heap[x.1]? = some x.2 ∧ (S x.1 ∨ w0.heap.size ≤ x.1)
 os : w.os = w0.os
 tape : w.tape = w0.tape
 output : w.output = w0.output

abbrev Frm (S : Nat → Prop) (w0 w : World) : Prop := St S w0 [] w
def None' : Nat → Prop := fun _ => False
abbrev New (w0 w : World) : Prop := Frm None' w0 w

section
variable {S : Nat → Prop} {w0 w w1 : World} {L : List (Nat × Obj)}

theorem Frm.refl (S : Nat → Prop) (w : World) : Frm S w w := ⟨Nat.le_refl _, fun _ _ _ => rfl, by simp, by simp, rfl, rfl, rfl⟩
theorem St.frm (h : St S w0 L w) : Frm S w0 w := ⟨h.size, h.old, by simp, by simp, h.os, h.tape, h.output⟩
theorem St.at_ (h : St S w0 L w) (k : Nat) {b : Nat} {o : Obj} (hk : L[k]? = some (b, o)) : w.heap[b]? = some o := (h.own (b, o) (List.mem_of_getElem? hk)).1
theorem St.get (h : St S w0 L w) {b : Nat} {o : Obj} (hk : (b, o) ∈ L) : w.heap[b]? = some o := (h.own (b, o) hk).1
theorem St.lt (h : St S w0 L w) {b : Nat} {o : Obj} (hk : (b, o) ∈ L) : b < w.heap.size := (Array.getElem?_eq_some_iff.1 (h.get hk)).1
theorem St.sub {L' : List (Nat × Obj)} (h : St S w0 L w) (hs : L'.Sublist L) : St S w0 L' w := ⟨h.size, h.old, (hs.map _).nodup h.nd, fun x hx => h.own x (hs.subset hx), h.os, h.tape, h.output⟩
theorem St.perm {L' : List (Nat × Obj)} (h : St S w0 L w) (hs : L.Perm L') : St S w0 L' w := ⟨h.size, h.old, (hs.map _).nodup_iff.1 h.nd, fun x hx => h.own x (hs.symm.subset hx), h.os, h.tape, h.output⟩

theorem St.drew (h : St S w0 L w) (hw : w1 = w.drew) : St S w0 L w1 := by subst hw; exact ⟨h.size, h.old, h.nd, h.own, h.os, h.tape, h.output⟩

theorem heap_alloc (w : World) (o : Obj) (b : Nat) : (w.alloc o).heap[b]? = if b = w.heap.size then some o else w.heap[b]? := by
 show (w.heap.push o)[b]? = _
 rw [Array.getElem?_push]

theorem heap_putObj (w : World) (b k : Nat) (o : Obj) : (w.putObj b o).heap[k]? = if k = b ∧ b < w.heap.size then some o else w.heap[k]? := by
 simp only [World.putObj, Array.getElem?_setIfInBounds]
 by_cases h : b = k
 ·subst h
  by_cases h2 : b < w.heap.size
  ·simp [h2]
  ·simp [h2]
 ·rw [if_neg h, if_neg (fun e => h e.1.symm)]

theorem St.alloc (h : St S w0 L w) {o : Obj} {b : Nat} (hb : b = w.heap.size) (hw : w1 = w.alloc o) : St S w0 (L ++ [(b, o)]) w1 := by
 subst hw hb
 refine ⟨by simp; have := h.size; omega, fun b hb hS => ?_, ?_, fun x hx => ?_, h.os, h.tape, h.output⟩
 ·rw [heap_alloc, if_neg (by have := h.size; omega)]; exact h.old b hb hS
 ·rw [List.map_append, List.nodup_append]
  refine ⟨h.nd, by simp, ?_⟩
  intro a ha c hc
  simp at hc
  subst hc
  obtain ⟨x, hx, rfl⟩ := List.mem_map.1 ha
  have := (Array.getElem?_eq_some_iff.1 (h.own x hx).1).1
  omega
 ·rcases List.mem_append.1 hx with hx | hx
  ·obtain ⟨h1, h2⟩ := h.own x hx
   have := (Array.getElem?_eq_some_iff.1 h1).1
   exact ⟨by rw [heap_alloc, if_neg (by omega)]; exact h1, h2⟩
  ·simp at hx
   subst hx
   exact ⟨by rw [heap_alloc, if_pos rfl], .inr h.size⟩

theorem nodup_at : ∀ {L : List (Nat × Obj)} {i j : Nat} {b : Nat} {o o' : Obj}, (L.map (·.1)).Nodup → L[i]? = some (b, o) → L[j]? = some (b, o') → i = j := by
 intro L i j b o o' hnd hi hj
 have h1 : (L.map (·.1))[i]? = some b := by simp [hi]
 have h2 : (L.map (·.1))[j]? = some b := by simp [hj]
 have hlt : i < (L.map (·.1)).length := (List.getElem?_eq_some_iff.1 h1).1
 have hlt2 : j < (L.map (·.1)).length := (List.getElem?_eq_some_iff.1 h2).1
 rw [List.getElem?_eq_getElem hlt] at h1
 rw [List.getElem?_eq_getElem hlt2] at h2
 exact (List.getElem_inj hnd).1 (by rw [Option.some.inj h1, Option.some.inj h2])

theorem St.put (h : St S w0 L w) (k : Nat) {b : Nat} {o0 o : Obj} (hk : L[k]? = some (b, o0)) (hw : w1 = w.putObj b o) : St S w0 (L.set k (b, o)) w1 := by
 subst hw
 have hmem := List.mem_of_getElem? hk
 obtain ⟨hb, hS⟩ := h.own (b, o0) hmem
 have hlt : b < w.heap.size := (Array.getElem?_eq_some_iff.1 hb).1
 have hkl : k < L.length := (List.getElem?_eq_some_iff.1 hk).1
 have hmap : (L.set k (b, o)).map (·.1) = L.map (·.1) := by
  apply List.ext_getElem?
  intro j
  rw [List.getElem?_map, List.getElem?_map, List.getElem?_set]
  split
  ·rename_i e; subst e; rw [hk]; rfl
  ·rfl
 refine ⟨by simpa using h.size, fun c hc hcS => ?_, by rw [hmap]; exact h.nd, fun x hx => ?_, h.os, h.tape, h.output⟩
 ·rw [heap_putObj, if_neg ?_]
  ·exact h.old c hc hcS
  ·rintro ⟨rfl, _⟩
   simp only at hS
   rcases hS with hS | hS
   ·exact hcS hS
   ·omega
 ·obtain ⟨j, hj⟩ := List.getElem?_of_mem hx
  rw [List.getElem?_set] at hj
  split at hj
  ·rename_i e; subst e
   cases hj
   exact ⟨by rw [heap_putObj, if_pos ⟨rfl, hlt⟩], hS⟩
  ·rename_i e
   obtain ⟨h1, h2⟩ := h.own x (List.mem_of_getElem? hj)
   refine ⟨?_, h2⟩
   rw [heap_putObj, if_neg ?_]
   ·exact h1
   ·rintro ⟨e2, _⟩
    apply e
    obtain ⟨xb, xo⟩ := x
    simp only at e2
    subst e2
    exact nodup_at h.nd hk hj

theorem St.call {S' : Nat → Prop} (h : St S w0 L w) (hc : Frm S' w w1) (hL : ∀ x ∈ L, ¬ S' x.1) (hS : ∀ b, S' b → b < w.heap.size → S b ∨ w0.heap.size ≤ b) : St S w0 L w1 := by
 refine ⟨Nat.le_trans h.size hc.size, fun b hb hbS => ?_, h.nd, fun x hx => ?_, hc.os.trans h.os, hc.tape.trans h.tape, hc.output.trans h.output⟩
 ·have hlt : b < w.heap.size := Nat.lt_of_lt_of_le hb h.size
  rw [hc.old b hlt ?_]
  ·exact h.old b hb hbS
  ·intro hs
   rcases hS b hs hlt with h1 | h1
   ·exact hbS h1
   ·omega
 ·obtain ⟨h1, h2⟩ := h.own x hx
  have hlt := (Array.getElem?_eq_some_iff.1 h1).1
  exact ⟨by rw [hc.old x.1 hlt (hL x hx)]; exact h1, h2⟩

theorem St.new (h : St S w0 L w) (hc : New w w1) : St S w0 L w1 := h.call hc (fun _ _ h => h) (fun _ h => h.elim)

theorem Frm.trans {S' : Nat → Prop} (h : Frm S w0 w) (hc : Frm S' w w1) (hS : ∀ b, S' b → b < w.heap.size → S b ∨ w0.heap.size ≤ b) : Frm S w0 w1 := St.call h hc (by simp) hS

theorem St.range {r : Loop} (h : St S w0 L w) (hw : w1 = (w.alloc (.deferred (some []))).alloc (.loop r)) : St S w0 (L ++ [(w.heap.size, .deferred (some [])), (w.heap.size + 1, .loop r)]) w1 := by
 have h1 := (h.alloc (b := w.heap.size) rfl rfl).alloc (b := w.heap.size + 1) (by simp) hw
 simpa using h1

theorem Frm.put {S : Nat → Prop} {b : Nat} {o : Obj} (hS : S b) (hw : w1 = w.putObj b o) : Frm S w w1 := by
 subst hw
 refine ⟨by simp, fun c _ hc => ?_, by simp, by simp, rfl, rfl, rfl⟩
 rw [heap_putObj, if_neg]
 rintro ⟨rfl, _⟩
 exact hc hS

theorem St.join {L' : List (Nat × Obj)} (h : St S w0 L w) (h' : St S w0 L' w) (hd : ∀ x ∈ L, ∀ y ∈ L', x.1 ≠ y.1) : St S w0 (L ++ L') w := by
 refine ⟨h.size, h.old, ?_, fun x hx => ?_, h.os, h.tape, h.output⟩
 ·rw [List.map_append, List.nodup_append]
  refine ⟨h.nd, h'.nd, ?_⟩
  intro a ha c hc
  obtain ⟨x, hx, rfl⟩ := List.mem_map.1 ha
  obtain ⟨y, hy, rfl⟩ := List.mem_map.1 hc
  exact hd x hx y hy
 ·rcases List.mem_append.1 hx with hx | hx
  ·exact h.own x hx
  ·exact h'.own x hx
theorem St.grow {L' : List (Nat × Obj)} (h : St S w0 L w) (hc : St None' w L' w1) : St S w0 (L ++ L') w1 := by
 have h1 := h.new hc.frm
 refine h1.join ⟨h1.size, h1.old, hc.nd, fun x hx => ?_, h1.os, h1.tape, h1.output⟩ (fun x hx y hy => ?_)
 ·obtain ⟨g1, g2⟩ := hc.own x hx
  exact ⟨g1, .inr (Nat.le_trans h.size (g2.resolve_left id))⟩
 ·obtain ⟨g1, _⟩ := h.own x hx
  have g2 := (hc.own y hy).2.resolve_left id
  have := (Array.getElem?_eq_some_iff.1 g1).1
  omega

end


theorem x_yld {P : Program} {n : Nat} {ops : Array Oper} {B : Array Nat} {dr : Bool} {K : KT} {s : List (Nat × Bool)} {F : Env} {ds : List Deferred} {T : List (Nat × (World → Prop))} {w : World} {i : Nat}
  {d : Option Tmp} {ty : TypeId} {ps : String} {af : Array Edge} {g : Option (Nat × Bool)} {x : Operand} {args : Array Operand} {at0 : Array TypeId} {l : Nat} {vs : List Value} {R : Value → World → Prop}
  (ho : ops[i]? = some ⟨d, .call ⟨.value x, args, at0⟩, ty, ps, af, g⟩) (hg : guardV ops F g = some true) (hd : dstOK n d = true)
  (hx : ev? F x = some (.func (.yield l) #[] #[])) (hargs : evs? F args.toList = some vs) (hc : Yld P l vs w R)
  (h : ∀ v w', R v w' → pend B i T w' ∧ Ex P n ops B dr K s (putE F d v) ds T w') : Ex P n ops B dr K ((i, true) :: s) F ds T w :=
 let ⟨_, hl, hn, hc⟩ := hc
 x_yield ho hg hd hx hargs hl hn hc h
theorem atM {w : World} {b : Nat} {o : Obj} (h : w.heap[b]? = some o := by first | exact M.at_ 0 rfl | exact M.at_ 1 rfl | exact M.at_ 2 rfl | exact M.at_ 3 rfl | exact M.at_ 4 rfl | exact M.at_ 5 rfl | exact M.at_ 6 rfl | exact M.at_ 7 rfl | exact M.at_ 8 rfl | exact M.at_ 9 rfl | exact M.at_ 10 rfl | exact M.at_ 11 rfl) : w.heap[b]? = some o := h

end Go.Fw

namespace Go.Fw
open Go Go.RowKit
set_option linter.unusedVariables false
set_option linter.unusedSimpArgs false

def Sl (w : World) (v : Value) (m n : Nat) (cs : List Value) : Prop :=
 (v = .slice none 0 0 ∧ n = 0 ∧ cs = []) ∨
 ∃ b off cap all T fr, v = .slice (some ⟨b, off, none⟩) n cap ∧ n ≤ cap ∧ w.heap[b]? = some (.cells all T fr) ∧ (all.toList.drop off).take (n * m) = cs ∧ cs.length = n * m

def OwS (w : World) (v : Value) (m n : Nat) (cs : List Value) : Prop :=
 (v = .slice none 0 0 ∧ n = 0 ∧ cs = []) ∨
 ∃ b cap rest T, v = .slice (some ⟨b, 0, none⟩) n cap ∧ w.heap[b]? = some (.cells (cs ++ rest).toArray T (0, 0)) ∧ cs.length = n * m ∧ (cs ++ rest).length = cap * m

def blkOf : Value → Option Nat
 | .slice (some a) _ _ => some a.block
 | _ => none

section
variable {P : Program} {w w1 : World} {v : Value} {m n : Nat} {cs : List Value}

theorem Sl.same (h : Sl w v m n cs) (hs : ∀ b, blkOf v = some b → w1.heap[b]? = w.heap[b]?) : Sl w1 v m n cs := by
 rcases h with h | ⟨b, off, cap, all, T, fr, rfl, hc, hb, h1, h2⟩
 ·exact .inl h
 ·exact .inr ⟨b, off, cap, all, T, fr, rfl, hc, by rw [hs b rfl]; exact hb, h1, h2⟩

theorem OwS.same (h : OwS w v m n cs) (hs : ∀ b, blkOf v = some b → w1.heap[b]? = w.heap[b]?) : OwS w1 v m n cs := by
 rcases h with h | ⟨b, cap, rest, T, rfl, hb, h1, h2⟩
 ·exact .inl h
 ·exact .inr ⟨b, cap, rest, T, rfl, by rw [hs b rfl]; exact hb, h1, h2⟩

theorem OwS.sl (h : OwS w v m n cs) (hm : 0 < m) : Sl w v m n cs := by
 rcases h with h | ⟨b, cap, rest, T, rfl, hb, h1, h2⟩
 ·exact .inl h
 ·refine .inr ⟨b, 0, cap, _, T, _, rfl, ?_, hb, by simp [← h1], h1⟩
  have : n * m ≤ cap * m := by rw [← h1, ← h2]; simp
  exact Nat.le_of_mul_le_mul_right this hm

theorem Sl.lt (h : Sl w v m n cs) : ∀ b, blkOf v = some b → b < w.heap.size := by
 rcases h with ⟨rfl, _⟩ | ⟨b, off, cap, all, T, fr, rfl, hc, hb, h1, h2⟩
 ·intro b hb; cases hb
 ·intro c hc; cases hc; exact (Array.getElem?_eq_some_iff.1 hb).1

theorem OwS.lt (h : OwS w v m n cs) : ∀ b, blkOf v = some b → b < w.heap.size := by
 rcases h with ⟨rfl, _⟩ | ⟨b, cap, rest, T, rfl, hb, h1, h2⟩
 ·intro b hb; cases hb
 ·intro c hc; cases hc; exact (Array.getElem?_eq_some_iff.1 hb).1

theorem Sl.cell (h : Sl w v m n cs) {j q : Nat} {u : Value} {b off cap : Nat} (hv : v = .slice (some ⟨b, off, none⟩) n cap) (hu : cs[j * m + q]? = some u) : w.cell? ⟨b, off + j * m + q, none⟩ = some u := by
 rcases h with ⟨rfl, _⟩ | ⟨b', off', cap', all, T, fr, rfl, hc, hb, h1, h2⟩
 ·cases hv
 ·cases hv
  have hlt : j * m + q < cs.length := (List.getElem?_eq_some_iff.1 hu).1
  rw [← h1, List.getElem?_take, if_pos (by omega), List.getElem?_drop] at hu
  simp only [World.cell?, hb]
  rw [show off + j * m + q = off + (j * m + q) from by omega]
  simpa using hu

theorem Sl.row (h : Sl w v m n cs) {j : Nat} {l : List Value} {b off cap : Nat} (hv : v = .slice (some ⟨b, off, none⟩) n cap) (hl : (cs.drop (j * m)).take l.length = l) (hp : 0 < l.length) : RowAt w b (off + j * m) l := by
 rcases h with ⟨rfl, _⟩ | ⟨b', off', cap', all, T, fr, rfl, hc, hb, h1, h2⟩
 ·cases hv
 ·cases hv
  refine ⟨all, T, fr, hb, ?_⟩
  have hlen := congrArg List.length hl
  simp only [List.length_take, List.length_drop] at hlen
  rw [← h1, List.drop_take, List.take_take, List.drop_drop] at hl
  rw [← hl]
  have h3 : ((all.toList.drop off).take (n * m)).length = n * m := by rw [h1]; exact h2
  simp only [List.length_take, List.length_drop] at h3
  rw [List.length_take, List.length_drop]
  have e1 : l.length ≤ n * m - j * m := by rw [h2] at hlen; omega
  rw [Nat.min_eq_left e1, Nat.min_eq_left (by omega)]

theorem Sl.src (h : Sl w v m n cs) {tx e' : TypeId} (hk : P.underlying tx = some (.slice e')) (h1 : ∀ u ∈ cs, u.oneCell' = true) : Src P m tx v n cs w := by
 rcases h with ⟨rfl, rfl, rfl⟩ | ⟨b, off, cap, all, T, fr, rfl, hc, hb, h2, h3⟩
 ·exact Src.ofNil w hk 0
 ·refine Src.ofSlice w hk _ n cap cs h3 (fun j u hu => ?_) h1
  have hlt : j < cs.length := (List.getElem?_eq_some_iff.1 hu).1
  rw [← h2, List.getElem?_take, if_pos (by omega), List.getElem?_drop] at hu
  have ea : (⟨b, off, none⟩ : Addr).add j = ⟨b, off + j, none⟩ := by
   unfold Addr.add; split
   ·rename_i hj; subst hj; rfl
   ·rfl
  rw [ea]
  simp only [World.cell?, hb]
  simpa using hu

theorem growBy_le (need : Nat) : ∀ (k c : Nat), c < need → Builtin.growBy need k c ≤ 2 * need + 1024
 | 0, c, h => by simp [Builtin.growBy]; omega
 | k + 1, c, h => by
  unfold Builtin.growBy
  rw [if_neg (by omega)]
  by_cases h2 : c + (c + 768) / 4 < need
  ·exact growBy_le need k _ h2
  ·have : Builtin.growBy need k (c + (c + 768) / 4) = c + (c + 768) / 4 := by
    cases k with
    | zero => rfl
    | succ k => unfold Builtin.growBy; rw [if_pos (by omega)]
   rw [this]; omega

theorem nextslicecap_le {need cap : Nat} (h : cap < need) : Builtin.nextslicecap need cap ≤ 2 * need + 1024 := by
 unfold Builtin.nextslicecap
 split
 ·omega
 ·split
  ·omega
  ·exact growBy_le need 4 cap h

def ApTo (w : World) (v v' : Value) (w1 : World) : Prop :=
 (∃ b o, blkOf v = some b ∧ blkOf v' = some b ∧ w1 = w.putObj b o) ∨ (blkOf v' = some w.heap.size ∧ ∃ o, w1 = w.drew.alloc o)

theorem run_append_ow {t tx ty e bts k : Nat} {z x : Value} {news : List Value} (ht : P.underlying t = some (.slice e)) (hm : szOf P e = some m) (hz : zeroOf P e = some z) (hzm : z.cells.size = m) (hby : bytesOf' P e = some bts)
  (hv : OwS w v m n cs) (hcs : ∀ u ∈ cs, u.oneCell' = true) (hs : Src P m tx x k news w) (hfit : (n + k) * bts ≤ 70368744177664) (hb : bts ≤ 1048576) (h63 : n + k ≤ 9223372036854775807) :
  ∃ v' w', (Builtin.append_ #[t, tx] ty #[v, x]).run P w = .ok v' w' ∧ OwS w' v' m (n + k) (cs ++ news) ∧ (v = .slice none 0 0 ∧ k = 0 ∧ v' = v ∧ w' = w ∨ ApTo w v v' w') := by
 obtain ⟨i, hi, hi1, hi2, hi3⟩ : ∃ i, P.info? e = some i ∧ i.size = m ∧ i.zero = some z ∧ i.bytes = bts := by
  unfold szOf at hm; unfold zeroOf at hz; unfold bytesOf' at hby
  cases h : P.info? e with
  | none => simp [h] at hm
  | some i => simp [h] at hm hz hby; exact ⟨i, rfl, hm, hz, hby⟩
 subst hi1 hi3
 have grow : ∀ (base : Option Addr) (sCap : Nat), v = .slice base n sCap → sCap < n + k → (Builtin.firstCells i.size n (.slice base n sCap)).run P w.drew = .ok cs.toArray w.drew →
   ∃ v' w', (Builtin.append_ #[t, tx] ty #[v, x]).run P w = .ok v' w' ∧ OwS w' v' i.size (n + k) (cs ++ news) ∧ (v = .slice none 0 0 ∧ k = 0 ∧ v' = v ∧ w' = w ∨ ApTo w v v' w') := by
  intro base sCap hve hlt hold
  have hfit' : Builtin.nextslicecap (n + k) sCap * i.bytes ≤ 281474976710656 := by
   have h1 := nextslicecap_le hlt
   have h2 : Builtin.nextslicecap (n + k) sCap * i.bytes ≤ (2 * (n + k) + 1024) * i.bytes := Nat.mul_le_mul_right _ h1
   have h3 : (2 * (n + k) + 1024) * i.bytes = 2 * ((n + k) * i.bytes) + 1024 * i.bytes := by rw [Nat.add_mul, Nat.mul_assoc]
   omega
  have := run_append_grow_src (P := P) w t tx ty e i z ht hi hi2 base n sCap cs hold x k news hs hlt (by omega) hfit'
  rw [hve, this]
  refine ⟨_, _, rfl, .inr ⟨w.heap.size, grownCap w (n + k) sCap e, (Builtin.zeroCells z.cells (grownCap w (n + k) sCap e - (n + k))).toList, e, rfl, ?_, ?_, ?_⟩, .inr (.inr ⟨rfl, _, rfl⟩)⟩
  ·show (w.heap.push _)[w.heap.size]? = _
   rw [Array.getElem?_push_size]
   congr 2
   apply Array.ext'
   simp
  ·have h1 : cs.length = n * i.size := by
    rcases hv with ⟨_, rfl, rfl⟩ | ⟨_, _, _, _, _, _, h, _⟩
    ·simp
    ·exact h
   rw [List.length_append, h1, hs.newsLen, Nat.add_mul]
  ·have h1 : cs.length = n * i.size := by
    rcases hv with ⟨_, rfl, rfl⟩ | ⟨_, _, _, _, _, _, h, _⟩
    ·simp
    ·exact h
   have hcap : n + k ≤ grownCap w (n + k) sCap e := by simp [grownCap, Question.cut]
   simp only [List.length_append, h1, hs.newsLen, Builtin.zeroCells, Array.length_toList, Array.size_map, Array.size_range, hzm]
   rw [← Nat.add_mul, ← Nat.add_mul]
   congr 1
   omega
 rcases hv with ⟨rfl, rfl, rfl⟩ | ⟨b, cap, rest, T, rfl, hbk, h1, h2⟩
 ·by_cases hk : k = 0
  ·subst hk
   have hn0 : news = [] := by have := hs.newsLen; simpa using this
   subst hn0
   refine ⟨.slice none 0 0, w, ?_, .inl ⟨rfl, rfl, rfl⟩, .inl ⟨rfl, rfl, rfl, rfl⟩⟩
   rcases hs.kind with ⟨e', hkd⟩ | hkd <;> simp [Builtin.append_, run_underlying ht, run_underlying hkd, sizeOf, typeInfo, hi, hs.len, hs.cells]
  ·exact grow none 0 rfl (by omega) (by simp [Builtin.firstCells])
 ·by_cases hroom : n + k ≤ cap
  ·have hlen : (cs ++ rest).length = cs.length + rest.length := List.length_append
   have hnl := hs.newsLen
   have hle : n * i.size + k * i.size ≤ cap * i.size := by rw [← Nat.add_mul]; exact Nat.mul_le_mul_right _ hroom
   have hst := run_storeCells (P := P) (b := b) (T := T) (fr := (0, 0)) (0 + n * i.size) news 0 (cs ++ rest) w hbk (by simp only [Nat.add_zero, Nat.zero_add]; omega) hs.one (by simp)
   simp only [Nat.add_zero, Nat.zero_add] at hst
   refine ⟨.slice (some ⟨b, 0, none⟩) (n + k) cap, w.putObj b (.cells ((cs ++ rest).take (n * i.size) ++ news ++ (cs ++ rest).drop (n * i.size + news.length)).toArray T (0, 0)), ?_, .inr ⟨b, cap, (cs ++ rest).drop (n * i.size + news.length), T, rfl, ?_, ?_, ?_⟩, .inr (.inl ⟨b, _, rfl, rfl, rfl⟩)⟩
   ·rcases hs.kind with ⟨e', hkd⟩ | hkd <;> simp [Builtin.append_, run_underlying ht, run_underlying hkd, sizeOf, typeInfo, hi, hs.len, hroom, hs.cells, Addr.add_lit, hst]
   ·have hlt : b < w.heap.size := (Array.getElem?_eq_some_iff.1 hbk).1
    rw [World.putObj_heap_same hlt]
    rw [← h1, List.take_left' rfl]
   ·rw [List.length_append, h1, hnl, Nat.add_mul]
   ·simp only [List.length_append, List.length_drop, h1, hnl] at h2 ⊢
    omega
  ·refine grow (some ⟨b, 0, none⟩) cap rfl (by omega) ?_
   refine run_firstCells_some w.drew i.size n ⟨b, 0, none⟩ n cap cs h1 (fun j u hu => ?_)
   have ea : (⟨b, 0, none⟩ : Addr).add j = ⟨b, 0 + j, none⟩ := by
    unfold Addr.add; split
    ·rename_i hj; subst hj; rfl
    ·rfl
   rw [ea]
   exact cell_of (w := w.drew) hbk (by rw [List.getElem?_append_left (by simpa using (List.getElem?_eq_some_iff.1 hu).1)]; simpa using hu)
end
end Go.Fw

namespace Go.Fw
open Go Go.RowKit Go.MapKept
set_option linter.unusedVariables false
set_option linter.unusedSimpArgs false

structure KeyLaw (P : Program) (K : TypeId) {κ : Type} [DecidableEq κ] (enc : κ → Value) : Prop where
 eq : ∀ a b w, (Op.equal K (enc a) (enc b)).run P w = .ok (decide (a = b)) w
 ck : ∀ e a w, (Instr.checkKey e 10000 K (enc a)).run P w = .ok () w
 now : ∃ d, P.underlying K = some d ∧ ((∀ a b, Instr.sameNow d (enc a) (enc b) = some (decide (a = b))) ∨ (∀ a b, Instr.sameNow d (enc a) (enc b) = none))
 sb : ∀ a, Instr.sameBits 10000 (enc a) (enc a) = true

theorem KeyLaw.inj {P : Program} {K : TypeId} {κ : Type} [DecidableEq κ] {enc : κ → Value} (H : KeyLaw P K enc) {a b : κ} (h : enc a = enc b) : a = b := by
 have h1 := H.eq a b default
 rw [← h, H.eq a a default] at h1
 simpa using h1

section
variable {P : Program} {K : TypeId} {κ : Type} [DecidableEq κ] {enc : κ → Value}

def Ents (enc : κ → Value) (es : List MapEntry) (l : List (κ × Value)) : Prop := es.map (fun e => (e.key, e.val)) = l.map fun p => (enc p.1, p.2)

def fnd (a : κ) : List (κ × Value) → Nat → Option (Nat × Value)
 | [], _ => none
 | (b, v) :: l, i => if a = b then some (i, v) else fnd a l (i + 1)

theorem fnd_some {a : κ} : ∀ {l : List (κ × Value)} {i j : Nat} {v : Value}, fnd a l i = some (j, v) → ∃ k, j = i + k ∧ l[k]? = some (a, v)
 | [], _, _, _, h => by cases h
 | (b, u) :: l, i, j, v, h => by
  unfold fnd at h
  split at h
  ·rename_i e; subst e; cases h; exact ⟨0, rfl, rfl⟩
  ·obtain ⟨k, h1, h2⟩ := fnd_some h
   exact ⟨k + 1, by omega, by simpa using h2⟩

theorem fnd_none {a : κ} : ∀ {l : List (κ × Value)} {i : Nat}, fnd a l i = none → ∀ p ∈ l, p.1 ≠ a
 | [], _, _, _, hp => by cases hp
 | (b, u) :: l, i, h, p, hp => by
  unfold fnd at h
  split at h
  ·cases h
  ·rename_i e
   rcases List.mem_cons.1 hp with rfl | hp
   ·exact fun e1 => e e1.symm
   ·exact fnd_none h p hp

theorem run_findKey (H : KeyLaw P K enc) (a : κ) (es : List MapEntry) (l : List (κ × Value)) (he : Ents enc es l) (w : World) : (Instr.findKey K (enc a) es).run P w = .ok (fnd a l 0) w := by
 obtain ⟨d, hd, hnow⟩ := H.now
 have ask : ∀ (es : List MapEntry) (l : List (κ × Value)) (i : Nat), Ents enc es l → (Instr.findAsking K (enc a) es i).run P w = .ok (fnd a l i) w := by
  intro es
  induction es with
  | nil => intro l i he; cases l with | nil => rfl | cons p l => simp [Ents] at he
  | cons e es ih =>
   intro l i he
   cases l with
   | nil => simp [Ents] at he
   | cons p l =>
    obtain ⟨b, u⟩ := p
    simp only [Ents, List.map_cons, List.cons.injEq, Prod.mk.injEq] at he
    obtain ⟨⟨h1, h2⟩, h3⟩ := he
    unfold Instr.findAsking
    rw [Sem.run_bind, h1, H.eq]
    simp only [Result.andThen_ok, decide_eq_true_eq, fnd]
    split
    ·rw [Sem.run_pure, h2]
    ·exact ih l (i + 1) h3
 unfold Instr.findKey
 rw [Sem.run_bind, run_underlying hd]
 simp only [Result.andThen_ok]
 rcases hnow with hnow | hnow
 ·have now : ∀ (es : List MapEntry) (l : List (κ × Value)) (i : Nat), Ents enc es l → Instr.findNow d (enc a) es i = some (fnd a l i) := by
   intro es
   induction es with
   | nil => intro l i he; cases l with | nil => rfl | cons p l => simp [Ents] at he
   | cons e es ih =>
    intro l i he
    cases l with
    | nil => simp [Ents] at he
    | cons p l =>
     obtain ⟨b, u⟩ := p
     simp only [Ents, List.map_cons, List.cons.injEq, Prod.mk.injEq] at he
     obtain ⟨⟨h1, h2⟩, h3⟩ := he
     unfold Instr.findNow fnd
     rw [h1, hnow a b]
     by_cases e1 : a = b
     ·simp [e1, h2]
     ·simp only [e1, decide_false, if_false]
      exact ih l (i + 1) h3
  rw [now es l 0 he]
  rfl
 ·cases es with
  | nil => cases l with | nil => rfl | cons p l => simp [Ents] at he
  | cons e es =>
   have : Instr.findNow d (enc a) (e :: es) 0 = none := by
    cases l with
    | nil => simp [Ents] at he
    | cons p l =>
     simp only [Ents, List.map_cons, List.cons.injEq, Prod.mk.injEq] at he
     unfold Instr.findNow
     rw [he.1.1, hnow]
   rw [this]
   exact ask _ l 0 he

def MapF (enc : κ → Value) (o : Obj) (g : κ → Option Value) : Prop :=
 ∃ es clock l, o = .map es clock ∧ Ents enc es.toList l ∧ (l.map (·.1)).Nodup ∧ (∀ k v, g k = some v ↔ (k, v) ∈ l) ∧ Stamped es clock

theorem MapF.fnd {g : κ → Option Value} {l : List (κ × Value)} (hn : (l.map (·.1)).Nodup) (hg : ∀ k v, g k = some v ↔ (k, v) ∈ l) (a : κ) : (Fw.fnd a l 0).map (·.2) = g a := by
 cases hf : Fw.fnd a l 0 with
 | none =>
  cases hga : g a with
  | none => rfl
  | some v => exact absurd rfl (fnd_none hf _ ((hg a v).1 hga))
 | some x =>
  obtain ⟨j, v⟩ := x
  obtain ⟨k, _, h2⟩ := fnd_some hf
  exact ((hg a v).2 (List.mem_of_getElem? h2)).symm

omit [DecidableEq κ] in
theorem MapF.made : MapF enc (.map #[] 0) (fun _ => none) := ⟨#[], 0, [], rfl, rfl, by simp, by simp, stamped_empty 0⟩

variable {w : World} {T r : Nat} {o : Obj} {g : κ → Option Value}



theorem run_lookup1 (H : KeyLaw P K enc) {E : TypeId} {z : Value} (hT : P.underlying T = some (.map K E)) (hz : zeroOf P E = some z) (hr : w.heap[r]? = some o) (hm : MapF enc o g) (a : κ) :
  (Instr.lookup T (.map (some r)) (enc a) false).run P w = .ok ((g a).getD z) w := by
 obtain ⟨es, clock, l, rfl, he, hn, hg, hst⟩ := hm
 unfold Instr.lookup
 have h1 : (getObj r).run P w = .ok (.map es clock) w := by simp [getObj, Sem.run, hr]
 simp only [Sem.run_bind, run_underlying hT, Result.andThen_ok, h1, Sem.run_pure, H.ck, run_findKey H a es.toList l he]
 have h2 := MapF.fnd hn hg a
 cases hf : Fw.fnd a l 0 with
 | none =>
  rw [hf] at h2
  simp only [Sem.run_bind, run_zero' hz, Result.andThen_ok, Sem.run_pure, Bool.false_eq_true, if_false]
  rw [← h2]; rfl
 | some x =>
  rw [hf] at h2
  obtain ⟨j, v⟩ := x
  simp only [Sem.run_pure, Result.andThen_ok, Bool.false_eq_true, if_false]
  rw [← h2]; rfl

def setF (g : κ → Option Value) (a : κ) (v : Option Value) : κ → Option Value := fun k => if k = a then v else g k

omit [DecidableEq κ] in
theorem ents_at {es : List MapEntry} {l : List (κ × Value)} (he : Ents enc es l) {i : Nat} {p : κ × Value} (h : l[i]? = some p) : ∃ e, es[i]? = some e ∧ e.key = enc p.1 ∧ e.val = p.2 := by
 have h1 : (es.map (fun e => (e.key, e.val)))[i]? = some (enc p.1, p.2) := by rw [he, List.getElem?_map, h]; rfl
 rw [List.getElem?_map, Option.map_eq_some_iff] at h1
 obtain ⟨e, h2, h3⟩ := h1
 simp only [Prod.mk.injEq] at h3
 exact ⟨e, h2, h3.1, h3.2⟩

omit [DecidableEq κ] in
theorem ents_rev {es : List MapEntry} {l : List (κ × Value)} (he : Ents enc es l) {i : Nat} {e : MapEntry} (h : es[i]? = some e) : ∃ p, l[i]? = some p ∧ e.key = enc p.1 := by
 have h1 : (es.map (fun e => (e.key, e.val)))[i]? = some (e.key, e.val) := by rw [List.getElem?_map, h]; rfl
 rw [he, List.getElem?_map, Option.map_eq_some_iff] at h1
 obtain ⟨p, h2, h3⟩ := h1
 simp only [Prod.mk.injEq] at h3
 exact ⟨p, h2, h3.1.symm⟩

theorem map_eraseIdx' {α β : Type} (f : α → β) : ∀ (l : List α) (i : Nat), (l.eraseIdx i).map f = (l.map f).eraseIdx i
 | [], _ => rfl
 | _ :: _, 0 => rfl
 | x :: l, i + 1 => by simp [map_eraseIdx' f l i]

omit [DecidableEq κ] in
theorem nodup_key {l : List (κ × Value)} (hn : (l.map (·.1)).Nodup) {i j : Nat} {p q : κ × Value} (hi : l[i]? = some p) (hj : l[j]? = some q) (h : p.1 = q.1) : i = j := by
 have h1 : (l.map (·.1))[i]? = some p.1 := by simp [hi]
 have h2 : (l.map (·.1))[j]? = some p.1 := by simp [hj, h]
 have hlt : i < (l.map (·.1)).length := (List.getElem?_eq_some_iff.1 h1).1
 have hlt2 : j < (l.map (·.1)).length := (List.getElem?_eq_some_iff.1 h2).1
 rw [List.getElem?_eq_getElem hlt] at h1
 rw [List.getElem?_eq_getElem hlt2] at h2
 exact (List.getElem_inj hn).1 (by rw [Option.some.inj h1, Option.some.inj h2])

theorem run_mapUpdate (H : KeyLaw P K enc) {E : TypeId} (hT : P.underlying T = some (.map K E)) (hr : w.heap[r]? = some o) (hm : MapF enc o g) (a : κ) (v : Value) :
  ∃ o', (Instr.mapUpdate T (.map (some r)) (enc a) v).run P w = .ok () (w.putObj r o') ∧ MapF enc o' (setF g a (some v)) := by
 obtain ⟨es, clock, l, rfl, he, hn, hg, hst⟩ := hm
 unfold Instr.mapUpdate
 have h1 : (getObj r).run P w = .ok (.map es clock) w := by simp [getObj, Sem.run, hr]
 have h3 : ∀ o', (setObj r o').run P w = .ok () (w.putObj r o') := fun o' => by simp [setObj, Sem.run, hr, World.putObj]
 simp only [Sem.run_bind, run_underlying hT, Result.andThen_ok, h1, H.ck, run_findKey H a es.toList l he]
 cases hf : Fw.fnd a l 0 with
 | none =>
  have hno := fnd_none hf
  refine ⟨.map (es.push { key := enc a, val := v, born := clock }) (clock + 1), by simp only [h3], _, _, l ++ [(a, v)], rfl, ?_, ?_, ?_, stamped_push hst (fun x hx e => ?_)⟩
  ·simp only [Ents, Array.toList_push, List.map_append, List.map_cons, List.map_nil]
   rw [show es.toList.map (fun e => (e.key, e.val)) = l.map fun p => (enc p.1, p.2) from he]
  ·rw [List.map_append, List.nodup_append]
   refine ⟨hn, by simp, fun x hx y hy e => ?_⟩
   simp at hy
   obtain ⟨p, hp, rfl⟩ := List.mem_map.1 hx
   exact hno p hp (e.trans hy)
  ·intro k u
   unfold setF
   by_cases e : k = a
   ·subst e
    simp only [if_true, List.mem_append, List.mem_singleton, Prod.mk.injEq, true_and]
    constructor
    ·intro h; cases h; exact .inr rfl
    ·rintro (h | h)
     ·exact absurd rfl (hno _ h)
     ·rw [h]
   ·rw [if_neg e, hg]; simp [e]
  ·obtain ⟨i, hi⟩ := List.mem_iff_getElem?.1 hx
   obtain ⟨p, hp, hpk⟩ := ents_rev he hi
   exact hno p (List.mem_of_getElem? hp) (H.inj (hpk.symm.trans e))
 | some x =>
  obtain ⟨j, u⟩ := x
  obtain ⟨i, h4, h5⟩ := fnd_some hf
  simp only [Nat.zero_add] at h4
  subst h4
  obtain ⟨en, h6, h7, h8⟩ := ents_at he h5
  have hi : j < es.size := by simpa using (List.getElem?_eq_some_iff.1 h6).1
  have h6' : es[j]? = some en := by simpa using h6
  have hkeep : (Instr.keyThatStays (((es[j]?).map (·.key)).getD (enc a)) (enc a)).run P w = .ok (enc a) w := by
   simp only [h6', Option.map_some, Option.getD_some, h7]
   unfold Instr.keyThatStays
   rw [if_pos (H.sb a)]
   rfl
  refine ⟨.map (es.modify j fun e => { e with key := enc a, val := v }) clock, by simp only [Sem.run_bind, hkeep, Result.andThen_ok, h3], _, _, l.set j (a, v), rfl, ?_, ?_, ?_, stamped_modify hst _ _ (fun _ _ => rfl) (fun x _ hx => by rw [h6'] at hx; cases hx; exact h7.symm)⟩
  ·simp only [Ents, Array.toList_modify]
   apply List.ext_getElem?
   intro k
   rw [List.getElem?_map, List.getElem?_map, List.getElem?_modify, List.getElem?_set]
   have hjl : j < l.length := (List.getElem?_eq_some_iff.1 h5).1
   by_cases e : j = k
   ·subst e
    rw [if_pos rfl, if_pos hjl]
    rw [h6]
    simp
   ·rw [if_neg e]
    have := congrArg (fun x => x[k]?) he
    simp only [List.getElem?_map] at this
    rw [← this]
    cases es.toList[k]? <;> simp [e]
  ·have : (l.set j (a, v)).map (·.1) = l.map (·.1) := by
    apply List.ext_getElem?
    intro k
    have hjl : j < l.length := (List.getElem?_eq_some_iff.1 h5).1
    rw [List.getElem?_map, List.getElem?_map, List.getElem?_set]
    by_cases e : j = k
    ·subst e; rw [if_pos rfl, if_pos hjl, h5]; rfl
    ·rw [if_neg e]
   rw [this]; exact hn
  ·intro k u'
   have hjl : j < l.length := (List.getElem?_eq_some_iff.1 h5).1
   unfold setF
   by_cases e : k = a
   ·subst e
    simp only [if_true, Option.some.injEq]
    constructor
    ·rintro rfl; exact List.mem_iff_getElem?.2 ⟨j, by rw [List.getElem?_set, if_pos rfl, if_pos hjl]⟩
    ·intro h
     obtain ⟨q, hq⟩ := List.mem_iff_getElem?.1 h
     rw [List.getElem?_set] at hq
     by_cases e2 : j = q
     ·rw [if_pos e2, if_pos hjl] at hq; cases hq; rfl
     ·rw [if_neg e2] at hq
      exact absurd (nodup_key hn h5 hq rfl) e2
   ·rw [if_neg e, hg]
    constructor
    ·intro h
     obtain ⟨q, hq⟩ := List.mem_iff_getElem?.1 h
     refine List.mem_iff_getElem?.2 ⟨q, ?_⟩
     rw [List.getElem?_set]
     by_cases e2 : j = q
     ·subst e2; rw [h5] at hq; cases hq; exact absurd rfl e
     ·rw [if_neg e2]; exact hq
    ·intro h
     obtain ⟨q, hq⟩ := List.mem_iff_getElem?.1 h
     rw [List.getElem?_set] at hq
     by_cases e2 : j = q
     ·rw [if_pos e2, if_pos hjl] at hq; cases hq; exact absurd rfl e
     ·rw [if_neg e2] at hq; exact List.mem_iff_getElem?.2 ⟨q, hq⟩

theorem run_delete (H : KeyLaw P K enc) {E ty : TypeId} (hT : P.underlying T = some (.map K E)) (hr : w.heap[r]? = some o) (hm : MapF enc o g) (a : κ) {at0 : Array TypeId} (hat : at0[0]? = some T) :
  ∃ o', (Builtin.delete_ at0 ty #[.map (some r), enc a]).run P w = .ok (.tuple #[]) (w.putObj r o') ∧ MapF enc o' (setF g a none) := by
 obtain ⟨es, clock, l, rfl, he, hn, hg, hst⟩ := hm
 unfold Builtin.delete_
 have h1 : (getObj r).run P w = .ok (.map es clock) w := by simp [getObj, Sem.run, hr]
 have h3 : ∀ o', (setObj r o').run P w = .ok () (w.putObj r o') := fun o' => by simp [setObj, Sem.run, hr, World.putObj]
 have hx : (#[.map (some r), enc a] : Array Value)[0]? = some (.map (some r)) := rfl
 have hy : (#[.map (some r), enc a] : Array Value)[1]? = some (enc a) := rfl
 simp only [hat, hx, hy, Sem.run_bind, run_underlying hT, Result.andThen_ok, h1, H.ck, run_findKey H a es.toList l he]
 cases hf : Fw.fnd a l 0 with
 | none =>
  have hno := fnd_none hf
  refine ⟨.map es clock, by simp only [Sem.run_bind, h3, Result.andThen_ok, Sem.run_pure], _, _, l, rfl, he, hn, fun k u => ?_, hst⟩
  unfold setF
  by_cases e : k = a
  ·subst e; simp only [if_true]; exact ⟨fun h => by simp at h, fun h => absurd rfl (hno _ h)⟩
  ·rw [if_neg e]; exact hg k u
 | some x =>
  obtain ⟨j, u⟩ := x
  obtain ⟨i, h4, h5⟩ := fnd_some hf
  simp only [Nat.zero_add] at h4
  subst h4
  have hjl : j < l.length := (List.getElem?_eq_some_iff.1 h5).1
  refine ⟨.map (es.eraseIdxIfInBounds j) clock, by simp only [Sem.run_bind, h3, Result.andThen_ok, Sem.run_pure], _, _, l.eraseIdx j, rfl, ?_, ?_, ?_, stamped_erase hst _⟩
  ·simp only [Ents]
   have : (es.eraseIdxIfInBounds j).toList = es.toList.eraseIdx j := by
    obtain ⟨en, h6, _, _⟩ := ents_at he h5
    have hi : j < es.size := by simpa using (List.getElem?_eq_some_iff.1 h6).1
    unfold Array.eraseIdxIfInBounds
    rw [dif_pos hi, Array.toList_eraseIdx]
   rw [this, map_eraseIdx', map_eraseIdx']
   rw [show es.toList.map (fun e => (e.key, e.val)) = l.map fun p => (enc p.1, p.2) from he]
  ·rw [map_eraseIdx']; exact hn.sublist (List.eraseIdx_sublist _ _)
  ·intro k u'
   unfold setF
   rw [List.mem_eraseIdx_iff_getElem?]
   by_cases e : k = a
   ·subst e
    simp only [if_true]
    refine ⟨fun h => by simp at h, fun ⟨q, hq1, hq2⟩ => ?_⟩
    exact absurd (nodup_key hn hq2 h5 rfl) hq1
   ·rw [if_neg e, hg]
    constructor
    ·intro h
     obtain ⟨q, hq⟩ := List.mem_iff_getElem?.1 h
     refine ⟨q, fun e2 => ?_, hq⟩
     subst e2; rw [h5] at hq; cases hq; exact e rfl
    ·rintro ⟨q, _, hq⟩; exact List.mem_iff_getElem?.2 ⟨q, hq⟩
end

section
variable {P : Program} {n : Nat} {ops : Array Oper} {B : Array Nat} {dr : Bool} {K : KT} {s : List (Nat × Bool)} {F : Env} {ds : List Deferred} {T : List (Nat × (World → Prop))} {w : World} {i : Nat}
variable {d : Option Tmp} {ty : TypeId} {ps : String} {af : Array Edge} {gd : Option (Nat × Bool)} {KT E M : TypeId} {κ : Type} [DecidableEq κ] {enc : κ → Value} {x y z : Operand} {r : Nat} {o : Obj} {g : κ → Option Value} {zv v : Value}

def LkAt (enc : κ → Value) (w : World) (r : Nat) (a : κ) (ga : Option Value) : Prop := ∃ o g, w.heap[r]? = some o ∧ MapF enc o g ∧ g a = ga

omit [DecidableEq κ] in
theorem LkAt.same {w w1 : World} {a : κ} {ga : Option Value} (h : LkAt enc w r a ga) (hs : w1.heap[r]? = w.heap[r]?) : LkAt enc w1 r a ga :=
 let ⟨o, g, h1, h2, h3⟩ := h; ⟨o, g, by rw [hs]; exact h1, h2, h3⟩
omit [DecidableEq κ] in
theorem LkAt.alloc {w w1 : World} {a : κ} {ga : Option Value} (h : LkAt enc w r a ga) {o : Obj} (hw : w1 = w.alloc o) : LkAt enc w1 r a ga := by
 refine h.same ?_
 obtain ⟨_, _, h1, _⟩ := h
 have := (Array.getElem?_eq_some_iff.1 h1).1
 rw [hw, heap_alloc, if_neg (by omega)]


theorem x_lk1 (a : κ) {ga : Option Value} (ho : ops[i]? = some ⟨d, .lookup M x y false, ty, ps, af, gd⟩) (hg : guardV ops F gd = some true) (hd : dstOK n d = true) (H : KeyLaw P KT enc) (hT : P.underlying M = some (.map KT E)) (hz : zeroOf P E = some zv)
  (hx : ev? F x = some (.map (some r))) (hy : ev? F y = some (enc a)) (hl : LkAt enc w r a ga)
  (h : Ex P n ops B dr K s (putE F d (ga.getD zv)) ds (addT dr i (fun w' => LkAt enc w' r a ga) T) w) : Ex P n ops B dr K ((i, false) :: s) F ds T w :=
 Ex.read_ ho hg hd _ (fun w' => LkAt enc w' r a ga) (fun at_ hk w' hR => by
  obtain ⟨o, g, h1, h2, h3⟩ := hR
  simp only [execOp, hk.eval hx, hk.eval hy, Sem.run_bind, run_lookup1 H hT hz h1 h2 a, Result.andThen_ok, Sem.run_pure, h3]) hl h

theorem x_mup (a : κ) (ho : ops[i]? = some ⟨d, .mapUpdate M x y z, ty, ps, af, gd⟩) (hg : guardV ops F gd = some true) (hd : dstOK n d = true) (H : KeyLaw P KT enc) (hT : P.underlying M = some (.map KT E))
  (hx : ev? F x = some (.map (some r))) (hy : ev? F y = some (enc a)) (hz : ev? F z = some v) (hr : w.heap[r]? = some o) (hm : MapF enc o g)
  (h : ∀ o' w1, MapF enc o' (setF g a (some v)) → w1 = w.putObj r o' → pend B i T w1 ∧ Ex P n ops B dr K s (putE F d undef) ds T w1) : Ex P n ops B dr K ((i, true) :: s) F ds T w := by
 obtain ⟨o', h1, h2⟩ := run_mapUpdate H hT hr hm a v
 refine x_mvs ho hg hd (w1 := w.putObj r o') (fun at_ hk => ?_) (h o' _ h2 rfl).1 (h o' _ h2 rfl).2
 simp only [execOp, hk.eval hx, hk.eval hy, hk.eval hz, Sem.run_bind, h1, Result.andThen_ok, Sem.run_pure]

theorem x_del (a : κ) {at0 : Array TypeId} (ho : ops[i]? = some ⟨d, .call ⟨.builtin .delete, #[x, y], at0⟩, ty, ps, af, gd⟩) (hg : guardV ops F gd = some true) (hd : dstOK n d = true) (H : KeyLaw P KT enc) (hT : P.underlying M = some (.map KT E)) (hat : at0[0]? = some M)
  (hx : ev? F x = some (.map (some r))) (hy : ev? F y = some (enc a)) (hr : w.heap[r]? = some o) (hm : MapF enc o g)
  (h : ∀ o' w1, MapF enc o' (setF g a none) → w1 = w.putObj r o' → pend B i T w1 ∧ Ex P n ops B dr K s (putE F d (.tuple #[])) ds T w1) : Ex P n ops B dr K ((i, true) :: s) F ds T w := by
 obtain ⟨o', h1, h2⟩ := run_delete (ty := ty) H hT hr hm a hat
 refine x_mv ho hg hd (v := .tuple #[]) (w1 := w.putObj r o') (fun at_ hk => ?_) (h o' _ h2 rfl).1 (h o' _ h2 rfl).2
 simp only [execOp, resolve, List.map_toArray, List.map_cons, List.map_nil, hk.eval hx, hk.eval hy, Sem.run_bind, Sem.run_pure, Result.andThen_ok, invoke, builtin, h1]

theorem run_buildSlice0 {t e : TypeId} {m : Nat} (ht : P.underlying t = some (.slice e)) (hm : szOf P e = some m) : (Instr.buildSlice t 0 #[]).run P w = .ok (.slice (some ⟨w.heap.size, 0, none⟩) 0 0) (w.alloc (.cells #[] e)) := by
 unfold Instr.buildSlice
 simp only [Sem.run_bind, run_underlying ht, Result.andThen_ok, run_sizeOf' hm, Nat.zero_mul]
 rw [if_neg (by decide)]
 have e0 : (Array.range 0).map (fun _ => (default : Value)) = #[] := by simp
 simp [Instr.fill, newRow, e0]

theorem x_bs0 {t e : TypeId} {m : Nat} (ho : ops[i]? = some ⟨d, .buildSlice t 0 #[], ty, ps, af, gd⟩) (hg : guardV ops F gd = some true) (hd : dstOK n d = true) (ht : P.underlying t = some (.slice e)) (hm : szOf P e = some m)
  (h : ∀ b w1, b = w.heap.size → w1 = w.alloc (.cells [].toArray e) → pend B i T w1 ∧ Ex P n ops B dr K s (putE F d (.slice (some ⟨b, 0, none⟩) 0 0)) ds T w1) : Ex P n ops B dr K ((i, true) :: s) F ds T w := by
 obtain ⟨h1, h2⟩ := h _ _ rfl rfl
 refine x_mv ho hg hd (v := .slice (some ⟨w.heap.size, 0, none⟩) 0 0) (w1 := w.alloc (.cells [].toArray e)) (fun at_ hk => ?_) h1 h2
 have := run_buildSlice0 (P := P) (w := w) ht hm
 simp only [execOp, List.map_toArray, List.map_nil, Sem.run_bind]
 rw [this]
 rfl

theorem run_buildSlice1 {t e : TypeId} {m : Nat} {z v : Value} {Z cs : List Value} (ht : P.underlying t = some (.slice e)) (hm : szOf P e = some m) (hz : zeroOf P e = some z) (hZ : z.cells = Z.toArray) (hZm : Z.length = m) (h0 : 0 < m) (h24 : m ≤ 16777216)
  (hv : v.cells = cs.toArray) (hcs : cs.length = m) : (Instr.buildSlice t 1 #[(0, v)]).run P w = .ok (.slice (some ⟨w.heap.size, 0, none⟩) 1 1) (w.alloc (.cells cs.toArray e)) := by
 unfold Instr.buildSlice
 simp only [Sem.run_bind, run_underlying ht, Result.andThen_ok, run_sizeOf' hm, Nat.one_mul]
 rw [if_neg (by omega), if_neg (by omega)]
 simp only [Sem.run_bind, run_zero' hz, Result.andThen_ok, Sem.run_pure, hZ]
 have hfill : Instr.fill (fun i => some (i * m, m)) ((Array.range m).map fun i => Z.toArray[i % Z.toArray.size]!) [(0, v)] = some cs.toArray := by
  unfold Instr.fill
  simp only [hv, List.size_toArray, hcs, Nat.zero_mul, Nat.zero_add, Array.size_map, Array.size_range, ne_eq, not_true_eq_false, Nat.lt_irrefl, gt_iff_lt, decide_false, or_self, if_false, Instr.fill]
  congr 1
  have key : ∀ (l : List Value) (k : Nat) (a : Array Value), k + l.length ≤ a.size → ((l.zipIdx k).foldl (fun cs (x : Value × Nat) => cs.setIfInBounds x.2 x.1) a).toList = a.toList.take k ++ l ++ a.toList.drop (k + l.length) := by
   intro l
   induction l with
   | nil => intro k a _; simp
   | cons x l ih =>
    intro k a hle
    simp only [List.length_cons] at hle
    simp only [List.zipIdx_cons, List.foldl_cons]
    rw [ih (k + 1) _ (by simp; omega)]
    simp only [Array.toList_setIfInBounds]
    have := set_parts a.toList k (by simp; omega) x l
    rw [this]
    simp
  simp only [Bool.or_self, Bool.false_eq_true, if_false]
  congr 1
  apply Array.ext'
  have h1 := key cs 0 ((Array.range m).map fun i => Z.toArray[i % Z.toArray.size]!) (by simp [hcs])
  have h2 : Array.foldl (fun cs (x : Value × Nat) => cs.setIfInBounds x.2 x.1) ((Array.range m).map fun i => Z.toArray[i % Z.toArray.size]!) cs.toArray.zipIdx = (cs.zipIdx 0).foldl (fun cs (x : Value × Nat) => cs.setIfInBounds x.2 x.1) ((Array.range m).map fun i => Z.toArray[i % Z.toArray.size]!) := by
   rw [← Array.foldl_toList]; simp
  have h3 := congrArg Array.toList h2
  rw [h1] at h3
  simp only [List.size_toArray] at h3
  rw [h3]
  simp [hcs]
 simp only [List.size_toArray] at hfill ⊢
 rw [hfill]
 simp [newRow]

theorem x_bs1 {t e : TypeId} {m : Nat} {z v : Value} {Z cs : List Value} (ho : ops[i]? = some ⟨d, .buildSlice t 1 #[(0, x)], ty, ps, af, gd⟩) (hg : guardV ops F gd = some true) (hd : dstOK n d = true) (ht : P.underlying t = some (.slice e)) (hm : szOf P e = some m) (hz : zeroOf P e = some z) (hZ : z.cells = Z.toArray) (hZm : Z.length = m) (h0 : 0 < m) (h24 : m ≤ 16777216)
  (hx : ev? F x = some v) (hv : v.cells = cs.toArray) (hcs : cs.length = m)
  (h : ∀ b w1, b = w.heap.size → w1 = w.alloc (.cells cs.toArray e) → pend B i T w1 ∧ Ex P n ops B dr K s (putE F d (.slice (some ⟨b, 0, none⟩) 1 1)) ds T w1) : Ex P n ops B dr K ((i, true) :: s) F ds T w := by
 obtain ⟨h1, h2⟩ := h _ _ rfl rfl
 refine x_mv ho hg hd (v := .slice (some ⟨w.heap.size, 0, none⟩) 1 1) (w1 := w.alloc (.cells cs.toArray e)) (fun at_ hk => ?_) h1 h2
 have := run_buildSlice1 (P := P) (w := w) ht hm hz hZ hZm h0 h24 hv hcs
 simp only [execOp, List.map_toArray, List.map_cons, List.map_nil, hk.eval hx, Sem.run_bind]
 rw [this]
 rfl

theorem x_app {t tx e m bts k nn : Nat} {z0 xv sv : Value} {cs news : List Value} {at0 : Array TypeId} (ho : ops[i]? = some ⟨d, .call ⟨.builtin .append, #[x, y], at0⟩, ty, ps, af, gd⟩) (hg : guardV ops F gd = some true) (hd : dstOK n d = true)
  (hat : at0 = #[t, tx]) (ht : P.underlying t = some (.slice e)) (hm : szOf P e = some m) (hz : zeroOf P e = some z0) (hzm : z0.cells.size = m) (hby : bytesOf' P e = some bts)
  (hx : ev? F x = some sv) (hy : ev? F y = some xv) (hv : OwS w sv m nn cs) (hcs : ∀ u ∈ cs, u.oneCell' = true) (hs : Src P m tx xv k news w) (hfit : (nn + k) * bts ≤ 70368744177664) (hb : bts ≤ 1048576) (h63 : nn + k ≤ 9223372036854775807)
  (h : ∀ v' w1, OwS w1 v' m (nn + k) (cs ++ news) → (sv = .slice none 0 0 ∧ k = 0 ∧ v' = sv ∧ w1 = w ∨ ApTo w sv v' w1) → pend B i T w1 ∧ Ex P n ops B dr K s (putE F d v') ds T w1) : Ex P n ops B dr K ((i, true) :: s) F ds T w := by
 obtain ⟨v', w', h1, h2, h3⟩ := run_append_ow (ty := ty) ht hm hz hzm hby hv hcs hs hfit hb h63
 obtain ⟨g1, g2⟩ := h v' w' h2 h3
 refine x_mv ho hg hd (v := v') (w1 := w') (fun at_ hk => ?_) g1 g2
 subst hat
 simp only [execOp, resolve, List.map_toArray, List.map_cons, List.map_nil, hk.eval hx, hk.eval hy, Sem.run_bind, Sem.run_pure, Result.andThen_ok, invoke, builtin, h1]
end

theorem ApTo.frm {w w1 : World} {v v' : Value} (h : ApTo w v v' w1) : Frm (fun b => blkOf v = some b) w w1 := by
 rcases h with ⟨b, o, h1, h2, rfl⟩ | ⟨h1, o, rfl⟩
 ·refine ⟨by simp, fun c _ hc => ?_, by simp, by simp, rfl, rfl, rfl⟩
  rw [heap_putObj, if_neg]
  rintro ⟨rfl, _⟩
  exact hc h1
 ·exact (St.alloc (St.drew (Frm.refl _ w) rfl) rfl rfl).frm

theorem ApTo.blk {w w1 : World} {v v' : Value} (h : ApTo w v v' w1) : ∃ b, blkOf v' = some b ∧ (blkOf v = some b ∨ b = w.heap.size) := by
 rcases h with ⟨b, o, h1, h2, rfl⟩ | ⟨h1, o, rfl⟩
 ·exact ⟨b, h2, .inl h1⟩
 ·exact ⟨_, h1, .inr rfl⟩
end Go.Fw

namespace Go.Fw
open Go Go.RowKit
set_option linter.unusedVariables false
set_option linter.unusedSimpArgs false





theorem New.keep {w w1 : World} (h : New w w1) {b : Nat} {o : Obj} (hb : w.heap[b]? = some o) : w1.heap[b]? = some o := (h.old b (Array.getElem?_eq_some_iff.1 hb).1 id).trans hb

theorem madeCells_one (z : Value) (n : Nat) : madeCells #[z] n = (List.replicate n z).toArray := by
 unfold madeCells
 apply Array.ext
 ·simp
 ·intro i h1 h2
  simp [Nat.mod_one]

theorem x_ms {P : Program} {n : Nat} {ops : Array Oper} {B : Array Nat} {dr : Bool} {K : KT} {s : List (Nat × Bool)} {F : Env} {ds : List Deferred} {T : List (Nat × (World → Prop))} {w : World} {i : Nat}
  {d : Option Tmp} {ty : TypeId} {ps : String} {af : Array Edge} {g : Option (Nat × Bool)} {x y : Operand} {t e bts : TypeId} {z : Value} {k1 k2 : IntKind} (l c : Nat)
  (ho : ops[i]? = some ⟨d, .makeSlice t x y, ty, ps, af, g⟩) (hg : guardV ops F g = some true) (hd : dstOK n d = true) (ht : P.underlying t = some (.slice e)) (hs : szOf P e = some 1) (hz : zeroOf P e = some z) (hzc : z.cells = #[z]) (hby : bytesOf' P e = some bts)
  (hx : ev? F x = some (.int k1 (l : Int))) (hy : ev? F y = some (.int k2 (c : Int))) (hlc : l ≤ c) (hb : bts * c ≤ 281474976710656) (h63 : c ≤ 9223372036854775807)
  (h : ∀ b w1, b = w.heap.size → w1 = w.alloc (.cells (List.replicate c z).toArray e) → pend B i T w1 ∧ Ex P n ops B dr K s (putE F d (.slice (some ⟨b, 0, none⟩) l c)) ds T w1) : Ex P n ops B dr K ((i, true) :: s) F ds T w := by
 obtain ⟨g1, g2⟩ := h _ _ rfl rfl
 refine x_mv ho hg hd (v := .slice (some ⟨w.heap.size, 0, none⟩) l c) (w1 := w.alloc (.cells (List.replicate c z).toArray e)) (fun at_ hk => ?_) g1 g2
 unfold szOf at hs
 unfold zeroOf at hz
 unfold bytesOf' at hby
 cases hi : P.info? e with
 | none => simp [hi] at hs
 | some inf =>
  simp [hi] at hs hz hby
  have hb' : (bts : Int) * (c : Int) ≤ 281474976710656 := by rw [← Int.natCast_mul]; exact Int.ofNat_le.2 hb
  have := run_make (P := P) w t e inf z ht hi hz k1 k2 l c (by omega) (by omega) (by rw [hby]; exact hb') (by omega)
  simp only [execOp, hk.eval hx, hk.eval hy, Sem.run_bind, this, Result.andThen_ok, Sem.run_pure, Int.toNat_natCast, hs, Nat.mul_one, hzc, madeCells_one]

def StrOf (w : World) (v : Value) (b : List UInt8) : Prop := (∃ cap, v = .slice none 0 cap ∧ b = []) ∨ ∃ a cap, v = .slice (some a) b.length cap ∧ ∀ j (hj : j < b.length), w.cell? (a.add j) = some (.int .u8 (b[j].toNat : Int))

theorem run_strOf {P : Program} {w : World} {v : Value} {b : List UInt8} {t1 t2 e : TypeId} (hs : P.underlying t1 = some (.slice e)) (he : P.underlying e = some (.int .u8)) (hd : P.underlying t2 = some .string) (h : StrOf w v b) : (convert t1 t2 v).run P w = .ok (.string ⟨b.toArray⟩) w := by
 rcases h with ⟨cap, rfl, rfl⟩ | ⟨a, cap, rfl, hc⟩
 ·rw [run_convert_bytes_string w t1 t2 e none 0 cap hs he hd]
  rfl
 ·exact run_convert_bytes_back w t1 t2 e a cap b hs he hd hc

theorem x_cvbs {P : Program} {n : Nat} {ops : Array Oper} {B : Array Nat} {dr : Bool} {K : KT} {s : List (Nat × Bool)} {F : Env} {ds : List Deferred} {T : List (Nat × (World → Prop))} {w : World} {i : Nat}
  {d : Option Tmp} {ty : TypeId} {ps : String} {af : Array Edge} {g : Option (Nat × Bool)} {x : Operand} {t1 t2 e : TypeId} {v : Value} (b : List UInt8)
  (ho : ops[i]? = some ⟨d, .convert t1 t2 x, ty, ps, af, g⟩) (hg : guardV ops F g = some true) (hd : dstOK n d = true) (h1 : P.underlying t1 = some (.slice e)) (he : P.underlying e = some (.int .u8)) (h2 : P.underlying t2 = some .string)
  (hx : ev? F x = some v) (hs : StrOf w v b) (h : Ex P n ops B dr K s (putE F d (.string ⟨b.toArray⟩)) ds (addT dr i (fun w' => StrOf w' v b) T) w) : Ex P n ops B dr K ((i, false) :: s) F ds T w :=
 Ex.read_ ho hg hd _ (fun w' => StrOf w' v b) (fun a hk w' hR => by
  simp only [execOp, hk.eval hx, Sem.run_bind, run_strOf h1 he h2 hR, Result.andThen_ok, Sem.run_pure]) hs h
end Go.Fw

namespace Go.Fw
open Go Go.RowKit
set_option linter.unusedVariables false
set_option linter.unusedSimpArgs false

section
variable {P : Program} {n : Nat} {ops : Array Oper} {B : Array Nat} {dr : Bool} {K : KT} {s : List (Nat × Bool)} {F : Env} {ds : List Deferred} {T : List (Nat × (World → Prop))} {w : World} {i : Nat}
variable {d : Option Tmp} {ty : TypeId} {ps : String} {af : Array Edge} {g : Option (Nat × Bool)} {x lo hi : Operand} {t e m : TypeId}

theorem elem_of (h : P.underlying t = some (.slice e)) : P.elem t = e := by unfold Program.elem; rw [h]

theorem x_slh {a : Option Addr} {len cap : Nat} {k : IntKind} {z : Int} (j : Nat) (ho : ops[i]? = some ⟨d, .slice t x none (some hi) none, ty, ps, af, g⟩) (hg : guardV ops F g = some true) (hd : dstOK n d = true)
  (hu : P.underlying t = some (.slice e)) (hs : szOf P e = some m) (hx : ev? F x = some (.slice a len cap)) (hh : ev? F hi = some (.int k z)) (hj : z = (j : Int)) (hle : j ≤ cap)
  (h : Ex P n ops B dr K s (putE F d (.slice a j cap)) ds T w) : Ex P n ops B dr K ((i, false) :: s) F ds T w :=
 Ex.pure_ ho hg hd _ (fun at_ hk w' => by
  subst hj
  have he := elem_of hu
  have hu' : P.underlying t = some (.slice (P.elem t)) := by rw [he]; exact hu
  have hv : sliced a 0 j cap m = .slice a j cap := by
   unfold sliced
   congr 1
   split
   ·rfl
   ·cases a <;> simp [Addr.add]
  simp only [execOp, Option.map_none, Option.map_some, hk.eval hx, hk.eval hh, Sem.run_bind, run_sliceAt_slice (w := w') t _ _ _ _ hu', run_slice_h (w := w') t a len cap hu' k (j : Int) (by omega) (by omega), he, run_sizeOf' hs, Result.andThen_ok, Int.toNat_natCast, Sem.run_pure, hv]) h

theorem x_sll {a : Option Addr} {len cap : Nat} {k : IntKind} {z : Int} (j : Nat) (ho : ops[i]? = some ⟨d, .slice t x (some lo) none none, ty, ps, af, g⟩) (hg : guardV ops F g = some true) (hd : dstOK n d = true)
  (hu : P.underlying t = some (.slice e)) (hs : szOf P e = some m) (hx : ev? F x = some (.slice a len cap)) (hh : ev? F lo = some (.int k z)) (hj : z = (j : Int)) (hle : j ≤ len)
  (h : Ex P n ops B dr K s (putE F d (.slice (if cap = j then a else a.map (·.add (j * m))) (len - j) (cap - j))) ds T w) : Ex P n ops B dr K ((i, false) :: s) F ds T w :=
 Ex.pure_ ho hg hd _ (fun at_ hk w' => by
  subst hj
  have he := elem_of hu
  have hu' : P.underlying t = some (.slice (P.elem t)) := by rw [he]; exact hu
  simp only [execOp, Option.map_none, Option.map_some, hk.eval hx, hk.eval hh, Sem.run_bind, run_sliceAt_slice (w := w') t _ _ _ _ hu', run_slice_l (w := w') t a len cap hu' k (j : Int) (by omega) (by omega), he, run_sizeOf' hs, Result.andThen_ok, Int.toNat_natCast, Sem.run_pure, sliced]) h


theorem x_ssl {u : ByteArray} {k : IntKind} {z : Int} (j : Nat) (ho : ops[i]? = some ⟨d, .slice t x (some lo) none none, ty, ps, af, g⟩) (hg : guardV ops F g = some true) (hd : dstOK n d = true)
  (hu : P.underlying t = some .string) (hx : ev? F x = some (.string u)) (hh : ev? F lo = some (.int k z)) (hj : z = (j : Int)) (hle : j ≤ u.size)
  (h : Ex P n ops B dr K s (putE F d (.string (u.extract j u.size))) ds T w) : Ex P n ops B dr K ((i, false) :: s) F ds T w :=
 Ex.pure_ ho hg hd _ (fun at_ hk w' => by
  subst hj
  simp only [execOp, Option.map_none, Option.map_some, hk.eval hx, hk.eval hh, Sem.run_bind, run_sliceAt_string (w := w') t _ _ _ _ hu, run_slice_string_l w' t u hu k (j : Int) (by omega) (by omega), Result.andThen_ok, Int.toNat_natCast, Sem.run_pure]) h

theorem run_slice_string_lh (w : World) (t : TypeId) (s : ByteArray) (ht : P.underlying t = some .string) (kl kh : IntKind) (l h : Int) (h0 : 0 ≤ l) (h1 : l ≤ h) (h2 : h ≤ s.size) :
  (Instr.slice t (.string s) (some (.int kl l)) (some (.int kh h)) none).run P w = .ok (.string (s.extract l.toNat h.toNat)) w := by
 have eh : (h.toNat : Int) = h := Int.toNat_of_nonneg (by omega)
 simp [Instr.slice, run_underlying ht, Instr.sliceBounds, run_sliceBound, sliced, *, eh, (by omega : 0 ≤ l), (by omega : 0 ≤ h)]

theorem x_sslh {u : ByteArray} {k1 k2 : IntKind} {z1 z2 : Int} (j1 j2 : Nat) (ho : ops[i]? = some ⟨d, .slice t x (some lo) (some hi) none, ty, ps, af, g⟩) (hg : guardV ops F g = some true) (hd : dstOK n d = true)
  (hu : P.underlying t = some .string) (hx : ev? F x = some (.string u)) (hl : ev? F lo = some (.int k1 z1)) (hh : ev? F hi = some (.int k2 z2)) (hj1 : z1 = (j1 : Int)) (hj2 : z2 = (j2 : Int)) (hle : j1 ≤ j2) (hle2 : j2 ≤ u.size)
  (h : Ex P n ops B dr K s (putE F d (.string (u.extract j1 j2))) ds T w) : Ex P n ops B dr K ((i, false) :: s) F ds T w :=
 Ex.pure_ ho hg hd _ (fun at_ hk w' => by
  subst hj1; subst hj2
  simp only [execOp, Option.map_none, Option.map_some, hk.eval hx, hk.eval hl, hk.eval hh, Sem.run_bind, run_sliceAt_string (w := w') t _ _ _ _ hu, run_slice_string_lh w' t u hu k1 k2 (j1 : Int) (j2 : Int) (by omega) (by omega) (by omega), Result.andThen_ok, Int.toNat_natCast, Sem.run_pure]) h
end

theorem Sl.take {w : World} {a : Option Addr} {len cap m : Nat} {cs : List Value} {j : Nat} (h : Sl w (.slice a len cap) m len cs) (hj : j ≤ len) : Sl w (.slice a j cap) m j (cs.take (j * m)) := by
 rcases h with ⟨h1, h2, h3⟩ | ⟨b, off, cap', all, T, fr, h1, hc, hb, h2, h3⟩
 ·cases h1
  have : j = 0 := by omega
  subst this
  exact .inl ⟨rfl, rfl, by simp⟩
 ·cases h1
  refine .inr ⟨b, off, cap, all, T, fr, rfl, by omega, hb, ?_, ?_⟩
  ·rw [← h2, List.take_take, Nat.min_eq_left (Nat.mul_le_mul_right _ hj)]
  ·rw [List.length_take, h3, Nat.min_eq_left (Nat.mul_le_mul_right _ hj)]

theorem Sl.drop {w : World} {a : Option Addr} {len cap m : Nat} {cs : List Value} {j : Nat} (h : Sl w (.slice a len cap) m len cs) (hj : j ≤ len) : Sl w (.slice (if cap = j then a else a.map (·.add (j * m))) (len - j) (cap - j)) m (len - j) (cs.drop (j * m)) := by
 rcases h with ⟨h1, h2, h3⟩ | ⟨b, off, cap', all, T, fr, h1, hc, hb, h2, h3⟩
 ·cases h1
  have : j = 0 := by omega
  subst this
  refine .inl ⟨by simp, rfl, by simp [h3]⟩
 ·cases h1
  by_cases hcj : cap = j
  ·have hl : len = j := by omega
   subst hcj; subst hl
   rw [if_pos rfl]
   exact .inr ⟨b, off, 0, all, T, fr, by simp, by omega, hb, by simp [h3], by simp [h3]⟩
  ·rw [if_neg hcj]
   have ea : (⟨b, off, none⟩ : Addr).add (j * m) = ⟨b, off + j * m, none⟩ := by
    unfold Addr.add; split
    ·rename_i hz; rw [hz]; rfl
    ·rfl
   refine .inr ⟨b, off + j * m, cap - j, all, T, fr, by simp [ea], by omega, hb, ?_, ?_⟩
   ·rw [← h2, List.drop_take, List.drop_drop, Nat.sub_mul]
   ·rw [List.length_drop, h3, Nat.sub_mul]

end Go.Fw

namespace Go.Fw
open Go Go.RowKit
set_option linter.unusedVariables false
set_option linter.unusedSimpArgs false

/-! ## Blocks -/
abbrev Sep (w0 : World) (L : List (Nat × Obj)) (w : World) : Prop := St None' w0 L w

theorem perm_c {α : Type} {l l' : List α} (h : ∀ p : α → Bool, l.countP p = l'.countP p) : l.Perm l' := by
 classical
 letI : BEq α := ⟨fun a b => decide (a = b)⟩
 haveI : LawfulBEq α := { eq_of_beq := fun h => of_decide_eq_true h, rfl := decide_eq_true rfl }
 exact List.perm_iff_count.2 fun a => h _

section
variable {S : Nat → Prop} {w0 w w1 : World} {L L' : List (Nat × Obj)}

theorem St.acons (h : St S w0 L w) {o : Obj} {b : Nat} (hb : b = w.heap.size) (hw : w1 = w.alloc o) : St S w0 ((b, o) :: L) w1 :=
 (h.alloc hb hw).perm (List.perm_append_singleton _ _)
theorem St.nil (w : World) : Sep w [] w := Frm.refl _ _
theorem St.grow' (h : St S w0 L w) (hc : Sep w L' w1) : St S w0 (L' ++ L) w1 := (h.grow hc).perm List.perm_append_comm
theorem St.tail {x : Nat × Obj} (h : St S w0 (x :: L) w) : St S w0 L w := h.sub (List.sublist_cons_self _ _)
theorem St.dropL {L' : List (Nat × Obj)} (h : St S w0 (L' ++ L) w) : St S w0 L w := h.sub (List.sublist_append_right _ _)
theorem St.dropR {L' : List (Nat × Obj)} (h : St S w0 (L ++ L') w) : St S w0 L w := h.sub (List.sublist_append_left _ _)
theorem St.trans {L' : List (Nat × Obj)} (h : Sep w0 L w) (h' : Sep w L' w1) : Sep w0 L' w1 := by
 have := h.grow' h'
 exact this.dropR
end

/-! ## Numbers -/
theorem w64 {x : Int} (h1 : -9223372036854775808 ≤ x) (h2 : x < 9223372036854775808) : IntKind.i64.wrap x = x := IntWalk.i64_in _ ⟨h1, by omega⟩
theorem wadd {a b : Int} (h1 : -9223372036854775808 ≤ a + b) (h2 : a + b < 9223372036854775808) : IntKind.i64.wrap (a + b) = a + b := w64 h1 h2
theorem wsub {a b : Int} (h1 : -9223372036854775808 ≤ a - b) (h2 : a - b < 9223372036854775808) : IntKind.i64.wrap (a - b) = a - b := w64 h1 h2

/-! ## Strings -/
def strB (s : List UInt8) : ByteArray := ⟨s.toArray⟩
abbrev strV (s : List UInt8) : Value := .string (strB s)
theorem strB_of (x : ByteArray) : ∃ s, x = strB s := ⟨x.data.toList, by cases x; simp [strB]⟩
theorem strB_size (s : List UInt8) : (strB s).size = s.length := by simp [strB, ByteArray.size]
theorem strB_list (s : List UInt8) : (strB s).toList = s := ByteArray.toList_mk s
theorem strB_inj {a b : List UInt8} (h : strB a = strB b) : a = b := by have := congrArg ByteArray.toList h; rwa [strB_list, strB_list] at this
theorem strB_app (a b : List UInt8) : strB a ++ strB b = strB (a ++ b) := by
 apply ByteArray.ext
 rw [ByteArray.data_append]
 simp [strB]
theorem strB_ext (a : List UInt8) (i j : Nat) : (strB a).extract i j = strB ((a.drop i).take (j - i)) := by
 apply ByteArray.ext
 rw [ByteArray.data_extract]
 simp only [strB]
 apply Array.ext'
 simp [List.extract_eq_take_drop]
theorem strB_get (a : List UInt8) (j : Nat) : (strB a)[j]? = a[j]? := by
 simp only [strB]
 by_cases h : j < a.length
 ·rw [List.getElem?_eq_getElem h]
  have h2 : j < (ByteArray.mk a.toArray).size := by simpa [ByteArray.size] using h
  rw [getElem?_pos (ByteArray.mk a.toArray) j h2]
  rfl
 ·rw [List.getElem?_eq_none (by omega), getElem?_neg]
  simpa [ByteArray.size] using h

section
variable {P : Program} {n : Nat} {ops : Array Oper} {B : Array Nat} {dr : Bool} {K : KT} {s : List (Nat × Bool)} {F : Env} {ds : List Deferred} {T : List (Nat × (World → Prop))} {w : World} {i : Nat}
 {d : Option Tmp} {ty : TypeId} {ps : String} {af : Array Edge} {g : Option (Nat × Bool)} {t t2 : TypeId} {x y lo hi ix : Operand}

theorem x_eqS {a b : List UInt8} (r : Bool) (ho : ops[i]? = some ⟨d, .binOp .eql t x y t2, ty, ps, af, g⟩) (hg : guardV ops F g = some true) (hd : dstOK n d = true) (hx : ev? F x = some (.string (strB a))) (hy : ev? F y = some (.string (strB b))) (hr : decide (a = b) = r)
  (h : Ex P n ops B dr K s (putE F d (.bool r)) ds T w) : Ex P n ops B dr K ((i, false) :: s) F ds T w := x_eqs r ho hg hd hx hy (by rw [strB_list, strB_list, ← hr]; rw [Bool.eq_iff_iff]; simp) h
theorem x_neS {a b : List UInt8} (r : Bool) (ho : ops[i]? = some ⟨d, .binOp .neq t x y t2, ty, ps, af, g⟩) (hg : guardV ops F g = some true) (hd : dstOK n d = true) (hx : ev? F x = some (.string (strB a))) (hy : ev? F y = some (.string (strB b))) (hr : (!decide (a = b)) = r)
  (h : Ex P n ops B dr K s (putE F d (.bool r)) ds T w) : Ex P n ops B dr K ((i, false) :: s) F ds T w := x_nes r ho hg hd hx hy (by rw [strB_list, strB_list, ← hr]; rw [Bool.eq_iff_iff]; simp) h
theorem x_lenS {a : List UInt8} {at0 : Array TypeId} (ho : ops[i]? = some ⟨d, .call ⟨.builtin .len, #[x], at0⟩, ty, ps, af, g⟩) (hg : guardV ops F g = some true) (hd : dstOK n d = true) (ht : at0[0]? = some t) (hu : P.underlying t = some .string) (hx : ev? F x = some (.string (strB a)))
  (h : Ex P n ops B dr K s (putE F d (.int .i64 (a.length : Int))) ds T w) : Ex P n ops B dr K ((i, false) :: s) F ds T w := x_lens ho hg hd ht hu hx (by rw [strB_size]; exact h)
theorem x_ixS {k : IntKind} {z : Int} {a : List UInt8} {c : UInt8} (j : Nat) (ho : ops[i]? = some ⟨d, .index t x ix, ty, ps, af, g⟩) (hg : guardV ops F g = some true) (hd : dstOK n d = true) (hu : P.underlying t = some .string) (hx : ev? F x = some (.string (strB a))) (hi : ev? F ix = some (.int k z)) (hj : z = (j : Int)) (hc : a[j]? = some c)
  (h : Ex P n ops B dr K s (putE F d (.int .u8 (c.toNat : Int))) ds T w) : Ex P n ops B dr K ((i, false) :: s) F ds T w := x_ixs j ho hg hd hu hx hi hj (by rw [strB_get]; exact hc) h
theorem x_catS {a b : List UInt8} (ho : ops[i]? = some ⟨d, .binOp .add t x y t2, ty, ps, af, g⟩) (hg : guardV ops F g = some true) (hd : dstOK n d = true) (hx : ev? F x = some (.string (strB a))) (hy : ev? F y = some (.string (strB b))) (hr : a.length + b.length ≤ 9223372036854775807)
  (h : Ex P n ops B dr K s (putE F d (.string (strB (a ++ b)))) ds T w) : Ex P n ops B dr K ((i, false) :: s) F ds T w := x_cat ho hg hd hx hy (by rw [strB_size, strB_size]; show ((a.length + b.length : Nat) : Int) ≤ 9223372036854775807; omega) (by rw [strB_app]; exact h)
theorem x_sslS {a : List UInt8} {k : IntKind} {z : Int} (j : Nat) (ho : ops[i]? = some ⟨d, .slice t x (some lo) none none, ty, ps, af, g⟩) (hg : guardV ops F g = some true) (hd : dstOK n d = true)
  (hu : P.underlying t = some .string) (hx : ev? F x = some (.string (strB a))) (hh : ev? F lo = some (.int k z)) (hj : z = (j : Int)) (hle : j ≤ a.length)
  (h : Ex P n ops B dr K s (putE F d (.string (strB (a.drop j)))) ds T w) : Ex P n ops B dr K ((i, false) :: s) F ds T w := x_ssl j ho hg hd hu hx hh hj (by rw [strB_size]; exact hle) (by
   rw [strB_ext, strB_size, List.take_of_length_le (by simp)]; exact h)
theorem x_sslhS {a : List UInt8} {k1 k2 : IntKind} {z1 z2 : Int} (j1 j2 : Nat) (ho : ops[i]? = some ⟨d, .slice t x (some lo) (some hi) none, ty, ps, af, g⟩) (hg : guardV ops F g = some true) (hd : dstOK n d = true)
  (hu : P.underlying t = some .string) (hx : ev? F x = some (.string (strB a))) (hl : ev? F lo = some (.int k1 z1)) (hh : ev? F hi = some (.int k2 z2)) (hj1 : z1 = (j1 : Int)) (hj2 : z2 = (j2 : Int)) (hle : j1 ≤ j2) (hle2 : j2 ≤ a.length)
  (h : Ex P n ops B dr K s (putE F d (.string (strB ((a.drop j1).take (j2 - j1))))) ds T w) : Ex P n ops B dr K ((i, false) :: s) F ds T w := x_sslh j1 j2 ho hg hd hu hx hl hh hj1 hj2 hle (by rw [strB_size]; exact hle2) (by rw [strB_ext]; exact h)

theorem x_max {k : IntKind} {a0 b0 : Int} {at0 : Array TypeId} (r : Int) (ho : ops[i]? = some ⟨d, .call ⟨.builtin .max, #[x, y], at0⟩, ty, ps, af, g⟩) (hg : guardV ops F g = some true) (hd : dstOK n d = true) (hx : ev? F x = some (.int k a0)) (hy : ev? F y = some (.int k b0)) (hr : (if a0 < b0 then b0 else a0) = r) (h : Ex P n ops B dr K s (putE F d (.int k r)) ds T w) : Ex P n ops B dr K ((i, false) :: s) F ds T w :=
 Ex.pure_ ho hg hd _ (fun a hk w' => by subst hr; simp [execOp, resolve, invoke, builtin, Builtin.max_, Builtin.max2, hk.eval hx, hk.eval hy]) h



end




/-! ## Slices, told by their blocks -/
def SlL (L : List (Nat × Obj)) (v : Value) (m n : Nat) (cs : List Value) : Prop :=
 (v = .slice none 0 0 ∧ n = 0 ∧ cs = []) ∨
 ∃ b off cap all T fr, v = .slice (some ⟨b, off, none⟩) n cap ∧ n ≤ cap ∧ (b, Obj.cells all T fr) ∈ L ∧ (all.toList.drop off).take (n * m) = cs ∧ cs.length = n * m
def OwL (L : List (Nat × Obj)) (v : Value) (m n : Nat) (cs : List Value) : Prop :=
 (v = .slice none 0 0 ∧ n = 0 ∧ cs = [] ∧ L = []) ∨
 ∃ b cap rest T, v = .slice (some ⟨b, 0, none⟩) n cap ∧ L = [(b, .cells (cs ++ rest).toArray T (0, 0))] ∧ cs.length = n * m ∧ (cs ++ rest).length = cap * m

section
variable {P : Program} {S : Nat → Prop} {w0 w w1 : World} {L L' : List (Nat × Obj)} {v : Value} {m k : Nat} {cs : List Value}
theorem SlL.at_ (h : SlL L v m k cs) (M : St S w0 L' w) (hs : ∀ x ∈ L, x ∈ L') : Sl w v m k cs := by
 rcases h with h | ⟨b, off, cap, all, T, fr, h1, h2, h3, h4⟩
 ·exact .inl h
 ·exact .inr ⟨b, off, cap, all, T, fr, h1, h2, M.get (hs _ h3), h4⟩
theorem SlL.mono (h : SlL L v m k cs) (hs : ∀ x ∈ L, x ∈ L') : SlL L' v m k cs := by
 rcases h with h | ⟨b, off, cap, all, T, fr, h1, h2, h3, h4⟩
 ·exact .inl h
 ·exact .inr ⟨b, off, cap, all, T, fr, h1, h2, hs _ h3, h4⟩
theorem OwL.sl (h : OwL L v m k cs) (hm : 0 < m) : SlL L v m k cs := by
 rcases h with ⟨h1, h2, h3, _⟩ | ⟨b, cap, rest, T, h1, rfl, h3, h4⟩
 ·exact .inl ⟨h1, h2, h3⟩
 ·refine .inr ⟨b, 0, cap, _, T, (0, 0), h1, ?_, List.mem_singleton.2 rfl, by simp [← h3], h3⟩
  have : k * m ≤ cap * m := by rw [← h3, ← h4]; simp
  exact Nat.le_of_mul_le_mul_right this hm
theorem OwL.ows (h : OwL L v m k cs) (M : St S w0 L' w) (hs : ∀ x ∈ L, x ∈ L') : OwS w v m k cs := by
 rcases h with ⟨h1, h2, h3, _⟩ | ⟨b, cap, rest, T, h1, rfl, h3, h4⟩
 ·exact .inl ⟨h1, h2, h3⟩
 ·exact .inr ⟨b, cap, rest, T, h1, M.get (hs _ (List.mem_singleton.2 rfl)), h3, h4⟩
theorem OwL.nil : OwL [] (.slice none 0 0) m 0 [] := .inl ⟨rfl, rfl, rfl, rfl⟩
theorem OwL.shape (h : OwL L v m k cs) : ∃ p cap, v = .slice p k cap := by
 rcases h with ⟨rfl, rfl, _⟩ | ⟨b, cap, rest, T, h1, _⟩
 ·exact ⟨none, 0, rfl⟩
 ·exact ⟨_, cap, h1⟩
theorem OwL.shape2 (h : OwL L v m k cs) (hm : 0 < m) : ∃ p cap, v = .slice p k cap ∧ k ≤ cap := by
 rcases h with ⟨rfl, rfl, _⟩ | ⟨b, cap, rest, T, h1, _, h3, h4⟩
 ·exact ⟨none, 0, rfl, Nat.le_refl _⟩
 ·refine ⟨_, cap, h1, ?_⟩
  have : k * m ≤ cap * m := by rw [← h3, ← h4]; simp
  exact Nat.le_of_mul_le_mul_right this hm
theorem SlL.shape (h : SlL L v m k cs) : ∃ p cap, v = .slice p k cap := by
 rcases h with ⟨rfl, rfl, _⟩ | ⟨b, off, cap, all, T, fr, h1, _⟩
 ·exact ⟨none, 0, rfl⟩
 ·exact ⟨_, cap, h1⟩
theorem OwL.len (h : OwL L v m k cs) : cs.length = k * m := by
 rcases h with ⟨rfl, rfl, rfl, _⟩ | ⟨b, cap, rest, T, h1, _, h2, _⟩
 ·simp
 ·exact h2
theorem Sl.shape (h : Sl w v m k cs) : ∃ p cap, v = .slice p k cap := by
 rcases h with ⟨rfl, rfl, _⟩ | ⟨b, off, cap, all, T, fr, h1, _⟩
 ·exact ⟨none, 0, rfl⟩
 ·exact ⟨_, cap, h1⟩
theorem Sl.new (h : Sl w v m k cs) (hn : New w w1) : Sl w1 v m k cs := h.same fun b hb => hn.old b (h.lt b hb) id
theorem Sl.len (h : Sl w v m k cs) : cs.length = k * m := by
 rcases h with ⟨rfl, rfl, rfl⟩ | ⟨b, off, cap, all, T, fr, h1, _, _, _, h2⟩
 ·simp
 ·exact h2

theorem OwL.take {p : Option Addr} {len cap j : Nat} (h : OwL L (.slice p len cap) m k cs) (hj : j ≤ k) : OwL L (.slice p j cap) m j (cs.take (j * m)) := by
 rcases h with ⟨h1, rfl, rfl, rfl⟩ | ⟨b, cap', rest, T, h1, rfl, h3, h4⟩
 ·have : j = 0 := by omega
  subst this
  cases h1
  exact .inl ⟨rfl, rfl, by simp, rfl⟩
 ·cases h1
  have hle : j * m ≤ k * m := Nat.mul_le_mul_right _ hj
  refine .inr ⟨b, cap, cs.drop (j * m) ++ rest, T, rfl, ?_, by rw [List.length_take, h3]; omega, ?_⟩
  ·rw [← List.append_assoc, List.take_append_drop]
  ·rw [← List.append_assoc, List.take_append_drop]; exact h4

end

theorem x_apL {P : Program} {n : Nat} {ops : Array Oper} {B : Array Nat} {dr : Bool} {K : KT} {s : List (Nat × Bool)} {F : Env} {ds : List Deferred} {T : List (Nat × (World → Prop))} {w : World} {i : Nat}
  {d : Option Tmp} {ty : TypeId} {ps : String} {af : Array Edge} {gd : Option (Nat × Bool)} {x y : Operand} {t tx e m bts k nn : Nat} {z0 xv sv : Value} {cs news : List Value} {at0 : Array TypeId} {S : Nat → Prop} {w0 : World} {L L0 : List (Nat × Obj)} (ho : ops[i]? = some ⟨d, .call ⟨.builtin .append, #[x, y], at0⟩, ty, ps, af, gd⟩) (hg : guardV ops F gd = some true) (hd : dstOK n d = true)
  (hat : at0 = #[t, tx]) (ht : P.underlying t = some (.slice e)) (hm : szOf P e = some m) (hz : zeroOf P e = some z0) (hzm : z0.cells.size = m) (hby : bytesOf' P e = some bts)
  (hx : ev? F x = some sv) (hy : ev? F y = some xv) (hv : OwL L sv m nn cs) (M : St S w0 (L ++ L0) w) (hcs : ∀ u ∈ cs, u.oneCell' = true) (hs : Src P m tx xv k news w) (hfit : (nn + k) * bts ≤ 70368744177664) (hb : bts ≤ 1048576) (h63 : nn + k ≤ 9223372036854775807)
  (h : ∀ L' v' w1, OwL L' v' m (nn + k) (cs ++ news) → St S w0 (L' ++ L0) w1 → pend B i T w1 ∧ Ex P n ops B dr K s (putE F d v') ds T w1) : Ex P n ops B dr K ((i, true) :: s) F ds T w := by
 refine x_app ho hg hd hat ht hm hz hzm hby hx hy (hv.ows M (fun x hx => List.mem_append_left _ hx)) hcs hs hfit hb h63 (fun v' w1 h1 h2 => ?_)
 have key : ∀ b, blkOf v' = some b → ∃ cap rest T, v' = .slice (some ⟨b, 0, none⟩) (nn + k) cap ∧ w1.heap[b]? = some (.cells ((cs ++ news) ++ rest).toArray T (0, 0)) ∧ (cs ++ news).length = (nn + k) * m ∧ ((cs ++ news) ++ rest).length = cap * m := by
  intro b hb
  rcases h1 with ⟨rfl, _⟩ | ⟨b', cap, rest, T, rfl, g1, g2, g3⟩
  ·cases hb
  ·cases hb; exact ⟨cap, rest, T, rfl, g1, g2, g3⟩
 rcases h2 with ⟨rfl, rfl, rfl, rfl⟩ | ⟨b, o, g1, g2, rfl⟩ | ⟨g1, o, rfl⟩
 ·rcases hv with ⟨_, rfl, rfl, rfl⟩ | ⟨b, cap, rest, T, g, _⟩
  ·have h0 : news = [] := by have := hs.newsLen; simpa using this
   subst h0
   exact h [] _ _ OwL.nil M
  ·cases g
 ·obtain ⟨cap, rest, T, rfl, g3, g4, g5⟩ := key b g2
  rcases hv with ⟨rfl, _⟩ | ⟨b', cap', rest', T', rfl, rfl, g6, g7⟩
  ·cases g1
  ·cases g1
   have M1 := M.put 0 (b := b') (o0 := .cells (cs ++ rest').toArray T' (0, 0)) (o := o) rfl rfl
   have M1 : St S w0 ([(b', o)] ++ L0) (w.putObj b' o) := M1
   have g8 := M1.at_ 0 (b := b') (o := o) rfl
   rw [g3] at g8; cases g8
   exact h [(b', _)] _ _ (.inr ⟨b', cap, rest, T, rfl, rfl, g4, g5⟩) M1
 ·obtain ⟨cap, rest, T, rfl, g3, g4, g5⟩ := key _ g1
  have M1 := (M.drew rfl).acons (b := w.heap.size) rfl (o := o) rfl
  have g8 := M1.at_ 0 (b := w.heap.size) (o := o) rfl
  rw [g3] at g8; cases g8
  refine h [(w.heap.size, _)] _ _ (.inr ⟨_, cap, rest, T, rfl, rfl, g4, g5⟩) (M1.sub ?_)
  exact List.Sublist.cons_cons _ (List.sublist_append_right _ _)

theorem x_bsN {P : Program} {n : Nat} {ops : Array Oper} {B : Array Nat} {dr : Bool} {K : KT} {s : List (Nat × Bool)} {F : Env} {ds : List Deferred} {T : List (Nat × (World → Prop))} {w : World} {i : Nat}
  {d : Option Tmp} {ty : TypeId} {ps : String} {af : Array Edge} {gd : Option (Nat × Bool)} {t e : TypeId} {m N : Nat} {z : Value} {Z : List Value} {parts : Array (Nat × Operand)} {vs : List (Nat × Value)} (cells : List Value) (ho : ops[i]? = some ⟨d, .buildSlice t N parts, ty, ps, af, gd⟩) (hg : guardV ops F gd = some true) (hd : dstOK n d = true)
  (ht : P.underlying t = some (.slice e)) (hm : szOf P e = some m) (hz : zeroOf P e = some z) (hZ : z.cells = Z.toArray) (hZm : Z.length = m) (h0 : 0 < N * m) (h24 : N * m ≤ 16777216)
  (hx : evps? F parts.toList = some vs) (hf : Instr.fill (fun i => some (i * m, m)) ((Array.range (N * m)).map fun i => Z.toArray[i % Z.toArray.size]!) vs = some cells.toArray)
  (h : ∀ b w1, b = w.heap.size → w1 = w.alloc (.cells cells.toArray e) → pend B i T w1 ∧ Ex P n ops B dr K s (putE F d (.slice (some ⟨b, 0, none⟩) N N)) ds T w1) : Ex P n ops B dr K ((i, true) :: s) F ds T w := by
 obtain ⟨h1, h2⟩ := h _ _ rfl rfl
 have hm0 : m ≠ 0 := by rintro rfl; simp at h0
 have run : (Instr.buildSlice t N vs.toArray).run P w = .ok (.slice (some ⟨w.heap.size, 0, none⟩) N N) (w.alloc (.cells cells.toArray e)) := by
  unfold Instr.buildSlice
  simp only [Sem.run_bind, run_underlying ht, Result.andThen_ok, run_sizeOf' hm]
  rw [if_neg (by omega), if_neg (by omega)]
  simp only [Sem.run_bind, run_zero' hz, Result.andThen_ok, Sem.run_pure, hZ]
  have hf2 := hf
  simp only [List.size_toArray] at hf2 ⊢
  rw [hf2]
  simp [newRow]
 refine x_mv ho hg hd (v := .slice (some ⟨w.heap.size, 0, none⟩) N N) (w1 := w.alloc (.cells cells.toArray e)) (fun at_ hk => ?_) h1 h2
 simp only [execOp, evps_array hk hx, Sem.run_bind]
 rw [run]
 rfl

def Sg (w : World) (v : Value) (m n : Nat) (cs : List Value) : Prop := (n = 0 ∧ cs = [] ∧ ∃ p cap, v = .slice p 0 cap) ∨ Sl w v m n cs
section
variable {P : Program} {w w1 : World} {v : Value} {m n : Nat} {cs : List Value}
theorem Sg.shape (h : Sg w v m n cs) : ∃ p cap, v = .slice p n cap := by
 rcases h with ⟨rfl, _, p, cap, rfl⟩ | h
 ·exact ⟨p, cap, rfl⟩
 ·exact h.shape
theorem Sg.new (h : Sg w v m n cs) (hn : New w w1) : Sg w1 v m n cs := h.imp id fun h => h.new hn
theorem Sg.len (h : Sg w v m n cs) : cs.length = n * m := by
 rcases h with ⟨rfl, rfl, _⟩ | h
 ·simp
 ·exact h.len
theorem Sg.sl (h : Sg w v m n cs) (hn : n ≠ 0) : Sl w v m n cs := h.resolve_left fun e => hn e.1
theorem Sg.src (h : Sg w v m n cs) {tx e' : TypeId} (hk : P.underlying tx = some (.slice e')) (h1 : ∀ u ∈ cs, u.oneCell' = true) : Src P m tx v n cs w := by
 rcases h with ⟨rfl, rfl, p, cap, rfl⟩ | h
 ·cases p with
  | none => exact Src.ofNil w hk cap
  | some a => exact Src.ofSlice w hk a 0 cap [] (by simp) (fun j u hu => by simp at hu) (by simp)
 ·exact h.src hk h1
end

/-! ## Rows of strings -/
def strCs (l : List (List UInt8)) : List Value := l.map strV
theorem strCs_one (l : List (List UInt8)) : ∀ u ∈ strCs l, u.oneCell' = true := by
 intro u hu; obtain ⟨x, _, rfl⟩ := List.mem_map.1 hu; rfl
theorem strCs_get {l : List (List UInt8)} {j : Nat} {x : List UInt8} (h : l[j]? = some x) : (strCs l)[j]? = some (strV x) := by simp [strCs, h]
abbrev StrsAt (w : World) (v : Value) (l : List (List UInt8)) : Prop := Sg w v 1 l.length (strCs l)
abbrev StrsO (L : List (Nat × Obj)) (v : Value) (l : List (List UInt8)) : Prop := OwL L v 1 l.length (strCs l)

theorem strsO_snoc {L : List (Nat × Obj)} {v : Value} {A : List (List UInt8)} {n : List UInt8} (h : OwL L v 1 (A.length + 1) (strCs A ++ [strV n])) : StrsO L v (A ++ [n]) := by
 have e1 : (A ++ [n]).length = A.length + 1 := by simp
 have e2 : strCs (A ++ [n]) = strCs A ++ [strV n] := by simp [strCs]
 unfold StrsO; rw [e1, e2]; exact h
theorem strsO_at {S : Nat → Prop} {w0 w : World} {L Lo : List (Nat × Obj)} {v : Value} {A : List (List UInt8)} (h : StrsO Lo v A) (M : St S w0 L w) (hs : ∀ x ∈ Lo, x ∈ L) : StrsAt w v A := .inr ((OwL.sl h (by decide)).at_ M hs)
theorem strsO_take {L : List (Nat × Obj)} {p : Option Addr} {len cap j : Nat} {A : List (List UInt8)} (h : StrsO L (.slice p len cap) A) (hj : j ≤ A.length) : StrsO L (.slice p j cap) (A.take j) := by
 have h1 := OwL.take h hj
 have e1 : (A.take j).length = j := by simp; omega
 have e2 : strCs (A.take j) = (strCs A).take (j * 1) := by simp [strCs, List.map_take]
 unfold StrsO; rw [e1, e2]; exact h1
theorem Sg.blk {w : World} {p : Option Addr} {len cap m n j : Nat} {cs : List Value} (h : Sg w (.slice p len cap) m n cs) (hj : j < n) : ∃ b off, p = some ⟨b, off, none⟩ ∧ len = n := by
 rcases h.sl (by omega) with ⟨_, h2, _⟩ | ⟨b, off, cap', all, T, fr, h1, _⟩
 ·omega
 ·cases h1; exact ⟨b, off, rfl, rfl⟩
theorem Sl.blk {w : World} {p : Option Addr} {len cap m n j : Nat} {cs : List Value} (h : Sl w (.slice p len cap) m n cs) (hj : j < n) : ∃ b off, p = some ⟨b, off, none⟩ ∧ len = n := by
 rcases h with ⟨_, h2, _⟩ | ⟨b, off, cap', all, T, fr, h1, _⟩
 ·omega
 ·cases h1; exact ⟨b, off, rfl, rfl⟩
theorem Sl.cell1 {w : World} {b off n cap j : Nat} {cs : List Value} {u : Value} (h : Sl w (.slice (some ⟨b, off, none⟩) n cap) 1 n cs) (hu : cs[j]? = some u) : w.cell? ⟨b, off + j * 1, none⟩ = some u := by
 have := h.cell (j := j) (q := 0) rfl (by simpa using hu)
 simpa using this
theorem StrsAt.cell {w : World} {b off n cap j : Nat} {l : List (List UInt8)} {x : List UInt8} (h : StrsAt w (.slice (some ⟨b, off, none⟩) n cap) l) (hx : l[j]? = some x) : w.cell? ⟨b, off + j * 1, none⟩ = some (strV x) := by
 have hj : j < l.length := (List.getElem?_eq_some_iff.1 hx).1
 have h := h.sl (by omega)
 have hn : n = l.length := by
  rcases h with ⟨h1, _⟩ | ⟨_, _, _, _, _, _, h1, _⟩
  ·cases h1
  ·cases h1; rfl
 subst hn
 exact Sl.cell1 h (strCs_get hx)
end Go.Fw

namespace Go.Fw
open Go Go.ChangeShapes Go.WideShapes Go.ChangeAt Go.RowKit
set_option linter.unusedVariables false
set_option linter.unusedSimpArgs false

theorem New.below {w w' : World} (h : New w w') : Below w.heap.size w w' := ⟨h.os, h.tape, h.output, h.size, fun k hk => h.old k hk id⟩

section
variable {H : Type} {enc : TypeId × Value → H}

theorem trodAll_below {P : Program} {W W' : World} (hl : laidOutB P = true) (hb : Below W.heap.size W W') : ∀ {ts : List TypeId} {vs : List Value} {ds : List (DataW H)} {ps : List MemPlace}, (∀ t ∈ ts, P.readableRec t = true ∧ t < P.types.size) →
  DataW.TrodAll enc P W 0 (fun _ => true) true ts vs ds ps → (∀ x ∈ ps, x.block < W.heap.size) → DataW.TrodAll enc P W' 0 (fun b => decide (b < W.heap.size)) true ts vs ds ps
 | [], [], [], _, _, h, _ => h
 | t :: ts, v :: vs, d :: ds, ps, ht, ⟨p, q, h1, h2, e⟩, hs =>
  ⟨p, q, Below.trod hl (ht t (by simp)).1 (ht t (by simp)).2 h1 hb (fun x hx => hs x (by rw [e]; simp [hx])), trodAll_below hl hb (fun t h => ht t (by simp [h])) h2 (fun x hx => hs x (by rw [e]; simp [hx])), e⟩

theorem law_post {P : Program} {f : Func} {s : ChangeSpec} {W W' : World} {args : Array Value} {ds gs : List (DataW H)} {before : List MemPlace} {b : TypeId} (hl : laidOutB P = true) (hr : ∀ t ∈ f.params.toList, P.readableRec t = true ∧ t < P.types.size)
  (hv : s.vars = []) (hres : f.resultTypes = #[b]) (hb : P.underlying b = some .bool) (hW : DataW.Whole enc P f.params.toList s.vars false W args.toList ds gs before)
  (hs : s.fn H (ds ++ gs) = { results := [.lit (.bool true)], args := ds }) (hn : New W W') : s.post enc P f false true false false W args (.bool true) W' := by
 have hlt := hW.lt
 have hW0 := hW
 obtain ⟨p, q, hA, hV, rfl, hfz, hnd⟩ := hW
 refine ⟨ds, gs, p ++ q, [], p, q, hW0, ?_, ?_, ?_, (New.below hn).frame _, fun h => by cases h⟩
 ·rw [hs, hres]
  exact trodAll_cons_mk (shut_bool hb _) trodAll_mk0
 ·rw [hs]
  exact trodAll_below hl (New.below hn) hr hA (fun x hx => hlt x (by simp [hx]))
 ·rw [hs]
  rw [hv] at hV ⊢
  obtain ⟨rfl, rfl⟩ := trodVars_none hV
  exact rfl

def Rd (enc : TypeId × Value → H) (P : Program) (W : World) (sp : Nat → Bool) (t : TypeId) {α : Type} (e1 : α → List Value) (R : α → DataW H → Prop) : Prop :=
 ∀ fuel cs x, DataW.trod enc P W 0 sp true fuel t cs = some x → ∃ a, cs = e1 a ∧ R a x.1

variable {P : Program} {W : World} {sp : Nat → Bool}

theorem rd_string {t : TypeId} (ht : P.underlying t = some .string) : Rd enc P W sp t (fun s : List UInt8 => [strV s]) (fun s d => s.length ≤ maxLen ∧ d = .lit (.string s)) := fun fuel cs x h => by
 obtain ⟨s, rfl, rfl, hm⟩ := DataW.trod_string ht h
 obtain ⟨l, rfl⟩ := strB_of s
 exact ⟨l, rfl, by rw [strB_size] at hm; exact hm, by simp [strB]⟩
theorem rd_int {t : TypeId} {k : IntKind} (ht : P.underlying t = some (.int k)) : Rd enc P W sp t (fun z : Int => [.int k z]) (fun z d => (Lit.int k z).wf = true ∧ d = .lit (.int k z)) := fun fuel cs x h => by
 obtain ⟨n, rfl, rfl, hw⟩ := DataW.trod_int ht h
 exact ⟨n, rfl, hw, rfl⟩
theorem rd_bool {t : TypeId} (ht : P.underlying t = some .bool) : Rd enc P W sp t (fun b : Bool => [.bool b]) (fun b d => d = .lit (.bool b)) := fun fuel cs x h => by
 obtain ⟨n, rfl, rfl⟩ := DataW.trod_bool ht h
 exact ⟨n, rfl, rfl⟩

theorem row_of_cells {w : World} {b off : Nat} {l : List Value} (h : ∀ i u, l[i]? = some u → w.cell? ⟨b, off + i, none⟩ = some u) (hp : 0 < l.length) : RowAt w b off l ∧ b < w.heap.size := by
 have h0 := h 0 l[0] (List.getElem?_eq_getElem hp)
 simp only [World.cell?] at h h0
 cases hb : w.heap[b]? with
 | none => simp [hb] at h0
 | some o =>
  have hlt : b < w.heap.size := (Array.getElem?_eq_some_iff.1 hb).1
  cases o with
  | cells cs T fr =>
   refine ⟨⟨cs, T, fr, hb, ?_⟩, hlt⟩
   apply List.ext_getElem?
   intro i
   rw [List.getElem?_take, List.getElem?_drop]
   rcases Nat.lt_or_ge i l.length with hi | hi
   ·rw [if_pos hi, List.getElem?_eq_getElem hi]
    have := h i l[i] (List.getElem?_eq_getElem hi)
    rw [hb] at this
    simpa using this
   ·rw [if_neg (by omega), List.getElem?_eq_none hi]
  | _ => simp [hb] at h0

theorem flat_len {α : Type} {e1 : α → List Value} {m : Nat} : ∀ {A : List α}, (∀ a ∈ A, (e1 a).length = m) → (A.flatMap e1).length = A.length * m
 | [], _ => by simp
 | a :: A, h => by
  have := flat_len (A := A) (fun x hx => h x (List.mem_cons_of_mem _ hx))
  rw [List.flatMap_cons, List.length_append, h a (by simp), this, List.length_cons, Nat.succ_mul]; omega
theorem flat_get {α : Type} {e1 : α → List Value} {m : Nat} (hm : 0 < m) : ∀ {A : List α}, (∀ a ∈ A, (e1 a).length = m) → ∀ (i j : Nat) (a : α), A[i]? = some a → j < m → (A.flatMap e1)[i * m + j]? = (e1 a)[j]?
 | [], _, i, j, a, h, _ => by simp at h
 | x :: A, hA, 0, j, a, h, hj => by
  simp at h; subst h
  rw [List.flatMap_cons, List.getElem?_append_left (by rw [hA x (by simp)]; omega)]
  simp
 | x :: A, hA, i + 1, j, a, h, hj => by
  simp at h
  have ih := flat_get hm (A := A) (fun x hx => hA x (List.mem_cons_of_mem _ hx)) i j a h hj
  rw [List.flatMap_cons, List.getElem?_append_right (by rw [hA x (by simp), Nat.succ_mul]; omega), hA x (by simp), ← ih]
  congr 1
  rw [Nat.succ_mul]; omega
theorem flat_drop {α : Type} {e1 : α → List Value} {m : Nat} (hm : 0 < m) {A : List α} (hA : ∀ a ∈ A, (e1 a).length = m) {i : Nat} {a : α} (h : A[i]? = some a) : ((A.flatMap e1).drop (i * m)).take (e1 a).length = e1 a := by
 have ha := hA a (List.mem_of_getElem? h)
 apply List.ext_getElem?
 intro j
 rw [List.getElem?_take, List.getElem?_drop]
 rcases Nat.lt_or_ge j m with hj | hj
 ·rw [if_pos (by omega), flat_get hm hA i j a h hj]
 ·rw [if_neg (by omega), List.getElem?_eq_none (by omega)]

def SlR {α : Type} (W : World) (m : Nat) (e1 : α → List Value) (R : α → DataW H → Prop) (a : Value × List α) (d : DataW H) : Prop :=
 Sg W a.1 m a.2.length (a.2.flatMap e1) ∧ a.2.length ≤ maxLen ∧ (∀ x ∈ a.2, (e1 x).length = m ∧ ∃ d', R x d') ∧ ((d = .nil ∧ a.2 = []) ∨ ∃ ds rest, d = .slice ds rest ∧ ds.length = a.2.length ∧ ∀ (i : Nat) x d', a.2[i]? = some x → ds[i]? = some d' → R x d')

theorem add_pl (b off j : Nat) : (⟨b, off, none⟩ : Addr).add j = ⟨b, off + j, none⟩ := by
 unfold Addr.add; split
 ·rename_i h; subst h; rfl
 ·rfl

theorem rd_slice {t e m : Nat} {α : Type} {e1 : α → List Value} {R : α → DataW H → Prop} (ht : P.underlying t = some (.slice e)) (hc : P.cellsOf e = m) (hm : 0 < m) (hR : Rd enc P W sp e e1 R) :
  Rd enc P W sp t (fun a : Value × List α => [a.1]) (SlR W m e1 R) := fun fuel cs x h => by
 rcases DataW.trod_slice ht h with ⟨rfl, rfl⟩ | ⟨a, len, cap, elems, rest, n, _, rfl, rfl, _, hl, hmx, hlen, hel, _⟩
 ·exact ⟨(.slice none 0 0, []), rfl, .inl ⟨rfl, rfl, none, 0, rfl⟩, by simp, by simp, .inl ⟨rfl, rfl⟩⟩
 ·have each : ∀ i (hi : i < len), ∃ c x, W.cells? 0 (a.add (i * m)) m = some (e1 c) ∧ elems[i]? = some x ∧ R c x.1 := by
   intro i hi
   have he := hel i hi
   rw [hc, List.getElem?_eq_getElem (by omega)] at he
   simp only [Option.bind_eq_some_iff] at he
   obtain ⟨cs, hcs, ht⟩ := he
   obtain ⟨c, rfl, hr⟩ := hR _ _ _ ht
   exact ⟨c, elems[i], hcs, List.getElem?_eq_getElem (by omega), hr⟩
  let A : List α := (List.range len).attach.map fun ⟨i, hi⟩ => Classical.choose (each i (List.mem_range.1 hi))
  have hAl : A.length = len := by simp [A]
  have hA : ∀ i c, A[i]? = some c → ∃ x, W.cells? 0 (a.add (i * m)) m = some (e1 c) ∧ elems[i]? = some x ∧ R c x.1 := by
   intro i c hac
   have hi : i < len := by rw [← hAl]; exact (List.getElem?_eq_some_iff.1 hac).1
   have : A[i]? = some (Classical.choose (each i hi)) := by
    simp only [A, List.getElem?_map]
    rw [List.getElem?_eq_getElem (by simpa using hi)]
    simp
   rw [this] at hac
   cases hac
   exact Classical.choose_spec (each i hi)
  have hlen1 : ∀ c ∈ A, (e1 c).length = m := by
   intro c hc
   obtain ⟨i, hi⟩ := List.mem_iff_getElem?.1 hc
   obtain ⟨x, h1, _, _⟩ := hA i c hi
   exact (World.cells?_some h1).2.1
  refine ⟨(.slice (some a) len cap, A), rfl, ?_, by rw [hAl]; omega, fun c hc => ?_, .inr ⟨_, _, rfl, by simp [hAl, hlen], fun i c d' hi hd => ?_⟩⟩
  ·simp only
   rcases Nat.eq_zero_or_pos len with h0 | h0
   ·subst h0
    have : A = [] := List.length_eq_zero_iff.1 hAl
    rw [this]
    exact .inl ⟨rfl, rfl, some a, cap, rfl⟩
   ·have hspot : a.spot = none := by
     obtain ⟨c, x, h1, _, _⟩ := each 0 h0
     obtain ⟨_, hl4, hcell⟩ := World.cells?_some h1
     have h2 := hcell 0 (by omega)
     rw [List.getElem?_eq_getElem (by omega)] at h2
     simpa [Addr.add] using World.cell?_spot h2
    obtain ⟨bk, off, spot⟩ := a
    simp only at hspot
    subst hspot
    have hrow := row_of_cells (w := W) (b := bk) (off := off) (l := A.flatMap e1) (fun k u hu => by
     have hk : k < A.length * m := by rw [← flat_len hlen1]; exact (List.getElem?_eq_some_iff.1 hu).1
     have hi : k / m < A.length := Nat.div_lt_of_lt_mul (by rw [Nat.mul_comm]; exact hk)
     have hj : k % m < m := Nat.mod_lt _ hm
     have hkk : k / m * m + k % m = k := by rw [Nat.mul_comm]; exact Nat.div_add_mod k m
     obtain ⟨c, hc⟩ : ∃ c, A[k / m]? = some c := ⟨A[k / m], List.getElem?_eq_getElem hi⟩
     obtain ⟨x, h1, _, _⟩ := hA _ c hc
     obtain ⟨_, hl4, hcell⟩ := World.cells?_some h1
     have h2 := hcell (k % m) (by omega)
     have h3 := flat_get hm hlen1 (k / m) (k % m) c hc hj
     rw [hkk, hu] at h3
     rw [add_pl, add_pl, ← h3] at h2
     rw [show off + k = off + k / m * m + k % m from by omega]
     exact h2) (by rw [flat_len hlen1, hAl]; exact Nat.mul_pos h0 hm)
    obtain ⟨⟨cs, T, fr, hb, htk⟩, _⟩ := hrow
    rw [flat_len hlen1] at htk
    exact .inr (.inr ⟨bk, off, cap, cs, T, fr, by rw [hAl], by rw [hAl]; omega, hb, htk, flat_len hlen1⟩)
  ·obtain ⟨i, hi⟩ := List.mem_iff_getElem?.1 hc
   obtain ⟨x, _, _, hr⟩ := hA i c hi
   exact ⟨hlen1 c hc, x.1, hr⟩
  ·obtain ⟨x, _, h2, h3⟩ := hA i c hi
   rw [List.getElem?_map, h2] at hd
   cases hd
   exact h3

theorem open1 {t : TypeId} {α : Type} {e1 : α → List Value} {R : α → DataW H → Prop} (hR : Rd enc P W sp t e1 R) {v : Value} {d : DataW H} {p : List MemPlace} (h : DataW.Trod enc P W 0 sp true t v d p) (hv : v.cells = #[v]) : ∃ a, [v] = e1 a ∧ R a d := by
 obtain ⟨n, hn⟩ := h
 rw [hv] at hn
 exact hR _ _ _ hn
end
end Go.Fw

namespace Go.Proofs.Ytebfjdolgchgaaa
open Go Go.Fw Go.ChangeShapes Go.WideShapes Go.ChangeAt Go.RowKit
theorem own : ownKnob Try.prog.godebug = none := by kernel_rfl
theorem laid : laidOutB Try.prog = true := by kernel_rfl
theorem cStr : Try.prog.cellsOf 9 = 1 := by kernel_rfl
end Go.Proofs.Ytebfjdolgchgaaa

namespace Go.Proofs.Ytebfjdolgchgaaa
open Go Go.Fw Go.Proofs
theorem by118 : bytesOf' Try.prog 118 = some 40 := by kernel_rfl
theorem by142 : bytesOf' Try.prog 142 = some 16 := by kernel_rfl
theorem by3 : bytesOf' Try.prog 3 = some 8 := by kernel_rfl
theorem by5 : bytesOf' Try.prog 5 = some 1 := by kernel_rfl
theorem by61 : bytesOf' Try.prog 61 = some 104 := by kernel_rfl
theorem by66 : bytesOf' Try.prog 66 = some 96 := by kernel_rfl
theorem by80 : bytesOf' Try.prog 80 = some 8 := by kernel_rfl
theorem by88 : bytesOf' Try.prog 88 = some 48 := by kernel_rfl
theorem by9 : bytesOf' Try.prog 9 = some 16 := by kernel_rfl
theorem by90 : bytesOf' Try.prog 90 = some 64 := by kernel_rfl
theorem by98 : bytesOf' Try.prog 98 = some 32 := by kernel_rfl
theorem en10 : entered Try.prog 10 = true := by kernel_rfl
theorem en11 : entered Try.prog 11 = true := by kernel_rfl
theorem en112 : entered Try.prog 112 = true := by kernel_rfl
theorem en113 : entered Try.prog 113 = true := by kernel_rfl
theorem en12 : entered Try.prog 12 = true := by kernel_rfl
theorem en13 : entered Try.prog 13 = true := by kernel_rfl
theorem en14 : entered Try.prog 14 = true := by kernel_rfl
theorem en15 : entered Try.prog 15 = true := by kernel_rfl
theorem en16 : entered Try.prog 16 = true := by kernel_rfl
theorem en17 : entered Try.prog 17 = true := by kernel_rfl
theorem en18 : entered Try.prog 18 = true := by kernel_rfl
theorem en19 : entered Try.prog 19 = true := by kernel_rfl
theorem en20 : entered Try.prog 20 = true := by kernel_rfl
theorem en21 : entered Try.prog 21 = true := by kernel_rfl
theorem en22 : entered Try.prog 22 = true := by kernel_rfl
theorem en23 : entered Try.prog 23 = true := by kernel_rfl
theorem en24 : entered Try.prog 24 = true := by kernel_rfl
theorem en25 : entered Try.prog 25 = true := by kernel_rfl
theorem en26 : entered Try.prog 26 = true := by kernel_rfl
theorem en27 : entered Try.prog 27 = true := by kernel_rfl
theorem en28 : entered Try.prog 28 = true := by kernel_rfl
theorem en29 : entered Try.prog 29 = true := by kernel_rfl
theorem en30 : entered Try.prog 30 = true := by kernel_rfl
theorem en31 : entered Try.prog 31 = true := by kernel_rfl
theorem en32 : entered Try.prog 32 = true := by kernel_rfl
theorem en33 : entered Try.prog 33 = true := by kernel_rfl
theorem en34 : entered Try.prog 34 = true := by kernel_rfl
theorem en35 : entered Try.prog 35 = true := by kernel_rfl
theorem en36 : entered Try.prog 36 = true := by kernel_rfl
theorem en37 : entered Try.prog 37 = true := by kernel_rfl
theorem en38 : entered Try.prog 38 = true := by kernel_rfl
theorem en39 : entered Try.prog 39 = true := by kernel_rfl
theorem en40 : entered Try.prog 40 = true := by kernel_rfl
theorem en41 : entered Try.prog 41 = true := by kernel_rfl
theorem en42 : entered Try.prog 42 = true := by kernel_rfl
theorem en43 : entered Try.prog 43 = true := by kernel_rfl
theorem en44 : entered Try.prog 44 = true := by kernel_rfl
theorem en45 : entered Try.prog 45 = true := by kernel_rfl
theorem en46 : entered Try.prog 46 = true := by kernel_rfl
theorem en47 : entered Try.prog 47 = true := by kernel_rfl
theorem en48 : entered Try.prog 48 = true := by kernel_rfl
theorem en49 : entered Try.prog 49 = true := by kernel_rfl
theorem en50 : entered Try.prog 50 = true := by kernel_rfl
theorem en51 : entered Try.prog 51 = true := by kernel_rfl
theorem en52 : entered Try.prog 52 = true := by kernel_rfl
theorem en53 : entered Try.prog 53 = true := by kernel_rfl
theorem en54 : entered Try.prog 54 = true := by kernel_rfl
theorem en55 : entered Try.prog 55 = true := by kernel_rfl
theorem en56 : entered Try.prog 56 = true := by kernel_rfl
theorem en57 : entered Try.prog 57 = true := by kernel_rfl
theorem en58 : entered Try.prog 58 = true := by kernel_rfl
theorem en59 : entered Try.prog 59 = true := by kernel_rfl
theorem en60 : entered Try.prog 60 = true := by kernel_rfl
theorem en61 : entered Try.prog 61 = true := by kernel_rfl
theorem en62 : entered Try.prog 62 = true := by kernel_rfl
theorem en63 : entered Try.prog 63 = true := by kernel_rfl
theorem en64 : entered Try.prog 64 = true := by kernel_rfl
theorem en65 : entered Try.prog 65 = true := by kernel_rfl
theorem en66 : entered Try.prog 66 = true := by kernel_rfl
theorem en67 : entered Try.prog 67 = true := by kernel_rfl
theorem en68 : entered Try.prog 68 = true := by kernel_rfl
theorem en69 : entered Try.prog 69 = true := by kernel_rfl
theorem en70 : entered Try.prog 70 = true := by kernel_rfl
theorem en71 : entered Try.prog 71 = true := by kernel_rfl
theorem en72 : entered Try.prog 72 = true := by kernel_rfl
theorem en73 : entered Try.prog 73 = true := by kernel_rfl
theorem en74 : entered Try.prog 74 = true := by kernel_rfl
theorem en75 : entered Try.prog 75 = true := by kernel_rfl
theorem en76 : entered Try.prog 76 = true := by kernel_rfl
theorem en77 : entered Try.prog 77 = true := by kernel_rfl
theorem en78 : entered Try.prog 78 = true := by kernel_rfl
theorem en79 : entered Try.prog 79 = true := by kernel_rfl
theorem en80 : entered Try.prog 80 = true := by kernel_rfl
theorem en81 : entered Try.prog 81 = true := by kernel_rfl
theorem en82 : entered Try.prog 82 = true := by kernel_rfl
theorem en83 : entered Try.prog 83 = true := by kernel_rfl
theorem en84 : entered Try.prog 84 = true := by kernel_rfl
theorem en85 : entered Try.prog 85 = true := by kernel_rfl
theorem en86 : entered Try.prog 86 = true := by kernel_rfl
theorem en87 : entered Try.prog 87 = true := by kernel_rfl
theorem en88 : entered Try.prog 88 = true := by kernel_rfl
theorem en89 : entered Try.prog 89 = true := by kernel_rfl
theorem en90 : entered Try.prog 90 = true := by kernel_rfl
theorem en91 : entered Try.prog 91 = true := by kernel_rfl
theorem en92 : entered Try.prog 92 = true := by kernel_rfl
theorem en93 : entered Try.prog 93 = true := by kernel_rfl
theorem en94 : entered Try.prog 94 = true := by kernel_rfl
theorem en95 : entered Try.prog 95 = true := by kernel_rfl
theorem en96 : entered Try.prog 96 = true := by kernel_rfl
theorem fo107_0 : foOf Try.prog 107 0 = some 0 := by kernel_rfl
theorem fo118_0 : foOf Try.prog 118 0 = some 0 := by kernel_rfl
theorem fo118_1 : foOf Try.prog 118 1 = some 1 := by kernel_rfl
theorem fo118_2 : foOf Try.prog 118 2 = some 2 := by kernel_rfl
theorem fo118_3 : foOf Try.prog 118 3 = some 3 := by kernel_rfl
theorem fo138_0 : foOf Try.prog 138 0 = some 0 := by kernel_rfl
theorem fo140_0 : foOf Try.prog 140 0 = some 0 := by kernel_rfl
theorem fo140_1 : foOf Try.prog 140 1 = some 1 := by kernel_rfl
theorem fo142_0 : foOf Try.prog 142 0 = some 0 := by kernel_rfl
theorem fo142_1 : foOf Try.prog 142 1 = some 1 := by kernel_rfl
theorem fo33_0 : foOf Try.prog 33 0 = some 0 := by kernel_rfl
theorem fo36_0 : foOf Try.prog 36 0 = some 0 := by kernel_rfl
theorem fo36_1 : foOf Try.prog 36 1 = some 1 := by kernel_rfl
theorem fo39_0 : foOf Try.prog 39 0 = some 0 := by kernel_rfl
theorem fo42_0 : foOf Try.prog 42 0 = some 0 := by kernel_rfl
theorem fo46_0 : foOf Try.prog 46 0 = some 0 := by kernel_rfl
theorem fo46_1 : foOf Try.prog 46 1 = some 2 := by kernel_rfl
theorem fo46_2 : foOf Try.prog 46 2 = some 3 := by kernel_rfl
theorem fo46_3 : foOf Try.prog 46 3 = some 4 := by kernel_rfl
theorem fo46_4 : foOf Try.prog 46 4 = some 5 := by kernel_rfl
theorem fo59_0 : foOf Try.prog 59 0 = some 0 := by kernel_rfl
theorem fo59_1 : foOf Try.prog 59 1 = some 1 := by kernel_rfl
theorem fo59_2 : foOf Try.prog 59 2 = some 2 := by kernel_rfl
theorem fo59_3 : foOf Try.prog 59 3 = some 3 := by kernel_rfl
theorem fo59_4 : foOf Try.prog 59 4 = some 4 := by kernel_rfl
theorem fo61_0 : foOf Try.prog 61 0 = some 0 := by kernel_rfl
theorem fo61_1 : foOf Try.prog 61 1 = some 1 := by kernel_rfl
theorem fo61_2 : foOf Try.prog 61 2 = some 2 := by kernel_rfl
theorem fo61_3 : foOf Try.prog 61 3 = some 3 := by kernel_rfl
theorem fo61_4 : foOf Try.prog 61 4 = some 4 := by kernel_rfl
theorem fo66_0 : foOf Try.prog 66 0 = some 0 := by kernel_rfl
theorem fo66_1 : foOf Try.prog 66 1 = some 1 := by kernel_rfl
theorem fo66_2 : foOf Try.prog 66 2 = some 2 := by kernel_rfl
theorem fo66_3 : foOf Try.prog 66 3 = some 3 := by kernel_rfl
theorem fo66_4 : foOf Try.prog 66 4 = some 4 := by kernel_rfl
theorem fo66_5 : foOf Try.prog 66 5 = some 5 := by kernel_rfl
theorem fo66_6 : foOf Try.prog 66 6 = some 6 := by kernel_rfl
theorem fo66_7 : foOf Try.prog 66 7 = some 7 := by kernel_rfl
theorem fo66_8 : foOf Try.prog 66 8 = some 8 := by kernel_rfl
theorem fo77_0 : foOf Try.prog 77 0 = some 0 := by kernel_rfl
theorem fo77_1 : foOf Try.prog 77 1 = some 1 := by kernel_rfl
theorem fo77_2 : foOf Try.prog 77 2 = some 2 := by kernel_rfl
theorem fo77_3 : foOf Try.prog 77 3 = some 3 := by kernel_rfl
theorem fo77_4 : foOf Try.prog 77 4 = some 4 := by kernel_rfl
theorem fo83_0 : foOf Try.prog 83 0 = some 0 := by kernel_rfl
theorem fo83_1 : foOf Try.prog 83 1 = some 1 := by kernel_rfl
theorem fo83_2 : foOf Try.prog 83 2 = some 2 := by kernel_rfl
theorem fo83_3 : foOf Try.prog 83 3 = some 3 := by kernel_rfl
theorem fo83_4 : foOf Try.prog 83 4 = some 4 := by kernel_rfl
theorem fo83_5 : foOf Try.prog 83 5 = some 5 := by kernel_rfl
theorem fo83_6 : foOf Try.prog 83 6 = some 6 := by kernel_rfl
theorem fo83_7 : foOf Try.prog 83 7 = some 7 := by kernel_rfl
theorem fo88_0 : foOf Try.prog 88 0 = some 0 := by kernel_rfl
theorem fo88_1 : foOf Try.prog 88 1 = some 1 := by kernel_rfl
theorem fo88_2 : foOf Try.prog 88 2 = some 2 := by kernel_rfl
theorem fo90_0 : foOf Try.prog 90 0 = some 0 := by kernel_rfl
theorem fo90_1 : foOf Try.prog 90 1 = some 1 := by kernel_rfl
theorem fo90_2 : foOf Try.prog 90 2 = some 2 := by kernel_rfl
theorem fo90_3 : foOf Try.prog 90 3 = some 3 := by kernel_rfl
theorem fo90_4 : foOf Try.prog 90 4 = some 4 := by kernel_rfl
theorem fo98_0 : foOf Try.prog 98 0 = some 0 := by kernel_rfl
theorem fo98_1 : foOf Try.prog 98 1 = some 1 := by kernel_rfl
theorem fo98_2 : foOf Try.prog 98 2 = some 2 := by kernel_rfl
theorem fo98_3 : foOf Try.prog 98 3 = some 3 := by kernel_rfl
theorem pl107 : placesOf Try.prog 107 = some [(0, 1)] := by kernel_rfl
theorem pl118 : placesOf Try.prog 118 = some [(0, 1), (1, 1), (2, 1), (3, 1)] := by kernel_rfl
theorem pl140 : placesOf Try.prog 140 = some [(0, 1), (1, 1)] := by kernel_rfl
theorem pl142 : placesOf Try.prog 142 = some [(0, 1), (1, 1)] := by kernel_rfl
theorem pl33 : placesOf Try.prog 33 = some [(0, 1)] := by kernel_rfl
theorem pl36 : placesOf Try.prog 36 = some [(0, 1), (1, 1)] := by kernel_rfl
theorem pl39 : placesOf Try.prog 39 = some [(0, 2)] := by kernel_rfl
theorem pl42 : placesOf Try.prog 42 = some [(0, 1)] := by kernel_rfl
theorem pl46 : placesOf Try.prog 46 = some [(0, 2), (2, 1), (3, 1), (4, 1), (5, 1)] := by kernel_rfl
theorem pl59 : placesOf Try.prog 59 = some [(0, 1), (1, 1), (2, 1), (3, 1), (4, 1)] := by kernel_rfl
theorem pl61 : placesOf Try.prog 61 = some [(0, 1), (1, 1), (2, 1), (3, 1), (4, 5)] := by kernel_rfl
theorem pl66 : placesOf Try.prog 66 = some [(0, 1), (1, 1), (2, 1), (3, 1), (4, 1), (5, 1), (6, 1), (7, 1), (8, 1)] := by kernel_rfl
theorem pl77 : placesOf Try.prog 77 = some [(0, 1), (1, 1), (2, 1), (3, 1), (4, 1)] := by kernel_rfl
theorem pl83 : placesOf Try.prog 83 = some [(0, 1), (1, 1), (2, 1), (3, 1), (4, 1), (5, 1), (6, 1), (7, 1)] := by kernel_rfl
theorem pl88 : placesOf Try.prog 88 = some [(0, 1), (1, 1), (2, 1)] := by kernel_rfl
theorem pl90 : placesOf Try.prog 90 = some [(0, 1), (1, 1), (2, 1), (3, 1), (4, 1)] := by kernel_rfl
theorem pl98 : placesOf Try.prog 98 = some [(0, 1), (1, 1), (2, 1), (3, 1)] := by kernel_rfl
theorem sz118 : szOf Try.prog 118 = some 4 := by kernel_rfl
theorem sz136 : szOf Try.prog 136 = some 1 := by kernel_rfl
theorem sz142 : szOf Try.prog 142 = some 2 := by kernel_rfl
theorem sz3 : szOf Try.prog 3 = some 1 := by kernel_rfl
theorem sz33 : szOf Try.prog 33 = some 1 := by kernel_rfl
theorem sz36 : szOf Try.prog 36 = some 2 := by kernel_rfl
theorem sz4 : szOf Try.prog 4 = some 1 := by kernel_rfl
theorem sz40 : szOf Try.prog 40 = some 1 := by kernel_rfl
theorem sz42 : szOf Try.prog 42 = some 1 := by kernel_rfl
theorem sz43 : szOf Try.prog 43 = some 1 := by kernel_rfl
theorem sz44 : szOf Try.prog 44 = some 1 := by kernel_rfl
theorem sz46 : szOf Try.prog 46 = some 6 := by kernel_rfl
theorem sz5 : szOf Try.prog 5 = some 1 := by kernel_rfl
theorem sz56 : szOf Try.prog 56 = some 1 := by kernel_rfl
theorem sz57 : szOf Try.prog 57 = some 1 := by kernel_rfl
theorem sz59 : szOf Try.prog 59 = some 5 := by kernel_rfl
theorem sz61 : szOf Try.prog 61 = some 9 := by kernel_rfl
theorem sz62 : szOf Try.prog 62 = some 1 := by kernel_rfl
theorem sz66 : szOf Try.prog 66 = some 9 := by kernel_rfl
theorem sz75 : szOf Try.prog 75 = some 1 := by kernel_rfl
theorem sz80 : szOf Try.prog 80 = some 1 := by kernel_rfl
theorem sz81 : szOf Try.prog 81 = some 1 := by kernel_rfl
theorem sz88 : szOf Try.prog 88 = some 3 := by kernel_rfl
theorem sz9 : szOf Try.prog 9 = some 1 := by kernel_rfl
theorem sz90 : szOf Try.prog 90 = some 5 := by kernel_rfl
theorem sz98 : szOf Try.prog 98 = some 4 := by kernel_rfl
theorem ze107 : zeroOf Try.prog 107 = some (.agg #[.map none]) := by kernel_rfl
theorem ze118 : zeroOf Try.prog 118 = some (.agg #[.int .i64 0, .int .i64 0, .string ByteArray.empty, .bool false]) := by kernel_rfl
theorem ze135 : zeroOf Try.prog 135 = some (.pointer none) := by kernel_rfl
theorem ze140 : zeroOf Try.prog 140 = some (.agg #[.slice none 0 0, .slice none 0 0]) := by kernel_rfl
theorem ze142 : zeroOf Try.prog 142 = some (.agg #[.int .i64 0, .bool false]) := by kernel_rfl
theorem ze3 : zeroOf Try.prog 3 = some (.int .i64 0) := by kernel_rfl
theorem ze33 : zeroOf Try.prog 33 = some (.agg #[.slice none 0 0]) := by kernel_rfl
theorem ze36 : zeroOf Try.prog 36 = some (.agg #[.slice none 0 0, .slice none 0 0]) := by kernel_rfl
theorem ze39 : zeroOf Try.prog 39 = some (.agg #[.slice none 0 0, .slice none 0 0]) := by kernel_rfl
theorem ze4 : zeroOf Try.prog 4 = some (.bool false) := by kernel_rfl
theorem ze42 : zeroOf Try.prog 42 = some (.agg #[.slice none 0 0]) := by kernel_rfl
theorem ze46 : zeroOf Try.prog 46 = some (.agg #[.slice none 0 0, .slice none 0 0, .slice none 0 0, .slice none 0 0, .slice none 0 0, .int .i64 0]) := by kernel_rfl
theorem ze5 : zeroOf Try.prog 5 = some (.int .u8 0) := by kernel_rfl
theorem ze59 : zeroOf Try.prog 59 = some (.agg #[.int .i64 0, .int .i64 0, .int .i64 0, .slice none 0 0, .slice none 0 0]) := by kernel_rfl
theorem ze61 : zeroOf Try.prog 61 = some (.agg #[.int .i64 0, .int .i64 0, .int .i64 0, .int .i64 0, .int .i64 0, .int .i64 0, .int .i64 0, .slice none 0 0, .slice none 0 0]) := by kernel_rfl
theorem ze62 : zeroOf Try.prog 62 = some (.slice none 0 0) := by kernel_rfl
theorem ze66 : zeroOf Try.prog 66 = some (.agg #[.int .i64 0, .string ByteArray.empty, .string ByteArray.empty, .int .i64 0, .int .i64 0, .int .i64 0, .bool false, .bool false, .slice none 0 0]) := by kernel_rfl
theorem ze77 : zeroOf Try.prog 77 = some (.agg #[.nilIface, .pointer none, .slice none 0 0, .slice none 0 0, .int .i64 0]) := by kernel_rfl
theorem ze80 : zeroOf Try.prog 80 = some (.pointer none) := by kernel_rfl
theorem ze83 : zeroOf Try.prog 83 = some (.agg #[.int .i64 0, .slice none 0 0, .int .i64 0, .nilFunc, .int .i64 0, .int .i64 0, .string ByteArray.empty, .bool false]) := by kernel_rfl
theorem ze88 : zeroOf Try.prog 88 = some (.agg #[.string ByteArray.empty, .bool false, .slice none 0 0]) := by kernel_rfl
theorem ze9 : zeroOf Try.prog 9 = some (.string ByteArray.empty) := by kernel_rfl
theorem ze90 : zeroOf Try.prog 90 = some (.agg #[.slice none 0 0, .int .i64 0, .int .i64 0, .int .i64 0, .string ByteArray.empty]) := by kernel_rfl
theorem ze98 : zeroOf Try.prog 98 = some (.agg #[.int .i64 0, .string ByteArray.empty, .bool false, .bool false]) := by kernel_rfl

end Go.Proofs.Ytebfjdolgchgaaa
