/-
  A small calculus of our own over the kit's fenced one: regions by one schedule, frames asg lists of slots. Part A: the schedule.
-/
import Derived.WalkKit
import Derived.RangeFuncNested
import Derived.RangeFuncLeaves
import Derived.RangeFuncCalls
import Derived.OrdersIn
namespace Go.Fw
open Go
set_option linter.unusedVariables false
set_option linter.unusedSimpArgs false

/-- The wide fence, at a round or none. -/
def Fw (ro : Option Nat) : Fence := { fn := fun _ => True, depth := none, alive := false, round := ro }

theorem fenced_all (ro : Option Nat) (P : Program) (m : Machine) : m.fenced P (Fw ro) := fun _ _ =>
  ⟨fun h => by simp [Fw] at h, .inl trivial, fun _ _ => trivial, fun _ h => by simp [Fw] at h⟩

theorem room_all (ro : Option Nat) (n : Nat) : (Fw ro).room n := fun _ h => by simp [Fw] at h

/-- A call of a function returns, and R holds of what it returns and of the world then. -/
def Ret (P : Program) (f : FuncId) (args : Array Value) (w : World) (R : Value → World → Prop) : Prop :=
  CallsIn (Fw none) 0 P f args w fun e w' => ∃ v, e = .returned v ∧ R v w'

/-- A round of a loop over a function comes to its end. -/
def Rnd (P : Program) (l : Nat) (f : FuncId) (tmps : Array Value) (assign body : Code) (w : World) (R : Value → World → Prop) : Prop :=
  RoundIn (Fw none) 0 P l f tmps assign body w fun e w' => ∃ v, e = .returned v ∧ R v w'

theorem Ret.mono {P : Program} {f : FuncId} {args : Array Value} {w : World} {R R' : Value → World → Prop} (h : Ret P f args w R)
    (hr : ∀ v w', R v w' → R' v w') : Ret P f args w R' := CallsIn.mono h fun _ _ ⟨v, he, hR⟩ => ⟨v, he, hr _ _ hR⟩

theorem Rnd.mono {P : Program} {l : Nat} {f : FuncId} {tmps : Array Value} {assign body : Code} {w : World} {R R' : Value → World → Prop} (h : Rnd P l f tmps assign body w R)
    (hr : ∀ v w', R v w' → R' v w') : Rnd P l f tmps assign body w R' := RoundIn.mono h fun _ _ ⟨v, he, hR⟩ => ⟨v, he, hr _ _ hR⟩

/-- What an operation asks next is done, and R holds of its value and of the world then. -/
def nextR (P : Program) : Result Next → (Value → World → Prop) → Prop
  | .ok (.value v) w', R => R v w'
  | .ok .skip w', R => R undef w'
  | .ok (.enter f args) w', R => Ret P f args w' R
  | .ok (.round l f tmps asg bd) w', R => Rnd P l f tmps asg bd w' R
  | _, _ => False

theorem nextR_mono {P : Program} {r : Result Next} {R R' : Value → World → Prop} (h : nextR P r R) (hr : ∀ v w', R v w' → R' v w') : nextR P r R' := by
  cases r with
  | ok x w' => cases x <;> simp only [nextR] at h ⊢ <;> first | exact hr _ _ h | exact h.mono hr | exact h
  | halt x w' => simp only [nextR] at h

def OpR (P : Program) (o : Oper) (ρ : Operand → Value) (w : World) (R : Value → World → Prop) : Prop :=
  nextR P ((execOp ρ o).run P w) R

/-- Neither defer nor select: those are no operations of this calculus. -/
def plainOp (o : Oper) : Bool := match o.op with | .defer _ | .select .. => false | _ => true
theorem plainOp_noDefer {o : Oper} (h : plainOp o = true) : ∀ c, o.op ≠ .defer c := fun c e => by simp [plainOp, e] at h
theorem plainOp_noSelect {o : Oper} (h : plainOp o = true) : ∀ cs b, o.op ≠ .select cs b := fun c b e => by simp [plainOp, e] at h

theorem wpIn_of_OpR {P : Program} {ro : Option Nat} {o : Oper} {a : Act} {w : World} {K : Act → World → Prop} {Q : Exit → Act → World → Prop} (ho : plainOp o = true)
    (h : OpR P o a.eval w fun v w' => K (a.put o.dst v) w') : o.wpIn (Fw ro) 0 P a w K Q := by
  refine ⟨fun _ _ => trivial, ?_⟩
  rw [Oper.semAt_eq _ _ _ (plainOp_noDefer ho)]
  unfold OpR at h
  generalize (execOp a.eval o).run P w = r at h ⊢
  cases r with
  | ok x w' =>
    cases x <;> simp only [nextR] at h <;> simp only [Oper.uponIn]
    case value v => exact h
    case skip => exact h
    case enter f args =>
      refine ⟨fun hd => by simp [Fw] at hd, ?_⟩
      have h' : CallsIn (Fw ro) 0 P f args w' _ := h
      exact h'.mono fun e w'' ⟨v, he, hR⟩ => by subst he; exact hR
    case round l f tmps asg bd =>
      refine ⟨fun hd => by simp [Fw] at hd, ?_⟩
      have h' : RoundIn (Fw ro) 0 P l f tmps asg bd w' _ := h
      exact h'.mono fun e w'' ⟨v, he, hR⟩ => by subst he; exact hR
  | halt x w' => simp only [nextR] at h

section sched
variable {P : Program} {ops : Array Oper} {Q : Act → World → Prop} {md : Region.Mode}

/-- One operation, in this calculus' words. -/
def stA (P : Program) (ops : Array Oper) (i : Nat) (K : Act → World → Prop) (a : Act) (w : World) : Prop :=
  match ops[i]? with
  | none => False
  | some o => if Region.wanted o (yielded ops a.tmps) then OpR P o a.eval w (fun v w' => K (a.put o.dst v) w') else K (a.put o.dst undef) w

theorem stA_mono {i : Nat} {a : Act} {w : World} {K K' : Act → World → Prop} (h : ∀ a w, K a w → K' a w) (hh : stA P ops i K a w) : stA P ops i K' a w := by
  unfold stA at *
  split
  · rename_i ho; simp only [ho] at hh
  · rename_i o ho
    simp only [ho] at hh
    split
    · rename_i hw; simp only [hw, if_true] at hh; exact nextR_mono hh fun v w' => h _ _
    · rename_i hw; simp only [hw] at hh; exact h _ _ hh

def plainAll (ops : Array Oper) : Bool := ops.all plainOp
theorem plainAll_spec (h : plainAll ops = true) {i : Nat} {o : Oper} (hi : ops[i]? = some o) : plainOp o = true := by
  unfold plainAll at h
  rw [Array.all_eq_true_iff_forall_mem] at h
  exact h o (Array.mem_of_getElem? hi)

theorem wpOpIn_of_stA (hp : plainAll ops = true) {ro : Option Nat} {i : Nat} {a : Act} {w : World} {K : Act → World → Prop} {Q : Exit → Act → World → Prop} (h : stA P ops i K a w) : wpOpIn (Fw ro) 0 P ops Q i K a w := by
  unfold stA at h
  unfold wpOpIn
  split
  · rename_i ho; simp only [ho] at h
  · rename_i o ho
    simp only [ho] at h
    split
    · rename_i hw; simp only [hw, if_true] at h; exact wpIn_of_OpR (plainAll_spec hp ho) h
    · rename_i hw; simp only [hw] at h; exact ⟨fun _ _ => trivial, h⟩

/-- What is looked after: number, what it runs, what it yields. -/
structure Watch where
  i : Nat
  s : Sem Next
  v : Value

/-- A table of who waits for whom, through others too. -/
def anc (B : Array Nat) (i j : Nat) : Bool := (B.getD j 0).testBit i

def ancOK (md : Region.Mode) (ops : Array Oper) (B : Array Nat) : Bool :=
  (List.range ops.size).all fun j => (List.range ops.size).all fun i => !anc B i j ||
    ((ops[j]?).map (·.after.any fun e => Region.binds md e && decide (e.on < j) && (e.on == i || anc B i e.on))).getD false

/-- Whatever order is picked; behind every operation that turns the world, those that are looked after and do not stand ahead of it yield what they yielded. -/
def anyT (P : Program) (md : Region.Mode) (ops : Array Oper) (B : Array Nat) (Q : Act → World → Prop) : Nat → Array Bool → List Watch → Act → World → Prop
  | 0, listed, _, a, w => Region.ready md ops listed = [] ∧ Q a w
  | fuel + 1, listed, T, a, w =>
    (Region.ready md ops listed = [] → Q a w) ∧
    ∀ i ∈ Region.ready md ops listed, stA P ops i (fun a' w' => (w' = w ∨ ∀ x ∈ T, anc B x.i i = true ∨ x.s.run P w' = .ok (.value x.v) w') ∧ anyT P md ops B Q fuel (listed.setIfInBounds i true) T a' w') a w

theorem wpAnyIn_of_anyT (hp : plainAll ops = true) {B : Array Nat} {ro : Option Nat} {Q' : Exit → Act → World → Prop} (hQ : ∀ a w, Q a w → Q' .normal a w) : ∀ (fuel : Nat) (listed : Array Bool) (T : List Watch) (a : Act) (w : World),
    anyT P md ops B Q fuel listed T a w → wpAnyIn (Fw ro) 0 P md ops Q' fuel listed a w
  | 0, _, _, _, _, h => ⟨h.1, hQ _ _ h.2⟩
  | fuel + 1, _, T, _, _, h => ⟨fun h0 => hQ _ _ (h.1 h0), fun i hi => wpOpIn_of_stA hp (stA_mono (fun a' w' h' => wpAnyIn_of_anyT hp hQ fuel _ T a' w' h'.2) (h.2 i hi))⟩

theorem anyT_sub {B : Array Nat} {T T' : List Watch} (hT : ∀ x ∈ T', x ∈ T) : ∀ (fuel : Nat) (listed : Array Bool) (a : Act) (w : World),
    anyT P md ops B Q fuel listed T a w → anyT P md ops B Q fuel listed T' a w
  | 0, _, _, _, h => h
  | fuel + 1, _, _, _, h => ⟨h.1, fun i hi => stA_mono (fun a' w' h' => ⟨h'.1.imp id (fun h2 x hx => h2 x (hT x hx)), anyT_sub hT fuel _ a' w' h'.2⟩) (h.2 i hi)⟩

/-- In state 'a', in world 'w', operation 'o' leaves 'v' and does nothing else. -/
def YAt (P : Program) (ops : Array Oper) (w : World) (o : Oper) (v : Value) (a : Act) : Prop :=
  (Region.wanted o (yielded ops a.tmps) = true ∧ (execOp a.eval o).run P w = .ok (.value v) w) ∨
  (Region.wanted o (yielded ops a.tmps) = false ∧ v = undef)

theorem YAt.stA {i : Nat} {o : Oper} {v : Value} {a : Act} {w : World} (hi : ops[i]? = some o) (hy : YAt P ops w o v a) {K : Act → World → Prop} (h : K (a.put o.dst v) w) : stA P ops i K a w := by
  unfold Fw.stA
  simp only [hi]
  rcases hy with ⟨hw, hv⟩ | ⟨hw, rfl⟩
  · simp only [hw, if_true, OpR, hv, nextR]; exact h
  · simp only [hw, Bool.false_eq_true, if_false]; exact h

theorem stA_put {j : Nat} {oi oj : Oper} {v : Value} (hj : ops[j]? = some oj) (hap : oi.apart ops oj = true) (hsj : ∀ cs b, oj.op ≠ .select cs b)
    (hsi : ∀ cs b, oi.op ≠ .select cs b) {K : Act → World → Prop} {a : Act} {w : World} (h : stA P ops j K (a.put oi.dst v) w) :
    stA P ops j (fun a' w' => (execOp a'.eval oi = execOp a.eval oi ∧ Region.wanted oi (yielded ops a'.tmps) = Region.wanted oi (yielded ops a.tmps)) ∧ K (a'.put oi.dst v) w') a w := by
  obtain ⟨h1, h2, h3⟩ := Oper.apart_spec hap
  unfold stA at *
  simp only [hj] at *
  rw [wanted_put oj a oi.dst v h1] at h
  split
  · rename_i hw
    simp only [hw, if_true] at h
    unfold OpR at *
    rw [execOp_put oj hsj a oi.dst v h1] at h
    exact nextR_mono h fun u w' hK => ⟨⟨execOp_put oi hsi a oj.dst u h3, wanted_put oi a oj.dst u h3⟩, by rw [← Act.put_comm a v u h2]; exact hK⟩
  · rename_i hw
    simp only [hw] at h
    exact ⟨⟨execOp_put oi hsi a oj.dst undef h3, wanted_put oi a oj.dst undef h3⟩, by rw [← Act.put_comm a v undef h2]; exact h⟩

def closed (md : Region.Mode) (ops : Array Oper) (listed : Array Bool) : Prop :=
  ∀ j o, ops[j]? = some o → listed.getD j false = true → ∀ e ∈ o.after, Region.binds md e = true → listed.getD e.on false = true

theorem closed_set {listed : Array Bool} {j : Nat} (hc : closed md ops listed) (hj : j ∈ Region.ready md ops listed) : closed md ops (listed.setIfInBounds j true) := by
  intro k o hk hl e he hb
  obtain ⟨_, oj, hoj, hall⟩ := mem_ready.1 hj
  by_cases hkj : j = k
  · subst hkj
    rw [hoj] at hk
    cases hk
    exact getD_set_true (hall e he hb)
  · rw [getD_set_ne false hkj] at hl
    exact getD_set_true (hc k o hk hl e he hb)

theorem anc_listed {B : Array Nat} (hB : ancOK md ops B = true) {listed : Array Bool} (hc : closed md ops listed) {i : Nat} (hi : i < ops.size) : ∀ (j : Nat) (o : Oper), ops[j]? = some o →
    (∀ e ∈ o.after, Region.binds md e = true → listed.getD e.on false = true) → anc B i j = true → listed.getD i false = true := by
  intro j
  induction j using Nat.strongRecOn with
  | _ j ih =>
    intro o hj hall ha
    have hlt : j < ops.size := (Array.getElem?_eq_some_iff.1 hj).1
    have h1 := List.all_eq_true.1 (List.all_eq_true.1 hB j (List.mem_range.2 hlt)) i (List.mem_range.2 hi)
    simp only [ha, hj, Bool.not_true, Bool.false_or, Option.map_some, Option.getD_some] at h1
    obtain ⟨e, he, h2⟩ := Array.any_eq_true'.1 h1
    simp only [Bool.and_eq_true, Bool.or_eq_true, decide_eq_true_eq, beq_iff_eq] at h2
    obtain ⟨⟨hb, hlt'⟩, h3⟩ := h2
    have hl := hall e he hb
    rcases h3 with h3 | h3
    · exact h3 ▸ hl
    · obtain ⟨oe, hoe⟩ : ∃ oe, ops[e.on]? = some oe := ⟨ops[e.on]'(by omega), Array.getElem?_eq_getElem (by omega)⟩
      exact ih e.on hlt' oe hoe (hc e.on oe hoe hl) h3

/-- An operation that was taken is looked after, if it is wanted. -/
def addW (ops : Array Oper) (o : Oper) (a : Act) (i : Nat) (v : Value) (T : List Watch) : List Watch := if Region.wanted o (yielded ops a.tmps) then ⟨i, execOp a.eval o, v⟩ :: T else T
theorem mem_addW {o : Oper} {a : Act} {i : Nat} {v : Value} {T : List Watch} {x : Watch} (h : x ∈ T) : x ∈ addW ops o a i v T := by unfold addW; split <;> simp [h]

theorem first_T {B : Array Nat} (hB : ancOK md ops B = true) (hp : plainAll ops = true) {i : Nat} {oi : Oper} {v : Value} (hi : ops[i]? = some oi) :
    ∀ (fuel : Nat) (listed : Array Bool) (T : List Watch) (a : Act) (w : World),
      (∀ j oj, ops[j]? = some oj → j ≠ i → listed.getD j true = false → (∀ e ∈ oj.after, Region.binds md e = true → e.on ≠ i) → oi.apart ops oj = true) →
      closed md ops listed → i ∈ Region.ready md ops listed → YAt P ops w oi v a →
      anyT P md ops B Q fuel (listed.setIfInBounds i true) (addW ops oi a i v T) (a.put oi.dst v) w → anyT P md ops B Q (fuel + 1) listed T a w := by
  have hlt : i < ops.size := (Array.getElem?_eq_some_iff.1 hi).1
  intro fuel
  induction fuel with
  | zero =>
    intro listed T a w _ _ hr hy H
    refine ⟨fun h => (by rw [h] at hr; cases hr), fun j hj => ?_⟩
    by_cases hji : j = i
    · subst hji; exact hy.stA hi ⟨.inl rfl, anyT_sub (fun x hx => mem_addW hx) _ _ _ _ H⟩
    · have := ready_mono hj hji
      rw [H.1] at this
      cases this
  | succ fuel ih =>
    intro listed T a w hfree hc hr hy H
    refine ⟨fun h => (by rw [h] at hr; cases hr), fun j hj => ?_⟩
    by_cases hji : j = i
    · subst hji; exact hy.stA hi ⟨.inl rfl, anyT_sub (fun x hx => mem_addW hx) _ _ _ _ H⟩
    · have h1 := H.2 j (ready_mono hj hji)
      obtain ⟨hjun, oj, hoj, hall⟩ := mem_ready.1 hj
      have hiun : listed.getD i true = false := (mem_ready.1 hr).1
      have hiun' : listed.getD i false = true → False := fun h1 => by
        rcases Nat.lt_or_ge i listed.size with h' | h'
        · simp [h'] at hiun h1; rw [hiun] at h1; cases h1
        · simp [Array.getElem?_eq_none h'] at h1
      have hnot : ∀ e ∈ oj.after, Region.binds md e = true → e.on ≠ i := fun e he hb heq => hiun' (heq ▸ hall e he hb)
      have h2 := stA_put hoj (hfree j oj hoj hji hjun hnot) (plainOp_noSelect (plainAll_spec hp hoj)) (plainOp_noSelect (plainAll_spec hp hi)) h1
      have hfree' : ∀ k ok, ops[k]? = some ok → k ≠ i → (listed.setIfInBounds j true).getD k true = false →
          (∀ e ∈ ok.after, Region.binds md e = true → e.on ≠ i) → oi.apart ops ok = true := fun k ok hk hki hun hno => by
        refine hfree k ok hk hki ?_ hno
        by_cases hjk : j = k
        · subst hjk; exact hjun
        · rw [getD_set_ne true hjk] at hun; exact hun
      refine stA_mono (fun a' w' h3 => ?_) h2
      obtain ⟨⟨he, hw⟩, hobl, hgo⟩ := h3
      refine ⟨hobl.imp id (fun h x hx => h x (mem_addW hx)), ih (listed.setIfInBounds j true) T a' w' hfree' (closed_set hc hj) (ready_mono hr (Ne.symm hji)) ?_ ?_⟩
      · unfold YAt at hy ⊢
        rw [hw, he]
        rcases hy with ⟨y1, y2⟩ | hy
        · refine .inl ⟨y1, ?_⟩
          rcases hobl with rfl | hobl
          · exact y2
          · rcases hobl ⟨i, execOp a.eval oi, v⟩ (by simp [addW, y1]) with h4 | h4
            · exact (hiun' (anc_listed hB hc hlt j oj hoj hall h4)).elim
            · exact h4
        · exact .inr hy
      · rw [Array.setIfInBounds_comm _ _ hji]
        have e1 : addW ops oi a' i v T = addW ops oi a i v T := by unfold addW; rw [he, hw]
        rw [e1]
        exact hgo

/-- A schedule: numbers, and whether an operation may turn the world (others are taken as they come); what is asked at its end. -/
def segFrom (md : Region.Mode) (ops : Array Oper) (k : Array Bool → Bool) : List (Nat × Bool) → Array Bool → Bool
  | [], listed => k listed
  | (i, m) :: s, listed =>
    (match ops[i]? with
     | none => false
     | some _ => if m then Region.ready md ops listed == [i] else (Region.ready md ops listed).contains i && Region.free md ops listed i) &&
    segFrom md ops k s (listed.setIfInBounds i true)

/-- Schedules that part where two may come first, and join again. -/
inductive Tr where
  | leaf (s : List (Nat × Bool))
  | two (s : List (Nat × Bool)) (i : Nat) (p1 : List (Nat × Bool)) (j : Nat) (p2 : List (Nat × Bool)) (t : Tr)

def Tr.len : Tr → Nat
  | .leaf s => s.length
  | .two s _ p1 _ p2 t => (t.len + Nat.max p1.length p2.length + 1) + s.length

def treeFrom (md : Region.Mode) (ops : Array Oper) : Tr → Array Bool → Bool
  | .leaf s, l => segFrom md ops (fun l => (Region.ready md ops l).isEmpty) s l
  | .two s i p1 j p2 t, l => segFrom md ops (fun l => Region.ready md ops l == [i, j] && (ops[i]?).isSome && (ops[j]?).isSome && segFrom md ops (treeFrom md ops t) p1 (l.setIfInBounds i true) && segFrom md ops (treeFrom md ops t) p2 (l.setIfInBounds j true)) s l

def treeOK (ops : Array Oper) (B : Array Nat) (t : Tr) : Bool :=
  plainAll ops && ancOK .any ops B && Nat.ble t.len ops.size && treeFrom .any ops t (Array.replicate ops.size false)
def schedOK (ops : Array Oper) (B : Array Nat) (s : List (Nat × Bool)) : Bool := treeOK ops B (.leaf s)

/-- The walk along a schedule. -/
def runS (P : Program) (ops : Array Oper) (B : Array Nat) (Q : List Watch → Act → World → Prop) : List (Nat × Bool) → List Watch → Act → World → Prop
  | [], T, a, w => Q T a w
  | (i, m) :: s, T, a, w => ∃ o, ops[i]? = some o ∧
    if m then stA P ops i (fun a' w' => (w' = w ∨ ∀ x ∈ T, anc B x.i i = true ∨ x.s.run P w' = .ok (.value x.v) w') ∧ runS P ops B Q s T a' w') a w
    else ∃ v, YAt P ops w o v a ∧ runS P ops B Q s (addW ops o a i v T) (a.put o.dst v) w

def runT (P : Program) (ops : Array Oper) (B : Array Nat) (Q : Act → World → Prop) : Tr → List Watch → Act → World → Prop
  | .leaf s, T, a, w => runS P ops B (fun _ a w => Q a w) s T a w
  | .two s i p1 j p2 t, T, a, w => runS P ops B (fun T a w => runS P ops B (runT P ops B Q t) ((i, true) :: p1) T a w ∧ runS P ops B (runT P ops B Q t) ((j, true) :: p2) T a w) s T a w

theorem anyT_of_runS {B : Array Nat} {R : List Watch → Act → World → Prop} {k : Array Bool → Bool} {m0 : Nat} (hB : ancOK md ops B = true) (hp : plainAll ops = true)
    (hk : ∀ listed T a w, closed md ops listed → k listed = true → R T a w → anyT P md ops B Q m0 listed T a w) : ∀ (s : List (Nat × Bool)) (listed : Array Bool) (T : List Watch) (a : Act) (w : World),
    closed md ops listed → segFrom md ops k s listed = true → runS P ops B R s T a w → anyT P md ops B Q (m0 + s.length) listed T a w
  | [], _, _, _, _, hc, hs, h => hk _ _ _ _ hc hs h
  | (i, m) :: s, listed, T, a, w, hc, hs, h => by
    obtain ⟨o, ho, h⟩ := h
    simp only [segFrom, ho, Bool.and_eq_true] at hs
    obtain ⟨hs1, hs2⟩ := hs
    by_cases hm : m = true
    · simp only [hm, if_true, beq_iff_eq] at hs1 h
      refine ⟨fun h0 => (by rw [hs1] at h0; cases h0), fun j hj => ?_⟩
      have hj' := hj
      rw [hs1, List.mem_singleton] at hj'
      subst hj'
      exact stA_mono (fun a' w' h' => ⟨h'.1, anyT_of_runS hB hp hk s _ T a' w' (closed_set hc hj) hs2 h'.2⟩) h
    · simp only [hm, Bool.false_eq_true, if_false, Bool.and_eq_true] at hs1 h
      obtain ⟨v, hy, h⟩ := h
      have hr : i ∈ Region.ready md ops listed := by simpa using hs1.1
      exact first_T hB hp ho (m0 + s.length) listed T a w (Region.free_spec ho hs1.2) hc hr hy (anyT_of_runS hB hp hk s _ _ _ _ (closed_set hc hr) hs2 h)

theorem closed_none (n : Nat) : closed md ops (Array.replicate n false) := by
  intro j o _ hl
  exfalso
  simp [Array.getElem?_replicate] at hl
  split at hl <;> simp at hl

theorem anyT_more {B : Array Nat} : ∀ (k : Nat) (fuel : Nat) (listed : Array Bool) (T : List Watch) (a : Act) (w : World), anyT P md ops B Q fuel listed T a w → anyT P md ops B Q (fuel + k) listed T a w := by
  intro k fuel
  induction fuel with
  | zero =>
    intro listed T a w h
    cases k with
    | zero => exact h
    | succ k => rw [Nat.zero_add]; exact ⟨fun _ => h.2, by rw [h.1]; simp⟩
  | succ fuel ih =>
    intro listed T a w h
    rw [Nat.succ_add]
    exact ⟨h.1, fun i hi => stA_mono (fun a' w' h' => ⟨h'.1, ih _ T a' w' h'.2⟩) (h.2 i hi)⟩

theorem anyT_le {B : Array Nat} {m m' : Nat} (hm : m ≤ m') {listed : Array Bool} {T : List Watch} {a : Act} {w : World} (h : anyT P md ops B Q m listed T a w) : anyT P md ops B Q m' listed T a w := by
  have := anyT_more (m' - m) _ _ _ _ _ h
  rwa [show m + (m' - m) = m' from by omega] at this

theorem anyT_of_runT {B : Array Nat} (hB : ancOK md ops B = true) (hp : plainAll ops = true) : ∀ (t : Tr) (listed : Array Bool) (T : List Watch) (a : Act) (w : World),
    closed md ops listed → treeFrom md ops t listed = true → runT P ops B Q t T a w → anyT P md ops B Q t.len listed T a w
  | .leaf s, listed, T, a, w, hc, hs, h => by
    simp only [runT] at h
    simp only [treeFrom] at hs
    simp only [Tr.len]
    have := anyT_of_runS (R := fun _ a w => Q a w) (m0 := 0) hB hp (k := fun l => (Region.ready md ops l).isEmpty) (fun listed T a w _ hk h => ⟨by simpa using hk, h⟩) s listed T a w hc hs h
    rwa [Nat.zero_add] at this
  | .two s i p1 j p2 t, listed, T, a, w, hc, hs, h => by
    simp only [runT] at h
    simp only [treeFrom] at hs
    simp only [Tr.len]
    refine anyT_of_runS (R := fun T a w => runS P ops B (runT P ops B Q t) ((i, true) :: p1) T a w ∧ runS P ops B (runT P ops B Q t) ((j, true) :: p2) T a w) (m0 := t.len + Nat.max p1.length p2.length + 1) hB hp
      (k := fun l => Region.ready md ops l == [i, j] && (ops[i]?).isSome && (ops[j]?).isSome && segFrom md ops (treeFrom md ops t) p1 (l.setIfInBounds i true) && segFrom md ops (treeFrom md ops t) p2 (l.setIfInBounds j true)) (fun listed T a w hc hk h => by
        simp only [Bool.and_eq_true, beq_iff_eq] at hk
        obtain ⟨⟨⟨⟨hr, h1⟩, h2⟩, h3⟩, h4⟩ := hk
        refine ⟨fun h0 => (by rw [hr] at h0; cases h0), fun q hq => ?_⟩
        obtain ⟨⟨o1, ho1, g1⟩, o2, ho2, g2⟩ := h
        simp only [if_true] at g1 g2
        have key : ∀ (p : List (Nat × Bool)) (l : Array Bool) T a w, p.length ≤ Nat.max p1.length p2.length → closed md ops l → segFrom md ops (treeFrom md ops t) p l = true → runS P ops B (runT P ops B Q t) p T a w → anyT P md ops B Q (t.len + Nat.max p1.length p2.length) l T a w := fun p l T a w hle hcl hsl hrl =>
          anyT_le (Nat.add_le_add_left hle _) (anyT_of_runS (R := runT P ops B Q t) (m0 := t.len) hB hp (fun l T a w hc hk h => anyT_of_runT hB hp t l T a w hc hk h) p l T a w hcl hsl hrl)
        have hq' := hq
        rw [hr] at hq'
        rcases List.mem_cons.1 hq' with rfl | hq'
        · exact stA_mono (fun a' w' h' => ⟨h'.1, key p1 _ T a' w' (Nat.le_max_left _ _) (closed_set hc hq) h3 h'.2⟩) g1
        · rw [List.mem_singleton] at hq'
          subst hq'
          exact stA_mono (fun a' w' h' => ⟨h'.1, key p2 _ T a' w' (Nat.le_max_right _ _) (closed_set hc hq) h4 h'.2⟩) g2) s listed T a w hc hs h

theorem region_tree {id : Nat} {ro : Option Nat} {B : Array Nat} {t : Tr} {a : Act} {w : World} {Q' : Exit → Act → World → Prop} (hm : P.follows .mixedOrders = true)
    (hs : treeOK ops B t = true) (h : runT P ops B (Q' .normal) t [] a { w with drawn := w.drawn + 1 }) : (Code.region id ops true).wpIn (Fw ro) 0 P Q' a w := by
  simp only [treeOK, Bool.and_eq_true] at hs
  obtain ⟨⟨⟨hp, hB⟩, hl⟩, hs⟩ := hs
  have hl := Nat.le_of_ble_eq_true hl
  refine wpIn_region_any hm ?_
  exact wpAnyIn_of_anyT hp (fun _ _ h => h) _ _ _ _ _ (anyT_le hl (anyT_of_runT hB hp t _ [] a _ (closed_none _) hs h))

/-- A region in the text's order. -/
def runL (P : Program) (ops : Array Oper) (Q : Act → World → Prop) : List (Nat × Bool) → Act → World → Prop
  | [], a, w => Q a w
  | (i, _) :: s, a, w => stA P ops i (runL P ops Q s) a w

def plainOK (ops : Array Oper) (s : List (Nat × Bool)) : Bool := plainAll ops && (s.map (·.1) == List.range ops.size)

theorem region_plain {id : Nat} {ro : Option Nat} {s : List (Nat × Bool)} {a : Act} {w : World} {Q' : Exit → Act → World → Prop} (hs : plainOK ops s = true)
    (h : runL P ops (Q' .normal) s a w) : (Code.region id ops false).wpIn (Fw ro) 0 P Q' a w := by
  simp only [plainOK, Bool.and_eq_true, beq_iff_eq] at hs
  obtain ⟨hp, hs⟩ := hs
  refine wpIn_region ?_
  rw [← hs]
  revert h
  clear hs
  induction s generalizing a w with
  | nil => exact fun h => h
  | cons i s ih =>
    intro h
    obtain ⟨i, m⟩ := i
    rw [List.map_cons, wpOpsIn_cons]
    exact wpOpIn_of_stA hp (stA_mono (fun a' w' h' => ih h') h)
end sched
end Go.Fw
