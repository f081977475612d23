/-
  Part D: code, loops, loops over functions, functions; memory as lists of blocks.
-/
import Derived.Test.YtkieecaaijlokaaFwC
namespace Go.Fw
open Go Go.RowKit
set_option linter.unusedVariables false
set_option linter.unusedSimpArgs false

structure W (P : Program) (n : Nat) (ro : Option Nat) (c : Code) (Q : Exit → Act → World → Prop) (F : Env) (ds : List Deferred) (w : World) : Prop where mk ::
  out : ∀ a, Knows n F ds a → c.wpIn (Fw ro) 0 P Q a w

/-- What is asked at a way out. -/
structure At (n : Nat) (Q : Exit → Act → World → Prop) (e : Exit) (F : Env) (ds : List Deferred) (w : World) : Prop where mk ::
  out : ∀ a, Knows n F ds a → Q e a w

def allIn (F : Env) : Env → Prop
  | [] => True
  | (t, v) :: r => look F t = some v ∧ allIn F r

theorem allIn_look {F : Env} : ∀ {F' : Env}, allIn F F' → ∀ t v, look F' t = some v → look F t = some v
  | [], _, t, v, h => by cases h
  | (s, u) :: r, hi, t, v, h => by
    rw [look_put] at h
    by_cases e : s = t
    · subst e; rw [if_pos rfl] at h; cases h; exact hi.1
    · rw [if_neg e] at h; exact allIn_look hi.2 t v h

theorem Knows.sub {n : Nat} {F F' : Env} {ds : List Deferred} {a : Act} (h : Knows n F ds a) (hi : allIn F F') : Knows n F' ds a :=
  ⟨h.size, h.defers, fun t v hv => h.slot t v (allIn_look hi t v hv)⟩

section
variable {P : Program} {n : Nat} {ro : Option Nat} {Q : Exit → Act → World → Prop} {F : Env} {ds : List Deferred} {w : World}

theorem W.sub {c : Code} (F' : Env) (hi : allIn F F') (h : W P n ro c Q F' ds w) : W P n ro c Q F ds w := W.mk fun a hk => h.out a (hk.sub hi)
theorem At.sub {e : Exit} (F' : Env) (hi : allIn F F') (h : At n Q e F' ds w) : At n Q e F ds w := At.mk fun a hk => h.out a (hk.sub hi)

abbrev Thn (P : Program) (ro : Option Nat) (y : Code) (Q : Exit → Act → World → Prop) : Exit → Act → World → Prop := Exit.then (y.wpIn (Fw ro) 0 P Q) Q

theorem W.seq {x y : Code} (h : W P n ro x (Thn P ro y Q) F ds w) : W P n ro (.seq x y) Q F ds w := W.mk fun a hk => wpIn_seq (h.out a hk)
theorem W.skip (h : At n Q .normal F ds w) : W P n ro .skip Q F ds w := W.mk fun a hk => wpIn_skip (h.out a hk)
theorem W.exit {id : Nat} (h : At n Q (.exit id) F ds w) : W P n ro (.exit id) Q F ds w := W.mk fun a hk => wpIn_exit (h.out a hk)
theorem W.ret (h : At n Q .ret F ds w) : W P n ro .ret Q F ds w := W.mk fun a hk => wpIn_ret (h.out a hk)
theorem W.block {id : Nat} {c : Code} (h : W P n ro c (Exit.inBlock id Q) F ds w) : W P n ro (.block id c) Q F ds w := W.mk fun a hk => wpIn_block (h.out a hk)
theorem W.cond {c : Operand} {x y : Code} {b : Bool} (hc : ev? F c = some (.bool b)) (ht : b = true → W P n ro x Q F ds w) (hf : b = false → W P n ro y Q F ds w) : W P n ro (.cond c x y) Q F ds w :=
  W.mk fun a hk => wpIn_cond_split (hk.eval hc) (fun h => (ht h).out a hk) (fun h => (hf h).out a hk)
theorem W.condT {c : Operand} {x y : Code} (hc : ev? F c = some (.bool true)) (h : W P n ro x Q F ds w) : W P n ro (.cond c x y) Q F ds w := W.cond hc (fun _ => h) (fun e => by cases e)
theorem W.condF {c : Operand} {x y : Code} (hc : ev? F c = some (.bool false)) (h : W P n ro y Q F ds w) : W P n ro (.cond c x y) Q F ds w := W.cond hc (fun e => by cases e) (fun _ => h)

theorem At.then_n {y : Code} (h : W P n ro y Q F ds w) : At n (Thn P ro y Q) .normal F ds w := At.mk fun a hk => h.out a hk
theorem At.then_x {y : Code} {id : Nat} (h : At n Q (.exit id) F ds w) : At n (Thn P ro y Q) (.exit id) F ds w := At.mk fun a hk => h.out a hk
theorem At.then_r {y : Code} (h : At n Q .ret F ds w) : At n (Thn P ro y Q) .ret F ds w := At.mk fun a hk => h.out a hk
theorem At.blk_n {id : Nat} (h : At n Q .normal F ds w) : At n (Exit.inBlock id Q) .normal F ds w := At.mk fun a hk => h.out a hk
theorem At.blk_r {id : Nat} (h : At n Q .ret F ds w) : At n (Exit.inBlock id Q) .ret F ds w := At.mk fun a hk => h.out a hk
theorem At.blk_x {id : Nat} (h : At n Q .normal F ds w) : At n (Exit.inBlock id Q) (.exit id) F ds w := At.mk fun a hk => by simp only [Exit.inBlock, if_true]; exact h.out a hk
theorem At.blk_y {id id' : Nat} (hne : Nat.beq id' id = false) (h : At n Q (.exit id') F ds w) : At n (Exit.inBlock id Q) (.exit id') F ds w := At.mk fun a hk => by
  simp only [Exit.inBlock]
  rw [if_neg (fun e => by subst e; simp at hne)]
  exact h.out a hk

/-- Along schedules that part. -/
def ExT (P : Program) (n : Nat) (ops : Array Oper) (B : Array Nat) (K : KT) : Tr → Env → List Deferred → List (Nat × (World → Prop)) → World → Prop
  | .leaf s, F, ds, T, w => Ex P n ops B true K s F ds T w
  | .two s i p1 j p2 t, F, ds, T, w => Ex P n ops B true (fun F T w => Ex P n ops B true (fun F T w => ExT P n ops B K t F ds T w) ((i, true) :: p1) F ds T w ∧ Ex P n ops B true (fun F T w => ExT P n ops B K t F ds T w) ((j, true) :: p2) F ds T w) s F ds T w

theorem ExT.leaf {P : Program} {n : Nat} {ops : Array Oper} {B : Array Nat} {K : KT} {F : Env} {ds : List Deferred} {T : List (Nat × (World → Prop))} {w : World} {s : List (Nat × Bool)} (h : Ex P n ops B true K s F ds T w) : ExT P n ops B K (.leaf s) F ds T w := h
theorem ExT.two {P : Program} {n : Nat} {ops : Array Oper} {B : Array Nat} {K : KT} {F : Env} {ds : List Deferred} {T : List (Nat × (World → Prop))} {w : World} {s p1 p2 : List (Nat × Bool)} {i j : Nat} {t : Tr}
    (h : Ex P n ops B true (fun F T w => Ex P n ops B true (fun F T w => ExT P n ops B K t F ds T w) ((i, true) :: p1) F ds T w ∧ Ex P n ops B true (fun F T w => ExT P n ops B K t F ds T w) ((j, true) :: p2) F ds T w) s F ds T w) : ExT P n ops B K (.two s i p1 j p2 t) F ds T w := h
theorem Ex.forkS {P : Program} {n : Nat} {ops : Array Oper} {B : Array Nat} {K : KT} {F : Env} {ds : List Deferred} {T : List (Nat × (World → Prop))} {w : World} (F' : Env) (hi : allIn F F') (h : K F' T w) : Ex P n ops B true K [] F ds T w := Ex.mk fun a TW hk hf => ⟨F', T, hk.sub hi, hf, h⟩

theorem runS_mono {P : Program} {ops : Array Oper} {B : Array Nat} {Q Q' : List Watch → Act → World → Prop} (hq : ∀ T a w, Q T a w → Q' T a w) : ∀ (s : List (Nat × Bool)) (T : List Watch) (a : Act) (w : World), runS P ops B Q s T a w → runS P ops B Q' s T a w := by
  intro s
  induction s with
  | nil => exact fun T a w h => hq T a w h
  | cons x s ih =>
    rintro T a w h
    obtain ⟨i, m⟩ := x
    obtain ⟨o, ho, h⟩ := h
    refine ⟨o, ho, ?_⟩
    cases m
    · simp only [Bool.false_eq_true, if_false] at h ⊢
      obtain ⟨v, hy, h⟩ := h
      exact ⟨v, hy, ih _ _ _ h⟩
    · simp only [if_true] at h ⊢
      exact stA_mono (fun a' w' h' => ⟨h'.1, ih _ _ _ h'.2⟩) h

/-- Both roads come to one place. -/
theorem Ex.join {P : Program} {n : Nat} {ops : Array Oper} {B : Array Nat} {K : KT} {F : Env} {ds : List Deferred} {T : List (Nat × (World → Prop))} {w : World} {s1 s2 : List (Nat × Bool)} {t : Tr} (C : KT)
    (h1 : Ex P n ops B true C s1 F ds T w) (h2 : Ex P n ops B true C s2 F ds T w) (h : ∀ F T w, C F T w → ExT P n ops B K t F ds T w) :
    Ex P n ops B true (fun F T w => ExT P n ops B K t F ds T w) s1 F ds T w ∧ Ex P n ops B true (fun F T w => ExT P n ops B K t F ds T w) s2 F ds T w := by
  have key : ∀ s, Ex P n ops B true C s F ds T w → Ex P n ops B true (fun F T w => ExT P n ops B K t F ds T w) s F ds T w := fun s hs => Ex.mk fun a TW hk hf => by
    have := hs.out a TW hk hf
    simp only [cond_true] at this ⊢
    exact runS_mono (fun T a w ⟨F', T', hk', hf', h'⟩ => ⟨F', T', hk', hf', h F' T' w h'⟩) _ _ _ _ this
  exact ⟨key s1 h1, key s2 h2⟩

theorem runT_of_ExT {P : Program} {n : Nat} {ops : Array Oper} {B : Array Nat} {K : KT} {ds : List Deferred} {Q : Act → World → Prop} (hK : ∀ F T a w, Knows n F ds a → K F T w → Q a w) : ∀ (t : Tr) (F : Env) (T : List (Nat × (World → Prop))) (a : Act) (TW : List Watch) (w : World),
    Knows n F ds a → Fits P T TW → ExT P n ops B K t F ds T w → runT P ops B Q t TW a w
  | .leaf s, F, T, a, TW, w, hk, hf, h => by
    have h1 : runS P ops B (finT P n ds K) s TW a w := Ex.out h a TW hk hf
    exact runS_mono (fun T a w ⟨F', T', hk', _, h'⟩ => hK F' T' a w hk' h') s TW a w h1
  | .two s i p1 j p2 t, F, T, a, TW, w, hk, hf, h => by
    have h1 := Ex.out h a TW hk hf
    simp only [cond_true] at h1
    refine runS_mono ?_ s TW a w h1
    rintro TW' a' w' ⟨F', T', hk', hf', g1, g2⟩
    have g1 := g1.out a' TW' hk' hf'
    have g2 := g2.out a' TW' hk' hf'
    simp only [cond_true] at g1 g2
    refine ⟨runS_mono ?_ _ _ _ _ g1, runS_mono ?_ _ _ _ _ g2⟩
    · rintro TW2 a2 w2 ⟨F2, T2, hk2, hf2, g⟩
      exact runT_of_ExT hK t F2 T2 a2 TW2 w2 hk2 hf2 g
    · rintro TW2 a2 w2 ⟨F2, T2, hk2, hf2, g⟩
      exact runT_of_ExT hK t F2 T2 a2 TW2 w2 hk2 hf2 g

/-- A region that draws its order, along schedules that part. -/
theorem W.regT {id : Nat} {ops : Array Oper} (hm : P.follows .mixedOrders = true) (B : Array Nat) (t : Tr) (hs : treeOK ops B t = true)
    (h : ∀ (K : KT) w1, (∀ F' w', At n Q .normal F' ds w' → ∀ T, K F' T w') → w1 = w.drew → ExT P n ops B K t F ds [] w1) : W P n ro (.region id ops true) Q F ds w := W.mk fun a hk => by
  refine region_tree hm hs ?_
  have h1 := h (fun F' _ w' => At n Q .normal F' ds w') _ (fun _ _ h _ => h) rfl
  exact runT_of_ExT (fun F T a w hk h => h.out a hk) t F [] a [] _ hk (fun x hx => by cases hx) h1

/-- A region that draws its order, along a schedule. -/
theorem W.regD {id : Nat} {ops : Array Oper} (hm : P.follows .mixedOrders = true) (B : Array Nat) (s : List (Nat × Bool)) (hs : schedOK ops B s = true)
    (h : ∀ (K : KT) w1, (∀ F' w', At n Q .normal F' ds w' → ∀ T, K F' T w') → w1 = w.drew → Ex P n ops B true K s F ds [] w1) : W P n ro (.region id ops true) Q F ds w :=
  W.regT hm B (.leaf s) hs h

/-- A region in the text's order. -/
theorem W.reg {id : Nat} {ops : Array Oper} (s : List (Nat × Bool)) (hs : plainOK ops s = true)
    (h : ∀ K : KT, (∀ F' w', At n Q .normal F' ds w' → ∀ T, K F' T w') → Ex P n ops #[] false K s F ds [] w) : W P n ro (.region id ops false) Q F ds w := W.mk fun a hk => by
  refine region_plain hs ?_
  have h1 := h (fun F' _ w' => At n Q .normal F' ds w') (fun _ _ h _ => h)
  have h1 := h1.out a [] hk (fun x hx => by cases hx)
  have key : ∀ (s : List (Nat × Bool)) (a : Act) (w : World), runL P ops (fin n ds fun F' _ w' => At n Q .normal F' ds w') s a w → runL P ops (Q .normal) s a w := by
    intro s
    induction s with
    | nil => rintro a w ⟨F', hk, hq⟩; exact (hq []).out a hk
    | cons x s ih =>
      intro a w h
      exact stA_mono (fun a' w' h' => ih _ _ h') h
  exact key _ _ _ h1

/-- A cut: what holds where a piece of code has ended. -/
abbrev CutQ (n : Nat) (ds : List Deferred) (C : Env → World → Prop) (Q : Exit → Act → World → Prop) : Exit → Act → World → Prop := Exit.then (fun a w' => ∃ F', Knows n F' ds a ∧ C F' w') Q
theorem W.seqC {x y : Code} (C : Env → World → Prop) (h1 : W P n ro x (CutQ n ds C Q) F ds w) (h2 : ∀ F' w', C F' w' → W P n ro y Q F' ds w') : W P n ro (.seq x y) Q F ds w :=
  W.mk fun a hk => wpIn_seq (wpIn_mono (h1.out a hk) fun e a w hq => by
    cases e with
    | normal => obtain ⟨F', hk', hC⟩ := hq; exact (h2 F' w hC).out a hk'
    | _ => exact hq)
theorem At.cut_n {C : Env → World → Prop} (h : C F w) : At n (CutQ n ds C Q) .normal F ds w := At.mk fun _ hk => ⟨F, hk, h⟩
theorem At.cut_x {C : Env → World → Prop} {id : Nat} (h : At n Q (.exit id) F ds w) : At n (CutQ n ds C Q) (.exit id) F ds w := At.mk fun a hk => h.out a hk
theorem At.cut_r {C : Env → World → Prop} (h : At n Q .ret F ds w) : At n (CutQ n ds C Q) .ret F ds w := At.mk fun a hk => h.out a hk

/-- A loop: a ghost state says what the slots hold, and what holds of the world. -/
theorem wpIn_loop_rel {ro : Option Nat} {P : Program} {Q : Exit → Act → World → Prop} {a : Act} {w : World} {c : Code} (J : Nat → Act → World → Prop) (m0 : Nat) (h₀ : J m0 a w)
    (round : ∀ m a w, J m a w → c.wpIn (Fw ro) 0 P (Exit.then (fun a' w' => ∃ m', m' < m ∧ J m' a' w') Q) a w) : (Code.loop c).wpIn (Fw ro) 0 P Q a w := by
  intro b k cs hro hb hr
  have key : ∀ j a w, J j a w →
      ∃ e a' w', Q e a' w' ∧ ArrivesIn (Machine.fenced P (Fw ro)) P (lone (b.atR a (.code c :: .inLoop c :: k)) cs w) b k cs e a' w' := by
    intro j
    induction j using Nat.strongRecOn with
    | _ j ih =>
      intro a w hI
      obtain ⟨e, a₁, w₁, hq, harr⟩ := round j a w hI b (.inLoop c :: k) cs hro hb hr
      cases e with
      | normal =>
        obtain ⟨m', hlt, hI₁⟩ := hq
        obtain ⟨e₂, a₂, w₂, hq₂, harr₂⟩ := ih m' hlt a₁ w₁ hI₁
        exact ⟨e₂, a₂, w₂, hq₂, .of_steps (StepsIn.trans harr (.one (fenced_calm (n := 0) hb hr rfl) stepR_inLoop)) harr₂⟩
      | exit id => exact ⟨_, a₁, w₁, hq, .pass (x := .inLoop c) rfl (fun _ _ => .inl (by simp)) harr⟩
      | goto l => exact ⟨_, a₁, w₁, hq, .pass (x := .inLoop c) rfl (fun _ _ => .inl (by simp)) harr⟩
      | ret => exact ⟨_, a₁, w₁, hq, .pass (x := .inLoop c) rfl (fun _ _ => .inl (by simp)) harr⟩
      | panic ch => exact ⟨_, a₁, w₁, hq, .pass (x := .inLoop c) rfl (fun _ _ => .inl (by simp)) harr⟩
      | outgrown => exact ⟨_, a₁, w₁, hq, .pass (x := .inLoop c) rfl (fun _ _ => .inl (by simp)) harr⟩
  obtain ⟨e, a', w', hq, harr⟩ := key _ a w h₀
  exact ⟨e, a', w', hq, .of_steps (.one (fenced_calm (n := 0) hb hr rfl) stepR_loop) harr⟩

/-- The way back to a loop's head. -/
abbrev LoopQ {σ : Type} (n : Nat) (ds : List Deferred) (Fσ : σ → Env) (I : σ → World → Prop) (μ : σ → Nat) (s : σ) (Q : Exit → Act → World → Prop) : Exit → Act → World → Prop :=
  Exit.then (fun a' w' => ∃ m', m' < μ s ∧ ∃ s', μ s' = m' ∧ Knows n (Fσ s') ds a' ∧ I s' w') Q

theorem W.loop {σ : Type} {c : Code} (Fσ : σ → Env) (I : σ → World → Prop) (μ : σ → Nat) (s0 : σ) (h0 : allIn F (Fσ s0)) (hI : I s0 w)
    (round : ∀ s w, I s w → W P n ro c (LoopQ n ds Fσ I μ s Q) (Fσ s) ds w) : W P n ro (.loop c) Q F ds w := W.mk fun a hk => by
  refine wpIn_loop_rel (fun m a w => ∃ s, μ s = m ∧ Knows n (Fσ s) ds a ∧ I s w) (μ s0) ⟨s0, rfl, hk.sub h0, hI⟩ ?_
  rintro m a w ⟨s, rfl, hk, hi⟩
  exact (round s w hi).out a hk

theorem At.back {σ : Type} {Fσ : σ → Env} {I : σ → World → Prop} {μ : σ → Nat} {s : σ} (s' : σ) (hF : allIn F (Fσ s')) (hI : I s' w) (hμ : μ s' < μ s) :
    At n (LoopQ n ds Fσ I μ s Q) .normal F ds w := At.mk fun a hk => ⟨_, hμ, s', rfl, hk.sub hF, hI⟩
theorem At.loop_x {σ : Type} {Fσ : σ → Env} {I : σ → World → Prop} {μ : σ → Nat} {s : σ} {id : Nat} (h : At n Q (.exit id) F ds w) : At n (LoopQ n ds Fσ I μ s Q) (.exit id) F ds w := At.mk fun a hk => h.out a hk
theorem At.loop_r {σ : Type} {Fσ : σ → Env} {I : σ → World → Prop} {μ : σ → Nat} {s : σ} (h : At n Q .ret F ds w) : At n (LoopQ n ds Fσ I μ s Q) .ret F ds w := At.mk fun a hk => h.out a hk

/-- What is asked where a function is left: marks of loops over functions are taken off. -/
def Lv (P : Program) (fn : Func) (tmps : Array Value) (R : Value → World → Prop) : List Deferred → World → Prop
  | [], w => ∃ v, (results fn tmps).run P w = .ok v w ∧ R v w
  | d :: ds, w => ∃ r, d.target = .collected r ∧ w.heap[r]? = some (.deferred (some [])) ∧ Lv P fn tmps R ds (w.putObj r (.deferred none))

def RetQ (P : Program) (fn : Func) (R : Value → World → Prop) : Exit → Act → World → Prop
  | .normal, a, w => Lv P fn a.tmps R a.defers w
  | .ret, a, w => Lv P fn a.tmps R a.defers w
  | _, _, _ => False

theorem leaves_of_Lv {fn : Func} {tmps : Array Value} {R : Value → World → Prop} : ∀ (ds : List Deferred) (w : World), Lv P fn tmps R ds w → LeavesInM (Fw none) 0 P fn tmps (fun e w' => ∃ v, e = .returned v ∧ R v w') ds .returning w
  | [], w, h => by
    obtain ⟨v, hr, hR⟩ := h
    exact ⟨v, hr, v, rfl, hR⟩
  | d :: ds, w, h => by
    obtain ⟨r, ht, hb, h⟩ := h
    exact ⟨by simp, .inl ⟨r, _, ht, run_takeDeferred hb, leaves_of_Lv ds _ h⟩⟩

def argE : Nat → List Value → Env
  | _, [] => []
  | k, v :: r => (k, v) :: argE (k + 1) r

theorem look_argE : ∀ (vs : List Value) (k t : Nat) (v : Value), look (argE k vs) t = some v → k ≤ t ∧ vs[t - k]? = some v
  | [], _, _, _, h => by cases h
  | u :: r, k, t, v, h => by
    simp only [argE] at h
    rw [look_put] at h
    by_cases e : k = t
    · subst e; rw [if_pos rfl] at h; cases h; exact ⟨Nat.le_refl _, by simp⟩
    · rw [if_neg e] at h
      obtain ⟨h1, h2⟩ := look_argE r (k + 1) t v h
      refine ⟨by omega, ?_⟩
      rw [show t - k = (t - (k + 1)) + 1 from by omega]
      simpa using h2

theorem Ret.of_W {f : FuncId} {fn : Func} {c : Code} {args : Array Value} {R : Value → World → Prop} (hf : P.funcs[f]? = some fn) (hb : fn.body = some c) (hn : fn.ntmps = n) (hle : Nat.ble args.size n = true)
    (h : W P n none c (RetQ P fn R) (argE 0 args.toList) [] w) : Ret P f args w R := by
  have hle := Nat.le_of_ble_eq_true hle
  refine callsIn_of_wp_marks hf hb trivial ?_
  have hk : Knows n (argE 0 args.toList) [] { tmps := args ++ Array.replicate (fn.ntmps - args.size) undef, defers := [] } := by
    refine ⟨by simp [hn]; omega, rfl, fun t v hv => ?_⟩
    obtain ⟨_, h2⟩ := look_argE _ _ _ _ hv
    simp only [Nat.sub_zero, Array.getElem?_toList] at h2
    have hlt : t < args.size := (Array.getElem?_eq_some_iff.1 h2).1
    simp only
    rw [Array.getElem?_append_left hlt]
    exact h2
  refine wpIn_mono (h.out _ hk) ?_
  intro e a w hq
  cases e with
  | normal => exact leaves_of_Lv _ _ hq
  | ret => exact leaves_of_Lv _ _ hq
  | exit id => exact hq.elim
  | goto t => exact hq.elim
  | panic ch => exact hq.elim
  | outgrown => exact hq.elim

/-- The results' values. -/
def ResAt (P : Program) (F : Env) (w : World) : List ResultVar → List Value → Prop
  | [], [] => True
  | .tmp t :: r, v :: vs => look F t = some v ∧ ResAt P F w r vs
  | .cell a ty :: r, v :: vs => (∃ p, look F a = some (.pointer (some p)) ∧ (loadVar ty p).run P w = .ok v w) ∧ ResAt P F w r vs
  | _, _ => False

def tup : List Value → Value
  | [v] => v
  | vs => .tuple vs.toArray

theorem run_results {fn : Func} {a : Act} (hk : Knows n F ds a) {rs : List ResultVar} {vs : List Value} (hr : fn.results = rs.toArray) (h : ResAt P F w rs vs) : (results fn a.tmps).run P w = .ok (tup vs) w := by
  have key : ∀ (G : ResultVar → Sem Value), (∀ t, G (.tmp t) = pure (a.tmps.getD t undef)) → (∀ b t, G (.cell b t) = do loadVar t (← asAddr (a.tmps.getD b undef))) →
      ∀ (rs : List ResultVar) (vs : List Value), ResAt P F w rs vs → (rs.mapM G).run P w = .ok vs w := by
    intro G hG1 hG2 rs
    induction rs with
    | nil => intro vs h; cases vs with | nil => rfl | cons v vs => exact h.elim
    | cons x rs ih =>
      intro vs h
      cases vs with
      | nil => cases x <;> exact h.elim
      | cons v vs =>
        cases x with
        | tmp t =>
          obtain ⟨h1, h2⟩ := h
          have e1 : a.tmps.getD t undef = v := by simp [hk.slot t v h1]
          simp only [List.mapM_cons, hG1, Sem.run_bind, Sem.run_pure, Result.andThen_ok, ih vs h2, e1]
        | cell b ty =>
          obtain ⟨⟨p, h1, h3⟩, h2⟩ := h
          have e1 : a.tmps.getD b undef = .pointer (some p) := by simp [hk.slot b _ h1]
          have e2 : (asAddr (.pointer (some p))).run P w = .ok p w := rfl
          simp only [List.mapM_cons, hG2, Sem.run_bind, Sem.run_pure, Result.andThen_ok, e1, e2, h3, ih vs h2]
  unfold results
  rw [Sem.run_bind, hr, List.mapM_toArray, Sem.run_map, key _ (fun _ => rfl) (fun _ _ => rfl) rs vs h]
  simp only [Result.andThen_ok, Sem.run_pure]
  congr 1
  cases vs with
  | nil => rfl
  | cons v vs => cases vs with
    | nil => rfl
    | cons u us => simp [tup]

theorem At.ret {fn : Func} {R : Value → World → Prop} (rs : List ResultVar) (vs : List Value) (hr : fn.results = rs.toArray) (h : ResAt P F w rs vs) (hR : R (tup vs) w) : At n (RetQ P fn R) .ret F [] w := At.mk fun a hk => by
  show Lv P fn a.tmps R a.defers w
  rw [hk.defers]
  exact ⟨_, run_results hk hr h, hR⟩

theorem At.ret0 {fn : Func} {R : Value → World → Prop} (hr : fn.results = #[]) (hR : R (.tuple #[]) w) : At n (RetQ P fn R) .ret F [] w := At.ret [] [] hr trivial hR
theorem At.ret1 {fn : Func} {R : Value → World → Prop} (r : ResultVar) {v : Value} (hr : fn.results = #[r]) (h : ResAt P F w [r] [v]) (hR : R v w) : At n (RetQ P fn R) .ret F [] w := At.ret [r] [v] hr h hR
theorem At.ret2 {fn : Func} {R : Value → World → Prop} (r r2 : ResultVar) {v v2 : Value} (hr : fn.results = #[r, r2]) (h : ResAt P F w [r, r2] [v, v2]) (hR : R (.tuple #[v, v2]) w) : At n (RetQ P fn R) .ret F [] w := At.ret [r, r2] [v, v2] hr h hR
theorem At.ret3 {fn : Func} {R : Value → World → Prop} (r r2 r3 : ResultVar) {v v2 v3 : Value} (hr : fn.results = #[r, r2, r3]) (h : ResAt P F w [r, r2, r3] [v, v2, v3]) (hR : R (.tuple #[v, v2, v3]) w) : At n (RetQ P fn R) .ret F [] w := At.ret [r, r2, r3] [v, v2, v3] hr h hR

theorem At.fall {fn : Func} {R : Value → World → Prop} (h : At n (RetQ P fn R) .ret F ds w) : At n (RetQ P fn R) .normal F ds w := At.mk h.out

theorem At.mark {fn : Func} {R : Value → World → Prop} {r : Nat} {asg : Array Value} (hb : w.heap[r]? = some (.deferred (some []))) (h : At n (RetQ P fn R) .ret F ds (w.putObj r (.deferred none))) : At n (RetQ P fn R) .ret F ({ target := .collected r, args := asg } :: ds) w := At.mk fun a hk => by
  show Lv P fn a.tmps R a.defers w
  rw [hk.defers]
  refine ⟨r, rfl, hb, ?_⟩
  have h1 := h.out { a with defers := ds } ⟨hk.size, rfl, hk.slot⟩
  exact h1

/-! ## Loops over functions -/
structure KnowsT (n : Nat) (F : Env) (tmps : Array Value) : Prop where
  size : tmps.size = n
  slot : ∀ t v, look F t = some v → tmps[t]? = some v

/-- Yield of loop l, called with args, ends so. -/
def Yld (P : Program) (l : Nat) (args : List Value) (w : World) (R : Value → World → Prop) : Prop :=
  ∃ r, w.heap[l]? = some (.loop r) ∧ args.length = r.params.size ∧ Rnd P l r.fn ((r.params.zip args.toArray).foldl (fun tmps (t, a) => tmps.setIfInBounds t a) r.tmps) r.assign r.body w R

/-- The record of a loop, in a state. -/
def LoopAt (w : World) (l : Nat) (r : Loop) (st : LoopState) (pe : Option Code) : Prop := w.heap[l]? = some (.loop { r with state := st, pending := pe })

/-- How a round ends. -/
def RndQ (l : Nat) (r : Loop) (R : Value → World → Prop) : Exit → Act → World → Prop
  | .normal, _, w => LoopAt w l r .busy none ∧ R (.bool true) (w.putObj l (.loop { r with state := .ready, pending := none }))
  | .ret, _, w => LoopAt w l r .busy none ∧ R (.bool false) (w.putObj l (.loop { r with state := .done, pending := some .ret }))
  | .exit id, _, w => LoopAt w l r .busy none ∧ R (.bool false) (w.putObj l (.loop { r with state := .done, pending := some (.exit id) }))
  | _, _, _ => False

/-- How the assignment to a loop's variables ends. -/
def AsgQ (P : Program) (n : Nat) (l : Nat) (r : Loop) (R : Value → World → Prop) : Exit → Act → World → Prop
  | .normal, a, w => LoopAt w l r .ready none ∧ r.body.wpIn (Fw (some l)) 0 P (RndQ l r R) a (w.putObj l (.loop { r with state := .busy, pending := none }))
  | _, _, _ => False

theorem At.asg {l : Nat} {r : Loop} {R : Value → World → Prop} {b : Code} (hb : r.body = b) (hl : LoopAt w l r .ready none) (h : W P n (some l) b (RndQ l r R) F ds (w.putObj l (.loop { r with state := .busy, pending := none }))) : At n (AsgQ P n l r R) .normal F ds w := by
  subst hb
  exact At.mk fun a hk => ⟨hl, h.out a hk⟩

theorem At.rnd_n {l : Nat} {r : Loop} {R : Value → World → Prop} (hl : LoopAt w l r .busy none) (h : R (.bool true) (w.putObj l (.loop { r with state := .ready, pending := none }))) : At n (RndQ l r R) .normal F ds w := At.mk fun _ _ => ⟨hl, h⟩
theorem At.rnd_r {l : Nat} {r : Loop} {R : Value → World → Prop} (hl : LoopAt w l r .busy none) (h : R (.bool false) (w.putObj l (.loop { r with state := .done, pending := some .ret }))) : At n (RndQ l r R) .ret F ds w := At.mk fun _ _ => ⟨hl, h⟩
theorem At.rnd_x {l id : Nat} {r : Loop} {R : Value → World → Prop} (hl : LoopAt w l r .busy none) (h : R (.bool false) (w.putObj l (.loop { r with state := .done, pending := some (.exit id) }))) : At n (RndQ l r R) (.exit id) F ds w := At.mk fun _ _ => ⟨hl, h⟩

theorem foldl_size : ∀ (l : List (Tmp × Value)) (tmps : Array Value), (l.foldl (fun tmps (x : Tmp × Value) => tmps.setIfInBounds x.1 x.2) tmps).size = tmps.size
  | [], _ => rfl
  | x :: l, tmps => by simp only [List.foldl_cons]; rw [foldl_size l]; simp

/-- A call of yield, out of the walk of one round: one loop variable. -/
theorem Yld.one {l : Nat} {r : Loop} {p : Tmp} {v : Value} {asg : Code} {R : Value → World → Prop} (hl : LoopAt w l r .ready none) (hk : KnowsT n F r.tmps) (hp : r.params = #[p]) (hlt : Nat.blt p n = true) (has : r.assign = asg)
    (h : W P n (some l) asg (AsgQ P n l r R) ((p, v) :: F) [] w) : Yld P l [v] w R := by
  refine ⟨_, hl, by simp [hp], ?_⟩
  have hlt : p < n := by simpa [Nat.blt_eq] using hlt
  have hk2 : Knows n ((p, v) :: F) [] { tmps := r.tmps.setIfInBounds p v, defers := [] } := by
    refine ⟨by simp [hk.size], rfl, fun t u hu => ?_⟩
    rw [look_put] at hu
    by_cases e : p = t
    · subst e; rw [if_pos rfl] at hu; cases hu; simp [hk.size, hlt]
    · rw [if_neg e] at hu; simp only; rw [Array.getElem?_setIfInBounds_ne e]; exact hk.slot t u hu
  have h1 := h.out _ hk2
  unfold Rnd
  refine roundIn_of_wpIn (F := Fw none) trivial ?_
  simp only [hp, has]
  simp only [Array.zip, List.zip_toArray] at *
  have e0 : (Array.foldl (fun tmps (x : Tmp × Value) => tmps.setIfInBounds x.fst x.snd) r.tmps (Array.zipWith Prod.mk #[p] [v].toArray)) = r.tmps.setIfInBounds p v := by simp
  rw [e0]
  refine wpIn_mono h1 ?_
  intro e a w1 hq
  cases e with
  | normal =>
    obtain ⟨hl1, hb⟩ := hq
    refine ⟨_, run_beginRound hl1 rfl, ?_⟩
    refine wpIn_mono hb ?_
    intro e a w2 hq
    cases e with
    | normal => exact ⟨_, _, run_endRound none hq.1, _, rfl, hq.2⟩
    | ret => exact ⟨_, _, run_endRound (some .ret) hq.1, _, rfl, hq.2⟩
    | exit id => exact ⟨_, _, run_endRound (some (.exit id)) hq.1, _, rfl, hq.2⟩
    | goto t => exact hq.elim
    | panic ch => exact hq.elim
    | outgrown => exact hq.elim
  | ret => exact hq.elim
  | exit id => exact hq.elim
  | goto t => exact hq.elim
  | panic ch => exact hq.elim
  | outgrown => exact hq.elim

/-- Where the function that was ranged over has returned. -/
def RngQ (P : Program) (n : Nat) (l : Nat) (r : Loop) (Q : Exit → Act → World → Prop) (ro : Option Nat) (F : Env) (ds : List Deferred) (w : World) : Prop :=
  (∃ st, st ≠ LoopState.busy ∧ LoopAt w l r st none ∧ At n Q .normal F ds (w.putObj l (.loop { r with state := .exhausted, pending := none }))) ∨
  (∃ st c, st ≠ LoopState.busy ∧ LoopAt w l r st (some c) ∧ W P n ro c Q F ds (w.putObj l (.loop { r with state := .exhausted, pending := some c })))

/-- A loop over a function, in a function's own code. -/
theorem W.range {g : Operand} {ps : Array Tmp} {asg body : Code} {gf : FuncId} {lb : Array Value} (hg : ev? F g = some (.func (.func gf) #[] lb)) (he : entered P gf = true)
    (h : ∀ r : Loop, KnowsT n F r.tmps → r.params = ps → r.assign = asg → r.body = body →
      ∀ w1, w1 = ((w.alloc (.deferred (some []))).alloc (.loop { r with state := .ready, pending := none })) →
      Ret P gf (#[.func (.yield (w.heap.size + 1)) #[] #[]] ++ lb) w1 fun _ w2 => RngQ P n (w.heap.size + 1) r Q none F ({ target := .collected w.heap.size, args := #[] } :: ds) w2) :
    W P n none (.rangeFunc g ps asg body) Q F ds w := W.mk fun a hk => by
  refine wpIn_rangeFunc ?_
  intro fn _
  have h1 := h { state := .ready, pending := none, fn, tmps := a.tmps, params := ps, assign := asg, body, defers := w.heap.size } ⟨hk.size, hk.slot⟩ rfl rfl rfl _ rfl
  refine ⟨w.heap.size + 1, [{ target := .collected w.heap.size, args := #[] }], (w.alloc (.deferred (some []))).alloc (.loop { state := .ready, pending := none, fn, tmps := a.tmps, params := ps, assign := asg, body, defers := w.heap.size }), { target := .fn (.func gf) lb, args := #[.func (.yield (w.heap.size + 1)) #[] #[]] }, (w.alloc (.deferred (some []))).alloc (.loop { state := .ready, pending := none, fn, tmps := a.tmps, params := ps, assign := asg, body, defers := w.heap.size }), gf, #[.func (.yield (w.heap.size + 1)) #[] #[]] ++ lb, (w.alloc (.deferred (some []))).alloc (.loop { state := .ready, pending := none, fn, tmps := a.tmps, params := ps, assign := asg, body, defers := w.heap.size }), run_enterLoop_outer _ _ _ _ _, ?_, fun _ _ => trivial, ?_, fun hd => by simp [Fw] at hd, ?_⟩
  · simp only [resolve, hk.eval hg]
    simp [Deferred.ofValue, Act.eval]
  · simp only [invoke, run_callFunc he]
  · refine CallsIn.mono h1 ?_
    rintro e w3 ⟨v, rfl, hq⟩
    have hk2 : Knows n F ({ target := .collected w.heap.size, args := #[] } :: ds) { a with defers := [{ target := .collected w.heap.size, args := #[] }] ++ a.defers } := ⟨hk.size, by simp [hk.defers], hk.slot⟩
    rcases hq with ⟨st, hst, hl, hn⟩ | ⟨st, c, hst, hl, hn⟩
    · exact ⟨none, _, run_endLoop hl hst, hn.out _ hk2⟩
    · exact ⟨some c, _, run_endLoop hl hst, hn.out _ hk2⟩

/-- A loop over a function, in a round of another one. -/
theorem W.rangeIn {l0 : Nat} {r0 : Loop} {g : Operand} {ps : Array Tmp} {asg body : Code} {gf : FuncId} {lb : Array Value} (h0 : w.heap[l0]? = some (.loop r0)) (hg : ev? F g = some (.func (.func gf) #[] lb)) (he : entered P gf = true)
    (h : ∀ r : Loop, KnowsT n F r.tmps → r.params = ps → r.assign = asg → r.body = body →
      ∀ w1, w1 = w.alloc (.loop { r with state := .ready, pending := none }) →
      Ret P gf (#[.func (.yield w.heap.size) #[] #[]] ++ lb) w1 fun _ w2 => RngQ P n w.heap.size r Q (some l0) F ds w2) :
    W P n (some l0) (.rangeFunc g ps asg body) Q F ds w := W.mk fun a hk => by
  refine wpIn_rangeFunc ?_
  intro fn _
  have h1 := h { state := .ready, pending := none, fn, tmps := a.tmps, params := ps, assign := asg, body, defers := r0.defers } ⟨hk.size, hk.slot⟩ rfl rfl rfl _ rfl
  refine ⟨w.heap.size, [], w.alloc (.loop { state := .ready, pending := none, fn, tmps := a.tmps, params := ps, assign := asg, body, defers := r0.defers }), { target := .fn (.func gf) lb, args := #[.func (.yield w.heap.size) #[] #[]] }, w.alloc (.loop { state := .ready, pending := none, fn, tmps := a.tmps, params := ps, assign := asg, body, defers := r0.defers }), gf, #[.func (.yield w.heap.size) #[] #[]] ++ lb, w.alloc (.loop { state := .ready, pending := none, fn, tmps := a.tmps, params := ps, assign := asg, body, defers := r0.defers }), run_enterLoop_inner h0 _ _ _ _ _, ?_, fun _ _ => trivial, ?_, fun hd => by simp [Fw] at hd, ?_⟩
  · simp only [resolve, hk.eval hg]
    simp [Deferred.ofValue, Act.eval]
  · simp only [invoke, run_callFunc he]
  · have h1' : CallsIn (Fw (some l0)) 0 P gf _ _ _ := h1
    refine CallsIn.mono h1' ?_
    rintro e w3 ⟨v, rfl, hq⟩
    have hk2 : Knows n F ds { a with defers := [] ++ a.defers } := ⟨hk.size, by simp [hk.defers], hk.slot⟩
    rcases hq with ⟨st, hst, hl, hn⟩ | ⟨st, c, hst, hl, hn⟩
    · exact ⟨none, _, run_endLoop hl hst, hn.out _ hk2⟩
    · exact ⟨some c, _, run_endLoop hl hst, hn.out _ hk2⟩
end

/-- A law's contract, in the kit's words. -/
theorem Ret.calls {P : Program} {f : FuncId} {args : Array Value} {w : World} {R : Value → World → Prop} (h : Ret P f args w R) : Calls P f args w fun e w' => ∃ v, e = .returned v ∧ R v w' :=
  CallsIn.calls h fun _ => room_all _ _

theorem Ret.of_calls {P : Program} {f : FuncId} {args : Array Value} {w : World} {R : Value → World → Prop} (h : Calls P f args w fun e w' => ∃ v, e = .returned v ∧ R v w') : Ret P f args w R := callsIn_wide.2 h
end Go.Fw
