/-
  The walk of functions, by program: pieces, piecesit.
-/
import Derived.Test.YtkieecaaijlokaaW2
namespace Go.Proofs.Ytkieecaaijlokaa
open Go Go.Fw Go.RowKit Go.Proofs
set_option linter.unusedVariables false
set_option linter.unusedSimpArgs false

-- valise/path.pieces
set_option maxRecDepth 100000 in
theorem pieces_c {w0 : World} {s : List UInt8}  : Ret Try.prog 30 #[strV s] w0 fun r w' => ∃ b, r = .func (.func 40) #[] #[ptr b] ∧ Sep w0 [(b, .cells [strV s].toArray 9 (0, 0))] w' := by
  have M : Sep w0 [] w0 := St.nil w0
  refine Ret.of_W Try.func30 rfl Try.ntmps30 rfl ?_
  refine W.seq ?_
  refine W.sub [(0, _)] ⟨rfl, trivial⟩ ?_
  refine W.reg [(0, true), (1, false)] (by kernel_rfl) ?_ -- region 0
  intro K hK
  refine x_box [_] rfl rfl rfl rfl rfl ?_ -- bx1 path.go:24
  intro bbx1 wbx1 hbbx1 hwbx1
  have M := M.acons hbbx1 hwbx1
  refine ⟨trivial, ?_⟩
  refine x_assign rfl rfl rfl rfl ?_
  refine Ex.done (hK _ _ ?_)
  refine At.then_n ?_
  refine W.seq ?_
  refine W.sub [(1, _)] ⟨rfl, trivial⟩ ?_
  refine W.reg [(0, false), (1, false)] (by kernel_rfl) ?_ -- region 1
  intro K hK
  refine x_mkfn rfl rfl rfl rfl rfl ?_
  refine x_assign rfl rfl rfl rfl ?_
  refine Ex.done (hK _ _ ?_)
  refine At.then_n ?_
  refine W.ret ?_
  refine At.ret1 (.tmp 2) rfl ⟨rfl, trivial⟩ ?_ -- ret1
  exact ⟨_, rfl, M⟩

-- valise/path.pieces$1
set_option maxRecDepth 100000 in
theorem pieces_it {w0 : World} {b l0 : Nat} {s : List UInt8} {I : List UInt8 → List (List UInt8) → World → Prop} {X : World → Prop} (hl : s.length ≤ 9223372036854775807)
    (hb : ∀ x rest w, I x rest w → w.heap[b]? = some (.cells [strV x].toArray 9 (0, 0)))
    (hput : ∀ x y rest w w1, I x rest w → w1 = w.putObj b (.cells [strV y].toArray 9 (0, 0)) → I y rest w1)
    (hnew : ∀ x rest w w1, I x rest w → New w w1 → I x rest w1)
    (hY : ∀ p rest w, I (joinS (p :: rest)) (p :: rest) w → Yld Try.prog l0 [strV p] w fun v w' => ∃ bb : Bool, v = .bool bb ∧ (bb = true → I (joinS (p :: rest)) rest w') ∧ (bb = false → X w'))
    (h0 : I s (splitS s) w0) : Ret Try.prog 40 #[.func (.yield l0) #[] #[], ptr b] w0 fun r w' => r = .tuple #[] ∧ ((∃ x, I x [] w') ∨ X w') := by
  refine Ret.of_W Try.func40 rfl Try.ntmps40 rfl ?_
  refine W.block ?_
  refine W.loop (σ := List UInt8) (fun x => [(0, _), (1, _)]) (fun x w => I x (splitS x) w ∧ x.length ≤ 9223372036854775807) (fun x => x.length) s ⟨rfl, rfl, trivial⟩ ⟨h0, hl⟩ ?_ -- loop1
  rintro x w ⟨hI, hxl⟩
  refine W.block ?_
  refine W.seq ?_
  refine W.sub [(0, _), (1, _)] ⟨rfl, rfl, trivial⟩ ?_
  refine W.reg [(0, false), (1, true), (2, false), (3, false), (4, false), (5, false), (6, false), (7, false), (8, false)] (by kernel_rfl) ?_ -- region 0
  intro K hK
  refine x_ld rfl rfl rfl Try.underlying9 rfl rfl (cell_of (hb _ _ _ hI) rfl) ?_ -- ld1 path.go:27
  -- call1: strings.Cut path.go:27
  refine x_call rfl rfl rfl rfl rfl en41 (cut_c hxl) ?_
  rintro r w1 ⟨p, q, hs, rfl, hn⟩
  have hI := hnew _ _ _ _ hI hn
  have hx := joinS_split hs
  rw [hs] at hI
  subst hx
  refine ⟨trivial, ?_⟩
  refine x_move rfl rfl rfl rfl ?_
  refine x_ext rfl rfl rfl rfl rfl ?_ -- ex1
  refine x_ext rfl rfl rfl rfl rfl ?_ -- ex2
  refine x_ext rfl rfl rfl rfl rfl ?_ -- ex3
  refine x_assign rfl rfl rfl rfl ?_
  refine x_assign rfl rfl rfl rfl ?_
  refine x_assign rfl rfl rfl rfl ?_
  refine Ex.done (hK _ _ ?_)
  refine At.then_n ?_
  refine W.seq ?_
  refine W.seq ?_
  refine W.sub [(0, _), (1, _), (3, _), (4, _), (5, _)] ⟨rfl, rfl, rfl, rfl, rfl, trivial⟩ ?_
  refine W.reg [(0, false), (1, false), (2, true), (3, false), (4, false), (5, false), (6, false), (7, false)] (by kernel_rfl) ?_ -- region 1
  intro K hK
  refine x_move rfl rfl rfl rfl ?_
  refine x_move rfl rfl rfl rfl ?_
  -- call2: value path.go:28
  refine x_yld rfl rfl rfl rfl rfl (hY p q w1 hI) ?_
  rintro v w2 ⟨bb, rfl, hb1, hb2⟩
  refine ⟨trivial, ?_⟩
  refine x_not _ rfl rfl rfl rfl rfl ?_ -- un1 path.go:28
  refine x_move rfl rfl rfl rfl ?_
  refine Ex.split 16 rfl (fun hsp1 => ?_) (fun hsp1 => ?_)
  · -- sp1 True
    try simp only [decide_eq_true_eq, decide_eq_false_iff_not, Bool.not_eq_true', Bool.not_eq_false', beq_iff_eq, bne_iff_ne, ne_eq, Bool.not_eq_eq_eq_not, Bool.not_true, Bool.not_false, beq_eq_false_iff_ne, bne_eq_false_iff_eq, Bool.not_not, gt_iff_lt, ge_iff_le] at hsp1
    refine Ex.skip_ rfl rfl rfl ?_
    refine Ex.skip_ rfl rfl rfl ?_
    refine x_pickT rfl rfl rfl rfl rfl ?_
    refine Ex.done (hK _ _ ?_)
    refine At.then_n ?_
    refine W.condT rfl ?_ -- co1
    refine W.ret ?_
    refine At.then_r ?_
    refine At.blk_r ?_
    refine At.loop_r ?_
    refine At.blk_r ?_
    refine At.ret0 rfl ?_ -- ret1
    exact ⟨rfl, .inr (hb2 hsp1)⟩
  · -- sp1 False
    try simp only [decide_eq_true_eq, decide_eq_false_iff_not, Bool.not_eq_true', Bool.not_eq_false', beq_iff_eq, bne_iff_ne, ne_eq, Bool.not_eq_eq_eq_not, Bool.not_true, Bool.not_false, beq_eq_false_iff_ne, bne_eq_false_iff_eq, Bool.not_not, gt_iff_lt, ge_iff_le] at hsp1
    refine x_move rfl rfl rfl rfl ?_
    refine x_not _ rfl rfl rfl rfl rfl ?_ -- un2 path.go:28
    refine x_pickF rfl rfl rfl rfl rfl ?_
    refine Ex.done (hK _ _ ?_)
    refine At.then_n ?_
    refine W.cond rfl (fun hco2 => ?_) (fun hco2 => ?_) -- co2
    · try simp only [decide_eq_true_eq, decide_eq_false_iff_not, Bool.not_eq_true', Bool.not_eq_false', beq_iff_eq, bne_iff_ne, ne_eq, Bool.not_eq_eq_eq_not, Bool.not_true, Bool.not_false, beq_eq_false_iff_ne, bne_eq_false_iff_eq, Bool.not_not, gt_iff_lt, ge_iff_le] at hco2
      have hq0 : q = [] := by simpa using hco2
      subst hq0
      refine W.ret ?_
      refine At.then_r ?_
      refine At.blk_r ?_
      refine At.loop_r ?_
      refine At.blk_r ?_
      refine At.ret0 rfl ?_ -- ret2
      exact ⟨rfl, .inl ⟨_, hb1 (by simpa using hsp1)⟩⟩
    · try simp only [decide_eq_true_eq, decide_eq_false_iff_not, Bool.not_eq_true', Bool.not_eq_false', beq_iff_eq, bne_iff_ne, ne_eq, Bool.not_eq_eq_eq_not, Bool.not_true, Bool.not_false, beq_eq_false_iff_ne, bne_eq_false_iff_eq, Bool.not_not, gt_iff_lt, ge_iff_le] at hco2
      have hq0 : q ≠ [] := by simpa using hco2
      have hI2 := hb1 (by simpa using hsp1)
      have hjl := joinS_len (p := p) hq0
      refine W.skip ?_
      refine At.then_n ?_
      refine W.sub [(0, _), (1, _), (4, _)] ⟨rfl, rfl, rfl, trivial⟩ ?_
      refine W.reg [(0, false), (1, true)] (by kernel_rfl) ?_ -- region 2
      intro K hK
      refine x_move rfl rfl rfl rfl ?_
      refine x_st [_] _ rfl rfl rfl sz9 rfl rfl rfl rfl (hb _ _ _ hI2) rfl rfl rfl ?_ -- st1 path.go:31
      intro wst1 hwst1
      have hI3 := hput _ _ _ _ _ hI2 hwst1
      refine ⟨trivial, ?_⟩
      refine Ex.done (hK _ _ ?_)
      refine At.blk_n ?_
      -- bk1: back to loop1
      exact At.back (joinS q) ⟨rfl, rfl, trivial⟩ ⟨by rw [split_rest hs hq0]; exact hI3, by omega⟩ (by first | omega | (simp only; omega) | (simp; done) | (simp; omega))
end Go.Proofs.Ytkieecaaijlokaa
