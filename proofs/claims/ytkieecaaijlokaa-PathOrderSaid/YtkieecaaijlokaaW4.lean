/-
  The walk of functions, by program: split.
-/
import Derived.Test.YtkieecaaijlokaaW3
namespace Go.Proofs.Ytkieecaaijlokaa
open Go Go.Fw Go.RowKit Go.Proofs
set_option linter.unusedVariables false
set_option linter.unusedSimpArgs false

-- valise/path.Split
set_option maxRecDepth 100000 in
theorem split_c {w0 : World} {p : List UInt8}  : Ret Try.prog 13 #[strV p] w0 fun r w' => ∃ v Lr, r = .tuple #[v, .int .i64 (splitE p)] ∧ Sep w0 Lr w' ∧ StrsO Lr v (splitN p) := by
  have M : Sep w0 [] w0 := St.nil w0
  refine Ret.of_W Try.func13 rfl Try.ntmps13 rfl ?_
  refine W.seq ?_
  refine W.sub [(0, _)] ⟨rfl, trivial⟩ ?_
  refine W.reg [(0, true), (1, true)] (by kernel_rfl) ?_ -- region 0
  intro K hK
  refine x_alloc [_] rfl rfl rfl ze22 rfl ?_ -- al1 path.go:37
  intro bal1 wal1 hbal1 hwal1
  have M := M.acons hbal1 hwal1
  refine ⟨trivial, ?_⟩
  refine x_alloc [_] rfl rfl rfl ze23 rfl ?_ -- al2 path.go:37
  intro bal2 wal2 hbal2 hwal2
  have M := M.acons hbal2 hwal2
  refine ⟨trivial, ?_⟩
  refine Ex.done (hK _ _ ?_)
  refine At.then_n ?_
  refine W.seq ?_
  refine W.seq ?_
  refine W.sub [(0, _), (2, _), (3, _)] ⟨rfl, rfl, rfl, trivial⟩ ?_
  refine W.reg [(0, false), (1, false)] (by kernel_rfl) ?_ -- region 1
  intro K hK
  refine x_move rfl rfl rfl rfl ?_
  refine x_eqS _ rfl rfl rfl rfl rfl rfl ?_ -- eq1 path.go:38
  refine Ex.done (hK _ _ ?_)
  refine At.then_n ?_
  refine W.cond rfl (fun hco1 => ?_) (fun hco1 => ?_) -- co1
  · try simp only [decide_eq_true_eq, decide_eq_false_iff_not, Bool.not_eq_true', Bool.not_eq_false', beq_iff_eq, bne_iff_ne, ne_eq, Bool.not_eq_eq_eq_not, Bool.not_true, Bool.not_false, beq_eq_false_iff_ne, bne_eq_false_iff_eq, Bool.not_not, gt_iff_lt, ge_iff_le] at hco1
    refine W.seq ?_
    refine W.sub [(2, _), (3, _)] ⟨rfl, rfl, trivial⟩ ?_
    refine W.reg [(0, true), (1, true)] (by kernel_rfl) ?_ -- region 2
    intro K hK
    refine x_st [_] _ rfl rfl rfl sz22 rfl rfl rfl rfl (by first | exact M.at_ 0 rfl | exact M.at_ 1 rfl | exact M.at_ 2 rfl | exact M.at_ 3 rfl | exact M.at_ 4 rfl | exact M.at_ 5 rfl | exact M.at_ 6 rfl | exact M.at_ 7 rfl) rfl rfl rfl ?_ -- st1 path.go:39
    intro wst1 hwst1
    have M := by first | exact M.put 0 rfl hwst1 | exact M.put 1 rfl hwst1 | exact M.put 2 rfl hwst1 | exact M.put 3 rfl hwst1 | exact M.put 4 rfl hwst1 | exact M.put 5 rfl hwst1 | exact M.put 6 rfl hwst1 | exact M.put 7 rfl hwst1
    refine ⟨trivial, ?_⟩
    refine x_st [_] _ rfl rfl rfl sz23 rfl rfl rfl rfl (by first | exact M.at_ 0 rfl | exact M.at_ 1 rfl | exact M.at_ 2 rfl | exact M.at_ 3 rfl | exact M.at_ 4 rfl | exact M.at_ 5 rfl | exact M.at_ 6 rfl | exact M.at_ 7 rfl) rfl rfl rfl ?_ -- st2 path.go:39
    intro wst2 hwst2
    have M := by first | exact M.put 0 rfl hwst2 | exact M.put 1 rfl hwst2 | exact M.put 2 rfl hwst2 | exact M.put 3 rfl hwst2 | exact M.put 4 rfl hwst2 | exact M.put 5 rfl hwst2 | exact M.put 6 rfl hwst2 | exact M.put 7 rfl hwst2
    refine ⟨trivial, ?_⟩
    refine Ex.done (hK _ _ ?_)
    refine At.then_n ?_
    refine W.ret ?_
    refine At.then_r ?_
    refine At.ret2 (.cell 2 22) (.cell 3 23) rfl ⟨⟨_, rfl, run_loadVar1 Try.underlying22 rfl (cell_of (by first | exact M.at_ 0 rfl | exact M.at_ 1 rfl | exact M.at_ 2 rfl | exact M.at_ 3 rfl | exact M.at_ 4 rfl | exact M.at_ 5 rfl | exact M.at_ 6 rfl | exact M.at_ 7 rfl) rfl)⟩, ⟨_, rfl, run_loadVar1 Try.underlying23 rfl (cell_of (by first | exact M.at_ 0 rfl | exact M.at_ 1 rfl | exact M.at_ 2 rfl | exact M.at_ 3 rfl | exact M.at_ 4 rfl | exact M.at_ 5 rfl | exact M.at_ 6 rfl | exact M.at_ 7 rfl) rfl)⟩, trivial⟩ ?_ -- ret1
    subst hco1; exact ⟨_, [], rfl, M.frm, OwL.nil⟩
  · try simp only [decide_eq_true_eq, decide_eq_false_iff_not, Bool.not_eq_true', Bool.not_eq_false', beq_iff_eq, bne_iff_ne, ne_eq, Bool.not_eq_eq_eq_not, Bool.not_true, Bool.not_false, beq_eq_false_iff_ne, bne_eq_false_iff_eq, Bool.not_not, gt_iff_lt, ge_iff_le] at hco1
    refine W.skip ?_
    refine At.then_n ?_
    refine W.seq ?_
    refine W.seq ?_
    refine W.sub [(0, _), (2, _), (3, _)] ⟨rfl, rfl, rfl, trivial⟩ ?_
    refine W.reg [(0, false), (1, false), (2, false)] (by kernel_rfl) ?_ -- region 3
    intro K hK
    refine x_move rfl rfl rfl rfl ?_
    refine x_lenS rfl rfl rfl rfl Try.underlying9 rfl ?_
    refine x_gtr _ rfl rfl rfl rfl rfl rfl ?_ -- cm1 path.go:41
    refine Ex.done (hK _ _ ?_)
    refine At.then_n ?_
    refine W.cond rfl (fun hco2 => ?_) (fun hco2 => ?_) -- co2
    · try simp only [decide_eq_true_eq, decide_eq_false_iff_not, Bool.not_eq_true', Bool.not_eq_false', beq_iff_eq, bne_iff_ne, ne_eq, Bool.not_eq_eq_eq_not, Bool.not_true, Bool.not_false, beq_eq_false_iff_ne, bne_eq_false_iff_eq, Bool.not_not, gt_iff_lt, ge_iff_le] at hco2
      refine W.seq ?_
      refine W.sub [(2, _), (3, _)] ⟨rfl, rfl, trivial⟩ ?_
      refine W.reg [(0, true), (1, true)] (by kernel_rfl) ?_ -- region 4
      intro K hK
      refine x_st [_] _ rfl rfl rfl sz22 rfl rfl rfl rfl (by first | exact M.at_ 0 rfl | exact M.at_ 1 rfl | exact M.at_ 2 rfl | exact M.at_ 3 rfl | exact M.at_ 4 rfl | exact M.at_ 5 rfl | exact M.at_ 6 rfl | exact M.at_ 7 rfl) rfl rfl rfl ?_ -- st3 path.go:42
      intro wst3 hwst3
      have M := by first | exact M.put 0 rfl hwst3 | exact M.put 1 rfl hwst3 | exact M.put 2 rfl hwst3 | exact M.put 3 rfl hwst3 | exact M.put 4 rfl hwst3 | exact M.put 5 rfl hwst3 | exact M.put 6 rfl hwst3 | exact M.put 7 rfl hwst3
      refine ⟨trivial, ?_⟩
      refine x_st [_] _ rfl rfl rfl sz23 rfl rfl rfl rfl (by first | exact M.at_ 0 rfl | exact M.at_ 1 rfl | exact M.at_ 2 rfl | exact M.at_ 3 rfl | exact M.at_ 4 rfl | exact M.at_ 5 rfl | exact M.at_ 6 rfl | exact M.at_ 7 rfl) rfl rfl rfl ?_ -- st4 path.go:42
      intro wst4 hwst4
      have M := by first | exact M.put 0 rfl hwst4 | exact M.put 1 rfl hwst4 | exact M.put 2 rfl hwst4 | exact M.put 3 rfl hwst4 | exact M.put 4 rfl hwst4 | exact M.put 5 rfl hwst4 | exact M.put 6 rfl hwst4 | exact M.put 7 rfl hwst4
      refine ⟨trivial, ?_⟩
      refine Ex.done (hK _ _ ?_)
      refine At.then_n ?_
      refine W.ret ?_
      refine At.then_r ?_
      refine At.ret2 (.cell 2 22) (.cell 3 23) rfl ⟨⟨_, rfl, run_loadVar1 Try.underlying22 rfl (cell_of (by first | exact M.at_ 0 rfl | exact M.at_ 1 rfl | exact M.at_ 2 rfl | exact M.at_ 3 rfl | exact M.at_ 4 rfl | exact M.at_ 5 rfl | exact M.at_ 6 rfl | exact M.at_ 7 rfl) rfl)⟩, ⟨_, rfl, run_loadVar1 Try.underlying23 rfl (cell_of (by first | exact M.at_ 0 rfl | exact M.at_ 1 rfl | exact M.at_ 2 rfl | exact M.at_ 3 rfl | exact M.at_ 4 rfl | exact M.at_ 5 rfl | exact M.at_ 6 rfl | exact M.at_ 7 rfl) rfl)⟩, trivial⟩ ?_ -- ret2
      have h := splitE_none (splitP_long (p := p) (by omega)); exact ⟨_, [], by rw [h.1], M.frm, by rw [h.2]; exact OwL.nil⟩
    · try simp only [decide_eq_true_eq, decide_eq_false_iff_not, Bool.not_eq_true', Bool.not_eq_false', beq_iff_eq, bne_iff_ne, ne_eq, Bool.not_eq_eq_eq_not, Bool.not_true, Bool.not_false, beq_eq_false_iff_ne, bne_eq_false_iff_eq, Bool.not_not, gt_iff_lt, ge_iff_le] at hco2
      refine W.skip ?_
      refine At.then_n ?_
      refine W.seq ?_
      refine W.sub [(0, _), (2, _), (3, _)] ⟨rfl, rfl, rfl, trivial⟩ ?_
      refine W.reg [(0, true)] (by kernel_rfl) ?_ -- region 5
      intro K hK
      refine x_alloc [_] rfl rfl rfl ze22 rfl ?_ -- al3 path.go:44
      intro bal3 wal3 hbal3 hwal3
      have M := M.acons hbal3 hwal3
      refine ⟨trivial, ?_⟩
      refine Ex.done (hK _ _ ?_)
      refine At.then_n ?_
      refine W.seq ?_
      refine W.seq ?_
      refine W.sub [(0, _), (2, _), (3, _), (4, _)] ⟨rfl, rfl, rfl, rfl, trivial⟩ ?_
      refine W.reg [(0, false), (1, true)] (by kernel_rfl) ?_ -- region 6
      intro K hK
      refine x_move rfl rfl rfl rfl ?_
      -- call1: valise/path.pieces path.go:45
      refine x_call rfl rfl rfl rfl rfl en30 (pieces_c) ?_
      rintro r wcall1 ⟨bcall1, rfl, Mcall1⟩
      have M := M.grow Mcall1
      refine ⟨trivial, ?_⟩
      refine Ex.done (hK _ _ ?_)
      refine At.then_n ?_
      refine W.block ?_
      refine W.sub [(2, _), (3, _), (4, _), (12, _)] ⟨rfl, rfl, rfl, rfl, trivial⟩ ?_
      refine W.range rfl en40 (fun rr hkt hps has hbdrng1 w2 hw2 => ?_)
      have M := M.range hw2
      refine (pieces_it (I := fun x rest w' => ∃ A ov Lo, splitS p = A ++ rest ∧ A.length ≤ 8 ∧ allOK A ∧ StrsO Lo ov A ∧ Sep w0 ([(bal3, Obj.cells [ov].toArray 22 (0, 0)), (bal2, Obj.cells [Value.int .i64 0].toArray 23 (0, 0)), (bal1, Obj.cells [Value.slice none 0 0].toArray 22 (0, 0)), (bcall1, Obj.cells [strV x].toArray 9 (0, 0)), (wcall1.heap.size, .deferred (some [])), (wcall1.heap.size + 1, .loop { rr with state := .ready, pending := none })] ++ Lo) w') (X := fun w' => ∃ x ov Lo, splitP p = none ∧ Sep w0 ([(bal3, Obj.cells [ov].toArray 22 (0, 0)), (bal2, Obj.cells [Value.int .i64 8].toArray 23 (0, 0)), (bal1, Obj.cells [Value.slice none 0 0].toArray 22 (0, 0)), (bcall1, Obj.cells [strV x].toArray 9 (0, 0)), (wcall1.heap.size, .deferred (some [])), (wcall1.heap.size + 1, .loop { rr with state := .done, pending := some .ret })] ++ Lo) w') (by omega) ?_ ?_ ?_ ?_ ⟨[], _, [], rfl, by simp, by simp [allOK], OwL.nil, by simpa using M⟩).mono ?_
      · rintro x rest w' ⟨A, ov, Lo, hsp, hA8, hAok, how, M⟩
        exact M.at_ 3 rfl
      · rintro x y rest w' w1 ⟨A, ov, Lo, hsp, hA8, hAok, how, M⟩ hw1
        have M := M.put 3 rfl hw1
        exact ⟨A, ov, Lo, hsp, hA8, hAok, how, M⟩
      · rintro x rest w' w1 ⟨A, ov, Lo, hsp, hA8, hAok, how, M⟩ hn
        have M := M.new hn
        exact ⟨A, ov, Lo, hsp, hA8, hAok, how, M⟩
      · rintro n rest w' ⟨A, ov, Lo, hsp, hA8, hAok, how, M⟩
        obtain ⟨p0, cap0, rfl⟩ := how.shape
        refine Yld.one (M.at_ 5 rfl) hkt hps rfl has ?_
        refine W.sub [(2, _), (3, _), (4, _), (13, _)] ⟨rfl, rfl, rfl, rfl, trivial⟩ ?_
        refine W.reg [(0, false)] (by kernel_rfl) ?_ -- region 7
        intro K hK
        refine x_assign rfl rfl rfl rfl ?_
        refine Ex.done (hK _ _ ?_)
        refine At.asg hbdrng1 (M.at_ 5 rfl) ?_
        generalize hwb : World.putObj _ _ _ = wb
        have M := M.put 5 rfl hwb.symm
        refine W.block ?_
        refine W.seq ?_
        refine W.seq ?_
        refine W.sub [(2, _), (3, _), (4, _), (5, _)] ⟨rfl, rfl, rfl, rfl, trivial⟩ ?_
        refine W.reg [(0, false), (1, true), (2, false), (3, false), (4, false), (5, false), (6, false), (7, false)] (by kernel_rfl) ?_ -- region 8
        intro K hK
        refine x_move rfl rfl rfl rfl ?_
        -- call2: valise/path.Name path.go:46
        refine x_call rfl rfl rfl rfl rfl en15 (name_c) ?_
        rintro r wcall2 ⟨rfl, hncall2⟩
        have M := M.new hncall2
        refine ⟨trivial, ?_⟩
        refine x_nei _ rfl rfl rfl rfl rfl rfl ?_ -- eq2 path.go:46
        refine x_move rfl rfl rfl rfl ?_
        refine Ex.split 17 rfl (fun hsp1 => ?_) (fun hsp1 => ?_)
        · -- sp1 True
          try simp only [decide_eq_true_eq, decide_eq_false_iff_not, Bool.not_eq_true', Bool.not_eq_false', beq_iff_eq, bne_iff_ne, ne_eq, Bool.not_eq_eq_eq_not, Bool.not_true, Bool.not_false, beq_eq_false_iff_ne, bne_eq_false_iff_eq, Bool.not_not, gt_iff_lt, ge_iff_le] at hsp1
          refine Ex.skip_ rfl rfl rfl ?_
          refine Ex.skip_ rfl rfl rfl ?_
          refine Ex.skip_ rfl rfl rfl ?_
          refine x_pickT rfl rfl rfl rfl rfl ?_
          refine Ex.done (hK _ _ ?_)
          refine At.then_n ?_
          refine W.condT rfl ?_ -- co3
          refine W.seq ?_
          refine W.sub [(2, _), (3, _)] ⟨rfl, rfl, trivial⟩ ?_
          refine W.reg [(0, true), (1, true)] (by kernel_rfl) ?_ -- region 9
          intro K hK
          refine x_st [_] _ rfl rfl rfl sz22 rfl rfl rfl rfl (by first | exact M.at_ 0 rfl | exact M.at_ 1 rfl | exact M.at_ 2 rfl | exact M.at_ 3 rfl | exact M.at_ 4 rfl | exact M.at_ 5 rfl | exact M.at_ 6 rfl | exact M.at_ 7 rfl) rfl rfl rfl ?_ -- st5 path.go:47
          intro wst5 hwst5
          have M := by first | exact M.put 0 rfl hwst5 | exact M.put 1 rfl hwst5 | exact M.put 2 rfl hwst5 | exact M.put 3 rfl hwst5 | exact M.put 4 rfl hwst5 | exact M.put 5 rfl hwst5 | exact M.put 6 rfl hwst5 | exact M.put 7 rfl hwst5
          refine ⟨trivial, ?_⟩
          refine x_st [_] _ rfl rfl rfl sz23 rfl rfl rfl rfl (by first | exact M.at_ 0 rfl | exact M.at_ 1 rfl | exact M.at_ 2 rfl | exact M.at_ 3 rfl | exact M.at_ 4 rfl | exact M.at_ 5 rfl | exact M.at_ 6 rfl | exact M.at_ 7 rfl) rfl rfl rfl ?_ -- st6 path.go:47
          intro wst6 hwst6
          have M := by first | exact M.put 0 rfl hwst6 | exact M.put 1 rfl hwst6 | exact M.put 2 rfl hwst6 | exact M.put 3 rfl hwst6 | exact M.put 4 rfl hwst6 | exact M.put 5 rfl hwst6 | exact M.put 6 rfl hwst6 | exact M.put 7 rfl hwst6
          refine ⟨trivial, ?_⟩
          refine Ex.done (hK _ _ ?_)
          refine At.then_n ?_
          refine W.ret ?_
          refine At.then_r ?_
          refine At.blk_r ?_
          refine At.rnd_r (by first | exact M.at_ 0 rfl | exact M.at_ 1 rfl | exact M.at_ 2 rfl | exact M.at_ 3 rfl | exact M.at_ 4 rfl | exact M.at_ 5 rfl | exact M.at_ 6 rfl | exact M.at_ 7 rfl) ?_ -- rd1
          generalize hwz : World.putObj _ _ _ = wz
          have M := M.put 5 rfl hwz.symm
          exact ⟨false, rfl, fun h => (by cases h), fun _ => ⟨_, _, Lo, splitP_bad hco1 (fun h => hsp1 (nameP_zero.2 (h.2 n (by rw [hsp]; simp)))), M⟩⟩
        · -- sp1 False
          try simp only [decide_eq_true_eq, decide_eq_false_iff_not, Bool.not_eq_true', Bool.not_eq_false', beq_iff_eq, bne_iff_ne, ne_eq, Bool.not_eq_eq_eq_not, Bool.not_true, Bool.not_false, beq_eq_false_iff_ne, bne_eq_false_iff_eq, Bool.not_not, gt_iff_lt, ge_iff_le] at hsp1
          refine x_ld rfl rfl rfl Try.underlying22 rfl rfl (cell_of (by first | exact M.at_ 0 rfl | exact M.at_ 1 rfl | exact M.at_ 2 rfl | exact M.at_ 3 rfl | exact M.at_ 4 rfl | exact M.at_ 5 rfl | exact M.at_ 6 rfl | exact M.at_ 7 rfl) rfl) ?_ -- ld1 path.go:46
          refine x_len rfl rfl rfl rfl Try.underlying22 rfl ?_
          refine x_eqi _ rfl rfl rfl rfl rfl rfl ?_ -- eq3 path.go:46
          refine x_pickF rfl rfl rfl rfl rfl ?_
          refine Ex.done (hK _ _ ?_)
          refine At.then_n ?_
          refine W.cond rfl (fun hco4 => ?_) (fun hco4 => ?_) -- co4
          · try simp only [decide_eq_true_eq, decide_eq_false_iff_not, Bool.not_eq_true', Bool.not_eq_false', beq_iff_eq, bne_iff_ne, ne_eq, Bool.not_eq_eq_eq_not, Bool.not_true, Bool.not_false, beq_eq_false_iff_ne, bne_eq_false_iff_eq, Bool.not_not, gt_iff_lt, ge_iff_le] at hco4
            refine W.seq ?_
            refine W.sub [(2, _), (3, _)] ⟨rfl, rfl, trivial⟩ ?_
            refine W.reg [(0, true), (1, true)] (by kernel_rfl) ?_ -- region 9
            intro K hK
            refine x_st [_] _ rfl rfl rfl sz22 rfl rfl rfl rfl (by first | exact M.at_ 0 rfl | exact M.at_ 1 rfl | exact M.at_ 2 rfl | exact M.at_ 3 rfl | exact M.at_ 4 rfl | exact M.at_ 5 rfl | exact M.at_ 6 rfl | exact M.at_ 7 rfl) rfl rfl rfl ?_ -- st7 path.go:47
            intro wst7 hwst7
            have M := by first | exact M.put 0 rfl hwst7 | exact M.put 1 rfl hwst7 | exact M.put 2 rfl hwst7 | exact M.put 3 rfl hwst7 | exact M.put 4 rfl hwst7 | exact M.put 5 rfl hwst7 | exact M.put 6 rfl hwst7 | exact M.put 7 rfl hwst7
            refine ⟨trivial, ?_⟩
            refine x_st [_] _ rfl rfl rfl sz23 rfl rfl rfl rfl (by first | exact M.at_ 0 rfl | exact M.at_ 1 rfl | exact M.at_ 2 rfl | exact M.at_ 3 rfl | exact M.at_ 4 rfl | exact M.at_ 5 rfl | exact M.at_ 6 rfl | exact M.at_ 7 rfl) rfl rfl rfl ?_ -- st8 path.go:47
            intro wst8 hwst8
            have M := by first | exact M.put 0 rfl hwst8 | exact M.put 1 rfl hwst8 | exact M.put 2 rfl hwst8 | exact M.put 3 rfl hwst8 | exact M.put 4 rfl hwst8 | exact M.put 5 rfl hwst8 | exact M.put 6 rfl hwst8 | exact M.put 7 rfl hwst8
            refine ⟨trivial, ?_⟩
            refine Ex.done (hK _ _ ?_)
            refine At.then_n ?_
            refine W.ret ?_
            refine At.then_r ?_
            refine At.blk_r ?_
            refine At.rnd_r (by first | exact M.at_ 0 rfl | exact M.at_ 1 rfl | exact M.at_ 2 rfl | exact M.at_ 3 rfl | exact M.at_ 4 rfl | exact M.at_ 5 rfl | exact M.at_ 6 rfl | exact M.at_ 7 rfl) ?_ -- rd2
            generalize hwz : World.putObj _ _ _ = wz
            have M := M.put 5 rfl hwz.symm
            exact ⟨false, rfl, fun h => (by cases h), fun _ => ⟨_, _, Lo, splitP_bad hco1 (fun h => by have := h.1; rw [hsp] at this; simp at this; omega), M⟩⟩
          · try simp only [decide_eq_true_eq, decide_eq_false_iff_not, Bool.not_eq_true', Bool.not_eq_false', beq_iff_eq, bne_iff_ne, ne_eq, Bool.not_eq_eq_eq_not, Bool.not_true, Bool.not_false, beq_eq_false_iff_ne, bne_eq_false_iff_eq, Bool.not_not, gt_iff_lt, ge_iff_le] at hco4
            refine W.skip ?_
            refine At.then_n ?_
            refine W.sub [(4, _), (5, _)] ⟨rfl, rfl, trivial⟩ ?_
            refine W.reg [(0, false), (1, false), (2, true), (3, true), (4, true)] (by kernel_rfl) ?_ -- region 10
            intro K hK
            refine x_ld rfl rfl rfl Try.underlying22 rfl rfl (cell_of (by first | exact M.at_ 0 rfl | exact M.at_ 1 rfl | exact M.at_ 2 rfl | exact M.at_ 3 rfl | exact M.at_ 4 rfl | exact M.at_ 5 rfl | exact M.at_ 6 rfl | exact M.at_ 7 rfl) rfl) ?_ -- ld2 path.go:49
            refine x_move rfl rfl rfl rfl ?_
            -- bs1: path.go:49
            refine x_bs1 (cs := [strV n]) rfl rfl rfl Try.underlying22 sz9 ze9 (Z := [_]) rfl rfl (by decide) (by decide) rfl rfl rfl ?_
            intro bbs1 wbs1 hbbs1 hwbs1
            have M0 := M.acons hbbs1 hwbs1
            have hslbs1 : Sl wbs1 (.slice (some ⟨bbs1, 0, none⟩) 1 1) 1 1 [strV n] := .inr ⟨bbs1, 0, 1, _, _, _, rfl, by omega, M0.at_ 0 rfl, rfl, rfl⟩
            have M := M0.tail
            refine ⟨trivial, ?_⟩
            -- ap1: path.go:49
            refine x_apL rfl rfl rfl rfl Try.underlying22 sz9 ze9 rfl by9 rfl rfl how (M.perm (List.perm_append_comm (l₁ := [_, _, _, _, _, _]) (l₂ := Lo))) (strCs_one _) (hslbs1.src Try.underlying22 (by intro u hu; simp at hu; subst hu; rfl)) (by first | omega | (simp; omega)) (by decide) (by first | omega | (simp; omega)) ?_
            intro Lo v6 wap1 how M
            have M := M.perm List.perm_append_comm
            obtain ⟨p6, cap6, rfl⟩ := how.shape
            refine ⟨trivial, ?_⟩
            refine x_st [_] _ rfl rfl rfl sz22 rfl rfl rfl rfl (by first | exact M.at_ 0 rfl | exact M.at_ 1 rfl | exact M.at_ 2 rfl | exact M.at_ 3 rfl | exact M.at_ 4 rfl | exact M.at_ 5 rfl | exact M.at_ 6 rfl | exact M.at_ 7 rfl) rfl rfl rfl ?_ -- st9 path.go:49
            intro wst9 hwst9
            have M := by first | exact M.put 0 rfl hwst9 | exact M.put 1 rfl hwst9 | exact M.put 2 rfl hwst9 | exact M.put 3 rfl hwst9 | exact M.put 4 rfl hwst9 | exact M.put 5 rfl hwst9 | exact M.put 6 rfl hwst9 | exact M.put 7 rfl hwst9
            refine ⟨trivial, ?_⟩
            refine Ex.done (hK _ _ ?_)
            refine At.blk_n ?_
            refine At.rnd_n (by first | exact M.at_ 0 rfl | exact M.at_ 1 rfl | exact M.at_ 2 rfl | exact M.at_ 3 rfl | exact M.at_ 4 rfl | exact M.at_ 5 rfl | exact M.at_ 6 rfl | exact M.at_ 7 rfl) ?_ -- rd3
            generalize hwz : World.putObj _ _ _ = wz
            have M := M.put 5 rfl hwz.symm
            have hnz : nameOK n := nameP_zero.1 (by simpa using hsp1)
            refine ⟨true, rfl, fun _ => ⟨A ++ [n], _, Lo, by rw [hsp]; simp, by simp; omega, fun x hx => ?_, strsO_snoc how, M⟩, fun h => (by cases h)⟩
            rcases List.mem_append.1 hx with h | h
            · exact hAok x h
            · simp at h; subst h; exact hnz
      · rintro v w3 ⟨rfl, ⟨x, ⟨A, ov, Lo, hsp, hA8, hAok, how, M⟩⟩ | HX⟩
        · refine .inl ⟨.ready, by simp, M.at_ 5 rfl, ?_⟩
          generalize hwx : World.putObj _ _ _ = w4
          have M := M.put 5 rfl hwx.symm
          simp only [List.append_nil] at hsp
          have hgood := splitP_good hco1 (by omega) (by rw [hsp]; exact ⟨hA8, hAok⟩)
          have hE := splitE_some hgood
          obtain ⟨p0, cap0, rfl⟩ := how.shape
          refine At.blk_n ?_
          refine At.then_n ?_
          refine W.seq ?_
          refine W.sub [(2, _), (3, _), (4, _)] ⟨rfl, rfl, rfl, trivial⟩ ?_
          refine W.reg [(0, false), (1, true), (2, true)] (by kernel_rfl) ?_ -- region 11
          intro K hK
          refine x_ld rfl rfl rfl Try.underlying22 rfl rfl (cell_of (by first | exact M.at_ 0 rfl | exact M.at_ 1 rfl | exact M.at_ 2 rfl | exact M.at_ 3 rfl | exact M.at_ 4 rfl | exact M.at_ 5 rfl | exact M.at_ 6 rfl | exact M.at_ 7 rfl) rfl) ?_ -- ld3 path.go:51
          refine x_st [_] _ rfl rfl rfl sz22 rfl rfl rfl rfl (by first | exact M.at_ 0 rfl | exact M.at_ 1 rfl | exact M.at_ 2 rfl | exact M.at_ 3 rfl | exact M.at_ 4 rfl | exact M.at_ 5 rfl | exact M.at_ 6 rfl | exact M.at_ 7 rfl) rfl rfl rfl ?_ -- st10 path.go:51
          intro wst10 hwst10
          have M := by first | exact M.put 0 rfl hwst10 | exact M.put 1 rfl hwst10 | exact M.put 2 rfl hwst10 | exact M.put 3 rfl hwst10 | exact M.put 4 rfl hwst10 | exact M.put 5 rfl hwst10 | exact M.put 6 rfl hwst10 | exact M.put 7 rfl hwst10
          refine ⟨trivial, ?_⟩
          refine x_st [_] _ rfl rfl rfl sz23 rfl rfl rfl rfl (by first | exact M.at_ 0 rfl | exact M.at_ 1 rfl | exact M.at_ 2 rfl | exact M.at_ 3 rfl | exact M.at_ 4 rfl | exact M.at_ 5 rfl | exact M.at_ 6 rfl | exact M.at_ 7 rfl) rfl rfl rfl ?_ -- st11 path.go:51
          intro wst11 hwst11
          have M := by first | exact M.put 0 rfl hwst11 | exact M.put 1 rfl hwst11 | exact M.put 2 rfl hwst11 | exact M.put 3 rfl hwst11 | exact M.put 4 rfl hwst11 | exact M.put 5 rfl hwst11 | exact M.put 6 rfl hwst11 | exact M.put 7 rfl hwst11
          refine ⟨trivial, ?_⟩
          refine Ex.done (hK _ _ ?_)
          refine At.then_n ?_
          refine W.ret ?_
          refine At.mark (M.at_ 4 rfl) ?_
          generalize hwy : World.putObj _ _ _ = w5
          have M := M.put 4 rfl hwy.symm
          refine At.ret2 (.cell 2 22) (.cell 3 23) rfl ⟨⟨_, rfl, run_loadVar1 Try.underlying22 rfl (cell_of (by first | exact M.at_ 0 rfl | exact M.at_ 1 rfl | exact M.at_ 2 rfl | exact M.at_ 3 rfl | exact M.at_ 4 rfl | exact M.at_ 5 rfl | exact M.at_ 6 rfl | exact M.at_ 7 rfl) rfl)⟩, ⟨_, rfl, run_loadVar1 Try.underlying23 rfl (cell_of (by first | exact M.at_ 0 rfl | exact M.at_ 1 rfl | exact M.at_ 2 rfl | exact M.at_ 3 rfl | exact M.at_ 4 rfl | exact M.at_ 5 rfl | exact M.at_ 6 rfl | exact M.at_ 7 rfl) rfl)⟩, trivial⟩ ?_ -- ret3
          rw [hsp] at hE; exact ⟨_, Lo, by rw [hE.1], (M.sub (List.sublist_append_right [_, _, _, _, _, _] Lo)), by rw [hE.2]; exact how⟩
        · obtain ⟨x, ov, Lo, hbad, M⟩ := HX
          have hE := splitE_none hbad
          refine .inr ⟨.done, _, by simp, M.at_ 5 rfl, ?_⟩
          generalize hwx : World.putObj _ _ _ = w4
          have M := M.put 5 rfl hwx.symm
          refine W.ret ?_
          refine At.blk_r ?_
          refine At.then_r ?_
          refine At.mark (M.at_ 4 rfl) ?_
          generalize hwy : World.putObj _ _ _ = w5
          have M := M.put 4 rfl hwy.symm
          refine At.ret2 (.cell 2 22) (.cell 3 23) rfl ⟨⟨_, rfl, run_loadVar1 Try.underlying22 rfl (cell_of (by first | exact M.at_ 0 rfl | exact M.at_ 1 rfl | exact M.at_ 2 rfl | exact M.at_ 3 rfl | exact M.at_ 4 rfl | exact M.at_ 5 rfl | exact M.at_ 6 rfl | exact M.at_ 7 rfl) rfl)⟩, ⟨_, rfl, run_loadVar1 Try.underlying23 rfl (cell_of (by first | exact M.at_ 0 rfl | exact M.at_ 1 rfl | exact M.at_ 2 rfl | exact M.at_ 3 rfl | exact M.at_ 4 rfl | exact M.at_ 5 rfl | exact M.at_ 6 rfl | exact M.at_ 7 rfl) rfl)⟩, trivial⟩ ?_ -- ret4
          exact ⟨_, [], by rw [hE.1], M.frm, by rw [hE.2]; exact OwL.nil⟩
end Go.Proofs.Ytkieecaaijlokaa
