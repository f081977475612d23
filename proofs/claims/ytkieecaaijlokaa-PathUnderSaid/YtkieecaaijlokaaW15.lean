/-
  The walk of functions, by program: pathBack, pathAgain, pathOrder, pathUnder, pathSteps.
-/
import Derived.Test.YtkieecaaijlokaaW13
import Derived.Test.YtkieecaaijlokaaP5
namespace Go.Proofs.Ytkieecaaijlokaa
open Go Go.Fw Go.RowKit Go.Proofs
set_option linter.unusedVariables false
set_option linter.unusedSimpArgs false

-- valise/valiselaw13.PathBack
set_option maxRecDepth 100000 in
theorem pathBack_law {w0 : World} {p : List UInt8} {v : Value} {l : List (List UInt8)} (h : StrsAt w0 v l) : Ret Try.prog 8 #[strV p, v] w0 fun r w' => r = .bool true ∧ New w0 w' := by
  have M : Sep w0 [] w0 := St.nil w0
  obtain ⟨pv, capv, rfl⟩ := h.shape
  refine Ret.of_W Try.func8 rfl Try.ntmps8 rfl ?_
  refine W.seq ?_
  refine W.sub [(0, _), (1, _)] ⟨rfl, rfl, trivial⟩ ?_
  refine W.reg [(0, false)] (by kernel_rfl) ?_ -- region 0
  intro K hK
  refine x_assign rfl rfl rfl rfl ?_
  refine Ex.done (hK _ _ ?_)
  refine At.then_n ?_
  refine W.seq ?_
  refine W.sub [(0, _), (1, _)] ⟨rfl, rfl, trivial⟩ ?_
  refine W.reg [(0, false), (1, true), (2, false), (3, false), (4, false), (5, false), (6, false)] (by kernel_rfl) ?_ -- region 1
  intro K hK
  refine x_move rfl rfl rfl rfl ?_
  -- call1: valise/path.Split outright.go:11
  refine x_call rfl rfl rfl rfl rfl en13 (split_c) ?_
  rintro r w1 ⟨v1, L1, rfl, ML1, hs1⟩
  have M := M.grow ML1
  refine ⟨trivial, ?_⟩
  refine x_move rfl rfl rfl rfl ?_
  refine x_ext rfl rfl rfl rfl rfl ?_ -- ex1
  refine x_ext rfl rfl rfl rfl rfl ?_ -- ex2
  refine x_assign rfl rfl rfl rfl ?_
  refine x_assign rfl rfl rfl rfl ?_
  refine Ex.done (hK _ _ ?_)
  refine At.then_n ?_
  refine W.seq ?_
  refine W.seq ?_
  refine W.sub [(0, _), (1, _), (5, _), (6, _)] ⟨rfl, rfl, rfl, rfl, trivial⟩ ?_
  refine W.reg [(0, false), (1, false)] (by kernel_rfl) ?_ -- region 2
  intro K hK
  refine x_move rfl rfl rfl rfl ?_
  refine x_eqi _ rfl rfl rfl rfl rfl rfl ?_ -- eq1 outright.go:12
  refine Ex.done (hK _ _ ?_)
  refine At.then_n ?_
  refine W.cond rfl (fun hco1 => ?_) (fun hco1 => ?_) -- co1
  · try simp only [decide_eq_true_eq, decide_eq_false_iff_not, Bool.not_eq_true', Bool.not_eq_false', beq_iff_eq, bne_iff_ne, ne_eq, Bool.not_eq_eq_eq_not, Bool.not_true, Bool.not_false, beq_eq_false_iff_ne, bne_eq_false_iff_eq, Bool.not_not, gt_iff_lt, ge_iff_le] at hco1
    have hjs := join_split hco1
    refine W.seq ?_
    refine W.sub [(0, _), (1, _), (5, _)] ⟨rfl, rfl, rfl, trivial⟩ ?_
    refine W.reg [(0, false), (1, true), (2, false), (3, false), (4, false), (5, false), (6, false)] (by kernel_rfl) ?_ -- region 3
    intro K hK
    refine x_move rfl rfl rfl rfl ?_
    -- call2: valise/path.Join outright.go:13
    refine x_call rfl rfl rfl rfl rfl en19 (pjoin_c (strsO_at hs1 M (fun _ h => h))) ?_
    rintro r w2 ⟨rfl, hn2⟩
    have M := M.new hn2
    refine ⟨trivial, ?_⟩
    refine x_move rfl rfl rfl rfl ?_
    refine x_ext rfl rfl rfl rfl rfl ?_ -- ex3
    refine x_ext rfl rfl rfl rfl rfl ?_ -- ex4
    refine x_assign rfl rfl rfl rfl ?_
    refine x_assign rfl rfl rfl rfl ?_
    refine Ex.done (hK _ _ ?_)
    refine At.then_n ?_
    refine W.seq ?_
    refine W.sub [(0, _), (1, _), (7, _), (8, _)] ⟨rfl, rfl, rfl, rfl, trivial⟩ ?_
    refine W.reg [(0, false), (1, false), (2, false), (3, false), (4, false), (5, false), (6, false)] (by kernel_rfl) ?_ -- region 4
    intro K hK
    refine x_move rfl rfl rfl rfl ?_
    refine x_move rfl rfl rfl rfl ?_
    refine x_neS false rfl rfl rfl rfl rfl (by simp [hjs.1]) ?_ -- eq2 outright.go:14
    refine x_move rfl rfl rfl rfl ?_
    refine x_move rfl rfl rfl rfl ?_
    refine x_nei false rfl rfl rfl rfl rfl (by simp [hjs.2]) ?_ -- eq3 outright.go:14
    refine x_pickF rfl rfl rfl rfl rfl ?_
    refine Ex.done (hK _ _ ?_)
    refine At.then_n ?_
    refine W.condF rfl ?_ -- co2
    refine W.skip ?_
    refine At.then_n ?_
    refine W.seq ?_
    refine W.seq ?_
    refine W.sub [(1, _)] ⟨rfl, trivial⟩ ?_
    refine W.reg [(0, false), (1, false), (2, false)] (by kernel_rfl) ?_ -- region 6
    intro K hK
    refine x_move rfl rfl rfl rfl ?_
    refine x_len rfl rfl rfl rfl Try.underlying22 rfl ?_
    refine x_gtr _ rfl rfl rfl rfl rfl rfl ?_ -- cm1 outright.go:18
    refine Ex.done (hK _ _ ?_)
    refine At.then_n ?_
    refine W.cond rfl (fun hco3 => ?_) (fun hco3 => ?_) -- co3
    · try simp only [decide_eq_true_eq, decide_eq_false_iff_not, Bool.not_eq_true', Bool.not_eq_false', beq_iff_eq, bne_iff_ne, ne_eq, Bool.not_eq_eq_eq_not, Bool.not_true, Bool.not_false, beq_eq_false_iff_ne, bne_eq_false_iff_eq, Bool.not_not, gt_iff_lt, ge_iff_le] at hco3
      refine W.seq ?_
      refine W.sub [] trivial ?_
      refine W.reg [(0, true), (1, false)] (by kernel_rfl) ?_ -- region 7
      intro K hK
      -- call3: valise/valiselaw13.lives outright.go:19
      refine x_call rfl rfl rfl rfl rfl en18 (lives_c) ?_
      rintro r wcall3 ⟨rfl, hncall3⟩
      have M := M.new hncall3
      refine ⟨trivial, ?_⟩
      refine x_assign rfl rfl rfl rfl ?_
      refine Ex.done (hK _ _ ?_)
      refine At.then_n ?_
      refine W.ret ?_
      refine At.then_r ?_
      refine At.ret1 (.tmp 4) rfl ⟨rfl, trivial⟩ ?_ -- ret1
      exact ⟨rfl, M.frm⟩
    · try simp only [decide_eq_true_eq, decide_eq_false_iff_not, Bool.not_eq_true', Bool.not_eq_false', beq_iff_eq, bne_iff_ne, ne_eq, Bool.not_eq_eq_eq_not, Bool.not_true, Bool.not_false, beq_eq_false_iff_ne, bne_eq_false_iff_eq, Bool.not_not, gt_iff_lt, ge_iff_le] at hco3
      refine W.skip ?_
      refine At.then_n ?_
      refine W.seq ?_
      refine W.sub [(1, _)] ⟨rfl, trivial⟩ ?_
      refine W.reg [(0, false), (1, true), (2, false), (3, false), (4, false), (5, false), (6, false)] (by kernel_rfl) ?_ -- region 8
      intro K hK
      refine x_move rfl rfl rfl rfl ?_
      -- call4: valise/path.Join outright.go:21
      refine x_call rfl rfl rfl rfl rfl en19 (pjoin_c (h.new M.frm)) ?_
      rintro r wj ⟨rfl, hnj⟩
      have M := M.new hnj
      refine ⟨trivial, ?_⟩
      refine x_move rfl rfl rfl rfl ?_
      refine x_ext rfl rfl rfl rfl rfl ?_ -- ex5
      refine x_ext rfl rfl rfl rfl rfl ?_ -- ex6
      refine x_assign rfl rfl rfl rfl ?_
      refine x_assign rfl rfl rfl rfl ?_
      refine Ex.done (hK _ _ ?_)
      refine At.then_n ?_
      refine W.seq ?_
      refine W.seq ?_
      refine W.sub [(1, _), (9, _), (10, _)] ⟨rfl, rfl, rfl, trivial⟩ ?_
      refine W.reg [(0, false), (1, false)] (by kernel_rfl) ?_ -- region 9
      intro K hK
      refine x_move rfl rfl rfl rfl ?_
      refine x_nei _ rfl rfl rfl rfl rfl rfl ?_ -- eq4 outright.go:22
      refine Ex.done (hK _ _ ?_)
      refine At.then_n ?_
      refine W.cond rfl (fun hco4 => ?_) (fun hco4 => ?_) -- co4
      · try simp only [decide_eq_true_eq, decide_eq_false_iff_not, Bool.not_eq_true', Bool.not_eq_false', beq_iff_eq, bne_iff_ne, ne_eq, Bool.not_eq_eq_eq_not, Bool.not_true, Bool.not_false, beq_eq_false_iff_ne, bne_eq_false_iff_eq, Bool.not_not, gt_iff_lt, ge_iff_le] at hco4
        have hjb := joinE_bad hco4
        refine W.seq ?_
        refine W.sub [(9, _), (10, _)] ⟨rfl, rfl, trivial⟩ ?_
        refine W.reg [(0, false), (1, false), (2, false), (3, false), (4, false), (5, false), (6, false), (7, true), (8, false), (9, false)] (by kernel_rfl) ?_ -- region 10
        intro K hK
        refine x_move rfl rfl rfl rfl ?_
        refine x_eqS true rfl rfl rfl rfl rfl (by simp [hjb.2]) ?_ -- eq5 outright.go:23
        refine x_move rfl rfl rfl rfl ?_
        refine x_move rfl rfl rfl rfl ?_
        refine x_eqi true rfl rfl rfl rfl rfl (by simp [hjb.1]) ?_ -- eq6 outright.go:23
        refine x_pickT rfl rfl rfl rfl rfl ?_
        refine x_move rfl rfl rfl rfl ?_
        -- call5: valise/valiselaw13.lives outright.go:23
        refine x_call rfl rfl rfl rfl rfl en18 (lives_c) ?_
        rintro r wcall5 ⟨rfl, hncall5⟩
        have M := M.new hncall5
        refine ⟨trivial, ?_⟩
        refine x_pickT rfl rfl rfl rfl rfl ?_
        refine x_assign rfl rfl rfl rfl ?_
        refine Ex.done (hK _ _ ?_)
        refine At.then_n ?_
        refine W.ret ?_
        refine At.then_r ?_
        refine At.ret1 (.tmp 4) rfl ⟨rfl, trivial⟩ ?_ -- ret2
        exact ⟨rfl, M.frm⟩
      · try simp only [decide_eq_true_eq, decide_eq_false_iff_not, Bool.not_eq_true', Bool.not_eq_false', beq_iff_eq, bne_iff_ne, ne_eq, Bool.not_eq_eq_eq_not, Bool.not_true, Bool.not_false, beq_eq_false_iff_ne, bne_eq_false_iff_eq, Bool.not_not, gt_iff_lt, ge_iff_le] at hco4
        have hsj := split_join hco4
        refine W.skip ?_
        refine At.then_n ?_
        refine W.seq ?_
        refine W.sub [(1, _), (9, _)] ⟨rfl, rfl, trivial⟩ ?_
        refine W.reg [(0, false), (1, true), (2, false), (3, false), (4, false), (5, false), (6, false)] (by kernel_rfl) ?_ -- region 11
        intro K hK
        refine x_move rfl rfl rfl rfl ?_
        -- call6: valise/path.Split outright.go:25
        refine x_call rfl rfl rfl rfl rfl en13 (split_c) ?_
        rintro r ws ⟨vs, Ls, rfl, MLs, hss⟩
        have M := M.grow MLs
        rw [hsj.2] at hss
        refine ⟨trivial, ?_⟩
        refine x_move rfl rfl rfl rfl ?_
        refine x_ext rfl rfl rfl rfl rfl ?_ -- ex7
        refine x_ext rfl rfl rfl rfl rfl ?_ -- ex8
        refine x_assign rfl rfl rfl rfl ?_
        refine x_assign rfl rfl rfl rfl ?_
        refine Ex.done (hK _ _ ?_)
        refine At.then_n ?_
        refine W.seq ?_
        refine W.sub [(1, _), (11, _), (12, _)] ⟨rfl, rfl, rfl, trivial⟩ ?_
        refine W.reg [(0, false), (1, false), (2, false), (3, false), (4, false), (5, true), (6, false), (7, false), (8, true), (9, false), (10, false)] (by kernel_rfl) ?_ -- region 12
        intro K hK
        refine x_move rfl rfl rfl rfl ?_
        refine x_eqi true rfl rfl rfl rfl rfl (by simp [hsj.1]) ?_ -- eq7 outright.go:26
        refine x_move rfl rfl rfl rfl ?_
        refine x_move rfl rfl rfl rfl ?_
        refine x_move rfl rfl rfl rfl ?_
        -- call7: valise/valiseref13.Same outright.go:26
        refine x_call rfl rfl rfl rfl rfl en17 (same_c (strsO_at hss M (fun _ h => List.mem_append_right _ h)) (h.new M.frm) (by omega)) ?_
        rintro r wm ⟨rfl, hnm⟩
        have M := M.new hnm
        rw [decide_eq_true (rfl : l = l)]
        refine ⟨trivial, ?_⟩
        refine x_pickT rfl rfl rfl rfl rfl ?_
        refine x_move rfl rfl rfl rfl ?_
        -- call8: valise/valiselaw13.lives outright.go:26
        refine x_call rfl rfl rfl rfl rfl en18 (lives_c) ?_
        rintro r wcall8 ⟨rfl, hncall8⟩
        have M := M.new hncall8
        refine ⟨trivial, ?_⟩
        refine x_pickT rfl rfl rfl rfl rfl ?_
        refine x_assign rfl rfl rfl rfl ?_
        refine Ex.done (hK _ _ ?_)
        refine At.then_n ?_
        refine W.ret ?_
        refine At.ret1 (.tmp 4) rfl ⟨rfl, trivial⟩ ?_ -- ret3
        exact ⟨rfl, M.frm⟩
  · try simp only [decide_eq_true_eq, decide_eq_false_iff_not, Bool.not_eq_true', Bool.not_eq_false', beq_iff_eq, bne_iff_ne, ne_eq, Bool.not_eq_eq_eq_not, Bool.not_true, Bool.not_false, beq_eq_false_iff_ne, bne_eq_false_iff_eq, Bool.not_not, gt_iff_lt, ge_iff_le] at hco1
    refine W.skip ?_
    refine At.then_n ?_
    refine W.seq ?_
    refine W.seq ?_
    refine W.sub [(1, _)] ⟨rfl, trivial⟩ ?_
    refine W.reg [(0, false), (1, false), (2, false)] (by kernel_rfl) ?_ -- region 6
    intro K hK
    refine x_move rfl rfl rfl rfl ?_
    refine x_len rfl rfl rfl rfl Try.underlying22 rfl ?_
    refine x_gtr _ rfl rfl rfl rfl rfl rfl ?_ -- cm2 outright.go:18
    refine Ex.done (hK _ _ ?_)
    refine At.then_n ?_
    refine W.cond rfl (fun hco5 => ?_) (fun hco5 => ?_) -- co5
    · try simp only [decide_eq_true_eq, decide_eq_false_iff_not, Bool.not_eq_true', Bool.not_eq_false', beq_iff_eq, bne_iff_ne, ne_eq, Bool.not_eq_eq_eq_not, Bool.not_true, Bool.not_false, beq_eq_false_iff_ne, bne_eq_false_iff_eq, Bool.not_not, gt_iff_lt, ge_iff_le] at hco5
      refine W.seq ?_
      refine W.sub [] trivial ?_
      refine W.reg [(0, true), (1, false)] (by kernel_rfl) ?_ -- region 7
      intro K hK
      -- call9: valise/valiselaw13.lives outright.go:19
      refine x_call rfl rfl rfl rfl rfl en18 (lives_c) ?_
      rintro r wcall9 ⟨rfl, hncall9⟩
      have M := M.new hncall9
      refine ⟨trivial, ?_⟩
      refine x_assign rfl rfl rfl rfl ?_
      refine Ex.done (hK _ _ ?_)
      refine At.then_n ?_
      refine W.ret ?_
      refine At.then_r ?_
      refine At.ret1 (.tmp 4) rfl ⟨rfl, trivial⟩ ?_ -- ret4
      exact ⟨rfl, M.frm⟩
    · try simp only [decide_eq_true_eq, decide_eq_false_iff_not, Bool.not_eq_true', Bool.not_eq_false', beq_iff_eq, bne_iff_ne, ne_eq, Bool.not_eq_eq_eq_not, Bool.not_true, Bool.not_false, beq_eq_false_iff_ne, bne_eq_false_iff_eq, Bool.not_not, gt_iff_lt, ge_iff_le] at hco5
      refine W.skip ?_
      refine At.then_n ?_
      refine W.seq ?_
      refine W.sub [(1, _)] ⟨rfl, trivial⟩ ?_
      refine W.reg [(0, false), (1, true), (2, false), (3, false), (4, false), (5, false), (6, false)] (by kernel_rfl) ?_ -- region 8
      intro K hK
      refine x_move rfl rfl rfl rfl ?_
      -- call10: valise/path.Join outright.go:21
      refine x_call rfl rfl rfl rfl rfl en19 (pjoin_c (h.new M.frm)) ?_
      rintro r wj ⟨rfl, hnj⟩
      have M := M.new hnj
      refine ⟨trivial, ?_⟩
      refine x_move rfl rfl rfl rfl ?_
      refine x_ext rfl rfl rfl rfl rfl ?_ -- ex9
      refine x_ext rfl rfl rfl rfl rfl ?_ -- ex10
      refine x_assign rfl rfl rfl rfl ?_
      refine x_assign rfl rfl rfl rfl ?_
      refine Ex.done (hK _ _ ?_)
      refine At.then_n ?_
      refine W.seq ?_
      refine W.seq ?_
      refine W.sub [(1, _), (9, _), (10, _)] ⟨rfl, rfl, rfl, trivial⟩ ?_
      refine W.reg [(0, false), (1, false)] (by kernel_rfl) ?_ -- region 9
      intro K hK
      refine x_move rfl rfl rfl rfl ?_
      refine x_nei _ rfl rfl rfl rfl rfl rfl ?_ -- eq8 outright.go:22
      refine Ex.done (hK _ _ ?_)
      refine At.then_n ?_
      refine W.cond rfl (fun hco6 => ?_) (fun hco6 => ?_) -- co6
      · try simp only [decide_eq_true_eq, decide_eq_false_iff_not, Bool.not_eq_true', Bool.not_eq_false', beq_iff_eq, bne_iff_ne, ne_eq, Bool.not_eq_eq_eq_not, Bool.not_true, Bool.not_false, beq_eq_false_iff_ne, bne_eq_false_iff_eq, Bool.not_not, gt_iff_lt, ge_iff_le] at hco6
        have hjb := joinE_bad hco6
        refine W.seq ?_
        refine W.sub [(9, _), (10, _)] ⟨rfl, rfl, trivial⟩ ?_
        refine W.reg [(0, false), (1, false), (2, false), (3, false), (4, false), (5, false), (6, false), (7, true), (8, false), (9, false)] (by kernel_rfl) ?_ -- region 10
        intro K hK
        refine x_move rfl rfl rfl rfl ?_
        refine x_eqS true rfl rfl rfl rfl rfl (by simp [hjb.2]) ?_ -- eq9 outright.go:23
        refine x_move rfl rfl rfl rfl ?_
        refine x_move rfl rfl rfl rfl ?_
        refine x_eqi true rfl rfl rfl rfl rfl (by simp [hjb.1]) ?_ -- eq10 outright.go:23
        refine x_pickT rfl rfl rfl rfl rfl ?_
        refine x_move rfl rfl rfl rfl ?_
        -- call11: valise/valiselaw13.lives outright.go:23
        refine x_call rfl rfl rfl rfl rfl en18 (lives_c) ?_
        rintro r wcall11 ⟨rfl, hncall11⟩
        have M := M.new hncall11
        refine ⟨trivial, ?_⟩
        refine x_pickT rfl rfl rfl rfl rfl ?_
        refine x_assign rfl rfl rfl rfl ?_
        refine Ex.done (hK _ _ ?_)
        refine At.then_n ?_
        refine W.ret ?_
        refine At.then_r ?_
        refine At.ret1 (.tmp 4) rfl ⟨rfl, trivial⟩ ?_ -- ret5
        exact ⟨rfl, M.frm⟩
      · try simp only [decide_eq_true_eq, decide_eq_false_iff_not, Bool.not_eq_true', Bool.not_eq_false', beq_iff_eq, bne_iff_ne, ne_eq, Bool.not_eq_eq_eq_not, Bool.not_true, Bool.not_false, beq_eq_false_iff_ne, bne_eq_false_iff_eq, Bool.not_not, gt_iff_lt, ge_iff_le] at hco6
        have hsj := split_join hco6
        refine W.skip ?_
        refine At.then_n ?_
        refine W.seq ?_
        refine W.sub [(1, _), (9, _)] ⟨rfl, rfl, trivial⟩ ?_
        refine W.reg [(0, false), (1, true), (2, false), (3, false), (4, false), (5, false), (6, false)] (by kernel_rfl) ?_ -- region 11
        intro K hK
        refine x_move rfl rfl rfl rfl ?_
        -- call12: valise/path.Split outright.go:25
        refine x_call rfl rfl rfl rfl rfl en13 (split_c) ?_
        rintro r ws ⟨vs, Ls, rfl, MLs, hss⟩
        have M := M.grow MLs
        rw [hsj.2] at hss
        refine ⟨trivial, ?_⟩
        refine x_move rfl rfl rfl rfl ?_
        refine x_ext rfl rfl rfl rfl rfl ?_ -- ex11
        refine x_ext rfl rfl rfl rfl rfl ?_ -- ex12
        refine x_assign rfl rfl rfl rfl ?_
        refine x_assign rfl rfl rfl rfl ?_
        refine Ex.done (hK _ _ ?_)
        refine At.then_n ?_
        refine W.seq ?_
        refine W.sub [(1, _), (11, _), (12, _)] ⟨rfl, rfl, rfl, trivial⟩ ?_
        refine W.reg [(0, false), (1, false), (2, false), (3, false), (4, false), (5, true), (6, false), (7, false), (8, true), (9, false), (10, false)] (by kernel_rfl) ?_ -- region 12
        intro K hK
        refine x_move rfl rfl rfl rfl ?_
        refine x_eqi true rfl rfl rfl rfl rfl (by simp [hsj.1]) ?_ -- eq11 outright.go:26
        refine x_move rfl rfl rfl rfl ?_
        refine x_move rfl rfl rfl rfl ?_
        refine x_move rfl rfl rfl rfl ?_
        -- call13: valise/valiseref13.Same outright.go:26
        refine x_call rfl rfl rfl rfl rfl en17 (same_c (strsO_at hss M (fun _ h => List.mem_append_right _ h)) (h.new M.frm) (by omega)) ?_
        rintro r wm ⟨rfl, hnm⟩
        have M := M.new hnm
        rw [decide_eq_true (rfl : l = l)]
        refine ⟨trivial, ?_⟩
        refine x_pickT rfl rfl rfl rfl rfl ?_
        refine x_move rfl rfl rfl rfl ?_
        -- call14: valise/valiselaw13.lives outright.go:26
        refine x_call rfl rfl rfl rfl rfl en18 (lives_c) ?_
        rintro r wcall14 ⟨rfl, hncall14⟩
        have M := M.new hncall14
        refine ⟨trivial, ?_⟩
        refine x_pickT rfl rfl rfl rfl rfl ?_
        refine x_assign rfl rfl rfl rfl ?_
        refine Ex.done (hK _ _ ?_)
        refine At.then_n ?_
        refine W.ret ?_
        refine At.ret1 (.tmp 4) rfl ⟨rfl, trivial⟩ ?_ -- ret6
        exact ⟨rfl, M.frm⟩

-- valise/valiselaw13.PathAgain
set_option maxRecDepth 100000 in
theorem pathAgain_law {w0 : World} {s : List UInt8}  : Ret Try.prog 9 #[strV s] w0 fun r w' => r = .bool true ∧ New w0 w' := by
  have M : Sep w0 [] w0 := St.nil w0
  refine Ret.of_W Try.func9 rfl Try.ntmps9 rfl ?_
  refine W.seq ?_
  refine W.sub [(0, _)] ⟨rfl, trivial⟩ ?_
  refine W.reg [(0, false)] (by kernel_rfl) ?_ -- region 0
  intro K hK
  refine x_assign rfl rfl rfl rfl ?_
  refine Ex.done (hK _ _ ?_)
  refine At.then_n ?_
  refine W.seq ?_
  refine W.sub [(0, _)] ⟨rfl, trivial⟩ ?_
  refine W.reg [(0, false), (1, true), (2, false), (3, false), (4, false), (5, false), (6, false)] (by kernel_rfl) ?_ -- region 1
  intro K hK
  refine x_move rfl rfl rfl rfl ?_
  -- call1: valise/path.Clean outright.go:31
  refine x_call rfl rfl rfl rfl rfl en21 (clean_c) ?_
  rintro r wcall1 ⟨rfl, hncall1⟩
  have M := M.new hncall1
  refine ⟨trivial, ?_⟩
  refine x_move rfl rfl rfl rfl ?_
  refine x_ext rfl rfl rfl rfl rfl ?_ -- ex1
  refine x_ext rfl rfl rfl rfl rfl ?_ -- ex2
  refine x_assign rfl rfl rfl rfl ?_
  refine x_assign rfl rfl rfl rfl ?_
  refine Ex.done (hK _ _ ?_)
  refine At.then_n ?_
  refine W.seq ?_
  refine W.seq ?_
  refine W.sub [(3, _), (4, _)] ⟨rfl, rfl, trivial⟩ ?_
  refine W.reg [(0, false), (1, false)] (by kernel_rfl) ?_ -- region 2
  intro K hK
  refine x_move rfl rfl rfl rfl ?_
  refine x_nei _ rfl rfl rfl rfl rfl rfl ?_ -- eq1 outright.go:32
  refine Ex.done (hK _ _ ?_)
  refine At.then_n ?_
  refine W.cond rfl (fun hco1 => ?_) (fun hco1 => ?_) -- co1
  · try simp only [decide_eq_true_eq, decide_eq_false_iff_not, Bool.not_eq_true', Bool.not_eq_false', beq_iff_eq, bne_iff_ne, ne_eq, Bool.not_eq_eq_eq_not, Bool.not_true, Bool.not_false, beq_eq_false_iff_ne, bne_eq_false_iff_eq, Bool.not_not, gt_iff_lt, ge_iff_le] at hco1
    have hb := clean_bad hco1
    refine W.seq ?_
    refine W.sub [(3, _)] ⟨rfl, trivial⟩ ?_
    refine W.reg [(0, false), (1, false), (2, false), (3, true), (4, false), (5, false)] (by kernel_rfl) ?_ -- region 3
    intro K hK
    refine x_move rfl rfl rfl rfl ?_
    refine x_eqS true rfl rfl rfl rfl rfl (by simp [hb]) ?_ -- eq2 outright.go:33
    refine x_move rfl rfl rfl rfl ?_
    -- call2: valise/valiselaw13.lives outright.go:33
    refine x_call rfl rfl rfl rfl rfl en18 (lives_c) ?_
    rintro r wcall2 ⟨rfl, hncall2⟩
    have M := M.new hncall2
    refine ⟨trivial, ?_⟩
    refine x_pickT rfl rfl rfl rfl rfl ?_
    refine x_assign rfl rfl rfl rfl ?_
    refine Ex.done (hK _ _ ?_)
    refine At.then_n ?_
    refine W.ret ?_
    refine At.then_r ?_
    refine At.ret1 (.tmp 2) rfl ⟨rfl, trivial⟩ ?_ -- ret1
    exact ⟨rfl, M.frm⟩
  · try simp only [decide_eq_true_eq, decide_eq_false_iff_not, Bool.not_eq_true', Bool.not_eq_false', beq_iff_eq, bne_iff_ne, ne_eq, Bool.not_eq_eq_eq_not, Bool.not_true, Bool.not_false, beq_eq_false_iff_ne, bne_eq_false_iff_eq, Bool.not_not, gt_iff_lt, ge_iff_le] at hco1
    obtain ⟨l, h1, h2, h3, hp⟩ := clean_ok hco1
    rw [hp]
    have hsj := splitN_join h1 h2 h3
    refine W.skip ?_
    refine At.then_n ?_
    refine W.seq ?_
    refine W.sub [(3, _)] ⟨rfl, trivial⟩ ?_
    refine W.reg [(0, false), (1, true), (2, false), (3, false), (4, false), (5, false), (6, false)] (by kernel_rfl) ?_ -- region 4
    intro K hK
    refine x_move rfl rfl rfl rfl ?_
    -- call3: valise/path.Split outright.go:35
    refine x_call rfl rfl rfl rfl rfl en13 (split_c) ?_
    rintro r wcall3 ⟨vcall3, Lcall3, rfl, Mcall3, hscall3⟩
    have M := M.grow Mcall3
    refine ⟨trivial, ?_⟩
    refine x_move rfl rfl rfl rfl ?_
    refine x_ext rfl rfl rfl rfl rfl ?_ -- ex3
    refine x_ext rfl rfl rfl rfl rfl ?_ -- ex4
    refine x_assign rfl rfl rfl rfl ?_
    refine x_assign rfl rfl rfl rfl ?_
    refine Ex.done (hK _ _ ?_)
    refine At.then_n ?_
    refine W.seq ?_
    refine W.sub [(3, _), (6, _)] ⟨rfl, rfl, trivial⟩ ?_
    refine W.reg [(0, false), (1, true), (2, false), (3, false), (4, false), (5, false), (6, false)] (by kernel_rfl) ?_ -- region 5
    intro K hK
    refine x_move rfl rfl rfl rfl ?_
    -- call4: valise/path.Clean outright.go:36
    refine x_call rfl rfl rfl rfl rfl en21 (clean_c) ?_
    rintro r w4 ⟨rfl, hn4⟩
    have M := M.new hn4
    rw [clean_clean h1 h2 h3]
    refine ⟨trivial, ?_⟩
    refine x_move rfl rfl rfl rfl ?_
    refine x_ext rfl rfl rfl rfl rfl ?_ -- ex5
    refine x_ext rfl rfl rfl rfl rfl ?_ -- ex6
    refine x_assign rfl rfl rfl rfl ?_
    refine x_assign rfl rfl rfl rfl ?_
    refine Ex.done (hK _ _ ?_)
    refine At.then_n ?_
    refine W.seq ?_
    refine W.sub [(3, _), (6, _), (7, _), (8, _)] ⟨rfl, rfl, rfl, rfl, trivial⟩ ?_
    refine W.reg [(0, false), (1, false), (2, false), (3, true), (4, false), (5, false), (6, false), (7, false), (8, false)] (by kernel_rfl) ?_ -- region 6
    intro K hK
    refine x_move rfl rfl rfl rfl ?_
    refine x_catS rfl rfl rfl rfl rfl (by simp; omega) ?_ -- ar1 outright.go:37
    refine x_catS rfl rfl rfl rfl rfl (by simp; omega) ?_ -- ar2 outright.go:37
    -- call5: valise/path.Clean outright.go:37
    refine x_call rfl rfl rfl rfl rfl en21 (clean_c) ?_
    rintro r w5 ⟨rfl, hn5⟩
    have M := M.new hn5
    rw [clean_about h1 h2 h3]
    refine ⟨trivial, ?_⟩
    refine x_move rfl rfl rfl rfl ?_
    refine x_ext rfl rfl rfl rfl rfl ?_ -- ex7
    refine x_ext rfl rfl rfl rfl rfl ?_ -- ex8
    refine x_assign rfl rfl rfl rfl ?_
    refine x_assign rfl rfl rfl rfl ?_
    refine Ex.done (hK _ _ ?_)
    refine At.then_n ?_
    refine W.seq ?_
    refine W.sub [(3, _), (6, _), (7, _), (8, _), (9, _), (10, _)] ⟨rfl, rfl, rfl, rfl, rfl, rfl, trivial⟩ ?_
    refine W.reg [(0, false), (1, false), (2, false), (3, false), (4, false), (5, false), (6, false), (7, false), (8, false), (9, false), (10, false), (11, false), (12, false), (13, false), (14, false), (15, false), (16, false), (17, false), (18, false), (19, false), (20, false), (21, true), (22, false), (23, false)] (by kernel_rfl) ?_ -- region 7
    intro K hK
    refine x_move rfl rfl rfl rfl ?_
    refine x_eqi true rfl rfl rfl rfl rfl (by simp [hsj.1]) ?_ -- eq3 outright.go:38
    refine x_move rfl rfl rfl rfl ?_
    refine x_move rfl rfl rfl rfl ?_
    refine x_move rfl rfl rfl rfl ?_
    refine x_eqS true rfl rfl rfl rfl rfl (by simp [hsj.1]) ?_ -- eq4 outright.go:38
    refine x_pickT rfl rfl rfl rfl rfl ?_
    refine x_move rfl rfl rfl rfl ?_
    refine x_move rfl rfl rfl rfl ?_
    refine x_eqi true rfl rfl rfl rfl rfl (by simp [hsj.1]) ?_ -- eq5 outright.go:38
    refine x_pickT rfl rfl rfl rfl rfl ?_
    refine x_move rfl rfl rfl rfl ?_
    refine x_move rfl rfl rfl rfl ?_
    refine x_move rfl rfl rfl rfl ?_
    refine x_eqS true rfl rfl rfl rfl rfl (by simp [hsj.1]) ?_ -- eq6 outright.go:38
    refine x_pickT rfl rfl rfl rfl rfl ?_
    refine x_move rfl rfl rfl rfl ?_
    refine x_move rfl rfl rfl rfl ?_
    refine x_eqi true rfl rfl rfl rfl rfl (by simp [hsj.1]) ?_ -- eq7 outright.go:38
    refine x_pickT rfl rfl rfl rfl rfl ?_
    refine x_move rfl rfl rfl rfl ?_
    -- call6: valise/valiselaw13.lives outright.go:38
    refine x_call rfl rfl rfl rfl rfl en18 (lives_c) ?_
    rintro r wcall6 ⟨rfl, hncall6⟩
    have M := M.new hncall6
    refine ⟨trivial, ?_⟩
    refine x_pickT rfl rfl rfl rfl rfl ?_
    refine x_assign rfl rfl rfl rfl ?_
    refine Ex.done (hK _ _ ?_)
    refine At.then_n ?_
    refine W.ret ?_
    refine At.ret1 (.tmp 2) rfl ⟨rfl, trivial⟩ ?_ -- ret2
    exact ⟨rfl, M.frm⟩

-- valise/valiselaw13.PathOrder
set_option maxRecDepth 100000 in
theorem pathOrder_law {w0 : World} {a b c : List UInt8} (hla : a.length ≤ 9223372036854775807) (hlb : b.length ≤ 9223372036854775807) (hlc : c.length ≤ 9223372036854775807) : Ret Try.prog 10 #[strV a, strV b, strV c] w0 fun r w' => r = .bool true ∧ New w0 w' := by
  have M : Sep w0 [] w0 := St.nil w0
  have hcx := cmpP_cases a b
  have hsw := cmpP_swap a b
  have hself := cmpP_self a
  refine Ret.of_W Try.func10 rfl Try.ntmps10 rfl ?_
  refine W.seq ?_
  refine W.sub [(0, _), (1, _), (2, _)] ⟨rfl, rfl, rfl, trivial⟩ ?_
  refine W.reg [(0, false)] (by kernel_rfl) ?_ -- region 0
  intro K hK
  refine x_assign rfl rfl rfl rfl ?_
  refine Ex.done (hK _ _ ?_)
  refine At.then_n ?_
  refine W.seq ?_
  refine W.sub [(0, _), (1, _), (2, _)] ⟨rfl, rfl, rfl, trivial⟩ ?_
  refine W.reg [(0, false), (1, false), (2, true), (3, false), (4, false), (5, true), (6, false), (7, false), (8, true), (9, false), (10, false), (11, false)] (by kernel_rfl) ?_ -- region 1
  intro K hK
  refine x_move rfl rfl rfl rfl ?_
  refine x_move rfl rfl rfl rfl ?_
  -- call1: valise/path.Compare outright.go:46
  refine x_call rfl rfl rfl rfl rfl en27 (compare_c (by omega) (by omega)) ?_
  rintro r wcall1 ⟨rfl, hncall1⟩
  have M := M.new hncall1
  refine ⟨trivial, ?_⟩
  refine x_move rfl rfl rfl rfl ?_
  refine x_move rfl rfl rfl rfl ?_
  -- call2: valise/path.Compare outright.go:46
  refine x_call rfl rfl rfl rfl rfl en27 (compare_c (by omega) (by omega)) ?_
  rintro r wcall2 ⟨rfl, hncall2⟩
  have M := M.new hncall2
  refine ⟨trivial, ?_⟩
  refine x_move rfl rfl rfl rfl ?_
  refine x_move rfl rfl rfl rfl ?_
  -- call3: valise/path.Compare outright.go:46
  refine x_call rfl rfl rfl rfl rfl en27 (compare_c (by omega) (by omega)) ?_
  rintro r wcall3 ⟨rfl, hncall3⟩
  have M := M.new hncall3
  refine ⟨trivial, ?_⟩
  refine x_assign rfl rfl rfl rfl ?_
  refine x_assign rfl rfl rfl rfl ?_
  refine x_assign rfl rfl rfl rfl ?_
  refine Ex.done (hK _ _ ?_)
  refine At.then_n ?_
  refine W.seq ?_
  refine W.seq ?_
  refine W.sub [(0, _), (1, _), (7, _), (8, _), (9, _)] ⟨rfl, rfl, rfl, rfl, rfl, trivial⟩ ?_
  refine W.reg [(0, false), (1, true), (2, false), (3, false), (4, false), (5, false), (6, false), (7, true), (8, false), (9, false), (10, false), (11, false), (12, false), (13, false), (14, false), (15, true), (16, false), (17, false), (18, false), (19, false), (20, false), (21, false), (22, false), (23, false), (24, false), (25, false), (26, false)] (by kernel_rfl) ?_ -- region 2
  intro K hK
  refine x_move rfl rfl rfl rfl ?_
  -- call4: valise/valiselaw13.sign outright.go:47
  refine x_call rfl rfl rfl rfl rfl en29 (sign_c) ?_
  rintro r wcall4 ⟨rfl, hncall4⟩
  have M := M.new hncall4
  refine ⟨trivial, ?_⟩
  refine x_move rfl rfl rfl rfl ?_
  refine x_nei false rfl rfl rfl rfl rfl (by rw [bne_eq_false_iff_eq]; omega) ?_ -- eq1 outright.go:47
  refine x_move rfl rfl rfl rfl ?_
  refine x_move rfl rfl rfl rfl ?_
  refine x_move rfl rfl rfl rfl ?_
  -- call5: valise/path.Compare outright.go:47
  refine x_call rfl rfl rfl rfl rfl en27 (compare_c (by omega) (by omega)) ?_
  rintro r wcall5 ⟨rfl, hncall5⟩
  have M := M.new hncall5
  refine ⟨trivial, ?_⟩
  refine x_move rfl rfl rfl rfl ?_
  refine x_neg (0 - compareP a b) rfl rfl rfl rfl (wneg (by omega) (by omega)) ?_ -- un1 outright.go:47
  refine x_nei false rfl rfl rfl rfl rfl (by rw [bne_eq_false_iff_eq]; omega) ?_ -- eq2 outright.go:47
  refine x_pickF rfl rfl rfl rfl rfl ?_
  refine x_move rfl rfl rfl rfl ?_
  refine x_move rfl rfl rfl rfl ?_
  refine x_move rfl rfl rfl rfl ?_
  -- call6: valise/path.Compare outright.go:47
  refine x_call rfl rfl rfl rfl rfl en27 (compare_c (by omega) (by omega)) ?_
  rintro r wcall6 ⟨rfl, hncall6⟩
  have M := M.new hncall6
  refine ⟨trivial, ?_⟩
  refine x_nei false rfl rfl rfl rfl rfl (by rw [bne_eq_false_iff_eq]; omega) ?_ -- eq3 outright.go:47
  refine x_pickF rfl rfl rfl rfl rfl ?_
  refine x_move rfl rfl rfl rfl ?_
  refine x_move rfl rfl rfl rfl ?_
  refine x_eqi _ rfl rfl rfl rfl rfl rfl ?_ -- eq4 outright.go:47
  refine x_move rfl rfl rfl rfl ?_
  refine Ex.split 40 rfl (fun hsp1 => ?_) (fun hsp1 => ?_)
  · -- sp1 True
    try simp only [decide_eq_true_eq, decide_eq_false_iff_not, Bool.not_eq_true', Bool.not_eq_false', beq_iff_eq, bne_iff_ne, ne_eq, Bool.not_eq_eq_eq_not, Bool.not_true, Bool.not_false, beq_eq_false_iff_ne, bne_eq_false_iff_eq, Bool.not_not, gt_iff_lt, ge_iff_le] at hsp1
    refine x_move rfl rfl rfl rfl ?_
    refine x_move rfl rfl rfl rfl ?_
    refine x_neS _ rfl rfl rfl rfl rfl rfl ?_ -- eq5 outright.go:47
    refine x_pickT rfl rfl rfl rfl rfl ?_
    refine x_pickF rfl rfl rfl rfl rfl ?_
    refine Ex.done (hK _ _ ?_)
    refine At.then_n ?_
    refine W.cond rfl (fun hco1 => ?_) (fun hco1 => ?_) -- co1
    · try simp only [decide_eq_true_eq, decide_eq_false_iff_not, Bool.not_eq_true', Bool.not_eq_false', beq_iff_eq, bne_iff_ne, ne_eq, Bool.not_eq_eq_eq_not, Bool.not_true, Bool.not_false, beq_eq_false_iff_ne, bne_eq_false_iff_eq, Bool.not_not, gt_iff_lt, ge_iff_le] at hco1
      exact absurd (cmpP_zero hsp1) hco1
    · try simp only [decide_eq_true_eq, decide_eq_false_iff_not, Bool.not_eq_true', Bool.not_eq_false', beq_iff_eq, bne_iff_ne, ne_eq, Bool.not_eq_eq_eq_not, Bool.not_true, Bool.not_false, beq_eq_false_iff_ne, bne_eq_false_iff_eq, Bool.not_not, gt_iff_lt, ge_iff_le] at hco1
      refine W.skip ?_
      refine At.then_n ?_
      refine W.seq ?_
      refine W.sub [(7, _), (8, _), (9, _)] ⟨rfl, rfl, rfl, trivial⟩ ?_
      refine W.reg [(0, false), (1, false), (2, false), (3, false), (4, false), (5, false), (6, false), (7, false), (8, false), (9, false), (10, false), (11, false), (12, false), (13, false), (14, false), (15, false), (16, false), (17, false), (18, false), (19, false), (20, false), (21, false), (22, false), (23, true), (24, false), (25, false)] (by kernel_rfl) ?_ -- region 4
      intro K hK
      refine x_move rfl rfl rfl rfl ?_
      refine x_gtr _ rfl rfl rfl rfl rfl rfl ?_ -- cm1 outright.go:50
      refine x_move rfl rfl rfl rfl ?_
      refine Ex.split 48 rfl (fun hsp2 => ?_) (fun hsp2 => ?_)
      · -- sp2 True
        try simp only [decide_eq_true_eq, decide_eq_false_iff_not, Bool.not_eq_true', Bool.not_eq_false', beq_iff_eq, bne_iff_ne, ne_eq, Bool.not_eq_eq_eq_not, Bool.not_true, Bool.not_false, beq_eq_false_iff_ne, bne_eq_false_iff_eq, Bool.not_not, gt_iff_lt, ge_iff_le] at hsp2
        refine Ex.skip_ rfl rfl rfl ?_
        refine Ex.skip_ rfl rfl rfl ?_
        refine x_pickT rfl rfl rfl rfl rfl ?_
        refine x_move rfl rfl rfl rfl ?_
        refine Ex.skip_ rfl rfl rfl ?_
        refine Ex.skip_ rfl rfl rfl ?_
        refine x_pickT rfl rfl rfl rfl rfl ?_
        refine x_move rfl rfl rfl rfl ?_
        refine Ex.skip_ rfl rfl rfl ?_
        refine Ex.skip_ rfl rfl rfl ?_
        refine Ex.skip_ rfl rfl rfl ?_
        refine Ex.skip_ rfl rfl rfl ?_
        refine Ex.skip_ rfl rfl rfl ?_
        refine Ex.skip_ rfl rfl rfl ?_
        refine Ex.skip_ rfl rfl rfl ?_
        refine Ex.skip_ rfl rfl rfl ?_
        refine Ex.skip_ rfl rfl rfl ?_
        refine Ex.skip_ rfl rfl rfl ?_
        refine x_pickT rfl rfl rfl rfl rfl ?_
        refine x_move rfl rfl rfl rfl ?_
        -- call7: valise/valiselaw13.lives outright.go:50
        refine x_call rfl rfl rfl rfl rfl en18 (lives_c) ?_
        rintro r wcall7 ⟨rfl, hncall7⟩
        have M := M.new hncall7
        refine ⟨trivial, ?_⟩
        refine x_pickT rfl rfl rfl rfl rfl ?_
        refine x_assign rfl rfl rfl rfl ?_
        refine Ex.done (hK _ _ ?_)
        refine At.then_n ?_
        refine W.ret ?_
        refine At.ret1 (.tmp 6) rfl ⟨rfl, trivial⟩ ?_ -- ret1
        exact ⟨rfl, M.frm⟩
      · -- sp2 False
        try simp only [decide_eq_true_eq, decide_eq_false_iff_not, Bool.not_eq_true', Bool.not_eq_false', beq_iff_eq, bne_iff_ne, ne_eq, Bool.not_eq_eq_eq_not, Bool.not_true, Bool.not_false, beq_eq_false_iff_ne, bne_eq_false_iff_eq, Bool.not_not, gt_iff_lt, ge_iff_le] at hsp2
        refine x_move rfl rfl rfl rfl ?_
        refine x_gtr _ rfl rfl rfl rfl rfl rfl ?_ -- cm2 outright.go:50
        refine x_pickF rfl rfl rfl rfl rfl ?_
        refine x_move rfl rfl rfl rfl ?_
        refine Ex.split 52 rfl (fun hsp3 => ?_) (fun hsp3 => ?_)
        · -- sp3 True
          try simp only [decide_eq_true_eq, decide_eq_false_iff_not, Bool.not_eq_true', Bool.not_eq_false', beq_iff_eq, bne_iff_ne, ne_eq, Bool.not_eq_eq_eq_not, Bool.not_true, Bool.not_false, beq_eq_false_iff_ne, bne_eq_false_iff_eq, Bool.not_not, gt_iff_lt, ge_iff_le] at hsp3
          refine Ex.skip_ rfl rfl rfl ?_
          refine Ex.skip_ rfl rfl rfl ?_
          refine x_pickT rfl rfl rfl rfl rfl ?_
          refine x_move rfl rfl rfl rfl ?_
          refine Ex.skip_ rfl rfl rfl ?_
          refine Ex.skip_ rfl rfl rfl ?_
          refine Ex.skip_ rfl rfl rfl ?_
          refine Ex.skip_ rfl rfl rfl ?_
          refine Ex.skip_ rfl rfl rfl ?_
          refine Ex.skip_ rfl rfl rfl ?_
          refine Ex.skip_ rfl rfl rfl ?_
          refine Ex.skip_ rfl rfl rfl ?_
          refine Ex.skip_ rfl rfl rfl ?_
          refine Ex.skip_ rfl rfl rfl ?_
          refine x_pickT rfl rfl rfl rfl rfl ?_
          refine x_move rfl rfl rfl rfl ?_
          -- call8: valise/valiselaw13.lives outright.go:50
          refine x_call rfl rfl rfl rfl rfl en18 (lives_c) ?_
          rintro r wcall8 ⟨rfl, hncall8⟩
          have M := M.new hncall8
          refine ⟨trivial, ?_⟩
          refine x_pickT rfl rfl rfl rfl rfl ?_
          refine x_assign rfl rfl rfl rfl ?_
          refine Ex.done (hK _ _ ?_)
          refine At.then_n ?_
          refine W.ret ?_
          refine At.ret1 (.tmp 6) rfl ⟨rfl, trivial⟩ ?_ -- ret2
          exact ⟨rfl, M.frm⟩
        · -- sp3 False
          try simp only [decide_eq_true_eq, decide_eq_false_iff_not, Bool.not_eq_true', Bool.not_eq_false', beq_iff_eq, bne_iff_ne, ne_eq, Bool.not_eq_eq_eq_not, Bool.not_true, Bool.not_false, beq_eq_false_iff_ne, bne_eq_false_iff_eq, Bool.not_not, gt_iff_lt, ge_iff_le] at hsp3
          refine x_move rfl rfl rfl rfl ?_
          refine x_lss _ rfl rfl rfl rfl rfl rfl ?_ -- cm3 outright.go:50
          refine x_pickF rfl rfl rfl rfl rfl ?_
          refine x_move rfl rfl rfl rfl ?_
          refine Ex.split 56 rfl (fun hsp4 => ?_) (fun hsp4 => ?_)
          · -- sp4 True
            try simp only [decide_eq_true_eq, decide_eq_false_iff_not, Bool.not_eq_true', Bool.not_eq_false', beq_iff_eq, bne_iff_ne, ne_eq, Bool.not_eq_eq_eq_not, Bool.not_true, Bool.not_false, beq_eq_false_iff_ne, bne_eq_false_iff_eq, Bool.not_not, gt_iff_lt, ge_iff_le] at hsp4
            refine Ex.skip_ rfl rfl rfl ?_
            refine Ex.skip_ rfl rfl rfl ?_
            refine Ex.skip_ rfl rfl rfl ?_
            refine Ex.skip_ rfl rfl rfl ?_
            refine Ex.skip_ rfl rfl rfl ?_
            refine Ex.skip_ rfl rfl rfl ?_
            refine Ex.skip_ rfl rfl rfl ?_
            refine Ex.skip_ rfl rfl rfl ?_
            refine Ex.skip_ rfl rfl rfl ?_
            refine Ex.skip_ rfl rfl rfl ?_
            refine x_pickT rfl rfl rfl rfl rfl ?_
            refine x_move rfl rfl rfl rfl ?_
            -- call9: valise/valiselaw13.lives outright.go:50
            refine x_call rfl rfl rfl rfl rfl en18 (lives_c) ?_
            rintro r wcall9 ⟨rfl, hncall9⟩
            have M := M.new hncall9
            refine ⟨trivial, ?_⟩
            refine x_pickT rfl rfl rfl rfl rfl ?_
            refine x_assign rfl rfl rfl rfl ?_
            refine Ex.done (hK _ _ ?_)
            refine At.then_n ?_
            refine W.ret ?_
            refine At.ret1 (.tmp 6) rfl ⟨rfl, trivial⟩ ?_ -- ret3
            exact ⟨rfl, M.frm⟩
          · -- sp4 False
            try simp only [decide_eq_true_eq, decide_eq_false_iff_not, Bool.not_eq_true', Bool.not_eq_false', beq_iff_eq, bne_iff_ne, ne_eq, Bool.not_eq_eq_eq_not, Bool.not_true, Bool.not_false, beq_eq_false_iff_ne, bne_eq_false_iff_eq, Bool.not_not, gt_iff_lt, ge_iff_le] at hsp4
            have hz := order_end (a := a) (b := b) (c := c) (by omega) (by omega) (by omega)
            refine x_move rfl rfl rfl rfl ?_
            refine x_eqi true rfl rfl rfl rfl rfl (by simp [hz.2.2]) ?_ -- eq6 outright.go:50
            refine x_move rfl rfl rfl rfl ?_
            refine x_move rfl rfl rfl rfl ?_
            refine x_eqi true rfl rfl rfl rfl rfl (by simp [hz.1]) ?_ -- eq7 outright.go:50
            refine x_pickT rfl rfl rfl rfl rfl ?_
            refine x_move rfl rfl rfl rfl ?_
            refine x_move rfl rfl rfl rfl ?_
            refine x_eqi true rfl rfl rfl rfl rfl (by simp [hz.2.1]) ?_ -- eq8 outright.go:50
            refine x_pickT rfl rfl rfl rfl rfl ?_
            refine x_pickF rfl rfl rfl rfl rfl ?_
            refine x_move rfl rfl rfl rfl ?_
            -- call10: valise/valiselaw13.lives outright.go:50
            refine x_call rfl rfl rfl rfl rfl en18 (lives_c) ?_
            rintro r wcall10 ⟨rfl, hncall10⟩
            have M := M.new hncall10
            refine ⟨trivial, ?_⟩
            refine x_pickT rfl rfl rfl rfl rfl ?_
            refine x_assign rfl rfl rfl rfl ?_
            refine Ex.done (hK _ _ ?_)
            refine At.then_n ?_
            refine W.ret ?_
            refine At.ret1 (.tmp 6) rfl ⟨rfl, trivial⟩ ?_ -- ret4
            exact ⟨rfl, M.frm⟩
  · -- sp1 False
    try simp only [decide_eq_true_eq, decide_eq_false_iff_not, Bool.not_eq_true', Bool.not_eq_false', beq_iff_eq, bne_iff_ne, ne_eq, Bool.not_eq_eq_eq_not, Bool.not_true, Bool.not_false, beq_eq_false_iff_ne, bne_eq_false_iff_eq, Bool.not_not, gt_iff_lt, ge_iff_le] at hsp1
    refine Ex.skip_ rfl rfl rfl ?_
    refine Ex.skip_ rfl rfl rfl ?_
    refine Ex.skip_ rfl rfl rfl ?_
    refine x_pickF rfl rfl rfl rfl rfl ?_
    refine x_pickF rfl rfl rfl rfl rfl ?_
    refine Ex.done (hK _ _ ?_)
    refine At.then_n ?_
    refine W.condF rfl ?_ -- co2
    refine W.skip ?_
    refine At.then_n ?_
    refine W.seq ?_
    refine W.sub [(7, _), (8, _), (9, _)] ⟨rfl, rfl, rfl, trivial⟩ ?_
    refine W.reg [(0, false), (1, false), (2, false), (3, false), (4, false), (5, false), (6, false), (7, false), (8, false), (9, false), (10, false), (11, false), (12, false), (13, false), (14, false), (15, false), (16, false), (17, false), (18, false), (19, false), (20, false), (21, false), (22, false), (23, true), (24, false), (25, false)] (by kernel_rfl) ?_ -- region 4
    intro K hK
    refine x_move rfl rfl rfl rfl ?_
    refine x_gtr _ rfl rfl rfl rfl rfl rfl ?_ -- cm4 outright.go:50
    refine x_move rfl rfl rfl rfl ?_
    refine Ex.split 48 rfl (fun hsp5 => ?_) (fun hsp5 => ?_)
    · -- sp5 True
      try simp only [decide_eq_true_eq, decide_eq_false_iff_not, Bool.not_eq_true', Bool.not_eq_false', beq_iff_eq, bne_iff_ne, ne_eq, Bool.not_eq_eq_eq_not, Bool.not_true, Bool.not_false, beq_eq_false_iff_ne, bne_eq_false_iff_eq, Bool.not_not, gt_iff_lt, ge_iff_le] at hsp5
      refine Ex.skip_ rfl rfl rfl ?_
      refine Ex.skip_ rfl rfl rfl ?_
      refine x_pickT rfl rfl rfl rfl rfl ?_
      refine x_move rfl rfl rfl rfl ?_
      refine Ex.skip_ rfl rfl rfl ?_
      refine Ex.skip_ rfl rfl rfl ?_
      refine x_pickT rfl rfl rfl rfl rfl ?_
      refine x_move rfl rfl rfl rfl ?_
      refine Ex.skip_ rfl rfl rfl ?_
      refine Ex.skip_ rfl rfl rfl ?_
      refine Ex.skip_ rfl rfl rfl ?_
      refine Ex.skip_ rfl rfl rfl ?_
      refine Ex.skip_ rfl rfl rfl ?_
      refine Ex.skip_ rfl rfl rfl ?_
      refine Ex.skip_ rfl rfl rfl ?_
      refine Ex.skip_ rfl rfl rfl ?_
      refine Ex.skip_ rfl rfl rfl ?_
      refine Ex.skip_ rfl rfl rfl ?_
      refine x_pickT rfl rfl rfl rfl rfl ?_
      refine x_move rfl rfl rfl rfl ?_
      -- call11: valise/valiselaw13.lives outright.go:50
      refine x_call rfl rfl rfl rfl rfl en18 (lives_c) ?_
      rintro r wcall11 ⟨rfl, hncall11⟩
      have M := M.new hncall11
      refine ⟨trivial, ?_⟩
      refine x_pickT rfl rfl rfl rfl rfl ?_
      refine x_assign rfl rfl rfl rfl ?_
      refine Ex.done (hK _ _ ?_)
      refine At.then_n ?_
      refine W.ret ?_
      refine At.ret1 (.tmp 6) rfl ⟨rfl, trivial⟩ ?_ -- ret5
      exact ⟨rfl, M.frm⟩
    · -- sp5 False
      try simp only [decide_eq_true_eq, decide_eq_false_iff_not, Bool.not_eq_true', Bool.not_eq_false', beq_iff_eq, bne_iff_ne, ne_eq, Bool.not_eq_eq_eq_not, Bool.not_true, Bool.not_false, beq_eq_false_iff_ne, bne_eq_false_iff_eq, Bool.not_not, gt_iff_lt, ge_iff_le] at hsp5
      refine x_move rfl rfl rfl rfl ?_
      refine x_gtr _ rfl rfl rfl rfl rfl rfl ?_ -- cm5 outright.go:50
      refine x_pickF rfl rfl rfl rfl rfl ?_
      refine x_move rfl rfl rfl rfl ?_
      refine Ex.split 52 rfl (fun hsp6 => ?_) (fun hsp6 => ?_)
      · -- sp6 True
        try simp only [decide_eq_true_eq, decide_eq_false_iff_not, Bool.not_eq_true', Bool.not_eq_false', beq_iff_eq, bne_iff_ne, ne_eq, Bool.not_eq_eq_eq_not, Bool.not_true, Bool.not_false, beq_eq_false_iff_ne, bne_eq_false_iff_eq, Bool.not_not, gt_iff_lt, ge_iff_le] at hsp6
        refine Ex.skip_ rfl rfl rfl ?_
        refine Ex.skip_ rfl rfl rfl ?_
        refine x_pickT rfl rfl rfl rfl rfl ?_
        refine x_move rfl rfl rfl rfl ?_
        refine Ex.skip_ rfl rfl rfl ?_
        refine Ex.skip_ rfl rfl rfl ?_
        refine Ex.skip_ rfl rfl rfl ?_
        refine Ex.skip_ rfl rfl rfl ?_
        refine Ex.skip_ rfl rfl rfl ?_
        refine Ex.skip_ rfl rfl rfl ?_
        refine Ex.skip_ rfl rfl rfl ?_
        refine Ex.skip_ rfl rfl rfl ?_
        refine Ex.skip_ rfl rfl rfl ?_
        refine Ex.skip_ rfl rfl rfl ?_
        refine x_pickT rfl rfl rfl rfl rfl ?_
        refine x_move rfl rfl rfl rfl ?_
        -- call12: valise/valiselaw13.lives outright.go:50
        refine x_call rfl rfl rfl rfl rfl en18 (lives_c) ?_
        rintro r wcall12 ⟨rfl, hncall12⟩
        have M := M.new hncall12
        refine ⟨trivial, ?_⟩
        refine x_pickT rfl rfl rfl rfl rfl ?_
        refine x_assign rfl rfl rfl rfl ?_
        refine Ex.done (hK _ _ ?_)
        refine At.then_n ?_
        refine W.ret ?_
        refine At.ret1 (.tmp 6) rfl ⟨rfl, trivial⟩ ?_ -- ret6
        exact ⟨rfl, M.frm⟩
      · -- sp6 False
        try simp only [decide_eq_true_eq, decide_eq_false_iff_not, Bool.not_eq_true', Bool.not_eq_false', beq_iff_eq, bne_iff_ne, ne_eq, Bool.not_eq_eq_eq_not, Bool.not_true, Bool.not_false, beq_eq_false_iff_ne, bne_eq_false_iff_eq, Bool.not_not, gt_iff_lt, ge_iff_le] at hsp6
        refine x_move rfl rfl rfl rfl ?_
        refine x_lss _ rfl rfl rfl rfl rfl rfl ?_ -- cm6 outright.go:50
        refine x_pickF rfl rfl rfl rfl rfl ?_
        refine x_move rfl rfl rfl rfl ?_
        refine Ex.split 56 rfl (fun hsp7 => ?_) (fun hsp7 => ?_)
        · -- sp7 True
          try simp only [decide_eq_true_eq, decide_eq_false_iff_not, Bool.not_eq_true', Bool.not_eq_false', beq_iff_eq, bne_iff_ne, ne_eq, Bool.not_eq_eq_eq_not, Bool.not_true, Bool.not_false, beq_eq_false_iff_ne, bne_eq_false_iff_eq, Bool.not_not, gt_iff_lt, ge_iff_le] at hsp7
          refine Ex.skip_ rfl rfl rfl ?_
          refine Ex.skip_ rfl rfl rfl ?_
          refine Ex.skip_ rfl rfl rfl ?_
          refine Ex.skip_ rfl rfl rfl ?_
          refine Ex.skip_ rfl rfl rfl ?_
          refine Ex.skip_ rfl rfl rfl ?_
          refine Ex.skip_ rfl rfl rfl ?_
          refine Ex.skip_ rfl rfl rfl ?_
          refine Ex.skip_ rfl rfl rfl ?_
          refine Ex.skip_ rfl rfl rfl ?_
          refine x_pickT rfl rfl rfl rfl rfl ?_
          refine x_move rfl rfl rfl rfl ?_
          -- call13: valise/valiselaw13.lives outright.go:50
          refine x_call rfl rfl rfl rfl rfl en18 (lives_c) ?_
          rintro r wcall13 ⟨rfl, hncall13⟩
          have M := M.new hncall13
          refine ⟨trivial, ?_⟩
          refine x_pickT rfl rfl rfl rfl rfl ?_
          refine x_assign rfl rfl rfl rfl ?_
          refine Ex.done (hK _ _ ?_)
          refine At.then_n ?_
          refine W.ret ?_
          refine At.ret1 (.tmp 6) rfl ⟨rfl, trivial⟩ ?_ -- ret7
          exact ⟨rfl, M.frm⟩
        · -- sp7 False
          try simp only [decide_eq_true_eq, decide_eq_false_iff_not, Bool.not_eq_true', Bool.not_eq_false', beq_iff_eq, bne_iff_ne, ne_eq, Bool.not_eq_eq_eq_not, Bool.not_true, Bool.not_false, beq_eq_false_iff_ne, bne_eq_false_iff_eq, Bool.not_not, gt_iff_lt, ge_iff_le] at hsp7
          exact absurd (order_end (a := a) (b := b) (c := c) (by omega) (by omega) (by omega)).1 hsp1

-- valise/valiselaw13.PathUnder
set_option maxRecDepth 100000 in
theorem pathUnder_law {w0 : World} {dir p q : List UInt8} (hla : dir.length ≤ 9223372036854775807) (hlb : p.length ≤ 9223372036854775807) (hlc : q.length ≤ 9223372036854775807) : Ret Try.prog 11 #[strV dir, strV p, strV q] w0 fun r w' => r = .bool true ∧ New w0 w' := by
  have M : Sep w0 [] w0 := St.nil w0
  refine Ret.of_W Try.func11 rfl Try.ntmps11 rfl ?_
  refine W.seq ?_
  refine W.sub [(0, _), (1, _), (2, _)] ⟨rfl, rfl, rfl, trivial⟩ ?_
  refine W.reg [(0, false)] (by kernel_rfl) ?_ -- region 0
  intro K hK
  refine x_assign rfl rfl rfl rfl ?_
  refine Ex.done (hK _ _ ?_)
  refine At.then_n ?_
  refine W.seq ?_
  refine W.seq ?_
  refine W.sub [(0, _), (1, _), (2, _)] ⟨rfl, rfl, rfl, trivial⟩ ?_
  refine W.reg [(0, false), (1, false), (2, true), (3, false)] (by kernel_rfl) ?_ -- region 1
  intro K hK
  refine x_move rfl rfl rfl rfl ?_
  refine x_move rfl rfl rfl rfl ?_
  -- call1: valise/path.Under outright.go:55
  refine x_call rfl rfl rfl rfl rfl en25 (under_c) ?_
  rintro r wcall1 ⟨rfl, hncall1⟩
  have M := M.new hncall1
  refine ⟨trivial, ?_⟩
  refine x_not _ rfl rfl rfl rfl rfl ?_ -- un1 outright.go:55
  refine Ex.done (hK _ _ ?_)
  refine At.then_n ?_
  refine W.cond rfl (fun hco1 => ?_) (fun hco1 => ?_) -- co1
  · try simp only [decide_eq_true_eq, decide_eq_false_iff_not, Bool.not_eq_true', Bool.not_eq_false', beq_iff_eq, bne_iff_ne, ne_eq, Bool.not_eq_eq_eq_not, Bool.not_true, Bool.not_false, beq_eq_false_iff_ne, bne_eq_false_iff_eq, Bool.not_not, gt_iff_lt, ge_iff_le] at hco1
    refine W.seq ?_
    refine W.sub [] trivial ?_
    refine W.reg [(0, true), (1, false)] (by kernel_rfl) ?_ -- region 2
    intro K hK
    -- call2: valise/valiselaw13.lives outright.go:56
    refine x_call rfl rfl rfl rfl rfl en18 (lives_c) ?_
    rintro r wcall2 ⟨rfl, hncall2⟩
    have M := M.new hncall2
    refine ⟨trivial, ?_⟩
    refine x_assign rfl rfl rfl rfl ?_
    refine Ex.done (hK _ _ ?_)
    refine At.then_n ?_
    refine W.ret ?_
    refine At.then_r ?_
    refine At.ret1 (.tmp 6) rfl ⟨rfl, trivial⟩ ?_ -- ret1
    exact ⟨rfl, M.frm⟩
  · try simp only [decide_eq_true_eq, decide_eq_false_iff_not, Bool.not_eq_true', Bool.not_eq_false', beq_iff_eq, bne_iff_ne, ne_eq, Bool.not_eq_eq_eq_not, Bool.not_true, Bool.not_false, beq_eq_false_iff_ne, bne_eq_false_iff_eq, Bool.not_not, gt_iff_lt, ge_iff_le] at hco1
    have hu : underP p dir = true := by simpa using hco1
    have hb := under_behind hu
    refine W.skip ?_
    refine At.then_n ?_
    refine W.seq ?_
    refine W.seq ?_
    refine W.sub [(0, _), (1, _), (2, _)] ⟨rfl, rfl, rfl, trivial⟩ ?_
    refine W.reg [(0, false), (1, false), (2, true), (3, false), (4, false), (5, false), (6, false), (7, true), (8, false), (9, false), (10, false), (11, false), (12, false), (13, false)] (by kernel_rfl) ?_ -- region 3
    intro K hK
    refine x_move rfl rfl rfl rfl ?_
    refine x_move rfl rfl rfl rfl ?_
    -- call3: valise/path.Compare outright.go:58
    refine x_call rfl rfl rfl rfl rfl en27 (compare_c (by omega) (by omega)) ?_
    rintro r wcall3 ⟨rfl, hncall3⟩
    have M := M.new hncall3
    refine ⟨trivial, ?_⟩
    refine x_gtr false rfl rfl rfl rfl rfl (decide_eq_false (by omega)) ?_ -- cm1 outright.go:58
    refine x_move rfl rfl rfl rfl ?_
    refine x_move rfl rfl rfl rfl ?_
    refine x_move rfl rfl rfl rfl ?_
    -- call4: valise/path.Compare outright.go:58
    refine x_call rfl rfl rfl rfl rfl en27 (compare_c (by omega) (by omega)) ?_
    rintro r wcall4 ⟨rfl, hncall4⟩
    have M := M.new hncall4
    refine ⟨trivial, ?_⟩
    refine x_eqi _ rfl rfl rfl rfl rfl rfl ?_ -- eq1 outright.go:58
    refine x_move rfl rfl rfl rfl ?_
    refine x_move rfl rfl rfl rfl ?_
    refine x_eqS _ rfl rfl rfl rfl rfl rfl ?_ -- eq2 outright.go:58
    refine x_neb false rfl rfl rfl Try.underlying4 rfl rfl (by rw [under_eqb hu]; rfl) ?_ -- eq3 outright.go:58
    refine x_pickF rfl rfl rfl rfl rfl ?_
    refine Ex.done (hK _ _ ?_)
    refine At.then_n ?_
    refine W.condF rfl ?_ -- co2
    refine W.skip ?_
    refine At.then_n ?_
    refine W.seq ?_
    refine W.sub [(0, _), (1, _), (2, _)] ⟨rfl, rfl, rfl, trivial⟩ ?_
    refine W.reg [(0, false), (1, true), (2, false), (3, false), (4, false), (5, false), (6, false)] (by kernel_rfl) ?_ -- region 5
    intro K hK
    refine x_move rfl rfl rfl rfl ?_
    -- call5: valise/path.Split outright.go:61
    refine x_call rfl rfl rfl rfl rfl en13 (split_c) ?_
    rintro r wcall5 ⟨vcall5, Lcall5, rfl, Mcall5, hscall5⟩
    have M := M.grow Mcall5
    refine ⟨trivial, ?_⟩
    refine x_move rfl rfl rfl rfl ?_
    refine x_ext rfl rfl rfl rfl rfl ?_ -- ex1
    refine x_ext rfl rfl rfl rfl rfl ?_ -- ex2
    refine x_assign rfl rfl rfl rfl ?_
    refine x_assign rfl rfl rfl rfl ?_
    refine Ex.done (hK _ _ ?_)
    refine At.then_n ?_
    refine W.seq ?_
    refine W.sub [(0, _), (1, _), (2, _), (8, _)] ⟨rfl, rfl, rfl, rfl, trivial⟩ ?_
    refine W.reg [(0, false), (1, false), (2, true), (3, false), (4, false), (5, false), (6, false), (7, true), (8, false), (9, false), (10, false)] (by kernel_rfl) ?_ -- region 6
    intro K hK
    refine x_move rfl rfl rfl rfl ?_
    refine x_move rfl rfl rfl rfl ?_
    -- call6: valise/path.Compare outright.go:62
    refine x_call rfl rfl rfl rfl rfl en27 (compare_c (by omega) (by omega)) ?_
    rintro r wcall6 ⟨rfl, hncall6⟩
    have M := M.new hncall6
    refine ⟨trivial, ?_⟩
    refine x_leq _ rfl rfl rfl rfl rfl rfl ?_ -- cm2 outright.go:62
    refine x_move rfl rfl rfl rfl ?_
    refine Ex.split 38 rfl (fun hsp1 => ?_) (fun hsp1 => ?_)
    · -- sp1 True
      try simp only [decide_eq_true_eq, decide_eq_false_iff_not, Bool.not_eq_true', Bool.not_eq_false', beq_iff_eq, bne_iff_ne, ne_eq, Bool.not_eq_eq_eq_not, Bool.not_true, Bool.not_false, beq_eq_false_iff_ne, bne_eq_false_iff_eq, Bool.not_not, gt_iff_lt, ge_iff_le] at hsp1
      refine x_move rfl rfl rfl rfl ?_
      refine x_move rfl rfl rfl rfl ?_
      -- call7: valise/path.Compare outright.go:62
      refine x_call rfl rfl rfl rfl rfl en27 (compare_c (by omega) (by omega)) ?_
      rintro r wcall7 ⟨rfl, hncall7⟩
      have M := M.new hncall7
      refine ⟨trivial, ?_⟩
      refine x_leq _ rfl rfl rfl rfl rfl rfl ?_ -- cm3 outright.go:62
      refine x_pickT rfl rfl rfl rfl rfl ?_
      refine x_assign rfl rfl rfl rfl ?_
      refine Ex.done (hK _ _ ?_)
      refine At.then_n ?_
      refine W.seq ?_
      refine W.sub [(0, _), (2, _), (8, _), (9, _)] ⟨rfl, rfl, rfl, rfl, trivial⟩ ?_
      refine W.reg [(0, false), (1, false), (2, false), (3, false), (4, false), (5, false), (6, false), (7, false), (8, false), (9, true), (10, false), (11, false), (12, true), (13, false), (14, false)] (by kernel_rfl) ?_ -- region 7
      intro K hK
      refine x_move rfl rfl rfl rfl ?_
      refine x_nei _ rfl rfl rfl rfl rfl rfl ?_ -- eq4 outright.go:63
      refine x_move rfl rfl rfl rfl ?_
      refine Ex.split 46 rfl (fun hsp2 => ?_) (fun hsp2 => ?_)
      · -- sp2 True
        try simp only [decide_eq_true_eq, decide_eq_false_iff_not, Bool.not_eq_true', Bool.not_eq_false', beq_iff_eq, bne_iff_ne, ne_eq, Bool.not_eq_eq_eq_not, Bool.not_true, Bool.not_false, beq_eq_false_iff_ne, bne_eq_false_iff_eq, Bool.not_not, gt_iff_lt, ge_iff_le] at hsp2
        refine Ex.skip_ rfl rfl rfl ?_
        refine Ex.skip_ rfl rfl rfl ?_
        refine x_pickT rfl rfl rfl rfl rfl ?_
        refine x_move rfl rfl rfl rfl ?_
        refine Ex.skip_ rfl rfl rfl ?_
        refine Ex.skip_ rfl rfl rfl ?_
        refine Ex.skipm_ rfl rfl rfl ?_
        refine x_pickT rfl rfl rfl rfl rfl ?_
        refine x_move rfl rfl rfl rfl ?_
        -- call8: valise/valiselaw13.lives outright.go:63
        refine x_call rfl rfl rfl rfl rfl en18 (lives_c) ?_
        rintro r wcall8 ⟨rfl, hncall8⟩
        have M := M.new hncall8
        refine ⟨trivial, ?_⟩
        refine x_pickT rfl rfl rfl rfl rfl ?_
        refine x_assign rfl rfl rfl rfl ?_
        refine Ex.done (hK _ _ ?_)
        refine At.then_n ?_
        refine W.ret ?_
        refine At.ret1 (.tmp 6) rfl ⟨rfl, trivial⟩ ?_ -- ret2
        exact ⟨rfl, M.frm⟩
      · -- sp2 False
        try simp only [decide_eq_true_eq, decide_eq_false_iff_not, Bool.not_eq_true', Bool.not_eq_false', beq_iff_eq, bne_iff_ne, ne_eq, Bool.not_eq_eq_eq_not, Bool.not_true, Bool.not_false, beq_eq_false_iff_ne, bne_eq_false_iff_eq, Bool.not_not, gt_iff_lt, ge_iff_le] at hsp2
        refine x_move rfl rfl rfl rfl ?_
        refine x_not _ rfl rfl rfl rfl rfl ?_ -- un2 outright.go:63
        refine x_pickF rfl rfl rfl rfl rfl ?_
        refine x_move rfl rfl rfl rfl ?_
        refine Ex.split 50 rfl (fun hsp3 => ?_) (fun hsp3 => ?_)
        · -- sp3 True
          try simp only [decide_eq_true_eq, decide_eq_false_iff_not, Bool.not_eq_true', Bool.not_eq_false', beq_iff_eq, bne_iff_ne, ne_eq, Bool.not_eq_eq_eq_not, Bool.not_true, Bool.not_false, beq_eq_false_iff_ne, bne_eq_false_iff_eq, Bool.not_not, gt_iff_lt, ge_iff_le] at hsp3
          refine Ex.skip_ rfl rfl rfl ?_
          refine Ex.skip_ rfl rfl rfl ?_
          refine Ex.skipm_ rfl rfl rfl ?_
          refine x_pickT rfl rfl rfl rfl rfl ?_
          refine x_move rfl rfl rfl rfl ?_
          -- call9: valise/valiselaw13.lives outright.go:63
          refine x_call rfl rfl rfl rfl rfl en18 (lives_c) ?_
          rintro r wcall9 ⟨rfl, hncall9⟩
          have M := M.new hncall9
          refine ⟨trivial, ?_⟩
          refine x_pickT rfl rfl rfl rfl rfl ?_
          refine x_assign rfl rfl rfl rfl ?_
          refine Ex.done (hK _ _ ?_)
          refine At.then_n ?_
          refine W.ret ?_
          refine At.ret1 (.tmp 6) rfl ⟨rfl, trivial⟩ ?_ -- ret3
          exact ⟨rfl, M.frm⟩
        · -- sp3 False
          try simp only [decide_eq_true_eq, decide_eq_false_iff_not, Bool.not_eq_true', Bool.not_eq_false', beq_iff_eq, bne_iff_ne, ne_eq, Bool.not_eq_eq_eq_not, Bool.not_true, Bool.not_false, beq_eq_false_iff_ne, bne_eq_false_iff_eq, Bool.not_not, gt_iff_lt, ge_iff_le] at hsp3
          refine x_move rfl rfl rfl rfl ?_
          refine x_move rfl rfl rfl rfl ?_
          -- call10: valise/path.Under outright.go:63
          refine x_call rfl rfl rfl rfl rfl en25 (under_c) ?_
          rintro r w10 ⟨rfl, hn10⟩
          have M := M.new hn10
          rw [under_between hu hsp2 hsp1 hsp3]
          refine ⟨trivial, ?_⟩
          refine x_pickF rfl rfl rfl rfl rfl ?_
          refine x_move rfl rfl rfl rfl ?_
          -- call11: valise/valiselaw13.lives outright.go:63
          refine x_call rfl rfl rfl rfl rfl en18 (lives_c) ?_
          rintro r wcall11 ⟨rfl, hncall11⟩
          have M := M.new hncall11
          refine ⟨trivial, ?_⟩
          refine x_pickT rfl rfl rfl rfl rfl ?_
          refine x_assign rfl rfl rfl rfl ?_
          refine Ex.done (hK _ _ ?_)
          refine At.then_n ?_
          refine W.ret ?_
          refine At.ret1 (.tmp 6) rfl ⟨rfl, trivial⟩ ?_ -- ret4
          exact ⟨rfl, M.frm⟩
    · -- sp1 False
      try simp only [decide_eq_true_eq, decide_eq_false_iff_not, Bool.not_eq_true', Bool.not_eq_false', beq_iff_eq, bne_iff_ne, ne_eq, Bool.not_eq_eq_eq_not, Bool.not_true, Bool.not_false, beq_eq_false_iff_ne, bne_eq_false_iff_eq, Bool.not_not, gt_iff_lt, ge_iff_le] at hsp1
      refine Ex.skip_ rfl rfl rfl ?_
      refine Ex.skip_ rfl rfl rfl ?_
      refine Ex.skipm_ rfl rfl rfl ?_
      refine Ex.skip_ rfl rfl rfl ?_
      refine x_pickF rfl rfl rfl rfl rfl ?_
      refine x_assign rfl rfl rfl rfl ?_
      refine Ex.done (hK _ _ ?_)
      refine At.then_n ?_
      refine W.seq ?_
      refine W.sub [(0, _), (2, _), (8, _), (9, _)] ⟨rfl, rfl, rfl, rfl, trivial⟩ ?_
      refine W.reg [(0, false), (1, false), (2, false), (3, false), (4, false), (5, false), (6, false), (7, false), (8, false), (9, true), (10, false), (11, false), (12, true), (13, false), (14, false)] (by kernel_rfl) ?_ -- region 7
      intro K hK
      refine x_move rfl rfl rfl rfl ?_
      refine x_nei _ rfl rfl rfl rfl rfl rfl ?_ -- eq5 outright.go:63
      refine x_move rfl rfl rfl rfl ?_
      refine Ex.split 46 rfl (fun hsp4 => ?_) (fun hsp4 => ?_)
      · -- sp4 True
        try simp only [decide_eq_true_eq, decide_eq_false_iff_not, Bool.not_eq_true', Bool.not_eq_false', beq_iff_eq, bne_iff_ne, ne_eq, Bool.not_eq_eq_eq_not, Bool.not_true, Bool.not_false, beq_eq_false_iff_ne, bne_eq_false_iff_eq, Bool.not_not, gt_iff_lt, ge_iff_le] at hsp4
        refine Ex.skip_ rfl rfl rfl ?_
        refine Ex.skip_ rfl rfl rfl ?_
        refine x_pickT rfl rfl rfl rfl rfl ?_
        refine x_move rfl rfl rfl rfl ?_
        refine Ex.skip_ rfl rfl rfl ?_
        refine Ex.skip_ rfl rfl rfl ?_
        refine Ex.skipm_ rfl rfl rfl ?_
        refine x_pickT rfl rfl rfl rfl rfl ?_
        refine x_move rfl rfl rfl rfl ?_
        -- call12: valise/valiselaw13.lives outright.go:63
        refine x_call rfl rfl rfl rfl rfl en18 (lives_c) ?_
        rintro r wcall12 ⟨rfl, hncall12⟩
        have M := M.new hncall12
        refine ⟨trivial, ?_⟩
        refine x_pickT rfl rfl rfl rfl rfl ?_
        refine x_assign rfl rfl rfl rfl ?_
        refine Ex.done (hK _ _ ?_)
        refine At.then_n ?_
        refine W.ret ?_
        refine At.ret1 (.tmp 6) rfl ⟨rfl, trivial⟩ ?_ -- ret5
        exact ⟨rfl, M.frm⟩
      · -- sp4 False
        try simp only [decide_eq_true_eq, decide_eq_false_iff_not, Bool.not_eq_true', Bool.not_eq_false', beq_iff_eq, bne_iff_ne, ne_eq, Bool.not_eq_eq_eq_not, Bool.not_true, Bool.not_false, beq_eq_false_iff_ne, bne_eq_false_iff_eq, Bool.not_not, gt_iff_lt, ge_iff_le] at hsp4
        refine x_move rfl rfl rfl rfl ?_
        refine x_not true rfl rfl rfl rfl rfl ?_ -- un3 outright.go:63
        refine x_pickF rfl rfl rfl rfl rfl ?_
        refine x_move rfl rfl rfl rfl ?_
        refine Ex.skip_ rfl rfl rfl ?_
        refine Ex.skip_ rfl rfl rfl ?_
        refine Ex.skipm_ rfl rfl rfl ?_
        refine x_pickT rfl rfl rfl rfl rfl ?_
        refine x_move rfl rfl rfl rfl ?_
        -- call13: valise/valiselaw13.lives outright.go:63
        refine x_call rfl rfl rfl rfl rfl en18 (lives_c) ?_
        rintro r wcall13 ⟨rfl, hncall13⟩
        have M := M.new hncall13
        refine ⟨trivial, ?_⟩
        refine x_pickT rfl rfl rfl rfl rfl ?_
        refine x_assign rfl rfl rfl rfl ?_
        refine Ex.done (hK _ _ ?_)
        refine At.then_n ?_
        refine W.ret ?_
        refine At.ret1 (.tmp 6) rfl ⟨rfl, trivial⟩ ?_ -- ret6
        exact ⟨rfl, M.frm⟩

-- valise/valiselaw13.PathSteps
set_option maxRecDepth 100000 in
theorem pathSteps_law {w0 : World} {p : List UInt8}  : Ret Try.prog 12 #[strV p] w0 fun r w' => r = .bool true ∧ New w0 w' := by
  have M : Sep w0 [] w0 := St.nil w0
  refine Ret.of_W Try.func12 rfl Try.ntmps12 rfl ?_
  refine W.seq ?_
  refine W.sub [(0, _)] ⟨rfl, trivial⟩ ?_
  refine W.reg [(0, false)] (by kernel_rfl) ?_ -- region 0
  intro K hK
  refine x_assign rfl rfl rfl rfl ?_
  refine Ex.done (hK _ _ ?_)
  refine At.then_n ?_
  refine W.seq ?_
  refine W.sub [(0, _)] ⟨rfl, trivial⟩ ?_
  refine W.reg [(0, false), (1, true), (2, false), (3, false), (4, false), (5, false), (6, false), (7, false), (8, false)] (by kernel_rfl) ?_ -- region 1
  intro K hK
  refine x_move rfl rfl rfl rfl ?_
  -- call1: valise/path.Parent outright.go:68
  refine x_call rfl rfl rfl rfl rfl en23 (parent_c) ?_
  rintro r wcall1 ⟨rfl, hncall1⟩
  have M := M.new hncall1
  refine ⟨trivial, ?_⟩
  refine x_move rfl rfl rfl rfl ?_
  refine x_ext rfl rfl rfl rfl rfl ?_ -- ex1
  refine x_ext rfl rfl rfl rfl rfl ?_ -- ex2
  refine x_ext rfl rfl rfl rfl rfl ?_ -- ex3
  refine x_assign rfl rfl rfl rfl ?_
  refine x_assign rfl rfl rfl rfl ?_
  refine x_assign rfl rfl rfl rfl ?_
  refine Ex.done (hK _ _ ?_)
  refine At.then_n ?_
  refine W.seq ?_
  refine W.seq ?_
  refine W.sub [(0, _), (3, _), (4, _), (5, _)] ⟨rfl, rfl, rfl, rfl, trivial⟩ ?_
  refine W.reg [(0, false), (1, false)] (by kernel_rfl) ?_ -- region 2
  intro K hK
  refine x_move rfl rfl rfl rfl ?_
  refine x_nei _ rfl rfl rfl rfl rfl rfl ?_ -- eq1 outright.go:69
  refine Ex.done (hK _ _ ?_)
  refine At.then_n ?_
  refine W.cond rfl (fun hco1 => ?_) (fun hco1 => ?_) -- co1
  · try simp only [decide_eq_true_eq, decide_eq_false_iff_not, Bool.not_eq_true', Bool.not_eq_false', beq_iff_eq, bne_iff_ne, ne_eq, Bool.not_eq_eq_eq_not, Bool.not_true, Bool.not_false, beq_eq_false_iff_ne, bne_eq_false_iff_eq, Bool.not_not, gt_iff_lt, ge_iff_le] at hco1
    have hb := parent_bad hco1
    refine W.seq ?_
    refine W.sub [(3, _), (4, _)] ⟨rfl, rfl, trivial⟩ ?_
    refine W.reg [(0, false), (1, false), (2, false), (3, false), (4, false), (5, false), (6, false), (7, true), (8, false), (9, false)] (by kernel_rfl) ?_ -- region 3
    intro K hK
    refine x_move rfl rfl rfl rfl ?_
    refine x_eqS true rfl rfl rfl rfl rfl (by simp [hb.1]) ?_ -- eq2 outright.go:70
    refine x_move rfl rfl rfl rfl ?_
    refine x_move rfl rfl rfl rfl ?_
    refine x_eqS true rfl rfl rfl rfl rfl (by simp [hb.2]) ?_ -- eq3 outright.go:70
    refine x_pickT rfl rfl rfl rfl rfl ?_
    refine x_move rfl rfl rfl rfl ?_
    -- call2: valise/valiselaw13.lives outright.go:70
    refine x_call rfl rfl rfl rfl rfl en18 (lives_c) ?_
    rintro r wcall2 ⟨rfl, hncall2⟩
    have M := M.new hncall2
    refine ⟨trivial, ?_⟩
    refine x_pickT rfl rfl rfl rfl rfl ?_
    refine x_assign rfl rfl rfl rfl ?_
    refine Ex.done (hK _ _ ?_)
    refine At.then_n ?_
    refine W.ret ?_
    refine At.then_r ?_
    refine At.ret1 (.tmp 2) rfl ⟨rfl, trivial⟩ ?_ -- ret1
    exact ⟨rfl, M.frm⟩
  · try simp only [decide_eq_true_eq, decide_eq_false_iff_not, Bool.not_eq_true', Bool.not_eq_false', beq_iff_eq, bne_iff_ne, ne_eq, Bool.not_eq_eq_eq_not, Bool.not_true, Bool.not_false, beq_eq_false_iff_ne, bne_eq_false_iff_eq, Bool.not_not, gt_iff_lt, ge_iff_le] at hco1
    obtain ⟨a, x, hpp, hsE, hsN, hjV, hjE, hu1, hu2, hx, hal⟩ := parent_ok hco1
    rw [hpp]
    refine W.skip ?_
    refine At.then_n ?_
    refine W.seq ?_
    refine W.sub [(0, _), (3, _), (4, _)] ⟨rfl, rfl, rfl, trivial⟩ ?_
    refine W.reg [(0, false), (1, true), (2, false), (3, false), (4, false), (5, false), (6, false)] (by kernel_rfl) ?_ -- region 4
    intro K hK
    refine x_move rfl rfl rfl rfl ?_
    -- call3: valise/path.Split outright.go:72
    refine x_call rfl rfl rfl rfl rfl en13 (split_c) ?_
    rintro r w3 ⟨v3, L3, rfl, M3, hs3⟩
    have M := M.grow M3
    rw [hsN] at hs3
    obtain ⟨p3, cap3, rfl⟩ := hs3.shape
    refine ⟨trivial, ?_⟩
    refine x_move rfl rfl rfl rfl ?_
    refine x_ext rfl rfl rfl rfl rfl ?_ -- ex4
    refine x_ext rfl rfl rfl rfl rfl ?_ -- ex5
    refine x_assign rfl rfl rfl rfl ?_
    refine x_assign rfl rfl rfl rfl ?_
    refine Ex.done (hK _ _ ?_)
    refine At.then_n ?_
    refine W.seq ?_
    refine W.sub [(0, _), (3, _), (4, _), (6, _), (7, _)] ⟨rfl, rfl, rfl, rfl, rfl, trivial⟩ ?_
    refine W.reg [(0, false), (1, false), (2, true), (3, true), (4, true), (5, false), (6, false), (7, false), (8, false), (9, false)] (by kernel_rfl) ?_ -- region 5
    intro K hK
    refine x_move rfl rfl rfl rfl ?_
    refine x_move rfl rfl rfl rfl ?_
    -- bs1: outright.go:73
    refine x_bs1 (cs := [strV x]) rfl rfl rfl Try.underlying22 sz9 ze9 (Z := [_]) rfl rfl (by decide) (by decide) rfl rfl rfl ?_
    intro bbs1 wbs1 hbbs1 hwbs1
    have M0 := M.acons hbbs1 hwbs1
    have hslbs1 : Sl wbs1 (.slice (some ⟨bbs1, 0, none⟩) 1 1) 1 1 [strV x] := .inr ⟨bbs1, 0, 1, _, _, _, rfl, by omega, M0.at_ 0 rfl, rfl, rfl⟩
    have M := M0.tail
    refine ⟨trivial, ?_⟩
    -- ap1: outright.go:73
    refine x_apL rfl rfl rfl rfl Try.underlying22 sz9 ze9 rfl by9 rfl rfl hs3 (M.perm (List.perm_append_comm (l₁ := []) (l₂ := L3))) (strCs_one _) (hslbs1.src Try.underlying22 (by intro u hu; simp at hu; subst hu; rfl)) (by first | omega | (simp; omega)) (by decide) (by first | omega | (simp; omega)) ?_
    intro Lo v6 wap1 how M
    have M := M.perm List.perm_append_comm
    have how := strsO_snoc how
    refine ⟨trivial, ?_⟩
    -- call4: valise/path.Join outright.go:73
    refine x_call rfl rfl rfl rfl rfl en19 (pjoin_c (strsO_at how M (fun _ h => h))) ?_
    rintro r w4 ⟨rfl, hn4⟩
    have M := M.new hn4
    rw [hjV, hjE]
    refine ⟨trivial, ?_⟩
    refine x_move rfl rfl rfl rfl ?_
    refine x_ext rfl rfl rfl rfl rfl ?_ -- ex6
    refine x_ext rfl rfl rfl rfl rfl ?_ -- ex7
    refine x_assign rfl rfl rfl rfl ?_
    refine x_assign rfl rfl rfl rfl ?_
    refine Ex.done (hK _ _ ?_)
    refine At.then_n ?_
    refine W.seq ?_
    refine W.sub [(0, _), (3, _), (4, _), (7, _), (8, _), (9, _)] ⟨rfl, rfl, rfl, rfl, rfl, rfl, trivial⟩ ?_
    refine W.reg [(0, false), (1, false), (2, false), (3, false), (4, false), (5, false), (6, false), (7, false), (8, false), (9, false), (10, false), (11, false), (12, false), (13, false), (14, true), (15, false), (16, false), (17, false), (18, false), (19, true), (20, false), (21, false), (22, false), (23, false), (24, true), (25, false), (26, false), (27, false), (28, true), (29, false), (30, false)] (by kernel_rfl) ?_ -- region 6
    intro K hK
    refine x_move rfl rfl rfl rfl ?_
    refine x_eqi true rfl rfl rfl rfl rfl (by simp [hsE]) ?_ -- eq4 outright.go:74
    refine x_move rfl rfl rfl rfl ?_
    refine x_move rfl rfl rfl rfl ?_
    refine x_eqi true rfl rfl rfl rfl rfl rfl ?_ -- eq5 outright.go:74
    refine x_pickT rfl rfl rfl rfl rfl ?_
    refine x_move rfl rfl rfl rfl ?_
    refine x_move rfl rfl rfl rfl ?_
    refine x_move rfl rfl rfl rfl ?_
    refine x_eqS true rfl rfl rfl rfl rfl (by simp) ?_ -- eq6 outright.go:74
    refine x_pickT rfl rfl rfl rfl rfl ?_
    refine x_move rfl rfl rfl rfl ?_
    refine x_move rfl rfl rfl rfl ?_
    refine x_move rfl rfl rfl rfl ?_
    -- call5: valise/path.Under outright.go:74
    refine x_call rfl rfl rfl rfl rfl en25 (under_c) ?_
    rintro r w5 ⟨rfl, hn5⟩
    have M := M.new hn5
    rw [hu1]
    refine ⟨trivial, ?_⟩
    refine x_pickT rfl rfl rfl rfl rfl ?_
    refine x_move rfl rfl rfl rfl ?_
    refine x_move rfl rfl rfl rfl ?_
    refine x_move rfl rfl rfl rfl ?_
    -- call6: valise/path.Under outright.go:74
    refine x_call rfl rfl rfl rfl rfl en25 (under_c) ?_
    rintro r w6 ⟨rfl, hn6⟩
    have M := M.new hn6
    rw [hu2]
    refine ⟨trivial, ?_⟩
    refine x_not true rfl rfl rfl rfl rfl ?_ -- un1 outright.go:74
    refine x_pickT rfl rfl rfl rfl rfl ?_
    refine x_move rfl rfl rfl rfl ?_
    refine x_move rfl rfl rfl rfl ?_
    -- call7: valise/path.Name outright.go:74
    refine x_call rfl rfl rfl rfl rfl en15 (name_c) ?_
    rintro r wcall7 ⟨rfl, hncall7⟩
    have M := M.new hncall7
    refine ⟨trivial, ?_⟩
    refine x_eqi true rfl rfl rfl rfl rfl (by rw [nameP_zero.2 hx]; rfl) ?_ -- eq7 outright.go:74
    refine x_pickT rfl rfl rfl rfl rfl ?_
    refine x_move rfl rfl rfl rfl ?_
    -- call8: valise/valiselaw13.lives outright.go:74
    refine x_call rfl rfl rfl rfl rfl en18 (lives_c) ?_
    rintro r wcall8 ⟨rfl, hncall8⟩
    have M := M.new hncall8
    refine ⟨trivial, ?_⟩
    refine x_pickT rfl rfl rfl rfl rfl ?_
    refine x_assign rfl rfl rfl rfl ?_
    refine Ex.done (hK _ _ ?_)
    refine At.then_n ?_
    refine W.ret ?_
    refine At.ret1 (.tmp 2) rfl ⟨rfl, trivial⟩ ?_ -- ret2
    exact ⟨rfl, M.frm⟩
end Go.Proofs.Ytkieecaaijlokaa
