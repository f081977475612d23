/-
  The walk of functions, by program: pathNames, pathCleans, pathParents, pathCompares, pathJoins.
-/
import Derived.Test.YtkieecaaijlokaaW13
namespace Go.Proofs.Ytkieecaaijlokaa
open Go Go.Fw Go.RowKit Go.Proofs
set_option linter.unusedVariables false
set_option linter.unusedSimpArgs false

-- valise/valiselaw13.PathNames
set_option maxRecDepth 100000 in
theorem pathNames_law {w0 : World} {s : List UInt8}  : Ret Try.prog 3 #[strV s] w0 fun r w' => r = .bool true ∧ New w0 w' := by
  have M : Sep w0 [] w0 := St.nil w0
  refine Ret.of_W Try.func3 rfl Try.ntmps3 rfl ?_
  refine W.seq ?_
  refine W.sub [(0, _)] ⟨rfl, trivial⟩ ?_
  refine W.reg [(0, false)] (by kernel_rfl) ?_ -- region 0
  intro K hK
  refine x_assign rfl rfl rfl rfl ?_
  refine Ex.done (hK _ _ ?_)
  refine At.then_n ?_
  refine W.seq ?_
  refine W.sub [(0, _)] ⟨rfl, trivial⟩ ?_
  refine W.reg [(0, false), (1, true), (2, false), (3, false), (4, false), (5, false), (6, false)] (by kernel_rfl) ?_ -- region 1
  intro K hK
  refine x_move rfl rfl rfl rfl ?_
  -- call1: valise/path.Split law.go:21
  refine x_call rfl rfl rfl rfl rfl en13 (split_c) ?_
  rintro r w1 ⟨v1, L1, rfl, M1, hs1⟩
  have M := M.grow M1
  refine ⟨trivial, ?_⟩
  refine x_move rfl rfl rfl rfl ?_
  refine x_ext rfl rfl rfl rfl rfl ?_ -- ex1
  refine x_ext rfl rfl rfl rfl rfl ?_ -- ex2
  refine x_assign rfl rfl rfl rfl ?_
  refine x_assign rfl rfl rfl rfl ?_
  refine Ex.done (hK _ _ ?_)
  refine At.then_n ?_
  refine W.seq ?_
  refine W.sub [(0, _), (3, _), (4, _)] ⟨rfl, rfl, rfl, trivial⟩ ?_
  refine W.reg [(0, false), (1, true), (2, false), (3, false), (4, false), (5, false), (6, false)] (by kernel_rfl) ?_ -- region 2
  intro K hK
  refine x_move rfl rfl rfl rfl ?_
  -- call2: valise/valiseref13.Split law.go:22
  refine x_call rfl rfl rfl rfl rfl en14 (rsplit_c) ?_
  rintro r w2 ⟨v2, L2, rfl, M2, hs2⟩
  have M := M.grow M2
  refine ⟨trivial, ?_⟩
  refine x_move rfl rfl rfl rfl ?_
  refine x_ext rfl rfl rfl rfl rfl ?_ -- ex3
  refine x_ext rfl rfl rfl rfl rfl ?_ -- ex4
  refine x_assign rfl rfl rfl rfl ?_
  refine x_assign rfl rfl rfl rfl ?_
  refine Ex.done (hK _ _ ?_)
  refine At.then_n ?_
  refine W.seq ?_
  refine W.sub [(0, _), (3, _), (4, _), (5, _), (6, _)] ⟨rfl, rfl, rfl, rfl, rfl, trivial⟩ ?_
  refine W.reg [(0, false), (1, true), (2, false), (3, true), (4, false), (5, false), (6, false), (7, false), (8, true), (9, false), (10, false), (11, false), (12, false), (13, false), (14, false), (15, false), (16, true), (17, false), (18, false)] (by kernel_rfl) ?_ -- region 3
  intro K hK
  refine x_move rfl rfl rfl rfl ?_
  -- call3: valise/path.Name law.go:23
  refine x_call rfl rfl rfl rfl rfl en15 (name_c) ?_
  rintro r wcall3 ⟨rfl, hncall3⟩
  have M := M.new hncall3
  refine ⟨trivial, ?_⟩
  refine x_move rfl rfl rfl rfl ?_
  -- call4: valise/valiseref13.Name law.go:23
  refine x_call rfl rfl rfl rfl rfl en16 (rname_c) ?_
  rintro r wcall4 ⟨rfl, hncall4⟩
  have M := M.new hncall4
  refine ⟨trivial, ?_⟩
  refine x_eqi true rfl rfl rfl rfl rfl (by simp) ?_ -- eq1 law.go:23
  refine x_move rfl rfl rfl rfl ?_
  refine x_move rfl rfl rfl rfl ?_
  refine x_move rfl rfl rfl rfl ?_
  -- call5: valise/valiseref13.Same law.go:23
  refine x_call rfl rfl rfl rfl rfl en17 (same_c (strsO_at hs1 M (fun _ h => List.mem_append_left _ h)) (strsO_at hs2 M (fun _ h => List.mem_append_right _ h)) (by have := splitN_len s; omega)) ?_
  rintro r w5 ⟨rfl, hn5⟩
  have M := M.new hn5
  rw [decide_eq_true (rfl : splitN s = splitN s)]
  refine ⟨trivial, ?_⟩
  refine x_pickT rfl rfl rfl rfl rfl ?_
  refine x_move rfl rfl rfl rfl ?_
  refine x_move rfl rfl rfl rfl ?_
  refine x_move rfl rfl rfl rfl ?_
  refine x_eqi true rfl rfl rfl rfl rfl (by simp) ?_ -- eq2 law.go:23
  refine x_pickT rfl rfl rfl rfl rfl ?_
  refine x_move rfl rfl rfl rfl ?_
  -- call6: valise/valiselaw13.lives law.go:23
  refine x_call rfl rfl rfl rfl rfl en18 (lives_c) ?_
  rintro r wcall6 ⟨rfl, hncall6⟩
  have M := M.new hncall6
  refine ⟨trivial, ?_⟩
  refine x_pickT rfl rfl rfl rfl rfl ?_
  refine x_assign rfl rfl rfl rfl ?_
  refine Ex.done (hK _ _ ?_)
  refine At.then_n ?_
  refine W.ret ?_
  refine At.ret1 (.tmp 2) rfl ⟨rfl, trivial⟩ ?_ -- ret1
  exact ⟨rfl, M.frm⟩

-- valise/valiselaw13.PathCleans
set_option maxRecDepth 100000 in
theorem pathCleans_law {w0 : World} {s : List UInt8}  : Ret Try.prog 5 #[strV s] w0 fun r w' => r = .bool true ∧ New w0 w' := by
  have M : Sep w0 [] w0 := St.nil w0
  refine Ret.of_W Try.func5 rfl Try.ntmps5 rfl ?_
  refine W.seq ?_
  refine W.sub [(0, _)] ⟨rfl, trivial⟩ ?_
  refine W.reg [(0, false)] (by kernel_rfl) ?_ -- region 0
  intro K hK
  refine x_assign rfl rfl rfl rfl ?_
  refine Ex.done (hK _ _ ?_)
  refine At.then_n ?_
  refine W.seq ?_
  refine W.sub [(0, _)] ⟨rfl, trivial⟩ ?_
  refine W.reg [(0, false), (1, true), (2, false), (3, false), (4, false), (5, false), (6, false)] (by kernel_rfl) ?_ -- region 1
  intro K hK
  refine x_move rfl rfl rfl rfl ?_
  -- call1: valise/path.Clean law.go:38
  refine x_call rfl rfl rfl rfl rfl en21 (clean_c) ?_
  rintro r wcall1 ⟨rfl, hncall1⟩
  have M := M.new hncall1
  refine ⟨trivial, ?_⟩
  refine x_move rfl rfl rfl rfl ?_
  refine x_ext rfl rfl rfl rfl rfl ?_ -- ex1
  refine x_ext rfl rfl rfl rfl rfl ?_ -- ex2
  refine x_assign rfl rfl rfl rfl ?_
  refine x_assign rfl rfl rfl rfl ?_
  refine Ex.done (hK _ _ ?_)
  refine At.then_n ?_
  refine W.seq ?_
  refine W.sub [(0, _), (3, _), (4, _)] ⟨rfl, rfl, rfl, trivial⟩ ?_
  refine W.reg [(0, false), (1, true), (2, false), (3, false), (4, false), (5, false), (6, false)] (by kernel_rfl) ?_ -- region 2
  intro K hK
  refine x_move rfl rfl rfl rfl ?_
  -- call2: valise/valiseref13.Clean law.go:39
  refine x_call rfl rfl rfl rfl rfl en22 (rclean_c) ?_
  rintro r wcall2 ⟨rfl, hncall2⟩
  have M := M.new hncall2
  refine ⟨trivial, ?_⟩
  refine x_move rfl rfl rfl rfl ?_
  refine x_ext rfl rfl rfl rfl rfl ?_ -- ex3
  refine x_ext rfl rfl rfl rfl rfl ?_ -- ex4
  refine x_assign rfl rfl rfl rfl ?_
  refine x_assign rfl rfl rfl rfl ?_
  refine Ex.done (hK _ _ ?_)
  refine At.then_n ?_
  refine W.seq ?_
  refine W.sub [(3, _), (4, _), (5, _), (6, _)] ⟨rfl, rfl, rfl, rfl, trivial⟩ ?_
  refine W.reg [(0, false), (1, false), (2, false), (3, false), (4, false), (5, false), (6, false), (7, false), (8, false), (9, true), (10, false), (11, false)] (by kernel_rfl) ?_ -- region 3
  intro K hK
  refine x_move rfl rfl rfl rfl ?_
  refine x_move rfl rfl rfl rfl ?_
  refine x_eqS true rfl rfl rfl rfl rfl (by simp) ?_ -- eq1 law.go:40
  refine x_move rfl rfl rfl rfl ?_
  refine x_move rfl rfl rfl rfl ?_
  refine x_move rfl rfl rfl rfl ?_
  refine x_eqi true rfl rfl rfl rfl rfl (by simp) ?_ -- eq2 law.go:40
  refine x_pickT rfl rfl rfl rfl rfl ?_
  refine x_move rfl rfl rfl rfl ?_
  -- call3: valise/valiselaw13.lives law.go:40
  refine x_call rfl rfl rfl rfl rfl en18 (lives_c) ?_
  rintro r wcall3 ⟨rfl, hncall3⟩
  have M := M.new hncall3
  refine ⟨trivial, ?_⟩
  refine x_pickT rfl rfl rfl rfl rfl ?_
  refine x_assign rfl rfl rfl rfl ?_
  refine Ex.done (hK _ _ ?_)
  refine At.then_n ?_
  refine W.ret ?_
  refine At.ret1 (.tmp 2) rfl ⟨rfl, trivial⟩ ?_ -- ret1
  exact ⟨rfl, M.frm⟩

-- valise/valiselaw13.PathParents
set_option maxRecDepth 100000 in
theorem pathParents_law {w0 : World} {s : List UInt8}  : Ret Try.prog 6 #[strV s] w0 fun r w' => r = .bool true ∧ New w0 w' := by
  have M : Sep w0 [] w0 := St.nil w0
  refine Ret.of_W Try.func6 rfl Try.ntmps6 rfl ?_
  refine W.seq ?_
  refine W.sub [(0, _)] ⟨rfl, trivial⟩ ?_
  refine W.reg [(0, false)] (by kernel_rfl) ?_ -- region 0
  intro K hK
  refine x_assign rfl rfl rfl rfl ?_
  refine Ex.done (hK _ _ ?_)
  refine At.then_n ?_
  refine W.seq ?_
  refine W.sub [(0, _)] ⟨rfl, trivial⟩ ?_
  refine W.reg [(0, false), (1, true), (2, false), (3, false), (4, false), (5, false), (6, false), (7, false), (8, false)] (by kernel_rfl) ?_ -- region 1
  intro K hK
  refine x_move rfl rfl rfl rfl ?_
  -- call1: valise/path.Parent law.go:45
  refine x_call rfl rfl rfl rfl rfl en23 (parent_c) ?_
  rintro r wcall1 ⟨rfl, hncall1⟩
  have M := M.new hncall1
  refine ⟨trivial, ?_⟩
  refine x_move rfl rfl rfl rfl ?_
  refine x_ext rfl rfl rfl rfl rfl ?_ -- ex1
  refine x_ext rfl rfl rfl rfl rfl ?_ -- ex2
  refine x_ext rfl rfl rfl rfl rfl ?_ -- ex3
  refine x_assign rfl rfl rfl rfl ?_
  refine x_assign rfl rfl rfl rfl ?_
  refine x_assign rfl rfl rfl rfl ?_
  refine Ex.done (hK _ _ ?_)
  refine At.then_n ?_
  refine W.seq ?_
  refine W.sub [(0, _), (3, _), (4, _), (5, _)] ⟨rfl, rfl, rfl, rfl, trivial⟩ ?_
  refine W.reg [(0, false), (1, true), (2, false), (3, false), (4, false), (5, false), (6, false), (7, false), (8, false)] (by kernel_rfl) ?_ -- region 2
  intro K hK
  refine x_move rfl rfl rfl rfl ?_
  -- call2: valise/valiseref13.Parent law.go:46
  refine x_call rfl rfl rfl rfl rfl en24 (rparent_c) ?_
  rintro r wcall2 ⟨rfl, hncall2⟩
  have M := M.new hncall2
  refine ⟨trivial, ?_⟩
  refine x_move rfl rfl rfl rfl ?_
  refine x_ext rfl rfl rfl rfl rfl ?_ -- ex4
  refine x_ext rfl rfl rfl rfl rfl ?_ -- ex5
  refine x_ext rfl rfl rfl rfl rfl ?_ -- ex6
  refine x_assign rfl rfl rfl rfl ?_
  refine x_assign rfl rfl rfl rfl ?_
  refine x_assign rfl rfl rfl rfl ?_
  refine Ex.done (hK _ _ ?_)
  refine At.then_n ?_
  refine W.seq ?_
  refine W.sub [(3, _), (4, _), (5, _), (6, _), (7, _), (8, _)] ⟨rfl, rfl, rfl, rfl, rfl, rfl, trivial⟩ ?_
  refine W.reg [(0, false), (1, false), (2, false), (3, false), (4, false), (5, false), (6, false), (7, false), (8, false), (9, false), (10, false), (11, false), (12, false), (13, false), (14, true), (15, false), (16, false)] (by kernel_rfl) ?_ -- region 3
  intro K hK
  refine x_move rfl rfl rfl rfl ?_
  refine x_move rfl rfl rfl rfl ?_
  refine x_eqS true rfl rfl rfl rfl rfl (by simp) ?_ -- eq1 law.go:47
  refine x_move rfl rfl rfl rfl ?_
  refine x_move rfl rfl rfl rfl ?_
  refine x_move rfl rfl rfl rfl ?_
  refine x_eqS true rfl rfl rfl rfl rfl (by simp) ?_ -- eq2 law.go:47
  refine x_pickT rfl rfl rfl rfl rfl ?_
  refine x_move rfl rfl rfl rfl ?_
  refine x_move rfl rfl rfl rfl ?_
  refine x_move rfl rfl rfl rfl ?_
  refine x_eqi true rfl rfl rfl rfl rfl (by simp) ?_ -- eq3 law.go:47
  refine x_pickT rfl rfl rfl rfl rfl ?_
  refine x_move rfl rfl rfl rfl ?_
  -- call3: valise/valiselaw13.lives law.go:47
  refine x_call rfl rfl rfl rfl rfl en18 (lives_c) ?_
  rintro r wcall3 ⟨rfl, hncall3⟩
  have M := M.new hncall3
  refine ⟨trivial, ?_⟩
  refine x_pickT rfl rfl rfl rfl rfl ?_
  refine x_assign rfl rfl rfl rfl ?_
  refine Ex.done (hK _ _ ?_)
  refine At.then_n ?_
  refine W.ret ?_
  refine At.ret1 (.tmp 2) rfl ⟨rfl, trivial⟩ ?_ -- ret1
  exact ⟨rfl, M.frm⟩

-- valise/valiselaw13.PathCompares
set_option maxRecDepth 100000 in
theorem pathCompares_law {w0 : World} {a b : List UInt8} (hla : a.length ≤ 1099511627776) (hlb : b.length ≤ 1099511627776) : Ret Try.prog 7 #[strV a, strV b] w0 fun r w' => r = .bool true ∧ New w0 w' := by
  have M : Sep w0 [] w0 := St.nil w0
  refine Ret.of_W Try.func7 rfl Try.ntmps7 rfl ?_
  refine W.seq ?_
  refine W.sub [(0, _), (1, _)] ⟨rfl, rfl, trivial⟩ ?_
  refine W.reg [(0, false)] (by kernel_rfl) ?_ -- region 0
  intro K hK
  refine x_assign rfl rfl rfl rfl ?_
  refine Ex.done (hK _ _ ?_)
  refine At.then_n ?_
  refine W.seq ?_
  refine W.sub [(0, _), (1, _)] ⟨rfl, rfl, trivial⟩ ?_
  refine W.reg [(0, false), (1, false), (2, true), (3, false), (4, false), (5, true), (6, false), (7, false), (8, false), (9, false), (10, true), (11, false), (12, false), (13, true), (14, false), (15, false), (16, false), (17, true), (18, false), (19, false)] (by kernel_rfl) ?_ -- region 1
  intro K hK
  refine x_move rfl rfl rfl rfl ?_
  refine x_move rfl rfl rfl rfl ?_
  -- call1: valise/path.Under law.go:52
  refine x_call rfl rfl rfl rfl rfl en25 (under_c) ?_
  rintro r wcall1 ⟨rfl, hncall1⟩
  have M := M.new hncall1
  refine ⟨trivial, ?_⟩
  refine x_move rfl rfl rfl rfl ?_
  refine x_move rfl rfl rfl rfl ?_
  -- call2: valise/valiseref13.Under law.go:52
  refine x_call rfl rfl rfl rfl rfl en26 (runder_c) ?_
  rintro r wcall2 ⟨rfl, hncall2⟩
  have M := M.new hncall2
  refine ⟨trivial, ?_⟩
  refine x_eqb true rfl rfl rfl Try.underlying4 rfl rfl (by simp) ?_ -- eq1 law.go:52
  refine x_move rfl rfl rfl rfl ?_
  refine x_move rfl rfl rfl rfl ?_
  refine x_move rfl rfl rfl rfl ?_
  -- call3: valise/path.Compare law.go:52
  refine x_call rfl rfl rfl rfl rfl en27 (compare_c (by omega) (by omega)) ?_
  rintro r wcall3 ⟨rfl, hncall3⟩
  have M := M.new hncall3
  refine ⟨trivial, ?_⟩
  refine x_move rfl rfl rfl rfl ?_
  refine x_move rfl rfl rfl rfl ?_
  -- call4: valise/valiseref13.Compare law.go:52
  refine x_call rfl rfl rfl rfl rfl en28 (rcompare_c (by omega) (by omega)) ?_
  rintro r wcall4 ⟨rfl, hncall4⟩
  have M := M.new hncall4
  refine ⟨trivial, ?_⟩
  refine x_eqi true rfl rfl rfl rfl rfl (by simp) ?_ -- eq2 law.go:52
  refine x_pickT rfl rfl rfl rfl rfl ?_
  refine x_move rfl rfl rfl rfl ?_
  -- call5: valise/valiselaw13.lives law.go:52
  refine x_call rfl rfl rfl rfl rfl en18 (lives_c) ?_
  rintro r wcall5 ⟨rfl, hncall5⟩
  have M := M.new hncall5
  refine ⟨trivial, ?_⟩
  refine x_pickT rfl rfl rfl rfl rfl ?_
  refine x_assign rfl rfl rfl rfl ?_
  refine Ex.done (hK _ _ ?_)
  refine At.then_n ?_
  refine W.ret ?_
  refine At.ret1 (.tmp 4) rfl ⟨rfl, trivial⟩ ?_ -- ret1
  exact ⟨rfl, M.frm⟩

-- valise/valiselaw13.PathJoins
set_option maxRecDepth 100000 in
theorem pathJoins_law {w0 : World} {v : Value} {l : List (List UInt8)} (h : StrsAt w0 v l) : Ret Try.prog 4 #[v] w0 fun r w' => r = .bool true ∧ New w0 w' := by
  have M : Sep w0 [] w0 := St.nil w0
  obtain ⟨p, cap, rfl⟩ := h.shape
  refine Ret.of_W Try.func4 rfl Try.ntmps4 rfl ?_
  refine W.seq ?_
  refine W.sub [(0, _)] ⟨rfl, trivial⟩ ?_
  refine W.reg [(0, false)] (by kernel_rfl) ?_ -- region 0
  intro K hK
  refine x_assign rfl rfl rfl rfl ?_
  refine Ex.done (hK _ _ ?_)
  refine At.then_n ?_
  refine W.seq ?_
  refine W.seq ?_
  refine W.sub [(0, _)] ⟨rfl, trivial⟩ ?_
  refine W.reg [(0, false), (1, false), (2, false)] (by kernel_rfl) ?_ -- region 1
  intro K hK
  refine x_move rfl rfl rfl rfl ?_
  refine x_len rfl rfl rfl rfl Try.underlying22 rfl ?_
  refine x_gtr _ rfl rfl rfl rfl rfl rfl ?_ -- cm1 law.go:28
  refine Ex.done (hK _ _ ?_)
  refine At.then_n ?_
  refine W.cond rfl (fun hco1 => ?_) (fun hco1 => ?_) -- co1
  · try simp only [decide_eq_true_eq, decide_eq_false_iff_not, Bool.not_eq_true', Bool.not_eq_false', beq_iff_eq, bne_iff_ne, ne_eq, Bool.not_eq_eq_eq_not, Bool.not_true, Bool.not_false, beq_eq_false_iff_ne, bne_eq_false_iff_eq, Bool.not_not, gt_iff_lt, ge_iff_le] at hco1
    refine W.seq ?_
    refine W.sub [] trivial ?_
    refine W.reg [(0, true), (1, false)] (by kernel_rfl) ?_ -- region 2
    intro K hK
    -- call1: valise/valiselaw13.lives law.go:29
    refine x_call rfl rfl rfl rfl rfl en18 (lives_c) ?_
    rintro r wcall1 ⟨rfl, hncall1⟩
    have M := M.new hncall1
    refine ⟨trivial, ?_⟩
    refine x_assign rfl rfl rfl rfl ?_
    refine Ex.done (hK _ _ ?_)
    refine At.then_n ?_
    refine W.ret ?_
    refine At.then_r ?_
    refine At.ret1 (.tmp 2) rfl ⟨rfl, trivial⟩ ?_ -- ret1
    exact ⟨rfl, M.frm⟩
  · try simp only [decide_eq_true_eq, decide_eq_false_iff_not, Bool.not_eq_true', Bool.not_eq_false', beq_iff_eq, bne_iff_ne, ne_eq, Bool.not_eq_eq_eq_not, Bool.not_true, Bool.not_false, beq_eq_false_iff_ne, bne_eq_false_iff_eq, Bool.not_not, gt_iff_lt, ge_iff_le] at hco1
    refine W.skip ?_
    refine At.then_n ?_
    refine W.seq ?_
    refine W.sub [(0, _)] ⟨rfl, trivial⟩ ?_
    refine W.reg [(0, true), (1, false), (2, true), (3, true), (4, false), (5, false), (6, false), (7, false), (8, false)] (by kernel_rfl) ?_ -- region 3
    intro K hK
    -- bs1: law.go:31
    refine x_bs0 rfl rfl rfl Try.underlying22 sz9 ?_
    intro b1 w1 hb1 hw1
    have M := M.acons hb1 hw1
    refine ⟨trivial, ?_⟩
    refine x_move rfl rfl rfl rfl ?_
    -- ap1: law.go:31
    refine x_apL (L := [_]) (L0 := []) (cs := []) (nn := 0) rfl rfl rfl rfl Try.underlying22 sz9 ze9 rfl by9 rfl rfl (.inr ⟨b1, 0, [], _, rfl, rfl, rfl, rfl⟩) M (by simp) ((h.new M.frm).src Try.underlying22 (strCs_one _)) (by omega) (by decide) (by omega) ?_
    intro Lo v6 w6 how M
    rw [Nat.zero_add, List.nil_append] at how
    have hv6 : StrsO Lo v6 l := how
    refine ⟨trivial, ?_⟩
    -- call2: valise/path.Join law.go:31
    refine x_call rfl rfl rfl rfl rfl en19 (pjoin_c (strsO_at hv6 M (fun _ h => List.mem_append_left _ h))) ?_
    rintro r w2 ⟨rfl, hn2⟩
    have M := M.new hn2
    refine ⟨trivial, ?_⟩
    refine x_move rfl rfl rfl rfl ?_
    refine x_ext rfl rfl rfl rfl rfl ?_ -- ex1
    refine x_ext rfl rfl rfl rfl rfl ?_ -- ex2
    refine x_assign rfl rfl rfl rfl ?_
    refine x_assign rfl rfl rfl rfl ?_
    refine Ex.done (hK _ _ ?_)
    refine At.then_n ?_
    refine W.seq ?_
    refine W.sub [(0, _), (3, _), (4, _)] ⟨rfl, rfl, rfl, trivial⟩ ?_
    refine W.reg [(0, false), (1, true), (2, false), (3, false), (4, false), (5, false), (6, false)] (by kernel_rfl) ?_ -- region 4
    intro K hK
    refine x_move rfl rfl rfl rfl ?_
    -- call3: valise/valiseref13.Join law.go:32
    refine x_call rfl rfl rfl rfl rfl en20 (rjoin_c (h.new M.frm)) ?_
    rintro r w3 ⟨rfl, hn3⟩
    have M := M.new hn3
    refine ⟨trivial, ?_⟩
    refine x_move rfl rfl rfl rfl ?_
    refine x_ext rfl rfl rfl rfl rfl ?_ -- ex3
    refine x_ext rfl rfl rfl rfl rfl ?_ -- ex4
    refine x_assign rfl rfl rfl rfl ?_
    refine x_assign rfl rfl rfl rfl ?_
    refine Ex.done (hK _ _ ?_)
    refine At.then_n ?_
    refine W.seq ?_
    refine W.sub [(3, _), (4, _), (5, _), (6, _)] ⟨rfl, rfl, rfl, rfl, trivial⟩ ?_
    refine W.reg [(0, false), (1, false), (2, false), (3, false), (4, false), (5, false), (6, false), (7, false), (8, false), (9, true), (10, false), (11, false)] (by kernel_rfl) ?_ -- region 5
    intro K hK
    refine x_move rfl rfl rfl rfl ?_
    refine x_move rfl rfl rfl rfl ?_
    refine x_eqS true rfl rfl rfl rfl rfl (by simp) ?_ -- eq1 law.go:33
    refine x_move rfl rfl rfl rfl ?_
    refine x_move rfl rfl rfl rfl ?_
    refine x_move rfl rfl rfl rfl ?_
    refine x_eqi true rfl rfl rfl rfl rfl (by simp) ?_ -- eq2 law.go:33
    refine x_pickT rfl rfl rfl rfl rfl ?_
    refine x_move rfl rfl rfl rfl ?_
    -- call4: valise/valiselaw13.lives law.go:33
    refine x_call rfl rfl rfl rfl rfl en18 (lives_c) ?_
    rintro r wcall4 ⟨rfl, hncall4⟩
    have M := M.new hncall4
    refine ⟨trivial, ?_⟩
    refine x_pickT rfl rfl rfl rfl rfl ?_
    refine x_assign rfl rfl rfl rfl ?_
    refine Ex.done (hK _ _ ?_)
    refine At.then_n ?_
    refine W.ret ?_
    refine At.ret1 (.tmp 2) rfl ⟨rfl, trivial⟩ ?_ -- ret2
    exact ⟨rfl, M.frm⟩
end Go.Proofs.Ytkieecaaijlokaa
