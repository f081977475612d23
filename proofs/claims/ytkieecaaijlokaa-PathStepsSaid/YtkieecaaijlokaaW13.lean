/-
  The walk of functions, by program: sign, lives.
-/
import Derived.Test.YtkieecaaijlokaaW12
namespace Go.Proofs.Ytkieecaaijlokaa
open Go Go.Fw Go.RowKit Go.Proofs
set_option linter.unusedVariables false
set_option linter.unusedSimpArgs false

-- valise/valiselaw13.sign
set_option maxRecDepth 100000 in
theorem sign_c {w0 : World} {z : Int}  : Ret Try.prog 29 #[.int .i64 z] w0 fun r w' => r = .int .i64 (min 1 (max (-1) z)) ∧ New w0 w' := by
  have M : Sep w0 [] w0 := St.nil w0
  refine Ret.of_W Try.func29 rfl Try.ntmps29 rfl ?_
  refine W.seq ?_
  refine W.sub [(0, _)] ⟨rfl, trivial⟩ ?_
  refine W.reg [(0, false)] (by kernel_rfl) ?_ -- region 0
  intro K hK
  refine x_assign rfl rfl rfl rfl ?_
  refine Ex.done (hK _ _ ?_)
  refine At.then_n ?_
  refine W.seq ?_
  refine W.sub [(0, _)] ⟨rfl, trivial⟩ ?_
  refine W.reg [(0, false), (1, false), (2, false), (3, false)] (by kernel_rfl) ?_ -- region 1
  intro K hK
  refine x_move rfl rfl rfl rfl ?_
  refine x_max _ rfl rfl rfl rfl rfl rfl ?_ -- mx1 outright.go:42
  refine x_min _ rfl rfl rfl rfl rfl rfl ?_ -- mi1 outright.go:42
  refine x_assign rfl rfl rfl rfl ?_
  refine Ex.done (hK _ _ ?_)
  refine At.then_n ?_
  refine W.ret ?_
  refine At.ret1 (.tmp 2) rfl ⟨rfl, trivial⟩ ?_ -- ret1
  exact ⟨by congr 1; split <;> (try split) <;> omega, M.frm⟩

-- valise/valiselaw13.lives
set_option maxRecDepth 100000 in
set_option maxHeartbeats 1000000 in
theorem lives_c {w0 : World}   : Ret Try.prog 18 #[] w0 fun r w' => r = .bool true ∧ New w0 w' := by
  have M : Sep w0 [] w0 := St.nil w0
  refine Ret.of_W Try.func18 rfl Try.ntmps18 rfl ?_
  refine W.seq ?_
  refine W.sub [] trivial ?_
  refine W.reg [(0, false)] (by kernel_rfl) ?_ -- region 0
  intro K hK
  refine x_assign rfl rfl rfl rfl ?_
  refine Ex.done (hK _ _ ?_)
  refine At.then_n ?_
  refine W.seq ?_
  refine W.sub [] trivial ?_
  refine W.reg [(0, true), (1, false), (2, false), (3, false), (4, false), (5, false)] (by kernel_rfl) ?_ -- region 1
  intro K hK
  -- call1: valise/path.Clean law.go:12
  refine x_call rfl rfl rfl rfl rfl en21 (clean_c) ?_
  rintro r wcall1 ⟨rfl, hncall1⟩
  have M := M.new hncall1
  refine ⟨trivial, ?_⟩
  refine x_move rfl rfl rfl rfl ?_
  refine x_ext rfl rfl rfl rfl rfl ?_ -- ex1
  refine x_ext rfl rfl rfl rfl rfl ?_ -- ex2
  refine x_assign rfl rfl rfl rfl ?_
  refine x_assign rfl rfl rfl rfl ?_
  refine Ex.done (hK _ _ ?_)
  refine At.then_n ?_
  refine W.seq ?_
  refine W.sub [(1, _), (2, _)] ⟨rfl, rfl, trivial⟩ ?_
  refine W.reg [(0, true), (1, false), (2, false), (3, false), (4, false), (5, false)] (by kernel_rfl) ?_ -- region 2
  intro K hK
  -- call2: valise/path.Clean law.go:13
  refine x_call rfl rfl rfl rfl rfl en21 (clean_c) ?_
  rintro r wcall2 ⟨rfl, hncall2⟩
  have M := M.new hncall2
  refine ⟨trivial, ?_⟩
  refine x_move rfl rfl rfl rfl ?_
  refine x_ext rfl rfl rfl rfl rfl ?_ -- ex3
  refine x_ext rfl rfl rfl rfl rfl ?_ -- ex4
  refine x_assign rfl rfl rfl rfl ?_
  refine x_assign rfl rfl rfl rfl ?_
  refine Ex.done (hK _ _ ?_)
  refine At.then_n ?_
  refine W.seq ?_
  refine W.sub [(1, _), (2, _), (4, _)] ⟨rfl, rfl, rfl, trivial⟩ ?_
  refine W.reg [(0, true), (1, false), (2, false), (3, false), (4, false), (5, false), (6, false), (7, false)] (by kernel_rfl) ?_ -- region 3
  intro K hK
  -- call3: valise/path.Parent law.go:14
  refine x_call rfl rfl rfl rfl rfl en23 (parent_c) ?_
  rintro r wcall3 ⟨rfl, hncall3⟩
  have M := M.new hncall3
  refine ⟨trivial, ?_⟩
  refine x_move rfl rfl rfl rfl ?_
  refine x_ext rfl rfl rfl rfl rfl ?_ -- ex5
  refine x_ext rfl rfl rfl rfl rfl ?_ -- ex6
  refine x_ext rfl rfl rfl rfl rfl ?_ -- ex7
  refine x_assign rfl rfl rfl rfl ?_
  refine x_assign rfl rfl rfl rfl ?_
  refine x_assign rfl rfl rfl rfl ?_
  refine Ex.done (hK _ _ ?_)
  refine At.then_n ?_
  refine W.seq ?_
  refine W.sub [(1, _), (2, _), (4, _), (5, _), (6, _), (7, _)] ⟨rfl, rfl, rfl, rfl, rfl, rfl, trivial⟩ ?_
  refine W.reg [(0, true), (1, false), (2, false), (3, false), (4, false), (5, false)] (by kernel_rfl) ?_ -- region 4
  intro K hK
  -- call4: valise/path.Split law.go:15
  refine x_call rfl rfl rfl rfl rfl en13 (split_c) ?_
  rintro r w4 ⟨v4, L4, rfl, M4, hs4⟩
  have M := M.grow M4
  refine ⟨trivial, ?_⟩
  refine x_move rfl rfl rfl rfl ?_
  refine x_ext rfl rfl rfl rfl rfl ?_ -- ex8
  refine x_ext rfl rfl rfl rfl rfl ?_ -- ex9
  refine x_assign rfl rfl rfl rfl ?_
  refine x_assign rfl rfl rfl rfl ?_
  refine Ex.done (hK _ _ ?_)
  refine At.then_n ?_
  refine W.seq ?_
  refine W.sub [(1, _), (2, _), (4, _), (5, _), (6, _), (7, _), (8, _), (9, _)] ⟨rfl, rfl, rfl, rfl, rfl, rfl, rfl, rfl, trivial⟩ ?_
  refine W.reg [(0, false), (1, false), (2, false), (3, false), (4, false), (5, false), (6, false), (7, false), (8, false), (9, false), (10, false), (11, false), (12, false), (13, false), (14, false), (15, false), (16, false), (17, false), (18, false), (19, false), (20, false), (21, false), (22, false), (23, false), (24, true), (25, true), (26, false), (27, false), (28, false), (29, false), (30, false), (31, false), (32, true), (33, false), (34, false), (35, false), (36, true), (37, false), (38, false), (39, true), (40, false), (41, false), (42, false), (43, false), (44, false), (45, false), (46, false)] (by kernel_rfl) ?_ -- region 5
  intro K hK
  refine x_move rfl rfl rfl rfl ?_
  refine x_eqS true rfl rfl rfl rfl rfl (by decide +kernel) ?_ -- eq1 law.go:16
  refine x_move rfl rfl rfl rfl ?_
  refine x_move rfl rfl rfl rfl ?_
  refine x_eqi true rfl rfl rfl rfl rfl (by decide +kernel) ?_ -- eq2 law.go:16
  refine x_pickT rfl rfl rfl rfl rfl ?_
  refine x_move rfl rfl rfl rfl ?_
  refine x_move rfl rfl rfl rfl ?_
  refine x_eqi true rfl rfl rfl rfl rfl (by decide +kernel) ?_ -- eq3 law.go:16
  refine x_pickT rfl rfl rfl rfl rfl ?_
  refine x_move rfl rfl rfl rfl ?_
  refine x_move rfl rfl rfl rfl ?_
  refine x_eqS true rfl rfl rfl rfl rfl (by decide +kernel) ?_ -- eq4 law.go:16
  refine x_pickT rfl rfl rfl rfl rfl ?_
  refine x_move rfl rfl rfl rfl ?_
  refine x_move rfl rfl rfl rfl ?_
  refine x_eqS true rfl rfl rfl rfl rfl (by decide +kernel) ?_ -- eq5 law.go:16
  refine x_pickT rfl rfl rfl rfl rfl ?_
  refine x_move rfl rfl rfl rfl ?_
  refine x_move rfl rfl rfl rfl ?_
  refine x_eqi true rfl rfl rfl rfl rfl (by decide +kernel) ?_ -- eq6 law.go:16
  refine x_pickT rfl rfl rfl rfl rfl ?_
  refine x_move rfl rfl rfl rfl ?_
  refine x_move rfl rfl rfl rfl ?_
  -- bs1: law.go:16
  refine x_bsN [strV [97], strV [98, 32, 99]] rfl rfl rfl Try.underlying22 sz9 ze9 (Z := [_]) rfl rfl (by decide) (by decide) rfl (by kernel_rfl) ?_
  intro bb wb hbb hwb
  have M := M.acons hbb hwb
  have hSl : StrsAt wb (.slice (some ⟨bb, 0, none⟩) 2 2) [[97], [98, 32, 99]] := .inr (.inr ⟨bb, 0, 2, _, _, _, rfl, by decide, M.at_ 0 rfl, rfl, rfl⟩)
  refine ⟨trivial, ?_⟩
  -- call5: valise/valiseref13.Same law.go:16
  refine x_call rfl rfl rfl rfl rfl en17 (same_c (strsO_at hs4 M (fun _ h => List.mem_cons_of_mem _ h)) hSl (by decide +kernel)) ?_
  rintro r w5 ⟨rfl, hn5⟩
  have M := M.new hn5
  rw [show decide (splitN [97, 47, 98, 32, 99] = [[97], [98, 32, 99]]) = true from by decide +kernel]
  refine ⟨trivial, ?_⟩
  refine x_pickT rfl rfl rfl rfl rfl ?_
  refine x_move rfl rfl rfl rfl ?_
  refine x_move rfl rfl rfl rfl ?_
  refine x_eqi true rfl rfl rfl rfl rfl (by decide +kernel) ?_ -- eq7 law.go:16
  refine x_pickT rfl rfl rfl rfl rfl ?_
  refine x_move rfl rfl rfl rfl ?_
  -- call6: valise/path.Under law.go:16
  refine x_call rfl rfl rfl rfl rfl en25 (under_c) ?_
  rintro r w6 ⟨rfl, hn6⟩
  have M := M.new hn6
  rw [show underP [97, 98] [97] = false from by decide +kernel]
  refine ⟨trivial, ?_⟩
  refine x_not true rfl rfl rfl rfl rfl ?_ -- un1 law.go:16
  refine x_pickT rfl rfl rfl rfl rfl ?_
  refine x_move rfl rfl rfl rfl ?_
  -- call7: valise/path.Under law.go:16
  refine x_call rfl rfl rfl rfl rfl en25 (under_c) ?_
  rintro r w7 ⟨rfl, hn7⟩
  have M := M.new hn7
  rw [show underP [97, 47, 98] [97] = true from by decide +kernel]
  refine ⟨trivial, ?_⟩
  refine x_pickT rfl rfl rfl rfl rfl ?_
  refine x_move rfl rfl rfl rfl ?_
  -- call8: valise/path.Compare law.go:16
  refine x_call rfl rfl rfl rfl rfl en27 (compare_c (by decide) (by decide)) ?_
  rintro r w8 ⟨rfl, hn8⟩
  have M := M.new hn8
  refine ⟨trivial, ?_⟩
  refine x_eqi true rfl rfl rfl rfl rfl (by decide +kernel) ?_ -- eq8 law.go:16
  refine x_pickT rfl rfl rfl rfl rfl ?_
  refine x_move rfl rfl rfl rfl ?_
  refine x_pickT rfl rfl rfl rfl rfl ?_
  refine x_move rfl rfl rfl rfl ?_
  refine x_pickT rfl rfl rfl rfl rfl ?_
  refine x_assign rfl rfl rfl rfl ?_
  refine Ex.done (hK _ _ ?_)
  refine At.then_n ?_
  refine W.ret ?_
  refine At.ret1 (.tmp 0) rfl ⟨rfl, trivial⟩ ?_ -- ret1
  exact ⟨rfl, M.frm⟩
end Go.Proofs.Ytkieecaaijlokaa
