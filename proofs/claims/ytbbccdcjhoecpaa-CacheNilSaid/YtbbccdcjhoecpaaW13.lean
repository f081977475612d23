/-
  The walk of functions of the cache, by program: cacheNil.
-/
import Derived.Test.YtbbccdcjhoecpaaTab
import Derived.Test.YtbbccdcjhoecpaaW12
namespace Go.Proofs.Ytbbccdcjhoecpaa
open Go Go.Fw Go.RowKit Go.Proofs

-- valise/valiselaw17.CacheNil
set_option maxRecDepth 100000 in
theorem cacheNil_c {w : World} {k : Key} {sv : Value} {p : Option Addr} {n cap : Nat} {made : Bool} (hs : sv = .slice p n cap) : Ret Try.prog 7 #[encK k, sv, .bool made] w fun v w' => v = .bool true ∧ New w w' := by
  have M : St None' w [] w := Frm.refl _ _
  subst hs
  refine Ret.of_W Try.func7 rfl Try.ntmps7 rfl ?_
  refine W.seq ?_
  refine W.sub [(0, _), (1, _), (2, _)] ⟨rfl, rfl, rfl, trivial⟩ ?_
  refine W.reg [(0, true), (1, false)] (by kernel_rfl) ?_ -- region 0
  intro K hK
  refine x_box [_, _] rfl rfl rfl rfl rfl ?_ -- bx1 outright.go:109
  intro bbx1 wbx1 hbbx1 hwbx1
  have M := M.alloc hbbx1 hwbx1
  refine ⟨trivial, ?_⟩
  refine x_assign rfl rfl rfl rfl ?_
  refine Ex.done (hK _ _ ?_)
  refine At.then_n ?_
  refine W.seq ?_
  refine W.sub [(1, _), (2, _), (3, _), (6, _)] ⟨rfl, rfl, rfl, rfl, trivial⟩ ?_
  refine W.reg [(0, false)] (by kernel_rfl) ?_ -- region 1
  intro K hK
  refine x_assign rfl rfl rfl rfl ?_
  refine Ex.done (hK _ _ ?_)
  refine At.then_n ?_
  refine W.seq ?_
  refine W.seq ?_
  refine W.sub [(1, _), (2, _), (3, _), (6, _), (7, _)] ⟨rfl, rfl, rfl, rfl, rfl, trivial⟩ ?_
  refine W.reg [(0, false)] (by kernel_rfl) ?_ -- region 2
  intro K hK
  refine x_move rfl rfl rfl rfl ?_
  refine Ex.done (hK _ _ ?_)
  refine At.then_n ?_
  refine W.cond rfl (fun hco1 => ?_) (fun hco1 => ?_) -- co1
  · refine W.sub [(1, _), (3, _), (6, _), (7, _)] ⟨rfl, rfl, rfl, rfl, trivial⟩ ?_
    refine W.reg [(0, false), (1, true), (2, false)] (by kernel_rfl) ?_ -- region 3
    intro K hK
    refine x_build [_, _, _, _] rfl rfl rfl pl63 ze63 rfl rfl rfl ?_ -- bu1 outright.go:112
    refine x_box [_, _, _, _] rfl rfl rfl rfl rfl ?_ -- bx2 outright.go:112
    intro bbx2 wbx2 hbbx2 hwbx2
    have M := M.alloc hbbx2 hwbx2
    refine ⟨trivial, ?_⟩
    refine x_assign rfl rfl rfl rfl ?_
    refine Ex.done (hK _ _ ?_)
    refine At.then_n ?_
    refine W.seq ?_
    refine W.sub [(1, _), (3, _), (6, _), (7, _)] ⟨rfl, rfl, rfl, rfl, trivial⟩ ?_
    refine W.reg [(0, false), (1, false), (2, true), (3, false), (4, false), (5, false), (6, false), (7, false)] (by kernel_rfl) ?_ -- region 4
    intro K hK
    refine x_move rfl rfl rfl rfl ?_
    refine x_ldA [_, _] rfl rfl rfl Try.underlying29 rfl sz29 rfl rfl ⟨_, _, _, (by first | exact M.at_ 0 rfl | exact M.at_ 1 rfl | exact M.at_ 2 rfl | exact M.at_ 3 rfl | exact M.at_ 4 rfl | exact M.at_ 5 rfl), rfl⟩ ?_ -- ld1 outright.go:114
    -- call1: (*valise/cache.Cache).Get outright.go:114
    refine x_call rfl rfl rfl rfl rfl en16 (getN_un (M.at_ 1 rfl)) ?_
    rintro v w1 ⟨rfl, hn⟩
    have M := M.new hn
    refine ⟨trivial, ?_⟩
    refine x_move rfl rfl rfl rfl ?_
    refine x_ext rfl rfl rfl rfl rfl ?_ -- ex1
    refine x_ext rfl rfl rfl rfl rfl ?_ -- ex2
    refine x_assign rfl rfl rfl rfl ?_
    refine x_assign rfl rfl rfl rfl ?_
    refine Ex.done (hK _ _ ?_)
    refine At.then_n ?_
    refine W.seq ?_
    refine W.sub [(1, _), (3, _), (6, _), (7, _), (8, _), (9, _)] ⟨rfl, rfl, rfl, rfl, rfl, rfl, trivial⟩ ?_
    refine W.reg [(0, false), (1, false), (2, false), (3, false), (4, false), (5, false), (6, false), (7, false), (8, false), (9, false), (10, false), (11, true), (12, false), (13, false), (14, false), (15, false), (16, false), (17, true), (18, false), (19, false), (20, false), (21, false), (22, false), (23, true), (24, false), (25, false), (26, false), (27, false), (28, false), (29, false), (30, true), (31, false), (32, false), (33, false), (34, false), (35, true), (36, false), (37, false), (38, false), (39, false), (40, true), (41, false), (42, false), (43, false), (44, false), (45, false), (46, false), (47, true), (48, false), (49, false), (50, false), (51, true), (52, false), (53, false)] (by kernel_rfl) ?_ -- region 5
    intro K hK
    refine x_move rfl rfl rfl rfl ?_
    refine x_len rfl rfl rfl rfl Try.underlying31 rfl ?_
    refine x_eqi true rfl rfl rfl rfl rfl rfl ?_ -- eq1 outright.go:115
    refine x_move rfl rfl rfl rfl ?_
    refine x_move rfl rfl rfl rfl ?_
    refine x_not true rfl rfl rfl rfl rfl ?_ -- un1 outright.go:115
    refine x_pickT rfl rfl rfl rfl rfl ?_
    refine x_move rfl rfl rfl rfl ?_
    refine x_move rfl rfl rfl rfl ?_
    refine x_ldA [_, _] rfl rfl rfl Try.underlying29 rfl sz29 rfl rfl ⟨_, _, _, (by first | exact M.at_ 0 rfl | exact M.at_ 1 rfl | exact M.at_ 2 rfl | exact M.at_ 3 rfl | exact M.at_ 4 rfl | exact M.at_ 5 rfl), rfl⟩ ?_ -- ld2 outright.go:115
    refine x_move rfl rfl rfl rfl ?_
    -- call2: (*valise/cache.Cache).Put outright.go:115
    refine x_call rfl rfl rfl rfl rfl en10 (putN_un (M.at_ 1 rfl)) ?_
    rintro v w1 ⟨rfl, hn⟩
    have M := M.new hn
    refine ⟨trivial, ?_⟩
    refine x_eqi true rfl rfl rfl rfl rfl rfl ?_ -- eq2 outright.go:115
    refine x_pickT rfl rfl rfl rfl rfl ?_
    refine x_move rfl rfl rfl rfl ?_
    refine x_move rfl rfl rfl rfl ?_
    refine x_ldA [_, _] rfl rfl rfl Try.underlying29 rfl sz29 rfl rfl ⟨_, _, _, (by first | exact M.at_ 0 rfl | exact M.at_ 1 rfl | exact M.at_ 2 rfl | exact M.at_ 3 rfl | exact M.at_ 4 rfl | exact M.at_ 5 rfl), rfl⟩ ?_ -- ld3 outright.go:115
    -- call3: (*valise/cache.Cache).Pin outright.go:115
    refine x_call rfl rfl rfl rfl rfl en20 (pinN_un (M.at_ 1 rfl)) ?_
    rintro v w1 ⟨rfl, hn⟩
    have M := M.new hn
    refine ⟨trivial, ?_⟩
    refine x_eqi true rfl rfl rfl rfl rfl rfl ?_ -- eq3 outright.go:115
    refine x_pickT rfl rfl rfl rfl rfl ?_
    refine x_move rfl rfl rfl rfl ?_
    refine x_move rfl rfl rfl rfl ?_
    refine x_ldA [_, _] rfl rfl rfl Try.underlying29 rfl sz29 rfl rfl ⟨_, _, _, (by first | exact M.at_ 0 rfl | exact M.at_ 1 rfl | exact M.at_ 2 rfl | exact M.at_ 3 rfl | exact M.at_ 4 rfl | exact M.at_ 5 rfl), rfl⟩ ?_ -- ld4 outright.go:115
    -- call4: (*valise/cache.Cache).Unpin outright.go:115
    refine x_call rfl rfl rfl rfl rfl en21 (unpinN_un (M.at_ 1 rfl)) ?_
    rintro v w1 ⟨rfl, hn⟩
    have M := M.new hn
    refine ⟨trivial, ?_⟩
    refine x_eqi true rfl rfl rfl rfl rfl rfl ?_ -- eq4 outright.go:115
    refine x_pickT rfl rfl rfl rfl rfl ?_
    refine x_move rfl rfl rfl rfl ?_
    refine x_move rfl rfl rfl rfl ?_
    refine x_fa rfl rfl rfl fo29_0 rfl ?_
    refine x_ld rfl rfl rfl Try.underlying9 rfl rfl (cell_of (by first | exact M.at_ 0 rfl | exact M.at_ 1 rfl | exact M.at_ 2 rfl | exact M.at_ 3 rfl | exact M.at_ 4 rfl | exact M.at_ 5 rfl) rfl) ?_ -- ld5 outright.go:115
    -- call5: (*valise/cache.Cache).Drop outright.go:115
    refine x_call rfl rfl rfl rfl rfl en23 (dropN_un (M.at_ 1 rfl)) ?_
    rintro v w1 ⟨rfl, hn⟩
    have M := M.new hn
    refine ⟨trivial, ?_⟩
    refine x_eqi true rfl rfl rfl rfl rfl rfl ?_ -- eq5 outright.go:115
    refine x_pickT rfl rfl rfl rfl rfl ?_
    refine x_move rfl rfl rfl rfl ?_
    refine x_move rfl rfl rfl rfl ?_
    -- call6: (*valise/cache.Cache).Size outright.go:115
    refine x_call rfl rfl rfl rfl rfl en15 (sizeN_un (M.at_ 1 rfl)) ?_
    rintro v w1 ⟨rfl, hn⟩
    have M := M.new hn
    refine ⟨trivial, ?_⟩
    refine x_eqi true rfl rfl rfl rfl rfl rfl ?_ -- eq6 outright.go:115
    refine x_pickT rfl rfl rfl rfl rfl ?_
    refine x_move rfl rfl rfl rfl ?_
    refine x_move rfl rfl rfl rfl ?_
    -- call7: (*valise/cache.Cache).Keys outright.go:115
    refine x_call rfl rfl rfl rfl rfl en12 (keysN_un (M.at_ 1 rfl)) ?_
    rintro v w1 ⟨rfl, hn⟩
    have M := M.new hn
    refine ⟨trivial, ?_⟩
    refine x_len rfl rfl rfl rfl Try.underlying32 rfl ?_
    refine x_eqi true rfl rfl rfl rfl rfl rfl ?_ -- eq7 outright.go:115
    refine x_pickT rfl rfl rfl rfl rfl ?_
    refine x_move rfl rfl rfl rfl ?_
    refine x_move rfl rfl rfl rfl ?_
    refine x_ldA [_, _] rfl rfl rfl Try.underlying29 rfl sz29 rfl rfl ⟨_, _, _, (by first | exact M.at_ 0 rfl | exact M.at_ 1 rfl | exact M.at_ 2 rfl | exact M.at_ 3 rfl | exact M.at_ 4 rfl | exact M.at_ 5 rfl), rfl⟩ ?_ -- ld6 outright.go:115
    -- call8: (*valise/cache.Cache).Pins outright.go:115
    refine x_call rfl rfl rfl rfl rfl en22 (pinsN_un (M.at_ 1 rfl)) ?_
    rintro v w1 ⟨rfl, hn⟩
    have M := M.new hn
    refine ⟨trivial, ?_⟩
    refine x_eqi true rfl rfl rfl rfl rfl rfl ?_ -- eq8 outright.go:115
    refine x_pickT rfl rfl rfl rfl rfl ?_
    refine x_move rfl rfl rfl rfl ?_
    -- call9: valise/valiselaw17.lives outright.go:115
    refine x_call rfl rfl rfl rfl rfl en8 (lives_c) ?_
    rintro v w1 ⟨rfl, hn⟩
    have M := M.new hn
    refine ⟨trivial, ?_⟩
    refine x_pickT rfl rfl rfl rfl rfl ?_
    refine x_assign rfl rfl rfl rfl ?_
    refine Ex.done (hK _ _ ?_)
    refine At.then_n ?_
    refine W.ret ?_
    refine At.ret1 (.tmp 6) rfl ⟨rfl, trivial⟩ ?_ -- ret1
    exact ⟨rfl, M.frm⟩
  · refine W.skip ?_
    refine At.then_n ?_
    refine W.seq ?_
    refine W.sub [(1, _), (3, _), (6, _), (7, _)] ⟨rfl, rfl, rfl, rfl, trivial⟩ ?_
    refine W.reg [(0, false), (1, false), (2, true), (3, false), (4, false), (5, false), (6, false), (7, false)] (by kernel_rfl) ?_ -- region 4
    intro K hK
    refine x_move rfl rfl rfl rfl ?_
    refine x_ldA [_, _] rfl rfl rfl Try.underlying29 rfl sz29 rfl rfl ⟨_, _, _, (by first | exact M.at_ 0 rfl | exact M.at_ 1 rfl | exact M.at_ 2 rfl | exact M.at_ 3 rfl | exact M.at_ 4 rfl | exact M.at_ 5 rfl), rfl⟩ ?_ -- ld7 outright.go:114
    -- call10: (*valise/cache.Cache).Get outright.go:114
    refine x_call rfl rfl rfl rfl rfl en16 (getN_nil) ?_
    rintro v w1 ⟨rfl, hn⟩
    have M := M.new hn
    refine ⟨trivial, ?_⟩
    refine x_move rfl rfl rfl rfl ?_
    refine x_ext rfl rfl rfl rfl rfl ?_ -- ex3
    refine x_ext rfl rfl rfl rfl rfl ?_ -- ex4
    refine x_assign rfl rfl rfl rfl ?_
    refine x_assign rfl rfl rfl rfl ?_
    refine Ex.done (hK _ _ ?_)
    refine At.then_n ?_
    refine W.seq ?_
    refine W.sub [(1, _), (3, _), (6, _), (7, _), (8, _), (9, _)] ⟨rfl, rfl, rfl, rfl, rfl, rfl, trivial⟩ ?_
    refine W.reg [(0, false), (1, false), (2, false), (3, false), (4, false), (5, false), (6, false), (7, false), (8, false), (9, false), (10, false), (11, true), (12, false), (13, false), (14, false), (15, false), (16, false), (17, true), (18, false), (19, false), (20, false), (21, false), (22, false), (23, true), (24, false), (25, false), (26, false), (27, false), (28, false), (29, false), (30, true), (31, false), (32, false), (33, false), (34, false), (35, true), (36, false), (37, false), (38, false), (39, false), (40, true), (41, false), (42, false), (43, false), (44, false), (45, false), (46, false), (47, true), (48, false), (49, false), (50, false), (51, true), (52, false), (53, false)] (by kernel_rfl) ?_ -- region 5
    intro K hK
    refine x_move rfl rfl rfl rfl ?_
    refine x_len rfl rfl rfl rfl Try.underlying31 rfl ?_
    refine x_eqi true rfl rfl rfl rfl rfl rfl ?_ -- eq9 outright.go:115
    refine x_move rfl rfl rfl rfl ?_
    refine x_move rfl rfl rfl rfl ?_
    refine x_not true rfl rfl rfl rfl rfl ?_ -- un2 outright.go:115
    refine x_pickT rfl rfl rfl rfl rfl ?_
    refine x_move rfl rfl rfl rfl ?_
    refine x_move rfl rfl rfl rfl ?_
    refine x_ldA [_, _] rfl rfl rfl Try.underlying29 rfl sz29 rfl rfl ⟨_, _, _, (by first | exact M.at_ 0 rfl | exact M.at_ 1 rfl | exact M.at_ 2 rfl | exact M.at_ 3 rfl | exact M.at_ 4 rfl | exact M.at_ 5 rfl), rfl⟩ ?_ -- ld8 outright.go:115
    refine x_move rfl rfl rfl rfl ?_
    -- call11: (*valise/cache.Cache).Put outright.go:115
    refine x_call rfl rfl rfl rfl rfl en10 (putN_nil) ?_
    rintro v w1 ⟨rfl, hn⟩
    have M := M.new hn
    refine ⟨trivial, ?_⟩
    refine x_eqi true rfl rfl rfl rfl rfl rfl ?_ -- eq10 outright.go:115
    refine x_pickT rfl rfl rfl rfl rfl ?_
    refine x_move rfl rfl rfl rfl ?_
    refine x_move rfl rfl rfl rfl ?_
    refine x_ldA [_, _] rfl rfl rfl Try.underlying29 rfl sz29 rfl rfl ⟨_, _, _, (by first | exact M.at_ 0 rfl | exact M.at_ 1 rfl | exact M.at_ 2 rfl | exact M.at_ 3 rfl | exact M.at_ 4 rfl | exact M.at_ 5 rfl), rfl⟩ ?_ -- ld9 outright.go:115
    -- call12: (*valise/cache.Cache).Pin outright.go:115
    refine x_call rfl rfl rfl rfl rfl en20 (pinN_nil) ?_
    rintro v w1 ⟨rfl, hn⟩
    have M := M.new hn
    refine ⟨trivial, ?_⟩
    refine x_eqi true rfl rfl rfl rfl rfl rfl ?_ -- eq11 outright.go:115
    refine x_pickT rfl rfl rfl rfl rfl ?_
    refine x_move rfl rfl rfl rfl ?_
    refine x_move rfl rfl rfl rfl ?_
    refine x_ldA [_, _] rfl rfl rfl Try.underlying29 rfl sz29 rfl rfl ⟨_, _, _, (by first | exact M.at_ 0 rfl | exact M.at_ 1 rfl | exact M.at_ 2 rfl | exact M.at_ 3 rfl | exact M.at_ 4 rfl | exact M.at_ 5 rfl), rfl⟩ ?_ -- ld10 outright.go:115
    -- call13: (*valise/cache.Cache).Unpin outright.go:115
    refine x_call rfl rfl rfl rfl rfl en21 (unpinN_nil) ?_
    rintro v w1 ⟨rfl, hn⟩
    have M := M.new hn
    refine ⟨trivial, ?_⟩
    refine x_eqi true rfl rfl rfl rfl rfl rfl ?_ -- eq12 outright.go:115
    refine x_pickT rfl rfl rfl rfl rfl ?_
    refine x_move rfl rfl rfl rfl ?_
    refine x_move rfl rfl rfl rfl ?_
    refine x_fa rfl rfl rfl fo29_0 rfl ?_
    refine x_ld rfl rfl rfl Try.underlying9 rfl rfl (cell_of (by first | exact M.at_ 0 rfl | exact M.at_ 1 rfl | exact M.at_ 2 rfl | exact M.at_ 3 rfl | exact M.at_ 4 rfl | exact M.at_ 5 rfl) rfl) ?_ -- ld11 outright.go:115
    -- call14: (*valise/cache.Cache).Drop outright.go:115
    refine x_call rfl rfl rfl rfl rfl en23 (dropN_nil) ?_
    rintro v w1 ⟨rfl, hn⟩
    have M := M.new hn
    refine ⟨trivial, ?_⟩
    refine x_eqi true rfl rfl rfl rfl rfl rfl ?_ -- eq13 outright.go:115
    refine x_pickT rfl rfl rfl rfl rfl ?_
    refine x_move rfl rfl rfl rfl ?_
    refine x_move rfl rfl rfl rfl ?_
    -- call15: (*valise/cache.Cache).Size outright.go:115
    refine x_call rfl rfl rfl rfl rfl en15 (sizeN_nil) ?_
    rintro v w1 ⟨rfl, hn⟩
    have M := M.new hn
    refine ⟨trivial, ?_⟩
    refine x_eqi true rfl rfl rfl rfl rfl rfl ?_ -- eq14 outright.go:115
    refine x_pickT rfl rfl rfl rfl rfl ?_
    refine x_move rfl rfl rfl rfl ?_
    refine x_move rfl rfl rfl rfl ?_
    -- call16: (*valise/cache.Cache).Keys outright.go:115
    refine x_call rfl rfl rfl rfl rfl en12 (keysN_nil) ?_
    rintro v w1 ⟨rfl, hn⟩
    have M := M.new hn
    refine ⟨trivial, ?_⟩
    refine x_len rfl rfl rfl rfl Try.underlying32 rfl ?_
    refine x_eqi true rfl rfl rfl rfl rfl rfl ?_ -- eq15 outright.go:115
    refine x_pickT rfl rfl rfl rfl rfl ?_
    refine x_move rfl rfl rfl rfl ?_
    refine x_move rfl rfl rfl rfl ?_
    refine x_ldA [_, _] rfl rfl rfl Try.underlying29 rfl sz29 rfl rfl ⟨_, _, _, (by first | exact M.at_ 0 rfl | exact M.at_ 1 rfl | exact M.at_ 2 rfl | exact M.at_ 3 rfl | exact M.at_ 4 rfl | exact M.at_ 5 rfl), rfl⟩ ?_ -- ld12 outright.go:115
    -- call17: (*valise/cache.Cache).Pins outright.go:115
    refine x_call rfl rfl rfl rfl rfl en22 (pinsN_nil) ?_
    rintro v w1 ⟨rfl, hn⟩
    have M := M.new hn
    refine ⟨trivial, ?_⟩
    refine x_eqi true rfl rfl rfl rfl rfl rfl ?_ -- eq16 outright.go:115
    refine x_pickT rfl rfl rfl rfl rfl ?_
    refine x_move rfl rfl rfl rfl ?_
    -- call18: valise/valiselaw17.lives outright.go:115
    refine x_call rfl rfl rfl rfl rfl en8 (lives_c) ?_
    rintro v w1 ⟨rfl, hn⟩
    have M := M.new hn
    refine ⟨trivial, ?_⟩
    refine x_pickT rfl rfl rfl rfl rfl ?_
    refine x_assign rfl rfl rfl rfl ?_
    refine Ex.done (hK _ _ ?_)
    refine At.then_n ?_
    refine W.ret ?_
    refine At.ret1 (.tmp 6) rfl ⟨rfl, trivial⟩ ?_ -- ret2
    exact ⟨rfl, M.frm⟩
end Go.Proofs.Ytbbccdcjhoecpaa
