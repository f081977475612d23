/-
  The walk of functions of the cache, by program: getN_nil, getN_un, putN_nil, putN_un, pin3N_nil, pin3N_un, pinN_nil, pinN_un, unpinN_nil, unpinN_un, dropN_nil, dropN_un, sizeN_nil, sizeN_un, keysN_nil, keysN_un, pinsN_nil, pinsN_un, key_c.
-/
import Derived.Test.YtbbccdcjhoecpaaTab
import Derived.Test.YtbbccdcjhoecpaaW1
import Derived.Test.YtbbccdcjhoecpaaFwH
import Derived.Test.YtbbccdcjhoecpaaK1
namespace Go.Proofs.Ytbbccdcjhoecpaa
open Go Go.Fw Go.RowKit Go.Proofs

-- (*valise/cache.Cache).Get
set_option maxRecDepth 100000 in
theorem getN_nil {w : World} {k : Key} : Ret Try.prog 16 #[.pointer none, encK k] w fun v w' => v = .tuple #[.slice none 0 0, .bool false] ∧ New w w' := by
  have M : St None' w [] w := Frm.refl _ _
  refine Ret.of_W Try.func16 rfl Try.ntmps16 rfl ?_
  refine W.seq ?_
  refine W.sub [(0, _), (1, _)] ⟨rfl, rfl, trivial⟩ ?_
  refine W.reg [(0, true), (1, false), (2, false)] (by kernel_rfl) ?_ -- region 0
  intro K hK
  refine x_box [_, _] rfl rfl rfl rfl rfl ?_ -- bx1 cache.go:100
  intro bbx1 wbx1 hbbx1 hwbx1
  have M := M.alloc hbbx1 hwbx1
  refine ⟨trivial, ?_⟩
  refine x_assign rfl rfl rfl rfl ?_
  refine x_assign rfl rfl rfl rfl ?_
  refine Ex.done (hK _ _ ?_)
  refine At.then_n ?_
  refine W.seq ?_
  refine W.seq ?_
  refine W.sub [(0, _), (3, _), (4, _), (5, _)] ⟨rfl, rfl, rfl, rfl, trivial⟩ ?_
  refine W.reg [(0, false), (1, true), (2, false)] (by kernel_rfl) ?_ -- region 1
  intro K hK
  refine x_move rfl rfl rfl rfl ?_
  -- call1: (*valise/cache.Cache).made cache.go:101
  refine x_call rfl rfl rfl rfl rfl en25 (made_nil) ?_
  rintro v w1 ⟨rfl, rfl⟩
  refine ⟨trivial, ?_⟩
  refine x_not true rfl rfl rfl rfl rfl ?_ -- un1 cache.go:101
  refine Ex.done (hK _ _ ?_)
  refine At.then_n ?_
  refine W.condT rfl ?_ -- co1
  refine W.seq ?_
  refine W.sub [(0, _), (3, _), (4, _), (5, _)] ⟨rfl, rfl, rfl, rfl, trivial⟩ ?_
  refine W.reg [(0, false), (1, false)] (by kernel_rfl) ?_ -- region 2
  intro K hK
  refine x_assign rfl rfl rfl rfl ?_
  refine x_assign rfl rfl rfl rfl ?_
  refine Ex.done (hK _ _ ?_)
  refine At.then_n ?_
  refine W.ret ?_
  refine At.then_r ?_
  refine At.ret2 (.tmp 4) (.tmp 5) rfl ⟨rfl, rfl, trivial⟩ ?_ -- ret1
  exact ⟨rfl, M.frm⟩

-- (*valise/cache.Cache).Get
set_option maxRecDepth 100000 in
theorem getN_un {w : World} {c : Nat} {x y z : Value} {T : TypeId} {k : Key} (hc : w.heap[c]? = some (.cells [x, y, z, .map none].toArray T (0, 0))) : Ret Try.prog 16 #[.pointer (some ⟨c, 0, none⟩), encK k] w fun v w' => v = .tuple #[.slice none 0 0, .bool false] ∧ New w w' := by
  have M : St None' w [] w := Frm.refl _ _
  refine Ret.of_W Try.func16 rfl Try.ntmps16 rfl ?_
  refine W.seq ?_
  refine W.sub [(0, _), (1, _)] ⟨rfl, rfl, trivial⟩ ?_
  refine W.reg [(0, true), (1, false), (2, false)] (by kernel_rfl) ?_ -- region 0
  intro K hK
  refine x_box [_, _] rfl rfl rfl rfl rfl ?_ -- bx1 cache.go:100
  intro bbx1 wbx1 hbbx1 hwbx1
  have M := M.alloc hbbx1 hwbx1
  refine ⟨trivial, ?_⟩
  refine x_assign rfl rfl rfl rfl ?_
  refine x_assign rfl rfl rfl rfl ?_
  refine Ex.done (hK _ _ ?_)
  refine At.then_n ?_
  refine W.seq ?_
  refine W.seq ?_
  refine W.sub [(0, _), (3, _), (4, _), (5, _)] ⟨rfl, rfl, rfl, rfl, trivial⟩ ?_
  refine W.reg [(0, false), (1, true), (2, false)] (by kernel_rfl) ?_ -- region 1
  intro K hK
  refine x_move rfl rfl rfl rfl ?_
  -- call1: (*valise/cache.Cache).made cache.go:101
  refine x_call rfl rfl rfl rfl rfl en25 (made_un (New.keep M.frm hc)) ?_
  rintro v w1 ⟨rfl, rfl⟩
  refine ⟨trivial, ?_⟩
  refine x_not true rfl rfl rfl rfl rfl ?_ -- un1 cache.go:101
  refine Ex.done (hK _ _ ?_)
  refine At.then_n ?_
  refine W.condT rfl ?_ -- co1
  refine W.seq ?_
  refine W.sub [(0, _), (3, _), (4, _), (5, _)] ⟨rfl, rfl, rfl, rfl, trivial⟩ ?_
  refine W.reg [(0, false), (1, false)] (by kernel_rfl) ?_ -- region 2
  intro K hK
  refine x_assign rfl rfl rfl rfl ?_
  refine x_assign rfl rfl rfl rfl ?_
  refine Ex.done (hK _ _ ?_)
  refine At.then_n ?_
  refine W.ret ?_
  refine At.then_r ?_
  refine At.ret2 (.tmp 4) (.tmp 5) rfl ⟨rfl, rfl, trivial⟩ ?_ -- ret1
  exact ⟨rfl, M.frm⟩

-- (*valise/cache.Cache).Put
set_option maxRecDepth 100000 in
theorem putN_nil {w : World} {k : Key} {sv : Value} : Ret Try.prog 10 #[.pointer none, encK k, sv] w fun v w' => v = .int .i64 1 ∧ New w w' := by
  have M : St None' w [] w := Frm.refl _ _
  refine Ret.of_W Try.func10 rfl Try.ntmps10 rfl ?_
  refine W.seq ?_
  refine W.sub [(0, _), (1, _), (2, _)] ⟨rfl, rfl, rfl, trivial⟩ ?_
  refine W.reg [(0, true), (1, true), (2, false)] (by kernel_rfl) ?_ -- region 0
  intro K hK
  refine x_box [_] rfl rfl rfl rfl rfl ?_ -- bx1 cache.go:124
  intro bbx1 wbx1 hbbx1 hwbx1
  have M := M.alloc hbbx1 hwbx1
  refine ⟨trivial, ?_⟩
  refine x_box [_, _] rfl rfl rfl rfl rfl ?_ -- bx2 cache.go:124
  intro bbx2 wbx2 hbbx2 hwbx2
  have M := M.alloc hbbx2 hwbx2
  refine ⟨trivial, ?_⟩
  refine x_assign rfl rfl rfl rfl ?_
  refine Ex.done (hK _ _ ?_)
  refine At.then_n ?_
  refine W.seq ?_
  refine W.block ?_
  refine W.seq ?_
  refine W.sub [(2, _), (3, _), (4, _), (6, _)] ⟨rfl, rfl, rfl, rfl, trivial⟩ ?_
  refine W.reg [(0, false), (1, true), (2, false), (3, false)] (by kernel_rfl) ?_ -- region 1
  intro K hK
  refine x_ld rfl rfl rfl Try.underlying23 rfl rfl (cell_of (by first | exact M.at_ 0 rfl | exact M.at_ 1 rfl | exact M.at_ 2 rfl | exact M.at_ 3 rfl | exact M.at_ 4 rfl | exact M.at_ 5 rfl) rfl) ?_ -- ld1 cache.go:126
  -- call1: (*valise/cache.Cache).made cache.go:126
  refine x_call rfl rfl rfl rfl rfl en25 (made_nil) ?_
  rintro v w1 ⟨rfl, rfl⟩
  refine ⟨trivial, ?_⟩
  refine x_not true rfl rfl rfl rfl rfl ?_ -- un1 cache.go:126
  refine x_assign rfl rfl rfl rfl ?_
  refine Ex.done (hK _ _ ?_)
  refine At.then_n ?_
  refine W.condT rfl ?_ -- co1
  refine W.seq ?_
  refine W.sub [(2, _), (3, _), (4, _), (6, _)] ⟨rfl, rfl, rfl, rfl, trivial⟩ ?_
  refine W.reg [(0, false)] (by kernel_rfl) ?_ -- region 2
  intro K hK
  refine x_assign rfl rfl rfl rfl ?_
  refine Ex.done (hK _ _ ?_)
  refine At.then_n ?_
  refine W.ret ?_
  refine At.blk_r ?_
  refine At.then_r ?_
  refine At.ret1 (.tmp 6) rfl ⟨rfl, trivial⟩ ?_ -- ret1
  exact ⟨rfl, M.frm⟩

-- (*valise/cache.Cache).Put
set_option maxRecDepth 100000 in
theorem putN_un {w : World} {c : Nat} {x y z : Value} {T : TypeId} {k : Key} {sv : Value} (hc : w.heap[c]? = some (.cells [x, y, z, .map none].toArray T (0, 0))) : Ret Try.prog 10 #[.pointer (some ⟨c, 0, none⟩), encK k, sv] w fun v w' => v = .int .i64 1 ∧ New w w' := by
  have M : St None' w [] w := Frm.refl _ _
  refine Ret.of_W Try.func10 rfl Try.ntmps10 rfl ?_
  refine W.seq ?_
  refine W.sub [(0, _), (1, _), (2, _)] ⟨rfl, rfl, rfl, trivial⟩ ?_
  refine W.reg [(0, true), (1, true), (2, false)] (by kernel_rfl) ?_ -- region 0
  intro K hK
  refine x_box [_] rfl rfl rfl rfl rfl ?_ -- bx1 cache.go:124
  intro bbx1 wbx1 hbbx1 hwbx1
  have M := M.alloc hbbx1 hwbx1
  refine ⟨trivial, ?_⟩
  refine x_box [_, _] rfl rfl rfl rfl rfl ?_ -- bx2 cache.go:124
  intro bbx2 wbx2 hbbx2 hwbx2
  have M := M.alloc hbbx2 hwbx2
  refine ⟨trivial, ?_⟩
  refine x_assign rfl rfl rfl rfl ?_
  refine Ex.done (hK _ _ ?_)
  refine At.then_n ?_
  refine W.seq ?_
  refine W.block ?_
  refine W.seq ?_
  refine W.sub [(2, _), (3, _), (4, _), (6, _)] ⟨rfl, rfl, rfl, rfl, trivial⟩ ?_
  refine W.reg [(0, false), (1, true), (2, false), (3, false)] (by kernel_rfl) ?_ -- region 1
  intro K hK
  refine x_ld rfl rfl rfl Try.underlying23 rfl rfl (cell_of (by first | exact M.at_ 0 rfl | exact M.at_ 1 rfl | exact M.at_ 2 rfl | exact M.at_ 3 rfl | exact M.at_ 4 rfl | exact M.at_ 5 rfl) rfl) ?_ -- ld1 cache.go:126
  -- call1: (*valise/cache.Cache).made cache.go:126
  refine x_call rfl rfl rfl rfl rfl en25 (made_un (New.keep M.frm hc)) ?_
  rintro v w1 ⟨rfl, rfl⟩
  refine ⟨trivial, ?_⟩
  refine x_not true rfl rfl rfl rfl rfl ?_ -- un1 cache.go:126
  refine x_assign rfl rfl rfl rfl ?_
  refine Ex.done (hK _ _ ?_)
  refine At.then_n ?_
  refine W.condT rfl ?_ -- co1
  refine W.seq ?_
  refine W.sub [(2, _), (3, _), (4, _), (6, _)] ⟨rfl, rfl, rfl, rfl, trivial⟩ ?_
  refine W.reg [(0, false)] (by kernel_rfl) ?_ -- region 2
  intro K hK
  refine x_assign rfl rfl rfl rfl ?_
  refine Ex.done (hK _ _ ?_)
  refine At.then_n ?_
  refine W.ret ?_
  refine At.blk_r ?_
  refine At.then_r ?_
  refine At.ret1 (.tmp 6) rfl ⟨rfl, trivial⟩ ?_ -- ret1
  exact ⟨rfl, M.frm⟩

-- (*valise/cache.Cache).pin
set_option maxRecDepth 100000 in
theorem pin3N_nil {w : World} {k : Key} {q : Int} : Ret Try.prog 38 #[.pointer none, encK k, .int .i64 q] w fun v w' => v = .int .i64 1 ∧ New w w' := by
  have M : St None' w [] w := Frm.refl _ _
  refine Ret.of_W Try.func38 rfl Try.ntmps38 rfl ?_
  refine W.seq ?_
  refine W.sub [(0, _), (1, _), (2, _)] ⟨rfl, rfl, rfl, trivial⟩ ?_
  refine W.reg [(0, true), (1, false)] (by kernel_rfl) ?_ -- region 0
  intro K hK
  refine x_box [_, _] rfl rfl rfl rfl rfl ?_ -- bx1 cache.go:154
  intro bbx1 wbx1 hbbx1 hwbx1
  have M := M.alloc hbbx1 hwbx1
  refine ⟨trivial, ?_⟩
  refine x_assign rfl rfl rfl rfl ?_
  refine Ex.done (hK _ _ ?_)
  refine At.then_n ?_
  refine W.seq ?_
  refine W.seq ?_
  refine W.sub [(0, _), (2, _), (4, _), (6, _)] ⟨rfl, rfl, rfl, rfl, trivial⟩ ?_
  refine W.reg [(0, false), (1, true), (2, false)] (by kernel_rfl) ?_ -- region 1
  intro K hK
  refine x_move rfl rfl rfl rfl ?_
  -- call1: (*valise/cache.Cache).made cache.go:155
  refine x_call rfl rfl rfl rfl rfl en25 (made_nil) ?_
  rintro v w1 ⟨rfl, rfl⟩
  refine ⟨trivial, ?_⟩
  refine x_not true rfl rfl rfl rfl rfl ?_ -- un1 cache.go:155
  refine Ex.done (hK _ _ ?_)
  refine At.then_n ?_
  refine W.condT rfl ?_ -- co1
  refine W.seq ?_
  refine W.sub [(0, _), (2, _), (4, _), (6, _)] ⟨rfl, rfl, rfl, rfl, trivial⟩ ?_
  refine W.reg [(0, false)] (by kernel_rfl) ?_ -- region 2
  intro K hK
  refine x_assign rfl rfl rfl rfl ?_
  refine Ex.done (hK _ _ ?_)
  refine At.then_n ?_
  refine W.ret ?_
  refine At.then_r ?_
  refine At.ret1 (.tmp 6) rfl ⟨rfl, trivial⟩ ?_ -- ret1
  exact ⟨rfl, M.frm⟩

-- (*valise/cache.Cache).pin
set_option maxRecDepth 100000 in
theorem pin3N_un {w : World} {c : Nat} {x y z : Value} {T : TypeId} {k : Key} {q : Int} (hc : w.heap[c]? = some (.cells [x, y, z, .map none].toArray T (0, 0))) : Ret Try.prog 38 #[.pointer (some ⟨c, 0, none⟩), encK k, .int .i64 q] w fun v w' => v = .int .i64 1 ∧ New w w' := by
  have M : St None' w [] w := Frm.refl _ _
  refine Ret.of_W Try.func38 rfl Try.ntmps38 rfl ?_
  refine W.seq ?_
  refine W.sub [(0, _), (1, _), (2, _)] ⟨rfl, rfl, rfl, trivial⟩ ?_
  refine W.reg [(0, true), (1, false)] (by kernel_rfl) ?_ -- region 0
  intro K hK
  refine x_box [_, _] rfl rfl rfl rfl rfl ?_ -- bx1 cache.go:154
  intro bbx1 wbx1 hbbx1 hwbx1
  have M := M.alloc hbbx1 hwbx1
  refine ⟨trivial, ?_⟩
  refine x_assign rfl rfl rfl rfl ?_
  refine Ex.done (hK _ _ ?_)
  refine At.then_n ?_
  refine W.seq ?_
  refine W.seq ?_
  refine W.sub [(0, _), (2, _), (4, _), (6, _)] ⟨rfl, rfl, rfl, rfl, trivial⟩ ?_
  refine W.reg [(0, false), (1, true), (2, false)] (by kernel_rfl) ?_ -- region 1
  intro K hK
  refine x_move rfl rfl rfl rfl ?_
  -- call1: (*valise/cache.Cache).made cache.go:155
  refine x_call rfl rfl rfl rfl rfl en25 (made_un (New.keep M.frm hc)) ?_
  rintro v w1 ⟨rfl, rfl⟩
  refine ⟨trivial, ?_⟩
  refine x_not true rfl rfl rfl rfl rfl ?_ -- un1 cache.go:155
  refine Ex.done (hK _ _ ?_)
  refine At.then_n ?_
  refine W.condT rfl ?_ -- co1
  refine W.seq ?_
  refine W.sub [(0, _), (2, _), (4, _), (6, _)] ⟨rfl, rfl, rfl, rfl, trivial⟩ ?_
  refine W.reg [(0, false)] (by kernel_rfl) ?_ -- region 2
  intro K hK
  refine x_assign rfl rfl rfl rfl ?_
  refine Ex.done (hK _ _ ?_)
  refine At.then_n ?_
  refine W.ret ?_
  refine At.then_r ?_
  refine At.ret1 (.tmp 6) rfl ⟨rfl, trivial⟩ ?_ -- ret1
  exact ⟨rfl, M.frm⟩

-- (*valise/cache.Cache).Pin
set_option maxRecDepth 100000 in
theorem pinN_nil {w : World} {k : Key} : Ret Try.prog 20 #[.pointer none, encK k] w fun v w' => v = .int .i64 1 ∧ New w w' := by
  have M : St None' w [] w := Frm.refl _ _
  refine Ret.of_W Try.func20 rfl Try.ntmps20 rfl ?_
  refine W.seq ?_
  refine W.sub [(0, _), (1, _)] ⟨rfl, rfl, trivial⟩ ?_
  refine W.reg [(0, true), (1, false)] (by kernel_rfl) ?_ -- region 0
  intro K hK
  refine x_box [_, _] rfl rfl rfl rfl rfl ?_ -- bx1 cache.go:170
  intro bbx1 wbx1 hbbx1 hwbx1
  have M := M.alloc hbbx1 hwbx1
  refine ⟨trivial, ?_⟩
  refine x_assign rfl rfl rfl rfl ?_
  refine Ex.done (hK _ _ ?_)
  refine At.then_n ?_
  refine W.seq ?_
  refine W.sub [(0, _), (3, _), (4, _)] ⟨rfl, rfl, rfl, trivial⟩ ?_
  refine W.reg [(0, false), (1, false), (2, true), (3, false)] (by kernel_rfl) ?_ -- region 1
  intro K hK
  refine x_move rfl rfl rfl rfl ?_
  refine x_ldA [_, _] rfl rfl rfl Try.underlying29 rfl sz29 rfl rfl ⟨_, _, _, (by first | exact M.at_ 0 rfl | exact M.at_ 1 rfl | exact M.at_ 2 rfl | exact M.at_ 3 rfl | exact M.at_ 4 rfl | exact M.at_ 5 rfl), rfl⟩ ?_ -- ld1 cache.go:170
  -- call1: (*valise/cache.Cache).pin cache.go:170
  refine x_call rfl rfl rfl rfl rfl en38 (pin3N_nil) ?_
  rintro v w1 ⟨rfl, hn⟩
  have M := M.new hn
  refine ⟨trivial, ?_⟩
  refine x_assign rfl rfl rfl rfl ?_
  refine Ex.done (hK _ _ ?_)
  refine At.then_n ?_
  refine W.ret ?_
  refine At.ret1 (.tmp 4) rfl ⟨rfl, trivial⟩ ?_ -- ret1
  exact ⟨rfl, M.frm⟩

-- (*valise/cache.Cache).Pin
set_option maxRecDepth 100000 in
theorem pinN_un {w : World} {c : Nat} {x y z : Value} {T : TypeId} {k : Key} (hc : w.heap[c]? = some (.cells [x, y, z, .map none].toArray T (0, 0))) : Ret Try.prog 20 #[.pointer (some ⟨c, 0, none⟩), encK k] w fun v w' => v = .int .i64 1 ∧ New w w' := by
  have M : St None' w [] w := Frm.refl _ _
  refine Ret.of_W Try.func20 rfl Try.ntmps20 rfl ?_
  refine W.seq ?_
  refine W.sub [(0, _), (1, _)] ⟨rfl, rfl, trivial⟩ ?_
  refine W.reg [(0, true), (1, false)] (by kernel_rfl) ?_ -- region 0
  intro K hK
  refine x_box [_, _] rfl rfl rfl rfl rfl ?_ -- bx1 cache.go:170
  intro bbx1 wbx1 hbbx1 hwbx1
  have M := M.alloc hbbx1 hwbx1
  refine ⟨trivial, ?_⟩
  refine x_assign rfl rfl rfl rfl ?_
  refine Ex.done (hK _ _ ?_)
  refine At.then_n ?_
  refine W.seq ?_
  refine W.sub [(0, _), (3, _), (4, _)] ⟨rfl, rfl, rfl, trivial⟩ ?_
  refine W.reg [(0, false), (1, false), (2, true), (3, false)] (by kernel_rfl) ?_ -- region 1
  intro K hK
  refine x_move rfl rfl rfl rfl ?_
  refine x_ldA [_, _] rfl rfl rfl Try.underlying29 rfl sz29 rfl rfl ⟨_, _, _, (by first | exact M.at_ 0 rfl | exact M.at_ 1 rfl | exact M.at_ 2 rfl | exact M.at_ 3 rfl | exact M.at_ 4 rfl | exact M.at_ 5 rfl), rfl⟩ ?_ -- ld1 cache.go:170
  -- call1: (*valise/cache.Cache).pin cache.go:170
  refine x_call rfl rfl rfl rfl rfl en38 (pin3N_un (New.keep M.frm hc)) ?_
  rintro v w1 ⟨rfl, hn⟩
  have M := M.new hn
  refine ⟨trivial, ?_⟩
  refine x_assign rfl rfl rfl rfl ?_
  refine Ex.done (hK _ _ ?_)
  refine At.then_n ?_
  refine W.ret ?_
  refine At.ret1 (.tmp 4) rfl ⟨rfl, trivial⟩ ?_ -- ret1
  exact ⟨rfl, M.frm⟩

-- (*valise/cache.Cache).Unpin
set_option maxRecDepth 100000 in
theorem unpinN_nil {w : World} {k : Key} : Ret Try.prog 21 #[.pointer none, encK k] w fun v w' => v = .int .i64 1 ∧ New w w' := by
  have M : St None' w [] w := Frm.refl _ _
  refine Ret.of_W Try.func21 rfl Try.ntmps21 rfl ?_
  refine W.seq ?_
  refine W.sub [(0, _), (1, _)] ⟨rfl, rfl, trivial⟩ ?_
  refine W.reg [(0, true), (1, false)] (by kernel_rfl) ?_ -- region 0
  intro K hK
  refine x_box [_, _] rfl rfl rfl rfl rfl ?_ -- bx1 cache.go:173
  intro bbx1 wbx1 hbbx1 hwbx1
  have M := M.alloc hbbx1 hwbx1
  refine ⟨trivial, ?_⟩
  refine x_assign rfl rfl rfl rfl ?_
  refine Ex.done (hK _ _ ?_)
  refine At.then_n ?_
  refine W.seq ?_
  refine W.sub [(0, _), (3, _), (4, _)] ⟨rfl, rfl, rfl, trivial⟩ ?_
  refine W.reg [(0, false), (1, false), (2, true), (3, false)] (by kernel_rfl) ?_ -- region 1
  intro K hK
  refine x_move rfl rfl rfl rfl ?_
  refine x_ldA [_, _] rfl rfl rfl Try.underlying29 rfl sz29 rfl rfl ⟨_, _, _, (by first | exact M.at_ 0 rfl | exact M.at_ 1 rfl | exact M.at_ 2 rfl | exact M.at_ 3 rfl | exact M.at_ 4 rfl | exact M.at_ 5 rfl), rfl⟩ ?_ -- ld1 cache.go:173
  -- call1: (*valise/cache.Cache).pin cache.go:173
  refine x_call rfl rfl rfl rfl rfl en38 (pin3N_nil) ?_
  rintro v w1 ⟨rfl, hn⟩
  have M := M.new hn
  refine ⟨trivial, ?_⟩
  refine x_assign rfl rfl rfl rfl ?_
  refine Ex.done (hK _ _ ?_)
  refine At.then_n ?_
  refine W.ret ?_
  refine At.ret1 (.tmp 4) rfl ⟨rfl, trivial⟩ ?_ -- ret1
  exact ⟨rfl, M.frm⟩

-- (*valise/cache.Cache).Unpin
set_option maxRecDepth 100000 in
theorem unpinN_un {w : World} {c : Nat} {x y z : Value} {T : TypeId} {k : Key} (hc : w.heap[c]? = some (.cells [x, y, z, .map none].toArray T (0, 0))) : Ret Try.prog 21 #[.pointer (some ⟨c, 0, none⟩), encK k] w fun v w' => v = .int .i64 1 ∧ New w w' := by
  have M : St None' w [] w := Frm.refl _ _
  refine Ret.of_W Try.func21 rfl Try.ntmps21 rfl ?_
  refine W.seq ?_
  refine W.sub [(0, _), (1, _)] ⟨rfl, rfl, trivial⟩ ?_
  refine W.reg [(0, true), (1, false)] (by kernel_rfl) ?_ -- region 0
  intro K hK
  refine x_box [_, _] rfl rfl rfl rfl rfl ?_ -- bx1 cache.go:173
  intro bbx1 wbx1 hbbx1 hwbx1
  have M := M.alloc hbbx1 hwbx1
  refine ⟨trivial, ?_⟩
  refine x_assign rfl rfl rfl rfl ?_
  refine Ex.done (hK _ _ ?_)
  refine At.then_n ?_
  refine W.seq ?_
  refine W.sub [(0, _), (3, _), (4, _)] ⟨rfl, rfl, rfl, trivial⟩ ?_
  refine W.reg [(0, false), (1, false), (2, true), (3, false)] (by kernel_rfl) ?_ -- region 1
  intro K hK
  refine x_move rfl rfl rfl rfl ?_
  refine x_ldA [_, _] rfl rfl rfl Try.underlying29 rfl sz29 rfl rfl ⟨_, _, _, (by first | exact M.at_ 0 rfl | exact M.at_ 1 rfl | exact M.at_ 2 rfl | exact M.at_ 3 rfl | exact M.at_ 4 rfl | exact M.at_ 5 rfl), rfl⟩ ?_ -- ld1 cache.go:173
  -- call1: (*valise/cache.Cache).pin cache.go:173
  refine x_call rfl rfl rfl rfl rfl en38 (pin3N_un (New.keep M.frm hc)) ?_
  rintro v w1 ⟨rfl, hn⟩
  have M := M.new hn
  refine ⟨trivial, ?_⟩
  refine x_assign rfl rfl rfl rfl ?_
  refine Ex.done (hK _ _ ?_)
  refine At.then_n ?_
  refine W.ret ?_
  refine At.ret1 (.tmp 4) rfl ⟨rfl, trivial⟩ ?_ -- ret1
  exact ⟨rfl, M.frm⟩

-- (*valise/cache.Cache).Drop
set_option maxRecDepth 100000 in
theorem dropN_nil {w : World} {fs : ByteArray} : Ret Try.prog 23 #[.pointer none, .string fs] w fun v w' => v = .int .i64 0 ∧ New w w' := by
  have M : St None' w [] w := Frm.refl _ _
  refine Ret.of_W Try.func23 rfl Try.ntmps23 rfl ?_
  refine W.seq ?_
  refine W.sub [(0, _), (1, _)] ⟨rfl, rfl, trivial⟩ ?_
  refine W.reg [(0, true), (1, true), (2, false)] (by kernel_rfl) ?_ -- region 0
  intro K hK
  refine x_box [_] rfl rfl rfl rfl rfl ?_ -- bx1 cache.go:176
  intro bbx1 wbx1 hbbx1 hwbx1
  have M := M.alloc hbbx1 hwbx1
  refine ⟨trivial, ?_⟩
  refine x_box [_] rfl rfl rfl rfl rfl ?_ -- bx2 cache.go:176
  intro bbx2 wbx2 hbbx2 hwbx2
  have M := M.alloc hbbx2 hwbx2
  refine ⟨trivial, ?_⟩
  refine x_assign rfl rfl rfl rfl ?_
  refine Ex.done (hK _ _ ?_)
  refine At.then_n ?_
  refine W.seq ?_
  refine W.seq ?_
  refine W.sub [(2, _), (3, _), (4, _)] ⟨rfl, rfl, rfl, trivial⟩ ?_
  refine W.reg [(0, false), (1, true), (2, false)] (by kernel_rfl) ?_ -- region 1
  intro K hK
  refine x_ld rfl rfl rfl Try.underlying23 rfl rfl (cell_of (by first | exact M.at_ 0 rfl | exact M.at_ 1 rfl | exact M.at_ 2 rfl | exact M.at_ 3 rfl | exact M.at_ 4 rfl | exact M.at_ 5 rfl) rfl) ?_ -- ld1 cache.go:177
  -- call1: (*valise/cache.Cache).made cache.go:177
  refine x_call rfl rfl rfl rfl rfl en25 (made_nil) ?_
  rintro v w1 ⟨rfl, rfl⟩
  refine ⟨trivial, ?_⟩
  refine x_not true rfl rfl rfl rfl rfl ?_ -- un1 cache.go:177
  refine Ex.done (hK _ _ ?_)
  refine At.then_n ?_
  refine W.condT rfl ?_ -- co1
  refine W.seq ?_
  refine W.sub [(2, _), (3, _), (4, _)] ⟨rfl, rfl, rfl, trivial⟩ ?_
  refine W.reg [(0, false)] (by kernel_rfl) ?_ -- region 2
  intro K hK
  refine x_assign rfl rfl rfl rfl ?_
  refine Ex.done (hK _ _ ?_)
  refine At.then_n ?_
  refine W.ret ?_
  refine At.then_r ?_
  refine At.ret1 (.tmp 4) rfl ⟨rfl, trivial⟩ ?_ -- ret1
  exact ⟨rfl, M.frm⟩

-- (*valise/cache.Cache).Drop
set_option maxRecDepth 100000 in
theorem dropN_un {w : World} {c : Nat} {x y z : Value} {T : TypeId} {fs : ByteArray} (hc : w.heap[c]? = some (.cells [x, y, z, .map none].toArray T (0, 0))) : Ret Try.prog 23 #[.pointer (some ⟨c, 0, none⟩), .string fs] w fun v w' => v = .int .i64 0 ∧ New w w' := by
  have M : St None' w [] w := Frm.refl _ _
  refine Ret.of_W Try.func23 rfl Try.ntmps23 rfl ?_
  refine W.seq ?_
  refine W.sub [(0, _), (1, _)] ⟨rfl, rfl, trivial⟩ ?_
  refine W.reg [(0, true), (1, true), (2, false)] (by kernel_rfl) ?_ -- region 0
  intro K hK
  refine x_box [_] rfl rfl rfl rfl rfl ?_ -- bx1 cache.go:176
  intro bbx1 wbx1 hbbx1 hwbx1
  have M := M.alloc hbbx1 hwbx1
  refine ⟨trivial, ?_⟩
  refine x_box [_] rfl rfl rfl rfl rfl ?_ -- bx2 cache.go:176
  intro bbx2 wbx2 hbbx2 hwbx2
  have M := M.alloc hbbx2 hwbx2
  refine ⟨trivial, ?_⟩
  refine x_assign rfl rfl rfl rfl ?_
  refine Ex.done (hK _ _ ?_)
  refine At.then_n ?_
  refine W.seq ?_
  refine W.seq ?_
  refine W.sub [(2, _), (3, _), (4, _)] ⟨rfl, rfl, rfl, trivial⟩ ?_
  refine W.reg [(0, false), (1, true), (2, false)] (by kernel_rfl) ?_ -- region 1
  intro K hK
  refine x_ld rfl rfl rfl Try.underlying23 rfl rfl (cell_of (by first | exact M.at_ 0 rfl | exact M.at_ 1 rfl | exact M.at_ 2 rfl | exact M.at_ 3 rfl | exact M.at_ 4 rfl | exact M.at_ 5 rfl) rfl) ?_ -- ld1 cache.go:177
  -- call1: (*valise/cache.Cache).made cache.go:177
  refine x_call rfl rfl rfl rfl rfl en25 (made_un (New.keep M.frm hc)) ?_
  rintro v w1 ⟨rfl, rfl⟩
  refine ⟨trivial, ?_⟩
  refine x_not true rfl rfl rfl rfl rfl ?_ -- un1 cache.go:177
  refine Ex.done (hK _ _ ?_)
  refine At.then_n ?_
  refine W.condT rfl ?_ -- co1
  refine W.seq ?_
  refine W.sub [(2, _), (3, _), (4, _)] ⟨rfl, rfl, rfl, trivial⟩ ?_
  refine W.reg [(0, false)] (by kernel_rfl) ?_ -- region 2
  intro K hK
  refine x_assign rfl rfl rfl rfl ?_
  refine Ex.done (hK _ _ ?_)
  refine At.then_n ?_
  refine W.ret ?_
  refine At.then_r ?_
  refine At.ret1 (.tmp 4) rfl ⟨rfl, trivial⟩ ?_ -- ret1
  exact ⟨rfl, M.frm⟩

-- (*valise/cache.Cache).Size
set_option maxRecDepth 100000 in
theorem sizeN_nil {w : World}  : Ret Try.prog 15 #[.pointer none] w fun v w' => v = .int .i64 0 ∧ New w w' := by
  have M : St None' w [] w := Frm.refl _ _
  refine Ret.of_W Try.func15 rfl Try.ntmps15 rfl ?_
  refine W.seq ?_
  refine W.sub [(0, _)] ⟨rfl, trivial⟩ ?_
  refine W.reg [(0, false)] (by kernel_rfl) ?_ -- region 0
  intro K hK
  refine x_assign rfl rfl rfl rfl ?_
  refine Ex.done (hK _ _ ?_)
  refine At.then_n ?_
  refine W.seq ?_
  refine W.seq ?_
  refine W.sub [(0, _), (2, _)] ⟨rfl, rfl, trivial⟩ ?_
  refine W.reg [(0, false), (1, true), (2, false)] (by kernel_rfl) ?_ -- region 1
  intro K hK
  refine x_move rfl rfl rfl rfl ?_
  -- call1: (*valise/cache.Cache).made cache.go:192
  refine x_call rfl rfl rfl rfl rfl en25 (made_nil) ?_
  rintro v w1 ⟨rfl, rfl⟩
  refine ⟨trivial, ?_⟩
  refine x_not true rfl rfl rfl rfl rfl ?_ -- un1 cache.go:192
  refine Ex.done (hK _ _ ?_)
  refine At.then_n ?_
  refine W.condT rfl ?_ -- co1
  refine W.seq ?_
  refine W.sub [(0, _), (2, _)] ⟨rfl, rfl, trivial⟩ ?_
  refine W.reg [(0, false)] (by kernel_rfl) ?_ -- region 2
  intro K hK
  refine x_assign rfl rfl rfl rfl ?_
  refine Ex.done (hK _ _ ?_)
  refine At.then_n ?_
  refine W.ret ?_
  refine At.then_r ?_
  refine At.ret1 (.tmp 2) rfl ⟨rfl, trivial⟩ ?_ -- ret1
  exact ⟨rfl, M.frm⟩

-- (*valise/cache.Cache).Size
set_option maxRecDepth 100000 in
theorem sizeN_un {w : World} {c : Nat} {x y z : Value} {T : TypeId}  (hc : w.heap[c]? = some (.cells [x, y, z, .map none].toArray T (0, 0))) : Ret Try.prog 15 #[.pointer (some ⟨c, 0, none⟩)] w fun v w' => v = .int .i64 0 ∧ New w w' := by
  have M : St None' w [] w := Frm.refl _ _
  refine Ret.of_W Try.func15 rfl Try.ntmps15 rfl ?_
  refine W.seq ?_
  refine W.sub [(0, _)] ⟨rfl, trivial⟩ ?_
  refine W.reg [(0, false)] (by kernel_rfl) ?_ -- region 0
  intro K hK
  refine x_assign rfl rfl rfl rfl ?_
  refine Ex.done (hK _ _ ?_)
  refine At.then_n ?_
  refine W.seq ?_
  refine W.seq ?_
  refine W.sub [(0, _), (2, _)] ⟨rfl, rfl, trivial⟩ ?_
  refine W.reg [(0, false), (1, true), (2, false)] (by kernel_rfl) ?_ -- region 1
  intro K hK
  refine x_move rfl rfl rfl rfl ?_
  -- call1: (*valise/cache.Cache).made cache.go:192
  refine x_call rfl rfl rfl rfl rfl en25 (made_un (New.keep M.frm hc)) ?_
  rintro v w1 ⟨rfl, rfl⟩
  refine ⟨trivial, ?_⟩
  refine x_not true rfl rfl rfl rfl rfl ?_ -- un1 cache.go:192
  refine Ex.done (hK _ _ ?_)
  refine At.then_n ?_
  refine W.condT rfl ?_ -- co1
  refine W.seq ?_
  refine W.sub [(0, _), (2, _)] ⟨rfl, rfl, trivial⟩ ?_
  refine W.reg [(0, false)] (by kernel_rfl) ?_ -- region 2
  intro K hK
  refine x_assign rfl rfl rfl rfl ?_
  refine Ex.done (hK _ _ ?_)
  refine At.then_n ?_
  refine W.ret ?_
  refine At.then_r ?_
  refine At.ret1 (.tmp 2) rfl ⟨rfl, trivial⟩ ?_ -- ret1
  exact ⟨rfl, M.frm⟩

-- (*valise/cache.Cache).Keys
set_option maxRecDepth 100000 in
theorem keysN_nil {w : World}  : Ret Try.prog 12 #[.pointer none] w fun v w' => v = .slice none 0 0 ∧ New w w' := by
  have M : St None' w [] w := Frm.refl _ _
  refine Ret.of_W Try.func12 rfl Try.ntmps12 rfl ?_
  refine W.seq ?_
  refine W.sub [(0, _)] ⟨rfl, trivial⟩ ?_
  refine W.reg [(0, false)] (by kernel_rfl) ?_ -- region 0
  intro K hK
  refine x_assign rfl rfl rfl rfl ?_
  refine Ex.done (hK _ _ ?_)
  refine At.then_n ?_
  refine W.seq ?_
  refine W.seq ?_
  refine W.sub [(0, _), (2, _)] ⟨rfl, rfl, trivial⟩ ?_
  refine W.reg [(0, false), (1, true), (2, false)] (by kernel_rfl) ?_ -- region 1
  intro K hK
  refine x_move rfl rfl rfl rfl ?_
  -- call1: (*valise/cache.Cache).made cache.go:200
  refine x_call rfl rfl rfl rfl rfl en25 (made_nil) ?_
  rintro v w1 ⟨rfl, rfl⟩
  refine ⟨trivial, ?_⟩
  refine x_not true rfl rfl rfl rfl rfl ?_ -- un1 cache.go:200
  refine Ex.done (hK _ _ ?_)
  refine At.then_n ?_
  refine W.condT rfl ?_ -- co1
  refine W.seq ?_
  refine W.sub [(0, _), (2, _)] ⟨rfl, rfl, trivial⟩ ?_
  refine W.reg [(0, false)] (by kernel_rfl) ?_ -- region 2
  intro K hK
  refine x_assign rfl rfl rfl rfl ?_
  refine Ex.done (hK _ _ ?_)
  refine At.then_n ?_
  refine W.ret ?_
  refine At.then_r ?_
  refine At.ret1 (.tmp 2) rfl ⟨rfl, trivial⟩ ?_ -- ret1
  exact ⟨rfl, M.frm⟩

-- (*valise/cache.Cache).Keys
set_option maxRecDepth 100000 in
theorem keysN_un {w : World} {c : Nat} {x y z : Value} {T : TypeId}  (hc : w.heap[c]? = some (.cells [x, y, z, .map none].toArray T (0, 0))) : Ret Try.prog 12 #[.pointer (some ⟨c, 0, none⟩)] w fun v w' => v = .slice none 0 0 ∧ New w w' := by
  have M : St None' w [] w := Frm.refl _ _
  refine Ret.of_W Try.func12 rfl Try.ntmps12 rfl ?_
  refine W.seq ?_
  refine W.sub [(0, _)] ⟨rfl, trivial⟩ ?_
  refine W.reg [(0, false)] (by kernel_rfl) ?_ -- region 0
  intro K hK
  refine x_assign rfl rfl rfl rfl ?_
  refine Ex.done (hK _ _ ?_)
  refine At.then_n ?_
  refine W.seq ?_
  refine W.seq ?_
  refine W.sub [(0, _), (2, _)] ⟨rfl, rfl, trivial⟩ ?_
  refine W.reg [(0, false), (1, true), (2, false)] (by kernel_rfl) ?_ -- region 1
  intro K hK
  refine x_move rfl rfl rfl rfl ?_
  -- call1: (*valise/cache.Cache).made cache.go:200
  refine x_call rfl rfl rfl rfl rfl en25 (made_un (New.keep M.frm hc)) ?_
  rintro v w1 ⟨rfl, rfl⟩
  refine ⟨trivial, ?_⟩
  refine x_not true rfl rfl rfl rfl rfl ?_ -- un1 cache.go:200
  refine Ex.done (hK _ _ ?_)
  refine At.then_n ?_
  refine W.condT rfl ?_ -- co1
  refine W.seq ?_
  refine W.sub [(0, _), (2, _)] ⟨rfl, rfl, trivial⟩ ?_
  refine W.reg [(0, false)] (by kernel_rfl) ?_ -- region 2
  intro K hK
  refine x_assign rfl rfl rfl rfl ?_
  refine Ex.done (hK _ _ ?_)
  refine At.then_n ?_
  refine W.ret ?_
  refine At.then_r ?_
  refine At.ret1 (.tmp 2) rfl ⟨rfl, trivial⟩ ?_ -- ret1
  exact ⟨rfl, M.frm⟩

-- (*valise/cache.Cache).Pins
set_option maxRecDepth 100000 in
theorem pinsN_nil {w : World} {k : Key} : Ret Try.prog 22 #[.pointer none, encK k] w fun v w' => v = .int .i64 0 ∧ New w w' := by
  have M : St None' w [] w := Frm.refl _ _
  refine Ret.of_W Try.func22 rfl Try.ntmps22 rfl ?_
  refine W.seq ?_
  refine W.sub [(0, _), (1, _)] ⟨rfl, rfl, trivial⟩ ?_
  refine W.reg [(0, true), (1, false)] (by kernel_rfl) ?_ -- region 0
  intro K hK
  refine x_box [_, _] rfl rfl rfl rfl rfl ?_ -- bx1 cache.go:211
  intro bbx1 wbx1 hbbx1 hwbx1
  have M := M.alloc hbbx1 hwbx1
  refine ⟨trivial, ?_⟩
  refine x_assign rfl rfl rfl rfl ?_
  refine Ex.done (hK _ _ ?_)
  refine At.then_n ?_
  refine W.seq ?_
  refine W.seq ?_
  refine W.sub [(0, _), (3, _), (4, _)] ⟨rfl, rfl, rfl, trivial⟩ ?_
  refine W.reg [(0, false), (1, true), (2, false)] (by kernel_rfl) ?_ -- region 1
  intro K hK
  refine x_move rfl rfl rfl rfl ?_
  -- call1: (*valise/cache.Cache).made cache.go:212
  refine x_call rfl rfl rfl rfl rfl en25 (made_nil) ?_
  rintro v w1 ⟨rfl, rfl⟩
  refine ⟨trivial, ?_⟩
  refine x_not true rfl rfl rfl rfl rfl ?_ -- un1 cache.go:212
  refine Ex.done (hK _ _ ?_)
  refine At.then_n ?_
  refine W.condT rfl ?_ -- co1
  refine W.seq ?_
  refine W.sub [(0, _), (3, _), (4, _)] ⟨rfl, rfl, rfl, trivial⟩ ?_
  refine W.reg [(0, false)] (by kernel_rfl) ?_ -- region 2
  intro K hK
  refine x_assign rfl rfl rfl rfl ?_
  refine Ex.done (hK _ _ ?_)
  refine At.then_n ?_
  refine W.ret ?_
  refine At.then_r ?_
  refine At.ret1 (.tmp 4) rfl ⟨rfl, trivial⟩ ?_ -- ret1
  exact ⟨rfl, M.frm⟩

-- (*valise/cache.Cache).Pins
set_option maxRecDepth 100000 in
theorem pinsN_un {w : World} {c : Nat} {x y z : Value} {T : TypeId} {k : Key} (hc : w.heap[c]? = some (.cells [x, y, z, .map none].toArray T (0, 0))) : Ret Try.prog 22 #[.pointer (some ⟨c, 0, none⟩), encK k] w fun v w' => v = .int .i64 0 ∧ New w w' := by
  have M : St None' w [] w := Frm.refl _ _
  refine Ret.of_W Try.func22 rfl Try.ntmps22 rfl ?_
  refine W.seq ?_
  refine W.sub [(0, _), (1, _)] ⟨rfl, rfl, trivial⟩ ?_
  refine W.reg [(0, true), (1, false)] (by kernel_rfl) ?_ -- region 0
  intro K hK
  refine x_box [_, _] rfl rfl rfl rfl rfl ?_ -- bx1 cache.go:211
  intro bbx1 wbx1 hbbx1 hwbx1
  have M := M.alloc hbbx1 hwbx1
  refine ⟨trivial, ?_⟩
  refine x_assign rfl rfl rfl rfl ?_
  refine Ex.done (hK _ _ ?_)
  refine At.then_n ?_
  refine W.seq ?_
  refine W.seq ?_
  refine W.sub [(0, _), (3, _), (4, _)] ⟨rfl, rfl, rfl, trivial⟩ ?_
  refine W.reg [(0, false), (1, true), (2, false)] (by kernel_rfl) ?_ -- region 1
  intro K hK
  refine x_move rfl rfl rfl rfl ?_
  -- call1: (*valise/cache.Cache).made cache.go:212
  refine x_call rfl rfl rfl rfl rfl en25 (made_un (New.keep M.frm hc)) ?_
  rintro v w1 ⟨rfl, rfl⟩
  refine ⟨trivial, ?_⟩
  refine x_not true rfl rfl rfl rfl rfl ?_ -- un1 cache.go:212
  refine Ex.done (hK _ _ ?_)
  refine At.then_n ?_
  refine W.condT rfl ?_ -- co1
  refine W.seq ?_
  refine W.sub [(0, _), (3, _), (4, _)] ⟨rfl, rfl, rfl, trivial⟩ ?_
  refine W.reg [(0, false)] (by kernel_rfl) ?_ -- region 2
  intro K hK
  refine x_assign rfl rfl rfl rfl ?_
  refine Ex.done (hK _ _ ?_)
  refine At.then_n ?_
  refine W.ret ?_
  refine At.then_r ?_
  refine At.ret1 (.tmp 4) rfl ⟨rfl, trivial⟩ ?_ -- ret1
  exact ⟨rfl, M.frm⟩

-- valise/valiselaw17.key
set_option maxRecDepth 100000 in
theorem key_c {w : World} {i : Int} : Ret Try.prog 11 #[.int .i64 i] w fun v w' => v = encK (⟨#[97]⟩, i) ∧ New w w' := by
  have M : St None' w [] w := Frm.refl _ _
  refine Ret.of_W Try.func11 rfl Try.ntmps11 rfl ?_
  refine W.seq ?_
  refine W.sub [(0, _)] ⟨rfl, trivial⟩ ?_
  refine W.reg [(0, true)] (by kernel_rfl) ?_ -- region 0
  intro K hK
  refine x_alloc [_, _] rfl rfl rfl ze29 rfl ?_ -- al1 law.go:18
  intro bal1 wal1 hbal1 hwal1
  have M := M.alloc hbal1 hwal1
  refine ⟨trivial, ?_⟩
  refine Ex.done (hK _ _ ?_)
  refine At.then_n ?_
  refine W.seq ?_
  refine W.sub [(0, _), (2, _)] ⟨rfl, rfl, trivial⟩ ?_
  refine W.reg [(0, false), (1, false), (2, true)] (by kernel_rfl) ?_ -- region 1
  intro K hK
  refine x_move rfl rfl rfl rfl ?_
  refine x_build [_, _] rfl rfl rfl pl29 ze29 rfl rfl rfl ?_ -- bu1 law.go:18
  refine x_st [_, _] _ rfl rfl rfl sz29 rfl rfl rfl rfl (by first | exact M.at_ 0 rfl | exact M.at_ 1 rfl | exact M.at_ 2 rfl | exact M.at_ 3 rfl | exact M.at_ 4 rfl | exact M.at_ 5 rfl) rfl rfl rfl ?_ -- st1 law.go:18
  intro wst1 hwst1
  have M := M.put 0 rfl hwst1
  refine ⟨trivial, ?_⟩
  refine Ex.done (hK _ _ ?_)
  refine At.then_n ?_
  refine W.ret ?_
  refine At.ret1 (.cell 2 29) rfl ⟨⟨_, rfl, run_loadVarA (l := [_, _]) Try.underlying29 rfl sz29 ⟨_, _, _, M.at_ 0 rfl, rfl⟩ (Nat.zero_lt_succ _)⟩, trivial⟩ ?_ -- ret1
  exact ⟨rfl, M.frm⟩
end Go.Proofs.Ytbbccdcjhoecpaa
