/-
  The walk of functions of the cache, by program: made_nil, made_un, made_ok.
-/
import Derived.Test.YtbbccdcjhoecpaaTab

namespace Go.Proofs.Ytbbccdcjhoecpaa
open Go Go.Fw Go.RowKit Go.Proofs

-- (*valise/cache.Cache).made
set_option maxRecDepth 100000 in
theorem made_nil {w : World} : Ret Try.prog 25 #[.pointer none] w fun r w' => r = .bool false ∧ w = w' := by
  refine Ret.of_W Try.func25 rfl Try.ntmps25 rfl ?_
  refine W.seq ?_
  refine W.sub [(0, _)] ⟨rfl, trivial⟩ ?_
  refine W.reg [(0, false)] (by kernel_rfl) ?_ -- region 0
  intro K hK
  refine x_assign rfl rfl rfl rfl ?_
  refine Ex.done (hK _ _ ?_)
  refine At.then_n ?_
  refine W.seq ?_
  refine W.sub [(0, _), (2, _)] ⟨rfl, rfl, trivial⟩ ?_
  refine W.reg [(0, false), (1, false), (2, false), (3, false), (4, false), (5, false), (6, false), (7, false), (8, false), (9, false)] (by kernel_rfl) ?_ -- region 1
  intro K hK
  refine x_move rfl rfl rfl rfl ?_
  refine x_nepn false rfl rfl rfl Try.underlying23 rfl rfl rfl ?_ -- eq1 cache.go:84
  refine x_move rfl rfl rfl rfl ?_
  refine Ex.skip_ rfl rfl rfl ?_
  refine Ex.skip_ rfl rfl rfl ?_
  refine Ex.skip_ rfl rfl rfl ?_
  refine Ex.skip_ rfl rfl rfl ?_
  refine Ex.skip_ rfl rfl rfl ?_
  refine x_pickF rfl rfl rfl rfl rfl ?_
  refine x_assign rfl rfl rfl rfl ?_
  refine Ex.done (hK _ _ ?_)
  refine At.then_n ?_
  refine W.ret ?_
  refine At.ret1 (.tmp 2) rfl ⟨rfl, trivial⟩ ?_ -- ret1
  exact ⟨rfl, rfl⟩

-- (*valise/cache.Cache).made
set_option maxRecDepth 100000 in
theorem made_un {c : Nat} {x y z : Value} {T : TypeId} {w : World} (hc : w.heap[c]? = some (.cells [x, y, z, .map none].toArray T (0, 0))) : Ret Try.prog 25 #[.pointer (some ⟨c, 0, none⟩)] w fun r w' => r = .bool false ∧ w = w' := by
  refine Ret.of_W Try.func25 rfl Try.ntmps25 rfl ?_
  refine W.seq ?_
  refine W.sub [(0, _)] ⟨rfl, trivial⟩ ?_
  refine W.reg [(0, false)] (by kernel_rfl) ?_ -- region 0
  intro K hK
  refine x_assign rfl rfl rfl rfl ?_
  refine Ex.done (hK _ _ ?_)
  refine At.then_n ?_
  refine W.seq ?_
  refine W.sub [(0, _), (2, _)] ⟨rfl, rfl, trivial⟩ ?_
  refine W.reg [(0, false), (1, false), (2, false), (3, false), (4, false), (5, false), (6, false), (7, false), (8, false), (9, false)] (by kernel_rfl) ?_ -- region 1
  intro K hK
  refine x_move rfl rfl rfl rfl ?_
  refine x_nepn true rfl rfl rfl Try.underlying23 rfl rfl rfl ?_ -- eq1 cache.go:84
  refine x_move rfl rfl rfl rfl ?_
  refine x_move rfl rfl rfl rfl ?_
  refine x_nil rfl rfl rfl rfl rfl ?_
  refine x_fa rfl rfl rfl fo63_3 rfl ?_
  refine x_ld rfl rfl rfl Try.underlying61 rfl rfl (cell_of hc rfl) ?_ -- ld1 cache.go:84
  refine x_nemn _ rfl rfl rfl Try.underlying61 rfl rfl rfl ?_ -- eq2 cache.go:84
  refine x_pickT rfl rfl rfl rfl rfl ?_
  refine x_assign rfl rfl rfl rfl ?_
  refine Ex.done (hK _ _ ?_)
  refine At.then_n ?_
  refine W.ret ?_
  refine At.ret1 (.tmp 2) rfl ⟨rfl, trivial⟩ ?_ -- ret1
  exact ⟨rfl, rfl⟩

-- (*valise/cache.Cache).made
set_option maxRecDepth 100000 in
theorem made_ok {c r : Nat} {x y z : Value} {T : TypeId} {w : World} (hc : w.heap[c]? = some (.cells [x, y, z, .map (some r)].toArray T (0, 0))) : Ret Try.prog 25 #[.pointer (some ⟨c, 0, none⟩)] w fun r w' => r = .bool true ∧ w = w' := by
  refine Ret.of_W Try.func25 rfl Try.ntmps25 rfl ?_
  refine W.seq ?_
  refine W.sub [(0, _)] ⟨rfl, trivial⟩ ?_
  refine W.reg [(0, false)] (by kernel_rfl) ?_ -- region 0
  intro K hK
  refine x_assign rfl rfl rfl rfl ?_
  refine Ex.done (hK _ _ ?_)
  refine At.then_n ?_
  refine W.seq ?_
  refine W.sub [(0, _), (2, _)] ⟨rfl, rfl, trivial⟩ ?_
  refine W.reg [(0, false), (1, false), (2, false), (3, false), (4, false), (5, false), (6, false), (7, false), (8, false), (9, false)] (by kernel_rfl) ?_ -- region 1
  intro K hK
  refine x_move rfl rfl rfl rfl ?_
  refine x_nepn true rfl rfl rfl Try.underlying23 rfl rfl rfl ?_ -- eq1 cache.go:84
  refine x_move rfl rfl rfl rfl ?_
  refine x_move rfl rfl rfl rfl ?_
  refine x_nil rfl rfl rfl rfl rfl ?_
  refine x_fa rfl rfl rfl fo63_3 rfl ?_
  refine x_ld rfl rfl rfl Try.underlying61 rfl rfl (cell_of hc rfl) ?_ -- ld1 cache.go:84
  refine x_nemn _ rfl rfl rfl Try.underlying61 rfl rfl rfl ?_ -- eq2 cache.go:84
  refine x_pickT rfl rfl rfl rfl rfl ?_
  refine x_assign rfl rfl rfl rfl ?_
  refine Ex.done (hK _ _ ?_)
  refine At.then_n ?_
  refine W.ret ?_
  refine At.ret1 (.tmp 2) rfl ⟨rfl, trivial⟩ ?_ -- ret1
  exact ⟨rfl, rfl⟩
end Go.Proofs.Ytbbccdcjhoecpaa
