/-
  The walk of functions of the cache, by program: cut2, cut1, front2, front1, empty.
-/
import Derived.Test.YtbbccdcjhoecpaaTab

namespace Go.Proofs.Ytbbccdcjhoecpaa
open Go Go.Fw Go.RowKit Go.Proofs

-- (valise/cache.ring[valise/cache.block]).cut
set_option maxRecDepth 100000 in
theorem cut2 {e l p q : Nat} {a0 a1 a2 a3 p0 p1 p2 p3 p4 p5 q0 q1 q2 q3 q4 q5 : Value} {w : World} (hl : w.heap[l]? = some (.cells [a0, a1, a2, a3, .pointer (some ⟨p, 0, none⟩), .pointer (some ⟨q, 0, none⟩)].toArray 70 (0, 0)))
    (hp : w.heap[p]? = some (.cells [p0, p1, p2, p3, p4, p5].toArray 70 (0, 0))) (hq : w.heap[q]? = some (.cells [q0, q1, q2, q3, q4, q5].toArray 70 (0, 0))) (h1 : l ≠ p) (h2 : l ≠ q) (h3 : p ≠ q) :
    Ret Try.prog 39 #[.agg #[.pointer (some ⟨e, 0, none⟩)], .pointer (some ⟨l, 0, none⟩)] w fun r w' => r = .tuple #[] ∧ St (fun b => b = l ∨ b = p ∨ b = q) w [(l, .cells [a0, a1, a2, a3, .pointer (some ⟨p, 0, none⟩), .pointer (some ⟨q, 0, none⟩)].toArray 70 (0, 0)), (p, .cells [p0, p1, p2, p3, p4, .pointer (some ⟨q, 0, none⟩)].toArray 70 (0, 0)), (q, .cells [q0, q1, q2, q3, .pointer (some ⟨p, 0, none⟩), q5].toArray 70 (0, 0))] w' := by
  have M : St (fun b => b = l ∨ b = p ∨ b = q) w [(l, .cells [a0, a1, a2, a3, .pointer (some ⟨p, 0, none⟩), .pointer (some ⟨q, 0, none⟩)].toArray 70 (0, 0)), (p, .cells [p0, p1, p2, p3, p4, p5].toArray 70 (0, 0)), (q, .cells [q0, q1, q2, q3, q4, q5].toArray 70 (0, 0))] w := ⟨Nat.le_refl _, fun _ _ _ => rfl, by simp [h1, h2, h3], by simp [hl, hp, hq], rfl, rfl, rfl⟩
  refine Ret.of_W Try.func39 rfl Try.ntmps39 rfl ?_
  refine W.seq ?_
  refine W.sub [(0, _), (1, _)] ⟨rfl, rfl, trivial⟩ ?_
  refine W.reg [(0, true)] (by kernel_rfl) ?_ -- region 0
  intro K hK
  refine x_box [_] rfl rfl rfl rfl rfl ?_ -- bx1 cache.go:27
  intro bbx1 wbx1 hbbx1 hwbx1
  have M := M.alloc hbbx1 hwbx1
  refine ⟨trivial, ?_⟩
  refine Ex.done (hK _ _ ?_)
  refine At.then_n ?_
  refine W.sub [(1, _)] ⟨rfl, trivial⟩ ?_
  refine W.regD (by kernel_rfl) #[0, 1, 3, 7, 0, 16, 48, 112, 0, 256, 768, 1792, 0, 4096, 12288, 28672, 65535, 131071, 262143, 524287, 1048575, 2097151] [(0, false), (1, false), (2, false), (3, false), (4, false), (5, false), (6, false), (7, false), (8, false), (9, false), (10, false), (11, false), (12, false), (13, false), (14, false), (15, false), (16, false), (17, false), (18, true), (19, false), (20, false), (21, true)] (by kernel_rfl) ?_ -- region 1
  intro K wD1 hK hwD1
  have M := M.drew hwD1
  refine x_move rfl rfl rfl rfl ?_
  refine x_nil rfl rfl rfl rfl rfl ?_
  refine x_fa rfl rfl rfl fo70_1 rfl ?_
  refine x_ld rfl rfl rfl Try.underlying58 rfl rfl (cell_of (by first | exact M.at_ 0 rfl | exact M.at_ 1 rfl | exact M.at_ 2 rfl | exact M.at_ 3 rfl | exact M.at_ 4 rfl | exact M.at_ 5 rfl) rfl) ?_ -- ld1 cache.go:27
  refine x_move rfl rfl rfl rfl ?_
  refine x_nil rfl rfl rfl rfl rfl ?_
  refine x_fa rfl rfl rfl fo70_2 rfl ?_
  refine x_ld rfl rfl rfl Try.underlying58 rfl rfl (cell_of (by first | exact M.at_ 0 rfl | exact M.at_ 1 rfl | exact M.at_ 2 rfl | exact M.at_ 3 rfl | exact M.at_ 4 rfl | exact M.at_ 5 rfl) rfl) ?_ -- ld2 cache.go:27
  refine x_move rfl rfl rfl rfl ?_
  refine x_nil rfl rfl rfl rfl rfl ?_
  refine x_fa rfl rfl rfl fo70_2 rfl ?_
  refine x_ld rfl rfl rfl Try.underlying58 rfl rfl (cell_of (by first | exact M.at_ 0 rfl | exact M.at_ 1 rfl | exact M.at_ 2 rfl | exact M.at_ 3 rfl | exact M.at_ 4 rfl | exact M.at_ 5 rfl) rfl) ?_ -- ld3 cache.go:27
  refine x_move rfl rfl rfl rfl ?_
  refine x_nil rfl rfl rfl rfl rfl ?_
  refine x_fa rfl rfl rfl fo70_1 rfl ?_
  refine x_ld rfl rfl rfl Try.underlying58 rfl rfl (cell_of (by first | exact M.at_ 0 rfl | exact M.at_ 1 rfl | exact M.at_ 2 rfl | exact M.at_ 3 rfl | exact M.at_ 4 rfl | exact M.at_ 5 rfl) rfl) ?_ -- ld4 cache.go:27
  refine x_nil rfl rfl rfl rfl rfl ?_
  refine x_fa rfl rfl rfl fo70_2 rfl ?_
  refine x_st [_] _ rfl rfl rfl sz58 rfl rfl rfl rfl (by first | exact M.at_ 0 rfl | exact M.at_ 1 rfl | exact M.at_ 2 rfl | exact M.at_ 3 rfl | exact M.at_ 4 rfl | exact M.at_ 5 rfl) rfl rfl rfl ?_ -- st1 cache.go:27
  intro wst1 hwst1
  have M := M.put 1 rfl hwst1
  refine ⟨⟨.inl (by kernel_rfl), .inl (by kernel_rfl), .inl (by kernel_rfl), .inl (by kernel_rfl), trivial⟩, ?_⟩
  refine x_nil rfl rfl rfl rfl rfl ?_
  refine x_fa rfl rfl rfl fo70_1 rfl ?_
  refine x_st [_] _ rfl rfl rfl sz58 rfl rfl rfl rfl (by first | exact M.at_ 0 rfl | exact M.at_ 1 rfl | exact M.at_ 2 rfl | exact M.at_ 3 rfl | exact M.at_ 4 rfl | exact M.at_ 5 rfl) rfl rfl rfl ?_ -- st2 cache.go:27
  intro wst2 hwst2
  have M := M.put 2 rfl hwst2
  refine ⟨⟨.inl (by kernel_rfl), .inl (by kernel_rfl), .inl (by kernel_rfl), .inl (by kernel_rfl), trivial⟩, ?_⟩
  refine Ex.done (hK _ _ ?_)
  refine At.fall ?_
  refine At.ret0 rfl ?_ -- ret1
  exact ⟨rfl, M.sub (by repeat (first | exact List.Sublist.slnil | exact List.nil_sublist _ | apply List.Sublist.cons_cons | apply List.Sublist.cons))⟩

-- (valise/cache.ring[valise/cache.block]).cut
set_option maxRecDepth 100000 in
theorem cut1 {e l p : Nat} {a0 a1 a2 a3 p0 p1 p2 p3 p4 p5 : Value} {w : World} (hl : w.heap[l]? = some (.cells [a0, a1, a2, a3, .pointer (some ⟨p, 0, none⟩), .pointer (some ⟨p, 0, none⟩)].toArray 70 (0, 0)))
    (hp : w.heap[p]? = some (.cells [p0, p1, p2, p3, p4, p5].toArray 70 (0, 0))) (h1 : l ≠ p) :
    Ret Try.prog 39 #[.agg #[.pointer (some ⟨e, 0, none⟩)], .pointer (some ⟨l, 0, none⟩)] w fun r w' => r = .tuple #[] ∧ St (fun b => b = l ∨ b = p) w [(l, .cells [a0, a1, a2, a3, .pointer (some ⟨p, 0, none⟩), .pointer (some ⟨p, 0, none⟩)].toArray 70 (0, 0)), (p, .cells [p0, p1, p2, p3, .pointer (some ⟨p, 0, none⟩), .pointer (some ⟨p, 0, none⟩)].toArray 70 (0, 0))] w' := by
  have M : St (fun b => b = l ∨ b = p) w [(l, .cells [a0, a1, a2, a3, .pointer (some ⟨p, 0, none⟩), .pointer (some ⟨p, 0, none⟩)].toArray 70 (0, 0)), (p, .cells [p0, p1, p2, p3, p4, p5].toArray 70 (0, 0))] w := ⟨Nat.le_refl _, fun _ _ _ => rfl, by simp [h1], by simp [hl, hp], rfl, rfl, rfl⟩
  refine Ret.of_W Try.func39 rfl Try.ntmps39 rfl ?_
  refine W.seq ?_
  refine W.sub [(0, _), (1, _)] ⟨rfl, rfl, trivial⟩ ?_
  refine W.reg [(0, true)] (by kernel_rfl) ?_ -- region 0
  intro K hK
  refine x_box [_] rfl rfl rfl rfl rfl ?_ -- bx1 cache.go:27
  intro bbx1 wbx1 hbbx1 hwbx1
  have M := M.alloc hbbx1 hwbx1
  refine ⟨trivial, ?_⟩
  refine Ex.done (hK _ _ ?_)
  refine At.then_n ?_
  refine W.sub [(1, _)] ⟨rfl, trivial⟩ ?_
  refine W.regD (by kernel_rfl) #[0, 1, 3, 7, 0, 16, 48, 112, 0, 256, 768, 1792, 0, 4096, 12288, 28672, 65535, 131071, 262143, 524287, 1048575, 2097151] [(0, false), (1, false), (2, false), (3, false), (4, false), (5, false), (6, false), (7, false), (8, false), (9, false), (10, false), (11, false), (12, false), (13, false), (14, false), (15, false), (16, false), (17, false), (18, true), (19, false), (20, false), (21, true)] (by kernel_rfl) ?_ -- region 1
  intro K wD1 hK hwD1
  have M := M.drew hwD1
  refine x_move rfl rfl rfl rfl ?_
  refine x_nil rfl rfl rfl rfl rfl ?_
  refine x_fa rfl rfl rfl fo70_1 rfl ?_
  refine x_ld rfl rfl rfl Try.underlying58 rfl rfl (cell_of (by first | exact M.at_ 0 rfl | exact M.at_ 1 rfl | exact M.at_ 2 rfl | exact M.at_ 3 rfl | exact M.at_ 4 rfl | exact M.at_ 5 rfl) rfl) ?_ -- ld1 cache.go:27
  refine x_move rfl rfl rfl rfl ?_
  refine x_nil rfl rfl rfl rfl rfl ?_
  refine x_fa rfl rfl rfl fo70_2 rfl ?_
  refine x_ld rfl rfl rfl Try.underlying58 rfl rfl (cell_of (by first | exact M.at_ 0 rfl | exact M.at_ 1 rfl | exact M.at_ 2 rfl | exact M.at_ 3 rfl | exact M.at_ 4 rfl | exact M.at_ 5 rfl) rfl) ?_ -- ld2 cache.go:27
  refine x_move rfl rfl rfl rfl ?_
  refine x_nil rfl rfl rfl rfl rfl ?_
  refine x_fa rfl rfl rfl fo70_2 rfl ?_
  refine x_ld rfl rfl rfl Try.underlying58 rfl rfl (cell_of (by first | exact M.at_ 0 rfl | exact M.at_ 1 rfl | exact M.at_ 2 rfl | exact M.at_ 3 rfl | exact M.at_ 4 rfl | exact M.at_ 5 rfl) rfl) ?_ -- ld3 cache.go:27
  refine x_move rfl rfl rfl rfl ?_
  refine x_nil rfl rfl rfl rfl rfl ?_
  refine x_fa rfl rfl rfl fo70_1 rfl ?_
  refine x_ld rfl rfl rfl Try.underlying58 rfl rfl (cell_of (by first | exact M.at_ 0 rfl | exact M.at_ 1 rfl | exact M.at_ 2 rfl | exact M.at_ 3 rfl | exact M.at_ 4 rfl | exact M.at_ 5 rfl) rfl) ?_ -- ld4 cache.go:27
  refine x_nil rfl rfl rfl rfl rfl ?_
  refine x_fa rfl rfl rfl fo70_2 rfl ?_
  refine x_st [_] _ rfl rfl rfl sz58 rfl rfl rfl rfl (by first | exact M.at_ 0 rfl | exact M.at_ 1 rfl | exact M.at_ 2 rfl | exact M.at_ 3 rfl | exact M.at_ 4 rfl | exact M.at_ 5 rfl) rfl rfl rfl ?_ -- st1 cache.go:27
  intro wst1 hwst1
  have M := M.put 1 rfl hwst1
  refine ⟨⟨.inl (by kernel_rfl), .inl (by kernel_rfl), .inl (by kernel_rfl), .inl (by kernel_rfl), trivial⟩, ?_⟩
  refine x_nil rfl rfl rfl rfl rfl ?_
  refine x_fa rfl rfl rfl fo70_1 rfl ?_
  refine x_st [_] _ rfl rfl rfl sz58 rfl rfl rfl rfl (by first | exact M.at_ 0 rfl | exact M.at_ 1 rfl | exact M.at_ 2 rfl | exact M.at_ 3 rfl | exact M.at_ 4 rfl | exact M.at_ 5 rfl) rfl rfl rfl ?_ -- st2 cache.go:27
  intro wst2 hwst2
  have M := M.put 1 rfl hwst2
  refine ⟨⟨.inl (by kernel_rfl), .inl (by kernel_rfl), .inl (by kernel_rfl), .inl (by kernel_rfl), trivial⟩, ?_⟩
  refine Ex.done (hK _ _ ?_)
  refine At.fall ?_
  refine At.ret0 rfl ?_ -- ret1
  exact ⟨rfl, M.sub (by repeat (first | exact List.Sublist.slnil | exact List.nil_sublist _ | apply List.Sublist.cons_cons | apply List.Sublist.cons))⟩

-- (valise/cache.ring[valise/cache.block]).front
set_option maxRecDepth 100000 in
theorem front2 {e l q : Nat} {a0 a1 a2 a3 a4 a5 p0 p1 p2 p3 p4 q0 q1 q2 q3 q4 q5 : Value} {w : World} (hl : w.heap[l]? = some (.cells [a0, a1, a2, a3, a4, a5].toArray 70 (0, 0)))
    (hp : w.heap[e]? = some (.cells [p0, p1, p2, p3, p4, .pointer (some ⟨q, 0, none⟩)].toArray 70 (0, 0))) (hq : w.heap[q]? = some (.cells [q0, q1, q2, q3, q4, q5].toArray 70 (0, 0))) (h1 : l ≠ e) (h2 : l ≠ q) (h3 : e ≠ q) :
    Ret Try.prog 27 #[.agg #[.pointer (some ⟨e, 0, none⟩)], .pointer (some ⟨l, 0, none⟩)] w fun r w' => r = .tuple #[] ∧ St (fun b => b = l ∨ b = e ∨ b = q) w [(l, .cells [a0, a1, a2, a3, .pointer (some ⟨e, 0, none⟩), .pointer (some ⟨q, 0, none⟩)].toArray 70 (0, 0)), (e, .cells [p0, p1, p2, p3, p4, .pointer (some ⟨l, 0, none⟩)].toArray 70 (0, 0)), (q, .cells [q0, q1, q2, q3, .pointer (some ⟨l, 0, none⟩), q5].toArray 70 (0, 0))] w' := by
  have M : St (fun b => b = l ∨ b = e ∨ b = q) w [(l, .cells [a0, a1, a2, a3, a4, a5].toArray 70 (0, 0)), (e, .cells [p0, p1, p2, p3, p4, .pointer (some ⟨q, 0, none⟩)].toArray 70 (0, 0)), (q, .cells [q0, q1, q2, q3, q4, q5].toArray 70 (0, 0))] w := ⟨Nat.le_refl _, fun _ _ _ => rfl, by simp [h1, h2, h3], by simp [hl, hp, hq], rfl, rfl, rfl⟩
  refine Ret.of_W Try.func27 rfl Try.ntmps27 rfl ?_
  refine W.seq ?_
  refine W.sub [(0, _), (1, _)] ⟨rfl, rfl, trivial⟩ ?_
  refine W.reg [(0, true)] (by kernel_rfl) ?_ -- region 0
  intro K hK
  refine x_box [_] rfl rfl rfl rfl rfl ?_ -- bx1 cache.go:30
  intro bbx1 wbx1 hbbx1 hwbx1
  have M := M.alloc hbbx1 hwbx1
  refine ⟨trivial, ?_⟩
  refine Ex.done (hK _ _ ?_)
  refine At.then_n ?_
  refine W.seq ?_
  refine W.sub [(1, _), (2, _)] ⟨rfl, rfl, trivial⟩ ?_
  refine W.regD (by kernel_rfl) #[0, 0, 0, 4, 0, 16, 48, 112, 240, 509, 1021, 2045, 4095, 8191, 16383] [(0, false), (1, false), (2, false), (3, false), (4, false), (5, false), (6, false), (7, false), (8, false), (9, false), (10, false), (11, true), (12, false), (13, false), (14, true)] (by kernel_rfl) ?_ -- region 1
  intro K wD1 hK hwD1
  have M := M.drew hwD1
  refine x_move rfl rfl rfl rfl ?_
  refine x_move rfl rfl rfl rfl ?_
  refine x_fa rfl rfl rfl fo60_0 rfl ?_
  refine x_ld rfl rfl rfl Try.underlying58 rfl rfl (cell_of (by first | exact M.at_ 0 rfl | exact M.at_ 1 rfl | exact M.at_ 2 rfl | exact M.at_ 3 rfl | exact M.at_ 4 rfl | exact M.at_ 5 rfl) rfl) ?_ -- ld1 cache.go:31
  refine x_fa rfl rfl rfl fo60_0 rfl ?_
  refine x_ld rfl rfl rfl Try.underlying58 rfl rfl (cell_of (by first | exact M.at_ 0 rfl | exact M.at_ 1 rfl | exact M.at_ 2 rfl | exact M.at_ 3 rfl | exact M.at_ 4 rfl | exact M.at_ 5 rfl) rfl) ?_ -- ld2 cache.go:31
  refine x_nil rfl rfl rfl rfl rfl ?_
  refine x_fa rfl rfl rfl fo70_2 rfl ?_
  refine x_ld rfl rfl rfl Try.underlying58 rfl rfl (cell_of (by first | exact M.at_ 0 rfl | exact M.at_ 1 rfl | exact M.at_ 2 rfl | exact M.at_ 3 rfl | exact M.at_ 4 rfl | exact M.at_ 5 rfl) rfl) ?_ -- ld3 cache.go:31
  refine x_nil rfl rfl rfl rfl rfl ?_
  refine x_fa rfl rfl rfl fo70_1 rfl ?_
  refine x_st [_] _ rfl rfl rfl sz58 rfl rfl rfl rfl (by first | exact M.at_ 0 rfl | exact M.at_ 1 rfl | exact M.at_ 2 rfl | exact M.at_ 3 rfl | exact M.at_ 4 rfl | exact M.at_ 5 rfl) rfl rfl rfl ?_ -- st1 cache.go:31
  intro wst1 hwst1
  have M := M.put 0 rfl hwst1
  refine ⟨⟨.inl (by kernel_rfl), .inl (by kernel_rfl), .inl (by kernel_rfl), trivial⟩, ?_⟩
  refine x_nil rfl rfl rfl rfl rfl ?_
  refine x_fa rfl rfl rfl fo70_2 rfl ?_
  refine x_st [_] _ rfl rfl rfl sz58 rfl rfl rfl rfl (by first | exact M.at_ 0 rfl | exact M.at_ 1 rfl | exact M.at_ 2 rfl | exact M.at_ 3 rfl | exact M.at_ 4 rfl | exact M.at_ 5 rfl) rfl rfl rfl ?_ -- st2 cache.go:31
  intro wst2 hwst2
  have M := M.put 0 rfl hwst2
  refine ⟨⟨.inl (by kernel_rfl), .inl (by kernel_rfl), .inl (by kernel_rfl), trivial⟩, ?_⟩
  refine Ex.done (hK _ _ ?_)
  refine At.then_n ?_
  refine W.sub [(1, _)] ⟨rfl, trivial⟩ ?_
  refine W.regD (by kernel_rfl) #[0, 1, 3, 7, 0, 16, 48, 112, 0, 0, 511, 1535, 3583, 8191, 16383, 32767] [(0, false), (1, false), (2, false), (3, false), (4, false), (5, false), (6, false), (7, false), (8, false), (9, false), (10, false), (11, false), (12, true), (13, false), (14, false), (15, true)] (by kernel_rfl) ?_ -- region 2
  intro K wD2 hK hwD2
  have M := M.drew hwD2
  refine x_move rfl rfl rfl rfl ?_
  refine x_nil rfl rfl rfl rfl rfl ?_
  refine x_fa rfl rfl rfl fo70_1 rfl ?_
  refine x_ld rfl rfl rfl Try.underlying58 rfl rfl (cell_of (by first | exact M.at_ 0 rfl | exact M.at_ 1 rfl | exact M.at_ 2 rfl | exact M.at_ 3 rfl | exact M.at_ 4 rfl | exact M.at_ 5 rfl) rfl) ?_ -- ld4 cache.go:32
  refine x_move rfl rfl rfl rfl ?_
  refine x_nil rfl rfl rfl rfl rfl ?_
  refine x_fa rfl rfl rfl fo70_2 rfl ?_
  refine x_ld rfl rfl rfl Try.underlying58 rfl rfl (cell_of (by first | exact M.at_ 0 rfl | exact M.at_ 1 rfl | exact M.at_ 2 rfl | exact M.at_ 3 rfl | exact M.at_ 4 rfl | exact M.at_ 5 rfl) rfl) ?_ -- ld5 cache.go:32
  refine x_move rfl rfl rfl rfl ?_
  refine x_move rfl rfl rfl rfl ?_
  refine x_nil rfl rfl rfl rfl rfl ?_
  refine x_fa rfl rfl rfl fo70_2 rfl ?_
  refine x_st [_] _ rfl rfl rfl sz58 rfl rfl rfl rfl (by first | exact M.at_ 0 rfl | exact M.at_ 1 rfl | exact M.at_ 2 rfl | exact M.at_ 3 rfl | exact M.at_ 4 rfl | exact M.at_ 5 rfl) rfl rfl rfl ?_ -- st3 cache.go:32
  intro wst3 hwst3
  have M := M.put 1 rfl hwst3
  refine ⟨⟨.inl (by kernel_rfl), .inl (by kernel_rfl), trivial⟩, ?_⟩
  refine x_nil rfl rfl rfl rfl rfl ?_
  refine x_fa rfl rfl rfl fo70_1 rfl ?_
  refine x_st [_] _ rfl rfl rfl sz58 rfl rfl rfl rfl (by first | exact M.at_ 0 rfl | exact M.at_ 1 rfl | exact M.at_ 2 rfl | exact M.at_ 3 rfl | exact M.at_ 4 rfl | exact M.at_ 5 rfl) rfl rfl rfl ?_ -- st4 cache.go:32
  intro wst4 hwst4
  have M := M.put 2 rfl hwst4
  refine ⟨⟨.inl (by kernel_rfl), .inl (by kernel_rfl), trivial⟩, ?_⟩
  refine Ex.done (hK _ _ ?_)
  refine At.fall ?_
  refine At.ret0 rfl ?_ -- ret1
  exact ⟨rfl, M.sub (by repeat (first | exact List.Sublist.slnil | exact List.nil_sublist _ | apply List.Sublist.cons_cons | apply List.Sublist.cons))⟩

-- (valise/cache.ring[valise/cache.block]).front
set_option maxRecDepth 100000 in
theorem front1 {e l : Nat} {a0 a1 a2 a3 a4 a5 p0 p1 p2 p3 p4 : Value} {w : World} (hl : w.heap[l]? = some (.cells [a0, a1, a2, a3, a4, a5].toArray 70 (0, 0)))
    (hp : w.heap[e]? = some (.cells [p0, p1, p2, p3, p4, .pointer (some ⟨e, 0, none⟩)].toArray 70 (0, 0))) (h1 : l ≠ e) :
    Ret Try.prog 27 #[.agg #[.pointer (some ⟨e, 0, none⟩)], .pointer (some ⟨l, 0, none⟩)] w fun r w' => r = .tuple #[] ∧ St (fun b => b = l ∨ b = e) w [(l, .cells [a0, a1, a2, a3, .pointer (some ⟨e, 0, none⟩), .pointer (some ⟨e, 0, none⟩)].toArray 70 (0, 0)), (e, .cells [p0, p1, p2, p3, .pointer (some ⟨l, 0, none⟩), .pointer (some ⟨l, 0, none⟩)].toArray 70 (0, 0))] w' := by
  have M : St (fun b => b = l ∨ b = e) w [(l, .cells [a0, a1, a2, a3, a4, a5].toArray 70 (0, 0)), (e, .cells [p0, p1, p2, p3, p4, .pointer (some ⟨e, 0, none⟩)].toArray 70 (0, 0))] w := ⟨Nat.le_refl _, fun _ _ _ => rfl, by simp [h1], by simp [hl, hp], rfl, rfl, rfl⟩
  refine Ret.of_W Try.func27 rfl Try.ntmps27 rfl ?_
  refine W.seq ?_
  refine W.sub [(0, _), (1, _)] ⟨rfl, rfl, trivial⟩ ?_
  refine W.reg [(0, true)] (by kernel_rfl) ?_ -- region 0
  intro K hK
  refine x_box [_] rfl rfl rfl rfl rfl ?_ -- bx1 cache.go:30
  intro bbx1 wbx1 hbbx1 hwbx1
  have M := M.alloc hbbx1 hwbx1
  refine ⟨trivial, ?_⟩
  refine Ex.done (hK _ _ ?_)
  refine At.then_n ?_
  refine W.seq ?_
  refine W.sub [(1, _), (2, _)] ⟨rfl, rfl, trivial⟩ ?_
  refine W.regD (by kernel_rfl) #[0, 0, 0, 4, 0, 16, 48, 112, 240, 509, 1021, 2045, 4095, 8191, 16383] [(0, false), (1, false), (2, false), (3, false), (4, false), (5, false), (6, false), (7, false), (8, false), (9, false), (10, false), (11, true), (12, false), (13, false), (14, true)] (by kernel_rfl) ?_ -- region 1
  intro K wD1 hK hwD1
  have M := M.drew hwD1
  refine x_move rfl rfl rfl rfl ?_
  refine x_move rfl rfl rfl rfl ?_
  refine x_fa rfl rfl rfl fo60_0 rfl ?_
  refine x_ld rfl rfl rfl Try.underlying58 rfl rfl (cell_of (by first | exact M.at_ 0 rfl | exact M.at_ 1 rfl | exact M.at_ 2 rfl | exact M.at_ 3 rfl | exact M.at_ 4 rfl | exact M.at_ 5 rfl) rfl) ?_ -- ld1 cache.go:31
  refine x_fa rfl rfl rfl fo60_0 rfl ?_
  refine x_ld rfl rfl rfl Try.underlying58 rfl rfl (cell_of (by first | exact M.at_ 0 rfl | exact M.at_ 1 rfl | exact M.at_ 2 rfl | exact M.at_ 3 rfl | exact M.at_ 4 rfl | exact M.at_ 5 rfl) rfl) ?_ -- ld2 cache.go:31
  refine x_nil rfl rfl rfl rfl rfl ?_
  refine x_fa rfl rfl rfl fo70_2 rfl ?_
  refine x_ld rfl rfl rfl Try.underlying58 rfl rfl (cell_of (by first | exact M.at_ 0 rfl | exact M.at_ 1 rfl | exact M.at_ 2 rfl | exact M.at_ 3 rfl | exact M.at_ 4 rfl | exact M.at_ 5 rfl) rfl) ?_ -- ld3 cache.go:31
  refine x_nil rfl rfl rfl rfl rfl ?_
  refine x_fa rfl rfl rfl fo70_1 rfl ?_
  refine x_st [_] _ rfl rfl rfl sz58 rfl rfl rfl rfl (by first | exact M.at_ 0 rfl | exact M.at_ 1 rfl | exact M.at_ 2 rfl | exact M.at_ 3 rfl | exact M.at_ 4 rfl | exact M.at_ 5 rfl) rfl rfl rfl ?_ -- st1 cache.go:31
  intro wst1 hwst1
  have M := M.put 0 rfl hwst1
  refine ⟨⟨.inl (by kernel_rfl), .inl (by kernel_rfl), .inl (by kernel_rfl), trivial⟩, ?_⟩
  refine x_nil rfl rfl rfl rfl rfl ?_
  refine x_fa rfl rfl rfl fo70_2 rfl ?_
  refine x_st [_] _ rfl rfl rfl sz58 rfl rfl rfl rfl (by first | exact M.at_ 0 rfl | exact M.at_ 1 rfl | exact M.at_ 2 rfl | exact M.at_ 3 rfl | exact M.at_ 4 rfl | exact M.at_ 5 rfl) rfl rfl rfl ?_ -- st2 cache.go:31
  intro wst2 hwst2
  have M := M.put 0 rfl hwst2
  refine ⟨⟨.inl (by kernel_rfl), .inl (by kernel_rfl), .inl (by kernel_rfl), trivial⟩, ?_⟩
  refine Ex.done (hK _ _ ?_)
  refine At.then_n ?_
  refine W.sub [(1, _)] ⟨rfl, trivial⟩ ?_
  refine W.regD (by kernel_rfl) #[0, 1, 3, 7, 0, 16, 48, 112, 0, 0, 511, 1535, 3583, 8191, 16383, 32767] [(0, false), (1, false), (2, false), (3, false), (4, false), (5, false), (6, false), (7, false), (8, false), (9, false), (10, false), (11, false), (12, true), (13, false), (14, false), (15, true)] (by kernel_rfl) ?_ -- region 2
  intro K wD2 hK hwD2
  have M := M.drew hwD2
  refine x_move rfl rfl rfl rfl ?_
  refine x_nil rfl rfl rfl rfl rfl ?_
  refine x_fa rfl rfl rfl fo70_1 rfl ?_
  refine x_ld rfl rfl rfl Try.underlying58 rfl rfl (cell_of (by first | exact M.at_ 0 rfl | exact M.at_ 1 rfl | exact M.at_ 2 rfl | exact M.at_ 3 rfl | exact M.at_ 4 rfl | exact M.at_ 5 rfl) rfl) ?_ -- ld4 cache.go:32
  refine x_move rfl rfl rfl rfl ?_
  refine x_nil rfl rfl rfl rfl rfl ?_
  refine x_fa rfl rfl rfl fo70_2 rfl ?_
  refine x_ld rfl rfl rfl Try.underlying58 rfl rfl (cell_of (by first | exact M.at_ 0 rfl | exact M.at_ 1 rfl | exact M.at_ 2 rfl | exact M.at_ 3 rfl | exact M.at_ 4 rfl | exact M.at_ 5 rfl) rfl) ?_ -- ld5 cache.go:32
  refine x_move rfl rfl rfl rfl ?_
  refine x_move rfl rfl rfl rfl ?_
  refine x_nil rfl rfl rfl rfl rfl ?_
  refine x_fa rfl rfl rfl fo70_2 rfl ?_
  refine x_st [_] _ rfl rfl rfl sz58 rfl rfl rfl rfl (by first | exact M.at_ 0 rfl | exact M.at_ 1 rfl | exact M.at_ 2 rfl | exact M.at_ 3 rfl | exact M.at_ 4 rfl | exact M.at_ 5 rfl) rfl rfl rfl ?_ -- st3 cache.go:32
  intro wst3 hwst3
  have M := M.put 1 rfl hwst3
  refine ⟨⟨.inl (by kernel_rfl), .inl (by kernel_rfl), trivial⟩, ?_⟩
  refine x_nil rfl rfl rfl rfl rfl ?_
  refine x_fa rfl rfl rfl fo70_1 rfl ?_
  refine x_st [_] _ rfl rfl rfl sz58 rfl rfl rfl rfl (by first | exact M.at_ 0 rfl | exact M.at_ 1 rfl | exact M.at_ 2 rfl | exact M.at_ 3 rfl | exact M.at_ 4 rfl | exact M.at_ 5 rfl) rfl rfl rfl ?_ -- st4 cache.go:32
  intro wst4 hwst4
  have M := M.put 1 rfl hwst4
  refine ⟨⟨.inl (by kernel_rfl), .inl (by kernel_rfl), trivial⟩, ?_⟩
  refine Ex.done (hK _ _ ?_)
  refine At.fall ?_
  refine At.ret0 rfl ?_ -- ret1
  exact ⟨rfl, M.sub (by repeat (first | exact List.Sublist.slnil | exact List.nil_sublist _ | apply List.Sublist.cons_cons | apply List.Sublist.cons))⟩

-- valise/cache.empty[valise/cache.block]
set_option maxRecDepth 100000 in
theorem empty_calls {w : World} : Ret Try.prog 24 #[] w fun r w' => ∃ e, r = .agg #[.pointer (some ⟨e, 0, none⟩)] ∧ w.heap.size ≤ e ∧ St None' w [(e, .cells [.string ByteArray.empty, .int .i64 0, .slice none 0 0, .int .i64 0, .pointer (some ⟨e, 0, none⟩), .pointer (some ⟨e, 0, none⟩)].toArray 70 (0, 0))] w' := by
  have M : St None' w [] w := Frm.refl _ _
  refine Ret.of_W Try.func24 rfl Try.ntmps24 rfl ?_
  refine W.seq ?_
  refine W.sub [] trivial ?_
  refine W.reg [(0, true)] (by kernel_rfl) ?_ -- region 0
  intro K hK
  refine x_alloc [_] rfl rfl rfl ze60 rfl ?_ -- al1 cache.go:20
  intro bal1 wal1 hbal1 hwal1
  have M := M.alloc hbal1 hwal1
  refine ⟨trivial, ?_⟩
  refine Ex.done (hK _ _ ?_)
  refine At.then_n ?_
  refine W.seq ?_
  refine W.sub [(0, _)] ⟨rfl, trivial⟩ ?_
  refine W.reg [(0, false), (1, true), (2, false)] (by kernel_rfl) ?_ -- region 1
  intro K hK
  refine x_build [_, _, _, _, _, _] rfl rfl rfl pl70 ze70 rfl rfl rfl ?_ -- bu1 cache.go:21
  refine x_box [_, _, _, _, _, _] rfl rfl rfl rfl rfl ?_ -- bx1 cache.go:21
  intro bbx1 wbx1 hbbx1 hwbx1
  have M := M.alloc hbbx1 hwbx1
  refine ⟨trivial, ?_⟩
  refine x_assign rfl rfl rfl rfl ?_
  refine Ex.done (hK _ _ ?_)
  refine At.then_n ?_
  refine W.seq ?_
  refine W.sub [(0, _), (1, _)] ⟨rfl, rfl, trivial⟩ ?_
  refine W.reg [(0, false), (1, false), (2, false), (3, false), (4, false), (5, false), (6, true), (7, false), (8, false), (9, true)] (by kernel_rfl) ?_ -- region 2
  intro K hK
  refine x_move rfl rfl rfl rfl ?_
  refine x_move rfl rfl rfl rfl ?_
  refine x_move rfl rfl rfl rfl ?_
  refine x_move rfl rfl rfl rfl ?_
  refine x_nil rfl rfl rfl rfl rfl ?_
  refine x_fa rfl rfl rfl fo70_1 rfl ?_
  refine x_st [_] _ rfl rfl rfl sz58 rfl rfl rfl rfl (by first | exact M.at_ 0 rfl | exact M.at_ 1 rfl | exact M.at_ 2 rfl | exact M.at_ 3 rfl | exact M.at_ 4 rfl | exact M.at_ 5 rfl) rfl rfl rfl ?_ -- st1 cache.go:22
  intro wst1 hwst1
  have M := M.put 1 rfl hwst1
  refine ⟨trivial, ?_⟩
  refine x_nil rfl rfl rfl rfl rfl ?_
  refine x_fa rfl rfl rfl fo70_2 rfl ?_
  refine x_st [_] _ rfl rfl rfl sz58 rfl rfl rfl rfl (by first | exact M.at_ 0 rfl | exact M.at_ 1 rfl | exact M.at_ 2 rfl | exact M.at_ 3 rfl | exact M.at_ 4 rfl | exact M.at_ 5 rfl) rfl rfl rfl ?_ -- st2 cache.go:22
  intro wst2 hwst2
  have M := M.put 1 rfl hwst2
  refine ⟨trivial, ?_⟩
  refine Ex.done (hK _ _ ?_)
  refine At.then_n ?_
  refine W.seq ?_
  refine W.sub [(0, _), (1, _)] ⟨rfl, rfl, trivial⟩ ?_
  refine W.reg [(0, false), (1, false), (2, true)] (by kernel_rfl) ?_ -- region 3
  intro K hK
  refine x_move rfl rfl rfl rfl ?_
  refine x_build [_] rfl rfl rfl pl60 ze60 rfl rfl rfl ?_ -- bu2 cache.go:23
  refine x_st [_] _ rfl rfl rfl sz60 rfl rfl rfl rfl (by first | exact M.at_ 0 rfl | exact M.at_ 1 rfl | exact M.at_ 2 rfl | exact M.at_ 3 rfl | exact M.at_ 4 rfl | exact M.at_ 5 rfl) rfl rfl rfl ?_ -- st3 cache.go:23
  intro wst3 hwst3
  have M := M.put 0 rfl hwst3
  refine ⟨trivial, ?_⟩
  refine Ex.done (hK _ _ ?_)
  refine At.then_n ?_
  refine W.ret ?_
  refine At.ret1 (.cell 0 60) rfl ⟨⟨_, rfl, run_loadVarA (l := [_]) Try.underlying60 rfl sz60 ⟨_, _, _, M.at_ 0 rfl, rfl⟩ (Nat.zero_lt_succ _)⟩, trivial⟩ ?_ -- ret1
  exact ⟨_, rfl, (M.own _ (List.mem_of_getElem? (i := 1) rfl)).2.resolve_left id, M.sub (by repeat (first | exact List.Sublist.slnil | exact List.nil_sublist _ | apply List.Sublist.cons_cons | apply List.Sublist.cons))⟩
end Go.Proofs.Ytbbccdcjhoecpaa
