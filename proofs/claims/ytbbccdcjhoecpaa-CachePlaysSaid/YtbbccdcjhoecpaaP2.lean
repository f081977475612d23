/-
  Texts that belong together, laid into one file: W2, P2, W3, C1, C2, C3, C4, W1, W4, W5, C5, C6, W9, W7, C7, C8, W10, W6.
-/
import Derived.Test.YtbbccdcjhoecpaaP1
namespace Go.Proofs.Ytbbccdcjhoecpaa
open Go Go.Fw Go.RowKit Go.Proofs

-- (valise/cache.ring[valise/cache.block]).cut
set_option maxRecDepth 100000 in
theorem cut2 {e l p q : Nat} {a0 a1 a2 a3 p0 p1 p2 p3 p4 p5 q0 q1 q2 q3 q4 q5 : Value} {w : World} (hl : w.heap[l]? = some (.cells [a0, a1, a2, a3, .pointer (some ⟨p, 0, none⟩), .pointer (some ⟨q, 0, none⟩)].toArray 70 (0, 0)))
    (hp : w.heap[p]? = some (.cells [p0, p1, p2, p3, p4, p5].toArray 70 (0, 0))) (hq : w.heap[q]? = some (.cells [q0, q1, q2, q3, q4, q5].toArray 70 (0, 0))) (h1 : l ≠ p) (h2 : l ≠ q) (h3 : p ≠ q) :
    Ret Try.prog 39 #[.agg #[.pointer (some ⟨e, 0, none⟩)], .pointer (some ⟨l, 0, none⟩)] w fun r w' => r = .tuple #[] ∧ St (fun b => b = l ∨ b = p ∨ b = q) w [(l, .cells [a0, a1, a2, a3, .pointer (some ⟨p, 0, none⟩), .pointer (some ⟨q, 0, none⟩)].toArray 70 (0, 0)), (p, .cells [p0, p1, p2, p3, p4, .pointer (some ⟨q, 0, none⟩)].toArray 70 (0, 0)), (q, .cells [q0, q1, q2, q3, .pointer (some ⟨p, 0, none⟩), q5].toArray 70 (0, 0))] w' := by
  have M : St (fun b => b = l ∨ b = p ∨ b = q) w [(l, .cells [a0, a1, a2, a3, .pointer (some ⟨p, 0, none⟩), .pointer (some ⟨q, 0, none⟩)].toArray 70 (0, 0)), (p, .cells [p0, p1, p2, p3, p4, p5].toArray 70 (0, 0)), (q, .cells [q0, q1, q2, q3, q4, q5].toArray 70 (0, 0))] w := ⟨Nat.le_refl _, fun _ _ _ => rfl, by simp [h1, h2, h3], by simp [hl, hp, hq], rfl, rfl, rfl⟩
  refine Ret.of_W Try.func39 rfl Try.ntmps39 rfl ?_
  refine W.seq ?_
  refine W.sub [(0, _), (1, _)] ⟨rfl, rfl, trivial⟩ ?_
  refine W.reg [(0, true)] (by kernel_rfl) ?_ -- region 0
  intro K hK
  refine x_box [_] rfl rfl rfl rfl rfl ?_ -- bx1 cache.go:27
  intro bbx1 wbx1 hbbx1 hwbx1
  have M := M.alloc hbbx1 hwbx1
  refine ⟨trivial, ?_⟩
  refine Ex.done (hK _ _ ?_)
  refine At.then_n ?_
  refine W.sub [(1, _)] ⟨rfl, trivial⟩ ?_
  refine W.regD (by kernel_rfl) #[0, 1, 3, 7, 0, 16, 48, 112, 0, 256, 768, 1792, 0, 4096, 12288, 28672, 65535, 131071, 262143, 524287, 1048575, 2097151] [(0, false), (1, false), (2, false), (3, false), (4, false), (5, false), (6, false), (7, false), (8, false), (9, false), (10, false), (11, false), (12, false), (13, false), (14, false), (15, false), (16, false), (17, false), (18, true), (19, false), (20, false), (21, true)] (by kernel_rfl) ?_ -- region 1
  intro K wD1 hK hwD1
  have M := M.drew hwD1
  refine x_move rfl rfl rfl rfl ?_
  refine x_nil rfl rfl rfl rfl rfl ?_
  refine x_fa rfl rfl rfl fo70_1 rfl ?_
  refine x_ld rfl rfl rfl Try.underlying58 rfl rfl (cell_of (by first | exact M.at_ 0 rfl | exact M.at_ 1 rfl | exact M.at_ 2 rfl | exact M.at_ 3 rfl | exact M.at_ 4 rfl | exact M.at_ 5 rfl) rfl) ?_ -- ld1 cache.go:27
  refine x_move rfl rfl rfl rfl ?_
  refine x_nil rfl rfl rfl rfl rfl ?_
  refine x_fa rfl rfl rfl fo70_2 rfl ?_
  refine x_ld rfl rfl rfl Try.underlying58 rfl rfl (cell_of (by first | exact M.at_ 0 rfl | exact M.at_ 1 rfl | exact M.at_ 2 rfl | exact M.at_ 3 rfl | exact M.at_ 4 rfl | exact M.at_ 5 rfl) rfl) ?_ -- ld2 cache.go:27
  refine x_move rfl rfl rfl rfl ?_
  refine x_nil rfl rfl rfl rfl rfl ?_
  refine x_fa rfl rfl rfl fo70_2 rfl ?_
  refine x_ld rfl rfl rfl Try.underlying58 rfl rfl (cell_of (by first | exact M.at_ 0 rfl | exact M.at_ 1 rfl | exact M.at_ 2 rfl | exact M.at_ 3 rfl | exact M.at_ 4 rfl | exact M.at_ 5 rfl) rfl) ?_ -- ld3 cache.go:27
  refine x_move rfl rfl rfl rfl ?_
  refine x_nil rfl rfl rfl rfl rfl ?_
  refine x_fa rfl rfl rfl fo70_1 rfl ?_
  refine x_ld rfl rfl rfl Try.underlying58 rfl rfl (cell_of (by first | exact M.at_ 0 rfl | exact M.at_ 1 rfl | exact M.at_ 2 rfl | exact M.at_ 3 rfl | exact M.at_ 4 rfl | exact M.at_ 5 rfl) rfl) ?_ -- ld4 cache.go:27
  refine x_nil rfl rfl rfl rfl rfl ?_
  refine x_fa rfl rfl rfl fo70_2 rfl ?_
  refine x_st [_] _ rfl rfl rfl sz58 rfl rfl rfl rfl (by first | exact M.at_ 0 rfl | exact M.at_ 1 rfl | exact M.at_ 2 rfl | exact M.at_ 3 rfl | exact M.at_ 4 rfl | exact M.at_ 5 rfl) rfl rfl rfl ?_ -- st1 cache.go:27
  intro wst1 hwst1
  have M := M.put 1 rfl hwst1
  refine ⟨⟨.inl (by kernel_rfl), .inl (by kernel_rfl), .inl (by kernel_rfl), .inl (by kernel_rfl), trivial⟩, ?_⟩
  refine x_nil rfl rfl rfl rfl rfl ?_
  refine x_fa rfl rfl rfl fo70_1 rfl ?_
  refine x_st [_] _ rfl rfl rfl sz58 rfl rfl rfl rfl (by first | exact M.at_ 0 rfl | exact M.at_ 1 rfl | exact M.at_ 2 rfl | exact M.at_ 3 rfl | exact M.at_ 4 rfl | exact M.at_ 5 rfl) rfl rfl rfl ?_ -- st2 cache.go:27
  intro wst2 hwst2
  have M := M.put 2 rfl hwst2
  refine ⟨⟨.inl (by kernel_rfl), .inl (by kernel_rfl), .inl (by kernel_rfl), .inl (by kernel_rfl), trivial⟩, ?_⟩
  refine Ex.done (hK _ _ ?_)
  refine At.fall ?_
  refine At.ret0 rfl ?_ -- ret1
  exact ⟨rfl, M.sub (by repeat (first | exact List.Sublist.slnil | exact List.nil_sublist _ | apply List.Sublist.cons_cons | apply List.Sublist.cons))⟩

-- (valise/cache.ring[valise/cache.block]).cut
set_option maxRecDepth 100000 in
theorem cut1 {e l p : Nat} {a0 a1 a2 a3 p0 p1 p2 p3 p4 p5 : Value} {w : World} (hl : w.heap[l]? = some (.cells [a0, a1, a2, a3, .pointer (some ⟨p, 0, none⟩), .pointer (some ⟨p, 0, none⟩)].toArray 70 (0, 0)))
    (hp : w.heap[p]? = some (.cells [p0, p1, p2, p3, p4, p5].toArray 70 (0, 0))) (h1 : l ≠ p) :
    Ret Try.prog 39 #[.agg #[.pointer (some ⟨e, 0, none⟩)], .pointer (some ⟨l, 0, none⟩)] w fun r w' => r = .tuple #[] ∧ St (fun b => b = l ∨ b = p) w [(l, .cells [a0, a1, a2, a3, .pointer (some ⟨p, 0, none⟩), .pointer (some ⟨p, 0, none⟩)].toArray 70 (0, 0)), (p, .cells [p0, p1, p2, p3, .pointer (some ⟨p, 0, none⟩), .pointer (some ⟨p, 0, none⟩)].toArray 70 (0, 0))] w' := by
  have M : St (fun b => b = l ∨ b = p) w [(l, .cells [a0, a1, a2, a3, .pointer (some ⟨p, 0, none⟩), .pointer (some ⟨p, 0, none⟩)].toArray 70 (0, 0)), (p, .cells [p0, p1, p2, p3, p4, p5].toArray 70 (0, 0))] w := ⟨Nat.le_refl _, fun _ _ _ => rfl, by simp [h1], by simp [hl, hp], rfl, rfl, rfl⟩
  refine Ret.of_W Try.func39 rfl Try.ntmps39 rfl ?_
  refine W.seq ?_
  refine W.sub [(0, _), (1, _)] ⟨rfl, rfl, trivial⟩ ?_
  refine W.reg [(0, true)] (by kernel_rfl) ?_ -- region 0
  intro K hK
  refine x_box [_] rfl rfl rfl rfl rfl ?_ -- bx1 cache.go:27
  intro bbx1 wbx1 hbbx1 hwbx1
  have M := M.alloc hbbx1 hwbx1
  refine ⟨trivial, ?_⟩
  refine Ex.done (hK _ _ ?_)
  refine At.then_n ?_
  refine W.sub [(1, _)] ⟨rfl, trivial⟩ ?_
  refine W.regD (by kernel_rfl) #[0, 1, 3, 7, 0, 16, 48, 112, 0, 256, 768, 1792, 0, 4096, 12288, 28672, 65535, 131071, 262143, 524287, 1048575, 2097151] [(0, false), (1, false), (2, false), (3, false), (4, false), (5, false), (6, false), (7, false), (8, false), (9, false), (10, false), (11, false), (12, false), (13, false), (14, false), (15, false), (16, false), (17, false), (18, true), (19, false), (20, false), (21, true)] (by kernel_rfl) ?_ -- region 1
  intro K wD1 hK hwD1
  have M := M.drew hwD1
  refine x_move rfl rfl rfl rfl ?_
  refine x_nil rfl rfl rfl rfl rfl ?_
  refine x_fa rfl rfl rfl fo70_1 rfl ?_
  refine x_ld rfl rfl rfl Try.underlying58 rfl rfl (cell_of (by first | exact M.at_ 0 rfl | exact M.at_ 1 rfl | exact M.at_ 2 rfl | exact M.at_ 3 rfl | exact M.at_ 4 rfl | exact M.at_ 5 rfl) rfl) ?_ -- ld1 cache.go:27
  refine x_move rfl rfl rfl rfl ?_
  refine x_nil rfl rfl rfl rfl rfl ?_
  refine x_fa rfl rfl rfl fo70_2 rfl ?_
  refine x_ld rfl rfl rfl Try.underlying58 rfl rfl (cell_of (by first | exact M.at_ 0 rfl | exact M.at_ 1 rfl | exact M.at_ 2 rfl | exact M.at_ 3 rfl | exact M.at_ 4 rfl | exact M.at_ 5 rfl) rfl) ?_ -- ld2 cache.go:27
  refine x_move rfl rfl rfl rfl ?_
  refine x_nil rfl rfl rfl rfl rfl ?_
  refine x_fa rfl rfl rfl fo70_2 rfl ?_
  refine x_ld rfl rfl rfl Try.underlying58 rfl rfl (cell_of (by first | exact M.at_ 0 rfl | exact M.at_ 1 rfl | exact M.at_ 2 rfl | exact M.at_ 3 rfl | exact M.at_ 4 rfl | exact M.at_ 5 rfl) rfl) ?_ -- ld3 cache.go:27
  refine x_move rfl rfl rfl rfl ?_
  refine x_nil rfl rfl rfl rfl rfl ?_
  refine x_fa rfl rfl rfl fo70_1 rfl ?_
  refine x_ld rfl rfl rfl Try.underlying58 rfl rfl (cell_of (by first | exact M.at_ 0 rfl | exact M.at_ 1 rfl | exact M.at_ 2 rfl | exact M.at_ 3 rfl | exact M.at_ 4 rfl | exact M.at_ 5 rfl) rfl) ?_ -- ld4 cache.go:27
  refine x_nil rfl rfl rfl rfl rfl ?_
  refine x_fa rfl rfl rfl fo70_2 rfl ?_
  refine x_st [_] _ rfl rfl rfl sz58 rfl rfl rfl rfl (by first | exact M.at_ 0 rfl | exact M.at_ 1 rfl | exact M.at_ 2 rfl | exact M.at_ 3 rfl | exact M.at_ 4 rfl | exact M.at_ 5 rfl) rfl rfl rfl ?_ -- st1 cache.go:27
  intro wst1 hwst1
  have M := M.put 1 rfl hwst1
  refine ⟨⟨.inl (by kernel_rfl), .inl (by kernel_rfl), .inl (by kernel_rfl), .inl (by kernel_rfl), trivial⟩, ?_⟩
  refine x_nil rfl rfl rfl rfl rfl ?_
  refine x_fa rfl rfl rfl fo70_1 rfl ?_
  refine x_st [_] _ rfl rfl rfl sz58 rfl rfl rfl rfl (by first | exact M.at_ 0 rfl | exact M.at_ 1 rfl | exact M.at_ 2 rfl | exact M.at_ 3 rfl | exact M.at_ 4 rfl | exact M.at_ 5 rfl) rfl rfl rfl ?_ -- st2 cache.go:27
  intro wst2 hwst2
  have M := M.put 1 rfl hwst2
  refine ⟨⟨.inl (by kernel_rfl), .inl (by kernel_rfl), .inl (by kernel_rfl), .inl (by kernel_rfl), trivial⟩, ?_⟩
  refine Ex.done (hK _ _ ?_)
  refine At.fall ?_
  refine At.ret0 rfl ?_ -- ret1
  exact ⟨rfl, M.sub (by repeat (first | exact List.Sublist.slnil | exact List.nil_sublist _ | apply List.Sublist.cons_cons | apply List.Sublist.cons))⟩

-- (valise/cache.ring[valise/cache.block]).front
set_option maxRecDepth 100000 in
theorem front2 {e l q : Nat} {a0 a1 a2 a3 a4 a5 p0 p1 p2 p3 p4 q0 q1 q2 q3 q4 q5 : Value} {w : World} (hl : w.heap[l]? = some (.cells [a0, a1, a2, a3, a4, a5].toArray 70 (0, 0)))
    (hp : w.heap[e]? = some (.cells [p0, p1, p2, p3, p4, .pointer (some ⟨q, 0, none⟩)].toArray 70 (0, 0))) (hq : w.heap[q]? = some (.cells [q0, q1, q2, q3, q4, q5].toArray 70 (0, 0))) (h1 : l ≠ e) (h2 : l ≠ q) (h3 : e ≠ q) :
    Ret Try.prog 27 #[.agg #[.pointer (some ⟨e, 0, none⟩)], .pointer (some ⟨l, 0, none⟩)] w fun r w' => r = .tuple #[] ∧ St (fun b => b = l ∨ b = e ∨ b = q) w [(l, .cells [a0, a1, a2, a3, .pointer (some ⟨e, 0, none⟩), .pointer (some ⟨q, 0, none⟩)].toArray 70 (0, 0)), (e, .cells [p0, p1, p2, p3, p4, .pointer (some ⟨l, 0, none⟩)].toArray 70 (0, 0)), (q, .cells [q0, q1, q2, q3, .pointer (some ⟨l, 0, none⟩), q5].toArray 70 (0, 0))] w' := by
  have M : St (fun b => b = l ∨ b = e ∨ b = q) w [(l, .cells [a0, a1, a2, a3, a4, a5].toArray 70 (0, 0)), (e, .cells [p0, p1, p2, p3, p4, .pointer (some ⟨q, 0, none⟩)].toArray 70 (0, 0)), (q, .cells [q0, q1, q2, q3, q4, q5].toArray 70 (0, 0))] w := ⟨Nat.le_refl _, fun _ _ _ => rfl, by simp [h1, h2, h3], by simp [hl, hp, hq], rfl, rfl, rfl⟩
  refine Ret.of_W Try.func27 rfl Try.ntmps27 rfl ?_
  refine W.seq ?_
  refine W.sub [(0, _), (1, _)] ⟨rfl, rfl, trivial⟩ ?_
  refine W.reg [(0, true)] (by kernel_rfl) ?_ -- region 0
  intro K hK
  refine x_box [_] rfl rfl rfl rfl rfl ?_ -- bx1 cache.go:30
  intro bbx1 wbx1 hbbx1 hwbx1
  have M := M.alloc hbbx1 hwbx1
  refine ⟨trivial, ?_⟩
  refine Ex.done (hK _ _ ?_)
  refine At.then_n ?_
  refine W.seq ?_
  refine W.sub [(1, _), (2, _)] ⟨rfl, rfl, trivial⟩ ?_
  refine W.regD (by kernel_rfl) #[0, 0, 0, 4, 0, 16, 48, 112, 240, 509, 1021, 2045, 4095, 8191, 16383] [(0, false), (1, false), (2, false), (3, false), (4, false), (5, false), (6, false), (7, false), (8, false), (9, false), (10, false), (11, true), (12, false), (13, false), (14, true)] (by kernel_rfl) ?_ -- region 1
  intro K wD1 hK hwD1
  have M := M.drew hwD1
  refine x_move rfl rfl rfl rfl ?_
  refine x_move rfl rfl rfl rfl ?_
  refine x_fa rfl rfl rfl fo60_0 rfl ?_
  refine x_ld rfl rfl rfl Try.underlying58 rfl rfl (cell_of (by first | exact M.at_ 0 rfl | exact M.at_ 1 rfl | exact M.at_ 2 rfl | exact M.at_ 3 rfl | exact M.at_ 4 rfl | exact M.at_ 5 rfl) rfl) ?_ -- ld1 cache.go:31
  refine x_fa rfl rfl rfl fo60_0 rfl ?_
  refine x_ld rfl rfl rfl Try.underlying58 rfl rfl (cell_of (by first | exact M.at_ 0 rfl | exact M.at_ 1 rfl | exact M.at_ 2 rfl | exact M.at_ 3 rfl | exact M.at_ 4 rfl | exact M.at_ 5 rfl) rfl) ?_ -- ld2 cache.go:31
  refine x_nil rfl rfl rfl rfl rfl ?_
  refine x_fa rfl rfl rfl fo70_2 rfl ?_
  refine x_ld rfl rfl rfl Try.underlying58 rfl rfl (cell_of (by first | exact M.at_ 0 rfl | exact M.at_ 1 rfl | exact M.at_ 2 rfl | exact M.at_ 3 rfl | exact M.at_ 4 rfl | exact M.at_ 5 rfl) rfl) ?_ -- ld3 cache.go:31
  refine x_nil rfl rfl rfl rfl rfl ?_
  refine x_fa rfl rfl rfl fo70_1 rfl ?_
  refine x_st [_] _ rfl rfl rfl sz58 rfl rfl rfl rfl (by first | exact M.at_ 0 rfl | exact M.at_ 1 rfl | exact M.at_ 2 rfl | exact M.at_ 3 rfl | exact M.at_ 4 rfl | exact M.at_ 5 rfl) rfl rfl rfl ?_ -- st1 cache.go:31
  intro wst1 hwst1
  have M := M.put 0 rfl hwst1
  refine ⟨⟨.inl (by kernel_rfl), .inl (by kernel_rfl), .inl (by kernel_rfl), trivial⟩, ?_⟩
  refine x_nil rfl rfl rfl rfl rfl ?_
  refine x_fa rfl rfl rfl fo70_2 rfl ?_
  refine x_st [_] _ rfl rfl rfl sz58 rfl rfl rfl rfl (by first | exact M.at_ 0 rfl | exact M.at_ 1 rfl | exact M.at_ 2 rfl | exact M.at_ 3 rfl | exact M.at_ 4 rfl | exact M.at_ 5 rfl) rfl rfl rfl ?_ -- st2 cache.go:31
  intro wst2 hwst2
  have M := M.put 0 rfl hwst2
  refine ⟨⟨.inl (by kernel_rfl), .inl (by kernel_rfl), .inl (by kernel_rfl), trivial⟩, ?_⟩
  refine Ex.done (hK _ _ ?_)
  refine At.then_n ?_
  refine W.sub [(1, _)] ⟨rfl, trivial⟩ ?_
  refine W.regD (by kernel_rfl) #[0, 1, 3, 7, 0, 16, 48, 112, 0, 0, 511, 1535, 3583, 8191, 16383, 32767] [(0, false), (1, false), (2, false), (3, false), (4, false), (5, false), (6, false), (7, false), (8, false), (9, false), (10, false), (11, false), (12, true), (13, false), (14, false), (15, true)] (by kernel_rfl) ?_ -- region 2
  intro K wD2 hK hwD2
  have M := M.drew hwD2
  refine x_move rfl rfl rfl rfl ?_
  refine x_nil rfl rfl rfl rfl rfl ?_
  refine x_fa rfl rfl rfl fo70_1 rfl ?_
  refine x_ld rfl rfl rfl Try.underlying58 rfl rfl (cell_of (by first | exact M.at_ 0 rfl | exact M.at_ 1 rfl | exact M.at_ 2 rfl | exact M.at_ 3 rfl | exact M.at_ 4 rfl | exact M.at_ 5 rfl) rfl) ?_ -- ld4 cache.go:32
  refine x_move rfl rfl rfl rfl ?_
  refine x_nil rfl rfl rfl rfl rfl ?_
  refine x_fa rfl rfl rfl fo70_2 rfl ?_
  refine x_ld rfl rfl rfl Try.underlying58 rfl rfl (cell_of (by first | exact M.at_ 0 rfl | exact M.at_ 1 rfl | exact M.at_ 2 rfl | exact M.at_ 3 rfl | exact M.at_ 4 rfl | exact M.at_ 5 rfl) rfl) ?_ -- ld5 cache.go:32
  refine x_move rfl rfl rfl rfl ?_
  refine x_move rfl rfl rfl rfl ?_
  refine x_nil rfl rfl rfl rfl rfl ?_
  refine x_fa rfl rfl rfl fo70_2 rfl ?_
  refine x_st [_] _ rfl rfl rfl sz58 rfl rfl rfl rfl (by first | exact M.at_ 0 rfl | exact M.at_ 1 rfl | exact M.at_ 2 rfl | exact M.at_ 3 rfl | exact M.at_ 4 rfl | exact M.at_ 5 rfl) rfl rfl rfl ?_ -- st3 cache.go:32
  intro wst3 hwst3
  have M := M.put 1 rfl hwst3
  refine ⟨⟨.inl (by kernel_rfl), .inl (by kernel_rfl), trivial⟩, ?_⟩
  refine x_nil rfl rfl rfl rfl rfl ?_
  refine x_fa rfl rfl rfl fo70_1 rfl ?_
  refine x_st [_] _ rfl rfl rfl sz58 rfl rfl rfl rfl (by first | exact M.at_ 0 rfl | exact M.at_ 1 rfl | exact M.at_ 2 rfl | exact M.at_ 3 rfl | exact M.at_ 4 rfl | exact M.at_ 5 rfl) rfl rfl rfl ?_ -- st4 cache.go:32
  intro wst4 hwst4
  have M := M.put 2 rfl hwst4
  refine ⟨⟨.inl (by kernel_rfl), .inl (by kernel_rfl), trivial⟩, ?_⟩
  refine Ex.done (hK _ _ ?_)
  refine At.fall ?_
  refine At.ret0 rfl ?_ -- ret1
  exact ⟨rfl, M.sub (by repeat (first | exact List.Sublist.slnil | exact List.nil_sublist _ | apply List.Sublist.cons_cons | apply List.Sublist.cons))⟩

-- (valise/cache.ring[valise/cache.block]).front
set_option maxRecDepth 100000 in
theorem front1 {e l : Nat} {a0 a1 a2 a3 a4 a5 p0 p1 p2 p3 p4 : Value} {w : World} (hl : w.heap[l]? = some (.cells [a0, a1, a2, a3, a4, a5].toArray 70 (0, 0)))
    (hp : w.heap[e]? = some (.cells [p0, p1, p2, p3, p4, .pointer (some ⟨e, 0, none⟩)].toArray 70 (0, 0))) (h1 : l ≠ e) :
    Ret Try.prog 27 #[.agg #[.pointer (some ⟨e, 0, none⟩)], .pointer (some ⟨l, 0, none⟩)] w fun r w' => r = .tuple #[] ∧ St (fun b => b = l ∨ b = e) w [(l, .cells [a0, a1, a2, a3, .pointer (some ⟨e, 0, none⟩), .pointer (some ⟨e, 0, none⟩)].toArray 70 (0, 0)), (e, .cells [p0, p1, p2, p3, .pointer (some ⟨l, 0, none⟩), .pointer (some ⟨l, 0, none⟩)].toArray 70 (0, 0))] w' := by
  have M : St (fun b => b = l ∨ b = e) w [(l, .cells [a0, a1, a2, a3, a4, a5].toArray 70 (0, 0)), (e, .cells [p0, p1, p2, p3, p4, .pointer (some ⟨e, 0, none⟩)].toArray 70 (0, 0))] w := ⟨Nat.le_refl _, fun _ _ _ => rfl, by simp [h1], by simp [hl, hp], rfl, rfl, rfl⟩
  refine Ret.of_W Try.func27 rfl Try.ntmps27 rfl ?_
  refine W.seq ?_
  refine W.sub [(0, _), (1, _)] ⟨rfl, rfl, trivial⟩ ?_
  refine W.reg [(0, true)] (by kernel_rfl) ?_ -- region 0
  intro K hK
  refine x_box [_] rfl rfl rfl rfl rfl ?_ -- bx1 cache.go:30
  intro bbx1 wbx1 hbbx1 hwbx1
  have M := M.alloc hbbx1 hwbx1
  refine ⟨trivial, ?_⟩
  refine Ex.done (hK _ _ ?_)
  refine At.then_n ?_
  refine W.seq ?_
  refine W.sub [(1, _), (2, _)] ⟨rfl, rfl, trivial⟩ ?_
  refine W.regD (by kernel_rfl) #[0, 0, 0, 4, 0, 16, 48, 112, 240, 509, 1021, 2045, 4095, 8191, 16383] [(0, false), (1, false), (2, false), (3, false), (4, false), (5, false), (6, false), (7, false), (8, false), (9, false), (10, false), (11, true), (12, false), (13, false), (14, true)] (by kernel_rfl) ?_ -- region 1
  intro K wD1 hK hwD1
  have M := M.drew hwD1
  refine x_move rfl rfl rfl rfl ?_
  refine x_move rfl rfl rfl rfl ?_
  refine x_fa rfl rfl rfl fo60_0 rfl ?_
  refine x_ld rfl rfl rfl Try.underlying58 rfl rfl (cell_of (by first | exact M.at_ 0 rfl | exact M.at_ 1 rfl | exact M.at_ 2 rfl | exact M.at_ 3 rfl | exact M.at_ 4 rfl | exact M.at_ 5 rfl) rfl) ?_ -- ld1 cache.go:31
  refine x_fa rfl rfl rfl fo60_0 rfl ?_
  refine x_ld rfl rfl rfl Try.underlying58 rfl rfl (cell_of (by first | exact M.at_ 0 rfl | exact M.at_ 1 rfl | exact M.at_ 2 rfl | exact M.at_ 3 rfl | exact M.at_ 4 rfl | exact M.at_ 5 rfl) rfl) ?_ -- ld2 cache.go:31
  refine x_nil rfl rfl rfl rfl rfl ?_
  refine x_fa rfl rfl rfl fo70_2 rfl ?_
  refine x_ld rfl rfl rfl Try.underlying58 rfl rfl (cell_of (by first | exact M.at_ 0 rfl | exact M.at_ 1 rfl | exact M.at_ 2 rfl | exact M.at_ 3 rfl | exact M.at_ 4 rfl | exact M.at_ 5 rfl) rfl) ?_ -- ld3 cache.go:31
  refine x_nil rfl rfl rfl rfl rfl ?_
  refine x_fa rfl rfl rfl fo70_1 rfl ?_
  refine x_st [_] _ rfl rfl rfl sz58 rfl rfl rfl rfl (by first | exact M.at_ 0 rfl | exact M.at_ 1 rfl | exact M.at_ 2 rfl | exact M.at_ 3 rfl | exact M.at_ 4 rfl | exact M.at_ 5 rfl) rfl rfl rfl ?_ -- st1 cache.go:31
  intro wst1 hwst1
  have M := M.put 0 rfl hwst1
  refine ⟨⟨.inl (by kernel_rfl), .inl (by kernel_rfl), .inl (by kernel_rfl), trivial⟩, ?_⟩
  refine x_nil rfl rfl rfl rfl rfl ?_
  refine x_fa rfl rfl rfl fo70_2 rfl ?_
  refine x_st [_] _ rfl rfl rfl sz58 rfl rfl rfl rfl (by first | exact M.at_ 0 rfl | exact M.at_ 1 rfl | exact M.at_ 2 rfl | exact M.at_ 3 rfl | exact M.at_ 4 rfl | exact M.at_ 5 rfl) rfl rfl rfl ?_ -- st2 cache.go:31
  intro wst2 hwst2
  have M := M.put 0 rfl hwst2
  refine ⟨⟨.inl (by kernel_rfl), .inl (by kernel_rfl), .inl (by kernel_rfl), trivial⟩, ?_⟩
  refine Ex.done (hK _ _ ?_)
  refine At.then_n ?_
  refine W.sub [(1, _)] ⟨rfl, trivial⟩ ?_
  refine W.regD (by kernel_rfl) #[0, 1, 3, 7, 0, 16, 48, 112, 0, 0, 511, 1535, 3583, 8191, 16383, 32767] [(0, false), (1, false), (2, false), (3, false), (4, false), (5, false), (6, false), (7, false), (8, false), (9, false), (10, false), (11, false), (12, true), (13, false), (14, false), (15, true)] (by kernel_rfl) ?_ -- region 2
  intro K wD2 hK hwD2
  have M := M.drew hwD2
  refine x_move rfl rfl rfl rfl ?_
  refine x_nil rfl rfl rfl rfl rfl ?_
  refine x_fa rfl rfl rfl fo70_1 rfl ?_
  refine x_ld rfl rfl rfl Try.underlying58 rfl rfl (cell_of (by first | exact M.at_ 0 rfl | exact M.at_ 1 rfl | exact M.at_ 2 rfl | exact M.at_ 3 rfl | exact M.at_ 4 rfl | exact M.at_ 5 rfl) rfl) ?_ -- ld4 cache.go:32
  refine x_move rfl rfl rfl rfl ?_
  refine x_nil rfl rfl rfl rfl rfl ?_
  refine x_fa rfl rfl rfl fo70_2 rfl ?_
  refine x_ld rfl rfl rfl Try.underlying58 rfl rfl (cell_of (by first | exact M.at_ 0 rfl | exact M.at_ 1 rfl | exact M.at_ 2 rfl | exact M.at_ 3 rfl | exact M.at_ 4 rfl | exact M.at_ 5 rfl) rfl) ?_ -- ld5 cache.go:32
  refine x_move rfl rfl rfl rfl ?_
  refine x_move rfl rfl rfl rfl ?_
  refine x_nil rfl rfl rfl rfl rfl ?_
  refine x_fa rfl rfl rfl fo70_2 rfl ?_
  refine x_st [_] _ rfl rfl rfl sz58 rfl rfl rfl rfl (by first | exact M.at_ 0 rfl | exact M.at_ 1 rfl | exact M.at_ 2 rfl | exact M.at_ 3 rfl | exact M.at_ 4 rfl | exact M.at_ 5 rfl) rfl rfl rfl ?_ -- st3 cache.go:32
  intro wst3 hwst3
  have M := M.put 1 rfl hwst3
  refine ⟨⟨.inl (by kernel_rfl), .inl (by kernel_rfl), trivial⟩, ?_⟩
  refine x_nil rfl rfl rfl rfl rfl ?_
  refine x_fa rfl rfl rfl fo70_1 rfl ?_
  refine x_st [_] _ rfl rfl rfl sz58 rfl rfl rfl rfl (by first | exact M.at_ 0 rfl | exact M.at_ 1 rfl | exact M.at_ 2 rfl | exact M.at_ 3 rfl | exact M.at_ 4 rfl | exact M.at_ 5 rfl) rfl rfl rfl ?_ -- st4 cache.go:32
  intro wst4 hwst4
  have M := M.put 1 rfl hwst4
  refine ⟨⟨.inl (by kernel_rfl), .inl (by kernel_rfl), trivial⟩, ?_⟩
  refine Ex.done (hK _ _ ?_)
  refine At.fall ?_
  refine At.ret0 rfl ?_ -- ret1
  exact ⟨rfl, M.sub (by repeat (first | exact List.Sublist.slnil | exact List.nil_sublist _ | apply List.Sublist.cons_cons | apply List.Sublist.cons))⟩

-- valise/cache.empty[valise/cache.block]
set_option maxRecDepth 100000 in
theorem empty_calls {w : World} : Ret Try.prog 24 #[] w fun r w' => ∃ e, r = .agg #[.pointer (some ⟨e, 0, none⟩)] ∧ w.heap.size ≤ e ∧ St None' w [(e, .cells [.string ByteArray.empty, .int .i64 0, .slice none 0 0, .int .i64 0, .pointer (some ⟨e, 0, none⟩), .pointer (some ⟨e, 0, none⟩)].toArray 70 (0, 0))] w' := by
  have M : St None' w [] w := Frm.refl _ _
  refine Ret.of_W Try.func24 rfl Try.ntmps24 rfl ?_
  refine W.seq ?_
  refine W.sub [] trivial ?_
  refine W.reg [(0, true)] (by kernel_rfl) ?_ -- region 0
  intro K hK
  refine x_alloc [_] rfl rfl rfl ze60 rfl ?_ -- al1 cache.go:20
  intro bal1 wal1 hbal1 hwal1
  have M := M.alloc hbal1 hwal1
  refine ⟨trivial, ?_⟩
  refine Ex.done (hK _ _ ?_)
  refine At.then_n ?_
  refine W.seq ?_
  refine W.sub [(0, _)] ⟨rfl, trivial⟩ ?_
  refine W.reg [(0, false), (1, true), (2, false)] (by kernel_rfl) ?_ -- region 1
  intro K hK
  refine x_build [_, _, _, _, _, _] rfl rfl rfl pl70 ze70 rfl rfl rfl ?_ -- bu1 cache.go:21
  refine x_box [_, _, _, _, _, _] rfl rfl rfl rfl rfl ?_ -- bx1 cache.go:21
  intro bbx1 wbx1 hbbx1 hwbx1
  have M := M.alloc hbbx1 hwbx1
  refine ⟨trivial, ?_⟩
  refine x_assign rfl rfl rfl rfl ?_
  refine Ex.done (hK _ _ ?_)
  refine At.then_n ?_
  refine W.seq ?_
  refine W.sub [(0, _), (1, _)] ⟨rfl, rfl, trivial⟩ ?_
  refine W.reg [(0, false), (1, false), (2, false), (3, false), (4, false), (5, false), (6, true), (7, false), (8, false), (9, true)] (by kernel_rfl) ?_ -- region 2
  intro K hK
  refine x_move rfl rfl rfl rfl ?_
  refine x_move rfl rfl rfl rfl ?_
  refine x_move rfl rfl rfl rfl ?_
  refine x_move rfl rfl rfl rfl ?_
  refine x_nil rfl rfl rfl rfl rfl ?_
  refine x_fa rfl rfl rfl fo70_1 rfl ?_
  refine x_st [_] _ rfl rfl rfl sz58 rfl rfl rfl rfl (by first | exact M.at_ 0 rfl | exact M.at_ 1 rfl | exact M.at_ 2 rfl | exact M.at_ 3 rfl | exact M.at_ 4 rfl | exact M.at_ 5 rfl) rfl rfl rfl ?_ -- st1 cache.go:22
  intro wst1 hwst1
  have M := M.put 1 rfl hwst1
  refine ⟨trivial, ?_⟩
  refine x_nil rfl rfl rfl rfl rfl ?_
  refine x_fa rfl rfl rfl fo70_2 rfl ?_
  refine x_st [_] _ rfl rfl rfl sz58 rfl rfl rfl rfl (by first | exact M.at_ 0 rfl | exact M.at_ 1 rfl | exact M.at_ 2 rfl | exact M.at_ 3 rfl | exact M.at_ 4 rfl | exact M.at_ 5 rfl) rfl rfl rfl ?_ -- st2 cache.go:22
  intro wst2 hwst2
  have M := M.put 1 rfl hwst2
  refine ⟨trivial, ?_⟩
  refine Ex.done (hK _ _ ?_)
  refine At.then_n ?_
  refine W.seq ?_
  refine W.sub [(0, _), (1, _)] ⟨rfl, rfl, trivial⟩ ?_
  refine W.reg [(0, false), (1, false), (2, true)] (by kernel_rfl) ?_ -- region 3
  intro K hK
  refine x_move rfl rfl rfl rfl ?_
  refine x_build [_] rfl rfl rfl pl60 ze60 rfl rfl rfl ?_ -- bu2 cache.go:23
  refine x_st [_] _ rfl rfl rfl sz60 rfl rfl rfl rfl (by first | exact M.at_ 0 rfl | exact M.at_ 1 rfl | exact M.at_ 2 rfl | exact M.at_ 3 rfl | exact M.at_ 4 rfl | exact M.at_ 5 rfl) rfl rfl rfl ?_ -- st3 cache.go:23
  intro wst3 hwst3
  have M := M.put 0 rfl hwst3
  refine ⟨trivial, ?_⟩
  refine Ex.done (hK _ _ ?_)
  refine At.then_n ?_
  refine W.ret ?_
  refine At.ret1 (.cell 0 60) rfl ⟨⟨_, rfl, run_loadVarA (l := [_]) Try.underlying60 rfl sz60 ⟨_, _, _, M.at_ 0 rfl, rfl⟩ (Nat.zero_lt_succ _)⟩, trivial⟩ ?_ -- ret1
  exact ⟨_, rfl, (M.own _ (List.mem_of_getElem? (i := 1) rfl)).2.resolve_left id, M.sub (by repeat (first | exact List.Sublist.slnil | exact List.nil_sublist _ | apply List.Sublist.cons_cons | apply List.Sublist.cons))⟩
end Go.Proofs.Ytbbccdcjhoecpaa

namespace Go.Proofs.Ytbbccdcjhoecpaa
open Go Go.Fw Go.RowKit Go.Proofs
set_option linter.unusedVariables false
set_option linter.unusedSimpArgs false

theorem snoc_of_ne {α : Type} : ∀ (x : α) (l : List α), ∃ A p, x :: l = A ++ [p]
  | x, [] => ⟨[], x, rfl⟩
  | x, y :: l => let ⟨A, p, h⟩ := snoc_of_ne y l; ⟨x :: A, p, by rw [h]; rfl⟩

theorem cons_of_snoc {α : Type} (l : List α) (x : α) : ∃ q B, l ++ [x] = q :: B := by
  cases l with
  | nil => exact ⟨x, [], rfl⟩
  | cons y l => exact ⟨y, l ++ [x], rfl⟩

theorem ids_app (A B : List Nd) : ids (A ++ B) = ids A ++ ids B := by simp [ids]

/-- What turns in a ring. -/
abbrev InRing (e : Nat) (L : List Nd) : Nat → Prop := fun b => b ∈ e :: ids L

theorem cut_ring {w : World} {e : Nat} {A B : List Nd} {l : Nd} (h : Ring w e (A ++ l :: B)) :
    Ret Try.prog 39 #[.agg #[ptr e], ptr l.id] w fun r w' => r = .tuple #[] ∧ Ring w' e (A ++ B) ∧ (∃ x y, w'.heap[l.id]? = some (nodeO l x y)) ∧ Frm (InRing e (A ++ l :: B)) w w' := by
  obtain ⟨ah, nx, h⟩ := h
  obtain ⟨A', p, hA⟩ := snoc_of_ne e (ids A)
  obtain ⟨q, B', hB⟩ := cons_of_snoc (ids B) e
  have hcyc : e :: (ids (A ++ l :: B) ++ [e]) = A' ++ p :: l.id :: q :: B' := by
    rw [ids_app]
    show e :: (ids A ++ l.id :: ids B ++ [e]) = _
    rw [List.append_assoc, List.cons_append, hB, ← List.cons_append, hA]
    simp
  have hnew : e :: (ids (A ++ B) ++ [e]) = A' ++ p :: q :: B' := by
    rw [ids_app, List.append_assoc, hB, ← List.cons_append, hA]
    simp
  have hl := h.link
  rw [hcyc] at hl
  have hl2 := hl
  rw [linked_app] at hl2
  simp only [linked] at hl2
  obtain ⟨_, hpn, hlp, hlq, hql, _⟩ := hl2
  have hnd := h.nd
  rw [ids_app] at hnd
  have hids : e :: (ids A ++ ids (l :: B)) = A' ++ p :: l.id :: ids B := by
    show e :: (ids A ++ l.id :: ids B) = _
    rw [← List.cons_append, hA]; simp
  have hnd2 := hnd
  rw [hids] at hnd2
  have hpm : p ∈ e :: ids A := by rw [hA]; simp
  have hqm : q ∈ ids B ++ [e] := by rw [hB]; simp
  have hpm' : p ∈ e :: ids (A ++ l :: B) := by rw [ids_app]; simp at hpm ⊢; rcases hpm with h1 | h1 <;> simp [h1]
  have hqm' : q ∈ e :: ids (A ++ l :: B) := by rw [ids_app]; simp [ids] at hqm ⊢; rcases hqm with h1 | h1 <;> simp [h1]
  have hlm' : l.id ∈ e :: ids (A ++ l :: B) := by rw [ids_app]; simp [ids]
  -- who is apart from whom
  rw [List.nodup_append] at hnd2
  obtain ⟨n1, n2, n3⟩ := hnd2
  simp only [List.nodup_cons] at n2
  obtain ⟨n21, n22, n23⟩ := n2
  have hpl : l.id ≠ p := fun e1 => n21 (by rw [← e1]; simp)
  have hql' : l.id ≠ q := by
    intro e1
    rw [← e1] at hqm
    rcases List.mem_append.1 hqm with h1 | h1
    · exact n22 h1
    · simp at h1
      have := hnd
      simp only [List.nodup_cons] at this
      exact this.1 (by simp [ids, h1])
  have hpB : p ∉ ids B := fun h1 => n21 (List.mem_cons_of_mem _ h1)
  have hA'p : ∀ a ∈ A', a ≠ p := fun a ha e1 => n3 a ha p (by simp) e1
  have heA : e ∉ ids A := by
    simp only [List.nodup_cons] at hnd
    exact fun h1 => hnd.1 (by simp [h1])
  have heB : e ∉ ids B := by
    simp only [List.nodup_cons] at hnd
    exact fun h1 => hnd.1 (by simp [ids] at h1 ⊢; exact .inr (.inr h1))
  have htail : (A' ++ [p]).tail = ids A := by rw [← hA]; rfl
  have hAB : ∀ a ∈ ids A, a ∉ ids B := fun a ha hb => by
    simp only [List.nodup_cons, List.nodup_append] at hnd
    exact hnd.2.2.2 a ha a (by simp [ids] at hb ⊢; exact .inr hb) rfl
  have hAq : ∀ a ∈ (A' ++ [p]).tail, a ≠ q := by
    rw [htail]
    intro a ha e1
    subst e1
    rcases List.mem_append.1 hqm with h1 | h1
    · exact hAB a ha h1
    · simp at h1; exact heA (h1 ▸ ha)
  have hdl : (q :: B').dropLast = ids B := by rw [← hB, List.dropLast_concat]
  have hBp : ∀ a ∈ (q :: B').dropLast, a ≠ p := by
    rw [hdl]; intro a ha e1; exact hpB (e1 ▸ ha)
  have hBq : ∀ a ∈ B', a ≠ q := by
    have : (q :: B').Nodup := by
      rw [← hB, List.nodup_append]
      simp only [List.nodup_cons, List.nodup_append] at hnd
      refine ⟨?_, by simp, ?_⟩
      · have := hnd.2.2.1; simp [ids] at this ⊢; exact this.2
      · intro a ha b hb e1; simp at hb; exact heB (hb ▸ e1 ▸ ha)
    simp only [List.nodup_cons] at this
    exact fun a ha e1 => this.1 (e1 ▸ ha)
  have hlink := linked_cut hl hA'p hAq hBp hBq
  have hnodup : (e :: ids (A ++ B)).Nodup := by
    rw [ids_app]
    refine hnd.sublist ?_
    refine List.Sublist.cons_cons _ (List.Sublist.append (List.Sublist.refl _) (List.sublist_cons_self _ _))
  have hsub : ∀ x ∈ e :: ids (A ++ B), x ∈ e :: ids (A ++ l :: B) := by
    intro x hx; rw [ids_app] at hx ⊢; simp [ids] at hx ⊢; rcases hx with h1 | h1 | h1
    · exact .inl h1
    · exact .inr (.inl h1)
    · exact .inr (.inr (.inr h1))
  have hneq : ∀ x ∈ e :: ids (A ++ B), x ≠ l.id := by
    intro x hx e1
    subst e1
    rw [ids_app] at hx
    have h0 := hnd
    simp only [List.nodup_cons, List.nodup_append] at h0
    rcases List.mem_cons.1 hx with h1 | h1
    · exact h0.1 (by simp [ids, h1])
    · rcases List.mem_append.1 h1 with h1 | h1
      · exact h0.2.2.2 l.id h1 l.id (by simp [ids]) rfl
      · exact n22 h1
  have hln := h.node l (by simp)
  obtain ⟨p0, p1, p2, p3, hp, hp1, hp2⟩ := h.six hpm'
  obtain ⟨q0, q1, q2, q3, hq, hq1, hq2⟩ := h.six hqm'
  rw [hlp, hlq] at hln
  by_cases hpq : p = q
  · subst hpq
    refine (cut1 hln hp hpl).mono ?_
    rintro r w' ⟨rfl, M⟩
    have m0 := M.at_ 0 rfl
    have m1 := M.at_ 1 rfl
    have hF : Frm (InRing e (A ++ l :: B)) w w' := (Frm.refl _ w).trans M.frm (by rintro b (rfl | rfl) _ <;> exact .inl (by assumption))
    refine ⟨rfl, ⟨_, _, RingF.of_six (by rw [hnew]; exact hlink) hnodup ?_⟩, ⟨p, p, m0⟩, hF⟩
    intro x hx
    have hxl := hneq x hx
    by_cases hxp : x = p
    · subst hxp
      refine ⟨p0, p1, p2, p3, by rw [m1]; simp [upd, ptr], hp1, fun nd hn => hp2 nd (by simp at hn ⊢; rcases hn with h1 | h1 <;> simp [h1])⟩
    · obtain ⟨a, b, c, d, g1, g2, g3⟩ := h.six (hsub x hx)
      have hlt : x < w.heap.size := (Array.getElem?_eq_some_iff.1 g1).1
      refine ⟨a, b, c, d, by rw [M.old x hlt (by simp [hxl, hxp]), g1]; simp [upd, hxp], g2, fun nd hn => g3 nd (by simp at hn ⊢; rcases hn with h1 | h1 <;> simp [h1])⟩
  · refine (cut2 hln hp hq hpl hql' hpq).mono ?_
    rintro r w' ⟨rfl, M⟩
    have m0 := M.at_ 0 rfl
    have m1 := M.at_ 1 rfl
    have m2 := M.at_ 2 rfl
    have hF : Frm (InRing e (A ++ l :: B)) w w' := (Frm.refl _ w).trans M.frm (by rintro b (rfl | rfl | rfl) _ <;> exact .inl (by assumption))
    refine ⟨rfl, ⟨_, _, RingF.of_six (by rw [hnew]; exact hlink) hnodup ?_⟩, ⟨p, q, m0⟩, hF⟩
    intro x hx
    have hxl := hneq x hx
    by_cases hxp : x = p
    · subst hxp
      refine ⟨p0, p1, p2, p3, by rw [m1]; simp [upd, ptr, hpq], hp1, fun nd hn => hp2 nd (by simp at hn ⊢; rcases hn with h1 | h1 <;> simp [h1])⟩
    · by_cases hxq : x = q
      · subst hxq
        refine ⟨q0, q1, q2, q3, by rw [m2]; simp [upd, ptr, hxp], hq1, fun nd hn => hq2 nd (by simp at hn ⊢; rcases hn with h1 | h1 <;> simp [h1])⟩
      · obtain ⟨a, b, c, d, g1, g2, g3⟩ := h.six (hsub x hx)
        have hlt : x < w.heap.size := (Array.getElem?_eq_some_iff.1 g1).1
        refine ⟨a, b, c, d, by rw [M.old x hlt (by simp [hxl, hxp, hxq]), g1]; simp [upd, hxp, hxq], g2, fun nd hn => g3 nd (by simp at hn ⊢; rcases hn with h1 | h1 <;> simp [h1])⟩

theorem front_ring {w : World} {e : Nat} {L : List Nd} {l : Nd} {x0 y0 : Value} (h : Ring w e L) (hl : w.heap[l.id]? = some (.cells [.string l.f, .int .i64 l.i, l.sv, .int .i64 l.pins, x0, y0].toArray 70 (0, 0))) (hn : l.id ∉ e :: ids L) :
    Ret Try.prog 27 #[.agg #[ptr e], ptr l.id] w fun r w' => r = .tuple #[] ∧ Ring w' e (l :: L) ∧ Frm (InRing e (l :: L)) w w' := by
  obtain ⟨ah, nx, h⟩ := h
  obtain ⟨q, B, hB⟩ := cons_of_snoc (ids L) e
  have hk := h.link
  rw [hB] at hk
  have hq0 : nx e = q := hk.1
  have hqm : q ∈ e :: ids L := by
    have : q ∈ ids L ++ [e] := by rw [hB]; simp
    rcases List.mem_append.1 this with h1 | h1
    · exact List.mem_cons_of_mem _ h1
    · simp at h1; simp [h1]
  have hle : l.id ≠ e := fun e1 => hn (by simp [e1])
  have hlq : l.id ≠ q := fun e1 => hn (e1 ▸ hqm)
  have hdl : (q :: B).dropLast = ids L := by rw [← hB, List.dropLast_concat]
  have hnd := h.nd
  simp only [List.nodup_cons] at hnd
  have hB2 : ∀ a ∈ B, a ≠ q ∧ a ≠ l.id := by
    have h1 : (q :: B).Nodup := by
      rw [← hB, List.nodup_append]
      exact ⟨hnd.2, by simp, fun a ha b hb e1 => by simp at hb; exact hnd.1 (hb ▸ e1 ▸ ha)⟩
    simp only [List.nodup_cons] at h1
    refine fun a ha => ⟨fun e1 => h1.1 (e1 ▸ ha), fun e1 => hn ?_⟩
    have : a ∈ ids L ++ [e] := by rw [hB]; simp [ha]
    rw [← e1]
    rcases List.mem_append.1 this with h2 | h2
    · exact List.mem_cons_of_mem _ h2
    · simp at h2; simp [h2]
  have hlink := linked_front (l := l.id) hk (by rw [hdl]; exact fun a ha => ⟨fun e1 => hnd.1 (e1 ▸ ha), fun e1 => hn (e1 ▸ List.mem_cons_of_mem _ ha)⟩) hB2 hle (Ne.symm hlq)
  have hnodup : (e :: ids (l :: L)).Nodup := by
    show (e :: l.id :: ids L).Nodup
    simp only [List.nodup_cons, List.mem_cons, not_or] at hn ⊢
    exact ⟨⟨Ne.symm hle, hnd.1⟩, hn.2, hnd.2⟩
  have hnew : e :: (ids (l :: L) ++ [e]) = e :: l.id :: q :: B := by
    show e :: l.id :: (ids L ++ [e]) = _
    rw [hB]
  obtain ⟨p0, p1, p2, p3, hp, hp1, hp2⟩ := h.six (x := e) (by simp)
  rw [hq0] at hp
  by_cases hpq : e = q
  · subst hpq
    refine (front1 hl hp hle).mono ?_
    rintro r w' ⟨rfl, M⟩
    have m0 := M.at_ 0 rfl
    have m1 := M.at_ 1 rfl
    have hF : Frm (InRing e (l :: L)) w w' := (Frm.refl _ w).trans M.frm (by rintro b (rfl | rfl) _ <;> exact .inl (by simp [InRing, ids]))
    refine ⟨rfl, ⟨_, _, RingF.of_six (by rw [hnew]; exact hlink) hnodup ?_⟩, hF⟩
    intro x hx
    by_cases hxl : x = l.id
    · subst hxl
      refine ⟨.string l.f, .int .i64 l.i, l.sv, .int .i64 l.pins, by rw [m0]; simp [upd, ptr, hle], fun e1 => absurd e1 hle, fun nd hnd1 e1 => ?_⟩
      rcases List.mem_cons.1 hnd1 with rfl | h2
      · rfl
      · exact absurd (List.mem_cons_of_mem e (List.mem_map.2 ⟨nd, h2, e1⟩)) hn
    · by_cases hxe : x = e
      · subst hxe
        refine ⟨p0, p1, p2, p3, by rw [m1]; simp [upd, ptr], hp1, fun nd hnd1 e1 => ?_⟩
        rcases List.mem_cons.1 hnd1 with rfl | h2
        · exact absurd e1 hle
        · exact hp2 nd h2 e1
      · have hx' : x ∈ e :: ids L := by simp [ids] at hx ⊢; rcases hx with h1 | h1 | h1; exact .inl h1; exact absurd h1 hxl; exact .inr h1
        obtain ⟨a, b, c, d, g1, g2, g3⟩ := h.six hx'
        have hlt : x < w.heap.size := (Array.getElem?_eq_some_iff.1 g1).1
        refine ⟨a, b, c, d, by rw [M.old x hlt (by simp [hxl, hxe]), g1]; simp [upd, hxl, hxe], g2, fun nd hnd1 e1 => ?_⟩
        rcases List.mem_cons.1 hnd1 with rfl | h2
        · exact absurd e1.symm hxl
        · exact g3 nd h2 e1
  · obtain ⟨q0, q1, q2, q3, hq, hq1, hq2⟩ := h.six hqm
    refine (front2 hl hp hq hle hlq hpq).mono ?_
    rintro r w' ⟨rfl, M⟩
    have m0 := M.at_ 0 rfl
    have m1 := M.at_ 1 rfl
    have m2 := M.at_ 2 rfl
    have hF : Frm (InRing e (l :: L)) w w' := (Frm.refl _ w).trans M.frm (by
      rintro b (rfl | rfl | rfl) _
      · exact .inl (by simp [InRing, ids])
      · exact .inl (by simp [InRing, ids])
      · exact .inl (by simp [InRing, ids] at hqm ⊢; rcases hqm with h1 | h1; exact .inl h1; exact .inr (.inr h1)))
    refine ⟨rfl, ⟨_, _, RingF.of_six (by rw [hnew]; exact hlink) hnodup ?_⟩, hF⟩
    intro x hx
    by_cases hxl : x = l.id
    · subst hxl
      refine ⟨.string l.f, .int .i64 l.i, l.sv, .int .i64 l.pins, by rw [m0]; simp [upd, ptr, hle, hlq], fun e1 => absurd e1 hle, fun nd hnd1 e1 => ?_⟩
      rcases List.mem_cons.1 hnd1 with rfl | h2
      · rfl
      · exact absurd (List.mem_cons_of_mem e (List.mem_map.2 ⟨nd, h2, e1⟩)) hn
    · by_cases hxe : x = e
      · subst hxe
        refine ⟨p0, p1, p2, p3, by rw [m1]; simp [upd, ptr, hpq, Ne.symm hle], hp1, fun nd hnd1 e1 => ?_⟩
        rcases List.mem_cons.1 hnd1 with rfl | h2
        · exact absurd e1 hle
        · exact hp2 nd h2 e1
      · have hx' : x ∈ e :: ids L := by simp [ids] at hx ⊢; rcases hx with h1 | h1 | h1; exact .inl h1; exact absurd h1 hxl; exact .inr h1
        by_cases hxq : x = q
        · subst hxq
          refine ⟨q0, q1, q2, q3, by rw [m2]; simp [upd, ptr, hxe, hxl], hq1, fun nd hnd1 e1 => ?_⟩
          rcases List.mem_cons.1 hnd1 with rfl | h2
          · exact absurd e1.symm hxl
          · exact hq2 nd h2 e1
        · obtain ⟨a, b, c, d, g1, g2, g3⟩ := h.six hx'
          have hlt : x < w.heap.size := (Array.getElem?_eq_some_iff.1 g1).1
          refine ⟨a, b, c, d, by rw [M.old x hlt (by simp [hxl, hxe, hxq]), g1]; simp [upd, hxl, hxe, hxq], g2, fun nd hnd1 e1 => ?_⟩
          rcases List.mem_cons.1 hnd1 with rfl | h2
          · exact absurd e1.symm hxl
          · exact g3 nd h2 e1
end Go.Proofs.Ytbbccdcjhoecpaa

namespace Go.Proofs.Ytbbccdcjhoecpaa
open Go Go.Fw Go.RowKit Go.Proofs
def hdI : List Nat → Nat → Nat | [], e => e | x :: _, _ => x
-- (valise/cache.ring[valise/cache.block]).all
set_option maxRecDepth 100000 in
theorem all0 {e : Nat} {w : World} : Ret Try.prog 32 #[.agg #[ptr e]] w fun v w' => ∃ rb, v = .func (.func 41) #[] #[ptr rb] ∧ w.heap.size ≤ rb ∧ St None' w [(rb, .cells [ptr e].toArray 60 (0, 0))] w' := by
  have M : St None' w [] w := Frm.refl _ _
  refine Ret.of_W Try.func32 rfl Try.ntmps32 rfl ?_
  refine W.seq ?_
  refine W.sub [(0, _)] ⟨rfl, trivial⟩ ?_
  refine W.reg [(0, true), (1, false)] (by kernel_rfl) ?_ -- region 0
  intro K hK
  refine x_box [_] rfl rfl rfl rfl rfl ?_ -- bx1 cache.go:36
  intro bbx1 wbx1 hbbx1 hwbx1
  have M := M.alloc hbbx1 hwbx1
  refine ⟨trivial, ?_⟩
  refine x_assign rfl rfl rfl rfl ?_
  refine Ex.done (hK _ _ ?_)
  refine At.then_n ?_
  refine W.seq ?_
  refine W.sub [(1, _), (2, _)] ⟨rfl, rfl, trivial⟩ ?_
  refine W.reg [(0, false), (1, false)] (by kernel_rfl) ?_ -- region 1
  intro K hK
  refine x_mkfn rfl rfl rfl rfl rfl ?_
  refine x_assign rfl rfl rfl rfl ?_
  refine Ex.done (hK _ _ ?_)
  refine At.then_n ?_
  refine W.ret ?_
  refine At.ret1 (.tmp 2) rfl ⟨rfl, trivial⟩ ?_ -- ret1
  exact ⟨_, rfl, (M.own _ (List.mem_of_getElem? (i := 0) rfl)).2.resolve_left id, M⟩

-- (valise/cache.ring[valise/cache.block]).back
set_option maxRecDepth 100000 in
theorem back0 {e : Nat} {w : World} : Ret Try.prog 30 #[.agg #[ptr e]] w fun v w' => ∃ rb, v = .func (.func 40) #[] #[ptr rb] ∧ w.heap.size ≤ rb ∧ St None' w [(rb, .cells [ptr e].toArray 60 (0, 0))] w' := by
  have M : St None' w [] w := Frm.refl _ _
  refine Ret.of_W Try.func30 rfl Try.ntmps30 rfl ?_
  refine W.seq ?_
  refine W.sub [(0, _)] ⟨rfl, trivial⟩ ?_
  refine W.reg [(0, true), (1, false)] (by kernel_rfl) ?_ -- region 0
  intro K hK
  refine x_box [_] rfl rfl rfl rfl rfl ?_ -- bx1 cache.go:49
  intro bbx1 wbx1 hbbx1 hwbx1
  have M := M.alloc hbbx1 hwbx1
  refine ⟨trivial, ?_⟩
  refine x_assign rfl rfl rfl rfl ?_
  refine Ex.done (hK _ _ ?_)
  refine At.then_n ?_
  refine W.seq ?_
  refine W.sub [(1, _), (2, _)] ⟨rfl, rfl, trivial⟩ ?_
  refine W.reg [(0, false), (1, false)] (by kernel_rfl) ?_ -- region 1
  intro K hK
  refine x_mkfn rfl rfl rfl rfl rfl ?_
  refine x_assign rfl rfl rfl rfl ?_
  refine Ex.done (hK _ _ ?_)
  refine At.then_n ?_
  refine W.ret ?_
  refine At.ret1 (.tmp 2) rfl ⟨rfl, trivial⟩ ?_ -- ret1
  exact ⟨_, rfl, (M.own _ (List.mem_of_getElem? (i := 0) rfl)).2.resolve_left id, M⟩

-- (valise/cache.ring[valise/cache.block]).all$1
set_option maxRecDepth 100000 in
theorem all1 {rb e l0 : Nat} {J : List Nat → World → Prop} {Jx : World → Prop} {xs : List Nat} {w : World}
    (hJ : ∀ rest w, J rest w → w.heap[rb]? = some (.cells [ptr e].toArray 60 (0, 0)) ∧ OkBlk w e ∧ (∀ x r2, rest = x :: r2 → x ≠ e ∧ OkBlk w x ∧ w.cell? ⟨x, 5, none⟩ = some (ptr (hdI r2 e))))
    (h0 : J xs w) (hs : w.cell? ⟨e, 5, none⟩ = some (ptr (hdI xs e)))
    (hY : ∀ x rest w, J (x :: rest) w → Yld Try.prog l0 [ptr x] w fun v w' => ∃ b : Bool, v = .bool b ∧ (b = true → J rest w') ∧ (b = false → Jx w')) :
    Ret Try.prog 41 #[.func (.yield l0) #[] #[], ptr rb] w fun r w' => r = .tuple #[] ∧ (J [] w' ∨ Jx w') := by
  obtain ⟨hrb, heb, _⟩ := hJ _ _ h0
  refine Ret.of_W Try.func41 rfl Try.ntmps41 rfl ?_
  refine W.seq ?_
  refine W.sub [(0, _), (1, _)] ⟨rfl, rfl, trivial⟩ ?_
  refine W.reg [(0, false), (1, false), (2, false), (3, false), (4, false), (5, false)] (by kernel_rfl) ?_ -- region 0
  intro K hK
  refine x_fa rfl rfl rfl fo60_0 rfl ?_
  refine x_ld rfl rfl rfl Try.underlying58 rfl rfl (cell_of hrb rfl) ?_ -- ld1 cache.go:38
  refine x_nil rfl rfl rfl rfl rfl ?_
  refine x_fa rfl rfl rfl fo70_2 rfl ?_
  refine x_ld rfl rfl rfl Try.underlying58 rfl rfl hs ?_ -- ld2 cache.go:38
  refine x_assign rfl rfl rfl rfl ?_
  refine Ex.done (hK _ _ ?_)
  refine At.then_n ?_
  refine W.block ?_
  refine W.loop (σ := List Nat) (fun s => [(0, _), (1, _), (3, ptr (hdI s e))]) (fun s w => J s w) (fun s => s.length) xs ⟨rfl, rfl, rfl, trivial⟩ h0 ?_ -- loop1
  intro s w hI
  obtain ⟨hrb, heb, hnx⟩ := hJ _ _ hI
  have hok : OkBlk w (hdI s e) := by cases s with | nil => exact heb | cons x r2 => exact (hnx x r2 rfl).2.1
  refine W.seq ?_
  refine W.seq ?_
  refine W.sub [(0, _), (1, _), (3, _)] ⟨rfl, rfl, rfl, trivial⟩ ?_
  refine W.reg [(0, false), (1, false), (2, false), (3, false)] (by kernel_rfl) ?_ -- region 1
  intro K hK
  refine x_move rfl rfl rfl rfl ?_
  refine x_fa rfl rfl rfl fo60_0 rfl ?_
  refine x_ld rfl rfl rfl Try.underlying58 rfl rfl (cell_of hrb rfl) ?_ -- ld3 cache.go:38
  refine x_nepp _ rfl rfl rfl Try.underlying58 sz70 (by decide) rfl rfl hok heb rfl ?_ -- eq1 cache.go:38
  refine Ex.done (hK _ _ ?_)
  refine At.then_n ?_
  refine W.cond rfl (fun hco1 => ?_) (fun hco1 => ?_) -- co1
  · obtain ⟨x, r2, rfl⟩ : ∃ x r2, s = x :: r2 := by cases s with | nil => simp [hdI] at hco1 | cons x r2 => exact ⟨x, r2, rfl⟩
    obtain ⟨hxe, hxo, hxn⟩ := hnx x r2 rfl
    refine W.skip ?_
    refine At.then_n ?_
    refine W.block ?_
    refine W.seq ?_
    refine W.sub [(0, _), (1, _), (3, _), (10, _), (11, _), (12, _), (13, _)] ⟨rfl, rfl, rfl, rfl, rfl, rfl, rfl, trivial⟩ ?_
    refine W.reg [(0, false), (1, false), (2, false), (3, false), (4, false)] (by kernel_rfl) ?_ -- region 2
    intro K hK
    refine x_move rfl rfl rfl rfl ?_
    refine x_nil rfl rfl rfl rfl rfl ?_
    refine x_fa rfl rfl rfl fo70_2 rfl ?_
    refine x_ld rfl rfl rfl Try.underlying58 rfl rfl hxn ?_ -- ld4 cache.go:39
    refine x_assign rfl rfl rfl rfl ?_
    refine Ex.done (hK _ _ ?_)
    refine At.then_n ?_
    refine W.seq ?_
    refine W.seq ?_
    refine W.sub [(0, _), (1, _), (3, _), (4, _), (10, _), (11, _), (12, _), (13, _), (14, _), (15, _), (16, _), (17, _)] ⟨rfl, rfl, rfl, rfl, rfl, rfl, rfl, rfl, rfl, rfl, rfl, rfl, trivial⟩ ?_
    refine W.reg [(0, false), (1, false), (2, true), (3, false)] (by kernel_rfl) ?_ -- region 3
    intro K hK
    refine x_move rfl rfl rfl rfl ?_
    refine x_move rfl rfl rfl rfl ?_
    -- call1: value cache.go:40
    refine x_yld rfl rfl rfl rfl rfl (hY x r2 w hI) ?_
    rintro v w1 ⟨b, rfl, hb1, hb2⟩
    refine ⟨trivial, ?_⟩
    refine x_not _ rfl rfl rfl rfl rfl ?_ -- un1 cache.go:40
    refine Ex.done (hK _ _ ?_)
    refine At.then_n ?_
    refine W.cond rfl (fun hco2 => ?_) (fun hco2 => ?_) -- co2
    · have hb : b = false := by simpa using hco2
      subst hb
      refine W.ret ?_
      refine At.then_r ?_
      refine At.blk_r ?_
      refine At.loop_r ?_
      refine At.blk_r ?_
      refine At.ret0 rfl ?_ -- ret1
      exact ⟨rfl, .inr (hb2 rfl)⟩
    · have hb : b = true := by simpa using hco2
      subst hb
      refine W.skip ?_
      refine At.then_n ?_
      refine W.sub [(0, _), (1, _), (3, _), (4, _), (10, _), (11, _), (12, _), (13, _), (14, _), (15, _), (16, _), (17, _), (18, _), (19, _), (20, _), (21, _)] ⟨rfl, rfl, rfl, rfl, rfl, rfl, rfl, rfl, rfl, rfl, rfl, rfl, rfl, rfl, rfl, rfl, trivial⟩ ?_
      refine W.reg [(0, false), (1, false)] (by kernel_rfl) ?_ -- region 4
      intro K hK
      refine x_move rfl rfl rfl rfl ?_
      refine x_assign rfl rfl rfl rfl ?_
      refine Ex.done (hK _ _ ?_)
      refine At.blk_n ?_
      -- bk1: back to loop1
      exact At.back r2 ⟨rfl, rfl, rfl, trivial⟩ (hb1 rfl) (by simp)
  · have hse : s = [] := by
      cases s with
      | nil => rfl
      | cons x r2 => have := (hnx x r2 rfl).1; simp [hdI, this] at hco1
    subst hse
    refine W.exit ?_
    refine At.then_x ?_
    refine At.loop_x ?_
    refine At.blk_x ?_
    refine At.fall ?_
    refine At.ret0 rfl ?_ -- ret2
    exact ⟨rfl, .inl hI⟩

-- (valise/cache.ring[valise/cache.block]).back$1
set_option maxRecDepth 100000 in
theorem back1 {rb e l0 : Nat} {J : List Nat → World → Prop} {Jx : World → Prop} {xs : List Nat} {w : World}
    (hJ : ∀ rest w, J rest w → w.heap[rb]? = some (.cells [ptr e].toArray 60 (0, 0)) ∧ OkBlk w e ∧ (∀ x r2, rest = x :: r2 → x ≠ e ∧ OkBlk w x ∧ w.cell? ⟨x, 4, none⟩ = some (ptr (hdI r2 e))))
    (h0 : J xs w) (hs : w.cell? ⟨e, 4, none⟩ = some (ptr (hdI xs e)))
    (hY : ∀ x rest w, J (x :: rest) w → Yld Try.prog l0 [ptr x] w fun v w' => ∃ b : Bool, v = .bool b ∧ (b = true → J rest w') ∧ (b = false → Jx w')) :
    Ret Try.prog 40 #[.func (.yield l0) #[] #[], ptr rb] w fun r w' => r = .tuple #[] ∧ (J [] w' ∨ Jx w') := by
  obtain ⟨hrb, heb, _⟩ := hJ _ _ h0
  refine Ret.of_W Try.func40 rfl Try.ntmps40 rfl ?_
  refine W.seq ?_
  refine W.sub [(0, _), (1, _)] ⟨rfl, rfl, trivial⟩ ?_
  refine W.reg [(0, false), (1, false), (2, false), (3, false), (4, false), (5, false)] (by kernel_rfl) ?_ -- region 0
  intro K hK
  refine x_fa rfl rfl rfl fo60_0 rfl ?_
  refine x_ld rfl rfl rfl Try.underlying58 rfl rfl (cell_of hrb rfl) ?_ -- ld1 cache.go:51
  refine x_nil rfl rfl rfl rfl rfl ?_
  refine x_fa rfl rfl rfl fo70_1 rfl ?_
  refine x_ld rfl rfl rfl Try.underlying58 rfl rfl hs ?_ -- ld2 cache.go:51
  refine x_assign rfl rfl rfl rfl ?_
  refine Ex.done (hK _ _ ?_)
  refine At.then_n ?_
  refine W.block ?_
  refine W.loop (σ := List Nat) (fun s => [(0, _), (1, _), (3, ptr (hdI s e))]) (fun s w => J s w) (fun s => s.length) xs ⟨rfl, rfl, rfl, trivial⟩ h0 ?_ -- loop1
  intro s w hI
  obtain ⟨hrb, heb, hnx⟩ := hJ _ _ hI
  have hok : OkBlk w (hdI s e) := by cases s with | nil => exact heb | cons x r2 => exact (hnx x r2 rfl).2.1
  refine W.seq ?_
  refine W.seq ?_
  refine W.sub [(0, _), (1, _), (3, _)] ⟨rfl, rfl, rfl, trivial⟩ ?_
  refine W.reg [(0, false), (1, false), (2, false), (3, false)] (by kernel_rfl) ?_ -- region 1
  intro K hK
  refine x_move rfl rfl rfl rfl ?_
  refine x_fa rfl rfl rfl fo60_0 rfl ?_
  refine x_ld rfl rfl rfl Try.underlying58 rfl rfl (cell_of hrb rfl) ?_ -- ld3 cache.go:51
  refine x_nepp _ rfl rfl rfl Try.underlying58 sz70 (by decide) rfl rfl hok heb rfl ?_ -- eq1 cache.go:51
  refine Ex.done (hK _ _ ?_)
  refine At.then_n ?_
  refine W.cond rfl (fun hco1 => ?_) (fun hco1 => ?_) -- co1
  · obtain ⟨x, r2, rfl⟩ : ∃ x r2, s = x :: r2 := by cases s with | nil => simp [hdI] at hco1 | cons x r2 => exact ⟨x, r2, rfl⟩
    obtain ⟨hxe, hxo, hxn⟩ := hnx x r2 rfl
    refine W.skip ?_
    refine At.then_n ?_
    refine W.block ?_
    refine W.seq ?_
    refine W.sub [(0, _), (1, _), (3, _), (10, _), (11, _), (12, _), (13, _)] ⟨rfl, rfl, rfl, rfl, rfl, rfl, rfl, trivial⟩ ?_
    refine W.reg [(0, false), (1, false), (2, false), (3, false), (4, false)] (by kernel_rfl) ?_ -- region 2
    intro K hK
    refine x_move rfl rfl rfl rfl ?_
    refine x_nil rfl rfl rfl rfl rfl ?_
    refine x_fa rfl rfl rfl fo70_1 rfl ?_
    refine x_ld rfl rfl rfl Try.underlying58 rfl rfl hxn ?_ -- ld4 cache.go:52
    refine x_assign rfl rfl rfl rfl ?_
    refine Ex.done (hK _ _ ?_)
    refine At.then_n ?_
    refine W.seq ?_
    refine W.seq ?_
    refine W.sub [(0, _), (1, _), (3, _), (4, _), (10, _), (11, _), (12, _), (13, _), (14, _), (15, _), (16, _), (17, _)] ⟨rfl, rfl, rfl, rfl, rfl, rfl, rfl, rfl, rfl, rfl, rfl, rfl, trivial⟩ ?_
    refine W.reg [(0, false), (1, false), (2, true), (3, false)] (by kernel_rfl) ?_ -- region 3
    intro K hK
    refine x_move rfl rfl rfl rfl ?_
    refine x_move rfl rfl rfl rfl ?_
    -- call1: value cache.go:53
    refine x_yld rfl rfl rfl rfl rfl (hY x r2 w hI) ?_
    rintro v w1 ⟨b, rfl, hb1, hb2⟩
    refine ⟨trivial, ?_⟩
    refine x_not _ rfl rfl rfl rfl rfl ?_ -- un1 cache.go:53
    refine Ex.done (hK _ _ ?_)
    refine At.then_n ?_
    refine W.cond rfl (fun hco2 => ?_) (fun hco2 => ?_) -- co2
    · have hb : b = false := by simpa using hco2
      subst hb
      refine W.ret ?_
      refine At.then_r ?_
      refine At.blk_r ?_
      refine At.loop_r ?_
      refine At.blk_r ?_
      refine At.ret0 rfl ?_ -- ret1
      exact ⟨rfl, .inr (hb2 rfl)⟩
    · have hb : b = true := by simpa using hco2
      subst hb
      refine W.skip ?_
      refine At.then_n ?_
      refine W.sub [(0, _), (1, _), (3, _), (4, _), (10, _), (11, _), (12, _), (13, _), (14, _), (15, _), (16, _), (17, _), (18, _), (19, _), (20, _), (21, _)] ⟨rfl, rfl, rfl, rfl, rfl, rfl, rfl, rfl, rfl, rfl, rfl, rfl, rfl, rfl, rfl, rfl, trivial⟩ ?_
      refine W.reg [(0, false), (1, false)] (by kernel_rfl) ?_ -- region 4
      intro K hK
      refine x_move rfl rfl rfl rfl ?_
      refine x_assign rfl rfl rfl rfl ?_
      refine Ex.done (hK _ _ ?_)
      refine At.blk_n ?_
      -- bk1: back to loop1
      exact At.back r2 ⟨rfl, rfl, rfl, trivial⟩ (hb1 rfl) (by simp)
  · have hse : s = [] := by
      cases s with
      | nil => rfl
      | cons x r2 => have := (hnx x r2 rfl).1; simp [hdI, this] at hco1
    subst hse
    refine W.exit ?_
    refine At.then_x ?_
    refine At.loop_x ?_
    refine At.blk_x ?_
    refine At.fall ?_
    refine At.ret0 rfl ?_ -- ret2
    exact ⟨rfl, .inl hI⟩
end Go.Proofs.Ytbbccdcjhoecpaa

namespace Go.Proofs.Ytbbccdcjhoecpaa
open Go Go.Fw Go.RowKit Go.Proofs
set_option linter.unusedVariables false
set_option linter.unusedSimpArgs false

abbrev Nd.key (n : Nd) : Key := (n.f, n.i)
def byteV (x : UInt8) : Value := .int .u8 (x.toNat : Int)
def BytesAt (w : World) (sv : Value) (b : List UInt8) : Prop := Sl w sv 1 b.length (b.map byteV)
def tot (L : List Nd) : Int := (L.map fun n => (n.b.length : Int)).sum
def blks (L : List Nd) : List Nat := L.filterMap fun n => blkOf n.sv
def fp (c e r : Nat) (L : List Nd) : List Nat := c :: e :: r :: (ids L ++ blks L)
/-- What a cache may turn. -/
abbrev InC (c e r : Nat) (L : List Nd) : Nat → Prop := fun b => b ∈ fp c e r L

structure CAt (w : World) (c e r : Nat) (bud : Int) (L : List Nd) : Prop where
  hc : w.heap[c]? = some (.cells [.int .i64 bud, .int .i64 (tot L), ptr e, .map (some r)].toArray 63 (0, 0))
  ring : Ring w e L
  mp : ∃ o g, w.heap[r]? = some o ∧ MapF encK o g ∧ ∀ k v, g k = some v ↔ ∃ n ∈ L, n.key = k ∧ v = ptr n.id
  bs : ∀ n ∈ L, BytesAt w n.sv n.b
  nd : (fp c e r L).Nodup
  keys : (L.map Nd.key).Nodup
  len : ∀ n ∈ L, n.b.length ≤ 4096
  sz : tot L ≤ 2097152

theorem tot_app (A B : List Nd) : tot (A ++ B) = tot A + tot B := by simp [tot]
theorem tot_cons (l : Nd) (B : List Nd) : tot (l :: B) = l.b.length + tot B := by simp [tot]
theorem blks_app (A B : List Nd) : blks (A ++ B) = blks A ++ blks B := by simp [blks]

theorem mem_blks {L : List Nd} {n : Nd} (h : n ∈ L) {b : Nat} (hb : blkOf n.sv = some b) : b ∈ blks L := List.mem_filterMap.2 ⟨n, h, hb⟩
theorem mem_ids {L : List Nd} {n : Nd} (h : n ∈ L) : n.id ∈ ids L := List.mem_map.2 ⟨n, h, rfl⟩

theorem CAt.lt {w : World} {c e r : Nat} {bud : Int} {L : List Nd} (h : CAt w c e r bud L) : ∀ b ∈ fp c e r L, b < w.heap.size := by
  intro b hb
  obtain ⟨ah, nx, hr⟩ := h.ring
  obtain ⟨o, g, ho, _⟩ := h.mp
  simp only [fp, List.mem_cons, List.mem_append] at hb
  rcases hb with rfl | rfl | rfl | hb | hb
  · exact (Array.getElem?_eq_some_iff.1 h.hc).1
  · exact (Array.getElem?_eq_some_iff.1 hr.endb).1
  · exact (Array.getElem?_eq_some_iff.1 ho).1
  · obtain ⟨n, hn, rfl⟩ := List.mem_map.1 hb
    exact (Array.getElem?_eq_some_iff.1 (hr.node n hn)).1
  · obtain ⟨n, hn, hb⟩ := List.mem_filterMap.1 hb
    exact (h.bs n hn).lt b hb

theorem CAt.same {w w' : World} {c e r : Nat} {bud : Int} {L : List Nd} (h : CAt w c e r bud L) (hs : ∀ b ∈ fp c e r L, w'.heap[b]? = w.heap[b]?) : CAt w' c e r bud L := by
  refine ⟨by rw [hs c (by simp [fp])]; exact h.hc, h.ring.same fun b hb => hs b ?_, ?_, fun n hn => (h.bs n hn).same fun b hb => hs b ?_, h.nd, h.keys, h.len, h.sz⟩
  · simp [fp] at hb ⊢; rcases hb with h1 | h1 <;> simp [h1]
  · obtain ⟨o, g, ho, hg⟩ := h.mp
    exact ⟨o, g, by rw [hs r (by simp [fp])]; exact ho, hg⟩
  · have := mem_blks hn hb; simp [fp, this]

theorem CAt.new {w w' : World} {c e r : Nat} {bud : Int} {L : List Nd} (h : CAt w c e r bud L) (hn : New w w') : CAt w' c e r bud L :=
  h.same fun b hb => hn.old b (h.lt b hb) (fun h => h)

theorem perm_ids {L L' : List Nd} (h : L.Perm L') : (ids L).Perm (ids L') := h.map _
theorem perm_blks {L L' : List Nd} (h : L.Perm L') : (blks L).Perm (blks L') := h.filterMap _
theorem perm_fp {c e r : Nat} {L L' : List Nd} (h : L.Perm L') : (fp c e r L).Perm (fp c e r L') :=
  ((((perm_ids h).append (perm_blks h)).cons r).cons e).cons c
theorem perm_sum {l l' : List Int} (h : l.Perm l') : l.sum = l'.sum := by
  induction h with
  | nil => rfl
  | cons x _ ih => simp [ih]
  | swap x y l => simp; omega
  | trans _ _ h1 h2 => exact h1.trans h2
theorem perm_tot {L L' : List Nd} (h : L.Perm L') : tot L = tot L' := perm_sum (h.map _)

/-- The same nodes in another order of the ring. -/
theorem CAt.reorder {w w' : World} {c e r : Nat} {bud : Int} {L L' : List Nd} (h : CAt w c e r bud L) (hp : L.Perm L') (hr : Ring w' e L') (hs : ∀ b, b = c ∨ b = r ∨ b ∈ blks L → w'.heap[b]? = w.heap[b]?) : CAt w' c e r bud L' := by
  refine ⟨by rw [hs c (.inl rfl), ← perm_tot hp]; exact h.hc, hr, ?_, fun n hn => (h.bs n (hp.mem_iff.2 hn)).same fun b hb => hs b (.inr (.inr (mem_blks (hp.mem_iff.2 hn) hb))), (perm_fp hp).nodup_iff.1 h.nd, (hp.map _).nodup_iff.1 h.keys, fun n hn => h.len n (hp.mem_iff.2 hn), by rw [← perm_tot hp]; exact h.sz⟩
  obtain ⟨o, g, ho, hg, hm⟩ := h.mp
  refine ⟨o, g, by rw [hs r (.inr (.inl rfl))]; exact ho, hg, fun k v => (hm k v).trans ⟨fun ⟨n, hn, h1⟩ => ⟨n, hp.mem_iff.1 hn, h1⟩, fun ⟨n, hn, h1⟩ => ⟨n, hp.mem_iff.2 hn, h1⟩⟩⟩

theorem fp_facts {c e r : Nat} {L : List Nd} (h : (fp c e r L).Nodup) : c ≠ e ∧ c ≠ r ∧ e ≠ r ∧ c ∉ ids L ∧ c ∉ blks L ∧ e ∉ ids L ∧ e ∉ blks L ∧ r ∉ ids L ∧ r ∉ blks L ∧ (ids L).Nodup ∧ (blks L).Nodup ∧ (∀ x ∈ ids L, x ∉ blks L) := by
  simp only [fp, List.nodup_cons, List.mem_cons, List.mem_append, not_or, List.nodup_append] at h
  obtain ⟨⟨h1, h2, h3, h4⟩, ⟨h5, h6, h7⟩, ⟨h8, h9⟩, h10, h11, h12⟩ := h
  exact ⟨h1, h2, h5, h3, h4, h6, h7, h8, h9, h10, h11, fun x hx hy => h12 x hx x hy rfl⟩

theorem mid_perm (A B : List Nd) (l : Nd) : (A ++ l :: B).Perm (l :: (A ++ B)) := List.perm_middle

/-- What lies beside the ring is not turned by it. -/
theorem InRing.not {c e r : Nat} {L : List Nd} (h : (fp c e r L).Nodup) {b : Nat} (hb : b = c ∨ b = r ∨ b ∈ blks L) : ¬ InRing e L b := by
  obtain ⟨h1, h2, h3, h4, h5, h6, h7, h8, h9, h10, h11, h12⟩ := fp_facts h
  intro hi
  simp only [InRing, List.mem_cons] at hi
  rcases hb with rfl | rfl | hb
  · rcases hi with hi | hi
    · exact h1 hi
    · exact h4 hi
  · rcases hi with hi | hi
    · exact h3 hi.symm
    · exact h8 hi
  · rcases hi with rfl | hi
    · exact h7 hb
    · exact h12 b hi hb

theorem InRing.fp {c e r : Nat} {L : List Nd} {b : Nat} (h : InRing e L b) : InC c e r L b := by
  simp only [InRing, InC, Go.Proofs.Ytbbccdcjhoecpaa.fp, List.mem_cons, List.mem_append] at h ⊢
  rcases h with h | h
  · exact .inr (.inl h)
  · exact .inr (.inr (.inr (.inl h)))
end Go.Proofs.Ytbbccdcjhoecpaa

namespace Go.Proofs.Ytbbccdcjhoecpaa
open Go Go.Fw Go.RowKit Go.Proofs
set_option linter.unusedVariables false
set_option linter.unusedSimpArgs false

def lstI : List Nat → Nat → Nat
  | [], e => e
  | [x], _ => x
  | _ :: y :: r, e => lstI (y :: r) e

theorem hdI_app (B : List Nat) (e : Nat) : ∃ B', B ++ [e] = hdI B e :: B' := by cases B with | nil => exact ⟨[], rfl⟩ | cons x B => exact ⟨B ++ [e], rfl⟩
theorem lstI_app : ∀ (A : List Nat) (e : Nat), ∃ A', e :: A = A' ++ [lstI A e]
  | [], e => ⟨[], rfl⟩
  | [x], e => ⟨[e], rfl⟩
  | x :: y :: r, e => by
    obtain ⟨A', h⟩ := lstI_app (y :: r) x
    refine ⟨e :: A', ?_⟩
    have : ∀ (r : List Nat) (y a b : Nat), lstI (y :: r) a = lstI (y :: r) b := by
      intro r
      induction r with
      | nil => intro y a b; rfl
      | cons z r ih => intro y a b; simp only [lstI]; exact ih z a b
    show e :: x :: y :: r = e :: A' ++ [lstI (y :: r) e]
    rw [h, this r y x e]
    rfl

theorem RingF.at_ {w : World} {e : Nat} {A B : List Nd} {l : Nd} {ah nx : Nat → Nat} (h : RingF w e (A ++ l :: B) ah nx) : ah l.id = lstI (ids A) e ∧ nx l.id = hdI (ids B) e := by
  obtain ⟨A', hA⟩ := lstI_app (ids A) e
  obtain ⟨B', hB⟩ := hdI_app (ids B) e
  have hl := h.link
  have hcyc : e :: (ids (A ++ l :: B) ++ [e]) = A' ++ lstI (ids A) e :: l.id :: hdI (ids B) e :: B' := by
    rw [ids_app]
    show e :: (ids A ++ l.id :: ids B ++ [e]) = _
    rw [List.append_assoc, List.cons_append, hB, ← List.cons_append, hA]
    simp
  rw [hcyc, linked_app] at hl
  simp only [linked] at hl
  exact ⟨hl.2.2.1, hl.2.2.2.1⟩

theorem RingF.end_ {w : World} {e : Nat} {L : List Nd} {ah nx : Nat → Nat} (h : RingF w e L ah nx) : ah e = lstI (ids L) e ∧ nx e = hdI (ids L) e := by
  obtain ⟨A', hA⟩ := lstI_app (ids L) e
  obtain ⟨B', hB⟩ := hdI_app (ids L) e
  have hl := h.link
  refine ⟨?_, ?_⟩
  · rw [← List.cons_append, hA, List.append_assoc, List.singleton_append, linked_app] at hl
    simp only [linked] at hl
    exact hl.2.2.1
  · rw [hB] at hl
    exact hl.1

theorem Ring.node_at {w : World} {e : Nat} {A B : List Nd} {l : Nd} (h : Ring w e (A ++ l :: B)) : w.heap[l.id]? = some (nodeO l (lstI (ids A) e) (hdI (ids B) e)) ∧ l.id ≠ e := by
  obtain ⟨ah, nx, h⟩ := h
  obtain ⟨h1, h2⟩ := h.at_
  have h3 := h.node l (by simp)
  rw [h1, h2] at h3
  refine ⟨h3, fun e1 => ?_⟩
  have := h.nd
  rw [List.nodup_cons] at this
  exact this.1 (by rw [ids_app]; simp [ids, e1])

theorem Ring.end_at {w : World} {e : Nat} {L : List Nd} (h : Ring w e L) : w.heap[e]? = some (endO (lstI (ids L) e) (hdI (ids L) e)) := by
  obtain ⟨ah, nx, h⟩ := h
  obtain ⟨h1, h2⟩ := h.end_
  have h3 := h.endb
  rw [h1, h2] at h3
  exact h3

theorem okBlk_node {w : World} {x : Nat} {nd : Nd} {a b : Nat} (h : w.heap[x]? = some (nodeO nd a b)) : OkBlk w x := ⟨_, _, h, by simp⟩
theorem okBlk_end {w : World} {x : Nat} {a b : Nat} (h : w.heap[x]? = some (endO a b)) : OkBlk w x := ⟨_, _, h, by simp⟩

/-- What the cache's map tells of a key. -/
def findK (L : List Nd) (k : Key) : Option Value := (L.find? fun n => n.key = k).map fun n => ptr n.id

theorem key_inj {L : List Nd} (hk : (L.map Nd.key).Nodup) {n m : Nd} (hn : n ∈ L) (hm : m ∈ L) (h : n.key = m.key) : n = m := by
  obtain ⟨i, hi⟩ := List.mem_iff_getElem?.1 hn
  obtain ⟨j, hj⟩ := List.mem_iff_getElem?.1 hm
  have h1 : (L.map Nd.key)[i]? = some n.key := by simp [hi]
  have h2 : (L.map Nd.key)[j]? = some n.key := by simp [hj, h]
  have hlt : i < (L.map Nd.key).length := (List.getElem?_eq_some_iff.1 h1).1
  have hlt2 : j < (L.map Nd.key).length := (List.getElem?_eq_some_iff.1 h2).1
  rw [List.getElem?_eq_getElem hlt] at h1
  rw [List.getElem?_eq_getElem hlt2] at h2
  have this : i = j := (List.getElem_inj (h₀ := hlt) (h₁ := hlt2) hk).1 ((Option.some.inj h1).trans (Option.some.inj h2).symm)
  subst this
  rw [hi] at hj
  exact Option.some.inj hj

theorem CAt.look {w : World} {c e r : Nat} {bud : Int} {L : List Nd} (h : CAt w c e r bud L) (k : Key) : LkAt encK w r k (findK L k) := by
  obtain ⟨o, g, ho, hg, hm⟩ := h.mp
  refine ⟨o, g, ho, hg, ?_⟩
  unfold findK
  cases hf : L.find? fun n => n.key = k with
  | none =>
    cases hgk : g k with
    | none => rfl
    | some v =>
      obtain ⟨n, hn, h1, _⟩ := (hm k v).1 hgk
      have := List.find?_eq_none.1 hf n hn
      simp [h1] at this
  | some n =>
    have h1 := List.mem_of_find?_eq_some hf
    have h2 := List.find?_some hf
    exact (hm k (ptr n.id)).2 ⟨n, h1, by simpa using h2, rfl⟩

/-- A key that is there stands somewhere. -/
theorem findK_some {L : List Nd} {k : Key} (h : (findK L k).isSome = true) : ∃ A l B, L = A ++ l :: B ∧ l.key = k ∧ findK L k = some (ptr l.id) ∧ ∀ n ∈ A, n.key ≠ k := by
  unfold findK at *
  cases hf : L.find? fun n => n.key = k with
  | none => rw [hf] at h; cases h
  | some l =>
    obtain ⟨h1, A, B, rfl, h2⟩ := List.find?_eq_some_iff_append.1 hf
    exact ⟨A, l, B, rfl, by simpa using h1, rfl, fun n hn => by simpa using h2 n hn⟩

theorem findK_none {L : List Nd} {k : Key} (h : (findK L k).isSome = false) : (∀ n ∈ L, n.key ≠ k) ∧ findK L k = none := by
  unfold findK at *
  cases hf : L.find? fun n => n.key = k with
  | none => exact ⟨fun n hn => by simpa using List.find?_eq_none.1 hf n hn, rfl⟩
  | some l => rw [hf] at h; cases h

theorem run_ne_key (a b : Key) (x y : Operand) (w : World) : (do eqGuard .neq 29 x y (encK a) (encK b); binOp .neq 29 (encK a) (encK b) : Sem Value).run Try.prog w = .ok (.bool (!decide (a = b))) w := by
  have hg : (eqGuard .neq 29 x y (encK a) (encK b)).run Try.prog w = .ok () w := by
    unfold eqGuard encK
    simp only [Bool.not_true, Bool.false_eq_true, if_false, Sem.run_bind, run_program, Result.andThen_ok]
    rw [if_pos eqg29]
    rfl
  rw [Sem.run_bind, hg]
  simp only [Result.andThen_ok, binOp, encK]
  rw [Sem.run_bind]
  have := equal_key a b w
  unfold encK at this
  rw [this]
  rfl

theorem run_eq_key (a b : Key) (x y : Operand) (w : World) : (do eqGuard .eql 29 x y (encK a) (encK b); binOp .eql 29 (encK a) (encK b) : Sem Value).run Try.prog w = .ok (.bool (decide (a = b))) w := by
  have hg : (eqGuard .eql 29 x y (encK a) (encK b)).run Try.prog w = .ok () w := by
    unfold eqGuard encK
    simp only [Bool.not_true, Bool.false_eq_true, if_false, Sem.run_bind, run_program, Result.andThen_ok]
    rw [if_pos eqg29]
    rfl
  rw [Sem.run_bind, hg]
  simp only [Result.andThen_ok, binOp, encK]
  rw [Sem.run_bind]
  have := equal_key a b w
  unfold encK at this
  rw [this]
  rfl

theorem byteV_one (b : List UInt8) : ∀ u ∈ b.map byteV, u.oneCell' = true := by
  intro u hu
  obtain ⟨x, _, rfl⟩ := List.mem_map.1 hu
  rfl

/-- How many bytes the pinned ones have, but for one key. -/
def heldOf (L : List Nd) (k : Key) : Int := (L.map fun n => if 0 < n.pins ∧ n.key ≠ k then (n.b.length : Int) else 0).sum

theorem len_le (L : List Nd) (h : ∀ n ∈ L, n.b.length ≤ 4096) : 0 ≤ tot L ∧ tot L ≤ 4096 * L.length := by
  induction L with
  | nil => simp [tot]
  | cons x L ih =>
    have h1 := ih (fun n hn => h n (List.mem_cons_of_mem _ hn))
    have h2 := h x (by simp)
    rw [tot_cons]
    simp only [List.length_cons]
    omega

theorem held_le (L : List Nd) (k : Key) : 0 ≤ heldOf L k ∧ heldOf L k ≤ tot L := by
  induction L with
  | nil => simp [heldOf, tot]
  | cons x L ih =>
    unfold heldOf tot at *
    simp only [List.map_cons, List.sum_cons]
    split <;> omega

theorem wrap64_id {x : Int} (h1 : -9223372036854775808 ≤ x) (h2 : x ≤ 9223372036854775807) : IntKind.i64.wrap x = x := by
  exact IntWalk.i64_in _ ⟨h1, h2⟩
end Go.Proofs.Ytbbccdcjhoecpaa

namespace Go.Proofs.Ytbbccdcjhoecpaa
open Go Go.Fw Go.RowKit Go.Proofs
set_option linter.unusedVariables false
set_option linter.unusedSimpArgs false

theorem BytesAt.shape {w : World} {sv : Value} {b : List UInt8} (h : BytesAt w sv b) : ∃ p cap, sv = .slice p b.length cap := by
  rcases h with ⟨rfl, h1, _⟩ | ⟨g, off, cap, all, T, fr, rfl, _⟩
  · exact ⟨none, 0, by rw [h1]⟩
  · exact ⟨_, _, rfl⟩

/-- Bytes that are given: where there are none nothing is asked of the block. -/
def BytesIn (w : World) (sv : Value) (b : List UInt8) : Prop := (b = [] ∧ ∃ p cap, sv = .slice p 0 cap) ∨ (b ≠ [] ∧ BytesAt w sv b)

theorem BytesAt.in_ {w : World} {sv : Value} {b : List UInt8} (h : BytesAt w sv b) : BytesIn w sv b := by
  by_cases hb : b = []
  · obtain ⟨p, cap, h1⟩ := h.shape
    exact .inl ⟨hb, p, cap, by rw [h1, hb]; rfl⟩
  · exact .inr ⟨hb, h⟩
theorem BytesIn.shape {w : World} {sv : Value} {b : List UInt8} (h : BytesIn w sv b) : ∃ p cap, sv = .slice p b.length cap := by
  rcases h with ⟨rfl, p, cap, rfl⟩ | ⟨_, h⟩
  · exact ⟨p, cap, rfl⟩
  · exact h.shape
theorem BytesIn.keep {w w1 : World} {sv : Value} {b : List UInt8} (h : BytesIn w sv b) (hs : b ≠ [] → ∀ g, blkOf sv = some g → g < w.heap.size → w1.heap[g]? = w.heap[g]?) : BytesIn w1 sv b := by
  rcases h with h | ⟨h1, h2⟩
  · exact .inl h
  · exact .inr ⟨h1, h2.same fun g hg => hs h1 g hg (h2.lt g hg)⟩
theorem BytesIn.src {w : World} {sv : Value} {b : List UInt8} (h : BytesIn w sv b) : Src Try.prog 1 31 sv b.length (b.map byteV) w := by
  rcases h with ⟨rfl, p, cap, rfl⟩ | ⟨_, h⟩
  · cases p with
    | none => exact Src.ofNil w Try.underlying31 cap
    | some a => exact Src.ofSlice w Try.underlying31 a 0 cap [] (by simp) (fun j u hu => by simp at hu) (by simp)
  · exact h.src Try.underlying31 (byteV_one b)

theorem CAt.lid {w : World} {c e r : Nat} {bud : Int} {A B : List Nd} {l : Nd} (h : CAt w c e r bud (A ++ l :: B)) : l.id ∉ e :: ids (A ++ B) ∧ l.id ≠ c ∧ l.id ≠ r := by
  obtain ⟨h1, h2, h3, h4, h5, h6, h7, h8, h9, h10, h11, h12⟩ := fp_facts ((perm_fp (mid_perm A B l)).nodup_iff.1 h.nd)
  simp only [ids, List.map_cons, List.mem_cons, not_or, List.nodup_cons] at h4 h6 h8 h10
  refine ⟨?_, Ne.symm h4.1, Ne.symm h8.1⟩
  simp only [List.mem_cons, not_or]
  exact ⟨Ne.symm h6.1, h10.1⟩

theorem CAt.tots {w : World} {c e r : Nat} {bud : Int} {A B : List Nd} {l : Nd} (h : CAt w c e r bud (A ++ l :: B)) : IntKind.i64.wrap (tot (A ++ l :: B) - (l.b.length : Int)) = tot (A ++ B) := by
  have h1 := h.sz
  have h2 : tot (A ++ l :: B) = l.b.length + tot (A ++ B) := by rw [perm_tot (mid_perm A B l), tot_cons]
  have h3 : 0 ≤ tot (A ++ B) := (len_le (A ++ B) (fun n hn => h.len n (by simp at hn ⊢; rcases hn with h | h <;> simp [h]))).1
  rw [wrap64_id (by omega) (by omega)]
  omega

theorem Frm.sub {S S' : Nat → Prop} {w w' : World} (h : Frm S w w') (hs : ∀ b, S b → S' b) : Frm S' w w' := (Frm.refl S' w).trans h fun b hb _ => .inl (hs b hb)

/-- One is taken out. -/
theorem CAt.removed {w w' : World} {c e r : Nat} {bud : Int} {A B : List Nd} {l : Nd} {o2 : Obj} {g : Key → Option Value} (h : CAt w c e r bud (A ++ l :: B))
    (hc : w'.heap[c]? = some (.cells [.int .i64 bud, .int .i64 (tot (A ++ B)), ptr e, .map (some r)].toArray 63 (0, 0))) (hr : Ring w' e (A ++ B)) (ho : w'.heap[r]? = some o2) (hm : MapF encK o2 (setF g l.key none))
    (hg : ∀ k v, g k = some v ↔ ∃ n ∈ A ++ l :: B, n.key = k ∧ v = ptr n.id) (hs : ∀ b ∈ blks (A ++ l :: B), w'.heap[b]? = w.heap[b]?) : CAt w' c e r bud (A ++ B) := by
  have hsub : ∀ n ∈ A ++ B, n ∈ A ++ l :: B := fun n hn => by simp at hn ⊢; rcases hn with h | h <;> simp [h]
  have hk := (((mid_perm A B l).map Nd.key).nodup_iff).1 h.keys
  simp only [List.map_cons, List.nodup_cons] at hk
  refine ⟨hc, hr, ⟨o2, _, ho, hm, fun k v => ?_⟩, fun n hn => (h.bs n (hsub n hn)).same fun b hb => hs b (mem_blks (hsub n hn) hb), ?_, hk.2, fun n hn => h.len n (hsub n hn), ?_⟩
  · unfold setF
    by_cases e1 : k = l.key
    · subst e1
      simp only [if_true]
      refine ⟨fun h => by simp at h, fun ⟨n, hn, h1, _⟩ => ?_⟩
      exact absurd (List.mem_map.2 ⟨n, hn, h1⟩) hk.1
    · rw [if_neg e1, hg]
      constructor
      · rintro ⟨n, hn, h1, h2⟩
        refine ⟨n, ?_, h1, h2⟩
        simp at hn ⊢
        rcases hn with hn | rfl | hn
        · exact .inl hn
        · exact absurd h1.symm e1
        · exact .inr hn
      · rintro ⟨n, hn, h1, h2⟩; exact ⟨n, hsub n hn, h1, h2⟩
  · refine h.nd.sublist ?_
    unfold fp
    rw [ids_app, ids_app, blks_app, blks_app]
    refine List.Sublist.cons_cons _ (List.Sublist.cons_cons _ (List.Sublist.cons_cons _ (List.Sublist.append (List.Sublist.append (List.Sublist.refl _) (List.sublist_cons_self _ _)) (List.Sublist.append (List.Sublist.refl _) ?_))))
    unfold blks
    rw [List.filterMap_cons]
    split
    · exact List.Sublist.refl _
    · exact List.sublist_cons_self _ _
  · have h1 := h.sz
    rw [perm_tot (mid_perm A B l), tot_cons] at h1
    omega
end Go.Proofs.Ytbbccdcjhoecpaa

namespace Go.Proofs.Ytbbccdcjhoecpaa
open Go Go.Fw Go.RowKit Go.Proofs
set_option linter.unusedVariables false
set_option linter.unusedSimpArgs false

theorem CAt.made {w : World} {c e r : Nat} {bud : Int} {o : Obj} (hc : w.heap[c]? = some (.cells [.int .i64 bud, .int .i64 0, ptr e, .map (some r)].toArray 63 (0, 0)))
    (he : w.heap[e]? = some (endO e e)) (hr : w.heap[r]? = some o) (ho : o = .map #[] 0) (h1 : c ≠ e) (h2 : c ≠ r) (h3 : e ≠ r) : CAt w c e r bud [] := by
  subst ho
  refine ⟨hc, ⟨fun _ => e, fun _ => e, he, by simp, ?_, by simp [ids]⟩, ⟨_, _, hr, MapF.made, by simp⟩, by simp, ?_, by simp, by simp, by simp [tot]⟩
  · simp [ids, linked]
  · simp [fp, ids, blks, h1, h2, h3]

/-- Pins of a node turned. -/
theorem ids_mid (A B : List Nd) (l l' : Nd) (h : l.id = l'.id) : ids (A ++ l :: B) = ids (A ++ l' :: B) := by simp [ids, h]

theorem CAt.pinned {w w' : World} {c e r : Nat} {bud : Int} {A B : List Nd} {l : Nd} {q : Int} {a b : Nat} (h : CAt w c e r bud (A ++ l :: B))
    (hl : w.heap[l.id]? = some (nodeO l a b)) (hw : w'.heap[l.id]? = some (nodeO { l with pins := q } a b)) (hs : ∀ x, x ≠ l.id → w'.heap[x]? = w.heap[x]?) : CAt w' c e r bud (A ++ { l with pins := q } :: B) := by
  obtain ⟨ah, nx, hr⟩ := h.ring
  have hids : ids (A ++ { l with pins := q } :: B) = ids (A ++ l :: B) := by simp [ids]
  have hblk : blks (A ++ { l with pins := q } :: B) = blks (A ++ l :: B) := by simp only [blks, List.filterMap_append, List.filterMap_cons]
  have htot : tot (A ++ { l with pins := q } :: B) = tot (A ++ l :: B) := by simp [tot]
  have hkey : (A ++ { l with pins := q } :: B).map Nd.key = (A ++ l :: B).map Nd.key := by simp [Nd.key]
  have hnd := hr.nd
  have hfp : ∀ x ∈ fp c e r (A ++ l :: B), x = l.id → x ∈ ids (A ++ l :: B) := fun x _ hx => by rw [hx]; exact mem_ids (by simp)
  have hf := fp_facts h.nd
  have hlm : l.id ∈ ids (A ++ l :: B) := mem_ids (by simp)
  have hab : ah l.id = a ∧ nx l.id = b := by
    have := hr.node l (by simp)
    rw [hl] at this
    simp [nodeO, ptr] at this
    exact ⟨this.1.symm, this.2.symm⟩
  refine ⟨?_, ⟨ah, nx, ?_, ?_, by rw [hids]; exact hr.link, by rw [hids]; exact hr.nd⟩, ?_, ?_, ?_, by rw [hkey]; exact h.keys, ?_, by rw [htot]; exact h.sz⟩
  · rw [hs c (fun e1 => hf.2.2.2.1 (e1 ▸ hlm)), htot]; exact h.hc
  · rw [hs e (fun e1 => hf.2.2.2.2.2.1 (e1 ▸ hlm))]; exact hr.endb
  · intro n hn
    simp only [List.mem_append, List.mem_cons] at hn
    have old : n ∈ A ++ l :: B → n.id ≠ l.id → w'.heap[n.id]? = some (nodeO n (ah n.id) (nx n.id)) := fun h1 h2 => by rw [hs n.id h2]; exact hr.node n h1
    have hndi := hf.2.2.2.2.2.2.2.2.2.1
    rw [ids_app] at hndi
    rw [List.nodup_append] at hndi
    rcases hn with hn | rfl | hn
    · exact old (by simp [hn]) (fun e1 => hndi.2.2 n.id (mem_ids hn) l.id (by simp [ids]) e1)
    · simp only; rw [hw, hab.1, hab.2]
    · refine old (by simp [hn]) (fun e1 => ?_)
      have := hndi.2.1
      simp only [ids, List.map_cons, List.nodup_cons] at this
      exact this.1 (e1 ▸ mem_ids hn)
  · obtain ⟨o, g, ho, hg, hm⟩ := h.mp
    refine ⟨o, g, by rw [hs r (fun e1 => hf.2.2.2.2.2.2.2.1 (e1 ▸ hlm))]; exact ho, hg, fun k v => (hm k v).trans ?_⟩
    constructor
    · rintro ⟨n, hn, h1, h2⟩
      simp only [List.mem_append, List.mem_cons] at hn
      rcases hn with hn | hn | hn
      · exact ⟨n, by simp [hn], h1, h2⟩
      · exact ⟨{ l with pins := q }, by simp, by rw [← h1, hn], by rw [h2, hn]⟩
      · exact ⟨n, by simp [hn], h1, h2⟩
    · rintro ⟨n, hn, h1, h2⟩
      simp only [List.mem_append, List.mem_cons] at hn
      rcases hn with hn | hn | hn
      · exact ⟨n, by simp [hn], h1, h2⟩
      · exact ⟨l, by simp, by rw [← h1, hn], by rw [h2, hn]⟩
      · exact ⟨n, by simp [hn], h1, h2⟩
  · intro n hn
    simp only [List.mem_append, List.mem_cons] at hn
    have old : n ∈ A ++ l :: B → BytesAt w' n.sv n.b := fun h1 => (h.bs n h1).same fun x hx => hs x (fun e1 => hf.2.2.2.2.2.2.2.2.2.2.2 l.id hlm (e1 ▸ mem_blks h1 hx))
    rcases hn with hn | rfl | hn
    · exact old (by simp [hn])
    · exact (h.bs l (by simp)).same fun x hx => hs x (fun e1 => hf.2.2.2.2.2.2.2.2.2.2.2 l.id hlm (e1 ▸ mem_blks (n := l) (by simp) hx))
    · exact old (by simp [hn])
  · unfold fp; rw [hids, hblk]; exact h.nd
  · intro n hn
    simp only [List.mem_append, List.mem_cons] at hn
    rcases hn with hn | rfl | hn
    · exact h.len n (by simp [hn])
    · exact h.len l (by simp)
    · exact h.len n (by simp [hn])
end Go.Proofs.Ytbbccdcjhoecpaa

namespace Go.Proofs.Ytbbccdcjhoecpaa
open Go Go.Fw Go.RowKit Go.Proofs

-- (*valise/cache.Cache).made
set_option maxRecDepth 100000 in
theorem made_nil {w : World} : Ret Try.prog 25 #[.pointer none] w fun r w' => r = .bool false ∧ w = w' := by
  refine Ret.of_W Try.func25 rfl Try.ntmps25 rfl ?_
  refine W.seq ?_
  refine W.sub [(0, _)] ⟨rfl, trivial⟩ ?_
  refine W.reg [(0, false)] (by kernel_rfl) ?_ -- region 0
  intro K hK
  refine x_assign rfl rfl rfl rfl ?_
  refine Ex.done (hK _ _ ?_)
  refine At.then_n ?_
  refine W.seq ?_
  refine W.sub [(0, _), (2, _)] ⟨rfl, rfl, trivial⟩ ?_
  refine W.reg [(0, false), (1, false), (2, false), (3, false), (4, false), (5, false), (6, false), (7, false), (8, false), (9, false)] (by kernel_rfl) ?_ -- region 1
  intro K hK
  refine x_move rfl rfl rfl rfl ?_
  refine x_nepn false rfl rfl rfl Try.underlying23 rfl rfl rfl ?_ -- eq1 cache.go:84
  refine x_move rfl rfl rfl rfl ?_
  refine Ex.skip_ rfl rfl rfl ?_
  refine Ex.skip_ rfl rfl rfl ?_
  refine Ex.skip_ rfl rfl rfl ?_
  refine Ex.skip_ rfl rfl rfl ?_
  refine Ex.skip_ rfl rfl rfl ?_
  refine x_pickF rfl rfl rfl rfl rfl ?_
  refine x_assign rfl rfl rfl rfl ?_
  refine Ex.done (hK _ _ ?_)
  refine At.then_n ?_
  refine W.ret ?_
  refine At.ret1 (.tmp 2) rfl ⟨rfl, trivial⟩ ?_ -- ret1
  exact ⟨rfl, rfl⟩

-- (*valise/cache.Cache).made
set_option maxRecDepth 100000 in
theorem made_un {c : Nat} {x y z : Value} {T : TypeId} {w : World} (hc : w.heap[c]? = some (.cells [x, y, z, .map none].toArray T (0, 0))) : Ret Try.prog 25 #[.pointer (some ⟨c, 0, none⟩)] w fun r w' => r = .bool false ∧ w = w' := by
  refine Ret.of_W Try.func25 rfl Try.ntmps25 rfl ?_
  refine W.seq ?_
  refine W.sub [(0, _)] ⟨rfl, trivial⟩ ?_
  refine W.reg [(0, false)] (by kernel_rfl) ?_ -- region 0
  intro K hK
  refine x_assign rfl rfl rfl rfl ?_
  refine Ex.done (hK _ _ ?_)
  refine At.then_n ?_
  refine W.seq ?_
  refine W.sub [(0, _), (2, _)] ⟨rfl, rfl, trivial⟩ ?_
  refine W.reg [(0, false), (1, false), (2, false), (3, false), (4, false), (5, false), (6, false), (7, false), (8, false), (9, false)] (by kernel_rfl) ?_ -- region 1
  intro K hK
  refine x_move rfl rfl rfl rfl ?_
  refine x_nepn true rfl rfl rfl Try.underlying23 rfl rfl rfl ?_ -- eq1 cache.go:84
  refine x_move rfl rfl rfl rfl ?_
  refine x_move rfl rfl rfl rfl ?_
  refine x_nil rfl rfl rfl rfl rfl ?_
  refine x_fa rfl rfl rfl fo63_3 rfl ?_
  refine x_ld rfl rfl rfl Try.underlying61 rfl rfl (cell_of hc rfl) ?_ -- ld1 cache.go:84
  refine x_nemn _ rfl rfl rfl Try.underlying61 rfl rfl rfl ?_ -- eq2 cache.go:84
  refine x_pickT rfl rfl rfl rfl rfl ?_
  refine x_assign rfl rfl rfl rfl ?_
  refine Ex.done (hK _ _ ?_)
  refine At.then_n ?_
  refine W.ret ?_
  refine At.ret1 (.tmp 2) rfl ⟨rfl, trivial⟩ ?_ -- ret1
  exact ⟨rfl, rfl⟩

-- (*valise/cache.Cache).made
set_option maxRecDepth 100000 in
theorem made_ok {c r : Nat} {x y z : Value} {T : TypeId} {w : World} (hc : w.heap[c]? = some (.cells [x, y, z, .map (some r)].toArray T (0, 0))) : Ret Try.prog 25 #[.pointer (some ⟨c, 0, none⟩)] w fun r w' => r = .bool true ∧ w = w' := by
  refine Ret.of_W Try.func25 rfl Try.ntmps25 rfl ?_
  refine W.seq ?_
  refine W.sub [(0, _)] ⟨rfl, trivial⟩ ?_
  refine W.reg [(0, false)] (by kernel_rfl) ?_ -- region 0
  intro K hK
  refine x_assign rfl rfl rfl rfl ?_
  refine Ex.done (hK _ _ ?_)
  refine At.then_n ?_
  refine W.seq ?_
  refine W.sub [(0, _), (2, _)] ⟨rfl, rfl, trivial⟩ ?_
  refine W.reg [(0, false), (1, false), (2, false), (3, false), (4, false), (5, false), (6, false), (7, false), (8, false), (9, false)] (by kernel_rfl) ?_ -- region 1
  intro K hK
  refine x_move rfl rfl rfl rfl ?_
  refine x_nepn true rfl rfl rfl Try.underlying23 rfl rfl rfl ?_ -- eq1 cache.go:84
  refine x_move rfl rfl rfl rfl ?_
  refine x_move rfl rfl rfl rfl ?_
  refine x_nil rfl rfl rfl rfl rfl ?_
  refine x_fa rfl rfl rfl fo63_3 rfl ?_
  refine x_ld rfl rfl rfl Try.underlying61 rfl rfl (cell_of hc rfl) ?_ -- ld1 cache.go:84
  refine x_nemn _ rfl rfl rfl Try.underlying61 rfl rfl rfl ?_ -- eq2 cache.go:84
  refine x_pickT rfl rfl rfl rfl rfl ?_
  refine x_assign rfl rfl rfl rfl ?_
  refine Ex.done (hK _ _ ?_)
  refine At.then_n ?_
  refine W.ret ?_
  refine At.ret1 (.tmp 2) rfl ⟨rfl, trivial⟩ ?_ -- ret1
  exact ⟨rfl, rfl⟩
end Go.Proofs.Ytbbccdcjhoecpaa

namespace Go.Proofs.Ytbbccdcjhoecpaa
open Go Go.Fw Go.RowKit Go.Proofs

-- (*valise/cache.Cache).use
set_option maxRecDepth 100000 in
theorem use_c {w : World} {c e r : Nat} {bud : Int} {A B : List Nd} {l : Nd} (h : CAt w c e r bud (A ++ l :: B)) : Ret Try.prog 29 #[ptr c, ptr l.id] w fun v w' => v = .tuple #[] ∧ CAt w' c e r bud (l :: (A ++ B)) ∧ Frm (InRing e (A ++ l :: B)) w w' := by
  have hlid := h.lid
  refine Ret.of_W Try.func29 rfl Try.ntmps29 rfl ?_
  refine W.seq ?_
  refine W.sub [(0, _), (1, _)] ⟨rfl, rfl, trivial⟩ ?_
  refine W.reg [(0, false), (1, false), (2, false), (3, false), (4, false), (5, true)] (by kernel_rfl) ?_ -- region 0
  intro K hK
  refine x_move rfl rfl rfl rfl ?_
  refine x_nil rfl rfl rfl rfl rfl ?_
  refine x_fa rfl rfl rfl fo63_2 rfl ?_
  refine x_ldA [_] rfl rfl rfl Try.underlying60 rfl sz60 rfl rfl ⟨_, _, _, h.hc, rfl⟩ ?_ -- ld1 cache.go:88
  refine x_move rfl rfl rfl rfl ?_
  -- call1: (valise/cache.ring[valise/cache.block]).cut cache.go:88
  refine x_call rfl rfl rfl rfl rfl en39 (cut_ring h.ring) ?_
  rintro v w1 ⟨rfl, hr1, ⟨x1, y1, hl1⟩, hF1⟩
  have hc1 : w1.heap[c]? = some (.cells [.int .i64 bud, .int .i64 (tot (A ++ l :: B)), ptr e, .map (some r)].toArray 63 (0, 0)) := (hF1.old c (h.lt c (by simp [fp])) (InRing.not h.nd (.inl rfl))).trans h.hc
  refine ⟨trivial, ?_⟩
  refine Ex.done (hK _ _ ?_)
  refine At.then_n ?_
  refine W.sub [(0, _), (1, _)] ⟨rfl, rfl, trivial⟩ ?_
  refine W.reg [(0, false), (1, false), (2, false), (3, false), (4, false), (5, true)] (by kernel_rfl) ?_ -- region 1
  intro K hK
  refine x_move rfl rfl rfl rfl ?_
  refine x_nil rfl rfl rfl rfl rfl ?_
  refine x_fa rfl rfl rfl fo63_2 rfl ?_
  refine x_ldA [_] rfl rfl rfl Try.underlying60 rfl sz60 rfl rfl ⟨_, _, _, hc1, rfl⟩ ?_ -- ld2 cache.go:89
  refine x_move rfl rfl rfl rfl ?_
  -- call2: (valise/cache.ring[valise/cache.block]).front cache.go:89
  refine x_call rfl rfl rfl rfl rfl en27 (front_ring hr1 hl1 hlid.1) ?_
  rintro v w2 ⟨rfl, hr2, hF2⟩
  refine ⟨trivial, ?_⟩
  refine Ex.done (hK _ _ ?_)
  refine At.fall ?_
  refine At.ret0 rfl ?_ -- ret1
  have hp := mid_perm A B l
  have hsub : ∀ b, InRing e (l :: (A ++ B)) b → InRing e (A ++ l :: B) b := fun b hb => by
    simp only [InRing, List.mem_cons] at hb ⊢
    rcases hb with hb | hb
    · exact .inl hb
    · exact .inr ((perm_ids hp).mem_iff.2 hb)
  refine ⟨rfl, h.reorder hp hr2 (fun b hb => ?_), hF1.trans hF2 (fun b hb _ => .inl (hsub b hb))⟩
  have hlt : b < w.heap.size := h.lt b (by rcases hb with rfl | rfl | hb <;> simp [fp, *])
  have hn := InRing.not h.nd hb
  rw [hF2.old b (Nat.lt_of_lt_of_le hlt hF1.size) (fun hb2 => hn (hsub b hb2)), hF1.old b hlt hn]

-- (*valise/cache.Cache).gone
set_option maxRecDepth 100000 in
theorem gone_c {w : World} {c e r : Nat} {bud : Int} {A B : List Nd} {l : Nd} (h : CAt w c e r bud (A ++ l :: B)) : Ret Try.prog 31 #[ptr c, ptr l.id] w fun v w' => v = .tuple #[] ∧ CAt w' c e r bud (A ++ B) ∧ Frm (InC c e r (A ++ l :: B)) w w' := by
  have hlid := h.lid
  obtain ⟨p, cap, hsv⟩ := (h.bs l (by simp)).shape
  obtain ⟨o, g, ho, hm, hg⟩ := h.mp
  have hfp := fp_facts h.nd
  have hc0 := h.hc
  refine Ret.of_W Try.func31 rfl Try.ntmps31 rfl ?_
  refine W.seq ?_
  refine W.sub [(0, _), (1, _)] ⟨rfl, rfl, trivial⟩ ?_
  refine W.reg [(0, false), (1, false), (2, false), (3, false), (4, false), (5, true)] (by kernel_rfl) ?_ -- region 0
  intro K hK
  refine x_move rfl rfl rfl rfl ?_
  refine x_nil rfl rfl rfl rfl rfl ?_
  refine x_fa rfl rfl rfl fo63_2 rfl ?_
  refine x_ldA [_] rfl rfl rfl Try.underlying60 rfl sz60 rfl rfl ⟨_, _, _, hc0, rfl⟩ ?_ -- ld1 cache.go:94
  refine x_move rfl rfl rfl rfl ?_
  -- call1: (valise/cache.ring[valise/cache.block]).cut cache.go:94
  refine x_call rfl rfl rfl rfl rfl en39 (cut_ring h.ring) ?_
  rintro v w1 ⟨rfl, hr1, ⟨x1, y1, hl1⟩, hF1⟩
  have hc1 : w1.heap[c]? = some (.cells [.int .i64 bud, .int .i64 (tot (A ++ l :: B)), ptr e, .map (some r)].toArray 63 (0, 0)) := (hF1.old c (h.lt c (by simp [fp])) (InRing.not h.nd (.inl rfl))).trans h.hc
  have ho1 : w1.heap[r]? = some o := (hF1.old r (h.lt r (by simp [fp])) (InRing.not h.nd (.inr (.inl rfl)))).trans ho
  unfold nodeO at hl1
  rw [hsv] at hl1
  refine ⟨trivial, ?_⟩
  refine Ex.done (hK _ _ ?_)
  refine At.then_n ?_
  refine W.seq ?_
  refine W.sub [(0, _), (1, _)] ⟨rfl, rfl, trivial⟩ ?_
  refine W.regD (by kernel_rfl) #[0, 1, 3, 7, 0, 16, 48, 112, 240, 511] [(0, false), (1, false), (2, false), (3, false), (4, false), (5, false), (6, false), (7, false), (8, false), (9, true)] (by kernel_rfl) ?_ -- region 1
  intro K wD1 hK hwD1
  have hc1 : wD1.heap[c]? = some (.cells [.int .i64 bud, .int .i64 (tot (A ++ l :: B)), ptr e, .map (some r)].toArray 63 (0, 0)) := by subst hwD1; exact hc1
  have ho1 : wD1.heap[r]? = some o := by subst hwD1; exact ho1
  have hl2 := (hp_drew hwD1 l.id).trans hl1
  refine x_move rfl rfl rfl rfl ?_
  refine x_nil rfl rfl rfl rfl rfl ?_
  refine x_fa rfl rfl rfl fo63_3 rfl ?_
  refine x_ld rfl rfl rfl Try.underlying61 rfl rfl (cell_of hc1 rfl) ?_ -- ld2 cache.go:95
  refine x_move rfl rfl rfl rfl ?_
  refine x_nil rfl rfl rfl rfl rfl ?_
  refine x_fa rfl rfl rfl fo70_0 rfl ?_
  refine x_fa rfl rfl rfl fo67_0 rfl ?_
  refine x_ldA [_, _] rfl rfl rfl Try.underlying29 rfl sz29 rfl rfl ⟨_, _, _, hl2, rfl⟩ ?_ -- ld3 cache.go:95
  -- de1: cache.go:95
  refine x_del (l.f, l.i) rfl rfl rfl keyLaw Try.underlying61 rfl rfl rfl ho1 hm ?_
  intro o2 w2 hm2 hw2
  have hlt1 : r < wD1.heap.size := (Array.getElem?_eq_some_iff.1 ho1).1
  have ho2 : w2.heap[r]? = some o2 := by rw [hw2]; exact World.putObj_heap_same hlt1
  have hc2 : w2.heap[c]? = some (.cells [.int .i64 bud, .int .i64 (tot (A ++ l :: B)), ptr e, .map (some r)].toArray 63 (0, 0)) := by rw [hw2, World.putObj_heap_other hfp.2.1]; exact hc1
  have hl3 := (hp_put hw2 hlid.2.2).trans hl2
  refine ⟨⟨.inl (by kernel_rfl), .inl (by kernel_rfl), trivial⟩, ?_⟩
  refine Ex.done (hK _ _ ?_)
  refine At.then_n ?_
  refine W.sub [(0, _), (1, _)] ⟨rfl, rfl, trivial⟩ ?_
  refine W.regD (by kernel_rfl) #[0, 1, 3, 7, 0, 16, 48, 112, 240, 496, 1023, 2047, 4095, 8191] [(0, false), (1, false), (2, false), (3, false), (4, false), (5, false), (6, false), (7, false), (8, false), (9, false), (10, false), (11, false), (12, false), (13, true)] (by kernel_rfl) ?_ -- region 2
  intro K wD2 hK hwD2
  have hc2 : wD2.heap[c]? = some (.cells [.int .i64 bud, .int .i64 (tot (A ++ l :: B)), ptr e, .map (some r)].toArray 63 (0, 0)) := by subst hwD2; exact hc2
  have ho2 : wD2.heap[r]? = some o2 := by subst hwD2; exact ho2
  have hl3 := (hp_drew hwD2 l.id).trans hl3
  refine x_move rfl rfl rfl rfl ?_
  refine x_nil rfl rfl rfl rfl rfl ?_
  refine x_fa rfl rfl rfl fo63_1 rfl ?_
  refine x_ld rfl rfl rfl Try.underlying3 rfl rfl (cell_of hc2 rfl) ?_ -- ld4 cache.go:96
  refine x_move rfl rfl rfl rfl ?_
  refine x_nil rfl rfl rfl rfl rfl ?_
  refine x_fa rfl rfl rfl fo70_0 rfl ?_
  refine x_fa rfl rfl rfl fo67_1 rfl ?_
  refine x_ld rfl rfl rfl Try.underlying31 rfl rfl (cell_of hl3 rfl) ?_ -- ld5 cache.go:96
  refine x_len rfl rfl rfl rfl Try.underlying31 rfl ?_
  refine x_sub (tot (A ++ B)) rfl rfl rfl rfl rfl h.tots ?_ -- ar1 cache.go:96
  refine x_nil rfl rfl rfl rfl rfl ?_
  refine x_fa rfl rfl rfl fo63_1 rfl ?_
  refine x_st [_] [_, _, _, _] rfl rfl rfl sz3 rfl rfl rfl rfl hc2 rfl rfl rfl ?_ -- st1 cache.go:96
  intro wst1 hwst1
  
  refine ⟨⟨.inl (by kernel_rfl), .inl (by kernel_rfl), trivial⟩, ?_⟩
  refine Ex.done (hK _ _ ?_)
  refine At.fall ?_
  refine At.ret0 rfl ?_ -- ret1
  have hltc : c < wD2.heap.size := (Array.getElem?_eq_some_iff.1 hc2).1
  have step : ∀ b, b ≠ c → b ≠ r → wst1.heap[b]? = w1.heap[b]? := fun b h1 h2 => by
    rw [hwst1, World.putObj_heap_other h1, hwD2]
    show w2.heap[b]? = _
    rw [hw2, World.putObj_heap_other h2, hwD1]
    rfl
  have hsz : w1.heap.size ≤ wst1.heap.size := by rw [hwst1, hwD2, World.putObj_size]; show w1.heap.size ≤ w2.heap.size; rw [hw2, World.putObj_size, hwD1]; exact Nat.le_refl _
  have hF2 : Frm (InC c e r (A ++ l :: B)) w1 wst1 := (((Frm.drw hwD1).trans' (Frm.put (by simp [InC, fp]) hw2)).trans' (Frm.drw hwD2)).trans' (Frm.put (by simp [InC, fp]) hwst1)
  refine ⟨rfl, h.removed ?_ (hr1.same fun b hb => step b ?_ ?_) ?_ hm2 hg (fun b hb => ?_), (Frm.sub hF1 (fun b hb => hb.fp)).trans hF2 (fun b hb _ => .inl hb)⟩
  · rw [hwst1]; exact World.putObj_heap_same hltc
  · rintro rfl
    rcases List.mem_cons.1 hb with h1 | h1
    · exact hfp.1 h1
    · exact hfp.2.2.2.1 (by rw [ids_app] at h1 ⊢; simp [ids] at h1 ⊢; rcases h1 with h1 | h1; exact .inl h1; exact .inr (.inr h1))
  · rintro rfl
    rcases List.mem_cons.1 hb with h1 | h1
    · exact hfp.2.2.1 h1.symm
    · exact hfp.2.2.2.2.2.2.2.1 (by rw [ids_app] at h1 ⊢; simp [ids] at h1 ⊢; rcases h1 with h1 | h1; exact .inl h1; exact .inr (.inr h1))
  · rw [hwst1, World.putObj_heap_other (Ne.symm hfp.2.1)]; exact ho2
  · rw [step b (fun e1 => hfp.2.2.2.2.1 (e1 ▸ hb)) (fun e1 => hfp.2.2.2.2.2.2.2.2.1 (e1 ▸ hb))]
    exact hF1.old b (h.lt b (by simp [fp, hb])) (InRing.not h.nd (.inr (.inr hb)))

-- slices.Clone[[]byte,byte]
set_option maxRecDepth 100000 in
theorem clone_c {w : World} {sv : Value} {b : List UInt8} (h : BytesIn w sv b) (hb : b.length ≤ 1099511627776) : Ret Try.prog 28 #[sv] w fun v w' => BytesAt w' v b ∧ New w w' ∧ (∀ g, blkOf v = some g → w.heap.size ≤ g) := by
  obtain ⟨p, cap, hsv⟩ := h.shape
  have hs : Src Try.prog 1 31 sv b.length (b.map byteV) w := h.src
  have M : St None' w [] w := Frm.refl _ _
  subst hsv
  refine Ret.of_W Try.func28 rfl Try.ntmps28 rfl ?_
  refine W.seq ?_
  refine W.sub [(0, _)] ⟨rfl, trivial⟩ ?_
  refine W.reg [(0, false)] (by kernel_rfl) ?_ -- region 0
  intro K hK
  refine x_assign rfl rfl rfl rfl ?_
  refine Ex.done (hK _ _ ?_)
  refine At.then_n ?_
  refine W.seq ?_
  refine W.seq ?_
  refine W.sub [(0, _), (2, _)] ⟨rfl, rfl, trivial⟩ ?_
  refine W.reg [(0, false), (1, false)] (by kernel_rfl) ?_ -- region 1
  intro K hK
  refine x_move rfl rfl rfl rfl ?_
  refine x_eqsn _ rfl rfl rfl Try.underlying31 rfl rfl rfl ?_ -- eq1 slices.go:357
  refine Ex.done (hK _ _ ?_)
  refine At.then_n ?_
  refine W.cond rfl (fun hco1 => ?_) (fun hco1 => ?_) -- co1
  · refine W.seq ?_
    refine W.sub [(0, _), (2, _)] ⟨rfl, rfl, trivial⟩ ?_
    refine W.reg [(0, false)] (by kernel_rfl) ?_ -- region 2
    intro K hK
    refine x_assign rfl rfl rfl rfl ?_
    refine Ex.done (hK _ _ ?_)
    refine At.then_n ?_
    refine W.ret ?_
    refine At.then_r ?_
    refine At.ret1 (.tmp 2) rfl ⟨rfl, trivial⟩ ?_ -- ret1
    have hp : p = none := by cases p with | none => rfl | some p => simp at hco1
    subst hp
    have hb0 : b = [] := by
      rcases h with ⟨h1, _⟩ | ⟨_, ⟨_, _, h3⟩ | ⟨_, _, _, _, _, _, h1, _⟩⟩
      · exact h1
      · simpa using h3
      · cases h1
    subst hb0
    exact ⟨.inl ⟨rfl, rfl, rfl⟩, Frm.refl _ _, fun g hg => by cases hg⟩
  · refine W.skip ?_
    refine At.then_n ?_
    refine W.seq ?_
    refine W.sub [(0, _), (2, _)] ⟨rfl, rfl, trivial⟩ ?_
    refine W.reg [(0, true), (1, false), (2, true), (3, false)] (by kernel_rfl) ?_ -- region 3
    intro K hK
    -- bs1: slices.go:362
    refine x_bs0 rfl rfl rfl Try.underlying31 sz5 ?_
    intro b1 w1 hb1 hw1
    have M := M.alloc hb1 hw1
    have hs1 : Src Try.prog 1 31 (.slice p b.length cap) b.length (b.map byteV) w1 := (h.keep (w1 := w1) (fun _ g hg hlt => by rw [hw1, heap_alloc, if_neg (by omega)])).src
    refine ⟨trivial, ?_⟩
    refine x_move rfl rfl rfl rfl ?_
    -- ap1: slices.go:362
    refine x_app (cs := []) rfl rfl rfl rfl Try.underlying31 sz5 ze5 rfl by5 rfl rfl (.inr ⟨b1, 0, [], 5, rfl, M.at_ 0 rfl, rfl, rfl⟩) (by simp) hs1 (by omega) (by decide) (by omega) ?_
    intro v2 w2 hv2 hap
    refine ⟨trivial, ?_⟩
    refine x_assign rfl rfl rfl rfl ?_
    refine Ex.done (hK _ _ ?_)
    refine At.then_n ?_
    refine W.ret ?_
    refine At.ret1 (.tmp 2) rfl ⟨rfl, trivial⟩ ?_ -- ret2
    have hap : ApTo w1 (.slice (some ⟨b1, 0, none⟩) 0 0) v2 w2 := by
      rcases hap with ⟨h1, _⟩ | h1
      · cases h1
      · exact h1
    refine ⟨?_, (M.frm).trans hap.frm (fun g hg _ => ?_), fun g hg => ?_⟩
    · have := hv2.sl (by decide)
      simpa [BytesAt] using this
    · simp [blkOf] at hg; subst hg; exact .inr (by omega)
    · obtain ⟨g', h1, h2⟩ := hap.blk
      rw [hg] at h1; cases h1
      rcases h2 with h2 | h2
      · simp [blkOf] at h2; omega
      · have := M.size; omega
end Go.Proofs.Ytbbccdcjhoecpaa

namespace Go.Proofs.Ytbbccdcjhoecpaa
open Go Go.Fw Go.RowKit Go.Proofs

-- valise/cache.New
set_option maxRecDepth 100000 in
theorem new_no {w : World} {bud : Int} (h : bud < 0 ∨ 1048576 < bud) : Ret Try.prog 9 #[.int .i64 bud] w fun v w' => v = .tuple #[.pointer none, .int .i64 2] ∧ w = w' := by
  refine Ret.of_W Try.func9 rfl Try.ntmps9 rfl ?_
  refine W.seq ?_
  refine W.sub [(0, _)] ⟨rfl, trivial⟩ ?_
  refine W.reg [(0, false), (1, false)] (by kernel_rfl) ?_ -- region 0
  intro K hK
  refine x_assign rfl rfl rfl rfl ?_
  refine x_assign rfl rfl rfl rfl ?_
  refine Ex.done (hK _ _ ?_)
  refine At.then_n ?_
  refine W.seq ?_
  refine W.seq ?_
  refine W.sub [(0, _), (2, _), (3, _)] ⟨rfl, rfl, rfl, trivial⟩ ?_
  refine W.reg [(0, false), (1, false), (2, false), (3, false), (4, false), (5, false)] (by kernel_rfl) ?_ -- region 1
  intro K hK
  refine x_move rfl rfl rfl rfl ?_
  refine x_lss _ rfl rfl rfl rfl rfl rfl ?_ -- cm1 cache.go:77
  refine x_move rfl rfl rfl rfl ?_
  refine Ex.split 6 rfl (fun hsp1 => ?_) (fun hsp1 => ?_)
  · -- sp1 True
    refine Ex.skip_ rfl rfl rfl ?_
    refine Ex.skip_ rfl rfl rfl ?_
    refine x_pickT rfl rfl rfl rfl rfl ?_
    refine Ex.done (hK _ _ ?_)
    refine At.then_n ?_
    refine W.condT rfl ?_ -- co1
    refine W.seq ?_
    refine W.sub [(0, _), (2, _), (3, _)] ⟨rfl, rfl, rfl, trivial⟩ ?_
    refine W.reg [(0, false), (1, false)] (by kernel_rfl) ?_ -- region 2
    intro K hK
    refine x_assign rfl rfl rfl rfl ?_
    refine x_assign rfl rfl rfl rfl ?_
    refine Ex.done (hK _ _ ?_)
    refine At.then_n ?_
    refine W.ret ?_
    refine At.then_r ?_
    refine At.ret2 (.tmp 2) (.tmp 3) rfl ⟨rfl, rfl, trivial⟩ ?_ -- ret1
    exact ⟨rfl, rfl⟩
  · -- sp1 False
    refine x_move rfl rfl rfl rfl ?_
    refine x_gtr _ rfl rfl rfl rfl rfl rfl ?_ -- cm2 cache.go:77
    refine x_pickF rfl rfl rfl rfl rfl ?_
    refine Ex.done (hK _ _ ?_)
    refine At.then_n ?_
    refine W.cond rfl (fun hco2 => ?_) (fun hco2 => ?_) -- co2
    · refine W.seq ?_
      refine W.sub [(0, _), (2, _), (3, _)] ⟨rfl, rfl, rfl, trivial⟩ ?_
      refine W.reg [(0, false), (1, false)] (by kernel_rfl) ?_ -- region 2
      intro K hK
      refine x_assign rfl rfl rfl rfl ?_
      refine x_assign rfl rfl rfl rfl ?_
      refine Ex.done (hK _ _ ?_)
      refine At.then_n ?_
      refine W.ret ?_
      refine At.then_r ?_
      refine At.ret2 (.tmp 2) (.tmp 3) rfl ⟨rfl, rfl, trivial⟩ ?_ -- ret2
      exact ⟨rfl, rfl⟩
    · exfalso
      simp at hco2 hsp1
      omega

-- valise/cache.New
set_option maxRecDepth 100000 in
theorem new_ok {w : World} {bud : Int} (h : 0 ≤ bud ∧ bud ≤ 1048576) : Ret Try.prog 9 #[.int .i64 bud] w fun v w' => ∃ c e r, v = .tuple #[ptr c, .int .i64 0] ∧ CAt w' c e r bud [] ∧ New w w' ∧ (∀ b ∈ fp c e r [], w.heap.size ≤ b) := by
  have M : St None' w [] w := Frm.refl _ _
  refine Ret.of_W Try.func9 rfl Try.ntmps9 rfl ?_
  refine W.seq ?_
  refine W.sub [(0, _)] ⟨rfl, trivial⟩ ?_
  refine W.reg [(0, false), (1, false)] (by kernel_rfl) ?_ -- region 0
  intro K hK
  refine x_assign rfl rfl rfl rfl ?_
  refine x_assign rfl rfl rfl rfl ?_
  refine Ex.done (hK _ _ ?_)
  refine At.then_n ?_
  refine W.seq ?_
  refine W.seq ?_
  refine W.sub [(0, _), (2, _), (3, _)] ⟨rfl, rfl, rfl, trivial⟩ ?_
  refine W.reg [(0, false), (1, false), (2, false), (3, false), (4, false), (5, false)] (by kernel_rfl) ?_ -- region 1
  intro K hK
  refine x_move rfl rfl rfl rfl ?_
  refine x_lss _ rfl rfl rfl rfl rfl rfl ?_ -- cm1 cache.go:77
  refine x_move rfl rfl rfl rfl ?_
  refine Ex.split 6 rfl (fun hsp1 => ?_) (fun hsp1 => ?_)
  · -- sp1 True
    exfalso
    simp at hsp1
    omega
  · -- sp1 False
    refine x_move rfl rfl rfl rfl ?_
    refine x_gtr _ rfl rfl rfl rfl rfl rfl ?_ -- cm2 cache.go:77
    refine x_pickF rfl rfl rfl rfl rfl ?_
    refine Ex.done (hK _ _ ?_)
    refine At.then_n ?_
    refine W.cond rfl (fun hco2 => ?_) (fun hco2 => ?_) -- co2
    · exfalso
      simp at hco2
      omega
    · refine W.skip ?_
      refine At.then_n ?_
      refine W.seq ?_
      refine W.sub [(0, _), (2, _), (3, _)] ⟨rfl, rfl, rfl, trivial⟩ ?_
      refine W.reg [(0, false), (1, true), (2, true), (3, false), (4, true), (5, false), (6, false)] (by kernel_rfl) ?_ -- region 3
      intro K hK
      refine x_move rfl rfl rfl rfl ?_
      -- call1: valise/cache.empty[valise/cache.block] cache.go:80
      refine x_call rfl rfl rfl rfl rfl en24 (empty_calls) ?_
      rintro v w1 ⟨e, rfl, hle, M1⟩
      have M := M1
      refine ⟨trivial, ?_⟩
      refine x_mkmap rfl rfl rfl ?_ -- mm1 cache.go:80
      intro bmm1 wmm1 hbmm1 hwmm1
      have M := M.alloc hbmm1 hwmm1
      refine ⟨trivial, ?_⟩
      refine x_build [_, _, _, _] rfl rfl rfl pl63 ze63 rfl rfl rfl ?_ -- bu1 cache.go:80
      refine x_box [_, _, _, _] rfl rfl rfl rfl rfl ?_ -- bx1 cache.go:80
      intro bbx1 wbx1 hbbx1 hwbx1
      have M := M.alloc hbbx1 hwbx1
      refine ⟨trivial, ?_⟩
      refine x_assign rfl rfl rfl rfl ?_
      refine x_assign rfl rfl rfl rfl ?_
      refine Ex.done (hK _ _ ?_)
      refine At.then_n ?_
      refine W.ret ?_
      refine At.ret2 (.tmp 2) (.tmp 3) rfl ⟨rfl, rfl, trivial⟩ ?_ -- ret2
      refine ⟨bbx1, e, bmm1, rfl, CAt.made (M.at_ 2 rfl) (M.at_ 0 rfl) (M.at_ 1 rfl) rfl ?_ ?_ ?_, M.frm, fun b hb => ?_⟩
      · have := M.nd; simp at this; exact Ne.symm this.1.2
      · have := M.nd; simp at this; exact Ne.symm this.2
      · have := M.nd; simp at this; exact this.1.1
      · have h0 := (M.own _ (List.mem_of_getElem? (i := 0) rfl)).2.resolve_left id
        have h1 := (M.own _ (List.mem_of_getElem? (i := 1) rfl)).2.resolve_left id
        have h2 := (M.own _ (List.mem_of_getElem? (i := 2) rfl)).2.resolve_left id
        simp [fp, ids, blks] at hb
        rcases hb with rfl | rfl | rfl <;> assumption

-- (*valise/cache.Cache).Size
set_option maxRecDepth 100000 in
theorem size_c {w : World} {c e r : Nat} {bud : Int} {L : List Nd} (h : CAt w c e r bud L) : Ret Try.prog 15 #[ptr c] w fun v w' => v = .int .i64 (tot L) ∧ w = w' := by
  have hc := h.hc
  refine Ret.of_W Try.func15 rfl Try.ntmps15 rfl ?_
  refine W.seq ?_
  refine W.sub [(0, _)] ⟨rfl, trivial⟩ ?_
  refine W.reg [(0, false)] (by kernel_rfl) ?_ -- region 0
  intro K hK
  refine x_assign rfl rfl rfl rfl ?_
  refine Ex.done (hK _ _ ?_)
  refine At.then_n ?_
  refine W.seq ?_
  refine W.seq ?_
  refine W.sub [(0, _), (2, _)] ⟨rfl, rfl, trivial⟩ ?_
  refine W.reg [(0, false), (1, true), (2, false)] (by kernel_rfl) ?_ -- region 1
  intro K hK
  refine x_move rfl rfl rfl rfl ?_
  -- call1: (*valise/cache.Cache).made cache.go:192
  refine x_call rfl rfl rfl rfl rfl en25 (made_ok hc) ?_
  rintro v w1 ⟨rfl, rfl⟩
  refine ⟨trivial, ?_⟩
  refine x_not false rfl rfl rfl rfl rfl ?_ -- un1 cache.go:192
  refine Ex.done (hK _ _ ?_)
  refine At.then_n ?_
  refine W.condF rfl ?_ -- co1
  refine W.skip ?_
  refine At.then_n ?_
  refine W.seq ?_
  refine W.sub [(0, _), (2, _)] ⟨rfl, rfl, trivial⟩ ?_
  refine W.reg [(0, false), (1, false), (2, false), (3, false), (4, false)] (by kernel_rfl) ?_ -- region 3
  intro K hK
  refine x_move rfl rfl rfl rfl ?_
  refine x_nil rfl rfl rfl rfl rfl ?_
  refine x_fa rfl rfl rfl fo63_1 rfl ?_
  refine x_ld rfl rfl rfl Try.underlying3 rfl rfl (cell_of hc rfl) ?_ -- ld1 cache.go:195
  refine x_assign rfl rfl rfl rfl ?_
  refine Ex.done (hK _ _ ?_)
  refine At.then_n ?_
  refine W.ret ?_
  refine At.ret1 (.tmp 2) rfl ⟨rfl, trivial⟩ ?_ -- ret1
  exact ⟨rfl, rfl⟩

-- (*valise/cache.Cache).pin
set_option maxRecDepth 100000 in
theorem pin_none {w : World} {c e r : Nat} {bud by' : Int} {L : List Nd} {k : Key} (h : CAt w c e r bud L) (hk : ∀ n ∈ L, n.key ≠ k) : Ret Try.prog 38 #[ptr c, encK k, .int .i64 by'] w fun v w' => v = .int .i64 9 ∧ New w w' := by
  have M : St None' w [] w := Frm.refl _ _
  have hlk := h.look k
  have hc := h.hc
  refine Ret.of_W Try.func38 rfl Try.ntmps38 rfl ?_
  refine W.seq ?_
  refine W.sub [(0, _), (1, _), (2, _)] ⟨rfl, rfl, rfl, trivial⟩ ?_
  refine W.reg [(0, true), (1, false)] (by kernel_rfl) ?_ -- region 0
  intro K hK
  refine x_box [_, _] rfl rfl rfl rfl rfl ?_ -- bx1 cache.go:154
  intro bbx1 wbx1 hbbx1 hwbx1
  have M := M.alloc hbbx1 hwbx1
  have hcx := hp_al hwbx1 hc
  have hlk := hlk.alloc hwbx1
  refine ⟨trivial, ?_⟩
  refine x_assign rfl rfl rfl rfl ?_
  refine Ex.done (hK _ _ ?_)
  refine At.then_n ?_
  refine W.seq ?_
  refine W.seq ?_
  refine W.sub [(0, _), (2, _), (4, _), (6, _)] ⟨rfl, rfl, rfl, rfl, trivial⟩ ?_
  refine W.reg [(0, false), (1, true), (2, false)] (by kernel_rfl) ?_ -- region 1
  intro K hK
  refine x_move rfl rfl rfl rfl ?_
  -- call1: (*valise/cache.Cache).made cache.go:155
  refine x_call rfl rfl rfl rfl rfl en25 (made_ok hcx) ?_
  rintro v w1 ⟨rfl, rfl⟩
  refine ⟨trivial, ?_⟩
  refine x_not false rfl rfl rfl rfl rfl ?_ -- un1 cache.go:155
  refine Ex.done (hK _ _ ?_)
  refine At.then_n ?_
  refine W.condF rfl ?_ -- co1
  refine W.skip ?_
  refine At.then_n ?_
  refine W.seq ?_
  refine W.sub [(0, _), (2, _), (4, _), (6, _)] ⟨rfl, rfl, rfl, rfl, trivial⟩ ?_
  refine W.regD (by kernel_rfl) #[0, 1, 3, 7, 0, 31, 63, 127, 127, 255, 1023] [(0, false), (1, false), (2, false), (3, false), (4, false), (5, false), (6, false), (7, false), (8, false), (9, false), (10, false)] (by kernel_rfl) ?_ -- region 3
  intro K wD1 hK hwD1
  have M := M.drew hwD1
  have hcx := (hp_drew hwD1 c).trans hcx
  have hlk := hlk.same (hp_drew hwD1 r)
  refine x_move rfl rfl rfl rfl ?_
  refine x_nil rfl rfl rfl rfl rfl ?_
  refine x_fa rfl rfl rfl fo63_3 rfl ?_
  refine x_ld rfl rfl rfl Try.underlying61 rfl rfl (cell_of hcx rfl) ?_ -- ld1 cache.go:158
  refine x_ldA [_, _] rfl rfl rfl Try.underlying29 rfl sz29 rfl rfl ⟨_, _, _, (by first | exact M.at_ 0 rfl | exact M.at_ 1 rfl | exact M.at_ 2 rfl | exact M.at_ 3 rfl | exact M.at_ 4 rfl | exact M.at_ 5 rfl), rfl⟩ ?_ -- ld2 cache.go:158
  refine x_lk2 k rfl rfl rfl keyLaw Try.underlying61 ze58 rfl rfl hlk ?_ -- lk1 cache.go:158
  refine x_move rfl rfl rfl rfl ?_
  refine x_ext rfl rfl rfl rfl rfl ?_ -- ex1
  refine x_ext rfl rfl rfl rfl rfl ?_ -- ex2
  refine x_assign rfl rfl rfl rfl ?_
  refine x_assign rfl rfl rfl rfl ?_
  refine Ex.done (hK _ _ ?_)
  refine At.then_n ?_
  refine W.seq ?_
  refine W.block ?_
  refine W.seq ?_
  refine W.sub [(2, _), (6, _), (7, _), (8, _)] ⟨rfl, rfl, rfl, rfl, trivial⟩ ?_
  refine W.reg [(0, false), (1, false), (2, false)] (by kernel_rfl) ?_ -- region 4
  intro K hK
  refine x_move rfl rfl rfl rfl ?_
  refine x_not true rfl rfl rfl rfl (by rw [(findK_none (by unfold findK; rw [List.find?_eq_none.2 (fun n hn => by simpa using hk n hn)]; rfl)).2]; rfl) ?_ -- un2 cache.go:160
  refine x_assign rfl rfl rfl rfl ?_
  refine Ex.done (hK _ _ ?_)
  refine At.then_n ?_
  refine W.condT rfl ?_ -- co2
  refine W.seq ?_
  refine W.sub [(2, _), (6, _), (7, _)] ⟨rfl, rfl, rfl, trivial⟩ ?_
  refine W.reg [(0, false)] (by kernel_rfl) ?_ -- region 5
  intro K hK
  refine x_assign rfl rfl rfl rfl ?_
  refine Ex.done (hK _ _ ?_)
  refine At.then_n ?_
  refine W.ret ?_
  refine At.blk_r ?_
  refine At.then_r ?_
  refine At.ret1 (.tmp 6) rfl ⟨rfl, trivial⟩ ?_ -- ret1
  exact ⟨rfl, M.frm⟩

-- (*valise/cache.Cache).pin
set_option maxRecDepth 100000 in
theorem pin_some {w : World} {c e r : Nat} {bud by' : Int} {A B : List Nd} {l : Nd} {k : Key} (h : CAt w c e r bud (A ++ l :: B)) (hk : l.key = k) (hb : -2 < by' ∧ by' < 2) (hp : 0 ≤ l.pins ∧ l.pins < 1000000000) : Ret Try.prog 38 #[ptr c, encK k, .int .i64 by'] w fun v w' => (l.pins + by' < 0 ∧ v = .int .i64 2 ∧ New w w') ∨ (0 ≤ l.pins + by' ∧ v = .int .i64 0 ∧ CAt w' c e r bud (A ++ { l with pins := l.pins + by' } :: B) ∧ Frm (fun b => b = l.id) w w') := by
  have M : St None' w [] w := Frm.refl _ _
  have hlk := h.look k
  have hc := h.hc
  obtain ⟨l2, hfk⟩ : ∃ l2, findK (A ++ l :: B) k = some (ptr l.id) := by
    obtain ⟨A', l', B', h1, h2, h3, _⟩ := findK_some (L := A ++ l :: B) (k := k) (by unfold findK; rw [Option.isSome_map]; exact List.find?_isSome.2 ⟨l, by simp, by simp [hk]⟩)
    have : l' = l := key_inj h.keys (by rw [h1]; simp) (by simp) (h2.trans hk.symm)
    exact ⟨(), by rw [h3, this]⟩
  rw [hfk] at hlk
  obtain ⟨hnode, hne⟩ := h.ring.node_at
  have hw1 : IntKind.i64.wrap (l.pins + by') = l.pins + by' := wrap64_id (by omega) (by omega)
  refine Ret.of_W Try.func38 rfl Try.ntmps38 rfl ?_
  refine W.seq ?_
  refine W.sub [(0, _), (1, _), (2, _)] ⟨rfl, rfl, rfl, trivial⟩ ?_
  refine W.reg [(0, true), (1, false)] (by kernel_rfl) ?_ -- region 0
  intro K hK
  refine x_box [_, _] rfl rfl rfl rfl rfl ?_ -- bx1 cache.go:154
  intro bbx1 wbx1 hbbx1 hwbx1
  have M := M.alloc hbbx1 hwbx1
  have hcx := hp_al hwbx1 hc
  have hlk := hlk.alloc hwbx1
  have hnd := hp_al hwbx1 hnode
  refine ⟨trivial, ?_⟩
  refine x_assign rfl rfl rfl rfl ?_
  refine Ex.done (hK _ _ ?_)
  refine At.then_n ?_
  refine W.seq ?_
  refine W.seq ?_
  refine W.sub [(0, _), (2, _), (4, _), (6, _)] ⟨rfl, rfl, rfl, rfl, trivial⟩ ?_
  refine W.reg [(0, false), (1, true), (2, false)] (by kernel_rfl) ?_ -- region 1
  intro K hK
  refine x_move rfl rfl rfl rfl ?_
  -- call1: (*valise/cache.Cache).made cache.go:155
  refine x_call rfl rfl rfl rfl rfl en25 (made_ok hcx) ?_
  rintro v w1 ⟨rfl, rfl⟩
  refine ⟨trivial, ?_⟩
  refine x_not false rfl rfl rfl rfl rfl ?_ -- un1 cache.go:155
  refine Ex.done (hK _ _ ?_)
  refine At.then_n ?_
  refine W.condF rfl ?_ -- co1
  refine W.skip ?_
  refine At.then_n ?_
  refine W.seq ?_
  refine W.sub [(0, _), (2, _), (4, _), (6, _)] ⟨rfl, rfl, rfl, rfl, trivial⟩ ?_
  refine W.regD (by kernel_rfl) #[0, 1, 3, 7, 0, 31, 63, 127, 127, 255, 1023] [(0, false), (1, false), (2, false), (3, false), (4, false), (5, false), (6, false), (7, false), (8, false), (9, false), (10, false)] (by kernel_rfl) ?_ -- region 3
  intro K wD1 hK hwD1
  have M := M.drew hwD1
  have hcx := (hp_drew hwD1 c).trans hcx
  have hlk := hlk.same (hp_drew hwD1 r)
  have hnd := (hp_drew hwD1 l.id).trans hnd
  refine x_move rfl rfl rfl rfl ?_
  refine x_nil rfl rfl rfl rfl rfl ?_
  refine x_fa rfl rfl rfl fo63_3 rfl ?_
  refine x_ld rfl rfl rfl Try.underlying61 rfl rfl (cell_of hcx rfl) ?_ -- ld1 cache.go:158
  refine x_ldA [_, _] rfl rfl rfl Try.underlying29 rfl sz29 rfl rfl ⟨_, _, _, (by first | exact M.at_ 0 rfl | exact M.at_ 1 rfl | exact M.at_ 2 rfl | exact M.at_ 3 rfl | exact M.at_ 4 rfl | exact M.at_ 5 rfl), rfl⟩ ?_ -- ld2 cache.go:158
  refine x_lk2 k rfl rfl rfl keyLaw Try.underlying61 ze58 rfl rfl hlk ?_ -- lk1 cache.go:158
  refine x_move rfl rfl rfl rfl ?_
  refine x_ext rfl rfl rfl rfl rfl ?_ -- ex1
  refine x_ext rfl rfl rfl rfl rfl ?_ -- ex2
  refine x_assign rfl rfl rfl rfl ?_
  refine x_assign rfl rfl rfl rfl ?_
  refine Ex.done (hK _ _ ?_)
  refine At.then_n ?_
  refine W.seq ?_
  refine W.block ?_
  refine W.seq ?_
  refine W.sub [(2, _), (6, _), (7, _), (8, _)] ⟨rfl, rfl, rfl, rfl, trivial⟩ ?_
  refine W.reg [(0, false), (1, false), (2, false)] (by kernel_rfl) ?_ -- region 4
  intro K hK
  refine x_move rfl rfl rfl rfl ?_
  refine x_not false rfl rfl rfl rfl rfl ?_ -- un2 cache.go:160
  refine x_assign rfl rfl rfl rfl ?_
  refine Ex.done (hK _ _ ?_)
  refine At.then_n ?_
  refine W.condF rfl ?_ -- co2
  refine W.seq ?_
  refine W.sub [(2, _), (6, _), (7, _)] ⟨rfl, rfl, rfl, trivial⟩ ?_
  refine W.reg [(0, false), (1, false), (2, false), (3, false), (4, false), (5, false), (6, false), (7, false), (8, false)] (by kernel_rfl) ?_ -- region 6
  intro K hK
  refine x_move rfl rfl rfl rfl ?_
  refine x_nil rfl rfl rfl rfl rfl ?_
  refine x_fa rfl rfl rfl fo70_0 rfl ?_
  refine x_fa rfl rfl rfl fo67_2 rfl ?_
  refine x_ld rfl rfl rfl Try.underlying3 rfl rfl (cell_of hnd rfl) ?_ -- ld3 cache.go:162
  refine x_move rfl rfl rfl rfl ?_
  refine x_add (l.pins + by') rfl rfl rfl rfl rfl hw1 ?_ -- ar1 cache.go:162
  refine x_lss _ rfl rfl rfl rfl rfl rfl ?_ -- cm1 cache.go:162
  refine x_assign rfl rfl rfl rfl ?_
  refine Ex.done (hK _ _ ?_)
  refine At.then_n ?_
  refine W.cond rfl (fun hco3 => ?_) (fun hco3 => ?_) -- co3
  · refine W.seq ?_
    refine W.sub [(2, _), (6, _), (7, _)] ⟨rfl, rfl, rfl, trivial⟩ ?_
    refine W.reg [(0, false)] (by kernel_rfl) ?_ -- region 7
    intro K hK
    refine x_assign rfl rfl rfl rfl ?_
    refine Ex.done (hK _ _ ?_)
    refine At.then_n ?_
    refine W.ret ?_
    refine At.blk_r ?_
    refine At.then_r ?_
    refine At.ret1 (.tmp 6) rfl ⟨rfl, trivial⟩ ?_ -- ret1
    simp at hco3
    exact .inl ⟨hco3, rfl, M.frm⟩
  · refine W.skip ?_
    refine At.blk_n ?_
    refine At.then_n ?_
    refine W.seq ?_
    refine W.sub [(2, _), (6, _), (7, _)] ⟨rfl, rfl, rfl, trivial⟩ ?_
    refine W.reg [(0, false), (1, false), (2, false), (3, false), (4, false), (5, false), (6, false), (7, false), (8, false), (9, false), (10, true)] (by kernel_rfl) ?_ -- region 8
    intro K hK
    refine x_move rfl rfl rfl rfl ?_
    refine x_nil rfl rfl rfl rfl rfl ?_
    refine x_fa rfl rfl rfl fo70_0 rfl ?_
    refine x_fa rfl rfl rfl fo67_2 rfl ?_
    refine x_ld rfl rfl rfl Try.underlying3 rfl rfl (cell_of hnd rfl) ?_ -- ld4 cache.go:165
    refine x_move rfl rfl rfl rfl ?_
    refine x_add (l.pins + by') rfl rfl rfl rfl rfl hw1 ?_ -- ar2 cache.go:165
    refine x_nil rfl rfl rfl rfl rfl ?_
    refine x_fa rfl rfl rfl fo70_0 rfl ?_
    refine x_fa rfl rfl rfl fo67_2 rfl ?_
    refine x_st [_] [_, _, _, _, _, _] rfl rfl rfl sz3 rfl rfl rfl rfl hnd rfl rfl rfl ?_ -- st1 cache.go:165
    intro wst1 hwst1
    
    refine ⟨trivial, ?_⟩
    refine Ex.done (hK _ _ ?_)
    refine At.then_n ?_
    refine W.seq ?_
    refine W.sub [(6, _)] ⟨rfl, trivial⟩ ?_
    refine W.reg [(0, false)] (by kernel_rfl) ?_ -- region 9
    intro K hK
    refine x_assign rfl rfl rfl rfl ?_
    refine Ex.done (hK _ _ ?_)
    refine At.then_n ?_
    refine W.ret ?_
    refine At.ret1 (.tmp 6) rfl ⟨rfl, trivial⟩ ?_ -- ret2
    simp at hco3
    have hfr : Frm (fun b => b = l.id) w wst1 := (Frm.sub M.frm (fun _ h => h.elim)).trans' (Frm.put rfl hwst1)
    refine .inr ⟨hco3, rfl, ?_, hfr⟩
    have h1 := h.new M.frm
    exact h1.pinned hnd (hp_putS hwst1 hnd) (fun x hx => hp_put hwst1 hx)
end Go.Proofs.Ytbbccdcjhoecpaa

namespace Go.Proofs.Ytbbccdcjhoecpaa
open Go Go.Fw Go.RowKit Go.Proofs
set_option linter.unusedVariables false
set_option linter.unusedSimpArgs false

def keyCells (L : List Nd) : List Value := L.flatMap fun n => [.string n.f, .int .i64 n.i]
theorem keyCells_app (A B : List Nd) : keyCells (A ++ B) = keyCells A ++ keyCells B := by simp [keyCells]
theorem keyCells_one (L : List Nd) : ∀ u ∈ keyCells L, u.oneCell' = true := by
  intro u hu
  simp only [keyCells, List.mem_flatMap] at hu
  obtain ⟨n, _, hu⟩ := hu
  simp at hu
  rcases hu with rfl | rfl <;> rfl
theorem keyCells_len (L : List Nd) : (keyCells L).length = L.length * 2 := by
  induction L with
  | nil => rfl
  | cons n L ih => simp [keyCells] at ih ⊢; omega

/-- Those that do not stand in a file. -/
def notIn (L : List Nd) (f : ByteArray) : List Nd := L.filter fun n => n.f ≠ f

theorem fp_sub {c e r : Nat} {L L' : List Nd} (h : ∀ n ∈ L', n ∈ L) : ∀ x ∈ fp c e r L', x ∈ fp c e r L := by
  intro x hx
  simp only [fp, List.mem_cons, List.mem_append] at hx ⊢
  rcases hx with hx | hx | hx | hx | hx
  · exact .inl hx
  · exact .inr (.inl hx)
  · exact .inr (.inr (.inl hx))
  · obtain ⟨n, hn, rfl⟩ := List.mem_map.1 hx
    exact .inr (.inr (.inr (.inl (mem_ids (h n hn)))))
  · obtain ⟨n, hn, h2⟩ := List.mem_filterMap.1 hx
    exact .inr (.inr (.inr (.inr (mem_blks (h n hn) h2))))

theorem lstI_snoc : ∀ (A : List Nat) (x e : Nat), lstI (A ++ [x]) e = x
  | [], _, _ => rfl
  | [_], _, _ => rfl
  | _ :: b :: A, x, e => lstI_snoc (b :: A) x e
theorem lstI_rev (A : List Nat) (e : Nat) : lstI A e = hdI A.reverse e := by
  rcases List.eq_nil_or_concat A with rfl | ⟨A, x, rfl⟩
  · rfl
  · simp [lstI_snoc, hdI]
end Go.Proofs.Ytbbccdcjhoecpaa

namespace Go.Proofs.Ytbbccdcjhoecpaa
open Go Go.Fw Go.RowKit Go.Proofs
set_option linter.unusedVariables false
set_option linter.unusedSimpArgs false

theorem CAt.put {w w1 : World} {c e r : Nat} {bud : Int} {L : List Nd} {b : Nat} {o : Obj} (h : CAt w c e r bud L) (hb : b ∉ fp c e r L) (hw : w1 = w.putObj b o) : CAt w1 c e r bud L :=
  h.same fun x hx => hp_put hw (fun e1 => hb (e1 ▸ hx))
theorem CAt.drw {w w1 : World} {c e r : Nat} {bud : Int} {L : List Nd} (h : CAt w c e r bud L) (hw : w1 = w.drew) : CAt w1 c e r bud L := h.same fun x _ => hp_drew hw x
theorem CAt.alc {w w1 : World} {c e r : Nat} {bud : Int} {L : List Nd} {o : Obj} (h : CAt w c e r bud L) (hw : w1 = w.alloc o) : CAt w1 c e r bud L := h.new (Frm.alc hw)

theorem notIn_app (A B : List Nd) (f : ByteArray) : notIn (A ++ B) f = notIn A f ++ notIn B f := by simp [notIn]
theorem notIn_mem {L : List Nd} {f : ByteArray} {n : Nd} (h : n ∈ notIn L f) : n ∈ L := (List.mem_filter.1 h).1
theorem notIn_len (L : List Nd) (f : ByteArray) : (notIn L f).length ≤ L.length := List.length_filter_le _ _
theorem ids_nil {L : List Nd} (h : ([] : List Nat) = ids L) : L = [] := by cases L with | nil => rfl | cons a b => cases h
theorem ids_cons {L : List Nd} {x : Nat} {r : List Nat} (h : x :: r = ids L) : ∃ n L', L = n :: L' ∧ x = n.id ∧ r = ids L' := by
  cases L with | nil => cases h | cons a b => cases h; exact ⟨a, b, rfl, rfl, rfl⟩

/-- What the loops over the ring ask for. -/
theorem CAt.stepF {w : World} {c e r : Nat} {bud : Int} {A R : List Nd} (h : CAt w c e r bud (A ++ R)) : OkBlk w e ∧ ∀ x r2, ids R = x :: r2 → x ≠ e ∧ OkBlk w x ∧ w.cell? ⟨x, 5, none⟩ = some (ptr (hdI r2 e)) := by
  refine ⟨okBlk_end h.ring.end_at, fun x r2 hx => ?_⟩
  obtain ⟨n, R', rfl, rfl, rfl⟩ := ids_cons hx.symm
  obtain ⟨g1, g2⟩ := h.ring.node_at
  exact ⟨g2, okBlk_node g1, cell_of g1 rfl⟩

theorem ids_rev (P : List Nd) : ids P.reverse = (ids P).reverse := by simp [ids]

theorem CAt.stepB {w : World} {c e r : Nat} {bud : Int} {P K : List Nd} (h : CAt w c e r bud (P.reverse ++ K)) : OkBlk w e ∧ ∀ x r2, ids P = x :: r2 → x ≠ e ∧ OkBlk w x ∧ w.cell? ⟨x, 4, none⟩ = some (ptr (hdI r2 e)) := by
  refine ⟨okBlk_end h.ring.end_at, fun x r2 hx => ?_⟩
  obtain ⟨n, P', rfl, rfl, rfl⟩ := ids_cons hx.symm
  rw [List.reverse_cons, List.append_assoc] at h
  obtain ⟨g1, g2⟩ := Ring.node_at (A := P'.reverse) (l := n) (B := K) h.ring
  refine ⟨g2, okBlk_node g1, cell_of g1 ?_⟩
  rw [lstI_rev, ids_rev, List.reverse_reverse]
  rfl
end Go.Proofs.Ytbbccdcjhoecpaa

namespace Go.Proofs.Ytbbccdcjhoecpaa
open Go Go.Fw Go.RowKit Go.Proofs

-- (*valise/cache.Cache).Drop
set_option maxRecDepth 100000 in
theorem drop_c {w : World} {c e r : Nat} {bud : Int} {L : List Nd} {f : ByteArray} (h : CAt w c e r bud L) (hlen : L.length ≤ 1000000) : Ret Try.prog 23 #[ptr c, .string f] w fun v w' => v = .int .i64 ((L.length - (notIn L f).length : Nat) : Int) ∧ CAt w' c e r bud (notIn L f) ∧ Frm (InC c e r L) w w' := by
  have M : St None' w [] w := Frm.refl _ _
  refine Ret.of_W Try.func23 rfl Try.ntmps23 rfl ?_
  refine W.seq ?_
  refine W.sub [(0, _), (1, _)] ⟨rfl, rfl, trivial⟩ ?_
  refine W.reg [(0, true), (1, true), (2, false)] (by kernel_rfl) ?_ -- region 0
  intro K hK
  refine x_box [_] rfl rfl rfl rfl rfl ?_ -- bx1 cache.go:176
  intro bbx1 wbx1 hbbx1 hwbx1
  have M := M.alloc hbbx1 hwbx1
  refine ⟨trivial, ?_⟩
  refine x_box [_] rfl rfl rfl rfl rfl ?_ -- bx2 cache.go:176
  intro bbx2 wbx2 hbbx2 hwbx2
  have M := M.alloc hbbx2 hwbx2
  have hcx := (h.new M.frm).hc
  refine ⟨trivial, ?_⟩
  refine x_assign rfl rfl rfl rfl ?_
  refine Ex.done (hK _ _ ?_)
  refine At.then_n ?_
  refine W.seq ?_
  refine W.seq ?_
  refine W.sub [(2, _), (3, _), (4, _)] ⟨rfl, rfl, rfl, trivial⟩ ?_
  refine W.reg [(0, false), (1, true), (2, false)] (by kernel_rfl) ?_ -- region 1
  intro K hK
  refine x_ld rfl rfl rfl Try.underlying23 rfl rfl (cell_of (by first | exact M.at_ 0 rfl | exact M.at_ 1 rfl | exact M.at_ 2 rfl | exact M.at_ 3 rfl | exact M.at_ 4 rfl | exact M.at_ 5 rfl) rfl) ?_ -- ld1 cache.go:177
  -- call1: (*valise/cache.Cache).made cache.go:177
  refine x_call rfl rfl rfl rfl rfl en25 (made_ok hcx) ?_
  rintro v w1 ⟨rfl, rfl⟩
  refine ⟨trivial, ?_⟩
  refine x_not false rfl rfl rfl rfl rfl ?_ -- un1 cache.go:177
  refine Ex.done (hK _ _ ?_)
  refine At.then_n ?_
  refine W.condF rfl ?_ -- co1
  refine W.skip ?_
  refine At.then_n ?_
  refine W.seq ?_
  refine W.sub [(2, _), (3, _), (4, _)] ⟨rfl, rfl, rfl, trivial⟩ ?_
  refine W.reg [(0, true), (1, true)] (by kernel_rfl) ?_ -- region 3
  intro K hK
  refine x_alloc [_] rfl rfl rfl ze3 rfl ?_ -- al1 cache.go:180
  intro bal1 wal1 hbal1 hwal1
  have M := M.alloc hbal1 hwal1
  refine ⟨trivial, ?_⟩
  refine x_st [_] _ rfl rfl rfl sz3 rfl rfl rfl rfl (by first | exact M.at_ 0 rfl | exact M.at_ 1 rfl | exact M.at_ 2 rfl | exact M.at_ 3 rfl | exact M.at_ 4 rfl | exact M.at_ 5 rfl) rfl rfl rfl ?_ -- st1 cache.go:180
  intro wst1 hwst1
  have M := M.put 2 rfl hwst1
  have hcx := (h.new M.frm).hc
  refine ⟨trivial, ?_⟩
  refine Ex.done (hK _ _ ?_)
  refine At.then_n ?_
  refine W.seq ?_
  refine W.seq ?_
  refine W.sub [(2, _), (3, _), (4, _), (5, _)] ⟨rfl, rfl, rfl, rfl, trivial⟩ ?_
  refine W.reg [(0, false), (1, false), (2, false), (3, false), (4, true)] (by kernel_rfl) ?_ -- region 4
  intro K hK
  refine x_ld rfl rfl rfl Try.underlying23 rfl rfl (cell_of (by first | exact M.at_ 0 rfl | exact M.at_ 1 rfl | exact M.at_ 2 rfl | exact M.at_ 3 rfl | exact M.at_ 4 rfl | exact M.at_ 5 rfl) rfl) ?_ -- ld2 cache.go:181
  refine x_nil rfl rfl rfl rfl rfl ?_
  refine x_fa rfl rfl rfl fo63_2 rfl ?_
  refine x_ldA [_] rfl rfl rfl Try.underlying60 rfl sz60 rfl rfl ⟨_, _, _, hcx, rfl⟩ ?_ -- ld3 cache.go:181
  -- call2: (valise/cache.ring[valise/cache.block]).all cache.go:181
  refine x_call rfl rfl rfl rfl rfl en32 (all0) ?_
  rintro v w1 ⟨rb, rfl, hrb, M1⟩
  have M := M.grow M1
  refine ⟨trivial, ?_⟩
  refine Ex.done (hK _ _ ?_)
  refine At.then_n ?_
  refine W.block ?_
  refine W.sub [(2, _), (3, _), (4, _), (5, _), (14, _)] ⟨rfl, rfl, rfl, rfl, rfl, trivial⟩ ?_
  refine W.range rfl en41 (fun rr hkt hps has hbdrng1 w2 hw2 => ?_)
  have M := M.range hw2
  have hge : w.heap.size ≤ bbx1 ∧ w.heap.size ≤ bbx2 ∧ w.heap.size ≤ bal1 ∧ w.heap.size ≤ rb ∧ w.heap.size ≤ w1.heap.size := ⟨M.ge 0 rfl, M.ge 1 rfl, M.ge 2 rfl, M.ge 3 rfl, M.ge 4 rfl⟩
  have hcw := h.new M.frm
  have M := M.weak (S' := InC c e r L) (fun _ h => h.elim)
  refine (all1 (J := fun rest w' => ∃ D R, L = D ++ R ∧ rest = ids R ∧ CAt w' c e r bud (notIn D f ++ R) ∧ St (InC c e r L) w [(bbx1, .cells [ptr c].toArray 23 (0, 0)), (bbx2, .cells [.string f].toArray 9 (0, 0)), (bal1, .cells [.int .i64 ((D.length - (notIn D f).length : Nat) : Int)].toArray 3 (0, 0)), (rb, .cells [ptr e].toArray 60 (0, 0)), (w1.heap.size, .deferred (some [])), (w1.heap.size + 1, .loop { rr with state := .ready, pending := none })] w') (Jx := fun _ => False) (xs := ids L) ?_ ⟨[], L, rfl, rfl, hcw, M⟩ (cell_of hcw.ring.end_at rfl) ?_).mono ?_
  · rintro rest w' ⟨D, R, hL, rfl, hcat, M⟩
    exact ⟨M.at_ 3 rfl, hcat.stepF⟩
  · rintro x rest w' ⟨D, R, hL, hR, hcat, M⟩
    obtain ⟨nd, R2, rfl, rfl, rfl⟩ := ids_cons hR
    have hL2 : L = (D ++ [nd]) ++ R2 := by rw [hL]; simp
    have hsub : ∀ b ∈ fp c e r (notIn D f ++ nd :: R2), b < w.heap.size ∧ b ∈ fp c e r L := fun b hb => by
      have := fp_sub (L := L) (fun n hn => by rw [hL]; simp only [List.mem_append] at hn ⊢; exact hn.imp notIn_mem id) b hb
      exact ⟨h.lt b this, this⟩
    have hno : ∀ b, w.heap.size ≤ b → b ∉ fp c e r (notIn D f ++ nd :: R2) := fun b h1 h2 => absurd (hsub b h2).1 (by omega)
    have hDl : D.length ≤ 1000000 := by rw [hL] at hlen; simp at hlen; omega
    have hDn := notIn_len D f
    refine Yld.one (M.at_ 5 rfl) hkt hps rfl has ?_
    refine W.sub [(2, _), (3, _), (4, _), (5, _), (15, _)] ⟨rfl, rfl, rfl, rfl, rfl, trivial⟩ ?_
    refine W.reg [(0, false)] (by kernel_rfl) ?_ -- region 5
    intro K hK
    refine x_assign rfl rfl rfl rfl ?_
    refine Ex.done (hK _ _ ?_)
    refine At.asg hbdrng1 (M.at_ 5 rfl) ?_
    generalize hwb : World.putObj _ _ _ = wb
    have M := M.put 5 rfl hwb.symm
    have hcat := hcat.put (hno _ (by omega)) hwb.symm
    refine W.block ?_
    refine W.seq ?_
    refine W.sub [(2, _), (3, _), (4, _), (5, _), (6, _)] ⟨rfl, rfl, rfl, rfl, rfl, trivial⟩ ?_
    refine W.regD (by kernel_rfl) #[0, 1, 3, 7, 15, 31, 0, 127] [(0, false), (1, false), (2, false), (3, false), (4, false), (5, false), (6, false), (7, false)] (by kernel_rfl) ?_ -- region 6
    intro K wD1 hK hwD1
    have M := M.drew hwD1
    have hcat := hcat.drw hwD1
    have hnode := hcat.ring.node_at.1
    unfold nodeO at hnode
    refine x_move rfl rfl rfl rfl ?_
    refine x_nil rfl rfl rfl rfl rfl ?_
    refine x_fa rfl rfl rfl fo70_0 rfl ?_
    refine x_fa rfl rfl rfl fo67_0 rfl ?_
    refine x_fa rfl rfl rfl fo29_0 rfl ?_
    refine x_ld rfl rfl rfl Try.underlying9 rfl rfl (cell_of hnode rfl) ?_ -- ld4 cache.go:182
    refine x_ld rfl rfl rfl Try.underlying9 rfl rfl (cell_of (by first | exact M.at_ 0 rfl | exact M.at_ 1 rfl | exact M.at_ 2 rfl | exact M.at_ 3 rfl | exact M.at_ 4 rfl | exact M.at_ 5 rfl) rfl) ?_ -- ld5 cache.go:182
    refine x_eqs _ rfl rfl rfl rfl rfl rfl ?_ -- eq1 cache.go:182
    refine Ex.done (hK _ _ ?_)
    refine At.then_n ?_
    refine W.cond rfl (fun hco2 => ?_) (fun hco2 => ?_) -- co2
    · have hf : nd.f = f := ba_inj (by simpa using hco2)
      refine W.seq ?_
      refine W.sub [(2, _), (4, _), (5, _), (6, _)] ⟨rfl, rfl, rfl, rfl, trivial⟩ ?_
      refine W.reg [(0, false), (1, false), (2, true)] (by kernel_rfl) ?_ -- region 7
      intro K hK
      refine x_ld rfl rfl rfl Try.underlying23 rfl rfl (cell_of (by first | exact M.at_ 0 rfl | exact M.at_ 1 rfl | exact M.at_ 2 rfl | exact M.at_ 3 rfl | exact M.at_ 4 rfl | exact M.at_ 5 rfl) rfl) ?_ -- ld6 cache.go:183
      refine x_move rfl rfl rfl rfl ?_
      -- call3: (*valise/cache.Cache).gone cache.go:183
      refine x_call rfl rfl rfl rfl rfl en31 (gone_c hcat) ?_
      rintro v w5 ⟨rfl, hcat, hF⟩
      have M := M.call' hF (by
        intro x hx hb
        have := hsub _ hb
        simp at hx; rcases hx with rfl | rfl | rfl | rfl | rfl | rfl <;> (simp only at this; omega)) (fun b hb => .inl (hsub b hb).2)
      have hno : ∀ b, w.heap.size ≤ b → b ∉ fp c e r (notIn D f ++ R2) := fun b h1 h2 => hno b h1 (fp_sub (fun n hn => by simp only [List.mem_append, List.mem_cons] at hn ⊢; exact hn.imp id .inr) b h2)
      have hnf : notIn (D ++ [nd]) f = notIn D f := by rw [notIn_app]; simp [notIn, hf]
      refine ⟨trivial, ?_⟩
      refine Ex.done (hK _ _ ?_)
      refine At.then_n ?_
      refine W.sub [(4, _), (5, _)] ⟨rfl, rfl, trivial⟩ ?_
      refine W.reg [(0, false), (1, false), (2, true)] (by kernel_rfl) ?_ -- region 8
      intro K hK
      refine x_ld rfl rfl rfl Try.underlying3 rfl rfl (cell_of (by first | exact M.at_ 0 rfl | exact M.at_ 1 rfl | exact M.at_ 2 rfl | exact M.at_ 3 rfl | exact M.at_ 4 rfl | exact M.at_ 5 rfl) rfl) ?_ -- ld7 cache.go:184
      refine x_add (((D ++ [nd]).length - (notIn (D ++ [nd]) f).length : Nat) : Int) rfl rfl rfl rfl rfl (by rw [hnf, wrap64_id (by omega) (by omega)]; simp; omega) ?_ -- ar1 cache.go:184
      refine x_st [_] _ rfl rfl rfl sz3 rfl rfl rfl rfl (by first | exact M.at_ 0 rfl | exact M.at_ 1 rfl | exact M.at_ 2 rfl | exact M.at_ 3 rfl | exact M.at_ 4 rfl | exact M.at_ 5 rfl) rfl rfl rfl ?_ -- st2 cache.go:184
      intro wst2 hwst2
      have M := M.put 2 rfl hwst2
      have hcat := hcat.put (hno _ (by omega)) hwst2
      refine ⟨trivial, ?_⟩
      refine Ex.done (hK _ _ ?_)
      refine At.blk_n ?_
      refine At.rnd_n (M.at_ 5 rfl) ?_ -- rd1
      exact ⟨true, rfl, fun _ => ⟨D ++ [nd], R2, hL2, rfl, by rw [hnf]; exact hcat.put (hno _ (by omega)) rfl, M.put 5 rfl rfl⟩, fun h => by cases h⟩
    · have hf : nd.f ≠ f := fun e1 => by simp [e1] at hco2
      have hnf : notIn (D ++ [nd]) f = notIn D f ++ [nd] := by rw [notIn_app]; simp [notIn, hf]
      refine W.skip ?_
      refine At.blk_n ?_
      refine At.rnd_n (M.at_ 5 rfl) ?_ -- rd2
      refine ⟨true, rfl, fun _ => ⟨D ++ [nd], R2, hL2, rfl, ?_, ?_⟩, fun h => by cases h⟩
      · rw [hnf, List.append_assoc]; exact hcat.put (hno _ (by omega)) rfl
      · have e1 : (D ++ [nd]).length - (notIn (D ++ [nd]) f).length = D.length - (notIn D f).length := by rw [hnf]; simp
        rw [e1]; exact M.put 5 rfl rfl
  · rintro v w3 ⟨rfl, ⟨D, R, hL, hR, hcat, M⟩ | hx⟩
    · have hRn := ids_nil hR
      subst hRn
      rw [List.append_nil] at hL hcat
      subst hL
      have hno : ∀ b, w.heap.size ≤ b → b ∉ fp c e r (notIn L f) := fun b h1 h2 => absurd (h.lt b (fp_sub (fun n hn => notIn_mem hn) b h2)) (by omega)
      refine .inl ⟨.ready, by simp, M.at_ 5 rfl, ?_⟩
      generalize hwx : World.putObj _ _ _ = w4
      have M := M.put 5 rfl hwx.symm
      have hcat := hcat.put (hno _ (by omega)) hwx.symm
      refine At.blk_n ?_
      refine At.then_n ?_
      refine W.seq ?_
      refine W.sub [(4, _), (5, _)] ⟨rfl, rfl, trivial⟩ ?_
      refine W.reg [(0, false), (1, false)] (by kernel_rfl) ?_ -- region 9
      intro K hK
      refine x_ld rfl rfl rfl Try.underlying3 rfl rfl (cell_of (by first | exact M.at_ 0 rfl | exact M.at_ 1 rfl | exact M.at_ 2 rfl | exact M.at_ 3 rfl | exact M.at_ 4 rfl | exact M.at_ 5 rfl) rfl) ?_ -- ld8 cache.go:187
      refine x_assign rfl rfl rfl rfl ?_
      refine Ex.done (hK _ _ ?_)
      refine At.then_n ?_
      refine W.ret ?_
      refine At.mark (M.at_ 4 rfl) ?_
      generalize hwy : World.putObj _ _ _ = w5
      have M := M.put 4 rfl hwy.symm
      have hcat := hcat.put (hno _ (by omega)) hwy.symm
      refine At.ret1 (.tmp 4) rfl ⟨rfl, trivial⟩ ?_ -- ret1
      exact ⟨rfl, hcat, M.frm⟩
    · exact hx.elim
end Go.Proofs.Ytbbccdcjhoecpaa

namespace Go.Proofs.Ytbbccdcjhoecpaa
open Go Go.Fw Go.RowKit Go.Proofs

-- (*valise/cache.Cache).held
set_option maxRecDepth 100000 in
theorem held_c {w : World} {c e r : Nat} {bud : Int} {L : List Nd} {k : Key} (h : CAt w c e r bud L) : Ret Try.prog 26 #[ptr c, encK k] w fun v w' => v = .int .i64 (heldOf L k) ∧ New w w' := by
  have M : St None' w [] w := Frm.refl _ _
  refine Ret.of_W Try.func26 rfl Try.ntmps26 rfl ?_
  refine W.seq ?_
  refine W.sub [(0, _), (1, _)] ⟨rfl, rfl, trivial⟩ ?_
  refine W.reg [(0, true), (1, false)] (by kernel_rfl) ?_ -- region 0
  intro K hK
  refine x_box [_, _] rfl rfl rfl rfl rfl ?_ -- bx1 cache.go:113
  intro bbx1 wbx1 hbbx1 hwbx1
  have M := M.alloc hbbx1 hwbx1
  refine ⟨trivial, ?_⟩
  refine x_assign rfl rfl rfl rfl ?_
  refine Ex.done (hK _ _ ?_)
  refine At.then_n ?_
  refine W.seq ?_
  refine W.sub [(0, _), (3, _), (4, _)] ⟨rfl, rfl, rfl, trivial⟩ ?_
  refine W.reg [(0, true), (1, true)] (by kernel_rfl) ?_ -- region 1
  intro K hK
  refine x_alloc [_] rfl rfl rfl ze3 rfl ?_ -- al1 cache.go:114
  intro bal1 wal1 hbal1 hwal1
  have M := M.alloc hbal1 hwal1
  refine ⟨trivial, ?_⟩
  refine x_st [_] _ rfl rfl rfl sz3 rfl rfl rfl rfl (by first | exact M.at_ 0 rfl | exact M.at_ 1 rfl | exact M.at_ 2 rfl | exact M.at_ 3 rfl | exact M.at_ 4 rfl | exact M.at_ 5 rfl) rfl rfl rfl ?_ -- st1 cache.go:114
  intro wst1 hwst1
  have M := M.put 1 rfl hwst1
  have hcx := (h.new M.frm).hc
  refine ⟨trivial, ?_⟩
  refine Ex.done (hK _ _ ?_)
  refine At.then_n ?_
  refine W.seq ?_
  refine W.seq ?_
  refine W.sub [(0, _), (3, _), (4, _), (5, _)] ⟨rfl, rfl, rfl, rfl, trivial⟩ ?_
  refine W.reg [(0, false), (1, false), (2, false), (3, false), (4, true)] (by kernel_rfl) ?_ -- region 2
  intro K hK
  refine x_move rfl rfl rfl rfl ?_
  refine x_nil rfl rfl rfl rfl rfl ?_
  refine x_fa rfl rfl rfl fo63_2 rfl ?_
  refine x_ldA [_] rfl rfl rfl Try.underlying60 rfl sz60 rfl rfl ⟨_, _, _, hcx, rfl⟩ ?_ -- ld1 cache.go:115
  -- call1: (valise/cache.ring[valise/cache.block]).all cache.go:115
  refine x_call rfl rfl rfl rfl rfl en32 (all0) ?_
  rintro v w1 ⟨rb, rfl, hrb, M1⟩
  have M := M.grow M1
  refine ⟨trivial, ?_⟩
  refine Ex.done (hK _ _ ?_)
  refine At.then_n ?_
  refine W.block ?_
  refine W.sub [(3, _), (4, _), (5, _), (11, _)] ⟨rfl, rfl, rfl, rfl, trivial⟩ ?_
  refine W.range rfl en41 (fun rr hkt hps has hbdrng1 w2 hw2 => ?_)
  have M := M.range hw2
  refine (all1 (J := fun rest w' => ∃ A R, L = A ++ R ∧ rest = ids R ∧ St None' w [(bbx1, .cells [.string k.1, .int .i64 k.2].toArray 29 (0, 0)), (bal1, .cells [.int .i64 (heldOf A k)].toArray 3 (0, 0)), (rb, .cells [ptr e].toArray 60 (0, 0)), (w1.heap.size, .deferred (some [])), (w1.heap.size + 1, .loop { rr with state := .ready, pending := none })] w') (Jx := fun _ => False) (xs := ids L) ?_ ⟨[], L, rfl, rfl, M⟩ (cell_of (h.new M.frm).ring.end_at rfl) ?_).mono ?_
  · rintro rest w' ⟨A, R, hL, rfl, M⟩
    have hcat := h.new M.frm
    refine ⟨M.at_ 2 rfl, okBlk_end hcat.ring.end_at, ?_⟩
    intro x r2 hx
    cases R with
    | nil => cases hx
    | cons nd R2 =>
      cases hx
      rw [hL] at hcat
      obtain ⟨g1, g2⟩ := hcat.ring.node_at
      exact ⟨g2, okBlk_node g1, cell_of g1 rfl⟩
  · rintro x rest w' ⟨A, R, hL, hR, M⟩
    obtain ⟨nd, R2, rfl⟩ : ∃ nd R2, R = nd :: R2 := by cases R with | nil => cases hR | cons a b => exact ⟨a, b, rfl⟩
    cases hR
    have hcat := h.new M.frm
    rw [hL] at hcat
    have hap : heldOf (A ++ [nd]) k = heldOf A k + if 0 < nd.pins ∧ nd.key ≠ k then (nd.b.length : Int) else 0 := by simp [heldOf]
    have hbd := held_le L k
    have hbd2 := h.sz
    have hle : heldOf (A ++ [nd]) k ≤ heldOf L k ∧ 0 ≤ heldOf A k := by
      have e1 : heldOf L k = heldOf (A ++ [nd]) k + heldOf R2 k := by rw [hL]; simp [heldOf]; omega
      have := held_le R2 k; have := held_le A k; omega
    have hL2 : L = (A ++ [nd]) ++ R2 := by rw [hL]; simp
    obtain ⟨p, cap, hsv⟩ := (hcat.bs nd (by simp)).shape
    refine Yld.one (M.at_ 4 rfl) hkt hps rfl has ?_
    refine W.sub [(3, _), (4, _), (5, _), (12, _)] ⟨rfl, rfl, rfl, rfl, trivial⟩ ?_
    refine W.reg [(0, false)] (by kernel_rfl) ?_ -- region 3
    intro K hK
    refine x_assign rfl rfl rfl rfl ?_
    refine Ex.done (hK _ _ ?_)
    refine At.asg hbdrng1 (M.at_ 4 rfl) ?_
    generalize hwb : World.putObj _ _ _ = wb
    have M := M.put 4 rfl hwb.symm
    have hcat := h.new M.frm
    rw [hL] at hcat
    have hnode := hcat.ring.node_at.1
    unfold nodeO at hnode
    rw [hsv] at hnode
    refine W.block ?_
    refine W.seq ?_
    refine W.sub [(3, _), (4, _), (5, _), (6, _)] ⟨rfl, rfl, rfl, rfl, trivial⟩ ?_
    refine W.regD (by kernel_rfl) #[0, 1, 3, 7, 15, 31, 63, 127, 255, 511, 1023, 2047, 127, 8191, 16383] [(0, false), (1, false), (2, false), (3, false), (4, false), (5, false), (6, false), (7, false), (8, false), (9, false), (10, false), (11, false), (12, false), (13, false), (14, false)] (by kernel_rfl) ?_ -- region 4
    intro K wD1 hK hwD1
    have M := M.drew hwD1
    have hnode := (hp_drew hwD1 nd.id).trans hnode
    refine x_move rfl rfl rfl rfl ?_
    refine x_nil rfl rfl rfl rfl rfl ?_
    refine x_fa rfl rfl rfl fo70_0 rfl ?_
    refine x_fa rfl rfl rfl fo67_2 rfl ?_
    refine x_ld rfl rfl rfl Try.underlying3 rfl rfl (cell_of hnode rfl) ?_ -- ld2 cache.go:116
    refine x_gtr _ rfl rfl rfl rfl rfl rfl ?_ -- cm1 cache.go:116
    refine x_move rfl rfl rfl rfl ?_
    refine Ex.split 19 rfl (fun hsp1 => ?_) (fun hsp1 => ?_)
    · -- sp1 True
      refine x_move rfl rfl rfl rfl ?_
      refine x_nil rfl rfl rfl rfl rfl ?_
      refine x_fa rfl rfl rfl fo70_0 rfl ?_
      refine x_fa rfl rfl rfl fo67_0 rfl ?_
      refine x_ldA [_, _] rfl rfl rfl Try.underlying29 rfl sz29 rfl rfl ⟨_, _, _, hnode, rfl⟩ ?_ -- ld3 cache.go:116
      refine x_ldA [_, _] rfl rfl rfl Try.underlying29 rfl sz29 rfl rfl ⟨_, _, _, (by first | exact M.at_ 0 rfl | exact M.at_ 1 rfl | exact M.at_ 2 rfl | exact M.at_ 3 rfl | exact M.at_ 4 rfl | exact M.at_ 5 rfl), rfl⟩ ?_ -- ld4 cache.go:116
      refine x_bin (v := .bool (!decide (nd.key = k))) rfl rfl rfl rfl rfl (run_ne_key nd.key k _ _) ?_ -- eq1 cache.go:116
      refine x_pickT rfl rfl rfl rfl rfl ?_
      refine Ex.done (hK _ _ ?_)
      refine At.then_n ?_
      refine W.cond rfl (fun hco1 => ?_) (fun hco1 => ?_) -- co1
      · refine W.sub [(4, _), (5, _), (6, _)] ⟨rfl, rfl, rfl, trivial⟩ ?_
        refine W.regD (by kernel_rfl) #[0, 0, 2, 6, 14, 30, 62, 127, 255] [(0, false), (1, false), (2, false), (3, false), (4, false), (5, false), (6, false), (7, false), (8, true)] (by kernel_rfl) ?_ -- region 5
        intro K wD2 hK hwD2
        have M := M.drew hwD2
        have hnode := (hp_drew hwD2 nd.id).trans hnode
        refine x_ld rfl rfl rfl Try.underlying3 rfl rfl (cell_of (by first | exact M.at_ 0 rfl | exact M.at_ 1 rfl | exact M.at_ 2 rfl | exact M.at_ 3 rfl | exact M.at_ 4 rfl | exact M.at_ 5 rfl) rfl) ?_ -- ld5 cache.go:117
        refine x_move rfl rfl rfl rfl ?_
        refine x_nil rfl rfl rfl rfl rfl ?_
        refine x_fa rfl rfl rfl fo70_0 rfl ?_
        refine x_fa rfl rfl rfl fo67_1 rfl ?_
        refine x_ld rfl rfl rfl Try.underlying31 rfl rfl (cell_of hnode rfl) ?_ -- ld6 cache.go:117
        refine x_len rfl rfl rfl rfl Try.underlying31 rfl ?_
        refine x_add (heldOf (A ++ [nd]) k) rfl rfl rfl rfl rfl (by simp at hsp1 hco1; rw [hap, if_pos ⟨hsp1, hco1⟩, wrap64_id (by omega) (by rw [hap, if_pos ⟨hsp1, hco1⟩] at hle; omega)]) ?_ -- ar1 cache.go:117
        refine x_st [_] _ rfl rfl rfl sz3 rfl rfl rfl rfl (by first | exact M.at_ 0 rfl | exact M.at_ 1 rfl | exact M.at_ 2 rfl | exact M.at_ 3 rfl | exact M.at_ 4 rfl | exact M.at_ 5 rfl) rfl rfl rfl ?_ -- st2 cache.go:117
        intro wst2 hwst2
        have M := M.put 1 rfl hwst2
        refine ⟨⟨.inl (by kernel_rfl), .inl (by kernel_rfl), trivial⟩, ?_⟩
        refine Ex.done (hK _ _ ?_)
        refine At.blk_n ?_
        refine At.rnd_n (M.at_ 4 rfl) ?_ -- rd1
        exact ⟨true, rfl, fun _ => ⟨A ++ [nd], R2, hL2, rfl, M.put 4 rfl rfl⟩, fun h => by cases h⟩
      · refine W.skip ?_
        refine At.blk_n ?_
        refine At.rnd_n (M.at_ 4 rfl) ?_ -- rd2
        have he : heldOf (A ++ [nd]) k = heldOf A k := by simp at hsp1 hco1; rw [hap, if_neg (by simp [hco1])]; omega
        exact ⟨true, rfl, fun _ => ⟨A ++ [nd], R2, hL2, rfl, by rw [he]; exact M.put 4 rfl rfl⟩, fun h => by cases h⟩
    · -- sp1 False
      refine Ex.skip_ rfl rfl rfl ?_
      refine Ex.skip_ rfl rfl rfl ?_
      refine Ex.skip_ rfl rfl rfl ?_
      refine Ex.skip_ rfl rfl rfl ?_
      refine Ex.skip_ rfl rfl rfl ?_
      refine Ex.skip_ rfl rfl rfl ?_
      refine Ex.skip_ rfl rfl rfl ?_
      refine x_pickF rfl rfl rfl rfl rfl ?_
      refine Ex.done (hK _ _ ?_)
      refine At.then_n ?_
      refine W.condF rfl ?_ -- co2
      refine W.skip ?_
      refine At.blk_n ?_
      refine At.rnd_n (M.at_ 4 rfl) ?_ -- rd3
      have he : heldOf (A ++ [nd]) k = heldOf A k := by simp at hsp1; rw [hap, if_neg (by omega)]; omega
      exact ⟨true, rfl, fun _ => ⟨A ++ [nd], R2, hL2, rfl, by rw [he]; exact M.put 4 rfl rfl⟩, fun h => by cases h⟩
  · rintro v w3 ⟨rfl, ⟨A, R, hL, hR, M⟩ | hx⟩
    · have hRn : R = [] := by cases R with | nil => rfl | cons a b => cases hR
      subst hRn
      rw [List.append_nil] at hL
      subst hL
      refine .inl ⟨.ready, by simp, M.at_ 4 rfl, ?_⟩
      generalize hwx : World.putObj _ _ _ = w4
      have M := M.put 4 rfl hwx.symm
      refine At.blk_n ?_
      refine At.then_n ?_
      refine W.seq ?_
      refine W.sub [(4, _), (5, _)] ⟨rfl, rfl, trivial⟩ ?_
      refine W.reg [(0, false), (1, false)] (by kernel_rfl) ?_ -- region 6
      intro K hK
      refine x_ld rfl rfl rfl Try.underlying3 rfl rfl (cell_of (by first | exact M.at_ 0 rfl | exact M.at_ 1 rfl | exact M.at_ 2 rfl | exact M.at_ 3 rfl | exact M.at_ 4 rfl | exact M.at_ 5 rfl) rfl) ?_ -- ld7 cache.go:120
      refine x_assign rfl rfl rfl rfl ?_
      refine Ex.done (hK _ _ ?_)
      refine At.then_n ?_
      refine W.ret ?_
      refine At.mark (M.at_ 3 rfl) ?_
      generalize hwy : World.putObj _ _ _ = w5
      have M := M.put 3 rfl hwy.symm
      refine At.ret1 (.tmp 4) rfl ⟨rfl, trivial⟩ ?_ -- ret1
      exact ⟨rfl, M.frm⟩
    · exact hx.elim
end Go.Proofs.Ytbbccdcjhoecpaa

namespace Go.Proofs.Ytbbccdcjhoecpaa
open Go Go.Fw Go.RowKit Go.Proofs
set_option linter.unusedVariables false
set_option linter.unusedSimpArgs false

theorem CAt.added {w w' : World} {c e r : Nat} {bud : Int} {L : List Nd} {l : Nd} {o2 : Obj} {g : Key → Option Value} (h : CAt w c e r bud L) (hb : l.b = []) (hsv : l.sv = .slice none 0 0) (hid : l.id ∉ fp c e r L) (hk : ∀ n ∈ L, n.key ≠ l.key)
    (hr : Ring w' e (l :: L)) (ho : w'.heap[r]? = some o2) (hm : MapF encK o2 (setF g l.key (some (ptr l.id)))) (hg : ∀ k v, g k = some v ↔ ∃ n ∈ L, n.key = k ∧ v = ptr n.id) (hs : ∀ b, b = c ∨ b ∈ blks L → w'.heap[b]? = w.heap[b]?) : CAt w' c e r bud (l :: L) := by
  have htot : tot (l :: L) = tot L := by rw [tot_cons, hb]; simp
  have hblks : blks (l :: L) = blks L := by simp [blks, hsv, blkOf]
  refine ⟨by rw [hs c (.inl rfl), htot]; exact h.hc, hr, ⟨o2, _, ho, hm, fun k v => ?_⟩, fun n hn => ?_, ?_, ?_, fun n hn => ?_, by rw [htot]; exact h.sz⟩
  · unfold setF
    by_cases e1 : k = l.key
    · subst e1
      simp only [if_true, Option.some.injEq]
      constructor
      · rintro rfl; exact ⟨l, by simp, rfl, rfl⟩
      · rintro ⟨n, hn, h1, rfl⟩
        rcases List.mem_cons.1 hn with rfl | hn
        · rfl
        · exact absurd h1 (hk n hn)
    · rw [if_neg e1, hg]
      constructor
      · rintro ⟨n, hn, h1, h2⟩; exact ⟨n, List.mem_cons_of_mem _ hn, h1, h2⟩
      · rintro ⟨n, hn, h1, h2⟩
        rcases List.mem_cons.1 hn with rfl | hn
        · exact absurd h1.symm e1
        · exact ⟨n, hn, h1, h2⟩
  · rcases List.mem_cons.1 hn with rfl | hn
    · exact .inl ⟨hsv, by simp [hb], by simp [hb]⟩
    · exact (h.bs n hn).same fun b hb => hs b (.inr (mem_blks hn hb))
  · have : (fp c e r (l :: L)).Perm (l.id :: fp c e r L) := by
      unfold fp
      rw [hblks]
      exact (((List.Perm.swap l.id r _).cons e).cons c).trans (((List.Perm.swap l.id e _).cons c).trans (List.Perm.swap l.id c _))
    rw [this.nodup_iff, List.nodup_cons]
    exact ⟨hid, h.nd⟩
  · simp only [List.map_cons, List.nodup_cons]
    refine ⟨fun hm => ?_, h.keys⟩
    obtain ⟨n, hn, h1⟩ := List.mem_map.1 hm
    exact hk n hn h1
  · rcases List.mem_cons.1 hn with rfl | hn
    · simp [hb]
    · exact h.len n hn

theorem fp_reblock {c e r : Nat} {A B : List Nd} {l l2 : Nd} (hi : l2.id = l.id) (h : (fp c e r (A ++ l :: B)).Nodup) (hb : ∀ g, blkOf l2.sv = some g → g ∉ fp c e r (A ++ l :: B)) : (fp c e r (A ++ l2 :: B)).Nodup := by
  have h1 := (perm_fp (mid_perm A B l)).nodup_iff.1 h
  rw [(perm_fp (mid_perm A B l2)).nodup_iff]
  have h2 : (c :: e :: r :: (l.id :: ids (A ++ B) ++ blks (A ++ B))).Nodup := by
    refine h1.sublist ?_
    unfold fp
    refine List.Sublist.cons_cons _ (List.Sublist.cons_cons _ (List.Sublist.cons_cons _ (List.Sublist.append (List.Sublist.refl _) ?_)))
    simp only [blks, List.filterMap_cons]
    split
    · exact List.Sublist.refl _
    · exact List.sublist_cons_self _ _
  have e1 : fp c e r (l2 :: (A ++ B)) = c :: e :: r :: (l.id :: ids (A ++ B) ++ blks (l2 :: (A ++ B))) := by simp [fp, ids, hi]
  rw [e1]
  cases hg : blkOf l2.sv with
  | none =>
    have : blks (l2 :: (A ++ B)) = blks (A ++ B) := by simp [blks, hg]
    rw [this]; exact h2
  | some g =>
    have h3 : blks (l2 :: (A ++ B)) = g :: blks (A ++ B) := by simp [blks, hg]
    rw [h3]
    have hp : (c :: e :: r :: (l.id :: ids (A ++ B) ++ g :: blks (A ++ B))).Perm (g :: (c :: e :: r :: (l.id :: ids (A ++ B) ++ blks (A ++ B)))) := by
      exact List.perm_middle (l₁ := c :: e :: r :: (l.id :: ids (A ++ B)))
    rw [hp.nodup_iff, List.nodup_cons]
    refine ⟨fun hm => hb g hg ?_, h2⟩
    refine (perm_fp (mid_perm A B l)).mem_iff.2 ?_
    simp only [fp, ids, List.map_cons, List.mem_cons, List.mem_append, List.cons_append] at hm ⊢
    rcases hm with hm | hm | hm | hm | hm | hm
    · exact .inl hm
    · exact .inr (.inl hm)
    · exact .inr (.inr (.inl hm))
    · exact .inr (.inr (.inr (.inl hm)))
    · exact .inr (.inr (.inr (.inr (.inl hm))))
    · exact .inr (.inr (.inr (.inr (.inr (by simp only [blks, List.filterMap_cons]; split <;> simp_all [blks])))))

/-- Other bytes. -/
theorem CAt.reblock {w w' : World} {c e r : Nat} {bud : Int} {A B : List Nd} {l l2 : Nd} {sv : Value} {b2 : List UInt8} {a b : Nat} (h : CAt w c e r bud (A ++ l :: B)) (hl2 : l2 = { l with sv := sv, b := b2 })
    (hl : w.heap[l.id]? = some (nodeO l a b)) (hw : w'.heap[l.id]? = some (nodeO l2 a b)) (hc : w'.heap[c]? = some (.cells [.int .i64 bud, .int .i64 (tot (A ++ l2 :: B)), ptr e, .map (some r)].toArray 63 (0, 0)))
    (hbs : BytesAt w' sv b2) (hblk : ∀ g, blkOf sv = some g → g ∉ fp c e r (A ++ l :: B)) (hb2 : b2.length ≤ 4096) (htot : tot (A ++ l2 :: B) ≤ 2097152)
    (hs : ∀ x ∈ fp c e r (A ++ l :: B), x ≠ l.id → x ≠ c → w'.heap[x]? = w.heap[x]?) : CAt w' c e r bud (A ++ l2 :: B) := by
  obtain ⟨ah, nx, hr⟩ := h.ring
  have hi : l2.id = l.id := by rw [hl2]
  have hids : ids (A ++ l2 :: B) = ids (A ++ l :: B) := by simp [ids, hi]
  have hkey : (A ++ l2 :: B).map Nd.key = (A ++ l :: B).map Nd.key := by simp [Nd.key, hl2]
  have hf := fp_facts h.nd
  have hlm : l.id ∈ ids (A ++ l :: B) := mem_ids (by simp)
  have hab : ah l.id = a ∧ nx l.id = b := by
    have := hr.node l (by simp)
    rw [hl] at this
    simp [nodeO, ptr] at this
    exact ⟨this.1.symm, this.2.symm⟩
  have hsub : ∀ x, x = e ∨ x = r ∨ x ∈ ids (A ++ l :: B) ∨ x ∈ blks (A ++ l :: B) → x ∈ fp c e r (A ++ l :: B) := fun x hx => by
    simp only [fp, List.mem_cons, List.mem_append]; rcases hx with hx | hx | hx | hx <;> simp [hx]
  refine ⟨hc, ⟨ah, nx, ?_, ?_, by rw [hids]; exact hr.link, by rw [hids]; exact hr.nd⟩, ?_, ?_, fp_reblock hi h.nd (by rw [hl2]; exact hblk), by rw [hkey]; exact h.keys, ?_, htot⟩
  · rw [hs e (hsub e (.inl rfl)) (fun e1 => hf.2.2.2.2.2.1 (e1 ▸ hlm)) (fun e1 => hf.1 e1.symm)]; exact hr.endb
  · intro n hn
    simp only [List.mem_append, List.mem_cons] at hn
    have old : n ∈ A ++ l :: B → n.id ≠ l.id → w'.heap[n.id]? = some (nodeO n (ah n.id) (nx n.id)) := fun h1 h2 => by
      rw [hs n.id (hsub _ (.inr (.inr (.inl (mem_ids h1))))) h2 (fun e1 => hf.2.2.2.1 (e1 ▸ mem_ids h1))]; exact hr.node n h1
    have hndi := hf.2.2.2.2.2.2.2.2.2.1
    rw [ids_app] at hndi
    rw [List.nodup_append] at hndi
    rcases hn with hn | rfl | hn
    · exact old (by simp [hn]) (fun e1 => hndi.2.2 n.id (mem_ids hn) l.id (by simp [ids]) e1)
    · rw [hi, hw, hab.1, hab.2]
    · refine old (by simp [hn]) (fun e1 => ?_)
      have := hndi.2.1
      simp only [ids, List.map_cons, List.nodup_cons] at this
      exact this.1 (e1 ▸ mem_ids hn)
  · obtain ⟨o, g, ho, hg, hm⟩ := h.mp
    refine ⟨o, g, by rw [hs r (hsub r (.inr (.inl rfl))) (fun e1 => hf.2.2.2.2.2.2.2.1 (e1 ▸ hlm)) (fun e1 => hf.2.1 e1.symm)]; exact ho, hg, fun k v => (hm k v).trans ?_⟩
    constructor
    · rintro ⟨n, hn, h1, h2⟩
      simp only [List.mem_append, List.mem_cons] at hn
      rcases hn with hn | hn | hn
      · exact ⟨n, by simp [hn], h1, h2⟩
      · exact ⟨l2, by simp, by rw [← h1, hn, hl2], by rw [h2, hn, hi]⟩
      · exact ⟨n, by simp [hn], h1, h2⟩
    · rintro ⟨n, hn, h1, h2⟩
      simp only [List.mem_append, List.mem_cons] at hn
      rcases hn with hn | hn | hn
      · exact ⟨n, by simp [hn], h1, h2⟩
      · exact ⟨l, by simp, by rw [← h1, hn, hl2], by rw [h2, hn, hi]⟩
      · exact ⟨n, by simp [hn], h1, h2⟩
  · intro n hn
    simp only [List.mem_append, List.mem_cons] at hn
    have old : n ∈ A ++ l :: B → BytesAt w' n.sv n.b := fun h1 => (h.bs n h1).same fun x hx =>
      hs x (hsub x (.inr (.inr (.inr (mem_blks h1 hx))))) (fun e1 => hf.2.2.2.2.2.2.2.2.2.2.2 l.id hlm (e1 ▸ mem_blks h1 hx)) (fun e1 => hf.2.2.2.2.1 (e1 ▸ mem_blks h1 hx))
    rcases hn with hn | rfl | hn
    · exact old (by simp [hn])
    · rw [hl2]; exact hbs
    · exact old (by simp [hn])
  · intro n hn
    simp only [List.mem_append, List.mem_cons] at hn
    rcases hn with hn | rfl | hn
    · exact h.len n (by simp [hn])
    · rw [hl2]; exact hb2
    · exact h.len n (by simp [hn])

/-- What is let go, from the end on: of a list turned round, those that are looked at yet; those that stay. -/
def evict (bud : Int) : List Nd → List Nd → List Nd
  | [], K => K
  | x :: P, K => if tot ((x :: P).reverse ++ K) ≤ bud then (x :: P).reverse ++ K else if P ≠ [] ∧ x.pins = 0 then evict bud P K else evict bud P (x :: K)

theorem evict_sub (bud : Int) : ∀ (P K : List Nd), ∀ n ∈ evict bud P K, n ∈ P.reverse ++ K
  | [], K, n, h => by simpa [evict] using h
  | x :: P, K, n, h => by
    unfold evict at h
    split at h
    · exact h
    · split at h
      · have := evict_sub bud P K n h
        simp only [List.reverse_cons, List.mem_append, List.mem_singleton] at this ⊢
        rcases this with h1 | h1
        · exact .inl (.inl h1)
        · exact .inr h1
      · have := evict_sub bud P (x :: K) n h
        simpa using this

/-- There is room behind it. -/
theorem evict_le (bud : Int) (l : Nd) : ∀ (P : List Nd) (K : List Nd), (∀ n ∈ P ++ K, 0 ≤ n.pins) → (∀ n ∈ K, 0 < n.pins) → (l.b.length : Int) + ((P ++ K).map fun n => if 0 < n.pins then (n.b.length : Int) else 0).sum ≤ bud → tot (evict bud (P ++ [l]) K) ≤ bud
  | [], K, hp, hK, hle => by
    have e1 : (K.map fun n => if 0 < n.pins then (n.b.length : Int) else 0) = K.map fun n => (n.b.length : Int) := List.map_congr_left fun n hn => by rw [if_pos (hK n hn)]
    simp only [List.nil_append] at hle ⊢
    rw [e1] at hle
    unfold evict
    have ht : tot ([l].reverse ++ K) ≤ bud := by simp only [List.reverse_singleton, List.singleton_append, tot_cons]; exact hle
    rw [if_pos ht]; exact ht
  | x :: P, K, hp, hK, hle => by
    rw [List.cons_append]
    unfold evict
    split
    · assumption
    · split
      · rename_i h1 h2
        refine evict_le bud l P K (fun n hn => hp n (by simp at hn ⊢; exact .inr hn)) hK ?_
        simp only [List.cons_append, List.map_cons, List.sum_cons, h2.2, Int.lt_irrefl, if_false] at hle
        omega
      · rename_i h1 h2
        have hx : 0 < x.pins := by
          have h3 := hp x (by simp)
          have : ¬ x.pins = 0 := fun h4 => h2 ⟨by simp, h4⟩
          omega
        refine evict_le bud l P (x :: K) (fun n hn => hp n (by simp at hn ⊢; rcases hn with h | h | h <;> simp [h])) (fun n hn => ?_) ?_
        · rcases List.mem_cons.1 hn with rfl | hn
          · exact hx
          · exact hK n hn
        · have e2 : ∀ (g : Nd → Int), ((P ++ x :: K).map g).sum = (((x :: P) ++ K).map g).sum := fun g => by
            refine perm_sum (List.Perm.map g ?_)
            exact List.perm_middle
          rw [e2]; exact hle
end Go.Proofs.Ytbbccdcjhoecpaa

namespace Go.Proofs.Ytbbccdcjhoecpaa
open Go Go.Fw Go.RowKit Go.Proofs
set_option linter.unusedVariables false
set_option linter.unusedSimpArgs false

/-- Where a key's block stands, or a new one. -/
def PutAt (L : List Nd) (k : Key) (A B : List Nd) (l : Nd) : Prop :=
  (L = A ++ l :: B ∧ l.key = k) ∨ (A = [] ∧ B = L ∧ l.f = k.1 ∧ l.i = k.2 ∧ l.b = [] ∧ l.sv = .slice none 0 0 ∧ l.pins = 0 ∧ ∀ n ∈ L, n.key ≠ k)

theorem PutAt.tot {L A B : List Nd} {k : Key} {l : Nd} (h : PutAt L k A B l) : tot (A ++ l :: B) = tot L := by
  rcases h with ⟨rfl, _⟩ | ⟨rfl, rfl, _, _, h3, _⟩
  · rfl
  · rw [List.nil_append, tot_cons, h3]; simp

theorem PutAt.key {L A B : List Nd} {k : Key} {l : Nd} (h : PutAt L k A B l) : l.key = k := by
  rcases h with ⟨_, h⟩ | ⟨_, _, h1, h2, _⟩
  · exact h
  · exact Prod.ext h1 h2

theorem tot_mid (A B : List Nd) (l : Nd) : Go.Proofs.Ytbbccdcjhoecpaa.tot (A ++ l :: B) = l.b.length + Go.Proofs.Ytbbccdcjhoecpaa.tot (A ++ B) := by rw [perm_tot (mid_perm A B l), tot_cons]

theorem CAt.okNode {w : World} {c e r : Nat} {bud : Int} {L : List Nd} (h : CAt w c e r bud L) {n : Nd} (hn : n ∈ L) : OkBlk w n.id := by
  obtain ⟨ah, nx, hr⟩ := h.ring
  exact okBlk_node (hr.node n hn)

theorem CAt.id_inj {w : World} {c e r : Nat} {bud : Int} {L : List Nd} (h : CAt w c e r bud L) {P K : List Nd} {n : Nd} (hL : L = P ++ n :: K) : ∀ m ∈ P ++ K, m.id ≠ n.id := by
  have hf := (fp_facts h.nd).2.2.2.2.2.2.2.2.2.1
  rw [hL, (perm_ids (mid_perm P K n)).nodup_iff] at hf
  simp only [ids, List.map_cons, List.nodup_cons] at hf
  intro m hm e1
  exact hf.1 (e1 ▸ List.mem_map.2 ⟨m, hm, rfl⟩)

theorem findK_one (L : List Nd) (k : Key) : ((findK L k).getD (.pointer none)).cells = [(findK L k).getD (.pointer none)].toArray ∧ ((findK L k).getD (.pointer none)).oneCell' = true := by
  unfold findK
  cases L.find? fun n => n.key = k <;> exact ⟨rfl, rfl⟩
end Go.Proofs.Ytbbccdcjhoecpaa

namespace Go.Proofs.Ytbbccdcjhoecpaa
open Go Go.Fw Go.RowKit Go.Proofs

-- (*valise/cache.Cache).Put
set_option maxRecDepth 100000 in
theorem put_c {w : World} {c e r : Nat} {bud : Int} {L : List Nd} {k : Key} {sv : Value} {b : List UInt8} (h : CAt w c e r bud L) (hb : BytesIn w sv b) (hblk : b ≠ [] → ∀ g, blkOf sv = some g → g ∉ fp c e r L) (hlen : b.length ≤ 1099511627776) (hbud : 0 ≤ bud ∧ bud ≤ 1048576) (htot : tot L ≤ bud) :
    Ret Try.prog 10 #[ptr c, encK k, sv] w fun v w' => (4096 < b.length ∧ v = .int .i64 2 ∧ New w w') ∨ (b.length ≤ 4096 ∧ bud < heldOf L k + b.length ∧ v = .int .i64 7 ∧ New w w') ∨
      (b.length ≤ 4096 ∧ heldOf L k + b.length ≤ bud ∧ v = .int .i64 0 ∧ ∃ A B l1 l2, PutAt L k A B l1 ∧ l2.f = k.1 ∧ l2.i = k.2 ∧ l2.pins = l1.pins ∧ l2.b = b ∧ CAt w' c e r bud (evict bud (l2 :: (A ++ B)).reverse []) ∧ Frm (InC c e r L) w w' ∧ ∀ x ∈ fp c e r (l2 :: (A ++ B)), x ∈ fp c e r L ∨ w.heap.size ≤ x) := by
  have M : St None' w [] w := Frm.refl _ _
  obtain ⟨p, cap, rfl⟩ := hb.shape
  have hheld := held_le L k
  have hsz := h.sz
  refine Ret.of_W Try.func10 rfl Try.ntmps10 rfl ?_
  refine W.seq ?_
  refine W.sub [(0, _), (1, _), (2, _)] ⟨rfl, rfl, rfl, trivial⟩ ?_
  refine W.reg [(0, true), (1, true), (2, false)] (by kernel_rfl) ?_ -- region 0
  intro K hK
  refine x_box [_] rfl rfl rfl rfl rfl ?_ -- bx1 cache.go:124
  intro bbx1 wbx1 hbbx1 hwbx1
  have M := M.alloc hbbx1 hwbx1
  refine ⟨trivial, ?_⟩
  refine x_box [_, _] rfl rfl rfl rfl rfl ?_ -- bx2 cache.go:124
  intro bbx2 wbx2 hbbx2 hwbx2
  have M := M.alloc hbbx2 hwbx2
  have hcx := (h.new M.frm).hc
  refine ⟨trivial, ?_⟩
  refine x_assign rfl rfl rfl rfl ?_
  refine Ex.done (hK _ _ ?_)
  refine At.then_n ?_
  refine W.seq ?_
  refine W.block ?_
  refine W.seq ?_
  refine W.sub [(2, _), (3, _), (4, _), (6, _)] ⟨rfl, rfl, rfl, rfl, trivial⟩ ?_
  refine W.reg [(0, false), (1, true), (2, false), (3, false)] (by kernel_rfl) ?_ -- region 1
  intro K hK
  refine x_ld rfl rfl rfl Try.underlying23 rfl rfl (cell_of (by first | exact M.at_ 0 rfl | exact M.at_ 1 rfl | exact M.at_ 2 rfl | exact M.at_ 3 rfl | exact M.at_ 4 rfl | exact M.at_ 5 rfl) rfl) ?_ -- ld1 cache.go:126
  -- call1: (*valise/cache.Cache).made cache.go:126
  refine x_call rfl rfl rfl rfl rfl en25 (made_ok hcx) ?_
  rintro v w1 ⟨rfl, rfl⟩
  refine ⟨trivial, ?_⟩
  refine x_not false rfl rfl rfl rfl rfl ?_ -- un1 cache.go:126
  refine x_assign rfl rfl rfl rfl ?_
  refine Ex.done (hK _ _ ?_)
  refine At.then_n ?_
  refine W.condF rfl ?_ -- co1
  refine W.seq ?_
  refine W.sub [(2, _), (3, _), (4, _), (6, _)] ⟨rfl, rfl, rfl, rfl, trivial⟩ ?_
  refine W.reg [(0, false), (1, false), (2, false), (3, false)] (by kernel_rfl) ?_ -- region 3
  intro K hK
  refine x_move rfl rfl rfl rfl ?_
  refine x_len rfl rfl rfl rfl Try.underlying31 rfl ?_
  refine x_gtr _ rfl rfl rfl rfl rfl rfl ?_ -- cm1 cache.go:128
  refine x_assign rfl rfl rfl rfl ?_
  refine Ex.done (hK _ _ ?_)
  refine At.then_n ?_
  refine W.cond rfl (fun hco2 => ?_) (fun hco2 => ?_) -- co2
  · have hgt : 4096 < b.length := by have := of_decide_eq_true hco2; omega
    refine W.seq ?_
    refine W.sub [(2, _), (3, _), (4, _), (6, _)] ⟨rfl, rfl, rfl, rfl, trivial⟩ ?_
    refine W.reg [(0, false)] (by kernel_rfl) ?_ -- region 4
    intro K hK
    refine x_assign rfl rfl rfl rfl ?_
    refine Ex.done (hK _ _ ?_)
    refine At.then_n ?_
    refine W.ret ?_
    refine At.blk_r ?_
    refine At.then_r ?_
    refine At.ret1 (.tmp 6) rfl ⟨rfl, trivial⟩ ?_ -- ret1
    exact .inl ⟨hgt, rfl, M.frm⟩
  · have hle : b.length ≤ 4096 := by have := of_decide_eq_false hco2; omega
    refine W.seq ?_
    refine W.sub [(2, _), (3, _), (4, _), (6, _)] ⟨rfl, rfl, rfl, rfl, trivial⟩ ?_
    refine W.regD (by kernel_rfl) #[0, 0, 3, 0, 8, 31, 0, 64, 192, 448, 1023, 2047] [(0, false), (1, false), (3, false), (4, false), (6, false), (7, false), (8, false), (9, false), (2, true), (5, false), (10, false), (11, false)] (by kernel_rfl) ?_ -- region 5
    intro K wD1 hK hwD1
    have M := M.drew hwD1
    have hcx := (h.new M.frm).hc
    refine x_ld rfl rfl rfl Try.underlying23 rfl rfl (cell_of (by first | exact M.at_ 0 rfl | exact M.at_ 1 rfl | exact M.at_ 2 rfl | exact M.at_ 3 rfl | exact M.at_ 4 rfl | exact M.at_ 5 rfl) rfl) ?_ -- ld2 cache.go:130
    refine x_ldA [_, _] rfl rfl rfl Try.underlying29 rfl sz29 rfl rfl ⟨_, _, _, (by first | exact M.at_ 0 rfl | exact M.at_ 1 rfl | exact M.at_ 2 rfl | exact M.at_ 3 rfl | exact M.at_ 4 rfl | exact M.at_ 5 rfl), rfl⟩ ?_ -- ld3 cache.go:130
    refine x_move rfl rfl rfl rfl ?_
    refine x_len rfl rfl rfl rfl Try.underlying31 rfl ?_
    refine x_ld rfl rfl rfl Try.underlying23 rfl rfl (cell_of (by first | exact M.at_ 0 rfl | exact M.at_ 1 rfl | exact M.at_ 2 rfl | exact M.at_ 3 rfl | exact M.at_ 4 rfl | exact M.at_ 5 rfl) rfl) ?_ -- ld4 cache.go:130
    refine x_nil rfl rfl rfl rfl rfl ?_
    refine x_fa rfl rfl rfl fo63_0 rfl ?_
    refine x_ld rfl rfl rfl Try.underlying3 rfl rfl (cell_of hcx rfl) ?_ -- ld5 cache.go:130
    -- call2: (*valise/cache.Cache).held cache.go:130
    refine x_call rfl rfl rfl rfl rfl en26 (held_c (h.new M.frm)) ?_
    rintro v w1 ⟨rfl, hn⟩
    have M := M.new hn
    refine ⟨⟨.inr (cell_of (h.new M.frm).hc rfl), .inr (cell_of (by first | exact M.at_ 0 rfl | exact M.at_ 1 rfl | exact M.at_ 2 rfl | exact M.at_ 3 rfl | exact M.at_ 4 rfl | exact M.at_ 5 rfl) rfl), .inl (by kernel_rfl), .inl (by kernel_rfl), trivial⟩, ?_⟩
    refine x_add (heldOf L k + b.length) rfl rfl rfl rfl rfl (wrap64_id (by omega) (by omega)) ?_ -- ar1 cache.go:130
    refine x_gtr _ rfl rfl rfl rfl rfl rfl ?_ -- cm2 cache.go:130
    refine x_assign rfl rfl rfl rfl ?_
    refine Ex.done (hK _ _ ?_)
    refine At.then_n ?_
    refine W.cond rfl (fun hco3 => ?_) (fun hco3 => ?_) -- co3
    · refine W.seq ?_
      refine W.sub [(2, _), (3, _), (4, _), (6, _)] ⟨rfl, rfl, rfl, rfl, trivial⟩ ?_
      refine W.reg [(0, false)] (by kernel_rfl) ?_ -- region 6
      intro K hK
      refine x_assign rfl rfl rfl rfl ?_
      refine Ex.done (hK _ _ ?_)
      refine At.then_n ?_
      refine W.ret ?_
      refine At.blk_r ?_
      refine At.then_r ?_
      refine At.ret1 (.tmp 6) rfl ⟨rfl, trivial⟩ ?_ -- ret2
      exact .inr (.inl ⟨hle, of_decide_eq_true hco3, rfl, M.frm⟩)
    · have hfit : heldOf L k + b.length ≤ bud := by have := of_decide_eq_false hco3; omega
      refine W.skip ?_
      refine At.blk_n ?_
      refine At.then_n ?_
      refine W.seq ?_
      refine W.sub [(2, _), (3, _), (4, _), (6, _)] ⟨rfl, rfl, rfl, rfl, trivial⟩ ?_
      refine W.regD (by kernel_rfl) #[0, 1, 3, 7, 0, 31, 63, 127, 127, 0, 767, 2047] [(0, false), (1, false), (2, false), (3, false), (4, false), (5, false), (6, false), (7, false), (8, false), (9, true), (10, true), (11, false)] (by kernel_rfl) ?_ -- region 7
      intro K wD2 hK hwD2
      have M := M.drew hwD2
      have hcx := (h.new M.frm).hc
      have hlk := (h.new M.frm).look k
      have hfo := findK_one L k
      refine x_ld rfl rfl rfl Try.underlying23 rfl rfl (cell_of (by first | exact M.at_ 0 rfl | exact M.at_ 1 rfl | exact M.at_ 2 rfl | exact M.at_ 3 rfl | exact M.at_ 4 rfl | exact M.at_ 5 rfl) rfl) ?_ -- ld6 cache.go:133
      refine x_nil rfl rfl rfl rfl rfl ?_
      refine x_fa rfl rfl rfl fo63_3 rfl ?_
      refine x_ld rfl rfl rfl Try.underlying61 rfl rfl (cell_of hcx rfl) ?_ -- ld7 cache.go:133
      refine x_ldA [_, _] rfl rfl rfl Try.underlying29 rfl sz29 rfl rfl ⟨_, _, _, (by first | exact M.at_ 0 rfl | exact M.at_ 1 rfl | exact M.at_ 2 rfl | exact M.at_ 3 rfl | exact M.at_ 4 rfl | exact M.at_ 5 rfl), rfl⟩ ?_ -- ld8 cache.go:133
      refine x_lk2 k rfl rfl rfl keyLaw Try.underlying61 ze58 rfl rfl hlk ?_ -- lk1 cache.go:133
      refine x_move rfl rfl rfl rfl ?_
      refine x_ext rfl rfl rfl rfl rfl ?_ -- ex1
      refine x_ext rfl rfl rfl rfl rfl ?_ -- ex2
      refine x_alloc [_] rfl rfl rfl ze58 rfl ?_ -- al1 cache.go:133
      intro bal1 wal1 hbal1 hwal1
      have M := M.alloc hbal1 hwal1
      refine ⟨⟨.inr (hlk.alloc hwal1), .inr ⟨_, _, _, (by first | exact M.at_ 0 rfl | exact M.at_ 1 rfl | exact M.at_ 2 rfl | exact M.at_ 3 rfl | exact M.at_ 4 rfl | exact M.at_ 5 rfl), rfl⟩, .inr (cell_of (h.new M.frm).hc rfl), .inr (cell_of (by first | exact M.at_ 0 rfl | exact M.at_ 1 rfl | exact M.at_ 2 rfl | exact M.at_ 3 rfl | exact M.at_ 4 rfl | exact M.at_ 5 rfl) rfl), trivial⟩, ?_⟩
      refine x_st [_] _ rfl rfl rfl sz58 rfl rfl hfo.1 (by simp [hfo.2]) (by first | exact M.at_ 0 rfl | exact M.at_ 1 rfl | exact M.at_ 2 rfl | exact M.at_ 3 rfl | exact M.at_ 4 rfl | exact M.at_ 5 rfl) rfl rfl rfl ?_ -- st1 cache.go:133
      intro wst1 hwst1
      have M := M.put 2 rfl hwst1
      have hge : w.heap.size ≤ bbx1 ∧ w.heap.size ≤ bbx2 ∧ w.heap.size ≤ bal1 := ⟨M.ge 0 rfl, M.ge 1 rfl, M.ge 2 rfl⟩
      refine ⟨⟨.inl (by kernel_rfl), .inl (by kernel_rfl), .inl (by kernel_rfl), .inl (by kernel_rfl), trivial⟩, ?_⟩
      refine x_assign rfl rfl rfl rfl ?_
      refine Ex.done (hK _ _ ?_)
      refine At.then_n ?_
      refine W.sub [(2, _), (3, _), (4, _), (6, _), (7, _), (8, _)] ⟨rfl, rfl, rfl, rfl, rfl, rfl, trivial⟩ ?_
      refine W.seqC (fun F' w' => ∃ A B l1, PutAt L k A B l1 ∧ CAt w' c e r bud (A ++ l1 :: B) ∧ (∀ x ∈ fp c e r (A ++ l1 :: B), x ∈ fp c e r L ∨ (w.heap.size ≤ x ∧ x ≠ bbx1 ∧ x ≠ bbx2 ∧ x ≠ bal1)) ∧ St (InC c e r L) w [(bbx1, .cells [ptr c].toArray 23 (0, 0)), (bbx2, .cells [.string k.1, .int .i64 k.2].toArray 29 (0, 0)), (bal1, .cells [ptr l1.id].toArray 58 (0, 0))] w' ∧ F' = [(2, .slice p b.length cap), (3, ptr bbx1), (6, .int .i64 0), (7, ptr bal1)]) ?_ ?_ -- cut 8
      · refine W.seq ?_
        refine W.sub [(2, _), (3, _), (4, _), (6, _), (7, _), (8, _)] ⟨rfl, rfl, rfl, rfl, rfl, rfl, trivial⟩ ?_
        refine W.reg [(0, false), (1, false)] (by kernel_rfl) ?_ -- region 8
        intro K hK
        refine x_move rfl rfl rfl rfl ?_
        refine x_not _ rfl rfl rfl rfl rfl ?_ -- un2 cache.go:134
        refine Ex.done (hK _ _ ?_)
        refine At.then_n ?_
        refine W.cond rfl (fun hco4 => ?_) (fun hco4 => ?_) -- co4
        · have hno : (findK L k).isSome = false := by simpa using hco4
          obtain ⟨hnk, _⟩ := findK_none hno
          refine W.seq ?_
          refine W.sub [(2, _), (3, _), (4, _), (6, _), (7, _)] ⟨rfl, rfl, rfl, rfl, rfl, trivial⟩ ?_
          refine W.reg [(0, false), (1, false), (2, false), (3, true), (4, true)] (by kernel_rfl) ?_ -- region 9
          intro K hK
          refine x_ldA [_, _] rfl rfl rfl Try.underlying29 rfl sz29 rfl rfl ⟨_, _, _, (by first | exact M.at_ 0 rfl | exact M.at_ 1 rfl | exact M.at_ 2 rfl | exact M.at_ 3 rfl | exact M.at_ 4 rfl | exact M.at_ 5 rfl), rfl⟩ ?_ -- ld9 cache.go:135
          refine x_build [_, _, _, _] rfl rfl rfl pl67 ze67 rfl rfl rfl ?_ -- bu1 cache.go:135
          refine x_build [_, _, _, _, _, _] rfl rfl rfl pl70 ze70 rfl rfl rfl ?_ -- bu2 cache.go:135
          refine x_box [_, _, _, _, _, _] rfl rfl rfl rfl rfl ?_ -- bx3 cache.go:135
          intro bbx3 wbx3 hbbx3 hwbx3
          have M := M.alloc hbbx3 hwbx3
          let l1 : Nd := ⟨bbx3, k.1, k.2, .slice none 0 0, [], 0⟩
          refine ⟨trivial, ?_⟩
          refine x_st [_] _ rfl rfl rfl sz58 rfl rfl rfl rfl (by first | exact M.at_ 0 rfl | exact M.at_ 1 rfl | exact M.at_ 2 rfl | exact M.at_ 3 rfl | exact M.at_ 4 rfl | exact M.at_ 5 rfl) rfl rfl rfl ?_ -- st2 cache.go:135
          intro wst2 hwst2
          have M := M.put 2 rfl hwst2
          refine ⟨trivial, ?_⟩
          refine Ex.done (hK _ _ ?_)
          refine At.then_n ?_
          refine W.seq ?_
          refine W.sub [(2, _), (3, _), (4, _), (6, _), (7, _)] ⟨rfl, rfl, rfl, rfl, rfl, trivial⟩ ?_
          refine W.regD (by kernel_rfl) #[0, 1, 3, 7, 0, 31] [(0, false), (1, false), (2, false), (3, false), (4, false), (5, true)] (by kernel_rfl) ?_ -- region 10
          intro K wD3 hK hwD3
          have M := M.drew hwD3
          have hcat := h.new M.frm
          have hx3 : w.heap.size ≤ bbx3 := M.ge 3 rfl
          refine x_ld rfl rfl rfl Try.underlying23 rfl rfl (cell_of (by first | exact M.at_ 0 rfl | exact M.at_ 1 rfl | exact M.at_ 2 rfl | exact M.at_ 3 rfl | exact M.at_ 4 rfl | exact M.at_ 5 rfl) rfl) ?_ -- ld10 cache.go:136
          refine x_nil rfl rfl rfl rfl rfl ?_
          refine x_fa rfl rfl rfl fo63_2 rfl ?_
          refine x_ldA [_] rfl rfl rfl Try.underlying60 rfl sz60 rfl rfl ⟨_, _, _, hcat.hc, rfl⟩ ?_ -- ld11 cache.go:136
          refine x_ld rfl rfl rfl Try.underlying58 rfl rfl (cell_of (by first | exact M.at_ 0 rfl | exact M.at_ 1 rfl | exact M.at_ 2 rfl | exact M.at_ 3 rfl | exact M.at_ 4 rfl | exact M.at_ 5 rfl) rfl) ?_ -- ld12 cache.go:136
          -- call3: (valise/cache.ring[valise/cache.block]).front cache.go:136
          refine x_call rfl rfl rfl rfl rfl en27 (front_ring (l := l1) hcat.ring (M.at_ 3 rfl) (fun hm => by have := h.lt l1.id (InRing.fp (c := c) (r := r) (L := L) hm); simp only [l1] at this; omega)) ?_
          rintro v w1 ⟨rfl, hring, hF⟩
          have hnd4 := M.nd
          have M0 := M
          have hInL : ∀ b, InRing e (l1 :: L) b → InC c e r L b ∨ b = bbx3 := fun b hb => by
            simp only [InRing, ids, List.map_cons, List.mem_cons] at hb
            rcases hb with hb | hb | hb
            · exact .inl (by simp [InC, fp, hb])
            · exact .inr hb
            · exact .inl (by simp only [InC, fp, List.mem_cons, List.mem_append]; exact .inr (.inr (.inr (.inl hb))))
          have hne3 : bbx1 ≠ bbx3 ∧ bbx2 ≠ bbx3 ∧ bal1 ≠ bbx3 := by simp at hnd4; exact ⟨hnd4.1.2.2, hnd4.2.1.2, hnd4.2.2⟩
          have M := ((M.sub (L' := [_, _, _]) (List.sublist_append_left _ [_])).weak (S' := InC c e r L) (fun _ h => h.elim)).call' hF (by
            intro x hx hb
            have hx' : x.1 = bbx1 ∨ x.1 = bbx2 ∨ x.1 = bal1 := by
              simp at hx; rcases hx with rfl | rfl | rfl <;> simp
            rcases hInL _ hb with h1 | h1
            · have := h.lt _ h1; omega
            · omega) (fun b hb => (hInL b hb).imp id (fun h1 => by omega))
          have hfx := fp_facts h.nd
          have hlt := h.lt
          have hnotc : ∀ b, b = c ∨ b = r ∨ b ∈ blks L → ¬ InRing e (l1 :: L) b := fun b hb hin => by
            have hmem : b ∈ fp c e r L := by simp only [fp, List.mem_cons, List.mem_append]; rcases hb with h1 | h1 | h1 <;> simp [h1]
            have hlb := h.lt b hmem
            simp only [InRing, ids, List.map_cons, List.mem_cons] at hin
            refine InRing.not h.nd hb ?_
            simp only [InRing, List.mem_cons]
            rcases hin with h1 | h1 | h1
            · exact .inl h1
            · simp only [l1] at h1; omega
            · exact .inr h1
          have hkeep : ∀ b, b = c ∨ b = r ∨ b ∈ blks L → w1.heap[b]? = wD3.heap[b]? := fun b hb => hF.old b (hcat.lt b (by simp only [fp, List.mem_cons, List.mem_append]; rcases hb with h1 | h1 | h1 <;> simp [h1])) (hnotc b hb)
          have hc4 := (hkeep c (.inl rfl)).trans hcat.hc
          obtain ⟨o4, g4, ho4, hm4, hg4⟩ := hcat.mp
          have ho4 := (hkeep r (.inr (.inl rfl))).trans ho4
          refine ⟨⟨.inl (by kernel_rfl), .inl (by kernel_rfl), .inl (by kernel_rfl), trivial⟩, ?_⟩
          refine Ex.done (hK _ _ ?_)
          refine At.then_n ?_
          refine W.sub [(2, _), (3, _), (4, _), (6, _), (7, _)] ⟨rfl, rfl, rfl, rfl, rfl, trivial⟩ ?_
          refine W.regD (by kernel_rfl) #[0, 1, 3, 7, 0, 0, 63] [(0, false), (1, false), (2, false), (3, false), (4, false), (5, false), (6, true)] (by kernel_rfl) ?_ -- region 11
          intro K wD4 hK hwD4
          have M := M.drew hwD4
          have hc4 := (hp_drew hwD4 c).trans hc4
          have ho4 := (hp_drew hwD4 r).trans ho4
          refine x_ld rfl rfl rfl Try.underlying23 rfl rfl (cell_of (by first | exact M.at_ 0 rfl | exact M.at_ 1 rfl | exact M.at_ 2 rfl | exact M.at_ 3 rfl | exact M.at_ 4 rfl | exact M.at_ 5 rfl) rfl) ?_ -- ld13 cache.go:137
          refine x_nil rfl rfl rfl rfl rfl ?_
          refine x_fa rfl rfl rfl fo63_3 rfl ?_
          refine x_ld rfl rfl rfl Try.underlying61 rfl rfl (cell_of hc4 rfl) ?_ -- ld14 cache.go:137
          refine x_ldA [_, _] rfl rfl rfl Try.underlying29 rfl sz29 rfl rfl ⟨_, _, _, (by first | exact M.at_ 0 rfl | exact M.at_ 1 rfl | exact M.at_ 2 rfl | exact M.at_ 3 rfl | exact M.at_ 4 rfl | exact M.at_ 5 rfl), rfl⟩ ?_ -- ld15 cache.go:137
          refine x_ld rfl rfl rfl Try.underlying58 rfl rfl (cell_of (by first | exact M.at_ 0 rfl | exact M.at_ 1 rfl | exact M.at_ 2 rfl | exact M.at_ 3 rfl | exact M.at_ 4 rfl | exact M.at_ 5 rfl) rfl) ?_ -- ld16 cache.go:137
          -- mu1: cache.go:137
          refine x_mup k rfl rfl rfl keyLaw Try.underlying61 rfl rfl rfl ho4 hm4 ?_
          intro o5 w5 hm5 hw5
          have hrlt : r < wD4.heap.size := (Array.getElem?_eq_some_iff.1 ho4).1
          have ho5 : w5.heap[r]? = some o5 := by rw [hw5]; exact World.putObj_heap_same hrlt
          have hrw : ∀ x, x ≠ r → w5.heap[x]? = w1.heap[x]? := fun x hx => (hp_put hw5 hx).trans (hp_drew hwD4 x)
          have hidn : bbx3 ∉ fp c e r L := fun hm => by have := h.lt _ hm; omega
          have hcat5 : CAt w5 c e r bud (l1 :: L) := hcat.added rfl rfl hidn hnk (hring.same fun b hb => hrw b (fun e1 => hnotc r (.inr (.inl rfl)) (e1 ▸ hb))) ho5 hm5 hg4 (fun b hb => by
            rw [hrw b (fun e1 => by rcases hb with h1 | h1; exact hfx.2.1 (h1 ▸ e1); exact hfx.2.2.2.2.2.2.2.2.1 (e1 ▸ h1))]
            exact hkeep b (by rcases hb with h1 | h1; exact .inl h1; exact .inr (.inr h1)))
          have M := M.call' (Frm.put (S := fun b => b = r) rfl hw5) (by
            intro x hx hb
            have hx' : x.1 = bbx1 ∨ x.1 = bbx2 ∨ x.1 = bal1 := by
              simp at hx; rcases hx with rfl | rfl | rfl <;> simp
            have := h.lt r (by simp [fp]); omega) (fun b hb => .inl (by simp [InC, fp, hb]))
          refine ⟨⟨.inl (by kernel_rfl), .inl (by kernel_rfl), .inl (by kernel_rfl), .inl (by kernel_rfl), trivial⟩, ?_⟩
          refine Ex.done (hK _ _ ?_)
          refine At.sub [(2, _), (3, _), (6, _), (7, _)] ⟨rfl, rfl, rfl, rfl, trivial⟩ ?_
          refine At.cut_n ?_ -- ac1
          refine ⟨[], L, l1, .inr ⟨rfl, rfl, rfl, rfl, rfl, rfl, rfl, hnk⟩, hcat5, fun x hx => ?_, M, rfl⟩
          have : x = bbx3 ∨ x ∈ fp c e r L := by
            have hblks : blks (l1 :: L) = blks L := by simp [blks, l1, blkOf]
            simp only [fp, List.nil_append, hblks, ids, List.map_cons, List.mem_cons, List.mem_append] at hx ⊢
            rcases hx with hx | hx | hx | (hx | hx) | hx
            · exact .inr (.inl hx)
            · exact .inr (.inr (.inl hx))
            · exact .inr (.inr (.inr (.inl hx)))
            · exact .inl hx
            · exact .inr (.inr (.inr (.inr (.inl hx))))
            · exact .inr (.inr (.inr (.inr (.inr hx))))
          rcases this with h1 | h1
          · exact .inr ⟨by omega, by omega, by omega, by omega⟩
          · exact .inl h1
        · have hyes : (findK L k).isSome = true := by simpa using hco4
          obtain ⟨A, l1, B, hLe, hk1, hfk, _⟩ := findK_some hyes
          refine W.skip ?_
          refine At.sub [(2, _), (3, _), (6, _), (7, _)] ⟨rfl, rfl, rfl, rfl, trivial⟩ ?_
          refine At.cut_n ?_ -- ac2
          rw [hfk] at M
          exact ⟨A, B, l1, .inl ⟨hLe, hk1⟩, by rw [← hLe]; exact h.new M.frm, fun x hx => .inl (by rw [hLe]; exact hx), M.weak (fun _ h => h.elim), rfl⟩
      rintro F' wc ⟨A, B, l1, hput, hcat, hfpc, M, rfl⟩
      refine W.seq ?_
      refine W.sub [(2, _), (3, _), (6, _), (7, _)] ⟨rfl, rfl, rfl, rfl, trivial⟩ ?_
      refine W.regD (by kernel_rfl) #[0, 1, 3, 7, 0, 16, 0, 64, 192, 448, 960, 1984, 4080, 8191, 16383, 32767, 65535] [(0, false), (1, false), (2, false), (3, false), (4, false), (5, false), (6, false), (7, false), (8, false), (9, false), (10, false), (11, false), (12, false), (13, false), (14, false), (15, false), (16, true)] (by kernel_rfl) ?_ -- region 12
      intro K wD5 hK hwD5
      have M := M.drew hwD5
      have hge5 : w.heap.size ≤ wD5.heap.size := M.size
      have hbx5 : bbx1 < wD5.heap.size ∧ bbx2 < wD5.heap.size ∧ bal1 < wD5.heap.size := ⟨M.lt (List.mem_of_getElem? (i := 0) rfl), M.lt (List.mem_of_getElem? (i := 1) rfl), M.lt (List.mem_of_getElem? (i := 2) rfl)⟩
      have hcat := hcat.drw hwD5
      have hkl := hput.key
      have htl := hput.tot
      have htm := tot_mid A B l1
      have hszL := h.sz
      have hl1 := hcat.len l1 (by simp)
      have h0AB := (len_le (A ++ B) (fun n hn => hcat.len n (by simp only [List.mem_append, List.mem_cons] at hn ⊢; exact hn.imp id .inr))).1
      obtain ⟨p1, cap1, hsv1⟩ := (hcat.bs l1 (by simp)).shape
      have hnode := (hcat.ring.node_at (A := A) (l := l1) (B := B)).1
      have hnodeX := hnode
      have hcatX := hcat
      unfold nodeO at hnode
      rw [hsv1] at hnode
      have hfx := fp_facts hcat.nd
      have hl1c : l1.id ≠ c := hcat.lid.2.1
      have hcm : c ∈ fp c e r (A ++ l1 :: B) := by simp [fp]
      have hl1m : l1.id ∈ fp c e r (A ++ l1 :: B) := by simp only [fp, List.mem_cons, List.mem_append]; exact .inr (.inr (.inr (.inl (mem_ids (by simp)))))
      have hcL : c ∈ fp c e r L := by simp [fp]
      refine x_ld rfl rfl rfl Try.underlying23 rfl rfl (cell_of (by first | exact M.at_ 0 rfl | exact M.at_ 1 rfl | exact M.at_ 2 rfl | exact M.at_ 3 rfl | exact M.at_ 4 rfl | exact M.at_ 5 rfl) rfl) ?_ -- ld17 cache.go:139
      refine x_nil rfl rfl rfl rfl rfl ?_
      refine x_fa rfl rfl rfl fo63_1 rfl ?_
      refine x_ld rfl rfl rfl Try.underlying3 rfl rfl (cell_of hcat.hc rfl) ?_ -- ld18 cache.go:139
      refine x_move rfl rfl rfl rfl ?_
      refine x_len rfl rfl rfl rfl Try.underlying31 rfl ?_
      refine x_ld rfl rfl rfl Try.underlying58 rfl rfl (cell_of (by first | exact M.at_ 0 rfl | exact M.at_ 1 rfl | exact M.at_ 2 rfl | exact M.at_ 3 rfl | exact M.at_ 4 rfl | exact M.at_ 5 rfl) rfl) ?_ -- ld19 cache.go:139
      refine x_nil rfl rfl rfl rfl rfl ?_
      refine x_fa rfl rfl rfl fo70_0 rfl ?_
      refine x_fa rfl rfl rfl fo67_1 rfl ?_
      refine x_ld rfl rfl rfl Try.underlying31 rfl rfl (cell_of hnode rfl) ?_ -- ld20 cache.go:139
      refine x_len rfl rfl rfl rfl Try.underlying31 rfl ?_
      refine x_sub ((b.length : Int) - l1.b.length) rfl rfl rfl rfl rfl (wrap64_id (by omega) (by omega)) ?_ -- ar2 cache.go:139
      refine x_add (tot (A ++ B) + b.length) rfl rfl rfl rfl rfl (by rw [wrap64_id (by omega) (by omega)]; omega) ?_ -- ar3 cache.go:139
      refine x_nil rfl rfl rfl rfl rfl ?_
      refine x_fa rfl rfl rfl fo63_1 rfl ?_
      refine x_st [_] [_, _, _, _] rfl rfl rfl sz3 rfl rfl rfl rfl hcat.hc rfl rfl rfl ?_ -- st3 cache.go:139
      intro wst3 hwst3
      have hc3 := hp_putS hwst3 hcat.hc
      have hnode3 := (hp_put hwst3 hl1c).trans hnode
      have M := M.call' (Frm.put (S := fun b => b = c) rfl hwst3) (by
        intro x hx hb
        have hx' : x.1 = bbx1 ∨ x.1 = bbx2 ∨ x.1 = bal1 := by
          simp at hx; rcases hx with rfl | rfl | rfl <;> simp
        have := h.lt c hcL; omega) (fun b hb => .inl (by rw [hb]; exact hcL))
      refine ⟨⟨.inl (by kernel_rfl), .inl (by kernel_rfl), .inl (by kernel_rfl), .inl (by kernel_rfl), trivial⟩, ?_⟩
      refine Ex.done (hK _ _ ?_)
      refine At.then_n ?_
      refine W.seq ?_
      refine W.sub [(2, _), (3, _), (6, _), (7, _)] ⟨rfl, rfl, rfl, rfl, trivial⟩ ?_
      refine W.regD (by kernel_rfl) #[0, 0, 2, 7, 15, 31, 63] [(0, false), (1, false), (2, true), (3, false), (4, false), (5, false), (6, true)] (by kernel_rfl) ?_ -- region 13
      intro K wD6 hK hwD6
      have M := M.drew hwD6
      have hc3 := (hp_drew hwD6 c).trans hc3
      have hnode3 := (hp_drew hwD6 l1.id).trans hnode3
      have hkeep3 : ∀ x, x ≠ c → wD6.heap[x]? = wD5.heap[x]? := fun x hx => (hp_drew hwD6 x).trans (hp_put hwst3 hx)
      refine x_ld rfl rfl rfl Try.underlying58 rfl rfl (cell_of (by first | exact M.at_ 0 rfl | exact M.at_ 1 rfl | exact M.at_ 2 rfl | exact M.at_ 3 rfl | exact M.at_ 4 rfl | exact M.at_ 5 rfl) rfl) ?_ -- ld21 cache.go:140
      refine x_move rfl rfl rfl rfl ?_
      -- call4: slices.Clone[[]byte,byte] cache.go:140
      refine x_call rfl rfl rfl rfl rfl en28 (clone_c (hb.keep (fun hne g hg hlt => M.old g hlt (hblk hne g hg))) hlen) ?_
      rintro v w6 ⟨hv1, hv2, hv3⟩
      obtain ⟨p2, cap2, rfl⟩ := hv1.shape
      have M := M.new hv2
      have hc6 := (hv2.old c (Array.getElem?_eq_some_iff.1 hc3).1 id).trans hc3
      have hnode6 := (hv2.old l1.id (Array.getElem?_eq_some_iff.1 hnode3).1 id).trans hnode3
      refine ⟨⟨.inr (cell_of (by first | exact M.at_ 0 rfl | exact M.at_ 1 rfl | exact M.at_ 2 rfl | exact M.at_ 3 rfl | exact M.at_ 4 rfl | exact M.at_ 5 rfl) rfl), trivial⟩, ?_⟩
      refine x_nil rfl rfl rfl rfl rfl ?_
      refine x_fa rfl rfl rfl fo70_0 rfl ?_
      refine x_fa rfl rfl rfl fo67_1 rfl ?_
      refine x_st [_] [_, _, _, _, _, _] rfl rfl rfl sz31 rfl rfl rfl rfl hnode6 rfl rfl rfl ?_ -- st4 cache.go:140
      intro wst4 hwst4
      have hnode7 := hp_putS hwst4 hnode6
      have hc7 := (hp_put hwst4 (Ne.symm hl1c)).trans hc6
      have hfpx := hfpc l1.id hl1m
      have M := M.call' (Frm.put (S := fun b => b = l1.id) rfl hwst4) (by
        intro x hx hb
        have hx' : x.1 = bbx1 ∨ x.1 = bbx2 ∨ x.1 = bal1 := by
          simp at hx; rcases hx with rfl | rfl | rfl <;> simp
        rcases hfpx with h1 | h1
        · have := h.lt _ h1; omega
        · omega) (fun b hb => by rw [hb]; exact hfpx.imp id (fun h => h.1))
      obtain ⟨l2, hl2⟩ : ∃ l2 : Nd, l2 = { l1 with sv := .slice p2 b.length cap2, b := b } := ⟨_, rfl⟩
      have h2f : l2.f = k.1 := by rw [hl2, ← hkl]
      have h2i : l2.i = k.2 := by rw [hl2, ← hkl]
      have h2p : l2.pins = l1.pins := by rw [hl2]
      have h2b : l2.b = b := by rw [hl2]
      have h2id : l2.id = l1.id := by rw [hl2]
      have h2s : l2.sv = .slice p2 b.length cap2 := by rw [hl2]
      have hfresh : ∀ g, blkOf (.slice p2 b.length cap2) = some g → wD5.heap.size ≤ g := fun g hg => by
        have h1 := hv3 g hg
        have h2 : wD6.heap.size = wD5.heap.size := by rw [hwD6, hwst3]; show (wD5.putObj c _).heap.size = _; rw [World.putObj_size]
        omega
      have htm2 := tot_mid A B l2
      rw [h2b] at htm2
      have hcat2 : CAt wst4 c e r bud (A ++ l2 :: B) := by
        refine hcatX.reblock hl2 hnodeX (by rw [hnode7, hl2]; rfl) (by rw [hc7, htm2, Int.add_comm]) ?_ (fun g hg hm => by have := hcatX.lt g hm; have := hfresh g hg; omega) hle (by omega) (fun x hx h1 h2 => ?_)
        · refine hv1.same fun g hg => hp_put hwst4 (fun e1 => ?_)
          have := hcatX.lt l1.id hl1m; have := hfresh g hg; omega
        · rw [hp_put hwst4 h1, hv2.old x (by rw [hwD6, hwst3]; show x < (wD5.putObj c _).heap.size; rw [World.putObj_size]; exact hcatX.lt x hx) id, hkeep3 x h2]
      have hfp2 : ∀ x ∈ fp c e r (A ++ l2 :: B), x ∈ fp c e r L ∨ (w.heap.size ≤ x ∧ x ≠ bbx1 ∧ x ≠ bbx2 ∧ x ≠ bal1) := fun x hx => by
        have : x ∈ fp c e r (A ++ l1 :: B) ∨ blkOf l2.sv = some x := by
          have hx' := (perm_fp (mid_perm A B l2)).mem_iff.1 hx
          have e1 : ids (l2 :: (A ++ B)) = ids (l1 :: (A ++ B)) := by simp [ids, h2id]
          by_cases hq : blkOf l2.sv = some x
          · exact .inr hq
          · refine .inl ((perm_fp (mid_perm A B l1)).mem_iff.2 ?_)
            simp only [fp, e1, List.mem_cons, List.mem_append] at hx' ⊢
            rcases hx' with h1 | h1 | h1 | h1 | h1
            · exact .inl h1
            · exact .inr (.inl h1)
            · exact .inr (.inr (.inl h1))
            · exact .inr (.inr (.inr (.inl h1)))
            · refine .inr (.inr (.inr (.inr ?_)))
              simp only [blks, List.mem_filterMap, List.mem_cons] at h1 ⊢
              obtain ⟨n, hn | hn, h3⟩ := h1
              · rw [hn] at h3; exact absurd h3 hq
              · exact ⟨n, .inr hn, h3⟩
        rcases this with h1 | h1
        · exact hfpc x h1
        · rw [h2s] at h1
          have := hfresh x h1
          exact .inr ⟨by omega, by omega, by omega, by omega⟩
      refine ⟨⟨.inl (by kernel_rfl), trivial⟩, ?_⟩
      refine Ex.done (hK _ _ ?_)
      refine At.then_n ?_
      refine W.seq ?_
      refine W.sub [(3, _), (6, _), (7, _)] ⟨rfl, rfl, rfl, trivial⟩ ?_
      refine W.reg [(0, false), (1, false), (2, true)] (by kernel_rfl) ?_ -- region 14
      intro K hK
      refine x_ld rfl rfl rfl Try.underlying23 rfl rfl (cell_of (by first | exact M.at_ 0 rfl | exact M.at_ 1 rfl | exact M.at_ 2 rfl | exact M.at_ 3 rfl | exact M.at_ 4 rfl | exact M.at_ 5 rfl) rfl) ?_ -- ld22 cache.go:141
      refine x_ld rfl rfl rfl Try.underlying58 rfl rfl (cell_of (by first | exact M.at_ 0 rfl | exact M.at_ 1 rfl | exact M.at_ 2 rfl | exact M.at_ 3 rfl | exact M.at_ 4 rfl | exact M.at_ 5 rfl) rfl) ?_ -- ld23 cache.go:141
      -- call5: (*valise/cache.Cache).use cache.go:141
      refine x_call rfl rfl rfl rfl rfl en29 (h2id ▸ use_c hcat2) ?_
      rintro v w8 ⟨rfl, hcat3, hF⟩
      have M := M.call' hF (by
        intro x hx hb
        have hx' : x.1 = bbx1 ∨ x.1 = bbx2 ∨ x.1 = bal1 := by
          simp at hx; rcases hx with rfl | rfl | rfl <;> simp
        rcases hfp2 _ (InRing.fp (c := c) (r := r) hb) with h1 | h1
        · have := h.lt _ h1; omega
        · omega) (fun b hb => (hfp2 _ (InRing.fp (c := c) (r := r) hb)).imp id (fun h => h.1))
      have hfp3 : ∀ x ∈ fp c e r (l2 :: (A ++ B)), x ∈ fp c e r L ∨ (w.heap.size ≤ x ∧ x ≠ bbx1 ∧ x ≠ bbx2 ∧ x ≠ bal1) := fun x hx => hfp2 x ((perm_fp (mid_perm A B l2)).mem_iff.2 hx)
      generalize hX : A ++ B = X at hcat3 hfp3
      refine ⟨trivial, ?_⟩
      refine Ex.done (hK _ _ ?_)
      refine At.then_n ?_
      refine W.seq ?_
      refine W.seq ?_
      refine W.sub [(3, _), (6, _), (7, _)] ⟨rfl, rfl, rfl, trivial⟩ ?_
      refine W.reg [(0, false), (1, false), (2, false), (3, false), (4, true)] (by kernel_rfl) ?_ -- region 15
      intro K hK
      refine x_ld rfl rfl rfl Try.underlying23 rfl rfl (cell_of (by first | exact M.at_ 0 rfl | exact M.at_ 1 rfl | exact M.at_ 2 rfl | exact M.at_ 3 rfl | exact M.at_ 4 rfl | exact M.at_ 5 rfl) rfl) ?_ -- ld24 cache.go:142
      refine x_nil rfl rfl rfl rfl rfl ?_
      refine x_fa rfl rfl rfl fo63_2 rfl ?_
      refine x_ldA [_] rfl rfl rfl Try.underlying60 rfl sz60 rfl rfl ⟨_, _, _, hcat3.hc, rfl⟩ ?_ -- ld25 cache.go:142
      -- call6: (valise/cache.ring[valise/cache.block]).back cache.go:142
      refine x_call rfl rfl rfl rfl rfl en30 (back0) ?_
      rintro v wq ⟨rb, rfl, hrb, M1⟩
      have M := M.grow M1
      have hcat4 := hcat3.new M1.frm
      have hlt3 := hcat3.lt
      have hwq := M1.size
      refine ⟨trivial, ?_⟩
      refine Ex.done (hK _ _ ?_)
      refine At.then_n ?_
      refine W.block ?_
      refine W.sub [(3, _), (6, _), (7, _), (86, _)] ⟨rfl, rfl, rfl, rfl, trivial⟩ ?_
      refine W.range rfl en40 (fun rr hkt hps has hbdrng1 w2 hw2 => ?_)
      have hcat5 : CAt w2 c e r bud (l2 :: X) := by
        subst hw2
        exact (hcat4.alc rfl).alc rfl
      have M := M.range hw2
      have hno3 : ∀ x, x ∈ fp c e r (l2 :: X) → x ≠ rb ∧ x ≠ wq.heap.size ∧ x ≠ wq.heap.size + 1 ∧ x ≠ bbx1 ∧ x ≠ bbx2 ∧ x ≠ bal1 := fun x hx => by
        have h1 := hlt3 x hx
        have h2 := hfp3 x hx
        rcases h2 with h2 | h2
        · have := h.lt x h2; omega
        · omega
      refine (back1 (J := fun rest w' => ∃ P KK, rest = ids P ∧ CAt w' c e r bud (P.reverse ++ KK) ∧ evict bud P KK = evict bud (l2 :: X).reverse [] ∧ (∀ n ∈ P.reverse ++ KK, n ∈ l2 :: X) ∧ (P ≠ [] → ∃ P', P = P' ++ [l2]) ∧ l2 ∈ P.reverse ++ KK ∧ St (InC c e r L) w [(bbx1, .cells [ptr c].toArray 23 (0, 0)), (bbx2, .cells [.string k.1, .int .i64 k.2].toArray 29 (0, 0)), (bal1, .cells [ptr l1.id].toArray 58 (0, 0)), (rb, .cells [ptr e].toArray 60 (0, 0)), (wq.heap.size, .deferred (some [])), (wq.heap.size + 1, .loop { rr with state := .ready, pending := none })] w')
        (Jx := fun w' => CAt w' c e r bud (evict bud (l2 :: X).reverse []) ∧ St (InC c e r L) w [(bbx1, .cells [ptr c].toArray 23 (0, 0)), (bbx2, .cells [.string k.1, .int .i64 k.2].toArray 29 (0, 0)), (bal1, .cells [ptr l1.id].toArray 58 (0, 0)), (rb, .cells [ptr e].toArray 60 (0, 0)), (wq.heap.size, .deferred (some [])), (wq.heap.size + 1, .loop { rr with state := .done, pending := some (.exit 1) })] w') (xs := ids (l2 :: X).reverse) ?_ ⟨(l2 :: X).reverse, [], rfl, by simpa using hcat5, rfl, by simp, fun _ => ⟨X.reverse, by simp⟩, by simp, M⟩ (by rw [ids_rev]; refine cell_of hcat5.ring.end_at ?_; rw [lstI_rev]; rfl) ?_).mono ?_
      · rintro rest w' ⟨P, KK, rfl, hcat, _, _, _, _, M⟩
        exact ⟨M.at_ 3 rfl, hcat.stepB⟩
      · rintro x rest w' ⟨P, KK, hR, hcat, hev, hsub, hlast, hl2m, M⟩
        obtain ⟨nd, P2, rfl, rfl, rfl⟩ := ids_cons hR
        have hno : ∀ x, x ∈ fp c e r ((nd :: P2).reverse ++ KK) → x ≠ rb ∧ x ≠ wq.heap.size ∧ x ≠ wq.heap.size + 1 ∧ x ≠ bbx1 ∧ x ≠ bbx2 ∧ x ≠ bal1 := fun x hx => hno3 x (fp_sub hsub x hx)
        refine Yld.one (M.at_ 5 rfl) hkt hps rfl has ?_
        refine W.sub [(3, _), (6, _), (7, _), (87, _)] ⟨rfl, rfl, rfl, rfl, trivial⟩ ?_
        refine W.reg [(0, false)] (by kernel_rfl) ?_ -- region 16
        intro K hK
        refine x_assign rfl rfl rfl rfl ?_
        refine Ex.done (hK _ _ ?_)
        refine At.asg hbdrng1 (M.at_ 5 rfl) ?_
        generalize hwb : World.putObj _ _ _ = wb
        have M := M.put 5 rfl hwb.symm
        have hcat := hcat.put (fun hm => (hno _ hm).2.2.1 rfl) hwb.symm
        refine W.block ?_
        refine W.seq ?_
        refine W.seq ?_
        refine W.sub [(3, _), (6, _), (7, _), (9, _)] ⟨rfl, rfl, rfl, rfl, trivial⟩ ?_
        refine W.regD (by kernel_rfl) #[0, 1, 3, 7, 0, 16, 48, 112, 255] [(0, false), (1, false), (2, false), (3, false), (4, false), (5, false), (6, false), (7, false), (8, false)] (by kernel_rfl) ?_ -- region 17
        intro K wD7 hK hwD7
        have M := M.drew hwD7
        have hcat := hcat.drw hwD7
        have hcc := hcat.hc
        refine x_ld rfl rfl rfl Try.underlying23 rfl rfl (cell_of (by first | exact M.at_ 0 rfl | exact M.at_ 1 rfl | exact M.at_ 2 rfl | exact M.at_ 3 rfl | exact M.at_ 4 rfl | exact M.at_ 5 rfl) rfl) ?_ -- ld26 cache.go:143
        refine x_nil rfl rfl rfl rfl rfl ?_
        refine x_fa rfl rfl rfl fo63_1 rfl ?_
        refine x_ld rfl rfl rfl Try.underlying3 rfl rfl (cell_of hcc rfl) ?_ -- ld27 cache.go:143
        refine x_ld rfl rfl rfl Try.underlying23 rfl rfl (cell_of (by first | exact M.at_ 0 rfl | exact M.at_ 1 rfl | exact M.at_ 2 rfl | exact M.at_ 3 rfl | exact M.at_ 4 rfl | exact M.at_ 5 rfl) rfl) ?_ -- ld28 cache.go:143
        refine x_nil rfl rfl rfl rfl rfl ?_
        refine x_fa rfl rfl rfl fo63_0 rfl ?_
        refine x_ld rfl rfl rfl Try.underlying3 rfl rfl (cell_of hcc rfl) ?_ -- ld29 cache.go:143
        refine x_leq _ rfl rfl rfl rfl rfl rfl ?_ -- cm3 cache.go:143
        refine Ex.done (hK _ _ ?_)
        refine At.then_n ?_
        refine W.cond rfl (fun hco5 => ?_) (fun hco5 => ?_) -- co5
        · refine W.exit ?_
          refine At.then_x ?_
          refine At.blk_y rfl ?_
          refine At.rnd_x (M.at_ 5 rfl) ?_ -- rd1
          refine ⟨false, rfl, (fun h => by cases h), fun _ => ⟨?_, M.put 5 rfl rfl⟩⟩
          have : evict bud (nd :: P2) KK = (nd :: P2).reverse ++ KK := by unfold evict; rw [if_pos (of_decide_eq_true hco5)]
          rw [← hev, this]
          exact hcat.put (fun hm => (hno _ hm).2.2.1 rfl) rfl
        · have hgt : ¬ tot ((nd :: P2).reverse ++ KK) ≤ bud := of_decide_eq_false hco5
          have hcatm : CAt wD7 c e r bud (P2.reverse ++ nd :: KK) := by simpa using hcat
          have hmm : (nd :: P2).reverse ++ KK = P2.reverse ++ nd :: KK := by simp
          obtain ⟨p3, cap3, hsv3⟩ := (hcatm.bs nd (by simp)).shape
          have hnode := hcatm.ring.node_at.1
          unfold nodeO at hnode
          have hinj := hcatm.id_inj rfl
          have hnext : ∀ K2 : List Nd, (∀ n ∈ K2, n ∈ nd :: KK) → ∀ n ∈ P2.reverse ++ K2, n ∈ l2 :: X := fun K2 hK n hn => hsub n (by
            rw [hmm]
            simp only [List.mem_append] at hn ⊢
            exact hn.imp id (hK n))
          refine W.skip ?_
          refine At.then_n ?_
          refine W.seq ?_
          refine W.sub [(3, _), (6, _), (7, _), (9, _)] ⟨rfl, rfl, rfl, rfl, trivial⟩ ?_
          refine W.reg [(0, false), (1, false), (2, false), (3, false), (4, false), (5, false), (6, false), (7, false), (8, false), (9, false), (10, false)] (by kernel_rfl) ?_ -- region 18
          intro K hK
          refine x_move rfl rfl rfl rfl ?_
          refine x_ld rfl rfl rfl Try.underlying58 rfl rfl (cell_of (by first | exact M.at_ 0 rfl | exact M.at_ 1 rfl | exact M.at_ 2 rfl | exact M.at_ 3 rfl | exact M.at_ 4 rfl | exact M.at_ 5 rfl) rfl) ?_ -- ld30 cache.go:146
          refine x_nepp _ rfl rfl rfl Try.underlying58 sz70 (by decide) rfl rfl (hcatm.okNode (n := nd) (by simp)) (h2id ▸ hcat.okNode hl2m) rfl ?_ -- eq1 cache.go:146
          refine x_move rfl rfl rfl rfl ?_
          refine Ex.split 100 rfl (fun hsp1 => ?_) (fun hsp1 => ?_)
          · -- sp1 True
            have hne : nd.id ≠ l1.id := by simpa using hsp1
            have hP2 : P2 ≠ [] := fun e1 => by
              obtain ⟨P', hP'⟩ := hlast (by simp)
              rw [e1] at hP'
              cases P' with
              | nil => simp at hP'; exact hne (by rw [hP', h2id])
              | cons a b => simp at hP'
            obtain ⟨P3, hP3⟩ : ∃ P3, P2 = P3 ++ [l2] := by
              obtain ⟨P', hP'⟩ := hlast (by simp)
              cases P' with
              | nil => simp at hP'; exact absurd hP'.2 hP2
              | cons a b => simp at hP'; exact ⟨b, hP'.2⟩
            refine x_move rfl rfl rfl rfl ?_
            refine x_nil rfl rfl rfl rfl rfl ?_
            refine x_fa rfl rfl rfl fo70_0 rfl ?_
            refine x_fa rfl rfl rfl fo67_2 rfl ?_
            refine x_ld rfl rfl rfl Try.underlying3 rfl rfl (cell_of hnode rfl) ?_ -- ld31 cache.go:146
            refine x_eqi _ rfl rfl rfl rfl rfl rfl ?_ -- eq2 cache.go:146
            refine x_pickT rfl rfl rfl rfl rfl ?_
            refine Ex.done (hK _ _ ?_)
            refine At.then_n ?_
            refine W.cond rfl (fun hco6 => ?_) (fun hco6 => ?_) -- co6
            · refine W.sub [(3, _), (6, _), (9, _)] ⟨rfl, rfl, rfl, trivial⟩ ?_
              refine W.reg [(0, false), (1, false), (2, true)] (by kernel_rfl) ?_ -- region 19
              intro K hK
              refine x_ld rfl rfl rfl Try.underlying23 rfl rfl (cell_of (by first | exact M.at_ 0 rfl | exact M.at_ 1 rfl | exact M.at_ 2 rfl | exact M.at_ 3 rfl | exact M.at_ 4 rfl | exact M.at_ 5 rfl) rfl) ?_ -- ld32 cache.go:147
              refine x_move rfl rfl rfl rfl ?_
              -- call7: (*valise/cache.Cache).gone cache.go:147
              refine x_call rfl rfl rfl rfl rfl en31 (gone_c hcatm) ?_
              rintro v w9 ⟨rfl, hcat9, hF⟩
              have hnom : ∀ x, x ∈ fp c e r (P2.reverse ++ nd :: KK) → x ≠ rb ∧ x ≠ wq.heap.size ∧ x ≠ wq.heap.size + 1 ∧ x ≠ bbx1 ∧ x ≠ bbx2 ∧ x ≠ bal1 := fun x hx => hno x (by rw [hmm]; exact hx)
              have M := M.call' hF (by
                intro x hx hb
                have := hnom _ hb
                have hx' : x.1 = bbx1 ∨ x.1 = bbx2 ∨ x.1 = bal1 ∨ x.1 = rb ∨ x.1 = wq.heap.size ∨ x.1 = wq.heap.size + 1 := by
                  simp at hx; rcases hx with rfl | rfl | rfl | rfl | rfl | rfl <;> simp
                omega) (fun b hb => (hfp3 b (fp_sub hsub b (by rw [hmm]; exact hb))).imp id (fun h => h.1))
              refine ⟨trivial, ?_⟩
              refine Ex.done (hK _ _ ?_)
              refine At.blk_n ?_
              refine At.rnd_n (M.at_ 5 rfl) ?_ -- rd2
              have hz : nd.pins = 0 := by simpa using hco6
              refine ⟨true, rfl, fun _ => ⟨P2, KK, rfl, hcat9.put (fun hm => (hnom _ (fp_sub (fun n hn => by simp only [List.mem_append, List.mem_cons] at hn ⊢; exact hn.imp id .inr) _ hm)).2.2.1 rfl) rfl, ?_, hnext KK (fun n hn => by simp [hn]), fun _ => ⟨P3, hP3⟩, by simp [hP3], M.put 5 rfl rfl⟩, fun h => by cases h⟩
              rw [← hev]
              conv => rhs; unfold evict
              rw [if_neg hgt, if_pos ⟨hP2, hz⟩]
            · refine W.skip ?_
              refine At.blk_n ?_
              refine At.rnd_n (M.at_ 5 rfl) ?_ -- rd3
              have hz : nd.pins ≠ 0 := by simpa using hco6
              refine ⟨true, rfl, fun _ => ⟨P2, nd :: KK, rfl, hcatm.put (fun hm => (hno _ (by rw [hmm]; exact hm)).2.2.1 rfl) rfl, ?_, hnext (nd :: KK) (fun n hn => hn), fun _ => ⟨P3, hP3⟩, by simp [hP3], M.put 5 rfl rfl⟩, fun h => by cases h⟩
              rw [← hev]
              conv => rhs; unfold evict
              rw [if_neg hgt, if_neg (fun h => hz h.2)]
          · -- sp1 False
            have he1 : nd.id = l1.id := by simpa using hsp1
            have hnd : nd = l2 := by
              rw [hmm] at hl2m
              simp only [List.mem_append, List.mem_cons] at hl2m
              rcases hl2m with h1 | h1 | h1
              · exact absurd (h2id.trans he1.symm) (hinj l2 (by simp only [List.mem_append]; exact .inl h1))
              · exact h1.symm
              · exact absurd (h2id.trans he1.symm) (hinj l2 (by simp only [List.mem_append]; exact .inr h1))
            have hP2 : P2 = [] := by
              obtain ⟨P', hP'⟩ := hlast (by simp)
              cases P' with
              | nil => simp at hP'; exact hP'.2
              | cons a b =>
                simp at hP'
                exact absurd he1.symm (by rw [← h2id]; exact hinj l2 (by simp [hP'.2]))
            refine Ex.skip_ rfl rfl rfl ?_
            refine Ex.skip_ rfl rfl rfl ?_
            refine Ex.skip_ rfl rfl rfl ?_
            refine Ex.skip_ rfl rfl rfl ?_
            refine Ex.skip_ rfl rfl rfl ?_
            refine Ex.skip_ rfl rfl rfl ?_
            refine x_pickF rfl rfl rfl rfl rfl ?_
            refine Ex.done (hK _ _ ?_)
            refine At.then_n ?_
            refine W.condF rfl ?_ -- co7
            refine W.skip ?_
            refine At.blk_n ?_
            refine At.rnd_n (M.at_ 5 rfl) ?_ -- rd4
            refine ⟨true, rfl, fun _ => ⟨P2, nd :: KK, rfl, hcatm.put (fun hm => (hno _ (by rw [hmm]; exact hm)).2.2.1 rfl) rfl, ?_, hnext (nd :: KK) (fun n hn => hn), fun h => absurd hP2 h, by simp [hnd], M.put 5 rfl rfl⟩, fun h => by cases h⟩
            rw [← hev]
            conv => rhs; unfold evict
            rw [if_neg hgt, if_neg (fun h => h.1 hP2)]
      · rintro v w3 ⟨rfl, ⟨P, KK, hR, hcat, hev, hsub, _, _, M⟩ | ⟨hcat, M⟩⟩
        · have hRn := ids_nil hR
          subst hRn
          simp only [List.reverse_nil, List.nil_append, evict] at hcat hev
          subst hev
          refine .inl ⟨.ready, by simp, M.at_ 5 rfl, ?_⟩
          have hno : ∀ x, x ∈ fp c e r (evict bud (l2 :: X).reverse []) → x ≠ wq.heap.size ∧ x ≠ wq.heap.size + 1 := fun x hx => by
            have := hno3 x (fp_sub (fun n hn => by have := evict_sub _ _ _ n hn; simpa using this) x hx)
            exact ⟨this.2.1, this.2.2.1⟩
          generalize hwx : World.putObj _ _ _ = w4
          have M := M.put 5 rfl hwx.symm
          have hcat := hcat.put (fun hm => (hno _ hm).2 rfl) hwx.symm
          refine At.blk_n ?_
          refine At.then_n ?_
          refine W.seq ?_
          refine W.sub [(6, _)] ⟨rfl, trivial⟩ ?_
          refine W.reg [(0, false)] (by kernel_rfl) ?_ -- region 20
          intro K hK
          refine x_assign rfl rfl rfl rfl ?_
          refine Ex.done (hK _ _ ?_)
          refine At.then_n ?_
          refine W.ret ?_
          refine At.mark (M.at_ 4 rfl) ?_
          generalize hwy : World.putObj _ _ _ = w5
          have M := M.put 4 rfl hwy.symm
          have hcat := hcat.put (fun hm => (hno _ hm).1 rfl) hwy.symm
          refine At.ret1 (.tmp 6) rfl ⟨rfl, trivial⟩ ?_ -- ret3
          refine .inr (.inr ⟨hle, hfit, rfl, A, B, l1, l2, hput, h2f, h2i, h2p, h2b, by rw [hX]; exact hcat, M.frm, fun x hx => ?_⟩)
          rw [hX] at hx
          exact (hfp3 x hx).imp id (fun h => h.1)
        · refine .inr ⟨.done, .exit 1, by simp, M.at_ 5 rfl, ?_⟩
          have hno : ∀ x, x ∈ fp c e r (evict bud (l2 :: X).reverse []) → x ≠ wq.heap.size ∧ x ≠ wq.heap.size + 1 := fun x hx => by
            have := hno3 x (fp_sub (fun n hn => by have := evict_sub _ _ _ n hn; simpa using this) x hx)
            exact ⟨this.2.1, this.2.2.1⟩
          generalize hwx : World.putObj _ _ _ = w4
          have M := M.put 5 rfl hwx.symm
          have hcat := hcat.put (fun hm => (hno _ hm).2 rfl) hwx.symm
          refine W.exit ?_
          refine At.blk_x ?_
          refine At.then_n ?_
          refine W.seq ?_
          refine W.sub [(6, _)] ⟨rfl, trivial⟩ ?_
          refine W.reg [(0, false)] (by kernel_rfl) ?_ -- region 20
          intro K hK
          refine x_assign rfl rfl rfl rfl ?_
          refine Ex.done (hK _ _ ?_)
          refine At.then_n ?_
          refine W.ret ?_
          refine At.mark (M.at_ 4 rfl) ?_
          generalize hwy : World.putObj _ _ _ = w5
          have M := M.put 4 rfl hwy.symm
          have hcat := hcat.put (fun hm => (hno _ hm).1 rfl) hwy.symm
          refine At.ret1 (.tmp 6) rfl ⟨rfl, trivial⟩ ?_ -- ret4
          refine .inr (.inr ⟨hle, hfit, rfl, A, B, l1, l2, hput, h2f, h2i, h2p, h2b, by rw [hX]; exact hcat, M.frm, fun x hx => ?_⟩)
          rw [hX] at hx
          exact (hfp3 x hx).imp id (fun h => h.1)
end Go.Proofs.Ytbbccdcjhoecpaa

namespace Go.Proofs.Ytbbccdcjhoecpaa
open Go Go.Fw Go.RowKit Go.Proofs

-- (*valise/cache.Cache).Pins
set_option maxRecDepth 100000 in
theorem pins_none {w : World} {c e r : Nat} {bud : Int} {L : List Nd} {k : Key} (h : CAt w c e r bud L) (hk : ∀ n ∈ L, n.key ≠ k) : Ret Try.prog 22 #[ptr c, encK k] w fun v w' => v = .int .i64 0 ∧ New w w' := by
  have M : St None' w [] w := Frm.refl _ _
  have hlk := h.look k
  have hc := h.hc
  rw [(findK_none (L := L) (k := k) (by unfold findK; rw [List.find?_eq_none.2 (fun n hn => by simpa using hk n hn)]; rfl)).2] at hlk
  refine Ret.of_W Try.func22 rfl Try.ntmps22 rfl ?_
  refine W.seq ?_
  refine W.sub [(0, _), (1, _)] ⟨rfl, rfl, trivial⟩ ?_
  refine W.reg [(0, true), (1, false)] (by kernel_rfl) ?_ -- region 0
  intro K hK
  refine x_box [_, _] rfl rfl rfl rfl rfl ?_ -- bx1 cache.go:211
  intro bbx1 wbx1 hbbx1 hwbx1
  have M := M.alloc hbbx1 hwbx1
  have hcx := hp_al hwbx1 hc
  have hlk := hlk.alloc hwbx1
  refine ⟨trivial, ?_⟩
  refine x_assign rfl rfl rfl rfl ?_
  refine Ex.done (hK _ _ ?_)
  refine At.then_n ?_
  refine W.seq ?_
  refine W.seq ?_
  refine W.sub [(0, _), (3, _), (4, _)] ⟨rfl, rfl, rfl, trivial⟩ ?_
  refine W.reg [(0, false), (1, true), (2, false)] (by kernel_rfl) ?_ -- region 1
  intro K hK
  refine x_move rfl rfl rfl rfl ?_
  -- call1: (*valise/cache.Cache).made cache.go:212
  refine x_call rfl rfl rfl rfl rfl en25 (made_ok hcx) ?_
  rintro v w1 ⟨rfl, rfl⟩
  refine ⟨trivial, ?_⟩
  refine x_not false rfl rfl rfl rfl rfl ?_ -- un1 cache.go:212
  refine Ex.done (hK _ _ ?_)
  refine At.then_n ?_
  refine W.condF rfl ?_ -- co1
  refine W.skip ?_
  refine At.then_n ?_
  refine W.seq ?_
  refine W.seq ?_
  refine W.sub [(0, _), (3, _), (4, _)] ⟨rfl, rfl, rfl, trivial⟩ ?_
  refine W.regD (by kernel_rfl) #[0, 1, 3, 7, 0, 31, 63, 127, 127, 255, 1023] [(0, false), (1, false), (2, false), (3, false), (4, false), (5, false), (6, false), (7, false), (8, false), (9, false), (10, false)] (by kernel_rfl) ?_ -- region 3
  intro K wD1 hK hwD1
  have M := M.drew hwD1
  have hcx := (hp_drew hwD1 c).trans hcx
  have hlk := hlk.same (hp_drew hwD1 r)
  refine x_move rfl rfl rfl rfl ?_
  refine x_nil rfl rfl rfl rfl rfl ?_
  refine x_fa rfl rfl rfl fo63_3 rfl ?_
  refine x_ld rfl rfl rfl Try.underlying61 rfl rfl (cell_of hcx rfl) ?_ -- ld1 cache.go:215
  refine x_ldA [_, _] rfl rfl rfl Try.underlying29 rfl sz29 rfl rfl ⟨_, _, _, (by first | exact M.at_ 0 rfl | exact M.at_ 1 rfl | exact M.at_ 2 rfl | exact M.at_ 3 rfl | exact M.at_ 4 rfl | exact M.at_ 5 rfl), rfl⟩ ?_ -- ld2 cache.go:215
  refine x_lk2 k rfl rfl rfl keyLaw Try.underlying61 ze58 rfl rfl hlk ?_ -- lk1 cache.go:215
  refine x_move rfl rfl rfl rfl ?_
  refine x_ext rfl rfl rfl rfl rfl ?_ -- ex1
  refine x_ext rfl rfl rfl rfl rfl ?_ -- ex2
  refine x_assign rfl rfl rfl rfl ?_
  refine x_assign rfl rfl rfl rfl ?_
  refine Ex.done (hK _ _ ?_)
  refine At.then_n ?_
  refine W.seq ?_
  refine W.sub [(4, _), (5, _), (6, _)] ⟨rfl, rfl, rfl, trivial⟩ ?_
  refine W.reg [(0, false)] (by kernel_rfl) ?_ -- region 4
  intro K hK
  refine x_move rfl rfl rfl rfl ?_
  refine Ex.done (hK _ _ ?_)
  refine At.then_n ?_
  refine W.condF rfl ?_ -- co2
  refine W.skip ?_
  refine At.then_n ?_
  refine W.seq ?_
  refine W.sub [(4, _)] ⟨rfl, trivial⟩ ?_
  refine W.reg [(0, false)] (by kernel_rfl) ?_ -- region 6
  intro K hK
  refine x_assign rfl rfl rfl rfl ?_
  refine Ex.done (hK _ _ ?_)
  refine At.then_n ?_
  refine W.ret ?_
  refine At.ret1 (.tmp 4) rfl ⟨rfl, trivial⟩ ?_ -- ret1
  exact ⟨rfl, M.frm⟩

-- (*valise/cache.Cache).Pins
set_option maxRecDepth 100000 in
theorem pins_some {w : World} {c e r : Nat} {bud : Int} {A B : List Nd} {l : Nd} {k : Key} (h : CAt w c e r bud (A ++ l :: B)) (hk : l.key = k) : Ret Try.prog 22 #[ptr c, encK k] w fun v w' => v = .int .i64 l.pins ∧ New w w' := by
  have M : St None' w [] w := Frm.refl _ _
  have hlk := h.look k
  have hc := h.hc
  obtain ⟨l2, hfk⟩ : ∃ l2, findK (A ++ l :: B) k = some (ptr l.id) := by
    obtain ⟨A', l', B', h1, h2, h3, _⟩ := findK_some (L := A ++ l :: B) (k := k) (by unfold findK; rw [Option.isSome_map]; exact List.find?_isSome.2 ⟨l, by simp, by simp [hk]⟩)
    have : l' = l := key_inj h.keys (by rw [h1]; simp) (by simp) (h2.trans hk.symm)
    exact ⟨(), by rw [h3, this]⟩
  rw [hfk] at hlk
  obtain ⟨hnode, hne⟩ := h.ring.node_at
  refine Ret.of_W Try.func22 rfl Try.ntmps22 rfl ?_
  refine W.seq ?_
  refine W.sub [(0, _), (1, _)] ⟨rfl, rfl, trivial⟩ ?_
  refine W.reg [(0, true), (1, false)] (by kernel_rfl) ?_ -- region 0
  intro K hK
  refine x_box [_, _] rfl rfl rfl rfl rfl ?_ -- bx1 cache.go:211
  intro bbx1 wbx1 hbbx1 hwbx1
  have M := M.alloc hbbx1 hwbx1
  have hcx := hp_al hwbx1 hc
  have hlk := hlk.alloc hwbx1
  have hnd := hp_al hwbx1 hnode
  refine ⟨trivial, ?_⟩
  refine x_assign rfl rfl rfl rfl ?_
  refine Ex.done (hK _ _ ?_)
  refine At.then_n ?_
  refine W.seq ?_
  refine W.seq ?_
  refine W.sub [(0, _), (3, _), (4, _)] ⟨rfl, rfl, rfl, trivial⟩ ?_
  refine W.reg [(0, false), (1, true), (2, false)] (by kernel_rfl) ?_ -- region 1
  intro K hK
  refine x_move rfl rfl rfl rfl ?_
  -- call1: (*valise/cache.Cache).made cache.go:212
  refine x_call rfl rfl rfl rfl rfl en25 (made_ok hcx) ?_
  rintro v w1 ⟨rfl, rfl⟩
  refine ⟨trivial, ?_⟩
  refine x_not false rfl rfl rfl rfl rfl ?_ -- un1 cache.go:212
  refine Ex.done (hK _ _ ?_)
  refine At.then_n ?_
  refine W.condF rfl ?_ -- co1
  refine W.skip ?_
  refine At.then_n ?_
  refine W.seq ?_
  refine W.seq ?_
  refine W.sub [(0, _), (3, _), (4, _)] ⟨rfl, rfl, rfl, trivial⟩ ?_
  refine W.regD (by kernel_rfl) #[0, 1, 3, 7, 0, 31, 63, 127, 127, 255, 1023] [(0, false), (1, false), (2, false), (3, false), (4, false), (5, false), (6, false), (7, false), (8, false), (9, false), (10, false)] (by kernel_rfl) ?_ -- region 3
  intro K wD1 hK hwD1
  have M := M.drew hwD1
  have hcx := (hp_drew hwD1 c).trans hcx
  have hlk := hlk.same (hp_drew hwD1 r)
  have hnd := (hp_drew hwD1 l.id).trans hnd
  refine x_move rfl rfl rfl rfl ?_
  refine x_nil rfl rfl rfl rfl rfl ?_
  refine x_fa rfl rfl rfl fo63_3 rfl ?_
  refine x_ld rfl rfl rfl Try.underlying61 rfl rfl (cell_of hcx rfl) ?_ -- ld1 cache.go:215
  refine x_ldA [_, _] rfl rfl rfl Try.underlying29 rfl sz29 rfl rfl ⟨_, _, _, (by first | exact M.at_ 0 rfl | exact M.at_ 1 rfl | exact M.at_ 2 rfl | exact M.at_ 3 rfl | exact M.at_ 4 rfl | exact M.at_ 5 rfl), rfl⟩ ?_ -- ld2 cache.go:215
  refine x_lk2 k rfl rfl rfl keyLaw Try.underlying61 ze58 rfl rfl hlk ?_ -- lk1 cache.go:215
  refine x_move rfl rfl rfl rfl ?_
  refine x_ext rfl rfl rfl rfl rfl ?_ -- ex1
  refine x_ext rfl rfl rfl rfl rfl ?_ -- ex2
  refine x_assign rfl rfl rfl rfl ?_
  refine x_assign rfl rfl rfl rfl ?_
  refine Ex.done (hK _ _ ?_)
  refine At.then_n ?_
  refine W.seq ?_
  refine W.sub [(4, _), (5, _), (6, _)] ⟨rfl, rfl, rfl, trivial⟩ ?_
  refine W.reg [(0, false)] (by kernel_rfl) ?_ -- region 4
  intro K hK
  refine x_move rfl rfl rfl rfl ?_
  refine Ex.done (hK _ _ ?_)
  refine At.then_n ?_
  refine W.condT rfl ?_ -- co2
  refine W.seq ?_
  refine W.sub [(4, _), (5, _)] ⟨rfl, rfl, trivial⟩ ?_
  refine W.reg [(0, false), (1, false), (2, false), (3, false), (4, false), (5, false)] (by kernel_rfl) ?_ -- region 5
  intro K hK
  refine x_move rfl rfl rfl rfl ?_
  refine x_nil rfl rfl rfl rfl rfl ?_
  refine x_fa rfl rfl rfl fo70_0 rfl ?_
  refine x_fa rfl rfl rfl fo67_2 rfl ?_
  refine x_ld rfl rfl rfl Try.underlying3 rfl rfl (cell_of hnd rfl) ?_ -- ld3 cache.go:216
  refine x_assign rfl rfl rfl rfl ?_
  refine Ex.done (hK _ _ ?_)
  refine At.then_n ?_
  refine W.ret ?_
  refine At.then_r ?_
  refine At.ret1 (.tmp 4) rfl ⟨rfl, trivial⟩ ?_ -- ret1
  exact ⟨rfl, M.frm⟩

-- (*valise/cache.Cache).Get
set_option maxRecDepth 100000 in
theorem get_none {w : World} {c e r : Nat} {bud : Int} {L : List Nd} {k : Key} (h : CAt w c e r bud L) (hk : ∀ n ∈ L, n.key ≠ k) : Ret Try.prog 16 #[ptr c, encK k] w fun v w' => v = .tuple #[.slice none 0 0, .bool false] ∧ New w w' := by
  have M : St None' w [] w := Frm.refl _ _
  have hlk := h.look k
  have hc := h.hc
  rw [(findK_none (L := L) (k := k) (by unfold findK; rw [List.find?_eq_none.2 (fun n hn => by simpa using hk n hn)]; rfl)).2] at hlk
  refine Ret.of_W Try.func16 rfl Try.ntmps16 rfl ?_
  refine W.seq ?_
  refine W.sub [(0, _), (1, _)] ⟨rfl, rfl, trivial⟩ ?_
  refine W.reg [(0, true), (1, false), (2, false)] (by kernel_rfl) ?_ -- region 0
  intro K hK
  refine x_box [_, _] rfl rfl rfl rfl rfl ?_ -- bx1 cache.go:100
  intro bbx1 wbx1 hbbx1 hwbx1
  have M := M.alloc hbbx1 hwbx1
  have hcx := hp_al hwbx1 hc
  have hlk := hlk.alloc hwbx1
  refine ⟨trivial, ?_⟩
  refine x_assign rfl rfl rfl rfl ?_
  refine x_assign rfl rfl rfl rfl ?_
  refine Ex.done (hK _ _ ?_)
  refine At.then_n ?_
  refine W.seq ?_
  refine W.seq ?_
  refine W.sub [(0, _), (3, _), (4, _), (5, _)] ⟨rfl, rfl, rfl, rfl, trivial⟩ ?_
  refine W.reg [(0, false), (1, true), (2, false)] (by kernel_rfl) ?_ -- region 1
  intro K hK
  refine x_move rfl rfl rfl rfl ?_
  -- call1: (*valise/cache.Cache).made cache.go:101
  refine x_call rfl rfl rfl rfl rfl en25 (made_ok hcx) ?_
  rintro v w1 ⟨rfl, rfl⟩
  refine ⟨trivial, ?_⟩
  refine x_not false rfl rfl rfl rfl rfl ?_ -- un1 cache.go:101
  refine Ex.done (hK _ _ ?_)
  refine At.then_n ?_
  refine W.condF rfl ?_ -- co1
  refine W.skip ?_
  refine At.then_n ?_
  refine W.seq ?_
  refine W.sub [(0, _), (3, _), (4, _), (5, _)] ⟨rfl, rfl, rfl, rfl, trivial⟩ ?_
  refine W.regD (by kernel_rfl) #[0, 1, 3, 7, 0, 31, 63, 127, 127, 255, 1023] [(0, false), (1, false), (2, false), (3, false), (4, false), (5, false), (6, false), (7, false), (8, false), (9, false), (10, false)] (by kernel_rfl) ?_ -- region 3
  intro K wD1 hK hwD1
  have M := M.drew hwD1
  have hcx := (hp_drew hwD1 c).trans hcx
  have hlk := hlk.same (hp_drew hwD1 r)
  refine x_move rfl rfl rfl rfl ?_
  refine x_nil rfl rfl rfl rfl rfl ?_
  refine x_fa rfl rfl rfl fo63_3 rfl ?_
  refine x_ld rfl rfl rfl Try.underlying61 rfl rfl (cell_of hcx rfl) ?_ -- ld1 cache.go:104
  refine x_ldA [_, _] rfl rfl rfl Try.underlying29 rfl sz29 rfl rfl ⟨_, _, _, (by first | exact M.at_ 0 rfl | exact M.at_ 1 rfl | exact M.at_ 2 rfl | exact M.at_ 3 rfl | exact M.at_ 4 rfl | exact M.at_ 5 rfl), rfl⟩ ?_ -- ld2 cache.go:104
  refine x_lk2 k rfl rfl rfl keyLaw Try.underlying61 ze58 rfl rfl hlk ?_ -- lk1 cache.go:104
  refine x_move rfl rfl rfl rfl ?_
  refine x_ext rfl rfl rfl rfl rfl ?_ -- ex1
  refine x_ext rfl rfl rfl rfl rfl ?_ -- ex2
  refine x_assign rfl rfl rfl rfl ?_
  refine x_assign rfl rfl rfl rfl ?_
  refine Ex.done (hK _ _ ?_)
  refine At.then_n ?_
  refine W.seq ?_
  refine W.seq ?_
  refine W.sub [(0, _), (4, _), (5, _), (6, _), (7, _)] ⟨rfl, rfl, rfl, rfl, rfl, trivial⟩ ?_
  refine W.reg [(0, false), (1, false)] (by kernel_rfl) ?_ -- region 4
  intro K hK
  refine x_move rfl rfl rfl rfl ?_
  refine x_not true rfl rfl rfl rfl rfl ?_ -- un2 cache.go:105
  refine Ex.done (hK _ _ ?_)
  refine At.then_n ?_
  refine W.condT rfl ?_ -- co2
  refine W.seq ?_
  refine W.sub [(0, _), (4, _), (5, _), (6, _)] ⟨rfl, rfl, rfl, rfl, trivial⟩ ?_
  refine W.reg [(0, false), (1, false)] (by kernel_rfl) ?_ -- region 5
  intro K hK
  refine x_assign rfl rfl rfl rfl ?_
  refine x_assign rfl rfl rfl rfl ?_
  refine Ex.done (hK _ _ ?_)
  refine At.then_n ?_
  refine W.ret ?_
  refine At.then_r ?_
  refine At.ret2 (.tmp 4) (.tmp 5) rfl ⟨rfl, rfl, trivial⟩ ?_ -- ret1
  exact ⟨rfl, M.frm⟩

-- (*valise/cache.Cache).Get
set_option maxRecDepth 100000 in
theorem get_some {w : World} {c e r : Nat} {bud : Int} {A B : List Nd} {l : Nd} {k : Key} (h : CAt w c e r bud (A ++ l :: B)) (hk : l.key = k) : Ret Try.prog 16 #[ptr c, encK k] w fun v w' => ∃ sv, v = .tuple #[sv, .bool true] ∧ BytesAt w' sv l.b ∧ (∀ g, blkOf sv = some g → w.heap.size ≤ g) ∧ CAt w' c e r bud (l :: (A ++ B)) ∧ Frm (InRing e (A ++ l :: B)) w w' := by
  have M : St None' w [] w := Frm.refl _ _
  have hlk := h.look k
  have hc := h.hc
  obtain ⟨l2, hfk⟩ : ∃ l2, findK (A ++ l :: B) k = some (ptr l.id) := by
    obtain ⟨A', l', B', h1, h2, h3, _⟩ := findK_some (L := A ++ l :: B) (k := k) (by unfold findK; rw [Option.isSome_map]; exact List.find?_isSome.2 ⟨l, by simp, by simp [hk]⟩)
    have : l' = l := key_inj h.keys (by rw [h1]; simp) (by simp) (h2.trans hk.symm)
    exact ⟨(), by rw [h3, this]⟩
  rw [hfk] at hlk
  obtain ⟨hnode, hne⟩ := h.ring.node_at
  refine Ret.of_W Try.func16 rfl Try.ntmps16 rfl ?_
  refine W.seq ?_
  refine W.sub [(0, _), (1, _)] ⟨rfl, rfl, trivial⟩ ?_
  refine W.reg [(0, true), (1, false), (2, false)] (by kernel_rfl) ?_ -- region 0
  intro K hK
  refine x_box [_, _] rfl rfl rfl rfl rfl ?_ -- bx1 cache.go:100
  intro bbx1 wbx1 hbbx1 hwbx1
  have M := M.alloc hbbx1 hwbx1
  have hcx := hp_al hwbx1 hc
  have hlk := hlk.alloc hwbx1
  have hnd := hp_al hwbx1 hnode
  refine ⟨trivial, ?_⟩
  refine x_assign rfl rfl rfl rfl ?_
  refine x_assign rfl rfl rfl rfl ?_
  refine Ex.done (hK _ _ ?_)
  refine At.then_n ?_
  refine W.seq ?_
  refine W.seq ?_
  refine W.sub [(0, _), (3, _), (4, _), (5, _)] ⟨rfl, rfl, rfl, rfl, trivial⟩ ?_
  refine W.reg [(0, false), (1, true), (2, false)] (by kernel_rfl) ?_ -- region 1
  intro K hK
  refine x_move rfl rfl rfl rfl ?_
  -- call1: (*valise/cache.Cache).made cache.go:101
  refine x_call rfl rfl rfl rfl rfl en25 (made_ok hcx) ?_
  rintro v w1 ⟨rfl, rfl⟩
  refine ⟨trivial, ?_⟩
  refine x_not false rfl rfl rfl rfl rfl ?_ -- un1 cache.go:101
  refine Ex.done (hK _ _ ?_)
  refine At.then_n ?_
  refine W.condF rfl ?_ -- co1
  refine W.skip ?_
  refine At.then_n ?_
  refine W.seq ?_
  refine W.sub [(0, _), (3, _), (4, _), (5, _)] ⟨rfl, rfl, rfl, rfl, trivial⟩ ?_
  refine W.regD (by kernel_rfl) #[0, 1, 3, 7, 0, 31, 63, 127, 127, 255, 1023] [(0, false), (1, false), (2, false), (3, false), (4, false), (5, false), (6, false), (7, false), (8, false), (9, false), (10, false)] (by kernel_rfl) ?_ -- region 3
  intro K wD1 hK hwD1
  have M := M.drew hwD1
  have hcx := (hp_drew hwD1 c).trans hcx
  have hlk := hlk.same (hp_drew hwD1 r)
  have hnd := (hp_drew hwD1 l.id).trans hnd
  refine x_move rfl rfl rfl rfl ?_
  refine x_nil rfl rfl rfl rfl rfl ?_
  refine x_fa rfl rfl rfl fo63_3 rfl ?_
  refine x_ld rfl rfl rfl Try.underlying61 rfl rfl (cell_of hcx rfl) ?_ -- ld1 cache.go:104
  refine x_ldA [_, _] rfl rfl rfl Try.underlying29 rfl sz29 rfl rfl ⟨_, _, _, (by first | exact M.at_ 0 rfl | exact M.at_ 1 rfl | exact M.at_ 2 rfl | exact M.at_ 3 rfl | exact M.at_ 4 rfl | exact M.at_ 5 rfl), rfl⟩ ?_ -- ld2 cache.go:104
  refine x_lk2 k rfl rfl rfl keyLaw Try.underlying61 ze58 rfl rfl hlk ?_ -- lk1 cache.go:104
  refine x_move rfl rfl rfl rfl ?_
  refine x_ext rfl rfl rfl rfl rfl ?_ -- ex1
  refine x_ext rfl rfl rfl rfl rfl ?_ -- ex2
  refine x_assign rfl rfl rfl rfl ?_
  refine x_assign rfl rfl rfl rfl ?_
  refine Ex.done (hK _ _ ?_)
  refine At.then_n ?_
  refine W.seq ?_
  refine W.seq ?_
  refine W.sub [(0, _), (4, _), (5, _), (6, _), (7, _)] ⟨rfl, rfl, rfl, rfl, rfl, trivial⟩ ?_
  refine W.reg [(0, false), (1, false)] (by kernel_rfl) ?_ -- region 4
  intro K hK
  refine x_move rfl rfl rfl rfl ?_
  refine x_not false rfl rfl rfl rfl rfl ?_ -- un2 cache.go:105
  refine Ex.done (hK _ _ ?_)
  refine At.then_n ?_
  refine W.condF rfl ?_ -- co2
  refine W.skip ?_
  refine At.then_n ?_
  refine W.seq ?_
  refine W.sub [(0, _), (4, _), (5, _), (6, _)] ⟨rfl, rfl, rfl, rfl, trivial⟩ ?_
  refine W.reg [(0, false), (1, false), (2, true)] (by kernel_rfl) ?_ -- region 6
  intro K hK
  refine x_move rfl rfl rfl rfl ?_
  refine x_move rfl rfl rfl rfl ?_
  -- call2: (*valise/cache.Cache).use cache.go:108
  refine x_call rfl rfl rfl rfl rfl en29 (use_c (h.new M.frm)) ?_
  rintro v w1 ⟨rfl, hcat, hF⟩
  have hn2 := (Ring.node_at (A := []) hcat.ring).1
  unfold nodeO at hn2
  refine ⟨trivial, ?_⟩
  refine Ex.done (hK _ _ ?_)
  refine At.then_n ?_
  refine W.seq ?_
  refine W.sub [(4, _), (5, _), (6, _)] ⟨rfl, rfl, rfl, trivial⟩ ?_
  refine W.reg [(0, false), (1, false), (2, false), (3, false), (4, false), (5, true), (6, false), (7, false)] (by kernel_rfl) ?_ -- region 7
  intro K hK
  refine x_move rfl rfl rfl rfl ?_
  refine x_nil rfl rfl rfl rfl rfl ?_
  refine x_fa rfl rfl rfl fo70_0 rfl ?_
  refine x_fa rfl rfl rfl fo67_1 rfl ?_
  refine x_ld rfl rfl rfl Try.underlying31 rfl rfl (cell_of hn2 rfl) ?_ -- ld3 cache.go:109
  -- call3: slices.Clone[[]byte,byte] cache.go:109
  refine x_call rfl rfl rfl rfl rfl en28 (clone_c (hcat.bs l (by simp)).in_ (by have := hcat.len l (by simp); omega)) ?_
  rintro v w2 ⟨hv1, hv2, hv3⟩
  refine ⟨trivial, ?_⟩
  refine x_assign rfl rfl rfl rfl ?_
  refine x_assign rfl rfl rfl rfl ?_
  refine Ex.done (hK _ _ ?_)
  refine At.then_n ?_
  refine W.ret ?_
  refine At.ret2 (.tmp 4) (.tmp 5) rfl ⟨rfl, rfl, trivial⟩ ?_ -- ret1
  have hF1 : Frm (InRing e (A ++ l :: B)) w wD1 := Frm.sub M.frm (fun _ h => h.elim)
  have hF2 := hF1.trans' hF
  refine ⟨_, rfl, hv1, fun g hg => Nat.le_trans hF2.size (hv3 g hg), hcat.new hv2, hF2.trans' (Frm.sub hv2 (fun _ h => h.elim))⟩

-- (*valise/cache.Cache).Pin
set_option maxRecDepth 100000 in
theorem pinP_none {w : World} {c e r : Nat} {bud : Int} {L : List Nd} {k : Key} (h : CAt w c e r bud L) (hk : ∀ n ∈ L, n.key ≠ k) : Ret Try.prog 20 #[ptr c, encK k] w fun v w' => v = .int .i64 9 ∧ New w w' := by
  have M : St None' w [] w := Frm.refl _ _
  refine Ret.of_W Try.func20 rfl Try.ntmps20 rfl ?_
  refine W.seq ?_
  refine W.sub [(0, _), (1, _)] ⟨rfl, rfl, trivial⟩ ?_
  refine W.reg [(0, true), (1, false)] (by kernel_rfl) ?_ -- region 0
  intro K hK
  refine x_box [_, _] rfl rfl rfl rfl rfl ?_ -- bx1 cache.go:170
  intro bbx1 wbx1 hbbx1 hwbx1
  have M := M.alloc hbbx1 hwbx1
  refine ⟨trivial, ?_⟩
  refine x_assign rfl rfl rfl rfl ?_
  refine Ex.done (hK _ _ ?_)
  refine At.then_n ?_
  refine W.seq ?_
  refine W.sub [(0, _), (3, _), (4, _)] ⟨rfl, rfl, rfl, trivial⟩ ?_
  refine W.reg [(0, false), (1, false), (2, true), (3, false)] (by kernel_rfl) ?_ -- region 1
  intro K hK
  refine x_move rfl rfl rfl rfl ?_
  refine x_ldA [_, _] rfl rfl rfl Try.underlying29 rfl sz29 rfl rfl ⟨_, _, _, (by first | exact M.at_ 0 rfl | exact M.at_ 1 rfl | exact M.at_ 2 rfl | exact M.at_ 3 rfl | exact M.at_ 4 rfl | exact M.at_ 5 rfl), rfl⟩ ?_ -- ld1 cache.go:170
  -- call1: (*valise/cache.Cache).pin cache.go:170
  refine x_call rfl rfl rfl rfl rfl en38 (pin_none (h.new M.frm) hk) ?_
  rintro v w1 ⟨rfl, hn⟩
  refine ⟨trivial, ?_⟩
  refine x_assign rfl rfl rfl rfl ?_
  refine Ex.done (hK _ _ ?_)
  refine At.then_n ?_
  refine W.ret ?_
  refine At.ret1 (.tmp 4) rfl ⟨rfl, trivial⟩ ?_ -- ret1
  exact ⟨rfl, Frm.trans' M.frm hn⟩

-- (*valise/cache.Cache).Pin
set_option maxRecDepth 100000 in
theorem pinP_some {w : World} {c e r : Nat} {bud : Int} {A B : List Nd} {l : Nd} {k : Key} (h : CAt w c e r bud (A ++ l :: B)) (hk : l.key = k) (hp : 0 ≤ l.pins ∧ l.pins < 1000000000) : Ret Try.prog 20 #[ptr c, encK k] w fun v w' => (l.pins + (1) < 0 ∧ v = .int .i64 2 ∧ New w w') ∨ (0 ≤ l.pins + (1) ∧ v = .int .i64 0 ∧ CAt w' c e r bud (A ++ { l with pins := l.pins + (1) } :: B) ∧ Frm (fun b => b = l.id) w w') := by
  have M : St None' w [] w := Frm.refl _ _
  refine Ret.of_W Try.func20 rfl Try.ntmps20 rfl ?_
  refine W.seq ?_
  refine W.sub [(0, _), (1, _)] ⟨rfl, rfl, trivial⟩ ?_
  refine W.reg [(0, true), (1, false)] (by kernel_rfl) ?_ -- region 0
  intro K hK
  refine x_box [_, _] rfl rfl rfl rfl rfl ?_ -- bx1 cache.go:170
  intro bbx1 wbx1 hbbx1 hwbx1
  have M := M.alloc hbbx1 hwbx1
  refine ⟨trivial, ?_⟩
  refine x_assign rfl rfl rfl rfl ?_
  refine Ex.done (hK _ _ ?_)
  refine At.then_n ?_
  refine W.seq ?_
  refine W.sub [(0, _), (3, _), (4, _)] ⟨rfl, rfl, rfl, trivial⟩ ?_
  refine W.reg [(0, false), (1, false), (2, true), (3, false)] (by kernel_rfl) ?_ -- region 1
  intro K hK
  refine x_move rfl rfl rfl rfl ?_
  refine x_ldA [_, _] rfl rfl rfl Try.underlying29 rfl sz29 rfl rfl ⟨_, _, _, (by first | exact M.at_ 0 rfl | exact M.at_ 1 rfl | exact M.at_ 2 rfl | exact M.at_ 3 rfl | exact M.at_ 4 rfl | exact M.at_ 5 rfl), rfl⟩ ?_ -- ld1 cache.go:170
  -- call1: (*valise/cache.Cache).pin cache.go:170
  refine x_call rfl rfl rfl rfl rfl en38 (pin_some (h.new M.frm) hk (by decide) hp) ?_
  rintro v w1 hpost
  refine ⟨trivial, ?_⟩
  refine x_assign rfl rfl rfl rfl ?_
  refine Ex.done (hK _ _ ?_)
  refine At.then_n ?_
  refine W.ret ?_
  refine At.ret1 (.tmp 4) rfl ⟨rfl, trivial⟩ ?_ -- ret1
  rcases hpost with ⟨h1, h2, h3⟩ | ⟨h1, h2, h3, h4⟩
  · exact .inl ⟨h1, h2, Frm.trans' M.frm h3⟩
  · exact .inr ⟨h1, h2, h3, (Frm.sub M.frm (fun _ h => h.elim)).trans' h4⟩

-- (*valise/cache.Cache).Unpin
set_option maxRecDepth 100000 in
theorem unpin_none {w : World} {c e r : Nat} {bud : Int} {L : List Nd} {k : Key} (h : CAt w c e r bud L) (hk : ∀ n ∈ L, n.key ≠ k) : Ret Try.prog 21 #[ptr c, encK k] w fun v w' => v = .int .i64 9 ∧ New w w' := by
  have M : St None' w [] w := Frm.refl _ _
  refine Ret.of_W Try.func21 rfl Try.ntmps21 rfl ?_
  refine W.seq ?_
  refine W.sub [(0, _), (1, _)] ⟨rfl, rfl, trivial⟩ ?_
  refine W.reg [(0, true), (1, false)] (by kernel_rfl) ?_ -- region 0
  intro K hK
  refine x_box [_, _] rfl rfl rfl rfl rfl ?_ -- bx1 cache.go:173
  intro bbx1 wbx1 hbbx1 hwbx1
  have M := M.alloc hbbx1 hwbx1
  refine ⟨trivial, ?_⟩
  refine x_assign rfl rfl rfl rfl ?_
  refine Ex.done (hK _ _ ?_)
  refine At.then_n ?_
  refine W.seq ?_
  refine W.sub [(0, _), (3, _), (4, _)] ⟨rfl, rfl, rfl, trivial⟩ ?_
  refine W.reg [(0, false), (1, false), (2, true), (3, false)] (by kernel_rfl) ?_ -- region 1
  intro K hK
  refine x_move rfl rfl rfl rfl ?_
  refine x_ldA [_, _] rfl rfl rfl Try.underlying29 rfl sz29 rfl rfl ⟨_, _, _, (by first | exact M.at_ 0 rfl | exact M.at_ 1 rfl | exact M.at_ 2 rfl | exact M.at_ 3 rfl | exact M.at_ 4 rfl | exact M.at_ 5 rfl), rfl⟩ ?_ -- ld1 cache.go:173
  -- call1: (*valise/cache.Cache).pin cache.go:173
  refine x_call rfl rfl rfl rfl rfl en38 (pin_none (h.new M.frm) hk) ?_
  rintro v w1 ⟨rfl, hn⟩
  refine ⟨trivial, ?_⟩
  refine x_assign rfl rfl rfl rfl ?_
  refine Ex.done (hK _ _ ?_)
  refine At.then_n ?_
  refine W.ret ?_
  refine At.ret1 (.tmp 4) rfl ⟨rfl, trivial⟩ ?_ -- ret1
  exact ⟨rfl, Frm.trans' M.frm hn⟩

-- (*valise/cache.Cache).Unpin
set_option maxRecDepth 100000 in
theorem unpin_some {w : World} {c e r : Nat} {bud : Int} {A B : List Nd} {l : Nd} {k : Key} (h : CAt w c e r bud (A ++ l :: B)) (hk : l.key = k) (hp : 0 ≤ l.pins ∧ l.pins < 1000000000) : Ret Try.prog 21 #[ptr c, encK k] w fun v w' => (l.pins + (-1) < 0 ∧ v = .int .i64 2 ∧ New w w') ∨ (0 ≤ l.pins + (-1) ∧ v = .int .i64 0 ∧ CAt w' c e r bud (A ++ { l with pins := l.pins + (-1) } :: B) ∧ Frm (fun b => b = l.id) w w') := by
  have M : St None' w [] w := Frm.refl _ _
  refine Ret.of_W Try.func21 rfl Try.ntmps21 rfl ?_
  refine W.seq ?_
  refine W.sub [(0, _), (1, _)] ⟨rfl, rfl, trivial⟩ ?_
  refine W.reg [(0, true), (1, false)] (by kernel_rfl) ?_ -- region 0
  intro K hK
  refine x_box [_, _] rfl rfl rfl rfl rfl ?_ -- bx1 cache.go:173
  intro bbx1 wbx1 hbbx1 hwbx1
  have M := M.alloc hbbx1 hwbx1
  refine ⟨trivial, ?_⟩
  refine x_assign rfl rfl rfl rfl ?_
  refine Ex.done (hK _ _ ?_)
  refine At.then_n ?_
  refine W.seq ?_
  refine W.sub [(0, _), (3, _), (4, _)] ⟨rfl, rfl, rfl, trivial⟩ ?_
  refine W.reg [(0, false), (1, false), (2, true), (3, false)] (by kernel_rfl) ?_ -- region 1
  intro K hK
  refine x_move rfl rfl rfl rfl ?_
  refine x_ldA [_, _] rfl rfl rfl Try.underlying29 rfl sz29 rfl rfl ⟨_, _, _, (by first | exact M.at_ 0 rfl | exact M.at_ 1 rfl | exact M.at_ 2 rfl | exact M.at_ 3 rfl | exact M.at_ 4 rfl | exact M.at_ 5 rfl), rfl⟩ ?_ -- ld1 cache.go:173
  -- call1: (*valise/cache.Cache).pin cache.go:173
  refine x_call rfl rfl rfl rfl rfl en38 (pin_some (h.new M.frm) hk (by decide) hp) ?_
  rintro v w1 hpost
  refine ⟨trivial, ?_⟩
  refine x_assign rfl rfl rfl rfl ?_
  refine Ex.done (hK _ _ ?_)
  refine At.then_n ?_
  refine W.ret ?_
  refine At.ret1 (.tmp 4) rfl ⟨rfl, trivial⟩ ?_ -- ret1
  rcases hpost with ⟨h1, h2, h3⟩ | ⟨h1, h2, h3, h4⟩
  · exact .inl ⟨h1, h2, Frm.trans' M.frm h3⟩
  · exact .inr ⟨h1, h2, h3, (Frm.sub M.frm (fun _ h => h.elim)).trans' h4⟩
end Go.Proofs.Ytbbccdcjhoecpaa
