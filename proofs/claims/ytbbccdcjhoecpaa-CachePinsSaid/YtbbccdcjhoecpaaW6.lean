/-
  The walk of functions of the cache, by program: pins_none, pins_some, get_none, get_some, pinP_none, pinP_some, unpin_none, unpin_some.
-/
import Derived.Test.YtbbccdcjhoecpaaTab
import Derived.Test.YtbbccdcjhoecpaaW5
namespace Go.Proofs.Ytbbccdcjhoecpaa
open Go Go.Fw Go.RowKit Go.Proofs

-- (*valise/cache.Cache).Pins
set_option maxRecDepth 100000 in
theorem pins_none {w : World} {c e r : Nat} {bud : Int} {L : List Nd} {k : Key} (h : CAt w c e r bud L) (hk : ∀ n ∈ L, n.key ≠ k) : Ret Try.prog 22 #[ptr c, encK k] w fun v w' => v = .int .i64 0 ∧ New w w' := by
  have M : St None' w [] w := Frm.refl _ _
  have hlk := h.look k
  have hc := h.hc
  rw [(findK_none (L := L) (k := k) (by unfold findK; rw [List.find?_eq_none.2 (fun n hn => by simpa using hk n hn)]; rfl)).2] at hlk
  refine Ret.of_W Try.func22 rfl Try.ntmps22 rfl ?_
  refine W.seq ?_
  refine W.sub [(0, _), (1, _)] ⟨rfl, rfl, trivial⟩ ?_
  refine W.reg [(0, true), (1, false)] (by kernel_rfl) ?_ -- region 0
  intro K hK
  refine x_box [_, _] rfl rfl rfl rfl rfl ?_ -- bx1 cache.go:211
  intro bbx1 wbx1 hbbx1 hwbx1
  have M := M.alloc hbbx1 hwbx1
  have hcx := hp_al hwbx1 hc
  have hlk := hlk.alloc hwbx1
  refine ⟨trivial, ?_⟩
  refine x_assign rfl rfl rfl rfl ?_
  refine Ex.done (hK _ _ ?_)
  refine At.then_n ?_
  refine W.seq ?_
  refine W.seq ?_
  refine W.sub [(0, _), (3, _), (4, _)] ⟨rfl, rfl, rfl, trivial⟩ ?_
  refine W.reg [(0, false), (1, true), (2, false)] (by kernel_rfl) ?_ -- region 1
  intro K hK
  refine x_move rfl rfl rfl rfl ?_
  -- call1: (*valise/cache.Cache).made cache.go:212
  refine x_call rfl rfl rfl rfl rfl en25 (made_ok hcx) ?_
  rintro v w1 ⟨rfl, rfl⟩
  refine ⟨trivial, ?_⟩
  refine x_not false rfl rfl rfl rfl rfl ?_ -- un1 cache.go:212
  refine Ex.done (hK _ _ ?_)
  refine At.then_n ?_
  refine W.condF rfl ?_ -- co1
  refine W.skip ?_
  refine At.then_n ?_
  refine W.seq ?_
  refine W.seq ?_
  refine W.sub [(0, _), (3, _), (4, _)] ⟨rfl, rfl, rfl, trivial⟩ ?_
  refine W.regD (by kernel_rfl) #[0, 1, 3, 7, 0, 31, 63, 127, 127, 255, 1023] [(0, false), (1, false), (2, false), (3, false), (4, false), (5, false), (6, false), (7, false), (8, false), (9, false), (10, false)] (by kernel_rfl) ?_ -- region 3
  intro K wD1 hK hwD1
  have M := M.drew hwD1
  have hcx := (hp_drew hwD1 c).trans hcx
  have hlk := hlk.same (hp_drew hwD1 r)
  refine x_move rfl rfl rfl rfl ?_
  refine x_nil rfl rfl rfl rfl rfl ?_
  refine x_fa rfl rfl rfl fo63_3 rfl ?_
  refine x_ld rfl rfl rfl Try.underlying61 rfl rfl (cell_of hcx rfl) ?_ -- ld1 cache.go:215
  refine x_ldA [_, _] rfl rfl rfl Try.underlying29 rfl sz29 rfl rfl ⟨_, _, _, (by first | exact M.at_ 0 rfl | exact M.at_ 1 rfl | exact M.at_ 2 rfl | exact M.at_ 3 rfl | exact M.at_ 4 rfl | exact M.at_ 5 rfl), rfl⟩ ?_ -- ld2 cache.go:215
  refine x_lk2 k rfl rfl rfl keyLaw Try.underlying61 ze58 rfl rfl hlk ?_ -- lk1 cache.go:215
  refine x_move rfl rfl rfl rfl ?_
  refine x_ext rfl rfl rfl rfl rfl ?_ -- ex1
  refine x_ext rfl rfl rfl rfl rfl ?_ -- ex2
  refine x_assign rfl rfl rfl rfl ?_
  refine x_assign rfl rfl rfl rfl ?_
  refine Ex.done (hK _ _ ?_)
  refine At.then_n ?_
  refine W.seq ?_
  refine W.sub [(4, _), (5, _), (6, _)] ⟨rfl, rfl, rfl, trivial⟩ ?_
  refine W.reg [(0, false)] (by kernel_rfl) ?_ -- region 4
  intro K hK
  refine x_move rfl rfl rfl rfl ?_
  refine Ex.done (hK _ _ ?_)
  refine At.then_n ?_
  refine W.condF rfl ?_ -- co2
  refine W.skip ?_
  refine At.then_n ?_
  refine W.seq ?_
  refine W.sub [(4, _)] ⟨rfl, trivial⟩ ?_
  refine W.reg [(0, false)] (by kernel_rfl) ?_ -- region 6
  intro K hK
  refine x_assign rfl rfl rfl rfl ?_
  refine Ex.done (hK _ _ ?_)
  refine At.then_n ?_
  refine W.ret ?_
  refine At.ret1 (.tmp 4) rfl ⟨rfl, trivial⟩ ?_ -- ret1
  exact ⟨rfl, M.frm⟩

-- (*valise/cache.Cache).Pins
set_option maxRecDepth 100000 in
theorem pins_some {w : World} {c e r : Nat} {bud : Int} {A B : List Nd} {l : Nd} {k : Key} (h : CAt w c e r bud (A ++ l :: B)) (hk : l.key = k) : Ret Try.prog 22 #[ptr c, encK k] w fun v w' => v = .int .i64 l.pins ∧ New w w' := by
  have M : St None' w [] w := Frm.refl _ _
  have hlk := h.look k
  have hc := h.hc
  obtain ⟨l2, hfk⟩ : ∃ l2, findK (A ++ l :: B) k = some (ptr l.id) := by
    obtain ⟨A', l', B', h1, h2, h3, _⟩ := findK_some (L := A ++ l :: B) (k := k) (by unfold findK; rw [Option.isSome_map]; exact List.find?_isSome.2 ⟨l, by simp, by simp [hk]⟩)
    have : l' = l := key_inj h.keys (by rw [h1]; simp) (by simp) (h2.trans hk.symm)
    exact ⟨(), by rw [h3, this]⟩
  rw [hfk] at hlk
  obtain ⟨hnode, hne⟩ := h.ring.node_at
  refine Ret.of_W Try.func22 rfl Try.ntmps22 rfl ?_
  refine W.seq ?_
  refine W.sub [(0, _), (1, _)] ⟨rfl, rfl, trivial⟩ ?_
  refine W.reg [(0, true), (1, false)] (by kernel_rfl) ?_ -- region 0
  intro K hK
  refine x_box [_, _] rfl rfl rfl rfl rfl ?_ -- bx1 cache.go:211
  intro bbx1 wbx1 hbbx1 hwbx1
  have M := M.alloc hbbx1 hwbx1
  have hcx := hp_al hwbx1 hc
  have hlk := hlk.alloc hwbx1
  have hnd := hp_al hwbx1 hnode
  refine ⟨trivial, ?_⟩
  refine x_assign rfl rfl rfl rfl ?_
  refine Ex.done (hK _ _ ?_)
  refine At.then_n ?_
  refine W.seq ?_
  refine W.seq ?_
  refine W.sub [(0, _), (3, _), (4, _)] ⟨rfl, rfl, rfl, trivial⟩ ?_
  refine W.reg [(0, false), (1, true), (2, false)] (by kernel_rfl) ?_ -- region 1
  intro K hK
  refine x_move rfl rfl rfl rfl ?_
  -- call1: (*valise/cache.Cache).made cache.go:212
  refine x_call rfl rfl rfl rfl rfl en25 (made_ok hcx) ?_
  rintro v w1 ⟨rfl, rfl⟩
  refine ⟨trivial, ?_⟩
  refine x_not false rfl rfl rfl rfl rfl ?_ -- un1 cache.go:212
  refine Ex.done (hK _ _ ?_)
  refine At.then_n ?_
  refine W.condF rfl ?_ -- co1
  refine W.skip ?_
  refine At.then_n ?_
  refine W.seq ?_
  refine W.seq ?_
  refine W.sub [(0, _), (3, _), (4, _)] ⟨rfl, rfl, rfl, trivial⟩ ?_
  refine W.regD (by kernel_rfl) #[0, 1, 3, 7, 0, 31, 63, 127, 127, 255, 1023] [(0, false), (1, false), (2, false), (3, false), (4, false), (5, false), (6, false), (7, false), (8, false), (9, false), (10, false)] (by kernel_rfl) ?_ -- region 3
  intro K wD1 hK hwD1
  have M := M.drew hwD1
  have hcx := (hp_drew hwD1 c).trans hcx
  have hlk := hlk.same (hp_drew hwD1 r)
  have hnd := (hp_drew hwD1 l.id).trans hnd
  refine x_move rfl rfl rfl rfl ?_
  refine x_nil rfl rfl rfl rfl rfl ?_
  refine x_fa rfl rfl rfl fo63_3 rfl ?_
  refine x_ld rfl rfl rfl Try.underlying61 rfl rfl (cell_of hcx rfl) ?_ -- ld1 cache.go:215
  refine x_ldA [_, _] rfl rfl rfl Try.underlying29 rfl sz29 rfl rfl ⟨_, _, _, (by first | exact M.at_ 0 rfl | exact M.at_ 1 rfl | exact M.at_ 2 rfl | exact M.at_ 3 rfl | exact M.at_ 4 rfl | exact M.at_ 5 rfl), rfl⟩ ?_ -- ld2 cache.go:215
  refine x_lk2 k rfl rfl rfl keyLaw Try.underlying61 ze58 rfl rfl hlk ?_ -- lk1 cache.go:215
  refine x_move rfl rfl rfl rfl ?_
  refine x_ext rfl rfl rfl rfl rfl ?_ -- ex1
  refine x_ext rfl rfl rfl rfl rfl ?_ -- ex2
  refine x_assign rfl rfl rfl rfl ?_
  refine x_assign rfl rfl rfl rfl ?_
  refine Ex.done (hK _ _ ?_)
  refine At.then_n ?_
  refine W.seq ?_
  refine W.sub [(4, _), (5, _), (6, _)] ⟨rfl, rfl, rfl, trivial⟩ ?_
  refine W.reg [(0, false)] (by kernel_rfl) ?_ -- region 4
  intro K hK
  refine x_move rfl rfl rfl rfl ?_
  refine Ex.done (hK _ _ ?_)
  refine At.then_n ?_
  refine W.condT rfl ?_ -- co2
  refine W.seq ?_
  refine W.sub [(4, _), (5, _)] ⟨rfl, rfl, trivial⟩ ?_
  refine W.reg [(0, false), (1, false), (2, false), (3, false), (4, false), (5, false)] (by kernel_rfl) ?_ -- region 5
  intro K hK
  refine x_move rfl rfl rfl rfl ?_
  refine x_nil rfl rfl rfl rfl rfl ?_
  refine x_fa rfl rfl rfl fo70_0 rfl ?_
  refine x_fa rfl rfl rfl fo67_2 rfl ?_
  refine x_ld rfl rfl rfl Try.underlying3 rfl rfl (cell_of hnd rfl) ?_ -- ld3 cache.go:216
  refine x_assign rfl rfl rfl rfl ?_
  refine Ex.done (hK _ _ ?_)
  refine At.then_n ?_
  refine W.ret ?_
  refine At.then_r ?_
  refine At.ret1 (.tmp 4) rfl ⟨rfl, trivial⟩ ?_ -- ret1
  exact ⟨rfl, M.frm⟩

-- (*valise/cache.Cache).Get
set_option maxRecDepth 100000 in
theorem get_none {w : World} {c e r : Nat} {bud : Int} {L : List Nd} {k : Key} (h : CAt w c e r bud L) (hk : ∀ n ∈ L, n.key ≠ k) : Ret Try.prog 16 #[ptr c, encK k] w fun v w' => v = .tuple #[.slice none 0 0, .bool false] ∧ New w w' := by
  have M : St None' w [] w := Frm.refl _ _
  have hlk := h.look k
  have hc := h.hc
  rw [(findK_none (L := L) (k := k) (by unfold findK; rw [List.find?_eq_none.2 (fun n hn => by simpa using hk n hn)]; rfl)).2] at hlk
  refine Ret.of_W Try.func16 rfl Try.ntmps16 rfl ?_
  refine W.seq ?_
  refine W.sub [(0, _), (1, _)] ⟨rfl, rfl, trivial⟩ ?_
  refine W.reg [(0, true), (1, false), (2, false)] (by kernel_rfl) ?_ -- region 0
  intro K hK
  refine x_box [_, _] rfl rfl rfl rfl rfl ?_ -- bx1 cache.go:100
  intro bbx1 wbx1 hbbx1 hwbx1
  have M := M.alloc hbbx1 hwbx1
  have hcx := hp_al hwbx1 hc
  have hlk := hlk.alloc hwbx1
  refine ⟨trivial, ?_⟩
  refine x_assign rfl rfl rfl rfl ?_
  refine x_assign rfl rfl rfl rfl ?_
  refine Ex.done (hK _ _ ?_)
  refine At.then_n ?_
  refine W.seq ?_
  refine W.seq ?_
  refine W.sub [(0, _), (3, _), (4, _), (5, _)] ⟨rfl, rfl, rfl, rfl, trivial⟩ ?_
  refine W.reg [(0, false), (1, true), (2, false)] (by kernel_rfl) ?_ -- region 1
  intro K hK
  refine x_move rfl rfl rfl rfl ?_
  -- call1: (*valise/cache.Cache).made cache.go:101
  refine x_call rfl rfl rfl rfl rfl en25 (made_ok hcx) ?_
  rintro v w1 ⟨rfl, rfl⟩
  refine ⟨trivial, ?_⟩
  refine x_not false rfl rfl rfl rfl rfl ?_ -- un1 cache.go:101
  refine Ex.done (hK _ _ ?_)
  refine At.then_n ?_
  refine W.condF rfl ?_ -- co1
  refine W.skip ?_
  refine At.then_n ?_
  refine W.seq ?_
  refine W.sub [(0, _), (3, _), (4, _), (5, _)] ⟨rfl, rfl, rfl, rfl, trivial⟩ ?_
  refine W.regD (by kernel_rfl) #[0, 1, 3, 7, 0, 31, 63, 127, 127, 255, 1023] [(0, false), (1, false), (2, false), (3, false), (4, false), (5, false), (6, false), (7, false), (8, false), (9, false), (10, false)] (by kernel_rfl) ?_ -- region 3
  intro K wD1 hK hwD1
  have M := M.drew hwD1
  have hcx := (hp_drew hwD1 c).trans hcx
  have hlk := hlk.same (hp_drew hwD1 r)
  refine x_move rfl rfl rfl rfl ?_
  refine x_nil rfl rfl rfl rfl rfl ?_
  refine x_fa rfl rfl rfl fo63_3 rfl ?_
  refine x_ld rfl rfl rfl Try.underlying61 rfl rfl (cell_of hcx rfl) ?_ -- ld1 cache.go:104
  refine x_ldA [_, _] rfl rfl rfl Try.underlying29 rfl sz29 rfl rfl ⟨_, _, _, (by first | exact M.at_ 0 rfl | exact M.at_ 1 rfl | exact M.at_ 2 rfl | exact M.at_ 3 rfl | exact M.at_ 4 rfl | exact M.at_ 5 rfl), rfl⟩ ?_ -- ld2 cache.go:104
  refine x_lk2 k rfl rfl rfl keyLaw Try.underlying61 ze58 rfl rfl hlk ?_ -- lk1 cache.go:104
  refine x_move rfl rfl rfl rfl ?_
  refine x_ext rfl rfl rfl rfl rfl ?_ -- ex1
  refine x_ext rfl rfl rfl rfl rfl ?_ -- ex2
  refine x_assign rfl rfl rfl rfl ?_
  refine x_assign rfl rfl rfl rfl ?_
  refine Ex.done (hK _ _ ?_)
  refine At.then_n ?_
  refine W.seq ?_
  refine W.seq ?_
  refine W.sub [(0, _), (4, _), (5, _), (6, _), (7, _)] ⟨rfl, rfl, rfl, rfl, rfl, trivial⟩ ?_
  refine W.reg [(0, false), (1, false)] (by kernel_rfl) ?_ -- region 4
  intro K hK
  refine x_move rfl rfl rfl rfl ?_
  refine x_not true rfl rfl rfl rfl rfl ?_ -- un2 cache.go:105
  refine Ex.done (hK _ _ ?_)
  refine At.then_n ?_
  refine W.condT rfl ?_ -- co2
  refine W.seq ?_
  refine W.sub [(0, _), (4, _), (5, _), (6, _)] ⟨rfl, rfl, rfl, rfl, trivial⟩ ?_
  refine W.reg [(0, false), (1, false)] (by kernel_rfl) ?_ -- region 5
  intro K hK
  refine x_assign rfl rfl rfl rfl ?_
  refine x_assign rfl rfl rfl rfl ?_
  refine Ex.done (hK _ _ ?_)
  refine At.then_n ?_
  refine W.ret ?_
  refine At.then_r ?_
  refine At.ret2 (.tmp 4) (.tmp 5) rfl ⟨rfl, rfl, trivial⟩ ?_ -- ret1
  exact ⟨rfl, M.frm⟩

-- (*valise/cache.Cache).Get
set_option maxRecDepth 100000 in
theorem get_some {w : World} {c e r : Nat} {bud : Int} {A B : List Nd} {l : Nd} {k : Key} (h : CAt w c e r bud (A ++ l :: B)) (hk : l.key = k) : Ret Try.prog 16 #[ptr c, encK k] w fun v w' => ∃ sv, v = .tuple #[sv, .bool true] ∧ BytesAt w' sv l.b ∧ (∀ g, blkOf sv = some g → w.heap.size ≤ g) ∧ CAt w' c e r bud (l :: (A ++ B)) ∧ Frm (InRing e (A ++ l :: B)) w w' := by
  have M : St None' w [] w := Frm.refl _ _
  have hlk := h.look k
  have hc := h.hc
  obtain ⟨l2, hfk⟩ : ∃ l2, findK (A ++ l :: B) k = some (ptr l.id) := by
    obtain ⟨A', l', B', h1, h2, h3, _⟩ := findK_some (L := A ++ l :: B) (k := k) (by unfold findK; rw [Option.isSome_map]; exact List.find?_isSome.2 ⟨l, by simp, by simp [hk]⟩)
    have : l' = l := key_inj h.keys (by rw [h1]; simp) (by simp) (h2.trans hk.symm)
    exact ⟨(), by rw [h3, this]⟩
  rw [hfk] at hlk
  obtain ⟨hnode, hne⟩ := h.ring.node_at
  refine Ret.of_W Try.func16 rfl Try.ntmps16 rfl ?_
  refine W.seq ?_
  refine W.sub [(0, _), (1, _)] ⟨rfl, rfl, trivial⟩ ?_
  refine W.reg [(0, true), (1, false), (2, false)] (by kernel_rfl) ?_ -- region 0
  intro K hK
  refine x_box [_, _] rfl rfl rfl rfl rfl ?_ -- bx1 cache.go:100
  intro bbx1 wbx1 hbbx1 hwbx1
  have M := M.alloc hbbx1 hwbx1
  have hcx := hp_al hwbx1 hc
  have hlk := hlk.alloc hwbx1
  have hnd := hp_al hwbx1 hnode
  refine ⟨trivial, ?_⟩
  refine x_assign rfl rfl rfl rfl ?_
  refine x_assign rfl rfl rfl rfl ?_
  refine Ex.done (hK _ _ ?_)
  refine At.then_n ?_
  refine W.seq ?_
  refine W.seq ?_
  refine W.sub [(0, _), (3, _), (4, _), (5, _)] ⟨rfl, rfl, rfl, rfl, trivial⟩ ?_
  refine W.reg [(0, false), (1, true), (2, false)] (by kernel_rfl) ?_ -- region 1
  intro K hK
  refine x_move rfl rfl rfl rfl ?_
  -- call1: (*valise/cache.Cache).made cache.go:101
  refine x_call rfl rfl rfl rfl rfl en25 (made_ok hcx) ?_
  rintro v w1 ⟨rfl, rfl⟩
  refine ⟨trivial, ?_⟩
  refine x_not false rfl rfl rfl rfl rfl ?_ -- un1 cache.go:101
  refine Ex.done (hK _ _ ?_)
  refine At.then_n ?_
  refine W.condF rfl ?_ -- co1
  refine W.skip ?_
  refine At.then_n ?_
  refine W.seq ?_
  refine W.sub [(0, _), (3, _), (4, _), (5, _)] ⟨rfl, rfl, rfl, rfl, trivial⟩ ?_
  refine W.regD (by kernel_rfl) #[0, 1, 3, 7, 0, 31, 63, 127, 127, 255, 1023] [(0, false), (1, false), (2, false), (3, false), (4, false), (5, false), (6, false), (7, false), (8, false), (9, false), (10, false)] (by kernel_rfl) ?_ -- region 3
  intro K wD1 hK hwD1
  have M := M.drew hwD1
  have hcx := (hp_drew hwD1 c).trans hcx
  have hlk := hlk.same (hp_drew hwD1 r)
  have hnd := (hp_drew hwD1 l.id).trans hnd
  refine x_move rfl rfl rfl rfl ?_
  refine x_nil rfl rfl rfl rfl rfl ?_
  refine x_fa rfl rfl rfl fo63_3 rfl ?_
  refine x_ld rfl rfl rfl Try.underlying61 rfl rfl (cell_of hcx rfl) ?_ -- ld1 cache.go:104
  refine x_ldA [_, _] rfl rfl rfl Try.underlying29 rfl sz29 rfl rfl ⟨_, _, _, (by first | exact M.at_ 0 rfl | exact M.at_ 1 rfl | exact M.at_ 2 rfl | exact M.at_ 3 rfl | exact M.at_ 4 rfl | exact M.at_ 5 rfl), rfl⟩ ?_ -- ld2 cache.go:104
  refine x_lk2 k rfl rfl rfl keyLaw Try.underlying61 ze58 rfl rfl hlk ?_ -- lk1 cache.go:104
  refine x_move rfl rfl rfl rfl ?_
  refine x_ext rfl rfl rfl rfl rfl ?_ -- ex1
  refine x_ext rfl rfl rfl rfl rfl ?_ -- ex2
  refine x_assign rfl rfl rfl rfl ?_
  refine x_assign rfl rfl rfl rfl ?_
  refine Ex.done (hK _ _ ?_)
  refine At.then_n ?_
  refine W.seq ?_
  refine W.seq ?_
  refine W.sub [(0, _), (4, _), (5, _), (6, _), (7, _)] ⟨rfl, rfl, rfl, rfl, rfl, trivial⟩ ?_
  refine W.reg [(0, false), (1, false)] (by kernel_rfl) ?_ -- region 4
  intro K hK
  refine x_move rfl rfl rfl rfl ?_
  refine x_not false rfl rfl rfl rfl rfl ?_ -- un2 cache.go:105
  refine Ex.done (hK _ _ ?_)
  refine At.then_n ?_
  refine W.condF rfl ?_ -- co2
  refine W.skip ?_
  refine At.then_n ?_
  refine W.seq ?_
  refine W.sub [(0, _), (4, _), (5, _), (6, _)] ⟨rfl, rfl, rfl, rfl, trivial⟩ ?_
  refine W.reg [(0, false), (1, false), (2, true)] (by kernel_rfl) ?_ -- region 6
  intro K hK
  refine x_move rfl rfl rfl rfl ?_
  refine x_move rfl rfl rfl rfl ?_
  -- call2: (*valise/cache.Cache).use cache.go:108
  refine x_call rfl rfl rfl rfl rfl en29 (use_c (h.new M.frm)) ?_
  rintro v w1 ⟨rfl, hcat, hF⟩
  have hn2 := (Ring.node_at (A := []) hcat.ring).1
  unfold nodeO at hn2
  refine ⟨trivial, ?_⟩
  refine Ex.done (hK _ _ ?_)
  refine At.then_n ?_
  refine W.seq ?_
  refine W.sub [(4, _), (5, _), (6, _)] ⟨rfl, rfl, rfl, trivial⟩ ?_
  refine W.reg [(0, false), (1, false), (2, false), (3, false), (4, false), (5, true), (6, false), (7, false)] (by kernel_rfl) ?_ -- region 7
  intro K hK
  refine x_move rfl rfl rfl rfl ?_
  refine x_nil rfl rfl rfl rfl rfl ?_
  refine x_fa rfl rfl rfl fo70_0 rfl ?_
  refine x_fa rfl rfl rfl fo67_1 rfl ?_
  refine x_ld rfl rfl rfl Try.underlying31 rfl rfl (cell_of hn2 rfl) ?_ -- ld3 cache.go:109
  -- call3: slices.Clone[[]byte,byte] cache.go:109
  refine x_call rfl rfl rfl rfl rfl en28 (clone_c (hcat.bs l (by simp)).in_ (by have := hcat.len l (by simp); omega)) ?_
  rintro v w2 ⟨hv1, hv2, hv3⟩
  refine ⟨trivial, ?_⟩
  refine x_assign rfl rfl rfl rfl ?_
  refine x_assign rfl rfl rfl rfl ?_
  refine Ex.done (hK _ _ ?_)
  refine At.then_n ?_
  refine W.ret ?_
  refine At.ret2 (.tmp 4) (.tmp 5) rfl ⟨rfl, rfl, trivial⟩ ?_ -- ret1
  have hF1 : Frm (InRing e (A ++ l :: B)) w wD1 := Frm.sub M.frm (fun _ h => h.elim)
  have hF2 := hF1.trans' hF
  refine ⟨_, rfl, hv1, fun g hg => Nat.le_trans hF2.size (hv3 g hg), hcat.new hv2, hF2.trans' (Frm.sub hv2 (fun _ h => h.elim))⟩

-- (*valise/cache.Cache).Pin
set_option maxRecDepth 100000 in
theorem pinP_none {w : World} {c e r : Nat} {bud : Int} {L : List Nd} {k : Key} (h : CAt w c e r bud L) (hk : ∀ n ∈ L, n.key ≠ k) : Ret Try.prog 20 #[ptr c, encK k] w fun v w' => v = .int .i64 9 ∧ New w w' := by
  have M : St None' w [] w := Frm.refl _ _
  refine Ret.of_W Try.func20 rfl Try.ntmps20 rfl ?_
  refine W.seq ?_
  refine W.sub [(0, _), (1, _)] ⟨rfl, rfl, trivial⟩ ?_
  refine W.reg [(0, true), (1, false)] (by kernel_rfl) ?_ -- region 0
  intro K hK
  refine x_box [_, _] rfl rfl rfl rfl rfl ?_ -- bx1 cache.go:170
  intro bbx1 wbx1 hbbx1 hwbx1
  have M := M.alloc hbbx1 hwbx1
  refine ⟨trivial, ?_⟩
  refine x_assign rfl rfl rfl rfl ?_
  refine Ex.done (hK _ _ ?_)
  refine At.then_n ?_
  refine W.seq ?_
  refine W.sub [(0, _), (3, _), (4, _)] ⟨rfl, rfl, rfl, trivial⟩ ?_
  refine W.reg [(0, false), (1, false), (2, true), (3, false)] (by kernel_rfl) ?_ -- region 1
  intro K hK
  refine x_move rfl rfl rfl rfl ?_
  refine x_ldA [_, _] rfl rfl rfl Try.underlying29 rfl sz29 rfl rfl ⟨_, _, _, (by first | exact M.at_ 0 rfl | exact M.at_ 1 rfl | exact M.at_ 2 rfl | exact M.at_ 3 rfl | exact M.at_ 4 rfl | exact M.at_ 5 rfl), rfl⟩ ?_ -- ld1 cache.go:170
  -- call1: (*valise/cache.Cache).pin cache.go:170
  refine x_call rfl rfl rfl rfl rfl en38 (pin_none (h.new M.frm) hk) ?_
  rintro v w1 ⟨rfl, hn⟩
  refine ⟨trivial, ?_⟩
  refine x_assign rfl rfl rfl rfl ?_
  refine Ex.done (hK _ _ ?_)
  refine At.then_n ?_
  refine W.ret ?_
  refine At.ret1 (.tmp 4) rfl ⟨rfl, trivial⟩ ?_ -- ret1
  exact ⟨rfl, Frm.trans' M.frm hn⟩

-- (*valise/cache.Cache).Pin
set_option maxRecDepth 100000 in
theorem pinP_some {w : World} {c e r : Nat} {bud : Int} {A B : List Nd} {l : Nd} {k : Key} (h : CAt w c e r bud (A ++ l :: B)) (hk : l.key = k) (hp : 0 ≤ l.pins ∧ l.pins < 1000000000) : Ret Try.prog 20 #[ptr c, encK k] w fun v w' => (l.pins + (1) < 0 ∧ v = .int .i64 2 ∧ New w w') ∨ (0 ≤ l.pins + (1) ∧ v = .int .i64 0 ∧ CAt w' c e r bud (A ++ { l with pins := l.pins + (1) } :: B) ∧ Frm (fun b => b = l.id) w w') := by
  have M : St None' w [] w := Frm.refl _ _
  refine Ret.of_W Try.func20 rfl Try.ntmps20 rfl ?_
  refine W.seq ?_
  refine W.sub [(0, _), (1, _)] ⟨rfl, rfl, trivial⟩ ?_
  refine W.reg [(0, true), (1, false)] (by kernel_rfl) ?_ -- region 0
  intro K hK
  refine x_box [_, _] rfl rfl rfl rfl rfl ?_ -- bx1 cache.go:170
  intro bbx1 wbx1 hbbx1 hwbx1
  have M := M.alloc hbbx1 hwbx1
  refine ⟨trivial, ?_⟩
  refine x_assign rfl rfl rfl rfl ?_
  refine Ex.done (hK _ _ ?_)
  refine At.then_n ?_
  refine W.seq ?_
  refine W.sub [(0, _), (3, _), (4, _)] ⟨rfl, rfl, rfl, trivial⟩ ?_
  refine W.reg [(0, false), (1, false), (2, true), (3, false)] (by kernel_rfl) ?_ -- region 1
  intro K hK
  refine x_move rfl rfl rfl rfl ?_
  refine x_ldA [_, _] rfl rfl rfl Try.underlying29 rfl sz29 rfl rfl ⟨_, _, _, (by first | exact M.at_ 0 rfl | exact M.at_ 1 rfl | exact M.at_ 2 rfl | exact M.at_ 3 rfl | exact M.at_ 4 rfl | exact M.at_ 5 rfl), rfl⟩ ?_ -- ld1 cache.go:170
  -- call1: (*valise/cache.Cache).pin cache.go:170
  refine x_call rfl rfl rfl rfl rfl en38 (pin_some (h.new M.frm) hk (by decide) hp) ?_
  rintro v w1 hpost
  refine ⟨trivial, ?_⟩
  refine x_assign rfl rfl rfl rfl ?_
  refine Ex.done (hK _ _ ?_)
  refine At.then_n ?_
  refine W.ret ?_
  refine At.ret1 (.tmp 4) rfl ⟨rfl, trivial⟩ ?_ -- ret1
  rcases hpost with ⟨h1, h2, h3⟩ | ⟨h1, h2, h3, h4⟩
  · exact .inl ⟨h1, h2, Frm.trans' M.frm h3⟩
  · exact .inr ⟨h1, h2, h3, (Frm.sub M.frm (fun _ h => h.elim)).trans' h4⟩

-- (*valise/cache.Cache).Unpin
set_option maxRecDepth 100000 in
theorem unpin_none {w : World} {c e r : Nat} {bud : Int} {L : List Nd} {k : Key} (h : CAt w c e r bud L) (hk : ∀ n ∈ L, n.key ≠ k) : Ret Try.prog 21 #[ptr c, encK k] w fun v w' => v = .int .i64 9 ∧ New w w' := by
  have M : St None' w [] w := Frm.refl _ _
  refine Ret.of_W Try.func21 rfl Try.ntmps21 rfl ?_
  refine W.seq ?_
  refine W.sub [(0, _), (1, _)] ⟨rfl, rfl, trivial⟩ ?_
  refine W.reg [(0, true), (1, false)] (by kernel_rfl) ?_ -- region 0
  intro K hK
  refine x_box [_, _] rfl rfl rfl rfl rfl ?_ -- bx1 cache.go:173
  intro bbx1 wbx1 hbbx1 hwbx1
  have M := M.alloc hbbx1 hwbx1
  refine ⟨trivial, ?_⟩
  refine x_assign rfl rfl rfl rfl ?_
  refine Ex.done (hK _ _ ?_)
  refine At.then_n ?_
  refine W.seq ?_
  refine W.sub [(0, _), (3, _), (4, _)] ⟨rfl, rfl, rfl, trivial⟩ ?_
  refine W.reg [(0, false), (1, false), (2, true), (3, false)] (by kernel_rfl) ?_ -- region 1
  intro K hK
  refine x_move rfl rfl rfl rfl ?_
  refine x_ldA [_, _] rfl rfl rfl Try.underlying29 rfl sz29 rfl rfl ⟨_, _, _, (by first | exact M.at_ 0 rfl | exact M.at_ 1 rfl | exact M.at_ 2 rfl | exact M.at_ 3 rfl | exact M.at_ 4 rfl | exact M.at_ 5 rfl), rfl⟩ ?_ -- ld1 cache.go:173
  -- call1: (*valise/cache.Cache).pin cache.go:173
  refine x_call rfl rfl rfl rfl rfl en38 (pin_none (h.new M.frm) hk) ?_
  rintro v w1 ⟨rfl, hn⟩
  refine ⟨trivial, ?_⟩
  refine x_assign rfl rfl rfl rfl ?_
  refine Ex.done (hK _ _ ?_)
  refine At.then_n ?_
  refine W.ret ?_
  refine At.ret1 (.tmp 4) rfl ⟨rfl, trivial⟩ ?_ -- ret1
  exact ⟨rfl, Frm.trans' M.frm hn⟩

-- (*valise/cache.Cache).Unpin
set_option maxRecDepth 100000 in
theorem unpin_some {w : World} {c e r : Nat} {bud : Int} {A B : List Nd} {l : Nd} {k : Key} (h : CAt w c e r bud (A ++ l :: B)) (hk : l.key = k) (hp : 0 ≤ l.pins ∧ l.pins < 1000000000) : Ret Try.prog 21 #[ptr c, encK k] w fun v w' => (l.pins + (-1) < 0 ∧ v = .int .i64 2 ∧ New w w') ∨ (0 ≤ l.pins + (-1) ∧ v = .int .i64 0 ∧ CAt w' c e r bud (A ++ { l with pins := l.pins + (-1) } :: B) ∧ Frm (fun b => b = l.id) w w') := by
  have M : St None' w [] w := Frm.refl _ _
  refine Ret.of_W Try.func21 rfl Try.ntmps21 rfl ?_
  refine W.seq ?_
  refine W.sub [(0, _), (1, _)] ⟨rfl, rfl, trivial⟩ ?_
  refine W.reg [(0, true), (1, false)] (by kernel_rfl) ?_ -- region 0
  intro K hK
  refine x_box [_, _] rfl rfl rfl rfl rfl ?_ -- bx1 cache.go:173
  intro bbx1 wbx1 hbbx1 hwbx1
  have M := M.alloc hbbx1 hwbx1
  refine ⟨trivial, ?_⟩
  refine x_assign rfl rfl rfl rfl ?_
  refine Ex.done (hK _ _ ?_)
  refine At.then_n ?_
  refine W.seq ?_
  refine W.sub [(0, _), (3, _), (4, _)] ⟨rfl, rfl, rfl, trivial⟩ ?_
  refine W.reg [(0, false), (1, false), (2, true), (3, false)] (by kernel_rfl) ?_ -- region 1
  intro K hK
  refine x_move rfl rfl rfl rfl ?_
  refine x_ldA [_, _] rfl rfl rfl Try.underlying29 rfl sz29 rfl rfl ⟨_, _, _, (by first | exact M.at_ 0 rfl | exact M.at_ 1 rfl | exact M.at_ 2 rfl | exact M.at_ 3 rfl | exact M.at_ 4 rfl | exact M.at_ 5 rfl), rfl⟩ ?_ -- ld1 cache.go:173
  -- call1: (*valise/cache.Cache).pin cache.go:173
  refine x_call rfl rfl rfl rfl rfl en38 (pin_some (h.new M.frm) hk (by decide) hp) ?_
  rintro v w1 hpost
  refine ⟨trivial, ?_⟩
  refine x_assign rfl rfl rfl rfl ?_
  refine Ex.done (hK _ _ ?_)
  refine At.then_n ?_
  refine W.ret ?_
  refine At.ret1 (.tmp 4) rfl ⟨rfl, trivial⟩ ?_ -- ret1
  rcases hpost with ⟨h1, h2, h3⟩ | ⟨h1, h2, h3, h4⟩
  · exact .inl ⟨h1, h2, Frm.trans' M.frm h3⟩
  · exact .inr ⟨h1, h2, h3, (Frm.sub M.frm (fun _ h => h.elim)).trans' h4⟩
end Go.Proofs.Ytbbccdcjhoecpaa
