/-
  The walk of functions of the cache, by program: new_no, new_ok, size_c, pin_none, pin_some.
-/
import Derived.Test.YtbbccdcjhoecpaaTab
import Derived.Test.YtbbccdcjhoecpaaC4
import Derived.Test.YtbbccdcjhoecpaaW4
namespace Go.Proofs.Ytbbccdcjhoecpaa
open Go Go.Fw Go.RowKit Go.Proofs

-- valise/cache.New
set_option maxRecDepth 100000 in
theorem new_no {w : World} {bud : Int} (h : bud < 0 ∨ 1048576 < bud) : Ret Try.prog 9 #[.int .i64 bud] w fun v w' => v = .tuple #[.pointer none, .int .i64 2] ∧ w = w' := by
  refine Ret.of_W Try.func9 rfl Try.ntmps9 rfl ?_
  refine W.seq ?_
  refine W.sub [(0, _)] ⟨rfl, trivial⟩ ?_
  refine W.reg [(0, false), (1, false)] (by kernel_rfl) ?_ -- region 0
  intro K hK
  refine x_assign rfl rfl rfl rfl ?_
  refine x_assign rfl rfl rfl rfl ?_
  refine Ex.done (hK _ _ ?_)
  refine At.then_n ?_
  refine W.seq ?_
  refine W.seq ?_
  refine W.sub [(0, _), (2, _), (3, _)] ⟨rfl, rfl, rfl, trivial⟩ ?_
  refine W.reg [(0, false), (1, false), (2, false), (3, false), (4, false), (5, false)] (by kernel_rfl) ?_ -- region 1
  intro K hK
  refine x_move rfl rfl rfl rfl ?_
  refine x_lss _ rfl rfl rfl rfl rfl rfl ?_ -- cm1 cache.go:77
  refine x_move rfl rfl rfl rfl ?_
  refine Ex.split 6 rfl (fun hsp1 => ?_) (fun hsp1 => ?_)
  · -- sp1 True
    refine Ex.skip_ rfl rfl rfl ?_
    refine Ex.skip_ rfl rfl rfl ?_
    refine x_pickT rfl rfl rfl rfl rfl ?_
    refine Ex.done (hK _ _ ?_)
    refine At.then_n ?_
    refine W.condT rfl ?_ -- co1
    refine W.seq ?_
    refine W.sub [(0, _), (2, _), (3, _)] ⟨rfl, rfl, rfl, trivial⟩ ?_
    refine W.reg [(0, false), (1, false)] (by kernel_rfl) ?_ -- region 2
    intro K hK
    refine x_assign rfl rfl rfl rfl ?_
    refine x_assign rfl rfl rfl rfl ?_
    refine Ex.done (hK _ _ ?_)
    refine At.then_n ?_
    refine W.ret ?_
    refine At.then_r ?_
    refine At.ret2 (.tmp 2) (.tmp 3) rfl ⟨rfl, rfl, trivial⟩ ?_ -- ret1
    exact ⟨rfl, rfl⟩
  · -- sp1 False
    refine x_move rfl rfl rfl rfl ?_
    refine x_gtr _ rfl rfl rfl rfl rfl rfl ?_ -- cm2 cache.go:77
    refine x_pickF rfl rfl rfl rfl rfl ?_
    refine Ex.done (hK _ _ ?_)
    refine At.then_n ?_
    refine W.cond rfl (fun hco2 => ?_) (fun hco2 => ?_) -- co2
    · refine W.seq ?_
      refine W.sub [(0, _), (2, _), (3, _)] ⟨rfl, rfl, rfl, trivial⟩ ?_
      refine W.reg [(0, false), (1, false)] (by kernel_rfl) ?_ -- region 2
      intro K hK
      refine x_assign rfl rfl rfl rfl ?_
      refine x_assign rfl rfl rfl rfl ?_
      refine Ex.done (hK _ _ ?_)
      refine At.then_n ?_
      refine W.ret ?_
      refine At.then_r ?_
      refine At.ret2 (.tmp 2) (.tmp 3) rfl ⟨rfl, rfl, trivial⟩ ?_ -- ret2
      exact ⟨rfl, rfl⟩
    · exfalso
      simp at hco2 hsp1
      omega

-- valise/cache.New
set_option maxRecDepth 100000 in
theorem new_ok {w : World} {bud : Int} (h : 0 ≤ bud ∧ bud ≤ 1048576) : Ret Try.prog 9 #[.int .i64 bud] w fun v w' => ∃ c e r, v = .tuple #[ptr c, .int .i64 0] ∧ CAt w' c e r bud [] ∧ New w w' ∧ (∀ b ∈ fp c e r [], w.heap.size ≤ b) := by
  have M : St None' w [] w := Frm.refl _ _
  refine Ret.of_W Try.func9 rfl Try.ntmps9 rfl ?_
  refine W.seq ?_
  refine W.sub [(0, _)] ⟨rfl, trivial⟩ ?_
  refine W.reg [(0, false), (1, false)] (by kernel_rfl) ?_ -- region 0
  intro K hK
  refine x_assign rfl rfl rfl rfl ?_
  refine x_assign rfl rfl rfl rfl ?_
  refine Ex.done (hK _ _ ?_)
  refine At.then_n ?_
  refine W.seq ?_
  refine W.seq ?_
  refine W.sub [(0, _), (2, _), (3, _)] ⟨rfl, rfl, rfl, trivial⟩ ?_
  refine W.reg [(0, false), (1, false), (2, false), (3, false), (4, false), (5, false)] (by kernel_rfl) ?_ -- region 1
  intro K hK
  refine x_move rfl rfl rfl rfl ?_
  refine x_lss _ rfl rfl rfl rfl rfl rfl ?_ -- cm1 cache.go:77
  refine x_move rfl rfl rfl rfl ?_
  refine Ex.split 6 rfl (fun hsp1 => ?_) (fun hsp1 => ?_)
  · -- sp1 True
    exfalso
    simp at hsp1
    omega
  · -- sp1 False
    refine x_move rfl rfl rfl rfl ?_
    refine x_gtr _ rfl rfl rfl rfl rfl rfl ?_ -- cm2 cache.go:77
    refine x_pickF rfl rfl rfl rfl rfl ?_
    refine Ex.done (hK _ _ ?_)
    refine At.then_n ?_
    refine W.cond rfl (fun hco2 => ?_) (fun hco2 => ?_) -- co2
    · exfalso
      simp at hco2
      omega
    · refine W.skip ?_
      refine At.then_n ?_
      refine W.seq ?_
      refine W.sub [(0, _), (2, _), (3, _)] ⟨rfl, rfl, rfl, trivial⟩ ?_
      refine W.reg [(0, false), (1, true), (2, true), (3, false), (4, true), (5, false), (6, false)] (by kernel_rfl) ?_ -- region 3
      intro K hK
      refine x_move rfl rfl rfl rfl ?_
      -- call1: valise/cache.empty[valise/cache.block] cache.go:80
      refine x_call rfl rfl rfl rfl rfl en24 (empty_calls) ?_
      rintro v w1 ⟨e, rfl, hle, M1⟩
      have M := M1
      refine ⟨trivial, ?_⟩
      refine x_mkmap rfl rfl rfl ?_ -- mm1 cache.go:80
      intro bmm1 wmm1 hbmm1 hwmm1
      have M := M.alloc hbmm1 hwmm1
      refine ⟨trivial, ?_⟩
      refine x_build [_, _, _, _] rfl rfl rfl pl63 ze63 rfl rfl rfl ?_ -- bu1 cache.go:80
      refine x_box [_, _, _, _] rfl rfl rfl rfl rfl ?_ -- bx1 cache.go:80
      intro bbx1 wbx1 hbbx1 hwbx1
      have M := M.alloc hbbx1 hwbx1
      refine ⟨trivial, ?_⟩
      refine x_assign rfl rfl rfl rfl ?_
      refine x_assign rfl rfl rfl rfl ?_
      refine Ex.done (hK _ _ ?_)
      refine At.then_n ?_
      refine W.ret ?_
      refine At.ret2 (.tmp 2) (.tmp 3) rfl ⟨rfl, rfl, trivial⟩ ?_ -- ret2
      refine ⟨bbx1, e, bmm1, rfl, CAt.made (M.at_ 2 rfl) (M.at_ 0 rfl) (M.at_ 1 rfl) rfl ?_ ?_ ?_, M.frm, fun b hb => ?_⟩
      · have := M.nd; simp at this; exact Ne.symm this.1.2
      · have := M.nd; simp at this; exact Ne.symm this.2
      · have := M.nd; simp at this; exact this.1.1
      · have h0 := (M.own _ (List.mem_of_getElem? (i := 0) rfl)).2.resolve_left id
        have h1 := (M.own _ (List.mem_of_getElem? (i := 1) rfl)).2.resolve_left id
        have h2 := (M.own _ (List.mem_of_getElem? (i := 2) rfl)).2.resolve_left id
        simp [fp, ids, blks] at hb
        rcases hb with rfl | rfl | rfl <;> assumption

-- (*valise/cache.Cache).Size
set_option maxRecDepth 100000 in
theorem size_c {w : World} {c e r : Nat} {bud : Int} {L : List Nd} (h : CAt w c e r bud L) : Ret Try.prog 15 #[ptr c] w fun v w' => v = .int .i64 (tot L) ∧ w = w' := by
  have hc := h.hc
  refine Ret.of_W Try.func15 rfl Try.ntmps15 rfl ?_
  refine W.seq ?_
  refine W.sub [(0, _)] ⟨rfl, trivial⟩ ?_
  refine W.reg [(0, false)] (by kernel_rfl) ?_ -- region 0
  intro K hK
  refine x_assign rfl rfl rfl rfl ?_
  refine Ex.done (hK _ _ ?_)
  refine At.then_n ?_
  refine W.seq ?_
  refine W.seq ?_
  refine W.sub [(0, _), (2, _)] ⟨rfl, rfl, trivial⟩ ?_
  refine W.reg [(0, false), (1, true), (2, false)] (by kernel_rfl) ?_ -- region 1
  intro K hK
  refine x_move rfl rfl rfl rfl ?_
  -- call1: (*valise/cache.Cache).made cache.go:192
  refine x_call rfl rfl rfl rfl rfl en25 (made_ok hc) ?_
  rintro v w1 ⟨rfl, rfl⟩
  refine ⟨trivial, ?_⟩
  refine x_not false rfl rfl rfl rfl rfl ?_ -- un1 cache.go:192
  refine Ex.done (hK _ _ ?_)
  refine At.then_n ?_
  refine W.condF rfl ?_ -- co1
  refine W.skip ?_
  refine At.then_n ?_
  refine W.seq ?_
  refine W.sub [(0, _), (2, _)] ⟨rfl, rfl, trivial⟩ ?_
  refine W.reg [(0, false), (1, false), (2, false), (3, false), (4, false)] (by kernel_rfl) ?_ -- region 3
  intro K hK
  refine x_move rfl rfl rfl rfl ?_
  refine x_nil rfl rfl rfl rfl rfl ?_
  refine x_fa rfl rfl rfl fo63_1 rfl ?_
  refine x_ld rfl rfl rfl Try.underlying3 rfl rfl (cell_of hc rfl) ?_ -- ld1 cache.go:195
  refine x_assign rfl rfl rfl rfl ?_
  refine Ex.done (hK _ _ ?_)
  refine At.then_n ?_
  refine W.ret ?_
  refine At.ret1 (.tmp 2) rfl ⟨rfl, trivial⟩ ?_ -- ret1
  exact ⟨rfl, rfl⟩

-- (*valise/cache.Cache).pin
set_option maxRecDepth 100000 in
theorem pin_none {w : World} {c e r : Nat} {bud by' : Int} {L : List Nd} {k : Key} (h : CAt w c e r bud L) (hk : ∀ n ∈ L, n.key ≠ k) : Ret Try.prog 38 #[ptr c, encK k, .int .i64 by'] w fun v w' => v = .int .i64 9 ∧ New w w' := by
  have M : St None' w [] w := Frm.refl _ _
  have hlk := h.look k
  have hc := h.hc
  refine Ret.of_W Try.func38 rfl Try.ntmps38 rfl ?_
  refine W.seq ?_
  refine W.sub [(0, _), (1, _), (2, _)] ⟨rfl, rfl, rfl, trivial⟩ ?_
  refine W.reg [(0, true), (1, false)] (by kernel_rfl) ?_ -- region 0
  intro K hK
  refine x_box [_, _] rfl rfl rfl rfl rfl ?_ -- bx1 cache.go:154
  intro bbx1 wbx1 hbbx1 hwbx1
  have M := M.alloc hbbx1 hwbx1
  have hcx := hp_al hwbx1 hc
  have hlk := hlk.alloc hwbx1
  refine ⟨trivial, ?_⟩
  refine x_assign rfl rfl rfl rfl ?_
  refine Ex.done (hK _ _ ?_)
  refine At.then_n ?_
  refine W.seq ?_
  refine W.seq ?_
  refine W.sub [(0, _), (2, _), (4, _), (6, _)] ⟨rfl, rfl, rfl, rfl, trivial⟩ ?_
  refine W.reg [(0, false), (1, true), (2, false)] (by kernel_rfl) ?_ -- region 1
  intro K hK
  refine x_move rfl rfl rfl rfl ?_
  -- call1: (*valise/cache.Cache).made cache.go:155
  refine x_call rfl rfl rfl rfl rfl en25 (made_ok hcx) ?_
  rintro v w1 ⟨rfl, rfl⟩
  refine ⟨trivial, ?_⟩
  refine x_not false rfl rfl rfl rfl rfl ?_ -- un1 cache.go:155
  refine Ex.done (hK _ _ ?_)
  refine At.then_n ?_
  refine W.condF rfl ?_ -- co1
  refine W.skip ?_
  refine At.then_n ?_
  refine W.seq ?_
  refine W.sub [(0, _), (2, _), (4, _), (6, _)] ⟨rfl, rfl, rfl, rfl, trivial⟩ ?_
  refine W.regD (by kernel_rfl) #[0, 1, 3, 7, 0, 31, 63, 127, 127, 255, 1023] [(0, false), (1, false), (2, false), (3, false), (4, false), (5, false), (6, false), (7, false), (8, false), (9, false), (10, false)] (by kernel_rfl) ?_ -- region 3
  intro K wD1 hK hwD1
  have M := M.drew hwD1
  have hcx := (hp_drew hwD1 c).trans hcx
  have hlk := hlk.same (hp_drew hwD1 r)
  refine x_move rfl rfl rfl rfl ?_
  refine x_nil rfl rfl rfl rfl rfl ?_
  refine x_fa rfl rfl rfl fo63_3 rfl ?_
  refine x_ld rfl rfl rfl Try.underlying61 rfl rfl (cell_of hcx rfl) ?_ -- ld1 cache.go:158
  refine x_ldA [_, _] rfl rfl rfl Try.underlying29 rfl sz29 rfl rfl ⟨_, _, _, (by first | exact M.at_ 0 rfl | exact M.at_ 1 rfl | exact M.at_ 2 rfl | exact M.at_ 3 rfl | exact M.at_ 4 rfl | exact M.at_ 5 rfl), rfl⟩ ?_ -- ld2 cache.go:158
  refine x_lk2 k rfl rfl rfl keyLaw Try.underlying61 ze58 rfl rfl hlk ?_ -- lk1 cache.go:158
  refine x_move rfl rfl rfl rfl ?_
  refine x_ext rfl rfl rfl rfl rfl ?_ -- ex1
  refine x_ext rfl rfl rfl rfl rfl ?_ -- ex2
  refine x_assign rfl rfl rfl rfl ?_
  refine x_assign rfl rfl rfl rfl ?_
  refine Ex.done (hK _ _ ?_)
  refine At.then_n ?_
  refine W.seq ?_
  refine W.block ?_
  refine W.seq ?_
  refine W.sub [(2, _), (6, _), (7, _), (8, _)] ⟨rfl, rfl, rfl, rfl, trivial⟩ ?_
  refine W.reg [(0, false), (1, false), (2, false)] (by kernel_rfl) ?_ -- region 4
  intro K hK
  refine x_move rfl rfl rfl rfl ?_
  refine x_not true rfl rfl rfl rfl (by rw [(findK_none (by unfold findK; rw [List.find?_eq_none.2 (fun n hn => by simpa using hk n hn)]; rfl)).2]; rfl) ?_ -- un2 cache.go:160
  refine x_assign rfl rfl rfl rfl ?_
  refine Ex.done (hK _ _ ?_)
  refine At.then_n ?_
  refine W.condT rfl ?_ -- co2
  refine W.seq ?_
  refine W.sub [(2, _), (6, _), (7, _)] ⟨rfl, rfl, rfl, trivial⟩ ?_
  refine W.reg [(0, false)] (by kernel_rfl) ?_ -- region 5
  intro K hK
  refine x_assign rfl rfl rfl rfl ?_
  refine Ex.done (hK _ _ ?_)
  refine At.then_n ?_
  refine W.ret ?_
  refine At.blk_r ?_
  refine At.then_r ?_
  refine At.ret1 (.tmp 6) rfl ⟨rfl, trivial⟩ ?_ -- ret1
  exact ⟨rfl, M.frm⟩

-- (*valise/cache.Cache).pin
set_option maxRecDepth 100000 in
theorem pin_some {w : World} {c e r : Nat} {bud by' : Int} {A B : List Nd} {l : Nd} {k : Key} (h : CAt w c e r bud (A ++ l :: B)) (hk : l.key = k) (hb : -2 < by' ∧ by' < 2) (hp : 0 ≤ l.pins ∧ l.pins < 1000000000) : Ret Try.prog 38 #[ptr c, encK k, .int .i64 by'] w fun v w' => (l.pins + by' < 0 ∧ v = .int .i64 2 ∧ New w w') ∨ (0 ≤ l.pins + by' ∧ v = .int .i64 0 ∧ CAt w' c e r bud (A ++ { l with pins := l.pins + by' } :: B) ∧ Frm (fun b => b = l.id) w w') := by
  have M : St None' w [] w := Frm.refl _ _
  have hlk := h.look k
  have hc := h.hc
  obtain ⟨l2, hfk⟩ : ∃ l2, findK (A ++ l :: B) k = some (ptr l.id) := by
    obtain ⟨A', l', B', h1, h2, h3, _⟩ := findK_some (L := A ++ l :: B) (k := k) (by unfold findK; rw [Option.isSome_map]; exact List.find?_isSome.2 ⟨l, by simp, by simp [hk]⟩)
    have : l' = l := key_inj h.keys (by rw [h1]; simp) (by simp) (h2.trans hk.symm)
    exact ⟨(), by rw [h3, this]⟩
  rw [hfk] at hlk
  obtain ⟨hnode, hne⟩ := h.ring.node_at
  have hw1 : IntKind.i64.wrap (l.pins + by') = l.pins + by' := wrap64_id (by omega) (by omega)
  refine Ret.of_W Try.func38 rfl Try.ntmps38 rfl ?_
  refine W.seq ?_
  refine W.sub [(0, _), (1, _), (2, _)] ⟨rfl, rfl, rfl, trivial⟩ ?_
  refine W.reg [(0, true), (1, false)] (by kernel_rfl) ?_ -- region 0
  intro K hK
  refine x_box [_, _] rfl rfl rfl rfl rfl ?_ -- bx1 cache.go:154
  intro bbx1 wbx1 hbbx1 hwbx1
  have M := M.alloc hbbx1 hwbx1
  have hcx := hp_al hwbx1 hc
  have hlk := hlk.alloc hwbx1
  have hnd := hp_al hwbx1 hnode
  refine ⟨trivial, ?_⟩
  refine x_assign rfl rfl rfl rfl ?_
  refine Ex.done (hK _ _ ?_)
  refine At.then_n ?_
  refine W.seq ?_
  refine W.seq ?_
  refine W.sub [(0, _), (2, _), (4, _), (6, _)] ⟨rfl, rfl, rfl, rfl, trivial⟩ ?_
  refine W.reg [(0, false), (1, true), (2, false)] (by kernel_rfl) ?_ -- region 1
  intro K hK
  refine x_move rfl rfl rfl rfl ?_
  -- call1: (*valise/cache.Cache).made cache.go:155
  refine x_call rfl rfl rfl rfl rfl en25 (made_ok hcx) ?_
  rintro v w1 ⟨rfl, rfl⟩
  refine ⟨trivial, ?_⟩
  refine x_not false rfl rfl rfl rfl rfl ?_ -- un1 cache.go:155
  refine Ex.done (hK _ _ ?_)
  refine At.then_n ?_
  refine W.condF rfl ?_ -- co1
  refine W.skip ?_
  refine At.then_n ?_
  refine W.seq ?_
  refine W.sub [(0, _), (2, _), (4, _), (6, _)] ⟨rfl, rfl, rfl, rfl, trivial⟩ ?_
  refine W.regD (by kernel_rfl) #[0, 1, 3, 7, 0, 31, 63, 127, 127, 255, 1023] [(0, false), (1, false), (2, false), (3, false), (4, false), (5, false), (6, false), (7, false), (8, false), (9, false), (10, false)] (by kernel_rfl) ?_ -- region 3
  intro K wD1 hK hwD1
  have M := M.drew hwD1
  have hcx := (hp_drew hwD1 c).trans hcx
  have hlk := hlk.same (hp_drew hwD1 r)
  have hnd := (hp_drew hwD1 l.id).trans hnd
  refine x_move rfl rfl rfl rfl ?_
  refine x_nil rfl rfl rfl rfl rfl ?_
  refine x_fa rfl rfl rfl fo63_3 rfl ?_
  refine x_ld rfl rfl rfl Try.underlying61 rfl rfl (cell_of hcx rfl) ?_ -- ld1 cache.go:158
  refine x_ldA [_, _] rfl rfl rfl Try.underlying29 rfl sz29 rfl rfl ⟨_, _, _, (by first | exact M.at_ 0 rfl | exact M.at_ 1 rfl | exact M.at_ 2 rfl | exact M.at_ 3 rfl | exact M.at_ 4 rfl | exact M.at_ 5 rfl), rfl⟩ ?_ -- ld2 cache.go:158
  refine x_lk2 k rfl rfl rfl keyLaw Try.underlying61 ze58 rfl rfl hlk ?_ -- lk1 cache.go:158
  refine x_move rfl rfl rfl rfl ?_
  refine x_ext rfl rfl rfl rfl rfl ?_ -- ex1
  refine x_ext rfl rfl rfl rfl rfl ?_ -- ex2
  refine x_assign rfl rfl rfl rfl ?_
  refine x_assign rfl rfl rfl rfl ?_
  refine Ex.done (hK _ _ ?_)
  refine At.then_n ?_
  refine W.seq ?_
  refine W.block ?_
  refine W.seq ?_
  refine W.sub [(2, _), (6, _), (7, _), (8, _)] ⟨rfl, rfl, rfl, rfl, trivial⟩ ?_
  refine W.reg [(0, false), (1, false), (2, false)] (by kernel_rfl) ?_ -- region 4
  intro K hK
  refine x_move rfl rfl rfl rfl ?_
  refine x_not false rfl rfl rfl rfl rfl ?_ -- un2 cache.go:160
  refine x_assign rfl rfl rfl rfl ?_
  refine Ex.done (hK _ _ ?_)
  refine At.then_n ?_
  refine W.condF rfl ?_ -- co2
  refine W.seq ?_
  refine W.sub [(2, _), (6, _), (7, _)] ⟨rfl, rfl, rfl, trivial⟩ ?_
  refine W.reg [(0, false), (1, false), (2, false), (3, false), (4, false), (5, false), (6, false), (7, false), (8, false)] (by kernel_rfl) ?_ -- region 6
  intro K hK
  refine x_move rfl rfl rfl rfl ?_
  refine x_nil rfl rfl rfl rfl rfl ?_
  refine x_fa rfl rfl rfl fo70_0 rfl ?_
  refine x_fa rfl rfl rfl fo67_2 rfl ?_
  refine x_ld rfl rfl rfl Try.underlying3 rfl rfl (cell_of hnd rfl) ?_ -- ld3 cache.go:162
  refine x_move rfl rfl rfl rfl ?_
  refine x_add (l.pins + by') rfl rfl rfl rfl rfl hw1 ?_ -- ar1 cache.go:162
  refine x_lss _ rfl rfl rfl rfl rfl rfl ?_ -- cm1 cache.go:162
  refine x_assign rfl rfl rfl rfl ?_
  refine Ex.done (hK _ _ ?_)
  refine At.then_n ?_
  refine W.cond rfl (fun hco3 => ?_) (fun hco3 => ?_) -- co3
  · refine W.seq ?_
    refine W.sub [(2, _), (6, _), (7, _)] ⟨rfl, rfl, rfl, trivial⟩ ?_
    refine W.reg [(0, false)] (by kernel_rfl) ?_ -- region 7
    intro K hK
    refine x_assign rfl rfl rfl rfl ?_
    refine Ex.done (hK _ _ ?_)
    refine At.then_n ?_
    refine W.ret ?_
    refine At.blk_r ?_
    refine At.then_r ?_
    refine At.ret1 (.tmp 6) rfl ⟨rfl, trivial⟩ ?_ -- ret1
    simp at hco3
    exact .inl ⟨hco3, rfl, M.frm⟩
  · refine W.skip ?_
    refine At.blk_n ?_
    refine At.then_n ?_
    refine W.seq ?_
    refine W.sub [(2, _), (6, _), (7, _)] ⟨rfl, rfl, rfl, trivial⟩ ?_
    refine W.reg [(0, false), (1, false), (2, false), (3, false), (4, false), (5, false), (6, false), (7, false), (8, false), (9, false), (10, true)] (by kernel_rfl) ?_ -- region 8
    intro K hK
    refine x_move rfl rfl rfl rfl ?_
    refine x_nil rfl rfl rfl rfl rfl ?_
    refine x_fa rfl rfl rfl fo70_0 rfl ?_
    refine x_fa rfl rfl rfl fo67_2 rfl ?_
    refine x_ld rfl rfl rfl Try.underlying3 rfl rfl (cell_of hnd rfl) ?_ -- ld4 cache.go:165
    refine x_move rfl rfl rfl rfl ?_
    refine x_add (l.pins + by') rfl rfl rfl rfl rfl hw1 ?_ -- ar2 cache.go:165
    refine x_nil rfl rfl rfl rfl rfl ?_
    refine x_fa rfl rfl rfl fo70_0 rfl ?_
    refine x_fa rfl rfl rfl fo67_2 rfl ?_
    refine x_st [_] [_, _, _, _, _, _] rfl rfl rfl sz3 rfl rfl rfl rfl hnd rfl rfl rfl ?_ -- st1 cache.go:165
    intro wst1 hwst1
    
    refine ⟨trivial, ?_⟩
    refine Ex.done (hK _ _ ?_)
    refine At.then_n ?_
    refine W.seq ?_
    refine W.sub [(6, _)] ⟨rfl, trivial⟩ ?_
    refine W.reg [(0, false)] (by kernel_rfl) ?_ -- region 9
    intro K hK
    refine x_assign rfl rfl rfl rfl ?_
    refine Ex.done (hK _ _ ?_)
    refine At.then_n ?_
    refine W.ret ?_
    refine At.ret1 (.tmp 6) rfl ⟨rfl, trivial⟩ ?_ -- ret2
    simp at hco3
    have hfr : Frm (fun b => b = l.id) w wst1 := (Frm.sub M.frm (fun _ h => h.elim)).trans' (Frm.put rfl hwst1)
    refine .inr ⟨hco3, rfl, ?_, hfr⟩
    have h1 := h.new M.frm
    exact h1.pinned hnd (hp_putS hwst1 hnd) (fun x hx => hp_put hwst1 hx)
end Go.Proofs.Ytbbccdcjhoecpaa
