/-
  The walk of functions of the cache, by program: all0, back0, all1, back1.
-/
import Derived.Test.YtbbccdcjhoecpaaTab
import Derived.Test.YtbbccdcjhoecpaaP1
namespace Go.Proofs.Ytbbccdcjhoecpaa
open Go Go.Fw Go.RowKit Go.Proofs
def hdI : List Nat → Nat → Nat | [], e => e | x :: _, _ => x
-- (valise/cache.ring[valise/cache.block]).all
set_option maxRecDepth 100000 in
theorem all0 {e : Nat} {w : World} : Ret Try.prog 32 #[.agg #[ptr e]] w fun v w' => ∃ rb, v = .func (.func 41) #[] #[ptr rb] ∧ w.heap.size ≤ rb ∧ St None' w [(rb, .cells [ptr e].toArray 60 (0, 0))] w' := by
  have M : St None' w [] w := Frm.refl _ _
  refine Ret.of_W Try.func32 rfl Try.ntmps32 rfl ?_
  refine W.seq ?_
  refine W.sub [(0, _)] ⟨rfl, trivial⟩ ?_
  refine W.reg [(0, true), (1, false)] (by kernel_rfl) ?_ -- region 0
  intro K hK
  refine x_box [_] rfl rfl rfl rfl rfl ?_ -- bx1 cache.go:36
  intro bbx1 wbx1 hbbx1 hwbx1
  have M := M.alloc hbbx1 hwbx1
  refine ⟨trivial, ?_⟩
  refine x_assign rfl rfl rfl rfl ?_
  refine Ex.done (hK _ _ ?_)
  refine At.then_n ?_
  refine W.seq ?_
  refine W.sub [(1, _), (2, _)] ⟨rfl, rfl, trivial⟩ ?_
  refine W.reg [(0, false), (1, false)] (by kernel_rfl) ?_ -- region 1
  intro K hK
  refine x_mkfn rfl rfl rfl rfl rfl ?_
  refine x_assign rfl rfl rfl rfl ?_
  refine Ex.done (hK _ _ ?_)
  refine At.then_n ?_
  refine W.ret ?_
  refine At.ret1 (.tmp 2) rfl ⟨rfl, trivial⟩ ?_ -- ret1
  exact ⟨_, rfl, (M.own _ (List.mem_of_getElem? (i := 0) rfl)).2.resolve_left id, M⟩

-- (valise/cache.ring[valise/cache.block]).back
set_option maxRecDepth 100000 in
theorem back0 {e : Nat} {w : World} : Ret Try.prog 30 #[.agg #[ptr e]] w fun v w' => ∃ rb, v = .func (.func 40) #[] #[ptr rb] ∧ w.heap.size ≤ rb ∧ St None' w [(rb, .cells [ptr e].toArray 60 (0, 0))] w' := by
  have M : St None' w [] w := Frm.refl _ _
  refine Ret.of_W Try.func30 rfl Try.ntmps30 rfl ?_
  refine W.seq ?_
  refine W.sub [(0, _)] ⟨rfl, trivial⟩ ?_
  refine W.reg [(0, true), (1, false)] (by kernel_rfl) ?_ -- region 0
  intro K hK
  refine x_box [_] rfl rfl rfl rfl rfl ?_ -- bx1 cache.go:49
  intro bbx1 wbx1 hbbx1 hwbx1
  have M := M.alloc hbbx1 hwbx1
  refine ⟨trivial, ?_⟩
  refine x_assign rfl rfl rfl rfl ?_
  refine Ex.done (hK _ _ ?_)
  refine At.then_n ?_
  refine W.seq ?_
  refine W.sub [(1, _), (2, _)] ⟨rfl, rfl, trivial⟩ ?_
  refine W.reg [(0, false), (1, false)] (by kernel_rfl) ?_ -- region 1
  intro K hK
  refine x_mkfn rfl rfl rfl rfl rfl ?_
  refine x_assign rfl rfl rfl rfl ?_
  refine Ex.done (hK _ _ ?_)
  refine At.then_n ?_
  refine W.ret ?_
  refine At.ret1 (.tmp 2) rfl ⟨rfl, trivial⟩ ?_ -- ret1
  exact ⟨_, rfl, (M.own _ (List.mem_of_getElem? (i := 0) rfl)).2.resolve_left id, M⟩

-- (valise/cache.ring[valise/cache.block]).all$1
set_option maxRecDepth 100000 in
theorem all1 {rb e l0 : Nat} {J : List Nat → World → Prop} {Jx : World → Prop} {xs : List Nat} {w : World}
    (hJ : ∀ rest w, J rest w → w.heap[rb]? = some (.cells [ptr e].toArray 60 (0, 0)) ∧ OkBlk w e ∧ (∀ x r2, rest = x :: r2 → x ≠ e ∧ OkBlk w x ∧ w.cell? ⟨x, 5, none⟩ = some (ptr (hdI r2 e))))
    (h0 : J xs w) (hs : w.cell? ⟨e, 5, none⟩ = some (ptr (hdI xs e)))
    (hY : ∀ x rest w, J (x :: rest) w → Yld Try.prog l0 [ptr x] w fun v w' => ∃ b : Bool, v = .bool b ∧ (b = true → J rest w') ∧ (b = false → Jx w')) :
    Ret Try.prog 41 #[.func (.yield l0) #[] #[], ptr rb] w fun r w' => r = .tuple #[] ∧ (J [] w' ∨ Jx w') := by
  obtain ⟨hrb, heb, _⟩ := hJ _ _ h0
  refine Ret.of_W Try.func41 rfl Try.ntmps41 rfl ?_
  refine W.seq ?_
  refine W.sub [(0, _), (1, _)] ⟨rfl, rfl, trivial⟩ ?_
  refine W.reg [(0, false), (1, false), (2, false), (3, false), (4, false), (5, false)] (by kernel_rfl) ?_ -- region 0
  intro K hK
  refine x_fa rfl rfl rfl fo60_0 rfl ?_
  refine x_ld rfl rfl rfl Try.underlying58 rfl rfl (cell_of hrb rfl) ?_ -- ld1 cache.go:38
  refine x_nil rfl rfl rfl rfl rfl ?_
  refine x_fa rfl rfl rfl fo70_2 rfl ?_
  refine x_ld rfl rfl rfl Try.underlying58 rfl rfl hs ?_ -- ld2 cache.go:38
  refine x_assign rfl rfl rfl rfl ?_
  refine Ex.done (hK _ _ ?_)
  refine At.then_n ?_
  refine W.block ?_
  refine W.loop (σ := List Nat) (fun s => [(0, _), (1, _), (3, ptr (hdI s e))]) (fun s w => J s w) (fun s => s.length) xs ⟨rfl, rfl, rfl, trivial⟩ h0 ?_ -- loop1
  intro s w hI
  obtain ⟨hrb, heb, hnx⟩ := hJ _ _ hI
  have hok : OkBlk w (hdI s e) := by cases s with | nil => exact heb | cons x r2 => exact (hnx x r2 rfl).2.1
  refine W.seq ?_
  refine W.seq ?_
  refine W.sub [(0, _), (1, _), (3, _)] ⟨rfl, rfl, rfl, trivial⟩ ?_
  refine W.reg [(0, false), (1, false), (2, false), (3, false)] (by kernel_rfl) ?_ -- region 1
  intro K hK
  refine x_move rfl rfl rfl rfl ?_
  refine x_fa rfl rfl rfl fo60_0 rfl ?_
  refine x_ld rfl rfl rfl Try.underlying58 rfl rfl (cell_of hrb rfl) ?_ -- ld3 cache.go:38
  refine x_nepp _ rfl rfl rfl Try.underlying58 sz70 (by decide) rfl rfl hok heb rfl ?_ -- eq1 cache.go:38
  refine Ex.done (hK _ _ ?_)
  refine At.then_n ?_
  refine W.cond rfl (fun hco1 => ?_) (fun hco1 => ?_) -- co1
  · obtain ⟨x, r2, rfl⟩ : ∃ x r2, s = x :: r2 := by cases s with | nil => simp [hdI] at hco1 | cons x r2 => exact ⟨x, r2, rfl⟩
    obtain ⟨hxe, hxo, hxn⟩ := hnx x r2 rfl
    refine W.skip ?_
    refine At.then_n ?_
    refine W.block ?_
    refine W.seq ?_
    refine W.sub [(0, _), (1, _), (3, _), (10, _), (11, _), (12, _), (13, _)] ⟨rfl, rfl, rfl, rfl, rfl, rfl, rfl, trivial⟩ ?_
    refine W.reg [(0, false), (1, false), (2, false), (3, false), (4, false)] (by kernel_rfl) ?_ -- region 2
    intro K hK
    refine x_move rfl rfl rfl rfl ?_
    refine x_nil rfl rfl rfl rfl rfl ?_
    refine x_fa rfl rfl rfl fo70_2 rfl ?_
    refine x_ld rfl rfl rfl Try.underlying58 rfl rfl hxn ?_ -- ld4 cache.go:39
    refine x_assign rfl rfl rfl rfl ?_
    refine Ex.done (hK _ _ ?_)
    refine At.then_n ?_
    refine W.seq ?_
    refine W.seq ?_
    refine W.sub [(0, _), (1, _), (3, _), (4, _), (10, _), (11, _), (12, _), (13, _), (14, _), (15, _), (16, _), (17, _)] ⟨rfl, rfl, rfl, rfl, rfl, rfl, rfl, rfl, rfl, rfl, rfl, rfl, trivial⟩ ?_
    refine W.reg [(0, false), (1, false), (2, true), (3, false)] (by kernel_rfl) ?_ -- region 3
    intro K hK
    refine x_move rfl rfl rfl rfl ?_
    refine x_move rfl rfl rfl rfl ?_
    -- call1: value cache.go:40
    refine x_yld rfl rfl rfl rfl rfl (hY x r2 w hI) ?_
    rintro v w1 ⟨b, rfl, hb1, hb2⟩
    refine ⟨trivial, ?_⟩
    refine x_not _ rfl rfl rfl rfl rfl ?_ -- un1 cache.go:40
    refine Ex.done (hK _ _ ?_)
    refine At.then_n ?_
    refine W.cond rfl (fun hco2 => ?_) (fun hco2 => ?_) -- co2
    · have hb : b = false := by simpa using hco2
      subst hb
      refine W.ret ?_
      refine At.then_r ?_
      refine At.blk_r ?_
      refine At.loop_r ?_
      refine At.blk_r ?_
      refine At.ret0 rfl ?_ -- ret1
      exact ⟨rfl, .inr (hb2 rfl)⟩
    · have hb : b = true := by simpa using hco2
      subst hb
      refine W.skip ?_
      refine At.then_n ?_
      refine W.sub [(0, _), (1, _), (3, _), (4, _), (10, _), (11, _), (12, _), (13, _), (14, _), (15, _), (16, _), (17, _), (18, _), (19, _), (20, _), (21, _)] ⟨rfl, rfl, rfl, rfl, rfl, rfl, rfl, rfl, rfl, rfl, rfl, rfl, rfl, rfl, rfl, rfl, trivial⟩ ?_
      refine W.reg [(0, false), (1, false)] (by kernel_rfl) ?_ -- region 4
      intro K hK
      refine x_move rfl rfl rfl rfl ?_
      refine x_assign rfl rfl rfl rfl ?_
      refine Ex.done (hK _ _ ?_)
      refine At.blk_n ?_
      -- bk1: back to loop1
      exact At.back r2 ⟨rfl, rfl, rfl, trivial⟩ (hb1 rfl) (by simp)
  · have hse : s = [] := by
      cases s with
      | nil => rfl
      | cons x r2 => have := (hnx x r2 rfl).1; simp [hdI, this] at hco1
    subst hse
    refine W.exit ?_
    refine At.then_x ?_
    refine At.loop_x ?_
    refine At.blk_x ?_
    refine At.fall ?_
    refine At.ret0 rfl ?_ -- ret2
    exact ⟨rfl, .inl hI⟩

-- (valise/cache.ring[valise/cache.block]).back$1
set_option maxRecDepth 100000 in
theorem back1 {rb e l0 : Nat} {J : List Nat → World → Prop} {Jx : World → Prop} {xs : List Nat} {w : World}
    (hJ : ∀ rest w, J rest w → w.heap[rb]? = some (.cells [ptr e].toArray 60 (0, 0)) ∧ OkBlk w e ∧ (∀ x r2, rest = x :: r2 → x ≠ e ∧ OkBlk w x ∧ w.cell? ⟨x, 4, none⟩ = some (ptr (hdI r2 e))))
    (h0 : J xs w) (hs : w.cell? ⟨e, 4, none⟩ = some (ptr (hdI xs e)))
    (hY : ∀ x rest w, J (x :: rest) w → Yld Try.prog l0 [ptr x] w fun v w' => ∃ b : Bool, v = .bool b ∧ (b = true → J rest w') ∧ (b = false → Jx w')) :
    Ret Try.prog 40 #[.func (.yield l0) #[] #[], ptr rb] w fun r w' => r = .tuple #[] ∧ (J [] w' ∨ Jx w') := by
  obtain ⟨hrb, heb, _⟩ := hJ _ _ h0
  refine Ret.of_W Try.func40 rfl Try.ntmps40 rfl ?_
  refine W.seq ?_
  refine W.sub [(0, _), (1, _)] ⟨rfl, rfl, trivial⟩ ?_
  refine W.reg [(0, false), (1, false), (2, false), (3, false), (4, false), (5, false)] (by kernel_rfl) ?_ -- region 0
  intro K hK
  refine x_fa rfl rfl rfl fo60_0 rfl ?_
  refine x_ld rfl rfl rfl Try.underlying58 rfl rfl (cell_of hrb rfl) ?_ -- ld1 cache.go:51
  refine x_nil rfl rfl rfl rfl rfl ?_
  refine x_fa rfl rfl rfl fo70_1 rfl ?_
  refine x_ld rfl rfl rfl Try.underlying58 rfl rfl hs ?_ -- ld2 cache.go:51
  refine x_assign rfl rfl rfl rfl ?_
  refine Ex.done (hK _ _ ?_)
  refine At.then_n ?_
  refine W.block ?_
  refine W.loop (σ := List Nat) (fun s => [(0, _), (1, _), (3, ptr (hdI s e))]) (fun s w => J s w) (fun s => s.length) xs ⟨rfl, rfl, rfl, trivial⟩ h0 ?_ -- loop1
  intro s w hI
  obtain ⟨hrb, heb, hnx⟩ := hJ _ _ hI
  have hok : OkBlk w (hdI s e) := by cases s with | nil => exact heb | cons x r2 => exact (hnx x r2 rfl).2.1
  refine W.seq ?_
  refine W.seq ?_
  refine W.sub [(0, _), (1, _), (3, _)] ⟨rfl, rfl, rfl, trivial⟩ ?_
  refine W.reg [(0, false), (1, false), (2, false), (3, false)] (by kernel_rfl) ?_ -- region 1
  intro K hK
  refine x_move rfl rfl rfl rfl ?_
  refine x_fa rfl rfl rfl fo60_0 rfl ?_
  refine x_ld rfl rfl rfl Try.underlying58 rfl rfl (cell_of hrb rfl) ?_ -- ld3 cache.go:51
  refine x_nepp _ rfl rfl rfl Try.underlying58 sz70 (by decide) rfl rfl hok heb rfl ?_ -- eq1 cache.go:51
  refine Ex.done (hK _ _ ?_)
  refine At.then_n ?_
  refine W.cond rfl (fun hco1 => ?_) (fun hco1 => ?_) -- co1
  · obtain ⟨x, r2, rfl⟩ : ∃ x r2, s = x :: r2 := by cases s with | nil => simp [hdI] at hco1 | cons x r2 => exact ⟨x, r2, rfl⟩
    obtain ⟨hxe, hxo, hxn⟩ := hnx x r2 rfl
    refine W.skip ?_
    refine At.then_n ?_
    refine W.block ?_
    refine W.seq ?_
    refine W.sub [(0, _), (1, _), (3, _), (10, _), (11, _), (12, _), (13, _)] ⟨rfl, rfl, rfl, rfl, rfl, rfl, rfl, trivial⟩ ?_
    refine W.reg [(0, false), (1, false), (2, false), (3, false), (4, false)] (by kernel_rfl) ?_ -- region 2
    intro K hK
    refine x_move rfl rfl rfl rfl ?_
    refine x_nil rfl rfl rfl rfl rfl ?_
    refine x_fa rfl rfl rfl fo70_1 rfl ?_
    refine x_ld rfl rfl rfl Try.underlying58 rfl rfl hxn ?_ -- ld4 cache.go:52
    refine x_assign rfl rfl rfl rfl ?_
    refine Ex.done (hK _ _ ?_)
    refine At.then_n ?_
    refine W.seq ?_
    refine W.seq ?_
    refine W.sub [(0, _), (1, _), (3, _), (4, _), (10, _), (11, _), (12, _), (13, _), (14, _), (15, _), (16, _), (17, _)] ⟨rfl, rfl, rfl, rfl, rfl, rfl, rfl, rfl, rfl, rfl, rfl, rfl, trivial⟩ ?_
    refine W.reg [(0, false), (1, false), (2, true), (3, false)] (by kernel_rfl) ?_ -- region 3
    intro K hK
    refine x_move rfl rfl rfl rfl ?_
    refine x_move rfl rfl rfl rfl ?_
    -- call1: value cache.go:53
    refine x_yld rfl rfl rfl rfl rfl (hY x r2 w hI) ?_
    rintro v w1 ⟨b, rfl, hb1, hb2⟩
    refine ⟨trivial, ?_⟩
    refine x_not _ rfl rfl rfl rfl rfl ?_ -- un1 cache.go:53
    refine Ex.done (hK _ _ ?_)
    refine At.then_n ?_
    refine W.cond rfl (fun hco2 => ?_) (fun hco2 => ?_) -- co2
    · have hb : b = false := by simpa using hco2
      subst hb
      refine W.ret ?_
      refine At.then_r ?_
      refine At.blk_r ?_
      refine At.loop_r ?_
      refine At.blk_r ?_
      refine At.ret0 rfl ?_ -- ret1
      exact ⟨rfl, .inr (hb2 rfl)⟩
    · have hb : b = true := by simpa using hco2
      subst hb
      refine W.skip ?_
      refine At.then_n ?_
      refine W.sub [(0, _), (1, _), (3, _), (4, _), (10, _), (11, _), (12, _), (13, _), (14, _), (15, _), (16, _), (17, _), (18, _), (19, _), (20, _), (21, _)] ⟨rfl, rfl, rfl, rfl, rfl, rfl, rfl, rfl, rfl, rfl, rfl, rfl, rfl, rfl, rfl, rfl, trivial⟩ ?_
      refine W.reg [(0, false), (1, false)] (by kernel_rfl) ?_ -- region 4
      intro K hK
      refine x_move rfl rfl rfl rfl ?_
      refine x_assign rfl rfl rfl rfl ?_
      refine Ex.done (hK _ _ ?_)
      refine At.blk_n ?_
      -- bk1: back to loop1
      exact At.back r2 ⟨rfl, rfl, rfl, trivial⟩ (hb1 rfl) (by simp)
  · have hse : s = [] := by
      cases s with
      | nil => rfl
      | cons x r2 => have := (hnx x r2 rfl).1; simp [hdI, this] at hco1
    subst hse
    refine W.exit ?_
    refine At.then_x ?_
    refine At.loop_x ?_
    refine At.blk_x ?_
    refine At.fall ?_
    refine At.ret0 rfl ?_ -- ret2
    exact ⟨rfl, .inl hI⟩
end Go.Proofs.Ytbbccdcjhoecpaa
