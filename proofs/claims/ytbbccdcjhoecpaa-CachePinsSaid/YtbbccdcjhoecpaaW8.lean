/-
  The walk of functions of the cache, by program: keys_c.
-/
import Derived.Test.YtbbccdcjhoecpaaTab
import Derived.Test.YtbbccdcjhoecpaaW5
import Derived.Test.YtbbccdcjhoecpaaC5
namespace Go.Proofs.Ytbbccdcjhoecpaa
open Go Go.Fw Go.RowKit Go.Proofs

-- (*valise/cache.Cache).Keys
set_option maxRecDepth 100000 in
theorem keys_c {w : World} {c e r : Nat} {bud : Int} {L : List Nd} (h : CAt w c e r bud L) (hlen : L.length ≤ 1000000) : Ret Try.prog 12 #[ptr c] w fun v w' => OwS w' v 2 L.length (keyCells L) ∧ New w w' ∧ (∀ g, blkOf v = some g → w.heap.size ≤ g) := by
  have M : St None' w [] w := Frm.refl _ _
  have hc := h.hc
  refine Ret.of_W Try.func12 rfl Try.ntmps12 rfl ?_
  refine W.seq ?_
  refine W.sub [(0, _)] ⟨rfl, trivial⟩ ?_
  refine W.reg [(0, false)] (by kernel_rfl) ?_ -- region 0
  intro K hK
  refine x_assign rfl rfl rfl rfl ?_
  refine Ex.done (hK _ _ ?_)
  refine At.then_n ?_
  refine W.seq ?_
  refine W.seq ?_
  refine W.sub [(0, _), (2, _)] ⟨rfl, rfl, trivial⟩ ?_
  refine W.reg [(0, false), (1, true), (2, false)] (by kernel_rfl) ?_ -- region 1
  intro K hK
  refine x_move rfl rfl rfl rfl ?_
  -- call1: (*valise/cache.Cache).made cache.go:200
  refine x_call rfl rfl rfl rfl rfl en25 (made_ok hc) ?_
  rintro v w1 ⟨rfl, rfl⟩
  refine ⟨trivial, ?_⟩
  refine x_not false rfl rfl rfl rfl rfl ?_ -- un1 cache.go:200
  refine Ex.done (hK _ _ ?_)
  refine At.then_n ?_
  refine W.condF rfl ?_ -- co1
  refine W.skip ?_
  refine At.then_n ?_
  refine W.seq ?_
  refine W.sub [(0, _), (2, _)] ⟨rfl, rfl, trivial⟩ ?_
  refine W.reg [(0, true)] (by kernel_rfl) ?_ -- region 3
  intro K hK
  refine x_alloc [_] rfl rfl rfl ze32 rfl ?_ -- al1 cache.go:203
  intro bal1 wal1 hbal1 hwal1
  have M := M.alloc hbal1 hwal1
  have hcx := (h.new M.frm).hc
  refine ⟨trivial, ?_⟩
  refine Ex.done (hK _ _ ?_)
  refine At.then_n ?_
  refine W.seq ?_
  refine W.seq ?_
  refine W.sub [(0, _), (2, _), (3, _)] ⟨rfl, rfl, rfl, trivial⟩ ?_
  refine W.reg [(0, false), (1, false), (2, false), (3, false), (4, true)] (by kernel_rfl) ?_ -- region 4
  intro K hK
  refine x_move rfl rfl rfl rfl ?_
  refine x_nil rfl rfl rfl rfl rfl ?_
  refine x_fa rfl rfl rfl fo63_2 rfl ?_
  refine x_ldA [_] rfl rfl rfl Try.underlying60 rfl sz60 rfl rfl ⟨_, _, _, hcx, rfl⟩ ?_ -- ld1 cache.go:204
  -- call2: (valise/cache.ring[valise/cache.block]).all cache.go:204
  refine x_call rfl rfl rfl rfl rfl en32 (all0) ?_
  rintro v w1 ⟨rb, rfl, hrb, M1⟩
  have M := M.grow M1
  refine ⟨trivial, ?_⟩
  refine Ex.done (hK _ _ ?_)
  refine At.then_n ?_
  refine W.block ?_
  refine W.sub [(2, _), (3, _), (12, _)] ⟨rfl, rfl, rfl, trivial⟩ ?_
  refine W.range rfl en41 (fun rr hkt hps has hbdrng1 w2 hw2 => ?_)
  have M := M.range hw2
  refine (all1 (J := fun rest w' => ∃ A R ov, L = A ++ R ∧ rest = ids R ∧ OwS w' ov 2 A.length (keyCells A) ∧ (∀ g, blkOf ov = some g → w.heap.size ≤ g ∧ g ≠ bal1 ∧ g ≠ rb ∧ g ≠ w1.heap.size ∧ g ≠ w1.heap.size + 1) ∧ St None' w [(bal1, .cells [ov].toArray 32 (0, 0)), (rb, .cells [ptr e].toArray 60 (0, 0)), (w1.heap.size, .deferred (some [])), (w1.heap.size + 1, .loop { rr with state := .ready, pending := none })] w') (Jx := fun _ => False) (xs := ids L) ?_ ⟨[], L, _, rfl, rfl, .inl ⟨rfl, rfl, rfl⟩, (by intro g hg; cases hg), M⟩ (cell_of (h.new M.frm).ring.end_at rfl) ?_).mono ?_
  · rintro rest w' ⟨A, R, ov, hL, rfl, _, _, M⟩
    have hcat := h.new M.frm
    refine ⟨M.at_ 1 rfl, okBlk_end hcat.ring.end_at, ?_⟩
    intro x r2 hx
    cases R with
    | nil => cases hx
    | cons nd R2 =>
      cases hx
      rw [hL] at hcat
      obtain ⟨g1, g2⟩ := hcat.ring.node_at
      exact ⟨g2, okBlk_node g1, cell_of g1 rfl⟩
  · rintro x rest w' ⟨A, R, ov, hL, hR, how, hnb, M⟩
    obtain ⟨nd, R2, rfl⟩ : ∃ nd R2, R = nd :: R2 := by cases R with | nil => cases hR | cons a b => exact ⟨a, b, rfl⟩
    cases hR
    have hL2 : L = (A ++ [nd]) ++ R2 := by rw [hL]; simp
    have hAl : A.length ≤ 1000000 := by rw [hL] at hlen; simp at hlen; omega
    have hlv : ov.cells = [ov].toArray := by rcases how with ⟨rfl, _⟩ | ⟨_, _, _, _, rfl, _⟩ <;> rfl
    refine Yld.one (M.at_ 3 rfl) hkt hps rfl has ?_
    refine W.sub [(2, _), (3, _), (13, _)] ⟨rfl, rfl, rfl, trivial⟩ ?_
    refine W.reg [(0, false)] (by kernel_rfl) ?_ -- region 5
    intro K hK
    refine x_assign rfl rfl rfl rfl ?_
    refine Ex.done (hK _ _ ?_)
    refine At.asg hbdrng1 (M.at_ 3 rfl) ?_
    generalize hwb : World.putObj _ _ _ = wb
    have how := how.same (w1 := wb) (fun g hg => hp_put hwb.symm (hnb g hg).2.2.2.2)
    have M := M.put 3 rfl hwb.symm
    have hcat := h.new M.frm
    rw [hL] at hcat
    have hnode := hcat.ring.node_at.1
    unfold nodeO at hnode
    refine W.block ?_
    refine W.sub [(2, _), (3, _), (4, _)] ⟨rfl, rfl, rfl, trivial⟩ ?_
    refine W.regD (by kernel_rfl) #[0, 0, 2, 6, 14, 30, 62, 127, 255] [(0, false), (1, false), (2, false), (3, false), (4, false), (5, false), (6, true), (7, true), (8, true)] (by kernel_rfl) ?_ -- region 6
    intro K wD1 hK hwD1
    have M := M.drew hwD1
    have hnode := (hp_drew hwD1 nd.id).trans hnode
    have how := how.same (w1 := wD1) (fun g hg => hp_drew hwD1 g)
    refine x_ld rfl rfl rfl Try.underlying32 rfl rfl (cell_of (by first | exact M.at_ 0 rfl | exact M.at_ 1 rfl | exact M.at_ 2 rfl | exact M.at_ 3 rfl | exact M.at_ 4 rfl | exact M.at_ 5 rfl) rfl) ?_ -- ld2 cache.go:205
    refine x_move rfl rfl rfl rfl ?_
    refine x_nil rfl rfl rfl rfl rfl ?_
    refine x_fa rfl rfl rfl fo70_0 rfl ?_
    refine x_fa rfl rfl rfl fo67_0 rfl ?_
    refine x_ldA [_, _] rfl rfl rfl Try.underlying29 rfl sz29 rfl rfl ⟨_, _, _, hnode, rfl⟩ ?_ -- ld3 cache.go:205
    -- bs1: cache.go:205
    refine x_bs1 (cs := [.string nd.f, .int .i64 nd.i]) rfl rfl rfl Try.underlying32 sz29 ze29 (Z := [_, _]) rfl rfl (by decide) (by decide) rfl rfl rfl ?_
    intro b5 w5 hb5 hw5
    have how := how.same (w1 := w5) (fun g hg => by rw [hw5, heap_alloc, if_neg (by have := how.lt g hg; omega)])
    have hnode := hp_al hw5 hnode
    have M5 := M.alloc hb5 hw5
    have M := M5.sub (List.sublist_append_left _ _)
    have hsl : Sl w5 (.slice (some ⟨b5, 0, none⟩) 1 1) 2 1 [.string nd.f, .int .i64 nd.i] := .inr ⟨b5, 0, 1, _, _, _, rfl, by omega, M5.at_ 4 rfl, rfl, rfl⟩
    refine ⟨⟨.inl (by kernel_rfl), .inr (cell_of (by first | exact M.at_ 0 rfl | exact M.at_ 1 rfl | exact M.at_ 2 rfl | exact M.at_ 3 rfl | exact M.at_ 4 rfl | exact M.at_ 5 rfl) rfl), trivial⟩, ?_⟩
    -- ap1: cache.go:205
    refine x_app rfl rfl rfl rfl Try.underlying32 sz29 ze29 rfl by29 rfl rfl how (keyCells_one A) (hsl.src Try.underlying32 (by simp [Value.oneCell'])) (by omega) (by decide) (by omega) ?_
    intro v6 w6 how6 hap
    have hfrm6 : Frm (fun b => blkOf ov = some b) w5 w6 := by
      rcases hap with ⟨_, h1, _⟩ | hap
      · cases h1
      · exact hap.frm
    have hblk : ∃ b, blkOf v6 = some b ∧ (blkOf ov = some b ∨ b = w5.heap.size) := by
      rcases hap with ⟨_, h1, _⟩ | hap
      · cases h1
      · exact hap.blk
    have hnb6 : ∀ g, blkOf v6 = some g → w.heap.size ≤ g ∧ g ≠ bal1 ∧ g ≠ rb ∧ g ≠ w1.heap.size ∧ g ≠ w1.heap.size + 1 := by
      intro g hg
      obtain ⟨b, h1, h2⟩ := hblk
      rw [hg] at h1; cases h1
      rcases h2 with h2 | h2
      · exact hnb g h2
      · have e0 := M.lt (List.mem_of_getElem? (i := 0) rfl)
        have e1 := M.lt (List.mem_of_getElem? (i := 1) rfl)
        have e2 := M.lt (List.mem_of_getElem? (i := 2) rfl)
        have e3 := M.lt (List.mem_of_getElem? (i := 3) rfl)
        have := M.size
        omega
    have M := M.call hfrm6 (by
      intro x hx hb
      obtain ⟨_, g1, g2, g3, g4⟩ := hnb _ hb
      have hx' : x.1 = bal1 ∨ x.1 = rb ∨ x.1 = w1.heap.size ∨ x.1 = w1.heap.size + 1 := by
        simp at hx; rcases hx with rfl | rfl | rfl | rfl <;> simp
      rcases hx' with h1 | h1 | h1 | h1
      · exact g1 h1
      · exact g2 h1
      · exact g3 h1
      · exact g4 h1) (fun b hb _ => .inr (hnb b hb).1)
    have hl6 : v6.cells = [v6].toArray ∧ v6.oneCell' = true := by rcases how6 with ⟨rfl, _⟩ | ⟨_, _, _, _, rfl, _⟩ <;> exact ⟨rfl, rfl⟩
    refine ⟨⟨.inl (by kernel_rfl), .inl (by kernel_rfl), trivial⟩, ?_⟩
    refine x_st [_] _ rfl rfl rfl sz32 rfl rfl hl6.1 (by simp [hl6.2]) (by first | exact M.at_ 0 rfl | exact M.at_ 1 rfl | exact M.at_ 2 rfl | exact M.at_ 3 rfl | exact M.at_ 4 rfl | exact M.at_ 5 rfl) rfl rfl rfl ?_ -- st1 cache.go:205
    intro wst1 hwst1
    have how6 := how6.same (w1 := wst1) (fun g hg => hp_put hwst1 (hnb6 g hg).2.1)
    have M := M.put 0 rfl hwst1
    refine ⟨⟨.inl (by kernel_rfl), .inl (by kernel_rfl), trivial⟩, ?_⟩
    refine Ex.done (hK _ _ ?_)
    refine At.blk_n ?_
    refine At.rnd_n (M.at_ 3 rfl) ?_ -- rd1
    refine ⟨true, rfl, fun _ => ⟨A ++ [nd], R2, v6, hL2, rfl, ?_, hnb6, M.put 3 rfl rfl⟩, fun h => by cases h⟩
    have := how6.same (w1 := wst1.putObj (w1.heap.size + 1) (.loop { rr with state := .ready, pending := none })) (fun g hg => World.putObj_heap_other (hnb6 g hg).2.2.2.2)
    rw [keyCells_app]
    simpa [keyCells] using this
  · rintro v w3 ⟨rfl, ⟨A, R, ov, hL, hR, how, hnb, M⟩ | hx⟩
    · have hRn : R = [] := by cases R with | nil => rfl | cons a b => cases hR
      subst hRn
      rw [List.append_nil] at hL
      subst hL
      refine .inl ⟨.ready, by simp, M.at_ 3 rfl, ?_⟩
      generalize hwx : World.putObj _ _ _ = w4
      have how := how.same (w1 := w4) (fun g hg => hp_put hwx.symm (hnb g hg).2.2.2.2)
      have M := M.put 3 rfl hwx.symm
      refine At.blk_n ?_
      refine At.then_n ?_
      refine W.seq ?_
      refine W.sub [(2, _), (3, _)] ⟨rfl, rfl, trivial⟩ ?_
      refine W.reg [(0, false), (1, false)] (by kernel_rfl) ?_ -- region 7
      intro K hK
      refine x_ld rfl rfl rfl Try.underlying32 rfl rfl (cell_of (by first | exact M.at_ 0 rfl | exact M.at_ 1 rfl | exact M.at_ 2 rfl | exact M.at_ 3 rfl | exact M.at_ 4 rfl | exact M.at_ 5 rfl) rfl) ?_ -- ld4 cache.go:207
      refine x_assign rfl rfl rfl rfl ?_
      refine Ex.done (hK _ _ ?_)
      refine At.then_n ?_
      refine W.ret ?_
      have hlow := how
      refine At.mark (M.at_ 2 rfl) ?_
      generalize hwy : World.putObj _ _ _ = w5
      have how := how.same (w1 := w5) (fun g hg => hp_put hwy.symm (hnb g hg).2.2.2.1)
      have M := M.put 2 rfl hwy.symm
      refine At.ret1 (.tmp 2) rfl ⟨rfl, trivial⟩ ?_ -- ret1
      exact ⟨how, M.frm, fun g hg => (hnb g hg).1⟩
    · exact hx.elim
end Go.Proofs.Ytbbccdcjhoecpaa
