/-
  The walk of functions of the cache, by program: held_c.
-/
import Derived.Test.YtbbccdcjhoecpaaTab
import Derived.Test.YtbbccdcjhoecpaaW5
namespace Go.Proofs.Ytbbccdcjhoecpaa
open Go Go.Fw Go.RowKit Go.Proofs

-- (*valise/cache.Cache).held
set_option maxRecDepth 100000 in
theorem held_c {w : World} {c e r : Nat} {bud : Int} {L : List Nd} {k : Key} (h : CAt w c e r bud L) : Ret Try.prog 26 #[ptr c, encK k] w fun v w' => v = .int .i64 (heldOf L k) ∧ New w w' := by
  have M : St None' w [] w := Frm.refl _ _
  refine Ret.of_W Try.func26 rfl Try.ntmps26 rfl ?_
  refine W.seq ?_
  refine W.sub [(0, _), (1, _)] ⟨rfl, rfl, trivial⟩ ?_
  refine W.reg [(0, true), (1, false)] (by kernel_rfl) ?_ -- region 0
  intro K hK
  refine x_box [_, _] rfl rfl rfl rfl rfl ?_ -- bx1 cache.go:113
  intro bbx1 wbx1 hbbx1 hwbx1
  have M := M.alloc hbbx1 hwbx1
  refine ⟨trivial, ?_⟩
  refine x_assign rfl rfl rfl rfl ?_
  refine Ex.done (hK _ _ ?_)
  refine At.then_n ?_
  refine W.seq ?_
  refine W.sub [(0, _), (3, _), (4, _)] ⟨rfl, rfl, rfl, trivial⟩ ?_
  refine W.reg [(0, true), (1, true)] (by kernel_rfl) ?_ -- region 1
  intro K hK
  refine x_alloc [_] rfl rfl rfl ze3 rfl ?_ -- al1 cache.go:114
  intro bal1 wal1 hbal1 hwal1
  have M := M.alloc hbal1 hwal1
  refine ⟨trivial, ?_⟩
  refine x_st [_] _ rfl rfl rfl sz3 rfl rfl rfl rfl (by first | exact M.at_ 0 rfl | exact M.at_ 1 rfl | exact M.at_ 2 rfl | exact M.at_ 3 rfl | exact M.at_ 4 rfl | exact M.at_ 5 rfl) rfl rfl rfl ?_ -- st1 cache.go:114
  intro wst1 hwst1
  have M := M.put 1 rfl hwst1
  have hcx := (h.new M.frm).hc
  refine ⟨trivial, ?_⟩
  refine Ex.done (hK _ _ ?_)
  refine At.then_n ?_
  refine W.seq ?_
  refine W.seq ?_
  refine W.sub [(0, _), (3, _), (4, _), (5, _)] ⟨rfl, rfl, rfl, rfl, trivial⟩ ?_
  refine W.reg [(0, false), (1, false), (2, false), (3, false), (4, true)] (by kernel_rfl) ?_ -- region 2
  intro K hK
  refine x_move rfl rfl rfl rfl ?_
  refine x_nil rfl rfl rfl rfl rfl ?_
  refine x_fa rfl rfl rfl fo63_2 rfl ?_
  refine x_ldA [_] rfl rfl rfl Try.underlying60 rfl sz60 rfl rfl ⟨_, _, _, hcx, rfl⟩ ?_ -- ld1 cache.go:115
  -- call1: (valise/cache.ring[valise/cache.block]).all cache.go:115
  refine x_call rfl rfl rfl rfl rfl en32 (all0) ?_
  rintro v w1 ⟨rb, rfl, hrb, M1⟩
  have M := M.grow M1
  refine ⟨trivial, ?_⟩
  refine Ex.done (hK _ _ ?_)
  refine At.then_n ?_
  refine W.block ?_
  refine W.sub [(3, _), (4, _), (5, _), (11, _)] ⟨rfl, rfl, rfl, rfl, trivial⟩ ?_
  refine W.range rfl en41 (fun rr hkt hps has hbdrng1 w2 hw2 => ?_)
  have M := M.range hw2
  refine (all1 (J := fun rest w' => ∃ A R, L = A ++ R ∧ rest = ids R ∧ St None' w [(bbx1, .cells [.string k.1, .int .i64 k.2].toArray 29 (0, 0)), (bal1, .cells [.int .i64 (heldOf A k)].toArray 3 (0, 0)), (rb, .cells [ptr e].toArray 60 (0, 0)), (w1.heap.size, .deferred (some [])), (w1.heap.size + 1, .loop { rr with state := .ready, pending := none })] w') (Jx := fun _ => False) (xs := ids L) ?_ ⟨[], L, rfl, rfl, M⟩ (cell_of (h.new M.frm).ring.end_at rfl) ?_).mono ?_
  · rintro rest w' ⟨A, R, hL, rfl, M⟩
    have hcat := h.new M.frm
    refine ⟨M.at_ 2 rfl, okBlk_end hcat.ring.end_at, ?_⟩
    intro x r2 hx
    cases R with
    | nil => cases hx
    | cons nd R2 =>
      cases hx
      rw [hL] at hcat
      obtain ⟨g1, g2⟩ := hcat.ring.node_at
      exact ⟨g2, okBlk_node g1, cell_of g1 rfl⟩
  · rintro x rest w' ⟨A, R, hL, hR, M⟩
    obtain ⟨nd, R2, rfl⟩ : ∃ nd R2, R = nd :: R2 := by cases R with | nil => cases hR | cons a b => exact ⟨a, b, rfl⟩
    cases hR
    have hcat := h.new M.frm
    rw [hL] at hcat
    have hap : heldOf (A ++ [nd]) k = heldOf A k + if 0 < nd.pins ∧ nd.key ≠ k then (nd.b.length : Int) else 0 := by simp [heldOf]
    have hbd := held_le L k
    have hbd2 := h.sz
    have hle : heldOf (A ++ [nd]) k ≤ heldOf L k ∧ 0 ≤ heldOf A k := by
      have e1 : heldOf L k = heldOf (A ++ [nd]) k + heldOf R2 k := by rw [hL]; simp [heldOf]; omega
      have := held_le R2 k; have := held_le A k; omega
    have hL2 : L = (A ++ [nd]) ++ R2 := by rw [hL]; simp
    obtain ⟨p, cap, hsv⟩ := (hcat.bs nd (by simp)).shape
    refine Yld.one (M.at_ 4 rfl) hkt hps rfl has ?_
    refine W.sub [(3, _), (4, _), (5, _), (12, _)] ⟨rfl, rfl, rfl, rfl, trivial⟩ ?_
    refine W.reg [(0, false)] (by kernel_rfl) ?_ -- region 3
    intro K hK
    refine x_assign rfl rfl rfl rfl ?_
    refine Ex.done (hK _ _ ?_)
    refine At.asg hbdrng1 (M.at_ 4 rfl) ?_
    generalize hwb : World.putObj _ _ _ = wb
    have M := M.put 4 rfl hwb.symm
    have hcat := h.new M.frm
    rw [hL] at hcat
    have hnode := hcat.ring.node_at.1
    unfold nodeO at hnode
    rw [hsv] at hnode
    refine W.block ?_
    refine W.seq ?_
    refine W.sub [(3, _), (4, _), (5, _), (6, _)] ⟨rfl, rfl, rfl, rfl, trivial⟩ ?_
    refine W.regD (by kernel_rfl) #[0, 1, 3, 7, 15, 31, 63, 127, 255, 511, 1023, 2047, 127, 8191, 16383] [(0, false), (1, false), (2, false), (3, false), (4, false), (5, false), (6, false), (7, false), (8, false), (9, false), (10, false), (11, false), (12, false), (13, false), (14, false)] (by kernel_rfl) ?_ -- region 4
    intro K wD1 hK hwD1
    have M := M.drew hwD1
    have hnode := (hp_drew hwD1 nd.id).trans hnode
    refine x_move rfl rfl rfl rfl ?_
    refine x_nil rfl rfl rfl rfl rfl ?_
    refine x_fa rfl rfl rfl fo70_0 rfl ?_
    refine x_fa rfl rfl rfl fo67_2 rfl ?_
    refine x_ld rfl rfl rfl Try.underlying3 rfl rfl (cell_of hnode rfl) ?_ -- ld2 cache.go:116
    refine x_gtr _ rfl rfl rfl rfl rfl rfl ?_ -- cm1 cache.go:116
    refine x_move rfl rfl rfl rfl ?_
    refine Ex.split 19 rfl (fun hsp1 => ?_) (fun hsp1 => ?_)
    · -- sp1 True
      refine x_move rfl rfl rfl rfl ?_
      refine x_nil rfl rfl rfl rfl rfl ?_
      refine x_fa rfl rfl rfl fo70_0 rfl ?_
      refine x_fa rfl rfl rfl fo67_0 rfl ?_
      refine x_ldA [_, _] rfl rfl rfl Try.underlying29 rfl sz29 rfl rfl ⟨_, _, _, hnode, rfl⟩ ?_ -- ld3 cache.go:116
      refine x_ldA [_, _] rfl rfl rfl Try.underlying29 rfl sz29 rfl rfl ⟨_, _, _, (by first | exact M.at_ 0 rfl | exact M.at_ 1 rfl | exact M.at_ 2 rfl | exact M.at_ 3 rfl | exact M.at_ 4 rfl | exact M.at_ 5 rfl), rfl⟩ ?_ -- ld4 cache.go:116
      refine x_bin (v := .bool (!decide (nd.key = k))) rfl rfl rfl rfl rfl (run_ne_key nd.key k _ _) ?_ -- eq1 cache.go:116
      refine x_pickT rfl rfl rfl rfl rfl ?_
      refine Ex.done (hK _ _ ?_)
      refine At.then_n ?_
      refine W.cond rfl (fun hco1 => ?_) (fun hco1 => ?_) -- co1
      · refine W.sub [(4, _), (5, _), (6, _)] ⟨rfl, rfl, rfl, trivial⟩ ?_
        refine W.regD (by kernel_rfl) #[0, 0, 2, 6, 14, 30, 62, 127, 255] [(0, false), (1, false), (2, false), (3, false), (4, false), (5, false), (6, false), (7, false), (8, true)] (by kernel_rfl) ?_ -- region 5
        intro K wD2 hK hwD2
        have M := M.drew hwD2
        have hnode := (hp_drew hwD2 nd.id).trans hnode
        refine x_ld rfl rfl rfl Try.underlying3 rfl rfl (cell_of (by first | exact M.at_ 0 rfl | exact M.at_ 1 rfl | exact M.at_ 2 rfl | exact M.at_ 3 rfl | exact M.at_ 4 rfl | exact M.at_ 5 rfl) rfl) ?_ -- ld5 cache.go:117
        refine x_move rfl rfl rfl rfl ?_
        refine x_nil rfl rfl rfl rfl rfl ?_
        refine x_fa rfl rfl rfl fo70_0 rfl ?_
        refine x_fa rfl rfl rfl fo67_1 rfl ?_
        refine x_ld rfl rfl rfl Try.underlying31 rfl rfl (cell_of hnode rfl) ?_ -- ld6 cache.go:117
        refine x_len rfl rfl rfl rfl Try.underlying31 rfl ?_
        refine x_add (heldOf (A ++ [nd]) k) rfl rfl rfl rfl rfl (by simp at hsp1 hco1; rw [hap, if_pos ⟨hsp1, hco1⟩, wrap64_id (by omega) (by rw [hap, if_pos ⟨hsp1, hco1⟩] at hle; omega)]) ?_ -- ar1 cache.go:117
        refine x_st [_] _ rfl rfl rfl sz3 rfl rfl rfl rfl (by first | exact M.at_ 0 rfl | exact M.at_ 1 rfl | exact M.at_ 2 rfl | exact M.at_ 3 rfl | exact M.at_ 4 rfl | exact M.at_ 5 rfl) rfl rfl rfl ?_ -- st2 cache.go:117
        intro wst2 hwst2
        have M := M.put 1 rfl hwst2
        refine ⟨⟨.inl (by kernel_rfl), .inl (by kernel_rfl), trivial⟩, ?_⟩
        refine Ex.done (hK _ _ ?_)
        refine At.blk_n ?_
        refine At.rnd_n (M.at_ 4 rfl) ?_ -- rd1
        exact ⟨true, rfl, fun _ => ⟨A ++ [nd], R2, hL2, rfl, M.put 4 rfl rfl⟩, fun h => by cases h⟩
      · refine W.skip ?_
        refine At.blk_n ?_
        refine At.rnd_n (M.at_ 4 rfl) ?_ -- rd2
        have he : heldOf (A ++ [nd]) k = heldOf A k := by simp at hsp1 hco1; rw [hap, if_neg (by simp [hco1])]; omega
        exact ⟨true, rfl, fun _ => ⟨A ++ [nd], R2, hL2, rfl, by rw [he]; exact M.put 4 rfl rfl⟩, fun h => by cases h⟩
    · -- sp1 False
      refine Ex.skip_ rfl rfl rfl ?_
      refine Ex.skip_ rfl rfl rfl ?_
      refine Ex.skip_ rfl rfl rfl ?_
      refine Ex.skip_ rfl rfl rfl ?_
      refine Ex.skip_ rfl rfl rfl ?_
      refine Ex.skip_ rfl rfl rfl ?_
      refine Ex.skip_ rfl rfl rfl ?_
      refine x_pickF rfl rfl rfl rfl rfl ?_
      refine Ex.done (hK _ _ ?_)
      refine At.then_n ?_
      refine W.condF rfl ?_ -- co2
      refine W.skip ?_
      refine At.blk_n ?_
      refine At.rnd_n (M.at_ 4 rfl) ?_ -- rd3
      have he : heldOf (A ++ [nd]) k = heldOf A k := by simp at hsp1; rw [hap, if_neg (by omega)]; omega
      exact ⟨true, rfl, fun _ => ⟨A ++ [nd], R2, hL2, rfl, by rw [he]; exact M.put 4 rfl rfl⟩, fun h => by cases h⟩
  · rintro v w3 ⟨rfl, ⟨A, R, hL, hR, M⟩ | hx⟩
    · have hRn : R = [] := by cases R with | nil => rfl | cons a b => cases hR
      subst hRn
      rw [List.append_nil] at hL
      subst hL
      refine .inl ⟨.ready, by simp, M.at_ 4 rfl, ?_⟩
      generalize hwx : World.putObj _ _ _ = w4
      have M := M.put 4 rfl hwx.symm
      refine At.blk_n ?_
      refine At.then_n ?_
      refine W.seq ?_
      refine W.sub [(4, _), (5, _)] ⟨rfl, rfl, trivial⟩ ?_
      refine W.reg [(0, false), (1, false)] (by kernel_rfl) ?_ -- region 6
      intro K hK
      refine x_ld rfl rfl rfl Try.underlying3 rfl rfl (cell_of (by first | exact M.at_ 0 rfl | exact M.at_ 1 rfl | exact M.at_ 2 rfl | exact M.at_ 3 rfl | exact M.at_ 4 rfl | exact M.at_ 5 rfl) rfl) ?_ -- ld7 cache.go:120
      refine x_assign rfl rfl rfl rfl ?_
      refine Ex.done (hK _ _ ?_)
      refine At.then_n ?_
      refine W.ret ?_
      refine At.mark (M.at_ 3 rfl) ?_
      generalize hwy : World.putObj _ _ _ = w5
      have M := M.put 3 rfl hwy.symm
      refine At.ret1 (.tmp 4) rfl ⟨rfl, trivial⟩ ?_ -- ret1
      exact ⟨rfl, M.frm⟩
    · exact hx.elim
end Go.Proofs.Ytbbccdcjhoecpaa
