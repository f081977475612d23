/-
  The walk of functions of the cache, by program: put_c.
-/
import Derived.Test.YtbbccdcjhoecpaaTab
import Derived.Test.YtbbccdcjhoecpaaW7
import Derived.Test.YtbbccdcjhoecpaaC8
namespace Go.Proofs.Ytbbccdcjhoecpaa
open Go Go.Fw Go.RowKit Go.Proofs

-- (*valise/cache.Cache).Put
set_option maxRecDepth 100000 in
theorem put_c {w : World} {c e r : Nat} {bud : Int} {L : List Nd} {k : Key} {sv : Value} {b : List UInt8} (h : CAt w c e r bud L) (hb : BytesIn w sv b) (hblk : b ≠ [] → ∀ g, blkOf sv = some g → g ∉ fp c e r L) (hlen : b.length ≤ 1099511627776) (hbud : 0 ≤ bud ∧ bud ≤ 1048576) (htot : tot L ≤ bud) :
    Ret Try.prog 10 #[ptr c, encK k, sv] w fun v w' => (4096 < b.length ∧ v = .int .i64 2 ∧ New w w') ∨ (b.length ≤ 4096 ∧ bud < heldOf L k + b.length ∧ v = .int .i64 7 ∧ New w w') ∨
      (b.length ≤ 4096 ∧ heldOf L k + b.length ≤ bud ∧ v = .int .i64 0 ∧ ∃ A B l1 l2, PutAt L k A B l1 ∧ l2.f = k.1 ∧ l2.i = k.2 ∧ l2.pins = l1.pins ∧ l2.b = b ∧ CAt w' c e r bud (evict bud (l2 :: (A ++ B)).reverse []) ∧ Frm (InC c e r L) w w' ∧ ∀ x ∈ fp c e r (l2 :: (A ++ B)), x ∈ fp c e r L ∨ w.heap.size ≤ x) := by
  have M : St None' w [] w := Frm.refl _ _
  obtain ⟨p, cap, rfl⟩ := hb.shape
  have hheld := held_le L k
  have hsz := h.sz
  refine Ret.of_W Try.func10 rfl Try.ntmps10 rfl ?_
  refine W.seq ?_
  refine W.sub [(0, _), (1, _), (2, _)] ⟨rfl, rfl, rfl, trivial⟩ ?_
  refine W.reg [(0, true), (1, true), (2, false)] (by kernel_rfl) ?_ -- region 0
  intro K hK
  refine x_box [_] rfl rfl rfl rfl rfl ?_ -- bx1 cache.go:124
  intro bbx1 wbx1 hbbx1 hwbx1
  have M := M.alloc hbbx1 hwbx1
  refine ⟨trivial, ?_⟩
  refine x_box [_, _] rfl rfl rfl rfl rfl ?_ -- bx2 cache.go:124
  intro bbx2 wbx2 hbbx2 hwbx2
  have M := M.alloc hbbx2 hwbx2
  have hcx := (h.new M.frm).hc
  refine ⟨trivial, ?_⟩
  refine x_assign rfl rfl rfl rfl ?_
  refine Ex.done (hK _ _ ?_)
  refine At.then_n ?_
  refine W.seq ?_
  refine W.block ?_
  refine W.seq ?_
  refine W.sub [(2, _), (3, _), (4, _), (6, _)] ⟨rfl, rfl, rfl, rfl, trivial⟩ ?_
  refine W.reg [(0, false), (1, true), (2, false), (3, false)] (by kernel_rfl) ?_ -- region 1
  intro K hK
  refine x_ld rfl rfl rfl Try.underlying23 rfl rfl (cell_of (by first | exact M.at_ 0 rfl | exact M.at_ 1 rfl | exact M.at_ 2 rfl | exact M.at_ 3 rfl | exact M.at_ 4 rfl | exact M.at_ 5 rfl) rfl) ?_ -- ld1 cache.go:126
  -- call1: (*valise/cache.Cache).made cache.go:126
  refine x_call rfl rfl rfl rfl rfl en25 (made_ok hcx) ?_
  rintro v w1 ⟨rfl, rfl⟩
  refine ⟨trivial, ?_⟩
  refine x_not false rfl rfl rfl rfl rfl ?_ -- un1 cache.go:126
  refine x_assign rfl rfl rfl rfl ?_
  refine Ex.done (hK _ _ ?_)
  refine At.then_n ?_
  refine W.condF rfl ?_ -- co1
  refine W.seq ?_
  refine W.sub [(2, _), (3, _), (4, _), (6, _)] ⟨rfl, rfl, rfl, rfl, trivial⟩ ?_
  refine W.reg [(0, false), (1, false), (2, false), (3, false)] (by kernel_rfl) ?_ -- region 3
  intro K hK
  refine x_move rfl rfl rfl rfl ?_
  refine x_len rfl rfl rfl rfl Try.underlying31 rfl ?_
  refine x_gtr _ rfl rfl rfl rfl rfl rfl ?_ -- cm1 cache.go:128
  refine x_assign rfl rfl rfl rfl ?_
  refine Ex.done (hK _ _ ?_)
  refine At.then_n ?_
  refine W.cond rfl (fun hco2 => ?_) (fun hco2 => ?_) -- co2
  · have hgt : 4096 < b.length := by have := of_decide_eq_true hco2; omega
    refine W.seq ?_
    refine W.sub [(2, _), (3, _), (4, _), (6, _)] ⟨rfl, rfl, rfl, rfl, trivial⟩ ?_
    refine W.reg [(0, false)] (by kernel_rfl) ?_ -- region 4
    intro K hK
    refine x_assign rfl rfl rfl rfl ?_
    refine Ex.done (hK _ _ ?_)
    refine At.then_n ?_
    refine W.ret ?_
    refine At.blk_r ?_
    refine At.then_r ?_
    refine At.ret1 (.tmp 6) rfl ⟨rfl, trivial⟩ ?_ -- ret1
    exact .inl ⟨hgt, rfl, M.frm⟩
  · have hle : b.length ≤ 4096 := by have := of_decide_eq_false hco2; omega
    refine W.seq ?_
    refine W.sub [(2, _), (3, _), (4, _), (6, _)] ⟨rfl, rfl, rfl, rfl, trivial⟩ ?_
    refine W.regD (by kernel_rfl) #[0, 0, 3, 0, 8, 31, 0, 64, 192, 448, 1023, 2047] [(0, false), (1, false), (3, false), (4, false), (6, false), (7, false), (8, false), (9, false), (2, true), (5, false), (10, false), (11, false)] (by kernel_rfl) ?_ -- region 5
    intro K wD1 hK hwD1
    have M := M.drew hwD1
    have hcx := (h.new M.frm).hc
    refine x_ld rfl rfl rfl Try.underlying23 rfl rfl (cell_of (by first | exact M.at_ 0 rfl | exact M.at_ 1 rfl | exact M.at_ 2 rfl | exact M.at_ 3 rfl | exact M.at_ 4 rfl | exact M.at_ 5 rfl) rfl) ?_ -- ld2 cache.go:130
    refine x_ldA [_, _] rfl rfl rfl Try.underlying29 rfl sz29 rfl rfl ⟨_, _, _, (by first | exact M.at_ 0 rfl | exact M.at_ 1 rfl | exact M.at_ 2 rfl | exact M.at_ 3 rfl | exact M.at_ 4 rfl | exact M.at_ 5 rfl), rfl⟩ ?_ -- ld3 cache.go:130
    refine x_move rfl rfl rfl rfl ?_
    refine x_len rfl rfl rfl rfl Try.underlying31 rfl ?_
    refine x_ld rfl rfl rfl Try.underlying23 rfl rfl (cell_of (by first | exact M.at_ 0 rfl | exact M.at_ 1 rfl | exact M.at_ 2 rfl | exact M.at_ 3 rfl | exact M.at_ 4 rfl | exact M.at_ 5 rfl) rfl) ?_ -- ld4 cache.go:130
    refine x_nil rfl rfl rfl rfl rfl ?_
    refine x_fa rfl rfl rfl fo63_0 rfl ?_
    refine x_ld rfl rfl rfl Try.underlying3 rfl rfl (cell_of hcx rfl) ?_ -- ld5 cache.go:130
    -- call2: (*valise/cache.Cache).held cache.go:130
    refine x_call rfl rfl rfl rfl rfl en26 (held_c (h.new M.frm)) ?_
    rintro v w1 ⟨rfl, hn⟩
    have M := M.new hn
    refine ⟨⟨.inr (cell_of (h.new M.frm).hc rfl), .inr (cell_of (by first | exact M.at_ 0 rfl | exact M.at_ 1 rfl | exact M.at_ 2 rfl | exact M.at_ 3 rfl | exact M.at_ 4 rfl | exact M.at_ 5 rfl) rfl), .inl (by kernel_rfl), .inl (by kernel_rfl), trivial⟩, ?_⟩
    refine x_add (heldOf L k + b.length) rfl rfl rfl rfl rfl (wrap64_id (by omega) (by omega)) ?_ -- ar1 cache.go:130
    refine x_gtr _ rfl rfl rfl rfl rfl rfl ?_ -- cm2 cache.go:130
    refine x_assign rfl rfl rfl rfl ?_
    refine Ex.done (hK _ _ ?_)
    refine At.then_n ?_
    refine W.cond rfl (fun hco3 => ?_) (fun hco3 => ?_) -- co3
    · refine W.seq ?_
      refine W.sub [(2, _), (3, _), (4, _), (6, _)] ⟨rfl, rfl, rfl, rfl, trivial⟩ ?_
      refine W.reg [(0, false)] (by kernel_rfl) ?_ -- region 6
      intro K hK
      refine x_assign rfl rfl rfl rfl ?_
      refine Ex.done (hK _ _ ?_)
      refine At.then_n ?_
      refine W.ret ?_
      refine At.blk_r ?_
      refine At.then_r ?_
      refine At.ret1 (.tmp 6) rfl ⟨rfl, trivial⟩ ?_ -- ret2
      exact .inr (.inl ⟨hle, of_decide_eq_true hco3, rfl, M.frm⟩)
    · have hfit : heldOf L k + b.length ≤ bud := by have := of_decide_eq_false hco3; omega
      refine W.skip ?_
      refine At.blk_n ?_
      refine At.then_n ?_
      refine W.seq ?_
      refine W.sub [(2, _), (3, _), (4, _), (6, _)] ⟨rfl, rfl, rfl, rfl, trivial⟩ ?_
      refine W.regD (by kernel_rfl) #[0, 1, 3, 7, 0, 31, 63, 127, 127, 0, 767, 2047] [(0, false), (1, false), (2, false), (3, false), (4, false), (5, false), (6, false), (7, false), (8, false), (9, true), (10, true), (11, false)] (by kernel_rfl) ?_ -- region 7
      intro K wD2 hK hwD2
      have M := M.drew hwD2
      have hcx := (h.new M.frm).hc
      have hlk := (h.new M.frm).look k
      have hfo := findK_one L k
      refine x_ld rfl rfl rfl Try.underlying23 rfl rfl (cell_of (by first | exact M.at_ 0 rfl | exact M.at_ 1 rfl | exact M.at_ 2 rfl | exact M.at_ 3 rfl | exact M.at_ 4 rfl | exact M.at_ 5 rfl) rfl) ?_ -- ld6 cache.go:133
      refine x_nil rfl rfl rfl rfl rfl ?_
      refine x_fa rfl rfl rfl fo63_3 rfl ?_
      refine x_ld rfl rfl rfl Try.underlying61 rfl rfl (cell_of hcx rfl) ?_ -- ld7 cache.go:133
      refine x_ldA [_, _] rfl rfl rfl Try.underlying29 rfl sz29 rfl rfl ⟨_, _, _, (by first | exact M.at_ 0 rfl | exact M.at_ 1 rfl | exact M.at_ 2 rfl | exact M.at_ 3 rfl | exact M.at_ 4 rfl | exact M.at_ 5 rfl), rfl⟩ ?_ -- ld8 cache.go:133
      refine x_lk2 k rfl rfl rfl keyLaw Try.underlying61 ze58 rfl rfl hlk ?_ -- lk1 cache.go:133
      refine x_move rfl rfl rfl rfl ?_
      refine x_ext rfl rfl rfl rfl rfl ?_ -- ex1
      refine x_ext rfl rfl rfl rfl rfl ?_ -- ex2
      refine x_alloc [_] rfl rfl rfl ze58 rfl ?_ -- al1 cache.go:133
      intro bal1 wal1 hbal1 hwal1
      have M := M.alloc hbal1 hwal1
      refine ⟨⟨.inr (hlk.alloc hwal1), .inr ⟨_, _, _, (by first | exact M.at_ 0 rfl | exact M.at_ 1 rfl | exact M.at_ 2 rfl | exact M.at_ 3 rfl | exact M.at_ 4 rfl | exact M.at_ 5 rfl), rfl⟩, .inr (cell_of (h.new M.frm).hc rfl), .inr (cell_of (by first | exact M.at_ 0 rfl | exact M.at_ 1 rfl | exact M.at_ 2 rfl | exact M.at_ 3 rfl | exact M.at_ 4 rfl | exact M.at_ 5 rfl) rfl), trivial⟩, ?_⟩
      refine x_st [_] _ rfl rfl rfl sz58 rfl rfl hfo.1 (by simp [hfo.2]) (by first | exact M.at_ 0 rfl | exact M.at_ 1 rfl | exact M.at_ 2 rfl | exact M.at_ 3 rfl | exact M.at_ 4 rfl | exact M.at_ 5 rfl) rfl rfl rfl ?_ -- st1 cache.go:133
      intro wst1 hwst1
      have M := M.put 2 rfl hwst1
      have hge : w.heap.size ≤ bbx1 ∧ w.heap.size ≤ bbx2 ∧ w.heap.size ≤ bal1 := ⟨M.ge 0 rfl, M.ge 1 rfl, M.ge 2 rfl⟩
      refine ⟨⟨.inl (by kernel_rfl), .inl (by kernel_rfl), .inl (by kernel_rfl), .inl (by kernel_rfl), trivial⟩, ?_⟩
      refine x_assign rfl rfl rfl rfl ?_
      refine Ex.done (hK _ _ ?_)
      refine At.then_n ?_
      refine W.sub [(2, _), (3, _), (4, _), (6, _), (7, _), (8, _)] ⟨rfl, rfl, rfl, rfl, rfl, rfl, trivial⟩ ?_
      refine W.seqC (fun F' w' => ∃ A B l1, PutAt L k A B l1 ∧ CAt w' c e r bud (A ++ l1 :: B) ∧ (∀ x ∈ fp c e r (A ++ l1 :: B), x ∈ fp c e r L ∨ (w.heap.size ≤ x ∧ x ≠ bbx1 ∧ x ≠ bbx2 ∧ x ≠ bal1)) ∧ St (InC c e r L) w [(bbx1, .cells [ptr c].toArray 23 (0, 0)), (bbx2, .cells [.string k.1, .int .i64 k.2].toArray 29 (0, 0)), (bal1, .cells [ptr l1.id].toArray 58 (0, 0))] w' ∧ F' = [(2, .slice p b.length cap), (3, ptr bbx1), (6, .int .i64 0), (7, ptr bal1)]) ?_ ?_ -- cut 8
      · refine W.seq ?_
        refine W.sub [(2, _), (3, _), (4, _), (6, _), (7, _), (8, _)] ⟨rfl, rfl, rfl, rfl, rfl, rfl, trivial⟩ ?_
        refine W.reg [(0, false), (1, false)] (by kernel_rfl) ?_ -- region 8
        intro K hK
        refine x_move rfl rfl rfl rfl ?_
        refine x_not _ rfl rfl rfl rfl rfl ?_ -- un2 cache.go:134
        refine Ex.done (hK _ _ ?_)
        refine At.then_n ?_
        refine W.cond rfl (fun hco4 => ?_) (fun hco4 => ?_) -- co4
        · have hno : (findK L k).isSome = false := by simpa using hco4
          obtain ⟨hnk, _⟩ := findK_none hno
          refine W.seq ?_
          refine W.sub [(2, _), (3, _), (4, _), (6, _), (7, _)] ⟨rfl, rfl, rfl, rfl, rfl, trivial⟩ ?_
          refine W.reg [(0, false), (1, false), (2, false), (3, true), (4, true)] (by kernel_rfl) ?_ -- region 9
          intro K hK
          refine x_ldA [_, _] rfl rfl rfl Try.underlying29 rfl sz29 rfl rfl ⟨_, _, _, (by first | exact M.at_ 0 rfl | exact M.at_ 1 rfl | exact M.at_ 2 rfl | exact M.at_ 3 rfl | exact M.at_ 4 rfl | exact M.at_ 5 rfl), rfl⟩ ?_ -- ld9 cache.go:135
          refine x_build [_, _, _, _] rfl rfl rfl pl67 ze67 rfl rfl rfl ?_ -- bu1 cache.go:135
          refine x_build [_, _, _, _, _, _] rfl rfl rfl pl70 ze70 rfl rfl rfl ?_ -- bu2 cache.go:135
          refine x_box [_, _, _, _, _, _] rfl rfl rfl rfl rfl ?_ -- bx3 cache.go:135
          intro bbx3 wbx3 hbbx3 hwbx3
          have M := M.alloc hbbx3 hwbx3
          let l1 : Nd := ⟨bbx3, k.1, k.2, .slice none 0 0, [], 0⟩
          refine ⟨trivial, ?_⟩
          refine x_st [_] _ rfl rfl rfl sz58 rfl rfl rfl rfl (by first | exact M.at_ 0 rfl | exact M.at_ 1 rfl | exact M.at_ 2 rfl | exact M.at_ 3 rfl | exact M.at_ 4 rfl | exact M.at_ 5 rfl) rfl rfl rfl ?_ -- st2 cache.go:135
          intro wst2 hwst2
          have M := M.put 2 rfl hwst2
          refine ⟨trivial, ?_⟩
          refine Ex.done (hK _ _ ?_)
          refine At.then_n ?_
          refine W.seq ?_
          refine W.sub [(2, _), (3, _), (4, _), (6, _), (7, _)] ⟨rfl, rfl, rfl, rfl, rfl, trivial⟩ ?_
          refine W.regD (by kernel_rfl) #[0, 1, 3, 7, 0, 31] [(0, false), (1, false), (2, false), (3, false), (4, false), (5, true)] (by kernel_rfl) ?_ -- region 10
          intro K wD3 hK hwD3
          have M := M.drew hwD3
          have hcat := h.new M.frm
          have hx3 : w.heap.size ≤ bbx3 := M.ge 3 rfl
          refine x_ld rfl rfl rfl Try.underlying23 rfl rfl (cell_of (by first | exact M.at_ 0 rfl | exact M.at_ 1 rfl | exact M.at_ 2 rfl | exact M.at_ 3 rfl | exact M.at_ 4 rfl | exact M.at_ 5 rfl) rfl) ?_ -- ld10 cache.go:136
          refine x_nil rfl rfl rfl rfl rfl ?_
          refine x_fa rfl rfl rfl fo63_2 rfl ?_
          refine x_ldA [_] rfl rfl rfl Try.underlying60 rfl sz60 rfl rfl ⟨_, _, _, hcat.hc, rfl⟩ ?_ -- ld11 cache.go:136
          refine x_ld rfl rfl rfl Try.underlying58 rfl rfl (cell_of (by first | exact M.at_ 0 rfl | exact M.at_ 1 rfl | exact M.at_ 2 rfl | exact M.at_ 3 rfl | exact M.at_ 4 rfl | exact M.at_ 5 rfl) rfl) ?_ -- ld12 cache.go:136
          -- call3: (valise/cache.ring[valise/cache.block]).front cache.go:136
          refine x_call rfl rfl rfl rfl rfl en27 (front_ring (l := l1) hcat.ring (M.at_ 3 rfl) (fun hm => by have := h.lt l1.id (InRing.fp (c := c) (r := r) (L := L) hm); simp only [l1] at this; omega)) ?_
          rintro v w1 ⟨rfl, hring, hF⟩
          have hnd4 := M.nd
          have M0 := M
          have hInL : ∀ b, InRing e (l1 :: L) b → InC c e r L b ∨ b = bbx3 := fun b hb => by
            simp only [InRing, ids, List.map_cons, List.mem_cons] at hb
            rcases hb with hb | hb | hb
            · exact .inl (by simp [InC, fp, hb])
            · exact .inr hb
            · exact .inl (by simp only [InC, fp, List.mem_cons, List.mem_append]; exact .inr (.inr (.inr (.inl hb))))
          have hne3 : bbx1 ≠ bbx3 ∧ bbx2 ≠ bbx3 ∧ bal1 ≠ bbx3 := by simp at hnd4; exact ⟨hnd4.1.2.2, hnd4.2.1.2, hnd4.2.2⟩
          have M := ((M.sub (L' := [_, _, _]) (List.sublist_append_left _ [_])).weak (S' := InC c e r L) (fun _ h => h.elim)).call' hF (by
            intro x hx hb
            have hx' : x.1 = bbx1 ∨ x.1 = bbx2 ∨ x.1 = bal1 := by
              simp at hx; rcases hx with rfl | rfl | rfl <;> simp
            rcases hInL _ hb with h1 | h1
            · have := h.lt _ h1; omega
            · omega) (fun b hb => (hInL b hb).imp id (fun h1 => by omega))
          have hfx := fp_facts h.nd
          have hlt := h.lt
          have hnotc : ∀ b, b = c ∨ b = r ∨ b ∈ blks L → ¬ InRing e (l1 :: L) b := fun b hb hin => by
            have hmem : b ∈ fp c e r L := by simp only [fp, List.mem_cons, List.mem_append]; rcases hb with h1 | h1 | h1 <;> simp [h1]
            have hlb := h.lt b hmem
            simp only [InRing, ids, List.map_cons, List.mem_cons] at hin
            refine InRing.not h.nd hb ?_
            simp only [InRing, List.mem_cons]
            rcases hin with h1 | h1 | h1
            · exact .inl h1
            · simp only [l1] at h1; omega
            · exact .inr h1
          have hkeep : ∀ b, b = c ∨ b = r ∨ b ∈ blks L → w1.heap[b]? = wD3.heap[b]? := fun b hb => hF.old b (hcat.lt b (by simp only [fp, List.mem_cons, List.mem_append]; rcases hb with h1 | h1 | h1 <;> simp [h1])) (hnotc b hb)
          have hc4 := (hkeep c (.inl rfl)).trans hcat.hc
          obtain ⟨o4, g4, ho4, hm4, hg4⟩ := hcat.mp
          have ho4 := (hkeep r (.inr (.inl rfl))).trans ho4
          refine ⟨⟨.inl (by kernel_rfl), .inl (by kernel_rfl), .inl (by kernel_rfl), trivial⟩, ?_⟩
          refine Ex.done (hK _ _ ?_)
          refine At.then_n ?_
          refine W.sub [(2, _), (3, _), (4, _), (6, _), (7, _)] ⟨rfl, rfl, rfl, rfl, rfl, trivial⟩ ?_
          refine W.regD (by kernel_rfl) #[0, 1, 3, 7, 0, 0, 63] [(0, false), (1, false), (2, false), (3, false), (4, false), (5, false), (6, true)] (by kernel_rfl) ?_ -- region 11
          intro K wD4 hK hwD4
          have M := M.drew hwD4
          have hc4 := (hp_drew hwD4 c).trans hc4
          have ho4 := (hp_drew hwD4 r).trans ho4
          refine x_ld rfl rfl rfl Try.underlying23 rfl rfl (cell_of (by first | exact M.at_ 0 rfl | exact M.at_ 1 rfl | exact M.at_ 2 rfl | exact M.at_ 3 rfl | exact M.at_ 4 rfl | exact M.at_ 5 rfl) rfl) ?_ -- ld13 cache.go:137
          refine x_nil rfl rfl rfl rfl rfl ?_
          refine x_fa rfl rfl rfl fo63_3 rfl ?_
          refine x_ld rfl rfl rfl Try.underlying61 rfl rfl (cell_of hc4 rfl) ?_ -- ld14 cache.go:137
          refine x_ldA [_, _] rfl rfl rfl Try.underlying29 rfl sz29 rfl rfl ⟨_, _, _, (by first | exact M.at_ 0 rfl | exact M.at_ 1 rfl | exact M.at_ 2 rfl | exact M.at_ 3 rfl | exact M.at_ 4 rfl | exact M.at_ 5 rfl), rfl⟩ ?_ -- ld15 cache.go:137
          refine x_ld rfl rfl rfl Try.underlying58 rfl rfl (cell_of (by first | exact M.at_ 0 rfl | exact M.at_ 1 rfl | exact M.at_ 2 rfl | exact M.at_ 3 rfl | exact M.at_ 4 rfl | exact M.at_ 5 rfl) rfl) ?_ -- ld16 cache.go:137
          -- mu1: cache.go:137
          refine x_mup k rfl rfl rfl keyLaw Try.underlying61 rfl rfl rfl ho4 hm4 ?_
          intro o5 w5 hm5 hw5
          have hrlt : r < wD4.heap.size := (Array.getElem?_eq_some_iff.1 ho4).1
          have ho5 : w5.heap[r]? = some o5 := by rw [hw5]; exact World.putObj_heap_same hrlt
          have hrw : ∀ x, x ≠ r → w5.heap[x]? = w1.heap[x]? := fun x hx => (hp_put hw5 hx).trans (hp_drew hwD4 x)
          have hidn : bbx3 ∉ fp c e r L := fun hm => by have := h.lt _ hm; omega
          have hcat5 : CAt w5 c e r bud (l1 :: L) := hcat.added rfl rfl hidn hnk (hring.same fun b hb => hrw b (fun e1 => hnotc r (.inr (.inl rfl)) (e1 ▸ hb))) ho5 hm5 hg4 (fun b hb => by
            rw [hrw b (fun e1 => by rcases hb with h1 | h1; exact hfx.2.1 (h1 ▸ e1); exact hfx.2.2.2.2.2.2.2.2.1 (e1 ▸ h1))]
            exact hkeep b (by rcases hb with h1 | h1; exact .inl h1; exact .inr (.inr h1)))
          have M := M.call' (Frm.put (S := fun b => b = r) rfl hw5) (by
            intro x hx hb
            have hx' : x.1 = bbx1 ∨ x.1 = bbx2 ∨ x.1 = bal1 := by
              simp at hx; rcases hx with rfl | rfl | rfl <;> simp
            have := h.lt r (by simp [fp]); omega) (fun b hb => .inl (by simp [InC, fp, hb]))
          refine ⟨⟨.inl (by kernel_rfl), .inl (by kernel_rfl), .inl (by kernel_rfl), .inl (by kernel_rfl), trivial⟩, ?_⟩
          refine Ex.done (hK _ _ ?_)
          refine At.sub [(2, _), (3, _), (6, _), (7, _)] ⟨rfl, rfl, rfl, rfl, trivial⟩ ?_
          refine At.cut_n ?_ -- ac1
          refine ⟨[], L, l1, .inr ⟨rfl, rfl, rfl, rfl, rfl, rfl, rfl, hnk⟩, hcat5, fun x hx => ?_, M, rfl⟩
          have : x = bbx3 ∨ x ∈ fp c e r L := by
            have hblks : blks (l1 :: L) = blks L := by simp [blks, l1, blkOf]
            simp only [fp, List.nil_append, hblks, ids, List.map_cons, List.mem_cons, List.mem_append] at hx ⊢
            rcases hx with hx | hx | hx | (hx | hx) | hx
            · exact .inr (.inl hx)
            · exact .inr (.inr (.inl hx))
            · exact .inr (.inr (.inr (.inl hx)))
            · exact .inl hx
            · exact .inr (.inr (.inr (.inr (.inl hx))))
            · exact .inr (.inr (.inr (.inr (.inr hx))))
          rcases this with h1 | h1
          · exact .inr ⟨by omega, by omega, by omega, by omega⟩
          · exact .inl h1
        · have hyes : (findK L k).isSome = true := by simpa using hco4
          obtain ⟨A, l1, B, hLe, hk1, hfk, _⟩ := findK_some hyes
          refine W.skip ?_
          refine At.sub [(2, _), (3, _), (6, _), (7, _)] ⟨rfl, rfl, rfl, rfl, trivial⟩ ?_
          refine At.cut_n ?_ -- ac2
          rw [hfk] at M
          exact ⟨A, B, l1, .inl ⟨hLe, hk1⟩, by rw [← hLe]; exact h.new M.frm, fun x hx => .inl (by rw [hLe]; exact hx), M.weak (fun _ h => h.elim), rfl⟩
      rintro F' wc ⟨A, B, l1, hput, hcat, hfpc, M, rfl⟩
      refine W.seq ?_
      refine W.sub [(2, _), (3, _), (6, _), (7, _)] ⟨rfl, rfl, rfl, rfl, trivial⟩ ?_
      refine W.regD (by kernel_rfl) #[0, 1, 3, 7, 0, 16, 0, 64, 192, 448, 960, 1984, 4080, 8191, 16383, 32767, 65535] [(0, false), (1, false), (2, false), (3, false), (4, false), (5, false), (6, false), (7, false), (8, false), (9, false), (10, false), (11, false), (12, false), (13, false), (14, false), (15, false), (16, true)] (by kernel_rfl) ?_ -- region 12
      intro K wD5 hK hwD5
      have M := M.drew hwD5
      have hge5 : w.heap.size ≤ wD5.heap.size := M.size
      have hbx5 : bbx1 < wD5.heap.size ∧ bbx2 < wD5.heap.size ∧ bal1 < wD5.heap.size := ⟨M.lt (List.mem_of_getElem? (i := 0) rfl), M.lt (List.mem_of_getElem? (i := 1) rfl), M.lt (List.mem_of_getElem? (i := 2) rfl)⟩
      have hcat := hcat.drw hwD5
      have hkl := hput.key
      have htl := hput.tot
      have htm := tot_mid A B l1
      have hszL := h.sz
      have hl1 := hcat.len l1 (by simp)
      have h0AB := (len_le (A ++ B) (fun n hn => hcat.len n (by simp only [List.mem_append, List.mem_cons] at hn ⊢; exact hn.imp id .inr))).1
      obtain ⟨p1, cap1, hsv1⟩ := (hcat.bs l1 (by simp)).shape
      have hnode := (hcat.ring.node_at (A := A) (l := l1) (B := B)).1
      have hnodeX := hnode
      have hcatX := hcat
      unfold nodeO at hnode
      rw [hsv1] at hnode
      have hfx := fp_facts hcat.nd
      have hl1c : l1.id ≠ c := hcat.lid.2.1
      have hcm : c ∈ fp c e r (A ++ l1 :: B) := by simp [fp]
      have hl1m : l1.id ∈ fp c e r (A ++ l1 :: B) := by simp only [fp, List.mem_cons, List.mem_append]; exact .inr (.inr (.inr (.inl (mem_ids (by simp)))))
      have hcL : c ∈ fp c e r L := by simp [fp]
      refine x_ld rfl rfl rfl Try.underlying23 rfl rfl (cell_of (by first | exact M.at_ 0 rfl | exact M.at_ 1 rfl | exact M.at_ 2 rfl | exact M.at_ 3 rfl | exact M.at_ 4 rfl | exact M.at_ 5 rfl) rfl) ?_ -- ld17 cache.go:139
      refine x_nil rfl rfl rfl rfl rfl ?_
      refine x_fa rfl rfl rfl fo63_1 rfl ?_
      refine x_ld rfl rfl rfl Try.underlying3 rfl rfl (cell_of hcat.hc rfl) ?_ -- ld18 cache.go:139
      refine x_move rfl rfl rfl rfl ?_
      refine x_len rfl rfl rfl rfl Try.underlying31 rfl ?_
      refine x_ld rfl rfl rfl Try.underlying58 rfl rfl (cell_of (by first | exact M.at_ 0 rfl | exact M.at_ 1 rfl | exact M.at_ 2 rfl | exact M.at_ 3 rfl | exact M.at_ 4 rfl | exact M.at_ 5 rfl) rfl) ?_ -- ld19 cache.go:139
      refine x_nil rfl rfl rfl rfl rfl ?_
      refine x_fa rfl rfl rfl fo70_0 rfl ?_
      refine x_fa rfl rfl rfl fo67_1 rfl ?_
      refine x_ld rfl rfl rfl Try.underlying31 rfl rfl (cell_of hnode rfl) ?_ -- ld20 cache.go:139
      refine x_len rfl rfl rfl rfl Try.underlying31 rfl ?_
      refine x_sub ((b.length : Int) - l1.b.length) rfl rfl rfl rfl rfl (wrap64_id (by omega) (by omega)) ?_ -- ar2 cache.go:139
      refine x_add (tot (A ++ B) + b.length) rfl rfl rfl rfl rfl (by rw [wrap64_id (by omega) (by omega)]; omega) ?_ -- ar3 cache.go:139
      refine x_nil rfl rfl rfl rfl rfl ?_
      refine x_fa rfl rfl rfl fo63_1 rfl ?_
      refine x_st [_] [_, _, _, _] rfl rfl rfl sz3 rfl rfl rfl rfl hcat.hc rfl rfl rfl ?_ -- st3 cache.go:139
      intro wst3 hwst3
      have hc3 := hp_putS hwst3 hcat.hc
      have hnode3 := (hp_put hwst3 hl1c).trans hnode
      have M := M.call' (Frm.put (S := fun b => b = c) rfl hwst3) (by
        intro x hx hb
        have hx' : x.1 = bbx1 ∨ x.1 = bbx2 ∨ x.1 = bal1 := by
          simp at hx; rcases hx with rfl | rfl | rfl <;> simp
        have := h.lt c hcL; omega) (fun b hb => .inl (by rw [hb]; exact hcL))
      refine ⟨⟨.inl (by kernel_rfl), .inl (by kernel_rfl), .inl (by kernel_rfl), .inl (by kernel_rfl), trivial⟩, ?_⟩
      refine Ex.done (hK _ _ ?_)
      refine At.then_n ?_
      refine W.seq ?_
      refine W.sub [(2, _), (3, _), (6, _), (7, _)] ⟨rfl, rfl, rfl, rfl, trivial⟩ ?_
      refine W.regD (by kernel_rfl) #[0, 0, 2, 7, 15, 31, 63] [(0, false), (1, false), (2, true), (3, false), (4, false), (5, false), (6, true)] (by kernel_rfl) ?_ -- region 13
      intro K wD6 hK hwD6
      have M := M.drew hwD6
      have hc3 := (hp_drew hwD6 c).trans hc3
      have hnode3 := (hp_drew hwD6 l1.id).trans hnode3
      have hkeep3 : ∀ x, x ≠ c → wD6.heap[x]? = wD5.heap[x]? := fun x hx => (hp_drew hwD6 x).trans (hp_put hwst3 hx)
      refine x_ld rfl rfl rfl Try.underlying58 rfl rfl (cell_of (by first | exact M.at_ 0 rfl | exact M.at_ 1 rfl | exact M.at_ 2 rfl | exact M.at_ 3 rfl | exact M.at_ 4 rfl | exact M.at_ 5 rfl) rfl) ?_ -- ld21 cache.go:140
      refine x_move rfl rfl rfl rfl ?_
      -- call4: slices.Clone[[]byte,byte] cache.go:140
      refine x_call rfl rfl rfl rfl rfl en28 (clone_c (hb.keep (fun hne g hg hlt => M.old g hlt (hblk hne g hg))) hlen) ?_
      rintro v w6 ⟨hv1, hv2, hv3⟩
      obtain ⟨p2, cap2, rfl⟩ := hv1.shape
      have M := M.new hv2
      have hc6 := (hv2.old c (Array.getElem?_eq_some_iff.1 hc3).1 id).trans hc3
      have hnode6 := (hv2.old l1.id (Array.getElem?_eq_some_iff.1 hnode3).1 id).trans hnode3
      refine ⟨⟨.inr (cell_of (by first | exact M.at_ 0 rfl | exact M.at_ 1 rfl | exact M.at_ 2 rfl | exact M.at_ 3 rfl | exact M.at_ 4 rfl | exact M.at_ 5 rfl) rfl), trivial⟩, ?_⟩
      refine x_nil rfl rfl rfl rfl rfl ?_
      refine x_fa rfl rfl rfl fo70_0 rfl ?_
      refine x_fa rfl rfl rfl fo67_1 rfl ?_
      refine x_st [_] [_, _, _, _, _, _] rfl rfl rfl sz31 rfl rfl rfl rfl hnode6 rfl rfl rfl ?_ -- st4 cache.go:140
      intro wst4 hwst4
      have hnode7 := hp_putS hwst4 hnode6
      have hc7 := (hp_put hwst4 (Ne.symm hl1c)).trans hc6
      have hfpx := hfpc l1.id hl1m
      have M := M.call' (Frm.put (S := fun b => b = l1.id) rfl hwst4) (by
        intro x hx hb
        have hx' : x.1 = bbx1 ∨ x.1 = bbx2 ∨ x.1 = bal1 := by
          simp at hx; rcases hx with rfl | rfl | rfl <;> simp
        rcases hfpx with h1 | h1
        · have := h.lt _ h1; omega
        · omega) (fun b hb => by rw [hb]; exact hfpx.imp id (fun h => h.1))
      obtain ⟨l2, hl2⟩ : ∃ l2 : Nd, l2 = { l1 with sv := .slice p2 b.length cap2, b := b } := ⟨_, rfl⟩
      have h2f : l2.f = k.1 := by rw [hl2, ← hkl]
      have h2i : l2.i = k.2 := by rw [hl2, ← hkl]
      have h2p : l2.pins = l1.pins := by rw [hl2]
      have h2b : l2.b = b := by rw [hl2]
      have h2id : l2.id = l1.id := by rw [hl2]
      have h2s : l2.sv = .slice p2 b.length cap2 := by rw [hl2]
      have hfresh : ∀ g, blkOf (.slice p2 b.length cap2) = some g → wD5.heap.size ≤ g := fun g hg => by
        have h1 := hv3 g hg
        have h2 : wD6.heap.size = wD5.heap.size := by rw [hwD6, hwst3]; show (wD5.putObj c _).heap.size = _; rw [World.putObj_size]
        omega
      have htm2 := tot_mid A B l2
      rw [h2b] at htm2
      have hcat2 : CAt wst4 c e r bud (A ++ l2 :: B) := by
        refine hcatX.reblock hl2 hnodeX (by rw [hnode7, hl2]; rfl) (by rw [hc7, htm2, Int.add_comm]) ?_ (fun g hg hm => by have := hcatX.lt g hm; have := hfresh g hg; omega) hle (by omega) (fun x hx h1 h2 => ?_)
        · refine hv1.same fun g hg => hp_put hwst4 (fun e1 => ?_)
          have := hcatX.lt l1.id hl1m; have := hfresh g hg; omega
        · rw [hp_put hwst4 h1, hv2.old x (by rw [hwD6, hwst3]; show x < (wD5.putObj c _).heap.size; rw [World.putObj_size]; exact hcatX.lt x hx) id, hkeep3 x h2]
      have hfp2 : ∀ x ∈ fp c e r (A ++ l2 :: B), x ∈ fp c e r L ∨ (w.heap.size ≤ x ∧ x ≠ bbx1 ∧ x ≠ bbx2 ∧ x ≠ bal1) := fun x hx => by
        have : x ∈ fp c e r (A ++ l1 :: B) ∨ blkOf l2.sv = some x := by
          have hx' := (perm_fp (mid_perm A B l2)).mem_iff.1 hx
          have e1 : ids (l2 :: (A ++ B)) = ids (l1 :: (A ++ B)) := by simp [ids, h2id]
          by_cases hq : blkOf l2.sv = some x
          · exact .inr hq
          · refine .inl ((perm_fp (mid_perm A B l1)).mem_iff.2 ?_)
            simp only [fp, e1, List.mem_cons, List.mem_append] at hx' ⊢
            rcases hx' with h1 | h1 | h1 | h1 | h1
            · exact .inl h1
            · exact .inr (.inl h1)
            · exact .inr (.inr (.inl h1))
            · exact .inr (.inr (.inr (.inl h1)))
            · refine .inr (.inr (.inr (.inr ?_)))
              simp only [blks, List.mem_filterMap, List.mem_cons] at h1 ⊢
              obtain ⟨n, hn | hn, h3⟩ := h1
              · rw [hn] at h3; exact absurd h3 hq
              · exact ⟨n, .inr hn, h3⟩
        rcases this with h1 | h1
        · exact hfpc x h1
        · rw [h2s] at h1
          have := hfresh x h1
          exact .inr ⟨by omega, by omega, by omega, by omega⟩
      refine ⟨⟨.inl (by kernel_rfl), trivial⟩, ?_⟩
      refine Ex.done (hK _ _ ?_)
      refine At.then_n ?_
      refine W.seq ?_
      refine W.sub [(3, _), (6, _), (7, _)] ⟨rfl, rfl, rfl, trivial⟩ ?_
      refine W.reg [(0, false), (1, false), (2, true)] (by kernel_rfl) ?_ -- region 14
      intro K hK
      refine x_ld rfl rfl rfl Try.underlying23 rfl rfl (cell_of (by first | exact M.at_ 0 rfl | exact M.at_ 1 rfl | exact M.at_ 2 rfl | exact M.at_ 3 rfl | exact M.at_ 4 rfl | exact M.at_ 5 rfl) rfl) ?_ -- ld22 cache.go:141
      refine x_ld rfl rfl rfl Try.underlying58 rfl rfl (cell_of (by first | exact M.at_ 0 rfl | exact M.at_ 1 rfl | exact M.at_ 2 rfl | exact M.at_ 3 rfl | exact M.at_ 4 rfl | exact M.at_ 5 rfl) rfl) ?_ -- ld23 cache.go:141
      -- call5: (*valise/cache.Cache).use cache.go:141
      refine x_call rfl rfl rfl rfl rfl en29 (h2id ▸ use_c hcat2) ?_
      rintro v w8 ⟨rfl, hcat3, hF⟩
      have M := M.call' hF (by
        intro x hx hb
        have hx' : x.1 = bbx1 ∨ x.1 = bbx2 ∨ x.1 = bal1 := by
          simp at hx; rcases hx with rfl | rfl | rfl <;> simp
        rcases hfp2 _ (InRing.fp (c := c) (r := r) hb) with h1 | h1
        · have := h.lt _ h1; omega
        · omega) (fun b hb => (hfp2 _ (InRing.fp (c := c) (r := r) hb)).imp id (fun h => h.1))
      have hfp3 : ∀ x ∈ fp c e r (l2 :: (A ++ B)), x ∈ fp c e r L ∨ (w.heap.size ≤ x ∧ x ≠ bbx1 ∧ x ≠ bbx2 ∧ x ≠ bal1) := fun x hx => hfp2 x ((perm_fp (mid_perm A B l2)).mem_iff.2 hx)
      generalize hX : A ++ B = X at hcat3 hfp3
      refine ⟨trivial, ?_⟩
      refine Ex.done (hK _ _ ?_)
      refine At.then_n ?_
      refine W.seq ?_
      refine W.seq ?_
      refine W.sub [(3, _), (6, _), (7, _)] ⟨rfl, rfl, rfl, trivial⟩ ?_
      refine W.reg [(0, false), (1, false), (2, false), (3, false), (4, true)] (by kernel_rfl) ?_ -- region 15
      intro K hK
      refine x_ld rfl rfl rfl Try.underlying23 rfl rfl (cell_of (by first | exact M.at_ 0 rfl | exact M.at_ 1 rfl | exact M.at_ 2 rfl | exact M.at_ 3 rfl | exact M.at_ 4 rfl | exact M.at_ 5 rfl) rfl) ?_ -- ld24 cache.go:142
      refine x_nil rfl rfl rfl rfl rfl ?_
      refine x_fa rfl rfl rfl fo63_2 rfl ?_
      refine x_ldA [_] rfl rfl rfl Try.underlying60 rfl sz60 rfl rfl ⟨_, _, _, hcat3.hc, rfl⟩ ?_ -- ld25 cache.go:142
      -- call6: (valise/cache.ring[valise/cache.block]).back cache.go:142
      refine x_call rfl rfl rfl rfl rfl en30 (back0) ?_
      rintro v wq ⟨rb, rfl, hrb, M1⟩
      have M := M.grow M1
      have hcat4 := hcat3.new M1.frm
      have hlt3 := hcat3.lt
      have hwq := M1.size
      refine ⟨trivial, ?_⟩
      refine Ex.done (hK _ _ ?_)
      refine At.then_n ?_
      refine W.block ?_
      refine W.sub [(3, _), (6, _), (7, _), (86, _)] ⟨rfl, rfl, rfl, rfl, trivial⟩ ?_
      refine W.range rfl en40 (fun rr hkt hps has hbdrng1 w2 hw2 => ?_)
      have hcat5 : CAt w2 c e r bud (l2 :: X) := by
        subst hw2
        exact (hcat4.alc rfl).alc rfl
      have M := M.range hw2
      have hno3 : ∀ x, x ∈ fp c e r (l2 :: X) → x ≠ rb ∧ x ≠ wq.heap.size ∧ x ≠ wq.heap.size + 1 ∧ x ≠ bbx1 ∧ x ≠ bbx2 ∧ x ≠ bal1 := fun x hx => by
        have h1 := hlt3 x hx
        have h2 := hfp3 x hx
        rcases h2 with h2 | h2
        · have := h.lt x h2; omega
        · omega
      refine (back1 (J := fun rest w' => ∃ P KK, rest = ids P ∧ CAt w' c e r bud (P.reverse ++ KK) ∧ evict bud P KK = evict bud (l2 :: X).reverse [] ∧ (∀ n ∈ P.reverse ++ KK, n ∈ l2 :: X) ∧ (P ≠ [] → ∃ P', P = P' ++ [l2]) ∧ l2 ∈ P.reverse ++ KK ∧ St (InC c e r L) w [(bbx1, .cells [ptr c].toArray 23 (0, 0)), (bbx2, .cells [.string k.1, .int .i64 k.2].toArray 29 (0, 0)), (bal1, .cells [ptr l1.id].toArray 58 (0, 0)), (rb, .cells [ptr e].toArray 60 (0, 0)), (wq.heap.size, .deferred (some [])), (wq.heap.size + 1, .loop { rr with state := .ready, pending := none })] w')
        (Jx := fun w' => CAt w' c e r bud (evict bud (l2 :: X).reverse []) ∧ St (InC c e r L) w [(bbx1, .cells [ptr c].toArray 23 (0, 0)), (bbx2, .cells [.string k.1, .int .i64 k.2].toArray 29 (0, 0)), (bal1, .cells [ptr l1.id].toArray 58 (0, 0)), (rb, .cells [ptr e].toArray 60 (0, 0)), (wq.heap.size, .deferred (some [])), (wq.heap.size + 1, .loop { rr with state := .done, pending := some (.exit 1) })] w') (xs := ids (l2 :: X).reverse) ?_ ⟨(l2 :: X).reverse, [], rfl, by simpa using hcat5, rfl, by simp, fun _ => ⟨X.reverse, by simp⟩, by simp, M⟩ (by rw [ids_rev]; refine cell_of hcat5.ring.end_at ?_; rw [lstI_rev]; rfl) ?_).mono ?_
      · rintro rest w' ⟨P, KK, rfl, hcat, _, _, _, _, M⟩
        exact ⟨M.at_ 3 rfl, hcat.stepB⟩
      · rintro x rest w' ⟨P, KK, hR, hcat, hev, hsub, hlast, hl2m, M⟩
        obtain ⟨nd, P2, rfl, rfl, rfl⟩ := ids_cons hR
        have hno : ∀ x, x ∈ fp c e r ((nd :: P2).reverse ++ KK) → x ≠ rb ∧ x ≠ wq.heap.size ∧ x ≠ wq.heap.size + 1 ∧ x ≠ bbx1 ∧ x ≠ bbx2 ∧ x ≠ bal1 := fun x hx => hno3 x (fp_sub hsub x hx)
        refine Yld.one (M.at_ 5 rfl) hkt hps rfl has ?_
        refine W.sub [(3, _), (6, _), (7, _), (87, _)] ⟨rfl, rfl, rfl, rfl, trivial⟩ ?_
        refine W.reg [(0, false)] (by kernel_rfl) ?_ -- region 16
        intro K hK
        refine x_assign rfl rfl rfl rfl ?_
        refine Ex.done (hK _ _ ?_)
        refine At.asg hbdrng1 (M.at_ 5 rfl) ?_
        generalize hwb : World.putObj _ _ _ = wb
        have M := M.put 5 rfl hwb.symm
        have hcat := hcat.put (fun hm => (hno _ hm).2.2.1 rfl) hwb.symm
        refine W.block ?_
        refine W.seq ?_
        refine W.seq ?_
        refine W.sub [(3, _), (6, _), (7, _), (9, _)] ⟨rfl, rfl, rfl, rfl, trivial⟩ ?_
        refine W.regD (by kernel_rfl) #[0, 1, 3, 7, 0, 16, 48, 112, 255] [(0, false), (1, false), (2, false), (3, false), (4, false), (5, false), (6, false), (7, false), (8, false)] (by kernel_rfl) ?_ -- region 17
        intro K wD7 hK hwD7
        have M := M.drew hwD7
        have hcat := hcat.drw hwD7
        have hcc := hcat.hc
        refine x_ld rfl rfl rfl Try.underlying23 rfl rfl (cell_of (by first | exact M.at_ 0 rfl | exact M.at_ 1 rfl | exact M.at_ 2 rfl | exact M.at_ 3 rfl | exact M.at_ 4 rfl | exact M.at_ 5 rfl) rfl) ?_ -- ld26 cache.go:143
        refine x_nil rfl rfl rfl rfl rfl ?_
        refine x_fa rfl rfl rfl fo63_1 rfl ?_
        refine x_ld rfl rfl rfl Try.underlying3 rfl rfl (cell_of hcc rfl) ?_ -- ld27 cache.go:143
        refine x_ld rfl rfl rfl Try.underlying23 rfl rfl (cell_of (by first | exact M.at_ 0 rfl | exact M.at_ 1 rfl | exact M.at_ 2 rfl | exact M.at_ 3 rfl | exact M.at_ 4 rfl | exact M.at_ 5 rfl) rfl) ?_ -- ld28 cache.go:143
        refine x_nil rfl rfl rfl rfl rfl ?_
        refine x_fa rfl rfl rfl fo63_0 rfl ?_
        refine x_ld rfl rfl rfl Try.underlying3 rfl rfl (cell_of hcc rfl) ?_ -- ld29 cache.go:143
        refine x_leq _ rfl rfl rfl rfl rfl rfl ?_ -- cm3 cache.go:143
        refine Ex.done (hK _ _ ?_)
        refine At.then_n ?_
        refine W.cond rfl (fun hco5 => ?_) (fun hco5 => ?_) -- co5
        · refine W.exit ?_
          refine At.then_x ?_
          refine At.blk_y rfl ?_
          refine At.rnd_x (M.at_ 5 rfl) ?_ -- rd1
          refine ⟨false, rfl, (fun h => by cases h), fun _ => ⟨?_, M.put 5 rfl rfl⟩⟩
          have : evict bud (nd :: P2) KK = (nd :: P2).reverse ++ KK := by unfold evict; rw [if_pos (of_decide_eq_true hco5)]
          rw [← hev, this]
          exact hcat.put (fun hm => (hno _ hm).2.2.1 rfl) rfl
        · have hgt : ¬ tot ((nd :: P2).reverse ++ KK) ≤ bud := of_decide_eq_false hco5
          have hcatm : CAt wD7 c e r bud (P2.reverse ++ nd :: KK) := by simpa using hcat
          have hmm : (nd :: P2).reverse ++ KK = P2.reverse ++ nd :: KK := by simp
          obtain ⟨p3, cap3, hsv3⟩ := (hcatm.bs nd (by simp)).shape
          have hnode := hcatm.ring.node_at.1
          unfold nodeO at hnode
          have hinj := hcatm.id_inj rfl
          have hnext : ∀ K2 : List Nd, (∀ n ∈ K2, n ∈ nd :: KK) → ∀ n ∈ P2.reverse ++ K2, n ∈ l2 :: X := fun K2 hK n hn => hsub n (by
            rw [hmm]
            simp only [List.mem_append] at hn ⊢
            exact hn.imp id (hK n))
          refine W.skip ?_
          refine At.then_n ?_
          refine W.seq ?_
          refine W.sub [(3, _), (6, _), (7, _), (9, _)] ⟨rfl, rfl, rfl, rfl, trivial⟩ ?_
          refine W.reg [(0, false), (1, false), (2, false), (3, false), (4, false), (5, false), (6, false), (7, false), (8, false), (9, false), (10, false)] (by kernel_rfl) ?_ -- region 18
          intro K hK
          refine x_move rfl rfl rfl rfl ?_
          refine x_ld rfl rfl rfl Try.underlying58 rfl rfl (cell_of (by first | exact M.at_ 0 rfl | exact M.at_ 1 rfl | exact M.at_ 2 rfl | exact M.at_ 3 rfl | exact M.at_ 4 rfl | exact M.at_ 5 rfl) rfl) ?_ -- ld30 cache.go:146
          refine x_nepp _ rfl rfl rfl Try.underlying58 sz70 (by decide) rfl rfl (hcatm.okNode (n := nd) (by simp)) (h2id ▸ hcat.okNode hl2m) rfl ?_ -- eq1 cache.go:146
          refine x_move rfl rfl rfl rfl ?_
          refine Ex.split 100 rfl (fun hsp1 => ?_) (fun hsp1 => ?_)
          · -- sp1 True
            have hne : nd.id ≠ l1.id := by simpa using hsp1
            have hP2 : P2 ≠ [] := fun e1 => by
              obtain ⟨P', hP'⟩ := hlast (by simp)
              rw [e1] at hP'
              cases P' with
              | nil => simp at hP'; exact hne (by rw [hP', h2id])
              | cons a b => simp at hP'
            obtain ⟨P3, hP3⟩ : ∃ P3, P2 = P3 ++ [l2] := by
              obtain ⟨P', hP'⟩ := hlast (by simp)
              cases P' with
              | nil => simp at hP'; exact absurd hP'.2 hP2
              | cons a b => simp at hP'; exact ⟨b, hP'.2⟩
            refine x_move rfl rfl rfl rfl ?_
            refine x_nil rfl rfl rfl rfl rfl ?_
            refine x_fa rfl rfl rfl fo70_0 rfl ?_
            refine x_fa rfl rfl rfl fo67_2 rfl ?_
            refine x_ld rfl rfl rfl Try.underlying3 rfl rfl (cell_of hnode rfl) ?_ -- ld31 cache.go:146
            refine x_eqi _ rfl rfl rfl rfl rfl rfl ?_ -- eq2 cache.go:146
            refine x_pickT rfl rfl rfl rfl rfl ?_
            refine Ex.done (hK _ _ ?_)
            refine At.then_n ?_
            refine W.cond rfl (fun hco6 => ?_) (fun hco6 => ?_) -- co6
            · refine W.sub [(3, _), (6, _), (9, _)] ⟨rfl, rfl, rfl, trivial⟩ ?_
              refine W.reg [(0, false), (1, false), (2, true)] (by kernel_rfl) ?_ -- region 19
              intro K hK
              refine x_ld rfl rfl rfl Try.underlying23 rfl rfl (cell_of (by first | exact M.at_ 0 rfl | exact M.at_ 1 rfl | exact M.at_ 2 rfl | exact M.at_ 3 rfl | exact M.at_ 4 rfl | exact M.at_ 5 rfl) rfl) ?_ -- ld32 cache.go:147
              refine x_move rfl rfl rfl rfl ?_
              -- call7: (*valise/cache.Cache).gone cache.go:147
              refine x_call rfl rfl rfl rfl rfl en31 (gone_c hcatm) ?_
              rintro v w9 ⟨rfl, hcat9, hF⟩
              have hnom : ∀ x, x ∈ fp c e r (P2.reverse ++ nd :: KK) → x ≠ rb ∧ x ≠ wq.heap.size ∧ x ≠ wq.heap.size + 1 ∧ x ≠ bbx1 ∧ x ≠ bbx2 ∧ x ≠ bal1 := fun x hx => hno x (by rw [hmm]; exact hx)
              have M := M.call' hF (by
                intro x hx hb
                have := hnom _ hb
                have hx' : x.1 = bbx1 ∨ x.1 = bbx2 ∨ x.1 = bal1 ∨ x.1 = rb ∨ x.1 = wq.heap.size ∨ x.1 = wq.heap.size + 1 := by
                  simp at hx; rcases hx with rfl | rfl | rfl | rfl | rfl | rfl <;> simp
                omega) (fun b hb => (hfp3 b (fp_sub hsub b (by rw [hmm]; exact hb))).imp id (fun h => h.1))
              refine ⟨trivial, ?_⟩
              refine Ex.done (hK _ _ ?_)
              refine At.blk_n ?_
              refine At.rnd_n (M.at_ 5 rfl) ?_ -- rd2
              have hz : nd.pins = 0 := by simpa using hco6
              refine ⟨true, rfl, fun _ => ⟨P2, KK, rfl, hcat9.put (fun hm => (hnom _ (fp_sub (fun n hn => by simp only [List.mem_append, List.mem_cons] at hn ⊢; exact hn.imp id .inr) _ hm)).2.2.1 rfl) rfl, ?_, hnext KK (fun n hn => by simp [hn]), fun _ => ⟨P3, hP3⟩, by simp [hP3], M.put 5 rfl rfl⟩, fun h => by cases h⟩
              rw [← hev]
              conv => rhs; unfold evict
              rw [if_neg hgt, if_pos ⟨hP2, hz⟩]
            · refine W.skip ?_
              refine At.blk_n ?_
              refine At.rnd_n (M.at_ 5 rfl) ?_ -- rd3
              have hz : nd.pins ≠ 0 := by simpa using hco6
              refine ⟨true, rfl, fun _ => ⟨P2, nd :: KK, rfl, hcatm.put (fun hm => (hno _ (by rw [hmm]; exact hm)).2.2.1 rfl) rfl, ?_, hnext (nd :: KK) (fun n hn => hn), fun _ => ⟨P3, hP3⟩, by simp [hP3], M.put 5 rfl rfl⟩, fun h => by cases h⟩
              rw [← hev]
              conv => rhs; unfold evict
              rw [if_neg hgt, if_neg (fun h => hz h.2)]
          · -- sp1 False
            have he1 : nd.id = l1.id := by simpa using hsp1
            have hnd : nd = l2 := by
              rw [hmm] at hl2m
              simp only [List.mem_append, List.mem_cons] at hl2m
              rcases hl2m with h1 | h1 | h1
              · exact absurd (h2id.trans he1.symm) (hinj l2 (by simp only [List.mem_append]; exact .inl h1))
              · exact h1.symm
              · exact absurd (h2id.trans he1.symm) (hinj l2 (by simp only [List.mem_append]; exact .inr h1))
            have hP2 : P2 = [] := by
              obtain ⟨P', hP'⟩ := hlast (by simp)
              cases P' with
              | nil => simp at hP'; exact hP'.2
              | cons a b =>
                simp at hP'
                exact absurd he1.symm (by rw [← h2id]; exact hinj l2 (by simp [hP'.2]))
            refine Ex.skip_ rfl rfl rfl ?_
            refine Ex.skip_ rfl rfl rfl ?_
            refine Ex.skip_ rfl rfl rfl ?_
            refine Ex.skip_ rfl rfl rfl ?_
            refine Ex.skip_ rfl rfl rfl ?_
            refine Ex.skip_ rfl rfl rfl ?_
            refine x_pickF rfl rfl rfl rfl rfl ?_
            refine Ex.done (hK _ _ ?_)
            refine At.then_n ?_
            refine W.condF rfl ?_ -- co7
            refine W.skip ?_
            refine At.blk_n ?_
            refine At.rnd_n (M.at_ 5 rfl) ?_ -- rd4
            refine ⟨true, rfl, fun _ => ⟨P2, nd :: KK, rfl, hcatm.put (fun hm => (hno _ (by rw [hmm]; exact hm)).2.2.1 rfl) rfl, ?_, hnext (nd :: KK) (fun n hn => hn), fun h => absurd hP2 h, by simp [hnd], M.put 5 rfl rfl⟩, fun h => by cases h⟩
            rw [← hev]
            conv => rhs; unfold evict
            rw [if_neg hgt, if_neg (fun h => h.1 hP2)]
      · rintro v w3 ⟨rfl, ⟨P, KK, hR, hcat, hev, hsub, _, _, M⟩ | ⟨hcat, M⟩⟩
        · have hRn := ids_nil hR
          subst hRn
          simp only [List.reverse_nil, List.nil_append, evict] at hcat hev
          subst hev
          refine .inl ⟨.ready, by simp, M.at_ 5 rfl, ?_⟩
          have hno : ∀ x, x ∈ fp c e r (evict bud (l2 :: X).reverse []) → x ≠ wq.heap.size ∧ x ≠ wq.heap.size + 1 := fun x hx => by
            have := hno3 x (fp_sub (fun n hn => by have := evict_sub _ _ _ n hn; simpa using this) x hx)
            exact ⟨this.2.1, this.2.2.1⟩
          generalize hwx : World.putObj _ _ _ = w4
          have M := M.put 5 rfl hwx.symm
          have hcat := hcat.put (fun hm => (hno _ hm).2 rfl) hwx.symm
          refine At.blk_n ?_
          refine At.then_n ?_
          refine W.seq ?_
          refine W.sub [(6, _)] ⟨rfl, trivial⟩ ?_
          refine W.reg [(0, false)] (by kernel_rfl) ?_ -- region 20
          intro K hK
          refine x_assign rfl rfl rfl rfl ?_
          refine Ex.done (hK _ _ ?_)
          refine At.then_n ?_
          refine W.ret ?_
          refine At.mark (M.at_ 4 rfl) ?_
          generalize hwy : World.putObj _ _ _ = w5
          have M := M.put 4 rfl hwy.symm
          have hcat := hcat.put (fun hm => (hno _ hm).1 rfl) hwy.symm
          refine At.ret1 (.tmp 6) rfl ⟨rfl, trivial⟩ ?_ -- ret3
          refine .inr (.inr ⟨hle, hfit, rfl, A, B, l1, l2, hput, h2f, h2i, h2p, h2b, by rw [hX]; exact hcat, M.frm, fun x hx => ?_⟩)
          rw [hX] at hx
          exact (hfp3 x hx).imp id (fun h => h.1)
        · refine .inr ⟨.done, .exit 1, by simp, M.at_ 5 rfl, ?_⟩
          have hno : ∀ x, x ∈ fp c e r (evict bud (l2 :: X).reverse []) → x ≠ wq.heap.size ∧ x ≠ wq.heap.size + 1 := fun x hx => by
            have := hno3 x (fp_sub (fun n hn => by have := evict_sub _ _ _ n hn; simpa using this) x hx)
            exact ⟨this.2.1, this.2.2.1⟩
          generalize hwx : World.putObj _ _ _ = w4
          have M := M.put 5 rfl hwx.symm
          have hcat := hcat.put (fun hm => (hno _ hm).2 rfl) hwx.symm
          refine W.exit ?_
          refine At.blk_x ?_
          refine At.then_n ?_
          refine W.seq ?_
          refine W.sub [(6, _)] ⟨rfl, trivial⟩ ?_
          refine W.reg [(0, false)] (by kernel_rfl) ?_ -- region 20
          intro K hK
          refine x_assign rfl rfl rfl rfl ?_
          refine Ex.done (hK _ _ ?_)
          refine At.then_n ?_
          refine W.ret ?_
          refine At.mark (M.at_ 4 rfl) ?_
          generalize hwy : World.putObj _ _ _ = w5
          have M := M.put 4 rfl hwy.symm
          have hcat := hcat.put (fun hm => (hno _ hm).1 rfl) hwy.symm
          refine At.ret1 (.tmp 6) rfl ⟨rfl, trivial⟩ ?_ -- ret4
          refine .inr (.inr ⟨hle, hfit, rfl, A, B, l1, l2, hput, h2f, h2i, h2p, h2b, by rw [hX]; exact hcat, M.frm, fun x hx => ?_⟩)
          rw [hX] at hx
          exact (hfp3 x hx).imp id (fun h => h.1)
end Go.Proofs.Ytbbccdcjhoecpaa
