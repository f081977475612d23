/-
  Texts that belong together, laid into one file: W26, W23, B3, W28, B4, W29, W30, W12, W15, W31, W32, W33.
-/
import Derived.Test.YtbbccdcjhoecpaaP3
namespace Go.Proofs.Ytbbccdcjhoecpaa
open Go Go.Fw Go.RowKit Go.Proofs

-- (valise/valiseref17.Cache).Put
set_option maxRecDepth 100000 in
set_option maxHeartbeats 1000000 in
theorem rput_ok {w0 : World} {v : Value} {bud : Int} {N : List Blk} {k : Key} {b : List UInt8} (h : RefL w0 v N) (hl : N.length ≤ 1000) (hk : (N.map (·.1)).Nodup) (hbud : 0 ≤ bud ∧ bud ≤ 1048576) (htot : totM N ≤ bud) (hb : b.length ≤ 4096) (hfit : heldM N k + b.length ≤ bud) : Ret Try.prog 33 #[refV bud v, encK k, .string (strB b)] w0 fun r w' => ∃ v', r = .tuple #[refV bud v', .int .i64 (putM bud N k b).2] ∧ RefL w' v' (putM bud N k b).1 ∧ New w0 w' ∧ (∀ g, blkOf v' = some g → w0.heap.size ≤ g) := by
  have M : St None' w0 [] w0 := Frm.refl _ _
  obtain ⟨p, cap, rfl, hcap⟩ := h.shape
  have esz : (strB b).size = b.length := by simp [strB, ByteArray.size]
  refine Ret.of_W Try.func33 rfl Try.ntmps33 rfl ?_
  refine W.seq ?_
  refine W.sub [(0, _), (1, _), (2, _)] ⟨rfl, rfl, rfl, trivial⟩ ?_
  refine W.reg [(0, true), (1, true), (2, true), (3, false)] (by kernel_rfl) ?_ -- region 0
  intro K hK
  refine x_box [_, _] rfl rfl rfl rfl rfl ?_ -- bx1 ref.go:79
  intro bbx1 wbx1 hbbx1 hwbx1
  have M := M.alloc hbbx1 hwbx1
  refine ⟨trivial, ?_⟩
  refine x_box [_, _] rfl rfl rfl rfl rfl ?_ -- bx2 ref.go:79
  intro bbx2 wbx2 hbbx2 hwbx2
  have M := M.alloc hbbx2 hwbx2
  refine ⟨trivial, ?_⟩
  refine x_alloc [_, _] rfl rfl rfl ze46 rfl ?_ -- al1 ref.go:79
  intro bal1 wal1 hbal1 hwal1
  have M := M.alloc hbal1 hwal1
  refine ⟨trivial, ?_⟩
  refine x_assign rfl rfl rfl rfl ?_
  refine Ex.done (hK _ _ ?_)
  refine At.then_n ?_
  refine W.seq ?_
  refine W.seq ?_
  refine W.sub [(2, _), (3, _), (4, _), (6, _)] ⟨rfl, rfl, rfl, rfl, trivial⟩ ?_
  refine W.reg [(0, false), (1, false), (2, false)] (by kernel_rfl) ?_ -- region 1
  intro K hK
  refine x_move rfl rfl rfl rfl ?_
  refine x_lens rfl rfl rfl rfl Try.underlying9 rfl ?_
  refine x_gtr false rfl rfl rfl rfl rfl (decide_eq_false (by rw [esz]; omega)) ?_ -- cm1 ref.go:80
  refine Ex.done (hK _ _ ?_)
  refine At.then_n ?_
  refine W.condF rfl ?_ -- co1
  refine W.skip ?_
  refine At.then_n ?_
  refine W.seq ?_
  refine W.sub [(2, _), (3, _), (4, _), (6, _)] ⟨rfl, rfl, rfl, rfl, trivial⟩ ?_
  refine W.reg [(0, false), (1, false)] (by kernel_rfl) ?_ -- region 3
  intro K hK
  refine x_assign rfl rfl rfl rfl ?_
  refine x_assign rfl rfl rfl rfl ?_
  refine Ex.done (hK _ _ ?_)
  refine At.then_n ?_
  refine W.seq ?_
  refine W.seq ?_
  refine W.sub [(2, _), (3, _), (4, _), (6, _), (8, _), (9, _)] ⟨rfl, rfl, rfl, rfl, rfl, rfl, trivial⟩ ?_
  refine W.reg [(0, false)] (by kernel_rfl) ?_ -- region 4
  intro K hK
  refine x_assign rfl rfl rfl rfl ?_
  refine Ex.done (hK _ _ ?_)
  refine At.then_n ?_
  refine W.block ?_
  refine W.loop (σ := Nat) (fun s => [(2, _), (3, _), (4, _), (6, _), (8, .int .i64 (heldM (N.take s) k)), (9, .int .i64 (pinsM (N.take s) k)), (10, .int .i64 ((s : Nat) : Int))]) (fun s w => s ≤ N.length ∧ St None' w0 [(bbx1, Obj.cells [Value.int .i64 bud, .slice p N.length cap].toArray 46 (0, 0)), (bbx2, Obj.cells [Value.string k.1, Value.int .i64 k.2].toArray 29 (0, 0)), (bal1, Obj.cells [Value.int .i64 0, Value.slice none 0 0].toArray 46 (0, 0))] w) (fun s => N.length - s) 0 ⟨rfl, rfl, rfl, rfl, rfl, rfl, rfl, trivial⟩ ⟨Nat.zero_le _, M⟩ ?_ -- loop1
  rintro s w ⟨hsl, M⟩
  refine W.seq ?_
  refine W.seq ?_
  refine W.sub [(2, _), (3, _), (4, _), (6, _), (8, _), (9, _), (10, _)] ⟨rfl, rfl, rfl, rfl, rfl, rfl, rfl, trivial⟩ ?_
  refine W.reg [(0, false), (1, false), (2, false), (3, false), (4, false)] (by kernel_rfl) ?_ -- region 5
  intro K hK
  refine x_move rfl rfl rfl rfl ?_
  refine x_fa rfl rfl rfl fo46_1 rfl ?_
  refine x_ld rfl rfl rfl Try.underlying44 rfl rfl (cell_of (by first | exact M.at_ 0 rfl | exact M.at_ 1 rfl | exact M.at_ 2 rfl | exact M.at_ 3 rfl | exact M.at_ 4 rfl | exact M.at_ 5 rfl) rfl) ?_ -- ld1 ref.go:84
  refine x_len rfl rfl rfl rfl Try.underlying44 rfl ?_
  refine x_lss _ rfl rfl rfl rfl rfl rfl ?_ -- cm2 ref.go:84
  refine Ex.done (hK _ _ ?_)
  refine At.then_n ?_
  refine W.cond rfl (fun hco2 => ?_) (fun hco2 => ?_) -- co2
  · have hlt : s < N.length := by have := of_decide_eq_true hco2; omega
    obtain ⟨m, hm⟩ : ∃ m, N[s]? = some m := ⟨N[s], List.getElem?_eq_getElem hlt⟩
    have h1 := heldM_take (k := k) hm
    have h2 := pinsM_take (k := k) hk hm
    have hnn := heldM_nn (N.take s) k
    have htl := totM_take_le (M := N) (s + 1)
    have htm := totM_take hm
    have esm : (strB m.2.1).size = m.2.1.length := by simp [strB, ByteArray.size]
    refine W.skip ?_
    refine At.then_n ?_
    refine W.seq ?_
    refine W.block ?_
    refine W.seq ?_
    refine W.sub [(2, _), (3, _), (4, _), (6, _), (8, _), (9, _), (10, _)] ⟨rfl, rfl, rfl, rfl, rfl, rfl, rfl, trivial⟩ ?_
    refine W.regD (by kernel_rfl) #[0, 1, 0, 7, 15, 31, 0, 127] [(0, false), (1, false), (2, false), (3, false), (4, false), (5, false), (6, false), (7, false)] (by kernel_rfl) ?_ -- region 7
    intro K wD1 hK hwD1
    have M := M.drew hwD1
    obtain ⟨bk, off, rfl, hrow⟩ := (h.new M.frm).row hm
    refine x_fa rfl rfl rfl fo46_1 rfl ?_
    refine x_ld rfl rfl rfl Try.underlying44 rfl rfl (cell_of (by first | exact M.at_ 0 rfl | exact M.at_ 1 rfl | exact M.at_ 2 rfl | exact M.at_ 3 rfl | exact M.at_ 4 rfl | exact M.at_ 5 rfl) rfl) ?_ -- ld2 ref.go:85
    refine x_move rfl rfl rfl rfl ?_
    refine x_ia s rfl rfl rfl Try.underlying44 sz53 rfl rfl rfl hlt ?_ -- ia1 ref.go:85
    refine x_fa rfl rfl rfl fo53_0 rfl ?_
    refine x_ldA [_, _] rfl rfl rfl Try.underlying29 rfl sz29 rfl rfl (row_bkey hrow) ?_ -- ld3 ref.go:85
    refine x_ldA [_, _] rfl rfl rfl Try.underlying29 rfl sz29 rfl rfl ⟨_, _, _, (by first | exact M.at_ 0 rfl | exact M.at_ 1 rfl | exact M.at_ 2 rfl | exact M.at_ 3 rfl | exact M.at_ 4 rfl | exact M.at_ 5 rfl), rfl⟩ ?_ -- ld4 ref.go:85
    refine x_bin (v := .bool (decide (m.1 = k))) rfl rfl rfl rfl rfl (fun w' => run_eq_key m.1 k _ _ w') ?_ -- eq1 ref.go:85
    refine Ex.done (hK _ _ ?_)
    refine At.then_n ?_
    refine W.cond rfl (fun hco3 => ?_) (fun hco3 => ?_) -- co3
    · have hmk : m.1 = k := of_decide_eq_true hco3
      rw [if_pos hmk] at h2
      rw [if_neg (fun h => h.2 hmk), Int.add_zero] at h1
      refine W.sub [(2, _), (3, _), (4, _), (6, _), (8, _), (10, _)] ⟨rfl, rfl, rfl, rfl, rfl, rfl, trivial⟩ ?_
      refine W.reg [(0, false), (1, false), (2, false), (3, false), (4, false), (5, false), (6, false)] (by kernel_rfl) ?_ -- region 8
      intro K hK
      refine x_fa rfl rfl rfl fo46_1 rfl ?_
      refine x_ld rfl rfl rfl Try.underlying44 rfl rfl (cell_of (by first | exact M.at_ 0 rfl | exact M.at_ 1 rfl | exact M.at_ 2 rfl | exact M.at_ 3 rfl | exact M.at_ 4 rfl | exact M.at_ 5 rfl) rfl) ?_ -- ld5 ref.go:86
      refine x_move rfl rfl rfl rfl ?_
      refine x_ia s rfl rfl rfl Try.underlying44 sz53 rfl rfl rfl hlt ?_ -- ia2 ref.go:86
      refine x_fa rfl rfl rfl fo53_2 rfl ?_
      refine x_ld rfl rfl rfl Try.underlying3 rfl rfl (row_cell (j := 3) hrow rfl) ?_ -- ld6 ref.go:86
      refine x_assign rfl rfl rfl rfl ?_
      refine Ex.done (hK _ _ ?_)
      refine At.blk_n ?_
      refine At.then_n ?_
      refine W.sub [(2, _), (3, _), (4, _), (6, _), (8, _), (9, _), (10, _)] ⟨rfl, rfl, rfl, rfl, rfl, rfl, rfl, trivial⟩ ?_
      refine W.reg [(0, false), (1, false), (2, false)] (by kernel_rfl) ?_ -- region 6
      intro K hK
      refine x_move rfl rfl rfl rfl ?_
      refine x_add ((s + 1 : Nat) : Int) rfl rfl rfl rfl rfl (by rw [wrap64_id (by omega) (by omega)]; omega) ?_ -- ar1 ref.go:84
      refine x_assign rfl rfl rfl rfl ?_
      refine Ex.done (hK _ _ ?_)
      -- bk1: back to loop1
      exact At.back (s + 1) ⟨rfl, rfl, rfl, rfl, (by rw [h1]; rfl), (by rw [h2]; rfl), rfl, trivial⟩ ⟨by omega, M⟩ (by omega)
    · have hmk : m.1 ≠ k := of_decide_eq_false hco3
      rw [if_neg hmk] at h2
      refine W.seq ?_
      refine W.sub [(2, _), (3, _), (4, _), (6, _), (8, _), (9, _), (10, _)] ⟨rfl, rfl, rfl, rfl, rfl, rfl, rfl, trivial⟩ ?_
      refine W.reg [(0, false), (1, false), (2, false), (3, false), (4, false), (5, false), (6, false)] (by kernel_rfl) ?_ -- region 9
      intro K hK
      refine x_fa rfl rfl rfl fo46_1 rfl ?_
      refine x_ld rfl rfl rfl Try.underlying44 rfl rfl (cell_of (by first | exact M.at_ 0 rfl | exact M.at_ 1 rfl | exact M.at_ 2 rfl | exact M.at_ 3 rfl | exact M.at_ 4 rfl | exact M.at_ 5 rfl) rfl) ?_ -- ld7 ref.go:87
      refine x_move rfl rfl rfl rfl ?_
      refine x_ia s rfl rfl rfl Try.underlying44 sz53 rfl rfl rfl hlt ?_ -- ia3 ref.go:87
      refine x_fa rfl rfl rfl fo53_2 rfl ?_
      refine x_ld rfl rfl rfl Try.underlying3 rfl rfl (row_cell (j := 3) hrow rfl) ?_ -- ld8 ref.go:87
      refine x_gtr _ rfl rfl rfl rfl rfl rfl ?_ -- cm3 ref.go:87
      refine Ex.done (hK _ _ ?_)
      refine At.then_n ?_
      refine W.cond rfl (fun hco4 => ?_) (fun hco4 => ?_) -- co4
      · rw [if_pos ⟨of_decide_eq_true hco4, hmk⟩] at h1
        refine W.sub [(2, _), (3, _), (4, _), (6, _), (8, _), (9, _), (10, _)] ⟨rfl, rfl, rfl, rfl, rfl, rfl, rfl, trivial⟩ ?_
        refine W.reg [(0, false), (1, false), (2, false), (3, false), (4, false), (5, false), (6, false), (7, false), (8, false), (9, false)] (by kernel_rfl) ?_ -- region 10
        intro K hK
        refine x_move rfl rfl rfl rfl ?_
        refine x_fa rfl rfl rfl fo46_1 rfl ?_
        refine x_ld rfl rfl rfl Try.underlying44 rfl rfl (cell_of (by first | exact M.at_ 0 rfl | exact M.at_ 1 rfl | exact M.at_ 2 rfl | exact M.at_ 3 rfl | exact M.at_ 4 rfl | exact M.at_ 5 rfl) rfl) ?_ -- ld9 ref.go:88
        refine x_move rfl rfl rfl rfl ?_
        refine x_ia s rfl rfl rfl Try.underlying44 sz53 rfl rfl rfl hlt ?_ -- ia4 ref.go:88
        refine x_fa rfl rfl rfl fo53_1 rfl ?_
        refine x_ld rfl rfl rfl Try.underlying9 rfl rfl (row_cell (j := 2) hrow rfl) ?_ -- ld10 ref.go:88
        refine x_lens rfl rfl rfl rfl Try.underlying9 rfl ?_
        refine x_add (heldM (N.take (s + 1)) k) rfl rfl rfl rfl rfl (by rw [h1]; show IntKind.i64.wrap (heldM (N.take s) k + ((strB m.2.1).size : Int)) = _; rw [esm, wrap64_id (by omega) (by omega)]) ?_ -- ar2 ref.go:88
        refine x_assign rfl rfl rfl rfl ?_
        refine Ex.done (hK _ _ ?_)
        refine At.blk_n ?_
        refine At.then_n ?_
        refine W.sub [(2, _), (3, _), (4, _), (6, _), (8, _), (9, _), (10, _)] ⟨rfl, rfl, rfl, rfl, rfl, rfl, rfl, trivial⟩ ?_
        refine W.reg [(0, false), (1, false), (2, false)] (by kernel_rfl) ?_ -- region 6
        intro K hK
        refine x_move rfl rfl rfl rfl ?_
        refine x_add ((s + 1 : Nat) : Int) rfl rfl rfl rfl rfl (by rw [wrap64_id (by omega) (by omega)]; omega) ?_ -- ar3 ref.go:84
        refine x_assign rfl rfl rfl rfl ?_
        refine Ex.done (hK _ _ ?_)
        -- bk2: back to loop1
        exact At.back (s + 1) ⟨rfl, rfl, rfl, rfl, rfl, (by rw [h2]; rfl), rfl, trivial⟩ ⟨by omega, M⟩ (by omega)
      · rw [if_neg (fun h => of_decide_eq_false hco4 h.1), Int.add_zero] at h1
        refine W.skip ?_
        refine At.blk_n ?_
        refine At.then_n ?_
        refine W.sub [(2, _), (3, _), (4, _), (6, _), (8, _), (9, _), (10, _)] ⟨rfl, rfl, rfl, rfl, rfl, rfl, rfl, trivial⟩ ?_
        refine W.reg [(0, false), (1, false), (2, false)] (by kernel_rfl) ?_ -- region 6
        intro K hK
        refine x_move rfl rfl rfl rfl ?_
        refine x_add ((s + 1 : Nat) : Int) rfl rfl rfl rfl rfl (by rw [wrap64_id (by omega) (by omega)]; omega) ?_ -- ar4 ref.go:84
        refine x_assign rfl rfl rfl rfl ?_
        refine Ex.done (hK _ _ ?_)
        -- bk3: back to loop1
        exact At.back (s + 1) ⟨rfl, rfl, rfl, rfl, (by rw [h1]; rfl), (by rw [h2]; rfl), rfl, trivial⟩ ⟨by omega, M⟩ (by omega)
  · have hs : s = N.length := by have := of_decide_eq_false hco2; omega
    subst hs
    have hge1 := M.ge 0 rfl
    have hge3 := M.ge 2 rfl
    refine W.exit ?_
    refine At.then_x ?_
    refine At.loop_x ?_
    refine At.blk_x ?_
    refine At.then_n ?_
    refine W.seq ?_
    refine W.seq ?_
    refine W.sub [(2, _), (3, _), (4, _), (6, _), (8, _), (9, _)] ⟨rfl, rfl, rfl, rfl, rfl, rfl, trivial⟩ ?_
    refine W.reg [(0, false), (1, false), (2, false), (3, false), (4, false), (5, false), (6, false)] (by kernel_rfl) ?_ -- region 11
    intro K hK
    refine x_move rfl rfl rfl rfl ?_
    refine x_fa rfl rfl rfl fo46_0 rfl ?_
    refine x_ld rfl rfl rfl Try.underlying3 rfl rfl (cell_of (by first | exact M.at_ 0 rfl | exact M.at_ 1 rfl | exact M.at_ 2 rfl | exact M.at_ 3 rfl | exact M.at_ 4 rfl | exact M.at_ 5 rfl) rfl) ?_ -- ld11 ref.go:91
    refine x_move rfl rfl rfl rfl ?_
    refine x_lens rfl rfl rfl rfl Try.underlying9 rfl ?_
    refine x_sub (bud - b.length) rfl rfl rfl rfl rfl (by show IntKind.i64.wrap (bud - ((strB b).size : Int)) = _; rw [esz, wrap64_id (by omega) (by omega)]) ?_ -- ar5 ref.go:91
    refine x_gtr false rfl rfl rfl rfl rfl (decide_eq_false (by rw [List.take_length]; omega)) ?_ -- cm4 ref.go:91
    refine Ex.done (hK _ _ ?_)
    refine At.then_n ?_
    refine W.condF rfl ?_ -- co5
    refine W.skip ?_
    refine At.then_n ?_
    refine W.sub [(2, _), (3, _), (4, _), (6, _), (9, _)] ⟨rfl, rfl, rfl, rfl, rfl, trivial⟩ ?_
    refine W.seqC (fun F' w' => ∃ v1, RefL w' v1 (woM N k) ∧ (∀ g, blkOf v1 = some g → g ≠ bbx1 ∧ g ≠ bal1) ∧ St None' w0 [(bbx1, Obj.cells [Value.int .i64 bud, v1].toArray 46 (0, 0)), (bbx2, Obj.cells [Value.string k.1, Value.int .i64 k.2].toArray 29 (0, 0)), (bal1, Obj.cells [Value.int .i64 0, Value.slice none 0 0].toArray 46 (0, 0))] w' ∧ F' = [(2, .string (strB b)), (3, ptr bbx1), (4, ptr bbx2), (6, ptr bal1), (9, .int .i64 (pinsM N k))]) ?_ ?_ -- cut 13
    · refine W.seq ?_
      refine W.sub [(2, _), (3, _), (4, _), (6, _), (9, _)] ⟨rfl, rfl, rfl, rfl, rfl, trivial⟩ ?_
      refine W.reg [(0, false), (1, false), (2, true), (3, false)] (by kernel_rfl) ?_ -- region 13
      intro K hK
      refine x_ldA [_, _] rfl rfl rfl Try.underlying46 rfl sz46 rfl rfl ⟨_, _, _, (by first | exact M.at_ 0 rfl | exact M.at_ 1 rfl | exact M.at_ 2 rfl | exact M.at_ 3 rfl | exact M.at_ 4 rfl | exact M.at_ 5 rfl), rfl⟩ ?_ -- ld12 ref.go:94
      refine x_ldA [_, _] rfl rfl rfl Try.underlying29 rfl sz29 rfl rfl ⟨_, _, _, (by first | exact M.at_ 0 rfl | exact M.at_ 1 rfl | exact M.at_ 2 rfl | exact M.at_ 3 rfl | exact M.at_ 4 rfl | exact M.at_ 5 rfl), rfl⟩ ?_ -- ld13 ref.go:94
      -- call1: (valise/valiseref17.Cache).At ref.go:94
      refine x_call rfl rfl rfl rfl rfl en42 (rat_c (h.new M.frm) (by omega)) ?_
      rintro v2 w2 ⟨⟨z, rfl, hz⟩, hn2⟩
      have M := M.new hn2
      refine ⟨trivial, ?_⟩
      refine x_assign rfl rfl rfl rfl ?_
      refine Ex.done (hK _ _ ?_)
      refine At.then_n ?_
      refine W.seq ?_
      refine W.sub [(2, _), (3, _), (4, _), (6, _), (9, _), (11, _)] ⟨rfl, rfl, rfl, rfl, rfl, rfl, trivial⟩ ?_
      refine W.reg [(0, false), (1, false)] (by kernel_rfl) ?_ -- region 14
      intro K hK
      refine x_move rfl rfl rfl rfl ?_
      refine x_geq _ rfl rfl rfl rfl rfl rfl ?_ -- cm5 ref.go:94
      refine Ex.done (hK _ _ ?_)
      refine At.then_n ?_
      refine W.cond rfl (fun hco6 => ?_) (fun hco6 => ?_) -- co6
      · have hz0 : 0 ≤ z := of_decide_eq_true hco6
        obtain ⟨A, m, B, hN, hm⟩ : ∃ A m B, N = A ++ m :: B ∧ m.1 = k := by
          rcases split_keyM N k with hno | hh
          · have := atP_none hz hno; omega
          · exact hh
        have hzA : z = (A.length : Int) := atP_some (by rw [← hN]; exact hk) hm (by rw [← hN]; exact hz)
        subst hzA
        refine W.sub [(2, _), (3, _), (4, _), (6, _), (9, _), (11, _)] ⟨rfl, rfl, rfl, rfl, rfl, rfl, trivial⟩ ?_
        refine W.reg [(0, false), (1, false), (2, false), (3, true), (4, false), (5, true)] (by kernel_rfl) ?_ -- region 15
        intro K hK
        refine x_fa rfl rfl rfl fo46_1 rfl ?_
        refine x_ld rfl rfl rfl Try.underlying44 rfl rfl (cell_of (by first | exact M.at_ 0 rfl | exact M.at_ 1 rfl | exact M.at_ 2 rfl | exact M.at_ 3 rfl | exact M.at_ 4 rfl | exact M.at_ 5 rfl) rfl) ?_ -- ld14 ref.go:95
        refine x_move rfl rfl rfl rfl ?_
        -- call2: valise/valiseref17.without ref.go:95
        refine x_call rfl rfl rfl rfl rfl en43 (rwo_c (A := A) (B := B) (m := m) (by rw [← hN]; exact h.new M.frm) (by rw [← hN]; omega)) ?_
        rintro v7 w7 ⟨hr7, hn7, hb7⟩
        have hlt7 : bbx1 < w2.heap.size ∧ bal1 < w2.heap.size := ⟨M.lt (List.mem_of_getElem? (i := 0) rfl), M.lt (List.mem_of_getElem? (i := 2) rfl)⟩
        have M := M.new hn7
        obtain ⟨p7, cap7, rfl, _⟩ := hr7.shape
        refine ⟨trivial, ?_⟩
        refine x_fa rfl rfl rfl fo46_1 rfl ?_
        refine x_st [_] _ rfl rfl rfl sz44 rfl rfl rfl rfl (by first | exact M.at_ 0 rfl | exact M.at_ 1 rfl | exact M.at_ 2 rfl | exact M.at_ 3 rfl | exact M.at_ 4 rfl | exact M.at_ 5 rfl) rfl rfl rfl ?_ -- st1 ref.go:95
        intro wst1 hwst1
        have M := M.put 0 rfl hwst1
        have hr7 := hr7.put (fun g hg => by have := hb7 g hg; omega) hwst1
        refine ⟨trivial, ?_⟩
        refine Ex.done (hK _ _ ?_)
        refine At.sub [(2, _), (3, _), (4, _), (6, _), (9, _)] ⟨rfl, rfl, rfl, rfl, rfl, trivial⟩ ?_
        refine At.cut_n ?_ -- ac1
        exact ⟨_, by rw [hN, wo_mid' (by rw [← hN]; exact hk) hm]; exact hr7, fun g hg => by have := hb7 g hg; omega, M, by rw [List.take_length]; rfl⟩
      · have hz0 : ¬ z ≥ 0 := of_decide_eq_false hco6
        have hno : ∀ m ∈ N, m.1 ≠ k := by
          rcases split_keyM N k with hno | ⟨A, m, B, hN, hm⟩
          · exact hno
          · have := atP_some (A := A) (B := B) (m := m) (k := k) (z := z) (by rw [← hN]; exact hk) hm (by rw [← hN]; exact hz)
            omega
        refine W.skip ?_
        refine At.sub [(2, _), (3, _), (4, _), (6, _), (9, _)] ⟨rfl, rfl, rfl, rfl, rfl, trivial⟩ ?_
        refine At.cut_n ?_ -- ac2
        exact ⟨_, by rw [wo_none' hno]; exact h.new M.frm, fun g hg => by have := Sl.lt h g hg; omega, M, by rw [List.take_length]; rfl⟩
    rintro F1 w5 ⟨v1, hr1, hb1, M, rfl⟩
    obtain ⟨p1, cap1, rfl, _⟩ := hr1.shape
    refine W.seq ?_
    refine W.sub [(2, _), (3, _), (4, _), (6, _), (9, _)] ⟨rfl, rfl, rfl, rfl, rfl, trivial⟩ ?_
    refine W.reg [(0, false), (1, false), (2, false), (3, false), (4, false), (5, true), (6, true)] (by kernel_rfl) ?_ -- region 16
    intro K hK
    refine x_ldA [_, _] rfl rfl rfl Try.underlying46 rfl sz46 rfl rfl ⟨_, _, _, (by first | exact M.at_ 0 rfl | exact M.at_ 1 rfl | exact M.at_ 2 rfl | exact M.at_ 3 rfl | exact M.at_ 4 rfl | exact M.at_ 5 rfl), rfl⟩ ?_ -- ld15 ref.go:97
    refine x_ldA [_, _] rfl rfl rfl Try.underlying29 rfl sz29 rfl rfl ⟨_, _, _, (by first | exact M.at_ 0 rfl | exact M.at_ 1 rfl | exact M.at_ 2 rfl | exact M.at_ 3 rfl | exact M.at_ 4 rfl | exact M.at_ 5 rfl), rfl⟩ ?_ -- ld16 ref.go:97
    refine x_move rfl rfl rfl rfl ?_
    refine x_move rfl rfl rfl rfl ?_
    refine x_build [_, _, _, _] rfl rfl rfl pl53 ze53 rfl rfl rfl ?_ -- bu1 ref.go:97
    -- call3: (valise/valiseref17.Cache).front ref.go:97
    refine x_call rfl rfl rfl rfl rfl en44 (rfront_c (m := (k, b, pinsM N k)) hr1 (by have : (woM N k).length ≤ N.length := List.length_filter_le _ _; omega)) ?_
    rintro v8 w8 ⟨v9, rfl, hr9, hn9, hb9⟩
    have hge9 := M.size
    have hlt9 : bbx1 < w5.heap.size ∧ bal1 < w5.heap.size := ⟨M.lt (List.mem_of_getElem? (i := 0) rfl), M.lt (List.mem_of_getElem? (i := 2) rfl)⟩
    have M := M.new hn9
    obtain ⟨p9, cap9, rfl, _⟩ := hr9.shape
    obtain ⟨X, hX⟩ : ∃ X, X = (k, b, pinsM N k) :: woM N k := ⟨_, rfl⟩
    have hXl : X.length ≤ 1001 := by have : (woM N k).length ≤ N.length := List.length_filter_le _ _; rw [hX]; simp; omega
    have hXt : totM X ≤ 4194304 := by
      have h5 := totM_sub N (fun m => m.1 ≠ k)
      rw [hX]
      show (b.length : Int) + totM (woM N k) ≤ _
      have : totM (woM N k) ≤ totM N := h5
      omega
    have hXn : X ≠ [] := by rw [hX]; simp
    have hE : putM bud N k b = (evictM bud X.reverse [], 0) := by unfold putM; rw [if_neg (by omega), if_neg (by omega), hX]
    rw [← hX] at hr9 hb9 ⊢
    refine ⟨trivial, ?_⟩
    refine x_st [_, _] _ rfl rfl rfl sz46 rfl rfl rfl rfl (by first | exact M.at_ 0 rfl | exact M.at_ 1 rfl | exact M.at_ 2 rfl | exact M.at_ 3 rfl | exact M.at_ 4 rfl | exact M.at_ 5 rfl) rfl rfl rfl ?_ -- st2 ref.go:97
    intro wst2 hwst2
    have M := M.put 0 rfl hwst2
    have hr9 := hr9.put (fun g hg => by have := hb9 g hg; omega) hwst2
    refine ⟨trivial, ?_⟩
    refine Ex.done (hK _ _ ?_)
    refine At.then_n ?_
    refine W.seq ?_
    refine W.seq ?_
    refine W.sub [(3, _), (6, _)] ⟨rfl, rfl, trivial⟩ ?_
    refine W.reg [(0, false), (1, false), (2, false), (3, false), (4, false)] (by kernel_rfl) ?_ -- region 17
    intro K hK
    refine x_fa rfl rfl rfl fo46_1 rfl ?_
    refine x_ld rfl rfl rfl Try.underlying44 rfl rfl (cell_of (by first | exact M.at_ 0 rfl | exact M.at_ 1 rfl | exact M.at_ 2 rfl | exact M.at_ 3 rfl | exact M.at_ 4 rfl | exact M.at_ 5 rfl) rfl) ?_ -- ld17 ref.go:98
    refine x_len rfl rfl rfl rfl Try.underlying44 rfl ?_
    refine x_sub ((X.reverse.length - 1 : Nat) : Int) rfl rfl rfl rfl rfl (by have : 0 < X.length := List.length_pos_iff.2 hXn; rw [wrap64_id (by omega) (by omega)]; simp; omega) ?_ -- ar6 ref.go:98
    refine x_assign rfl rfl rfl rfl ?_
    refine Ex.done (hK _ _ ?_)
    refine At.then_n ?_
    refine W.block ?_
    refine W.loop (σ := List Blk × List Blk × Value) (fun s => [(3, _), (6, _), (12, .int .i64 ((s.1.length - 1 : Nat) : Int))]) (fun s w => s.1 ≠ [] ∧ evictM bud s.1 s.2.1 = evictM bud X.reverse [] ∧ RefL w s.2.2 (s.1.reverse ++ s.2.1) ∧ (∀ g, blkOf s.2.2 = some g → g ≠ bbx1 ∧ g ≠ bal1 ∧ w0.heap.size ≤ g) ∧ (s.1.reverse ++ s.2.1).length ≤ 1001 ∧ totM (s.1.reverse ++ s.2.1) ≤ 4194304 ∧ St None' w0 [(bbx1, Obj.cells [Value.int .i64 bud, s.2.2].toArray 46 (0, 0)), (bbx2, Obj.cells [Value.string k.1, Value.int .i64 k.2].toArray 29 (0, 0)), (bal1, Obj.cells [Value.int .i64 0, Value.slice none 0 0].toArray 46 (0, 0))] w) (fun s => s.1.length) (X.reverse, [], .slice p9 X.length cap9) ⟨rfl, rfl, rfl, trivial⟩ ⟨by simpa using hXn, rfl, by simpa using hr9, fun g hg => by have := hb9 g hg; omega, by simpa using hXl, by simpa using hXt, M⟩ ?_ -- loop2
    rintro ⟨P, KK, vX⟩ w ⟨hPn, hev, hr, hbX, hlX, htX, M⟩
    simp only at hPn hev hr hbX hlX htX M ⊢
    obtain ⟨pX, capX, rfl, _⟩ := hr.shape
    refine W.seq ?_
    refine W.seq ?_
    refine W.sub [(3, _), (6, _), (12, _)] ⟨rfl, rfl, rfl, trivial⟩ ?_
    refine W.regD (by kernel_rfl) #[0, 1, 3, 7, 15, 7, 39, 127, 255] [(0, false), (1, false), (2, false), (3, false), (5, false), (6, false), (4, true), (7, false), (8, false)] (by kernel_rfl) ?_ -- region 18
    intro K wD2 hK hwD2
    have M := M.drew hwD2
    have hr := hr.drw hwD2
    refine x_move rfl rfl rfl rfl ?_
    refine x_gtr _ rfl rfl rfl rfl rfl rfl ?_ -- cm6 ref.go:98
    refine x_move rfl rfl rfl rfl ?_
    refine Ex.split 84 rfl (fun hsp1 => ?_) (fun hsp1 => ?_)
    · -- sp1 True
      obtain ⟨x, y, P2, rfl⟩ : ∃ x y P2, P = x :: y :: P2 := by
        have := of_decide_eq_true hsp1
        match P, hPn with
        | [x], _ => simp at this
        | x :: y :: P2, _ => exact ⟨x, y, P2, rfl⟩
      refine x_ldA [_, _] rfl rfl rfl Try.underlying46 rfl sz46 rfl rfl ⟨_, _, _, (by first | exact M.at_ 0 rfl | exact M.at_ 1 rfl | exact M.at_ 2 rfl | exact M.at_ 3 rfl | exact M.at_ 4 rfl | exact M.at_ 5 rfl), rfl⟩ ?_ -- ld18 ref.go:98
      refine x_fa rfl rfl rfl fo46_0 rfl ?_
      refine x_ld rfl rfl rfl Try.underlying3 rfl rfl (cell_of (by first | exact M.at_ 0 rfl | exact M.at_ 1 rfl | exact M.at_ 2 rfl | exact M.at_ 3 rfl | exact M.at_ 4 rfl | exact M.at_ 5 rfl) rfl) ?_ -- ld19 ref.go:98
      -- call4: (valise/valiseref17.Cache).Size ref.go:98
      refine x_call rfl rfl rfl rfl rfl en37 (rsize_c hr (by omega) (by omega)) ?_
      rintro v10 w10 ⟨rfl, hn10⟩
      have M := M.new hn10
      have hr := hr.new hn10
      refine ⟨⟨.inr (cell_of (by first | exact M.at_ 0 rfl | exact M.at_ 1 rfl | exact M.at_ 2 rfl | exact M.at_ 3 rfl | exact M.at_ 4 rfl | exact M.at_ 5 rfl) rfl), .inl (by kernel_rfl), trivial⟩, ?_⟩
      refine x_gtr _ rfl rfl rfl rfl rfl rfl ?_ -- cm7 ref.go:98
      refine x_pickT rfl rfl rfl rfl rfl ?_
      refine Ex.done (hK _ _ ?_)
      refine At.then_n ?_
      refine W.cond rfl (fun hco7 => ?_) (fun hco7 => ?_) -- co7
      · have hgt : ¬ totM ((x :: y :: P2).reverse ++ KK) ≤ bud := by have := of_decide_eq_true hco7; omega
        have hmx : ((x :: y :: P2).reverse ++ KK)[P2.length + 1]? = some x := by simp
        obtain ⟨bk, off, rfl, hrow⟩ := hr.row hmx
        have hspl : (x :: y :: P2).reverse ++ KK = (y :: P2).reverse ++ x :: KK := by simp
        have hle2 : ((y :: P2).reverse ++ KK).length ≤ 1001 := by simp at hlX ⊢; omega
        have hle3 : totM ((y :: P2).reverse ++ KK) ≤ 4194304 := by
          rw [hspl, totM_app] at htX
          rw [totM_app]
          have : totM (x :: KK) = x.2.1.length + totM KK := by simp [totM]
          omega
        refine W.skip ?_
        refine At.then_n ?_
        refine W.seq ?_
        refine W.block ?_
        refine W.seq ?_
        refine W.sub [(3, _), (6, _), (12, _)] ⟨rfl, rfl, rfl, trivial⟩ ?_
        refine W.reg [(0, false), (1, false), (2, false), (3, false), (4, false), (5, false), (6, false)] (by kernel_rfl) ?_ -- region 20
        intro K hK
        refine x_fa rfl rfl rfl fo46_1 rfl ?_
        refine x_ld rfl rfl rfl Try.underlying44 rfl rfl (cell_of (by first | exact M.at_ 0 rfl | exact M.at_ 1 rfl | exact M.at_ 2 rfl | exact M.at_ 3 rfl | exact M.at_ 4 rfl | exact M.at_ 5 rfl) rfl) ?_ -- ld20 ref.go:99
        refine x_move rfl rfl rfl rfl ?_
        refine x_ia (P2.length + 1) rfl rfl rfl Try.underlying44 sz53 rfl rfl (by simp) (by simp <;> omega) ?_ -- ia5 ref.go:99
        refine x_fa rfl rfl rfl fo53_2 rfl ?_
        refine x_ld rfl rfl rfl Try.underlying3 rfl rfl (row_cell (j := 3) hrow rfl) ?_ -- ld21 ref.go:99
        refine x_eqi _ rfl rfl rfl rfl rfl rfl ?_ -- eq2 ref.go:99
        refine Ex.done (hK _ _ ?_)
        refine At.then_n ?_
        refine W.cond rfl (fun hco8 => ?_) (fun hco8 => ?_) -- co8
        · have hz : x.2.2 = 0 := by simpa using hco8
          rw [evictM_go hgt hz] at hev
          have hrwo := rwo_c (A := (y :: P2).reverse) (m := x) (B := KK) (by rw [← hspl]; exact hr) (by rw [← hspl]; omega)
          rw [show (((y :: P2).reverse.length : Nat) : Int) = (((x :: y :: P2).length - 1 : Nat) : Int) from by simp] at hrwo
          refine W.sub [(3, _), (6, _), (12, _)] ⟨rfl, rfl, rfl, trivial⟩ ?_
          refine W.reg [(0, false), (1, false), (2, false), (3, true), (4, false), (5, true)] (by kernel_rfl) ?_ -- region 21
          intro K hK
          refine x_fa rfl rfl rfl fo46_1 rfl ?_
          refine x_ld rfl rfl rfl Try.underlying44 rfl rfl (cell_of (by first | exact M.at_ 0 rfl | exact M.at_ 1 rfl | exact M.at_ 2 rfl | exact M.at_ 3 rfl | exact M.at_ 4 rfl | exact M.at_ 5 rfl) rfl) ?_ -- ld22 ref.go:100
          refine x_move rfl rfl rfl rfl ?_
          -- call5: valise/valiseref17.without ref.go:100
          refine x_call rfl rfl rfl rfl rfl en43 hrwo ?_
          rintro v11 w11 ⟨hr11, hn11, hb11⟩
          have hge11 := M.size
          have hlt11 : bbx1 < w10.heap.size ∧ bal1 < w10.heap.size := ⟨M.lt (List.mem_of_getElem? (i := 0) rfl), M.lt (List.mem_of_getElem? (i := 2) rfl)⟩
          have M := M.new hn11
          obtain ⟨p11, cap11, rfl, _⟩ := hr11.shape
          refine ⟨trivial, ?_⟩
          refine x_fa rfl rfl rfl fo46_1 rfl ?_
          refine x_st [_] _ rfl rfl rfl sz44 rfl rfl rfl rfl (by first | exact M.at_ 0 rfl | exact M.at_ 1 rfl | exact M.at_ 2 rfl | exact M.at_ 3 rfl | exact M.at_ 4 rfl | exact M.at_ 5 rfl) rfl rfl rfl ?_ -- st3 ref.go:100
          intro wst3 hwst3
          have M := M.put 0 rfl hwst3
          have hr11 := hr11.put (fun g hg => by have := hb11 g hg; omega) hwst3
          refine ⟨trivial, ?_⟩
          refine Ex.done (hK _ _ ?_)
          refine At.blk_n ?_
          refine At.then_n ?_
          refine W.sub [(3, _), (6, _), (12, _)] ⟨rfl, rfl, rfl, trivial⟩ ?_
          refine W.reg [(0, false), (1, false), (2, false)] (by kernel_rfl) ?_ -- region 19
          intro K hK
          refine x_move rfl rfl rfl rfl ?_
          refine x_sub (((y :: P2).length - 1 : Nat) : Int) rfl rfl rfl rfl rfl (by rw [wrap64_id (by simp <;> omega) (by simp at hlX ⊢ <;> omega)]; (first | rfl | simp)) ?_ -- ar7 ref.go:98
          refine x_assign rfl rfl rfl rfl ?_
          refine Ex.done (hK _ _ ?_)
          -- bk4: back to loop2
          exact At.back (y :: P2, KK, .slice p11 ((y :: P2).reverse ++ KK).length cap11) ⟨rfl, rfl, rfl, trivial⟩ ⟨by simp, hev, hr11, fun g hg => by have := hb11 g hg; omega, hle2, hle3, M⟩ (by simp)
        · have hz : x.2.2 ≠ 0 := by simpa using hco8
          rw [evictM_hold hgt hz] at hev
          refine W.skip ?_
          refine At.blk_n ?_
          refine At.then_n ?_
          refine W.sub [(3, _), (6, _), (12, _)] ⟨rfl, rfl, rfl, trivial⟩ ?_
          refine W.reg [(0, false), (1, false), (2, false)] (by kernel_rfl) ?_ -- region 19
          intro K hK
          refine x_move rfl rfl rfl rfl ?_
          refine x_sub (((y :: P2).length - 1 : Nat) : Int) rfl rfl rfl rfl rfl (by rw [wrap64_id (by simp <;> omega) (by simp at hlX ⊢ <;> omega)]; (first | rfl | simp)) ?_ -- ar8 ref.go:98
          refine x_assign rfl rfl rfl rfl ?_
          refine Ex.done (hK _ _ ?_)
          -- bk5: back to loop2
          exact At.back (y :: P2, x :: KK, _) ⟨rfl, rfl, rfl, trivial⟩ ⟨by simp, hev, by rw [← hspl]; exact hr, hbX, by rw [← hspl]; exact hlX, by rw [← hspl]; exact htX, M⟩ (by simp)
      · have hfin : totM ((x :: y :: P2).reverse ++ KK) ≤ bud := by have := of_decide_eq_false hco7; omega
        rw [evictM_stop hfin] at hev
        refine W.exit ?_
        refine At.then_x ?_
        refine At.loop_x ?_
        refine At.blk_x ?_
        refine At.then_n ?_
        refine W.seq ?_
        refine W.sub [(3, _), (6, _)] ⟨rfl, rfl, trivial⟩ ?_
        refine W.reg [(0, false), (1, true), (2, false)] (by kernel_rfl) ?_ -- region 22
        intro K hK
        refine x_ldA [_, _] rfl rfl rfl Try.underlying46 rfl sz46 rfl rfl ⟨_, _, _, (by first | exact M.at_ 0 rfl | exact M.at_ 1 rfl | exact M.at_ 2 rfl | exact M.at_ 3 rfl | exact M.at_ 4 rfl | exact M.at_ 5 rfl), rfl⟩ ?_ -- ld23 ref.go:103
        refine x_st [_, _] _ rfl rfl rfl sz46 rfl rfl rfl rfl (by first | exact M.at_ 0 rfl | exact M.at_ 1 rfl | exact M.at_ 2 rfl | exact M.at_ 3 rfl | exact M.at_ 4 rfl | exact M.at_ 5 rfl) rfl rfl rfl ?_ -- st4 ref.go:103
        intro wst4 hwst4
        have M := M.put 2 rfl hwst4
        have hr := hr.put (fun g hg => (hbX g hg).2.1) hwst4
        refine ⟨trivial, ?_⟩
        refine x_assign rfl rfl rfl rfl ?_
        refine Ex.done (hK _ _ ?_)
        refine At.then_n ?_
        refine W.ret ?_
        refine At.ret2 (.cell 6 46) (.tmp 7) rfl ⟨⟨_, rfl, run_loadVarA (l := [_, _]) Try.underlying46 rfl sz46 ⟨_, _, _, M.at_ 2 rfl, rfl⟩ (Nat.zero_lt_succ _)⟩, rfl, trivial⟩ ?_ -- ret1
        rw [hE]; exact ⟨_, rfl, by rw [← hev]; exact hr, M.frm, fun g hg => (hbX g hg).2.2⟩
    · -- sp1 False
      obtain ⟨x, rfl⟩ : ∃ x, P = [x] := by
        have := of_decide_eq_false hsp1
        match P, hPn with
        | [x], _ => exact ⟨x, rfl⟩
        | x :: y :: P2, _ => simp at this
      rw [evictM_one] at hev
      refine Ex.skip_ rfl rfl rfl ?_
      refine Ex.skip_ rfl rfl rfl ?_
      refine Ex.skip_ rfl rfl rfl ?_
      refine Ex.skipm_ rfl rfl rfl ?_
      refine Ex.skip_ rfl rfl rfl ?_
      refine x_pickF rfl rfl rfl rfl rfl ?_
      refine Ex.done (hK _ _ ?_)
      refine At.then_n ?_
      refine W.condF rfl ?_ -- co9
      refine W.exit ?_
      refine At.then_x ?_
      refine At.loop_x ?_
      refine At.blk_x ?_
      refine At.then_n ?_
      refine W.seq ?_
      refine W.sub [(3, _), (6, _)] ⟨rfl, rfl, trivial⟩ ?_
      refine W.reg [(0, false), (1, true), (2, false)] (by kernel_rfl) ?_ -- region 22
      intro K hK
      refine x_ldA [_, _] rfl rfl rfl Try.underlying46 rfl sz46 rfl rfl ⟨_, _, _, (by first | exact M.at_ 0 rfl | exact M.at_ 1 rfl | exact M.at_ 2 rfl | exact M.at_ 3 rfl | exact M.at_ 4 rfl | exact M.at_ 5 rfl), rfl⟩ ?_ -- ld24 ref.go:103
      refine x_st [_, _] _ rfl rfl rfl sz46 rfl rfl rfl rfl (by first | exact M.at_ 0 rfl | exact M.at_ 1 rfl | exact M.at_ 2 rfl | exact M.at_ 3 rfl | exact M.at_ 4 rfl | exact M.at_ 5 rfl) rfl rfl rfl ?_ -- st5 ref.go:103
      intro wst5 hwst5
      have M := M.put 2 rfl hwst5
      have hr := hr.put (fun g hg => (hbX g hg).2.1) hwst5
      refine ⟨trivial, ?_⟩
      refine x_assign rfl rfl rfl rfl ?_
      refine Ex.done (hK _ _ ?_)
      refine At.then_n ?_
      refine W.ret ?_
      refine At.ret2 (.cell 6 46) (.tmp 7) rfl ⟨⟨_, rfl, run_loadVarA (l := [_, _]) Try.underlying46 rfl sz46 ⟨_, _, _, M.at_ 2 rfl, rfl⟩ (Nat.zero_lt_succ _)⟩, rfl, trivial⟩ ?_ -- ret2
      rw [hE]; exact ⟨_, rfl, by rw [← hev]; exact hr, M.frm, fun g hg => (hbX g hg).2.2⟩
end Go.Proofs.Ytbbccdcjhoecpaa

namespace Go.Proofs.Ytbbccdcjhoecpaa
open Go Go.Fw Go.RowKit Go.Proofs

-- (valise/valiseref17.Cache).Get
set_option maxRecDepth 100000 in
theorem rget_none {w0 : World} {v : Value} {bud : Int} {N : List Blk} {k : Key} (h : RefL w0 v N) (hl : N.length ≤ 1000000) (hno : ∀ m ∈ N, m.1 ≠ k) : Ret Try.prog 36 #[refV bud v, encK k] w0 fun r w' => r = .tuple #[refV bud v, .string ByteArray.empty, .bool false] ∧ New w0 w' := by
  have M : St None' w0 [] w0 := Frm.refl _ _
  obtain ⟨p, cap, rfl, hcap⟩ := h.shape
  refine Ret.of_W Try.func36 rfl Try.ntmps36 rfl ?_
  refine W.seq ?_
  refine W.sub [(0, _), (1, _)] ⟨rfl, rfl, trivial⟩ ?_
  refine W.reg [(0, true), (1, true), (2, true), (3, false), (4, false)] (by kernel_rfl) ?_ -- region 0
  intro K hK
  refine x_box [_, _] rfl rfl rfl rfl rfl ?_ -- bx1 ref.go:59
  intro bbx1 wbx1 hbbx1 hwbx1
  have M := M.alloc hbbx1 hwbx1
  refine ⟨trivial, ?_⟩
  refine x_box [_, _] rfl rfl rfl rfl rfl ?_ -- bx2 ref.go:59
  intro bbx2 wbx2 hbbx2 hwbx2
  have M := M.alloc hbbx2 hwbx2
  refine ⟨trivial, ?_⟩
  refine x_alloc [_, _] rfl rfl rfl ze46 rfl ?_ -- al1 ref.go:59
  intro bal1 wal1 hbal1 hwal1
  have M := M.alloc hbal1 hwal1
  refine ⟨trivial, ?_⟩
  refine x_assign rfl rfl rfl rfl ?_
  refine x_assign rfl rfl rfl rfl ?_
  refine Ex.done (hK _ _ ?_)
  refine At.then_n ?_
  refine W.seq ?_
  refine W.sub [(2, _), (3, _), (4, _)] ⟨rfl, rfl, rfl, trivial⟩ ?_
  refine W.reg [(0, false), (1, false), (2, true), (3, false)] (by kernel_rfl) ?_ -- region 1
  intro K hK
  refine x_ldA [_, _] rfl rfl rfl Try.underlying46 rfl sz46 rfl rfl ⟨_, _, _, (by first | exact M.at_ 0 rfl | exact M.at_ 1 rfl | exact M.at_ 2 rfl | exact M.at_ 3 rfl | exact M.at_ 4 rfl | exact M.at_ 5 rfl), rfl⟩ ?_ -- ld1 ref.go:60
  refine x_ldA [_, _] rfl rfl rfl Try.underlying29 rfl sz29 rfl rfl ⟨_, _, _, (by first | exact M.at_ 0 rfl | exact M.at_ 1 rfl | exact M.at_ 2 rfl | exact M.at_ 3 rfl | exact M.at_ 4 rfl | exact M.at_ 5 rfl), rfl⟩ ?_ -- ld2 ref.go:60
  -- call1: (valise/valiseref17.Cache).At ref.go:60
  refine x_call rfl rfl rfl rfl rfl en42 (rat_c (h.new M.frm) hl) ?_
  rintro v1 w1 ⟨⟨z, rfl, hz⟩, hn1⟩
  have M := M.new hn1
  have hz0 := atP_none hz hno
  refine ⟨trivial, ?_⟩
  refine x_assign rfl rfl rfl rfl ?_
  refine Ex.done (hK _ _ ?_)
  refine At.then_n ?_
  refine W.seq ?_
  refine W.seq ?_
  refine W.sub [(2, _), (4, _), (7, _)] ⟨rfl, rfl, rfl, trivial⟩ ?_
  refine W.reg [(0, false), (1, false)] (by kernel_rfl) ?_ -- region 2
  intro K hK
  refine x_move rfl rfl rfl rfl ?_
  refine x_lss true rfl rfl rfl rfl rfl (by rw [atP_none hz hno]; rfl) ?_ -- cm1 ref.go:61
  refine Ex.done (hK _ _ ?_)
  refine At.then_n ?_
  refine W.condT rfl ?_ -- co1
  refine W.seq ?_
  refine W.sub [(2, _), (4, _)] ⟨rfl, rfl, trivial⟩ ?_
  refine W.reg [(0, false), (1, true), (2, false), (3, false)] (by kernel_rfl) ?_ -- region 3
  intro K hK
  refine x_ldA [_, _] rfl rfl rfl Try.underlying46 rfl sz46 rfl rfl ⟨_, _, _, (by first | exact M.at_ 0 rfl | exact M.at_ 1 rfl | exact M.at_ 2 rfl | exact M.at_ 3 rfl | exact M.at_ 4 rfl | exact M.at_ 5 rfl), rfl⟩ ?_ -- ld3 ref.go:62
  refine x_st [_, _] _ rfl rfl rfl sz46 rfl rfl rfl rfl (by first | exact M.at_ 0 rfl | exact M.at_ 1 rfl | exact M.at_ 2 rfl | exact M.at_ 3 rfl | exact M.at_ 4 rfl | exact M.at_ 5 rfl) rfl rfl rfl ?_ -- st1 ref.go:62
  intro wst1 hwst1
  have M := M.put 2 rfl hwst1
  refine ⟨trivial, ?_⟩
  refine x_assign rfl rfl rfl rfl ?_
  refine x_assign rfl rfl rfl rfl ?_
  refine Ex.done (hK _ _ ?_)
  refine At.then_n ?_
  refine W.ret ?_
  refine At.then_r ?_
  refine At.ret3 (.cell 4 46) (.tmp 5) (.tmp 6) rfl ⟨⟨_, rfl, run_loadVarA (l := [_, _]) Try.underlying46 rfl sz46 ⟨_, _, _, M.at_ 2 rfl, rfl⟩ (Nat.zero_lt_succ _)⟩, rfl, rfl, trivial⟩ ?_ -- ret1
  exact ⟨rfl, M.frm⟩

-- (valise/valiseref17.Cache).Get
set_option maxRecDepth 100000 in
theorem rget_some {w0 : World} {v : Value} {bud : Int} {A B : List Blk} {m : Blk} {k : Key} (h : RefL w0 v (A ++ m :: B)) (hl : (A ++ m :: B).length ≤ 1000000) (hk : ((A ++ m :: B).map (·.1)).Nodup) (hm : m.1 = k) : Ret Try.prog 36 #[refV bud v, encK k] w0 fun r w' => ∃ v', r = .tuple #[refV bud v', .string (strB m.2.1), .bool true] ∧ RefL w' v' (m :: (A ++ B)) ∧ New w0 w' ∧ (∀ g, blkOf v' = some g → w0.heap.size ≤ g) := by
  have M : St None' w0 [] w0 := Frm.refl _ _
  obtain ⟨p, cap, rfl, hcap⟩ := h.shape
  refine Ret.of_W Try.func36 rfl Try.ntmps36 rfl ?_
  refine W.seq ?_
  refine W.sub [(0, _), (1, _)] ⟨rfl, rfl, trivial⟩ ?_
  refine W.reg [(0, true), (1, true), (2, true), (3, false), (4, false)] (by kernel_rfl) ?_ -- region 0
  intro K hK
  refine x_box [_, _] rfl rfl rfl rfl rfl ?_ -- bx1 ref.go:59
  intro bbx1 wbx1 hbbx1 hwbx1
  have M := M.alloc hbbx1 hwbx1
  refine ⟨trivial, ?_⟩
  refine x_box [_, _] rfl rfl rfl rfl rfl ?_ -- bx2 ref.go:59
  intro bbx2 wbx2 hbbx2 hwbx2
  have M := M.alloc hbbx2 hwbx2
  refine ⟨trivial, ?_⟩
  refine x_alloc [_, _] rfl rfl rfl ze46 rfl ?_ -- al1 ref.go:59
  intro bal1 wal1 hbal1 hwal1
  have M := M.alloc hbal1 hwal1
  refine ⟨trivial, ?_⟩
  refine x_assign rfl rfl rfl rfl ?_
  refine x_assign rfl rfl rfl rfl ?_
  refine Ex.done (hK _ _ ?_)
  refine At.then_n ?_
  refine W.seq ?_
  refine W.sub [(2, _), (3, _), (4, _)] ⟨rfl, rfl, rfl, trivial⟩ ?_
  refine W.reg [(0, false), (1, false), (2, true), (3, false)] (by kernel_rfl) ?_ -- region 1
  intro K hK
  refine x_ldA [_, _] rfl rfl rfl Try.underlying46 rfl sz46 rfl rfl ⟨_, _, _, (by first | exact M.at_ 0 rfl | exact M.at_ 1 rfl | exact M.at_ 2 rfl | exact M.at_ 3 rfl | exact M.at_ 4 rfl | exact M.at_ 5 rfl), rfl⟩ ?_ -- ld1 ref.go:60
  refine x_ldA [_, _] rfl rfl rfl Try.underlying29 rfl sz29 rfl rfl ⟨_, _, _, (by first | exact M.at_ 0 rfl | exact M.at_ 1 rfl | exact M.at_ 2 rfl | exact M.at_ 3 rfl | exact M.at_ 4 rfl | exact M.at_ 5 rfl), rfl⟩ ?_ -- ld2 ref.go:60
  -- call1: (valise/valiseref17.Cache).At ref.go:60
  refine x_call rfl rfl rfl rfl rfl en42 (rat_c (h.new M.frm) hl) ?_
  rintro v1 w1 ⟨⟨z, rfl, hz⟩, hn1⟩
  have M := M.new hn1
  have hz0 := atP_some hk hm hz
  subst hz0
  obtain ⟨bk, off, rfl, hrow0⟩ := h.row (j := A.length) (m := m) (by simp)
  have hrow := rowAt_keep hrow0 (M.frm.old bk (by obtain ⟨cs, T, fr, h1, _⟩ := hrow0; exact (Array.getElem?_eq_some_iff.1 h1).1) id)
  refine ⟨trivial, ?_⟩
  refine x_assign rfl rfl rfl rfl ?_
  refine Ex.done (hK _ _ ?_)
  refine At.then_n ?_
  refine W.seq ?_
  refine W.seq ?_
  refine W.sub [(2, _), (4, _), (7, _)] ⟨rfl, rfl, rfl, trivial⟩ ?_
  refine W.reg [(0, false), (1, false)] (by kernel_rfl) ?_ -- region 2
  intro K hK
  refine x_move rfl rfl rfl rfl ?_
  refine x_lss false rfl rfl rfl rfl rfl (decide_eq_false (by omega)) ?_ -- cm1 ref.go:61
  refine Ex.done (hK _ _ ?_)
  refine At.then_n ?_
  refine W.condF rfl ?_ -- co1
  refine W.skip ?_
  refine At.then_n ?_
  refine W.seq ?_
  refine W.sub [(2, _), (4, _), (7, _)] ⟨rfl, rfl, rfl, trivial⟩ ?_
  refine W.reg [(0, false), (1, false), (2, false), (3, false), (4, false), (5, true), (6, true)] (by kernel_rfl) ?_ -- region 4
  intro K hK
  refine x_fa rfl rfl rfl fo46_1 rfl ?_
  refine x_ld rfl rfl rfl Try.underlying44 rfl rfl (cell_of (by first | exact M.at_ 0 rfl | exact M.at_ 1 rfl | exact M.at_ 2 rfl | exact M.at_ 3 rfl | exact M.at_ 4 rfl | exact M.at_ 5 rfl) rfl) ?_ -- ld3 ref.go:64
  refine x_move rfl rfl rfl rfl ?_
  refine x_ia A.length rfl rfl rfl Try.underlying44 sz53 rfl rfl rfl (by simp) ?_ -- ia1 ref.go:64
  refine x_ldA [_, _, _, _] rfl rfl rfl Try.underlying53 rfl sz53 rfl rfl hrow ?_ -- ld4 ref.go:64
  refine x_alloc [_, _, _, _] rfl rfl rfl ze53 rfl ?_ -- al2 ref.go:64
  intro bal2 wal2 hbal2 hwal2
  have M := M.alloc hbal2 hwal2
  refine ⟨trivial, ?_⟩
  refine x_st [_, _, _, _] _ rfl rfl rfl sz53 rfl rfl rfl rfl (by first | exact M.at_ 0 rfl | exact M.at_ 1 rfl | exact M.at_ 2 rfl | exact M.at_ 3 rfl | exact M.at_ 4 rfl | exact M.at_ 5 rfl) rfl rfl rfl ?_ -- st1 ref.go:64
  intro wst1 hwst1
  have M := M.put 3 rfl hwst1
  refine ⟨trivial, ?_⟩
  refine Ex.done (hK _ _ ?_)
  refine At.then_n ?_
  refine W.seq ?_
  refine W.sub [(2, _), (4, _), (7, _), (8, _)] ⟨rfl, rfl, rfl, rfl, trivial⟩ ?_
  refine W.reg [(0, false), (1, false), (2, false), (3, true), (4, false), (5, true)] (by kernel_rfl) ?_ -- region 5
  intro K hK
  refine x_fa rfl rfl rfl fo46_1 rfl ?_
  refine x_ld rfl rfl rfl Try.underlying44 rfl rfl (cell_of (by first | exact M.at_ 0 rfl | exact M.at_ 1 rfl | exact M.at_ 2 rfl | exact M.at_ 3 rfl | exact M.at_ 4 rfl | exact M.at_ 5 rfl) rfl) ?_ -- ld5 ref.go:65
  refine x_move rfl rfl rfl rfl ?_
  -- call2: valise/valiseref17.without ref.go:65
  refine x_call rfl rfl rfl rfl rfl en43 (rwo_c (h.new M.frm) hl) ?_
  rintro v7 w7 ⟨hr7, hn7, hb7⟩
  have hlt7 : bbx1 < wst1.heap.size ∧ bbx2 < wst1.heap.size ∧ bal1 < wst1.heap.size ∧ bal2 < wst1.heap.size := ⟨M.lt (List.mem_of_getElem? (i := 0) rfl), M.lt (List.mem_of_getElem? (i := 1) rfl), M.lt (List.mem_of_getElem? (i := 2) rfl), M.lt (List.mem_of_getElem? (i := 3) rfl)⟩
  have M := M.new hn7
  obtain ⟨p7, cap7, rfl, _⟩ := hr7.shape
  refine ⟨trivial, ?_⟩
  refine x_fa rfl rfl rfl fo46_1 rfl ?_
  refine x_st [_] _ rfl rfl rfl sz44 rfl rfl rfl rfl (by first | exact M.at_ 0 rfl | exact M.at_ 1 rfl | exact M.at_ 2 rfl | exact M.at_ 3 rfl | exact M.at_ 4 rfl | exact M.at_ 5 rfl) rfl rfl rfl ?_ -- st2 ref.go:65
  intro wst2 hwst2
  have M := M.put 0 rfl hwst2
  have hr7 := hr7.put (fun g hg => by have := hb7 g hg; omega) hwst2
  refine ⟨trivial, ?_⟩
  refine Ex.done (hK _ _ ?_)
  refine At.then_n ?_
  refine W.seq ?_
  refine W.sub [(2, _), (4, _), (8, _)] ⟨rfl, rfl, rfl, trivial⟩ ?_
  refine W.regD (by kernel_rfl) #[0, 0, 3, 0, 8, 7, 63, 127] [(0, false), (1, false), (3, false), (4, false), (2, true), (5, true), (6, false), (7, false)] (by kernel_rfl) ?_ -- region 6
  intro K wD1 hK hwD1
  have M := M.drew hwD1
  have hszD := M.size
  have hr7 := hr7.drw hwD1
  refine x_ldA [_, _] rfl rfl rfl Try.underlying46 rfl sz46 rfl rfl ⟨_, _, _, (by first | exact M.at_ 0 rfl | exact M.at_ 1 rfl | exact M.at_ 2 rfl | exact M.at_ 3 rfl | exact M.at_ 4 rfl | exact M.at_ 5 rfl), rfl⟩ ?_ -- ld6 ref.go:66
  refine x_ldA [_, _, _, _] rfl rfl rfl Try.underlying53 rfl sz53 rfl rfl ⟨_, _, _, (by first | exact M.at_ 0 rfl | exact M.at_ 1 rfl | exact M.at_ 2 rfl | exact M.at_ 3 rfl | exact M.at_ 4 rfl | exact M.at_ 5 rfl), rfl⟩ ?_ -- ld7 ref.go:66
  refine x_fa rfl rfl rfl fo53_1 rfl ?_
  refine x_ld rfl rfl rfl Try.underlying9 rfl rfl (cell_of (by first | exact M.at_ 0 rfl | exact M.at_ 1 rfl | exact M.at_ 2 rfl | exact M.at_ 3 rfl | exact M.at_ 4 rfl | exact M.at_ 5 rfl) rfl) ?_ -- ld8 ref.go:66
  -- call3: (valise/valiseref17.Cache).front ref.go:66
  refine x_call rfl rfl rfl rfl rfl en44 (rfront_c hr7 (by simp at hl ⊢; omega)) ?_
  rintro v8 w8 ⟨v9, rfl, hr9, hn9, hb9⟩
  obtain ⟨p9, cap9, rfl, _⟩ := hr9.shape
  have hlt9 : bal1 < wD1.heap.size := M.lt (List.mem_of_getElem? (i := 2) rfl)
  have M := M.new hn9
  refine ⟨⟨.inr (cell_of (by first | exact M.at_ 0 rfl | exact M.at_ 1 rfl | exact M.at_ 2 rfl | exact M.at_ 3 rfl | exact M.at_ 4 rfl | exact M.at_ 5 rfl) rfl), .inl (by kernel_rfl), .inl (by kernel_rfl), trivial⟩, ?_⟩
  refine x_st [_, _] _ rfl rfl rfl sz46 rfl rfl rfl rfl (by first | exact M.at_ 0 rfl | exact M.at_ 1 rfl | exact M.at_ 2 rfl | exact M.at_ 3 rfl | exact M.at_ 4 rfl | exact M.at_ 5 rfl) rfl rfl rfl ?_ -- st3 ref.go:66
  intro wst3 hwst3
  have M := M.put 2 rfl hwst3
  have hr9 := hr9.put (fun g hg => by have := hb9 g hg; omega) hwst3
  refine ⟨⟨.inr (cell_of (by first | exact M.at_ 0 rfl | exact M.at_ 1 rfl | exact M.at_ 2 rfl | exact M.at_ 3 rfl | exact M.at_ 4 rfl | exact M.at_ 5 rfl) rfl), .inl (by kernel_rfl), .inl (by kernel_rfl), trivial⟩, ?_⟩
  refine x_assign rfl rfl rfl rfl ?_
  refine x_assign rfl rfl rfl rfl ?_
  refine Ex.done (hK _ _ ?_)
  refine At.then_n ?_
  refine W.ret ?_
  refine At.ret3 (.cell 4 46) (.tmp 5) (.tmp 6) rfl ⟨⟨_, rfl, run_loadVarA (l := [_, _]) Try.underlying46 rfl sz46 ⟨_, _, _, M.at_ 2 rfl, rfl⟩ (Nat.zero_lt_succ _)⟩, rfl, rfl, trivial⟩ ?_ -- ret1
  exact ⟨_, rfl, hr9, M.frm, fun g hg => Nat.le_trans hszD (hb9 g hg)⟩
end Go.Proofs.Ytbbccdcjhoecpaa

namespace Go.Proofs.Ytbbccdcjhoecpaa
open Go Go.Fw Go.RowKit Go.Proofs Go.WideShapes
set_option linter.unusedVariables false
set_option linter.unusedSimpArgs false

theorem CS.perm {w0 w : World} {L L' : List (Nat × Obj)} {c : Nat} {bud : Int} {M : List Blk} (h : CS w0 L c bud M w) (hp : L.Perm L') : CS w0 L' c bud M w :=
  ⟨h.st.perm hp, let ⟨e, r, N, h1, h2, h3⟩ := h.cm; ⟨e, r, N, h1, h2, fun x hx => ⟨(h3 x hx).1, fun hm => (h3 x hx).2 ((hp.map _).mem_iff.2 hm)⟩⟩, h.bd, h.le, h.pins⟩

structure CT (w0 : World) (L : List (Nat × Obj)) (c : Nat) (bud : Int) (M : List Blk) (X : List (Nat × Obj)) (w : World) : Prop where
  cs : CS w0 (L ++ X) c bud M w

section
variable {w0 w w1 : World} {L : List (Nat × Obj)} {c : Nat} {bud : Int} {M N : List Blk} {X : List (Nat × Obj)} {v : Value}

theorem CT.at_ (h : CT w0 L c bud M X w) (k : Nat) {b : Nat} {o : Obj} (hk : X[k]? = some (b, o)) : w.heap[b]? = some o := h.cs.at_ (L.length + k) (by rw [List.getElem?_append_right (by omega)]; simpa using hk)
theorem CT.frm (h : CT w0 L c bud M X w) : New w0 w := h.cs.frm
theorem CT.drew (h : CT w0 L c bud M X w) (hw : w1 = w.drew) : CT w0 L c bud M X w1 := ⟨h.cs.drew hw⟩
theorem CT.new (h : CT w0 L c bud M X w) (hn : New w w1) : CT w0 L c bud M X w1 := ⟨h.cs.new hn⟩
theorem CT.alloc (h : CT w0 L c bud M X w) {o : Obj} {b : Nat} (hb : b = w.heap.size) (hw : w1 = w.alloc o) : CT w0 L c bud M (X ++ [(b, o)]) w1 := ⟨by rw [← List.append_assoc]; exact h.cs.alloc hb hw⟩
theorem CT.put (h : CT w0 L c bud M X w) (k : Nat) {b : Nat} {o0 o : Obj} (hk : X[k]? = some (b, o0)) (hw : w1 = w.putObj b o) : CT w0 L c bud M (X.set k (b, o)) w1 := ⟨by
  have := h.cs.put (L.length + k) (b := b) (o0 := o0) (o := o) (by rw [List.getElem?_append_right (by omega)]; simpa using hk) hw
  rw [List.set_append_right _ _ (by omega)] at this
  simpa using this⟩
theorem CT.lt (h : CT w0 L c bud M X w) {b : Nat} {o : Obj} (hk : (b, o) ∈ X) : b < w.heap.size := h.cs.st.lt (List.mem_append_right _ hk)
theorem CT.sub {X' : List (Nat × Obj)} (h : CT w0 L c bud M X w) (hs : X'.Sublist X) : CT w0 L c bud M X' w := ⟨h.cs.sub (List.Sublist.append (List.Sublist.refl _) hs)⟩
theorem CT.done (h : CT w0 L c bud M X w) : CS w0 L c bud M w := h.cs.sub (List.sublist_append_left _ _)
theorem CS.ct (h : CS w0 L c bud M w) : CT w0 L c bud M [] w := ⟨by simpa using h⟩

/-- The document's slice stands among these blocks. -/
def RefB (L : List (Nat × Obj)) (v : Value) (N : List Blk) : Prop :=
  (v = .slice none 0 0 ∧ N = []) ∨ ∃ b off cap all T fr, v = .slice (some ⟨b, off, none⟩) N.length cap ∧ N.length ≤ cap ∧ (b, Obj.cells all T fr) ∈ L ∧ (all.toList.drop off).take (N.length * 4) = refCells N ∧ (refCells N).length = N.length * 4

theorem RefB.mono {L' : List (Nat × Obj)} (hr : RefB L v N) (hs : ∀ x ∈ L, x ∈ L') : RefB L' v N := by
  rcases hr with h | ⟨b, off, cap, all, T, fr, h1, h2, h3, h4⟩
  · exact .inl h
  · exact .inr ⟨b, off, cap, all, T, fr, h1, h2, hs _ h3, h4⟩
theorem RefB.at_ (hr : RefB L v N) (h : CT w0 L c bud M X w) : RefL w v N := by
  rcases hr with ⟨rfl, rfl⟩ | ⟨b, off, cap, all, T, fr, h1, h2, h3, h4⟩
  · exact .inl ⟨rfl, rfl, rfl⟩
  · exact .inr ⟨b, off, cap, all, T, fr, h1, h2, h.cs.st.get (List.mem_append_left _ h3), h4⟩
theorem RefB.nil : RefB L (.slice none 0 0) [] := .inl ⟨rfl, rfl⟩
theorem RefB.step {Y : List (Nat × Obj)} {v' : Value} {N' : List Blk} (hr : RefB L v N) (hy : (v' = v ∧ N' = N) ∨ RefB Y v' N') : RefB (L ++ Y) v' N' := by
  rcases hy with ⟨rfl, rfl⟩ | h
  · exact hr.mono fun x hx => List.mem_append_left _ hx
  · exact h.mono fun x hx => List.mem_append_right _ hx

/-- How a call of the document's turns its slice. -/
def RSt (w : World) (v : Value) (N : List Blk) (w' : World) (v' : Value) (N' : List Blk) : Prop := New w w' ∧ ((v' = v ∧ N' = N) ∨ (RefL w' v' N' ∧ ∀ g, blkOf v' = some g → w.heap.size ≤ g))

theorem CT.ref {v' : Value} {N' : List Blk} (h : CT w0 L c bud M X w) (hs : RSt w v N w1 v' N') : ∃ Y, CT w0 (L ++ Y) c bud M X w1 ∧ ((v' = v ∧ N' = N) ∨ RefB Y v' N') := by
  obtain ⟨hn, h1 | ⟨hr, hf⟩⟩ := hs
  · exact ⟨[], by simpa using h.new hn, .inl h1⟩
  · rcases hr with ⟨rfl, h1, h2⟩ | ⟨b, off, cap, all, T, fr, rfl, hle, hb, h1, h2⟩
    · have : N' = [] := List.length_eq_zero_iff.1 h1
      subst this
      exact ⟨[], by simpa using h.new hn, .inr RefB.nil⟩
    · have hg := hf b rfl
      have hst : St None' w [(b, .cells all T fr)] w1 := ⟨hn.size, hn.old, by simp, by simp [hb, hg], hn.os, hn.tape, hn.output⟩
      refine ⟨[(b, .cells all T fr)], ⟨(h.cs.grow hst).perm ?_⟩, .inr (.inr ⟨b, off, cap, all, T, fr, rfl, hle, by simp, h1, h2⟩)⟩
      rw [List.append_assoc, List.append_assoc]
      exact List.Perm.append_left _ List.perm_append_comm

/-- A callee's blocks, among those that stand for good. -/
theorem CT.push {Y : List (Nat × Obj)} (h : CS w0 ((L ++ X) ++ Y) c bud M w) : CT w0 (L ++ Y) c bud M X w := ⟨h.perm (by
  rw [List.append_assoc, List.append_assoc]
  exact List.Perm.append_left _ List.perm_append_comm)⟩
end

section
variable {w0 : World} {v : Value} {bud : Int} {N : List Blk} {k : Key}
theorem rput_c {b : List UInt8} (h : RefL w0 v N) (hl : N.length ≤ 1000) (hk : (N.map (·.1)).Nodup) (hbud : 0 ≤ bud ∧ bud ≤ 1048576) (htot : totM N ≤ bud) :
    Ret Try.prog 33 #[refV bud v, encK k, .string (strB b)] w0 fun r w' => ∃ v', r = .tuple #[refV bud v', .int .i64 (putM bud N k b).2] ∧ RSt w0 v N w' v' (putM bud N k b).1 := by
  by_cases h1 : 4096 < b.length
  · refine (rput_big h h1).mono ?_
    rintro r w' ⟨rfl, hn⟩
    have e : putM bud N k b = (N, 2) := by unfold putM; rw [if_pos h1]
    rw [e]
    exact ⟨v, rfl, hn, .inl ⟨rfl, rfl⟩⟩
  · by_cases h2 : bud < heldM N k + b.length
    · refine (rput_full h hl hk hbud htot (by omega) h2).mono ?_
      rintro r w' ⟨rfl, hn⟩
      have e : putM bud N k b = (N, 7) := by unfold putM; rw [if_neg h1, if_pos h2]
      rw [e]
      exact ⟨v, rfl, hn, .inl ⟨rfl, rfl⟩⟩
    · refine (rput_ok h hl hk hbud htot (by omega) (by omega)).mono ?_
      rintro r w' ⟨v', rfl, h3, hn, h4⟩
      exact ⟨v', rfl, hn, .inr ⟨h3, h4⟩⟩

theorem find_no (hno : ∀ m ∈ N, m.1 ≠ k) : N.find? (fun m => decide (m.1 = k)) = none := by
  rw [List.find?_eq_none]; intro m hm; simpa using hno m hm

theorem rpin_c {q : Int} (h : RefL w0 v N) (hl : N.length ≤ 1000000) (hk : (N.map (·.1)).Nodup) (hp : ∀ m ∈ N, 0 ≤ m.2.2 ∧ m.2.2 < 1000000000) (hq : -2 < q ∧ q < 2) :
    Ret Try.prog 34 #[refV bud v, encK k, .int .i64 q] w0 fun r w' => ∃ v', r = .tuple #[refV bud v', .int .i64 (pinM N k q).2] ∧ RSt w0 v N w' v' (pinM N k q).1 := by
  rcases split_keyM N k with hno | ⟨A, m, B, rfl, hm⟩
  · refine (rpin_none h hl hno).mono ?_
    rintro r w' ⟨rfl, hn⟩
    have e : pinM N k q = (N, 9) := by unfold pinM; rw [find_no hno]
    rw [e]
    exact ⟨v, rfl, hn, .inl ⟨rfl, rfl⟩⟩
  · have hmem : m ∈ A ++ m :: B := by simp
    have hp' := hp m hmem
    by_cases h2 : m.2.2 + q < 0
    · refine (rpin_low h hl hk hm ⟨hp'.1, hp'.2, hq⟩ h2).mono ?_
      rintro r w' ⟨rfl, hn⟩
      have e := pin_low hk hmem h2
      rw [hm] at e
      rw [e]
      exact ⟨v, rfl, hn, .inl ⟨rfl, rfl⟩⟩
    · refine (rpin_ok h hl hk hm ⟨hp'.1, hp'.2, hq⟩ (by omega)).mono ?_
      rintro r w' ⟨v', rfl, h3, hn, h4⟩
      have e := pin_has hk hmem (q := q) (by omega)
      rw [hm] at e
      have e2 : (A ++ m :: B).map (fun x => if x.1 = k then (x.1, x.2.1, x.2.2 + q) else x) = A ++ (m.1, m.2.1, m.2.2 + q) :: B := by
        have hkk := hk
        rw [List.map_append, List.map_cons] at hkk
        have hx : ∀ x, x ∈ A ∨ x ∈ B → x.1 ≠ k := by
          intro x hx e3
          rw [List.nodup_append] at hkk
          rcases hx with hx | hx
          · exact hkk.2.2 x.1 (List.mem_map.2 ⟨x, hx, rfl⟩) m.1 (by simp) (by rw [e3, hm])
          · have := hkk.2.1
            rw [List.nodup_cons] at this
            exact this.1 (List.mem_map.2 ⟨x, hx, by rw [e3, hm]⟩)
        rw [List.map_append, List.map_cons, if_pos hm]
        congr 1
        · conv => rhs; rw [← List.map_id A]
          exact List.map_congr_left fun x hxA => by rw [if_neg (hx x (.inl hxA))]; rfl
        · congr 1
          conv => rhs; rw [← List.map_id B]
          exact List.map_congr_left fun x hxB => by rw [if_neg (hx x (.inr hxB))]; rfl
      rw [e, e2]
      exact ⟨v', rfl, hn, .inr ⟨h3, h4⟩⟩

theorem rget_c (h : RefL w0 v N) (hl : N.length ≤ 1000000) (hk : (N.map (·.1)).Nodup) :
    Ret Try.prog 36 #[refV bud v, encK k] w0 fun r w' => ∃ v' s ok, r = .tuple #[refV bud v', .string (strB s), .bool ok] ∧ RSt w0 v N w' v' (getM N k).1 ∧ (getM N k).2 = (if ok then some s else none) ∧ (ok = false → s = []) := by
  rcases split_keyM N k with hno | ⟨A, m, B, rfl, hm⟩
  · refine (rget_none h hl hno).mono ?_
    rintro r w' ⟨rfl, hn⟩
    have e : getM N k = (N, none) := by unfold getM; rw [find_no hno]
    rw [e]
    exact ⟨v, [], false, rfl, ⟨hn, .inl ⟨rfl, rfl⟩⟩, rfl, fun _ => rfl⟩
  · refine (rget_some h hl hk hm).mono ?_
    rintro r w' ⟨v', rfl, h3, hn, h4⟩
    have hmem : m ∈ A ++ m :: B := by simp
    have e := (getM_has hk hmem).1
    rw [wo_mid' hk rfl, hm] at e
    rw [e]
    exact ⟨v', m.2.1, true, rfl, ⟨hn, .inr ⟨h3, h4⟩⟩, rfl, fun h => by cases h⟩
end
end Go.Proofs.Ytbbccdcjhoecpaa

namespace Go.Proofs.Ytbbccdcjhoecpaa
open Go Go.Fw Go.RowKit Go.Proofs

-- slices.Clone[[]byte,byte]
set_option maxRecDepth 100000 in
theorem clone_o {w : World} {sv : Value} {b : List UInt8} (h : BytesIn w sv b) (hb : b.length ≤ 1099511627776) : Ret Try.prog 28 #[sv] w fun v w' => OwS w' v 1 b.length (b.map byteV) ∧ New w w' ∧ (∀ g, blkOf v = some g → w.heap.size ≤ g) := by
  obtain ⟨p, cap, hsv⟩ := h.shape
  have hs : Src Try.prog 1 31 sv b.length (b.map byteV) w := h.src
  have M : St None' w [] w := Frm.refl _ _
  subst hsv
  refine Ret.of_W Try.func28 rfl Try.ntmps28 rfl ?_
  refine W.seq ?_
  refine W.sub [(0, _)] ⟨rfl, trivial⟩ ?_
  refine W.reg [(0, false)] (by kernel_rfl) ?_ -- region 0
  intro K hK
  refine x_assign rfl rfl rfl rfl ?_
  refine Ex.done (hK _ _ ?_)
  refine At.then_n ?_
  refine W.seq ?_
  refine W.seq ?_
  refine W.sub [(0, _), (2, _)] ⟨rfl, rfl, trivial⟩ ?_
  refine W.reg [(0, false), (1, false)] (by kernel_rfl) ?_ -- region 1
  intro K hK
  refine x_move rfl rfl rfl rfl ?_
  refine x_eqsn _ rfl rfl rfl Try.underlying31 rfl rfl rfl ?_ -- eq1 slices.go:357
  refine Ex.done (hK _ _ ?_)
  refine At.then_n ?_
  refine W.cond rfl (fun hco1 => ?_) (fun hco1 => ?_) -- co1
  · refine W.seq ?_
    refine W.sub [(0, _), (2, _)] ⟨rfl, rfl, trivial⟩ ?_
    refine W.reg [(0, false)] (by kernel_rfl) ?_ -- region 2
    intro K hK
    refine x_assign rfl rfl rfl rfl ?_
    refine Ex.done (hK _ _ ?_)
    refine At.then_n ?_
    refine W.ret ?_
    refine At.then_r ?_
    refine At.ret1 (.tmp 2) rfl ⟨rfl, trivial⟩ ?_ -- ret1
    have hp : p = none := by cases p with | none => rfl | some p => simp at hco1
    subst hp
    have hb0 : b = [] := by
      rcases h with ⟨h1, _⟩ | ⟨_, ⟨_, _, h3⟩ | ⟨_, _, _, _, _, _, h1, _⟩⟩
      · exact h1
      · simpa using h3
      · cases h1
    subst hb0
    exact ⟨.inl ⟨rfl, rfl, rfl⟩, Frm.refl _ _, fun g hg => by cases hg⟩
  · refine W.skip ?_
    refine At.then_n ?_
    refine W.seq ?_
    refine W.sub [(0, _), (2, _)] ⟨rfl, rfl, trivial⟩ ?_
    refine W.reg [(0, true), (1, false), (2, true), (3, false)] (by kernel_rfl) ?_ -- region 3
    intro K hK
    -- bs1: slices.go:362
    refine x_bs0 rfl rfl rfl Try.underlying31 sz5 ?_
    intro b1 w1 hb1 hw1
    have M := M.alloc hb1 hw1
    have hs1 : Src Try.prog 1 31 (.slice p b.length cap) b.length (b.map byteV) w1 := (h.keep (w1 := w1) (fun _ g hg hlt => by rw [hw1, heap_alloc, if_neg (by omega)])).src
    refine ⟨trivial, ?_⟩
    refine x_move rfl rfl rfl rfl ?_
    -- ap1: slices.go:362
    refine x_app (cs := []) rfl rfl rfl rfl Try.underlying31 sz5 ze5 rfl by5 rfl rfl (.inr ⟨b1, 0, [], 5, rfl, M.at_ 0 rfl, rfl, rfl⟩) (by simp) hs1 (by omega) (by decide) (by omega) ?_
    intro v2 w2 hv2 hap
    refine ⟨trivial, ?_⟩
    refine x_assign rfl rfl rfl rfl ?_
    refine Ex.done (hK _ _ ?_)
    refine At.then_n ?_
    refine W.ret ?_
    refine At.ret1 (.tmp 2) rfl ⟨rfl, trivial⟩ ?_ -- ret2
    have hap : ApTo w1 (.slice (some ⟨b1, 0, none⟩) 0 0) v2 w2 := by
      rcases hap with ⟨h1, _⟩ | h1
      · cases h1
      · exact h1
    refine ⟨?_, (M.frm).trans hap.frm (fun g hg _ => ?_), fun g hg => ?_⟩
    · simpa using hv2
    · simp [blkOf] at hg; subst hg; exact .inr (by omega)
    · obtain ⟨g', h1, h2⟩ := hap.blk
      rw [hg] at h1; cases h1
      rcases h2 with h2 | h2
      · simp [blkOf] at h2; omega
      · have := M.size; omega

-- (*valise/cache.Cache).Get
set_option maxRecDepth 100000 in
theorem get_own {w : World} {c e r : Nat} {bud : Int} {A B : List Nd} {l : Nd} {k : Key} (h : CAt w c e r bud (A ++ l :: B)) (hk : l.key = k) : Ret Try.prog 16 #[ptr c, encK k] w fun v w' => ∃ sv, v = .tuple #[sv, .bool true] ∧ OwS w' sv 1 l.b.length (l.b.map byteV) ∧ (∀ g, blkOf sv = some g → w.heap.size ≤ g) ∧ CAt w' c e r bud (l :: (A ++ B)) ∧ Frm (InRing e (A ++ l :: B)) w w' := by
  have M : St None' w [] w := Frm.refl _ _
  have hlk := h.look k
  have hc := h.hc
  obtain ⟨l2, hfk⟩ : ∃ l2, findK (A ++ l :: B) k = some (ptr l.id) := by
    obtain ⟨A', l', B', h1, h2, h3, _⟩ := findK_some (L := A ++ l :: B) (k := k) (by unfold findK; rw [Option.isSome_map]; exact List.find?_isSome.2 ⟨l, by simp, by simp [hk]⟩)
    have : l' = l := key_inj h.keys (by rw [h1]; simp) (by simp) (h2.trans hk.symm)
    exact ⟨(), by rw [h3, this]⟩
  rw [hfk] at hlk
  obtain ⟨hnode, hne⟩ := h.ring.node_at
  refine Ret.of_W Try.func16 rfl Try.ntmps16 rfl ?_
  refine W.seq ?_
  refine W.sub [(0, _), (1, _)] ⟨rfl, rfl, trivial⟩ ?_
  refine W.reg [(0, true), (1, false), (2, false)] (by kernel_rfl) ?_ -- region 0
  intro K hK
  refine x_box [_, _] rfl rfl rfl rfl rfl ?_ -- bx1 cache.go:100
  intro bbx1 wbx1 hbbx1 hwbx1
  have M := M.alloc hbbx1 hwbx1
  have hcx := hp_al hwbx1 hc
  have hlk := hlk.alloc hwbx1
  have hnd := hp_al hwbx1 hnode
  refine ⟨trivial, ?_⟩
  refine x_assign rfl rfl rfl rfl ?_
  refine x_assign rfl rfl rfl rfl ?_
  refine Ex.done (hK _ _ ?_)
  refine At.then_n ?_
  refine W.seq ?_
  refine W.seq ?_
  refine W.sub [(0, _), (3, _), (4, _), (5, _)] ⟨rfl, rfl, rfl, rfl, trivial⟩ ?_
  refine W.reg [(0, false), (1, true), (2, false)] (by kernel_rfl) ?_ -- region 1
  intro K hK
  refine x_move rfl rfl rfl rfl ?_
  -- call1: (*valise/cache.Cache).made cache.go:101
  refine x_call rfl rfl rfl rfl rfl en25 (made_ok hcx) ?_
  rintro v w1 ⟨rfl, rfl⟩
  refine ⟨trivial, ?_⟩
  refine x_not false rfl rfl rfl rfl rfl ?_ -- un1 cache.go:101
  refine Ex.done (hK _ _ ?_)
  refine At.then_n ?_
  refine W.condF rfl ?_ -- co1
  refine W.skip ?_
  refine At.then_n ?_
  refine W.seq ?_
  refine W.sub [(0, _), (3, _), (4, _), (5, _)] ⟨rfl, rfl, rfl, rfl, trivial⟩ ?_
  refine W.regD (by kernel_rfl) #[0, 1, 3, 7, 0, 31, 63, 127, 127, 255, 1023] [(0, false), (1, false), (2, false), (3, false), (4, false), (5, false), (6, false), (7, false), (8, false), (9, false), (10, false)] (by kernel_rfl) ?_ -- region 3
  intro K wD1 hK hwD1
  have M := M.drew hwD1
  have hcx := (hp_drew hwD1 c).trans hcx
  have hlk := hlk.same (hp_drew hwD1 r)
  have hnd := (hp_drew hwD1 l.id).trans hnd
  refine x_move rfl rfl rfl rfl ?_
  refine x_nil rfl rfl rfl rfl rfl ?_
  refine x_fa rfl rfl rfl fo63_3 rfl ?_
  refine x_ld rfl rfl rfl Try.underlying61 rfl rfl (cell_of hcx rfl) ?_ -- ld1 cache.go:104
  refine x_ldA [_, _] rfl rfl rfl Try.underlying29 rfl sz29 rfl rfl ⟨_, _, _, (by first | exact M.at_ 0 rfl | exact M.at_ 1 rfl | exact M.at_ 2 rfl | exact M.at_ 3 rfl | exact M.at_ 4 rfl | exact M.at_ 5 rfl), rfl⟩ ?_ -- ld2 cache.go:104
  refine x_lk2 k rfl rfl rfl keyLaw Try.underlying61 ze58 rfl rfl hlk ?_ -- lk1 cache.go:104
  refine x_move rfl rfl rfl rfl ?_
  refine x_ext rfl rfl rfl rfl rfl ?_ -- ex1
  refine x_ext rfl rfl rfl rfl rfl ?_ -- ex2
  refine x_assign rfl rfl rfl rfl ?_
  refine x_assign rfl rfl rfl rfl ?_
  refine Ex.done (hK _ _ ?_)
  refine At.then_n ?_
  refine W.seq ?_
  refine W.seq ?_
  refine W.sub [(0, _), (4, _), (5, _), (6, _), (7, _)] ⟨rfl, rfl, rfl, rfl, rfl, trivial⟩ ?_
  refine W.reg [(0, false), (1, false)] (by kernel_rfl) ?_ -- region 4
  intro K hK
  refine x_move rfl rfl rfl rfl ?_
  refine x_not false rfl rfl rfl rfl rfl ?_ -- un2 cache.go:105
  refine Ex.done (hK _ _ ?_)
  refine At.then_n ?_
  refine W.condF rfl ?_ -- co2
  refine W.skip ?_
  refine At.then_n ?_
  refine W.seq ?_
  refine W.sub [(0, _), (4, _), (5, _), (6, _)] ⟨rfl, rfl, rfl, rfl, trivial⟩ ?_
  refine W.reg [(0, false), (1, false), (2, true)] (by kernel_rfl) ?_ -- region 6
  intro K hK
  refine x_move rfl rfl rfl rfl ?_
  refine x_move rfl rfl rfl rfl ?_
  -- call2: (*valise/cache.Cache).use cache.go:108
  refine x_call rfl rfl rfl rfl rfl en29 (use_c (h.new M.frm)) ?_
  rintro v w1 ⟨rfl, hcat, hF⟩
  have hn2 := (Ring.node_at (A := []) hcat.ring).1
  unfold nodeO at hn2
  refine ⟨trivial, ?_⟩
  refine Ex.done (hK _ _ ?_)
  refine At.then_n ?_
  refine W.seq ?_
  refine W.sub [(4, _), (5, _), (6, _)] ⟨rfl, rfl, rfl, trivial⟩ ?_
  refine W.reg [(0, false), (1, false), (2, false), (3, false), (4, false), (5, true), (6, false), (7, false)] (by kernel_rfl) ?_ -- region 7
  intro K hK
  refine x_move rfl rfl rfl rfl ?_
  refine x_nil rfl rfl rfl rfl rfl ?_
  refine x_fa rfl rfl rfl fo70_0 rfl ?_
  refine x_fa rfl rfl rfl fo67_1 rfl ?_
  refine x_ld rfl rfl rfl Try.underlying31 rfl rfl (cell_of hn2 rfl) ?_ -- ld3 cache.go:109
  -- call3: slices.Clone[[]byte,byte] cache.go:109
  refine x_call rfl rfl rfl rfl rfl en28 (clone_o (hcat.bs l (by simp)).in_ (by have := hcat.len l (by simp); omega)) ?_
  rintro v w2 ⟨hv1, hv2, hv3⟩
  refine ⟨trivial, ?_⟩
  refine x_assign rfl rfl rfl rfl ?_
  refine x_assign rfl rfl rfl rfl ?_
  refine Ex.done (hK _ _ ?_)
  refine At.then_n ?_
  refine W.ret ?_
  refine At.ret2 (.tmp 4) (.tmp 5) rfl ⟨rfl, rfl, trivial⟩ ?_ -- ret1
  have hF1 : Frm (InRing e (A ++ l :: B)) w wD1 := Frm.sub M.frm (fun _ h => h.elim)
  have hF2 := hF1.trans' hF
  refine ⟨_, rfl, hv1, fun g hg => Nat.le_trans hF2.size (hv3 g hg), hcat.new hv2, hF2.trans' (Frm.sub hv2 (fun _ h => h.elim))⟩
end Go.Proofs.Ytbbccdcjhoecpaa

namespace Go.Proofs.Ytbbccdcjhoecpaa
open Go Go.Fw Go.RowKit Go.Proofs Go.WideShapes
set_option linter.unusedVariables false
set_option linter.unusedSimpArgs false

/-- A row of bytes of one's own. -/
def Muts (X : List (Nat × Obj)) (p : Option Addr) (n : Nat) : Prop :=
  (n = 0 ∧ X = []) ∨ ∃ (b : Nat) (cs : List Value) (T : TypeId), p = some ⟨b, 0, none⟩ ∧ X = [(b, .cells cs.toArray T (0, 0))] ∧ ∀ i, i < n → ∃ x, cs[i]? = some (.int .u8 x)

section
variable {w0 w w1 : World} {L : List (Nat × Obj)} {c : Nat} {bud : Int} {M N : List Blk} {X : List (Nat × Obj)} {v : Value}

theorem CT.app {b1 : Nat} {o1 : Obj} {v2 : Value} {m n : Nat} {cs : List Value} (h : CT w0 L c bud M (X ++ [(b1, o1)]) w) (hb1 : blkOf v = some b1) (hv2 : OwS w1 v2 m n cs) (hap : ApTo w v v2 w1) :
    ∃ b cap rest T, v2 = .slice (some ⟨b, 0, none⟩) n cap ∧ CT w0 L c bud M (X ++ [(b, .cells (cs ++ rest).toArray T (0, 0))]) w1 := by
  have key : ∀ b, blkOf v2 = some b → ∃ cap rest T, v2 = .slice (some ⟨b, 0, none⟩) n cap ∧ w1.heap[b]? = some (.cells (cs ++ rest).toArray T (0, 0)) := by
    intro b hb
    rcases hv2 with ⟨rfl, _⟩ | ⟨b', cap, rest, T, rfl, h1, _⟩
    · cases hb
    · cases hb; exact ⟨cap, rest, T, rfl, h1⟩
  rcases hap with ⟨b, o, h1, h2, rfl⟩ | ⟨h1, o, rfl⟩
  · rw [hb1] at h1; cases h1
    obtain ⟨cap, rest, T, rfl, h3⟩ := key _ h2
    have M := h.put X.length (b := b1) (o0 := o1) (o := o) (by simp) rfl
    rw [List.set_append_right _ _ (Nat.le_refl _)] at M
    simp only [Nat.sub_self, List.set_cons_zero] at M
    have h4 := M.at_ X.length (b := b1) (o := o) (by simp)
    rw [h3] at h4; cases h4
    exact ⟨b1, cap, rest, T, rfl, M⟩
  · obtain ⟨cap, rest, T, rfl, h3⟩ := key _ h1
    have M := (h.drew rfl).alloc (b := w.heap.size) rfl (o := o) rfl
    have h4 := M.at_ (X.length + 1) (b := w.heap.size) (o := o) (by simp)
    rw [h3] at h4; cases h4
    exact ⟨w.heap.size, cap, rest, T, rfl, M.sub (List.Sublist.append (List.sublist_append_left _ _) (List.Sublist.refl _))⟩

theorem muts_bytes {b : Nat} {T : TypeId} {s : List UInt8} {rest : List Value} : Muts [(b, .cells (s.map byteV ++ rest).toArray T (0, 0))] (some ⟨b, 0, none⟩) s.length :=
  .inr ⟨b, _, T, rfl, rfl, fun i hi => ⟨(s[i].toNat : Int), by rw [List.getElem?_append_left (by simpa using hi)]; simp [hi, byteV]⟩⟩

/-- One byte of it is written. -/
theorem muts_set {cs : List Value} {n i : Nat} {x : Int} (h : ∀ i, i < n → ∃ x, cs[i]? = some (.int .u8 x)) (hi : i < n) : ∀ j, j < n → ∃ y, (cs.take (0 + i * 1) ++ [Value.int .u8 x] ++ cs.drop (0 + i * 1 + 1))[j]? = some (.int .u8 y) := by
  intro j hj
  have hlt : i < cs.length := by obtain ⟨y, hy⟩ := h i hi; exact (List.getElem?_eq_some_iff.1 hy).1
  have e : (cs.take (0 + i * 1) ++ [Value.int .u8 x] ++ cs.drop (0 + i * 1 + 1)) = cs.set i (.int .u8 x) := by
    rw [List.set_eq_take_append_cons_drop, if_pos hlt]
    simp
  rw [e, List.getElem?_set]
  split
  · rename_i e1; subst e1; exact ⟨x, rfl⟩
  · exact h j hj

/-- Bytes that were got. -/
def OwX (X : List (Nat × Obj)) (v : Value) (s : List UInt8) : Prop :=
  (v = .slice none 0 0 ∧ s = [] ∧ X = []) ∨ ∃ b cap rest T, v = .slice (some ⟨b, 0, none⟩) s.length cap ∧ s.length ≤ cap ∧ X = [(b, .cells (s.map byteV ++ rest).toArray T (0, 0))]

theorem OwX.shape {X2 : List (Nat × Obj)} {s : List UInt8} (h : OwX X2 v s) : ∃ p cap, v = .slice p s.length cap ∧ Muts X2 p s.length := by
  rcases h with ⟨rfl, rfl, rfl⟩ | ⟨b, cap, rest, T, rfl, _, rfl⟩
  · exact ⟨none, 0, rfl, .inl ⟨rfl, rfl⟩⟩
  · exact ⟨_, cap, rfl, muts_bytes⟩

theorem OwX.strOf {X2 : List (Nat × Obj)} {s : List UInt8} (h : OwX X2 v s) (M : CT w0 L c bud N (X ++ X2) w) : StrOf w v s := by
  rcases h with ⟨rfl, rfl, rfl⟩ | ⟨b, cap, rest, T, rfl, h1, rfl⟩
  · exact .inl ⟨0, rfl, rfl⟩
  · have hb := M.at_ X.length (b := b) (o := .cells (s.map byteV ++ rest).toArray T (0, 0)) (by simp)
    exact BytesAt.strOf (w := w) (b := s) (.inr ⟨b, 0, cap, _, T, (0, 0), rfl, h1, hb, by simp, by simp⟩)

theorem CT.opGet (h : CT w0 L c bud M X w) (k : Key) : Ret Try.prog 16 #[ptr c, encK k] w fun v w' => ∃ sv s ok X2, v = .tuple #[sv, .bool ok] ∧ CT w0 L c bud (getM M k).1 (X ++ X2) w' ∧ OwX X2 sv s ∧ (getM M k).2 = (if ok then some s else none) ∧ (ok = false → s = []) ∧ s.length ≤ 4096 := by
  have hkeys := h.cs.keys
  obtain ⟨e, r, N, h1, rfl, h3⟩ := h.cs.cm
  have hgt := getM_tot (k := k) hkeys
  rcases split_key N k with hk | ⟨A, l, B, rfl, hk⟩
  · refine (get_none h1 hk).mono ?_
    rintro v w' ⟨rfl, hn⟩
    rw [getM_none hk]
    exact ⟨_, [], false, [], rfl, by simpa using h.new hn, .inl ⟨rfl, rfl, rfl⟩, rfl, fun _ => rfl, by simp⟩
  · refine (get_own h1 hk).mono ?_
    rintro v w' ⟨sv, rfl, g1, g2, g3, g4⟩
    rw [getM_mid h1.keys hk] at hgt ⊢
    have hcs : CS w0 (L ++ X) c bud (absL (l :: (A ++ B))) w' := h.cs.turn h1 h3 (Frm.sub g4 (fun b hb => hb.fp)) g3 (fun x hx => .inl (fp_perm_sub (mid_perm A B l) hx)) h.cs.bd rfl (by rw [hgt.1]; exact h.cs.le) (fun m hm => h.cs.pins m (hgt.2 m hm))
    rcases g1 with ⟨rfl, hn0, hb0⟩ | ⟨b, cap, rest, T, rfl, hb, hl1, hl2⟩
    · exact ⟨_, l.b, true, [], rfl, ⟨by simpa using hcs⟩, .inl ⟨rfl, List.length_eq_zero_iff.1 hn0, rfl⟩, rfl, (fun h => by cases h), h1.len l (by simp)⟩
    · have hg0 := g2 b rfl
      have hcs2 := hcs.own hb (Nat.le_trans h.cs.st.size hg0) (fun hm => by
        obtain ⟨y, hy, e1⟩ := List.mem_map.1 hm
        have := (Array.getElem?_eq_some_iff.1 (h.cs.st.own y hy).1).1
        omega) (fun _ _ _ _ _ _ => ⟨e, r, _, g3, rfl, fun x hx => by
        have h5 := fp_perm_sub (mid_perm A B l) hx
        have := h1.lt x h5
        exact ⟨h3 x h5, by omega⟩⟩)
      refine ⟨_, l.b, true, [(b, _)], rfl, ⟨by rw [← List.append_assoc]; exact hcs2⟩, .inr ⟨b, cap, rest, T, rfl, ?_, rfl⟩, rfl, (fun h => by cases h), h1.len l (by simp)⟩
      simp at hl2
      omega

theorem CT.opKeys (h : CT w0 L c bud M X w) (hlen : M.length ≤ 1000000) : Ret Try.prog 12 #[ptr c] w fun v w' => ∃ p cap X2, v = .slice p M.length cap ∧ CT w0 L c bud M (X ++ X2) w' ∧
    ∀ M' w'', CT w0 L c bud M' (X ++ X2) w'' → ∀ (i : Nat) m, M[i]? = some m → ∃ b, p = some ⟨b, 0, none⟩ ∧ RowAt w'' b (0 + i * 2) [.string m.1.1, .int .i64 m.1.2] := by
  refine (h.cs.opKeys hlen).mono ?_
  rintro v w' ⟨how, _, hc, hbk⟩
  rcases how with ⟨rfl, h2, _⟩ | ⟨b, cap, rest, T, rfl, h2, _, _⟩
  · refine ⟨none, 0, [], by rw [h2], ⟨by simpa using hc⟩, fun M' w'' _ i m hm => ?_⟩
    have := (List.getElem?_eq_some_iff.1 hm).1
    omega
  · refine ⟨_, cap, [_], rfl, ⟨by rw [← List.append_assoc]; exact (hbk b rfl).2 _ h2⟩, fun M' w'' hc' i m hm => ⟨b, rfl, keyM_row (hc'.at_ X.length (b := b) (o := .cells (keyM M ++ rest).toArray T (0, 0)) (by simp)) hm⟩⟩

theorem putM_code (bud : Int) (M : List Blk) (k : Key) (b : List UInt8) : (putM bud M k b).2 = 0 ∨ (putM bud M k b).2 = 2 ∨ (putM bud M k b).2 = 7 := by
  unfold putM; split
  · exact .inr (.inl rfl)
  · split
    · exact .inr (.inr rfl)
    · exact .inl rfl
end
end Go.Proofs.Ytbbccdcjhoecpaa

namespace Go.Proofs.Ytbbccdcjhoecpaa
open Go Go.Fw Go.RowKit Go.Proofs

-- valise/valiselaw17.step
set_option maxRecDepth 100000 in
set_option maxHeartbeats 1000000 in
theorem step_c {w0 w : World} {L : List (Nat × Obj)} {c : Nat} {bud : Int} {N : List Blk} {v : Value} {a : Ac} (M : CS w0 L c bud N w) (hr : RefB L v N) (hb : BytesIn w0 a.sv a.b) (hlen : a.b.length ≤ 5000) (hpn : ∀ m ∈ N, m.2.2 < 1000000000) (hl : N.length ≤ 1000) : Ret Try.prog 18 #[ptr c, refV bud v, .agg a.cells.toArray] w fun r w' => ∃ v' Y, r = .tuple #[refV bud v', .bool true] ∧ CS w0 (L ++ Y) c bud (doM bud N a) w' ∧ ((v' = v ∧ doM bud N a = N) ∨ RefB Y v' (doM bud N a)) := by
  have M := M.ct
  have hkn := M.cs.keys
  obtain ⟨pb, capb, hsv⟩ := hb.shape
  have hb0 := M.cs.bd
  have hpp : ∀ m ∈ N, 0 ≤ m.2.2 ∧ m.2.2 < 1000000000 := fun m hm => ⟨M.cs.pins m hm, hpn m hm⟩
  have hlt0 := M.cs.frm.size
  refine Ret.of_W Try.func18 rfl Try.ntmps18 rfl ?_
  refine W.seq ?_
  refine W.sub [(0, _), (1, _), (2, _)] ⟨rfl, rfl, rfl, trivial⟩ ?_
  refine W.reg [(0, true), (1, true), (2, true), (3, false)] (by kernel_rfl) ?_ -- region 0
  intro K hK
  refine x_box [_, _] rfl rfl rfl rfl rfl ?_ -- bx1 law.go:61
  intro bbx1 wbx1 hbbx1 hwbx1
  have M := M.alloc hbbx1 hwbx1
  refine ⟨trivial, ?_⟩
  refine x_box [_, _, _, _] rfl rfl rfl rfl rfl ?_ -- bx2 law.go:61
  intro bbx2 wbx2 hbbx2 hwbx2
  have M := M.alloc hbbx2 hwbx2
  refine ⟨trivial, ?_⟩
  refine x_alloc [_, _] rfl rfl rfl ze46 rfl ?_ -- al1 law.go:61
  intro bal1 wal1 hbal1 hwal1
  have M := M.alloc hbal1 hwal1
  refine ⟨trivial, ?_⟩
  refine x_assign rfl rfl rfl rfl ?_
  refine Ex.done (hK _ _ ?_)
  refine At.then_n ?_
  refine W.seq ?_
  refine W.seq ?_
  refine W.sub [(0, _), (4, _), (5, _), (6, _)] ⟨rfl, rfl, rfl, rfl, trivial⟩ ?_
  refine W.reg [(0, false), (1, false)] (by kernel_rfl) ?_ -- region 1
  intro K hK
  refine x_fa rfl rfl rfl fo39_0 rfl ?_
  refine x_ld rfl rfl rfl Try.underlying3 rfl rfl (cell_of (by first | exact M.at_ 0 rfl | exact M.at_ 1 rfl | exact M.at_ 2 rfl | exact M.at_ 3 rfl | exact M.at_ 4 rfl | exact M.at_ 5 rfl) rfl) ?_ -- ld1 law.go:62
  refine Ex.done (hK _ _ ?_)
  refine At.then_n ?_
  refine W.block ?_
  refine W.seq ?_
  refine W.sub [(0, _), (4, _), (5, _), (6, _), (27, _)] ⟨rfl, rfl, rfl, rfl, rfl, trivial⟩ ?_
  refine W.reg [(0, false), (1, false)] (by kernel_rfl) ?_ -- region 2
  intro K hK
  refine x_eqi _ rfl rfl rfl rfl rfl rfl ?_ -- eq1 law.go:63
  refine x_assign rfl rfl rfl rfl ?_
  refine Ex.done (hK _ _ ?_)
  refine At.then_n ?_
  refine W.cond rfl (fun hco1 => ?_) (fun hco1 => ?_) -- co1
  · refine W.seq ?_
    refine W.sub [(0, _), (4, _), (5, _), (6, _)] ⟨rfl, rfl, rfl, rfl, trivial⟩ ?_
    refine W.reg [(0, false), (1, false), (2, false), (3, false), (4, false), (5, false), (6, true), (7, false), (8, false), (9, false), (10, true), (11, true), (12, false)] (by kernel_rfl) ?_ -- region 3
    intro K hK
    refine x_ldA [_, _] rfl rfl rfl Try.underlying46 rfl sz46 rfl rfl ⟨_, _, _, (by first | exact M.at_ 0 rfl | exact M.at_ 1 rfl | exact M.at_ 2 rfl | exact M.at_ 3 rfl | exact M.at_ 4 rfl | exact M.at_ 5 rfl), rfl⟩ ?_ -- ld2 law.go:64
    refine x_fa rfl rfl rfl fo39_1 rfl ?_
    refine x_ldA [_, _] rfl rfl rfl Try.underlying29 rfl sz29 rfl rfl ⟨_, _, _, (by first | exact M.at_ 0 rfl | exact M.at_ 1 rfl | exact M.at_ 2 rfl | exact M.at_ 3 rfl | exact M.at_ 4 rfl | exact M.at_ 5 rfl), rfl⟩ ?_ -- ld3 law.go:64
    refine x_fa rfl rfl rfl fo39_2 rfl ?_
    refine x_ld rfl rfl rfl Try.underlying31 rfl rfl (cell_of (by first | exact M.at_ 0 rfl | exact M.at_ 1 rfl | exact M.at_ 2 rfl | exact M.at_ 3 rfl | exact M.at_ 4 rfl | exact M.at_ 5 rfl) rfl) ?_ -- ld4 law.go:64
    refine x_cvbs a.b rfl rfl rfl Try.underlying31 Try.underlying5 Try.underlying9 rfl (hb.new M.frm).strOf ?_ -- cv1 law.go:64
    -- call1: (valise/valiseref17.Cache).Put law.go:64
    refine x_call rfl rfl rfl rfl rfl en33 (rput_c (b := a.b) (hr.at_ M) hl hkn M.cs.bd M.cs.le) ?_
    rintro r w1 ⟨v', rfl, hst⟩
    obtain ⟨Y, M, hy⟩ := M.ref hst
    have hr := hr.step hy
    obtain ⟨p', cap', hv', _⟩ := (hr.at_ M).shape
    refine ⟨trivial, ?_⟩
    refine x_move rfl rfl rfl rfl ?_
    refine x_ext rfl rfl rfl rfl rfl ?_ -- ex1
    refine x_ext rfl rfl rfl rfl rfl ?_ -- ex2
    refine x_alloc [_, _] rfl rfl rfl ze46 rfl ?_ -- al2 law.go:64
    intro bal2 wal2 hbal2 hwal2
    have M := M.alloc hbal2 hwal2
    refine ⟨trivial, ?_⟩
    refine x_st [_, _] _ rfl rfl rfl sz46 rfl rfl rfl (by simp [hv', Value.oneCell']) (by first | exact M.at_ 0 rfl | exact M.at_ 1 rfl | exact M.at_ 2 rfl | exact M.at_ 3 rfl | exact M.at_ 4 rfl | exact M.at_ 5 rfl) rfl rfl rfl ?_ -- st1 law.go:64
    intro wst1 hwst1
    have M := M.put 3 rfl hwst1
    refine ⟨trivial, ?_⟩
    refine x_assign rfl rfl rfl rfl ?_
    refine Ex.done (hK _ _ ?_)
    refine At.then_n ?_
    refine W.seq ?_
    refine W.sub [(0, _), (5, _), (6, _), (8, _), (9, _)] ⟨rfl, rfl, rfl, rfl, rfl, trivial⟩ ?_
    refine W.reg [(0, true), (1, false), (2, false), (3, true), (4, false)] (by kernel_rfl) ?_ -- region 4
    intro K hK
    -- bs1: law.go:65
    refine x_bs0 rfl rfl rfl Try.underlying31 sz5 ?_
    intro b1 w2 hb1 hw2
    have M := M.alloc hb1 hw2
    refine ⟨trivial, ?_⟩
    refine x_fa rfl rfl rfl fo39_2 rfl ?_
    refine x_ld rfl rfl rfl Try.underlying31 rfl rfl (cell_of (by first | exact M.at_ 0 rfl | exact M.at_ 1 rfl | exact M.at_ 2 rfl | exact M.at_ 3 rfl | exact M.at_ 4 rfl | exact M.at_ 5 rfl) rfl) ?_ -- ld5 law.go:65
    -- ap1: law.go:65
    refine x_app (cs := []) rfl rfl rfl rfl Try.underlying31 sz5 ze5 rfl by5 rfl rfl (.inr ⟨b1, 0, [], 5, rfl, M.at_ 4 rfl, rfl, rfl⟩) (by simp) (hb.new M.frm).src (by omega) (by decide) (by omega) ?_
    intro v3 w3 hv3 hap
    have hap : ApTo w2 (.slice (some ⟨b1, 0, none⟩) 0 0) v3 w3 := by
      rcases hap with ⟨h1, _⟩ | h1
      · cases h1
      · exact h1
    rw [Nat.zero_add, List.nil_append] at hv3
    obtain ⟨b3, cap3, rest3, T3, rfl, M⟩ := CT.app (X := [_, _, _, _]) M rfl hv3 hap
    refine ⟨trivial, ?_⟩
    refine x_assign rfl rfl rfl rfl ?_
    refine Ex.done (hK _ _ ?_)
    refine At.then_n ?_
    refine W.seq ?_
    refine W.sub [(0, _), (5, _), (6, _), (8, _), (9, _), (10, _)] ⟨rfl, rfl, rfl, rfl, rfl, rfl, trivial⟩ ?_
    refine W.reg [(0, false), (1, false), (2, false), (3, false), (4, true), (5, false)] (by kernel_rfl) ?_ -- region 5
    intro K hK
    refine x_move rfl rfl rfl rfl ?_
    refine x_fa rfl rfl rfl fo39_1 rfl ?_
    refine x_ldA [_, _] rfl rfl rfl Try.underlying29 rfl sz29 rfl rfl ⟨_, _, _, (by first | exact M.at_ 0 rfl | exact M.at_ 1 rfl | exact M.at_ 2 rfl | exact M.at_ 3 rfl | exact M.at_ 4 rfl | exact M.at_ 5 rfl), rfl⟩ ?_ -- ld6 law.go:66
    refine x_move rfl rfl rfl rfl ?_
    -- call2: (*valise/cache.Cache).Put law.go:66
    refine x_call rfl rfl rfl rfl rfl en10 (M.cs.opPut (k := a.k) (b := a.b) (BytesAt.in_ (w := w3) (sv := .slice (some ⟨b3, 0, none⟩) a.b.length cap3) (.inr ⟨b3, 0, cap3, _, T3, (0, 0), rfl, by
    rcases hv3 with ⟨h1, _⟩ | ⟨_, _, _, _, h1, _, h2, h3⟩
    · cases h1
    · cases h1; simp at h2 h3; omega, M.at_ 4 rfl, by simp, by simp⟩)) (fun _ g hg => .inr (by cases hg; simp)) (by omega)) ?_
    rintro r w4 ⟨rfl, M4⟩
    have M : CT w0 (L ++ Y) c bud _ _ w4 := ⟨M4⟩
    refine ⟨trivial, ?_⟩
    refine x_assign rfl rfl rfl rfl ?_
    refine Ex.done (hK _ _ ?_)
    refine At.then_n ?_
    refine W.seq ?_
    refine W.seq ?_
    refine W.sub [(6, _), (8, _), (9, _), (10, _), (11, _)] ⟨rfl, rfl, rfl, rfl, rfl, trivial⟩ ?_
    refine W.reg [(0, false)] (by kernel_rfl) ?_ -- region 6
    intro K hK
    refine x_assign rfl rfl rfl rfl ?_
    refine Ex.done (hK _ _ ?_)
    refine At.then_n ?_
    refine W.block ?_
    refine W.loop (σ := Nat × List (Nat × Obj)) (fun s => [(6, _), (8, _), (9, _), (10, _), (11, _), (12, .int .i64 ((s.1 : Nat) : Int))]) (fun s w => s.1 ≤ a.b.length ∧ Muts s.2 (some (⟨b3, 0, none⟩ : Addr)) a.b.length ∧ CT w0 (L ++ Y) c bud (putM bud N a.k a.b).1 ([(bbx1, Obj.cells [Value.int .i64 bud, v].toArray 46 (0, 0)), (bbx2, Obj.cells a.cells.toArray 39 (0, 0)), (bal1, Obj.cells [Value.int .i64 0, Value.slice none 0 0].toArray 46 (0, 0)), (bal2, Obj.cells [Value.int .i64 bud, v'].toArray 46 (0, 0))] ++ s.2) w) (fun s => a.b.length - s.1) (0, [(b3, Obj.cells (a.b.map byteV ++ rest3).toArray T3 (0, 0))]) ⟨rfl, rfl, rfl, rfl, rfl, rfl, trivial⟩ ⟨Nat.zero_le _, muts_bytes, M⟩ ?_ -- loop1
    rintro ⟨i, X9⟩ w ⟨hin, hmu, M⟩
    simp only at hin hmu M ⊢
    refine W.seq ?_
    refine W.seq ?_
    refine W.sub [(6, _), (8, _), (9, _), (10, _), (11, _), (12, _)] ⟨rfl, rfl, rfl, rfl, rfl, rfl, trivial⟩ ?_
    refine W.reg [(0, false), (1, false), (2, false), (3, false)] (by kernel_rfl) ?_ -- region 7
    intro K hK
    refine x_move rfl rfl rfl rfl ?_
    refine x_move rfl rfl rfl rfl ?_
    refine x_len rfl rfl rfl rfl Try.underlying31 rfl ?_
    refine x_lss _ rfl rfl rfl rfl rfl rfl ?_ -- cm1 law.go:67
    refine Ex.done (hK _ _ ?_)
    refine At.then_n ?_
    refine W.cond rfl (fun hco2 => ?_) (fun hco2 => ?_) -- co2
    · have hlt : i < a.b.length := by have := of_decide_eq_true hco2; omega
      obtain ⟨b9, cs9, T9, hp9, rfl, hcs9⟩ : ∃ (b : Nat) (cs : List Value) (T : TypeId), (some (⟨b3, 0, none⟩ : Addr)) = some ⟨b, 0, none⟩ ∧ X9 = [(b, .cells cs.toArray T (0, 0))] ∧ ∀ i, i < a.b.length → ∃ x, cs[i]? = some (.int .u8 x) := by
        rcases hmu with ⟨h0, _⟩ | h
        · omega
        · exact h
      cases hp9
      obtain ⟨x9, hx9⟩ := hcs9 i hlt
      have hx9' : cs9[0 + i * 1]? = some (.int .u8 x9) := by simpa using hx9
      have hl9 : i < cs9.length := (List.getElem?_eq_some_iff.1 hx9).1
      refine W.skip ?_
      refine At.then_n ?_
      refine W.seq ?_
      refine W.block ?_
      refine W.sub [(6, _), (8, _), (9, _), (10, _), (11, _), (12, _)] ⟨rfl, rfl, rfl, rfl, rfl, rfl, trivial⟩ ?_
      refine W.reg [(0, false), (1, false), (2, false), (3, false), (4, false), (5, false), (6, false), (7, false), (8, true)] (by kernel_rfl) ?_ -- region 9
      intro K hK
      refine x_move rfl rfl rfl rfl ?_
      refine x_move rfl rfl rfl rfl ?_
      refine x_move rfl rfl rfl rfl ?_
      refine x_move rfl rfl rfl rfl ?_
      refine x_ia i rfl rfl rfl Try.underlying31 sz5 rfl rfl rfl hlt ?_ -- ia1 law.go:68
      refine x_ld rfl rfl rfl Try.underlying5 rfl rfl (cell_of (M.at_ 4 rfl) hx9') ?_ -- ld7 law.go:68
      refine x_add _ rfl rfl rfl rfl rfl rfl ?_ -- ar1 law.go:68
      refine x_ia i rfl rfl rfl Try.underlying31 sz5 rfl rfl rfl hlt ?_ -- ia2 law.go:68
      refine x_st [_] _ rfl rfl rfl sz5 rfl rfl rfl rfl (M.at_ 4 rfl) rfl (by simp; omega) rfl ?_ -- st2 law.go:68
      intro wst2 hwst2
      have M := M.put 4 rfl hwst2
      refine ⟨trivial, ?_⟩
      refine Ex.done (hK _ _ ?_)
      refine At.blk_n ?_
      refine At.then_n ?_
      refine W.sub [(6, _), (8, _), (9, _), (10, _), (11, _), (12, _)] ⟨rfl, rfl, rfl, rfl, rfl, rfl, trivial⟩ ?_
      refine W.reg [(0, false), (1, false), (2, false)] (by kernel_rfl) ?_ -- region 8
      intro K hK
      refine x_move rfl rfl rfl rfl ?_
      refine x_add ((i + 1 : Nat) : Int) rfl rfl rfl rfl rfl (by rw [wrap64_id (by omega) (by omega)]; omega) ?_ -- ar2 law.go:67
      refine x_assign rfl rfl rfl rfl ?_
      refine Ex.done (hK _ _ ?_)
      -- bk1: back to loop1
      exact At.back (i + 1, _) ⟨rfl, rfl, rfl, rfl, rfl, rfl, trivial⟩ ⟨by simp only; omega, .inr ⟨_, _, _, rfl, rfl, muts_set hcs9 hlt⟩, M⟩ (by simp only; omega)
    · refine W.exit ?_
      refine At.then_x ?_
      refine At.loop_x ?_
      refine At.blk_x ?_
      refine At.then_n ?_
      refine W.seq ?_
      refine W.sub [(6, _), (8, _), (9, _), (11, _)] ⟨rfl, rfl, rfl, rfl, trivial⟩ ?_
      refine W.reg [(0, false), (1, false), (2, false), (3, false), (4, true), (5, false)] (by kernel_rfl) ?_ -- region 10
      intro K hK
      refine x_ldA [_, _] rfl rfl rfl Try.underlying46 rfl sz46 rfl rfl ⟨_, _, _, (by first | exact M.at_ 0 rfl | exact M.at_ 1 rfl | exact M.at_ 2 rfl | exact M.at_ 3 rfl | exact M.at_ 4 rfl | exact M.at_ 5 rfl), rfl⟩ ?_ -- ld8 law.go:70
      refine x_move rfl rfl rfl rfl ?_
      refine x_move rfl rfl rfl rfl ?_
      refine x_eqi true rfl rfl rfl rfl rfl (by simp) ?_ -- eq2 law.go:70
      refine x_st [_, _] _ rfl rfl rfl sz46 rfl rfl rfl (by simp [hv', Value.oneCell']) (by first | exact M.at_ 0 rfl | exact M.at_ 1 rfl | exact M.at_ 2 rfl | exact M.at_ 3 rfl | exact M.at_ 4 rfl | exact M.at_ 5 rfl) rfl rfl rfl ?_ -- st3 law.go:70
      intro wst3 hwst3
      have M := M.put 2 rfl hwst3
      refine ⟨trivial, ?_⟩
      refine x_assign rfl rfl rfl rfl ?_
      refine Ex.done (hK _ _ ?_)
      refine At.then_n ?_
      refine W.ret ?_
      refine At.blk_r ?_
      refine At.then_r ?_
      refine At.ret2 (.cell 6 46) (.tmp 7) rfl ⟨⟨_, rfl, run_loadVarA (l := [_, _]) Try.underlying46 rfl sz46 ⟨_, _, _, M.at_ 2 rfl, rfl⟩ (Nat.zero_lt_succ _)⟩, rfl, trivial⟩ ?_ -- ret1
      have e1 : a.kind = 1 := by simpa using hco1
      unfold doM
      rw [if_pos e1]
      exact ⟨v', Y, rfl, M.done, hy⟩
  · refine W.seq ?_
    refine W.sub [(0, _), (4, _), (5, _), (6, _), (27, _)] ⟨rfl, rfl, rfl, rfl, rfl, trivial⟩ ?_
    refine W.reg [(0, false), (1, false)] (by kernel_rfl) ?_ -- region 11
    intro K hK
    refine x_eqi _ rfl rfl rfl rfl rfl rfl ?_ -- eq3 law.go:71
    refine x_assign rfl rfl rfl rfl ?_
    refine Ex.done (hK _ _ ?_)
    refine At.then_n ?_
    refine W.cond rfl (fun hco3 => ?_) (fun hco3 => ?_) -- co3
    · refine W.seq ?_
      refine W.sub [(0, _), (4, _), (5, _), (6, _)] ⟨rfl, rfl, rfl, rfl, trivial⟩ ?_
      refine W.reg [(0, false), (1, false), (2, false), (3, true), (4, false), (5, false), (6, false), (7, true), (8, true), (9, false)] (by kernel_rfl) ?_ -- region 12
      intro K hK
      refine x_ldA [_, _] rfl rfl rfl Try.underlying46 rfl sz46 rfl rfl ⟨_, _, _, (by first | exact M.at_ 0 rfl | exact M.at_ 1 rfl | exact M.at_ 2 rfl | exact M.at_ 3 rfl | exact M.at_ 4 rfl | exact M.at_ 5 rfl), rfl⟩ ?_ -- ld9 law.go:72
      refine x_fa rfl rfl rfl fo39_1 rfl ?_
      refine x_ldA [_, _] rfl rfl rfl Try.underlying29 rfl sz29 rfl rfl ⟨_, _, _, (by first | exact M.at_ 0 rfl | exact M.at_ 1 rfl | exact M.at_ 2 rfl | exact M.at_ 3 rfl | exact M.at_ 4 rfl | exact M.at_ 5 rfl), rfl⟩ ?_ -- ld10 law.go:72
      -- call3: (valise/valiseref17.Cache).Pin law.go:72
      refine x_call rfl rfl rfl rfl rfl en34 (rpin_c (k := a.k) (q := 1) (hr.at_ M) (by omega) hkn hpp (by omega)) ?_
      rintro r w1 ⟨v', rfl, hst⟩
      obtain ⟨Y, M, hy⟩ := M.ref hst
      have hr := hr.step hy
      obtain ⟨p', cap', hv', _⟩ := (hr.at_ M).shape
      refine ⟨trivial, ?_⟩
      refine x_move rfl rfl rfl rfl ?_
      refine x_ext rfl rfl rfl rfl rfl ?_ -- ex3
      refine x_ext rfl rfl rfl rfl rfl ?_ -- ex4
      refine x_alloc [_, _] rfl rfl rfl ze46 rfl ?_ -- al3 law.go:72
      intro bal3 wal3 hbal3 hwal3
      have M := M.alloc hbal3 hwal3
      refine ⟨trivial, ?_⟩
      refine x_st [_, _] _ rfl rfl rfl sz46 rfl rfl rfl (by simp [hv', Value.oneCell']) (by first | exact M.at_ 0 rfl | exact M.at_ 1 rfl | exact M.at_ 2 rfl | exact M.at_ 3 rfl | exact M.at_ 4 rfl | exact M.at_ 5 rfl) rfl rfl rfl ?_ -- st4 law.go:72
      intro wst4 hwst4
      have M := M.put 3 rfl hwst4
      refine ⟨trivial, ?_⟩
      refine x_assign rfl rfl rfl rfl ?_
      refine Ex.done (hK _ _ ?_)
      refine At.then_n ?_
      refine W.seq ?_
      refine W.sub [(0, _), (5, _), (6, _), (13, _), (14, _)] ⟨rfl, rfl, rfl, rfl, rfl, trivial⟩ ?_
      refine W.regD (by kernel_rfl) #[0, 0, 0, 4, 14, 0, 62, 31, 255] [(0, false), (1, false), (2, false), (3, false), (5, false), (4, true), (6, false), (7, true), (8, false)] (by kernel_rfl) ?_ -- region 13
      intro K wD1 hK hwD1
      have M := M.drew hwD1
      refine x_ldA [_, _] rfl rfl rfl Try.underlying46 rfl sz46 rfl rfl ⟨_, _, _, (by first | exact M.at_ 0 rfl | exact M.at_ 1 rfl | exact M.at_ 2 rfl | exact M.at_ 3 rfl | exact M.at_ 4 rfl | exact M.at_ 5 rfl), rfl⟩ ?_ -- ld11 law.go:73
      refine x_move rfl rfl rfl rfl ?_
      refine x_fa rfl rfl rfl fo39_1 rfl ?_
      refine x_ldA [_, _] rfl rfl rfl Try.underlying29 rfl sz29 rfl rfl ⟨_, _, _, (by first | exact M.at_ 0 rfl | exact M.at_ 1 rfl | exact M.at_ 2 rfl | exact M.at_ 3 rfl | exact M.at_ 4 rfl | exact M.at_ 5 rfl), rfl⟩ ?_ -- ld12 law.go:73
      refine x_move rfl rfl rfl rfl ?_
      -- call4: (*valise/cache.Cache).Pin law.go:73
      refine x_call rfl rfl rfl rfl rfl en20 (M.cs.opPin a.k hpn) ?_
      rintro r w2 ⟨rfl, M4⟩
      have M : CT w0 (L ++ Y) c bud _ _ w2 := ⟨M4⟩
      refine ⟨⟨.inl (by kernel_rfl), .inr ⟨_, _, _, (by first | exact M.at_ 0 rfl | exact M.at_ 1 rfl | exact M.at_ 2 rfl | exact M.at_ 3 rfl | exact M.at_ 4 rfl | exact M.at_ 5 rfl), rfl⟩, trivial⟩, ?_⟩
      refine x_eqi true rfl rfl rfl rfl rfl (by simp) ?_ -- eq4 law.go:73
      refine x_st [_, _] _ rfl rfl rfl sz46 rfl rfl rfl (by simp [hv', Value.oneCell']) (by first | exact M.at_ 0 rfl | exact M.at_ 1 rfl | exact M.at_ 2 rfl | exact M.at_ 3 rfl | exact M.at_ 4 rfl | exact M.at_ 5 rfl) rfl rfl rfl ?_ -- st5 law.go:73
      intro wst5 hwst5
      have M := M.put 2 rfl hwst5
      refine ⟨⟨.inl (by kernel_rfl), .inl (by kernel_rfl), trivial⟩, ?_⟩
      refine x_assign rfl rfl rfl rfl ?_
      refine Ex.done (hK _ _ ?_)
      refine At.then_n ?_
      refine W.ret ?_
      refine At.blk_r ?_
      refine At.then_r ?_
      refine At.ret2 (.cell 6 46) (.tmp 7) rfl ⟨⟨_, rfl, run_loadVarA (l := [_, _]) Try.underlying46 rfl sz46 ⟨_, _, _, M.at_ 2 rfl, rfl⟩ (Nat.zero_lt_succ _)⟩, rfl, trivial⟩ ?_ -- ret2
      have e1 : ¬ a.kind = 1 := by simpa using hco1
      have e2 : a.kind = 2 := by simpa using hco3
      unfold doM
      rw [if_neg e1, if_pos e2]
      exact ⟨v', Y, rfl, M.done, hy⟩
    · refine W.seq ?_
      refine W.sub [(0, _), (4, _), (5, _), (6, _), (27, _)] ⟨rfl, rfl, rfl, rfl, rfl, trivial⟩ ?_
      refine W.reg [(0, false), (1, false)] (by kernel_rfl) ?_ -- region 14
      intro K hK
      refine x_eqi _ rfl rfl rfl rfl rfl rfl ?_ -- eq5 law.go:74
      refine x_assign rfl rfl rfl rfl ?_
      refine Ex.done (hK _ _ ?_)
      refine At.then_n ?_
      refine W.cond rfl (fun hco4 => ?_) (fun hco4 => ?_) -- co4
      · refine W.seq ?_
        refine W.sub [(0, _), (4, _), (5, _), (6, _)] ⟨rfl, rfl, rfl, rfl, trivial⟩ ?_
        refine W.reg [(0, false), (1, false), (2, false), (3, true), (4, false), (5, false), (6, false), (7, true), (8, true), (9, false)] (by kernel_rfl) ?_ -- region 15
        intro K hK
        refine x_ldA [_, _] rfl rfl rfl Try.underlying46 rfl sz46 rfl rfl ⟨_, _, _, (by first | exact M.at_ 0 rfl | exact M.at_ 1 rfl | exact M.at_ 2 rfl | exact M.at_ 3 rfl | exact M.at_ 4 rfl | exact M.at_ 5 rfl), rfl⟩ ?_ -- ld13 law.go:75
        refine x_fa rfl rfl rfl fo39_1 rfl ?_
        refine x_ldA [_, _] rfl rfl rfl Try.underlying29 rfl sz29 rfl rfl ⟨_, _, _, (by first | exact M.at_ 0 rfl | exact M.at_ 1 rfl | exact M.at_ 2 rfl | exact M.at_ 3 rfl | exact M.at_ 4 rfl | exact M.at_ 5 rfl), rfl⟩ ?_ -- ld14 law.go:75
        -- call5: (valise/valiseref17.Cache).Pin law.go:75
        refine x_call rfl rfl rfl rfl rfl en34 (rpin_c (k := a.k) (q := -1) (hr.at_ M) (by omega) hkn hpp (by omega)) ?_
        rintro r w1 ⟨v', rfl, hst⟩
        obtain ⟨Y, M, hy⟩ := M.ref hst
        have hr := hr.step hy
        obtain ⟨p', cap', hv', _⟩ := (hr.at_ M).shape
        refine ⟨trivial, ?_⟩
        refine x_move rfl rfl rfl rfl ?_
        refine x_ext rfl rfl rfl rfl rfl ?_ -- ex5
        refine x_ext rfl rfl rfl rfl rfl ?_ -- ex6
        refine x_alloc [_, _] rfl rfl rfl ze46 rfl ?_ -- al4 law.go:75
        intro bal4 wal4 hbal4 hwal4
        have M := M.alloc hbal4 hwal4
        refine ⟨trivial, ?_⟩
        refine x_st [_, _] _ rfl rfl rfl sz46 rfl rfl rfl (by simp [hv', Value.oneCell']) (by first | exact M.at_ 0 rfl | exact M.at_ 1 rfl | exact M.at_ 2 rfl | exact M.at_ 3 rfl | exact M.at_ 4 rfl | exact M.at_ 5 rfl) rfl rfl rfl ?_ -- st6 law.go:75
        intro wst6 hwst6
        have M := M.put 3 rfl hwst6
        refine ⟨trivial, ?_⟩
        refine x_assign rfl rfl rfl rfl ?_
        refine Ex.done (hK _ _ ?_)
        refine At.then_n ?_
        refine W.seq ?_
        refine W.sub [(0, _), (5, _), (6, _), (15, _), (16, _)] ⟨rfl, rfl, rfl, rfl, rfl, trivial⟩ ?_
        refine W.regD (by kernel_rfl) #[0, 0, 0, 4, 14, 0, 62, 31, 255] [(0, false), (1, false), (2, false), (3, false), (5, false), (4, true), (6, false), (7, true), (8, false)] (by kernel_rfl) ?_ -- region 16
        intro K wD2 hK hwD2
        have M := M.drew hwD2
        refine x_ldA [_, _] rfl rfl rfl Try.underlying46 rfl sz46 rfl rfl ⟨_, _, _, (by first | exact M.at_ 0 rfl | exact M.at_ 1 rfl | exact M.at_ 2 rfl | exact M.at_ 3 rfl | exact M.at_ 4 rfl | exact M.at_ 5 rfl), rfl⟩ ?_ -- ld15 law.go:76
        refine x_move rfl rfl rfl rfl ?_
        refine x_fa rfl rfl rfl fo39_1 rfl ?_
        refine x_ldA [_, _] rfl rfl rfl Try.underlying29 rfl sz29 rfl rfl ⟨_, _, _, (by first | exact M.at_ 0 rfl | exact M.at_ 1 rfl | exact M.at_ 2 rfl | exact M.at_ 3 rfl | exact M.at_ 4 rfl | exact M.at_ 5 rfl), rfl⟩ ?_ -- ld16 law.go:76
        refine x_move rfl rfl rfl rfl ?_
        -- call6: (*valise/cache.Cache).Unpin law.go:76
        refine x_call rfl rfl rfl rfl rfl en21 (M.cs.opUnpin a.k hpn) ?_
        rintro r w2 ⟨rfl, M4⟩
        have M : CT w0 (L ++ Y) c bud _ _ w2 := ⟨M4⟩
        refine ⟨⟨.inl (by kernel_rfl), .inr ⟨_, _, _, (by first | exact M.at_ 0 rfl | exact M.at_ 1 rfl | exact M.at_ 2 rfl | exact M.at_ 3 rfl | exact M.at_ 4 rfl | exact M.at_ 5 rfl), rfl⟩, trivial⟩, ?_⟩
        refine x_eqi true rfl rfl rfl rfl rfl (by simp) ?_ -- eq6 law.go:76
        refine x_st [_, _] _ rfl rfl rfl sz46 rfl rfl rfl (by simp [hv', Value.oneCell']) (by first | exact M.at_ 0 rfl | exact M.at_ 1 rfl | exact M.at_ 2 rfl | exact M.at_ 3 rfl | exact M.at_ 4 rfl | exact M.at_ 5 rfl) rfl rfl rfl ?_ -- st7 law.go:76
        intro wst7 hwst7
        have M := M.put 2 rfl hwst7
        refine ⟨⟨.inl (by kernel_rfl), .inl (by kernel_rfl), trivial⟩, ?_⟩
        refine x_assign rfl rfl rfl rfl ?_
        refine Ex.done (hK _ _ ?_)
        refine At.then_n ?_
        refine W.ret ?_
        refine At.blk_r ?_
        refine At.then_r ?_
        refine At.ret2 (.cell 6 46) (.tmp 7) rfl ⟨⟨_, rfl, run_loadVarA (l := [_, _]) Try.underlying46 rfl sz46 ⟨_, _, _, M.at_ 2 rfl, rfl⟩ (Nat.zero_lt_succ _)⟩, rfl, trivial⟩ ?_ -- ret3
        have e1 : ¬ a.kind = 1 := by simpa using hco1
        have e2 : ¬ a.kind = 2 := by simpa using hco3
        have e3 : a.kind = 3 := by simpa using hco4
        unfold doM
        rw [if_neg e1, if_neg e2, if_pos e3]
        exact ⟨v', Y, rfl, M.done, hy⟩
      · refine W.seq ?_
        refine W.sub [(0, _), (4, _), (5, _), (6, _), (27, _)] ⟨rfl, rfl, rfl, rfl, rfl, trivial⟩ ?_
        refine W.reg [(0, false), (1, false)] (by kernel_rfl) ?_ -- region 17
        intro K hK
        refine x_eqi _ rfl rfl rfl rfl rfl rfl ?_ -- eq7 law.go:77
        refine x_assign rfl rfl rfl rfl ?_
        refine Ex.done (hK _ _ ?_)
        refine At.then_n ?_
        refine W.cond rfl (fun hco5 => ?_) (fun hco5 => ?_) -- co5
        · refine W.seq ?_
          refine W.sub [(0, _), (4, _), (5, _), (6, _)] ⟨rfl, rfl, rfl, rfl, trivial⟩ ?_
          refine W.reg [(0, false), (1, false), (2, false), (3, false), (4, true), (5, false), (6, false), (7, false), (8, true), (9, true), (10, false)] (by kernel_rfl) ?_ -- region 18
          intro K hK
          refine x_ldA [_, _] rfl rfl rfl Try.underlying46 rfl sz46 rfl rfl ⟨_, _, _, (by first | exact M.at_ 0 rfl | exact M.at_ 1 rfl | exact M.at_ 2 rfl | exact M.at_ 3 rfl | exact M.at_ 4 rfl | exact M.at_ 5 rfl), rfl⟩ ?_ -- ld17 law.go:78
          refine x_fa rfl rfl rfl fo39_1 rfl ?_
          refine x_fa rfl rfl rfl fo29_0 rfl ?_
          refine x_ld rfl rfl rfl Try.underlying9 rfl rfl (cell_of (by first | exact M.at_ 0 rfl | exact M.at_ 1 rfl | exact M.at_ 2 rfl | exact M.at_ 3 rfl | exact M.at_ 4 rfl | exact M.at_ 5 rfl) rfl) ?_ -- ld18 law.go:78
          -- call7: (valise/valiseref17.Cache).Drop law.go:78
          refine x_call rfl rfl rfl rfl rfl en35 (rdrop_c (f := a.k.1) (hr.at_ M) (by omega)) ?_
          rintro r w1 ⟨v', rfl, h1, h2, h3⟩
          obtain ⟨Y, M, hy⟩ := M.ref (v := v) (N := N) (N' := dropM N a.k.1) ⟨h2, .inr ⟨h1, h3⟩⟩
          have hr := hr.step hy
          obtain ⟨p', cap', hv', _⟩ := (hr.at_ M).shape
          refine ⟨trivial, ?_⟩
          refine x_move rfl rfl rfl rfl ?_
          refine x_ext rfl rfl rfl rfl rfl ?_ -- ex7
          refine x_ext rfl rfl rfl rfl rfl ?_ -- ex8
          refine x_alloc [_, _] rfl rfl rfl ze46 rfl ?_ -- al5 law.go:78
          intro bal5 wal5 hbal5 hwal5
          have M := M.alloc hbal5 hwal5
          refine ⟨trivial, ?_⟩
          refine x_st [_, _] _ rfl rfl rfl sz46 rfl rfl rfl (by simp [hv', Value.oneCell']) (by first | exact M.at_ 0 rfl | exact M.at_ 1 rfl | exact M.at_ 2 rfl | exact M.at_ 3 rfl | exact M.at_ 4 rfl | exact M.at_ 5 rfl) rfl rfl rfl ?_ -- st8 law.go:78
          intro wst8 hwst8
          have M := M.put 3 rfl hwst8
          refine ⟨trivial, ?_⟩
          refine x_assign rfl rfl rfl rfl ?_
          refine Ex.done (hK _ _ ?_)
          refine At.then_n ?_
          refine W.seq ?_
          refine W.sub [(0, _), (5, _), (6, _), (17, _), (18, _)] ⟨rfl, rfl, rfl, rfl, rfl, trivial⟩ ?_
          refine W.regD (by kernel_rfl) #[0, 0, 0, 4, 12, 30, 0, 126, 63, 511] [(0, false), (1, false), (2, false), (3, false), (4, false), (6, false), (5, true), (7, false), (8, true), (9, false)] (by kernel_rfl) ?_ -- region 19
          intro K wD3 hK hwD3
          have M := M.drew hwD3
          refine x_ldA [_, _] rfl rfl rfl Try.underlying46 rfl sz46 rfl rfl ⟨_, _, _, (by first | exact M.at_ 0 rfl | exact M.at_ 1 rfl | exact M.at_ 2 rfl | exact M.at_ 3 rfl | exact M.at_ 4 rfl | exact M.at_ 5 rfl), rfl⟩ ?_ -- ld19 law.go:79
          refine x_move rfl rfl rfl rfl ?_
          refine x_fa rfl rfl rfl fo39_1 rfl ?_
          refine x_fa rfl rfl rfl fo29_0 rfl ?_
          refine x_ld rfl rfl rfl Try.underlying9 rfl rfl (cell_of (by first | exact M.at_ 0 rfl | exact M.at_ 1 rfl | exact M.at_ 2 rfl | exact M.at_ 3 rfl | exact M.at_ 4 rfl | exact M.at_ 5 rfl) rfl) ?_ -- ld20 law.go:79
          refine x_move rfl rfl rfl rfl ?_
          -- call8: (*valise/cache.Cache).Drop law.go:79
          refine x_call rfl rfl rfl rfl rfl en23 (M.cs.opDrop a.k.1 (by omega)) ?_
          rintro r w2 ⟨rfl, M4⟩
          have M : CT w0 (L ++ Y) c bud _ _ w2 := ⟨M4⟩
          refine ⟨⟨.inl (by kernel_rfl), .inr ⟨_, _, _, (by first | exact M.at_ 0 rfl | exact M.at_ 1 rfl | exact M.at_ 2 rfl | exact M.at_ 3 rfl | exact M.at_ 4 rfl | exact M.at_ 5 rfl), rfl⟩, trivial⟩, ?_⟩
          refine x_eqi true rfl rfl rfl rfl rfl (by simp) ?_ -- eq8 law.go:79
          refine x_st [_, _] _ rfl rfl rfl sz46 rfl rfl rfl (by simp [hv', Value.oneCell']) (by first | exact M.at_ 0 rfl | exact M.at_ 1 rfl | exact M.at_ 2 rfl | exact M.at_ 3 rfl | exact M.at_ 4 rfl | exact M.at_ 5 rfl) rfl rfl rfl ?_ -- st9 law.go:79
          intro wst9 hwst9
          have M := M.put 2 rfl hwst9
          refine ⟨⟨.inl (by kernel_rfl), .inl (by kernel_rfl), trivial⟩, ?_⟩
          refine x_assign rfl rfl rfl rfl ?_
          refine Ex.done (hK _ _ ?_)
          refine At.then_n ?_
          refine W.ret ?_
          refine At.blk_r ?_
          refine At.then_r ?_
          refine At.ret2 (.cell 6 46) (.tmp 7) rfl ⟨⟨_, rfl, run_loadVarA (l := [_, _]) Try.underlying46 rfl sz46 ⟨_, _, _, M.at_ 2 rfl, rfl⟩ (Nat.zero_lt_succ _)⟩, rfl, trivial⟩ ?_ -- ret4
          have e1 : ¬ a.kind = 1 := by simpa using hco1
          have e2 : ¬ a.kind = 2 := by simpa using hco3
          have e3 : ¬ a.kind = 3 := by simpa using hco4
          have e4 : a.kind = 4 := by simpa using hco5
          unfold doM
          rw [if_neg e1, if_neg e2, if_neg e3, if_pos e4]
          exact ⟨v', Y, rfl, M.done, hy⟩
        · refine W.skip ?_
          refine At.blk_n ?_
          refine At.then_n ?_
          refine W.seq ?_
          refine W.sub [(0, _), (4, _), (5, _), (6, _)] ⟨rfl, rfl, rfl, rfl, trivial⟩ ?_
          refine W.reg [(0, false), (1, false), (2, false), (3, true), (4, false), (5, false), (6, false), (7, false), (8, true), (9, true), (10, false), (11, false)] (by kernel_rfl) ?_ -- region 20
          intro K hK
          refine x_ldA [_, _] rfl rfl rfl Try.underlying46 rfl sz46 rfl rfl ⟨_, _, _, (by first | exact M.at_ 0 rfl | exact M.at_ 1 rfl | exact M.at_ 2 rfl | exact M.at_ 3 rfl | exact M.at_ 4 rfl | exact M.at_ 5 rfl), rfl⟩ ?_ -- ld21 law.go:81
          refine x_fa rfl rfl rfl fo39_1 rfl ?_
          refine x_ldA [_, _] rfl rfl rfl Try.underlying29 rfl sz29 rfl rfl ⟨_, _, _, (by first | exact M.at_ 0 rfl | exact M.at_ 1 rfl | exact M.at_ 2 rfl | exact M.at_ 3 rfl | exact M.at_ 4 rfl | exact M.at_ 5 rfl), rfl⟩ ?_ -- ld22 law.go:81
          -- call9: (valise/valiseref17.Cache).Get law.go:81
          refine x_call rfl rfl rfl rfl rfl en36 (rget_c (k := a.k) (hr.at_ M) (by omega) hkn) ?_
          rintro r w1 ⟨v', s, ok, rfl, hst, hgs, hok⟩
          obtain ⟨Y, M, hy⟩ := M.ref hst
          have hr := hr.step hy
          obtain ⟨p', cap', hv', _⟩ := (hr.at_ M).shape
          refine ⟨trivial, ?_⟩
          refine x_move rfl rfl rfl rfl ?_
          refine x_ext rfl rfl rfl rfl rfl ?_ -- ex9
          refine x_ext rfl rfl rfl rfl rfl ?_ -- ex10
          refine x_ext rfl rfl rfl rfl rfl ?_ -- ex11
          refine x_alloc [_, _] rfl rfl rfl ze46 rfl ?_ -- al6 law.go:81
          intro bal6 wal6 hbal6 hwal6
          have M := M.alloc hbal6 hwal6
          refine ⟨trivial, ?_⟩
          refine x_st [_, _] _ rfl rfl rfl sz46 rfl rfl rfl (by simp [hv', Value.oneCell']) (by first | exact M.at_ 0 rfl | exact M.at_ 1 rfl | exact M.at_ 2 rfl | exact M.at_ 3 rfl | exact M.at_ 4 rfl | exact M.at_ 5 rfl) rfl rfl rfl ?_ -- st10 law.go:81
          intro wst10 hwst10
          have M := M.put 3 rfl hwst10
          refine ⟨trivial, ?_⟩
          refine x_assign rfl rfl rfl rfl ?_
          refine x_assign rfl rfl rfl rfl ?_
          refine Ex.done (hK _ _ ?_)
          refine At.then_n ?_
          refine W.seq ?_
          refine W.sub [(0, _), (5, _), (6, _), (19, _), (20, _), (21, _)] ⟨rfl, rfl, rfl, rfl, rfl, rfl, trivial⟩ ?_
          refine W.reg [(0, false), (1, false), (2, false), (3, true), (4, false), (5, false), (6, false), (7, false), (8, false)] (by kernel_rfl) ?_ -- region 21
          intro K hK
          refine x_move rfl rfl rfl rfl ?_
          refine x_fa rfl rfl rfl fo39_1 rfl ?_
          refine x_ldA [_, _] rfl rfl rfl Try.underlying29 rfl sz29 rfl rfl ⟨_, _, _, (by first | exact M.at_ 0 rfl | exact M.at_ 1 rfl | exact M.at_ 2 rfl | exact M.at_ 3 rfl | exact M.at_ 4 rfl | exact M.at_ 5 rfl), rfl⟩ ?_ -- ld23 law.go:82
          -- call10: (*valise/cache.Cache).Get law.go:82
          refine x_call rfl rfl rfl rfl rfl en16 (M.opGet a.k) ?_
          rintro r w2 ⟨sv, s2, ok2, X2, rfl, M, hX, hgs2, hok2, hs2l⟩
          obtain ⟨rfl, rfl⟩ : ok2 = ok ∧ s2 = s := by
            rw [hgs] at hgs2
            cases ok <;> cases ok2 <;> simp at hgs2
            · exact ⟨rfl, (hok2 rfl).trans (hok rfl).symm⟩
            · exact ⟨rfl, hgs2.symm⟩
          have hso := hX.strOf M
          obtain ⟨p2, cap2, rfl, hmu⟩ := hX.shape
          refine ⟨trivial, ?_⟩
          refine x_move rfl rfl rfl rfl ?_
          refine x_ext rfl rfl rfl rfl rfl ?_ -- ex12
          refine x_ext rfl rfl rfl rfl rfl ?_ -- ex13
          refine x_assign rfl rfl rfl rfl ?_
          refine x_assign rfl rfl rfl rfl ?_
          refine Ex.done (hK _ _ ?_)
          refine At.then_n ?_
          refine W.seq ?_
          refine W.sub [(6, _), (19, _), (20, _), (21, _), (22, _), (23, _)] ⟨rfl, rfl, rfl, rfl, rfl, rfl, trivial⟩ ?_
          refine W.reg [(0, false), (1, false), (2, false), (3, false), (4, false), (5, false), (6, false), (7, false), (8, false), (9, false)] (by kernel_rfl) ?_ -- region 22
          intro K hK
          refine x_move rfl rfl rfl rfl ?_
          refine x_cvbs s2 rfl rfl rfl Try.underlying31 Try.underlying5 Try.underlying9 rfl hso ?_ -- cv2 law.go:83
          refine x_move rfl rfl rfl rfl ?_
          refine x_eqs true rfl rfl rfl rfl rfl (beq_self_eq_true _) ?_ -- eq9 law.go:83
          refine x_move rfl rfl rfl rfl ?_
          refine x_move rfl rfl rfl rfl ?_
          refine x_move rfl rfl rfl rfl ?_
          refine x_eqb true rfl rfl rfl Try.underlying4 rfl rfl (by simp) ?_ -- eq10 law.go:83
          refine x_pickT rfl rfl rfl rfl rfl ?_
          refine x_assign rfl rfl rfl rfl ?_
          refine Ex.done (hK _ _ ?_)
          refine At.then_n ?_
          refine W.seq ?_
          refine W.seq ?_
          refine W.sub [(6, _), (19, _), (22, _), (24, _)] ⟨rfl, rfl, rfl, rfl, trivial⟩ ?_
          refine W.reg [(0, false)] (by kernel_rfl) ?_ -- region 23
          intro K hK
          refine x_assign rfl rfl rfl rfl ?_
          refine Ex.done (hK _ _ ?_)
          refine At.then_n ?_
          refine W.block ?_
          refine W.loop (σ := Nat × List (Nat × Obj)) (fun s => [(6, _), (19, _), (22, _), (24, _), (25, .int .i64 ((s.1 : Nat) : Int))]) (fun s w => s.1 ≤ s2.length ∧ Muts s.2 p2 s2.length ∧ CT w0 (L ++ Y) c bud (getM N a.k).1 ([(bbx1, Obj.cells [Value.int .i64 bud, v].toArray 46 (0, 0)), (bbx2, Obj.cells a.cells.toArray 39 (0, 0)), (bal1, Obj.cells [Value.int .i64 0, Value.slice none 0 0].toArray 46 (0, 0)), (bal6, Obj.cells [Value.int .i64 bud, v'].toArray 46 (0, 0))] ++ s.2) w) (fun s => s2.length - s.1) (0, X2) ⟨rfl, rfl, rfl, rfl, rfl, trivial⟩ ⟨Nat.zero_le _, hmu, M⟩ ?_ -- loop2
          rintro ⟨i, X9⟩ w ⟨hin, hmu, M⟩
          simp only at hin hmu M ⊢
          refine W.seq ?_
          refine W.seq ?_
          refine W.sub [(6, _), (19, _), (22, _), (24, _), (25, _)] ⟨rfl, rfl, rfl, rfl, rfl, trivial⟩ ?_
          refine W.reg [(0, false), (1, false), (2, false), (3, false)] (by kernel_rfl) ?_ -- region 24
          intro K hK
          refine x_move rfl rfl rfl rfl ?_
          refine x_move rfl rfl rfl rfl ?_
          refine x_len rfl rfl rfl rfl Try.underlying31 rfl ?_
          refine x_lss _ rfl rfl rfl rfl rfl rfl ?_ -- cm2 law.go:84
          refine Ex.done (hK _ _ ?_)
          refine At.then_n ?_
          refine W.cond rfl (fun hco6 => ?_) (fun hco6 => ?_) -- co6
          · have hlt : i < s2.length := by have := of_decide_eq_true hco6; omega
            obtain ⟨b9, cs9, T9, hp9, rfl, hcs9⟩ : ∃ (b : Nat) (cs : List Value) (T : TypeId), p2 = some ⟨b, 0, none⟩ ∧ X9 = [(b, .cells cs.toArray T (0, 0))] ∧ ∀ i, i < s2.length → ∃ x, cs[i]? = some (.int .u8 x) := by
              rcases hmu with ⟨h0, _⟩ | h
              · omega
              · exact h
            cases hp9
            obtain ⟨x9, hx9⟩ := hcs9 i hlt
            have hx9' : cs9[0 + i * 1]? = some (.int .u8 x9) := by simpa using hx9
            have hl9 : i < cs9.length := (List.getElem?_eq_some_iff.1 hx9).1
            refine W.skip ?_
            refine At.then_n ?_
            refine W.seq ?_
            refine W.block ?_
            refine W.sub [(6, _), (19, _), (22, _), (24, _), (25, _)] ⟨rfl, rfl, rfl, rfl, rfl, trivial⟩ ?_
            refine W.reg [(0, false), (1, false), (2, false), (3, false), (4, false), (5, false), (6, false), (7, false), (8, true)] (by kernel_rfl) ?_ -- region 26
            intro K hK
            refine x_move rfl rfl rfl rfl ?_
            refine x_move rfl rfl rfl rfl ?_
            refine x_move rfl rfl rfl rfl ?_
            refine x_move rfl rfl rfl rfl ?_
            refine x_ia i rfl rfl rfl Try.underlying31 sz5 rfl rfl rfl hlt ?_ -- ia3 law.go:85
            refine x_ld rfl rfl rfl Try.underlying5 rfl rfl (cell_of (M.at_ 4 rfl) hx9') ?_ -- ld24 law.go:85
            refine x_add _ rfl rfl rfl rfl rfl rfl ?_ -- ar3 law.go:85
            refine x_ia i rfl rfl rfl Try.underlying31 sz5 rfl rfl rfl hlt ?_ -- ia4 law.go:85
            refine x_st [_] _ rfl rfl rfl sz5 rfl rfl rfl rfl (M.at_ 4 rfl) rfl (by simp; omega) rfl ?_ -- st11 law.go:85
            intro wst11 hwst11
            have M := M.put 4 rfl hwst11
            refine ⟨trivial, ?_⟩
            refine Ex.done (hK _ _ ?_)
            refine At.blk_n ?_
            refine At.then_n ?_
            refine W.sub [(6, _), (19, _), (22, _), (24, _), (25, _)] ⟨rfl, rfl, rfl, rfl, rfl, trivial⟩ ?_
            refine W.reg [(0, false), (1, false), (2, false)] (by kernel_rfl) ?_ -- region 25
            intro K hK
            refine x_move rfl rfl rfl rfl ?_
            refine x_add ((i + 1 : Nat) : Int) rfl rfl rfl rfl rfl (by rw [wrap64_id (by omega) (by omega)]; omega) ?_ -- ar4 law.go:84
            refine x_assign rfl rfl rfl rfl ?_
            refine Ex.done (hK _ _ ?_)
            -- bk2: back to loop2
            exact At.back (i + 1, _) ⟨rfl, rfl, rfl, rfl, rfl, trivial⟩ ⟨by simp only; omega, .inr ⟨_, _, _, rfl, rfl, muts_set hcs9 hlt⟩, M⟩ (by simp only; omega)
          · refine W.exit ?_
            refine At.then_x ?_
            refine At.loop_x ?_
            refine At.blk_x ?_
            refine At.then_n ?_
            refine W.seq ?_
            refine W.sub [(6, _), (19, _), (24, _)] ⟨rfl, rfl, rfl, trivial⟩ ?_
            refine W.reg [(0, false), (1, false), (2, true), (3, false)] (by kernel_rfl) ?_ -- region 27
            intro K hK
            refine x_ldA [_, _] rfl rfl rfl Try.underlying46 rfl sz46 rfl rfl ⟨_, _, _, (by first | exact M.at_ 0 rfl | exact M.at_ 1 rfl | exact M.at_ 2 rfl | exact M.at_ 3 rfl | exact M.at_ 4 rfl | exact M.at_ 5 rfl), rfl⟩ ?_ -- ld25 law.go:87
            refine x_move rfl rfl rfl rfl ?_
            refine x_st [_, _] _ rfl rfl rfl sz46 rfl rfl rfl (by simp [hv', Value.oneCell']) (by first | exact M.at_ 0 rfl | exact M.at_ 1 rfl | exact M.at_ 2 rfl | exact M.at_ 3 rfl | exact M.at_ 4 rfl | exact M.at_ 5 rfl) rfl rfl rfl ?_ -- st12 law.go:87
            intro wst12 hwst12
            have M := M.put 2 rfl hwst12
            refine ⟨trivial, ?_⟩
            refine x_assign rfl rfl rfl rfl ?_
            refine Ex.done (hK _ _ ?_)
            refine At.then_n ?_
            refine W.ret ?_
            refine At.ret2 (.cell 6 46) (.tmp 7) rfl ⟨⟨_, rfl, run_loadVarA (l := [_, _]) Try.underlying46 rfl sz46 ⟨_, _, _, M.at_ 2 rfl, rfl⟩ (Nat.zero_lt_succ _)⟩, rfl, trivial⟩ ?_ -- ret5
            have e1 : ¬ a.kind = 1 := by simpa using hco1
            have e2 : ¬ a.kind = 2 := by simpa using hco3
            have e3 : ¬ a.kind = 3 := by simpa using hco4
            have e4 : ¬ a.kind = 4 := by simpa using hco5
            unfold doM
            rw [if_neg e1, if_neg e2, if_neg e3, if_neg e4]
            exact ⟨v', Y, rfl, M.done, hy⟩
end Go.Proofs.Ytbbccdcjhoecpaa

namespace Go.Proofs.Ytbbccdcjhoecpaa
open Go Go.Fw Go.RowKit Go.Proofs

-- valise/valiselaw17.alike
set_option maxRecDepth 100000 in
theorem alike_c {w0 w : World} {L : List (Nat × Obj)} {c : Nat} {bud : Int} {N : List Blk} {v : Value} (M : CS w0 L c bud N w) (hr : RefB L v N) (hl : N.length ≤ 1000) : Ret Try.prog 19 #[ptr c, refV bud v] w fun r w' => r = .bool true ∧ CS w0 L c bud N w' := by
  have M := M.ct
  obtain ⟨pv, capv, rfl, _⟩ := (hr.at_ M).shape
  have hle := M.cs.le
  have hbd := M.cs.bd
  refine Ret.of_W Try.func19 rfl Try.ntmps19 rfl ?_
  refine W.seq ?_
  refine W.sub [(0, _), (1, _)] ⟨rfl, rfl, trivial⟩ ?_
  refine W.reg [(0, true), (1, false)] (by kernel_rfl) ?_ -- region 0
  intro K hK
  refine x_box [_, _] rfl rfl rfl rfl rfl ?_ -- bx1 law.go:47
  intro bbx1 wbx1 hbbx1 hwbx1
  have M := M.alloc hbbx1 hwbx1
  refine ⟨trivial, ?_⟩
  refine x_assign rfl rfl rfl rfl ?_
  refine Ex.done (hK _ _ ?_)
  refine At.then_n ?_
  refine W.seq ?_
  refine W.sub [(0, _), (3, _)] ⟨rfl, rfl, trivial⟩ ?_
  refine W.reg [(0, false), (1, true), (2, false)] (by kernel_rfl) ?_ -- region 1
  intro K hK
  refine x_move rfl rfl rfl rfl ?_
  -- call1: (*valise/cache.Cache).Keys law.go:48
  refine x_call rfl rfl rfl rfl rfl en12 (M.opKeys (by omega)) ?_
  rintro r w1 ⟨p6, cap6, X6, rfl, M, hrows⟩
  refine ⟨trivial, ?_⟩
  refine x_assign rfl rfl rfl rfl ?_
  refine Ex.done (hK _ _ ?_)
  refine At.then_n ?_
  refine W.seq ?_
  refine W.seq ?_
  refine W.sub [(0, _), (3, _), (5, _)] ⟨rfl, rfl, rfl, trivial⟩ ?_
  refine W.regD (by kernel_rfl) #[0, 1, 0, 4, 12, 31, 63, 127, 255, 127, 1023, 2047, 4095] [(0, false), (1, false), (2, false), (3, false), (4, false), (5, false), (6, false), (7, false), (9, false), (8, true), (10, true), (11, false), (12, false)] (by kernel_rfl) ?_ -- region 2
  intro K wD1 hK hwD1
  have M := M.drew hwD1
  refine x_move rfl rfl rfl rfl ?_
  refine x_len rfl rfl rfl rfl Try.underlying32 rfl ?_
  refine x_fa rfl rfl rfl fo46_1 rfl ?_
  refine x_ld rfl rfl rfl Try.underlying44 rfl rfl (cell_of (by first | exact M.at_ 0 rfl | exact M.at_ 1 rfl | exact M.at_ 2 rfl | exact M.at_ 3 rfl | exact M.at_ 4 rfl | exact M.at_ 5 rfl) rfl) ?_ -- ld1 law.go:49
  refine x_len rfl rfl rfl rfl Try.underlying44 rfl ?_
  refine x_nei false rfl rfl rfl rfl rfl (by simp) ?_ -- eq1 law.go:49
  refine x_move rfl rfl rfl rfl ?_
  refine x_move rfl rfl rfl rfl ?_
  refine x_ldA [_, _] rfl rfl rfl Try.underlying46 rfl sz46 rfl rfl ⟨_, _, _, (by first | exact M.at_ 0 rfl | exact M.at_ 1 rfl | exact M.at_ 2 rfl | exact M.at_ 3 rfl | exact M.at_ 4 rfl | exact M.at_ 5 rfl), rfl⟩ ?_ -- ld2 law.go:49
  -- call2: (*valise/cache.Cache).Size law.go:49
  refine x_call rfl rfl rfl rfl rfl en15 (M.cs.opSize) ?_
  rintro r w2 ⟨rfl, rfl⟩
  refine ⟨⟨.inr ⟨_, _, _, (by first | exact M.at_ 0 rfl | exact M.at_ 1 rfl | exact M.at_ 2 rfl | exact M.at_ 3 rfl | exact M.at_ 4 rfl | exact M.at_ 5 rfl), rfl⟩, .inl (by kernel_rfl), trivial⟩, ?_⟩
  -- call3: (valise/valiseref17.Cache).Size law.go:49
  refine x_call rfl rfl rfl rfl rfl en37 (rsize_c (hr.at_ M) (by omega) (by omega)) ?_
  rintro r w3 ⟨rfl, hn3⟩
  have M := M.new hn3
  refine ⟨⟨.inl (by kernel_rfl), .inl (by kernel_rfl), trivial⟩, ?_⟩
  refine x_nei false rfl rfl rfl rfl rfl (by simp) ?_ -- eq2 law.go:49
  refine x_pickF rfl rfl rfl rfl rfl ?_
  refine Ex.done (hK _ _ ?_)
  refine At.then_n ?_
  refine W.condF rfl ?_ -- co1
  refine W.skip ?_
  refine At.then_n ?_
  refine W.seq ?_
  refine W.seq ?_
  refine W.sub [(0, _), (3, _), (5, _)] ⟨rfl, rfl, rfl, trivial⟩ ?_
  refine W.reg [(0, false)] (by kernel_rfl) ?_ -- region 4
  intro K hK
  refine x_assign rfl rfl rfl rfl ?_
  refine Ex.done (hK _ _ ?_)
  refine At.then_n ?_
  refine W.block ?_
  refine W.loop (σ := Nat) (fun s => [(0, _), (3, _), (5, _), (6, .int .i64 ((s : Nat) : Int))]) (fun s w => s ≤ N.length ∧ CT w0 L c bud N ([(bbx1, Obj.cells [Value.int .i64 bud, Value.slice pv N.length capv].toArray 46 (0, 0))] ++ X6) w) (fun s => N.length - s) 0 ⟨rfl, rfl, rfl, rfl, trivial⟩ ⟨Nat.zero_le _, M⟩ ?_ -- loop1
  rintro s w ⟨hsl, M⟩
  refine W.seq ?_
  refine W.seq ?_
  refine W.sub [(0, _), (3, _), (5, _), (6, _)] ⟨rfl, rfl, rfl, rfl, trivial⟩ ?_
  refine W.reg [(0, false), (1, false), (2, false), (3, false)] (by kernel_rfl) ?_ -- region 5
  intro K hK
  refine x_move rfl rfl rfl rfl ?_
  refine x_move rfl rfl rfl rfl ?_
  refine x_len rfl rfl rfl rfl Try.underlying32 rfl ?_
  refine x_lss _ rfl rfl rfl rfl rfl rfl ?_ -- cm1 law.go:52
  refine Ex.done (hK _ _ ?_)
  refine At.then_n ?_
  refine W.cond rfl (fun hco2 => ?_) (fun hco2 => ?_) -- co2
  · have hlt : s < N.length := by have := of_decide_eq_true hco2; omega
    obtain ⟨m, hm⟩ : ∃ m, N[s]? = some m := ⟨N[s], List.getElem?_eq_getElem hlt⟩
    refine W.skip ?_
    refine At.then_n ?_
    refine W.seq ?_
    refine W.block ?_
    refine W.seq ?_
    refine W.sub [(0, _), (3, _), (5, _), (6, _)] ⟨rfl, rfl, rfl, rfl, trivial⟩ ?_
    refine W.regD (by kernel_rfl) #[0, 0, 3, 7, 0, 16, 0, 112, 240, 496, 1023, 2047, 4095, 4095, 4095, 28671, 61439, 131071, 4095, 266239, 4095, 1839103, 3936255, 8130559, 16777215, 33554431] [(0, false), (1, false), (2, false), (3, false), (4, false), (5, false), (6, false), (7, false), (8, false), (9, false), (10, false), (11, false), (12, false), (13, false), (14, false), (15, false), (16, false), (18, false), (19, false), (20, false), (21, false), (22, false), (23, false), (17, true), (24, false), (25, false)] (by kernel_rfl) ?_ -- region 7
    intro K wD2 hK hwD2
    have M := M.drew hwD2
    have hrow1 := hrows _ _ M s m hm
    obtain ⟨bk, off, rfl, hrow⟩ := (hr.at_ M).row hm
    obtain ⟨b6, rfl, hrow6⟩ := hrow1
    refine x_move rfl rfl rfl rfl ?_
    refine x_move rfl rfl rfl rfl ?_
    refine x_ia s rfl rfl rfl Try.underlying32 sz29 rfl rfl rfl hlt ?_ -- ia1 law.go:53
    refine x_ldA [_, _] rfl rfl rfl Try.underlying29 rfl sz29 rfl rfl hrow6 ?_ -- ld3 law.go:53
    refine x_fa rfl rfl rfl fo46_1 rfl ?_
    refine x_ld rfl rfl rfl Try.underlying44 rfl rfl (cell_of (by first | exact M.at_ 0 rfl | exact M.at_ 1 rfl | exact M.at_ 2 rfl | exact M.at_ 3 rfl | exact M.at_ 4 rfl | exact M.at_ 5 rfl) rfl) ?_ -- ld4 law.go:53
    refine x_move rfl rfl rfl rfl ?_
    refine x_ia s rfl rfl rfl Try.underlying44 sz53 rfl rfl rfl hlt ?_ -- ia2 law.go:53
    refine x_fa rfl rfl rfl fo53_0 rfl ?_
    refine x_ldA [_, _] rfl rfl rfl Try.underlying29 rfl sz29 rfl rfl (row_bkey hrow) ?_ -- ld5 law.go:53
    refine x_bin (v := .bool false) rfl rfl rfl rfl rfl (fun w' => (run_ne_key m.1 m.1 _ _ w').trans (by simp)) ?_ -- eq3 law.go:53
    refine x_move rfl rfl rfl rfl ?_
    refine x_move rfl rfl rfl rfl ?_
    refine x_move rfl rfl rfl rfl ?_
    refine x_move rfl rfl rfl rfl ?_
    refine x_ia s rfl rfl rfl Try.underlying32 sz29 rfl rfl rfl hlt ?_ -- ia3 law.go:53
    refine x_ldA [_, _] rfl rfl rfl Try.underlying29 rfl sz29 rfl rfl hrow6 ?_ -- ld6 law.go:53
    refine x_fa rfl rfl rfl fo46_1 rfl ?_
    refine x_ld rfl rfl rfl Try.underlying44 rfl rfl (cell_of (by first | exact M.at_ 0 rfl | exact M.at_ 1 rfl | exact M.at_ 2 rfl | exact M.at_ 3 rfl | exact M.at_ 4 rfl | exact M.at_ 5 rfl) rfl) ?_ -- ld7 law.go:53
    refine x_move rfl rfl rfl rfl ?_
    refine x_ia s rfl rfl rfl Try.underlying44 sz53 rfl rfl rfl hlt ?_ -- ia4 law.go:53
    refine x_fa rfl rfl rfl fo53_2 rfl ?_
    refine x_ld rfl rfl rfl Try.underlying3 rfl rfl (row_cell (j := 3) hrow rfl) ?_ -- ld8 law.go:53
    -- call4: (*valise/cache.Cache).Pins law.go:53
    refine x_call rfl rfl rfl rfl rfl en22 (M.cs.opPins' (k := m.1) (pins_has M.cs.keys (List.mem_of_getElem? hm))) ?_
    rintro r w4 ⟨rfl, M4⟩
    have M : CT w0 L c bud N ([_] ++ X6) w4 := ⟨M4⟩
    obtain ⟨_, e4, hrow6⟩ := hrows _ _ M s m hm
    cases e4
    obtain ⟨_, _, e5, hrow⟩ := (hr.at_ M).row hm
    cases e5
    refine ⟨⟨.inr (row_cell (j := 3) hrow rfl), .inr (cell_of (by first | exact M.at_ 0 rfl | exact M.at_ 1 rfl | exact M.at_ 2 rfl | exact M.at_ 3 rfl | exact M.at_ 4 rfl | exact M.at_ 5 rfl) rfl), .inl (by kernel_rfl), .inl (by kernel_rfl), .inl (by kernel_rfl), .inl (by kernel_rfl), trivial⟩, ?_⟩
    refine x_nei false rfl rfl rfl rfl rfl (by simp) ?_ -- eq4 law.go:53
    refine x_pickF rfl rfl rfl rfl rfl ?_
    refine Ex.done (hK _ _ ?_)
    refine At.then_n ?_
    refine W.condF rfl ?_ -- co3
    refine W.skip ?_
    refine At.blk_n ?_
    refine At.then_n ?_
    refine W.sub [(0, _), (3, _), (5, _), (6, _)] ⟨rfl, rfl, rfl, rfl, trivial⟩ ?_
    refine W.reg [(0, false), (1, false), (2, false)] (by kernel_rfl) ?_ -- region 6
    intro K hK
    refine x_move rfl rfl rfl rfl ?_
    refine x_add ((s + 1 : Nat) : Int) rfl rfl rfl rfl rfl (by rw [wrap64_id (by omega) (by omega)]; omega) ?_ -- ar1 law.go:52
    refine x_assign rfl rfl rfl rfl ?_
    refine Ex.done (hK _ _ ?_)
    -- bk1: back to loop1
    exact At.back (s + 1) ⟨rfl, rfl, rfl, rfl, trivial⟩ ⟨by omega, M⟩ (by omega)
  · refine W.exit ?_
    refine At.then_x ?_
    refine At.loop_x ?_
    refine At.blk_x ?_
    refine At.then_n ?_
    refine W.seq ?_
    refine W.sub [] trivial ?_
    refine W.reg [(0, false)] (by kernel_rfl) ?_ -- region 9
    intro K hK
    refine x_assign rfl rfl rfl rfl ?_
    refine Ex.done (hK _ _ ?_)
    refine At.then_n ?_
    refine W.ret ?_
    refine At.ret1 (.tmp 4) rfl ⟨rfl, trivial⟩ ?_ -- ret1
    exact ⟨rfl, M.done⟩
end Go.Proofs.Ytbbccdcjhoecpaa

namespace Go.Proofs.Ytbbccdcjhoecpaa
open Go Go.Fw Go.RowKit Go.Proofs

-- valise/valiselaw17.lives
set_option maxRecDepth 100000 in
theorem lives_c {w : World} : Ret Try.prog 8 #[] w fun v w' => v = .bool true ∧ New w w' := by
  have M : St None' w [] w := Frm.refl _ _
  refine Ret.of_W Try.func8 rfl Try.ntmps8 rfl ?_
  refine W.seq ?_
  refine W.sub [] trivial ?_
  refine W.reg [(0, false)] (by kernel_rfl) ?_ -- region 0
  intro K hK
  refine x_assign rfl rfl rfl rfl ?_
  refine Ex.done (hK _ _ ?_)
  refine At.then_n ?_
  refine W.seq ?_
  refine W.sub [(0, _)] ⟨rfl, trivial⟩ ?_
  refine W.reg [(0, true), (1, false), (2, false), (3, false), (4, false), (5, false)] (by kernel_rfl) ?_ -- region 1
  intro K hK
  -- call1: valise/cache.New law.go:22
  refine x_call rfl rfl rfl rfl rfl en9 (opNew M (by decide)) ?_
  rintro v w1 ⟨c, rfl, M⟩
  refine ⟨trivial, ?_⟩
  refine x_move rfl rfl rfl rfl ?_
  refine x_ext rfl rfl rfl rfl rfl ?_ -- ex1
  refine x_ext rfl rfl rfl rfl rfl ?_ -- ex2
  refine x_assign rfl rfl rfl rfl ?_
  refine x_assign rfl rfl rfl rfl ?_
  refine Ex.done (hK _ _ ?_)
  refine At.then_n ?_
  refine W.seq ?_
  refine W.seq ?_
  refine W.sub [(0, _), (1, _), (2, _)] ⟨rfl, rfl, rfl, trivial⟩ ?_
  refine W.regT (by kernel_rfl) #[0, 1, 3, 7, 15, 31, 63, 127, 127, 127, 1023, 2047, 4095, 8191, 16383, 16383, 16383, 131071, 262143, 524287] (.two [(0, false), (1, false), (2, false), (3, false), (4, false), (5, false), (6, false), (7, false)] 8 [(9, true)] 9 [(8, true)] (.two [(10, true), (11, false), (12, false), (13, false), (14, false)] 15 [(16, true)] 16 [(15, true)] (.leaf [(17, true), (18, false), (19, false)]))) (by kernel_rfl) ?_ -- region 2
  intro K wD1 hK hwD1
  have M := M.drew hwD1
  refine ExT.two ?_
  refine x_move rfl rfl rfl rfl ?_
  refine x_eqpn false rfl rfl rfl Try.underlying23 rfl rfl rfl ?_ -- eq1 law.go:23
  refine x_move rfl rfl rfl rfl ?_
  refine x_move rfl rfl rfl rfl ?_
  refine x_nei false rfl rfl rfl rfl rfl rfl ?_ -- eq2 law.go:23
  refine x_pickF rfl rfl rfl rfl rfl ?_
  refine x_move rfl rfl rfl rfl ?_
  refine x_move rfl rfl rfl rfl ?_
  refine Ex.fork ?_
  refine Ex.join (fun F' T' w' => ∃ b, T' = [] ∧ F' = [(0, .bool false), (1, ptr c), (22, .bool false), (23, ptr c), (24, encK (kA 0)), (25, .slice (some ⟨b, 0, none⟩) 4 4)] ∧ CS w [(b, .cells (List.replicate 4 (.int .u8 0)).toArray 5 (0, 0))] c 10 [] w') ?_ ?_ ?_ -- fo1
  · -- call2: valise/valiselaw17.key law.go:23
    refine x_call rfl rfl rfl rfl rfl en11 (key_c) ?_
    rintro v w2 ⟨rfl, hn⟩
    have M := M.new hn
    refine ⟨trivial, ?_⟩
    -- ms1: law.go:23
    refine x_ms 4 4 rfl rfl rfl Try.underlying31 sz5 ze5 rfl by5 rfl rfl (by decide) (by decide) (by decide) ?_
    intro b3 w3 hb3 hw3
    have M := M.alloc hb3 hw3
    refine ⟨trivial, ?_⟩
    refine Ex.forkS [(0, _), (1, _), (22, _), (23, _), (24, _), (25, _)] ⟨rfl, rfl, rfl, rfl, rfl, rfl, trivial⟩ ?_
    exact ⟨b3, rfl, rfl, M⟩
  · -- ms2: law.go:23
    refine x_ms 4 4 rfl rfl rfl Try.underlying31 sz5 ze5 rfl by5 rfl rfl (by decide) (by decide) (by decide) ?_
    intro b3 w3 hb3 hw3
    have M := M.alloc hb3 hw3
    refine ⟨trivial, ?_⟩
    -- call3: valise/valiselaw17.key law.go:23
    refine x_call rfl rfl rfl rfl rfl en11 (key_c) ?_
    rintro v w2 ⟨rfl, hn⟩
    have M := M.new hn
    refine ⟨trivial, ?_⟩
    refine Ex.forkS [(0, _), (1, _), (22, _), (23, _), (24, _), (25, _)] ⟨rfl, rfl, rfl, rfl, rfl, rfl, trivial⟩ ?_
    exact ⟨b3, rfl, rfl, M⟩
  rintro F1 T1 w4 ⟨b4, rfl, rfl, M⟩
  refine ExT.two ?_
  -- call4: (*valise/cache.Cache).Put law.go:23
  refine x_call rfl rfl rfl rfl rfl en10 (M.opPut' lp1 (bytes_made (M.at_ 0 rfl)).in_ (fun _ g hg => .inr (by cases hg; simp)) (by decide)) ?_
  rintro v w5 ⟨rfl, M⟩
  refine ⟨trivial, ?_⟩
  refine x_nei false rfl rfl rfl rfl rfl rfl ?_ -- eq3 law.go:23
  refine x_pickF rfl rfl rfl rfl rfl ?_
  refine x_move rfl rfl rfl rfl ?_
  refine x_move rfl rfl rfl rfl ?_
  refine Ex.fork ?_
  refine Ex.join (fun F' T' w' => ∃ b, T' = [] ∧ F' = [(0, .bool false), (1, ptr c), (29, .bool false), (30, ptr c), (31, encK (kA 1)), (32, .slice (some ⟨b, 0, none⟩) 4 4)] ∧ CS w [(b4, .cells (List.replicate 4 (.int .u8 0)).toArray 5 (0, 0)), (b, .cells (List.replicate 4 (.int .u8 0)).toArray 5 (0, 0))] c 10 [(kA 0, zs 4, 0)] w') ?_ ?_ ?_ -- fo2
  · -- call5: valise/valiselaw17.key law.go:23
    refine x_call rfl rfl rfl rfl rfl en11 (key_c) ?_
    rintro v w2 ⟨rfl, hn⟩
    have M := M.new hn
    refine ⟨trivial, ?_⟩
    -- ms3: law.go:23
    refine x_ms 4 4 rfl rfl rfl Try.underlying31 sz5 ze5 rfl by5 rfl rfl (by decide) (by decide) (by decide) ?_
    intro b3 w3 hb3 hw3
    have M := M.alloc hb3 hw3
    refine ⟨trivial, ?_⟩
    refine Ex.forkS [(0, _), (1, _), (29, _), (30, _), (31, _), (32, _)] ⟨rfl, rfl, rfl, rfl, rfl, rfl, trivial⟩ ?_
    exact ⟨b3, rfl, rfl, M⟩
  · -- ms4: law.go:23
    refine x_ms 4 4 rfl rfl rfl Try.underlying31 sz5 ze5 rfl by5 rfl rfl (by decide) (by decide) (by decide) ?_
    intro b3 w3 hb3 hw3
    have M := M.alloc hb3 hw3
    refine ⟨trivial, ?_⟩
    -- call6: valise/valiselaw17.key law.go:23
    refine x_call rfl rfl rfl rfl rfl en11 (key_c) ?_
    rintro v w2 ⟨rfl, hn⟩
    have M := M.new hn
    refine ⟨trivial, ?_⟩
    refine Ex.forkS [(0, _), (1, _), (29, _), (30, _), (31, _), (32, _)] ⟨rfl, rfl, rfl, rfl, rfl, rfl, trivial⟩ ?_
    exact ⟨b3, rfl, rfl, M⟩
  rintro F1 T1 w6 ⟨b6, rfl, rfl, M⟩
  refine ExT.leaf ?_
  -- call7: (*valise/cache.Cache).Put law.go:23
  refine x_call rfl rfl rfl rfl rfl en10 (M.opPut' lp2 (bytes_made (M.at_ 1 rfl)).in_ (fun _ g hg => .inr (by cases hg; simp)) (by decide)) ?_
  rintro v w7 ⟨rfl, M⟩
  refine ⟨trivial, ?_⟩
  refine x_nei false rfl rfl rfl rfl rfl rfl ?_ -- eq4 law.go:23
  refine x_pickF rfl rfl rfl rfl rfl ?_
  refine Ex.done (hK _ _ ?_)
  refine At.then_n ?_
  refine W.condF rfl ?_ -- co1
  refine W.skip ?_
  refine At.then_n ?_
  refine W.seq ?_
  refine W.sub [(0, _), (1, _)] ⟨rfl, rfl, trivial⟩ ?_
  refine W.reg [(0, false), (1, true), (2, true), (3, false), (4, false), (5, false), (6, false), (7, false)] (by kernel_rfl) ?_ -- region 4
  intro K hK
  refine x_move rfl rfl rfl rfl ?_
  -- call8: valise/valiselaw17.key law.go:26
  refine x_call rfl rfl rfl rfl rfl en11 (key_c) ?_
  rintro v w2 ⟨rfl, hn⟩
  have M := M.new hn
  refine ⟨trivial, ?_⟩
  -- call9: (*valise/cache.Cache).Get law.go:26
  refine x_call rfl rfl rfl rfl rfl en16 (M.opGetS (k := kA 0) lg1) ?_
  rintro v w8 ⟨M, sv, rfl, hsv, _, _⟩
  obtain ⟨p8, cap8, rfl⟩ := hsv.shape
  refine ⟨trivial, ?_⟩
  refine x_move rfl rfl rfl rfl ?_
  refine x_ext rfl rfl rfl rfl rfl ?_ -- ex3
  refine x_ext rfl rfl rfl rfl rfl ?_ -- ex4
  refine x_assign rfl rfl rfl rfl ?_
  refine x_assign rfl rfl rfl rfl ?_
  refine Ex.done (hK _ _ ?_)
  refine At.then_n ?_
  refine W.seq ?_
  refine W.sub [(0, _), (1, _), (3, _), (4, _)] ⟨rfl, rfl, rfl, rfl, trivial⟩ ?_
  refine W.reg [(0, false), (1, false), (2, true), (3, true), (4, false)] (by kernel_rfl) ?_ -- region 5
  intro K hK
  refine x_move rfl rfl rfl rfl ?_
  refine x_build [_, _] rfl rfl rfl pl29 ze29 rfl rfl rfl ?_ -- bu1 law.go:27
  -- ms5: law.go:27
  refine x_ms 4 4 rfl rfl rfl Try.underlying31 sz5 ze5 rfl by5 rfl rfl (by decide) (by decide) (by decide) ?_
  intro b3 w3 hb3 hw3
  have M := M.alloc hb3 hw3
  refine ⟨trivial, ?_⟩
  -- call10: (*valise/cache.Cache).Put law.go:27
  refine x_call rfl rfl rfl rfl rfl en10 (M.opPut' (k := kB) lp3 (bytes_made (M.at_ 2 rfl)).in_ (fun _ g hg => .inr (by cases hg; simp)) (by decide)) ?_
  rintro v w9 ⟨rfl, M⟩
  refine ⟨trivial, ?_⟩
  refine x_assign rfl rfl rfl rfl ?_
  refine Ex.done (hK _ _ ?_)
  refine At.then_n ?_
  refine W.seq ?_
  refine W.sub [(0, _), (1, _), (3, _), (4, _), (5, _)] ⟨rfl, rfl, rfl, rfl, rfl, trivial⟩ ?_
  refine W.reg [(0, false), (1, true), (2, true), (3, false), (4, false), (5, false), (6, false), (7, false)] (by kernel_rfl) ?_ -- region 6
  intro K hK
  refine x_move rfl rfl rfl rfl ?_
  -- call11: valise/valiselaw17.key law.go:28
  refine x_call rfl rfl rfl rfl rfl en11 (key_c) ?_
  rintro v w2 ⟨rfl, hn⟩
  have M := M.new hn
  refine ⟨trivial, ?_⟩
  -- call12: (*valise/cache.Cache).Get law.go:28
  refine x_call rfl rfl rfl rfl rfl en16 (M.opGetN (k := kA 1) lg2) ?_
  rintro v w10 ⟨M, rfl⟩
  refine ⟨trivial, ?_⟩
  refine x_move rfl rfl rfl rfl ?_
  refine x_ext rfl rfl rfl rfl rfl ?_ -- ex5
  refine x_ext rfl rfl rfl rfl rfl ?_ -- ex6
  refine x_assign rfl rfl rfl rfl ?_
  refine x_assign rfl rfl rfl rfl ?_
  refine Ex.done (hK _ _ ?_)
  refine At.then_n ?_
  refine W.seq ?_
  refine W.sub [(0, _), (1, _), (3, _), (4, _), (5, _), (7, _)] ⟨rfl, rfl, rfl, rfl, rfl, rfl, trivial⟩ ?_
  refine W.reg [(0, false), (1, true), (2, false)] (by kernel_rfl) ?_ -- region 7
  intro K hK
  refine x_move rfl rfl rfl rfl ?_
  -- call13: (*valise/cache.Cache).Keys law.go:29
  refine x_call rfl rfl rfl rfl rfl en12 (M.opKeys (by decide)) ?_
  rintro v w11 ⟨how, _, M, hbk⟩
  obtain ⟨b11, cap11, rest11, T11, rfl, hb11, _, _⟩ : ∃ b cap rest T, v = .slice (some ⟨b, 0, none⟩) 2 cap ∧ w11.heap[b]? = some (.cells ([.string kB.1, .int .i64 kB.2, .string (kA 0).1, .int .i64 (kA 0).2] ++ rest).toArray T (0, 0)) ∧ True ∧ True := by
    rcases how with ⟨_, h1, _⟩ | ⟨b, cap, rest, T, h1, h2, _, _⟩
    · cases h1
    · exact ⟨b, cap, rest, T, h1, h2, trivial, trivial⟩
  have M := (hbk b11 rfl).2 _ hb11
  refine ⟨trivial, ?_⟩
  refine x_assign rfl rfl rfl rfl ?_
  refine Ex.done (hK _ _ ?_)
  refine At.then_n ?_
  refine W.seq ?_
  refine W.sub [(0, _), (1, _), (3, _), (4, _), (5, _), (7, _), (8, _)] ⟨rfl, rfl, rfl, rfl, rfl, rfl, rfl, trivial⟩ ?_
  refine W.reg [(0, false), (1, true), (2, true), (3, false)] (by kernel_rfl) ?_ -- region 8
  intro K hK
  refine x_move rfl rfl rfl rfl ?_
  -- call14: valise/valiselaw17.key law.go:30
  refine x_call rfl rfl rfl rfl rfl en11 (key_c) ?_
  rintro v w2 ⟨rfl, hn⟩
  have M := M.new hn
  refine ⟨trivial, ?_⟩
  -- call15: (*valise/cache.Cache).Pin law.go:30
  refine x_call rfl rfl rfl rfl rfl en20 (M.opPin' (k := kA 0) ln1 (by decide)) ?_
  rintro v w12 ⟨rfl, M⟩
  refine ⟨trivial, ?_⟩
  refine x_assign rfl rfl rfl rfl ?_
  refine Ex.done (hK _ _ ?_)
  refine At.then_n ?_
  refine W.seq ?_
  refine W.sub [(0, _), (1, _), (3, _), (4, _), (5, _), (7, _), (8, _), (9, _)] ⟨rfl, rfl, rfl, rfl, rfl, rfl, rfl, rfl, trivial⟩ ?_
  refine W.reg [(0, false), (1, false), (2, true), (3, true), (4, false)] (by kernel_rfl) ?_ -- region 9
  intro K hK
  refine x_move rfl rfl rfl rfl ?_
  refine x_build [_, _] rfl rfl rfl pl29 ze29 rfl rfl rfl ?_ -- bu2 law.go:31
  -- ms6: law.go:31
  refine x_ms 7 7 rfl rfl rfl Try.underlying31 sz5 ze5 rfl by5 rfl rfl (by decide) (by decide) (by decide) ?_
  intro b3 w3 hb3 hw3
  have M := M.alloc hb3 hw3
  refine ⟨trivial, ?_⟩
  -- call16: (*valise/cache.Cache).Put law.go:31
  refine x_call rfl rfl rfl rfl rfl en10 (M.opPut' (k := kC) lp4 (bytes_made (M.at_ 4 rfl)).in_ (fun _ g hg => .inr (by cases hg; simp)) (by decide)) ?_
  rintro v w13 ⟨rfl, M⟩
  refine ⟨trivial, ?_⟩
  refine x_assign rfl rfl rfl rfl ?_
  refine Ex.done (hK _ _ ?_)
  refine At.then_n ?_
  refine W.seq ?_
  refine W.sub [(0, _), (1, _), (3, _), (4, _), (5, _), (7, _), (8, _), (9, _), (10, _)] ⟨rfl, rfl, rfl, rfl, rfl, rfl, rfl, rfl, rfl, trivial⟩ ?_
  refine W.reg [(0, false), (1, false), (2, true), (3, true), (4, false)] (by kernel_rfl) ?_ -- region 10
  intro K hK
  refine x_move rfl rfl rfl rfl ?_
  refine x_build [_, _] rfl rfl rfl pl29 ze29 rfl rfl rfl ?_ -- bu3 law.go:32
  -- ms7: law.go:32
  refine x_ms 6 6 rfl rfl rfl Try.underlying31 sz5 ze5 rfl by5 rfl rfl (by decide) (by decide) (by decide) ?_
  intro b3 w3 hb3 hw3
  have M := M.alloc hb3 hw3
  refine ⟨trivial, ?_⟩
  -- call17: (*valise/cache.Cache).Put law.go:32
  refine x_call rfl rfl rfl rfl rfl en10 (M.opPut' (k := kC) lp5 (bytes_made (M.at_ 5 rfl)).in_ (fun _ g hg => .inr (by cases hg; simp)) (by decide)) ?_
  rintro v w14 ⟨rfl, M⟩
  refine ⟨trivial, ?_⟩
  refine x_assign rfl rfl rfl rfl ?_
  refine Ex.done (hK _ _ ?_)
  refine At.then_n ?_
  refine W.seq ?_
  refine W.sub [(0, _), (1, _), (3, _), (4, _), (5, _), (7, _), (8, _), (9, _), (10, _), (11, _)] ⟨rfl, rfl, rfl, rfl, rfl, rfl, rfl, rfl, rfl, rfl, trivial⟩ ?_
  refine W.regD (by kernel_rfl) #[0, 1, 3, 7, 15, 31, 63, 127, 255, 511, 1023, 2047, 4095, 8191, 16383, 32767, 65535, 131071, 262143, 524287, 1048575, 2097151, 4194303, 1048575, 16777215, 33554431, 67108863, 134217727, 268435455, 536870911, 1073741823, 2147483647, 4294967295, 8589934591, 17179869183, 34359738367, 68719476735, 137438953471, 274877906943, 549755813887, 1099511627775, 2199023255551, 4398046511103, 8796093022207, 17592186044415, 35184372088831, 70368744177663, 140737488355327] [(0, false), (1, false), (2, false), (3, false), (4, false), (5, false), (6, false), (7, false), (8, false), (9, false), (10, false), (11, false), (12, false), (13, false), (14, false), (15, false), (16, false), (17, false), (18, false), (19, false), (20, false), (21, false), (22, false), (23, true), (24, false), (25, false), (26, false), (27, false), (28, false), (29, false), (30, false), (31, false), (32, false), (33, false), (34, false), (35, false), (36, false), (37, false), (38, false), (39, false), (40, true), (41, false), (42, false), (43, false), (44, false), (45, false), (46, false), (47, false)] (by kernel_rfl) ?_ -- region 11
  intro K wD2 hK hwD2
  have M := M.drew hwD2
  refine x_move rfl rfl rfl rfl ?_
  refine x_len rfl rfl rfl rfl Try.underlying31 rfl ?_
  refine x_eqi true rfl rfl rfl rfl rfl rfl ?_ -- eq5 law.go:33
  refine x_move rfl rfl rfl rfl ?_
  refine x_move rfl rfl rfl rfl ?_
  refine x_pickT rfl rfl rfl rfl rfl ?_
  refine x_move rfl rfl rfl rfl ?_
  refine x_move rfl rfl rfl rfl ?_
  refine x_eqi true rfl rfl rfl rfl rfl rfl ?_ -- eq6 law.go:33
  refine x_pickT rfl rfl rfl rfl rfl ?_
  refine x_move rfl rfl rfl rfl ?_
  refine x_move rfl rfl rfl rfl ?_
  refine x_not true rfl rfl rfl rfl rfl ?_ -- un1 law.go:33
  refine x_pickT rfl rfl rfl rfl rfl ?_
  refine x_move rfl rfl rfl rfl ?_
  refine x_move rfl rfl rfl rfl ?_
  refine x_len rfl rfl rfl rfl Try.underlying32 rfl ?_
  refine x_eqi true rfl rfl rfl rfl rfl rfl ?_ -- eq7 law.go:33
  refine x_pickT rfl rfl rfl rfl rfl ?_
  refine x_move rfl rfl rfl rfl ?_
  refine x_move rfl rfl rfl rfl ?_
  refine x_ia 1 rfl rfl rfl Try.underlying32 sz29 rfl rfl rfl (by decide) ?_ -- ia1 law.go:33
  refine x_ldA [_, _] rfl rfl rfl Try.underlying29 rfl sz29 rfl rfl ⟨_, _, _, (by first | exact M.at_ 0 rfl | exact M.at_ 1 rfl | exact M.at_ 2 rfl | exact M.at_ 3 rfl | exact M.at_ 4 rfl | exact M.at_ 5 rfl), rfl⟩ ?_ -- ld1 law.go:33
  -- call18: valise/valiselaw17.key law.go:33
  refine x_call rfl rfl rfl rfl rfl en11 (key_c) ?_
  rintro v w2 ⟨rfl, hn⟩
  have M := M.new hn
  refine ⟨⟨.inr ⟨_, _, _, (by first | exact M.at_ 0 rfl | exact M.at_ 1 rfl | exact M.at_ 2 rfl | exact M.at_ 3 rfl | exact M.at_ 4 rfl | exact M.at_ 5 rfl), rfl⟩, trivial⟩, ?_⟩
  refine x_bin (v := .bool true) rfl rfl rfl rfl rfl (fun w' => (run_eq_key (kA 0) (kA 0) _ _ w').trans (by simp)) ?_ -- eq8 law.go:33
  refine x_pickT rfl rfl rfl rfl rfl ?_
  refine x_move rfl rfl rfl rfl ?_
  refine x_move rfl rfl rfl rfl ?_
  refine x_eqi true rfl rfl rfl rfl rfl rfl ?_ -- eq9 law.go:33
  refine x_pickT rfl rfl rfl rfl rfl ?_
  refine x_move rfl rfl rfl rfl ?_
  refine x_move rfl rfl rfl rfl ?_
  refine x_eqi true rfl rfl rfl rfl rfl rfl ?_ -- eq10 law.go:33
  refine x_pickT rfl rfl rfl rfl rfl ?_
  refine x_move rfl rfl rfl rfl ?_
  refine x_move rfl rfl rfl rfl ?_
  refine x_eqi true rfl rfl rfl rfl rfl rfl ?_ -- eq11 law.go:33
  refine x_pickT rfl rfl rfl rfl rfl ?_
  refine x_move rfl rfl rfl rfl ?_
  refine x_move rfl rfl rfl rfl ?_
  -- call19: (*valise/cache.Cache).Size law.go:33
  refine x_call rfl rfl rfl rfl rfl en15 (M.opSize' ls1) ?_
  rintro v w1 ⟨rfl, rfl⟩
  refine ⟨⟨.inl (by kernel_rfl), trivial⟩, ?_⟩
  refine x_eqi true rfl rfl rfl rfl rfl rfl ?_ -- eq12 law.go:33
  refine x_pickT rfl rfl rfl rfl rfl ?_
  refine x_move rfl rfl rfl rfl ?_
  refine x_pickT rfl rfl rfl rfl rfl ?_
  refine x_move rfl rfl rfl rfl ?_
  refine x_pickT rfl rfl rfl rfl rfl ?_
  refine x_assign rfl rfl rfl rfl ?_
  refine Ex.done (hK _ _ ?_)
  refine At.then_n ?_
  refine W.ret ?_
  refine At.ret1 (.tmp 0) rfl ⟨rfl, trivial⟩ ?_ -- ret1
  exact ⟨rfl, M.frm⟩
end Go.Proofs.Ytbbccdcjhoecpaa

namespace Go.Proofs.Ytbbccdcjhoecpaa
open Go Go.Fw Go.RowKit Go.Proofs

-- valise/valiselaw17.few
set_option maxRecDepth 100000 in
theorem few_c {w0 : World} {v0 : Value} {A : List Ac} (h : ActsIn w0 v0 A) : Ret Try.prog 13 #[v0] w0 fun v w' => v = .bool (decide (fewA A)) ∧ w0 = w' := by
  obtain ⟨p, cap, rfl, hAl, hA⟩ := h
  refine Ret.of_W Try.func13 rfl Try.ntmps13 rfl ?_
  refine W.seq ?_
  refine W.sub [(0, _)] ⟨rfl, trivial⟩ ?_
  refine W.reg [(0, false)] (by kernel_rfl) ?_ -- region 0
  intro K hK
  refine x_assign rfl rfl rfl rfl ?_
  refine Ex.done (hK _ _ ?_)
  refine At.then_n ?_
  refine W.seq ?_
  refine W.seq ?_
  refine W.sub [(0, _)] ⟨rfl, trivial⟩ ?_
  refine W.reg [(0, false)] (by kernel_rfl) ?_ -- region 1
  intro K hK
  refine x_assign rfl rfl rfl rfl ?_
  refine Ex.done (hK _ _ ?_)
  refine At.then_n ?_
  refine W.block ?_
  refine W.loop (σ := Nat) (fun s => [(0, _), (3, .int .i64 ((s : Nat) : Int))]) (fun s w => w = w0 ∧ s ≤ A.length ∧ s ≤ 60 ∧ ∀ i a, i < s → A[i]? = some a → a.b.length ≤ 5000 ∧ a.k.1.size ≤ 100) (fun s => A.length - s) 0 ⟨rfl, rfl, trivial⟩ ⟨rfl, by omega, by omega, fun i a h => by omega⟩ ?_ -- loop1
  rintro s w ⟨rfl, hsl, hs6, hall⟩
  refine W.seq ?_
  refine W.seq ?_
  refine W.sub [(0, _), (3, _)] ⟨rfl, rfl, trivial⟩ ?_
  refine W.reg [(0, false), (1, false), (2, false), (3, false)] (by kernel_rfl) ?_ -- region 2
  intro K hK
  refine x_move rfl rfl rfl rfl ?_
  refine x_move rfl rfl rfl rfl ?_
  refine x_len rfl rfl rfl rfl Try.underlying35 rfl ?_
  refine x_lss _ rfl rfl rfl rfl rfl rfl ?_ -- cm1 law.go:38
  refine Ex.done (hK _ _ ?_)
  refine At.then_n ?_
  refine W.cond rfl (fun hco1 => ?_) (fun hco1 => ?_) -- co1
  · have hlt : s < A.length := by have := of_decide_eq_true hco1; omega
    obtain ⟨a, ha⟩ : ∃ a, A[s]? = some a := ⟨A[s], List.getElem?_eq_getElem hlt⟩
    obtain ⟨b, off, rfl, hbl, hrow, hby⟩ := hA s a ha
    obtain ⟨pb, capb, hsv⟩ := hby.shape
    have ham : a ∈ A := List.mem_of_getElem? ha
    refine W.skip ?_
    refine At.then_n ?_
    refine W.seq ?_
    refine W.block ?_
    refine W.seq ?_
    refine W.sub [(0, _), (3, _)] ⟨rfl, rfl, trivial⟩ ?_
    refine W.reg [(0, false), (1, false), (2, false), (3, false), (4, false), (5, false), (6, false), (7, false), (8, false), (9, false), (10, false), (11, false), (12, false), (13, false), (14, false), (15, false), (16, false), (17, false), (18, false), (19, false), (20, false)] (by kernel_rfl) ?_ -- region 4
    intro K hK
    refine x_move rfl rfl rfl rfl ?_
    refine x_geq _ rfl rfl rfl rfl rfl rfl ?_ -- cm2 law.go:39
    refine x_move rfl rfl rfl rfl ?_
    refine Ex.split 12 rfl (fun hsp1 => ?_) (fun hsp1 => ?_)
    · -- sp1 True
      refine Ex.skip_ rfl rfl rfl ?_
      refine Ex.skip_ rfl rfl rfl ?_
      refine Ex.skip_ rfl rfl rfl ?_
      refine Ex.skip_ rfl rfl rfl ?_
      refine Ex.skip_ rfl rfl rfl ?_
      refine Ex.skip_ rfl rfl rfl ?_
      refine Ex.skip_ rfl rfl rfl ?_
      refine x_pickT rfl rfl rfl rfl rfl ?_
      refine x_move rfl rfl rfl rfl ?_
      refine Ex.skip_ rfl rfl rfl ?_
      refine Ex.skip_ rfl rfl rfl ?_
      refine Ex.skip_ rfl rfl rfl ?_
      refine Ex.skip_ rfl rfl rfl ?_
      refine Ex.skip_ rfl rfl rfl ?_
      refine Ex.skip_ rfl rfl rfl ?_
      refine Ex.skip_ rfl rfl rfl ?_
      refine Ex.skip_ rfl rfl rfl ?_
      refine x_pickT rfl rfl rfl rfl rfl ?_
      refine Ex.done (hK _ _ ?_)
      refine At.then_n ?_
      refine W.condT rfl ?_ -- co2
      refine W.seq ?_
      refine W.sub [] trivial ?_
      refine W.reg [(0, false)] (by kernel_rfl) ?_ -- region 5
      intro K hK
      refine x_assign rfl rfl rfl rfl ?_
      refine Ex.done (hK _ _ ?_)
      refine At.then_n ?_
      refine W.ret ?_
      refine At.blk_r ?_
      refine At.then_r ?_
      refine At.loop_r ?_
      refine At.blk_r ?_
      refine At.then_r ?_
      refine At.ret1 (.tmp 2) rfl ⟨rfl, trivial⟩ ?_ -- ret1
      exact ⟨by have h1 := of_decide_eq_true hsp1; rw [decide_eq_false (fun h => by have := h.1; omega)], rfl⟩
    · -- sp1 False
      refine x_move rfl rfl rfl rfl ?_
      refine x_move rfl rfl rfl rfl ?_
      refine x_ia s rfl rfl rfl Try.underlying35 sz39 rfl rfl rfl hlt ?_ -- ia1 law.go:39
      refine x_fa rfl rfl rfl fo39_2 rfl ?_
      refine x_ld rfl rfl rfl Try.underlying31 rfl rfl (row_cell (j := 3) (u := .slice pb a.b.length capb) hrow (by rw [← hsv]; rfl)) ?_ -- ld1 law.go:39
      refine x_len rfl rfl rfl rfl Try.underlying31 rfl ?_
      refine x_gtr _ rfl rfl rfl rfl rfl rfl ?_ -- cm3 law.go:39
      refine x_pickF rfl rfl rfl rfl rfl ?_
      refine x_move rfl rfl rfl rfl ?_
      refine Ex.split 21 rfl (fun hsp2 => ?_) (fun hsp2 => ?_)
      · -- sp2 True
        refine Ex.skip_ rfl rfl rfl ?_
        refine Ex.skip_ rfl rfl rfl ?_
        refine Ex.skip_ rfl rfl rfl ?_
        refine Ex.skip_ rfl rfl rfl ?_
        refine Ex.skip_ rfl rfl rfl ?_
        refine Ex.skip_ rfl rfl rfl ?_
        refine Ex.skip_ rfl rfl rfl ?_
        refine Ex.skip_ rfl rfl rfl ?_
        refine x_pickT rfl rfl rfl rfl rfl ?_
        refine Ex.done (hK _ _ ?_)
        refine At.then_n ?_
        refine W.condT rfl ?_ -- co3
        refine W.seq ?_
        refine W.sub [] trivial ?_
        refine W.reg [(0, false)] (by kernel_rfl) ?_ -- region 5
        intro K hK
        refine x_assign rfl rfl rfl rfl ?_
        refine Ex.done (hK _ _ ?_)
        refine At.then_n ?_
        refine W.ret ?_
        refine At.blk_r ?_
        refine At.then_r ?_
        refine At.loop_r ?_
        refine At.blk_r ?_
        refine At.then_r ?_
        refine At.ret1 (.tmp 2) rfl ⟨rfl, trivial⟩ ?_ -- ret2
        exact ⟨by have h1 := of_decide_eq_true hsp2; rw [decide_eq_false (fun h => by have := (h.2 a ham).1; omega)], rfl⟩
      · -- sp2 False
        refine x_move rfl rfl rfl rfl ?_
        refine x_move rfl rfl rfl rfl ?_
        refine x_ia s rfl rfl rfl Try.underlying35 sz39 rfl rfl rfl hlt ?_ -- ia2 law.go:39
        refine x_fa rfl rfl rfl fo39_1 rfl ?_
        refine x_fa rfl rfl rfl fo29_0 rfl ?_
        refine x_ld rfl rfl rfl Try.underlying9 rfl rfl (row_cell (j := 1) hrow rfl) ?_ -- ld2 law.go:39
        refine x_lens rfl rfl rfl rfl Try.underlying9 rfl ?_
        refine x_gtr _ rfl rfl rfl rfl rfl rfl ?_ -- cm4 law.go:39
        refine x_pickF rfl rfl rfl rfl rfl ?_
        refine Ex.done (hK _ _ ?_)
        refine At.then_n ?_
        refine W.cond rfl (fun hco4 => ?_) (fun hco4 => ?_) -- co4
        · refine W.seq ?_
          refine W.sub [] trivial ?_
          refine W.reg [(0, false)] (by kernel_rfl) ?_ -- region 5
          intro K hK
          refine x_assign rfl rfl rfl rfl ?_
          refine Ex.done (hK _ _ ?_)
          refine At.then_n ?_
          refine W.ret ?_
          refine At.blk_r ?_
          refine At.then_r ?_
          refine At.loop_r ?_
          refine At.blk_r ?_
          refine At.then_r ?_
          refine At.ret1 (.tmp 2) rfl ⟨rfl, trivial⟩ ?_ -- ret3
          exact ⟨by have h1 := of_decide_eq_true hco4; rw [decide_eq_false (fun h => by have := (h.2 a ham).2; omega)], rfl⟩
        · refine W.skip ?_
          refine At.blk_n ?_
          refine At.then_n ?_
          refine W.sub [(0, _), (3, _)] ⟨rfl, rfl, trivial⟩ ?_
          refine W.reg [(0, false), (1, false), (2, false)] (by kernel_rfl) ?_ -- region 3
          intro K hK
          refine x_move rfl rfl rfl rfl ?_
          refine x_add ((s + 1 : Nat) : Int) rfl rfl rfl rfl rfl (by rw [wrap64_id (by omega) (by omega)]; omega) ?_ -- ar1 law.go:38
          refine x_assign rfl rfl rfl rfl ?_
          refine Ex.done (hK _ _ ?_)
          -- bk1: back to loop1
          refine At.back (s + 1) ⟨rfl, rfl, trivial⟩ ⟨rfl, by omega, by have := of_decide_eq_false hsp1; omega, fun i a' hi ha' => ?_⟩ (by omega)
          rcases Nat.lt_or_ge i s with h1 | h1
          · exact hall i a' h1 ha'
          · have : i = s := by omega
            subst this
            rw [ha] at ha'; cases ha'
            have h2 := of_decide_eq_false hsp2
            have h3 := of_decide_eq_false hco4
            exact ⟨by omega, by omega⟩
  · refine W.exit ?_
    refine At.then_x ?_
    refine At.loop_x ?_
    refine At.blk_x ?_
    refine At.then_n ?_
    refine W.seq ?_
    refine W.sub [] trivial ?_
    refine W.reg [(0, false)] (by kernel_rfl) ?_ -- region 6
    intro K hK
    refine x_assign rfl rfl rfl rfl ?_
    refine Ex.done (hK _ _ ?_)
    refine At.then_n ?_
    refine W.ret ?_
    refine At.ret1 (.tmp 2) rfl ⟨rfl, trivial⟩ ?_ -- ret4
    have hs : s = A.length := by have := of_decide_eq_false hco1; omega
    refine ⟨?_, rfl⟩
    rw [decide_eq_true]
    exact ⟨by omega, fun a ha => by obtain ⟨i, hi⟩ := List.mem_iff_getElem?.1 ha; exact hall i a (by rw [hs]; exact (List.getElem?_eq_some_iff.1 hi).1) hi⟩

-- valise/valiselaw17.do
set_option maxRecDepth 100000 in
theorem do_c {w0 w : World} {L : List (Nat × Obj)} {c : Nat} {bud : Int} {M0 : List Blk} {a : Ac} (M : CS w0 L c bud M0 w) (hb : BytesIn w0 a.sv a.b) (hlen : a.b.length ≤ 1099511627776) (hpn : ∀ m ∈ M0, m.2.2 < 1000000000) (hml : M0.length ≤ 1000000) : Ret Try.prog 14 #[ptr c, .agg a.cells.toArray] w fun v w' => v = .tuple #[] ∧ CS w0 L c bud (doM bud M0 a) w' := by
  unfold doM
  obtain ⟨pb, capb, hsv⟩ := hb.shape
  refine Ret.of_W Try.func14 rfl Try.ntmps14 rfl ?_
  refine W.seq ?_
  refine W.sub [(0, _), (1, _)] ⟨rfl, rfl, trivial⟩ ?_
  refine W.reg [(0, true)] (by kernel_rfl) ?_ -- region 0
  intro K hK
  refine x_box [_, _, _, _] rfl rfl rfl rfl rfl ?_ -- bx1 outright.go:9
  intro bbx1 wbx1 hbbx1 hwbx1
  have M := M.alloc hbbx1 hwbx1
  refine ⟨trivial, ?_⟩
  refine Ex.done (hK _ _ ?_)
  refine At.then_n ?_
  refine W.seq ?_
  refine W.sub [(0, _), (3, _)] ⟨rfl, rfl, trivial⟩ ?_
  refine W.reg [(0, false), (1, false)] (by kernel_rfl) ?_ -- region 1
  intro K hK
  refine x_fa rfl rfl rfl fo39_0 rfl ?_
  refine x_ld rfl rfl rfl Try.underlying3 rfl rfl (cell_of M.last rfl) ?_ -- ld1 outright.go:10
  refine Ex.done (hK _ _ ?_)
  refine At.then_n ?_
  refine W.block ?_
  refine W.seq ?_
  refine W.sub [(0, _), (3, _), (5, _)] ⟨rfl, rfl, rfl, trivial⟩ ?_
  refine W.reg [(0, false), (1, false)] (by kernel_rfl) ?_ -- region 3
  intro K hK
  refine x_eqi _ rfl rfl rfl rfl rfl rfl ?_ -- eq1 outright.go:11
  refine x_assign rfl rfl rfl rfl ?_
  refine Ex.done (hK _ _ ?_)
  refine At.then_n ?_
  refine W.cond rfl (fun hco1 => ?_) (fun hco1 => ?_) -- co1
  · refine W.sub [(0, _), (3, _)] ⟨rfl, rfl, trivial⟩ ?_
    refine W.reg [(0, false), (1, false), (2, false), (3, false), (4, false), (5, true)] (by kernel_rfl) ?_ -- region 4
    intro K hK
    refine x_move rfl rfl rfl rfl ?_
    refine x_fa rfl rfl rfl fo39_1 rfl ?_
    refine x_ldA [_, _] rfl rfl rfl Try.underlying29 rfl sz29 rfl rfl ⟨_, _, _, M.last, rfl⟩ ?_ -- ld2 outright.go:12
    refine x_fa rfl rfl rfl fo39_2 rfl ?_
    refine x_ld rfl rfl rfl Try.underlying31 rfl rfl (cell_of M.last rfl) ?_ -- ld3 outright.go:12
    -- call1: (*valise/cache.Cache).Put outright.go:12
    refine x_call rfl rfl rfl rfl rfl en10 (M.opPut (k := a.k) (hb.new M.frm) (fun hne g hg => .inl (hb.lt hne hg)) hlen) ?_
    rintro v w1 ⟨_, M⟩
    refine ⟨trivial, ?_⟩
    refine Ex.done (hK _ _ ?_)
    refine At.blk_n ?_
    refine At.fall ?_
    refine At.ret0 rfl ?_ -- ret1
    have e1 : a.kind = 1 := by simpa using hco1
    refine ⟨rfl, ?_⟩
    rw [if_pos e1]
    exact M.init
  · refine W.seq ?_
    refine W.sub [(0, _), (3, _), (5, _)] ⟨rfl, rfl, rfl, trivial⟩ ?_
    refine W.reg [(0, false), (1, false)] (by kernel_rfl) ?_ -- region 5
    intro K hK
    refine x_eqi _ rfl rfl rfl rfl rfl rfl ?_ -- eq2 outright.go:13
    refine x_assign rfl rfl rfl rfl ?_
    refine Ex.done (hK _ _ ?_)
    refine At.then_n ?_
    refine W.cond rfl (fun hco2 => ?_) (fun hco2 => ?_) -- co2
    · refine W.sub [(0, _), (3, _)] ⟨rfl, rfl, trivial⟩ ?_
      refine W.reg [(0, false), (1, false), (2, false), (3, true)] (by kernel_rfl) ?_ -- region 6
      intro K hK
      refine x_move rfl rfl rfl rfl ?_
      refine x_fa rfl rfl rfl fo39_1 rfl ?_
      refine x_ldA [_, _] rfl rfl rfl Try.underlying29 rfl sz29 rfl rfl ⟨_, _, _, M.last, rfl⟩ ?_ -- ld4 outright.go:14
      -- call2: (*valise/cache.Cache).Pin outright.go:14
      refine x_call rfl rfl rfl rfl rfl en20 (M.opPin a.k hpn) ?_
      rintro v w1 ⟨_, M⟩
      refine ⟨trivial, ?_⟩
      refine Ex.done (hK _ _ ?_)
      refine At.blk_n ?_
      refine At.fall ?_
      refine At.ret0 rfl ?_ -- ret2
      have e1 : ¬ a.kind = 1 := by simpa using hco1
      have e2 : a.kind = 2 := by simpa using hco2
      refine ⟨rfl, ?_⟩
      rw [if_neg e1, if_pos e2]
      exact M.init
    · refine W.seq ?_
      refine W.sub [(0, _), (3, _), (5, _)] ⟨rfl, rfl, rfl, trivial⟩ ?_
      refine W.reg [(0, false), (1, false)] (by kernel_rfl) ?_ -- region 7
      intro K hK
      refine x_eqi _ rfl rfl rfl rfl rfl rfl ?_ -- eq3 outright.go:15
      refine x_assign rfl rfl rfl rfl ?_
      refine Ex.done (hK _ _ ?_)
      refine At.then_n ?_
      refine W.cond rfl (fun hco3 => ?_) (fun hco3 => ?_) -- co3
      · refine W.sub [(0, _), (3, _)] ⟨rfl, rfl, trivial⟩ ?_
        refine W.reg [(0, false), (1, false), (2, false), (3, true)] (by kernel_rfl) ?_ -- region 8
        intro K hK
        refine x_move rfl rfl rfl rfl ?_
        refine x_fa rfl rfl rfl fo39_1 rfl ?_
        refine x_ldA [_, _] rfl rfl rfl Try.underlying29 rfl sz29 rfl rfl ⟨_, _, _, M.last, rfl⟩ ?_ -- ld5 outright.go:16
        -- call3: (*valise/cache.Cache).Unpin outright.go:16
        refine x_call rfl rfl rfl rfl rfl en21 (M.opUnpin a.k hpn) ?_
        rintro v w1 ⟨_, M⟩
        refine ⟨trivial, ?_⟩
        refine Ex.done (hK _ _ ?_)
        refine At.blk_n ?_
        refine At.fall ?_
        refine At.ret0 rfl ?_ -- ret3
        have e1 : ¬ a.kind = 1 := by simpa using hco1
        have e2 : ¬ a.kind = 2 := by simpa using hco2
        have e3 : a.kind = 3 := by simpa using hco3
        refine ⟨rfl, ?_⟩
        rw [if_neg e1, if_neg e2, if_pos e3]
        exact M.init
      · refine W.seq ?_
        refine W.sub [(0, _), (3, _), (5, _)] ⟨rfl, rfl, rfl, trivial⟩ ?_
        refine W.reg [(0, false), (1, false)] (by kernel_rfl) ?_ -- region 9
        intro K hK
        refine x_eqi _ rfl rfl rfl rfl rfl rfl ?_ -- eq4 outright.go:17
        refine x_assign rfl rfl rfl rfl ?_
        refine Ex.done (hK _ _ ?_)
        refine At.then_n ?_
        refine W.cond rfl (fun hco4 => ?_) (fun hco4 => ?_) -- co4
        · refine W.sub [(0, _), (3, _)] ⟨rfl, rfl, trivial⟩ ?_
          refine W.reg [(0, false), (1, false), (2, false), (3, false), (4, true)] (by kernel_rfl) ?_ -- region 10
          intro K hK
          refine x_move rfl rfl rfl rfl ?_
          refine x_fa rfl rfl rfl fo39_1 rfl ?_
          refine x_fa rfl rfl rfl fo29_0 rfl ?_
          refine x_ld rfl rfl rfl Try.underlying9 rfl rfl (cell_of M.last rfl) ?_ -- ld6 outright.go:18
          -- call4: (*valise/cache.Cache).Drop outright.go:18
          refine x_call rfl rfl rfl rfl rfl en23 (M.opDrop a.k.1 hml) ?_
          rintro v w1 ⟨_, M⟩
          refine ⟨trivial, ?_⟩
          refine Ex.done (hK _ _ ?_)
          refine At.blk_n ?_
          refine At.fall ?_
          refine At.ret0 rfl ?_ -- ret4
          have e1 : ¬ a.kind = 1 := by simpa using hco1
          have e2 : ¬ a.kind = 2 := by simpa using hco2
          have e3 : ¬ a.kind = 3 := by simpa using hco3
          have e4 : a.kind = 4 := by simpa using hco4
          refine ⟨rfl, ?_⟩
          rw [if_neg e1, if_neg e2, if_neg e3, if_pos e4]
          exact M.init
        · refine W.sub [(0, _), (3, _)] ⟨rfl, rfl, trivial⟩ ?_
          refine W.reg [(0, false), (1, false), (2, false), (3, true)] (by kernel_rfl) ?_ -- region 2
          intro K hK
          refine x_move rfl rfl rfl rfl ?_
          refine x_fa rfl rfl rfl fo39_1 rfl ?_
          refine x_ldA [_, _] rfl rfl rfl Try.underlying29 rfl sz29 rfl rfl ⟨_, _, _, M.last, rfl⟩ ?_ -- ld7 outright.go:20
          -- call5: (*valise/cache.Cache).Get outright.go:20
          refine x_call rfl rfl rfl rfl rfl en16 (M.opGet a.k) ?_
          rintro v w1 ⟨M, _⟩
          refine ⟨trivial, ?_⟩
          refine Ex.done (hK _ _ ?_)
          refine At.blk_n ?_
          refine At.fall ?_
          refine At.ret0 rfl ?_ -- ret5
          have e1 : ¬ a.kind = 1 := by simpa using hco1
          have e2 : ¬ a.kind = 2 := by simpa using hco2
          have e3 : ¬ a.kind = 3 := by simpa using hco3
          have e4 : ¬ a.kind = 4 := by simpa using hco4
          refine ⟨rfl, ?_⟩
          rw [if_neg e1, if_neg e2, if_neg e3, if_neg e4]
          exact M.init
end Go.Proofs.Ytbbccdcjhoecpaa

namespace Go.Proofs.Ytbbccdcjhoecpaa
open Go Go.Fw Go.RowKit Go.Proofs

-- valise/valiselaw17.CachePlays
set_option maxRecDepth 100000 in
theorem plays_bad {w0 : World} {bud : Int} {v0 : Value} {A : List Ac} (hA : ActsIn w0 v0 A) (h : bud < 0 ∨ 1048576 < bud) : Ret Try.prog 5 #[.int .i64 bud, v0] w0 fun v w' => v = .bool true ∧ New w0 w' := by
  have M : St None' w0 [] w0 := Frm.refl _ _
  have hA0 := hA
  obtain ⟨p, cap, rfl, hAl, hA⟩ := hA
  refine Ret.of_W Try.func5 rfl Try.ntmps5 rfl ?_
  refine W.seq ?_
  refine W.sub [(0, _), (1, _)] ⟨rfl, rfl, trivial⟩ ?_
  refine W.reg [(0, false)] (by kernel_rfl) ?_ -- region 0
  intro K hK
  refine x_assign rfl rfl rfl rfl ?_
  refine Ex.done (hK _ _ ?_)
  refine At.then_n ?_
  refine W.seq ?_
  refine W.sub [(0, _), (1, _)] ⟨rfl, rfl, trivial⟩ ?_
  refine W.reg [(0, false), (1, true), (2, false), (3, false), (4, false), (5, false), (6, false)] (by kernel_rfl) ?_ -- region 1
  intro K hK
  refine x_move rfl rfl rfl rfl ?_
  -- call1: valise/cache.New law.go:92
  refine x_call rfl rfl rfl rfl rfl en9 (new_no h) ?_
  rintro v w1 ⟨rfl, rfl⟩
  refine ⟨trivial, ?_⟩
  refine x_move rfl rfl rfl rfl ?_
  refine x_ext rfl rfl rfl rfl rfl ?_ -- ex1
  refine x_ext rfl rfl rfl rfl rfl ?_ -- ex2
  refine x_assign rfl rfl rfl rfl ?_
  refine x_assign rfl rfl rfl rfl ?_
  refine Ex.done (hK _ _ ?_)
  refine At.then_n ?_
  refine W.seq ?_
  refine W.sub [(0, _), (1, _), (5, _), (6, _)] ⟨rfl, rfl, rfl, rfl, trivial⟩ ?_
  refine W.reg [(0, false), (1, true), (2, false), (3, false), (4, false), (5, true), (6, true), (7, false)] (by kernel_rfl) ?_ -- region 2
  intro K hK
  refine x_move rfl rfl rfl rfl ?_
  -- call2: valise/valiseref17.New law.go:93
  refine x_call rfl rfl rfl rfl rfl en17 (rnew_no h) ?_
  rintro v w2 ⟨rfl, hn⟩
  have M := M.new hn
  refine ⟨trivial, ?_⟩
  refine x_move rfl rfl rfl rfl ?_
  refine x_ext rfl rfl rfl rfl rfl ?_ -- ex3
  refine x_ext rfl rfl rfl rfl rfl ?_ -- ex4
  refine x_alloc [_, _] rfl rfl rfl ze46 rfl ?_ -- al1 law.go:93
  intro bal1 wal1 hbal1 hwal1
  have M := M.alloc hbal1 hwal1
  refine ⟨trivial, ?_⟩
  refine x_st [_, _] _ rfl rfl rfl sz46 rfl rfl rfl rfl (by first | exact M.at_ 0 rfl | exact M.at_ 1 rfl | exact M.at_ 2 rfl | exact M.at_ 3 rfl | exact M.at_ 4 rfl | exact M.at_ 5 rfl) rfl rfl rfl ?_ -- st1 law.go:93
  intro wst1 hwst1
  have M := M.put 0 rfl hwst1
  refine ⟨trivial, ?_⟩
  refine x_assign rfl rfl rfl rfl ?_
  refine Ex.done (hK _ _ ?_)
  refine At.then_n ?_
  refine W.seq ?_
  refine W.seq ?_
  refine W.sub [(1, _), (5, _), (6, _), (7, _), (8, _)] ⟨rfl, rfl, rfl, rfl, rfl, trivial⟩ ?_
  refine W.reg [(0, false), (1, false)] (by kernel_rfl) ?_ -- region 3
  intro K hK
  refine x_move rfl rfl rfl rfl ?_
  refine x_nei true rfl rfl rfl rfl rfl rfl ?_ -- eq1 law.go:94
  refine Ex.done (hK _ _ ?_)
  refine At.then_n ?_
  refine W.condT rfl ?_ -- co1
  refine W.seq ?_
  refine W.sub [(5, _), (6, _), (8, _)] ⟨rfl, rfl, rfl, trivial⟩ ?_
  refine W.reg [(0, false), (1, false), (2, false), (3, false), (4, false), (5, false), (6, false), (7, false), (8, true), (9, false), (10, false)] (by kernel_rfl) ?_ -- region 4
  intro K hK
  refine x_move rfl rfl rfl rfl ?_
  refine x_eqpn true rfl rfl rfl Try.underlying23 rfl rfl rfl ?_ -- eq2 law.go:95
  refine x_move rfl rfl rfl rfl ?_
  refine x_move rfl rfl rfl rfl ?_
  refine x_move rfl rfl rfl rfl ?_
  refine x_eqi true rfl rfl rfl rfl rfl rfl ?_ -- eq3 law.go:95
  refine x_pickT rfl rfl rfl rfl rfl ?_
  refine x_move rfl rfl rfl rfl ?_
  -- call3: valise/valiselaw17.lives law.go:95
  refine x_call rfl rfl rfl rfl rfl en8 (lives_c) ?_
  rintro v w9 ⟨rfl, hn⟩
  have M := M.new hn
  refine ⟨trivial, ?_⟩
  refine x_pickT rfl rfl rfl rfl rfl ?_
  refine x_assign rfl rfl rfl rfl ?_
  refine Ex.done (hK _ _ ?_)
  refine At.then_n ?_
  refine W.ret ?_
  refine At.then_r ?_
  refine At.ret1 (.tmp 4) rfl ⟨rfl, trivial⟩ ?_ -- ret1
  exact ⟨rfl, M.frm⟩

-- valise/valiselaw17.CachePlays
set_option maxRecDepth 100000 in
theorem plays_out {w0 : World} {bud : Int} {v0 : Value} {A : List Ac} (hA : ActsIn w0 v0 A) (h : 0 ≤ bud ∧ bud ≤ 1048576) (hno : ¬ fewA A) : Ret Try.prog 5 #[.int .i64 bud, v0] w0 fun v w' => v = .bool true ∧ New w0 w' := by
  have M : St None' w0 [] w0 := Frm.refl _ _
  have hA0 := hA
  obtain ⟨p, cap, rfl, hAl, hA⟩ := hA
  refine Ret.of_W Try.func5 rfl Try.ntmps5 rfl ?_
  refine W.seq ?_
  refine W.sub [(0, _), (1, _)] ⟨rfl, rfl, trivial⟩ ?_
  refine W.reg [(0, false)] (by kernel_rfl) ?_ -- region 0
  intro K hK
  refine x_assign rfl rfl rfl rfl ?_
  refine Ex.done (hK _ _ ?_)
  refine At.then_n ?_
  refine W.seq ?_
  refine W.sub [(0, _), (1, _)] ⟨rfl, rfl, trivial⟩ ?_
  refine W.reg [(0, false), (1, true), (2, false), (3, false), (4, false), (5, false), (6, false)] (by kernel_rfl) ?_ -- region 1
  intro K hK
  refine x_move rfl rfl rfl rfl ?_
  -- call1: valise/cache.New law.go:92
  refine x_call rfl rfl rfl rfl rfl en9 (opNew M h) ?_
  rintro v w1 ⟨c, rfl, M⟩
  have M := M.ct
  refine ⟨trivial, ?_⟩
  refine x_move rfl rfl rfl rfl ?_
  refine x_ext rfl rfl rfl rfl rfl ?_ -- ex1
  refine x_ext rfl rfl rfl rfl rfl ?_ -- ex2
  refine x_assign rfl rfl rfl rfl ?_
  refine x_assign rfl rfl rfl rfl ?_
  refine Ex.done (hK _ _ ?_)
  refine At.then_n ?_
  refine W.seq ?_
  refine W.sub [(0, _), (1, _), (5, _), (6, _)] ⟨rfl, rfl, rfl, rfl, trivial⟩ ?_
  refine W.reg [(0, false), (1, true), (2, false), (3, false), (4, false), (5, true), (6, true), (7, false)] (by kernel_rfl) ?_ -- region 2
  intro K hK
  refine x_move rfl rfl rfl rfl ?_
  -- call2: valise/valiseref17.New law.go:93
  refine x_call rfl rfl rfl rfl rfl en17 (rnew_ok h) ?_
  rintro v w2 ⟨rfl, hn⟩
  have M := M.new hn
  refine ⟨trivial, ?_⟩
  refine x_move rfl rfl rfl rfl ?_
  refine x_ext rfl rfl rfl rfl rfl ?_ -- ex3
  refine x_ext rfl rfl rfl rfl rfl ?_ -- ex4
  refine x_alloc [_, _] rfl rfl rfl ze46 rfl ?_ -- al1 law.go:93
  intro bal1 wal1 hbal1 hwal1
  have M := M.alloc hbal1 hwal1
  refine ⟨trivial, ?_⟩
  refine x_st [_, _] _ rfl rfl rfl sz46 rfl rfl rfl rfl (by first | exact M.at_ 0 rfl | exact M.at_ 1 rfl | exact M.at_ 2 rfl | exact M.at_ 3 rfl | exact M.at_ 4 rfl | exact M.at_ 5 rfl) rfl rfl rfl ?_ -- st1 law.go:93
  intro wst1 hwst1
  have M := M.put 0 rfl hwst1
  refine ⟨trivial, ?_⟩
  refine x_assign rfl rfl rfl rfl ?_
  refine Ex.done (hK _ _ ?_)
  refine At.then_n ?_
  refine W.seq ?_
  refine W.seq ?_
  refine W.sub [(1, _), (5, _), (6, _), (7, _), (8, _)] ⟨rfl, rfl, rfl, rfl, rfl, trivial⟩ ?_
  refine W.reg [(0, false), (1, false)] (by kernel_rfl) ?_ -- region 3
  intro K hK
  refine x_move rfl rfl rfl rfl ?_
  refine x_nei false rfl rfl rfl rfl rfl rfl ?_ -- eq1 law.go:94
  refine Ex.done (hK _ _ ?_)
  refine At.then_n ?_
  refine W.condF rfl ?_ -- co1
  refine W.skip ?_
  refine At.then_n ?_
  refine W.seq ?_
  refine W.seq ?_
  refine W.sub [(1, _), (5, _), (6, _), (7, _)] ⟨rfl, rfl, rfl, rfl, trivial⟩ ?_
  refine W.reg [(0, false), (1, false), (2, false), (3, false), (4, false), (5, false), (6, false), (7, false), (8, true), (9, false), (10, false)] (by kernel_rfl) ?_ -- region 5
  intro K hK
  refine x_move rfl rfl rfl rfl ?_
  refine x_nei false rfl rfl rfl rfl rfl rfl ?_ -- eq2 law.go:97
  refine x_move rfl rfl rfl rfl ?_
  refine x_move rfl rfl rfl rfl ?_
  refine x_eqpn false rfl rfl rfl Try.underlying23 rfl rfl rfl ?_ -- eq3 law.go:97
  refine x_pickF rfl rfl rfl rfl rfl ?_
  refine x_move rfl rfl rfl rfl ?_
  refine x_move rfl rfl rfl rfl ?_
  -- call3: valise/valiselaw17.few law.go:97
  refine x_call rfl rfl rfl rfl rfl en13 (few_c (hA0.new M.frm)) ?_
  rintro v w2 ⟨rfl, rfl⟩
  refine ⟨trivial, ?_⟩
  refine x_not true rfl rfl rfl rfl (by simp [hno]) ?_ -- un1 law.go:97
  refine x_pickF rfl rfl rfl rfl rfl ?_
  refine Ex.done (hK _ _ ?_)
  refine At.then_n ?_
  refine W.condT rfl ?_ -- co2
  refine W.seq ?_
  refine W.sub [(5, _), (6, _)] ⟨rfl, rfl, trivial⟩ ?_
  refine W.reg [(0, false), (1, false), (2, false), (3, false), (4, false), (5, false), (6, false), (7, true), (8, false), (9, false)] (by kernel_rfl) ?_ -- region 6
  intro K hK
  refine x_move rfl rfl rfl rfl ?_
  refine x_eqi true rfl rfl rfl rfl rfl rfl ?_ -- eq4 law.go:98
  refine x_move rfl rfl rfl rfl ?_
  refine x_move rfl rfl rfl rfl ?_
  refine x_nepn true rfl rfl rfl Try.underlying23 rfl rfl rfl ?_ -- eq5 law.go:98
  refine x_pickT rfl rfl rfl rfl rfl ?_
  refine x_move rfl rfl rfl rfl ?_
  -- call4: valise/valiselaw17.lives law.go:98
  refine x_call rfl rfl rfl rfl rfl en8 (lives_c) ?_
  rintro v w9 ⟨rfl, hn⟩
  have M := M.new hn
  refine ⟨trivial, ?_⟩
  refine x_pickT rfl rfl rfl rfl rfl ?_
  refine x_assign rfl rfl rfl rfl ?_
  refine Ex.done (hK _ _ ?_)
  refine At.then_n ?_
  refine W.ret ?_
  refine At.then_r ?_
  refine At.ret1 (.tmp 4) rfl ⟨rfl, trivial⟩ ?_ -- ret1
  exact ⟨rfl, M.frm⟩
end Go.Proofs.Ytbbccdcjhoecpaa

namespace Go.Proofs.Ytbbccdcjhoecpaa
open Go Go.Fw Go.RowKit Go.Proofs

-- valise/valiselaw17.CachePlays
set_option maxRecDepth 100000 in
set_option maxHeartbeats 1000000 in
theorem plays_ok {w0 : World} {bud : Int} {v0 : Value} {A : List Ac} (hA : ActsIn w0 v0 A) (h : 0 ≤ bud ∧ bud ≤ 1048576) (hfew : fewA A) : Ret Try.prog 5 #[.int .i64 bud, v0] w0 fun v w' => v = .bool true ∧ New w0 w' := by
  have M : St None' w0 [] w0 := Frm.refl _ _
  have hA0 := hA
  obtain ⟨p, cap, rfl, hAl, hA⟩ := hA
  refine Ret.of_W Try.func5 rfl Try.ntmps5 rfl ?_
  refine W.seq ?_
  refine W.sub [(0, _), (1, _)] ⟨rfl, rfl, trivial⟩ ?_
  refine W.reg [(0, false)] (by kernel_rfl) ?_ -- region 0
  intro K hK
  refine x_assign rfl rfl rfl rfl ?_
  refine Ex.done (hK _ _ ?_)
  refine At.then_n ?_
  refine W.seq ?_
  refine W.sub [(0, _), (1, _)] ⟨rfl, rfl, trivial⟩ ?_
  refine W.reg [(0, false), (1, true), (2, false), (3, false), (4, false), (5, false), (6, false)] (by kernel_rfl) ?_ -- region 1
  intro K hK
  refine x_move rfl rfl rfl rfl ?_
  -- call1: valise/cache.New law.go:92
  refine x_call rfl rfl rfl rfl rfl en9 (opNew M h) ?_
  rintro v w1 ⟨c, rfl, M⟩
  have M := M.ct
  refine ⟨trivial, ?_⟩
  refine x_move rfl rfl rfl rfl ?_
  refine x_ext rfl rfl rfl rfl rfl ?_ -- ex1
  refine x_ext rfl rfl rfl rfl rfl ?_ -- ex2
  refine x_assign rfl rfl rfl rfl ?_
  refine x_assign rfl rfl rfl rfl ?_
  refine Ex.done (hK _ _ ?_)
  refine At.then_n ?_
  refine W.seq ?_
  refine W.sub [(0, _), (1, _), (5, _), (6, _)] ⟨rfl, rfl, rfl, rfl, trivial⟩ ?_
  refine W.reg [(0, false), (1, true), (2, false), (3, false), (4, false), (5, true), (6, true), (7, false)] (by kernel_rfl) ?_ -- region 2
  intro K hK
  refine x_move rfl rfl rfl rfl ?_
  -- call2: valise/valiseref17.New law.go:93
  refine x_call rfl rfl rfl rfl rfl en17 (rnew_ok h) ?_
  rintro v w2 ⟨rfl, hn⟩
  have M := M.new hn
  refine ⟨trivial, ?_⟩
  refine x_move rfl rfl rfl rfl ?_
  refine x_ext rfl rfl rfl rfl rfl ?_ -- ex3
  refine x_ext rfl rfl rfl rfl rfl ?_ -- ex4
  refine x_alloc [_, _] rfl rfl rfl ze46 rfl ?_ -- al1 law.go:93
  intro bal1 wal1 hbal1 hwal1
  have M := M.alloc hbal1 hwal1
  refine ⟨trivial, ?_⟩
  refine x_st [_, _] _ rfl rfl rfl sz46 rfl rfl rfl rfl (by first | exact M.at_ 0 rfl | exact M.at_ 1 rfl | exact M.at_ 2 rfl | exact M.at_ 3 rfl | exact M.at_ 4 rfl | exact M.at_ 5 rfl) rfl rfl rfl ?_ -- st1 law.go:93
  intro wst1 hwst1
  have M := M.put 0 rfl hwst1
  refine ⟨trivial, ?_⟩
  refine x_assign rfl rfl rfl rfl ?_
  refine Ex.done (hK _ _ ?_)
  refine At.then_n ?_
  refine W.seq ?_
  refine W.seq ?_
  refine W.sub [(1, _), (5, _), (6, _), (7, _), (8, _)] ⟨rfl, rfl, rfl, rfl, rfl, trivial⟩ ?_
  refine W.reg [(0, false), (1, false)] (by kernel_rfl) ?_ -- region 3
  intro K hK
  refine x_move rfl rfl rfl rfl ?_
  refine x_nei false rfl rfl rfl rfl rfl rfl ?_ -- eq1 law.go:94
  refine Ex.done (hK _ _ ?_)
  refine At.then_n ?_
  refine W.condF rfl ?_ -- co1
  refine W.skip ?_
  refine At.then_n ?_
  refine W.seq ?_
  refine W.seq ?_
  refine W.sub [(1, _), (5, _), (6, _), (7, _)] ⟨rfl, rfl, rfl, rfl, trivial⟩ ?_
  refine W.reg [(0, false), (1, false), (2, false), (3, false), (4, false), (5, false), (6, false), (7, false), (8, true), (9, false), (10, false)] (by kernel_rfl) ?_ -- region 5
  intro K hK
  refine x_move rfl rfl rfl rfl ?_
  refine x_nei false rfl rfl rfl rfl rfl rfl ?_ -- eq2 law.go:97
  refine x_move rfl rfl rfl rfl ?_
  refine x_move rfl rfl rfl rfl ?_
  refine x_eqpn false rfl rfl rfl Try.underlying23 rfl rfl rfl ?_ -- eq3 law.go:97
  refine x_pickF rfl rfl rfl rfl rfl ?_
  refine x_move rfl rfl rfl rfl ?_
  refine x_move rfl rfl rfl rfl ?_
  -- call3: valise/valiselaw17.few law.go:97
  refine x_call rfl rfl rfl rfl rfl en13 (few_c (hA0.new M.frm)) ?_
  rintro v w2 ⟨rfl, rfl⟩
  refine ⟨trivial, ?_⟩
  refine x_not false rfl rfl rfl rfl (by simp [hfew]) ?_ -- un1 law.go:97
  refine x_pickF rfl rfl rfl rfl rfl ?_
  refine Ex.done (hK _ _ ?_)
  refine At.then_n ?_
  refine W.condF rfl ?_ -- co2
  refine W.skip ?_
  refine At.then_n ?_
  refine W.seq ?_
  refine W.seq ?_
  refine W.sub [(1, _), (5, _), (7, _)] ⟨rfl, rfl, rfl, trivial⟩ ?_
  refine W.reg [(0, false)] (by kernel_rfl) ?_ -- region 7
  intro K hK
  refine x_assign rfl rfl rfl rfl ?_
  refine Ex.done (hK _ _ ?_)
  refine At.then_n ?_
  refine W.block ?_
  refine W.loop (σ := Nat) (fun s => [(1, _), (5, _), (7, _), (9, .int .i64 ((s : Nat) : Int))]) (fun s w => s ≤ A.length ∧ ∃ L N v, BdM s N ∧ RefB L v N ∧ CT w0 L c bud N [(bal1, Obj.cells [Value.int .i64 bud, v].toArray 46 (0, 0))] w) (fun s => A.length - s) 0 ⟨rfl, rfl, rfl, rfl, trivial⟩ ⟨Nat.zero_le _, [], [], _, ⟨by simp, by simp⟩, RefB.nil, M⟩ ?_ -- loop1
  rintro s w ⟨hsl, L, N, v, hbd, hr, M⟩
  obtain ⟨pv, capv, rfl, _⟩ := (hr.at_ M).shape
  refine W.seq ?_
  refine W.seq ?_
  refine W.sub [(1, _), (5, _), (7, _), (9, _)] ⟨rfl, rfl, rfl, rfl, trivial⟩ ?_
  refine W.reg [(0, false), (1, false), (2, false), (3, false)] (by kernel_rfl) ?_ -- region 8
  intro K hK
  refine x_move rfl rfl rfl rfl ?_
  refine x_move rfl rfl rfl rfl ?_
  refine x_len rfl rfl rfl rfl Try.underlying35 rfl ?_
  refine x_lss _ rfl rfl rfl rfl rfl rfl ?_ -- cm1 law.go:100
  refine Ex.done (hK _ _ ?_)
  refine At.then_n ?_
  refine W.cond rfl (fun hco3 => ?_) (fun hco3 => ?_) -- co3
  · have hA60 := hfew.1
    have hlt : s < A.length := by have := of_decide_eq_true hco3; omega
    obtain ⟨a, ha⟩ : ∃ a, A[s]? = some a := ⟨A[s], List.getElem?_eq_getElem hlt⟩
    obtain ⟨b, off, rfl, hbl, hrow, hby⟩ := hA s a ha
    have ham : a ∈ A := List.mem_of_getElem? ha
    have hr' := hr.mono (L' := L ++ [(bal1, Obj.cells [Value.int .i64 bud, .slice pv N.length capv].toArray 46 (0, 0))]) fun x hx => List.mem_append_left _ hx
    have hlen := (hfew.2 a ham).1
    have hpn : ∀ m ∈ N, m.2.2 < 1000000000 := fun m hm => by have := hbd.2 m hm; omega
    have hl := hbd.1
    have hbd2 := hbd.step bud a
    refine W.skip ?_
    refine At.then_n ?_
    refine W.seq ?_
    refine W.block ?_
    refine W.seq ?_
    refine W.sub [(1, _), (5, _), (7, _), (9, _)] ⟨rfl, rfl, rfl, rfl, trivial⟩ ?_
    refine W.regT (by kernel_rfl) #[0, 0, 0, 0, 12, 28, 63, 127, 255, 255, 0, 1535, 4095] (.two [(0, false), (1, false), (2, false), (3, false), (4, false), (5, false)] 6 [(7, false), (8, false), (9, false), (10, true)] 10 [(6, true), (7, false), (8, false), (9, false)] (.leaf [(11, true), (12, false)])) (by kernel_rfl) ?_ -- region 10
    intro K wD1 hK hwD1
    have M := M.drew hwD1
    refine ExT.two ?_
    refine x_move rfl rfl rfl rfl ?_
    refine x_ldA [_, _] rfl rfl rfl Try.underlying46 rfl sz46 rfl rfl ⟨_, _, _, (by first | exact M.at_ 0 rfl | exact M.at_ 1 rfl | exact M.at_ 2 rfl | exact M.at_ 3 rfl | exact M.at_ 4 rfl | exact M.at_ 5 rfl), rfl⟩ ?_ -- ld1 law.go:101
    refine x_move rfl rfl rfl rfl ?_
    refine x_move rfl rfl rfl rfl ?_
    refine x_ia s rfl rfl rfl Try.underlying35 sz39 rfl rfl rfl hlt ?_ -- ia1 law.go:101
    refine x_ldA [_, _, _, _] rfl rfl rfl Try.underlying39 rfl sz39 rfl rfl (rowAt_keep hrow (M.frm.old b hbl id)) ?_ -- ld2 law.go:101
    refine Ex.fork ?_
    refine Ex.join (fun F' T' w' => ∃ v' Y bx R1 R2, T' = [(5, R1), (1, R2)] ∧ F' = [(1, .slice (some ⟨b, off, none⟩) A.length cap), (5, ptr c), (7, ptr bal1), (9, .int .i64 ((s : Nat) : Int)), (10, ptr bx), (71, refV bud v'), (72, .bool true)] ∧ RefB (L ++ Y) v' (doM bud N a) ∧ CT w0 (L ++ Y) c bud (doM bud N a) [(bal1, Obj.cells [Value.int .i64 bud, .slice pv N.length capv].toArray 46 (0, 0)), (bx, Obj.cells [Value.int .i64 0, Value.slice none 0 0].toArray 46 (0, 0))] w') ?_ ?_ ?_ -- fo1
    · -- call4: valise/valiselaw17.step law.go:101
      refine x_call rfl rfl rfl rfl rfl en18 (step_c (L := L ++ [_]) (v := .slice pv N.length capv) M.cs hr' hby hlen hpn (by omega)) ?_
      rintro r w3 ⟨v', Y, rfl, M3, hy⟩
      have M := CT.push (X := [_]) M3
      have hr2 := hr.step hy
      refine ⟨⟨.inl (by kernel_rfl), .inl (by kernel_rfl), trivial⟩, ?_⟩
      refine x_move rfl rfl rfl rfl ?_
      refine x_ext rfl rfl rfl rfl rfl ?_ -- ex5
      refine x_ext rfl rfl rfl rfl rfl ?_ -- ex6
      refine x_alloc [_, _] rfl rfl rfl ze46 rfl ?_ -- al2 law.go:101
      intro bal2 wal2 hbal2 hwal2
      have M := M.alloc hbal2 hwal2
      refine ⟨⟨.inr (rowAt_keep hrow (M.frm.old b hbl id)), .inr ⟨_, _, _, (by first | exact M.at_ 0 rfl | exact M.at_ 1 rfl | exact M.at_ 2 rfl | exact M.at_ 3 rfl | exact M.at_ 4 rfl | exact M.at_ 5 rfl), rfl⟩, trivial⟩, ?_⟩
      refine Ex.forkS [(1, _), (5, _), (7, _), (9, _), (10, _), (71, _), (72, _)] ⟨rfl, rfl, rfl, rfl, rfl, rfl, rfl, trivial⟩ ?_
      exact ⟨v', Y, bal2, _, _, rfl, rfl, hr2, M⟩
    · refine x_alloc [_, _] rfl rfl rfl ze46 rfl ?_ -- al3 law.go:101
      intro bal3 wal3 hbal3 hwal3
      have M := M.alloc hbal3 hwal3
      refine ⟨⟨.inr (rowAt_keep hrow (M.frm.old b hbl id)), .inr ⟨_, _, _, (by first | exact M.at_ 0 rfl | exact M.at_ 1 rfl | exact M.at_ 2 rfl | exact M.at_ 3 rfl | exact M.at_ 4 rfl | exact M.at_ 5 rfl), rfl⟩, trivial⟩, ?_⟩
      -- call5: valise/valiselaw17.step law.go:101
      refine x_call rfl rfl rfl rfl rfl en18 (step_c (L := L ++ [_, _]) (v := .slice pv N.length capv) M.cs (hr.mono fun x hx => List.mem_append_left _ hx) hby hlen hpn (by omega)) ?_
      rintro r w3 ⟨v', Y, rfl, M3, hy⟩
      have M := CT.push (X := [_, _]) M3
      have hr2 := hr.step hy
      refine ⟨⟨.inl (by kernel_rfl), .inl (by kernel_rfl), trivial⟩, ?_⟩
      refine x_move rfl rfl rfl rfl ?_
      refine x_ext rfl rfl rfl rfl rfl ?_ -- ex7
      refine x_ext rfl rfl rfl rfl rfl ?_ -- ex8
      refine Ex.forkS [(1, _), (5, _), (7, _), (9, _), (10, _), (71, _), (72, _)] ⟨rfl, rfl, rfl, rfl, rfl, rfl, rfl, trivial⟩ ?_
      exact ⟨v', Y, bal3, _, _, rfl, rfl, hr2, M⟩
    rintro F1 T1 w4 ⟨v', Y, bx, R1, R2, rfl, rfl, hr, M⟩
    obtain ⟨p', cap', rfl, _⟩ := (hr.at_ M).shape
    refine ExT.leaf ?_
    refine x_st [_, _] _ rfl rfl rfl sz46 rfl rfl rfl rfl (by first | exact M.at_ 0 rfl | exact M.at_ 1 rfl | exact M.at_ 2 rfl | exact M.at_ 3 rfl | exact M.at_ 4 rfl | exact M.at_ 5 rfl) rfl rfl rfl ?_ -- st2 law.go:101
    intro wst2 hwst2
    have M := M.put 1 rfl hwst2
    refine ⟨⟨.inl (by kernel_rfl), .inl (by kernel_rfl), trivial⟩, ?_⟩
    refine x_assign rfl rfl rfl rfl ?_
    refine Ex.done (hK _ _ ?_)
    refine At.then_n ?_
    refine W.seq ?_
    refine W.seq ?_
    refine W.sub [(1, _), (5, _), (7, _), (9, _), (10, _), (11, _)] ⟨rfl, rfl, rfl, rfl, rfl, rfl, trivial⟩ ?_
    refine W.reg [(0, false), (1, false), (2, false), (3, false), (4, false), (5, true), (6, false), (7, false)] (by kernel_rfl) ?_ -- region 11
    intro K hK
    refine x_move rfl rfl rfl rfl ?_
    refine x_not false rfl rfl rfl rfl rfl ?_ -- un2 law.go:102
    refine x_move rfl rfl rfl rfl ?_
    refine x_move rfl rfl rfl rfl ?_
    refine x_ldA [_, _] rfl rfl rfl Try.underlying46 rfl sz46 rfl rfl ⟨_, _, _, (by first | exact M.at_ 0 rfl | exact M.at_ 1 rfl | exact M.at_ 2 rfl | exact M.at_ 3 rfl | exact M.at_ 4 rfl | exact M.at_ 5 rfl), rfl⟩ ?_ -- ld3 law.go:102
    -- call6: valise/valiselaw17.alike law.go:102
    refine x_call rfl rfl rfl rfl rfl en19 (alike_c (v := .slice p' (doM bud N a).length cap') M.cs (hr.mono fun x hx => List.mem_append_left _ hx) (by have := hbd2.1; omega)) ?_
    rintro r w5 ⟨rfl, M5⟩
    have M : CT w0 (L ++ Y) c bud _ [_, _] w5 := ⟨M5⟩
    refine ⟨trivial, ?_⟩
    refine x_not false rfl rfl rfl rfl rfl ?_ -- un3 law.go:102
    refine x_pickF rfl rfl rfl rfl rfl ?_
    refine Ex.done (hK _ _ ?_)
    refine At.then_n ?_
    refine W.condF rfl ?_ -- co4
    refine W.skip ?_
    refine At.then_n ?_
    refine W.sub [(1, _), (5, _), (7, _), (9, _), (10, _)] ⟨rfl, rfl, rfl, rfl, rfl, trivial⟩ ?_
    refine W.reg [(0, false), (1, true)] (by kernel_rfl) ?_ -- region 13
    intro K hK
    refine x_ldA [_, _] rfl rfl rfl Try.underlying46 rfl sz46 rfl rfl ⟨_, _, _, (by first | exact M.at_ 0 rfl | exact M.at_ 1 rfl | exact M.at_ 2 rfl | exact M.at_ 3 rfl | exact M.at_ 4 rfl | exact M.at_ 5 rfl), rfl⟩ ?_ -- ld4 law.go:105
    refine x_st [_, _] _ rfl rfl rfl sz46 rfl rfl rfl rfl (by first | exact M.at_ 0 rfl | exact M.at_ 1 rfl | exact M.at_ 2 rfl | exact M.at_ 3 rfl | exact M.at_ 4 rfl | exact M.at_ 5 rfl) rfl rfl rfl ?_ -- st3 law.go:105
    intro wst3 hwst3
    have M := M.put 0 rfl hwst3
    refine ⟨trivial, ?_⟩
    refine Ex.done (hK _ _ ?_)
    refine At.blk_n ?_
    refine At.then_n ?_
    refine W.sub [(1, _), (5, _), (7, _), (9, _)] ⟨rfl, rfl, rfl, rfl, trivial⟩ ?_
    refine W.reg [(0, false), (1, false), (2, false)] (by kernel_rfl) ?_ -- region 9
    intro K hK
    refine x_move rfl rfl rfl rfl ?_
    refine x_add ((s + 1 : Nat) : Int) rfl rfl rfl rfl rfl (by rw [wrap64_id (by omega) (by omega)]; omega) ?_ -- ar1 law.go:100
    refine x_assign rfl rfl rfl rfl ?_
    refine Ex.done (hK _ _ ?_)
    -- bk1: back to loop1
    exact At.back (s + 1) ⟨rfl, rfl, rfl, rfl, trivial⟩ ⟨by omega, _, _, _, hbd2, hr, M.sub (List.sublist_append_left [_] [_])⟩ (by omega)
  · have hA60 := hfew.1
    have hl := hbd.1
    refine W.exit ?_
    refine At.then_x ?_
    refine At.loop_x ?_
    refine At.blk_x ?_
    refine At.then_n ?_
    refine W.seq ?_
    refine W.seq ?_
    refine W.sub [(5, _), (7, _)] ⟨rfl, rfl, trivial⟩ ?_
    refine W.reg [(0, false), (1, false), (2, false), (3, false), (4, false)] (by kernel_rfl) ?_ -- region 14
    intro K hK
    refine x_fa rfl rfl rfl fo46_1 rfl ?_
    refine x_ld rfl rfl rfl Try.underlying44 rfl rfl (cell_of (by first | exact M.at_ 0 rfl | exact M.at_ 1 rfl | exact M.at_ 2 rfl | exact M.at_ 3 rfl | exact M.at_ 4 rfl | exact M.at_ 5 rfl) rfl) ?_ -- ld5 law.go:107
    refine x_len rfl rfl rfl rfl Try.underlying44 rfl ?_
    refine x_sub ((N.length : Int) - 1) rfl rfl rfl rfl rfl (wrap64_id (by omega) (by omega)) ?_ -- ar2 law.go:107
    refine x_assign rfl rfl rfl rfl ?_
    refine Ex.done (hK _ _ ?_)
    refine At.then_n ?_
    refine W.block ?_
    refine W.loop (σ := Nat) (fun j => [(5, _), (7, _), (12, .int .i64 (((j : Nat) : Int) - 1))]) (fun j w => j ≤ N.length ∧ ∃ Mj, Mj.Perm N ∧ CT w0 L c bud Mj [(bal1, Obj.cells [Value.int .i64 bud, .slice pv N.length capv].toArray 46 (0, 0))] w) (fun j => j) N.length ⟨rfl, rfl, rfl, trivial⟩ ⟨Nat.le_refl _, N, List.Perm.refl _, M⟩ ?_ -- loop2
    rintro j w ⟨hjn, Mj, hpm, M⟩
    refine W.seq ?_
    refine W.seq ?_
    refine W.sub [(5, _), (7, _), (12, _)] ⟨rfl, rfl, rfl, trivial⟩ ?_
    refine W.reg [(0, false), (1, false)] (by kernel_rfl) ?_ -- region 15
    intro K hK
    refine x_move rfl rfl rfl rfl ?_
    refine x_geq _ rfl rfl rfl rfl rfl rfl ?_ -- cm2 law.go:107
    refine Ex.done (hK _ _ ?_)
    refine At.then_n ?_
    refine W.cond rfl (fun hco5 => ?_) (fun hco5 => ?_) -- co5
    · obtain ⟨t, rfl⟩ : ∃ t, j = t + 1 := ⟨j - 1, by have := of_decide_eq_true hco5; omega⟩
      obtain ⟨m, hm⟩ : ∃ m, N[t]? = some m := ⟨N[t]'(by omega), List.getElem?_eq_getElem (by omega)⟩
      have hgh := getM_has (m := m) M.cs.keys (hpm.mem_iff.2 (List.mem_of_getElem? hm))
      obtain ⟨bk, off, rfl, hrow⟩ := (hr.at_ M).row hm
      refine W.skip ?_
      refine At.then_n ?_
      refine W.seq ?_
      refine W.block ?_
      refine W.seq ?_
      refine W.sub [(5, _), (7, _), (12, _)] ⟨rfl, rfl, rfl, trivial⟩ ?_
      refine W.reg [(0, false), (1, false), (2, false), (3, false), (4, false), (5, false), (6, false), (7, true), (8, false), (9, false), (10, false), (11, false), (12, false)] (by kernel_rfl) ?_ -- region 17
      intro K hK
      refine x_move rfl rfl rfl rfl ?_
      refine x_fa rfl rfl rfl fo46_1 rfl ?_
      refine x_ld rfl rfl rfl Try.underlying44 rfl rfl (cell_of (by first | exact M.at_ 0 rfl | exact M.at_ 1 rfl | exact M.at_ 2 rfl | exact M.at_ 3 rfl | exact M.at_ 4 rfl | exact M.at_ 5 rfl) rfl) ?_ -- ld6 law.go:108
      refine x_move rfl rfl rfl rfl ?_
      refine x_ia t rfl rfl rfl Try.underlying44 sz53 rfl rfl (by congr 1; omega) (by omega) ?_ -- ia2 law.go:108
      refine x_fa rfl rfl rfl fo53_0 rfl ?_
      refine x_ldA [_, _] rfl rfl rfl Try.underlying29 rfl sz29 rfl rfl (row_bkey hrow) ?_ -- ld7 law.go:108
      -- call7: (*valise/cache.Cache).Get law.go:108
      refine x_call rfl rfl rfl rfl rfl en16 (M.opGet m.1) ?_
      rintro r w7 ⟨sv, s2, ok, X2, rfl, M, hX, hgs, _, _⟩
      rw [hgh.1] at hgs M
      obtain ⟨rfl, rfl⟩ : ok = true ∧ s2 = m.2.1 := by
        cases ok
        · simp at hgs
        · simp at hgs; exact ⟨rfl, hgs.symm⟩
      have hpm := hgh.2.trans hpm
      have hso := hX.strOf M
      obtain ⟨p2, cap2, rfl, _⟩ := hX.shape
      obtain ⟨_, _, e7, hrow⟩ := (hr.at_ M).row hm
      cases e7
      refine ⟨trivial, ?_⟩
      refine x_move rfl rfl rfl rfl ?_
      refine x_ext rfl rfl rfl rfl rfl ?_ -- ex9
      refine x_ext rfl rfl rfl rfl rfl ?_ -- ex10
      refine x_assign rfl rfl rfl rfl ?_
      refine x_assign rfl rfl rfl rfl ?_
      refine Ex.done (hK _ _ ?_)
      refine At.then_n ?_
      refine W.seq ?_
      refine W.sub [(5, _), (7, _), (12, _), (13, _), (14, _)] ⟨rfl, rfl, rfl, rfl, rfl, trivial⟩ ?_
      refine W.regD (by kernel_rfl) #[0, 1, 3, 7, 15, 7, 39, 7, 231, 487, 999, 2047, 4095] [(0, false), (1, false), (2, false), (3, false), (4, false), (5, false), (6, false), (7, false), (8, false), (9, false), (10, false), (11, false), (12, false)] (by kernel_rfl) ?_ -- region 18
      intro K wD2 hK hwD2
      have M := M.drew hwD2
      have hrow := rowAt_keep hrow (hp_drew hwD2 bk)
      have hso := hX.strOf M
      refine x_move rfl rfl rfl rfl ?_
      refine x_not false rfl rfl rfl rfl rfl ?_ -- un4 law.go:109
      refine x_move rfl rfl rfl rfl ?_
      refine x_move rfl rfl rfl rfl ?_
      refine x_cvbs m.2.1 rfl rfl rfl Try.underlying31 Try.underlying5 Try.underlying9 rfl hso ?_ -- cv1 law.go:109
      refine x_fa rfl rfl rfl fo46_1 rfl ?_
      refine x_ld rfl rfl rfl Try.underlying44 rfl rfl (cell_of (by first | exact M.at_ 0 rfl | exact M.at_ 1 rfl | exact M.at_ 2 rfl | exact M.at_ 3 rfl | exact M.at_ 4 rfl | exact M.at_ 5 rfl) rfl) ?_ -- ld8 law.go:109
      refine x_move rfl rfl rfl rfl ?_
      refine x_ia t rfl rfl rfl Try.underlying44 sz53 rfl rfl (by congr 1; omega) (by omega) ?_ -- ia3 law.go:109
      refine x_fa rfl rfl rfl fo53_1 rfl ?_
      refine x_ld rfl rfl rfl Try.underlying9 rfl rfl (row_cell (j := 2) hrow rfl) ?_ -- ld9 law.go:109
      refine x_nes false rfl rfl rfl rfl rfl (by simp [strB]) ?_ -- eq4 law.go:109
      refine x_pickF rfl rfl rfl rfl rfl ?_
      refine Ex.done (hK _ _ ?_)
      refine At.then_n ?_
      refine W.condF rfl ?_ -- co6
      refine W.skip ?_
      refine At.blk_n ?_
      refine At.then_n ?_
      refine W.sub [(5, _), (7, _), (12, _)] ⟨rfl, rfl, rfl, trivial⟩ ?_
      refine W.reg [(0, false), (1, false), (2, false)] (by kernel_rfl) ?_ -- region 16
      intro K hK
      refine x_move rfl rfl rfl rfl ?_
      refine x_sub (((t : Nat) : Int) - 1) rfl rfl rfl rfl rfl (by rw [wrap64_id (by omega) (by omega)]; omega) ?_ -- ar3 law.go:107
      refine x_assign rfl rfl rfl rfl ?_
      refine Ex.done (hK _ _ ?_)
      -- bk2: back to loop2
      exact At.back t ⟨rfl, rfl, rfl, trivial⟩ ⟨by omega, _, hpm, M.sub (List.sublist_append_left [_] X2)⟩ (by omega)
    · refine W.exit ?_
      refine At.then_x ?_
      refine At.loop_x ?_
      refine At.blk_x ?_
      refine At.then_n ?_
      refine W.seq ?_
      refine W.sub [] trivial ?_
      refine W.reg [(0, true), (1, false)] (by kernel_rfl) ?_ -- region 20
      intro K hK
      -- call8: valise/valiselaw17.lives law.go:113
      refine x_call rfl rfl rfl rfl rfl en8 (lives_c) ?_
      rintro v w9 ⟨rfl, hn⟩
      have M := M.new hn
      refine ⟨trivial, ?_⟩
      refine x_assign rfl rfl rfl rfl ?_
      refine Ex.done (hK _ _ ?_)
      refine At.then_n ?_
      refine W.ret ?_
      refine At.ret1 (.tmp 4) rfl ⟨rfl, trivial⟩ ?_ -- ret1
      exact ⟨rfl, M.frm⟩
end Go.Proofs.Ytbbccdcjhoecpaa

namespace Go.Proofs.Ytbbccdcjhoecpaa
open Go Go.Fw Go.RowKit Go.Proofs
theorem plays_c {w0 : World} {bud : Int} {v0 : Value} {A : List Ac} (hA : ActsIn w0 v0 A) : Ret Try.prog 5 #[.int .i64 bud, v0] w0 fun v w' => v = .bool true ∧ New w0 w' := by
  by_cases h : bud < 0 ∨ 1048576 < bud
  · exact plays_bad hA h
  · have h' : 0 ≤ bud ∧ bud ≤ 1048576 := by omega
    by_cases hf : fewA A
    · exact plays_ok hA h' hf
    · exact plays_out hA h' hf
end Go.Proofs.Ytbbccdcjhoecpaa
