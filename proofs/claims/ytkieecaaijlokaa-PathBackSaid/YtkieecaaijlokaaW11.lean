/-
  The walk of functions, by program: names, namesnext, compare.
-/
import Derived.Test.YtkieecaaijlokaaW10
namespace Go.Proofs.Ytkieecaaijlokaa
open Go Go.Fw Go.RowKit Go.Proofs
set_option linter.unusedVariables false
set_option linter.unusedSimpArgs false

-- valise/path.names
set_option maxRecDepth 100000 in
theorem names_c {w0 : World} {s : List UInt8} (hl : s.length ≤ 9223372036854775807) : Ret Try.prog 36 #[strV s] w0 fun r w' => ∃ bm bp, r = .func (.func 47) #[] #[ptr bm, ptr bp] ∧ Sep w0 [(bm, Obj.cells [Value.bool (decide ((namesP s) ≠ []))].toArray 4 (0, 0)), (bp, Obj.cells [strV (joinS (namesP s))].toArray 9 (0, 0))] w' := by
  have M : Sep w0 [] w0 := St.nil w0
  obtain ⟨hc1, hc2⟩ := namesP_cut hl
  rw [hc2, show decide (namesP s ≠ []) = (!decide (s = [])) from by rw [Bool.eq_iff_iff]; simp [namesP_ne]]
  refine Ret.of_W Try.func36 rfl Try.ntmps36 rfl ?_
  refine W.seq ?_
  refine W.sub [(0, _)] ⟨rfl, trivial⟩ ?_
  refine W.reg [(0, true), (1, false)] (by kernel_rfl) ?_ -- region 0
  intro K hK
  refine x_box [_] rfl rfl rfl rfl rfl ?_ -- bx1 path.go:112
  intro bbx1 wbx1 hbbx1 hwbx1
  have M := M.acons hbbx1 hwbx1
  refine ⟨trivial, ?_⟩
  refine x_assign rfl rfl rfl rfl ?_
  refine Ex.done (hK _ _ ?_)
  refine At.then_n ?_
  refine W.seq ?_
  refine W.sub [(1, _)] ⟨rfl, trivial⟩ ?_
  refine W.reg [(0, false), (1, false), (2, true), (3, true)] (by kernel_rfl) ?_ -- region 1
  intro K hK
  refine x_ld rfl rfl rfl Try.underlying9 rfl rfl (cell_of (by first | exact M.at_ 0 rfl | exact M.at_ 1 rfl | exact M.at_ 2 rfl | exact M.at_ 3 rfl | exact M.at_ 4 rfl | exact M.at_ 5 rfl | exact M.at_ 6 rfl | exact M.at_ 7 rfl) rfl) ?_ -- ld1 path.go:113
  refine x_neS _ rfl rfl rfl rfl rfl rfl ?_ -- eq1 path.go:113
  refine x_alloc [_] rfl rfl rfl ze4 rfl ?_ -- al1 path.go:113
  intro bal1 wal1 hbal1 hwal1
  have M := M.acons hbal1 hwal1
  refine ⟨trivial, ?_⟩
  refine x_st [_] _ rfl rfl rfl sz4 rfl rfl rfl rfl (by first | exact M.at_ 0 rfl | exact M.at_ 1 rfl | exact M.at_ 2 rfl | exact M.at_ 3 rfl | exact M.at_ 4 rfl | exact M.at_ 5 rfl | exact M.at_ 6 rfl | exact M.at_ 7 rfl) rfl rfl rfl ?_ -- st1 path.go:113
  intro wst1 hwst1
  have M := by first | exact M.put 0 rfl hwst1 | exact M.put 1 rfl hwst1 | exact M.put 2 rfl hwst1 | exact M.put 3 rfl hwst1 | exact M.put 4 rfl hwst1 | exact M.put 5 rfl hwst1 | exact M.put 6 rfl hwst1 | exact M.put 7 rfl hwst1
  refine ⟨trivial, ?_⟩
  refine Ex.done (hK _ _ ?_)
  refine At.then_n ?_
  refine W.seq ?_
  refine W.sub [(1, _), (3, _)] ⟨rfl, rfl, trivial⟩ ?_
  refine W.reg [(0, false), (1, false)] (by kernel_rfl) ?_ -- region 2
  intro K hK
  refine x_mkfn rfl rfl rfl rfl rfl ?_
  refine x_assign rfl rfl rfl rfl ?_
  refine Ex.done (hK _ _ ?_)
  refine At.then_n ?_
  refine W.ret ?_
  refine At.ret1 (.tmp 2) rfl ⟨rfl, trivial⟩ ?_ -- ret1
  exact ⟨_, _, rfl, M⟩

-- valise/path.names$1
set_option maxRecDepth 100000 in
theorem namesnext_c {w0 w : World} {bm bp : Nat} {l : List (List UInt8)} {L0 : List (Nat × Obj)} (M : Sep w0 ([(bm, Obj.cells [Value.bool (decide (l ≠ []))].toArray 4 (0, 0)), (bp, Obj.cells [strV (joinS l)].toArray 9 (0, 0))] ++ L0) w) (hc : CutOK l) : Ret Try.prog 47 #[ptr bm, ptr bp] w fun r w' => r = .tuple #[strV (l.headD []), .bool (decide (l ≠ []))] ∧ Sep w0 ([(bm, Obj.cells [Value.bool (decide (l.tail ≠ []))].toArray 4 (0, 0)), (bp, Obj.cells [strV (joinS l.tail)].toArray 9 (0, 0))] ++ L0) w' := by
  refine Ret.of_W Try.func47 rfl Try.ntmps47 rfl ?_
  refine W.seq ?_
  refine W.sub [(0, _), (1, _)] ⟨rfl, rfl, trivial⟩ ?_
  refine W.reg [(0, false), (1, false)] (by kernel_rfl) ?_ -- region 0
  intro K hK
  refine x_assign rfl rfl rfl rfl ?_
  refine x_assign rfl rfl rfl rfl ?_
  refine Ex.done (hK _ _ ?_)
  refine At.then_n ?_
  refine W.seq ?_
  refine W.seq ?_
  refine W.sub [(0, _), (1, _)] ⟨rfl, rfl, trivial⟩ ?_
  refine W.reg [(0, false), (1, false)] (by kernel_rfl) ?_ -- region 1
  intro K hK
  refine x_ld rfl rfl rfl Try.underlying4 rfl rfl (cell_of (by first | exact M.at_ 0 rfl | exact M.at_ 1 rfl | exact M.at_ 2 rfl | exact M.at_ 3 rfl | exact M.at_ 4 rfl | exact M.at_ 5 rfl | exact M.at_ 6 rfl | exact M.at_ 7 rfl) rfl) ?_ -- ld1 path.go:115
  refine x_not _ rfl rfl rfl rfl rfl ?_ -- un1 path.go:115
  refine Ex.done (hK _ _ ?_)
  refine At.then_n ?_
  refine W.cond rfl (fun hco1 => ?_) (fun hco1 => ?_) -- co1
  · try simp only [decide_eq_true_eq, decide_eq_false_iff_not, Bool.not_eq_true', Bool.not_eq_false', beq_iff_eq, bne_iff_ne, ne_eq, Bool.not_eq_eq_eq_not, Bool.not_true, Bool.not_false, beq_eq_false_iff_ne, bne_eq_false_iff_eq, Bool.not_not, gt_iff_lt, ge_iff_le] at hco1
    have hl0 : l = [] := by simpa using hco1
    subst hl0
    refine W.seq ?_
    refine W.sub [] trivial ?_
    refine W.reg [(0, false), (1, false)] (by kernel_rfl) ?_ -- region 2
    intro K hK
    refine x_assign rfl rfl rfl rfl ?_
    refine x_assign rfl rfl rfl rfl ?_
    refine Ex.done (hK _ _ ?_)
    refine At.then_n ?_
    refine W.ret ?_
    refine At.then_r ?_
    refine At.ret2 (.tmp 2) (.tmp 3) rfl ⟨rfl, rfl, trivial⟩ ?_ -- ret1
    exact ⟨rfl, M⟩
  · try simp only [decide_eq_true_eq, decide_eq_false_iff_not, Bool.not_eq_true', Bool.not_eq_false', beq_iff_eq, bne_iff_ne, ne_eq, Bool.not_eq_eq_eq_not, Bool.not_true, Bool.not_false, beq_eq_false_iff_ne, bne_eq_false_iff_eq, Bool.not_not, gt_iff_lt, ge_iff_le] at hco1
    obtain ⟨x, l2, rfl⟩ : ∃ x l2, l = x :: l2 := by cases l with | nil => simp at hco1 | cons x l2 => exact ⟨x, l2, rfl⟩
    refine W.skip ?_
    refine At.then_n ?_
    refine W.seq ?_
    refine W.sub [(0, _), (1, _)] ⟨rfl, rfl, trivial⟩ ?_
    refine W.reg [(0, false)] (by kernel_rfl) ?_ -- region 3
    intro K hK
    refine x_assign rfl rfl rfl rfl ?_
    refine Ex.done (hK _ _ ?_)
    refine At.then_n ?_
    refine W.seq ?_
    refine W.sub [(0, _), (1, _)] ⟨rfl, rfl, trivial⟩ ?_
    refine W.reg [(0, false), (1, true), (2, false), (3, false), (4, false), (5, false), (6, false), (7, true), (8, true)] (by kernel_rfl) ?_ -- region 4
    intro K hK
    refine x_ld rfl rfl rfl Try.underlying9 rfl rfl (cell_of (by first | exact M.at_ 0 rfl | exact M.at_ 1 rfl | exact M.at_ 2 rfl | exact M.at_ 3 rfl | exact M.at_ 4 rfl | exact M.at_ 5 rfl | exact M.at_ 6 rfl | exact M.at_ 7 rfl) rfl) ?_ -- ld2 path.go:119
    -- call1: strings.Cut path.go:119
    refine x_call rfl rfl rfl rfl rfl en41 (cut_c hc.2) ?_
    rintro r w1 ⟨p, q, hs, rfl, hn⟩
    have M := M.new hn
    rw [hc.split] at hs
    cases hs
    refine ⟨trivial, ?_⟩
    refine x_move rfl rfl rfl rfl ?_
    refine x_ext rfl rfl rfl rfl rfl ?_ -- ex1
    refine x_ext rfl rfl rfl rfl rfl ?_ -- ex2
    refine x_ext rfl rfl rfl rfl rfl ?_ -- ex3
    refine x_assign rfl rfl rfl rfl ?_
    refine x_st [_] _ rfl rfl rfl sz9 rfl rfl rfl rfl (by first | exact M.at_ 0 rfl | exact M.at_ 1 rfl | exact M.at_ 2 rfl | exact M.at_ 3 rfl | exact M.at_ 4 rfl | exact M.at_ 5 rfl | exact M.at_ 6 rfl | exact M.at_ 7 rfl) rfl rfl rfl ?_ -- st1 path.go:119
    intro wst1 hwst1
    have M := by first | exact M.put 0 rfl hwst1 | exact M.put 1 rfl hwst1 | exact M.put 2 rfl hwst1 | exact M.put 3 rfl hwst1 | exact M.put 4 rfl hwst1 | exact M.put 5 rfl hwst1 | exact M.put 6 rfl hwst1 | exact M.put 7 rfl hwst1
    refine ⟨trivial, ?_⟩
    refine x_st [_] _ rfl rfl rfl sz4 rfl rfl rfl rfl (by first | exact M.at_ 0 rfl | exact M.at_ 1 rfl | exact M.at_ 2 rfl | exact M.at_ 3 rfl | exact M.at_ 4 rfl | exact M.at_ 5 rfl | exact M.at_ 6 rfl | exact M.at_ 7 rfl) rfl rfl rfl ?_ -- st2 path.go:119
    intro wst2 hwst2
    have M := by first | exact M.put 0 rfl hwst2 | exact M.put 1 rfl hwst2 | exact M.put 2 rfl hwst2 | exact M.put 3 rfl hwst2 | exact M.put 4 rfl hwst2 | exact M.put 5 rfl hwst2 | exact M.put 6 rfl hwst2 | exact M.put 7 rfl hwst2
    refine ⟨trivial, ?_⟩
    refine Ex.done (hK _ _ ?_)
    refine At.then_n ?_
    refine W.seq ?_
    refine W.sub [(4, _)] ⟨rfl, trivial⟩ ?_
    refine W.reg [(0, false), (1, false), (2, false)] (by kernel_rfl) ?_ -- region 5
    intro K hK
    refine x_move rfl rfl rfl rfl ?_
    refine x_assign rfl rfl rfl rfl ?_
    refine x_assign rfl rfl rfl rfl ?_
    refine Ex.done (hK _ _ ?_)
    refine At.then_n ?_
    refine W.ret ?_
    refine At.ret2 (.tmp 2) (.tmp 3) rfl ⟨rfl, rfl, trivial⟩ ?_ -- ret2
    refine ⟨by simp, ?_⟩
    exact M

-- valise/path.Compare
set_option maxRecDepth 100000 in
theorem compare_c {w0 : World} {a b : List UInt8} (hla : a.length ≤ 9223372036854775807) (hlb : b.length ≤ 9223372036854775807) : Ret Try.prog 27 #[strV a, strV b] w0 fun r w' => r = .int .i64 (compareP a b) ∧ New w0 w' := by
  have M : Sep w0 [] w0 := St.nil w0
  refine Ret.of_W Try.func27 rfl Try.ntmps27 rfl ?_
  refine W.seq ?_
  refine W.sub [(0, _), (1, _)] ⟨rfl, rfl, trivial⟩ ?_
  refine W.reg [(0, false)] (by kernel_rfl) ?_ -- region 0
  intro K hK
  refine x_assign rfl rfl rfl rfl ?_
  refine Ex.done (hK _ _ ?_)
  refine At.then_n ?_
  refine W.seq ?_
  refine W.sub [(0, _), (1, _)] ⟨rfl, rfl, trivial⟩ ?_
  refine W.reg [(0, false), (1, true), (2, false), (3, true), (4, false), (5, false)] (by kernel_rfl) ?_ -- region 1
  intro K hK
  refine x_move rfl rfl rfl rfl ?_
  -- call1: valise/path.names path.go:126
  refine x_call rfl rfl rfl rfl rfl en36 (names_c hla) ?_
  rintro r w1 ⟨bm1, bp1, rfl, M1⟩
  have M := M.grow M1
  refine ⟨trivial, ?_⟩
  refine x_move rfl rfl rfl rfl ?_
  -- call2: valise/path.names path.go:126
  refine x_call rfl rfl rfl rfl rfl en36 (names_c hlb) ?_
  rintro r w2 ⟨bm2, bp2, rfl, M2⟩
  have M := M.grow M2
  refine ⟨trivial, ?_⟩
  refine x_assign rfl rfl rfl rfl ?_
  refine x_assign rfl rfl rfl rfl ?_
  refine Ex.done (hK _ _ ?_)
  refine At.then_n ?_
  refine W.block ?_
  refine W.loop (σ := List (List UInt8) × List (List UInt8)) (fun q => [(5, _), (6, _)]) (fun q w => compareP a b = compareL q.1 q.2 ∧ CutOK q.1 ∧ CutOK q.2 ∧ Sep w0 ([(bm1, Obj.cells [Value.bool (decide (q.1 ≠ []))].toArray 4 (0, 0)), (bp1, Obj.cells [strV (joinS q.1)].toArray 9 (0, 0))] ++ [(bm2, Obj.cells [Value.bool (decide (q.2 ≠ []))].toArray 4 (0, 0)), (bp2, Obj.cells [strV (joinS q.2)].toArray 9 (0, 0))]) w) (fun q => q.1.length) (namesP a, namesP b) ⟨rfl, rfl, trivial⟩ ⟨rfl, (namesP_cut hla).1, (namesP_cut hlb).1, M⟩ ?_ -- loop1
  rintro ⟨l1, l2⟩ w ⟨hcmp, hc1, hc2, M⟩
  simp only at hcmp hc1 hc2 M
  refine W.block ?_
  refine W.seq ?_
  refine W.sub [(5, _), (6, _)] ⟨rfl, rfl, trivial⟩ ?_
  refine W.reg [(0, false), (1, true), (2, false), (3, false), (4, false), (5, false), (6, false)] (by kernel_rfl) ?_ -- region 2
  intro K hK
  refine x_move rfl rfl rfl rfl ?_
  -- call3: value path.go:128
  refine x_call rfl rfl rfl rfl rfl en47 (namesnext_c M hc1) ?_
  rintro r w3 ⟨rfl, M⟩
  have M := M.perm (List.perm_append_comm (l₁ := [_, _]) (l₂ := [_, _]))
  refine ⟨trivial, ?_⟩
  refine x_move rfl rfl rfl rfl ?_
  refine x_ext rfl rfl rfl rfl rfl ?_ -- ex1
  refine x_ext rfl rfl rfl rfl rfl ?_ -- ex2
  refine x_assign rfl rfl rfl rfl ?_
  refine x_assign rfl rfl rfl rfl ?_
  refine Ex.done (hK _ _ ?_)
  refine At.then_n ?_
  refine W.seq ?_
  refine W.sub [(5, _), (6, _), (7, _), (8, _)] ⟨rfl, rfl, rfl, rfl, trivial⟩ ?_
  refine W.reg [(0, false), (1, true), (2, false), (3, false), (4, false), (5, false), (6, false)] (by kernel_rfl) ?_ -- region 3
  intro K hK
  refine x_move rfl rfl rfl rfl ?_
  -- call4: value path.go:129
  refine x_call rfl rfl rfl rfl rfl en47 (namesnext_c M hc2) ?_
  rintro r w4 ⟨rfl, M⟩
  have M := M.perm (List.perm_append_comm (l₁ := [_, _]) (l₂ := [_, _]))
  refine ⟨trivial, ?_⟩
  refine x_move rfl rfl rfl rfl ?_
  refine x_ext rfl rfl rfl rfl rfl ?_ -- ex3
  refine x_ext rfl rfl rfl rfl rfl ?_ -- ex4
  refine x_assign rfl rfl rfl rfl ?_
  refine x_assign rfl rfl rfl rfl ?_
  refine Ex.done (hK _ _ ?_)
  refine At.then_n ?_
  refine W.seq ?_
  refine W.block ?_
  refine W.seq ?_
  refine W.sub [(5, _), (6, _), (7, _), (8, _), (9, _), (10, _)] ⟨rfl, rfl, rfl, rfl, rfl, rfl, trivial⟩ ?_
  refine W.reg [(0, false), (1, false), (2, false), (3, false), (4, false), (5, false), (6, false)] (by kernel_rfl) ?_ -- region 4
  intro K hK
  refine x_move rfl rfl rfl rfl ?_
  refine x_not _ rfl rfl rfl rfl rfl ?_ -- un1 path.go:131
  refine x_move rfl rfl rfl rfl ?_
  refine Ex.split 29 rfl (fun hsp1 => ?_) (fun hsp1 => ?_)
  · -- sp1 True
    try simp only [decide_eq_true_eq, decide_eq_false_iff_not, Bool.not_eq_true', Bool.not_eq_false', beq_iff_eq, bne_iff_ne, ne_eq, Bool.not_eq_eq_eq_not, Bool.not_true, Bool.not_false, beq_eq_false_iff_ne, bne_eq_false_iff_eq, Bool.not_not, gt_iff_lt, ge_iff_le] at hsp1
    have h1 : l1 = [] := by simpa using hsp1
    subst h1
    refine x_move rfl rfl rfl rfl ?_
    refine x_not _ rfl rfl rfl rfl rfl ?_ -- un2 path.go:131
    refine x_pickT rfl rfl rfl rfl rfl ?_
    refine x_assign rfl rfl rfl rfl ?_
    refine Ex.done (hK _ _ ?_)
    refine At.then_n ?_
    refine W.cond rfl (fun hco1 => ?_) (fun hco1 => ?_) -- co1
    · try simp only [decide_eq_true_eq, decide_eq_false_iff_not, Bool.not_eq_true', Bool.not_eq_false', beq_iff_eq, bne_iff_ne, ne_eq, Bool.not_eq_eq_eq_not, Bool.not_true, Bool.not_false, beq_eq_false_iff_ne, bne_eq_false_iff_eq, Bool.not_not, gt_iff_lt, ge_iff_le] at hco1
      have h2 : l2 = [] := by simpa using hco1
      subst h2
      refine W.seq ?_
      refine W.sub [] trivial ?_
      refine W.reg [(0, false)] (by kernel_rfl) ?_ -- region 5
      intro K hK
      refine x_assign rfl rfl rfl rfl ?_
      refine Ex.done (hK _ _ ?_)
      refine At.then_n ?_
      refine W.ret ?_
      refine At.blk_r ?_
      refine At.then_r ?_
      refine At.blk_r ?_
      refine At.loop_r ?_
      refine At.blk_r ?_
      refine At.ret1 (.tmp 4) rfl ⟨rfl, trivial⟩ ?_ -- ret1
      exact ⟨by rw [hcmp]; rfl, M.frm⟩
    · try simp only [decide_eq_true_eq, decide_eq_false_iff_not, Bool.not_eq_true', Bool.not_eq_false', beq_iff_eq, bne_iff_ne, ne_eq, Bool.not_eq_eq_eq_not, Bool.not_true, Bool.not_false, beq_eq_false_iff_ne, bne_eq_false_iff_eq, Bool.not_not, gt_iff_lt, ge_iff_le] at hco1
      obtain ⟨y, l2, rfl⟩ : ∃ x l3, l2 = x :: l3 := by cases l2 with | nil => simp at hco1 | cons x l3 => exact ⟨x, l3, rfl⟩
      refine W.seq ?_
      refine W.sub [(5, _), (6, _), (7, _), (8, _), (9, _), (10, _)] ⟨rfl, rfl, rfl, rfl, rfl, rfl, trivial⟩ ?_
      refine W.reg [(0, false), (1, false), (2, false)] (by kernel_rfl) ?_ -- region 6
      intro K hK
      refine x_move rfl rfl rfl rfl ?_
      refine x_not _ rfl rfl rfl rfl rfl ?_ -- un3 path.go:133
      refine x_assign rfl rfl rfl rfl ?_
      refine Ex.done (hK _ _ ?_)
      refine At.then_n ?_
      refine W.cond rfl (fun hco2 => ?_) (fun hco2 => ?_) -- co2
      · try simp only [decide_eq_true_eq, decide_eq_false_iff_not, Bool.not_eq_true', Bool.not_eq_false', beq_iff_eq, bne_iff_ne, ne_eq, Bool.not_eq_eq_eq_not, Bool.not_true, Bool.not_false, beq_eq_false_iff_ne, bne_eq_false_iff_eq, Bool.not_not, gt_iff_lt, ge_iff_le] at hco2
        skip
        refine W.seq ?_
        refine W.sub [] trivial ?_
        refine W.reg [(0, false)] (by kernel_rfl) ?_ -- region 7
        intro K hK
        refine x_assign rfl rfl rfl rfl ?_
        refine Ex.done (hK _ _ ?_)
        refine At.then_n ?_
        refine W.ret ?_
        refine At.blk_r ?_
        refine At.then_r ?_
        refine At.blk_r ?_
        refine At.loop_r ?_
        refine At.blk_r ?_
        refine At.ret1 (.tmp 4) rfl ⟨rfl, trivial⟩ ?_ -- ret2
        exact ⟨by rw [hcmp]; rfl, M.frm⟩
      · try simp only [decide_eq_true_eq, decide_eq_false_iff_not, Bool.not_eq_true', Bool.not_eq_false', beq_iff_eq, bne_iff_ne, ne_eq, Bool.not_eq_eq_eq_not, Bool.not_true, Bool.not_false, beq_eq_false_iff_ne, bne_eq_false_iff_eq, Bool.not_not, gt_iff_lt, ge_iff_le] at hco2
        exact absurd hco2 (by simp)
  · -- sp1 False
    try simp only [decide_eq_true_eq, decide_eq_false_iff_not, Bool.not_eq_true', Bool.not_eq_false', beq_iff_eq, bne_iff_ne, ne_eq, Bool.not_eq_eq_eq_not, Bool.not_true, Bool.not_false, beq_eq_false_iff_ne, bne_eq_false_iff_eq, Bool.not_not, gt_iff_lt, ge_iff_le] at hsp1
    obtain ⟨x, l1, rfl⟩ : ∃ x l3, l1 = x :: l3 := by cases l1 with | nil => simp at hsp1 | cons x l3 => exact ⟨x, l3, rfl⟩
    refine Ex.skip_ rfl rfl rfl ?_
    refine Ex.skip_ rfl rfl rfl ?_
    refine x_pickF rfl rfl rfl rfl rfl ?_
    refine x_assign rfl rfl rfl rfl ?_
    refine Ex.done (hK _ _ ?_)
    refine At.then_n ?_
    refine W.condF rfl ?_ -- co3
    refine W.seq ?_
    refine W.sub [(5, _), (6, _), (7, _), (8, _), (9, _), (10, _)] ⟨rfl, rfl, rfl, rfl, rfl, rfl, trivial⟩ ?_
    refine W.reg [(0, false), (1, false), (2, false)] (by kernel_rfl) ?_ -- region 6
    intro K hK
    refine x_move rfl rfl rfl rfl ?_
    refine x_not _ rfl rfl rfl rfl rfl ?_ -- un4 path.go:133
    refine x_assign rfl rfl rfl rfl ?_
    refine Ex.done (hK _ _ ?_)
    refine At.then_n ?_
    refine W.cond rfl (fun hco4 => ?_) (fun hco4 => ?_) -- co4
    · try simp only [decide_eq_true_eq, decide_eq_false_iff_not, Bool.not_eq_true', Bool.not_eq_false', beq_iff_eq, bne_iff_ne, ne_eq, Bool.not_eq_eq_eq_not, Bool.not_true, Bool.not_false, beq_eq_false_iff_ne, bne_eq_false_iff_eq, Bool.not_not, gt_iff_lt, ge_iff_le] at hco4
      exact absurd hco4 (by simp)
    · try simp only [decide_eq_true_eq, decide_eq_false_iff_not, Bool.not_eq_true', Bool.not_eq_false', beq_iff_eq, bne_iff_ne, ne_eq, Bool.not_eq_eq_eq_not, Bool.not_true, Bool.not_false, beq_eq_false_iff_ne, bne_eq_false_iff_eq, Bool.not_not, gt_iff_lt, ge_iff_le] at hco4
      refine W.seq ?_
      refine W.sub [(5, _), (6, _), (7, _), (9, _), (10, _)] ⟨rfl, rfl, rfl, rfl, rfl, trivial⟩ ?_
      refine W.reg [(0, false), (1, false), (2, false)] (by kernel_rfl) ?_ -- region 8
      intro K hK
      refine x_move rfl rfl rfl rfl ?_
      refine x_not _ rfl rfl rfl rfl rfl ?_ -- un5 path.go:135
      refine x_assign rfl rfl rfl rfl ?_
      refine Ex.done (hK _ _ ?_)
      refine At.then_n ?_
      refine W.cond rfl (fun hco5 => ?_) (fun hco5 => ?_) -- co5
      · try simp only [decide_eq_true_eq, decide_eq_false_iff_not, Bool.not_eq_true', Bool.not_eq_false', beq_iff_eq, bne_iff_ne, ne_eq, Bool.not_eq_eq_eq_not, Bool.not_true, Bool.not_false, beq_eq_false_iff_ne, bne_eq_false_iff_eq, Bool.not_not, gt_iff_lt, ge_iff_le] at hco5
        have h2 : l2 = [] := by simpa using hco5
        subst h2
        refine W.seq ?_
        refine W.sub [] trivial ?_
        refine W.reg [(0, false)] (by kernel_rfl) ?_ -- region 9
        intro K hK
        refine x_assign rfl rfl rfl rfl ?_
        refine Ex.done (hK _ _ ?_)
        refine At.then_n ?_
        refine W.ret ?_
        refine At.blk_r ?_
        refine At.then_r ?_
        refine At.blk_r ?_
        refine At.loop_r ?_
        refine At.blk_r ?_
        refine At.ret1 (.tmp 4) rfl ⟨rfl, trivial⟩ ?_ -- ret3
        exact ⟨by rw [hcmp]; rfl, M.frm⟩
      · try simp only [decide_eq_true_eq, decide_eq_false_iff_not, Bool.not_eq_true', Bool.not_eq_false', beq_iff_eq, bne_iff_ne, ne_eq, Bool.not_eq_eq_eq_not, Bool.not_true, Bool.not_false, beq_eq_false_iff_ne, bne_eq_false_iff_eq, Bool.not_not, gt_iff_lt, ge_iff_le] at hco5
        obtain ⟨y, l2, rfl⟩ : ∃ x l3, l2 = x :: l3 := by cases l2 with | nil => simp at hco5 | cons x l3 => exact ⟨x, l3, rfl⟩
        refine W.skip ?_
        refine At.blk_n ?_
        refine At.then_n ?_
        refine W.seq ?_
        refine W.sub [(5, _), (6, _), (7, _), (9, _)] ⟨rfl, rfl, rfl, rfl, trivial⟩ ?_
        refine W.reg [(0, false), (1, false), (2, true), (3, false)] (by kernel_rfl) ?_ -- region 10
        intro K hK
        refine x_move rfl rfl rfl rfl ?_
        refine x_move rfl rfl rfl rfl ?_
        -- call5: strings.Compare path.go:138
        refine x_call rfl rfl rfl rfl rfl en37 (cmpS_c) ?_
        rintro r wcall5 ⟨rfl, rfl⟩
        refine ⟨trivial, ?_⟩
        refine x_assign rfl rfl rfl rfl ?_
        refine Ex.done (hK _ _ ?_)
        refine At.then_n ?_
        refine W.seq ?_
        refine W.sub [(5, _), (6, _), (11, _)] ⟨rfl, rfl, rfl, trivial⟩ ?_
        refine W.reg [(0, false), (1, false)] (by kernel_rfl) ?_ -- region 11
        intro K hK
        refine x_move rfl rfl rfl rfl ?_
        refine x_nei _ rfl rfl rfl rfl rfl rfl ?_ -- eq1 path.go:138
        refine Ex.done (hK _ _ ?_)
        refine At.then_n ?_
        refine W.cond rfl (fun hco6 => ?_) (fun hco6 => ?_) -- co6
        · try simp only [decide_eq_true_eq, decide_eq_false_iff_not, Bool.not_eq_true', Bool.not_eq_false', beq_iff_eq, bne_iff_ne, ne_eq, Bool.not_eq_eq_eq_not, Bool.not_true, Bool.not_false, beq_eq_false_iff_ne, bne_eq_false_iff_eq, Bool.not_not, gt_iff_lt, ge_iff_le] at hco6
          refine W.seq ?_
          refine W.sub [(11, _)] ⟨rfl, trivial⟩ ?_
          refine W.reg [(0, false), (1, false)] (by kernel_rfl) ?_ -- region 12
          intro K hK
          refine x_move rfl rfl rfl rfl ?_
          refine x_assign rfl rfl rfl rfl ?_
          refine Ex.done (hK _ _ ?_)
          refine At.then_n ?_
          refine W.ret ?_
          refine At.blk_r ?_
          refine At.loop_r ?_
          refine At.blk_r ?_
          refine At.ret1 (.tmp 4) rfl ⟨rfl, trivial⟩ ?_ -- ret4
          exact ⟨by rw [hcmp]; simp only [compareL]; rw [if_pos (show Lib.compareBytes x y ≠ 0 from hco6)]; rfl, M.frm⟩
        · try simp only [decide_eq_true_eq, decide_eq_false_iff_not, Bool.not_eq_true', Bool.not_eq_false', beq_iff_eq, bne_iff_ne, ne_eq, Bool.not_eq_eq_eq_not, Bool.not_true, Bool.not_false, beq_eq_false_iff_ne, bne_eq_false_iff_eq, Bool.not_not, gt_iff_lt, ge_iff_le] at hco6
          refine W.skip ?_
          refine At.blk_n ?_
          -- bk1: back to loop1
          exact At.back ((l1, l2)) ⟨rfl, rfl, trivial⟩ ⟨by rw [hcmp]; simp only [compareL]; rw [if_neg (fun h => h hco6)], hc1.tail, hc2.tail, M⟩ (by first | omega | (simp only; omega) | (simp; done) | (simp; omega))
end Go.Proofs.Ytkieecaaijlokaa
