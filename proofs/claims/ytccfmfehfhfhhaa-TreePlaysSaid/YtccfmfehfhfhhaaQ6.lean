/-
  Texts that belong together, laid into one file: V26, T13, T14, T15, FwL, T16, V28, FwS, T17, V29, T18, T19.
-/
import Derived.Test.YtccfmfehfhfhhaaQ5
namespace Go.Proofs.Ytccfmfehfhfhhaa
open Go Go.Fw Go.RowKit Go.Proofs
set_option linter.unusedVariables false
set_option linter.unusedSimpArgs false

set_option maxRecDepth 100000 in
theorem rrename_c {w00 w0 : World} {L X : List (Nat × Obj)} {v : Value} {l : List Raw} {x y : List UInt8} (M : Sep w00 (L ++ X) w0) (h : FilesK w00 L v l) (hl : l.length ≤ 900) (hnm : ∀ f ∈ l, f.1.length ≤ 1000) (hyl : y.length ≤ 1000) : Ret Try.prog 54 #[.agg #[v], strV x, strV y] w0 fun r w' => ∃ u L', r = .tuple #[.agg #[u], .int .i64 (renameL l x y).2] ∧ FilesK w00 (L ++ L') u (renameL l x y).1 ∧ Sep w00 ((L ++ L') ++ X) w' := by
  have hFK := h
  obtain ⟨pv, cv, rfl⟩ := (h.at_ M (fun y hy => by simp [hy])).shape
  refine Ret.of_W Try.func54 rfl Try.ntmps54 rfl ?_
  refine W.seq ?_
  refine W.sub [(0, _), (1, _), (2, _)] ⟨rfl, rfl, rfl, trivial⟩ ?_
  refine W.reg [(0, true), (1, true), (2, false)] (by kernel_rfl) ?_
  intro K hK
  refine x_box [_] rfl rfl rfl rfl rfl ?_
  intro bbx1 wbx1 hbbx1 hwbx1
  have M := M.acons hbbx1 hwbx1
  refine ⟨trivial, ?_⟩
  refine x_alloc [_] rfl rfl rfl ze32 rfl ?_
  intro bal1 wal1 hbal1 hwal1
  have M := M.acons hbal1 hwal1
  refine ⟨trivial, ?_⟩
  refine x_assign rfl rfl rfl rfl ?_
  refine Ex.done (hK _ _ ?_)
  refine At.then_n ?_
  refine W.seq ?_
  refine W.seq ?_
  refine W.sub [(1, _), (2, _), (3, _), (6, _)] ⟨rfl, rfl, rfl, rfl, trivial⟩ ?_
  refine W.reg [(0, false), (1, false), (2, true), (3, false), (4, false), (5, false), (6, true), (7, true), (8, false)] (by kernel_rfl) ?_
  intro K hK
  refine x_ldA [_] rfl rfl rfl Try.underlying32 rfl sz32 rfl rfl ⟨_, _, _, (by first | exact M.at_ 0 rfl | exact M.at_ 1 rfl | exact M.at_ 2 rfl | exact M.at_ 3 rfl | exact M.at_ 4 rfl | exact M.at_ 5 rfl | exact M.at_ 6 rfl | exact M.at_ 7 rfl), rfl⟩ ?_
  refine x_move rfl rfl rfl rfl ?_
  refine x_call rfl rfl rfl rfl rfl en57 (rfind_c (hFK.at_ M (fun y hy => by simp [hy])) (by omega)) ?_
  rintro r_ w1 ⟨dv, rfl, hb, hn1⟩
  have M := M.new hn1
  obtain ⟨pd, cd, rfl⟩ := hb.shape
  refine ⟨trivial, ?_⟩
  refine x_move rfl rfl rfl rfl ?_
  refine x_ext rfl rfl rfl rfl rfl ?_
  refine x_ext rfl rfl rfl rfl rfl ?_
  refine x_alloc [_, _, _] rfl rfl rfl ze25 rfl ?_
  intro bal2 wal2 hbal2 hwal2
  have M := M.acons hbal2 hwal2
  refine ⟨trivial, ?_⟩
  refine x_st [_, _, _] _ rfl rfl rfl sz25 rfl rfl rfl rfl (by first | exact M.at_ 0 rfl | exact M.at_ 1 rfl | exact M.at_ 2 rfl | exact M.at_ 3 rfl | exact M.at_ 4 rfl | exact M.at_ 5 rfl | exact M.at_ 6 rfl | exact M.at_ 7 rfl) rfl rfl rfl ?_
  intro wst1 hwst1
  have M := by first | exact M.put 0 rfl hwst1 | exact M.put 1 rfl hwst1 | exact M.put 2 rfl hwst1 | exact M.put 3 rfl hwst1 | exact M.put 4 rfl hwst1 | exact M.put 5 rfl hwst1 | exact M.put 6 rfl hwst1 | exact M.put 7 rfl hwst1
  refine ⟨trivial, ?_⟩
  refine x_assign rfl rfl rfl rfl ?_
  refine Ex.done (hK _ _ ?_)
  refine At.then_n ?_
  refine W.seq ?_
  refine W.sub [(1, _), (2, _), (3, _), (6, _), (9, _)] ⟨rfl, rfl, rfl, rfl, rfl, trivial⟩ ?_
  refine W.reg [(0, false), (1, false)] (by kernel_rfl) ?_
  intro K hK
  refine x_move rfl rfl rfl rfl ?_
  refine x_nei _ rfl rfl rfl rfl rfl rfl ?_
  refine Ex.done (hK _ _ ?_)
  refine At.then_n ?_
  refine W.cond rfl (fun hco1 => ?_) (fun hco1 => ?_)
  · try simp only [decide_eq_true_eq, decide_eq_false_iff_not, Bool.not_eq_true', Bool.not_eq_false', beq_iff_eq, bne_iff_ne, ne_eq, Bool.not_eq_eq_eq_not, Bool.not_true, Bool.not_false, beq_eq_false_iff_ne, bne_eq_false_iff_eq, Bool.not_not, gt_iff_lt, ge_iff_le] at hco1
    refine W.seq ?_
    refine W.sub [(3, _), (6, _), (9, _)] ⟨rfl, rfl, rfl, trivial⟩ ?_
    refine W.reg [(0, false), (1, false), (2, true), (3, false)] (by kernel_rfl) ?_
    intro K hK
    refine x_ldA [_] rfl rfl rfl Try.underlying32 rfl sz32 rfl rfl ⟨_, _, _, (by first | exact M.at_ 0 rfl | exact M.at_ 1 rfl | exact M.at_ 2 rfl | exact M.at_ 3 rfl | exact M.at_ 4 rfl | exact M.at_ 5 rfl | exact M.at_ 6 rfl | exact M.at_ 7 rfl), rfl⟩ ?_
    refine x_move rfl rfl rfl rfl ?_
    refine x_st [_] _ rfl rfl rfl sz32 rfl rfl rfl rfl (by first | exact M.at_ 0 rfl | exact M.at_ 1 rfl | exact M.at_ 2 rfl | exact M.at_ 3 rfl | exact M.at_ 4 rfl | exact M.at_ 5 rfl | exact M.at_ 6 rfl | exact M.at_ 7 rfl) rfl rfl rfl ?_
    intro wst2 hwst2
    have M := by first | exact M.put 0 rfl hwst2 | exact M.put 1 rfl hwst2 | exact M.put 2 rfl hwst2 | exact M.put 3 rfl hwst2 | exact M.put 4 rfl hwst2 | exact M.put 5 rfl hwst2 | exact M.put 6 rfl hwst2 | exact M.put 7 rfl hwst2
    refine ⟨trivial, ?_⟩
    refine x_assign rfl rfl rfl rfl ?_
    refine Ex.done (hK _ _ ?_)
    refine At.then_n ?_
    refine W.ret ?_
    refine At.then_r ?_
    refine At.ret2 (.cell 6 32) (.tmp 7) rfl ⟨⟨_, rfl, run_loadVarA (l := [_]) Try.underlying32 rfl sz32 ⟨_, _, _, (by first | exact M.at_ 0 rfl | exact M.at_ 1 rfl | exact M.at_ 2 rfl | exact M.at_ 3 rfl | exact M.at_ 4 rfl | exact M.at_ 5 rfl | exact M.at_ 6 rfl | exact M.at_ 7 rfl), rfl⟩ (Nat.zero_lt_succ _)⟩, rfl, trivial⟩ ?_
    have hR : renameL l x y = (l, (findL l x).2) := by unfold renameL; rw [if_neg hco1]
    rw [hR]; exact ⟨_, [], rfl, hFK.mono (fun y hy => by simp [hy]), by simpa using (St.dropL (L' := [_, _, _]) M : Sep w00 (L ++ X) _)⟩
  · try simp only [decide_eq_true_eq, decide_eq_false_iff_not, Bool.not_eq_true', Bool.not_eq_false', beq_iff_eq, bne_iff_ne, ne_eq, Bool.not_eq_eq_eq_not, Bool.not_true, Bool.not_false, beq_eq_false_iff_ne, bne_eq_false_iff_eq, Bool.not_not, gt_iff_lt, ge_iff_le] at hco1
    refine W.skip ?_
    refine At.then_n ?_
    refine W.seq ?_
    refine W.seq ?_
    refine W.sub [(1, _), (2, _), (3, _), (6, _)] ⟨rfl, rfl, rfl, rfl, trivial⟩ ?_
    refine W.reg [(0, false), (1, false)] (by kernel_rfl) ?_
    intro K hK
    refine x_move rfl rfl rfl rfl ?_
    refine x_eqS _ rfl rfl rfl rfl rfl rfl ?_
    refine Ex.done (hK _ _ ?_)
    refine At.then_n ?_
    refine W.cond rfl (fun hco2 => ?_) (fun hco2 => ?_)
    · try simp only [decide_eq_true_eq, decide_eq_false_iff_not, Bool.not_eq_true', Bool.not_eq_false', beq_iff_eq, bne_iff_ne, ne_eq, Bool.not_eq_eq_eq_not, Bool.not_true, Bool.not_false, beq_eq_false_iff_ne, bne_eq_false_iff_eq, Bool.not_not, gt_iff_lt, ge_iff_le] at hco2
      refine W.seq ?_
      refine W.sub [(3, _), (6, _)] ⟨rfl, rfl, trivial⟩ ?_
      refine W.reg [(0, false), (1, true), (2, false)] (by kernel_rfl) ?_
      intro K hK
      refine x_ldA [_] rfl rfl rfl Try.underlying32 rfl sz32 rfl rfl ⟨_, _, _, (by first | exact M.at_ 0 rfl | exact M.at_ 1 rfl | exact M.at_ 2 rfl | exact M.at_ 3 rfl | exact M.at_ 4 rfl | exact M.at_ 5 rfl | exact M.at_ 6 rfl | exact M.at_ 7 rfl), rfl⟩ ?_
      refine x_st [_] _ rfl rfl rfl sz32 rfl rfl rfl rfl (by first | exact M.at_ 0 rfl | exact M.at_ 1 rfl | exact M.at_ 2 rfl | exact M.at_ 3 rfl | exact M.at_ 4 rfl | exact M.at_ 5 rfl | exact M.at_ 6 rfl | exact M.at_ 7 rfl) rfl rfl rfl ?_
      intro wst3 hwst3
      have M := by first | exact M.put 0 rfl hwst3 | exact M.put 1 rfl hwst3 | exact M.put 2 rfl hwst3 | exact M.put 3 rfl hwst3 | exact M.put 4 rfl hwst3 | exact M.put 5 rfl hwst3 | exact M.put 6 rfl hwst3 | exact M.put 7 rfl hwst3
      refine ⟨trivial, ?_⟩
      refine x_assign rfl rfl rfl rfl ?_
      refine Ex.done (hK _ _ ?_)
      refine At.then_n ?_
      refine W.ret ?_
      refine At.then_r ?_
      refine At.ret2 (.cell 6 32) (.tmp 7) rfl ⟨⟨_, rfl, run_loadVarA (l := [_]) Try.underlying32 rfl sz32 ⟨_, _, _, (by first | exact M.at_ 0 rfl | exact M.at_ 1 rfl | exact M.at_ 2 rfl | exact M.at_ 3 rfl | exact M.at_ 4 rfl | exact M.at_ 5 rfl | exact M.at_ 6 rfl | exact M.at_ 7 rfl), rfl⟩ (Nat.zero_lt_succ _)⟩, rfl, trivial⟩ ?_
      have hR : renameL l x y = (l, 18) := by unfold renameL; rw [if_pos hco1, if_pos hco2]
      rw [hR]; exact ⟨_, [], rfl, hFK.mono (fun y hy => by simp [hy]), by simpa using (St.dropL (L' := [_, _, _]) M : Sep w00 (L ++ X) _)⟩
    · try simp only [decide_eq_true_eq, decide_eq_false_iff_not, Bool.not_eq_true', Bool.not_eq_false', beq_iff_eq, bne_iff_ne, ne_eq, Bool.not_eq_eq_eq_not, Bool.not_true, Bool.not_false, beq_eq_false_iff_ne, bne_eq_false_iff_eq, Bool.not_not, gt_iff_lt, ge_iff_le] at hco2
      refine W.skip ?_
      refine At.then_n ?_
      refine W.seq ?_
      refine W.seq ?_
      refine W.sub [(1, _), (2, _), (3, _), (6, _)] ⟨rfl, rfl, rfl, rfl, trivial⟩ ?_
      refine W.reg [(0, false), (1, false), (2, true), (3, false)] (by kernel_rfl) ?_
      intro K hK
      refine x_ldA [_] rfl rfl rfl Try.underlying32 rfl sz32 rfl rfl ⟨_, _, _, (by first | exact M.at_ 0 rfl | exact M.at_ 1 rfl | exact M.at_ 2 rfl | exact M.at_ 3 rfl | exact M.at_ 4 rfl | exact M.at_ 5 rfl | exact M.at_ 6 rfl | exact M.at_ 7 rfl), rfl⟩ ?_
      refine x_move rfl rfl rfl rfl ?_
      refine x_call rfl rfl rfl rfl rfl en71 (rhome_c (hFK.at_ M (fun y hy => by simp [hy])) (by omega)) ?_
      rintro r_ w2 ⟨rfl, hn2⟩
      have M := M.new hn2
      refine ⟨trivial, ?_⟩
      refine x_assign rfl rfl rfl rfl ?_
      refine Ex.done (hK _ _ ?_)
      refine At.then_n ?_
      refine W.seq ?_
      refine W.sub [(1, _), (2, _), (3, _), (6, _), (10, _)] ⟨rfl, rfl, rfl, rfl, rfl, trivial⟩ ?_
      refine W.reg [(0, false), (1, false)] (by kernel_rfl) ?_
      intro K hK
      refine x_move rfl rfl rfl rfl ?_
      refine x_nei _ rfl rfl rfl rfl rfl rfl ?_
      refine Ex.done (hK _ _ ?_)
      refine At.then_n ?_
      refine W.cond rfl (fun hco3 => ?_) (fun hco3 => ?_)
      · try simp only [decide_eq_true_eq, decide_eq_false_iff_not, Bool.not_eq_true', Bool.not_eq_false', beq_iff_eq, bne_iff_ne, ne_eq, Bool.not_eq_eq_eq_not, Bool.not_true, Bool.not_false, beq_eq_false_iff_ne, bne_eq_false_iff_eq, Bool.not_not, gt_iff_lt, ge_iff_le] at hco3
        refine W.seq ?_
        refine W.sub [(3, _), (6, _), (10, _)] ⟨rfl, rfl, rfl, trivial⟩ ?_
        refine W.reg [(0, false), (1, false), (2, true), (3, false)] (by kernel_rfl) ?_
        intro K hK
        refine x_ldA [_] rfl rfl rfl Try.underlying32 rfl sz32 rfl rfl ⟨_, _, _, (by first | exact M.at_ 0 rfl | exact M.at_ 1 rfl | exact M.at_ 2 rfl | exact M.at_ 3 rfl | exact M.at_ 4 rfl | exact M.at_ 5 rfl | exact M.at_ 6 rfl | exact M.at_ 7 rfl), rfl⟩ ?_
        refine x_move rfl rfl rfl rfl ?_
        refine x_st [_] _ rfl rfl rfl sz32 rfl rfl rfl rfl (by first | exact M.at_ 0 rfl | exact M.at_ 1 rfl | exact M.at_ 2 rfl | exact M.at_ 3 rfl | exact M.at_ 4 rfl | exact M.at_ 5 rfl | exact M.at_ 6 rfl | exact M.at_ 7 rfl) rfl rfl rfl ?_
        intro wst4 hwst4
        have M := by first | exact M.put 0 rfl hwst4 | exact M.put 1 rfl hwst4 | exact M.put 2 rfl hwst4 | exact M.put 3 rfl hwst4 | exact M.put 4 rfl hwst4 | exact M.put 5 rfl hwst4 | exact M.put 6 rfl hwst4 | exact M.put 7 rfl hwst4
        refine ⟨trivial, ?_⟩
        refine x_assign rfl rfl rfl rfl ?_
        refine Ex.done (hK _ _ ?_)
        refine At.then_n ?_
        refine W.ret ?_
        refine At.then_r ?_
        refine At.ret2 (.cell 6 32) (.tmp 7) rfl ⟨⟨_, rfl, run_loadVarA (l := [_]) Try.underlying32 rfl sz32 ⟨_, _, _, (by first | exact M.at_ 0 rfl | exact M.at_ 1 rfl | exact M.at_ 2 rfl | exact M.at_ 3 rfl | exact M.at_ 4 rfl | exact M.at_ 5 rfl | exact M.at_ 6 rfl | exact M.at_ 7 rfl), rfl⟩ (Nat.zero_lt_succ _)⟩, rfl, trivial⟩ ?_
        have hR : renameL l x y = (l, homeL l y 10) := by unfold renameL; rw [if_pos hco1, if_neg hco2, if_neg hco3]
        rw [hR]; exact ⟨_, [], rfl, hFK.mono (fun y hy => by simp [hy]), by simpa using (St.dropL (L' := [_, _, _]) M : Sep w00 (L ++ X) _)⟩
      · try simp only [decide_eq_true_eq, decide_eq_false_iff_not, Bool.not_eq_true', Bool.not_eq_false', beq_iff_eq, bne_iff_ne, ne_eq, Bool.not_eq_eq_eq_not, Bool.not_true, Bool.not_false, beq_eq_false_iff_ne, bne_eq_false_iff_eq, Bool.not_not, gt_iff_lt, ge_iff_le] at hco3
        refine W.skip ?_
        refine At.then_n ?_
        refine W.seq ?_
        refine W.seq ?_
        refine W.sub [(1, _), (2, _), (3, _), (6, _)] ⟨rfl, rfl, rfl, rfl, trivial⟩ ?_
        refine W.reg [(0, false), (1, false), (2, false)] (by kernel_rfl) ?_
        intro K hK
        refine x_move rfl rfl rfl rfl ?_
        refine x_move rfl rfl rfl rfl ?_
        refine x_eqS _ rfl rfl rfl rfl rfl rfl ?_
        refine Ex.done (hK _ _ ?_)
        refine At.then_n ?_
        refine W.cond rfl (fun hco4 => ?_) (fun hco4 => ?_)
        · try simp only [decide_eq_true_eq, decide_eq_false_iff_not, Bool.not_eq_true', Bool.not_eq_false', beq_iff_eq, bne_iff_ne, ne_eq, Bool.not_eq_eq_eq_not, Bool.not_true, Bool.not_false, beq_eq_false_iff_ne, bne_eq_false_iff_eq, Bool.not_not, gt_iff_lt, ge_iff_le] at hco4
          refine W.seq ?_
          refine W.sub [(3, _), (6, _)] ⟨rfl, rfl, trivial⟩ ?_
          refine W.reg [(0, false), (1, true), (2, false)] (by kernel_rfl) ?_
          intro K hK
          refine x_ldA [_] rfl rfl rfl Try.underlying32 rfl sz32 rfl rfl ⟨_, _, _, (by first | exact M.at_ 0 rfl | exact M.at_ 1 rfl | exact M.at_ 2 rfl | exact M.at_ 3 rfl | exact M.at_ 4 rfl | exact M.at_ 5 rfl | exact M.at_ 6 rfl | exact M.at_ 7 rfl), rfl⟩ ?_
          refine x_st [_] _ rfl rfl rfl sz32 rfl rfl rfl rfl (by first | exact M.at_ 0 rfl | exact M.at_ 1 rfl | exact M.at_ 2 rfl | exact M.at_ 3 rfl | exact M.at_ 4 rfl | exact M.at_ 5 rfl | exact M.at_ 6 rfl | exact M.at_ 7 rfl) rfl rfl rfl ?_
          intro wst5 hwst5
          have M := by first | exact M.put 0 rfl hwst5 | exact M.put 1 rfl hwst5 | exact M.put 2 rfl hwst5 | exact M.put 3 rfl hwst5 | exact M.put 4 rfl hwst5 | exact M.put 5 rfl hwst5 | exact M.put 6 rfl hwst5 | exact M.put 7 rfl hwst5
          refine ⟨trivial, ?_⟩
          refine x_assign rfl rfl rfl rfl ?_
          refine Ex.done (hK _ _ ?_)
          refine At.then_n ?_
          refine W.ret ?_
          refine At.then_r ?_
          refine At.ret2 (.cell 6 32) (.tmp 7) rfl ⟨⟨_, rfl, run_loadVarA (l := [_]) Try.underlying32 rfl sz32 ⟨_, _, _, (by first | exact M.at_ 0 rfl | exact M.at_ 1 rfl | exact M.at_ 2 rfl | exact M.at_ 3 rfl | exact M.at_ 4 rfl | exact M.at_ 5 rfl | exact M.at_ 6 rfl | exact M.at_ 7 rfl), rfl⟩ (Nat.zero_lt_succ _)⟩, rfl, trivial⟩ ?_
          have hR : renameL l x y = (l, 0) := by unfold renameL; rw [if_pos hco1, if_neg hco2, if_pos hco3, if_pos hco4]
          rw [hR]; exact ⟨_, [], rfl, hFK.mono (fun y hy => by simp [hy]), by simpa using (St.dropL (L' := [_, _, _]) M : Sep w00 (L ++ X) _)⟩
        · try simp only [decide_eq_true_eq, decide_eq_false_iff_not, Bool.not_eq_true', Bool.not_eq_false', beq_iff_eq, bne_iff_ne, ne_eq, Bool.not_eq_eq_eq_not, Bool.not_true, Bool.not_false, beq_eq_false_iff_ne, bne_eq_false_iff_eq, Bool.not_not, gt_iff_lt, ge_iff_le] at hco4
          refine W.skip ?_
          refine At.then_n ?_
          refine W.seq ?_
          refine W.seq ?_
          refine W.sub [(1, _), (2, _), (3, _), (6, _)] ⟨rfl, rfl, rfl, rfl, trivial⟩ ?_
          refine W.reg [(0, false), (1, false), (2, true)] (by kernel_rfl) ?_
          intro K hK
          refine x_move rfl rfl rfl rfl ?_
          refine x_move rfl rfl rfl rfl ?_
          refine x_call rfl rfl rfl rfl rfl en18 (runder_c) ?_
          rintro r wcall3 ⟨rfl, hncall3⟩
          have M := M.new hncall3
          refine ⟨trivial, ?_⟩
          refine Ex.done (hK _ _ ?_)
          refine At.then_n ?_
          refine W.cond rfl (fun hco5 => ?_) (fun hco5 => ?_)
          · try simp only [decide_eq_true_eq, decide_eq_false_iff_not, Bool.not_eq_true', Bool.not_eq_false', beq_iff_eq, bne_iff_ne, ne_eq, Bool.not_eq_eq_eq_not, Bool.not_true, Bool.not_false, beq_eq_false_iff_ne, bne_eq_false_iff_eq, Bool.not_not, gt_iff_lt, ge_iff_le] at hco5
            refine W.seq ?_
            refine W.sub [(3, _), (6, _)] ⟨rfl, rfl, trivial⟩ ?_
            refine W.reg [(0, false), (1, true), (2, false)] (by kernel_rfl) ?_
            intro K hK
            refine x_ldA [_] rfl rfl rfl Try.underlying32 rfl sz32 rfl rfl ⟨_, _, _, (by first | exact M.at_ 0 rfl | exact M.at_ 1 rfl | exact M.at_ 2 rfl | exact M.at_ 3 rfl | exact M.at_ 4 rfl | exact M.at_ 5 rfl | exact M.at_ 6 rfl | exact M.at_ 7 rfl), rfl⟩ ?_
            refine x_st [_] _ rfl rfl rfl sz32 rfl rfl rfl rfl (by first | exact M.at_ 0 rfl | exact M.at_ 1 rfl | exact M.at_ 2 rfl | exact M.at_ 3 rfl | exact M.at_ 4 rfl | exact M.at_ 5 rfl | exact M.at_ 6 rfl | exact M.at_ 7 rfl) rfl rfl rfl ?_
            intro wst6 hwst6
            have M := by first | exact M.put 0 rfl hwst6 | exact M.put 1 rfl hwst6 | exact M.put 2 rfl hwst6 | exact M.put 3 rfl hwst6 | exact M.put 4 rfl hwst6 | exact M.put 5 rfl hwst6 | exact M.put 6 rfl hwst6 | exact M.put 7 rfl hwst6
            refine ⟨trivial, ?_⟩
            refine x_assign rfl rfl rfl rfl ?_
            refine Ex.done (hK _ _ ?_)
            refine At.then_n ?_
            refine W.ret ?_
            refine At.then_r ?_
            refine At.ret2 (.cell 6 32) (.tmp 7) rfl ⟨⟨_, rfl, run_loadVarA (l := [_]) Try.underlying32 rfl sz32 ⟨_, _, _, (by first | exact M.at_ 0 rfl | exact M.at_ 1 rfl | exact M.at_ 2 rfl | exact M.at_ 3 rfl | exact M.at_ 4 rfl | exact M.at_ 5 rfl | exact M.at_ 6 rfl | exact M.at_ 7 rfl), rfl⟩ (Nat.zero_lt_succ _)⟩, rfl, trivial⟩ ?_
            have hR : renameL l x y = (l, 18) := by unfold renameL; rw [if_pos hco1, if_neg hco2, if_pos hco3, if_neg hco4, if_pos hco5]
            rw [hR]; exact ⟨_, [], rfl, hFK.mono (fun y hy => by simp [hy]), by simpa using (St.dropL (L' := [_, _, _]) M : Sep w00 (L ++ X) _)⟩
          · try simp only [decide_eq_true_eq, decide_eq_false_iff_not, Bool.not_eq_true', Bool.not_eq_false', beq_iff_eq, bne_iff_ne, ne_eq, Bool.not_eq_eq_eq_not, Bool.not_true, Bool.not_false, beq_eq_false_iff_ne, bne_eq_false_iff_eq, Bool.not_not, gt_iff_lt, ge_iff_le] at hco5
            refine W.skip ?_
            refine At.then_n ?_
            refine W.seq ?_
            refine W.seq ?_
            refine W.sub [(1, _), (2, _), (3, _), (6, _)] ⟨rfl, rfl, rfl, rfl, trivial⟩ ?_
            refine W.reg [(0, false), (1, false), (2, true), (3, false)] (by kernel_rfl) ?_
            intro K hK
            refine x_ldA [_] rfl rfl rfl Try.underlying32 rfl sz32 rfl rfl ⟨_, _, _, (by first | exact M.at_ 0 rfl | exact M.at_ 1 rfl | exact M.at_ 2 rfl | exact M.at_ 3 rfl | exact M.at_ 4 rfl | exact M.at_ 5 rfl | exact M.at_ 6 rfl | exact M.at_ 7 rfl), rfl⟩ ?_
            refine x_move rfl rfl rfl rfl ?_
            refine x_call rfl rfl rfl rfl rfl en34 (at_c (hFK.at_ M (fun y hy => by simp [hy])) (by omega)) ?_
            rintro r_ w4 ⟨rfl, hn4⟩
            have M := M.new hn4
            refine ⟨trivial, ?_⟩
            refine x_geq _ rfl rfl rfl rfl rfl rfl ?_
            refine Ex.done (hK _ _ ?_)
            refine At.then_n ?_
            refine W.cond rfl (fun hco6 => ?_) (fun hco6 => ?_)
            · try simp only [decide_eq_true_eq, decide_eq_false_iff_not, Bool.not_eq_true', Bool.not_eq_false', beq_iff_eq, bne_iff_ne, ne_eq, Bool.not_eq_eq_eq_not, Bool.not_true, Bool.not_false, beq_eq_false_iff_ne, bne_eq_false_iff_eq, Bool.not_not, gt_iff_lt, ge_iff_le] at hco6
              refine W.seq ?_
              refine W.sub [(3, _), (6, _)] ⟨rfl, rfl, trivial⟩ ?_
              refine W.reg [(0, false), (1, true), (2, false)] (by kernel_rfl) ?_
              intro K hK
              refine x_ldA [_] rfl rfl rfl Try.underlying32 rfl sz32 rfl rfl ⟨_, _, _, (by first | exact M.at_ 0 rfl | exact M.at_ 1 rfl | exact M.at_ 2 rfl | exact M.at_ 3 rfl | exact M.at_ 4 rfl | exact M.at_ 5 rfl | exact M.at_ 6 rfl | exact M.at_ 7 rfl), rfl⟩ ?_
              refine x_st [_] _ rfl rfl rfl sz32 rfl rfl rfl rfl (by first | exact M.at_ 0 rfl | exact M.at_ 1 rfl | exact M.at_ 2 rfl | exact M.at_ 3 rfl | exact M.at_ 4 rfl | exact M.at_ 5 rfl | exact M.at_ 6 rfl | exact M.at_ 7 rfl) rfl rfl rfl ?_
              intro wst7 hwst7
              have M := by first | exact M.put 0 rfl hwst7 | exact M.put 1 rfl hwst7 | exact M.put 2 rfl hwst7 | exact M.put 3 rfl hwst7 | exact M.put 4 rfl hwst7 | exact M.put 5 rfl hwst7 | exact M.put 6 rfl hwst7 | exact M.put 7 rfl hwst7
              refine ⟨trivial, ?_⟩
              refine x_assign rfl rfl rfl rfl ?_
              refine Ex.done (hK _ _ ?_)
              refine At.then_n ?_
              refine W.ret ?_
              refine At.then_r ?_
              refine At.ret2 (.cell 6 32) (.tmp 7) rfl ⟨⟨_, rfl, run_loadVarA (l := [_]) Try.underlying32 rfl sz32 ⟨_, _, _, (by first | exact M.at_ 0 rfl | exact M.at_ 1 rfl | exact M.at_ 2 rfl | exact M.at_ 3 rfl | exact M.at_ 4 rfl | exact M.at_ 5 rfl | exact M.at_ 6 rfl | exact M.at_ 7 rfl), rfl⟩ (Nat.zero_lt_succ _)⟩, rfl, trivial⟩ ?_
              have hR : renameL l x y = (l, 10) := by unfold renameL; rw [if_pos hco1, if_neg hco2, if_pos hco3, if_neg hco4, if_neg (by simp [hco5]), if_pos hco6]
              rw [hR]; exact ⟨_, [], rfl, hFK.mono (fun y hy => by simp [hy]), by simpa using (St.dropL (L' := [_, _, _]) M : Sep w00 (L ++ X) _)⟩
            · try simp only [decide_eq_true_eq, decide_eq_false_iff_not, Bool.not_eq_true', Bool.not_eq_false', beq_iff_eq, bne_iff_ne, ne_eq, Bool.not_eq_eq_eq_not, Bool.not_true, Bool.not_false, beq_eq_false_iff_ne, bne_eq_false_iff_eq, Bool.not_not, gt_iff_lt, ge_iff_le] at hco6
              have hRR : renameL l x y = if l.any (badN x y) = true then (l, 8) else (movL x y l, 0) := by unfold renameL; rw [if_pos hco1, if_neg hco2, if_pos hco3, if_neg hco4, if_neg (by simp [hco5]), if_neg hco6]
              refine W.skip ?_
              refine At.then_n ?_
              refine W.seq ?_
              refine W.sub [(1, _), (2, _), (3, _), (6, _)] ⟨rfl, rfl, rfl, rfl, trivial⟩ ?_
              refine W.reg [(0, false), (1, true), (2, true)] (by kernel_rfl) ?_
              intro K hK
              refine x_build [_] rfl rfl rfl pl32 ze32 rfl rfl rfl ?_
              refine x_alloc [_] rfl rfl rfl ze32 rfl ?_
              intro bal3 wal3 hbal3 hwal3
              have M := M.acons hbal3 hwal3
              refine ⟨trivial, ?_⟩
              refine x_st [_] _ rfl rfl rfl sz32 rfl rfl rfl rfl (by first | exact M.at_ 0 rfl | exact M.at_ 1 rfl | exact M.at_ 2 rfl | exact M.at_ 3 rfl | exact M.at_ 4 rfl | exact M.at_ 5 rfl | exact M.at_ 6 rfl | exact M.at_ 7 rfl) rfl rfl rfl ?_
              intro wst8 hwst8
              have M := by first | exact M.put 0 rfl hwst8 | exact M.put 1 rfl hwst8 | exact M.put 2 rfl hwst8 | exact M.put 3 rfl hwst8 | exact M.put 4 rfl hwst8 | exact M.put 5 rfl hwst8 | exact M.put 6 rfl hwst8 | exact M.put 7 rfl hwst8
              refine ⟨trivial, ?_⟩
              refine Ex.done (hK _ _ ?_)
              refine At.then_n ?_
              refine W.seq ?_
              refine W.seq ?_
              refine W.sub [(1, _), (2, _), (3, _), (6, _), (11, _)] ⟨rfl, rfl, rfl, rfl, rfl, trivial⟩ ?_
              refine W.reg [(0, false)] (by kernel_rfl) ?_
              intro K hK
              refine x_assign rfl rfl rfl rfl ?_
              refine Ex.done (hK _ _ ?_)
              refine At.then_n ?_
              refine W.block ?_
              refine W.loop (σ := Nat × Value × List (Nat × Obj)) (fun q => [(1, _), (2, _), (3, _), (6, _), (11, _), (12, .int .i64 ((q.1 : Nat) : Int))]) (fun q w => q.1 ≤ l.length ∧ FilesK w00 (L ++ q.2.2) q.2.1 (movL x y (l.take q.1)) ∧ (∀ f ∈ l.take q.1, badN x y f = false) ∧ Sep w00 ([(bal3, .cells [q.2.1].toArray 32 (0, 0)), (bal2, .cells [strV (findL l x).1.1, .bool (findL l x).1.2.1, .slice pd (findL l x).1.2.2.length cd].toArray 25 (0, 0)), (bal1, .cells [.slice none 0 0].toArray 32 (0, 0)), (bbx1, .cells [.slice pv l.length cv].toArray 32 (0, 0))] ++ ((L ++ q.2.2) ++ X)) w) (fun q => l.length - q.1) (0, .slice none 0 0, []) ⟨rfl, rfl, rfl, rfl, rfl, rfl, trivial⟩ ⟨Nat.zero_le _, (FilesK.own (L := []) ⟨[], [], [], rfl, rfl, OwL.nil, by simp⟩).mono (by simp), by simp, by simpa using M⟩ ?_
              rintro ⟨j, u, L3⟩ w ⟨hj, hu, hno, M⟩
              simp only at hj hu hno M
              obtain ⟨pu, cu, rfl⟩ := (hu.at_ M (fun y hy => List.mem_append_right _ (List.mem_append_left _ hy))).shape
              have hmlen : (movL x y (l.take j)).length = j := by unfold movL; rw [foldW_len, List.length_take]; simp; omega
              have hmnm : ∀ z ∈ movL x y (l.take j), z.1.length ≤ 2000 := fun z hz => by
                rcases foldW_mem.1 hz with hz | ⟨f, hf, rfl⟩
                · cases hz
                · exact mvN_len (hnm f (List.mem_of_mem_take hf)) hyl
              refine W.seq ?_
              refine W.seq ?_
              refine W.sub [(1, _), (2, _), (3, _), (6, _), (11, _), (12, _)] ⟨rfl, rfl, rfl, rfl, rfl, rfl, trivial⟩ ?_
              refine W.reg [(0, false), (1, false), (2, false), (3, false), (4, false)] (by kernel_rfl) ?_
              intro K hK
              refine x_move rfl rfl rfl rfl ?_
              refine x_fa rfl rfl rfl fo32_0 rfl ?_
              refine x_ld rfl rfl rfl Try.underlying22 rfl rfl (cell_of (by first | exact M.at_ 0 rfl | exact M.at_ 1 rfl | exact M.at_ 2 rfl | exact M.at_ 3 rfl | exact M.at_ 4 rfl | exact M.at_ 5 rfl | exact M.at_ 6 rfl | exact M.at_ 7 rfl) rfl) ?_
              refine x_len rfl rfl rfl rfl Try.underlying22 rfl ?_
              refine x_lss _ rfl rfl rfl rfl rfl rfl ?_
              refine Ex.done (hK _ _ ?_)
              refine At.then_n ?_
              refine W.cond rfl (fun hco7 => ?_) (fun hco7 => ?_)
              · try simp only [decide_eq_true_eq, decide_eq_false_iff_not, Bool.not_eq_true', Bool.not_eq_false', beq_iff_eq, bne_iff_ne, ne_eq, Bool.not_eq_eq_eq_not, Bool.not_true, Bool.not_false, beq_eq_false_iff_ne, bne_eq_false_iff_eq, Bool.not_not, gt_iff_lt, ge_iff_le] at hco7
                obtain ⟨f, hf⟩ := get_lt (l := l) (q := j) (by omega)
                have hfl := hnm f (List.mem_of_getElem? hf)
                have hfa := hFK.at_ M (fun y hy => by simp [hy])
                obtain ⟨bb, off, rfl, _⟩ := hfa.blk (j := j) (by omega)
                obtain ⟨pf, cf, hfk, hrow⟩ := hFK.get hf M (fun y hy => by simp [hy])
                have hst := movL_step (x := x) (y := y) hf
                refine W.skip ?_
                refine At.then_n ?_
                refine W.seq ?_
                refine W.block ?_
                refine W.seq ?_
                refine W.sub [(1, _), (2, _), (3, _), (6, _), (11, _), (12, _)] ⟨rfl, rfl, rfl, rfl, rfl, rfl, trivial⟩ ?_
                refine W.reg [(0, false), (1, false), (2, false), (3, false), (4, false), (5, true), (6, true)] (by kernel_rfl) ?_
                intro K hK
                refine x_fa rfl rfl rfl fo32_0 rfl ?_
                refine x_ld rfl rfl rfl Try.underlying22 rfl rfl (cell_of (by first | exact M.at_ 0 rfl | exact M.at_ 1 rfl | exact M.at_ 2 rfl | exact M.at_ 3 rfl | exact M.at_ 4 rfl | exact M.at_ 5 rfl | exact M.at_ 6 rfl | exact M.at_ 7 rfl) rfl) ?_
                refine x_move rfl rfl rfl rfl ?_
                refine x_ia j rfl rfl rfl Try.underlying22 sz25 rfl rfl rfl (by omega) ?_
                refine x_ldA [_, _, _] rfl rfl rfl Try.underlying25 rfl sz25 rfl rfl hrow ?_
                refine x_alloc [_, _, _] rfl rfl rfl ze25 rfl ?_
                intro bal4 wal4 hbal4 hwal4
                have M := M.acons hbal4 hwal4
                refine ⟨trivial, ?_⟩
                refine x_st [_, _, _] _ rfl rfl rfl sz25 rfl rfl rfl rfl (by first | exact M.at_ 0 rfl | exact M.at_ 1 rfl | exact M.at_ 2 rfl | exact M.at_ 3 rfl | exact M.at_ 4 rfl | exact M.at_ 5 rfl | exact M.at_ 6 rfl | exact M.at_ 7 rfl) rfl rfl rfl ?_
                intro wst9 hwst9
                have M := by first | exact M.put 0 rfl hwst9 | exact M.put 1 rfl hwst9 | exact M.put 2 rfl hwst9 | exact M.put 3 rfl hwst9 | exact M.put 4 rfl hwst9 | exact M.put 5 rfl hwst9 | exact M.put 6 rfl hwst9 | exact M.put 7 rfl hwst9
                refine ⟨trivial, ?_⟩
                refine Ex.done (hK _ _ ?_)
                refine At.then_n ?_
                refine W.seq ?_
                refine W.seq ?_
                refine W.sub [(1, _), (2, _), (3, _), (6, _), (11, _), (12, _), (13, _)] ⟨rfl, rfl, rfl, rfl, rfl, rfl, rfl, trivial⟩ ?_
                refine W.reg [(0, false), (1, false), (2, false), (3, true)] (by kernel_rfl) ?_
                intro K hK
                refine x_fa rfl rfl rfl fo25_0 rfl ?_
                refine x_ld rfl rfl rfl Try.underlying9 rfl rfl (cell_of (by first | exact M.at_ 0 rfl | exact M.at_ 1 rfl | exact M.at_ 2 rfl | exact M.at_ 3 rfl | exact M.at_ 4 rfl | exact M.at_ 5 rfl | exact M.at_ 6 rfl | exact M.at_ 7 rfl) rfl) ?_
                refine x_move rfl rfl rfl rfl ?_
                refine x_call rfl rfl rfl rfl rfl en18 (runder_c) ?_
                rintro r wcall5 ⟨rfl, hncall5⟩
                have M := M.new hncall5
                refine ⟨trivial, ?_⟩
                refine Ex.done (hK _ _ ?_)
                refine At.then_n ?_
                refine W.cond rfl (fun hco8 => ?_) (fun hco8 => ?_)
                · try simp only [decide_eq_true_eq, decide_eq_false_iff_not, Bool.not_eq_true', Bool.not_eq_false', beq_iff_eq, bne_iff_ne, ne_eq, Bool.not_eq_eq_eq_not, Bool.not_true, Bool.not_false, beq_eq_false_iff_ne, bne_eq_false_iff_eq, Bool.not_not, gt_iff_lt, ge_iff_le] at hco8
                  have hmv : mvN x y f = (y ++ f.1.drop x.length, f.2) := by unfold mvN; rw [if_pos hco8]
                  refine W.seq ?_
                  refine W.sub [(1, _), (2, _), (3, _), (6, _), (11, _), (12, _), (13, _)] ⟨rfl, rfl, rfl, rfl, rfl, rfl, rfl, trivial⟩ ?_
                  refine W.reg [(0, false), (1, false), (2, false), (3, false), (4, false), (5, false), (6, false), (7, false), (8, true)] (by kernel_rfl) ?_
                  intro K hK
                  refine x_move rfl rfl rfl rfl ?_
                  refine x_fa rfl rfl rfl fo25_0 rfl ?_
                  refine x_ld rfl rfl rfl Try.underlying9 rfl rfl (cell_of (by first | exact M.at_ 0 rfl | exact M.at_ 1 rfl | exact M.at_ 2 rfl | exact M.at_ 3 rfl | exact M.at_ 4 rfl | exact M.at_ 5 rfl | exact M.at_ 6 rfl | exact M.at_ 7 rfl) rfl) ?_
                  refine x_move rfl rfl rfl rfl ?_
                  refine x_lenS rfl rfl rfl rfl Try.underlying9 rfl ?_
                  refine x_sslS x.length rfl rfl rfl Try.underlying9 rfl rfl rfl (by have := under_len hco8; simp; omega) ?_
                  refine x_catS rfl rfl rfl rfl rfl (by simp; omega) ?_
                  refine x_fa rfl rfl rfl fo25_0 rfl ?_
                  refine x_st [_] _ rfl rfl rfl sz9 rfl rfl rfl rfl (by first | exact M.at_ 0 rfl | exact M.at_ 1 rfl | exact M.at_ 2 rfl | exact M.at_ 3 rfl | exact M.at_ 4 rfl | exact M.at_ 5 rfl | exact M.at_ 6 rfl | exact M.at_ 7 rfl) rfl rfl rfl ?_
                  intro wst10 hwst10
                  have M := by first | exact M.put 0 rfl hwst10 | exact M.put 1 rfl hwst10 | exact M.put 2 rfl hwst10 | exact M.put 3 rfl hwst10 | exact M.put 4 rfl hwst10 | exact M.put 5 rfl hwst10 | exact M.put 6 rfl hwst10 | exact M.put 7 rfl hwst10
                  refine ⟨trivial, ?_⟩
                  refine Ex.done (hK _ _ ?_)
                  refine At.then_n ?_
                  refine W.seq ?_
                  refine W.sub [(1, _), (2, _), (3, _), (6, _), (11, _), (12, _), (13, _)] ⟨rfl, rfl, rfl, rfl, rfl, rfl, rfl, trivial⟩ ?_
                  refine W.reg [(0, false), (1, false), (2, true), (3, false), (4, false), (5, false), (6, false), (7, false)] (by kernel_rfl) ?_
                  intro K hK
                  refine x_fa rfl rfl rfl fo25_0 rfl ?_
                  refine x_ld rfl rfl rfl Try.underlying9 rfl rfl (cell_of (by first | exact M.at_ 0 rfl | exact M.at_ 1 rfl | exact M.at_ 2 rfl | exact M.at_ 3 rfl | exact M.at_ 4 rfl | exact M.at_ 5 rfl | exact M.at_ 6 rfl | exact M.at_ 7 rfl) rfl) ?_
                  refine x_call rfl rfl rfl rfl rfl en33 (rsplit_c) ?_
                  rintro r_ w6 ⟨v6, L6, rfl, M6, _⟩
                  have M := M.grow M6
                  refine ⟨trivial, ?_⟩
                  refine x_move rfl rfl rfl rfl ?_
                  refine x_ext rfl rfl rfl rfl rfl ?_
                  refine x_ext rfl rfl rfl rfl rfl ?_
                  refine x_assign rfl rfl rfl rfl ?_
                  refine x_assign rfl rfl rfl rfl ?_
                  refine Ex.done (hK _ _ ?_)
                  refine At.then_n ?_
                  refine W.seq ?_
                  refine W.sub [(1, _), (2, _), (3, _), (6, _), (11, _), (12, _), (13, _), (15, _)] ⟨rfl, rfl, rfl, rfl, rfl, rfl, rfl, rfl, trivial⟩ ?_
                  refine W.reg [(0, false), (1, false)] (by kernel_rfl) ?_
                  intro K hK
                  refine x_move rfl rfl rfl rfl ?_
                  refine x_nei _ rfl rfl rfl rfl rfl rfl ?_
                  refine Ex.done (hK _ _ ?_)
                  refine At.then_n ?_
                  refine W.cond rfl (fun hco9 => ?_) (fun hco9 => ?_)
                  · try simp only [decide_eq_true_eq, decide_eq_false_iff_not, Bool.not_eq_true', Bool.not_eq_false', beq_iff_eq, bne_iff_ne, ne_eq, Bool.not_eq_eq_eq_not, Bool.not_true, Bool.not_false, beq_eq_false_iff_ne, bne_eq_false_iff_eq, Bool.not_not, gt_iff_lt, ge_iff_le] at hco9
                    refine W.seq ?_
                    refine W.sub [(3, _), (6, _)] ⟨rfl, rfl, trivial⟩ ?_
                    refine W.reg [(0, false), (1, true), (2, false)] (by kernel_rfl) ?_
                    intro K hK
                    refine x_ldA [_] rfl rfl rfl Try.underlying32 rfl sz32 rfl rfl ⟨_, _, _, (by first | exact M.at_ 0 rfl | exact M.at_ 1 rfl | exact M.at_ 2 rfl | exact M.at_ 3 rfl | exact M.at_ 4 rfl | exact M.at_ 5 rfl | exact M.at_ 6 rfl | exact M.at_ 7 rfl), rfl⟩ ?_
                    refine x_st [_] _ rfl rfl rfl sz32 rfl rfl rfl rfl (by first | exact M.at_ 0 rfl | exact M.at_ 1 rfl | exact M.at_ 2 rfl | exact M.at_ 3 rfl | exact M.at_ 4 rfl | exact M.at_ 5 rfl | exact M.at_ 6 rfl | exact M.at_ 7 rfl) rfl rfl rfl ?_
                    intro wst11 hwst11
                    have M := by first | exact M.put 0 rfl hwst11 | exact M.put 1 rfl hwst11 | exact M.put 2 rfl hwst11 | exact M.put 3 rfl hwst11 | exact M.put 4 rfl hwst11 | exact M.put 5 rfl hwst11 | exact M.put 6 rfl hwst11 | exact M.put 7 rfl hwst11
                    refine ⟨trivial, ?_⟩
                    refine x_assign rfl rfl rfl rfl ?_
                    refine Ex.done (hK _ _ ?_)
                    refine At.then_n ?_
                    refine W.ret ?_
                    refine At.then_r ?_
                    refine At.blk_r ?_
                    refine At.then_r ?_
                    refine At.loop_r ?_
                    refine At.blk_r ?_
                    refine At.then_r ?_
                    refine At.ret2 (.cell 6 32) (.tmp 7) rfl ⟨⟨_, rfl, run_loadVarA (l := [_]) Try.underlying32 rfl sz32 ⟨_, _, _, (by first | exact M.at_ 0 rfl | exact M.at_ 1 rfl | exact M.at_ 2 rfl | exact M.at_ 3 rfl | exact M.at_ 4 rfl | exact M.at_ 5 rfl | exact M.at_ 6 rfl | exact M.at_ 7 rfl), rfl⟩ (Nat.zero_lt_succ _)⟩, rfl, trivial⟩ ?_
                    have hbd : l.any (badN x y) = true := by
                      rw [List.any_eq_true]
                      exact ⟨f, List.mem_of_getElem? hf, by unfold badN; rw [hmv]; simp [hco8, hco9]⟩
                    rw [hRR, if_pos hbd]; exact ⟨_, L3, rfl, hFK.mono (fun y hy => by simp [hy]), (St.dropL (L' := [_, _, _, _, _]) M.dropR)⟩
                  · try simp only [decide_eq_true_eq, decide_eq_false_iff_not, Bool.not_eq_true', Bool.not_eq_false', beq_iff_eq, bne_iff_ne, ne_eq, Bool.not_eq_eq_eq_not, Bool.not_true, Bool.not_false, beq_eq_false_iff_ne, bne_eq_false_iff_eq, Bool.not_not, gt_iff_lt, ge_iff_le] at hco9
                    have M := M.dropR
                    refine W.skip ?_
                    refine At.then_n ?_
                    refine W.sub [(1, _), (2, _), (3, _), (6, _), (11, _), (12, _), (13, _)] ⟨rfl, rfl, rfl, rfl, rfl, rfl, rfl, trivial⟩ ?_
                    refine W.reg [(0, false), (1, false), (2, true), (3, true)] (by kernel_rfl) ?_
                    intro K hK
                    refine x_ldA [_] rfl rfl rfl Try.underlying32 rfl sz32 rfl rfl ⟨_, _, _, (by first | exact M.at_ 0 rfl | exact M.at_ 1 rfl | exact M.at_ 2 rfl | exact M.at_ 3 rfl | exact M.at_ 4 rfl | exact M.at_ 5 rfl | exact M.at_ 6 rfl | exact M.at_ 7 rfl), rfl⟩ ?_
                    refine x_ldA [_, _, _] rfl rfl rfl Try.underlying25 rfl sz25 rfl rfl ⟨_, _, _, (by first | exact M.at_ 0 rfl | exact M.at_ 1 rfl | exact M.at_ 2 rfl | exact M.at_ 3 rfl | exact M.at_ 4 rfl | exact M.at_ 5 rfl | exact M.at_ 6 rfl | exact M.at_ 7 rfl), rfl⟩ ?_
                    refine x_call rfl rfl rfl rfl rfl en35 (with_c (x := (y ++ f.1.drop x.length, f.2)) (St.inn2 (F := [_, _, _, _, _]) M) hu (hfk.mono (fun y hy => by simp [hy])) (by omega) hmnm (by simp; omega)) ?_
                    rintro r_ w7 ⟨u2, L7, rfl, hu2, M⟩
                    have M := M.out2 [_, _, _, _, _]
                    rw [← hmv, ← hst] at hu2
                    obtain ⟨pu2, cu2, rfl⟩ := (hu2.at_ M (fun y hy => List.mem_append_right _ (List.mem_append_left _ hy))).shape
                    refine ⟨trivial, ?_⟩
                    refine x_st [_] _ rfl rfl rfl sz32 rfl rfl rfl rfl (by first | exact M.at_ 0 rfl | exact M.at_ 1 rfl | exact M.at_ 2 rfl | exact M.at_ 3 rfl | exact M.at_ 4 rfl | exact M.at_ 5 rfl | exact M.at_ 6 rfl | exact M.at_ 7 rfl) rfl rfl rfl ?_
                    intro wst12 hwst12
                    have M := by first | exact M.put 0 rfl hwst12 | exact M.put 1 rfl hwst12 | exact M.put 2 rfl hwst12 | exact M.put 3 rfl hwst12 | exact M.put 4 rfl hwst12 | exact M.put 5 rfl hwst12 | exact M.put 6 rfl hwst12 | exact M.put 7 rfl hwst12
                    refine ⟨trivial, ?_⟩
                    refine Ex.done (hK _ _ ?_)
                    refine At.blk_n ?_
                    refine At.then_n ?_
                    refine W.sub [(1, _), (2, _), (3, _), (6, _), (11, _), (12, _)] ⟨rfl, rfl, rfl, rfl, rfl, rfl, trivial⟩ ?_
                    refine W.reg [(0, false), (1, false), (2, false)] (by kernel_rfl) ?_
                    intro K hK
                    refine x_move rfl rfl rfl rfl ?_
                    refine x_add _ rfl rfl rfl rfl rfl (wadd (by omega) (by omega)) ?_
                    refine x_assign rfl rfl rfl rfl ?_
                    refine Ex.done (hK _ _ ?_)
                    exact At.back ((j + 1, _, L3 ++ L7)) ⟨rfl, rfl, rfl, rfl, rfl, rfl, trivial⟩ ⟨by omega, by simpa only [List.append_assoc] using hu2, fun z hz => by
                      rw [take_mem hf] at hz
                      rcases List.mem_append.1 hz with hz | hz
                      · exact hno z hz
                      · rw [List.mem_singleton.1 hz]; unfold badN; rw [hmv]; simp [hco9], by
                      have M2 : Sep w00 ([(bal3, .cells [.slice pu2 (movL x y (l.take (j + 1))).length cu2].toArray 32 (0, 0)), (bal2, .cells [strV (findL l x).1.1, .bool (findL l x).1.2.1, .slice pd (findL l x).1.2.2.length cd].toArray 25 (0, 0)), (bal1, .cells [.slice none 0 0].toArray 32 (0, 0)), (bbx1, .cells [.slice (some ⟨bb, off, none⟩) l.length cv].toArray 32 (0, 0))] ++ (((L ++ L3) ++ L7) ++ X)) _ := M.tail
                      simpa only [List.append_assoc] using M2⟩ (by first | omega | (simp only; omega) | (simp; done) | (simp; omega))
                · try simp only [decide_eq_true_eq, decide_eq_false_iff_not, Bool.not_eq_true', Bool.not_eq_false', beq_iff_eq, bne_iff_ne, ne_eq, Bool.not_eq_eq_eq_not, Bool.not_true, Bool.not_false, beq_eq_false_iff_ne, bne_eq_false_iff_eq, Bool.not_not, gt_iff_lt, ge_iff_le] at hco8
                  have hmv : mvN x y f = f := by unfold mvN; rw [if_neg (by simp [hco8])]
                  refine W.skip ?_
                  refine At.then_n ?_
                  refine W.sub [(1, _), (2, _), (3, _), (6, _), (11, _), (12, _), (13, _)] ⟨rfl, rfl, rfl, rfl, rfl, rfl, rfl, trivial⟩ ?_
                  refine W.reg [(0, false), (1, false), (2, true), (3, true)] (by kernel_rfl) ?_
                  intro K hK
                  refine x_ldA [_] rfl rfl rfl Try.underlying32 rfl sz32 rfl rfl ⟨_, _, _, (by first | exact M.at_ 0 rfl | exact M.at_ 1 rfl | exact M.at_ 2 rfl | exact M.at_ 3 rfl | exact M.at_ 4 rfl | exact M.at_ 5 rfl | exact M.at_ 6 rfl | exact M.at_ 7 rfl), rfl⟩ ?_
                  refine x_ldA [_, _, _] rfl rfl rfl Try.underlying25 rfl sz25 rfl rfl ⟨_, _, _, (by first | exact M.at_ 0 rfl | exact M.at_ 1 rfl | exact M.at_ 2 rfl | exact M.at_ 3 rfl | exact M.at_ 4 rfl | exact M.at_ 5 rfl | exact M.at_ 6 rfl | exact M.at_ 7 rfl), rfl⟩ ?_
                  refine x_call rfl rfl rfl rfl rfl en35 (with_c (x := f) (St.inn2 (F := [_, _, _, _, _]) M) hu (hfk.mono (fun y hy => by simp [hy])) (by omega) hmnm (by omega)) ?_
                  rintro r_ w8 ⟨u2, L7, rfl, hu2, M⟩
                  have M := M.out2 [_, _, _, _, _]
                  rw [← hmv, ← hst] at hu2
                  obtain ⟨pu2, cu2, rfl⟩ := (hu2.at_ M (fun y hy => List.mem_append_right _ (List.mem_append_left _ hy))).shape
                  refine ⟨trivial, ?_⟩
                  refine x_st [_] _ rfl rfl rfl sz32 rfl rfl rfl rfl (by first | exact M.at_ 0 rfl | exact M.at_ 1 rfl | exact M.at_ 2 rfl | exact M.at_ 3 rfl | exact M.at_ 4 rfl | exact M.at_ 5 rfl | exact M.at_ 6 rfl | exact M.at_ 7 rfl) rfl rfl rfl ?_
                  intro wst13 hwst13
                  have M := by first | exact M.put 0 rfl hwst13 | exact M.put 1 rfl hwst13 | exact M.put 2 rfl hwst13 | exact M.put 3 rfl hwst13 | exact M.put 4 rfl hwst13 | exact M.put 5 rfl hwst13 | exact M.put 6 rfl hwst13 | exact M.put 7 rfl hwst13
                  refine ⟨trivial, ?_⟩
                  refine Ex.done (hK _ _ ?_)
                  refine At.blk_n ?_
                  refine At.then_n ?_
                  refine W.sub [(1, _), (2, _), (3, _), (6, _), (11, _), (12, _)] ⟨rfl, rfl, rfl, rfl, rfl, rfl, trivial⟩ ?_
                  refine W.reg [(0, false), (1, false), (2, false)] (by kernel_rfl) ?_
                  intro K hK
                  refine x_move rfl rfl rfl rfl ?_
                  refine x_add _ rfl rfl rfl rfl rfl (wadd (by omega) (by omega)) ?_
                  refine x_assign rfl rfl rfl rfl ?_
                  refine Ex.done (hK _ _ ?_)
                  exact At.back ((j + 1, _, L3 ++ L7)) ⟨rfl, rfl, rfl, rfl, rfl, rfl, trivial⟩ ⟨by omega, by simpa only [List.append_assoc] using hu2, fun z hz => by
                    rw [take_mem hf] at hz
                    rcases List.mem_append.1 hz with hz | hz
                    · exact hno z hz
                    · rw [List.mem_singleton.1 hz]; unfold badN; simp [hco8], by
                    have M2 : Sep w00 ([(bal3, .cells [.slice pu2 (movL x y (l.take (j + 1))).length cu2].toArray 32 (0, 0)), (bal2, .cells [strV (findL l x).1.1, .bool (findL l x).1.2.1, .slice pd (findL l x).1.2.2.length cd].toArray 25 (0, 0)), (bal1, .cells [.slice none 0 0].toArray 32 (0, 0)), (bbx1, .cells [.slice (some ⟨bb, off, none⟩) l.length cv].toArray 32 (0, 0))] ++ (((L ++ L3) ++ L7) ++ X)) _ := M.tail
                    simpa only [List.append_assoc] using M2⟩ (by first | omega | (simp only; omega) | (simp; done) | (simp; omega))
              · try simp only [decide_eq_true_eq, decide_eq_false_iff_not, Bool.not_eq_true', Bool.not_eq_false', beq_iff_eq, bne_iff_ne, ne_eq, Bool.not_eq_eq_eq_not, Bool.not_true, Bool.not_false, beq_eq_false_iff_ne, bne_eq_false_iff_eq, Bool.not_not, gt_iff_lt, ge_iff_le] at hco7
                refine W.exit ?_
                refine At.then_x ?_
                refine At.loop_x ?_
                refine At.blk_x ?_
                refine At.then_n ?_
                refine W.seq ?_
                refine W.sub [(6, _), (11, _)] ⟨rfl, rfl, trivial⟩ ?_
                refine W.reg [(0, false), (1, true), (2, false)] (by kernel_rfl) ?_
                intro K hK
                refine x_ldA [_] rfl rfl rfl Try.underlying32 rfl sz32 rfl rfl ⟨_, _, _, (by first | exact M.at_ 0 rfl | exact M.at_ 1 rfl | exact M.at_ 2 rfl | exact M.at_ 3 rfl | exact M.at_ 4 rfl | exact M.at_ 5 rfl | exact M.at_ 6 rfl | exact M.at_ 7 rfl), rfl⟩ ?_
                refine x_st [_] _ rfl rfl rfl sz32 rfl rfl rfl rfl (by first | exact M.at_ 0 rfl | exact M.at_ 1 rfl | exact M.at_ 2 rfl | exact M.at_ 3 rfl | exact M.at_ 4 rfl | exact M.at_ 5 rfl | exact M.at_ 6 rfl | exact M.at_ 7 rfl) rfl rfl rfl ?_
                intro wst14 hwst14
                have M := by first | exact M.put 0 rfl hwst14 | exact M.put 1 rfl hwst14 | exact M.put 2 rfl hwst14 | exact M.put 3 rfl hwst14 | exact M.put 4 rfl hwst14 | exact M.put 5 rfl hwst14 | exact M.put 6 rfl hwst14 | exact M.put 7 rfl hwst14
                refine ⟨trivial, ?_⟩
                refine x_assign rfl rfl rfl rfl ?_
                refine Ex.done (hK _ _ ?_)
                refine At.then_n ?_
                refine W.ret ?_
                refine At.ret2 (.cell 6 32) (.tmp 7) rfl ⟨⟨_, rfl, run_loadVarA (l := [_]) Try.underlying32 rfl sz32 ⟨_, _, _, (by first | exact M.at_ 0 rfl | exact M.at_ 1 rfl | exact M.at_ 2 rfl | exact M.at_ 3 rfl | exact M.at_ 4 rfl | exact M.at_ 5 rfl | exact M.at_ 6 rfl | exact M.at_ 7 rfl), rfl⟩ (Nat.zero_lt_succ _)⟩, rfl, trivial⟩ ?_
                have hj2 : j = l.length := by omega
                subst hj2
                simp only [List.take_length] at hu hno M ⊢
                have hbd : l.any (badN x y) = false := by rw [List.any_eq_false]; exact fun f hf => by simp [hno f hf]
                rw [hRR, if_neg (by rw [hbd]; simp)]; exact ⟨_, L3, rfl, hu, St.dropL (L' := [_, _, _, _]) M⟩
end Go.Proofs.Ytccfmfehfhfhhaa

namespace Go.Proofs.Ytccfmfehfhfhhaa
open Go Go.Fw Go.RowKit
set_option linter.unusedVariables false
set_option linter.unusedSimpArgs false

/-- What is so of every tree. -/
structure GI (g : Gf) : Prop where
  root : g [] = some (true, [])
  par : ∀ q n v, g (q ++ [n]) = some v → ∃ b, g q = some (true, b)
  ok : ∀ q v, g q = some v → POK q ∧ v.2.length ≤ 65536 ∧ (v.1 = true → v.2 = [])

theorem absE_ent {E : List Ent} {q : NP} {v : Bool × List UInt8} (h : absE E q = some v) : ∃ e, ent E q = some e ∧ e.dir = v.1 ∧ e.data = v.2 := by
  unfold absE at h
  cases he : ent E q with
  | none => rw [he] at h; cases h
  | some e => rw [he] at h; cases h; exact ⟨e, rfl, rfl, rfl⟩
theorem TI.gi {E : List Ent} (h : TI E) : GI (absE E) where
  root := by
    obtain ⟨e, he, hd⟩ := h.root
    rw [absE_at he, hd, h.dd e (ent_mem he).1 hd]
  par q n v hv := by
    obtain ⟨e, he, _⟩ := absE_ent hv
    obtain ⟨d, hd, hdd⟩ := h.par q n e he
    exact ⟨d.data, by rw [absE_at hd, hdd]⟩
  ok q v hv := by
    obtain ⟨e, he, h1, h2⟩ := absE_ent hv
    obtain ⟨hm, hp⟩ := ent_mem he
    have := h.ok e hm
    rw [hp] at this
    exact ⟨this, by rw [← h2]; exact (h.dat e hm).2, fun h3 => by rw [← h2]; exact h.dd e hm (by rw [h1]; exact h3)⟩

theorem joinS_pre (a b : NP) : (joinS a).length ≤ (joinS (a ++ b)).length := by
  by_cases hb : b = []
  · subst hb; simp
  · by_cases ha : a = []
    · subst ha; simp [joinS]
    · rw [joinS_app ha hb]; simp
theorem POK.pre {a b : NP} (h : POK (a ++ b)) : POK a :=
  ⟨by have := h.1; simp at this; omega, fun x hx => h.2.1 x (List.mem_append_left _ hx), Nat.le_trans (joinS_pre a b) h.2.2⟩
theorem POK.take {a : NP} (h : POK a) (j : Nat) : POK (a.take j) := by
  have h2 : POK (a.take j ++ a.drop j) := by rw [List.take_append_drop]; exact h
  exact h2.pre
theorem POK.sp {N : NP} (h : POK N) : splitE (joinS N) = 0 ∧ splitN (joinS N) = N := splitN_join h.1 h.2.1 h.2.2
theorem POK.inj {a b : NP} (ha : POK a) (hb : POK b) (h : joinS a = joinS b) : a = b := by rw [← ha.sp.2, h, hb.sp.2]
theorem sN_nil {p : List UInt8} (h : splitE p = 0) : splitN p = [] ↔ p = [] := by
  rcases splitN_facts h with ⟨h1, h2⟩ | ⟨h1, h2, _⟩
  · exact ⟨fun _ => h1, fun _ => h2⟩
  · rw [h2]; exact ⟨fun h3 => absurd h3 (splitS_ne p), fun h3 => absurd h3 h1⟩
theorem splitN_0 : splitN [] = [] := rfl

section
variable {g : Gf}
theorem GI.pre (h : GI g) : ∀ {t q : NP} {v : Bool × List UInt8}, g (q ++ t) = some v → t ≠ [] → ∃ b n, g q = some (true, b) ∧ g (q ++ [n]) ≠ none := by
  intro t
  induction t with
  | nil => intro q v _ h0; exact absurd rfl h0
  | cons n t ih =>
    intro q v hv _
    have hv2 : g ((q ++ [n]) ++ t) = some v := by simpa using hv
    by_cases ht : t = []
    · subst ht
      rw [List.append_nil] at hv2
      obtain ⟨b, hb⟩ := h.par q n v hv2
      exact ⟨b, n, hb, by rw [hv2]; simp⟩
    · obtain ⟨b, _, hb, _⟩ := ih hv2 ht
      obtain ⟨b2, hb2⟩ := h.par q n _ hb
      exact ⟨b2, n, hb2, by rw [hb]; simp⟩
theorem GI.dirT (h : GI g) {q : NP} {b : List UInt8} (hq : g q = some (true, b)) : b = [] := (h.ok q _ hq).2.2 rfl
end

abbrev ltR (x y : Raw) : Prop := compareP x.1 y.1 < 0
theorem cmpP_join {a b : NP} (ha : allOK a) (hb : allOK b) : compareP (joinS a) (joinS b) = compareL a b := by unfold compareP; rw [namesP_join ha, namesP_join hb]
theorem ltR_irr (x : Raw) : ¬ ltR x x := by unfold ltR; rw [cmpP_self]; omega
theorem ltR_tr {a b c : Raw} (h1 : ltR a b) (h2 : ltR b c) : ltR a c := by
  have := cmpP_trans (a := a.1) (b := b.1) (c := c.1) (by unfold ltR at h1; omega) (by unfold ltR at h2; omega)
  unfold ltR at *
  rcases this with h | ⟨h, _⟩ <;> omega
theorem ltR_or {a b : Raw} (h : a.1 ≠ b.1) : ltR a b ∨ ltR b a := by
  rcases cmpP_cases a.1 b.1 with h1 | ⟨_, h1⟩ | h1
  · exact .inl (by unfold ltR; omega)
  · exact absurd h1 h
  · exact .inr (by unfold ltR; rw [cmpP_swap]; omega)
theorem srt_nodup {l : List Raw} (h : l.Pairwise ltR) : l.Nodup := h.imp fun h e => by subst e; exact ltR_irr _ h
theorem srt_ext {a b : List Raw} (ha : a.Pairwise ltR) (hb : b.Pairwise ltR) (h : ∀ x, x ∈ a ↔ x ∈ b) : a = b :=
  List.Perm.eq_of_pairwise (le := ltR) (fun a b _ _ h1 h2 => absurd (ltR_tr h1 h2) (ltR_irr _)) ha hb ((List.perm_ext_iff_of_nodup (srt_nodup ha) (srt_nodup hb)).2 h)
theorem srt_names {l : List Raw} (h : l.Pairwise ltR) : (l.map (·.1)).Nodup := by
  rw [List.Nodup, List.pairwise_map]
  exact h.imp fun {a b} h e => by unfold ltR at h; rw [e, cmpP_self] at h; omega

/-- These rows tell the tree. -/
structure Rel (g : Gf) (l : List Raw) : Prop where
  srt : l.Pairwise ltR
  mem : ∀ x, x ∈ l ↔ ∃ N, N ≠ [] ∧ x.1 = joinS N ∧ g N = some x.2

section
variable {g : Gf} {l : List Raw} {x : Raw} {p : List UInt8}
theorem Rel.name (h : Rel g l) (hok : ∀ q v, g q = some v → POK q) (hx : x ∈ l) : splitE x.1 = 0 ∧ splitN x.1 ≠ [] ∧ g (splitN x.1) = some x.2 ∧ x.1 ≠ [] := by
  obtain ⟨N, hN, h1, h2⟩ := (h.mem x).1 hx
  have := (hok N _ h2).sp
  rw [← h1] at this
  exact ⟨this.1, by rw [this.2]; exact hN, by rw [this.2]; exact h2, fun e => by rw [e] at this; exact hN (this.2.symm.trans rfl)⟩
theorem Rel.find (h : Rel g l) (hok : ∀ q v, g q = some v → POK q) (hp : splitE p = 0) (h0 : p ≠ []) : l.find? (fun x => decide (x.1 = p)) = (g (splitN p)).map fun v => (p, v) := by
  cases hv : g (splitN p) with
  | none =>
    refine List.find?_eq_none.2 fun y hy => ?_
    intro e
    obtain ⟨_, _, h3, _⟩ := h.name hok hy
    simp at e
    rw [e, hv] at h3; cases h3
  | some v =>
    have hm : (p, v) ∈ l := (h.mem _).2 ⟨splitN p, fun e => h0 ((sN_nil hp).1 e), (joinS_splitN hp).symm, hv⟩
    cases hf : l.find? (fun x => decide (x.1 = p)) with
    | none => exact absurd (List.find?_eq_none.1 hf _ hm) (by simp)
    | some y =>
      have h1 := List.mem_of_find?_eq_some hf
      have h2 := List.find?_some hf
      simp at h2
      obtain ⟨_, _, h3, _⟩ := h.name hok h1
      rw [h2, hv] at h3
      cases h3
      show some y = some (p, y.2)
      rw [← h2]
theorem Rel.findF (hG : GI g) (h : Rel g l) : ∀ (r pre : NP) (f : Raw), g pre = some f.2 → POK (pre ++ r) →
    Go.Proofs.Ytccfmfehfhfhhaa.findF l pre r f = if comeG g pre r = 0 then (if r = [] then f else (joinS (pre ++ r), (g (pre ++ r)).getD (false, [])), 0) else (fileZ, comeG g pre r)
  | [], pre, f, _, _ => rfl
  | n :: r, pre, f, hf, hP => by
    have hP2 : POK ((pre ++ [n]) ++ r) := by simpa using hP
    have hsp := hP2.pre.sp
    have hfd := h.find (fun q v hv => (hG.ok q v hv).1) hsp.1 (fun e => by
      have := hsp.2; rw [e] at this; exact absurd (this.symm.trans rfl : pre ++ [n] = []) (by simp))
    rw [hsp.2] at hfd
    obtain ⟨fn, fd, fb⟩ := f
    simp only at hf
    unfold Go.Proofs.Ytccfmfehfhfhhaa.findF comeG
    rw [hf, hfd]
    cases fd with
    | false => simp
    | true =>
      cases hk : g (pre ++ [n]) with
      | none => simp
      | some v =>
        simp only [if_true, Option.map_some, Option.isNone_some, Bool.false_eq_true, if_false]
        rw [Rel.findF hG h r (pre ++ [n]) (joinS (pre ++ [n]), v) hk hP2]
        split
        · rw [if_neg (by simp : n :: r ≠ [])]
          by_cases hr : r = []
          · subst hr; rw [if_pos rfl, hk]; rfl
          · rw [if_neg hr]; simp
        · rfl
theorem Rel.findL (hG : GI g) (h : Rel g l) (p : List UInt8) : Go.Proofs.Ytccfmfehfhfhhaa.findL l p = (findV g p, findG g p) := by
  unfold Go.Proofs.Ytccfmfehfhfhhaa.findL findV
  by_cases hp : splitE p = 0
  · rw [if_pos hp, findG_ok hp, h.findF hG (splitN p) [] ([], true, []) hG.root (POK_split hp)]
    split
    · rename_i hc
      by_cases h0 : splitN p = []
      · have := (sN_nil hp).1 h0
        subst this
        rw [if_pos h0, splitN_0, hG.root]; rfl
      · rw [if_neg h0, List.nil_append, joinS_splitN hp, hc]
    · rfl
  · rw [if_neg hp, findG_bad hp, splitE_8 hp]; rfl
theorem Rel.home (hG : GI g) (h : Rel g l) (p : List UInt8) (root : Int) : homeL l p root = homeG g p root := by
  unfold homeL homeG
  by_cases hp : splitE p = 0
  · rw [if_pos hp, if_pos hp]
    by_cases h0 : splitN p = []
    · rw [if_pos h0, if_pos h0]
    · rw [if_neg h0, if_neg h0, ← List.dropLast_eq_take]
      have hP : POK (splitN p).dropLast := by rw [List.dropLast_eq_take]; exact (POK_split hp).take _
      rw [h.findL hG]
      unfold findV
      rw [findG_ok hP.sp.1, hP.sp.2]
      by_cases hc : comeG g [] (splitN p).dropLast = 0
      · simp only [hc, if_true]
      · simp only [hc, if_false]
  · rw [if_neg hp, if_neg hp, splitE_8 hp]
theorem atR_find (l : List Raw) (p : List UInt8) : 0 ≤ atR l p ↔ (l.find? (fun x => decide (x.1 = p))).isSome = true := by
  rcases atR_cases l p with ⟨j, x, h1, h2, h3, h4⟩ | ⟨h1, h2⟩
  · rw [at_find h1 h2 h4, h3]; simp
  · rw [at_find0 h1, h2]; simp
theorem Rel.at_ (h : Rel g l) (hok : ∀ q v, g q = some v → POK q) (hp : splitE p = 0) (h0 : p ≠ []) : 0 ≤ atR l p ↔ (g (splitN p)).isSome = true := by
  rw [atR_find, h.find hok hp h0]; simp

theorem withR_cons (y x : Raw) (l : List Raw) : withR (y :: l) x = if compareP y.1 x.1 < 0 then y :: withR l x else x :: y :: l := by
  unfold withR
  by_cases h : compareP y.1 x.1 < 0 <;> simp [h]
theorem withR_srt {x : Raw} : ∀ {l : List Raw}, l.Pairwise ltR → (∀ y ∈ l, y.1 ≠ x.1) → (withR l x).Pairwise ltR
  | [], _, _ => by simp [withR]
  | y :: l, h, hno => by
    rw [withR_cons]
    rw [List.pairwise_cons] at h
    split
    · rename_i hlt
      refine List.pairwise_cons.2 ⟨fun z hz => ?_, withR_srt h.2 fun z hz => hno z (by simp [hz])⟩
      rcases withR_mem.1 hz with rfl | hz
      · exact hlt
      · exact h.1 z hz
    · rename_i hlt
      have hxy : ltR x y := (ltR_or (hno y (by simp))).resolve_left hlt
      refine List.pairwise_cons.2 ⟨fun z hz => ?_, List.pairwise_cons.2 h⟩
      rcases List.mem_cons.1 hz with rfl | hz
      · exact hxy
      · exact ltR_tr hxy (h.1 z hz)
theorem Rel.with {N : NP} {v : Bool × List UInt8} (h : Rel g l) (hok : ∀ q v, g q = some v → POK q) (hN : POK N) (h0 : N ≠ []) (hv : g N = none) : Rel (setG g N (some v)) (withR l (joinS N, v)) where
  srt := withR_srt h.srt fun y hy e => by
    obtain ⟨h1, h2, h3, h4⟩ := h.name hok hy
    rw [e, hN.sp.2, hv] at h3
    cases h3
  mem x := by
    rw [withR_mem, h.mem]
    unfold setG
    constructor
    · rintro (rfl | ⟨M, h1, h2, h3⟩)
      · exact ⟨N, h0, rfl, by rw [if_pos rfl]⟩
      · exact ⟨M, h1, h2, by rw [if_neg (fun e => by rw [e, hv] at h3; cases h3)]; exact h3⟩
    · rintro ⟨M, h1, h2, h3⟩
      split at h3
      · rename_i e
        subst e
        exact .inl (Prod.ext h2 (Option.some.inj h3).symm)
      · exact .inr ⟨M, h1, h2, h3⟩
theorem Rel.erase {j : Nat} (h : Rel g l) (hok : ∀ q v, g q = some v → POK q) (hx : l[j]? = some x) : Rel (setG g (splitN x.1) none) (l.eraseIdx j) where
  srt := h.srt.sublist (List.eraseIdx_sublist l j)
  mem y := by
    have hxm := List.mem_of_getElem? hx
    obtain ⟨hx1, hx2, hx3, hx4⟩ := h.name hok hxm
    have key : y ∈ l.eraseIdx j ↔ y ∈ l ∧ y ≠ x := by
      rw [List.mem_eraseIdx_iff_getElem?]
      constructor
      · rintro ⟨i, hi, hy⟩
        refine ⟨List.mem_of_getElem? hy, fun e => hi ?_⟩
        subst e
        have hn := srt_nodup h.srt
        obtain ⟨a1, a2⟩ := List.getElem?_eq_some_iff.1 hx
        obtain ⟨b1, b2⟩ := List.getElem?_eq_some_iff.1 hy
        exact (List.getElem_inj hn).1 (b2.trans a2.symm)
      · rintro ⟨hy, hne⟩
        obtain ⟨i, hi⟩ := List.mem_iff_getElem?.1 hy
        exact ⟨i, fun e => hne (by rw [e, hx] at hi; exact (Option.some.inj hi).symm), hi⟩
    rw [key, h.mem]
    unfold setG
    constructor
    · rintro ⟨⟨M, h1, h2, h3⟩, hne⟩
      refine ⟨M, h1, h2, ?_⟩
      rw [if_neg]
      · exact h3
      · intro e
        subst e
        rw [hx3] at h3
        exact hne (Prod.ext (h2.trans (joinS_splitN hx1)) (Option.some.inj h3).symm)
    · rintro ⟨M, h1, h2, h3⟩
      split at h3
      · cases h3
      · rename_i hne
        refine ⟨⟨M, h1, h2, h3⟩, fun e => hne ?_⟩
        subst e
        rw [h2, (hok M _ h3).sp.2]

theorem home_ok {root : Int} (hr : root ≠ 0) (h : homeG g p root = 0) : splitE p = 0 ∧ splitN p ≠ [] ∧ p ≠ [] := by
  unfold homeG at h
  split at h
  · rename_i hp
    split at h
    · exact absurd h hr
    · rename_i h0
      exact ⟨hp, h0, fun e => h0 ((sN_nil hp).2 e)⟩
  · rename_i hp; exact absurd h hp

/-- Mkdir. -/
theorem Rel.mkdir (hG : GI g) (h : Rel g l) (p : List UInt8) : (mkdirL l p).2 = (mkdirG g (decide (128 ≤ l.length)) p).1 ∧ Rel (mkdirG g (decide (128 ≤ l.length)) p).2 (mkdirL l p).1 := by
  have hok : ∀ q v, g q = some v → POK q := fun q v hv => (hG.ok q v hv).1
  unfold mkdirL mkdirG
  rw [h.home hG]
  by_cases h1 : homeG g p 10 = 0
  · obtain ⟨hp, h0, hp0⟩ := home_ok (by decide) h1
    rw [if_pos h1, if_pos h1]
    by_cases h2 : (g (splitN p)).isSome = true
    · rw [if_pos h2, if_pos ((h.at_ hok hp hp0).2 h2)]; exact ⟨rfl, h⟩
    · rw [if_neg h2, if_neg (fun e => h2 ((h.at_ hok hp hp0).1 e))]
      by_cases h3 : 128 ≤ l.length
      · rw [if_pos h3, if_pos (decide_eq_true h3)]; exact ⟨rfl, h⟩
      · rw [if_neg h3, if_neg (by simpa using h3)]
        refine ⟨rfl, ?_⟩
        have := h.with (v := (true, [])) hok (POK_split hp) h0 (by simpa using h2)
        rwa [joinS_splitN hp] at this
  · rw [if_neg h1, if_neg h1]; exact ⟨rfl, h⟩
/-- Put. -/
theorem Rel.put (hG : GI g) (h : Rel g l) (p b : List UInt8) : (putL l p b).2 = (putG g (decide (128 ≤ l.length)) p b).1 ∧ Rel (putG g (decide (128 ≤ l.length)) p b).2 (putL l p b).1 := by
  have hok : ∀ q v, g q = some v → POK q := fun q v hv => (hG.ok q v hv).1
  unfold putL putG
  rw [h.home hG]
  by_cases h1 : homeG g p 16 = 0
  · obtain ⟨hp, h0, hp0⟩ := home_ok (by decide) h1
    rw [if_pos h1, if_pos h1, h.find hok hp hp0]
    cases hv : g (splitN p) with
    | none =>
      simp only [Option.map_none, Option.getD_none, Bool.false_eq_true, if_false, Option.isNone_none, true_and]
      by_cases h2 : 65536 < b.length
      · rw [if_pos h2, if_pos h2]; exact ⟨rfl, h⟩
      · rw [if_neg h2, if_neg h2]
        by_cases h3 : 128 ≤ l.length
        · rw [if_pos h3, if_pos (decide_eq_true h3)]; exact ⟨rfl, h⟩
        · rw [if_neg h3, if_neg (by simpa using h3)]
          refine ⟨rfl, ?_⟩
          have := h.with (v := (false, b)) hok (POK_split hp) h0 hv
          rwa [joinS_splitN hp] at this
    | some v =>
      simp only [Option.map_some, Option.getD_some, Option.isNone_some, Bool.false_eq_true, false_and, if_false]
      by_cases h2 : v.1 = true
      · rw [if_pos h2, if_pos h2]; exact ⟨rfl, h⟩
      · rw [if_neg h2, if_neg h2]
        by_cases h3 : 65536 < b.length
        · rw [if_pos h3, if_pos h3]; exact ⟨rfl, h⟩
        · rw [if_neg h3, if_neg h3]
          refine ⟨rfl, ?_⟩
          have hfd := h.find hok hp hp0
          rw [hv] at hfd
          obtain ⟨i, x, hx, hxp, hat, _⟩ := (atR_cases l p).resolve_right (fun hc => by rw [at_find0 hc.1] at hfd; cases hfd)
          rw [hat]
          have h4 := h.erase hok hx
          rw [hxp] at h4
          have h5 := h4.with (v := (false, b)) (fun q v hv => by
            unfold setG at hv
            split at hv
            · cases hv
            · exact hok q v hv) (POK_split hp) h0 (by unfold setG; rw [if_pos rfl])
          rw [joinS_splitN hp] at h5
          have h6 : setG (setG g (splitN p) none) (splitN p) (some (false, b)) = setG g (splitN p) (some (false, b)) := by
            funext r; unfold setG; split <;> rfl
          rw [h6] at h5
          exact h5
  · rw [if_neg h1, if_neg h1]; exact ⟨rfl, h⟩
theorem busy_iff (hG : GI g) (h : Rel g l) (hp : splitE p = 0) : busyL l p = true ↔ ¬ emptyG g (splitN p) := by
  have hok : ∀ q v, g q = some v → POK q := fun q v hv => (hG.ok q v hv).1
  unfold busyL emptyG
  rw [List.any_eq_true]
  constructor
  · rintro ⟨x, hx, h1⟩ hem
    obtain ⟨hx1, hx2, hx3, hx4⟩ := h.name hok hx
    simp only [Bool.and_eq_true, decide_eq_true_eq] at h1
    obtain ⟨h1, h2⟩ := h1
    rw [underP_eq] at h2
    simp only [Bool.and_eq_true, decide_eq_true_eq] at h2
    obtain ⟨t, ht⟩ := ipf.1 h2.2
    rw [ht] at hx3
    obtain ⟨_, n, _, hn⟩ := hG.pre hx3 (fun e => h1 (by
      subst e
      rw [List.append_nil] at ht
      rw [← joinS_splitN hx1, ht, joinS_splitN hp]))
    exact hn (hem n)
  · intro hne
    obtain ⟨n, hn⟩ := Classical.not_forall.1 hne
    cases hv : g (splitN p ++ [n]) with
    | none => exact absurd hv hn
    | some v =>
      have hP := hok _ _ hv
      have hm : (joinS (splitN p ++ [n]), v) ∈ l := (h.mem _).2 ⟨_, by simp, rfl, hv⟩
      refine ⟨_, hm, ?_⟩
      simp only [Bool.and_eq_true, decide_eq_true_eq]
      refine ⟨fun e => ?_, ?_⟩
      · have := hP.sp.2
        rw [e] at this
        have := congrArg List.length this
        simp at this
      · rw [underP_eq, hP.sp.1, hP.sp.2, hp, ipf_app]; rfl
/-- Remove. -/
theorem Rel.remove (hG : GI g) (h : Rel g l) (p : List UInt8) : (removeL l p).2 = (removeG g p).1 ∧ Rel (removeG g p).2 (removeL l p).1 := by
  have hok : ∀ q v, g q = some v → POK q := fun q v hv => (hG.ok q v hv).1
  unfold removeL removeG
  rw [h.findL hG]
  by_cases h1 : findG g p = 0
  · simp only [h1, if_true]
    have hp : splitE p = 0 := Classical.byContradiction fun hp => by rw [findG_bad hp] at h1; exact hp h1
    by_cases h2 : p = []
    · rw [if_pos h2, if_pos (.inl h2)]; exact ⟨rfl, h⟩
    · rw [if_neg h2]
      by_cases h3 : busyL l p = true
      · rw [if_pos h3, if_pos (.inr ((busy_iff hG h hp).1 h3))]; exact ⟨rfl, h⟩
      · rw [if_neg h3, if_neg (fun e => e.elim h2 (fun e => h3 ((busy_iff hG h hp).2 e)))]
        refine ⟨rfl, ?_⟩
        have hfl : (Go.Proofs.Ytccfmfehfhfhhaa.findL l p).2 = 0 := by rw [h.findL hG]; exact h1
        obtain ⟨y, hy, hyp⟩ := findL_mem hfl h2
        obtain ⟨i, x, hx, hxp, hat, _⟩ := (atR_cases l p).resolve_right (fun hc => hc.1 y hy hyp)
        rw [hat]
        have h4 := h.erase hok hx
        rw [hxp] at h4
        exact h4
  · simp only [h1, if_false]; exact ⟨trivial, h⟩
end
end Go.Proofs.Ytccfmfehfhfhhaa

namespace Go.Proofs.Ytccfmfehfhfhhaa
open Go Go.Fw Go.RowKit
set_option linter.unusedVariables false
set_option linter.unusedSimpArgs false

theorem foldW_srt {f : Raw → Raw} : ∀ {l A : List Raw}, A.Pairwise ltR → (l.map fun x => (f x).1).Nodup → (∀ x ∈ l, ∀ y ∈ A, y.1 ≠ (f x).1) → (l.foldl (fun a x => withR a (f x)) A).Pairwise ltR
  | [], A, hA, _, _ => hA
  | x :: l, A, hA, hn, hd => by
    simp only [List.map_cons, List.nodup_cons] at hn
    refine foldW_srt (l := l) (A := withR A (f x)) (withR_srt hA fun y hy => hd x (by simp) y hy) hn.2 fun z hz y hy => ?_
    rcases withR_mem.1 hy with rfl | hy
    · exact fun e => hn.1 (e ▸ List.mem_map.2 ⟨z, hz, rfl⟩)
    · exact hd z (by simp [hz]) y hy

section
variable {g : Gf} {l : List Raw} {f : Raw} {x y p : List UInt8}
theorem joinS_cat {a r : NP} (ha : a ≠ []) : joinS (a ++ r) = joinS a ++ (if r = [] then [] else 47 :: joinS r) := by
  by_cases hr : r = []
  · subst hr; simp
  · rw [if_neg hr, joinS_app ha hr]
theorem mvN_cases (hG : GI g) (h : Rel g l) (hx : splitE x = 0) (hy : splitE y = 0) (hx0 : splitN x ≠ []) (hy0 : splitN y ≠ []) (hf : f ∈ l) :
    (∃ r, splitN f.1 = splitN x ++ r ∧ underP f.1 x = true ∧ mvN x y f = (joinS (splitN y ++ r), f.2)) ∨ ((∀ r, splitN f.1 ≠ splitN x ++ r) ∧ underP f.1 x = false ∧ mvN x y f = f) := by
  obtain ⟨h1, h2, h3, h4⟩ := h.name (fun q v hv => (hG.ok q v hv).1) hf
  have hu : underP f.1 x = (splitN x).isPrefixOf (splitN f.1) := by rw [underP_eq, h1, hx]; simp
  cases hc : (splitN x).isPrefixOf (splitN f.1) with
  | true =>
    obtain ⟨r, hr⟩ := ipf.1 hc
    refine .inl ⟨r, hr, by rw [hu, hc], ?_⟩
    unfold mvN
    rw [hu, hc, if_pos rfl]
    have e1 : f.1 = joinS (splitN x) ++ (if r = [] then [] else 47 :: joinS r) := by rw [← joinS_cat hx0, ← hr, joinS_splitN h1]
    have e2 : f.1.drop x.length = if r = [] then [] else 47 :: joinS r := by
      rw [e1, joinS_splitN hx, List.drop_left' rfl]
    rw [e2, joinS_cat hy0, joinS_splitN hy]
  | false =>
    refine .inr ⟨fun r hr => ?_, by rw [hu, hc], ?_⟩
    · rw [hr, ipf_app] at hc; cases hc
    · unfold mvN; rw [hu, hc, if_neg (by simp)]
theorem bad_iff (hG : GI g) (h : Rel g l) (hx : splitE x = 0) (hy : splitE y = 0) (hx0 : splitN x ≠ []) (hy0 : splitN y ≠ []) : l.any (badN x y) = true ↔ ¬ fitsG g (splitN x) (splitN y) := by
  have hok : ∀ q v, g q = some v → POK q := fun q v hv => (hG.ok q v hv).1
  have hall : ∀ {r : NP} {v}, g (splitN x ++ r) = some v → allOK (splitN y ++ r) := fun {r v} hv z hz => by
    rcases List.mem_append.1 hz with hz | hz
    · exact (POK_split hy).2.1 z hz
    · exact (hok _ _ hv).2.1 z (List.mem_append_right _ hz)
  rw [List.any_eq_true]
  constructor
  · rintro ⟨f, hf, hb⟩ hfit
    unfold badN at hb
    simp only [Bool.and_eq_true, decide_eq_true_eq] at hb
    rcases mvN_cases hG h hx hy hx0 hy0 hf with ⟨r, h1, h2, h3⟩ | ⟨_, h2, _⟩
    · obtain ⟨_, _, g3, _⟩ := h.name hok hf
      rw [h1] at g3
      rw [h3] at hb
      exact hb.2 (hfit r (by rw [g3]; simp)).sp.1
    · rw [h2] at hb; cases hb.1
  · intro hn
    unfold fitsG at hn
    obtain ⟨r, hr⟩ := Classical.not_forall.1 hn
    obtain ⟨hr1, hr2⟩ := Classical.not_imp.1 hr
    cases hv : g (splitN x ++ r) with
    | none => exact absurd hv hr1
    | some v =>
      have hm : (joinS (splitN x ++ r), v) ∈ l := (h.mem _).2 ⟨_, by simp [hx0], rfl, hv⟩
      refine ⟨_, hm, ?_⟩
      unfold badN
      simp only [Bool.and_eq_true, decide_eq_true_eq]
      rcases mvN_cases hG h hx hy hx0 hy0 hm with ⟨r', h1, h2, h3⟩ | ⟨h1, _⟩
      · refine ⟨h2, ?_⟩
        rw [h3]
        simp only at h1
        rw [(hok _ _ hv).sp.2] at h1
        have := List.append_cancel_left h1
        subst this
        exact fun e => hr2 ((POK_iff (hall hv)).1 e)
      · exact absurd (hok _ _ hv).sp.2 (h1 r)
theorem mov_rel (hG : GI g) (h : Rel g l) (hx : splitE x = 0) (hy : splitE y = 0) (hx0 : splitN x ≠ []) (hy0 : splitN y ≠ []) (hnu : ¬ (splitN x).isPrefixOf (splitN y) = true) (hb : g (splitN y) = none) (hfit : fitsG g (splitN x) (splitN y)) :
    Rel (moveG g (splitN x) (splitN y)) (movL x y l) := by
  have hok : ∀ q v, g q = some v → POK q := fun q v hv => (hG.ok q v hv).1
  have hyr : ∀ r v, g (splitN y ++ r) ≠ some v := fun r v hv => by
    by_cases h0 : r = []
    · subst h0; rw [List.append_nil, hb] at hv; cases hv
    · obtain ⟨b, _, h1, _⟩ := hG.pre hv h0
      rw [hb] at h1; cases h1
  have hinj : ∀ f1 ∈ l, ∀ f2 ∈ l, (mvN x y f1).1 = (mvN x y f2).1 → f1.1 = f2.1 := by
    intro f1 h1 f2 h2 he
    obtain ⟨a1, a2, a3, a4⟩ := h.name hok h1
    obtain ⟨b1, b2, b3, b4⟩ := h.name hok h2
    rcases mvN_cases hG h hx hy hx0 hy0 h1 with ⟨r, c1, c2, c3⟩ | ⟨c1, c2, c3⟩ <;> rcases mvN_cases hG h hx hy hx0 hy0 h2 with ⟨s, d1, d2, d3⟩ | ⟨d1, d2, d3⟩
    · rw [c3, d3] at he
      rw [c1] at a3; rw [d1] at b3
      have := POK.inj (hfit r (by rw [a3]; simp)) (hfit s (by rw [b3]; simp)) he
      have := List.append_cancel_left this
      subst this
      rw [← joinS_splitN a1, ← joinS_splitN b1, c1, d1]
    · rw [c3, d3] at he
      rw [c1] at a3
      have hP := (hfit r (by rw [a3]; simp)).sp.2
      simp only at he
      rw [he] at hP
      rw [hP] at b3
      exact absurd b3 (hyr _ _)
    · rw [c3, d3] at he
      rw [d1] at b3
      have hP := (hfit s (by rw [b3]; simp)).sp.2
      simp only at he
      rw [← he] at hP
      rw [hP] at a3
      exact absurd a3 (hyr _ _)
    · rw [c3, d3] at he; exact he
  refine ⟨foldW_srt List.Pairwise.nil ?_ (by simp), fun z => ?_⟩
  · rw [List.Nodup, List.pairwise_map]
    refine List.Pairwise.imp_of_mem (fun {a b} ha hb hlt he => ?_) h.srt
    have := hinj a ha b hb he
    unfold ltR at hlt
    rw [this, cmpP_self] at hlt
    omega
  · unfold movL
    rw [foldW_mem]
    unfold moveG
    constructor
    · rintro (hz | ⟨f, hf, rfl⟩)
      · cases hz
      · obtain ⟨a1, a2, a3, a4⟩ := h.name hok hf
        rcases mvN_cases hG h hx hy hx0 hy0 hf with ⟨r, c1, c2, c3⟩ | ⟨c1, c2, c3⟩
        · rw [c3]
          refine ⟨splitN y ++ r, by simp [hy0], rfl, ?_⟩
          rw [if_pos (ipf_app _ _), List.drop_left' rfl, ← c1]
          exact a3
        · rw [c3]
          refine ⟨splitN f.1, a2, (joinS_splitN a1).symm, ?_⟩
          rw [if_neg, if_neg]
          · exact a3
          · intro e
            obtain ⟨t, ht⟩ := ipf.1 e
            exact c1 t ht
          · intro e
            obtain ⟨t, ht⟩ := ipf.1 e
            rw [ht] at a3
            exact hyr _ _ a3
    · rintro ⟨N, h0, h1, h2⟩
      refine .inr ?_
      split at h2
      · rename_i hp
        obtain ⟨t, rfl⟩ := ipf.1 hp
        rw [List.drop_left' rfl] at h2
        have hm : (joinS (splitN x ++ t), z.2) ∈ l := (h.mem _).2 ⟨_, by simp [hx0], rfl, h2⟩
        refine ⟨_, hm, ?_⟩
        rcases mvN_cases hG h hx hy hx0 hy0 hm with ⟨r, c1, c2, c3⟩ | ⟨c1, c2, c3⟩
        · simp only at c1
          rw [(hok _ _ h2).sp.2] at c1
          have := List.append_cancel_left c1
          subst this
          rw [c3]
          exact Prod.ext h1 rfl
        · exact absurd (hok _ _ h2).sp.2 (c1 t)
      · split at h2
        · cases h2
        · rename_i hp1 hp2
          have hm : z ∈ l := (h.mem _).2 ⟨N, h0, h1, h2⟩
          refine ⟨z, hm, ?_⟩
          rcases mvN_cases hG h hx hy hx0 hy0 hm with ⟨r, c1, c2, c3⟩ | ⟨c1, c2, c3⟩
          · rw [h1, (hok _ _ h2).sp.2] at c1
            rw [c1, ipf_app] at hp2
            exact absurd rfl hp2
          · exact c3.symm
/-- Rename. -/
theorem Rel.rename (hG : GI g) (h : Rel g l) (x y : List UInt8) : (renameL l x y).2 = (renameG g x y).1 ∧ Rel (renameG g x y).2 (renameL l x y).1 := by
  have hok : ∀ q v, g q = some v → POK q := fun q v hv => (hG.ok q v hv).1
  unfold renameL renameG
  rw [h.findL hG, h.home hG]
  by_cases h1 : findG g x = 0
  · simp only [h1, if_true]
    have hx : splitE x = 0 := Classical.byContradiction fun hp => by rw [findG_bad hp] at h1; exact hp h1
    by_cases h2 : x = []
    · rw [if_pos h2, if_pos h2]; exact ⟨rfl, h⟩
    · rw [if_neg h2, if_neg h2]
      have hx0 : splitN x ≠ [] := fun e => h2 ((sN_nil hx).1 e)
      by_cases h3 : homeG g y 10 = 0
      · obtain ⟨hy, hy0, hy1⟩ := home_ok (by decide) h3
        rw [if_pos h3, if_pos h3]
        by_cases h4 : x = y
        · rw [if_pos h4, if_pos h4]; exact ⟨rfl, h⟩
        · rw [if_neg h4, if_neg h4]
          by_cases h5 : underP y x = true
          · rw [if_pos h5, if_pos h5]; exact ⟨rfl, h⟩
          · rw [if_neg h5, if_neg h5]
            by_cases h6 : (g (splitN y)).isSome = true
            · rw [if_pos h6, if_pos ((h.at_ hok hy hy1).2 h6)]; exact ⟨rfl, h⟩
            · rw [if_neg h6, if_neg (fun e => h6 ((h.at_ hok hy hy1).1 e))]
              have hb := bad_iff hG h hx hy hx0 hy0
              by_cases h7 : fitsG g (splitN x) (splitN y)
              · rw [if_neg (fun e => hb.1 e h7), if_neg (fun e => e h7)]
                exact ⟨rfl, mov_rel hG h hx hy hx0 hy0 (not_under hx hy (by simpa using h5)) (by simpa using h6) h7⟩
              · rw [if_pos (hb.2 h7), if_pos h7]; exact ⟨rfl, h⟩
      · rw [if_neg h3, if_neg h3]; exact ⟨rfl, h⟩
  · simp only [h1, if_false]; exact ⟨trivial, h⟩
end

section
variable {E : List Ent} {l : List Raw}
/-- All files of a tree, in order. -/
def filesE (E : List Ent) : List Raw := (dfs E 9 []).map Ent.raw
theorem filesE_rel (hT : TI E) : Rel (absE E) (filesE E) where
  srt := by
    unfold filesE
    rw [List.pairwise_map]
    refine List.Pairwise.imp_of_mem (fun {a b} ha hb h => ?_) (dfs_sorted hT (by simp))
    obtain ⟨t, _, h1⟩ := (mem_dfs hT (by simp)).1 ha
    obtain ⟨u, _, h2⟩ := (mem_dfs hT (by simp)).1 hb
    unfold ltR Ent.raw
    rw [cmpP_join (hT.ok a (ent_mem h1).1).2.1 (hT.ok b (ent_mem h2).1).2.1]
    exact h
  mem x := by
    unfold filesE
    rw [List.mem_map]
    constructor
    · rintro ⟨e, he, rfl⟩
      obtain ⟨t, h0, h1⟩ := (mem_dfs hT (by simp)).1 he
      rw [List.nil_append] at h1
      exact ⟨t, h0, by rw [← (ent_mem h1).2]; rfl, by rw [absE_at h1]; rfl⟩
    · rintro ⟨N, h0, h1, h2⟩
      obtain ⟨e, he, h3, h4⟩ := absE_ent h2
      refine ⟨e, (mem_dfs hT (by simp)).2 ⟨N, h0, by simpa using he⟩, ?_⟩
      unfold Ent.raw
      rw [(ent_mem he).2]
      exact Prod.ext h1.symm (Prod.ext h3 h4)
theorem rel_ext {g : Gf} {a b : List Raw} (ha : Rel g a) (hb : Rel g b) : a = b := srt_ext ha.srt hb.srt fun x => by rw [ha.mem, hb.mem]
theorem filesE_eq (hT : TI E) (h : Rel (absE E) l) : filesE E = l := rel_ext (filesE_rel hT) h
theorem filesE_len (hT : TI E) : (filesE E).length + 1 = E.length := by
  obtain ⟨r, hr, _⟩ := hT.root
  have hs := dfs_sorted (E := E) (fuel := 9) (q := []) hT (by simp)
  have hnd : (dfs E 9 []).Nodup := hs.imp fun h e => by subst e; exact ltP_irr _ h
  have h1 : (r :: dfs E 9 []).length ≤ E.length := by
    refine nodup_le (List.nodup_cons.2 ⟨fun h => ?_, hnd⟩) fun e he => ?_
    · obtain ⟨t, h0, h1⟩ := (mem_dfs hT (by simp)).1 h
      exact h0 (by rw [List.nil_append] at h1; rw [← (ent_mem h1).2, (ent_mem hr).2])
    · rcases List.mem_cons.1 he with rfl | he
      · exact (ent_mem hr).1
      · obtain ⟨t, _, h1⟩ := (mem_dfs hT (by simp)).1 he
        exact (ent_mem h1).1
  have h2 : E.length ≤ (r :: dfs E 9 []).length := by
    refine nodup_le ((List.pairwise_map.1 hT.nd).imp fun {a b} h e => h (by rw [e])) fun e he => ?_
    by_cases h0 : e.p = []
    · have := hT.of he
      rw [h0, hr] at this
      cases this; simp
    · exact List.mem_cons_of_mem _ ((mem_dfs hT (by simp)).2 ⟨e.p, h0, by simpa using hT.of he⟩)
  unfold filesE
  simp only [List.length_map, List.length_cons] at h1 h2 ⊢
  omega
theorem parent_row {N : NP} {n : List UInt8} (h : POK (N ++ [n])) : parentP (joinS (N ++ [n])) = (joinS N, n, 0) := by
  have hsp := h.sp
  have h0 : joinS (N ++ [n]) ≠ [] := fun e => by
    have := hsp.2; rw [e] at this; exact absurd (this.symm.trans rfl : N ++ [n] = []) (by simp)
  refine parentP_some h0 hsp.1 ?_
  rw [← namesP_some h0, namesP_splitN hsp.1, hsp.2]
theorem namesL_eq {g : Gf} {p : List UInt8} (hT : TI E) (h : Rel (absE E) l) (hp : splitE p = 0) : namesL l p = ksE E (splitN p) := by
  have hG := hT.gi
  have hok : ∀ q v, absE E q = some v → POK q := fun q v hv => (hG.ok q v hv).1
  have hrow : ∀ x ∈ l, ∃ N n, splitN x.1 = N ++ [n] ∧ parentP x.1 = (joinS N, n, 0) ∧ POK (N ++ [n]) ∧ x.1 = joinS (N ++ [n]) := fun x hx => by
    obtain ⟨h1, h2, h3, h4⟩ := h.name hok hx
    refine ⟨(splitN x.1).dropLast, (splitN x.1).getLast h2, (List.dropLast_concat_getLast h2).symm, ?_, ?_, ?_⟩
    · have := parent_row (N := (splitN x.1).dropLast) (n := (splitN x.1).getLast h2) (by rw [List.dropLast_concat_getLast h2]; exact POK_split h1)
      rwa [List.dropLast_concat_getLast h2, joinS_splitN h1] at this
    · rw [List.dropLast_concat_getLast h2]; exact POK_split h1
    · rw [List.dropLast_concat_getLast h2, joinS_splitN h1]
  refine strict_ext ?_ (ksE_strict hT) fun n => ?_
  · unfold namesL
    rw [List.pairwise_map, List.pairwise_filter]
    refine List.Pairwise.imp_of_mem (fun {a b} ha hb hlt h1 h2 => ?_) h.srt
    obtain ⟨N, n, _, a2, a3, a4⟩ := hrow a ha
    obtain ⟨M, m, _, b2, b3, b4⟩ := hrow b hb
    rw [a2] at h1 ⊢
    rw [b2] at h2 ⊢
    simp only [decide_eq_true_eq] at h1 h2 ⊢
    have hNM : N = M := POK.inj a3.pre b3.pre (by rw [h1, h2])
    subst hNM
    unfold ltR at hlt
    rw [a4, b4, cmpP_join a3.2.1 b3.2.1] at hlt
    have h3 := (ltP_pre N (a := [n]) (b := [m])).1 hlt
    unfold ltP at h3
    unfold ltS
    unfold compareL at h3
    split at h3
    · exact h3
    · exact absurd h3 (by decide)
  · rw [mem_ksE hT]
    unfold namesL
    rw [List.mem_map]
    constructor
    · rintro ⟨x, hx, h1⟩
      rw [List.mem_filter] at hx
      obtain ⟨hx, h2⟩ := hx
      obtain ⟨N, m, a1, a2, a3, a4⟩ := hrow x hx
      rw [a2] at h1 h2
      simp only [decide_eq_true_eq] at h1 h2
      subst h1
      have hN : N = splitN p := by rw [← h2, a3.pre.sp.2]
      subst hN
      obtain ⟨_, _, g3, _⟩ := h.name hok hx
      rw [a1] at g3
      obtain ⟨e, he, _⟩ := absE_ent g3
      exact ⟨e, he⟩
    · rintro ⟨e, he⟩
      have hv := absE_at he
      have hP := hok _ _ hv
      refine ⟨(joinS (splitN p ++ [n]), (e.dir, e.data)), List.mem_filter.2 ⟨(h.mem _).2 ⟨_, by simp, rfl, hv⟩, ?_⟩, ?_⟩
      · rw [parent_row hP]; simp [joinS_splitN hp]
      · rw [parent_row hP]
theorem Rel.list {p : List UInt8} (hT : TI E) (h : Rel (absE E) l) : listL l p = (if listG (absE E) p = 0 then ksE E (splitN p) else [], listG (absE E) p) := by
  have hG := hT.gi
  unfold listL listG
  rw [h.findL hG]
  by_cases h1 : findG (absE E) p = 0
  · have hp : splitE p = 0 := Classical.byContradiction fun hp => by rw [findG_bad hp] at h1; exact hp h1
    simp only [findV, h1, if_true]
    split
    · rw [if_pos rfl, namesL_eq (g := absE E) hT h hp]
    · rfl
  · simp only [h1, if_false]
end
end Go.Proofs.Ytccfmfehfhfhhaa

namespace Go.Proofs.Ytccfmfehfhfhhaa
open Go Go.Fw Go.RowKit
set_option linter.unusedVariables false
set_option linter.unusedSimpArgs false

/-- Does one stand in another that is no directory? -/
def BadAt (l : List Raw) (i k : Nat) : Prop := ∃ x y, l[i]? = some x ∧ l[k]? = some y ∧ i ≠ k ∧ x.2.1 = false ∧ underP y.1 x.1 = true
def badL (l : List Raw) : Prop := ∃ i k, BadAt l i k
/-- The directories that a path stands in, laid. -/
def fillX (N : NP) (t : List Raw) : Nat → List Raw
  | 0 => t
  | k + 1 => if 0 ≤ atR (fillX N t k) (joinS (N.take (k + 1))) then fillX N t k else withR (fillX N t k) (joinS (N.take (k + 1)), true, [])
def fillL (l t : List Raw) : List Raw := l.foldl (fun t x => fillX (splitN x.1) t ((splitN x.1).length - 1)) t
open Classical in
noncomputable def ofL (l : List Raw) : List Raw × Int :=
  if firstR l ≠ 0 then ([], firstR l) else if ¬ (l.map (·.1)).Nodup then ([], 10) else if badL l then ([], 17) else
    if 128 < (fillL l (l.foldl withR [])).length then ([], 7) else (fillL l (l.foldl withR []), 0)

theorem layI_val {g : Gf} {N : NP} {dir : Bool} {b : List UInt8} : ∀ {j : Nat}, j ≤ N.length → ∀ r : NP, layI g N dir b j r = if (g r).isSome = true then g r else if r ≠ [] ∧ r.length ≤ j ∧ r.isPrefixOf N = true then some (if r = N ∧ dir = false then (false, b) else (true, [])) else none
  | 0, _, r => by
    unfold layI
    cases hr : g r with
    | some v => simp
    | none =>
      rw [if_neg (by simp), if_neg]
      rintro ⟨h1, h2, _⟩
      exact h1 (List.length_eq_zero_iff.1 (by omega))
  | j + 1, hj, r => by
    have ih := layI_val (g := g) (N := N) (dir := dir) (b := b) (j := j) (by omega)
    unfold layI
    have hlen : (N.take (j + 1)).length = j + 1 := by simp; omega
    have hpre : (N.take (j + 1)).isPrefixOf N = true := ipf.2 ⟨N.drop (j + 1), (List.take_append_drop _ _).symm⟩
    have hne : N.take (j + 1) ≠ [] := fun e => by rw [e] at hlen; simp at hlen
    have hat : layI g N dir b j (N.take (j + 1)) = g (N.take (j + 1)) := by
      rw [ih]
      split
      · rfl
      · rename_i h
        rw [if_neg (fun e => by have := e.2.1; omega)]
        simpa using (by simpa using h : g (N.take (j + 1)) = none).symm
    have hfull : (N.take (j + 1) = N ↔ j + 1 = N.length) := ⟨fun e => by have := congrArg List.length e; rw [hlen] at this; exact this, fun e => List.take_of_length_le (by omega)⟩
    by_cases hr : r = N.take (j + 1)
    · subst hr
      rw [hat]
      cases hg : g (N.take (j + 1)) with
      | some v => simp only [reduceCtorEq, if_false, Option.isSome_some, if_true]; rw [hat, hg]
      | none =>
        simp only [if_true, Option.isSome_none, Bool.false_eq_true, if_false]
        unfold setG
        rw [if_pos rfl, if_pos (show N.take (j + 1) ≠ [] ∧ (N.take (j + 1)).length ≤ j + 1 ∧ (N.take (j + 1)).isPrefixOf N = true from ⟨hne, by omega, hpre⟩)]
        simp only [hfull]
    · have e1 : (if layI g N dir b j (N.take (j + 1)) = none then setG (layI g N dir b j) (N.take (j + 1)) (some (if j + 1 = N.length ∧ dir = false then (false, b) else (true, []))) else layI g N dir b j) r = layI g N dir b j r := by
        split
        · unfold setG; rw [if_neg hr]
        · rfl
      rw [e1, ih]
      have e2 : (r ≠ [] ∧ r.length ≤ j ∧ r.isPrefixOf N = true) ↔ (r ≠ [] ∧ r.length ≤ j + 1 ∧ r.isPrefixOf N = true) := by
        constructor
        · rintro ⟨h1, h2, h3⟩; exact ⟨h1, by omega, h3⟩
        · rintro ⟨h1, h2, h3⟩
          refine ⟨h1, ?_, h3⟩
          obtain ⟨t, ht⟩ := ipf.1 h3
          rcases Nat.lt_or_ge j r.length with h4 | h4
          · exfalso
            apply hr
            have : r.length = j + 1 := by omega
            rw [ht, List.take_append_of_le_length (by omega), ← this, List.take_length]
          · exact h4
      simp only [e2]
theorem layG_val (g : Gf) (x : Raw) (r : NP) : layG g x r = if (g r).isSome = true then g r else if r ≠ [] ∧ r.isPrefixOf (splitN x.1) = true then some (if r = splitN x.1 ∧ x.2.1 = false then (false, x.2.2) else (true, [])) else none := by
  unfold layG
  rw [layI_val (Nat.le_refl _)]
  have : (r ≠ [] ∧ r.length ≤ (splitN x.1).length ∧ r.isPrefixOf (splitN x.1) = true) ↔ (r ≠ [] ∧ r.isPrefixOf (splitN x.1) = true) := by
    constructor
    · rintro ⟨h1, _, h3⟩; exact ⟨h1, h3⟩
    · rintro ⟨h1, h3⟩
      obtain ⟨t, ht⟩ := ipf.1 h3
      exact ⟨h1, by rw [ht]; simp, h3⟩
  simp only [this]

/-- What stands at a path, of given files. -/
def ofG (l : List Raw) (r : NP) : Option (Bool × List UInt8) := match l.find? (fun x => decide (splitN x.1 = r)) with
  | some x => some x.2
  | none => if l.any (fun x => r.isPrefixOf (splitN x.1)) = true then some (true, []) else none
structure OkL (l : List Raw) : Prop where
  one : ∀ x ∈ l, splitE x.1 = 0 ∧ splitN x.1 ≠ [] ∧ (x.2.1 = true → x.2.2 = []) ∧ x.2.2.length ≤ 65536
  nd : (l.map (·.1)).Nodup
  top : ∀ x ∈ l, ∀ y ∈ l, y.2.1 = false → ∀ t, t ≠ [] → splitN x.1 ≠ splitN y.1 ++ t
theorem OkL.inj {l : List Raw} (h : OkL l) {x y : Raw} (hx : x ∈ l) (hy : y ∈ l) (he : splitN x.1 = splitN y.1) : x = y := by
  have h1 : x.1 = y.1 := by rw [← joinS_splitN (h.one x hx).1, ← joinS_splitN (h.one y hy).1, he]
  have hn := h.nd
  rw [List.Nodup, List.pairwise_map] at hn
  exact Classical.byContradiction fun hne => by
    obtain ⟨i, hi⟩ := List.mem_iff_getElem?.1 hx
    obtain ⟨j, hj⟩ := List.mem_iff_getElem?.1 hy
    obtain ⟨a1, a2⟩ := List.getElem?_eq_some_iff.1 hi
    obtain ⟨b1, b2⟩ := List.getElem?_eq_some_iff.1 hj
    rcases Nat.lt_trichotomy i j with h3 | h3 | h3
    · exact (List.pairwise_iff_getElem.1 hn i j a1 b1 h3) (by rw [a2, b2, h1])
    · subst h3; exact hne (a2.symm.trans b2)
    · exact (List.pairwise_iff_getElem.1 hn j i b1 a1 h3) (by rw [a2, b2, h1])
theorem OkL.find {l : List Raw} (h : OkL l) {x : Raw} {r : NP} (hx : x ∈ l) (he : splitN x.1 = r) : l.find? (fun x => decide (splitN x.1 = r)) = some x := by
  cases hf : l.find? (fun x => decide (splitN x.1 = r)) with
  | none => exact absurd (List.find?_eq_none.1 hf x hx) (by simp [he])
  | some y =>
    have h1 := List.mem_of_find?_eq_some hf
    have h2 := List.find?_some hf
    simp at h2
    rw [h.inj h1 hx (by rw [h2, he])]
theorem OkL.of {l : List Raw} (h1 : ∀ x ∈ l, singleR x = 0) (h2 : togetherR l = 0) : OkL l := by
  obtain ⟨h3, h4⟩ := together_ok h2
  exact ⟨fun x hx => single_ok (h1 x hx), h3, fun x hx y hy hyd t ht he => h4 ⟨x, hx, y, hy, hyd, t, ht, he⟩⟩

theorem lays_val {l : List Raw} (h : OkL l) : ∀ {j : Nat}, j ≤ l.length → ∀ r : NP, ((l.take j).foldl layG gNew) r = if r = [] then some (true, []) else ofG (l.take j) r
  | 0, _, r => by
    simp only [List.take_zero, List.foldl_nil, gNew]
    split
    · rfl
    · simp [ofG]
  | j + 1, hj, r => by
    obtain ⟨x, hx⟩ := get_lt (l := l) (q := j) (by omega)
    have hxm := List.mem_of_getElem? hx
    have ih := lays_val h (j := j) (by omega) r
    rw [take_mem hx, List.foldl_append]
    simp only [List.foldl_cons, List.foldl_nil]
    rw [layG_val, ih]
    by_cases h0 : r = []
    · subst h0; simp
    · simp only [h0, if_false]
      unfold ofG
      rw [List.find?_append, List.any_append]
      cases hf : (l.take j).find? (fun x => decide (splitN x.1 = r)) with
      | some y => simp
      | none =>
        have hno : ∀ y ∈ l.take j, splitN y.1 ≠ r := fun y hy => by simpa using List.find?_eq_none.1 hf y hy
        simp only [Option.none_or, List.find?_cons, List.find?_nil, List.any_cons, List.any_nil, Bool.or_false]
        by_cases hr : splitN x.1 = r
        · subst hr
          have hpp : (splitN x.1).isPrefixOf (splitN x.1) = true := ipf.2 ⟨[], by simp⟩
          simp only [decide_true, hpp, ne_eq, h0, not_false_eq_true, and_self, if_true, true_and]
          cases ha : (l.take j).any (fun y => (splitN x.1).isPrefixOf (splitN y.1)) with
          | true =>
            simp only [if_true, Option.isSome_some]
            obtain ⟨y, hy, hp⟩ := List.any_eq_true.1 ha
            obtain ⟨t, ht⟩ := ipf.1 hp
            have ht0 : t ≠ [] := fun e => hno y hy (by rw [ht, e, List.append_nil])
            have hd : x.2.1 = true := by
              cases hd : x.2.1 with
              | true => rfl
              | false => exact absurd ht (h.top y (List.mem_of_mem_take hy) x hxm hd t ht0)
            congr 1
            exact Prod.ext hd.symm ((h.one x hxm).2.2.1 hd).symm
          | false =>
            simp only [Bool.false_eq_true, if_false, Option.isSome_none]
            congr 1
            cases hd : x.2.1 with
            | true =>
              rw [if_neg (by simp)]
              exact Prod.ext hd.symm ((h.one x hxm).2.2.1 hd).symm
            | false =>
              rw [if_pos rfl]
              exact Prod.ext hd.symm rfl
        · simp only [hr, decide_false]
          cases ha : (l.take j).any (fun y => r.isPrefixOf (splitN y.1)) with
          | true => simp
          | false =>
            simp only [Bool.false_eq_true, if_false, Option.isSome_none, Bool.false_or]
            by_cases hp : r.isPrefixOf (splitN x.1) = true
            · rw [if_pos ⟨h0, hp⟩, if_pos hp, if_neg (fun e => hr e.1.symm)]
            · rw [if_neg (fun e => hp e.2), if_neg hp]
theorem lay_all {l : List Raw} (h : OkL l) (r : NP) : (l.foldl layG gNew) r = if r = [] then some (true, []) else ofG l r := by
  have := lays_val h (Nat.le_refl _) r
  rwa [List.take_length] at this

/-- On the way through the directories of given files. -/
structure FillI (l t : List Raw) : Prop where
  srt : t.Pairwise ltR
  old : ∀ y ∈ l, y ∈ t
  new : ∀ y ∈ t, y ∈ l ∨ (y.2 = (true, []) ∧ (∀ z ∈ l, z.1 ≠ y.1) ∧ ∃ x ∈ l, ∃ i, 1 ≤ i ∧ i < (splitN x.1).length ∧ y.1 = joinS ((splitN x.1).take i))
theorem FillI.start {l : List Raw} (h : OkL l) : FillI l (l.foldl withR []) := by
  have hm : ∀ y, y ∈ l.foldl withR [] ↔ y ∈ l := fun y => by
    have := foldW_mem (g := id) (l := l) (A := []) (y := y)
    simpa using this
  refine ⟨?_, fun y hy => (hm y).2 hy, fun y hy => .inl ((hm y).1 hy)⟩
  exact foldW_srt (f := id) List.Pairwise.nil h.nd (by simp)
theorem FillI.fill {l : List Raw} {x : Raw} (hx : x ∈ l) : ∀ {t : List Raw} (k : Nat), FillI l t → k < (splitN x.1).length → FillI l (fillX (splitN x.1) t k) ∧ (∀ y ∈ t, y ∈ fillX (splitN x.1) t k) ∧ ∀ i, 1 ≤ i → i ≤ k → ∃ y ∈ fillX (splitN x.1) t k, y.1 = joinS ((splitN x.1).take i)
  | t, 0, h, _ => ⟨h, fun y hy => hy, fun i h1 h2 => by omega⟩
  | t, k + 1, h, hk => by
    obtain ⟨h1, h2, h3⟩ := FillI.fill hx k h (by omega)
    unfold fillX
    split
    · rename_i hat
      refine ⟨h1, h2, fun i hi1 hi2 => ?_⟩
      rcases Nat.lt_or_ge k i with h4 | h4
      · have : i = k + 1 := by omega
        subst this
        rcases atR_cases (fillX (splitN x.1) t k) (joinS ((splitN x.1).take (k + 1))) with ⟨j, y, a1, a2, _⟩ | ⟨_, a2⟩
        · exact ⟨y, List.mem_of_getElem? a1, a2⟩
        · omega
      · exact h3 i hi1 h4
    · rename_i hat
      have hno : ∀ y ∈ fillX (splitN x.1) t k, y.1 ≠ joinS ((splitN x.1).take (k + 1)) := by
        rcases atR_cases (fillX (splitN x.1) t k) (joinS ((splitN x.1).take (k + 1))) with ⟨j, y, a1, a2, a3, _⟩ | ⟨a1, _⟩
        · omega
        · exact a1
      refine ⟨⟨withR_srt h1.srt hno, fun y hy => withR_mem.2 (.inr (h1.old y hy)), fun y hy => ?_⟩, fun y hy => withR_mem.2 (.inr (h2 y hy)), fun i hi1 hi2 => ?_⟩
      · rcases withR_mem.1 hy with rfl | hy
        · exact .inr ⟨rfl, fun z hz => hno z (h1.old z hz), x, hx, k + 1, by omega, hk, rfl⟩
        · exact h1.new y hy
      · rcases Nat.lt_or_ge k i with h4 | h4
        · have : i = k + 1 := by omega
          subst this
          exact ⟨_, withR_mem.2 (.inl rfl), rfl⟩
        · obtain ⟨y, hy, he⟩ := h3 i hi1 h4
          exact ⟨y, withR_mem.2 (.inr hy), he⟩
theorem FillI.all {l : List Raw} (h : OkL l) : ∀ {m t : List Raw}, (∀ x ∈ m, x ∈ l) → FillI l t → FillI l (fillL m t) ∧ (∀ y ∈ t, y ∈ fillL m t) ∧ ∀ x ∈ m, ∀ i, 1 ≤ i → i < (splitN x.1).length → ∃ y ∈ fillL m t, y.1 = joinS ((splitN x.1).take i)
  | [], t, _, hF => ⟨hF, fun y hy => hy, by simp⟩
  | x :: m, t, hm, hF => by
    have hx := hm x (by simp)
    have hlen : 0 < (splitN x.1).length := List.length_pos_iff.2 (h.one x hx).2.1
    obtain ⟨h1, h2, h3⟩ := FillI.fill hx ((splitN x.1).length - 1) hF (by omega)
    obtain ⟨g1, g2, g3⟩ := FillI.all h (m := m) (fun y hy => hm y (by simp [hy])) h1
    refine ⟨g1, fun y hy => g2 y (h2 y hy), fun z hz i hi1 hi2 => ?_⟩
    rcases List.mem_cons.1 hz with rfl | hz
    · obtain ⟨y, hy, he⟩ := h3 i hi1 (by omega)
      exact ⟨y, g2 y hy, he⟩
    · exact g3 z hz i hi1 hi2
theorem fill_rel {l : List Raw} (h : OkL l) : Rel (l.foldl layG gNew) (fillL l (l.foldl withR [])) := by
  obtain ⟨h1, h2, h3⟩ := FillI.all h (fun _ hx => hx) (FillI.start h)
  refine ⟨h1.srt, fun z => ?_⟩
  have hpk : ∀ x ∈ l, ∀ i, POK ((splitN x.1).take i) := fun x hx i => (POK_split (h.one x hx).1).take i
  constructor
  · intro hz
    rcases h1.new z hz with hzl | ⟨hz2, hz3, x, hx, i, hi1, hi2, hi3⟩
    · obtain ⟨a1, a2, a3, a4⟩ := h.one z hzl
      refine ⟨splitN z.1, a2, (joinS_splitN a1).symm, ?_⟩
      rw [lay_all h, if_neg a2]
      unfold ofG
      rw [h.find hzl rfl]
    · have hne : (splitN x.1).take i ≠ [] := fun e => by have := congrArg List.length e; rw [List.length_take, List.length_nil] at this; omega
      refine ⟨(splitN x.1).take i, hne, hi3, ?_⟩
      rw [lay_all h, if_neg hne]
      unfold ofG
      have hf : l.find? (fun x_1 => decide (splitN x_1.1 = (splitN x.1).take i)) = none := List.find?_eq_none.2 fun y hy e => by
        simp at e
        exact hz3 y hy (by rw [hi3, ← e, joinS_splitN (h.one y hy).1])
      rw [hf]
      simp only
      rw [if_pos (List.any_eq_true.2 ⟨x, hx, ipf.2 ⟨(splitN x.1).drop i, (List.take_append_drop _ _).symm⟩⟩), hz2]
  · rintro ⟨N, h0, hN, hv⟩
    rw [lay_all h, if_neg h0] at hv
    unfold ofG at hv
    cases hf : l.find? (fun x => decide (splitN x.1 = N)) with
    | some y =>
      rw [hf] at hv
      have hy := List.mem_of_find?_eq_some hf
      have he := List.find?_some hf
      simp at he
      have : z = y := Prod.ext (by rw [hN, ← he, joinS_splitN (h.one y hy).1]) (Option.some.inj hv).symm
      rw [this]
      exact h1.old y hy
    | none =>
      rw [hf] at hv
      simp only at hv
      split at hv
      · rename_i ha
        obtain ⟨x, hx, hp⟩ := List.any_eq_true.1 ha
        obtain ⟨t, ht⟩ := ipf.1 hp
        have hno : ∀ y ∈ l, splitN y.1 ≠ N := fun y hy => by simpa using List.find?_eq_none.1 hf y hy
        have ht0 : t ≠ [] := fun e => hno x hx (by rw [ht, e, List.append_nil])
        have hNt : N = (splitN x.1).take N.length := by rw [ht, List.take_left' rfl]
        obtain ⟨y, hy, he⟩ := h3 x hx N.length (by cases N with | nil => exact absurd rfl h0 | cons a b => simp) (by rw [ht]; simp; exact List.length_pos_iff.2 ht0)
        rw [← hNt] at he
        have : z = y := by
          refine Prod.ext (hN.trans he.symm) ?_
          rcases h1.new y hy with hyl | ⟨h4, _⟩
          · exfalso
            refine hno y hyl ?_
            have := (hpk x hx N.length).sp.2
            rw [← hNt] at this
            rw [he, this]
          · rw [h4]; exact (Option.some.inj hv).symm
        rw [this]
        exact hy
      · cases hv
theorem bad_LR {l : List Raw} (h1 : ∀ x ∈ l, singleR x = 0) (hn : (l.map (·.1)).Nodup) : badL l ↔ badR l := by
  constructor
  · rintro ⟨i, k, x, y, hi, hk, hne, hd, hu⟩
    have hx := List.mem_of_getElem? hi
    have hy := List.mem_of_getElem? hk
    obtain ⟨a1, _⟩ := single_ok (h1 x hx)
    obtain ⟨b1, _⟩ := single_ok (h1 y hy)
    rw [underP_eq] at hu
    simp only [Bool.and_eq_true, decide_eq_true_eq] at hu
    obtain ⟨t, ht⟩ := ipf.1 hu.2
    refine ⟨y, hy, x, hx, hd, t, fun e => hne ?_, ht⟩
    subst e
    rw [List.append_nil] at ht
    have he : x.1 = y.1 := by rw [← joinS_splitN a1, ← joinS_splitN b1, ht]
    have g1 : (l.map (·.1))[i]? = some x.1 := by simp [hi]
    have g2 : (l.map (·.1))[k]? = some x.1 := by simp [hk, he]
    obtain ⟨c1, c2⟩ := List.getElem?_eq_some_iff.1 g1
    obtain ⟨d1, d2⟩ := List.getElem?_eq_some_iff.1 g2
    exact (List.getElem_inj hn).1 (c2.trans d2.symm)
  · rintro ⟨x, hx, y, hy, hd, t, ht, he⟩
    obtain ⟨a1, _⟩ := single_ok (h1 x hx)
    obtain ⟨b1, _⟩ := single_ok (h1 y hy)
    obtain ⟨i, hi⟩ := List.mem_iff_getElem?.1 hx
    obtain ⟨k, hk⟩ := List.mem_iff_getElem?.1 hy
    refine ⟨k, i, y, x, hk, hi, fun e => ?_, hd, ?_⟩
    · subst e
      rw [hi] at hk
      cases hk
      exact ht (by have := congrArg List.length he; simp at this; exact this)
    · rw [underP_eq, a1, b1, he, ipf_app]; rfl

section
variable {l t : List Raw} {x : Raw} {N : NP} {j k : Nat}
theorem fold_mem {y : Raw} : y ∈ l.foldl withR [] ↔ y ∈ l := by
  have := foldW_mem (g := id) (l := l) (A := []) (y := y)
  simpa using this
theorem fold_len : (l.foldl withR []).length = l.length := by
  have := foldW_len (g := id) l []
  simpa using this
theorem ofL_at {c : Int} (hx : l[j]? = some x) (hok : ∀ y ∈ l.take j, singleR y = 0) (hs : singleR x = c) (hc : c ≠ 0) : ofL l = ([], c) := by
  have h := firstR_at hx hok (by rw [hs]; exact hc)
  unfold ofL
  rw [if_pos (by rw [h, hs]; exact hc), h, hs]
theorem ofL_2 (h0 : firstR l = 0) (h : ¬ (l.map (·.1)).Nodup) : ofL l = ([], 10) := by
  unfold ofL; rw [if_neg (by simp [h0]), if_pos h]
theorem ofL_3 (h0 : firstR l = 0) (h : (l.map (·.1)).Nodup) (hb : badL l) : ofL l = ([], 17) := by
  unfold ofL; rw [if_neg (by simp [h0]), if_neg (fun e => e h), if_pos hb]
theorem ofL_4 (h0 : firstR l = 0) (h : (l.map (·.1)).Nodup) (hb : ¬ badL l) : ofL l = if 128 < (fillL l (l.foldl withR [])).length then ([], 7) else (fillL l (l.foldl withR []), 0) := by
  unfold ofL; rw [if_neg (by simp [h0]), if_neg (fun e => e h), if_neg hb]
theorem fillX_no (h : ¬ 0 ≤ atR (fillX N t k) (joinS (N.take (k + 1)))) : fillX N t (k + 1) = withR (fillX N t k) (joinS (N.take (k + 1)), true, []) := by
  conv => lhs; unfold fillX
  rw [if_neg h]
theorem fillX_yes (h : 0 ≤ atR (fillX N t k) (joinS (N.take (k + 1)))) : fillX N t (k + 1) = fillX N t k := by
  conv => lhs; unfold fillX
  rw [if_pos h]
theorem fillX_len : ∀ (k : Nat), (fillX N t k).length ≤ t.length + k
  | 0 => Nat.le_refl _
  | k + 1 => by
    have := fillX_len k
    unfold fillX
    split
    · omega
    · rw [withR_len]; omega
theorem fillX_names (hN : POK N) (ht : ∀ y ∈ t, y.1.length ≤ 2000) : ∀ (k : Nat), ∀ y ∈ fillX N t k, y.1.length ≤ 2000
  | 0, y, hy => ht y hy
  | k + 1, y, hy => by
    unfold fillX at hy
    split at hy
    · exact fillX_names hN ht k y hy
    · rcases withR_mem.1 hy with rfl | hy
      · have := (hN.take (k + 1)).2.2
        simp only; omega
      · exact fillX_names hN ht k y hy
theorem fillL_step (hx : l[j]? = some x) : fillL (l.take (j + 1)) t = fillX (splitN x.1) (fillL (l.take j) t) ((splitN x.1).length - 1) := by
  unfold fillL
  rw [take_mem hx, List.foldl_append]; rfl
theorem fillL_len : ∀ (l t : List Raw), (fillL l t).length ≤ t.length + 8 * l.length
  | [], t => by simp [fillL]
  | x :: l, t => by
    have h1 := fillL_len l (fillX (splitN x.1) t ((splitN x.1).length - 1))
    have h2 := fillX_len (N := splitN x.1) (t := t) ((splitN x.1).length - 1)
    have h3 := splitN_len x.1
    unfold fillL at h1 ⊢
    simp only [List.foldl_cons, List.length_cons]
    omega
theorem fillL_names : ∀ {l t : List Raw}, (∀ x ∈ l, splitE x.1 = 0) → (∀ y ∈ t, y.1.length ≤ 2000) → ∀ y ∈ fillL l t, y.1.length ≤ 2000
  | [], t, _, ht => ht
  | x :: l, t, hl, ht => fillL_names (l := l) (fun z hz => hl z (by simp [hz])) (fillX_names (POK_split (hl x (by simp))) ht _)
theorem badAt_step {a b : Nat} (h : ∀ k < b, ¬ BadAt l a k) (hb : ¬ BadAt l a b) : ∀ k < b + 1, ¬ BadAt l a k := fun k hk => by
  rcases Nat.lt_or_ge k b with h1 | h1
  · exact h k h1
  · have : k = b := by omega
    subst this; exact hb
theorem badAt_row {a : Nat} (h : ∀ i < a, ∀ k, ¬ BadAt l i k) (hb : ∀ k < l.length, ¬ BadAt l a k) : ∀ i < a + 1, ∀ k, ¬ BadAt l i k := fun i hi k => by
  rcases Nat.lt_or_ge i a with h1 | h1
  · exact h i h1 k
  · have : i = a := by omega
    subst this
    intro hbad
    have hbad' := hbad
    obtain ⟨x, y, h1, h2, _⟩ := hbad'
    exact hb k (List.getElem?_eq_some_iff.1 h2).1 hbad
theorem nilK {w0 : World} : FilesK w0 [] (.slice none 0 0) [] := FilesK.own (L := []) ⟨[], [], [], rfl, rfl, OwL.nil, by simp⟩
end
end Go.Proofs.Ytccfmfehfhfhhaa

namespace Go.Fw
open Go Go.RowKit
set_option linter.unusedVariables false
set_option linter.unusedSimpArgs false

theorem run_freeze_end {P : Program} {w : World} {b : Nat} {cs : List Value} {T : TypeId} (hb : w.heap[b]? = some (.cells cs.toArray T (0, 0))) :
    (markStringish ⟨b, 0, none⟩).run P w = .ok () (w.putObj b (.cells cs.toArray T (cs.length, cs.length + 1))) := by
  have hsh : w.shape? b = some (T, cs.length) := by simp [World.shape?, hb]
  have hf : w.freeze ⟨b, cs.length, none⟩ 1 = w.putObj b (.cells cs.toArray T (cs.length, cs.length + 1)) := by
    unfold World.freeze
    rw [if_neg (by decide)]
    simp only [World.putObj]
    congr 1
    apply Array.ext_getElem?
    intro k
    rw [Array.getElem?_modify, Array.getElem?_setIfInBounds]
    split
    · rename_i hk
      subst hk
      obtain ⟨hlt, he⟩ := Array.getElem?_eq_some_iff.1 hb
      simp [hlt, he]
    · rfl
  simp [markStringish, run_shape, hsh, hf]

/-- A conversion of bytes to bytes: what is told by a text is marked. -/
theorem x_cvsl {P : Program} {n : Nat} {ops : Array Oper} {B : Array Nat} {dr : Bool} {K : KT} {s : List (Nat × Bool)} {F : Env} {ds : List Deferred} {T : List (Nat × (World → Prop))} {w : World} {i : Nat}
    {d : Option Tmp} {ty : TypeId} {ps : String} {af : Array Edge} {g : Option (Nat × Bool)} {x : Operand} {t t2 e Tb : TypeId} {b len cap : Nat} {cs : List Value}
    (ho : ops[i]? = some ⟨d, .convert t t2 x, ty, ps, af, g⟩) (hg : guardV ops F g = some true) (hd : dstOK n d = true) (htt : t = t2) (ht : P.underlying t = some (.slice e)) (he : P.underlying e = some (.int .u8))
    (hx : ev? F x = some (.slice (some ⟨b, 0, none⟩) len cap)) (hb : w.heap[b]? = some (.cells cs.toArray Tb (0, 0)))
    (h : ∀ w1, w1 = w.putObj b (.cells cs.toArray Tb (cs.length, cs.length + 1)) → pend B i T w1 ∧ Ex P n ops B dr K s (putE F d (.slice (some ⟨b, 0, none⟩) len cap)) ds T w1) : Ex P n ops B dr K ((i, true) :: s) F ds T w := by
  subst htt
  obtain ⟨g1, g2⟩ := h _ rfl
  refine x_mv ho hg hd (v := .slice (some ⟨b, 0, none⟩) len cap) (w1 := w.putObj b (.cells cs.toArray Tb (cs.length, cs.length + 1))) (fun at_ hk => ?_) g1 g2
  simp only [execOp, hk.eval hx, convert, Sem.run_bind, run_underlying ht, run_underlying he, Result.andThen_ok, beq_self_eq_true, run_freeze_end hb, Sem.run_pure]
theorem St.rot {S : Nat → Prop} {w0 w : World} {A X B : List (Nat × Obj)} (h : St S w0 (A ++ (X ++ B)) w) : St S w0 (B ++ (A ++ X)) w := h.perm (by rw [← List.append_assoc]; exact List.perm_append_comm)
theorem St.rot2 {S : Nat → Prop} {w0 w : World} {A X B : List (Nat × Obj)} (h : St S w0 (B ++ (A ++ X)) w) : St S w0 (A ++ (X ++ B)) w := h.perm (by rw [← List.append_assoc A X B]; exact List.perm_append_comm)
theorem St.rotX {S : Nat → Prop} {w0 w : World} {A B L X : List (Nat × Obj)} (h : St S w0 (A ++ (B ++ (L ++ X))) w) : St S w0 (L ++ (X ++ (A ++ B))) w :=
  h.perm (perm_c fun p => by simp only [List.countP_append]; omega)
theorem St.rotY {S : Nat → Prop} {w0 w : World} {A B L X : List (Nat × Obj)} (h : St S w0 (L ++ (X ++ (A ++ B))) w) : St S w0 (A ++ (B ++ (L ++ X))) w :=
  h.perm (perm_c fun p => by simp only [List.countP_append]; omega)
/-- Behind a block at the end of a list. -/
theorem St.put3 {S : Nat → Prop} {w0 w w1 : World} {P A B : List (Nat × Obj)} {b : Nat} {o0 o : Obj} (h : St S w0 (P ++ (A ++ (b, o0) :: B)) w) (hw : w1 = w.putObj b o) : St S w0 (P ++ (A ++ (b, o) :: B)) w1 := by
  rw [← List.append_assoc] at h ⊢
  exact h.put2 hw
theorem SlL.lit {L : List (Nat × Obj)} {b n : Nat} {cs : List Value} {T : TypeId} {fr : Nat × Nat} (hm : (b, Obj.cells cs.toArray T fr) ∈ L) (hn : cs.length = n) : SlL L (.slice (some ⟨b, 0, none⟩) n n) 1 n cs :=
  .inr ⟨b, 0, n, _, T, fr, rfl, Nat.le_refl _, hm, by simp [← hn], by simp [hn]⟩
end Go.Fw

namespace Go.Proofs.Ytccfmfehfhfhhaa
open Go Go.Fw Go.RowKit
set_option linter.unusedVariables false
set_option linter.unusedSimpArgs false

/-- A tree of these rows. -/
structure TR (E : List Ent) (l : List Raw) : Prop where
  ti : TI E
  rel : Rel (absE E) l
  le : l.length ≤ 128
section
variable {E : List Ent} {l : List Raw} {w0 w00 : World} {bt : Nat} {L : List (Nat × Obj)} {p x y b : List UInt8}
theorem TR.files (h : TR E l) : filesE E = l := filesE_eq h.ti h.rel
theorem TR.len (h : TR E l) : E.length = l.length + 1 := by rw [← filesE_len h.ti, h.files]
theorem TR.le' (h : TR E l) : E.length ≤ 129 := by have := h.len; have := h.le; omega
theorem TR.full (h : TR E l) : decide (E.length = 129) = decide (128 ≤ l.length) := by
  rw [decide_eq_decide]; have := h.len; have := h.le; omega
theorem TR.of {E' : List Ent} {l' : List Raw} (hT : TI E') (hr : Rel (absE E') l') (hl : E'.length ≤ 129) : TR E' l' :=
  ⟨hT, hr, by have := filesE_len hT; rw [filesE_eq hT hr] at this; omega⟩
theorem TR.row (h : TR E l) {z : Raw} (hz : z ∈ l) : splitE z.1 = 0 ∧ splitN z.1 ≠ [] ∧ absE E (splitN z.1) = some z.2 ∧ z.1 ≠ [] := h.rel.name (fun q v hv => (h.ti.gi.ok q v hv).1) hz
theorem TR.names (h : TR E l) : ∀ z ∈ l, z.1.length ≤ 120 := fun z hz => splitE_len (h.row hz).1
theorem TR.data (h : TR E l) : ∀ z ∈ l, z.2.2.length ≤ 65536 ∧ (z.2.1 = true → z.2.2 = []) := fun z hz => (h.ti.gi.ok _ _ (h.row hz).2.2.1).2
theorem TR.at_ {S : Nat → Prop} (h : TR E l) (M : St S w00 (tb bt E ++ L) w0) : TrA w0 bt E := TrA.of h.ti M

theorem mkdir_r (M : Sep w00 (tb bt E ++ L) w0) (h : TR E l) : Ret Try.prog 19 #[ptr bt, strV p] w0 fun r w' => ∃ E', r = .int .i64 (mkdirL l p).2 ∧ TR E' (mkdirL l p).1 ∧ Sep w00 (tb bt E' ++ L) w' :=
  (mkdir_c M h.ti h.le').mono fun r w' ⟨E', h1, h2, h3, h4, M⟩ => by
    obtain ⟨g1, g2⟩ := h.rel.mkdir h.ti.gi p
    rw [h.full] at h1 h2
    exact ⟨E', by rw [g1]; exact h1, TR.of h3 (by rw [h2]; exact g2) h4, M⟩
theorem put_r {v : Value} (M : Sep w00 (tb bt E ++ L) w0) (h : TR E l) (hv : ∀ w M, Sep w00 M w → (∀ x ∈ L, x ∈ M) → BytesAt w v b) : Ret Try.prog 20 #[ptr bt, strV p, v] w0 fun r w' => ∃ E', r = .int .i64 (putL l p b).2 ∧ TR E' (putL l p b).1 ∧ Sep w00 (tb bt E' ++ L) w' :=
  (put_c M h.ti h.le' hv).mono fun r w' ⟨E', h1, h2, h3, h4, M⟩ => by
    obtain ⟨g1, g2⟩ := h.rel.put h.ti.gi p b
    rw [h.full] at h1 h2
    exact ⟨E', by rw [g1]; exact h1, TR.of h3 (by rw [h2]; exact g2) h4, M⟩
theorem remove_r (M : Sep w00 (tb bt E ++ L) w0) (h : TR E l) : Ret Try.prog 21 #[ptr bt, strV p] w0 fun r w' => ∃ E', r = .int .i64 (removeL l p).2 ∧ TR E' (removeL l p).1 ∧ Sep w00 (tb bt E' ++ L) w' :=
  (remove_c M h.ti h.le').mono fun r w' ⟨E', h1, h2, h3, h4, M⟩ => by
    obtain ⟨g1, g2⟩ := h.rel.remove h.ti.gi p
    exact ⟨E', by rw [g1]; exact h1, TR.of h3 (by rw [h2]; exact g2) h4, M⟩
theorem rename_r (M : Sep w00 (tb bt E ++ L) w0) (h : TR E l) : Ret Try.prog 22 #[ptr bt, strV x, strV y] w0 fun r w' => ∃ E', r = .int .i64 (renameL l x y).2 ∧ TR E' (renameL l x y).1 ∧ Sep w00 (tb bt E' ++ L) w' :=
  (rename_c M h.ti h.le').mono fun r w' ⟨E', h1, h2, h3, h4, M⟩ => by
    obtain ⟨g1, g2⟩ := h.rel.rename h.ti.gi x y
    exact ⟨E', by rw [g1]; exact h1, TR.of h3 (by rw [h2]; exact g2) h4, M⟩
theorem files_r (M : Sep w00 (tb bt E ++ L) w0) (h : TR E l) : Ret Try.prog 15 #[ptr bt] w0 fun r w' => ∃ Lr, FilesO Lr r l ∧ Sep w00 (tb bt E ++ (L ++ Lr)) w' :=
  (files_c (h.at_ M) h.le' (by have := dfs_len h.ti; have := h.le'; omega)).mono fun r w' ⟨Lr, M1, h1⟩ => by
    have h2 := h.files
    unfold filesE at h2
    rw [h2] at h1
    exact ⟨Lr, h1, by have := M.grow M1; rwa [List.append_assoc] at this⟩
theorem find_r (M : Sep w00 (tb bt E ++ L) w0) (h : TR E l) : Ret Try.prog 23 #[ptr bt, strV p] w0 fun r w' => ∃ dv Lr, r = .tuple #[.agg #[strV (findL l p).1.1, .bool (findL l p).1.2.1, dv], .int .i64 (findL l p).2] ∧ BytesO Lr dv (findL l p).1.2.2 ∧ Sep w00 (tb bt E ++ (L ++ Lr)) w' :=
  (findv_c (h.at_ M)).mono fun r w' ⟨dv, Lr, h1, M1, h2⟩ => by
    have h3 := h.rel.findL h.ti.gi p
    rw [h3]
    exact ⟨dv, Lr, h1, h2, by have := M.grow M1; rwa [List.append_assoc] at this⟩
theorem list_r (M : Sep w00 (tb bt E ++ L) w0) (h : TR E l) : Ret Try.prog 27 #[ptr bt, strV p] w0 fun r w' => ∃ v Lr, r = .tuple #[v, .int .i64 (listL l p).2] ∧ StrsO Lr v (listL l p).1 ∧ Sep w00 (tb bt E ++ (L ++ Lr)) w' :=
  (list_c (h.at_ M) h.le').mono fun r w' ⟨v, Lr, h1, M1, h2⟩ => by
    rw [h.rel.list h.ti]
    exact ⟨v, Lr, h1, h2, by have := M.grow M1; rwa [List.append_assoc] at this⟩
theorem copy_r (M : Sep w00 (tb bt E ++ L) w0) (h : TR E l) : Ret Try.prog 29 #[ptr bt] w0 fun r w' => ∃ bt' E', r = ptr bt' ∧ TR E' l ∧ Sep w00 (tb bt' E' ++ (tb bt E ++ L)) w' :=
  (copy_c (h.at_ M) h.le').mono fun r w' ⟨bt', E', h1, M1, h2, h3, h4⟩ =>
    ⟨bt', E', h1, ⟨h2, by rw [h3]; exact h.rel, h.le⟩, M.grow' M1⟩
theorem TR.new (b m : Nat) : TR (newE b m) [] where
  ti := (TI.new b m).1
  rel := by
    refine ⟨List.Pairwise.nil, fun x => ⟨fun h => (by cases h), fun ⟨N, h0, _, h2⟩ => ?_⟩⟩
    rw [(TI.new b m).2] at h2
    unfold gNew at h2
    rw [if_neg h0] at h2
    cases h2
  le := by simp
theorem new_r : Ret Try.prog 24 #[] w0 fun r w' => ∃ bt E', r = ptr bt ∧ TR E' [] ∧ Sep w0 (tb bt E') w' :=
  new_c.mono fun r w' ⟨b, m, bt, h1, M⟩ => ⟨bt, newE b m, h1, TR.new b m, newT M⟩

theorem SgK.lit {w00 : World} {L : List (Nat × Obj)} {b n : Nat} {cs : List Value} {T : TypeId} {fr : Nat × Nat} (hm : (b, Obj.cells cs.toArray T fr) ∈ L) (hn : cs.length = n) : SgK w00 L (.slice (some ⟨b, 0, none⟩) n n) 1 n cs := SgK.slL (SlL.lit hm hn) (fun _ h => h)
theorem together_one (x : Raw) : togetherR [x] = 0 := by
  unfold togetherR
  rw [if_pos (by simp), if_neg]
  rintro ⟨y, hy, z, hz, _, t, ht, he⟩
  simp at hy hz
  subst hy hz
  exact ht (by have := congrArg List.length he; simp at this; exact this)
/-- Given files that may be. -/
theorem ofL_ok (h1 : ∀ x ∈ l, singleR x = 0) (h2 : togetherR l = 0) : ofL l = if 128 < (fillL l (l.foldl withR [])).length then ([], 7) else (fillL l (l.foldl withR []), 0) := by
  obtain ⟨h3, h4⟩ := together_ok h2
  exact ofL_4 (firstR_ok h1) h3 (fun e => h4 ((bad_LR h1 h3).1 e))
theorem firstR_zero : firstR l = 0 ↔ ∀ x ∈ l, singleR x = 0 := by
  constructor
  · intro h x hx
    unfold firstR at h
    cases hf : l.find? (fun x => decide (singleR x ≠ 0)) with
    | none => simpa using List.find?_eq_none.1 hf x hx
    | some y =>
      rw [hf] at h
      have := List.find?_some hf
      simp at this
      exact absurd h this
  · exact firstR_ok
theorem of_r {v : Value} (h : FilesAt w0 v l) (hl : l.length ≤ 1000) : Ret Try.prog 12 #[v] w0 fun r w' => ((ofL l).2 ≠ 0 ∧ r = .tuple #[.pointer none, .int .i64 (ofL l).2] ∧ New w0 w') ∨
    ((ofL l).2 = 0 ∧ ∃ E' bt, r = .tuple #[ptr bt, .int .i64 (ofL l).2] ∧ TR E' (ofL l).1 ∧ Sep w0 (tb bt E') w') :=
  (of_c h hl).mono fun r w' hh => by
    rcases hh with ⟨h1, h2, hn⟩ | ⟨h1, h2, h3, hn⟩ | ⟨h1, h2, h3, E', bt, hT, hab, hh⟩
    · have : ofL l = ([], firstR l) := by unfold ofL; rw [if_pos h1]
      rw [this]
      exact .inl ⟨h1, h2, hn⟩
    · have hs := firstR_zero.1 h1
      have : ofL l = ([], togetherR l) := by
        unfold togetherR at h2 ⊢
        by_cases hnd : (l.map (·.1)).Nodup
        · rw [if_pos hnd] at h2 ⊢
          by_cases hb : badR l
          · rw [if_pos hb, ofL_3 h1 hnd ((bad_LR hs hnd).2 hb)]
          · rw [if_neg hb] at h2; exact absurd rfl h2
        · rw [if_neg hnd, ofL_2 h1 hnd]
      rw [this]
      exact .inl ⟨h2, h3, hn⟩
    · have hR := fill_rel (OkL.of h3 h2)
      rw [← hab] at hR
      have hlen := filesE_len hT
      rw [filesE_eq hT hR] at hlen
      rw [ofL_ok h3 h2]
      rcases hh with ⟨h4, h5, hn⟩ | ⟨h4, h5, M⟩
      · rw [if_pos (by omega)]
        exact .inl ⟨by simp, h5, hn⟩
      · rw [if_neg (by omega)]
        exact .inr ⟨rfl, E', bt, h5, TR.of hT hR h4, M⟩
end
end Go.Proofs.Ytccfmfehfhfhhaa

namespace Go.Proofs.Ytccfmfehfhfhhaa
open Go Go.Fw Go.RowKit Go.Proofs
set_option linter.unusedVariables false
set_option linter.unusedSimpArgs false

set_option maxRecDepth 100000 in
theorem lives16_c {w0 : World}   : Ret Try.prog 11 #[] w0 fun r w' => r = .bool true ∧ New w0 w' := by
  have M : Sep w0 [] w0 := St.nil w0
  refine Ret.of_W Try.func11 rfl Try.ntmps11 rfl ?_
  refine W.seq ?_
  refine W.sub [] trivial ?_
  refine W.reg [(0, false)] (by kernel_rfl) ?_
  intro K hK
  refine x_assign rfl rfl rfl rfl ?_
  refine Ex.done (hK _ _ ?_)
  refine At.then_n ?_
  refine W.seq ?_
  refine W.sub [] trivial ?_
  refine W.reg [(0, true), (1, false)] (by kernel_rfl) ?_
  intro K hK
  refine x_call rfl rfl rfl rfl rfl en24 (new_r) ?_
  rintro r_ w1 ⟨bt, E1, rfl, h, M⟩
  have M : Sep w0 (tb bt E1 ++ []) w1 := by simpa using M
  refine ⟨trivial, ?_⟩
  refine x_assign rfl rfl rfl rfl ?_
  refine Ex.done (hK _ _ ?_)
  refine At.then_n ?_
  refine W.seq ?_
  refine W.seq ?_
  refine W.sub [(1, _)] ⟨rfl, trivial⟩ ?_
  refine W.reg [(0, false), (1, false), (2, false), (3, false), (4, true), (5, true), (6, true), (7, false), (8, false), (9, false), (10, false), (11, true), (12, false), (13, false), (14, false), (15, false), (16, true), (17, false), (18, false)] (by kernel_rfl) ?_
  intro K hK
  refine x_move rfl rfl rfl rfl ?_
  refine x_eqpn false rfl rfl rfl Try.underlying27 rfl rfl rfl ?_
  refine x_move rfl rfl rfl rfl ?_
  refine x_move rfl rfl rfl rfl ?_
  refine x_bs1 (cs := [_]) rfl rfl rfl Try.underlying23 sz5 ze5 (Z := [_]) rfl rfl (by decide) (by decide) rfl rfl rfl ?_
  intro bbs1 wbs1 hbbs1 hwbs1
  have M := M.alloc hbbs1 hwbs1
  rw [List.append_nil] at M
  refine ⟨trivial, ?_⟩
  refine x_cvsl rfl rfl rfl rfl Try.underlying23 Try.underlying5 rfl (M.get (List.mem_append_right _ (List.mem_singleton.2 rfl))) ?_
  intro wcv1 hwcv1
  have M := M.put2 hwcv1
  refine ⟨trivial, ?_⟩
  refine x_call rfl rfl rfl rfl rfl en20 (put_r (p := [97]) (b := [120]) M h (SgK.lit (cs := byteCs [120]) (List.mem_singleton.2 rfl) rfl)) ?_
  rintro r_ w2 ⟨E2, rfl, h, M⟩
  rw [show putL [] [97] [120] = ([([97], false, [120])], 0) from by decide +kernel] at h ⊢
  refine ⟨trivial, ?_⟩
  refine x_nei false rfl rfl rfl rfl rfl rfl ?_
  refine x_pickF rfl rfl rfl rfl rfl ?_
  refine x_move rfl rfl rfl rfl ?_
  refine x_move rfl rfl rfl rfl ?_
  refine x_call rfl rfl rfl rfl rfl en19 (mkdir_r (p := [100]) M h) ?_
  rintro r_ w3 ⟨E3, rfl, h, M⟩
  rw [show mkdirL [([97], false, [120])] [100] = ([([97], false, [120]), ([100], true, [])], 0) from by decide +kernel] at h ⊢
  refine ⟨trivial, ?_⟩
  refine x_nei false rfl rfl rfl rfl rfl rfl ?_
  refine x_pickF rfl rfl rfl rfl rfl ?_
  refine x_move rfl rfl rfl rfl ?_
  refine x_move rfl rfl rfl rfl ?_
  refine x_call rfl rfl rfl rfl rfl en22 (rename_r (x := [97]) (y := [100, 47, 98]) M h) ?_
  rintro r_ w4 ⟨E4, rfl, h, M⟩
  rw [show renameL [([97], false, [120]), ([100], true, [])] [97] [100, 47, 98] = ([([100], true, []), ([100, 47, 98], false, [120])], 0) from by decide +kernel] at h ⊢
  refine ⟨trivial, ?_⟩
  refine x_nei false rfl rfl rfl rfl rfl rfl ?_
  refine x_pickF rfl rfl rfl rfl rfl ?_
  refine Ex.done (hK _ _ ?_)
  refine At.then_n ?_
  refine W.condF rfl ?_
  refine W.skip ?_
  refine At.then_n ?_
  refine W.seq ?_
  refine W.sub [(1, _)] ⟨rfl, trivial⟩ ?_
  refine W.reg [(0, false), (1, true), (2, false)] (by kernel_rfl) ?_
  intro K hK
  refine x_move rfl rfl rfl rfl ?_
  refine x_call rfl rfl rfl rfl rfl en15 (files_r M h) ?_
  rintro r_ w5 ⟨L5, hl5, M⟩
  obtain ⟨p5, c5, rfl⟩ := (filesO_get hl5 (fun x hx => M.get (by simp [hx]))).shape
  refine ⟨trivial, ?_⟩
  refine x_assign rfl rfl rfl rfl ?_
  refine Ex.done (hK _ _ ?_)
  refine At.then_n ?_
  refine W.seq ?_
  refine W.sub [(1, _), (2, _)] ⟨rfl, rfl, trivial⟩ ?_
  refine W.reg [(0, false), (1, true), (2, false), (3, false), (4, false), (5, true), (6, true), (7, false)] (by kernel_rfl) ?_
  intro K hK
  refine x_move rfl rfl rfl rfl ?_
  refine x_call rfl rfl rfl rfl rfl en23 (find_r (p := [101, 47, 102]) M h) ?_
  rintro r_ w6 ⟨dv, L6, rfl, hb6, M⟩
  rw [show findL [([100], true, []), ([100, 47, 98], false, [120])] [101, 47, 102] = (fileZ, 9) from by decide +kernel] at hb6 ⊢
  obtain ⟨pdv, cdv, rfl⟩ := hb6.shape
  refine ⟨trivial, ?_⟩
  refine x_move rfl rfl rfl rfl ?_
  refine x_ext rfl rfl rfl rfl rfl ?_
  refine x_ext rfl rfl rfl rfl rfl ?_
  refine x_alloc [_, _, _] rfl rfl rfl ze25 rfl ?_
  intro bal1 wal1 hbal1 hwal1
  have M := M.acons hbal1 hwal1
  refine ⟨trivial, ?_⟩
  refine x_st [_, _, _] _ rfl rfl rfl sz25 rfl rfl rfl rfl (by first | exact M.at_ 0 rfl | exact M.at_ 1 rfl | exact M.at_ 2 rfl | exact M.at_ 3 rfl | exact M.at_ 4 rfl | exact M.at_ 5 rfl | exact M.at_ 6 rfl | exact M.at_ 7 rfl) rfl rfl rfl ?_
  intro wst1 hwst1
  have M := St.tail (M.put 0 rfl hwst1)
  refine ⟨trivial, ?_⟩
  refine x_assign rfl rfl rfl rfl ?_
  refine Ex.done (hK _ _ ?_)
  refine At.then_n ?_
  refine W.seq ?_
  refine W.sub [(1, _), (2, _), (4, _)] ⟨rfl, rfl, rfl, trivial⟩ ?_
  refine W.reg [(0, false), (1, true), (2, true), (3, false), (4, false), (5, false), (6, false), (7, false)] (by kernel_rfl) ?_
  intro K hK
  refine x_build [_, _, _] rfl rfl rfl pl25 ze25 rfl rfl rfl ?_
  refine x_bs1 (cs := [strV [97, 47, 98, 47, 99], .bool false, .slice none 0 0]) rfl rfl rfl Try.underlying22 sz25 ze25 (Z := [_, _, _]) rfl rfl (by decide) (by decide) rfl rfl rfl ?_
  intro bbs2 wbs2 hbbs2 hwbs2
  have M0 := M.acons hbbs2 hwbs2
  have hslbs2 : Sl wbs2 (.slice (some ⟨bbs2, 0, none⟩) 1 1) 3 1 [strV [97, 47, 98, 47, 99], .bool false, .slice none 0 0] := .inr ⟨bbs2, 0, 1, _, _, _, rfl, by omega, M0.at_ 0 rfl, rfl, rfl⟩
  have M := M0.tail
  have hfa7 : FilesAt wbs2 (.slice (some ⟨bbs2, 0, none⟩) 1 1) [([97, 47, 98, 47, 99], false, [])] := ⟨[(([97, 47, 98, 47, 99], false, []), .slice none 0 0)], rfl, .inr hslbs2, by intro f hf; rw [List.mem_singleton.1 hf]; exact ⟨.inr (.inl ⟨rfl, rfl, rfl⟩), rfl⟩⟩
  have hof : ofL [([97, 47, 98, 47, 99], false, [])] = ([([97], true, []), ([97, 47, 98], true, []), ([97, 47, 98, 47, 99], false, [])], 0) := (ofL_ok (firstR_zero.1 (by decide +kernel)) (together_one _)).trans (by decide +kernel)
  refine ⟨trivial, ?_⟩
  refine x_call rfl rfl rfl rfl rfl en12 (of_r hfa7 (by simp)) ?_
  rintro r_ w7 (⟨h7, _⟩ | ⟨_, E7, bt7, rfl, hR7, M7⟩)
  · exact absurd (by rw [hof]) h7
  rw [hof] at hR7 ⊢
  have M := M.grow M7
  rw [List.append_assoc] at M
  have hfa := filesO_get hl5 (fun x hx => M.get (by simp [hx]))
  obtain ⟨b5, o5, rfl, _⟩ := hfa.blk (j := 0) (by decide)
  obtain ⟨_, _, hr0, _⟩ := hfa.row (j := 0) rfl
  obtain ⟨p51, c51, hr1, hb1⟩ := hfa.row (j := 1) rfl
  refine ⟨trivial, ?_⟩
  refine x_move rfl rfl rfl rfl ?_
  refine x_ext rfl rfl rfl rfl rfl ?_
  refine x_ext rfl rfl rfl rfl rfl ?_
  refine x_assign rfl rfl rfl rfl ?_
  refine x_assign rfl rfl rfl rfl ?_
  refine Ex.done (hK _ _ ?_)
  refine At.then_n ?_
  refine W.seq ?_
  refine W.sub [(1, _), (2, _), (4, _), (5, _), (6, _)] ⟨rfl, rfl, rfl, rfl, rfl, trivial⟩ ?_
  refine W.reg [(0, false), (1, false), (2, false), (3, false), (4, false), (5, false), (6, false), (7, false), (8, false), (9, false), (10, false), (11, false), (12, false), (13, false), (14, false), (15, false), (16, false), (17, false), (18, false), (19, false), (20, false), (21, false), (22, false), (23, false), (24, false), (25, false), (26, false), (27, false), (28, false), (29, false), (30, false), (31, false), (32, false), (33, false), (34, false), (35, false), (36, false), (37, true), (38, false), (39, false), (40, false), (41, false), (42, true), (43, false), (44, false), (45, false), (46, false), (47, true), (48, false), (49, false), (50, false), (51, false), (52, true), (53, false), (54, false), (55, false), (56, false), (57, false), (58, false), (59, false), (60, false), (61, false), (62, false), (63, false), (64, false), (65, true), (66, false), (67, false), (68, false), (69, false), (70, false), (71, false)] (by kernel_rfl) ?_
  intro K hK
  refine x_move rfl rfl rfl rfl ?_
  refine x_len rfl rfl rfl rfl Try.underlying22 rfl ?_
  refine x_eqi true rfl rfl rfl rfl rfl rfl ?_
  refine x_move rfl rfl rfl rfl ?_
  refine x_move rfl rfl rfl rfl ?_
  refine x_ia 0 rfl rfl rfl Try.underlying22 sz25 rfl rfl rfl (by decide) ?_
  refine x_fa rfl rfl rfl fo25_0 rfl ?_
  refine x_ld rfl rfl rfl Try.underlying9 rfl rfl (RowAt.cell hr0 (j := 0) rfl) ?_
  refine x_eqS true rfl rfl rfl rfl rfl (by decide) ?_
  refine x_pickT rfl rfl rfl rfl rfl ?_
  refine x_move rfl rfl rfl rfl ?_
  refine x_move rfl rfl rfl rfl ?_
  refine x_ia 0 rfl rfl rfl Try.underlying22 sz25 rfl rfl rfl (by decide) ?_
  refine x_fa rfl rfl rfl fo25_1 rfl ?_
  refine x_ld rfl rfl rfl Try.underlying4 rfl rfl (RowAt.cell hr0 (j := 1) rfl) ?_
  refine x_pickT rfl rfl rfl rfl rfl ?_
  refine x_move rfl rfl rfl rfl ?_
  refine Ex.rw 56 (.bool true) rfl rfl ?_
  refine x_move rfl rfl rfl rfl ?_
  refine x_ia 1 rfl rfl rfl Try.underlying22 sz25 rfl rfl rfl (by decide) ?_
  refine x_fa rfl rfl rfl fo25_0 rfl ?_
  refine x_ld rfl rfl rfl Try.underlying9 rfl rfl (RowAt.cell hr1 (j := 0) rfl) ?_
  refine x_eqS true rfl rfl rfl rfl rfl (by decide) ?_
  refine x_pickT rfl rfl rfl rfl rfl ?_
  refine x_move rfl rfl rfl rfl ?_
  refine x_move rfl rfl rfl rfl ?_
  refine x_ia 1 rfl rfl rfl Try.underlying22 sz25 rfl rfl rfl (by decide) ?_
  refine x_fa rfl rfl rfl fo25_2 rfl ?_
  refine x_ld rfl rfl rfl Try.underlying23 rfl rfl (RowAt.cell hr1 (j := 2) rfl) ?_
  refine x_cvbs _ rfl rfl rfl Try.underlying23 Try.underlying5 Try.underlying9 rfl (strOf_bytes hb1) ?_
  refine x_eqS true rfl rfl rfl rfl rfl (by decide) ?_
  refine x_pickT rfl rfl rfl rfl rfl ?_
  refine x_move rfl rfl rfl rfl ?_
  refine x_move rfl rfl rfl rfl ?_
  refine x_eqi true rfl rfl rfl rfl rfl rfl ?_
  refine x_pickT rfl rfl rfl rfl rfl ?_
  refine x_move rfl rfl rfl rfl ?_
  refine x_move rfl rfl rfl rfl ?_
  refine x_call rfl rfl rfl rfl rfl en20 (put_r (p := [100, 47, 98, 47, 99]) (b := []) M h (fun _ _ _ _ => .inr (.inl ⟨rfl, rfl, rfl⟩))) ?_
  rintro r_ w8 ⟨E8, rfl, h, M⟩
  rw [show putL [([100], true, []), ([100, 47, 98], false, [120])] [100, 47, 98, 47, 99] [] = ([([100], true, []), ([100, 47, 98], false, [120])], 17) from by decide +kernel] at h ⊢
  refine ⟨trivial, ?_⟩
  refine x_eqi true rfl rfl rfl rfl rfl rfl ?_
  refine x_pickT rfl rfl rfl rfl rfl ?_
  refine x_move rfl rfl rfl rfl ?_
  refine x_move rfl rfl rfl rfl ?_
  refine x_call rfl rfl rfl rfl rfl en21 (remove_r (p := [100]) M h) ?_
  rintro r_ w9 ⟨E9, rfl, h, M⟩
  rw [show removeL [([100], true, []), ([100, 47, 98], false, [120])] [100] = ([([100], true, []), ([100, 47, 98], false, [120])], 18) from by decide +kernel] at h ⊢
  refine ⟨trivial, ?_⟩
  refine x_eqi true rfl rfl rfl rfl rfl rfl ?_
  refine x_pickT rfl rfl rfl rfl rfl ?_
  refine x_move rfl rfl rfl rfl ?_
  refine x_move rfl rfl rfl rfl ?_
  refine x_call rfl rfl rfl rfl rfl en22 (rename_r (x := [100]) (y := [100, 47, 101]) M h) ?_
  rintro r_ w10 ⟨E10, rfl, h, M⟩
  rw [show renameL [([100], true, []), ([100, 47, 98], false, [120])] [100] [100, 47, 101] = ([([100], true, []), ([100, 47, 98], false, [120])], 18) from by decide +kernel] at h ⊢
  refine ⟨trivial, ?_⟩
  refine x_eqi true rfl rfl rfl rfl rfl rfl ?_
  refine x_pickT rfl rfl rfl rfl rfl ?_
  refine x_move rfl rfl rfl rfl ?_
  refine x_move rfl rfl rfl rfl ?_
  refine x_call rfl rfl rfl rfl rfl en22 (rename_r (x := [100]) (y := [100]) M h) ?_
  rintro r_ w11 ⟨E11, rfl, h, M⟩
  rw [show renameL [([100], true, []), ([100, 47, 98], false, [120])] [100] [100] = ([([100], true, []), ([100, 47, 98], false, [120])], 0) from by decide +kernel] at h ⊢
  have M := St.rot (A := tb bt E11) (B := tb bt7 E7) M
  refine ⟨trivial, ?_⟩
  refine x_eqi true rfl rfl rfl rfl rfl rfl ?_
  refine x_pickT rfl rfl rfl rfl rfl ?_
  refine x_move rfl rfl rfl rfl ?_
  refine x_move rfl rfl rfl rfl ?_
  refine x_eqi true rfl rfl rfl rfl rfl rfl ?_
  refine x_pickT rfl rfl rfl rfl rfl ?_
  refine x_move rfl rfl rfl rfl ?_
  refine x_move rfl rfl rfl rfl ?_
  refine x_nepn true rfl rfl rfl Try.underlying27 rfl rfl rfl ?_
  refine x_pickT rfl rfl rfl rfl rfl ?_
  refine x_move rfl rfl rfl rfl ?_
  refine x_move rfl rfl rfl rfl ?_
  refine x_call rfl rfl rfl rfl rfl en15 (files_r M hR7) ?_
  rintro r_ w12 ⟨L12, hl12, M⟩
  obtain ⟨p12, c12, rfl⟩ := (filesO_get hl12 (fun x hx => M.get (by simp [hx]))).shape
  refine ⟨trivial, ?_⟩
  refine x_len rfl rfl rfl rfl Try.underlying22 rfl ?_
  refine x_eqi true rfl rfl rfl rfl rfl rfl ?_
  refine x_pickT rfl rfl rfl rfl rfl ?_
  refine x_move rfl rfl rfl rfl ?_
  refine x_pickT rfl rfl rfl rfl rfl ?_
  refine x_assign rfl rfl rfl rfl ?_
  refine Ex.done (hK _ _ ?_)
  refine At.then_n ?_
  refine W.ret ?_
  refine At.ret1 (.tmp 0) rfl ⟨rfl, trivial⟩ ?_
  exact ⟨rfl, M.frm⟩
end Go.Proofs.Ytccfmfehfhfhhaa

namespace Go.Fw
open Go Go.ChangeShapes Go.WideShapes Go.ChangeAt Go.RowKit
set_option linter.unusedVariables false
set_option linter.unusedSimpArgs false
section
variable {H : Type} {enc : TypeId × Value → H} {P : Program} {W : World} {sp : Nat → Bool}

theorem rd_bytes {t e : TypeId} (ht : P.underlying t = some (.slice e)) (he : P.underlying e = some (.int .u8)) (hc : P.cellsOf e = 1) :
    Rd enc P W sp t (fun a : Value × List UInt8 => [a.1]) (fun a d => BytesAt W a.1 a.2 ∧ a.2.length ≤ maxLen ∧ ((d = .nil ∧ a.2 = []) ∨ ∃ ds rest, d = .slice ds rest ∧ ds.length = a.2.length)) := fun fuel cs x h => by
  obtain ⟨⟨v, A⟩, rfl, h1, h2, h3, h4⟩ := rd_slice ht hc (by decide) (rd_int he) fuel cs x h
  refine ⟨(v, A.map fun z => UInt8.ofNat z.toNat), rfl, ?_, by simpa using h2, by
    rcases h4 with ⟨h4, h5⟩ | ⟨ds, rest, h4, h5, _⟩
    · exact .inl ⟨h4, by simp only at h5 ⊢; rw [h5]; rfl⟩
    · exact .inr ⟨ds, rest, h4, by simpa using h5⟩⟩
  have hv : ∀ l : List Int, (∀ z ∈ l, (Lit.int .u8 z).wf = true) → l.flatMap (fun z : Int => [Value.int .u8 z]) = byteCs (l.map fun z => UInt8.ofNat z.toNat) := by
    intro l hl
    induction l with
    | nil => rfl
    | cons z l ih =>
      have hb := bounds_u8 (hl z (by simp))
      rw [List.flatMap_cons, ih fun y hy => hl y (by simp [hy])]
      simp only [byteCs, List.map_cons, byteV, UInt8.toNat_ofNat', List.singleton_append, List.cons.injEq, and_true]
      congr 1
      have : z.toNat % 2 ^ 8 = z.toNat := Nat.mod_eq_of_lt (by omega)
      rw [this]; omega
  have := hv A (fun z hz => by obtain ⟨_, d', hd, _⟩ := h3 z hz; exact hd)
  simp only at h1 this ⊢
  rw [this] at h1
  unfold BytesAt
  rw [List.length_map]
  exact h1
theorem rd_struct2 {t : TypeId} {f0 f1 : Field} {α0 α1 : Type} {c0 : α0 → Value} {c1 : α1 → Value} {R0 : α0 → DataW H → Prop} {R1 : α1 → DataW H → Prop} (ht : P.underlying t = some (.struct #[f0, f1])) (hc : P.cellsOf t = 2)
    (h0 : f0.offset = 0 ∧ P.cellsOf f0.type = 1) (h1 : f1.offset = 1 ∧ P.cellsOf f1.type = 1) (r0 : Rd enc P W sp f0.type (fun a => [c0 a]) R0) (r1 : Rd enc P W sp f1.type (fun a => [c1 a]) R1) :
    Rd enc P W sp t (fun a : α0 × α1 => [c0 (a.1), c1 (a.2)]) (fun a d => ∃ d0 d1, d = .agg [d0, d1] ∧ R0 (a.1) d0 ∧ R1 (a.2) d1) := fun fuel cs x h => by
  obtain ⟨xs, n, _, rfl, hl, hlen, hf⟩ := DataW.trod_struct ht h
  rw [hc] at hl
  match xs, hlen, cs, hl with
  | [y0, y1], _, [u0, u1], _ =>
    have g0 := hf 0 f0 rfl
    rw [h0.1, h0.2] at g0
    obtain ⟨a0, e0, q0⟩ := r0 n [u0] y0 g0
    have g1 := hf 1 f1 rfl
    rw [h1.1, h1.2] at g1
    obtain ⟨a1, e1, q1⟩ := r1 n [u1] y1 g1
    simp only [List.cons.injEq, and_true] at e0 e1
    subst e0 e1
    exact ⟨(a0, a1), rfl, y0.1, y1.1, rfl, q0, q1⟩
theorem rd_struct3 {t : TypeId} {f0 f1 f2 : Field} {α0 α1 α2 : Type} {c0 : α0 → Value} {c1 : α1 → Value} {c2 : α2 → Value} {R0 : α0 → DataW H → Prop} {R1 : α1 → DataW H → Prop} {R2 : α2 → DataW H → Prop} (ht : P.underlying t = some (.struct #[f0, f1, f2])) (hc : P.cellsOf t = 3)
    (h0 : f0.offset = 0 ∧ P.cellsOf f0.type = 1) (h1 : f1.offset = 1 ∧ P.cellsOf f1.type = 1) (h2 : f2.offset = 2 ∧ P.cellsOf f2.type = 1) (r0 : Rd enc P W sp f0.type (fun a => [c0 a]) R0) (r1 : Rd enc P W sp f1.type (fun a => [c1 a]) R1) (r2 : Rd enc P W sp f2.type (fun a => [c2 a]) R2) :
    Rd enc P W sp t (fun a : α0 × α1 × α2 => [c0 (a.1), c1 (a.2.1), c2 (a.2.2)]) (fun a d => ∃ d0 d1 d2, d = .agg [d0, d1, d2] ∧ R0 (a.1) d0 ∧ R1 (a.2.1) d1 ∧ R2 (a.2.2) d2) := fun fuel cs x h => by
  obtain ⟨xs, n, _, rfl, hl, hlen, hf⟩ := DataW.trod_struct ht h
  rw [hc] at hl
  match xs, hlen, cs, hl with
  | [y0, y1, y2], _, [u0, u1, u2], _ =>
    have g0 := hf 0 f0 rfl
    rw [h0.1, h0.2] at g0
    obtain ⟨a0, e0, q0⟩ := r0 n [u0] y0 g0
    have g1 := hf 1 f1 rfl
    rw [h1.1, h1.2] at g1
    obtain ⟨a1, e1, q1⟩ := r1 n [u1] y1 g1
    have g2 := hf 2 f2 rfl
    rw [h2.1, h2.2] at g2
    obtain ⟨a2, e2, q2⟩ := r2 n [u2] y2 g2
    simp only [List.cons.injEq, and_true] at e0 e1 e2
    subst e0 e1 e2
    exact ⟨(a0, a1, a2), rfl, y0.1, y1.1, y2.1, rfl, q0, q1, q2⟩
theorem rd_struct4 {t : TypeId} {f0 f1 f2 f3 : Field} {α0 α1 α2 α3 : Type} {c0 : α0 → Value} {c1 : α1 → Value} {c2 : α2 → Value} {c3 : α3 → Value} {R0 : α0 → DataW H → Prop} {R1 : α1 → DataW H → Prop} {R2 : α2 → DataW H → Prop} {R3 : α3 → DataW H → Prop} (ht : P.underlying t = some (.struct #[f0, f1, f2, f3])) (hc : P.cellsOf t = 4)
    (h0 : f0.offset = 0 ∧ P.cellsOf f0.type = 1) (h1 : f1.offset = 1 ∧ P.cellsOf f1.type = 1) (h2 : f2.offset = 2 ∧ P.cellsOf f2.type = 1) (h3 : f3.offset = 3 ∧ P.cellsOf f3.type = 1) (r0 : Rd enc P W sp f0.type (fun a => [c0 a]) R0) (r1 : Rd enc P W sp f1.type (fun a => [c1 a]) R1) (r2 : Rd enc P W sp f2.type (fun a => [c2 a]) R2) (r3 : Rd enc P W sp f3.type (fun a => [c3 a]) R3) :
    Rd enc P W sp t (fun a : α0 × α1 × α2 × α3 => [c0 (a.1), c1 (a.2.1), c2 (a.2.2.1), c3 (a.2.2.2)]) (fun a d => ∃ d0 d1 d2 d3, d = .agg [d0, d1, d2, d3] ∧ R0 (a.1) d0 ∧ R1 (a.2.1) d1 ∧ R2 (a.2.2.1) d2 ∧ R3 (a.2.2.2) d3) := fun fuel cs x h => by
  obtain ⟨xs, n, _, rfl, hl, hlen, hf⟩ := DataW.trod_struct ht h
  rw [hc] at hl
  match xs, hlen, cs, hl with
  | [y0, y1, y2, y3], _, [u0, u1, u2, u3], _ =>
    have g0 := hf 0 f0 rfl
    rw [h0.1, h0.2] at g0
    obtain ⟨a0, e0, q0⟩ := r0 n [u0] y0 g0
    have g1 := hf 1 f1 rfl
    rw [h1.1, h1.2] at g1
    obtain ⟨a1, e1, q1⟩ := r1 n [u1] y1 g1
    have g2 := hf 2 f2 rfl
    rw [h2.1, h2.2] at g2
    obtain ⟨a2, e2, q2⟩ := r2 n [u2] y2 g2
    have g3 := hf 3 f3 rfl
    rw [h3.1, h3.2] at g3
    obtain ⟨a3, e3, q3⟩ := r3 n [u3] y3 g3
    simp only [List.cons.injEq, and_true] at e0 e1 e2 e3
    subst e0 e1 e2 e3
    exact ⟨(a0, a1, a2, a3), rfl, y0.1, y1.1, y2.1, y3.1, rfl, q0, q1, q2, q3⟩
theorem rd_struct5 {t : TypeId} {f0 f1 f2 f3 f4 : Field} {α0 α1 α2 α3 α4 : Type} {c0 : α0 → Value} {c1 : α1 → Value} {c2 : α2 → Value} {c3 : α3 → Value} {c4 : α4 → Value} {R0 : α0 → DataW H → Prop} {R1 : α1 → DataW H → Prop} {R2 : α2 → DataW H → Prop} {R3 : α3 → DataW H → Prop} {R4 : α4 → DataW H → Prop} (ht : P.underlying t = some (.struct #[f0, f1, f2, f3, f4])) (hc : P.cellsOf t = 5)
    (h0 : f0.offset = 0 ∧ P.cellsOf f0.type = 1) (h1 : f1.offset = 1 ∧ P.cellsOf f1.type = 1) (h2 : f2.offset = 2 ∧ P.cellsOf f2.type = 1) (h3 : f3.offset = 3 ∧ P.cellsOf f3.type = 1) (h4 : f4.offset = 4 ∧ P.cellsOf f4.type = 1) (r0 : Rd enc P W sp f0.type (fun a => [c0 a]) R0) (r1 : Rd enc P W sp f1.type (fun a => [c1 a]) R1) (r2 : Rd enc P W sp f2.type (fun a => [c2 a]) R2) (r3 : Rd enc P W sp f3.type (fun a => [c3 a]) R3) (r4 : Rd enc P W sp f4.type (fun a => [c4 a]) R4) :
    Rd enc P W sp t (fun a : α0 × α1 × α2 × α3 × α4 => [c0 (a.1), c1 (a.2.1), c2 (a.2.2.1), c3 (a.2.2.2.1), c4 (a.2.2.2.2)]) (fun a d => ∃ d0 d1 d2 d3 d4, d = .agg [d0, d1, d2, d3, d4] ∧ R0 (a.1) d0 ∧ R1 (a.2.1) d1 ∧ R2 (a.2.2.1) d2 ∧ R3 (a.2.2.2.1) d3 ∧ R4 (a.2.2.2.2) d4) := fun fuel cs x h => by
  obtain ⟨xs, n, _, rfl, hl, hlen, hf⟩ := DataW.trod_struct ht h
  rw [hc] at hl
  match xs, hlen, cs, hl with
  | [y0, y1, y2, y3, y4], _, [u0, u1, u2, u3, u4], _ =>
    have g0 := hf 0 f0 rfl
    rw [h0.1, h0.2] at g0
    obtain ⟨a0, e0, q0⟩ := r0 n [u0] y0 g0
    have g1 := hf 1 f1 rfl
    rw [h1.1, h1.2] at g1
    obtain ⟨a1, e1, q1⟩ := r1 n [u1] y1 g1
    have g2 := hf 2 f2 rfl
    rw [h2.1, h2.2] at g2
    obtain ⟨a2, e2, q2⟩ := r2 n [u2] y2 g2
    have g3 := hf 3 f3 rfl
    rw [h3.1, h3.2] at g3
    obtain ⟨a3, e3, q3⟩ := r3 n [u3] y3 g3
    have g4 := hf 4 f4 rfl
    rw [h4.1, h4.2] at g4
    obtain ⟨a4, e4, q4⟩ := r4 n [u4] y4 g4
    simp only [List.cons.injEq, and_true] at e0 e1 e2 e3 e4
    subst e0 e1 e2 e3 e4
    exact ⟨(a0, a1, a2, a3, a4), rfl, y0.1, y1.1, y2.1, y3.1, y4.1, rfl, q0, q1, q2, q3, q4⟩
theorem rd_struct6 {t : TypeId} {f0 f1 f2 f3 f4 f5 : Field} {α0 α1 α2 α3 α4 α5 : Type} {c0 : α0 → Value} {c1 : α1 → Value} {c2 : α2 → Value} {c3 : α3 → Value} {c4 : α4 → Value} {c5 : α5 → Value} {R0 : α0 → DataW H → Prop} {R1 : α1 → DataW H → Prop} {R2 : α2 → DataW H → Prop} {R3 : α3 → DataW H → Prop} {R4 : α4 → DataW H → Prop} {R5 : α5 → DataW H → Prop} (ht : P.underlying t = some (.struct #[f0, f1, f2, f3, f4, f5])) (hc : P.cellsOf t = 6)
    (h0 : f0.offset = 0 ∧ P.cellsOf f0.type = 1) (h1 : f1.offset = 1 ∧ P.cellsOf f1.type = 1) (h2 : f2.offset = 2 ∧ P.cellsOf f2.type = 1) (h3 : f3.offset = 3 ∧ P.cellsOf f3.type = 1) (h4 : f4.offset = 4 ∧ P.cellsOf f4.type = 1) (h5 : f5.offset = 5 ∧ P.cellsOf f5.type = 1) (r0 : Rd enc P W sp f0.type (fun a => [c0 a]) R0) (r1 : Rd enc P W sp f1.type (fun a => [c1 a]) R1) (r2 : Rd enc P W sp f2.type (fun a => [c2 a]) R2) (r3 : Rd enc P W sp f3.type (fun a => [c3 a]) R3) (r4 : Rd enc P W sp f4.type (fun a => [c4 a]) R4) (r5 : Rd enc P W sp f5.type (fun a => [c5 a]) R5) :
    Rd enc P W sp t (fun a : α0 × α1 × α2 × α3 × α4 × α5 => [c0 (a.1), c1 (a.2.1), c2 (a.2.2.1), c3 (a.2.2.2.1), c4 (a.2.2.2.2.1), c5 (a.2.2.2.2.2)]) (fun a d => ∃ d0 d1 d2 d3 d4 d5, d = .agg [d0, d1, d2, d3, d4, d5] ∧ R0 (a.1) d0 ∧ R1 (a.2.1) d1 ∧ R2 (a.2.2.1) d2 ∧ R3 (a.2.2.2.1) d3 ∧ R4 (a.2.2.2.2.1) d4 ∧ R5 (a.2.2.2.2.2) d5) := fun fuel cs x h => by
  obtain ⟨xs, n, _, rfl, hl, hlen, hf⟩ := DataW.trod_struct ht h
  rw [hc] at hl
  match xs, hlen, cs, hl with
  | [y0, y1, y2, y3, y4, y5], _, [u0, u1, u2, u3, u4, u5], _ =>
    have g0 := hf 0 f0 rfl
    rw [h0.1, h0.2] at g0
    obtain ⟨a0, e0, q0⟩ := r0 n [u0] y0 g0
    have g1 := hf 1 f1 rfl
    rw [h1.1, h1.2] at g1
    obtain ⟨a1, e1, q1⟩ := r1 n [u1] y1 g1
    have g2 := hf 2 f2 rfl
    rw [h2.1, h2.2] at g2
    obtain ⟨a2, e2, q2⟩ := r2 n [u2] y2 g2
    have g3 := hf 3 f3 rfl
    rw [h3.1, h3.2] at g3
    obtain ⟨a3, e3, q3⟩ := r3 n [u3] y3 g3
    have g4 := hf 4 f4 rfl
    rw [h4.1, h4.2] at g4
    obtain ⟨a4, e4, q4⟩ := r4 n [u4] y4 g4
    have g5 := hf 5 f5 rfl
    rw [h5.1, h5.2] at g5
    obtain ⟨a5, e5, q5⟩ := r5 n [u5] y5 g5
    simp only [List.cons.injEq, and_true] at e0 e1 e2 e3 e4 e5
    subst e0 e1 e2 e3 e4 e5
    exact ⟨(a0, a1, a2, a3, a4, a5), rfl, y0.1, y1.1, y2.1, y3.1, y4.1, y5.1, rfl, q0, q1, q2, q3, q4, q5⟩
theorem rd_struct7 {t : TypeId} {f0 f1 f2 f3 f4 f5 f6 : Field} {α0 α1 α2 α3 α4 α5 α6 : Type} {c0 : α0 → Value} {c1 : α1 → Value} {c2 : α2 → Value} {c3 : α3 → Value} {c4 : α4 → Value} {c5 : α5 → Value} {c6 : α6 → Value} {R0 : α0 → DataW H → Prop} {R1 : α1 → DataW H → Prop} {R2 : α2 → DataW H → Prop} {R3 : α3 → DataW H → Prop} {R4 : α4 → DataW H → Prop} {R5 : α5 → DataW H → Prop} {R6 : α6 → DataW H → Prop} (ht : P.underlying t = some (.struct #[f0, f1, f2, f3, f4, f5, f6])) (hc : P.cellsOf t = 7)
    (h0 : f0.offset = 0 ∧ P.cellsOf f0.type = 1) (h1 : f1.offset = 1 ∧ P.cellsOf f1.type = 1) (h2 : f2.offset = 2 ∧ P.cellsOf f2.type = 1) (h3 : f3.offset = 3 ∧ P.cellsOf f3.type = 1) (h4 : f4.offset = 4 ∧ P.cellsOf f4.type = 1) (h5 : f5.offset = 5 ∧ P.cellsOf f5.type = 1) (h6 : f6.offset = 6 ∧ P.cellsOf f6.type = 1) (r0 : Rd enc P W sp f0.type (fun a => [c0 a]) R0) (r1 : Rd enc P W sp f1.type (fun a => [c1 a]) R1) (r2 : Rd enc P W sp f2.type (fun a => [c2 a]) R2) (r3 : Rd enc P W sp f3.type (fun a => [c3 a]) R3) (r4 : Rd enc P W sp f4.type (fun a => [c4 a]) R4) (r5 : Rd enc P W sp f5.type (fun a => [c5 a]) R5) (r6 : Rd enc P W sp f6.type (fun a => [c6 a]) R6) :
    Rd enc P W sp t (fun a : α0 × α1 × α2 × α3 × α4 × α5 × α6 => [c0 (a.1), c1 (a.2.1), c2 (a.2.2.1), c3 (a.2.2.2.1), c4 (a.2.2.2.2.1), c5 (a.2.2.2.2.2.1), c6 (a.2.2.2.2.2.2)]) (fun a d => ∃ d0 d1 d2 d3 d4 d5 d6, d = .agg [d0, d1, d2, d3, d4, d5, d6] ∧ R0 (a.1) d0 ∧ R1 (a.2.1) d1 ∧ R2 (a.2.2.1) d2 ∧ R3 (a.2.2.2.1) d3 ∧ R4 (a.2.2.2.2.1) d4 ∧ R5 (a.2.2.2.2.2.1) d5 ∧ R6 (a.2.2.2.2.2.2) d6) := fun fuel cs x h => by
  obtain ⟨xs, n, _, rfl, hl, hlen, hf⟩ := DataW.trod_struct ht h
  rw [hc] at hl
  match xs, hlen, cs, hl with
  | [y0, y1, y2, y3, y4, y5, y6], _, [u0, u1, u2, u3, u4, u5, u6], _ =>
    have g0 := hf 0 f0 rfl
    rw [h0.1, h0.2] at g0
    obtain ⟨a0, e0, q0⟩ := r0 n [u0] y0 g0
    have g1 := hf 1 f1 rfl
    rw [h1.1, h1.2] at g1
    obtain ⟨a1, e1, q1⟩ := r1 n [u1] y1 g1
    have g2 := hf 2 f2 rfl
    rw [h2.1, h2.2] at g2
    obtain ⟨a2, e2, q2⟩ := r2 n [u2] y2 g2
    have g3 := hf 3 f3 rfl
    rw [h3.1, h3.2] at g3
    obtain ⟨a3, e3, q3⟩ := r3 n [u3] y3 g3
    have g4 := hf 4 f4 rfl
    rw [h4.1, h4.2] at g4
    obtain ⟨a4, e4, q4⟩ := r4 n [u4] y4 g4
    have g5 := hf 5 f5 rfl
    rw [h5.1, h5.2] at g5
    obtain ⟨a5, e5, q5⟩ := r5 n [u5] y5 g5
    have g6 := hf 6 f6 rfl
    rw [h6.1, h6.2] at g6
    obtain ⟨a6, e6, q6⟩ := r6 n [u6] y6 g6
    simp only [List.cons.injEq, and_true] at e0 e1 e2 e3 e4 e5 e6
    subst e0 e1 e2 e3 e4 e5 e6
    exact ⟨(a0, a1, a2, a3, a4, a5, a6), rfl, y0.1, y1.1, y2.1, y3.1, y4.1, y5.1, y6.1, rfl, q0, q1, q2, q3, q4, q5, q6⟩
theorem rd_struct8 {t : TypeId} {f0 f1 f2 f3 f4 f5 f6 f7 : Field} {α0 α1 α2 α3 α4 α5 α6 α7 : Type} {c0 : α0 → Value} {c1 : α1 → Value} {c2 : α2 → Value} {c3 : α3 → Value} {c4 : α4 → Value} {c5 : α5 → Value} {c6 : α6 → Value} {c7 : α7 → Value} {R0 : α0 → DataW H → Prop} {R1 : α1 → DataW H → Prop} {R2 : α2 → DataW H → Prop} {R3 : α3 → DataW H → Prop} {R4 : α4 → DataW H → Prop} {R5 : α5 → DataW H → Prop} {R6 : α6 → DataW H → Prop} {R7 : α7 → DataW H → Prop} (ht : P.underlying t = some (.struct #[f0, f1, f2, f3, f4, f5, f6, f7])) (hc : P.cellsOf t = 8)
    (h0 : f0.offset = 0 ∧ P.cellsOf f0.type = 1) (h1 : f1.offset = 1 ∧ P.cellsOf f1.type = 1) (h2 : f2.offset = 2 ∧ P.cellsOf f2.type = 1) (h3 : f3.offset = 3 ∧ P.cellsOf f3.type = 1) (h4 : f4.offset = 4 ∧ P.cellsOf f4.type = 1) (h5 : f5.offset = 5 ∧ P.cellsOf f5.type = 1) (h6 : f6.offset = 6 ∧ P.cellsOf f6.type = 1) (h7 : f7.offset = 7 ∧ P.cellsOf f7.type = 1) (r0 : Rd enc P W sp f0.type (fun a => [c0 a]) R0) (r1 : Rd enc P W sp f1.type (fun a => [c1 a]) R1) (r2 : Rd enc P W sp f2.type (fun a => [c2 a]) R2) (r3 : Rd enc P W sp f3.type (fun a => [c3 a]) R3) (r4 : Rd enc P W sp f4.type (fun a => [c4 a]) R4) (r5 : Rd enc P W sp f5.type (fun a => [c5 a]) R5) (r6 : Rd enc P W sp f6.type (fun a => [c6 a]) R6) (r7 : Rd enc P W sp f7.type (fun a => [c7 a]) R7) :
    Rd enc P W sp t (fun a : α0 × α1 × α2 × α3 × α4 × α5 × α6 × α7 => [c0 (a.1), c1 (a.2.1), c2 (a.2.2.1), c3 (a.2.2.2.1), c4 (a.2.2.2.2.1), c5 (a.2.2.2.2.2.1), c6 (a.2.2.2.2.2.2.1), c7 (a.2.2.2.2.2.2.2)]) (fun a d => ∃ d0 d1 d2 d3 d4 d5 d6 d7, d = .agg [d0, d1, d2, d3, d4, d5, d6, d7] ∧ R0 (a.1) d0 ∧ R1 (a.2.1) d1 ∧ R2 (a.2.2.1) d2 ∧ R3 (a.2.2.2.1) d3 ∧ R4 (a.2.2.2.2.1) d4 ∧ R5 (a.2.2.2.2.2.1) d5 ∧ R6 (a.2.2.2.2.2.2.1) d6 ∧ R7 (a.2.2.2.2.2.2.2) d7) := fun fuel cs x h => by
  obtain ⟨xs, n, _, rfl, hl, hlen, hf⟩ := DataW.trod_struct ht h
  rw [hc] at hl
  match xs, hlen, cs, hl with
  | [y0, y1, y2, y3, y4, y5, y6, y7], _, [u0, u1, u2, u3, u4, u5, u6, u7], _ =>
    have g0 := hf 0 f0 rfl
    rw [h0.1, h0.2] at g0
    obtain ⟨a0, e0, q0⟩ := r0 n [u0] y0 g0
    have g1 := hf 1 f1 rfl
    rw [h1.1, h1.2] at g1
    obtain ⟨a1, e1, q1⟩ := r1 n [u1] y1 g1
    have g2 := hf 2 f2 rfl
    rw [h2.1, h2.2] at g2
    obtain ⟨a2, e2, q2⟩ := r2 n [u2] y2 g2
    have g3 := hf 3 f3 rfl
    rw [h3.1, h3.2] at g3
    obtain ⟨a3, e3, q3⟩ := r3 n [u3] y3 g3
    have g4 := hf 4 f4 rfl
    rw [h4.1, h4.2] at g4
    obtain ⟨a4, e4, q4⟩ := r4 n [u4] y4 g4
    have g5 := hf 5 f5 rfl
    rw [h5.1, h5.2] at g5
    obtain ⟨a5, e5, q5⟩ := r5 n [u5] y5 g5
    have g6 := hf 6 f6 rfl
    rw [h6.1, h6.2] at g6
    obtain ⟨a6, e6, q6⟩ := r6 n [u6] y6 g6
    have g7 := hf 7 f7 rfl
    rw [h7.1, h7.2] at g7
    obtain ⟨a7, e7, q7⟩ := r7 n [u7] y7 g7
    simp only [List.cons.injEq, and_true] at e0 e1 e2 e3 e4 e5 e6 e7
    subst e0 e1 e2 e3 e4 e5 e6 e7
    exact ⟨(a0, a1, a2, a3, a4, a5, a6, a7), rfl, y0.1, y1.1, y2.1, y3.1, y4.1, y5.1, y6.1, y7.1, rfl, q0, q1, q2, q3, q4, q5, q6, q7⟩
end
end Go.Fw

namespace Go.Proofs.Ytccfmfehfhfhhaa
open Go Go.Fw Go.RowKit
set_option linter.unusedVariables false
set_option linter.unusedSimpArgs false

/-- A call: its kind, two paths, bytes. -/
structure Ac where
  k : Int
  p : List UInt8
  q : List UInt8
  b : List UInt8
def aC (a : Ac × Value) : List Value := [.int .i64 a.1.k, strV a.1.p, strV a.1.q, a.2]
/-- A slice that holds these calls. -/
def ActsAt (w : World) (v : Value) (l : List Ac) : Prop := ∃ ac : List (Ac × Value), ac.map (·.1) = l ∧ Sg w v 4 ac.length (ac.flatMap aC) ∧ ∀ f ∈ ac, BytesAt w f.2 f.1.b
def smallA (a : Ac) : Bool := decide (a.b.length ≤ 131072) && (decide (a.p.length ≤ 300) && decide (a.q.length ≤ 300))
def fewL (l : List Ac) : Bool := decide (l.length ≤ 40) && l.all smallA
section
variable {w w1 : World} {p : Option Addr} {v : Value} {l : List Ac} {a : Ac} {b off len cap j : Nat}
theorem ActsAt.new (h : ActsAt w v l) (hn : New w w1) : ActsAt w1 v l := let ⟨ac, h1, h2, h3⟩ := h; ⟨ac, h1, h2.new hn, fun f hf => (h3 f hf).new hn⟩
theorem ActsAt.shape (h : ActsAt w v l) : ∃ p cap, v = .slice p l.length cap := by
  obtain ⟨ac, h1, h2, _⟩ := h
  have : ac.length = l.length := by rw [← h1]; simp
  rw [← this]; exact h2.shape
theorem ActsAt.blk (h : ActsAt w (.slice p len cap) l) (hj : j < l.length) : ∃ b off, p = some ⟨b, off, none⟩ ∧ len = l.length := by
  obtain ⟨ac, h1, h2, _⟩ := h
  have : ac.length = l.length := by rw [← h1]; simp
  rw [← this]; exact h2.blk (j := j) (by omega)
theorem ActsAt.row (h : ActsAt w (.slice (some ⟨b, off, none⟩) len cap) l) (hx : l[j]? = some a) : ∃ p c, RowAt w b (off + j * 4) [.int .i64 a.k, strV a.p, strV a.q, .slice p a.b.length c] ∧ BytesAt w (.slice p a.b.length c) a.b := by
  obtain ⟨ac, h1, h2, h3⟩ := h
  have hj : j < l.length := (List.getElem?_eq_some_iff.1 hx).1
  have hlen : ac.length = l.length := by rw [← h1]; simp
  obtain ⟨f, hf⟩ := get_lt (l := ac) (q := j) (by omega)
  have hfx : f.1 = a := by
    rw [← h1, List.getElem?_map, hf] at hx
    simpa using hx
  subst hfx
  have h4 := h3 f (List.mem_of_getElem? hf)
  obtain ⟨p, c, h5⟩ := h4.shape
  have hsl := h2.sl (by omega)
  obtain ⟨b', off', h6, h7⟩ := h2.blk (j := j) (by omega)
  cases h6; subst h7
  refine ⟨p, c, ?_, h5 ▸ h4⟩
  rw [← h5]
  have hfd : ((ac.flatMap aC).drop (j * 4)).take (aC f).length = aC f := flat_drop (m := 4) (by decide) (fun _ _ => rfl) hf
  exact hsl.row (j := j) (l := aC f) rfl hfd (by simp [aC])
theorem few_no (hx : l[j]? = some a) (h : 40 ≤ j ∨ smallA a = false) : fewL l = false := by
  have hj := (List.getElem?_eq_some_iff.1 hx).1
  unfold fewL
  rcases h with h | h
  · rw [decide_eq_false (by omega)]; rfl
  · have : l.all smallA = false := by
      rw [List.all_eq_false]
      exact ⟨a, List.mem_of_getElem? hx, by simp [h]⟩
    rw [this, Bool.and_false]
theorem few_yes (h : ∀ x ∈ l, smallA x = true) (hl : l.length ≤ 40) : fewL l = true := by
  unfold fewL
  rw [decide_eq_true hl, List.all_eq_true.2 h]; rfl
theorem few_out (h : fewL l = true) : l.length ≤ 40 ∧ ∀ x ∈ l, x.b.length ≤ 131072 ∧ x.p.length ≤ 300 ∧ x.q.length ≤ 300 := by
  unfold fewL at h
  simp only [Bool.and_eq_true, decide_eq_true_eq, List.all_eq_true] at h
  refine ⟨h.1, fun x hx => ?_⟩
  have := h.2 x hx
  unfold smallA at this
  simpa using this
theorem few_small (h : fewL l = true) (hx : l[j]? = some a) : smallA a = true := by
  unfold fewL at h
  simp only [Bool.and_eq_true, decide_eq_true_eq, List.all_eq_true] at h
  exact h.2 a (List.mem_of_getElem? hx)
theorem mem_take_snoc {α : Type} {l : List α} {x : α} {P : α → Prop} (hx : l[j]? = some x) (h : ∀ y ∈ l.take j, P y) (hp : P x) : ∀ y ∈ l.take (j + 1), P y := fun y hy => by
  rw [take_snoc hx] at hy
  rcases List.mem_append.1 hy with hy | hy
  · exact h y hy
  · rw [List.mem_singleton.1 hy]; exact hp

end
section
variable {l : List Raw} {p q b : List UInt8}
theorem mkdirL_bad (h : ¬ (mkdirL l p).2 = 0) : (mkdirL l p).1 = l := by
  unfold mkdirL at h ⊢
  split
  · rename_i h0
    rw [if_pos h0] at h
    split
    · rfl
    · rename_i h1
      rw [if_neg h1] at h
      split
      · rfl
      · rename_i h2; rw [if_neg h2] at h; exact absurd rfl h
  · rfl
theorem putL_bad (h : ¬ (putL l p b).2 = 0) : (putL l p b).1 = l := by
  unfold putL at h ⊢
  split
  · rename_i h0
    rw [if_pos h0] at h
    cases hf : l.find? (fun x => decide (x.1 = p)) with
    | some x =>
      rw [hf] at h
      simp only at h ⊢
      split
      · rfl
      · rename_i h1
        rw [if_neg h1] at h
        split
        · rfl
        · rename_i h2; rw [if_neg h2] at h; exact absurd rfl h
    | none =>
      rw [hf] at h
      simp only at h ⊢
      split
      · rfl
      · rename_i h1
        rw [if_neg h1] at h
        split
        · rfl
        · rename_i h2; rw [if_neg h2] at h; exact absurd rfl h
  · rfl
theorem removeL_bad (h : ¬ (removeL l p).2 = 0) : (removeL l p).1 = l := by
  unfold removeL at h ⊢
  split
  · rename_i h0
    rw [if_pos h0] at h
    split
    · rfl
    · rename_i h1
      rw [if_neg h1] at h
      split
      · rfl
      · rename_i h2; rw [if_neg h2] at h; exact absurd rfl h
  · rfl
theorem renameL_bad (h : ¬ (renameL l p q).2 = 0) : (renameL l p q).1 = l := by
  unfold renameL at h ⊢
  split
  · rename_i h0
    rw [if_pos h0] at h
    split
    · rfl
    · rename_i h1
      rw [if_neg h1] at h
      split
      · rename_i h2
        rw [if_pos h2] at h
        split
        · rfl
        · rename_i h3
          rw [if_neg h3] at h
          split
          · rfl
          · rename_i h4
            rw [if_neg h4] at h
            split
            · rfl
            · rename_i h5
              rw [if_neg h5] at h
              split
              · rfl
              · rename_i h6; rw [if_neg h6] at h; exact absurd rfl h
      · rfl
  · rfl
end

section
variable {E : List Ent} {k : List Raw} {x y : Raw} {i j : Nat}
theorem shape_row (h : TR E k) (hx : x ∈ k) : ∃ N n, parentP x.1 = (joinS N, n, 0) ∧ (findL k (joinS N)).1.2.1 = true ∧ (findL k (joinS N)).2 = 0 ∧ (listL k (joinS N)).2 = 0 ∧ n ∈ (listL k (joinS N)).1 := by
  obtain ⟨h1, h2, h3, h4⟩ := h.row hx
  have hN : (splitN x.1).dropLast ++ [(splitN x.1).getLast h2] = splitN x.1 := List.dropLast_concat_getLast h2
  generalize (splitN x.1).dropLast = N at hN
  generalize (splitN x.1).getLast h2 = n at hN
  have hP := POK_split h1
  rw [← hN] at hP h3
  have hsp := hP.pre.sp
  obtain ⟨e, he, _⟩ := absE_ent h3
  obtain ⟨d, hd, hdd⟩ := h.ti.par N n e he
  obtain ⟨r, hr, _⟩ := h.ti.root
  have hf : findG (absE E) (joinS N) = 0 := by
    rw [findG_ok hsp.1, hsp.2]
    exact (comeE_zero h.ti hr).2 ⟨d, by simpa using hd⟩
  have hl : listG (absE E) (joinS N) = 0 := by
    unfold listG
    rw [if_pos hf, hsp.2, absE_at hd, if_pos (by simpa using hdd)]
  refine ⟨N, n, ?_, ?_, ?_, ?_, ?_⟩
  · rw [← joinS_splitN h1, ← hN]; exact parent_row hP
  · rw [h.rel.findL h.ti.gi]
    simp only [findV, hf, if_true, hsp.2]
    rw [absE_at hd]; exact hdd
  · rw [h.rel.findL h.ti.gi]; exact hf
  · rw [h.rel.list h.ti]; exact hl
  · rw [h.rel.list h.ti, if_pos hl, hsp.2]
    exact (mem_ksE h.ti).2 ⟨e, he⟩
theorem listL_len (k : List Raw) (p : List UInt8) : (listL k p).1.length ≤ k.length := by
  unfold listL
  split
  · split
    · exact namesL_len k p
    · simp
  · simp
theorem TR.lt (h : TR E k) (hy : k[i]? = some y) (hx : k[j]? = some x) (hij : i < j) : compareP y.1 x.1 < 0 := by
  obtain ⟨a1, rfl⟩ := List.getElem?_eq_some_iff.1 hy
  obtain ⟨b1, rfl⟩ := List.getElem?_eq_some_iff.1 hx
  exact List.pairwise_iff_getElem.1 h.rel.srt i j a1 b1 hij
theorem in_take {l : NP} {a b : List UInt8} (hb : l[j]? = some b) : decide (a ∈ l.take (j + 1)) = (decide (a ∈ l.take j) || decide (b = a)) := by
  rw [take_snoc hb, Bool.eq_iff_iff]
  simp only [List.mem_append, List.mem_singleton, decide_eq_true_eq, Bool.or_eq_true]
  exact ⟨fun h => h.imp id Eq.symm, fun h => h.imp id Eq.symm⟩
end
end Go.Proofs.Ytccfmfehfhfhhaa

namespace Go.Proofs.Ytccfmfehfhfhhaa
open Go Go.Fw Go.RowKit Go.Proofs
set_option linter.unusedVariables false
set_option linter.unusedSimpArgs false

set_option maxRecDepth 100000 in
theorem few_c {w0 : World} {v : Value} {l : List Ac} (h : ActsAt w0 v l) (hl : l.length ≤ 9223372036854775807) : Ret Try.prog 16 #[v] w0 fun r w' => r = .bool (fewL l) ∧ New w0 w' := by
  have M : Sep w0 [] w0 := St.nil w0
  obtain ⟨pv, cv, rfl⟩ := h.shape
  refine Ret.of_W Try.func16 rfl Try.ntmps16 rfl ?_
  refine W.seq ?_
  refine W.sub [(0, _)] ⟨rfl, trivial⟩ ?_
  refine W.reg [(0, false)] (by kernel_rfl) ?_
  intro K hK
  refine x_assign rfl rfl rfl rfl ?_
  refine Ex.done (hK _ _ ?_)
  refine At.then_n ?_
  refine W.seq ?_
  refine W.seq ?_
  refine W.sub [(0, _)] ⟨rfl, trivial⟩ ?_
  refine W.reg [(0, false)] (by kernel_rfl) ?_
  intro K hK
  refine x_assign rfl rfl rfl rfl ?_
  refine Ex.done (hK _ _ ?_)
  refine At.then_n ?_
  refine W.block ?_
  refine W.loop (σ := Nat) (fun j => [(0, _), (3, .int .i64 ((j : Nat) : Int))]) (fun j w => j ≤ l.length ∧ j ≤ 40 ∧ (∀ x ∈ l.take j, smallA x = true) ∧ Sep w0 [] w) (fun j => l.length - j) 0 ⟨rfl, rfl, trivial⟩ ⟨Nat.zero_le _, by omega, by simp, M⟩ ?_
  rintro j w ⟨hj, hj40, hok, M⟩
  refine W.seq ?_
  refine W.seq ?_
  refine W.sub [(0, _), (3, _)] ⟨rfl, rfl, trivial⟩ ?_
  refine W.reg [(0, false), (1, false), (2, false), (3, false)] (by kernel_rfl) ?_
  intro K hK
  refine x_move rfl rfl rfl rfl ?_
  refine x_move rfl rfl rfl rfl ?_
  refine x_len rfl rfl rfl rfl Try.underlying38 rfl ?_
  refine x_lss _ rfl rfl rfl rfl rfl rfl ?_
  refine Ex.done (hK _ _ ?_)
  refine At.then_n ?_
  refine W.cond rfl (fun hco1 => ?_) (fun hco1 => ?_)
  · try simp only [decide_eq_true_eq, decide_eq_false_iff_not, Bool.not_eq_true', Bool.not_eq_false', beq_iff_eq, bne_iff_ne, ne_eq, Bool.not_eq_eq_eq_not, Bool.not_true, Bool.not_false, beq_eq_false_iff_ne, bne_eq_false_iff_eq, Bool.not_not, gt_iff_lt, ge_iff_le] at hco1
    obtain ⟨x, hx⟩ := get_lt (l := l) (q := j) (by omega)
    obtain ⟨bb, off, rfl, _⟩ := (h.new M.frm).blk (j := j) (by omega)
    obtain ⟨pd, cd, hrow, hbx⟩ := (h.new M.frm).row hx
    refine W.skip ?_
    refine At.then_n ?_
    refine W.seq ?_
    refine W.block ?_
    refine W.seq ?_
    refine W.sub [(0, _), (3, _)] ⟨rfl, rfl, trivial⟩ ?_
    refine W.reg [(0, false), (1, false), (2, false), (3, false), (4, false), (5, false), (6, false), (7, false), (8, false), (9, false), (10, false), (11, false), (12, false), (13, false), (14, false), (15, false), (16, false), (17, false), (18, false), (19, false), (20, false), (21, false), (22, false), (23, false), (24, false), (25, false), (26, false), (27, false), (28, false)] (by kernel_rfl) ?_
    intro K hK
    refine x_move rfl rfl rfl rfl ?_
    refine x_geq _ rfl rfl rfl rfl rfl rfl ?_
    refine x_move rfl rfl rfl rfl ?_
    refine Ex.split 12 rfl (fun hsp1 => ?_) (fun hsp1 => ?_)
    ·
      try simp only [decide_eq_true_eq, decide_eq_false_iff_not, Bool.not_eq_true', Bool.not_eq_false', beq_iff_eq, bne_iff_ne, ne_eq, Bool.not_eq_eq_eq_not, Bool.not_true, Bool.not_false, beq_eq_false_iff_ne, bne_eq_false_iff_eq, Bool.not_not, gt_iff_lt, ge_iff_le] at hsp1
      refine Ex.skip_ rfl rfl rfl ?_
      refine Ex.skip_ rfl rfl rfl ?_
      refine Ex.skip_ rfl rfl rfl ?_
      refine Ex.skip_ rfl rfl rfl ?_
      refine Ex.skip_ rfl rfl rfl ?_
      refine Ex.skip_ rfl rfl rfl ?_
      refine Ex.skip_ rfl rfl rfl ?_
      refine x_pickT rfl rfl rfl rfl rfl ?_
      refine x_move rfl rfl rfl rfl ?_
      refine Ex.skip_ rfl rfl rfl ?_
      refine Ex.skip_ rfl rfl rfl ?_
      refine Ex.skip_ rfl rfl rfl ?_
      refine Ex.skip_ rfl rfl rfl ?_
      refine Ex.skip_ rfl rfl rfl ?_
      refine Ex.skip_ rfl rfl rfl ?_
      refine Ex.skip_ rfl rfl rfl ?_
      refine x_pickT rfl rfl rfl rfl rfl ?_
      refine x_move rfl rfl rfl rfl ?_
      refine Ex.skip_ rfl rfl rfl ?_
      refine Ex.skip_ rfl rfl rfl ?_
      refine Ex.skip_ rfl rfl rfl ?_
      refine Ex.skip_ rfl rfl rfl ?_
      refine Ex.skip_ rfl rfl rfl ?_
      refine Ex.skip_ rfl rfl rfl ?_
      refine Ex.skip_ rfl rfl rfl ?_
      refine x_pickT rfl rfl rfl rfl rfl ?_
      refine Ex.done (hK _ _ ?_)
      refine At.then_n ?_
      refine W.condT rfl ?_
      refine W.seq ?_
      refine W.sub [] trivial ?_
      refine W.reg [(0, false)] (by kernel_rfl) ?_
      intro K hK
      refine x_assign rfl rfl rfl rfl ?_
      refine Ex.done (hK _ _ ?_)
      refine At.then_n ?_
      refine W.ret ?_
      refine At.blk_r ?_
      refine At.then_r ?_
      refine At.loop_r ?_
      refine At.blk_r ?_
      refine At.then_r ?_
      refine At.ret1 (.tmp 2) rfl ⟨rfl, trivial⟩ ?_
      rw [few_no hx (.inl (by omega))]; exact ⟨rfl, M.frm⟩
    ·
      try simp only [decide_eq_true_eq, decide_eq_false_iff_not, Bool.not_eq_true', Bool.not_eq_false', beq_iff_eq, bne_iff_ne, ne_eq, Bool.not_eq_eq_eq_not, Bool.not_true, Bool.not_false, beq_eq_false_iff_ne, bne_eq_false_iff_eq, Bool.not_not, gt_iff_lt, ge_iff_le] at hsp1
      refine x_move rfl rfl rfl rfl ?_
      refine x_move rfl rfl rfl rfl ?_
      refine x_ia j rfl rfl rfl Try.underlying38 sz43 rfl rfl rfl (by omega) ?_
      refine x_fa rfl rfl rfl fo43_3 rfl ?_
      refine x_ld rfl rfl rfl Try.underlying23 rfl rfl (RowAt.cell hrow (j := 3) rfl) ?_
      refine x_len rfl rfl rfl rfl Try.underlying23 rfl ?_
      refine x_gtr _ rfl rfl rfl rfl rfl rfl ?_
      refine x_pickF rfl rfl rfl rfl rfl ?_
      refine x_move rfl rfl rfl rfl ?_
      refine Ex.split 21 rfl (fun hsp2 => ?_) (fun hsp2 => ?_)
      ·
        try simp only [decide_eq_true_eq, decide_eq_false_iff_not, Bool.not_eq_true', Bool.not_eq_false', beq_iff_eq, bne_iff_ne, ne_eq, Bool.not_eq_eq_eq_not, Bool.not_true, Bool.not_false, beq_eq_false_iff_ne, bne_eq_false_iff_eq, Bool.not_not, gt_iff_lt, ge_iff_le] at hsp2
        refine Ex.skip_ rfl rfl rfl ?_
        refine Ex.skip_ rfl rfl rfl ?_
        refine Ex.skip_ rfl rfl rfl ?_
        refine Ex.skip_ rfl rfl rfl ?_
        refine Ex.skip_ rfl rfl rfl ?_
        refine Ex.skip_ rfl rfl rfl ?_
        refine Ex.skip_ rfl rfl rfl ?_
        refine x_pickT rfl rfl rfl rfl rfl ?_
        refine x_move rfl rfl rfl rfl ?_
        refine Ex.skip_ rfl rfl rfl ?_
        refine Ex.skip_ rfl rfl rfl ?_
        refine Ex.skip_ rfl rfl rfl ?_
        refine Ex.skip_ rfl rfl rfl ?_
        refine Ex.skip_ rfl rfl rfl ?_
        refine Ex.skip_ rfl rfl rfl ?_
        refine Ex.skip_ rfl rfl rfl ?_
        refine x_pickT rfl rfl rfl rfl rfl ?_
        refine Ex.done (hK _ _ ?_)
        refine At.then_n ?_
        refine W.condT rfl ?_
        refine W.seq ?_
        refine W.sub [] trivial ?_
        refine W.reg [(0, false)] (by kernel_rfl) ?_
        intro K hK
        refine x_assign rfl rfl rfl rfl ?_
        refine Ex.done (hK _ _ ?_)
        refine At.then_n ?_
        refine W.ret ?_
        refine At.blk_r ?_
        refine At.then_r ?_
        refine At.loop_r ?_
        refine At.blk_r ?_
        refine At.then_r ?_
        refine At.ret1 (.tmp 2) rfl ⟨rfl, trivial⟩ ?_
        have hsm : smallA x = false := by unfold smallA; rw [show decide (x.b.length ≤ 131072) = false from decide_eq_false (by omega)]; simp
        rw [few_no hx (.inr hsm)]; exact ⟨rfl, M.frm⟩
      ·
        try simp only [decide_eq_true_eq, decide_eq_false_iff_not, Bool.not_eq_true', Bool.not_eq_false', beq_iff_eq, bne_iff_ne, ne_eq, Bool.not_eq_eq_eq_not, Bool.not_true, Bool.not_false, beq_eq_false_iff_ne, bne_eq_false_iff_eq, Bool.not_not, gt_iff_lt, ge_iff_le] at hsp2
        refine x_move rfl rfl rfl rfl ?_
        refine x_move rfl rfl rfl rfl ?_
        refine x_ia j rfl rfl rfl Try.underlying38 sz43 rfl rfl rfl (by omega) ?_
        refine x_fa rfl rfl rfl fo43_1 rfl ?_
        refine x_ld rfl rfl rfl Try.underlying9 rfl rfl (RowAt.cell hrow (j := 1) rfl) ?_
        refine x_lenS rfl rfl rfl rfl Try.underlying9 rfl ?_
        refine x_gtr _ rfl rfl rfl rfl rfl rfl ?_
        refine x_pickF rfl rfl rfl rfl rfl ?_
        refine x_move rfl rfl rfl rfl ?_
        refine Ex.split 30 rfl (fun hsp3 => ?_) (fun hsp3 => ?_)
        ·
          try simp only [decide_eq_true_eq, decide_eq_false_iff_not, Bool.not_eq_true', Bool.not_eq_false', beq_iff_eq, bne_iff_ne, ne_eq, Bool.not_eq_eq_eq_not, Bool.not_true, Bool.not_false, beq_eq_false_iff_ne, bne_eq_false_iff_eq, Bool.not_not, gt_iff_lt, ge_iff_le] at hsp3
          refine Ex.skip_ rfl rfl rfl ?_
          refine Ex.skip_ rfl rfl rfl ?_
          refine Ex.skip_ rfl rfl rfl ?_
          refine Ex.skip_ rfl rfl rfl ?_
          refine Ex.skip_ rfl rfl rfl ?_
          refine Ex.skip_ rfl rfl rfl ?_
          refine Ex.skip_ rfl rfl rfl ?_
          refine x_pickT rfl rfl rfl rfl rfl ?_
          refine Ex.done (hK _ _ ?_)
          refine At.then_n ?_
          refine W.condT rfl ?_
          refine W.seq ?_
          refine W.sub [] trivial ?_
          refine W.reg [(0, false)] (by kernel_rfl) ?_
          intro K hK
          refine x_assign rfl rfl rfl rfl ?_
          refine Ex.done (hK _ _ ?_)
          refine At.then_n ?_
          refine W.ret ?_
          refine At.blk_r ?_
          refine At.then_r ?_
          refine At.loop_r ?_
          refine At.blk_r ?_
          refine At.then_r ?_
          refine At.ret1 (.tmp 2) rfl ⟨rfl, trivial⟩ ?_
          have hsm : smallA x = false := by unfold smallA; rw [show decide (x.p.length ≤ 300) = false from decide_eq_false (by omega)]; simp
          rw [few_no hx (.inr hsm)]; exact ⟨rfl, M.frm⟩
        ·
          try simp only [decide_eq_true_eq, decide_eq_false_iff_not, Bool.not_eq_true', Bool.not_eq_false', beq_iff_eq, bne_iff_ne, ne_eq, Bool.not_eq_eq_eq_not, Bool.not_true, Bool.not_false, beq_eq_false_iff_ne, bne_eq_false_iff_eq, Bool.not_not, gt_iff_lt, ge_iff_le] at hsp3
          refine x_move rfl rfl rfl rfl ?_
          refine x_move rfl rfl rfl rfl ?_
          refine x_ia j rfl rfl rfl Try.underlying38 sz43 rfl rfl rfl (by omega) ?_
          refine x_fa rfl rfl rfl fo43_2 rfl ?_
          refine x_ld rfl rfl rfl Try.underlying9 rfl rfl (RowAt.cell hrow (j := 2) rfl) ?_
          refine x_lenS rfl rfl rfl rfl Try.underlying9 rfl ?_
          refine x_gtr _ rfl rfl rfl rfl rfl rfl ?_
          refine x_pickF rfl rfl rfl rfl rfl ?_
          refine Ex.done (hK _ _ ?_)
          refine At.then_n ?_
          refine W.cond rfl (fun hco5 => ?_) (fun hco5 => ?_)
          · try simp only [decide_eq_true_eq, decide_eq_false_iff_not, Bool.not_eq_true', Bool.not_eq_false', beq_iff_eq, bne_iff_ne, ne_eq, Bool.not_eq_eq_eq_not, Bool.not_true, Bool.not_false, beq_eq_false_iff_ne, bne_eq_false_iff_eq, Bool.not_not, gt_iff_lt, ge_iff_le] at hco5
            refine W.seq ?_
            refine W.sub [] trivial ?_
            refine W.reg [(0, false)] (by kernel_rfl) ?_
            intro K hK
            refine x_assign rfl rfl rfl rfl ?_
            refine Ex.done (hK _ _ ?_)
            refine At.then_n ?_
            refine W.ret ?_
            refine At.blk_r ?_
            refine At.then_r ?_
            refine At.loop_r ?_
            refine At.blk_r ?_
            refine At.then_r ?_
            refine At.ret1 (.tmp 2) rfl ⟨rfl, trivial⟩ ?_
            have hsm : smallA x = false := by unfold smallA; rw [show decide (x.q.length ≤ 300) = false from decide_eq_false (by omega)]; simp
            rw [few_no hx (.inr hsm)]; exact ⟨rfl, M.frm⟩
          · try simp only [decide_eq_true_eq, decide_eq_false_iff_not, Bool.not_eq_true', Bool.not_eq_false', beq_iff_eq, bne_iff_ne, ne_eq, Bool.not_eq_eq_eq_not, Bool.not_true, Bool.not_false, beq_eq_false_iff_ne, bne_eq_false_iff_eq, Bool.not_not, gt_iff_lt, ge_iff_le] at hco5
            refine W.skip ?_
            refine At.blk_n ?_
            refine At.then_n ?_
            refine W.sub [(0, _), (3, _)] ⟨rfl, rfl, trivial⟩ ?_
            refine W.reg [(0, false), (1, false), (2, false)] (by kernel_rfl) ?_
            intro K hK
            refine x_move rfl rfl rfl rfl ?_
            refine x_add _ rfl rfl rfl rfl rfl (wadd (by omega) (by omega)) ?_
            refine x_assign rfl rfl rfl rfl ?_
            refine Ex.done (hK _ _ ?_)
            exact At.back (j + 1) ⟨rfl, rfl, trivial⟩ ⟨by omega, by omega, mem_take_snoc hx hok (by unfold smallA; simp; omega), M⟩ (by first | omega | (simp only; omega) | (simp; done) | (simp; omega))
  · try simp only [decide_eq_true_eq, decide_eq_false_iff_not, Bool.not_eq_true', Bool.not_eq_false', beq_iff_eq, bne_iff_ne, ne_eq, Bool.not_eq_eq_eq_not, Bool.not_true, Bool.not_false, beq_eq_false_iff_ne, bne_eq_false_iff_eq, Bool.not_not, gt_iff_lt, ge_iff_le] at hco1
    refine W.exit ?_
    refine At.then_x ?_
    refine At.loop_x ?_
    refine At.blk_x ?_
    refine At.then_n ?_
    refine W.seq ?_
    refine W.sub [] trivial ?_
    refine W.reg [(0, false)] (by kernel_rfl) ?_
    intro K hK
    refine x_assign rfl rfl rfl rfl ?_
    refine Ex.done (hK _ _ ?_)
    refine At.then_n ?_
    refine W.ret ?_
    refine At.ret1 (.tmp 2) rfl ⟨rfl, trivial⟩ ?_
    have hj2 : j = l.length := by omega
    subst hj2
    rw [List.take_length] at hok
    rw [few_yes hok (by omega)]; exact ⟨rfl, M.frm⟩

set_option maxRecDepth 100000 in
theorem done_c {w0 : World} {v : Value} {l : List Ac} (h : ActsAt w0 v l) (hl : l.length ≤ 9223372036854775807) : Ret Try.prog 17 #[v] w0 fun r w' => ∃ bt E k, r = ptr bt ∧ TR E k ∧ Sep w0 (tb bt E) w' := by
  have M : Sep w0 [] w0 := St.nil w0
  obtain ⟨pv, cv, rfl⟩ := h.shape
  refine Ret.of_W Try.func17 rfl Try.ntmps17 rfl ?_
  refine W.seq ?_
  refine W.sub [(0, _)] ⟨rfl, trivial⟩ ?_
  refine W.reg [(0, false)] (by kernel_rfl) ?_
  intro K hK
  refine x_assign rfl rfl rfl rfl ?_
  refine Ex.done (hK _ _ ?_)
  refine At.then_n ?_
  refine W.seq ?_
  refine W.sub [(0, _)] ⟨rfl, trivial⟩ ?_
  refine W.reg [(0, true), (1, false)] (by kernel_rfl) ?_
  intro K hK
  refine x_call rfl rfl rfl rfl rfl en24 (new_r) ?_
  rintro r_ w1 ⟨bt, E1, rfl, h1, M⟩
  refine ⟨trivial, ?_⟩
  refine x_assign rfl rfl rfl rfl ?_
  refine Ex.done (hK _ _ ?_)
  refine At.then_n ?_
  refine W.seq ?_
  refine W.seq ?_
  refine W.sub [(0, _), (3, _)] ⟨rfl, rfl, trivial⟩ ?_
  refine W.reg [(0, false)] (by kernel_rfl) ?_
  intro K hK
  refine x_assign rfl rfl rfl rfl ?_
  refine Ex.done (hK _ _ ?_)
  refine At.then_n ?_
  refine W.block ?_
  refine W.loop (σ := Nat × List Ent × List Raw) (fun q => [(0, _), (3, _), (4, .int .i64 ((q.1 : Nat) : Int))]) (fun q w => q.1 ≤ l.length ∧ TR q.2.1 q.2.2 ∧ Sep w0 (tb bt q.2.1) w) (fun q => l.length - q.1) (0, E1, []) ⟨rfl, rfl, rfl, trivial⟩ ⟨Nat.zero_le _, h1, M⟩ ?_
  rintro ⟨j, E, k⟩ w ⟨hj, hR, M⟩
  simp only at hj hR M
  have M : Sep w0 (tb bt E ++ []) w := by simpa using M
  refine W.seq ?_
  refine W.seq ?_
  refine W.sub [(0, _), (3, _), (4, _)] ⟨rfl, rfl, rfl, trivial⟩ ?_
  refine W.reg [(0, false), (1, false), (2, false), (3, false), (4, false), (5, false), (6, false), (7, false)] (by kernel_rfl) ?_
  intro K hK
  refine x_move rfl rfl rfl rfl ?_
  refine x_move rfl rfl rfl rfl ?_
  refine x_len rfl rfl rfl rfl Try.underlying38 rfl ?_
  refine x_lss _ rfl rfl rfl rfl rfl rfl ?_
  refine x_move rfl rfl rfl rfl ?_
  refine Ex.split 10 rfl (fun hsp1 => ?_) (fun hsp1 => ?_)
  ·
    try simp only [decide_eq_true_eq, decide_eq_false_iff_not, Bool.not_eq_true', Bool.not_eq_false', beq_iff_eq, bne_iff_ne, ne_eq, Bool.not_eq_eq_eq_not, Bool.not_true, Bool.not_false, beq_eq_false_iff_ne, bne_eq_false_iff_eq, Bool.not_not, gt_iff_lt, ge_iff_le] at hsp1
    obtain ⟨x, hx⟩ := get_lt (l := l) (q := j) (by omega)
    obtain ⟨bb, off, rfl, _⟩ := h.blk (j := j) (by omega)
    obtain ⟨pd, cd, hrow0, hbx⟩ := h.row hx
    have hrow := RowAt.new hrow0 M.frm
    refine x_move rfl rfl rfl rfl ?_
    refine x_nepn true rfl rfl rfl Try.underlying27 rfl rfl rfl ?_
    refine x_pickT rfl rfl rfl rfl rfl ?_
    refine Ex.done (hK _ _ ?_)
    refine At.then_n ?_
    refine W.condT rfl ?_
    refine W.skip ?_
    refine At.then_n ?_
    refine W.seq ?_
    refine W.block ?_
    refine W.seq ?_
    refine W.sub [(0, _), (3, _), (4, _)] ⟨rfl, rfl, rfl, trivial⟩ ?_
    refine W.reg [(0, false), (1, false), (2, false), (3, false), (4, false)] (by kernel_rfl) ?_
    intro K hK
    refine x_move rfl rfl rfl rfl ?_
    refine x_move rfl rfl rfl rfl ?_
    refine x_ia j rfl rfl rfl Try.underlying38 sz43 rfl rfl rfl (by omega) ?_
    refine x_fa rfl rfl rfl fo43_0 rfl ?_
    refine x_ld rfl rfl rfl Try.underlying3 rfl rfl (RowAt.cell hrow (j := 0) rfl) ?_
    refine Ex.done (hK _ _ ?_)
    refine At.then_n ?_
    refine W.block ?_
    refine W.seq ?_
    refine W.sub [(0, _), (3, _), (4, _), (20, _)] ⟨rfl, rfl, rfl, rfl, trivial⟩ ?_
    refine W.reg [(0, false), (1, false)] (by kernel_rfl) ?_
    intro K hK
    refine x_eqi _ rfl rfl rfl rfl rfl rfl ?_
    refine x_assign rfl rfl rfl rfl ?_
    refine Ex.done (hK _ _ ?_)
    refine At.then_n ?_
    refine W.cond rfl (fun hco2 => ?_) (fun hco2 => ?_)
    · try simp only [decide_eq_true_eq, decide_eq_false_iff_not, Bool.not_eq_true', Bool.not_eq_false', beq_iff_eq, bne_iff_ne, ne_eq, Bool.not_eq_eq_eq_not, Bool.not_true, Bool.not_false, beq_eq_false_iff_ne, bne_eq_false_iff_eq, Bool.not_not, gt_iff_lt, ge_iff_le] at hco2
      refine W.sub [(0, _), (3, _), (4, _)] ⟨rfl, rfl, rfl, trivial⟩ ?_
      refine W.reg [(0, false), (1, false), (2, false), (3, false), (4, false), (5, false), (6, true)] (by kernel_rfl) ?_
      intro K hK
      refine x_move rfl rfl rfl rfl ?_
      refine x_move rfl rfl rfl rfl ?_
      refine x_move rfl rfl rfl rfl ?_
      refine x_ia j rfl rfl rfl Try.underlying38 sz43 rfl rfl rfl (by omega) ?_
      refine x_fa rfl rfl rfl fo43_1 rfl ?_
      refine x_ld rfl rfl rfl Try.underlying9 rfl rfl (RowAt.cell hrow (j := 1) rfl) ?_
      refine x_call rfl rfl rfl rfl rfl en19 (mkdir_r M hR) ?_
      rintro r_ w2 ⟨E2, rfl, h2, M⟩
      refine ⟨trivial, ?_⟩
      refine Ex.done (hK _ _ ?_)
      refine At.blk_n ?_
      refine At.blk_n ?_
      refine At.then_n ?_
      refine W.sub [(0, _), (3, _), (4, _)] ⟨rfl, rfl, rfl, trivial⟩ ?_
      refine W.reg [(0, false), (1, false), (2, false)] (by kernel_rfl) ?_
      intro K hK
      refine x_move rfl rfl rfl rfl ?_
      refine x_add _ rfl rfl rfl rfl rfl (wadd (by omega) (by omega)) ?_
      refine x_assign rfl rfl rfl rfl ?_
      refine Ex.done (hK _ _ ?_)
      exact At.back ((j + 1, E2, _)) ⟨rfl, rfl, rfl, trivial⟩ ⟨by omega, h2, by simpa using M⟩ (by first | omega | (simp only; omega) | (simp; done) | (simp; omega))
    · try simp only [decide_eq_true_eq, decide_eq_false_iff_not, Bool.not_eq_true', Bool.not_eq_false', beq_iff_eq, bne_iff_ne, ne_eq, Bool.not_eq_eq_eq_not, Bool.not_true, Bool.not_false, beq_eq_false_iff_ne, bne_eq_false_iff_eq, Bool.not_not, gt_iff_lt, ge_iff_le] at hco2
      refine W.seq ?_
      refine W.sub [(0, _), (3, _), (4, _), (20, _)] ⟨rfl, rfl, rfl, rfl, trivial⟩ ?_
      refine W.reg [(0, false), (1, false)] (by kernel_rfl) ?_
      intro K hK
      refine x_eqi _ rfl rfl rfl rfl rfl rfl ?_
      refine x_assign rfl rfl rfl rfl ?_
      refine Ex.done (hK _ _ ?_)
      refine At.then_n ?_
      refine W.cond rfl (fun hco3 => ?_) (fun hco3 => ?_)
      · try simp only [decide_eq_true_eq, decide_eq_false_iff_not, Bool.not_eq_true', Bool.not_eq_false', beq_iff_eq, bne_iff_ne, ne_eq, Bool.not_eq_eq_eq_not, Bool.not_true, Bool.not_false, beq_eq_false_iff_ne, bne_eq_false_iff_eq, Bool.not_not, gt_iff_lt, ge_iff_le] at hco3
        refine W.sub [(0, _), (3, _), (4, _)] ⟨rfl, rfl, rfl, trivial⟩ ?_
        refine W.regD (by kernel_rfl) #[0, 0, 0, 6, 14, 30, 0, 0, 192, 448, 960, 2047] [(0, false), (1, false), (2, false), (3, false), (4, false), (5, false), (6, false), (7, false), (8, false), (9, false), (10, false), (11, true)] (by kernel_rfl) ?_
        intro K wD1 hK hwD1
        have M := M.drew hwD1
        have hrow := RowAt.new hrow0 M.frm
        refine x_move rfl rfl rfl rfl ?_
        refine x_move rfl rfl rfl rfl ?_
        refine x_move rfl rfl rfl rfl ?_
        refine x_ia j rfl rfl rfl Try.underlying38 sz43 rfl rfl rfl (by omega) ?_
        refine x_fa rfl rfl rfl fo43_1 rfl ?_
        refine x_ld rfl rfl rfl Try.underlying9 rfl rfl (RowAt.cell hrow (j := 1) rfl) ?_
        refine x_move rfl rfl rfl rfl ?_
        refine x_move rfl rfl rfl rfl ?_
        refine x_ia j rfl rfl rfl Try.underlying38 sz43 rfl rfl rfl (by omega) ?_
        refine x_fa rfl rfl rfl fo43_3 rfl ?_
        refine x_ld rfl rfl rfl Try.underlying23 rfl rfl (RowAt.cell hrow (j := 3) rfl) ?_
        refine x_call rfl rfl rfl rfl rfl en20 (put_r M hR (SgK.old hbx)) ?_
        rintro r_ w3 ⟨E3, rfl, h3, M⟩
        refine ⟨⟨.inl (by kernel_rfl), .inl (by kernel_rfl), trivial⟩, ?_⟩
        refine Ex.done (hK _ _ ?_)
        refine At.blk_n ?_
        refine At.blk_n ?_
        refine At.then_n ?_
        refine W.sub [(0, _), (3, _), (4, _)] ⟨rfl, rfl, rfl, trivial⟩ ?_
        refine W.reg [(0, false), (1, false), (2, false)] (by kernel_rfl) ?_
        intro K hK
        refine x_move rfl rfl rfl rfl ?_
        refine x_add _ rfl rfl rfl rfl rfl (wadd (by omega) (by omega)) ?_
        refine x_assign rfl rfl rfl rfl ?_
        refine Ex.done (hK _ _ ?_)
        exact At.back ((j + 1, E3, _)) ⟨rfl, rfl, rfl, trivial⟩ ⟨by omega, h3, by simpa using M⟩ (by first | omega | (simp only; omega) | (simp; done) | (simp; omega))
      · try simp only [decide_eq_true_eq, decide_eq_false_iff_not, Bool.not_eq_true', Bool.not_eq_false', beq_iff_eq, bne_iff_ne, ne_eq, Bool.not_eq_eq_eq_not, Bool.not_true, Bool.not_false, beq_eq_false_iff_ne, bne_eq_false_iff_eq, Bool.not_not, gt_iff_lt, ge_iff_le] at hco3
        refine W.seq ?_
        refine W.sub [(0, _), (3, _), (4, _), (20, _)] ⟨rfl, rfl, rfl, rfl, trivial⟩ ?_
        refine W.reg [(0, false), (1, false)] (by kernel_rfl) ?_
        intro K hK
        refine x_eqi _ rfl rfl rfl rfl rfl rfl ?_
        refine x_assign rfl rfl rfl rfl ?_
        refine Ex.done (hK _ _ ?_)
        refine At.then_n ?_
        refine W.cond rfl (fun hco4 => ?_) (fun hco4 => ?_)
        · try simp only [decide_eq_true_eq, decide_eq_false_iff_not, Bool.not_eq_true', Bool.not_eq_false', beq_iff_eq, bne_iff_ne, ne_eq, Bool.not_eq_eq_eq_not, Bool.not_true, Bool.not_false, beq_eq_false_iff_ne, bne_eq_false_iff_eq, Bool.not_not, gt_iff_lt, ge_iff_le] at hco4
          refine W.sub [(0, _), (3, _), (4, _)] ⟨rfl, rfl, rfl, trivial⟩ ?_
          refine W.reg [(0, false), (1, false), (2, false), (3, false), (4, false), (5, false), (6, true)] (by kernel_rfl) ?_
          intro K hK
          refine x_move rfl rfl rfl rfl ?_
          refine x_move rfl rfl rfl rfl ?_
          refine x_move rfl rfl rfl rfl ?_
          refine x_ia j rfl rfl rfl Try.underlying38 sz43 rfl rfl rfl (by omega) ?_
          refine x_fa rfl rfl rfl fo43_1 rfl ?_
          refine x_ld rfl rfl rfl Try.underlying9 rfl rfl (RowAt.cell hrow (j := 1) rfl) ?_
          refine x_call rfl rfl rfl rfl rfl en21 (remove_r M hR) ?_
          rintro r_ w4 ⟨E4, rfl, h4, M⟩
          refine ⟨trivial, ?_⟩
          refine Ex.done (hK _ _ ?_)
          refine At.blk_n ?_
          refine At.blk_n ?_
          refine At.then_n ?_
          refine W.sub [(0, _), (3, _), (4, _)] ⟨rfl, rfl, rfl, trivial⟩ ?_
          refine W.reg [(0, false), (1, false), (2, false)] (by kernel_rfl) ?_
          intro K hK
          refine x_move rfl rfl rfl rfl ?_
          refine x_add _ rfl rfl rfl rfl rfl (wadd (by omega) (by omega)) ?_
          refine x_assign rfl rfl rfl rfl ?_
          refine Ex.done (hK _ _ ?_)
          exact At.back ((j + 1, E4, _)) ⟨rfl, rfl, rfl, trivial⟩ ⟨by omega, h4, by simpa using M⟩ (by first | omega | (simp only; omega) | (simp; done) | (simp; omega))
        · try simp only [decide_eq_true_eq, decide_eq_false_iff_not, Bool.not_eq_true', Bool.not_eq_false', beq_iff_eq, bne_iff_ne, ne_eq, Bool.not_eq_eq_eq_not, Bool.not_true, Bool.not_false, beq_eq_false_iff_ne, bne_eq_false_iff_eq, Bool.not_not, gt_iff_lt, ge_iff_le] at hco4
          refine W.seq ?_
          refine W.sub [(0, _), (3, _), (4, _), (20, _)] ⟨rfl, rfl, rfl, rfl, trivial⟩ ?_
          refine W.reg [(0, false), (1, false)] (by kernel_rfl) ?_
          intro K hK
          refine x_eqi _ rfl rfl rfl rfl rfl rfl ?_
          refine x_assign rfl rfl rfl rfl ?_
          refine Ex.done (hK _ _ ?_)
          refine At.then_n ?_
          refine W.cond rfl (fun hco5 => ?_) (fun hco5 => ?_)
          · try simp only [decide_eq_true_eq, decide_eq_false_iff_not, Bool.not_eq_true', Bool.not_eq_false', beq_iff_eq, bne_iff_ne, ne_eq, Bool.not_eq_eq_eq_not, Bool.not_true, Bool.not_false, beq_eq_false_iff_ne, bne_eq_false_iff_eq, Bool.not_not, gt_iff_lt, ge_iff_le] at hco5
            refine W.sub [(0, _), (3, _), (4, _)] ⟨rfl, rfl, rfl, trivial⟩ ?_
            refine W.regD (by kernel_rfl) #[0, 0, 0, 6, 14, 30, 0, 0, 192, 448, 960, 2047] [(0, false), (1, false), (2, false), (3, false), (4, false), (5, false), (6, false), (7, false), (8, false), (9, false), (10, false), (11, true)] (by kernel_rfl) ?_
            intro K wD2 hK hwD2
            have M := M.drew hwD2
            have hrow := RowAt.new hrow0 M.frm
            refine x_move rfl rfl rfl rfl ?_
            refine x_move rfl rfl rfl rfl ?_
            refine x_move rfl rfl rfl rfl ?_
            refine x_ia j rfl rfl rfl Try.underlying38 sz43 rfl rfl rfl (by omega) ?_
            refine x_fa rfl rfl rfl fo43_1 rfl ?_
            refine x_ld rfl rfl rfl Try.underlying9 rfl rfl (RowAt.cell hrow (j := 1) rfl) ?_
            refine x_move rfl rfl rfl rfl ?_
            refine x_move rfl rfl rfl rfl ?_
            refine x_ia j rfl rfl rfl Try.underlying38 sz43 rfl rfl rfl (by omega) ?_
            refine x_fa rfl rfl rfl fo43_2 rfl ?_
            refine x_ld rfl rfl rfl Try.underlying9 rfl rfl (RowAt.cell hrow (j := 2) rfl) ?_
            refine x_call rfl rfl rfl rfl rfl en22 (rename_r M hR) ?_
            rintro r_ w5 ⟨E5, rfl, h5, M⟩
            refine ⟨⟨.inl (by kernel_rfl), .inl (by kernel_rfl), trivial⟩, ?_⟩
            refine Ex.done (hK _ _ ?_)
            refine At.blk_n ?_
            refine At.blk_n ?_
            refine At.then_n ?_
            refine W.sub [(0, _), (3, _), (4, _)] ⟨rfl, rfl, rfl, trivial⟩ ?_
            refine W.reg [(0, false), (1, false), (2, false)] (by kernel_rfl) ?_
            intro K hK
            refine x_move rfl rfl rfl rfl ?_
            refine x_add _ rfl rfl rfl rfl rfl (wadd (by omega) (by omega)) ?_
            refine x_assign rfl rfl rfl rfl ?_
            refine Ex.done (hK _ _ ?_)
            exact At.back ((j + 1, E5, _)) ⟨rfl, rfl, rfl, trivial⟩ ⟨by omega, h5, by simpa using M⟩ (by first | omega | (simp only; omega) | (simp; done) | (simp; omega))
          · try simp only [decide_eq_true_eq, decide_eq_false_iff_not, Bool.not_eq_true', Bool.not_eq_false', beq_iff_eq, bne_iff_ne, ne_eq, Bool.not_eq_eq_eq_not, Bool.not_true, Bool.not_false, beq_eq_false_iff_ne, bne_eq_false_iff_eq, Bool.not_not, gt_iff_lt, ge_iff_le] at hco5
            refine W.skip ?_
            refine At.blk_n ?_
            refine At.blk_n ?_
            refine At.then_n ?_
            refine W.sub [(0, _), (3, _), (4, _)] ⟨rfl, rfl, rfl, trivial⟩ ?_
            refine W.reg [(0, false), (1, false), (2, false)] (by kernel_rfl) ?_
            intro K hK
            refine x_move rfl rfl rfl rfl ?_
            refine x_add _ rfl rfl rfl rfl rfl (wadd (by omega) (by omega)) ?_
            refine x_assign rfl rfl rfl rfl ?_
            refine Ex.done (hK _ _ ?_)
            exact At.back ((j + 1, E, k)) ⟨rfl, rfl, rfl, trivial⟩ ⟨by omega, hR, by simpa using M⟩ (by first | omega | (simp only; omega) | (simp; done) | (simp; omega))
  ·
    try simp only [decide_eq_true_eq, decide_eq_false_iff_not, Bool.not_eq_true', Bool.not_eq_false', beq_iff_eq, bne_iff_ne, ne_eq, Bool.not_eq_eq_eq_not, Bool.not_true, Bool.not_false, beq_eq_false_iff_ne, bne_eq_false_iff_eq, Bool.not_not, gt_iff_lt, ge_iff_le] at hsp1
    refine Ex.skip_ rfl rfl rfl ?_
    refine Ex.skip_ rfl rfl rfl ?_
    refine x_pickF rfl rfl rfl rfl rfl ?_
    refine Ex.done (hK _ _ ?_)
    refine At.then_n ?_
    refine W.condF rfl ?_
    refine W.exit ?_
    refine At.then_x ?_
    refine At.loop_x ?_
    refine At.blk_x ?_
    refine At.then_n ?_
    refine W.seq ?_
    refine W.sub [(3, _)] ⟨rfl, trivial⟩ ?_
    refine W.reg [(0, false), (1, false)] (by kernel_rfl) ?_
    intro K hK
    refine x_move rfl rfl rfl rfl ?_
    refine x_assign rfl rfl rfl rfl ?_
    refine Ex.done (hK _ _ ?_)
    refine At.then_n ?_
    refine W.ret ?_
    refine At.ret1 (.tmp 2) rfl ⟨rfl, trivial⟩ ?_
    exact ⟨_, E, k, rfl, hR, by simpa using M⟩
end Go.Proofs.Ytccfmfehfhfhhaa

namespace Go.Proofs.Ytccfmfehfhfhhaa
open Go Go.Fw Go.RowKit
set_option linter.unusedVariables false
set_option linter.unusedSimpArgs false

section
variable {E : List Ent} {k m : List Raw} {x y : Raw} {i j : Nat}
theorem TR.okl (h : TR E k) (hs : m.Sublist k) : OkL m where
  one x hx := by
    have hx := hs.subset hx
    obtain ⟨h1, h2, h3, h4⟩ := h.row hx
    obtain ⟨h5, h6⟩ := h.data x hx
    exact ⟨h1, h2, h6, h5⟩
  nd := (hs.map _).nodup (srt_names h.rel.srt)
  top x hx y hy hd t ht he := by
    obtain ⟨_, _, h3, _⟩ := h.row (hs.subset hx)
    obtain ⟨_, _, g3, _⟩ := h.row (hs.subset hy)
    rw [he] at h3
    obtain ⟨b, _, h4, _⟩ := h.ti.gi.pre h3 ht
    rw [g3] at h4
    have h5 := Option.some.inj h4
    rw [h5] at hd
    cases hd
theorem OkL.single (h : OkL m) : ∀ x ∈ m, singleR x = 0 := fun x hx => by
  obtain ⟨h1, h2, h3, h4⟩ := h.one x hx
  unfold singleR
  rw [if_pos ⟨h1, h2⟩, if_neg (fun e => e.2 (h3 e.1)), if_neg (by omega)]
theorem OkL.together (h : OkL m) : togetherR m = 0 := by
  unfold togetherR
  rw [if_pos h.nd, if_neg]
  rintro ⟨x, hx, y, hy, hd, t, ht, he⟩
  exact h.top x hx y hy hd t ht he
/-- Rows of a tree's that make the tree. -/
theorem back_of (h : TR E k) (hs : m.Sublist k) (hc : ∀ x ∈ k, ∃ z ∈ m, ∃ t, splitN z.1 = splitN x.1 ++ t) : ofL m = (k, 0) := by
  have hO := h.okl hs
  have hG : m.foldl layG gNew = absE E := by
    funext r
    rw [lay_all hO]
    by_cases h0 : r = []
    · subst h0; rw [if_pos rfl, h.ti.gi.root]
    · rw [if_neg h0]
      cases hv : absE E r with
      | some v =>
        have hP := (h.ti.gi.ok r v hv).1
        have hm : (joinS r, v) ∈ k := (h.rel.mem _).2 ⟨r, h0, rfl, hv⟩
        obtain ⟨z, hz, t, ht⟩ := hc _ hm
        simp only at ht
        rw [hP.sp.2] at ht
        unfold ofG
        cases hf : m.find? (fun x => decide (splitN x.1 = r)) with
        | some y =>
          have hy := hs.subset (List.mem_of_find?_eq_some hf)
          have he := List.find?_some hf
          simp at he
          obtain ⟨_, _, g3, _⟩ := h.row hy
          rw [he, hv] at g3
          exact g3.symm
        | none =>
          have hno : ∀ y ∈ m, splitN y.1 ≠ r := fun y hy => by simpa using List.find?_eq_none.1 hf y hy
          simp only
          rw [if_pos (List.any_eq_true.2 ⟨z, hz, ipf.2 ⟨t, ht⟩⟩)]
          have ht0 : t ≠ [] := fun e => hno z hz (by rw [ht, e, List.append_nil])
          obtain ⟨_, _, g3, _⟩ := h.row (hs.subset hz)
          rw [ht] at g3
          obtain ⟨b, _, g4, _⟩ := h.ti.gi.pre g3 ht0
          rw [hv] at g4
          cases g4
          rw [h.ti.gi.dirT hv]
      | none =>
        unfold ofG
        have hno : ∀ y ∈ m, ∀ t, splitN y.1 ≠ r ++ t := fun y hy t ht => by
          obtain ⟨_, _, g3, _⟩ := h.row (hs.subset hy)
          rw [ht] at g3
          by_cases ht0 : t = []
          · subst ht0; rw [List.append_nil, hv] at g3; cases g3
          · obtain ⟨b, _, g4, _⟩ := h.ti.gi.pre g3 ht0
            rw [hv] at g4; cases g4
        have hf : m.find? (fun x => decide (splitN x.1 = r)) = none := List.find?_eq_none.2 fun y hy e => by
          simp at e
          exact hno y hy [] (by rw [e, List.append_nil])
        rw [hf]
        simp only
        rw [if_neg]
        intro ha
        obtain ⟨y, hy, hp⟩ := List.any_eq_true.1 ha
        obtain ⟨t, ht⟩ := ipf.1 hp
        exact hno y hy t ht
  have hR := fill_rel hO
  rw [hG] at hR
  have hk := rel_ext hR h.rel
  rw [ofL_ok hO.single hO.together, hk, if_neg (by have := h.le; omega)]
theorem back_all (h : TR E k) : ofL k = (k, 0) := back_of h (List.Sublist.refl _) fun x hx => ⟨x, hx, [], by simp⟩

/-- Is nothing that stands under it next? -/
def keepB (k : List Raw) (i : Nat) : Bool := match k[i]?, k[i + 1]? with
  | some x, some y => !underP y.1 x.1
  | _, _ => true
def someT (k : List Raw) : Nat → List Raw
  | 0 => []
  | i + 1 => match k[i]? with
    | some x => if keepB k i = true then someT k i ++ [x] else someT k i
    | none => someT k i
theorem keepB_end (h : i + 1 = k.length) : keepB k i = true := by
  unfold keepB
  rw [show k[i + 1]? = none from List.getElem?_eq_none (by omega)]
  cases k[i]? <;> rfl
theorem keepB_in (hx : k[i]? = some x) (hy : k[i + 1]? = some y) : keepB k i = !underP y.1 x.1 := by unfold keepB; rw [hx, hy]
theorem someT_in (hx : k[i]? = some x) (h : keepB k i = true) : someT k (i + 1) = someT k i ++ [x] := by
  conv => lhs; unfold someT
  rw [hx]; simp only; rw [if_pos h]
theorem someT_out (hx : k[i]? = some x) (h : keepB k i = false) : someT k (i + 1) = someT k i := by
  conv => lhs; unfold someT
  rw [hx]; simp only; rw [if_neg (by simp [h])]
theorem someT_sub : ∀ (i : Nat), (someT k i).Sublist (k.take i)
  | 0 => by simp [someT]
  | i + 1 => by
    have ih := someT_sub i
    cases hx : k[i]? with
    | some x =>
      rw [take_snoc hx]
      cases hk : keepB k i with
      | true => rw [someT_in hx hk]; exact ih.append (List.Sublist.refl _)
      | false => rw [someT_out hx hk]; exact ih.trans (List.sublist_append_left _ _)
    | none =>
      unfold someT
      rw [hx]
      simp only
      have hle := List.getElem?_eq_none_iff.1 hx
      have e1 : k.take (i + 1) = k.take i := by rw [List.take_of_length_le (by omega), List.take_of_length_le hle]
      rw [e1]
      exact ih
theorem someT_len (i : Nat) : (someT k i).length ≤ i := by
  have := (someT_sub (k := k) i).length_le
  rw [List.length_take] at this
  omega
theorem someT_mem : ∀ {i : Nat}, j < i → k[j]? = some x → keepB k j = true → x ∈ someT k i
  | 0, h, _, _ => by omega
  | i + 1, h, hx, hk => by
    rcases Nat.lt_or_ge j i with h1 | h1
    · have ih := someT_mem h1 hx hk
      unfold someT
      split
      · split
        · exact List.mem_append_left _ ih
        · exact ih
      · exact ih
    · have : j = i := by omega
      subst this
      rw [someT_in hx hk]; simp
theorem back_some (h : TR E k) : ofL (someT k k.length) = (k, 0) := by
  refine back_of h (by have := someT_sub (k := k) k.length; rwa [List.take_length] at this) fun x hx => ?_
  obtain ⟨i, hi⟩ := List.mem_iff_getElem?.1 hx
  -- the last one that stands under it
  have key : ∀ (n j : Nat) (z : Raw), k.length - j ≤ n → k[j]? = some z → (∃ t, splitN z.1 = splitN x.1 ++ t) → ∃ z ∈ someT k k.length, ∃ t, splitN z.1 = splitN x.1 ++ t := by
    intro n
    induction n with
    | zero =>
      intro j z hn hz _
      have := (List.getElem?_eq_some_iff.1 hz).1
      omega
    | succ n ih =>
      intro j z hn hz ⟨t, ht⟩
      have hj := (List.getElem?_eq_some_iff.1 hz).1
      cases hk : keepB k j with
      | true => exact ⟨z, someT_mem hj hz hk, t, ht⟩
      | false =>
        rcases Nat.lt_or_ge (j + 1) k.length with h1 | h1
        · obtain ⟨y, hy⟩ := get_lt (l := k) (q := j + 1) h1
          rw [keepB_in hz hy] at hk
          have hu : underP y.1 z.1 = true := by simpa using hk
          rw [underP_eq] at hu
          simp only [Bool.and_eq_true, decide_eq_true_eq] at hu
          obtain ⟨u, hu⟩ := ipf.1 hu.2
          exact ih (j + 1) y (by omega) hy ⟨t ++ u, by rw [hu, ht, List.append_assoc]⟩
        · rw [keepB_end (by omega)] at hk; cases hk
  exact key k.length i x (by omega) hi ⟨[], by simp⟩
end
end Go.Proofs.Ytccfmfehfhfhhaa

namespace Go.Proofs.Ytccfmfehfhfhhaa
open Go Go.Fw Go.RowKit
set_option linter.unusedVariables false
set_option linter.unusedSimpArgs false

/-- Bytes that may be written, whatever they are. -/
def WrN (L : List (Nat × Obj)) (v : Value) (n : Nat) : Prop := (v = .slice none 0 0 ∧ n = 0) ∨ ∃ (bk cap : Nat) (cs : List Value) (T : TypeId), v = .slice (some ⟨bk, 0, none⟩) n cap ∧ (bk, Obj.cells cs.toArray T (0, 0)) ∈ L ∧ n ≤ cs.length ∧ ∀ j < n, ∃ x : UInt8, cs[j]? = some (byteV x)
section
variable {L L' A B : List (Nat × Obj)} {v : Value} {n k : Nat} {b : List UInt8}
theorem WrN.own (h : OwL L v 1 n (byteCs b)) (hs : ∀ y ∈ L, y ∈ L') : WrN L' v n := by
  have hlen := h.len
  rw [byteCs_len] at hlen
  rcases h with ⟨h1, h2, _⟩ | ⟨bk, cap, rest, T, h1, rfl, h3, h4⟩
  · exact .inl ⟨h1, h2⟩
  · refine .inr ⟨bk, cap, byteCs b ++ rest, T, h1, hs _ (List.mem_singleton.2 rfl), by rw [List.length_append, byteCs_len]; omega, fun j hj => ?_⟩
    obtain ⟨x, hx⟩ := get_lt (l := b) (q := j) (by omega)
    exact ⟨x, by rw [List.getElem?_append_left (by rw [byteCs_len]; omega)]; exact byteCs_get hx⟩
theorem WrN.mono (h : WrN L v n) (hs : ∀ y ∈ L, y ∈ L') : WrN L' v n := h.imp id fun ⟨bk, cap, cs, T, h1, h2, h3⟩ => ⟨bk, cap, cs, T, h1, hs _ h2, h3⟩
theorem WrN.shape (h : WrN L v n) : ∃ p cap, v = .slice p n cap := by
  rcases h with ⟨rfl, rfl⟩ | ⟨bk, cap, cs, T, rfl, _⟩
  · exact ⟨none, 0, rfl⟩
  · exact ⟨_, cap, rfl⟩
/-- Behind a byte that was written. -/
theorem WrN.set {bk T : Nat} {cs : List Value} {y : UInt8} (h : WrN (A ++ (bk, Obj.cells cs.toArray T (0, 0)) :: B) v n) (hcs : ∀ j < k, ∃ x : UInt8, cs[j]? = some (byteV x)) (hk : k ≤ cs.length) {q : Nat} (hq : q < k) :
    WrN (A ++ (bk, Obj.cells (cs.set q (byteV y)).toArray T (0, 0)) :: B) v n := by
  rcases h with h | ⟨b', cap, cs', T', h1, h2, h3, h4⟩
  · exact .inl h
  · rcases List.mem_append.1 h2 with h5 | h5
    · exact .inr ⟨b', cap, cs', T', h1, List.mem_append_left _ h5, h3, h4⟩
    · rcases List.mem_cons.1 h5 with h6 | h6
      · simp only [Prod.mk.injEq, Obj.cells.injEq, and_true] at h6
        obtain ⟨rfl, h7, rfl⟩ := h6
        have h7 : cs' = cs := by have := congrArg Array.toList h7; simpa using this
        subst h7
        refine .inr ⟨b', cap, cs'.set q (byteV y), T', h1, List.mem_append_right _ List.mem_cons_self, by rw [List.length_set]; exact h3, fun j hj => ?_⟩
        rw [List.getElem?_set]
        by_cases e : q = j
        · subst e
          rw [if_pos rfl, if_pos (by omega)]
          exact ⟨y, rfl⟩
        · rw [if_neg e]; exact h4 j hj
      · exact .inr ⟨b', cap, cs', T', h1, List.mem_append_right _ (List.mem_cons_of_mem _ h6), h3, h4⟩
end

section
variable {l : List Raw} {w0 : World}
theorem of_r2 {v : Value} (h : FilesAt w0 v l) (hl : l.length ≤ 1000) : Ret Try.prog 12 #[v] w0 fun r w' => ∃ po TB, r = .tuple #[.pointer po, .int .i64 (ofL l).2] ∧ Sep w0 TB w' ∧ (po.isNone = !decide ((ofL l).2 = 0)) ∧ ((ofL l).2 = 0 → ∃ E bt, po = some ⟨bt, 0, none⟩ ∧ TB = tb bt E ∧ TR E (ofL l).1) :=
  (of_r h hl).mono fun r w' hh => by
    rcases hh with ⟨h1, h2, hn⟩ | ⟨h1, E, bt, h2, hR, M⟩
    · exact ⟨none, [], h2, hn, by rw [decide_eq_false h1]; rfl, fun e => absurd e h1⟩
    · exact ⟨some ⟨bt, 0, none⟩, tb bt E, h2, M, by rw [decide_eq_true h1]; rfl, fun _ => ⟨E, bt, rfl, rfl, hR⟩⟩
end
theorem u8_succ (x : UInt8) : IntKind.u8.wrap ((x.toNat : Int) + 1) = ((x + 1 : UInt8).toNat : Int) := by
  have h := x.toNat_lt
  rw [UInt8.toNat_add]
  simp only [IntKind.wrap, IntKind.bits, IntKind.signed]
  rcases Nat.lt_or_ge (x.toNat + 1) 256 with h1 | h1
  · first | (simp; done) | (simp; omega)
  · have : x.toNat = 255 := by omega
    simp [this]
theorem TR.find_data {E : List Ent} {l : List Raw} (h : TR E l) (p : List UInt8) : (findL l p).1.2.2.length ≤ 65536 := by
  rw [h.rel.findL h.ti.gi]
  simp only [findV]
  split
  · cases hv : absE E (splitN p) with
    | none => simp
    | some v => exact (h.ti.gi.ok _ v hv).2.1
  · simp
/-- Rows of one's own, with bytes that may be written. -/
structure InO (Lo Ld : List (Nat × Obj)) (v : Value) (fs : List (Raw × Value)) : Prop where
  own : OwL Lo v 3 fs.length (fCs fs)
  dat : ∀ f ∈ fs, (∃ Lf, (∀ y ∈ Lf, y ∈ Ld) ∧ OwL Lf f.2 1 f.1.2.2.length (byteCs f.1.2.2)) ∧ f.2.oneCell' = true
theorem InO.files {Lo Ld L : List (Nat × Obj)} {v : Value} {fs : List (Raw × Value)} {S : Nat → Prop} {w0 w : World} (h : InO Lo Ld v fs) (M : St S w0 L w) (h1 : ∀ y ∈ Lo, y ∈ L) (h2 : ∀ y ∈ Ld, y ∈ L) : FilesAt w v (fs.map (·.1)) :=
  ⟨fs, rfl, .inr ((h.own.sl (by decide)).at_ M h1), fun f hf => ⟨by
    obtain ⟨⟨Lf, g1, g2⟩, _⟩ := h.dat f hf
    exact .inr ((g2.sl (by decide)).at_ M fun y hy => h2 y (g1 y hy)), (h.dat f hf).2⟩⟩
end Go.Proofs.Ytccfmfehfhfhhaa
