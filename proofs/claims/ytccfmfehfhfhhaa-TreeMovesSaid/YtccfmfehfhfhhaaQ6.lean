/-
  Texts that belong together, laid into one file: V39, R16.
-/
import Derived.Test.YtccfmfehfhfhhaaQ5
namespace Go.Proofs.Ytccfmfehfhfhhaa
open Go Go.Fw Go.RowKit Go.Proofs
set_option linter.unusedVariables false
set_option linter.unusedSimpArgs false

set_option maxRecDepth 100000 in
theorem treeMoves_c {w0 : World} {v : Value} {l : List Ac} {x y : List UInt8} (h : ActsAt w0 v l) (hl : l.length ≤ 9223372036854775807) : Ret Try.prog 6 #[v, strV x, strV y] w0 fun r w' => r = .bool true ∧ New w0 w' := by
  have M : Sep w0 [] w0 := St.nil w0
  obtain ⟨pv, cv, rfl⟩ := h.shape
  refine Ret.of_W Try.func6 rfl Try.ntmps6 rfl ?_
  refine W.seq ?_
  refine W.sub [(0, _), (1, _), (2, _)] ⟨rfl, rfl, rfl, trivial⟩ ?_
  refine W.reg [(0, false)] (by kernel_rfl) ?_
  intro K hK
  refine x_assign rfl rfl rfl rfl ?_
  refine Ex.done (hK _ _ ?_)
  refine At.then_n ?_
  refine W.seq ?_
  refine W.seq ?_
  refine W.sub [(0, _), (1, _), (2, _)] ⟨rfl, rfl, rfl, trivial⟩ ?_
  refine W.reg [(0, false), (1, true), (2, false), (3, false), (4, false), (5, false), (6, false), (7, false), (8, false), (9, false), (10, false), (11, false), (12, false)] (by kernel_rfl) ?_
  intro K hK
  refine x_move rfl rfl rfl rfl ?_
  refine x_call rfl rfl rfl rfl rfl en16 (few_c (h.new M.frm) hl) ?_
  rintro r_ wcall1 ⟨rfl, hncall1⟩
  have M := M.new hncall1
  refine ⟨trivial, ?_⟩
  refine x_not _ rfl rfl rfl rfl rfl ?_
  refine x_move rfl rfl rfl rfl ?_
  refine Ex.split 20 rfl (fun hsp1 => ?_) (fun hsp1 => ?_)
  ·
    try simp only [decide_eq_true_eq, decide_eq_false_iff_not, Bool.not_eq_true', Bool.not_eq_false', beq_iff_eq, bne_iff_ne, ne_eq, Bool.not_eq_eq_eq_not, Bool.not_true, Bool.not_false, beq_eq_false_iff_ne, bne_eq_false_iff_eq, Bool.not_not, gt_iff_lt, ge_iff_le] at hsp1
    refine Ex.skip_ rfl rfl rfl ?_
    refine Ex.skip_ rfl rfl rfl ?_
    refine Ex.skip_ rfl rfl rfl ?_
    refine x_pickT rfl rfl rfl rfl rfl ?_
    refine x_move rfl rfl rfl rfl ?_
    refine Ex.skip_ rfl rfl rfl ?_
    refine Ex.skip_ rfl rfl rfl ?_
    refine Ex.skip_ rfl rfl rfl ?_
    refine x_pickT rfl rfl rfl rfl rfl ?_
    refine Ex.done (hK _ _ ?_)
    refine At.then_n ?_
    refine W.condT rfl ?_
    refine W.seq ?_
    refine W.sub [] trivial ?_
    refine W.reg [(0, true), (1, false)] (by kernel_rfl) ?_
    intro K hK
    refine x_call rfl rfl rfl rfl rfl en11 (lives16_c) ?_
    rintro r_ wcall2 ⟨rfl, hncall2⟩
    have M := M.new hncall2
    refine ⟨trivial, ?_⟩
    refine x_assign rfl rfl rfl rfl ?_
    refine Ex.done (hK _ _ ?_)
    refine At.then_n ?_
    refine W.ret ?_
    refine At.then_r ?_
    refine At.ret1 (.tmp 6) rfl ⟨rfl, trivial⟩ ?_
    exact ⟨rfl, M.frm⟩
  ·
    try simp only [decide_eq_true_eq, decide_eq_false_iff_not, Bool.not_eq_true', Bool.not_eq_false', beq_iff_eq, bne_iff_ne, ne_eq, Bool.not_eq_eq_eq_not, Bool.not_true, Bool.not_false, beq_eq_false_iff_ne, bne_eq_false_iff_eq, Bool.not_not, gt_iff_lt, ge_iff_le] at hsp1
    refine x_move rfl rfl rfl rfl ?_
    refine x_lenS rfl rfl rfl rfl Try.underlying9 rfl ?_
    refine x_gtr _ rfl rfl rfl rfl rfl rfl ?_
    refine x_pickF rfl rfl rfl rfl rfl ?_
    refine x_move rfl rfl rfl rfl ?_
    refine Ex.split 25 rfl (fun hsp2 => ?_) (fun hsp2 => ?_)
    ·
      try simp only [decide_eq_true_eq, decide_eq_false_iff_not, Bool.not_eq_true', Bool.not_eq_false', beq_iff_eq, bne_iff_ne, ne_eq, Bool.not_eq_eq_eq_not, Bool.not_true, Bool.not_false, beq_eq_false_iff_ne, bne_eq_false_iff_eq, Bool.not_not, gt_iff_lt, ge_iff_le] at hsp2
      refine Ex.skip_ rfl rfl rfl ?_
      refine Ex.skip_ rfl rfl rfl ?_
      refine Ex.skip_ rfl rfl rfl ?_
      refine x_pickT rfl rfl rfl rfl rfl ?_
      refine Ex.done (hK _ _ ?_)
      refine At.then_n ?_
      refine W.condT rfl ?_
      refine W.seq ?_
      refine W.sub [] trivial ?_
      refine W.reg [(0, true), (1, false)] (by kernel_rfl) ?_
      intro K hK
      refine x_call rfl rfl rfl rfl rfl en11 (lives16_c) ?_
      rintro r_ wcall3 ⟨rfl, hncall3⟩
      have M := M.new hncall3
      refine ⟨trivial, ?_⟩
      refine x_assign rfl rfl rfl rfl ?_
      refine Ex.done (hK _ _ ?_)
      refine At.then_n ?_
      refine W.ret ?_
      refine At.then_r ?_
      refine At.ret1 (.tmp 6) rfl ⟨rfl, trivial⟩ ?_
      exact ⟨rfl, M.frm⟩
    ·
      try simp only [decide_eq_true_eq, decide_eq_false_iff_not, Bool.not_eq_true', Bool.not_eq_false', beq_iff_eq, bne_iff_ne, ne_eq, Bool.not_eq_eq_eq_not, Bool.not_true, Bool.not_false, beq_eq_false_iff_ne, bne_eq_false_iff_eq, Bool.not_not, gt_iff_lt, ge_iff_le] at hsp2
      refine x_move rfl rfl rfl rfl ?_
      refine x_lenS rfl rfl rfl rfl Try.underlying9 rfl ?_
      refine x_gtr _ rfl rfl rfl rfl rfl rfl ?_
      refine x_pickF rfl rfl rfl rfl rfl ?_
      refine Ex.done (hK _ _ ?_)
      refine At.then_n ?_
      refine W.cond rfl (fun hco3 => ?_) (fun hco3 => ?_)
      · try simp only [decide_eq_true_eq, decide_eq_false_iff_not, Bool.not_eq_true', Bool.not_eq_false', beq_iff_eq, bne_iff_ne, ne_eq, Bool.not_eq_eq_eq_not, Bool.not_true, Bool.not_false, beq_eq_false_iff_ne, bne_eq_false_iff_eq, Bool.not_not, gt_iff_lt, ge_iff_le] at hco3
        refine W.seq ?_
        refine W.sub [] trivial ?_
        refine W.reg [(0, true), (1, false)] (by kernel_rfl) ?_
        intro K hK
        refine x_call rfl rfl rfl rfl rfl en11 (lives16_c) ?_
        rintro r_ wcall4 ⟨rfl, hncall4⟩
        have M := M.new hncall4
        refine ⟨trivial, ?_⟩
        refine x_assign rfl rfl rfl rfl ?_
        refine Ex.done (hK _ _ ?_)
        refine At.then_n ?_
        refine W.ret ?_
        refine At.then_r ?_
        refine At.ret1 (.tmp 6) rfl ⟨rfl, trivial⟩ ?_
        exact ⟨rfl, M.frm⟩
      · try simp only [decide_eq_true_eq, decide_eq_false_iff_not, Bool.not_eq_true', Bool.not_eq_false', beq_iff_eq, bne_iff_ne, ne_eq, Bool.not_eq_eq_eq_not, Bool.not_true, Bool.not_false, beq_eq_false_iff_ne, bne_eq_false_iff_eq, Bool.not_not, gt_iff_lt, ge_iff_le] at hco3
        refine W.skip ?_
        refine At.then_n ?_
        refine W.seq ?_
        refine W.sub [(0, _), (1, _), (2, _)] ⟨rfl, rfl, rfl, trivial⟩ ?_
        refine W.reg [(0, false), (1, true), (2, false)] (by kernel_rfl) ?_
        intro K hK
        refine x_move rfl rfl rfl rfl ?_
        refine x_call rfl rfl rfl rfl rfl en17 (done_c (h.new M.frm) hl) ?_
        rintro r_ wcall5 ⟨bt, E, k, rfl, hR, Mcall5⟩
        have M := M.grow' Mcall5
        refine ⟨trivial, ?_⟩
        refine x_assign rfl rfl rfl rfl ?_
        refine Ex.done (hK _ _ ?_)
        refine At.then_n ?_
        refine W.seq ?_
        refine W.seq ?_
        refine W.sub [(1, _), (2, _), (7, _)] ⟨rfl, rfl, rfl, trivial⟩ ?_
        refine W.reg [(0, false), (1, false)] (by kernel_rfl) ?_
        intro K hK
        refine x_move rfl rfl rfl rfl ?_
        refine x_eqpn false rfl rfl rfl Try.underlying27 rfl rfl rfl ?_
        refine Ex.done (hK _ _ ?_)
        refine At.then_n ?_
        refine W.condF rfl ?_
        refine W.skip ?_
        refine At.then_n ?_
        refine W.seq ?_
        refine W.sub [(1, _), (2, _), (7, _)] ⟨rfl, rfl, rfl, trivial⟩ ?_
        refine W.reg [(0, false), (1, true), (2, false)] (by kernel_rfl) ?_
        intro K hK
        refine x_move rfl rfl rfl rfl ?_
        refine x_call rfl rfl rfl rfl rfl en15 (files_r M hR) ?_
        rintro r_ w6 ⟨L6, hl6, M⟩
        rw [List.nil_append] at M
        obtain ⟨p6, c6, rfl⟩ := (filesO_get hl6 (fun x hx => M.get (by simp [hx]))).shape
        have hk128 := hR.le
        refine ⟨trivial, ?_⟩
        refine x_assign rfl rfl rfl rfl ?_
        refine Ex.done (hK _ _ ?_)
        refine At.then_n ?_
        refine W.seq ?_
        refine W.seq ?_
        refine W.sub [(1, _), (2, _), (7, _), (8, _)] ⟨rfl, rfl, rfl, rfl, trivial⟩ ?_
        refine W.reg [(0, false), (1, false), (2, false), (3, true), (4, false)] (by kernel_rfl) ?_
        intro K hK
        refine x_move rfl rfl rfl rfl ?_
        refine x_move rfl rfl rfl rfl ?_
        refine x_move rfl rfl rfl rfl ?_
        refine x_call rfl rfl rfl rfl rfl en22 (rename_r (x := x) (y := y) M hR) ?_
        rintro r_ w7 ⟨E7, rfl, h7, M⟩
        refine ⟨trivial, ?_⟩
        refine x_assign rfl rfl rfl rfl ?_
        refine Ex.done (hK _ _ ?_)
        refine At.then_n ?_
        refine W.seq ?_
        refine W.sub [(1, _), (2, _), (7, _), (8, _), (9, _)] ⟨rfl, rfl, rfl, rfl, rfl, trivial⟩ ?_
        refine W.reg [(0, false), (1, false), (2, false), (3, false), (4, false), (5, false), (6, false)] (by kernel_rfl) ?_
        intro K hK
        refine x_move rfl rfl rfl rfl ?_
        refine x_nei _ rfl rfl rfl rfl rfl rfl ?_
        refine x_move rfl rfl rfl rfl ?_
        refine Ex.split 43 rfl (fun hsp3 => ?_) (fun hsp3 => ?_)
        ·
          try simp only [decide_eq_true_eq, decide_eq_false_iff_not, Bool.not_eq_true', Bool.not_eq_false', beq_iff_eq, bne_iff_ne, ne_eq, Bool.not_eq_eq_eq_not, Bool.not_true, Bool.not_false, beq_eq_false_iff_ne, bne_eq_false_iff_eq, Bool.not_not, gt_iff_lt, ge_iff_le] at hsp3
          refine Ex.skip_ rfl rfl rfl ?_
          refine Ex.skip_ rfl rfl rfl ?_
          refine Ex.skip_ rfl rfl rfl ?_
          refine x_pickT rfl rfl rfl rfl rfl ?_
          refine Ex.done (hK _ _ ?_)
          refine At.then_n ?_
          refine W.condT rfl ?_
          refine W.seq ?_
          refine W.sub [(7, _), (8, _)] ⟨rfl, rfl, trivial⟩ ?_
          refine W.reg [(0, false), (1, true), (2, false), (3, true), (4, false), (5, true), (6, false), (7, false)] (by kernel_rfl) ?_
          intro K hK
          refine x_move rfl rfl rfl rfl ?_
          refine x_call rfl rfl rfl rfl rfl en15 (files_r M h7) ?_
          rintro r_ w8 ⟨Lq, hlq, M⟩
          refine ⟨trivial, ?_⟩
          refine x_move rfl rfl rfl rfl ?_
          refine x_call rfl rfl rfl rfl rfl en14 (fsame_c (filesO_get hlq (fun x hx => M.get (by simp [hx]))) (filesO_get hl6 (fun x hx => M.get (by simp [hx]))) (by have := h7.le; omega)) ?_
          rintro r_ w9 ⟨rfl, hn9⟩
          have M := M.new hn9
          rw [decide_eq_true (renameL_bad hsp3)]
          refine ⟨trivial, ?_⟩
          refine x_move rfl rfl rfl rfl ?_
          refine x_call rfl rfl rfl rfl rfl en11 (lives16_c) ?_
          rintro r_ wcall10 ⟨rfl, hncall10⟩
          have M := M.new hncall10
          refine ⟨trivial, ?_⟩
          refine x_pickT rfl rfl rfl rfl rfl ?_
          refine x_assign rfl rfl rfl rfl ?_
          refine Ex.done (hK _ _ ?_)
          refine At.then_n ?_
          refine W.ret ?_
          refine At.then_r ?_
          refine At.ret1 (.tmp 6) rfl ⟨rfl, trivial⟩ ?_
          exact ⟨rfl, M.frm⟩
        ·
          try simp only [decide_eq_true_eq, decide_eq_false_iff_not, Bool.not_eq_true', Bool.not_eq_false', beq_iff_eq, bne_iff_ne, ne_eq, Bool.not_eq_eq_eq_not, Bool.not_true, Bool.not_false, beq_eq_false_iff_ne, bne_eq_false_iff_eq, Bool.not_not, gt_iff_lt, ge_iff_le] at hsp3
          refine x_move rfl rfl rfl rfl ?_
          refine x_move rfl rfl rfl rfl ?_
          refine x_eqS _ rfl rfl rfl rfl rfl rfl ?_
          refine x_pickF rfl rfl rfl rfl rfl ?_
          refine Ex.done (hK _ _ ?_)
          refine At.then_n ?_
          refine W.cond rfl (fun hco6 => ?_) (fun hco6 => ?_)
          · try simp only [decide_eq_true_eq, decide_eq_false_iff_not, Bool.not_eq_true', Bool.not_eq_false', beq_iff_eq, bne_iff_ne, ne_eq, Bool.not_eq_eq_eq_not, Bool.not_true, Bool.not_false, beq_eq_false_iff_ne, bne_eq_false_iff_eq, Bool.not_not, gt_iff_lt, ge_iff_le] at hco6
            refine W.seq ?_
            refine W.sub [(7, _), (8, _)] ⟨rfl, rfl, trivial⟩ ?_
            refine W.reg [(0, false), (1, true), (2, false), (3, true), (4, false), (5, true), (6, false), (7, false)] (by kernel_rfl) ?_
            intro K hK
            refine x_move rfl rfl rfl rfl ?_
            refine x_call rfl rfl rfl rfl rfl en15 (files_r M h7) ?_
            rintro r_ w8 ⟨Lq, hlq, M⟩
            refine ⟨trivial, ?_⟩
            refine x_move rfl rfl rfl rfl ?_
            refine x_call rfl rfl rfl rfl rfl en14 (fsame_c (filesO_get hlq (fun x hx => M.get (by simp [hx]))) (filesO_get hl6 (fun x hx => M.get (by simp [hx]))) (by have := h7.le; omega)) ?_
            rintro r_ w9 ⟨rfl, hn9⟩
            have M := M.new hn9
            subst hco6
            rw [decide_eq_true (rename_same hsp3)]
            refine ⟨trivial, ?_⟩
            refine x_move rfl rfl rfl rfl ?_
            refine x_call rfl rfl rfl rfl rfl en11 (lives16_c) ?_
            rintro r_ wcall13 ⟨rfl, hncall13⟩
            have M := M.new hncall13
            refine ⟨trivial, ?_⟩
            refine x_pickT rfl rfl rfl rfl rfl ?_
            refine x_assign rfl rfl rfl rfl ?_
            refine Ex.done (hK _ _ ?_)
            refine At.then_n ?_
            refine W.ret ?_
            refine At.then_r ?_
            refine At.ret1 (.tmp 6) rfl ⟨rfl, trivial⟩ ?_
            exact ⟨rfl, M.frm⟩
          · try simp only [decide_eq_true_eq, decide_eq_false_iff_not, Bool.not_eq_true', Bool.not_eq_false', beq_iff_eq, bne_iff_ne, ne_eq, Bool.not_eq_eq_eq_not, Bool.not_true, Bool.not_false, beq_eq_false_iff_ne, bne_eq_false_iff_eq, Bool.not_not, gt_iff_lt, ge_iff_le] at hco6
            obtain ⟨m, hml⟩ := mv_ok hR hsp3 hco6
            rw [hml] at h7
            refine W.skip ?_
            refine At.then_n ?_
            refine W.seq ?_
            refine W.sub [(1, _), (2, _), (7, _), (8, _)] ⟨rfl, rfl, rfl, rfl, trivial⟩ ?_
            refine W.reg [(0, false), (1, false), (2, true), (3, false), (4, false), (5, false), (6, true), (7, true), (8, false)] (by kernel_rfl) ?_
            intro K hK
            refine x_move rfl rfl rfl rfl ?_
            refine x_move rfl rfl rfl rfl ?_
            refine x_call rfl rfl rfl rfl rfl en23 (find_r (p := x) M h7) ?_
            rintro r_ w14 ⟨dv, L14, rfl, hb14, M⟩
            obtain ⟨pdv, cdv, rfl⟩ := hb14.shape
            refine ⟨trivial, ?_⟩
            refine x_move rfl rfl rfl rfl ?_
            refine x_ext rfl rfl rfl rfl rfl ?_
            refine x_ext rfl rfl rfl rfl rfl ?_
            refine x_alloc [_, _, _] rfl rfl rfl ze25 rfl ?_
            intro bal1 wal1 hbal1 hwal1
            have M := M.acons hbal1 hwal1
            refine ⟨trivial, ?_⟩
            refine x_st [_, _, _] _ rfl rfl rfl sz25 rfl rfl rfl rfl (by first | exact M.at_ 0 rfl | exact M.at_ 1 rfl | exact M.at_ 2 rfl | exact M.at_ 3 rfl | exact M.at_ 4 rfl | exact M.at_ 5 rfl | exact M.at_ 6 rfl | exact M.at_ 7 rfl) rfl rfl rfl ?_
            intro wst1 hwst1
            have M := St.tail (M.put 0 rfl hwst1)
            refine ⟨trivial, ?_⟩
            refine x_assign rfl rfl rfl rfl ?_
            refine Ex.done (hK _ _ ?_)
            refine At.then_n ?_
            refine W.seq ?_
            refine W.sub [(1, _), (2, _), (7, _), (8, _), (11, _)] ⟨rfl, rfl, rfl, rfl, rfl, trivial⟩ ?_
            refine W.reg [(0, false), (1, true), (2, false)] (by kernel_rfl) ?_
            intro K hK
            refine x_move rfl rfl rfl rfl ?_
            refine x_call rfl rfl rfl rfl rfl en15 (files_r M h7) ?_
            rintro r_ w15 ⟨L15, hl15, M⟩
            obtain ⟨p15, c15, rfl⟩ := (filesO_get hl15 (fun x hx => M.get (by simp [hx]))).shape
            have M : Sep w0 (tb bt E7 ++ (L6 ++ (L14 ++ L15))) w15 := by simpa only [List.append_assoc] using M
            have M := St.cutR2 M
            refine ⟨trivial, ?_⟩
            refine x_assign rfl rfl rfl rfl ?_
            refine Ex.done (hK _ _ ?_)
            refine At.then_n ?_
            refine W.seq ?_
            refine W.seq ?_
            refine W.sub [(1, _), (2, _), (7, _), (8, _), (11, _), (12, _)] ⟨rfl, rfl, rfl, rfl, rfl, rfl, trivial⟩ ?_
            refine W.reg [(0, false), (1, false), (2, false), (3, false), (4, false), (5, false), (6, false), (7, false), (8, false)] (by kernel_rfl) ?_
            intro K hK
            refine x_move rfl rfl rfl rfl ?_
            refine x_eqi false rfl rfl rfl rfl rfl (beq_eq_false_iff_ne.2 (mv_lost hR m)) ?_
            refine x_move rfl rfl rfl rfl ?_
            refine x_move rfl rfl rfl rfl ?_
            refine x_len rfl rfl rfl rfl Try.underlying22 rfl ?_
            refine x_move rfl rfl rfl rfl ?_
            refine x_len rfl rfl rfl rfl Try.underlying22 rfl ?_
            refine x_nei false rfl rfl rfl rfl rfl (by rw [mv_len]; simp) ?_
            refine x_pickF rfl rfl rfl rfl rfl ?_
            refine Ex.done (hK _ _ ?_)
            refine At.then_n ?_
            refine W.condF rfl ?_
            refine W.skip ?_
            refine At.then_n ?_
            refine W.seq ?_
            refine W.seq ?_
            refine W.sub [(1, _), (2, _), (7, _), (8, _)] ⟨rfl, rfl, rfl, rfl, trivial⟩ ?_
            refine W.reg [(0, false)] (by kernel_rfl) ?_
            intro K hK
            refine x_assign rfl rfl rfl rfl ?_
            refine Ex.done (hK _ _ ?_)
            refine At.then_n ?_
            refine W.block ?_
            refine W.loop (σ := Nat) (fun i => [(1, _), (2, _), (7, _), (8, _), (13, .int .i64 ((i : Nat) : Int))]) (fun i w => i ≤ k.length ∧ Sep w0 (tb bt E7 ++ L6) w) (fun i => k.length - i) 0 ⟨rfl, rfl, rfl, rfl, rfl, trivial⟩ ⟨Nat.zero_le _, M⟩ ?_
            rintro i w ⟨hi, M⟩
            refine W.seq ?_
            refine W.seq ?_
            refine W.sub [(1, _), (2, _), (7, _), (8, _), (13, _)] ⟨rfl, rfl, rfl, rfl, rfl, trivial⟩ ?_
            refine W.reg [(0, false), (1, false), (2, false), (3, false)] (by kernel_rfl) ?_
            intro K hK
            refine x_move rfl rfl rfl rfl ?_
            refine x_move rfl rfl rfl rfl ?_
            refine x_len rfl rfl rfl rfl Try.underlying22 rfl ?_
            refine x_lss _ rfl rfl rfl rfl rfl rfl ?_
            refine Ex.done (hK _ _ ?_)
            refine At.then_n ?_
            refine W.cond rfl (fun hco8 => ?_) (fun hco8 => ?_)
            · try simp only [decide_eq_true_eq, decide_eq_false_iff_not, Bool.not_eq_true', Bool.not_eq_false', beq_iff_eq, bne_iff_ne, ne_eq, Bool.not_eq_eq_eq_not, Bool.not_true, Bool.not_false, beq_eq_false_iff_ne, bne_eq_false_iff_eq, Bool.not_not, gt_iff_lt, ge_iff_le] at hco8
              obtain ⟨f, hf⟩ := get_lt (l := k) (q := i) (by omega)
              have hfm := List.mem_of_getElem? hf
              have hfa := filesO_get hl6 (fun x hx => M.get (by simp [hx]))
              obtain ⟨bb, off, rfl, _⟩ := hfa.blk (j := i) (by omega)
              obtain ⟨_, _, hrow, _⟩ := hfa.row hf
              have hfl := hR.names f hfm
              refine W.skip ?_
              refine At.then_n ?_
              refine W.seq ?_
              refine W.block ?_
              refine W.seq ?_
              refine W.sub [(1, _), (2, _), (7, _), (8, _), (13, _)] ⟨rfl, rfl, rfl, rfl, rfl, trivial⟩ ?_
              refine W.reg [(0, false), (1, false), (2, false), (3, false), (4, false), (5, false)] (by kernel_rfl) ?_
              intro K hK
              refine x_move rfl rfl rfl rfl ?_
              refine x_move rfl rfl rfl rfl ?_
              refine x_ia i rfl rfl rfl Try.underlying22 sz25 rfl rfl rfl (by omega) ?_
              refine x_fa rfl rfl rfl fo25_0 rfl ?_
              refine x_ld rfl rfl rfl Try.underlying9 rfl rfl (RowAt.cell hrow (j := 0) rfl) ?_
              refine x_assign rfl rfl rfl rfl ?_
              refine Ex.done (hK _ _ ?_)
              refine At.then_n ?_
              refine W.sub [(1, _), (2, _), (7, _), (8, _), (13, _), (14, _)] ⟨rfl, rfl, rfl, rfl, rfl, rfl, trivial⟩ ?_
              refine W.seqC (fun F' w' => F' = [(1, strV x), (2, strV y), (7, ptr bt), (8, .slice (some ⟨bb, off, none⟩) k.length c6), (13, .int .i64 ((i : Nat) : Int)), (14, strV (mvN x y f).1)] ∧ Sep w0 (tb bt E7 ++ L6) w') ?_ ?_
              · refine W.seq ?_
                refine W.sub [(1, _), (2, _), (7, _), (8, _), (13, _), (14, _)] ⟨rfl, rfl, rfl, rfl, rfl, rfl, trivial⟩ ?_
                refine W.reg [(0, false), (1, false), (2, true)] (by kernel_rfl) ?_
                intro K hK
                refine x_move rfl rfl rfl rfl ?_
                refine x_move rfl rfl rfl rfl ?_
                refine x_call rfl rfl rfl rfl rfl en18 (runder_c) ?_
                rintro r wcall16 ⟨rfl, hncall16⟩
                have M := M.new hncall16
                refine ⟨trivial, ?_⟩
                refine Ex.done (hK _ _ ?_)
                refine At.then_n ?_
                refine W.cond rfl (fun hco9 => ?_) (fun hco9 => ?_)
                · try simp only [decide_eq_true_eq, decide_eq_false_iff_not, Bool.not_eq_true', Bool.not_eq_false', beq_iff_eq, bne_iff_ne, ne_eq, Bool.not_eq_eq_eq_not, Bool.not_true, Bool.not_false, beq_eq_false_iff_ne, bne_eq_false_iff_eq, Bool.not_not, gt_iff_lt, ge_iff_le] at hco9
                  have hul := under_len hco9
                  have hmv : (mvN x y f).1 = y ++ f.1.drop x.length := by unfold mvN; rw [if_pos hco9]
                  refine W.sub [(1, _), (2, _), (7, _), (8, _), (13, _), (14, _)] ⟨rfl, rfl, rfl, rfl, rfl, rfl, trivial⟩ ?_
                  refine W.reg [(0, false), (1, false), (2, false), (3, false), (4, false), (5, false), (6, false)] (by kernel_rfl) ?_
                  intro K hK
                  refine x_move rfl rfl rfl rfl ?_
                  refine x_move rfl rfl rfl rfl ?_
                  refine x_move rfl rfl rfl rfl ?_
                  refine x_lenS rfl rfl rfl rfl Try.underlying9 rfl ?_
                  refine x_sslS x.length rfl rfl rfl Try.underlying9 rfl rfl rfl (by omega) ?_
                  refine x_catS rfl rfl rfl rfl rfl (by simp; omega) ?_
                  refine x_assign rfl rfl rfl rfl ?_
                  refine Ex.done (hK _ _ ?_)
                  refine At.sub [(1, _), (2, _), (7, _), (8, _), (13, _), (14, _)] ⟨rfl, rfl, rfl, rfl, rfl, rfl, trivial⟩ ?_
                  refine At.cut_n ?_
                  exact ⟨by rw [hmv], M⟩
                · try simp only [decide_eq_true_eq, decide_eq_false_iff_not, Bool.not_eq_true', Bool.not_eq_false', beq_iff_eq, bne_iff_ne, ne_eq, Bool.not_eq_eq_eq_not, Bool.not_true, Bool.not_false, beq_eq_false_iff_ne, bne_eq_false_iff_eq, Bool.not_not, gt_iff_lt, ge_iff_le] at hco9
                  have hmv : (mvN x y f).1 = f.1 := by unfold mvN; rw [if_neg (by simp [hco9])]
                  refine W.skip ?_
                  refine At.sub [(1, _), (2, _), (7, _), (8, _), (13, _), (14, _)] ⟨rfl, rfl, rfl, rfl, rfl, rfl, trivial⟩ ?_
                  refine At.cut_n ?_
                  exact ⟨by rw [hmv], M⟩
              rintro F1 wc ⟨rfl, M⟩
              have hfd := mv_find h7 hfm
              have hsn := mvN_snd x y f
              refine W.seq ?_
              refine W.sub [(1, _), (2, _), (7, _), (8, _), (13, _), (14, _)] ⟨rfl, rfl, rfl, rfl, rfl, rfl, trivial⟩ ?_
              refine W.reg [(0, false), (1, false), (2, true), (3, false), (4, false), (5, false), (6, true), (7, true), (8, false)] (by kernel_rfl) ?_
              intro K hK
              refine x_move rfl rfl rfl rfl ?_
              refine x_move rfl rfl rfl rfl ?_
              refine x_call rfl rfl rfl rfl rfl en23 (find_r (p := (mvN x y f).1) M h7) ?_
              rintro r_ w17 ⟨dv, L17, rfl, hb17, M⟩
              rw [hfd] at hb17 ⊢
              obtain ⟨pdv, cdv, rfl⟩ := hb17.shape
              refine ⟨trivial, ?_⟩
              refine x_move rfl rfl rfl rfl ?_
              refine x_ext rfl rfl rfl rfl rfl ?_
              refine x_ext rfl rfl rfl rfl rfl ?_
              refine x_alloc [_, _, _] rfl rfl rfl ze25 rfl ?_
              intro bal2 wal2 hbal2 hwal2
              have M := M.acons hbal2 hwal2
              refine ⟨trivial, ?_⟩
              refine x_st [_, _, _] _ rfl rfl rfl sz25 rfl rfl rfl rfl (by first | exact M.at_ 0 rfl | exact M.at_ 1 rfl | exact M.at_ 2 rfl | exact M.at_ 3 rfl | exact M.at_ 4 rfl | exact M.at_ 5 rfl | exact M.at_ 6 rfl | exact M.at_ 7 rfl) rfl rfl rfl ?_
              intro wst2 hwst2
              have M := by first | exact M.put 0 rfl hwst2 | exact M.put 1 rfl hwst2 | exact M.put 2 rfl hwst2 | exact M.put 3 rfl hwst2 | exact M.put 4 rfl hwst2 | exact M.put 5 rfl hwst2 | exact M.put 6 rfl hwst2 | exact M.put 7 rfl hwst2
              refine ⟨trivial, ?_⟩
              refine x_assign rfl rfl rfl rfl ?_
              refine Ex.done (hK _ _ ?_)
              refine At.then_n ?_
              refine W.seq ?_
              refine W.sub [(1, _), (2, _), (7, _), (8, _), (13, _), (14, _), (15, _), (16, _)] ⟨rfl, rfl, rfl, rfl, rfl, rfl, rfl, rfl, trivial⟩ ?_
              refine W.regD (by kernel_rfl) #[0, 1, 3, 7, 15, 7, 63, 127, 255, 511, 1023, 511, 511, 6655, 14847, 31231, 65535, 131071, 262143, 524287, 1048575, 2097151, 524287, 524287, 13107199, 29884415, 63438847, 130547711, 268435455, 536870911] [(0, false), (1, false), (2, false), (3, false), (4, false), (5, false), (6, false), (7, false), (8, false), (9, false), (10, false), (11, false), (12, false), (13, false), (14, false), (15, false), (16, false), (17, false), (18, false), (19, false), (20, false), (21, false), (22, false), (23, false), (24, false), (25, false), (26, false), (27, false), (28, false), (29, false)] (by kernel_rfl) ?_
              intro K wD1 hK hwD1
              have M := M.drew hwD1
              obtain ⟨pf, cf, hrow, hbf⟩ := (filesO_get hl6 (fun x hx => M.get (by simp [hx]))).row hf
              refine x_move rfl rfl rfl rfl ?_
              refine x_nei false rfl rfl rfl rfl rfl rfl ?_
              refine x_move rfl rfl rfl rfl ?_
              refine x_fa rfl rfl rfl fo25_0 rfl ?_
              refine x_ld rfl rfl rfl Try.underlying9 rfl rfl (cell_of (by first | exact M.at_ 0 rfl | exact M.at_ 1 rfl | exact M.at_ 2 rfl | exact M.at_ 3 rfl | exact M.at_ 4 rfl | exact M.at_ 5 rfl | exact M.at_ 6 rfl | exact M.at_ 7 rfl) rfl) ?_
              refine x_move rfl rfl rfl rfl ?_
              refine x_neS false rfl rfl rfl rfl rfl (by simp) ?_
              refine x_pickF rfl rfl rfl rfl rfl ?_
              refine x_move rfl rfl rfl rfl ?_
              refine x_fa rfl rfl rfl fo25_1 rfl ?_
              refine x_ld rfl rfl rfl Try.underlying4 rfl rfl (cell_of (by first | exact M.at_ 0 rfl | exact M.at_ 1 rfl | exact M.at_ 2 rfl | exact M.at_ 3 rfl | exact M.at_ 4 rfl | exact M.at_ 5 rfl | exact M.at_ 6 rfl | exact M.at_ 7 rfl) rfl) ?_
              refine x_move rfl rfl rfl rfl ?_
              refine x_move rfl rfl rfl rfl ?_
              refine x_ia i rfl rfl rfl Try.underlying22 sz25 rfl rfl rfl (by omega) ?_
              refine x_fa rfl rfl rfl fo25_1 rfl ?_
              refine x_ld rfl rfl rfl Try.underlying4 rfl rfl (RowAt.cell hrow (j := 1) rfl) ?_
              refine x_neb false rfl rfl rfl Try.underlying4 rfl rfl (by simp [hsn]) ?_
              refine x_pickF rfl rfl rfl rfl rfl ?_
              refine x_move rfl rfl rfl rfl ?_
              refine x_fa rfl rfl rfl fo25_2 rfl ?_
              refine x_ld rfl rfl rfl Try.underlying23 rfl rfl (cell_of (by first | exact M.at_ 0 rfl | exact M.at_ 1 rfl | exact M.at_ 2 rfl | exact M.at_ 3 rfl | exact M.at_ 4 rfl | exact M.at_ 5 rfl | exact M.at_ 6 rfl | exact M.at_ 7 rfl) rfl) ?_
              refine x_cvbs _ rfl rfl rfl Try.underlying23 Try.underlying5 Try.underlying9 rfl (strOf_bytes (bytesO_get hb17 (fun x hx => M.get (by simp [hx])))) ?_
              refine x_move rfl rfl rfl rfl ?_
              refine x_move rfl rfl rfl rfl ?_
              refine x_ia i rfl rfl rfl Try.underlying22 sz25 rfl rfl rfl (by omega) ?_
              refine x_fa rfl rfl rfl fo25_2 rfl ?_
              refine x_ld rfl rfl rfl Try.underlying23 rfl rfl (RowAt.cell hrow (j := 2) rfl) ?_
              refine x_cvbs _ rfl rfl rfl Try.underlying23 Try.underlying5 Try.underlying9 rfl (strOf_bytes hbf) ?_
              refine x_neS false rfl rfl rfl rfl rfl (by simp [hsn]) ?_
              refine x_pickF rfl rfl rfl rfl rfl ?_
              refine Ex.done (hK _ _ ?_)
              refine At.then_n ?_
              refine W.condF rfl ?_
              refine W.skip ?_
              refine At.blk_n ?_
              refine At.then_n ?_
              refine W.sub [(1, _), (2, _), (7, _), (8, _), (13, _)] ⟨rfl, rfl, rfl, rfl, rfl, trivial⟩ ?_
              refine W.reg [(0, false), (1, false), (2, false)] (by kernel_rfl) ?_
              intro K hK
              refine x_move rfl rfl rfl rfl ?_
              refine x_add _ rfl rfl rfl rfl rfl (wadd (by omega) (by omega)) ?_
              refine x_assign rfl rfl rfl rfl ?_
              refine Ex.done (hK _ _ ?_)
              exact At.back (i + 1) ⟨rfl, rfl, rfl, rfl, rfl, trivial⟩ ⟨by omega, St.cutR2 (St.tail (x := (bal2, _)) M)⟩ (by first | omega | (simp only; omega) | (simp; done) | (simp; omega))
            · try simp only [decide_eq_true_eq, decide_eq_false_iff_not, Bool.not_eq_true', Bool.not_eq_false', beq_iff_eq, bne_iff_ne, ne_eq, Bool.not_eq_eq_eq_not, Bool.not_true, Bool.not_false, beq_eq_false_iff_ne, bne_eq_false_iff_eq, Bool.not_not, gt_iff_lt, ge_iff_le] at hco8
              refine W.exit ?_
              refine At.then_x ?_
              refine At.loop_x ?_
              refine At.blk_x ?_
              refine At.then_n ?_
              refine W.seq ?_
              refine W.sub [(1, _), (2, _), (7, _), (8, _)] ⟨rfl, rfl, rfl, rfl, trivial⟩ ?_
              refine W.reg [(0, false), (1, false), (2, false), (3, true), (4, false), (5, false), (6, false), (7, true), (8, false), (9, true), (10, false), (11, false), (12, true), (13, false), (14, false)] (by kernel_rfl) ?_
              intro K hK
              refine x_move rfl rfl rfl rfl ?_
              refine x_move rfl rfl rfl rfl ?_
              refine x_move rfl rfl rfl rfl ?_
              refine x_call rfl rfl rfl rfl rfl en22 (rename_r (x := y) (y := x) M h7) ?_
              rintro r_ w18 ⟨E8, rfl, h8, M⟩
              rw [mv_return hR m h7] at h8 ⊢
              have h8 : TR E8 k := h8
              refine ⟨trivial, ?_⟩
              refine x_eqi true rfl rfl rfl rfl rfl rfl ?_
              refine x_move rfl rfl rfl rfl ?_
              refine x_move rfl rfl rfl rfl ?_
              refine x_call rfl rfl rfl rfl rfl en15 (files_r M h8) ?_
              rintro r_ w8 ⟨Lq, hlq, M⟩
              refine ⟨trivial, ?_⟩
              refine x_move rfl rfl rfl rfl ?_
              refine x_call rfl rfl rfl rfl rfl en14 (fsame_c (filesO_get hlq (fun x hx => M.get (by simp [hx]))) (filesO_get hl6 (fun x hx => M.get (by simp [hx]))) (by have := h8.le; omega)) ?_
              rintro r_ w9 ⟨rfl, hn9⟩
              have M := M.new hn9
              rw [decide_eq_true rfl]
              refine ⟨trivial, ?_⟩
              refine x_pickT rfl rfl rfl rfl rfl ?_
              refine x_move rfl rfl rfl rfl ?_
              refine x_call rfl rfl rfl rfl rfl en11 (lives16_c) ?_
              rintro r_ wcall21 ⟨rfl, hncall21⟩
              have M := M.new hncall21
              refine ⟨trivial, ?_⟩
              refine x_pickT rfl rfl rfl rfl rfl ?_
              refine x_assign rfl rfl rfl rfl ?_
              refine Ex.done (hK _ _ ?_)
              refine At.then_n ?_
              refine W.ret ?_
              refine At.ret1 (.tmp 6) rfl ⟨rfl, trivial⟩ ?_
              exact ⟨rfl, M.frm⟩
end Go.Proofs.Ytccfmfehfhfhhaa

namespace Go.Proofs.Ytccfmfehfhfhhaa
open Go Go.Fw Go.ChangeShapes Go.WideShapes Go.ChangeAt Go.RowKit
set_option linter.unusedVariables false
set_option linter.unusedSimpArgs false

theorem cInt : Try.prog.cellsOf 3 = 1 := by kernel_rfl
theorem cBool : Try.prog.cellsOf 4 = 1 := by kernel_rfl
theorem cBytes : Try.prog.cellsOf 23 = 1 := by kernel_rfl
theorem cByte : Try.prog.cellsOf 5 = 1 := by kernel_rfl
theorem cAct : Try.prog.cellsOf 43 = 4 := by kernel_rfl
theorem cFile : Try.prog.cellsOf 25 = 3 := by kernel_rfl
section
variable {H : Type} {enc : TypeId × Value → H} {W : World} {sp : Nat → Bool}
abbrev ActV := Int × List UInt8 × List UInt8 × (Value × List UInt8)
abbrev FileV := List UInt8 × Bool × (Value × List UInt8)
def actE (a : ActV) : List Value := [.int .i64 a.1, strV a.2.1, strV a.2.2.1, a.2.2.2.1]
def fileE (a : FileV) : List Value := [strV a.1, .bool a.2.1, a.2.2.1]
def toAc (a : ActV) : Ac := ⟨a.1, a.2.1, a.2.2.1, a.2.2.2.2⟩
def toRaw (a : FileV) : Raw := (a.1, a.2.1, a.2.2.2)
theorem rd_bytes16 : Rd enc Try.prog W sp 23 (fun a : Value × List UInt8 => [a.1]) (fun a d => BytesAt W a.1 a.2 ∧ a.2.length ≤ maxLen ∧ ((d = .nil ∧ a.2 = []) ∨ ∃ ds rest, d = .slice ds rest ∧ ds.length = a.2.length)) := rd_bytes Try.underlying23 Try.underlying5 cByte
theorem rd_act : Rd enc Try.prog W sp 43 actE (fun a d => BytesAt W a.2.2.2.1 a.2.2.2.2) := fun fuel cs x h => by
  obtain ⟨a, h1, d0, d1, d2, d3, _, _, _, _, h2⟩ := rd_struct4 (R0 := _) (R1 := _) (R2 := _) (R3 := _) Try.underlying43 cAct ⟨rfl, cInt⟩ ⟨rfl, cStr⟩ ⟨rfl, cStr⟩ ⟨rfl, cBytes⟩ (rd_int Try.underlying3) (rd_string Try.underlying9) (rd_string Try.underlying9) rd_bytes16 fuel cs x h
  exact ⟨a, h1, h2.1⟩
theorem bulk_pos (d : DataW H) : 1 ≤ Rows.uptoBulk d := by
  cases d with
  | lit l => cases l <;> simp [Rows.uptoBulk]
  | _ => simp [Rows.uptoBulk]
theorem bulk_len : ∀ ds : List (DataW H), ds.length ≤ Rows.uptoBulkAll ds
  | [] => Nat.zero_le _
  | d :: ds => by
    have h1 := bulk_pos d
    have h2 := bulk_len ds
    simp only [Rows.uptoBulkAll, List.length_cons]
    omega
theorem bulk_mem {d : DataW H} : ∀ {ds : List (DataW H)}, d ∈ ds → Rows.uptoBulk d ≤ Rows.uptoBulkAll ds
  | e :: ds, h => by
    simp only [Rows.uptoBulkAll]
    rcases List.mem_cons.1 h with rfl | h
    · omega
    · have := bulk_mem h
      omega
theorem rd_file : Rd enc Try.prog W sp 25 fileE (fun a d => BytesAt W a.2.2.1 a.2.2.2 ∧ a.2.2.2.length ≤ Rows.uptoBulk d) := fun fuel cs x h => by
  obtain ⟨a, h1, d0, d1, d2, hd, _, _, h2⟩ := rd_struct3 (R0 := _) (R1 := _) (R2 := _) Try.underlying25 cFile ⟨rfl, cStr⟩ ⟨rfl, cBool⟩ ⟨rfl, cBytes⟩ (rd_string Try.underlying9) (rd_bool Try.underlying4) rd_bytes16 fuel cs x h
  refine ⟨a, h1, h2.1, ?_⟩
  rw [hd]
  have h5 : Rows.uptoBulk d2 ≤ Rows.uptoBulkAll [d0, d1, d2] := bulk_mem (by simp)
  simp only [Rows.uptoBulk]
  rcases h2.2.2 with ⟨h3, h4⟩ | ⟨ds, rest, h3, h4⟩
  · rw [h4]; exact Nat.zero_le _
  · rw [← h4]
    have h6 : Rows.uptoBulk d2 = Rows.uptoBulkAll ds + Rows.uptoBulkAll rest + 1 := by rw [h3]; simp only [Rows.uptoBulk]
    have := bulk_len ds
    omega
theorem acts_of {R : ActV → DataW H → Prop} (hR : ∀ a d, R a d → BytesAt W a.2.2.2.1 a.2.2.2.2) {v : Value} {l : List ActV} {d : DataW H} (h : SlR W 4 actE R (v, l) d) : ActsAt W v (l.map toAc) := by
  obtain ⟨h1, _, h3, _⟩ := h
  refine ⟨l.map fun a => (toAc a, a.2.2.2.1), by simp, ?_, fun f hf => ?_⟩
  · have e : (l.map fun a => (toAc a, a.2.2.2.1)).flatMap aC = l.flatMap actE := by rw [List.flatMap_map]; rfl
    rw [e, List.length_map]; exact h1
  · obtain ⟨a, ha, rfl⟩ := List.mem_map.1 hf
    obtain ⟨_, d', hd⟩ := h3 a ha
    exact hR a d' hd
theorem files_bulk {v : Value} {l : List FileV} {d : DataW H} (h : SlR W 3 fileE (fun a d => BytesAt W a.2.2.1 a.2.2.2 ∧ a.2.2.2.length ≤ Rows.uptoBulk d) (v, l) d) (hb : Rows.uptoBulk d ≤ 1048576) : (l.map toRaw).length ≤ 1099511627776 ∧ ∀ x ∈ l.map toRaw, x.2.2.length ≤ 1099511627776 := by
  obtain ⟨_, _, h3, h4⟩ := h
  simp only at h3 h4
  rcases h4 with ⟨_, rfl⟩ | ⟨ds, rest, rfl, h5, h6⟩
  · simp
  · simp only [Rows.uptoBulk] at hb
    have h7 := bulk_len ds
    refine ⟨by rw [List.length_map]; omega, fun x hx => ?_⟩
    obtain ⟨a, ha, rfl⟩ := List.mem_map.1 hx
    obtain ⟨i, hi⟩ := List.mem_iff_getElem?.1 ha
    obtain ⟨d', hd⟩ := get_lt (l := ds) (q := i) (by have := (List.getElem?_eq_some_iff.1 hi).1; omega)
    have h8 := (h6 i a d' hi hd).2
    have h9 := bulk_mem (List.mem_of_getElem? hd)
    show a.2.2.2.length ≤ _
    omega
theorem files_of {R : FileV → DataW H → Prop} (hR : ∀ a d, R a d → BytesAt W a.2.2.1 a.2.2.2) {v : Value} {l : List FileV} {d : DataW H} (h : SlR W 3 fileE R (v, l) d) : FilesAt W v (l.map toRaw) := by
  obtain ⟨h1, _, h3, _⟩ := h
  refine ⟨l.map fun a => (toRaw a, a.2.2.1), by rw [List.map_map]; rfl, ?_, fun f hf => ?_⟩
  · have e : fCs (l.map fun a => (toRaw a, a.2.2.1)) = l.flatMap fileE := by unfold fCs; rw [List.flatMap_map]; rfl
    rw [e, List.length_map]; exact h1
  · obtain ⟨a, ha, rfl⟩ := List.mem_map.1 hf
    obtain ⟨_, d', hd⟩ := h3 a ha
    have hb := hR a d' hd
    obtain ⟨p, c, hs⟩ := hb.shape
    exact ⟨hb, by simp only; rw [hs]; rfl⟩
end
end Go.Proofs.Ytccfmfehfhfhhaa
