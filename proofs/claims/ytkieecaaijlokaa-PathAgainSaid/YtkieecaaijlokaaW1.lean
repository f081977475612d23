/-
  The walk of functions, by program: name, rname.
-/
import Derived.Test.YtkieecaaijlokaaTab
import Derived.Test.YtkieecaaijlokaaP1
namespace Go.Proofs.Ytkieecaaijlokaa
open Go Go.Fw Go.RowKit Go.Proofs
set_option linter.unusedVariables false
set_option linter.unusedSimpArgs false

-- valise/path.Name
set_option maxRecDepth 100000 in
theorem name_c {w0 : World} {s : List UInt8}  : Ret Try.prog 15 #[strV s] w0 fun r w' => r = .int .i64 (nameP s) ∧ New w0 w' := by
  have M : Sep w0 [] w0 := St.nil w0
  refine Ret.of_W Try.func15 rfl Try.ntmps15 rfl ?_
  refine W.seq ?_
  refine W.sub [(0, _)] ⟨rfl, trivial⟩ ?_
  refine W.reg [(0, false)] (by kernel_rfl) ?_ -- region 0
  intro K hK
  refine x_assign rfl rfl rfl rfl ?_
  refine Ex.done (hK _ _ ?_)
  refine At.then_n ?_
  refine W.seq ?_
  refine W.seq ?_
  refine W.sub [(0, _)] ⟨rfl, trivial⟩ ?_
  refine W.reg [(0, false), (1, false), (2, false), (3, false), (4, false), (5, false), (6, false), (7, false), (8, false), (9, false), (10, false), (11, false), (12, false), (13, false), (14, false), (15, false)] (by kernel_rfl) ?_ -- region 1
  intro K hK
  refine x_move rfl rfl rfl rfl ?_
  refine x_lenS rfl rfl rfl rfl Try.underlying9 rfl ?_
  refine x_lss _ rfl rfl rfl rfl rfl rfl ?_ -- cm1 path.go:12
  refine x_move rfl rfl rfl rfl ?_
  refine Ex.split 8 rfl (fun hsp1 => ?_) (fun hsp1 => ?_)
  · -- sp1 True
    try simp only [decide_eq_true_eq, decide_eq_false_iff_not, Bool.not_eq_true', Bool.not_eq_false', beq_iff_eq, bne_iff_ne, ne_eq, Bool.not_eq_eq_eq_not, Bool.not_true, Bool.not_false, beq_eq_false_iff_ne, bne_eq_false_iff_eq, Bool.not_not, gt_iff_lt, ge_iff_le] at hsp1
    refine Ex.skip_ rfl rfl rfl ?_
    refine Ex.skip_ rfl rfl rfl ?_
    refine Ex.skip_ rfl rfl rfl ?_
    refine x_pickT rfl rfl rfl rfl rfl ?_
    refine x_move rfl rfl rfl rfl ?_
    refine Ex.skip_ rfl rfl rfl ?_
    refine Ex.skip_ rfl rfl rfl ?_
    refine x_pickT rfl rfl rfl rfl rfl ?_
    refine x_move rfl rfl rfl rfl ?_
    refine Ex.skip_ rfl rfl rfl ?_
    refine Ex.skip_ rfl rfl rfl ?_
    refine x_pickT rfl rfl rfl rfl rfl ?_
    refine Ex.done (hK _ _ ?_)
    refine At.then_n ?_
    refine W.condT rfl ?_ -- co1
    refine W.seq ?_
    refine W.sub [] trivial ?_
    refine W.reg [(0, false)] (by kernel_rfl) ?_ -- region 2
    intro K hK
    refine x_assign rfl rfl rfl rfl ?_
    refine Ex.done (hK _ _ ?_)
    refine At.then_n ?_
    refine W.ret ?_
    refine At.then_r ?_
    refine At.ret1 (.tmp 2) rfl ⟨rfl, trivial⟩ ?_ -- ret1
    exact ⟨by rw [nameP, if_neg (fun h => by have := h.1; omega)], M.frm⟩
  · -- sp1 False
    try simp only [decide_eq_true_eq, decide_eq_false_iff_not, Bool.not_eq_true', Bool.not_eq_false', beq_iff_eq, bne_iff_ne, ne_eq, Bool.not_eq_eq_eq_not, Bool.not_true, Bool.not_false, beq_eq_false_iff_ne, bne_eq_false_iff_eq, Bool.not_not, gt_iff_lt, ge_iff_le] at hsp1
    refine x_move rfl rfl rfl rfl ?_
    refine x_lenS rfl rfl rfl rfl Try.underlying9 rfl ?_
    refine x_gtr _ rfl rfl rfl rfl rfl rfl ?_ -- cm2 path.go:12
    refine x_pickF rfl rfl rfl rfl rfl ?_
    refine x_move rfl rfl rfl rfl ?_
    refine Ex.split 13 rfl (fun hsp2 => ?_) (fun hsp2 => ?_)
    · -- sp2 True
      try simp only [decide_eq_true_eq, decide_eq_false_iff_not, Bool.not_eq_true', Bool.not_eq_false', beq_iff_eq, bne_iff_ne, ne_eq, Bool.not_eq_eq_eq_not, Bool.not_true, Bool.not_false, beq_eq_false_iff_ne, bne_eq_false_iff_eq, Bool.not_not, gt_iff_lt, ge_iff_le] at hsp2
      refine Ex.skip_ rfl rfl rfl ?_
      refine Ex.skip_ rfl rfl rfl ?_
      refine x_pickT rfl rfl rfl rfl rfl ?_
      refine x_move rfl rfl rfl rfl ?_
      refine Ex.skip_ rfl rfl rfl ?_
      refine Ex.skip_ rfl rfl rfl ?_
      refine x_pickT rfl rfl rfl rfl rfl ?_
      refine Ex.done (hK _ _ ?_)
      refine At.then_n ?_
      refine W.condT rfl ?_ -- co2
      refine W.seq ?_
      refine W.sub [] trivial ?_
      refine W.reg [(0, false)] (by kernel_rfl) ?_ -- region 2
      intro K hK
      refine x_assign rfl rfl rfl rfl ?_
      refine Ex.done (hK _ _ ?_)
      refine At.then_n ?_
      refine W.ret ?_
      refine At.then_r ?_
      refine At.ret1 (.tmp 2) rfl ⟨rfl, trivial⟩ ?_ -- ret2
      exact ⟨by rw [nameP, if_neg (fun h => by have := h.2.1; omega)], M.frm⟩
    · -- sp2 False
      try simp only [decide_eq_true_eq, decide_eq_false_iff_not, Bool.not_eq_true', Bool.not_eq_false', beq_iff_eq, bne_iff_ne, ne_eq, Bool.not_eq_eq_eq_not, Bool.not_true, Bool.not_false, beq_eq_false_iff_ne, bne_eq_false_iff_eq, Bool.not_not, gt_iff_lt, ge_iff_le] at hsp2
      refine x_move rfl rfl rfl rfl ?_
      refine x_eqS _ rfl rfl rfl rfl rfl rfl ?_ -- eq1 path.go:12
      refine x_pickF rfl rfl rfl rfl rfl ?_
      refine x_move rfl rfl rfl rfl ?_
      refine Ex.split 17 rfl (fun hsp3 => ?_) (fun hsp3 => ?_)
      · -- sp3 True
        try simp only [decide_eq_true_eq, decide_eq_false_iff_not, Bool.not_eq_true', Bool.not_eq_false', beq_iff_eq, bne_iff_ne, ne_eq, Bool.not_eq_eq_eq_not, Bool.not_true, Bool.not_false, beq_eq_false_iff_ne, bne_eq_false_iff_eq, Bool.not_not, gt_iff_lt, ge_iff_le] at hsp3
        refine Ex.skip_ rfl rfl rfl ?_
        refine Ex.skip_ rfl rfl rfl ?_
        refine x_pickT rfl rfl rfl rfl rfl ?_
        refine Ex.done (hK _ _ ?_)
        refine At.then_n ?_
        refine W.condT rfl ?_ -- co3
        refine W.seq ?_
        refine W.sub [] trivial ?_
        refine W.reg [(0, false)] (by kernel_rfl) ?_ -- region 2
        intro K hK
        refine x_assign rfl rfl rfl rfl ?_
        refine Ex.done (hK _ _ ?_)
        refine At.then_n ?_
        refine W.ret ?_
        refine At.then_r ?_
        refine At.ret1 (.tmp 2) rfl ⟨rfl, trivial⟩ ?_ -- ret3
        exact ⟨by rw [nameP, if_neg (fun h => h.2.2.1 hsp3)], M.frm⟩
      · -- sp3 False
        try simp only [decide_eq_true_eq, decide_eq_false_iff_not, Bool.not_eq_true', Bool.not_eq_false', beq_iff_eq, bne_iff_ne, ne_eq, Bool.not_eq_eq_eq_not, Bool.not_true, Bool.not_false, beq_eq_false_iff_ne, bne_eq_false_iff_eq, Bool.not_not, gt_iff_lt, ge_iff_le] at hsp3
        refine x_move rfl rfl rfl rfl ?_
        refine x_eqS _ rfl rfl rfl rfl rfl rfl ?_ -- eq2 path.go:12
        refine x_pickF rfl rfl rfl rfl rfl ?_
        refine Ex.done (hK _ _ ?_)
        refine At.then_n ?_
        refine W.cond rfl (fun hco4 => ?_) (fun hco4 => ?_) -- co4
        · try simp only [decide_eq_true_eq, decide_eq_false_iff_not, Bool.not_eq_true', Bool.not_eq_false', beq_iff_eq, bne_iff_ne, ne_eq, Bool.not_eq_eq_eq_not, Bool.not_true, Bool.not_false, beq_eq_false_iff_ne, bne_eq_false_iff_eq, Bool.not_not, gt_iff_lt, ge_iff_le] at hco4
          refine W.seq ?_
          refine W.sub [] trivial ?_
          refine W.reg [(0, false)] (by kernel_rfl) ?_ -- region 2
          intro K hK
          refine x_assign rfl rfl rfl rfl ?_
          refine Ex.done (hK _ _ ?_)
          refine At.then_n ?_
          refine W.ret ?_
          refine At.then_r ?_
          refine At.ret1 (.tmp 2) rfl ⟨rfl, trivial⟩ ?_ -- ret4
          exact ⟨by rw [nameP, if_neg (fun h => h.2.2.2.1 hco4)], M.frm⟩
        · try simp only [decide_eq_true_eq, decide_eq_false_iff_not, Bool.not_eq_true', Bool.not_eq_false', beq_iff_eq, bne_iff_ne, ne_eq, Bool.not_eq_eq_eq_not, Bool.not_true, Bool.not_false, beq_eq_false_iff_ne, bne_eq_false_iff_eq, Bool.not_not, gt_iff_lt, ge_iff_le] at hco4
          refine W.skip ?_
          refine At.then_n ?_
          refine W.seq ?_
          refine W.seq ?_
          refine W.sub [(0, _)] ⟨rfl, trivial⟩ ?_
          refine W.reg [(0, false), (1, true)] (by kernel_rfl) ?_ -- region 3
          intro K hK
          refine x_move rfl rfl rfl rfl ?_
          -- range1: path.go:15
          refine x_rngS rfl rfl rfl Try.underlying9 rfl ?_
          intro brange1 wrange1 hbrange1 hwrange1
          have M := M.acons hbrange1 hwrange1
          refine ⟨trivial, ?_⟩
          refine Ex.done (hK _ _ ?_)
          refine At.then_n ?_
          refine W.block ?_
          refine W.loop (σ := Nat) (fun q => [(22, _)]) (fun q w => q ≤ s.length ∧ (∀ (k : Nat) c, k < q → s[k]? = some c → nameC c) ∧ Sep w0 [(brange1, .stringIter (strB s) q)] w) (fun q => s.length - q) 0 ⟨rfl, trivial⟩ ⟨Nat.zero_le _, fun k c h => by omega, M⟩ ?_ -- loop1
          rintro q w ⟨hle, hall, M⟩
          refine W.seq ?_
          refine W.sub [(22, _)] ⟨rfl, trivial⟩ ?_
          refine W.reg [(0, true), (1, false)] (by kernel_rfl) ?_ -- region 4
          intro K hK
          -- next1: path.go:15
          refine x_nxtU rfl rfl rfl rfl (by first | exact M.at_ 0 rfl | exact M.at_ 1 rfl | exact M.at_ 2 rfl | exact M.at_ 3 rfl | exact M.at_ 4 rfl | exact M.at_ 5 rfl | exact M.at_ 6 rfl | exact M.at_ 7 rfl) ?_
          intro wnext1 hwnext1
          have M := by first | exact M.nxt 0 rfl hwnext1 | exact M.nxt 1 rfl hwnext1 | exact M.nxt 2 rfl hwnext1 | exact M.nxt 3 rfl hwnext1 | exact M.nxt 4 rfl hwnext1 | exact M.nxt 5 rfl hwnext1 | exact M.nxt 6 rfl hwnext1 | exact M.nxt 7 rfl hwnext1
          refine ⟨trivial, ?_⟩
          refine x_ext rfl rfl rfl rfl (nxt0 _ _) ?_ -- ex1
          refine Ex.done (hK _ _ ?_)
          refine At.then_n ?_
          refine W.seq ?_
          refine W.cond rfl (fun hco5 => ?_) (fun hco5 => ?_) -- co5
          · try simp only [decide_eq_true_eq, decide_eq_false_iff_not, Bool.not_eq_true', Bool.not_eq_false', beq_iff_eq, bne_iff_ne, ne_eq, Bool.not_eq_eq_eq_not, Bool.not_true, Bool.not_false, beq_eq_false_iff_ne, bne_eq_false_iff_eq, Bool.not_not, gt_iff_lt, ge_iff_le] at hco5
            obtain ⟨c, hc⟩ : ∃ c, s[q]? = some c := ⟨s[q], List.getElem?_eq_getElem hco5⟩
            have hr := rune_name hc
            refine W.skip ?_
            refine At.then_n ?_
            refine W.block ?_
            refine W.seq ?_
            refine W.sub [(22, _), (23, _)] ⟨rfl, rfl, trivial⟩ ?_
            refine W.reg [(0, false), (1, false)] (by kernel_rfl) ?_ -- region 5
            intro K hK
            refine x_ext rfl rfl rfl rfl (nxt2 (by assumption)) ?_ -- ex2
            refine x_assign rfl rfl rfl rfl ?_
            refine Ex.done (hK _ _ ?_)
            refine At.then_n ?_
            refine W.seq ?_
            refine W.sub [(4, _), (22, _)] ⟨rfl, rfl, trivial⟩ ?_
            refine W.reg [(0, false), (1, false), (2, false), (3, false), (4, false), (5, false), (6, false), (7, false), (8, false), (9, false), (10, false), (11, false), (12, false), (13, false)] (by kernel_rfl) ?_ -- region 6
            intro K hK
            refine x_move rfl rfl rfl rfl ?_
            refine x_lss _ rfl rfl rfl rfl rfl rfl ?_ -- cm3 path.go:16
            refine x_move rfl rfl rfl rfl ?_
            refine Ex.split 28 rfl (fun hsp4 => ?_) (fun hsp4 => ?_)
            · -- sp4 True
              try simp only [decide_eq_true_eq, decide_eq_false_iff_not, Bool.not_eq_true', Bool.not_eq_false', beq_iff_eq, bne_iff_ne, ne_eq, Bool.not_eq_eq_eq_not, Bool.not_true, Bool.not_false, beq_eq_false_iff_ne, bne_eq_false_iff_eq, Bool.not_not, gt_iff_lt, ge_iff_le] at hsp4
              refine Ex.skip_ rfl rfl rfl ?_
              refine Ex.skip_ rfl rfl rfl ?_
              refine x_pickT rfl rfl rfl rfl rfl ?_
              refine x_move rfl rfl rfl rfl ?_
              refine Ex.skip_ rfl rfl rfl ?_
              refine Ex.skip_ rfl rfl rfl ?_
              refine x_pickT rfl rfl rfl rfl rfl ?_
              refine x_move rfl rfl rfl rfl ?_
              refine Ex.skip_ rfl rfl rfl ?_
              refine Ex.skip_ rfl rfl rfl ?_
              refine x_pickT rfl rfl rfl rfl rfl ?_
              refine Ex.done (hK _ _ ?_)
              refine At.then_n ?_
              refine W.condT rfl ?_ -- co6
              refine W.seq ?_
              refine W.sub [] trivial ?_
              refine W.reg [(0, false)] (by kernel_rfl) ?_ -- region 7
              intro K hK
              refine x_assign rfl rfl rfl rfl ?_
              refine Ex.done (hK _ _ ?_)
              refine At.then_n ?_
              refine W.ret ?_
              refine At.blk_r ?_
              refine At.loop_r ?_
              refine At.blk_r ?_
              refine At.then_r ?_
              refine At.ret1 (.tmp 2) rfl ⟨rfl, trivial⟩ ?_ -- ret5
              exact ⟨by rw [nameP_bad hc (fun h => by have := hr.2 h; omega)], M.frm⟩
            · -- sp4 False
              try simp only [decide_eq_true_eq, decide_eq_false_iff_not, Bool.not_eq_true', Bool.not_eq_false', beq_iff_eq, bne_iff_ne, ne_eq, Bool.not_eq_eq_eq_not, Bool.not_true, Bool.not_false, beq_eq_false_iff_ne, bne_eq_false_iff_eq, Bool.not_not, gt_iff_lt, ge_iff_le] at hsp4
              refine x_move rfl rfl rfl rfl ?_
              refine x_gtr _ rfl rfl rfl rfl rfl rfl ?_ -- cm4 path.go:16
              refine x_pickF rfl rfl rfl rfl rfl ?_
              refine x_move rfl rfl rfl rfl ?_
              refine Ex.split 32 rfl (fun hsp5 => ?_) (fun hsp5 => ?_)
              · -- sp5 True
                try simp only [decide_eq_true_eq, decide_eq_false_iff_not, Bool.not_eq_true', Bool.not_eq_false', beq_iff_eq, bne_iff_ne, ne_eq, Bool.not_eq_eq_eq_not, Bool.not_true, Bool.not_false, beq_eq_false_iff_ne, bne_eq_false_iff_eq, Bool.not_not, gt_iff_lt, ge_iff_le] at hsp5
                refine Ex.skip_ rfl rfl rfl ?_
                refine Ex.skip_ rfl rfl rfl ?_
                refine x_pickT rfl rfl rfl rfl rfl ?_
                refine x_move rfl rfl rfl rfl ?_
                refine Ex.skip_ rfl rfl rfl ?_
                refine Ex.skip_ rfl rfl rfl ?_
                refine x_pickT rfl rfl rfl rfl rfl ?_
                refine Ex.done (hK _ _ ?_)
                refine At.then_n ?_
                refine W.condT rfl ?_ -- co7
                refine W.seq ?_
                refine W.sub [] trivial ?_
                refine W.reg [(0, false)] (by kernel_rfl) ?_ -- region 7
                intro K hK
                refine x_assign rfl rfl rfl rfl ?_
                refine Ex.done (hK _ _ ?_)
                refine At.then_n ?_
                refine W.ret ?_
                refine At.blk_r ?_
                refine At.loop_r ?_
                refine At.blk_r ?_
                refine At.then_r ?_
                refine At.ret1 (.tmp 2) rfl ⟨rfl, trivial⟩ ?_ -- ret6
                exact ⟨by rw [nameP_bad hc (fun h => by have := hr.2 h; omega)], M.frm⟩
              · -- sp5 False
                try simp only [decide_eq_true_eq, decide_eq_false_iff_not, Bool.not_eq_true', Bool.not_eq_false', beq_iff_eq, bne_iff_ne, ne_eq, Bool.not_eq_eq_eq_not, Bool.not_true, Bool.not_false, beq_eq_false_iff_ne, bne_eq_false_iff_eq, Bool.not_not, gt_iff_lt, ge_iff_le] at hsp5
                refine x_move rfl rfl rfl rfl ?_
                refine x_eqi _ rfl rfl rfl rfl rfl rfl ?_ -- eq3 path.go:16
                refine x_pickF rfl rfl rfl rfl rfl ?_
                refine x_move rfl rfl rfl rfl ?_
                refine Ex.split 36 rfl (fun hsp6 => ?_) (fun hsp6 => ?_)
                · -- sp6 True
                  try simp only [decide_eq_true_eq, decide_eq_false_iff_not, Bool.not_eq_true', Bool.not_eq_false', beq_iff_eq, bne_iff_ne, ne_eq, Bool.not_eq_eq_eq_not, Bool.not_true, Bool.not_false, beq_eq_false_iff_ne, bne_eq_false_iff_eq, Bool.not_not, gt_iff_lt, ge_iff_le] at hsp6
                  refine Ex.skip_ rfl rfl rfl ?_
                  refine Ex.skip_ rfl rfl rfl ?_
                  refine x_pickT rfl rfl rfl rfl rfl ?_
                  refine Ex.done (hK _ _ ?_)
                  refine At.then_n ?_
                  refine W.condT rfl ?_ -- co8
                  refine W.seq ?_
                  refine W.sub [] trivial ?_
                  refine W.reg [(0, false)] (by kernel_rfl) ?_ -- region 7
                  intro K hK
                  refine x_assign rfl rfl rfl rfl ?_
                  refine Ex.done (hK _ _ ?_)
                  refine At.then_n ?_
                  refine W.ret ?_
                  refine At.blk_r ?_
                  refine At.loop_r ?_
                  refine At.blk_r ?_
                  refine At.then_r ?_
                  refine At.ret1 (.tmp 2) rfl ⟨rfl, trivial⟩ ?_ -- ret7
                  exact ⟨by rw [nameP_bad hc (fun h => by have := hr.2 h; omega)], M.frm⟩
                · -- sp6 False
                  try simp only [decide_eq_true_eq, decide_eq_false_iff_not, Bool.not_eq_true', Bool.not_eq_false', beq_iff_eq, bne_iff_ne, ne_eq, Bool.not_eq_eq_eq_not, Bool.not_true, Bool.not_false, beq_eq_false_iff_ne, bne_eq_false_iff_eq, Bool.not_not, gt_iff_lt, ge_iff_le] at hsp6
                  refine x_move rfl rfl rfl rfl ?_
                  refine x_eqi _ rfl rfl rfl rfl rfl rfl ?_ -- eq4 path.go:16
                  refine x_pickF rfl rfl rfl rfl rfl ?_
                  refine Ex.done (hK _ _ ?_)
                  refine At.then_n ?_
                  refine W.cond rfl (fun hco9 => ?_) (fun hco9 => ?_) -- co9
                  · try simp only [decide_eq_true_eq, decide_eq_false_iff_not, Bool.not_eq_true', Bool.not_eq_false', beq_iff_eq, bne_iff_ne, ne_eq, Bool.not_eq_eq_eq_not, Bool.not_true, Bool.not_false, beq_eq_false_iff_ne, bne_eq_false_iff_eq, Bool.not_not, gt_iff_lt, ge_iff_le] at hco9
                    refine W.seq ?_
                    refine W.sub [] trivial ?_
                    refine W.reg [(0, false)] (by kernel_rfl) ?_ -- region 7
                    intro K hK
                    refine x_assign rfl rfl rfl rfl ?_
                    refine Ex.done (hK _ _ ?_)
                    refine At.then_n ?_
                    refine W.ret ?_
                    refine At.blk_r ?_
                    refine At.loop_r ?_
                    refine At.blk_r ?_
                    refine At.then_r ?_
                    refine At.ret1 (.tmp 2) rfl ⟨rfl, trivial⟩ ?_ -- ret8
                    exact ⟨by rw [nameP_bad hc (fun h => by have := hr.2 h; omega)], M.frm⟩
                  · try simp only [decide_eq_true_eq, decide_eq_false_iff_not, Bool.not_eq_true', Bool.not_eq_false', beq_iff_eq, bne_iff_ne, ne_eq, Bool.not_eq_eq_eq_not, Bool.not_true, Bool.not_false, beq_eq_false_iff_ne, bne_eq_false_iff_eq, Bool.not_not, gt_iff_lt, ge_iff_le] at hco9
                    refine W.skip ?_
                    refine At.blk_n ?_
                    -- bk1: back to loop1
                    exact At.back (q + 1) ⟨rfl, trivial⟩ ⟨by omega, fun k c2 hk hc2 => by
                      rcases Nat.lt_or_ge k q with h1 | h1
                      · exact hall k c2 h1 hc2
                      · have : k = q := by omega
                        subst this; rw [hc] at hc2; cases hc2; exact hr.1 (by omega), by rw [← rune_one hc (hr.1 (by omega))]; exact M⟩ (by first | omega | (simp only; omega) | (simp; done) | (simp; omega))
          · try simp only [decide_eq_true_eq, decide_eq_false_iff_not, Bool.not_eq_true', Bool.not_eq_false', beq_iff_eq, bne_iff_ne, ne_eq, Bool.not_eq_eq_eq_not, Bool.not_true, Bool.not_false, beq_eq_false_iff_ne, bne_eq_false_iff_eq, Bool.not_not, gt_iff_lt, ge_iff_le] at hco5
            refine W.exit ?_
            refine At.then_x ?_
            refine At.loop_x ?_
            refine At.blk_x ?_
            refine At.then_n ?_
            refine W.seq ?_
            refine W.sub [] trivial ?_
            refine W.reg [(0, false)] (by kernel_rfl) ?_ -- region 8
            intro K hK
            refine x_assign rfl rfl rfl rfl ?_
            refine Ex.done (hK _ _ ?_)
            refine At.then_n ?_
            refine W.ret ?_
            refine At.ret1 (.tmp 2) rfl ⟨rfl, trivial⟩ ?_ -- ret9
            exact ⟨by rw [nameP_ok (by omega) (by omega) hsp3 hco4 (fun k c hk hc => hall k c (by omega) hc)], M.frm⟩

-- valise/valiseref13.Name
set_option maxRecDepth 100000 in
theorem rname_c {w0 : World} {s : List UInt8}  : Ret Try.prog 16 #[strV s] w0 fun r w' => r = .int .i64 (nameP s) ∧ New w0 w' := by
  have M : Sep w0 [] w0 := St.nil w0
  refine Ret.of_W Try.func16 rfl Try.ntmps16 rfl ?_
  refine W.seq ?_
  refine W.sub [(0, _)] ⟨rfl, trivial⟩ ?_
  refine W.reg [(0, false)] (by kernel_rfl) ?_ -- region 0
  intro K hK
  refine x_assign rfl rfl rfl rfl ?_
  refine Ex.done (hK _ _ ?_)
  refine At.then_n ?_
  refine W.seq ?_
  refine W.seq ?_
  refine W.sub [(0, _)] ⟨rfl, trivial⟩ ?_
  refine W.reg [(0, false), (1, false), (2, false), (3, false), (4, false), (5, false), (6, false), (7, false), (8, false), (9, false), (10, false), (11, false), (12, false), (13, false), (14, false), (15, false)] (by kernel_rfl) ?_ -- region 1
  intro K hK
  refine x_move rfl rfl rfl rfl ?_
  refine x_lenS rfl rfl rfl rfl Try.underlying9 rfl ?_
  refine x_lss _ rfl rfl rfl rfl rfl rfl ?_ -- cm1 ref.go:18
  refine x_move rfl rfl rfl rfl ?_
  refine Ex.split 7 rfl (fun hsp1 => ?_) (fun hsp1 => ?_)
  · -- sp1 True
    try simp only [decide_eq_true_eq, decide_eq_false_iff_not, Bool.not_eq_true', Bool.not_eq_false', beq_iff_eq, bne_iff_ne, ne_eq, Bool.not_eq_eq_eq_not, Bool.not_true, Bool.not_false, beq_eq_false_iff_ne, bne_eq_false_iff_eq, Bool.not_not, gt_iff_lt, ge_iff_le] at hsp1
    refine Ex.skip_ rfl rfl rfl ?_
    refine Ex.skip_ rfl rfl rfl ?_
    refine Ex.skip_ rfl rfl rfl ?_
    refine x_pickT rfl rfl rfl rfl rfl ?_
    refine x_move rfl rfl rfl rfl ?_
    refine Ex.skip_ rfl rfl rfl ?_
    refine Ex.skip_ rfl rfl rfl ?_
    refine x_pickT rfl rfl rfl rfl rfl ?_
    refine x_move rfl rfl rfl rfl ?_
    refine Ex.skip_ rfl rfl rfl ?_
    refine Ex.skip_ rfl rfl rfl ?_
    refine x_pickT rfl rfl rfl rfl rfl ?_
    refine Ex.done (hK _ _ ?_)
    refine At.then_n ?_
    refine W.condT rfl ?_ -- co1
    refine W.seq ?_
    refine W.sub [] trivial ?_
    refine W.reg [(0, false)] (by kernel_rfl) ?_ -- region 2
    intro K hK
    refine x_assign rfl rfl rfl rfl ?_
    refine Ex.done (hK _ _ ?_)
    refine At.then_n ?_
    refine W.ret ?_
    refine At.then_r ?_
    refine At.ret1 (.tmp 2) rfl ⟨rfl, trivial⟩ ?_ -- ret1
    exact ⟨by rw [nameP, if_neg (fun h => by have := h.1; omega)], M.frm⟩
  · -- sp1 False
    try simp only [decide_eq_true_eq, decide_eq_false_iff_not, Bool.not_eq_true', Bool.not_eq_false', beq_iff_eq, bne_iff_ne, ne_eq, Bool.not_eq_eq_eq_not, Bool.not_true, Bool.not_false, beq_eq_false_iff_ne, bne_eq_false_iff_eq, Bool.not_not, gt_iff_lt, ge_iff_le] at hsp1
    refine x_move rfl rfl rfl rfl ?_
    refine x_lenS rfl rfl rfl rfl Try.underlying9 rfl ?_
    refine x_gtr _ rfl rfl rfl rfl rfl rfl ?_ -- cm2 ref.go:18
    refine x_pickF rfl rfl rfl rfl rfl ?_
    refine x_move rfl rfl rfl rfl ?_
    refine Ex.split 12 rfl (fun hsp2 => ?_) (fun hsp2 => ?_)
    · -- sp2 True
      try simp only [decide_eq_true_eq, decide_eq_false_iff_not, Bool.not_eq_true', Bool.not_eq_false', beq_iff_eq, bne_iff_ne, ne_eq, Bool.not_eq_eq_eq_not, Bool.not_true, Bool.not_false, beq_eq_false_iff_ne, bne_eq_false_iff_eq, Bool.not_not, gt_iff_lt, ge_iff_le] at hsp2
      refine Ex.skip_ rfl rfl rfl ?_
      refine Ex.skip_ rfl rfl rfl ?_
      refine x_pickT rfl rfl rfl rfl rfl ?_
      refine x_move rfl rfl rfl rfl ?_
      refine Ex.skip_ rfl rfl rfl ?_
      refine Ex.skip_ rfl rfl rfl ?_
      refine x_pickT rfl rfl rfl rfl rfl ?_
      refine Ex.done (hK _ _ ?_)
      refine At.then_n ?_
      refine W.condT rfl ?_ -- co2
      refine W.seq ?_
      refine W.sub [] trivial ?_
      refine W.reg [(0, false)] (by kernel_rfl) ?_ -- region 2
      intro K hK
      refine x_assign rfl rfl rfl rfl ?_
      refine Ex.done (hK _ _ ?_)
      refine At.then_n ?_
      refine W.ret ?_
      refine At.then_r ?_
      refine At.ret1 (.tmp 2) rfl ⟨rfl, trivial⟩ ?_ -- ret2
      exact ⟨by rw [nameP, if_neg (fun h => by have := h.2.1; omega)], M.frm⟩
    · -- sp2 False
      try simp only [decide_eq_true_eq, decide_eq_false_iff_not, Bool.not_eq_true', Bool.not_eq_false', beq_iff_eq, bne_iff_ne, ne_eq, Bool.not_eq_eq_eq_not, Bool.not_true, Bool.not_false, beq_eq_false_iff_ne, bne_eq_false_iff_eq, Bool.not_not, gt_iff_lt, ge_iff_le] at hsp2
      refine x_move rfl rfl rfl rfl ?_
      refine x_eqS _ rfl rfl rfl rfl rfl rfl ?_ -- eq1 ref.go:18
      refine x_pickF rfl rfl rfl rfl rfl ?_
      refine x_move rfl rfl rfl rfl ?_
      refine Ex.split 16 rfl (fun hsp3 => ?_) (fun hsp3 => ?_)
      · -- sp3 True
        try simp only [decide_eq_true_eq, decide_eq_false_iff_not, Bool.not_eq_true', Bool.not_eq_false', beq_iff_eq, bne_iff_ne, ne_eq, Bool.not_eq_eq_eq_not, Bool.not_true, Bool.not_false, beq_eq_false_iff_ne, bne_eq_false_iff_eq, Bool.not_not, gt_iff_lt, ge_iff_le] at hsp3
        refine Ex.skip_ rfl rfl rfl ?_
        refine Ex.skip_ rfl rfl rfl ?_
        refine x_pickT rfl rfl rfl rfl rfl ?_
        refine Ex.done (hK _ _ ?_)
        refine At.then_n ?_
        refine W.condT rfl ?_ -- co3
        refine W.seq ?_
        refine W.sub [] trivial ?_
        refine W.reg [(0, false)] (by kernel_rfl) ?_ -- region 2
        intro K hK
        refine x_assign rfl rfl rfl rfl ?_
        refine Ex.done (hK _ _ ?_)
        refine At.then_n ?_
        refine W.ret ?_
        refine At.then_r ?_
        refine At.ret1 (.tmp 2) rfl ⟨rfl, trivial⟩ ?_ -- ret3
        exact ⟨by rw [nameP, if_neg (fun h => h.2.2.1 hsp3)], M.frm⟩
      · -- sp3 False
        try simp only [decide_eq_true_eq, decide_eq_false_iff_not, Bool.not_eq_true', Bool.not_eq_false', beq_iff_eq, bne_iff_ne, ne_eq, Bool.not_eq_eq_eq_not, Bool.not_true, Bool.not_false, beq_eq_false_iff_ne, bne_eq_false_iff_eq, Bool.not_not, gt_iff_lt, ge_iff_le] at hsp3
        refine x_move rfl rfl rfl rfl ?_
        refine x_eqS _ rfl rfl rfl rfl rfl rfl ?_ -- eq2 ref.go:18
        refine x_pickF rfl rfl rfl rfl rfl ?_
        refine Ex.done (hK _ _ ?_)
        refine At.then_n ?_
        refine W.cond rfl (fun hco4 => ?_) (fun hco4 => ?_) -- co4
        · try simp only [decide_eq_true_eq, decide_eq_false_iff_not, Bool.not_eq_true', Bool.not_eq_false', beq_iff_eq, bne_iff_ne, ne_eq, Bool.not_eq_eq_eq_not, Bool.not_true, Bool.not_false, beq_eq_false_iff_ne, bne_eq_false_iff_eq, Bool.not_not, gt_iff_lt, ge_iff_le] at hco4
          refine W.seq ?_
          refine W.sub [] trivial ?_
          refine W.reg [(0, false)] (by kernel_rfl) ?_ -- region 2
          intro K hK
          refine x_assign rfl rfl rfl rfl ?_
          refine Ex.done (hK _ _ ?_)
          refine At.then_n ?_
          refine W.ret ?_
          refine At.then_r ?_
          refine At.ret1 (.tmp 2) rfl ⟨rfl, trivial⟩ ?_ -- ret4
          exact ⟨by rw [nameP, if_neg (fun h => h.2.2.2.1 hco4)], M.frm⟩
        · try simp only [decide_eq_true_eq, decide_eq_false_iff_not, Bool.not_eq_true', Bool.not_eq_false', beq_iff_eq, bne_iff_ne, ne_eq, Bool.not_eq_eq_eq_not, Bool.not_true, Bool.not_false, beq_eq_false_iff_ne, bne_eq_false_iff_eq, Bool.not_not, gt_iff_lt, ge_iff_le] at hco4
          refine W.skip ?_
          refine At.then_n ?_
          refine W.seq ?_
          refine W.seq ?_
          refine W.sub [(0, _)] ⟨rfl, trivial⟩ ?_
          refine W.reg [(0, false)] (by kernel_rfl) ?_ -- region 3
          intro K hK
          refine x_assign rfl rfl rfl rfl ?_
          refine Ex.done (hK _ _ ?_)
          refine At.then_n ?_
          refine W.block ?_
          refine W.loop (σ := Nat) (fun q => [(0, _), (3, .int .i64 ((q : Nat) : Int))]) (fun q w => q ≤ s.length ∧ (∀ (k : Nat) c, k < q → s[k]? = some c → nameC c) ∧ Sep w0 [] w) (fun q => s.length - q) 0 ⟨rfl, rfl, trivial⟩ ⟨Nat.zero_le _, fun k c h => by omega, M⟩ ?_ -- loop1
          rintro q w ⟨hle, hall, M⟩
          refine W.seq ?_
          refine W.seq ?_
          refine W.sub [(0, _), (3, _)] ⟨rfl, rfl, trivial⟩ ?_
          refine W.reg [(0, false), (1, false), (2, false), (3, false)] (by kernel_rfl) ?_ -- region 4
          intro K hK
          refine x_move rfl rfl rfl rfl ?_
          refine x_move rfl rfl rfl rfl ?_
          refine x_lenS rfl rfl rfl rfl Try.underlying9 rfl ?_
          refine x_lss _ rfl rfl rfl rfl rfl rfl ?_ -- cm3 ref.go:21
          refine Ex.done (hK _ _ ?_)
          refine At.then_n ?_
          refine W.cond rfl (fun hco5 => ?_) (fun hco5 => ?_) -- co5
          · try simp only [decide_eq_true_eq, decide_eq_false_iff_not, Bool.not_eq_true', Bool.not_eq_false', beq_iff_eq, bne_iff_ne, ne_eq, Bool.not_eq_eq_eq_not, Bool.not_true, Bool.not_false, beq_eq_false_iff_ne, bne_eq_false_iff_eq, Bool.not_not, gt_iff_lt, ge_iff_le] at hco5
            obtain ⟨c, hc⟩ : ∃ c, s[q]? = some c := ⟨s[q]'(by omega), List.getElem?_eq_getElem (by omega)⟩
            have hr : nameC c ↔ _ := Iff.rfl
            unfold nameC at hr
            refine W.skip ?_
            refine At.then_n ?_
            refine W.seq ?_
            refine W.block ?_
            refine W.seq ?_
            refine W.sub [(0, _), (3, _)] ⟨rfl, rfl, trivial⟩ ?_
            refine W.reg [(0, false), (1, false), (2, false), (3, false), (4, false), (5, false), (6, false), (7, false), (8, false), (9, false), (10, false), (11, false), (12, false), (13, false), (14, false), (15, false), (16, false), (17, false), (18, false), (19, false), (20, false), (21, false)] (by kernel_rfl) ?_ -- region 6
            intro K hK
            refine x_move rfl rfl rfl rfl ?_
            refine x_move rfl rfl rfl rfl ?_
            refine x_ixS q rfl rfl rfl Try.underlying9 rfl rfl rfl hc ?_ -- ix1 ref.go:22
            refine x_lss _ rfl rfl rfl rfl rfl rfl ?_ -- cm4 ref.go:22
            refine x_move rfl rfl rfl rfl ?_
            refine Ex.split 30 rfl (fun hsp4 => ?_) (fun hsp4 => ?_)
            · -- sp4 True
              try simp only [decide_eq_true_eq, decide_eq_false_iff_not, Bool.not_eq_true', Bool.not_eq_false', beq_iff_eq, bne_iff_ne, ne_eq, Bool.not_eq_eq_eq_not, Bool.not_true, Bool.not_false, beq_eq_false_iff_ne, bne_eq_false_iff_eq, Bool.not_not, gt_iff_lt, ge_iff_le] at hsp4
              refine Ex.skip_ rfl rfl rfl ?_
              refine Ex.skip_ rfl rfl rfl ?_
              refine Ex.skip_ rfl rfl rfl ?_
              refine Ex.skip_ rfl rfl rfl ?_
              refine x_pickT rfl rfl rfl rfl rfl ?_
              refine x_move rfl rfl rfl rfl ?_
              refine Ex.skip_ rfl rfl rfl ?_
              refine Ex.skip_ rfl rfl rfl ?_
              refine Ex.skip_ rfl rfl rfl ?_
              refine Ex.skip_ rfl rfl rfl ?_
              refine x_pickT rfl rfl rfl rfl rfl ?_
              refine x_move rfl rfl rfl rfl ?_
              refine Ex.skip_ rfl rfl rfl ?_
              refine Ex.skip_ rfl rfl rfl ?_
              refine Ex.skip_ rfl rfl rfl ?_
              refine Ex.skip_ rfl rfl rfl ?_
              refine x_pickT rfl rfl rfl rfl rfl ?_
              refine Ex.done (hK _ _ ?_)
              refine At.then_n ?_
              refine W.condT rfl ?_ -- co6
              refine W.seq ?_
              refine W.sub [] trivial ?_
              refine W.reg [(0, false)] (by kernel_rfl) ?_ -- region 7
              intro K hK
              refine x_assign rfl rfl rfl rfl ?_
              refine Ex.done (hK _ _ ?_)
              refine At.then_n ?_
              refine W.ret ?_
              refine At.blk_r ?_
              refine At.then_r ?_
              refine At.loop_r ?_
              refine At.blk_r ?_
              refine At.then_r ?_
              refine At.ret1 (.tmp 2) rfl ⟨rfl, trivial⟩ ?_ -- ret5
              exact ⟨by rw [nameP_bad hc (fun h => by unfold nameC at h; omega)], M.frm⟩
            · -- sp4 False
              try simp only [decide_eq_true_eq, decide_eq_false_iff_not, Bool.not_eq_true', Bool.not_eq_false', beq_iff_eq, bne_iff_ne, ne_eq, Bool.not_eq_eq_eq_not, Bool.not_true, Bool.not_false, beq_eq_false_iff_ne, bne_eq_false_iff_eq, Bool.not_not, gt_iff_lt, ge_iff_le] at hsp4
              refine x_move rfl rfl rfl rfl ?_
              refine x_move rfl rfl rfl rfl ?_
              refine x_ixS q rfl rfl rfl Try.underlying9 rfl rfl rfl hc ?_ -- ix2 ref.go:22
              refine x_gtr _ rfl rfl rfl rfl rfl rfl ?_ -- cm5 ref.go:22
              refine x_pickF rfl rfl rfl rfl rfl ?_
              refine x_move rfl rfl rfl rfl ?_
              refine Ex.split 36 rfl (fun hsp5 => ?_) (fun hsp5 => ?_)
              · -- sp5 True
                try simp only [decide_eq_true_eq, decide_eq_false_iff_not, Bool.not_eq_true', Bool.not_eq_false', beq_iff_eq, bne_iff_ne, ne_eq, Bool.not_eq_eq_eq_not, Bool.not_true, Bool.not_false, beq_eq_false_iff_ne, bne_eq_false_iff_eq, Bool.not_not, gt_iff_lt, ge_iff_le] at hsp5
                refine Ex.skip_ rfl rfl rfl ?_
                refine Ex.skip_ rfl rfl rfl ?_
                refine Ex.skip_ rfl rfl rfl ?_
                refine Ex.skip_ rfl rfl rfl ?_
                refine x_pickT rfl rfl rfl rfl rfl ?_
                refine x_move rfl rfl rfl rfl ?_
                refine Ex.skip_ rfl rfl rfl ?_
                refine Ex.skip_ rfl rfl rfl ?_
                refine Ex.skip_ rfl rfl rfl ?_
                refine Ex.skip_ rfl rfl rfl ?_
                refine x_pickT rfl rfl rfl rfl rfl ?_
                refine Ex.done (hK _ _ ?_)
                refine At.then_n ?_
                refine W.condT rfl ?_ -- co7
                refine W.seq ?_
                refine W.sub [] trivial ?_
                refine W.reg [(0, false)] (by kernel_rfl) ?_ -- region 7
                intro K hK
                refine x_assign rfl rfl rfl rfl ?_
                refine Ex.done (hK _ _ ?_)
                refine At.then_n ?_
                refine W.ret ?_
                refine At.blk_r ?_
                refine At.then_r ?_
                refine At.loop_r ?_
                refine At.blk_r ?_
                refine At.then_r ?_
                refine At.ret1 (.tmp 2) rfl ⟨rfl, trivial⟩ ?_ -- ret6
                exact ⟨by rw [nameP_bad hc (fun h => by unfold nameC at h; omega)], M.frm⟩
              · -- sp5 False
                try simp only [decide_eq_true_eq, decide_eq_false_iff_not, Bool.not_eq_true', Bool.not_eq_false', beq_iff_eq, bne_iff_ne, ne_eq, Bool.not_eq_eq_eq_not, Bool.not_true, Bool.not_false, beq_eq_false_iff_ne, bne_eq_false_iff_eq, Bool.not_not, gt_iff_lt, ge_iff_le] at hsp5
                refine x_move rfl rfl rfl rfl ?_
                refine x_move rfl rfl rfl rfl ?_
                refine x_ixS q rfl rfl rfl Try.underlying9 rfl rfl rfl hc ?_ -- ix3 ref.go:22
                refine x_eqi _ rfl rfl rfl rfl rfl rfl ?_ -- eq3 ref.go:22
                refine x_pickF rfl rfl rfl rfl rfl ?_
                refine x_move rfl rfl rfl rfl ?_
                refine Ex.split 42 rfl (fun hsp6 => ?_) (fun hsp6 => ?_)
                · -- sp6 True
                  try simp only [decide_eq_true_eq, decide_eq_false_iff_not, Bool.not_eq_true', Bool.not_eq_false', beq_iff_eq, bne_iff_ne, ne_eq, Bool.not_eq_eq_eq_not, Bool.not_true, Bool.not_false, beq_eq_false_iff_ne, bne_eq_false_iff_eq, Bool.not_not, gt_iff_lt, ge_iff_le] at hsp6
                  refine Ex.skip_ rfl rfl rfl ?_
                  refine Ex.skip_ rfl rfl rfl ?_
                  refine Ex.skip_ rfl rfl rfl ?_
                  refine Ex.skip_ rfl rfl rfl ?_
                  refine x_pickT rfl rfl rfl rfl rfl ?_
                  refine Ex.done (hK _ _ ?_)
                  refine At.then_n ?_
                  refine W.condT rfl ?_ -- co8
                  refine W.seq ?_
                  refine W.sub [] trivial ?_
                  refine W.reg [(0, false)] (by kernel_rfl) ?_ -- region 7
                  intro K hK
                  refine x_assign rfl rfl rfl rfl ?_
                  refine Ex.done (hK _ _ ?_)
                  refine At.then_n ?_
                  refine W.ret ?_
                  refine At.blk_r ?_
                  refine At.then_r ?_
                  refine At.loop_r ?_
                  refine At.blk_r ?_
                  refine At.then_r ?_
                  refine At.ret1 (.tmp 2) rfl ⟨rfl, trivial⟩ ?_ -- ret7
                  exact ⟨by rw [nameP_bad hc (fun h => by unfold nameC at h; omega)], M.frm⟩
                · -- sp6 False
                  try simp only [decide_eq_true_eq, decide_eq_false_iff_not, Bool.not_eq_true', Bool.not_eq_false', beq_iff_eq, bne_iff_ne, ne_eq, Bool.not_eq_eq_eq_not, Bool.not_true, Bool.not_false, beq_eq_false_iff_ne, bne_eq_false_iff_eq, Bool.not_not, gt_iff_lt, ge_iff_le] at hsp6
                  refine x_move rfl rfl rfl rfl ?_
                  refine x_move rfl rfl rfl rfl ?_
                  refine x_ixS q rfl rfl rfl Try.underlying9 rfl rfl rfl hc ?_ -- ix4 ref.go:22
                  refine x_eqi _ rfl rfl rfl rfl rfl rfl ?_ -- eq4 ref.go:22
                  refine x_pickF rfl rfl rfl rfl rfl ?_
                  refine Ex.done (hK _ _ ?_)
                  refine At.then_n ?_
                  refine W.cond rfl (fun hco9 => ?_) (fun hco9 => ?_) -- co9
                  · try simp only [decide_eq_true_eq, decide_eq_false_iff_not, Bool.not_eq_true', Bool.not_eq_false', beq_iff_eq, bne_iff_ne, ne_eq, Bool.not_eq_eq_eq_not, Bool.not_true, Bool.not_false, beq_eq_false_iff_ne, bne_eq_false_iff_eq, Bool.not_not, gt_iff_lt, ge_iff_le] at hco9
                    refine W.seq ?_
                    refine W.sub [] trivial ?_
                    refine W.reg [(0, false)] (by kernel_rfl) ?_ -- region 7
                    intro K hK
                    refine x_assign rfl rfl rfl rfl ?_
                    refine Ex.done (hK _ _ ?_)
                    refine At.then_n ?_
                    refine W.ret ?_
                    refine At.blk_r ?_
                    refine At.then_r ?_
                    refine At.loop_r ?_
                    refine At.blk_r ?_
                    refine At.then_r ?_
                    refine At.ret1 (.tmp 2) rfl ⟨rfl, trivial⟩ ?_ -- ret8
                    exact ⟨by rw [nameP_bad hc (fun h => by unfold nameC at h; omega)], M.frm⟩
                  · try simp only [decide_eq_true_eq, decide_eq_false_iff_not, Bool.not_eq_true', Bool.not_eq_false', beq_iff_eq, bne_iff_ne, ne_eq, Bool.not_eq_eq_eq_not, Bool.not_true, Bool.not_false, beq_eq_false_iff_ne, bne_eq_false_iff_eq, Bool.not_not, gt_iff_lt, ge_iff_le] at hco9
                    refine W.skip ?_
                    refine At.blk_n ?_
                    refine At.then_n ?_
                    refine W.sub [(0, _), (3, _)] ⟨rfl, rfl, trivial⟩ ?_
                    refine W.reg [(0, false), (1, false), (2, false)] (by kernel_rfl) ?_ -- region 5
                    intro K hK
                    refine x_move rfl rfl rfl rfl ?_
                    refine x_add _ rfl rfl rfl rfl rfl (wadd (by omega) (by omega)) ?_ -- ar1 ref.go:21
                    refine x_assign rfl rfl rfl rfl ?_
                    refine Ex.done (hK _ _ ?_)
                    -- bk1: back to loop1
                    exact At.back (q + 1) ⟨rfl, rfl, trivial⟩ ⟨by omega, fun k c2 hk hc2 => by
                      rcases Nat.lt_or_ge k q with h1 | h1
                      · exact hall k c2 h1 hc2
                      · have : k = q := by omega
                        subst this; rw [hc] at hc2; cases hc2; unfold nameC; omega, M⟩ (by first | omega | (simp only; omega) | (simp; done) | (simp; omega))
          · try simp only [decide_eq_true_eq, decide_eq_false_iff_not, Bool.not_eq_true', Bool.not_eq_false', beq_iff_eq, bne_iff_ne, ne_eq, Bool.not_eq_eq_eq_not, Bool.not_true, Bool.not_false, beq_eq_false_iff_ne, bne_eq_false_iff_eq, Bool.not_not, gt_iff_lt, ge_iff_le] at hco5
            refine W.exit ?_
            refine At.then_x ?_
            refine At.loop_x ?_
            refine At.blk_x ?_
            refine At.then_n ?_
            refine W.seq ?_
            refine W.sub [] trivial ?_
            refine W.reg [(0, false)] (by kernel_rfl) ?_ -- region 8
            intro K hK
            refine x_assign rfl rfl rfl rfl ?_
            refine Ex.done (hK _ _ ?_)
            refine At.then_n ?_
            refine W.ret ?_
            refine At.ret1 (.tmp 2) rfl ⟨rfl, trivial⟩ ?_ -- ret9
            exact ⟨by rw [nameP_ok (by omega) (by omega) hsp3 hco4 (fun k c hk hc => hall k c (by omega) hc)], M.frm⟩
end Go.Proofs.Ytkieecaaijlokaa
