/-
  The walk of functions, by program: idxb, index1, slcut, cut.
-/
import Derived.Test.YtkieecaaijlokaaW1
namespace Go.Proofs.Ytkieecaaijlokaa
open Go Go.Fw Go.RowKit Go.Proofs
set_option linter.unusedVariables false
set_option linter.unusedSimpArgs false

-- internal/stringslite.IndexByte
set_option maxRecDepth 100000 in
theorem idxb_c {w0 : World} {s : List UInt8} {c : UInt8}  : Ret Try.prog 56 #[strV s, .int .u8 (c.toNat : Int)] w0 fun r w' => r = .int .i64 (Lib.indexByte s c) ∧ New w0 w' := by
  have M : Sep w0 [] w0 := St.nil w0
  refine Ret.of_W Try.func56 rfl Try.ntmps56 rfl ?_
  refine W.seq ?_
  refine W.sub [(0, _), (1, _)] ⟨rfl, rfl, trivial⟩ ?_
  refine W.reg [(0, false)] (by kernel_rfl) ?_ -- region 0
  intro K hK
  refine x_assign rfl rfl rfl rfl ?_
  refine Ex.done (hK _ _ ?_)
  refine At.then_n ?_
  refine W.seq ?_
  refine W.sub [(0, _), (1, _)] ⟨rfl, rfl, trivial⟩ ?_
  refine W.reg [(0, false), (1, false), (2, true), (3, false)] (by kernel_rfl) ?_ -- region 1
  intro K hK
  refine x_move rfl rfl rfl rfl ?_
  refine x_move rfl rfl rfl rfl ?_
  -- call1: internal/bytealg.IndexByteString strings.go:25
  refine x_xcall rfl rfl rfl rfl rfl Try.func60 (by kernel_rfl) (by kernel_rfl) (by kernel_rfl) (by kernel_rfl) (Lib.run_indexByteString _ _ _) trivial ?_
  refine x_assign rfl rfl rfl rfl ?_
  refine Ex.done (hK _ _ ?_)
  refine At.then_n ?_
  refine W.ret ?_
  refine At.ret1 (.tmp 4) rfl ⟨rfl, trivial⟩ ?_ -- ret1
  exact ⟨by simp [strB], M.frm⟩

-- internal/stringslite.Index
set_option maxRecDepth 100000 in
theorem index1_c {w0 : World} {s : List UInt8} {c : UInt8}  : Ret Try.prog 53 #[strV s, strV [c]] w0 fun r w' => r = .int .i64 (Lib.indexByte s c) ∧ New w0 w' := by
  have M : Sep w0 [] w0 := St.nil w0
  refine Ret.of_W Try.func53 rfl Try.ntmps53 rfl ?_
  refine W.seq ?_
  refine W.sub [(0, _), (1, _)] ⟨rfl, rfl, trivial⟩ ?_
  refine W.reg [(0, false)] (by kernel_rfl) ?_ -- region 0
  intro K hK
  refine x_assign rfl rfl rfl rfl ?_
  refine Ex.done (hK _ _ ?_)
  refine At.then_n ?_
  refine W.seq ?_
  refine W.sub [(0, _), (1, _)] ⟨rfl, rfl, trivial⟩ ?_
  refine W.reg [(0, false), (1, false), (2, false)] (by kernel_rfl) ?_ -- region 1
  intro K hK
  refine x_move rfl rfl rfl rfl ?_
  refine x_lenS rfl rfl rfl rfl Try.underlying9 rfl ?_
  refine x_assign rfl rfl rfl rfl ?_
  refine Ex.done (hK _ _ ?_)
  refine At.then_n ?_
  refine W.seq ?_
  refine W.block ?_
  refine W.seq ?_
  refine W.sub [(0, _), (1, _), (5, _)] ⟨rfl, rfl, rfl, trivial⟩ ?_
  refine W.reg [(0, false), (1, false), (2, false), (3, false), (4, false), (5, false), (6, false), (7, false)] (by kernel_rfl) ?_ -- region 2
  intro K hK
  refine x_move rfl rfl rfl rfl ?_
  refine x_eqi false rfl rfl rfl rfl rfl rfl ?_ -- eq1 strings.go:31
  refine x_move rfl rfl rfl rfl ?_
  refine x_move rfl rfl rfl rfl ?_
  refine x_move rfl rfl rfl rfl ?_
  refine x_eqS _ rfl rfl rfl rfl rfl rfl ?_ -- eq2 strings.go:31
  refine x_pickF rfl rfl rfl rfl rfl ?_
  refine x_assign rfl rfl rfl rfl ?_
  refine Ex.done (hK _ _ ?_)
  refine At.then_n ?_
  refine W.cond rfl (fun hco1 => ?_) (fun hco1 => ?_) -- co1
  · try simp only [decide_eq_true_eq, decide_eq_false_iff_not, Bool.not_eq_true', Bool.not_eq_false', beq_iff_eq, bne_iff_ne, ne_eq, Bool.not_eq_eq_eq_not, Bool.not_true, Bool.not_false, beq_eq_false_iff_ne, bne_eq_false_iff_eq, Bool.not_not, gt_iff_lt, ge_iff_le] at hco1
    refine W.seq ?_
    refine W.sub [] trivial ?_
    refine W.reg [(0, false)] (by kernel_rfl) ?_ -- region 3
    intro K hK
    refine x_assign rfl rfl rfl rfl ?_
    refine Ex.done (hK _ _ ?_)
    refine At.then_n ?_
    refine W.ret ?_
    refine At.blk_r ?_
    refine At.then_r ?_
    refine At.ret1 (.tmp 4) rfl ⟨rfl, trivial⟩ ?_ -- ret1
    subst hco1; exact ⟨by simp [Lib.indexByte], M.frm⟩
  · try simp only [decide_eq_true_eq, decide_eq_false_iff_not, Bool.not_eq_true', Bool.not_eq_false', beq_iff_eq, bne_iff_ne, ne_eq, Bool.not_eq_eq_eq_not, Bool.not_true, Bool.not_false, beq_eq_false_iff_ne, bne_eq_false_iff_eq, Bool.not_not, gt_iff_lt, ge_iff_le] at hco1
    refine W.seq ?_
    refine W.sub [(0, _), (1, _), (5, _)] ⟨rfl, rfl, rfl, trivial⟩ ?_
    refine W.reg [(0, false), (1, false), (2, false)] (by kernel_rfl) ?_ -- region 4
    intro K hK
    refine x_move rfl rfl rfl rfl ?_
    refine x_eqi true rfl rfl rfl rfl rfl rfl ?_ -- eq3 strings.go:33
    refine x_assign rfl rfl rfl rfl ?_
    refine Ex.done (hK _ _ ?_)
    refine At.then_n ?_
    refine W.condT rfl ?_ -- co2
    refine W.seq ?_
    refine W.sub [(0, _), (1, _)] ⟨rfl, rfl, trivial⟩ ?_
    refine W.reg [(0, false), (1, false), (2, false), (3, true), (4, false)] (by kernel_rfl) ?_ -- region 5
    intro K hK
    refine x_move rfl rfl rfl rfl ?_
    refine x_move rfl rfl rfl rfl ?_
    refine x_ixS 0 rfl rfl rfl Try.underlying9 rfl rfl rfl rfl ?_ -- ix1 strings.go:34
    -- call1: internal/stringslite.IndexByte strings.go:34
    refine x_call rfl rfl rfl rfl rfl en56 (idxb_c) ?_
    rintro r wcall1 ⟨rfl, hncall1⟩
    have M := M.new hncall1
    refine ⟨trivial, ?_⟩
    refine x_assign rfl rfl rfl rfl ?_
    refine Ex.done (hK _ _ ?_)
    refine At.then_n ?_
    refine W.ret ?_
    refine At.blk_r ?_
    refine At.then_r ?_
    refine At.ret1 (.tmp 4) rfl ⟨rfl, trivial⟩ ?_ -- ret2
    exact ⟨rfl, M.frm⟩

-- internal/stringslite.Cut
set_option maxRecDepth 100000 in
theorem slcut_c {w0 : World} {s : List UInt8} (hl : s.length ≤ 9223372036854775807) : Ret Try.prog 49 #[strV s, strV [47]] w0 fun r w' => ∃ p q, splitS s = p :: q ∧ r = .tuple #[strV p, strV (joinS q), .bool (decide (q ≠ []))] ∧ New w0 w' := by
  have M : Sep w0 [] w0 := St.nil w0
  refine Ret.of_W Try.func49 rfl Try.ntmps49 rfl ?_
  refine W.seq ?_
  refine W.sub [(0, _), (1, _)] ⟨rfl, rfl, trivial⟩ ?_
  refine W.reg [(0, false), (1, false), (2, false)] (by kernel_rfl) ?_ -- region 0
  intro K hK
  refine x_assign rfl rfl rfl rfl ?_
  refine x_assign rfl rfl rfl rfl ?_
  refine x_assign rfl rfl rfl rfl ?_
  refine Ex.done (hK _ _ ?_)
  refine At.then_n ?_
  refine W.seq ?_
  refine W.seq ?_
  refine W.sub [(0, _), (1, _)] ⟨rfl, rfl, trivial⟩ ?_
  refine W.reg [(0, false), (1, false), (2, true), (3, false)] (by kernel_rfl) ?_ -- region 1
  intro K hK
  refine x_move rfl rfl rfl rfl ?_
  refine x_move rfl rfl rfl rfl ?_
  -- call1: internal/stringslite.Index strings.go:81
  refine x_call rfl rfl rfl rfl rfl en53 (index1_c) ?_
  rintro r wcall1 ⟨rfl, hncall1⟩
  have M := M.new hncall1
  refine ⟨trivial, ?_⟩
  refine x_assign rfl rfl rfl rfl ?_
  refine Ex.done (hK _ _ ?_)
  refine At.then_n ?_
  refine W.seq ?_
  refine W.sub [(0, _), (1, _), (7, _)] ⟨rfl, rfl, rfl, trivial⟩ ?_
  refine W.reg [(0, false), (1, false)] (by kernel_rfl) ?_ -- region 2
  intro K hK
  refine x_move rfl rfl rfl rfl ?_
  refine x_geq _ rfl rfl rfl rfl rfl rfl ?_ -- cm1 strings.go:81
  refine Ex.done (hK _ _ ?_)
  refine At.then_n ?_
  refine W.cond rfl (fun hco1 => ?_) (fun hco1 => ?_) -- co1
  · try simp only [decide_eq_true_eq, decide_eq_false_iff_not, Bool.not_eq_true', Bool.not_eq_false', beq_iff_eq, bne_iff_ne, ne_eq, Bool.not_eq_eq_eq_not, Bool.not_true, Bool.not_false, beq_eq_false_iff_ne, bne_eq_false_iff_eq, Bool.not_not, gt_iff_lt, ge_iff_le] at hco1
    obtain ⟨o, ho⟩ : ∃ o : Nat, Lib.indexByte s 47 = (o : Int) := ⟨(Lib.indexByte s 47).toNat, by omega⟩
    obtain ⟨hsp, hlt⟩ := splitS_idx ho
    refine W.seq ?_
    refine W.sub [(0, _), (1, _), (7, _)] ⟨rfl, rfl, rfl, trivial⟩ ?_
    refine W.regD (by kernel_rfl) #[0, 0, 3, 0, 0, 0, 32, 112, 248, 7, 1023, 2047] [(0, false), (1, false), (2, false), (3, false), (4, false), (5, false), (6, false), (7, false), (8, false), (9, false), (10, false), (11, false)] (by kernel_rfl) ?_ -- region 3
    intro K wD1 hK hwD1
    have M := M.drew hwD1
    refine x_move rfl rfl rfl rfl ?_
    refine x_move rfl rfl rfl rfl ?_
    refine x_sshS o rfl rfl rfl Try.underlying9 rfl rfl ho (by omega) ?_ -- sl1 strings.go:82
    refine x_move rfl rfl rfl rfl ?_
    refine x_move rfl rfl rfl rfl ?_
    refine x_move rfl rfl rfl rfl ?_
    refine x_lenS rfl rfl rfl rfl Try.underlying9 rfl ?_
    refine x_add ((o + 1 : Nat) : Int) rfl rfl rfl rfl rfl (by rw [ho]; exact (w64 (by simp; omega) (by simp; omega)).trans (by simp)) ?_ -- ar1 strings.go:82
    refine x_sslS (o + 1) rfl rfl rfl Try.underlying9 rfl rfl rfl (by omega) ?_ -- sl2 strings.go:82
    refine x_assign rfl rfl rfl rfl ?_
    refine x_assign rfl rfl rfl rfl ?_
    refine x_assign rfl rfl rfl rfl ?_
    refine Ex.done (hK _ _ ?_)
    refine At.then_n ?_
    refine W.ret ?_
    refine At.then_r ?_
    refine At.ret3 (.tmp 4) (.tmp 5) (.tmp 6) rfl ⟨rfl, rfl, rfl, trivial⟩ ?_ -- ret1
    exact ⟨_, _, hsp, by rw [joinS_splitS]; simp [splitS_ne], M.frm⟩
  · try simp only [decide_eq_true_eq, decide_eq_false_iff_not, Bool.not_eq_true', Bool.not_eq_false', beq_iff_eq, bne_iff_ne, ne_eq, Bool.not_eq_eq_eq_not, Bool.not_true, Bool.not_false, beq_eq_false_iff_ne, bne_eq_false_iff_eq, Bool.not_not, gt_iff_lt, ge_iff_le] at hco1
    have hm : Lib.indexByte s 47 = -1 := by have := Lib.indexByte_ge s 47; omega
    refine W.skip ?_
    refine At.then_n ?_
    refine W.seq ?_
    refine W.sub [(0, _)] ⟨rfl, trivial⟩ ?_
    refine W.reg [(0, false), (1, false), (2, false), (3, false)] (by kernel_rfl) ?_ -- region 4
    intro K hK
    refine x_move rfl rfl rfl rfl ?_
    refine x_assign rfl rfl rfl rfl ?_
    refine x_assign rfl rfl rfl rfl ?_
    refine x_assign rfl rfl rfl rfl ?_
    refine Ex.done (hK _ _ ?_)
    refine At.then_n ?_
    refine W.ret ?_
    refine At.ret3 (.tmp 4) (.tmp 5) (.tmp 6) rfl ⟨rfl, rfl, rfl, trivial⟩ ?_ -- ret2
    exact ⟨s, [], splitS_idx_none hm, rfl, M.frm⟩

-- strings.Cut
set_option maxRecDepth 100000 in
theorem cut_c {w0 : World} {s : List UInt8} (hl : s.length ≤ 9223372036854775807) : Ret Try.prog 41 #[strV s, strV [47]] w0 fun r w' => ∃ p q, splitS s = p :: q ∧ r = .tuple #[strV p, strV (joinS q), .bool (decide (q ≠ []))] ∧ New w0 w' := by
  have M : Sep w0 [] w0 := St.nil w0
  refine Ret.of_W Try.func41 rfl Try.ntmps41 rfl ?_
  refine W.seq ?_
  refine W.sub [(0, _), (1, _)] ⟨rfl, rfl, trivial⟩ ?_
  refine W.reg [(0, false), (1, false), (2, false)] (by kernel_rfl) ?_ -- region 0
  intro K hK
  refine x_assign rfl rfl rfl rfl ?_
  refine x_assign rfl rfl rfl rfl ?_
  refine x_assign rfl rfl rfl rfl ?_
  refine Ex.done (hK _ _ ?_)
  refine At.then_n ?_
  refine W.seq ?_
  refine W.sub [(0, _), (1, _)] ⟨rfl, rfl, trivial⟩ ?_
  refine W.reg [(0, false), (1, false), (2, true), (3, false), (4, false), (5, false), (6, false), (7, false), (8, false)] (by kernel_rfl) ?_ -- region 1
  intro K hK
  refine x_move rfl rfl rfl rfl ?_
  refine x_move rfl rfl rfl rfl ?_
  -- call1: internal/stringslite.Cut strings.go:1272
  refine x_call rfl rfl rfl rfl rfl en49 (slcut_c hl) ?_
  rintro r wcall1 ⟨pcall1, qcall1, hscall1, rfl, hncall1⟩
  have M := M.new hncall1
  refine ⟨trivial, ?_⟩
  refine x_ext rfl rfl rfl rfl rfl ?_ -- ex1
  refine x_ext rfl rfl rfl rfl rfl ?_ -- ex2
  refine x_ext rfl rfl rfl rfl rfl ?_ -- ex3
  refine x_assign rfl rfl rfl rfl ?_
  refine x_assign rfl rfl rfl rfl ?_
  refine x_assign rfl rfl rfl rfl ?_
  refine Ex.done (hK _ _ ?_)
  refine At.then_n ?_
  refine W.ret ?_
  refine At.ret3 (.tmp 4) (.tmp 5) (.tmp 6) rfl ⟨rfl, rfl, rfl, trivial⟩ ?_ -- ret1
  exact ⟨_, _, hscall1, rfl, M.frm⟩
end Go.Proofs.Ytkieecaaijlokaa
