/-
  Texts that belong together, laid into one file: W9, W10, W11, W12, FwK, P5, T2, V1, V2, V3, T3, T4, V4, V5.
-/
import Derived.Test.YtccfmfehfhfhhaaQ2
namespace Go.Proofs.Ytccfmfehfhfhhaa
open Go Go.Fw Go.RowKit Go.Proofs
set_option linter.unusedVariables false
set_option linter.unusedSimpArgs false

set_option maxRecDepth 100000 in
theorem lastidxS_c {w0 : World} {s : List UInt8} {c : UInt8} (hl : s.length ≤ 9223372036854775807) : Ret Try.prog 83 #[strV s, .int .u8 (c.toNat : Int)] w0 fun r w' => (∃ z, r = .int .i64 z ∧ LastAt s c z) ∧ New w0 w' := by
  have M : Sep w0 [] w0 := St.nil w0
  refine Ret.of_W Try.func83 rfl Try.ntmps83 rfl ?_
  refine W.seq ?_
  refine W.sub [(0, _), (1, _)] ⟨rfl, rfl, trivial⟩ ?_
  refine W.reg [(0, false)] (by kernel_rfl) ?_
  intro K hK
  refine x_assign rfl rfl rfl rfl ?_
  refine Ex.done (hK _ _ ?_)
  refine At.then_n ?_
  refine W.seq ?_
  refine W.seq ?_
  refine W.sub [(0, _), (1, _)] ⟨rfl, rfl, trivial⟩ ?_
  refine W.reg [(0, false), (1, false), (2, false), (3, false)] (by kernel_rfl) ?_
  intro K hK
  refine x_move rfl rfl rfl rfl ?_
  refine x_lenS rfl rfl rfl rfl Try.underlying9 rfl ?_
  refine x_sub _ rfl rfl rfl rfl rfl (wsub (by omega) (by omega)) ?_
  refine x_assign rfl rfl rfl rfl ?_
  refine Ex.done (hK _ _ ?_)
  refine At.then_n ?_
  refine W.block ?_
  refine W.loop (σ := Nat) (fun q => [(0, _), (1, _), (5, .int .i64 ((q : Int) - 1))]) (fun q w => q ≤ s.length ∧ c ∉ s.drop q ∧ Sep w0 [] w) (fun q => q) s.length ⟨rfl, rfl, rfl, trivial⟩ ⟨Nat.le_refl _, by simp, M⟩ ?_
  rintro q w ⟨hq, hno, M⟩
  refine W.seq ?_
  refine W.seq ?_
  refine W.sub [(0, _), (1, _), (5, _)] ⟨rfl, rfl, rfl, trivial⟩ ?_
  refine W.reg [(0, false), (1, false)] (by kernel_rfl) ?_
  intro K hK
  refine x_move rfl rfl rfl rfl ?_
  refine x_geq _ rfl rfl rfl rfl rfl rfl ?_
  refine Ex.done (hK _ _ ?_)
  refine At.then_n ?_
  refine W.cond rfl (fun hco1 => ?_) (fun hco1 => ?_)
  · try simp only [decide_eq_true_eq, decide_eq_false_iff_not, Bool.not_eq_true', Bool.not_eq_false', beq_iff_eq, bne_iff_ne, ne_eq, Bool.not_eq_eq_eq_not, Bool.not_true, Bool.not_false, beq_eq_false_iff_ne, bne_eq_false_iff_eq, Bool.not_not, gt_iff_lt, ge_iff_le] at hco1
    obtain ⟨t, rfl⟩ : ∃ t, q = t + 1 := ⟨q - 1, by omega⟩
    obtain ⟨d, hd⟩ := get_lt (l := s) (q := t) (by omega)
    refine W.skip ?_
    refine At.then_n ?_
    refine W.seq ?_
    refine W.block ?_
    refine W.seq ?_
    refine W.sub [(0, _), (1, _), (5, _)] ⟨rfl, rfl, rfl, trivial⟩ ?_
    refine W.reg [(0, false), (1, false), (2, false), (3, false), (4, false)] (by kernel_rfl) ?_
    intro K hK
    refine x_move rfl rfl rfl rfl ?_
    refine x_move rfl rfl rfl rfl ?_
    refine x_ixS t rfl rfl rfl Try.underlying9 rfl rfl (by omega) hd ?_
    refine x_move rfl rfl rfl rfl ?_
    refine x_eqi _ rfl rfl rfl rfl rfl rfl ?_
    refine Ex.done (hK _ _ ?_)
    refine At.then_n ?_
    refine W.cond rfl (fun hco2 => ?_) (fun hco2 => ?_)
    · try simp only [decide_eq_true_eq, decide_eq_false_iff_not, Bool.not_eq_true', Bool.not_eq_false', beq_iff_eq, bne_iff_ne, ne_eq, Bool.not_eq_eq_eq_not, Bool.not_true, Bool.not_false, beq_eq_false_iff_ne, bne_eq_false_iff_eq, Bool.not_not, gt_iff_lt, ge_iff_le] at hco2
      refine W.seq ?_
      refine W.sub [(5, _)] ⟨rfl, trivial⟩ ?_
      refine W.reg [(0, false), (1, false)] (by kernel_rfl) ?_
      intro K hK
      refine x_move rfl rfl rfl rfl ?_
      refine x_assign rfl rfl rfl rfl ?_
      refine Ex.done (hK _ _ ?_)
      refine At.then_n ?_
      refine W.ret ?_
      refine At.blk_r ?_
      refine At.then_r ?_
      refine At.loop_r ?_
      refine At.blk_r ?_
      refine At.then_r ?_
      refine At.ret1 (.tmp 4) rfl ⟨rfl, trivial⟩ ?_
      have hdc : d = c := UInt8.toNat_inj.1 (by omega)
      subst hdc
      refine ⟨⟨_, rfl, .inr ⟨s.take t, s.drop (t + 1), ?_, hno, by simp; omega⟩⟩, M.frm⟩
      obtain ⟨l1, e1⟩ := (List.getElem?_eq_some_iff.1 hd)
      rw [← e1, ← List.drop_eq_getElem_cons l1, List.take_append_drop]
    · try simp only [decide_eq_true_eq, decide_eq_false_iff_not, Bool.not_eq_true', Bool.not_eq_false', beq_iff_eq, bne_iff_ne, ne_eq, Bool.not_eq_eq_eq_not, Bool.not_true, Bool.not_false, beq_eq_false_iff_ne, bne_eq_false_iff_eq, Bool.not_not, gt_iff_lt, ge_iff_le] at hco2
      refine W.skip ?_
      refine At.blk_n ?_
      refine At.then_n ?_
      refine W.sub [(0, _), (1, _), (5, _)] ⟨rfl, rfl, rfl, trivial⟩ ?_
      refine W.reg [(0, false), (1, false), (2, false)] (by kernel_rfl) ?_
      intro K hK
      refine x_move rfl rfl rfl rfl ?_
      refine x_sub ((t : Int) - 1) rfl rfl rfl rfl rfl (by rw [w64 (by omega) (by omega)]; omega) ?_
      refine x_assign rfl rfl rfl rfl ?_
      refine Ex.done (hK _ _ ?_)
      exact At.back (t) ⟨rfl, rfl, rfl, trivial⟩ ⟨by omega, by
        obtain ⟨l1, e1⟩ := (List.getElem?_eq_some_iff.1 hd)
        rw [List.drop_eq_getElem_cons l1, e1, List.mem_cons, not_or]
        exact ⟨fun e => by subst e; simp at hco2, hno⟩, M⟩ (by first | omega | (simp only; omega) | (simp; done) | (simp; omega))
  · try simp only [decide_eq_true_eq, decide_eq_false_iff_not, Bool.not_eq_true', Bool.not_eq_false', beq_iff_eq, bne_iff_ne, ne_eq, Bool.not_eq_eq_eq_not, Bool.not_true, Bool.not_false, beq_eq_false_iff_ne, bne_eq_false_iff_eq, Bool.not_not, gt_iff_lt, ge_iff_le] at hco1
    refine W.exit ?_
    refine At.then_x ?_
    refine At.loop_x ?_
    refine At.blk_x ?_
    refine At.then_n ?_
    refine W.seq ?_
    refine W.sub [] trivial ?_
    refine W.reg [(0, false)] (by kernel_rfl) ?_
    intro K hK
    refine x_assign rfl rfl rfl rfl ?_
    refine Ex.done (hK _ _ ?_)
    refine At.then_n ?_
    refine W.ret ?_
    refine At.ret1 (.tmp 4) rfl ⟨rfl, trivial⟩ ?_
    have hq0 : q = 0 := by omega
    subst hq0; exact ⟨⟨_, rfl, .inl ⟨rfl, by simpa using hno⟩⟩, M.frm⟩

set_option maxRecDepth 100000 in
theorem lastidx_c {w0 : World} {s : List UInt8} {c : UInt8} (hl : s.length ≤ 9223372036854775807) : Ret Try.prog 75 #[strV s, .int .u8 (c.toNat : Int)] w0 fun r w' => (∃ z, r = .int .i64 z ∧ LastAt s c z) ∧ New w0 w' := by
  have M : Sep w0 [] w0 := St.nil w0
  refine Ret.of_W Try.func75 rfl Try.ntmps75 rfl ?_
  refine W.seq ?_
  refine W.sub [(0, _), (1, _)] ⟨rfl, rfl, trivial⟩ ?_
  refine W.reg [(0, false)] (by kernel_rfl) ?_
  intro K hK
  refine x_assign rfl rfl rfl rfl ?_
  refine Ex.done (hK _ _ ?_)
  refine At.then_n ?_
  refine W.seq ?_
  refine W.sub [(0, _), (1, _)] ⟨rfl, rfl, trivial⟩ ?_
  refine W.reg [(0, false), (1, false), (2, true), (3, false)] (by kernel_rfl) ?_
  intro K hK
  refine x_move rfl rfl rfl rfl ?_
  refine x_move rfl rfl rfl rfl ?_
  refine x_call rfl rfl rfl rfl rfl en83 (lastidxS_c hl) ?_
  rintro r w1 ⟨⟨z, rfl, hz⟩, hn⟩
  have M := M.new hn
  refine ⟨trivial, ?_⟩
  refine x_assign rfl rfl rfl rfl ?_
  refine Ex.done (hK _ _ ?_)
  refine At.then_n ?_
  refine W.ret ?_
  refine At.ret1 (.tmp 4) rfl ⟨rfl, trivial⟩ ?_
  exact ⟨⟨z, rfl, hz⟩, M.frm⟩

set_option maxRecDepth 100000 in
theorem hasprefS_c {w0 : World} {s t : List UInt8}  : Ret Try.prog 77 #[strV s, strV t] w0 fun r w' => r = .bool (t.isPrefixOf s) ∧ New w0 w' := by
  have M : Sep w0 [] w0 := St.nil w0
  refine Ret.of_W Try.func77 rfl Try.ntmps77 rfl ?_
  refine W.seq ?_
  refine W.sub [(0, _), (1, _)] ⟨rfl, rfl, trivial⟩ ?_
  refine W.reg [(0, false)] (by kernel_rfl) ?_
  intro K hK
  refine x_assign rfl rfl rfl rfl ?_
  refine Ex.done (hK _ _ ?_)
  refine At.then_n ?_
  refine W.seq ?_
  refine W.sub [(0, _), (1, _)] ⟨rfl, rfl, trivial⟩ ?_
  refine W.reg [(0, false), (1, false), (2, false), (3, false), (4, false), (5, false), (6, false), (7, false), (8, false), (9, false), (10, false), (11, false), (12, false), (13, false)] (by kernel_rfl) ?_
  intro K hK
  refine x_move rfl rfl rfl rfl ?_
  refine x_lenS rfl rfl rfl rfl Try.underlying9 rfl ?_
  refine x_move rfl rfl rfl rfl ?_
  refine x_lenS rfl rfl rfl rfl Try.underlying9 rfl ?_
  refine x_geq _ rfl rfl rfl rfl rfl rfl ?_
  refine x_move rfl rfl rfl rfl ?_
  refine Ex.split 10 rfl (fun hsp1 => ?_) (fun hsp1 => ?_)
  ·
    try simp only [decide_eq_true_eq, decide_eq_false_iff_not, Bool.not_eq_true', Bool.not_eq_false', beq_iff_eq, bne_iff_ne, ne_eq, Bool.not_eq_eq_eq_not, Bool.not_true, Bool.not_false, beq_eq_false_iff_ne, bne_eq_false_iff_eq, Bool.not_not, gt_iff_lt, ge_iff_le] at hsp1
    refine x_move rfl rfl rfl rfl ?_
    refine x_move rfl rfl rfl rfl ?_
    refine x_lenS rfl rfl rfl rfl Try.underlying9 rfl ?_
    refine x_sshS t.length rfl rfl rfl Try.underlying9 rfl rfl rfl (by omega) ?_
    refine x_move rfl rfl rfl rfl ?_
    refine x_eqS _ rfl rfl rfl rfl rfl rfl ?_
    refine x_pickT rfl rfl rfl rfl rfl ?_
    refine x_assign rfl rfl rfl rfl ?_
    refine Ex.done (hK _ _ ?_)
    refine At.then_n ?_
    refine W.ret ?_
    refine At.ret1 (.tmp 4) rfl ⟨rfl, trivial⟩ ?_
    exact ⟨by congr 1; rw [Bool.eq_iff_iff, decide_eq_true_eq, List.isPrefixOf_iff_prefix, List.prefix_iff_eq_take]; exact ⟨Eq.symm, Eq.symm⟩, M.frm⟩
  ·
    try simp only [decide_eq_true_eq, decide_eq_false_iff_not, Bool.not_eq_true', Bool.not_eq_false', beq_iff_eq, bne_iff_ne, ne_eq, Bool.not_eq_eq_eq_not, Bool.not_true, Bool.not_false, beq_eq_false_iff_ne, bne_eq_false_iff_eq, Bool.not_not, gt_iff_lt, ge_iff_le] at hsp1
    refine Ex.skip_ rfl rfl rfl ?_
    refine Ex.skip_ rfl rfl rfl ?_
    refine Ex.skip_ rfl rfl rfl ?_
    refine Ex.skip_ rfl rfl rfl ?_
    refine Ex.skip_ rfl rfl rfl ?_
    refine Ex.skip_ rfl rfl rfl ?_
    refine x_pickF rfl rfl rfl rfl rfl ?_
    refine x_assign rfl rfl rfl rfl ?_
    refine Ex.done (hK _ _ ?_)
    refine At.then_n ?_
    refine W.ret ?_
    refine At.ret1 (.tmp 4) rfl ⟨rfl, trivial⟩ ?_
    exact ⟨by congr 1; rw [eq_comm, ← Bool.not_eq_true, List.isPrefixOf_iff_prefix]; intro h; have := h.length_le; omega, M.frm⟩

set_option maxRecDepth 100000 in
theorem haspref_c {w0 : World} {s t : List UInt8}  : Ret Try.prog 66 #[strV s, strV t] w0 fun r w' => r = .bool (t.isPrefixOf s) ∧ New w0 w' := by
  have M : Sep w0 [] w0 := St.nil w0
  refine Ret.of_W Try.func66 rfl Try.ntmps66 rfl ?_
  refine W.seq ?_
  refine W.sub [(0, _), (1, _)] ⟨rfl, rfl, trivial⟩ ?_
  refine W.reg [(0, false)] (by kernel_rfl) ?_
  intro K hK
  refine x_assign rfl rfl rfl rfl ?_
  refine Ex.done (hK _ _ ?_)
  refine At.then_n ?_
  refine W.seq ?_
  refine W.sub [(0, _), (1, _)] ⟨rfl, rfl, trivial⟩ ?_
  refine W.reg [(0, false), (1, false), (2, true), (3, false)] (by kernel_rfl) ?_
  intro K hK
  refine x_move rfl rfl rfl rfl ?_
  refine x_move rfl rfl rfl rfl ?_
  refine x_call rfl rfl rfl rfl rfl en77 (hasprefS_c) ?_
  rintro r w1 ⟨rfl, hn⟩
  have M := M.new hn
  refine ⟨trivial, ?_⟩
  refine x_assign rfl rfl rfl rfl ?_
  refine Ex.done (hK _ _ ?_)
  refine At.then_n ?_
  refine W.ret ?_
  refine At.ret1 (.tmp 4) rfl ⟨rfl, trivial⟩ ?_
  exact ⟨rfl, M.frm⟩
end Go.Proofs.Ytccfmfehfhfhhaa

namespace Go.Proofs.Ytccfmfehfhfhhaa
open Go Go.Fw Go.RowKit Go.Proofs
set_option linter.unusedVariables false
set_option linter.unusedSimpArgs false

set_option maxRecDepth 100000 in
theorem parent_c {w0 : World} {p : List UInt8}  : Ret Try.prog 60 #[strV p] w0 fun r w' => r = .tuple #[strV (parentP p).1, strV (parentP p).2.1, .int .i64 (parentP p).2.2] ∧ New w0 w' := by
  have M : Sep w0 [] w0 := St.nil w0
  refine Ret.of_W Try.func60 rfl Try.ntmps60 rfl ?_
  refine W.seq ?_
  refine W.sub [(0, _)] ⟨rfl, trivial⟩ ?_
  refine W.reg [(0, false), (1, false), (2, false)] (by kernel_rfl) ?_
  intro K hK
  refine x_assign rfl rfl rfl rfl ?_
  refine x_assign rfl rfl rfl rfl ?_
  refine x_assign rfl rfl rfl rfl ?_
  refine Ex.done (hK _ _ ?_)
  refine At.then_n ?_
  refine W.seq ?_
  refine W.seq ?_
  refine W.sub [(0, _)] ⟨rfl, trivial⟩ ?_
  refine W.reg [(0, false), (1, true), (2, false), (3, false), (4, false), (5, false), (6, false)] (by kernel_rfl) ?_
  intro K hK
  refine x_move rfl rfl rfl rfl ?_
  refine x_call rfl rfl rfl rfl rfl en59 (split_c) ?_
  rintro r wcall1 ⟨vcall1, Lcall1, rfl, Mcall1, hscall1⟩
  have M := M.grow Mcall1
  refine ⟨trivial, ?_⟩
  refine x_move rfl rfl rfl rfl ?_
  refine x_ext rfl rfl rfl rfl rfl ?_
  refine x_ext rfl rfl rfl rfl rfl ?_
  refine x_assign rfl rfl rfl rfl ?_
  refine x_assign rfl rfl rfl rfl ?_
  refine Ex.done (hK _ _ ?_)
  refine At.then_n ?_
  refine W.seq ?_
  refine W.sub [(0, _), (6, _)] ⟨rfl, rfl, trivial⟩ ?_
  refine W.reg [(0, false), (1, false)] (by kernel_rfl) ?_
  intro K hK
  refine x_move rfl rfl rfl rfl ?_
  refine x_nei _ rfl rfl rfl rfl rfl rfl ?_
  refine Ex.done (hK _ _ ?_)
  refine At.then_n ?_
  refine W.cond rfl (fun hco1 => ?_) (fun hco1 => ?_)
  · try simp only [decide_eq_true_eq, decide_eq_false_iff_not, Bool.not_eq_true', Bool.not_eq_false', beq_iff_eq, bne_iff_ne, ne_eq, Bool.not_eq_eq_eq_not, Bool.not_true, Bool.not_false, beq_eq_false_iff_ne, bne_eq_false_iff_eq, Bool.not_not, gt_iff_lt, ge_iff_le] at hco1
    refine W.seq ?_
    refine W.sub [(6, _)] ⟨rfl, trivial⟩ ?_
    refine W.reg [(0, false), (1, false), (2, false), (3, false)] (by kernel_rfl) ?_
    intro K hK
    refine x_move rfl rfl rfl rfl ?_
    refine x_assign rfl rfl rfl rfl ?_
    refine x_assign rfl rfl rfl rfl ?_
    refine x_assign rfl rfl rfl rfl ?_
    refine Ex.done (hK _ _ ?_)
    refine At.then_n ?_
    refine W.ret ?_
    refine At.then_r ?_
    refine At.ret3 (.tmp 2) (.tmp 3) (.tmp 4) rfl ⟨rfl, rfl, rfl, trivial⟩ ?_
    have h := parentP_bad hco1; exact ⟨by rw [h.1, h.2]; rfl, M.frm⟩
  · try simp only [decide_eq_true_eq, decide_eq_false_iff_not, Bool.not_eq_true', Bool.not_eq_false', beq_iff_eq, bne_iff_ne, ne_eq, Bool.not_eq_eq_eq_not, Bool.not_true, Bool.not_false, beq_eq_false_iff_ne, bne_eq_false_iff_eq, Bool.not_not, gt_iff_lt, ge_iff_le] at hco1
    refine W.skip ?_
    refine At.then_n ?_
    refine W.seq ?_
    refine W.seq ?_
    refine W.sub [(0, _)] ⟨rfl, trivial⟩ ?_
    refine W.reg [(0, false), (1, false)] (by kernel_rfl) ?_
    intro K hK
    refine x_move rfl rfl rfl rfl ?_
    refine x_eqS _ rfl rfl rfl rfl rfl rfl ?_
    refine Ex.done (hK _ _ ?_)
    refine At.then_n ?_
    refine W.cond rfl (fun hco2 => ?_) (fun hco2 => ?_)
    · try simp only [decide_eq_true_eq, decide_eq_false_iff_not, Bool.not_eq_true', Bool.not_eq_false', beq_iff_eq, bne_iff_ne, ne_eq, Bool.not_eq_eq_eq_not, Bool.not_true, Bool.not_false, beq_eq_false_iff_ne, bne_eq_false_iff_eq, Bool.not_not, gt_iff_lt, ge_iff_le] at hco2
      refine W.seq ?_
      refine W.sub [] trivial ?_
      refine W.reg [(0, false), (1, false), (2, false)] (by kernel_rfl) ?_
      intro K hK
      refine x_assign rfl rfl rfl rfl ?_
      refine x_assign rfl rfl rfl rfl ?_
      refine x_assign rfl rfl rfl rfl ?_
      refine Ex.done (hK _ _ ?_)
      refine At.then_n ?_
      refine W.ret ?_
      refine At.then_r ?_
      refine At.ret3 (.tmp 2) (.tmp 3) (.tmp 4) rfl ⟨rfl, rfl, rfl, trivial⟩ ?_
      subst hco2; exact ⟨rfl, M.frm⟩
    · try simp only [decide_eq_true_eq, decide_eq_false_iff_not, Bool.not_eq_true', Bool.not_eq_false', beq_iff_eq, bne_iff_ne, ne_eq, Bool.not_eq_eq_eq_not, Bool.not_true, Bool.not_false, beq_eq_false_iff_ne, bne_eq_false_iff_eq, Bool.not_not, gt_iff_lt, ge_iff_le] at hco2
      have hpl0 := splitE_len hco1
      refine W.skip ?_
      refine At.then_n ?_
      refine W.seq ?_
      refine W.sub [(0, _)] ⟨rfl, trivial⟩ ?_
      refine W.reg [(0, false), (1, true), (2, false)] (by kernel_rfl) ?_
      intro K hK
      refine x_move rfl rfl rfl rfl ?_
      refine x_call rfl rfl rfl rfl rfl en75 (lastidx_c (c := 47) (by omega)) ?_
      rintro r w2 ⟨⟨z, rfl, hz⟩, hn⟩
      have M := M.new hn
      have hpl := parentP_last hco2 hco1 hz
      refine ⟨trivial, ?_⟩
      refine x_assign rfl rfl rfl rfl ?_
      refine Ex.done (hK _ _ ?_)
      refine At.then_n ?_
      refine W.seq ?_
      refine W.seq ?_
      refine W.sub [(0, _), (7, _)] ⟨rfl, rfl, trivial⟩ ?_
      refine W.reg [(0, false), (1, false)] (by kernel_rfl) ?_
      intro K hK
      refine x_move rfl rfl rfl rfl ?_
      refine x_lss _ rfl rfl rfl rfl rfl rfl ?_
      refine Ex.done (hK _ _ ?_)
      refine At.then_n ?_
      refine W.cond rfl (fun hco3 => ?_) (fun hco3 => ?_)
      · try simp only [decide_eq_true_eq, decide_eq_false_iff_not, Bool.not_eq_true', Bool.not_eq_false', beq_iff_eq, bne_iff_ne, ne_eq, Bool.not_eq_eq_eq_not, Bool.not_true, Bool.not_false, beq_eq_false_iff_ne, bne_eq_false_iff_eq, Bool.not_not, gt_iff_lt, ge_iff_le] at hco3
        refine W.seq ?_
        refine W.sub [(0, _)] ⟨rfl, trivial⟩ ?_
        refine W.reg [(0, false), (1, false), (2, false), (3, false)] (by kernel_rfl) ?_
        intro K hK
        refine x_move rfl rfl rfl rfl ?_
        refine x_assign rfl rfl rfl rfl ?_
        refine x_assign rfl rfl rfl rfl ?_
        refine x_assign rfl rfl rfl rfl ?_
        refine Ex.done (hK _ _ ?_)
        refine At.then_n ?_
        refine W.ret ?_
        refine At.then_r ?_
        refine At.ret3 (.tmp 2) (.tmp 3) (.tmp 4) rfl ⟨rfl, rfl, rfl, trivial⟩ ?_
        have hz1 : z = -1 := by rcases hz with ⟨h, _⟩ | ⟨a, x, _, _, h⟩ <;> omega
        rw [hpl.1 hz1]; exact ⟨rfl, M.frm⟩
      · try simp only [decide_eq_true_eq, decide_eq_false_iff_not, Bool.not_eq_true', Bool.not_eq_false', beq_iff_eq, bne_iff_ne, ne_eq, Bool.not_eq_eq_eq_not, Bool.not_true, Bool.not_false, beq_eq_false_iff_ne, bne_eq_false_iff_eq, Bool.not_not, gt_iff_lt, ge_iff_le] at hco3
        obtain ⟨i, hi⟩ : ∃ i : Nat, z = (i : Int) := ⟨z.toNat, by omega⟩
        obtain ⟨hlt, hpi⟩ := hpl.2 i hi
        refine W.skip ?_
        refine At.then_n ?_
        refine W.seq ?_
        refine W.sub [(0, _), (7, _)] ⟨rfl, rfl, trivial⟩ ?_
        refine W.regD (by kernel_rfl) #[0, 0, 3, 0, 0, 16, 56, 7, 255, 511] [(0, false), (1, false), (2, false), (3, false), (4, false), (5, false), (6, false), (7, false), (8, false), (9, false)] (by kernel_rfl) ?_
        intro K wD1 hK hwD1
        have M := M.drew hwD1
        refine x_move rfl rfl rfl rfl ?_
        refine x_move rfl rfl rfl rfl ?_
        refine x_sshS i rfl rfl rfl Try.underlying9 rfl rfl hi (by omega) ?_
        refine x_move rfl rfl rfl rfl ?_
        refine x_move rfl rfl rfl rfl ?_
        refine x_add ((i + 1 : Nat) : Int) rfl rfl rfl rfl rfl (by rw [hi]; exact (w64 (by omega) (by omega)).trans (by omega)) ?_
        refine x_sslS (i + 1) rfl rfl rfl Try.underlying9 rfl rfl rfl (by omega) ?_
        refine x_assign rfl rfl rfl rfl ?_
        refine x_assign rfl rfl rfl rfl ?_
        refine x_assign rfl rfl rfl rfl ?_
        refine Ex.done (hK _ _ ?_)
        refine At.then_n ?_
        refine W.ret ?_
        refine At.ret3 (.tmp 2) (.tmp 3) (.tmp 4) rfl ⟨rfl, rfl, rfl, trivial⟩ ?_
        rw [hpi]; exact ⟨rfl, M.frm⟩

set_option maxRecDepth 100000 in
theorem rparent_c {w0 : World} {p : List UInt8}  : Ret Try.prog 25 #[strV p] w0 fun r w' => r = .tuple #[strV (parentP p).1, strV (parentP p).2.1, .int .i64 (parentP p).2.2] ∧ New w0 w' := by
  have M : Sep w0 [] w0 := St.nil w0
  refine Ret.of_W Try.func25 rfl Try.ntmps25 rfl ?_
  refine W.seq ?_
  refine W.sub [(0, _)] ⟨rfl, trivial⟩ ?_
  refine W.reg [(0, false), (1, false), (2, false)] (by kernel_rfl) ?_
  intro K hK
  refine x_assign rfl rfl rfl rfl ?_
  refine x_assign rfl rfl rfl rfl ?_
  refine x_assign rfl rfl rfl rfl ?_
  refine Ex.done (hK _ _ ?_)
  refine At.then_n ?_
  refine W.seq ?_
  refine W.sub [(0, _)] ⟨rfl, trivial⟩ ?_
  refine W.reg [(0, false), (1, true), (2, false), (3, false), (4, false), (5, false), (6, false)] (by kernel_rfl) ?_
  intro K hK
  refine x_move rfl rfl rfl rfl ?_
  refine x_call rfl rfl rfl rfl rfl en33 (rsplit_c) ?_
  rintro r w1 ⟨v1, L1, rfl, M1, hs1⟩
  have M := M.grow M1
  generalize hN : splitN p = N at hs1
  obtain ⟨p1, cap1, rfl, hcap1⟩ := hs1.shape2 (by decide)
  refine ⟨trivial, ?_⟩
  refine x_move rfl rfl rfl rfl ?_
  refine x_ext rfl rfl rfl rfl rfl ?_
  refine x_ext rfl rfl rfl rfl rfl ?_
  refine x_assign rfl rfl rfl rfl ?_
  refine x_assign rfl rfl rfl rfl ?_
  refine Ex.done (hK _ _ ?_)
  refine At.then_n ?_
  refine W.seq ?_
  refine W.seq ?_
  refine W.sub [(5, _), (6, _)] ⟨rfl, rfl, trivial⟩ ?_
  refine W.reg [(0, false), (1, false)] (by kernel_rfl) ?_
  intro K hK
  refine x_move rfl rfl rfl rfl ?_
  refine x_nei _ rfl rfl rfl rfl rfl rfl ?_
  refine Ex.done (hK _ _ ?_)
  refine At.then_n ?_
  refine W.cond rfl (fun hco1 => ?_) (fun hco1 => ?_)
  · try simp only [decide_eq_true_eq, decide_eq_false_iff_not, Bool.not_eq_true', Bool.not_eq_false', beq_iff_eq, bne_iff_ne, ne_eq, Bool.not_eq_eq_eq_not, Bool.not_true, Bool.not_false, beq_eq_false_iff_ne, bne_eq_false_iff_eq, Bool.not_not, gt_iff_lt, ge_iff_le] at hco1
    refine W.seq ?_
    refine W.sub [(6, _)] ⟨rfl, trivial⟩ ?_
    refine W.reg [(0, false), (1, false), (2, false), (3, false)] (by kernel_rfl) ?_
    intro K hK
    refine x_move rfl rfl rfl rfl ?_
    refine x_assign rfl rfl rfl rfl ?_
    refine x_assign rfl rfl rfl rfl ?_
    refine x_assign rfl rfl rfl rfl ?_
    refine Ex.done (hK _ _ ?_)
    refine At.then_n ?_
    refine W.ret ?_
    refine At.then_r ?_
    refine At.ret3 (.tmp 2) (.tmp 3) (.tmp 4) rfl ⟨rfl, rfl, rfl, trivial⟩ ?_
    have h := parentP_bad hco1; exact ⟨by rw [h.1, h.2]; rfl, M.frm⟩
  · try simp only [decide_eq_true_eq, decide_eq_false_iff_not, Bool.not_eq_true', Bool.not_eq_false', beq_iff_eq, bne_iff_ne, ne_eq, Bool.not_eq_eq_eq_not, Bool.not_true, Bool.not_false, beq_eq_false_iff_ne, bne_eq_false_iff_eq, Bool.not_not, gt_iff_lt, ge_iff_le] at hco1
    refine W.skip ?_
    refine At.then_n ?_
    refine W.seq ?_
    refine W.seq ?_
    refine W.sub [(5, _)] ⟨rfl, trivial⟩ ?_
    refine W.reg [(0, false), (1, false), (2, false)] (by kernel_rfl) ?_
    intro K hK
    refine x_move rfl rfl rfl rfl ?_
    refine x_len rfl rfl rfl rfl Try.underlying56 rfl ?_
    refine x_eqi _ rfl rfl rfl rfl rfl rfl ?_
    refine Ex.done (hK _ _ ?_)
    refine At.then_n ?_
    refine W.cond rfl (fun hco2 => ?_) (fun hco2 => ?_)
    · try simp only [decide_eq_true_eq, decide_eq_false_iff_not, Bool.not_eq_true', Bool.not_eq_false', beq_iff_eq, bne_iff_ne, ne_eq, Bool.not_eq_eq_eq_not, Bool.not_true, Bool.not_false, beq_eq_false_iff_ne, bne_eq_false_iff_eq, Bool.not_not, gt_iff_lt, ge_iff_le] at hco2
      refine W.seq ?_
      refine W.sub [] trivial ?_
      refine W.reg [(0, false), (1, false), (2, false)] (by kernel_rfl) ?_
      intro K hK
      refine x_assign rfl rfl rfl rfl ?_
      refine x_assign rfl rfl rfl rfl ?_
      refine x_assign rfl rfl rfl rfl ?_
      refine Ex.done (hK _ _ ?_)
      refine At.then_n ?_
      refine W.ret ?_
      refine At.then_r ?_
      refine At.ret3 (.tmp 2) (.tmp 3) (.tmp 4) rfl ⟨rfl, rfl, rfl, trivial⟩ ?_
      rcases splitN_facts hco1 with ⟨h1, h2⟩ | ⟨h1, h2, _⟩
      · subst h1; exact ⟨rfl, M.frm⟩
      · exact absurd (List.length_eq_zero_iff.1 (show N.length = 0 by omega)) (by rw [← hN, h2]; exact splitS_ne p)
    · try simp only [decide_eq_true_eq, decide_eq_false_iff_not, Bool.not_eq_true', Bool.not_eq_false', beq_iff_eq, bne_iff_ne, ne_eq, Bool.not_eq_eq_eq_not, Bool.not_true, Bool.not_false, beq_eq_false_iff_ne, bne_eq_false_iff_eq, Bool.not_not, gt_iff_lt, ge_iff_le] at hco2
      obtain ⟨h0, h1, h2, h3⟩ : p ≠ [] ∧ splitN p = splitS p ∧ (splitS p).length ≤ 8 ∧ allOK (splitS p) := by
        rcases splitN_facts hco1 with ⟨h1, h2⟩ | h
        · exact absurd (by rw [← hN, h2]; rfl) hco2
        · exact h
      obtain ⟨a, x, hax⟩ := split_snoc p
      obtain rfl : N = a ++ [x] := by rw [← hN, h1, hax]
      have hpp := parentP_some h0 hco1 hax
      have hlen : (a ++ [x]).length = a.length + 1 := by simp
      have hl8 : a.length ≤ 8 := by rw [hax, hlen] at h2; omega
      have hAt := strsO_at hs1 M (fun _ h => h)
      obtain ⟨bk, off, rfl, _⟩ := hAt.blk (j := a.length) (by omega)
      have hta : StrsO L1 (.slice (some ⟨bk, off, none⟩) a.length cap1) a := by
        have := strsO_take hs1 (j := a.length) (by simp)
        rwa [List.take_left' rfl] at this
      refine W.skip ?_
      refine At.then_n ?_
      refine W.seq ?_
      refine W.sub [(5, _)] ⟨rfl, trivial⟩ ?_
      refine W.regD (by kernel_rfl) #[0, 0, 2, 6, 15, 31, 0, 0, 128, 384, 960, 1984, 63, 8191, 16383] [(0, false), (1, false), (2, false), (3, false), (4, false), (6, false), (7, false), (8, false), (9, false), (10, false), (11, false), (5, true), (12, false), (13, false), (14, false)] (by kernel_rfl) ?_
      intro K wD1 hK hwD1
      have M := M.drew hwD1
      refine x_move rfl rfl rfl rfl ?_
      refine x_move rfl rfl rfl rfl ?_
      refine x_len rfl rfl rfl rfl Try.underlying56 rfl ?_
      refine x_sub ((a.length : Nat) : Int) rfl rfl rfl rfl rfl (by rw [w64 (by omega) (by omega)]; omega) ?_
      refine x_slh a.length rfl rfl rfl Try.underlying56 sz9 rfl rfl rfl (by omega) ?_
      refine x_move rfl rfl rfl rfl ?_
      refine x_move rfl rfl rfl rfl ?_
      refine x_len rfl rfl rfl rfl Try.underlying56 rfl ?_
      refine x_sub ((a.length : Nat) : Int) rfl rfl rfl rfl rfl (by rw [w64 (by omega) (by omega)]; omega) ?_
      refine x_ia a.length rfl rfl rfl Try.underlying56 sz9 rfl rfl rfl (by omega) ?_
      refine x_ld rfl rfl rfl Try.underlying9 rfl rfl (StrsAt.cell (strsO_at hs1 M (fun _ h => h)) (x := x) (by simp)) ?_
      refine x_call rfl rfl rfl rfl rfl en36 (rtext_c (strsO_at hta M (fun _ h => h)) (by omega) (fun y hy => by have := allOK_len h3 y (by rw [hax]; exact List.mem_append_left _ hy); omega)) ?_
      rintro r w3 ⟨rfl, hn3⟩
      have M := M.new hn3
      refine ⟨⟨.inr (StrsAt.cell (strsO_at hs1 M (fun _ h => h)) (x := x) (by simp)), trivial⟩, ?_⟩
      refine x_assign rfl rfl rfl rfl ?_
      refine x_assign rfl rfl rfl rfl ?_
      refine x_assign rfl rfl rfl rfl ?_
      refine Ex.done (hK _ _ ?_)
      refine At.then_n ?_
      refine W.ret ?_
      refine At.ret3 (.tmp 2) (.tmp 3) (.tmp 4) rfl ⟨rfl, rfl, rfl, trivial⟩ ?_
      rw [hpp]; exact ⟨rfl, M.frm⟩

set_option maxRecDepth 100000 in
theorem under_c {w0 : World} {p dir : List UInt8}  : Ret Try.prog 45 #[strV p, strV dir] w0 fun r w' => r = .bool (underP p dir) ∧ New w0 w' := by
  have M : Sep w0 [] w0 := St.nil w0
  refine Ret.of_W Try.func45 rfl Try.ntmps45 rfl ?_
  refine W.seq ?_
  refine W.sub [(0, _), (1, _)] ⟨rfl, rfl, trivial⟩ ?_
  refine W.reg [(0, false)] (by kernel_rfl) ?_
  intro K hK
  refine x_assign rfl rfl rfl rfl ?_
  refine Ex.done (hK _ _ ?_)
  refine At.then_n ?_
  refine W.seq ?_
  refine W.sub [(0, _), (1, _)] ⟨rfl, rfl, trivial⟩ ?_
  refine W.reg [(0, false), (1, true), (2, false), (3, false), (4, false), (5, false), (6, false)] (by kernel_rfl) ?_
  intro K hK
  refine x_move rfl rfl rfl rfl ?_
  refine x_call rfl rfl rfl rfl rfl en59 (split_c) ?_
  rintro r wcall1 ⟨vcall1, Lcall1, rfl, Mcall1, hscall1⟩
  have M := M.grow Mcall1
  refine ⟨trivial, ?_⟩
  refine x_move rfl rfl rfl rfl ?_
  refine x_ext rfl rfl rfl rfl rfl ?_
  refine x_ext rfl rfl rfl rfl rfl ?_
  refine x_assign rfl rfl rfl rfl ?_
  refine x_assign rfl rfl rfl rfl ?_
  refine Ex.done (hK _ _ ?_)
  refine At.then_n ?_
  refine W.seq ?_
  refine W.sub [(0, _), (1, _), (6, _)] ⟨rfl, rfl, rfl, trivial⟩ ?_
  refine W.reg [(0, false), (1, true), (2, false), (3, false), (4, false), (5, false), (6, false)] (by kernel_rfl) ?_
  intro K hK
  refine x_move rfl rfl rfl rfl ?_
  refine x_call rfl rfl rfl rfl rfl en59 (split_c) ?_
  rintro r wcall2 ⟨vcall2, Lcall2, rfl, Mcall2, hscall2⟩
  have M := M.grow Mcall2
  refine ⟨trivial, ?_⟩
  refine x_move rfl rfl rfl rfl ?_
  refine x_ext rfl rfl rfl rfl rfl ?_
  refine x_ext rfl rfl rfl rfl rfl ?_
  refine x_assign rfl rfl rfl rfl ?_
  refine x_assign rfl rfl rfl rfl ?_
  refine Ex.done (hK _ _ ?_)
  refine At.then_n ?_
  refine W.seq ?_
  refine W.sub [(0, _), (1, _), (6, _), (8, _)] ⟨rfl, rfl, rfl, rfl, trivial⟩ ?_
  refine W.reg [(0, false), (1, false), (2, false), (3, false), (4, false), (5, false), (6, false), (7, false), (8, false), (9, false), (10, false), (11, false), (12, false), (13, false), (14, false), (15, false), (16, false), (17, false), (18, true), (19, false), (20, false), (21, false)] (by kernel_rfl) ?_
  intro K hK
  refine x_move rfl rfl rfl rfl ?_
  refine x_eqi _ rfl rfl rfl rfl rfl rfl ?_
  refine x_move rfl rfl rfl rfl ?_
  refine Ex.split 21 rfl (fun hsp1 => ?_) (fun hsp1 => ?_)
  ·
    try simp only [decide_eq_true_eq, decide_eq_false_iff_not, Bool.not_eq_true', Bool.not_eq_false', beq_iff_eq, bne_iff_ne, ne_eq, Bool.not_eq_eq_eq_not, Bool.not_true, Bool.not_false, beq_eq_false_iff_ne, bne_eq_false_iff_eq, Bool.not_not, gt_iff_lt, ge_iff_le] at hsp1
    refine x_move rfl rfl rfl rfl ?_
    refine x_eqi _ rfl rfl rfl rfl rfl rfl ?_
    refine x_pickT rfl rfl rfl rfl rfl ?_
    refine x_move rfl rfl rfl rfl ?_
    refine Ex.split 25 rfl (fun hsp2 => ?_) (fun hsp2 => ?_)
    ·
      try simp only [decide_eq_true_eq, decide_eq_false_iff_not, Bool.not_eq_true', Bool.not_eq_false', beq_iff_eq, bne_iff_ne, ne_eq, Bool.not_eq_eq_eq_not, Bool.not_true, Bool.not_false, beq_eq_false_iff_ne, bne_eq_false_iff_eq, Bool.not_not, gt_iff_lt, ge_iff_le] at hsp2
      have hdl := splitE_len hsp2
      refine x_move rfl rfl rfl rfl ?_
      refine x_eqS _ rfl rfl rfl rfl rfl rfl ?_
      refine x_move rfl rfl rfl rfl ?_
      refine Ex.split 28 rfl (fun hsp3 => ?_) (fun hsp3 => ?_)
      ·
        try simp only [decide_eq_true_eq, decide_eq_false_iff_not, Bool.not_eq_true', Bool.not_eq_false', beq_iff_eq, bne_iff_ne, ne_eq, Bool.not_eq_eq_eq_not, Bool.not_true, Bool.not_false, beq_eq_false_iff_ne, bne_eq_false_iff_eq, Bool.not_not, gt_iff_lt, ge_iff_le] at hsp3
        refine Ex.skip_ rfl rfl rfl ?_
        refine Ex.skip_ rfl rfl rfl ?_
        refine Ex.skip_ rfl rfl rfl ?_
        refine x_pickT rfl rfl rfl rfl rfl ?_
        refine x_move rfl rfl rfl rfl ?_
        refine Ex.skip_ rfl rfl rfl ?_
        refine Ex.skip_ rfl rfl rfl ?_
        refine Ex.skip_ rfl rfl rfl ?_
        refine Ex.skipm_ rfl rfl rfl ?_
        refine x_pickT rfl rfl rfl rfl rfl ?_
        refine x_pickT rfl rfl rfl rfl rfl ?_
        refine x_assign rfl rfl rfl rfl ?_
        refine Ex.done (hK _ _ ?_)
        refine At.then_n ?_
        refine W.ret ?_
        refine At.ret1 (.tmp 4) rfl ⟨rfl, trivial⟩ ?_
        exact ⟨by rw [← under_eq]; simp [underQ, splitE_nil, *], M.frm⟩
      ·
        try simp only [decide_eq_true_eq, decide_eq_false_iff_not, Bool.not_eq_true', Bool.not_eq_false', beq_iff_eq, bne_iff_ne, ne_eq, Bool.not_eq_eq_eq_not, Bool.not_true, Bool.not_false, beq_eq_false_iff_ne, bne_eq_false_iff_eq, Bool.not_not, gt_iff_lt, ge_iff_le] at hsp3
        refine x_move rfl rfl rfl rfl ?_
        refine x_move rfl rfl rfl rfl ?_
        refine x_eqS _ rfl rfl rfl rfl rfl rfl ?_
        refine x_pickF rfl rfl rfl rfl rfl ?_
        refine x_move rfl rfl rfl rfl ?_
        refine Ex.split 33 rfl (fun hsp4 => ?_) (fun hsp4 => ?_)
        ·
          try simp only [decide_eq_true_eq, decide_eq_false_iff_not, Bool.not_eq_true', Bool.not_eq_false', beq_iff_eq, bne_iff_ne, ne_eq, Bool.not_eq_eq_eq_not, Bool.not_true, Bool.not_false, beq_eq_false_iff_ne, bne_eq_false_iff_eq, Bool.not_not, gt_iff_lt, ge_iff_le] at hsp4
          refine Ex.skip_ rfl rfl rfl ?_
          refine Ex.skip_ rfl rfl rfl ?_
          refine Ex.skip_ rfl rfl rfl ?_
          refine Ex.skipm_ rfl rfl rfl ?_
          refine x_pickT rfl rfl rfl rfl rfl ?_
          refine x_pickT rfl rfl rfl rfl rfl ?_
          refine x_assign rfl rfl rfl rfl ?_
          refine Ex.done (hK _ _ ?_)
          refine At.then_n ?_
          refine W.ret ?_
          refine At.ret1 (.tmp 4) rfl ⟨rfl, trivial⟩ ?_
          exact ⟨by rw [← under_eq]; simp [underQ, splitE_nil, *], M.frm⟩
        ·
          try simp only [decide_eq_true_eq, decide_eq_false_iff_not, Bool.not_eq_true', Bool.not_eq_false', beq_iff_eq, bne_iff_ne, ne_eq, Bool.not_eq_eq_eq_not, Bool.not_true, Bool.not_false, beq_eq_false_iff_ne, bne_eq_false_iff_eq, Bool.not_not, gt_iff_lt, ge_iff_le] at hsp4
          refine x_move rfl rfl rfl rfl ?_
          refine x_move rfl rfl rfl rfl ?_
          refine x_catS rfl rfl rfl rfl rfl (by simp; omega) ?_
          refine x_call rfl rfl rfl rfl rfl en66 (haspref_c) ?_
          rintro r w3 ⟨rfl, hn3⟩
          have M := M.new hn3
          refine ⟨trivial, ?_⟩
          refine x_pickF rfl rfl rfl rfl rfl ?_
          refine x_pickT rfl rfl rfl rfl rfl ?_
          refine x_assign rfl rfl rfl rfl ?_
          refine Ex.done (hK _ _ ?_)
          refine At.then_n ?_
          refine W.ret ?_
          refine At.ret1 (.tmp 4) rfl ⟨rfl, trivial⟩ ?_
          exact ⟨by rw [← under_eq]; simp [underQ, splitE_nil, *], M.frm⟩
    ·
      try simp only [decide_eq_true_eq, decide_eq_false_iff_not, Bool.not_eq_true', Bool.not_eq_false', beq_iff_eq, bne_iff_ne, ne_eq, Bool.not_eq_eq_eq_not, Bool.not_true, Bool.not_false, beq_eq_false_iff_ne, bne_eq_false_iff_eq, Bool.not_not, gt_iff_lt, ge_iff_le] at hsp2
      refine Ex.skip_ rfl rfl rfl ?_
      refine Ex.skip_ rfl rfl rfl ?_
      refine Ex.skip_ rfl rfl rfl ?_
      refine Ex.skip_ rfl rfl rfl ?_
      refine Ex.skip_ rfl rfl rfl ?_
      refine Ex.skip_ rfl rfl rfl ?_
      refine Ex.skip_ rfl rfl rfl ?_
      refine Ex.skip_ rfl rfl rfl ?_
      refine Ex.skip_ rfl rfl rfl ?_
      refine Ex.skip_ rfl rfl rfl ?_
      refine Ex.skip_ rfl rfl rfl ?_
      refine Ex.skipm_ rfl rfl rfl ?_
      refine Ex.skip_ rfl rfl rfl ?_
      refine x_pickF rfl rfl rfl rfl rfl ?_
      refine x_assign rfl rfl rfl rfl ?_
      refine Ex.done (hK _ _ ?_)
      refine At.then_n ?_
      refine W.ret ?_
      refine At.ret1 (.tmp 4) rfl ⟨rfl, trivial⟩ ?_
      exact ⟨by rw [← under_eq]; simp [underQ, splitE_nil, *], M.frm⟩
  ·
    try simp only [decide_eq_true_eq, decide_eq_false_iff_not, Bool.not_eq_true', Bool.not_eq_false', beq_iff_eq, bne_iff_ne, ne_eq, Bool.not_eq_eq_eq_not, Bool.not_true, Bool.not_false, beq_eq_false_iff_ne, bne_eq_false_iff_eq, Bool.not_not, gt_iff_lt, ge_iff_le] at hsp1
    refine Ex.skip_ rfl rfl rfl ?_
    refine Ex.skip_ rfl rfl rfl ?_
    refine x_pickF rfl rfl rfl rfl rfl ?_
    refine x_move rfl rfl rfl rfl ?_
    refine Ex.skip_ rfl rfl rfl ?_
    refine Ex.skip_ rfl rfl rfl ?_
    refine Ex.skip_ rfl rfl rfl ?_
    refine Ex.skip_ rfl rfl rfl ?_
    refine Ex.skip_ rfl rfl rfl ?_
    refine Ex.skip_ rfl rfl rfl ?_
    refine Ex.skip_ rfl rfl rfl ?_
    refine Ex.skip_ rfl rfl rfl ?_
    refine Ex.skip_ rfl rfl rfl ?_
    refine Ex.skip_ rfl rfl rfl ?_
    refine Ex.skip_ rfl rfl rfl ?_
    refine Ex.skipm_ rfl rfl rfl ?_
    refine Ex.skip_ rfl rfl rfl ?_
    refine x_pickF rfl rfl rfl rfl rfl ?_
    refine x_assign rfl rfl rfl rfl ?_
    refine Ex.done (hK _ _ ?_)
    refine At.then_n ?_
    refine W.ret ?_
    refine At.ret1 (.tmp 4) rfl ⟨rfl, trivial⟩ ?_
    exact ⟨by rw [← under_eq]; simp [underQ, splitE_nil, *], M.frm⟩

set_option maxRecDepth 100000 in
theorem runder_c {w0 : World} {p dir : List UInt8}  : Ret Try.prog 18 #[strV p, strV dir] w0 fun r w' => r = .bool (underP p dir) ∧ New w0 w' := by
  have M : Sep w0 [] w0 := St.nil w0
  refine Ret.of_W Try.func18 rfl Try.ntmps18 rfl ?_
  refine W.seq ?_
  refine W.sub [(0, _), (1, _)] ⟨rfl, rfl, trivial⟩ ?_
  refine W.reg [(0, false)] (by kernel_rfl) ?_
  intro K hK
  refine x_assign rfl rfl rfl rfl ?_
  refine Ex.done (hK _ _ ?_)
  refine At.then_n ?_
  refine W.seq ?_
  refine W.sub [(0, _), (1, _)] ⟨rfl, rfl, trivial⟩ ?_
  refine W.reg [(0, false), (1, true), (2, false), (3, false), (4, false), (5, false), (6, false)] (by kernel_rfl) ?_
  intro K hK
  refine x_move rfl rfl rfl rfl ?_
  refine x_call rfl rfl rfl rfl rfl en33 (rsplit_c) ?_
  rintro r w1 ⟨v1, L1, rfl, M1, hs1⟩
  have M := M.grow M1
  generalize hA : splitN p = A at hs1
  obtain ⟨p1, cap1, rfl, hcap1⟩ := hs1.shape2 (by decide)
  refine ⟨trivial, ?_⟩
  refine x_move rfl rfl rfl rfl ?_
  refine x_ext rfl rfl rfl rfl rfl ?_
  refine x_ext rfl rfl rfl rfl rfl ?_
  refine x_assign rfl rfl rfl rfl ?_
  refine x_assign rfl rfl rfl rfl ?_
  refine Ex.done (hK _ _ ?_)
  refine At.then_n ?_
  refine W.seq ?_
  refine W.sub [(1, _), (5, _), (6, _)] ⟨rfl, rfl, rfl, trivial⟩ ?_
  refine W.reg [(0, false), (1, true), (2, false), (3, false), (4, false), (5, false), (6, false)] (by kernel_rfl) ?_
  intro K hK
  refine x_move rfl rfl rfl rfl ?_
  refine x_call rfl rfl rfl rfl rfl en33 (rsplit_c) ?_
  rintro r w2 ⟨v2, L2, rfl, M2, hs2⟩
  have M := M.grow M2
  generalize hB : splitN dir = B at hs2
  obtain ⟨p2, cap2, rfl, hcap2⟩ := hs2.shape2 (by decide)
  have hU := underP_eq p dir
  have hlA := splitN_len p
  have hlB := splitN_len dir
  rw [hA] at hlA
  rw [hB] at hlB
  rw [hA, hB] at hU
  refine ⟨trivial, ?_⟩
  refine x_move rfl rfl rfl rfl ?_
  refine x_ext rfl rfl rfl rfl rfl ?_
  refine x_ext rfl rfl rfl rfl rfl ?_
  refine x_assign rfl rfl rfl rfl ?_
  refine x_assign rfl rfl rfl rfl ?_
  refine Ex.done (hK _ _ ?_)
  refine At.then_n ?_
  refine W.seq ?_
  refine W.seq ?_
  refine W.sub [(5, _), (6, _), (7, _), (8, _)] ⟨rfl, rfl, rfl, rfl, trivial⟩ ?_
  refine W.reg [(0, false), (1, false), (2, false), (3, false), (4, false), (5, false), (6, false), (7, false), (8, false), (9, false), (10, false), (11, false), (12, false)] (by kernel_rfl) ?_
  intro K hK
  refine x_move rfl rfl rfl rfl ?_
  refine x_nei _ rfl rfl rfl rfl rfl rfl ?_
  refine x_move rfl rfl rfl rfl ?_
  refine Ex.split 22 rfl (fun hsp1 => ?_) (fun hsp1 => ?_)
  ·
    try simp only [decide_eq_true_eq, decide_eq_false_iff_not, Bool.not_eq_true', Bool.not_eq_false', beq_iff_eq, bne_iff_ne, ne_eq, Bool.not_eq_eq_eq_not, Bool.not_true, Bool.not_false, beq_eq_false_iff_ne, bne_eq_false_iff_eq, Bool.not_not, gt_iff_lt, ge_iff_le] at hsp1
    refine Ex.skip_ rfl rfl rfl ?_
    refine Ex.skip_ rfl rfl rfl ?_
    refine x_pickT rfl rfl rfl rfl rfl ?_
    refine x_move rfl rfl rfl rfl ?_
    refine Ex.skip_ rfl rfl rfl ?_
    refine Ex.skip_ rfl rfl rfl ?_
    refine Ex.skip_ rfl rfl rfl ?_
    refine Ex.skip_ rfl rfl rfl ?_
    refine Ex.skip_ rfl rfl rfl ?_
    refine x_pickT rfl rfl rfl rfl rfl ?_
    refine Ex.done (hK _ _ ?_)
    refine At.then_n ?_
    refine W.condT rfl ?_
    refine W.seq ?_
    refine W.sub [] trivial ?_
    refine W.reg [(0, false)] (by kernel_rfl) ?_
    intro K hK
    refine x_assign rfl rfl rfl rfl ?_
    refine Ex.done (hK _ _ ?_)
    refine At.then_n ?_
    refine W.ret ?_
    refine At.then_r ?_
    refine At.ret1 (.tmp 4) rfl ⟨rfl, trivial⟩ ?_
    exact ⟨by rw [hU]; simp [hsp1], M.frm⟩
  ·
    try simp only [decide_eq_true_eq, decide_eq_false_iff_not, Bool.not_eq_true', Bool.not_eq_false', beq_iff_eq, bne_iff_ne, ne_eq, Bool.not_eq_eq_eq_not, Bool.not_true, Bool.not_false, beq_eq_false_iff_ne, bne_eq_false_iff_eq, Bool.not_not, gt_iff_lt, ge_iff_le] at hsp1
    refine x_move rfl rfl rfl rfl ?_
    refine x_nei _ rfl rfl rfl rfl rfl rfl ?_
    refine x_pickF rfl rfl rfl rfl rfl ?_
    refine x_move rfl rfl rfl rfl ?_
    refine Ex.split 26 rfl (fun hsp2 => ?_) (fun hsp2 => ?_)
    ·
      try simp only [decide_eq_true_eq, decide_eq_false_iff_not, Bool.not_eq_true', Bool.not_eq_false', beq_iff_eq, bne_iff_ne, ne_eq, Bool.not_eq_eq_eq_not, Bool.not_true, Bool.not_false, beq_eq_false_iff_ne, bne_eq_false_iff_eq, Bool.not_not, gt_iff_lt, ge_iff_le] at hsp2
      refine Ex.skip_ rfl rfl rfl ?_
      refine Ex.skip_ rfl rfl rfl ?_
      refine Ex.skip_ rfl rfl rfl ?_
      refine Ex.skip_ rfl rfl rfl ?_
      refine Ex.skip_ rfl rfl rfl ?_
      refine x_pickT rfl rfl rfl rfl rfl ?_
      refine Ex.done (hK _ _ ?_)
      refine At.then_n ?_
      refine W.condT rfl ?_
      refine W.seq ?_
      refine W.sub [] trivial ?_
      refine W.reg [(0, false)] (by kernel_rfl) ?_
      intro K hK
      refine x_assign rfl rfl rfl rfl ?_
      refine Ex.done (hK _ _ ?_)
      refine At.then_n ?_
      refine W.ret ?_
      refine At.then_r ?_
      refine At.ret1 (.tmp 4) rfl ⟨rfl, trivial⟩ ?_
      exact ⟨by rw [hU]; simp [hsp2], M.frm⟩
    ·
      try simp only [decide_eq_true_eq, decide_eq_false_iff_not, Bool.not_eq_true', Bool.not_eq_false', beq_iff_eq, bne_iff_ne, ne_eq, Bool.not_eq_eq_eq_not, Bool.not_true, Bool.not_false, beq_eq_false_iff_ne, bne_eq_false_iff_eq, Bool.not_not, gt_iff_lt, ge_iff_le] at hsp2
      refine x_move rfl rfl rfl rfl ?_
      refine x_len rfl rfl rfl rfl Try.underlying56 rfl ?_
      refine x_move rfl rfl rfl rfl ?_
      refine x_len rfl rfl rfl rfl Try.underlying56 rfl ?_
      refine x_gtr _ rfl rfl rfl rfl rfl rfl ?_
      refine x_pickF rfl rfl rfl rfl rfl ?_
      refine Ex.done (hK _ _ ?_)
      refine At.then_n ?_
      refine W.cond rfl (fun hco3 => ?_) (fun hco3 => ?_)
      · try simp only [decide_eq_true_eq, decide_eq_false_iff_not, Bool.not_eq_true', Bool.not_eq_false', beq_iff_eq, bne_iff_ne, ne_eq, Bool.not_eq_eq_eq_not, Bool.not_true, Bool.not_false, beq_eq_false_iff_ne, bne_eq_false_iff_eq, Bool.not_not, gt_iff_lt, ge_iff_le] at hco3
        refine W.seq ?_
        refine W.sub [] trivial ?_
        refine W.reg [(0, false)] (by kernel_rfl) ?_
        intro K hK
        refine x_assign rfl rfl rfl rfl ?_
        refine Ex.done (hK _ _ ?_)
        refine At.then_n ?_
        refine W.ret ?_
        refine At.then_r ?_
        refine At.ret1 (.tmp 4) rfl ⟨rfl, trivial⟩ ?_
        exact ⟨by rw [hU, pre_long (by omega)]; simp, M.frm⟩
      · try simp only [decide_eq_true_eq, decide_eq_false_iff_not, Bool.not_eq_true', Bool.not_eq_false', beq_iff_eq, bne_iff_ne, ne_eq, Bool.not_eq_eq_eq_not, Bool.not_true, Bool.not_false, beq_eq_false_iff_ne, bne_eq_false_iff_eq, Bool.not_not, gt_iff_lt, ge_iff_le] at hco3
        refine W.skip ?_
        refine At.then_n ?_
        refine W.seq ?_
        refine W.seq ?_
        refine W.sub [(5, _), (7, _)] ⟨rfl, rfl, trivial⟩ ?_
        refine W.reg [(0, false)] (by kernel_rfl) ?_
        intro K hK
        refine x_assign rfl rfl rfl rfl ?_
        refine Ex.done (hK _ _ ?_)
        refine At.then_n ?_
        refine W.block ?_
        refine W.loop (σ := Nat) (fun q => [(5, _), (7, _), (9, .int .i64 ((q : Nat) : Int))]) (fun q w => q ≤ B.length ∧ B.take q = A.take q ∧ Sep w0 (L1 ++ L2) w) (fun q => B.length - q) 0 ⟨rfl, rfl, rfl, trivial⟩ ⟨Nat.zero_le _, rfl, M⟩ ?_
        rintro q w ⟨hq, hpre, M⟩
        refine W.seq ?_
        refine W.seq ?_
        refine W.sub [(5, _), (7, _), (9, _)] ⟨rfl, rfl, rfl, trivial⟩ ?_
        refine W.reg [(0, false), (1, false), (2, false), (3, false)] (by kernel_rfl) ?_
        intro K hK
        refine x_move rfl rfl rfl rfl ?_
        refine x_move rfl rfl rfl rfl ?_
        refine x_len rfl rfl rfl rfl Try.underlying56 rfl ?_
        refine x_lss _ rfl rfl rfl rfl rfl rfl ?_
        refine Ex.done (hK _ _ ?_)
        refine At.then_n ?_
        refine W.cond rfl (fun hco4 => ?_) (fun hco4 => ?_)
        · try simp only [decide_eq_true_eq, decide_eq_false_iff_not, Bool.not_eq_true', Bool.not_eq_false', beq_iff_eq, bne_iff_ne, ne_eq, Bool.not_eq_eq_eq_not, Bool.not_true, Bool.not_false, beq_eq_false_iff_ne, bne_eq_false_iff_eq, Bool.not_not, gt_iff_lt, ge_iff_le] at hco4
          obtain ⟨y, hy⟩ := get_lt (l := B) (q := q) (by omega)
          obtain ⟨x, hx⟩ := get_lt (l := A) (q := q) (by omega)
          obtain ⟨bk1, off1, rfl, _⟩ := (strsO_at hs1 M (fun _ h => List.mem_append_left _ h)).blk (j := q) (by omega)
          obtain ⟨bk2, off2, rfl, _⟩ := (strsO_at hs2 M (fun _ h => List.mem_append_right _ h)).blk (j := q) (by omega)
          refine W.skip ?_
          refine At.then_n ?_
          refine W.seq ?_
          refine W.block ?_
          refine W.seq ?_
          refine W.sub [(5, _), (7, _), (9, _)] ⟨rfl, rfl, rfl, trivial⟩ ?_
          refine W.regD (by kernel_rfl) #[0, 0, 3, 7, 0, 0, 48, 112, 255] [(0, false), (1, false), (2, false), (3, false), (4, false), (5, false), (6, false), (7, false), (8, false)] (by kernel_rfl) ?_
          intro K wD1 hK hwD1
          have M := M.drew hwD1
          refine x_move rfl rfl rfl rfl ?_
          refine x_move rfl rfl rfl rfl ?_
          refine x_ia q rfl rfl rfl Try.underlying56 sz9 rfl rfl rfl (by omega) ?_
          refine x_ld rfl rfl rfl Try.underlying9 rfl rfl (StrsAt.cell (strsO_at hs1 M (fun _ h => List.mem_append_left _ h)) hx) ?_
          refine x_move rfl rfl rfl rfl ?_
          refine x_move rfl rfl rfl rfl ?_
          refine x_ia q rfl rfl rfl Try.underlying56 sz9 rfl rfl rfl (by omega) ?_
          refine x_ld rfl rfl rfl Try.underlying9 rfl rfl (StrsAt.cell (strsO_at hs2 M (fun _ h => List.mem_append_right _ h)) hy) ?_
          refine x_neS _ rfl rfl rfl rfl rfl rfl ?_
          refine Ex.done (hK _ _ ?_)
          refine At.then_n ?_
          refine W.cond rfl (fun hco5 => ?_) (fun hco5 => ?_)
          · try simp only [decide_eq_true_eq, decide_eq_false_iff_not, Bool.not_eq_true', Bool.not_eq_false', beq_iff_eq, bne_iff_ne, ne_eq, Bool.not_eq_eq_eq_not, Bool.not_true, Bool.not_false, beq_eq_false_iff_ne, bne_eq_false_iff_eq, Bool.not_not, gt_iff_lt, ge_iff_le] at hco5
            refine W.seq ?_
            refine W.sub [] trivial ?_
            refine W.reg [(0, false)] (by kernel_rfl) ?_
            intro K hK
            refine x_assign rfl rfl rfl rfl ?_
            refine Ex.done (hK _ _ ?_)
            refine At.then_n ?_
            refine W.ret ?_
            refine At.blk_r ?_
            refine At.then_r ?_
            refine At.loop_r ?_
            refine At.blk_r ?_
            refine At.then_r ?_
            refine At.ret1 (.tmp 4) rfl ⟨rfl, trivial⟩ ?_
            exact ⟨by rw [hU, pre_no hx hy hco5]; simp, M.frm⟩
          · try simp only [decide_eq_true_eq, decide_eq_false_iff_not, Bool.not_eq_true', Bool.not_eq_false', beq_iff_eq, bne_iff_ne, ne_eq, Bool.not_eq_eq_eq_not, Bool.not_true, Bool.not_false, beq_eq_false_iff_ne, bne_eq_false_iff_eq, Bool.not_not, gt_iff_lt, ge_iff_le] at hco5
            refine W.skip ?_
            refine At.blk_n ?_
            refine At.then_n ?_
            refine W.sub [(5, _), (7, _), (9, _)] ⟨rfl, rfl, rfl, trivial⟩ ?_
            refine W.reg [(0, false), (1, false), (2, false)] (by kernel_rfl) ?_
            intro K hK
            refine x_move rfl rfl rfl rfl ?_
            refine x_add _ rfl rfl rfl rfl rfl (wadd (by omega) (by omega)) ?_
            refine x_assign rfl rfl rfl rfl ?_
            refine Ex.done (hK _ _ ?_)
            exact At.back (q + 1) ⟨rfl, rfl, rfl, trivial⟩ ⟨by omega, pre_step hpre hx hy hco5, M⟩ (by first | omega | (simp only; omega) | (simp; done) | (simp; omega))
        · try simp only [decide_eq_true_eq, decide_eq_false_iff_not, Bool.not_eq_true', Bool.not_eq_false', beq_iff_eq, bne_iff_ne, ne_eq, Bool.not_eq_eq_eq_not, Bool.not_true, Bool.not_false, beq_eq_false_iff_ne, bne_eq_false_iff_eq, Bool.not_not, gt_iff_lt, ge_iff_le] at hco4
          refine W.exit ?_
          refine At.then_x ?_
          refine At.loop_x ?_
          refine At.blk_x ?_
          refine At.then_n ?_
          refine W.seq ?_
          refine W.sub [] trivial ?_
          refine W.reg [(0, false)] (by kernel_rfl) ?_
          intro K hK
          refine x_assign rfl rfl rfl rfl ?_
          refine Ex.done (hK _ _ ?_)
          refine At.then_n ?_
          refine W.ret ?_
          refine At.ret1 (.tmp 4) rfl ⟨rfl, trivial⟩ ?_
          have hqB : q = B.length := by omega
          subst hqB
          exact ⟨by rw [hU, pre_yes hpre, hsp1, hsp2]; rfl, M.frm⟩
end Go.Proofs.Ytccfmfehfhfhhaa

namespace Go.Proofs.Ytccfmfehfhfhhaa
open Go Go.Fw Go.RowKit Go.Proofs
set_option linter.unusedVariables false
set_option linter.unusedSimpArgs false


end Go.Proofs.Ytccfmfehfhfhhaa

namespace Go.Proofs.Ytccfmfehfhfhhaa
open Go Go.Fw Go.RowKit Go.Proofs
set_option linter.unusedVariables false
set_option linter.unusedSimpArgs false

set_option maxRecDepth 100000 in
theorem rlist_c {w0 : World} {s : List UInt8} (hl : s.length ≤ 1099511627776) : Ret Try.prog 47 #[strV s] w0 fun r w' => ∃ Lr, Sep w0 Lr w' ∧ StrsO Lr r (namesP s) := by
  have M : Sep w0 [] w0 := St.nil w0
  refine Ret.of_W Try.func47 rfl Try.ntmps47 rfl ?_
  refine W.seq ?_
  refine W.sub [(0, _)] ⟨rfl, trivial⟩ ?_
  refine W.reg [(0, false)] (by kernel_rfl) ?_
  intro K hK
  refine x_assign rfl rfl rfl rfl ?_
  refine Ex.done (hK _ _ ?_)
  refine At.then_n ?_
  refine W.seq ?_
  refine W.seq ?_
  refine W.sub [(0, _)] ⟨rfl, trivial⟩ ?_
  refine W.reg [(0, false), (1, false)] (by kernel_rfl) ?_
  intro K hK
  refine x_move rfl rfl rfl rfl ?_
  refine x_eqS _ rfl rfl rfl rfl rfl rfl ?_
  refine Ex.done (hK _ _ ?_)
  refine At.then_n ?_
  refine W.cond rfl (fun hco1 => ?_) (fun hco1 => ?_)
  · try simp only [decide_eq_true_eq, decide_eq_false_iff_not, Bool.not_eq_true', Bool.not_eq_false', beq_iff_eq, bne_iff_ne, ne_eq, Bool.not_eq_eq_eq_not, Bool.not_true, Bool.not_false, beq_eq_false_iff_ne, bne_eq_false_iff_eq, Bool.not_not, gt_iff_lt, ge_iff_le] at hco1
    refine W.seq ?_
    refine W.sub [] trivial ?_
    refine W.reg [(0, false)] (by kernel_rfl) ?_
    intro K hK
    refine x_assign rfl rfl rfl rfl ?_
    refine Ex.done (hK _ _ ?_)
    refine At.then_n ?_
    refine W.ret ?_
    refine At.then_r ?_
    refine At.ret1 (.tmp 2) rfl ⟨rfl, trivial⟩ ?_
    subst hco1; exact ⟨[], M.frm, OwL.nil⟩
  · try simp only [decide_eq_true_eq, decide_eq_false_iff_not, Bool.not_eq_true', Bool.not_eq_false', beq_iff_eq, bne_iff_ne, ne_eq, Bool.not_eq_eq_eq_not, Bool.not_true, Bool.not_false, beq_eq_false_iff_ne, bne_eq_false_iff_eq, Bool.not_not, gt_iff_lt, ge_iff_le] at hco1
    refine W.skip ?_
    refine At.then_n ?_
    refine W.seq ?_
    refine W.sub [(0, _)] ⟨rfl, trivial⟩ ?_
    refine W.reg [(0, false), (1, true), (2, false)] (by kernel_rfl) ?_
    intro K hK
    refine x_move rfl rfl rfl rfl ?_
    refine x_call rfl rfl rfl rfl rfl en61 (rpieces_c (by omega)) ?_
    rintro v1 w1 ⟨L1, M1, hs1⟩
    have M := M.grow M1
    refine ⟨trivial, ?_⟩
    refine x_assign rfl rfl rfl rfl ?_
    refine Ex.done (hK _ _ ?_)
    refine At.then_n ?_
    refine W.ret ?_
    refine At.ret1 (.tmp 2) rfl ⟨rfl, trivial⟩ ?_
    rw [namesP_some hco1]; exact ⟨L1, M, hs1⟩

set_option maxRecDepth 100000 in
theorem rbelow_c {w0 : World} {a b : List UInt8} (hl : a.length ≤ 9223372036854775807) : Ret Try.prog 48 #[strV a, strV b] w0 fun r w' => r = .bool (decide (Lib.compareBytes a b < 0)) ∧ New w0 w' := by
  have M : Sep w0 [] w0 := St.nil w0
  refine Ret.of_W Try.func48 rfl Try.ntmps48 rfl ?_
  refine W.seq ?_
  refine W.sub [(0, _), (1, _)] ⟨rfl, rfl, trivial⟩ ?_
  refine W.reg [(0, false)] (by kernel_rfl) ?_
  intro K hK
  refine x_assign rfl rfl rfl rfl ?_
  refine Ex.done (hK _ _ ?_)
  refine At.then_n ?_
  refine W.seq ?_
  refine W.seq ?_
  refine W.sub [(0, _), (1, _)] ⟨rfl, rfl, trivial⟩ ?_
  refine W.reg [(0, false)] (by kernel_rfl) ?_
  intro K hK
  refine x_assign rfl rfl rfl rfl ?_
  refine Ex.done (hK _ _ ?_)
  refine At.then_n ?_
  refine W.block ?_
  refine W.loop (σ := Nat) (fun q => [(0, _), (1, _), (5, .int .i64 ((q : Nat) : Int))]) (fun q w => q ≤ a.length ∧ q ≤ b.length ∧ Lib.compareBytes a b = Lib.compareBytes (a.drop q) (b.drop q) ∧ Sep w0 [] w) (fun q => a.length - q) 0 ⟨rfl, rfl, rfl, trivial⟩ ⟨Nat.zero_le _, Nat.zero_le _, rfl, M⟩ ?_
  rintro q w ⟨hqa, hqb, hcmp, M⟩
  refine W.seq ?_
  refine W.seq ?_
  refine W.sub [(0, _), (1, _), (5, _)] ⟨rfl, rfl, rfl, trivial⟩ ?_
  refine W.reg [(0, false), (1, false), (2, false), (3, false), (4, false), (5, false), (6, false), (7, false), (8, false), (9, false)] (by kernel_rfl) ?_
  intro K hK
  refine x_move rfl rfl rfl rfl ?_
  refine x_move rfl rfl rfl rfl ?_
  refine x_lenS rfl rfl rfl rfl Try.underlying9 rfl ?_
  refine x_lss _ rfl rfl rfl rfl rfl rfl ?_
  refine x_move rfl rfl rfl rfl ?_
  refine Ex.split 10 rfl (fun hsp1 => ?_) (fun hsp1 => ?_)
  ·
    try simp only [decide_eq_true_eq, decide_eq_false_iff_not, Bool.not_eq_true', Bool.not_eq_false', beq_iff_eq, bne_iff_ne, ne_eq, Bool.not_eq_eq_eq_not, Bool.not_true, Bool.not_false, beq_eq_false_iff_ne, bne_eq_false_iff_eq, Bool.not_not, gt_iff_lt, ge_iff_le] at hsp1
    refine x_move rfl rfl rfl rfl ?_
    refine x_move rfl rfl rfl rfl ?_
    refine x_lenS rfl rfl rfl rfl Try.underlying9 rfl ?_
    refine x_lss _ rfl rfl rfl rfl rfl rfl ?_
    refine x_pickT rfl rfl rfl rfl rfl ?_
    refine Ex.done (hK _ _ ?_)
    refine At.then_n ?_
    refine W.cond rfl (fun hco1 => ?_) (fun hco1 => ?_)
    · try simp only [decide_eq_true_eq, decide_eq_false_iff_not, Bool.not_eq_true', Bool.not_eq_false', beq_iff_eq, bne_iff_ne, ne_eq, Bool.not_eq_eq_eq_not, Bool.not_true, Bool.not_false, beq_eq_false_iff_ne, bne_eq_false_iff_eq, Bool.not_not, gt_iff_lt, ge_iff_le] at hco1
      obtain ⟨c, hc⟩ := get_lt (l := a) (q := q) (by omega)
      obtain ⟨d, hd⟩ := get_lt (l := b) (q := q) (by omega)
      refine W.skip ?_
      refine At.then_n ?_
      refine W.seq ?_
      refine W.block ?_
      refine W.seq ?_
      refine W.sub [(0, _), (1, _), (5, _)] ⟨rfl, rfl, rfl, trivial⟩ ?_
      refine W.regD (by kernel_rfl) #[0, 0, 3, 0, 0, 24, 63] [(0, false), (1, false), (2, false), (3, false), (4, false), (5, false), (6, false)] (by kernel_rfl) ?_
      intro K wD1 hK hwD1
      have M := M.drew hwD1
      refine x_move rfl rfl rfl rfl ?_
      refine x_move rfl rfl rfl rfl ?_
      refine x_ixS q rfl rfl rfl Try.underlying9 rfl rfl rfl hc ?_
      refine x_move rfl rfl rfl rfl ?_
      refine x_move rfl rfl rfl rfl ?_
      refine x_ixS q rfl rfl rfl Try.underlying9 rfl rfl rfl hd ?_
      refine x_nei _ rfl rfl rfl rfl rfl rfl ?_
      refine Ex.done (hK _ _ ?_)
      refine At.then_n ?_
      refine W.cond rfl (fun hco2 => ?_) (fun hco2 => ?_)
      · try simp only [decide_eq_true_eq, decide_eq_false_iff_not, Bool.not_eq_true', Bool.not_eq_false', beq_iff_eq, bne_iff_ne, ne_eq, Bool.not_eq_eq_eq_not, Bool.not_true, Bool.not_false, beq_eq_false_iff_ne, bne_eq_false_iff_eq, Bool.not_not, gt_iff_lt, ge_iff_le] at hco2
        refine W.seq ?_
        refine W.sub [(0, _), (1, _), (5, _)] ⟨rfl, rfl, rfl, trivial⟩ ?_
        refine W.regD (by kernel_rfl) #[0, 0, 3, 0, 0, 24, 63, 127] [(0, false), (1, false), (2, false), (3, false), (4, false), (5, false), (6, false), (7, false)] (by kernel_rfl) ?_
        intro K wD2 hK hwD2
        have M := M.drew hwD2
        refine x_move rfl rfl rfl rfl ?_
        refine x_move rfl rfl rfl rfl ?_
        refine x_ixS q rfl rfl rfl Try.underlying9 rfl rfl rfl hc ?_
        refine x_move rfl rfl rfl rfl ?_
        refine x_move rfl rfl rfl rfl ?_
        refine x_ixS q rfl rfl rfl Try.underlying9 rfl rfl rfl hd ?_
        refine x_lss _ rfl rfl rfl rfl rfl rfl ?_
        refine x_assign rfl rfl rfl rfl ?_
        refine Ex.done (hK _ _ ?_)
        refine At.then_n ?_
        refine W.ret ?_
        refine At.blk_r ?_
        refine At.then_r ?_
        refine At.loop_r ?_
        refine At.blk_r ?_
        refine At.then_r ?_
        refine At.ret1 (.tmp 4) rfl ⟨rfl, trivial⟩ ?_
        have hne : c ≠ d := fun e => hco2 (by rw [e])
        refine ⟨?_, M.frm⟩
        rw [hcmp, cmp_ne hc hd hne]
        congr 1
        rw [Bool.eq_iff_iff, decide_eq_true_eq, decide_eq_true_eq]
        by_cases h : c < d
        · rw [if_pos h]; rw [UInt8.lt_iff_toNat_lt] at h; omega
        · rw [if_neg h]; rw [UInt8.lt_iff_toNat_lt] at h; omega
      · try simp only [decide_eq_true_eq, decide_eq_false_iff_not, Bool.not_eq_true', Bool.not_eq_false', beq_iff_eq, bne_iff_ne, ne_eq, Bool.not_eq_eq_eq_not, Bool.not_true, Bool.not_false, beq_eq_false_iff_ne, bne_eq_false_iff_eq, Bool.not_not, gt_iff_lt, ge_iff_le] at hco2
        have hcd : c = d := UInt8.toNat_inj.1 (by omega)
        subst hcd
        refine W.skip ?_
        refine At.blk_n ?_
        refine At.then_n ?_
        refine W.sub [(0, _), (1, _), (5, _)] ⟨rfl, rfl, rfl, trivial⟩ ?_
        refine W.reg [(0, false), (1, false), (2, false)] (by kernel_rfl) ?_
        intro K hK
        refine x_move rfl rfl rfl rfl ?_
        refine x_add _ rfl rfl rfl rfl rfl (wadd (by omega) (by omega)) ?_
        refine x_assign rfl rfl rfl rfl ?_
        refine Ex.done (hK _ _ ?_)
        exact At.back (q + 1) ⟨rfl, rfl, rfl, trivial⟩ ⟨by omega, by omega, by rw [hcmp, cmp_drop hc hd], M⟩ (by first | omega | (simp only; omega) | (simp; done) | (simp; omega))
    · try simp only [decide_eq_true_eq, decide_eq_false_iff_not, Bool.not_eq_true', Bool.not_eq_false', beq_iff_eq, bne_iff_ne, ne_eq, Bool.not_eq_eq_eq_not, Bool.not_true, Bool.not_false, beq_eq_false_iff_ne, bne_eq_false_iff_eq, Bool.not_not, gt_iff_lt, ge_iff_le] at hco1
      refine W.exit ?_
      refine At.then_x ?_
      refine At.loop_x ?_
      refine At.blk_x ?_
      refine At.then_n ?_
      refine W.seq ?_
      refine W.sub [(0, _), (1, _)] ⟨rfl, rfl, trivial⟩ ?_
      refine W.reg [(0, false), (1, false), (2, false), (3, false), (4, false), (5, false)] (by kernel_rfl) ?_
      intro K hK
      refine x_move rfl rfl rfl rfl ?_
      refine x_lenS rfl rfl rfl rfl Try.underlying9 rfl ?_
      refine x_move rfl rfl rfl rfl ?_
      refine x_lenS rfl rfl rfl rfl Try.underlying9 rfl ?_
      refine x_lss _ rfl rfl rfl rfl rfl rfl ?_
      refine x_assign rfl rfl rfl rfl ?_
      refine Ex.done (hK _ _ ?_)
      refine At.then_n ?_
      refine W.ret ?_
      refine At.ret1 (.tmp 4) rfl ⟨rfl, trivial⟩ ?_
      refine ⟨?_, M.frm⟩
      rw [hcmp, cmp_end (by omega) ⟨hqa, hqb⟩]
      congr 1
      rw [Bool.eq_iff_iff, decide_eq_true_eq, decide_eq_true_eq]
      split
      · omega
      · split <;> omega
  ·
    try simp only [decide_eq_true_eq, decide_eq_false_iff_not, Bool.not_eq_true', Bool.not_eq_false', beq_iff_eq, bne_iff_ne, ne_eq, Bool.not_eq_eq_eq_not, Bool.not_true, Bool.not_false, beq_eq_false_iff_ne, bne_eq_false_iff_eq, Bool.not_not, gt_iff_lt, ge_iff_le] at hsp1
    refine Ex.skip_ rfl rfl rfl ?_
    refine Ex.skip_ rfl rfl rfl ?_
    refine Ex.skip_ rfl rfl rfl ?_
    refine Ex.skip_ rfl rfl rfl ?_
    refine x_pickF rfl rfl rfl rfl rfl ?_
    refine Ex.done (hK _ _ ?_)
    refine At.then_n ?_
    refine W.condF rfl ?_
    refine W.exit ?_
    refine At.then_x ?_
    refine At.loop_x ?_
    refine At.blk_x ?_
    refine At.then_n ?_
    refine W.seq ?_
    refine W.sub [(0, _), (1, _)] ⟨rfl, rfl, trivial⟩ ?_
    refine W.reg [(0, false), (1, false), (2, false), (3, false), (4, false), (5, false)] (by kernel_rfl) ?_
    intro K hK
    refine x_move rfl rfl rfl rfl ?_
    refine x_lenS rfl rfl rfl rfl Try.underlying9 rfl ?_
    refine x_move rfl rfl rfl rfl ?_
    refine x_lenS rfl rfl rfl rfl Try.underlying9 rfl ?_
    refine x_lss _ rfl rfl rfl rfl rfl rfl ?_
    refine x_assign rfl rfl rfl rfl ?_
    refine Ex.done (hK _ _ ?_)
    refine At.then_n ?_
    refine W.ret ?_
    refine At.ret1 (.tmp 4) rfl ⟨rfl, trivial⟩ ?_
    refine ⟨?_, M.frm⟩
    rw [hcmp, cmp_end (by omega) ⟨hqa, hqb⟩]
    congr 1
    rw [Bool.eq_iff_iff, decide_eq_true_eq, decide_eq_true_eq]
    split
    · omega
    · split <;> omega

set_option maxRecDepth 100000 in
theorem rcompare_c {w0 : World} {a b : List UInt8} (hla : a.length ≤ 1099511627776) (hlb : b.length ≤ 1099511627776) : Ret Try.prog 26 #[strV a, strV b] w0 fun r w' => r = .int .i64 (compareP a b) ∧ New w0 w' := by
  have M : Sep w0 [] w0 := St.nil w0
  refine Ret.of_W Try.func26 rfl Try.ntmps26 rfl ?_
  refine W.seq ?_
  refine W.sub [(0, _), (1, _)] ⟨rfl, rfl, trivial⟩ ?_
  refine W.reg [(0, false)] (by kernel_rfl) ?_
  intro K hK
  refine x_assign rfl rfl rfl rfl ?_
  refine Ex.done (hK _ _ ?_)
  refine At.then_n ?_
  refine W.seq ?_
  refine W.sub [(0, _), (1, _)] ⟨rfl, rfl, trivial⟩ ?_
  refine W.reg [(0, false), (1, true), (2, false), (3, true), (4, false), (5, false)] (by kernel_rfl) ?_
  intro K hK
  refine x_move rfl rfl rfl rfl ?_
  refine x_call rfl rfl rfl rfl rfl en47 (rlist_c hla) ?_
  rintro v1 w1 ⟨L1, M1, hs1⟩
  have M := M.grow M1
  have hok1 := (namesP_cut (p := a) (by omega)).1
  have hln1 := namesP_len a
  have hC : compareP a b = compareL (namesP a) (namesP b) := rfl
  generalize hA : namesP a = A at hs1 hok1 hC hln1
  obtain ⟨p1, cap1, rfl⟩ := hs1.shape
  refine ⟨trivial, ?_⟩
  refine x_move rfl rfl rfl rfl ?_
  refine x_call rfl rfl rfl rfl rfl en47 (rlist_c hlb) ?_
  rintro v2 w2 ⟨L2, M2, hs2⟩
  have M := M.grow M2
  have hok2 := (namesP_cut (p := b) (by omega)).1
  have hln2 := namesP_len b
  generalize hB : namesP b = B at hs2 hok2 hC hln2
  obtain ⟨p2, cap2, rfl⟩ := hs2.shape
  refine ⟨trivial, ?_⟩
  refine x_assign rfl rfl rfl rfl ?_
  refine x_assign rfl rfl rfl rfl ?_
  refine Ex.done (hK _ _ ?_)
  refine At.then_n ?_
  refine W.seq ?_
  refine W.seq ?_
  refine W.sub [(5, _), (6, _)] ⟨rfl, rfl, trivial⟩ ?_
  refine W.reg [(0, false)] (by kernel_rfl) ?_
  intro K hK
  refine x_assign rfl rfl rfl rfl ?_
  refine Ex.done (hK _ _ ?_)
  refine At.then_n ?_
  refine W.block ?_
  refine W.loop (σ := Nat) (fun q => [(5, _), (6, _), (7, .int .i64 ((q : Nat) : Int))]) (fun q w => q ≤ A.length ∧ q ≤ B.length ∧ compareP a b = compareL (A.drop q) (B.drop q) ∧ Sep w0 (L1 ++ L2) w) (fun q => A.length - q) 0 ⟨rfl, rfl, rfl, trivial⟩ ⟨Nat.zero_le _, Nat.zero_le _, hC, M⟩ ?_
  rintro q w ⟨hqa, hqb, hcmp, M⟩
  refine W.seq ?_
  refine W.seq ?_
  refine W.sub [(5, _), (6, _), (7, _)] ⟨rfl, rfl, rfl, trivial⟩ ?_
  refine W.reg [(0, false), (1, false), (2, false), (3, false), (4, false), (5, false), (6, false), (7, false), (8, false), (9, false)] (by kernel_rfl) ?_
  intro K hK
  refine x_move rfl rfl rfl rfl ?_
  refine x_move rfl rfl rfl rfl ?_
  refine x_len rfl rfl rfl rfl Try.underlying56 rfl ?_
  refine x_lss _ rfl rfl rfl rfl rfl rfl ?_
  refine x_move rfl rfl rfl rfl ?_
  refine Ex.split 16 rfl (fun hsp1 => ?_) (fun hsp1 => ?_)
  ·
    try simp only [decide_eq_true_eq, decide_eq_false_iff_not, Bool.not_eq_true', Bool.not_eq_false', beq_iff_eq, bne_iff_ne, ne_eq, Bool.not_eq_eq_eq_not, Bool.not_true, Bool.not_false, beq_eq_false_iff_ne, bne_eq_false_iff_eq, Bool.not_not, gt_iff_lt, ge_iff_le] at hsp1
    refine x_move rfl rfl rfl rfl ?_
    refine x_move rfl rfl rfl rfl ?_
    refine x_len rfl rfl rfl rfl Try.underlying56 rfl ?_
    refine x_lss _ rfl rfl rfl rfl rfl rfl ?_
    refine x_pickT rfl rfl rfl rfl rfl ?_
    refine Ex.done (hK _ _ ?_)
    refine At.then_n ?_
    refine W.cond rfl (fun hco1 => ?_) (fun hco1 => ?_)
    · try simp only [decide_eq_true_eq, decide_eq_false_iff_not, Bool.not_eq_true', Bool.not_eq_false', beq_iff_eq, bne_iff_ne, ne_eq, Bool.not_eq_eq_eq_not, Bool.not_true, Bool.not_false, beq_eq_false_iff_ne, bne_eq_false_iff_eq, Bool.not_not, gt_iff_lt, ge_iff_le] at hco1
      obtain ⟨y, hy⟩ := get_lt (l := B) (q := q) (by omega)
      obtain ⟨x, hx⟩ := get_lt (l := A) (q := q) (by omega)
      obtain ⟨bk1, off1, rfl, _⟩ := (strsO_at hs1 M (fun _ h => List.mem_append_left _ h)).blk (j := q) (by omega)
      obtain ⟨bk2, off2, rfl, _⟩ := (strsO_at hs2 M (fun _ h => List.mem_append_right _ h)).blk (j := q) (by omega)
      have hst := compareL_step hx hy
      have hcc := cmp_cases x y
      have hsw := cmp_swap x y
      have hxl := mem_joinS_le (List.mem_of_getElem? hx)
      have hyl := mem_joinS_le (List.mem_of_getElem? hy)
      have hj1 := hok1.2
      have hj2 := hok2.2
      refine W.skip ?_
      refine At.then_n ?_
      refine W.seq ?_
      refine W.block ?_
      refine W.seq ?_
      refine W.seq ?_
      refine W.sub [(5, _), (6, _), (7, _)] ⟨rfl, rfl, rfl, trivial⟩ ?_
      refine W.regD (by kernel_rfl) #[0, 0, 3, 7, 0, 0, 48, 112, 255] [(0, false), (1, false), (2, false), (3, false), (4, false), (5, false), (6, false), (7, false), (8, true)] (by kernel_rfl) ?_
      intro K wD1 hK hwD1
      have M := M.drew hwD1
      refine x_move rfl rfl rfl rfl ?_
      refine x_move rfl rfl rfl rfl ?_
      refine x_ia q rfl rfl rfl Try.underlying56 sz9 rfl rfl rfl (by omega) ?_
      refine x_ld rfl rfl rfl Try.underlying9 rfl rfl (StrsAt.cell (strsO_at hs1 M (fun _ h => List.mem_append_left _ h)) hx) ?_
      refine x_move rfl rfl rfl rfl ?_
      refine x_move rfl rfl rfl rfl ?_
      refine x_ia q rfl rfl rfl Try.underlying56 sz9 rfl rfl rfl (by omega) ?_
      refine x_ld rfl rfl rfl Try.underlying9 rfl rfl (StrsAt.cell (strsO_at hs2 M (fun _ h => List.mem_append_right _ h)) hy) ?_
      refine x_call rfl rfl rfl rfl rfl en48 (rbelow_c (by omega)) ?_
      rintro r w3 ⟨rfl, hn3⟩
      have M := M.new hn3
      refine ⟨⟨.inl (by kernel_rfl), .inl (by kernel_rfl), trivial⟩, ?_⟩
      refine Ex.done (hK _ _ ?_)
      refine At.then_n ?_
      refine W.cond rfl (fun hco2 => ?_) (fun hco2 => ?_)
      · try simp only [decide_eq_true_eq, decide_eq_false_iff_not, Bool.not_eq_true', Bool.not_eq_false', beq_iff_eq, bne_iff_ne, ne_eq, Bool.not_eq_eq_eq_not, Bool.not_true, Bool.not_false, beq_eq_false_iff_ne, bne_eq_false_iff_eq, Bool.not_not, gt_iff_lt, ge_iff_le] at hco2
        refine W.seq ?_
        refine W.sub [] trivial ?_
        refine W.reg [(0, false)] (by kernel_rfl) ?_
        intro K hK
        refine x_assign rfl rfl rfl rfl ?_
        refine Ex.done (hK _ _ ?_)
        refine At.then_n ?_
        refine W.ret ?_
        refine At.then_r ?_
        refine At.blk_r ?_
        refine At.then_r ?_
        refine At.loop_r ?_
        refine At.blk_r ?_
        refine At.then_r ?_
        refine At.ret1 (.tmp 4) rfl ⟨rfl, trivial⟩ ?_
        have h1 : Lib.compareBytes x y = -1 := by rcases hcc with h | h | h <;> omega
        exact ⟨by rw [hcmp, hst, h1]; rfl, M.frm⟩
      · try simp only [decide_eq_true_eq, decide_eq_false_iff_not, Bool.not_eq_true', Bool.not_eq_false', beq_iff_eq, bne_iff_ne, ne_eq, Bool.not_eq_eq_eq_not, Bool.not_true, Bool.not_false, beq_eq_false_iff_ne, bne_eq_false_iff_eq, Bool.not_not, gt_iff_lt, ge_iff_le] at hco2
        refine W.skip ?_
        refine At.then_n ?_
        refine W.seq ?_
        refine W.sub [(5, _), (6, _), (7, _)] ⟨rfl, rfl, rfl, trivial⟩ ?_
        refine W.regD (by kernel_rfl) #[0, 0, 3, 7, 0, 0, 48, 112, 255] [(0, false), (1, false), (2, false), (3, false), (4, false), (5, false), (6, false), (7, false), (8, true)] (by kernel_rfl) ?_
        intro K wD2 hK hwD2
        have M := M.drew hwD2
        refine x_move rfl rfl rfl rfl ?_
        refine x_move rfl rfl rfl rfl ?_
        refine x_ia q rfl rfl rfl Try.underlying56 sz9 rfl rfl rfl (by omega) ?_
        refine x_ld rfl rfl rfl Try.underlying9 rfl rfl (StrsAt.cell (strsO_at hs2 M (fun _ h => List.mem_append_right _ h)) hy) ?_
        refine x_move rfl rfl rfl rfl ?_
        refine x_move rfl rfl rfl rfl ?_
        refine x_ia q rfl rfl rfl Try.underlying56 sz9 rfl rfl rfl (by omega) ?_
        refine x_ld rfl rfl rfl Try.underlying9 rfl rfl (StrsAt.cell (strsO_at hs1 M (fun _ h => List.mem_append_left _ h)) hx) ?_
        refine x_call rfl rfl rfl rfl rfl en48 (rbelow_c (by omega)) ?_
        rintro r w4 ⟨rfl, hn4⟩
        have M := M.new hn4
        refine ⟨⟨.inl (by kernel_rfl), .inl (by kernel_rfl), trivial⟩, ?_⟩
        refine Ex.done (hK _ _ ?_)
        refine At.then_n ?_
        refine W.cond rfl (fun hco3 => ?_) (fun hco3 => ?_)
        · try simp only [decide_eq_true_eq, decide_eq_false_iff_not, Bool.not_eq_true', Bool.not_eq_false', beq_iff_eq, bne_iff_ne, ne_eq, Bool.not_eq_eq_eq_not, Bool.not_true, Bool.not_false, beq_eq_false_iff_ne, bne_eq_false_iff_eq, Bool.not_not, gt_iff_lt, ge_iff_le] at hco3
          refine W.seq ?_
          refine W.sub [] trivial ?_
          refine W.reg [(0, false)] (by kernel_rfl) ?_
          intro K hK
          refine x_assign rfl rfl rfl rfl ?_
          refine Ex.done (hK _ _ ?_)
          refine At.then_n ?_
          refine W.ret ?_
          refine At.blk_r ?_
          refine At.then_r ?_
          refine At.loop_r ?_
          refine At.blk_r ?_
          refine At.then_r ?_
          refine At.ret1 (.tmp 4) rfl ⟨rfl, trivial⟩ ?_
          have h1 : Lib.compareBytes x y = 1 := by rcases hcc with h | h | h <;> omega
          exact ⟨by rw [hcmp, hst, h1]; rfl, M.frm⟩
        · try simp only [decide_eq_true_eq, decide_eq_false_iff_not, Bool.not_eq_true', Bool.not_eq_false', beq_iff_eq, bne_iff_ne, ne_eq, Bool.not_eq_eq_eq_not, Bool.not_true, Bool.not_false, beq_eq_false_iff_ne, bne_eq_false_iff_eq, Bool.not_not, gt_iff_lt, ge_iff_le] at hco3
          refine W.skip ?_
          refine At.blk_n ?_
          refine At.then_n ?_
          refine W.sub [(5, _), (6, _), (7, _)] ⟨rfl, rfl, rfl, trivial⟩ ?_
          refine W.reg [(0, false), (1, false), (2, false)] (by kernel_rfl) ?_
          intro K hK
          refine x_move rfl rfl rfl rfl ?_
          refine x_add _ rfl rfl rfl rfl rfl (wadd (by omega) (by omega)) ?_
          refine x_assign rfl rfl rfl rfl ?_
          refine Ex.done (hK _ _ ?_)
          exact At.back (q + 1) ⟨rfl, rfl, rfl, trivial⟩ ⟨by omega, by omega, by rw [hcmp, hst, if_neg (by omega)], M⟩ (by first | omega | (simp only; omega) | (simp; done) | (simp; omega))
    · try simp only [decide_eq_true_eq, decide_eq_false_iff_not, Bool.not_eq_true', Bool.not_eq_false', beq_iff_eq, bne_iff_ne, ne_eq, Bool.not_eq_eq_eq_not, Bool.not_true, Bool.not_false, beq_eq_false_iff_ne, bne_eq_false_iff_eq, Bool.not_not, gt_iff_lt, ge_iff_le] at hco1
      refine W.exit ?_
      refine At.then_x ?_
      refine At.loop_x ?_
      refine At.blk_x ?_
      refine At.then_n ?_
      refine W.seq ?_
      refine W.seq ?_
      refine W.sub [(5, _), (6, _)] ⟨rfl, rfl, trivial⟩ ?_
      refine W.reg [(0, false), (1, false), (2, false), (3, false), (4, false)] (by kernel_rfl) ?_
      intro K hK
      refine x_move rfl rfl rfl rfl ?_
      refine x_len rfl rfl rfl rfl Try.underlying56 rfl ?_
      refine x_move rfl rfl rfl rfl ?_
      refine x_len rfl rfl rfl rfl Try.underlying56 rfl ?_
      refine x_lss _ rfl rfl rfl rfl rfl rfl ?_
      refine Ex.done (hK _ _ ?_)
      refine At.then_n ?_
      refine W.cond rfl (fun hco4 => ?_) (fun hco4 => ?_)
      · try simp only [decide_eq_true_eq, decide_eq_false_iff_not, Bool.not_eq_true', Bool.not_eq_false', beq_iff_eq, bne_iff_ne, ne_eq, Bool.not_eq_eq_eq_not, Bool.not_true, Bool.not_false, beq_eq_false_iff_ne, bne_eq_false_iff_eq, Bool.not_not, gt_iff_lt, ge_iff_le] at hco4
        refine W.seq ?_
        refine W.sub [] trivial ?_
        refine W.reg [(0, false)] (by kernel_rfl) ?_
        intro K hK
        refine x_assign rfl rfl rfl rfl ?_
        refine Ex.done (hK _ _ ?_)
        refine At.then_n ?_
        refine W.ret ?_
        refine At.then_r ?_
        refine At.ret1 (.tmp 4) rfl ⟨rfl, trivial⟩ ?_
        exact ⟨by rw [hcmp, compareL_end (by omega) ⟨hqa, hqb⟩]; congr 1; split <;> (try split) <;> omega, M.frm⟩
      · try simp only [decide_eq_true_eq, decide_eq_false_iff_not, Bool.not_eq_true', Bool.not_eq_false', beq_iff_eq, bne_iff_ne, ne_eq, Bool.not_eq_eq_eq_not, Bool.not_true, Bool.not_false, beq_eq_false_iff_ne, bne_eq_false_iff_eq, Bool.not_not, gt_iff_lt, ge_iff_le] at hco4
        refine W.skip ?_
        refine At.then_n ?_
        refine W.seq ?_
        refine W.seq ?_
        refine W.sub [(5, _), (6, _)] ⟨rfl, rfl, trivial⟩ ?_
        refine W.reg [(0, false), (1, false), (2, false), (3, false), (4, false)] (by kernel_rfl) ?_
        intro K hK
        refine x_move rfl rfl rfl rfl ?_
        refine x_len rfl rfl rfl rfl Try.underlying56 rfl ?_
        refine x_move rfl rfl rfl rfl ?_
        refine x_len rfl rfl rfl rfl Try.underlying56 rfl ?_
        refine x_gtr _ rfl rfl rfl rfl rfl rfl ?_
        refine Ex.done (hK _ _ ?_)
        refine At.then_n ?_
        refine W.cond rfl (fun hco5 => ?_) (fun hco5 => ?_)
        · try simp only [decide_eq_true_eq, decide_eq_false_iff_not, Bool.not_eq_true', Bool.not_eq_false', beq_iff_eq, bne_iff_ne, ne_eq, Bool.not_eq_eq_eq_not, Bool.not_true, Bool.not_false, beq_eq_false_iff_ne, bne_eq_false_iff_eq, Bool.not_not, gt_iff_lt, ge_iff_le] at hco5
          refine W.seq ?_
          refine W.sub [] trivial ?_
          refine W.reg [(0, false)] (by kernel_rfl) ?_
          intro K hK
          refine x_assign rfl rfl rfl rfl ?_
          refine Ex.done (hK _ _ ?_)
          refine At.then_n ?_
          refine W.ret ?_
          refine At.then_r ?_
          refine At.ret1 (.tmp 4) rfl ⟨rfl, trivial⟩ ?_
          exact ⟨by rw [hcmp, compareL_end (by omega) ⟨hqa, hqb⟩]; congr 1; split <;> (try split) <;> omega, M.frm⟩
        · try simp only [decide_eq_true_eq, decide_eq_false_iff_not, Bool.not_eq_true', Bool.not_eq_false', beq_iff_eq, bne_iff_ne, ne_eq, Bool.not_eq_eq_eq_not, Bool.not_true, Bool.not_false, beq_eq_false_iff_ne, bne_eq_false_iff_eq, Bool.not_not, gt_iff_lt, ge_iff_le] at hco5
          refine W.skip ?_
          refine At.then_n ?_
          refine W.seq ?_
          refine W.sub [] trivial ?_
          refine W.reg [(0, false)] (by kernel_rfl) ?_
          intro K hK
          refine x_assign rfl rfl rfl rfl ?_
          refine Ex.done (hK _ _ ?_)
          refine At.then_n ?_
          refine W.ret ?_
          refine At.ret1 (.tmp 4) rfl ⟨rfl, trivial⟩ ?_
          exact ⟨by rw [hcmp, compareL_end (by omega) ⟨hqa, hqb⟩]; congr 1; split <;> (try split) <;> omega, M.frm⟩
  ·
    try simp only [decide_eq_true_eq, decide_eq_false_iff_not, Bool.not_eq_true', Bool.not_eq_false', beq_iff_eq, bne_iff_ne, ne_eq, Bool.not_eq_eq_eq_not, Bool.not_true, Bool.not_false, beq_eq_false_iff_ne, bne_eq_false_iff_eq, Bool.not_not, gt_iff_lt, ge_iff_le] at hsp1
    refine Ex.skip_ rfl rfl rfl ?_
    refine Ex.skip_ rfl rfl rfl ?_
    refine Ex.skip_ rfl rfl rfl ?_
    refine Ex.skip_ rfl rfl rfl ?_
    refine x_pickF rfl rfl rfl rfl rfl ?_
    refine Ex.done (hK _ _ ?_)
    refine At.then_n ?_
    refine W.condF rfl ?_
    refine W.exit ?_
    refine At.then_x ?_
    refine At.loop_x ?_
    refine At.blk_x ?_
    refine At.then_n ?_
    refine W.seq ?_
    refine W.seq ?_
    refine W.sub [(5, _), (6, _)] ⟨rfl, rfl, trivial⟩ ?_
    refine W.reg [(0, false), (1, false), (2, false), (3, false), (4, false)] (by kernel_rfl) ?_
    intro K hK
    refine x_move rfl rfl rfl rfl ?_
    refine x_len rfl rfl rfl rfl Try.underlying56 rfl ?_
    refine x_move rfl rfl rfl rfl ?_
    refine x_len rfl rfl rfl rfl Try.underlying56 rfl ?_
    refine x_lss _ rfl rfl rfl rfl rfl rfl ?_
    refine Ex.done (hK _ _ ?_)
    refine At.then_n ?_
    refine W.cond rfl (fun hco7 => ?_) (fun hco7 => ?_)
    · try simp only [decide_eq_true_eq, decide_eq_false_iff_not, Bool.not_eq_true', Bool.not_eq_false', beq_iff_eq, bne_iff_ne, ne_eq, Bool.not_eq_eq_eq_not, Bool.not_true, Bool.not_false, beq_eq_false_iff_ne, bne_eq_false_iff_eq, Bool.not_not, gt_iff_lt, ge_iff_le] at hco7
      refine W.seq ?_
      refine W.sub [] trivial ?_
      refine W.reg [(0, false)] (by kernel_rfl) ?_
      intro K hK
      refine x_assign rfl rfl rfl rfl ?_
      refine Ex.done (hK _ _ ?_)
      refine At.then_n ?_
      refine W.ret ?_
      refine At.then_r ?_
      refine At.ret1 (.tmp 4) rfl ⟨rfl, trivial⟩ ?_
      exact ⟨by rw [hcmp, compareL_end (by omega) ⟨hqa, hqb⟩]; congr 1; split <;> (try split) <;> omega, M.frm⟩
    · try simp only [decide_eq_true_eq, decide_eq_false_iff_not, Bool.not_eq_true', Bool.not_eq_false', beq_iff_eq, bne_iff_ne, ne_eq, Bool.not_eq_eq_eq_not, Bool.not_true, Bool.not_false, beq_eq_false_iff_ne, bne_eq_false_iff_eq, Bool.not_not, gt_iff_lt, ge_iff_le] at hco7
      refine W.skip ?_
      refine At.then_n ?_
      refine W.seq ?_
      refine W.seq ?_
      refine W.sub [(5, _), (6, _)] ⟨rfl, rfl, trivial⟩ ?_
      refine W.reg [(0, false), (1, false), (2, false), (3, false), (4, false)] (by kernel_rfl) ?_
      intro K hK
      refine x_move rfl rfl rfl rfl ?_
      refine x_len rfl rfl rfl rfl Try.underlying56 rfl ?_
      refine x_move rfl rfl rfl rfl ?_
      refine x_len rfl rfl rfl rfl Try.underlying56 rfl ?_
      refine x_gtr _ rfl rfl rfl rfl rfl rfl ?_
      refine Ex.done (hK _ _ ?_)
      refine At.then_n ?_
      refine W.cond rfl (fun hco8 => ?_) (fun hco8 => ?_)
      · try simp only [decide_eq_true_eq, decide_eq_false_iff_not, Bool.not_eq_true', Bool.not_eq_false', beq_iff_eq, bne_iff_ne, ne_eq, Bool.not_eq_eq_eq_not, Bool.not_true, Bool.not_false, beq_eq_false_iff_ne, bne_eq_false_iff_eq, Bool.not_not, gt_iff_lt, ge_iff_le] at hco8
        refine W.seq ?_
        refine W.sub [] trivial ?_
        refine W.reg [(0, false)] (by kernel_rfl) ?_
        intro K hK
        refine x_assign rfl rfl rfl rfl ?_
        refine Ex.done (hK _ _ ?_)
        refine At.then_n ?_
        refine W.ret ?_
        refine At.then_r ?_
        refine At.ret1 (.tmp 4) rfl ⟨rfl, trivial⟩ ?_
        exact ⟨by rw [hcmp, compareL_end (by omega) ⟨hqa, hqb⟩]; congr 1; split <;> (try split) <;> omega, M.frm⟩
      · try simp only [decide_eq_true_eq, decide_eq_false_iff_not, Bool.not_eq_true', Bool.not_eq_false', beq_iff_eq, bne_iff_ne, ne_eq, Bool.not_eq_eq_eq_not, Bool.not_true, Bool.not_false, beq_eq_false_iff_ne, bne_eq_false_iff_eq, Bool.not_not, gt_iff_lt, ge_iff_le] at hco8
        refine W.skip ?_
        refine At.then_n ?_
        refine W.seq ?_
        refine W.sub [] trivial ?_
        refine W.reg [(0, false)] (by kernel_rfl) ?_
        intro K hK
        refine x_assign rfl rfl rfl rfl ?_
        refine Ex.done (hK _ _ ?_)
        refine At.then_n ?_
        refine W.ret ?_
        refine At.ret1 (.tmp 4) rfl ⟨rfl, trivial⟩ ?_
        exact ⟨by rw [hcmp, compareL_end (by omega) ⟨hqa, hqb⟩]; congr 1; split <;> (try split) <;> omega, M.frm⟩

set_option maxRecDepth 100000 in
theorem same_c {w0 : World} {u v : Value} {A B : List (List UInt8)} (hu : StrsAt w0 u A) (hv : StrsAt w0 v B) (hlA : A.length ≤ 1099511627776) : Ret Try.prog 56 #[u, v] w0 fun r w' => r = .bool (decide (A = B)) ∧ New w0 w' := by
  have M : Sep w0 [] w0 := St.nil w0
  obtain ⟨p1, cap1, rfl⟩ := hu.shape
  obtain ⟨p2, cap2, rfl⟩ := hv.shape
  refine Ret.of_W Try.func56 rfl Try.ntmps56 rfl ?_
  refine W.seq ?_
  refine W.sub [(0, _), (1, _)] ⟨rfl, rfl, trivial⟩ ?_
  refine W.reg [(0, false)] (by kernel_rfl) ?_
  intro K hK
  refine x_assign rfl rfl rfl rfl ?_
  refine Ex.done (hK _ _ ?_)
  refine At.then_n ?_
  refine W.seq ?_
  refine W.seq ?_
  refine W.sub [(0, _), (1, _)] ⟨rfl, rfl, trivial⟩ ?_
  refine W.reg [(0, false), (1, false), (2, false), (3, false), (4, false)] (by kernel_rfl) ?_
  intro K hK
  refine x_move rfl rfl rfl rfl ?_
  refine x_len rfl rfl rfl rfl Try.underlying56 rfl ?_
  refine x_move rfl rfl rfl rfl ?_
  refine x_len rfl rfl rfl rfl Try.underlying56 rfl ?_
  refine x_nei _ rfl rfl rfl rfl rfl rfl ?_
  refine Ex.done (hK _ _ ?_)
  refine At.then_n ?_
  refine W.cond rfl (fun hco1 => ?_) (fun hco1 => ?_)
  · try simp only [decide_eq_true_eq, decide_eq_false_iff_not, Bool.not_eq_true', Bool.not_eq_false', beq_iff_eq, bne_iff_ne, ne_eq, Bool.not_eq_eq_eq_not, Bool.not_true, Bool.not_false, beq_eq_false_iff_ne, bne_eq_false_iff_eq, Bool.not_not, gt_iff_lt, ge_iff_le] at hco1
    refine W.seq ?_
    refine W.sub [] trivial ?_
    refine W.reg [(0, false)] (by kernel_rfl) ?_
    intro K hK
    refine x_assign rfl rfl rfl rfl ?_
    refine Ex.done (hK _ _ ?_)
    refine At.then_n ?_
    refine W.ret ?_
    refine At.then_r ?_
    refine At.ret1 (.tmp 4) rfl ⟨rfl, trivial⟩ ?_
    exact ⟨by rw [decide_eq_false]; intro e; subst e; omega, M.frm⟩
  · try simp only [decide_eq_true_eq, decide_eq_false_iff_not, Bool.not_eq_true', Bool.not_eq_false', beq_iff_eq, bne_iff_ne, ne_eq, Bool.not_eq_eq_eq_not, Bool.not_true, Bool.not_false, beq_eq_false_iff_ne, bne_eq_false_iff_eq, Bool.not_not, gt_iff_lt, ge_iff_le] at hco1
    refine W.skip ?_
    refine At.then_n ?_
    refine W.seq ?_
    refine W.seq ?_
    refine W.sub [(0, _), (1, _)] ⟨rfl, rfl, trivial⟩ ?_
    refine W.reg [(0, false)] (by kernel_rfl) ?_
    intro K hK
    refine x_assign rfl rfl rfl rfl ?_
    refine Ex.done (hK _ _ ?_)
    refine At.then_n ?_
    refine W.block ?_
    refine W.loop (σ := Nat) (fun q => [(0, _), (1, _), (5, .int .i64 ((q : Nat) : Int))]) (fun q w => q ≤ A.length ∧ B.take q = A.take q ∧ Sep w0 [] w) (fun q => A.length - q) 0 ⟨rfl, rfl, rfl, trivial⟩ ⟨Nat.zero_le _, rfl, M⟩ ?_
    rintro q w ⟨hq, hpre, M⟩
    refine W.seq ?_
    refine W.seq ?_
    refine W.sub [(0, _), (1, _), (5, _)] ⟨rfl, rfl, rfl, trivial⟩ ?_
    refine W.reg [(0, false), (1, false), (2, false), (3, false)] (by kernel_rfl) ?_
    intro K hK
    refine x_move rfl rfl rfl rfl ?_
    refine x_move rfl rfl rfl rfl ?_
    refine x_len rfl rfl rfl rfl Try.underlying56 rfl ?_
    refine x_lss _ rfl rfl rfl rfl rfl rfl ?_
    refine Ex.done (hK _ _ ?_)
    refine At.then_n ?_
    refine W.cond rfl (fun hco2 => ?_) (fun hco2 => ?_)
    · try simp only [decide_eq_true_eq, decide_eq_false_iff_not, Bool.not_eq_true', Bool.not_eq_false', beq_iff_eq, bne_iff_ne, ne_eq, Bool.not_eq_eq_eq_not, Bool.not_true, Bool.not_false, beq_eq_false_iff_ne, bne_eq_false_iff_eq, Bool.not_not, gt_iff_lt, ge_iff_le] at hco2
      obtain ⟨y, hy⟩ := get_lt (l := B) (q := q) (by omega)
      obtain ⟨x, hx⟩ := get_lt (l := A) (q := q) (by omega)
      obtain ⟨bk1, off1, rfl, _⟩ := hu.blk (j := q) (by omega)
      obtain ⟨bk2, off2, rfl, _⟩ := hv.blk (j := q) (by omega)
      refine W.skip ?_
      refine At.then_n ?_
      refine W.seq ?_
      refine W.block ?_
      refine W.seq ?_
      refine W.sub [(0, _), (1, _), (5, _)] ⟨rfl, rfl, rfl, trivial⟩ ?_
      refine W.regD (by kernel_rfl) #[0, 0, 3, 7, 0, 0, 48, 112, 255] [(0, false), (1, false), (2, false), (3, false), (4, false), (5, false), (6, false), (7, false), (8, false)] (by kernel_rfl) ?_
      intro K wD1 hK hwD1
      have M := M.drew hwD1
      refine x_move rfl rfl rfl rfl ?_
      refine x_move rfl rfl rfl rfl ?_
      refine x_ia q rfl rfl rfl Try.underlying56 sz9 rfl rfl rfl (by omega) ?_
      refine x_ld rfl rfl rfl Try.underlying9 rfl rfl (StrsAt.cell (hu.new M.frm) hx) ?_
      refine x_move rfl rfl rfl rfl ?_
      refine x_move rfl rfl rfl rfl ?_
      refine x_ia q rfl rfl rfl Try.underlying56 sz9 rfl rfl rfl (by omega) ?_
      refine x_ld rfl rfl rfl Try.underlying9 rfl rfl (StrsAt.cell (hv.new M.frm) hy) ?_
      refine x_neS _ rfl rfl rfl rfl rfl rfl ?_
      refine Ex.done (hK _ _ ?_)
      refine At.then_n ?_
      refine W.cond rfl (fun hco3 => ?_) (fun hco3 => ?_)
      · try simp only [decide_eq_true_eq, decide_eq_false_iff_not, Bool.not_eq_true', Bool.not_eq_false', beq_iff_eq, bne_iff_ne, ne_eq, Bool.not_eq_eq_eq_not, Bool.not_true, Bool.not_false, beq_eq_false_iff_ne, bne_eq_false_iff_eq, Bool.not_not, gt_iff_lt, ge_iff_le] at hco3
        refine W.seq ?_
        refine W.sub [] trivial ?_
        refine W.reg [(0, false)] (by kernel_rfl) ?_
        intro K hK
        refine x_assign rfl rfl rfl rfl ?_
        refine Ex.done (hK _ _ ?_)
        refine At.then_n ?_
        refine W.ret ?_
        refine At.blk_r ?_
        refine At.then_r ?_
        refine At.loop_r ?_
        refine At.blk_r ?_
        refine At.then_r ?_
        refine At.ret1 (.tmp 4) rfl ⟨rfl, trivial⟩ ?_
        exact ⟨by rw [decide_eq_false]; intro e; subst e; rw [hx] at hy; exact hco3 (Option.some.inj hy), M.frm⟩
      · try simp only [decide_eq_true_eq, decide_eq_false_iff_not, Bool.not_eq_true', Bool.not_eq_false', beq_iff_eq, bne_iff_ne, ne_eq, Bool.not_eq_eq_eq_not, Bool.not_true, Bool.not_false, beq_eq_false_iff_ne, bne_eq_false_iff_eq, Bool.not_not, gt_iff_lt, ge_iff_le] at hco3
        refine W.skip ?_
        refine At.blk_n ?_
        refine At.then_n ?_
        refine W.sub [(0, _), (1, _), (5, _)] ⟨rfl, rfl, rfl, trivial⟩ ?_
        refine W.reg [(0, false), (1, false), (2, false)] (by kernel_rfl) ?_
        intro K hK
        refine x_move rfl rfl rfl rfl ?_
        refine x_add _ rfl rfl rfl rfl rfl (wadd (by omega) (by omega)) ?_
        refine x_assign rfl rfl rfl rfl ?_
        refine Ex.done (hK _ _ ?_)
        exact At.back (q + 1) ⟨rfl, rfl, rfl, trivial⟩ ⟨by omega, pre_step hpre hx hy hco3, M⟩ (by first | omega | (simp only; omega) | (simp; done) | (simp; omega))
    · try simp only [decide_eq_true_eq, decide_eq_false_iff_not, Bool.not_eq_true', Bool.not_eq_false', beq_iff_eq, bne_iff_ne, ne_eq, Bool.not_eq_eq_eq_not, Bool.not_true, Bool.not_false, beq_eq_false_iff_ne, bne_eq_false_iff_eq, Bool.not_not, gt_iff_lt, ge_iff_le] at hco2
      refine W.exit ?_
      refine At.then_x ?_
      refine At.loop_x ?_
      refine At.blk_x ?_
      refine At.then_n ?_
      refine W.seq ?_
      refine W.sub [] trivial ?_
      refine W.reg [(0, false)] (by kernel_rfl) ?_
      intro K hK
      refine x_assign rfl rfl rfl rfl ?_
      refine Ex.done (hK _ _ ?_)
      refine At.then_n ?_
      refine W.ret ?_
      refine At.ret1 (.tmp 4) rfl ⟨rfl, trivial⟩ ?_
      have hq1 : q = A.length := by omega
      subst hq1
      exact ⟨by rw [decide_eq_true]; rw [List.take_length, List.take_of_length_le (by omega)] at hpre; exact hpre.symm, M.frm⟩
end Go.Proofs.Ytccfmfehfhfhhaa

namespace Go.Fw
open Go Go.RowKit
set_option linter.unusedVariables false
set_option linter.unusedSimpArgs false

def byteV (x : UInt8) : Value := .int .u8 (x.toNat : Int)
def byteCs (b : List UInt8) : List Value := b.map byteV
theorem byteCs_one (b : List UInt8) : ∀ u ∈ byteCs b, u.oneCell' = true := by
  intro u hu; obtain ⟨x, _, rfl⟩ := List.mem_map.1 hu; rfl
theorem byteCs_len (b : List UInt8) : (byteCs b).length = b.length := by simp [byteCs]
theorem byteCs_get {b : List UInt8} {j : Nat} {x : UInt8} (h : b[j]? = some x) : (byteCs b)[j]? = some (byteV x) := by simp [byteCs, h]
abbrev BytesAt (w : World) (v : Value) (b : List UInt8) : Prop := Sg w v 1 b.length (byteCs b)
abbrev BytesO (L : List (Nat × Obj)) (v : Value) (b : List UInt8) : Prop := OwL L v 1 b.length (byteCs b)

theorem St.put2 {S : Nat → Prop} {w0 w w1 : World} {A B : List (Nat × Obj)} {b : Nat} {o0 o : Obj} (h : St S w0 (A ++ (b, o0) :: B) w) (hw : w1 = w.putObj b o) : St S w0 (A ++ (b, o) :: B) w1 := by
  have := h.put A.length (b := b) (o0 := o0) (o := o) (by simp) hw
  simpa using this
theorem St.inn {S : Nat → Prop} {w0 w : World} {F A B C : List (Nat × Obj)} (h : St S w0 (F ++ (A ++ (B ++ C))) w) : St S w0 (A ++ (B ++ (C ++ F))) w := by
  have := h.perm List.perm_append_comm
  simpa only [List.append_assoc] using this
theorem St.out {S : Nat → Prop} {w0 w : World} {A B C : List (Nat × Obj)} (F : List (Nat × Obj)) (h : St S w0 (A ++ (B ++ (C ++ F))) w) : St S w0 (F ++ (A ++ (B ++ C))) w := by
  have e : A ++ (B ++ (C ++ F)) = (A ++ (B ++ C)) ++ F := by simp only [List.append_assoc]
  rw [e] at h
  exact h.perm List.perm_append_comm
theorem St.inn2 {S : Nat → Prop} {w0 w : World} {F B C : List (Nat × Obj)} (h : St S w0 (F ++ (B ++ C)) w) : St S w0 (B ++ (C ++ F)) w := St.inn (A := []) h
theorem St.out2 {S : Nat → Prop} {w0 w : World} {B C : List (Nat × Obj)} (F : List (Nat × Obj)) (h : St S w0 (B ++ (C ++ F)) w) : St S w0 (F ++ (B ++ C)) w := St.out (A := []) F h
theorem St.cutR2 {S : Nat → Prop} {w0 w : World} {B C D : List (Nat × Obj)} (h : St S w0 (B ++ (C ++ D)) w) : St S w0 (B ++ C) w :=
  h.sub (List.Sublist.append (List.Sublist.refl _) (List.sublist_append_left _ _))
theorem St.cutR {S : Nat → Prop} {w0 w : World} {A B C D : List (Nat × Obj)} (h : St S w0 (A ++ (B ++ (C ++ D))) w) : St S w0 (A ++ (B ++ C)) w :=
  h.sub (List.Sublist.append (List.Sublist.refl _) (List.Sublist.append (List.Sublist.refl _) (List.sublist_append_left _ _)))
theorem SlL.get {w : World} {L : List (Nat × Obj)} {v : Value} {m k : Nat} {cs : List Value} (h : SlL L v m k cs) (hg : ∀ x ∈ L, w.heap[x.1]? = some x.2) : Sl w v m k cs := by
  rcases h with h | ⟨b, off, cap, all, T, fr, h1, h2, h3, h4⟩
  · exact .inl h
  · exact .inr ⟨b, off, cap, all, T, fr, h1, h2, hg _ h3, h4⟩
theorem strsO_get {w : World} {L : List (Nat × Obj)} {v : Value} {A : List (List UInt8)} (h : StrsO L v A) (hg : ∀ x ∈ L, w.heap[x.1]? = some x.2) : StrsAt w v A := .inr ((OwL.sl h (by decide)).get hg)
theorem bytesO_get {w : World} {L : List (Nat × Obj)} {v : Value} {b : List UInt8} (h : BytesO L v b) (hg : ∀ x ∈ L, w.heap[x.1]? = some x.2) : BytesAt w v b := .inr ((OwL.sl h (by decide)).get hg)
theorem strOf_bytes {w : World} {v : Value} {b : List UInt8} (h : BytesAt w v b) : StrOf w v b := by
  rcases h with ⟨h1, _, p, cap, rfl⟩ | ⟨rfl, h1, _⟩ | ⟨blk, off, cap, all, T, fr, rfl, hcap, hb, h3, h4⟩
  · have hb0 : b = [] := List.length_eq_zero_iff.1 h1
    subst hb0
    cases p with
    | none => exact .inl ⟨cap, rfl, rfl⟩
    | some a => exact .inr ⟨a, cap, rfl, fun j hj => absurd hj (by simp)⟩
  · exact .inl ⟨0, rfl, List.length_eq_zero_iff.1 h1⟩
  · refine .inr ⟨_, cap, rfl, fun j hj => ?_⟩
    have hsl : Sl w (.slice (some ⟨blk, off, none⟩) b.length cap) 1 b.length (byteCs b) := .inr ⟨blk, off, cap, all, T, fr, rfl, hcap, hb, h3, h4⟩
    have := Sl.cell1 hsl (j := j) (byteCs_get (List.getElem?_eq_getElem hj))
    simp only [Addr.add]
    split
    · rename_i h0; subst h0; simpa [byteV] using this
    · simpa [byteV] using this
theorem mem_two {α : Type} {l : List α} {x : α} (h : x ∈ l) : ∃ A B, l = A ++ x :: B := List.append_of_mem h

theorem nodup_le {α : Type} : ∀ {l d : List α}, l.Nodup → (∀ x ∈ l, x ∈ d) → l.length ≤ d.length
  | [], _, _, _ => Nat.zero_le _
  | x :: l, d, hn, hs => by
    obtain ⟨A, B, rfl⟩ := List.append_of_mem (hs x (by simp))
    have := nodup_le (l := l) (d := A ++ B) (List.nodup_cons.1 hn).2 (fun y hy => by
      have h1 := hs y (List.mem_cons_of_mem _ hy)
      have h2 : y ≠ x := fun e => (List.nodup_cons.1 hn).1 (e ▸ hy)
      simp only [List.mem_append, List.mem_cons] at h1 ⊢
      rcases h1 with h1 | h1 | h1
      · exact .inl h1
      · exact absurd h1 h2
      · exact .inr h1)
    simp only [List.length_append, List.length_cons] at this ⊢
    omega

/-- A round that is handed two things. -/
theorem Yld.two {P : Program} {n : Nat} {F : Env} {w : World} {l : Nat} {r : Loop} {p q : Tmp} {v u : Value} {asg : Code} {R : Value → World → Prop} (hl : LoopAt w l r .ready none) (hk : KnowsT n F r.tmps) (hp : r.params = #[p, q]) (hlt : Nat.blt p n = true) (hlq : Nat.blt q n = true) (has : r.assign = asg)
    (h : W P n (some l) asg (AsgQ P n l r R) ((q, u) :: (p, v) :: F) [] w) : Yld P l [v, u] w R := by
  refine ⟨_, hl, by simp [hp], ?_⟩
  have hlt : p < n := by simpa [Nat.blt_eq] using hlt
  have hlq : q < n := by simpa [Nat.blt_eq] using hlq
  have step : ∀ {F : Env} {tm : Array Value} {t : Tmp} {v : Value}, t < n → KnowsT n F tm → KnowsT n ((t, v) :: F) (tm.setIfInBounds t v) := by
    intro F tm t v ht hk
    refine ⟨by simp [hk.size], fun s u hu => ?_⟩
    rw [look_put] at hu
    by_cases e : t = s
    · subst e; rw [if_pos rfl] at hu; cases hu; simp [hk.size, ht]
    · rw [if_neg e] at hu; rw [Array.getElem?_setIfInBounds_ne e]; exact hk.slot s u hu
  have hk1 := step (v := u) hlq (step (v := v) hlt hk)
  have hk2 : Knows n ((q, u) :: (p, v) :: F) [] { tmps := (r.tmps.setIfInBounds p v).setIfInBounds q u, defers := [] } := ⟨hk1.size, rfl, hk1.slot⟩
  have h1 := h.out _ hk2
  unfold Rnd
  refine roundIn_of_wpIn (F := Fw none) trivial ?_
  simp only [hp, has]
  simp only [Array.zip, List.zip_toArray] at *
  have e0 : (Array.foldl (fun tmps (x : Tmp × Value) => tmps.setIfInBounds x.fst x.snd) r.tmps (Array.zipWith Prod.mk #[p, q] [v, u].toArray)) = (r.tmps.setIfInBounds p v).setIfInBounds q u := by simp
  rw [e0]
  refine wpIn_mono h1 ?_
  intro e a w1 hq
  cases e with
  | normal =>
    obtain ⟨hl1, hb⟩ := hq
    refine ⟨_, run_beginRound hl1 rfl, ?_⟩
    refine wpIn_mono hb ?_
    intro e a w2 hq
    cases e with
    | normal => exact ⟨_, _, run_endRound none hq.1, _, rfl, hq.2⟩
    | ret => exact ⟨_, _, run_endRound (some .ret) hq.1, _, rfl, hq.2⟩
    | exit id => exact ⟨_, _, run_endRound (some (.exit id)) hq.1, _, rfl, hq.2⟩
    | goto t => exact hq.elim
    | panic ch => exact hq.elim
    | outgrown => exact hq.elim
  | ret => exact hq.elim
  | exit id => exact hq.elim
  | goto t => exact hq.elim
  | panic ch => exact hq.elim
  | outgrown => exact hq.elim

/-! ## Maps by texts -/
theorem strV_inj {a b : List UInt8} (h : strV a = strV b) : a = b := by
  have := Value.string.inj h
  exact strB_inj this
theorem strB_beq (a b : List UInt8) : (strB a == strB b) = decide (a = b) := by
  show ByteArray.beq _ _ = _
  rw [Bool.eq_iff_iff]
  simp only [ByteArray.beq, beq_iff_eq, decide_eq_true_eq]
  exact ⟨fun h => strB_inj (by cases ha : strB a; cases hb : strB b; rw [ha, hb] at h; simp at h; rw [h]), fun h => by rw [h]⟩
theorem strKey {P : Program} {K : TypeId} (hK : P.underlying K = some .string) : KeyLaw P K strV where
  eq a b w := by
    unfold Op.equal Op.maxDepth Op.equalIn
    rw [Sem.run_bind, run_underlying hK]
    show Result.ok (strB a == strB b) w = _
    rw [strB_beq]
  ck e a w := by
    unfold Instr.checkKey
    rw [Sem.run_bind, run_underlying hK]
    rfl
  now := ⟨_, hK, .inl fun a b => by show some (strB a == strB b) = _; rw [strB_beq]⟩
  sb a := by simp [Instr.sameBits, strB_beq]

/-- What a map's len tells. -/
def LenAt (w : World) (mb : Option Nat) (k : Nat) : Prop := (mb = none ∧ k = 0) ∨ ∃ r es clock, mb = some r ∧ w.heap[r]? = some (.map es clock) ∧ es.size = k
theorem x_lenm {P : Program} {n : Nat} {ops : Array Oper} {B : Array Nat} {dr : Bool} {K : KT} {s : List (Nat × Bool)} {F : Env} {ds : List Deferred} {T : List (Nat × (World → Prop))} {w : World} {i : Nat}
    {d : Option Tmp} {ty : TypeId} {ps : String} {af : Array Edge} {g : Option (Nat × Bool)} {t k e : Nat} {x : Operand} {mb : Option Nat} {at0 : Array TypeId} (len : Nat) (ho : ops[i]? = some ⟨d, .call ⟨.builtin .len, #[x], at0⟩, ty, ps, af, g⟩) (hg : guardV ops F g = some true) (hd : dstOK n d = true) (ht : at0[0]? = some t) (hu : P.underlying t = some (.map k e)) (hx : ev? F x = some (.map mb)) (hl : LenAt w mb len)
    (h : Ex P n ops B dr K s (putE F d (.int .i64 (len : Int))) ds (addT dr i (fun w' => LenAt w' mb len) T) w) : Ex P n ops B dr K ((i, false) :: s) F ds T w :=
  Ex.read_ ho hg hd _ (fun w' => LenAt w' mb len) (fun at_ hk w' hR => by
    rcases hR with ⟨rfl, rfl⟩ | ⟨r, es, clock, rfl, h1, rfl⟩
    · simp [execOp, resolve, invoke, builtin, Builtin.len_, ht, hk.eval hx, run_underlying hu, goInt]
    · have h2 : (getObj r).run P w' = .ok (.map es clock) w' := by simp [getObj, Sem.run, h1]
      simp [execOp, resolve, invoke, builtin, Builtin.len_, ht, hk.eval hx, run_underlying hu, goInt, h2]) hl h

/-- How many keys a map has. -/
theorem run_lenMap {P : Program} {κ : Type} [DecidableEq κ] {enc : κ → Value} {w : World} {r : Nat} {o : Obj} {g : κ → Option Value} (hr : w.heap[r]? = some o) (hm : MapF enc o g) :
    ∃ es clock, o = .map es clock ∧ (es.size = 0 ↔ ∀ k, g k = none) := by
  obtain ⟨es, clock, l, rfl, he, hn, hg, _⟩ := hm
  refine ⟨es, clock, rfl, ?_⟩
  have hl : es.size = l.length := by have := congrArg List.length he; simpa using this
  rw [hl]
  constructor
  · intro h k
    cases hk : g k with
    | none => rfl
    | some v => have := (hg k v).1 hk; rw [List.length_eq_zero_iff.1 h] at this; cases this
  · intro h
    cases l with
    | nil => rfl
    | cons p l => have := (hg p.1 p.2).2 (by simp); rw [h] at this; cases this
end Go.Fw

namespace Go.Proofs.Ytccfmfehfhfhhaa
open Go Go.Fw
set_option linter.unusedVariables false
set_option linter.unusedSimpArgs false

theorem nameOK_ne {x : List UInt8} (h : nameOK x) : x ≠ [] ∧ x ≠ [46] ∧ x ≠ [46, 46] := ⟨fun e => by subst e; have := h.1; simp at this, h.2.2.1, h.2.2.2.1⟩
theorem allOK_no {l : List (List UInt8)} (h : allOK l) : ∀ x ∈ l, (47 : UInt8) ∉ x := fun x hx => nameOK_no (h x hx)
theorem joinS_nil {l : List (List UInt8)} (h : allOK l) : joinS l = [] ↔ l = [] := by
  constructor
  · intro e
    match l, h, e with
    | [], _, _ => rfl
    | [p], h, e => exact absurd e (nameOK_ne (h p (by simp))).1
    | p :: q :: r, h, e => simp [joinS] at e
  · rintro rfl; rfl
theorem namesP_join {l : List (List UInt8)} (h : allOK l) : namesP (joinS l) = l := by
  unfold namesP
  split
  · rename_i e; exact ((joinS_nil h).1 e).symm
  · rename_i e; exact splitS_joinS (fun e2 => e (by subst e2; rfl)) (allOK_no h)
theorem joinE_cases (l : List (List UInt8)) : (joinE l = 0 ∧ joinV l = joinS l ∧ l.length ≤ 8 ∧ allOK l ∧ (joinS l).length ≤ 120) ∨ (joinE l = 8 ∧ joinV l = []) := by
  by_cases h : l.length ≤ 8 ∧ allOK l ∧ (joinS l).length ≤ 120
  · have := joinP_good h.1 h.2.1 h.2.2
    exact .inl ⟨this.1, this.2, h⟩
  · right
    have : joinP l = none := by unfold joinP; rw [if_neg h]
    simp [joinE, joinV, this]
theorem splitN_join {l : List (List UInt8)} (h1 : l.length ≤ 8) (h2 : allOK l) (h3 : (joinS l).length ≤ 120) : splitE (joinS l) = 0 ∧ splitN (joinS l) = l := by
  by_cases h : l = []
  · subst h; exact ⟨rfl, rfl⟩
  · have hs := splitS_joinS h (allOK_no h2)
    have := splitE_some (splitP_good (p := joinS l) (fun e => h ((joinS_nil h2).1 e)) h3 (by rw [hs]; exact ⟨h1, h2⟩))
    rw [hs] at this
    exact this
theorem join_split {p : List UInt8} (h : splitE p = 0) : joinV (splitN p) = p ∧ joinE (splitN p) = 0 := by
  rcases splitN_facts h with ⟨h1, h2⟩ | ⟨h1, h2, h3, h4⟩
  · rw [h2, h1]; exact ⟨rfl, rfl⟩
  · have h5 := splitE_len h
    have := joinP_good h3 h4 (by rw [joinS_splitS]; exact h5)
    rw [h2, this.1, this.2, joinS_splitS]; exact ⟨rfl, rfl⟩
theorem split_join {l : List (List UInt8)} (h : joinE l = 0) : splitE (joinV l) = 0 ∧ splitN (joinV l) = l := by
  rcases joinE_cases l with ⟨_, h1, h2, h3, h4⟩ | ⟨h1, _⟩
  · rw [h1]; exact splitN_join h2 h3 h4
  · rw [h1] at h; cases h
theorem joinE_bad {l : List (List UInt8)} (h : ¬ joinE l = 0) : joinE l = 8 ∧ joinV l = [] := by
  rcases joinE_cases l with ⟨h1, _⟩ | h1
  · exact absurd h1 h
  · exact h1

/-! ## What is clean -/
theorem fold_ok : ∀ (l A : List (List UInt8)), allOK l → l.foldl cleanStep A = A ++ l
  | [], A, _ => by simp
  | x :: l, A, h => by
    obtain ⟨h1, h2, h3⟩ := nameOK_ne (h x (by simp))
    rw [List.foldl_cons, cleanStep_in h1 h2 h3, fold_ok l _ (fun y hy => h y (List.mem_cons_of_mem _ hy))]
    simp
theorem fold_split {l : List (List UInt8)} (h : allOK l) (A : List (List UInt8)) : (splitS (joinS l)).foldl cleanStep A = A ++ l := by
  by_cases h0 : l = []
  · subst h0
    simp [joinS, splitS, cleanStep]
  · rw [splitS_joinS h0 (allOK_no h), fold_ok l A h]
theorem clean_bad {s : List UInt8} (h : ¬ (cleanP s).2 = 0) : (cleanP s).1 = [] := by
  unfold cleanP at h ⊢
  split
  · rfl
  · rename_i h1
    rw [if_neg h1] at h
    cases hj : joinP (cleanL s) with
    | none => rfl
    | some p => rw [hj] at h; simp at h
theorem clean_ok {s : List UInt8} (h : (cleanP s).2 = 0) : ∃ l, l.length ≤ 8 ∧ allOK l ∧ (joinS l).length ≤ 120 ∧ (cleanP s).1 = joinS l := by
  unfold cleanP at h ⊢
  split
  · rename_i h1; rw [if_pos h1] at h; cases h
  · rename_i h1
    rw [if_neg h1] at h
    unfold joinP at h ⊢
    by_cases h2 : (cleanL s).length ≤ 8 ∧ allOK (cleanL s) ∧ (joinS (cleanL s)).length ≤ 120
    · exact ⟨cleanL s, h2.1, h2.2.1, h2.2.2, by rw [if_pos h2]⟩
    · rw [if_neg h2] at h; cases h
theorem cleanP_of {s : List UInt8} {l : List (List UInt8)} (hs : s.length ≤ 1024) (hl : cleanL s = l) (h1 : l.length ≤ 8) (h2 : allOK l) (h3 : (joinS l).length ≤ 120) : cleanP s = (joinS l, 0) := by
  rw [cleanP_join hs, hl]
  have := joinP_good h1 h2 h3
  rw [this.1, this.2]
theorem clean_clean {l : List (List UInt8)} (h1 : l.length ≤ 8) (h2 : allOK l) (h3 : (joinS l).length ≤ 120) : cleanP (joinS l) = (joinS l, 0) :=
  cleanP_of (by omega) (by unfold cleanL; rw [fold_split h2]; rfl) h1 h2 h3
theorem clean_about {l : List (List UInt8)} (h1 : l.length ≤ 8) (h2 : allOK l) (h3 : (joinS l).length ≤ 120) : cleanP (([47, 47, 46, 47] ++ joinS l) ++ [47, 46, 47, 120, 47, 46, 46, 47, 47]) = (joinS l, 0) := by
  refine cleanP_of (by simp; omega) ?_ h1 h2 h3
  unfold cleanL
  have e : ([47, 47, 46, 47] ++ joinS l) ++ [47, 46, 47, 120, 47, 46, 46, 47, 47] = [] ++ 47 :: ([] ++ 47 :: ([46] ++ 47 :: (joinS l ++ 47 :: ([46] ++ 47 :: ([120] ++ 47 :: ([46, 46] ++ 47 :: ([] ++ 47 :: []))))))) := by simp
  rw [e]
  simp only [splitS_slash, List.foldl_append]
  have d1 : splitS [] = [[]] := rfl
  have d2 : splitS [46] = [[46]] := rfl
  have d3 : splitS [120] = [[120]] := rfl
  have d4 : splitS [46, 46] = [[46, 46]] := rfl
  rw [d1, d2, d3, d4]
  simp only [List.foldl_cons, List.foldl_nil]
  have c1 : ∀ A, cleanStep A [] = A := fun A => cleanStep_dot (.inl rfl)
  have c2 : ∀ A, cleanStep A [46] = A := fun A => cleanStep_dot (.inr rfl)
  have c3 : ∀ A, cleanStep A [120] = A ++ [[120]] := fun A => cleanStep_in (by decide) (by decide) (by decide)
  have c4 : ∀ A, cleanStep A [46, 46] = A.take (A.length - 1) := fun A => cleanStep_up (by decide) (by decide) rfl
  rw [c1, c1, c2, fold_split h2, c2, c3, c4, c1, c1]
  simp

/-! ## Order -/
theorem cmpL_cases : ∀ (a b : List (List UInt8)), compareL a b = -1 ∨ (compareL a b = 0 ∧ a = b) ∨ compareL a b = 1
  | [], [] => .inr (.inl ⟨rfl, rfl⟩)
  | [], _ :: _ => .inl rfl
  | _ :: _, [] => .inr (.inr rfl)
  | x :: a, y :: b => by
    unfold compareL
    rcases cmp_cases x y with h | ⟨h, rfl⟩ | h
    · rw [if_pos (by omega)]; exact .inl h
    · rw [if_neg (by omega)]
      rcases cmpL_cases a b with h2 | ⟨h2, rfl⟩ | h2
      · exact .inl h2
      · exact .inr (.inl ⟨h2, rfl⟩)
      · exact .inr (.inr h2)
    · rw [if_pos (by omega)]; exact .inr (.inr h)
theorem cmpL_self : ∀ a : List (List UInt8), compareL a a = 0
  | [] => rfl
  | x :: a => by unfold compareL; rw [if_neg (by rw [cmp_self]; simp)]; exact cmpL_self a
theorem cmpL_swap : ∀ a b : List (List UInt8), compareL b a = - compareL a b
  | [], [] => rfl
  | [], _ :: _ => rfl
  | _ :: _, [] => rfl
  | x :: a, y :: b => by
    have ih := cmpL_swap a b
    have h := cmp_swap x y
    conv => lhs; unfold compareL
    conv => rhs; unfold compareL
    by_cases h0 : Lib.compareBytes x y = 0
    · rw [if_neg (by omega), if_neg (by omega), ih]
    · rw [if_pos (by omega), if_pos h0, h]
theorem cmp_trans : ∀ {a b c : List UInt8}, Lib.compareBytes a b ≤ 0 → Lib.compareBytes b c ≤ 0 → Lib.compareBytes a c < 0 ∨ (Lib.compareBytes a b = 0 ∧ Lib.compareBytes b c = 0)
  | [], [], [], _, _ => .inr ⟨rfl, rfl⟩
  | [], [], _ :: _, _, _ => .inl (by show (-1 : Int) < 0; omega)
  | [], _ :: _, [], _, h => by exfalso; have : (1 : Int) ≤ 0 := h; omega
  | [], _ :: _, _ :: _, _, _ => .inl (by show (-1 : Int) < 0; omega)
  | _ :: _, [], _, h, _ => by exfalso; have : (1 : Int) ≤ 0 := h; omega
  | _ :: _, _ :: _, [], _, h => by exfalso; have : (1 : Int) ≤ 0 := h; omega
  | x :: a, y :: b, z :: c, h1, h2 => by
    unfold Lib.compareBytes at h1 h2 ⊢
    by_cases g1 : x < y
    · by_cases g2 : y < z
      · left; rw [if_pos (by rw [UInt8.lt_iff_toNat_lt] at *; omega)]; omega
      · rw [if_neg g2] at h2
        by_cases g3 : z < y
        · rw [if_pos g3] at h2; omega
        · left; rw [if_pos (by rw [UInt8.lt_iff_toNat_lt] at *; omega)]; omega
    · rw [if_neg g1] at h1
      by_cases g1' : y < x
      · rw [if_pos g1'] at h1; omega
      · have hxy : x = y := UInt8.toNat_inj.1 (by rw [UInt8.lt_iff_toNat_lt] at *; omega)
        subst hxy
        rw [if_neg g1'] at h1
        rw [if_neg (show ¬ x < x by rw [UInt8.lt_iff_toNat_lt]; omega), if_neg (show ¬ x < x by rw [UInt8.lt_iff_toNat_lt]; omega)]
        by_cases g2 : x < z
        · left; rw [if_pos g2]; omega
        · rw [if_neg g2] at h2
          by_cases g3 : z < x
          · rw [if_pos g3] at h2; omega
          · rw [if_neg g3] at h2
            rw [if_neg g2, if_neg g3]
            rw [if_neg g2, if_neg g3]
            exact cmp_trans h1 h2
theorem cmpL_trans : ∀ {a b c : List (List UInt8)}, compareL a b ≤ 0 → compareL b c ≤ 0 → compareL a c < 0 ∨ (compareL a b = 0 ∧ compareL b c = 0)
  | [], [], [], _, _ => .inr ⟨rfl, rfl⟩
  | [], [], _ :: _, _, _ => .inl (by show (-1 : Int) < 0; omega)
  | [], _ :: _, [], _, h => by exfalso; have : (1 : Int) ≤ 0 := h; omega
  | [], _ :: _, _ :: _, _, _ => .inl (by show (-1 : Int) < 0; omega)
  | _ :: _, [], _, h, _ => by exfalso; have : (1 : Int) ≤ 0 := h; omega
  | _ :: _, _ :: _, [], _, h => by exfalso; have : (1 : Int) ≤ 0 := h; omega
  | x :: a, y :: b, z :: c, h1, h2 => by
    have e1 : compareL (x :: a) (y :: b) = if Lib.compareBytes x y ≠ 0 then Lib.compareBytes x y else compareL a b := rfl
    have e2 : compareL (y :: b) (z :: c) = if Lib.compareBytes y z ≠ 0 then Lib.compareBytes y z else compareL b c := rfl
    have e3 : compareL (x :: a) (z :: c) = if Lib.compareBytes x z ≠ 0 then Lib.compareBytes x z else compareL a c := rfl
    rw [e1] at h1 ⊢
    rw [e2] at h2 ⊢
    rw [e3]
    have k1 : Lib.compareBytes x y ≤ 0 := by by_cases g : Lib.compareBytes x y = 0; omega; rw [if_pos g] at h1; exact h1
    have k2 : Lib.compareBytes y z ≤ 0 := by by_cases g : Lib.compareBytes y z = 0; omega; rw [if_pos g] at h2; exact h2
    rcases cmp_trans k1 k2 with h | ⟨g1, g2⟩
    · left; rw [if_pos (by omega)]; exact h
    · have hxy : x = y := by rcases cmp_cases x y with h | ⟨_, h⟩ | h; omega; exact h; omega
      subst hxy
      rw [if_neg (by omega)] at h1 h2
      rw [if_neg (by omega), if_neg (by omega), if_neg (by omega)]
      exact cmpL_trans h1 h2
theorem namesP_inj {a b : List UInt8} (h : namesP a = namesP b) : a = b := by
  have key : ∀ p, joinS (namesP p) = p := fun p => by
    unfold namesP; split
    · rename_i h; rw [h]; rfl
    · exact joinS_splitS p
  rw [← key a, ← key b, h]
theorem cmpP_cases (a b : List UInt8) : compareP a b = -1 ∨ (compareP a b = 0 ∧ a = b) ∨ compareP a b = 1 :=
  (cmpL_cases (namesP a) (namesP b)).imp id (fun h => h.imp (fun h => ⟨h.1, namesP_inj h.2⟩) id)
theorem cmpP_swap (a b : List UInt8) : compareP b a = - compareP a b := cmpL_swap _ _
theorem cmpP_self (a : List UInt8) : compareP a a = 0 := cmpL_self _
theorem cmpP_trans {a b c : List UInt8} (h1 : compareP a b ≤ 0) (h2 : compareP b c ≤ 0) : compareP a c < 0 ∨ (compareP a b = 0 ∧ compareP b c = 0) := cmpL_trans h1 h2
theorem cmpP_zero {a b : List UInt8} (h : compareP a b = 0) : a = b := by rcases cmpP_cases a b with h1 | ⟨_, h1⟩ | h1; omega; exact h1; omega

/-! ## What stands under a directory -/
theorem namesP_splitN {p : List UInt8} (h : splitE p = 0) : namesP p = splitN p := by
  rcases splitN_facts h with ⟨h1, h2⟩ | ⟨h1, h2, _⟩
  · rw [h2, h1]; rfl
  · rw [h2, namesP_some h1]
theorem under_facts {p dir : List UInt8} (h : underP p dir = true) : splitE p = 0 ∧ splitE dir = 0 ∧ ∃ c, namesP p = namesP dir ++ c := by
  rw [underP_eq, Bool.and_eq_true, Bool.and_eq_true, decide_eq_true_eq, decide_eq_true_eq, List.isPrefixOf_iff_prefix] at h
  obtain ⟨⟨h1, h2⟩, c, hc⟩ := h
  exact ⟨h1, h2, c, by rw [namesP_splitN h1, namesP_splitN h2, hc]⟩
theorem under_of {p dir : List UInt8} (h1 : splitE p = 0) (h2 : splitE dir = 0) (h : ∃ c, namesP p = namesP dir ++ c) : underP p dir = true := by
  rw [underP_eq, h1, h2]
  obtain ⟨c, hc⟩ := h
  rw [namesP_splitN h1, namesP_splitN h2] at hc
  simp only [decide_true, Bool.true_and]
  rw [List.isPrefixOf_iff_prefix]
  exact ⟨c, hc.symm⟩
theorem cmpL_app : ∀ (b c : List (List UInt8)), compareL b (b ++ c) ≤ 0 ∧ (compareL b (b ++ c) = 0 → c = [])
  | [], [] => ⟨by show (0 : Int) ≤ 0; omega, fun _ => rfl⟩
  | [], _ :: _ => ⟨by show (-1 : Int) ≤ 0; omega, fun h => by have : (-1 : Int) = 0 := h; omega⟩
  | x :: b, c => by
    have e : compareL (x :: b) (x :: b ++ c) = compareL b (b ++ c) := by
      show (if Lib.compareBytes x x ≠ 0 then _ else _) = _
      rw [if_neg (by rw [cmp_self]; simp)]; rfl
    rw [e]; exact cmpL_app b c
theorem cmpL_between : ∀ {b c q : List (List UInt8)}, compareL b q ≤ 0 → compareL q (b ++ c) ≤ 0 → ∃ d, q = b ++ d
  | [], c, q, _, _ => ⟨q, rfl⟩
  | x :: b, c, [], h, _ => by exfalso; have : (1 : Int) ≤ 0 := h; omega
  | x :: b, c, y :: q, h1, h2 => by
    have e1 : compareL (x :: b) (y :: q) = if Lib.compareBytes x y ≠ 0 then Lib.compareBytes x y else compareL b q := rfl
    have e2 : compareL (y :: q) (x :: b ++ c) = if Lib.compareBytes y x ≠ 0 then Lib.compareBytes y x else compareL q (b ++ c) := rfl
    rw [e1] at h1
    rw [e2] at h2
    have hs := cmp_swap x y
    have k1 : Lib.compareBytes x y ≤ 0 := by by_cases g : Lib.compareBytes x y = 0; omega; rw [if_pos g] at h1; exact h1
    have k2 : Lib.compareBytes y x ≤ 0 := by by_cases g : Lib.compareBytes y x = 0; omega; rw [if_pos g] at h2; exact h2
    have hxy : x = y := by rcases cmp_cases x y with h | ⟨_, h⟩ | h; omega; exact h; omega
    subst hxy
    rw [if_neg (by omega)] at h1 h2
    obtain ⟨d, hd⟩ := cmpL_between h1 h2
    exact ⟨d, by rw [hd]; rfl⟩
theorem under_behind {p dir : List UInt8} (h : underP p dir = true) : compareP dir p ≤ 0 ∧ (compareP dir p = 0 ↔ dir = p) := by
  obtain ⟨_, _, c, hc⟩ := under_facts h
  have := cmpL_app (namesP dir) c
  rw [← hc] at this
  refine ⟨this.1, fun h0 => cmpP_zero h0, fun e => by rw [e]; exact cmpP_self p⟩
theorem under_between {p q dir : List UInt8} (h : underP p dir = true) (hq : splitE q = 0) (h1 : compareP dir q ≤ 0) (h2 : compareP q p ≤ 0) : underP q dir = true := by
  obtain ⟨_, hd, c, hc⟩ := under_facts h
  unfold compareP at h1 h2
  rw [hc] at h2
  exact under_of hq hd (cmpL_between h1 h2)

/-! ## Steps -/
theorem parent_bad {p : List UInt8} (h : ¬ (parentP p).2.2 = 0) : (parentP p).1 = [] ∧ (parentP p).2.1 = [] := by
  by_cases h1 : splitE p = 0
  · by_cases h2 : p = []
    · subst h2; exact ⟨rfl, rfl⟩
    · obtain ⟨a, x, hs⟩ := split_snoc p
      rw [parentP_some h2 h1 hs] at h
      exact absurd rfl h
  · rw [(parentP_bad h1).1]; exact ⟨rfl, rfl⟩
theorem parent_ok {p : List UInt8} (h : (parentP p).2.2 = 0) : ∃ a x, parentP p = (joinS a, x, 0) ∧ splitE (joinS a) = 0 ∧ splitN (joinS a) = a ∧ joinV (a ++ [x]) = p ∧ joinE (a ++ [x]) = 0 ∧ underP p (joinS a) = true ∧ underP (joinS a) p = false ∧ nameOK x ∧ a.length ≤ 8 := by
  by_cases h1 : splitE p = 0
  · by_cases h2 : p = []
    · subst h2; cases h
    · obtain ⟨a, x, hs⟩ := split_snoc p
      rcases splitN_facts h1 with ⟨h3, _⟩ | ⟨_, h3, h4, h5⟩
      · exact absurd h3 h2
      · have hl := splitE_len h1
        rw [hs] at h4 h5
        have ha : allOK a := fun y hy => h5 y (List.mem_append_left _ hy)
        have hal : a.length ≤ 8 := by simp at h4; omega
        have hja : (joinS a).length ≤ 120 := by
          have hp : p = joinS (a ++ [x]) := by rw [← hs, joinS_splitS]
          by_cases h0 : a = []
          · subst h0; simp [joinS]
          · rw [joinS_app h0 (by simp)] at hp
            have := congrArg List.length hp
            simp at this; omega
        have hsa := splitN_join hal ha hja
        have hjp : joinS (a ++ [x]) = p := by rw [← hs, joinS_splitS]
        have hg := joinP_good h4 h5 (by rw [hjp]; exact hl)
        refine ⟨a, x, parentP_some h2 h1 hs, hsa.1, hsa.2, by rw [hg.2, hjp], hg.1, ?_, ?_, h5 x (by simp), hal⟩
        · exact under_of h1 hsa.1 ⟨[x], by rw [namesP_some h2, hs, namesP_join ha]⟩
        · rw [← Bool.not_eq_true]
          intro hu
          obtain ⟨_, _, c, hc⟩ := under_facts hu
          rw [namesP_some h2, hs, namesP_join ha] at hc
          have := congrArg List.length hc
          simp only [List.length_append, List.length_cons, List.length_nil] at this; omega
  · rw [(parentP_bad h1).1] at h; cases h
theorem order_end {a b c : List UInt8} (h1 : compareP a b ≤ 0) (h2 : compareP b c ≤ 0) (h3 : 0 ≤ compareP a c) : compareP a b = 0 ∧ compareP b c = 0 ∧ compareP a c = 0 := by
  rcases cmpP_trans h1 h2 with h | ⟨g1, g2⟩
  · omega
  · refine ⟨g1, g2, ?_⟩
    rw [cmpP_zero g1, cmpP_zero g2]; exact cmpP_self c
theorem under_eqb {p dir : List UInt8} (h : underP p dir = true) : ((compareP dir p == 0) == decide (dir = p)) = true := by
  have := (under_behind h).2
  by_cases e : dir = p
  · rw [decide_eq_true e, this.2 e]; rfl
  · rw [decide_eq_false e, beq_eq_false_iff_ne.2 (fun h => e (this.1 h))]; rfl
end Go.Proofs.Ytccfmfehfhfhhaa

namespace Go.Proofs.Ytccfmfehfhfhhaa
open Go Go.Fw Go.RowKit
set_option linter.unusedVariables false
set_option linter.unusedSimpArgs false

abbrev NP := List (List UInt8)
/-- What stands at a path: is it a directory, and its bytes. -/
abbrev Gf := NP → Option (Bool × List UInt8)

/-- What coming along names answers. -/
def comeG (g : Gf) : NP → NP → Int
  | _, [] => 0
  | pre, n :: r => match g pre with
    | some (true, _) => if (g (pre ++ [n])).isNone then 9 else comeG g (pre ++ [n]) r
    | _ => 17

structure Ent where
  p : NP
  b : Nat
  dir : Bool
  m : Nat
  o : Obj
  v : Value
  D : List (Nat × Obj)
  data : List UInt8

def Ent.kv (e : Ent) : Value := if e.dir then .map (some e.m) else .map none
def Ent.hd (e : Ent) : Nat × Obj := (e.b, .cells [.bool e.dir, e.kv, e.v].toArray 82 (0, 0))
def Ent.mp (e : Ent) : List (Nat × Obj) := if e.dir then [(e.m, e.o)] else []
def Ent.blks (e : Ent) : List (Nat × Obj) := e.hd :: (e.mp ++ e.D)
def blks (E : List Ent) : List (Nat × Obj) := E.flatMap Ent.blks
def ent (E : List Ent) (q : NP) : Option Ent := E.find? (fun e => decide (e.p = q))
def kids (E : List Ent) (q : NP) : List UInt8 → Option Value := fun n => (ent E (q ++ [n])).map fun e => ptr e.b
def absE (E : List Ent) : Gf := fun q => (ent E q).map fun e => (e.dir, e.data)
def POK (p : NP) : Prop := p.length ≤ 8 ∧ allOK p ∧ (joinS p).length ≤ 120

structure TI (E : List Ent) : Prop where
  nd : (E.map (·.p)).Nodup
  root : ∃ e, ent E [] = some e ∧ e.dir = true
  par : ∀ q n e, ent E (q ++ [n]) = some e → ∃ d, ent E q = some d ∧ d.dir = true
  ok : ∀ e ∈ E, POK e.p
  map : ∀ e ∈ E, e.dir = true → MapF strV e.o (kids E e.p)
  dat : ∀ e ∈ E, BytesO e.D e.v e.data ∧ e.data.length ≤ 65536
  dd : ∀ e ∈ E, e.dir = true → e.data = []

section
variable {E : List Ent} {e : Ent} {q : NP}
theorem ent_mem (h : ent E q = some e) : e ∈ E ∧ e.p = q := ⟨List.mem_of_find?_eq_some h, by have := List.find?_some h; simpa using this⟩
theorem ent_none (h : ent E q = none) : ∀ e ∈ E, e.p ≠ q := fun e he => by have := List.find?_eq_none.1 h e he; simpa using this
theorem ent_of : ∀ {E : List Ent} {e : Ent}, (E.map (·.p)).Nodup → e ∈ E → ent E e.p = some e
  | x :: E, e, hn, he => by
    unfold ent
    rw [List.find?_cons]
    simp only [List.map_cons, List.nodup_cons] at hn
    rcases List.mem_cons.1 he with rfl | he
    · simp
    · have : x.p ≠ e.p := fun h => hn.1 (h ▸ List.mem_map.2 ⟨e, he, rfl⟩)
      simp only [this, decide_false]
      exact ent_of hn.2 he
theorem ent_iff (hn : (E.map (·.p)).Nodup) : ent E q = some e ↔ e ∈ E ∧ e.p = q := ⟨ent_mem, fun ⟨h1, h2⟩ => h2 ▸ ent_of hn h1⟩
theorem TI.of (h : TI E) (he : e ∈ E) : ent E e.p = some e := ent_of h.nd he

theorem mem_blks {x : Nat × Obj} : x ∈ blks E ↔ ∃ e ∈ E, x ∈ e.blks := List.mem_flatMap
theorem mem_hd (he : e ∈ E) : e.hd ∈ blks E := mem_blks.2 ⟨e, he, by simp [Ent.blks]⟩
theorem mem_mp (he : e ∈ E) (hd : e.dir = true) : (e.m, e.o) ∈ blks E := mem_blks.2 ⟨e, he, by simp [Ent.blks, Ent.mp, hd]⟩
theorem mem_D (he : e ∈ E) {x : Nat × Obj} (hx : x ∈ e.D) : x ∈ blks E := mem_blks.2 ⟨e, he, by simp [Ent.blks, hx]⟩

/-- All that is under a path is under a directory. -/
theorem TI.pre (h : TI E) : ∀ {r q : NP} {e : Ent}, ent E (q ++ r) = some e → ∃ d, ent E q = some d ∧ (r ≠ [] → d.dir = true) := by
  intro r
  induction r with
  | nil => intro q e he; exact ⟨e, by simpa using he, fun h => absurd rfl h⟩
  | cons n r ih =>
    intro q e he
    have he : ent E ((q ++ [n]) ++ r) = some e := by simpa using he
    obtain ⟨d, hd, _⟩ := ih he
    obtain ⟨d2, h2, h3⟩ := h.par q n d hd
    exact ⟨d2, h2, fun _ => h3⟩
theorem comeE_zero (h : TI E) : ∀ {r q : NP} {d : Ent}, ent E q = some d → (comeG (absE E) q r = 0 ↔ ∃ e, ent E (q ++ r) = some e) := by
  intro r
  induction r with
  | nil => intro q d hd; exact ⟨fun _ => ⟨d, by simpa using hd⟩, fun _ => rfl⟩
  | cons n r ih =>
    intro q d hd
    have e1 : absE E q = some (d.dir, d.data) := by unfold absE; rw [hd]; rfl
    unfold comeG
    rw [e1]
    cases hdd : d.dir with
    | false =>
      refine ⟨fun h => by simp at h, fun ⟨e, he⟩ => ?_⟩
      obtain ⟨d2, h2, h3⟩ := h.pre he
      rw [hd] at h2; cases h2
      rw [h3 (by simp)] at hdd; cases hdd
    | true =>
      simp only
      cases hk : ent E (q ++ [n]) with
      | none =>
        have : absE E (q ++ [n]) = none := by unfold absE; rw [hk]; rfl
        rw [this]
        refine ⟨fun h => by simp at h, fun ⟨e, he⟩ => ?_⟩
        have he : ent E ((q ++ [n]) ++ r) = some e := by simpa using he
        obtain ⟨d2, h2, _⟩ := h.pre he
        rw [hk] at h2; cases h2
      | some k =>
        have : absE E (q ++ [n]) = some (k.dir, k.data) := by unfold absE; rw [hk]; rfl
        rw [this]
        simp only [Option.isNone_some, Bool.false_eq_true, if_false]
        rw [ih hk]; simp
end

/-! ## In memory -/
/-- A tree's blocks. -/
def tblk (bt : Nat) (E : List Ent) (rb : Nat) : List (Nat × Obj) := (bt, .cells [ptr rb, .int .i64 ((E.length : Int) - 1)].toArray 63 (0, 0)) :: blks E
/-- A node's entries are there. -/
def EAt (w : World) (E : List Ent) : Prop := ∀ x ∈ blks E, w.heap[x.1]? = some x.2
section
variable {S : Nat → Prop} {w0 w w1 : World} {E : List Ent} {L : List (Nat × Obj)} {e : Ent}
theorem EAt.new (h : EAt w E) (hn : New w w1) : EAt w1 E := fun x hx => hn.keep (h x hx)
theorem EAt.of (M : St S w0 (blks E ++ L) w) : EAt w E := fun x hx => M.get (List.mem_append_left _ hx)
theorem EAt.of' (M : St S w0 L w) (hs : ∀ x ∈ blks E, x ∈ L) : EAt w E := fun x hx => M.get (hs x hx)
theorem EAt.hd (h : EAt w E) (he : e ∈ E) : w.heap[e.b]? = some (.cells [.bool e.dir, e.kv, e.v].toArray 82 (0, 0)) := h _ (mem_hd he)
theorem EAt.dir (h : EAt w E) (he : e ∈ E) : w.cell? ⟨e.b, 0, none⟩ = some (.bool e.dir) := cell_of (h.hd he) rfl
theorem EAt.kv (h : EAt w E) (he : e ∈ E) : w.cell? ⟨e.b, 1, none⟩ = some e.kv := cell_of (h.hd he) rfl
theorem EAt.data (h : EAt w E) (he : e ∈ E) : w.cell? ⟨e.b, 2, none⟩ = some e.v := cell_of (h.hd he) rfl
theorem EAt.mp (h : EAt w E) (he : e ∈ E) (hd : e.dir = true) : w.heap[e.m]? = some e.o := h _ (mem_mp he hd)
theorem Ent.kvT (hd : e.dir = true) : e.kv = .map (some e.m) := by simp [Ent.kv, hd]
theorem Ent.kvF (hd : e.dir = false) : e.kv = .map none := by simp [Ent.kv, hd]
theorem EAt.lk (h : EAt w E) (hT : TI E) (he : e ∈ E) (hd : e.dir = true) (n : List UInt8) : LkAt strV w e.m n (kids E e.p n) := ⟨e.o, kids E e.p, h.mp he hd, hT.map e he hd, rfl⟩
theorem EAt.bytes (h : EAt w E) (hT : TI E) (he : e ∈ E) : BytesAt w e.v e.data := by
  obtain ⟨h1, _⟩ := hT.dat e he
  rcases h1 with ⟨r1, r2, r3, _⟩ | ⟨b, cap, rest, T, r1, r2, r3, r4⟩
  · exact .inr (.inl ⟨r1, r2, r3⟩)
  · refine .inr (.inr ⟨b, 0, cap, _, T, (0, 0), r1, ?_, h _ (mem_D he (by rw [r2]; exact List.mem_singleton.2 rfl)), by simp [← r3], r3⟩)
    have : e.data.length * 1 ≤ cap * 1 := by rw [← r3, ← r4]; simp
    omega
/-- A tree, behind a pointer. -/
def TrA (w : World) (bt : Nat) (E : List Ent) : Prop := ∃ r, ent E [] = some r ∧ w.heap[bt]? = some (.cells [ptr r.b, .int .i64 ((E.length : Int) - 1)].toArray 63 (0, 0)) ∧ EAt w E ∧ TI E
theorem TrA.new {bt : Nat} (h : TrA w bt E) (hn : New w w1) : TrA w1 bt E := let ⟨r, h1, h2, h3, h4⟩ := h; ⟨r, h1, hn.keep h2, h3.new hn, h4⟩
theorem kids_getD (q : NP) (n : List UInt8) : (kids E q n).getD (.pointer none) = .pointer ((ent E (q ++ [n])).map fun e => ⟨e.b, 0, none⟩) := by
  unfold kids; cases ent E (q ++ [n]) <;> rfl
theorem come_at {l : NP} {j : Nat} {n : List UInt8} {d : Ent} (hn : l[j]? = some n) (hd : ent E (l.take j) = some d) :
    comeG (absE E) (l.take j) (l.drop j) = if d.dir = true then (if (ent E (l.take j ++ [n])).isNone = true then 9 else comeG (absE E) (l.take (j + 1)) (l.drop (j + 1))) else 17 := by
  obtain ⟨hl, rfl⟩ := List.getElem?_eq_some_iff.1 hn
  rw [List.drop_eq_getElem_cons hl, List.take_succ_eq_append_getElem hl]
  have e1 : absE E (l.take j) = some (d.dir, d.data) := by unfold absE; rw [hd]; rfl
  conv => lhs; unfold comeG
  rw [e1]
  cases d.dir with
  | false => simp
  | true =>
    have : (absE E (l.take j ++ [l[j]])).isNone = (ent E (l.take j ++ [l[j]])).isNone := by unfold absE; cases ent E (l.take j ++ [l[j]]) <;> rfl
    simp only [this, if_true]
theorem take_snoc' {l : NP} {j : Nat} {n : List UInt8} (hn : l[j]? = some n) : l.take (j + 1) = l.take j ++ [n] := by
  obtain ⟨hl, rfl⟩ := List.getElem?_eq_some_iff.1 hn
  exact List.take_succ_eq_append_getElem hl
/-- What comes of coming. -/
def ndP (E : List Ent) (q : NP) : Value := .pointer ((ent E q).map fun e => ⟨e.b, 0, none⟩)
theorem come_nd {l : NP} {r : Ent} (hT : TI E) (hr : ent E [] = some r) (h : comeG (absE E) [] l ≠ 0) : ent E l = none := by
  cases hl : ent E l with
  | none => rfl
  | some e => exact absurd ((comeE_zero hT hr).2 ⟨e, by simpa using hl⟩) h
/-- What looking for a path answers. -/
def findG (g : Gf) (p : List UInt8) : Int := if splitE p = 0 then comeG g [] (splitN p) else splitE p
/-- What looking for a path's directory answers. -/
def homeG (g : Gf) (p : List UInt8) (root : Int) : Int :=
  if splitE p = 0 then (if splitN p = [] then root else
    if comeG g [] (splitN p).dropLast = 0 then (if ((g (splitN p).dropLast).getD (false, [])).1 = true then 0 else 17) else comeG g [] (splitN p).dropLast)
  else splitE p
theorem findG_bad {g : Gf} {p : List UInt8} (h : ¬ splitE p = 0) : findG g p = splitE p := if_neg h
theorem findG_ok {g : Gf} {p : List UInt8} (h : splitE p = 0) : findG g p = comeG g [] (splitN p) := if_pos h
theorem homeG_bad {g : Gf} {p : List UInt8} {root : Int} (h : ¬ splitE p = 0) : homeG g p root = splitE p := if_neg h
theorem homeG_root {g : Gf} {p : List UInt8} {root : Int} (h : splitE p = 0) (hn : splitN p = []) : homeG g p root = root := by unfold homeG; rw [if_pos h, if_pos hn]
theorem findG_ent {p : List UInt8} {r : Ent} (hT : TI E) (hr : ent E [] = some r) (h : findG (absE E) p = 0) : splitE p = 0 ∧ ∃ e, ent E (splitN p) = some e := by
  unfold findG at h
  split at h
  · rename_i h1; exact ⟨h1, by simpa using (comeE_zero hT hr).1 h⟩
  · rename_i h1; exact absurd h h1
/-- All of a tree's blocks. -/
def tb (bt : Nat) (E : List Ent) : List (Nat × Obj) := (bt, .cells [ndP E [], .int .i64 ((E.length : Int) - 1)].toArray 63 (0, 0)) :: blks E
theorem TrA.of {bt : Nat} (hT : TI E) (M : St S w0 (tb bt E ++ L) w) : TrA w bt E := by
  obtain ⟨r, hr, _⟩ := hT.root
  refine ⟨r, hr, ?_, fun x hx => M.get (by simp [tb, hx]), hT⟩
  have := M.at_ 0 (by rfl)
  unfold ndP at this
  rw [hr] at this
  exact this
end
end Go.Proofs.Ytccfmfehfhfhhaa

namespace Go.Proofs.Ytccfmfehfhfhhaa
open Go Go.Fw Go.RowKit Go.Proofs
set_option linter.unusedVariables false
set_option linter.unusedSimpArgs false

set_option maxRecDepth 100000 in
theorem clone_c {w0 : World} {v : Value} {b : List UInt8} (h : BytesAt w0 v b) (hl : b.length ≤ 1099511627776) : Ret Try.prog 43 #[v] w0 fun r w' => ∃ Lr, Sep w0 Lr w' ∧ BytesO Lr r b := by
  have M : Sep w0 [] w0 := St.nil w0
  obtain ⟨p, cap, rfl⟩ := h.shape
  refine Ret.of_W Try.func43 rfl Try.ntmps43 rfl ?_
  refine W.seq ?_
  refine W.sub [(0, _)] ⟨rfl, trivial⟩ ?_
  refine W.reg [(0, false)] (by kernel_rfl) ?_
  intro K hK
  refine x_assign rfl rfl rfl rfl ?_
  refine Ex.done (hK _ _ ?_)
  refine At.then_n ?_
  refine W.seq ?_
  refine W.seq ?_
  refine W.sub [(0, _)] ⟨rfl, trivial⟩ ?_
  refine W.reg [(0, false), (1, false)] (by kernel_rfl) ?_
  intro K hK
  refine x_move rfl rfl rfl rfl ?_
  refine x_eqsn _ rfl rfl rfl Try.underlying23 rfl rfl rfl ?_
  refine Ex.done (hK _ _ ?_)
  refine At.then_n ?_
  refine W.cond rfl (fun hco1 => ?_) (fun hco1 => ?_)
  · try simp only [decide_eq_true_eq, decide_eq_false_iff_not, Bool.not_eq_true', Bool.not_eq_false', beq_iff_eq, bne_iff_ne, ne_eq, Bool.not_eq_eq_eq_not, Bool.not_true, Bool.not_false, beq_eq_false_iff_ne, bne_eq_false_iff_eq, Bool.not_not, gt_iff_lt, ge_iff_le] at hco1
    have hp : p = none := by simpa using hco1
    subst hp
    have hb : b = [] := by
      rcases h with ⟨h, _⟩ | ⟨_, h, _⟩ | ⟨_, _, _, _, _, _, h, _⟩
      · exact List.length_eq_zero_iff.1 h
      · exact List.length_eq_zero_iff.1 h
      · cases h
    subst hb
    refine W.seq ?_
    refine W.sub [] trivial ?_
    refine W.reg [(0, false)] (by kernel_rfl) ?_
    intro K hK
    refine x_assign rfl rfl rfl rfl ?_
    refine Ex.done (hK _ _ ?_)
    refine At.then_n ?_
    refine W.ret ?_
    refine At.then_r ?_
    refine At.ret1 (.tmp 2) rfl ⟨rfl, trivial⟩ ?_
    exact ⟨[], M, OwL.nil⟩
  · try simp only [decide_eq_true_eq, decide_eq_false_iff_not, Bool.not_eq_true', Bool.not_eq_false', beq_iff_eq, bne_iff_ne, ne_eq, Bool.not_eq_eq_eq_not, Bool.not_true, Bool.not_false, beq_eq_false_iff_ne, bne_eq_false_iff_eq, Bool.not_not, gt_iff_lt, ge_iff_le] at hco1
    refine W.skip ?_
    refine At.then_n ?_
    refine W.seq ?_
    refine W.sub [(0, _)] ⟨rfl, trivial⟩ ?_
    refine W.reg [(0, true), (1, false), (2, true), (3, false)] (by kernel_rfl) ?_
    intro K hK
    refine x_bs0 rfl rfl rfl Try.underlying23 sz5 ?_
    intro bb wb hbb hwb
    have M := M.acons hbb hwb
    refine ⟨trivial, ?_⟩
    refine x_move rfl rfl rfl rfl ?_
    refine x_apL (L := [_]) (L0 := []) (cs := []) (nn := 0) rfl rfl rfl rfl Try.underlying23 sz5 ze5 rfl by5 rfl rfl (.inr ⟨bb, 0, [], _, rfl, rfl, rfl, rfl⟩) M (by simp) ((h.new M.frm).src Try.underlying23 (byteCs_one _)) (by omega) (by decide) (by omega) ?_
    intro Lo v6 w6 how M
    rw [Nat.zero_add, List.nil_append] at how
    refine ⟨trivial, ?_⟩
    refine x_assign rfl rfl rfl rfl ?_
    refine Ex.done (hK _ _ ?_)
    refine At.then_n ?_
    refine W.ret ?_
    refine At.ret1 (.tmp 2) rfl ⟨rfl, trivial⟩ ?_
    exact ⟨Lo, by simpa using M, how⟩

set_option maxRecDepth 100000 in
theorem directory_c {w0 : World}   : Ret Try.prog 42 #[] w0 fun r w' => ∃ b m, r = ptr b ∧ Sep w0 [(m, .map #[] 0), (b, .cells [.bool true, .map (some m), .slice none 0 0].toArray 82 (0, 0))] w' := by
  have M : Sep w0 [] w0 := St.nil w0
  refine Ret.of_W Try.func42 rfl Try.ntmps42 rfl ?_
  refine W.seq ?_
  refine W.sub [] trivial ?_
  refine W.reg [(0, false)] (by kernel_rfl) ?_
  intro K hK
  refine x_assign rfl rfl rfl rfl ?_
  refine Ex.done (hK _ _ ?_)
  refine At.then_n ?_
  refine W.seq ?_
  refine W.sub [] trivial ?_
  refine W.reg [(0, true), (1, false), (2, false), (3, true), (4, false)] (by kernel_rfl) ?_
  intro K hK
  refine x_mkmap rfl rfl rfl ?_
  intro bmm1 wmm1 hbmm1 hwmm1
  have M := M.acons hbmm1 hwmm1
  refine ⟨trivial, ?_⟩
  refine x_build [_] rfl rfl rfl pl80 ze80 rfl rfl rfl ?_
  refine x_build [_, _, _] rfl rfl rfl pl82 ze82 rfl rfl rfl ?_
  refine x_box [_, _, _] rfl rfl rfl rfl rfl ?_
  intro bbx1 wbx1 hbbx1 hwbx1
  have M := M.acons hbbx1 hwbx1
  refine ⟨trivial, ?_⟩
  refine x_assign rfl rfl rfl rfl ?_
  refine Ex.done (hK _ _ ?_)
  refine At.then_n ?_
  refine W.ret ?_
  refine At.ret1 (.tmp 0) rfl ⟨rfl, trivial⟩ ?_
  exact ⟨_, _, rfl, M.perm (.swap _ _ _)⟩

set_option maxRecDepth 100000 in
theorem new_c {w0 : World}   : Ret Try.prog 24 #[] w0 fun r w' => ∃ b m bt, r = ptr bt ∧ Sep w0 [(bt, .cells [ptr b, .int .i64 0].toArray 63 (0, 0)), (m, .map #[] 0), (b, .cells [.bool true, .map (some m), .slice none 0 0].toArray 82 (0, 0))] w' := by
  have M : Sep w0 [] w0 := St.nil w0
  refine Ret.of_W Try.func24 rfl Try.ntmps24 rfl ?_
  refine W.seq ?_
  refine W.sub [] trivial ?_
  refine W.reg [(0, false)] (by kernel_rfl) ?_
  intro K hK
  refine x_assign rfl rfl rfl rfl ?_
  refine Ex.done (hK _ _ ?_)
  refine At.then_n ?_
  refine W.seq ?_
  refine W.sub [] trivial ?_
  refine W.reg [(0, true), (1, false), (2, true), (3, false)] (by kernel_rfl) ?_
  intro K hK
  refine x_call rfl rfl rfl rfl rfl en42 (directory_c) ?_
  rintro r wcall1 ⟨bcall1, mcall1, rfl, Mcall1⟩
  have M := M.grow Mcall1
  refine ⟨trivial, ?_⟩
  refine x_build [_, _] rfl rfl rfl pl63 ze63 rfl rfl rfl ?_
  refine x_box [_, _] rfl rfl rfl rfl rfl ?_
  intro bbx1 wbx1 hbbx1 hwbx1
  have M := M.acons hbbx1 hwbx1
  refine ⟨trivial, ?_⟩
  refine x_assign rfl rfl rfl rfl ?_
  refine Ex.done (hK _ _ ?_)
  refine At.then_n ?_
  refine W.ret ?_
  refine At.ret1 (.tmp 0) rfl ⟨rfl, trivial⟩ ?_
  exact ⟨_, _, _, rfl, M⟩

set_option maxRecDepth 100000 in
theorem made_c {w0 : World} {bt : Nat} {E : List Ent}  (hA : TrA w0 bt E)  : Ret Try.prog 37 #[ptr bt] w0 fun r w' => r = .bool true ∧ w0 = w' := by
  have M : Sep w0 [] w0 := St.nil w0
  obtain ⟨rt, hrt, hbt, hE, hT⟩ := hA
  refine Ret.of_W Try.func37 rfl Try.ntmps37 rfl ?_
  refine W.seq ?_
  refine W.sub [(0, _)] ⟨rfl, trivial⟩ ?_
  refine W.reg [(0, false)] (by kernel_rfl) ?_
  intro K hK
  refine x_assign rfl rfl rfl rfl ?_
  refine Ex.done (hK _ _ ?_)
  refine At.then_n ?_
  refine W.seq ?_
  refine W.sub [(0, _)] ⟨rfl, trivial⟩ ?_
  refine W.reg [(0, false), (1, false), (2, false), (3, false), (4, false), (5, false), (6, false), (7, false), (8, false), (9, false)] (by kernel_rfl) ?_
  intro K hK
  refine x_move rfl rfl rfl rfl ?_
  refine x_nepn true rfl rfl rfl Try.underlying27 rfl rfl rfl ?_
  refine x_move rfl rfl rfl rfl ?_
  refine x_move rfl rfl rfl rfl ?_
  refine x_nil rfl rfl rfl rfl rfl ?_
  refine x_fa rfl rfl rfl fo63_0 rfl ?_
  refine x_ld rfl rfl rfl Try.underlying61 rfl rfl (cell_of hbt rfl) ?_
  refine x_nepn true rfl rfl rfl Try.underlying61 rfl rfl rfl ?_
  refine x_pickT rfl rfl rfl rfl rfl ?_
  refine x_assign rfl rfl rfl rfl ?_
  refine Ex.done (hK _ _ ?_)
  refine At.then_n ?_
  refine W.ret ?_
  refine At.ret1 (.tmp 2) rfl ⟨rfl, trivial⟩ ?_
  exact ⟨rfl, rfl⟩

set_option maxRecDepth 100000 in
theorem come_c {w0 : World} {bt : Nat} {E : List Ent} {v : Value} {l : NP} (hA : TrA w0 bt E) (h : StrsAt w0 v l) (hl : l.length ≤ 1000) : Ret Try.prog 65 #[ptr bt, v] w0 fun r w' => r = .tuple #[ndP E l, .int .i64 (comeG (absE E) [] l)] ∧ New w0 w' := by
  have M : Sep w0 [] w0 := St.nil w0
  obtain ⟨rt, hrt, hbt, hE, hT⟩ := hA
  obtain ⟨p, cap, rfl⟩ := h.shape
  refine Ret.of_W Try.func65 rfl Try.ntmps65 rfl ?_
  refine W.seq ?_
  refine W.sub [(0, _), (1, _)] ⟨rfl, rfl, trivial⟩ ?_
  refine W.reg [(0, false), (1, false)] (by kernel_rfl) ?_
  intro K hK
  refine x_assign rfl rfl rfl rfl ?_
  refine x_assign rfl rfl rfl rfl ?_
  refine Ex.done (hK _ _ ?_)
  refine At.then_n ?_
  refine W.seq ?_
  refine W.sub [(0, _), (1, _)] ⟨rfl, rfl, trivial⟩ ?_
  refine W.reg [(0, false), (1, false), (2, false), (3, false), (4, false)] (by kernel_rfl) ?_
  intro K hK
  refine x_move rfl rfl rfl rfl ?_
  refine x_nil rfl rfl rfl rfl rfl ?_
  refine x_fa rfl rfl rfl fo63_0 rfl ?_
  refine x_ld rfl rfl rfl Try.underlying61 rfl rfl (cell_of hbt rfl) ?_
  refine x_assign rfl rfl rfl rfl ?_
  refine Ex.done (hK _ _ ?_)
  refine At.then_n ?_
  refine W.seq ?_
  refine W.seq ?_
  refine W.sub [(1, _), (6, _)] ⟨rfl, rfl, trivial⟩ ?_
  refine W.reg [(0, false), (1, false), (2, false)] (by kernel_rfl) ?_
  intro K hK
  refine x_move rfl rfl rfl rfl ?_
  refine x_len rfl rfl rfl rfl Try.underlying56 rfl ?_
  refine x_move rfl rfl rfl rfl ?_
  refine Ex.done (hK _ _ ?_)
  refine At.then_n ?_
  refine W.block ?_
  refine W.loop (σ := Nat × Ent) (fun q => [(6, ptr q.2.b), (13, _), (14, _), (15, .int .i64 ((q.1 : Nat) : Int))]) (fun q w => q.1 ≤ l.length ∧ ent E (l.take q.1) = some q.2 ∧ comeG (absE E) [] l = comeG (absE E) (l.take q.1) (l.drop q.1) ∧ Sep w0 [] w) (fun q => l.length - q.1) (0, rt) ⟨rfl, rfl, rfl, rfl, trivial⟩ ⟨Nat.zero_le _, hrt, rfl, M⟩ ?_
  rintro ⟨q, d⟩ w ⟨hq, hd, hcm, M⟩
  simp only at hq hd hcm
  have hE := hE.new M.frm
  have hdm := (ent_mem hd).1
  have hdp := (ent_mem hd).2
  refine W.seq ?_
  refine W.sub [(6, _), (13, _), (14, _), (15, _)] ⟨rfl, rfl, rfl, rfl, trivial⟩ ?_
  refine W.reg [(0, false)] (by kernel_rfl) ?_
  intro K hK
  refine x_lss _ rfl rfl rfl rfl rfl rfl ?_
  refine Ex.done (hK _ _ ?_)
  refine At.then_n ?_
  refine W.seq ?_
  refine W.cond rfl (fun hco1 => ?_) (fun hco1 => ?_)
  · try simp only [decide_eq_true_eq, decide_eq_false_iff_not, Bool.not_eq_true', Bool.not_eq_false', beq_iff_eq, bne_iff_ne, ne_eq, Bool.not_eq_eq_eq_not, Bool.not_true, Bool.not_false, beq_eq_false_iff_ne, bne_eq_false_iff_eq, Bool.not_not, gt_iff_lt, ge_iff_le] at hco1
    obtain ⟨x, hx⟩ := get_lt (l := l) (q := q) (by omega)
    obtain ⟨bk, off, rfl, _⟩ := (h.new M.frm).blk (j := q) (by omega)
    rw [come_at hx hd] at hcm
    refine W.skip ?_
    refine At.then_n ?_
    refine W.seq ?_
    refine W.block ?_
    refine W.seq ?_
    refine W.sub [(6, _), (13, _), (14, _), (15, _)] ⟨rfl, rfl, rfl, rfl, trivial⟩ ?_
    refine W.reg [(0, false), (1, false), (2, false)] (by kernel_rfl) ?_
    intro K hK
    refine x_ia q rfl rfl rfl Try.underlying56 sz9 rfl rfl rfl (by omega) ?_
    refine x_ld rfl rfl rfl Try.underlying9 rfl rfl (StrsAt.cell (h.new M.frm) hx) ?_
    refine x_assign rfl rfl rfl rfl ?_
    refine Ex.done (hK _ _ ?_)
    refine At.then_n ?_
    refine W.seq ?_
    refine W.seq ?_
    refine W.sub [(6, _), (8, _), (13, _), (14, _), (15, _)] ⟨rfl, rfl, rfl, rfl, rfl, trivial⟩ ?_
    refine W.reg [(0, false), (1, false), (2, false), (3, false), (4, false)] (by kernel_rfl) ?_
    intro K hK
    refine x_move rfl rfl rfl rfl ?_
    refine x_nil rfl rfl rfl rfl rfl ?_
    refine x_fa rfl rfl rfl fo82_0 rfl ?_
    refine x_ld rfl rfl rfl Try.underlying4 rfl rfl (hE.dir hdm) ?_
    refine x_not _ rfl rfl rfl rfl rfl ?_
    refine Ex.done (hK _ _ ?_)
    refine At.then_n ?_
    refine W.cond rfl (fun hco2 => ?_) (fun hco2 => ?_)
    · try simp only [decide_eq_true_eq, decide_eq_false_iff_not, Bool.not_eq_true', Bool.not_eq_false', beq_iff_eq, bne_iff_ne, ne_eq, Bool.not_eq_eq_eq_not, Bool.not_true, Bool.not_false, beq_eq_false_iff_ne, bne_eq_false_iff_eq, Bool.not_not, gt_iff_lt, ge_iff_le] at hco2
      refine W.seq ?_
      refine W.sub [] trivial ?_
      refine W.reg [(0, false), (1, false)] (by kernel_rfl) ?_
      intro K hK
      refine x_assign rfl rfl rfl rfl ?_
      refine x_assign rfl rfl rfl rfl ?_
      refine Ex.done (hK _ _ ?_)
      refine At.then_n ?_
      refine W.ret ?_
      refine At.then_r ?_
      refine At.blk_r ?_
      refine At.then_r ?_
      refine At.loop_r ?_
      refine At.blk_r ?_
      refine At.then_r ?_
      refine At.ret2 (.tmp 4) (.tmp 5) rfl ⟨rfl, rfl, trivial⟩ ?_
      rw [if_neg (by simp [hco2])] at hcm
      exact ⟨by rw [hcm, ndP, come_nd hT hrt (by rw [hcm]; decide)]; rfl, M.frm⟩
    · try simp only [decide_eq_true_eq, decide_eq_false_iff_not, Bool.not_eq_true', Bool.not_eq_false', beq_iff_eq, bne_iff_ne, ne_eq, Bool.not_eq_eq_eq_not, Bool.not_true, Bool.not_false, beq_eq_false_iff_ne, bne_eq_false_iff_eq, Bool.not_not, gt_iff_lt, ge_iff_le] at hco2
      refine W.skip ?_
      refine At.then_n ?_
      refine W.seq ?_
      refine W.sub [(6, _), (8, _), (13, _), (14, _), (15, _)] ⟨rfl, rfl, rfl, rfl, rfl, trivial⟩ ?_
      refine W.reg [(0, false), (1, false), (2, false), (3, false), (4, false), (5, false), (6, false), (7, false)] (by kernel_rfl) ?_
      intro K hK
      refine x_move rfl rfl rfl rfl ?_
      refine x_nil rfl rfl rfl rfl rfl ?_
      refine x_fa rfl rfl rfl fo82_1 rfl ?_
      refine x_fa rfl rfl rfl fo80_0 rfl ?_
      refine x_ld rfl rfl rfl Try.underlying78 rfl rfl (by have := hE.kv hdm; rw [Ent.kvT hco2] at this; exact this) ?_
      refine x_move rfl rfl rfl rfl ?_
      refine x_lk1 (enc := strV) x rfl rfl rfl (strKey Try.underlying9) Try.underlying78 ze61 rfl rfl (hE.lk hT hdm hco2 x) ?_
      rw [hdp, kids_getD]
      refine x_assign rfl rfl rfl rfl ?_
      refine Ex.done (hK _ _ ?_)
      refine At.then_n ?_
      refine W.seq ?_
      refine W.sub [(6, _), (13, _), (14, _), (15, _)] ⟨rfl, rfl, rfl, rfl, trivial⟩ ?_
      refine W.reg [(0, false), (1, false)] (by kernel_rfl) ?_
      intro K hK
      refine x_move rfl rfl rfl rfl ?_
      refine x_eqpn (ent E (l.take q ++ [x])).isNone rfl rfl rfl Try.underlying61 rfl rfl (by cases ent E (l.take q ++ [x]) <;> rfl) ?_
      refine Ex.done (hK _ _ ?_)
      refine At.then_n ?_
      refine W.cond rfl (fun hco3 => ?_) (fun hco3 => ?_)
      · try simp only [decide_eq_true_eq, decide_eq_false_iff_not, Bool.not_eq_true', Bool.not_eq_false', beq_iff_eq, bne_iff_ne, ne_eq, Bool.not_eq_eq_eq_not, Bool.not_true, Bool.not_false, beq_eq_false_iff_ne, bne_eq_false_iff_eq, Bool.not_not, gt_iff_lt, ge_iff_le] at hco3
        rw [if_pos hco2, if_pos hco3] at hcm
        refine W.seq ?_
        refine W.sub [] trivial ?_
        refine W.reg [(0, false), (1, false)] (by kernel_rfl) ?_
        intro K hK
        refine x_assign rfl rfl rfl rfl ?_
        refine x_assign rfl rfl rfl rfl ?_
        refine Ex.done (hK _ _ ?_)
        refine At.then_n ?_
        refine W.ret ?_
        refine At.blk_r ?_
        refine At.then_r ?_
        refine At.loop_r ?_
        refine At.blk_r ?_
        refine At.then_r ?_
        refine At.ret2 (.tmp 4) (.tmp 5) rfl ⟨rfl, rfl, trivial⟩ ?_
        exact ⟨by rw [hcm, ndP, come_nd hT hrt (by rw [hcm]; decide)]; rfl, M.frm⟩
      · try simp only [decide_eq_true_eq, decide_eq_false_iff_not, Bool.not_eq_true', Bool.not_eq_false', beq_iff_eq, bne_iff_ne, ne_eq, Bool.not_eq_eq_eq_not, Bool.not_true, Bool.not_false, beq_eq_false_iff_ne, bne_eq_false_iff_eq, Bool.not_not, gt_iff_lt, ge_iff_le] at hco3
        rw [if_pos hco2, if_neg (by simp [hco3])] at hcm
        obtain ⟨k, hk⟩ : ∃ k, ent E (l.take q ++ [x]) = some k := by
          cases hk : ent E (l.take q ++ [x]) with
          | none => rw [hk] at hco3; cases hco3
          | some k => exact ⟨k, rfl⟩
        have hk2 : ent E (l.take (q + 1)) = some k := by rw [take_snoc' hx]; exact hk
        refine W.skip ?_
        refine At.blk_n ?_
        refine At.then_n ?_
        refine W.sub [(6, _), (13, _), (14, _), (15, _)] ⟨rfl, rfl, rfl, rfl, trivial⟩ ?_
        refine W.reg [(0, false), (1, false)] (by kernel_rfl) ?_
        intro K hK
        refine x_add _ rfl rfl rfl rfl rfl (wadd (by omega) (by omega)) ?_
        refine x_move rfl rfl rfl rfl ?_
        refine Ex.done (hK _ _ ?_)
        exact At.back ((q + 1, k)) ⟨(by rw [hk]; rfl), rfl, rfl, rfl, trivial⟩ ⟨by omega, hk2, hcm, M⟩ (by first | omega | (simp only; omega) | (simp; done) | (simp; omega))
  · try simp only [decide_eq_true_eq, decide_eq_false_iff_not, Bool.not_eq_true', Bool.not_eq_false', beq_iff_eq, bne_iff_ne, ne_eq, Bool.not_eq_eq_eq_not, Bool.not_true, Bool.not_false, beq_eq_false_iff_ne, bne_eq_false_iff_eq, Bool.not_not, gt_iff_lt, ge_iff_le] at hco1
    refine W.exit ?_
    refine At.then_x ?_
    refine At.loop_x ?_
    refine At.blk_x ?_
    refine At.then_n ?_
    refine W.seq ?_
    refine W.sub [(6, _)] ⟨rfl, trivial⟩ ?_
    refine W.reg [(0, false), (1, false), (2, false)] (by kernel_rfl) ?_
    intro K hK
    refine x_move rfl rfl rfl rfl ?_
    refine x_assign rfl rfl rfl rfl ?_
    refine x_assign rfl rfl rfl rfl ?_
    refine Ex.done (hK _ _ ?_)
    refine At.then_n ?_
    refine W.ret ?_
    refine At.ret2 (.tmp 4) (.tmp 5) rfl ⟨rfl, rfl, trivial⟩ ?_
    obtain rfl : q = l.length := by omega
    rw [List.drop_length, List.take_length] at hcm
    rw [List.take_length] at hd
    exact ⟨by rw [hcm, ndP, hd]; rfl, M.frm⟩
end Go.Proofs.Ytccfmfehfhfhhaa

namespace Go.Proofs.Ytccfmfehfhfhhaa
open Go Go.Fw Go.RowKit Go.Proofs
set_option linter.unusedVariables false
set_option linter.unusedSimpArgs false

set_option maxRecDepth 100000 in
theorem find_c {w0 : World} {bt : Nat} {E : List Ent} {p : List UInt8} (hA : TrA w0 bt E)  : Ret Try.prog 44 #[ptr bt, strV p] w0 fun r w' => (∃ nd, r = .tuple #[nd, .int .i64 (findG (absE E) p)] ∧ (findG (absE E) p = 0 → nd = ndP E (splitN p))) ∧ New w0 w' := by
  have M : Sep w0 [] w0 := St.nil w0
  have hA0 := hA
  obtain ⟨rt, hrt, hbt, hE, hT⟩ := hA0
  refine Ret.of_W Try.func44 rfl Try.ntmps44 rfl ?_
  refine W.seq ?_
  refine W.sub [(0, _), (1, _)] ⟨rfl, rfl, trivial⟩ ?_
  refine W.reg [(0, false), (1, false)] (by kernel_rfl) ?_
  intro K hK
  refine x_assign rfl rfl rfl rfl ?_
  refine x_assign rfl rfl rfl rfl ?_
  refine Ex.done (hK _ _ ?_)
  refine At.then_n ?_
  refine W.seq ?_
  refine W.seq ?_
  refine W.sub [(0, _), (1, _)] ⟨rfl, rfl, trivial⟩ ?_
  refine W.reg [(0, false), (1, true), (2, false)] (by kernel_rfl) ?_
  intro K hK
  refine x_move rfl rfl rfl rfl ?_
  refine x_call rfl rfl rfl rfl rfl en37 (made_c (hA.new M.frm)) ?_
  rintro r wcall1 ⟨rfl, rfl⟩
  refine ⟨trivial, ?_⟩
  refine x_not false rfl rfl rfl rfl rfl ?_
  refine Ex.done (hK _ _ ?_)
  refine At.then_n ?_
  refine W.condF rfl ?_
  refine W.skip ?_
  refine At.then_n ?_
  refine W.seq ?_
  refine W.sub [(0, _), (1, _)] ⟨rfl, rfl, trivial⟩ ?_
  refine W.reg [(0, false), (1, true), (2, false), (3, false), (4, false), (5, false), (6, false)] (by kernel_rfl) ?_
  intro K hK
  refine x_move rfl rfl rfl rfl ?_
  refine x_call rfl rfl rfl rfl rfl en59 (split_c) ?_
  rintro r w2 ⟨v2, L2, rfl, M2, hs2⟩
  have M := M.grow M2
  obtain ⟨p2, cap2, rfl, hcap2⟩ := hs2.shape2 (by decide)
  refine ⟨trivial, ?_⟩
  refine x_move rfl rfl rfl rfl ?_
  refine x_ext rfl rfl rfl rfl rfl ?_
  refine x_ext rfl rfl rfl rfl rfl ?_
  refine x_assign rfl rfl rfl rfl ?_
  refine x_assign rfl rfl rfl rfl ?_
  refine Ex.done (hK _ _ ?_)
  refine At.then_n ?_
  refine W.seq ?_
  refine W.seq ?_
  refine W.sub [(0, _), (6, _), (7, _)] ⟨rfl, rfl, rfl, trivial⟩ ?_
  refine W.reg [(0, false), (1, false)] (by kernel_rfl) ?_
  intro K hK
  refine x_move rfl rfl rfl rfl ?_
  refine x_nei _ rfl rfl rfl rfl rfl rfl ?_
  refine Ex.done (hK _ _ ?_)
  refine At.then_n ?_
  refine W.cond rfl (fun hco2 => ?_) (fun hco2 => ?_)
  · try simp only [decide_eq_true_eq, decide_eq_false_iff_not, Bool.not_eq_true', Bool.not_eq_false', beq_iff_eq, bne_iff_ne, ne_eq, Bool.not_eq_eq_eq_not, Bool.not_true, Bool.not_false, beq_eq_false_iff_ne, bne_eq_false_iff_eq, Bool.not_not, gt_iff_lt, ge_iff_le] at hco2
    refine W.seq ?_
    refine W.sub [(7, _)] ⟨rfl, trivial⟩ ?_
    refine W.reg [(0, false), (1, false), (2, false)] (by kernel_rfl) ?_
    intro K hK
    refine x_move rfl rfl rfl rfl ?_
    refine x_assign rfl rfl rfl rfl ?_
    refine x_assign rfl rfl rfl rfl ?_
    refine Ex.done (hK _ _ ?_)
    refine At.then_n ?_
    refine W.ret ?_
    refine At.then_r ?_
    refine At.ret2 (.tmp 4) (.tmp 5) rfl ⟨rfl, rfl, trivial⟩ ?_
    rw [findG_bad hco2]; exact ⟨⟨_, rfl, fun h => absurd h hco2⟩, M.frm⟩
  · try simp only [decide_eq_true_eq, decide_eq_false_iff_not, Bool.not_eq_true', Bool.not_eq_false', beq_iff_eq, bne_iff_ne, ne_eq, Bool.not_eq_eq_eq_not, Bool.not_true, Bool.not_false, beq_eq_false_iff_ne, bne_eq_false_iff_eq, Bool.not_not, gt_iff_lt, ge_iff_le] at hco2
    refine W.skip ?_
    refine At.then_n ?_
    refine W.seq ?_
    refine W.sub [(0, _), (6, _)] ⟨rfl, rfl, trivial⟩ ?_
    refine W.reg [(0, false), (1, false), (2, true), (3, false), (4, false), (5, false), (6, false)] (by kernel_rfl) ?_
    intro K hK
    refine x_move rfl rfl rfl rfl ?_
    refine x_move rfl rfl rfl rfl ?_
    refine x_call rfl rfl rfl rfl rfl en65 (come_c (hA.new M.frm) (strsO_at hs2 M (fun _ h => h)) (by have := splitN_len p; omega)) ?_
    rintro r w3 ⟨rfl, hn3⟩
    have M := M.new hn3
    refine ⟨trivial, ?_⟩
    refine x_ext rfl rfl rfl rfl rfl ?_
    refine x_ext rfl rfl rfl rfl rfl ?_
    refine x_assign rfl rfl rfl rfl ?_
    refine x_assign rfl rfl rfl rfl ?_
    refine Ex.done (hK _ _ ?_)
    refine At.then_n ?_
    refine W.ret ?_
    refine At.ret2 (.tmp 4) (.tmp 5) rfl ⟨rfl, rfl, trivial⟩ ?_
    rw [findG_ok hco2]; exact ⟨⟨_, rfl, fun _ => rfl⟩, M.frm⟩

set_option maxRecDepth 100000 in
theorem home_c {w0 : World} {bt : Nat} {E : List Ent} {p : List UInt8} {root : Int} (hA : TrA w0 bt E) (hroot : root ≠ 0) : Ret Try.prog 41 #[ptr bt, strV p, .int .i64 root] w0 fun r w' => (∃ nd nm, r = .tuple #[nd, nm, .int .i64 (homeG (absE E) p root)] ∧ (homeG (absE E) p root = 0 → splitE p = 0 ∧ ∃ q n d, splitN p = q ++ [n] ∧ ent E q = some d ∧ d.dir = true ∧ nd = ptr d.b ∧ nm = strV n)) ∧ New w0 w' := by
  have M : Sep w0 [] w0 := St.nil w0
  have hA0 := hA
  obtain ⟨rt, hrt, hbt, hE, hT⟩ := hA0
  refine Ret.of_W Try.func41 rfl Try.ntmps41 rfl ?_
  refine W.seq ?_
  refine W.sub [(0, _), (1, _), (2, _)] ⟨rfl, rfl, rfl, trivial⟩ ?_
  refine W.reg [(0, false), (1, false), (2, false)] (by kernel_rfl) ?_
  intro K hK
  refine x_assign rfl rfl rfl rfl ?_
  refine x_assign rfl rfl rfl rfl ?_
  refine x_assign rfl rfl rfl rfl ?_
  refine Ex.done (hK _ _ ?_)
  refine At.then_n ?_
  refine W.seq ?_
  refine W.seq ?_
  refine W.sub [(0, _), (1, _), (2, _)] ⟨rfl, rfl, rfl, trivial⟩ ?_
  refine W.reg [(0, false), (1, true), (2, false)] (by kernel_rfl) ?_
  intro K hK
  refine x_move rfl rfl rfl rfl ?_
  refine x_call rfl rfl rfl rfl rfl en37 (made_c (hA.new M.frm)) ?_
  rintro r wcall1 ⟨rfl, rfl⟩
  refine ⟨trivial, ?_⟩
  refine x_not false rfl rfl rfl rfl rfl ?_
  refine Ex.done (hK _ _ ?_)
  refine At.then_n ?_
  refine W.condF rfl ?_
  refine W.skip ?_
  refine At.then_n ?_
  refine W.seq ?_
  refine W.sub [(0, _), (1, _), (2, _)] ⟨rfl, rfl, rfl, trivial⟩ ?_
  refine W.reg [(0, false), (1, true), (2, false), (3, false), (4, false), (5, false), (6, false)] (by kernel_rfl) ?_
  intro K hK
  refine x_move rfl rfl rfl rfl ?_
  refine x_call rfl rfl rfl rfl rfl en59 (split_c) ?_
  rintro r w2 ⟨v2, L2, rfl, M2, hs2⟩
  have M := M.grow M2
  obtain ⟨p2, cap2, rfl, hcap2⟩ := hs2.shape2 (by decide)
  refine ⟨trivial, ?_⟩
  refine x_move rfl rfl rfl rfl ?_
  refine x_ext rfl rfl rfl rfl rfl ?_
  refine x_ext rfl rfl rfl rfl rfl ?_
  refine x_assign rfl rfl rfl rfl ?_
  refine x_assign rfl rfl rfl rfl ?_
  refine Ex.done (hK _ _ ?_)
  refine At.then_n ?_
  refine W.seq ?_
  refine W.block ?_
  refine W.seq ?_
  refine W.sub [(0, _), (2, _), (9, _), (10, _)] ⟨rfl, rfl, rfl, rfl, trivial⟩ ?_
  refine W.reg [(0, false), (1, false), (2, false)] (by kernel_rfl) ?_
  intro K hK
  refine x_move rfl rfl rfl rfl ?_
  refine x_nei _ rfl rfl rfl rfl rfl rfl ?_
  refine x_assign rfl rfl rfl rfl ?_
  refine Ex.done (hK _ _ ?_)
  refine At.then_n ?_
  refine W.cond rfl (fun hco2 => ?_) (fun hco2 => ?_)
  · try simp only [decide_eq_true_eq, decide_eq_false_iff_not, Bool.not_eq_true', Bool.not_eq_false', beq_iff_eq, bne_iff_ne, ne_eq, Bool.not_eq_eq_eq_not, Bool.not_true, Bool.not_false, beq_eq_false_iff_ne, bne_eq_false_iff_eq, Bool.not_not, gt_iff_lt, ge_iff_le] at hco2
    refine W.seq ?_
    refine W.sub [(10, _)] ⟨rfl, trivial⟩ ?_
    refine W.reg [(0, false), (1, false), (2, false), (3, false)] (by kernel_rfl) ?_
    intro K hK
    refine x_move rfl rfl rfl rfl ?_
    refine x_assign rfl rfl rfl rfl ?_
    refine x_assign rfl rfl rfl rfl ?_
    refine x_assign rfl rfl rfl rfl ?_
    refine Ex.done (hK _ _ ?_)
    refine At.then_n ?_
    refine W.ret ?_
    refine At.blk_r ?_
    refine At.then_r ?_
    refine At.ret3 (.tmp 6) (.tmp 7) (.tmp 8) rfl ⟨rfl, rfl, rfl, trivial⟩ ?_
    rw [homeG_bad hco2]; exact ⟨⟨_, _, rfl, fun h => absurd h hco2⟩, M.frm⟩
  · try simp only [decide_eq_true_eq, decide_eq_false_iff_not, Bool.not_eq_true', Bool.not_eq_false', beq_iff_eq, bne_iff_ne, ne_eq, Bool.not_eq_eq_eq_not, Bool.not_true, Bool.not_false, beq_eq_false_iff_ne, bne_eq_false_iff_eq, Bool.not_not, gt_iff_lt, ge_iff_le] at hco2
    refine W.seq ?_
    refine W.sub [(0, _), (2, _), (9, _)] ⟨rfl, rfl, rfl, trivial⟩ ?_
    refine W.reg [(0, false), (1, false), (2, false), (3, false)] (by kernel_rfl) ?_
    intro K hK
    refine x_move rfl rfl rfl rfl ?_
    refine x_len rfl rfl rfl rfl Try.underlying56 rfl ?_
    refine x_eqi _ rfl rfl rfl rfl rfl rfl ?_
    refine x_assign rfl rfl rfl rfl ?_
    refine Ex.done (hK _ _ ?_)
    refine At.then_n ?_
    refine W.cond rfl (fun hco3 => ?_) (fun hco3 => ?_)
    · try simp only [decide_eq_true_eq, decide_eq_false_iff_not, Bool.not_eq_true', Bool.not_eq_false', beq_iff_eq, bne_iff_ne, ne_eq, Bool.not_eq_eq_eq_not, Bool.not_true, Bool.not_false, beq_eq_false_iff_ne, bne_eq_false_iff_eq, Bool.not_not, gt_iff_lt, ge_iff_le] at hco3
      have hnil : splitN p = [] := List.length_eq_zero_iff.1 (by omega)
      refine W.seq ?_
      refine W.sub [(2, _)] ⟨rfl, trivial⟩ ?_
      refine W.reg [(0, false), (1, false), (2, false), (3, false)] (by kernel_rfl) ?_
      intro K hK
      refine x_move rfl rfl rfl rfl ?_
      refine x_assign rfl rfl rfl rfl ?_
      refine x_assign rfl rfl rfl rfl ?_
      refine x_assign rfl rfl rfl rfl ?_
      refine Ex.done (hK _ _ ?_)
      refine At.then_n ?_
      refine W.ret ?_
      refine At.blk_r ?_
      refine At.then_r ?_
      refine At.ret3 (.tmp 6) (.tmp 7) (.tmp 8) rfl ⟨rfl, rfl, rfl, trivial⟩ ?_
      rw [homeG_root hco2 hnil]; exact ⟨⟨_, _, rfl, fun h => absurd h hroot⟩, M.frm⟩
    · try simp only [decide_eq_true_eq, decide_eq_false_iff_not, Bool.not_eq_true', Bool.not_eq_false', beq_iff_eq, bne_iff_ne, ne_eq, Bool.not_eq_eq_eq_not, Bool.not_true, Bool.not_false, beq_eq_false_iff_ne, bne_eq_false_iff_eq, Bool.not_not, gt_iff_lt, ge_iff_le] at hco3
      have hnil : splitN p ≠ [] := fun e => hco3 (by rw [e]; rfl)
      have hsl := splitN_len p
      have hq0 : (splitN p).dropLast = (splitN p).take ((splitN p).length - 1) := List.dropLast_eq_take
      obtain ⟨q, n, hqn⟩ : ∃ q n, splitN p = q ++ [n] := ⟨_, _, (List.dropLast_concat_getLast hnil).symm⟩
      have hq : (splitN p).dropLast = q := by rw [hqn]; simp
      have hlen : (splitN p).length = q.length + 1 := by rw [hqn]; simp
      refine W.skip ?_
      refine At.blk_n ?_
      refine At.then_n ?_
      refine W.seq ?_
      refine W.sub [(0, _), (9, _)] ⟨rfl, rfl, trivial⟩ ?_
      refine W.reg [(0, false), (1, false), (2, false), (3, false), (4, false), (5, false), (6, true), (7, false), (8, false), (9, false), (10, false), (11, false)] (by kernel_rfl) ?_
      intro K hK
      refine x_move rfl rfl rfl rfl ?_
      refine x_move rfl rfl rfl rfl ?_
      refine x_move rfl rfl rfl rfl ?_
      refine x_len rfl rfl rfl rfl Try.underlying56 rfl ?_
      refine x_sub _ rfl rfl rfl rfl rfl (wsub (by omega) (by omega)) ?_
      refine x_slh q.length rfl rfl rfl Try.underlying56 sz9 rfl rfl (by omega) (by omega) ?_
      refine x_call rfl rfl rfl rfl rfl en65 (come_c (hA.new M.frm) (strsO_at (strsO_take hs2 (j := q.length) (by omega)) M (fun _ h => h)) (by simp; omega)) ?_
      rintro r w3 ⟨rfl, hn3⟩
      have M := M.new hn3
      have htk : (splitN p).take q.length = q := by rw [hqn]; simp
      rw [htk]
      refine ⟨trivial, ?_⟩
      refine x_move rfl rfl rfl rfl ?_
      refine x_ext rfl rfl rfl rfl rfl ?_
      refine x_ext rfl rfl rfl rfl rfl ?_
      refine x_assign rfl rfl rfl rfl ?_
      refine x_assign rfl rfl rfl rfl ?_
      refine Ex.done (hK _ _ ?_)
      refine At.then_n ?_
      refine W.seq ?_
      refine W.seq ?_
      refine W.sub [(9, _), (10, _), (11, _)] ⟨rfl, rfl, rfl, trivial⟩ ?_
      refine W.reg [(0, false), (1, false), (2, false), (3, false), (4, false), (5, false), (6, false), (7, false), (8, false)] (by kernel_rfl) ?_
      intro K hK
      refine x_move rfl rfl rfl rfl ?_
      refine x_eqi _ rfl rfl rfl rfl rfl rfl ?_
      refine x_move rfl rfl rfl rfl ?_
      refine Ex.split 41 rfl (fun hsp1 => ?_) (fun hsp1 => ?_)
      ·
        try simp only [decide_eq_true_eq, decide_eq_false_iff_not, Bool.not_eq_true', Bool.not_eq_false', beq_iff_eq, bne_iff_ne, ne_eq, Bool.not_eq_eq_eq_not, Bool.not_true, Bool.not_false, beq_eq_false_iff_ne, bne_eq_false_iff_eq, Bool.not_not, gt_iff_lt, ge_iff_le] at hsp1
        obtain ⟨d, hd⟩ : ∃ d, ent E q = some d := by simpa using (comeE_zero hT hrt).1 hsp1
        have hnd : ndP E q = ptr d.b := by unfold ndP; rw [hd]; rfl
        rw [hnd]
        have hgq : absE E q = some (d.dir, d.data) := by unfold absE; rw [hd]; rfl
        obtain ⟨bk, off, rfl, _⟩ := (strsO_at hs2 M (fun _ h => h)).blk (j := q.length) (by omega)
        have hHG : homeG (absE E) p root = if d.dir = true then 0 else 17 := by unfold homeG; rw [if_pos hco2, if_neg hnil, hq, if_pos hsp1, hgq]; rfl
        refine x_move rfl rfl rfl rfl ?_
        refine x_nil rfl rfl rfl rfl rfl ?_
        refine x_fa rfl rfl rfl fo82_0 rfl ?_
        refine x_ld rfl rfl rfl Try.underlying4 rfl rfl ((hE.new M.frm).dir (ent_mem hd).1) ?_
        refine x_not _ rfl rfl rfl rfl rfl ?_
        refine x_pickT rfl rfl rfl rfl rfl ?_
        refine Ex.done (hK _ _ ?_)
        refine At.then_n ?_
        refine W.cond rfl (fun hco4 => ?_) (fun hco4 => ?_)
        · try simp only [decide_eq_true_eq, decide_eq_false_iff_not, Bool.not_eq_true', Bool.not_eq_false', beq_iff_eq, bne_iff_ne, ne_eq, Bool.not_eq_eq_eq_not, Bool.not_true, Bool.not_false, beq_eq_false_iff_ne, bne_eq_false_iff_eq, Bool.not_not, gt_iff_lt, ge_iff_le] at hco4
          refine W.sub [(9, _), (11, _)] ⟨rfl, rfl, trivial⟩ ?_
          refine W.reg [(0, false)] (by kernel_rfl) ?_
          intro K hK
          refine x_assign rfl rfl rfl rfl ?_
          refine Ex.done (hK _ _ ?_)
          refine At.then_n ?_
          refine W.seq ?_
          refine W.seq ?_
          refine W.sub [(9, _), (10, _), (11, _)] ⟨rfl, rfl, rfl, trivial⟩ ?_
          refine W.reg [(0, false), (1, false)] (by kernel_rfl) ?_
          intro K hK
          refine x_move rfl rfl rfl rfl ?_
          refine x_nei true rfl rfl rfl rfl rfl (by decide) ?_
          refine Ex.done (hK _ _ ?_)
          refine At.then_n ?_
          refine W.condT rfl ?_
          refine W.seq ?_
          refine W.sub [(10, _)] ⟨rfl, trivial⟩ ?_
          refine W.reg [(0, false), (1, false), (2, false), (3, false)] (by kernel_rfl) ?_
          intro K hK
          refine x_move rfl rfl rfl rfl ?_
          refine x_assign rfl rfl rfl rfl ?_
          refine x_assign rfl rfl rfl rfl ?_
          refine x_assign rfl rfl rfl rfl ?_
          refine Ex.done (hK _ _ ?_)
          refine At.then_n ?_
          refine W.ret ?_
          refine At.then_r ?_
          refine At.ret3 (.tmp 6) (.tmp 7) (.tmp 8) rfl ⟨rfl, rfl, rfl, trivial⟩ ?_
          rw [if_neg (by simp [hco4])] at hHG
          rw [hHG]; exact ⟨⟨_, _, rfl, fun h => by cases h⟩, M.frm⟩
        · try simp only [decide_eq_true_eq, decide_eq_false_iff_not, Bool.not_eq_true', Bool.not_eq_false', beq_iff_eq, bne_iff_ne, ne_eq, Bool.not_eq_eq_eq_not, Bool.not_true, Bool.not_false, beq_eq_false_iff_ne, bne_eq_false_iff_eq, Bool.not_not, gt_iff_lt, ge_iff_le] at hco4
          refine W.skip ?_
          refine At.then_n ?_
          refine W.seq ?_
          refine W.seq ?_
          refine W.sub [(9, _), (10, _), (11, _)] ⟨rfl, rfl, rfl, trivial⟩ ?_
          refine W.reg [(0, false), (1, false)] (by kernel_rfl) ?_
          intro K hK
          refine x_move rfl rfl rfl rfl ?_
          refine x_nei false rfl rfl rfl rfl rfl (by rw [hsp1]; rfl) ?_
          refine Ex.done (hK _ _ ?_)
          refine At.then_n ?_
          refine W.condF rfl ?_
          refine W.skip ?_
          refine At.then_n ?_
          refine W.seq ?_
          refine W.sub [(9, _), (11, _)] ⟨rfl, rfl, trivial⟩ ?_
          refine W.regD (by kernel_rfl) #[0, 0, 0, 4, 12, 30, 62, 1, 255, 511] [(0, false), (1, false), (2, false), (3, false), (4, false), (5, false), (6, false), (7, false), (8, false), (9, false)] (by kernel_rfl) ?_
          intro K wD1 hK hwD1
          have M := M.drew hwD1
          refine x_move rfl rfl rfl rfl ?_
          refine x_move rfl rfl rfl rfl ?_
          refine x_move rfl rfl rfl rfl ?_
          refine x_len rfl rfl rfl rfl Try.underlying56 rfl ?_
          refine x_sub _ rfl rfl rfl rfl rfl (wsub (by omega) (by omega)) ?_
          refine x_ia q.length rfl rfl rfl Try.underlying56 sz9 rfl rfl (by omega) (by omega) ?_
          refine x_ld rfl rfl rfl Try.underlying9 rfl rfl (StrsAt.cell (strsO_at hs2 M (fun _ h => h)) (x := n) (by rw [hqn]; simp)) ?_
          refine x_assign rfl rfl rfl rfl ?_
          refine x_assign rfl rfl rfl rfl ?_
          refine x_assign rfl rfl rfl rfl ?_
          refine Ex.done (hK _ _ ?_)
          refine At.then_n ?_
          refine W.ret ?_
          refine At.ret3 (.tmp 6) (.tmp 7) (.tmp 8) rfl ⟨rfl, rfl, rfl, trivial⟩ ?_
          rw [if_pos (by simpa using hco4)] at hHG
          rw [hHG]; exact ⟨⟨_, _, by rw [hsp1]; rfl, fun h => ⟨hco2, q, n, d, hqn, hd, by simpa using hco4, rfl, rfl⟩⟩, M.frm⟩
      ·
        try simp only [decide_eq_true_eq, decide_eq_false_iff_not, Bool.not_eq_true', Bool.not_eq_false', beq_iff_eq, bne_iff_ne, ne_eq, Bool.not_eq_eq_eq_not, Bool.not_true, Bool.not_false, beq_eq_false_iff_ne, bne_eq_false_iff_eq, Bool.not_not, gt_iff_lt, ge_iff_le] at hsp1
        have hHG : homeG (absE E) p root = comeG (absE E) [] q := by unfold homeG; rw [if_pos hco2, if_neg hnil, hq, if_neg hsp1]
        refine Ex.skip_ rfl rfl rfl ?_
        refine Ex.skip_ rfl rfl rfl ?_
        refine Ex.skip_ rfl rfl rfl ?_
        refine Ex.skip_ rfl rfl rfl ?_
        refine Ex.skip_ rfl rfl rfl ?_
        refine x_pickF rfl rfl rfl rfl rfl ?_
        refine Ex.done (hK _ _ ?_)
        refine At.then_n ?_
        refine W.condF rfl ?_
        refine W.skip ?_
        refine At.then_n ?_
        refine W.seq ?_
        refine W.seq ?_
        refine W.sub [(9, _), (10, _), (11, _)] ⟨rfl, rfl, rfl, trivial⟩ ?_
        refine W.reg [(0, false), (1, false)] (by kernel_rfl) ?_
        intro K hK
        refine x_move rfl rfl rfl rfl ?_
        refine x_nei true rfl rfl rfl rfl rfl (by simp [hsp1]) ?_
        refine Ex.done (hK _ _ ?_)
        refine At.then_n ?_
        refine W.condT rfl ?_
        refine W.seq ?_
        refine W.sub [(10, _)] ⟨rfl, trivial⟩ ?_
        refine W.reg [(0, false), (1, false), (2, false), (3, false)] (by kernel_rfl) ?_
        intro K hK
        refine x_move rfl rfl rfl rfl ?_
        refine x_assign rfl rfl rfl rfl ?_
        refine x_assign rfl rfl rfl rfl ?_
        refine x_assign rfl rfl rfl rfl ?_
        refine Ex.done (hK _ _ ?_)
        refine At.then_n ?_
        refine W.ret ?_
        refine At.then_r ?_
        refine At.ret3 (.tmp 6) (.tmp 7) (.tmp 8) rfl ⟨rfl, rfl, rfl, trivial⟩ ?_
        rw [hHG]; exact ⟨⟨_, _, rfl, fun h => absurd h hsp1⟩, M.frm⟩
end Go.Proofs.Ytccfmfehfhfhhaa

namespace Go.Proofs.Ytccfmfehfhfhhaa
open Go Go.Fw Go.RowKit Go.Proofs
set_option linter.unusedVariables false
set_option linter.unusedSimpArgs false

set_option maxRecDepth 100000 in
theorem file_c {w0 : World} {E : List Ent} {e : Ent} {p : List UInt8} (hE : EAt w0 E) (hT : TI E) (he : e ∈ E) : Ret Try.prog 40 #[strV p, ptr e.b] w0 fun r w' => ∃ v Lr, r = .agg #[strV p, .bool e.dir, v] ∧ Sep w0 Lr w' ∧ BytesO Lr v e.data := by
  have M : Sep w0 [] w0 := St.nil w0
  have hb := hE.bytes hT he
  have hdl := (hT.dat e he).2
  refine Ret.of_W Try.func40 rfl Try.ntmps40 rfl ?_
  refine W.seq ?_
  refine W.sub [(0, _), (1, _)] ⟨rfl, rfl, trivial⟩ ?_
  refine W.reg [(0, true)] (by kernel_rfl) ?_
  intro K hK
  refine x_alloc [_, _, _] rfl rfl rfl ze25 rfl ?_
  intro bal1 wal1 hbal1 hwal1
  have M := M.acons hbal1 hwal1
  refine ⟨trivial, ?_⟩
  refine Ex.done (hK _ _ ?_)
  refine At.then_n ?_
  refine W.seq ?_
  refine W.sub [(0, _), (1, _), (4, _)] ⟨rfl, rfl, rfl, trivial⟩ ?_
  refine W.regD (by kernel_rfl) #[0, 0, 2, 6, 14, 0, 32, 96, 224, 480, 1023, 2047] [(0, false), (1, false), (2, false), (3, false), (4, false), (5, false), (6, false), (7, false), (8, false), (9, true), (10, false), (11, true)] (by kernel_rfl) ?_
  intro K wD1 hK hwD1
  have M := M.drew hwD1
  refine x_move rfl rfl rfl rfl ?_
  refine x_move rfl rfl rfl rfl ?_
  refine x_nil rfl rfl rfl rfl rfl ?_
  refine x_fa rfl rfl rfl fo82_0 rfl ?_
  refine x_ld rfl rfl rfl Try.underlying4 rfl rfl ((hE.new M.frm).dir he) ?_
  refine x_move rfl rfl rfl rfl ?_
  refine x_nil rfl rfl rfl rfl rfl ?_
  refine x_fa rfl rfl rfl fo82_2 rfl ?_
  refine x_ld rfl rfl rfl Try.underlying23 rfl rfl ((hE.new M.frm).data he) ?_
  refine x_call rfl rfl rfl rfl rfl en43 (clone_c (hb.new M.frm) (by omega)) ?_
  rintro v w1 ⟨L1, M1, hb1⟩
  have M := M.grow M1
  obtain ⟨pv, cv, rfl⟩ := hb1.shape
  refine ⟨⟨.inl (by kernel_rfl), .inr ((hE.new M.frm).dir he), trivial⟩, ?_⟩
  refine x_build [_, _, _] rfl rfl rfl pl25 ze25 rfl rfl rfl ?_
  refine x_st [_, _, _] _ rfl rfl rfl sz25 rfl rfl rfl rfl (by first | exact M.at_ 0 rfl | exact M.at_ 1 rfl | exact M.at_ 2 rfl | exact M.at_ 3 rfl | exact M.at_ 4 rfl | exact M.at_ 5 rfl | exact M.at_ 6 rfl | exact M.at_ 7 rfl) rfl rfl rfl ?_
  intro wst1 hwst1
  have M := by first | exact M.put 0 rfl hwst1 | exact M.put 1 rfl hwst1 | exact M.put 2 rfl hwst1 | exact M.put 3 rfl hwst1 | exact M.put 4 rfl hwst1 | exact M.put 5 rfl hwst1 | exact M.put 6 rfl hwst1 | exact M.put 7 rfl hwst1
  refine ⟨⟨.inl (by kernel_rfl), .inl (by kernel_rfl), trivial⟩, ?_⟩
  refine Ex.done (hK _ _ ?_)
  refine At.then_n ?_
  refine W.ret ?_
  refine At.ret1 (.cell 4 25) rfl ⟨⟨_, rfl, run_loadVarA (l := [_, _, _]) Try.underlying25 rfl sz25 ⟨_, _, _, (by first | exact M.at_ 0 rfl | exact M.at_ 1 rfl | exact M.at_ 2 rfl | exact M.at_ 3 rfl | exact M.at_ 4 rfl | exact M.at_ 5 rfl | exact M.at_ 6 rfl | exact M.at_ 7 rfl), rfl⟩ (Nat.zero_lt_succ _)⟩, trivial⟩ ?_
  exact ⟨_, _, rfl, (M.sub (List.sublist_cons_self _ _)), hb1⟩
end Go.Proofs.Ytccfmfehfhfhhaa

namespace Go.Proofs.Ytccfmfehfhfhhaa
open Go Go.Fw Go.RowKit
set_option linter.unusedVariables false
set_option linter.unusedSimpArgs false

def setO (E : List Ent) (q : NP) (o' : Obj) : List Ent := E.map fun e => if e.p = q then { e with o := o' } else e
def rm (E : List Ent) (s : NP) : List Ent := E.filter fun e => !decide (e.p = s)
/-- Another one, or none, stands at a name of a directory. -/
def upd (E : List Ent) (q : NP) (o' : Obj) (n : List UInt8) (x : Option Ent) : List Ent := setO (rm E (q ++ [n])) q o' ++ x.toList

section
variable {E : List Ent} {q s r : NP} {o' : Obj} {n : List UInt8} {d e : Ent} {x : Option Ent}
theorem setO_p (E : List Ent) (q : NP) (o' : Obj) : (setO E q o').map (·.p) = E.map (·.p) := by
  unfold setO; rw [List.map_map]
  exact List.map_congr_left fun e _ => by simp only [Function.comp_apply]; split <;> rfl
theorem ent_setO : ent (setO E q o') r = (ent E r).map fun e => if e.p = q then { e with o := o' } else e := by
  unfold setO ent
  rw [List.find?_map]
  have : ((fun e : Ent => decide (e.p = r)) ∘ fun e => if e.p = q then { e with o := o' } else e) = fun e => decide (e.p = r) := by
    funext e; simp only [Function.comp_apply]; split <;> rfl
  rw [this]
theorem ent_rm : ent (rm E s) r = if r = s then none else ent E r := by
  unfold rm ent
  rw [List.find?_filter]
  by_cases h : r = s
  · rw [if_pos h, List.find?_eq_none]
    intro e _
    simp only [Bool.and_eq_true, Bool.not_eq_true', decide_eq_false_iff_not, decide_eq_true_eq, not_and]
    exact fun h1 h2 => h1 (h2.trans h)
  · rw [if_neg h]
    congr 1
    funext e
    by_cases h2 : e.p = r
    · have : e.p ≠ s := fun h3 => h (h2.symm.trans h3)
      simp [h2, h]
    · simp [h2]
theorem ent_app {A B : List Ent} : ent (A ++ B) r = (ent A r).or (ent B r) := List.find?_append
theorem ent_opt : ent x.toList r = x.filter fun e => decide (e.p = r) := by
  cases x with
  | none => rfl
  | some e => unfold ent; by_cases h : e.p = r <;> simp [Option.filter, h]
theorem ent_upd (hx : ∀ e, x = some e → e.p = q ++ [n]) : ent (upd E q o' n x) r = if r = q ++ [n] then x else (ent E r).map fun e => if e.p = q then { e with o := o' } else e := by
  unfold upd
  rw [ent_app, ent_setO, ent_rm, ent_opt]
  by_cases h : r = q ++ [n]
  · rw [if_pos h, if_pos h]
    cases x with
    | none => rfl
    | some e => simp [Option.filter, hx e rfl, h]
  · rw [if_neg h, if_neg h]
    have : x.filter (fun e => decide (e.p = r)) = none := by
      cases x with
      | none => rfl
      | some e => have : e.p ≠ r := fun h2 => h (h2.symm.trans (hx e rfl)); simp [Option.filter, this]
    rw [this, Option.or_none]
theorem snoc_inj {a b : NP} {m k : List UInt8} (h : a ++ [m] = b ++ [k]) : a = b ∧ m = k := by
  have := List.append_inj' h rfl
  exact ⟨this.1, by simpa using this.2⟩
theorem snoc_ne (a : NP) (m : List UInt8) : a ≠ a ++ [m] := fun h => by have := congrArg List.length h; simp at this

/-- What may stand at a name. -/
structure NewOK (q : NP) (n : List UInt8) (e : Ent) : Prop where
  p : e.p = q ++ [n]
  ok : POK e.p
  map : e.dir = true → MapF strV e.o (fun _ => none)
  dat : BytesO e.D e.v e.data ∧ e.data.length ≤ 65536
  dd : e.dir = true → e.data = []
theorem TI.upd (h : TI E) (hd : ent E q = some d) (hdd : d.dir = true) (hleaf : ∀ k, ent E ((q ++ [n]) ++ [k]) = none) (hx : ∀ e, x = some e → NewOK q n e)
    (hm : MapF strV o' (setF (kids E q) n (x.map fun e => ptr e.b))) : TI (upd E q o' n x) := by
  have hxp : ∀ e, x = some e → e.p = q ++ [n] := fun e he => (hx e he).p
  have E1 : ∀ r, ent (Go.Proofs.Ytccfmfehfhfhhaa.upd E q o' n x) r = if r = q ++ [n] then x else (ent E r).map fun e => if e.p = q then { e with o := o' } else e := fun r => ent_upd hxp
  have hnd : ((Go.Proofs.Ytccfmfehfhfhhaa.upd E q o' n x).map (·.p)).Nodup := by
    unfold Go.Proofs.Ytccfmfehfhfhhaa.upd
    rw [List.map_append, setO_p, List.nodup_append]
    refine ⟨((List.filter_sublist (l := E)).map _).nodup h.nd, by cases x <;> simp, ?_⟩
    intro a ha b hb e
    obtain ⟨y, hy, rfl⟩ := List.mem_map.1 ha
    obtain ⟨z, hz, rfl⟩ := List.mem_map.1 hb
    have := hxp z (by cases x <;> simp_all)
    have hy2 := (List.mem_filter.1 hy).2
    simp only [Bool.not_eq_true', decide_eq_false_iff_not] at hy2
    exact hy2 (e.trans this)
  have key : ∀ e ∈ Go.Proofs.Ytccfmfehfhfhhaa.upd E q o' n x, (x = some e) ∨ ∃ e0 ∈ E, e0.p ≠ q ++ [n] ∧ e = if e0.p = q then { e0 with o := o' } else e0 := fun e he => by
    have h1 := E1 e.p
    rw [ent_of hnd he] at h1
    split at h1
    · exact .inl h1.symm
    · rename_i h2
      cases h3 : ent E e.p with
      | none => rw [h3] at h1; cases h1
      | some e0 =>
        rw [h3] at h1
        obtain ⟨h4, h5⟩ := ent_mem h3
        exact .inr ⟨e0, h4, by rw [h5]; exact h2, Option.some.inj h1⟩
  have kk : ∀ s, kids (Go.Proofs.Ytccfmfehfhfhhaa.upd E q o' n x) s = if s = q then setF (kids E q) n (x.map fun e => ptr e.b) else if s = q ++ [n] then fun _ => none else kids E s := fun s => by
    funext k
    unfold kids
    rw [E1]
    by_cases h1 : s = q
    · rw [if_pos h1, h1]
      unfold setF
      by_cases h2 : k = n
      · rw [if_pos (by rw [h2]), if_pos h2]
      · rw [if_neg (fun h3 => h2 (snoc_inj h3).2), if_neg h2]
        show _ = Option.map (fun e => ptr e.b) (ent E (q ++ [k]))
        cases ent E (q ++ [k]) with
        | none => rfl
        | some e => simp only [Option.map_some]; split <;> rfl
    · rw [if_neg h1, if_neg (fun h3 => h1 (snoc_inj h3).1)]
      by_cases h2 : s = q ++ [n]
      · rw [if_pos h2, h2, hleaf k]; rfl
      · rw [if_neg h2]
        cases ent E (s ++ [k]) with
        | none => rfl
        | some e => simp only [Option.map_some]; split <;> rfl
  refine ⟨hnd, ?_, ?_, ?_, ?_, ?_, ?_⟩
  · obtain ⟨rt, h1, h2⟩ := h.root
    rw [E1, if_neg (fun h => by simp at h), h1]
    refine ⟨_, rfl, ?_⟩
    dsimp only
    split <;> exact h2
  · intro s k e he
    rw [E1] at he
    split at he
    · rename_i h1
      obtain ⟨rfl, rfl⟩ := snoc_inj h1
      rw [E1, if_neg (snoc_ne _ _), hd]
      refine ⟨_, rfl, ?_⟩
      dsimp only
      split <;> exact hdd
    · cases h3 : ent E (s ++ [k]) with
      | none => rw [h3] at he; cases he
      | some e0 =>
        obtain ⟨d2, h4, h5⟩ := h.par s k e0 h3
        rw [E1, if_neg, h4]
        · refine ⟨_, rfl, ?_⟩
          dsimp only
          split <;> exact h5
        · rintro rfl; rw [hleaf k] at h3; cases h3
  · intro e he
    rcases key e he with h1 | ⟨e0, h1, _, rfl⟩
    · exact (hx e h1).ok
    · have := h.ok e0 h1; split <;> exact this
  · intro e he hed
    rw [kk]
    rcases key e he with h1 | ⟨e0, h1, h2, rfl⟩
    · have h3 := hx e h1
      rw [h3.p, if_neg (fun h => snoc_ne q n h.symm), if_pos rfl]
      exact h3.map hed
    · by_cases h3 : e0.p = q
      · rw [if_pos h3] at hed ⊢
        rw [if_pos h3]; exact hm
      · rw [if_neg h3] at hed ⊢
        rw [if_neg h3, if_neg h2]; exact h.map e0 h1 hed
  · intro e he
    rcases key e he with h1 | ⟨e0, h1, _, rfl⟩
    · exact (hx e h1).dat
    · have := h.dat e0 h1; split <;> exact this
  · intro e he hed
    rcases key e he with h1 | ⟨e0, h1, _, rfl⟩
    · exact (hx e h1).dd hed
    · have := h.dd e0 h1; split at hed <;> (split <;> first | exact this hed | (rename_i a b; exact absurd ‹_› ‹_›))

theorem blks_sub {E' : List Ent} (h : E'.Sublist E) : (blks E').Sublist (blks E) := by
  induction h with
  | slnil => exact List.Sublist.refl _
  | cons a _ ih => exact ih.trans (List.sublist_append_right _ _)
  | cons_cons a _ ih => exact List.Sublist.append (List.Sublist.refl _) ih
theorem setO_split {A B : List Ent} (hn : ((A ++ d :: B).map (·.p)).Nodup) : setO (A ++ d :: B) d.p o' = A ++ { d with o := o' } :: B := by
  unfold setO
  rw [List.map_append, List.map_cons, if_pos rfl]
  simp only [List.map_append, List.map_cons, List.nodup_append, List.nodup_cons] at hn
  have h1 : ∀ e ∈ A, e.p ≠ d.p := fun e he h => hn.2.2 e.p (List.mem_map.2 ⟨e, he, rfl⟩) d.p (by simp) h
  have h2 : ∀ e ∈ B, e.p ≠ d.p := fun e he h => hn.2.1.1 (List.mem_map.2 ⟨e, he, h⟩)
  have hA : A.map (fun e => if e.p = d.p then { e with o := o' } else e) = A := by
    conv => rhs; rw [← List.map_id A]
    exact List.map_congr_left fun e he => by rw [if_neg (h1 e he)]; rfl
  have hB : B.map (fun e => if e.p = d.p then { e with o := o' } else e) = B := by
    conv => rhs; rw [← List.map_id B]
    exact List.map_congr_left fun e he => by rw [if_neg (h2 e he)]; rfl
  rw [hA, hB]
/-- A directory's map was written. -/
theorem mapput {S : Nat → Prop} {w0 w w1 : World} {P Q : List (Nat × Obj)} (M : St S w0 (P ++ (blks E ++ Q)) w) (hn : (E.map (·.p)).Nodup) (hd : ent E q = some d) (hdd : d.dir = true) (hw : w1 = w.putObj d.m o') : St S w0 (P ++ (blks (setO E q o') ++ Q)) w1 := by
  obtain ⟨h1, rfl⟩ := ent_mem hd
  obtain ⟨A, B, rfl⟩ := List.append_of_mem h1
  rw [setO_split hn]
  have e1 : ∀ o, blks (A ++ { d with o := o } :: B) = (blks A ++ [d.hd]) ++ (d.m, o) :: (d.D ++ blks B) := fun o => by
    simp [blks, Ent.blks, Ent.mp, hdd, Ent.hd, Ent.kv]
  have e2 := e1 d.o
  have e3 : A ++ { d with o := d.o } :: B = A ++ d :: B := rfl
  rw [e3] at e2
  rw [e2] at M
  rw [e1 o']
  have M2 : St S w0 ((P ++ (blks A ++ [d.hd])) ++ (d.m, d.o) :: (d.D ++ blks B ++ Q)) w := by simpa using M
  simpa using M2.put2 hw
theorem absE_upd (hx : ∀ e, x = some e → e.p = q ++ [n]) : absE (upd E q o' n x) r = if r = q ++ [n] then x.map (fun e => (e.dir, e.data)) else absE E r := by
  unfold absE
  rw [ent_upd hx]
  split
  · rfl
  · cases ent E r with
    | none => rfl
    | some e => simp only [Option.map_some]; split <;> rfl
theorem rm_none (h : ent E s = none) : rm E s = E := List.filter_eq_self.2 fun e he => by simpa using ent_none h e he
theorem setO_rm : setO (rm E s) q o' = rm (setO E q o') s := by
  unfold setO rm
  rw [List.filter_map]
  congr 1
  congr 1
  funext e
  simp only [Function.comp_apply]; split <;> rfl
theorem rm_len : ∀ {E : List Ent} {e : Ent}, (E.map (·.p)).Nodup → ent E s = some e → (rm E s).length + 1 = E.length
  | x :: E, e, hn, he => by
    simp only [List.map_cons, List.nodup_cons] at hn
    unfold ent at he
    rw [List.find?_cons] at he
    by_cases h : x.p = s
    · have h2 : ent E s = none := List.find?_eq_none.2 fun y hy => by
        simp only [decide_eq_true_eq]; intro h3; exact hn.1 (List.mem_map.2 ⟨y, hy, h3.trans h.symm⟩)
      have : rm (x :: E) s = E := by
        show List.filter _ (x :: E) = E
        rw [List.filter_cons_of_neg (by simp [h])]
        exact rm_none h2
      rw [this]; rfl
    · simp only [h, decide_false] at he
      have := rm_len hn.2 he
      have h2 : rm (x :: E) s = x :: rm E s := List.filter_cons_of_pos (by simp [h])
      rw [h2]; simp; omega
theorem upd_len_new (h : ent E (q ++ [n]) = none) : (upd E q o' n (some e)).length = E.length + 1 := by
  unfold upd; rw [rm_none h]; simp [setO]
theorem upd_len_same (hn : (E.map (·.p)).Nodup) (h : ent E (q ++ [n]) = some d) : (upd E q o' n (some e)).length = E.length := by
  have := rm_len hn h
  unfold upd; simp [setO]; omega
theorem upd_len_rm (hn : (E.map (·.p)).Nodup) (h : ent E (q ++ [n]) = some d) : (upd E q o' n none).length + 1 = E.length := by
  have := rm_len hn h
  unfold upd; simp [setO]; omega
theorem blks_app (A B : List Ent) : blks (A ++ B) = blks A ++ blks B := List.flatMap_append
theorem upd_ndP (hx : ∀ e, x = some e → e.p = q ++ [n]) : ndP (upd E q o' n x) [] = ndP E [] := by
  unfold ndP
  rw [ent_upd hx, if_neg (fun h => by simp at h)]
  cases ent E [] with
  | none => rfl
  | some e => simp only [Option.map_some]; split <;> rfl
end
end Go.Proofs.Ytccfmfehfhfhhaa

namespace Go.Proofs.Ytccfmfehfhfhhaa
open Go Go.Fw Go.RowKit
set_option linter.unusedVariables false
set_option linter.unusedSimpArgs false

def setG (g : Gf) (s : NP) (v : Option (Bool × List UInt8)) : Gf := fun r => if r = s then v else g r
def mkdirG (g : Gf) (full : Bool) (p : List UInt8) : Int × Gf :=
  if homeG g p 10 = 0 then (if (g (splitN p)).isSome = true then (10, g) else if full = true then (7, g) else (0, setG g (splitN p) (some (true, [])))) else (homeG g p 10, g)
def putG (g : Gf) (full : Bool) (p b : List UInt8) : Int × Gf :=
  if homeG g p 16 = 0 then (if ((g (splitN p)).getD (false, [])).1 = true then (16, g) else if 65536 < b.length then (3, g) else if (g (splitN p)).isNone = true ∧ full = true then (7, g) else (0, setG g (splitN p) (some (false, b)))) else (homeG g p 16, g)
/-- Does anything stand in it? -/
def emptyG (g : Gf) (q : NP) : Prop := ∀ n, g (q ++ [n]) = none
open Classical in
noncomputable def removeG (g : Gf) (p : List UInt8) : Int × Gf :=
  if findG g p = 0 then (if p = [] ∨ ¬ emptyG g (splitN p) then (18, g) else (0, setG g (splitN p) none)) else (findG g p, g)

section
variable {S : Nat → Prop} {w0 w w1 : World} {E : List Ent} {L N : List (Nat × Obj)} {q : NP} {o' : Obj} {n p : List UInt8} {x : Ent} {bt : Nat} {z : Int}
theorem EAt.tb (M : St S w0 (tb bt E ++ L) w) : EAt w E := fun x hx => M.get (List.mem_append_left _ (List.mem_cons_of_mem _ hx))
theorem POK_split (h : splitE p = 0) : POK (splitN p) := by
  rcases splitN_facts h with ⟨h1, h2⟩ | ⟨h1, h2, h3, h4⟩
  · rw [h2]; exact ⟨by simp, by simp [allOK], by simp [joinS]⟩
  · rw [h2]; exact ⟨h3, h4, by rw [joinS_splitS]; exact splitE_len h⟩
theorem absE_some {r : NP} : (absE E r).isSome = (ent E r).isSome := by unfold absE; cases ent E r <;> rfl
theorem absE_none {r : NP} : absE E r = none ↔ ent E r = none := by unfold absE; cases ent E r <;> simp
theorem absE_at {r : NP} {d : Ent} (h : ent E r = some d) : absE E r = some (d.dir, d.data) := by unfold absE; rw [h]; rfl
theorem TI.leaf (hT : TI E) {s : NP} (h : ∀ d, ent E s = some d → d.dir = false) : ∀ k, ent E (s ++ [k]) = none := fun k => by
  cases hk : ent E (s ++ [k]) with
  | none => rfl
  | some e =>
    obtain ⟨d, h1, h2⟩ := hT.par s k e hk
    rw [h d h1] at h2; cases h2
theorem EAt.map (h : EAt w E) {d : Ent} (hd : d ∈ E) (hdd : d.dir = true) : w.cell? ⟨d.b, 1, none⟩ = some (.map (some d.m)) := by have := h.kv hd; rwa [Ent.kvT hdd] at this
theorem kvLen {e : Ent} (hT : TI E) (he : ent E q = some e) : ∃ mb len, e.kv = .map mb ∧ (∀ {w : World}, EAt w E → LenAt w mb len) ∧ (len = 0 ↔ emptyG (absE E) q) := by
  obtain ⟨h1, rfl⟩ := ent_mem he
  cases hd : e.dir with
  | false =>
    refine ⟨none, 0, Ent.kvF hd, fun _ => .inl ⟨rfl, rfl⟩, fun _ n => absE_none.2 (hT.leaf (fun d hd2 => ?_) n), fun _ => rfl⟩
    rw [he] at hd2; cases hd2; exact hd
  | true =>
    have hm := hT.map e h1 hd
    obtain ⟨es, clock, ho, hs⟩ := run_lenMap (P := Try.prog) (w := (default : World).alloc e.o) (heap_alloc (default : World) e.o _ |>.trans (if_pos rfl)) hm
    refine ⟨some e.m, es.size, Ent.kvT hd, fun h => .inr ⟨e.m, es, clock, rfl, by rw [h.mp h1 hd, ho], rfl⟩, ?_⟩
    rw [hs]
    unfold emptyG
    constructor
    · intro h n
      have := h n
      unfold kids at this
      rw [absE_none]
      cases hk : ent E (e.p ++ [n]) with
      | none => rfl
      | some d => rw [hk] at this; cases this
    · intro h n
      unfold kids
      rw [absE_none.1 (h n)]; rfl
theorem home_found {e : Ent} {root : Int} (hT : TI E) (hE : splitE p = 0) (hn : splitN p ≠ []) (he : ent E (splitN p) = some e) : homeG (absE E) p root = 0 := by
  obtain ⟨q, n, hqn⟩ : ∃ q n, splitN p = q ++ [n] := ⟨_, _, (List.dropLast_concat_getLast hn).symm⟩
  rw [hqn] at he
  obtain ⟨d, hd, hdd⟩ := hT.par q n e he
  obtain ⟨rt, hrt, _⟩ := hT.root
  unfold homeG
  have hq : (splitN p).dropLast = q := by rw [hqn]; simp
  rw [if_pos hE, if_neg hn, hq, if_pos ((comeE_zero hT hrt).2 ⟨d, hd⟩), absE_at hd]
  simp [hdd]
theorem updFin {xo : Option Ent} (M : St S w0 ((bt, .cells [ndP E [], .int .i64 z].toArray 63 (0, 0)) :: (blks (setO E q o') ++ (L ++ N))) w) (hb : N.Perm (blks xo.toList)) (hp : ∀ e, xo = some e → e.p = q ++ [n])
    (hz : z = ((upd E q o' n xo).length : Int) - 1) : St S w0 (tb bt (upd E q o' n xo) ++ L) w := by
  have h1 : (blks (setO (rm E (q ++ [n])) q o')).Sublist (blks (setO E q o')) := by
    rw [setO_rm]; exact blks_sub (List.filter_sublist)
  have M1 := M.sub (List.Sublist.cons_cons _ (List.Sublist.append h1 (List.Sublist.refl _)))
  unfold tb
  rw [upd_ndP hp, ← hz]
  refine M1.perm ?_
  unfold upd
  rw [blks_app]
  refine List.Perm.cons _ ?_
  refine ((List.perm_append_comm.trans (List.Perm.append_right _ hb)).append_left _).trans ?_
  simp
theorem updFin2 {xo : Option Ent} {y : Nat × Obj} (M : St S w0 ([y, (bt, .cells [ndP E [], .int .i64 z].toArray 63 (0, 0))] ++ (blks (setO E q o') ++ (L ++ N))) w) (hb : (y :: N).Perm (blks xo.toList)) (hp : ∀ e, xo = some e → e.p = q ++ [n])
    (hz : z = ((upd E q o' n xo).length : Int) - 1) : St S w0 (tb bt (upd E q o' n xo) ++ L) w := by
  refine updFin (N := y :: N) (M.perm ?_) hb hp hz
  refine (List.Perm.swap _ _ _).trans (List.Perm.cons _ ?_)
  show (y :: (blks (setO E q o') ++ (L ++ N))).Perm (blks (setO E q o') ++ (L ++ y :: N))
  rw [← List.append_assoc, ← List.append_assoc]
  exact List.perm_middle.symm
end
end Go.Proofs.Ytccfmfehfhfhhaa

namespace Go.Proofs.Ytccfmfehfhfhhaa
open Go Go.Fw Go.RowKit Go.Proofs
set_option linter.unusedVariables false
set_option linter.unusedSimpArgs false

set_option maxRecDepth 100000 in
theorem mkdir_c {w0 : World} {w00 : World} {bt : Nat} {E : List Ent} {L : List (Nat × Obj)} {p : List UInt8} (M : Sep w00 (tb bt E ++ L) w0) (hT : TI E) (hl : E.length ≤ 129)  : Ret Try.prog 19 #[ptr bt, strV p] w0 fun r w' => ∃ E', r = .int .i64 (mkdirG (absE E) (decide (E.length = 129)) p).1 ∧ absE E' = (mkdirG (absE E) (decide (E.length = 129)) p).2 ∧ TI E' ∧ E'.length ≤ 129 ∧ Sep w00 (tb bt E' ++ L) w' := by
  have hA := TrA.of hT M
  obtain ⟨rt, hrt, _⟩ := hT.root
  refine Ret.of_W Try.func19 rfl Try.ntmps19 rfl ?_
  refine W.seq ?_
  refine W.sub [(0, _), (1, _)] ⟨rfl, rfl, trivial⟩ ?_
  refine W.reg [(0, false)] (by kernel_rfl) ?_
  intro K hK
  refine x_assign rfl rfl rfl rfl ?_
  refine Ex.done (hK _ _ ?_)
  refine At.then_n ?_
  refine W.seq ?_
  refine W.sub [(0, _), (1, _)] ⟨rfl, rfl, trivial⟩ ?_
  refine W.reg [(0, false), (1, false), (2, true), (3, false), (4, false), (5, false), (6, false), (7, false), (8, false), (9, false)] (by kernel_rfl) ?_
  intro K hK
  refine x_move rfl rfl rfl rfl ?_
  refine x_move rfl rfl rfl rfl ?_
  refine x_call rfl rfl rfl rfl rfl en41 (home_c hA (by decide)) ?_
  rintro r w1 ⟨⟨nd, nm, rfl, hh⟩, hn1⟩
  have M := M.new hn1
  refine ⟨trivial, ?_⟩
  refine x_move rfl rfl rfl rfl ?_
  refine x_ext rfl rfl rfl rfl rfl ?_
  refine x_ext rfl rfl rfl rfl rfl ?_
  refine x_ext rfl rfl rfl rfl rfl ?_
  refine x_assign rfl rfl rfl rfl ?_
  refine x_assign rfl rfl rfl rfl ?_
  refine x_assign rfl rfl rfl rfl ?_
  refine Ex.done (hK _ _ ?_)
  refine At.then_n ?_
  refine W.seq ?_
  refine W.block ?_
  refine W.seq ?_
  refine W.sub [(0, _), (5, _), (6, _), (7, _)] ⟨rfl, rfl, rfl, rfl, trivial⟩ ?_
  refine W.reg [(0, false), (1, false), (2, false)] (by kernel_rfl) ?_
  intro K hK
  refine x_move rfl rfl rfl rfl ?_
  refine x_nei _ rfl rfl rfl rfl rfl rfl ?_
  refine x_assign rfl rfl rfl rfl ?_
  refine Ex.done (hK _ _ ?_)
  refine At.then_n ?_
  refine W.cond rfl (fun hco1 => ?_) (fun hco1 => ?_)
  · try simp only [decide_eq_true_eq, decide_eq_false_iff_not, Bool.not_eq_true', Bool.not_eq_false', beq_iff_eq, bne_iff_ne, ne_eq, Bool.not_eq_eq_eq_not, Bool.not_true, Bool.not_false, beq_eq_false_iff_ne, bne_eq_false_iff_eq, Bool.not_not, gt_iff_lt, ge_iff_le] at hco1
    refine W.seq ?_
    refine W.sub [(7, _)] ⟨rfl, trivial⟩ ?_
    refine W.reg [(0, false), (1, false)] (by kernel_rfl) ?_
    intro K hK
    refine x_move rfl rfl rfl rfl ?_
    refine x_assign rfl rfl rfl rfl ?_
    refine Ex.done (hK _ _ ?_)
    refine At.then_n ?_
    refine W.ret ?_
    refine At.blk_r ?_
    refine At.then_r ?_
    refine At.ret1 (.tmp 4) rfl ⟨rfl, trivial⟩ ?_
    unfold mkdirG; rw [if_neg hco1]; exact ⟨E, rfl, rfl, hT, hl, M⟩
  · try simp only [decide_eq_true_eq, decide_eq_false_iff_not, Bool.not_eq_true', Bool.not_eq_false', beq_iff_eq, bne_iff_ne, ne_eq, Bool.not_eq_eq_eq_not, Bool.not_true, Bool.not_false, beq_eq_false_iff_ne, bne_eq_false_iff_eq, Bool.not_not, gt_iff_lt, ge_iff_le] at hco1
    obtain ⟨hse, q, n, d, hqn, hd, hdd, rfl, rfl⟩ := hh hco1
    obtain ⟨hdm, hdp⟩ := ent_mem hd
    have hmap := hT.map d hdm hdd
    rw [hdp] at hmap
    have hPOK := POK_split hse
    rw [hqn] at hPOK
    have hlk : ∀ {w : World}, EAt w E → LkAt strV w d.m n (kids E q n) := fun h => by have := h.lk hT hdm hdd n; rwa [hdp] at this
    unfold mkdirG
    rw [if_pos hco1, hqn]
    refine W.seq ?_
    refine W.sub [(0, _), (5, _), (6, _)] ⟨rfl, rfl, rfl, trivial⟩ ?_
    refine W.reg [(0, false), (1, false), (2, false), (3, false), (4, false), (5, false), (6, false), (7, false), (8, false)] (by kernel_rfl) ?_
    intro K hK
    refine x_move rfl rfl rfl rfl ?_
    refine x_nil rfl rfl rfl rfl rfl ?_
    refine x_fa rfl rfl rfl fo82_1 rfl ?_
    refine x_fa rfl rfl rfl fo80_0 rfl ?_
    refine x_ld rfl rfl rfl Try.underlying78 rfl rfl ((EAt.of' M (fun x hx => by simp [tb, hx])).map hdm hdd) ?_
    refine x_move rfl rfl rfl rfl ?_
    refine x_lk1 (enc := strV) n rfl rfl rfl (strKey Try.underlying9) Try.underlying78 ze61 rfl rfl (hlk (EAt.of' M (fun x hx => by simp [tb, hx]))) ?_
    rw [kids_getD]
    refine x_nepn (ent E (q ++ [n])).isSome rfl rfl rfl Try.underlying61 rfl rfl (by cases ent E (q ++ [n]) <;> rfl) ?_
    refine x_assign rfl rfl rfl rfl ?_
    refine Ex.done (hK _ _ ?_)
    refine At.then_n ?_
    refine W.cond rfl (fun hco2 => ?_) (fun hco2 => ?_)
    · try simp only [decide_eq_true_eq, decide_eq_false_iff_not, Bool.not_eq_true', Bool.not_eq_false', beq_iff_eq, bne_iff_ne, ne_eq, Bool.not_eq_eq_eq_not, Bool.not_true, Bool.not_false, beq_eq_false_iff_ne, bne_eq_false_iff_eq, Bool.not_not, gt_iff_lt, ge_iff_le] at hco2
      refine W.seq ?_
      refine W.sub [] trivial ?_
      refine W.reg [(0, false)] (by kernel_rfl) ?_
      intro K hK
      refine x_assign rfl rfl rfl rfl ?_
      refine Ex.done (hK _ _ ?_)
      refine At.then_n ?_
      refine W.ret ?_
      refine At.blk_r ?_
      refine At.then_r ?_
      refine At.ret1 (.tmp 4) rfl ⟨rfl, trivial⟩ ?_
      rw [absE_some, if_pos hco2]; exact ⟨E, rfl, rfl, hT, hl, M⟩
    · try simp only [decide_eq_true_eq, decide_eq_false_iff_not, Bool.not_eq_true', Bool.not_eq_false', beq_iff_eq, bne_iff_ne, ne_eq, Bool.not_eq_eq_eq_not, Bool.not_true, Bool.not_false, beq_eq_false_iff_ne, bne_eq_false_iff_eq, Bool.not_not, gt_iff_lt, ge_iff_le] at hco2
      rw [absE_some, if_neg (by simp [hco2])]
      have hnone : ent E (q ++ [n]) = none := by cases h : ent E (q ++ [n]) with | none => rfl | some e => rw [h] at hco2; cases hco2
      refine W.seq ?_
      refine W.sub [(0, _), (5, _), (6, _)] ⟨rfl, rfl, rfl, trivial⟩ ?_
      refine W.reg [(0, false), (1, false), (2, false), (3, false), (4, false), (5, false)] (by kernel_rfl) ?_
      intro K hK
      refine x_move rfl rfl rfl rfl ?_
      refine x_nil rfl rfl rfl rfl rfl ?_
      refine x_fa rfl rfl rfl fo63_1 rfl ?_
      refine x_ld rfl rfl rfl Try.underlying3 rfl rfl (cell_of (M.at_ 0 rfl) rfl) ?_
      refine x_eqi _ rfl rfl rfl rfl rfl rfl ?_
      refine x_assign rfl rfl rfl rfl ?_
      refine Ex.done (hK _ _ ?_)
      refine At.then_n ?_
      refine W.cond rfl (fun hco3 => ?_) (fun hco3 => ?_)
      · try simp only [decide_eq_true_eq, decide_eq_false_iff_not, Bool.not_eq_true', Bool.not_eq_false', beq_iff_eq, bne_iff_ne, ne_eq, Bool.not_eq_eq_eq_not, Bool.not_true, Bool.not_false, beq_eq_false_iff_ne, bne_eq_false_iff_eq, Bool.not_not, gt_iff_lt, ge_iff_le] at hco3
        refine W.seq ?_
        refine W.sub [] trivial ?_
        refine W.reg [(0, false)] (by kernel_rfl) ?_
        intro K hK
        refine x_assign rfl rfl rfl rfl ?_
        refine Ex.done (hK _ _ ?_)
        refine At.then_n ?_
        refine W.ret ?_
        refine At.blk_r ?_
        refine At.then_r ?_
        refine At.ret1 (.tmp 4) rfl ⟨rfl, trivial⟩ ?_
        rw [if_pos (by simp; omega)]; exact ⟨E, rfl, rfl, hT, hl, M⟩
      · try simp only [decide_eq_true_eq, decide_eq_false_iff_not, Bool.not_eq_true', Bool.not_eq_false', beq_iff_eq, bne_iff_ne, ne_eq, Bool.not_eq_eq_eq_not, Bool.not_true, Bool.not_false, beq_eq_false_iff_ne, bne_eq_false_iff_eq, Bool.not_not, gt_iff_lt, ge_iff_le] at hco3
        rw [if_neg (by simp; omega)]
        refine W.skip ?_
        refine At.blk_n ?_
        refine At.then_n ?_
        refine W.seq ?_
        refine W.sub [(0, _), (5, _), (6, _)] ⟨rfl, rfl, rfl, trivial⟩ ?_
        refine W.regD (by kernel_rfl) #[0, 1, 3, 7, 15, 0, 0, 127] [(0, false), (1, false), (2, false), (3, false), (4, false), (5, false), (6, true), (7, true)] (by kernel_rfl) ?_
        intro K wD1 hK hwD1
        have M := M.drew hwD1
        refine x_move rfl rfl rfl rfl ?_
        refine x_nil rfl rfl rfl rfl rfl ?_
        refine x_fa rfl rfl rfl fo82_1 rfl ?_
        refine x_fa rfl rfl rfl fo80_0 rfl ?_
        refine x_ld rfl rfl rfl Try.underlying78 rfl rfl ((EAt.of' M (fun x hx => by simp [tb, hx])).map hdm hdd) ?_
        refine x_move rfl rfl rfl rfl ?_
        refine x_call rfl rfl rfl rfl rfl en42 (directory_c) ?_
        rintro r wcall2 ⟨bcall2, mcall2, rfl, Mcall2⟩
        have M := M.grow Mcall2
        refine ⟨⟨.inr ((EAt.of' M (fun x hx => by simp [tb, hx])).map hdm hdd), trivial⟩, ?_⟩
        refine x_mup (enc := strV) n rfl rfl rfl (strKey Try.underlying9) Try.underlying78 rfl rfl rfl ((EAt.of' M (fun x hx => by simp [tb, hx])).mp hdm hdd) hmap ?_
        intro omu1 wmu1 hmmu1 hwmu1
        have M := mapput (P := [_]) (Q := L ++ _) (by simpa [tb] using M) hT.nd hd hdd hwmu1
        refine ⟨⟨.inl (by kernel_rfl), trivial⟩, ?_⟩
        refine Ex.done (hK _ _ ?_)
        refine At.then_n ?_
        refine W.seq ?_
        refine W.sub [(0, _)] ⟨rfl, trivial⟩ ?_
        refine W.reg [(0, false), (1, false), (2, false), (3, false), (4, false), (5, false), (6, false), (7, true)] (by kernel_rfl) ?_
        intro K hK
        refine x_move rfl rfl rfl rfl ?_
        refine x_nil rfl rfl rfl rfl rfl ?_
        refine x_fa rfl rfl rfl fo63_1 rfl ?_
        refine x_ld rfl rfl rfl Try.underlying3 rfl rfl (cell_of (M.at_ 0 rfl) rfl) ?_
        refine x_add _ rfl rfl rfl rfl rfl (wadd (by omega) (by omega)) ?_
        refine x_nil rfl rfl rfl rfl rfl ?_
        refine x_fa rfl rfl rfl fo63_1 rfl ?_
        refine x_st [_] _ rfl rfl rfl sz3 rfl rfl rfl rfl (by first | exact M.at_ 0 rfl | exact M.at_ 1 rfl | exact M.at_ 2 rfl | exact M.at_ 3 rfl | exact M.at_ 4 rfl | exact M.at_ 5 rfl | exact M.at_ 6 rfl | exact M.at_ 7 rfl) rfl rfl rfl ?_
        intro wst1 hwst1
        have M := by first | exact M.put 0 rfl hwst1 | exact M.put 1 rfl hwst1 | exact M.put 2 rfl hwst1 | exact M.put 3 rfl hwst1 | exact M.put 4 rfl hwst1 | exact M.put 5 rfl hwst1 | exact M.put 6 rfl hwst1 | exact M.put 7 rfl hwst1
        refine ⟨trivial, ?_⟩
        refine Ex.done (hK _ _ ?_)
        refine At.then_n ?_
        refine W.seq ?_
        refine W.sub [] trivial ?_
        refine W.reg [(0, false)] (by kernel_rfl) ?_
        intro K hK
        refine x_assign rfl rfl rfl rfl ?_
        refine Ex.done (hK _ _ ?_)
        refine At.then_n ?_
        refine W.ret ?_
        refine At.ret1 (.tmp 4) rfl ⟨rfl, trivial⟩ ?_
        refine ⟨upd E q omu1 n (some ⟨q ++ [n], bcall2, true, mcall2, .map #[] 0, .slice none 0 0, [], []⟩), rfl, ?_, ?_, ?_, ?_⟩
        funext r
        rw [absE_upd (fun e he => by cases he; rfl)]
        rfl
        exact hT.upd hd hdd (hT.leaf fun d2 h2 => by rw [hnone] at h2; cases h2) (fun e he => by cases he; exact ⟨rfl, hPOK, fun _ => MapF.made, ⟨OwL.nil, by simp⟩, fun _ => rfl⟩) hmmu1
        rw [upd_len_new hnone]; omega
        refine updFin M (List.Perm.swap _ _ _) (fun e he => by cases he; rfl) ?_
        rw [upd_len_new hnone]; simp

set_option maxRecDepth 100000 in
theorem put_c {w0 : World} {w00 : World} {bt : Nat} {E : List Ent} {L : List (Nat × Obj)} {p : List UInt8} {v : Value} {b : List UInt8} (M : Sep w00 (tb bt E ++ L) w0) (hT : TI E) (hl : E.length ≤ 129) (hv : ∀ w M, Sep w00 M w → (∀ x ∈ L, x ∈ M) → BytesAt w v b) : Ret Try.prog 20 #[ptr bt, strV p, v] w0 fun r w' => ∃ E', r = .int .i64 (putG (absE E) (decide (E.length = 129)) p b).1 ∧ absE E' = (putG (absE E) (decide (E.length = 129)) p b).2 ∧ TI E' ∧ E'.length ≤ 129 ∧ Sep w00 (tb bt E' ++ L) w' := by
  have hA := TrA.of hT M
  obtain ⟨rt, hrt, _⟩ := hT.root
  obtain ⟨pv, cv, rfl⟩ := (hv _ _ M (fun x hx => by simp [hx])).shape
  refine Ret.of_W Try.func20 rfl Try.ntmps20 rfl ?_
  refine W.seq ?_
  refine W.sub [(0, _), (1, _), (2, _)] ⟨rfl, rfl, rfl, trivial⟩ ?_
  refine W.reg [(0, false)] (by kernel_rfl) ?_
  intro K hK
  refine x_assign rfl rfl rfl rfl ?_
  refine Ex.done (hK _ _ ?_)
  refine At.then_n ?_
  refine W.seq ?_
  refine W.sub [(0, _), (1, _), (2, _)] ⟨rfl, rfl, rfl, trivial⟩ ?_
  refine W.reg [(0, false), (1, false), (2, true), (3, false), (4, false), (5, false), (6, false), (7, false), (8, false), (9, false)] (by kernel_rfl) ?_
  intro K hK
  refine x_move rfl rfl rfl rfl ?_
  refine x_move rfl rfl rfl rfl ?_
  refine x_call rfl rfl rfl rfl rfl en41 (home_c hA (by decide)) ?_
  rintro r w1 ⟨⟨nd, nm, rfl, hh⟩, hn1⟩
  have M := M.new hn1
  refine ⟨trivial, ?_⟩
  refine x_move rfl rfl rfl rfl ?_
  refine x_ext rfl rfl rfl rfl rfl ?_
  refine x_ext rfl rfl rfl rfl rfl ?_
  refine x_ext rfl rfl rfl rfl rfl ?_
  refine x_assign rfl rfl rfl rfl ?_
  refine x_assign rfl rfl rfl rfl ?_
  refine x_assign rfl rfl rfl rfl ?_
  refine Ex.done (hK _ _ ?_)
  refine At.then_n ?_
  refine W.seq ?_
  refine W.seq ?_
  refine W.sub [(0, _), (2, _), (7, _), (8, _), (9, _)] ⟨rfl, rfl, rfl, rfl, rfl, trivial⟩ ?_
  refine W.reg [(0, false), (1, false)] (by kernel_rfl) ?_
  intro K hK
  refine x_move rfl rfl rfl rfl ?_
  refine x_nei _ rfl rfl rfl rfl rfl rfl ?_
  refine Ex.done (hK _ _ ?_)
  refine At.then_n ?_
  refine W.cond rfl (fun hco1 => ?_) (fun hco1 => ?_)
  · try simp only [decide_eq_true_eq, decide_eq_false_iff_not, Bool.not_eq_true', Bool.not_eq_false', beq_iff_eq, bne_iff_ne, ne_eq, Bool.not_eq_eq_eq_not, Bool.not_true, Bool.not_false, beq_eq_false_iff_ne, bne_eq_false_iff_eq, Bool.not_not, gt_iff_lt, ge_iff_le] at hco1
    refine W.seq ?_
    refine W.sub [(9, _)] ⟨rfl, trivial⟩ ?_
    refine W.reg [(0, false), (1, false)] (by kernel_rfl) ?_
    intro K hK
    refine x_move rfl rfl rfl rfl ?_
    refine x_assign rfl rfl rfl rfl ?_
    refine Ex.done (hK _ _ ?_)
    refine At.then_n ?_
    refine W.ret ?_
    refine At.then_r ?_
    refine At.ret1 (.tmp 6) rfl ⟨rfl, trivial⟩ ?_
    unfold putG; rw [if_neg hco1]; exact ⟨E, rfl, rfl, hT, hl, M⟩
  · try simp only [decide_eq_true_eq, decide_eq_false_iff_not, Bool.not_eq_true', Bool.not_eq_false', beq_iff_eq, bne_iff_ne, ne_eq, Bool.not_eq_eq_eq_not, Bool.not_true, Bool.not_false, beq_eq_false_iff_ne, bne_eq_false_iff_eq, Bool.not_not, gt_iff_lt, ge_iff_le] at hco1
    obtain ⟨hse, q, n, d, hqn, hd, hdd, rfl, rfl⟩ := hh hco1
    obtain ⟨hdm, hdp⟩ := ent_mem hd
    have hmap := hT.map d hdm hdd
    rw [hdp] at hmap
    have hPOK := POK_split hse
    rw [hqn] at hPOK
    have hlk : ∀ {w : World}, EAt w E → LkAt strV w d.m n (kids E q n) := fun h => by have := h.lk hT hdm hdd n; rwa [hdp] at this
    unfold putG
    rw [if_pos hco1, hqn]
    refine W.skip ?_
    refine At.then_n ?_
    refine W.seq ?_
    refine W.sub [(0, _), (2, _), (7, _), (8, _)] ⟨rfl, rfl, rfl, rfl, trivial⟩ ?_
    refine W.reg [(0, false), (1, false), (2, false), (3, false), (4, false), (5, false), (6, false), (7, false)] (by kernel_rfl) ?_
    intro K hK
    refine x_move rfl rfl rfl rfl ?_
    refine x_nil rfl rfl rfl rfl rfl ?_
    refine x_fa rfl rfl rfl fo82_1 rfl ?_
    refine x_fa rfl rfl rfl fo80_0 rfl ?_
    refine x_ld rfl rfl rfl Try.underlying78 rfl rfl ((EAt.of' M (fun x hx => by simp [tb, hx])).map hdm hdd) ?_
    refine x_move rfl rfl rfl rfl ?_
    refine x_lk1 (enc := strV) n rfl rfl rfl (strKey Try.underlying9) Try.underlying78 ze61 rfl rfl (hlk (EAt.of' M (fun x hx => by simp [tb, hx]))) ?_
    rw [kids_getD]
    refine x_assign rfl rfl rfl rfl ?_
    refine Ex.done (hK _ _ ?_)
    refine At.then_n ?_
    refine W.seq ?_
    refine W.block ?_
    refine W.seq ?_
    refine W.sub [(0, _), (2, _), (7, _), (8, _), (10, _)] ⟨rfl, rfl, rfl, rfl, rfl, trivial⟩ ?_
    refine W.reg [(0, false), (1, false), (2, false), (3, false), (4, false), (5, false), (6, false), (7, false), (8, false)] (by kernel_rfl) ?_
    intro K hK
    refine x_move rfl rfl rfl rfl ?_
    refine x_nepn (ent E (q ++ [n])).isSome rfl rfl rfl Try.underlying61 rfl rfl (by cases ent E (q ++ [n]) <;> rfl) ?_
    refine x_move rfl rfl rfl rfl ?_
    refine Ex.split 31 rfl (fun hsp1 => ?_) (fun hsp1 => ?_)
    ·
      try simp only [decide_eq_true_eq, decide_eq_false_iff_not, Bool.not_eq_true', Bool.not_eq_false', beq_iff_eq, bne_iff_ne, ne_eq, Bool.not_eq_eq_eq_not, Bool.not_true, Bool.not_false, beq_eq_false_iff_ne, bne_eq_false_iff_eq, Bool.not_not, gt_iff_lt, ge_iff_le] at hsp1
      obtain ⟨k, hk⟩ := Option.isSome_iff_exists.1 hsp1
      obtain ⟨hkm, hkp⟩ := ent_mem hk
      rw [hk]
      refine x_move rfl rfl rfl rfl ?_
      refine x_nil rfl rfl rfl rfl rfl ?_
      refine x_fa rfl rfl rfl fo82_0 rfl ?_
      refine x_ld rfl rfl rfl Try.underlying4 rfl rfl ((EAt.of' M (fun x hx => by simp [tb, hx])).dir hkm) ?_
      refine x_pickT rfl rfl rfl rfl rfl ?_
      refine x_assign rfl rfl rfl rfl ?_
      refine Ex.done (hK _ _ ?_)
      refine At.then_n ?_
      refine W.cond rfl (fun hco2 => ?_) (fun hco2 => ?_)
      · try simp only [decide_eq_true_eq, decide_eq_false_iff_not, Bool.not_eq_true', Bool.not_eq_false', beq_iff_eq, bne_iff_ne, ne_eq, Bool.not_eq_eq_eq_not, Bool.not_true, Bool.not_false, beq_eq_false_iff_ne, bne_eq_false_iff_eq, Bool.not_not, gt_iff_lt, ge_iff_le] at hco2
        refine W.seq ?_
        refine W.sub [] trivial ?_
        refine W.reg [(0, false)] (by kernel_rfl) ?_
        intro K hK
        refine x_assign rfl rfl rfl rfl ?_
        refine Ex.done (hK _ _ ?_)
        refine At.then_n ?_
        refine W.ret ?_
        refine At.blk_r ?_
        refine At.then_r ?_
        refine At.ret1 (.tmp 6) rfl ⟨rfl, trivial⟩ ?_
        rw [absE_at hk, if_pos (show ((some (k.dir, k.data)).getD (false, [])).1 = true from hco2)]; exact ⟨E, rfl, rfl, hT, hl, M⟩
      · try simp only [decide_eq_true_eq, decide_eq_false_iff_not, Bool.not_eq_true', Bool.not_eq_false', beq_iff_eq, bne_iff_ne, ne_eq, Bool.not_eq_eq_eq_not, Bool.not_true, Bool.not_false, beq_eq_false_iff_ne, bne_eq_false_iff_eq, Bool.not_not, gt_iff_lt, ge_iff_le] at hco2
        rw [absE_at hk, if_neg (show ¬ ((some (k.dir, k.data)).getD (false, [])).1 = true by simp [hco2])]
        refine W.seq ?_
        refine W.sub [(0, _), (2, _), (7, _), (8, _), (10, _)] ⟨rfl, rfl, rfl, rfl, rfl, trivial⟩ ?_
        refine W.reg [(0, false), (1, false), (2, false), (3, false)] (by kernel_rfl) ?_
        intro K hK
        refine x_move rfl rfl rfl rfl ?_
        refine x_len rfl rfl rfl rfl Try.underlying23 rfl ?_
        refine x_gtr _ rfl rfl rfl rfl rfl rfl ?_
        refine x_assign rfl rfl rfl rfl ?_
        refine Ex.done (hK _ _ ?_)
        refine At.then_n ?_
        refine W.cond rfl (fun hco3 => ?_) (fun hco3 => ?_)
        · try simp only [decide_eq_true_eq, decide_eq_false_iff_not, Bool.not_eq_true', Bool.not_eq_false', beq_iff_eq, bne_iff_ne, ne_eq, Bool.not_eq_eq_eq_not, Bool.not_true, Bool.not_false, beq_eq_false_iff_ne, bne_eq_false_iff_eq, Bool.not_not, gt_iff_lt, ge_iff_le] at hco3
          refine W.seq ?_
          refine W.sub [] trivial ?_
          refine W.reg [(0, false)] (by kernel_rfl) ?_
          intro K hK
          refine x_assign rfl rfl rfl rfl ?_
          refine Ex.done (hK _ _ ?_)
          refine At.then_n ?_
          refine W.ret ?_
          refine At.blk_r ?_
          refine At.then_r ?_
          refine At.ret1 (.tmp 6) rfl ⟨rfl, trivial⟩ ?_
          rw [if_pos (by omega)]; exact ⟨E, rfl, rfl, hT, hl, M⟩
        · try simp only [decide_eq_true_eq, decide_eq_false_iff_not, Bool.not_eq_true', Bool.not_eq_false', beq_iff_eq, bne_iff_ne, ne_eq, Bool.not_eq_eq_eq_not, Bool.not_true, Bool.not_false, beq_eq_false_iff_ne, bne_eq_false_iff_eq, Bool.not_not, gt_iff_lt, ge_iff_le] at hco3
          rw [if_neg (by omega), if_neg (by simp)]
          refine W.seq ?_
          refine W.sub [(0, _), (2, _), (7, _), (8, _), (10, _)] ⟨rfl, rfl, rfl, rfl, rfl, trivial⟩ ?_
          refine W.reg [(0, false), (1, false), (2, false), (3, false), (4, false), (5, false), (6, false), (7, false), (8, false), (9, false)] (by kernel_rfl) ?_
          intro K hK
          refine x_move rfl rfl rfl rfl ?_
          refine x_eqpn false rfl rfl rfl Try.underlying61 rfl rfl rfl ?_
          refine x_move rfl rfl rfl rfl ?_
          refine Ex.skip_ rfl rfl rfl ?_
          refine Ex.skip_ rfl rfl rfl ?_
          refine Ex.skip_ rfl rfl rfl ?_
          refine Ex.skip_ rfl rfl rfl ?_
          refine Ex.skip_ rfl rfl rfl ?_
          refine x_pickF rfl rfl rfl rfl rfl ?_
          refine x_assign rfl rfl rfl rfl ?_
          refine Ex.done (hK _ _ ?_)
          refine At.then_n ?_
          refine W.condF rfl ?_
          refine W.seq ?_
          refine W.sub [(0, _), (2, _), (7, _), (8, _), (10, _)] ⟨rfl, rfl, rfl, rfl, rfl, trivial⟩ ?_
          refine W.reg [(0, false), (1, false), (2, false)] (by kernel_rfl) ?_
          intro K hK
          refine x_move rfl rfl rfl rfl ?_
          refine x_eqpn false rfl rfl rfl Try.underlying61 rfl rfl rfl ?_
          refine x_assign rfl rfl rfl rfl ?_
          refine Ex.done (hK _ _ ?_)
          refine At.then_n ?_
          refine W.condF rfl ?_
          refine W.skip ?_
          refine At.blk_n ?_
          refine At.then_n ?_
          refine W.seq ?_
          refine W.sub [(2, _), (7, _), (8, _)] ⟨rfl, rfl, rfl, trivial⟩ ?_
          refine W.regD (by kernel_rfl) #[0, 1, 3, 7, 15, 0, 0, 64, 192, 448, 1023] [(0, false), (1, false), (2, false), (3, false), (4, false), (5, false), (6, false), (7, true), (8, false), (9, true), (10, true)] (by kernel_rfl) ?_
          intro K wD1 hK hwD1
          have M := M.drew hwD1
          refine x_move rfl rfl rfl rfl ?_
          refine x_nil rfl rfl rfl rfl rfl ?_
          refine x_fa rfl rfl rfl fo82_1 rfl ?_
          refine x_fa rfl rfl rfl fo80_0 rfl ?_
          refine x_ld rfl rfl rfl Try.underlying78 rfl rfl ((EAt.of' M (fun x hx => by simp [tb, hx])).map hdm hdd) ?_
          refine x_move rfl rfl rfl rfl ?_
          refine x_move rfl rfl rfl rfl ?_
          refine x_call rfl rfl rfl rfl rfl en43 (clone_c (hv _ _ M (fun x hx => by simp [tb, hx])) (by omega)) ?_
          rintro r w2c ⟨Lc, Mc, hbc⟩
          have M := M.grow Mc
          obtain ⟨pc, cc, rfl⟩ := hbc.shape
          refine ⟨⟨.inr ((EAt.of' M (fun x hx => by simp [tb, hx])).map hdm hdd), trivial⟩, ?_⟩
          refine x_build [_, _, _] rfl rfl rfl pl82 ze82 rfl rfl rfl ?_
          refine x_box [_, _, _] rfl rfl rfl rfl rfl ?_
          intro bbx1 wbx1 hbbx1 hwbx1
          have M := M.acons hbbx1 hwbx1
          refine ⟨⟨.inr ((EAt.of' M (fun x hx => by simp [tb, hx])).map hdm hdd), trivial⟩, ?_⟩
          refine x_mup (enc := strV) n rfl rfl rfl (strKey Try.underlying9) Try.underlying78 rfl rfl rfl ((EAt.of' M (fun x hx => by simp [tb, hx])).mp hdm hdd) hmap ?_
          intro omu1 wmu1 hmmu1 hwmu1
          have M := mapput (P := [(bbx1, .cells [.bool false, .map none, .slice pc b.length cc].toArray 82 (0, 0)), (bt, .cells [ndP E [], .int .i64 ((E.length : Int) - 1)].toArray 63 (0, 0))]) (Q := L ++ Lc) (by simpa [tb, Value.cells] using M) hT.nd hd hdd hwmu1
          refine ⟨⟨.inl (by kernel_rfl), trivial⟩, ?_⟩
          refine Ex.done (hK _ _ ?_)
          refine At.then_n ?_
          refine W.seq ?_
          refine W.sub [] trivial ?_
          refine W.reg [(0, false)] (by kernel_rfl) ?_
          intro K hK
          refine x_assign rfl rfl rfl rfl ?_
          refine Ex.done (hK _ _ ?_)
          refine At.then_n ?_
          refine W.ret ?_
          refine At.ret1 (.tmp 6) rfl ⟨rfl, trivial⟩ ?_
          refine ⟨upd E q omu1 n (some ⟨q ++ [n], bbx1, false, 0, .map #[] 0, .slice pc b.length cc, Lc, b⟩), rfl, ?_, ?_, ?_, ?_⟩
          funext r
          rw [absE_upd (fun e he => by cases he; rfl)]
          rfl
          exact hT.upd hd hdd (hT.leaf fun d2 h2 => by rw [hk] at h2; cases h2; simpa using hco2) (fun e he => by cases he; exact ⟨rfl, hPOK, (by simp), ⟨hbc, by show b.length ≤ 65536; omega⟩, (by simp)⟩) hmmu1
          rw [upd_len_same hT.nd hk]; omega
          refine updFin2 M (by simp [blks, Ent.blks, Ent.mp, Ent.hd, Ent.kv]) (fun e he => by cases he; rfl) ?_
          rw [upd_len_same hT.nd hk]
    ·
      try simp only [decide_eq_true_eq, decide_eq_false_iff_not, Bool.not_eq_true', Bool.not_eq_false', beq_iff_eq, bne_iff_ne, ne_eq, Bool.not_eq_eq_eq_not, Bool.not_true, Bool.not_false, beq_eq_false_iff_ne, bne_eq_false_iff_eq, Bool.not_not, gt_iff_lt, ge_iff_le] at hsp1
      have hnone : ent E (q ++ [n]) = none := by cases h : ent E (q ++ [n]) with | none => rfl | some e => rw [h] at hsp1; cases hsp1
      rw [hnone]
      refine Ex.skip_ rfl rfl rfl ?_
      refine Ex.skip_ rfl rfl rfl ?_
      refine Ex.skip_ rfl rfl rfl ?_
      refine Ex.skip_ rfl rfl rfl ?_
      refine x_pickF rfl rfl rfl rfl rfl ?_
      refine x_assign rfl rfl rfl rfl ?_
      refine Ex.done (hK _ _ ?_)
      refine At.then_n ?_
      refine W.condF rfl ?_
      refine W.seq ?_
      refine W.sub [(0, _), (2, _), (7, _), (8, _), (10, _)] ⟨rfl, rfl, rfl, rfl, rfl, trivial⟩ ?_
      refine W.reg [(0, false), (1, false), (2, false), (3, false)] (by kernel_rfl) ?_
      intro K hK
      refine x_move rfl rfl rfl rfl ?_
      refine x_len rfl rfl rfl rfl Try.underlying23 rfl ?_
      refine x_gtr _ rfl rfl rfl rfl rfl rfl ?_
      refine x_assign rfl rfl rfl rfl ?_
      refine Ex.done (hK _ _ ?_)
      refine At.then_n ?_
      refine W.cond rfl (fun hco7 => ?_) (fun hco7 => ?_)
      · try simp only [decide_eq_true_eq, decide_eq_false_iff_not, Bool.not_eq_true', Bool.not_eq_false', beq_iff_eq, bne_iff_ne, ne_eq, Bool.not_eq_eq_eq_not, Bool.not_true, Bool.not_false, beq_eq_false_iff_ne, bne_eq_false_iff_eq, Bool.not_not, gt_iff_lt, ge_iff_le] at hco7
        refine W.seq ?_
        refine W.sub [] trivial ?_
        refine W.reg [(0, false)] (by kernel_rfl) ?_
        intro K hK
        refine x_assign rfl rfl rfl rfl ?_
        refine Ex.done (hK _ _ ?_)
        refine At.then_n ?_
        refine W.ret ?_
        refine At.blk_r ?_
        refine At.then_r ?_
        refine At.ret1 (.tmp 6) rfl ⟨rfl, trivial⟩ ?_
        rw [absE_none.2 hnone, if_neg (by simp), if_pos (by omega)]; exact ⟨E, rfl, rfl, hT, hl, M⟩
      · try simp only [decide_eq_true_eq, decide_eq_false_iff_not, Bool.not_eq_true', Bool.not_eq_false', beq_iff_eq, bne_iff_ne, ne_eq, Bool.not_eq_eq_eq_not, Bool.not_true, Bool.not_false, beq_eq_false_iff_ne, bne_eq_false_iff_eq, Bool.not_not, gt_iff_lt, ge_iff_le] at hco7
        rw [absE_none.2 hnone, if_neg (by simp), if_neg (by omega)]
        refine W.seq ?_
        refine W.sub [(0, _), (2, _), (7, _), (8, _), (10, _)] ⟨rfl, rfl, rfl, rfl, rfl, trivial⟩ ?_
        refine W.reg [(0, false), (1, false), (2, false), (3, false), (4, false), (5, false), (6, false), (7, false), (8, false), (9, false)] (by kernel_rfl) ?_
        intro K hK
        refine x_move rfl rfl rfl rfl ?_
        refine x_eqpn true rfl rfl rfl Try.underlying61 rfl rfl rfl ?_
        refine x_move rfl rfl rfl rfl ?_
        refine x_move rfl rfl rfl rfl ?_
        refine x_nil rfl rfl rfl rfl rfl ?_
        refine x_fa rfl rfl rfl fo63_1 rfl ?_
        refine x_ld rfl rfl rfl Try.underlying3 rfl rfl (cell_of (M.at_ 0 rfl) rfl) ?_
        refine x_eqi _ rfl rfl rfl rfl rfl rfl ?_
        refine x_pickT rfl rfl rfl rfl rfl ?_
        refine x_assign rfl rfl rfl rfl ?_
        refine Ex.done (hK _ _ ?_)
        refine At.then_n ?_
        refine W.cond rfl (fun hco8 => ?_) (fun hco8 => ?_)
        · try simp only [decide_eq_true_eq, decide_eq_false_iff_not, Bool.not_eq_true', Bool.not_eq_false', beq_iff_eq, bne_iff_ne, ne_eq, Bool.not_eq_eq_eq_not, Bool.not_true, Bool.not_false, beq_eq_false_iff_ne, bne_eq_false_iff_eq, Bool.not_not, gt_iff_lt, ge_iff_le] at hco8
          refine W.seq ?_
          refine W.sub [] trivial ?_
          refine W.reg [(0, false)] (by kernel_rfl) ?_
          intro K hK
          refine x_assign rfl rfl rfl rfl ?_
          refine Ex.done (hK _ _ ?_)
          refine At.then_n ?_
          refine W.ret ?_
          refine At.blk_r ?_
          refine At.then_r ?_
          refine At.ret1 (.tmp 6) rfl ⟨rfl, trivial⟩ ?_
          rw [if_pos ⟨rfl, by simp; omega⟩]; exact ⟨E, rfl, rfl, hT, hl, M⟩
        · try simp only [decide_eq_true_eq, decide_eq_false_iff_not, Bool.not_eq_true', Bool.not_eq_false', beq_iff_eq, bne_iff_ne, ne_eq, Bool.not_eq_eq_eq_not, Bool.not_true, Bool.not_false, beq_eq_false_iff_ne, bne_eq_false_iff_eq, Bool.not_not, gt_iff_lt, ge_iff_le] at hco8
          rw [if_neg (fun h => by have := h.2; simp at this; omega)]
          refine W.seq ?_
          refine W.sub [(0, _), (2, _), (7, _), (8, _), (10, _)] ⟨rfl, rfl, rfl, rfl, rfl, trivial⟩ ?_
          refine W.reg [(0, false), (1, false), (2, false)] (by kernel_rfl) ?_
          intro K hK
          refine x_move rfl rfl rfl rfl ?_
          refine x_eqpn true rfl rfl rfl Try.underlying61 rfl rfl rfl ?_
          refine x_assign rfl rfl rfl rfl ?_
          refine Ex.done (hK _ _ ?_)
          refine At.then_n ?_
          refine W.condT rfl ?_
          refine W.sub [(0, _), (2, _), (7, _), (8, _)] ⟨rfl, rfl, rfl, rfl, trivial⟩ ?_
          refine W.reg [(0, false), (1, false), (2, false), (3, false), (4, false), (5, false), (6, false), (7, true)] (by kernel_rfl) ?_
          intro K hK
          refine x_move rfl rfl rfl rfl ?_
          refine x_nil rfl rfl rfl rfl rfl ?_
          refine x_fa rfl rfl rfl fo63_1 rfl ?_
          refine x_ld rfl rfl rfl Try.underlying3 rfl rfl (cell_of (M.at_ 0 rfl) rfl) ?_
          refine x_add _ rfl rfl rfl rfl rfl (wadd (by omega) (by omega)) ?_
          refine x_nil rfl rfl rfl rfl rfl ?_
          refine x_fa rfl rfl rfl fo63_1 rfl ?_
          refine x_st [_] _ rfl rfl rfl sz3 rfl rfl rfl rfl (by first | exact M.at_ 0 rfl | exact M.at_ 1 rfl | exact M.at_ 2 rfl | exact M.at_ 3 rfl | exact M.at_ 4 rfl | exact M.at_ 5 rfl | exact M.at_ 6 rfl | exact M.at_ 7 rfl) rfl rfl rfl ?_
          intro wst1 hwst1
          have M := by first | exact M.put 0 rfl hwst1 | exact M.put 1 rfl hwst1 | exact M.put 2 rfl hwst1 | exact M.put 3 rfl hwst1 | exact M.put 4 rfl hwst1 | exact M.put 5 rfl hwst1 | exact M.put 6 rfl hwst1 | exact M.put 7 rfl hwst1
          refine ⟨trivial, ?_⟩
          refine Ex.done (hK _ _ ?_)
          refine At.blk_n ?_
          refine At.then_n ?_
          refine W.seq ?_
          refine W.sub [(2, _), (7, _), (8, _)] ⟨rfl, rfl, rfl, trivial⟩ ?_
          refine W.regD (by kernel_rfl) #[0, 1, 3, 7, 15, 0, 0, 64, 192, 448, 1023] [(0, false), (1, false), (2, false), (3, false), (4, false), (5, false), (6, false), (7, true), (8, false), (9, true), (10, true)] (by kernel_rfl) ?_
          intro K wD2 hK hwD2
          have M := M.drew hwD2
          refine x_move rfl rfl rfl rfl ?_
          refine x_nil rfl rfl rfl rfl rfl ?_
          refine x_fa rfl rfl rfl fo82_1 rfl ?_
          refine x_fa rfl rfl rfl fo80_0 rfl ?_
          refine x_ld rfl rfl rfl Try.underlying78 rfl rfl ((EAt.of' M (fun x hx => by simp [tb, hx])).map hdm hdd) ?_
          refine x_move rfl rfl rfl rfl ?_
          refine x_move rfl rfl rfl rfl ?_
          refine x_call rfl rfl rfl rfl rfl en43 (clone_c (hv _ _ M (fun x hx => by simp [tb, hx])) (by omega)) ?_
          rintro r w3c ⟨Lc, Mc, hbc⟩
          have M := M.grow Mc
          obtain ⟨pc, cc, rfl⟩ := hbc.shape
          refine ⟨⟨.inr ((EAt.of' M (fun x hx => by simp [tb, hx])).map hdm hdd), trivial⟩, ?_⟩
          refine x_build [_, _, _] rfl rfl rfl pl82 ze82 rfl rfl rfl ?_
          refine x_box [_, _, _] rfl rfl rfl rfl rfl ?_
          intro bbx2 wbx2 hbbx2 hwbx2
          have M := M.acons hbbx2 hwbx2
          refine ⟨⟨.inr ((EAt.of' M (fun x hx => by simp [tb, hx])).map hdm hdd), trivial⟩, ?_⟩
          refine x_mup (enc := strV) n rfl rfl rfl (strKey Try.underlying9) Try.underlying78 rfl rfl rfl ((EAt.of' M (fun x hx => by simp [tb, hx])).mp hdm hdd) hmap ?_
          intro omu2 wmu2 hmmu2 hwmu2
          have M := mapput (P := [(bbx2, .cells [.bool false, .map none, .slice pc b.length cc].toArray 82 (0, 0)), (bt, .cells [ndP E [], .int .i64 ((E.length : Int) - 1 + 1)].toArray 63 (0, 0))]) (Q := L ++ Lc) (by simpa [tb, Value.cells] using M) hT.nd hd hdd hwmu2
          refine ⟨⟨.inl (by kernel_rfl), trivial⟩, ?_⟩
          refine Ex.done (hK _ _ ?_)
          refine At.then_n ?_
          refine W.seq ?_
          refine W.sub [] trivial ?_
          refine W.reg [(0, false)] (by kernel_rfl) ?_
          intro K hK
          refine x_assign rfl rfl rfl rfl ?_
          refine Ex.done (hK _ _ ?_)
          refine At.then_n ?_
          refine W.ret ?_
          refine At.ret1 (.tmp 6) rfl ⟨rfl, trivial⟩ ?_
          refine ⟨upd E q omu2 n (some ⟨q ++ [n], bbx2, false, 0, .map #[] 0, .slice pc b.length cc, Lc, b⟩), rfl, ?_, ?_, ?_, ?_⟩
          funext r
          rw [absE_upd (fun e he => by cases he; rfl)]
          rfl
          exact hT.upd hd hdd (hT.leaf fun d2 h2 => by rw [hnone] at h2; cases h2) (fun e he => by cases he; exact ⟨rfl, hPOK, (by simp), ⟨hbc, by show b.length ≤ 65536; omega⟩, (by simp)⟩) hmmu2
          rw [upd_len_new hnone]; omega
          refine updFin2 M (by simp [blks, Ent.blks, Ent.mp, Ent.hd, Ent.kv]) (fun e he => by cases he; rfl) ?_
          rw [upd_len_new hnone]; simp
end Go.Proofs.Ytccfmfehfhfhhaa

namespace Go.Proofs.Ytccfmfehfhfhhaa
open Go Go.Fw Go.RowKit Go.Proofs
set_option linter.unusedVariables false
set_option linter.unusedSimpArgs false

set_option maxRecDepth 100000 in
theorem remove_c {w0 : World} {w00 : World} {bt : Nat} {E : List Ent} {L : List (Nat × Obj)} {p : List UInt8} (M : Sep w00 (tb bt E ++ L) w0) (hT : TI E) (hl : E.length ≤ 129)  : Ret Try.prog 21 #[ptr bt, strV p] w0 fun r w' => ∃ E', r = .int .i64 (removeG (absE E) p).1 ∧ absE E' = (removeG (absE E) p).2 ∧ TI E' ∧ E'.length ≤ 129 ∧ Sep w00 (tb bt E' ++ L) w' := by
  have hA := TrA.of hT M
  obtain ⟨rt, hrt, _⟩ := hT.root
  refine Ret.of_W Try.func21 rfl Try.ntmps21 rfl ?_
  refine W.seq ?_
  refine W.sub [(0, _), (1, _)] ⟨rfl, rfl, trivial⟩ ?_
  refine W.reg [(0, false)] (by kernel_rfl) ?_
  intro K hK
  refine x_assign rfl rfl rfl rfl ?_
  refine Ex.done (hK _ _ ?_)
  refine At.then_n ?_
  refine W.seq ?_
  refine W.sub [(0, _), (1, _)] ⟨rfl, rfl, trivial⟩ ?_
  refine W.reg [(0, false), (1, false), (2, true), (3, false), (4, false), (5, false), (6, false), (7, false)] (by kernel_rfl) ?_
  intro K hK
  refine x_move rfl rfl rfl rfl ?_
  refine x_move rfl rfl rfl rfl ?_
  refine x_call rfl rfl rfl rfl rfl en44 (find_c hA) ?_
  rintro r w1 ⟨⟨nd, rfl, hh⟩, hn1⟩
  have M := M.new hn1
  refine ⟨trivial, ?_⟩
  refine x_move rfl rfl rfl rfl ?_
  refine x_ext rfl rfl rfl rfl rfl ?_
  refine x_ext rfl rfl rfl rfl rfl ?_
  refine x_assign rfl rfl rfl rfl ?_
  refine x_assign rfl rfl rfl rfl ?_
  refine Ex.done (hK _ _ ?_)
  refine At.then_n ?_
  refine W.seq ?_
  refine W.block ?_
  refine W.seq ?_
  refine W.sub [(0, _), (1, _), (5, _), (6, _)] ⟨rfl, rfl, rfl, rfl, trivial⟩ ?_
  refine W.reg [(0, false), (1, false), (2, false)] (by kernel_rfl) ?_
  intro K hK
  refine x_move rfl rfl rfl rfl ?_
  refine x_nei _ rfl rfl rfl rfl rfl rfl ?_
  refine x_assign rfl rfl rfl rfl ?_
  refine Ex.done (hK _ _ ?_)
  refine At.then_n ?_
  refine W.cond rfl (fun hco1 => ?_) (fun hco1 => ?_)
  · try simp only [decide_eq_true_eq, decide_eq_false_iff_not, Bool.not_eq_true', Bool.not_eq_false', beq_iff_eq, bne_iff_ne, ne_eq, Bool.not_eq_eq_eq_not, Bool.not_true, Bool.not_false, beq_eq_false_iff_ne, bne_eq_false_iff_eq, Bool.not_not, gt_iff_lt, ge_iff_le] at hco1
    refine W.seq ?_
    refine W.sub [(6, _)] ⟨rfl, trivial⟩ ?_
    refine W.reg [(0, false), (1, false)] (by kernel_rfl) ?_
    intro K hK
    refine x_move rfl rfl rfl rfl ?_
    refine x_assign rfl rfl rfl rfl ?_
    refine Ex.done (hK _ _ ?_)
    refine At.then_n ?_
    refine W.ret ?_
    refine At.blk_r ?_
    refine At.then_r ?_
    refine At.ret1 (.tmp 4) rfl ⟨rfl, trivial⟩ ?_
    unfold removeG; rw [if_neg hco1]; exact ⟨E, rfl, rfl, hT, hl, M⟩
  · try simp only [decide_eq_true_eq, decide_eq_false_iff_not, Bool.not_eq_true', Bool.not_eq_false', beq_iff_eq, bne_iff_ne, ne_eq, Bool.not_eq_eq_eq_not, Bool.not_true, Bool.not_false, beq_eq_false_iff_ne, bne_eq_false_iff_eq, Bool.not_not, gt_iff_lt, ge_iff_le] at hco1
    unfold removeG
    rw [if_pos hco1]
    obtain rfl := hh hco1
    obtain ⟨hse, e, he⟩ := findG_ent hT hrt hco1
    obtain ⟨mb, len, hkv, hlen, hemp⟩ := kvLen hT he
    have hnd : ndP E (splitN p) = ptr e.b := by unfold ndP; rw [he]; rfl
    rw [hnd]
    obtain ⟨hem, hep⟩ := ent_mem he
    refine W.seq ?_
    refine W.sub [(0, _), (1, _), (5, _)] ⟨rfl, rfl, rfl, trivial⟩ ?_
    refine W.reg [(0, false), (1, false), (2, false), (3, false), (4, false), (5, false), (6, false), (7, false), (8, false), (9, false), (10, false), (11, false)] (by kernel_rfl) ?_
    intro K hK
    refine x_move rfl rfl rfl rfl ?_
    refine x_eqS _ rfl rfl rfl rfl rfl rfl ?_
    refine x_move rfl rfl rfl rfl ?_
    refine Ex.split 23 rfl (fun hsp1 => ?_) (fun hsp1 => ?_)
    ·
      try simp only [decide_eq_true_eq, decide_eq_false_iff_not, Bool.not_eq_true', Bool.not_eq_false', beq_iff_eq, bne_iff_ne, ne_eq, Bool.not_eq_eq_eq_not, Bool.not_true, Bool.not_false, beq_eq_false_iff_ne, bne_eq_false_iff_eq, Bool.not_not, gt_iff_lt, ge_iff_le] at hsp1
      refine Ex.skip_ rfl rfl rfl ?_
      refine Ex.skip_ rfl rfl rfl ?_
      refine Ex.skip_ rfl rfl rfl ?_
      refine Ex.skip_ rfl rfl rfl ?_
      refine Ex.skip_ rfl rfl rfl ?_
      refine Ex.skip_ rfl rfl rfl ?_
      refine Ex.skip_ rfl rfl rfl ?_
      refine x_pickT rfl rfl rfl rfl rfl ?_
      refine x_assign rfl rfl rfl rfl ?_
      refine Ex.done (hK _ _ ?_)
      refine At.then_n ?_
      refine W.condT rfl ?_
      refine W.seq ?_
      refine W.sub [] trivial ?_
      refine W.reg [(0, false)] (by kernel_rfl) ?_
      intro K hK
      refine x_assign rfl rfl rfl rfl ?_
      refine Ex.done (hK _ _ ?_)
      refine At.then_n ?_
      refine W.ret ?_
      refine At.blk_r ?_
      refine At.then_r ?_
      refine At.ret1 (.tmp 4) rfl ⟨rfl, trivial⟩ ?_
      rw [if_pos (.inl hsp1)]; exact ⟨E, rfl, rfl, hT, hl, M⟩
    ·
      try simp only [decide_eq_true_eq, decide_eq_false_iff_not, Bool.not_eq_true', Bool.not_eq_false', beq_iff_eq, bne_iff_ne, ne_eq, Bool.not_eq_eq_eq_not, Bool.not_true, Bool.not_false, beq_eq_false_iff_ne, bne_eq_false_iff_eq, Bool.not_not, gt_iff_lt, ge_iff_le] at hsp1
      refine x_move rfl rfl rfl rfl ?_
      refine x_nil rfl rfl rfl rfl rfl ?_
      refine x_fa rfl rfl rfl fo82_1 rfl ?_
      refine x_fa rfl rfl rfl fo80_0 rfl ?_
      refine x_ld rfl rfl rfl Try.underlying78 rfl rfl (by have := (EAt.of' M (fun x hx => by simp [tb, hx])).kv hem; rw [hkv] at this; exact this) ?_
      refine x_lenm len rfl rfl rfl rfl Try.underlying78 rfl (hlen (EAt.of' M (fun x hx => by simp [tb, hx]))) ?_
      refine x_gtr _ rfl rfl rfl rfl rfl rfl ?_
      refine x_pickF rfl rfl rfl rfl rfl ?_
      refine x_assign rfl rfl rfl rfl ?_
      refine Ex.done (hK _ _ ?_)
      refine At.then_n ?_
      refine W.cond rfl (fun hco3 => ?_) (fun hco3 => ?_)
      · try simp only [decide_eq_true_eq, decide_eq_false_iff_not, Bool.not_eq_true', Bool.not_eq_false', beq_iff_eq, bne_iff_ne, ne_eq, Bool.not_eq_eq_eq_not, Bool.not_true, Bool.not_false, beq_eq_false_iff_ne, bne_eq_false_iff_eq, Bool.not_not, gt_iff_lt, ge_iff_le] at hco3
        refine W.seq ?_
        refine W.sub [] trivial ?_
        refine W.reg [(0, false)] (by kernel_rfl) ?_
        intro K hK
        refine x_assign rfl rfl rfl rfl ?_
        refine Ex.done (hK _ _ ?_)
        refine At.then_n ?_
        refine W.ret ?_
        refine At.blk_r ?_
        refine At.then_r ?_
        refine At.ret1 (.tmp 4) rfl ⟨rfl, trivial⟩ ?_
        rw [if_pos (.inr fun h => by have := hemp.2 h; omega)]; exact ⟨E, rfl, rfl, hT, hl, M⟩
      · try simp only [decide_eq_true_eq, decide_eq_false_iff_not, Bool.not_eq_true', Bool.not_eq_false', beq_iff_eq, bne_iff_ne, ne_eq, Bool.not_eq_eq_eq_not, Bool.not_true, Bool.not_false, beq_eq_false_iff_ne, bne_eq_false_iff_eq, Bool.not_not, gt_iff_lt, ge_iff_le] at hco3
        have hem0 : emptyG (absE E) (splitN p) := hemp.1 (by omega)
        rw [if_neg (fun h => h.elim hsp1 (fun h => h hem0))]
        have hn0 : splitN p ≠ [] := fun h => hsp1 (by rcases splitN_facts hse with ⟨h1, _⟩ | ⟨_, h2, _⟩; exact h1; rw [h2] at h; exact absurd h (splitS_ne p))
        have hA := TrA.of hT M
        refine W.skip ?_
        refine At.blk_n ?_
        refine At.then_n ?_
        refine W.seq ?_
        refine W.sub [(0, _), (1, _)] ⟨rfl, rfl, trivial⟩ ?_
        refine W.reg [(0, false), (1, false), (2, true), (3, false), (4, false), (5, false), (6, false), (7, false), (8, false), (9, false)] (by kernel_rfl) ?_
        intro K hK
        refine x_move rfl rfl rfl rfl ?_
        refine x_move rfl rfl rfl rfl ?_
        refine x_call rfl rfl rfl rfl rfl en41 (home_c hA (by decide)) ?_
        rintro r w2 ⟨⟨nd2, nm, rfl, hh2⟩, hn2⟩
        have M := M.new hn2
        obtain ⟨_, q, n, d, hqn, hd, hdd, rfl, rfl⟩ := hh2 (home_found hT hse hn0 he)
        obtain ⟨hdm, hdp⟩ := ent_mem hd
        have hmap := hT.map d hdm hdd
        rw [hdp] at hmap
        refine ⟨trivial, ?_⟩
        refine x_move rfl rfl rfl rfl ?_
        refine x_ext rfl rfl rfl rfl rfl ?_
        refine x_ext rfl rfl rfl rfl rfl ?_
        refine x_ext rfl rfl rfl rfl rfl ?_
        refine x_assign rfl rfl rfl rfl ?_
        refine x_assign rfl rfl rfl rfl ?_
        refine x_assign rfl rfl rfl rfl ?_
        refine Ex.done (hK _ _ ?_)
        refine At.then_n ?_
        refine W.seq ?_
        refine W.sub [(0, _), (7, _), (8, _)] ⟨rfl, rfl, rfl, trivial⟩ ?_
        refine W.reg [(0, false), (1, false), (2, false), (3, false), (4, false), (5, false), (6, true)] (by kernel_rfl) ?_
        intro K hK
        refine x_move rfl rfl rfl rfl ?_
        refine x_nil rfl rfl rfl rfl rfl ?_
        refine x_fa rfl rfl rfl fo82_1 rfl ?_
        refine x_fa rfl rfl rfl fo80_0 rfl ?_
        refine x_ld rfl rfl rfl Try.underlying78 rfl rfl ((EAt.of' M (fun x hx => by simp [tb, hx])).map hdm hdd) ?_
        refine x_move rfl rfl rfl rfl ?_
        refine x_del (enc := strV) n rfl rfl rfl (strKey Try.underlying9) Try.underlying78 rfl rfl rfl ((EAt.of' M (fun x hx => by simp [tb, hx])).mp hdm hdd) hmap ?_
        intro ode1 wde1 hmde1 hwde1
        have M := mapput (P := [_]) (Q := L) (by simpa [tb] using M) hT.nd hd hdd hwde1
        refine ⟨trivial, ?_⟩
        refine Ex.done (hK _ _ ?_)
        refine At.then_n ?_
        refine W.seq ?_
        refine W.sub [(0, _)] ⟨rfl, trivial⟩ ?_
        refine W.reg [(0, false), (1, false), (2, false), (3, false), (4, false), (5, false), (6, false), (7, true)] (by kernel_rfl) ?_
        intro K hK
        refine x_move rfl rfl rfl rfl ?_
        refine x_nil rfl rfl rfl rfl rfl ?_
        refine x_fa rfl rfl rfl fo63_1 rfl ?_
        refine x_ld rfl rfl rfl Try.underlying3 rfl rfl (cell_of (M.at_ 0 rfl) rfl) ?_
        refine x_sub _ rfl rfl rfl rfl rfl (wsub (by omega) (by omega)) ?_
        refine x_nil rfl rfl rfl rfl rfl ?_
        refine x_fa rfl rfl rfl fo63_1 rfl ?_
        refine x_st [_] _ rfl rfl rfl sz3 rfl rfl rfl rfl (by first | exact M.at_ 0 rfl | exact M.at_ 1 rfl | exact M.at_ 2 rfl | exact M.at_ 3 rfl | exact M.at_ 4 rfl | exact M.at_ 5 rfl | exact M.at_ 6 rfl | exact M.at_ 7 rfl) rfl rfl rfl ?_
        intro wst1 hwst1
        have M := by first | exact M.put 0 rfl hwst1 | exact M.put 1 rfl hwst1 | exact M.put 2 rfl hwst1 | exact M.put 3 rfl hwst1 | exact M.put 4 rfl hwst1 | exact M.put 5 rfl hwst1 | exact M.put 6 rfl hwst1 | exact M.put 7 rfl hwst1
        refine ⟨trivial, ?_⟩
        refine Ex.done (hK _ _ ?_)
        refine At.then_n ?_
        refine W.seq ?_
        refine W.sub [] trivial ?_
        refine W.reg [(0, false)] (by kernel_rfl) ?_
        intro K hK
        refine x_assign rfl rfl rfl rfl ?_
        refine Ex.done (hK _ _ ?_)
        refine At.then_n ?_
        refine W.ret ?_
        refine At.ret1 (.tmp 4) rfl ⟨rfl, trivial⟩ ?_
        rw [hqn] at hem0 he ⊢
        refine ⟨upd E q ode1 n none, rfl, ?_, ?_, ?_, ?_⟩
        funext r
        rw [absE_upd (fun e he => by cases he)]
        rfl
        exact hT.upd hd hdd (fun k => absE_none.1 (hem0 k)) (fun e he => by cases he) hmde1
        have := upd_len_rm (o' := ode1) hT.nd he; omega
        refine updFin (N := []) (by simpa using M) (List.Perm.refl _) (fun e he => by cases he) ?_
        have := upd_len_rm (o' := ode1) hT.nd he; omega
end Go.Proofs.Ytccfmfehfhfhhaa
