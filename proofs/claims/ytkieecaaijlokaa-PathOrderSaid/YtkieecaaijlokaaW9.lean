/-
  The walk of functions, by program: lastidxS, lastidx, hasprefS, haspref.
-/
import Derived.Test.YtkieecaaijlokaaP4
import Derived.Test.YtkieecaaijlokaaW1
namespace Go.Proofs.Ytkieecaaijlokaa
open Go Go.Fw Go.RowKit Go.Proofs
set_option linter.unusedVariables false
set_option linter.unusedSimpArgs false

-- internal/bytealg.LastIndexByteString
set_option maxRecDepth 100000 in
theorem lastidxS_c {w0 : World} {s : List UInt8} {c : UInt8} (hl : s.length ≤ 9223372036854775807) : Ret Try.prog 45 #[strV s, .int .u8 (c.toNat : Int)] w0 fun r w' => (∃ z, r = .int .i64 z ∧ LastAt s c z) ∧ New w0 w' := by
  have M : Sep w0 [] w0 := St.nil w0
  refine Ret.of_W Try.func45 rfl Try.ntmps45 rfl ?_
  refine W.seq ?_
  refine W.sub [(0, _), (1, _)] ⟨rfl, rfl, trivial⟩ ?_
  refine W.reg [(0, false)] (by kernel_rfl) ?_ -- region 0
  intro K hK
  refine x_assign rfl rfl rfl rfl ?_
  refine Ex.done (hK _ _ ?_)
  refine At.then_n ?_
  refine W.seq ?_
  refine W.seq ?_
  refine W.sub [(0, _), (1, _)] ⟨rfl, rfl, trivial⟩ ?_
  refine W.reg [(0, false), (1, false), (2, false), (3, false)] (by kernel_rfl) ?_ -- region 1
  intro K hK
  refine x_move rfl rfl rfl rfl ?_
  refine x_lenS rfl rfl rfl rfl Try.underlying9 rfl ?_
  refine x_sub _ rfl rfl rfl rfl rfl (wsub (by omega) (by omega)) ?_ -- ar1 lastindexbyte_generic.go:17
  refine x_assign rfl rfl rfl rfl ?_
  refine Ex.done (hK _ _ ?_)
  refine At.then_n ?_
  refine W.block ?_
  refine W.loop (σ := Nat) (fun q => [(0, _), (1, _), (5, .int .i64 ((q : Int) - 1))]) (fun q w => q ≤ s.length ∧ c ∉ s.drop q ∧ Sep w0 [] w) (fun q => q) s.length ⟨rfl, rfl, rfl, trivial⟩ ⟨Nat.le_refl _, by simp, M⟩ ?_ -- loop1
  rintro q w ⟨hq, hno, M⟩
  refine W.seq ?_
  refine W.seq ?_
  refine W.sub [(0, _), (1, _), (5, _)] ⟨rfl, rfl, rfl, trivial⟩ ?_
  refine W.reg [(0, false), (1, false)] (by kernel_rfl) ?_ -- region 2
  intro K hK
  refine x_move rfl rfl rfl rfl ?_
  refine x_geq _ rfl rfl rfl rfl rfl rfl ?_ -- cm1 lastindexbyte_generic.go:17
  refine Ex.done (hK _ _ ?_)
  refine At.then_n ?_
  refine W.cond rfl (fun hco1 => ?_) (fun hco1 => ?_) -- co1
  · try simp only [decide_eq_true_eq, decide_eq_false_iff_not, Bool.not_eq_true', Bool.not_eq_false', beq_iff_eq, bne_iff_ne, ne_eq, Bool.not_eq_eq_eq_not, Bool.not_true, Bool.not_false, beq_eq_false_iff_ne, bne_eq_false_iff_eq, Bool.not_not, gt_iff_lt, ge_iff_le] at hco1
    obtain ⟨t, rfl⟩ : ∃ t, q = t + 1 := ⟨q - 1, by omega⟩
    obtain ⟨d, hd⟩ := get_lt (l := s) (q := t) (by omega)
    refine W.skip ?_
    refine At.then_n ?_
    refine W.seq ?_
    refine W.block ?_
    refine W.seq ?_
    refine W.sub [(0, _), (1, _), (5, _)] ⟨rfl, rfl, rfl, trivial⟩ ?_
    refine W.reg [(0, false), (1, false), (2, false), (3, false), (4, false)] (by kernel_rfl) ?_ -- region 4
    intro K hK
    refine x_move rfl rfl rfl rfl ?_
    refine x_move rfl rfl rfl rfl ?_
    refine x_ixS t rfl rfl rfl Try.underlying9 rfl rfl (by omega) hd ?_ -- ix1 lastindexbyte_generic.go:18
    refine x_move rfl rfl rfl rfl ?_
    refine x_eqi _ rfl rfl rfl rfl rfl rfl ?_ -- eq1 lastindexbyte_generic.go:18
    refine Ex.done (hK _ _ ?_)
    refine At.then_n ?_
    refine W.cond rfl (fun hco2 => ?_) (fun hco2 => ?_) -- co2
    · try simp only [decide_eq_true_eq, decide_eq_false_iff_not, Bool.not_eq_true', Bool.not_eq_false', beq_iff_eq, bne_iff_ne, ne_eq, Bool.not_eq_eq_eq_not, Bool.not_true, Bool.not_false, beq_eq_false_iff_ne, bne_eq_false_iff_eq, Bool.not_not, gt_iff_lt, ge_iff_le] at hco2
      refine W.seq ?_
      refine W.sub [(5, _)] ⟨rfl, trivial⟩ ?_
      refine W.reg [(0, false), (1, false)] (by kernel_rfl) ?_ -- region 5
      intro K hK
      refine x_move rfl rfl rfl rfl ?_
      refine x_assign rfl rfl rfl rfl ?_
      refine Ex.done (hK _ _ ?_)
      refine At.then_n ?_
      refine W.ret ?_
      refine At.blk_r ?_
      refine At.then_r ?_
      refine At.loop_r ?_
      refine At.blk_r ?_
      refine At.then_r ?_
      refine At.ret1 (.tmp 4) rfl ⟨rfl, trivial⟩ ?_ -- ret1
      have hdc : d = c := UInt8.toNat_inj.1 (by omega)
      subst hdc
      refine ⟨⟨_, rfl, .inr ⟨s.take t, s.drop (t + 1), ?_, hno, by simp; omega⟩⟩, M.frm⟩
      obtain ⟨l1, e1⟩ := (List.getElem?_eq_some_iff.1 hd)
      rw [← e1, ← List.drop_eq_getElem_cons l1, List.take_append_drop]
    · try simp only [decide_eq_true_eq, decide_eq_false_iff_not, Bool.not_eq_true', Bool.not_eq_false', beq_iff_eq, bne_iff_ne, ne_eq, Bool.not_eq_eq_eq_not, Bool.not_true, Bool.not_false, beq_eq_false_iff_ne, bne_eq_false_iff_eq, Bool.not_not, gt_iff_lt, ge_iff_le] at hco2
      refine W.skip ?_
      refine At.blk_n ?_
      refine At.then_n ?_
      refine W.sub [(0, _), (1, _), (5, _)] ⟨rfl, rfl, rfl, trivial⟩ ?_
      refine W.reg [(0, false), (1, false), (2, false)] (by kernel_rfl) ?_ -- region 3
      intro K hK
      refine x_move rfl rfl rfl rfl ?_
      refine x_sub ((t : Int) - 1) rfl rfl rfl rfl rfl (by rw [w64 (by omega) (by omega)]; omega) ?_ -- ar2 lastindexbyte_generic.go:17
      refine x_assign rfl rfl rfl rfl ?_
      refine Ex.done (hK _ _ ?_)
      -- bk1: back to loop1
      exact At.back (t) ⟨rfl, rfl, rfl, trivial⟩ ⟨by omega, by
        obtain ⟨l1, e1⟩ := (List.getElem?_eq_some_iff.1 hd)
        rw [List.drop_eq_getElem_cons l1, e1, List.mem_cons, not_or]
        exact ⟨fun e => by subst e; simp at hco2, hno⟩, M⟩ (by first | omega | (simp only; omega) | (simp; done) | (simp; omega))
  · try simp only [decide_eq_true_eq, decide_eq_false_iff_not, Bool.not_eq_true', Bool.not_eq_false', beq_iff_eq, bne_iff_ne, ne_eq, Bool.not_eq_eq_eq_not, Bool.not_true, Bool.not_false, beq_eq_false_iff_ne, bne_eq_false_iff_eq, Bool.not_not, gt_iff_lt, ge_iff_le] at hco1
    refine W.exit ?_
    refine At.then_x ?_
    refine At.loop_x ?_
    refine At.blk_x ?_
    refine At.then_n ?_
    refine W.seq ?_
    refine W.sub [] trivial ?_
    refine W.reg [(0, false)] (by kernel_rfl) ?_ -- region 6
    intro K hK
    refine x_assign rfl rfl rfl rfl ?_
    refine Ex.done (hK _ _ ?_)
    refine At.then_n ?_
    refine W.ret ?_
    refine At.ret1 (.tmp 4) rfl ⟨rfl, trivial⟩ ?_ -- ret2
    have hq0 : q = 0 := by omega
    subst hq0; exact ⟨⟨_, rfl, .inl ⟨rfl, by simpa using hno⟩⟩, M.frm⟩

-- strings.LastIndexByte
set_option maxRecDepth 100000 in
theorem lastidx_c {w0 : World} {s : List UInt8} {c : UInt8} (hl : s.length ≤ 9223372036854775807) : Ret Try.prog 34 #[strV s, .int .u8 (c.toNat : Int)] w0 fun r w' => (∃ z, r = .int .i64 z ∧ LastAt s c z) ∧ New w0 w' := by
  have M : Sep w0 [] w0 := St.nil w0
  refine Ret.of_W Try.func34 rfl Try.ntmps34 rfl ?_
  refine W.seq ?_
  refine W.sub [(0, _), (1, _)] ⟨rfl, rfl, trivial⟩ ?_
  refine W.reg [(0, false)] (by kernel_rfl) ?_ -- region 0
  intro K hK
  refine x_assign rfl rfl rfl rfl ?_
  refine Ex.done (hK _ _ ?_)
  refine At.then_n ?_
  refine W.seq ?_
  refine W.sub [(0, _), (1, _)] ⟨rfl, rfl, trivial⟩ ?_
  refine W.reg [(0, false), (1, false), (2, true), (3, false)] (by kernel_rfl) ?_ -- region 1
  intro K hK
  refine x_move rfl rfl rfl rfl ?_
  refine x_move rfl rfl rfl rfl ?_
  -- call1: internal/bytealg.LastIndexByteString strings.go:269
  refine x_call rfl rfl rfl rfl rfl en45 (lastidxS_c hl) ?_
  rintro r w1 ⟨⟨z, rfl, hz⟩, hn⟩
  have M := M.new hn
  refine ⟨trivial, ?_⟩
  refine x_assign rfl rfl rfl rfl ?_
  refine Ex.done (hK _ _ ?_)
  refine At.then_n ?_
  refine W.ret ?_
  refine At.ret1 (.tmp 4) rfl ⟨rfl, trivial⟩ ?_ -- ret1
  exact ⟨⟨z, rfl, hz⟩, M.frm⟩

-- internal/stringslite.HasPrefix
set_option maxRecDepth 100000 in
theorem hasprefS_c {w0 : World} {s t : List UInt8}  : Ret Try.prog 46 #[strV s, strV t] w0 fun r w' => r = .bool (t.isPrefixOf s) ∧ New w0 w' := by
  have M : Sep w0 [] w0 := St.nil w0
  refine Ret.of_W Try.func46 rfl Try.ntmps46 rfl ?_
  refine W.seq ?_
  refine W.sub [(0, _), (1, _)] ⟨rfl, rfl, trivial⟩ ?_
  refine W.reg [(0, false)] (by kernel_rfl) ?_ -- region 0
  intro K hK
  refine x_assign rfl rfl rfl rfl ?_
  refine Ex.done (hK _ _ ?_)
  refine At.then_n ?_
  refine W.seq ?_
  refine W.sub [(0, _), (1, _)] ⟨rfl, rfl, trivial⟩ ?_
  refine W.reg [(0, false), (1, false), (2, false), (3, false), (4, false), (5, false), (6, false), (7, false), (8, false), (9, false), (10, false), (11, false), (12, false), (13, false)] (by kernel_rfl) ?_ -- region 1
  intro K hK
  refine x_move rfl rfl rfl rfl ?_
  refine x_lenS rfl rfl rfl rfl Try.underlying9 rfl ?_
  refine x_move rfl rfl rfl rfl ?_
  refine x_lenS rfl rfl rfl rfl Try.underlying9 rfl ?_
  refine x_geq _ rfl rfl rfl rfl rfl rfl ?_ -- cm1 strings.go:17
  refine x_move rfl rfl rfl rfl ?_
  refine Ex.split 10 rfl (fun hsp1 => ?_) (fun hsp1 => ?_)
  · -- sp1 True
    try simp only [decide_eq_true_eq, decide_eq_false_iff_not, Bool.not_eq_true', Bool.not_eq_false', beq_iff_eq, bne_iff_ne, ne_eq, Bool.not_eq_eq_eq_not, Bool.not_true, Bool.not_false, beq_eq_false_iff_ne, bne_eq_false_iff_eq, Bool.not_not, gt_iff_lt, ge_iff_le] at hsp1
    refine x_move rfl rfl rfl rfl ?_
    refine x_move rfl rfl rfl rfl ?_
    refine x_lenS rfl rfl rfl rfl Try.underlying9 rfl ?_
    refine x_sshS t.length rfl rfl rfl Try.underlying9 rfl rfl rfl (by omega) ?_ -- sl1 strings.go:17
    refine x_move rfl rfl rfl rfl ?_
    refine x_eqS _ rfl rfl rfl rfl rfl rfl ?_ -- eq1 strings.go:17
    refine x_pickT rfl rfl rfl rfl rfl ?_
    refine x_assign rfl rfl rfl rfl ?_
    refine Ex.done (hK _ _ ?_)
    refine At.then_n ?_
    refine W.ret ?_
    refine At.ret1 (.tmp 4) rfl ⟨rfl, trivial⟩ ?_ -- ret1
    exact ⟨by congr 1; rw [Bool.eq_iff_iff, decide_eq_true_eq, List.isPrefixOf_iff_prefix, List.prefix_iff_eq_take]; exact ⟨Eq.symm, Eq.symm⟩, M.frm⟩
  · -- sp1 False
    try simp only [decide_eq_true_eq, decide_eq_false_iff_not, Bool.not_eq_true', Bool.not_eq_false', beq_iff_eq, bne_iff_ne, ne_eq, Bool.not_eq_eq_eq_not, Bool.not_true, Bool.not_false, beq_eq_false_iff_ne, bne_eq_false_iff_eq, Bool.not_not, gt_iff_lt, ge_iff_le] at hsp1
    refine Ex.skip_ rfl rfl rfl ?_
    refine Ex.skip_ rfl rfl rfl ?_
    refine Ex.skip_ rfl rfl rfl ?_
    refine Ex.skip_ rfl rfl rfl ?_
    refine Ex.skip_ rfl rfl rfl ?_
    refine Ex.skip_ rfl rfl rfl ?_
    refine x_pickF rfl rfl rfl rfl rfl ?_
    refine x_assign rfl rfl rfl rfl ?_
    refine Ex.done (hK _ _ ?_)
    refine At.then_n ?_
    refine W.ret ?_
    refine At.ret1 (.tmp 4) rfl ⟨rfl, trivial⟩ ?_ -- ret2
    exact ⟨by congr 1; rw [eq_comm, ← Bool.not_eq_true, List.isPrefixOf_iff_prefix]; intro h; have := h.length_le; omega, M.frm⟩

-- strings.HasPrefix
set_option maxRecDepth 100000 in
theorem haspref_c {w0 : World} {s t : List UInt8}  : Ret Try.prog 35 #[strV s, strV t] w0 fun r w' => r = .bool (t.isPrefixOf s) ∧ New w0 w' := by
  have M : Sep w0 [] w0 := St.nil w0
  refine Ret.of_W Try.func35 rfl Try.ntmps35 rfl ?_
  refine W.seq ?_
  refine W.sub [(0, _), (1, _)] ⟨rfl, rfl, trivial⟩ ?_
  refine W.reg [(0, false)] (by kernel_rfl) ?_ -- region 0
  intro K hK
  refine x_assign rfl rfl rfl rfl ?_
  refine Ex.done (hK _ _ ?_)
  refine At.then_n ?_
  refine W.seq ?_
  refine W.sub [(0, _), (1, _)] ⟨rfl, rfl, trivial⟩ ?_
  refine W.reg [(0, false), (1, false), (2, true), (3, false)] (by kernel_rfl) ?_ -- region 1
  intro K hK
  refine x_move rfl rfl rfl rfl ?_
  refine x_move rfl rfl rfl rfl ?_
  -- call1: internal/stringslite.HasPrefix strings.go:502
  refine x_call rfl rfl rfl rfl rfl en46 (hasprefS_c) ?_
  rintro r w1 ⟨rfl, hn⟩
  have M := M.new hn
  refine ⟨trivial, ?_⟩
  refine x_assign rfl rfl rfl rfl ?_
  refine Ex.done (hK _ _ ?_)
  refine At.then_n ?_
  refine W.ret ?_
  refine At.ret1 (.tmp 4) rfl ⟨rfl, trivial⟩ ?_ -- ret1
  exact ⟨rfl, M.frm⟩
end Go.Proofs.Ytkieecaaijlokaa
