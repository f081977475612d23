/-
  The walk of functions, by program: pjoin, rtext, rjoin.
-/
import Derived.Test.YtkieecaaijlokaaW5
import Derived.Test.YtkieecaaijlokaaP3
namespace Go.Proofs.Ytkieecaaijlokaa
open Go Go.Fw Go.RowKit Go.Proofs
set_option linter.unusedVariables false
set_option linter.unusedSimpArgs false

-- valise/path.Join
set_option maxRecDepth 100000 in
theorem pjoin_c {w0 : World} {v : Value} {l : List (List UInt8)} (h : StrsAt w0 v l)  : Ret Try.prog 19 #[v] w0 fun r w' => r = .tuple #[strV (joinV l), .int .i64 (joinE l)] ∧ New w0 w' := by
  have M : Sep w0 [] w0 := St.nil w0
  obtain ⟨p, cap, rfl⟩ := h.shape
  refine Ret.of_W Try.func19 rfl Try.ntmps19 rfl ?_
  refine W.seq ?_
  refine W.sub [(0, _)] ⟨rfl, trivial⟩ ?_
  refine W.reg [(0, false), (1, false)] (by kernel_rfl) ?_ -- region 0
  intro K hK
  refine x_assign rfl rfl rfl rfl ?_
  refine x_assign rfl rfl rfl rfl ?_
  refine Ex.done (hK _ _ ?_)
  refine At.then_n ?_
  refine W.seq ?_
  refine W.seq ?_
  refine W.sub [(0, _)] ⟨rfl, trivial⟩ ?_
  refine W.reg [(0, false), (1, false), (2, false)] (by kernel_rfl) ?_ -- region 1
  intro K hK
  refine x_move rfl rfl rfl rfl ?_
  refine x_len rfl rfl rfl rfl Try.underlying22 rfl ?_
  refine x_gtr _ rfl rfl rfl rfl rfl rfl ?_ -- cm1 path.go:56
  refine Ex.done (hK _ _ ?_)
  refine At.then_n ?_
  refine W.cond rfl (fun hco1 => ?_) (fun hco1 => ?_) -- co1
  · try simp only [decide_eq_true_eq, decide_eq_false_iff_not, Bool.not_eq_true', Bool.not_eq_false', beq_iff_eq, bne_iff_ne, ne_eq, Bool.not_eq_eq_eq_not, Bool.not_true, Bool.not_false, beq_eq_false_iff_ne, bne_eq_false_iff_eq, Bool.not_not, gt_iff_lt, ge_iff_le] at hco1
    refine W.seq ?_
    refine W.sub [] trivial ?_
    refine W.reg [(0, false), (1, false)] (by kernel_rfl) ?_ -- region 2
    intro K hK
    refine x_assign rfl rfl rfl rfl ?_
    refine x_assign rfl rfl rfl rfl ?_
    refine Ex.done (hK _ _ ?_)
    refine At.then_n ?_
    refine W.ret ?_
    refine At.then_r ?_
    refine At.ret2 (.tmp 2) (.tmp 3) rfl ⟨rfl, rfl, trivial⟩ ?_ -- ret1
    have hE := joinP_many (l := l) (by omega); exact ⟨by rw [hE.1, hE.2]; rfl, M.frm⟩
  · try simp only [decide_eq_true_eq, decide_eq_false_iff_not, Bool.not_eq_true', Bool.not_eq_false', beq_iff_eq, bne_iff_ne, ne_eq, Bool.not_eq_eq_eq_not, Bool.not_true, Bool.not_false, beq_eq_false_iff_ne, bne_eq_false_iff_eq, Bool.not_not, gt_iff_lt, ge_iff_le] at hco1
    refine W.skip ?_
    refine At.then_n ?_
    refine W.seq ?_
    refine W.seq ?_
    refine W.sub [(0, _)] ⟨rfl, trivial⟩ ?_
    refine W.reg [(0, false), (1, false), (2, false)] (by kernel_rfl) ?_ -- region 3
    intro K hK
    refine x_move rfl rfl rfl rfl ?_
    refine x_len rfl rfl rfl rfl Try.underlying22 rfl ?_
    refine x_move rfl rfl rfl rfl ?_
    refine Ex.done (hK _ _ ?_)
    refine At.then_n ?_
    refine W.block ?_
    refine W.loop (σ := Nat) (fun q => [(0, _), (10, _), (11, _), (12, .int .i64 ((q : Nat) : Int))]) (fun q w => q ≤ l.length ∧ (∀ (k : Nat) y, k < q → l[k]? = some y → nameOK y) ∧ Sep w0 [] w) (fun q => l.length - q) 0 ⟨rfl, rfl, rfl, rfl, trivial⟩ ⟨Nat.zero_le _, fun k c h => by omega, M⟩ ?_ -- loop1
    rintro q w ⟨hq, hall, M⟩
    refine W.seq ?_
    refine W.sub [(0, _), (10, _), (11, _), (12, _)] ⟨rfl, rfl, rfl, rfl, trivial⟩ ?_
    refine W.reg [(0, false)] (by kernel_rfl) ?_ -- region 4
    intro K hK
    refine x_lss _ rfl rfl rfl rfl rfl rfl ?_ -- cm2 path.go:59
    refine Ex.done (hK _ _ ?_)
    refine At.then_n ?_
    refine W.seq ?_
    refine W.cond rfl (fun hco2 => ?_) (fun hco2 => ?_) -- co2
    · try simp only [decide_eq_true_eq, decide_eq_false_iff_not, Bool.not_eq_true', Bool.not_eq_false', beq_iff_eq, bne_iff_ne, ne_eq, Bool.not_eq_eq_eq_not, Bool.not_true, Bool.not_false, beq_eq_false_iff_ne, bne_eq_false_iff_eq, Bool.not_not, gt_iff_lt, ge_iff_le] at hco2
      obtain ⟨x, hx⟩ := get_lt (l := l) (q := q) (by omega)
      obtain ⟨bk, off, rfl, _⟩ := (h.new M.frm).blk (j := q) (by omega)
      refine W.skip ?_
      refine At.then_n ?_
      refine W.seq ?_
      refine W.block ?_
      refine W.seq ?_
      refine W.sub [(0, _), (10, _), (11, _), (12, _)] ⟨rfl, rfl, rfl, rfl, trivial⟩ ?_
      refine W.reg [(0, false), (1, false), (2, false)] (by kernel_rfl) ?_ -- region 5
      intro K hK
      refine x_ia q rfl rfl rfl Try.underlying22 sz9 rfl rfl rfl (by omega) ?_ -- ia1 path.go:59
      refine x_ld rfl rfl rfl Try.underlying9 rfl rfl (StrsAt.cell (h.new M.frm) hx) ?_ -- ld1 path.go:59
      refine x_assign rfl rfl rfl rfl ?_
      refine Ex.done (hK _ _ ?_)
      refine At.then_n ?_
      refine W.seq ?_
      refine W.sub [(0, _), (5, _), (10, _), (11, _), (12, _)] ⟨rfl, rfl, rfl, rfl, rfl, trivial⟩ ?_
      refine W.reg [(0, false), (1, true), (2, false)] (by kernel_rfl) ?_ -- region 6
      intro K hK
      refine x_move rfl rfl rfl rfl ?_
      -- call1: valise/path.Name path.go:60
      refine x_call rfl rfl rfl rfl rfl en15 (name_c) ?_
      rintro r wcall1 ⟨rfl, hncall1⟩
      have M := M.new hncall1
      refine ⟨trivial, ?_⟩
      refine x_nei _ rfl rfl rfl rfl rfl rfl ?_ -- eq1 path.go:60
      refine Ex.done (hK _ _ ?_)
      refine At.then_n ?_
      refine W.cond rfl (fun hco3 => ?_) (fun hco3 => ?_) -- co3
      · try simp only [decide_eq_true_eq, decide_eq_false_iff_not, Bool.not_eq_true', Bool.not_eq_false', beq_iff_eq, bne_iff_ne, ne_eq, Bool.not_eq_eq_eq_not, Bool.not_true, Bool.not_false, beq_eq_false_iff_ne, bne_eq_false_iff_eq, Bool.not_not, gt_iff_lt, ge_iff_le] at hco3
        refine W.seq ?_
        refine W.sub [] trivial ?_
        refine W.reg [(0, false), (1, false)] (by kernel_rfl) ?_ -- region 7
        intro K hK
        refine x_assign rfl rfl rfl rfl ?_
        refine x_assign rfl rfl rfl rfl ?_
        refine Ex.done (hK _ _ ?_)
        refine At.then_n ?_
        refine W.ret ?_
        refine At.blk_r ?_
        refine At.then_r ?_
        refine At.loop_r ?_
        refine At.blk_r ?_
        refine At.then_r ?_
        refine At.ret2 (.tmp 2) (.tmp 3) rfl ⟨rfl, rfl, trivial⟩ ?_ -- ret2
        have hE := joinP_bad (List.mem_of_getElem? hx) (fun h => hco3 (nameP_zero.2 h)); exact ⟨by rw [hE.1, hE.2]; rfl, M.frm⟩
      · try simp only [decide_eq_true_eq, decide_eq_false_iff_not, Bool.not_eq_true', Bool.not_eq_false', beq_iff_eq, bne_iff_ne, ne_eq, Bool.not_eq_eq_eq_not, Bool.not_true, Bool.not_false, beq_eq_false_iff_ne, bne_eq_false_iff_eq, Bool.not_not, gt_iff_lt, ge_iff_le] at hco3
        refine W.skip ?_
        refine At.blk_n ?_
        refine At.then_n ?_
        refine W.sub [(0, _), (10, _), (11, _), (12, _)] ⟨rfl, rfl, rfl, rfl, trivial⟩ ?_
        refine W.reg [(0, false), (1, false)] (by kernel_rfl) ?_ -- region 8
        intro K hK
        refine x_add _ rfl rfl rfl rfl rfl (wadd (by omega) (by omega)) ?_ -- ar1 path.go:59
        refine x_move rfl rfl rfl rfl ?_
        refine Ex.done (hK _ _ ?_)
        -- bk1: back to loop1
        exact At.back (q + 1) ⟨rfl, rfl, rfl, rfl, trivial⟩ ⟨by omega, all_take hall hx (nameP_zero.1 hco3), M⟩ (by first | omega | (simp only; omega) | (simp; done) | (simp; omega))
    · try simp only [decide_eq_true_eq, decide_eq_false_iff_not, Bool.not_eq_true', Bool.not_eq_false', beq_iff_eq, bne_iff_ne, ne_eq, Bool.not_eq_eq_eq_not, Bool.not_true, Bool.not_false, beq_eq_false_iff_ne, bne_eq_false_iff_eq, Bool.not_not, gt_iff_lt, ge_iff_le] at hco2
      have hok : allOK l := all_all fun k y hk => hall k y (by omega)
      have hjl := joinS_le (allOK_len hok)
      refine W.exit ?_
      refine At.then_x ?_
      refine At.loop_x ?_
      refine At.blk_x ?_
      refine At.then_n ?_
      refine W.seq ?_
      refine W.sub [(0, _)] ⟨rfl, trivial⟩ ?_
      refine W.reg [(0, false), (1, true), (2, false)] (by kernel_rfl) ?_ -- region 9
      intro K hK
      refine x_move rfl rfl rfl rfl ?_
      -- call2: strings.Join path.go:64
      refine x_call rfl rfl rfl rfl rfl en32 (join_c (h.new M.frm) (by omega) (by omega)) ?_
      rintro r w3 ⟨rfl, hn⟩
      have M := M.new hn
      refine ⟨trivial, ?_⟩
      refine x_assign rfl rfl rfl rfl ?_
      refine Ex.done (hK _ _ ?_)
      refine At.then_n ?_
      refine W.seq ?_
      refine W.seq ?_
      refine W.sub [(6, _)] ⟨rfl, trivial⟩ ?_
      refine W.reg [(0, false), (1, false), (2, false)] (by kernel_rfl) ?_ -- region 10
      intro K hK
      refine x_move rfl rfl rfl rfl ?_
      refine x_lenS rfl rfl rfl rfl Try.underlying9 rfl ?_
      refine x_gtr _ rfl rfl rfl rfl rfl rfl ?_ -- cm3 path.go:65
      refine Ex.done (hK _ _ ?_)
      refine At.then_n ?_
      refine W.cond rfl (fun hco4 => ?_) (fun hco4 => ?_) -- co4
      · try simp only [decide_eq_true_eq, decide_eq_false_iff_not, Bool.not_eq_true', Bool.not_eq_false', beq_iff_eq, bne_iff_ne, ne_eq, Bool.not_eq_eq_eq_not, Bool.not_true, Bool.not_false, beq_eq_false_iff_ne, bne_eq_false_iff_eq, Bool.not_not, gt_iff_lt, ge_iff_le] at hco4
        refine W.seq ?_
        refine W.sub [] trivial ?_
        refine W.reg [(0, false), (1, false)] (by kernel_rfl) ?_ -- region 11
        intro K hK
        refine x_assign rfl rfl rfl rfl ?_
        refine x_assign rfl rfl rfl rfl ?_
        refine Ex.done (hK _ _ ?_)
        refine At.then_n ?_
        refine W.ret ?_
        refine At.then_r ?_
        refine At.ret2 (.tmp 2) (.tmp 3) rfl ⟨rfl, rfl, trivial⟩ ?_ -- ret3
        have hE := joinP_long (l := l) (by omega); exact ⟨by rw [hE.1, hE.2]; rfl, M.frm⟩
      · try simp only [decide_eq_true_eq, decide_eq_false_iff_not, Bool.not_eq_true', Bool.not_eq_false', beq_iff_eq, bne_iff_ne, ne_eq, Bool.not_eq_eq_eq_not, Bool.not_true, Bool.not_false, beq_eq_false_iff_ne, bne_eq_false_iff_eq, Bool.not_not, gt_iff_lt, ge_iff_le] at hco4
        refine W.skip ?_
        refine At.then_n ?_
        refine W.seq ?_
        refine W.sub [(6, _)] ⟨rfl, trivial⟩ ?_
        refine W.reg [(0, false), (1, false), (2, false)] (by kernel_rfl) ?_ -- region 12
        intro K hK
        refine x_move rfl rfl rfl rfl ?_
        refine x_assign rfl rfl rfl rfl ?_
        refine x_assign rfl rfl rfl rfl ?_
        refine Ex.done (hK _ _ ?_)
        refine At.then_n ?_
        refine W.ret ?_
        refine At.ret2 (.tmp 2) (.tmp 3) rfl ⟨rfl, rfl, trivial⟩ ?_ -- ret4
        have hE := joinP_good (l := l) (by omega) hok (by omega); exact ⟨by rw [hE.1, hE.2], M.frm⟩

-- valise/valiseref13.Text
set_option maxRecDepth 100000 in
theorem rtext_c {w0 : World} {v : Value} {l : List (List UInt8)} (h : StrsAt w0 v l) (hl : l.length ≤ 100) (hb : ∀ x ∈ l, x.length ≤ 100000) : Ret Try.prog 33 #[v] w0 fun r w' => r = strV (joinS l) ∧ New w0 w' := by
  have M : Sep w0 [] w0 := St.nil w0
  obtain ⟨p, cap, rfl⟩ := h.shape
  refine Ret.of_W Try.func33 rfl Try.ntmps33 rfl ?_
  refine W.seq ?_
  refine W.sub [(0, _)] ⟨rfl, trivial⟩ ?_
  refine W.reg [(0, false)] (by kernel_rfl) ?_ -- region 0
  intro K hK
  refine x_assign rfl rfl rfl rfl ?_
  refine Ex.done (hK _ _ ?_)
  refine At.then_n ?_
  refine W.seq ?_
  refine W.sub [(0, _)] ⟨rfl, trivial⟩ ?_
  refine W.reg [(0, false)] (by kernel_rfl) ?_ -- region 1
  intro K hK
  refine x_assign rfl rfl rfl rfl ?_
  refine Ex.done (hK _ _ ?_)
  refine At.then_n ?_
  refine W.seq ?_
  refine W.seq ?_
  refine W.sub [(0, _), (3, _)] ⟨rfl, rfl, trivial⟩ ?_
  refine W.reg [(0, false)] (by kernel_rfl) ?_ -- region 2
  intro K hK
  refine x_assign rfl rfl rfl rfl ?_
  refine Ex.done (hK _ _ ?_)
  refine At.then_n ?_
  refine W.block ?_
  refine W.loop (σ := Nat) (fun q => [(0, _), (3, strV (joinS (l.take q))), (4, .int .i64 ((q : Nat) : Int))]) (fun q w => q ≤ l.length ∧ Sep w0 [] w) (fun q => l.length - q) 0 ⟨rfl, rfl, rfl, trivial⟩ ⟨Nat.zero_le _, M⟩ ?_ -- loop1
  rintro q w ⟨hq, M⟩
  have hjl := joinS_le (l := l.take q) (k := 100000) (fun x hx => hb x (List.mem_of_mem_take hx))
  have hjl2 : (joinS (l.take q)).length ≤ 10000100 := by
    rw [List.length_take] at hjl
    have : min q l.length ≤ 100 := by omega
    omega
  refine W.seq ?_
  refine W.seq ?_
  refine W.sub [(0, _), (3, _), (4, _)] ⟨rfl, rfl, rfl, trivial⟩ ?_
  refine W.reg [(0, false), (1, false), (2, false), (3, false)] (by kernel_rfl) ?_ -- region 3
  intro K hK
  refine x_move rfl rfl rfl rfl ?_
  refine x_move rfl rfl rfl rfl ?_
  refine x_len rfl rfl rfl rfl Try.underlying22 rfl ?_
  refine x_lss _ rfl rfl rfl rfl rfl rfl ?_ -- cm1 ref.go:65
  refine Ex.done (hK _ _ ?_)
  refine At.then_n ?_
  refine W.cond rfl (fun hco1 => ?_) (fun hco1 => ?_) -- co1
  · try simp only [decide_eq_true_eq, decide_eq_false_iff_not, Bool.not_eq_true', Bool.not_eq_false', beq_iff_eq, bne_iff_ne, ne_eq, Bool.not_eq_eq_eq_not, Bool.not_true, Bool.not_false, beq_eq_false_iff_ne, bne_eq_false_iff_eq, Bool.not_not, gt_iff_lt, ge_iff_le] at hco1
    obtain ⟨x, hx⟩ := get_lt (l := l) (q := q) (by omega)
    obtain ⟨bk, off, rfl, _⟩ := (h.new M.frm).blk (j := q) (by omega)
    have hxl := hb x (List.mem_of_getElem? hx)
    have htk : joinS (l.take (q + 1)) = _ := (congrArg joinS (take_snoc hx)).trans (joinS_snoc _ _)
    refine W.skip ?_
    refine At.then_n ?_
    refine W.seq ?_
    refine W.block ?_
    refine W.seq ?_
    refine W.seq ?_
    refine W.sub [(0, _), (3, _), (4, _)] ⟨rfl, rfl, rfl, trivial⟩ ?_
    refine W.reg [(0, false), (1, false)] (by kernel_rfl) ?_ -- region 5
    intro K hK
    refine x_move rfl rfl rfl rfl ?_
    refine x_gtr _ rfl rfl rfl rfl rfl rfl ?_ -- cm2 ref.go:66
    refine Ex.done (hK _ _ ?_)
    refine At.then_n ?_
    refine W.cond rfl (fun hco2 => ?_) (fun hco2 => ?_) -- co2
    · try simp only [decide_eq_true_eq, decide_eq_false_iff_not, Bool.not_eq_true', Bool.not_eq_false', beq_iff_eq, bne_iff_ne, ne_eq, Bool.not_eq_eq_eq_not, Bool.not_true, Bool.not_false, beq_eq_false_iff_ne, bne_eq_false_iff_eq, Bool.not_not, gt_iff_lt, ge_iff_le] at hco2
      refine W.sub [(0, _), (3, _), (4, _)] ⟨rfl, rfl, rfl, trivial⟩ ?_
      refine W.reg [(0, false), (1, false), (2, false)] (by kernel_rfl) ?_ -- region 6
      intro K hK
      refine x_move rfl rfl rfl rfl ?_
      refine x_catS rfl rfl rfl rfl rfl (by first | omega | (simp; omega)) ?_ -- ar1 ref.go:67
      refine x_assign rfl rfl rfl rfl ?_
      refine Ex.done (hK _ _ ?_)
      refine At.then_n ?_
      refine W.sub [(0, _), (3, _), (4, _)] ⟨rfl, rfl, rfl, trivial⟩ ?_
      refine W.reg [(0, false), (1, false), (2, false), (3, false), (4, false), (5, false), (6, false)] (by kernel_rfl) ?_ -- region 7
      intro K hK
      refine x_move rfl rfl rfl rfl ?_
      refine x_move rfl rfl rfl rfl ?_
      refine x_move rfl rfl rfl rfl ?_
      refine x_ia q rfl rfl rfl Try.underlying22 sz9 rfl rfl rfl (by omega) ?_ -- ia1 ref.go:69
      refine x_ld rfl rfl rfl Try.underlying9 rfl rfl (StrsAt.cell (h.new M.frm) hx) ?_ -- ld1 ref.go:69
      refine x_catS rfl rfl rfl rfl rfl (by first | omega | (simp; omega)) ?_ -- ar2 ref.go:69
      refine x_assign rfl rfl rfl rfl ?_
      refine Ex.done (hK _ _ ?_)
      refine At.blk_n ?_
      refine At.then_n ?_
      refine W.sub [(0, _), (3, _), (4, _)] ⟨rfl, rfl, rfl, trivial⟩ ?_
      refine W.reg [(0, false), (1, false), (2, false)] (by kernel_rfl) ?_ -- region 4
      intro K hK
      refine x_move rfl rfl rfl rfl ?_
      refine x_add _ rfl rfl rfl rfl rfl (wadd (by omega) (by omega)) ?_ -- ar3 ref.go:65
      refine x_assign rfl rfl rfl rfl ?_
      refine Ex.done (hK _ _ ?_)
      -- bk1: back to loop1
      exact At.back (q + 1) ⟨rfl, (by rw [htk, if_neg (by intro e; have := congrArg List.length e; rw [List.length_take] at this; simp only [List.length_nil] at this; omega)]; simp only [List.append_assoc, List.singleton_append, List.cons_append, List.nil_append]; rfl), rfl, trivial⟩ ⟨by omega, M⟩ (by first | omega | (simp only; omega) | (simp; done) | (simp; omega))
    · try simp only [decide_eq_true_eq, decide_eq_false_iff_not, Bool.not_eq_true', Bool.not_eq_false', beq_iff_eq, bne_iff_ne, ne_eq, Bool.not_eq_eq_eq_not, Bool.not_true, Bool.not_false, beq_eq_false_iff_ne, bne_eq_false_iff_eq, Bool.not_not, gt_iff_lt, ge_iff_le] at hco2
      refine W.skip ?_
      refine At.then_n ?_
      refine W.sub [(0, _), (3, _), (4, _)] ⟨rfl, rfl, rfl, trivial⟩ ?_
      refine W.reg [(0, false), (1, false), (2, false), (3, false), (4, false), (5, false), (6, false)] (by kernel_rfl) ?_ -- region 7
      intro K hK
      refine x_move rfl rfl rfl rfl ?_
      refine x_move rfl rfl rfl rfl ?_
      refine x_move rfl rfl rfl rfl ?_
      refine x_ia q rfl rfl rfl Try.underlying22 sz9 rfl rfl rfl (by omega) ?_ -- ia2 ref.go:69
      refine x_ld rfl rfl rfl Try.underlying9 rfl rfl (StrsAt.cell (h.new M.frm) hx) ?_ -- ld2 ref.go:69
      refine x_catS rfl rfl rfl rfl rfl (by first | omega | (simp; omega)) ?_ -- ar4 ref.go:69
      refine x_assign rfl rfl rfl rfl ?_
      refine Ex.done (hK _ _ ?_)
      refine At.blk_n ?_
      refine At.then_n ?_
      refine W.sub [(0, _), (3, _), (4, _)] ⟨rfl, rfl, rfl, trivial⟩ ?_
      refine W.reg [(0, false), (1, false), (2, false)] (by kernel_rfl) ?_ -- region 4
      intro K hK
      refine x_move rfl rfl rfl rfl ?_
      refine x_add _ rfl rfl rfl rfl rfl (wadd (by omega) (by omega)) ?_ -- ar5 ref.go:65
      refine x_assign rfl rfl rfl rfl ?_
      refine Ex.done (hK _ _ ?_)
      -- bk2: back to loop1
      exact At.back (q + 1) ⟨rfl, (by have hq0 : q = 0 := (by omega); subst hq0; rw [htk, if_pos (show List.take 0 l = [] from rfl)]; rfl), rfl, trivial⟩ ⟨by omega, M⟩ (by first | omega | (simp only; omega) | (simp; done) | (simp; omega))
  · try simp only [decide_eq_true_eq, decide_eq_false_iff_not, Bool.not_eq_true', Bool.not_eq_false', beq_iff_eq, bne_iff_ne, ne_eq, Bool.not_eq_eq_eq_not, Bool.not_true, Bool.not_false, beq_eq_false_iff_ne, bne_eq_false_iff_eq, Bool.not_not, gt_iff_lt, ge_iff_le] at hco1
    refine W.exit ?_
    refine At.then_x ?_
    refine At.loop_x ?_
    refine At.blk_x ?_
    refine At.then_n ?_
    refine W.seq ?_
    refine W.sub [(3, _)] ⟨rfl, trivial⟩ ?_
    refine W.reg [(0, false), (1, false)] (by kernel_rfl) ?_ -- region 8
    intro K hK
    refine x_move rfl rfl rfl rfl ?_
    refine x_assign rfl rfl rfl rfl ?_
    refine Ex.done (hK _ _ ?_)
    refine At.then_n ?_
    refine W.ret ?_
    refine At.ret1 (.tmp 2) rfl ⟨rfl, trivial⟩ ?_ -- ret1
    have hq : q = l.length := by omega
    subst hq; exact ⟨by rw [List.take_length], M.frm⟩

-- valise/valiseref13.Join
set_option maxRecDepth 100000 in
theorem rjoin_c {w0 : World} {v : Value} {l : List (List UInt8)} (h : StrsAt w0 v l)  : Ret Try.prog 20 #[v] w0 fun r w' => r = .tuple #[strV (joinV l), .int .i64 (joinE l)] ∧ New w0 w' := by
  have M : Sep w0 [] w0 := St.nil w0
  obtain ⟨p, cap, rfl⟩ := h.shape
  refine Ret.of_W Try.func20 rfl Try.ntmps20 rfl ?_
  refine W.seq ?_
  refine W.sub [(0, _)] ⟨rfl, trivial⟩ ?_
  refine W.reg [(0, false), (1, false)] (by kernel_rfl) ?_ -- region 0
  intro K hK
  refine x_assign rfl rfl rfl rfl ?_
  refine x_assign rfl rfl rfl rfl ?_
  refine Ex.done (hK _ _ ?_)
  refine At.then_n ?_
  refine W.seq ?_
  refine W.seq ?_
  refine W.sub [(0, _)] ⟨rfl, trivial⟩ ?_
  refine W.reg [(0, false), (1, false), (2, false)] (by kernel_rfl) ?_ -- region 1
  intro K hK
  refine x_move rfl rfl rfl rfl ?_
  refine x_len rfl rfl rfl rfl Try.underlying22 rfl ?_
  refine x_gtr _ rfl rfl rfl rfl rfl rfl ?_ -- cm1 ref.go:76
  refine Ex.done (hK _ _ ?_)
  refine At.then_n ?_
  refine W.cond rfl (fun hco1 => ?_) (fun hco1 => ?_) -- co1
  · try simp only [decide_eq_true_eq, decide_eq_false_iff_not, Bool.not_eq_true', Bool.not_eq_false', beq_iff_eq, bne_iff_ne, ne_eq, Bool.not_eq_eq_eq_not, Bool.not_true, Bool.not_false, beq_eq_false_iff_ne, bne_eq_false_iff_eq, Bool.not_not, gt_iff_lt, ge_iff_le] at hco1
    refine W.seq ?_
    refine W.sub [] trivial ?_
    refine W.reg [(0, false), (1, false)] (by kernel_rfl) ?_ -- region 2
    intro K hK
    refine x_assign rfl rfl rfl rfl ?_
    refine x_assign rfl rfl rfl rfl ?_
    refine Ex.done (hK _ _ ?_)
    refine At.then_n ?_
    refine W.ret ?_
    refine At.then_r ?_
    refine At.ret2 (.tmp 2) (.tmp 3) rfl ⟨rfl, rfl, trivial⟩ ?_ -- ret1
    have hE := joinP_many (l := l) (by omega); exact ⟨by rw [hE.1, hE.2]; rfl, M.frm⟩
  · try simp only [decide_eq_true_eq, decide_eq_false_iff_not, Bool.not_eq_true', Bool.not_eq_false', beq_iff_eq, bne_iff_ne, ne_eq, Bool.not_eq_eq_eq_not, Bool.not_true, Bool.not_false, beq_eq_false_iff_ne, bne_eq_false_iff_eq, Bool.not_not, gt_iff_lt, ge_iff_le] at hco1
    refine W.skip ?_
    refine At.then_n ?_
    refine W.seq ?_
    refine W.seq ?_
    refine W.sub [(0, _)] ⟨rfl, trivial⟩ ?_
    refine W.reg [(0, false)] (by kernel_rfl) ?_ -- region 3
    intro K hK
    refine x_assign rfl rfl rfl rfl ?_
    refine Ex.done (hK _ _ ?_)
    refine At.then_n ?_
    refine W.block ?_
    refine W.loop (σ := Nat) (fun q => [(0, _), (4, .int .i64 ((q : Nat) : Int))]) (fun q w => q ≤ l.length ∧ (∀ (k : Nat) y, k < q → l[k]? = some y → nameOK y) ∧ Sep w0 [] w) (fun q => l.length - q) 0 ⟨rfl, rfl, trivial⟩ ⟨Nat.zero_le _, fun k c h => by omega, M⟩ ?_ -- loop1
    rintro q w ⟨hq, hall, M⟩
    refine W.seq ?_
    refine W.seq ?_
    refine W.sub [(0, _), (4, _)] ⟨rfl, rfl, trivial⟩ ?_
    refine W.reg [(0, false), (1, false), (2, false), (3, false)] (by kernel_rfl) ?_ -- region 4
    intro K hK
    refine x_move rfl rfl rfl rfl ?_
    refine x_move rfl rfl rfl rfl ?_
    refine x_len rfl rfl rfl rfl Try.underlying22 rfl ?_
    refine x_lss _ rfl rfl rfl rfl rfl rfl ?_ -- cm2 ref.go:79
    refine Ex.done (hK _ _ ?_)
    refine At.then_n ?_
    refine W.cond rfl (fun hco2 => ?_) (fun hco2 => ?_) -- co2
    · try simp only [decide_eq_true_eq, decide_eq_false_iff_not, Bool.not_eq_true', Bool.not_eq_false', beq_iff_eq, bne_iff_ne, ne_eq, Bool.not_eq_eq_eq_not, Bool.not_true, Bool.not_false, beq_eq_false_iff_ne, bne_eq_false_iff_eq, Bool.not_not, gt_iff_lt, ge_iff_le] at hco2
      obtain ⟨x, hx⟩ := get_lt (l := l) (q := q) (by omega)
      obtain ⟨bk, off, rfl, _⟩ := (h.new M.frm).blk (j := q) (by omega)
      refine W.skip ?_
      refine At.then_n ?_
      refine W.seq ?_
      refine W.block ?_
      refine W.seq ?_
      refine W.sub [(0, _), (4, _)] ⟨rfl, rfl, trivial⟩ ?_
      refine W.reg [(0, false), (1, false), (2, false), (3, false), (4, true), (5, false)] (by kernel_rfl) ?_ -- region 6
      intro K hK
      refine x_move rfl rfl rfl rfl ?_
      refine x_move rfl rfl rfl rfl ?_
      refine x_ia q rfl rfl rfl Try.underlying22 sz9 rfl rfl rfl (by omega) ?_ -- ia1 ref.go:80
      refine x_ld rfl rfl rfl Try.underlying9 rfl rfl (StrsAt.cell (h.new M.frm) hx) ?_ -- ld1 ref.go:80
      -- call1: valise/valiseref13.Name ref.go:80
      refine x_call rfl rfl rfl rfl rfl en16 (rname_c) ?_
      rintro r wcall1 ⟨rfl, hncall1⟩
      have M := M.new hncall1
      refine ⟨trivial, ?_⟩
      refine x_nei _ rfl rfl rfl rfl rfl rfl ?_ -- eq1 ref.go:80
      refine Ex.done (hK _ _ ?_)
      refine At.then_n ?_
      refine W.cond rfl (fun hco3 => ?_) (fun hco3 => ?_) -- co3
      · try simp only [decide_eq_true_eq, decide_eq_false_iff_not, Bool.not_eq_true', Bool.not_eq_false', beq_iff_eq, bne_iff_ne, ne_eq, Bool.not_eq_eq_eq_not, Bool.not_true, Bool.not_false, beq_eq_false_iff_ne, bne_eq_false_iff_eq, Bool.not_not, gt_iff_lt, ge_iff_le] at hco3
        refine W.seq ?_
        refine W.sub [] trivial ?_
        refine W.reg [(0, false), (1, false)] (by kernel_rfl) ?_ -- region 7
        intro K hK
        refine x_assign rfl rfl rfl rfl ?_
        refine x_assign rfl rfl rfl rfl ?_
        refine Ex.done (hK _ _ ?_)
        refine At.then_n ?_
        refine W.ret ?_
        refine At.blk_r ?_
        refine At.then_r ?_
        refine At.loop_r ?_
        refine At.blk_r ?_
        refine At.then_r ?_
        refine At.ret2 (.tmp 2) (.tmp 3) rfl ⟨rfl, rfl, trivial⟩ ?_ -- ret2
        have hE := joinP_bad (List.mem_of_getElem? hx) (fun h => hco3 (nameP_zero.2 h)); exact ⟨by rw [hE.1, hE.2]; rfl, M.frm⟩
      · try simp only [decide_eq_true_eq, decide_eq_false_iff_not, Bool.not_eq_true', Bool.not_eq_false', beq_iff_eq, bne_iff_ne, ne_eq, Bool.not_eq_eq_eq_not, Bool.not_true, Bool.not_false, beq_eq_false_iff_ne, bne_eq_false_iff_eq, Bool.not_not, gt_iff_lt, ge_iff_le] at hco3
        refine W.skip ?_
        refine At.blk_n ?_
        refine At.then_n ?_
        refine W.sub [(0, _), (4, _)] ⟨rfl, rfl, trivial⟩ ?_
        refine W.reg [(0, false), (1, false), (2, false)] (by kernel_rfl) ?_ -- region 5
        intro K hK
        refine x_move rfl rfl rfl rfl ?_
        refine x_add _ rfl rfl rfl rfl rfl (wadd (by omega) (by omega)) ?_ -- ar1 ref.go:79
        refine x_assign rfl rfl rfl rfl ?_
        refine Ex.done (hK _ _ ?_)
        -- bk1: back to loop1
        exact At.back (q + 1) ⟨rfl, rfl, trivial⟩ ⟨by omega, all_take hall hx (nameP_zero.1 hco3), M⟩ (by first | omega | (simp only; omega) | (simp; done) | (simp; omega))
    · try simp only [decide_eq_true_eq, decide_eq_false_iff_not, Bool.not_eq_true', Bool.not_eq_false', beq_iff_eq, bne_iff_ne, ne_eq, Bool.not_eq_eq_eq_not, Bool.not_true, Bool.not_false, beq_eq_false_iff_ne, bne_eq_false_iff_eq, Bool.not_not, gt_iff_lt, ge_iff_le] at hco2
      have hok : allOK l := all_all fun k y hk => hall k y (by omega)
      have hjl := joinS_le (allOK_len hok)
      refine W.exit ?_
      refine At.then_x ?_
      refine At.loop_x ?_
      refine At.blk_x ?_
      refine At.then_n ?_
      refine W.seq ?_
      refine W.sub [(0, _)] ⟨rfl, trivial⟩ ?_
      refine W.reg [(0, false), (1, true), (2, false)] (by kernel_rfl) ?_ -- region 8
      intro K hK
      refine x_move rfl rfl rfl rfl ?_
      -- call2: valise/valiseref13.Text ref.go:84
      refine x_call rfl rfl rfl rfl rfl en33 (rtext_c (h.new M.frm) (by omega) (fun x hx => by have := allOK_len hok x hx; omega)) ?_
      rintro r w3 ⟨rfl, hn⟩
      have M := M.new hn
      refine ⟨trivial, ?_⟩
      refine x_assign rfl rfl rfl rfl ?_
      refine Ex.done (hK _ _ ?_)
      refine At.then_n ?_
      refine W.seq ?_
      refine W.seq ?_
      refine W.sub [(5, _)] ⟨rfl, trivial⟩ ?_
      refine W.reg [(0, false), (1, false), (2, false)] (by kernel_rfl) ?_ -- region 9
      intro K hK
      refine x_move rfl rfl rfl rfl ?_
      refine x_lenS rfl rfl rfl rfl Try.underlying9 rfl ?_
      refine x_gtr _ rfl rfl rfl rfl rfl rfl ?_ -- cm3 ref.go:85
      refine Ex.done (hK _ _ ?_)
      refine At.then_n ?_
      refine W.cond rfl (fun hco4 => ?_) (fun hco4 => ?_) -- co4
      · try simp only [decide_eq_true_eq, decide_eq_false_iff_not, Bool.not_eq_true', Bool.not_eq_false', beq_iff_eq, bne_iff_ne, ne_eq, Bool.not_eq_eq_eq_not, Bool.not_true, Bool.not_false, beq_eq_false_iff_ne, bne_eq_false_iff_eq, Bool.not_not, gt_iff_lt, ge_iff_le] at hco4
        refine W.seq ?_
        refine W.sub [] trivial ?_
        refine W.reg [(0, false), (1, false)] (by kernel_rfl) ?_ -- region 10
        intro K hK
        refine x_assign rfl rfl rfl rfl ?_
        refine x_assign rfl rfl rfl rfl ?_
        refine Ex.done (hK _ _ ?_)
        refine At.then_n ?_
        refine W.ret ?_
        refine At.then_r ?_
        refine At.ret2 (.tmp 2) (.tmp 3) rfl ⟨rfl, rfl, trivial⟩ ?_ -- ret3
        have hE := joinP_long (l := l) (by omega); exact ⟨by rw [hE.1, hE.2]; rfl, M.frm⟩
      · try simp only [decide_eq_true_eq, decide_eq_false_iff_not, Bool.not_eq_true', Bool.not_eq_false', beq_iff_eq, bne_iff_ne, ne_eq, Bool.not_eq_eq_eq_not, Bool.not_true, Bool.not_false, beq_eq_false_iff_ne, bne_eq_false_iff_eq, Bool.not_not, gt_iff_lt, ge_iff_le] at hco4
        refine W.skip ?_
        refine At.then_n ?_
        refine W.seq ?_
        refine W.sub [(5, _)] ⟨rfl, trivial⟩ ?_
        refine W.reg [(0, false), (1, false), (2, false)] (by kernel_rfl) ?_ -- region 11
        intro K hK
        refine x_move rfl rfl rfl rfl ?_
        refine x_assign rfl rfl rfl rfl ?_
        refine x_assign rfl rfl rfl rfl ?_
        refine Ex.done (hK _ _ ?_)
        refine At.then_n ?_
        refine W.ret ?_
        refine At.ret2 (.tmp 2) (.tmp 3) rfl ⟨rfl, rfl, trivial⟩ ?_ -- ret4
        have hE := joinP_good (l := l) (by omega) hok (by omega); exact ⟨by rw [hE.1, hE.2], M.frm⟩
end Go.Proofs.Ytkieecaaijlokaa
