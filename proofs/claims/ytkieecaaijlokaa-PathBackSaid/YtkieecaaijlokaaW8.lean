/-
  The walk of functions, by program: rsplit, rclean.
-/
import Derived.Test.YtkieecaaijlokaaW7
import Derived.Test.YtkieecaaijlokaaP4
namespace Go.Proofs.Ytkieecaaijlokaa
open Go Go.Fw Go.RowKit Go.Proofs
set_option linter.unusedVariables false
set_option linter.unusedSimpArgs false

-- valise/valiseref13.Split
set_option maxRecDepth 100000 in
theorem rsplit_c {w0 : World} {p : List UInt8}  : Ret Try.prog 14 #[strV p] w0 fun r w' => ∃ v Lr, r = .tuple #[v, .int .i64 (splitE p)] ∧ Sep w0 Lr w' ∧ StrsO Lr v (splitN p) := by
  have M : Sep w0 [] w0 := St.nil w0
  refine Ret.of_W Try.func14 rfl Try.ntmps14 rfl ?_
  refine W.seq ?_
  refine W.sub [(0, _)] ⟨rfl, trivial⟩ ?_
  refine W.reg [(0, false), (1, false)] (by kernel_rfl) ?_ -- region 0
  intro K hK
  refine x_assign rfl rfl rfl rfl ?_
  refine x_assign rfl rfl rfl rfl ?_
  refine Ex.done (hK _ _ ?_)
  refine At.then_n ?_
  refine W.seq ?_
  refine W.seq ?_
  refine W.sub [(0, _)] ⟨rfl, trivial⟩ ?_
  refine W.reg [(0, false), (1, false)] (by kernel_rfl) ?_ -- region 1
  intro K hK
  refine x_move rfl rfl rfl rfl ?_
  refine x_eqS _ rfl rfl rfl rfl rfl rfl ?_ -- eq1 ref.go:44
  refine Ex.done (hK _ _ ?_)
  refine At.then_n ?_
  refine W.cond rfl (fun hco1 => ?_) (fun hco1 => ?_) -- co1
  · try simp only [decide_eq_true_eq, decide_eq_false_iff_not, Bool.not_eq_true', Bool.not_eq_false', beq_iff_eq, bne_iff_ne, ne_eq, Bool.not_eq_eq_eq_not, Bool.not_true, Bool.not_false, beq_eq_false_iff_ne, bne_eq_false_iff_eq, Bool.not_not, gt_iff_lt, ge_iff_le] at hco1
    refine W.seq ?_
    refine W.sub [] trivial ?_
    refine W.reg [(0, false), (1, false)] (by kernel_rfl) ?_ -- region 2
    intro K hK
    refine x_assign rfl rfl rfl rfl ?_
    refine x_assign rfl rfl rfl rfl ?_
    refine Ex.done (hK _ _ ?_)
    refine At.then_n ?_
    refine W.ret ?_
    refine At.then_r ?_
    refine At.ret2 (.tmp 2) (.tmp 3) rfl ⟨rfl, rfl, trivial⟩ ?_ -- ret1
    subst hco1; exact ⟨_, [], rfl, M.frm, OwL.nil⟩
  · try simp only [decide_eq_true_eq, decide_eq_false_iff_not, Bool.not_eq_true', Bool.not_eq_false', beq_iff_eq, bne_iff_ne, ne_eq, Bool.not_eq_eq_eq_not, Bool.not_true, Bool.not_false, beq_eq_false_iff_ne, bne_eq_false_iff_eq, Bool.not_not, gt_iff_lt, ge_iff_le] at hco1
    refine W.skip ?_
    refine At.then_n ?_
    refine W.seq ?_
    refine W.seq ?_
    refine W.sub [(0, _)] ⟨rfl, trivial⟩ ?_
    refine W.reg [(0, false), (1, false), (2, false)] (by kernel_rfl) ?_ -- region 3
    intro K hK
    refine x_move rfl rfl rfl rfl ?_
    refine x_lenS rfl rfl rfl rfl Try.underlying9 rfl ?_
    refine x_gtr _ rfl rfl rfl rfl rfl rfl ?_ -- cm1 ref.go:47
    refine Ex.done (hK _ _ ?_)
    refine At.then_n ?_
    refine W.cond rfl (fun hco2 => ?_) (fun hco2 => ?_) -- co2
    · try simp only [decide_eq_true_eq, decide_eq_false_iff_not, Bool.not_eq_true', Bool.not_eq_false', beq_iff_eq, bne_iff_ne, ne_eq, Bool.not_eq_eq_eq_not, Bool.not_true, Bool.not_false, beq_eq_false_iff_ne, bne_eq_false_iff_eq, Bool.not_not, gt_iff_lt, ge_iff_le] at hco2
      refine W.seq ?_
      refine W.sub [] trivial ?_
      refine W.reg [(0, false), (1, false)] (by kernel_rfl) ?_ -- region 4
      intro K hK
      refine x_assign rfl rfl rfl rfl ?_
      refine x_assign rfl rfl rfl rfl ?_
      refine Ex.done (hK _ _ ?_)
      refine At.then_n ?_
      refine W.ret ?_
      refine At.then_r ?_
      refine At.ret2 (.tmp 2) (.tmp 3) rfl ⟨rfl, rfl, trivial⟩ ?_ -- ret2
      have h := splitE_none (splitP_long (p := p) (by omega)); exact ⟨_, [], by rw [h.1], M.frm, by rw [h.2]; exact OwL.nil⟩
    · try simp only [decide_eq_true_eq, decide_eq_false_iff_not, Bool.not_eq_true', Bool.not_eq_false', beq_iff_eq, bne_iff_ne, ne_eq, Bool.not_eq_eq_eq_not, Bool.not_true, Bool.not_false, beq_eq_false_iff_ne, bne_eq_false_iff_eq, Bool.not_not, gt_iff_lt, ge_iff_le] at hco2
      refine W.skip ?_
      refine At.then_n ?_
      refine W.seq ?_
      refine W.sub [(0, _)] ⟨rfl, trivial⟩ ?_
      refine W.reg [(0, false), (1, true), (2, false)] (by kernel_rfl) ?_ -- region 5
      intro K hK
      refine x_move rfl rfl rfl rfl ?_
      -- call1: valise/valiseref13.Pieces ref.go:50
      refine x_call rfl rfl rfl rfl rfl en31 (rpieces_c (s := p) (by omega)) ?_
      rintro v1 w1 ⟨L1, M1, hs1⟩
      have M := M.grow M1
      obtain ⟨p1, cap1, rfl⟩ := hs1.shape
      have hl1 := splitS_len p
      refine ⟨trivial, ?_⟩
      refine x_assign rfl rfl rfl rfl ?_
      refine Ex.done (hK _ _ ?_)
      refine At.then_n ?_
      refine W.seq ?_
      refine W.seq ?_
      refine W.sub [(4, _)] ⟨rfl, trivial⟩ ?_
      refine W.reg [(0, false), (1, false), (2, false)] (by kernel_rfl) ?_ -- region 6
      intro K hK
      refine x_move rfl rfl rfl rfl ?_
      refine x_len rfl rfl rfl rfl Try.underlying22 rfl ?_
      refine x_gtr _ rfl rfl rfl rfl rfl rfl ?_ -- cm2 ref.go:51
      refine Ex.done (hK _ _ ?_)
      refine At.then_n ?_
      refine W.cond rfl (fun hco3 => ?_) (fun hco3 => ?_) -- co3
      · try simp only [decide_eq_true_eq, decide_eq_false_iff_not, Bool.not_eq_true', Bool.not_eq_false', beq_iff_eq, bne_iff_ne, ne_eq, Bool.not_eq_eq_eq_not, Bool.not_true, Bool.not_false, beq_eq_false_iff_ne, bne_eq_false_iff_eq, Bool.not_not, gt_iff_lt, ge_iff_le] at hco3
        refine W.seq ?_
        refine W.sub [] trivial ?_
        refine W.reg [(0, false), (1, false)] (by kernel_rfl) ?_ -- region 7
        intro K hK
        refine x_assign rfl rfl rfl rfl ?_
        refine x_assign rfl rfl rfl rfl ?_
        refine Ex.done (hK _ _ ?_)
        refine At.then_n ?_
        refine W.ret ?_
        refine At.then_r ?_
        refine At.ret2 (.tmp 2) (.tmp 3) rfl ⟨rfl, rfl, trivial⟩ ?_ -- ret3
        have h := splitE_none (splitP_bad hco1 (fun h => by have := h.1; omega)); exact ⟨_, [], by rw [h.1], M.frm, by rw [h.2]; exact OwL.nil⟩
      · try simp only [decide_eq_true_eq, decide_eq_false_iff_not, Bool.not_eq_true', Bool.not_eq_false', beq_iff_eq, bne_iff_ne, ne_eq, Bool.not_eq_eq_eq_not, Bool.not_true, Bool.not_false, beq_eq_false_iff_ne, bne_eq_false_iff_eq, Bool.not_not, gt_iff_lt, ge_iff_le] at hco3
        refine W.skip ?_
        refine At.then_n ?_
        refine W.seq ?_
        refine W.seq ?_
        refine W.sub [(4, _)] ⟨rfl, trivial⟩ ?_
        refine W.reg [(0, false)] (by kernel_rfl) ?_ -- region 8
        intro K hK
        refine x_assign rfl rfl rfl rfl ?_
        refine Ex.done (hK _ _ ?_)
        refine At.then_n ?_
        refine W.block ?_
        refine W.loop (σ := Nat) (fun q => [(4, _), (5, .int .i64 ((q : Nat) : Int))]) (fun q w => q ≤ (splitS p).length ∧ (∀ (k : Nat) y, k < q → (splitS p)[k]? = some y → nameOK y) ∧ Sep w0 L1 w) (fun q => (splitS p).length - q) 0 ⟨rfl, rfl, trivial⟩ ⟨Nat.zero_le _, fun k c h => by omega, M⟩ ?_ -- loop1
        rintro q w ⟨hq, hall, M⟩
        refine W.seq ?_
        refine W.seq ?_
        refine W.sub [(4, _), (5, _)] ⟨rfl, rfl, trivial⟩ ?_
        refine W.reg [(0, false), (1, false), (2, false), (3, false)] (by kernel_rfl) ?_ -- region 9
        intro K hK
        refine x_move rfl rfl rfl rfl ?_
        refine x_move rfl rfl rfl rfl ?_
        refine x_len rfl rfl rfl rfl Try.underlying22 rfl ?_
        refine x_lss _ rfl rfl rfl rfl rfl rfl ?_ -- cm3 ref.go:54
        refine Ex.done (hK _ _ ?_)
        refine At.then_n ?_
        refine W.cond rfl (fun hco4 => ?_) (fun hco4 => ?_) -- co4
        · try simp only [decide_eq_true_eq, decide_eq_false_iff_not, Bool.not_eq_true', Bool.not_eq_false', beq_iff_eq, bne_iff_ne, ne_eq, Bool.not_eq_eq_eq_not, Bool.not_true, Bool.not_false, beq_eq_false_iff_ne, bne_eq_false_iff_eq, Bool.not_not, gt_iff_lt, ge_iff_le] at hco4
          obtain ⟨x, hx⟩ := get_lt (l := splitS p) (q := q) (by omega)
          have hAt := strsO_at hs1 M (fun _ h => h)
          obtain ⟨bk, off, rfl, _⟩ := hAt.blk (j := q) (by omega)
          refine W.skip ?_
          refine At.then_n ?_
          refine W.seq ?_
          refine W.block ?_
          refine W.seq ?_
          refine W.sub [(4, _), (5, _)] ⟨rfl, rfl, trivial⟩ ?_
          refine W.reg [(0, false), (1, false), (2, false), (3, false), (4, true), (5, false)] (by kernel_rfl) ?_ -- region 11
          intro K hK
          refine x_move rfl rfl rfl rfl ?_
          refine x_move rfl rfl rfl rfl ?_
          refine x_ia q rfl rfl rfl Try.underlying22 sz9 rfl rfl rfl (by omega) ?_ -- ia1 ref.go:55
          refine x_ld rfl rfl rfl Try.underlying9 rfl rfl (StrsAt.cell hAt hx) ?_ -- ld1 ref.go:55
          -- call2: valise/valiseref13.Name ref.go:55
          refine x_call rfl rfl rfl rfl rfl en16 (rname_c) ?_
          rintro r wcall2 ⟨rfl, hncall2⟩
          have M := M.new hncall2
          refine ⟨trivial, ?_⟩
          refine x_nei _ rfl rfl rfl rfl rfl rfl ?_ -- eq2 ref.go:55
          refine Ex.done (hK _ _ ?_)
          refine At.then_n ?_
          refine W.cond rfl (fun hco5 => ?_) (fun hco5 => ?_) -- co5
          · try simp only [decide_eq_true_eq, decide_eq_false_iff_not, Bool.not_eq_true', Bool.not_eq_false', beq_iff_eq, bne_iff_ne, ne_eq, Bool.not_eq_eq_eq_not, Bool.not_true, Bool.not_false, beq_eq_false_iff_ne, bne_eq_false_iff_eq, Bool.not_not, gt_iff_lt, ge_iff_le] at hco5
            refine W.seq ?_
            refine W.sub [] trivial ?_
            refine W.reg [(0, false), (1, false)] (by kernel_rfl) ?_ -- region 12
            intro K hK
            refine x_assign rfl rfl rfl rfl ?_
            refine x_assign rfl rfl rfl rfl ?_
            refine Ex.done (hK _ _ ?_)
            refine At.then_n ?_
            refine W.ret ?_
            refine At.blk_r ?_
            refine At.then_r ?_
            refine At.loop_r ?_
            refine At.blk_r ?_
            refine At.then_r ?_
            refine At.ret2 (.tmp 2) (.tmp 3) rfl ⟨rfl, rfl, trivial⟩ ?_ -- ret4
            have h := splitE_none (splitP_bad hco1 (fun h => hco5 (nameP_zero.2 (h.2 x (List.mem_of_getElem? hx))))); exact ⟨_, [], by rw [h.1], M.frm, by rw [h.2]; exact OwL.nil⟩
          · try simp only [decide_eq_true_eq, decide_eq_false_iff_not, Bool.not_eq_true', Bool.not_eq_false', beq_iff_eq, bne_iff_ne, ne_eq, Bool.not_eq_eq_eq_not, Bool.not_true, Bool.not_false, beq_eq_false_iff_ne, bne_eq_false_iff_eq, Bool.not_not, gt_iff_lt, ge_iff_le] at hco5
            refine W.skip ?_
            refine At.blk_n ?_
            refine At.then_n ?_
            refine W.sub [(4, _), (5, _)] ⟨rfl, rfl, trivial⟩ ?_
            refine W.reg [(0, false), (1, false), (2, false)] (by kernel_rfl) ?_ -- region 10
            intro K hK
            refine x_move rfl rfl rfl rfl ?_
            refine x_add _ rfl rfl rfl rfl rfl (wadd (by omega) (by omega)) ?_ -- ar1 ref.go:54
            refine x_assign rfl rfl rfl rfl ?_
            refine Ex.done (hK _ _ ?_)
            -- bk1: back to loop1
            exact At.back (q + 1) ⟨rfl, rfl, trivial⟩ ⟨by omega, all_take hall hx (nameP_zero.1 hco5), M⟩ (by first | omega | (simp only; omega) | (simp; done) | (simp; omega))
        · try simp only [decide_eq_true_eq, decide_eq_false_iff_not, Bool.not_eq_true', Bool.not_eq_false', beq_iff_eq, bne_iff_ne, ne_eq, Bool.not_eq_eq_eq_not, Bool.not_true, Bool.not_false, beq_eq_false_iff_ne, bne_eq_false_iff_eq, Bool.not_not, gt_iff_lt, ge_iff_le] at hco4
          refine W.exit ?_
          refine At.then_x ?_
          refine At.loop_x ?_
          refine At.blk_x ?_
          refine At.then_n ?_
          refine W.seq ?_
          refine W.sub [(4, _)] ⟨rfl, trivial⟩ ?_
          refine W.reg [(0, false), (1, false), (2, false)] (by kernel_rfl) ?_ -- region 13
          intro K hK
          refine x_move rfl rfl rfl rfl ?_
          refine x_assign rfl rfl rfl rfl ?_
          refine x_assign rfl rfl rfl rfl ?_
          refine Ex.done (hK _ _ ?_)
          refine At.then_n ?_
          refine W.ret ?_
          refine At.ret2 (.tmp 2) (.tmp 3) rfl ⟨rfl, rfl, trivial⟩ ?_ -- ret5
          have h := splitE_some (splitP_good hco1 (by omega) ⟨by omega, all_all fun k y hk => hall k y (by omega)⟩); exact ⟨_, L1, by rw [h.1], M, by rw [h.2]; exact hs1⟩

-- valise/valiseref13.Clean
set_option maxRecDepth 100000 in
theorem rclean_c {w0 : World} {s : List UInt8}  : Ret Try.prog 22 #[strV s] w0 fun r w' => r = .tuple #[strV (cleanP s).1, .int .i64 (cleanP s).2] ∧ New w0 w' := by
  have M : Sep w0 [] w0 := St.nil w0
  refine Ret.of_W Try.func22 rfl Try.ntmps22 rfl ?_
  refine W.seq ?_
  refine W.sub [(0, _)] ⟨rfl, trivial⟩ ?_
  refine W.reg [(0, false), (1, false)] (by kernel_rfl) ?_ -- region 0
  intro K hK
  refine x_assign rfl rfl rfl rfl ?_
  refine x_assign rfl rfl rfl rfl ?_
  refine Ex.done (hK _ _ ?_)
  refine At.then_n ?_
  refine W.seq ?_
  refine W.seq ?_
  refine W.sub [(0, _)] ⟨rfl, trivial⟩ ?_
  refine W.reg [(0, false), (1, false), (2, false)] (by kernel_rfl) ?_ -- region 1
  intro K hK
  refine x_move rfl rfl rfl rfl ?_
  refine x_lenS rfl rfl rfl rfl Try.underlying9 rfl ?_
  refine x_gtr _ rfl rfl rfl rfl rfl rfl ?_ -- cm1 ref.go:93
  refine Ex.done (hK _ _ ?_)
  refine At.then_n ?_
  refine W.cond rfl (fun hco1 => ?_) (fun hco1 => ?_) -- co1
  · try simp only [decide_eq_true_eq, decide_eq_false_iff_not, Bool.not_eq_true', Bool.not_eq_false', beq_iff_eq, bne_iff_ne, ne_eq, Bool.not_eq_eq_eq_not, Bool.not_true, Bool.not_false, beq_eq_false_iff_ne, bne_eq_false_iff_eq, Bool.not_not, gt_iff_lt, ge_iff_le] at hco1
    refine W.seq ?_
    refine W.sub [] trivial ?_
    refine W.reg [(0, false), (1, false)] (by kernel_rfl) ?_ -- region 2
    intro K hK
    refine x_assign rfl rfl rfl rfl ?_
    refine x_assign rfl rfl rfl rfl ?_
    refine Ex.done (hK _ _ ?_)
    refine At.then_n ?_
    refine W.ret ?_
    refine At.then_r ?_
    refine At.ret2 (.tmp 2) (.tmp 3) rfl ⟨rfl, rfl, trivial⟩ ?_ -- ret1
    rw [cleanP_long (by omega)]; exact ⟨rfl, M.frm⟩
  · try simp only [decide_eq_true_eq, decide_eq_false_iff_not, Bool.not_eq_true', Bool.not_eq_false', beq_iff_eq, bne_iff_ne, ne_eq, Bool.not_eq_eq_eq_not, Bool.not_true, Bool.not_false, beq_eq_false_iff_ne, bne_eq_false_iff_eq, Bool.not_not, gt_iff_lt, ge_iff_le] at hco1
    refine W.skip ?_
    refine At.then_n ?_
    refine W.seq ?_
    refine W.sub [(0, _)] ⟨rfl, trivial⟩ ?_
    refine W.reg [(0, false)] (by kernel_rfl) ?_ -- region 3
    intro K hK
    refine x_assign rfl rfl rfl rfl ?_
    refine Ex.done (hK _ _ ?_)
    refine At.then_n ?_
    refine W.seq ?_
    refine W.sub [(0, _), (4, _)] ⟨rfl, rfl, trivial⟩ ?_
    refine W.reg [(0, false), (1, true), (2, false)] (by kernel_rfl) ?_ -- region 4
    intro K hK
    refine x_move rfl rfl rfl rfl ?_
    -- call1: valise/valiseref13.Pieces ref.go:97
    refine x_call rfl rfl rfl rfl rfl en31 (rpieces_c (s := s) (by omega)) ?_
    rintro v1 w1 ⟨L1, M1, hs1⟩
    have M := M.grow M1
    obtain ⟨p1, cap1, rfl⟩ := hs1.shape
    have hl1 := splitS_len s
    refine ⟨trivial, ?_⟩
    refine x_assign rfl rfl rfl rfl ?_
    refine Ex.done (hK _ _ ?_)
    refine At.then_n ?_
    refine W.seq ?_
    refine W.seq ?_
    refine W.sub [(4, _), (5, _)] ⟨rfl, rfl, trivial⟩ ?_
    refine W.reg [(0, false)] (by kernel_rfl) ?_ -- region 5
    intro K hK
    refine x_assign rfl rfl rfl rfl ?_
    refine Ex.done (hK _ _ ?_)
    refine At.then_n ?_
    refine W.block ?_
    refine W.loop (σ := Nat × Value) (fun q => [(4, q.2), (5, _), (6, .int .i64 ((q.1 : Nat) : Int))]) (fun q w => q.1 ≤ (splitS s).length ∧ ∃ A Lo, A = ((splitS s).take q.1).foldl cleanStep [] ∧ A.length ≤ q.1 ∧ StrsO Lo q.2 A ∧ Sep w0 (L1 ++ Lo) w) (fun q => (splitS s).length - q.1) (0, .slice none 0 0) ⟨rfl, rfl, rfl, trivial⟩ ⟨Nat.zero_le _, [], [], rfl, Nat.le_refl _, OwL.nil, by simpa using M⟩ ?_ -- loop1
    rintro ⟨q, ov⟩ w ⟨hq, A, Lo, hA, hAl, how, M⟩
    simp only at hq hA hAl how ⊢
    obtain ⟨p0, cap0, rfl, hcap0⟩ := how.shape2 (by decide)
    refine W.seq ?_
    refine W.seq ?_
    refine W.sub [(4, _), (5, _), (6, _)] ⟨rfl, rfl, rfl, trivial⟩ ?_
    refine W.reg [(0, false), (1, false), (2, false), (3, false)] (by kernel_rfl) ?_ -- region 6
    intro K hK
    refine x_move rfl rfl rfl rfl ?_
    refine x_move rfl rfl rfl rfl ?_
    refine x_len rfl rfl rfl rfl Try.underlying22 rfl ?_
    refine x_lss _ rfl rfl rfl rfl rfl rfl ?_ -- cm2 ref.go:98
    refine Ex.done (hK _ _ ?_)
    refine At.then_n ?_
    refine W.cond rfl (fun hco2 => ?_) (fun hco2 => ?_) -- co2
    · try simp only [decide_eq_true_eq, decide_eq_false_iff_not, Bool.not_eq_true', Bool.not_eq_false', beq_iff_eq, bne_iff_ne, ne_eq, Bool.not_eq_eq_eq_not, Bool.not_true, Bool.not_false, beq_eq_false_iff_ne, bne_eq_false_iff_eq, Bool.not_not, gt_iff_lt, ge_iff_le] at hco2
      obtain ⟨x, hx⟩ := get_lt (l := splitS s) (q := q) (by omega)
      have hAt := strsO_at hs1 M (fun _ h => List.mem_append_left _ h)
      obtain ⟨bk, off, rfl, _⟩ := hAt.blk (j := q) (by omega)
      have htk : ((splitS s).take (q + 1)).foldl cleanStep [] = cleanStep A x := by rw [take_snoc hx, List.foldl_append, ← hA]; rfl
      refine W.skip ?_
      refine At.then_n ?_
      refine W.seq ?_
      refine W.block ?_
      refine W.seq ?_
      refine W.sub [(4, _), (5, _), (6, _)] ⟨rfl, rfl, rfl, trivial⟩ ?_
      refine W.reg [(0, false), (1, false), (2, false), (3, false)] (by kernel_rfl) ?_ -- region 8
      intro K hK
      refine x_move rfl rfl rfl rfl ?_
      refine x_move rfl rfl rfl rfl ?_
      refine x_ia q rfl rfl rfl Try.underlying22 sz9 rfl rfl rfl (by omega) ?_ -- ia1 ref.go:99
      refine x_ld rfl rfl rfl Try.underlying9 rfl rfl (StrsAt.cell hAt hx) ?_ -- ld1 ref.go:99
      refine Ex.done (hK _ _ ?_)
      refine At.then_n ?_
      refine W.block ?_
      refine W.seq ?_
      refine W.seq ?_
      refine W.sub [(4, _), (5, _), (6, _), (21, _)] ⟨rfl, rfl, rfl, rfl, trivial⟩ ?_
      refine W.reg [(0, false), (1, false)] (by kernel_rfl) ?_ -- region 10
      intro K hK
      refine x_eqS _ rfl rfl rfl rfl rfl rfl ?_ -- eq1 ref.go:100
      refine x_assign rfl rfl rfl rfl ?_
      refine Ex.done (hK _ _ ?_)
      refine At.then_n ?_
      refine W.cond rfl (fun hco3 => ?_) (fun hco3 => ?_) -- co3
      · try simp only [decide_eq_true_eq, decide_eq_false_iff_not, Bool.not_eq_true', Bool.not_eq_false', beq_iff_eq, bne_iff_ne, ne_eq, Bool.not_eq_eq_eq_not, Bool.not_true, Bool.not_false, beq_eq_false_iff_ne, bne_eq_false_iff_eq, Bool.not_not, gt_iff_lt, ge_iff_le] at hco3
        refine W.skip ?_
        refine At.then_n ?_
        refine W.condT (congrArg (fun b => some (Value.bool b)) (decide_eq_true hco3)) ?_ -- co4
        refine W.skip ?_
        refine At.blk_n ?_
        refine At.blk_n ?_
        refine At.then_n ?_
        refine W.sub [(4, _), (5, _), (6, _)] ⟨rfl, rfl, rfl, trivial⟩ ?_
        refine W.reg [(0, false), (1, false), (2, false)] (by kernel_rfl) ?_ -- region 7
        intro K hK
        refine x_move rfl rfl rfl rfl ?_
        refine x_add _ rfl rfl rfl rfl rfl (wadd (by omega) (by omega)) ?_ -- ar1 ref.go:98
        refine x_assign rfl rfl rfl rfl ?_
        refine Ex.done (hK _ _ ?_)
        -- bk1: back to loop1
        exact At.back ((q + 1, _)) ⟨rfl, rfl, rfl, trivial⟩ ⟨by simp; omega, A, Lo, by rw [htk, cleanStep_dot (.inl hco3)], by simp; omega, how, M⟩ (by first | omega | (simp only; omega) | (simp; done) | (simp; omega))
      · try simp only [decide_eq_true_eq, decide_eq_false_iff_not, Bool.not_eq_true', Bool.not_eq_false', beq_iff_eq, bne_iff_ne, ne_eq, Bool.not_eq_eq_eq_not, Bool.not_true, Bool.not_false, beq_eq_false_iff_ne, bne_eq_false_iff_eq, Bool.not_not, gt_iff_lt, ge_iff_le] at hco3
        refine W.sub [(4, _), (5, _), (6, _), (21, _)] ⟨rfl, rfl, rfl, rfl, trivial⟩ ?_
        refine W.reg [(0, false), (1, false)] (by kernel_rfl) ?_ -- region 11
        intro K hK
        refine x_eqS _ rfl rfl rfl rfl rfl rfl ?_ -- eq2 ref.go:100
        refine x_assign rfl rfl rfl rfl ?_
        refine Ex.done (hK _ _ ?_)
        refine At.then_n ?_
        refine W.cond rfl (fun hco5 => ?_) (fun hco5 => ?_) -- co5
        · try simp only [decide_eq_true_eq, decide_eq_false_iff_not, Bool.not_eq_true', Bool.not_eq_false', beq_iff_eq, bne_iff_ne, ne_eq, Bool.not_eq_eq_eq_not, Bool.not_true, Bool.not_false, beq_eq_false_iff_ne, bne_eq_false_iff_eq, Bool.not_not, gt_iff_lt, ge_iff_le] at hco5
          refine W.skip ?_
          refine At.blk_n ?_
          refine At.blk_n ?_
          refine At.then_n ?_
          refine W.sub [(4, _), (5, _), (6, _)] ⟨rfl, rfl, rfl, trivial⟩ ?_
          refine W.reg [(0, false), (1, false), (2, false)] (by kernel_rfl) ?_ -- region 7
          intro K hK
          refine x_move rfl rfl rfl rfl ?_
          refine x_add _ rfl rfl rfl rfl rfl (wadd (by omega) (by omega)) ?_ -- ar2 ref.go:98
          refine x_assign rfl rfl rfl rfl ?_
          refine Ex.done (hK _ _ ?_)
          -- bk2: back to loop1
          exact At.back ((q + 1, _)) ⟨rfl, rfl, rfl, trivial⟩ ⟨by simp; omega, A, Lo, by rw [htk, cleanStep_dot (.inr hco5)], by simp; omega, how, M⟩ (by first | omega | (simp only; omega) | (simp; done) | (simp; omega))
        · try simp only [decide_eq_true_eq, decide_eq_false_iff_not, Bool.not_eq_true', Bool.not_eq_false', beq_iff_eq, bne_iff_ne, ne_eq, Bool.not_eq_eq_eq_not, Bool.not_true, Bool.not_false, beq_eq_false_iff_ne, bne_eq_false_iff_eq, Bool.not_not, gt_iff_lt, ge_iff_le] at hco5
          refine W.seq ?_
          refine W.sub [(4, _), (5, _), (6, _), (21, _)] ⟨rfl, rfl, rfl, rfl, trivial⟩ ?_
          refine W.reg [(0, false), (1, false)] (by kernel_rfl) ?_ -- region 12
          intro K hK
          refine x_eqS _ rfl rfl rfl rfl rfl rfl ?_ -- eq3 ref.go:101
          refine x_assign rfl rfl rfl rfl ?_
          refine Ex.done (hK _ _ ?_)
          refine At.then_n ?_
          refine W.cond rfl (fun hco6 => ?_) (fun hco6 => ?_) -- co6
          · try simp only [decide_eq_true_eq, decide_eq_false_iff_not, Bool.not_eq_true', Bool.not_eq_false', beq_iff_eq, bne_iff_ne, ne_eq, Bool.not_eq_eq_eq_not, Bool.not_true, Bool.not_false, beq_eq_false_iff_ne, bne_eq_false_iff_eq, Bool.not_not, gt_iff_lt, ge_iff_le] at hco6
            refine W.seq ?_
            refine W.sub [(4, _), (5, _), (6, _)] ⟨rfl, rfl, rfl, trivial⟩ ?_
            refine W.reg [(0, false), (1, false), (2, false)] (by kernel_rfl) ?_ -- region 13
            intro K hK
            refine x_move rfl rfl rfl rfl ?_
            refine x_len rfl rfl rfl rfl Try.underlying22 rfl ?_
            refine x_gtr _ rfl rfl rfl rfl rfl rfl ?_ -- cm3 ref.go:102
            refine Ex.done (hK _ _ ?_)
            refine At.then_n ?_
            refine W.cond rfl (fun hco7 => ?_) (fun hco7 => ?_) -- co7
            · try simp only [decide_eq_true_eq, decide_eq_false_iff_not, Bool.not_eq_true', Bool.not_eq_false', beq_iff_eq, bne_iff_ne, ne_eq, Bool.not_eq_eq_eq_not, Bool.not_true, Bool.not_false, beq_eq_false_iff_ne, bne_eq_false_iff_eq, Bool.not_not, gt_iff_lt, ge_iff_le] at hco7
              refine W.sub [(4, _), (5, _), (6, _)] ⟨rfl, rfl, rfl, trivial⟩ ?_
              refine W.reg [(0, false), (1, false), (2, false), (3, false), (4, false), (5, false)] (by kernel_rfl) ?_ -- region 14
              intro K hK
              refine x_move rfl rfl rfl rfl ?_
              refine x_move rfl rfl rfl rfl ?_
              refine x_len rfl rfl rfl rfl Try.underlying22 rfl ?_
              refine x_sub ((A.length - 1 : Nat) : Int) rfl rfl rfl rfl rfl (by rw [w64 (by omega) (by omega)]; omega) ?_ -- ar3 ref.go:103
              refine x_slh (A.length - 1) rfl rfl rfl Try.underlying22 sz9 rfl rfl rfl (by omega) ?_ -- sl1 ref.go:103
              refine x_assign rfl rfl rfl rfl ?_
              refine Ex.done (hK _ _ ?_)
              refine At.blk_n ?_
              refine At.blk_n ?_
              refine At.then_n ?_
              refine W.sub [(4, _), (5, _), (6, _)] ⟨rfl, rfl, rfl, trivial⟩ ?_
              refine W.reg [(0, false), (1, false), (2, false)] (by kernel_rfl) ?_ -- region 7
              intro K hK
              refine x_move rfl rfl rfl rfl ?_
              refine x_add _ rfl rfl rfl rfl rfl (wadd (by omega) (by omega)) ?_ -- ar4 ref.go:98
              refine x_assign rfl rfl rfl rfl ?_
              refine Ex.done (hK _ _ ?_)
              -- bk3: back to loop1
              exact At.back ((q + 1, _)) ⟨rfl, rfl, rfl, trivial⟩ ⟨by simp; omega, A.take (A.length - 1), Lo, by rw [htk, cleanStep_up hco3 hco5 hco6], by simp; omega, strsO_take how (by omega), M⟩ (by first | omega | (simp only; omega) | (simp; done) | (simp; omega))
            · try simp only [decide_eq_true_eq, decide_eq_false_iff_not, Bool.not_eq_true', Bool.not_eq_false', beq_iff_eq, bne_iff_ne, ne_eq, Bool.not_eq_eq_eq_not, Bool.not_true, Bool.not_false, beq_eq_false_iff_ne, bne_eq_false_iff_eq, Bool.not_not, gt_iff_lt, ge_iff_le] at hco7
              refine W.skip ?_
              refine At.blk_n ?_
              refine At.blk_n ?_
              refine At.then_n ?_
              refine W.sub [(4, _), (5, _), (6, _)] ⟨rfl, rfl, rfl, trivial⟩ ?_
              refine W.reg [(0, false), (1, false), (2, false)] (by kernel_rfl) ?_ -- region 7
              intro K hK
              refine x_move rfl rfl rfl rfl ?_
              refine x_add _ rfl rfl rfl rfl rfl (wadd (by omega) (by omega)) ?_ -- ar5 ref.go:98
              refine x_assign rfl rfl rfl rfl ?_
              refine Ex.done (hK _ _ ?_)
              -- bk4: back to loop1
              exact At.back ((q + 1, _)) ⟨rfl, rfl, rfl, trivial⟩ ⟨by simp; omega, A, Lo, by rw [htk, cleanStep_up hco3 hco5 hco6, List.take_of_length_le (by omega)], by simp; omega, how, M⟩ (by first | omega | (simp only; omega) | (simp; done) | (simp; omega))
          · try simp only [decide_eq_true_eq, decide_eq_false_iff_not, Bool.not_eq_true', Bool.not_eq_false', beq_iff_eq, bne_iff_ne, ne_eq, Bool.not_eq_eq_eq_not, Bool.not_true, Bool.not_false, beq_eq_false_iff_ne, bne_eq_false_iff_eq, Bool.not_not, gt_iff_lt, ge_iff_le] at hco6
            refine W.sub [(4, _), (5, _), (6, _)] ⟨rfl, rfl, rfl, trivial⟩ ?_
            refine W.reg [(0, false), (1, false), (2, false), (3, false), (4, false), (5, true), (6, true), (7, false)] (by kernel_rfl) ?_ -- region 9
            intro K hK
            refine x_move rfl rfl rfl rfl ?_
            refine x_move rfl rfl rfl rfl ?_
            refine x_move rfl rfl rfl rfl ?_
            refine x_ia q rfl rfl rfl Try.underlying22 sz9 rfl rfl rfl (by omega) ?_ -- ia2 ref.go:106
            refine x_ld rfl rfl rfl Try.underlying9 rfl rfl (StrsAt.cell hAt hx) ?_ -- ld2 ref.go:106
            -- bs1: ref.go:106
            refine x_bs1 (cs := [strV x]) rfl rfl rfl Try.underlying22 sz9 ze9 (Z := [_]) rfl rfl (by decide) (by decide) rfl rfl rfl ?_
            intro bbs1 wbs1 hbbs1 hwbs1
            have M0 := M.acons hbbs1 hwbs1
            have hslbs1 : Sl wbs1 (.slice (some ⟨bbs1, 0, none⟩) 1 1) 1 1 [strV x] := .inr ⟨bbs1, 0, 1, _, _, _, rfl, by omega, M0.at_ 0 rfl, rfl, rfl⟩
            have M := M0.tail
            refine ⟨trivial, ?_⟩
            -- ap1: ref.go:106
            refine x_apL rfl rfl rfl rfl Try.underlying22 sz9 ze9 rfl by9 rfl rfl how (M.perm (List.perm_append_comm (l₁ := L1) (l₂ := Lo))) (strCs_one _) (hslbs1.src Try.underlying22 (by intro u hu; simp at hu; subst hu; rfl)) (by first | omega | (simp; omega)) (by decide) (by first | omega | (simp; omega)) ?_
            intro Lo v6 wap1 how M
            have M := M.perm List.perm_append_comm
            refine ⟨trivial, ?_⟩
            refine x_assign rfl rfl rfl rfl ?_
            refine Ex.done (hK _ _ ?_)
            refine At.blk_n ?_
            refine At.blk_n ?_
            refine At.then_n ?_
            refine W.sub [(4, _), (5, _), (6, _)] ⟨rfl, rfl, rfl, trivial⟩ ?_
            refine W.reg [(0, false), (1, false), (2, false)] (by kernel_rfl) ?_ -- region 7
            intro K hK
            refine x_move rfl rfl rfl rfl ?_
            refine x_add _ rfl rfl rfl rfl rfl (wadd (by omega) (by omega)) ?_ -- ar6 ref.go:98
            refine x_assign rfl rfl rfl rfl ?_
            refine Ex.done (hK _ _ ?_)
            -- bk5: back to loop1
            exact At.back ((q + 1, v6)) ⟨rfl, rfl, rfl, trivial⟩ ⟨by simp; omega, A ++ [x], Lo, by rw [htk, cleanStep_in hco3 hco5 hco6], by simp; omega, strsO_snoc how, M⟩ (by first | omega | (simp only; omega) | (simp; done) | (simp; omega))
    · try simp only [decide_eq_true_eq, decide_eq_false_iff_not, Bool.not_eq_true', Bool.not_eq_false', beq_iff_eq, bne_iff_ne, ne_eq, Bool.not_eq_eq_eq_not, Bool.not_true, Bool.not_false, beq_eq_false_iff_ne, bne_eq_false_iff_eq, Bool.not_not, gt_iff_lt, ge_iff_le] at hco2
      have hql : q = (splitS s).length := by omega
      subst hql
      rw [List.take_length] at hA
      refine W.exit ?_
      refine At.then_x ?_
      refine At.loop_x ?_
      refine At.blk_x ?_
      refine At.then_n ?_
      refine W.seq ?_
      refine W.sub [(4, _)] ⟨rfl, trivial⟩ ?_
      refine W.reg [(0, false), (1, true), (2, false), (3, false), (4, false), (5, false)] (by kernel_rfl) ?_ -- region 15
      intro K hK
      refine x_move rfl rfl rfl rfl ?_
      -- call2: valise/valiseref13.Join ref.go:109
      refine x_call rfl rfl rfl rfl rfl en20 (rjoin_c (strsO_at how M (fun _ h => List.mem_append_right _ h))) ?_
      rintro r w5 ⟨rfl, hn5⟩
      have M := M.new hn5
      refine ⟨trivial, ?_⟩
      refine x_ext rfl rfl rfl rfl rfl ?_ -- ex1
      refine x_ext rfl rfl rfl rfl rfl ?_ -- ex2
      refine x_assign rfl rfl rfl rfl ?_
      refine x_assign rfl rfl rfl rfl ?_
      refine Ex.done (hK _ _ ?_)
      refine At.then_n ?_
      refine W.ret ?_
      refine At.ret2 (.tmp 2) (.tmp 3) rfl ⟨rfl, rfl, trivial⟩ ?_ -- ret2
      rw [cleanP_join (by omega)]; have : cleanL s = A := hA.symm
      rw [this]; exact ⟨rfl, M.frm⟩
end Go.Proofs.Ytkieecaaijlokaa
