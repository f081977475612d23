/-
  The walk of functions, by program: rlist, rbelow, rcompare, same.
-/
import Derived.Test.YtkieecaaijlokaaW11
namespace Go.Proofs.Ytkieecaaijlokaa
open Go Go.Fw Go.RowKit Go.Proofs
set_option linter.unusedVariables false
set_option linter.unusedSimpArgs false

-- valise/valiseref13.list
set_option maxRecDepth 100000 in
theorem rlist_c {w0 : World} {s : List UInt8} (hl : s.length ≤ 1099511627776) : Ret Try.prog 38 #[strV s] w0 fun r w' => ∃ Lr, Sep w0 Lr w' ∧ StrsO Lr r (namesP s) := by
  have M : Sep w0 [] w0 := St.nil w0
  refine Ret.of_W Try.func38 rfl Try.ntmps38 rfl ?_
  refine W.seq ?_
  refine W.sub [(0, _)] ⟨rfl, trivial⟩ ?_
  refine W.reg [(0, false)] (by kernel_rfl) ?_ -- region 0
  intro K hK
  refine x_assign rfl rfl rfl rfl ?_
  refine Ex.done (hK _ _ ?_)
  refine At.then_n ?_
  refine W.seq ?_
  refine W.seq ?_
  refine W.sub [(0, _)] ⟨rfl, trivial⟩ ?_
  refine W.reg [(0, false), (1, false)] (by kernel_rfl) ?_ -- region 1
  intro K hK
  refine x_move rfl rfl rfl rfl ?_
  refine x_eqS _ rfl rfl rfl rfl rfl rfl ?_ -- eq1 ref.go:151
  refine Ex.done (hK _ _ ?_)
  refine At.then_n ?_
  refine W.cond rfl (fun hco1 => ?_) (fun hco1 => ?_) -- co1
  · try simp only [decide_eq_true_eq, decide_eq_false_iff_not, Bool.not_eq_true', Bool.not_eq_false', beq_iff_eq, bne_iff_ne, ne_eq, Bool.not_eq_eq_eq_not, Bool.not_true, Bool.not_false, beq_eq_false_iff_ne, bne_eq_false_iff_eq, Bool.not_not, gt_iff_lt, ge_iff_le] at hco1
    refine W.seq ?_
    refine W.sub [] trivial ?_
    refine W.reg [(0, false)] (by kernel_rfl) ?_ -- region 2
    intro K hK
    refine x_assign rfl rfl rfl rfl ?_
    refine Ex.done (hK _ _ ?_)
    refine At.then_n ?_
    refine W.ret ?_
    refine At.then_r ?_
    refine At.ret1 (.tmp 2) rfl ⟨rfl, trivial⟩ ?_ -- ret1
    subst hco1; exact ⟨[], M.frm, OwL.nil⟩
  · try simp only [decide_eq_true_eq, decide_eq_false_iff_not, Bool.not_eq_true', Bool.not_eq_false', beq_iff_eq, bne_iff_ne, ne_eq, Bool.not_eq_eq_eq_not, Bool.not_true, Bool.not_false, beq_eq_false_iff_ne, bne_eq_false_iff_eq, Bool.not_not, gt_iff_lt, ge_iff_le] at hco1
    refine W.skip ?_
    refine At.then_n ?_
    refine W.seq ?_
    refine W.sub [(0, _)] ⟨rfl, trivial⟩ ?_
    refine W.reg [(0, false), (1, true), (2, false)] (by kernel_rfl) ?_ -- region 3
    intro K hK
    refine x_move rfl rfl rfl rfl ?_
    -- call1: valise/valiseref13.Pieces ref.go:154
    refine x_call rfl rfl rfl rfl rfl en31 (rpieces_c (by omega)) ?_
    rintro v1 w1 ⟨L1, M1, hs1⟩
    have M := M.grow M1
    refine ⟨trivial, ?_⟩
    refine x_assign rfl rfl rfl rfl ?_
    refine Ex.done (hK _ _ ?_)
    refine At.then_n ?_
    refine W.ret ?_
    refine At.ret1 (.tmp 2) rfl ⟨rfl, trivial⟩ ?_ -- ret2
    rw [namesP_some hco1]; exact ⟨L1, M, hs1⟩

-- valise/valiseref13.below
set_option maxRecDepth 100000 in
theorem rbelow_c {w0 : World} {a b : List UInt8} (hl : a.length ≤ 9223372036854775807) : Ret Try.prog 39 #[strV a, strV b] w0 fun r w' => r = .bool (decide (Lib.compareBytes a b < 0)) ∧ New w0 w' := by
  have M : Sep w0 [] w0 := St.nil w0
  refine Ret.of_W Try.func39 rfl Try.ntmps39 rfl ?_
  refine W.seq ?_
  refine W.sub [(0, _), (1, _)] ⟨rfl, rfl, trivial⟩ ?_
  refine W.reg [(0, false)] (by kernel_rfl) ?_ -- region 0
  intro K hK
  refine x_assign rfl rfl rfl rfl ?_
  refine Ex.done (hK _ _ ?_)
  refine At.then_n ?_
  refine W.seq ?_
  refine W.seq ?_
  refine W.sub [(0, _), (1, _)] ⟨rfl, rfl, trivial⟩ ?_
  refine W.reg [(0, false)] (by kernel_rfl) ?_ -- region 1
  intro K hK
  refine x_assign rfl rfl rfl rfl ?_
  refine Ex.done (hK _ _ ?_)
  refine At.then_n ?_
  refine W.block ?_
  refine W.loop (σ := Nat) (fun q => [(0, _), (1, _), (5, .int .i64 ((q : Nat) : Int))]) (fun q w => q ≤ a.length ∧ q ≤ b.length ∧ Lib.compareBytes a b = Lib.compareBytes (a.drop q) (b.drop q) ∧ Sep w0 [] w) (fun q => a.length - q) 0 ⟨rfl, rfl, rfl, trivial⟩ ⟨Nat.zero_le _, Nat.zero_le _, rfl, M⟩ ?_ -- loop1
  rintro q w ⟨hqa, hqb, hcmp, M⟩
  refine W.seq ?_
  refine W.seq ?_
  refine W.sub [(0, _), (1, _), (5, _)] ⟨rfl, rfl, rfl, trivial⟩ ?_
  refine W.reg [(0, false), (1, false), (2, false), (3, false), (4, false), (5, false), (6, false), (7, false), (8, false), (9, false)] (by kernel_rfl) ?_ -- region 2
  intro K hK
  refine x_move rfl rfl rfl rfl ?_
  refine x_move rfl rfl rfl rfl ?_
  refine x_lenS rfl rfl rfl rfl Try.underlying9 rfl ?_
  refine x_lss _ rfl rfl rfl rfl rfl rfl ?_ -- cm1 ref.go:141
  refine x_move rfl rfl rfl rfl ?_
  refine Ex.split 10 rfl (fun hsp1 => ?_) (fun hsp1 => ?_)
  · -- sp1 True
    try simp only [decide_eq_true_eq, decide_eq_false_iff_not, Bool.not_eq_true', Bool.not_eq_false', beq_iff_eq, bne_iff_ne, ne_eq, Bool.not_eq_eq_eq_not, Bool.not_true, Bool.not_false, beq_eq_false_iff_ne, bne_eq_false_iff_eq, Bool.not_not, gt_iff_lt, ge_iff_le] at hsp1
    refine x_move rfl rfl rfl rfl ?_
    refine x_move rfl rfl rfl rfl ?_
    refine x_lenS rfl rfl rfl rfl Try.underlying9 rfl ?_
    refine x_lss _ rfl rfl rfl rfl rfl rfl ?_ -- cm2 ref.go:141
    refine x_pickT rfl rfl rfl rfl rfl ?_
    refine Ex.done (hK _ _ ?_)
    refine At.then_n ?_
    refine W.cond rfl (fun hco1 => ?_) (fun hco1 => ?_) -- co1
    · try simp only [decide_eq_true_eq, decide_eq_false_iff_not, Bool.not_eq_true', Bool.not_eq_false', beq_iff_eq, bne_iff_ne, ne_eq, Bool.not_eq_eq_eq_not, Bool.not_true, Bool.not_false, beq_eq_false_iff_ne, bne_eq_false_iff_eq, Bool.not_not, gt_iff_lt, ge_iff_le] at hco1
      obtain ⟨c, hc⟩ := get_lt (l := a) (q := q) (by omega)
      obtain ⟨d, hd⟩ := get_lt (l := b) (q := q) (by omega)
      refine W.skip ?_
      refine At.then_n ?_
      refine W.seq ?_
      refine W.block ?_
      refine W.seq ?_
      refine W.sub [(0, _), (1, _), (5, _)] ⟨rfl, rfl, rfl, trivial⟩ ?_
      refine W.regD (by kernel_rfl) #[0, 0, 3, 0, 0, 24, 63] [(0, false), (1, false), (2, false), (3, false), (4, false), (5, false), (6, false)] (by kernel_rfl) ?_ -- region 4
      intro K wD1 hK hwD1
      have M := M.drew hwD1
      refine x_move rfl rfl rfl rfl ?_
      refine x_move rfl rfl rfl rfl ?_
      refine x_ixS q rfl rfl rfl Try.underlying9 rfl rfl rfl hc ?_ -- ix1 ref.go:142
      refine x_move rfl rfl rfl rfl ?_
      refine x_move rfl rfl rfl rfl ?_
      refine x_ixS q rfl rfl rfl Try.underlying9 rfl rfl rfl hd ?_ -- ix2 ref.go:142
      refine x_nei _ rfl rfl rfl rfl rfl rfl ?_ -- eq1 ref.go:142
      refine Ex.done (hK _ _ ?_)
      refine At.then_n ?_
      refine W.cond rfl (fun hco2 => ?_) (fun hco2 => ?_) -- co2
      · try simp only [decide_eq_true_eq, decide_eq_false_iff_not, Bool.not_eq_true', Bool.not_eq_false', beq_iff_eq, bne_iff_ne, ne_eq, Bool.not_eq_eq_eq_not, Bool.not_true, Bool.not_false, beq_eq_false_iff_ne, bne_eq_false_iff_eq, Bool.not_not, gt_iff_lt, ge_iff_le] at hco2
        refine W.seq ?_
        refine W.sub [(0, _), (1, _), (5, _)] ⟨rfl, rfl, rfl, trivial⟩ ?_
        refine W.regD (by kernel_rfl) #[0, 0, 3, 0, 0, 24, 63, 127] [(0, false), (1, false), (2, false), (3, false), (4, false), (5, false), (6, false), (7, false)] (by kernel_rfl) ?_ -- region 5
        intro K wD2 hK hwD2
        have M := M.drew hwD2
        refine x_move rfl rfl rfl rfl ?_
        refine x_move rfl rfl rfl rfl ?_
        refine x_ixS q rfl rfl rfl Try.underlying9 rfl rfl rfl hc ?_ -- ix3 ref.go:143
        refine x_move rfl rfl rfl rfl ?_
        refine x_move rfl rfl rfl rfl ?_
        refine x_ixS q rfl rfl rfl Try.underlying9 rfl rfl rfl hd ?_ -- ix4 ref.go:143
        refine x_lss _ rfl rfl rfl rfl rfl rfl ?_ -- cm3 ref.go:143
        refine x_assign rfl rfl rfl rfl ?_
        refine Ex.done (hK _ _ ?_)
        refine At.then_n ?_
        refine W.ret ?_
        refine At.blk_r ?_
        refine At.then_r ?_
        refine At.loop_r ?_
        refine At.blk_r ?_
        refine At.then_r ?_
        refine At.ret1 (.tmp 4) rfl ⟨rfl, trivial⟩ ?_ -- ret1
        have hne : c ≠ d := fun e => hco2 (by rw [e])
        refine ⟨?_, M.frm⟩
        rw [hcmp, cmp_ne hc hd hne]
        congr 1
        rw [Bool.eq_iff_iff, decide_eq_true_eq, decide_eq_true_eq]
        by_cases h : c < d
        · rw [if_pos h]; rw [UInt8.lt_iff_toNat_lt] at h; omega
        · rw [if_neg h]; rw [UInt8.lt_iff_toNat_lt] at h; omega
      · try simp only [decide_eq_true_eq, decide_eq_false_iff_not, Bool.not_eq_true', Bool.not_eq_false', beq_iff_eq, bne_iff_ne, ne_eq, Bool.not_eq_eq_eq_not, Bool.not_true, Bool.not_false, beq_eq_false_iff_ne, bne_eq_false_iff_eq, Bool.not_not, gt_iff_lt, ge_iff_le] at hco2
        have hcd : c = d := UInt8.toNat_inj.1 (by omega)
        subst hcd
        refine W.skip ?_
        refine At.blk_n ?_
        refine At.then_n ?_
        refine W.sub [(0, _), (1, _), (5, _)] ⟨rfl, rfl, rfl, trivial⟩ ?_
        refine W.reg [(0, false), (1, false), (2, false)] (by kernel_rfl) ?_ -- region 3
        intro K hK
        refine x_move rfl rfl rfl rfl ?_
        refine x_add _ rfl rfl rfl rfl rfl (wadd (by omega) (by omega)) ?_ -- ar1 ref.go:141
        refine x_assign rfl rfl rfl rfl ?_
        refine Ex.done (hK _ _ ?_)
        -- bk1: back to loop1
        exact At.back (q + 1) ⟨rfl, rfl, rfl, trivial⟩ ⟨by omega, by omega, by rw [hcmp, cmp_drop hc hd], M⟩ (by first | omega | (simp only; omega) | (simp; done) | (simp; omega))
    · try simp only [decide_eq_true_eq, decide_eq_false_iff_not, Bool.not_eq_true', Bool.not_eq_false', beq_iff_eq, bne_iff_ne, ne_eq, Bool.not_eq_eq_eq_not, Bool.not_true, Bool.not_false, beq_eq_false_iff_ne, bne_eq_false_iff_eq, Bool.not_not, gt_iff_lt, ge_iff_le] at hco1
      refine W.exit ?_
      refine At.then_x ?_
      refine At.loop_x ?_
      refine At.blk_x ?_
      refine At.then_n ?_
      refine W.seq ?_
      refine W.sub [(0, _), (1, _)] ⟨rfl, rfl, trivial⟩ ?_
      refine W.reg [(0, false), (1, false), (2, false), (3, false), (4, false), (5, false)] (by kernel_rfl) ?_ -- region 6
      intro K hK
      refine x_move rfl rfl rfl rfl ?_
      refine x_lenS rfl rfl rfl rfl Try.underlying9 rfl ?_
      refine x_move rfl rfl rfl rfl ?_
      refine x_lenS rfl rfl rfl rfl Try.underlying9 rfl ?_
      refine x_lss _ rfl rfl rfl rfl rfl rfl ?_ -- cm4 ref.go:146
      refine x_assign rfl rfl rfl rfl ?_
      refine Ex.done (hK _ _ ?_)
      refine At.then_n ?_
      refine W.ret ?_
      refine At.ret1 (.tmp 4) rfl ⟨rfl, trivial⟩ ?_ -- ret2
      refine ⟨?_, M.frm⟩
      rw [hcmp, cmp_end (by omega) ⟨hqa, hqb⟩]
      congr 1
      rw [Bool.eq_iff_iff, decide_eq_true_eq, decide_eq_true_eq]
      split
      · omega
      · split <;> omega
  · -- sp1 False
    try simp only [decide_eq_true_eq, decide_eq_false_iff_not, Bool.not_eq_true', Bool.not_eq_false', beq_iff_eq, bne_iff_ne, ne_eq, Bool.not_eq_eq_eq_not, Bool.not_true, Bool.not_false, beq_eq_false_iff_ne, bne_eq_false_iff_eq, Bool.not_not, gt_iff_lt, ge_iff_le] at hsp1
    refine Ex.skip_ rfl rfl rfl ?_
    refine Ex.skip_ rfl rfl rfl ?_
    refine Ex.skip_ rfl rfl rfl ?_
    refine Ex.skip_ rfl rfl rfl ?_
    refine x_pickF rfl rfl rfl rfl rfl ?_
    refine Ex.done (hK _ _ ?_)
    refine At.then_n ?_
    refine W.condF rfl ?_ -- co3
    refine W.exit ?_
    refine At.then_x ?_
    refine At.loop_x ?_
    refine At.blk_x ?_
    refine At.then_n ?_
    refine W.seq ?_
    refine W.sub [(0, _), (1, _)] ⟨rfl, rfl, trivial⟩ ?_
    refine W.reg [(0, false), (1, false), (2, false), (3, false), (4, false), (5, false)] (by kernel_rfl) ?_ -- region 6
    intro K hK
    refine x_move rfl rfl rfl rfl ?_
    refine x_lenS rfl rfl rfl rfl Try.underlying9 rfl ?_
    refine x_move rfl rfl rfl rfl ?_
    refine x_lenS rfl rfl rfl rfl Try.underlying9 rfl ?_
    refine x_lss _ rfl rfl rfl rfl rfl rfl ?_ -- cm5 ref.go:146
    refine x_assign rfl rfl rfl rfl ?_
    refine Ex.done (hK _ _ ?_)
    refine At.then_n ?_
    refine W.ret ?_
    refine At.ret1 (.tmp 4) rfl ⟨rfl, trivial⟩ ?_ -- ret3
    refine ⟨?_, M.frm⟩
    rw [hcmp, cmp_end (by omega) ⟨hqa, hqb⟩]
    congr 1
    rw [Bool.eq_iff_iff, decide_eq_true_eq, decide_eq_true_eq]
    split
    · omega
    · split <;> omega

-- valise/valiseref13.Compare
set_option maxRecDepth 100000 in
theorem rcompare_c {w0 : World} {a b : List UInt8} (hla : a.length ≤ 1099511627776) (hlb : b.length ≤ 1099511627776) : Ret Try.prog 28 #[strV a, strV b] w0 fun r w' => r = .int .i64 (compareP a b) ∧ New w0 w' := by
  have M : Sep w0 [] w0 := St.nil w0
  refine Ret.of_W Try.func28 rfl Try.ntmps28 rfl ?_
  refine W.seq ?_
  refine W.sub [(0, _), (1, _)] ⟨rfl, rfl, trivial⟩ ?_
  refine W.reg [(0, false)] (by kernel_rfl) ?_ -- region 0
  intro K hK
  refine x_assign rfl rfl rfl rfl ?_
  refine Ex.done (hK _ _ ?_)
  refine At.then_n ?_
  refine W.seq ?_
  refine W.sub [(0, _), (1, _)] ⟨rfl, rfl, trivial⟩ ?_
  refine W.reg [(0, false), (1, true), (2, false), (3, true), (4, false), (5, false)] (by kernel_rfl) ?_ -- region 1
  intro K hK
  refine x_move rfl rfl rfl rfl ?_
  -- call1: valise/valiseref13.list ref.go:159
  refine x_call rfl rfl rfl rfl rfl en38 (rlist_c hla) ?_
  rintro v1 w1 ⟨L1, M1, hs1⟩
  have M := M.grow M1
  have hok1 := (namesP_cut (p := a) (by omega)).1
  have hln1 := namesP_len a
  have hC : compareP a b = compareL (namesP a) (namesP b) := rfl
  generalize hA : namesP a = A at hs1 hok1 hC hln1
  obtain ⟨p1, cap1, rfl⟩ := hs1.shape
  refine ⟨trivial, ?_⟩
  refine x_move rfl rfl rfl rfl ?_
  -- call2: valise/valiseref13.list ref.go:159
  refine x_call rfl rfl rfl rfl rfl en38 (rlist_c hlb) ?_
  rintro v2 w2 ⟨L2, M2, hs2⟩
  have M := M.grow M2
  have hok2 := (namesP_cut (p := b) (by omega)).1
  have hln2 := namesP_len b
  generalize hB : namesP b = B at hs2 hok2 hC hln2
  obtain ⟨p2, cap2, rfl⟩ := hs2.shape
  refine ⟨trivial, ?_⟩
  refine x_assign rfl rfl rfl rfl ?_
  refine x_assign rfl rfl rfl rfl ?_
  refine Ex.done (hK _ _ ?_)
  refine At.then_n ?_
  refine W.seq ?_
  refine W.seq ?_
  refine W.sub [(5, _), (6, _)] ⟨rfl, rfl, trivial⟩ ?_
  refine W.reg [(0, false)] (by kernel_rfl) ?_ -- region 2
  intro K hK
  refine x_assign rfl rfl rfl rfl ?_
  refine Ex.done (hK _ _ ?_)
  refine At.then_n ?_
  refine W.block ?_
  refine W.loop (σ := Nat) (fun q => [(5, _), (6, _), (7, .int .i64 ((q : Nat) : Int))]) (fun q w => q ≤ A.length ∧ q ≤ B.length ∧ compareP a b = compareL (A.drop q) (B.drop q) ∧ Sep w0 (L1 ++ L2) w) (fun q => A.length - q) 0 ⟨rfl, rfl, rfl, trivial⟩ ⟨Nat.zero_le _, Nat.zero_le _, hC, M⟩ ?_ -- loop1
  rintro q w ⟨hqa, hqb, hcmp, M⟩
  refine W.seq ?_
  refine W.seq ?_
  refine W.sub [(5, _), (6, _), (7, _)] ⟨rfl, rfl, rfl, trivial⟩ ?_
  refine W.reg [(0, false), (1, false), (2, false), (3, false), (4, false), (5, false), (6, false), (7, false), (8, false), (9, false)] (by kernel_rfl) ?_ -- region 3
  intro K hK
  refine x_move rfl rfl rfl rfl ?_
  refine x_move rfl rfl rfl rfl ?_
  refine x_len rfl rfl rfl rfl Try.underlying22 rfl ?_
  refine x_lss _ rfl rfl rfl rfl rfl rfl ?_ -- cm1 ref.go:160
  refine x_move rfl rfl rfl rfl ?_
  refine Ex.split 16 rfl (fun hsp1 => ?_) (fun hsp1 => ?_)
  · -- sp1 True
    try simp only [decide_eq_true_eq, decide_eq_false_iff_not, Bool.not_eq_true', Bool.not_eq_false', beq_iff_eq, bne_iff_ne, ne_eq, Bool.not_eq_eq_eq_not, Bool.not_true, Bool.not_false, beq_eq_false_iff_ne, bne_eq_false_iff_eq, Bool.not_not, gt_iff_lt, ge_iff_le] at hsp1
    refine x_move rfl rfl rfl rfl ?_
    refine x_move rfl rfl rfl rfl ?_
    refine x_len rfl rfl rfl rfl Try.underlying22 rfl ?_
    refine x_lss _ rfl rfl rfl rfl rfl rfl ?_ -- cm2 ref.go:160
    refine x_pickT rfl rfl rfl rfl rfl ?_
    refine Ex.done (hK _ _ ?_)
    refine At.then_n ?_
    refine W.cond rfl (fun hco1 => ?_) (fun hco1 => ?_) -- co1
    · try simp only [decide_eq_true_eq, decide_eq_false_iff_not, Bool.not_eq_true', Bool.not_eq_false', beq_iff_eq, bne_iff_ne, ne_eq, Bool.not_eq_eq_eq_not, Bool.not_true, Bool.not_false, beq_eq_false_iff_ne, bne_eq_false_iff_eq, Bool.not_not, gt_iff_lt, ge_iff_le] at hco1
      obtain ⟨y, hy⟩ := get_lt (l := B) (q := q) (by omega)
      obtain ⟨x, hx⟩ := get_lt (l := A) (q := q) (by omega)
      obtain ⟨bk1, off1, rfl, _⟩ := (strsO_at hs1 M (fun _ h => List.mem_append_left _ h)).blk (j := q) (by omega)
      obtain ⟨bk2, off2, rfl, _⟩ := (strsO_at hs2 M (fun _ h => List.mem_append_right _ h)).blk (j := q) (by omega)
      have hst := compareL_step hx hy
      have hcc := cmp_cases x y
      have hsw := cmp_swap x y
      have hxl := mem_joinS_le (List.mem_of_getElem? hx)
      have hyl := mem_joinS_le (List.mem_of_getElem? hy)
      have hj1 := hok1.2
      have hj2 := hok2.2
      refine W.skip ?_
      refine At.then_n ?_
      refine W.seq ?_
      refine W.block ?_
      refine W.seq ?_
      refine W.seq ?_
      refine W.sub [(5, _), (6, _), (7, _)] ⟨rfl, rfl, rfl, trivial⟩ ?_
      refine W.regD (by kernel_rfl) #[0, 0, 3, 7, 0, 0, 48, 112, 255] [(0, false), (1, false), (2, false), (3, false), (4, false), (5, false), (6, false), (7, false), (8, true)] (by kernel_rfl) ?_ -- region 5
      intro K wD1 hK hwD1
      have M := M.drew hwD1
      refine x_move rfl rfl rfl rfl ?_
      refine x_move rfl rfl rfl rfl ?_
      refine x_ia q rfl rfl rfl Try.underlying22 sz9 rfl rfl rfl (by omega) ?_ -- ia1 ref.go:161
      refine x_ld rfl rfl rfl Try.underlying9 rfl rfl (StrsAt.cell (strsO_at hs1 M (fun _ h => List.mem_append_left _ h)) hx) ?_ -- ld1 ref.go:161
      refine x_move rfl rfl rfl rfl ?_
      refine x_move rfl rfl rfl rfl ?_
      refine x_ia q rfl rfl rfl Try.underlying22 sz9 rfl rfl rfl (by omega) ?_ -- ia2 ref.go:161
      refine x_ld rfl rfl rfl Try.underlying9 rfl rfl (StrsAt.cell (strsO_at hs2 M (fun _ h => List.mem_append_right _ h)) hy) ?_ -- ld2 ref.go:161
      -- call3: valise/valiseref13.below ref.go:161
      refine x_call rfl rfl rfl rfl rfl en39 (rbelow_c (by omega)) ?_
      rintro r w3 ⟨rfl, hn3⟩
      have M := M.new hn3
      refine ⟨⟨.inl (by kernel_rfl), .inl (by kernel_rfl), trivial⟩, ?_⟩
      refine Ex.done (hK _ _ ?_)
      refine At.then_n ?_
      refine W.cond rfl (fun hco2 => ?_) (fun hco2 => ?_) -- co2
      · try simp only [decide_eq_true_eq, decide_eq_false_iff_not, Bool.not_eq_true', Bool.not_eq_false', beq_iff_eq, bne_iff_ne, ne_eq, Bool.not_eq_eq_eq_not, Bool.not_true, Bool.not_false, beq_eq_false_iff_ne, bne_eq_false_iff_eq, Bool.not_not, gt_iff_lt, ge_iff_le] at hco2
        refine W.seq ?_
        refine W.sub [] trivial ?_
        refine W.reg [(0, false)] (by kernel_rfl) ?_ -- region 6
        intro K hK
        refine x_assign rfl rfl rfl rfl ?_
        refine Ex.done (hK _ _ ?_)
        refine At.then_n ?_
        refine W.ret ?_
        refine At.then_r ?_
        refine At.blk_r ?_
        refine At.then_r ?_
        refine At.loop_r ?_
        refine At.blk_r ?_
        refine At.then_r ?_
        refine At.ret1 (.tmp 4) rfl ⟨rfl, trivial⟩ ?_ -- ret1
        have h1 : Lib.compareBytes x y = -1 := by rcases hcc with h | h | h <;> omega
        exact ⟨by rw [hcmp, hst, h1]; rfl, M.frm⟩
      · try simp only [decide_eq_true_eq, decide_eq_false_iff_not, Bool.not_eq_true', Bool.not_eq_false', beq_iff_eq, bne_iff_ne, ne_eq, Bool.not_eq_eq_eq_not, Bool.not_true, Bool.not_false, beq_eq_false_iff_ne, bne_eq_false_iff_eq, Bool.not_not, gt_iff_lt, ge_iff_le] at hco2
        refine W.skip ?_
        refine At.then_n ?_
        refine W.seq ?_
        refine W.sub [(5, _), (6, _), (7, _)] ⟨rfl, rfl, rfl, trivial⟩ ?_
        refine W.regD (by kernel_rfl) #[0, 0, 3, 7, 0, 0, 48, 112, 255] [(0, false), (1, false), (2, false), (3, false), (4, false), (5, false), (6, false), (7, false), (8, true)] (by kernel_rfl) ?_ -- region 7
        intro K wD2 hK hwD2
        have M := M.drew hwD2
        refine x_move rfl rfl rfl rfl ?_
        refine x_move rfl rfl rfl rfl ?_
        refine x_ia q rfl rfl rfl Try.underlying22 sz9 rfl rfl rfl (by omega) ?_ -- ia3 ref.go:164
        refine x_ld rfl rfl rfl Try.underlying9 rfl rfl (StrsAt.cell (strsO_at hs2 M (fun _ h => List.mem_append_right _ h)) hy) ?_ -- ld3 ref.go:164
        refine x_move rfl rfl rfl rfl ?_
        refine x_move rfl rfl rfl rfl ?_
        refine x_ia q rfl rfl rfl Try.underlying22 sz9 rfl rfl rfl (by omega) ?_ -- ia4 ref.go:164
        refine x_ld rfl rfl rfl Try.underlying9 rfl rfl (StrsAt.cell (strsO_at hs1 M (fun _ h => List.mem_append_left _ h)) hx) ?_ -- ld4 ref.go:164
        -- call4: valise/valiseref13.below ref.go:164
        refine x_call rfl rfl rfl rfl rfl en39 (rbelow_c (by omega)) ?_
        rintro r w4 ⟨rfl, hn4⟩
        have M := M.new hn4
        refine ⟨⟨.inl (by kernel_rfl), .inl (by kernel_rfl), trivial⟩, ?_⟩
        refine Ex.done (hK _ _ ?_)
        refine At.then_n ?_
        refine W.cond rfl (fun hco3 => ?_) (fun hco3 => ?_) -- co3
        · try simp only [decide_eq_true_eq, decide_eq_false_iff_not, Bool.not_eq_true', Bool.not_eq_false', beq_iff_eq, bne_iff_ne, ne_eq, Bool.not_eq_eq_eq_not, Bool.not_true, Bool.not_false, beq_eq_false_iff_ne, bne_eq_false_iff_eq, Bool.not_not, gt_iff_lt, ge_iff_le] at hco3
          refine W.seq ?_
          refine W.sub [] trivial ?_
          refine W.reg [(0, false)] (by kernel_rfl) ?_ -- region 8
          intro K hK
          refine x_assign rfl rfl rfl rfl ?_
          refine Ex.done (hK _ _ ?_)
          refine At.then_n ?_
          refine W.ret ?_
          refine At.blk_r ?_
          refine At.then_r ?_
          refine At.loop_r ?_
          refine At.blk_r ?_
          refine At.then_r ?_
          refine At.ret1 (.tmp 4) rfl ⟨rfl, trivial⟩ ?_ -- ret2
          have h1 : Lib.compareBytes x y = 1 := by rcases hcc with h | h | h <;> omega
          exact ⟨by rw [hcmp, hst, h1]; rfl, M.frm⟩
        · try simp only [decide_eq_true_eq, decide_eq_false_iff_not, Bool.not_eq_true', Bool.not_eq_false', beq_iff_eq, bne_iff_ne, ne_eq, Bool.not_eq_eq_eq_not, Bool.not_true, Bool.not_false, beq_eq_false_iff_ne, bne_eq_false_iff_eq, Bool.not_not, gt_iff_lt, ge_iff_le] at hco3
          refine W.skip ?_
          refine At.blk_n ?_
          refine At.then_n ?_
          refine W.sub [(5, _), (6, _), (7, _)] ⟨rfl, rfl, rfl, trivial⟩ ?_
          refine W.reg [(0, false), (1, false), (2, false)] (by kernel_rfl) ?_ -- region 4
          intro K hK
          refine x_move rfl rfl rfl rfl ?_
          refine x_add _ rfl rfl rfl rfl rfl (wadd (by omega) (by omega)) ?_ -- ar1 ref.go:160
          refine x_assign rfl rfl rfl rfl ?_
          refine Ex.done (hK _ _ ?_)
          -- bk1: back to loop1
          exact At.back (q + 1) ⟨rfl, rfl, rfl, trivial⟩ ⟨by omega, by omega, by rw [hcmp, hst, if_neg (by omega)], M⟩ (by first | omega | (simp only; omega) | (simp; done) | (simp; omega))
    · try simp only [decide_eq_true_eq, decide_eq_false_iff_not, Bool.not_eq_true', Bool.not_eq_false', beq_iff_eq, bne_iff_ne, ne_eq, Bool.not_eq_eq_eq_not, Bool.not_true, Bool.not_false, beq_eq_false_iff_ne, bne_eq_false_iff_eq, Bool.not_not, gt_iff_lt, ge_iff_le] at hco1
      refine W.exit ?_
      refine At.then_x ?_
      refine At.loop_x ?_
      refine At.blk_x ?_
      refine At.then_n ?_
      refine W.seq ?_
      refine W.seq ?_
      refine W.sub [(5, _), (6, _)] ⟨rfl, rfl, trivial⟩ ?_
      refine W.reg [(0, false), (1, false), (2, false), (3, false), (4, false)] (by kernel_rfl) ?_ -- region 9
      intro K hK
      refine x_move rfl rfl rfl rfl ?_
      refine x_len rfl rfl rfl rfl Try.underlying22 rfl ?_
      refine x_move rfl rfl rfl rfl ?_
      refine x_len rfl rfl rfl rfl Try.underlying22 rfl ?_
      refine x_lss _ rfl rfl rfl rfl rfl rfl ?_ -- cm3 ref.go:168
      refine Ex.done (hK _ _ ?_)
      refine At.then_n ?_
      refine W.cond rfl (fun hco4 => ?_) (fun hco4 => ?_) -- co4
      · try simp only [decide_eq_true_eq, decide_eq_false_iff_not, Bool.not_eq_true', Bool.not_eq_false', beq_iff_eq, bne_iff_ne, ne_eq, Bool.not_eq_eq_eq_not, Bool.not_true, Bool.not_false, beq_eq_false_iff_ne, bne_eq_false_iff_eq, Bool.not_not, gt_iff_lt, ge_iff_le] at hco4
        refine W.seq ?_
        refine W.sub [] trivial ?_
        refine W.reg [(0, false)] (by kernel_rfl) ?_ -- region 10
        intro K hK
        refine x_assign rfl rfl rfl rfl ?_
        refine Ex.done (hK _ _ ?_)
        refine At.then_n ?_
        refine W.ret ?_
        refine At.then_r ?_
        refine At.ret1 (.tmp 4) rfl ⟨rfl, trivial⟩ ?_ -- ret3
        exact ⟨by rw [hcmp, compareL_end (by omega) ⟨hqa, hqb⟩]; congr 1; split <;> (try split) <;> omega, M.frm⟩
      · try simp only [decide_eq_true_eq, decide_eq_false_iff_not, Bool.not_eq_true', Bool.not_eq_false', beq_iff_eq, bne_iff_ne, ne_eq, Bool.not_eq_eq_eq_not, Bool.not_true, Bool.not_false, beq_eq_false_iff_ne, bne_eq_false_iff_eq, Bool.not_not, gt_iff_lt, ge_iff_le] at hco4
        refine W.skip ?_
        refine At.then_n ?_
        refine W.seq ?_
        refine W.seq ?_
        refine W.sub [(5, _), (6, _)] ⟨rfl, rfl, trivial⟩ ?_
        refine W.reg [(0, false), (1, false), (2, false), (3, false), (4, false)] (by kernel_rfl) ?_ -- region 11
        intro K hK
        refine x_move rfl rfl rfl rfl ?_
        refine x_len rfl rfl rfl rfl Try.underlying22 rfl ?_
        refine x_move rfl rfl rfl rfl ?_
        refine x_len rfl rfl rfl rfl Try.underlying22 rfl ?_
        refine x_gtr _ rfl rfl rfl rfl rfl rfl ?_ -- cm4 ref.go:171
        refine Ex.done (hK _ _ ?_)
        refine At.then_n ?_
        refine W.cond rfl (fun hco5 => ?_) (fun hco5 => ?_) -- co5
        · try simp only [decide_eq_true_eq, decide_eq_false_iff_not, Bool.not_eq_true', Bool.not_eq_false', beq_iff_eq, bne_iff_ne, ne_eq, Bool.not_eq_eq_eq_not, Bool.not_true, Bool.not_false, beq_eq_false_iff_ne, bne_eq_false_iff_eq, Bool.not_not, gt_iff_lt, ge_iff_le] at hco5
          refine W.seq ?_
          refine W.sub [] trivial ?_
          refine W.reg [(0, false)] (by kernel_rfl) ?_ -- region 12
          intro K hK
          refine x_assign rfl rfl rfl rfl ?_
          refine Ex.done (hK _ _ ?_)
          refine At.then_n ?_
          refine W.ret ?_
          refine At.then_r ?_
          refine At.ret1 (.tmp 4) rfl ⟨rfl, trivial⟩ ?_ -- ret4
          exact ⟨by rw [hcmp, compareL_end (by omega) ⟨hqa, hqb⟩]; congr 1; split <;> (try split) <;> omega, M.frm⟩
        · try simp only [decide_eq_true_eq, decide_eq_false_iff_not, Bool.not_eq_true', Bool.not_eq_false', beq_iff_eq, bne_iff_ne, ne_eq, Bool.not_eq_eq_eq_not, Bool.not_true, Bool.not_false, beq_eq_false_iff_ne, bne_eq_false_iff_eq, Bool.not_not, gt_iff_lt, ge_iff_le] at hco5
          refine W.skip ?_
          refine At.then_n ?_
          refine W.seq ?_
          refine W.sub [] trivial ?_
          refine W.reg [(0, false)] (by kernel_rfl) ?_ -- region 13
          intro K hK
          refine x_assign rfl rfl rfl rfl ?_
          refine Ex.done (hK _ _ ?_)
          refine At.then_n ?_
          refine W.ret ?_
          refine At.ret1 (.tmp 4) rfl ⟨rfl, trivial⟩ ?_ -- ret5
          exact ⟨by rw [hcmp, compareL_end (by omega) ⟨hqa, hqb⟩]; congr 1; split <;> (try split) <;> omega, M.frm⟩
  · -- sp1 False
    try simp only [decide_eq_true_eq, decide_eq_false_iff_not, Bool.not_eq_true', Bool.not_eq_false', beq_iff_eq, bne_iff_ne, ne_eq, Bool.not_eq_eq_eq_not, Bool.not_true, Bool.not_false, beq_eq_false_iff_ne, bne_eq_false_iff_eq, Bool.not_not, gt_iff_lt, ge_iff_le] at hsp1
    refine Ex.skip_ rfl rfl rfl ?_
    refine Ex.skip_ rfl rfl rfl ?_
    refine Ex.skip_ rfl rfl rfl ?_
    refine Ex.skip_ rfl rfl rfl ?_
    refine x_pickF rfl rfl rfl rfl rfl ?_
    refine Ex.done (hK _ _ ?_)
    refine At.then_n ?_
    refine W.condF rfl ?_ -- co6
    refine W.exit ?_
    refine At.then_x ?_
    refine At.loop_x ?_
    refine At.blk_x ?_
    refine At.then_n ?_
    refine W.seq ?_
    refine W.seq ?_
    refine W.sub [(5, _), (6, _)] ⟨rfl, rfl, trivial⟩ ?_
    refine W.reg [(0, false), (1, false), (2, false), (3, false), (4, false)] (by kernel_rfl) ?_ -- region 9
    intro K hK
    refine x_move rfl rfl rfl rfl ?_
    refine x_len rfl rfl rfl rfl Try.underlying22 rfl ?_
    refine x_move rfl rfl rfl rfl ?_
    refine x_len rfl rfl rfl rfl Try.underlying22 rfl ?_
    refine x_lss _ rfl rfl rfl rfl rfl rfl ?_ -- cm5 ref.go:168
    refine Ex.done (hK _ _ ?_)
    refine At.then_n ?_
    refine W.cond rfl (fun hco7 => ?_) (fun hco7 => ?_) -- co7
    · try simp only [decide_eq_true_eq, decide_eq_false_iff_not, Bool.not_eq_true', Bool.not_eq_false', beq_iff_eq, bne_iff_ne, ne_eq, Bool.not_eq_eq_eq_not, Bool.not_true, Bool.not_false, beq_eq_false_iff_ne, bne_eq_false_iff_eq, Bool.not_not, gt_iff_lt, ge_iff_le] at hco7
      refine W.seq ?_
      refine W.sub [] trivial ?_
      refine W.reg [(0, false)] (by kernel_rfl) ?_ -- region 10
      intro K hK
      refine x_assign rfl rfl rfl rfl ?_
      refine Ex.done (hK _ _ ?_)
      refine At.then_n ?_
      refine W.ret ?_
      refine At.then_r ?_
      refine At.ret1 (.tmp 4) rfl ⟨rfl, trivial⟩ ?_ -- ret6
      exact ⟨by rw [hcmp, compareL_end (by omega) ⟨hqa, hqb⟩]; congr 1; split <;> (try split) <;> omega, M.frm⟩
    · try simp only [decide_eq_true_eq, decide_eq_false_iff_not, Bool.not_eq_true', Bool.not_eq_false', beq_iff_eq, bne_iff_ne, ne_eq, Bool.not_eq_eq_eq_not, Bool.not_true, Bool.not_false, beq_eq_false_iff_ne, bne_eq_false_iff_eq, Bool.not_not, gt_iff_lt, ge_iff_le] at hco7
      refine W.skip ?_
      refine At.then_n ?_
      refine W.seq ?_
      refine W.seq ?_
      refine W.sub [(5, _), (6, _)] ⟨rfl, rfl, trivial⟩ ?_
      refine W.reg [(0, false), (1, false), (2, false), (3, false), (4, false)] (by kernel_rfl) ?_ -- region 11
      intro K hK
      refine x_move rfl rfl rfl rfl ?_
      refine x_len rfl rfl rfl rfl Try.underlying22 rfl ?_
      refine x_move rfl rfl rfl rfl ?_
      refine x_len rfl rfl rfl rfl Try.underlying22 rfl ?_
      refine x_gtr _ rfl rfl rfl rfl rfl rfl ?_ -- cm6 ref.go:171
      refine Ex.done (hK _ _ ?_)
      refine At.then_n ?_
      refine W.cond rfl (fun hco8 => ?_) (fun hco8 => ?_) -- co8
      · try simp only [decide_eq_true_eq, decide_eq_false_iff_not, Bool.not_eq_true', Bool.not_eq_false', beq_iff_eq, bne_iff_ne, ne_eq, Bool.not_eq_eq_eq_not, Bool.not_true, Bool.not_false, beq_eq_false_iff_ne, bne_eq_false_iff_eq, Bool.not_not, gt_iff_lt, ge_iff_le] at hco8
        refine W.seq ?_
        refine W.sub [] trivial ?_
        refine W.reg [(0, false)] (by kernel_rfl) ?_ -- region 12
        intro K hK
        refine x_assign rfl rfl rfl rfl ?_
        refine Ex.done (hK _ _ ?_)
        refine At.then_n ?_
        refine W.ret ?_
        refine At.then_r ?_
        refine At.ret1 (.tmp 4) rfl ⟨rfl, trivial⟩ ?_ -- ret7
        exact ⟨by rw [hcmp, compareL_end (by omega) ⟨hqa, hqb⟩]; congr 1; split <;> (try split) <;> omega, M.frm⟩
      · try simp only [decide_eq_true_eq, decide_eq_false_iff_not, Bool.not_eq_true', Bool.not_eq_false', beq_iff_eq, bne_iff_ne, ne_eq, Bool.not_eq_eq_eq_not, Bool.not_true, Bool.not_false, beq_eq_false_iff_ne, bne_eq_false_iff_eq, Bool.not_not, gt_iff_lt, ge_iff_le] at hco8
        refine W.skip ?_
        refine At.then_n ?_
        refine W.seq ?_
        refine W.sub [] trivial ?_
        refine W.reg [(0, false)] (by kernel_rfl) ?_ -- region 13
        intro K hK
        refine x_assign rfl rfl rfl rfl ?_
        refine Ex.done (hK _ _ ?_)
        refine At.then_n ?_
        refine W.ret ?_
        refine At.ret1 (.tmp 4) rfl ⟨rfl, trivial⟩ ?_ -- ret8
        exact ⟨by rw [hcmp, compareL_end (by omega) ⟨hqa, hqb⟩]; congr 1; split <;> (try split) <;> omega, M.frm⟩

-- valise/valiseref13.Same
set_option maxRecDepth 100000 in
theorem same_c {w0 : World} {u v : Value} {A B : List (List UInt8)} (hu : StrsAt w0 u A) (hv : StrsAt w0 v B) (hlA : A.length ≤ 1099511627776) : Ret Try.prog 17 #[u, v] w0 fun r w' => r = .bool (decide (A = B)) ∧ New w0 w' := by
  have M : Sep w0 [] w0 := St.nil w0
  obtain ⟨p1, cap1, rfl⟩ := hu.shape
  obtain ⟨p2, cap2, rfl⟩ := hv.shape
  refine Ret.of_W Try.func17 rfl Try.ntmps17 rfl ?_
  refine W.seq ?_
  refine W.sub [(0, _), (1, _)] ⟨rfl, rfl, trivial⟩ ?_
  refine W.reg [(0, false)] (by kernel_rfl) ?_ -- region 0
  intro K hK
  refine x_assign rfl rfl rfl rfl ?_
  refine Ex.done (hK _ _ ?_)
  refine At.then_n ?_
  refine W.seq ?_
  refine W.seq ?_
  refine W.sub [(0, _), (1, _)] ⟨rfl, rfl, trivial⟩ ?_
  refine W.reg [(0, false), (1, false), (2, false), (3, false), (4, false)] (by kernel_rfl) ?_ -- region 1
  intro K hK
  refine x_move rfl rfl rfl rfl ?_
  refine x_len rfl rfl rfl rfl Try.underlying22 rfl ?_
  refine x_move rfl rfl rfl rfl ?_
  refine x_len rfl rfl rfl rfl Try.underlying22 rfl ?_
  refine x_nei _ rfl rfl rfl rfl rfl rfl ?_ -- eq1 ref.go:179
  refine Ex.done (hK _ _ ?_)
  refine At.then_n ?_
  refine W.cond rfl (fun hco1 => ?_) (fun hco1 => ?_) -- co1
  · try simp only [decide_eq_true_eq, decide_eq_false_iff_not, Bool.not_eq_true', Bool.not_eq_false', beq_iff_eq, bne_iff_ne, ne_eq, Bool.not_eq_eq_eq_not, Bool.not_true, Bool.not_false, beq_eq_false_iff_ne, bne_eq_false_iff_eq, Bool.not_not, gt_iff_lt, ge_iff_le] at hco1
    refine W.seq ?_
    refine W.sub [] trivial ?_
    refine W.reg [(0, false)] (by kernel_rfl) ?_ -- region 2
    intro K hK
    refine x_assign rfl rfl rfl rfl ?_
    refine Ex.done (hK _ _ ?_)
    refine At.then_n ?_
    refine W.ret ?_
    refine At.then_r ?_
    refine At.ret1 (.tmp 4) rfl ⟨rfl, trivial⟩ ?_ -- ret1
    exact ⟨by rw [decide_eq_false]; intro e; subst e; omega, M.frm⟩
  · try simp only [decide_eq_true_eq, decide_eq_false_iff_not, Bool.not_eq_true', Bool.not_eq_false', beq_iff_eq, bne_iff_ne, ne_eq, Bool.not_eq_eq_eq_not, Bool.not_true, Bool.not_false, beq_eq_false_iff_ne, bne_eq_false_iff_eq, Bool.not_not, gt_iff_lt, ge_iff_le] at hco1
    refine W.skip ?_
    refine At.then_n ?_
    refine W.seq ?_
    refine W.seq ?_
    refine W.sub [(0, _), (1, _)] ⟨rfl, rfl, trivial⟩ ?_
    refine W.reg [(0, false)] (by kernel_rfl) ?_ -- region 3
    intro K hK
    refine x_assign rfl rfl rfl rfl ?_
    refine Ex.done (hK _ _ ?_)
    refine At.then_n ?_
    refine W.block ?_
    refine W.loop (σ := Nat) (fun q => [(0, _), (1, _), (5, .int .i64 ((q : Nat) : Int))]) (fun q w => q ≤ A.length ∧ B.take q = A.take q ∧ Sep w0 [] w) (fun q => A.length - q) 0 ⟨rfl, rfl, rfl, trivial⟩ ⟨Nat.zero_le _, rfl, M⟩ ?_ -- loop1
    rintro q w ⟨hq, hpre, M⟩
    refine W.seq ?_
    refine W.seq ?_
    refine W.sub [(0, _), (1, _), (5, _)] ⟨rfl, rfl, rfl, trivial⟩ ?_
    refine W.reg [(0, false), (1, false), (2, false), (3, false)] (by kernel_rfl) ?_ -- region 4
    intro K hK
    refine x_move rfl rfl rfl rfl ?_
    refine x_move rfl rfl rfl rfl ?_
    refine x_len rfl rfl rfl rfl Try.underlying22 rfl ?_
    refine x_lss _ rfl rfl rfl rfl rfl rfl ?_ -- cm1 ref.go:182
    refine Ex.done (hK _ _ ?_)
    refine At.then_n ?_
    refine W.cond rfl (fun hco2 => ?_) (fun hco2 => ?_) -- co2
    · try simp only [decide_eq_true_eq, decide_eq_false_iff_not, Bool.not_eq_true', Bool.not_eq_false', beq_iff_eq, bne_iff_ne, ne_eq, Bool.not_eq_eq_eq_not, Bool.not_true, Bool.not_false, beq_eq_false_iff_ne, bne_eq_false_iff_eq, Bool.not_not, gt_iff_lt, ge_iff_le] at hco2
      obtain ⟨y, hy⟩ := get_lt (l := B) (q := q) (by omega)
      obtain ⟨x, hx⟩ := get_lt (l := A) (q := q) (by omega)
      obtain ⟨bk1, off1, rfl, _⟩ := hu.blk (j := q) (by omega)
      obtain ⟨bk2, off2, rfl, _⟩ := hv.blk (j := q) (by omega)
      refine W.skip ?_
      refine At.then_n ?_
      refine W.seq ?_
      refine W.block ?_
      refine W.seq ?_
      refine W.sub [(0, _), (1, _), (5, _)] ⟨rfl, rfl, rfl, trivial⟩ ?_
      refine W.regD (by kernel_rfl) #[0, 0, 3, 7, 0, 0, 48, 112, 255] [(0, false), (1, false), (2, false), (3, false), (4, false), (5, false), (6, false), (7, false), (8, false)] (by kernel_rfl) ?_ -- region 6
      intro K wD1 hK hwD1
      have M := M.drew hwD1
      refine x_move rfl rfl rfl rfl ?_
      refine x_move rfl rfl rfl rfl ?_
      refine x_ia q rfl rfl rfl Try.underlying22 sz9 rfl rfl rfl (by omega) ?_ -- ia1 ref.go:183
      refine x_ld rfl rfl rfl Try.underlying9 rfl rfl (StrsAt.cell (hu.new M.frm) hx) ?_ -- ld1 ref.go:183
      refine x_move rfl rfl rfl rfl ?_
      refine x_move rfl rfl rfl rfl ?_
      refine x_ia q rfl rfl rfl Try.underlying22 sz9 rfl rfl rfl (by omega) ?_ -- ia2 ref.go:183
      refine x_ld rfl rfl rfl Try.underlying9 rfl rfl (StrsAt.cell (hv.new M.frm) hy) ?_ -- ld2 ref.go:183
      refine x_neS _ rfl rfl rfl rfl rfl rfl ?_ -- eq2 ref.go:183
      refine Ex.done (hK _ _ ?_)
      refine At.then_n ?_
      refine W.cond rfl (fun hco3 => ?_) (fun hco3 => ?_) -- co3
      · try simp only [decide_eq_true_eq, decide_eq_false_iff_not, Bool.not_eq_true', Bool.not_eq_false', beq_iff_eq, bne_iff_ne, ne_eq, Bool.not_eq_eq_eq_not, Bool.not_true, Bool.not_false, beq_eq_false_iff_ne, bne_eq_false_iff_eq, Bool.not_not, gt_iff_lt, ge_iff_le] at hco3
        refine W.seq ?_
        refine W.sub [] trivial ?_
        refine W.reg [(0, false)] (by kernel_rfl) ?_ -- region 7
        intro K hK
        refine x_assign rfl rfl rfl rfl ?_
        refine Ex.done (hK _ _ ?_)
        refine At.then_n ?_
        refine W.ret ?_
        refine At.blk_r ?_
        refine At.then_r ?_
        refine At.loop_r ?_
        refine At.blk_r ?_
        refine At.then_r ?_
        refine At.ret1 (.tmp 4) rfl ⟨rfl, trivial⟩ ?_ -- ret2
        exact ⟨by rw [decide_eq_false]; intro e; subst e; rw [hx] at hy; exact hco3 (Option.some.inj hy), M.frm⟩
      · try simp only [decide_eq_true_eq, decide_eq_false_iff_not, Bool.not_eq_true', Bool.not_eq_false', beq_iff_eq, bne_iff_ne, ne_eq, Bool.not_eq_eq_eq_not, Bool.not_true, Bool.not_false, beq_eq_false_iff_ne, bne_eq_false_iff_eq, Bool.not_not, gt_iff_lt, ge_iff_le] at hco3
        refine W.skip ?_
        refine At.blk_n ?_
        refine At.then_n ?_
        refine W.sub [(0, _), (1, _), (5, _)] ⟨rfl, rfl, rfl, trivial⟩ ?_
        refine W.reg [(0, false), (1, false), (2, false)] (by kernel_rfl) ?_ -- region 5
        intro K hK
        refine x_move rfl rfl rfl rfl ?_
        refine x_add _ rfl rfl rfl rfl rfl (wadd (by omega) (by omega)) ?_ -- ar1 ref.go:182
        refine x_assign rfl rfl rfl rfl ?_
        refine Ex.done (hK _ _ ?_)
        -- bk1: back to loop1
        exact At.back (q + 1) ⟨rfl, rfl, rfl, trivial⟩ ⟨by omega, pre_step hpre hx hy hco3, M⟩ (by first | omega | (simp only; omega) | (simp; done) | (simp; omega))
    · try simp only [decide_eq_true_eq, decide_eq_false_iff_not, Bool.not_eq_true', Bool.not_eq_false', beq_iff_eq, bne_iff_ne, ne_eq, Bool.not_eq_eq_eq_not, Bool.not_true, Bool.not_false, beq_eq_false_iff_ne, bne_eq_false_iff_eq, Bool.not_not, gt_iff_lt, ge_iff_le] at hco2
      refine W.exit ?_
      refine At.then_x ?_
      refine At.loop_x ?_
      refine At.blk_x ?_
      refine At.then_n ?_
      refine W.seq ?_
      refine W.sub [] trivial ?_
      refine W.reg [(0, false)] (by kernel_rfl) ?_ -- region 8
      intro K hK
      refine x_assign rfl rfl rfl rfl ?_
      refine Ex.done (hK _ _ ?_)
      refine At.then_n ?_
      refine W.ret ?_
      refine At.ret1 (.tmp 4) rfl ⟨rfl, trivial⟩ ?_ -- ret3
      have hq1 : q = A.length := by omega
      subst hq1
      exact ⟨by rw [decide_eq_true]; rw [List.take_length, List.take_of_length_le (by omega)] at hpre; exact hpre.symm, M.frm⟩
end Go.Proofs.Ytkieecaaijlokaa
