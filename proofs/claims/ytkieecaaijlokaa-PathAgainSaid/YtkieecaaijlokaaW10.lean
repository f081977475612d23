/-
  The walk of functions, by program: parent, rparent, under, runder.
-/
import Derived.Test.YtkieecaaijlokaaW8
import Derived.Test.YtkieecaaijlokaaW9
namespace Go.Proofs.Ytkieecaaijlokaa
open Go Go.Fw Go.RowKit Go.Proofs
set_option linter.unusedVariables false
set_option linter.unusedSimpArgs false

-- valise/path.Parent
set_option maxRecDepth 100000 in
theorem parent_c {w0 : World} {p : List UInt8}  : Ret Try.prog 23 #[strV p] w0 fun r w' => r = .tuple #[strV (parentP p).1, strV (parentP p).2.1, .int .i64 (parentP p).2.2] ∧ New w0 w' := by
  have M : Sep w0 [] w0 := St.nil w0
  refine Ret.of_W Try.func23 rfl Try.ntmps23 rfl ?_
  refine W.seq ?_
  refine W.sub [(0, _)] ⟨rfl, trivial⟩ ?_
  refine W.reg [(0, false), (1, false), (2, false)] (by kernel_rfl) ?_ -- region 0
  intro K hK
  refine x_assign rfl rfl rfl rfl ?_
  refine x_assign rfl rfl rfl rfl ?_
  refine x_assign rfl rfl rfl rfl ?_
  refine Ex.done (hK _ _ ?_)
  refine At.then_n ?_
  refine W.seq ?_
  refine W.seq ?_
  refine W.sub [(0, _)] ⟨rfl, trivial⟩ ?_
  refine W.reg [(0, false), (1, true), (2, false), (3, false), (4, false), (5, false), (6, false)] (by kernel_rfl) ?_ -- region 1
  intro K hK
  refine x_move rfl rfl rfl rfl ?_
  -- call1: valise/path.Split path.go:91
  refine x_call rfl rfl rfl rfl rfl en13 (split_c) ?_
  rintro r wcall1 ⟨vcall1, Lcall1, rfl, Mcall1, hscall1⟩
  have M := M.grow Mcall1
  refine ⟨trivial, ?_⟩
  refine x_move rfl rfl rfl rfl ?_
  refine x_ext rfl rfl rfl rfl rfl ?_ -- ex1
  refine x_ext rfl rfl rfl rfl rfl ?_ -- ex2
  refine x_assign rfl rfl rfl rfl ?_
  refine x_assign rfl rfl rfl rfl ?_
  refine Ex.done (hK _ _ ?_)
  refine At.then_n ?_
  refine W.seq ?_
  refine W.sub [(0, _), (6, _)] ⟨rfl, rfl, trivial⟩ ?_
  refine W.reg [(0, false), (1, false)] (by kernel_rfl) ?_ -- region 2
  intro K hK
  refine x_move rfl rfl rfl rfl ?_
  refine x_nei _ rfl rfl rfl rfl rfl rfl ?_ -- eq1 path.go:91
  refine Ex.done (hK _ _ ?_)
  refine At.then_n ?_
  refine W.cond rfl (fun hco1 => ?_) (fun hco1 => ?_) -- co1
  · try simp only [decide_eq_true_eq, decide_eq_false_iff_not, Bool.not_eq_true', Bool.not_eq_false', beq_iff_eq, bne_iff_ne, ne_eq, Bool.not_eq_eq_eq_not, Bool.not_true, Bool.not_false, beq_eq_false_iff_ne, bne_eq_false_iff_eq, Bool.not_not, gt_iff_lt, ge_iff_le] at hco1
    refine W.seq ?_
    refine W.sub [(6, _)] ⟨rfl, trivial⟩ ?_
    refine W.reg [(0, false), (1, false), (2, false), (3, false)] (by kernel_rfl) ?_ -- region 3
    intro K hK
    refine x_move rfl rfl rfl rfl ?_
    refine x_assign rfl rfl rfl rfl ?_
    refine x_assign rfl rfl rfl rfl ?_
    refine x_assign rfl rfl rfl rfl ?_
    refine Ex.done (hK _ _ ?_)
    refine At.then_n ?_
    refine W.ret ?_
    refine At.then_r ?_
    refine At.ret3 (.tmp 2) (.tmp 3) (.tmp 4) rfl ⟨rfl, rfl, rfl, trivial⟩ ?_ -- ret1
    have h := parentP_bad hco1; exact ⟨by rw [h.1, h.2]; rfl, M.frm⟩
  · try simp only [decide_eq_true_eq, decide_eq_false_iff_not, Bool.not_eq_true', Bool.not_eq_false', beq_iff_eq, bne_iff_ne, ne_eq, Bool.not_eq_eq_eq_not, Bool.not_true, Bool.not_false, beq_eq_false_iff_ne, bne_eq_false_iff_eq, Bool.not_not, gt_iff_lt, ge_iff_le] at hco1
    refine W.skip ?_
    refine At.then_n ?_
    refine W.seq ?_
    refine W.seq ?_
    refine W.sub [(0, _)] ⟨rfl, trivial⟩ ?_
    refine W.reg [(0, false), (1, false)] (by kernel_rfl) ?_ -- region 4
    intro K hK
    refine x_move rfl rfl rfl rfl ?_
    refine x_eqS _ rfl rfl rfl rfl rfl rfl ?_ -- eq2 path.go:94
    refine Ex.done (hK _ _ ?_)
    refine At.then_n ?_
    refine W.cond rfl (fun hco2 => ?_) (fun hco2 => ?_) -- co2
    · try simp only [decide_eq_true_eq, decide_eq_false_iff_not, Bool.not_eq_true', Bool.not_eq_false', beq_iff_eq, bne_iff_ne, ne_eq, Bool.not_eq_eq_eq_not, Bool.not_true, Bool.not_false, beq_eq_false_iff_ne, bne_eq_false_iff_eq, Bool.not_not, gt_iff_lt, ge_iff_le] at hco2
      refine W.seq ?_
      refine W.sub [] trivial ?_
      refine W.reg [(0, false), (1, false), (2, false)] (by kernel_rfl) ?_ -- region 5
      intro K hK
      refine x_assign rfl rfl rfl rfl ?_
      refine x_assign rfl rfl rfl rfl ?_
      refine x_assign rfl rfl rfl rfl ?_
      refine Ex.done (hK _ _ ?_)
      refine At.then_n ?_
      refine W.ret ?_
      refine At.then_r ?_
      refine At.ret3 (.tmp 2) (.tmp 3) (.tmp 4) rfl ⟨rfl, rfl, rfl, trivial⟩ ?_ -- ret2
      subst hco2; exact ⟨rfl, M.frm⟩
    · try simp only [decide_eq_true_eq, decide_eq_false_iff_not, Bool.not_eq_true', Bool.not_eq_false', beq_iff_eq, bne_iff_ne, ne_eq, Bool.not_eq_eq_eq_not, Bool.not_true, Bool.not_false, beq_eq_false_iff_ne, bne_eq_false_iff_eq, Bool.not_not, gt_iff_lt, ge_iff_le] at hco2
      have hpl0 := splitE_len hco1
      refine W.skip ?_
      refine At.then_n ?_
      refine W.seq ?_
      refine W.sub [(0, _)] ⟨rfl, trivial⟩ ?_
      refine W.reg [(0, false), (1, true), (2, false)] (by kernel_rfl) ?_ -- region 6
      intro K hK
      refine x_move rfl rfl rfl rfl ?_
      -- call2: strings.LastIndexByte path.go:97
      refine x_call rfl rfl rfl rfl rfl en34 (lastidx_c (c := 47) (by omega)) ?_
      rintro r w2 ⟨⟨z, rfl, hz⟩, hn⟩
      have M := M.new hn
      have hpl := parentP_last hco2 hco1 hz
      refine ⟨trivial, ?_⟩
      refine x_assign rfl rfl rfl rfl ?_
      refine Ex.done (hK _ _ ?_)
      refine At.then_n ?_
      refine W.seq ?_
      refine W.seq ?_
      refine W.sub [(0, _), (7, _)] ⟨rfl, rfl, trivial⟩ ?_
      refine W.reg [(0, false), (1, false)] (by kernel_rfl) ?_ -- region 7
      intro K hK
      refine x_move rfl rfl rfl rfl ?_
      refine x_lss _ rfl rfl rfl rfl rfl rfl ?_ -- cm1 path.go:98
      refine Ex.done (hK _ _ ?_)
      refine At.then_n ?_
      refine W.cond rfl (fun hco3 => ?_) (fun hco3 => ?_) -- co3
      · try simp only [decide_eq_true_eq, decide_eq_false_iff_not, Bool.not_eq_true', Bool.not_eq_false', beq_iff_eq, bne_iff_ne, ne_eq, Bool.not_eq_eq_eq_not, Bool.not_true, Bool.not_false, beq_eq_false_iff_ne, bne_eq_false_iff_eq, Bool.not_not, gt_iff_lt, ge_iff_le] at hco3
        refine W.seq ?_
        refine W.sub [(0, _)] ⟨rfl, trivial⟩ ?_
        refine W.reg [(0, false), (1, false), (2, false), (3, false)] (by kernel_rfl) ?_ -- region 8
        intro K hK
        refine x_move rfl rfl rfl rfl ?_
        refine x_assign rfl rfl rfl rfl ?_
        refine x_assign rfl rfl rfl rfl ?_
        refine x_assign rfl rfl rfl rfl ?_
        refine Ex.done (hK _ _ ?_)
        refine At.then_n ?_
        refine W.ret ?_
        refine At.then_r ?_
        refine At.ret3 (.tmp 2) (.tmp 3) (.tmp 4) rfl ⟨rfl, rfl, rfl, trivial⟩ ?_ -- ret3
        have hz1 : z = -1 := by rcases hz with ⟨h, _⟩ | ⟨a, x, _, _, h⟩ <;> omega
        rw [hpl.1 hz1]; exact ⟨rfl, M.frm⟩
      · try simp only [decide_eq_true_eq, decide_eq_false_iff_not, Bool.not_eq_true', Bool.not_eq_false', beq_iff_eq, bne_iff_ne, ne_eq, Bool.not_eq_eq_eq_not, Bool.not_true, Bool.not_false, beq_eq_false_iff_ne, bne_eq_false_iff_eq, Bool.not_not, gt_iff_lt, ge_iff_le] at hco3
        obtain ⟨i, hi⟩ : ∃ i : Nat, z = (i : Int) := ⟨z.toNat, by omega⟩
        obtain ⟨hlt, hpi⟩ := hpl.2 i hi
        refine W.skip ?_
        refine At.then_n ?_
        refine W.seq ?_
        refine W.sub [(0, _), (7, _)] ⟨rfl, rfl, trivial⟩ ?_
        refine W.regD (by kernel_rfl) #[0, 0, 3, 0, 0, 16, 56, 7, 255, 511] [(0, false), (1, false), (2, false), (3, false), (4, false), (5, false), (6, false), (7, false), (8, false), (9, false)] (by kernel_rfl) ?_ -- region 9
        intro K wD1 hK hwD1
        have M := M.drew hwD1
        refine x_move rfl rfl rfl rfl ?_
        refine x_move rfl rfl rfl rfl ?_
        refine x_sshS i rfl rfl rfl Try.underlying9 rfl rfl hi (by omega) ?_ -- sl1 path.go:101
        refine x_move rfl rfl rfl rfl ?_
        refine x_move rfl rfl rfl rfl ?_
        refine x_add ((i + 1 : Nat) : Int) rfl rfl rfl rfl rfl (by rw [hi]; exact (w64 (by omega) (by omega)).trans (by omega)) ?_ -- ar1 path.go:101
        refine x_sslS (i + 1) rfl rfl rfl Try.underlying9 rfl rfl rfl (by omega) ?_ -- sl2 path.go:101
        refine x_assign rfl rfl rfl rfl ?_
        refine x_assign rfl rfl rfl rfl ?_
        refine x_assign rfl rfl rfl rfl ?_
        refine Ex.done (hK _ _ ?_)
        refine At.then_n ?_
        refine W.ret ?_
        refine At.ret3 (.tmp 2) (.tmp 3) (.tmp 4) rfl ⟨rfl, rfl, rfl, trivial⟩ ?_ -- ret4
        rw [hpi]; exact ⟨rfl, M.frm⟩

-- valise/valiseref13.Parent
set_option maxRecDepth 100000 in
theorem rparent_c {w0 : World} {p : List UInt8}  : Ret Try.prog 24 #[strV p] w0 fun r w' => r = .tuple #[strV (parentP p).1, strV (parentP p).2.1, .int .i64 (parentP p).2.2] ∧ New w0 w' := by
  have M : Sep w0 [] w0 := St.nil w0
  refine Ret.of_W Try.func24 rfl Try.ntmps24 rfl ?_
  refine W.seq ?_
  refine W.sub [(0, _)] ⟨rfl, trivial⟩ ?_
  refine W.reg [(0, false), (1, false), (2, false)] (by kernel_rfl) ?_ -- region 0
  intro K hK
  refine x_assign rfl rfl rfl rfl ?_
  refine x_assign rfl rfl rfl rfl ?_
  refine x_assign rfl rfl rfl rfl ?_
  refine Ex.done (hK _ _ ?_)
  refine At.then_n ?_
  refine W.seq ?_
  refine W.sub [(0, _)] ⟨rfl, trivial⟩ ?_
  refine W.reg [(0, false), (1, true), (2, false), (3, false), (4, false), (5, false), (6, false)] (by kernel_rfl) ?_ -- region 1
  intro K hK
  refine x_move rfl rfl rfl rfl ?_
  -- call1: valise/valiseref13.Split ref.go:114
  refine x_call rfl rfl rfl rfl rfl en14 (rsplit_c) ?_
  rintro r w1 ⟨v1, L1, rfl, M1, hs1⟩
  have M := M.grow M1
  generalize hN : splitN p = N at hs1
  obtain ⟨p1, cap1, rfl, hcap1⟩ := hs1.shape2 (by decide)
  refine ⟨trivial, ?_⟩
  refine x_move rfl rfl rfl rfl ?_
  refine x_ext rfl rfl rfl rfl rfl ?_ -- ex1
  refine x_ext rfl rfl rfl rfl rfl ?_ -- ex2
  refine x_assign rfl rfl rfl rfl ?_
  refine x_assign rfl rfl rfl rfl ?_
  refine Ex.done (hK _ _ ?_)
  refine At.then_n ?_
  refine W.seq ?_
  refine W.seq ?_
  refine W.sub [(5, _), (6, _)] ⟨rfl, rfl, trivial⟩ ?_
  refine W.reg [(0, false), (1, false)] (by kernel_rfl) ?_ -- region 2
  intro K hK
  refine x_move rfl rfl rfl rfl ?_
  refine x_nei _ rfl rfl rfl rfl rfl rfl ?_ -- eq1 ref.go:115
  refine Ex.done (hK _ _ ?_)
  refine At.then_n ?_
  refine W.cond rfl (fun hco1 => ?_) (fun hco1 => ?_) -- co1
  · try simp only [decide_eq_true_eq, decide_eq_false_iff_not, Bool.not_eq_true', Bool.not_eq_false', beq_iff_eq, bne_iff_ne, ne_eq, Bool.not_eq_eq_eq_not, Bool.not_true, Bool.not_false, beq_eq_false_iff_ne, bne_eq_false_iff_eq, Bool.not_not, gt_iff_lt, ge_iff_le] at hco1
    refine W.seq ?_
    refine W.sub [(6, _)] ⟨rfl, trivial⟩ ?_
    refine W.reg [(0, false), (1, false), (2, false), (3, false)] (by kernel_rfl) ?_ -- region 3
    intro K hK
    refine x_move rfl rfl rfl rfl ?_
    refine x_assign rfl rfl rfl rfl ?_
    refine x_assign rfl rfl rfl rfl ?_
    refine x_assign rfl rfl rfl rfl ?_
    refine Ex.done (hK _ _ ?_)
    refine At.then_n ?_
    refine W.ret ?_
    refine At.then_r ?_
    refine At.ret3 (.tmp 2) (.tmp 3) (.tmp 4) rfl ⟨rfl, rfl, rfl, trivial⟩ ?_ -- ret1
    have h := parentP_bad hco1; exact ⟨by rw [h.1, h.2]; rfl, M.frm⟩
  · try simp only [decide_eq_true_eq, decide_eq_false_iff_not, Bool.not_eq_true', Bool.not_eq_false', beq_iff_eq, bne_iff_ne, ne_eq, Bool.not_eq_eq_eq_not, Bool.not_true, Bool.not_false, beq_eq_false_iff_ne, bne_eq_false_iff_eq, Bool.not_not, gt_iff_lt, ge_iff_le] at hco1
    refine W.skip ?_
    refine At.then_n ?_
    refine W.seq ?_
    refine W.seq ?_
    refine W.sub [(5, _)] ⟨rfl, trivial⟩ ?_
    refine W.reg [(0, false), (1, false), (2, false)] (by kernel_rfl) ?_ -- region 4
    intro K hK
    refine x_move rfl rfl rfl rfl ?_
    refine x_len rfl rfl rfl rfl Try.underlying22 rfl ?_
    refine x_eqi _ rfl rfl rfl rfl rfl rfl ?_ -- eq2 ref.go:118
    refine Ex.done (hK _ _ ?_)
    refine At.then_n ?_
    refine W.cond rfl (fun hco2 => ?_) (fun hco2 => ?_) -- co2
    · try simp only [decide_eq_true_eq, decide_eq_false_iff_not, Bool.not_eq_true', Bool.not_eq_false', beq_iff_eq, bne_iff_ne, ne_eq, Bool.not_eq_eq_eq_not, Bool.not_true, Bool.not_false, beq_eq_false_iff_ne, bne_eq_false_iff_eq, Bool.not_not, gt_iff_lt, ge_iff_le] at hco2
      refine W.seq ?_
      refine W.sub [] trivial ?_
      refine W.reg [(0, false), (1, false), (2, false)] (by kernel_rfl) ?_ -- region 5
      intro K hK
      refine x_assign rfl rfl rfl rfl ?_
      refine x_assign rfl rfl rfl rfl ?_
      refine x_assign rfl rfl rfl rfl ?_
      refine Ex.done (hK _ _ ?_)
      refine At.then_n ?_
      refine W.ret ?_
      refine At.then_r ?_
      refine At.ret3 (.tmp 2) (.tmp 3) (.tmp 4) rfl ⟨rfl, rfl, rfl, trivial⟩ ?_ -- ret2
      rcases splitN_facts hco1 with ⟨h1, h2⟩ | ⟨h1, h2, _⟩
      · subst h1; exact ⟨rfl, M.frm⟩
      · exact absurd (List.length_eq_zero_iff.1 (show N.length = 0 by omega)) (by rw [← hN, h2]; exact splitS_ne p)
    · try simp only [decide_eq_true_eq, decide_eq_false_iff_not, Bool.not_eq_true', Bool.not_eq_false', beq_iff_eq, bne_iff_ne, ne_eq, Bool.not_eq_eq_eq_not, Bool.not_true, Bool.not_false, beq_eq_false_iff_ne, bne_eq_false_iff_eq, Bool.not_not, gt_iff_lt, ge_iff_le] at hco2
      obtain ⟨h0, h1, h2, h3⟩ : p ≠ [] ∧ splitN p = splitS p ∧ (splitS p).length ≤ 8 ∧ allOK (splitS p) := by
        rcases splitN_facts hco1 with ⟨h1, h2⟩ | h
        · exact absurd (by rw [← hN, h2]; rfl) hco2
        · exact h
      obtain ⟨a, x, hax⟩ := split_snoc p
      obtain rfl : N = a ++ [x] := by rw [← hN, h1, hax]
      have hpp := parentP_some h0 hco1 hax
      have hlen : (a ++ [x]).length = a.length + 1 := by simp
      have hl8 : a.length ≤ 8 := by rw [hax, hlen] at h2; omega
      have hAt := strsO_at hs1 M (fun _ h => h)
      obtain ⟨bk, off, rfl, _⟩ := hAt.blk (j := a.length) (by omega)
      have hta : StrsO L1 (.slice (some ⟨bk, off, none⟩) a.length cap1) a := by
        have := strsO_take hs1 (j := a.length) (by simp)
        rwa [List.take_left' rfl] at this
      refine W.skip ?_
      refine At.then_n ?_
      refine W.seq ?_
      refine W.sub [(5, _)] ⟨rfl, trivial⟩ ?_
      refine W.regD (by kernel_rfl) #[0, 0, 2, 6, 15, 31, 0, 0, 128, 384, 960, 1984, 63, 8191, 16383] [(0, false), (1, false), (2, false), (3, false), (4, false), (6, false), (7, false), (8, false), (9, false), (10, false), (11, false), (5, true), (12, false), (13, false), (14, false)] (by kernel_rfl) ?_ -- region 6
      intro K wD1 hK hwD1
      have M := M.drew hwD1
      refine x_move rfl rfl rfl rfl ?_
      refine x_move rfl rfl rfl rfl ?_
      refine x_len rfl rfl rfl rfl Try.underlying22 rfl ?_
      refine x_sub ((a.length : Nat) : Int) rfl rfl rfl rfl rfl (by rw [w64 (by omega) (by omega)]; omega) ?_ -- ar1 ref.go:121
      refine x_slh a.length rfl rfl rfl Try.underlying22 sz9 rfl rfl rfl (by omega) ?_ -- sl1 ref.go:121
      refine x_move rfl rfl rfl rfl ?_
      refine x_move rfl rfl rfl rfl ?_
      refine x_len rfl rfl rfl rfl Try.underlying22 rfl ?_
      refine x_sub ((a.length : Nat) : Int) rfl rfl rfl rfl rfl (by rw [w64 (by omega) (by omega)]; omega) ?_ -- ar2 ref.go:121
      refine x_ia a.length rfl rfl rfl Try.underlying22 sz9 rfl rfl rfl (by omega) ?_ -- ia1 ref.go:121
      refine x_ld rfl rfl rfl Try.underlying9 rfl rfl (StrsAt.cell (strsO_at hs1 M (fun _ h => h)) (x := x) (by simp)) ?_ -- ld1 ref.go:121
      -- call2: valise/valiseref13.Text ref.go:121
      refine x_call rfl rfl rfl rfl rfl en33 (rtext_c (strsO_at hta M (fun _ h => h)) (by omega) (fun y hy => by have := allOK_len h3 y (by rw [hax]; exact List.mem_append_left _ hy); omega)) ?_
      rintro r w3 ⟨rfl, hn3⟩
      have M := M.new hn3
      refine ⟨⟨.inr (StrsAt.cell (strsO_at hs1 M (fun _ h => h)) (x := x) (by simp)), trivial⟩, ?_⟩
      refine x_assign rfl rfl rfl rfl ?_
      refine x_assign rfl rfl rfl rfl ?_
      refine x_assign rfl rfl rfl rfl ?_
      refine Ex.done (hK _ _ ?_)
      refine At.then_n ?_
      refine W.ret ?_
      refine At.ret3 (.tmp 2) (.tmp 3) (.tmp 4) rfl ⟨rfl, rfl, rfl, trivial⟩ ?_ -- ret3
      rw [hpp]; exact ⟨rfl, M.frm⟩

-- valise/path.Under
set_option maxRecDepth 100000 in
theorem under_c {w0 : World} {p dir : List UInt8}  : Ret Try.prog 25 #[strV p, strV dir] w0 fun r w' => r = .bool (underP p dir) ∧ New w0 w' := by
  have M : Sep w0 [] w0 := St.nil w0
  refine Ret.of_W Try.func25 rfl Try.ntmps25 rfl ?_
  refine W.seq ?_
  refine W.sub [(0, _), (1, _)] ⟨rfl, rfl, trivial⟩ ?_
  refine W.reg [(0, false)] (by kernel_rfl) ?_ -- region 0
  intro K hK
  refine x_assign rfl rfl rfl rfl ?_
  refine Ex.done (hK _ _ ?_)
  refine At.then_n ?_
  refine W.seq ?_
  refine W.sub [(0, _), (1, _)] ⟨rfl, rfl, trivial⟩ ?_
  refine W.reg [(0, false), (1, true), (2, false), (3, false), (4, false), (5, false), (6, false)] (by kernel_rfl) ?_ -- region 1
  intro K hK
  refine x_move rfl rfl rfl rfl ?_
  -- call1: valise/path.Split path.go:106
  refine x_call rfl rfl rfl rfl rfl en13 (split_c) ?_
  rintro r wcall1 ⟨vcall1, Lcall1, rfl, Mcall1, hscall1⟩
  have M := M.grow Mcall1
  refine ⟨trivial, ?_⟩
  refine x_move rfl rfl rfl rfl ?_
  refine x_ext rfl rfl rfl rfl rfl ?_ -- ex1
  refine x_ext rfl rfl rfl rfl rfl ?_ -- ex2
  refine x_assign rfl rfl rfl rfl ?_
  refine x_assign rfl rfl rfl rfl ?_
  refine Ex.done (hK _ _ ?_)
  refine At.then_n ?_
  refine W.seq ?_
  refine W.sub [(0, _), (1, _), (6, _)] ⟨rfl, rfl, rfl, trivial⟩ ?_
  refine W.reg [(0, false), (1, true), (2, false), (3, false), (4, false), (5, false), (6, false)] (by kernel_rfl) ?_ -- region 2
  intro K hK
  refine x_move rfl rfl rfl rfl ?_
  -- call2: valise/path.Split path.go:107
  refine x_call rfl rfl rfl rfl rfl en13 (split_c) ?_
  rintro r wcall2 ⟨vcall2, Lcall2, rfl, Mcall2, hscall2⟩
  have M := M.grow Mcall2
  refine ⟨trivial, ?_⟩
  refine x_move rfl rfl rfl rfl ?_
  refine x_ext rfl rfl rfl rfl rfl ?_ -- ex3
  refine x_ext rfl rfl rfl rfl rfl ?_ -- ex4
  refine x_assign rfl rfl rfl rfl ?_
  refine x_assign rfl rfl rfl rfl ?_
  refine Ex.done (hK _ _ ?_)
  refine At.then_n ?_
  refine W.seq ?_
  refine W.sub [(0, _), (1, _), (6, _), (8, _)] ⟨rfl, rfl, rfl, rfl, trivial⟩ ?_
  refine W.reg [(0, false), (1, false), (2, false), (3, false), (4, false), (5, false), (6, false), (7, false), (8, false), (9, false), (10, false), (11, false), (12, false), (13, false), (14, false), (15, false), (16, false), (17, false), (18, true), (19, false), (20, false), (21, false)] (by kernel_rfl) ?_ -- region 3
  intro K hK
  refine x_move rfl rfl rfl rfl ?_
  refine x_eqi _ rfl rfl rfl rfl rfl rfl ?_ -- eq1 path.go:108
  refine x_move rfl rfl rfl rfl ?_
  refine Ex.split 21 rfl (fun hsp1 => ?_) (fun hsp1 => ?_)
  · -- sp1 True
    try simp only [decide_eq_true_eq, decide_eq_false_iff_not, Bool.not_eq_true', Bool.not_eq_false', beq_iff_eq, bne_iff_ne, ne_eq, Bool.not_eq_eq_eq_not, Bool.not_true, Bool.not_false, beq_eq_false_iff_ne, bne_eq_false_iff_eq, Bool.not_not, gt_iff_lt, ge_iff_le] at hsp1
    refine x_move rfl rfl rfl rfl ?_
    refine x_eqi _ rfl rfl rfl rfl rfl rfl ?_ -- eq2 path.go:108
    refine x_pickT rfl rfl rfl rfl rfl ?_
    refine x_move rfl rfl rfl rfl ?_
    refine Ex.split 25 rfl (fun hsp2 => ?_) (fun hsp2 => ?_)
    · -- sp2 True
      try simp only [decide_eq_true_eq, decide_eq_false_iff_not, Bool.not_eq_true', Bool.not_eq_false', beq_iff_eq, bne_iff_ne, ne_eq, Bool.not_eq_eq_eq_not, Bool.not_true, Bool.not_false, beq_eq_false_iff_ne, bne_eq_false_iff_eq, Bool.not_not, gt_iff_lt, ge_iff_le] at hsp2
      have hdl := splitE_len hsp2
      refine x_move rfl rfl rfl rfl ?_
      refine x_eqS _ rfl rfl rfl rfl rfl rfl ?_ -- eq3 path.go:108
      refine x_move rfl rfl rfl rfl ?_
      refine Ex.split 28 rfl (fun hsp3 => ?_) (fun hsp3 => ?_)
      · -- sp3 True
        try simp only [decide_eq_true_eq, decide_eq_false_iff_not, Bool.not_eq_true', Bool.not_eq_false', beq_iff_eq, bne_iff_ne, ne_eq, Bool.not_eq_eq_eq_not, Bool.not_true, Bool.not_false, beq_eq_false_iff_ne, bne_eq_false_iff_eq, Bool.not_not, gt_iff_lt, ge_iff_le] at hsp3
        refine Ex.skip_ rfl rfl rfl ?_
        refine Ex.skip_ rfl rfl rfl ?_
        refine Ex.skip_ rfl rfl rfl ?_
        refine x_pickT rfl rfl rfl rfl rfl ?_
        refine x_move rfl rfl rfl rfl ?_
        refine Ex.skip_ rfl rfl rfl ?_
        refine Ex.skip_ rfl rfl rfl ?_
        refine Ex.skip_ rfl rfl rfl ?_
        refine Ex.skipm_ rfl rfl rfl ?_
        refine x_pickT rfl rfl rfl rfl rfl ?_
        refine x_pickT rfl rfl rfl rfl rfl ?_
        refine x_assign rfl rfl rfl rfl ?_
        refine Ex.done (hK _ _ ?_)
        refine At.then_n ?_
        refine W.ret ?_
        refine At.ret1 (.tmp 4) rfl ⟨rfl, trivial⟩ ?_ -- ret1
        exact ⟨by rw [← under_eq]; simp [underQ, splitE_nil, *], M.frm⟩
      · -- sp3 False
        try simp only [decide_eq_true_eq, decide_eq_false_iff_not, Bool.not_eq_true', Bool.not_eq_false', beq_iff_eq, bne_iff_ne, ne_eq, Bool.not_eq_eq_eq_not, Bool.not_true, Bool.not_false, beq_eq_false_iff_ne, bne_eq_false_iff_eq, Bool.not_not, gt_iff_lt, ge_iff_le] at hsp3
        refine x_move rfl rfl rfl rfl ?_
        refine x_move rfl rfl rfl rfl ?_
        refine x_eqS _ rfl rfl rfl rfl rfl rfl ?_ -- eq4 path.go:108
        refine x_pickF rfl rfl rfl rfl rfl ?_
        refine x_move rfl rfl rfl rfl ?_
        refine Ex.split 33 rfl (fun hsp4 => ?_) (fun hsp4 => ?_)
        · -- sp4 True
          try simp only [decide_eq_true_eq, decide_eq_false_iff_not, Bool.not_eq_true', Bool.not_eq_false', beq_iff_eq, bne_iff_ne, ne_eq, Bool.not_eq_eq_eq_not, Bool.not_true, Bool.not_false, beq_eq_false_iff_ne, bne_eq_false_iff_eq, Bool.not_not, gt_iff_lt, ge_iff_le] at hsp4
          refine Ex.skip_ rfl rfl rfl ?_
          refine Ex.skip_ rfl rfl rfl ?_
          refine Ex.skip_ rfl rfl rfl ?_
          refine Ex.skipm_ rfl rfl rfl ?_
          refine x_pickT rfl rfl rfl rfl rfl ?_
          refine x_pickT rfl rfl rfl rfl rfl ?_
          refine x_assign rfl rfl rfl rfl ?_
          refine Ex.done (hK _ _ ?_)
          refine At.then_n ?_
          refine W.ret ?_
          refine At.ret1 (.tmp 4) rfl ⟨rfl, trivial⟩ ?_ -- ret2
          exact ⟨by rw [← under_eq]; simp [underQ, splitE_nil, *], M.frm⟩
        · -- sp4 False
          try simp only [decide_eq_true_eq, decide_eq_false_iff_not, Bool.not_eq_true', Bool.not_eq_false', beq_iff_eq, bne_iff_ne, ne_eq, Bool.not_eq_eq_eq_not, Bool.not_true, Bool.not_false, beq_eq_false_iff_ne, bne_eq_false_iff_eq, Bool.not_not, gt_iff_lt, ge_iff_le] at hsp4
          refine x_move rfl rfl rfl rfl ?_
          refine x_move rfl rfl rfl rfl ?_
          refine x_catS rfl rfl rfl rfl rfl (by simp; omega) ?_ -- ar1 path.go:108
          -- call3: strings.HasPrefix path.go:108
          refine x_call rfl rfl rfl rfl rfl en35 (haspref_c) ?_
          rintro r w3 ⟨rfl, hn3⟩
          have M := M.new hn3
          refine ⟨trivial, ?_⟩
          refine x_pickF rfl rfl rfl rfl rfl ?_
          refine x_pickT rfl rfl rfl rfl rfl ?_
          refine x_assign rfl rfl rfl rfl ?_
          refine Ex.done (hK _ _ ?_)
          refine At.then_n ?_
          refine W.ret ?_
          refine At.ret1 (.tmp 4) rfl ⟨rfl, trivial⟩ ?_ -- ret3
          exact ⟨by rw [← under_eq]; simp [underQ, splitE_nil, *], M.frm⟩
    · -- sp2 False
      try simp only [decide_eq_true_eq, decide_eq_false_iff_not, Bool.not_eq_true', Bool.not_eq_false', beq_iff_eq, bne_iff_ne, ne_eq, Bool.not_eq_eq_eq_not, Bool.not_true, Bool.not_false, beq_eq_false_iff_ne, bne_eq_false_iff_eq, Bool.not_not, gt_iff_lt, ge_iff_le] at hsp2
      refine Ex.skip_ rfl rfl rfl ?_
      refine Ex.skip_ rfl rfl rfl ?_
      refine Ex.skip_ rfl rfl rfl ?_
      refine Ex.skip_ rfl rfl rfl ?_
      refine Ex.skip_ rfl rfl rfl ?_
      refine Ex.skip_ rfl rfl rfl ?_
      refine Ex.skip_ rfl rfl rfl ?_
      refine Ex.skip_ rfl rfl rfl ?_
      refine Ex.skip_ rfl rfl rfl ?_
      refine Ex.skip_ rfl rfl rfl ?_
      refine Ex.skip_ rfl rfl rfl ?_
      refine Ex.skipm_ rfl rfl rfl ?_
      refine Ex.skip_ rfl rfl rfl ?_
      refine x_pickF rfl rfl rfl rfl rfl ?_
      refine x_assign rfl rfl rfl rfl ?_
      refine Ex.done (hK _ _ ?_)
      refine At.then_n ?_
      refine W.ret ?_
      refine At.ret1 (.tmp 4) rfl ⟨rfl, trivial⟩ ?_ -- ret4
      exact ⟨by rw [← under_eq]; simp [underQ, splitE_nil, *], M.frm⟩
  · -- sp1 False
    try simp only [decide_eq_true_eq, decide_eq_false_iff_not, Bool.not_eq_true', Bool.not_eq_false', beq_iff_eq, bne_iff_ne, ne_eq, Bool.not_eq_eq_eq_not, Bool.not_true, Bool.not_false, beq_eq_false_iff_ne, bne_eq_false_iff_eq, Bool.not_not, gt_iff_lt, ge_iff_le] at hsp1
    refine Ex.skip_ rfl rfl rfl ?_
    refine Ex.skip_ rfl rfl rfl ?_
    refine x_pickF rfl rfl rfl rfl rfl ?_
    refine x_move rfl rfl rfl rfl ?_
    refine Ex.skip_ rfl rfl rfl ?_
    refine Ex.skip_ rfl rfl rfl ?_
    refine Ex.skip_ rfl rfl rfl ?_
    refine Ex.skip_ rfl rfl rfl ?_
    refine Ex.skip_ rfl rfl rfl ?_
    refine Ex.skip_ rfl rfl rfl ?_
    refine Ex.skip_ rfl rfl rfl ?_
    refine Ex.skip_ rfl rfl rfl ?_
    refine Ex.skip_ rfl rfl rfl ?_
    refine Ex.skip_ rfl rfl rfl ?_
    refine Ex.skip_ rfl rfl rfl ?_
    refine Ex.skipm_ rfl rfl rfl ?_
    refine Ex.skip_ rfl rfl rfl ?_
    refine x_pickF rfl rfl rfl rfl rfl ?_
    refine x_assign rfl rfl rfl rfl ?_
    refine Ex.done (hK _ _ ?_)
    refine At.then_n ?_
    refine W.ret ?_
    refine At.ret1 (.tmp 4) rfl ⟨rfl, trivial⟩ ?_ -- ret5
    exact ⟨by rw [← under_eq]; simp [underQ, splitE_nil, *], M.frm⟩

-- valise/valiseref13.Under
set_option maxRecDepth 100000 in
theorem runder_c {w0 : World} {p dir : List UInt8}  : Ret Try.prog 26 #[strV p, strV dir] w0 fun r w' => r = .bool (underP p dir) ∧ New w0 w' := by
  have M : Sep w0 [] w0 := St.nil w0
  refine Ret.of_W Try.func26 rfl Try.ntmps26 rfl ?_
  refine W.seq ?_
  refine W.sub [(0, _), (1, _)] ⟨rfl, rfl, trivial⟩ ?_
  refine W.reg [(0, false)] (by kernel_rfl) ?_ -- region 0
  intro K hK
  refine x_assign rfl rfl rfl rfl ?_
  refine Ex.done (hK _ _ ?_)
  refine At.then_n ?_
  refine W.seq ?_
  refine W.sub [(0, _), (1, _)] ⟨rfl, rfl, trivial⟩ ?_
  refine W.reg [(0, false), (1, true), (2, false), (3, false), (4, false), (5, false), (6, false)] (by kernel_rfl) ?_ -- region 1
  intro K hK
  refine x_move rfl rfl rfl rfl ?_
  -- call1: valise/valiseref13.Split ref.go:126
  refine x_call rfl rfl rfl rfl rfl en14 (rsplit_c) ?_
  rintro r w1 ⟨v1, L1, rfl, M1, hs1⟩
  have M := M.grow M1
  generalize hA : splitN p = A at hs1
  obtain ⟨p1, cap1, rfl, hcap1⟩ := hs1.shape2 (by decide)
  refine ⟨trivial, ?_⟩
  refine x_move rfl rfl rfl rfl ?_
  refine x_ext rfl rfl rfl rfl rfl ?_ -- ex1
  refine x_ext rfl rfl rfl rfl rfl ?_ -- ex2
  refine x_assign rfl rfl rfl rfl ?_
  refine x_assign rfl rfl rfl rfl ?_
  refine Ex.done (hK _ _ ?_)
  refine At.then_n ?_
  refine W.seq ?_
  refine W.sub [(1, _), (5, _), (6, _)] ⟨rfl, rfl, rfl, trivial⟩ ?_
  refine W.reg [(0, false), (1, true), (2, false), (3, false), (4, false), (5, false), (6, false)] (by kernel_rfl) ?_ -- region 2
  intro K hK
  refine x_move rfl rfl rfl rfl ?_
  -- call2: valise/valiseref13.Split ref.go:127
  refine x_call rfl rfl rfl rfl rfl en14 (rsplit_c) ?_
  rintro r w2 ⟨v2, L2, rfl, M2, hs2⟩
  have M := M.grow M2
  generalize hB : splitN dir = B at hs2
  obtain ⟨p2, cap2, rfl, hcap2⟩ := hs2.shape2 (by decide)
  have hU := underP_eq p dir
  have hlA := splitN_len p
  have hlB := splitN_len dir
  rw [hA] at hlA
  rw [hB] at hlB
  rw [hA, hB] at hU
  refine ⟨trivial, ?_⟩
  refine x_move rfl rfl rfl rfl ?_
  refine x_ext rfl rfl rfl rfl rfl ?_ -- ex3
  refine x_ext rfl rfl rfl rfl rfl ?_ -- ex4
  refine x_assign rfl rfl rfl rfl ?_
  refine x_assign rfl rfl rfl rfl ?_
  refine Ex.done (hK _ _ ?_)
  refine At.then_n ?_
  refine W.seq ?_
  refine W.seq ?_
  refine W.sub [(5, _), (6, _), (7, _), (8, _)] ⟨rfl, rfl, rfl, rfl, trivial⟩ ?_
  refine W.reg [(0, false), (1, false), (2, false), (3, false), (4, false), (5, false), (6, false), (7, false), (8, false), (9, false), (10, false), (11, false), (12, false)] (by kernel_rfl) ?_ -- region 3
  intro K hK
  refine x_move rfl rfl rfl rfl ?_
  refine x_nei _ rfl rfl rfl rfl rfl rfl ?_ -- eq1 ref.go:128
  refine x_move rfl rfl rfl rfl ?_
  refine Ex.split 22 rfl (fun hsp1 => ?_) (fun hsp1 => ?_)
  · -- sp1 True
    try simp only [decide_eq_true_eq, decide_eq_false_iff_not, Bool.not_eq_true', Bool.not_eq_false', beq_iff_eq, bne_iff_ne, ne_eq, Bool.not_eq_eq_eq_not, Bool.not_true, Bool.not_false, beq_eq_false_iff_ne, bne_eq_false_iff_eq, Bool.not_not, gt_iff_lt, ge_iff_le] at hsp1
    refine Ex.skip_ rfl rfl rfl ?_
    refine Ex.skip_ rfl rfl rfl ?_
    refine x_pickT rfl rfl rfl rfl rfl ?_
    refine x_move rfl rfl rfl rfl ?_
    refine Ex.skip_ rfl rfl rfl ?_
    refine Ex.skip_ rfl rfl rfl ?_
    refine Ex.skip_ rfl rfl rfl ?_
    refine Ex.skip_ rfl rfl rfl ?_
    refine Ex.skip_ rfl rfl rfl ?_
    refine x_pickT rfl rfl rfl rfl rfl ?_
    refine Ex.done (hK _ _ ?_)
    refine At.then_n ?_
    refine W.condT rfl ?_ -- co1
    refine W.seq ?_
    refine W.sub [] trivial ?_
    refine W.reg [(0, false)] (by kernel_rfl) ?_ -- region 4
    intro K hK
    refine x_assign rfl rfl rfl rfl ?_
    refine Ex.done (hK _ _ ?_)
    refine At.then_n ?_
    refine W.ret ?_
    refine At.then_r ?_
    refine At.ret1 (.tmp 4) rfl ⟨rfl, trivial⟩ ?_ -- ret1
    exact ⟨by rw [hU]; simp [hsp1], M.frm⟩
  · -- sp1 False
    try simp only [decide_eq_true_eq, decide_eq_false_iff_not, Bool.not_eq_true', Bool.not_eq_false', beq_iff_eq, bne_iff_ne, ne_eq, Bool.not_eq_eq_eq_not, Bool.not_true, Bool.not_false, beq_eq_false_iff_ne, bne_eq_false_iff_eq, Bool.not_not, gt_iff_lt, ge_iff_le] at hsp1
    refine x_move rfl rfl rfl rfl ?_
    refine x_nei _ rfl rfl rfl rfl rfl rfl ?_ -- eq2 ref.go:128
    refine x_pickF rfl rfl rfl rfl rfl ?_
    refine x_move rfl rfl rfl rfl ?_
    refine Ex.split 26 rfl (fun hsp2 => ?_) (fun hsp2 => ?_)
    · -- sp2 True
      try simp only [decide_eq_true_eq, decide_eq_false_iff_not, Bool.not_eq_true', Bool.not_eq_false', beq_iff_eq, bne_iff_ne, ne_eq, Bool.not_eq_eq_eq_not, Bool.not_true, Bool.not_false, beq_eq_false_iff_ne, bne_eq_false_iff_eq, Bool.not_not, gt_iff_lt, ge_iff_le] at hsp2
      refine Ex.skip_ rfl rfl rfl ?_
      refine Ex.skip_ rfl rfl rfl ?_
      refine Ex.skip_ rfl rfl rfl ?_
      refine Ex.skip_ rfl rfl rfl ?_
      refine Ex.skip_ rfl rfl rfl ?_
      refine x_pickT rfl rfl rfl rfl rfl ?_
      refine Ex.done (hK _ _ ?_)
      refine At.then_n ?_
      refine W.condT rfl ?_ -- co2
      refine W.seq ?_
      refine W.sub [] trivial ?_
      refine W.reg [(0, false)] (by kernel_rfl) ?_ -- region 4
      intro K hK
      refine x_assign rfl rfl rfl rfl ?_
      refine Ex.done (hK _ _ ?_)
      refine At.then_n ?_
      refine W.ret ?_
      refine At.then_r ?_
      refine At.ret1 (.tmp 4) rfl ⟨rfl, trivial⟩ ?_ -- ret2
      exact ⟨by rw [hU]; simp [hsp2], M.frm⟩
    · -- sp2 False
      try simp only [decide_eq_true_eq, decide_eq_false_iff_not, Bool.not_eq_true', Bool.not_eq_false', beq_iff_eq, bne_iff_ne, ne_eq, Bool.not_eq_eq_eq_not, Bool.not_true, Bool.not_false, beq_eq_false_iff_ne, bne_eq_false_iff_eq, Bool.not_not, gt_iff_lt, ge_iff_le] at hsp2
      refine x_move rfl rfl rfl rfl ?_
      refine x_len rfl rfl rfl rfl Try.underlying22 rfl ?_
      refine x_move rfl rfl rfl rfl ?_
      refine x_len rfl rfl rfl rfl Try.underlying22 rfl ?_
      refine x_gtr _ rfl rfl rfl rfl rfl rfl ?_ -- cm1 ref.go:128
      refine x_pickF rfl rfl rfl rfl rfl ?_
      refine Ex.done (hK _ _ ?_)
      refine At.then_n ?_
      refine W.cond rfl (fun hco3 => ?_) (fun hco3 => ?_) -- co3
      · try simp only [decide_eq_true_eq, decide_eq_false_iff_not, Bool.not_eq_true', Bool.not_eq_false', beq_iff_eq, bne_iff_ne, ne_eq, Bool.not_eq_eq_eq_not, Bool.not_true, Bool.not_false, beq_eq_false_iff_ne, bne_eq_false_iff_eq, Bool.not_not, gt_iff_lt, ge_iff_le] at hco3
        refine W.seq ?_
        refine W.sub [] trivial ?_
        refine W.reg [(0, false)] (by kernel_rfl) ?_ -- region 4
        intro K hK
        refine x_assign rfl rfl rfl rfl ?_
        refine Ex.done (hK _ _ ?_)
        refine At.then_n ?_
        refine W.ret ?_
        refine At.then_r ?_
        refine At.ret1 (.tmp 4) rfl ⟨rfl, trivial⟩ ?_ -- ret3
        exact ⟨by rw [hU, pre_long (by omega)]; simp, M.frm⟩
      · try simp only [decide_eq_true_eq, decide_eq_false_iff_not, Bool.not_eq_true', Bool.not_eq_false', beq_iff_eq, bne_iff_ne, ne_eq, Bool.not_eq_eq_eq_not, Bool.not_true, Bool.not_false, beq_eq_false_iff_ne, bne_eq_false_iff_eq, Bool.not_not, gt_iff_lt, ge_iff_le] at hco3
        refine W.skip ?_
        refine At.then_n ?_
        refine W.seq ?_
        refine W.seq ?_
        refine W.sub [(5, _), (7, _)] ⟨rfl, rfl, trivial⟩ ?_
        refine W.reg [(0, false)] (by kernel_rfl) ?_ -- region 5
        intro K hK
        refine x_assign rfl rfl rfl rfl ?_
        refine Ex.done (hK _ _ ?_)
        refine At.then_n ?_
        refine W.block ?_
        refine W.loop (σ := Nat) (fun q => [(5, _), (7, _), (9, .int .i64 ((q : Nat) : Int))]) (fun q w => q ≤ B.length ∧ B.take q = A.take q ∧ Sep w0 (L1 ++ L2) w) (fun q => B.length - q) 0 ⟨rfl, rfl, rfl, trivial⟩ ⟨Nat.zero_le _, rfl, M⟩ ?_ -- loop1
        rintro q w ⟨hq, hpre, M⟩
        refine W.seq ?_
        refine W.seq ?_
        refine W.sub [(5, _), (7, _), (9, _)] ⟨rfl, rfl, rfl, trivial⟩ ?_
        refine W.reg [(0, false), (1, false), (2, false), (3, false)] (by kernel_rfl) ?_ -- region 6
        intro K hK
        refine x_move rfl rfl rfl rfl ?_
        refine x_move rfl rfl rfl rfl ?_
        refine x_len rfl rfl rfl rfl Try.underlying22 rfl ?_
        refine x_lss _ rfl rfl rfl rfl rfl rfl ?_ -- cm2 ref.go:131
        refine Ex.done (hK _ _ ?_)
        refine At.then_n ?_
        refine W.cond rfl (fun hco4 => ?_) (fun hco4 => ?_) -- co4
        · try simp only [decide_eq_true_eq, decide_eq_false_iff_not, Bool.not_eq_true', Bool.not_eq_false', beq_iff_eq, bne_iff_ne, ne_eq, Bool.not_eq_eq_eq_not, Bool.not_true, Bool.not_false, beq_eq_false_iff_ne, bne_eq_false_iff_eq, Bool.not_not, gt_iff_lt, ge_iff_le] at hco4
          obtain ⟨y, hy⟩ := get_lt (l := B) (q := q) (by omega)
          obtain ⟨x, hx⟩ := get_lt (l := A) (q := q) (by omega)
          obtain ⟨bk1, off1, rfl, _⟩ := (strsO_at hs1 M (fun _ h => List.mem_append_left _ h)).blk (j := q) (by omega)
          obtain ⟨bk2, off2, rfl, _⟩ := (strsO_at hs2 M (fun _ h => List.mem_append_right _ h)).blk (j := q) (by omega)
          refine W.skip ?_
          refine At.then_n ?_
          refine W.seq ?_
          refine W.block ?_
          refine W.seq ?_
          refine W.sub [(5, _), (7, _), (9, _)] ⟨rfl, rfl, rfl, trivial⟩ ?_
          refine W.regD (by kernel_rfl) #[0, 0, 3, 7, 0, 0, 48, 112, 255] [(0, false), (1, false), (2, false), (3, false), (4, false), (5, false), (6, false), (7, false), (8, false)] (by kernel_rfl) ?_ -- region 8
          intro K wD1 hK hwD1
          have M := M.drew hwD1
          refine x_move rfl rfl rfl rfl ?_
          refine x_move rfl rfl rfl rfl ?_
          refine x_ia q rfl rfl rfl Try.underlying22 sz9 rfl rfl rfl (by omega) ?_ -- ia1 ref.go:132
          refine x_ld rfl rfl rfl Try.underlying9 rfl rfl (StrsAt.cell (strsO_at hs1 M (fun _ h => List.mem_append_left _ h)) hx) ?_ -- ld1 ref.go:132
          refine x_move rfl rfl rfl rfl ?_
          refine x_move rfl rfl rfl rfl ?_
          refine x_ia q rfl rfl rfl Try.underlying22 sz9 rfl rfl rfl (by omega) ?_ -- ia2 ref.go:132
          refine x_ld rfl rfl rfl Try.underlying9 rfl rfl (StrsAt.cell (strsO_at hs2 M (fun _ h => List.mem_append_right _ h)) hy) ?_ -- ld2 ref.go:132
          refine x_neS _ rfl rfl rfl rfl rfl rfl ?_ -- eq3 ref.go:132
          refine Ex.done (hK _ _ ?_)
          refine At.then_n ?_
          refine W.cond rfl (fun hco5 => ?_) (fun hco5 => ?_) -- co5
          · try simp only [decide_eq_true_eq, decide_eq_false_iff_not, Bool.not_eq_true', Bool.not_eq_false', beq_iff_eq, bne_iff_ne, ne_eq, Bool.not_eq_eq_eq_not, Bool.not_true, Bool.not_false, beq_eq_false_iff_ne, bne_eq_false_iff_eq, Bool.not_not, gt_iff_lt, ge_iff_le] at hco5
            refine W.seq ?_
            refine W.sub [] trivial ?_
            refine W.reg [(0, false)] (by kernel_rfl) ?_ -- region 9
            intro K hK
            refine x_assign rfl rfl rfl rfl ?_
            refine Ex.done (hK _ _ ?_)
            refine At.then_n ?_
            refine W.ret ?_
            refine At.blk_r ?_
            refine At.then_r ?_
            refine At.loop_r ?_
            refine At.blk_r ?_
            refine At.then_r ?_
            refine At.ret1 (.tmp 4) rfl ⟨rfl, trivial⟩ ?_ -- ret4
            exact ⟨by rw [hU, pre_no hx hy hco5]; simp, M.frm⟩
          · try simp only [decide_eq_true_eq, decide_eq_false_iff_not, Bool.not_eq_true', Bool.not_eq_false', beq_iff_eq, bne_iff_ne, ne_eq, Bool.not_eq_eq_eq_not, Bool.not_true, Bool.not_false, beq_eq_false_iff_ne, bne_eq_false_iff_eq, Bool.not_not, gt_iff_lt, ge_iff_le] at hco5
            refine W.skip ?_
            refine At.blk_n ?_
            refine At.then_n ?_
            refine W.sub [(5, _), (7, _), (9, _)] ⟨rfl, rfl, rfl, trivial⟩ ?_
            refine W.reg [(0, false), (1, false), (2, false)] (by kernel_rfl) ?_ -- region 7
            intro K hK
            refine x_move rfl rfl rfl rfl ?_
            refine x_add _ rfl rfl rfl rfl rfl (wadd (by omega) (by omega)) ?_ -- ar1 ref.go:131
            refine x_assign rfl rfl rfl rfl ?_
            refine Ex.done (hK _ _ ?_)
            -- bk1: back to loop1
            exact At.back (q + 1) ⟨rfl, rfl, rfl, trivial⟩ ⟨by omega, pre_step hpre hx hy hco5, M⟩ (by first | omega | (simp only; omega) | (simp; done) | (simp; omega))
        · try simp only [decide_eq_true_eq, decide_eq_false_iff_not, Bool.not_eq_true', Bool.not_eq_false', beq_iff_eq, bne_iff_ne, ne_eq, Bool.not_eq_eq_eq_not, Bool.not_true, Bool.not_false, beq_eq_false_iff_ne, bne_eq_false_iff_eq, Bool.not_not, gt_iff_lt, ge_iff_le] at hco4
          refine W.exit ?_
          refine At.then_x ?_
          refine At.loop_x ?_
          refine At.blk_x ?_
          refine At.then_n ?_
          refine W.seq ?_
          refine W.sub [] trivial ?_
          refine W.reg [(0, false)] (by kernel_rfl) ?_ -- region 10
          intro K hK
          refine x_assign rfl rfl rfl rfl ?_
          refine Ex.done (hK _ _ ?_)
          refine At.then_n ?_
          refine W.ret ?_
          refine At.ret1 (.tmp 4) rfl ⟨rfl, trivial⟩ ?_ -- ret5
          have hqB : q = B.length := by omega
          subst hqB
          exact ⟨by rw [hU, pre_yes hpre, hsp1, hsp2]; rfl, M.frm⟩
end Go.Proofs.Ytkieecaaijlokaa
