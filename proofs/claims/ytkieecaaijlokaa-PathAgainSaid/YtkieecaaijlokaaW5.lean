/-
  The walk of functions, by program: rpieces.
-/
import Derived.Test.YtkieecaaijlokaaW4
namespace Go.Proofs.Ytkieecaaijlokaa
open Go Go.Fw Go.RowKit Go.Proofs
set_option linter.unusedVariables false
set_option linter.unusedSimpArgs false

-- valise/valiseref13.Pieces
set_option maxRecDepth 100000 in
set_option maxHeartbeats 1000000 in
theorem rpieces_c {w0 : World} {s : List UInt8} (hl : s.length ≤ 1099511627776) : Ret Try.prog 31 #[strV s] w0 fun r w' => ∃ Lr, Sep w0 Lr w' ∧ StrsO Lr r (splitS s) := by
  have M : Sep w0 [] w0 := St.nil w0
  refine Ret.of_W Try.func31 rfl Try.ntmps31 rfl ?_
  refine W.seq ?_
  refine W.sub [(0, _)] ⟨rfl, trivial⟩ ?_
  refine W.reg [(0, false)] (by kernel_rfl) ?_ -- region 0
  intro K hK
  refine x_assign rfl rfl rfl rfl ?_
  refine Ex.done (hK _ _ ?_)
  refine At.then_n ?_
  refine W.seq ?_
  refine W.sub [(0, _)] ⟨rfl, trivial⟩ ?_
  refine W.reg [(0, false)] (by kernel_rfl) ?_ -- region 1
  intro K hK
  refine x_assign rfl rfl rfl rfl ?_
  refine Ex.done (hK _ _ ?_)
  refine At.then_n ?_
  refine W.seq ?_
  refine W.sub [(0, _), (3, _)] ⟨rfl, rfl, trivial⟩ ?_
  refine W.reg [(0, false)] (by kernel_rfl) ?_ -- region 2
  intro K hK
  refine x_assign rfl rfl rfl rfl ?_
  refine Ex.done (hK _ _ ?_)
  refine At.then_n ?_
  refine W.seq ?_
  refine W.seq ?_
  refine W.sub [(0, _), (3, _), (4, _)] ⟨rfl, rfl, rfl, trivial⟩ ?_
  refine W.reg [(0, false)] (by kernel_rfl) ?_ -- region 3
  intro K hK
  refine x_assign rfl rfl rfl rfl ?_
  refine Ex.done (hK _ _ ?_)
  refine At.then_n ?_
  refine W.block ?_
  refine W.loop (σ := Nat × Nat × Value) (fun s0 => [(0, _), (3, s0.2.2), (4, .int .i64 ((s0.2.1 : Nat) : Int)), (5, .int .i64 ((s0.1 : Nat) : Int))]) (fun s0 w => s0.1 ≤ s.length + 1 ∧ s0.2.1 ≤ s.length + 1 ∧ ∃ A Lo, PInv s s0.1 s0.2.1 A ∧ StrsO Lo s0.2.2 A ∧ Sep w0 ([] ++ Lo) w) (fun s0 => s.length + 1 - s0.1) (0, 0, .slice none 0 0) ⟨rfl, rfl, rfl, rfl, trivial⟩ ⟨by simp, by simp, [], [], PInv.zero s, OwL.nil, M⟩ ?_ -- loop1
  rintro ⟨i, q, ov⟩ w ⟨hi, hq, A, Lo, hP, how, M⟩
  simp only at hi hq hP how ⊢
  have hAl := hP.1
  refine W.seq ?_
  refine W.seq ?_
  refine W.sub [(0, _), (3, _), (4, _), (5, _)] ⟨rfl, rfl, rfl, rfl, trivial⟩ ?_
  refine W.reg [(0, false), (1, false), (2, false), (3, false)] (by kernel_rfl) ?_ -- region 4
  intro K hK
  refine x_move rfl rfl rfl rfl ?_
  refine x_move rfl rfl rfl rfl ?_
  refine x_lenS rfl rfl rfl rfl Try.underlying9 rfl ?_
  refine x_leq _ rfl rfl rfl rfl rfl rfl ?_ -- cm1 ref.go:33
  refine Ex.done (hK _ _ ?_)
  refine At.then_n ?_
  refine W.cond rfl (fun hco1 => ?_) (fun hco1 => ?_) -- co1
  · try simp only [decide_eq_true_eq, decide_eq_false_iff_not, Bool.not_eq_true', Bool.not_eq_false', beq_iff_eq, bne_iff_ne, ne_eq, Bool.not_eq_eq_eq_not, Bool.not_true, Bool.not_false, beq_eq_false_iff_ne, bne_eq_false_iff_eq, Bool.not_not, gt_iff_lt, ge_iff_le] at hco1
    refine W.skip ?_
    refine At.then_n ?_
    refine W.seq ?_
    refine W.block ?_
    refine W.seq ?_
    refine W.sub [(0, _), (3, _), (4, _), (5, _)] ⟨rfl, rfl, rfl, rfl, trivial⟩ ?_
    refine W.reg [(0, false), (1, false), (2, false), (3, false), (4, false), (5, false), (6, false), (7, false), (8, false), (9, false)] (by kernel_rfl) ?_ -- region 6
    intro K hK
    refine x_move rfl rfl rfl rfl ?_
    refine x_move rfl rfl rfl rfl ?_
    refine x_lenS rfl rfl rfl rfl Try.underlying9 rfl ?_
    refine x_eqi _ rfl rfl rfl rfl rfl rfl ?_ -- eq1 ref.go:34
    refine x_move rfl rfl rfl rfl ?_
    refine Ex.split 16 rfl (fun hsp1 => ?_) (fun hsp1 => ?_)
    · -- sp1 True
      try simp only [decide_eq_true_eq, decide_eq_false_iff_not, Bool.not_eq_true', Bool.not_eq_false', beq_iff_eq, bne_iff_ne, ne_eq, Bool.not_eq_eq_eq_not, Bool.not_true, Bool.not_false, beq_eq_false_iff_ne, bne_eq_false_iff_eq, Bool.not_not, gt_iff_lt, ge_iff_le] at hsp1
      have hie : i = s.length := by omega
      subst hie
      obtain ⟨hqi, hP2⟩ := hP.last
      refine Ex.skip_ rfl rfl rfl ?_
      refine Ex.skip_ rfl rfl rfl ?_
      refine Ex.skip_ rfl rfl rfl ?_
      refine Ex.skip_ rfl rfl rfl ?_
      refine x_pickT rfl rfl rfl rfl rfl ?_
      refine Ex.done (hK _ _ ?_)
      refine At.then_n ?_
      refine W.condT rfl ?_ -- co2
      refine W.seq ?_
      refine W.sub [(0, _), (3, _), (4, _), (5, _)] ⟨rfl, rfl, rfl, rfl, trivial⟩ ?_
      refine W.reg [(0, false), (1, false), (2, false), (3, false), (4, false), (5, true), (6, true), (7, false)] (by kernel_rfl) ?_ -- region 7
      intro K hK
      refine x_move rfl rfl rfl rfl ?_
      refine x_move rfl rfl rfl rfl ?_
      refine x_move rfl rfl rfl rfl ?_
      refine x_move rfl rfl rfl rfl ?_
      refine x_sslhS q s.length rfl rfl rfl Try.underlying9 rfl rfl rfl rfl rfl hqi (Nat.le_refl _) ?_ -- sl1 ref.go:35
      -- bs1: ref.go:35
      refine x_bs1 (cs := [strV ((s.drop q).take (s.length - q))]) rfl rfl rfl Try.underlying22 sz9 ze9 (Z := [_]) rfl rfl (by decide) (by decide) rfl rfl rfl ?_
      intro bbs1 wbs1 hbbs1 hwbs1
      have M0 := M.acons hbbs1 hwbs1
      have hslbs1 : Sl wbs1 (.slice (some ⟨bbs1, 0, none⟩) 1 1) 1 1 [strV ((s.drop q).take (s.length - q))] := .inr ⟨bbs1, 0, 1, _, _, _, rfl, by omega, M0.at_ 0 rfl, rfl, rfl⟩
      have M := M0.tail
      refine ⟨trivial, ?_⟩
      -- ap1: ref.go:35
      refine x_apL rfl rfl rfl rfl Try.underlying22 sz9 ze9 rfl by9 rfl rfl how (M.perm (List.perm_append_comm (l₁ := []) (l₂ := Lo))) (strCs_one _) (hslbs1.src Try.underlying22 (by intro u hu; simp at hu; subst hu; rfl)) (by omega) (by decide) (by omega) ?_
      intro Lo v6 wap1 how M
      have M := M.perm List.perm_append_comm
      refine ⟨trivial, ?_⟩
      refine x_assign rfl rfl rfl rfl ?_
      refine Ex.done (hK _ _ ?_)
      refine At.then_n ?_
      refine W.sub [(0, _), (3, _), (5, _)] ⟨rfl, rfl, rfl, trivial⟩ ?_
      refine W.reg [(0, false), (1, false), (2, false)] (by kernel_rfl) ?_ -- region 8
      intro K hK
      refine x_move rfl rfl rfl rfl ?_
      refine x_add ((s.length + 1 : Nat) : Int) rfl rfl rfl rfl rfl (by rw [w64 (by omega) (by omega)]; simp) ?_ -- ar1 ref.go:36
      refine x_assign rfl rfl rfl rfl ?_
      refine Ex.done (hK _ _ ?_)
      refine At.blk_n ?_
      refine At.then_n ?_
      refine W.sub [(0, _), (3, _), (4, _), (5, _)] ⟨rfl, rfl, rfl, rfl, trivial⟩ ?_
      refine W.reg [(0, false), (1, false), (2, false)] (by kernel_rfl) ?_ -- region 5
      intro K hK
      refine x_move rfl rfl rfl rfl ?_
      refine x_add ((s.length + 1 : Nat) : Int) rfl rfl rfl rfl rfl (by rw [w64 (by omega) (by omega)]; simp) ?_ -- ar2 ref.go:33
      refine x_assign rfl rfl rfl rfl ?_
      refine Ex.done (hK _ _ ?_)
      -- bk1: back to loop1
      exact At.back ((s.length + 1, s.length + 1, v6)) ⟨rfl, rfl, rfl, rfl, trivial⟩ ⟨by simp, by simp, _, _, hP2, strsO_snoc how, M⟩ (by first | omega | (simp only; omega) | (simp; done) | (simp; omega))
    · -- sp1 False
      try simp only [decide_eq_true_eq, decide_eq_false_iff_not, Bool.not_eq_true', Bool.not_eq_false', beq_iff_eq, bne_iff_ne, ne_eq, Bool.not_eq_eq_eq_not, Bool.not_true, Bool.not_false, beq_eq_false_iff_ne, bne_eq_false_iff_eq, Bool.not_not, gt_iff_lt, ge_iff_le] at hsp1
      have hlt : i < s.length := by omega
      obtain ⟨c, hc⟩ : ∃ c, s[i]? = some c := ⟨s[i], List.getElem?_eq_getElem hlt⟩
      refine x_move rfl rfl rfl rfl ?_
      refine x_move rfl rfl rfl rfl ?_
      refine x_ixS i rfl rfl rfl Try.underlying9 rfl rfl rfl hc ?_ -- ix1 ref.go:34
      refine x_eqi _ rfl rfl rfl rfl rfl rfl ?_ -- eq2 ref.go:34
      refine x_pickF rfl rfl rfl rfl rfl ?_
      refine Ex.done (hK _ _ ?_)
      refine At.then_n ?_
      refine W.cond rfl (fun hco3 => ?_) (fun hco3 => ?_) -- co3
      · try simp only [decide_eq_true_eq, decide_eq_false_iff_not, Bool.not_eq_true', Bool.not_eq_false', beq_iff_eq, bne_iff_ne, ne_eq, Bool.not_eq_eq_eq_not, Bool.not_true, Bool.not_false, beq_eq_false_iff_ne, bne_eq_false_iff_eq, Bool.not_not, gt_iff_lt, ge_iff_le] at hco3
        have hc47 : c = 47 := c47 hco3
        subst hc47
        obtain ⟨hqi, hP2⟩ := hP.slash hc
        refine W.seq ?_
        refine W.sub [(0, _), (3, _), (4, _), (5, _)] ⟨rfl, rfl, rfl, rfl, trivial⟩ ?_
        refine W.reg [(0, false), (1, false), (2, false), (3, false), (4, false), (5, true), (6, true), (7, false)] (by kernel_rfl) ?_ -- region 7
        intro K hK
        refine x_move rfl rfl rfl rfl ?_
        refine x_move rfl rfl rfl rfl ?_
        refine x_move rfl rfl rfl rfl ?_
        refine x_move rfl rfl rfl rfl ?_
        refine x_sslhS q i rfl rfl rfl Try.underlying9 rfl rfl rfl rfl rfl hqi (by omega) ?_ -- sl2 ref.go:35
        -- bs2: ref.go:35
        refine x_bs1 (cs := [strV ((s.drop q).take (i - q))]) rfl rfl rfl Try.underlying22 sz9 ze9 (Z := [_]) rfl rfl (by decide) (by decide) rfl rfl rfl ?_
        intro bbs2 wbs2 hbbs2 hwbs2
        have M0 := M.acons hbbs2 hwbs2
        have hslbs2 : Sl wbs2 (.slice (some ⟨bbs2, 0, none⟩) 1 1) 1 1 [strV ((s.drop q).take (i - q))] := .inr ⟨bbs2, 0, 1, _, _, _, rfl, by omega, M0.at_ 0 rfl, rfl, rfl⟩
        have M := M0.tail
        refine ⟨trivial, ?_⟩
        -- ap2: ref.go:35
        refine x_apL rfl rfl rfl rfl Try.underlying22 sz9 ze9 rfl by9 rfl rfl how (M.perm (List.perm_append_comm (l₁ := []) (l₂ := Lo))) (strCs_one _) (hslbs2.src Try.underlying22 (by intro u hu; simp at hu; subst hu; rfl)) (by omega) (by decide) (by omega) ?_
        intro Lo v6 wap2 how M
        have M := M.perm List.perm_append_comm
        refine ⟨trivial, ?_⟩
        refine x_assign rfl rfl rfl rfl ?_
        refine Ex.done (hK _ _ ?_)
        refine At.then_n ?_
        refine W.sub [(0, _), (3, _), (5, _)] ⟨rfl, rfl, rfl, trivial⟩ ?_
        refine W.reg [(0, false), (1, false), (2, false)] (by kernel_rfl) ?_ -- region 8
        intro K hK
        refine x_move rfl rfl rfl rfl ?_
        refine x_add ((i + 1 : Nat) : Int) rfl rfl rfl rfl rfl (by rw [w64 (by omega) (by omega)]; simp) ?_ -- ar3 ref.go:36
        refine x_assign rfl rfl rfl rfl ?_
        refine Ex.done (hK _ _ ?_)
        refine At.blk_n ?_
        refine At.then_n ?_
        refine W.sub [(0, _), (3, _), (4, _), (5, _)] ⟨rfl, rfl, rfl, rfl, trivial⟩ ?_
        refine W.reg [(0, false), (1, false), (2, false)] (by kernel_rfl) ?_ -- region 5
        intro K hK
        refine x_move rfl rfl rfl rfl ?_
        refine x_add ((i + 1 : Nat) : Int) rfl rfl rfl rfl rfl (by rw [w64 (by omega) (by omega)]; simp) ?_ -- ar4 ref.go:33
        refine x_assign rfl rfl rfl rfl ?_
        refine Ex.done (hK _ _ ?_)
        -- bk2: back to loop1
        exact At.back ((i + 1, i + 1, v6)) ⟨rfl, rfl, rfl, rfl, trivial⟩ ⟨by simp; omega, by simp; omega, _, _, hP2, strsO_snoc how, M⟩ (by first | omega | (simp only; omega) | (simp; done) | (simp; omega))
      · try simp only [decide_eq_true_eq, decide_eq_false_iff_not, Bool.not_eq_true', Bool.not_eq_false', beq_iff_eq, bne_iff_ne, ne_eq, Bool.not_eq_eq_eq_not, Bool.not_true, Bool.not_false, beq_eq_false_iff_ne, bne_eq_false_iff_eq, Bool.not_not, gt_iff_lt, ge_iff_le] at hco3
        have hc47 : c ≠ 47 := fun e => by subst e; simp at hco3
        refine W.skip ?_
        refine At.blk_n ?_
        refine At.then_n ?_
        refine W.sub [(0, _), (3, _), (4, _), (5, _)] ⟨rfl, rfl, rfl, rfl, trivial⟩ ?_
        refine W.reg [(0, false), (1, false), (2, false)] (by kernel_rfl) ?_ -- region 5
        intro K hK
        refine x_move rfl rfl rfl rfl ?_
        refine x_add ((i + 1 : Nat) : Int) rfl rfl rfl rfl rfl (by rw [w64 (by omega) (by omega)]; simp) ?_ -- ar5 ref.go:33
        refine x_assign rfl rfl rfl rfl ?_
        refine Ex.done (hK _ _ ?_)
        -- bk3: back to loop1
        exact At.back ((i + 1, q, ov)) ⟨rfl, rfl, rfl, rfl, trivial⟩ ⟨by simp; omega, by simpa using hq, _, _, hP.other hc hc47, how, M⟩ (by first | omega | (simp only; omega) | (simp; done) | (simp; omega))
  · try simp only [decide_eq_true_eq, decide_eq_false_iff_not, Bool.not_eq_true', Bool.not_eq_false', beq_iff_eq, bne_iff_ne, ne_eq, Bool.not_eq_eq_eq_not, Bool.not_true, Bool.not_false, beq_eq_false_iff_ne, bne_eq_false_iff_eq, Bool.not_not, gt_iff_lt, ge_iff_le] at hco1
    refine W.exit ?_
    refine At.then_x ?_
    refine At.loop_x ?_
    refine At.blk_x ?_
    refine At.then_n ?_
    refine W.seq ?_
    refine W.sub [(3, _)] ⟨rfl, trivial⟩ ?_
    refine W.reg [(0, false), (1, false)] (by kernel_rfl) ?_ -- region 9
    intro K hK
    refine x_move rfl rfl rfl rfl ?_
    refine x_assign rfl rfl rfl rfl ?_
    refine Ex.done (hK _ _ ?_)
    refine At.then_n ?_
    refine W.ret ?_
    refine At.ret1 (.tmp 2) rfl ⟨rfl, trivial⟩ ?_ -- ret1
    exact ⟨Lo, M, by rw [hP.done (by omega)]; exact how⟩
end Go.Proofs.Ytkieecaaijlokaa
