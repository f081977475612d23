/-
  The walk of functions, by program: clean.
-/
import Derived.Test.YtkieecaaijlokaaW6
namespace Go.Proofs.Ytkieecaaijlokaa
open Go Go.Fw Go.RowKit Go.Proofs
set_option linter.unusedVariables false
set_option linter.unusedSimpArgs false

-- valise/path.Clean
set_option maxRecDepth 100000 in
theorem clean_c {w0 : World} {s : List UInt8}  : Ret Try.prog 21 #[strV s] w0 fun r w' => r = .tuple #[strV (cleanP s).1, .int .i64 (cleanP s).2] ∧ New w0 w' := by
  have M : Sep w0 [] w0 := St.nil w0
  refine Ret.of_W Try.func21 rfl Try.ntmps21 rfl ?_
  refine W.seq ?_
  refine W.sub [(0, _)] ⟨rfl, trivial⟩ ?_
  refine W.reg [(0, false), (1, false)] (by kernel_rfl) ?_ -- region 0
  intro K hK
  refine x_assign rfl rfl rfl rfl ?_
  refine x_assign rfl rfl rfl rfl ?_
  refine Ex.done (hK _ _ ?_)
  refine At.then_n ?_
  refine W.seq ?_
  refine W.seq ?_
  refine W.sub [(0, _)] ⟨rfl, trivial⟩ ?_
  refine W.reg [(0, false), (1, false), (2, false)] (by kernel_rfl) ?_ -- region 1
  intro K hK
  refine x_move rfl rfl rfl rfl ?_
  refine x_lenS rfl rfl rfl rfl Try.underlying9 rfl ?_
  refine x_gtr _ rfl rfl rfl rfl rfl rfl ?_ -- cm1 path.go:73
  refine Ex.done (hK _ _ ?_)
  refine At.then_n ?_
  refine W.cond rfl (fun hco1 => ?_) (fun hco1 => ?_) -- co1
  · try simp only [decide_eq_true_eq, decide_eq_false_iff_not, Bool.not_eq_true', Bool.not_eq_false', beq_iff_eq, bne_iff_ne, ne_eq, Bool.not_eq_eq_eq_not, Bool.not_true, Bool.not_false, beq_eq_false_iff_ne, bne_eq_false_iff_eq, Bool.not_not, gt_iff_lt, ge_iff_le] at hco1
    refine W.seq ?_
    refine W.sub [] trivial ?_
    refine W.reg [(0, false), (1, false)] (by kernel_rfl) ?_ -- region 2
    intro K hK
    refine x_assign rfl rfl rfl rfl ?_
    refine x_assign rfl rfl rfl rfl ?_
    refine Ex.done (hK _ _ ?_)
    refine At.then_n ?_
    refine W.ret ?_
    refine At.then_r ?_
    refine At.ret2 (.tmp 2) (.tmp 3) rfl ⟨rfl, rfl, trivial⟩ ?_ -- ret1
    rw [cleanP_long (by omega)]; exact ⟨rfl, M.frm⟩
  · try simp only [decide_eq_true_eq, decide_eq_false_iff_not, Bool.not_eq_true', Bool.not_eq_false', beq_iff_eq, bne_iff_ne, ne_eq, Bool.not_eq_eq_eq_not, Bool.not_true, Bool.not_false, beq_eq_false_iff_ne, bne_eq_false_iff_eq, Bool.not_not, gt_iff_lt, ge_iff_le] at hco1
    refine W.skip ?_
    refine At.then_n ?_
    refine W.seq ?_
    refine W.sub [(0, _)] ⟨rfl, trivial⟩ ?_
    refine W.reg [(0, true)] (by kernel_rfl) ?_ -- region 3
    intro K hK
    refine x_alloc [_] rfl rfl rfl ze22 rfl ?_ -- al1 path.go:76
    intro bal1 wal1 hbal1 hwal1
    have M := M.acons hbal1 hwal1
    refine ⟨trivial, ?_⟩
    refine Ex.done (hK _ _ ?_)
    refine At.then_n ?_
    refine W.seq ?_
    refine W.seq ?_
    refine W.sub [(0, _), (4, _)] ⟨rfl, rfl, trivial⟩ ?_
    refine W.reg [(0, false), (1, true)] (by kernel_rfl) ?_ -- region 4
    intro K hK
    refine x_move rfl rfl rfl rfl ?_
    -- call1: valise/path.pieces path.go:77
    refine x_call rfl rfl rfl rfl rfl en30 (pieces_c) ?_
    rintro r wcall1 ⟨bcall1, rfl, Mcall1⟩
    have M := M.grow Mcall1
    refine ⟨trivial, ?_⟩
    refine Ex.done (hK _ _ ?_)
    refine At.then_n ?_
    refine W.block ?_
    refine W.sub [(4, _), (10, _)] ⟨rfl, rfl, trivial⟩ ?_
    refine W.range rfl en40 (fun rr hkt hps has hbdrng1 w2 hw2 => ?_)
    have M := M.range hw2
    refine (pieces_it (I := fun x rest w' => ∃ A ov Lo, cleanL s = rest.foldl cleanStep A ∧ A.length + rest.length ≤ 1025 ∧ StrsO Lo ov A ∧ Sep w0 ([(bal1, Obj.cells [ov].toArray 22 (0, 0)), (bcall1, Obj.cells [strV x].toArray 9 (0, 0)), (wcall1.heap.size, .deferred (some [])), (wcall1.heap.size + 1, .loop { rr with state := .ready, pending := none })] ++ Lo) w') (X := fun w' => False) (by omega) ?_ ?_ ?_ ?_ ⟨[], _, [], rfl, by have := splitS_len s; simp; omega, OwL.nil, by simpa using M⟩).mono ?_
    · rintro x rest w' ⟨A, ov, Lo, hcl, hlen, how, M⟩
      exact M.at_ 1 rfl
    · rintro x y rest w' w1 ⟨A, ov, Lo, hcl, hlen, how, M⟩ hw1
      have M := M.put 1 rfl hw1
      exact ⟨A, ov, Lo, hcl, hlen, how, M⟩
    · rintro x rest w' w1 ⟨A, ov, Lo, hcl, hlen, how, M⟩ hn
      have M := M.new hn
      exact ⟨A, ov, Lo, hcl, hlen, how, M⟩
    · rintro n rest w' ⟨A, ov, Lo, hcl, hlen, how, M⟩
      obtain ⟨p0, cap0, rfl, hcap0⟩ := how.shape2 (by decide)
      simp only [List.foldl_cons, List.length_cons] at hcl hlen
      refine Yld.one (M.at_ 3 rfl) hkt hps rfl has ?_
      refine W.sub [(4, _), (11, _)] ⟨rfl, rfl, trivial⟩ ?_
      refine W.reg [(0, false)] (by kernel_rfl) ?_ -- region 5
      intro K hK
      refine x_assign rfl rfl rfl rfl ?_
      refine Ex.done (hK _ _ ?_)
      refine At.asg hbdrng1 (M.at_ 3 rfl) ?_
      generalize hwb : World.putObj _ _ _ = wb
      have M := M.put 3 rfl hwb.symm
      refine W.block ?_
      refine W.block ?_
      refine W.seq ?_
      refine W.sub [(4, _), (5, _)] ⟨rfl, rfl, trivial⟩ ?_
      refine W.reg [(0, false), (1, false), (2, false), (3, false), (4, false), (5, false), (6, false)] (by kernel_rfl) ?_ -- region 6
      intro K hK
      refine x_move rfl rfl rfl rfl ?_
      refine x_eqS _ rfl rfl rfl rfl rfl rfl ?_ -- eq1 path.go:79
      refine x_move rfl rfl rfl rfl ?_
      refine Ex.split 15 rfl (fun hsp1 => ?_) (fun hsp1 => ?_)
      · -- sp1 True
        try simp only [decide_eq_true_eq, decide_eq_false_iff_not, Bool.not_eq_true', Bool.not_eq_false', beq_iff_eq, bne_iff_ne, ne_eq, Bool.not_eq_eq_eq_not, Bool.not_true, Bool.not_false, beq_eq_false_iff_ne, bne_eq_false_iff_eq, Bool.not_not, gt_iff_lt, ge_iff_le] at hsp1
        refine Ex.skip_ rfl rfl rfl ?_
        refine Ex.skip_ rfl rfl rfl ?_
        refine x_pickT rfl rfl rfl rfl rfl ?_
        refine x_assign rfl rfl rfl rfl ?_
        refine Ex.done (hK _ _ ?_)
        refine At.then_n ?_
        refine W.condT rfl ?_ -- co2
        refine W.skip ?_
        refine At.blk_n ?_
        refine At.blk_n ?_
        refine At.rnd_n (by first | exact M.at_ 0 rfl | exact M.at_ 1 rfl | exact M.at_ 2 rfl | exact M.at_ 3 rfl | exact M.at_ 4 rfl | exact M.at_ 5 rfl | exact M.at_ 6 rfl | exact M.at_ 7 rfl) ?_ -- rd1
        generalize hwz : World.putObj _ _ _ = wz
        have M := M.put 3 rfl hwz.symm
        exact ⟨true, rfl, fun _ => ⟨A, _, Lo, by rw [hcl, cleanStep_dot (.inl hsp1)], by omega, how, M⟩, fun h => (by cases h)⟩
      · -- sp1 False
        try simp only [decide_eq_true_eq, decide_eq_false_iff_not, Bool.not_eq_true', Bool.not_eq_false', beq_iff_eq, bne_iff_ne, ne_eq, Bool.not_eq_eq_eq_not, Bool.not_true, Bool.not_false, beq_eq_false_iff_ne, bne_eq_false_iff_eq, Bool.not_not, gt_iff_lt, ge_iff_le] at hsp1
        refine x_move rfl rfl rfl rfl ?_
        refine x_eqS _ rfl rfl rfl rfl rfl rfl ?_ -- eq2 path.go:79
        refine x_pickF rfl rfl rfl rfl rfl ?_
        refine x_assign rfl rfl rfl rfl ?_
        refine Ex.done (hK _ _ ?_)
        refine At.then_n ?_
        refine W.cond rfl (fun hco3 => ?_) (fun hco3 => ?_) -- co3
        · try simp only [decide_eq_true_eq, decide_eq_false_iff_not, Bool.not_eq_true', Bool.not_eq_false', beq_iff_eq, bne_iff_ne, ne_eq, Bool.not_eq_eq_eq_not, Bool.not_true, Bool.not_false, beq_eq_false_iff_ne, bne_eq_false_iff_eq, Bool.not_not, gt_iff_lt, ge_iff_le] at hco3
          refine W.skip ?_
          refine At.blk_n ?_
          refine At.blk_n ?_
          refine At.rnd_n (by first | exact M.at_ 0 rfl | exact M.at_ 1 rfl | exact M.at_ 2 rfl | exact M.at_ 3 rfl | exact M.at_ 4 rfl | exact M.at_ 5 rfl | exact M.at_ 6 rfl | exact M.at_ 7 rfl) ?_ -- rd2
          generalize hwz : World.putObj _ _ _ = wz
          have M := M.put 3 rfl hwz.symm
          exact ⟨true, rfl, fun _ => ⟨A, _, Lo, by rw [hcl, cleanStep_dot (.inr hco3)], by omega, how, M⟩, fun h => (by cases h)⟩
        · try simp only [decide_eq_true_eq, decide_eq_false_iff_not, Bool.not_eq_true', Bool.not_eq_false', beq_iff_eq, bne_iff_ne, ne_eq, Bool.not_eq_eq_eq_not, Bool.not_true, Bool.not_false, beq_eq_false_iff_ne, bne_eq_false_iff_eq, Bool.not_not, gt_iff_lt, ge_iff_le] at hco3
          refine W.seq ?_
          refine W.sub [(4, _), (5, _)] ⟨rfl, rfl, trivial⟩ ?_
          refine W.reg [(0, false), (1, false), (2, false)] (by kernel_rfl) ?_ -- region 7
          intro K hK
          refine x_move rfl rfl rfl rfl ?_
          refine x_neS _ rfl rfl rfl rfl rfl rfl ?_ -- eq3 path.go:80
          refine x_assign rfl rfl rfl rfl ?_
          refine Ex.done (hK _ _ ?_)
          refine At.then_n ?_
          refine W.cond rfl (fun hco4 => ?_) (fun hco4 => ?_) -- co4
          · try simp only [decide_eq_true_eq, decide_eq_false_iff_not, Bool.not_eq_true', Bool.not_eq_false', beq_iff_eq, bne_iff_ne, ne_eq, Bool.not_eq_eq_eq_not, Bool.not_true, Bool.not_false, beq_eq_false_iff_ne, bne_eq_false_iff_eq, Bool.not_not, gt_iff_lt, ge_iff_le] at hco4
            refine W.sub [(4, _), (5, _)] ⟨rfl, rfl, trivial⟩ ?_
            refine W.reg [(0, false), (1, false), (2, true), (3, true), (4, true)] (by kernel_rfl) ?_ -- region 8
            intro K hK
            refine x_ld rfl rfl rfl Try.underlying22 rfl rfl (cell_of (by first | exact M.at_ 0 rfl | exact M.at_ 1 rfl | exact M.at_ 2 rfl | exact M.at_ 3 rfl | exact M.at_ 4 rfl | exact M.at_ 5 rfl | exact M.at_ 6 rfl | exact M.at_ 7 rfl) rfl) ?_ -- ld1 path.go:81
            refine x_move rfl rfl rfl rfl ?_
            -- bs1: path.go:81
            refine x_bs1 (cs := [strV n]) rfl rfl rfl Try.underlying22 sz9 ze9 (Z := [_]) rfl rfl (by decide) (by decide) rfl rfl rfl ?_
            intro bbs1 wbs1 hbbs1 hwbs1
            have M0 := M.acons hbbs1 hwbs1
            have hslbs1 : Sl wbs1 (.slice (some ⟨bbs1, 0, none⟩) 1 1) 1 1 [strV n] := .inr ⟨bbs1, 0, 1, _, _, _, rfl, by omega, M0.at_ 0 rfl, rfl, rfl⟩
            have M := M0.tail
            refine ⟨trivial, ?_⟩
            -- ap1: path.go:81
            refine x_apL rfl rfl rfl rfl Try.underlying22 sz9 ze9 rfl by9 rfl rfl how (M.perm (List.perm_append_comm (l₁ := [_, _, _, _]) (l₂ := Lo))) (strCs_one _) (hslbs1.src Try.underlying22 (by intro u hu; simp at hu; subst hu; rfl)) (by first | omega | (simp; omega)) (by decide) (by first | omega | (simp; omega)) ?_
            intro Lo v6 wap1 how M
            have M := M.perm List.perm_append_comm
            obtain ⟨p6, cap6, rfl⟩ := how.shape
            refine ⟨trivial, ?_⟩
            refine x_st [_] _ rfl rfl rfl sz22 rfl rfl rfl rfl (by first | exact M.at_ 0 rfl | exact M.at_ 1 rfl | exact M.at_ 2 rfl | exact M.at_ 3 rfl | exact M.at_ 4 rfl | exact M.at_ 5 rfl | exact M.at_ 6 rfl | exact M.at_ 7 rfl) rfl rfl rfl ?_ -- st1 path.go:81
            intro wst1 hwst1
            have M := by first | exact M.put 0 rfl hwst1 | exact M.put 1 rfl hwst1 | exact M.put 2 rfl hwst1 | exact M.put 3 rfl hwst1 | exact M.put 4 rfl hwst1 | exact M.put 5 rfl hwst1 | exact M.put 6 rfl hwst1 | exact M.put 7 rfl hwst1
            refine ⟨trivial, ?_⟩
            refine Ex.done (hK _ _ ?_)
            refine At.blk_n ?_
            refine At.blk_n ?_
            refine At.rnd_n (by first | exact M.at_ 0 rfl | exact M.at_ 1 rfl | exact M.at_ 2 rfl | exact M.at_ 3 rfl | exact M.at_ 4 rfl | exact M.at_ 5 rfl | exact M.at_ 6 rfl | exact M.at_ 7 rfl) ?_ -- rd3
            generalize hwz : World.putObj _ _ _ = wz
            have M := M.put 3 rfl hwz.symm
            exact ⟨true, rfl, fun _ => ⟨A ++ [n], _, Lo, by rw [hcl, cleanStep_in hsp1 hco3 hco4], by simp; omega, strsO_snoc how, M⟩, fun h => (by cases h)⟩
          · try simp only [decide_eq_true_eq, decide_eq_false_iff_not, Bool.not_eq_true', Bool.not_eq_false', beq_iff_eq, bne_iff_ne, ne_eq, Bool.not_eq_eq_eq_not, Bool.not_true, Bool.not_false, beq_eq_false_iff_ne, bne_eq_false_iff_eq, Bool.not_not, gt_iff_lt, ge_iff_le] at hco4
            have hup : n = [46, 46] := by simpa using hco4
            refine W.seq ?_
            refine W.sub [(4, _)] ⟨rfl, trivial⟩ ?_
            refine W.reg [(0, false), (1, false), (2, false), (3, false)] (by kernel_rfl) ?_ -- region 9
            intro K hK
            refine x_ld rfl rfl rfl Try.underlying22 rfl rfl (cell_of (by first | exact M.at_ 0 rfl | exact M.at_ 1 rfl | exact M.at_ 2 rfl | exact M.at_ 3 rfl | exact M.at_ 4 rfl | exact M.at_ 5 rfl | exact M.at_ 6 rfl | exact M.at_ 7 rfl) rfl) ?_ -- ld2 path.go:82
            refine x_len rfl rfl rfl rfl Try.underlying22 rfl ?_
            refine x_gtr _ rfl rfl rfl rfl rfl rfl ?_ -- cm2 path.go:82
            refine x_assign rfl rfl rfl rfl ?_
            refine Ex.done (hK _ _ ?_)
            refine At.then_n ?_
            refine W.cond rfl (fun hco5 => ?_) (fun hco5 => ?_) -- co5
            · try simp only [decide_eq_true_eq, decide_eq_false_iff_not, Bool.not_eq_true', Bool.not_eq_false', beq_iff_eq, bne_iff_ne, ne_eq, Bool.not_eq_eq_eq_not, Bool.not_true, Bool.not_false, beq_eq_false_iff_ne, bne_eq_false_iff_eq, Bool.not_not, gt_iff_lt, ge_iff_le] at hco5
              refine W.sub [(4, _)] ⟨rfl, trivial⟩ ?_
              refine W.reg [(0, false), (1, false), (2, false), (3, false), (4, false), (5, true)] (by kernel_rfl) ?_ -- region 10
              intro K hK
              refine x_ld rfl rfl rfl Try.underlying22 rfl rfl (cell_of (by first | exact M.at_ 0 rfl | exact M.at_ 1 rfl | exact M.at_ 2 rfl | exact M.at_ 3 rfl | exact M.at_ 4 rfl | exact M.at_ 5 rfl | exact M.at_ 6 rfl | exact M.at_ 7 rfl) rfl) ?_ -- ld3 path.go:83
              refine x_ld rfl rfl rfl Try.underlying22 rfl rfl (cell_of (by first | exact M.at_ 0 rfl | exact M.at_ 1 rfl | exact M.at_ 2 rfl | exact M.at_ 3 rfl | exact M.at_ 4 rfl | exact M.at_ 5 rfl | exact M.at_ 6 rfl | exact M.at_ 7 rfl) rfl) ?_ -- ld4 path.go:83
              refine x_len rfl rfl rfl rfl Try.underlying22 rfl ?_
              refine x_sub ((A.length - 1 : Nat) : Int) rfl rfl rfl rfl rfl (by rw [w64 (by omega) (by omega)]; omega) ?_ -- ar1 path.go:83
              refine x_slh (A.length - 1) rfl rfl rfl Try.underlying22 sz9 rfl rfl rfl (by omega) ?_ -- sl1 path.go:83
              refine x_st [_] _ rfl rfl rfl sz22 rfl rfl rfl rfl (by first | exact M.at_ 0 rfl | exact M.at_ 1 rfl | exact M.at_ 2 rfl | exact M.at_ 3 rfl | exact M.at_ 4 rfl | exact M.at_ 5 rfl | exact M.at_ 6 rfl | exact M.at_ 7 rfl) rfl rfl rfl ?_ -- st2 path.go:83
              intro wst2 hwst2
              have M := by first | exact M.put 0 rfl hwst2 | exact M.put 1 rfl hwst2 | exact M.put 2 rfl hwst2 | exact M.put 3 rfl hwst2 | exact M.put 4 rfl hwst2 | exact M.put 5 rfl hwst2 | exact M.put 6 rfl hwst2 | exact M.put 7 rfl hwst2
              refine ⟨trivial, ?_⟩
              refine Ex.done (hK _ _ ?_)
              refine At.blk_n ?_
              refine At.blk_n ?_
              refine At.rnd_n (by first | exact M.at_ 0 rfl | exact M.at_ 1 rfl | exact M.at_ 2 rfl | exact M.at_ 3 rfl | exact M.at_ 4 rfl | exact M.at_ 5 rfl | exact M.at_ 6 rfl | exact M.at_ 7 rfl) ?_ -- rd4
              generalize hwz : World.putObj _ _ _ = wz
              have M := M.put 3 rfl hwz.symm
              exact ⟨true, rfl, fun _ => ⟨A.take (A.length - 1), _, Lo, by rw [hcl, cleanStep_up hsp1 hco3 hup], by simp; omega, strsO_take how (by omega), M⟩, fun h => (by cases h)⟩
            · try simp only [decide_eq_true_eq, decide_eq_false_iff_not, Bool.not_eq_true', Bool.not_eq_false', beq_iff_eq, bne_iff_ne, ne_eq, Bool.not_eq_eq_eq_not, Bool.not_true, Bool.not_false, beq_eq_false_iff_ne, bne_eq_false_iff_eq, Bool.not_not, gt_iff_lt, ge_iff_le] at hco5
              refine W.skip ?_
              refine At.blk_n ?_
              refine At.blk_n ?_
              refine At.rnd_n (by first | exact M.at_ 0 rfl | exact M.at_ 1 rfl | exact M.at_ 2 rfl | exact M.at_ 3 rfl | exact M.at_ 4 rfl | exact M.at_ 5 rfl | exact M.at_ 6 rfl | exact M.at_ 7 rfl) ?_ -- rd5
              generalize hwz : World.putObj _ _ _ = wz
              have M := M.put 3 rfl hwz.symm
              exact ⟨true, rfl, fun _ => ⟨A, _, Lo, by rw [hcl, cleanStep_up hsp1 hco3 hup, List.take_of_length_le (by omega)], by omega, how, M⟩, fun h => (by cases h)⟩
    · rintro v w3 ⟨rfl, ⟨x, ⟨A, ov, Lo, hcl, hlen, how, M⟩⟩ | HX⟩
      · refine .inl ⟨.ready, by simp, M.at_ 3 rfl, ?_⟩
        generalize hwx : World.putObj _ _ _ = w4
        have M := M.put 3 rfl hwx.symm
        simp only [List.foldl_nil, List.length_nil] at hcl hlen
        obtain ⟨p0, cap0, rfl⟩ := how.shape
        refine At.blk_n ?_
        refine At.then_n ?_
        refine W.seq ?_
        refine W.sub [(4, _)] ⟨rfl, trivial⟩ ?_
        refine W.reg [(0, false), (1, true), (2, false), (3, false), (4, false), (5, false)] (by kernel_rfl) ?_ -- region 11
        intro K hK
        refine x_ld rfl rfl rfl Try.underlying22 rfl rfl (cell_of (by first | exact M.at_ 0 rfl | exact M.at_ 1 rfl | exact M.at_ 2 rfl | exact M.at_ 3 rfl | exact M.at_ 4 rfl | exact M.at_ 5 rfl | exact M.at_ 6 rfl | exact M.at_ 7 rfl) rfl) ?_ -- ld5 path.go:86
        -- call2: valise/path.Join path.go:86
        refine x_call rfl rfl rfl rfl rfl en19 (pjoin_c (strsO_at how M (fun x hx => List.mem_append_right [_, _, _, _] hx))) ?_
        rintro r w5 ⟨rfl, hn5⟩
        have M := M.new hn5
        refine ⟨trivial, ?_⟩
        refine x_ext rfl rfl rfl rfl rfl ?_ -- ex1
        refine x_ext rfl rfl rfl rfl rfl ?_ -- ex2
        refine x_assign rfl rfl rfl rfl ?_
        refine x_assign rfl rfl rfl rfl ?_
        refine Ex.done (hK _ _ ?_)
        refine At.then_n ?_
        refine W.ret ?_
        refine At.mark (M.at_ 2 rfl) ?_
        generalize hwy : World.putObj _ _ _ = w6
        have M := M.put 2 rfl hwy.symm
        refine At.ret2 (.tmp 2) (.tmp 3) rfl ⟨rfl, rfl, trivial⟩ ?_ -- ret2
        rw [cleanP_join (by omega), hcl]; exact ⟨rfl, M.frm⟩
      · exact HX.elim
end Go.Proofs.Ytkieecaaijlokaa
