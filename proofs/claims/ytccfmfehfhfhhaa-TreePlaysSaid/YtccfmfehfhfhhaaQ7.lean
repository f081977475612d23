/-
  Texts that belong together, laid into one file: V34, V35, R16.
-/
import Derived.Test.YtccfmfehfhfhhaaQ6
namespace Go.Proofs.Ytccfmfehfhfhhaa
open Go Go.Fw Go.RowKit Go.Proofs
set_option linter.unusedVariables false
set_option linter.unusedSimpArgs false

set_option maxRecDepth 100000 in
theorem step_c {w00 w0 : World} {bt : Nat} {E : List Ent} {l : List Raw} {L X : List (Nat × Obj)} {u bv : Value} {a : Ac} (M : Sep w00 (tb bt E ++ (L ++ X)) w0) (hR : TR E l) (hu : FilesK w00 L u l) (hb : BytesAt w00 bv a.b) (ha : smallA a = true) : Ret Try.prog 28 #[ptr bt, .agg #[u], .agg #[.int .i64 a.k, strV a.p, strV a.q, bv]] w0 fun r w' => ∃ bt' E' l' u' L', r = .tuple #[ptr bt', .agg #[u'], .bool true] ∧ TR E' l' ∧ FilesK w00 L' u' l' ∧ Sep w00 (tb bt' E' ++ (L' ++ X)) w' := by
  obtain ⟨pu, cu, rfl⟩ := (hu.at_ M (fun y hy => by simp [hy])).shape
  obtain ⟨pb, cb, rfl⟩ := hb.shape
  have hnm : ∀ y ∈ l, y.1.length ≤ 1000 := fun y hy => by have := hR.names y hy; omega
  have hnm2 : ∀ y ∈ l, y.1.length ≤ 2000 := fun y hy => by have := hR.names y hy; omega
  have hsm : a.b.length ≤ 131072 ∧ a.p.length ≤ 300 ∧ a.q.length ≤ 300 := by unfold smallA at ha; simpa using ha
  have hle := hR.le
  refine Ret.of_W Try.func28 rfl Try.ntmps28 rfl ?_
  refine W.seq ?_
  refine W.sub [(0, _), (1, _), (2, _)] ⟨rfl, rfl, rfl, trivial⟩ ?_
  refine W.reg [(0, true), (1, true), (2, false), (3, true), (4, false)] (by kernel_rfl) ?_
  intro K hK
  refine x_box [_] rfl rfl rfl rfl rfl ?_
  intro bbx1 wbx1 hbbx1 hwbx1
  have M := M.acons hbbx1 hwbx1
  refine ⟨trivial, ?_⟩
  refine x_box [_, _, _, _] rfl rfl rfl rfl rfl ?_
  intro bbx2 wbx2 hbbx2 hwbx2
  have M := M.acons hbbx2 hwbx2
  refine ⟨trivial, ?_⟩
  refine x_assign rfl rfl rfl rfl ?_
  refine x_alloc [_] rfl rfl rfl ze32 rfl ?_
  intro bal1 wal1 hbal1 hwal1
  have M := M.acons hbal1 hwal1
  refine ⟨trivial, ?_⟩
  refine x_assign rfl rfl rfl rfl ?_
  refine Ex.done (hK _ _ ?_)
  refine At.then_n ?_
  refine W.seq ?_
  refine W.seq ?_
  refine W.sub [(0, _), (4, _), (5, _), (7, _)] ⟨rfl, rfl, rfl, rfl, trivial⟩ ?_
  refine W.reg [(0, false), (1, false)] (by kernel_rfl) ?_
  intro K hK
  refine x_fa rfl rfl rfl fo43_0 rfl ?_
  refine x_ld rfl rfl rfl Try.underlying3 rfl rfl (cell_of (by first | exact M.at_ 0 rfl | exact M.at_ 1 rfl | exact M.at_ 2 rfl | exact M.at_ 3 rfl | exact M.at_ 4 rfl | exact M.at_ 5 rfl | exact M.at_ 6 rfl | exact M.at_ 7 rfl) rfl) ?_
  refine Ex.done (hK _ _ ?_)
  refine At.then_n ?_
  refine W.block ?_
  refine W.seq ?_
  refine W.sub [(0, _), (4, _), (5, _), (7, _), (32, _)] ⟨rfl, rfl, rfl, rfl, rfl, trivial⟩ ?_
  refine W.reg [(0, false), (1, false)] (by kernel_rfl) ?_
  intro K hK
  refine x_eqi _ rfl rfl rfl rfl rfl rfl ?_
  refine x_assign rfl rfl rfl rfl ?_
  refine Ex.done (hK _ _ ?_)
  refine At.then_n ?_
  refine W.cond rfl (fun hco1 => ?_) (fun hco1 => ?_)
  · try simp only [decide_eq_true_eq, decide_eq_false_iff_not, Bool.not_eq_true', Bool.not_eq_false', beq_iff_eq, bne_iff_ne, ne_eq, Bool.not_eq_eq_eq_not, Bool.not_true, Bool.not_false, beq_eq_false_iff_ne, bne_eq_false_iff_eq, Bool.not_not, gt_iff_lt, ge_iff_le] at hco1
    refine W.seq ?_
    refine W.sub [(0, _), (4, _), (5, _), (7, _)] ⟨rfl, rfl, rfl, rfl, trivial⟩ ?_
    refine W.reg [(0, false), (1, false), (2, false), (3, true), (4, false), (5, false), (6, false), (7, true), (8, true), (9, false)] (by kernel_rfl) ?_
    intro K hK
    refine x_ldA [_] rfl rfl rfl Try.underlying32 rfl sz32 rfl rfl ⟨_, _, _, (by first | exact M.at_ 0 rfl | exact M.at_ 1 rfl | exact M.at_ 2 rfl | exact M.at_ 3 rfl | exact M.at_ 4 rfl | exact M.at_ 5 rfl | exact M.at_ 6 rfl | exact M.at_ 7 rfl), rfl⟩ ?_
    refine x_fa rfl rfl rfl fo43_1 rfl ?_
    refine x_ld rfl rfl rfl Try.underlying9 rfl rfl (cell_of (by first | exact M.at_ 0 rfl | exact M.at_ 1 rfl | exact M.at_ 2 rfl | exact M.at_ 3 rfl | exact M.at_ 4 rfl | exact M.at_ 5 rfl | exact M.at_ 6 rfl | exact M.at_ 7 rfl) rfl) ?_
    refine x_call rfl rfl rfl rfl rfl en51 (rmkdir_c (St.rotX (A := [_, _, _]) (B := tb bt E) (L := L) (X := X) M) hu (by omega) hnm2 (by omega)) ?_
    rintro r_ w1 ⟨u1, L1, rfl, hu1, M⟩
    have M := St.rotY (A := [_, _, _]) (B := tb bt E) (X := X) M
    obtain ⟨pu1, cu1, rfl⟩ := (hu1.at_ M (fun y hy => List.mem_append_right _ (List.mem_append_right _ (List.mem_append_left _ hy)))).shape
    refine ⟨trivial, ?_⟩
    refine x_move rfl rfl rfl rfl ?_
    refine x_ext rfl rfl rfl rfl rfl ?_
    refine x_ext rfl rfl rfl rfl rfl ?_
    refine x_alloc [_] rfl rfl rfl ze32 rfl ?_
    intro bal2 wal2 hbal2 hwal2
    have M := M.acons hbal2 hwal2
    refine ⟨trivial, ?_⟩
    refine x_st [_] _ rfl rfl rfl sz32 rfl rfl rfl rfl (by first | exact M.at_ 0 rfl | exact M.at_ 1 rfl | exact M.at_ 2 rfl | exact M.at_ 3 rfl | exact M.at_ 4 rfl | exact M.at_ 5 rfl | exact M.at_ 6 rfl | exact M.at_ 7 rfl) rfl rfl rfl ?_
    intro wst1 hwst1
    have M := by first | exact M.put 0 rfl hwst1 | exact M.put 1 rfl hwst1 | exact M.put 2 rfl hwst1 | exact M.put 3 rfl hwst1 | exact M.put 4 rfl hwst1 | exact M.put 5 rfl hwst1 | exact M.put 6 rfl hwst1 | exact M.put 7 rfl hwst1
    refine ⟨trivial, ?_⟩
    refine x_assign rfl rfl rfl rfl ?_
    refine Ex.done (hK _ _ ?_)
    refine At.then_n ?_
    refine W.seq ?_
    refine W.sub [(0, _), (5, _), (7, _), (9, _), (10, _)] ⟨rfl, rfl, rfl, rfl, rfl, trivial⟩ ?_
    refine W.regD (by kernel_rfl) #[0, 0, 0, 0, 8, 28, 0, 124, 61, 319, 1023] [(0, false), (1, false), (2, false), (3, false), (4, false), (6, false), (5, true), (7, false), (8, false), (9, true), (10, false)] (by kernel_rfl) ?_
    intro K wD1 hK hwD1
    have M := M.drew hwD1
    refine x_move rfl rfl rfl rfl ?_
    refine x_ldA [_] rfl rfl rfl Try.underlying32 rfl sz32 rfl rfl ⟨_, _, _, (by first | exact M.at_ 0 rfl | exact M.at_ 1 rfl | exact M.at_ 2 rfl | exact M.at_ 3 rfl | exact M.at_ 4 rfl | exact M.at_ 5 rfl | exact M.at_ 6 rfl | exact M.at_ 7 rfl), rfl⟩ ?_
    refine x_move rfl rfl rfl rfl ?_
    refine x_fa rfl rfl rfl fo43_1 rfl ?_
    refine x_ld rfl rfl rfl Try.underlying9 rfl rfl (cell_of (by first | exact M.at_ 0 rfl | exact M.at_ 1 rfl | exact M.at_ 2 rfl | exact M.at_ 3 rfl | exact M.at_ 4 rfl | exact M.at_ 5 rfl | exact M.at_ 6 rfl | exact M.at_ 7 rfl) rfl) ?_
    refine x_move rfl rfl rfl rfl ?_
    refine x_call rfl rfl rfl rfl rfl en19 (mkdir_r (St.inn2 (F := [_, _, _, _]) M) hR) ?_
    rintro r_ w2 ⟨E2, rfl, h2, M⟩
    have M := St.out2 [_, _, _, _] M
    refine ⟨⟨.inl (by kernel_rfl), .inr ⟨_, _, _, (by first | exact M.at_ 0 rfl | exact M.at_ 1 rfl | exact M.at_ 2 rfl | exact M.at_ 3 rfl | exact M.at_ 4 rfl | exact M.at_ 5 rfl | exact M.at_ 6 rfl | exact M.at_ 7 rfl), rfl⟩, trivial⟩, ?_⟩
    refine x_eqi true rfl rfl rfl rfl rfl (by simp) ?_
    refine x_assign rfl rfl rfl rfl ?_
    refine x_st [_] _ rfl rfl rfl sz32 rfl rfl rfl rfl (by first | exact M.at_ 0 rfl | exact M.at_ 1 rfl | exact M.at_ 2 rfl | exact M.at_ 3 rfl | exact M.at_ 4 rfl | exact M.at_ 5 rfl | exact M.at_ 6 rfl | exact M.at_ 7 rfl) rfl rfl rfl ?_
    intro wst2 hwst2
    have M := by first | exact M.put 0 rfl hwst2 | exact M.put 1 rfl hwst2 | exact M.put 2 rfl hwst2 | exact M.put 3 rfl hwst2 | exact M.put 4 rfl hwst2 | exact M.put 5 rfl hwst2 | exact M.put 6 rfl hwst2 | exact M.put 7 rfl hwst2
    refine ⟨⟨.inl (by kernel_rfl), .inl (by kernel_rfl), trivial⟩, ?_⟩
    refine x_assign rfl rfl rfl rfl ?_
    refine Ex.done (hK _ _ ?_)
    refine At.then_n ?_
    refine W.ret ?_
    refine At.blk_r ?_
    refine At.then_r ?_
    refine At.ret3 (.tmp 6) (.cell 7 32) (.tmp 8) rfl ⟨rfl, ⟨_, rfl, run_loadVarA (l := [_]) Try.underlying32 rfl sz32 ⟨_, _, _, (by first | exact M.at_ 0 rfl | exact M.at_ 1 rfl | exact M.at_ 2 rfl | exact M.at_ 3 rfl | exact M.at_ 4 rfl | exact M.at_ 5 rfl | exact M.at_ 6 rfl | exact M.at_ 7 rfl), rfl⟩ (Nat.zero_lt_succ _)⟩, rfl, trivial⟩ ?_
    exact ⟨bt, E2, _, _, L ++ L1, rfl, h2, hu1, St.dropL (L' := [_, _, _, _]) M⟩
  · try simp only [decide_eq_true_eq, decide_eq_false_iff_not, Bool.not_eq_true', Bool.not_eq_false', beq_iff_eq, bne_iff_ne, ne_eq, Bool.not_eq_eq_eq_not, Bool.not_true, Bool.not_false, beq_eq_false_iff_ne, bne_eq_false_iff_eq, Bool.not_not, gt_iff_lt, ge_iff_le] at hco1
    refine W.seq ?_
    refine W.sub [(0, _), (4, _), (5, _), (7, _), (32, _)] ⟨rfl, rfl, rfl, rfl, rfl, trivial⟩ ?_
    refine W.reg [(0, false), (1, false)] (by kernel_rfl) ?_
    intro K hK
    refine x_eqi _ rfl rfl rfl rfl rfl rfl ?_
    refine x_assign rfl rfl rfl rfl ?_
    refine Ex.done (hK _ _ ?_)
    refine At.then_n ?_
    refine W.cond rfl (fun hco2 => ?_) (fun hco2 => ?_)
    · try simp only [decide_eq_true_eq, decide_eq_false_iff_not, Bool.not_eq_true', Bool.not_eq_false', beq_iff_eq, bne_iff_ne, ne_eq, Bool.not_eq_eq_eq_not, Bool.not_true, Bool.not_false, beq_eq_false_iff_ne, bne_eq_false_iff_eq, Bool.not_not, gt_iff_lt, ge_iff_le] at hco2
      refine W.seq ?_
      refine W.sub [(0, _), (4, _), (5, _), (7, _)] ⟨rfl, rfl, rfl, rfl, trivial⟩ ?_
      refine W.reg [(0, false), (1, false), (2, false), (3, false), (4, false), (5, true), (6, false), (7, false), (8, false), (9, true), (10, true), (11, false)] (by kernel_rfl) ?_
      intro K hK
      refine x_ldA [_] rfl rfl rfl Try.underlying32 rfl sz32 rfl rfl ⟨_, _, _, (by first | exact M.at_ 0 rfl | exact M.at_ 1 rfl | exact M.at_ 2 rfl | exact M.at_ 3 rfl | exact M.at_ 4 rfl | exact M.at_ 5 rfl | exact M.at_ 6 rfl | exact M.at_ 7 rfl), rfl⟩ ?_
      refine x_fa rfl rfl rfl fo43_1 rfl ?_
      refine x_ld rfl rfl rfl Try.underlying9 rfl rfl (cell_of (by first | exact M.at_ 0 rfl | exact M.at_ 1 rfl | exact M.at_ 2 rfl | exact M.at_ 3 rfl | exact M.at_ 4 rfl | exact M.at_ 5 rfl | exact M.at_ 6 rfl | exact M.at_ 7 rfl) rfl) ?_
      refine x_fa rfl rfl rfl fo43_3 rfl ?_
      refine x_ld rfl rfl rfl Try.underlying23 rfl rfl (cell_of (by first | exact M.at_ 0 rfl | exact M.at_ 1 rfl | exact M.at_ 2 rfl | exact M.at_ 3 rfl | exact M.at_ 4 rfl | exact M.at_ 5 rfl | exact M.at_ 6 rfl | exact M.at_ 7 rfl) rfl) ?_
      refine x_call rfl rfl rfl rfl rfl en52 (rput_c (St.rotX (A := [_, _, _]) (B := tb bt E) (L := L) (X := X) M) hu (by omega) hnm2 (by omega) (SgK.old hb)) ?_
      rintro r_ w3 ⟨u1, L1, rfl, hu1, M⟩
      have M := St.rotY (A := [_, _, _]) (B := tb bt E) (X := X) M
      obtain ⟨pu1, cu1, rfl⟩ := (hu1.at_ M (fun y hy => List.mem_append_right _ (List.mem_append_right _ (List.mem_append_left _ hy)))).shape
      refine ⟨trivial, ?_⟩
      refine x_move rfl rfl rfl rfl ?_
      refine x_ext rfl rfl rfl rfl rfl ?_
      refine x_ext rfl rfl rfl rfl rfl ?_
      refine x_alloc [_] rfl rfl rfl ze32 rfl ?_
      intro bal3 wal3 hbal3 hwal3
      have M := M.acons hbal3 hwal3
      refine ⟨trivial, ?_⟩
      refine x_st [_] _ rfl rfl rfl sz32 rfl rfl rfl rfl (by first | exact M.at_ 0 rfl | exact M.at_ 1 rfl | exact M.at_ 2 rfl | exact M.at_ 3 rfl | exact M.at_ 4 rfl | exact M.at_ 5 rfl | exact M.at_ 6 rfl | exact M.at_ 7 rfl) rfl rfl rfl ?_
      intro wst3 hwst3
      have M := by first | exact M.put 0 rfl hwst3 | exact M.put 1 rfl hwst3 | exact M.put 2 rfl hwst3 | exact M.put 3 rfl hwst3 | exact M.put 4 rfl hwst3 | exact M.put 5 rfl hwst3 | exact M.put 6 rfl hwst3 | exact M.put 7 rfl hwst3
      refine ⟨trivial, ?_⟩
      refine x_assign rfl rfl rfl rfl ?_
      refine Ex.done (hK _ _ ?_)
      refine At.then_n ?_
      refine W.seq ?_
      refine W.sub [(0, _), (5, _), (7, _), (11, _), (12, _)] ⟨rfl, rfl, rfl, rfl, rfl, trivial⟩ ?_
      refine W.reg [(0, true), (1, false), (2, false), (3, true), (4, false)] (by kernel_rfl) ?_
      intro K hK
      refine x_bs0 rfl rfl rfl Try.underlying23 sz5 ?_
      intro bb1 wb1 hbb1 hwb1
      have M := M.acons hbb1 hwb1
      obtain ⟨P, hP⟩ : ∃ P, P = [(bal3, Obj.cells [.slice pu1 (putL l a.p a.b).1.length cu1].toArray 32 (0, 0)), (bal1, Obj.cells [.slice none 0 0].toArray 32 (0, 0)), (bbx2, Obj.cells [.int .i64 a.k, strV a.p, strV a.q, .slice pb a.b.length cb].toArray 43 (0, 0)), (bbx1, Obj.cells [.slice pu l.length cu].toArray 32 (0, 0))] ++ (tb bt E ++ ((L ++ L1) ++ X)) := ⟨_, rfl⟩
      have M : Sep w00 ([(bb1, Obj.cells [].toArray 5 (0, 0))] ++ P) wb1 := by rw [hP]; exact M
      refine ⟨trivial, ?_⟩
      refine x_fa rfl rfl rfl fo43_3 rfl ?_
      refine x_ld rfl rfl rfl Try.underlying23 rfl rfl (cell_of (M.get (b := bbx2) (o := Obj.cells [.int .i64 a.k, strV a.p, strV a.q, .slice pb a.b.length cb].toArray 43 (0, 0)) (by simp [hP])) rfl) ?_
      refine x_apL (L := [_]) (L0 := P) (cs := []) (nn := 0) rfl rfl rfl rfl Try.underlying23 sz5 ze5 rfl by5 rfl rfl (.inr ⟨bb1, 0, [], _, rfl, rfl, rfl, rfl⟩) M (by simp) ((hb.new M.frm).src Try.underlying23 (byteCs_one _)) (by omega) (by decide) (by omega) ?_
      intro Lf v6 w6 how6 M
      rw [Nat.zero_add, List.nil_append] at how6
      obtain ⟨p6, c6, rfl⟩ := how6.shape
      have M : Sep w00 ([(bal3, Obj.cells [.slice pu1 (putL l a.p a.b).1.length cu1].toArray 32 (0, 0)), (bal1, Obj.cells [.slice none 0 0].toArray 32 (0, 0)), (bbx2, Obj.cells [.int .i64 a.k, strV a.p, strV a.q, .slice pb a.b.length cb].toArray 43 (0, 0)), (bbx1, Obj.cells [.slice pu l.length cu].toArray 32 (0, 0))] ++ (tb bt E ++ (((L ++ L1) ++ X) ++ Lf))) w6 := M.perm (by rw [hP]; exact perm_c fun p => by simp only [List.countP_append, List.countP_cons]; omega)
      refine ⟨trivial, ?_⟩
      refine x_assign rfl rfl rfl rfl ?_
      refine Ex.done (hK _ _ ?_)
      refine At.then_n ?_
      refine W.seq ?_
      refine W.sub [(0, _), (5, _), (7, _), (11, _), (12, _), (13, _)] ⟨rfl, rfl, rfl, rfl, rfl, rfl, trivial⟩ ?_
      refine W.reg [(0, false), (1, false), (2, false), (3, false), (4, true), (5, false)] (by kernel_rfl) ?_
      intro K hK
      refine x_move rfl rfl rfl rfl ?_
      refine x_fa rfl rfl rfl fo43_1 rfl ?_
      refine x_ld rfl rfl rfl Try.underlying9 rfl rfl (cell_of (by first | exact M.at_ 0 rfl | exact M.at_ 1 rfl | exact M.at_ 2 rfl | exact M.at_ 3 rfl | exact M.at_ 4 rfl | exact M.at_ 5 rfl | exact M.at_ 6 rfl | exact M.at_ 7 rfl) rfl) ?_
      refine x_move rfl rfl rfl rfl ?_
      refine x_call rfl rfl rfl rfl rfl en20 (put_r (St.inn2 (F := [_, _, _, _]) M) hR (fun w M' hM hs => (SgK.own (L := (((L ++ L1) ++ X) ++ Lf) ++ [_, _, _, _]) how6 (by decide) (fun y hy => List.mem_append_left _ (List.mem_append_right _ hy))) w M' hM hs)) ?_
      rintro r_ w4 ⟨E2, rfl, h2, M⟩
      have M := St.out2 [_, _, _, _] M
      obtain ⟨Q, hQ⟩ : ∃ Q, Q = [(bal3, Obj.cells [.slice pu1 (putL l a.p a.b).1.length cu1].toArray 32 (0, 0)), (bal1, Obj.cells [.slice none 0 0].toArray 32 (0, 0)), (bbx2, Obj.cells [.int .i64 a.k, strV a.p, strV a.q, .slice pb a.b.length cb].toArray 43 (0, 0)), (bbx1, Obj.cells [.slice pu l.length cu].toArray 32 (0, 0))] ++ (tb bt E2 ++ ((L ++ L1) ++ X)) := ⟨_, rfl⟩
      have M : Sep w00 (Q ++ Lf) w4 := by rw [hQ]; simpa only [List.append_assoc] using M
      have hwr0 : WrN Lf (.slice p6 a.b.length c6) a.b.length := WrN.own how6 (fun _ h => h)
      refine ⟨trivial, ?_⟩
      refine x_assign rfl rfl rfl rfl ?_
      refine Ex.done (hK _ _ ?_)
      refine At.then_n ?_
      refine W.seq ?_
      refine W.seq ?_
      refine W.sub [(0, _), (7, _), (11, _), (12, _), (13, _), (14, _)] ⟨rfl, rfl, rfl, rfl, rfl, rfl, trivial⟩ ?_
      refine W.reg [(0, false)] (by kernel_rfl) ?_
      intro K hK
      refine x_assign rfl rfl rfl rfl ?_
      refine Ex.done (hK _ _ ?_)
      refine At.then_n ?_
      refine W.block ?_
      refine W.loop (σ := Nat × List (Nat × Obj)) (fun q => [(0, _), (7, _), (11, _), (12, _), (13, _), (14, _), (15, .int .i64 ((q.1 : Nat) : Int))]) (fun q w => q.1 ≤ a.b.length ∧ WrN q.2 (.slice p6 a.b.length c6) a.b.length ∧ Sep w00 (Q ++ q.2) w) (fun q => a.b.length - q.1) (0, Lf) ⟨rfl, rfl, rfl, rfl, rfl, rfl, rfl, trivial⟩ ⟨Nat.zero_le _, hwr0, M⟩ ?_
      rintro ⟨k, Ld3⟩ w ⟨hk, hwr3, M⟩
      simp only at hk hwr3 M
      refine W.seq ?_
      refine W.seq ?_
      refine W.sub [(0, _), (7, _), (11, _), (12, _), (13, _), (14, _), (15, _)] ⟨rfl, rfl, rfl, rfl, rfl, rfl, rfl, trivial⟩ ?_
      refine W.reg [(0, false), (1, false), (2, false), (3, false)] (by kernel_rfl) ?_
      intro K hK
      refine x_move rfl rfl rfl rfl ?_
      refine x_move rfl rfl rfl rfl ?_
      refine x_len rfl rfl rfl rfl Try.underlying23 rfl ?_
      refine x_lss _ rfl rfl rfl rfl rfl rfl ?_
      refine Ex.done (hK _ _ ?_)
      refine At.then_n ?_
      refine W.cond rfl (fun hco3 => ?_) (fun hco3 => ?_)
      · try simp only [decide_eq_true_eq, decide_eq_false_iff_not, Bool.not_eq_true', Bool.not_eq_false', beq_iff_eq, bne_iff_ne, ne_eq, Bool.not_eq_eq_eq_not, Bool.not_true, Bool.not_false, beq_eq_false_iff_ne, bne_eq_false_iff_eq, Bool.not_not, gt_iff_lt, ge_iff_le] at hco3
        have hwr4 := hwr3
        rcases hwr4 with ⟨_, h0⟩ | ⟨bk, cap, cs2, T, hv, hm, hn, hu8⟩
        · omega
        cases hv
        obtain ⟨y, hy⟩ := hu8 k (by omega)
        obtain ⟨A, B, rfl⟩ := List.append_of_mem hm
        have hklt : k < cs2.length := (List.getElem?_eq_some_iff.1 hy).1
        refine W.skip ?_
        refine At.then_n ?_
        refine W.seq ?_
        refine W.block ?_
        refine W.sub [(0, _), (7, _), (11, _), (12, _), (13, _), (14, _), (15, _)] ⟨rfl, rfl, rfl, rfl, rfl, rfl, rfl, trivial⟩ ?_
        refine W.reg [(0, false), (1, false), (2, false), (3, false), (4, false), (5, false), (6, false), (7, false), (8, true)] (by kernel_rfl) ?_
        intro K hK
        refine x_move rfl rfl rfl rfl ?_
        refine x_move rfl rfl rfl rfl ?_
        refine x_move rfl rfl rfl rfl ?_
        refine x_move rfl rfl rfl rfl ?_
        refine x_ia k rfl rfl rfl Try.underlying23 sz5 rfl rfl rfl (by omega) ?_
        refine x_ld rfl rfl rfl Try.underlying5 rfl rfl (cell_of (M.get (b := bk) (List.mem_append_right _ (List.mem_append_right _ List.mem_cons_self))) (by simpa using hy)) ?_
        refine x_add (((y + 1 : UInt8).toNat : Nat) : Int) rfl rfl rfl rfl rfl (u8_succ y) ?_
        refine x_ia k rfl rfl rfl Try.underlying23 sz5 rfl rfl rfl (by omega) ?_
        refine x_st [_] (cs2.set k (byteV (y + 1))) rfl rfl rfl sz5 rfl rfl rfl rfl (M.get (b := bk) (List.mem_append_right _ (List.mem_append_right _ List.mem_cons_self))) rfl (by rw [Nat.ble_eq]; simp; omega) (by simp [List.set_eq_take_append_cons_drop, hklt, byteV]) ?_
        intro wst4 hwst4
        have M := M.put3 hwst4
        refine ⟨trivial, ?_⟩
        refine Ex.done (hK _ _ ?_)
        refine At.blk_n ?_
        refine At.then_n ?_
        refine W.sub [(0, _), (7, _), (11, _), (12, _), (13, _), (14, _), (15, _)] ⟨rfl, rfl, rfl, rfl, rfl, rfl, rfl, trivial⟩ ?_
        refine W.reg [(0, false), (1, false), (2, false)] (by kernel_rfl) ?_
        intro K hK
        refine x_move rfl rfl rfl rfl ?_
        refine x_add _ rfl rfl rfl rfl rfl (wadd (by omega) (by omega)) ?_
        refine x_assign rfl rfl rfl rfl ?_
        refine Ex.done (hK _ _ ?_)
        exact At.back ((k + 1, A ++ (bk, Obj.cells (cs2.set k (byteV (y + 1))).toArray T (0, 0)) :: B)) ⟨rfl, rfl, rfl, rfl, rfl, rfl, rfl, trivial⟩ ⟨by omega, WrN.set hwr3 hu8 hn (by omega), M⟩ (by first | omega | (simp only; omega) | (simp; done) | (simp; omega))
      · try simp only [decide_eq_true_eq, decide_eq_false_iff_not, Bool.not_eq_true', Bool.not_eq_false', beq_iff_eq, bne_iff_ne, ne_eq, Bool.not_eq_eq_eq_not, Bool.not_true, Bool.not_false, beq_eq_false_iff_ne, bne_eq_false_iff_eq, Bool.not_not, gt_iff_lt, ge_iff_le] at hco3
        rw [hQ] at M
        have M := M.dropR
        refine W.exit ?_
        refine At.then_x ?_
        refine At.loop_x ?_
        refine At.blk_x ?_
        refine At.then_n ?_
        refine W.seq ?_
        refine W.sub [(0, _), (7, _), (11, _), (12, _), (14, _)] ⟨rfl, rfl, rfl, rfl, rfl, trivial⟩ ?_
        refine W.regD (by kernel_rfl) #[0, 0, 0, 0, 12, 1, 35, 127] [(0, false), (1, false), (2, false), (3, false), (4, false), (5, false), (6, true), (7, false)] (by kernel_rfl) ?_
        intro K wD2 hK hwD2
        have M := M.drew hwD2
        refine x_move rfl rfl rfl rfl ?_
        refine x_ldA [_] rfl rfl rfl Try.underlying32 rfl sz32 rfl rfl ⟨_, _, _, (by first | exact M.at_ 0 rfl | exact M.at_ 1 rfl | exact M.at_ 2 rfl | exact M.at_ 3 rfl | exact M.at_ 4 rfl | exact M.at_ 5 rfl | exact M.at_ 6 rfl | exact M.at_ 7 rfl), rfl⟩ ?_
        refine x_move rfl rfl rfl rfl ?_
        refine x_move rfl rfl rfl rfl ?_
        refine x_eqi true rfl rfl rfl rfl rfl (by simp) ?_
        refine x_assign rfl rfl rfl rfl ?_
        refine x_st [_] _ rfl rfl rfl sz32 rfl rfl rfl rfl (by first | exact M.at_ 0 rfl | exact M.at_ 1 rfl | exact M.at_ 2 rfl | exact M.at_ 3 rfl | exact M.at_ 4 rfl | exact M.at_ 5 rfl | exact M.at_ 6 rfl | exact M.at_ 7 rfl) rfl rfl rfl ?_
        intro wst5 hwst5
        have M := by first | exact M.put 0 rfl hwst5 | exact M.put 1 rfl hwst5 | exact M.put 2 rfl hwst5 | exact M.put 3 rfl hwst5 | exact M.put 4 rfl hwst5 | exact M.put 5 rfl hwst5 | exact M.put 6 rfl hwst5 | exact M.put 7 rfl hwst5
        refine ⟨⟨.inl (by kernel_rfl), trivial⟩, ?_⟩
        refine x_assign rfl rfl rfl rfl ?_
        refine Ex.done (hK _ _ ?_)
        refine At.then_n ?_
        refine W.ret ?_
        refine At.blk_r ?_
        refine At.then_r ?_
        refine At.ret3 (.tmp 6) (.cell 7 32) (.tmp 8) rfl ⟨rfl, ⟨_, rfl, run_loadVarA (l := [_]) Try.underlying32 rfl sz32 ⟨_, _, _, (by first | exact M.at_ 0 rfl | exact M.at_ 1 rfl | exact M.at_ 2 rfl | exact M.at_ 3 rfl | exact M.at_ 4 rfl | exact M.at_ 5 rfl | exact M.at_ 6 rfl | exact M.at_ 7 rfl), rfl⟩ (Nat.zero_lt_succ _)⟩, rfl, trivial⟩ ?_
        exact ⟨bt, E2, _, _, L ++ L1, rfl, h2, hu1, St.dropL (L' := [_, _, _, _]) M⟩
    · try simp only [decide_eq_true_eq, decide_eq_false_iff_not, Bool.not_eq_true', Bool.not_eq_false', beq_iff_eq, bne_iff_ne, ne_eq, Bool.not_eq_eq_eq_not, Bool.not_true, Bool.not_false, beq_eq_false_iff_ne, bne_eq_false_iff_eq, Bool.not_not, gt_iff_lt, ge_iff_le] at hco2
      refine W.seq ?_
      refine W.sub [(0, _), (4, _), (5, _), (7, _), (32, _)] ⟨rfl, rfl, rfl, rfl, rfl, trivial⟩ ?_
      refine W.reg [(0, false), (1, false)] (by kernel_rfl) ?_
      intro K hK
      refine x_eqi _ rfl rfl rfl rfl rfl rfl ?_
      refine x_assign rfl rfl rfl rfl ?_
      refine Ex.done (hK _ _ ?_)
      refine At.then_n ?_
      refine W.cond rfl (fun hco4 => ?_) (fun hco4 => ?_)
      · try simp only [decide_eq_true_eq, decide_eq_false_iff_not, Bool.not_eq_true', Bool.not_eq_false', beq_iff_eq, bne_iff_ne, ne_eq, Bool.not_eq_eq_eq_not, Bool.not_true, Bool.not_false, beq_eq_false_iff_ne, bne_eq_false_iff_eq, Bool.not_not, gt_iff_lt, ge_iff_le] at hco4
        refine W.seq ?_
        refine W.sub [(0, _), (4, _), (5, _), (7, _)] ⟨rfl, rfl, rfl, rfl, trivial⟩ ?_
        refine W.reg [(0, false), (1, false), (2, false), (3, true), (4, false), (5, false), (6, false), (7, true), (8, true), (9, false)] (by kernel_rfl) ?_
        intro K hK
        refine x_ldA [_] rfl rfl rfl Try.underlying32 rfl sz32 rfl rfl ⟨_, _, _, (by first | exact M.at_ 0 rfl | exact M.at_ 1 rfl | exact M.at_ 2 rfl | exact M.at_ 3 rfl | exact M.at_ 4 rfl | exact M.at_ 5 rfl | exact M.at_ 6 rfl | exact M.at_ 7 rfl), rfl⟩ ?_
        refine x_fa rfl rfl rfl fo43_1 rfl ?_
        refine x_ld rfl rfl rfl Try.underlying9 rfl rfl (cell_of (by first | exact M.at_ 0 rfl | exact M.at_ 1 rfl | exact M.at_ 2 rfl | exact M.at_ 3 rfl | exact M.at_ 4 rfl | exact M.at_ 5 rfl | exact M.at_ 6 rfl | exact M.at_ 7 rfl) rfl) ?_
        refine x_call rfl rfl rfl rfl rfl en53 (rremove_c (St.rotX (A := [_, _, _]) (B := tb bt E) (L := L) (X := X) M) hu (by omega)) ?_
        rintro r_ w5 ⟨u1, L1, rfl, hu1, M⟩
        have M := St.rotY (A := [_, _, _]) (B := tb bt E) (X := X) M
        obtain ⟨pu1, cu1, rfl⟩ := (hu1.at_ M (fun y hy => List.mem_append_right _ (List.mem_append_right _ (List.mem_append_left _ hy)))).shape
        refine ⟨trivial, ?_⟩
        refine x_move rfl rfl rfl rfl ?_
        refine x_ext rfl rfl rfl rfl rfl ?_
        refine x_ext rfl rfl rfl rfl rfl ?_
        refine x_alloc [_] rfl rfl rfl ze32 rfl ?_
        intro bal4 wal4 hbal4 hwal4
        have M := M.acons hbal4 hwal4
        refine ⟨trivial, ?_⟩
        refine x_st [_] _ rfl rfl rfl sz32 rfl rfl rfl rfl (by first | exact M.at_ 0 rfl | exact M.at_ 1 rfl | exact M.at_ 2 rfl | exact M.at_ 3 rfl | exact M.at_ 4 rfl | exact M.at_ 5 rfl | exact M.at_ 6 rfl | exact M.at_ 7 rfl) rfl rfl rfl ?_
        intro wst6 hwst6
        have M := by first | exact M.put 0 rfl hwst6 | exact M.put 1 rfl hwst6 | exact M.put 2 rfl hwst6 | exact M.put 3 rfl hwst6 | exact M.put 4 rfl hwst6 | exact M.put 5 rfl hwst6 | exact M.put 6 rfl hwst6 | exact M.put 7 rfl hwst6
        refine ⟨trivial, ?_⟩
        refine x_assign rfl rfl rfl rfl ?_
        refine Ex.done (hK _ _ ?_)
        refine At.then_n ?_
        refine W.seq ?_
        refine W.sub [(0, _), (5, _), (7, _), (16, _), (17, _)] ⟨rfl, rfl, rfl, rfl, rfl, trivial⟩ ?_
        refine W.regD (by kernel_rfl) #[0, 0, 0, 0, 8, 28, 0, 124, 61, 319, 1023] [(0, false), (1, false), (2, false), (3, false), (4, false), (6, false), (5, true), (7, false), (8, false), (9, true), (10, false)] (by kernel_rfl) ?_
        intro K wD3 hK hwD3
        have M := M.drew hwD3
        refine x_move rfl rfl rfl rfl ?_
        refine x_ldA [_] rfl rfl rfl Try.underlying32 rfl sz32 rfl rfl ⟨_, _, _, (by first | exact M.at_ 0 rfl | exact M.at_ 1 rfl | exact M.at_ 2 rfl | exact M.at_ 3 rfl | exact M.at_ 4 rfl | exact M.at_ 5 rfl | exact M.at_ 6 rfl | exact M.at_ 7 rfl), rfl⟩ ?_
        refine x_move rfl rfl rfl rfl ?_
        refine x_fa rfl rfl rfl fo43_1 rfl ?_
        refine x_ld rfl rfl rfl Try.underlying9 rfl rfl (cell_of (by first | exact M.at_ 0 rfl | exact M.at_ 1 rfl | exact M.at_ 2 rfl | exact M.at_ 3 rfl | exact M.at_ 4 rfl | exact M.at_ 5 rfl | exact M.at_ 6 rfl | exact M.at_ 7 rfl) rfl) ?_
        refine x_move rfl rfl rfl rfl ?_
        refine x_call rfl rfl rfl rfl rfl en21 (remove_r (St.inn2 (F := [_, _, _, _]) M) hR) ?_
        rintro r_ w6 ⟨E2, rfl, h2, M⟩
        have M := St.out2 [_, _, _, _] M
        refine ⟨⟨.inl (by kernel_rfl), .inr ⟨_, _, _, (by first | exact M.at_ 0 rfl | exact M.at_ 1 rfl | exact M.at_ 2 rfl | exact M.at_ 3 rfl | exact M.at_ 4 rfl | exact M.at_ 5 rfl | exact M.at_ 6 rfl | exact M.at_ 7 rfl), rfl⟩, trivial⟩, ?_⟩
        refine x_eqi true rfl rfl rfl rfl rfl (by simp) ?_
        refine x_assign rfl rfl rfl rfl ?_
        refine x_st [_] _ rfl rfl rfl sz32 rfl rfl rfl rfl (by first | exact M.at_ 0 rfl | exact M.at_ 1 rfl | exact M.at_ 2 rfl | exact M.at_ 3 rfl | exact M.at_ 4 rfl | exact M.at_ 5 rfl | exact M.at_ 6 rfl | exact M.at_ 7 rfl) rfl rfl rfl ?_
        intro wst7 hwst7
        have M := by first | exact M.put 0 rfl hwst7 | exact M.put 1 rfl hwst7 | exact M.put 2 rfl hwst7 | exact M.put 3 rfl hwst7 | exact M.put 4 rfl hwst7 | exact M.put 5 rfl hwst7 | exact M.put 6 rfl hwst7 | exact M.put 7 rfl hwst7
        refine ⟨⟨.inl (by kernel_rfl), .inl (by kernel_rfl), trivial⟩, ?_⟩
        refine x_assign rfl rfl rfl rfl ?_
        refine Ex.done (hK _ _ ?_)
        refine At.then_n ?_
        refine W.ret ?_
        refine At.blk_r ?_
        refine At.then_r ?_
        refine At.ret3 (.tmp 6) (.cell 7 32) (.tmp 8) rfl ⟨rfl, ⟨_, rfl, run_loadVarA (l := [_]) Try.underlying32 rfl sz32 ⟨_, _, _, (by first | exact M.at_ 0 rfl | exact M.at_ 1 rfl | exact M.at_ 2 rfl | exact M.at_ 3 rfl | exact M.at_ 4 rfl | exact M.at_ 5 rfl | exact M.at_ 6 rfl | exact M.at_ 7 rfl), rfl⟩ (Nat.zero_lt_succ _)⟩, rfl, trivial⟩ ?_
        exact ⟨bt, E2, _, _, L ++ L1, rfl, h2, hu1, St.dropL (L' := [_, _, _, _]) M⟩
      · try simp only [decide_eq_true_eq, decide_eq_false_iff_not, Bool.not_eq_true', Bool.not_eq_false', beq_iff_eq, bne_iff_ne, ne_eq, Bool.not_eq_eq_eq_not, Bool.not_true, Bool.not_false, beq_eq_false_iff_ne, bne_eq_false_iff_eq, Bool.not_not, gt_iff_lt, ge_iff_le] at hco4
        refine W.seq ?_
        refine W.sub [(0, _), (4, _), (5, _), (7, _), (32, _)] ⟨rfl, rfl, rfl, rfl, rfl, trivial⟩ ?_
        refine W.reg [(0, false), (1, false)] (by kernel_rfl) ?_
        intro K hK
        refine x_eqi _ rfl rfl rfl rfl rfl rfl ?_
        refine x_assign rfl rfl rfl rfl ?_
        refine Ex.done (hK _ _ ?_)
        refine At.then_n ?_
        refine W.cond rfl (fun hco5 => ?_) (fun hco5 => ?_)
        · try simp only [decide_eq_true_eq, decide_eq_false_iff_not, Bool.not_eq_true', Bool.not_eq_false', beq_iff_eq, bne_iff_ne, ne_eq, Bool.not_eq_eq_eq_not, Bool.not_true, Bool.not_false, beq_eq_false_iff_ne, bne_eq_false_iff_eq, Bool.not_not, gt_iff_lt, ge_iff_le] at hco5
          refine W.seq ?_
          refine W.sub [(0, _), (4, _), (5, _), (7, _)] ⟨rfl, rfl, rfl, rfl, trivial⟩ ?_
          refine W.reg [(0, false), (1, false), (2, false), (3, false), (4, false), (5, true), (6, false), (7, false), (8, false), (9, true), (10, true), (11, false)] (by kernel_rfl) ?_
          intro K hK
          refine x_ldA [_] rfl rfl rfl Try.underlying32 rfl sz32 rfl rfl ⟨_, _, _, (by first | exact M.at_ 0 rfl | exact M.at_ 1 rfl | exact M.at_ 2 rfl | exact M.at_ 3 rfl | exact M.at_ 4 rfl | exact M.at_ 5 rfl | exact M.at_ 6 rfl | exact M.at_ 7 rfl), rfl⟩ ?_
          refine x_fa rfl rfl rfl fo43_1 rfl ?_
          refine x_ld rfl rfl rfl Try.underlying9 rfl rfl (cell_of (by first | exact M.at_ 0 rfl | exact M.at_ 1 rfl | exact M.at_ 2 rfl | exact M.at_ 3 rfl | exact M.at_ 4 rfl | exact M.at_ 5 rfl | exact M.at_ 6 rfl | exact M.at_ 7 rfl) rfl) ?_
          refine x_fa rfl rfl rfl fo43_2 rfl ?_
          refine x_ld rfl rfl rfl Try.underlying9 rfl rfl (cell_of (by first | exact M.at_ 0 rfl | exact M.at_ 1 rfl | exact M.at_ 2 rfl | exact M.at_ 3 rfl | exact M.at_ 4 rfl | exact M.at_ 5 rfl | exact M.at_ 6 rfl | exact M.at_ 7 rfl) rfl) ?_
          refine x_call rfl rfl rfl rfl rfl en54 (rrename_c (St.rotX (A := [_, _, _]) (B := tb bt E) (L := L) (X := X) M) hu (by omega) hnm (by omega)) ?_
          rintro r_ w7 ⟨u1, L1, rfl, hu1, M⟩
          have M := St.rotY (A := [_, _, _]) (B := tb bt E) (X := X) M
          obtain ⟨pu1, cu1, rfl⟩ := (hu1.at_ M (fun y hy => List.mem_append_right _ (List.mem_append_right _ (List.mem_append_left _ hy)))).shape
          refine ⟨trivial, ?_⟩
          refine x_move rfl rfl rfl rfl ?_
          refine x_ext rfl rfl rfl rfl rfl ?_
          refine x_ext rfl rfl rfl rfl rfl ?_
          refine x_alloc [_] rfl rfl rfl ze32 rfl ?_
          intro bal5 wal5 hbal5 hwal5
          have M := M.acons hbal5 hwal5
          refine ⟨trivial, ?_⟩
          refine x_st [_] _ rfl rfl rfl sz32 rfl rfl rfl rfl (by first | exact M.at_ 0 rfl | exact M.at_ 1 rfl | exact M.at_ 2 rfl | exact M.at_ 3 rfl | exact M.at_ 4 rfl | exact M.at_ 5 rfl | exact M.at_ 6 rfl | exact M.at_ 7 rfl) rfl rfl rfl ?_
          intro wst8 hwst8
          have M := by first | exact M.put 0 rfl hwst8 | exact M.put 1 rfl hwst8 | exact M.put 2 rfl hwst8 | exact M.put 3 rfl hwst8 | exact M.put 4 rfl hwst8 | exact M.put 5 rfl hwst8 | exact M.put 6 rfl hwst8 | exact M.put 7 rfl hwst8
          refine ⟨trivial, ?_⟩
          refine x_assign rfl rfl rfl rfl ?_
          refine Ex.done (hK _ _ ?_)
          refine At.then_n ?_
          refine W.seq ?_
          refine W.sub [(0, _), (5, _), (7, _), (18, _), (19, _)] ⟨rfl, rfl, rfl, rfl, rfl, trivial⟩ ?_
          refine W.regD (by kernel_rfl) #[0, 0, 0, 0, 8, 0, 32, 124, 0, 508, 253, 1279, 4095] [(0, false), (1, false), (2, false), (3, false), (4, false), (5, false), (6, false), (8, false), (7, true), (9, false), (10, false), (11, true), (12, false)] (by kernel_rfl) ?_
          intro K wD4 hK hwD4
          have M := M.drew hwD4
          refine x_move rfl rfl rfl rfl ?_
          refine x_ldA [_] rfl rfl rfl Try.underlying32 rfl sz32 rfl rfl ⟨_, _, _, (by first | exact M.at_ 0 rfl | exact M.at_ 1 rfl | exact M.at_ 2 rfl | exact M.at_ 3 rfl | exact M.at_ 4 rfl | exact M.at_ 5 rfl | exact M.at_ 6 rfl | exact M.at_ 7 rfl), rfl⟩ ?_
          refine x_move rfl rfl rfl rfl ?_
          refine x_fa rfl rfl rfl fo43_1 rfl ?_
          refine x_ld rfl rfl rfl Try.underlying9 rfl rfl (cell_of (by first | exact M.at_ 0 rfl | exact M.at_ 1 rfl | exact M.at_ 2 rfl | exact M.at_ 3 rfl | exact M.at_ 4 rfl | exact M.at_ 5 rfl | exact M.at_ 6 rfl | exact M.at_ 7 rfl) rfl) ?_
          refine x_fa rfl rfl rfl fo43_2 rfl ?_
          refine x_ld rfl rfl rfl Try.underlying9 rfl rfl (cell_of (by first | exact M.at_ 0 rfl | exact M.at_ 1 rfl | exact M.at_ 2 rfl | exact M.at_ 3 rfl | exact M.at_ 4 rfl | exact M.at_ 5 rfl | exact M.at_ 6 rfl | exact M.at_ 7 rfl) rfl) ?_
          refine x_move rfl rfl rfl rfl ?_
          refine x_call rfl rfl rfl rfl rfl en22 (rename_r (St.inn2 (F := [_, _, _, _]) M) hR) ?_
          rintro r_ w8 ⟨E2, rfl, h2, M⟩
          have M := St.out2 [_, _, _, _] M
          refine ⟨⟨.inl (by kernel_rfl), .inl (by kernel_rfl), .inr ⟨_, _, _, (by first | exact M.at_ 0 rfl | exact M.at_ 1 rfl | exact M.at_ 2 rfl | exact M.at_ 3 rfl | exact M.at_ 4 rfl | exact M.at_ 5 rfl | exact M.at_ 6 rfl | exact M.at_ 7 rfl), rfl⟩, trivial⟩, ?_⟩
          refine x_eqi true rfl rfl rfl rfl rfl (by simp) ?_
          refine x_assign rfl rfl rfl rfl ?_
          refine x_st [_] _ rfl rfl rfl sz32 rfl rfl rfl rfl (by first | exact M.at_ 0 rfl | exact M.at_ 1 rfl | exact M.at_ 2 rfl | exact M.at_ 3 rfl | exact M.at_ 4 rfl | exact M.at_ 5 rfl | exact M.at_ 6 rfl | exact M.at_ 7 rfl) rfl rfl rfl ?_
          intro wst9 hwst9
          have M := by first | exact M.put 0 rfl hwst9 | exact M.put 1 rfl hwst9 | exact M.put 2 rfl hwst9 | exact M.put 3 rfl hwst9 | exact M.put 4 rfl hwst9 | exact M.put 5 rfl hwst9 | exact M.put 6 rfl hwst9 | exact M.put 7 rfl hwst9
          refine ⟨⟨.inl (by kernel_rfl), .inl (by kernel_rfl), .inl (by kernel_rfl), trivial⟩, ?_⟩
          refine x_assign rfl rfl rfl rfl ?_
          refine Ex.done (hK _ _ ?_)
          refine At.then_n ?_
          refine W.ret ?_
          refine At.blk_r ?_
          refine At.then_r ?_
          refine At.ret3 (.tmp 6) (.cell 7 32) (.tmp 8) rfl ⟨rfl, ⟨_, rfl, run_loadVarA (l := [_]) Try.underlying32 rfl sz32 ⟨_, _, _, (by first | exact M.at_ 0 rfl | exact M.at_ 1 rfl | exact M.at_ 2 rfl | exact M.at_ 3 rfl | exact M.at_ 4 rfl | exact M.at_ 5 rfl | exact M.at_ 6 rfl | exact M.at_ 7 rfl), rfl⟩ (Nat.zero_lt_succ _)⟩, rfl, trivial⟩ ?_
          exact ⟨bt, E2, _, _, L ++ L1, rfl, h2, hu1, St.dropL (L' := [_, _, _, _]) M⟩
        · try simp only [decide_eq_true_eq, decide_eq_false_iff_not, Bool.not_eq_true', Bool.not_eq_false', beq_iff_eq, bne_iff_ne, ne_eq, Bool.not_eq_eq_eq_not, Bool.not_true, Bool.not_false, beq_eq_false_iff_ne, bne_eq_false_iff_eq, Bool.not_not, gt_iff_lt, ge_iff_le] at hco5
          refine W.seq ?_
          refine W.sub [(0, _), (4, _), (5, _), (7, _), (32, _)] ⟨rfl, rfl, rfl, rfl, rfl, trivial⟩ ?_
          refine W.reg [(0, false), (1, false)] (by kernel_rfl) ?_
          intro K hK
          refine x_eqi _ rfl rfl rfl rfl rfl rfl ?_
          refine x_assign rfl rfl rfl rfl ?_
          refine Ex.done (hK _ _ ?_)
          refine At.then_n ?_
          refine W.cond rfl (fun hco6 => ?_) (fun hco6 => ?_)
          · try simp only [decide_eq_true_eq, decide_eq_false_iff_not, Bool.not_eq_true', Bool.not_eq_false', beq_iff_eq, bne_iff_ne, ne_eq, Bool.not_eq_eq_eq_not, Bool.not_true, Bool.not_false, beq_eq_false_iff_ne, bne_eq_false_iff_eq, Bool.not_not, gt_iff_lt, ge_iff_le] at hco6
            refine W.seq ?_
            refine W.sub [(0, _), (4, _), (5, _), (7, _)] ⟨rfl, rfl, rfl, rfl, trivial⟩ ?_
            refine W.reg [(0, false), (1, false), (2, false), (3, true), (4, false), (5, false), (6, false), (7, false), (8, false)] (by kernel_rfl) ?_
            intro K hK
            refine x_move rfl rfl rfl rfl ?_
            refine x_fa rfl rfl rfl fo43_1 rfl ?_
            refine x_ld rfl rfl rfl Try.underlying9 rfl rfl (cell_of (by first | exact M.at_ 0 rfl | exact M.at_ 1 rfl | exact M.at_ 2 rfl | exact M.at_ 3 rfl | exact M.at_ 4 rfl | exact M.at_ 5 rfl | exact M.at_ 6 rfl | exact M.at_ 7 rfl) rfl) ?_
            refine x_call rfl rfl rfl rfl rfl en27 (list_r (St.inn2 (F := [_, _, _]) M) hR) ?_
            rintro r_ w9 ⟨lv, L9, rfl, hs9, M⟩
            obtain ⟨p9, c9, rfl⟩ := hs9.shape
            have M : Sep w00 ([(bal1, Obj.cells [.slice none 0 0].toArray 32 (0, 0)), (bbx2, Obj.cells [.int .i64 a.k, strV a.p, strV a.q, .slice pb a.b.length cb].toArray 43 (0, 0)), (bbx1, Obj.cells [.slice pu l.length cu].toArray 32 (0, 0))] ++ (tb bt E ++ ((L ++ X) ++ L9))) w9 := M.perm (perm_c fun p => by simp only [List.countP_append, List.countP_cons, List.countP_nil]; omega)
            refine ⟨trivial, ?_⟩
            refine x_move rfl rfl rfl rfl ?_
            refine x_ext rfl rfl rfl rfl rfl ?_
            refine x_ext rfl rfl rfl rfl rfl ?_
            refine x_assign rfl rfl rfl rfl ?_
            refine x_assign rfl rfl rfl rfl ?_
            refine Ex.done (hK _ _ ?_)
            refine At.then_n ?_
            refine W.seq ?_
            refine W.sub [(0, _), (4, _), (5, _), (7, _), (20, _), (21, _)] ⟨rfl, rfl, rfl, rfl, rfl, rfl, trivial⟩ ?_
            refine W.reg [(0, false), (1, false), (2, false), (3, true), (4, false), (5, false), (6, false), (7, false), (8, false)] (by kernel_rfl) ?_
            intro K hK
            refine x_ldA [_] rfl rfl rfl Try.underlying32 rfl sz32 rfl rfl ⟨_, _, _, (by first | exact M.at_ 0 rfl | exact M.at_ 1 rfl | exact M.at_ 2 rfl | exact M.at_ 3 rfl | exact M.at_ 4 rfl | exact M.at_ 5 rfl | exact M.at_ 6 rfl | exact M.at_ 7 rfl), rfl⟩ ?_
            refine x_fa rfl rfl rfl fo43_1 rfl ?_
            refine x_ld rfl rfl rfl Try.underlying9 rfl rfl (cell_of (by first | exact M.at_ 0 rfl | exact M.at_ 1 rfl | exact M.at_ 2 rfl | exact M.at_ 3 rfl | exact M.at_ 4 rfl | exact M.at_ 5 rfl | exact M.at_ 6 rfl | exact M.at_ 7 rfl) rfl) ?_
            refine x_call rfl rfl rfl rfl rfl en55 (rlist_c16 (hu.at_ M (fun y hy => by simp [hy])) (by omega)) ?_
            rintro r_ w10 ⟨lu, L10, rfl, hs10, M10⟩
            have M := M.grow M10
            obtain ⟨p10, c10, rfl⟩ := hs10.shape
            have M : Sep w00 ([(bal1, Obj.cells [.slice none 0 0].toArray 32 (0, 0)), (bbx2, Obj.cells [.int .i64 a.k, strV a.p, strV a.q, .slice pb a.b.length cb].toArray 43 (0, 0)), (bbx1, Obj.cells [.slice pu l.length cu].toArray 32 (0, 0))] ++ (tb bt E ++ ((L ++ X) ++ (L9 ++ L10)))) w10 := M.perm (perm_c fun p => by simp only [List.countP_append, List.countP_cons, List.countP_nil]; omega)
            refine ⟨trivial, ?_⟩
            refine x_move rfl rfl rfl rfl ?_
            refine x_ext rfl rfl rfl rfl rfl ?_
            refine x_ext rfl rfl rfl rfl rfl ?_
            refine x_assign rfl rfl rfl rfl ?_
            refine x_assign rfl rfl rfl rfl ?_
            refine Ex.done (hK _ _ ?_)
            refine At.then_n ?_
            refine W.seq ?_
            refine W.sub [(0, _), (4, _), (7, _), (20, _), (21, _), (22, _), (23, _)] ⟨rfl, rfl, rfl, rfl, rfl, rfl, rfl, trivial⟩ ?_
            refine W.regD (by kernel_rfl) #[0, 0, 0, 0, 12, 28, 60, 60, 252, 508, 61, 1087, 4095] [(0, false), (1, false), (2, false), (3, false), (4, true), (5, false), (6, false), (7, false), (8, false), (9, false), (10, false), (11, true), (12, false)] (by kernel_rfl) ?_
            intro K wD5 hK hwD5
            have M := M.drew hwD5
            refine x_move rfl rfl rfl rfl ?_
            refine x_ldA [_] rfl rfl rfl Try.underlying32 rfl sz32 rfl rfl ⟨_, _, _, (by first | exact M.at_ 0 rfl | exact M.at_ 1 rfl | exact M.at_ 2 rfl | exact M.at_ 3 rfl | exact M.at_ 4 rfl | exact M.at_ 5 rfl | exact M.at_ 6 rfl | exact M.at_ 7 rfl), rfl⟩ ?_
            refine x_move rfl rfl rfl rfl ?_
            refine x_move rfl rfl rfl rfl ?_
            refine x_call rfl rfl rfl rfl rfl en56 (same_c (strsO_get hs9 (fun x hx => M.get (by simp [hx]))) (strsO_get hs10 (fun x hx => M.get (by simp [hx]))) (by have := listL_len l a.p; omega)) ?_
            rintro r_ w11 ⟨rfl, hn11⟩
            have M := M.new hn11
            rw [decide_eq_true rfl]
            refine ⟨⟨.inr ⟨_, _, _, (by first | exact M.at_ 0 rfl | exact M.at_ 1 rfl | exact M.at_ 2 rfl | exact M.at_ 3 rfl | exact M.at_ 4 rfl | exact M.at_ 5 rfl | exact M.at_ 6 rfl | exact M.at_ 7 rfl), rfl⟩, trivial⟩, ?_⟩
            refine x_move rfl rfl rfl rfl ?_
            refine x_move rfl rfl rfl rfl ?_
            refine x_move rfl rfl rfl rfl ?_
            refine x_eqi true rfl rfl rfl rfl rfl (by simp) ?_
            refine x_pickT rfl rfl rfl rfl rfl ?_
            refine x_assign rfl rfl rfl rfl ?_
            refine x_st [_] _ rfl rfl rfl sz32 rfl rfl rfl rfl (by first | exact M.at_ 0 rfl | exact M.at_ 1 rfl | exact M.at_ 2 rfl | exact M.at_ 3 rfl | exact M.at_ 4 rfl | exact M.at_ 5 rfl | exact M.at_ 6 rfl | exact M.at_ 7 rfl) rfl rfl rfl ?_
            intro wst10 hwst10
            have M := by first | exact M.put 0 rfl hwst10 | exact M.put 1 rfl hwst10 | exact M.put 2 rfl hwst10 | exact M.put 3 rfl hwst10 | exact M.put 4 rfl hwst10 | exact M.put 5 rfl hwst10 | exact M.put 6 rfl hwst10 | exact M.put 7 rfl hwst10
            refine ⟨⟨.inl (by kernel_rfl), trivial⟩, ?_⟩
            refine x_assign rfl rfl rfl rfl ?_
            refine Ex.done (hK _ _ ?_)
            refine At.then_n ?_
            refine W.ret ?_
            refine At.blk_r ?_
            refine At.then_r ?_
            refine At.ret3 (.tmp 6) (.cell 7 32) (.tmp 8) rfl ⟨rfl, ⟨_, rfl, run_loadVarA (l := [_]) Try.underlying32 rfl sz32 ⟨_, _, _, (by first | exact M.at_ 0 rfl | exact M.at_ 1 rfl | exact M.at_ 2 rfl | exact M.at_ 3 rfl | exact M.at_ 4 rfl | exact M.at_ 5 rfl | exact M.at_ 6 rfl | exact M.at_ 7 rfl), rfl⟩ (Nat.zero_lt_succ _)⟩, rfl, trivial⟩ ?_
            have M2 : Sep w00 ([_, _, _] ++ (tb bt E ++ ((L ++ X) ++ (L9 ++ L10)))) _ := M
            exact ⟨bt, E, l, _, L, rfl, hR, hu, St.cutR2 (St.dropL (L' := [_, _, _]) M2)⟩
          · try simp only [decide_eq_true_eq, decide_eq_false_iff_not, Bool.not_eq_true', Bool.not_eq_false', beq_iff_eq, bne_iff_ne, ne_eq, Bool.not_eq_eq_eq_not, Bool.not_true, Bool.not_false, beq_eq_false_iff_ne, bne_eq_false_iff_eq, Bool.not_not, gt_iff_lt, ge_iff_le] at hco6
            refine W.seq ?_
            refine W.sub [(0, _), (4, _), (5, _), (7, _), (32, _)] ⟨rfl, rfl, rfl, rfl, rfl, trivial⟩ ?_
            refine W.reg [(0, false), (1, false)] (by kernel_rfl) ?_
            intro K hK
            refine x_eqi _ rfl rfl rfl rfl rfl rfl ?_
            refine x_assign rfl rfl rfl rfl ?_
            refine Ex.done (hK _ _ ?_)
            refine At.then_n ?_
            refine W.cond rfl (fun hco7 => ?_) (fun hco7 => ?_)
            · try simp only [decide_eq_true_eq, decide_eq_false_iff_not, Bool.not_eq_true', Bool.not_eq_false', beq_iff_eq, bne_iff_ne, ne_eq, Bool.not_eq_eq_eq_not, Bool.not_true, Bool.not_false, beq_eq_false_iff_ne, bne_eq_false_iff_eq, Bool.not_not, gt_iff_lt, ge_iff_le] at hco7
              refine W.seq ?_
              refine W.sub [(0, _), (4, _), (5, _), (7, _)] ⟨rfl, rfl, rfl, rfl, trivial⟩ ?_
              refine W.reg [(0, false), (1, true), (2, false)] (by kernel_rfl) ?_
              intro K hK
              refine x_move rfl rfl rfl rfl ?_
              refine x_call rfl rfl rfl rfl rfl en29 (copy_r (St.inn2 (F := [_, _, _]) M) hR) ?_
              rintro r_ w12 ⟨bt2, E2, rfl, hR2, M⟩
              have M : Sep w00 ([(bal1, Obj.cells [.slice none 0 0].toArray 32 (0, 0)), (bbx2, Obj.cells [.int .i64 a.k, strV a.p, strV a.q, .slice pb a.b.length cb].toArray 43 (0, 0)), (bbx1, Obj.cells [.slice pu l.length cu].toArray 32 (0, 0))] ++ (tb bt E ++ ((L ++ X) ++ tb bt2 E2))) w12 := M.perm (perm_c fun p => by simp only [List.countP_append, List.countP_cons, List.countP_nil]; omega)
              refine ⟨trivial, ?_⟩
              refine x_assign rfl rfl rfl rfl ?_
              refine Ex.done (hK _ _ ?_)
              refine At.then_n ?_
              refine W.seq ?_
              refine W.sub [(0, _), (4, _), (5, _), (7, _), (24, _)] ⟨rfl, rfl, rfl, rfl, rfl, trivial⟩ ?_
              refine W.reg [(0, false), (1, true), (2, true)] (by kernel_rfl) ?_
              intro K hK
              refine x_move rfl rfl rfl rfl ?_
              refine x_bs1 (cs := [_]) rfl rfl rfl Try.underlying23 sz5 ze5 (Z := [_]) rfl rfl (by decide) (by decide) rfl rfl rfl ?_
              intro bbs2 wbs2 hbbs2 hwbs2
              have M := M.acons hbbs2 hwbs2
              refine ⟨trivial, ?_⟩
              refine x_call rfl rfl rfl rfl rfl en20 (put_r (p := [122, 122]) (b := [1]) (St.inn2 (F := [_, _, _, _]) M) hR (SgK.lit (cs := byteCs [1]) (List.mem_append_right _ List.mem_cons_self) rfl)) ?_
              rintro r_ w13 ⟨E3, rfl, hR3, M⟩
              have M := St.out2 [_, _, _, _] M
              refine ⟨trivial, ?_⟩
              refine Ex.done (hK _ _ ?_)
              refine At.then_n ?_
              refine W.seq ?_
              refine W.sub [(0, _), (4, _), (5, _), (7, _), (24, _)] ⟨rfl, rfl, rfl, rfl, rfl, trivial⟩ ?_
              refine W.reg [(0, false), (1, false), (2, false), (3, true)] (by kernel_rfl) ?_
              intro K hK
              refine x_move rfl rfl rfl rfl ?_
              refine x_fa rfl rfl rfl fo43_1 rfl ?_
              refine x_ld rfl rfl rfl Try.underlying9 rfl rfl (cell_of (by first | exact M.at_ 0 rfl | exact M.at_ 1 rfl | exact M.at_ 2 rfl | exact M.at_ 3 rfl | exact M.at_ 4 rfl | exact M.at_ 5 rfl | exact M.at_ 6 rfl | exact M.at_ 7 rfl) rfl) ?_
              refine x_call rfl rfl rfl rfl rfl en21 (remove_r (St.inn2 (F := [_, _, _, _]) M) hR3) ?_
              rintro r_ w14 ⟨E4, rfl, hR4, M⟩
              have M := St.out2 [_, _, _, _] M
              refine ⟨trivial, ?_⟩
              refine Ex.done (hK _ _ ?_)
              refine At.then_n ?_
              refine W.seq ?_
              refine W.sub [(4, _), (7, _), (24, _)] ⟨rfl, rfl, rfl, trivial⟩ ?_
              refine W.regD (by kernel_rfl) #[0, 0, 0, 4, 1, 19, 63] [(0, false), (1, false), (2, false), (3, false), (4, false), (5, true), (6, false)] (by kernel_rfl) ?_
              intro K wD6 hK hwD6
              have M := M.drew hwD6
              refine x_move rfl rfl rfl rfl ?_
              refine x_ldA [_] rfl rfl rfl Try.underlying32 rfl sz32 rfl rfl ⟨_, _, _, (by first | exact M.at_ 0 rfl | exact M.at_ 1 rfl | exact M.at_ 2 rfl | exact M.at_ 3 rfl | exact M.at_ 4 rfl | exact M.at_ 5 rfl | exact M.at_ 6 rfl | exact M.at_ 7 rfl), rfl⟩ ?_
              refine x_move rfl rfl rfl rfl ?_
              refine x_nepn true rfl rfl rfl Try.underlying27 rfl rfl rfl ?_
              refine x_assign rfl rfl rfl rfl ?_
              refine x_st [_] _ rfl rfl rfl sz32 rfl rfl rfl rfl (by first | exact M.at_ 0 rfl | exact M.at_ 1 rfl | exact M.at_ 2 rfl | exact M.at_ 3 rfl | exact M.at_ 4 rfl | exact M.at_ 5 rfl | exact M.at_ 6 rfl | exact M.at_ 7 rfl) rfl rfl rfl ?_
              intro wst11 hwst11
              have M := by first | exact M.put 0 rfl hwst11 | exact M.put 1 rfl hwst11 | exact M.put 2 rfl hwst11 | exact M.put 3 rfl hwst11 | exact M.put 4 rfl hwst11 | exact M.put 5 rfl hwst11 | exact M.put 6 rfl hwst11 | exact M.put 7 rfl hwst11
              refine ⟨⟨.inl (by kernel_rfl), trivial⟩, ?_⟩
              refine x_assign rfl rfl rfl rfl ?_
              refine Ex.done (hK _ _ ?_)
              refine At.then_n ?_
              refine W.ret ?_
              refine At.blk_r ?_
              refine At.then_r ?_
              refine At.ret3 (.tmp 6) (.cell 7 32) (.tmp 8) rfl ⟨rfl, ⟨_, rfl, run_loadVarA (l := [_]) Try.underlying32 rfl sz32 ⟨_, _, _, (by first | exact M.at_ 0 rfl | exact M.at_ 1 rfl | exact M.at_ 2 rfl | exact M.at_ 3 rfl | exact M.at_ 4 rfl | exact M.at_ 5 rfl | exact M.at_ 6 rfl | exact M.at_ 7 rfl), rfl⟩ (Nat.zero_lt_succ _)⟩, rfl, trivial⟩ ?_
              have M2 : Sep w00 ([_, _, _, _] ++ (tb bt E4 ++ ((L ++ X) ++ tb bt2 E2))) _ := M
              exact ⟨bt2, E2, l, _, L, rfl, hR2, hu, (St.dropL (St.dropL (L' := [_, _, _, _]) M2)).perm List.perm_append_comm⟩
            · try simp only [decide_eq_true_eq, decide_eq_false_iff_not, Bool.not_eq_true', Bool.not_eq_false', beq_iff_eq, bne_iff_ne, ne_eq, Bool.not_eq_eq_eq_not, Bool.not_true, Bool.not_false, beq_eq_false_iff_ne, bne_eq_false_iff_eq, Bool.not_not, gt_iff_lt, ge_iff_le] at hco7
              refine W.skip ?_
              refine At.blk_n ?_
              refine At.then_n ?_
              refine W.seq ?_
              refine W.sub [(0, _), (4, _), (5, _), (7, _)] ⟨rfl, rfl, rfl, rfl, trivial⟩ ?_
              refine W.reg [(0, false), (1, false), (2, false), (3, true), (4, false), (5, false), (6, false), (7, true), (8, true), (9, false)] (by kernel_rfl) ?_
              intro K hK
              refine x_move rfl rfl rfl rfl ?_
              refine x_fa rfl rfl rfl fo43_1 rfl ?_
              refine x_ld rfl rfl rfl Try.underlying9 rfl rfl (cell_of (by first | exact M.at_ 0 rfl | exact M.at_ 1 rfl | exact M.at_ 2 rfl | exact M.at_ 3 rfl | exact M.at_ 4 rfl | exact M.at_ 5 rfl | exact M.at_ 6 rfl | exact M.at_ 7 rfl) rfl) ?_
              refine x_call rfl rfl rfl rfl rfl en23 (find_r (St.inn2 (F := [_, _, _]) M) hR) ?_
              rintro r_ w15 ⟨dv, L15, rfl, hb15, M⟩
              obtain ⟨pdv, cdv, rfl⟩ := hb15.shape
              have M : Sep w00 ([(bal1, Obj.cells [.slice none 0 0].toArray 32 (0, 0)), (bbx2, Obj.cells [.int .i64 a.k, strV a.p, strV a.q, .slice pb a.b.length cb].toArray 43 (0, 0)), (bbx1, Obj.cells [.slice pu l.length cu].toArray 32 (0, 0))] ++ (tb bt E ++ ((L ++ X) ++ L15))) w15 := M.perm (perm_c fun p => by simp only [List.countP_append, List.countP_cons, List.countP_nil]; omega)
              refine ⟨trivial, ?_⟩
              refine x_move rfl rfl rfl rfl ?_
              refine x_ext rfl rfl rfl rfl rfl ?_
              refine x_ext rfl rfl rfl rfl rfl ?_
              refine x_alloc [_, _, _] rfl rfl rfl ze25 rfl ?_
              intro bal6 wal6 hbal6 hwal6
              have M := M.acons hbal6 hwal6
              refine ⟨trivial, ?_⟩
              refine x_st [_, _, _] _ rfl rfl rfl sz25 rfl rfl rfl rfl (by first | exact M.at_ 0 rfl | exact M.at_ 1 rfl | exact M.at_ 2 rfl | exact M.at_ 3 rfl | exact M.at_ 4 rfl | exact M.at_ 5 rfl | exact M.at_ 6 rfl | exact M.at_ 7 rfl) rfl rfl rfl ?_
              intro wst12 hwst12
              have M := by first | exact M.put 0 rfl hwst12 | exact M.put 1 rfl hwst12 | exact M.put 2 rfl hwst12 | exact M.put 3 rfl hwst12 | exact M.put 4 rfl hwst12 | exact M.put 5 rfl hwst12 | exact M.put 6 rfl hwst12 | exact M.put 7 rfl hwst12
              refine ⟨trivial, ?_⟩
              refine x_assign rfl rfl rfl rfl ?_
              refine Ex.done (hK _ _ ?_)
              refine At.then_n ?_
              refine W.seq ?_
              refine W.sub [(0, _), (4, _), (5, _), (7, _), (25, _), (26, _)] ⟨rfl, rfl, rfl, rfl, rfl, rfl, trivial⟩ ?_
              refine W.reg [(0, false), (1, false), (2, false), (3, true), (4, false), (5, false), (6, false), (7, true), (8, true), (9, false)] (by kernel_rfl) ?_
              intro K hK
              refine x_ldA [_] rfl rfl rfl Try.underlying32 rfl sz32 rfl rfl ⟨_, _, _, (by first | exact M.at_ 0 rfl | exact M.at_ 1 rfl | exact M.at_ 2 rfl | exact M.at_ 3 rfl | exact M.at_ 4 rfl | exact M.at_ 5 rfl | exact M.at_ 6 rfl | exact M.at_ 7 rfl), rfl⟩ ?_
              refine x_fa rfl rfl rfl fo43_1 rfl ?_
              refine x_ld rfl rfl rfl Try.underlying9 rfl rfl (cell_of (by first | exact M.at_ 0 rfl | exact M.at_ 1 rfl | exact M.at_ 2 rfl | exact M.at_ 3 rfl | exact M.at_ 4 rfl | exact M.at_ 5 rfl | exact M.at_ 6 rfl | exact M.at_ 7 rfl) rfl) ?_
              refine x_call rfl rfl rfl rfl rfl en57 (rfind_c (hu.at_ M (fun y hy => by simp [hy])) (by omega)) ?_
              rintro r_ w16 ⟨dv2, rfl, hb16, hn16⟩
              have M := M.new hn16
              have hb16 := hb16.new hn16
              obtain ⟨pd2, cd2, rfl⟩ := hb16.shape
              refine ⟨trivial, ?_⟩
              refine x_move rfl rfl rfl rfl ?_
              refine x_ext rfl rfl rfl rfl rfl ?_
              refine x_ext rfl rfl rfl rfl rfl ?_
              refine x_alloc [_, _, _] rfl rfl rfl ze25 rfl ?_
              intro bal7 wal7 hbal7 hwal7
              have M := M.acons hbal7 hwal7
              have Mk := (St.nil _).acons hbal7 hwal7
              refine ⟨trivial, ?_⟩
              refine x_st [_, _, _] _ rfl rfl rfl sz25 rfl rfl rfl rfl (by first | exact M.at_ 0 rfl | exact M.at_ 1 rfl | exact M.at_ 2 rfl | exact M.at_ 3 rfl | exact M.at_ 4 rfl | exact M.at_ 5 rfl | exact M.at_ 6 rfl | exact M.at_ 7 rfl) rfl rfl rfl ?_
              intro wst13 hwst13
              have M := M.put 0 rfl hwst13
              have Mk := Mk.put 0 rfl hwst13
              have hb16 := hb16.new Mk.frm
              refine ⟨trivial, ?_⟩
              refine x_assign rfl rfl rfl rfl ?_
              refine Ex.done (hK _ _ ?_)
              refine At.then_n ?_
              refine W.seq ?_
              refine W.sub [(0, _), (4, _), (7, _), (25, _), (26, _), (27, _), (28, _)] ⟨rfl, rfl, rfl, rfl, rfl, rfl, rfl, trivial⟩ ?_
              refine W.reg [(0, false), (1, false), (2, false), (3, false), (4, false), (5, false), (6, false), (7, false), (8, false), (9, false), (10, false), (11, false), (12, false), (13, false), (14, false), (15, false), (16, false), (17, false), (18, false), (19, false), (20, false), (21, false), (22, false), (23, false), (24, false), (25, false), (26, false)] (by kernel_rfl) ?_
              intro K hK
              refine x_fa rfl rfl rfl fo25_0 rfl ?_
              refine x_ld rfl rfl rfl Try.underlying9 rfl rfl (cell_of (by first | exact M.at_ 0 rfl | exact M.at_ 1 rfl | exact M.at_ 2 rfl | exact M.at_ 3 rfl | exact M.at_ 4 rfl | exact M.at_ 5 rfl | exact M.at_ 6 rfl | exact M.at_ 7 rfl) rfl) ?_
              refine x_fa rfl rfl rfl fo25_0 rfl ?_
              refine x_ld rfl rfl rfl Try.underlying9 rfl rfl (cell_of (by first | exact M.at_ 0 rfl | exact M.at_ 1 rfl | exact M.at_ 2 rfl | exact M.at_ 3 rfl | exact M.at_ 4 rfl | exact M.at_ 5 rfl | exact M.at_ 6 rfl | exact M.at_ 7 rfl) rfl) ?_
              refine x_eqS true rfl rfl rfl rfl rfl (by simp) ?_
              refine x_move rfl rfl rfl rfl ?_
              refine x_fa rfl rfl rfl fo25_1 rfl ?_
              refine x_ld rfl rfl rfl Try.underlying4 rfl rfl (cell_of (by first | exact M.at_ 0 rfl | exact M.at_ 1 rfl | exact M.at_ 2 rfl | exact M.at_ 3 rfl | exact M.at_ 4 rfl | exact M.at_ 5 rfl | exact M.at_ 6 rfl | exact M.at_ 7 rfl) rfl) ?_
              refine x_fa rfl rfl rfl fo25_1 rfl ?_
              refine x_ld rfl rfl rfl Try.underlying4 rfl rfl (cell_of (by first | exact M.at_ 0 rfl | exact M.at_ 1 rfl | exact M.at_ 2 rfl | exact M.at_ 3 rfl | exact M.at_ 4 rfl | exact M.at_ 5 rfl | exact M.at_ 6 rfl | exact M.at_ 7 rfl) rfl) ?_
              refine x_eqb true rfl rfl rfl Try.underlying4 rfl rfl (by simp) ?_
              refine x_pickT rfl rfl rfl rfl rfl ?_
              refine x_move rfl rfl rfl rfl ?_
              refine x_fa rfl rfl rfl fo25_2 rfl ?_
              refine x_ld rfl rfl rfl Try.underlying23 rfl rfl (cell_of (by first | exact M.at_ 0 rfl | exact M.at_ 1 rfl | exact M.at_ 2 rfl | exact M.at_ 3 rfl | exact M.at_ 4 rfl | exact M.at_ 5 rfl | exact M.at_ 6 rfl | exact M.at_ 7 rfl) rfl) ?_
              refine x_cvbs _ rfl rfl rfl Try.underlying23 Try.underlying5 Try.underlying9 rfl (strOf_bytes (bytesO_get hb15 (fun x hx => M.get (by simp [hx])))) ?_
              refine x_fa rfl rfl rfl fo25_2 rfl ?_
              refine x_ld rfl rfl rfl Try.underlying23 rfl rfl (cell_of (by first | exact M.at_ 0 rfl | exact M.at_ 1 rfl | exact M.at_ 2 rfl | exact M.at_ 3 rfl | exact M.at_ 4 rfl | exact M.at_ 5 rfl | exact M.at_ 6 rfl | exact M.at_ 7 rfl) rfl) ?_
              refine x_cvbs _ rfl rfl rfl Try.underlying23 Try.underlying5 Try.underlying9 rfl (strOf_bytes hb16) ?_
              refine x_eqS true rfl rfl rfl rfl rfl (by simp) ?_
              refine x_pickT rfl rfl rfl rfl rfl ?_
              refine x_move rfl rfl rfl rfl ?_
              refine x_move rfl rfl rfl rfl ?_
              refine x_move rfl rfl rfl rfl ?_
              refine x_eqi true rfl rfl rfl rfl rfl (by simp) ?_
              refine x_pickT rfl rfl rfl rfl rfl ?_
              refine x_assign rfl rfl rfl rfl ?_
              refine Ex.done (hK _ _ ?_)
              refine At.then_n ?_
              refine W.seq ?_
              refine W.seq ?_
              refine W.sub [(0, _), (4, _), (7, _), (25, _), (29, _)] ⟨rfl, rfl, rfl, rfl, rfl, trivial⟩ ?_
              refine W.reg [(0, false)] (by kernel_rfl) ?_
              intro K hK
              refine x_assign rfl rfl rfl rfl ?_
              refine Ex.done (hK _ _ ?_)
              refine At.then_n ?_
              refine W.block ?_
              obtain ⟨Q, hQ⟩ : ∃ Q, Q = [(bal7, Obj.cells [strV (findL l a.p).1.1, .bool (findL l a.p).1.2.1, .slice pd2 (findL l a.p).1.2.2.length cd2].toArray 25 (0, 0)), (bal6, Obj.cells [strV (findL l a.p).1.1, .bool (findL l a.p).1.2.1, .slice pdv (findL l a.p).1.2.2.length cdv].toArray 25 (0, 0))] ++ [(bal1, Obj.cells [.slice none 0 0].toArray 32 (0, 0)), (bbx2, Obj.cells [.int .i64 a.k, strV a.p, strV a.q, .slice pb a.b.length cb].toArray 43 (0, 0)), (bbx1, Obj.cells [.slice pu l.length cu].toArray 32 (0, 0))] ++ (tb bt E ++ (L ++ X)) := ⟨_, rfl⟩
              have M2 : Sep w00 ([(bal7, Obj.cells [strV (findL l a.p).1.1, .bool (findL l a.p).1.2.1, .slice pd2 (findL l a.p).1.2.2.length cd2].toArray 25 (0, 0)), (bal6, Obj.cells [strV (findL l a.p).1.1, .bool (findL l a.p).1.2.1, .slice pdv (findL l a.p).1.2.2.length cdv].toArray 25 (0, 0))] ++ [(bal1, Obj.cells [.slice none 0 0].toArray 32 (0, 0)), (bbx2, Obj.cells [.int .i64 a.k, strV a.p, strV a.q, .slice pb a.b.length cb].toArray 43 (0, 0)), (bbx1, Obj.cells [.slice pu l.length cu].toArray 32 (0, 0))] ++ (tb bt E ++ ((L ++ X) ++ L15))) _ := M
              rw [← List.append_assoc (tb bt E) (L ++ X) L15, ← List.append_assoc _ (tb bt E ++ (L ++ X)) L15, ← hQ] at M2
              have M := M2
              have hwr0 : WrN L15 (.slice pdv (findL l a.p).1.2.2.length cdv) (findL l a.p).1.2.2.length := WrN.own hb15 (fun _ h => h)
              have hfd := hR.find_data a.p
              refine W.loop (σ := Nat × List (Nat × Obj)) (fun q => [(0, _), (4, _), (7, _), (25, _), (29, _), (30, .int .i64 ((q.1 : Nat) : Int))]) (fun q w => q.1 ≤ (findL l a.p).1.2.2.length ∧ WrN q.2 (.slice pdv (findL l a.p).1.2.2.length cdv) (findL l a.p).1.2.2.length ∧ Sep w00 (Q ++ q.2) w) (fun q => (findL l a.p).1.2.2.length - q.1) (0, L15) ⟨rfl, rfl, rfl, rfl, rfl, rfl, trivial⟩ ⟨Nat.zero_le _, hwr0, M⟩ ?_
              rintro ⟨k, Ld3⟩ w ⟨hk, hwr3, M⟩
              simp only at hk hwr3 M
              refine W.seq ?_
              refine W.seq ?_
              refine W.sub [(0, _), (4, _), (7, _), (25, _), (29, _), (30, _)] ⟨rfl, rfl, rfl, rfl, rfl, rfl, trivial⟩ ?_
              refine W.reg [(0, false), (1, false), (2, false), (3, false), (4, false)] (by kernel_rfl) ?_
              intro K hK
              refine x_move rfl rfl rfl rfl ?_
              refine x_fa rfl rfl rfl fo25_2 rfl ?_
              refine x_ld rfl rfl rfl Try.underlying23 rfl rfl (cell_of (M.get (b := bal6) (o := Obj.cells [strV (findL l a.p).1.1, .bool (findL l a.p).1.2.1, .slice pdv (findL l a.p).1.2.2.length cdv].toArray 25 (0, 0)) (by simp [hQ])) rfl) ?_
              refine x_len rfl rfl rfl rfl Try.underlying23 rfl ?_
              refine x_lss _ rfl rfl rfl rfl rfl rfl ?_
              refine Ex.done (hK _ _ ?_)
              refine At.then_n ?_
              refine W.cond rfl (fun hco8 => ?_) (fun hco8 => ?_)
              · try simp only [decide_eq_true_eq, decide_eq_false_iff_not, Bool.not_eq_true', Bool.not_eq_false', beq_iff_eq, bne_iff_ne, ne_eq, Bool.not_eq_eq_eq_not, Bool.not_true, Bool.not_false, beq_eq_false_iff_ne, bne_eq_false_iff_eq, Bool.not_not, gt_iff_lt, ge_iff_le] at hco8
                have hwr4 := hwr3
                rcases hwr4 with ⟨_, h0⟩ | ⟨bk, cap, cs2, T, hv, hm, hn, hu8⟩
                · omega
                cases hv
                obtain ⟨y, hy⟩ := hu8 k (by omega)
                obtain ⟨A, B, rfl⟩ := List.append_of_mem hm
                have hklt : k < cs2.length := (List.getElem?_eq_some_iff.1 hy).1
                refine W.skip ?_
                refine At.then_n ?_
                refine W.seq ?_
                refine W.block ?_
                refine W.sub [(0, _), (4, _), (7, _), (25, _), (29, _), (30, _)] ⟨rfl, rfl, rfl, rfl, rfl, rfl, trivial⟩ ?_
                refine W.regD (by kernel_rfl) #[0, 1, 0, 0, 8, 0, 56, 120, 248, 511, 1023] [(0, false), (1, false), (2, false), (3, false), (4, false), (5, false), (6, false), (7, false), (8, false), (9, false), (10, true)] (by kernel_rfl) ?_
                intro K wD7 hK hwD7
                have M := M.drew hwD7
                refine x_fa rfl rfl rfl fo25_2 rfl ?_
                refine x_ld rfl rfl rfl Try.underlying23 rfl rfl (cell_of (M.get (b := bal6) (o := Obj.cells [strV (findL l a.p).1.1, .bool (findL l a.p).1.2.1, .slice (some ⟨bk, 0, none⟩) (findL l a.p).1.2.2.length cdv].toArray 25 (0, 0)) (by simp [hQ])) rfl) ?_
                refine x_move rfl rfl rfl rfl ?_
                refine x_fa rfl rfl rfl fo25_2 rfl ?_
                refine x_ld rfl rfl rfl Try.underlying23 rfl rfl (cell_of (M.get (b := bal6) (o := Obj.cells [strV (findL l a.p).1.1, .bool (findL l a.p).1.2.1, .slice (some ⟨bk, 0, none⟩) (findL l a.p).1.2.2.length cdv].toArray 25 (0, 0)) (by simp [hQ])) rfl) ?_
                refine x_move rfl rfl rfl rfl ?_
                refine x_ia k rfl rfl rfl Try.underlying23 sz5 rfl rfl rfl (by omega) ?_
                refine x_ld rfl rfl rfl Try.underlying5 rfl rfl (cell_of (M.get (b := bk) (List.mem_append_right _ (List.mem_append_right _ List.mem_cons_self))) (by simpa using hy)) ?_
                refine x_add (((y + 1 : UInt8).toNat : Nat) : Int) rfl rfl rfl rfl rfl (u8_succ y) ?_
                refine x_ia k rfl rfl rfl Try.underlying23 sz5 rfl rfl rfl (by omega) ?_
                refine x_st [_] (cs2.set k (byteV (y + 1))) rfl rfl rfl sz5 rfl rfl rfl rfl (M.get (b := bk) (List.mem_append_right _ (List.mem_append_right _ List.mem_cons_self))) rfl (by rw [Nat.ble_eq]; simp; omega) (by simp [List.set_eq_take_append_cons_drop, hklt, byteV]) ?_
                intro wst14 hwst14
                have M := M.put3 hwst14
                refine ⟨⟨.inl (by kernel_rfl), .inl (by kernel_rfl), .inl (by kernel_rfl), trivial⟩, ?_⟩
                refine Ex.done (hK _ _ ?_)
                refine At.blk_n ?_
                refine At.then_n ?_
                refine W.sub [(0, _), (4, _), (7, _), (25, _), (29, _), (30, _)] ⟨rfl, rfl, rfl, rfl, rfl, rfl, trivial⟩ ?_
                refine W.reg [(0, false), (1, false), (2, false)] (by kernel_rfl) ?_
                intro K hK
                refine x_move rfl rfl rfl rfl ?_
                refine x_add _ rfl rfl rfl rfl rfl (wadd (by omega) (by omega)) ?_
                refine x_assign rfl rfl rfl rfl ?_
                refine Ex.done (hK _ _ ?_)
                exact At.back ((k + 1, A ++ (bk, Obj.cells (cs2.set k (byteV (y + 1))).toArray T (0, 0)) :: B)) ⟨rfl, rfl, rfl, rfl, rfl, rfl, trivial⟩ ⟨by omega, WrN.set hwr3 hu8 hn (by omega), M⟩ (by first | omega | (simp only; omega) | (simp; done) | (simp; omega))
              · try simp only [decide_eq_true_eq, decide_eq_false_iff_not, Bool.not_eq_true', Bool.not_eq_false', beq_iff_eq, bne_iff_ne, ne_eq, Bool.not_eq_eq_eq_not, Bool.not_true, Bool.not_false, beq_eq_false_iff_ne, bne_eq_false_iff_eq, Bool.not_not, gt_iff_lt, ge_iff_le] at hco8
                rw [hQ] at M
                refine W.exit ?_
                refine At.then_x ?_
                refine At.loop_x ?_
                refine At.blk_x ?_
                refine At.then_n ?_
                refine W.seq ?_
                refine W.sub [(0, _), (4, _), (7, _), (29, _)] ⟨rfl, rfl, rfl, rfl, trivial⟩ ?_
                refine W.regD (by kernel_rfl) #[0, 0, 0, 1, 11, 31] [(0, false), (1, false), (2, false), (3, false), (4, true), (5, false)] (by kernel_rfl) ?_
                intro K wD8 hK hwD8
                have M := M.drew hwD8
                refine x_move rfl rfl rfl rfl ?_
                refine x_ldA [_] rfl rfl rfl Try.underlying32 rfl sz32 rfl rfl ⟨_, _, _, (by first | exact M.at_ 0 rfl | exact M.at_ 1 rfl | exact M.at_ 2 rfl | exact M.at_ 3 rfl | exact M.at_ 4 rfl | exact M.at_ 5 rfl | exact M.at_ 6 rfl | exact M.at_ 7 rfl), rfl⟩ ?_
                refine x_move rfl rfl rfl rfl ?_
                refine x_assign rfl rfl rfl rfl ?_
                refine x_st [_] _ rfl rfl rfl sz32 rfl rfl rfl rfl (by first | exact M.at_ 0 rfl | exact M.at_ 1 rfl | exact M.at_ 2 rfl | exact M.at_ 3 rfl | exact M.at_ 4 rfl | exact M.at_ 5 rfl | exact M.at_ 6 rfl | exact M.at_ 7 rfl) rfl rfl rfl ?_
                intro wst15 hwst15
                have M := by first | exact M.put 0 rfl hwst15 | exact M.put 1 rfl hwst15 | exact M.put 2 rfl hwst15 | exact M.put 3 rfl hwst15 | exact M.put 4 rfl hwst15 | exact M.put 5 rfl hwst15 | exact M.put 6 rfl hwst15 | exact M.put 7 rfl hwst15
                refine ⟨⟨.inl (by kernel_rfl), trivial⟩, ?_⟩
                refine x_assign rfl rfl rfl rfl ?_
                refine Ex.done (hK _ _ ?_)
                refine At.then_n ?_
                refine W.ret ?_
                refine At.ret3 (.tmp 6) (.cell 7 32) (.tmp 8) rfl ⟨rfl, ⟨_, rfl, run_loadVarA (l := [_]) Try.underlying32 rfl sz32 ⟨_, _, _, (by first | exact M.at_ 0 rfl | exact M.at_ 1 rfl | exact M.at_ 2 rfl | exact M.at_ 3 rfl | exact M.at_ 4 rfl | exact M.at_ 5 rfl | exact M.at_ 6 rfl | exact M.at_ 7 rfl), rfl⟩ (Nat.zero_lt_succ _)⟩, rfl, trivial⟩ ?_
                have M2 : Sep w00 ([_, _, _, _, _] ++ ((tb bt E ++ (L ++ X)) ++ Ld3)) _ := M
                exact ⟨bt, E, l, _, L, rfl, hR, hu, (St.dropL (L' := [_, _, _, _, _]) M2).dropR⟩
end Go.Proofs.Ytccfmfehfhfhhaa

namespace Go.Proofs.Ytccfmfehfhfhhaa
open Go Go.Fw Go.RowKit Go.Proofs
set_option linter.unusedVariables false
set_option linter.unusedSimpArgs false

set_option maxRecDepth 100000 in
theorem treePlays_c {w0 : World} {v : Value} {l : List Ac} (h : ActsAt w0 v l) (hl : l.length ≤ 9223372036854775807) : Ret Try.prog 9 #[v] w0 fun r w' => r = .bool true ∧ New w0 w' := by
  have M : Sep w0 [] w0 := St.nil w0
  obtain ⟨pv, cv, rfl⟩ := h.shape
  refine Ret.of_W Try.func9 rfl Try.ntmps9 rfl ?_
  refine W.seq ?_
  refine W.sub [(0, _)] ⟨rfl, trivial⟩ ?_
  refine W.reg [(0, false)] (by kernel_rfl) ?_
  intro K hK
  refine x_assign rfl rfl rfl rfl ?_
  refine Ex.done (hK _ _ ?_)
  refine At.then_n ?_
  refine W.seq ?_
  refine W.sub [(0, _)] ⟨rfl, trivial⟩ ?_
  refine W.reg [(0, true), (1, false), (2, true), (3, false), (4, true)] (by kernel_rfl) ?_
  intro K hK
  refine x_call rfl rfl rfl rfl rfl en24 (new_r) ?_
  rintro r_ w1 ⟨bt, E1, rfl, h1, M⟩
  refine ⟨trivial, ?_⟩
  refine x_build [_] rfl rfl rfl pl32 ze32 rfl rfl rfl ?_
  refine x_alloc [_] rfl rfl rfl ze32 rfl ?_
  intro bal1 wal1 hbal1 hwal1
  have M := M.acons hbal1 hwal1
  refine ⟨trivial, ?_⟩
  refine x_assign rfl rfl rfl rfl ?_
  refine x_st [_] _ rfl rfl rfl sz32 rfl rfl rfl rfl (by first | exact M.at_ 0 rfl | exact M.at_ 1 rfl | exact M.at_ 2 rfl | exact M.at_ 3 rfl | exact M.at_ 4 rfl | exact M.at_ 5 rfl | exact M.at_ 6 rfl | exact M.at_ 7 rfl) rfl rfl rfl ?_
  intro wst1 hwst1
  have M := M.put 0 rfl hwst1
  have M : Sep w0 ([(bal1, Obj.cells [.slice none 0 0].toArray 32 (0, 0))] ++ (tb bt E1 ++ [])) wst1 := by rw [List.append_nil]; exact M
  refine ⟨trivial, ?_⟩
  refine Ex.done (hK _ _ ?_)
  refine At.then_n ?_
  refine W.seq ?_
  refine W.seq ?_
  refine W.sub [(0, _), (3, _), (4, _)] ⟨rfl, rfl, rfl, trivial⟩ ?_
  refine W.reg [(0, false), (1, false), (2, false), (3, false), (4, true), (5, false), (6, false)] (by kernel_rfl) ?_
  intro K hK
  refine x_move rfl rfl rfl rfl ?_
  refine x_eqpn false rfl rfl rfl Try.underlying27 rfl rfl rfl ?_
  refine x_move rfl rfl rfl rfl ?_
  refine x_move rfl rfl rfl rfl ?_
  refine x_call rfl rfl rfl rfl rfl en16 (few_c (h.new M.frm) hl) ?_
  rintro r_ wcall2 ⟨rfl, hncall2⟩
  have M := M.new hncall2
  refine ⟨trivial, ?_⟩
  refine x_not _ rfl rfl rfl rfl rfl ?_
  refine x_pickF rfl rfl rfl rfl rfl ?_
  refine Ex.done (hK _ _ ?_)
  refine At.then_n ?_
  refine W.cond rfl (fun hco1 => ?_) (fun hco1 => ?_)
  · try simp only [decide_eq_true_eq, decide_eq_false_iff_not, Bool.not_eq_true', Bool.not_eq_false', beq_iff_eq, bne_iff_ne, ne_eq, Bool.not_eq_eq_eq_not, Bool.not_true, Bool.not_false, beq_eq_false_iff_ne, bne_eq_false_iff_eq, Bool.not_not, gt_iff_lt, ge_iff_le] at hco1
    refine W.seq ?_
    refine W.sub [(3, _)] ⟨rfl, trivial⟩ ?_
    refine W.reg [(0, false), (1, false), (2, false), (3, true), (4, false), (5, false)] (by kernel_rfl) ?_
    intro K hK
    refine x_move rfl rfl rfl rfl ?_
    refine x_nepn true rfl rfl rfl Try.underlying27 rfl rfl rfl ?_
    refine x_move rfl rfl rfl rfl ?_
    refine x_call rfl rfl rfl rfl rfl en11 (lives16_c) ?_
    rintro r_ wcall3 ⟨rfl, hncall3⟩
    have M := M.new hncall3
    refine ⟨trivial, ?_⟩
    refine x_pickT rfl rfl rfl rfl rfl ?_
    refine x_assign rfl rfl rfl rfl ?_
    refine Ex.done (hK _ _ ?_)
    refine At.then_n ?_
    refine W.ret ?_
    refine At.then_r ?_
    refine At.ret1 (.tmp 2) rfl ⟨rfl, trivial⟩ ?_
    exact ⟨rfl, M.frm⟩
  · try simp only [decide_eq_true_eq, decide_eq_false_iff_not, Bool.not_eq_true', Bool.not_eq_false', beq_iff_eq, bne_iff_ne, ne_eq, Bool.not_eq_eq_eq_not, Bool.not_true, Bool.not_false, beq_eq_false_iff_ne, bne_eq_false_iff_eq, Bool.not_not, gt_iff_lt, ge_iff_le] at hco1
    refine W.skip ?_
    refine At.then_n ?_
    refine W.seq ?_
    refine W.seq ?_
    refine W.sub [(0, _), (3, _), (4, _)] ⟨rfl, rfl, rfl, trivial⟩ ?_
    refine W.reg [(0, false)] (by kernel_rfl) ?_
    intro K hK
    refine x_assign rfl rfl rfl rfl ?_
    refine Ex.done (hK _ _ ?_)
    refine At.then_n ?_
    refine W.block ?_
    refine W.loop (σ := Nat × Nat × List Ent × List Raw × Value × List (Nat × Obj)) (fun q => [(0, _), (3, ptr q.2.1), (4, _), (5, .int .i64 ((q.1 : Nat) : Int))]) (fun q w => q.1 ≤ l.length ∧ TR q.2.2.1 q.2.2.2.1 ∧ FilesK w0 q.2.2.2.2.2 q.2.2.2.2.1 q.2.2.2.1 ∧ Sep w0 ([(bal1, Obj.cells [q.2.2.2.2.1].toArray 32 (0, 0))] ++ (tb q.2.1 q.2.2.1 ++ q.2.2.2.2.2)) w) (fun q => l.length - q.1) (0, bt, E1, [], .slice none 0 0, []) ⟨rfl, rfl, rfl, rfl, trivial⟩ ⟨Nat.zero_le _, h1, nilK, M⟩ ?_
    rintro ⟨j, bt, E, k, u, L⟩ w ⟨hj, hR, hu, M⟩
    simp only at hj hR hu M
    obtain ⟨pu, cu, rfl⟩ := (hu.at_ M (fun y hy => by simp [hy])).shape
    refine W.seq ?_
    refine W.seq ?_
    refine W.sub [(0, _), (3, _), (4, _), (5, _)] ⟨rfl, rfl, rfl, rfl, trivial⟩ ?_
    refine W.reg [(0, false), (1, false), (2, false), (3, false)] (by kernel_rfl) ?_
    intro K hK
    refine x_move rfl rfl rfl rfl ?_
    refine x_move rfl rfl rfl rfl ?_
    refine x_len rfl rfl rfl rfl Try.underlying38 rfl ?_
    refine x_lss _ rfl rfl rfl rfl rfl rfl ?_
    refine Ex.done (hK _ _ ?_)
    refine At.then_n ?_
    refine W.cond rfl (fun hco2 => ?_) (fun hco2 => ?_)
    · try simp only [decide_eq_true_eq, decide_eq_false_iff_not, Bool.not_eq_true', Bool.not_eq_false', beq_iff_eq, bne_iff_ne, ne_eq, Bool.not_eq_eq_eq_not, Bool.not_true, Bool.not_false, beq_eq_false_iff_ne, bne_eq_false_iff_eq, Bool.not_not, gt_iff_lt, ge_iff_le] at hco2
      obtain ⟨x, hx⟩ := get_lt (l := l) (q := j) (by omega)
      obtain ⟨bb, off, rfl, _⟩ := h.blk (j := j) (by omega)
      obtain ⟨pd, cd, hrow0, hbx⟩ := h.row hx
      have hsm := few_small hco1 hx
      refine W.skip ?_
      refine At.then_n ?_
      refine W.seq ?_
      refine W.block ?_
      refine W.seq ?_
      refine W.sub [(0, _), (3, _), (4, _), (5, _)] ⟨rfl, rfl, rfl, rfl, trivial⟩ ?_
      refine W.regT (by kernel_rfl) #[0, 0, 0, 0, 12, 28, 63, 127, 255, 255, 255, 0, 2559, 7167, 16383] (.two [(0, false), (1, false), (2, false), (3, false), (4, false), (5, false)] 6 [(7, false), (8, false), (9, false), (10, false), (11, true)] 11 [(6, true), (7, false), (8, false), (9, false), (10, false)] (.leaf [(12, false), (13, true), (14, false)])) (by kernel_rfl) ?_
      intro K wD1 hK hwD1
      have M := M.drew hwD1
      have hrow := RowAt.new hrow0 M.frm
      refine ExT.two ?_
      refine x_move rfl rfl rfl rfl ?_
      refine x_ldA [_] rfl rfl rfl Try.underlying32 rfl sz32 rfl rfl ⟨_, _, _, (by first | exact M.at_ 0 rfl | exact M.at_ 1 rfl | exact M.at_ 2 rfl | exact M.at_ 3 rfl | exact M.at_ 4 rfl | exact M.at_ 5 rfl | exact M.at_ 6 rfl | exact M.at_ 7 rfl), rfl⟩ ?_
      refine x_move rfl rfl rfl rfl ?_
      refine x_move rfl rfl rfl rfl ?_
      refine x_ia j rfl rfl rfl Try.underlying38 sz43 rfl rfl rfl (by omega) ?_
      refine x_ldA [_, _, _, _] rfl rfl rfl Try.underlying43 rfl sz43 rfl rfl hrow ?_
      refine Ex.fork ?_
      refine Ex.join (fun F' T' w' => ∃ bx bt2 E2 l2 pu2 cu2 L2 R1 R2, T' = [(5, R2), (1, R1)] ∧ F' = [(0, .slice (some ⟨bb, off, none⟩) l.length cv), (4, ptr bal1), (5, .int .i64 ((j : Nat) : Int)), (7, ptr bx), (37, ptr bt2), (38, .agg #[.slice pu2 l2.length cu2]), (39, .bool true)] ∧ TR E2 l2 ∧ FilesK w0 L2 (.slice pu2 l2.length cu2) l2 ∧ Sep w0 ([(bx, Obj.cells [.slice none 0 0].toArray 32 (0, 0)), (bal1, Obj.cells [.slice pu k.length cu].toArray 32 (0, 0))] ++ (tb bt2 E2 ++ L2)) w') ?_ ?_ ?_
      ·
        refine x_call rfl rfl rfl rfl rfl en28 (step_c (St.inn2 (F := [_]) M) hR hu hbx hsm) ?_
        rintro r_ w5 ⟨bt2, E2, l2, u2, L2, rfl, hR2, hu2, M⟩
        have M := St.out2 [_] M
        obtain ⟨pu2, cu2, rfl⟩ := (hu2.at_ M (fun y hy => by simp [hy])).shape
        refine ⟨⟨.inl (by kernel_rfl), .inl (by kernel_rfl), trivial⟩, ?_⟩
        refine x_move rfl rfl rfl rfl ?_
        refine x_ext rfl rfl rfl rfl rfl ?_
        refine x_ext rfl rfl rfl rfl rfl ?_
        refine x_ext rfl rfl rfl rfl rfl ?_
        refine x_alloc [_] rfl rfl rfl ze32 rfl ?_
        intro bal2 wal2 hbal2 hwal2
        have M := M.acons hbal2 hwal2
        refine ⟨⟨.inr (RowAt.new hrow0 M.frm), .inr ⟨_, _, _, (by first | exact M.at_ 0 rfl | exact M.at_ 1 rfl | exact M.at_ 2 rfl | exact M.at_ 3 rfl | exact M.at_ 4 rfl | exact M.at_ 5 rfl | exact M.at_ 6 rfl | exact M.at_ 7 rfl), rfl⟩, trivial⟩, ?_⟩
        refine Ex.forkS [(0, _), (4, _), (5, _), (7, _), (37, _), (38, _), (39, _)] ⟨rfl, rfl, rfl, rfl, rfl, rfl, rfl, trivial⟩ ?_
        exact ⟨bal2, bt2, E2, l2, pu2, cu2, L2, _, _, rfl, rfl, hR2, hu2, M⟩
      · refine x_alloc [_] rfl rfl rfl ze32 rfl ?_
        intro bal3 wal3 hbal3 hwal3
        have M := M.acons hbal3 hwal3
        refine ⟨⟨.inr (RowAt.new hrow0 M.frm), .inr ⟨_, _, _, (by first | exact M.at_ 0 rfl | exact M.at_ 1 rfl | exact M.at_ 2 rfl | exact M.at_ 3 rfl | exact M.at_ 4 rfl | exact M.at_ 5 rfl | exact M.at_ 6 rfl | exact M.at_ 7 rfl), rfl⟩, trivial⟩, ?_⟩
        refine x_call rfl rfl rfl rfl rfl en28 (step_c (St.inn2 (F := [_, _]) M) hR hu hbx hsm) ?_
        rintro r_ w5 ⟨bt2, E2, l2, u2, L2, rfl, hR2, hu2, M⟩
        have M := St.out2 [_, _] M
        obtain ⟨pu2, cu2, rfl⟩ := (hu2.at_ M (fun y hy => by simp [hy])).shape
        refine ⟨⟨.inl (by kernel_rfl), .inl (by kernel_rfl), trivial⟩, ?_⟩
        refine x_move rfl rfl rfl rfl ?_
        refine x_ext rfl rfl rfl rfl rfl ?_
        refine x_ext rfl rfl rfl rfl rfl ?_
        refine x_ext rfl rfl rfl rfl rfl ?_
        refine Ex.forkS [(0, _), (4, _), (5, _), (7, _), (37, _), (38, _), (39, _)] ⟨rfl, rfl, rfl, rfl, rfl, rfl, rfl, trivial⟩ ?_
        exact ⟨bal3, bt2, E2, l2, pu2, cu2, L2, _, _, rfl, rfl, hR2, hu2, M⟩
      rintro F1 T1 w7 ⟨bx, bt2, E2, l2, pu2, cu2, L2, R1, R2, rfl, rfl, hR2, hu2, M⟩
      refine ExT.leaf ?_
      refine x_assign rfl rfl rfl rfl ?_
      refine x_st [_] _ rfl rfl rfl sz32 rfl rfl rfl rfl (by first | exact M.at_ 0 rfl | exact M.at_ 1 rfl | exact M.at_ 2 rfl | exact M.at_ 3 rfl | exact M.at_ 4 rfl | exact M.at_ 5 rfl | exact M.at_ 6 rfl | exact M.at_ 7 rfl) rfl rfl rfl ?_
      intro wst2 hwst2
      have M : Sep w0 ([(bx, Obj.cells [.slice pu2 l2.length cu2].toArray 32 (0, 0)), (bal1, Obj.cells [.slice pu k.length cu].toArray 32 (0, 0))] ++ (tb bt2 E2 ++ L2)) wst2 := M.put 0 rfl hwst2
      refine ⟨⟨.inl (by kernel_rfl), .inl (by kernel_rfl), trivial⟩, ?_⟩
      refine x_assign rfl rfl rfl rfl ?_
      refine Ex.done (hK _ _ ?_)
      refine At.then_n ?_
      refine W.seq ?_
      refine W.seq ?_
      refine W.sub [(0, _), (4, _), (5, _), (6, _), (7, _), (8, _)] ⟨rfl, rfl, rfl, rfl, rfl, rfl, trivial⟩ ?_
      refine W.regD (by kernel_rfl) #[0, 1, 3, 7, 15, 31, 63, 127, 255, 127, 639, 2047, 4095, 8191] [(0, false), (1, false), (2, false), (3, false), (4, false), (5, false), (6, false), (7, false), (9, false), (10, false), (8, true), (11, true), (12, false), (13, false)] (by kernel_rfl) ?_
      intro K wD2 hK hwD2
      have M := M.drew hwD2
      refine x_move rfl rfl rfl rfl ?_
      refine x_not false rfl rfl rfl rfl rfl ?_
      refine x_move rfl rfl rfl rfl ?_
      refine x_move rfl rfl rfl rfl ?_
      refine x_eqpn false rfl rfl rfl Try.underlying27 rfl rfl rfl ?_
      refine x_pickF rfl rfl rfl rfl rfl ?_
      refine x_move rfl rfl rfl rfl ?_
      refine x_move rfl rfl rfl rfl ?_
      refine x_fa rfl rfl rfl fo32_0 rfl ?_
      refine x_ld rfl rfl rfl Try.underlying22 rfl rfl (cell_of (by first | exact M.at_ 0 rfl | exact M.at_ 1 rfl | exact M.at_ 2 rfl | exact M.at_ 3 rfl | exact M.at_ 4 rfl | exact M.at_ 5 rfl | exact M.at_ 6 rfl | exact M.at_ 7 rfl) rfl) ?_
      refine x_call rfl rfl rfl rfl rfl en15 (files_r (St.inn2 (F := [_, _]) M) hR2) ?_
      rintro r_ wf ⟨L7, hl7, M⟩
      have M : Sep w0 ([(bx, Obj.cells [.slice pu2 l2.length cu2].toArray 32 (0, 0)), (bal1, Obj.cells [.slice pu k.length cu].toArray 32 (0, 0))] ++ (tb bt2 E2 ++ (L2 ++ L7))) wf := M.perm (perm_c fun p => by simp only [List.countP_append, List.countP_cons, List.countP_nil]; omega)
      refine ⟨⟨.inr (cell_of (by first | exact M.at_ 0 rfl | exact M.at_ 1 rfl | exact M.at_ 2 rfl | exact M.at_ 3 rfl | exact M.at_ 4 rfl | exact M.at_ 5 rfl | exact M.at_ 6 rfl | exact M.at_ 7 rfl) rfl), trivial⟩, ?_⟩
      refine x_call rfl rfl rfl rfl rfl en14 (fsame_c (filesO_get hl7 (fun x hx => M.get (by simp [hx]))) (hu2.at_ M (fun y hy => by simp [hy])) (by have := hR2.le; omega)) ?_
      rintro r_ ws ⟨rfl, hns⟩
      have M := M.new hns
      rw [decide_eq_true rfl]
      refine ⟨⟨.inl (by kernel_rfl), trivial⟩, ?_⟩
      refine x_not false rfl rfl rfl rfl rfl ?_
      refine x_pickF rfl rfl rfl rfl rfl ?_
      refine Ex.done (hK _ _ ?_)
      refine At.then_n ?_
      refine W.condF rfl ?_
      refine W.skip ?_
      refine At.then_n ?_
      refine W.sub [(0, _), (4, _), (5, _), (6, _), (7, _)] ⟨rfl, rfl, rfl, rfl, rfl, trivial⟩ ?_
      refine W.regD (by kernel_rfl) #[0, 0, 1, 7] [(0, false), (1, false), (2, false), (3, true)] (by kernel_rfl) ?_
      intro K wD3 hK hwD3
      have M := M.drew hwD3
      refine x_move rfl rfl rfl rfl ?_
      refine x_ldA [_] rfl rfl rfl Try.underlying32 rfl sz32 rfl rfl ⟨_, _, _, (by first | exact M.at_ 0 rfl | exact M.at_ 1 rfl | exact M.at_ 2 rfl | exact M.at_ 3 rfl | exact M.at_ 4 rfl | exact M.at_ 5 rfl | exact M.at_ 6 rfl | exact M.at_ 7 rfl), rfl⟩ ?_
      refine x_assign rfl rfl rfl rfl ?_
      refine x_st [_] _ rfl rfl rfl sz32 rfl rfl rfl rfl (by first | exact M.at_ 0 rfl | exact M.at_ 1 rfl | exact M.at_ 2 rfl | exact M.at_ 3 rfl | exact M.at_ 4 rfl | exact M.at_ 5 rfl | exact M.at_ 6 rfl | exact M.at_ 7 rfl) rfl rfl rfl ?_
      intro wst3 hwst3
      have M := by first | exact M.put 0 rfl hwst3 | exact M.put 1 rfl hwst3 | exact M.put 2 rfl hwst3 | exact M.put 3 rfl hwst3 | exact M.put 4 rfl hwst3 | exact M.put 5 rfl hwst3 | exact M.put 6 rfl hwst3 | exact M.put 7 rfl hwst3
      refine ⟨⟨.inl (by kernel_rfl), trivial⟩, ?_⟩
      refine Ex.done (hK _ _ ?_)
      refine At.blk_n ?_
      refine At.then_n ?_
      refine W.sub [(0, _), (3, _), (4, _), (5, _)] ⟨rfl, rfl, rfl, rfl, trivial⟩ ?_
      refine W.reg [(0, false), (1, false), (2, false)] (by kernel_rfl) ?_
      intro K hK
      refine x_move rfl rfl rfl rfl ?_
      refine x_add _ rfl rfl rfl rfl rfl (wadd (by omega) (by omega)) ?_
      refine x_assign rfl rfl rfl rfl ?_
      refine Ex.done (hK _ _ ?_)
      exact At.back ((j + 1, bt2, E2, l2, _, L2)) ⟨rfl, rfl, rfl, rfl, trivial⟩ ⟨by omega, hR2, hu2, by
        have M2 : Sep w0 ((bx, Obj.cells [.slice pu2 l2.length cu2].toArray 32 (0, 0)) :: ([(bal1, Obj.cells [.slice pu2 l2.length cu2].toArray 32 (0, 0))] ++ (tb bt2 E2 ++ (L2 ++ L7)))) _ := M
        exact St.cutR (A := [_]) M2.tail⟩ (by first | omega | (simp only; omega) | (simp; done) | (simp; omega))
    · try simp only [decide_eq_true_eq, decide_eq_false_iff_not, Bool.not_eq_true', Bool.not_eq_false', beq_iff_eq, bne_iff_ne, ne_eq, Bool.not_eq_eq_eq_not, Bool.not_true, Bool.not_false, beq_eq_false_iff_ne, bne_eq_false_iff_eq, Bool.not_not, gt_iff_lt, ge_iff_le] at hco2
      refine W.exit ?_
      refine At.then_x ?_
      refine At.loop_x ?_
      refine At.blk_x ?_
      refine At.then_n ?_
      refine W.seq ?_
      refine W.sub [] trivial ?_
      refine W.reg [(0, true), (1, false)] (by kernel_rfl) ?_
      intro K hK
      refine x_call rfl rfl rfl rfl rfl en11 (lives16_c) ?_
      rintro r_ wcall8 ⟨rfl, hncall8⟩
      have M := M.new hncall8
      refine ⟨trivial, ?_⟩
      refine x_assign rfl rfl rfl rfl ?_
      refine Ex.done (hK _ _ ?_)
      refine At.then_n ?_
      refine W.ret ?_
      refine At.ret1 (.tmp 2) rfl ⟨rfl, trivial⟩ ?_
      exact ⟨rfl, M.frm⟩
end Go.Proofs.Ytccfmfehfhfhhaa

namespace Go.Proofs.Ytccfmfehfhfhhaa
open Go Go.Fw Go.ChangeShapes Go.WideShapes Go.ChangeAt Go.RowKit
set_option linter.unusedVariables false
set_option linter.unusedSimpArgs false

theorem cInt : Try.prog.cellsOf 3 = 1 := by kernel_rfl
theorem cBool : Try.prog.cellsOf 4 = 1 := by kernel_rfl
theorem cBytes : Try.prog.cellsOf 23 = 1 := by kernel_rfl
theorem cByte : Try.prog.cellsOf 5 = 1 := by kernel_rfl
theorem cAct : Try.prog.cellsOf 43 = 4 := by kernel_rfl
theorem cFile : Try.prog.cellsOf 25 = 3 := by kernel_rfl
section
variable {H : Type} {enc : TypeId × Value → H} {W : World} {sp : Nat → Bool}
abbrev ActV := Int × List UInt8 × List UInt8 × (Value × List UInt8)
abbrev FileV := List UInt8 × Bool × (Value × List UInt8)
def actE (a : ActV) : List Value := [.int .i64 a.1, strV a.2.1, strV a.2.2.1, a.2.2.2.1]
def fileE (a : FileV) : List Value := [strV a.1, .bool a.2.1, a.2.2.1]
def toAc (a : ActV) : Ac := ⟨a.1, a.2.1, a.2.2.1, a.2.2.2.2⟩
def toRaw (a : FileV) : Raw := (a.1, a.2.1, a.2.2.2)
theorem rd_bytes16 : Rd enc Try.prog W sp 23 (fun a : Value × List UInt8 => [a.1]) (fun a d => BytesAt W a.1 a.2 ∧ a.2.length ≤ maxLen ∧ ((d = .nil ∧ a.2 = []) ∨ ∃ ds rest, d = .slice ds rest ∧ ds.length = a.2.length)) := rd_bytes Try.underlying23 Try.underlying5 cByte
theorem rd_act : Rd enc Try.prog W sp 43 actE (fun a d => BytesAt W a.2.2.2.1 a.2.2.2.2) := fun fuel cs x h => by
  obtain ⟨a, h1, d0, d1, d2, d3, _, _, _, _, h2⟩ := rd_struct4 (R0 := _) (R1 := _) (R2 := _) (R3 := _) Try.underlying43 cAct ⟨rfl, cInt⟩ ⟨rfl, cStr⟩ ⟨rfl, cStr⟩ ⟨rfl, cBytes⟩ (rd_int Try.underlying3) (rd_string Try.underlying9) (rd_string Try.underlying9) rd_bytes16 fuel cs x h
  exact ⟨a, h1, h2.1⟩
theorem bulk_pos (d : DataW H) : 1 ≤ Rows.uptoBulk d := by
  cases d with
  | lit l => cases l <;> simp [Rows.uptoBulk]
  | _ => simp [Rows.uptoBulk]
theorem bulk_len : ∀ ds : List (DataW H), ds.length ≤ Rows.uptoBulkAll ds
  | [] => Nat.zero_le _
  | d :: ds => by
    have h1 := bulk_pos d
    have h2 := bulk_len ds
    simp only [Rows.uptoBulkAll, List.length_cons]
    omega
theorem bulk_mem {d : DataW H} : ∀ {ds : List (DataW H)}, d ∈ ds → Rows.uptoBulk d ≤ Rows.uptoBulkAll ds
  | e :: ds, h => by
    simp only [Rows.uptoBulkAll]
    rcases List.mem_cons.1 h with rfl | h
    · omega
    · have := bulk_mem h
      omega
theorem rd_file : Rd enc Try.prog W sp 25 fileE (fun a d => BytesAt W a.2.2.1 a.2.2.2 ∧ a.2.2.2.length ≤ Rows.uptoBulk d) := fun fuel cs x h => by
  obtain ⟨a, h1, d0, d1, d2, hd, _, _, h2⟩ := rd_struct3 (R0 := _) (R1 := _) (R2 := _) Try.underlying25 cFile ⟨rfl, cStr⟩ ⟨rfl, cBool⟩ ⟨rfl, cBytes⟩ (rd_string Try.underlying9) (rd_bool Try.underlying4) rd_bytes16 fuel cs x h
  refine ⟨a, h1, h2.1, ?_⟩
  rw [hd]
  have h5 : Rows.uptoBulk d2 ≤ Rows.uptoBulkAll [d0, d1, d2] := bulk_mem (by simp)
  simp only [Rows.uptoBulk]
  rcases h2.2.2 with ⟨h3, h4⟩ | ⟨ds, rest, h3, h4⟩
  · rw [h4]; exact Nat.zero_le _
  · rw [← h4]
    have h6 : Rows.uptoBulk d2 = Rows.uptoBulkAll ds + Rows.uptoBulkAll rest + 1 := by rw [h3]; simp only [Rows.uptoBulk]
    have := bulk_len ds
    omega
theorem acts_of {R : ActV → DataW H → Prop} (hR : ∀ a d, R a d → BytesAt W a.2.2.2.1 a.2.2.2.2) {v : Value} {l : List ActV} {d : DataW H} (h : SlR W 4 actE R (v, l) d) : ActsAt W v (l.map toAc) := by
  obtain ⟨h1, _, h3, _⟩ := h
  refine ⟨l.map fun a => (toAc a, a.2.2.2.1), by simp, ?_, fun f hf => ?_⟩
  · have e : (l.map fun a => (toAc a, a.2.2.2.1)).flatMap aC = l.flatMap actE := by rw [List.flatMap_map]; rfl
    rw [e, List.length_map]; exact h1
  · obtain ⟨a, ha, rfl⟩ := List.mem_map.1 hf
    obtain ⟨_, d', hd⟩ := h3 a ha
    exact hR a d' hd
theorem files_bulk {v : Value} {l : List FileV} {d : DataW H} (h : SlR W 3 fileE (fun a d => BytesAt W a.2.2.1 a.2.2.2 ∧ a.2.2.2.length ≤ Rows.uptoBulk d) (v, l) d) (hb : Rows.uptoBulk d ≤ 1048576) : (l.map toRaw).length ≤ 1099511627776 ∧ ∀ x ∈ l.map toRaw, x.2.2.length ≤ 1099511627776 := by
  obtain ⟨_, _, h3, h4⟩ := h
  simp only at h3 h4
  rcases h4 with ⟨_, rfl⟩ | ⟨ds, rest, rfl, h5, h6⟩
  · simp
  · simp only [Rows.uptoBulk] at hb
    have h7 := bulk_len ds
    refine ⟨by rw [List.length_map]; omega, fun x hx => ?_⟩
    obtain ⟨a, ha, rfl⟩ := List.mem_map.1 hx
    obtain ⟨i, hi⟩ := List.mem_iff_getElem?.1 ha
    obtain ⟨d', hd⟩ := get_lt (l := ds) (q := i) (by have := (List.getElem?_eq_some_iff.1 hi).1; omega)
    have h8 := (h6 i a d' hi hd).2
    have h9 := bulk_mem (List.mem_of_getElem? hd)
    show a.2.2.2.length ≤ _
    omega
theorem files_of {R : FileV → DataW H → Prop} (hR : ∀ a d, R a d → BytesAt W a.2.2.1 a.2.2.2) {v : Value} {l : List FileV} {d : DataW H} (h : SlR W 3 fileE R (v, l) d) : FilesAt W v (l.map toRaw) := by
  obtain ⟨h1, _, h3, _⟩ := h
  refine ⟨l.map fun a => (toRaw a, a.2.2.1), by rw [List.map_map]; rfl, ?_, fun f hf => ?_⟩
  · have e : fCs (l.map fun a => (toRaw a, a.2.2.1)) = l.flatMap fileE := by unfold fCs; rw [List.flatMap_map]; rfl
    rw [e, List.length_map]; exact h1
  · obtain ⟨a, ha, rfl⟩ := List.mem_map.1 hf
    obtain ⟨_, d', hd⟩ := h3 a ha
    have hb := hR a d' hd
    obtain ⟨p, c, hs⟩ := hb.shape
    exact ⟨hb, by simp only; rw [hs]; rfl⟩
end
end Go.Proofs.Ytccfmfehfhfhhaa
