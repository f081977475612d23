/-
  Texts that belong together, laid into one file: O43, O44, U34, O45, O46, U35, O47, U36, FwT, R19.
-/
import Derived.Test.YtigfbpbnohkokaaGreatQ6
namespace Go.Proofs.YtigfbpbnohkokaaGreat
open Go Go.Fw Go.RowKit Go.Proofs
set_option linter.unusedVariables false
set_option linter.unusedSimpArgs false
set_option maxRecDepth 100000
set_option maxHeartbeats 4000000

-- (valise/valiseref19.FS).open
theorem fopen_c {w00 w0 : World} {X L : List (Nat × Obj)} {u hv : Value} {l : List Raw} {hl : List Opn} {who : Int} {o : OpS} {dv : Value} (M : Sep w00 (X ++ L) w0) (hF : FilesK w00 L u l) (hO : OpnK w00 L hv hl) (hI : RI l hl) (hlen : hl.length ≤ 1000) (hdv : dv.oneCell' = true) (hw : 0 ≤ who ∧ who < 8) : Ret Tryz.prog 51 #[.agg #[u, hv], .int .i64 who, .agg (opC o dv).toArray] w0 (RfP w00 L X hl (openS l (hfL hl) who o)) := by
 obtain ⟨pu, cu, rfl⟩ := (hF.at_ M (fun y hy => mR hy)).shape
 obtain ⟨ph, chh, rfl⟩ := Sg.shape (hO _ _ M (fun y hy => mR hy))
 have hT := hI.tr
 have hll := hI.le
 have hus := hI.us
 refine Ret.of_W Tryz.func51 rfl Tryz.ntmps51 rfl ?_
 refine go 1 ?_
 intro bbx1 _ M
 refine go 1 ?_
 intro bbx2 _ M
 refine go 1 ?_
 intro bal1 _ M
 refine go 1 ?_
 intro bal2 _ M
 refine go 1 ?_
 refine x_call rfl rfl rfl rfl rfl en29 (rhdls_c (hO _ _ M (fun y hy => by simp [hy])) (by omega)) ?_
 rintro r_ w1 ⟨L1, hi1, M1⟩
 obtain ⟨p1, c1, rfl⟩ := hi1.shape
 have M := M.new M1.frm
 refine ⟨trivial, ?_⟩
 refine cnd 2 ?_ ?_
 ·intro hco1
  have hS : openS l (hfL hl) who o = (badS 7, l, hfL hl) := by unfold openS; rw [low_full.1 (by omega)]
  refine go 0 ?_
  refine W.regD (by kernel_rfl) #[0, 0, 3, 7] [(0, false), (1, true), (2, true), (3, true)] (by kernel_rfl) ?_
  intro K wD1 hK hwD1
  have M := M.drew hwD1
  refine go 1 ?_
  refine x_call rfl rfl rfl rfl rfl en50 (rbad_c) ?_
  rintro r_ wcall2 ⟨rfl, hncall2⟩
  have M := M.new hncall2
  refine pnd ?_
  refine x_st [_, _] _ rfl rfl rfl sz70 rfl rfl rfl rfl (by first | exact M.at_ 0 rfl | exact M.at_ 1 rfl | exact M.at_ 2 rfl | exact M.at_ 3 rfl | exact M.at_ 4 rfl | exact M.at_ 5 rfl | exact M.at_ 6 rfl | exact M.at_ 7 rfl) rfl rfl rfl ?_
  intro wst1 hwst1
  have M := by first | exact M.put 0 rfl hwst1 | exact M.put 1 rfl hwst1 | exact M.put 2 rfl hwst1 | exact M.put 3 rfl hwst1 | exact M.put 4 rfl hwst1 | exact M.put 5 rfl hwst1 | exact M.put 6 rfl hwst1 | exact M.put 7 rfl hwst1
  refine pnd ?_
  refine x_st [_, _, _, _, _] _ rfl rfl rfl sz49 rfl rfl rfl rfl (by first | exact M.at_ 0 rfl | exact M.at_ 1 rfl | exact M.at_ 2 rfl | exact M.at_ 3 rfl | exact M.at_ 4 rfl | exact M.at_ 5 rfl | exact M.at_ 6 rfl | exact M.at_ 7 rfl) rfl rfl rfl ?_
  intro wst2 hwst2
  have M := by first | exact M.put 0 rfl hwst2 | exact M.put 1 rfl hwst2 | exact M.put 2 rfl hwst2 | exact M.put 3 rfl hwst2 | exact M.put 4 rfl hwst2 | exact M.put 5 rfl hwst2 | exact M.put 6 rfl hwst2 | exact M.put 7 rfl hwst2
  refine pnd ?_
  refine go 1 ?_
  exact RfP.bad hS hF hO hI M.tail.tail.tail.tail
 ·intro hco1
  obtain ⟨i, hlow⟩ := low_has (hf := hfL hl) (who := who) (by omega)
  obtain ⟨hi16, hfi, hfk⟩ := low_spec hlow
  refine go 1 ?_
  refine x_call rfl rfl rfl rfl rfl en84 (rclean_c) ?_
  rintro r_ w3 ⟨rfl, hn3⟩
  have M := M.new hn3
  refine ⟨trivial, ?_⟩
  refine cnd 1 ?_ ?_
  ·intro hco2
   have hS : openS l (hfL hl) who o = (badS (cleanP o.p).2, l, hfL hl) := by unfold openS; rw [hlow]; simp only; rw [if_neg hco2]
   refine go 0 ?_
   refine W.regD (by kernel_rfl) #[0, 0, 2, 7, 15] [(0, false), (1, false), (2, true), (3, true), (4, true)] (by kernel_rfl) ?_
   intro K wD2 hK hwD2
   have M := M.drew hwD2
   refine go 1 ?_
   refine x_call rfl rfl rfl rfl rfl en50 (rbad_c) ?_
   rintro r_ wcall4 ⟨rfl, hncall4⟩
   have M := M.new hncall4
   refine pnd ?_
   refine x_st [_, _] _ rfl rfl rfl sz70 rfl rfl rfl rfl (by first | exact M.at_ 0 rfl | exact M.at_ 1 rfl | exact M.at_ 2 rfl | exact M.at_ 3 rfl | exact M.at_ 4 rfl | exact M.at_ 5 rfl | exact M.at_ 6 rfl | exact M.at_ 7 rfl) rfl rfl rfl ?_
   intro wst3 hwst3
   have M := by first | exact M.put 0 rfl hwst3 | exact M.put 1 rfl hwst3 | exact M.put 2 rfl hwst3 | exact M.put 3 rfl hwst3 | exact M.put 4 rfl hwst3 | exact M.put 5 rfl hwst3 | exact M.put 6 rfl hwst3 | exact M.put 7 rfl hwst3
   refine pnd ?_
   refine x_st [_, _, _, _, _] _ rfl rfl rfl sz49 rfl rfl rfl rfl (by first | exact M.at_ 0 rfl | exact M.at_ 1 rfl | exact M.at_ 2 rfl | exact M.at_ 3 rfl | exact M.at_ 4 rfl | exact M.at_ 5 rfl | exact M.at_ 6 rfl | exact M.at_ 7 rfl) rfl rfl rfl ?_
   intro wst4 hwst4
   have M := by first | exact M.put 0 rfl hwst4 | exact M.put 1 rfl hwst4 | exact M.put 2 rfl hwst4 | exact M.put 3 rfl hwst4 | exact M.put 4 rfl hwst4 | exact M.put 5 rfl hwst4 | exact M.put 6 rfl hwst4 | exact M.put 7 rfl hwst4
   refine pnd ?_
   refine go 1 ?_
   exact RfP.bad hS hF hO hI M.tail.tail.tail.tail
  ·intro hco2
   have htl : (cleanP o.p).1.length ≤ 120 := by
    obtain ⟨k_, _, _, h3, h4⟩ := clean_ok hco2
    rw [h4]; exact h3
   refine go 1 ?_
   refine x_call rfl rfl rfl rfl rfl en85 (rfind_x (p := (cleanP o.p).1) (X := _ :: _ :: _ :: _ :: X) M hF (by omega)) ?_
   rintro r_ w5 ⟨pf, cf, rfl, hbf, hn5⟩
   have M := M.new hn5
   refine ⟨trivial, ?_⟩
   refine go 1 ?_
   intro bal3 _ M
   refine go 1 ?_
   intro _ M
   refine go 2 ?_
   intro bal4 _ M
   refine go 1 ?_
   intro _ M
   refine gs 0 0 ?_
   refine W.seqC (fun F' w' => ∃ eO lO dO nmx dvx pu2 cu2 L2, F' = [(1, .int .i64 who), (3, ptr bbx1), (5, ptr bbx2), (6, ptr bal1), (7, ptr bal2), (8, strV (cleanP o.p).1), (9, .int .i64 eO), (10, ptr bal3), (11, ptr bal4)] ∧ OpnC l o eO lO dO ∧ FilesK w00 (L ++ L2) (.slice pu2 lO.length cu2) lO ∧ Sep w00 (((bal4, .cells [.slice pu2 lO.length cu2].toArray 31 (0, 0)) :: (bal3, .cells [strV nmx, .bool dO, dvx].toArray 29 (0, 0)) :: (bal2, .cells [.int .i64 0, .int .i64 0, .int .i64 0, .slice none 0 0, .slice none 0 0].toArray 49 (0, 0)) :: (bal1, .cells [.slice none 0 0, .slice none 0 0].toArray 70 (0, 0)) :: (bbx2, .cells (opC o dv).toArray 52 (0, 0)) :: (bbx1, .cells [.slice pu l.length cu, .slice ph hl.length chh].toArray 70 (0, 0)) :: X) ++ (L ++ L2)) w') ?_ ?_
   ·refine spl 1 42 ?_ ?_
    ·intro hsp1
     refine cnd 1 ?_ ?_
     ·intro hco3
      refine go 1 ?_
      refine x_call rfl rfl rfl rfl rfl en86 (rput_x (p := (cleanP o.p).1) (b := []) (X := _ :: _ :: _ :: _ :: _ :: _ :: X) M hF (by omega) (fun y hy => by have := (hT.row hy).2.2.1; omega) (by omega) (nilS (by decide))) ?_
      rintro r_ w6 ⟨u6, L6, rfl, hF6, M⟩
      obtain ⟨pu6, cu6, rfl⟩ := (hF6.at_ M (fun y hy => mR hy)).shape
      refine ⟨trivial, ?_⟩
      refine go 1 ?_
      intro _ M
      refine go 2 ?_
      intro _ M
      refine go 0 ?_
      refine At.sub [(1, _), (3, _), (5, _), (6, _), (7, _), (8, _), (9, _), (10, _), (11, _)] ⟨rfl, rfl, rfl, rfl, rfl, rfl, rfl, rfl, rfl, trivial⟩ ?_
      refine At.cut_n ?_
      exact ⟨_, _, false, [], _, pu6, cu6, L6, rfl, .inl ⟨hsp1, hco3, rfl, rfl, rfl⟩, hF6, M⟩
     ·intro hco3
      refine go 0 ?_
      refine At.sub [(1, _), (3, _), (5, _), (6, _), (7, _), (8, _), (9, _), (10, _), (11, _)] ⟨rfl, rfl, rfl, rfl, rfl, rfl, rfl, rfl, rfl, trivial⟩ ?_
      refine At.cut_n ?_
      exact ⟨_, l, _, _, _, pu, cu, [], rfl, .inr ⟨fun h => absurd (h.2.symm.trans hco3) (by decide), rfl, rfl, rfl⟩, by rw [List.append_nil]; exact hF, by rw [List.append_nil]; exact M⟩
    ·intro hsp1
     refine go 0 ?_
     refine At.sub [(1, _), (3, _), (5, _), (6, _), (7, _), (8, _), (9, _), (10, _), (11, _)] ⟨rfl, rfl, rfl, rfl, rfl, rfl, rfl, rfl, rfl, trivial⟩ ?_
     refine At.cut_n ?_
     exact ⟨_, l, _, _, _, pu, cu, [], rfl, .inr ⟨fun h => hsp1 h.1, rfl, rfl, rfl⟩, by rw [List.append_nil]; exact hF, by rw [List.append_nil]; exact M⟩
   rintro F1 wc ⟨eO, lO, dO, nmx, dvx, pu2, cu2, L2, rfl, hcas, hF2, M⟩
   refine cnd 1 ?_ ?_
   ·intro hco5
    refine go 0 ?_
    refine W.regD (by kernel_rfl) #[0, 0, 2, 7, 15] [(0, false), (1, false), (2, true), (3, true), (4, true)] (by kernel_rfl) ?_
    intro K wD3 hK hwD3
    have M := M.drew hwD3
    refine go 1 ?_
    refine x_call rfl rfl rfl rfl rfl en50 (rbad_c) ?_
    rintro r_ wcall7 ⟨rfl, hncall7⟩
    have M := M.new hncall7
    refine pnd ?_
    refine x_st [_, _] _ rfl rfl rfl sz70 rfl rfl rfl rfl (by first | exact M.at_ 0 rfl | exact M.at_ 1 rfl | exact M.at_ 2 rfl | exact M.at_ 3 rfl | exact M.at_ 4 rfl | exact M.at_ 5 rfl | exact M.at_ 6 rfl | exact M.at_ 7 rfl) rfl rfl rfl ?_
    intro wst9 hwst9
    have M := by first | exact M.put 0 rfl hwst9 | exact M.put 1 rfl hwst9 | exact M.put 2 rfl hwst9 | exact M.put 3 rfl hwst9 | exact M.put 4 rfl hwst9 | exact M.put 5 rfl hwst9 | exact M.put 6 rfl hwst9 | exact M.put 7 rfl hwst9
    refine pnd ?_
    refine x_st [_, _, _, _, _] _ rfl rfl rfl sz49 rfl rfl rfl rfl (by first | exact M.at_ 0 rfl | exact M.at_ 1 rfl | exact M.at_ 2 rfl | exact M.at_ 3 rfl | exact M.at_ 4 rfl | exact M.at_ 5 rfl | exact M.at_ 6 rfl | exact M.at_ 7 rfl) rfl rfl rfl ?_
    intro wst10 hwst10
    have M := by first | exact M.put 0 rfl hwst10 | exact M.put 1 rfl hwst10 | exact M.put 2 rfl hwst10 | exact M.put 3 rfl hwst10 | exact M.put 4 rfl hwst10 | exact M.put 5 rfl hwst10 | exact M.put 6 rfl hwst10 | exact M.put 7 rfl hwst10
    refine pnd ?_
    refine go 1 ?_
    exact RfP.same (hcas.bad hlow hco2 hco5) RsK.bad hF hO hI M.tail.tail.tail.tail.tail.tail
   ·intro hco5
    subst hco5
    refine cnd 1 ?_ ?_
    ·intro hco6
     subst hco6
     refine go 0 ?_
     refine W.regD (by kernel_rfl) #[0, 0, 3, 7] [(0, false), (1, true), (2, true), (3, true)] (by kernel_rfl) ?_
     intro K wD4 hK hwD4
     have M := M.drew hwD4
     refine go 1 ?_
     refine x_call rfl rfl rfl rfl rfl en50 (rbad_c) ?_
     rintro r_ wcall8 ⟨rfl, hncall8⟩
     have M := M.new hncall8
     refine pnd ?_
     refine x_st [_, _] _ rfl rfl rfl sz70 rfl rfl rfl rfl (by first | exact M.at_ 0 rfl | exact M.at_ 1 rfl | exact M.at_ 2 rfl | exact M.at_ 3 rfl | exact M.at_ 4 rfl | exact M.at_ 5 rfl | exact M.at_ 6 rfl | exact M.at_ 7 rfl) rfl rfl rfl ?_
     intro wst11 hwst11
     have M := by first | exact M.put 0 rfl hwst11 | exact M.put 1 rfl hwst11 | exact M.put 2 rfl hwst11 | exact M.put 3 rfl hwst11 | exact M.put 4 rfl hwst11 | exact M.put 5 rfl hwst11 | exact M.put 6 rfl hwst11 | exact M.put 7 rfl hwst11
     refine pnd ?_
     refine x_st [_, _, _, _, _] _ rfl rfl rfl sz49 rfl rfl rfl rfl (by first | exact M.at_ 0 rfl | exact M.at_ 1 rfl | exact M.at_ 2 rfl | exact M.at_ 3 rfl | exact M.at_ 4 rfl | exact M.at_ 5 rfl | exact M.at_ 6 rfl | exact M.at_ 7 rfl) rfl rfl rfl ?_
     intro wst12 hwst12
     have M := by first | exact M.put 0 rfl hwst12 | exact M.put 1 rfl hwst12 | exact M.put 2 rfl hwst12 | exact M.put 3 rfl hwst12 | exact M.put 4 rfl hwst12 | exact M.put 5 rfl hwst12 | exact M.put 6 rfl hwst12 | exact M.put 7 rfl hwst12
     refine pnd ?_
     refine go 1 ?_
     exact RfP.same (hcas.dir hlow hco2) RsK.bad hF hO hI M.tail.tail.tail.tail.tail.tail
    ·intro hco6
     subst hco6
     refine go 0 ?_
     refine W.loop (σ := Nat) (fun m => [(1, _), (3, _), (5, _), (6, _), (7, _), (8, _), (11, _), (12, .int .i64 ((m + 1 : Nat) : Int))]) (fun m w => m ≤ i ∧ Sep w00 (((bal4, .cells [.slice pu2 lO.length cu2].toArray 31 (0, 0)) :: (bal3, .cells [strV nmx, .bool false, dvx].toArray 29 (0, 0)) :: (bal2, .cells [.int .i64 0, .int .i64 0, .int .i64 0, .slice none 0 0, .slice none 0 0].toArray 49 (0, 0)) :: (bal1, .cells [.slice none 0 0, .slice none 0 0].toArray 70 (0, 0)) :: (bbx2, .cells (opC o dv).toArray 52 (0, 0)) :: (bbx1, .cells [.slice pu l.length cu, .slice ph hl.length chh].toArray 70 (0, 0)) :: X) ++ (L ++ L2)) w) (fun m => i - m) 0 ⟨rfl, rfl, rfl, rfl, rfl, rfl, rfl, rfl, trivial⟩ ⟨Nat.zero_le _, M⟩ ?_
     rintro m w ⟨hm, M⟩
     refine go 1 ?_
     refine x_call rfl rfl rfl rfl rfl en55 (rat_c (hO _ _ M (fun y hy => by simp [hy])) (by omega)) ?_
     rintro r_ w9 ⟨rfl, hn9⟩
     have M := M.new hn9
     have hat := atO_some (hl := hl) (who := who) (n := ((m + 1 : Nat) : Int))
     refine ⟨trivial, ?_⟩
     refine cnd 1 ?_ ?_
     ·intro hco7
      have hsm : (hfL hl who ((m : Int) + 1)).isSome = true := by have := hat.1 (by omega); simpa using this
      have hmi : m ≠ i := by rintro rfl; rw [hfi] at hsm; cases hsm
      refine go 0 ?_
      refine x_add ((m + 1 + 1 : Nat) : Int) rfl rfl rfl rfl rfl (by rw [wadd (by omega) (by omega)]; omega) ?_
      refine go 0 ?_
      exact At.back (m + 1) ⟨rfl, rfl, rfl, rfl, rfl, rfl, rfl, rfl, trivial⟩ ⟨by omega, M⟩ (by first | omega | (simp only; omega) | (simp; done) | (simp; omega))
     ·intro hco7
      have hmi : m = i := by
       rcases Nat.lt_or_ge m i with h | h
       ·have h2 := hfk m h
        have := hat.2 (by simpa using h2)
        omega
       ·omega
      refine gs 0 0 ?_
      refine W.seqC (fun F' w' => ∃ ph' ch' L', F' = [(6, ptr bal1), (7, ptr bal2)] ∧ OpnK w00 (L ++ L') (.slice ph' (hl ++ [(who, ((m + 1 : Nat) : Int), (cleanP o.p).1, o.w)]).length ch') (hl ++ [(who, ((m + 1 : Nat) : Int), (cleanP o.p).1, o.w)]) ∧ FilesK w00 (L ++ L') (.slice pu2 lO.length cu2) lO ∧ Sep w00 (((bal4, .cells [.slice pu2 lO.length cu2].toArray 31 (0, 0)) :: (bal3, .cells [strV nmx, .bool false, dvx].toArray 29 (0, 0)) :: (bal2, .cells [.int .i64 0, .int .i64 ((m + 1 : Nat) : Int), .int .i64 0, .slice none 0 0, .slice none 0 0].toArray 49 (0, 0)) :: (bal1, .cells [.slice pu2 lO.length cu2, .slice ph' (hl ++ [(who, ((m + 1 : Nat) : Int), (cleanP o.p).1, o.w)]).length ch'].toArray 70 (0, 0)) :: (bbx2, .cells (opC o dv).toArray 52 (0, 0)) :: (bbx1, .cells [.slice pu l.length cu, .slice ph hl.length chh].toArray 70 (0, 0)) :: X) ++ (L ++ L')) w') ?_ ?_
      ·refine go 0 ?_
       refine W.regT (by kernel_rfl) #[0, 0, 0, 4, 14, 0, 0, 0, 0, 256, 992, 2016, 4094, 8191, 0, 16384, 16383, 131071] (.par [(0, false), (2, false), (3, false), (5, false), (6, false), (7, false), (8, false), (9, false), (10, false), (14, false), (15, false)] 1 (.two [] 4 [(11, true)] 11 [(4, true)] (.leaf [(12, true), (13, false), (16, true), (17, true)])) 11 (.leaf [(1, true), (4, true), (12, true), (13, false), (16, true), (17, true)])) (by kernel_rfl) ?_
       intro K wD5 hK hwD5
       have M := M.drew hwD5
       refine ExT.par ?_
       refine go 5 ?_
       refine Ex.fork ?_
       refine ⟨?_, ?_⟩
       ·refine x_bs0 rfl rfl rfl Tryz.underlying68 sz123 ?_
        intro bb0 wbs1 hbbs1 hwbs1
        have M := M.acons hbbs1 hwbs1
        refine ⟨⟨.inr (cell_of (M.get (b := bbx2) (o := (bbx2, .cells (opC o dv).toArray 52 (0, 0)).2) (by simp)) rfl), .inr (cell_of (M.get (b := bbx1) (o := (bbx1, .cells [.slice pu l.length cu, .slice ph hl.length chh].toArray 70 (0, 0)).2) (by simp)) rfl), .inr ⟨_, _, _, (M.get (b := bal4) (o := (bal4, .cells [.slice pu2 lO.length cu2].toArray 31 (0, 0)).2) (by simp)), rfl⟩, trivial⟩, ?_⟩
        refine Ex.fork ?_
        refine ExT.two ?_
        refine Ex.fork ?_
        refine Ex.join (fun F' T' w' => ∃ Lo p6 c6 bB R2 R3, T' = [(9, R3), (3, R2), (0, fun w' => RowAt w' bal4 0 [.slice pu2 lO.length cu2])] ∧ F' = [(6, ptr bal1), (7, ptr bal2), (70, .agg #[.slice pu2 lO.length cu2]), (74, .slice p6 hl.length c6), (81, .slice (some ⟨bB, 0, none⟩) 1 1), (85, .agg #[.int .i64 0, .int .i64 ((m + 1 : Nat) : Int), .int .i64 0, .slice none 0 0, .slice none 0 0])] ∧ OwL Lo (.slice p6 hl.length c6) 4 hl.length (oCs hl) ∧ Sep w00 (Lo ++ ((bB, .cells (oR (who, ((m + 1 : Nat) : Int), (cleanP o.p).1, o.w)).toArray 123 (0, 0)) :: (((bal4, .cells [.slice pu2 lO.length cu2].toArray 31 (0, 0)) :: (bal3, .cells [strV nmx, .bool false, dvx].toArray 29 (0, 0)) :: (bal2, .cells [.int .i64 0, .int .i64 0, .int .i64 0, .slice none 0 0, .slice none 0 0].toArray 49 (0, 0)) :: (bal1, .cells [.slice none 0 0, .slice none 0 0].toArray 70 (0, 0)) :: (bbx2, .cells (opC o dv).toArray 52 (0, 0)) :: (bbx1, .cells [.slice pu l.length cu, .slice ph hl.length chh].toArray 70 (0, 0)) :: X) ++ (L ++ L2)))) w') ?_ ?_ ?_
        ·have hOA := hO _ _ M (fun y hy => by simp [hy])
         refine x_apL (L := [_]) (cs := []) (nn := 0) rfl rfl rfl rfl Tryz.underlying68 sz123 ze123 rfl by123 rfl rfl (.inr ⟨bb0, 0, [], _, rfl, rfl, rfl, rfl⟩) M (by simp) (hOA.src Tryz.underlying68 (oCs_one _)) (by omega) (by decide) (by omega) ?_
         intro Lo v6 w6 how M
         rw [Nat.zero_add, List.nil_append] at how
         obtain ⟨p6, c6, rfl⟩ := how.shape
         refine ⟨⟨.inr (cell_of (M.get (b := bbx2) (o := (bbx2, .cells (opC o dv).toArray 52 (0, 0)).2) (by simp)) rfl), .inl (by kernel_rfl), .inr ⟨_, _, _, (M.get (b := bal4) (o := (bal4, .cells [.slice pu2 lO.length cu2].toArray 31 (0, 0)).2) (by simp)), rfl⟩, trivial⟩, ?_⟩
         refine x_bs1 (cs := (oR (who, ((m + 1 : Nat) : Int), (cleanP o.p).1, o.w))) rfl rfl rfl Tryz.underlying68 sz123 ze123 (Z := [_, _, _, _]) rfl rfl (by decide) (by decide) rfl rfl rfl ?_
         intro bB wbs2 hbbs2 hwbs2
         have M := M.acons hbbs2 hwbs2
         refine ⟨⟨.inl (by kernel_rfl), .inr (cell_of (M.get (b := bbx1) (o := (bbx1, .cells [.slice pu l.length cu, .slice ph hl.length chh].toArray 70 (0, 0)).2) (by simp)) rfl), .inr ⟨_, _, _, (M.get (b := bal4) (o := (bal4, .cells [.slice pu2 lO.length cu2].toArray 31 (0, 0)).2) (by simp)), rfl⟩, trivial⟩, ?_⟩
         refine Ex.forkS [(6, _), (7, _), (70, _), (74, _), (81, _), (85, _)] ⟨rfl, rfl, rfl, rfl, rfl, rfl, trivial⟩ ?_
         have M : Sep w00 ((bB, .cells (oR (who, ((m + 1 : Nat) : Int), (cleanP o.p).1, o.w)).toArray 123 (0, 0)) :: (Lo ++ (((bal4, .cells [.slice pu2 lO.length cu2].toArray 31 (0, 0)) :: (bal3, .cells [strV nmx, .bool false, dvx].toArray 29 (0, 0)) :: (bal2, .cells [.int .i64 0, .int .i64 0, .int .i64 0, .slice none 0 0, .slice none 0 0].toArray 49 (0, 0)) :: (bal1, .cells [.slice none 0 0, .slice none 0 0].toArray 70 (0, 0)) :: (bbx2, .cells (opC o dv).toArray 52 (0, 0)) :: (bbx1, .cells [.slice pu l.length cu, .slice ph hl.length chh].toArray 70 (0, 0)) :: X) ++ (L ++ L2)))) _ := M
         exact ⟨Lo, p6, c6, bB, _, _, rfl, rfl, how, M.perm (perm_c fun p => by simp only [List.countP_append, List.countP_cons]; omega)⟩
        ·refine x_bs1 (cs := (oR (who, ((m + 1 : Nat) : Int), (cleanP o.p).1, o.w))) rfl rfl rfl Tryz.underlying68 sz123 ze123 (Z := [_, _, _, _]) rfl rfl (by decide) (by decide) rfl rfl rfl ?_
         intro bB wbs3 hbbs3 hwbs3
         have M := M.acons hbbs3 hwbs3
         refine ⟨⟨.inl (by kernel_rfl), .inr (cell_of (M.get (b := bbx1) (o := (bbx1, .cells [.slice pu l.length cu, .slice ph hl.length chh].toArray 70 (0, 0)).2) (by simp)) rfl), .inr ⟨_, _, _, (M.get (b := bal4) (o := (bal4, .cells [.slice pu2 lO.length cu2].toArray 31 (0, 0)).2) (by simp)), rfl⟩, trivial⟩, ?_⟩
         have M := M.perm (List.Perm.swap _ _ _)
         have hOA := hO _ _ M (fun y hy => by simp [hy])
         refine x_apL (L := [_]) (cs := []) (nn := 0) rfl rfl rfl rfl Tryz.underlying68 sz123 ze123 rfl by123 rfl rfl (.inr ⟨bb0, 0, [], _, rfl, rfl, rfl, rfl⟩) M (by simp) (hOA.src Tryz.underlying68 (oCs_one _)) (by omega) (by decide) (by omega) ?_
         intro Lo v6 w6 how M
         rw [Nat.zero_add, List.nil_append] at how
         obtain ⟨p6, c6, rfl⟩ := how.shape
         refine ⟨⟨.inr (cell_of (M.get (b := bbx2) (o := (bbx2, .cells (opC o dv).toArray 52 (0, 0)).2) (by simp)) rfl), .inl (by kernel_rfl), .inr ⟨_, _, _, (M.get (b := bal4) (o := (bal4, .cells [.slice pu2 lO.length cu2].toArray 31 (0, 0)).2) (by simp)), rfl⟩, trivial⟩, ?_⟩
         refine Ex.forkS [(6, _), (7, _), (70, _), (74, _), (81, _), (85, _)] ⟨rfl, rfl, rfl, rfl, rfl, rfl, trivial⟩ ?_
         exact ⟨Lo, p6, c6, bB, _, _, rfl, rfl, how, M⟩
        rintro F1 T1 wf ⟨Lo, p6, c6, bB, R2, R3, rfl, rfl, how, M⟩
        refine ExT.leaf ?_
        have hsB : Sl wf (.slice (some ⟨bB, 0, none⟩) 1 1) 4 1 (oR (who, ((m + 1 : Nat) : Int), (cleanP o.p).1, o.w)) := .inr ⟨bB, 0, 1, _, _, _, rfl, Nat.le_refl _, M.get (b := bB) (o := .cells (oR (who, ((m + 1 : Nat) : Int), (cleanP o.p).1, o.w)).toArray 123 (0, 0)) (by simp), rfl, rfl⟩
        refine x_apL (L := Lo) (cs := oCs hl) rfl rfl rfl rfl Tryz.underlying68 sz123 ze123 rfl by123 rfl rfl how M (oCs_one _) (hsB.src Tryz.underlying68 (by intro u_ hu_; exact oCs_one [(who, ((m + 1 : Nat) : Int), (cleanP o.p).1, o.w)] u_ (by simpa [oCs] using hu_))) (by omega) (by decide) (by omega) ?_
        intro L3 v3 w3 ho3 M
        have ho3 : OwL L3 v3 4 (hl ++ [(who, ((m + 1 : Nat) : Int), (cleanP o.p).1, o.w)]).length (oCs (hl ++ [(who, ((m + 1 : Nat) : Int), (cleanP o.p).1, o.w)])) := by
         rw [List.length_append, oCs_app]
         exact ho3
        obtain ⟨p3, c3, rfl⟩ := ho3.shape
        have M : Sep w00 (((bal4, .cells [.slice pu2 lO.length cu2].toArray 31 (0, 0)) :: (bal3, .cells [strV nmx, .bool false, dvx].toArray 29 (0, 0)) :: (bal2, .cells [.int .i64 0, .int .i64 0, .int .i64 0, .slice none 0 0, .slice none 0 0].toArray 49 (0, 0)) :: (bal1, .cells [.slice none 0 0, .slice none 0 0].toArray 70 (0, 0)) :: (bbx2, .cells (opC o dv).toArray 52 (0, 0)) :: (bbx1, .cells [.slice pu l.length cu, .slice ph hl.length chh].toArray 70 (0, 0)) :: X) ++ (L ++ (L2 ++ (L3 ++ [(bB, .cells (oR (who, ((m + 1 : Nat) : Int), (cleanP o.p).1, o.w)).toArray 123 (0, 0))])))) w3 := M.perm (perm_c fun p => by simp only [List.countP_append, List.countP_cons, List.countP_nil]; omega)
        have hF3 := hF2.mono (L' := L ++ (L2 ++ (L3 ++ [(bB, .cells (oR (who, ((m + 1 : Nat) : Int), (cleanP o.p).1, o.w)).toArray 123 (0, 0))]))) (fun y hy => by simp only [List.mem_append] at hy ⊢; rcases hy with hy | hy <;> simp [hy])
        have hO3 : OpnK w00 (L ++ (L2 ++ (L3 ++ [(bB, .cells (oR (who, ((m + 1 : Nat) : Int), (cleanP o.p).1, o.w)).toArray 123 (0, 0))]))) (.slice p3 (hl ++ [(who, ((m + 1 : Nat) : Int), (cleanP o.p).1, o.w)]).length c3) (hl ++ [(who, ((m + 1 : Nat) : Int), (cleanP o.p).1, o.w)]) := SgK.own ho3 (by decide) (fun y hy => by simp [hy])
        refine ⟨⟨.inl (by kernel_rfl), .inl (by kernel_rfl), .inr ⟨_, _, _, (M.get (b := bal4) (o := (bal4, .cells [.slice pu2 lO.length cu2].toArray 31 (0, 0)).2) (by simp)), rfl⟩, trivial⟩, ?_⟩
        refine go 1 ?_
        refine x_st [_, _] _ rfl rfl rfl sz70 rfl rfl rfl rfl (by first | exact M.at_ 0 rfl | exact M.at_ 1 rfl | exact M.at_ 2 rfl | exact M.at_ 3 rfl | exact M.at_ 4 rfl | exact M.at_ 5 rfl | exact M.at_ 6 rfl | exact M.at_ 7 rfl) rfl rfl rfl ?_
        intro wst13 hwst13
        have M := by first | exact M.put 0 rfl hwst13 | exact M.put 1 rfl hwst13 | exact M.put 2 rfl hwst13 | exact M.put 3 rfl hwst13 | exact M.put 4 rfl hwst13 | exact M.put 5 rfl hwst13 | exact M.put 6 rfl hwst13 | exact M.put 7 rfl hwst13
        refine pnd ?_
        refine x_st [_, _, _, _, _] _ rfl rfl rfl sz49 rfl rfl rfl rfl (by first | exact M.at_ 0 rfl | exact M.at_ 1 rfl | exact M.at_ 2 rfl | exact M.at_ 3 rfl | exact M.at_ 4 rfl | exact M.at_ 5 rfl | exact M.at_ 6 rfl | exact M.at_ 7 rfl) rfl rfl rfl ?_
        intro wst14 hwst14
        have M := by first | exact M.put 0 rfl hwst14 | exact M.put 1 rfl hwst14 | exact M.put 2 rfl hwst14 | exact M.put 3 rfl hwst14 | exact M.put 4 rfl hwst14 | exact M.put 5 rfl hwst14 | exact M.put 6 rfl hwst14 | exact M.put 7 rfl hwst14
        refine pnd ?_
        refine go 0 ?_
        refine At.sub [(6, _), (7, _)] ⟨rfl, rfl, trivial⟩ ?_
        refine At.cut_n ?_
        exact ⟨_, _, _, rfl, hO3, hF3, M⟩
       ·refine x_bs1 (cs := (oR (who, ((m + 1 : Nat) : Int), (cleanP o.p).1, o.w))) rfl rfl rfl Tryz.underlying68 sz123 ze123 (Z := [_, _, _, _]) rfl rfl (by decide) (by decide) rfl rfl rfl ?_
        intro bB wbs4 hbbs4 hwbs4
        have M := M.acons hbbs4 hwbs4
        refine ⟨⟨.inl (by kernel_rfl), .inr (cell_of (M.get (b := bbx1) (o := (bbx1, .cells [.slice pu l.length cu, .slice ph hl.length chh].toArray 70 (0, 0)).2) (by simp)) rfl), .inr ⟨_, _, _, (M.get (b := bal4) (o := (bal4, .cells [.slice pu2 lO.length cu2].toArray 31 (0, 0)).2) (by simp)), rfl⟩, trivial⟩, ?_⟩
        refine Ex.fork ?_
        refine ExT.leaf ?_
        refine x_bs0 rfl rfl rfl Tryz.underlying68 sz123 ?_
        intro bb0 wbs5 hbbs5 hwbs5
        have M := M.acons hbbs5 hwbs5
        refine ⟨⟨.inr (cell_of (M.get (b := bbx2) (o := (bbx2, .cells (opC o dv).toArray 52 (0, 0)).2) (by simp)) rfl), .inr (cell_of (M.get (b := bbx1) (o := (bbx1, .cells [.slice pu l.length cu, .slice ph hl.length chh].toArray 70 (0, 0)).2) (by simp)) rfl), .inr ⟨_, _, _, (M.get (b := bal4) (o := (bal4, .cells [.slice pu2 lO.length cu2].toArray 31 (0, 0)).2) (by simp)), rfl⟩, trivial⟩, ?_⟩
        have hOA := hO _ _ M (fun y hy => by simp [hy])
        refine x_apL (L := [_]) (cs := []) (nn := 0) rfl rfl rfl rfl Tryz.underlying68 sz123 ze123 rfl by123 rfl rfl (.inr ⟨bb0, 0, [], _, rfl, rfl, rfl, rfl⟩) M (by simp) (hOA.src Tryz.underlying68 (oCs_one _)) (by omega) (by decide) (by omega) ?_
        intro Lo v6 w6 how M
        rw [Nat.zero_add, List.nil_append] at how
        obtain ⟨p6, c6, rfl⟩ := how.shape
        refine ⟨⟨.inr (cell_of (M.get (b := bbx2) (o := (bbx2, .cells (opC o dv).toArray 52 (0, 0)).2) (by simp)) rfl), .inl (by kernel_rfl), .inr ⟨_, _, _, (M.get (b := bal4) (o := (bal4, .cells [.slice pu2 lO.length cu2].toArray 31 (0, 0)).2) (by simp)), rfl⟩, trivial⟩, ?_⟩
        have hsB : Sl w6 (.slice (some ⟨bB, 0, none⟩) 1 1) 4 1 (oR (who, ((m + 1 : Nat) : Int), (cleanP o.p).1, o.w)) := .inr ⟨bB, 0, 1, _, _, _, rfl, Nat.le_refl _, M.get (b := bB) (o := .cells (oR (who, ((m + 1 : Nat) : Int), (cleanP o.p).1, o.w)).toArray 123 (0, 0)) (by simp), rfl, rfl⟩
        refine x_apL (L := Lo) (cs := oCs hl) rfl rfl rfl rfl Tryz.underlying68 sz123 ze123 rfl by123 rfl rfl how M (oCs_one _) (hsB.src Tryz.underlying68 (by intro u_ hu_; exact oCs_one [(who, ((m + 1 : Nat) : Int), (cleanP o.p).1, o.w)] u_ (by simpa [oCs] using hu_))) (by omega) (by decide) (by omega) ?_
        intro L3 v3 w3 ho3 M
        have ho3 : OwL L3 v3 4 (hl ++ [(who, ((m + 1 : Nat) : Int), (cleanP o.p).1, o.w)]).length (oCs (hl ++ [(who, ((m + 1 : Nat) : Int), (cleanP o.p).1, o.w)])) := by
         rw [List.length_append, oCs_app]
         exact ho3
        obtain ⟨p3, c3, rfl⟩ := ho3.shape
        have M : Sep w00 (((bal4, .cells [.slice pu2 lO.length cu2].toArray 31 (0, 0)) :: (bal3, .cells [strV nmx, .bool false, dvx].toArray 29 (0, 0)) :: (bal2, .cells [.int .i64 0, .int .i64 0, .int .i64 0, .slice none 0 0, .slice none 0 0].toArray 49 (0, 0)) :: (bal1, .cells [.slice none 0 0, .slice none 0 0].toArray 70 (0, 0)) :: (bbx2, .cells (opC o dv).toArray 52 (0, 0)) :: (bbx1, .cells [.slice pu l.length cu, .slice ph hl.length chh].toArray 70 (0, 0)) :: X) ++ (L ++ (L2 ++ (L3 ++ [(bB, .cells (oR (who, ((m + 1 : Nat) : Int), (cleanP o.p).1, o.w)).toArray 123 (0, 0))])))) w3 := M.perm (perm_c fun p => by simp only [List.countP_append, List.countP_cons, List.countP_nil]; omega)
        have hF3 := hF2.mono (L' := L ++ (L2 ++ (L3 ++ [(bB, .cells (oR (who, ((m + 1 : Nat) : Int), (cleanP o.p).1, o.w)).toArray 123 (0, 0))]))) (fun y hy => by simp only [List.mem_append] at hy ⊢; rcases hy with hy | hy <;> simp [hy])
        have hO3 : OpnK w00 (L ++ (L2 ++ (L3 ++ [(bB, .cells (oR (who, ((m + 1 : Nat) : Int), (cleanP o.p).1, o.w)).toArray 123 (0, 0))]))) (.slice p3 (hl ++ [(who, ((m + 1 : Nat) : Int), (cleanP o.p).1, o.w)]).length c3) (hl ++ [(who, ((m + 1 : Nat) : Int), (cleanP o.p).1, o.w)]) := SgK.own ho3 (by decide) (fun y hy => by simp [hy])
        refine ⟨⟨.inl (by kernel_rfl), .inl (by kernel_rfl), .inr ⟨_, _, _, (M.get (b := bal4) (o := (bal4, .cells [.slice pu2 lO.length cu2].toArray 31 (0, 0)).2) (by simp)), rfl⟩, trivial⟩, ?_⟩
        refine go 1 ?_
        refine x_st [_, _] _ rfl rfl rfl sz70 rfl rfl rfl rfl (by first | exact M.at_ 0 rfl | exact M.at_ 1 rfl | exact M.at_ 2 rfl | exact M.at_ 3 rfl | exact M.at_ 4 rfl | exact M.at_ 5 rfl | exact M.at_ 6 rfl | exact M.at_ 7 rfl) rfl rfl rfl ?_
        intro wst15 hwst15
        have M := by first | exact M.put 0 rfl hwst15 | exact M.put 1 rfl hwst15 | exact M.put 2 rfl hwst15 | exact M.put 3 rfl hwst15 | exact M.put 4 rfl hwst15 | exact M.put 5 rfl hwst15 | exact M.put 6 rfl hwst15 | exact M.put 7 rfl hwst15
        refine pnd ?_
        refine x_st [_, _, _, _, _] _ rfl rfl rfl sz49 rfl rfl rfl rfl (by first | exact M.at_ 0 rfl | exact M.at_ 1 rfl | exact M.at_ 2 rfl | exact M.at_ 3 rfl | exact M.at_ 4 rfl | exact M.at_ 5 rfl | exact M.at_ 6 rfl | exact M.at_ 7 rfl) rfl rfl rfl ?_
        intro wst16 hwst16
        have M := by first | exact M.put 0 rfl hwst16 | exact M.put 1 rfl hwst16 | exact M.put 2 rfl hwst16 | exact M.put 3 rfl hwst16 | exact M.put 4 rfl hwst16 | exact M.put 5 rfl hwst16 | exact M.put 6 rfl hwst16 | exact M.put 7 rfl hwst16
        refine pnd ?_
        refine go 0 ?_
        refine At.sub [(6, _), (7, _)] ⟨rfl, rfl, trivial⟩ ?_
        refine At.cut_n ?_
        exact ⟨_, _, _, rfl, hO3, hF3, M⟩
      rintro F1 wd ⟨ph', ch', L', rfl, hO', hF', M⟩
      refine go 1 ?_
      subst hmi
      obtain ⟨g1, g2, g3⟩ := hcas.ok hI hw hlow hco2
      rw [g1]
      exact ⟨_, _, _, _, hl ++ [_], L', _, rfl, ⟨none, 0, none, 0, rfl, nilS (by decide), nilS (by decide)⟩, hF', hO', g2, g3, by rw [List.length_append]; exact Nat.le_refl _, M.tail.tail.tail.tail.tail.tail⟩

end Go.Proofs.YtigfbpbnohkokaaGreat

namespace Go.Proofs.YtigfbpbnohkokaaGreat
open Go Go.Fw Go.RowKit Go.Proofs
set_option linter.unusedVariables false
set_option linter.unusedSimpArgs false
set_option maxRecDepth 100000
set_option maxHeartbeats 4000000

-- (valise/valiseref19.FS).Do
theorem fdo_c {w00 w0 : World} {X L : List (Nat × Obj)} {u hv : Value} {l : List Raw} {hl : List Opn} {who : Int} {o : OpS} {dv : Value} (M : Sep w00 (X ++ L) w0) (hF : FilesK w00 L u l) (hO : OpnK w00 L hv hl) (hI : RI l hl) (hlen : hl.length ≤ 1000) (hdv : BytesK w00 L dv o.d) (hod : o.d.length ≤ 131072) : Ret Tryz.prog 25 #[.agg #[u, hv], .int .i64 who, .agg (opC o dv).toArray] w0 (RfP w00 L X hl (doS l (hfL hl) who o)) := by
 obtain ⟨pu, cu, rfl⟩ := (hF.at_ M (fun y hy => mR hy)).shape
 obtain ⟨ph, chh, rfl⟩ := Sg.shape (hO _ _ M (fun y hy => mR hy))
 have hT := hI.tr
 have hll := hI.le
 have hus := hI.us
 obtain ⟨pdv, cdv, rfl⟩ := (hdv _ _ M (fun y hy => mR hy)).shape
 refine Ret.of_W Tryz.func25 rfl Tryz.ntmps25 rfl ?_
 refine go 1 ?_
 intro _ _ M
 refine go 1 ?_
 intro _ _ M
 refine go 1 ?_
 intro _ _ M
 refine go 1 ?_
 intro _ _ M
 refine spl 1 10 ?_ ?_
 ·intro hsp1
  refine go 0 ?_
  refine W.regD (by kernel_rfl) #[0, 0, 3, 7] [(0, false), (1, true), (2, true), (3, true)] (by kernel_rfl) ?_
  intro K wD1 hK hwD1
  have M := M.drew hwD1
  refine go 1 ?_
  refine x_call rfl rfl rfl rfl rfl en50 (rbad_c) ?_
  rintro r_ wcall1 ⟨rfl, hncall1⟩
  have M := M.new hncall1
  refine pnd ?_
  refine x_st [_, _] _ rfl rfl rfl sz70 rfl rfl rfl rfl (by first | exact M.at_ 0 rfl | exact M.at_ 1 rfl | exact M.at_ 2 rfl | exact M.at_ 3 rfl | exact M.at_ 4 rfl | exact M.at_ 5 rfl | exact M.at_ 6 rfl | exact M.at_ 7 rfl) rfl rfl rfl ?_
  intro wst1 hwst1
  have M := by first | exact M.put 0 rfl hwst1 | exact M.put 1 rfl hwst1 | exact M.put 2 rfl hwst1 | exact M.put 3 rfl hwst1 | exact M.put 4 rfl hwst1 | exact M.put 5 rfl hwst1 | exact M.put 6 rfl hwst1 | exact M.put 7 rfl hwst1
  refine pnd ?_
  refine x_st [_, _, _, _, _] _ rfl rfl rfl sz49 rfl rfl rfl rfl (by first | exact M.at_ 0 rfl | exact M.at_ 1 rfl | exact M.at_ 2 rfl | exact M.at_ 3 rfl | exact M.at_ 4 rfl | exact M.at_ 5 rfl | exact M.at_ 6 rfl | exact M.at_ 7 rfl) rfl rfl rfl ?_
  intro wst2 hwst2
  have M := by first | exact M.put 0 rfl hwst2 | exact M.put 1 rfl hwst2 | exact M.put 2 rfl hwst2 | exact M.put 3 rfl hwst2 | exact M.put 4 rfl hwst2 | exact M.put 5 rfl hwst2 | exact M.put 6 rfl hwst2 | exact M.put 7 rfl hwst2
  refine pnd ?_
  refine go 1 ?_
  exact RfP.bad (show doS l (hfL hl) who o = (badS 2, l, hfL hl) by unfold doS; rw [if_pos (.inl hsp1)]) hF hO hI M.tail.tail.tail.tail
 ·intro hsp1
  refine spl 1 14 ?_ ?_
  ·intro hsp2
   refine go 0 ?_
   refine W.regD (by kernel_rfl) #[0, 0, 3, 7] [(0, false), (1, true), (2, true), (3, true)] (by kernel_rfl) ?_
   intro K wD2 hK hwD2
   have M := M.drew hwD2
   refine go 1 ?_
   refine x_call rfl rfl rfl rfl rfl en50 (rbad_c) ?_
   rintro r_ wcall2 ⟨rfl, hncall2⟩
   have M := M.new hncall2
   refine pnd ?_
   refine x_st [_, _] _ rfl rfl rfl sz70 rfl rfl rfl rfl (by first | exact M.at_ 0 rfl | exact M.at_ 1 rfl | exact M.at_ 2 rfl | exact M.at_ 3 rfl | exact M.at_ 4 rfl | exact M.at_ 5 rfl | exact M.at_ 6 rfl | exact M.at_ 7 rfl) rfl rfl rfl ?_
   intro wst3 hwst3
   have M := by first | exact M.put 0 rfl hwst3 | exact M.put 1 rfl hwst3 | exact M.put 2 rfl hwst3 | exact M.put 3 rfl hwst3 | exact M.put 4 rfl hwst3 | exact M.put 5 rfl hwst3 | exact M.put 6 rfl hwst3 | exact M.put 7 rfl hwst3
   refine pnd ?_
   refine x_st [_, _, _, _, _] _ rfl rfl rfl sz49 rfl rfl rfl rfl (by first | exact M.at_ 0 rfl | exact M.at_ 1 rfl | exact M.at_ 2 rfl | exact M.at_ 3 rfl | exact M.at_ 4 rfl | exact M.at_ 5 rfl | exact M.at_ 6 rfl | exact M.at_ 7 rfl) rfl rfl rfl ?_
   intro wst4 hwst4
   have M := by first | exact M.put 0 rfl hwst4 | exact M.put 1 rfl hwst4 | exact M.put 2 rfl hwst4 | exact M.put 3 rfl hwst4 | exact M.put 4 rfl hwst4 | exact M.put 5 rfl hwst4 | exact M.put 6 rfl hwst4 | exact M.put 7 rfl hwst4
   refine pnd ?_
   refine go 1 ?_
   exact RfP.bad (show doS l (hfL hl) who o = (badS 2, l, hfL hl) by unfold doS; rw [if_pos (.inr (.inl (by omega)))]) hF hO hI M.tail.tail.tail.tail
  ·intro hsp2
   refine spl 2 19 ?_ ?_
   ·intro hsp3
    refine go 0 ?_
    refine W.regD (by kernel_rfl) #[0, 0, 3, 7] [(0, false), (1, true), (2, true), (3, true)] (by kernel_rfl) ?_
    intro K wD3 hK hwD3
    have M := M.drew hwD3
    refine go 1 ?_
    refine x_call rfl rfl rfl rfl rfl en50 (rbad_c) ?_
    rintro r_ wcall3 ⟨rfl, hncall3⟩
    have M := M.new hncall3
    refine pnd ?_
    refine x_st [_, _] _ rfl rfl rfl sz70 rfl rfl rfl rfl (by first | exact M.at_ 0 rfl | exact M.at_ 1 rfl | exact M.at_ 2 rfl | exact M.at_ 3 rfl | exact M.at_ 4 rfl | exact M.at_ 5 rfl | exact M.at_ 6 rfl | exact M.at_ 7 rfl) rfl rfl rfl ?_
    intro wst5 hwst5
    have M := by first | exact M.put 0 rfl hwst5 | exact M.put 1 rfl hwst5 | exact M.put 2 rfl hwst5 | exact M.put 3 rfl hwst5 | exact M.put 4 rfl hwst5 | exact M.put 5 rfl hwst5 | exact M.put 6 rfl hwst5 | exact M.put 7 rfl hwst5
    refine pnd ?_
    refine x_st [_, _, _, _, _] _ rfl rfl rfl sz49 rfl rfl rfl rfl (by first | exact M.at_ 0 rfl | exact M.at_ 1 rfl | exact M.at_ 2 rfl | exact M.at_ 3 rfl | exact M.at_ 4 rfl | exact M.at_ 5 rfl | exact M.at_ 6 rfl | exact M.at_ 7 rfl) rfl rfl rfl ?_
    intro wst6 hwst6
    have M := by first | exact M.put 0 rfl hwst6 | exact M.put 1 rfl hwst6 | exact M.put 2 rfl hwst6 | exact M.put 3 rfl hwst6 | exact M.put 4 rfl hwst6 | exact M.put 5 rfl hwst6 | exact M.put 6 rfl hwst6 | exact M.put 7 rfl hwst6
    refine pnd ?_
    refine go 1 ?_
    exact RfP.bad (show doS l (hfL hl) who o = (badS 2, l, hfL hl) by unfold doS; rw [if_pos (.inr (.inr (.inl (by omega))))]) hF hO hI M.tail.tail.tail.tail
   ·intro hsp3
    refine cnd 2 ?_ ?_
    ·intro hco4
     refine go 0 ?_
     refine W.regD (by kernel_rfl) #[0, 0, 3, 7] [(0, false), (1, true), (2, true), (3, true)] (by kernel_rfl) ?_
     intro K wD4 hK hwD4
     have M := M.drew hwD4
     refine go 1 ?_
     refine x_call rfl rfl rfl rfl rfl en50 (rbad_c) ?_
     rintro r_ wcall4 ⟨rfl, hncall4⟩
     have M := M.new hncall4
     refine pnd ?_
     refine x_st [_, _] _ rfl rfl rfl sz70 rfl rfl rfl rfl (by first | exact M.at_ 0 rfl | exact M.at_ 1 rfl | exact M.at_ 2 rfl | exact M.at_ 3 rfl | exact M.at_ 4 rfl | exact M.at_ 5 rfl | exact M.at_ 6 rfl | exact M.at_ 7 rfl) rfl rfl rfl ?_
     intro wst7 hwst7
     have M := by first | exact M.put 0 rfl hwst7 | exact M.put 1 rfl hwst7 | exact M.put 2 rfl hwst7 | exact M.put 3 rfl hwst7 | exact M.put 4 rfl hwst7 | exact M.put 5 rfl hwst7 | exact M.put 6 rfl hwst7 | exact M.put 7 rfl hwst7
     refine pnd ?_
     refine x_st [_, _, _, _, _] _ rfl rfl rfl sz49 rfl rfl rfl rfl (by first | exact M.at_ 0 rfl | exact M.at_ 1 rfl | exact M.at_ 2 rfl | exact M.at_ 3 rfl | exact M.at_ 4 rfl | exact M.at_ 5 rfl | exact M.at_ 6 rfl | exact M.at_ 7 rfl) rfl rfl rfl ?_
     intro wst8 hwst8
     have M := by first | exact M.put 0 rfl hwst8 | exact M.put 1 rfl hwst8 | exact M.put 2 rfl hwst8 | exact M.put 3 rfl hwst8 | exact M.put 4 rfl hwst8 | exact M.put 5 rfl hwst8 | exact M.put 6 rfl hwst8 | exact M.put 7 rfl hwst8
     refine pnd ?_
     refine go 1 ?_
     exact RfP.bad (show doS l (hfL hl) who o = (badS 2, l, hfL hl) by unfold doS; rw [if_pos (.inr (.inr (.inr (by omega))))]) hF hO hI M.tail.tail.tail.tail
    ·intro hco4
     have hn : ¬ (who < 0 ∨ 8 ≤ who ∨ o.k < 1 ∨ 9 < o.k) := by omega
     refine cnd 2 ?_ ?_
     ·intro hco5
      have hS : doS l (hfL hl) who o = openS l (hfL hl) who o := by unfold doS; rw [if_neg hn, if_pos hco5]
      refine go 2 ?_
      refine x_call rfl rfl rfl rfl rfl en51 (fopen_c (X := _ :: _ :: _ :: _ :: X) M hF hO hI hlen rfl (by omega)) ?_
      rintro r_ w5 ⟨pu', cu', ph', ch', hl', L', rv, rfl, hr, hF', hO', hI', hh', hlen', M⟩
      obtain ⟨q1, k1, q2, k2, rfl, hr4, hr5⟩ := hr
      refine ⟨trivial, ?_⟩
      refine go 1 ?_
      intro _ M
      refine go 1 ?_
      intro _ M
      refine go 1 ?_
      rw [hS]
      exact ⟨_, _, _, _, hl', L', _, rfl, ⟨q1, k1, q2, k2, rfl, hr4, hr5⟩, hF', hO', hI', hh', hlen', M.tail.tail.tail.tail⟩
     ·intro hco5
      refine cnd 2 ?_ ?_
      ·intro hco6
       have hS : doS l (hfL hl) who o = handleS l (hfL hl) who o := by unfold doS; rw [if_neg hn, if_neg hco5, if_pos hco6]
       refine go 2 ?_
       refine x_call rfl rfl rfl rfl rfl en52 (fhandle_c (X := _ :: _ :: _ :: _ :: X) M hF hO hI hlen hdv hod) ?_
       rintro r_ w6 ⟨pu', cu', ph', ch', hl', L', rv, rfl, hr, hF', hO', hI', hh', hlen', M⟩
       obtain ⟨q1, k1, q2, k2, rfl, hr4, hr5⟩ := hr
       refine ⟨trivial, ?_⟩
       refine go 1 ?_
       intro _ M
       refine go 1 ?_
       intro _ M
       refine go 1 ?_
       rw [hS]
       exact ⟨_, _, _, _, hl', L', _, rfl, ⟨q1, k1, q2, k2, rfl, hr4, hr5⟩, hF', hO', hI', hh', hlen', M.tail.tail.tail.tail⟩
      ·intro hco6
       have hS : doS l (hfL hl) who o = (if (cleanP o.p).2 = 0 then namedS l (hfL hl) (cleanP o.p).1 o else (badS (cleanP o.p).2, l, hfL hl)) := by unfold doS; rw [if_neg hn, if_neg hco5, if_neg (by omega)]
       refine go 2 ?_
       refine x_call rfl rfl rfl rfl rfl en53 (fnamed_c (X := _ :: _ :: _ :: _ :: X) M hF hO hI hlen rfl) ?_
       rintro r_ w7 ⟨pu', cu', ph', ch', hl', L', rv, rfl, hr, hF', hO', hI', hh', hlen', M⟩
       obtain ⟨q1, k1, q2, k2, rfl, hr4, hr5⟩ := hr
       refine ⟨trivial, ?_⟩
       refine go 1 ?_
       intro _ M
       refine go 1 ?_
       intro _ M
       refine go 1 ?_
       rw [hS]
       exact ⟨_, _, _, _, hl', L', _, rfl, ⟨q1, k1, q2, k2, rfl, hr4, hr5⟩, hF', hO', hI', hh', hlen', M.tail.tail.tail.tail⟩

end Go.Proofs.YtigfbpbnohkokaaGreat

namespace Go.Proofs.YtigfbpbnohkokaaGreat
open Go Go.Fw Go.RowKit
set_option linter.unusedVariables false
set_option linter.unusedSimpArgs false

section
variable {l : List Raw}
theorem TreeL.of_bare (h : TreeL (bareL l)) (hd : ∀ x ∈ l, x.2.2.length ≤ 65536 ∧ (x.2.1 = true → x.2.2 = [])) : TreeL l := by
 have hn : (l.map (·.1)).Nodup := by have := h.names; rwa [bare_names'] at this
 obtain ⟨g, hG, hR⟩ := h
 let g' : Gf := fun q => match g q with | some (false, _) => some (false, (fileD l (joinS q)).getD []) | v => v
 have ht : ∀ q b, g q = some (true, b) → g' q = some (true, b) := fun q b h => by show (match g q with | some (false, _) => _ | v => v) = _; rw [h]
 have hf : ∀ q b, g q = some (false, b) → g' q = some (false, (fileD l (joinS q)).getD []) := fun q b h => by show (match g q with | some (false, _) => _ | v => v) = _; rw [h]
 have hz : ∀ q, g q = none → g' q = none := fun q h => by show (match g q with | some (false, _) => _ | v => v) = _; rw [h]
 have hfd : ∀ p, ((fileD l p).getD []).length ≤ 65536 := fun p => by
  cases hq : fileD l p with
  | none => simp
  | some d =>
   unfold fileD at hq
   cases hx : l.find? (fun x => decide (x.1 = p)) with
   | none => rw [hx] at hq; cases hq
   | some x =>
    rw [hx] at hq
    simp only at hq
    split at hq
    ·cases hq
    ·cases hq
     exact (hd x (List.mem_of_find?_eq_some hx)).1
 refine ⟨g', ⟨ht _ _ hG.root, fun q n v hv => ?_, fun q v hv => ?_⟩, ⟨?_, fun x => ⟨fun hx => ?_, ?_⟩⟩⟩
 ·cases hq : g (q ++ [n]) with
  | none => rw [hz _ hq] at hv; cases hv
  | some u =>
   obtain ⟨b, hb⟩ := hG.par q n u hq
   exact ⟨b, ht _ _ hb⟩
 ·cases hq : g q with
  | none => rw [hz _ hq] at hv; cases hv
  | some u =>
   obtain ⟨a, b⟩ := u
   obtain ⟨h1, h2, h3⟩ := hG.ok q _ hq
   cases a with
   | true => rw [ht _ _ hq] at hv; cases hv; exact ⟨h1, h2, h3⟩
   | false => rw [hf _ _ hq] at hv; cases hv; exact ⟨h1, hfd _, fun h => by cases h⟩
 ·have := hR.srt
  unfold bareL at this
  rw [List.pairwise_map] at this
  exact this
 ·obtain ⟨N, h1, h2, h3⟩ := (hR.mem (bareR x)).1 (List.mem_map.2 ⟨x, hx, rfl⟩)
  refine ⟨N, h1, h2, ?_⟩
  obtain ⟨a, b, d⟩ := x
  cases b with
  | true =>
   have : d = [] := (hd _ hx).2 rfl
   subst this
   exact ht _ _ h3
  | false =>
   rw [hf _ _ h3, ← show a = joinS N from h2, fileD_of hn hx]; rfl
 ·rintro ⟨N, h1, h2, h3⟩
  cases hq : g N with
  | none => rw [hz _ hq] at h3; cases h3
  | some u =>
   obtain ⟨a, b⟩ := u
   have hm : ((joinS N, a, b) : Raw) ∈ bareL l := (hR.mem _).2 ⟨N, h1, rfl, hq⟩
   obtain ⟨y, hy, hy2⟩ := List.mem_map.1 hm
   obtain ⟨y1, y2, y3⟩ := y
   simp only [bareR, Prod.mk.injEq] at hy2
   obtain ⟨rfl, rfl, rfl⟩ := hy2
   obtain ⟨x1, x2⟩ := x
   simp only at h2 h3
   subst h2
   cases y2 with
   | true =>
    rw [ht _ _ hq] at h3
    cases h3
    have : y3 = [] := (hd _ hy).2 rfl
    subst this
    exact hy
   | false =>
    rw [hf _ _ hq, fileD_of hn hy] at h3
    cases h3
    exact hy
theorem OvW.tree {w00 w : World} {X : List (Nat × Obj)} {I : OvI} {hf : HF} (M : OvW w00 X I l hf w) : TreeL l := by
 obtain ⟨S, _, h1, _, _⟩ := M
 refine TreeL.of_bare ⟨_, h1.tr.ti.gi, h1.tr.rel⟩ fun x hx => ⟨?_, h1.dd x hx⟩
 obtain ⟨a, b, d⟩ := x
 cases b with
 | true => rw [show d = [] from h1.dd _ hx rfl]; simp
 | false => exact (h1.le hx).1
theorem OvW.ri {w00 w : World} {X : List (Nat × Obj)} {I : OvI} {hf : HF} (M : OvW w00 X I l hf w) : RI l [] := ⟨M.tree, M.le, M.used, by simp, by simp, by simp⟩
end
def bRow (x : Raw) : Raw × Value := (bareR x, .slice none 0 0)
theorem fCs_snocB {l : List Raw} {j : Nat} {x : Raw} (hx : l[j]? = some x) : fCs ((l.take (j + 1)).map bRow) = fCs ((l.take j).map bRow) ++ [strV x.1, .bool x.2.1, .slice none 0 0] := by
 rw [take_snoc hx, List.map_append, fCs_app]; rfl
theorem bare_atB {w : World} {v : Value} {l : List Raw} (h : Sl w v 3 l.length (fCs (l.map bRow))) : FilesAt w v (bareL l) :=
 ⟨l.map bRow, by rw [List.map_map]; rfl, by rw [List.length_map]; exact .inr h, fun f hf => by
  obtain ⟨m, _, rfl⟩ := List.mem_map.1 hf
  exact ⟨.inr (.inl ⟨rfl, rfl, rfl⟩), rfl⟩⟩
section
variable {l : List Raw}
theorem okd_any (hd : OKd l) : l.any (fun x => decide (65536 < x.2.2.length)) = false := by
 rw [List.any_eq_false]
 intro x hx
 have := (hd x hx).1
 rw [decide_eq_true_eq]; omega
end
end Go.Proofs.YtigfbpbnohkokaaGreat

namespace Go.Proofs.YtigfbpbnohkokaaGreat
open Go Go.Fw Go.RowKit Go.Proofs
set_option linter.unusedVariables false
set_option linter.unusedSimpArgs false
set_option maxRecDepth 100000
set_option maxHeartbeats 4000000
theorem bare_of2 {l : List Raw} (hd : OKd l) : (ofL (bareL l)).2 = (ofL l).2 := by
 rw [bare_of hd]
theorem of_len {l : List Raw} (h : (ofL l).2 = 0) : (ofL l).1.length ≤ 128 := by
 unfold ofL at h ⊢
 split
 ·simp
 ·rename_i h1
  rw [if_neg h1] at h
  split
  ·simp
  ·rename_i h2
   rw [if_neg h2] at h
   split
   ·simp
   ·rename_i h3
    rw [if_neg h3] at h
    split
    ·simp
    ·simp only; omega
theorem okd_used {l : List Raw} (hd : OKd l) : usedL l ≤ 65536 * l.length := by
 induction l with
 | nil => simp [usedL]
 | cons x l ih =>
  have h1 := ih fun y hy => hd y (List.mem_cons_of_mem _ hy)
  have h2 := (hd x List.mem_cons_self).1
  rw [usedL_cons, List.length_cons]
  omega

-- valise/valiseref19.New
theorem fnew_c {w00 w0 : World} {X : List (Nat × Obj)} {v : Value} {l : List Raw} (M : Sep w00 X w0) (h : FilesAt w00 v l) (hl : l.length ≤ 140) (hd : OKd l) : Ret Tryz.prog 23 #[v] w0 fun r w' => ((newS l).2 ≠ 0 ∧ r = .tuple #[.agg #[.slice none 0 0, .slice none 0 0], .int .i64 (newS l).2] ∧ Sep w00 X w') ∨ ((newS l).2 = 0 ∧ ∃ pu cu Lr, r = .tuple #[.agg #[.slice pu (newS l).1.length cu, .slice none 0 0], .int .i64 0] ∧ FilesK w00 Lr (.slice pu (newS l).1.length cu) (newS l).1 ∧ Sep w00 (X ++ Lr) w') := by
 obtain ⟨pv, cv, rfl⟩ := h.shape
 have hany := okd_any hd
 refine Ret.of_W Tryz.func23 rfl Tryz.ntmps23 rfl ?_
 refine go 1 ?_
 intro bal1 _ M
 refine go 0 ?_
 refine W.loop (σ := Nat × Value × List (Nat × Obj)) (fun q => [(0, _), (2, _), (4, q.2.1), (5, .int .i64 ((q.1 : Nat) : Int))]) (fun q w => q.1 ≤ l.length ∧ OwL q.2.2 q.2.1 3 q.1 (fCs ((l.take q.1).map bRow)) ∧ Sep w00 (q.2.2 ++ ((bal1, .cells [.slice none 0 0, .slice none 0 0].toArray 70 (0, 0)) :: X)) w) (fun q => l.length - q.1) (0, .slice none 0 0, []) ⟨rfl, rfl, rfl, rfl, trivial⟩ ⟨Nat.zero_le _, OwL.nil, M⟩ ?_
 rintro ⟨j, v4, Lo⟩ w ⟨hj, ho, M⟩
 simp only at hj ho M
 obtain ⟨p4, c4, rfl⟩ := ho.shape
 refine cnd 2 ?_ ?_
 ·intro hco1
  obtain ⟨x, hx⟩ := get_lt (l := l) (q := j) (by omega)
  obtain ⟨bb, off, rfl, _⟩ := h.blk (j := j) (by omega)
  obtain ⟨px, cx, hrow0, hbx⟩ := h.row hx
  refine go 0 ?_
  refine W.regD (by kernel_rfl) #[0, 0, 0, 6, 14, 30, 0, 0, 192, 448, 960, 2046, 4094, 8191, 16383] [(0, false), (1, false), (2, false), (3, false), (4, false), (5, false), (6, false), (7, false), (8, false), (9, false), (10, false), (11, false), (12, true), (13, true), (14, false)] (by kernel_rfl) ?_
  intro K wD1 hK hwD1
  have M := M.drew hwD1
  have hrow := RowAt.new hrow0 M.frm
  refine go 0 ?_
  refine x_ia j rfl rfl rfl Tryz.underlying24 sz29 rfl rfl rfl (by omega) ?_
  refine go 0 ?_
  refine x_ld rfl rfl rfl Tryz.underlying9 rfl rfl (RowAt.cell hrow (j := 0) rfl) ?_
  refine go 0 ?_
  refine x_ia j rfl rfl rfl Tryz.underlying24 sz29 rfl rfl rfl (by omega) ?_
  refine go 0 ?_
  refine x_ld rfl rfl rfl Tryz.underlying4 rfl rfl (RowAt.cell hrow (j := 1) rfl) ?_
  refine go 1 ?_
  refine x_bs1 (cs := [strV x.1, .bool x.2.1, .slice none 0 0]) rfl rfl rfl Tryz.underlying24 sz29 ze29 (Z := [_, _, _]) rfl rfl (by decide) (by decide) rfl rfl rfl ?_
  intro bbs1 wbs1 hbbs1 hwbs1
  have M := M.acons hbbs1 hwbs1
  have hslbs1 : Sl wbs1 (.slice (some ⟨bbs1, 0, none⟩) 1 1) 3 1 [strV x.1, .bool x.2.1, .slice none 0 0] := .inr ⟨bbs1, 0, 1, _, _, _, rfl, Nat.le_refl _, M.at_ 0 rfl, rfl, rfl⟩
  have M := M.tail
  refine pnd ?_
  refine x_apL (L := Lo) (cs := fCs ((l.take j).map bRow)) rfl rfl rfl rfl Tryz.underlying24 sz29 ze29 rfl by29 rfl rfl ho M (fCs_one (fun f hf => by obtain ⟨y, _, rfl⟩ := List.mem_map.1 hf; rfl)) (hslbs1.src Tryz.underlying24 (by intro u hu; simp only [List.mem_cons, List.not_mem_nil, or_false] at hu; rcases hu with rfl | rfl | rfl <;> rfl)) (by omega) (by decide) (by omega) ?_
  intro L3 v3 w3 ho3 M
  rw [← fCs_snocB hx] at ho3
  refine pnd ?_
  refine go 0 ?_
  refine x_add _ rfl rfl rfl rfl rfl (wadd (by omega) (by omega)) ?_
  refine go 0 ?_
  exact At.back ((j + 1, v3, L3)) ⟨rfl, rfl, rfl, rfl, trivial⟩ ⟨by simp only; omega, ho3, M⟩ (by first | omega | (simp only; omega) | (simp; done) | (simp; omega))
 ·intro hco1
  have hj2 : j = l.length := by omega
  subst hj2
  rw [List.take_length] at ho
  have hbare := bare_atB ((OwL.sl ho (by decide)).get (fun y hy => M.get (List.mem_append_left _ hy)))
  have M : Sep w00 (_ :: X) _ := M.dropL
  refine go 0 ?_
  refine x_call rfl rfl rfl rfl rfl en12 (rof_c (St.nil _) hbare (by rw [bare_len]; omega)) ?_
  rintro r_ w2 ⟨u2, L2, rfl, hF2, M2⟩
  rw [List.append_nil] at M2
  obtain ⟨pu2, cu2, rfl⟩ := (hF2.at_ M2 (fun y hy => hy)).shape
  have M := M.new M2.frm
  refine ⟨trivial, ?_⟩
  refine go 1 ?_
  intro _ _ M
  refine go 1 ?_
  intro _ M
  refine cnd 1 ?_ ?_
  ·intro hco2
   have hN : newS l = ([], (ofL (bareL l)).2) := newS_of hany hco2
   refine go 2 ?_
   intro _ M
   refine go 1 ?_
   exact .inl ⟨by rw [hN]; exact hco2, by rw [hN]; rfl, M.sub (by first | exact (List.Sublist.refl _).cons _ | exact ((List.Sublist.refl _).cons _).cons _)⟩
  ·intro hco2
   refine go 0 ?_
   refine x_call rfl rfl rfl rfl rfl en12 (rof_c (w00 := w00) (X := _ :: _ :: X) M h (by omega)) ?_
   rintro r_ w4 ⟨u4, L4, rfl, hF4, M⟩
   have M : Sep w00 ((_ :: _ :: X) ++ L4) _ := M.perm List.perm_append_comm
   have hbok : OKd (bareL l) := fun x hx => by
    obtain ⟨y, _, rfl⟩ := List.mem_map.1 hx
    exact ⟨by simp [bareR], fun _ => rfl⟩
   obtain ⟨pu4, cu4, rfl⟩ := (hF4.at_ M (fun y hy => mR hy)).shape
   have hof : (ofL l).2 = 0 := by rw [bare_of2 hd] at hco2; exact hco2
   obtain ⟨_, hu4, _, _⟩ := of_facts hof hd
   have hle4 := of_len hof
   refine ⟨trivial, ?_⟩
   refine go 1 ?_
   intro _ _ M
   refine go 1 ?_
   intro _ M
   refine go 3 ?_
   intro _ _ M
   refine go 1 ?_
   intro _ M
   refine go 1 ?_
   refine x_call rfl rfl rfl rfl rfl en27 (rused_c (hF4.at_ M (fun y hy => by simp [hy])) (by omega) (by rw [hu4]; have := okd_used hd; omega)) ?_
   rintro r_ w5 ⟨rfl, hn5⟩
   have M := M.new hn5
   rw [hu4]
   refine ⟨trivial, ?_⟩
   refine cnd 1 ?_ ?_
   ·intro hco3
    have hN : newS l = ([], 7) := newS_7 hany hco2 (by omega)
    refine go 2 ?_
    intro _ M
    refine go 1 ?_
    exact .inl ⟨by rw [hN]; decide, by rw [hN], M.tail.tail.tail.tail.sub (List.sublist_append_left _ _)⟩
   ·intro hco3
    have hN : newS l = ((ofL l).1, 0) := newS_0 hany hco2 (by omega)
    refine go 2 ?_
    intro _ M
    refine go 1 ?_
    rw [hN]
    exact .inr ⟨rfl, pu4, cu4, L4, rfl, hF4, M.tail.tail.tail.tail⟩

end Go.Proofs.YtigfbpbnohkokaaGreat

namespace Go.Proofs.YtigfbpbnohkokaaGreat
open Go Go.Fw Go.RowKit Go.Proofs
set_option linter.unusedVariables false
set_option linter.unusedSimpArgs false
set_option maxRecDepth 100000
set_option maxHeartbeats 4000000
theorem pre_stepN {A B : List Nat} {q : Nat} {x y : Nat} (h : B.take q = A.take q) (hx : A[q]? = some x) (hy : B[q]? = some y) (he : x = y) : B.take (q + 1) = A.take (q + 1) := by
 rw [take_snoc hx, take_snoc hy, h, he]

-- valise/valiseref04.Same
theorem isame_c {w0 : World} {u v : Value} {A B : List Nat} (hu : Sl w0 u 1 A.length (intCs A)) (hv : Sl w0 v 1 B.length (intCs B)) (hlA : A.length ≤ 1099511627776) : Ret Tryz.prog 28 #[u, v] w0 fun r w' => r = .bool (decide (A = B)) ∧ New w0 w' := by
 have M : Sep w0 [] w0 := St.nil w0
 obtain ⟨p1, cap1, rfl⟩ := Sg.shape (Sg_of_sl hu)
 obtain ⟨p2, cap2, rfl⟩ := Sg.shape (Sg_of_sl hv)
 refine Ret.of_W Tryz.func28 rfl Tryz.ntmps28 rfl ?_
 refine cnd 3 ?_ ?_
 ·intro hco1
  refine go 1 ?_
  exact ⟨by rw [decide_eq_false]; intro e; subst e; omega, M.frm⟩
 ·intro hco1
  refine go 0 ?_
  refine W.loop (σ := Nat) (fun q => [(0, _), (1, _), (5, .int .i64 ((q : Nat) : Int))]) (fun q w => q ≤ A.length ∧ B.take q = A.take q ∧ Sep w0 [] w) (fun q => A.length - q) 0 ⟨rfl, rfl, rfl, trivial⟩ ⟨Nat.zero_le _, rfl, M⟩ ?_
  rintro q w ⟨hq, hpre, M⟩
  refine cnd 2 ?_ ?_
  ·intro hco2
   obtain ⟨y, hy⟩ := get_lt (l := B) (q := q) (by omega)
   obtain ⟨x, hx⟩ := get_lt (l := A) (q := q) (by omega)
   obtain ⟨bk1, off1, rfl, _⟩ := hu.blk (j := q) (by omega)
   obtain ⟨bk2, off2, rfl, _⟩ := hv.blk (j := q) (by omega)
   refine go 0 ?_
   refine W.regD (by kernel_rfl) #[0, 0, 3, 7, 0, 0, 48, 112, 255] [(0, false), (1, false), (2, false), (3, false), (4, false), (5, false), (6, false), (7, false), (8, false)] (by kernel_rfl) ?_
   intro K wD1 hK hwD1
   have M := M.drew hwD1
   have hu2 := hu.new M.frm
   have hv2 := hv.new M.frm
   refine go 0 ?_
   refine x_ia q rfl rfl rfl Tryz.underlying61 sz3 rfl rfl rfl (by omega) ?_
   refine x_ld rfl rfl rfl Tryz.underlying3 rfl rfl (Sl.cell1 hu2 (intCs_get hx)) ?_
   refine go 0 ?_
   refine x_ia q rfl rfl rfl Tryz.underlying61 sz3 rfl rfl rfl (by omega) ?_
   refine x_ld rfl rfl rfl Tryz.underlying3 rfl rfl (Sl.cell1 hv2 (intCs_get hy)) ?_
   refine cnd 1 ?_ ?_
   ·intro hco3
    refine go 1 ?_
    exact ⟨by rw [decide_eq_false]; intro e; subst e; rw [hx] at hy; cases hy; exact hco3 rfl, M.frm⟩
   ·intro hco3
    refine go 0 ?_
    refine x_add _ rfl rfl rfl rfl rfl (wadd (by omega) (by omega)) ?_
    refine go 0 ?_
    exact At.back (q + 1) ⟨rfl, rfl, rfl, trivial⟩ ⟨by omega, pre_stepN hpre hx hy (by omega), M⟩ (by first | omega | (simp only; omega) | (simp; done) | (simp; omega))
  ·intro hco2
   refine go 1 ?_
   have hq1 : q = A.length := by omega
   subst hq1
   exact ⟨by rw [decide_eq_true]; rw [List.take_length, List.take_of_length_le (by omega)] at hpre; exact hpre.symm, M.frm⟩

end Go.Proofs.YtigfbpbnohkokaaGreat

namespace Go.Proofs.YtigfbpbnohkokaaGreat
open Go Go.Fw Go.RowKit
set_option linter.unusedVariables false
set_option linter.unusedSimpArgs false

section
variable {w00 w0 w : World} {X Lr : List (Nat × Obj)} {I : OvI} {l k : List Raw} {hf : HF} {u hv dv v : Value} {hl : List Opn} {who : Int} {o : OpS}
theorem fdo_o (M : OvW w00 (X ++ Lr) I l hf w0) (hF : FilesK w00 Lr u k) (hO : OpnK w00 Lr hv hl) (hI : RI k hl) (hlen : hl.length ≤ 1000) (hdv : BytesK w00 Lr dv o.d) (hod : o.d.length ≤ 131072) :
  Ret Tryz.prog 25 #[.agg #[u, hv], .int .i64 who, .agg (opC o dv).toArray] w0 fun r w' => ∃ pu cu ph ch hl' L' rv, r = .tuple #[.agg #[.slice pu (doS k (hfL hl) who o).2.1.length cu, .slice ph hl'.length ch], rv] ∧ RsK w00 (Lr ++ L') rv (doS k (hfL hl) who o).1 ∧
   FilesK w00 (Lr ++ L') (.slice pu (doS k (hfL hl) who o).2.1.length cu) (doS k (hfL hl) who o).2.1 ∧ OpnK w00 (Lr ++ L') (.slice ph hl'.length ch) hl' ∧ RI (doS k (hfL hl) who o).2.1 hl' ∧ hfL hl' = (doS k (hfL hl) who o).2.2 ∧ hl'.length ≤ hl.length + 1 ∧ OvW w00 (X ++ (Lr ++ L')) I l hf w' := by
 obtain ⟨S, L, h1, h2, M⟩ := M
 refine (fdo_c (X := X ++ (fsB I.bf I.bv (usedL l) S ++ (I.Lb ++ L))) (M.perm (perm_c fun p => by simp only [List.countP_append]; omega)) hF hO hI hlen hdv hod).mono ?_
 rintro r w' ⟨pu, cu, ph, ch, hl', L', rv, e, g1, g2, g3, g4, g5, g6, M⟩
 exact ⟨pu, cu, ph, ch, hl', L', rv, e, g1, g2, g3, g4, g5, g6, S, L, h1, h2, M.perm (perm_c fun p => by simp only [List.countP_append]; omega)⟩
theorem fnew_o (M : OvW w00 X I k hf w0) (h : FilesAt w00 v l) (hl : l.length ≤ 140) (hd : OKd l) (h0 : (newS l).2 = 0) :
  Ret Tryz.prog 23 #[v] w0 fun r w' => ∃ pu cu Lr, r = .tuple #[.agg #[.slice pu (newS l).1.length cu, .slice none 0 0], .int .i64 0] ∧ FilesK w00 Lr (.slice pu (newS l).1.length cu) (newS l).1 ∧ OvW w00 (X ++ Lr) I k hf w' := by
 obtain ⟨S, L, h1, h2, M⟩ := M
 refine (fnew_c M h hl hd).mono ?_
 rintro r w' (⟨e, _⟩ | ⟨_, pu, cu, Lr, e, hF, M⟩)
 ·exact absurd h0 e
 ·exact ⟨pu, cu, Lr, e, hF, S, L, h1, h2, M.perm (perm_c fun p => by simp only [List.countP_append]; omega)⟩
theorem fnew_b (M : Sep w00 X w0) (h : FilesAt w00 v l) (hl : l.length ≤ 140) (hd : OKd l) (h0 : (newS l).2 ≠ 0) :
  Ret Tryz.prog 23 #[v] w0 fun r w' => r = .tuple #[.agg #[.slice none 0 0, .slice none 0 0], .int .i64 (newS l).2] ∧ Sep w00 X w' := by
 refine (fnew_c M h hl hd).mono ?_
 rintro r w' (⟨_, e, M⟩ | ⟨e, _⟩)
 ·exact ⟨e, M⟩
 ·exact absurd e h0
end
theorem made_newS {l : List Raw} (h : OKd l) : madeE l = (newS l).2 := by
 unfold madeE
 rw [if_neg]
 rw [Bool.not_eq_true, List.any_eq_false]
 intro m hm
 obtain ⟨x, hx, rfl⟩ := List.mem_map.1 hm
 have h2 := (h x hx).2
 unfold badM metaR
 simp only [Bool.or_eq_true, Bool.and_eq_true, decide_eq_true_eq, not_or, not_and]
 exact ⟨by omega, fun h3 => by rw [h2 h3]; simp⟩
/-- A byte of bytes of one's own is turned. -/
theorem few_lim {al : List Ask} (h : fewO al = true) : al.length ≤ 40 ∧ ∀ a ∈ al, a.o.d.length ≤ 131072 := by
 unfold fewO at h
 simp only [Bool.and_eq_true, decide_eq_true_eq, List.all_eq_true] at h
 refine ⟨h.1, fun a ha => ?_⟩
 have := h.2 a ha
 unfold smallO at this
 simp only [Bool.and_eq_true, decide_eq_true_eq] at this
 exact this.1
theorem doS_list {l : List Raw} {hf : HF} {who : Int} {o : OpS} : (doS l hf who o).1.l.length ≤ l.length := by
 have hs : ∀ (p b : List UInt8) (r : RsS), r.l = [] → (sizeS l p b r).1.l = [] := fun p b r hr => by
  unfold sizeS
  split
  ·rfl
  ·exact hr
 have hw : ∀ p w, (writeS l p w o).1.l = [] := fun p w => by
  unfold writeS
  repeat' split
  all_goals first | rfl | exact hs _ _ _ rfl
 have ht : ∀ p w, (truncS l p w o).1.l = [] := fun p w => by
  unfold truncS
  repeat' split
  all_goals first | rfl | exact hs _ _ _ rfl
 unfold doS
 split
 ·exact Nat.zero_le _
 split
 ·unfold openS
  repeat' split
  all_goals exact Nat.zero_le _
 split
 ·unfold handleS
  split
  ·exact Nat.zero_le _
  split
  ·unfold readS
   split <;> exact Nat.zero_le _
  split
  ·simp only; rw [hw]; exact Nat.zero_le _
  split
  ·simp only; rw [ht]; exact Nat.zero_le _
  ·exact Nat.zero_le _
 split
 ·unfold namedS
  repeat' split
  all_goals first | exact Nat.zero_le _ | exact listL_len _ _
 ·exact Nat.zero_le _
theorem doS_data {l : List Raw} {hf : HF} {who : Int} {o : OpS} : (doS l hf who o).1.d.length ≤ usedL l := by
 have hs : ∀ (p b : List UInt8) (r : RsS), r.d = [] → (sizeS l p b r).1.d = [] := fun p b r hr => by
  unfold sizeS
  split
  ·rfl
  ·exact hr
 have hw : ∀ p w, (writeS l p w o).1.d = [] := fun p w => by
  unfold writeS
  repeat' split
  all_goals first | rfl | exact hs _ _ _ rfl
 have ht : ∀ p w, (truncS l p w o).1.d = [] := fun p w => by
  unfold truncS
  repeat' split
  all_goals first | rfl | exact hs _ _ _ rfl
 have hb : ∀ p, (fileB l p).length ≤ usedL l := fun p => by
  unfold fileB fileD
  split
  ·rename_i x hx
   split
   ·exact Nat.zero_le _
   ·exact usedL_mem (List.mem_of_find?_eq_some hx)
  ·exact Nat.zero_le _
 unfold doS
 split
 ·exact Nat.zero_le _
 split
 ·unfold openS
  repeat' split
  all_goals exact Nat.zero_le _
 split
 ·unfold handleS
  split
  ·exact Nat.zero_le _
  split
  ·rename_i v _ _
   unfold readS
   split
   ·exact Nat.zero_le _
   ·have := hb v.1
    simp only [List.length_take, List.length_drop]
    omega
  split
  ·simp only; rw [hw]; exact Nat.zero_le _
  split
  ·simp only; rw [ht]; exact Nat.zero_le _
  ·exact Nat.zero_le _
 split
 ·unfold namedS
  repeat' split
  all_goals exact Nat.zero_le _
 ·exact Nat.zero_le _
end Go.Proofs.YtigfbpbnohkokaaGreat

namespace Go.Proofs.YtigfbpbnohkokaaGreat
open Go Go.Fw Go.RowKit Go.Proofs
set_option linter.unusedVariables false
set_option linter.unusedSimpArgs false
set_option maxRecDepth 100000
set_option maxHeartbeats 4000000
abbrev fsM (b : Nat) (u hv : Value) : Nat × Obj := (b, .cells [u, hv].toArray 70 (0, 0))
/-- The program's files and the document's, after so many calls. -/
def PlI (w00 : World) (I : OvI) (bm j : Nat) (w : World) : Prop := ∃ k hf hop pu cu ph ch Lr, List.length hop ≤ j ∧ RI k hop ∧ hfL hop = hf ∧ FilesK w00 Lr (.slice pu k.length cu) k ∧ OpnK w00 Lr (.slice ph (List.length hop) ch) hop ∧ OvW w00 (fsM bm (.slice pu k.length cu) (.slice ph (List.length hop) ch) :: Lr) I k hf w
theorem byte_up (c : UInt8) : IntKind.wrap .u8 ((c.toNat : Int) + 1) = ((c + 1).toNat : Int) := by
 have h : c.toNat < 256 := c.toNat_lt
 rw [UInt8.toNat_add]
 show (((c.toNat : Int) + 1) % 256 : Int) = _
 simp

-- valise/valiselaw19.OverlayPlays
theorem plays_g {w0 : World} {v u : Value} {l : List Raw} {al : List Ask} (h : FilesAt w0 v l) (hl : l.length ≤ 9223372036854775807) (g : AsksAt w0 u al) (gl : al.length ≤ 9223372036854775807) (hz : madeE l = 0) : Ret Tryz.prog 9 #[v, u] w0 fun r w' => r = .bool true ∧ New w0 w' := by
 have M : Sep w0 [] w0 := St.nil w0
 obtain ⟨pv, cv, rfl⟩ := h.shape
 obtain ⟨pw, cw, rfl⟩ := g.shape
 obtain ⟨hok, hn0⟩ := made_ok hz
 refine Ret.of_W Tryz.func9 rfl Tryz.ntmps9 rfl ?_
 refine go 0 ?_
 refine x_call rfl rfl rfl rfl rfl en19 (light_c (h.new M.frm) hl) ?_
 rintro r_ wcall1 ⟨rfl, hncall1⟩
 have M := M.new hncall1
 refine ⟨trivial, ?_⟩
 refine spl 1 22 ?_ ?_
 ·intro hsp1
  refine go 0 ?_
  refine x_call rfl rfl rfl rfl rfl en11 (lives19_c) ?_
  rintro r_ wcall2 ⟨rfl, hncall2⟩
  have M := M.new hncall2
  refine ⟨trivial, ?_⟩
  refine go 1 ?_
  exact ⟨rfl, M.frm⟩
 ·intro hsp1
  have hli : l.length ≤ 130 := by unfold lightL at hsp1; simp at hsp1; omega
  refine go 0 ?_
  refine x_call rfl rfl rfl rfl rfl en14 (few19_c (g.new M.frm) gl) ?_
  rintro r_ wcall3 ⟨rfl, hncall3⟩
  have M := M.new hncall3
  refine ⟨trivial, ?_⟩
  refine cnd 1 ?_ ?_
  ·intro hco2
   refine go 0 ?_
   refine x_call rfl rfl rfl rfl rfl en11 (lives19_c) ?_
   rintro r_ wcall4 ⟨rfl, hncall4⟩
   have M := M.new hncall4
   refine ⟨trivial, ?_⟩
   refine go 1 ?_
   exact ⟨rfl, M.frm⟩
  ·intro hco2
   have hfw := few_lim (by simpa using hco2)
   refine go 0 ?_
   refine W.loop (σ := Nat) (fun q => [(0, _), (1, _), (5, .int .i64 ((q : Nat) : Int))]) (fun q w => q ≤ l.length ∧ Sep w0 [] w) (fun q => l.length - q) 0 ⟨rfl, rfl, rfl, trivial⟩ ⟨Nat.zero_le _, M⟩ ?_
   rintro q w ⟨hq, M⟩
   refine cnd 2 ?_ ?_
   ·intro hco3
    obtain ⟨x, hx⟩ := get_lt (l := l) (q := q) (by omega)
    obtain ⟨bb, off, rfl, _⟩ := h.blk (j := q) (by omega)
    obtain ⟨px, cx, hrow0, hbx⟩ := h.row hx
    have hrow := RowAt.new hrow0 M.frm
    refine go 0 ?_
    refine x_ia q rfl rfl rfl Tryz.underlying24 sz29 rfl rfl rfl (by omega) ?_
    refine go 0 ?_
    refine x_ld rfl rfl rfl Tryz.underlying4 rfl rfl (RowAt.cell hrow (j := 1) rfl) ?_
    refine spl 0 39 ?_ ?_
    ·intro hsp2
     refine go 0 ?_
     refine x_ia q rfl rfl rfl Tryz.underlying24 sz29 rfl rfl rfl (by omega) ?_
     refine go 0 ?_
     refine x_ld rfl rfl rfl Tryz.underlying27 rfl rfl (RowAt.cell hrow (j := 2) rfl) ?_
     refine spl 2 48 ?_ ?_
     ·intro hsp3
      refine go 0 ?_
      refine x_call rfl rfl rfl rfl rfl en11 (lives19_c) ?_
      rintro r_ wcall5 ⟨rfl, hncall5⟩
      have M := M.new hncall5
      refine ⟨trivial, ?_⟩
      refine go 1 ?_
      exact ⟨rfl, M.frm⟩
     ·intro hsp3
      refine go 0 ?_
      refine x_ia q rfl rfl rfl Tryz.underlying24 sz29 rfl rfl rfl (by omega) ?_
      refine go 0 ?_
      refine x_ld rfl rfl rfl Tryz.underlying27 rfl rfl (RowAt.cell hrow (j := 2) rfl) ?_
      refine cnd 2 ?_ ?_
      ·intro hco5
       refine go 0 ?_
       refine x_call rfl rfl rfl rfl rfl en11 (lives19_c) ?_
       rintro r_ wcall6 ⟨rfl, hncall6⟩
       have M := M.new hncall6
       refine ⟨trivial, ?_⟩
       refine go 1 ?_
       exact ⟨rfl, M.frm⟩
      ·intro hco5
       refine go 0 ?_
       refine x_add _ rfl rfl rfl rfl rfl (wadd (by omega) (by omega)) ?_
       refine go 0 ?_
       exact At.back (q + 1) ⟨rfl, rfl, rfl, trivial⟩ ⟨by omega, M⟩ (by first | omega | (simp only; omega) | (simp; done) | (simp; omega))
    ·intro hsp2
     refine go 0 ?_
     refine x_ia q rfl rfl rfl Tryz.underlying24 sz29 rfl rfl rfl (by omega) ?_
     refine go 0 ?_
     refine x_ld rfl rfl rfl Tryz.underlying27 rfl rfl (RowAt.cell hrow (j := 2) rfl) ?_
     refine cnd 2 ?_ ?_
     ·intro hco6
      refine go 0 ?_
      refine x_call rfl rfl rfl rfl rfl en11 (lives19_c) ?_
      rintro r_ wcall7 ⟨rfl, hncall7⟩
      have M := M.new hncall7
      refine ⟨trivial, ?_⟩
      refine go 1 ?_
      exact ⟨rfl, M.frm⟩
     ·intro hco6
      refine go 0 ?_
      refine x_add _ rfl rfl rfl rfl rfl (wadd (by omega) (by omega)) ?_
      refine go 0 ?_
      exact At.back (q + 1) ⟨rfl, rfl, rfl, trivial⟩ ⟨by omega, M⟩ (by first | omega | (simp only; omega) | (simp; done) | (simp; omega))
   ·intro hco3
    refine go 0 ?_
    refine x_call rfl rfl rfl rfl rfl en15 (made_o (Lf := []) M (FilesK.old h) (by omega)) ?_
    rintro r_ w8 ⟨po, bs, rfl, hbad, hgood⟩
    obtain ⟨I, rfl, hIb, hIs, M⟩ := hgood hz
    rw [hz]
    refine ⟨trivial, ?_⟩
    refine go 0 ?_
    refine x_call rfl rfl rfl rfl rfl en23 (fnew_o (l := l) M h (by omega) hok hn0) ?_
    rintro r_ w9 ⟨pu0, cu0, Lr0, rfl, hF0, M⟩
    have M : OvW w0 Lr0 I (newS l).1 (fun _ _ => none) w9 := M
    refine ⟨trivial, ?_⟩
    refine go 1 ?_
    intro bal1 _ M
    refine go 1 ?_
    intro _ M
    refine go 0 ?_
    refine x_nei false rfl rfl rfl rfl rfl rfl ?_
    refine go 1 ?_
    refine x_eqi true rfl rfl rfl rfl rfl rfl ?_
    refine x_neb false rfl rfl rfl Tryz.underlying4 rfl rfl rfl ?_
    refine go 0 ?_
    refine W.loop (σ := Nat) (fun j => [(1, _), (6, _), (7, _), (9, _), (11, .int .i64 ((j : Nat) : Int))]) (fun j w => j ≤ al.length ∧ PlI w0 I bal1 j w) (fun j => al.length - j) 0 ⟨rfl, rfl, rfl, rfl, rfl, trivial⟩ ⟨Nat.zero_le _, _, _, [], _, _, _, _, Lr0, Nat.le_refl _, M.ri, rfl, hF0, nilS (by decide), M⟩ ?_
    rintro j w ⟨hj, k, hf, hop, pu, cu, ph, ch, Lr, hhl, hI, rfl, hF, hO, M⟩
    have hk128 := M.le
    refine spl 2 83 ?_ ?_
    ·intro hsp4
     obtain ⟨x, hx⟩ := get_lt (l := al) (q := j) (by omega)
     obtain ⟨bb, off, rfl, _⟩ := g.blk (j := j) (by omega)
     obtain ⟨pd, cd, hrow0, hbx⟩ := g.row hx
     have hrow := RowAt.new hrow0 M.frm
     have hod := hfw.2 x (List.mem_of_getElem? hx)
     refine go 1 ?_
     refine x_ia j rfl rfl rfl Tryz.underlying42 sz54 rfl rfl rfl (by omega) ?_
     refine go 0 ?_
     refine x_ldA [_, _, _, _, _, _, _, _, _] rfl rfl rfl Tryz.underlying52 rfl sz52 rfl rfl (RowAt.tl hrow) ?_
     refine x_call rfl rfl rfl rfl rfl en24 (own_c (o := x.o) (hbx.new M.frm) hod) ?_
     rintro r_ w10 ⟨dv, Lo, rfl, ho, Mo⟩
     obtain ⟨po, co, rfl⟩ := ho.shape
     have M := M.grow Mo
     refine ⟨trivial, ?_⟩
     refine go 1 ?_
     intro bal2 _ M
     refine x_st [_, _, _, _, _, _, _, _, _] _ rfl rfl rfl sz52 rfl rfl rfl rfl (by first | exact M.at_ 0 rfl | exact M.at_ 1 rfl | exact M.at_ 2 rfl | exact M.at_ 3 rfl | exact M.at_ 4 rfl | exact M.at_ 5 rfl | exact M.at_ 6 rfl | exact M.at_ 7 rfl) rfl rfl rfl ?_
     intro wst2 hwst2
     have M : OvW w0 ((bal2, .cells (opC x.o (.slice po x.o.d.length co)).toArray 52 (0, 0)) :: (Lo ++ (fsM bal1 (.slice pu k.length cu) (.slice ph hop.length ch) :: Lr))) I k (hfL hop) wst2 := M.put 0 rfl hwst2
     refine ⟨trivial, ?_⟩
     refine go 0 ?_
     refine W.regT (by kernel_rfl) #[0, 0, 0, 6, 14, 30, 0, 127, 0, 511] (.two [(0, false), (1, false), (2, false), (3, false), (4, false), (5, false), (6, false)] 7 [(8, true)] 8 [(7, true)] (.leaf [(9, true)])) (by kernel_rfl) ?_
     intro K wD1 hK hwD1
     have M := M.drew hwD1
     have hrow := RowAt.new hrow0 M.frm
     refine ExT.two ?_
     refine go 0 ?_
     refine x_ia j rfl rfl rfl Tryz.underlying42 sz54 rfl rfl rfl (by omega) ?_
     refine go 0 ?_
     refine x_ld rfl rfl rfl Tryz.underlying3 rfl rfl (RowAt.cell hrow (j := 0) rfl) ?_
     refine x_ldA [_, _, _, _, _, _, _, _, _] rfl rfl rfl Tryz.underlying52 rfl sz52 rfl rfl ⟨_, _, _, M.at_ 0 rfl, rfl⟩ ?_
     refine Ex.fork ?_
     refine Ex.join (fun F' T' w' => ∃ bx p1 c1 q1 d1 n1 La Lb R1 R2, T' = [(6, R2), (5, R1)] ∧ F' = [(1, .slice (some ⟨bb, off, none⟩) al.length cw), (6, ptr I.bf), (7, ptr bs), (9, ptr bal1), (11, .int .i64 ((j : Nat) : Int)), (12, ptr bal2), (13, ptr bx), (102, rsV (doS k (hfL hop) x.who x.o).1 (.slice p1 (doS k (hfL hop) x.who x.o).1.d.length c1) (.slice q1 n1 d1))] ∧ BytesO La (.slice p1 (doS k (hfL hop) x.who x.o).1.d.length c1) (doS k (hfL hop) x.who x.o).1.d ∧ StrsO Lb (.slice q1 n1 d1) (doS k (hfL hop) x.who x.o).1.l ∧ OvW w0 ((bx, .cells [.int .i64 0, .int .i64 0, .int .i64 0, .slice none 0 0, .slice none 0 0].toArray 49 (0, 0)) :: (La ++ (Lb ++ ((bal2, .cells (opC x.o (.slice po x.o.d.length co)).toArray 52 (0, 0)) :: (Lo ++ (fsM bal1 (.slice pu k.length cu) (.slice ph hop.length ch) :: Lr)))))) I (doS k (hfL hop) x.who x.o).2.1 (doS k (hfL hop) x.who x.o).2.2 w') ?_ ?_ ?_
     ·refine x_call rfl rfl rfl rfl rfl en16 (do_o (o := x.o) (who := x.who) M (fun w Y hY hs => bytesO_get ho (fun y hy => hY.get (hs y (by simp [hy]))))) ?_
      rintro r_ wcall11 ⟨pcall11, ccall11, qcall11, dcall11, ncall11, Lacall11, Lbcall11, rfl, hbcall11, hscall11, M⟩
      refine pnd ?_
      refine x_alloc [_, _, _, _, _] rfl rfl rfl ze49 rfl ?_
      intro bal3 wal3 hbal3 hwal3
      have M := M.acons hbal3 hwal3
      refine ⟨⟨.inr ⟨_, _, _, M.get (x := (bal2, .cells (opC x.o (.slice po x.o.d.length co)).toArray 52 (0, 0))) (by simp), rfl⟩, .inr (RowAt.cell (RowAt.new hrow0 M.frm) (j := 0) rfl), trivial⟩, ?_⟩
      refine Ex.forkS [(1, _), (6, _), (7, _), (9, _), (11, _), (12, _), (13, _), (102, _)] ⟨rfl, rfl, rfl, rfl, rfl, rfl, rfl, rfl, trivial⟩ ?_
      exact ⟨_, _, _, _, _, _, _, _, _, _, rfl, rfl, hbcall11, hscall11, M⟩
     ·refine x_alloc [_, _, _, _, _] rfl rfl rfl ze49 rfl ?_
      intro bal4 wal4 hbal4 hwal4
      have M := M.acons hbal4 hwal4
      refine ⟨⟨.inr ⟨_, _, _, M.get (x := (bal2, .cells (opC x.o (.slice po x.o.d.length co)).toArray 52 (0, 0))) (by simp), rfl⟩, .inr (RowAt.cell (RowAt.new hrow0 M.frm) (j := 0) rfl), trivial⟩, ?_⟩
      refine x_call rfl rfl rfl rfl rfl en16 (do_o (o := x.o) (who := x.who) M (fun w Y hY hs => bytesO_get ho (fun y hy => hY.get (hs y (by simp [hy]))))) ?_
      rintro r_ wcall12 ⟨pcall12, ccall12, qcall12, dcall12, ncall12, Lacall12, Lbcall12, rfl, hbcall12, hscall12, M⟩
      refine pnd ?_
      refine Ex.forkS [(1, _), (6, _), (7, _), (9, _), (11, _), (12, _), (13, _), (102, _)] ⟨rfl, rfl, rfl, rfl, rfl, rfl, rfl, rfl, trivial⟩ ?_
      exact ⟨_, _, _, _, _, _, _, _, _, _, rfl, rfl, hbcall12, hscall12, M.perm (perm_c fun p => by simp only [List.countP_append, List.countP_cons, List.countP_nil]; omega)⟩
     rintro F1 T1 wf ⟨bx, p1, c1, q1, d1, n1, La, Lb, R1, R2, rfl, rfl, hb, hs, M⟩
     refine ExT.leaf ?_
     refine x_st [_, _, _, _, _] _ rfl rfl rfl sz49 rfl rfl rfl rfl (by first | exact M.at_ 0 rfl | exact M.at_ 1 rfl | exact M.at_ 2 rfl | exact M.at_ 3 rfl | exact M.at_ 4 rfl | exact M.at_ 5 rfl | exact M.at_ 6 rfl | exact M.at_ 7 rfl) rfl rfl rfl ?_
     intro wst3 hwst3
     have M : OvW w0 ((bx, .cells [.int .i64 (doS k (hfL hop) x.who x.o).1.e, .int .i64 (doS k (hfL hop) x.who x.o).1.h, .int .i64 (doS k (hfL hop) x.who x.o).1.n, .slice p1 (doS k (hfL hop) x.who x.o).1.d.length c1, .slice q1 n1 d1].toArray 49 (0, 0)) :: (La ++ (Lb ++ ((bal2, .cells (opC x.o (.slice po x.o.d.length co)).toArray 52 (0, 0)) :: (Lo ++ (fsM bal1 (.slice pu k.length cu) (.slice ph hop.length ch) :: Lr)))))) I (doS k (hfL hop) x.who x.o).2.1 (doS k (hfL hop) x.who x.o).2.2 wst3 := M.put 0 rfl hwst3
     have M : OvW w0 (((bx, .cells [.int .i64 (doS k (hfL hop) x.who x.o).1.e, .int .i64 (doS k (hfL hop) x.who x.o).1.h, .int .i64 (doS k (hfL hop) x.who x.o).1.n, .slice p1 (doS k (hfL hop) x.who x.o).1.d.length c1, .slice q1 n1 d1].toArray 49 (0, 0)) :: (La ++ (Lb ++ ((bal2, .cells (opC x.o (.slice po x.o.d.length co)).toArray 52 (0, 0)) :: (Lo ++ [fsM bal1 (.slice pu k.length cu) (.slice ph hop.length ch)]))))) ++ Lr) I (doS k (hfL hop) x.who x.o).2.1 (doS k (hfL hop) x.who x.o).2.2 wst3 := M.perm (perm_c fun p => by simp only [List.countP_append, List.countP_cons, List.countP_nil]; omega)
     refine pnd ?_
     refine gs 0 0 ?_
     refine W.seqC (fun F' w' => ∃ bN bY pu2 cu2 ph2 ch2 hop2 LN p3 c3 p4 c4, F' = [(1, .slice (some ⟨bb, off, none⟩) al.length cw), (6, ptr I.bf), (7, ptr bs), (9, ptr bal1), (11, .int .i64 ((j : Nat) : Int)), (12, ptr bal2), (13, ptr bx), (14, ptr bN), (15, ptr bY)] ∧ BytesK w0 LN (.slice p3 (doS k (hfL hop) x.who x.o).1.d.length c3) (doS k (hfL hop) x.who x.o).1.d ∧ SgK w0 LN (.slice p4 (doS k (hfL hop) x.who x.o).1.l.length c4) 1 (doS k (hfL hop) x.who x.o).1.l.length (strCs (doS k (hfL hop) x.who x.o).1.l) ∧ FilesK w0 LN (.slice pu2 (doS k (hfL hop) x.who x.o).2.1.length cu2) (doS k (hfL hop) x.who x.o).2.1 ∧ OpnK w0 LN (.slice ph2 hop2.length ch2) hop2 ∧ RI (doS k (hfL hop) x.who x.o).2.1 hop2 ∧ hfL hop2 = (doS k (hfL hop) x.who x.o).2.2 ∧ hop2.length ≤ hop.length + 1 ∧ OvW w0 (fsM bN (.slice pu2 (doS k (hfL hop) x.who x.o).2.1.length cu2) (.slice ph2 hop2.length ch2) :: ((bY, .cells [.int .i64 (doS k (hfL hop) x.who x.o).1.e, .int .i64 (doS k (hfL hop) x.who x.o).1.h, .int .i64 (doS k (hfL hop) x.who x.o).1.n, .slice p3 (doS k (hfL hop) x.who x.o).1.d.length c3, .slice p4 (doS k (hfL hop) x.who x.o).1.l.length c4].toArray 49 (0, 0)) :: (((bx, .cells [.int .i64 (doS k (hfL hop) x.who x.o).1.e, .int .i64 (doS k (hfL hop) x.who x.o).1.h, .int .i64 (doS k (hfL hop) x.who x.o).1.n, .slice p1 (doS k (hfL hop) x.who x.o).1.d.length c1, .slice q1 n1 d1].toArray 49 (0, 0)) :: (La ++ (Lb ++ ((bal2, .cells (opC x.o (.slice po x.o.d.length co)).toArray 52 (0, 0)) :: (Lo ++ [fsM bal1 (.slice pu k.length cu) (.slice ph hop.length ch)]))))) ++ LN))) I (doS k (hfL hop) x.who x.o).2.1 (doS k (hfL hop) x.who x.o).2.2 w') ?_ ?_
     ·refine go 0 ?_
      refine W.regT (by kernel_rfl) #[0, 0, 0, 6, 14, 30, 0, 0, 192, 448, 960, 2047, 4095, 8191, 8191, 0, 0, 114687, 262143] (.tri [(0, false), (1, false), (2, false), (3, false), (4, false), (5, false), (6, false), (7, false), (8, false), (9, false), (10, false)] 11 (.par [(12, false), (13, false), (14, false)] 15 (.leaf [(16, true), (17, true), (18, true)]) 16 (.leaf [(15, true), (17, true), (18, true)])) 15 (.par [] 11 (.leaf [(12, false), (13, false), (14, false), (16, true), (17, true), (18, true)]) 16 (.leaf [(11, true), (12, false), (13, false), (14, false), (17, true), (18, true)])) 16 (.par [] 11 (.leaf [(12, false), (13, false), (14, false), (15, true), (17, true), (18, true)]) 15 (.leaf [(11, true), (12, false), (13, false), (14, false), (17, true), (18, true)]))) (by kernel_rfl) ?_
      intro K wD2 hK hwD2
      have M := M.drew hwD2
      have hrow := RowAt.new hrow0 M.frm
      refine ExT.tri ?_
      refine x_ldA [_, _] rfl rfl rfl Tryz.underlying70 rfl sz70 rfl rfl ⟨_, _, _, M.get (x := fsM bal1 (.slice pu k.length cu) (.slice ph hop.length ch)) (by simp), rfl⟩ ?_
      refine go 0 ?_
      refine x_ia j rfl rfl rfl Tryz.underlying42 sz54 rfl rfl rfl (by omega) ?_
      refine go 0 ?_
      refine x_ld rfl rfl rfl Tryz.underlying3 rfl rfl (RowAt.cell hrow (j := 0) rfl) ?_
      refine go 0 ?_
      refine x_ia j rfl rfl rfl Tryz.underlying42 sz54 rfl rfl rfl (by omega) ?_
      refine go 0 ?_
      refine x_ldA [_, _, _, _, _, _, _, _, _] rfl rfl rfl Tryz.underlying52 rfl sz52 rfl rfl (RowAt.tl hrow) ?_
      refine Ex.fork ?_
      refine ⟨?_, ?_, ?_⟩
      ·refine x_call rfl rfl rfl rfl rfl en25 (fdo_o (X := ((bx, .cells [.int .i64 (doS k (hfL hop) x.who x.o).1.e, .int .i64 (doS k (hfL hop) x.who x.o).1.h, .int .i64 (doS k (hfL hop) x.who x.o).1.n, .slice p1 (doS k (hfL hop) x.who x.o).1.d.length c1, .slice q1 n1 d1].toArray 49 (0, 0)) :: (La ++ (Lb ++ ((bal2, .cells (opC x.o (.slice po x.o.d.length co)).toArray 52 (0, 0)) :: (Lo ++ [fsM bal1 (.slice pu k.length cu) (.slice ph hop.length ch)])))))) (who := x.who) (o := x.o) M hF hO hI (by omega) (SgK.old hbx) hod) ?_
       rintro r_ w13 ⟨pu2, cu2, ph2, ch2, hop2, L2, rv, rfl, ⟨p3, c3, p4, c4, rfl, hR1, hR2⟩, hF2, hO2, hI2, hh2, hl2, M⟩
       refine pnd ?_
       refine Ex.fork ?_
       refine ExT.par ?_
       refine go 0 ?_
       refine Ex.fork ?_
       refine ⟨?_, ?_⟩
       ·refine x_alloc [_, _] rfl rfl rfl ze70 rfl ?_
        intro bal5 wal5 hbal5 hwal5
        have M := M.acons hbal5 hwal5
        refine ⟨⟨.inr (RowAt.tl (RowAt.new hrow0 M.frm)), .inr (RowAt.cell (RowAt.new hrow0 M.frm) (j := 0) rfl), .inr ⟨_, _, _, M.get (x := fsM bal1 (.slice pu k.length cu) (.slice ph hop.length ch)) (by simp), rfl⟩, trivial⟩, ?_⟩
        refine Ex.fork ?_
        refine ExT.leaf ?_
        refine x_alloc [_, _, _, _, _] rfl rfl rfl ze49 rfl ?_
        intro bal6 wal6 hbal6 hwal6
        have M := M.acons hbal6 hwal6
        refine ⟨⟨.inr (RowAt.tl (RowAt.new hrow0 M.frm)), .inr (RowAt.cell (RowAt.new hrow0 M.frm) (j := 0) rfl), .inr ⟨_, _, _, M.get (x := fsM bal1 (.slice pu k.length cu) (.slice ph hop.length ch)) (by simp), rfl⟩, trivial⟩, ?_⟩
        refine x_st [_, _] _ rfl rfl rfl sz70 rfl rfl rfl rfl (M.at_ 1 rfl) rfl rfl rfl ?_
        intro wst4 hwst4
        have M := M.put 1 rfl hwst4
        refine pnd ?_
        refine x_st [_, _, _, _, _] _ rfl rfl rfl sz49 rfl rfl rfl rfl (M.at_ 0 rfl) rfl rfl rfl ?_
        intro wst5 hwst5
        have M := M.put 0 rfl hwst5
        refine pnd ?_
        refine go 0 ?_
        refine At.sub [(1, _), (6, _), (7, _), (9, _), (11, _), (12, _), (13, _), (14, _), (15, _)] ⟨rfl, rfl, rfl, rfl, rfl, rfl, rfl, rfl, rfl, trivial⟩ ?_
        refine At.cut_n ?_
        exact ⟨_, _, pu2, cu2, ph2, ch2, hop2, _, p3, c3, p4, c4, rfl, hR1, hR2, hF2, hO2, hI2, hh2, hl2, M.perm (List.Perm.swap _ _ _)⟩
       ·refine x_alloc [_, _, _, _, _] rfl rfl rfl ze49 rfl ?_
        intro bal7 wal7 hbal7 hwal7
        have M := M.acons hbal7 hwal7
        refine ⟨⟨.inr (RowAt.tl (RowAt.new hrow0 M.frm)), .inr (RowAt.cell (RowAt.new hrow0 M.frm) (j := 0) rfl), .inr ⟨_, _, _, M.get (x := fsM bal1 (.slice pu k.length cu) (.slice ph hop.length ch)) (by simp), rfl⟩, trivial⟩, ?_⟩
        refine Ex.fork ?_
        refine ExT.leaf ?_
        refine x_alloc [_, _] rfl rfl rfl ze70 rfl ?_
        intro bal8 wal8 hbal8 hwal8
        have M := M.acons hbal8 hwal8
        refine ⟨⟨.inr (RowAt.tl (RowAt.new hrow0 M.frm)), .inr (RowAt.cell (RowAt.new hrow0 M.frm) (j := 0) rfl), .inr ⟨_, _, _, M.get (x := fsM bal1 (.slice pu k.length cu) (.slice ph hop.length ch)) (by simp), rfl⟩, trivial⟩, ?_⟩
        refine x_st [_, _] _ rfl rfl rfl sz70 rfl rfl rfl rfl (M.at_ 0 rfl) rfl rfl rfl ?_
        intro wst6 hwst6
        have M := M.put 0 rfl hwst6
        refine pnd ?_
        refine x_st [_, _, _, _, _] _ rfl rfl rfl sz49 rfl rfl rfl rfl (M.at_ 1 rfl) rfl rfl rfl ?_
        intro wst7 hwst7
        have M := M.put 1 rfl hwst7
        refine pnd ?_
        refine go 0 ?_
        refine At.sub [(1, _), (6, _), (7, _), (9, _), (11, _), (12, _), (13, _), (14, _), (15, _)] ⟨rfl, rfl, rfl, rfl, rfl, rfl, rfl, rfl, rfl, trivial⟩ ?_
        refine At.cut_n ?_
        exact ⟨_, _, pu2, cu2, ph2, ch2, hop2, _, p3, c3, p4, c4, rfl, hR1, hR2, hF2, hO2, hI2, hh2, hl2, M⟩
      ·refine x_alloc [_, _] rfl rfl rfl ze70 rfl ?_
       intro bal9 wal9 hbal9 hwal9
       have M := M.acons hbal9 hwal9
       refine ⟨⟨.inr (RowAt.tl (RowAt.new hrow0 M.frm)), .inr (RowAt.cell (RowAt.new hrow0 M.frm) (j := 0) rfl), .inr ⟨_, _, _, M.get (x := fsM bal1 (.slice pu k.length cu) (.slice ph hop.length ch)) (by simp), rfl⟩, trivial⟩, ?_⟩
       refine Ex.fork ?_
       refine ExT.par ?_
       refine Ex.fork ?_
       refine ⟨?_, ?_⟩
       ·refine x_call rfl rfl rfl rfl rfl en25 (fdo_o (X := _ :: ((bx, .cells [.int .i64 (doS k (hfL hop) x.who x.o).1.e, .int .i64 (doS k (hfL hop) x.who x.o).1.h, .int .i64 (doS k (hfL hop) x.who x.o).1.n, .slice p1 (doS k (hfL hop) x.who x.o).1.d.length c1, .slice q1 n1 d1].toArray 49 (0, 0)) :: (La ++ (Lb ++ ((bal2, .cells (opC x.o (.slice po x.o.d.length co)).toArray 52 (0, 0)) :: (Lo ++ [fsM bal1 (.slice pu k.length cu) (.slice ph hop.length ch)])))))) (who := x.who) (o := x.o) M hF hO hI (by omega) (SgK.old hbx) hod) ?_
        rintro r_ w14 ⟨pu2, cu2, ph2, ch2, hop2, L2, rv, rfl, ⟨p3, c3, p4, c4, rfl, hR1, hR2⟩, hF2, hO2, hI2, hh2, hl2, M⟩
        refine pnd ?_
        refine Ex.fork ?_
        refine ExT.leaf ?_
        refine go 0 ?_
        refine x_alloc [_, _, _, _, _] rfl rfl rfl ze49 rfl ?_
        intro bal10 wal10 hbal10 hwal10
        have M := M.acons hbal10 hwal10
        refine ⟨⟨.inr (RowAt.tl (RowAt.new hrow0 M.frm)), .inr (RowAt.cell (RowAt.new hrow0 M.frm) (j := 0) rfl), .inr ⟨_, _, _, M.get (x := fsM bal1 (.slice pu k.length cu) (.slice ph hop.length ch)) (by simp), rfl⟩, trivial⟩, ?_⟩
        refine x_st [_, _] _ rfl rfl rfl sz70 rfl rfl rfl rfl (M.at_ 1 rfl) rfl rfl rfl ?_
        intro wst8 hwst8
        have M := M.put 1 rfl hwst8
        refine pnd ?_
        refine x_st [_, _, _, _, _] _ rfl rfl rfl sz49 rfl rfl rfl rfl (M.at_ 0 rfl) rfl rfl rfl ?_
        intro wst9 hwst9
        have M := M.put 0 rfl hwst9
        refine pnd ?_
        refine go 0 ?_
        refine At.sub [(1, _), (6, _), (7, _), (9, _), (11, _), (12, _), (13, _), (14, _), (15, _)] ⟨rfl, rfl, rfl, rfl, rfl, rfl, rfl, rfl, rfl, trivial⟩ ?_
        refine At.cut_n ?_
        exact ⟨_, _, pu2, cu2, ph2, ch2, hop2, _, p3, c3, p4, c4, rfl, hR1, hR2, hF2, hO2, hI2, hh2, hl2, M.perm (List.Perm.swap _ _ _)⟩
       ·refine x_alloc [_, _, _, _, _] rfl rfl rfl ze49 rfl ?_
        intro bal11 wal11 hbal11 hwal11
        have M := M.acons hbal11 hwal11
        refine ⟨⟨.inr (RowAt.tl (RowAt.new hrow0 M.frm)), .inr (RowAt.cell (RowAt.new hrow0 M.frm) (j := 0) rfl), .inr ⟨_, _, _, M.get (x := fsM bal1 (.slice pu k.length cu) (.slice ph hop.length ch)) (by simp), rfl⟩, trivial⟩, ?_⟩
        refine Ex.fork ?_
        refine ExT.leaf ?_
        refine x_call rfl rfl rfl rfl rfl en25 (fdo_o (X := _ :: _ :: ((bx, .cells [.int .i64 (doS k (hfL hop) x.who x.o).1.e, .int .i64 (doS k (hfL hop) x.who x.o).1.h, .int .i64 (doS k (hfL hop) x.who x.o).1.n, .slice p1 (doS k (hfL hop) x.who x.o).1.d.length c1, .slice q1 n1 d1].toArray 49 (0, 0)) :: (La ++ (Lb ++ ((bal2, .cells (opC x.o (.slice po x.o.d.length co)).toArray 52 (0, 0)) :: (Lo ++ [fsM bal1 (.slice pu k.length cu) (.slice ph hop.length ch)])))))) (who := x.who) (o := x.o) M hF hO hI (by omega) (SgK.old hbx) hod) ?_
        rintro r_ w15 ⟨pu2, cu2, ph2, ch2, hop2, L2, rv, rfl, ⟨p3, c3, p4, c4, rfl, hR1, hR2⟩, hF2, hO2, hI2, hh2, hl2, M⟩
        refine pnd ?_
        refine go 0 ?_
        refine x_st [_, _] _ rfl rfl rfl sz70 rfl rfl rfl rfl (M.at_ 1 rfl) rfl rfl rfl ?_
        intro wst10 hwst10
        have M := M.put 1 rfl hwst10
        refine pnd ?_
        refine x_st [_, _, _, _, _] _ rfl rfl rfl sz49 rfl rfl rfl rfl (M.at_ 0 rfl) rfl rfl rfl ?_
        intro wst11 hwst11
        have M := M.put 0 rfl hwst11
        refine pnd ?_
        refine go 0 ?_
        refine At.sub [(1, _), (6, _), (7, _), (9, _), (11, _), (12, _), (13, _), (14, _), (15, _)] ⟨rfl, rfl, rfl, rfl, rfl, rfl, rfl, rfl, rfl, trivial⟩ ?_
        refine At.cut_n ?_
        exact ⟨_, _, pu2, cu2, ph2, ch2, hop2, _, p3, c3, p4, c4, rfl, hR1, hR2, hF2, hO2, hI2, hh2, hl2, M.perm (List.Perm.swap _ _ _)⟩
      ·refine x_alloc [_, _, _, _, _] rfl rfl rfl ze49 rfl ?_
       intro bal12 wal12 hbal12 hwal12
       have M := M.acons hbal12 hwal12
       refine ⟨⟨.inr (RowAt.tl (RowAt.new hrow0 M.frm)), .inr (RowAt.cell (RowAt.new hrow0 M.frm) (j := 0) rfl), .inr ⟨_, _, _, M.get (x := fsM bal1 (.slice pu k.length cu) (.slice ph hop.length ch)) (by simp), rfl⟩, trivial⟩, ?_⟩
       refine Ex.fork ?_
       refine ExT.par ?_
       refine Ex.fork ?_
       refine ⟨?_, ?_⟩
       ·refine x_call rfl rfl rfl rfl rfl en25 (fdo_o (X := _ :: ((bx, .cells [.int .i64 (doS k (hfL hop) x.who x.o).1.e, .int .i64 (doS k (hfL hop) x.who x.o).1.h, .int .i64 (doS k (hfL hop) x.who x.o).1.n, .slice p1 (doS k (hfL hop) x.who x.o).1.d.length c1, .slice q1 n1 d1].toArray 49 (0, 0)) :: (La ++ (Lb ++ ((bal2, .cells (opC x.o (.slice po x.o.d.length co)).toArray 52 (0, 0)) :: (Lo ++ [fsM bal1 (.slice pu k.length cu) (.slice ph hop.length ch)])))))) (who := x.who) (o := x.o) M hF hO hI (by omega) (SgK.old hbx) hod) ?_
        rintro r_ w16 ⟨pu2, cu2, ph2, ch2, hop2, L2, rv, rfl, ⟨p3, c3, p4, c4, rfl, hR1, hR2⟩, hF2, hO2, hI2, hh2, hl2, M⟩
        refine pnd ?_
        refine Ex.fork ?_
        refine ExT.leaf ?_
        refine go 0 ?_
        refine x_alloc [_, _] rfl rfl rfl ze70 rfl ?_
        intro bal13 wal13 hbal13 hwal13
        have M := M.acons hbal13 hwal13
        refine ⟨⟨.inr (RowAt.tl (RowAt.new hrow0 M.frm)), .inr (RowAt.cell (RowAt.new hrow0 M.frm) (j := 0) rfl), .inr ⟨_, _, _, M.get (x := fsM bal1 (.slice pu k.length cu) (.slice ph hop.length ch)) (by simp), rfl⟩, trivial⟩, ?_⟩
        refine x_st [_, _] _ rfl rfl rfl sz70 rfl rfl rfl rfl (M.at_ 0 rfl) rfl rfl rfl ?_
        intro wst12 hwst12
        have M := M.put 0 rfl hwst12
        refine pnd ?_
        refine x_st [_, _, _, _, _] _ rfl rfl rfl sz49 rfl rfl rfl rfl (M.at_ 1 rfl) rfl rfl rfl ?_
        intro wst13 hwst13
        have M := M.put 1 rfl hwst13
        refine pnd ?_
        refine go 0 ?_
        refine At.sub [(1, _), (6, _), (7, _), (9, _), (11, _), (12, _), (13, _), (14, _), (15, _)] ⟨rfl, rfl, rfl, rfl, rfl, rfl, rfl, rfl, rfl, trivial⟩ ?_
        refine At.cut_n ?_
        exact ⟨_, _, pu2, cu2, ph2, ch2, hop2, _, p3, c3, p4, c4, rfl, hR1, hR2, hF2, hO2, hI2, hh2, hl2, M⟩
       ·refine x_alloc [_, _] rfl rfl rfl ze70 rfl ?_
        intro bal14 wal14 hbal14 hwal14
        have M := M.acons hbal14 hwal14
        refine ⟨⟨.inr (RowAt.tl (RowAt.new hrow0 M.frm)), .inr (RowAt.cell (RowAt.new hrow0 M.frm) (j := 0) rfl), .inr ⟨_, _, _, M.get (x := fsM bal1 (.slice pu k.length cu) (.slice ph hop.length ch)) (by simp), rfl⟩, trivial⟩, ?_⟩
        refine Ex.fork ?_
        refine ExT.leaf ?_
        refine x_call rfl rfl rfl rfl rfl en25 (fdo_o (X := _ :: _ :: ((bx, .cells [.int .i64 (doS k (hfL hop) x.who x.o).1.e, .int .i64 (doS k (hfL hop) x.who x.o).1.h, .int .i64 (doS k (hfL hop) x.who x.o).1.n, .slice p1 (doS k (hfL hop) x.who x.o).1.d.length c1, .slice q1 n1 d1].toArray 49 (0, 0)) :: (La ++ (Lb ++ ((bal2, .cells (opC x.o (.slice po x.o.d.length co)).toArray 52 (0, 0)) :: (Lo ++ [fsM bal1 (.slice pu k.length cu) (.slice ph hop.length ch)])))))) (who := x.who) (o := x.o) M hF hO hI (by omega) (SgK.old hbx) hod) ?_
        rintro r_ w17 ⟨pu2, cu2, ph2, ch2, hop2, L2, rv, rfl, ⟨p3, c3, p4, c4, rfl, hR1, hR2⟩, hF2, hO2, hI2, hh2, hl2, M⟩
        refine pnd ?_
        refine go 0 ?_
        refine x_st [_, _] _ rfl rfl rfl sz70 rfl rfl rfl rfl (M.at_ 0 rfl) rfl rfl rfl ?_
        intro wst14 hwst14
        have M := M.put 0 rfl hwst14
        refine pnd ?_
        refine x_st [_, _, _, _, _] _ rfl rfl rfl sz49 rfl rfl rfl rfl (M.at_ 1 rfl) rfl rfl rfl ?_
        intro wst15 hwst15
        have M := M.put 1 rfl hwst15
        refine pnd ?_
        refine go 0 ?_
        refine At.sub [(1, _), (6, _), (7, _), (9, _), (11, _), (12, _), (13, _), (14, _), (15, _)] ⟨rfl, rfl, rfl, rfl, rfl, rfl, rfl, rfl, rfl, trivial⟩ ?_
        refine At.cut_n ?_
        exact ⟨_, _, pu2, cu2, ph2, ch2, hop2, _, p3, c3, p4, c4, rfl, hR1, hR2, hF2, hO2, hI2, hh2, hl2, M⟩
     rintro F1 wc ⟨bN, bY, pu2, cu2, ph2, ch2, hop2, LN, p3, c3, p4, c4, rfl, hR1, hR2, hF2, hO2, hI2, hh2, hl2, M⟩
     have M : OvW w0 (fsM bN (.slice pu2 (doS k (hfL hop) x.who x.o).2.1.length cu2) (.slice ph2 hop2.length ch2) :: (fsM bal1 (.slice pu k.length cu) (.slice ph hop.length ch) :: ((bx, .cells [.int .i64 (doS k (hfL hop) x.who x.o).1.e, .int .i64 (doS k (hfL hop) x.who x.o).1.h, .int .i64 (doS k (hfL hop) x.who x.o).1.n, .slice p1 (doS k (hfL hop) x.who x.o).1.d.length c1, .slice q1 n1 d1].toArray 49 (0, 0)) :: ((bY, .cells [.int .i64 (doS k (hfL hop) x.who x.o).1.e, .int .i64 (doS k (hfL hop) x.who x.o).1.h, .int .i64 (doS k (hfL hop) x.who x.o).1.n, .slice p3 (doS k (hfL hop) x.who x.o).1.d.length c3, .slice p4 (doS k (hfL hop) x.who x.o).1.l.length c4].toArray 49 (0, 0)) :: ((bal2, .cells (opC x.o (.slice po x.o.d.length co)).toArray 52 (0, 0)) :: (Lo ++ (La ++ (Lb ++ LN)))))))) I (doS k (hfL hop) x.who x.o).2.1 (doS k (hfL hop) x.who x.o).2.2 wc := M.perm (perm_c fun p => by simp only [List.countP_append, List.countP_cons, List.countP_nil]; omega)
     refine go 0 ?_
     refine x_ldA [_, _] rfl rfl rfl Tryz.underlying70 rfl sz70 rfl rfl ⟨_, _, _, M.at_ 0 rfl, rfl⟩ ?_
     refine x_st [_, _] _ rfl rfl rfl sz70 rfl rfl rfl rfl (M.at_ 1 rfl) rfl rfl rfl ?_
     intro wst16 hwst16
     have M := M.put 1 rfl hwst16
     have M : OvW w0 (fsM bal1 (.slice pu2 (doS k (hfL hop) x.who x.o).2.1.length cu2) (.slice ph2 hop2.length ch2) :: ((bx, .cells [.int .i64 (doS k (hfL hop) x.who x.o).1.e, .int .i64 (doS k (hfL hop) x.who x.o).1.h, .int .i64 (doS k (hfL hop) x.who x.o).1.n, .slice p1 (doS k (hfL hop) x.who x.o).1.d.length c1, .slice q1 n1 d1].toArray 49 (0, 0)) :: ((bY, .cells [.int .i64 (doS k (hfL hop) x.who x.o).1.e, .int .i64 (doS k (hfL hop) x.who x.o).1.h, .int .i64 (doS k (hfL hop) x.who x.o).1.n, .slice p3 (doS k (hfL hop) x.who x.o).1.d.length c3, .slice p4 (doS k (hfL hop) x.who x.o).1.l.length c4].toArray 49 (0, 0)) :: ((bal2, .cells (opC x.o (.slice po x.o.d.length co)).toArray 52 (0, 0)) :: (Lo ++ (La ++ (Lb ++ LN))))))) I (doS k (hfL hop) x.who x.o).2.1 (doS k (hfL hop) x.who x.o).2.2 wst16 := M.tail
     refine ⟨trivial, ?_⟩
     refine go 0 ?_
     refine W.loop (σ := Nat × List UInt8 × List (Nat × Obj)) (fun q => [(1, _), (6, _), (7, _), (9, _), (11, _), (12, _), (13, _), (15, _), (16, .int .i64 ((q.1 : Nat) : Int))]) (fun q w => q.1 ≤ x.o.d.length ∧ q.2.1.length = x.o.d.length ∧ OwL q.2.2 (.slice po x.o.d.length co) 1 x.o.d.length (byteCs q.2.1) ∧ OvW w0 (fsM bal1 (.slice pu2 (doS k (hfL hop) x.who x.o).2.1.length cu2) (.slice ph2 hop2.length ch2) :: ((bx, .cells [.int .i64 (doS k (hfL hop) x.who x.o).1.e, .int .i64 (doS k (hfL hop) x.who x.o).1.h, .int .i64 (doS k (hfL hop) x.who x.o).1.n, .slice p1 (doS k (hfL hop) x.who x.o).1.d.length c1, .slice q1 n1 d1].toArray 49 (0, 0)) :: ((bY, .cells [.int .i64 (doS k (hfL hop) x.who x.o).1.e, .int .i64 (doS k (hfL hop) x.who x.o).1.h, .int .i64 (doS k (hfL hop) x.who x.o).1.n, .slice p3 (doS k (hfL hop) x.who x.o).1.d.length c3, .slice p4 (doS k (hfL hop) x.who x.o).1.l.length c4].toArray 49 (0, 0)) :: ((bal2, .cells (opC x.o (.slice po x.o.d.length co)).toArray 52 (0, 0)) :: (q.2.2 ++ (La ++ (Lb ++ LN))))))) I (doS k (hfL hop) x.who x.o).2.1 (doS k (hfL hop) x.who x.o).2.2 w) (fun q => x.o.d.length - q.1) (0, x.o.d, Lo) ⟨rfl, rfl, rfl, rfl, rfl, rfl, rfl, rfl, rfl, trivial⟩ ⟨Nat.zero_le _, rfl, ho, M⟩ ?_
     rintro ⟨q, d2, Lo2⟩ w ⟨hq, hd2, ho2, M⟩
     simp only at hq hd2 ho2 M
     refine go 0 ?_
     refine x_ld rfl rfl rfl Tryz.underlying27 rfl rfl (cell_of (M.at_ 3 rfl) rfl) ?_
     refine cnd 2 ?_ ?_
     ·intro hco9
      obtain ⟨c, hc⟩ := get_lt (l := d2) (q := q) (by omega)
      obtain ⟨blk, cap, rest, T, hv, rfl, hset⟩ := bytes_set (j := q) (c := c + 1) ho2 (by omega)
      cases hv
      refine go 0 ?_
      refine W.regD (by kernel_rfl) #[0, 1, 0, 0, 8, 0, 56, 120, 248, 511, 1023] [(0, false), (1, false), (2, false), (3, false), (4, false), (5, false), (6, false), (7, false), (8, false), (9, false), (10, true)] (by kernel_rfl) ?_
      intro K wD3 hK hwD3
      have M := M.drew hwD3
      refine go 0 ?_
      refine x_ld rfl rfl rfl Tryz.underlying27 rfl rfl (cell_of (M.at_ 3 rfl) rfl) ?_
      refine go 0 ?_
      refine x_ld rfl rfl rfl Tryz.underlying27 rfl rfl (cell_of (M.at_ 3 rfl) rfl) ?_
      refine go 0 ?_
      refine x_ia q rfl rfl rfl Tryz.underlying27 sz5 rfl rfl rfl (by omega) ?_
      refine x_ld rfl rfl rfl Tryz.underlying5 rfl rfl (Sl.cell1 ((OwL.sl ho2 (by decide)).get (fun y hy => M.get (List.mem_cons_of_mem _ (List.mem_cons_of_mem _ (List.mem_cons_of_mem _ (List.mem_cons_of_mem _ (List.mem_append_left _ hy))))))) (byteCs_get hc)) ?_
      refine x_add ((c + 1).toNat : Int) rfl rfl rfl rfl rfl (byte_up c) ?_
      refine x_ia q rfl rfl rfl Tryz.underlying27 sz5 rfl rfl rfl (by omega) ?_
      refine x_st [_] _ rfl rfl rfl sz5 rfl rfl rfl rfl (M.at_ 4 rfl) rfl (Nat.ble_eq_true_of_le (by rw [List.length_append, byteCs_len]; simp only [List.length_cons, List.length_nil]; omega)) rfl ?_
      intro wst17 hwst17
      have M := M.put 4 rfl hwst17
      refine pnd ?_
      refine go 0 ?_
      refine x_add _ rfl rfl rfl rfl rfl (wadd (by omega) (by omega)) ?_
      refine go 0 ?_
      exact At.back ((q + 1, _, _)) ⟨rfl, rfl, rfl, rfl, rfl, rfl, rfl, rfl, rfl, trivial⟩ ⟨by simp only; omega, by simp only [List.length_set]; omega, hset, M⟩ (by first | omega | (simp only; omega) | (simp; done) | (simp; omega))
     ·intro hco9
      refine go 0 ?_
      refine x_ia j rfl rfl rfl Tryz.underlying42 sz54 rfl rfl rfl (by omega) ?_
      refine go 0 ?_
      refine x_ld rfl rfl rfl Tryz.underlying3 rfl rfl (RowAt.cell (RowAt.new hrow0 M.frm) (j := 0) rfl) ?_
      refine go 0 ?_
      refine W.regD (by kernel_rfl) #[0, 0, 3, 7, 15, 31, 63, 31, 255, 511, 1023, 2047, 4095, 4095, 16383, 4095, 4095, 131071, 262143, 524287, 1048575, 2097151, 4194303, 4194303, 4194303, 4194303, 54525951, 121634815, 255852543, 524287999, 1073741823, 4194303, 4194303, 4194303, 4194303, 25773998079, 60133736447, 128853213183, 266292166655, 549755813887, 1099511627775, 2199023255551, 4398046511103, 8796093022207, 17592186044415, 35184372088831, 70368744177663, 140737488355327] [(0, false), (1, false), (2, true), (3, false), (4, false), (5, false), (7, false), (6, true), (8, true), (9, false), (10, false), (11, false), (12, false), (13, false), (15, false), (16, false), (14, true), (17, true), (18, true), (19, false), (20, false), (21, false), (22, false), (23, false), (24, false), (25, false), (26, false), (27, false), (28, false), (29, false), (31, false), (32, false), (33, false), (34, false), (35, false), (36, false), (37, false), (38, false), (30, true), (39, true), (40, false), (41, false), (42, false), (43, false), (44, false), (45, false), (46, false), (47, false)] (by kernel_rfl) ?_
      intro K wD4 hK hwD4
      have M := M.drew hwD4
      have hrow := RowAt.new hrow0 M.frm
      refine x_ldA [_, _, _, _, _] rfl rfl rfl Tryz.underlying49 rfl sz49 rfl rfl ⟨_, _, _, (M.get (x := (bx, .cells [.int .i64 (doS k (hfL hop) x.who x.o).1.e, .int .i64 (doS k (hfL hop) x.who x.o).1.h, .int .i64 (doS k (hfL hop) x.who x.o).1.n, .slice p1 (doS k (hfL hop) x.who x.o).1.d.length c1, .slice q1 n1 d1].toArray 49 (0, 0))) (by simp)), rfl⟩ ?_
      refine x_ldA [_, _, _, _, _] rfl rfl rfl Tryz.underlying49 rfl sz49 rfl rfl ⟨_, _, _, (M.get (x := (bY, .cells [.int .i64 (doS k (hfL hop) x.who x.o).1.e, .int .i64 (doS k (hfL hop) x.who x.o).1.h, .int .i64 (doS k (hfL hop) x.who x.o).1.n, .slice p3 (doS k (hfL hop) x.who x.o).1.d.length c3, .slice p4 (doS k (hfL hop) x.who x.o).1.l.length c4].toArray 49 (0, 0))) (by simp)), rfl⟩ ?_
      refine x_call rfl rfl rfl rfl rfl en26 (rsame_c (a := (doS k (hfL hop) x.who x.o).1) (b := (doS k (hfL hop) x.who x.o).1) (bytesO_get hb (fun y hy => M.get (by simp [hy]))) (strsO_get hs (fun y hy => M.get (by simp [hy]))) (hR1 _ _ M.sep (fun y hy => by simp [hy])) (hR2 _ _ M.sep (fun y hy => by simp [hy])) (by have := doS_list (l := k) (hf := hfL hop) (who := x.who) (o := x.o); omega)) ?_
      rintro r_ w18 ⟨rfl, hn18⟩
      have M := M.new hn18
      rw [decide_eq_true rfl]
      refine pnd ?_
      refine go 1 ?_
      refine x_ldA [_, _] rfl rfl rfl Tryz.underlying70 rfl sz70 rfl rfl ⟨_, _, _, (M.get (x := fsM bal1 (.slice pu2 (doS k (hfL hop) x.who x.o).2.1.length cu2) (.slice ph2 hop2.length ch2)) (by simp)), rfl⟩ ?_
      refine x_call rfl rfl rfl rfl rfl en18 (used_o M) ?_
      rintro r_ wcall19 ⟨rfl, rfl⟩
      refine ⟨⟨(by first | exact .inr ⟨_, _, _, (by first | exact M.at_ 0 rfl | exact M.at_ 1 rfl | exact M.at_ 2 rfl | exact M.at_ 3 rfl | exact M.at_ 4 rfl | exact M.at_ 5 rfl | exact M.at_ 6 rfl | exact M.at_ 7 rfl), rfl⟩ | exact .inr ⟨_, _, _, (M.get (x := fsM bal1 (.slice pu2 (doS k (hfL hop) x.who x.o).2.1.length cu2) (.slice ph2 hop2.length ch2)) (by simp)), rfl⟩), .inl (by kernel_rfl), .inl (by kernel_rfl), trivial⟩, ?_⟩
      refine x_call rfl rfl rfl rfl rfl en27 (rused_c (hF2.at_ M.sep (fun y hy => by simp [hy])) (by have := M.le; omega) (by have := M.used; omega)) ?_
      rintro r_ w20 ⟨rfl, hn20⟩
      have M := M.new hn20
      refine pnd ?_
      refine x_nei false rfl rfl rfl rfl rfl (by simp) ?_
      refine go 0 ?_
      refine x_ldA [_, _] rfl rfl rfl Tryz.underlying70 rfl sz70 rfl rfl ⟨_, _, _, (M.get (x := fsM bal1 (.slice pu2 (doS k (hfL hop) x.who x.o).2.1.length cu2) (.slice ph2 hop2.length ch2)) (by simp)), rfl⟩ ?_
      refine go 0 ?_
      refine x_call rfl rfl rfl rfl rfl en22 (hdls_o M) ?_
      rintro r_ wcall21 ⟨pcall21, ccall21, Lcall21, rfl, hicall21, M⟩
      refine ⟨⟨(by first | exact .inr ⟨_, _, _, (by first | exact M.at_ 0 rfl | exact M.at_ 1 rfl | exact M.at_ 2 rfl | exact M.at_ 3 rfl | exact M.at_ 4 rfl | exact M.at_ 5 rfl | exact M.at_ 6 rfl | exact M.at_ 7 rfl), rfl⟩ | exact .inr ⟨_, _, _, (M.get (x := fsM bal1 (.slice pu2 (doS k (hfL hop) x.who x.o).2.1.length cu2) (.slice ph2 hop2.length ch2)) (by simp)), rfl⟩), .inl (by kernel_rfl), .inl (by kernel_rfl), .inl (by kernel_rfl), trivial⟩, ?_⟩
      refine x_call rfl rfl rfl rfl rfl en29 (rhdls_c (hO2 _ _ M.sep (fun y hy => by simp [hy])) (by omega)) ?_
      rintro r_ w22 ⟨L22, hi22, M22⟩
      rw [hh2] at hi22
      obtain ⟨p22, c22, rfl⟩ := hi22.shape
      have M := M.grow M22
      refine pnd ?_
      refine x_call rfl rfl rfl rfl rfl en28 (isame_c (intsO_at hicall21 (fun y hy => M.get (by simp [hy]))) (intsO_at hi22 (fun y hy => M.get (by simp [hy]))) (by have : (openL (doS k (hfL hop) x.who x.o).2.2 x.who).length ≤ 16 := openN_len _ _ 16; omega)) ?_
      rintro r_ w23 ⟨rfl, hn23⟩
      have M := M.new hn23
      rw [decide_eq_true rfl]
      refine pnd ?_
      refine go 1 ?_
      refine x_ia j rfl rfl rfl Tryz.underlying42 sz54 rfl rfl rfl (by omega) ?_
      refine go 0 ?_
      refine x_ld rfl rfl rfl Tryz.underlying3 rfl rfl (RowAt.cell (RowAt.tl (RowAt.new hrow0 M.frm)) (j := 3) rfl) ?_
      refine x_ldA [_, _] rfl rfl rfl Tryz.underlying70 rfl sz70 rfl rfl ⟨_, _, _, (M.get (x := fsM bal1 (.slice pu2 (doS k (hfL hop) x.who x.o).2.1.length cu2) (.slice ph2 hop2.length ch2)) (by simp)), rfl⟩ ?_
      refine go 0 ?_
      refine x_ia j rfl rfl rfl Tryz.underlying42 sz54 rfl rfl rfl (by omega) ?_
      refine go 0 ?_
      refine x_ld rfl rfl rfl Tryz.underlying3 rfl rfl (RowAt.cell (RowAt.tl (RowAt.new hrow0 M.frm)) (j := 3) rfl) ?_
      refine x_call rfl rfl rfl rfl rfl en21 (ffile_o M) ?_
      rintro r_ wcall24 ⟨rfl, rfl⟩
      refine ⟨⟨(by first | exact .inr (cell_of (by first | exact M.at_ 0 rfl | exact M.at_ 1 rfl | exact M.at_ 2 rfl | exact M.at_ 3 rfl | exact M.at_ 4 rfl | exact M.at_ 5 rfl | exact M.at_ 6 rfl | exact M.at_ 7 rfl) rfl) | exact .inr (RowAt.cell (RowAt.tl (RowAt.new hrow0 M.frm)) (j := 3) rfl)), (by first | exact .inr ⟨_, _, _, (by first | exact M.at_ 0 rfl | exact M.at_ 1 rfl | exact M.at_ 2 rfl | exact M.at_ 3 rfl | exact M.at_ 4 rfl | exact M.at_ 5 rfl | exact M.at_ 6 rfl | exact M.at_ 7 rfl), rfl⟩ | exact .inr ⟨_, _, _, (M.get (x := fsM bal1 (.slice pu2 (doS k (hfL hop) x.who x.o).2.1.length cu2) (.slice ph2 hop2.length ch2)) (by simp)), rfl⟩), .inl (by kernel_rfl), .inl (by kernel_rfl), .inl (by kernel_rfl), .inl (by kernel_rfl), .inl (by kernel_rfl), trivial⟩, ?_⟩
      refine x_call rfl rfl rfl rfl rfl en30 (rffile_c (hO2 _ _ M.sep (fun y hy => by simp [hy])) (by omega)) ?_
      rintro r_ w25 ⟨rfl, hn25⟩
      have M := M.new hn25
      rw [hh2]
      refine pnd ?_
      refine x_neS false rfl rfl rfl rfl rfl (by simp) ?_
      refine go 0 ?_
      refine x_ld rfl rfl rfl Tryz.underlying4 rfl rfl (cell_of (show _ = some (Obj.cells [_, .bool false].toArray 79 (0, 0)) from M.base hIs) rfl) ?_
      refine go 0 ?_
      have M := (M.dropL.dropL.perm (Y := fsM bal1 (.slice pu2 (doS k (hfL hop) x.who x.o).2.1.length cu2) (.slice ph2 hop2.length ch2) :: ((bx, .cells [.int .i64 (doS k (hfL hop) x.who x.o).1.e, .int .i64 (doS k (hfL hop) x.who x.o).1.h, .int .i64 (doS k (hfL hop) x.who x.o).1.n, .slice p1 (doS k (hfL hop) x.who x.o).1.d.length c1, .slice q1 n1 d1].toArray 49 (0, 0)) :: (La ++ (LN ++ ((bY, .cells [.int .i64 (doS k (hfL hop) x.who x.o).1.e, .int .i64 (doS k (hfL hop) x.who x.o).1.h, .int .i64 (doS k (hfL hop) x.who x.o).1.n, .slice p3 (doS k (hfL hop) x.who x.o).1.d.length c3, .slice p4 (doS k (hfL hop) x.who x.o).1.l.length c4].toArray 49 (0, 0)) :: ((bal2, .cells (opC x.o (.slice po x.o.d.length co)).toArray 52 (0, 0)) :: (Lo2 ++ Lb))))))) (perm_c fun p => by simp only [List.countP_append, List.countP_cons, List.countP_nil]; omega))
      refine W.loop (σ := Nat × List UInt8 × List (Nat × Obj)) (fun q => [(1, _), (6, _), (7, _), (9, _), (11, _), (13, _), (18, .int .i64 ((q.1 : Nat) : Int))]) (fun q w => q.1 ≤ (doS k (hfL hop) x.who x.o).1.d.length ∧ q.2.1.length = (doS k (hfL hop) x.who x.o).1.d.length ∧ OwL q.2.2 (.slice p1 (doS k (hfL hop) x.who x.o).1.d.length c1) 1 (doS k (hfL hop) x.who x.o).1.d.length (byteCs q.2.1) ∧ OvW w0 (fsM bal1 (.slice pu2 (doS k (hfL hop) x.who x.o).2.1.length cu2) (.slice ph2 hop2.length ch2) :: ((bx, .cells [.int .i64 (doS k (hfL hop) x.who x.o).1.e, .int .i64 (doS k (hfL hop) x.who x.o).1.h, .int .i64 (doS k (hfL hop) x.who x.o).1.n, .slice p1 (doS k (hfL hop) x.who x.o).1.d.length c1, .slice q1 n1 d1].toArray 49 (0, 0)) :: (q.2.2 ++ LN))) I (doS k (hfL hop) x.who x.o).2.1 (doS k (hfL hop) x.who x.o).2.2 w) (fun q => (doS k (hfL hop) x.who x.o).1.d.length - q.1) (0, (doS k (hfL hop) x.who x.o).1.d, La) ⟨rfl, rfl, rfl, rfl, rfl, rfl, rfl, trivial⟩ ⟨Nat.zero_le _, rfl, hb, M.sub (.cons_cons _ (.cons_cons _ (List.Sublist.append (List.Sublist.refl _) (List.sublist_append_left _ _))))⟩ ?_
      rintro ⟨q3, d3, La3⟩ w ⟨hq3, hd3, hb3, M⟩
      simp only at hq3 hd3 hb3 M
      have hdl : (doS k (hfL hop) x.who x.o).1.d.length ≤ 262144 := Nat.le_trans doS_data hI.us
      refine go 0 ?_
      refine x_ld rfl rfl rfl Tryz.underlying27 rfl rfl (cell_of (M.at_ 1 rfl) rfl) ?_
      refine cnd 2 ?_ ?_
      ·intro hco11
       obtain ⟨c, hc⟩ := get_lt (l := d3) (q := q3) (by omega)
       obtain ⟨blk3, cap3, rest3, T3, hv, rfl, hset⟩ := bytes_set (j := q3) (c := c + 1) hb3 (by omega)
       cases hv
       refine go 0 ?_
       refine W.regD (by kernel_rfl) #[0, 1, 0, 0, 8, 0, 56, 120, 248, 511, 1023] [(0, false), (1, false), (2, false), (3, false), (4, false), (5, false), (6, false), (7, false), (8, false), (9, false), (10, true)] (by kernel_rfl) ?_
       intro K wD5 hK hwD5
       have M := M.drew hwD5
       refine go 0 ?_
       refine x_ld rfl rfl rfl Tryz.underlying27 rfl rfl (cell_of (M.at_ 1 rfl) rfl) ?_
       refine go 0 ?_
       refine x_ld rfl rfl rfl Tryz.underlying27 rfl rfl (cell_of (M.at_ 1 rfl) rfl) ?_
       refine go 0 ?_
       refine x_ia q3 rfl rfl rfl Tryz.underlying27 sz5 rfl rfl rfl (by omega) ?_
       refine x_ld rfl rfl rfl Tryz.underlying5 rfl rfl (Sl.cell1 ((OwL.sl hb3 (by decide)).get (fun y hy => M.get (List.mem_cons_of_mem _ (List.mem_cons_of_mem _ (List.mem_append_left _ hy))))) (byteCs_get hc)) ?_
       refine x_add ((c + 1).toNat : Int) rfl rfl rfl rfl rfl (byte_up c) ?_
       refine x_ia q3 rfl rfl rfl Tryz.underlying27 sz5 rfl rfl rfl (by omega) ?_
       refine x_st [_] _ rfl rfl rfl sz5 rfl rfl rfl rfl (M.at_ 2 rfl) rfl (Nat.ble_eq_true_of_le (by rw [List.length_append, byteCs_len]; simp only [List.length_cons, List.length_nil]; omega)) rfl ?_
       intro wst18 hwst18
       have M := M.put 2 rfl hwst18
       refine pnd ?_
       refine go 0 ?_
       refine x_add _ rfl rfl rfl rfl rfl (wadd (by omega) (by omega)) ?_
       refine go 0 ?_
       exact At.back ((q3 + 1, _, _)) ⟨rfl, rfl, rfl, rfl, rfl, rfl, rfl, trivial⟩ ⟨by simp only; omega, by simp only [List.length_set]; omega, hset, M⟩ (by first | omega | (simp only; omega) | (simp; done) | (simp; omega))
      ·intro hco11
       refine go 0 ?_
       refine x_add _ rfl rfl rfl rfl rfl (wadd (by omega) (by omega)) ?_
       refine go 0 ?_
       exact At.back (j + 1) ⟨rfl, rfl, rfl, rfl, rfl, trivial⟩ ⟨by omega, _, _, hop2, pu2, cu2, ph2, ch2, LN, by omega, hI2, hh2, hF2, hO2, M.sub (.cons_cons _ (.cons _ (List.sublist_append_right _ _)))⟩ (by first | omega | (simp only; omega) | (simp; done) | (simp; omega))
    ·intro hsp4
     refine go 0 ?_
     refine W.regD (by kernel_rfl) #[0, 1, 3, 7, 15, 7, 39, 103, 255, 511, 1023, 2047, 4095, 8191, 16383, 32767, 65535, 131071, 262143, 524287, 1048575] [(0, false), (1, false), (2, false), (3, false), (5, false), (6, false), (7, false), (4, true), (8, true), (9, false), (10, false), (11, false), (12, false), (13, false), (14, false), (15, false), (16, false), (17, false), (18, true), (19, false), (20, false)] (by kernel_rfl) ?_
     intro K wD6 hK hwD6
     have M := M.drew hwD6
     refine go 1 ?_
     refine x_ld rfl rfl rfl Tryz.underlying24 rfl rfl (cell_of (M.get (x := (bal1, .cells [.slice pu k.length cu, .slice ph hop.length ch].toArray 70 (0, 0))) (by simp [fsM])) rfl) ?_
     refine x_call rfl rfl rfl rfl rfl en17 (files_o M) ?_
     rintro r_ wcall26 ⟨pcall26, ccall26, Lcall26, rfl, hlcall26, M⟩
     refine ⟨⟨(by first | exact .inr (cell_of (by first | exact M.at_ 0 rfl | exact M.at_ 1 rfl | exact M.at_ 2 rfl | exact M.at_ 3 rfl | exact M.at_ 4 rfl | exact M.at_ 5 rfl | exact M.at_ 6 rfl | exact M.at_ 7 rfl) rfl) | exact .inr (cell_of (M.get (x := (bal1, .cells [.slice pu k.length cu, .slice ph hop.length ch].toArray 70 (0, 0))) (by simp [fsM])) rfl)), trivial⟩, ?_⟩
     refine x_call rfl rfl rfl rfl rfl en20 (fsame_c (filesO_get hlcall26 (fun y hy => M.get (by simp [hy]))) (hF.at_ M.sep (fun y hy => by simp [hy])) (by have := M.le; omega)) ?_
     rintro r_ w27 ⟨rfl, hn27⟩
     have M := M.new hn27
     rw [decide_eq_true rfl]
     refine pnd ?_
     refine go 0 ?_
     refine x_ld rfl rfl rfl Tryz.underlying4 rfl rfl (cell_of (show _ = some (Obj.cells [_, .bool false].toArray 79 (0, 0)) from M.base hIs) rfl) ?_
     refine go 1 ?_
     refine x_call rfl rfl rfl rfl rfl en11 (lives19_c) ?_
     rintro r_ wcall28 ⟨rfl, hncall28⟩
     have M := M.new hncall28
     refine pnd ?_
     refine go 1 ?_
     exact ⟨rfl, M.frm⟩

-- valise/valiselaw19.OverlayPlays
theorem plays_b {w0 : World} {v u : Value} {l : List Raw} {al : List Ask} (h : FilesAt w0 v l) (hl : l.length ≤ 9223372036854775807) (g : AsksAt w0 u al) (gl : al.length ≤ 9223372036854775807) (hz : madeE l ≠ 0) : Ret Tryz.prog 9 #[v, u] w0 fun r w' => r = .bool true ∧ New w0 w' := by
 have M : Sep w0 [] w0 := St.nil w0
 obtain ⟨pv, cv, rfl⟩ := h.shape
 obtain ⟨pw, cw, rfl⟩ := g.shape
 refine Ret.of_W Tryz.func9 rfl Tryz.ntmps9 rfl ?_
 refine go 0 ?_
 refine x_call rfl rfl rfl rfl rfl en19 (light_c (h.new M.frm) hl) ?_
 rintro r_ wcall1 ⟨rfl, hncall1⟩
 have M := M.new hncall1
 refine ⟨trivial, ?_⟩
 refine spl 1 22 ?_ ?_
 ·intro hsp1
  refine go 0 ?_
  refine x_call rfl rfl rfl rfl rfl en11 (lives19_c) ?_
  rintro r_ wcall2 ⟨rfl, hncall2⟩
  have M := M.new hncall2
  refine ⟨trivial, ?_⟩
  refine go 1 ?_
  exact ⟨rfl, M.frm⟩
 ·intro hsp1
  have hli : l.length ≤ 130 := by unfold lightL at hsp1; simp at hsp1; omega
  refine go 0 ?_
  refine x_call rfl rfl rfl rfl rfl en14 (few19_c (g.new M.frm) gl) ?_
  rintro r_ wcall3 ⟨rfl, hncall3⟩
  have M := M.new hncall3
  refine ⟨trivial, ?_⟩
  refine cnd 1 ?_ ?_
  ·intro hco2
   refine go 0 ?_
   refine x_call rfl rfl rfl rfl rfl en11 (lives19_c) ?_
   rintro r_ wcall4 ⟨rfl, hncall4⟩
   have M := M.new hncall4
   refine ⟨trivial, ?_⟩
   refine go 1 ?_
   exact ⟨rfl, M.frm⟩
  ·intro hco2
   refine go 0 ?_
   refine W.loop (σ := Nat) (fun q => [(0, _), (1, _), (5, .int .i64 ((q : Nat) : Int))]) (fun q w => q ≤ l.length ∧ (∀ y ∈ l.take q, y.2.2.length ≤ 65536 ∧ (y.2.1 = true → y.2.2 = [])) ∧ Sep w0 [] w) (fun q => l.length - q) 0 ⟨rfl, rfl, rfl, trivial⟩ ⟨Nat.zero_le _, by simp, M⟩ ?_
   rintro q w ⟨hq, hok, M⟩
   refine cnd 2 ?_ ?_
   ·intro hco3
    obtain ⟨x, hx⟩ := get_lt (l := l) (q := q) (by omega)
    obtain ⟨bb, off, rfl, _⟩ := h.blk (j := q) (by omega)
    obtain ⟨px, cx, hrow0, hbx⟩ := h.row hx
    have hrow := RowAt.new hrow0 M.frm
    refine go 0 ?_
    refine x_ia q rfl rfl rfl Tryz.underlying24 sz29 rfl rfl rfl (by omega) ?_
    refine go 0 ?_
    refine x_ld rfl rfl rfl Tryz.underlying4 rfl rfl (RowAt.cell hrow (j := 1) rfl) ?_
    refine spl 0 39 ?_ ?_
    ·intro hsp2
     refine go 0 ?_
     refine x_ia q rfl rfl rfl Tryz.underlying24 sz29 rfl rfl rfl (by omega) ?_
     refine go 0 ?_
     refine x_ld rfl rfl rfl Tryz.underlying27 rfl rfl (RowAt.cell hrow (j := 2) rfl) ?_
     refine spl 2 48 ?_ ?_
     ·intro hsp3
      refine go 0 ?_
      refine x_call rfl rfl rfl rfl rfl en11 (lives19_c) ?_
      rintro r_ wcall5 ⟨rfl, hncall5⟩
      have M := M.new hncall5
      refine ⟨trivial, ?_⟩
      refine go 1 ?_
      exact ⟨rfl, M.frm⟩
     ·intro hsp3
      refine go 0 ?_
      refine x_ia q rfl rfl rfl Tryz.underlying24 sz29 rfl rfl rfl (by omega) ?_
      refine go 0 ?_
      refine x_ld rfl rfl rfl Tryz.underlying27 rfl rfl (RowAt.cell hrow (j := 2) rfl) ?_
      refine cnd 2 ?_ ?_
      ·intro hco5
       refine go 0 ?_
       refine x_call rfl rfl rfl rfl rfl en11 (lives19_c) ?_
       rintro r_ wcall6 ⟨rfl, hncall6⟩
       have M := M.new hncall6
       refine ⟨trivial, ?_⟩
       refine go 1 ?_
       exact ⟨rfl, M.frm⟩
      ·intro hco5
       refine go 0 ?_
       refine x_add _ rfl rfl rfl rfl rfl (wadd (by omega) (by omega)) ?_
       refine go 0 ?_
       exact At.back (q + 1) ⟨rfl, rfl, rfl, trivial⟩ ⟨by omega, by rw [take_snoc hx]; intro y hy; rcases List.mem_append.1 hy with hy | hy; exact hok y hy; rw [List.mem_singleton.1 hy]; exact ⟨by omega, fun _ => List.length_eq_zero_iff.1 (by omega)⟩, M⟩ (by first | omega | (simp only; omega) | (simp; done) | (simp; omega))
    ·intro hsp2
     refine go 0 ?_
     refine x_ia q rfl rfl rfl Tryz.underlying24 sz29 rfl rfl rfl (by omega) ?_
     refine go 0 ?_
     refine x_ld rfl rfl rfl Tryz.underlying27 rfl rfl (RowAt.cell hrow (j := 2) rfl) ?_
     refine cnd 2 ?_ ?_
     ·intro hco6
      refine go 0 ?_
      refine x_call rfl rfl rfl rfl rfl en11 (lives19_c) ?_
      rintro r_ wcall7 ⟨rfl, hncall7⟩
      have M := M.new hncall7
      refine ⟨trivial, ?_⟩
      refine go 1 ?_
      exact ⟨rfl, M.frm⟩
     ·intro hco6
      refine go 0 ?_
      refine x_add _ rfl rfl rfl rfl rfl (wadd (by omega) (by omega)) ?_
      refine go 0 ?_
      exact At.back (q + 1) ⟨rfl, rfl, rfl, trivial⟩ ⟨by omega, by rw [take_snoc hx]; intro y hy; rcases List.mem_append.1 hy with hy | hy; exact hok y hy; rw [List.mem_singleton.1 hy]; exact ⟨by omega, fun e => by rw [hsp2] at e; cases e⟩, M⟩ (by first | omega | (simp only; omega) | (simp; done) | (simp; omega))
   ·intro hco3
    have hq2 : q = l.length := by omega
    rw [hq2, List.take_length] at hok
    have hok : OKd l := hok
    have hzn : (newS l).2 ≠ 0 := by rw [← made_newS hok]; exact hz
    refine go 0 ?_
    refine x_call rfl rfl rfl rfl rfl en15 (made_o (X := []) (Lf := []) M (FilesK.old h) (by omega)) ?_
    rintro r_ w8 ⟨po, bs, rfl, hbad, hgood⟩
    obtain ⟨rfl, M⟩ := hbad hz
    rw [made_newS hok]
    refine ⟨trivial, ?_⟩
    refine go 0 ?_
    refine x_call rfl rfl rfl rfl rfl en23 (fnew_b (l := l) M h (by omega) hok hzn) ?_
    rintro r_ w9 ⟨rfl, M⟩
    refine ⟨trivial, ?_⟩
    refine go 1 ?_
    intro _ _ M
    refine x_st [_, _] _ rfl rfl rfl sz70 rfl rfl rfl rfl (by first | exact M.at_ 0 rfl | exact M.at_ 1 rfl | exact M.at_ 2 rfl | exact M.at_ 3 rfl | exact M.at_ 4 rfl | exact M.at_ 5 rfl | exact M.at_ 6 rfl | exact M.at_ 7 rfl) rfl rfl rfl ?_
    intro wst1 hwst1
    have M := M.put 0 rfl hwst1
    have M : Sep w0 [] _ := M.sub (List.nil_sublist _)
    refine ⟨trivial, ?_⟩
    refine go 0 ?_
    refine x_nei false rfl rfl rfl rfl rfl (by simp) ?_
    refine go 1 ?_
    refine x_eqi false rfl rfl rfl rfl rfl (by simp [hzn]) ?_
    refine x_neb false rfl rfl rfl Tryz.underlying4 rfl rfl rfl ?_
    refine go 0 ?_
    refine W.loop (σ := Nat) (fun j => [(1, _), (6, _), (7, _), (9, _), (11, .int .i64 ((j : Nat) : Int))]) (fun j w => j ≤ al.length ∧ Sep w0 [] w) (fun j => al.length - j) 0 ⟨rfl, rfl, rfl, rfl, rfl, trivial⟩ ⟨Nat.zero_le _, M⟩ ?_
    rintro j w ⟨hj, M⟩
    refine spl 2 83 ?_ ?_
    ·intro hsp4
     refine go 1 ?_
     refine W.regD (by kernel_rfl) #[0, 1, 3, 7, 15, 7, 39, 103, 255, 511, 1023, 2047, 4095, 8191, 16383, 32767, 65535, 131071, 262143, 524287, 1048575] [(0, false), (1, false), (2, false), (3, false), (5, false), (6, false), (7, false), (4, true), (8, true), (9, false), (10, false), (11, false), (12, false), (13, false), (14, false), (15, false), (16, false), (17, false), (18, true), (19, false), (20, false)] (by kernel_rfl) ?_
     intro K wD1 hK hwD1
     have M := M.drew hwD1
     refine go 1 ?_
     refine x_call rfl rfl rfl rfl rfl en11 (lives19_c) ?_
     rintro r_ wcall10 ⟨rfl, hncall10⟩
     have M := M.new hncall10
     refine ⟨trivial, ?_⟩
     refine go 1 ?_
     exact ⟨rfl, M.frm⟩
    ·intro hsp4
     refine go 0 ?_
     refine W.regD (by kernel_rfl) #[0, 1, 3, 7, 15, 7, 39, 103, 255, 511, 1023, 2047, 4095, 8191, 16383, 32767, 65535, 131071, 262143, 524287, 1048575] [(0, false), (1, false), (2, false), (3, false), (5, false), (6, false), (7, false), (4, true), (8, true), (9, false), (10, false), (11, false), (12, false), (13, false), (14, false), (15, false), (16, false), (17, false), (18, true), (19, false), (20, false)] (by kernel_rfl) ?_
     intro K wD2 hK hwD2
     have M := M.drew hwD2
     refine go 1 ?_
     refine x_call rfl rfl rfl rfl rfl en11 (lives19_c) ?_
     rintro r_ wcall11 ⟨rfl, hncall11⟩
     have M := M.new hncall11
     refine ⟨trivial, ?_⟩
     refine go 1 ?_
     exact ⟨rfl, M.frm⟩

end Go.Proofs.YtigfbpbnohkokaaGreat

namespace Go.Proofs.YtigfbpbnohkokaaGreat
open Go Go.Fw Go.RowKit
theorem overlayPlays_c {w0 : World} {v u : Value} {l : List Raw} {al : List Ask} (h : FilesAt w0 v l) (hl : l.length ≤ 9223372036854775807) (g : AsksAt w0 u al) (gl : al.length ≤ 9223372036854775807) : Ret Tryz.prog 9 #[v, u] w0 fun r w' => r = .bool true ∧ New w0 w' := by
 by_cases hz : madeE l = 0
 ·exact plays_g h hl g gl hz
 ·exact plays_b h hl g gl hz
end Go.Proofs.YtigfbpbnohkokaaGreat

namespace Go.Fw
open Go Go.ChangeShapes Go.WideShapes Go.ChangeAt Go.RowKit
set_option linter.unusedVariables false
set_option linter.unusedSimpArgs false
section
variable {H : Type} {enc : TypeId × Value → H} {P : Program} {W : World} {sp : Nat → Bool}
theorem rd_struct9 {t : TypeId} {f0 f1 f2 f3 f4 f5 f6 f7 f8 : Field} {α0 α1 α2 α3 α4 α5 α6 α7 α8 : Type} {c0 : α0 → Value} {c1 : α1 → Value} {c2 : α2 → Value} {c3 : α3 → Value} {c4 : α4 → Value} {c5 : α5 → Value} {c6 : α6 → Value} {c7 : α7 → Value} {c8 : α8 → Value} {R0 : α0 → DataW H → Prop} {R1 : α1 → DataW H → Prop} {R2 : α2 → DataW H → Prop} {R3 : α3 → DataW H → Prop} {R4 : α4 → DataW H → Prop} {R5 : α5 → DataW H → Prop} {R6 : α6 → DataW H → Prop} {R7 : α7 → DataW H → Prop} {R8 : α8 → DataW H → Prop} (ht : P.underlying t = some (.struct #[f0, f1, f2, f3, f4, f5, f6, f7, f8])) (hc : P.cellsOf t = 9)
  (h0 : f0.offset = 0 ∧ P.cellsOf f0.type = 1) (h1 : f1.offset = 1 ∧ P.cellsOf f1.type = 1) (h2 : f2.offset = 2 ∧ P.cellsOf f2.type = 1) (h3 : f3.offset = 3 ∧ P.cellsOf f3.type = 1) (h4 : f4.offset = 4 ∧ P.cellsOf f4.type = 1) (h5 : f5.offset = 5 ∧ P.cellsOf f5.type = 1) (h6 : f6.offset = 6 ∧ P.cellsOf f6.type = 1) (h7 : f7.offset = 7 ∧ P.cellsOf f7.type = 1) (h8 : f8.offset = 8 ∧ P.cellsOf f8.type = 1) (r0 : Rd enc P W sp f0.type (fun a => [c0 a]) R0) (r1 : Rd enc P W sp f1.type (fun a => [c1 a]) R1) (r2 : Rd enc P W sp f2.type (fun a => [c2 a]) R2) (r3 : Rd enc P W sp f3.type (fun a => [c3 a]) R3) (r4 : Rd enc P W sp f4.type (fun a => [c4 a]) R4) (r5 : Rd enc P W sp f5.type (fun a => [c5 a]) R5) (r6 : Rd enc P W sp f6.type (fun a => [c6 a]) R6) (r7 : Rd enc P W sp f7.type (fun a => [c7 a]) R7) (r8 : Rd enc P W sp f8.type (fun a => [c8 a]) R8) :
  Rd enc P W sp t (fun a : α0 × α1 × α2 × α3 × α4 × α5 × α6 × α7 × α8 => [c0 (a.1), c1 (a.2.1), c2 (a.2.2.1), c3 (a.2.2.2.1), c4 (a.2.2.2.2.1), c5 (a.2.2.2.2.2.1), c6 (a.2.2.2.2.2.2.1), c7 (a.2.2.2.2.2.2.2.1), c8 (a.2.2.2.2.2.2.2.2)]) (fun a d => ∃ d0 d1 d2 d3 d4 d5 d6 d7 d8, d = .agg [d0, d1, d2, d3, d4, d5, d6, d7, d8] ∧ R0 (a.1) d0 ∧ R1 (a.2.1) d1 ∧ R2 (a.2.2.1) d2 ∧ R3 (a.2.2.2.1) d3 ∧ R4 (a.2.2.2.2.1) d4 ∧ R5 (a.2.2.2.2.2.1) d5 ∧ R6 (a.2.2.2.2.2.2.1) d6 ∧ R7 (a.2.2.2.2.2.2.2.1) d7 ∧ R8 (a.2.2.2.2.2.2.2.2) d8) := fun fuel cs x h => by
 obtain ⟨xs, n, _, rfl, hl, hlen, hf⟩ := DataW.trod_struct ht h
 rw [hc] at hl
 match xs, hlen, cs, hl with
 | [y0, y1, y2, y3, y4, y5, y6, y7, y8], _, [u0, u1, u2, u3, u4, u5, u6, u7, u8], _ =>
  have g0 := hf 0 f0 rfl
  rw [h0.1, h0.2] at g0
  obtain ⟨a0, e0, q0⟩ := r0 n [u0] y0 g0
  have g1 := hf 1 f1 rfl
  rw [h1.1, h1.2] at g1
  obtain ⟨a1, e1, q1⟩ := r1 n [u1] y1 g1
  have g2 := hf 2 f2 rfl
  rw [h2.1, h2.2] at g2
  obtain ⟨a2, e2, q2⟩ := r2 n [u2] y2 g2
  have g3 := hf 3 f3 rfl
  rw [h3.1, h3.2] at g3
  obtain ⟨a3, e3, q3⟩ := r3 n [u3] y3 g3
  have g4 := hf 4 f4 rfl
  rw [h4.1, h4.2] at g4
  obtain ⟨a4, e4, q4⟩ := r4 n [u4] y4 g4
  have g5 := hf 5 f5 rfl
  rw [h5.1, h5.2] at g5
  obtain ⟨a5, e5, q5⟩ := r5 n [u5] y5 g5
  have g6 := hf 6 f6 rfl
  rw [h6.1, h6.2] at g6
  obtain ⟨a6, e6, q6⟩ := r6 n [u6] y6 g6
  have g7 := hf 7 f7 rfl
  rw [h7.1, h7.2] at g7
  obtain ⟨a7, e7, q7⟩ := r7 n [u7] y7 g7
  have g8 := hf 8 f8 rfl
  rw [h8.1, h8.2] at g8
  obtain ⟨a8, e8, q8⟩ := r8 n [u8] y8 g8
  simp only [List.cons.injEq, and_true] at e0 e1 e2 e3 e4 e5 e6 e7 e8
  subst e0 e1 e2 e3 e4 e5 e6 e7 e8
  exact ⟨(a0, a1, a2, a3, a4, a5, a6, a7, a8), rfl, y0.1, y1.1, y2.1, y3.1, y4.1, y5.1, y6.1, y7.1, y8.1, rfl, q0, q1, q2, q3, q4, q5, q6, q7, q8⟩
/-- A field of one cell, and one behind it that has more. -/
theorem rd_cons {t : TypeId} {f0 f1 : Field} {m : Nat} {α0 α1 : Type} {c0 : α0 → Value} {e1 : α1 → List Value} {R0 : α0 → DataW H → Prop} {R1 : α1 → DataW H → Prop} (ht : P.underlying t = some (.struct #[f0, f1])) (hc : P.cellsOf t = m + 1)
  (h0 : f0.offset = 0 ∧ P.cellsOf f0.type = 1) (h1 : f1.offset = 1 ∧ P.cellsOf f1.type = m) (r0 : Rd enc P W sp f0.type (fun a => [c0 a]) R0) (r1 : Rd enc P W sp f1.type e1 R1) :
  Rd enc P W sp t (fun a : α0 × α1 => c0 a.1 :: e1 a.2) (fun a d => ∃ d0 d1, d = .agg [d0, d1] ∧ R0 a.1 d0 ∧ R1 a.2 d1) := fun fuel cs x h => by
 obtain ⟨xs, n, _, rfl, hl, hlen, hf⟩ := DataW.trod_struct ht h
 rw [hc] at hl
 match xs, hlen, cs, hl with
 | [y0, y1], _, u0 :: us, hl =>
  have g0 := hf 0 f0 rfl
  rw [h0.1, h0.2] at g0
  obtain ⟨a0, e0, q0⟩ := r0 n [u0] y0 g0
  have g1 := hf 1 f1 rfl
  rw [h1.1, h1.2] at g1
  have hu : ((u0 :: us).drop 1).take m = us := by
   simp only [List.length_cons] at hl
   simp only [List.drop_succ_cons, List.drop_zero]
   exact List.take_of_length_le (by omega)
  rw [hu] at g1
  obtain ⟨a1, e1', q1⟩ := r1 n us y1 g1
  simp only [List.cons.injEq, and_true] at e0
  subst e0
  exact ⟨(a0, a1), by rw [e1'], y0.1, y1.1, rfl, q0, q1⟩
end
end Go.Fw

namespace Go.Proofs.YtigfbpbnohkokaaGreat
open Go Go.Fw Go.ChangeShapes Go.WideShapes Go.ChangeAt Go.RowKit
set_option linter.unusedVariables false
set_option linter.unusedSimpArgs false

theorem cInt : Tryz.prog.cellsOf 3 = 1 := by kernel_rfl
theorem cBool : Tryz.prog.cellsOf 4 = 1 := by kernel_rfl
theorem cBytes : Tryz.prog.cellsOf 27 = 1 := by kernel_rfl
theorem cByte : Tryz.prog.cellsOf 5 = 1 := by kernel_rfl
theorem cOp : Tryz.prog.cellsOf 52 = 9 := by kernel_rfl
theorem cFile : Tryz.prog.cellsOf 29 = 3 := by kernel_rfl
section
variable {H : Type} {enc : TypeId × Value → H} {W : World} {sp : Nat → Bool}
abbrev OpV := Int × List UInt8 × List UInt8 × Int × Int × Int × Bool × Bool × (Value × List UInt8)
abbrev FileV := List UInt8 × Bool × (Value × List UInt8)
def toOp (a : OpV) : OpS := ⟨a.1, a.2.1, a.2.2.1, a.2.2.2.1, a.2.2.2.2.1, a.2.2.2.2.2.1, a.2.2.2.2.2.2.1, a.2.2.2.2.2.2.2.1, a.2.2.2.2.2.2.2.2.2⟩
def opE (a : OpV) : List Value := [.int .i64 a.1, strV a.2.1, strV a.2.2.1, .int .i64 a.2.2.2.1, .int .i64 a.2.2.2.2.1, .int .i64 a.2.2.2.2.2.1, .bool a.2.2.2.2.2.2.1, .bool a.2.2.2.2.2.2.2.1, a.2.2.2.2.2.2.2.2.1]
def fileE (a : FileV) : List Value := [strV a.1, .bool a.2.1, a.2.2.1]
def toRaw (a : FileV) : Raw := (a.1, a.2.1, a.2.2.2)
abbrev ActV := Int × OpV
def actE (a : ActV) : List Value := .int .i64 a.1 :: opE a.2
def toAsk (a : ActV) : Ask := ⟨a.1, toOp a.2⟩
def BytesR (W : World) (a : Value × List UInt8) (d : DataW H) : Prop := BytesAt W a.1 a.2
theorem Rd.weak {P : Program} {t : TypeId} {α : Type} {e1 : α → List Value} {R R' : α → DataW H → Prop} (h : Rd enc P W sp t e1 R) (hR : ∀ a d, R a d → R' a d) : Rd enc P W sp t e1 R' := fun fuel cs x hx =>
 let ⟨a, h1, h2⟩ := h fuel cs x hx; ⟨a, h1, hR a _ h2⟩
theorem rd_byt : Rd enc Tryz.prog W sp 27 (fun a : Value × List UInt8 => [a.1]) (BytesR W) := Rd.weak (rd_bytes Tryz.underlying27 Tryz.underlying5 cByte) fun _ _ h => h.1
theorem rd_op : Rd enc Tryz.prog W sp 52 opE (fun a _ => BytesAt W a.2.2.2.2.2.2.2.2.1 a.2.2.2.2.2.2.2.2.2) := fun fuel cs x h => by
 obtain ⟨a, h1, d0, d1, d2, d3, d4, d5, d6, d7, d8, _, _, _, _, _, _, _, _, _, h2⟩ := rd_struct9 (R0 := _) (R1 := _) (R2 := _) (R3 := _) (R4 := _) (R5 := _) (R6 := _) (R7 := _) (R8 := _) Tryz.underlying52 cOp ⟨rfl, cInt⟩ ⟨rfl, cStr⟩ ⟨rfl, cStr⟩ ⟨rfl, cInt⟩ ⟨rfl, cInt⟩ ⟨rfl, cInt⟩ ⟨rfl, cBool⟩ ⟨rfl, cBool⟩ ⟨rfl, cBytes⟩ (rd_int Tryz.underlying3) (rd_string Tryz.underlying9) (rd_string Tryz.underlying9) (rd_int Tryz.underlying3) (rd_int Tryz.underlying3) (rd_int Tryz.underlying3) (rd_bool Tryz.underlying4) (rd_bool Tryz.underlying4) rd_byt fuel cs x h
 exact ⟨a, h1, h2⟩
theorem rd_file : Rd enc Tryz.prog W sp 29 fileE (fun a _ => BytesAt W a.2.2.1 a.2.2.2) := fun fuel cs x h => by
 obtain ⟨a, h1, d0, d1, d2, hd, _, _, h2⟩ := rd_struct3 (R0 := _) (R1 := _) (R2 := _) Tryz.underlying29 cFile ⟨rfl, cStr⟩ ⟨rfl, cBool⟩ ⟨rfl, cBytes⟩ (rd_string Tryz.underlying9) (rd_bool Tryz.underlying4) rd_byt fuel cs x h
 exact ⟨a, h1, h2⟩
theorem cAct : Tryz.prog.cellsOf 54 = 9 + 1 := by kernel_rfl
theorem rd_act : Rd enc Tryz.prog W sp 54 actE (fun a _ => BytesAt W a.2.2.2.2.2.2.2.2.2.1 a.2.2.2.2.2.2.2.2.2.2) := fun fuel cs x h => by
 obtain ⟨a, h1, d0, d1, _, _, h2⟩ := rd_cons (R0 := _) (R1 := _) Tryz.underlying54 cAct ⟨rfl, cInt⟩ ⟨rfl, cOp⟩ (rd_int Tryz.underlying3) rd_op fuel cs x h
 exact ⟨a, h1, h2⟩
theorem asks_of {R : ActV → DataW H → Prop} (hR : ∀ a d, R a d → BytesAt W a.2.2.2.2.2.2.2.2.2.1 a.2.2.2.2.2.2.2.2.2.2) {v : Value} {l : List ActV} {d : DataW H} (h : SlR W 10 actE R (v, l) d) : AsksAt W v (l.map toAsk) := by
 obtain ⟨h1, _, h3, _⟩ := h
 refine ⟨l.map fun a => (toAsk a, a.2.2.2.2.2.2.2.2.2.1), by rw [List.map_map]; rfl, ?_, fun f hf => ?_⟩
 ·have e : (l.map fun a => (toAsk a, a.2.2.2.2.2.2.2.2.2.1)).flatMap askC = l.flatMap actE := by rw [List.flatMap_map]; rfl
  rw [e, List.length_map]; exact h1
 ·obtain ⟨a, ha, rfl⟩ := List.mem_map.1 hf
  obtain ⟨_, d', hd⟩ := h3 a ha
  exact hR a d' hd
theorem files_of {R : FileV → DataW H → Prop} (hR : ∀ a d, R a d → BytesAt W a.2.2.1 a.2.2.2) {v : Value} {l : List FileV} {d : DataW H} (h : SlR W 3 fileE R (v, l) d) : FilesAt W v (l.map toRaw) := by
 obtain ⟨h1, _, h3, _⟩ := h
 refine ⟨l.map fun a => (toRaw a, a.2.2.1), by rw [List.map_map]; rfl, ?_, fun f hf => ?_⟩
 ·have e : fCs (l.map fun a => (toRaw a, a.2.2.1)) = l.flatMap fileE := by unfold fCs; rw [List.flatMap_map]; rfl
  rw [e, List.length_map]; exact h1
 ·obtain ⟨a, ha, rfl⟩ := List.mem_map.1 hf
  obtain ⟨_, d', hd⟩ := h3 a ha
  have hb := hR a d' hd
  obtain ⟨p, c, hs⟩ := hb.shape
  exact ⟨hb, by simp only; rw [hs]; rfl⟩
theorem max_len {α : Type} {l : List α} (h : l.length ≤ maxLen) : l.length ≤ 9223372036854775807 := by unfold maxLen at h; omega
end
end Go.Proofs.YtigfbpbnohkokaaGreat
