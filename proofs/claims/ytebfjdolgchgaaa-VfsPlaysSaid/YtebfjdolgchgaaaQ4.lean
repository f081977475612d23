/-
  Texts that belong together, laid into one file: V23, V24, V25, V26, U29, O34, O35, O36, O37, O38, U30, O39, U31, O40, U32, O41, O42, U33, O43, O44, U34, F0, F2, O45, F3, L1, L2.
-/
import Derived.Test.YtebfjdolgchgaaaQ3
namespace Go.Proofs.Ytebfjdolgchgaaa
open Go Go.Fw Go.RowKit Go.Proofs
set_option linter.unusedVariables false
set_option linter.unusedSimpArgs false
set_option maxRecDepth 100000
set_option maxHeartbeats 4000000

-- (valise/valiseref16.Tree).home
theorem rhome_c {w0 : World} {v : Value} {l : List Raw} {p : List UInt8} {root : Int} (h : FilesAt w0 v l) (hl : l.length ≤ 1000) : Ret Try.prog 77 #[.agg #[v], strV p, .int .i64 root] w0 fun r w' => r = .int .i64 (homeL l p root) ∧ New w0 w' := by
 have M : Sep w0 [] w0 := St.nil w0
 obtain ⟨pv, cv, rfl⟩ := h.shape
 refine Ret.of_W Try.func77 rfl Try.ntmps77 rfl ?_
 refine go 1 ?_
 intro bbx1 _ M
 refine go 0 ?_
 refine x_call rfl rfl rfl rfl rfl en69 (rsplit_c) ?_
 rintro r_ w1 ⟨v1, L1, rfl, M1, hs1⟩
 have M := M.grow M1
 obtain ⟨p1, c1, rfl, hcap1⟩ := hs1.shape2 (by decide)
 have hsl := splitN_len p
 refine ⟨trivial, ?_⟩
 refine cnd 1 ?_ ?_
 ·intro hco1
  refine go 1 ?_
  exact ⟨by unfold homeL; rw [if_neg hco1], M.frm⟩
 ·intro hco1
  have hPK := POK_split hco1
  refine cnd 2 ?_ ?_
  ·intro hco2
   refine go 1 ?_
   exact ⟨by unfold homeL; rw [if_pos hco1, if_pos (List.length_eq_zero_iff.1 (by omega))], M.frm⟩
  ·intro hco2
   have hn0 : splitN p ≠ [] := fun e => hco2 (by rw [e]; rfl)
   have hln := List.length_pos_iff.2 hn0
   refine go 0 ?_
   refine W.regT (by kernel_rfl) #[0, 0, 0, 4, 12, 30, 62, 127, 255, 511, 511, 0, 3071, 8191] (.par [(0, false), (1, false), (2, false), (3, false), (4, false), (5, false)] 6 (.two [] 7 [(8, false), (9, false), (10, false), (11, true)] 11 [(7, true), (8, false), (9, false), (10, false)] (.leaf [(12, true), (13, false)])) 11 (.leaf [(6, true), (7, true), (8, false), (9, false), (10, false), (12, true), (13, false)])) (by kernel_rfl) ?_
   intro K wD1 hK hwD1
   have M := M.drew hwD1
   refine ExT.par ?_
   refine go 2 ?_
   refine x_sub _ rfl rfl rfl rfl rfl (wsub (by omega) (by omega)) ?_
   refine x_slh ((splitN p).length - 1) rfl rfl rfl Try.underlying57 sz9 rfl rfl (by omega) (by omega) ?_
   refine Ex.fork ?_
   refine ⟨?_, ?_⟩
   ·refine x_call rfl rfl rfl rfl rfl en73 (rtext_c (strsO_at (strsO_take hs1 (j := (splitN p).length - 1) (by omega)) M (fun y hy => by simp [hy])) (by simp; omega) (fun y hy => by have := allOK_len hPK.2.1 y (List.mem_of_mem_take hy); omega)) ?_
    rintro r_ w2 ⟨rfl, hn2⟩
    have M := M.new hn2
    refine pnd ?_
    refine Ex.fork ?_
    refine ExT.two ?_
    refine Ex.fork ?_
    refine Ex.join (fun F' T' w' => ∃ bx pd cd R1, T' = [(0, R1)] ∧ F' = [(9, ptr bx), (31, .agg #[strV (findL l (joinS ((splitN p).take ((splitN p).length - 1)))).1.1, .bool (findL l (joinS ((splitN p).take ((splitN p).length - 1)))).1.2.1, .slice pd (findL l (joinS ((splitN p).take ((splitN p).length - 1)))).1.2.2.length cd]), (32, .int .i64 (findL l (joinS ((splitN p).take ((splitN p).length - 1)))).2)] ∧ Sep w0 ([(bx, .cells [.string ByteArray.empty, .bool false, .slice none 0 0].toArray 88 (0, 0)), (bbx1, .cells [.slice pv l.length cv].toArray 33 (0, 0))] ++ L1) w') ?_ ?_ ?_
    ·refine x_call rfl rfl rfl rfl rfl en55 (rfind_c (h.new M.frm) (by omega)) ?_
     rintro r_ wcall3 ⟨dv, rfl, hb, hncall3⟩
     have M := M.new hncall3
     obtain ⟨pd, cd, rfl⟩ := hb.shape
     refine pnd ?_
     refine go 0 ?_
     refine x_alloc [_, _, _] rfl rfl rfl ze88 rfl ?_
     intro bal1 wal1 hbal1 hwal1
     have M := M.acons hbal1 hwal1
     refine pnd ?_
     refine Ex.forkS [(9, _), (31, _), (32, _)] ⟨rfl, rfl, rfl, trivial⟩ ?_
     exact ⟨bal1, pd, cd, _, rfl, rfl, M⟩
    ·refine x_alloc [_, _, _] rfl rfl rfl ze88 rfl ?_
     intro bal2 wal2 hbal2 hwal2
     have M := M.acons hbal2 hwal2
     refine pnd ?_
     refine x_call rfl rfl rfl rfl rfl en55 (rfind_c (h.new M.frm) (by omega)) ?_
     rintro r_ wcall4 ⟨dv, rfl, hb, hncall4⟩
     have M := M.new hncall4
     obtain ⟨pd, cd, rfl⟩ := hb.shape
     refine pnd ?_
     refine go 0 ?_
     refine Ex.forkS [(9, _), (31, _), (32, _)] ⟨rfl, rfl, rfl, trivial⟩ ?_
     exact ⟨bal2, pd, cd, _, rfl, rfl, M⟩
    rintro F1 T1 w4 ⟨bx, pd, cd, R1, rfl, rfl, M⟩
    refine ExT.leaf ?_
    refine x_st [_, _, _] _ rfl rfl rfl sz88 rfl rfl rfl rfl atM rfl rfl rfl ?_
    intro wst1 hwst1
    have M := by first | exact M.put 0 rfl hwst1 | exact M.put 1 rfl hwst1 | exact M.put 2 rfl hwst1 | exact M.put 3 rfl hwst1 | exact M.put 4 rfl hwst1 | exact M.put 5 rfl hwst1 | exact M.put 6 rfl hwst1 | exact M.put 7 rfl hwst1
    refine pnd ?_
    refine cnd 1 ?_ ?_
    ·intro hco3
     refine go 1 ?_
     exact ⟨by unfold homeL; rw [if_pos hco1, if_neg hn0, if_neg hco3]; try rfl, M.frm⟩
    ·intro hco3
     refine cnd 2 ?_ ?_
     ·intro hco4
      refine go 1 ?_
      exact ⟨by unfold homeL; rw [if_pos hco1, if_neg hn0, if_pos hco3, if_neg (by simp [hco4])]; try rfl, M.frm⟩
     ·intro hco4
      refine go 1 ?_
      exact ⟨by unfold homeL; rw [if_pos hco1, if_neg hn0, if_pos hco3, if_pos hco4]; try rfl, M.frm⟩
   ·refine x_alloc [_, _, _] rfl rfl rfl ze88 rfl ?_
    intro bal3 wal3 hbal3 hwal3
    have M := M.acons hbal3 hwal3
    refine pnd ?_
    refine Ex.fork ?_
    refine ExT.leaf ?_
    refine x_call rfl rfl rfl rfl rfl en73 (rtext_c (strsO_at (strsO_take hs1 (j := (splitN p).length - 1) (by omega)) M (fun y hy => by simp [hy])) (by simp; omega) (fun y hy => by have := allOK_len hPK.2.1 y (List.mem_of_mem_take hy); omega)) ?_
    rintro r_ w2 ⟨rfl, hn2⟩
    have M := M.new hn2
    refine pnd ?_
    refine x_call rfl rfl rfl rfl rfl en55 (rfind_c (h.new M.frm) (by omega)) ?_
    rintro r_ wcall6 ⟨dv, rfl, hb, hncall6⟩
    have M := M.new hncall6
    obtain ⟨pd, cd, rfl⟩ := hb.shape
    refine pnd ?_
    refine go 0 ?_
    refine x_st [_, _, _] _ rfl rfl rfl sz88 rfl rfl rfl rfl atM rfl rfl rfl ?_
    intro wst2 hwst2
    have M := by first | exact M.put 0 rfl hwst2 | exact M.put 1 rfl hwst2 | exact M.put 2 rfl hwst2 | exact M.put 3 rfl hwst2 | exact M.put 4 rfl hwst2 | exact M.put 5 rfl hwst2 | exact M.put 6 rfl hwst2 | exact M.put 7 rfl hwst2
    refine pnd ?_
    refine cnd 1 ?_ ?_
    ·intro hco5
     refine go 1 ?_
     exact ⟨by unfold homeL; rw [if_pos hco1, if_neg hn0, if_neg hco5]; try rfl, M.frm⟩
    ·intro hco5
     refine cnd 2 ?_ ?_
     ·intro hco6
      refine go 1 ?_
      exact ⟨by unfold homeL; rw [if_pos hco1, if_neg hn0, if_pos hco5, if_neg (by simp [hco6])]; try rfl, M.frm⟩
     ·intro hco6
      refine go 1 ?_
      exact ⟨by unfold homeL; rw [if_pos hco1, if_neg hn0, if_pos hco5, if_pos hco6]; try rfl, M.frm⟩

end Go.Proofs.Ytebfjdolgchgaaa

namespace Go.Proofs.Ytebfjdolgchgaaa
open Go Go.Fw Go.RowKit Go.Proofs
set_option linter.unusedVariables false
set_option linter.unusedSimpArgs false
set_option maxRecDepth 100000
set_option maxHeartbeats 4000000

-- (valise/valiseref16.Tree).Mkdir
theorem rmkdir_c {w00 w0 : World} {L X : List (Nat × Obj)} {v : Value} {l : List Raw} {p : List UInt8} (M : Sep w00 (L ++ X) w0) (h : FilesK w00 L v l) (hl : l.length ≤ 999) (hnm : ∀ y ∈ l, y.1.length ≤ 2000) (hp : p.length ≤ 2000) : Ret Try.prog 60 #[.agg #[v], strV p] w0 fun r w' => ∃ u L', r = .tuple #[.agg #[u], .int .i64 (mkdirL l p).2] ∧ FilesK w00 (L ++ L') u (mkdirL l p).1 ∧ Sep w00 ((L ++ L') ++ X) w' := by
 have hFK := h
 obtain ⟨pv, cv, rfl⟩ := (h.at_ M (fun y hy => by simp [hy])).shape
 refine Ret.of_W Try.func60 rfl Try.ntmps60 rfl ?_
 refine go 1 ?_
 intro _ _ M
 refine go 1 ?_
 intro _ _ M
 refine go 1 ?_
 refine x_call rfl rfl rfl rfl rfl en77 (rhome_c (hFK.at_ M (fun y hy => by simp [hy])) (by omega)) ?_
 rintro r_ w1 ⟨rfl, hn1⟩
 have M := M.new hn1
 refine ⟨trivial, ?_⟩
 refine cnd 1 ?_ ?_
 ·intro hco1
  refine go 2 ?_
  intro _ M
  refine go 1 ?_
  have hR : mkdirL l p = (l, homeL l p 10) := by unfold mkdirL; rw [if_neg hco1]
  rw [hR]; exact ⟨_, [], rfl, hFK.mono (fun y hy => by simp [hy]), by simpa using (St.dropL (L' := [_, _]) M : Sep w00 (L ++ X) _)⟩
 ·intro hco1
  refine go 1 ?_
  refine x_call rfl rfl rfl rfl rfl en70 (at_c (hFK.at_ M (fun y hy => by simp [hy])) (by omega)) ?_
  rintro r_ w2 ⟨rfl, hn2⟩
  have M := M.new hn2
  refine ⟨trivial, ?_⟩
  refine cnd 1 ?_ ?_
  ·intro hco2
   refine go 2 ?_
   intro _ M
   refine go 1 ?_
   have hR : mkdirL l p = (l, 10) := by unfold mkdirL; rw [if_pos hco1, if_pos hco2]
   rw [hR]; exact ⟨_, [], rfl, hFK.mono (fun y hy => by simp [hy]), by simpa using (St.dropL (L' := [_, _]) M : Sep w00 (L ++ X) _)⟩
  ·intro hco2
   refine cnd 3 ?_ ?_
   ·intro hco3
    refine go 2 ?_
    intro _ M
    refine go 1 ?_
    have hR : mkdirL l p = (l, 7) := by unfold mkdirL; rw [if_pos hco1, if_neg hco2, if_pos (by omega)]
    rw [hR]; exact ⟨_, [], rfl, hFK.mono (fun y hy => by simp [hy]), by simpa using (St.dropL (L' := [_, _]) M : Sep w00 (L ++ X) _)⟩
   ·intro hco3
    refine go 2 ?_
    refine x_call rfl rfl rfl rfl rfl en71 (with_c (x := (p, true, [])) (St.inn2 (F := [_, _]) M) hFK (SgK.own (L' := []) OwL.nil (by decide) (by simp)) (by omega) hnm hp) ?_
    rintro r_ w3 ⟨u, L', rfl, hu, M⟩
    have M := M.out2 [_, _]
    obtain ⟨pu, cu, rfl⟩ := (hu.at_ M (fun y hy => by rcases List.mem_append.1 hy with hy | hy <;> simp [hy])).shape
    refine ⟨trivial, ?_⟩
    refine go 1 ?_
    intro _ M
    refine go 1 ?_
    have hR : mkdirL l p = (withR l (p, true, []), 0) := by unfold mkdirL; rw [if_pos hco1, if_neg hco2, if_neg (by omega)]
    rw [hR]; exact ⟨_, L', rfl, hu, St.dropL (L' := [_, _]) M⟩

end Go.Proofs.Ytebfjdolgchgaaa

namespace Go.Proofs.Ytebfjdolgchgaaa
open Go Go.Fw Go.RowKit Go.Proofs
set_option linter.unusedVariables false
set_option linter.unusedSimpArgs false
set_option maxRecDepth 100000
set_option maxHeartbeats 4000000

-- (valise/valiseref16.Tree).Put
theorem rput_c {w00 w0 : World} {L X : List (Nat × Obj)} {v : Value} {l : List Raw} {p b : List UInt8} {bv : Value} (M : Sep w00 (L ++ X) w0) (h : FilesK w00 L v l) (hl : l.length ≤ 999) (hnm : ∀ y ∈ l, y.1.length ≤ 2000) (hp : p.length ≤ 2000) (hb : SgK w00 L bv 1 b.length (byteCs b)) : Ret Try.prog 56 #[.agg #[v], strV p, bv] w0 fun r w' => ∃ u L', r = .tuple #[.agg #[u], .int .i64 (putL l p b).2] ∧ FilesK w00 (L ++ L') u (putL l p b).1 ∧ Sep w00 ((L ++ L') ++ X) w' := by
 have hFK := h
 obtain ⟨pv, cv, rfl⟩ := (h.at_ M (fun y hy => by simp [hy])).shape
 obtain ⟨pb, cb, rfl⟩ := (hb _ _ M (fun y hy => by simp [hy])).shape
 refine Ret.of_W Try.func56 rfl Try.ntmps56 rfl ?_
 refine go 1 ?_
 intro _ _ M
 refine go 1 ?_
 intro _ _ M
 refine go 1 ?_
 refine x_call rfl rfl rfl rfl rfl en77 (rhome_c (hFK.at_ M (fun y hy => by simp [hy])) (by omega)) ?_
 rintro r_ w1 ⟨rfl, hn1⟩
 have M := M.new hn1
 refine ⟨trivial, ?_⟩
 refine cnd 1 ?_ ?_
 ·intro hco1
  refine go 2 ?_
  intro _ M
  refine go 1 ?_
  have hR : putL l p b = (l, homeL l p 16) := by unfold putL; rw [if_neg hco1]
  rw [hR]; exact ⟨_, [], rfl, hFK.mono (fun y hy => by simp [hy]), by simpa using (St.dropL (L' := [_, _]) M : Sep w00 (L ++ X) _)⟩
 ·intro hco1
  refine go 1 ?_
  refine x_call rfl rfl rfl rfl rfl en70 (at_c (hFK.at_ M (fun y hy => by simp [hy])) (by omega)) ?_
  rintro r_ w2 ⟨rfl, hn2⟩
  have M := M.new hn2
  have hac := atR_cases l p
  refine ⟨trivial, ?_⟩
  refine spl 1 22 ?_ ?_
  ·intro hsp1
   obtain ⟨i, x, hx, hxp, hat, hno⟩ := hac.resolve_right (fun h => by have := h.2; omega)
   have hfa := hFK.at_ M (fun y hy => by simp [hy])
   have hil := (List.getElem?_eq_some_iff.1 hx).1
   obtain ⟨bb, off, rfl, _⟩ := hfa.blk (j := i) hil
   obtain ⟨px, cx, hrow, _⟩ := hfa.row hx
   have hfd := at_find hx hxp hno
   rw [hat]
   refine go 1 ?_
   refine x_ia i rfl rfl rfl Try.underlying31 sz88 rfl rfl rfl (by omega) ?_
   refine go 0 ?_
   refine x_ld rfl rfl rfl Try.underlying4 rfl rfl (RowAt.cell hrow (j := 1) rfl) ?_
   refine cnd 0 ?_ ?_
   ·intro hco2
    refine go 2 ?_
    intro _ M
    refine go 1 ?_
    have hR : putL l p b = (l, 16) := by unfold putL; rw [if_pos hco1, hfd]; simp only [if_pos hco2]
    rw [hR]; exact ⟨_, [], rfl, hFK.mono (fun y hy => by simp [hy]), by simpa using (St.dropL (L' := [_, _]) M : Sep w00 (L ++ X) _)⟩
   ·intro hco2
    refine cnd 2 ?_ ?_
    ·intro hco3
     refine go 2 ?_
     intro _ M
     refine go 1 ?_
     have hR : putL l p b = (l, 3) := by unfold putL; rw [if_pos hco1, hfd]; simp only [hco2, Bool.false_eq_true, if_false]; rw [if_pos (by omega)]
     rw [hR]; exact ⟨_, [], rfl, hFK.mono (fun y hy => by simp [hy]), by simpa using (St.dropL (L' := [_, _]) M : Sep w00 (L ++ X) _)⟩
    ·intro hco3
     refine go 0 ?_
     refine x_lss false rfl rfl rfl rfl rfl (decide_eq_false (by omega)) ?_
     refine go 0 ?_
     refine x_geq true rfl rfl rfl rfl rfl (decide_eq_true (by omega)) ?_
     refine go 1 ?_
     refine x_call rfl rfl rfl rfl rfl en78 (without_c (St.inn2 (F := [_, _]) M) hFK (by omega) hil) ?_
     rintro r_ w3 ⟨u, L', rfl, hu, M⟩
     have M := M.out2 [_, _]
     obtain ⟨pu, cu, rfl⟩ := (hu.at_ M (fun y hy => by rcases List.mem_append.1 hy with hy | hy <;> simp [hy])).shape
     refine ⟨trivial, ?_⟩
     refine go 1 ?_
     intro _ M
     refine go 0 ?_
     refine W.regD (by kernel_rfl) #[0, 0, 0, 0, 12, 30, 63, 127, 255] [(0, false), (1, false), (3, false), (2, true), (4, true), (5, false), (6, true), (7, true), (8, false)] (by kernel_rfl) ?_
     intro K wD1 hK hwD1
     have M := M.drew hwD1
     refine go 1 ?_
     refine x_bs0 rfl rfl rfl Try.underlying56 sz5 ?_
     intro bq wb hbq hwb
     have M := M.acons hbq hwb
     refine pnd ?_
     refine x_apL (L := [_]) (cs := []) (nn := 0) rfl rfl rfl rfl Try.underlying56 sz5 ze5 rfl by5 rfl rfl (.inr ⟨bq, 0, [], _, rfl, rfl, rfl, rfl⟩) M (by simp) ((hb _ _ M (fun y hy => by simp [hy])).src Try.underlying56 (byteCs_one _)) (by omega) (by decide) (by omega) ?_
     intro Lo v6 w6 how M
     rw [Nat.zero_add, List.nil_append] at how
     have M := M.perm List.perm_append_comm
     obtain ⟨p6, c6, rfl⟩ := how.shape
     refine pnd ?_
     refine go 1 ?_
     refine x_call rfl rfl rfl rfl rfl en71 (with_c (x := (p, false, b)) (St.mix (F := [_, _]) M) (hu.mono (fun y hy => by rcases List.mem_append.1 hy with hy | hy <;> simp [hy])) (SgK.own how (by decide) (fun y hy => by simp [hy])) (by rw [List.length_eraseIdx]; split <;> omega) (fun y hy => hnm y (List.mem_of_mem_eraseIdx hy)) hp) ?_
     rintro r_ w4 ⟨u2, L2, rfl, hu2, M⟩
     have M := M.out2 [_, _]
     obtain ⟨pu2, cu2, rfl⟩ := (hu2.at_ M (fun y hy => List.mem_append_right _ (List.mem_append_left _ hy))).shape
     refine pnd ?_
     refine x_st [_] _ rfl rfl rfl sz33 rfl rfl rfl rfl atM rfl rfl rfl ?_
     intro wst5 hwst5
     have M := by first | exact M.put 0 rfl hwst5 | exact M.put 1 rfl hwst5 | exact M.put 2 rfl hwst5 | exact M.put 3 rfl hwst5 | exact M.put 4 rfl hwst5 | exact M.put 5 rfl hwst5 | exact M.put 6 rfl hwst5 | exact M.put 7 rfl hwst5
     refine pnd ?_
     refine go 1 ?_
     have hR : putL l p b = (withR (l.eraseIdx i) (p, false, b), 0) := by unfold putL; rw [if_pos hco1, hfd]; simp only [hco2, Bool.false_eq_true, if_false]; rw [if_neg (by omega), hat]; rfl
     rw [hR]; exact ⟨_, (L' ++ Lo) ++ L2, rfl, by simpa only [List.append_assoc] using hu2, by simpa only [List.append_assoc] using St.dropL (L' := [_, _]) M⟩
  ·intro hsp1
   have hnone := (hac.resolve_left (fun ⟨i, x, _, _, h, _⟩ => by omega)).1
   have hfd := at_find0 hnone
   refine cnd 2 ?_ ?_
   ·intro hco7
    refine go 2 ?_
    intro _ M
    refine go 1 ?_
    have hR : putL l p b = (l, 3) := by unfold putL; rw [if_pos hco1, hfd]; simp only []; rw [if_pos (by omega)]
    rw [hR]; exact ⟨_, [], rfl, hFK.mono (fun y hy => by simp [hy]), by simpa using (St.dropL (L' := [_, _]) M : Sep w00 (L ++ X) _)⟩
   ·intro hco7
    refine go 0 ?_
    refine x_lss true rfl rfl rfl rfl rfl (decide_eq_true (by omega)) ?_
    refine cnd 3 ?_ ?_
    ·intro hco8
     refine go 2 ?_
     intro _ M
     refine go 1 ?_
     have hR : putL l p b = (l, 7) := by unfold putL; rw [if_pos hco1, hfd]; simp only []; rw [if_neg (by omega), if_pos (by omega)]
     rw [hR]; exact ⟨_, [], rfl, hFK.mono (fun y hy => by simp [hy]), by simpa using (St.dropL (L' := [_, _]) M : Sep w00 (L ++ X) _)⟩
    ·intro hco8
     refine go 0 ?_
     refine x_geq false rfl rfl rfl rfl rfl (decide_eq_false (by omega)) ?_
     refine go 0 ?_
     refine W.regD (by kernel_rfl) #[0, 0, 0, 0, 12, 30, 63, 127, 255] [(0, false), (1, false), (3, false), (2, true), (4, true), (5, false), (6, true), (7, true), (8, false)] (by kernel_rfl) ?_
     intro K wD2 hK hwD2
     have M := M.drew hwD2
     refine go 1 ?_
     refine x_bs0 rfl rfl rfl Try.underlying56 sz5 ?_
     intro bb wb hbb hwb
     have M := M.acons hbb hwb
     refine pnd ?_
     refine x_apL (L := [_]) (cs := []) (nn := 0) rfl rfl rfl rfl Try.underlying56 sz5 ze5 rfl by5 rfl rfl (.inr ⟨bb, 0, [], _, rfl, rfl, rfl, rfl⟩) M (by simp) ((hb _ _ M (fun y hy => by simp [hy])).src Try.underlying56 (byteCs_one _)) (by omega) (by decide) (by omega) ?_
     intro Lo v6 w6 how M
     rw [Nat.zero_add, List.nil_append] at how
     have M := M.perm List.perm_append_comm
     obtain ⟨p6, c6, rfl⟩ := how.shape
     refine pnd ?_
     refine go 1 ?_
     refine x_call rfl rfl rfl rfl rfl en71 (with_c (x := (p, false, b)) (St.mix0 (F := [_, _]) M) (hFK.mono (fun y hy => by simp [hy])) (SgK.own how (by decide) (fun y hy => by simp [hy])) (by omega) hnm hp) ?_
     rintro r_ w5 ⟨u2, L2, rfl, hu2, M⟩
     have M := M.out2 [_, _]
     obtain ⟨pu2, cu2, rfl⟩ := (hu2.at_ M (fun y hy => List.mem_append_right _ (List.mem_append_left _ hy))).shape
     refine pnd ?_
     refine x_st [_] _ rfl rfl rfl sz33 rfl rfl rfl rfl atM rfl rfl rfl ?_
     intro wst8 hwst8
     have M := by first | exact M.put 0 rfl hwst8 | exact M.put 1 rfl hwst8 | exact M.put 2 rfl hwst8 | exact M.put 3 rfl hwst8 | exact M.put 4 rfl hwst8 | exact M.put 5 rfl hwst8 | exact M.put 6 rfl hwst8 | exact M.put 7 rfl hwst8
     refine pnd ?_
     refine go 1 ?_
     have hR : putL l p b = (withR l (p, false, b), 0) := by unfold putL; rw [if_pos hco1, hfd]; simp only []; rw [if_neg (by omega), if_neg (by omega)]
     rw [hR]; exact ⟨_, Lo ++ L2, rfl, by simpa only [List.append_assoc] using hu2, by simpa only [List.append_assoc] using St.dropL (L' := [_, _]) M⟩

end Go.Proofs.Ytebfjdolgchgaaa

namespace Go.Proofs.Ytebfjdolgchgaaa
open Go Go.Fw Go.RowKit Go.Proofs
set_option linter.unusedVariables false
set_option linter.unusedSimpArgs false
set_option maxRecDepth 100000
set_option maxHeartbeats 4000000

-- (valise/valiseref16.Tree).Rename
theorem rrename_c {w00 w0 : World} {L X : List (Nat × Obj)} {v : Value} {l : List Raw} {x y : List UInt8} (M : Sep w00 (L ++ X) w0) (h : FilesK w00 L v l) (hl : l.length ≤ 900) (hnm : ∀ f ∈ l, f.1.length ≤ 1000) (hyl : y.length ≤ 1000) : Ret Try.prog 83 #[.agg #[v], strV x, strV y] w0 fun r w' => ∃ u L', r = .tuple #[.agg #[u], .int .i64 (renameL l x y).2] ∧ FilesK w00 (L ++ L') u (renameL l x y).1 ∧ Sep w00 ((L ++ L') ++ X) w' := by
 have hFK := h
 obtain ⟨pv, cv, rfl⟩ := (h.at_ M (fun y hy => by simp [hy])).shape
 refine Ret.of_W Try.func83 rfl Try.ntmps83 rfl ?_
 refine go 1 ?_
 intro bbx1 _ M
 refine go 1 ?_
 intro bal1 _ M
 refine go 1 ?_
 refine x_call rfl rfl rfl rfl rfl en55 (rfind_c (hFK.at_ M (fun y hy => by simp [hy])) (by omega)) ?_
 rintro r_ w1 ⟨dv, rfl, hb, hn1⟩
 have M := M.new hn1
 obtain ⟨pd, cd, rfl⟩ := hb.shape
 refine ⟨trivial, ?_⟩
 refine go 1 ?_
 intro bal2 _ M
 refine go 1 ?_
 intro _ M
 refine cnd 1 ?_ ?_
 ·intro hco1
  refine go 2 ?_
  intro _ M
  refine go 1 ?_
  have hR : renameL l x y = (l, (findL l x).2) := by unfold renameL; rw [if_neg hco1]
  rw [hR]; exact ⟨_, [], rfl, hFK.mono (fun y hy => by simp [hy]), by simpa using (St.dropL (L' := [_, _, _]) M : Sep w00 (L ++ X) _)⟩
 ·intro hco1
  refine cnd 1 ?_ ?_
  ·intro hco2
   refine go 2 ?_
   intro _ M
   refine go 1 ?_
   have hR : renameL l x y = (l, 18) := by unfold renameL; rw [if_pos hco1, if_pos hco2]
   rw [hR]; exact ⟨_, [], rfl, hFK.mono (fun y hy => by simp [hy]), by simpa using (St.dropL (L' := [_, _, _]) M : Sep w00 (L ++ X) _)⟩
  ·intro hco2
   refine go 1 ?_
   refine x_call rfl rfl rfl rfl rfl en77 (rhome_c (hFK.at_ M (fun y hy => by simp [hy])) (by omega)) ?_
   rintro r_ w2 ⟨rfl, hn2⟩
   have M := M.new hn2
   refine ⟨trivial, ?_⟩
   refine cnd 1 ?_ ?_
   ·intro hco3
    refine go 2 ?_
    intro _ M
    refine go 1 ?_
    have hR : renameL l x y = (l, homeL l y 10) := by unfold renameL; rw [if_pos hco1, if_neg hco2, if_neg hco3]
    rw [hR]; exact ⟨_, [], rfl, hFK.mono (fun y hy => by simp [hy]), by simpa using (St.dropL (L' := [_, _, _]) M : Sep w00 (L ++ X) _)⟩
   ·intro hco3
    refine cnd 1 ?_ ?_
    ·intro hco4
     refine go 2 ?_
     intro _ M
     refine go 1 ?_
     have hR : renameL l x y = (l, 0) := by unfold renameL; rw [if_pos hco1, if_neg hco2, if_pos hco3, if_pos hco4]
     rw [hR]; exact ⟨_, [], rfl, hFK.mono (fun y hy => by simp [hy]), by simpa using (St.dropL (L' := [_, _, _]) M : Sep w00 (L ++ X) _)⟩
    ·intro hco4
     refine go 0 ?_
     refine x_call rfl rfl rfl rfl rfl en72 (runder_c) ?_
     rintro r wcall3 ⟨rfl, hncall3⟩
     have M := M.new hncall3
     refine ⟨trivial, ?_⟩
     refine cnd 0 ?_ ?_
     ·intro hco5
      refine go 2 ?_
      intro _ M
      refine go 1 ?_
      have hR : renameL l x y = (l, 18) := by unfold renameL; rw [if_pos hco1, if_neg hco2, if_pos hco3, if_neg hco4, if_pos hco5]
      rw [hR]; exact ⟨_, [], rfl, hFK.mono (fun y hy => by simp [hy]), by simpa using (St.dropL (L' := [_, _, _]) M : Sep w00 (L ++ X) _)⟩
     ·intro hco5
      refine go 1 ?_
      refine x_call rfl rfl rfl rfl rfl en70 (at_c (hFK.at_ M (fun y hy => by simp [hy])) (by omega)) ?_
      rintro r_ w4 ⟨rfl, hn4⟩
      have M := M.new hn4
      refine ⟨trivial, ?_⟩
      refine cnd 1 ?_ ?_
      ·intro hco6
       refine go 2 ?_
       intro _ M
       refine go 1 ?_
       have hR : renameL l x y = (l, 10) := by unfold renameL; rw [if_pos hco1, if_neg hco2, if_pos hco3, if_neg hco4, if_neg (by simp [hco5]), if_pos hco6]
       rw [hR]; exact ⟨_, [], rfl, hFK.mono (fun y hy => by simp [hy]), by simpa using (St.dropL (L' := [_, _, _]) M : Sep w00 (L ++ X) _)⟩
      ·intro hco6
       have hRR : renameL l x y = if l.any (badN x y) = true then (l, 8) else (movL x y l, 0) := by unfold renameL; rw [if_pos hco1, if_neg hco2, if_pos hco3, if_neg hco4, if_neg (by simp [hco5]), if_neg hco6]
       refine go 2 ?_
       intro bal3 _ M
       refine go 1 ?_
       intro _ M
       refine go 0 ?_
       refine W.loop (σ := Nat × Value × List (Nat × Obj)) (fun q => [(1, _), (2, _), (3, _), (6, _), (11, _), (12, .int .i64 ((q.1 : Nat) : Int))]) (fun q w => q.1 ≤ l.length ∧ FilesK w00 (L ++ q.2.2) q.2.1 (movL x y (l.take q.1)) ∧ (∀ f ∈ l.take q.1, badN x y f = false) ∧ Sep w00 ([(bal3, .cells [q.2.1].toArray 33 (0, 0)), (bal2, .cells [strV (findL l x).1.1, .bool (findL l x).1.2.1, .slice pd (findL l x).1.2.2.length cd].toArray 88 (0, 0)), (bal1, .cells [.slice none 0 0].toArray 33 (0, 0)), (bbx1, .cells [.slice pv l.length cv].toArray 33 (0, 0))] ++ ((L ++ q.2.2) ++ X)) w) (fun q => l.length - q.1) (0, .slice none 0 0, []) ⟨rfl, rfl, rfl, rfl, rfl, rfl, trivial⟩ ⟨Nat.zero_le _, (FilesK.own (L := []) ⟨[], [], [], rfl, rfl, OwL.nil, by simp⟩).mono (by simp), by simp, by simpa using M⟩ ?_
       rintro ⟨j, u, L3⟩ w ⟨hj, hu, hno, M⟩
       simp only at hj hu hno M
       obtain ⟨pu, cu, rfl⟩ := (hu.at_ M (fun y hy => List.mem_append_right _ (List.mem_append_left _ hy))).shape
       have hmlen : (movL x y (l.take j)).length = j := by unfold movL; rw [foldW_len, List.length_take]; simp; omega
       have hmnm : ∀ z ∈ movL x y (l.take j), z.1.length ≤ 2000 := fun z hz => by
        rcases foldW_mem.1 hz with hz | ⟨f, hf, rfl⟩
        ·cases hz
        ·exact mvN_len (hnm f (List.mem_of_mem_take hf)) hyl
       refine cnd 3 ?_ ?_
       ·intro hco7
        obtain ⟨f, hf⟩ := get_lt (l := l) (q := j) (by omega)
        have hfl := hnm f (List.mem_of_getElem? hf)
        have hfa := hFK.at_ M (fun y hy => by simp [hy])
        obtain ⟨bb, off, rfl, _⟩ := hfa.blk (j := j) (by omega)
        obtain ⟨pf, cf, hfk, hrow⟩ := hFK.get hf M (fun y hy => by simp [hy])
        have hst := movL_step (x := x) (y := y) hf
        refine go 1 ?_
        refine x_ia j rfl rfl rfl Try.underlying31 sz88 rfl rfl rfl (by omega) ?_
        refine x_ldA [_, _, _] rfl rfl rfl Try.underlying88 rfl sz88 rfl rfl hrow ?_
        refine go 1 ?_
        intro _ _ M
        refine go 1 ?_
        intro _ M
        refine go 1 ?_
        refine x_call rfl rfl rfl rfl rfl en72 (runder_c) ?_
        rintro r wcall5 ⟨rfl, hncall5⟩
        have M := M.new hncall5
        refine ⟨trivial, ?_⟩
        refine cnd 0 ?_ ?_
        ·intro hco8
         have hmv : mvN x y f = (y ++ f.1.drop x.length, f.2) := by unfold mvN; rw [if_pos hco8]
         refine go 2 ?_
         refine x_sslS x.length rfl rfl rfl Try.underlying9 rfl rfl rfl (by have := under_len hco8; simp; omega) ?_
         refine x_catS rfl rfl rfl rfl rfl (by simp; omega) ?_
         refine go 1 ?_
         intro _ M
         refine go 1 ?_
         refine x_call rfl rfl rfl rfl rfl en69 (rsplit_c) ?_
         rintro r_ w6 ⟨v6, L6, rfl, M6, _⟩
         have M := M.grow M6
         refine ⟨trivial, ?_⟩
         refine cnd 1 ?_ ?_
         ·intro hco9
          refine go 2 ?_
          intro _ M
          refine go 1 ?_
          have hbd : l.any (badN x y) = true := by
           rw [List.any_eq_true]
           exact ⟨f, List.mem_of_getElem? hf, by unfold badN; rw [hmv]; simp [hco8, hco9]⟩
          rw [hRR, if_pos hbd]; exact ⟨_, L3, rfl, hFK.mono (fun y hy => by simp [hy]), (St.dropL (L' := [_, _, _, _, _]) M.dropR)⟩
         ·intro hco9
          have M := M.dropR
          refine go 2 ?_
          refine x_call rfl rfl rfl rfl rfl en71 (with_c (x := (y ++ f.1.drop x.length, f.2)) (St.inn2 (F := [_, _, _, _, _]) M) hu (hfk.mono (fun y hy => by simp [hy])) (by omega) hmnm (by simp; omega)) ?_
          rintro r_ w7 ⟨u2, L7, rfl, hu2, M⟩
          have M := M.out2 [_, _, _, _, _]
          rw [← hmv, ← hst] at hu2
          obtain ⟨pu2, cu2, rfl⟩ := (hu2.at_ M (fun y hy => List.mem_append_right _ (List.mem_append_left _ hy))).shape
          refine ⟨trivial, ?_⟩
          refine go 1 ?_
          intro _ M
          refine go 0 ?_
          refine x_add _ rfl rfl rfl rfl rfl (wadd (by omega) (by omega)) ?_
          refine go 0 ?_
          exact At.back ((j + 1, _, L3 ++ L7)) ⟨rfl, rfl, rfl, rfl, rfl, rfl, trivial⟩ ⟨by omega, by simpa only [List.append_assoc] using hu2, fun z hz => by
           rw [take_mem hf] at hz
           rcases List.mem_append.1 hz with hz | hz
           ·exact hno z hz
           ·rw [List.mem_singleton.1 hz]; unfold badN; rw [hmv]; simp [hco9], by
           have M2 : Sep w00 ([(bal3, .cells [.slice pu2 (movL x y (l.take (j + 1))).length cu2].toArray 33 (0, 0)), (bal2, .cells [strV (findL l x).1.1, .bool (findL l x).1.2.1, .slice pd (findL l x).1.2.2.length cd].toArray 88 (0, 0)), (bal1, .cells [.slice none 0 0].toArray 33 (0, 0)), (bbx1, .cells [.slice (some ⟨bb, off, none⟩) l.length cv].toArray 33 (0, 0))] ++ (((L ++ L3) ++ L7) ++ X)) _ := M.tail
           simpa only [List.append_assoc] using M2⟩ (by first | omega | (simp only; omega) | (simp; done) | (simp; omega))
        ·intro hco8
         have hmv : mvN x y f = f := by unfold mvN; rw [if_neg (by simp [hco8])]
         refine go 2 ?_
         refine x_call rfl rfl rfl rfl rfl en71 (with_c (x := f) (St.inn2 (F := [_, _, _, _, _]) M) hu (hfk.mono (fun y hy => by simp [hy])) (by omega) hmnm (by omega)) ?_
         rintro r_ w8 ⟨u2, L7, rfl, hu2, M⟩
         have M := M.out2 [_, _, _, _, _]
         rw [← hmv, ← hst] at hu2
         obtain ⟨pu2, cu2, rfl⟩ := (hu2.at_ M (fun y hy => List.mem_append_right _ (List.mem_append_left _ hy))).shape
         refine ⟨trivial, ?_⟩
         refine go 1 ?_
         intro _ M
         refine go 0 ?_
         refine x_add _ rfl rfl rfl rfl rfl (wadd (by omega) (by omega)) ?_
         refine go 0 ?_
         exact At.back ((j + 1, _, L3 ++ L7)) ⟨rfl, rfl, rfl, rfl, rfl, rfl, trivial⟩ ⟨by omega, by simpa only [List.append_assoc] using hu2, fun z hz => by
          rw [take_mem hf] at hz
          rcases List.mem_append.1 hz with hz | hz
          ·exact hno z hz
          ·rw [List.mem_singleton.1 hz]; unfold badN; simp [hco8], by
          have M2 : Sep w00 ([(bal3, .cells [.slice pu2 (movL x y (l.take (j + 1))).length cu2].toArray 33 (0, 0)), (bal2, .cells [strV (findL l x).1.1, .bool (findL l x).1.2.1, .slice pd (findL l x).1.2.2.length cd].toArray 88 (0, 0)), (bal1, .cells [.slice none 0 0].toArray 33 (0, 0)), (bbx1, .cells [.slice (some ⟨bb, off, none⟩) l.length cv].toArray 33 (0, 0))] ++ (((L ++ L3) ++ L7) ++ X)) _ := M.tail
          simpa only [List.append_assoc] using M2⟩ (by first | omega | (simp only; omega) | (simp; done) | (simp; omega))
       ·intro hco7
        refine go 2 ?_
        intro _ M
        refine go 1 ?_
        have hj2 : j = l.length := by omega
        subst hj2
        simp only [List.take_length] at hu hno M ⊢
        have hbd : l.any (badN x y) = false := by rw [List.any_eq_false]; exact fun f hf => by simp [hno f hf]
        rw [hRR, if_neg (by rw [hbd]; simp)]; exact ⟨_, L3, rfl, hu, St.dropL (L' := [_, _, _, _]) M⟩

end Go.Proofs.Ytebfjdolgchgaaa

namespace Go.Proofs.Ytebfjdolgchgaaa
open Go Go.Fw Go.RowKit
set_option linter.unusedVariables false
set_option linter.unusedSimpArgs false

abbrev OpnK (w00 : World) (L : List (Nat × Obj)) (v : Value) (hl : List Opn) : Prop := SgK w00 L v 4 hl.length (oCs hl)
abbrev BytesK (w00 : World) (L : List (Nat × Obj)) (v : Value) (b : List UInt8) : Prop := SgK w00 L v 1 b.length (byteCs b)
def RsK (w00 : World) (L : List (Nat × Obj)) (v : Value) (rs : RsS) : Prop := ∃ p1 c1 p2 c2, v = rsV rs (.slice p1 rs.d.length c1) (.slice p2 rs.l.length c2) ∧ BytesK w00 L (.slice p1 rs.d.length c1) rs.d ∧ SgK w00 L (.slice p2 rs.l.length c2) 1 rs.l.length (strCs rs.l)
section
variable {w00 w : World} {L L' X A B : List (Nat × Obj)} {v : Value} {rs : RsS}
theorem nilS {m : Nat} (hm : 0 < m) : SgK w00 L (.slice none 0 0) m 0 [] := SgK.own (L' := []) OwL.nil hm (by simp)
theorem RsK.bad {e : Int} : RsK w00 L (rsV (badS e) (.slice none 0 0) (.slice none 0 0)) (badS e) := ⟨none, 0, none, 0, rfl, nilS (by decide), nilS (by decide)⟩
theorem RsK.mono (h : RsK w00 L v rs) (hs : ∀ x ∈ L, x ∈ L') : RsK w00 L' v rs := let ⟨p1, c1, p2, c2, h1, h2, h3⟩ := h; ⟨p1, c1, p2, c2, h1, h2.mono hs, h3.mono hs⟩
theorem St.sw (h : Sep w00 (A ++ B) w) : Sep w00 (B ++ A) w := h.perm List.perm_append_comm
theorem mL {x : Nat × Obj} (h : x ∈ L) : x ∈ L ++ L' := List.mem_append_left _ h
theorem mR {x : Nat × Obj} (h : x ∈ L') : x ∈ L ++ L' := List.mem_append_right _ h
theorem St.keep {w1 : World} (h : Sep w00 (X ++ L) w) (hc : Sep w L' w1) : Sep w00 (X ++ (L ++ L')) w1 := by
 have := h.grow hc
 rwa [List.append_assoc] at this
theorem St.lay (h : Sep w00 (A ++ (X ++ L)) w) : Sep w00 (X ++ (L ++ A)) w := h.perm (perm_c fun p => by simp only [List.countP_append]; omega)
end
def putS (l : List Raw) (p b : List UInt8) : List Raw × Int := if 262144 + (fileB l p).length < usedL l + b.length then (l, 7) else (setD l p b, 0)
section
variable {w00 w0 : World} {X L : List (Nat × Obj)} {u : Value} {l : List Raw} {p b d y : List UInt8} {bv : Value}
theorem rput_x (M : Sep w00 (X ++ L) w0) (h : FilesK w00 L u l) (hl : l.length ≤ 999) (hnm : ∀ y ∈ l, y.1.length ≤ 2000) (hp : p.length ≤ 2000) (hb : BytesK w00 L bv b) : Ret Try.prog 56 #[.agg #[u], strV p, bv] w0 fun r w' => ∃ u' L', r = .tuple #[.agg #[u'], .int .i64 (putL l p b).2] ∧ FilesK w00 (L ++ L') u' (putL l p b).1 ∧ Sep w00 (X ++ (L ++ L')) w' :=
 (rput_c (St.sw M) h hl hnm hp hb).mono fun r w' ⟨u', L', h1, h2, M⟩ => ⟨u', L', h1, h2, St.sw M⟩
theorem rmkdir_x (M : Sep w00 (X ++ L) w0) (h : FilesK w00 L u l) (hl : l.length ≤ 999) (hnm : ∀ y ∈ l, y.1.length ≤ 2000) (hp : p.length ≤ 2000) : Ret Try.prog 60 #[.agg #[u], strV p] w0 fun r w' => ∃ u' L', r = .tuple #[.agg #[u'], .int .i64 (mkdirL l p).2] ∧ FilesK w00 (L ++ L') u' (mkdirL l p).1 ∧ Sep w00 (X ++ (L ++ L')) w' :=
 (rmkdir_c (St.sw M) h hl hnm hp).mono fun r w' ⟨u', L', h1, h2, M⟩ => ⟨u', L', h1, h2, St.sw M⟩
theorem rremove_x (M : Sep w00 (X ++ L) w0) (h : FilesK w00 L u l) (hl : l.length ≤ 1000) : Ret Try.prog 82 #[.agg #[u], strV p] w0 fun r w' => ∃ u' L', r = .tuple #[.agg #[u'], .int .i64 (removeL l p).2] ∧ FilesK w00 (L ++ L') u' (removeL l p).1 ∧ Sep w00 (X ++ (L ++ L')) w' :=
 (rremove_c (St.sw M) h hl).mono fun r w' ⟨u', L', h1, h2, M⟩ => ⟨u', L', h1, h2, St.sw M⟩
theorem rrename_x (M : Sep w00 (X ++ L) w0) (h : FilesK w00 L u l) (hl : l.length ≤ 900) (hnm : ∀ f ∈ l, f.1.length ≤ 1000) (hyl : y.length ≤ 1000) : Ret Try.prog 83 #[.agg #[u], strV p, strV y] w0 fun r w' => ∃ u' L', r = .tuple #[.agg #[u'], .int .i64 (renameL l p y).2] ∧ FilesK w00 (L ++ L') u' (renameL l p y).1 ∧ Sep w00 (X ++ (L ++ L')) w' :=
 (rrename_c (St.sw M) h hl hnm hyl).mono fun r w' ⟨u', L', h1, h2, M⟩ => ⟨u', L', h1, h2, St.sw M⟩
theorem rlist_x (M : Sep w00 (X ++ L) w0) (h : FilesK w00 L u l) (hl : l.length ≤ 1000) : Ret Try.prog 63 #[.agg #[u], strV p] w0 fun r w' => ∃ pv cv L', r = .tuple #[.slice pv (listL l p).1.length cv, .int .i64 (listL l p).2] ∧ SgK w00 (L ++ L') (.slice pv (listL l p).1.length cv) 1 (listL l p).1.length (strCs (listL l p).1) ∧ Sep w00 (X ++ (L ++ L')) w' :=
 (rlist_c16 (h.at_ M (fun y hy => mR hy)) hl).mono fun r w' ⟨u', L', h1, h2, M'⟩ => by
  obtain ⟨pv, cv, rfl⟩ := h2.shape
  exact ⟨pv, cv, L', h1, SgK.own h2 (by decide) (fun y hy => mR hy), St.keep M M'⟩
theorem rfind_x (M : Sep w00 (X ++ L) w0) (h : FilesK w00 L u l) (hl : l.length ≤ 1000) : Ret Try.prog 55 #[.agg #[u], strV p] w0 fun r w' => ∃ pv cv, r = .tuple #[.agg #[strV (findL l p).1.1, .bool (findL l p).1.2.1, .slice pv (findL l p).1.2.2.length cv], .int .i64 (findL l p).2] ∧ BytesK w00 L (.slice pv (findL l p).1.2.2.length cv) (findL l p).1.2.2 ∧ New w0 w' :=
 (rfindK_c (St.sw M) h hl).mono fun r w' ⟨dv, h1, h2, hn⟩ => by
  obtain ⟨pv, cv, rfl⟩ := (h2 _ _ M (fun y hy => mR hy)).shape
  exact ⟨pv, cv, h1, h2, hn⟩
theorem rdata_x {hv : Value} (M : Sep w00 (X ++ L) w0) (h : FilesK w00 L u l) (hl : l.length ≤ 1000) (hT : TreeL l) (hp : (p, false, d) ∈ l) : Ret Try.prog 79 #[.agg #[u, hv], strV p] w0 fun r w' => ∃ pv cv, r = .slice pv d.length cv ∧ BytesK w00 L (.slice pv d.length cv) d ∧ New w0 w' :=
 (rdata_c (St.sw M) h hl).mono fun r w' ⟨h2, hn⟩ => by
  rw [hT.found hp] at h2
  obtain ⟨pv, cv, rfl⟩ := (h2 _ _ M (fun y hy => mR hy)).shape
  exact ⟨pv, cv, rfl, h2, hn⟩
theorem putL_putS (hT : TreeL l) (hp : (p, false, d) ∈ l) (hb : b.length ≤ 65536) (hq : ¬ 262144 + d.length < usedL l + b.length) : putL l p b = putS l p b := by
 have e : fileB l p = d := by unfold fileB; rw [fileD_of hT.names hp]; rfl
 rw [hT.putD hp hb]
 unfold putS
 rw [e, if_neg hq]
theorem file_of (hT : TreeL l) (hp : (p, false, d) ∈ l) : fileB l p = d := by unfold fileB; rw [fileD_of hT.names hp]; rfl
end
theorem take_set {b : List UInt8} {n i : Nat} {c : UInt8} (hc : b[i]? = some c) (hn : i < n) : (b.take i ++ List.replicate (n - i) 0).set i c = b.take (i + 1) ++ List.replicate (n - (i + 1)) 0 := by
 have hl : i < b.length := (List.getElem?_eq_some_iff.1 hc).1
 rw [take_snoc hc, List.set_append_right _ _ (by rw [List.length_take]; omega), List.length_take, Nat.min_eq_left (by omega), Nat.sub_self]
 obtain ⟨k, hk⟩ : ∃ k, n - i = k + 1 := ⟨n - i - 1, by omega⟩
 rw [hk, List.replicate_succ, List.set_cons_zero, show n - (i + 1) = k by omega, List.append_assoc]
 rfl
theorem take_size {b : List UInt8} {n i : Nat} (h1 : i ≤ n) (h2 : i ≤ b.length) (h : n ≤ i ∨ b.length ≤ i) : b.take i ++ List.replicate (n - i) 0 = sizedB b n := by
 unfold sizedB
 rcases h with h | h
 ·have : i = n := by omega
  subst this
  congr 2; omega
 ·have : i = b.length := by omega
  subst this
  rw [List.take_of_length_le (Nat.le_refl _), List.take_of_length_le h1]
end Go.Proofs.Ytebfjdolgchgaaa

namespace Go.Proofs.Ytebfjdolgchgaaa
open Go Go.Fw Go.RowKit Go.Proofs
set_option linter.unusedVariables false
set_option linter.unusedSimpArgs false
set_option maxRecDepth 100000
set_option maxHeartbeats 4000000

-- valise/valiseref19.sized
theorem rsized_c {w0 : World} {v : Value} {b : List UInt8} {n : Nat} (h : BytesAt w0 v b) (hn : n ≤ 1099511627776) (hbl : b.length ≤ 1099511627776) : Ret Try.prog 80 #[v, .int .i64 (n : Int)] w0 fun r w' => ∃ Lr, BytesO Lr r (sizedB b n) ∧ Sep w0 Lr w' := by
 have M : Sep w0 [] w0 := St.nil w0
 obtain ⟨pv, cv, rfl⟩ := h.shape
 refine Ret.of_W Try.func80 rfl Try.ntmps80 rfl ?_
 refine go 0 ?_
 refine x_ms n n rfl rfl rfl Try.underlying56 sz5 ze5 rfl by5 rfl rfl (Nat.le_refl _) (by show 1 * n ≤ 281474976710656; omega) (by omega) ?_
 intro bms wms hbms hwms
 have M := M.acons hbms hwms
 have ho : OwL [(bms, .cells (List.replicate n (.int .u8 0)).toArray 5 (0, 0))] (.slice (some ⟨bms, 0, none⟩) n n) 1 n (byteCs (b.take 0 ++ List.replicate (n - 0) 0)) := .inr ⟨bms, n, [], 5, rfl, by simp [byteCs, byteV], by simp [byteCs], by simp [byteCs]⟩
 refine ⟨trivial, ?_⟩
 refine go 0 ?_
 refine W.loop (σ := Nat × List (Nat × Obj)) (fun q => [(0, _), (1, _), (5, .slice (some ⟨bms, 0, none⟩) n n), (6, .int .i64 ((q.1 : Nat) : Int))]) (fun q w => q.1 ≤ n ∧ q.1 ≤ b.length ∧ OwL q.2 (.slice (some ⟨bms, 0, none⟩) n n) 1 n (byteCs (b.take q.1 ++ List.replicate (n - q.1) 0)) ∧ Sep w0 q.2 w) (fun q => n - q.1) (0, _) ⟨rfl, rfl, rfl, rfl, trivial⟩ ⟨Nat.zero_le _, Nat.zero_le _, ho, M⟩ ?_
 rintro ⟨i, Lo⟩ w ⟨hi, hib, ho, M⟩
 simp only at hi hib ho M
 refine spl 1 12 ?_ ?_
 ·intro hsp1
  refine cnd 2 ?_ ?_
  ·intro hco1
   obtain ⟨c, hc⟩ := get_lt (l := b) (q := i) (by omega)
   obtain ⟨bb, off, rfl, _⟩ := h.blk (j := i) (by omega)
   obtain ⟨blk, cap, rest, T, hv, rfl, hset⟩ := bytes_set (j := i) (c := c) ho (by rw [List.length_append, List.length_take, List.length_replicate]; omega)
   cases hv
   rw [take_set hc (by omega)] at hset
   refine go 0 ?_
   refine x_ia i rfl rfl rfl Try.underlying56 sz5 rfl rfl rfl (by omega) ?_
   refine x_ld rfl rfl rfl Try.underlying5 rfl rfl (Sl.cell1 ((h.new M.frm).sl (by omega)) (byteCs_get hc)) ?_
   refine x_ia i rfl rfl rfl Try.underlying56 sz5 rfl rfl rfl (by omega) ?_
   refine x_st [_] _ rfl rfl rfl sz5 rfl rfl rfl rfl (M.at_ 0 rfl) rfl (Nat.ble_eq_true_of_le (by rw [List.length_append, byteCs_len, List.length_append, List.length_take, List.length_replicate]; simp only [List.length_cons, List.length_nil]; omega)) rfl ?_
   intro wst1 hwst1
   have M := M.put 0 rfl hwst1
   refine ⟨trivial, ?_⟩
   refine go 0 ?_
   refine x_add _ rfl rfl rfl rfl rfl (wadd (by omega) (by omega)) ?_
   refine go 0 ?_
   exact At.back ((i + 1, _)) ⟨rfl, rfl, rfl, rfl, trivial⟩ ⟨by simp only; omega, by simp only; omega, hset, M⟩ (by first | omega | (simp only; omega) | (simp; done) | (simp; omega))
  ·intro hco1
   rw [take_size hi hib (.inr (by omega))] at ho
   refine go 1 ?_
   exact ⟨Lo, by unfold BytesO; rw [sizedB_len]; exact ho, M⟩
 ·intro hsp1
  refine go 1 ?_
  rw [take_size hi hib (.inl (by omega))] at ho
  exact ⟨Lo, by unfold BytesO; rw [sizedB_len]; exact ho, M⟩

end Go.Proofs.Ytebfjdolgchgaaa

namespace Go.Proofs.Ytebfjdolgchgaaa
open Go Go.Fw Go.RowKit Go.Proofs
set_option linter.unusedVariables false
set_option linter.unusedSimpArgs false
set_option maxRecDepth 100000
set_option maxHeartbeats 4000000

-- (valise/valiseref19.FS).put
theorem fput_c {w00 w0 : World} {X L : List (Nat × Obj)} {u : Value} {ph : Option Addr} {nh ch : Nat} {l : List Raw} {p b d : List UInt8} {bv : Value} (M : Sep w00 (X ++ L) w0) (hF : FilesK w00 L u l) (hl : l.length ≤ 128) (hT : TreeL l) (hus : usedL l ≤ 262144) (hp : (p, false, d) ∈ l) (hb : BytesK w00 L bv b) (hbl : b.length ≤ 65536) : Ret Try.prog 81 #[.agg #[u, .slice ph nh ch], strV p, bv] w0 fun r w' => ∃ pu' cu' L', r = .tuple #[.agg #[.slice pu' (putS l p b).1.length cu', .slice ph nh ch], .int .i64 (putS l p b).2] ∧ FilesK w00 (L ++ L') (.slice pu' (putS l p b).1.length cu') (putS l p b).1 ∧ Sep w00 (X ++ (L ++ L')) w' := by
 obtain ⟨pu, cu, rfl⟩ := (hF.at_ M (fun y hy => mR hy)).shape
 obtain ⟨pb, cb, rfl⟩ := (hb _ _ M (fun y hy => mR hy)).shape
 have hrow := hT.row hp
 simp only at hrow
 have hdl := hrow.2.2.2.1
 have hdu : d.length ≤ usedL l := usedL_mem hp
 refine Ret.of_W Try.func81 rfl Try.ntmps81 rfl ?_
 refine go 1 ?_
 intro _ _ M
 refine go 1 ?_
 intro _ _ M
 refine go 0 ?_
 refine W.regD (by kernel_rfl) #[0, 1, 0, 0, 15, 31, 63, 0, 128, 511, 1023] [(0, false), (2, false), (3, false), (7, false), (8, false), (1, true), (4, true), (5, false), (6, false), (9, false), (10, false)] (by kernel_rfl) ?_
 intro K wD1 hK hwD1
 have M := M.drew hwD1
 refine go 3 ?_
 refine x_call rfl rfl rfl rfl rfl en47 (rused_c (hF.at_ M (fun y hy => by simp [hy])) (by omega) (by omega)) ?_
 rintro r_ w1 ⟨rfl, hn1⟩
 have M := M.new hn1
 refine pnd ?_
 refine x_call rfl rfl rfl rfl rfl en79 (rdata_x (X := _ :: _ :: X) M hF (by omega) hT hp) ?_
 rintro r_ w2 ⟨pd, cd, rfl, hd2, hn2⟩
 have M := M.new hn2
 refine pnd ?_
 refine go 1 ?_
 refine x_sub _ rfl rfl rfl rfl rfl (wsub (by omega) (by omega)) ?_
 refine x_add _ rfl rfl rfl rfl rfl (wadd (by omega) (by omega)) ?_
 refine cnd 1 ?_ ?_
 ·intro hco1
  have hPS : putS l p b = (l, 7) := by unfold putS; rw [file_of hT hp, if_pos (by omega)]
  refine go 2 ?_
  intro _ M
  refine go 1 ?_
  rw [hPS]
  exact ⟨_, _, [], rfl, by rw [List.append_nil]; exact hF, by rw [List.append_nil]; exact M.tail.tail⟩
 ·intro hco1
  have hPS := putL_putS (b := b) hT hp hbl (by omega)
  refine go 1 ?_
  refine x_call rfl rfl rfl rfl rfl en56 (rput_x (X := _ :: _ :: X) M hF (by omega) (fun y hy => by have := (hT.row hy).2.2.1; omega) (by omega) hb) ?_
  rintro r_ w3 ⟨u', L', rfl, hF', M⟩
  rw [hPS] at hF'
  rw [hPS]
  obtain ⟨pu', cu', rfl⟩ := (hF'.at_ M (fun y hy => mR hy)).shape
  refine ⟨trivial, ?_⟩
  refine go 1 ?_
  intro _ _ M
  refine go 1 ?_
  intro _ M
  refine go 4 ?_
  intro _ M
  refine go 1 ?_
  exact ⟨_, _, L', rfl, hF', M.tail.tail.tail⟩

end Go.Proofs.Ytebfjdolgchgaaa

namespace Go.Proofs.Ytebfjdolgchgaaa
open Go Go.Fw Go.RowKit Go.Proofs
set_option linter.unusedVariables false
set_option linter.unusedSimpArgs false
set_option maxRecDepth 100000
set_option maxHeartbeats 4000000

-- (valise/valiseref19.FS).read
theorem fread_c {w00 w0 : World} {X L : List (Nat × Obj)} {u : Value} {ph : Option Addr} {nh ch : Nat} {l : List Raw} {x : Opn} {o : OpS} {dv : Value} {d : List UInt8} (M : Sep w00 (X ++ L) w0) (hF : FilesK w00 L u l) (hl : l.length ≤ 128) (hT : TreeL l) (hus : usedL l ≤ 262144) (hp : (x.2.2.1, false, d) ∈ l) (hdv : dv.oneCell' = true) : Ret Try.prog 57 #[.agg #[u, .slice ph nh ch], .agg (oR x).toArray, .agg (opC o dv).toArray] w0 fun r w' => ∃ L', RsK w00 (L ++ L') r (readS l x.2.2.1 o) ∧ Sep w00 (X ++ (L ++ L')) w' := by
 obtain ⟨pu, cu, rfl⟩ := (hF.at_ M (fun y hy => mR hy)).shape
 have hdl := (hT.row hp).2.2.2.1
 simp only at hdl
 have hfo := file_of hT hp
 refine Ret.of_W Try.func57 rfl Try.ntmps57 rfl ?_
 refine go 1 ?_
 intro _ _ M
 refine go 1 ?_
 intro _ _ M
 refine go 1 ?_
 intro _ _ M
 refine go 1 ?_
 intro _ _ M
 refine spl 2 11 ?_ ?_
 ·intro hsp1
  refine go 0 ?_
  refine x_call rfl rfl rfl rfl rfl en37 (rbad_c) ?_
  rintro r_ wcall1 ⟨rfl, hncall1⟩
  have M := M.new hncall1
  refine ⟨trivial, ?_⟩
  refine go 1 ?_
  intro _ M
  refine go 1 ?_
  have hrs : readS l x.2.2.1 o = badS 2 := by unfold readS; rw [if_pos (.inl hsp1)]
  exact ⟨[], by rw [List.append_nil, hrs]; exact RsK.bad, by rw [List.append_nil]; exact M.tail.tail.tail.tail⟩
 ·intro hsp1
  refine cnd 2 ?_ ?_
  ·intro hco2
   refine go 0 ?_
   refine x_call rfl rfl rfl rfl rfl en37 (rbad_c) ?_
   rintro r_ wcall2 ⟨rfl, hncall2⟩
   have M := M.new hncall2
   refine ⟨trivial, ?_⟩
   refine go 1 ?_
   intro _ M
   refine go 1 ?_
   have hrs : readS l x.2.2.1 o = badS 2 := by unfold readS; rw [if_pos (.inr hco2)]
   exact ⟨[], by rw [List.append_nil, hrs]; exact RsK.bad, by rw [List.append_nil]; exact M.tail.tail.tail.tail⟩
  ·intro hco2
   have hrs : readS l x.2.2.1 o = ⟨0, 0, 0, (d.drop o.a.toNat).take o.n.toNat, []⟩ := by unfold readS; rw [if_neg (by omega), hfo]
   refine go 2 ?_
   refine x_call rfl rfl rfl rfl rfl en79 (rdata_x (X := _ :: _ :: _ :: _ :: X) M hF (by omega) hT hp) ?_
   rintro r_ w3 ⟨pd, cd, rfl, hd3, hn3⟩
   have M := M.new hn3
   refine ⟨trivial, ?_⟩
   refine cnd 3 ?_ ?_
   ·intro hco3
    refine go 2 ?_
    intro _ M
    refine go 1 ?_
    rw [show (d.drop o.a.toNat).take o.n.toNat = [] by rw [List.drop_of_length_le (by omega), List.take_nil]] at hrs
    exact ⟨[], by rw [List.append_nil, hrs]; exact ⟨none, 0, none, 0, rfl, nilS (by decide), nilS (by decide)⟩, by rw [List.append_nil]; exact M.tail.tail.tail.tail⟩
   ·intro hco3
    have hba := hd3 _ _ M (fun y hy => by simp [hy])
    have hw1 := Sg.drop hba (j := o.a.toNat) (by omega)
    have hcap := Sg.capLe hba
    refine go 1 ?_
    refine x_sll o.a.toNat rfl rfl rfl Try.underlying56 sz5 rfl rfl (by omega) (by omega) ?_
    refine go 0 ?_
    refine x_bs0 rfl rfl rfl Try.underlying56 sz5 ?_
    intro bb wb hbb hwb
    have M := M.acons hbb hwb
    refine ⟨trivial, ?_⟩
    refine go 2 ?_
    refine x_min ((min o.n.toNat (d.length - o.a.toNat) : Nat) : Int) rfl rfl rfl rfl rfl (by split <;> omega) ?_
    refine x_slh (min o.n.toNat (d.length - o.a.toNat)) rfl rfl rfl Try.underlying56 sz5 rfl rfl rfl (by omega) ?_
    have hba := hd3 _ _ M (fun y hy => by simp [hy])
    have hwant := Sg.take (Sg.drop hba (j := o.a.toNat) (by omega)) (j := (min o.n.toNat (d.length - o.a.toNat))) (by omega)
    have hwant : BytesAt wb _ ((d.drop o.a.toNat).take (min o.n.toNat (d.length - o.a.toNat))) := bytes_sub2 hwant
    have hwl : ((d.drop o.a.toNat).take (min o.n.toNat (d.length - o.a.toNat))).length = min o.n.toNat (d.length - o.a.toNat) := by rw [List.length_take, List.length_drop]; omega
    have hww : (d.drop o.a.toNat).take (min o.n.toNat (d.length - o.a.toNat)) = (d.drop o.a.toNat).take o.n.toNat := by
     rcases Nat.le_total o.n.toNat (d.length - o.a.toNat) with hle | hle
     ·rw [Nat.min_eq_left hle]
     ·rw [Nat.min_eq_right hle, List.take_of_length_le (by rw [List.length_drop]; exact Nat.le_refl _), List.take_of_length_le (by rw [List.length_drop]; exact hle)]
    unfold BytesAt at hwant
    rw [hwl] at hwant
    refine x_apL (L := [_]) (cs := []) (nn := 0) rfl rfl rfl rfl Try.underlying56 sz5 ze5 rfl by5 rfl rfl (.inr ⟨bb, 0, [], _, rfl, rfl, rfl, rfl⟩) M (by simp) (hwant.src Try.underlying56 (byteCs_one _)) (by omega) (by decide) (by omega) ?_
    intro Lo v6 w6 how M
    rw [Nat.zero_add, List.nil_append] at how
    have how : BytesO Lo v6 ((d.drop o.a.toNat).take (min o.n.toNat (d.length - o.a.toNat))) := by unfold BytesO; rw [hwl]; exact how
    rw [hww] at how
    obtain ⟨p6, c6, rfl⟩ := how.shape
    have M : Sep w00 ((_ :: _ :: _ :: _ :: X) ++ (L ++ Lo)) w6 := St.lay M
    refine ⟨trivial, ?_⟩
    refine go 2 ?_
    intro _ M
    refine go 1 ?_
    exact ⟨Lo, by rw [hrs]; exact ⟨_, _, _, _, rfl, SgK.own how (by decide) (fun y hy => mR hy), nilS (by decide)⟩, M.tail.tail.tail.tail⟩

end Go.Proofs.Ytebfjdolgchgaaa

namespace Go.Proofs.Ytebfjdolgchgaaa
open Go Go.Fw Go.RowKit Go.Proofs
set_option linter.unusedVariables false
set_option linter.unusedSimpArgs false
set_option maxRecDepth 100000
set_option maxHeartbeats 4000000

-- (valise/valiseref19.FS).write
theorem fwrite_c {w00 w0 : World} {X L : List (Nat × Obj)} {u : Value} {ph : Option Addr} {nh ch : Nat} {l : List Raw} {x : Opn} {o : OpS} {dv : Value} {d : List UInt8} (M : Sep w00 (X ++ L) w0) (hF : FilesK w00 L u l) (hl : l.length ≤ 128) (hT : TreeL l) (hus : usedL l ≤ 262144) (hp : (x.2.2.1, false, d) ∈ l) (hdv : BytesK w00 L dv o.d) (hod : o.d.length ≤ 131072) : Ret Try.prog 58 #[.agg #[u, .slice ph nh ch], .agg (oR x).toArray, .agg (opC o dv).toArray] w0 fun r w' => ∃ pu' cu' L' rv, r = .tuple #[.agg #[.slice pu' (writeS l x.2.2.1 x.2.2.2 o).2.length cu', .slice ph nh ch], rv] ∧ RsK w00 (L ++ L') rv (writeS l x.2.2.1 x.2.2.2 o).1 ∧ FilesK w00 (L ++ L') (.slice pu' (writeS l x.2.2.1 x.2.2.2 o).2.length cu') (writeS l x.2.2.1 x.2.2.2 o).2 ∧ Sep w00 (X ++ (L ++ L')) w' := by
 obtain ⟨pu, cu, rfl⟩ := (hF.at_ M (fun y hy => mR hy)).shape
 obtain ⟨pdv, cdv, rfl⟩ := (hdv _ _ M (fun y hy => mR hy)).shape
 have hdl := (hT.row hp).2.2.2.1
 simp only at hdl
 have hfo := file_of hT hp
 refine Ret.of_W Try.func58 rfl Try.ntmps58 rfl ?_
 refine go 1 ?_
 intro bbx1 _ M
 refine go 1 ?_
 intro bbx2 _ M
 refine go 1 ?_
 intro bbx3 _ M
 refine go 1 ?_
 intro bal1 _ M
 refine go 1 ?_
 intro bal2 _ M
 refine spl 2 16 ?_ ?_
 ·intro hsp1
  refine go 0 ?_
  refine W.regD (by kernel_rfl) #[0, 0, 3, 7] [(0, false), (1, true), (2, true), (3, true)] (by kernel_rfl) ?_
  intro K wD1 hK hwD1
  have M := M.drew hwD1
  refine go 1 ?_
  refine x_call rfl rfl rfl rfl rfl en37 (rbad_c) ?_
  rintro r_ wcall1 ⟨rfl, hncall1⟩
  have M := M.new hncall1
  refine pnd ?_
  refine x_st [_, _] _ rfl rfl rfl sz36 rfl rfl rfl rfl atM rfl rfl rfl ?_
  intro wst1 hwst1
  have M := by first | exact M.put 0 rfl hwst1 | exact M.put 1 rfl hwst1 | exact M.put 2 rfl hwst1 | exact M.put 3 rfl hwst1 | exact M.put 4 rfl hwst1 | exact M.put 5 rfl hwst1 | exact M.put 6 rfl hwst1 | exact M.put 7 rfl hwst1
  refine pnd ?_
  refine x_st [_, _, _, _, _] _ rfl rfl rfl sz59 rfl rfl rfl rfl atM rfl rfl rfl ?_
  intro wst2 hwst2
  have M := by first | exact M.put 0 rfl hwst2 | exact M.put 1 rfl hwst2 | exact M.put 2 rfl hwst2 | exact M.put 3 rfl hwst2 | exact M.put 4 rfl hwst2 | exact M.put 5 rfl hwst2 | exact M.put 6 rfl hwst2 | exact M.put 7 rfl hwst2
  refine pnd ?_
  refine go 1 ?_
  have hW : writeS l x.2.2.1 x.2.2.2 o = (badS 2, l) := by unfold writeS; rw [if_pos (.inl hsp1)]
  rw [hW]
  exact ⟨_, _, [], _, rfl, by rw [List.append_nil]; exact RsK.bad, by rw [List.append_nil]; exact hF, by rw [List.append_nil]; exact M.tail.tail.tail.tail.tail⟩
 ·intro hsp1
  refine cnd 2 ?_ ?_
  ·intro hco2
   refine go 0 ?_
   refine W.regD (by kernel_rfl) #[0, 0, 3, 7] [(0, false), (1, true), (2, true), (3, true)] (by kernel_rfl) ?_
   intro K wD2 hK hwD2
   have M := M.drew hwD2
   refine go 1 ?_
   refine x_call rfl rfl rfl rfl rfl en37 (rbad_c) ?_
   rintro r_ wcall2 ⟨rfl, hncall2⟩
   have M := M.new hncall2
   refine pnd ?_
   refine x_st [_, _] _ rfl rfl rfl sz36 rfl rfl rfl rfl atM rfl rfl rfl ?_
   intro wst3 hwst3
   have M := by first | exact M.put 0 rfl hwst3 | exact M.put 1 rfl hwst3 | exact M.put 2 rfl hwst3 | exact M.put 3 rfl hwst3 | exact M.put 4 rfl hwst3 | exact M.put 5 rfl hwst3 | exact M.put 6 rfl hwst3 | exact M.put 7 rfl hwst3
   refine pnd ?_
   refine x_st [_, _, _, _, _] _ rfl rfl rfl sz59 rfl rfl rfl rfl atM rfl rfl rfl ?_
   intro wst4 hwst4
   have M := by first | exact M.put 0 rfl hwst4 | exact M.put 1 rfl hwst4 | exact M.put 2 rfl hwst4 | exact M.put 3 rfl hwst4 | exact M.put 4 rfl hwst4 | exact M.put 5 rfl hwst4 | exact M.put 6 rfl hwst4 | exact M.put 7 rfl hwst4
   refine pnd ?_
   refine go 1 ?_
   have hW : writeS l x.2.2.1 x.2.2.2 o = (badS 2, l) := by unfold writeS; rw [if_pos (.inr hco2)]
   rw [hW]
   exact ⟨_, _, [], _, rfl, by rw [List.append_nil]; exact RsK.bad, by rw [List.append_nil]; exact hF, by rw [List.append_nil]; exact M.tail.tail.tail.tail.tail⟩
  ·intro hco2
   have hn1 : ¬ (x.2.2.2 = false ∨ o.a < 0) := by
    rintro (h | h)
    ·rw [hsp1] at h; cases h
    ·omega
   refine cnd 3 ?_ ?_
   ·intro hco3
    refine go 3 ?_
    intro _ M
    refine go 1 ?_
    intro _ M
    refine go 1 ?_
    have hW : writeS l x.2.2.1 x.2.2.2 o = (badS 0, l) := by unfold writeS; rw [if_neg hn1, if_pos (List.length_eq_zero_iff.1 (by omega))]
    rw [hW]
    exact ⟨_, _, [], _, rfl, by rw [List.append_nil]; exact RsK.bad, by rw [List.append_nil]; exact hF, by rw [List.append_nil]; exact M.tail.tail.tail.tail.tail⟩
   ·intro hco3
    have hn2 : ¬ o.d = [] := by intro e; rw [e] at hco3; exact hco3 rfl
    refine spl 3 33 ?_ ?_
    ·intro hsp2
     refine go 0 ?_
     refine W.regD (by kernel_rfl) #[0, 0, 3, 7] [(0, false), (1, true), (2, true), (3, true)] (by kernel_rfl) ?_
     intro K wD3 hK hwD3
     have M := M.drew hwD3
     refine go 1 ?_
     refine x_call rfl rfl rfl rfl rfl en37 (rbad_c) ?_
     rintro r_ wcall3 ⟨rfl, hncall3⟩
     have M := M.new hncall3
     refine pnd ?_
     refine x_st [_, _] _ rfl rfl rfl sz36 rfl rfl rfl rfl atM rfl rfl rfl ?_
     intro wst7 hwst7
     have M := by first | exact M.put 0 rfl hwst7 | exact M.put 1 rfl hwst7 | exact M.put 2 rfl hwst7 | exact M.put 3 rfl hwst7 | exact M.put 4 rfl hwst7 | exact M.put 5 rfl hwst7 | exact M.put 6 rfl hwst7 | exact M.put 7 rfl hwst7
     refine pnd ?_
     refine x_st [_, _, _, _, _] _ rfl rfl rfl sz59 rfl rfl rfl rfl atM rfl rfl rfl ?_
     intro wst8 hwst8
     have M := by first | exact M.put 0 rfl hwst8 | exact M.put 1 rfl hwst8 | exact M.put 2 rfl hwst8 | exact M.put 3 rfl hwst8 | exact M.put 4 rfl hwst8 | exact M.put 5 rfl hwst8 | exact M.put 6 rfl hwst8 | exact M.put 7 rfl hwst8
     refine pnd ?_
     refine go 1 ?_
     have hW : writeS l x.2.2.1 x.2.2.2 o = (badS 3, l) := by unfold writeS; rw [if_neg hn1, if_neg hn2, if_pos (.inl (by omega))]
     rw [hW]
     exact ⟨_, _, [], _, rfl, by rw [List.append_nil]; exact RsK.bad, by rw [List.append_nil]; exact hF, by rw [List.append_nil]; exact M.tail.tail.tail.tail.tail⟩
    ·intro hsp2
     refine go 3 ?_
     refine x_sub _ rfl rfl rfl rfl rfl (wsub (by omega) (by omega)) ?_
     refine cnd 1 ?_ ?_
     ·intro hco5
      refine go 0 ?_
      refine W.regD (by kernel_rfl) #[0, 0, 3, 7] [(0, false), (1, true), (2, true), (3, true)] (by kernel_rfl) ?_
      intro K wD4 hK hwD4
      have M := M.drew hwD4
      refine go 1 ?_
      refine x_call rfl rfl rfl rfl rfl en37 (rbad_c) ?_
      rintro r_ wcall4 ⟨rfl, hncall4⟩
      have M := M.new hncall4
      refine pnd ?_
      refine x_st [_, _] _ rfl rfl rfl sz36 rfl rfl rfl rfl atM rfl rfl rfl ?_
      intro wst9 hwst9
      have M := by first | exact M.put 0 rfl hwst9 | exact M.put 1 rfl hwst9 | exact M.put 2 rfl hwst9 | exact M.put 3 rfl hwst9 | exact M.put 4 rfl hwst9 | exact M.put 5 rfl hwst9 | exact M.put 6 rfl hwst9 | exact M.put 7 rfl hwst9
      refine pnd ?_
      refine x_st [_, _, _, _, _] _ rfl rfl rfl sz59 rfl rfl rfl rfl atM rfl rfl rfl ?_
      intro wst10 hwst10
      have M := by first | exact M.put 0 rfl hwst10 | exact M.put 1 rfl hwst10 | exact M.put 2 rfl hwst10 | exact M.put 3 rfl hwst10 | exact M.put 4 rfl hwst10 | exact M.put 5 rfl hwst10 | exact M.put 6 rfl hwst10 | exact M.put 7 rfl hwst10
      refine pnd ?_
      refine go 1 ?_
      have hW : writeS l x.2.2.1 x.2.2.2 o = (badS 3, l) := by unfold writeS; rw [if_neg hn1, if_neg hn2, if_pos (.inr (by omega))]
      rw [hW]
      exact ⟨_, _, [], _, rfl, by rw [List.append_nil]; exact RsK.bad, by rw [List.append_nil]; exact hF, by rw [List.append_nil]; exact M.tail.tail.tail.tail.tail⟩
     ·intro hco5
      have hn3 : ¬ (65536 < o.d.length ∨ 65536 - (o.d.length : Int) < o.a) := by omega
      have hW : writeS l x.2.2.1 x.2.2.2 o = sizeS l x.2.2.1 (writeB d o.d o.a.toNat) ⟨0, 0, o.d.length, [], []⟩ := by unfold writeS; rw [if_neg hn1, if_neg hn2, if_neg hn3, hfo]
      have hwl := writeB_len (b := d) (d := o.d) (a := o.a.toNat)
      refine go 2 ?_
      refine x_call rfl rfl rfl rfl rfl en79 (rdata_x (X := _ :: _ :: _ :: _ :: _ :: X) M hF (by omega) hT hp) ?_
      rintro r_ w5 ⟨pd, cd, rfl, hd5, hn5⟩
      have M := M.new hn5
      refine ⟨trivial, ?_⟩
      refine go 4 ?_
      refine x_add ((o.a.toNat + o.d.length : Nat) : Int) rfl rfl rfl rfl rfl (by rw [wadd (by omega) (by omega)]; omega) ?_
      refine x_max ((max d.length (o.a.toNat + o.d.length) : Nat) : Int) rfl rfl rfl rfl rfl (by split <;> omega) ?_
      refine x_call rfl rfl rfl rfl rfl en80 (rsized_c (hd5 _ _ M (fun y hy => by simp [hy])) (by omega) (by omega)) ?_
      rintro r_ w6 ⟨Lo, ho, M6⟩
      have M := M.grow' M6
      unfold BytesO at ho
      rw [sizedB_len] at ho
      obtain ⟨ps, cs, rfl⟩ := ho.shape
      refine ⟨trivial, ?_⟩
      refine go 0 ?_
      refine W.loop (σ := Nat × List (Nat × Obj)) (fun q => [(3, _), (4, _), (5, _), (6, _), (7, _), (9, _), (10, .int .i64 ((q.1 : Nat) : Int))]) (fun q w => q.1 ≤ o.d.length ∧ OwL q.2 (.slice ps (max d.length (o.a.toNat + o.d.length)) cs) 1 (max d.length (o.a.toNat + o.d.length)) (byteCs (overB (sizedB d (max d.length (o.a.toNat + o.d.length))) (o.d.take q.1) o.a.toNat)) ∧ Sep w00 (q.2 ++ ((bal2, .cells [.int .i64 0, .int .i64 0, .int .i64 0, .slice none 0 0, .slice none 0 0].toArray 59 (0, 0)) :: (bal1, .cells [.slice none 0 0, .slice none 0 0].toArray 36 (0, 0)) :: (bbx3, .cells (opC o (.slice pdv o.d.length cdv)).toArray 66 (0, 0)) :: (bbx2, .cells (oR x).toArray 118 (0, 0)) :: (bbx1, .cells [.slice pu l.length cu, .slice ph nh ch].toArray 36 (0, 0)) :: (X ++ L))) w) (fun q => o.d.length - q.1) (0, Lo) ⟨rfl, rfl, rfl, rfl, rfl, rfl, rfl, trivial⟩ ⟨Nat.zero_le _, by simp only; rw [over_zero]; exact ho, M⟩ ?_
      rintro ⟨q, Lo⟩ w ⟨hq, ho, M⟩
      simp only at hq ho M
      refine go 0 ?_
      refine x_ld rfl rfl rfl Try.underlying56 rfl rfl (cell_of (M.get (b := bbx3) (o := (bbx3, .cells (opC o (.slice pdv o.d.length cdv)).toArray 66 (0, 0)).2) (by simp)) rfl) ?_
      refine cnd 2 ?_ ?_
      ·intro hco6
       obtain ⟨c, hc⟩ := get_lt (l := o.d) (q := q) (by omega)
       obtain ⟨blk, cap, rest, T, hv, rfl, hset⟩ := bytes_set (j := o.a.toNat + q) (c := c) ho (by rw [overB_len (by rw [List.length_take, sizedB_len]; omega), sizedB_len]; omega)
       cases hv
       rw [← over_step hc (by rw [sizedB_len]; omega)] at hset
       have hdw := hdv _ _ M (fun y hy => by simp [hy])
       obtain ⟨bd, od, rfl, _⟩ := Sg.blk hdw (j := q) (by omega)
       refine go 0 ?_
       refine W.regD (by kernel_rfl) #[0, 0, 2, 0, 14, 0, 32, 0, 224, 480, 1023, 2047] [(0, false), (1, false), (2, false), (3, false), (4, false), (5, false), (6, false), (7, false), (8, false), (9, false), (10, false), (11, true)] (by kernel_rfl) ?_
       intro K wD5 hK hwD5
       have M := M.drew hwD5
       refine go 0 ?_
       refine x_ld rfl rfl rfl Try.underlying3 rfl rfl (cell_of (M.get (b := bbx3) (o := (bbx3, .cells (opC o (.slice (some ⟨bd, od, none⟩) o.d.length cdv)).toArray 66 (0, 0)).2) (by simp)) rfl) ?_
       refine go 0 ?_
       refine x_add ((o.a.toNat + q : Nat) : Int) rfl rfl rfl rfl rfl (by simp only; rw [wadd (by omega) (by omega)]; omega) ?_
       refine go 0 ?_
       refine x_ld rfl rfl rfl Try.underlying56 rfl rfl (cell_of (M.get (b := bbx3) (o := (bbx3, .cells (opC o (.slice (some ⟨bd, od, none⟩) o.d.length cdv)).toArray 66 (0, 0)).2) (by simp)) rfl) ?_
       refine go 0 ?_
       refine x_ia q rfl rfl rfl Try.underlying56 sz5 rfl rfl rfl (by omega) ?_
       refine x_ld rfl rfl rfl Try.underlying5 rfl rfl (Sl.cell1 ((hdv _ _ M (fun y hy => by simp [hy])).sl (by omega)) (byteCs_get hc)) ?_
       refine x_ia (o.a.toNat + q) rfl rfl rfl Try.underlying56 sz5 rfl rfl rfl (by omega) ?_
       refine x_st [_] _ rfl rfl rfl sz5 rfl rfl rfl rfl (M.at_ 0 rfl) rfl (Nat.ble_eq_true_of_le (by rw [List.length_append, byteCs_len, overB_len (by rw [List.length_take, sizedB_len]; omega), sizedB_len]; simp only [List.length_cons, List.length_nil]; omega)) rfl ?_
       intro wst11 hwst11
       have M := M.put 0 rfl hwst11
       refine pnd ?_
       refine go 0 ?_
       refine x_add _ rfl rfl rfl rfl rfl (wadd (by omega) (by omega)) ?_
       refine go 0 ?_
       exact At.back ((q + 1, _)) ⟨rfl, rfl, rfl, rfl, rfl, rfl, rfl, trivial⟩ ⟨by simp only; omega, hset, M⟩ (by first | omega | (simp only; omega) | (simp; done) | (simp; omega))
      ·intro hco6
       have hq2 : q = o.d.length := by omega
       rw [hq2, List.take_length] at ho
       have hoB : BytesO Lo (.slice ps (max d.length (o.a.toNat + o.d.length)) cs) (writeB d o.d o.a.toNat) := by unfold BytesO; rw [hwl]; exact ho
       have M : Sep w00 ((_ :: _ :: _ :: _ :: _ :: X) ++ (L ++ Lo)) _ := St.lay M
       have hF2 := hF.mono (L' := L ++ Lo) (fun y hy => mL hy)
       refine go 2 ?_
       refine x_call rfl rfl rfl rfl rfl en81 (fput_c (X := _ :: _ :: _ :: _ :: _ :: X) (L := L ++ Lo) M hF2 hl hT hus hp (SgK.own hoB (by decide) (fun y hy => mR hy)) (by omega)) ?_
       rintro r_ w7 ⟨pu', cu', L7, rfl, hF7, M⟩
       have hPS : putS l x.2.2.1 (writeB d o.d o.a.toNat) = if 262144 + d.length < usedL l + (writeB d o.d o.a.toNat).length then (l, 7) else (setD l x.2.2.1 (writeB d o.d o.a.toNat), 0) := by unfold putS; rw [hfo]
       unfold sizeS at hW
       rw [hfo] at hW
       refine ⟨trivial, ?_⟩
       refine go 1 ?_
       intro _ _ M
       refine go 1 ?_
       intro _ M
       refine cnd 1 ?_ ?_
       ·intro hco7
        have hq7 : 262144 + d.length < usedL l + (writeB d o.d o.a.toNat).length := by
         rw [hPS] at hco7
         split at hco7
         ·assumption
         ·exact absurd rfl hco7
        rw [if_pos hq7] at hPS hW
        rw [hPS]
        rw [hPS] at M hF7
        refine go 0 ?_
        refine W.regD (by kernel_rfl) #[0, 0, 2, 7, 15] [(0, false), (1, false), (2, true), (3, true), (4, true)] (by kernel_rfl) ?_
        intro K wD6 hK hwD6
        have M := M.drew hwD6
        refine go 1 ?_
        refine x_call rfl rfl rfl rfl rfl en37 (rbad_c) ?_
        rintro r_ wcall8 ⟨rfl, hncall8⟩
        have M := M.new hncall8
        refine pnd ?_
        refine x_st [_, _] _ rfl rfl rfl sz36 rfl rfl rfl rfl atM rfl rfl rfl ?_
        intro wst13 hwst13
        have M := by first | exact M.put 0 rfl hwst13 | exact M.put 1 rfl hwst13 | exact M.put 2 rfl hwst13 | exact M.put 3 rfl hwst13 | exact M.put 4 rfl hwst13 | exact M.put 5 rfl hwst13 | exact M.put 6 rfl hwst13 | exact M.put 7 rfl hwst13
        refine pnd ?_
        refine x_st [_, _, _, _, _] _ rfl rfl rfl sz59 rfl rfl rfl rfl atM rfl rfl rfl ?_
        intro wst14 hwst14
        have M := by first | exact M.put 0 rfl hwst14 | exact M.put 1 rfl hwst14 | exact M.put 2 rfl hwst14 | exact M.put 3 rfl hwst14 | exact M.put 4 rfl hwst14 | exact M.put 5 rfl hwst14 | exact M.put 6 rfl hwst14 | exact M.put 7 rfl hwst14
        refine pnd ?_
        refine go 1 ?_
        rw [hW]
        rw [List.append_assoc] at M
        exact ⟨_, _, Lo ++ L7, _, rfl, RsK.bad, hF.mono (fun y hy => mL hy), M.tail.tail.tail.tail.tail.tail⟩
       ·intro hco7
        have hq7 : ¬ 262144 + d.length < usedL l + (writeB d o.d o.a.toNat).length := by
         intro h
         rw [hPS, if_pos h] at hco7
         exact absurd hco7 (show ¬ (7 : Int) = 0 by decide)
        rw [if_neg hq7] at hPS hW
        rw [hPS]
        rw [hPS] at M hF7
        refine go 0 ?_
        refine W.regD (by kernel_rfl) #[0, 0, 2, 6, 14, 1, 63] [(0, false), (1, false), (2, false), (3, false), (4, false), (5, true), (6, true)] (by kernel_rfl) ?_
        intro K wD7 hK hwD7
        have M := M.drew hwD7
        refine go 4 ?_
        refine x_st [_, _] _ rfl rfl rfl sz36 rfl rfl rfl rfl atM rfl rfl rfl ?_
        intro wst15 hwst15
        have M := by first | exact M.put 0 rfl hwst15 | exact M.put 1 rfl hwst15 | exact M.put 2 rfl hwst15 | exact M.put 3 rfl hwst15 | exact M.put 4 rfl hwst15 | exact M.put 5 rfl hwst15 | exact M.put 6 rfl hwst15 | exact M.put 7 rfl hwst15
        refine pnd ?_
        refine x_st [_, _, _, _, _] _ rfl rfl rfl sz59 rfl rfl rfl rfl atM rfl rfl rfl ?_
        intro wst16 hwst16
        have M := by first | exact M.put 0 rfl hwst16 | exact M.put 1 rfl hwst16 | exact M.put 2 rfl hwst16 | exact M.put 3 rfl hwst16 | exact M.put 4 rfl hwst16 | exact M.put 5 rfl hwst16 | exact M.put 6 rfl hwst16 | exact M.put 7 rfl hwst16
        refine pnd ?_
        refine go 1 ?_
        rw [hW]
        rw [List.append_assoc] at M hF7
        exact ⟨_, _, Lo ++ L7, _, rfl, ⟨none, 0, none, 0, rfl, nilS (by decide), nilS (by decide)⟩, hF7, M.tail.tail.tail.tail.tail.tail⟩

end Go.Proofs.Ytebfjdolgchgaaa

namespace Go.Proofs.Ytebfjdolgchgaaa
open Go Go.Fw Go.RowKit Go.Proofs
set_option linter.unusedVariables false
set_option linter.unusedSimpArgs false
set_option maxRecDepth 100000
set_option maxHeartbeats 4000000

-- (valise/valiseref19.FS).truncate
theorem ftrunc_c {w00 w0 : World} {X L : List (Nat × Obj)} {u : Value} {ph : Option Addr} {nh ch : Nat} {l : List Raw} {x : Opn} {o : OpS} {dv : Value} {d : List UInt8} (M : Sep w00 (X ++ L) w0) (hF : FilesK w00 L u l) (hl : l.length ≤ 128) (hT : TreeL l) (hus : usedL l ≤ 262144) (hp : (x.2.2.1, false, d) ∈ l) (hdv : dv.oneCell' = true) : Ret Try.prog 59 #[.agg #[u, .slice ph nh ch], .agg (oR x).toArray, .agg (opC o dv).toArray] w0 fun r w' => ∃ pu' cu' L' rv, r = .tuple #[.agg #[.slice pu' (truncS l x.2.2.1 x.2.2.2 o).2.length cu', .slice ph nh ch], rv] ∧ RsK w00 (L ++ L') rv (truncS l x.2.2.1 x.2.2.2 o).1 ∧ FilesK w00 (L ++ L') (.slice pu' (truncS l x.2.2.1 x.2.2.2 o).2.length cu') (truncS l x.2.2.1 x.2.2.2 o).2 ∧ Sep w00 (X ++ (L ++ L')) w' := by
 obtain ⟨pu, cu, rfl⟩ := (hF.at_ M (fun y hy => mR hy)).shape
 have hdl := (hT.row hp).2.2.2.1
 simp only at hdl
 have hfo := file_of hT hp
 refine Ret.of_W Try.func59 rfl Try.ntmps59 rfl ?_
 refine go 1 ?_
 intro bbx1 _ M
 refine go 1 ?_
 intro bbx2 _ M
 refine go 1 ?_
 intro bbx3 _ M
 refine go 1 ?_
 intro bal1 _ M
 refine go 1 ?_
 intro bal2 _ M
 refine spl 2 13 ?_ ?_
 ·intro hsp1
  refine go 0 ?_
  refine W.regD (by kernel_rfl) #[0, 0, 3, 7] [(0, false), (1, true), (2, true), (3, true)] (by kernel_rfl) ?_
  intro K wD1 hK hwD1
  have M := M.drew hwD1
  refine go 1 ?_
  refine x_call rfl rfl rfl rfl rfl en37 (rbad_c) ?_
  rintro r_ wcall1 ⟨rfl, hncall1⟩
  have M := M.new hncall1
  refine pnd ?_
  refine x_st [_, _] _ rfl rfl rfl sz36 rfl rfl rfl rfl atM rfl rfl rfl ?_
  intro wst1 hwst1
  have M := by first | exact M.put 0 rfl hwst1 | exact M.put 1 rfl hwst1 | exact M.put 2 rfl hwst1 | exact M.put 3 rfl hwst1 | exact M.put 4 rfl hwst1 | exact M.put 5 rfl hwst1 | exact M.put 6 rfl hwst1 | exact M.put 7 rfl hwst1
  refine pnd ?_
  refine x_st [_, _, _, _, _] _ rfl rfl rfl sz59 rfl rfl rfl rfl atM rfl rfl rfl ?_
  intro wst2 hwst2
  have M := by first | exact M.put 0 rfl hwst2 | exact M.put 1 rfl hwst2 | exact M.put 2 rfl hwst2 | exact M.put 3 rfl hwst2 | exact M.put 4 rfl hwst2 | exact M.put 5 rfl hwst2 | exact M.put 6 rfl hwst2 | exact M.put 7 rfl hwst2
  refine pnd ?_
  refine go 1 ?_
  have hW : truncS l x.2.2.1 x.2.2.2 o = (badS 2, l) := by unfold truncS; rw [if_pos (.inl hsp1)]
  rw [hW]
  exact ⟨_, _, [], _, rfl, by rw [List.append_nil]; exact RsK.bad, by rw [List.append_nil]; exact hF, by rw [List.append_nil]; exact M.tail.tail.tail.tail.tail⟩
 ·intro hsp1
  refine cnd 2 ?_ ?_
  ·intro hco2
   refine go 0 ?_
   refine W.regD (by kernel_rfl) #[0, 0, 3, 7] [(0, false), (1, true), (2, true), (3, true)] (by kernel_rfl) ?_
   intro K wD2 hK hwD2
   have M := M.drew hwD2
   refine go 1 ?_
   refine x_call rfl rfl rfl rfl rfl en37 (rbad_c) ?_
   rintro r_ wcall2 ⟨rfl, hncall2⟩
   have M := M.new hncall2
   refine pnd ?_
   refine x_st [_, _] _ rfl rfl rfl sz36 rfl rfl rfl rfl atM rfl rfl rfl ?_
   intro wst3 hwst3
   have M := by first | exact M.put 0 rfl hwst3 | exact M.put 1 rfl hwst3 | exact M.put 2 rfl hwst3 | exact M.put 3 rfl hwst3 | exact M.put 4 rfl hwst3 | exact M.put 5 rfl hwst3 | exact M.put 6 rfl hwst3 | exact M.put 7 rfl hwst3
   refine pnd ?_
   refine x_st [_, _, _, _, _] _ rfl rfl rfl sz59 rfl rfl rfl rfl atM rfl rfl rfl ?_
   intro wst4 hwst4
   have M := by first | exact M.put 0 rfl hwst4 | exact M.put 1 rfl hwst4 | exact M.put 2 rfl hwst4 | exact M.put 3 rfl hwst4 | exact M.put 4 rfl hwst4 | exact M.put 5 rfl hwst4 | exact M.put 6 rfl hwst4 | exact M.put 7 rfl hwst4
   refine pnd ?_
   refine go 1 ?_
   have hW : truncS l x.2.2.1 x.2.2.2 o = (badS 2, l) := by unfold truncS; rw [if_pos (.inr hco2)]
   rw [hW]
   exact ⟨_, _, [], _, rfl, by rw [List.append_nil]; exact RsK.bad, by rw [List.append_nil]; exact hF, by rw [List.append_nil]; exact M.tail.tail.tail.tail.tail⟩
  ·intro hco2
   have hn1 : ¬ (x.2.2.2 = false ∨ o.n < 0) := by
    rintro (h | h)
    ·rw [hsp1] at h; cases h
    ·omega
   refine cnd 2 ?_ ?_
   ·intro hco3
    refine go 0 ?_
    refine W.regD (by kernel_rfl) #[0, 0, 3, 7] [(0, false), (1, true), (2, true), (3, true)] (by kernel_rfl) ?_
    intro K wD3 hK hwD3
    have M := M.drew hwD3
    refine go 1 ?_
    refine x_call rfl rfl rfl rfl rfl en37 (rbad_c) ?_
    rintro r_ wcall3 ⟨rfl, hncall3⟩
    have M := M.new hncall3
    refine pnd ?_
    refine x_st [_, _] _ rfl rfl rfl sz36 rfl rfl rfl rfl atM rfl rfl rfl ?_
    intro wst5 hwst5
    have M := by first | exact M.put 0 rfl hwst5 | exact M.put 1 rfl hwst5 | exact M.put 2 rfl hwst5 | exact M.put 3 rfl hwst5 | exact M.put 4 rfl hwst5 | exact M.put 5 rfl hwst5 | exact M.put 6 rfl hwst5 | exact M.put 7 rfl hwst5
    refine pnd ?_
    refine x_st [_, _, _, _, _] _ rfl rfl rfl sz59 rfl rfl rfl rfl atM rfl rfl rfl ?_
    intro wst6 hwst6
    have M := by first | exact M.put 0 rfl hwst6 | exact M.put 1 rfl hwst6 | exact M.put 2 rfl hwst6 | exact M.put 3 rfl hwst6 | exact M.put 4 rfl hwst6 | exact M.put 5 rfl hwst6 | exact M.put 6 rfl hwst6 | exact M.put 7 rfl hwst6
    refine pnd ?_
    refine go 1 ?_
    have hW : truncS l x.2.2.1 x.2.2.2 o = (badS 3, l) := by unfold truncS; rw [if_neg hn1, if_pos (by omega)]
    rw [hW]
    exact ⟨_, _, [], _, rfl, by rw [List.append_nil]; exact RsK.bad, by rw [List.append_nil]; exact hF, by rw [List.append_nil]; exact M.tail.tail.tail.tail.tail⟩
   ·intro hco3
    have hW : truncS l x.2.2.1 x.2.2.2 o = sizeS l x.2.2.1 (sizedB d o.n.toNat) (badS 0) := by unfold truncS; rw [if_neg hn1, if_neg (by omega), hfo]
    obtain ⟨nn, hnn⟩ : ∃ nn : Nat, o.n = (nn : Int) := ⟨o.n.toNat, by omega⟩
    refine gs 0 0 ?_
    refine W.seqC (fun F' w' => ∃ bx pu' cu' L', F' = [(6, ptr bal1), (7, ptr bal2), (8, ptr bx), (9, .int .i64 (putS l x.2.2.1 (sizedB d o.n.toNat)).2)] ∧ FilesK w00 (L ++ L') (.slice pu' (putS l x.2.2.1 (sizedB d o.n.toNat)).1.length cu') (putS l x.2.2.1 (sizedB d o.n.toNat)).1 ∧ Sep w00 (((bx, .cells [.slice pu' (putS l x.2.2.1 (sizedB d o.n.toNat)).1.length cu', .slice ph nh ch].toArray 36 (0, 0)) :: (bal2, .cells [.int .i64 0, .int .i64 0, .int .i64 0, .slice none 0 0, .slice none 0 0].toArray 59 (0, 0)) :: (bal1, .cells [.slice none 0 0, .slice none 0 0].toArray 36 (0, 0)) :: (bbx3, .cells (opC o dv).toArray 66 (0, 0)) :: (bbx2, .cells (oR x).toArray 118 (0, 0)) :: (bbx1, .cells [.slice pu l.length cu, .slice ph nh ch].toArray 36 (0, 0)) :: X) ++ (L ++ L')) w') ?_ ?_
    ·refine go 0 ?_
     refine W.regT (by kernel_rfl) #[0, 0, 2, 0, 0, 16, 56, 0, 128, 504, 1023, 2047, 4095, 4095, 0, 24575, 65535] (.par [(0, false), (1, false), (2, false), (3, false), (4, false), (5, false), (7, false), (8, false)] 6 (.par [] 9 (.two [] 10 [(11, false), (12, false), (13, false), (14, true)] 14 [(10, true), (11, false), (12, false), (13, false)] (.leaf [(15, true), (16, false)])) 14 (.leaf [(9, true), (10, true), (11, false), (12, false), (13, false), (15, true), (16, false)])) 14 (.leaf [(6, true), (9, true), (10, true), (11, false), (12, false), (13, false), (15, true), (16, false)])) (by kernel_rfl) ?_
     intro K wD4 hK hwD4
     have M := M.drew hwD4
     refine ExT.par ?_
     refine go 5 ?_
     refine Ex.fork ?_
     refine ⟨?_, ?_⟩
     ·refine x_call rfl rfl rfl rfl rfl en79 (rdata_x (X := _ :: _ :: _ :: _ :: _ :: X) M hF (by omega) hT hp) ?_
      rintro r_ w4 ⟨pd, cd, rfl, hd5, hn4⟩
      have M := M.new hn4
      refine pnd ?_
      refine Ex.fork ?_
      refine ExT.par ?_
      refine Ex.fork ?_
      refine ⟨?_, ?_⟩
      ·refine x_call rfl rfl rfl rfl rfl en80 (by have h_ := rsized_c (n := nn) (hd5 _ _ M (fun y hy => by simp [hy])) (by omega) (by omega); rw [← hnn] at h_; exact h_) ?_
       rintro r_ w5 ⟨Lo, hoB, M6⟩
       have M := M.grow' M6
       rw [show nn = o.n.toNat by omega] at hoB
       obtain ⟨ps, cs, rfl⟩ := hoB.shape
       have M : Sep w00 ((_ :: _ :: _ :: _ :: _ :: X) ++ (L ++ Lo)) _ := St.lay M
       have hF2 := hF.mono (L' := L ++ Lo) (fun y hy => mL hy)
       refine pnd ?_
       refine Ex.fork ?_
       refine ExT.two ?_
       refine Ex.fork ?_
       refine Ex.join (fun F' T' w' => ∃ bx pu' cu' L' R1 R2 R3 R4 R5, T' = [(8, R5), (5, R4), (3, R3), (2, R2), (0, R1)] ∧ F' = [(6, ptr bal1), (7, ptr bal2), (8, ptr bx), (37, .agg #[.slice pu' (putS l x.2.2.1 (sizedB d o.n.toNat)).1.length cu', .slice ph nh ch]), (38, .int .i64 (putS l x.2.2.1 (sizedB d o.n.toNat)).2)] ∧ FilesK w00 (L ++ L') (.slice pu' (putS l x.2.2.1 (sizedB d o.n.toNat)).1.length cu') (putS l x.2.2.1 (sizedB d o.n.toNat)).1 ∧ Sep w00 (((bx, .cells [.slice none 0 0, .slice none 0 0].toArray 36 (0, 0)) :: (bal2, .cells [.int .i64 0, .int .i64 0, .int .i64 0, .slice none 0 0, .slice none 0 0].toArray 59 (0, 0)) :: (bal1, .cells [.slice none 0 0, .slice none 0 0].toArray 36 (0, 0)) :: (bbx3, .cells (opC o dv).toArray 66 (0, 0)) :: (bbx2, .cells (oR x).toArray 118 (0, 0)) :: (bbx1, .cells [.slice pu l.length cu, .slice ph nh ch].toArray 36 (0, 0)) :: X) ++ (L ++ L')) w') ?_ ?_ ?_
       ·refine x_call rfl rfl rfl rfl rfl en81 (fput_c (X := _ :: _ :: _ :: _ :: _ :: X) (L := L ++ Lo) M hF2 hl hT hus hp (SgK.own hoB (by decide) (fun y hy => mR hy)) (by rw [sizedB_len]; omega)) ?_
        rintro r_ w7 ⟨pu', cu', L7, rfl, hF7, M⟩
        refine pnd ?_
        refine go 0 ?_
        refine x_alloc [_, _] rfl rfl rfl ze36 rfl ?_
        intro bal3 wal3 hbal3 hwal3
        have M := M.acons hbal3 hwal3
        refine pnd ?_
        refine Ex.forkS [(6, _), (7, _), (8, _), (37, _), (38, _)] ⟨rfl, rfl, rfl, rfl, rfl, trivial⟩ ?_
        rw [List.append_assoc] at M hF7
        exact ⟨_, pu', cu', Lo ++ L7, _, _, _, _, _, rfl, rfl, hF7, M⟩
       ·refine x_alloc [_, _] rfl rfl rfl ze36 rfl ?_
        intro bal4 wal4 hbal4 hwal4
        have M := M.acons hbal4 hwal4
        refine pnd ?_
        refine x_call rfl rfl rfl rfl rfl en81 (fput_c (X := _ :: _ :: _ :: _ :: _ :: _ :: X) (L := L ++ Lo) M hF2 hl hT hus hp (SgK.own hoB (by decide) (fun y hy => mR hy)) (by rw [sizedB_len]; omega)) ?_
        rintro r_ w7 ⟨pu', cu', L7, rfl, hF7, M⟩
        refine pnd ?_
        refine go 0 ?_
        refine Ex.forkS [(6, _), (7, _), (8, _), (37, _), (38, _)] ⟨rfl, rfl, rfl, rfl, rfl, trivial⟩ ?_
        rw [List.append_assoc] at M hF7
        exact ⟨_, pu', cu', Lo ++ L7, _, _, _, _, _, rfl, rfl, hF7, M⟩
       rintro F1 T1 wf ⟨bx, pu', cu', L', R1, R2, R3, R4, R5, rfl, rfl, hF', M⟩
       refine ExT.leaf ?_
       refine x_st [_, _] _ rfl rfl rfl sz36 rfl rfl rfl rfl atM rfl rfl rfl ?_
       intro wst7 hwst7
       have M := by first | exact M.put 0 rfl hwst7 | exact M.put 1 rfl hwst7 | exact M.put 2 rfl hwst7 | exact M.put 3 rfl hwst7 | exact M.put 4 rfl hwst7 | exact M.put 5 rfl hwst7 | exact M.put 6 rfl hwst7 | exact M.put 7 rfl hwst7
       refine pnd ?_
       refine go 0 ?_
       refine At.sub [(6, _), (7, _), (8, _), (9, _)] ⟨rfl, rfl, rfl, rfl, trivial⟩ ?_
       refine At.cut_n ?_
       exact ⟨bx, pu', cu', L', rfl, hF', M⟩
      ·refine x_alloc [_, _] rfl rfl rfl ze36 rfl ?_
       intro bal5 wal5 hbal5 hwal5
       have M := M.acons hbal5 hwal5
       refine pnd ?_
       refine Ex.fork ?_
       refine ExT.leaf ?_
       refine x_call rfl rfl rfl rfl rfl en80 (by have h_ := rsized_c (n := nn) (hd5 _ _ M (fun y hy => by simp [hy])) (by omega) (by omega); rw [← hnn] at h_; exact h_) ?_
       rintro r_ w8 ⟨Lo, hoB, M6⟩
       have M := M.grow' M6
       rw [show nn = o.n.toNat by omega] at hoB
       obtain ⟨ps, cs, rfl⟩ := hoB.shape
       have M : Sep w00 ((_ :: _ :: _ :: _ :: _ :: _ :: X) ++ (L ++ Lo)) _ := St.lay M
       have hF2 := hF.mono (L' := L ++ Lo) (fun y hy => mL hy)
       refine pnd ?_
       refine x_call rfl rfl rfl rfl rfl en81 (fput_c (X := _ :: _ :: _ :: _ :: _ :: _ :: X) (L := L ++ Lo) M hF2 hl hT hus hp (SgK.own hoB (by decide) (fun y hy => mR hy)) (by rw [sizedB_len]; omega)) ?_
       rintro r_ w7 ⟨pu', cu', L7, rfl, hF7, M⟩
       refine pnd ?_
       refine go 0 ?_
       refine x_st [_, _] _ rfl rfl rfl sz36 rfl rfl rfl rfl atM rfl rfl rfl ?_
       intro wst8 hwst8
       have M := by first | exact M.put 0 rfl hwst8 | exact M.put 1 rfl hwst8 | exact M.put 2 rfl hwst8 | exact M.put 3 rfl hwst8 | exact M.put 4 rfl hwst8 | exact M.put 5 rfl hwst8 | exact M.put 6 rfl hwst8 | exact M.put 7 rfl hwst8
       refine pnd ?_
       refine go 0 ?_
       refine At.sub [(6, _), (7, _), (8, _), (9, _)] ⟨rfl, rfl, rfl, rfl, trivial⟩ ?_
       refine At.cut_n ?_
       rw [List.append_assoc] at M hF7
       exact ⟨_, pu', cu', Lo ++ L7, rfl, hF7, M⟩
     ·refine x_alloc [_, _] rfl rfl rfl ze36 rfl ?_
      intro bal6 wal6 hbal6 hwal6
      have M := M.acons hbal6 hwal6
      refine pnd ?_
      refine Ex.fork ?_
      refine ExT.leaf ?_
      refine x_call rfl rfl rfl rfl rfl en79 (rdata_x (X := _ :: _ :: _ :: _ :: _ :: _ :: X) M hF (by omega) hT hp) ?_
      rintro r_ w10 ⟨pd, cd, rfl, hd5, hn10⟩
      have M := M.new hn10
      refine pnd ?_
      refine x_call rfl rfl rfl rfl rfl en80 (by have h_ := rsized_c (n := nn) (hd5 _ _ M (fun y hy => by simp [hy])) (by omega) (by omega); rw [← hnn] at h_; exact h_) ?_
      rintro r_ w11 ⟨Lo, hoB, M6⟩
      have M := M.grow' M6
      rw [show nn = o.n.toNat by omega] at hoB
      obtain ⟨ps, cs, rfl⟩ := hoB.shape
      have M : Sep w00 ((_ :: _ :: _ :: _ :: _ :: _ :: X) ++ (L ++ Lo)) _ := St.lay M
      have hF2 := hF.mono (L' := L ++ Lo) (fun y hy => mL hy)
      refine pnd ?_
      refine x_call rfl rfl rfl rfl rfl en81 (fput_c (X := _ :: _ :: _ :: _ :: _ :: _ :: X) (L := L ++ Lo) M hF2 hl hT hus hp (SgK.own hoB (by decide) (fun y hy => mR hy)) (by rw [sizedB_len]; omega)) ?_
      rintro r_ w7 ⟨pu', cu', L7, rfl, hF7, M⟩
      refine pnd ?_
      refine go 0 ?_
      refine x_st [_, _] _ rfl rfl rfl sz36 rfl rfl rfl rfl atM rfl rfl rfl ?_
      intro wst9 hwst9
      have M := by first | exact M.put 0 rfl hwst9 | exact M.put 1 rfl hwst9 | exact M.put 2 rfl hwst9 | exact M.put 3 rfl hwst9 | exact M.put 4 rfl hwst9 | exact M.put 5 rfl hwst9 | exact M.put 6 rfl hwst9 | exact M.put 7 rfl hwst9
      refine pnd ?_
      refine go 0 ?_
      refine At.sub [(6, _), (7, _), (8, _), (9, _)] ⟨rfl, rfl, rfl, rfl, trivial⟩ ?_
      refine At.cut_n ?_
      rw [List.append_assoc] at M hF7
      exact ⟨_, pu', cu', Lo ++ L7, rfl, hF7, M⟩
    rintro F1 wc ⟨bx, pu', cu', L', rfl, hF', M⟩
    refine go 0 ?_
    refine W.regD (by kernel_rfl) #[0, 0, 2, 7, 15] [(0, false), (1, false), (2, true), (3, true), (4, true)] (by kernel_rfl) ?_
    intro K wD5 hK hwD5
    have M := M.drew hwD5
    refine go 1 ?_
    refine x_call rfl rfl rfl rfl rfl en37 (rbad_c) ?_
    rintro r_ wcall13 ⟨rfl, hncall13⟩
    have M := M.new hncall13
    refine pnd ?_
    refine x_st [_, _] _ rfl rfl rfl sz36 rfl rfl rfl rfl atM rfl rfl rfl ?_
    intro wst10 hwst10
    have M := by first | exact M.put 0 rfl hwst10 | exact M.put 1 rfl hwst10 | exact M.put 2 rfl hwst10 | exact M.put 3 rfl hwst10 | exact M.put 4 rfl hwst10 | exact M.put 5 rfl hwst10 | exact M.put 6 rfl hwst10 | exact M.put 7 rfl hwst10
    refine pnd ?_
    refine x_st [_, _, _, _, _] _ rfl rfl rfl sz59 rfl rfl rfl rfl atM rfl rfl rfl ?_
    intro wst11 hwst11
    have M := by first | exact M.put 0 rfl hwst11 | exact M.put 1 rfl hwst11 | exact M.put 2 rfl hwst11 | exact M.put 3 rfl hwst11 | exact M.put 4 rfl hwst11 | exact M.put 5 rfl hwst11 | exact M.put 6 rfl hwst11 | exact M.put 7 rfl hwst11
    refine pnd ?_
    refine go 1 ?_
    have hPS : putS l x.2.2.1 (sizedB d o.n.toNat) = if 262144 + d.length < usedL l + (sizedB d o.n.toNat).length then (l, 7) else (setD l x.2.2.1 (sizedB d o.n.toNat), 0) := by unfold putS; rw [hfo]
    unfold sizeS at hW
    rw [hfo] at hW
    by_cases hq7 : 262144 + d.length < usedL l + (sizedB d o.n.toNat).length
    ·rw [if_pos hq7] at hPS hW
     rw [hW]
     rw [hPS] at M hF' ⊢
     exact ⟨_, _, L', _, rfl, RsK.bad, hF', M.tail.tail.tail.tail.tail.tail⟩
    ·rw [if_neg hq7] at hPS hW
     rw [hW]
     rw [hPS] at M hF' ⊢
     exact ⟨_, _, L', _, rfl, RsK.bad, hF', M.tail.tail.tail.tail.tail.tail⟩

end Go.Proofs.Ytebfjdolgchgaaa

namespace Go.Proofs.Ytebfjdolgchgaaa
open Go Go.Fw Go.RowKit
set_option linter.unusedVariables false
set_option linter.unusedSimpArgs false

structure RI (l : List Raw) (hl : List Opn) : Prop where
 tr : TreeL l
 le : l.length ≤ 128
 us : usedL l ≤ 262144
 ho : ∀ x ∈ hl, ∃ d, (x.2.2.1, false, d) ∈ l
 nd : (hl.map fun x => (x.1, x.2.1)).Nodup
 kr : ∀ x ∈ hl, 0 ≤ x.1 ∧ x.1 < 8 ∧ 1 ≤ x.2.1 ∧ x.2.1 ≤ 16
section
variable {l l' : List Raw} {hl : List Opn} {p b d x y : List UInt8} {who n : Int} {w : Bool} {z : Opn} {j : Nat}
theorem isO_iff : isO who n z = true ↔ z.1 = who ∧ z.2.1 = n := by unfold isO; rw [decide_eq_true_eq]
theorem RI.files (h : RI l hl) (ht : TreeL l') (hlen : l'.length ≤ 128) (hu : usedL l' ≤ 262144) (hf : ∀ x ∈ hl, ∀ d, (x.2.2.1, false, d) ∈ l → ∃ d', (x.2.2.1, false, d') ∈ l') : RI l' hl :=
 ⟨ht, hlen, hu, fun x hx => let ⟨d, hd⟩ := h.ho x hx; hf x hx d hd, h.nd, h.kr⟩
theorem RI.size (h : RI l hl) (hp : (p, false, d) ∈ l) (hb : b.length ≤ 65536) (hu : ¬ 262144 + d.length < usedL l + b.length) : RI (setD l p b) hl := by
 have hn := h.tr.names
 refine h.files ?_ (by unfold setD; rw [List.length_map]; exact h.le) (by have := usedL_set (b := b) hn hp; omega) (fun x hx e he => ?_)
 ·have := h.tr.put p b
  rw [h.tr.putD hp hb] at this
  exact this
 ·by_cases hq : x.2.2.1 = p
  ·exact ⟨b, mem_setD.2 (.inr ⟨hq, rfl, _, hp, rfl, rfl⟩)⟩
  ·exact ⟨e, mem_setD.2 (.inl ⟨he, hq⟩)⟩
theorem sizeS_RI (h : RI l hl) (hp : (p, false, d) ∈ l) (hb : b.length ≤ 65536) (r : RsS) : RI (sizeS l p b r).2 hl := by
 unfold sizeS
 rw [file_of h.tr hp]
 split
 ·exact h
 ·rename_i hu; exact h.size hp hb hu
theorem writeS_RI (h : RI l hl) (hp : (p, false, d) ∈ l) {o : OpS} : RI (writeS l p w o).2 hl := by
 unfold writeS
 split
 ·exact h
 ·split
  ·exact h
  ·split
   ·exact h
   ·refine sizeS_RI h hp ?_ _
    have := (h.tr.row hp).2.2.2.1
    simp only at this
    rw [writeB_len, file_of h.tr hp]; omega
theorem truncS_RI (h : RI l hl) (hp : (p, false, d) ∈ l) {o : OpS} : RI (truncS l p w o).2 hl := by
 unfold truncS
 split
 ·exact h
 ·split
  ·exact h
  ·exact sizeS_RI h hp (by rw [sizedB_len]; omega) _
theorem hfL_get (hn : (hl.map fun x => (x.1, x.2.1)).Nodup) (hz : z ∈ hl) (e1 : z.1 = who) (e2 : z.2.1 = n) : hfL hl who n = some (z.2.2.1, z.2.2.2) := by
 rcases atO_cases hl who n with ⟨j, x, hx, ho, _, _, h2⟩ | ⟨h1, _, _⟩
 ·rw [h2]
  obtain ⟨g1, g2⟩ := isO_iff.1 ho
  obtain ⟨k, hk⟩ := List.getElem?_of_mem hz
  have e : j = k := by
   have a1 : (hl.map fun x => (x.1, x.2.1))[j]? = some (who, n) := by rw [List.getElem?_map, hx]; simp [g1, g2]
   have a2 : (hl.map fun x => (x.1, x.2.1))[k]? = some (who, n) := by rw [List.getElem?_map, hk]; simp [e1, e2]
   obtain ⟨l1, b1⟩ := List.getElem?_eq_some_iff.1 a1
   obtain ⟨l2, b2⟩ := List.getElem?_eq_some_iff.1 a2
   exact (List.getElem_inj hn).1 (b1.trans b2.symm)
  subst e
  rw [hx] at hk
  cases hk; rfl
 ·have := h1 z hz
  rw [isO_iff.2 ⟨e1, e2⟩] at this; cases this
theorem hfL_none (h : ∀ y ∈ hl, isO who n y = false) : hfL hl who n = none := by
 unfold hfL
 rw [List.find?_eq_none.2 (fun y hy => by rw [h y hy]; simp)]; rfl
theorem hfL_open (h : hfL hl who n = none) : hfL (hl ++ [(who, n, p, w)]) = setH (hfL hl) who n (some (p, w)) := by
 have hno : ∀ y ∈ hl, isO who n y = false := by
  rcases atO_cases hl who n with ⟨j, x, _, _, _, _, h2⟩ | ⟨h1, _, _⟩
  ·rw [h2] at h; cases h
  ·exact h1
 funext a m
 unfold setH
 split
 ·rename_i e
  unfold hfL
  rw [e.1, e.2, List.find?_append, List.find?_eq_none.2 (fun y hy => by rw [hno y hy]; simp)]
  simp [isO]
 ·rename_i e
  unfold hfL
  rw [List.find?_append]
  have : ([(who, n, p, w)] : List Opn).find? (isO a m) = none := by
   rw [List.find?_eq_none]
   intro y hy
   rw [List.mem_singleton.1 hy]
   unfold isO
   rw [decide_eq_true_eq]
   exact fun e2 => e ⟨e2.1.symm, e2.2.symm⟩
  rw [this, Option.or_none]
theorem nd_open (hn : (hl.map fun x => (x.1, x.2.1)).Nodup) (h : hfL hl who n = none) : ((hl ++ [(who, n, p, w)]).map fun x => (x.1, x.2.1)).Nodup := by
 rw [List.map_append, List.nodup_append]
 refine ⟨hn, by simp, ?_⟩
 intro a ha c hc e
 subst e
 simp only [List.map_cons, List.map_nil, List.mem_singleton] at hc
 obtain ⟨z, hz, he⟩ := List.mem_map.1 ha
 rw [hc] at he
 have h1 : z.1 = who := congrArg Prod.fst he
 have h2 : z.2.1 = n := congrArg Prod.snd he
 rw [hfL_get hn hz h1 h2] at h; cases h
theorem hfL_close (hn : (hl.map fun x => (x.1, x.2.1)).Nodup) (hj : hl[j]? = some z) (h : isO who n z = true) : hfL (hl.eraseIdx j) = setH (hfL hl) who n none := by
 obtain ⟨g1, g2⟩ := isO_iff.1 h
 have hnd2 : ((hl.eraseIdx j).map fun x => (x.1, x.2.1)).Nodup := (hn.sublist ((List.eraseIdx_sublist hl j).map _))
 have hmem : ∀ y, y ∈ hl.eraseIdx j ↔ y ∈ hl ∧ ¬ (y.1 = who ∧ y.2.1 = n) := by
  intro y
  obtain ⟨hlt, hzj⟩ := List.getElem?_eq_some_iff.1 hj
  have e : hl = hl.take j ++ z :: hl.drop (j + 1) := split_at hj
  have e2 : hl.eraseIdx j = hl.take j ++ hl.drop (j + 1) := List.eraseIdx_eq_take_drop_succ hl j
  rw [e2]
  have hn2 := hn
  rw [e, List.map_append, List.map_cons, List.nodup_append] at hn2
  obtain ⟨_, h2, h3⟩ := hn2
  rw [List.nodup_cons] at h2
  constructor
  ·intro hy
   refine ⟨?_, fun ek => ?_⟩
   ·rw [e]
    rcases List.mem_append.1 hy with hy | hy
    ·exact List.mem_append_left _ hy
    ·exact List.mem_append_right _ (List.mem_cons_of_mem _ hy)
   ·have ek2 : (y.1, y.2.1) = (z.1, z.2.1) := by rw [ek.1, ek.2, g1, g2]
    rcases List.mem_append.1 hy with hy | hy
    ·exact h3 _ (List.mem_map.2 ⟨y, hy, rfl⟩) _ List.mem_cons_self ek2
    ·exact h2.1 (List.mem_map.2 ⟨y, hy, ek2⟩)
  ·rintro ⟨hy, hne⟩
   rw [e] at hy
   rcases List.mem_append.1 hy with hy | hy
   ·exact List.mem_append_left _ hy
   ·rcases List.mem_cons.1 hy with rfl | hy
    ·exact absurd ⟨g1, g2⟩ hne
    ·exact List.mem_append_right _ hy
 funext a m
 unfold setH
 split
 ·rename_i e
  refine hfL_none fun y hy => ?_
  cases hq : isO a m y with
  | false => rfl
  | true =>
   obtain ⟨q1, q2⟩ := isO_iff.1 hq
   exact absurd ⟨q1.trans e.1, q2.trans e.2⟩ ((hmem y).1 hy).2
 ·rename_i e
  rcases atO_cases hl a m with ⟨k, x, hx, ho, _, _, h2⟩ | ⟨h1, _, h2⟩
  ·obtain ⟨q1, q2⟩ := isO_iff.1 ho
   have hm : x ∈ hl.eraseIdx j := (hmem x).2 ⟨List.mem_of_getElem? hx, fun e2 => e ⟨q1.symm.trans e2.1, q2.symm.trans e2.2⟩⟩
   rw [h2, hfL_get hnd2 hm q1 q2]
  ·rw [h2, hfL_none (fun y hy => h1 y ((hmem y).1 hy).1)]
def movO (x y : List UInt8) (z : Opn) : Opn := (z.1, z.2.1, movP x y z.2.2.1, z.2.2.2)
theorem hfL_mov : hfL (hl.map (movO x y)) = movH (hfL hl) x y := by
 funext a m
 unfold movH hfL
 rw [List.find?_map, Option.map_map, Option.map_map]
 rfl
theorem nd_mov (hn : (hl.map fun x => (x.1, x.2.1)).Nodup) : ((hl.map (movO x y)).map fun x => (x.1, x.2.1)).Nodup := by rw [List.map_map]; exact hn
theorem openB_any (hp : ∀ x ∈ hl, 0 ≤ x.1 ∧ x.1 < 8 ∧ 1 ≤ x.2.1 ∧ x.2.1 ≤ 16) (hn : (hl.map fun x => (x.1, x.2.1)).Nodup) : openB (hfL hl) p = hl.any fun x => decide (x.2.2.1 = p) := by
 rw [Bool.eq_iff_iff]
 unfold openB
 simp only [List.any_eq_true, List.mem_range, decide_eq_true_eq]
 constructor
 ·rintro ⟨a, _, i, _, h⟩
  rcases atO_cases hl (a : Int) ((i : Int) + 1) with ⟨k, x, hx, ho, _, _, h2⟩ | ⟨_, _, h2⟩
  ·rw [h2] at h
   exact ⟨x, List.mem_of_getElem? hx, by simpa using h⟩
  ·rw [h2] at h; cases h
 ·rintro ⟨x, hx, he⟩
  obtain ⟨g1, g2, g3, g4⟩ := hp x hx
  refine ⟨x.1.toNat, by omega, (x.2.1 - 1).toNat, by omega, ?_⟩
  rw [hfL_get hn hx (by omega) (by omega)]
  exact decide_eq_true he
end
def RfP (w00 : World) (L X : List (Nat × Obj)) (hl : List Opn) (st : St3) (r : Value) (w' : World) : Prop := ∃ pu cu ph ch hl' L' rv, r = .tuple #[.agg #[.slice pu st.2.1.length cu, .slice ph hl'.length ch], rv] ∧ RsK w00 (L ++ L') rv st.1 ∧
 FilesK w00 (L ++ L') (.slice pu st.2.1.length cu) st.2.1 ∧ OpnK w00 (L ++ L') (.slice ph hl'.length ch) hl' ∧ RI st.2.1 hl' ∧ hfL hl' = st.2.2 ∧ hl'.length ≤ hl.length + 1 ∧ Sep w00 (X ++ (L ++ L')) w'
section
variable {w00 w' : World} {L L' X : List (Nat × Obj)} {l : List Raw} {hl : List Opn} {pu ph : Option Addr} {cu ch : Nat} {st : St3} {e : Int} {rs : RsS} {rv : Value}
theorem RfP.same (hs : st = (rs, l, hfL hl)) (hr : RsK w00 (L ++ L') rv rs) (hF : FilesK w00 L (.slice pu l.length cu) l) (hO : OpnK w00 L (.slice ph hl.length ch) hl) (hI : RI l hl) (M : Sep w00 (X ++ (L ++ L')) w') : RfP w00 L X hl st (.tuple #[.agg #[.slice pu l.length cu, .slice ph hl.length ch], rv]) w' := by
 subst hs
 exact ⟨pu, cu, ph, ch, hl, L', rv, rfl, hr, hF.mono (fun y hy => mL hy), hO.mono (fun y hy => mL hy), hI, rfl, by omega, M⟩
theorem RfP.bad (hs : st = (badS e, l, hfL hl)) (hF : FilesK w00 L (.slice pu l.length cu) l) (hO : OpnK w00 L (.slice ph hl.length ch) hl) (hI : RI l hl) (M : Sep w00 (X ++ L) w') : RfP w00 L X hl st (.tuple #[.agg #[.slice pu l.length cu, .slice ph hl.length ch], rsV (badS e) (.slice none 0 0) (.slice none 0 0)]) w' :=
 RfP.same (L' := []) hs RsK.bad hF hO hI (by rw [List.append_nil]; exact M)
theorem RfP.rows {l' : List Raw} (hs : st = (rs, l', hfL hl)) (hr : RsK w00 (L ++ L') rv rs) (hF : FilesK w00 (L ++ L') (.slice pu l'.length cu) l') (hO : OpnK w00 L (.slice ph hl.length ch) hl) (hI : RI l' hl) (M : Sep w00 (X ++ (L ++ L')) w') : RfP w00 L X hl st (.tuple #[.agg #[.slice pu l'.length cu, .slice ph hl.length ch], rv]) w' := by
 subst hs
 exact ⟨pu, cu, ph, ch, hl, L', rv, rfl, hr, hF, hO.mono (fun y hy => mL hy), hI, rfl, by omega, M⟩
end
theorem oCs_take {hl : List Opn} {j : Nat} (hj : j ≤ hl.length) : (oCs hl).take (j * 4) = oCs (hl.take j) := by
 conv => lhs; rw [← List.take_append_drop j hl, oCs_app]
 rw [List.take_left' (by rw [oCs_len, List.length_take]; congr 1; omega)]
theorem oCs_drop {hl : List Opn} {j : Nat} (hj : j ≤ hl.length) : (oCs hl).drop (j * 4) = oCs (hl.drop j) := by
 conv => lhs; rw [← List.take_append_drop j hl, oCs_app]
 rw [List.drop_left' (by rw [oCs_len, List.length_take]; congr 1; omega)]
end Go.Proofs.Ytebfjdolgchgaaa

namespace Go.Proofs.Ytebfjdolgchgaaa
open Go Go.Fw Go.RowKit Go.Proofs
set_option linter.unusedVariables false
set_option linter.unusedSimpArgs false
set_option maxRecDepth 100000
set_option maxHeartbeats 4000000

-- (valise/valiseref19.FS).handle
theorem fhandle_c {w00 w0 : World} {X L : List (Nat × Obj)} {u hv : Value} {l : List Raw} {hl : List Opn} {who : Int} {o : OpS} {dv : Value} (M : Sep w00 (X ++ L) w0) (hF : FilesK w00 L u l) (hO : OpnK w00 L hv hl) (hI : RI l hl) (hlen : hl.length ≤ 1000) (hdv : BytesK w00 L dv o.d) (hod : o.d.length ≤ 131072) : Ret Try.prog 39 #[.agg #[u, hv], .int .i64 who, .agg (opC o dv).toArray] w0 (RfP w00 L X hl (handleS l (hfL hl) who o)) := by
 obtain ⟨pu, cu, rfl⟩ := (hF.at_ M (fun y hy => mR hy)).shape
 obtain ⟨ph, chh, rfl⟩ := Sg.shape (hO _ _ M (fun y hy => mR hy))
 have hT := hI.tr
 have hll := hI.le
 have hus := hI.us
 obtain ⟨pdv, cdv, rfl⟩ := (hdv _ _ M (fun y hy => mR hy)).shape
 have hat := atO_cases hl who o.h
 refine Ret.of_W Try.func39 rfl Try.ntmps39 rfl ?_
 refine go 1 ?_
 intro bbx1 _ M
 refine go 1 ?_
 intro _ _ M
 refine go 1 ?_
 intro _ _ M
 refine go 1 ?_
 intro _ _ M
 refine go 2 ?_
 refine x_call rfl rfl rfl rfl rfl en50 (rat_c (hO _ _ M (fun y hy => by simp [hy])) (by omega)) ?_
 rintro r_ w1 ⟨rfl, hn1⟩
 have M := M.new hn1
 refine ⟨trivial, ?_⟩
 refine cnd 1 ?_ ?_
 ·intro hco1
  rcases hat with ⟨_, _, _, _, h1, _⟩ | ⟨_, _, hno⟩
  ·omega
  have hS : handleS l (hfL hl) who o = (badS 19, l, hfL hl) := by unfold handleS; rw [hno]
  refine go 0 ?_
  refine W.regD (by kernel_rfl) #[0, 0, 3, 7] [(0, false), (1, true), (2, true), (3, true)] (by kernel_rfl) ?_
  intro K wD1 hK hwD1
  have M := M.drew hwD1
  refine go 1 ?_
  refine x_call rfl rfl rfl rfl rfl en37 (rbad_c) ?_
  rintro r_ wcall2 ⟨rfl, hncall2⟩
  have M := M.new hncall2
  refine pnd ?_
  refine x_st [_, _] _ rfl rfl rfl sz36 rfl rfl rfl rfl atM rfl rfl rfl ?_
  intro wst1 hwst1
  have M := by first | exact M.put 0 rfl hwst1 | exact M.put 1 rfl hwst1 | exact M.put 2 rfl hwst1 | exact M.put 3 rfl hwst1 | exact M.put 4 rfl hwst1 | exact M.put 5 rfl hwst1 | exact M.put 6 rfl hwst1 | exact M.put 7 rfl hwst1
  refine pnd ?_
  refine x_st [_, _, _, _, _] _ rfl rfl rfl sz59 rfl rfl rfl rfl atM rfl rfl rfl ?_
  intro wst2 hwst2
  have M := by first | exact M.put 0 rfl hwst2 | exact M.put 1 rfl hwst2 | exact M.put 2 rfl hwst2 | exact M.put 3 rfl hwst2 | exact M.put 4 rfl hwst2 | exact M.put 5 rfl hwst2 | exact M.put 6 rfl hwst2 | exact M.put 7 rfl hwst2
  refine pnd ?_
  refine go 1 ?_
  exact RfP.bad hS hF hO hI M.tail.tail.tail.tail
 ·intro hco1
  rcases hat with ⟨j, x, hx, hxo, hatj, _, hsome⟩ | ⟨_, h1, _⟩
  rotate_left
  ·omega
  rw [hatj]
  have hj := (List.getElem?_eq_some_iff.1 hx).1
  have hOA := hO _ _ M (fun y hy => by simp [hy])
  obtain ⟨bb, off, rfl, _⟩ := OpnAt.blk hOA (j := j) (by omega)
  have hrow := OpnAt.row hOA hx
  obtain ⟨d, hp⟩ := hI.ho x (List.mem_of_getElem? hx)
  refine go 1 ?_
  refine x_ia j rfl rfl rfl Try.underlying34 sz118 rfl rfl rfl (by omega) ?_
  refine x_ldA [_, _, _, _] rfl rfl rfl Try.underlying118 rfl sz118 rfl rfl hrow ?_
  refine go 1 ?_
  intro _ _ M
  refine go 1 ?_
  intro _ M
  refine cnd 2 ?_ ?_
  ·intro hco2
   have hS : handleS l (hfL hl) who o = (readS l x.2.2.1 o, l, hfL hl) := by unfold handleS; rw [hsome]; simp only; rw [if_pos hco2]
   refine go 0 ?_
   refine W.regD (by kernel_rfl) #[0, 0, 0, 0, 14, 31, 63] [(0, false), (1, false), (2, false), (3, false), (4, true), (5, true), (6, true)] (by kernel_rfl) ?_
   intro K wD2 hK hwD2
   have M := M.drew hwD2
   refine go 4 ?_
   refine x_call rfl rfl rfl rfl rfl en57 (fread_c (X := _ :: _ :: _ :: _ :: _ :: X) M hF hll hT hus hp rfl) ?_
   rintro r_ w3 ⟨L3, hr3, M⟩
   obtain ⟨q1, k1, q2, k2, rfl, hr4, hr5⟩ := hr3
   have hr3 : RsK w00 (L ++ L3) _ (readS l x.2.2.1 o) := ⟨q1, k1, q2, k2, rfl, hr4, hr5⟩
   refine pnd ?_
   refine x_st [_, _] _ rfl rfl rfl sz36 rfl rfl rfl rfl atM rfl rfl rfl ?_
   intro wst4 hwst4
   have M := by first | exact M.put 0 rfl hwst4 | exact M.put 1 rfl hwst4 | exact M.put 2 rfl hwst4 | exact M.put 3 rfl hwst4 | exact M.put 4 rfl hwst4 | exact M.put 5 rfl hwst4 | exact M.put 6 rfl hwst4 | exact M.put 7 rfl hwst4
   refine pnd ?_
   refine x_st [_, _, _, _, _] _ rfl rfl rfl sz59 rfl rfl rfl rfl atM rfl rfl rfl ?_
   intro wst5 hwst5
   have M := by first | exact M.put 0 rfl hwst5 | exact M.put 1 rfl hwst5 | exact M.put 2 rfl hwst5 | exact M.put 3 rfl hwst5 | exact M.put 4 rfl hwst5 | exact M.put 5 rfl hwst5 | exact M.put 6 rfl hwst5 | exact M.put 7 rfl hwst5
   refine pnd ?_
   refine go 1 ?_
   exact RfP.same hS hr3 hF hO hI M.tail.tail.tail.tail.tail
  ·intro hco2
   refine cnd 1 ?_ ?_
   ·intro hco3
    have hS : handleS l (hfL hl) who o = ((writeS l x.2.2.1 x.2.2.2 o).1, (writeS l x.2.2.1 x.2.2.2 o).2, hfL hl) := by unfold handleS; rw [hsome]; simp only; rw [if_neg hco2, if_pos hco3]
    refine go 3 ?_
    refine x_call rfl rfl rfl rfl rfl en58 (fwrite_c (X := _ :: _ :: _ :: _ :: _ :: X) M hF hll hT hus hp hdv hod) ?_
    rintro r_ w4 ⟨pu', cu', L4, rv, rfl, hr3, hF4, M⟩
    obtain ⟨q1, k1, q2, k2, rfl, hr4, hr5⟩ := hr3
    have hr3 : RsK w00 (L ++ L4) _ (writeS l x.2.2.1 x.2.2.2 o).1 := ⟨q1, k1, q2, k2, rfl, hr4, hr5⟩
    refine ⟨trivial, ?_⟩
    refine go 1 ?_
    intro _ M
    refine go 1 ?_
    intro _ M
    refine go 1 ?_
    exact RfP.rows hS hr3 hF4 hO (writeS_RI hI hp) M.tail.tail.tail.tail.tail
   ·intro hco3
    refine cnd 1 ?_ ?_
    ·intro hco4
     have hS : handleS l (hfL hl) who o = ((truncS l x.2.2.1 x.2.2.2 o).1, (truncS l x.2.2.1 x.2.2.2 o).2, hfL hl) := by unfold handleS; rw [hsome]; simp only; rw [if_neg hco2, if_neg hco3, if_pos hco4]
     refine go 3 ?_
     refine x_call rfl rfl rfl rfl rfl en59 (ftrunc_c (X := _ :: _ :: _ :: _ :: _ :: X) M hF hll hT hus hp rfl) ?_
     rintro r_ w5 ⟨pu', cu', L5, rv, rfl, hr3, hF4, M⟩
     obtain ⟨q1, k1, q2, k2, rfl, hr4, hr5⟩ := hr3
     have hr3 : RsK w00 (L ++ L5) _ (truncS l x.2.2.1 x.2.2.2 o).1 := ⟨q1, k1, q2, k2, rfl, hr4, hr5⟩
     refine ⟨trivial, ?_⟩
     refine go 1 ?_
     intro _ M
     refine go 1 ?_
     intro _ M
     refine go 1 ?_
     exact RfP.rows hS hr3 hF4 hO (truncS_RI hI hp) M.tail.tail.tail.tail.tail
    ·intro hco4
     have hS : handleS l (hfL hl) who o = (badS 0, l, setH (hfL hl) who o.h none) := by unfold handleS; rw [hsome]; simp only; rw [if_neg hco2, if_neg hco3, if_neg hco4]
     refine go 0 ?_
     refine W.regD (by kernel_rfl) #[0, 1, 0, 0, 8, 0, 56, 124, 0, 256, 0, 1024, 3840, 8188, 16383, 0, 32767, 131071] [(0, false), (1, false), (3, false), (4, false), (5, false), (6, false), (8, false), (9, false), (10, false), (11, false), (12, false), (15, false), (2, true), (7, true), (13, true), (14, false), (16, true), (17, true)] (by kernel_rfl) ?_
     intro K wD3 hK hwD3
     have M := M.drew hwD3
     refine go 2 ?_
     refine x_slh j rfl rfl rfl Try.underlying34 sz118 rfl rfl rfl (by have := Sg.capLe hOA; omega) ?_
     refine go 1 ?_
     refine x_add ((j + 1 : Nat) : Int) rfl rfl rfl rfl rfl (by rw [wadd (by omega) (by omega)]; omega) ?_
     refine x_sll (j + 1) rfl rfl rfl Try.underlying34 sz118 rfl rfl rfl (by omega) ?_
     refine go 1 ?_
     refine x_bs0 rfl rfl rfl Try.underlying34 sz118 ?_
     intro bb0 wb hbb hwb
     have M := M.acons hbb hwb
     refine ⟨⟨.inr (cell_of (M.get (b := bbx1) (o := (bbx1, .cells [.slice pu l.length cu, .slice (some ⟨bb, off, none⟩) hl.length chh].toArray 36 (0, 0)).2) (by simp)) rfl), .inr (cell_of (M.get (b := bbx1) (o := (bbx1, .cells [.slice pu l.length cu, .slice (some ⟨bb, off, none⟩) hl.length chh].toArray 36 (0, 0)).2) (by simp)) rfl), .inr ⟨_, _, _, (M.get (b := bbx1) (o := (bbx1, .cells [.slice pu l.length cu, .slice (some ⟨bb, off, none⟩) hl.length chh].toArray 36 (0, 0)).2) (by simp)), rfl⟩, trivial⟩, ?_⟩
     have hOA := hO _ _ M (fun y hy => by simp [hy])
     have hs1 := Sg.take hOA (j := j) (by omega)
     rw [oCs_take (by omega)] at hs1
     refine x_apL (L := [_]) (cs := []) (nn := 0) rfl rfl rfl rfl Try.underlying34 sz118 ze118 rfl by118 rfl rfl (.inr ⟨bb0, 0, [], _, rfl, rfl, rfl, rfl⟩) M (by simp) (hs1.src Try.underlying34 (oCs_one _)) (by omega) (by decide) (by omega) ?_
     intro Lo v6 w6 how M
     rw [Nat.zero_add, List.nil_append] at how
     refine ⟨⟨.inr (cell_of (M.get (b := bbx1) (o := (bbx1, .cells [.slice pu l.length cu, .slice (some ⟨bb, off, none⟩) hl.length chh].toArray 36 (0, 0)).2) (by simp)) rfl), .inl (by kernel_rfl), .inr ⟨_, _, _, (M.get (b := bbx1) (o := (bbx1, .cells [.slice pu l.length cu, .slice (some ⟨bb, off, none⟩) hl.length chh].toArray 36 (0, 0)).2) (by simp)), rfl⟩, trivial⟩, ?_⟩
     have hOA := hO _ _ M (fun y hy => by simp [hy])
     have hs2 := Sg.drop hOA (j := j + 1) (by omega)
     rw [oCs_drop (by omega)] at hs2
     refine x_apL (L := Lo) (cs := oCs (hl.take j)) rfl rfl rfl rfl Try.underlying34 sz118 ze118 rfl by118 rfl rfl how M (oCs_one _) (hs2.src Try.underlying34 (oCs_one _)) (by omega) (by decide) (by omega) ?_
     intro Lo v7 w7 how M
     rw [← oCs_app, show hl.take j ++ hl.drop (j + 1) = hl.eraseIdx j from (List.eraseIdx_eq_take_drop_succ hl j).symm, show j + (hl.length - (j + 1)) = (hl.eraseIdx j).length by rw [List.length_eraseIdx, if_pos hj]; omega] at how
     obtain ⟨p7, c7, rfl⟩ := how.shape
     have M : Sep w00 ((_ :: _ :: _ :: _ :: _ :: X) ++ (L ++ Lo)) w7 := St.lay M
     refine ⟨⟨.inl (by kernel_rfl), .inl (by kernel_rfl), .inr ⟨_, _, _, (M.get (b := bbx1) (o := (bbx1, .cells [.slice pu l.length cu, .slice (some ⟨bb, off, none⟩) hl.length chh].toArray 36 (0, 0)).2) (by simp)), rfl⟩, trivial⟩, ?_⟩
     refine go 1 ?_
     refine x_st [_, _] _ rfl rfl rfl sz36 rfl rfl rfl rfl atM rfl rfl rfl ?_
     intro wst10 hwst10
     have M := by first | exact M.put 0 rfl hwst10 | exact M.put 1 rfl hwst10 | exact M.put 2 rfl hwst10 | exact M.put 3 rfl hwst10 | exact M.put 4 rfl hwst10 | exact M.put 5 rfl hwst10 | exact M.put 6 rfl hwst10 | exact M.put 7 rfl hwst10
     refine pnd ?_
     refine x_st [_, _, _, _, _] _ rfl rfl rfl sz59 rfl rfl rfl rfl atM rfl rfl rfl ?_
     intro wst11 hwst11
     have M := by first | exact M.put 0 rfl hwst11 | exact M.put 1 rfl hwst11 | exact M.put 2 rfl hwst11 | exact M.put 3 rfl hwst11 | exact M.put 4 rfl hwst11 | exact M.put 5 rfl hwst11 | exact M.put 6 rfl hwst11 | exact M.put 7 rfl hwst11
     refine pnd ?_
     refine go 1 ?_
     rw [hS]
     exact ⟨_, _, _, _, hl.eraseIdx j, Lo, _, rfl, RsK.bad, hF.mono (fun y hy => mL hy), SgK.own how (by decide) (fun y hy => mR hy), ⟨hI.tr, hI.le, hI.us, fun y hy => hI.ho y (List.mem_of_mem_eraseIdx hy), hI.nd.sublist ((List.eraseIdx_sublist hl j).map _), fun y hy => hI.kr y (List.mem_of_mem_eraseIdx hy)⟩, hfL_close hI.nd hx hxo, by rw [List.length_eraseIdx]; split <;> omega, M.tail.tail.tail.tail.tail⟩

end Go.Proofs.Ytebfjdolgchgaaa

namespace Go.Proofs.Ytebfjdolgchgaaa
open Go Go.Fw Go.RowKit
set_option linter.unusedVariables false
set_option linter.unusedSimpArgs false

section
variable {l : List Raw} {hl : List Opn} {p x y b d : List UInt8} {who n : Int} {w : Bool}
theorem RI.remove (h : RI l hl) (h0 : (removeL l p).2 = 0) (hno : ∀ z ∈ hl, z.2.2.1 ≠ p) : RI (removeL l p).1 hl := by
 obtain ⟨h1, h2, h3⟩ := remove_row h0
 obtain ⟨r, hr, hrp⟩ := findL_mem h2 h1
 obtain ⟨j, hj, hat⟩ := row_of hr h.tr.names
 have hn := h.tr.names
 have e : (removeL l p).1 = l.eraseIdx j := by rw [h3, ← hrp, hat, Int.toNat_natCast]
 have hmem := fun y => mem_erase (y := y) hn hj
 refine h.files (h.tr.remove p) ?_ ?_ (fun z hz e1 he => ?_)
 ·rw [e, List.length_eraseIdx]; have := h.le; split <;> omega
 ·rw [e]
  have hp := usedL_perm (erase_perm hj)
  rw [usedL_cons] at hp
  have := h.us
  omega
 ·exact ⟨e1, by rw [e]; exact (hmem _).2 ⟨he, by rw [hrp]; exact hno z hz⟩⟩
theorem RI.mkdir (h : RI l hl) (p : List UInt8) : RI (mkdirL l p).1 hl := by
 have ht := h.tr.mkdir p
 have hl := h.le
 have hu := h.us
 unfold mkdirL at ht ⊢
 split
 ·rename_i h1
  rw [if_pos h1] at ht
  split
  ·exact h
  ·rename_i h2
   rw [if_neg h2] at ht
   split
   ·exact h
   ·rename_i h3
    rw [if_neg h3] at ht
    exact h.files ht (by rw [withR_len]; omega) (by rw [usedL_with]; simpa using hu) (fun z hz e he => ⟨e, withR_mem.2 (.inr he)⟩)
 ·exact h
theorem rename_self (l : List Raw) (x : List UInt8) : (renameL l x x).1 = l := by
 unfold renameL
 split
 ·split
  ·rfl
  ·split
   ·rw [if_pos rfl]
   ·rfl
 ·rfl
theorem used_fold (x y : List UInt8) : ∀ l A : List Raw, usedL (l.foldl (fun a f => withR a (mvN x y f)) A) = usedL A + usedL l
 | [], A => by simp [usedL]
 | f :: l, A => by
  rw [List.foldl_cons, used_fold x y l, usedL_with, mvN_eq, usedL_cons]
  simp only
  omega
theorem RI.rename (h : RI l hl) (h0 : (renameL l x y).2 = 0) : RI (renameL l x y).1 (hl.map (movO x y)) := by
 have ht := h.tr.rename x y
 have hkr : ∀ z ∈ hl.map (movO x y), 0 ≤ z.1 ∧ z.1 < 8 ∧ 1 ≤ z.2.1 ∧ z.2.1 ≤ 16 := fun z hz => by
  obtain ⟨z0, hz0, rfl⟩ := List.mem_map.1 hz
  exact h.kr z0 hz0
 by_cases hxy : x = y
 ·subst hxy
  rw [rename_self] at ht ⊢
  refine ⟨ht, h.le, h.us, fun z hz => ?_, nd_mov h.nd, hkr⟩
  obtain ⟨z0, hz0, rfl⟩ := List.mem_map.1 hz
  show ∃ d, (movP x x z0.2.2.1, false, d) ∈ l
  rw [movP_self]
  exact h.ho z0 hz0
 ·obtain ⟨_, e⟩ := rename_mov h0 hxy
  rw [e] at ht ⊢
  refine ⟨ht, ?_, ?_, fun z hz => ?_, nd_mov h.nd, hkr⟩
  ·unfold movL; rw [foldW_len]; simpa using h.le
  ·have := used_fold x y l []
   unfold movL
   rw [this]
   simpa [usedL] using h.us
  ·obtain ⟨z0, hz0, rfl⟩ := List.mem_map.1 hz
   obtain ⟨d, hd⟩ := h.ho z0 hz0
   refine ⟨d, ?_⟩
   unfold movL
   rw [foldW_mem]
   exact .inr ⟨_, hd, by rw [mvN_eq]; rfl⟩
theorem RI.hand (h : RI l hl) (hf : hfL hl who n = none) (hp : (p, false, d) ∈ l) (hk : 0 ≤ who ∧ who < 8 ∧ 1 ≤ n ∧ n ≤ 16) : RI l (hl ++ [(who, n, p, w)]) := by
 refine ⟨h.tr, h.le, h.us, fun z hz => ?_, nd_open h.nd hf, fun z hz => ?_⟩
 ·rcases List.mem_append.1 hz with hz | hz
  ·exact h.ho z hz
  ·rw [List.mem_singleton.1 hz]; exact ⟨d, hp⟩
 ·rcases List.mem_append.1 hz with hz | hz
  ·exact h.kr z hz
  ·rw [List.mem_singleton.1 hz]; exact hk
theorem RI.put (h : RI l hl) (h0 : (putL l p []).2 = 0) (hn : ∀ y ∈ l, y.1 ≠ p) : RI (putL l p []).1 hl ∧ (p, false, []) ∈ (putL l p []).1 := by
 have ht := h.tr.put p []
 have e := put_new hn h0
 have h128 : l.length < 128 := by
  have hf : l.find? (fun x => decide (x.1 = p)) = none := List.find?_eq_none.2 fun y hy => by simpa using hn y hy
  unfold putL at h0
  rw [hf] at h0
  split at h0
  ·simp only at h0
   split at h0
   ·cases h0
   ·split at h0
    ·cases h0
    ·omega
  ·rename_i h1; exact absurd h0 h1
 rw [e] at ht ⊢
 refine ⟨h.files ht (by rw [withR_len]; omega) (by rw [usedL_with]; have := h.us; simpa using this) (fun z hz e he => ⟨e, withR_mem.2 (.inr he)⟩), withR_mem.2 (.inl rfl)⟩
end
end Go.Proofs.Ytebfjdolgchgaaa

namespace Go.Proofs.Ytebfjdolgchgaaa
open Go Go.Fw Go.RowKit Go.Proofs
set_option linter.unusedVariables false
set_option linter.unusedSimpArgs false
set_option maxRecDepth 100000
set_option maxHeartbeats 4000000
theorem mem_take_snoc2 {α : Type} {P : α → Prop} {l : List α} {j : Nat} {x : α} (hx : l[j]? = some x) (h : ∀ y ∈ l.take j, P y) (hp : P x) : ∀ y ∈ l.take (j + 1), P y := by
 intro y hy
 rw [take_snoc hx] at hy
 rcases List.mem_append.1 hy with hy | hy
 ·exact h y hy
 ·rw [List.mem_singleton.1 hy]; exact hp
-- (valise/valiseref19.FS).remove
theorem fremove_c {w00 w0 : World} {X L : List (Nat × Obj)} {u hv : Value} {l : List Raw} {hl : List Opn} {p : List UInt8} (M : Sep w00 (X ++ L) w0) (hF : FilesK w00 L u l) (hO : OpnK w00 L hv hl) (hI : RI l hl) (hlen : hl.length ≤ 1000) (hpl : p.length ≤ 2000) : Ret Try.prog 61 #[.agg #[u, hv], strV p] w0 (RfP w00 L X hl (removeS l (hfL hl) p)) := by
 obtain ⟨pu, cu, rfl⟩ := (hF.at_ M (fun y hy => mR hy)).shape
 obtain ⟨ph, chh, rfl⟩ := Sg.shape (hO _ _ M (fun y hy => mR hy))
 have hT := hI.tr
 have hll := hI.le
 have hus := hI.us
 have hob := openB_any (p := p) hI.kr hI.nd
 refine Ret.of_W Try.func61 rfl Try.ntmps61 rfl ?_
 refine go 1 ?_
 intro bbx1 _ M
 refine go 1 ?_
 intro bal1 _ M
 refine go 1 ?_
 intro bal2 _ M
 refine go 1 ?_
 refine x_call rfl rfl rfl rfl rfl en82 (rremove_x (p := p) (X := _ :: _ :: _ :: X) M hF (by omega)) ?_
 rintro r_ w1 ⟨u1, L1, rfl, hF1, M⟩
 obtain ⟨pu1, cu1, rfl⟩ := (hF1.at_ M (fun y hy => mR hy)).shape
 refine ⟨trivial, ?_⟩
 refine go 1 ?_
 intro bal3 _ M
 refine go 1 ?_
 intro _ M
 refine cnd 1 ?_ ?_
 ·intro hco1
  have hS : removeS l (hfL hl) p = (badS (removeL l p).2, l, hfL hl) := by unfold removeS; rw [if_neg hco1]
  refine go 0 ?_
  refine W.regD (by kernel_rfl) #[0, 0, 2, 7, 15] [(0, false), (1, false), (2, true), (3, true), (4, true)] (by kernel_rfl) ?_
  intro K wD1 hK hwD1
  have M := M.drew hwD1
  refine go 1 ?_
  refine x_call rfl rfl rfl rfl rfl en37 (rbad_c) ?_
  rintro r_ wcall2 ⟨rfl, hncall2⟩
  have M := M.new hncall2
  refine pnd ?_
  refine x_st [_, _] _ rfl rfl rfl sz36 rfl rfl rfl rfl atM rfl rfl rfl ?_
  intro wst2 hwst2
  have M := by first | exact M.put 0 rfl hwst2 | exact M.put 1 rfl hwst2 | exact M.put 2 rfl hwst2 | exact M.put 3 rfl hwst2 | exact M.put 4 rfl hwst2 | exact M.put 5 rfl hwst2 | exact M.put 6 rfl hwst2 | exact M.put 7 rfl hwst2
  refine pnd ?_
  refine x_st [_, _, _, _, _] _ rfl rfl rfl sz59 rfl rfl rfl rfl atM rfl rfl rfl ?_
  intro wst3 hwst3
  have M := by first | exact M.put 0 rfl hwst3 | exact M.put 1 rfl hwst3 | exact M.put 2 rfl hwst3 | exact M.put 3 rfl hwst3 | exact M.put 4 rfl hwst3 | exact M.put 5 rfl hwst3 | exact M.put 6 rfl hwst3 | exact M.put 7 rfl hwst3
  refine pnd ?_
  refine go 1 ?_
  exact RfP.same hS RsK.bad hF hO hI M.tail.tail.tail.tail
 ·intro hco1
  refine go 0 ?_
  refine W.loop (σ := Nat) (fun j => [(1, _), (2, _), (4, _), (5, _), (6, _), (8, .int .i64 ((j : Nat) : Int))]) (fun j w => j ≤ hl.length ∧ (∀ y ∈ hl.take j, y.2.2.1 ≠ p) ∧ Sep w00 (((bal3, .cells [.slice pu1 (removeL l p).1.length cu1].toArray 33 (0, 0)) :: (bal2, .cells [.int .i64 0, .int .i64 0, .int .i64 0, .slice none 0 0, .slice none 0 0].toArray 59 (0, 0)) :: (bal1, .cells [.slice none 0 0, .slice none 0 0].toArray 36 (0, 0)) :: (bbx1, .cells [.slice pu l.length cu, .slice ph hl.length chh].toArray 36 (0, 0)) :: X) ++ (L ++ L1)) w) (fun j => hl.length - j) 0 ⟨rfl, rfl, rfl, rfl, rfl, rfl, trivial⟩ ⟨Nat.zero_le _, by simp, M⟩ ?_
  rintro j w ⟨hj, hno, M⟩
  refine cnd 3 ?_ ?_
  ·intro hco2
   obtain ⟨x, hx⟩ := get_lt (l := hl) (q := j) (by omega)
   have hOA := hO _ _ M (fun y hy => by simp [hy])
   obtain ⟨bb, off, rfl, _⟩ := OpnAt.blk hOA (j := j) (by omega)
   have hrow := OpnAt.row hOA hx
   refine go 1 ?_
   refine x_ia j rfl rfl rfl Try.underlying34 sz118 rfl rfl rfl (by omega) ?_
   refine go 0 ?_
   refine x_ld rfl rfl rfl Try.underlying9 rfl rfl (RowAt.cell hrow (j := 2) rfl) ?_
   refine cnd 1 ?_ ?_
   ·intro hco3
    have hS : removeS l (hfL hl) p = (badS 18, l, hfL hl) := by unfold removeS; rw [if_pos hco1, hob, if_pos (List.any_eq_true.2 ⟨x, List.mem_of_getElem? hx, decide_eq_true hco3⟩)]
    refine go 0 ?_
    refine W.regD (by kernel_rfl) #[0, 0, 3, 7] [(0, false), (1, true), (2, true), (3, true)] (by kernel_rfl) ?_
    intro K wD2 hK hwD2
    have M := M.drew hwD2
    refine go 1 ?_
    refine x_call rfl rfl rfl rfl rfl en37 (rbad_c) ?_
    rintro r_ wcall3 ⟨rfl, hncall3⟩
    have M := M.new hncall3
    refine pnd ?_
    refine x_st [_, _] _ rfl rfl rfl sz36 rfl rfl rfl rfl atM rfl rfl rfl ?_
    intro wst4 hwst4
    have M := by first | exact M.put 0 rfl hwst4 | exact M.put 1 rfl hwst4 | exact M.put 2 rfl hwst4 | exact M.put 3 rfl hwst4 | exact M.put 4 rfl hwst4 | exact M.put 5 rfl hwst4 | exact M.put 6 rfl hwst4 | exact M.put 7 rfl hwst4
    refine pnd ?_
    refine x_st [_, _, _, _, _] _ rfl rfl rfl sz59 rfl rfl rfl rfl atM rfl rfl rfl ?_
    intro wst5 hwst5
    have M := by first | exact M.put 0 rfl hwst5 | exact M.put 1 rfl hwst5 | exact M.put 2 rfl hwst5 | exact M.put 3 rfl hwst5 | exact M.put 4 rfl hwst5 | exact M.put 5 rfl hwst5 | exact M.put 6 rfl hwst5 | exact M.put 7 rfl hwst5
    refine pnd ?_
    refine go 1 ?_
    exact RfP.same hS RsK.bad hF hO hI M.tail.tail.tail.tail
   ·intro hco3
    refine go 0 ?_
    refine x_add _ rfl rfl rfl rfl rfl (wadd (by omega) (by omega)) ?_
    refine go 0 ?_
    exact At.back (j + 1) ⟨rfl, rfl, rfl, rfl, rfl, rfl, trivial⟩ ⟨by omega, mem_take_snoc2 hx hno hco3, M⟩ (by first | omega | (simp only; omega) | (simp; done) | (simp; omega))
  ·intro hco2
   have hj2 : j = hl.length := by omega
   subst hj2
   rw [List.take_length] at hno
   have hS : removeS l (hfL hl) p = (badS 0, (removeL l p).1, hfL hl) := by
    unfold removeS
    rw [if_pos hco1, hob, if_neg]
    rw [List.any_eq_true]
    rintro ⟨z, hz, he⟩
    exact hno z hz (of_decide_eq_true he)
   refine go 5 ?_
   intro _ M
   refine go 1 ?_
   intro _ M
   refine go 1 ?_
   exact RfP.rows hS RsK.bad hF1 hO (hI.remove hco1 hno) M.tail.tail.tail.tail

end Go.Proofs.Ytebfjdolgchgaaa

namespace Go.Proofs.Ytebfjdolgchgaaa
open Go Go.Fw Go.RowKit
set_option linter.unusedVariables false
set_option linter.unusedSimpArgs false

def movsO (hl : List Opn) (x y : List UInt8) (j : Nat) : List Opn := (hl.take j).map (movO x y) ++ hl.drop j
section
variable {hl : List Opn} {x y q : List UInt8} {j : Nat} {z : Opn} {rest : List Value}
theorem movsO_len : (movsO hl x y j).length = hl.length := by unfold movsO; simp; omega
theorem movsO_zero : movsO hl x y 0 = hl := by simp [movsO]
theorem movsO_all (h : hl.length ≤ j) : movsO hl x y j = hl.map (movO x y) := by unfold movsO; rw [List.take_of_length_le h, List.drop_of_length_le h, List.append_nil]
theorem movsO_get (hz : hl[j]? = some z) : (movsO hl x y j)[j]? = some z := by
 have hl' := (List.getElem?_eq_some_iff.1 hz).1
 unfold movsO
 rw [List.getElem?_append_right (by rw [List.length_map, List.length_take]; omega), List.length_map, List.length_take, Nat.min_eq_left (by omega), Nat.sub_self, List.getElem?_drop]
 exact hz
theorem movsO_set (hz : hl[j]? = some z) : (movsO hl x y j).set j (movO x y z) = movsO hl x y (j + 1) := by
 have hl' := (List.getElem?_eq_some_iff.1 hz).1
 unfold movsO
 rw [List.set_append_right _ _ (by rw [List.length_map, List.length_take]; omega), List.length_map, List.length_take, Nat.min_eq_left (by omega), Nat.sub_self, take_snoc hz, List.map_append]
 have e : hl.drop j = z :: hl.drop (j + 1) := by
  obtain ⟨h1, h2⟩ := List.getElem?_eq_some_iff.1 hz
  rw [← h2]; exact List.drop_eq_getElem_cons h1
 rw [e, List.set_cons_zero]
 simp
theorem movsO_same (hz : hl[j]? = some z) (h : movO x y z = z) : movsO hl x y (j + 1) = movsO hl x y j := by
 rw [← movsO_set hz, h]
 have := movsO_get (x := x) (y := y) hz
 obtain ⟨h1, h2⟩ := List.getElem?_eq_some_iff.1 this
 rw [← h2]; exact List.set_getElem_self h1
theorem movO_no (h : ¬ underP z.2.2.1 x = true) : movO x y z = z := by unfold movO movP; rw [if_neg h]
theorem movO_yes (h : underP z.2.2.1 x = true) : movO x y z = (z.1, z.2.1, y ++ z.2.2.1.drop x.length, z.2.2.2) := by unfold movO movP; rw [if_pos h]
theorem oCs_set (hz : hl[j]? = some z) : (oCs hl ++ rest).take (j * 4 + 2) ++ [strV q] ++ (oCs hl ++ rest).drop (j * 4 + 2 + 1) = oCs (hl.set j (z.1, z.2.1, q, z.2.2.2)) ++ rest := by
 have hl' := (List.getElem?_eq_some_iff.1 hz).1
 have e1 : oCs hl = (oCs (hl.take j) ++ [.int .i64 z.1, .int .i64 z.2.1]) ++ (strV z.2.2.1 :: .bool z.2.2.2 :: oCs (hl.drop (j + 1))) := by
  conv => lhs; rw [split_at hz]
  simp [oCs, oR]
 have e2 : oCs (hl.set j (z.1, z.2.1, q, z.2.2.2)) = (oCs (hl.take j) ++ [.int .i64 z.1, .int .i64 z.2.1]) ++ (strV q :: .bool z.2.2.2 :: oCs (hl.drop (j + 1))) := by
  rw [set_at hz]
  simp [oCs, oR]
 have hA : (oCs (hl.take j) ++ [Value.int .i64 z.1, Value.int .i64 z.2.1]).length = j * 4 + 2 := by
  rw [List.length_append, oCs_len, List.length_take]
  simp only [List.length_cons, List.length_nil]; omega
 rw [e1, e2, List.append_assoc, List.append_assoc, tk_app hA, dr_app 1 hA]
 simp
theorem opn_set {L : List (Nat × Obj)} {v : Value} (h : OwL L v 4 hl.length (oCs hl)) (hz : hl[j]? = some z) : ∃ blk cap rest T, v = .slice (some ⟨blk, 0, none⟩) hl.length cap ∧ L = [(blk, .cells (oCs hl ++ rest).toArray T (0, 0))] ∧ (oCs hl ++ rest).length = cap * 4 ∧
  OwL [(blk, .cells ((oCs hl ++ rest).take (j * 4 + 2) ++ [strV q] ++ (oCs hl ++ rest).drop (j * 4 + 2 + 1)).toArray T (0, 0))] v 4 hl.length (oCs (hl.set j (z.1, z.2.1, q, z.2.2.2))) := by
 have hj := (List.getElem?_eq_some_iff.1 hz).1
 rcases h with ⟨_, h2, _⟩ | ⟨blk, cap, rest, T, rfl, rfl, h3, h4⟩
 ·omega
 ·refine ⟨blk, cap, rest, T, rfl, rfl, h4, .inr ⟨blk, cap, rest, T, rfl, by rw [oCs_set hz], by rw [oCs_len, List.length_set], ?_⟩⟩
  rw [List.length_append, oCs_len, List.length_set, ← oCs_len, ← List.length_append]; exact h4
end
end Go.Proofs.Ytebfjdolgchgaaa

namespace Go.Proofs.Ytebfjdolgchgaaa
open Go Go.Fw Go.RowKit Go.Proofs
set_option linter.unusedVariables false
set_option linter.unusedSimpArgs false
set_option maxRecDepth 100000
set_option maxHeartbeats 4000000

-- (valise/valiseref19.FS).rename
theorem frename_c {w00 w0 : World} {X L : List (Nat × Obj)} {u hv : Value} {l : List Raw} {hl : List Opn} {p q : List UInt8} (M : Sep w00 (X ++ L) w0) (hF : FilesK w00 L u l) (hO : OpnK w00 L hv hl) (hI : RI l hl) (hlen : hl.length ≤ 1000) : Ret Try.prog 62 #[.agg #[u, hv], strV p, strV q] w0 (RfP w00 L X hl (renameS l (hfL hl) p q)) := by
 obtain ⟨pu, cu, rfl⟩ := (hF.at_ M (fun y hy => mR hy)).shape
 obtain ⟨ph, chh, rfl⟩ := Sg.shape (hO _ _ M (fun y hy => mR hy))
 have hT := hI.tr
 have hll := hI.le
 have hus := hI.us
 refine Ret.of_W Try.func62 rfl Try.ntmps62 rfl ?_
 refine go 1 ?_
 intro bbx1 _ M
 refine go 1 ?_
 intro bal1 _ M
 refine go 1 ?_
 intro bal2 _ M
 refine go 0 ?_
 refine x_call rfl rfl rfl rfl rfl en54 (rclean_c) ?_
 rintro r_ w1 ⟨rfl, hn1⟩
 have M := M.new hn1
 refine ⟨trivial, ?_⟩
 refine cnd 1 ?_ ?_
 ·intro hco1
  have hS : renameS l (hfL hl) p q = (badS (cleanP q).2, l, hfL hl) := by unfold renameS; rw [if_neg hco1]
  refine go 0 ?_
  refine W.regD (by kernel_rfl) #[0, 0, 2, 7, 15] [(0, false), (1, false), (2, true), (3, true), (4, true)] (by kernel_rfl) ?_
  intro K wD1 hK hwD1
  have M := M.drew hwD1
  refine go 1 ?_
  refine x_call rfl rfl rfl rfl rfl en37 (rbad_c) ?_
  rintro r_ wcall2 ⟨rfl, hncall2⟩
  have M := M.new hncall2
  refine pnd ?_
  refine x_st [_, _] _ rfl rfl rfl sz36 rfl rfl rfl rfl atM rfl rfl rfl ?_
  intro wst1 hwst1
  have M := by first | exact M.put 0 rfl hwst1 | exact M.put 1 rfl hwst1 | exact M.put 2 rfl hwst1 | exact M.put 3 rfl hwst1 | exact M.put 4 rfl hwst1 | exact M.put 5 rfl hwst1 | exact M.put 6 rfl hwst1 | exact M.put 7 rfl hwst1
  refine pnd ?_
  refine x_st [_, _, _, _, _] _ rfl rfl rfl sz59 rfl rfl rfl rfl atM rfl rfl rfl ?_
  intro wst2 hwst2
  have M := by first | exact M.put 0 rfl hwst2 | exact M.put 1 rfl hwst2 | exact M.put 2 rfl hwst2 | exact M.put 3 rfl hwst2 | exact M.put 4 rfl hwst2 | exact M.put 5 rfl hwst2 | exact M.put 6 rfl hwst2 | exact M.put 7 rfl hwst2
  refine pnd ?_
  refine go 1 ?_
  exact RfP.bad hS hF hO hI M.tail.tail.tail
 ·intro hco1
  have htl : (cleanP q).1.length ≤ 120 := by
   obtain ⟨k_, _, _, h3, h4⟩ := clean_ok hco1
   rw [h4]; exact h3
  refine go 1 ?_
  refine x_call rfl rfl rfl rfl rfl en83 (rrename_x (p := p) (y := (cleanP q).1) (X := _ :: _ :: _ :: X) M hF (by omega) (fun y hy => by have := (hT.row hy).2.2.1; omega) (by omega)) ?_
  rintro r_ w3 ⟨u1, L1, rfl, hF1, M⟩
  obtain ⟨pu1, cu1, rfl⟩ := (hF1.at_ M (fun y hy => mR hy)).shape
  refine ⟨trivial, ?_⟩
  refine go 1 ?_
  intro bal3 _ M
  refine go 1 ?_
  intro _ M
  refine cnd 1 ?_ ?_
  ·intro hco2
   have hS : renameS l (hfL hl) p q = (badS (renameL l p (cleanP q).1).2, l, hfL hl) := by unfold renameS; rw [if_pos hco1, if_neg hco2]
   refine go 0 ?_
   refine W.regD (by kernel_rfl) #[0, 0, 2, 7, 15] [(0, false), (1, false), (2, true), (3, true), (4, true)] (by kernel_rfl) ?_
   intro K wD2 hK hwD2
   have M := M.drew hwD2
   refine go 1 ?_
   refine x_call rfl rfl rfl rfl rfl en37 (rbad_c) ?_
   rintro r_ wcall4 ⟨rfl, hncall4⟩
   have M := M.new hncall4
   refine pnd ?_
   refine x_st [_, _] _ rfl rfl rfl sz36 rfl rfl rfl rfl atM rfl rfl rfl ?_
   intro wst4 hwst4
   have M := by first | exact M.put 0 rfl hwst4 | exact M.put 1 rfl hwst4 | exact M.put 2 rfl hwst4 | exact M.put 3 rfl hwst4 | exact M.put 4 rfl hwst4 | exact M.put 5 rfl hwst4 | exact M.put 6 rfl hwst4 | exact M.put 7 rfl hwst4
   refine pnd ?_
   refine x_st [_, _, _, _, _] _ rfl rfl rfl sz59 rfl rfl rfl rfl atM rfl rfl rfl ?_
   intro wst5 hwst5
   have M := by first | exact M.put 0 rfl hwst5 | exact M.put 1 rfl hwst5 | exact M.put 2 rfl hwst5 | exact M.put 3 rfl hwst5 | exact M.put 4 rfl hwst5 | exact M.put 5 rfl hwst5 | exact M.put 6 rfl hwst5 | exact M.put 7 rfl hwst5
   refine pnd ?_
   refine go 1 ?_
   exact RfP.same hS RsK.bad hF hO hI M.tail.tail.tail.tail
  ·intro hco2
   have hS : renameS l (hfL hl) p q = (badS 0, (renameL l p (cleanP q).1).1, movH (hfL hl) p (cleanP q).1) := by unfold renameS; rw [if_pos hco1, if_pos hco2]
   refine go 0 ?_
   refine x_bs0 rfl rfl rfl Try.underlying34 sz118 ?_
   intro bb0 wb hbb hwb
   have M := M.acons hbb hwb
   refine ⟨trivial, ?_⟩
   refine go 1 ?_
   have hOA := hO _ _ M (fun y hy => by simp [hy])
   refine x_apL (L := [_]) (cs := []) (nn := 0) rfl rfl rfl rfl Try.underlying34 sz118 ze118 rfl by118 rfl rfl (.inr ⟨bb0, 0, [], _, rfl, rfl, rfl, rfl⟩) M (by simp) (hOA.src Try.underlying34 (oCs_one _)) (by omega) (by decide) (by omega) ?_
   intro Lo v6 w6 how M
   rw [Nat.zero_add, List.nil_append] at how
   obtain ⟨p6, c6, rfl⟩ := how.shape
   refine ⟨trivial, ?_⟩
   refine go 0 ?_
   refine W.loop (σ := Nat × List (Nat × Obj)) (fun q_ => [(1, _), (6, _), (7, _), (8, _), (10, _), (12, .slice p6 hl.length c6), (13, .int .i64 ((q_.1 : Nat) : Int))]) (fun q_ w => q_.1 ≤ hl.length ∧ OwL q_.2 (.slice p6 hl.length c6) 4 hl.length (oCs (movsO hl p (cleanP q).1 q_.1)) ∧ Sep w00 (q_.2 ++ (((bal3, .cells [.slice pu1 (renameL l p (cleanP q).1).1.length cu1].toArray 33 (0, 0)) :: (bal2, .cells [.int .i64 0, .int .i64 0, .int .i64 0, .slice none 0 0, .slice none 0 0].toArray 59 (0, 0)) :: (bal1, .cells [.slice none 0 0, .slice none 0 0].toArray 36 (0, 0)) :: (bbx1, .cells [.slice pu l.length cu, .slice ph hl.length chh].toArray 36 (0, 0)) :: X) ++ (L ++ L1))) w) (fun q_ => hl.length - q_.1) (0, Lo) ⟨rfl, rfl, rfl, rfl, rfl, rfl, rfl, trivial⟩ ⟨Nat.zero_le _, by simp only; rw [movsO_zero]; exact how, M⟩ ?_
   rintro ⟨j, Lo⟩ w ⟨hj, ho, M⟩
   simp only at hj ho M
   refine cnd 2 ?_ ?_
   ·intro hco3
    obtain ⟨z, hz⟩ := get_lt (l := hl) (q := j) (by omega)
    have hzm := movsO_get (x := p) (y := (cleanP q).1) hz
    have ho2 : OwL Lo (.slice p6 hl.length c6) 4 (movsO hl p (cleanP q).1 j).length (oCs (movsO hl p (cleanP q).1 j)) := by rw [movsO_len]; exact ho
    obtain ⟨blk, cap, rest, T, hv, rfl, hcap, hset⟩ := opn_set (q := (cleanP q).1 ++ z.2.2.1.drop p.length) ho2 hzm
    injection hv with hv1 hv2 hv3
    subst hv1 hv3
    rw [movsO_len] at hset
    have hOw : OpnAt w (.slice (some ⟨blk, 0, none⟩) hl.length c6) (movsO hl p (cleanP q).1 j) := by
     unfold OpnAt; rw [movsO_len]; exact .inr ((OwL.sl ho (by decide)).get (fun y hy => M.get (List.mem_append_left _ hy)))
    have hrow := OpnAt.row hOw hzm
    obtain ⟨dz, hdz⟩ := hI.ho z (List.mem_of_getElem? hz)
    have hzl := (hT.row hdz).2.2.1
    simp only at hzl
    refine go 0 ?_
    refine x_ia j rfl rfl rfl Try.underlying34 sz118 rfl rfl rfl (by omega) ?_
    refine go 0 ?_
    refine x_ld rfl rfl rfl Try.underlying9 rfl rfl (RowAt.cell hrow (j := 2) rfl) ?_
    refine go 0 ?_
    refine x_call rfl rfl rfl rfl rfl en72 (runder_c) ?_
    rintro r_ w5 ⟨rfl, hn5⟩
    have M := M.new hn5
    have hrow := RowAt.new hrow hn5
    refine ⟨trivial, ?_⟩
    refine cnd 0 ?_ ?_
    ·intro hco4
     have hul := under_len hco4
     refine go 0 ?_
     refine x_ia j rfl rfl rfl Try.underlying34 sz118 rfl rfl rfl (by omega) ?_
     refine go 0 ?_
     refine x_ld rfl rfl rfl Try.underlying9 rfl rfl (RowAt.cell hrow (j := 2) rfl) ?_
     refine go 1 ?_
     refine x_sslS p.length rfl rfl rfl Try.underlying9 rfl rfl rfl (by omega) ?_
     refine x_catS rfl rfl rfl rfl rfl (by rw [List.length_drop]; omega) ?_
     refine x_ia j rfl rfl rfl Try.underlying34 sz118 rfl rfl rfl (by omega) ?_
     refine go 0 ?_
     refine x_st [_] _ rfl rfl rfl sz9 rfl rfl rfl rfl (M.at_ 0 rfl) rfl (Nat.ble_eq_true_of_le (by rw [List.length_append, oCs_len, movsO_len]; simp only [List.length_cons, List.length_nil]; omega)) rfl ?_
     intro wst6 hwst6
     have M := M.put 0 rfl hwst6
     rw [Nat.zero_add] at M
     have M : Sep w00 ([(blk, .cells ((oCs (movsO hl p (cleanP q).1 j) ++ rest).take (j * 4 + 2) ++ [strV ((cleanP q).1 ++ z.2.2.1.drop p.length)] ++ (oCs (movsO hl p (cleanP q).1 j) ++ rest).drop (j * 4 + 2 + 1)).toArray T (0, 0))] ++ (((bal3, .cells [.slice pu1 (renameL l p (cleanP q).1).1.length cu1].toArray 33 (0, 0)) :: (bal2, .cells [.int .i64 0, .int .i64 0, .int .i64 0, .slice none 0 0, .slice none 0 0].toArray 59 (0, 0)) :: (bal1, .cells [.slice none 0 0, .slice none 0 0].toArray 36 (0, 0)) :: (bbx1, .cells [.slice pu l.length cu, .slice ph hl.length chh].toArray 36 (0, 0)) :: X) ++ (L ++ L1))) wst6 := M
     refine ⟨trivial, ?_⟩
     refine go 0 ?_
     refine x_add _ rfl rfl rfl rfl rfl (wadd (by omega) (by omega)) ?_
     refine go 0 ?_
     exact At.back ((j + 1, _)) ⟨rfl, rfl, rfl, rfl, rfl, rfl, rfl, trivial⟩ ⟨by simp only; omega, by simp only; rw [← movsO_set hz, movO_yes hco4]; exact hset, M⟩ (by first | omega | (simp only; omega) | (simp; done) | (simp; omega))
    ·intro hco4
     refine go 0 ?_
     refine x_add _ rfl rfl rfl rfl rfl (wadd (by omega) (by omega)) ?_
     refine go 0 ?_
     exact At.back ((j + 1, _)) ⟨rfl, rfl, rfl, rfl, rfl, rfl, rfl, trivial⟩ ⟨by simp only; omega, by simp only; rw [movsO_same hz (movO_no (by rw [hco4]; simp))]; exact ho, M⟩ (by first | omega | (simp only; omega) | (simp; done) | (simp; omega))
   ·intro hco3
    have hj2 : j = hl.length := by omega
    rw [hj2, movsO_all (Nat.le_refl _)] at ho
    have hlm : (hl.map (movO p (cleanP q).1)).length = hl.length := by simp
    rw [← hlm] at ho
    have M : Sep w00 ((_ :: _ :: _ :: _ :: X) ++ ((L ++ L1) ++ Lo)) _ := St.lay M
    refine go 4 ?_
    intro _ M
    refine go 1 ?_
    intro _ M
    refine go 1 ?_
    rw [hS]
    rw [List.append_assoc] at M
    rw [← hlm]
    exact ⟨_, _, _, _, hl.map (movO p (cleanP q).1), L1 ++ Lo, _, rfl, RsK.bad, hF1.mono (fun y hy => by simp only [List.mem_append] at hy ⊢; rcases hy with hy | hy <;> simp [hy]), SgK.own ho (by decide) (fun y hy => by simp [hy]), hI.rename hco2, hfL_mov, by omega, M.tail.tail.tail.tail⟩

end Go.Proofs.Ytebfjdolgchgaaa

namespace Go.Proofs.Ytebfjdolgchgaaa
open Go Go.Fw Go.RowKit Go.Proofs
set_option linter.unusedVariables false
set_option linter.unusedSimpArgs false
set_option maxRecDepth 100000
set_option maxHeartbeats 4000000

-- (valise/valiseref19.FS).named
theorem fnamed_c {w00 w0 : World} {X L : List (Nat × Obj)} {u hv : Value} {l : List Raw} {hl : List Opn} {o : OpS} {dv : Value} (M : Sep w00 (X ++ L) w0) (hF : FilesK w00 L u l) (hO : OpnK w00 L hv hl) (hI : RI l hl) (hlen : hl.length ≤ 1000) (hdv : dv.oneCell' = true) : Ret Try.prog 40 #[.agg #[u, hv], .agg (opC o dv).toArray] w0 (RfP w00 L X hl (if (cleanP o.p).2 = 0 then namedS l (hfL hl) (cleanP o.p).1 o else (badS (cleanP o.p).2, l, hfL hl))) := by
 obtain ⟨pu, cu, rfl⟩ := (hF.at_ M (fun y hy => mR hy)).shape
 obtain ⟨ph, chh, rfl⟩ := Sg.shape (hO _ _ M (fun y hy => mR hy))
 have hT := hI.tr
 have hll := hI.le
 have hus := hI.us
 refine Ret.of_W Try.func40 rfl Try.ntmps40 rfl ?_
 refine go 1 ?_
 intro _ _ M
 refine go 1 ?_
 intro _ _ M
 refine go 1 ?_
 intro _ _ M
 refine go 1 ?_
 intro _ _ M
 refine go 1 ?_
 refine x_call rfl rfl rfl rfl rfl en54 (rclean_c) ?_
 rintro r_ w1 ⟨rfl, hn1⟩
 have M := M.new hn1
 refine ⟨trivial, ?_⟩
 refine cnd 1 ?_ ?_
 ·intro hco1
  have hS : (if (cleanP o.p).2 = 0 then namedS l (hfL hl) (cleanP o.p).1 o else (badS (cleanP o.p).2, l, hfL hl)) = (badS (cleanP o.p).2, l, hfL hl) := by rw [if_neg hco1]
  refine go 0 ?_
  refine W.regD (by kernel_rfl) #[0, 0, 2, 7, 15] [(0, false), (1, false), (2, true), (3, true), (4, true)] (by kernel_rfl) ?_
  intro K wD1 hK hwD1
  have M := M.drew hwD1
  refine go 1 ?_
  refine x_call rfl rfl rfl rfl rfl en37 (rbad_c) ?_
  rintro r_ wcall2 ⟨rfl, hncall2⟩
  have M := M.new hncall2
  refine pnd ?_
  refine x_st [_, _] _ rfl rfl rfl sz36 rfl rfl rfl rfl atM rfl rfl rfl ?_
  intro wst1 hwst1
  have M := by first | exact M.put 0 rfl hwst1 | exact M.put 1 rfl hwst1 | exact M.put 2 rfl hwst1 | exact M.put 3 rfl hwst1 | exact M.put 4 rfl hwst1 | exact M.put 5 rfl hwst1 | exact M.put 6 rfl hwst1 | exact M.put 7 rfl hwst1
  refine pnd ?_
  refine x_st [_, _, _, _, _] _ rfl rfl rfl sz59 rfl rfl rfl rfl atM rfl rfl rfl ?_
  intro wst2 hwst2
  have M := by first | exact M.put 0 rfl hwst2 | exact M.put 1 rfl hwst2 | exact M.put 2 rfl hwst2 | exact M.put 3 rfl hwst2 | exact M.put 4 rfl hwst2 | exact M.put 5 rfl hwst2 | exact M.put 6 rfl hwst2 | exact M.put 7 rfl hwst2
  refine pnd ?_
  refine go 1 ?_
  exact RfP.bad hS hF hO hI M.tail.tail.tail.tail
 ·intro hco1
  have htl : (cleanP o.p).1.length ≤ 120 := by
   obtain ⟨k_, _, _, h3, h4⟩ := clean_ok hco1
   rw [h4]; exact h3
  refine cnd 2 ?_ ?_
  ·intro hco2
   have hS : (if (cleanP o.p).2 = 0 then namedS l (hfL hl) (cleanP o.p).1 o else (badS (cleanP o.p).2, l, hfL hl)) = (badS (mkdirL l (cleanP o.p).1).2, (mkdirL l (cleanP o.p).1).1, hfL hl) := by rw [if_pos hco1]; unfold namedS; rw [if_pos hco2]
   refine go 1 ?_
   refine x_call rfl rfl rfl rfl rfl en60 (rmkdir_x (p := (cleanP o.p).1) (X := _ :: _ :: _ :: _ :: X) M hF (by omega) (fun y hy => by have := (hT.row hy).2.2.1; omega) (by omega)) ?_
   rintro r_ w3 ⟨u1, L1, rfl, hF1, M⟩
   obtain ⟨pu1, cu1, rfl⟩ := (hF1.at_ M (fun y hy => mR hy)).shape
   refine ⟨trivial, ?_⟩
   refine go 1 ?_
   intro _ _ M
   refine go 1 ?_
   intro _ M
   refine go 0 ?_
   refine W.regD (by kernel_rfl) #[0, 0, 2, 7, 0, 16, 63, 127] [(0, false), (1, false), (2, false), (3, false), (4, false), (5, true), (6, true), (7, true)] (by kernel_rfl) ?_
   intro K wD2 hK hwD2
   have M := M.drew hwD2
   refine go 3 ?_
   refine x_call rfl rfl rfl rfl rfl en37 (rbad_c) ?_
   rintro r_ wcall4 ⟨rfl, hncall4⟩
   have M := M.new hncall4
   refine pnd ?_
   refine x_st [_, _] _ rfl rfl rfl sz36 rfl rfl rfl rfl atM rfl rfl rfl ?_
   intro wst4 hwst4
   have M := by first | exact M.put 0 rfl hwst4 | exact M.put 1 rfl hwst4 | exact M.put 2 rfl hwst4 | exact M.put 3 rfl hwst4 | exact M.put 4 rfl hwst4 | exact M.put 5 rfl hwst4 | exact M.put 6 rfl hwst4 | exact M.put 7 rfl hwst4
   refine pnd ?_
   refine x_st [_, _, _, _, _] _ rfl rfl rfl sz59 rfl rfl rfl rfl atM rfl rfl rfl ?_
   intro wst5 hwst5
   have M := by first | exact M.put 0 rfl hwst5 | exact M.put 1 rfl hwst5 | exact M.put 2 rfl hwst5 | exact M.put 3 rfl hwst5 | exact M.put 4 rfl hwst5 | exact M.put 5 rfl hwst5 | exact M.put 6 rfl hwst5 | exact M.put 7 rfl hwst5
   refine pnd ?_
   refine go 1 ?_
   exact RfP.rows hS RsK.bad hF1 hO (hI.mkdir (cleanP o.p).1) M.tail.tail.tail.tail.tail
  ·intro hco2
   refine cnd 1 ?_ ?_
   ·intro hco3
    have hS : (if (cleanP o.p).2 = 0 then namedS l (hfL hl) (cleanP o.p).1 o else (badS (cleanP o.p).2, l, hfL hl)) = removeS l (hfL hl) (cleanP o.p).1 := by rw [if_pos hco1]; unfold namedS; rw [if_neg hco2, if_pos hco3]; rfl
    refine go 1 ?_
    refine x_call rfl rfl rfl rfl rfl en61 (fremove_c (p := (cleanP o.p).1) (X := _ :: _ :: _ :: _ :: X) M hF hO hI hlen (by omega)) ?_
    rintro r_ w5 ⟨pu', cu', ph', ch', hl', L', rv, rfl, hr, hF', hO', hI', hh', hlen', M⟩
    obtain ⟨q1, k1, q2, k2, rfl, hr4, hr5⟩ := hr
    refine ⟨trivial, ?_⟩
    refine go 1 ?_
    intro _ M
    refine go 1 ?_
    intro _ M
    refine go 1 ?_
    rw [hS]
    exact ⟨_, _, _, _, hl', L', _, rfl, ⟨q1, k1, q2, k2, rfl, hr4, hr5⟩, hF', hO', hI', hh', hlen', M.tail.tail.tail.tail⟩
   ·intro hco3
    refine cnd 1 ?_ ?_
    ·intro hco4
     have hS : (if (cleanP o.p).2 = 0 then namedS l (hfL hl) (cleanP o.p).1 o else (badS (cleanP o.p).2, l, hfL hl)) = renameS l (hfL hl) (cleanP o.p).1 o.q := by rw [if_pos hco1]; unfold namedS; rw [if_neg hco2, if_neg hco3, if_pos hco4]; rfl
     refine go 2 ?_
     refine x_call rfl rfl rfl rfl rfl en62 (frename_c (p := (cleanP o.p).1) (q := o.q) (X := _ :: _ :: _ :: _ :: X) M hF hO hI hlen) ?_
     rintro r_ w6 ⟨pu', cu', ph', ch', hl', L', rv, rfl, hr, hF', hO', hI', hh', hlen', M⟩
     obtain ⟨q1, k1, q2, k2, rfl, hr4, hr5⟩ := hr
     refine ⟨trivial, ?_⟩
     refine go 1 ?_
     intro _ M
     refine go 1 ?_
     intro _ M
     refine go 1 ?_
     rw [hS]
     exact ⟨_, _, _, _, hl', L', _, rfl, ⟨q1, k1, q2, k2, rfl, hr4, hr5⟩, hF', hO', hI', hh', hlen', M.tail.tail.tail.tail⟩
    ·intro hco4
     have hS : (if (cleanP o.p).2 = 0 then namedS l (hfL hl) (cleanP o.p).1 o else (badS (cleanP o.p).2, l, hfL hl)) = (⟨(listL l (cleanP o.p).1).2, 0, 0, [], (listL l (cleanP o.p).1).1⟩, l, hfL hl) := by rw [if_pos hco1]; unfold namedS; rw [if_neg hco2, if_neg hco3, if_neg hco4]
     refine go 1 ?_
     refine x_call rfl rfl rfl rfl rfl en63 (rlist_x (p := (cleanP o.p).1) (X := _ :: _ :: _ :: _ :: X) M hF (by omega)) ?_
     rintro r_ w7 ⟨pl, cl, L7, rfl, hl7, M⟩
     refine ⟨trivial, ?_⟩
     refine go 3 ?_
     intro _ M
     refine go 1 ?_
     intro _ M
     refine go 1 ?_
     exact RfP.same hS ⟨none, 0, pl, cl, rfl, nilS (by decide), hl7⟩ hF hO hI M.tail.tail.tail.tail

end Go.Proofs.Ytebfjdolgchgaaa

namespace Go.Proofs.Ytebfjdolgchgaaa
open Go Go.Fw Go.RowKit
set_option linter.unusedVariables false
set_option linter.unusedSimpArgs false

section
variable {hf : HF} {who : Int} {l : List Raw} {hl : List Opn} {o : OpS} {i : Nat}
theorem low_full : (openL hf who).length = 16 ↔ lowH hf who = none := by
 unfold openL openN lowH
 rw [List.length_map, List.find?_eq_none]
 have h16 : (List.range 16).length = 16 := List.length_range
 constructor
 ·intro h i hi
  have := (List.length_filter_eq_length_iff (p := fun (i : Nat) => (hf who ((i : Int) + 1)).isSome) (l := List.range 16)).1 (by rw [h]; simp) i hi
  simp only [Option.isNone_iff_eq_none]
  intro e
  rw [e] at this
  cases this
 ·intro h
  have := (List.length_filter_eq_length_iff (p := fun (i : Nat) => (hf who ((i : Int) + 1)).isSome) (l := List.range 16)).2 (fun i hi => by
   have := h i hi
   cases hq : hf who ((i : Int) + 1) with
   | none => rw [hq] at this; exact absurd rfl this
   | some v => rfl)
  rw [this]; simp
theorem low_has (h : (openL hf who).length ≠ 16) : ∃ i, lowH hf who = some i := by
 cases hq : lowH hf who with
 | none => exact absurd (low_full.2 hq) h
 | some i => exact ⟨i, rfl⟩
def OpnC (l : List Raw) (o : OpS) (eO : Int) (lO : List Raw) (dO : Bool) : Prop :=
 ((findL l (cleanP o.p).1).2 = 9 ∧ o.c = true ∧ eO = (putL l (cleanP o.p).1 []).2 ∧ lO = (putL l (cleanP o.p).1 []).1 ∧ dO = false) ∨
 (¬ ((findL l (cleanP o.p).1).2 = 9 ∧ o.c = true) ∧ eO = (findL l (cleanP o.p).1).2 ∧ lO = l ∧ dO = (findL l (cleanP o.p).1).1.2.1)
theorem OpnC.bad {eO : Int} {lO : List Raw} {dO : Bool} (h : OpnC l o eO lO dO) (hl : lowH hf who = some i) (hc : (cleanP o.p).2 = 0) (he : eO ≠ 0) : openS l hf who o = (badS eO, l, hf) := by
 unfold openS
 rw [hl]
 simp only
 rw [if_pos hc]
 rcases h with ⟨h1, h2, rfl, rfl, rfl⟩ | ⟨h1, rfl, rfl, rfl⟩
 ·rw [if_pos ⟨h1, h2⟩, if_neg he]
 ·rw [if_neg h1, if_neg he]
theorem OpnC.dir {lO : List Raw} (h : OpnC l o 0 lO true) (hl : lowH hf who = some i) (hc : (cleanP o.p).2 = 0) : openS l hf who o = (badS 16, l, hf) := by
 unfold openS
 rw [hl]
 simp only
 rw [if_pos hc]
 rcases h with ⟨_, _, _, _, h5⟩ | ⟨h1, h2, rfl, h4⟩
 ·cases h5
 ·rw [if_neg h1, if_pos h2.symm, if_pos h4.symm]
theorem OpnC.ok {lO : List Raw} (h : OpnC l o 0 lO false) (hI : RI l hl) (hw : 0 ≤ who ∧ who < 8) (hlo : lowH (hfL hl) who = some i) (hc : (cleanP o.p).2 = 0) : openS l (hfL hl) who o = (⟨0, (i : Int) + 1, 0, [], []⟩, lO, setH (hfL hl) who ((i : Int) + 1) (some ((cleanP o.p).1, o.w))) ∧
  RI lO (hl ++ [(who, (i : Int) + 1, (cleanP o.p).1, o.w)]) ∧ hfL (hl ++ [(who, (i : Int) + 1, (cleanP o.p).1, o.w)]) = setH (hfL hl) who ((i : Int) + 1) (some ((cleanP o.p).1, o.w)) := by
 obtain ⟨g1, g2, g3⟩ := low_spec hlo
 have hk : 0 ≤ who ∧ who < 8 ∧ 1 ≤ (i : Int) + 1 ∧ (i : Int) + 1 ≤ 16 := ⟨hw.1, hw.2, by omega, by omega⟩
 refine ⟨?_, ?_, hfL_open g2⟩
 ·unfold openS
  rw [hlo]
  simp only
  rw [if_pos hc]
  rcases h with ⟨h1, h2, h3, rfl, _⟩ | ⟨h1, h2, rfl, h4⟩
  ·rw [if_pos ⟨h1, h2⟩, if_pos h3.symm]
  ·rw [if_neg h1, if_pos h2.symm, if_neg (by rw [← h4]; simp)]
 ·rcases h with ⟨h1, h2, h3, rfl, _⟩ | ⟨h1, h2, rfl, h4⟩
  ·obtain ⟨q1, q2⟩ := hI.put h3.symm (hI.tr.absent h1)
   exact q1.hand g2 q2 hk
  ·have hp0 : (cleanP o.p).1 ≠ [] := fun e => by rw [e, findL_root] at h4; cases h4
   obtain ⟨q1, q2⟩ := hI.tr.find h2.symm hp0
   obtain ⟨w, hw2⟩ : ∃ w, (findL lO (cleanP o.p).1).1 = w := ⟨_, rfl⟩
   rw [hw2] at q1 q2 h4
   obtain ⟨a, b, c⟩ := w
   simp only at q2 h4
   subst q2 h4
   exact hI.hand g2 q1 hk
end
end Go.Proofs.Ytebfjdolgchgaaa

namespace Go.Proofs.Ytebfjdolgchgaaa
open Go Go.Fw Go.RowKit Go.Proofs
set_option linter.unusedVariables false
set_option linter.unusedSimpArgs false
set_option maxRecDepth 100000
set_option maxHeartbeats 4000000

-- (valise/valiseref19.FS).open
theorem fopen_c {w00 w0 : World} {X L : List (Nat × Obj)} {u hv : Value} {l : List Raw} {hl : List Opn} {who : Int} {o : OpS} {dv : Value} (M : Sep w00 (X ++ L) w0) (hF : FilesK w00 L u l) (hO : OpnK w00 L hv hl) (hI : RI l hl) (hlen : hl.length ≤ 1000) (hdv : dv.oneCell' = true) (hw : 0 ≤ who ∧ who < 8) : Ret Try.prog 38 #[.agg #[u, hv], .int .i64 who, .agg (opC o dv).toArray] w0 (RfP w00 L X hl (openS l (hfL hl) who o)) := by
 obtain ⟨pu, cu, rfl⟩ := (hF.at_ M (fun y hy => mR hy)).shape
 obtain ⟨ph, chh, rfl⟩ := Sg.shape (hO _ _ M (fun y hy => mR hy))
 have hT := hI.tr
 have hll := hI.le
 have hus := hI.us
 refine Ret.of_W Try.func38 rfl Try.ntmps38 rfl ?_
 refine go 1 ?_
 intro bbx1 _ M
 refine go 1 ?_
 intro bbx2 _ M
 refine go 1 ?_
 intro bal1 _ M
 refine go 1 ?_
 intro bal2 _ M
 refine go 1 ?_
 refine x_call rfl rfl rfl rfl rfl en53 (rhdls_c (hO _ _ M (fun y hy => by simp [hy])) (by omega)) ?_
 rintro r_ w1 ⟨L1, hi1, M1⟩
 obtain ⟨p1, c1, rfl⟩ := hi1.shape
 have M := M.new M1.frm
 refine ⟨trivial, ?_⟩
 refine cnd 2 ?_ ?_
 ·intro hco1
  have hS : openS l (hfL hl) who o = (badS 7, l, hfL hl) := by unfold openS; rw [low_full.1 (by omega)]
  refine go 0 ?_
  refine W.regD (by kernel_rfl) #[0, 0, 3, 7] [(0, false), (1, true), (2, true), (3, true)] (by kernel_rfl) ?_
  intro K wD1 hK hwD1
  have M := M.drew hwD1
  refine go 1 ?_
  refine x_call rfl rfl rfl rfl rfl en37 (rbad_c) ?_
  rintro r_ wcall2 ⟨rfl, hncall2⟩
  have M := M.new hncall2
  refine pnd ?_
  refine x_st [_, _] _ rfl rfl rfl sz36 rfl rfl rfl rfl atM rfl rfl rfl ?_
  intro wst1 hwst1
  have M := by first | exact M.put 0 rfl hwst1 | exact M.put 1 rfl hwst1 | exact M.put 2 rfl hwst1 | exact M.put 3 rfl hwst1 | exact M.put 4 rfl hwst1 | exact M.put 5 rfl hwst1 | exact M.put 6 rfl hwst1 | exact M.put 7 rfl hwst1
  refine pnd ?_
  refine x_st [_, _, _, _, _] _ rfl rfl rfl sz59 rfl rfl rfl rfl atM rfl rfl rfl ?_
  intro wst2 hwst2
  have M := by first | exact M.put 0 rfl hwst2 | exact M.put 1 rfl hwst2 | exact M.put 2 rfl hwst2 | exact M.put 3 rfl hwst2 | exact M.put 4 rfl hwst2 | exact M.put 5 rfl hwst2 | exact M.put 6 rfl hwst2 | exact M.put 7 rfl hwst2
  refine pnd ?_
  refine go 1 ?_
  exact RfP.bad hS hF hO hI M.tail.tail.tail.tail
 ·intro hco1
  obtain ⟨i, hlow⟩ := low_has (hf := hfL hl) (who := who) (by omega)
  obtain ⟨hi16, hfi, hfk⟩ := low_spec hlow
  refine go 1 ?_
  refine x_call rfl rfl rfl rfl rfl en54 (rclean_c) ?_
  rintro r_ w3 ⟨rfl, hn3⟩
  have M := M.new hn3
  refine ⟨trivial, ?_⟩
  refine cnd 1 ?_ ?_
  ·intro hco2
   have hS : openS l (hfL hl) who o = (badS (cleanP o.p).2, l, hfL hl) := by unfold openS; rw [hlow]; simp only; rw [if_neg hco2]
   refine go 0 ?_
   refine W.regD (by kernel_rfl) #[0, 0, 2, 7, 15] [(0, false), (1, false), (2, true), (3, true), (4, true)] (by kernel_rfl) ?_
   intro K wD2 hK hwD2
   have M := M.drew hwD2
   refine go 1 ?_
   refine x_call rfl rfl rfl rfl rfl en37 (rbad_c) ?_
   rintro r_ wcall4 ⟨rfl, hncall4⟩
   have M := M.new hncall4
   refine pnd ?_
   refine x_st [_, _] _ rfl rfl rfl sz36 rfl rfl rfl rfl atM rfl rfl rfl ?_
   intro wst3 hwst3
   have M := by first | exact M.put 0 rfl hwst3 | exact M.put 1 rfl hwst3 | exact M.put 2 rfl hwst3 | exact M.put 3 rfl hwst3 | exact M.put 4 rfl hwst3 | exact M.put 5 rfl hwst3 | exact M.put 6 rfl hwst3 | exact M.put 7 rfl hwst3
   refine pnd ?_
   refine x_st [_, _, _, _, _] _ rfl rfl rfl sz59 rfl rfl rfl rfl atM rfl rfl rfl ?_
   intro wst4 hwst4
   have M := by first | exact M.put 0 rfl hwst4 | exact M.put 1 rfl hwst4 | exact M.put 2 rfl hwst4 | exact M.put 3 rfl hwst4 | exact M.put 4 rfl hwst4 | exact M.put 5 rfl hwst4 | exact M.put 6 rfl hwst4 | exact M.put 7 rfl hwst4
   refine pnd ?_
   refine go 1 ?_
   exact RfP.bad hS hF hO hI M.tail.tail.tail.tail
  ·intro hco2
   have htl : (cleanP o.p).1.length ≤ 120 := by
    obtain ⟨k_, _, _, h3, h4⟩ := clean_ok hco2
    rw [h4]; exact h3
   refine go 1 ?_
   refine x_call rfl rfl rfl rfl rfl en55 (rfind_x (p := (cleanP o.p).1) (X := _ :: _ :: _ :: _ :: X) M hF (by omega)) ?_
   rintro r_ w5 ⟨pf, cf, rfl, hbf, hn5⟩
   have M := M.new hn5
   refine ⟨trivial, ?_⟩
   refine go 1 ?_
   intro bal3 _ M
   refine go 1 ?_
   intro _ M
   refine go 2 ?_
   intro bal4 _ M
   refine go 1 ?_
   intro _ M
   refine gs 0 0 ?_
   refine W.seqC (fun F' w' => ∃ eO lO dO nmx dvx pu2 cu2 L2, F' = [(1, .int .i64 who), (3, ptr bbx1), (5, ptr bbx2), (6, ptr bal1), (7, ptr bal2), (8, strV (cleanP o.p).1), (9, .int .i64 eO), (10, ptr bal3), (11, ptr bal4)] ∧ OpnC l o eO lO dO ∧ FilesK w00 (L ++ L2) (.slice pu2 lO.length cu2) lO ∧ Sep w00 (((bal4, .cells [.slice pu2 lO.length cu2].toArray 33 (0, 0)) :: (bal3, .cells [strV nmx, .bool dO, dvx].toArray 88 (0, 0)) :: (bal2, .cells [.int .i64 0, .int .i64 0, .int .i64 0, .slice none 0 0, .slice none 0 0].toArray 59 (0, 0)) :: (bal1, .cells [.slice none 0 0, .slice none 0 0].toArray 36 (0, 0)) :: (bbx2, .cells (opC o dv).toArray 66 (0, 0)) :: (bbx1, .cells [.slice pu l.length cu, .slice ph hl.length chh].toArray 36 (0, 0)) :: X) ++ (L ++ L2)) w') ?_ ?_
   ·refine spl 1 42 ?_ ?_
    ·intro hsp1
     refine cnd 1 ?_ ?_
     ·intro hco3
      refine go 1 ?_
      refine x_call rfl rfl rfl rfl rfl en56 (rput_x (p := (cleanP o.p).1) (b := []) (X := _ :: _ :: _ :: _ :: _ :: _ :: X) M hF (by omega) (fun y hy => by have := (hT.row hy).2.2.1; omega) (by omega) (nilS (by decide))) ?_
      rintro r_ w6 ⟨u6, L6, rfl, hF6, M⟩
      obtain ⟨pu6, cu6, rfl⟩ := (hF6.at_ M (fun y hy => mR hy)).shape
      refine ⟨trivial, ?_⟩
      refine go 1 ?_
      intro _ M
      refine go 2 ?_
      intro _ M
      refine go 0 ?_
      refine At.sub [(1, _), (3, _), (5, _), (6, _), (7, _), (8, _), (9, _), (10, _), (11, _)] ⟨rfl, rfl, rfl, rfl, rfl, rfl, rfl, rfl, rfl, trivial⟩ ?_
      refine At.cut_n ?_
      exact ⟨_, _, false, [], _, pu6, cu6, L6, rfl, .inl ⟨hsp1, hco3, rfl, rfl, rfl⟩, hF6, M⟩
     ·intro hco3
      refine go 0 ?_
      refine At.sub [(1, _), (3, _), (5, _), (6, _), (7, _), (8, _), (9, _), (10, _), (11, _)] ⟨rfl, rfl, rfl, rfl, rfl, rfl, rfl, rfl, rfl, trivial⟩ ?_
      refine At.cut_n ?_
      exact ⟨_, l, _, _, _, pu, cu, [], rfl, .inr ⟨fun h => absurd (h.2.symm.trans hco3) (by decide), rfl, rfl, rfl⟩, by rw [List.append_nil]; exact hF, by rw [List.append_nil]; exact M⟩
    ·intro hsp1
     refine go 0 ?_
     refine At.sub [(1, _), (3, _), (5, _), (6, _), (7, _), (8, _), (9, _), (10, _), (11, _)] ⟨rfl, rfl, rfl, rfl, rfl, rfl, rfl, rfl, rfl, trivial⟩ ?_
     refine At.cut_n ?_
     exact ⟨_, l, _, _, _, pu, cu, [], rfl, .inr ⟨fun h => hsp1 h.1, rfl, rfl, rfl⟩, by rw [List.append_nil]; exact hF, by rw [List.append_nil]; exact M⟩
   rintro F1 wc ⟨eO, lO, dO, nmx, dvx, pu2, cu2, L2, rfl, hcas, hF2, M⟩
   refine cnd 1 ?_ ?_
   ·intro hco5
    refine go 0 ?_
    refine W.regD (by kernel_rfl) #[0, 0, 2, 7, 15] [(0, false), (1, false), (2, true), (3, true), (4, true)] (by kernel_rfl) ?_
    intro K wD3 hK hwD3
    have M := M.drew hwD3
    refine go 1 ?_
    refine x_call rfl rfl rfl rfl rfl en37 (rbad_c) ?_
    rintro r_ wcall7 ⟨rfl, hncall7⟩
    have M := M.new hncall7
    refine pnd ?_
    refine x_st [_, _] _ rfl rfl rfl sz36 rfl rfl rfl rfl atM rfl rfl rfl ?_
    intro wst9 hwst9
    have M := by first | exact M.put 0 rfl hwst9 | exact M.put 1 rfl hwst9 | exact M.put 2 rfl hwst9 | exact M.put 3 rfl hwst9 | exact M.put 4 rfl hwst9 | exact M.put 5 rfl hwst9 | exact M.put 6 rfl hwst9 | exact M.put 7 rfl hwst9
    refine pnd ?_
    refine x_st [_, _, _, _, _] _ rfl rfl rfl sz59 rfl rfl rfl rfl atM rfl rfl rfl ?_
    intro wst10 hwst10
    have M := by first | exact M.put 0 rfl hwst10 | exact M.put 1 rfl hwst10 | exact M.put 2 rfl hwst10 | exact M.put 3 rfl hwst10 | exact M.put 4 rfl hwst10 | exact M.put 5 rfl hwst10 | exact M.put 6 rfl hwst10 | exact M.put 7 rfl hwst10
    refine pnd ?_
    refine go 1 ?_
    exact RfP.same (hcas.bad hlow hco2 hco5) RsK.bad hF hO hI M.tail.tail.tail.tail.tail.tail
   ·intro hco5
    subst hco5
    refine cnd 1 ?_ ?_
    ·intro hco6
     subst hco6
     refine go 0 ?_
     refine W.regD (by kernel_rfl) #[0, 0, 3, 7] [(0, false), (1, true), (2, true), (3, true)] (by kernel_rfl) ?_
     intro K wD4 hK hwD4
     have M := M.drew hwD4
     refine go 1 ?_
     refine x_call rfl rfl rfl rfl rfl en37 (rbad_c) ?_
     rintro r_ wcall8 ⟨rfl, hncall8⟩
     have M := M.new hncall8
     refine pnd ?_
     refine x_st [_, _] _ rfl rfl rfl sz36 rfl rfl rfl rfl atM rfl rfl rfl ?_
     intro wst11 hwst11
     have M := by first | exact M.put 0 rfl hwst11 | exact M.put 1 rfl hwst11 | exact M.put 2 rfl hwst11 | exact M.put 3 rfl hwst11 | exact M.put 4 rfl hwst11 | exact M.put 5 rfl hwst11 | exact M.put 6 rfl hwst11 | exact M.put 7 rfl hwst11
     refine pnd ?_
     refine x_st [_, _, _, _, _] _ rfl rfl rfl sz59 rfl rfl rfl rfl atM rfl rfl rfl ?_
     intro wst12 hwst12
     have M := by first | exact M.put 0 rfl hwst12 | exact M.put 1 rfl hwst12 | exact M.put 2 rfl hwst12 | exact M.put 3 rfl hwst12 | exact M.put 4 rfl hwst12 | exact M.put 5 rfl hwst12 | exact M.put 6 rfl hwst12 | exact M.put 7 rfl hwst12
     refine pnd ?_
     refine go 1 ?_
     exact RfP.same (hcas.dir hlow hco2) RsK.bad hF hO hI M.tail.tail.tail.tail.tail.tail
    ·intro hco6
     subst hco6
     refine go 0 ?_
     refine W.loop (σ := Nat) (fun m => [(1, _), (3, _), (5, _), (6, _), (7, _), (8, _), (11, _), (12, .int .i64 ((m + 1 : Nat) : Int))]) (fun m w => m ≤ i ∧ Sep w00 (((bal4, .cells [.slice pu2 lO.length cu2].toArray 33 (0, 0)) :: (bal3, .cells [strV nmx, .bool false, dvx].toArray 88 (0, 0)) :: (bal2, .cells [.int .i64 0, .int .i64 0, .int .i64 0, .slice none 0 0, .slice none 0 0].toArray 59 (0, 0)) :: (bal1, .cells [.slice none 0 0, .slice none 0 0].toArray 36 (0, 0)) :: (bbx2, .cells (opC o dv).toArray 66 (0, 0)) :: (bbx1, .cells [.slice pu l.length cu, .slice ph hl.length chh].toArray 36 (0, 0)) :: X) ++ (L ++ L2)) w) (fun m => i - m) 0 ⟨rfl, rfl, rfl, rfl, rfl, rfl, rfl, rfl, trivial⟩ ⟨Nat.zero_le _, M⟩ ?_
     rintro m w ⟨hm, M⟩
     refine go 1 ?_
     refine x_call rfl rfl rfl rfl rfl en50 (rat_c (hO _ _ M (fun y hy => by simp [hy])) (by omega)) ?_
     rintro r_ w9 ⟨rfl, hn9⟩
     have M := M.new hn9
     have hat := atO_some (hl := hl) (who := who) (n := ((m + 1 : Nat) : Int))
     refine ⟨trivial, ?_⟩
     refine cnd 1 ?_ ?_
     ·intro hco7
      have hsm : (hfL hl who ((m : Int) + 1)).isSome = true := by have := hat.1 (by omega); simpa using this
      have hmi : m ≠ i := by rintro rfl; rw [hfi] at hsm; cases hsm
      refine go 0 ?_
      refine x_add ((m + 1 + 1 : Nat) : Int) rfl rfl rfl rfl rfl (by rw [wadd (by omega) (by omega)]; omega) ?_
      refine go 0 ?_
      exact At.back (m + 1) ⟨rfl, rfl, rfl, rfl, rfl, rfl, rfl, rfl, trivial⟩ ⟨by omega, M⟩ (by first | omega | (simp only; omega) | (simp; done) | (simp; omega))
     ·intro hco7
      have hmi : m = i := by
       rcases Nat.lt_or_ge m i with h | h
       ·have h2 := hfk m h
        have := hat.2 (by simpa using h2)
        omega
       ·omega
      refine gs 0 0 ?_
      refine W.seqC (fun F' w' => ∃ ph' ch' L', F' = [(6, ptr bal1), (7, ptr bal2)] ∧ OpnK w00 (L ++ L') (.slice ph' (hl ++ [(who, ((m + 1 : Nat) : Int), (cleanP o.p).1, o.w)]).length ch') (hl ++ [(who, ((m + 1 : Nat) : Int), (cleanP o.p).1, o.w)]) ∧ FilesK w00 (L ++ L') (.slice pu2 lO.length cu2) lO ∧ Sep w00 (((bal4, .cells [.slice pu2 lO.length cu2].toArray 33 (0, 0)) :: (bal3, .cells [strV nmx, .bool false, dvx].toArray 88 (0, 0)) :: (bal2, .cells [.int .i64 0, .int .i64 ((m + 1 : Nat) : Int), .int .i64 0, .slice none 0 0, .slice none 0 0].toArray 59 (0, 0)) :: (bal1, .cells [.slice pu2 lO.length cu2, .slice ph' (hl ++ [(who, ((m + 1 : Nat) : Int), (cleanP o.p).1, o.w)]).length ch'].toArray 36 (0, 0)) :: (bbx2, .cells (opC o dv).toArray 66 (0, 0)) :: (bbx1, .cells [.slice pu l.length cu, .slice ph hl.length chh].toArray 36 (0, 0)) :: X) ++ (L ++ L')) w') ?_ ?_
      ·refine go 0 ?_
       refine W.regT (by kernel_rfl) #[0, 0, 0, 4, 14, 0, 0, 0, 0, 256, 992, 2016, 4094, 8191, 0, 16384, 16383, 131071] (.par [(0, false), (2, false), (3, false), (5, false), (6, false), (7, false), (8, false), (9, false), (10, false), (14, false), (15, false)] 1 (.two [] 4 [(11, true)] 11 [(4, true)] (.leaf [(12, true), (13, false), (16, true), (17, true)])) 11 (.leaf [(1, true), (4, true), (12, true), (13, false), (16, true), (17, true)])) (by kernel_rfl) ?_
       intro K wD5 hK hwD5
       have M := M.drew hwD5
       refine ExT.par ?_
       refine go 5 ?_
       refine Ex.fork ?_
       refine ⟨?_, ?_⟩
       ·refine x_bs0 rfl rfl rfl Try.underlying34 sz118 ?_
        intro bb0 wbs1 hbbs1 hwbs1
        have M := M.acons hbbs1 hwbs1
        refine ⟨⟨.inr (cell_of (M.get (b := bbx2) (o := (bbx2, .cells (opC o dv).toArray 66 (0, 0)).2) (by simp)) rfl), .inr (cell_of (M.get (b := bbx1) (o := (bbx1, .cells [.slice pu l.length cu, .slice ph hl.length chh].toArray 36 (0, 0)).2) (by simp)) rfl), .inr ⟨_, _, _, (M.get (b := bal4) (o := (bal4, .cells [.slice pu2 lO.length cu2].toArray 33 (0, 0)).2) (by simp)), rfl⟩, trivial⟩, ?_⟩
        refine Ex.fork ?_
        refine ExT.two ?_
        refine Ex.fork ?_
        refine Ex.join (fun F' T' w' => ∃ Lo p6 c6 bB R2 R3, T' = [(9, R3), (3, R2), (0, fun w' => RowAt w' bal4 0 [.slice pu2 lO.length cu2])] ∧ F' = [(6, ptr bal1), (7, ptr bal2), (70, .agg #[.slice pu2 lO.length cu2]), (74, .slice p6 hl.length c6), (81, .slice (some ⟨bB, 0, none⟩) 1 1), (85, .agg #[.int .i64 0, .int .i64 ((m + 1 : Nat) : Int), .int .i64 0, .slice none 0 0, .slice none 0 0])] ∧ OwL Lo (.slice p6 hl.length c6) 4 hl.length (oCs hl) ∧ Sep w00 (Lo ++ ((bB, .cells (oR (who, ((m + 1 : Nat) : Int), (cleanP o.p).1, o.w)).toArray 118 (0, 0)) :: (((bal4, .cells [.slice pu2 lO.length cu2].toArray 33 (0, 0)) :: (bal3, .cells [strV nmx, .bool false, dvx].toArray 88 (0, 0)) :: (bal2, .cells [.int .i64 0, .int .i64 0, .int .i64 0, .slice none 0 0, .slice none 0 0].toArray 59 (0, 0)) :: (bal1, .cells [.slice none 0 0, .slice none 0 0].toArray 36 (0, 0)) :: (bbx2, .cells (opC o dv).toArray 66 (0, 0)) :: (bbx1, .cells [.slice pu l.length cu, .slice ph hl.length chh].toArray 36 (0, 0)) :: X) ++ (L ++ L2)))) w') ?_ ?_ ?_
        ·have hOA := hO _ _ M (fun y hy => by simp [hy])
         refine x_apL (L := [_]) (cs := []) (nn := 0) rfl rfl rfl rfl Try.underlying34 sz118 ze118 rfl by118 rfl rfl (.inr ⟨bb0, 0, [], _, rfl, rfl, rfl, rfl⟩) M (by simp) (hOA.src Try.underlying34 (oCs_one _)) (by omega) (by decide) (by omega) ?_
         intro Lo v6 w6 how M
         rw [Nat.zero_add, List.nil_append] at how
         obtain ⟨p6, c6, rfl⟩ := how.shape
         refine ⟨⟨.inr (cell_of (M.get (b := bbx2) (o := (bbx2, .cells (opC o dv).toArray 66 (0, 0)).2) (by simp)) rfl), .inl (by kernel_rfl), .inr ⟨_, _, _, (M.get (b := bal4) (o := (bal4, .cells [.slice pu2 lO.length cu2].toArray 33 (0, 0)).2) (by simp)), rfl⟩, trivial⟩, ?_⟩
         refine x_bs1 (cs := (oR (who, ((m + 1 : Nat) : Int), (cleanP o.p).1, o.w))) rfl rfl rfl Try.underlying34 sz118 ze118 (Z := [_, _, _, _]) rfl rfl (by decide) (by decide) rfl rfl rfl ?_
         intro bB wbs2 hbbs2 hwbs2
         have M := M.acons hbbs2 hwbs2
         refine ⟨⟨.inl (by kernel_rfl), .inr (cell_of (M.get (b := bbx1) (o := (bbx1, .cells [.slice pu l.length cu, .slice ph hl.length chh].toArray 36 (0, 0)).2) (by simp)) rfl), .inr ⟨_, _, _, (M.get (b := bal4) (o := (bal4, .cells [.slice pu2 lO.length cu2].toArray 33 (0, 0)).2) (by simp)), rfl⟩, trivial⟩, ?_⟩
         refine Ex.forkS [(6, _), (7, _), (70, _), (74, _), (81, _), (85, _)] ⟨rfl, rfl, rfl, rfl, rfl, rfl, trivial⟩ ?_
         have M : Sep w00 ((bB, .cells (oR (who, ((m + 1 : Nat) : Int), (cleanP o.p).1, o.w)).toArray 118 (0, 0)) :: (Lo ++ (((bal4, .cells [.slice pu2 lO.length cu2].toArray 33 (0, 0)) :: (bal3, .cells [strV nmx, .bool false, dvx].toArray 88 (0, 0)) :: (bal2, .cells [.int .i64 0, .int .i64 0, .int .i64 0, .slice none 0 0, .slice none 0 0].toArray 59 (0, 0)) :: (bal1, .cells [.slice none 0 0, .slice none 0 0].toArray 36 (0, 0)) :: (bbx2, .cells (opC o dv).toArray 66 (0, 0)) :: (bbx1, .cells [.slice pu l.length cu, .slice ph hl.length chh].toArray 36 (0, 0)) :: X) ++ (L ++ L2)))) _ := M
         exact ⟨Lo, p6, c6, bB, _, _, rfl, rfl, how, M.perm (perm_c fun p => by simp only [List.countP_append, List.countP_cons]; omega)⟩
        ·refine x_bs1 (cs := (oR (who, ((m + 1 : Nat) : Int), (cleanP o.p).1, o.w))) rfl rfl rfl Try.underlying34 sz118 ze118 (Z := [_, _, _, _]) rfl rfl (by decide) (by decide) rfl rfl rfl ?_
         intro bB wbs3 hbbs3 hwbs3
         have M := M.acons hbbs3 hwbs3
         refine ⟨⟨.inl (by kernel_rfl), .inr (cell_of (M.get (b := bbx1) (o := (bbx1, .cells [.slice pu l.length cu, .slice ph hl.length chh].toArray 36 (0, 0)).2) (by simp)) rfl), .inr ⟨_, _, _, (M.get (b := bal4) (o := (bal4, .cells [.slice pu2 lO.length cu2].toArray 33 (0, 0)).2) (by simp)), rfl⟩, trivial⟩, ?_⟩
         have M := M.perm (List.Perm.swap _ _ _)
         have hOA := hO _ _ M (fun y hy => by simp [hy])
         refine x_apL (L := [_]) (cs := []) (nn := 0) rfl rfl rfl rfl Try.underlying34 sz118 ze118 rfl by118 rfl rfl (.inr ⟨bb0, 0, [], _, rfl, rfl, rfl, rfl⟩) M (by simp) (hOA.src Try.underlying34 (oCs_one _)) (by omega) (by decide) (by omega) ?_
         intro Lo v6 w6 how M
         rw [Nat.zero_add, List.nil_append] at how
         obtain ⟨p6, c6, rfl⟩ := how.shape
         refine ⟨⟨.inr (cell_of (M.get (b := bbx2) (o := (bbx2, .cells (opC o dv).toArray 66 (0, 0)).2) (by simp)) rfl), .inl (by kernel_rfl), .inr ⟨_, _, _, (M.get (b := bal4) (o := (bal4, .cells [.slice pu2 lO.length cu2].toArray 33 (0, 0)).2) (by simp)), rfl⟩, trivial⟩, ?_⟩
         refine Ex.forkS [(6, _), (7, _), (70, _), (74, _), (81, _), (85, _)] ⟨rfl, rfl, rfl, rfl, rfl, rfl, trivial⟩ ?_
         exact ⟨Lo, p6, c6, bB, _, _, rfl, rfl, how, M⟩
        rintro F1 T1 wf ⟨Lo, p6, c6, bB, R2, R3, rfl, rfl, how, M⟩
        refine ExT.leaf ?_
        have hsB : Sl wf (.slice (some ⟨bB, 0, none⟩) 1 1) 4 1 (oR (who, ((m + 1 : Nat) : Int), (cleanP o.p).1, o.w)) := .inr ⟨bB, 0, 1, _, _, _, rfl, Nat.le_refl _, M.get (b := bB) (o := .cells (oR (who, ((m + 1 : Nat) : Int), (cleanP o.p).1, o.w)).toArray 118 (0, 0)) (by simp), rfl, rfl⟩
        refine x_apL (L := Lo) (cs := oCs hl) rfl rfl rfl rfl Try.underlying34 sz118 ze118 rfl by118 rfl rfl how M (oCs_one _) (hsB.src Try.underlying34 (by intro u_ hu_; exact oCs_one [(who, ((m + 1 : Nat) : Int), (cleanP o.p).1, o.w)] u_ (by simpa [oCs] using hu_))) (by omega) (by decide) (by omega) ?_
        intro L3 v3 w3 ho3 M
        have ho3 : OwL L3 v3 4 (hl ++ [(who, ((m + 1 : Nat) : Int), (cleanP o.p).1, o.w)]).length (oCs (hl ++ [(who, ((m + 1 : Nat) : Int), (cleanP o.p).1, o.w)])) := by
         rw [List.length_append, oCs_app]
         exact ho3
        obtain ⟨p3, c3, rfl⟩ := ho3.shape
        have M : Sep w00 (((bal4, .cells [.slice pu2 lO.length cu2].toArray 33 (0, 0)) :: (bal3, .cells [strV nmx, .bool false, dvx].toArray 88 (0, 0)) :: (bal2, .cells [.int .i64 0, .int .i64 0, .int .i64 0, .slice none 0 0, .slice none 0 0].toArray 59 (0, 0)) :: (bal1, .cells [.slice none 0 0, .slice none 0 0].toArray 36 (0, 0)) :: (bbx2, .cells (opC o dv).toArray 66 (0, 0)) :: (bbx1, .cells [.slice pu l.length cu, .slice ph hl.length chh].toArray 36 (0, 0)) :: X) ++ (L ++ (L2 ++ (L3 ++ [(bB, .cells (oR (who, ((m + 1 : Nat) : Int), (cleanP o.p).1, o.w)).toArray 118 (0, 0))])))) w3 := M.perm (perm_c fun p => by simp only [List.countP_append, List.countP_cons, List.countP_nil]; omega)
        have hF3 := hF2.mono (L' := L ++ (L2 ++ (L3 ++ [(bB, .cells (oR (who, ((m + 1 : Nat) : Int), (cleanP o.p).1, o.w)).toArray 118 (0, 0))]))) (fun y hy => by simp only [List.mem_append] at hy ⊢; rcases hy with hy | hy <;> simp [hy])
        have hO3 : OpnK w00 (L ++ (L2 ++ (L3 ++ [(bB, .cells (oR (who, ((m + 1 : Nat) : Int), (cleanP o.p).1, o.w)).toArray 118 (0, 0))]))) (.slice p3 (hl ++ [(who, ((m + 1 : Nat) : Int), (cleanP o.p).1, o.w)]).length c3) (hl ++ [(who, ((m + 1 : Nat) : Int), (cleanP o.p).1, o.w)]) := SgK.own ho3 (by decide) (fun y hy => by simp [hy])
        refine ⟨⟨.inl (by kernel_rfl), .inl (by kernel_rfl), .inr ⟨_, _, _, (M.get (b := bal4) (o := (bal4, .cells [.slice pu2 lO.length cu2].toArray 33 (0, 0)).2) (by simp)), rfl⟩, trivial⟩, ?_⟩
        refine go 1 ?_
        refine x_st [_, _] _ rfl rfl rfl sz36 rfl rfl rfl rfl atM rfl rfl rfl ?_
        intro wst13 hwst13
        have M := by first | exact M.put 0 rfl hwst13 | exact M.put 1 rfl hwst13 | exact M.put 2 rfl hwst13 | exact M.put 3 rfl hwst13 | exact M.put 4 rfl hwst13 | exact M.put 5 rfl hwst13 | exact M.put 6 rfl hwst13 | exact M.put 7 rfl hwst13
        refine pnd ?_
        refine x_st [_, _, _, _, _] _ rfl rfl rfl sz59 rfl rfl rfl rfl atM rfl rfl rfl ?_
        intro wst14 hwst14
        have M := by first | exact M.put 0 rfl hwst14 | exact M.put 1 rfl hwst14 | exact M.put 2 rfl hwst14 | exact M.put 3 rfl hwst14 | exact M.put 4 rfl hwst14 | exact M.put 5 rfl hwst14 | exact M.put 6 rfl hwst14 | exact M.put 7 rfl hwst14
        refine pnd ?_
        refine go 0 ?_
        refine At.sub [(6, _), (7, _)] ⟨rfl, rfl, trivial⟩ ?_
        refine At.cut_n ?_
        exact ⟨_, _, _, rfl, hO3, hF3, M⟩
       ·refine x_bs1 (cs := (oR (who, ((m + 1 : Nat) : Int), (cleanP o.p).1, o.w))) rfl rfl rfl Try.underlying34 sz118 ze118 (Z := [_, _, _, _]) rfl rfl (by decide) (by decide) rfl rfl rfl ?_
        intro bB wbs4 hbbs4 hwbs4
        have M := M.acons hbbs4 hwbs4
        refine ⟨⟨.inl (by kernel_rfl), .inr (cell_of (M.get (b := bbx1) (o := (bbx1, .cells [.slice pu l.length cu, .slice ph hl.length chh].toArray 36 (0, 0)).2) (by simp)) rfl), .inr ⟨_, _, _, (M.get (b := bal4) (o := (bal4, .cells [.slice pu2 lO.length cu2].toArray 33 (0, 0)).2) (by simp)), rfl⟩, trivial⟩, ?_⟩
        refine Ex.fork ?_
        refine ExT.leaf ?_
        refine x_bs0 rfl rfl rfl Try.underlying34 sz118 ?_
        intro bb0 wbs5 hbbs5 hwbs5
        have M := M.acons hbbs5 hwbs5
        refine ⟨⟨.inr (cell_of (M.get (b := bbx2) (o := (bbx2, .cells (opC o dv).toArray 66 (0, 0)).2) (by simp)) rfl), .inr (cell_of (M.get (b := bbx1) (o := (bbx1, .cells [.slice pu l.length cu, .slice ph hl.length chh].toArray 36 (0, 0)).2) (by simp)) rfl), .inr ⟨_, _, _, (M.get (b := bal4) (o := (bal4, .cells [.slice pu2 lO.length cu2].toArray 33 (0, 0)).2) (by simp)), rfl⟩, trivial⟩, ?_⟩
        have hOA := hO _ _ M (fun y hy => by simp [hy])
        refine x_apL (L := [_]) (cs := []) (nn := 0) rfl rfl rfl rfl Try.underlying34 sz118 ze118 rfl by118 rfl rfl (.inr ⟨bb0, 0, [], _, rfl, rfl, rfl, rfl⟩) M (by simp) (hOA.src Try.underlying34 (oCs_one _)) (by omega) (by decide) (by omega) ?_
        intro Lo v6 w6 how M
        rw [Nat.zero_add, List.nil_append] at how
        obtain ⟨p6, c6, rfl⟩ := how.shape
        refine ⟨⟨.inr (cell_of (M.get (b := bbx2) (o := (bbx2, .cells (opC o dv).toArray 66 (0, 0)).2) (by simp)) rfl), .inl (by kernel_rfl), .inr ⟨_, _, _, (M.get (b := bal4) (o := (bal4, .cells [.slice pu2 lO.length cu2].toArray 33 (0, 0)).2) (by simp)), rfl⟩, trivial⟩, ?_⟩
        have hsB : Sl w6 (.slice (some ⟨bB, 0, none⟩) 1 1) 4 1 (oR (who, ((m + 1 : Nat) : Int), (cleanP o.p).1, o.w)) := .inr ⟨bB, 0, 1, _, _, _, rfl, Nat.le_refl _, M.get (b := bB) (o := .cells (oR (who, ((m + 1 : Nat) : Int), (cleanP o.p).1, o.w)).toArray 118 (0, 0)) (by simp), rfl, rfl⟩
        refine x_apL (L := Lo) (cs := oCs hl) rfl rfl rfl rfl Try.underlying34 sz118 ze118 rfl by118 rfl rfl how M (oCs_one _) (hsB.src Try.underlying34 (by intro u_ hu_; exact oCs_one [(who, ((m + 1 : Nat) : Int), (cleanP o.p).1, o.w)] u_ (by simpa [oCs] using hu_))) (by omega) (by decide) (by omega) ?_
        intro L3 v3 w3 ho3 M
        have ho3 : OwL L3 v3 4 (hl ++ [(who, ((m + 1 : Nat) : Int), (cleanP o.p).1, o.w)]).length (oCs (hl ++ [(who, ((m + 1 : Nat) : Int), (cleanP o.p).1, o.w)])) := by
         rw [List.length_append, oCs_app]
         exact ho3
        obtain ⟨p3, c3, rfl⟩ := ho3.shape
        have M : Sep w00 (((bal4, .cells [.slice pu2 lO.length cu2].toArray 33 (0, 0)) :: (bal3, .cells [strV nmx, .bool false, dvx].toArray 88 (0, 0)) :: (bal2, .cells [.int .i64 0, .int .i64 0, .int .i64 0, .slice none 0 0, .slice none 0 0].toArray 59 (0, 0)) :: (bal1, .cells [.slice none 0 0, .slice none 0 0].toArray 36 (0, 0)) :: (bbx2, .cells (opC o dv).toArray 66 (0, 0)) :: (bbx1, .cells [.slice pu l.length cu, .slice ph hl.length chh].toArray 36 (0, 0)) :: X) ++ (L ++ (L2 ++ (L3 ++ [(bB, .cells (oR (who, ((m + 1 : Nat) : Int), (cleanP o.p).1, o.w)).toArray 118 (0, 0))])))) w3 := M.perm (perm_c fun p => by simp only [List.countP_append, List.countP_cons, List.countP_nil]; omega)
        have hF3 := hF2.mono (L' := L ++ (L2 ++ (L3 ++ [(bB, .cells (oR (who, ((m + 1 : Nat) : Int), (cleanP o.p).1, o.w)).toArray 118 (0, 0))]))) (fun y hy => by simp only [List.mem_append] at hy ⊢; rcases hy with hy | hy <;> simp [hy])
        have hO3 : OpnK w00 (L ++ (L2 ++ (L3 ++ [(bB, .cells (oR (who, ((m + 1 : Nat) : Int), (cleanP o.p).1, o.w)).toArray 118 (0, 0))]))) (.slice p3 (hl ++ [(who, ((m + 1 : Nat) : Int), (cleanP o.p).1, o.w)]).length c3) (hl ++ [(who, ((m + 1 : Nat) : Int), (cleanP o.p).1, o.w)]) := SgK.own ho3 (by decide) (fun y hy => by simp [hy])
        refine ⟨⟨.inl (by kernel_rfl), .inl (by kernel_rfl), .inr ⟨_, _, _, (M.get (b := bal4) (o := (bal4, .cells [.slice pu2 lO.length cu2].toArray 33 (0, 0)).2) (by simp)), rfl⟩, trivial⟩, ?_⟩
        refine go 1 ?_
        refine x_st [_, _] _ rfl rfl rfl sz36 rfl rfl rfl rfl atM rfl rfl rfl ?_
        intro wst15 hwst15
        have M := by first | exact M.put 0 rfl hwst15 | exact M.put 1 rfl hwst15 | exact M.put 2 rfl hwst15 | exact M.put 3 rfl hwst15 | exact M.put 4 rfl hwst15 | exact M.put 5 rfl hwst15 | exact M.put 6 rfl hwst15 | exact M.put 7 rfl hwst15
        refine pnd ?_
        refine x_st [_, _, _, _, _] _ rfl rfl rfl sz59 rfl rfl rfl rfl atM rfl rfl rfl ?_
        intro wst16 hwst16
        have M := by first | exact M.put 0 rfl hwst16 | exact M.put 1 rfl hwst16 | exact M.put 2 rfl hwst16 | exact M.put 3 rfl hwst16 | exact M.put 4 rfl hwst16 | exact M.put 5 rfl hwst16 | exact M.put 6 rfl hwst16 | exact M.put 7 rfl hwst16
        refine pnd ?_
        refine go 0 ?_
        refine At.sub [(6, _), (7, _)] ⟨rfl, rfl, trivial⟩ ?_
        refine At.cut_n ?_
        exact ⟨_, _, _, rfl, hO3, hF3, M⟩
      rintro F1 wd ⟨ph', ch', L', rfl, hO', hF', M⟩
      refine go 1 ?_
      subst hmi
      obtain ⟨g1, g2, g3⟩ := hcas.ok hI hw hlow hco2
      rw [g1]
      exact ⟨_, _, _, _, hl ++ [_], L', _, rfl, ⟨none, 0, none, 0, rfl, nilS (by decide), nilS (by decide)⟩, hF', hO', g2, g3, by rw [List.length_append]; exact Nat.le_refl _, M.tail.tail.tail.tail.tail.tail⟩

end Go.Proofs.Ytebfjdolgchgaaa

namespace Go.Proofs.Ytebfjdolgchgaaa
open Go Go.Fw Go.RowKit Go.Proofs
set_option linter.unusedVariables false
set_option linter.unusedSimpArgs false
set_option maxRecDepth 100000
set_option maxHeartbeats 4000000

-- (valise/valiseref19.FS).Do
theorem fdo_c {w00 w0 : World} {X L : List (Nat × Obj)} {u hv : Value} {l : List Raw} {hl : List Opn} {who : Int} {o : OpS} {dv : Value} (M : Sep w00 (X ++ L) w0) (hF : FilesK w00 L u l) (hO : OpnK w00 L hv hl) (hI : RI l hl) (hlen : hl.length ≤ 1000) (hdv : BytesK w00 L dv o.d) (hod : o.d.length ≤ 131072) : Ret Try.prog 24 #[.agg #[u, hv], .int .i64 who, .agg (opC o dv).toArray] w0 (RfP w00 L X hl (doS l (hfL hl) who o)) := by
 obtain ⟨pu, cu, rfl⟩ := (hF.at_ M (fun y hy => mR hy)).shape
 obtain ⟨ph, chh, rfl⟩ := Sg.shape (hO _ _ M (fun y hy => mR hy))
 have hT := hI.tr
 have hll := hI.le
 have hus := hI.us
 obtain ⟨pdv, cdv, rfl⟩ := (hdv _ _ M (fun y hy => mR hy)).shape
 refine Ret.of_W Try.func24 rfl Try.ntmps24 rfl ?_
 refine go 1 ?_
 intro _ _ M
 refine go 1 ?_
 intro _ _ M
 refine go 1 ?_
 intro _ _ M
 refine go 1 ?_
 intro _ _ M
 refine spl 1 10 ?_ ?_
 ·intro hsp1
  refine go 0 ?_
  refine W.regD (by kernel_rfl) #[0, 0, 3, 7] [(0, false), (1, true), (2, true), (3, true)] (by kernel_rfl) ?_
  intro K wD1 hK hwD1
  have M := M.drew hwD1
  refine go 1 ?_
  refine x_call rfl rfl rfl rfl rfl en37 (rbad_c) ?_
  rintro r_ wcall1 ⟨rfl, hncall1⟩
  have M := M.new hncall1
  refine pnd ?_
  refine x_st [_, _] _ rfl rfl rfl sz36 rfl rfl rfl rfl atM rfl rfl rfl ?_
  intro wst1 hwst1
  have M := by first | exact M.put 0 rfl hwst1 | exact M.put 1 rfl hwst1 | exact M.put 2 rfl hwst1 | exact M.put 3 rfl hwst1 | exact M.put 4 rfl hwst1 | exact M.put 5 rfl hwst1 | exact M.put 6 rfl hwst1 | exact M.put 7 rfl hwst1
  refine pnd ?_
  refine x_st [_, _, _, _, _] _ rfl rfl rfl sz59 rfl rfl rfl rfl atM rfl rfl rfl ?_
  intro wst2 hwst2
  have M := by first | exact M.put 0 rfl hwst2 | exact M.put 1 rfl hwst2 | exact M.put 2 rfl hwst2 | exact M.put 3 rfl hwst2 | exact M.put 4 rfl hwst2 | exact M.put 5 rfl hwst2 | exact M.put 6 rfl hwst2 | exact M.put 7 rfl hwst2
  refine pnd ?_
  refine go 1 ?_
  exact RfP.bad (show doS l (hfL hl) who o = (badS 2, l, hfL hl) by unfold doS; rw [if_pos (.inl hsp1)]) hF hO hI M.tail.tail.tail.tail
 ·intro hsp1
  refine spl 1 14 ?_ ?_
  ·intro hsp2
   refine go 0 ?_
   refine W.regD (by kernel_rfl) #[0, 0, 3, 7] [(0, false), (1, true), (2, true), (3, true)] (by kernel_rfl) ?_
   intro K wD2 hK hwD2
   have M := M.drew hwD2
   refine go 1 ?_
   refine x_call rfl rfl rfl rfl rfl en37 (rbad_c) ?_
   rintro r_ wcall2 ⟨rfl, hncall2⟩
   have M := M.new hncall2
   refine pnd ?_
   refine x_st [_, _] _ rfl rfl rfl sz36 rfl rfl rfl rfl atM rfl rfl rfl ?_
   intro wst3 hwst3
   have M := by first | exact M.put 0 rfl hwst3 | exact M.put 1 rfl hwst3 | exact M.put 2 rfl hwst3 | exact M.put 3 rfl hwst3 | exact M.put 4 rfl hwst3 | exact M.put 5 rfl hwst3 | exact M.put 6 rfl hwst3 | exact M.put 7 rfl hwst3
   refine pnd ?_
   refine x_st [_, _, _, _, _] _ rfl rfl rfl sz59 rfl rfl rfl rfl atM rfl rfl rfl ?_
   intro wst4 hwst4
   have M := by first | exact M.put 0 rfl hwst4 | exact M.put 1 rfl hwst4 | exact M.put 2 rfl hwst4 | exact M.put 3 rfl hwst4 | exact M.put 4 rfl hwst4 | exact M.put 5 rfl hwst4 | exact M.put 6 rfl hwst4 | exact M.put 7 rfl hwst4
   refine pnd ?_
   refine go 1 ?_
   exact RfP.bad (show doS l (hfL hl) who o = (badS 2, l, hfL hl) by unfold doS; rw [if_pos (.inr (.inl (by omega)))]) hF hO hI M.tail.tail.tail.tail
  ·intro hsp2
   refine spl 2 19 ?_ ?_
   ·intro hsp3
    refine go 0 ?_
    refine W.regD (by kernel_rfl) #[0, 0, 3, 7] [(0, false), (1, true), (2, true), (3, true)] (by kernel_rfl) ?_
    intro K wD3 hK hwD3
    have M := M.drew hwD3
    refine go 1 ?_
    refine x_call rfl rfl rfl rfl rfl en37 (rbad_c) ?_
    rintro r_ wcall3 ⟨rfl, hncall3⟩
    have M := M.new hncall3
    refine pnd ?_
    refine x_st [_, _] _ rfl rfl rfl sz36 rfl rfl rfl rfl atM rfl rfl rfl ?_
    intro wst5 hwst5
    have M := by first | exact M.put 0 rfl hwst5 | exact M.put 1 rfl hwst5 | exact M.put 2 rfl hwst5 | exact M.put 3 rfl hwst5 | exact M.put 4 rfl hwst5 | exact M.put 5 rfl hwst5 | exact M.put 6 rfl hwst5 | exact M.put 7 rfl hwst5
    refine pnd ?_
    refine x_st [_, _, _, _, _] _ rfl rfl rfl sz59 rfl rfl rfl rfl atM rfl rfl rfl ?_
    intro wst6 hwst6
    have M := by first | exact M.put 0 rfl hwst6 | exact M.put 1 rfl hwst6 | exact M.put 2 rfl hwst6 | exact M.put 3 rfl hwst6 | exact M.put 4 rfl hwst6 | exact M.put 5 rfl hwst6 | exact M.put 6 rfl hwst6 | exact M.put 7 rfl hwst6
    refine pnd ?_
    refine go 1 ?_
    exact RfP.bad (show doS l (hfL hl) who o = (badS 2, l, hfL hl) by unfold doS; rw [if_pos (.inr (.inr (.inl (by omega))))]) hF hO hI M.tail.tail.tail.tail
   ·intro hsp3
    refine cnd 2 ?_ ?_
    ·intro hco4
     refine go 0 ?_
     refine W.regD (by kernel_rfl) #[0, 0, 3, 7] [(0, false), (1, true), (2, true), (3, true)] (by kernel_rfl) ?_
     intro K wD4 hK hwD4
     have M := M.drew hwD4
     refine go 1 ?_
     refine x_call rfl rfl rfl rfl rfl en37 (rbad_c) ?_
     rintro r_ wcall4 ⟨rfl, hncall4⟩
     have M := M.new hncall4
     refine pnd ?_
     refine x_st [_, _] _ rfl rfl rfl sz36 rfl rfl rfl rfl atM rfl rfl rfl ?_
     intro wst7 hwst7
     have M := by first | exact M.put 0 rfl hwst7 | exact M.put 1 rfl hwst7 | exact M.put 2 rfl hwst7 | exact M.put 3 rfl hwst7 | exact M.put 4 rfl hwst7 | exact M.put 5 rfl hwst7 | exact M.put 6 rfl hwst7 | exact M.put 7 rfl hwst7
     refine pnd ?_
     refine x_st [_, _, _, _, _] _ rfl rfl rfl sz59 rfl rfl rfl rfl atM rfl rfl rfl ?_
     intro wst8 hwst8
     have M := by first | exact M.put 0 rfl hwst8 | exact M.put 1 rfl hwst8 | exact M.put 2 rfl hwst8 | exact M.put 3 rfl hwst8 | exact M.put 4 rfl hwst8 | exact M.put 5 rfl hwst8 | exact M.put 6 rfl hwst8 | exact M.put 7 rfl hwst8
     refine pnd ?_
     refine go 1 ?_
     exact RfP.bad (show doS l (hfL hl) who o = (badS 2, l, hfL hl) by unfold doS; rw [if_pos (.inr (.inr (.inr (by omega))))]) hF hO hI M.tail.tail.tail.tail
    ·intro hco4
     have hn : ¬ (who < 0 ∨ 8 ≤ who ∨ o.k < 1 ∨ 9 < o.k) := by omega
     refine cnd 2 ?_ ?_
     ·intro hco5
      have hS : doS l (hfL hl) who o = openS l (hfL hl) who o := by unfold doS; rw [if_neg hn, if_pos hco5]
      refine go 2 ?_
      refine x_call rfl rfl rfl rfl rfl en38 (fopen_c (X := _ :: _ :: _ :: _ :: X) M hF hO hI hlen rfl (by omega)) ?_
      rintro r_ w5 ⟨pu', cu', ph', ch', hl', L', rv, rfl, hr, hF', hO', hI', hh', hlen', M⟩
      obtain ⟨q1, k1, q2, k2, rfl, hr4, hr5⟩ := hr
      refine ⟨trivial, ?_⟩
      refine go 1 ?_
      intro _ M
      refine go 1 ?_
      intro _ M
      refine go 1 ?_
      rw [hS]
      exact ⟨_, _, _, _, hl', L', _, rfl, ⟨q1, k1, q2, k2, rfl, hr4, hr5⟩, hF', hO', hI', hh', hlen', M.tail.tail.tail.tail⟩
     ·intro hco5
      refine cnd 2 ?_ ?_
      ·intro hco6
       have hS : doS l (hfL hl) who o = handleS l (hfL hl) who o := by unfold doS; rw [if_neg hn, if_neg hco5, if_pos hco6]
       refine go 2 ?_
       refine x_call rfl rfl rfl rfl rfl en39 (fhandle_c (X := _ :: _ :: _ :: _ :: X) M hF hO hI hlen hdv hod) ?_
       rintro r_ w6 ⟨pu', cu', ph', ch', hl', L', rv, rfl, hr, hF', hO', hI', hh', hlen', M⟩
       obtain ⟨q1, k1, q2, k2, rfl, hr4, hr5⟩ := hr
       refine ⟨trivial, ?_⟩
       refine go 1 ?_
       intro _ M
       refine go 1 ?_
       intro _ M
       refine go 1 ?_
       rw [hS]
       exact ⟨_, _, _, _, hl', L', _, rfl, ⟨q1, k1, q2, k2, rfl, hr4, hr5⟩, hF', hO', hI', hh', hlen', M.tail.tail.tail.tail⟩
      ·intro hco6
       have hS : doS l (hfL hl) who o = (if (cleanP o.p).2 = 0 then namedS l (hfL hl) (cleanP o.p).1 o else (badS (cleanP o.p).2, l, hfL hl)) := by unfold doS; rw [if_neg hn, if_neg hco5, if_neg (by omega)]
       refine go 2 ?_
       refine x_call rfl rfl rfl rfl rfl en40 (fnamed_c (X := _ :: _ :: _ :: _ :: X) M hF hO hI hlen rfl) ?_
       rintro r_ w7 ⟨pu', cu', ph', ch', hl', L', rv, rfl, hr, hF', hO', hI', hh', hlen', M⟩
       obtain ⟨q1, k1, q2, k2, rfl, hr4, hr5⟩ := hr
       refine ⟨trivial, ?_⟩
       refine go 1 ?_
       intro _ M
       refine go 1 ?_
       intro _ M
       refine go 1 ?_
       rw [hS]
       exact ⟨_, _, _, _, hl', L', _, rfl, ⟨q1, k1, q2, k2, rfl, hr4, hr5⟩, hF', hO', hI', hh', hlen', M.tail.tail.tail.tail⟩

end Go.Proofs.Ytebfjdolgchgaaa

namespace Go.Proofs.Ytebfjdolgchgaaa
open Go Go.Fw Go.RowKit
set_option linter.unusedVariables false
set_option linter.unusedSimpArgs false

section
variable {l : List Raw}
theorem TreeL.of_bare (h : TreeL (bareL l)) (hd : ∀ x ∈ l, x.2.2.length ≤ 65536 ∧ (x.2.1 = true → x.2.2 = [])) : TreeL l := by
 have hn : (l.map (·.1)).Nodup := by have := h.names; rwa [bare_names'] at this
 obtain ⟨g, hG, hR⟩ := h
 let g' : Gf := fun q => match g q with | some (false, _) => some (false, (fileD l (joinS q)).getD []) | v => v
 have ht : ∀ q b, g q = some (true, b) → g' q = some (true, b) := fun q b h => by show (match g q with | some (false, _) => _ | v => v) = _; rw [h]
 have hf : ∀ q b, g q = some (false, b) → g' q = some (false, (fileD l (joinS q)).getD []) := fun q b h => by show (match g q with | some (false, _) => _ | v => v) = _; rw [h]
 have hz : ∀ q, g q = none → g' q = none := fun q h => by show (match g q with | some (false, _) => _ | v => v) = _; rw [h]
 have hfd : ∀ p, ((fileD l p).getD []).length ≤ 65536 := fun p => by
  cases hq : fileD l p with
  | none => simp
  | some d =>
   unfold fileD at hq
   cases hx : l.find? (fun x => decide (x.1 = p)) with
   | none => rw [hx] at hq; cases hq
   | some x =>
    rw [hx] at hq
    simp only at hq
    split at hq
    ·cases hq
    ·cases hq
     exact (hd x (List.mem_of_find?_eq_some hx)).1
 refine ⟨g', ⟨ht _ _ hG.root, fun q n v hv => ?_, fun q v hv => ?_⟩, ⟨?_, fun x => ⟨fun hx => ?_, ?_⟩⟩⟩
 ·cases hq : g (q ++ [n]) with
  | none => rw [hz _ hq] at hv; cases hv
  | some u =>
   obtain ⟨b, hb⟩ := hG.par q n u hq
   exact ⟨b, ht _ _ hb⟩
 ·cases hq : g q with
  | none => rw [hz _ hq] at hv; cases hv
  | some u =>
   obtain ⟨a, b⟩ := u
   obtain ⟨h1, h2, h3⟩ := hG.ok q _ hq
   cases a with
   | true => rw [ht _ _ hq] at hv; cases hv; exact ⟨h1, h2, h3⟩
   | false => rw [hf _ _ hq] at hv; cases hv; exact ⟨h1, hfd _, fun h => by cases h⟩
 ·have := hR.srt
  unfold bareL at this
  rw [List.pairwise_map] at this
  exact this
 ·obtain ⟨N, h1, h2, h3⟩ := (hR.mem (bareR x)).1 (List.mem_map.2 ⟨x, hx, rfl⟩)
  refine ⟨N, h1, h2, ?_⟩
  obtain ⟨a, b, d⟩ := x
  cases b with
  | true =>
   have : d = [] := (hd _ hx).2 rfl
   subst this
   exact ht _ _ h3
  | false =>
   rw [hf _ _ h3, ← show a = joinS N from h2, fileD_of hn hx]; rfl
 ·rintro ⟨N, h1, h2, h3⟩
  cases hq : g N with
  | none => rw [hz _ hq] at h3; cases h3
  | some u =>
   obtain ⟨a, b⟩ := u
   have hm : ((joinS N, a, b) : Raw) ∈ bareL l := (hR.mem _).2 ⟨N, h1, rfl, hq⟩
   obtain ⟨y, hy, hy2⟩ := List.mem_map.1 hm
   obtain ⟨y1, y2, y3⟩ := y
   simp only [bareR, Prod.mk.injEq] at hy2
   obtain ⟨rfl, rfl, rfl⟩ := hy2
   obtain ⟨x1, x2⟩ := x
   simp only at h2 h3
   subst h2
   cases y2 with
   | true =>
    rw [ht _ _ hq] at h3
    cases h3
    have : y3 = [] := (hd _ hy).2 rfl
    subst this
    exact hy
   | false =>
    rw [hf _ _ hq, fileD_of hn hy] at h3
    cases h3
    exact hy
theorem OvW.tree {w00 w : World} {X : List (Nat × Obj)} {I : OvI} {hf : HF} (M : OvW w00 X I l hf w) : TreeL l := by
 obtain ⟨S, _, h1, _, _⟩ := M
 refine TreeL.of_bare ⟨_, h1.tr.ti.gi, h1.tr.rel⟩ fun x hx => ⟨?_, h1.dd x hx⟩
 obtain ⟨a, b, d⟩ := x
 cases b with
 | true => rw [show d = [] from h1.dd _ hx rfl]; simp
 | false => exact (h1.le hx).1
end
def bRow (x : Raw) : Raw × Value := (bareR x, .slice none 0 0)
theorem fCs_snocB {l : List Raw} {j : Nat} {x : Raw} (hx : l[j]? = some x) : fCs ((l.take (j + 1)).map bRow) = fCs ((l.take j).map bRow) ++ [strV x.1, .bool x.2.1, .slice none 0 0] := by
 rw [take_snoc hx, List.map_append, fCs_app]; rfl
theorem bare_atB {w : World} {v : Value} {l : List Raw} (h : Sl w v 3 l.length (fCs (l.map bRow))) : FilesAt w v (bareL l) :=
 ⟨l.map bRow, by rw [List.map_map]; rfl, by rw [List.length_map]; exact .inr h, fun f hf => by
  obtain ⟨m, _, rfl⟩ := List.mem_map.1 hf
  exact ⟨.inr (.inl ⟨rfl, rfl, rfl⟩), rfl⟩⟩
section
variable {l : List Raw}
theorem okd_any (hd : OKd l) : l.any (fun x => decide (65536 < x.2.2.length)) = false := by
 rw [List.any_eq_false]
 intro x hx
 have := (hd x hx).1
 rw [decide_eq_true_eq]; omega
end
end Go.Proofs.Ytebfjdolgchgaaa

namespace Go.Proofs.Ytebfjdolgchgaaa
open Go Go.Fw Go.RowKit
set_option linter.unusedVariables false
set_option linter.unusedSimpArgs false
theorem FilesK.row2 {w00 : World} {L : List (Nat × Obj)} {v : Value} {l : List Raw} {j : Nat} {x : Raw} (h : FilesK w00 L v l) (hx : l[j]? = some x) {w : World} {M : List (Nat × Obj)} (hM : Sep w00 M w) (hs : ∀ y ∈ L, y ∈ M) :
  ∃ dv px cx, dv = .slice px x.2.2.length cx ∧ BytesK w00 L dv x.2.2 ∧ ∀ {w : World} {M : List (Nat × Obj)}, Sep w00 M w → (∀ y ∈ L, y ∈ M) → ∀ {b off len cap : Nat}, v = .slice (some ⟨b, off, none⟩) len cap → RowAt w b (off + j * 3) [strV x.1, .bool x.2.1, dv] := by
 obtain ⟨fs, h1, h2, h3⟩ := h
 have hj : j < l.length := (List.getElem?_eq_some_iff.1 hx).1
 have hlen : fs.length = l.length := by rw [← h1]; simp
 obtain ⟨f, hf⟩ := get_lt (l := fs) (q := j) (by omega)
 have hfx : f.1 = x := by
  have : (fs.map (·.1))[j]? = some f.1 := by rw [List.getElem?_map, hf]; rfl
  rw [h1, hx] at this
  exact (Option.some.inj this).symm
 obtain ⟨h4, _⟩ := h3 f (List.mem_of_getElem? hf)
 obtain ⟨px, cx, h5⟩ := (h4 _ _ hM hs).shape
 refine ⟨f.2, px, cx, by rw [h5, hfx], by rw [← hfx]; exact h4, fun {w} {M} hM hs {b off len cap} hv => ?_⟩
 subst hv
 have h6 := h2 _ _ hM hs
 obtain ⟨b', off', e, _⟩ := Sg.blk (j := j) h6 (by omega)
 cases e
 have := (Sg.sl h6 (by omega)).row (j := j) (l := [strV f.1.1, .bool f.1.2.1, f.2]) (by obtain ⟨p, c, e⟩ := h6.shape; cases e; rfl) (fCs_row hf) (by simp)
 rw [hfx] at this
 exact this
theorem SgK.litB {w00 : World} {L : List (Nat × Obj)} {b n : Nat} {cs : List Value} {T : TypeId} {fr : Nat × Nat} (hm : (b, Obj.cells cs.toArray T fr) ∈ L) (hn : cs.length = n) : SgK w00 L (.slice (some ⟨b, 0, none⟩) n n) 1 n cs :=
 SgK.slL (.inr ⟨b, 0, n, _, T, fr, rfl, Nat.le_refl _, hm, by simp [← hn], by omega⟩) (fun _ h => h)
theorem perm_in2 {a b : Nat × Obj} {L X : List (Nat × Obj)} : (a :: b :: (L ++ X)).Perm (L ++ (a :: b :: X)) := perm_c fun p => by simp only [List.countP_append, List.countP_cons]; omega
end Go.Proofs.Ytebfjdolgchgaaa

namespace Go.Proofs.Ytebfjdolgchgaaa
open Go Go.Fw Go.RowKit Go.Proofs
set_option linter.unusedVariables false
set_option linter.unusedSimpArgs false
set_option maxRecDepth 100000
set_option maxHeartbeats 4000000

-- valise/valiseref16.Of
theorem rofK_c {w00 w0 : World} {X Lf : List (Nat × Obj)} {v : Value} {l : List Raw} (M : Sep w00 (Lf ++ X) w0) (h : FilesK w00 Lf v l) (hl : l.length ≤ 200) : Ret Try.prog 46 #[v] w0 fun r w' => ∃ u Lr, r = .tuple #[.agg #[u], .int .i64 (ofL l).2] ∧ FilesK w00 Lr u (ofL l).1 ∧ Sep w00 (Lr ++ X) w' := by
 obtain ⟨pv, cv, rfl⟩ := (h.at_ M (fun y hy => List.mem_append_left _ hy)).shape
 refine Ret.of_W Try.func46 rfl Try.ntmps46 rfl ?_
 refine go 1 ?_
 intro bal1 _ M
 refine go 2 ?_
 intro bal2 _ M
 refine go 1 ?_
 intro _ M
 refine go 0 ?_
 refine W.loop (σ := Nat) (fun j => [(0, _), (2, _), (4, _), (5, .int .i64 ((j : Nat) : Int))]) (fun j w => j ≤ l.length ∧ (∀ x ∈ l.take j, singleR x = 0) ∧ Sep w00 ([(bal2, .cells [.slice none 0 0].toArray 33 (0, 0)), (bal1, .cells [.slice none 0 0].toArray 33 (0, 0))] ++ (Lf ++ X)) w) (fun j => l.length - j) 0 ⟨rfl, rfl, rfl, rfl, trivial⟩ ⟨Nat.zero_le _, by simp, M⟩ ?_
 rintro j w ⟨hj, hok, M⟩
 refine cnd 2 ?_ ?_
 ·intro hco1
  obtain ⟨x, hx⟩ := get_lt (l := l) (q := j) (by omega)
  obtain ⟨bb, off, rfl, _⟩ := (h.at_ M (fun y hy => List.mem_append_right _ (List.mem_append_left _ hy))).blk (j := j) (by omega)
  obtain ⟨pd, cd, hrow, _⟩ := (h.at_ M (fun y hy => List.mem_append_right _ (List.mem_append_left _ hy))).row hx
  refine go 0 ?_
  refine x_ia j rfl rfl rfl Try.underlying31 sz88 rfl rfl rfl (by omega) ?_
  refine go 0 ?_
  refine x_ld rfl rfl rfl Try.underlying9 rfl rfl (RowAt.cell hrow (j := 0) rfl) ?_
  refine x_call rfl rfl rfl rfl rfl en69 (rsplit_c) ?_
  rintro r_ w1 ⟨v1, L1, rfl, M1, hs1⟩
  have M := M.grow M1
  have hrow := RowAt.new hrow M1.frm
  obtain ⟨p1, c1, rfl, hcap1⟩ := hs1.shape2 (by decide)
  refine ⟨trivial, ?_⟩
  refine spl 1 33 ?_ ?_
  ·intro hsp1
   refine go 2 ?_
   intro _ M
   refine go 1 ?_
   have hR := ofL_at hx hok (show singleR x = 8 by unfold singleR; rw [if_neg (fun e => hsp1 e.1)]) (by decide)
   rw [hR]; exact ⟨_, Lf, rfl, nilK.mono (by simp), St.dropL (L' := [_, _]) M.dropR⟩
  ·intro hsp1
   refine cnd 2 ?_ ?_
   ·intro hco3
    refine go 2 ?_
    intro _ M
    refine go 1 ?_
    have hR := ofL_at hx hok (show singleR x = 8 by unfold singleR; rw [if_neg (fun e => e.2 (List.length_eq_zero_iff.1 (by omega)))]) (by decide)
    rw [hR]; exact ⟨_, Lf, rfl, nilK.mono (by simp), St.dropL (L' := [_, _]) M.dropR⟩
   ·intro hco3
    have hn0 : splitN x.1 ≠ [] := fun e => hco3 (by rw [e]; rfl)
    refine go 0 ?_
    refine x_ia j rfl rfl rfl Try.underlying31 sz88 rfl rfl rfl (by omega) ?_
    refine go 0 ?_
    refine x_ld rfl rfl rfl Try.underlying4 rfl rfl (RowAt.cell hrow (j := 1) rfl) ?_
    refine spl 0 44 ?_ ?_
    ·intro hsp2
     refine go 0 ?_
     refine x_ia j rfl rfl rfl Try.underlying31 sz88 rfl rfl rfl (by omega) ?_
     refine go 0 ?_
     refine x_ld rfl rfl rfl Try.underlying56 rfl rfl (RowAt.cell hrow (j := 2) rfl) ?_
     refine cnd 2 ?_ ?_
     ·intro hco4
      refine go 2 ?_
      intro _ M
      refine go 1 ?_
      have hR := ofL_at hx hok (show singleR x = 16 by unfold singleR; rw [if_pos ⟨hsp1, hn0⟩, if_pos ⟨hsp2, fun e => by rw [e] at hco4; simp at hco4⟩]) (by decide)
      rw [hR]; exact ⟨_, Lf, rfl, nilK.mono (by simp), St.dropL (L' := [_, _]) M.dropR⟩
     ·intro hco4
      have hd0 : x.2.2 = [] := List.length_eq_zero_iff.1 (by omega)
      refine go 0 ?_
      refine x_ia j rfl rfl rfl Try.underlying31 sz88 rfl rfl rfl (by omega) ?_
      refine go 0 ?_
      refine x_ld rfl rfl rfl Try.underlying56 rfl rfl (RowAt.cell hrow (j := 2) rfl) ?_
      refine cnd 2 ?_ ?_
      ·intro hco5
       refine go 2 ?_
       intro _ M
       refine go 1 ?_
       have hR := ofL_at hx hok (show singleR x = 3 by unfold singleR; rw [if_pos ⟨hsp1, hn0⟩, if_neg (fun e => e.2 hd0), if_pos (by omega)]) (by decide)
       rw [hR]; exact ⟨_, Lf, rfl, nilK.mono (by simp), St.dropL (L' := [_, _]) M.dropR⟩
      ·intro hco5
       have hsg : singleR x = 0 := by unfold singleR; rw [if_pos ⟨hsp1, hn0⟩, if_neg (fun e => e.2 hd0), if_neg (by omega)]
       refine go 0 ?_
       refine x_add _ rfl rfl rfl rfl rfl (wadd (by omega) (by omega)) ?_
       refine go 0 ?_
       exact At.back (j + 1) ⟨rfl, rfl, rfl, rfl, trivial⟩ ⟨by omega, fun z hz => by
        rw [take_mem hx] at hz
        rcases List.mem_append.1 hz with hz | hz
        ·exact hok z hz
        ·rw [List.mem_singleton.1 hz]; exact hsg, M.dropR⟩ (by first | omega | (simp only; omega) | (simp; done) | (simp; omega))
    ·intro hsp2
     refine go 0 ?_
     refine x_ia j rfl rfl rfl Try.underlying31 sz88 rfl rfl rfl (by omega) ?_
     refine go 0 ?_
     refine x_ld rfl rfl rfl Try.underlying56 rfl rfl (RowAt.cell hrow (j := 2) rfl) ?_
     refine cnd 2 ?_ ?_
     ·intro hco7
      refine go 2 ?_
      intro _ M
      refine go 1 ?_
      have hR := ofL_at hx hok (show singleR x = 3 by unfold singleR; rw [if_pos ⟨hsp1, hn0⟩, if_neg (fun e => by have := e.1; rw [hsp2] at this; cases this), if_pos (by omega)]) (by decide)
      rw [hR]; exact ⟨_, Lf, rfl, nilK.mono (by simp), St.dropL (L' := [_, _]) M.dropR⟩
     ·intro hco7
      have hsg : singleR x = 0 := by unfold singleR; rw [if_pos ⟨hsp1, hn0⟩, if_neg (fun e => by have := e.1; rw [hsp2] at this; cases this), if_neg (by omega)]
      refine go 0 ?_
      refine x_add _ rfl rfl rfl rfl rfl (wadd (by omega) (by omega)) ?_
      refine go 0 ?_
      exact At.back (j + 1) ⟨rfl, rfl, rfl, rfl, trivial⟩ ⟨by omega, fun z hz => by
       rw [take_mem hx] at hz
       rcases List.mem_append.1 hz with hz | hz
       ·exact hok z hz
       ·rw [List.mem_singleton.1 hz]; exact hsg, M.dropR⟩ (by first | omega | (simp only; omega) | (simp; done) | (simp; omega))
 ·intro hco1
  have hj2 : j = l.length := by omega
  subst hj2
  rw [List.take_length] at hok
  have hf := firstR_ok hok
  have hnm : ∀ y ∈ l, y.1.length ≤ 2000 := fun y hy => by have := splitE_len (single_ok (hok y hy)).1; omega
  have M : Sep w00 ([(bal2, .cells [.slice none 0 0].toArray 33 (0, 0)), (bal1, .cells [.slice none 0 0].toArray 33 (0, 0))] ++ (Lf ++ X)) w := M
  refine go 0 ?_
  refine W.loop (σ := Nat × Value × List (Nat × Obj)) (fun q => [(0, _), (2, _), (4, _), (8, .int .i64 ((q.1 : Nat) : Int))]) (fun q w => q.1 ≤ l.length ∧ ((l.take q.1).map (·.1)).Nodup ∧ (∀ y ∈ Lf, y ∈ q.2.2) ∧ FilesK w00 q.2.2 q.2.1 ((l.take q.1).foldl withR []) ∧ Sep w00 ([(bal2, .cells [q.2.1].toArray 33 (0, 0)), (bal1, .cells [.slice none 0 0].toArray 33 (0, 0))] ++ (q.2.2 ++ X)) w) (fun q => l.length - q.1) (0, .slice none 0 0, Lf) ⟨rfl, rfl, rfl, rfl, trivial⟩ ⟨Nat.zero_le _, by simp, fun y hy => hy, nilK.mono (by simp), M⟩ ?_
  rintro ⟨i, u, L2⟩ w ⟨hi, hnd, hLf, hu, M⟩
  simp only at hi hnd hLf hu M
  obtain ⟨pu, cu, rfl⟩ := (hu.at_ M (fun y hy => List.mem_append_right _ (List.mem_append_left _ hy))).shape
  have hflen : ((l.take i).foldl withR []).length = i := by rw [fold_len, List.length_take]; omega
  refine cnd 2 ?_ ?_
  ·intro hco8
   obtain ⟨x, hx⟩ := get_lt (l := l) (q := i) (by omega)
   obtain ⟨bb, off, rfl, _⟩ := (h.at_ M (fun y hy => List.mem_append_right _ (List.mem_append_left _ (hLf y hy)))).blk (j := i) (by omega)
   obtain ⟨_, pd, cd, rfl, hbd, hrowF⟩ := h.row2 hx M (fun y hy => List.mem_append_right _ (List.mem_append_left _ (hLf y hy)))
   refine go 0 ?_
   refine W.regD (by kernel_rfl) #[0, 0, 0, 6, 14, 30, 63, 127] [(0, false), (1, false), (2, false), (3, false), (4, false), (5, false), (6, true), (7, false)] (by kernel_rfl) ?_
   intro K wD1 hK hwD1
   have M := M.drew hwD1
   have hrow := hrowF M (fun y hy => List.mem_append_right _ (List.mem_append_left _ (hLf y hy))) rfl
   refine go 1 ?_
   refine x_ia i rfl rfl rfl Try.underlying31 sz88 rfl rfl rfl (by omega) ?_
   refine go 0 ?_
   refine x_ld rfl rfl rfl Try.underlying9 rfl rfl (RowAt.cell hrow (j := 0) rfl) ?_
   refine x_call rfl rfl rfl rfl rfl en70 (at_c (hu.at_ M (fun y hy => List.mem_append_right _ (List.mem_append_left _ hy))) (by omega)) ?_
   rintro r_ w2 ⟨rfl, hn2⟩
   have M := M.new hn2
   have hac := atR_cases ((l.take i).foldl withR []) x.1
   refine pnd ?_
   refine cnd 1 ?_ ?_
   ·intro hco9
    refine go 2 ?_
    intro _ M
    refine go 1 ?_
    have hdup : ¬ (l.map (·.1)).Nodup := by
     rcases hac with ⟨k, y, a1, a2, _⟩ | ⟨_, a2⟩
     ·exact dup_step hx ⟨y, fold_mem.1 (List.mem_of_getElem? a1), a2⟩
     ·omega
    have hR := ofL_2 hf hdup
    rw [hR]; exact ⟨_, [], rfl, nilK, St.dropL (St.dropL (L' := [_, _]) M)⟩
   ·intro hco9
    have hno : ∀ y ∈ l.take i, y.1 ≠ x.1 := by
     rcases hac with ⟨k, y, a1, a2, a3, _⟩ | ⟨a1, _⟩
     ·omega
     ·exact fun y hy => a1 y (fold_mem.2 hy)
    refine go 0 ?_
    refine W.regD (by kernel_rfl) #[0, 0, 0, 6, 14, 31, 63] [(0, false), (1, false), (2, false), (3, false), (4, false), (5, true), (6, true)] (by kernel_rfl) ?_
    intro K wD2 hK hwD2
    have M := M.drew hwD2
    have hrow := hrowF M (fun y hy => List.mem_append_right _ (List.mem_append_left _ (hLf y hy))) rfl
    refine go 1 ?_
    refine x_ia i rfl rfl rfl Try.underlying31 sz88 rfl rfl rfl (by omega) ?_
    refine x_ldA [_, _, _] rfl rfl rfl Try.underlying88 rfl sz88 rfl rfl hrow ?_
    refine x_call rfl rfl rfl rfl rfl en71 (with_c (x := x) (St.inn2 (F := [_, _]) M) hu (hbd.mono hLf) (by omega) (fun y hy => hnm y (List.mem_of_mem_take (fold_mem.1 hy))) (hnm x (List.mem_of_getElem? hx))) ?_
    rintro r_ w3 ⟨u2, L3, rfl, hu2, M⟩
    have M := M.out2 [_, _]
    obtain ⟨pu2, cu2, rfl⟩ := (hu2.at_ M (fun y hy => List.mem_append_right _ (List.mem_append_left _ hy))).shape
    refine pnd ?_
    refine x_st [_] _ rfl rfl rfl sz33 rfl rfl rfl rfl atM rfl rfl rfl ?_
    intro wst8 hwst8
    have M := by first | exact M.put 0 rfl hwst8 | exact M.put 1 rfl hwst8 | exact M.put 2 rfl hwst8 | exact M.put 3 rfl hwst8 | exact M.put 4 rfl hwst8 | exact M.put 5 rfl hwst8 | exact M.put 6 rfl hwst8 | exact M.put 7 rfl hwst8
    refine pnd ?_
    refine go 0 ?_
    refine x_add _ rfl rfl rfl rfl rfl (wadd (by omega) (by omega)) ?_
    refine go 0 ?_
    exact At.back ((i + 1, _, L2 ++ L3)) ⟨rfl, rfl, rfl, rfl, trivial⟩ ⟨by omega, nodup_step hnd hx hno, fun y hy => List.mem_append_left _ (hLf y hy), by simp only; rw [take_mem hx, List.foldl_append]; exact hu2, M⟩ (by first | omega | (simp only; omega) | (simp; done) | (simp; omega))
  ·intro hco8
   have hi2 : i = l.length := by omega
   subst hi2
   rw [List.take_length] at hnd hu M hflen
   refine go 0 ?_
   refine W.loop (σ := Nat) (fun a => [(0, _), (2, _), (4, _), (9, .int .i64 ((a : Nat) : Int))]) (fun a w => a ≤ l.length ∧ (∀ i < a, ∀ k, ¬ BadAt l i k) ∧ Sep w00 ([(bal2, .cells [.slice pu (l.foldl withR []).length cu].toArray 33 (0, 0)), (bal1, .cells [.slice none 0 0].toArray 33 (0, 0))] ++ (L2 ++ X)) w) (fun a => l.length - a) 0 ⟨rfl, rfl, rfl, rfl, trivial⟩ ⟨Nat.zero_le _, fun i hi => by omega, M⟩ ?_
   rintro a w ⟨ha, hnb, M⟩
   refine cnd 2 ?_ ?_
   ·intro hco10
    obtain ⟨x, hx⟩ := get_lt (l := l) (q := a) (by omega)
    obtain ⟨bb, off, rfl, _⟩ := (h.at_ M (fun y hy => List.mem_append_right _ (List.mem_append_left _ (hLf y hy)))).blk (j := a) (by omega)
    obtain ⟨_, px, cx, rfl, _, hrxF⟩ := h.row2 hx M (fun y hy => List.mem_append_right _ (List.mem_append_left _ (hLf y hy)))
    refine go 0 ?_
    refine W.loop (σ := Nat) (fun b => [(0, _), (2, _), (4, _), (9, _), (10, .int .i64 ((b : Nat) : Int))]) (fun b w => b ≤ l.length ∧ (∀ k < b, ¬ BadAt l a k) ∧ Sep w00 ([(bal2, .cells [.slice pu (l.foldl withR []).length cu].toArray 33 (0, 0)), (bal1, .cells [.slice none 0 0].toArray 33 (0, 0))] ++ (L2 ++ X)) w) (fun b => l.length - b) 0 ⟨rfl, rfl, rfl, rfl, rfl, trivial⟩ ⟨Nat.zero_le _, fun i hi => by omega, M⟩ ?_
    rintro b w ⟨hb, hnk, M⟩
    refine cnd 2 ?_ ?_
    ·intro hco11
     obtain ⟨y, hy⟩ := get_lt (l := l) (q := b) (by omega)
     obtain ⟨_, py, cy, rfl, _, hryF⟩ := h.row2 hy M (fun y hy => List.mem_append_right _ (List.mem_append_left _ (hLf y hy)))
     refine go 0 ?_
     refine W.regD (by kernel_rfl) #[0, 0, 3, 7, 15, 15, 63, 127, 255, 511, 1023, 2047, 4095, 4095, 16383, 32767, 65535, 4095, 4095, 397311, 921599, 1970175, 4194303, 8388607] [(0, false), (1, false), (2, false), (3, false), (4, false), (5, false), (6, false), (7, false), (8, false), (9, false), (10, false), (11, false), (12, false), (13, false), (14, false), (15, false), (16, false), (17, false), (18, false), (19, false), (20, false), (21, false), (22, true), (23, false)] (by kernel_rfl) ?_
     intro K wD3 hK hwD3
     have M := M.drew hwD3
     have hrx := hrxF M (fun y hy => List.mem_append_right _ (List.mem_append_left _ (hLf y hy))) rfl
     have hry := hryF M (fun y hy => List.mem_append_right _ (List.mem_append_left _ (hLf y hy))) rfl
     refine spl 1 98 ?_ ?_
     ·intro hsp3
      refine go 0 ?_
      refine x_ia a rfl rfl rfl Try.underlying31 sz88 rfl rfl rfl (by omega) ?_
      refine go 0 ?_
      refine x_ld rfl rfl rfl Try.underlying4 rfl rfl (RowAt.cell hrx (j := 1) rfl) ?_
      refine spl 1 106 ?_ ?_
      ·intro hsp4
       refine go 0 ?_
       refine x_ia b rfl rfl rfl Try.underlying31 sz88 rfl rfl rfl (by omega) ?_
       refine go 0 ?_
       refine x_ld rfl rfl rfl Try.underlying9 rfl rfl (RowAt.cell hry (j := 0) rfl) ?_
       refine go 0 ?_
       refine x_ia a rfl rfl rfl Try.underlying31 sz88 rfl rfl rfl (by omega) ?_
       refine go 0 ?_
       refine x_ld rfl rfl rfl Try.underlying9 rfl rfl (RowAt.cell hrx (j := 0) rfl) ?_
       refine x_call rfl rfl rfl rfl rfl en72 (runder_c) ?_
       rintro r wcall4 ⟨rfl, hncall4⟩
       have M := M.new hncall4
       refine pnd ?_
       refine cnd 0 ?_ ?_
       ·intro hco12
        refine go 2 ?_
        intro _ M
        refine go 1 ?_
        have hR := ofL_3 hf hnd ⟨a, b, x, y, hx, hy, by omega, hsp4, hco12⟩
        rw [hR]; exact ⟨_, [], rfl, nilK, St.dropL (St.dropL (L' := [_, _]) M)⟩
       ·intro hco12
        refine go 0 ?_
        refine x_add _ rfl rfl rfl rfl rfl (wadd (by omega) (by omega)) ?_
        refine go 0 ?_
        exact At.back (b + 1) ⟨rfl, rfl, rfl, rfl, rfl, trivial⟩ ⟨by omega, badAt_step hnk (by
         intro hbd_
         obtain ⟨x_, y_, g1, g2, g3, g4, g5⟩ := hbd_
         rw [hx] at g1; rw [hy] at g2; cases g1; cases g2
         rw [hco12] at g5; cases g5), M⟩ (by first | omega | (simp only; omega) | (simp; done) | (simp; omega))
      ·intro hsp4
       refine go 0 ?_
       refine x_add _ rfl rfl rfl rfl rfl (wadd (by omega) (by omega)) ?_
       refine go 0 ?_
       exact At.back (b + 1) ⟨rfl, rfl, rfl, rfl, rfl, trivial⟩ ⟨by omega, badAt_step hnk (by
        intro hbd_
        obtain ⟨x_, y_, g1, g2, g3, g4, g5⟩ := hbd_
        rw [hx] at g1; rw [hy] at g2; cases g1; cases g2
        rw [hsp4] at g4; cases g4), M⟩ (by first | omega | (simp only; omega) | (simp; done) | (simp; omega))
     ·intro hsp3
      refine go 0 ?_
      refine x_add _ rfl rfl rfl rfl rfl (wadd (by omega) (by omega)) ?_
      refine go 0 ?_
      exact At.back (b + 1) ⟨rfl, rfl, rfl, rfl, rfl, trivial⟩ ⟨by omega, badAt_step hnk (by
       intro hbd_
       obtain ⟨x_, y_, g1, g2, g3, g4, g5⟩ := hbd_
       rw [hx] at g1; rw [hy] at g2; cases g1; cases g2
       omega), M⟩ (by first | omega | (simp only; omega) | (simp; done) | (simp; omega))
    ·intro hco11
     refine go 0 ?_
     refine x_add _ rfl rfl rfl rfl rfl (wadd (by omega) (by omega)) ?_
     refine go 0 ?_
     exact At.back (a + 1) ⟨rfl, rfl, rfl, rfl, trivial⟩ ⟨by omega, badAt_row hnb (fun k hk => hnk k (by omega)), M⟩ (by first | omega | (simp only; omega) | (simp; done) | (simp; omega))
   ·intro hco10
    have ha2 : a = l.length := by omega
    subst ha2
    have hnb2 : ¬ badL l := fun ⟨i, k, hb⟩ => hnb i (by obtain ⟨_, _, h1, _⟩ := hb; exact (List.getElem?_eq_some_iff.1 h1).1) k hb
    have hR0 := ofL_4 hf hnd hnb2
    have hsE : ∀ y ∈ l, splitE y.1 = 0 := fun y hy => (single_ok (hok y hy)).1
    refine go 0 ?_
    refine W.loop (σ := Nat × Value × List (Nat × Obj)) (fun q => [(0, _), (2, _), (4, _), (11, .int .i64 ((q.1 : Nat) : Int))]) (fun q w => q.1 ≤ l.length ∧ (∀ y ∈ Lf, y ∈ q.2.2) ∧ FilesK w00 q.2.2 q.2.1 (fillL (l.take q.1) (l.foldl withR [])) ∧ Sep w00 ([(bal2, .cells [q.2.1].toArray 33 (0, 0)), (bal1, .cells [.slice none 0 0].toArray 33 (0, 0))] ++ (q.2.2 ++ X)) w) (fun q => l.length - q.1) (0, _, L2) ⟨rfl, rfl, rfl, rfl, trivial⟩ ⟨Nat.zero_le _, hLf, hu, M⟩ ?_
    rintro ⟨i, u, L3⟩ w ⟨hi, hLf, hu, M⟩
    simp only at hi hLf hu M
    obtain ⟨pu, cu, rfl⟩ := (hu.at_ M (fun y hy => List.mem_append_right _ (List.mem_append_left _ hy))).shape
    have hfl : (fillL (l.take i) (l.foldl withR [])).length ≤ l.length + 8 * i := by
     have := fillL_len (l.take i) (l.foldl withR [])
     rw [fold_len, List.length_take] at this; omega
    have hfn : ∀ y ∈ fillL (l.take i) (l.foldl withR []), y.1.length ≤ 2000 := fillL_names (fun z hz => hsE z (List.mem_of_mem_take hz)) (fun y hy => hnm y (fold_mem.1 hy))
    refine cnd 2 ?_ ?_
    ·intro hco15
     obtain ⟨x, hx⟩ := get_lt (l := l) (q := i) (by omega)
     obtain ⟨bb, off, rfl, _⟩ := (h.at_ M (fun y hy => List.mem_append_right _ (List.mem_append_left _ (hLf y hy)))).blk (j := i) (by omega)
     obtain ⟨_, pd, cd, rfl, _, hrowF⟩ := h.row2 hx M (fun y hy => List.mem_append_right _ (List.mem_append_left _ (hLf y hy)))
     have hrow := hrowF M (fun y hy => List.mem_append_right _ (List.mem_append_left _ (hLf y hy))) rfl
     have hP := POK_split (hsE x (List.mem_of_getElem? hx))
     have hn0 := (single_ok (hok x (List.mem_of_getElem? hx))).2.1
     have hsl := splitN_len x.1
     have hlp := List.length_pos_iff.2 hn0
     refine go 0 ?_
     refine x_ia i rfl rfl rfl Try.underlying31 sz88 rfl rfl rfl (by omega) ?_
     refine go 0 ?_
     refine x_ld rfl rfl rfl Try.underlying9 rfl rfl (RowAt.cell hrow (j := 0) rfl) ?_
     refine x_call rfl rfl rfl rfl rfl en69 (rsplit_c) ?_
     rintro r_ w5 ⟨v5, L5, rfl, M5, hs5⟩
     have M := M.grow M5
     obtain ⟨p5, c5, rfl, hcap5⟩ := hs5.shape2 (by decide)
     have M : Sep w00 ([(bal2, .cells [.slice pu (fillL (l.take i) (l.foldl withR [])).length cu].toArray 33 (0, 0)), (bal1, .cells [.slice none 0 0].toArray 33 (0, 0))] ++ (L3 ++ (X ++ L5))) w5 := by simpa using M
     refine ⟨trivial, ?_⟩
     refine go 0 ?_
     refine W.loop (σ := Nat × Value × List (Nat × Obj)) (fun q => [(0, _), (2, _), (4, _), (11, _), (12, _), (14, .int .i64 ((q.1 + 1 : Nat) : Int))]) (fun q w => q.1 + 1 ≤ (splitN x.1).length ∧ (∀ y ∈ Lf, y ∈ q.2.2) ∧ FilesK w00 q.2.2 q.2.1 (fillX (splitN x.1) (fillL (l.take i) (l.foldl withR [])) q.1) ∧ Sep w00 ([(bal2, .cells [q.2.1].toArray 33 (0, 0)), (bal1, .cells [.slice none 0 0].toArray 33 (0, 0))] ++ (q.2.2 ++ (X ++ L5))) w) (fun q => (splitN x.1).length - q.1) (0, _, L3) ⟨rfl, rfl, rfl, rfl, rfl, rfl, trivial⟩ ⟨by simp only; omega, hLf, hu, M⟩ ?_
     rintro ⟨k, u2, L4⟩ w ⟨hk, hLf, hu2, M⟩
     simp only at hk hLf hu2 M
     obtain ⟨pu2, cu2, rfl⟩ := (hu2.at_ M (fun y hy => List.mem_append_right _ (List.mem_append_left _ hy))).shape
     have hxl := fillX_len (N := splitN x.1) (t := fillL (l.take i) (l.foldl withR [])) k
     have hxn := fillX_names (k := k) hP hfn
     have hPk := hP.take (k + 1)
     refine cnd 2 ?_ ?_
     ·intro hco16
      refine go 0 ?_
      refine W.regD (by kernel_rfl) #[0, 0, 0, 6, 14, 31, 63] [(0, false), (1, false), (2, false), (3, false), (4, true), (5, true), (6, false)] (by kernel_rfl) ?_
      intro K wD4 hK hwD4
      have M := M.drew hwD4
      refine go 1 ?_
      refine x_slh (k + 1) rfl rfl rfl Try.underlying57 sz9 rfl rfl (by omega) (by omega) ?_
      refine x_call rfl rfl rfl rfl rfl en73 (rtext_c (strsO_at (strsO_take hs5 (j := k + 1) (by omega)) M (fun y hy => List.mem_append_right _ (List.mem_append_right _ (List.mem_append_right _ hy)))) (by simp; omega) (fun y hy => by have := allOK_len hPk.2.1 y hy; omega)) ?_
      rintro r_ w6 ⟨rfl, hn6⟩
      have M := M.new hn6
      refine pnd ?_
      refine x_call rfl rfl rfl rfl rfl en70 (at_c (hu2.at_ M (fun y hy => List.mem_append_right _ (List.mem_append_left _ hy))) (by omega)) ?_
      rintro r_ w7 ⟨rfl, hn7⟩
      have M := M.new hn7
      refine pnd ?_
      refine cnd 1 ?_ ?_
      ·intro hco17
       have hfs := fillX_no (N := splitN x.1) (t := fillL (l.take i) (l.foldl withR [])) (k := k) (by omega)
       refine go 0 ?_
       refine W.regD (by kernel_rfl) #[0, 0, 0, 6, 14, 30, 63, 127] [(0, false), (1, false), (2, false), (3, false), (4, true), (5, false), (6, true), (7, true)] (by kernel_rfl) ?_
       intro K wD5 hK hwD5
       have M := M.drew hwD5
       refine go 1 ?_
       refine x_slh (k + 1) rfl rfl rfl Try.underlying57 sz9 rfl rfl (by omega) (by omega) ?_
       refine x_call rfl rfl rfl rfl rfl en73 (rtext_c (strsO_at (strsO_take hs5 (j := k + 1) (by omega)) M (fun y hy => List.mem_append_right _ (List.mem_append_right _ (List.mem_append_right _ hy)))) (by simp; omega) (fun y hy => by have := allOK_len hPk.2.1 y hy; omega)) ?_
       rintro r_ w8 ⟨rfl, hn8⟩
       have M := M.new hn8
       refine pnd ?_
       refine go 1 ?_
       refine x_call rfl rfl rfl rfl rfl en71 (with_c (x := (joinS ((splitN x.1).take (k + 1)), true, [])) (St.inn2 (F := [_, _]) M) hu2 (SgK.own (L' := []) OwL.nil (by decide) (by simp)) (by omega) hxn (by have := hPk.2.2; simp only; omega)) ?_
       rintro r_ w9 ⟨u3, L6, rfl, hu3, M⟩
       have M := M.out2 [_, _]
       obtain ⟨pu3, cu3, rfl⟩ := (hu3.at_ M (fun y hy => List.mem_append_right _ (List.mem_append_left _ hy))).shape
       refine pnd ?_
       refine x_st [_] _ rfl rfl rfl sz33 rfl rfl rfl rfl atM rfl rfl rfl ?_
       intro wst10 hwst10
       have M := by first | exact M.put 0 rfl hwst10 | exact M.put 1 rfl hwst10 | exact M.put 2 rfl hwst10 | exact M.put 3 rfl hwst10 | exact M.put 4 rfl hwst10 | exact M.put 5 rfl hwst10 | exact M.put 6 rfl hwst10 | exact M.put 7 rfl hwst10
       refine pnd ?_
       refine go 0 ?_
       refine x_add _ rfl rfl rfl rfl rfl (wadd (by omega) (by omega)) ?_
       refine go 0 ?_
       exact At.back ((k + 1, _, L4 ++ L6)) ⟨rfl, rfl, rfl, rfl, rfl, rfl, trivial⟩ ⟨by simp only; omega, fun y hy => List.mem_append_left _ (hLf y hy), by simp only; rw [hfs]; exact hu3, M⟩ (by first | omega | (simp only; omega) | (simp; done) | (simp; omega))
      ·intro hco17
       have hfs := fillX_yes (N := splitN x.1) (t := fillL (l.take i) (l.foldl withR [])) (k := k) (by omega)
       refine go 0 ?_
       refine x_add _ rfl rfl rfl rfl rfl (wadd (by omega) (by omega)) ?_
       refine go 0 ?_
       exact At.back ((k + 1, _, L4)) ⟨rfl, rfl, rfl, rfl, rfl, rfl, trivial⟩ ⟨by simp only; omega, hLf, by simp only; rw [hfs]; exact hu2, M⟩ (by first | omega | (simp only; omega) | (simp; done) | (simp; omega))
     ·intro hco16
      have hk2 : k = (splitN x.1).length - 1 := by omega
      subst hk2
      rw [← fillL_step hx] at hu2 M
      have M : Sep w00 (([(bal2, .cells [.slice pu2 (fillL (l.take (i + 1)) (l.foldl withR [])).length cu2].toArray 33 (0, 0)), (bal1, .cells [.slice none 0 0].toArray 33 (0, 0))] ++ (L4 ++ X)) ++ L5) w := by simpa only [List.append_assoc] using M
      have M := M.dropR
      refine go 0 ?_
      refine x_add _ rfl rfl rfl rfl rfl (wadd (by omega) (by omega)) ?_
      refine go 0 ?_
      exact At.back ((i + 1, _, L4)) ⟨rfl, rfl, rfl, rfl, trivial⟩ ⟨by simp only; omega, hLf, hu2, M⟩ (by first | omega | (simp only; omega) | (simp; done) | (simp; omega))
    ·intro hco15
     have hi2 : i = l.length := by omega
     subst hi2
     rw [List.take_length] at hu M hfl
     refine cnd 3 ?_ ?_
     ·intro hco18
      refine go 2 ?_
      intro _ M
      refine go 1 ?_
      have hR := hR0.trans (if_pos (by omega))
      rw [hR]; exact ⟨_, [], rfl, nilK, St.dropL (St.dropL (L' := [_, _]) M)⟩
     ·intro hco18
      refine go 2 ?_
      intro _ M
      refine go 1 ?_
      have hR := hR0.trans (if_neg (by omega))
      rw [hR]; exact ⟨_, L3, rfl, hu, St.dropL (L' := [_, _]) M⟩

end Go.Proofs.Ytebfjdolgchgaaa

namespace Go.Proofs.Ytebfjdolgchgaaa
open Go Go.Fw Go.RowKit Go.Proofs
set_option linter.unusedVariables false
set_option linter.unusedSimpArgs false
set_option maxRecDepth 100000
set_option maxHeartbeats 4000000
theorem bare_of2 {l : List Raw} (hd : OKd l) : (ofL (bareL l)).2 = (ofL l).2 := by
 rw [bare_of hd]
theorem of_len {l : List Raw} (h : (ofL l).2 = 0) : (ofL l).1.length ≤ 128 := by
 unfold ofL at h ⊢
 split
 ·simp
 ·rename_i h1
  rw [if_neg h1] at h
  split
  ·simp
  ·rename_i h2
   rw [if_neg h2] at h
   split
   ·simp
   ·rename_i h3
    rw [if_neg h3] at h
    split
    ·simp
    ·simp only; omega
theorem okd_used {l : List Raw} (hd : OKd l) : usedL l ≤ 65536 * l.length := by
 induction l with
 | nil => simp [usedL]
 | cons x l ih =>
  have h1 := ih fun y hy => hd y (List.mem_cons_of_mem _ hy)
  have h2 := (hd x List.mem_cons_self).1
  rw [usedL_cons, List.length_cons]
  omega


end Go.Proofs.Ytebfjdolgchgaaa

namespace Go.Proofs.Ytebfjdolgchgaaa
open Go Go.Fw Go.RowKit Go.Proofs
set_option linter.unusedVariables false
set_option linter.unusedSimpArgs false
set_option maxRecDepth 100000
set_option maxHeartbeats 4000000

-- valise/valiseref19.New
theorem fnewK_c {w00 w0 : World} {X Lf : List (Nat × Obj)} {v : Value} {l : List Raw} (M : Sep w00 (Lf ++ X) w0) (h : FilesK w00 Lf v l) (hl : l.length ≤ 140) (hd : OKd l) (h0 : (newS l).2 = 0) : Ret Try.prog 30 #[v] w0 fun r w' => ∃ pu cu Lr, r = .tuple #[.agg #[.slice pu (newS l).1.length cu, .slice none 0 0], .int .i64 0] ∧ FilesK w00 Lr (.slice pu (newS l).1.length cu) (newS l).1 ∧ Sep w00 (X ++ Lr) w' := by
 obtain ⟨pv, cv, rfl⟩ := (h.at_ M (fun y hy => List.mem_append_left _ hy)).shape
 have hany := okd_any hd
 refine Ret.of_W Try.func30 rfl Try.ntmps30 rfl ?_
 refine go 1 ?_
 intro bal1 _ M
 refine go 0 ?_
 refine W.loop (σ := Nat × Value × List (Nat × Obj)) (fun q => [(0, _), (2, _), (4, q.2.1), (5, .int .i64 ((q.1 : Nat) : Int))]) (fun q w => q.1 ≤ l.length ∧ OwL q.2.2 q.2.1 3 q.1 (fCs ((l.take q.1).map bRow)) ∧ Sep w00 (q.2.2 ++ ((bal1, .cells [.slice none 0 0, .slice none 0 0].toArray 36 (0, 0)) :: (Lf ++ X))) w) (fun q => l.length - q.1) (0, .slice none 0 0, []) ⟨rfl, rfl, rfl, rfl, trivial⟩ ⟨Nat.zero_le _, OwL.nil, M⟩ ?_
 rintro ⟨j, v4, Lo⟩ w ⟨hj, ho, M⟩
 simp only at hj ho M
 obtain ⟨p4, c4, rfl⟩ := ho.shape
 refine cnd 2 ?_ ?_
 ·intro hco1
  obtain ⟨x, hx⟩ := get_lt (l := l) (q := j) (by omega)
  obtain ⟨bb, off, rfl, _⟩ := (h.at_ M (fun y hy => List.mem_append_right _ (List.mem_cons_of_mem _ (List.mem_append_left _ hy)))).blk (j := j) (by omega)
  obtain ⟨_, px, cx, rfl, hbx, hrowF⟩ := h.row2 hx M (fun y hy => List.mem_append_right _ (List.mem_cons_of_mem _ (List.mem_append_left _ hy)))
  refine go 0 ?_
  refine W.regD (by kernel_rfl) #[0, 0, 0, 6, 14, 30, 0, 0, 192, 448, 960, 2046, 4094, 8191, 16383] [(0, false), (1, false), (2, false), (3, false), (4, false), (5, false), (6, false), (7, false), (8, false), (9, false), (10, false), (11, false), (12, true), (13, true), (14, false)] (by kernel_rfl) ?_
  intro K wD1 hK hwD1
  have M := M.drew hwD1
  have hrow := hrowF M (fun y hy => List.mem_append_right _ (List.mem_cons_of_mem _ (List.mem_append_left _ hy))) rfl
  refine go 0 ?_
  refine x_ia j rfl rfl rfl Try.underlying31 sz88 rfl rfl rfl (by omega) ?_
  refine go 0 ?_
  refine x_ld rfl rfl rfl Try.underlying9 rfl rfl (RowAt.cell hrow (j := 0) rfl) ?_
  refine go 0 ?_
  refine x_ia j rfl rfl rfl Try.underlying31 sz88 rfl rfl rfl (by omega) ?_
  refine go 0 ?_
  refine x_ld rfl rfl rfl Try.underlying4 rfl rfl (RowAt.cell hrow (j := 1) rfl) ?_
  refine go 1 ?_
  refine x_bs1 (cs := [strV x.1, .bool x.2.1, .slice none 0 0]) rfl rfl rfl Try.underlying31 sz88 ze88 (Z := [_, _, _]) rfl rfl (by decide) (by decide) rfl rfl rfl ?_
  intro bbs1 wbs1 hbbs1 hwbs1
  have M := M.acons hbbs1 hwbs1
  have hslbs1 : Sl wbs1 (.slice (some ⟨bbs1, 0, none⟩) 1 1) 3 1 [strV x.1, .bool x.2.1, .slice none 0 0] := .inr ⟨bbs1, 0, 1, _, _, _, rfl, Nat.le_refl _, M.at_ 0 rfl, rfl, rfl⟩
  have M := M.tail
  refine pnd ?_
  refine x_apL (L := Lo) (cs := fCs ((l.take j).map bRow)) rfl rfl rfl rfl Try.underlying31 sz88 ze88 rfl by88 rfl rfl ho M (fCs_one (fun f hf => by obtain ⟨y, _, rfl⟩ := List.mem_map.1 hf; rfl)) (hslbs1.src Try.underlying31 (by intro u hu; simp only [List.mem_cons, List.not_mem_nil, or_false] at hu; rcases hu with rfl | rfl | rfl <;> rfl)) (by omega) (by decide) (by omega) ?_
  intro L3 v3 w3 ho3 M
  rw [← fCs_snocB hx] at ho3
  refine pnd ?_
  refine go 0 ?_
  refine x_add _ rfl rfl rfl rfl rfl (wadd (by omega) (by omega)) ?_
  refine go 0 ?_
  exact At.back ((j + 1, v3, L3)) ⟨rfl, rfl, rfl, rfl, trivial⟩ ⟨by simp only; omega, ho3, M⟩ (by first | omega | (simp only; omega) | (simp; done) | (simp; omega))
 ·intro hco1
  have hj2 : j = l.length := by omega
  subst hj2
  rw [List.take_length] at ho
  have hbare := bare_atB ((OwL.sl ho (by decide)).get (fun y hy => M.get (List.mem_append_left _ hy)))
  have M : Sep w00 (_ :: (Lf ++ X)) _ := M.dropL
  refine go 0 ?_
  refine x_call rfl rfl rfl rfl rfl en46 (rof_c (St.nil _) hbare (by rw [bare_len]; omega)) ?_
  rintro r_ w2 ⟨u2, L2, rfl, hF2, M2⟩
  rw [List.append_nil] at M2
  obtain ⟨pu2, cu2, rfl⟩ := (hF2.at_ M2 (fun y hy => hy)).shape
  have M := M.new M2.frm
  refine ⟨trivial, ?_⟩
  refine go 1 ?_
  intro _ _ M
  refine go 1 ?_
  intro _ M
  refine cnd 1 ?_ ?_
  ·intro hco2
   have hN : newS l = ([], (ofL (bareL l)).2) := newS_of hany hco2
   refine go 2 ?_
   intro _ M
   refine go 1 ?_
   exact absurd h0 (by rw [hN]; exact hco2)
  ·intro hco2
   refine go 0 ?_
   refine x_call rfl rfl rfl rfl rfl en46 (rofK_c (w00 := w00) (Lf := Lf) (X := _ :: _ :: X) (M.perm perm_in2) h (by omega)) ?_
   rintro r_ w4 ⟨u4, L4, rfl, hF4, M⟩
   have M : Sep w00 ((_ :: _ :: X) ++ L4) _ := M.perm List.perm_append_comm
   have hbok : OKd (bareL l) := fun x hx => by
    obtain ⟨y, _, rfl⟩ := List.mem_map.1 hx
    exact ⟨by simp [bareR], fun _ => rfl⟩
   obtain ⟨pu4, cu4, rfl⟩ := (hF4.at_ M (fun y hy => mR hy)).shape
   have hof : (ofL l).2 = 0 := by rw [bare_of2 hd] at hco2; exact hco2
   obtain ⟨_, hu4, _, _⟩ := of_facts hof hd
   have hle4 := of_len hof
   refine ⟨trivial, ?_⟩
   refine go 1 ?_
   intro _ _ M
   refine go 1 ?_
   intro _ M
   refine go 3 ?_
   intro _ _ M
   refine go 1 ?_
   intro _ M
   refine go 1 ?_
   refine x_call rfl rfl rfl rfl rfl en47 (rused_c (hF4.at_ M (fun y hy => by simp [hy])) (by omega) (by rw [hu4]; have := okd_used hd; omega)) ?_
   rintro r_ w5 ⟨rfl, hn5⟩
   have M := M.new hn5
   rw [hu4]
   refine ⟨trivial, ?_⟩
   refine cnd 1 ?_ ?_
   ·intro hco3
    have hN : newS l = ([], 7) := newS_7 hany hco2 (by omega)
    refine go 2 ?_
    intro _ M
    refine go 1 ?_
    exact absurd h0 (by rw [hN]; decide)
   ·intro hco3
    have hN : newS l = ((ofL l).1, 0) := newS_0 hany hco2 (by omega)
    refine go 2 ?_
    intro _ M
    refine go 1 ?_
    rw [hN]
    exact ⟨pu4, cu4, L4, rfl, hF4, M.tail.tail.tail.tail⟩

end Go.Proofs.Ytebfjdolgchgaaa

namespace Go.Proofs.Ytebfjdolgchgaaa
open Go Go.Fw Go.RowKit
set_option linter.unusedVariables false
set_option linter.unusedSimpArgs false

/-! ## A key's two queues: who holds it, who waits for it; to write? -/
abbrev Qa := Int × Bool
def mayQ (h : List Qa) (w : Bool) : Bool := h.isEmpty || (!w && !((h.head?.map (·.2)).getD false))
def hasQ (q : List Qa) (who : Int) : Bool := q.any fun a => decide (a.1 = who)
def grantQ (h : List Qa) : List Qa → List Int → List Qa × List Qa × List Int
 | [], now => (h, [], now)
 | a :: w, now => if mayQ h a.2 = true then grantQ (h ++ [a]) w (now ++ [a.1]) else (h, a :: w, now)
def askQ (q : List Qa × List Qa) (who : Int) (wr : Bool) : (List Qa × List Qa) × Bool × Int :=
 if (hasQ q.1 who || hasQ q.2 who) = true then (q, false, 18)
 else if (q.2.isEmpty && mayQ q.1 wr) = true then ((q.1 ++ [(who, wr)], q.2), true, 0) else ((q.1, q.2 ++ [(who, wr)]), false, 0)
def dropQ (h : List Qa) (who : Int) : List Qa := h.filter fun a => !decide (a.1 = who)
def freeQ (q : List Qa × List Qa) (who : Int) : (List Qa × List Qa) × List Int × Int :=
 if hasQ q.1 who = true then (((grantQ (dropQ q.1 who) q.2 []).1, (grantQ (dropQ q.1 who) q.2 []).2.1), (grantQ (dropQ q.1 who) q.2 []).2.2, 0) else (q, [], 9)
abbrev QM := List UInt8 → List Qa × List Qa
def setQ (Q : QM) (key : List UInt8) (q : List Qa × List Qa) : QM := fun x => if x = key then q else Q x
def noQ : QM := fun _ => ([], [])

structure QI (q : List Qa × List Qa) : Prop where
 one : ((q.1 ++ q.2).map (·.1)).Nodup
 excl : (∀ a ∈ q.1, a.2 = false) ∨ q.1.length ≤ 1
 stop : ∀ a r, q.2 = a :: r → mayQ q.1 a.2 = false
section
variable {q : List Qa × List Qa} {h w : List Qa} {a : Qa} {who : Int} {wr : Bool} {now : List Int}
theorem QI.nil : QI ([], []) := ⟨by simp, .inr (by simp), fun _ _ h => by cases h⟩
theorem hasQ_iff {q : List Qa} : hasQ q who = true ↔ ∃ a ∈ q, a.1 = who := by unfold hasQ; simp
theorem hasQ_no {q : List Qa} : hasQ q who = false ↔ ∀ a ∈ q, a.1 ≠ who := by unfold hasQ; simp
theorem mayQ_excl (he : (∀ a ∈ h, a.2 = false) ∨ h.length ≤ 1) (hm : mayQ h wr = true) : (∀ x ∈ h ++ [(who, wr)], x.2 = false) ∨ (h ++ [(who, wr)]).length ≤ 1 := by
 cases h with
 | nil => exact .inr (by simp)
 | cons x r =>
  left
  unfold mayQ at hm
  simp only [List.isEmpty_cons, Bool.false_or, List.head?_cons, Option.map_some, Option.getD_some, Bool.and_eq_true, Bool.not_eq_true'] at hm
  intro y hy
  rcases List.mem_append.1 hy with hy | hy
  ·rcases he with he | he
   ·exact he y hy
   ·have : r = [] := by cases r with | nil => rfl | cons _ _ => simp at he
    subst this
    rw [List.mem_singleton.1 hy]; exact hm.2
  ·rw [List.mem_singleton.1 hy]; exact hm.1
theorem QI.held (hq : QI q) (hw : q.2 ≠ []) : q.1 ≠ [] := by
 cases e : q.2 with
 | nil => exact absurd e hw
 | cons a r => intro e2; have := hq.stop a r e; rw [e2] at this; cases this
theorem QI.ask (hq : QI q) : QI (askQ q who wr).1 := by
 unfold askQ
 split
 ·exact hq
 ·rename_i hno
  simp only [Bool.or_eq_true, not_or, Bool.not_eq_true] at hno
  have h1 := hasQ_no.1 hno.1
  have h2 := hasQ_no.1 hno.2
  have hn : ∀ x ∈ q.1 ++ q.2, x.1 ≠ who := fun x hx => by rcases List.mem_append.1 hx with h | h; exact h1 x h; exact h2 x h
  have hnd : ((q.1 ++ q.2 ++ [(who, wr)]).map (·.1)).Nodup := by
   rw [List.map_append, List.nodup_append]
   refine ⟨hq.one, by simp, fun x hx y hy => ?_⟩
   obtain ⟨z, hz, rfl⟩ := List.mem_map.1 hx
   simp at hy; subst hy; exact hn z hz
  split
  ·rename_i hm
   simp only [Bool.and_eq_true, List.isEmpty_iff] at hm
   refine ⟨?_, mayQ_excl hq.excl hm.2, fun a r e => by simp only at e; rw [hm.1] at e; cases e⟩
   rw [hm.1] at hnd ⊢; simpa using hnd
  ·rename_i hm
   refine ⟨by simpa using hnd, hq.excl, fun a r e => ?_⟩
   simp only at e ⊢
   cases e2 : q.2 with
   | nil =>
    rw [e2] at e hm; simp only [List.nil_append, List.cons.injEq] at e
    rw [← e.1]; simpa using hm
   | cons b s =>
    rw [e2] at e; simp only [List.cons_append, List.cons.injEq] at e
    rw [← e.1]; exact hq.stop b s e2
theorem grant_QI : ∀ {w h : List Qa} {now : List Int}, ((h ++ w).map (·.1)).Nodup → ((∀ a ∈ h, a.2 = false) ∨ h.length ≤ 1) → QI ((grantQ h w now).1, (grantQ h w now).2.1)
 | [], h, now, h1, h2 => ⟨h1, h2, fun _ _ e => by cases e⟩
 | a :: w, h, now, h1, h2 => by
  unfold grantQ
  split
  ·rename_i hm; exact grant_QI (by simpa using h1) (mayQ_excl (who := a.1) h2 hm)
  ·rename_i hm; exact ⟨h1, h2, fun b r e => by simp only [List.cons.injEq] at e; rw [← e.1]; simpa using hm⟩
theorem QI.drop (hq : QI q) : ((dropQ q.1 who ++ q.2).map (·.1)).Nodup ∧ ((∀ a ∈ dropQ q.1 who, a.2 = false) ∨ (dropQ q.1 who).length ≤ 1) := by
 have hs : (dropQ q.1 who ++ q.2).Sublist (q.1 ++ q.2) := List.Sublist.append List.filter_sublist (List.Sublist.refl _)
 refine ⟨(hs.map _).nodup hq.one, ?_⟩
 rcases hq.excl with h | h
 ·exact .inl fun a ha => h a (List.mem_filter.1 ha).1
 ·exact .inr (Nat.le_trans (List.length_filter_le _ _) h)
theorem QI.free (hq : QI q) : QI (freeQ q who).1 := by
 unfold freeQ
 split
 ·exact grant_QI hq.drop.1 hq.drop.2
 ·exact hq
theorem grant_all : ∀ {w h : List Qa} {now : List Int}, ∃ m, (grantQ h w now).1 = h ++ w.take m ∧ (grantQ h w now).2.1 = w.drop m ∧ (grantQ h w now).2.2 = now ++ (w.take m).map (·.1)
 | [], h, now => ⟨0, by simp [grantQ]⟩
 | a :: w, h, now => by
  unfold grantQ
  split
  ·obtain ⟨m, h1, h2, h3⟩ := grant_all (w := w) (h := h ++ [a]) (now := now ++ [a.1])
   exact ⟨m + 1, by rw [h1]; simp, by rw [h2]; simp, by rw [h3]; simp⟩
  ·exact ⟨0, by simp⟩
end
end Go.Proofs.Ytebfjdolgchgaaa

namespace Go.Proofs.Ytebfjdolgchgaaa
open Go Go.Fw Go.RowKit
set_option linter.unusedVariables false
set_option linter.unusedSimpArgs false

structure Cl where
 l : List OpS
 st : Nat
 n : Nat
 bg : Nat
 dd : Nat
 key : List UInt8
 w : Bool
structure Dd where
 who : Int
 n : Nat
 bg : Nat
 en : Int
 r : RsS
structure VS where
 f : List Raw
 h : HF
 q : QM
 c : List Cl
 o : List Dd
 s : Nat

def chgO (o : OpS) : Bool := decide (o.k = 6 ∨ o.k = 7 ∨ o.k = 8 ∨ o.k = 10) || (decide (o.k = 1) && o.c)
def lockO (o : OpS) : Bool := decide (o.k = 2 ∨ o.k = 3 ∨ o.k = 4)
def fileP (h : HF) (who n : Int) : List UInt8 := match h who n with | some v => v.1 | none => []
def wakeC (cs : List Cl) (now : List Int) : List Cl := now.foldl (fun cs w => cs.modify w.toNat fun c => { c with w := false }) cs
def freeV (S : VS) (i : Nat) (key : List UInt8) : VS := { S with q := setQ S.q key (freeQ (S.q key) i).1, c := wakeC S.c (freeQ (S.q key) i).2.1 }
def endV (S : VS) (i : Nat) (c : Cl) : VS := if c.key = [] then freeV S i [] else freeV (freeV S i c.key) i []
def beginS (S : VS) (i : Nat) (c : Cl) (o : OpS) : VS :=
 { S with q := setQ S.q [] (askQ (S.q []) i (chgO o)).1, c := S.c.set i { c with bg := S.s, w := !(askQ (S.q []) i (chgO o)).2.1, st := 1 }, s := S.s + 1 }
def askS (S : VS) (i : Nat) (c : Cl) (o : OpS) : VS :=
 if lockO o = true then
  { S with q := setQ S.q (47 :: fileP S.h i o.h) (askQ (S.q (47 :: fileP S.h i o.h)) i (!decide (o.k = 2))).1, c := S.c.set i { c with key := 47 :: fileP S.h i o.h, w := !(askQ (S.q (47 :: fileP S.h i o.h)) i (!decide (o.k = 2))).2.1, st := 2 }, s := S.s + 1 }
 else { S with c := S.c.set i { c with key := [], st := 2 }, s := S.s + 1 }
def commitS (S : VS) (i : Nat) (c : Cl) (o : OpS) : VS :=
 { S with f := (doS S.f S.h i o).2.1, h := (doS S.f S.h i o).2.2, o := S.o ++ [⟨i, c.n, c.bg, -1, (doS S.f S.h i o).1⟩], c := S.c.set i { c with dd := S.o.length, st := 3 }, s := S.s + 1 }
def endS (S : VS) (i : Nat) (c : Cl) : VS :=
 { endV S i c with o := S.o.modify c.dd (fun d => { d with en := S.s }), c := (endV S i c).c.modify i (fun d => { d with l := c.l.drop 1, n := c.n + 1, st := 0 }), s := S.s + 1 }
def stepS (S : VS) (i : Nat) (c : Cl) (o : OpS) : VS :=
 if c.st = 0 then beginS S i c o else if c.st = 1 then askS S i c o else if c.st = 2 then commitS S i c o else endS S i c
def cliS (S : VS) (who : Int) : Option Cl := if 0 ≤ who then S.c[who.toNat]? else none
def stepV (S : VS) (who : Int) : VS × Bool := match cliS S who with
 | none => (S, false)
 | some c => match c.l with
  | [] => (S, false)
  | o :: _ => if c.w = true then (S, false) else (stepS S who.toNat c o, true)
def leftV (S : VS) (who : Int) : Int := match cliS S who with | none => 0 | some c => c.l.length
def blockV (S : VS) (who : Int) : Bool := match cliS S who with | none => false | some c => c.w
def newV (f : List Raw) (h : HF) (ls : List (List OpS)) : VS := ⟨f, h, noQ, ls.map (fun l => ⟨l, 0, 0, 0, 0, [], false⟩), [], 0⟩

structure VI (S : VS) : Prop where
 qi : ∀ key, QI (S.q key)
 wh : ∀ key, ∀ a ∈ (S.q key).1 ++ (S.q key).2, 0 ≤ a.1 ∧ a.1 < S.c.length
 dd : ∀ c ∈ S.c, c.st = 3 → c.dd < S.o.length
 st : ∀ c ∈ S.c, c.st ≤ 3
 le : S.c.length ≤ 8
section
variable {S : VS} {i : Nat} {c : Cl} {o : OpS} {key : List UInt8} {q : List Qa × List Qa} {who : Int}
theorem wakeC_len (cs : List Cl) : ∀ (now : List Int), (wakeC cs now).length = cs.length := by
 intro now
 unfold wakeC
 induction now generalizing cs with
 | nil => rfl
 | cons w now ih => rw [List.foldl_cons, ih, List.length_modify]
theorem setQ_same : setQ S.q key q key = q := by unfold setQ; rw [if_pos rfl]
theorem setQ_other {key' : List UInt8} (h : key' ≠ key) : setQ S.q key q key' = S.q key' := by unfold setQ; rw [if_neg h]
theorem ask_mem {wr : Bool} {a : Qa} (h : a ∈ (askQ q who wr).1.1 ++ (askQ q who wr).1.2) : a ∈ q.1 ++ q.2 ∨ a = (who, wr) := by
 unfold askQ at h
 split at h
 ·exact .inl h
 ·split at h <;> simp only [List.mem_append, List.mem_singleton] at h ⊢ <;> rcases h with h | h <;> first
   | (rcases h with h | h <;> first | exact .inl (.inl h) | exact .inl (.inr h) | exact .inr h)
   | exact .inl (.inl h) | exact .inl (.inr h) | exact .inr h
theorem free_mem {a : Qa} (h : a ∈ (freeQ q who).1.1 ++ (freeQ q who).1.2) : a ∈ q.1 ++ q.2 := by
 unfold freeQ at h
 split at h
 ·obtain ⟨m, h1, h2, _⟩ := grant_all (w := q.2) (h := dropQ q.1 who) (now := [])
  simp only [h1, h2, List.append_assoc, List.take_append_drop, List.mem_append] at h ⊢
  rcases h with h | h
  ·exact .inl (List.mem_filter.1 h).1
  ·exact .inr h
 ·exact h
theorem free_now {w : Int} (h : w ∈ (freeQ q who).2.1) : ∃ a ∈ q.2, a.1 = w := by
 unfold freeQ at h
 split at h
 ·obtain ⟨m, _, _, h3⟩ := grant_all (w := q.2) (h := dropQ q.1 who) (now := [])
  simp only [h3, List.nil_append] at h
  obtain ⟨a, ha, rfl⟩ := List.mem_map.1 h
  exact ⟨a, List.mem_of_mem_take ha, rfl⟩
 ·cases h
theorem VI.setq (hI : VI S) (hq : QI q) (hm : ∀ a ∈ q.1 ++ q.2, 0 ≤ a.1 ∧ a.1 < S.c.length) : (∀ k, QI (setQ S.q key q k)) ∧ ∀ k, ∀ a ∈ (setQ S.q key q k).1 ++ (setQ S.q key q k).2, 0 ≤ a.1 ∧ a.1 < S.c.length := by
 refine ⟨fun k => ?_, fun k a ha => ?_⟩
 ·by_cases e : k = key
  ·subst e; rw [setQ_same]; exact hq
  ·rw [setQ_other e]; exact hI.qi k
 ·by_cases e : k = key
  ·subst e; rw [setQ_same] at ha; exact hm a ha
  ·rw [setQ_other e] at ha; exact hI.wh k a ha
theorem wakeC_mem {cs : List Cl} {now : List Int} (h : c ∈ wakeC cs now) : ∃ d ∈ cs, c = d ∨ c = { d with w := false } := by
 unfold wakeC at h
 induction now generalizing cs with
 | nil => exact ⟨c, h, .inl rfl⟩
 | cons w now ih =>
  obtain ⟨d, hd, h2⟩ := ih h
  obtain ⟨j, hj⟩ := List.getElem?_of_mem hd
  rw [List.getElem?_modify] at hj
  cases e : cs[j]? with
  | none => rw [e] at hj; cases hj
  | some x =>
   rw [e] at hj
   simp only [Option.map_eq_map, Option.map_some, Option.some.injEq] at hj
   refine ⟨x, List.mem_of_getElem? e, ?_⟩
   split at hj
   ·subst hj; rcases h2 with rfl | rfl <;> exact .inr rfl
   ·subst hj; exact h2
theorem VI.free (hI : VI S) : VI (freeV S i key) := by
 obtain ⟨h1, h2⟩ := hI.setq (key := key) (hI.qi key).free (fun a ha => hI.wh key a (free_mem (who := i) ha))
 refine ⟨h1, fun k a ha => ?_, fun c hc hs => ?_, fun c hc => ?_, ?_⟩
 ·simp only [freeV, wakeC_len]; exact h2 k a ha
 ·obtain ⟨d, hd, h | h⟩ := wakeC_mem hc
  ·subst h; exact hI.dd c hd hs
  ·subst h; exact hI.dd d hd hs
 ·obtain ⟨d, hd, h | h⟩ := wakeC_mem hc
  ·subst h; exact hI.st c hd
  ·subst h; exact hI.st d hd
 ·simp only [freeV, wakeC_len]; exact hI.le
theorem VI.endV (hI : VI S) : VI (endV S i c) := by
 unfold Go.Proofs.Ytebfjdolgchgaaa.endV
 split
 ·exact hI.free
 ·exact hI.free.free
theorem endV_len : (endV S i c).c.length = S.c.length := by
 unfold endV; split <;> simp only [freeV, wakeC_len]
theorem endV_o : (endV S i c).o = S.o ∧ (endV S i c).s = S.s ∧ (endV S i c).f = S.f ∧ (endV S i c).h = S.h := by
 unfold endV; split <;> exact ⟨rfl, rfl, rfl, rfl⟩
theorem set_mem {cs : List Cl} {d x : Cl} (h : x ∈ cs.set i d) : x ∈ cs ∨ x = d := by
 obtain ⟨j, hj⟩ := List.getElem?_of_mem h
 rw [List.getElem?_set] at hj
 split at hj
 ·split at hj
  ·exact .inr (by simpa using hj.symm)
  ·cases hj
 ·exact .inl (List.mem_of_getElem? hj)
theorem modify_mem {α : Type} {cs : List α} {f : α → α} {x : α} (h : x ∈ cs.modify i f) : x ∈ cs ∨ ∃ d ∈ cs, x = f d := by
 obtain ⟨j, hj⟩ := List.getElem?_of_mem h
 rw [List.getElem?_modify] at hj
 cases e : cs[j]? with
 | none => rw [e] at hj; cases hj
 | some y =>
  rw [e] at hj
  simp only [Option.map_eq_map, Option.map_some, Option.some.injEq] at hj
  split at hj
  ·exact .inr ⟨y, List.mem_of_getElem? e, hj.symm⟩
  ·subst hj; exact .inl (List.mem_of_getElem? e)
theorem VI.step (hI : VI S) (hc : S.c[i]? = some c) : VI (stepS S i c o) := by
 have hlt : i < S.c.length := (List.getElem?_eq_some_iff.1 hc).1
 have hm := List.mem_of_getElem? hc
 unfold stepS
 split
 ·rename_i h0
  obtain ⟨h1, h2⟩ := hI.setq (key := []) (hI.qi []).ask (fun a ha => by
   rcases ask_mem (who := i) (wr := chgO o) ha with h | h
   ·exact hI.wh [] a h
   ·subst h; exact ⟨by simp, by simp; omega⟩)
  refine ⟨h1, fun k a ha => ?_, fun d hd hs => ?_, fun d hd => ?_, ?_⟩
  ·simp only [beginS, List.length_set]; exact h2 k a ha
  ·rcases set_mem hd with h | h
   ·exact hI.dd d h hs
   ·subst h; cases hs
  ·rcases set_mem hd with h | h
   ·exact hI.st d h
   ·subst h; simp
  ·simp only [beginS, List.length_set]; exact hI.le
 ·split
  ·unfold askS
   split
   ·obtain ⟨h1, h2⟩ := hI.setq (key := 47 :: fileP S.h i o.h) (hI.qi _).ask (fun a ha => by
     rcases ask_mem (who := i) (wr := !decide (o.k = 2)) ha with h | h
     ·exact hI.wh _ a h
     ·subst h; exact ⟨by simp, by simp; omega⟩)
    refine ⟨h1, fun k a ha => ?_, fun d hd hs => ?_, fun d hd => ?_, ?_⟩
    ·simp only [List.length_set]; exact h2 k a ha
    ·rcases set_mem hd with h | h
     ·exact hI.dd d h hs
     ·subst h; cases hs
    ·rcases set_mem hd with h | h
     ·exact hI.st d h
     ·subst h; simp
    ·simp only [List.length_set]; exact hI.le
   ·refine ⟨hI.qi, fun k a ha => ?_, fun d hd hs => ?_, fun d hd => ?_, ?_⟩
    ·simp only [List.length_set]; exact hI.wh k a ha
    ·rcases set_mem hd with h | h
     ·exact hI.dd d h hs
     ·subst h; cases hs
    ·rcases set_mem hd with h | h
     ·exact hI.st d h
     ·subst h; simp
    ·simp only [List.length_set]; exact hI.le
  ·split
   ·refine ⟨hI.qi, fun k a ha => ?_, fun d hd hs => ?_, fun d hd => ?_, ?_⟩
    ·simp only [commitS, List.length_set]; exact hI.wh k a ha
    ·simp only [commitS, List.length_append, List.length_singleton]
     rcases set_mem hd with h | h
     ·have := hI.dd d h hs; omega
     ·subst h; simp
    ·rcases set_mem hd with h | h
     ·exact hI.st d h
     ·subst h; simp
    ·simp only [commitS, List.length_set]; exact hI.le
   ·have hE := hI.endV (i := i) (c := c)
    refine ⟨hE.qi, fun k a ha => ?_, fun d hd hs => ?_, fun d hd => ?_, ?_⟩
    ·simp only [endS, List.length_modify]; exact hE.wh k a ha
    ·simp only [endS, List.length_modify]
     rcases modify_mem hd with h | ⟨x, hx, h⟩
     ·have := hE.dd d h hs; rwa [endV_o.1] at this
     ·subst h; cases hs
    ·rcases modify_mem hd with h | ⟨x, hx, h⟩
     ·exact hE.st d h
     ·subst h; simp
    ·simp only [endS, List.length_modify]; exact hE.le
theorem VI.new {f : List Raw} {h : HF} {ls : List (List OpS)} (hl : ls.length ≤ 8) : VI (newV f h ls) := by
 refine ⟨fun _ => QI.nil, fun _ a ha => ?_, fun c hc hs => ?_, fun c hc => ?_, ?_⟩
 ·cases ha
 ·obtain ⟨l, _, rfl⟩ := List.mem_map.1 hc; cases hs
 ·obtain ⟨l, _, rfl⟩ := List.mem_map.1 hc; exact Nat.zero_le _
 ·simp only [newV, List.length_map]; exact hl
end
end Go.Proofs.Ytebfjdolgchgaaa
