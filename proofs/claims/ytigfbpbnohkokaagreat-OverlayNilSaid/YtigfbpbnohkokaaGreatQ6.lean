/-
  Texts that belong together, laid into one file: O9, O10, U13, O11, O12, U14, O13, U15, O14, V19, V27, U16, O15, O16, O17, U17, O18, U18, O19, O20, U19, O21, O22, U20, O23, U21, O24, U22, O25, U23, O26, U24, O27, U25, O28.
-/
import Derived.Test.YtigfbpbnohkokaaGreatQ5
namespace Go.Proofs.YtigfbpbnohkokaaGreat
open Go Go.Fw Go.RowKit Go.Proofs
set_option linter.unusedVariables false
set_option linter.unusedSimpArgs false

set_option maxRecDepth 100000 in
theorem renameH_c {w00 w0 : World} {bf : Nat} {bv dv : Value} {S : FSt} {base : BaseF} {Lb L : List (Nat × Obj)} {l : List Raw} {hf : HF} {o : OpS} {p : List UInt8} (M : Sep w00 (fsB bf bv (usedL l) S ++ (Lb ++ L)) w0) (hR : FR base S l hf)  (hdv : ∃ pd cd, dv = .slice pd o.d.length cd) : Ret Tryz.prog 74 #[ptr bf, strV p, .agg (opC o dv).toArray] w0 (PostS base bf bv w00 Lb L (renameS l hf p o.q)) := by
 obtain ⟨pd, cd, rfl⟩ := hdv
 refine Ret.of_W Tryz.func74 rfl Tryz.ntmps74 rfl ?_
 refine W.seq ?_
 refine W.sub [(0, _), (1, _), (2, _)] ⟨rfl, rfl, rfl, trivial⟩ ?_
 refine W.reg [(0, true), (1, true)] (by kernel_rfl) ?_
 intro K hK
 refine x_box [_, _, _, _, _, _, _, _, _] rfl rfl rfl rfl rfl ?_
 intro bbx1 wbx1 hbbx1 hwbx1
 have M := M.acons hbbx1 hwbx1
 refine ⟨trivial, ?_⟩
 refine x_alloc [_, _, _, _, _] rfl rfl rfl ze49 rfl ?_
 intro bal1 wal1 hbal1 hwal1
 have M := M.acons hbal1 hwal1
 refine ⟨trivial, ?_⟩
 refine Ex.done (hK _ _ ?_)
 refine At.then_n ?_
 refine W.seq ?_
 refine W.sub [(0, _), (1, _), (5, _), (6, _)] ⟨rfl, rfl, rfl, rfl, trivial⟩ ?_
 refine W.reg [(0, false), (1, false), (2, true), (3, false), (4, false), (5, false), (6, false), (7, false)] (by kernel_rfl) ?_
 intro K hK
 refine x_fa rfl rfl rfl fo52_2 rfl ?_
 refine x_ld rfl rfl rfl Tryz.underlying9 rfl rfl (cell_of (by first | exact M.at_ 0 rfl | exact M.at_ 1 rfl | exact M.at_ 2 rfl | exact M.at_ 3 rfl | exact M.at_ 4 rfl | exact M.at_ 5 rfl | exact M.at_ 6 rfl | exact M.at_ 7 rfl) rfl) ?_
 refine x_call rfl rfl rfl rfl rfl en45 (clean_c) ?_
 rintro r wcall1 ⟨rfl, hncall1⟩
 have M := M.new hncall1
 refine ⟨trivial, ?_⟩
 refine x_move rfl rfl rfl rfl ?_
 refine x_ext rfl rfl rfl rfl rfl ?_
 refine x_ext rfl rfl rfl rfl rfl ?_
 refine x_assign rfl rfl rfl rfl ?_
 refine x_assign rfl rfl rfl rfl ?_
 refine Ex.done (hK _ _ ?_)
 refine At.then_n ?_
 refine W.seq ?_
 refine W.seq ?_
 refine W.sub [(0, _), (1, _), (6, _), (7, _), (8, _)] ⟨rfl, rfl, rfl, rfl, rfl, trivial⟩ ?_
 refine W.reg [(0, false), (1, false)] (by kernel_rfl) ?_
 intro K hK
 refine x_move rfl rfl rfl rfl ?_
 refine x_nei _ rfl rfl rfl rfl rfl rfl ?_
 refine Ex.done (hK _ _ ?_)
 refine At.then_n ?_
 refine W.cond rfl (fun hco1 => ?_) (fun hco1 => ?_)
 ·try simp only [sA, sB, sC, sD, sE, sF, ne_eq, Bool.not_eq_eq_eq_not, Bool.not_true, Bool.not_false, sK, sL, Bool.not_not, gt_iff_lt, ge_iff_le] at hco1
  refine W.seq ?_
  refine W.sub [(6, _), (8, _)] ⟨rfl, rfl, trivial⟩ ?_
  refine W.reg [(0, false), (1, true), (2, true)] (by kernel_rfl) ?_
  intro K hK
  refine x_move rfl rfl rfl rfl ?_
  refine x_call rfl rfl rfl rfl rfl en40 (fail_c) ?_
  rintro r_ wcall2 ⟨rfl, hncall2⟩
  have M := M.new hncall2
  refine ⟨trivial, ?_⟩
  refine x_st [_, _, _, _, _] _ rfl rfl rfl sz49 rfl rfl rfl rfl (by first | exact M.at_ 0 rfl | exact M.at_ 1 rfl | exact M.at_ 2 rfl | exact M.at_ 3 rfl | exact M.at_ 4 rfl | exact M.at_ 5 rfl | exact M.at_ 6 rfl | exact M.at_ 7 rfl) rfl rfl rfl ?_
  intro wst1 hwst1
  have M := by first | exact M.put 0 rfl hwst1 | exact M.put 1 rfl hwst1 | exact M.put 2 rfl hwst1 | exact M.put 3 rfl hwst1 | exact M.put 4 rfl hwst1 | exact M.put 5 rfl hwst1 | exact M.put 6 rfl hwst1 | exact M.put 7 rfl hwst1
  refine ⟨trivial, ?_⟩
  refine Ex.done (hK _ _ ?_)
  refine At.then_n ?_
  refine W.ret ?_
  refine At.then_r ?_
  refine At.ret1 (.cell 6 49) rfl ⟨⟨_, rfl, run_loadVarA (l := [_, _, _, _, _]) Tryz.underlying49 rfl sz49 ⟨_, _, _, (by first | exact M.at_ 0 rfl | exact M.at_ 1 rfl | exact M.at_ 2 rfl | exact M.at_ 3 rfl | exact M.at_ 4 rfl | exact M.at_ 5 rfl | exact M.at_ 6 rfl | exact M.at_ 7 rfl), rfl⟩ (Nat.zero_lt_succ _)⟩, trivial⟩ ?_
  exact post_bad hR M.tail.tail (by unfold renameS; rw [if_neg hco1])
 ·try simp only [sA, sB, sC, sD, sE, sF, ne_eq, Bool.not_eq_eq_eq_not, Bool.not_true, Bool.not_false, sK, sL, Bool.not_not, gt_iff_lt, ge_iff_le] at hco1
  refine W.skip ?_
  refine At.then_n ?_
  refine W.seq ?_
  refine W.seq ?_
  refine W.sub [(0, _), (1, _), (6, _), (7, _)] ⟨rfl, rfl, rfl, rfl, trivial⟩ ?_
  refine W.reg [(0, false), (1, false), (2, false), (3, false), (4, false), (5, false), (6, true), (7, false)] (by kernel_rfl) ?_
  intro K hK
  refine x_move rfl rfl rfl rfl ?_
  refine x_nil rfl rfl rfl rfl rfl ?_
  refine x_fa rfl rfl rfl fo90_1 rfl ?_
  refine x_ld rfl rfl rfl Tryz.underlying83 rfl rfl (cell_of (fs_at M (fun y (hy : y ∈ fsB bf bv (usedL l) S) => by simp [hy])) rfl) ?_
  refine x_move rfl rfl rfl rfl ?_
  refine x_move rfl rfl rfl rfl ?_
  refine x_call rfl rfl rfl rfl rfl en105 (rename_r (x := p) (y := (cleanP o.q).1) (St.tri (X := [_, _]) M) hR.tr) ?_
  rintro r_ w3 ⟨E3, rfl, hT3, M⟩
  rw [bare_rename] at hT3 ⊢
  have M := St.tro (X := [_, _]) M
  refine ⟨trivial, ?_⟩
  refine x_assign rfl rfl rfl rfl ?_
  refine Ex.done (hK _ _ ?_)
  refine At.then_n ?_
  refine W.seq ?_
  refine W.sub [(0, _), (1, _), (6, _), (7, _), (9, _)] ⟨rfl, rfl, rfl, rfl, rfl, trivial⟩ ?_
  refine W.reg [(0, false), (1, false), (2, false), (3, false), (4, false), (5, false), (6, false)] (by kernel_rfl) ?_
  intro K hK
  refine x_move rfl rfl rfl rfl ?_
  refine x_nei _ rfl rfl rfl rfl rfl rfl ?_
  refine x_move rfl rfl rfl rfl ?_
  refine Ex.split 35 rfl (fun hsp1 => ?_) (fun hsp1 => ?_)
  ·
   try simp only [sA, sB, sC, sD, sE, sF, ne_eq, Bool.not_eq_eq_eq_not, Bool.not_true, Bool.not_false, sK, sL, Bool.not_not, gt_iff_lt, ge_iff_le] at hsp1
   refine Ex.skip_ rfl rfl rfl ?_
   refine Ex.skip_ rfl rfl rfl ?_
   refine Ex.skip_ rfl rfl rfl ?_
   refine x_pickT rfl rfl rfl rfl rfl ?_
   refine Ex.done (hK _ _ ?_)
   refine At.then_n ?_
   refine W.condT rfl ?_
   refine W.seq ?_
   refine W.sub [(6, _), (9, _)] ⟨rfl, rfl, trivial⟩ ?_
   refine W.reg [(0, false), (1, true), (2, true)] (by kernel_rfl) ?_
   intro K hK
   refine x_move rfl rfl rfl rfl ?_
   refine x_call rfl rfl rfl rfl rfl en40 (fail_c) ?_
   rintro r_ wcall4 ⟨rfl, hncall4⟩
   have M := M.new hncall4
   refine ⟨trivial, ?_⟩
   refine x_st [_, _, _, _, _] _ rfl rfl rfl sz49 rfl rfl rfl rfl (by first | exact M.at_ 0 rfl | exact M.at_ 1 rfl | exact M.at_ 2 rfl | exact M.at_ 3 rfl | exact M.at_ 4 rfl | exact M.at_ 5 rfl | exact M.at_ 6 rfl | exact M.at_ 7 rfl) rfl rfl rfl ?_
   intro wst2 hwst2
   have M := by first | exact M.put 0 rfl hwst2 | exact M.put 1 rfl hwst2 | exact M.put 2 rfl hwst2 | exact M.put 3 rfl hwst2 | exact M.put 4 rfl hwst2 | exact M.put 5 rfl hwst2 | exact M.put 6 rfl hwst2 | exact M.put 7 rfl hwst2
   refine ⟨trivial, ?_⟩
   refine Ex.done (hK _ _ ?_)
   refine At.then_n ?_
   refine W.ret ?_
   refine At.then_r ?_
   refine At.ret1 (.cell 6 49) rfl ⟨⟨_, rfl, run_loadVarA (l := [_, _, _, _, _]) Tryz.underlying49 rfl sz49 ⟨_, _, _, (by first | exact M.at_ 0 rfl | exact M.at_ 1 rfl | exact M.at_ 2 rfl | exact M.at_ 3 rfl | exact M.at_ 4 rfl | exact M.at_ 5 rfl | exact M.at_ 6 rfl | exact M.at_ 7 rfl), rfl⟩ (Nat.zero_lt_succ _)⟩, trivial⟩ ?_
   exact post_bad (hR.tree (by rw [renameL_bad hsp1] at hT3; exact hT3) (fun _ _ => Iff.rfl) hR.dd hR.us) M.tail.tail (by unfold renameS; rw [if_pos hco1, if_neg hsp1])
  ·
   try simp only [sA, sB, sC, sD, sE, sF, ne_eq, Bool.not_eq_eq_eq_not, Bool.not_true, Bool.not_false, sK, sL, Bool.not_not, gt_iff_lt, ge_iff_le] at hsp1
   refine x_move rfl rfl rfl rfl ?_
   refine x_move rfl rfl rfl rfl ?_
   refine x_eqS _ rfl rfl rfl rfl rfl rfl ?_
   refine x_pickF rfl rfl rfl rfl rfl ?_
   refine Ex.done (hK _ _ ?_)
   refine At.then_n ?_
   refine W.cond rfl (fun hco3 => ?_) (fun hco3 => ?_)
   ·try simp only [sA, sB, sC, sD, sE, sF, ne_eq, Bool.not_eq_eq_eq_not, Bool.not_true, Bool.not_false, sK, sL, Bool.not_not, gt_iff_lt, ge_iff_le] at hco3
    refine W.seq ?_
    refine W.sub [(6, _), (9, _)] ⟨rfl, rfl, trivial⟩ ?_
    refine W.reg [(0, false), (1, true), (2, true)] (by kernel_rfl) ?_
    intro K hK
    refine x_move rfl rfl rfl rfl ?_
    refine x_call rfl rfl rfl rfl rfl en40 (fail_c) ?_
    rintro r_ wcall5 ⟨rfl, hncall5⟩
    have M := M.new hncall5
    refine ⟨trivial, ?_⟩
    refine x_st [_, _, _, _, _] _ rfl rfl rfl sz49 rfl rfl rfl rfl (by first | exact M.at_ 0 rfl | exact M.at_ 1 rfl | exact M.at_ 2 rfl | exact M.at_ 3 rfl | exact M.at_ 4 rfl | exact M.at_ 5 rfl | exact M.at_ 6 rfl | exact M.at_ 7 rfl) rfl rfl rfl ?_
    intro wst3 hwst3
    have M := by first | exact M.put 0 rfl hwst3 | exact M.put 1 rfl hwst3 | exact M.put 2 rfl hwst3 | exact M.put 3 rfl hwst3 | exact M.put 4 rfl hwst3 | exact M.put 5 rfl hwst3 | exact M.put 6 rfl hwst3 | exact M.put 7 rfl hwst3
    refine ⟨trivial, ?_⟩
    refine Ex.done (hK _ _ ?_)
    refine At.then_n ?_
    refine W.ret ?_
    refine At.then_r ?_
    refine At.ret1 (.cell 6 49) rfl ⟨⟨_, rfl, run_loadVarA (l := [_, _, _, _, _]) Tryz.underlying49 rfl sz49 ⟨_, _, _, (by first | exact M.at_ 0 rfl | exact M.at_ 1 rfl | exact M.at_ 2 rfl | exact M.at_ 3 rfl | exact M.at_ 4 rfl | exact M.at_ 5 rfl | exact M.at_ 6 rfl | exact M.at_ 7 rfl), rfl⟩ (Nat.zero_lt_succ _)⟩, trivial⟩ ?_
    have hl := rename_same (l := l) (x := p) (by have := hsp1; rw [← hco3] at this; exact this)
    exact post_bad (e := (renameL l p (cleanP o.q).1).2) (hR.tree (by rw [← hco3, hl] at hT3; exact hT3) (fun _ _ => Iff.rfl) hR.dd hR.us) M.tail.tail (by unfold renameS; rw [if_pos hco1, if_pos hsp1, hsp1, ← hco3, hl, movH_self])
   ·try simp only [sA, sB, sC, sD, sE, sF, ne_eq, Bool.not_eq_eq_eq_not, Bool.not_true, Bool.not_false, sK, sL, Bool.not_not, gt_iff_lt, ge_iff_le] at hco3
    have hne : p ≠ (cleanP o.q).1 := hco3
    have hb0 : (renameL (bareL l) p (cleanP o.q).1).2 = 0 := by rw [bare_rename]; exact hsp1
    obtain ⟨mok, _⟩ := mv_ok hR.tr hb0 hne
    have hyl := splitE_len mok.fy.1
    have hy0 : (cleanP o.q).1 ≠ [] := fun e => mok.fy.2 (by rw [e]; rfl)
    have hkl : ∀ c ∈ S.C, c.k.length ≤ 120 := fun c hc => hR.tr.names _ (List.mem_map.2 ⟨_, hR.row hc, rfl⟩)
    refine W.skip ?_
    refine At.then_n ?_
    refine W.seq ?_
    refine W.sub [(0, _), (1, _), (6, _), (7, _)] ⟨rfl, rfl, rfl, rfl, trivial⟩ ?_
    refine W.reg [(0, true), (1, false)] (by kernel_rfl) ?_
    intro K hK
    refine x_mkmap rfl rfl rfl ?_
    intro bmm1 wmm1 hbmm1 hwmm1
    have M := M.acons hbmm1 hwmm1
    refine ⟨trivial, ?_⟩
    refine x_assign rfl rfl rfl rfl ?_
    refine Ex.done (hK _ _ ?_)
    refine At.then_n ?_
    refine W.seq ?_
    refine W.seq ?_
    refine W.sub [(0, _), (1, _), (6, _), (7, _), (10, _)] ⟨rfl, rfl, rfl, rfl, rfl, trivial⟩ ?_
    refine W.reg [(0, false), (1, false), (2, false), (3, false), (4, true)] (by kernel_rfl) ?_
    intro K hK
    refine x_move rfl rfl rfl rfl ?_
    refine x_nil rfl rfl rfl rfl rfl ?_
    refine x_fa rfl rfl rfl fo90_2 rfl ?_
    refine x_ld rfl rfl rfl Tryz.underlying84 rfl rfl (cell_of (fs_at M (fun y (hy : y ∈ fsB bf bv (usedL l) { S with E := E3 }) => by simp [hy])) rfl) ?_
    refine x_rngM (enc := strV) (g := cmap S.C) (o := S.om) (r := S.bm) rfl rfl rfl Tryz.underlying84 rfl (M.get (by simp [fsB])) hR.mp ?_
    intro bit wit ito0 hbit hwit hIt0
    have M := M.acons hbit hwit
    refine ⟨trivial, ?_⟩
    refine Ex.done (hK _ _ ?_)
    refine At.then_n ?_
    refine W.block ?_
    refine W.loop (σ := List (List UInt8) × Obj × Obj × (List UInt8 → Option Value)) (fun q => [(0, _), (1, _), (6, _), (7, _), (10, _), (47, _)]) (fun q w => ItO strV S.om q.2.1 S.bm (cmap S.C) q.1 ∧ MapF strV q.2.2.1 q.2.2.2 ∧ MovM S.C p (cleanP o.q).1 q.1 q.2.2.2 ∧ Sep w00 ((bit, q.2.1) :: (bmm1, q.2.2.1) :: (bal1, .cells [.int .i64 0, .int .i64 0, .int .i64 0, .slice none 0 0, .slice none 0 0].toArray 49 (0, 0)) :: (bbx1, .cells (opC o (.slice pd o.d.length cd)).toArray 52 (0, 0)) :: (fsB bf bv (usedL l) { S with E := E3 } ++ (Lb ++ L))) w) (fun q => leftC S.C q.1) ([], ito0, .map #[] 0, fun _ => none) ⟨rfl, rfl, rfl, rfl, rfl, rfl, trivial⟩ ⟨hIt0, MapF.made, MovM.nil _ _ _, M⟩ ?_
    rintro ⟨vis, ito, om2, g2⟩ w ⟨hIt, hm2, hMv, M⟩
    simp only at hIt hm2 hMv M
    refine W.seq ?_
    refine W.sub [(0, _), (1, _), (6, _), (7, _), (10, _), (47, _)] ⟨rfl, rfl, rfl, rfl, rfl, rfl, trivial⟩ ?_
    refine W.reg [(0, true), (1, false)] (by kernel_rfl) ?_
    intro K hK
    refine x_nxtM (enc := strV) rfl rfl rfl rfl (M.at_ 0 rfl) (M.get (by simp [fsB])) hIt ?_
    intro vs wn hvs
    obtain ⟨bb, ito2, hv0, hw2, hend, hmore⟩ := nxt_split (ito := ito) hvs
    have M : Sep w00 ((bit, ito2) :: (bmm1, om2) :: (bal1, .cells [.int .i64 0, .int .i64 0, .int .i64 0, .slice none 0 0, .slice none 0 0].toArray 49 (0, 0)) :: (bbx1, .cells (opC o (.slice pd o.d.length cd)).toArray 52 (0, 0)) :: (fsB bf bv (usedL l) { S with E := E3 } ++ (Lb ++ L))) wn := by
     rcases hw2 with ⟨rfl, rfl⟩ | ⟨w9, h9, rfl⟩
     ·exact M
     ·rcases h9 with rfl | rfl
      ·exact M.put 0 rfl rfl
      ·exact (M.drew rfl).put 0 rfl rfl
    refine ⟨trivial, ?_⟩
    refine x_ext rfl rfl rfl rfl hv0 ?_
    refine Ex.done (hK _ _ ?_)
    refine At.then_n ?_
    refine W.seq ?_
    refine W.cond rfl (fun hco4 => ?_) (fun hco4 => ?_)
    ·try simp only [sA, sB, sC, sD, sE, sF, ne_eq, Bool.not_eq_eq_eq_not, Bool.not_true, Bool.not_false, sK, sL, Bool.not_not, gt_iff_lt, ge_iff_le] at hco4
     obtain ⟨k, v, hgk, hnv, hIt2, hLa⟩ := hmore hco4
     obtain ⟨c, hcg, hve⟩ : ∃ c, cget S.C k = some c ∧ v = ptr c.b := by
      unfold cmap at hgk
      cases hg : cget S.C k with
      | none => rw [hg] at hgk; cases hgk
      | some c => rw [hg] at hgk; exact ⟨c, rfl, (Option.some.inj hgk).symm⟩
     subst hve
     obtain ⟨hc, hck⟩ := cget_mem hcg
     have hk120 := hkl c hc
     rw [hck] at hk120
     have hdec : leftC S.C (k :: vis) < leftC S.C vis := by rw [← hck] at hnv ⊢; exact leftC_lt hc hnv
     have hstep := hMv.step (k := k) (c := c) (fun k2 hk2 c2 hc2 e => by
      obtain ⟨g1, g2_⟩ := cget_mem hc2
      have := hR.mvinj hsp1 hne (hR.row g1) (hR.row hc) (by rw [g2_, hck]; exact e)
      rw [← g2_, ← hck]; exact this) hnv hcg
     refine W.skip ?_
     refine At.then_n ?_
     refine W.block ?_
     refine W.seq ?_
     refine W.sub [(0, _), (1, _), (6, _), (7, _), (10, _), (47, _)] ⟨rfl, rfl, rfl, rfl, rfl, rfl, trivial⟩ ?_
     refine W.reg [(0, true), (1, false), (2, false), (3, false), (4, false)] (by kernel_rfl) ?_
     intro K hK
     refine (fun (hh : _ ∧ _) => x_ent rfl rfl rfl rfl (M.at_ 0 rfl) (M.get (by simp [fsB])) hLa hh.1 hh.2) ?_
     refine ⟨trivial, ?_⟩
     refine x_ext rfl rfl rfl rfl rfl ?_
     refine x_ext rfl rfl rfl rfl rfl ?_
     refine x_assign rfl rfl rfl rfl ?_
     refine x_assign rfl rfl rfl rfl ?_
     refine Ex.done (hK _ _ ?_)
     refine At.then_n ?_
     refine W.seq ?_
     refine W.seq ?_
     refine W.sub [(0, _), (1, _), (6, _), (7, _), (10, _), (11, _), (12, _), (47, _)] ⟨rfl, rfl, rfl, rfl, rfl, rfl, rfl, rfl, trivial⟩ ?_
     refine W.reg [(0, false), (1, false), (2, true)] (by kernel_rfl) ?_
     intro K hK
     refine x_move rfl rfl rfl rfl ?_
     refine x_move rfl rfl rfl rfl ?_
     refine x_call rfl rfl rfl rfl rfl en106 (under_c) ?_
     rintro r wcall6 ⟨rfl, hncall6⟩
     have M := M.new hncall6
     refine ⟨trivial, ?_⟩
     refine Ex.done (hK _ _ ?_)
     refine At.then_n ?_
     refine W.cond rfl (fun hco5 => ?_) (fun hco5 => ?_)
     ·try simp only [sA, sB, sC, sD, sE, sF, ne_eq, Bool.not_eq_eq_eq_not, Bool.not_true, Bool.not_false, sK, sL, Bool.not_not, gt_iff_lt, ge_iff_le] at hco5
      have hul := under_len hco5
      have hmv : movP p (cleanP o.q).1 k = (cleanP o.q).1 ++ k.drop p.length := by unfold movP; rw [if_pos hco5]
      rw [hmv] at hstep
      refine W.sub [(0, _), (1, _), (6, _), (7, _), (10, _), (11, _), (12, _), (47, _)] ⟨rfl, rfl, rfl, rfl, rfl, rfl, rfl, rfl, trivial⟩ ?_
      refine W.reg [(0, false), (1, false), (2, false), (3, false), (4, false), (5, false), (6, false)] (by kernel_rfl) ?_
      intro K hK
      refine x_move rfl rfl rfl rfl ?_
      refine x_move rfl rfl rfl rfl ?_
      refine x_move rfl rfl rfl rfl ?_
      refine x_lenS rfl rfl rfl rfl Tryz.underlying9 rfl ?_
      refine x_sslS p.length rfl rfl rfl Tryz.underlying9 rfl rfl rfl (by omega) ?_
      refine x_catS rfl rfl rfl rfl rfl (by simp; omega) ?_
      refine x_assign rfl rfl rfl rfl ?_
      refine Ex.done (hK _ _ ?_)
      refine At.then_n ?_
      refine W.sub [(0, _), (1, _), (6, _), (7, _), (10, _), (11, _), (12, _), (47, _)] ⟨rfl, rfl, rfl, rfl, rfl, rfl, rfl, rfl, trivial⟩ ?_
      refine W.reg [(0, false), (1, false), (2, false), (3, true)] (by kernel_rfl) ?_
      intro K hK
      refine x_move rfl rfl rfl rfl ?_
      refine x_move rfl rfl rfl rfl ?_
      refine x_move rfl rfl rfl rfl ?_
      refine x_mup (enc := strV) ((cleanP o.q).1 ++ k.drop p.length) rfl rfl rfl (strKey Tryz.underlying9) Tryz.underlying84 rfl rfl rfl (M.at_ 1 rfl) hm2 ?_
      intro omu1 wmu1 hmmu1 hwmu1
      have M : Sep w00 ((bit, ito2) :: (bmm1, omu1) :: (bal1, .cells [.int .i64 0, .int .i64 0, .int .i64 0, .slice none 0 0, .slice none 0 0].toArray 49 (0, 0)) :: (bbx1, .cells (opC o (.slice pd o.d.length cd)).toArray 52 (0, 0)) :: (fsB bf bv (usedL l) { S with E := E3 } ++ (Lb ++ L))) wmu1 := M.put 1 rfl hwmu1
      refine ⟨trivial, ?_⟩
      refine Ex.done (hK _ _ ?_)
      refine At.blk_n ?_
      exact At.back ((k :: vis, ito2, omu1, setF g2 ((cleanP o.q).1 ++ k.drop p.length) (some (ptr c.b)))) ⟨rfl, rfl, rfl, rfl, rfl, rfl, trivial⟩ ⟨hIt2, hmmu1, hstep, M⟩ (by first | omega | (simp only; omega) | (simp; done) | (simp; omega))
     ·try simp only [sA, sB, sC, sD, sE, sF, ne_eq, Bool.not_eq_eq_eq_not, Bool.not_true, Bool.not_false, sK, sL, Bool.not_not, gt_iff_lt, ge_iff_le] at hco5
      have hmv : movP p (cleanP o.q).1 k = k := by unfold movP; rw [if_neg (by simp [hco5])]
      rw [hmv] at hstep
      refine W.skip ?_
      refine At.then_n ?_
      refine W.sub [(0, _), (1, _), (6, _), (7, _), (10, _), (11, _), (12, _), (47, _)] ⟨rfl, rfl, rfl, rfl, rfl, rfl, rfl, rfl, trivial⟩ ?_
      refine W.reg [(0, false), (1, false), (2, false), (3, true)] (by kernel_rfl) ?_
      intro K hK
      refine x_move rfl rfl rfl rfl ?_
      refine x_move rfl rfl rfl rfl ?_
      refine x_move rfl rfl rfl rfl ?_
      refine x_mup (enc := strV) k rfl rfl rfl (strKey Tryz.underlying9) Tryz.underlying84 rfl rfl rfl (M.at_ 1 rfl) hm2 ?_
      intro omu2 wmu2 hmmu2 hwmu2
      have M : Sep w00 ((bit, ito2) :: (bmm1, omu2) :: (bal1, .cells [.int .i64 0, .int .i64 0, .int .i64 0, .slice none 0 0, .slice none 0 0].toArray 49 (0, 0)) :: (bbx1, .cells (opC o (.slice pd o.d.length cd)).toArray 52 (0, 0)) :: (fsB bf bv (usedL l) { S with E := E3 } ++ (Lb ++ L))) wmu2 := M.put 1 rfl hwmu2
      refine ⟨trivial, ?_⟩
      refine Ex.done (hK _ _ ?_)
      refine At.blk_n ?_
      exact At.back ((k :: vis, ito2, omu2, setF g2 k (some (ptr c.b)))) ⟨rfl, rfl, rfl, rfl, rfl, rfl, trivial⟩ ⟨hIt2, hmmu2, hstep, M⟩ (by first | omega | (simp only; omega) | (simp; done) | (simp; omega))
    ·try simp only [sA, sB, sC, sD, sE, sF, ne_eq, Bool.not_eq_eq_eq_not, Bool.not_true, Bool.not_false, sK, sL, Bool.not_not, gt_iff_lt, ge_iff_le] at hco4
     have hall := hend hco4
     obtain ⟨hR4, hU4⟩ := hR.rename (bm := bmm1) hsp1 hne hy0 hT3 hm2 hMv hall
     refine W.exit ?_
     refine At.then_x ?_
     refine At.loop_x ?_
     refine At.blk_x ?_
     refine At.then_n ?_
     refine W.seq ?_
     refine W.sub [(0, _), (1, _), (6, _), (7, _), (10, _)] ⟨rfl, rfl, rfl, rfl, rfl, trivial⟩ ?_
     refine W.reg [(0, false), (1, false), (2, false), (3, false), (4, true)] (by kernel_rfl) ?_
     intro K hK
     refine x_move rfl rfl rfl rfl ?_
     refine x_move rfl rfl rfl rfl ?_
     refine x_nil rfl rfl rfl rfl rfl ?_
     refine x_fa rfl rfl rfl fo90_2 rfl ?_
     refine x_st [_] (fsC bv (usedL l) { S with E := E3, bm := bmm1 }) rfl rfl rfl sz84 rfl rfl rfl rfl (fs_at M (fun y (hy : y ∈ fsB bf bv (usedL l) { S with E := E3 }) => by simp [hy])) rfl (by rw [fsC_len (S := { S with E := E3 }) hR.hl]; rfl) (fsC_map (S := { S with E := E3 })) ?_
     intro wst4 hwst4
     have M := fs_moved (S := { S with E := E3 }) (M.put 4 rfl hwst4)
     refine ⟨trivial, ?_⟩
     refine Ex.done (hK _ _ ?_)
     refine At.then_n ?_
     refine W.seq ?_
     refine W.seq ?_
     refine W.sub [(0, _), (1, _), (6, _), (7, _)] ⟨rfl, rfl, rfl, rfl, trivial⟩ ?_
     refine W.reg [(0, false)] (by kernel_rfl) ?_
     intro K hK
     refine x_move rfl rfl rfl rfl ?_
     refine Ex.done (hK _ _ ?_)
     refine At.then_n ?_
     refine W.block ?_
     refine W.loop (σ := Nat) (fun q => [(0, _), (1, _), (6, _), (7, _), (69, .int .i64 ((q : Nat) : Int))]) (fun q w => q ≤ 8 ∧ Sep w00 ((bal1, .cells [.int .i64 0, .int .i64 0, .int .i64 0, .slice none 0 0, .slice none 0 0].toArray 49 (0, 0)) :: (bbx1, .cells (opC o (.slice pd o.d.length cd)).toArray 52 (0, 0)) :: (fsB bf bv (usedL l) { S with E := E3, bm := bmm1, om := om2, hs := movHs S.hs p (cleanP o.q).1 (16 * q) } ++ (Lb ++ L))) w) (fun q => 8 - q) 0 ⟨rfl, rfl, rfl, rfl, rfl, trivial⟩ ⟨by omega, by rw [Nat.mul_zero, movHs_zero]; exact M⟩ ?_
     rintro q w ⟨hq8, M⟩
     refine W.seq ?_
     refine W.sub [(0, _), (1, _), (6, _), (7, _), (69, _)] ⟨rfl, rfl, rfl, rfl, rfl, trivial⟩ ?_
     refine W.reg [(0, false)] (by kernel_rfl) ?_
     intro K hK
     refine x_lss _ rfl rfl rfl rfl rfl rfl ?_
     refine Ex.done (hK _ _ ?_)
     refine At.then_n ?_
     refine W.seq ?_
     refine W.cond rfl (fun hco6 => ?_) (fun hco6 => ?_)
     ·try simp only [sA, sB, sC, sD, sE, sF, ne_eq, Bool.not_eq_eq_eq_not, Bool.not_true, Bool.not_false, sK, sL, Bool.not_not, gt_iff_lt, ge_iff_le] at hco6
      refine W.skip ?_
      refine At.then_n ?_
      refine W.seq ?_
      refine W.block ?_
      refine W.seq ?_
      refine W.sub [(0, _), (1, _), (6, _), (7, _), (69, _)] ⟨rfl, rfl, rfl, rfl, rfl, trivial⟩ ?_
      refine W.reg [(0, false), (1, false)] (by kernel_rfl) ?_
      intro K hK
      refine x_move rfl rfl rfl rfl ?_
      refine x_assign rfl rfl rfl rfl ?_
      refine Ex.done (hK _ _ ?_)
      refine At.then_n ?_
      refine W.seq ?_
      refine W.sub [(0, _), (1, _), (6, _), (7, _), (13, _), (69, _)] ⟨rfl, rfl, rfl, rfl, rfl, rfl, trivial⟩ ?_
      refine W.reg [(0, false), (1, false), (2, true), (3, false), (4, false)] (by kernel_rfl) ?_
      intro K hK
      refine x_move rfl rfl rfl rfl ?_
      refine x_move rfl rfl rfl rfl ?_
      refine x_call rfl rfl rfl rfl rfl en49 (handles_c (by omega)) ?_
      rintro r_ w_ ⟨rfl, rfl⟩
      refine ⟨trivial, ?_⟩
      refine x_len rfl rfl rfl rfl Tryz.underlying116 rfl ?_
      refine x_move rfl rfl rfl rfl ?_
      refine Ex.done (hK _ _ ?_)
      refine At.then_n ?_
      refine W.block ?_
      refine W.loop (σ := Nat) (fun i => [(0, _), (1, _), (6, _), (7, _), (13, _), (69, _), (74, _), (75, _), (76, .int .i64 ((i : Nat) : Int))]) (fun i w => i ≤ 16 ∧ Sep w00 ((bal1, .cells [.int .i64 0, .int .i64 0, .int .i64 0, .slice none 0 0, .slice none 0 0].toArray 49 (0, 0)) :: (bbx1, .cells (opC o (.slice pd o.d.length cd)).toArray 52 (0, 0)) :: (fsB bf bv (usedL l) { S with E := E3, bm := bmm1, om := om2, hs := movHs S.hs p (cleanP o.q).1 (16 * q + i) } ++ (Lb ++ L))) w) (fun i => 16 - i) 0 ⟨rfl, rfl, rfl, rfl, rfl, rfl, rfl, rfl, rfl, trivial⟩ ⟨by omega, M⟩ ?_
      rintro i w ⟨hi16, M⟩
      refine W.seq ?_
      refine W.sub [(0, _), (1, _), (6, _), (7, _), (13, _), (69, _), (74, _), (75, _), (76, _)] ⟨rfl, rfl, rfl, rfl, rfl, rfl, rfl, rfl, rfl, trivial⟩ ?_
      refine W.reg [(0, false)] (by kernel_rfl) ?_
      intro K hK
      refine x_lss _ rfl rfl rfl rfl rfl rfl ?_
      refine Ex.done (hK _ _ ?_)
      refine At.then_n ?_
      refine W.seq ?_
      refine W.cond rfl (fun hco7 => ?_) (fun hco7 => ?_)
      ·try simp only [sA, sB, sC, sD, sE, sF, ne_eq, Bool.not_eq_eq_eq_not, Bool.not_true, Bool.not_false, sK, sL, Bool.not_not, gt_iff_lt, ge_iff_le] at hco7
       obtain ⟨h, hq⟩ := get_lt (l := S.hs) (q := 16 * q + i) (by rw [hR.hl]; omega)
       have hq2 := movHs_get (x := p) (y := (cleanP o.q).1) hq
       have hfs := fs_at M (fun y (hy : y ∈ fsB bf bv (usedL l) { S with E := E3, bm := bmm1, om := om2, hs := movHs S.hs p (cleanP o.q).1 (16 * q + i) }) => by simp [hy])
       have hml : (movHs S.hs p (cleanP o.q).1 (16 * q + i)).length = 128 := by rw [movHs_len, hR.hl]
       have hrow := (row_sl (S := { S with E := E3, bm := bmm1, om := om2, hs := movHs S.hs p (cleanP o.q).1 (16 * q + i) }) (off := 0 + 3 + q * 32) hml (by omega : q < 8) hfs (by omega)).row (j := i) (l := [strV h.1, .bool h.2]) rfl (flat_drop (m := 2) (e1 := fun h : Hd => [strV h.1, .bool h.2]) (by decide) (fun _ _ => rfl) (row_at (S := { S with E := E3, bm := bmm1, om := om2, hs := movHs S.hs p (cleanP o.q).1 (16 * q + i) }) hq2 (by omega))) (by simp)
       refine W.skip ?_
       refine At.then_n ?_
       refine W.seq ?_
       refine W.block ?_
       refine W.seq ?_
       refine W.sub [(0, _), (1, _), (6, _), (7, _), (13, _), (69, _), (74, _), (75, _), (76, _)] ⟨rfl, rfl, rfl, rfl, rfl, rfl, rfl, rfl, rfl, trivial⟩ ?_
       refine W.reg [(0, false), (1, false), (2, false), (3, true), (4, false), (5, true)] (by kernel_rfl) ?_
       intro K hK
       refine x_move rfl rfl rfl rfl ?_
       refine x_ia i rfl rfl rfl Tryz.underlying116 sz86 rfl rfl rfl (by omega) ?_
       refine x_ldA [_, _] rfl rfl rfl Tryz.underlying86 rfl sz86 rfl rfl hrow ?_
       refine x_alloc [_, _] rfl rfl rfl ze86 rfl ?_
       intro bal2 wal2 hbal2 hwal2
       have M := M.acons hbal2 hwal2
       refine ⟨trivial, ?_⟩
       refine x_assign rfl rfl rfl rfl ?_
       refine x_st [_, _] _ rfl rfl rfl sz86 rfl rfl rfl rfl (by first | exact M.at_ 0 rfl | exact M.at_ 1 rfl | exact M.at_ 2 rfl | exact M.at_ 3 rfl | exact M.at_ 4 rfl | exact M.at_ 5 rfl | exact M.at_ 6 rfl | exact M.at_ 7 rfl) rfl rfl rfl ?_
       intro wst5 hwst5
       have M := by first | exact M.put 0 rfl hwst5 | exact M.put 1 rfl hwst5 | exact M.put 2 rfl hwst5 | exact M.put 3 rfl hwst5 | exact M.put 4 rfl hwst5 | exact M.put 5 rfl hwst5 | exact M.put 6 rfl hwst5 | exact M.put 7 rfl hwst5
       refine ⟨trivial, ?_⟩
       refine Ex.done (hK _ _ ?_)
       refine At.then_n ?_
       refine W.seq ?_
       refine W.sub [(0, _), (1, _), (6, _), (7, _), (13, _), (14, _), (15, _), (69, _), (74, _), (75, _), (76, _)] ⟨rfl, rfl, rfl, rfl, rfl, rfl, rfl, rfl, rfl, rfl, rfl, trivial⟩ ?_
       refine W.reg [(0, false), (1, false), (2, false), (3, false), (4, false), (5, false), (6, false), (7, true), (8, false)] (by kernel_rfl) ?_
       intro K hK
       refine x_fa rfl rfl rfl fo86_0 rfl ?_
       refine x_ld rfl rfl rfl Tryz.underlying9 rfl rfl (cell_of (by first | exact M.at_ 0 rfl | exact M.at_ 1 rfl | exact M.at_ 2 rfl | exact M.at_ 3 rfl | exact M.at_ 4 rfl | exact M.at_ 5 rfl | exact M.at_ 6 rfl | exact M.at_ 7 rfl) rfl) ?_
       refine x_neS _ rfl rfl rfl rfl rfl rfl ?_
       refine x_move rfl rfl rfl rfl ?_
       refine Ex.split 84 rfl (fun hsp2 => ?_) (fun hsp2 => ?_)
       ·
        try simp only [sA, sB, sC, sD, sE, sF, ne_eq, Bool.not_eq_eq_eq_not, Bool.not_true, Bool.not_false, sK, sL, Bool.not_not, gt_iff_lt, ge_iff_le] at hsp2
        refine x_fa rfl rfl rfl fo86_0 rfl ?_
        refine x_ld rfl rfl rfl Tryz.underlying9 rfl rfl (cell_of (by first | exact M.at_ 0 rfl | exact M.at_ 1 rfl | exact M.at_ 2 rfl | exact M.at_ 3 rfl | exact M.at_ 4 rfl | exact M.at_ 5 rfl | exact M.at_ 6 rfl | exact M.at_ 7 rfl) rfl) ?_
        refine x_move rfl rfl rfl rfl ?_
        refine x_call rfl rfl rfl rfl rfl en106 (under_c) ?_
        rintro r wcall8 ⟨rfl, hncall8⟩
        have M := M.new hncall8
        refine ⟨trivial, ?_⟩
        refine x_pickT rfl rfl rfl rfl rfl ?_
        refine Ex.done (hK _ _ ?_)
        refine At.then_n ?_
        refine W.cond rfl (fun hco8 => ?_) (fun hco8 => ?_)
        ·try simp only [sA, sB, sC, sD, sE, sF, ne_eq, Bool.not_eq_eq_eq_not, Bool.not_true, Bool.not_false, sK, sL, Bool.not_not, gt_iff_lt, ge_iff_le] at hco8
         have hul := under_len hco8
         have hmh : movHd p (cleanP o.q).1 h = ((cleanP o.q).1 ++ h.1.drop p.length, h.2) := by unfold movHd; rw [if_pos ⟨hsp2, hco8⟩]
         obtain ⟨dd, hdd⟩ := hR.ho h (List.mem_of_getElem? hq) hsp2
         have hhl : h.1.length ≤ 120 := hR.tr.names _ (List.mem_map.2 ⟨_, hdd, rfl⟩)
         refine W.sub [(0, _), (1, _), (6, _), (7, _), (13, _), (14, _), (15, _), (69, _), (74, _), (75, _), (76, _)] ⟨rfl, rfl, rfl, rfl, rfl, rfl, rfl, rfl, rfl, rfl, rfl, trivial⟩ ?_
         refine W.regD (by kernel_rfl) #[0, 0, 0, 0, 0, 16, 0, 64, 240, 504, 1, 1025, 3075, 8191, 16383, 32767] [(0, false), (1, false), (2, false), (3, false), (4, false), (5, false), (6, false), (7, false), (8, false), (9, false), (10, false), (11, false), (12, false), (13, false), (14, false), (15, true)] (by kernel_rfl) ?_
         intro K wD1 hK hwD1
         have M := M.drew hwD1
         refine x_move rfl rfl rfl rfl ?_
         refine x_move rfl rfl rfl rfl ?_
         refine x_move rfl rfl rfl rfl ?_
         refine x_move rfl rfl rfl rfl ?_
         refine x_fa rfl rfl rfl fo86_0 rfl ?_
         refine x_ld rfl rfl rfl Tryz.underlying9 rfl rfl (cell_of (by first | exact M.at_ 0 rfl | exact M.at_ 1 rfl | exact M.at_ 2 rfl | exact M.at_ 3 rfl | exact M.at_ 4 rfl | exact M.at_ 5 rfl | exact M.at_ 6 rfl | exact M.at_ 7 rfl) rfl) ?_
         refine x_move rfl rfl rfl rfl ?_
         refine x_lenS rfl rfl rfl rfl Tryz.underlying9 rfl ?_
         refine x_sslS p.length rfl rfl rfl Tryz.underlying9 rfl rfl rfl (by omega) ?_
         refine x_catS rfl rfl rfl rfl rfl (by simp; omega) ?_
         refine x_nil rfl rfl rfl rfl rfl ?_
         refine x_fa rfl rfl rfl fo90_3 rfl ?_
         refine x_iaA q rfl rfl rfl Tryz.underlying88 sz87 rfl rfl rfl (by omega) ?_
         refine x_iaA i rfl rfl rfl Tryz.underlying87 sz86 rfl rfl rfl (by omega) ?_
         refine x_fa rfl rfl rfl fo86_0 rfl ?_
         refine x_st [_] (fsC bv (usedL l) { S with E := E3, bm := bmm1, om := om2, hs := movHs S.hs p (cleanP o.q).1 (16 * q + i + 1) }) rfl rfl rfl sz9 rfl rfl rfl rfl (fs_at M (fun y (hy : y ∈ fsB bf bv (usedL l) { S with E := E3, bm := bmm1, om := om2, hs := movHs S.hs p (cleanP o.q).1 (16 * q + i) }) => by simp [hy])) rfl (by rw [fsC_len (S := { S with E := E3, bm := bmm1, om := om2, hs := movHs S.hs p (cleanP o.q).1 (16 * q + i) }) hml]; exact Nat.ble_eq_true_of_le (by simp only [List.length_cons, List.length_nil]; omega)) (by rw [← movHs_set hq, hmh]; exact fsC_put1 (S := { S with E := E3, bm := bmm1, om := om2, hs := movHs S.hs p (cleanP o.q).1 (16 * q + i) }) hq2 (by omega)) ?_
         intro wst6 hwst6
         have M : Sep w00 ((bal2, _) :: ((bal1, .cells [.int .i64 0, .int .i64 0, .int .i64 0, .slice none 0 0, .slice none 0 0].toArray 49 (0, 0)) :: (bbx1, .cells (opC o (.slice pd o.d.length cd)).toArray 52 (0, 0)) :: (fsB bf bv (usedL l) { S with E := E3, bm := bmm1, om := om2, hs := movHs S.hs p (cleanP o.q).1 (16 * q + i + 1) } ++ (Lb ++ L)))) wst6 := M.put 3 rfl hwst6
         refine ⟨⟨.inl (by kernel_rfl), trivial⟩, ?_⟩
         refine Ex.done (hK _ _ ?_)
         refine At.blk_n ?_
         refine At.then_n ?_
         refine W.sub [(0, _), (1, _), (6, _), (7, _), (13, _), (69, _), (74, _), (75, _), (76, _)] ⟨rfl, rfl, rfl, rfl, rfl, rfl, rfl, rfl, rfl, trivial⟩ ?_
         refine W.reg [(0, false), (1, false)] (by kernel_rfl) ?_
         intro K hK
         refine x_add _ rfl rfl rfl rfl rfl (wadd (by omega) (by omega)) ?_
         refine x_move rfl rfl rfl rfl ?_
         refine Ex.done (hK _ _ ?_)
         exact At.back (i + 1) ⟨rfl, rfl, rfl, rfl, rfl, rfl, rfl, rfl, rfl, trivial⟩ ⟨by omega, M.tail⟩ (by first | omega | (simp only; omega) | (simp; done) | (simp; omega))
        ·try simp only [sA, sB, sC, sD, sE, sF, ne_eq, Bool.not_eq_eq_eq_not, Bool.not_true, Bool.not_false, sK, sL, Bool.not_not, gt_iff_lt, ge_iff_le] at hco8
         have hmh : movHd p (cleanP o.q).1 h = h := by unfold movHd; rw [if_neg (fun e => by rw [hco8] at e; cases e.2)]
         refine W.skip ?_
         refine At.blk_n ?_
         refine At.then_n ?_
         refine W.sub [(0, _), (1, _), (6, _), (7, _), (13, _), (69, _), (74, _), (75, _), (76, _)] ⟨rfl, rfl, rfl, rfl, rfl, rfl, rfl, rfl, rfl, trivial⟩ ?_
         refine W.reg [(0, false), (1, false)] (by kernel_rfl) ?_
         intro K hK
         refine x_add _ rfl rfl rfl rfl rfl (wadd (by omega) (by omega)) ?_
         refine x_move rfl rfl rfl rfl ?_
         refine Ex.done (hK _ _ ?_)
         exact At.back (i + 1) ⟨rfl, rfl, rfl, rfl, rfl, rfl, rfl, rfl, rfl, trivial⟩ ⟨by omega, by show Sep w00 _ _; rw [show 16 * q + (i + 1) = 16 * q + i + 1 from rfl, movHs_same hq hmh]; exact M.tail⟩ (by first | omega | (simp only; omega) | (simp; done) | (simp; omega))
       ·
        try simp only [sA, sB, sC, sD, sE, sF, ne_eq, Bool.not_eq_eq_eq_not, Bool.not_true, Bool.not_false, sK, sL, Bool.not_not, gt_iff_lt, ge_iff_le] at hsp2
        have hmh : movHd p (cleanP o.q).1 h = h := movHd_nil hsp2
        refine Ex.skip_ rfl rfl rfl ?_
        refine Ex.skip_ rfl rfl rfl ?_
        refine Ex.skip_ rfl rfl rfl ?_
        refine Ex.skipm_ rfl rfl rfl ?_
        refine x_pickF rfl rfl rfl rfl rfl ?_
        refine Ex.done (hK _ _ ?_)
        refine At.then_n ?_
        refine W.condF rfl ?_
        refine W.skip ?_
        refine At.blk_n ?_
        refine At.then_n ?_
        refine W.sub [(0, _), (1, _), (6, _), (7, _), (13, _), (69, _), (74, _), (75, _), (76, _)] ⟨rfl, rfl, rfl, rfl, rfl, rfl, rfl, rfl, rfl, trivial⟩ ?_
        refine W.reg [(0, false), (1, false)] (by kernel_rfl) ?_
        intro K hK
        refine x_add _ rfl rfl rfl rfl rfl (wadd (by omega) (by omega)) ?_
        refine x_move rfl rfl rfl rfl ?_
        refine Ex.done (hK _ _ ?_)
        exact At.back (i + 1) ⟨rfl, rfl, rfl, rfl, rfl, rfl, rfl, rfl, rfl, trivial⟩ ⟨by omega, by show Sep w00 _ _; rw [show 16 * q + (i + 1) = 16 * q + i + 1 from rfl, movHs_same hq hmh]; exact M.tail⟩ (by first | omega | (simp only; omega) | (simp; done) | (simp; omega))
      ·try simp only [sA, sB, sC, sD, sE, sF, ne_eq, Bool.not_eq_eq_eq_not, Bool.not_true, Bool.not_false, sK, sL, Bool.not_not, gt_iff_lt, ge_iff_le] at hco7
       have hi2 : i = 16 := by omega
       subst hi2
       refine W.exit ?_
       refine At.then_x ?_
       refine At.loop_x ?_
       refine At.blk_x ?_
       refine At.blk_n ?_
       refine At.then_n ?_
       refine W.sub [(0, _), (1, _), (6, _), (7, _), (69, _)] ⟨rfl, rfl, rfl, rfl, rfl, trivial⟩ ?_
       refine W.reg [(0, false), (1, false)] (by kernel_rfl) ?_
       intro K hK
       refine x_add _ rfl rfl rfl rfl rfl (wadd (by omega) (by omega)) ?_
       refine x_move rfl rfl rfl rfl ?_
       refine Ex.done (hK _ _ ?_)
       exact At.back (q + 1) ⟨rfl, rfl, rfl, rfl, rfl, trivial⟩ ⟨by omega, by rw [show 16 * (q + 1) = 16 * q + 16 by omega]; exact M⟩ (by first | omega | (simp only; omega) | (simp; done) | (simp; omega))
     ·try simp only [sA, sB, sC, sD, sE, sF, ne_eq, Bool.not_eq_eq_eq_not, Bool.not_true, Bool.not_false, sK, sL, Bool.not_not, gt_iff_lt, ge_iff_le] at hco6
      have hq2 : q = 8 := by omega
      subst hq2
      rw [movHs_all (by rw [hR.hl]; omega), ← hU4] at M
      refine W.exit ?_
      refine At.then_x ?_
      refine At.loop_x ?_
      refine At.blk_x ?_
      refine At.then_n ?_
      refine W.seq ?_
      refine W.sub [(6, _)] ⟨rfl, trivial⟩ ?_
      refine W.reg [(0, false), (1, true)] (by kernel_rfl) ?_
      intro K hK
      refine x_build [_, _, _, _, _] rfl rfl rfl pl49 ze49 rfl rfl rfl ?_
      refine x_st [_, _, _, _, _] _ rfl rfl rfl sz49 rfl rfl rfl rfl (by first | exact M.at_ 0 rfl | exact M.at_ 1 rfl | exact M.at_ 2 rfl | exact M.at_ 3 rfl | exact M.at_ 4 rfl | exact M.at_ 5 rfl | exact M.at_ 6 rfl | exact M.at_ 7 rfl) rfl rfl rfl ?_
      intro wst7 hwst7
      have M := by first | exact M.put 0 rfl hwst7 | exact M.put 1 rfl hwst7 | exact M.put 2 rfl hwst7 | exact M.put 3 rfl hwst7 | exact M.put 4 rfl hwst7 | exact M.put 5 rfl hwst7 | exact M.put 6 rfl hwst7 | exact M.put 7 rfl hwst7
      refine ⟨trivial, ?_⟩
      refine Ex.done (hK _ _ ?_)
      refine At.then_n ?_
      refine W.ret ?_
      refine At.ret1 (.cell 6 49) rfl ⟨⟨_, rfl, run_loadVarA (l := [_, _, _, _, _]) Tryz.underlying49 rfl sz49 ⟨_, _, _, (by first | exact M.at_ 0 rfl | exact M.at_ 1 rfl | exact M.at_ 2 rfl | exact M.at_ 3 rfl | exact M.at_ 4 rfl | exact M.at_ 5 rfl | exact M.at_ 6 rfl | exact M.at_ 7 rfl), rfl⟩ (Nat.zero_lt_succ _)⟩, trivial⟩ ?_
      have hst : renameS l hf p o.q = (badS 0, (renameL l p (cleanP o.q).1).1, movH hf p (cleanP o.q).1) := by unfold renameS; rw [if_pos hco1, if_pos hsp1]
      rw [hst]
      exact post_bad hR4 (by rw [fs_mov (S := { S with E := E3, bm := bmm1, om := om2, hs := S.hs.map (movHd p (cleanP o.q).1) })]; exact M.tail.tail) rfl
end Go.Proofs.YtigfbpbnohkokaaGreat

namespace Go.Proofs.YtigfbpbnohkokaaGreat
open Go Go.Fw Go.RowKit Go.Proofs
set_option linter.unusedVariables false
set_option linter.unusedSimpArgs false


theorem nil_byH {bf : Nat} {k : Int} : (nilF (byH bf k)).map (!·) = some (decide (2 ≤ k ∧ k ≤ 5)) := by
 unfold byH
 by_cases h2 : k = 2
 ·subst h2; rfl
 by_cases h3 : k = 3
 ·subst h3; rfl
 by_cases h4 : k = 4
 ·subst h4; rfl
 by_cases h5 : k = 5
 ·subst h5; rfl
 rw [if_neg h2, if_neg h3, if_neg h4, if_neg h5, decide_eq_false (by omega)]; rfl
theorem nil_byP {bf : Nat} {k : Int} : nilF (byP bf k) = some (decide (¬ (6 ≤ k ∧ k ≤ 9))) := by
 unfold byP
 by_cases h2 : k = 6
 ·subst h2; rfl
 by_cases h3 : k = 7
 ·subst h3; rfl
 by_cases h4 : k = 8
 ·subst h4; rfl
 by_cases h5 : k = 9
 ·subst h5; rfl
 rw [if_neg h2, if_neg h3, if_neg h4, if_neg h5, decide_eq_true (by omega)]; rfl
theorem byH_any {w00 : World} {bf a i : Nat} {bv dv : Value} {S : FSt} {base : BaseF} {Lb : List (Nat × Obj)} {l : List Raw} {hf : HF} {h : Hd} {who : Int} {o : OpS} (hR : FR base S l hf) (hB : BaseC w00 Lb bv base) (ha : a < 8) (hi : i < 16) (hq : S.hs[16 * a + i]? = some h) (h0 : h.1 ≠ []) (hwho : who = (a : Int)) (hoh : o.h = (i : Int) + 1) (hk : 2 ≤ o.k ∧ o.k ≤ 5) :
  ∃ g, byH bf o.k = .func (.func g) #[ptr bf] #[] ∧ entered Tryz.prog g = true ∧ ∀ {w0 : World} {L : List (Nat × Obj)}, Sep w00 (fsB bf bv (usedL l) S ++ (Lb ++ L)) w0 → (∀ w X, Sep w00 X w → (∀ y ∈ L, y ∈ X) → BytesAt w dv o.d) → Ret Tryz.prog g #[ptr bf, .pointer (some ⟨bf, 3 + 2 * (16 * a + i), none⟩), .agg (opC o dv).toArray] w0 (PostS base bf bv w00 Lb L (handleS l hf who o)) := by
 have hat : hf who o.h = some h := by rw [hwho, hoh]; exact hR.at_ ha hi hq h0
 unfold handleS
 rw [hat]
 simp only
 by_cases h2 : o.k = 2
 ·rw [if_pos h2, h2]
  exact ⟨_, rfl, en68, fun M hdv => read_c M hR hB ha hi hq h0 hdv⟩
 by_cases h3 : o.k = 3
 ·rw [if_neg h2, if_pos h3, h3]
  exact ⟨_, rfl, en69, fun M hdv => write_c M hR hB ha hi hq h0 hdv⟩
 by_cases h4 : o.k = 4
 ·rw [if_neg h2, if_neg h3, if_pos h4, h4]
  exact ⟨_, rfl, en70, fun M hdv => truncate_c M hR hB ha hi hq h0 hdv⟩
 have h5 : o.k = 5 := by omega
 rw [if_neg h2, if_neg h3, if_neg h4, h5]
 refine ⟨_, rfl, en71, fun M hdv => ?_⟩
 rw [hwho, hoh]
 exact shut_c M hR hB ha hi hq h0 hdv
theorem byP_any {w00 : World} {bf : Nat} {bv dv : Value} {S : FSt} {base : BaseF} {Lb : List (Nat × Obj)} {l : List Raw} {hf : HF} {p : List UInt8} {o : OpS} (hR : FR base S l hf) (hdv : ∃ pd cd, dv = .slice pd o.d.length cd) (hk : 6 ≤ o.k ∧ o.k ≤ 9) :
  ∃ g, byP bf o.k = .func (.func g) #[ptr bf] #[] ∧ entered Tryz.prog g = true ∧ ∀ {w0 : World} {L : List (Nat × Obj)}, Sep w00 (fsB bf bv (usedL l) S ++ (Lb ++ L)) w0 → Ret Tryz.prog g #[ptr bf, strV p, .agg (opC o dv).toArray] w0 (PostS base bf bv w00 Lb L (namedS l hf p o)) := by
 unfold namedS
 by_cases h2 : o.k = 6
 ·rw [if_pos h2, h2]
  exact ⟨_, rfl, en72, fun M => mkdirH_c M hR hdv⟩
 by_cases h3 : o.k = 7
 ·rw [if_neg h2, if_pos h3, h3]
  exact ⟨_, rfl, en73, fun M => removeH_c M hR hdv⟩
 by_cases h4 : o.k = 8
 ·rw [if_neg h2, if_neg h3, if_pos h4, h4]
  exact ⟨_, rfl, en74, fun M => renameH_c M hR hdv⟩
 have h5 : o.k = 9 := by omega
 rw [if_neg h2, if_neg h3, if_neg h4, h5]
 exact ⟨_, rfl, en75, fun M => listH_c M hR hdv⟩


set_option maxRecDepth 100000 in
theorem do_c {w00 w0 : World} {bf : Nat} {bv dv : Value} {S : FSt} {base : BaseF} {Lb L : List (Nat × Obj)} {l : List Raw} {hf : HF} {who : Int} {o : OpS} (M : Sep w00 (fsB bf bv (usedL l) S ++ (Lb ++ L)) w0) (hR : FR base S l hf) (hB : BaseC w00 Lb bv base) (hdv : ∀ w X, Sep w00 X w → (∀ y ∈ L, y ∈ X) → BytesAt w dv o.d) : Ret Tryz.prog 16 #[ptr bf, .int .i64 who, .agg (opC o dv).toArray] w0 (PostS base bf bv w00 Lb L (doS l hf who o)) := by
 obtain ⟨pd, cd, rfl⟩ := (hdv _ _ M (fun y hy => by simp [hy])).shape
 refine Ret.of_W Tryz.func16 rfl Tryz.ntmps16 rfl ?_
 refine W.seq ?_
 refine W.sub [(0, _), (1, _), (2, _)] ⟨rfl, rfl, rfl, trivial⟩ ?_
 refine W.reg [(0, true), (1, true)] (by kernel_rfl) ?_
 intro K hK
 refine x_box [_, _, _, _, _, _, _, _, _] rfl rfl rfl rfl rfl ?_
 intro bbx1 wbx1 hbbx1 hwbx1
 have M := M.acons hbbx1 hwbx1
 refine ⟨trivial, ?_⟩
 refine x_alloc [_, _, _, _, _] rfl rfl rfl ze49 rfl ?_
 intro bal1 wal1 hbal1 hwal1
 have M := M.acons hbal1 hwal1
 refine ⟨trivial, ?_⟩
 refine Ex.done (hK _ _ ?_)
 refine At.then_n ?_
 refine W.seq ?_
 refine W.block ?_
 refine W.seq ?_
 refine W.sub [(0, _), (1, _), (5, _), (6, _)] ⟨rfl, rfl, rfl, rfl, trivial⟩ ?_
 refine W.reg [(0, false), (1, false), (2, false), (3, false), (4, false), (5, false), (6, false), (7, false), (8, false), (9, false)] (by kernel_rfl) ?_
 intro K hK
 refine x_move rfl rfl rfl rfl ?_
 refine x_eqpn false rfl rfl rfl Tryz.underlying34 rfl rfl rfl ?_
 refine x_move rfl rfl rfl rfl ?_
 refine x_move rfl rfl rfl rfl ?_
 refine x_nil rfl rfl rfl rfl rfl ?_
 refine x_fa rfl rfl rfl fo90_1 rfl ?_
 refine x_ld rfl rfl rfl Tryz.underlying83 rfl rfl (cell_of (fs_at M (fun y (hy : y ∈ fsB bf bv (usedL l) S) => by simp [hy])) rfl) ?_
 refine x_eqpn false rfl rfl rfl Tryz.underlying83 rfl rfl rfl ?_
 refine x_pickF rfl rfl rfl rfl rfl ?_
 refine x_assign rfl rfl rfl rfl ?_
 refine Ex.done (hK _ _ ?_)
 refine At.then_n ?_
 refine W.condF rfl ?_
 refine W.seq ?_
 refine W.sub [(0, _), (1, _), (5, _), (6, _)] ⟨rfl, rfl, rfl, rfl, trivial⟩ ?_
 refine W.reg [(0, false), (1, false), (2, false), (3, false), (4, false), (5, false), (6, false)] (by kernel_rfl) ?_
 intro K hK
 refine x_move rfl rfl rfl rfl ?_
 refine x_lss _ rfl rfl rfl rfl rfl rfl ?_
 refine x_move rfl rfl rfl rfl ?_
 refine Ex.split 26 rfl (fun hsp1 => ?_) (fun hsp1 => ?_)
 ·
  try simp only [sA, sB, sC, sD, sE, sF, ne_eq, Bool.not_eq_eq_eq_not, Bool.not_true, Bool.not_false, sK, sL, Bool.not_not, gt_iff_lt, ge_iff_le] at hsp1
  refine Ex.skip_ rfl rfl rfl ?_
  refine Ex.skip_ rfl rfl rfl ?_
  refine x_pickT rfl rfl rfl rfl rfl ?_
  refine x_assign rfl rfl rfl rfl ?_
  refine Ex.done (hK _ _ ?_)
  refine At.then_n ?_
  refine W.condT rfl ?_
  refine W.seq ?_
  refine W.sub [(6, _)] ⟨rfl, trivial⟩ ?_
  refine W.reg [(0, true), (1, true)] (by kernel_rfl) ?_
  intro K hK
  refine x_call rfl rfl rfl rfl rfl en40 (fail_c) ?_
  rintro r_ wcall1 ⟨rfl, hncall1⟩
  have M := M.new hncall1
  refine ⟨trivial, ?_⟩
  refine x_st [_, _, _, _, _] _ rfl rfl rfl sz49 rfl rfl rfl rfl (by first | exact M.at_ 0 rfl | exact M.at_ 1 rfl | exact M.at_ 2 rfl | exact M.at_ 3 rfl | exact M.at_ 4 rfl | exact M.at_ 5 rfl | exact M.at_ 6 rfl | exact M.at_ 7 rfl) rfl rfl rfl ?_
  intro wst1 hwst1
  have M := by first | exact M.put 0 rfl hwst1 | exact M.put 1 rfl hwst1 | exact M.put 2 rfl hwst1 | exact M.put 3 rfl hwst1 | exact M.put 4 rfl hwst1 | exact M.put 5 rfl hwst1 | exact M.put 6 rfl hwst1 | exact M.put 7 rfl hwst1
  refine ⟨trivial, ?_⟩
  refine Ex.done (hK _ _ ?_)
  refine At.then_n ?_
  refine W.ret ?_
  refine At.blk_r ?_
  refine At.then_r ?_
  refine At.ret1 (.cell 6 49) rfl ⟨⟨_, rfl, run_loadVarA (l := [_, _, _, _, _]) Tryz.underlying49 rfl sz49 ⟨_, _, _, (by first | exact M.at_ 0 rfl | exact M.at_ 1 rfl | exact M.at_ 2 rfl | exact M.at_ 3 rfl | exact M.at_ 4 rfl | exact M.at_ 5 rfl | exact M.at_ 6 rfl | exact M.at_ 7 rfl), rfl⟩ (Nat.zero_lt_succ _)⟩, trivial⟩ ?_
  exact post_bad hR M.tail.tail (by unfold doS; rw [if_pos (.inl hsp1)])
 ·
  try simp only [sA, sB, sC, sD, sE, sF, ne_eq, Bool.not_eq_eq_eq_not, Bool.not_true, Bool.not_false, sK, sL, Bool.not_not, gt_iff_lt, ge_iff_le] at hsp1
  refine x_move rfl rfl rfl rfl ?_
  refine x_geq _ rfl rfl rfl rfl rfl rfl ?_
  refine x_pickF rfl rfl rfl rfl rfl ?_
  refine x_assign rfl rfl rfl rfl ?_
  refine Ex.done (hK _ _ ?_)
  refine At.then_n ?_
  refine W.cond rfl (fun hco3 => ?_) (fun hco3 => ?_)
  ·try simp only [sA, sB, sC, sD, sE, sF, ne_eq, Bool.not_eq_eq_eq_not, Bool.not_true, Bool.not_false, sK, sL, Bool.not_not, gt_iff_lt, ge_iff_le] at hco3
   refine W.seq ?_
   refine W.sub [(6, _)] ⟨rfl, trivial⟩ ?_
   refine W.reg [(0, true), (1, true)] (by kernel_rfl) ?_
   intro K hK
   refine x_call rfl rfl rfl rfl rfl en40 (fail_c) ?_
   rintro r_ wcall2 ⟨rfl, hncall2⟩
   have M := M.new hncall2
   refine ⟨trivial, ?_⟩
   refine x_st [_, _, _, _, _] _ rfl rfl rfl sz49 rfl rfl rfl rfl (by first | exact M.at_ 0 rfl | exact M.at_ 1 rfl | exact M.at_ 2 rfl | exact M.at_ 3 rfl | exact M.at_ 4 rfl | exact M.at_ 5 rfl | exact M.at_ 6 rfl | exact M.at_ 7 rfl) rfl rfl rfl ?_
   intro wst2 hwst2
   have M := by first | exact M.put 0 rfl hwst2 | exact M.put 1 rfl hwst2 | exact M.put 2 rfl hwst2 | exact M.put 3 rfl hwst2 | exact M.put 4 rfl hwst2 | exact M.put 5 rfl hwst2 | exact M.put 6 rfl hwst2 | exact M.put 7 rfl hwst2
   refine ⟨trivial, ?_⟩
   refine Ex.done (hK _ _ ?_)
   refine At.then_n ?_
   refine W.ret ?_
   refine At.blk_r ?_
   refine At.then_r ?_
   refine At.ret1 (.cell 6 49) rfl ⟨⟨_, rfl, run_loadVarA (l := [_, _, _, _, _]) Tryz.underlying49 rfl sz49 ⟨_, _, _, (by first | exact M.at_ 0 rfl | exact M.at_ 1 rfl | exact M.at_ 2 rfl | exact M.at_ 3 rfl | exact M.at_ 4 rfl | exact M.at_ 5 rfl | exact M.at_ 6 rfl | exact M.at_ 7 rfl), rfl⟩ (Nat.zero_lt_succ _)⟩, trivial⟩ ?_
   exact post_bad hR M.tail.tail (by unfold doS; rw [if_pos (.inr (.inl (by omega)))])
  ·try simp only [sA, sB, sC, sD, sE, sF, ne_eq, Bool.not_eq_eq_eq_not, Bool.not_true, Bool.not_false, sK, sL, Bool.not_not, gt_iff_lt, ge_iff_le] at hco3
   have hdw := fun w (X : List (Nat × Obj)) (hX : Sep w00 X w) (hs : ∀ y ∈ L, y ∈ X) => hdv w X hX hs
   refine W.seq ?_
   refine W.sub [(0, _), (1, _), (5, _), (6, _)] ⟨rfl, rfl, rfl, rfl, trivial⟩ ?_
   refine W.reg [(0, false), (1, false), (2, false), (3, false)] (by kernel_rfl) ?_
   intro K hK
   refine x_fa rfl rfl rfl fo52_0 rfl ?_
   refine x_ld rfl rfl rfl Tryz.underlying3 rfl rfl (cell_of (by first | exact M.at_ 0 rfl | exact M.at_ 1 rfl | exact M.at_ 2 rfl | exact M.at_ 3 rfl | exact M.at_ 4 rfl | exact M.at_ 5 rfl | exact M.at_ 6 rfl | exact M.at_ 7 rfl) rfl) ?_
   refine x_eqi _ rfl rfl rfl rfl rfl rfl ?_
   refine x_assign rfl rfl rfl rfl ?_
   refine Ex.done (hK _ _ ?_)
   refine At.then_n ?_
   refine W.cond rfl (fun hco4 => ?_) (fun hco4 => ?_)
   ·try simp only [sA, sB, sC, sD, sE, sF, ne_eq, Bool.not_eq_eq_eq_not, Bool.not_true, Bool.not_false, sK, sL, Bool.not_not, gt_iff_lt, ge_iff_le] at hco4
    refine W.seq ?_
    refine W.sub [(0, _), (1, _), (5, _), (6, _)] ⟨rfl, rfl, rfl, rfl, trivial⟩ ?_
    refine W.reg [(0, false), (1, false), (2, false), (3, true), (4, true)] (by kernel_rfl) ?_
    intro K hK
    refine x_move rfl rfl rfl rfl ?_
    refine x_move rfl rfl rfl rfl ?_
    refine x_ldA [_, _, _, _, _, _, _, _, _] rfl rfl rfl Tryz.underlying52 rfl sz52 rfl rfl ⟨_, _, _, (by first | exact M.at_ 0 rfl | exact M.at_ 1 rfl | exact M.at_ 2 rfl | exact M.at_ 3 rfl | exact M.at_ 4 rfl | exact M.at_ 5 rfl | exact M.at_ 6 rfl | exact M.at_ 7 rfl), rfl⟩ ?_
    refine x_call rfl rfl rfl rfl rfl en41 (by have hc_ := open_c (a := who.toNat) (o := o) (St.fsi (X := [_, _]) M) hR (by omega) ⟨pd, cd, rfl⟩; rw [Int.toNat_of_nonneg (by omega)] at hc_; exact hc_) ?_
    rintro r_ w9 ⟨S9, Lr, ⟨dv9, lv9, L1, L2, rfl, rfl, hb9, hs9⟩, hR9, M⟩
    have M := St.fso (X := [_, _]) M
    obtain ⟨p91, c91, rfl⟩ := hb9.shape
    obtain ⟨p92, c92, rfl, _⟩ := hs9.shape2 (by decide)
    refine ⟨trivial, ?_⟩
    refine x_st [_, _, _, _, _] _ rfl rfl rfl sz49 rfl rfl rfl rfl (by first | exact M.at_ 0 rfl | exact M.at_ 1 rfl | exact M.at_ 2 rfl | exact M.at_ 3 rfl | exact M.at_ 4 rfl | exact M.at_ 5 rfl | exact M.at_ 6 rfl | exact M.at_ 7 rfl) rfl rfl rfl ?_
    intro wst3 hwst3
    have M := by first | exact M.put 0 rfl hwst3 | exact M.put 1 rfl hwst3 | exact M.put 2 rfl hwst3 | exact M.put 3 rfl hwst3 | exact M.put 4 rfl hwst3 | exact M.put 5 rfl hwst3 | exact M.put 6 rfl hwst3 | exact M.put 7 rfl hwst3
    refine ⟨trivial, ?_⟩
    refine Ex.done (hK _ _ ?_)
    refine At.then_n ?_
    refine W.ret ?_
    refine At.blk_r ?_
    refine At.then_r ?_
    refine At.ret1 (.cell 6 49) rfl ⟨⟨_, rfl, run_loadVarA (l := [_, _, _, _, _]) Tryz.underlying49 rfl sz49 ⟨_, _, _, (by first | exact M.at_ 0 rfl | exact M.at_ 1 rfl | exact M.at_ 2 rfl | exact M.at_ 3 rfl | exact M.at_ 4 rfl | exact M.at_ 5 rfl | exact M.at_ 6 rfl | exact M.at_ 7 rfl), rfl⟩ (Nat.zero_lt_succ _)⟩, trivial⟩ ?_
    rw [show doS l hf who o = openS l hf who o by unfold doS; rw [if_neg (by omega), if_pos hco4]]
    exact ⟨S9, L1 ++ L2, ⟨_, _, L1, L2, rfl, rfl, hb9, hs9⟩, hR9, M.tail.tail⟩
   ·try simp only [sA, sB, sC, sD, sE, sF, ne_eq, Bool.not_eq_eq_eq_not, Bool.not_true, Bool.not_false, sK, sL, Bool.not_not, gt_iff_lt, ge_iff_le] at hco4
    refine W.skip ?_
    refine At.blk_n ?_
    refine At.then_n ?_
    refine W.seq ?_
    refine W.seq ?_
    refine W.sub [(0, _), (1, _), (5, _), (6, _)] ⟨rfl, rfl, rfl, rfl, trivial⟩ ?_
    refine W.reg [(0, false), (1, false), (2, false), (3, true), (4, false)] (by kernel_rfl) ?_
    intro K hK
    refine x_move rfl rfl rfl rfl ?_
    refine x_fa rfl rfl rfl fo52_0 rfl ?_
    refine x_ld rfl rfl rfl Tryz.underlying3 rfl rfl (cell_of (by first | exact M.at_ 0 rfl | exact M.at_ 1 rfl | exact M.at_ 2 rfl | exact M.at_ 3 rfl | exact M.at_ 4 rfl | exact M.at_ 5 rfl | exact M.at_ 6 rfl | exact M.at_ 7 rfl) rfl) ?_
    refine x_call rfl rfl rfl rfl rfl en42 (byHandle_c) ?_
    rintro r_ w_ ⟨rfl, rfl⟩
    refine ⟨trivial, ?_⟩
    refine x_assign rfl rfl rfl rfl ?_
    refine Ex.done (hK _ _ ?_)
    refine At.then_n ?_
    refine W.seq ?_
    refine W.sub [(0, _), (1, _), (5, _), (6, _), (7, _)] ⟨rfl, rfl, rfl, rfl, rfl, trivial⟩ ?_
    refine W.reg [(0, false), (1, false)] (by kernel_rfl) ?_
    intro K hK
    refine x_move rfl rfl rfl rfl ?_
    refine x_nefn (decide (2 ≤ o.k ∧ o.k ≤ 5)) rfl rfl rfl Tryz.underlying107 rfl rfl nil_byH ?_
    refine Ex.done (hK _ _ ?_)
    refine At.then_n ?_
    refine W.cond rfl (fun hco5 => ?_) (fun hco5 => ?_)
    ·try simp only [sA, sB, sC, sD, sE, sF, ne_eq, Bool.not_eq_eq_eq_not, Bool.not_true, Bool.not_false, sK, sL, Bool.not_not, gt_iff_lt, ge_iff_le] at hco5
     have hk5 : 2 ≤ o.k ∧ o.k ≤ 5 := by simpa using hco5
     have hdo : doS l hf who o = handleS l hf who o := by unfold doS; rw [if_neg (by omega), if_neg (by omega), if_pos (by omega)]
     refine W.seq ?_
     refine W.sub [(0, _), (1, _), (5, _), (6, _), (7, _)] ⟨rfl, rfl, rfl, rfl, rfl, trivial⟩ ?_
     refine W.reg [(0, false), (1, false), (2, false), (3, false), (4, true), (5, false)] (by kernel_rfl) ?_
     intro K hK
     refine x_move rfl rfl rfl rfl ?_
     refine x_move rfl rfl rfl rfl ?_
     refine x_fa rfl rfl rfl fo52_3 rfl ?_
     refine x_ld rfl rfl rfl Tryz.underlying3 rfl rfl (cell_of (by first | exact M.at_ 0 rfl | exact M.at_ 1 rfl | exact M.at_ 2 rfl | exact M.at_ 3 rfl | exact M.at_ 4 rfl | exact M.at_ 5 rfl | exact M.at_ 6 rfl | exact M.at_ 7 rfl) rfl) ?_
     refine x_call rfl rfl rfl rfl rfl en43 (handle_c (fs_at M (fun y (hy : y ∈ fsB bf bv (usedL l) S) => by simp [hy])) hR.hl) ?_
     rintro r_ w_ ⟨⟨po, rfl, hpo⟩, rfl⟩
     refine ⟨trivial, ?_⟩
     refine x_assign rfl rfl rfl rfl ?_
     refine Ex.done (hK _ _ ?_)
     refine At.then_n ?_
     refine W.seq ?_
     refine W.seq ?_
     refine W.sub [(5, _), (6, _), (7, _), (8, _)] ⟨rfl, rfl, rfl, rfl, trivial⟩ ?_
     refine W.reg [(0, false), (1, false)] (by kernel_rfl) ?_
     intro K hK
     refine x_move rfl rfl rfl rfl ?_
     refine x_eqpn _ rfl rfl rfl Tryz.underlying109 rfl rfl rfl ?_
     refine Ex.done (hK _ _ ?_)
     refine At.then_n ?_
     refine W.cond rfl (fun hco6 => ?_) (fun hco6 => ?_)
     ·try simp only [sA, sB, sC, sD, sE, sF, ne_eq, Bool.not_eq_eq_eq_not, Bool.not_true, Bool.not_false, sK, sL, Bool.not_not, gt_iff_lt, ge_iff_le] at hco6
      have hno : hf who o.h = none := by
       rcases hpo with ⟨h1, _⟩ | ⟨a, i, h, _, _, _, _, _, _, hpe⟩
       ·rw [hR.hh]; exact h1
       ·rw [hpe] at hco6; cases hco6
      refine W.seq ?_
      refine W.sub [(6, _)] ⟨rfl, trivial⟩ ?_
      refine W.reg [(0, true), (1, true)] (by kernel_rfl) ?_
      intro K hK
      refine x_call rfl rfl rfl rfl rfl en40 (fail_c) ?_
      rintro r_ wcall6 ⟨rfl, hncall6⟩
      have M := M.new hncall6
      refine ⟨trivial, ?_⟩
      refine x_st [_, _, _, _, _] _ rfl rfl rfl sz49 rfl rfl rfl rfl (by first | exact M.at_ 0 rfl | exact M.at_ 1 rfl | exact M.at_ 2 rfl | exact M.at_ 3 rfl | exact M.at_ 4 rfl | exact M.at_ 5 rfl | exact M.at_ 6 rfl | exact M.at_ 7 rfl) rfl rfl rfl ?_
      intro wst4 hwst4
      have M := by first | exact M.put 0 rfl hwst4 | exact M.put 1 rfl hwst4 | exact M.put 2 rfl hwst4 | exact M.put 3 rfl hwst4 | exact M.put 4 rfl hwst4 | exact M.put 5 rfl hwst4 | exact M.put 6 rfl hwst4 | exact M.put 7 rfl hwst4
      refine ⟨trivial, ?_⟩
      refine Ex.done (hK _ _ ?_)
      refine At.then_n ?_
      refine W.ret ?_
      refine At.then_r ?_
      refine At.then_r ?_
      refine At.ret1 (.cell 6 49) rfl ⟨⟨_, rfl, run_loadVarA (l := [_, _, _, _, _]) Tryz.underlying49 rfl sz49 ⟨_, _, _, (by first | exact M.at_ 0 rfl | exact M.at_ 1 rfl | exact M.at_ 2 rfl | exact M.at_ 3 rfl | exact M.at_ 4 rfl | exact M.at_ 5 rfl | exact M.at_ 6 rfl | exact M.at_ 7 rfl), rfl⟩ (Nat.zero_lt_succ _)⟩, trivial⟩ ?_
      rw [hdo]
      exact post_bad hR M.tail.tail (by unfold handleS; rw [hno])
     ·try simp only [sA, sB, sC, sD, sE, sF, ne_eq, Bool.not_eq_eq_eq_not, Bool.not_true, Bool.not_false, sK, sL, Bool.not_not, gt_iff_lt, ge_iff_le] at hco6
      obtain ⟨a, i, h, hwho, hoh, ha, hi, hq, h0, hpe⟩ : ∃ (a i : Nat) (h : Hd), who = (a : Int) ∧ o.h = (i : Int) + 1 ∧ a < 8 ∧ i < 16 ∧ S.hs[16 * a + i]? = some h ∧ h.1 ≠ [] ∧ po = some ⟨bf, 3 + 2 * (16 * a + i), none⟩ := by
       rcases hpo with ⟨_, h1⟩ | h
       ·rw [h1] at hco6; cases hco6
       ·exact h
      rw [hpe]
      obtain ⟨g, hg, heg, hgc⟩ := byH_any (bf := bf) (dv := .slice pd o.d.length cd) hR hB ha hi hq h0 hwho hoh hk5
      rw [hg, hdo]
      refine W.skip ?_
      refine At.then_n ?_
      refine W.seq ?_
      refine W.sub [(5, _), (6, _), (7, _), (8, _)] ⟨rfl, rfl, rfl, rfl, trivial⟩ ?_
      refine W.reg [(0, false), (1, false), (2, false), (3, true), (4, true)] (by kernel_rfl) ?_
      intro K hK
      refine x_move rfl rfl rfl rfl ?_
      refine x_move rfl rfl rfl rfl ?_
      refine x_ldA [_, _, _, _, _, _, _, _, _] rfl rfl rfl Tryz.underlying52 rfl sz52 rfl rfl ⟨_, _, _, (by first | exact M.at_ 0 rfl | exact M.at_ 1 rfl | exact M.at_ 2 rfl | exact M.at_ 3 rfl | exact M.at_ 4 rfl | exact M.at_ 5 rfl | exact M.at_ 6 rfl | exact M.at_ 7 rfl), rfl⟩ ?_
      refine x_call rfl rfl rfl rfl rfl heg (hgc (St.fsi (X := [_, _]) M) (fun w X hX hs => hdv w X hX (fun y hy => hs y (List.mem_append_right _ hy)))) ?_
      rintro r_ w9 ⟨S9, Lr, ⟨dv9, lv9, L1, L2, rfl, rfl, hb9, hs9⟩, hR9, M⟩
      have M := St.fso (X := [_, _]) M
      obtain ⟨p91, c91, rfl⟩ := hb9.shape
      obtain ⟨p92, c92, rfl, _⟩ := hs9.shape2 (by decide)
      refine ⟨trivial, ?_⟩
      refine x_st [_, _, _, _, _] _ rfl rfl rfl sz49 rfl rfl rfl rfl (by first | exact M.at_ 0 rfl | exact M.at_ 1 rfl | exact M.at_ 2 rfl | exact M.at_ 3 rfl | exact M.at_ 4 rfl | exact M.at_ 5 rfl | exact M.at_ 6 rfl | exact M.at_ 7 rfl) rfl rfl rfl ?_
      intro wst5 hwst5
      have M := by first | exact M.put 0 rfl hwst5 | exact M.put 1 rfl hwst5 | exact M.put 2 rfl hwst5 | exact M.put 3 rfl hwst5 | exact M.put 4 rfl hwst5 | exact M.put 5 rfl hwst5 | exact M.put 6 rfl hwst5 | exact M.put 7 rfl hwst5
      refine ⟨trivial, ?_⟩
      refine Ex.done (hK _ _ ?_)
      refine At.then_n ?_
      refine W.ret ?_
      refine At.then_r ?_
      refine At.ret1 (.cell 6 49) rfl ⟨⟨_, rfl, run_loadVarA (l := [_, _, _, _, _]) Tryz.underlying49 rfl sz49 ⟨_, _, _, (by first | exact M.at_ 0 rfl | exact M.at_ 1 rfl | exact M.at_ 2 rfl | exact M.at_ 3 rfl | exact M.at_ 4 rfl | exact M.at_ 5 rfl | exact M.at_ 6 rfl | exact M.at_ 7 rfl), rfl⟩ (Nat.zero_lt_succ _)⟩, trivial⟩ ?_
      exact ⟨S9, L1 ++ L2, ⟨_, _, L1, L2, rfl, rfl, hb9, hs9⟩, hR9, M.tail.tail⟩
    ·try simp only [sA, sB, sC, sD, sE, sF, ne_eq, Bool.not_eq_eq_eq_not, Bool.not_true, Bool.not_false, sK, sL, Bool.not_not, gt_iff_lt, ge_iff_le] at hco5
     have hk5 : ¬ (2 ≤ o.k ∧ o.k ≤ 5) := by simpa using hco5
     refine W.skip ?_
     refine At.then_n ?_
     refine W.seq ?_
     refine W.sub [(0, _), (5, _), (6, _)] ⟨rfl, rfl, rfl, trivial⟩ ?_
     refine W.reg [(0, false), (1, false), (2, false), (3, true), (4, false)] (by kernel_rfl) ?_
     intro K hK
     refine x_move rfl rfl rfl rfl ?_
     refine x_fa rfl rfl rfl fo52_0 rfl ?_
     refine x_ld rfl rfl rfl Tryz.underlying3 rfl rfl (cell_of (by first | exact M.at_ 0 rfl | exact M.at_ 1 rfl | exact M.at_ 2 rfl | exact M.at_ 3 rfl | exact M.at_ 4 rfl | exact M.at_ 5 rfl | exact M.at_ 6 rfl | exact M.at_ 7 rfl) rfl) ?_
     refine x_call rfl rfl rfl rfl rfl en44 (byPath_c) ?_
     rintro r_ w_ ⟨rfl, rfl⟩
     refine ⟨trivial, ?_⟩
     refine x_assign rfl rfl rfl rfl ?_
     refine Ex.done (hK _ _ ?_)
     refine At.then_n ?_
     refine W.seq ?_
     refine W.seq ?_
     refine W.sub [(5, _), (6, _), (9, _)] ⟨rfl, rfl, rfl, trivial⟩ ?_
     refine W.reg [(0, false), (1, false)] (by kernel_rfl) ?_
     intro K hK
     refine x_move rfl rfl rfl rfl ?_
     refine x_eqfn (decide (¬ (6 ≤ o.k ∧ o.k ≤ 9))) rfl rfl rfl Tryz.underlying111 rfl rfl nil_byP ?_
     refine Ex.done (hK _ _ ?_)
     refine At.then_n ?_
     refine W.cond rfl (fun hco7 => ?_) (fun hco7 => ?_)
     ·try simp only [sA, sB, sC, sD, sE, sF, ne_eq, Bool.not_eq_eq_eq_not, Bool.not_true, Bool.not_false, sK, sL, Bool.not_not, gt_iff_lt, ge_iff_le] at hco7
      have hk9 : ¬ (6 ≤ o.k ∧ o.k ≤ 9) := by simpa using hco7
      refine W.seq ?_
      refine W.sub [(6, _)] ⟨rfl, trivial⟩ ?_
      refine W.reg [(0, true), (1, true)] (by kernel_rfl) ?_
      intro K hK
      refine x_call rfl rfl rfl rfl rfl en40 (fail_c) ?_
      rintro r_ wcall9 ⟨rfl, hncall9⟩
      have M := M.new hncall9
      refine ⟨trivial, ?_⟩
      refine x_st [_, _, _, _, _] _ rfl rfl rfl sz49 rfl rfl rfl rfl (by first | exact M.at_ 0 rfl | exact M.at_ 1 rfl | exact M.at_ 2 rfl | exact M.at_ 3 rfl | exact M.at_ 4 rfl | exact M.at_ 5 rfl | exact M.at_ 6 rfl | exact M.at_ 7 rfl) rfl rfl rfl ?_
      intro wst6 hwst6
      have M := by first | exact M.put 0 rfl hwst6 | exact M.put 1 rfl hwst6 | exact M.put 2 rfl hwst6 | exact M.put 3 rfl hwst6 | exact M.put 4 rfl hwst6 | exact M.put 5 rfl hwst6 | exact M.put 6 rfl hwst6 | exact M.put 7 rfl hwst6
      refine ⟨trivial, ?_⟩
      refine Ex.done (hK _ _ ?_)
      refine At.then_n ?_
      refine W.ret ?_
      refine At.then_r ?_
      refine At.ret1 (.cell 6 49) rfl ⟨⟨_, rfl, run_loadVarA (l := [_, _, _, _, _]) Tryz.underlying49 rfl sz49 ⟨_, _, _, (by first | exact M.at_ 0 rfl | exact M.at_ 1 rfl | exact M.at_ 2 rfl | exact M.at_ 3 rfl | exact M.at_ 4 rfl | exact M.at_ 5 rfl | exact M.at_ 6 rfl | exact M.at_ 7 rfl), rfl⟩ (Nat.zero_lt_succ _)⟩, trivial⟩ ?_
      exact post_bad hR M.tail.tail (by unfold doS; rw [if_pos (by omega)])
     ·try simp only [sA, sB, sC, sD, sE, sF, ne_eq, Bool.not_eq_eq_eq_not, Bool.not_true, Bool.not_false, sK, sL, Bool.not_not, gt_iff_lt, ge_iff_le] at hco7
      have hk9 : 6 ≤ o.k ∧ o.k ≤ 9 := by simpa using hco7
      refine W.skip ?_
      refine At.then_n ?_
      refine W.seq ?_
      refine W.sub [(5, _), (6, _), (9, _)] ⟨rfl, rfl, rfl, trivial⟩ ?_
      refine W.reg [(0, false), (1, false), (2, true), (3, false), (4, false), (5, false), (6, false), (7, false)] (by kernel_rfl) ?_
      intro K hK
      refine x_fa rfl rfl rfl fo52_1 rfl ?_
      refine x_ld rfl rfl rfl Tryz.underlying9 rfl rfl (cell_of (by first | exact M.at_ 0 rfl | exact M.at_ 1 rfl | exact M.at_ 2 rfl | exact M.at_ 3 rfl | exact M.at_ 4 rfl | exact M.at_ 5 rfl | exact M.at_ 6 rfl | exact M.at_ 7 rfl) rfl) ?_
      refine x_call rfl rfl rfl rfl rfl en45 (clean_c) ?_
      rintro r wcall10 ⟨rfl, hncall10⟩
      have M := M.new hncall10
      refine ⟨trivial, ?_⟩
      refine x_move rfl rfl rfl rfl ?_
      refine x_ext rfl rfl rfl rfl rfl ?_
      refine x_ext rfl rfl rfl rfl rfl ?_
      refine x_assign rfl rfl rfl rfl ?_
      refine x_assign rfl rfl rfl rfl ?_
      refine Ex.done (hK _ _ ?_)
      refine At.then_n ?_
      refine W.seq ?_
      refine W.seq ?_
      refine W.sub [(5, _), (6, _), (9, _), (10, _), (11, _)] ⟨rfl, rfl, rfl, rfl, rfl, trivial⟩ ?_
      refine W.reg [(0, false), (1, false)] (by kernel_rfl) ?_
      intro K hK
      refine x_move rfl rfl rfl rfl ?_
      refine x_nei _ rfl rfl rfl rfl rfl rfl ?_
      refine Ex.done (hK _ _ ?_)
      refine At.then_n ?_
      refine W.cond rfl (fun hco8 => ?_) (fun hco8 => ?_)
      ·try simp only [sA, sB, sC, sD, sE, sF, ne_eq, Bool.not_eq_eq_eq_not, Bool.not_true, Bool.not_false, sK, sL, Bool.not_not, gt_iff_lt, ge_iff_le] at hco8
       refine W.seq ?_
       refine W.sub [(6, _), (11, _)] ⟨rfl, rfl, trivial⟩ ?_
       refine W.reg [(0, false), (1, true), (2, true)] (by kernel_rfl) ?_
       intro K hK
       refine x_move rfl rfl rfl rfl ?_
       refine x_call rfl rfl rfl rfl rfl en40 (fail_c) ?_
       rintro r_ wcall11 ⟨rfl, hncall11⟩
       have M := M.new hncall11
       refine ⟨trivial, ?_⟩
       refine x_st [_, _, _, _, _] _ rfl rfl rfl sz49 rfl rfl rfl rfl (by first | exact M.at_ 0 rfl | exact M.at_ 1 rfl | exact M.at_ 2 rfl | exact M.at_ 3 rfl | exact M.at_ 4 rfl | exact M.at_ 5 rfl | exact M.at_ 6 rfl | exact M.at_ 7 rfl) rfl rfl rfl ?_
       intro wst7 hwst7
       have M := by first | exact M.put 0 rfl hwst7 | exact M.put 1 rfl hwst7 | exact M.put 2 rfl hwst7 | exact M.put 3 rfl hwst7 | exact M.put 4 rfl hwst7 | exact M.put 5 rfl hwst7 | exact M.put 6 rfl hwst7 | exact M.put 7 rfl hwst7
       refine ⟨trivial, ?_⟩
       refine Ex.done (hK _ _ ?_)
       refine At.then_n ?_
       refine W.ret ?_
       refine At.then_r ?_
       refine At.ret1 (.cell 6 49) rfl ⟨⟨_, rfl, run_loadVarA (l := [_, _, _, _, _]) Tryz.underlying49 rfl sz49 ⟨_, _, _, (by first | exact M.at_ 0 rfl | exact M.at_ 1 rfl | exact M.at_ 2 rfl | exact M.at_ 3 rfl | exact M.at_ 4 rfl | exact M.at_ 5 rfl | exact M.at_ 6 rfl | exact M.at_ 7 rfl), rfl⟩ (Nat.zero_lt_succ _)⟩, trivial⟩ ?_
       exact post_bad hR M.tail.tail (by unfold doS; rw [if_neg (by omega), if_neg (by omega), if_neg (by omega), if_neg hco8])
      ·try simp only [sA, sB, sC, sD, sE, sF, ne_eq, Bool.not_eq_eq_eq_not, Bool.not_true, Bool.not_false, sK, sL, Bool.not_not, gt_iff_lt, ge_iff_le] at hco8
       obtain ⟨g, hg, heg, hgc⟩ := byP_any (w00 := w00) (Lb := Lb) (bv := bv) (bf := bf) (p := (cleanP o.p).1) (dv := .slice pd o.d.length cd) hR ⟨pd, cd, rfl⟩ hk9
       rw [hg, show doS l hf who o = namedS l hf (cleanP o.p).1 o by unfold doS; rw [if_neg (by omega), if_neg (by omega), if_neg (by omega), if_pos hco8]]
       refine W.skip ?_
       refine At.then_n ?_
       refine W.seq ?_
       refine W.sub [(5, _), (6, _), (9, _), (10, _)] ⟨rfl, rfl, rfl, rfl, trivial⟩ ?_
       refine W.reg [(0, false), (1, false), (2, false), (3, true), (4, true)] (by kernel_rfl) ?_
       intro K hK
       refine x_move rfl rfl rfl rfl ?_
       refine x_move rfl rfl rfl rfl ?_
       refine x_ldA [_, _, _, _, _, _, _, _, _] rfl rfl rfl Tryz.underlying52 rfl sz52 rfl rfl ⟨_, _, _, (by first | exact M.at_ 0 rfl | exact M.at_ 1 rfl | exact M.at_ 2 rfl | exact M.at_ 3 rfl | exact M.at_ 4 rfl | exact M.at_ 5 rfl | exact M.at_ 6 rfl | exact M.at_ 7 rfl), rfl⟩ ?_
       refine x_call rfl rfl rfl rfl rfl heg (hgc (St.fsi (X := [_, _]) M)) ?_
       rintro r_ w9 ⟨S9, Lr, ⟨dv9, lv9, L1, L2, rfl, rfl, hb9, hs9⟩, hR9, M⟩
       have M := St.fso (X := [_, _]) M
       obtain ⟨p91, c91, rfl⟩ := hb9.shape
       obtain ⟨p92, c92, rfl, _⟩ := hs9.shape2 (by decide)
       refine ⟨trivial, ?_⟩
       refine x_st [_, _, _, _, _] _ rfl rfl rfl sz49 rfl rfl rfl rfl (by first | exact M.at_ 0 rfl | exact M.at_ 1 rfl | exact M.at_ 2 rfl | exact M.at_ 3 rfl | exact M.at_ 4 rfl | exact M.at_ 5 rfl | exact M.at_ 6 rfl | exact M.at_ 7 rfl) rfl rfl rfl ?_
       intro wst8 hwst8
       have M := by first | exact M.put 0 rfl hwst8 | exact M.put 1 rfl hwst8 | exact M.put 2 rfl hwst8 | exact M.put 3 rfl hwst8 | exact M.put 4 rfl hwst8 | exact M.put 5 rfl hwst8 | exact M.put 6 rfl hwst8 | exact M.put 7 rfl hwst8
       refine ⟨trivial, ?_⟩
       refine Ex.done (hK _ _ ?_)
       refine At.then_n ?_
       refine W.ret ?_
       refine At.ret1 (.cell 6 49) rfl ⟨⟨_, rfl, run_loadVarA (l := [_, _, _, _, _]) Tryz.underlying49 rfl sz49 ⟨_, _, _, (by first | exact M.at_ 0 rfl | exact M.at_ 1 rfl | exact M.at_ 2 rfl | exact M.at_ 3 rfl | exact M.at_ 4 rfl | exact M.at_ 5 rfl | exact M.at_ 6 rfl | exact M.at_ 7 rfl), rfl⟩ (Nat.zero_lt_succ _)⟩, trivial⟩ ?_
       exact ⟨S9, L1 ++ L2, ⟨_, _, L1, L2, rfl, rfl, hb9, hs9⟩, hR9, M.tail.tail⟩
end Go.Proofs.YtigfbpbnohkokaaGreat

namespace Go.Proofs.YtigfbpbnohkokaaGreat
open Go Go.Fw Go.RowKit
set_option linter.unusedVariables false
set_option linter.unusedSimpArgs false

/-- Rows, of which one has other bytes. -/
theorem fCs_set {fs : List (Raw × Value)} {rest : List Value} {i : Nat} {f : Raw × Value} {v : Value} {d : List UInt8} (hx : fs[i]? = some f) : (fCs fs ++ rest).take (i * 3 + 2) ++ [v] ++ (fCs fs ++ rest).drop (i * 3 + 2 + 1) = fCs (fs.set i ((f.1.1, f.1.2.1, d), v)) ++ rest := by
 have hl : i < fs.length := (List.getElem?_eq_some_iff.1 hx).1
 have e1 : fCs fs = (fCs (fs.take i) ++ [strV f.1.1, .bool f.1.2.1]) ++ (f.2 :: fCs (fs.drop (i + 1))) := by
  conv => lhs; rw [split_at hx]
  simp [fCs]
 have e2 : fCs (fs.set i ((f.1.1, f.1.2.1, d), v)) = (fCs (fs.take i) ++ [strV f.1.1, .bool f.1.2.1]) ++ (v :: fCs (fs.drop (i + 1))) := by
  rw [set_at hx]
  simp [fCs]
 have hA : (fCs (fs.take i) ++ [strV f.1.1, .bool f.1.2.1]).length = i * 3 + 2 := by
  rw [List.length_append, fCs_len, List.length_take]
  simp only [List.length_cons, List.length_nil]; omega
 rw [e1, e2, List.append_assoc, List.append_assoc, tk_app hA, dr_app 1 hA]
 simp
section
variable {base : BaseF} {S : FSt} {l : List Raw} {hf : HF} {i : Nat} {x : Raw}
theorem bare_row (hx : l[i]? = some x) : l.take i ++ bareL (l.drop i) = l.take i ++ bareR x :: bareL (l.drop (i + 1)) := by
 obtain ⟨hl, rfl⟩ := List.getElem?_eq_some_iff.1 hx
 rw [List.drop_eq_getElem_cons hl]; rfl
theorem bare_next (hx : l[i]? = some x) (hd : bareR x = x) : l.take i ++ bareL (l.drop i) = l.take (i + 1) ++ bareL (l.drop (i + 1)) := by
 rw [bare_row hx, hd, take_snoc hx]; simp
theorem bare_set' (hx : l[i]? = some x) : (l.take i ++ bareL (l.drop i)).set i (x.1, x.2.1, x.2.2) = l.take (i + 1) ++ bareL (l.drop (i + 1)) := by
 have hl : i < l.length := (List.getElem?_eq_some_iff.1 hx).1
 rw [bare_row hx, take_snoc hx]
 have : (l.take i).length = i := by rw [List.length_take]; omega
 rw [List.set_append_right _ _ (by omega), this, Nat.sub_self]
 simp
theorem bare_get (hx : l[i]? = some x) : (l.take i ++ bareL (l.drop i))[i]? = some (bareR x) := by
 have hl : i < l.length := (List.getElem?_eq_some_iff.1 hx).1
 rw [bare_row hx, List.getElem?_append_right (by rw [List.length_take]; omega), List.length_take, Nat.min_eq_left (by omega), Nat.sub_self]; rfl
/-- A row that has no bytes of its own. -/
theorem FR.norow (h : FR base S l hf) (hx : x ∈ l) (hg : cget S.C x.1 = Option.none) : bareR x = x := by
 obtain ⟨a, b, d⟩ := x
 cases b with
 | true => rw [show d = [] from h.dd _ hx rfl]; rfl
 | false => exact absurd hx (h.no hg d)
theorem FR.yesrow {c : Con} (h : FR base S l hf) (hx : x ∈ l) (hg : cget S.C x.1 = some c) : c ∈ S.C ∧ x = (x.1, false, c.d) := by
 obtain ⟨hc, hk⟩ := cget_mem hg
 have := h.row hc
 rw [hk] at this
 exact ⟨hc, names_inj h.names hx this rfl⟩
end
end Go.Proofs.YtigfbpbnohkokaaGreat

namespace Go.Proofs.YtigfbpbnohkokaaGreat
open Go Go.Fw Go.RowKit Go.Proofs
set_option linter.unusedVariables false
set_option linter.unusedSimpArgs false



end Go.Proofs.YtigfbpbnohkokaaGreat

namespace Go.Proofs.YtigfbpbnohkokaaGreat
open Go Go.Fw Go.RowKit Go.Proofs
set_option linter.unusedVariables false
set_option linter.unusedSimpArgs false

set_option maxRecDepth 100000 in
theorem files19_c {w00 w0 : World} {bf : Nat} {bv : Value} {S : FSt} {base : BaseF} {Lb L : List (Nat × Obj)} {l : List Raw} {hf : HF} (M : Sep w00 (fsB bf bv (usedL l) S ++ (Lb ++ L)) w0) (hR : FR base S l hf) (hB : BaseC w00 Lb bv base) : Ret Tryz.prog 17 #[ptr bf] w0 fun r w' => ∃ Lr, FilesO Lr r l ∧ Sep w00 (fsB bf bv (usedL l) S ++ (Lb ++ (L ++ Lr))) w' := by
 have hll : l.length ≤ 128 := by have := hR.tr.le; rwa [bare_len] at this
 refine Ret.of_W Tryz.func17 rfl Tryz.ntmps17 rfl ?_
 refine W.seq ?_
 refine W.sub [(0, _)] ⟨rfl, trivial⟩ ?_
 refine W.reg [(0, false)] (by kernel_rfl) ?_
 intro K hK
 refine x_assign rfl rfl rfl rfl ?_
 refine Ex.done (hK _ _ ?_)
 refine At.then_n ?_
 refine W.seq ?_
 refine W.seq ?_
 refine W.sub [(0, _)] ⟨rfl, trivial⟩ ?_
 refine W.reg [(0, false), (1, false), (2, false), (3, false), (4, false), (5, false), (6, false), (7, false), (8, false)] (by kernel_rfl) ?_
 intro K hK
 refine x_move rfl rfl rfl rfl ?_
 refine x_eqpn false rfl rfl rfl Tryz.underlying34 rfl rfl rfl ?_
 refine x_move rfl rfl rfl rfl ?_
 refine x_move rfl rfl rfl rfl ?_
 refine x_nil rfl rfl rfl rfl rfl ?_
 refine x_fa rfl rfl rfl fo90_1 rfl ?_
 refine x_ld rfl rfl rfl Tryz.underlying83 rfl rfl (cell_of (fs_at M (fun y (hy : y ∈ fsB bf bv (usedL l) S) => by simp [hy])) rfl) ?_
 refine x_eqpn false rfl rfl rfl Tryz.underlying83 rfl rfl rfl ?_
 refine x_pickF rfl rfl rfl rfl rfl ?_
 refine Ex.done (hK _ _ ?_)
 refine At.then_n ?_
 refine W.condF rfl ?_
 refine W.skip ?_
 refine At.then_n ?_
 refine W.seq ?_
 refine W.sub [(0, _)] ⟨rfl, trivial⟩ ?_
 refine W.reg [(0, false), (1, false), (2, false), (3, false), (4, true), (5, false)] (by kernel_rfl) ?_
 intro K hK
 refine x_move rfl rfl rfl rfl ?_
 refine x_nil rfl rfl rfl rfl rfl ?_
 refine x_fa rfl rfl rfl fo90_1 rfl ?_
 refine x_ld rfl rfl rfl Tryz.underlying83 rfl rfl (cell_of (fs_at M (fun y (hy : y ∈ fsB bf bv (usedL l) S) => by simp [hy])) rfl) ?_
 refine x_call rfl rfl rfl rfl rfl en46 (files_r (St.tri (X := []) M) hR.tr) ?_
 rintro r_ w1 ⟨Lr, hl1, M⟩
 have M : Sep w00 (fsB bf bv (usedL l) S ++ (Lb ++ (L ++ Lr))) w1 := St.tro2 (X := []) M
 obtain ⟨fs0, Lo0, Ld0, hm0, rfl, how0, hdat0⟩ := hl1
 obtain ⟨pv, cv, rfl⟩ := how0.shape
 have hfl0 : fs0.length = l.length := by have := congrArg List.length hm0; simpa [bareL] using this
 refine ⟨trivial, ?_⟩
 refine x_assign rfl rfl rfl rfl ?_
 refine Ex.done (hK _ _ ?_)
 refine At.then_n ?_
 refine W.seq ?_
 refine W.seq ?_
 refine W.sub [(0, _), (3, _)] ⟨rfl, rfl, trivial⟩ ?_
 refine W.reg [(0, false), (1, false), (2, false)] (by kernel_rfl) ?_
 intro K hK
 refine x_move rfl rfl rfl rfl ?_
 refine x_len rfl rfl rfl rfl Tryz.underlying24 rfl ?_
 refine x_move rfl rfl rfl rfl ?_
 refine Ex.done (hK _ _ ?_)
 refine At.then_n ?_
 refine W.block ?_
 refine W.loop (σ := Nat × List (Raw × Value) × List (Nat × Obj) × List (Nat × Obj)) (fun q => [(0, _), (3, _), (21, _), (22, _), (23, .int .i64 ((q.1 : Nat) : Int))]) (fun q w => q.1 ≤ l.length ∧ OwL q.2.2.1 (.slice pv fs0.length cv) 3 q.2.1.length (fCs q.2.1) ∧ q.2.1.map (·.1) = l.take q.1 ++ bareL (l.drop q.1) ∧ (∀ f ∈ q.2.1, SlL q.2.2.2 f.2 1 f.1.2.2.length (byteCs f.1.2.2) ∧ f.2.oneCell' = true) ∧ Sep w00 (fsB bf bv (usedL l) S ++ (Lb ++ (L ++ (q.2.2.1 ++ q.2.2.2)))) w) (fun q => l.length - q.1) (0, fs0, Lo0, Ld0) ⟨rfl, rfl, rfl, rfl, rfl, trivial⟩ ⟨Nat.zero_le _, how0, by simpa using hm0, hdat0, M⟩ ?_
 rintro ⟨i, fs, Lo, Ld⟩ w ⟨hi, how, hmap, hdat, M⟩
 simp only at hi how hmap hdat M
 have hfl : fs.length = l.length := by have := congrArg List.length hmap; simp [bareL] at this; omega
 refine W.seq ?_
 refine W.sub [(0, _), (3, _), (21, _), (22, _), (23, _)] ⟨rfl, rfl, rfl, rfl, rfl, trivial⟩ ?_
 refine W.reg [(0, false)] (by kernel_rfl) ?_
 intro K hK
 refine x_lss _ rfl rfl rfl rfl rfl rfl ?_
 refine Ex.done (hK _ _ ?_)
 refine At.then_n ?_
 refine W.seq ?_
 refine W.cond rfl (fun hco2 => ?_) (fun hco2 => ?_)
 ·try simp only [sA, sB, sC, sD, sE, sF, ne_eq, Bool.not_eq_eq_eq_not, Bool.not_true, Bool.not_false, sK, sL, Bool.not_not, gt_iff_lt, ge_iff_le] at hco2
  obtain ⟨x, hx⟩ := get_lt (l := l) (q := i) (by omega)
  have hxl := List.mem_of_getElem? hx
  obtain ⟨f, hfx⟩ := get_lt (l := fs) (q := i) (by omega)
  have hfm := List.mem_of_getElem? hfx
  have hf1 : f.1 = bareR x := by
   have h1 := congrArg (fun z : List Raw => z[i]?) hmap
   simp only [List.getElem?_map, hfx, Option.map_some, bare_get hx, Option.some.injEq] at h1
   exact h1
  obtain ⟨bo, cap, rest, T, hv, hLo, h3, h4⟩ : ∃ bo cap rest T, Value.slice pv fs0.length cv = .slice (some ⟨bo, 0, none⟩) fs.length cap ∧ Lo = [(bo, .cells (fCs fs ++ rest).toArray T (0, 0))] ∧ (fCs fs).length = fs.length * 3 ∧ (fCs fs ++ rest).length = cap * 3 := by
   rcases how with ⟨_, h, _⟩ | h
   ·omega
   ·exact h
  obtain ⟨rfl, rfl⟩ : pv = some ⟨bo, 0, none⟩ ∧ cv = cap := by simp only [Value.slice.injEq] at hv; exact ⟨hv.1, hv.2.2⟩
  subst hLo
  obtain ⟨hsl2, _⟩ := hdat f hfm
  rw [hf1] at hsl2
  obtain ⟨p2, c2, hf2⟩ := hsl2.shape
  have hfe : f = ((x.1, x.2.1, []), .slice p2 0 c2) := Prod.ext hf1 hf2
  have hrow := ((how.sl (by decide)).get (fun y hy => M.get (List.mem_append_right _ (List.mem_append_right _ (List.mem_append_right _ (List.mem_append_left _ hy)))))).row (j := i) (b := bo) (off := 0) (cap := cv) (l := [strV x.1, .bool x.2.1, .slice p2 0 c2]) (by rw [hfl0, hfl]) (by have := flat_drop (m := 3) (e1 := fun f : Raw × Value => [strV f.1.1, .bool f.1.2.1, f.2]) (by decide) (fun _ _ => rfl) hfx; rw [hfe] at this; exact this) (by simp)
  refine W.skip ?_
  refine At.then_n ?_
  refine W.seq ?_
  refine W.block ?_
  refine W.seq ?_
  refine W.sub [(0, _), (3, _), (21, _), (22, _), (23, _)] ⟨rfl, rfl, rfl, rfl, rfl, trivial⟩ ?_
  refine W.reg [(0, false), (1, false), (2, false), (3, true), (4, false), (5, true)] (by kernel_rfl) ?_
  intro K hK
  refine x_move rfl rfl rfl rfl ?_
  refine x_ia i rfl rfl rfl Tryz.underlying24 sz29 rfl rfl rfl (by omega) ?_
  refine x_ldA [_, _, _] rfl rfl rfl Tryz.underlying29 rfl sz29 rfl rfl hrow ?_
  refine x_alloc [_, _, _] rfl rfl rfl ze29 rfl ?_
  intro bal1 wal1 hbal1 hwal1
  have M := M.acons hbal1 hwal1
  refine ⟨trivial, ?_⟩
  refine x_assign rfl rfl rfl rfl ?_
  refine x_st [_, _, _] _ rfl rfl rfl sz29 rfl rfl rfl rfl (by first | exact M.at_ 0 rfl | exact M.at_ 1 rfl | exact M.at_ 2 rfl | exact M.at_ 3 rfl | exact M.at_ 4 rfl | exact M.at_ 5 rfl | exact M.at_ 6 rfl | exact M.at_ 7 rfl) rfl rfl rfl ?_
  intro wst1 hwst1
  have M : Sep w00 ((bal1, .cells [strV x.1, .bool x.2.1, .slice p2 0 c2].toArray 29 (0, 0)) :: (fsB bf bv (usedL l) S ++ (Lb ++ (L ++ ([(bo, .cells (fCs fs ++ rest).toArray T (0, 0))] ++ Ld))))) wst1 := M.put 0 rfl hwst1
  refine ⟨trivial, ?_⟩
  refine Ex.done (hK _ _ ?_)
  refine At.then_n ?_
  refine W.seq ?_
  refine W.sub [(0, _), (3, _), (4, _), (5, _), (21, _), (22, _), (23, _)] ⟨rfl, rfl, rfl, rfl, rfl, rfl, rfl, trivial⟩ ?_
  refine W.regD (by kernel_rfl) #[0, 1, 3, 7, 0, 16, 63, 127] [(0, false), (1, false), (2, false), (3, false), (4, false), (5, false), (6, false), (7, false)] (by kernel_rfl) ?_
  intro K wD1 hK hwD1
  have M := M.drew hwD1
  refine x_move rfl rfl rfl rfl ?_
  refine x_nil rfl rfl rfl rfl rfl ?_
  refine x_fa rfl rfl rfl fo90_2 rfl ?_
  refine x_ld rfl rfl rfl Tryz.underlying84 rfl rfl (cell_of (fs_at M (fun y (hy : y ∈ fsB bf bv (usedL l) S) => by simp [hy])) rfl) ?_
  refine x_fa rfl rfl rfl fo29_0 rfl ?_
  refine x_ld rfl rfl rfl Tryz.underlying9 rfl rfl (cell_of (by first | exact M.at_ 0 rfl | exact M.at_ 1 rfl | exact M.at_ 2 rfl | exact M.at_ 3 rfl | exact M.at_ 4 rfl | exact M.at_ 5 rfl | exact M.at_ 6 rfl | exact M.at_ 7 rfl) rfl) ?_
  refine x_lk1 (enc := strV) x.1 rfl rfl rfl (strKey Tryz.underlying9) Tryz.underlying84 ze102 rfl rfl ⟨S.om, cmap S.C, M.get (by simp [fsB]), hR.mp, rfl⟩ ?_
  rw [cmap_getD]
  refine x_assign rfl rfl rfl rfl ?_
  refine Ex.done (hK _ _ ?_)
  refine At.then_n ?_
  refine W.seq ?_
  refine W.sub [(0, _), (3, _), (4, _), (6, _), (21, _), (22, _), (23, _)] ⟨rfl, rfl, rfl, rfl, rfl, rfl, rfl, trivial⟩ ?_
  refine W.reg [(0, false), (1, false)] (by kernel_rfl) ?_
  intro K hK
  refine x_move rfl rfl rfl rfl ?_
  refine x_nepn _ rfl rfl rfl Tryz.underlying102 rfl rfl rfl ?_
  refine Ex.done (hK _ _ ?_)
  refine At.then_n ?_
  refine W.cond rfl (fun hco3 => ?_) (fun hco3 => ?_)
  ·try simp only [sA, sB, sC, sD, sE, sF, ne_eq, Bool.not_eq_eq_eq_not, Bool.not_true, Bool.not_false, sK, sL, Bool.not_not, gt_iff_lt, ge_iff_le] at hco3
   obtain ⟨c, hg⟩ : ∃ c, cget S.C x.1 = some c := by
    cases hg : cget S.C x.1 with
    | none => unfold cptr at hco3; rw [hg] at hco3; simp at hco3
    | some c => exact ⟨c, rfl⟩
   obtain ⟨hc, hxe⟩ := hR.yesrow hxl hg
   have hOKc := hR.ok c hc
   have hcl := hOKc.le
   have hcp : cptr S.C x.1 = some ⟨c.b, 0, none⟩ := by unfold cptr; rw [hg]; rfl
   rw [hcp]
   refine W.sub [(0, _), (3, _), (4, _), (6, _), (21, _), (22, _), (23, _)] ⟨rfl, rfl, rfl, rfl, rfl, rfl, rfl, trivial⟩ ?_
   refine W.reg [(0, false), (1, false), (2, false), (3, false), (4, false), (5, true), (6, true), (7, false), (8, false), (9, true)] (by kernel_rfl) ?_
   intro K hK
   refine x_move rfl rfl rfl rfl ?_
   refine x_move rfl rfl rfl rfl ?_
   refine x_move rfl rfl rfl rfl ?_
   refine x_move rfl rfl rfl rfl ?_
   refine x_move rfl rfl rfl rfl ?_
   refine x_call rfl rfl rfl rfl rfl en48 (length_c (con_at M (fun y (hy : y ∈ fsB bf bv (usedL l) S) => by simp [hy]) hc) hOKc) ?_
   rintro r_ w_ ⟨rfl, rfl⟩
   refine ⟨trivial, ?_⟩
   refine x_call rfl rfl rfl rfl rfl en47 (bytes_c (a := 0) (n := c.d.length) (St.fsi (X := [_]) M) hc hOKc hB (by omega)) ?_
   rintro v3 w3 ⟨L3, hb3, M⟩
   have M := St.fso (X := [_]) M
   rw [List.drop_zero, List.take_length] at hb3
   obtain ⟨p3, c3, rfl⟩ := hb3.shape
   have M : Sep w00 ((bo, .cells (fCs fs ++ rest).toArray T (0, 0)) :: (bal1, .cells [strV x.1, .bool x.2.1, .slice p2 0 c2].toArray 29 (0, 0)) :: (fsB bf bv (usedL l) S ++ (Lb ++ (L ++ (Ld ++ L3))))) w3 := M.perm (perm_c fun p => by simp only [List.countP_append, List.countP_cons, List.countP_nil]; omega)
   refine ⟨trivial, ?_⟩
   refine x_ia i rfl rfl rfl Tryz.underlying24 sz29 rfl rfl rfl (by omega) ?_
   refine x_fa rfl rfl rfl fo29_2 rfl ?_
   refine x_st [_] (fCs (fs.set i ((x.1, x.2.1, c.d), .slice p3 c.d.length c3)) ++ rest) rfl rfl rfl sz27 rfl rfl rfl rfl (M.at_ 0 rfl) rfl (by rw [List.length_append, h3]; exact Nat.ble_eq_true_of_le (by simp only [List.length_cons, List.length_nil]; omega)) (by rw [Nat.zero_add]; have := fCs_set (rest := rest) (v := .slice p3 c.d.length c3) (d := c.d) hfx; rw [hfe] at this; exact this) ?_
   intro wst2 hwst2
   have M : Sep w00 ((bo, .cells (fCs (fs.set i ((x.1, x.2.1, c.d), .slice p3 c.d.length c3)) ++ rest).toArray T (0, 0)) :: (bal1, .cells [strV x.1, .bool x.2.1, .slice p2 0 c2].toArray 29 (0, 0)) :: (fsB bf bv (usedL l) S ++ (Lb ++ (L ++ (Ld ++ L3))))) wst2 := M.put 0 rfl hwst2
   refine ⟨trivial, ?_⟩
   refine Ex.done (hK _ _ ?_)
   refine At.blk_n ?_
   refine At.then_n ?_
   refine W.sub [(0, _), (3, _), (21, _), (22, _), (23, _)] ⟨rfl, rfl, rfl, rfl, rfl, trivial⟩ ?_
   refine W.reg [(0, false), (1, false)] (by kernel_rfl) ?_
   intro K hK
   refine x_add _ rfl rfl rfl rfl rfl (wadd (by omega) (by omega)) ?_
   refine x_move rfl rfl rfl rfl ?_
   refine Ex.done (hK _ _ ?_)
   exact At.back ((i + 1, (fs.set i ((x.1, x.2.1, c.d), .slice p3 c.d.length c3)), [(bo, .cells (fCs (fs.set i ((x.1, x.2.1, c.d), .slice p3 c.d.length c3)) ++ rest).toArray T (0, 0))], Ld ++ L3)) ⟨rfl, rfl, rfl, rfl, rfl, trivial⟩ ⟨by simp only; omega, .inr ⟨bo, cv, rest, T, by simp only [List.length_set]; exact hv, rfl, by simp only [List.length_set]; rw [fCs_len, List.length_set], by rw [List.length_append, fCs_len, List.length_set]; rw [List.length_append, h3] at h4; exact h4⟩, by simp only; rw [List.map_set, hmap, show ((x.1, x.2.1, c.d) : Raw) = (x.1, x.2.1, x.2.2) by rw [hxe], bare_set' hx], fun g hg => by
    rcases List.mem_or_eq_of_mem_set hg with hg | rfl
    ·exact ⟨(hdat g hg).1.mono (fun y hy => List.mem_append_left _ hy), (hdat g hg).2⟩
    ·exact ⟨(OwL.sl hb3 (by decide)).mono (fun y hy => List.mem_append_right _ hy), rfl⟩, (M.perm (List.Perm.swap _ _ _)).tail.perm (perm_c fun p => by simp only [List.countP_append, List.countP_cons, List.countP_nil]; omega)⟩ (by first | omega | (simp only; omega) | (simp; done) | (simp; omega))
  ·try simp only [sA, sB, sC, sD, sE, sF, ne_eq, Bool.not_eq_eq_eq_not, Bool.not_true, Bool.not_false, sK, sL, Bool.not_not, gt_iff_lt, ge_iff_le] at hco3
   have hg : cget S.C x.1 = none := by
    cases hg : cget S.C x.1 with
    | none => rfl
    | some c => unfold cptr at hco3; rw [hg] at hco3; simp at hco3
   refine W.skip ?_
   refine At.blk_n ?_
   refine At.then_n ?_
   refine W.sub [(0, _), (3, _), (21, _), (22, _), (23, _)] ⟨rfl, rfl, rfl, rfl, rfl, trivial⟩ ?_
   refine W.reg [(0, false), (1, false)] (by kernel_rfl) ?_
   intro K hK
   refine x_add _ rfl rfl rfl rfl rfl (wadd (by omega) (by omega)) ?_
   refine x_move rfl rfl rfl rfl ?_
   refine Ex.done (hK _ _ ?_)
   exact At.back ((i + 1, fs, [(bo, .cells (fCs fs ++ rest).toArray T (0, 0))], Ld)) ⟨rfl, rfl, rfl, rfl, rfl, trivial⟩ ⟨by simp only; omega, how, by simp only; rw [hmap, bare_next hx (hR.norow hxl hg)], hdat, M.tail⟩ (by first | omega | (simp only; omega) | (simp; done) | (simp; omega))
 ·try simp only [sA, sB, sC, sD, sE, sF, ne_eq, Bool.not_eq_eq_eq_not, Bool.not_true, Bool.not_false, sK, sL, Bool.not_not, gt_iff_lt, ge_iff_le] at hco2
  refine W.exit ?_
  refine At.then_x ?_
  refine At.loop_x ?_
  refine At.blk_x ?_
  refine At.then_n ?_
  refine W.seq ?_
  refine W.sub [(3, _)] ⟨rfl, trivial⟩ ?_
  refine W.reg [(0, false), (1, false)] (by kernel_rfl) ?_
  intro K hK
  refine x_move rfl rfl rfl rfl ?_
  refine x_assign rfl rfl rfl rfl ?_
  refine Ex.done (hK _ _ ?_)
  refine At.then_n ?_
  refine W.ret ?_
  refine At.ret1 (.tmp 2) rfl ⟨rfl, trivial⟩ ?_
  have hi2 : i = l.length := by omega
  subst hi2
  rw [List.take_length, List.drop_length] at hmap
  exact ⟨Lo ++ Ld, ⟨fs, Lo, Ld, by rw [hmap]; simp [bareL], rfl, how, hdat⟩, M⟩
end Go.Proofs.YtigfbpbnohkokaaGreat

namespace Go.Proofs.YtigfbpbnohkokaaGreat
open Go Go.Fw Go.RowKit
set_option linter.unusedVariables false
set_option linter.unusedSimpArgs false

abbrev Mt := List UInt8 × Bool × Int
def mCs (ml : List Mt) : List Value := ml.flatMap fun m => [strV m.1, .bool m.2.1, .int .i64 m.2.2]
theorem mCs_one (ml : List Mt) : ∀ u ∈ mCs ml, u.oneCell' = true := by
 intro u hu
 obtain ⟨m, _, hu⟩ := List.mem_flatMap.1 hu
 simp only [List.mem_cons, List.not_mem_nil, or_false] at hu
 rcases hu with rfl | rfl | rfl <;> rfl
def MetasAt (w : World) (v : Value) (ml : List Mt) : Prop := Sg w v 3 ml.length (mCs ml)
def badM (m : Mt) : Bool := decide (m.2.2 < 0) || (m.2.1 && decide (m.2.2 ≠ 0))
def metaR (x : Raw) : Mt := (x.1, x.2.1, (x.2.2.length : Int))
def mRaw (m : Mt) : Raw := (m.1, m.2.1, [])
noncomputable def newS (l : List Raw) : List Raw × Int := if l.any (fun x => decide (65536 < x.2.2.length)) = true then ([], 3) else if (ofL (bareL l)).2 ≠ 0 then ([], (ofL (bareL l)).2) else if 262144 < usedL l then ([], 7) else ((ofL l).1, 0)
section
variable {w w1 : World} {v : Value} {ml : List Mt} {p : Option Addr} {b off len cap j : Nat} {m : Mt}
theorem MetasAt.new (h : MetasAt w v ml) (hn : New w w1) : MetasAt w1 v ml := Sg.new h hn
theorem MetasAt.blk (h : MetasAt w (.slice p len cap) ml) (hj : j < ml.length) : ∃ b off, p = some ⟨b, off, none⟩ ∧ len = ml.length := Sg.blk (j := j) h hj
theorem MetasAt.row (h : MetasAt w (.slice (some ⟨b, off, none⟩) len cap) ml) (hx : ml[j]? = some m) : RowAt w b (off + j * 3) [strV m.1, .bool m.2.1, .int .i64 m.2.2] := by
 have hj : j < ml.length := (List.getElem?_eq_some_iff.1 hx).1
 obtain ⟨b', off', h6, h7⟩ := MetasAt.blk h hj
 cases h6; subst h7
 exact (Sg.sl h (by omega)).row (j := j) (l := [strV m.1, .bool m.2.1, .int .i64 m.2.2]) rfl (flat_drop (m := 3) (e1 := fun m : Mt => [strV m.1, .bool m.2.1, .int .i64 m.2.2]) (by decide) (fun _ _ => rfl) hx) (by simp)
end
section
variable {l : List Raw} {x : Raw}
def OKd (l : List Raw) : Prop := ∀ x ∈ l, x.2.2.length ≤ 65536 ∧ (x.2.1 = true → x.2.2 = [])
theorem bare_single (h1 : x.2.2.length ≤ 65536) (h2 : x.2.1 = true → x.2.2 = []) : singleR (bareR x) = singleR x := by
 unfold singleR
 show (if splitE x.1 = 0 ∧ splitN x.1 ≠ [] then (if x.2.1 = true ∧ ([] : List UInt8) ≠ [] then (16 : Int) else if 65536 < ([] : List UInt8).length then 3 else 0) else 8) = _
 split
 ·rw [if_neg (fun h => h.2 rfl), if_neg (by simp), if_neg (fun h => h.2 (h2 h.1)), if_neg (by omega)]
 ·rfl
theorem bare_first (h : OKd l) : firstR (bareL l) = firstR l := by
 unfold firstR bareL
 have : ∀ {m : List Raw}, OKd m → (m.map bareR).find? (fun x => decide (singleR x ≠ 0)) = (m.find? (fun x => decide (singleR x ≠ 0))).map bareR := by
  intro m
  induction m with
  | nil => intro _; rfl
  | cons y m ih =>
   intro hm
   have hy := hm y List.mem_cons_self
   have ih := ih (fun z hz => hm z (List.mem_cons_of_mem _ hz))
   rw [List.map_cons, List.find?_cons, List.find?_cons, bare_single hy.1 hy.2]
   split
   ·rfl
   ·exact ih
 rw [this h]
 cases hx : l.find? (fun x => decide (singleR x ≠ 0)) with
 | none => rfl
 | some y =>
  have hm := h y (List.mem_of_find?_eq_some hx)
  exact bare_single hm.1 hm.2
theorem bare_fold : ∀ (l A : List Raw), (bareL l).foldl withR (bareL A) = bareL (l.foldl withR A)
 | [], A => rfl
 | x :: l, A => by
  show (bareL l).foldl withR (withR (bareL A) (bareR x)) = _
  rw [bare_with]
  exact bare_fold l _
theorem bare_fillX (N : NP) (t : List Raw) : ∀ k, fillX N (bareL t) k = bareL (fillX N t k)
 | 0 => rfl
 | k + 1 => by
  unfold fillX
  rw [bare_fillX N t k, bare_at]
  split
  ·rfl
  ·rw [show ((joinS (N.take (k + 1)), true, []) : Raw) = bareR (joinS (N.take (k + 1)), true, []) from rfl, bare_with]; rfl
theorem bare_fillL : ∀ (l t : List Raw), fillL (bareL l) (bareL t) = bareL (fillL l t)
 | [], t => rfl
 | x :: l, t => by
  show (bareL l).foldl _ (fillX (splitN x.1) (bareL t) _) = _
  rw [bare_fillX]
  exact bare_fillL l _
theorem bare_badL : badL (bareL l) ↔ badL l := by
 have hb : ∀ i, (bareL l)[i]? = (l[i]?).map bareR := fun i => by unfold bareL; rw [List.getElem?_map]
 unfold badL BadAt
 constructor
 ·rintro ⟨i, k, x, y, h1, h2, h3, h4, h5⟩
  rw [hb] at h1 h2
  obtain ⟨x', g1, rfl⟩ := Option.map_eq_some_iff.1 h1
  obtain ⟨y', g2, rfl⟩ := Option.map_eq_some_iff.1 h2
  exact ⟨i, k, x', y', g1, g2, h3, h4, h5⟩
 ·rintro ⟨i, k, x, y, h1, h2, h3, h4, h5⟩
  exact ⟨i, k, bareR x, bareR y, by rw [hb, h1]; rfl, by rw [hb, h2]; rfl, h3, h4, h5⟩
theorem bare_of (h : OKd l) : ofL (bareL l) = (bareL (ofL l).1, (ofL l).2) := by
 have hn : (bareL l).map (·.1) = l.map (·.1) := bare_names' l
 have hf : fillL (bareL l) ((bareL l).foldl withR []) = bareL (fillL l (l.foldl withR [])) := by
  have := bare_fold l []
  rw [show bareL ([] : List Raw) = [] from rfl] at this
  rw [this, bare_fillL]
 unfold ofL
 rw [bare_first h, hn, hf, bare_len, show badL (bareL l) = badL l from propext bare_badL]
 split
 ·rfl
 ·split
  ·rfl
  ·split
   ·rfl
   ·split <;> rfl
theorem fillX_mem {N : NP} {t : List Raw} {y : Raw} : ∀ k, y ∈ fillX N t k → y ∈ t ∨ (y.2.1 = true ∧ y.2.2 = [])
 | 0, h => .inl h
 | k + 1, h => by
  unfold fillX at h
  split at h
  ·exact fillX_mem k h
  ·rcases withR_mem.1 h with rfl | h
   ·exact .inr ⟨rfl, rfl⟩
   ·exact fillX_mem k h
theorem fillX_sub {N : NP} {t : List Raw} {y : Raw} (h : y ∈ t) : ∀ k, y ∈ fillX N t k
 | 0 => h
 | k + 1 => by
  unfold fillX
  split
  ·exact fillX_sub h k
  ·exact withR_mem.2 (.inr (fillX_sub h k))
theorem fillX_used {N : NP} {t : List Raw} : ∀ k, usedL (fillX N t k) = usedL t
 | 0 => rfl
 | k + 1 => by
  unfold fillX
  split
  ·exact fillX_used k
  ·rw [usedL_with, fillX_used k]; simp
theorem fillL_mem {y : Raw} : ∀ {l t : List Raw}, y ∈ fillL l t → y ∈ t ∨ (y.2.1 = true ∧ y.2.2 = [])
 | [], t, h => .inl h
 | x :: l, t, h => by
  rcases fillL_mem (l := l) h with h | h
  ·exact fillX_mem _ h
  ·exact .inr h
theorem fillL_sub {y : Raw} : ∀ {l t : List Raw}, y ∈ t → y ∈ fillL l t
 | [], t, h => h
 | x :: l, t, h => fillL_sub (l := l) (fillX_sub h _)
theorem fillL_used : ∀ {l t : List Raw}, usedL (fillL l t) = usedL t
 | [], t => rfl
 | x :: l, t => by
  show usedL (fillL l _) = _
  rw [fillL_used (l := l), fillX_used]
theorem fold_used : ∀ {l A : List Raw}, usedL (l.foldl withR A) = usedL l + usedL A
 | [], A => by simp [usedL]
 | x :: l, A => by
  show usedL (l.foldl withR (withR A x)) = _
  rw [fold_used, usedL_with, usedL_cons]; omega
/-- What stands there when files are made. -/
theorem of_facts (h0 : (ofL l).2 = 0) (hd : OKd l) : (l.map (·.1)).Nodup ∧ usedL (ofL l).1 = usedL l ∧ (∀ p d, (p, false, d) ∈ (ofL l).1 ↔ (p, false, d) ∈ l) ∧ ∀ z ∈ (ofL l).1, z.2.1 = true → z.2.2 = [] := by
 unfold ofL at h0 ⊢
 split
 ·rename_i h1; rw [if_pos h1] at h0; exact absurd h0 h1
 ·rename_i h1
  rw [if_neg h1] at h0
  split
  ·rename_i h2; rw [if_pos h2] at h0; cases h0
  ·rename_i h2
   rw [if_neg h2] at h0
   split
   ·rename_i h3; rw [if_pos h3] at h0; cases h0
   ·rename_i h3
    rw [if_neg h3] at h0
    split
    ·rename_i h4; rw [if_pos h4] at h0; cases h0
    ·refine ⟨Classical.not_not.1 h2, by rw [fillL_used, fold_used]; simp [usedL], fun p d => ⟨fun h => ?_, fun h => fillL_sub (fold_mem.2 h)⟩, fun z hz hzd => ?_⟩
     ·rcases fillL_mem h with h | ⟨h, _⟩
      ·exact fold_mem.1 h
      ·cases h
     ·rcases fillL_mem hz with h | ⟨_, h⟩
      ·exact (hd z (fold_mem.1 h)).2 hzd
      ·exact h
end
end Go.Proofs.YtigfbpbnohkokaaGreat

namespace Go.Proofs.YtigfbpbnohkokaaGreat
open Go Go.Fw Go.RowKit Go.Proofs
set_option linter.unusedVariables false
set_option linter.unusedSimpArgs false

set_option maxRecDepth 100000 in
theorem indexM_c {w0 : World} {p : Option Addr} {cap g : Nat} {cp : Array Value} {l : List Mt} {f : Mt → Bool} (h : MetasAt w0 (.slice p l.length cap) l) (hl : l.length ≤ 1000) (hent : entered Tryz.prog g = true)
  (hg : ∀ x ∈ l, ∀ w, New w0 w → Ret Tryz.prog g (#[] ++ [.agg #[strV x.1, .bool x.2.1, .int .i64 x.2.2]].toArray ++ cp) w fun r w' => r = .bool (f x) ∧ New w w') : Ret Tryz.prog 59 #[.slice p l.length cap, .func (.func g) #[] cp] w0 fun r w' => r = .int .i64 (idxI l f) ∧ New w0 w' := by
 have M : Sep w0 [] w0 := St.nil w0
 refine Ret.of_W Tryz.func59 rfl Tryz.ntmps59 rfl ?_
 refine W.seq ?_
 refine W.sub [(0, _), (1, _)] ⟨rfl, rfl, trivial⟩ ?_
 refine W.reg [(0, false)] (by kernel_rfl) ?_
 intro K hK
 refine x_assign rfl rfl rfl rfl ?_
 refine Ex.done (hK _ _ ?_)
 refine At.then_n ?_
 refine W.seq ?_
 refine W.seq ?_
 refine W.sub [(0, _), (1, _)] ⟨rfl, rfl, trivial⟩ ?_
 refine W.reg [(0, false), (1, false), (2, false)] (by kernel_rfl) ?_
 intro K hK
 refine x_move rfl rfl rfl rfl ?_
 refine x_len rfl rfl rfl rfl Tryz.underlying22 rfl ?_
 refine x_move rfl rfl rfl rfl ?_
 refine Ex.done (hK _ _ ?_)
 refine At.then_n ?_
 refine W.block ?_
 refine W.loop (σ := Nat) (fun j => [(0, _), (1, _), (7, _), (8, .int .i64 ((j : Nat) : Int))]) (fun j w => j ≤ l.length ∧ (∀ x ∈ l.take j, f x = false) ∧ Sep w0 [] w) (fun j => l.length - j) 0 ⟨rfl, rfl, rfl, rfl, trivial⟩ ⟨Nat.zero_le _, by simp, M⟩ ?_
 rintro j w ⟨hj, hno, M⟩
 refine W.seq ?_
 refine W.sub [(0, _), (1, _), (7, _), (8, _)] ⟨rfl, rfl, rfl, rfl, trivial⟩ ?_
 refine W.reg [(0, false)] (by kernel_rfl) ?_
 intro K hK
 refine x_lss _ rfl rfl rfl rfl rfl rfl ?_
 refine Ex.done (hK _ _ ?_)
 refine At.then_n ?_
 refine W.seq ?_
 refine W.cond rfl (fun hco1 => ?_) (fun hco1 => ?_)
 ·try simp only [sA, sB, sC, sD, sE, sF, ne_eq, Bool.not_eq_eq_eq_not, Bool.not_true, Bool.not_false, sK, sL, Bool.not_not, gt_iff_lt, ge_iff_le] at hco1
  obtain ⟨x, hx⟩ := get_lt (l := l) (q := j) (by omega)
  have hs := h.new M.frm
  obtain ⟨b, off, rfl, _⟩ := hs.blk (j := j) (by omega)
  have hrow := hs.row hx
  refine W.skip ?_
  refine At.then_n ?_
  refine W.seq ?_
  refine W.block ?_
  refine W.seq ?_
  refine W.sub [(0, _), (1, _), (7, _), (8, _)] ⟨rfl, rfl, rfl, rfl, trivial⟩ ?_
  refine W.reg [(0, false), (1, false)] (by kernel_rfl) ?_
  intro K hK
  refine x_move rfl rfl rfl rfl ?_
  refine x_assign rfl rfl rfl rfl ?_
  refine Ex.done (hK _ _ ?_)
  refine At.then_n ?_
  refine W.seq ?_
  refine W.sub [(0, _), (1, _), (5, _), (7, _), (8, _)] ⟨rfl, rfl, rfl, rfl, rfl, trivial⟩ ?_
  refine W.reg [(0, false), (1, false), (2, false), (3, false), (4, false), (5, true)] (by kernel_rfl) ?_
  intro K hK
  refine x_move rfl rfl rfl rfl ?_
  refine x_move rfl rfl rfl rfl ?_
  refine x_move rfl rfl rfl rfl ?_
  refine x_ia j rfl rfl rfl Tryz.underlying22 sz26 rfl rfl rfl (by omega) ?_
  refine x_ldA [_, _, _] rfl rfl rfl Tryz.underlying26 rfl sz26 rfl rfl hrow ?_
  refine x_call rfl rfl rfl rfl rfl hent (hg x (List.mem_of_getElem? hx) _ M.frm) ?_
  rintro v w1 ⟨rfl, hn1⟩
  have M := M.new hn1
  refine ⟨trivial, ?_⟩
  refine Ex.done (hK _ _ ?_)
  refine At.then_n ?_
  refine W.cond rfl (fun hco2 => ?_) (fun hco2 => ?_)
  ·try simp only [sA, sB, sC, sD, sE, sF, ne_eq, Bool.not_eq_eq_eq_not, Bool.not_true, Bool.not_false, sK, sL, Bool.not_not, gt_iff_lt, ge_iff_le] at hco2
   refine W.seq ?_
   refine W.sub [(5, _)] ⟨rfl, trivial⟩ ?_
   refine W.reg [(0, false), (1, false)] (by kernel_rfl) ?_
   intro K hK
   refine x_move rfl rfl rfl rfl ?_
   refine x_assign rfl rfl rfl rfl ?_
   refine Ex.done (hK _ _ ?_)
   refine At.then_n ?_
   refine W.ret ?_
   refine At.blk_r ?_
   refine At.then_r ?_
   refine At.loop_r ?_
   refine At.blk_r ?_
   refine At.then_r ?_
   refine At.ret1 (.tmp 4) rfl ⟨rfl, trivial⟩ ?_
   exact ⟨by rw [idxI_at hx hno hco2], M.frm⟩
  ·try simp only [sA, sB, sC, sD, sE, sF, ne_eq, Bool.not_eq_eq_eq_not, Bool.not_true, Bool.not_false, sK, sL, Bool.not_not, gt_iff_lt, ge_iff_le] at hco2
   refine W.skip ?_
   refine At.blk_n ?_
   refine At.then_n ?_
   refine W.sub [(0, _), (1, _), (7, _), (8, _)] ⟨rfl, rfl, rfl, rfl, trivial⟩ ?_
   refine W.reg [(0, false), (1, false)] (by kernel_rfl) ?_
   intro K hK
   refine x_add _ rfl rfl rfl rfl rfl (wadd (by omega) (by omega)) ?_
   refine x_move rfl rfl rfl rfl ?_
   refine Ex.done (hK _ _ ?_)
   exact At.back (j + 1) ⟨rfl, rfl, rfl, rfl, trivial⟩ ⟨by omega, mem_take_snoc hx hno hco2, M⟩ (by first | omega | (simp only; omega) | (simp; done) | (simp; omega))
 ·try simp only [sA, sB, sC, sD, sE, sF, ne_eq, Bool.not_eq_eq_eq_not, Bool.not_true, Bool.not_false, sK, sL, Bool.not_not, gt_iff_lt, ge_iff_le] at hco1
  refine W.exit ?_
  refine At.then_x ?_
  refine At.loop_x ?_
  refine At.blk_x ?_
  refine At.then_n ?_
  refine W.seq ?_
  refine W.sub [] trivial ?_
  refine W.reg [(0, false)] (by kernel_rfl) ?_
  intro K hK
  refine x_assign rfl rfl rfl rfl ?_
  refine Ex.done (hK _ _ ?_)
  refine At.then_n ?_
  refine W.ret ?_
  refine At.ret1 (.tmp 4) rfl ⟨rfl, trivial⟩ ?_
  have hj2 : j = l.length := by omega
  subst hj2
  rw [List.take_length] at hno
  exact ⟨by rw [idxI_no hno], M.frm⟩

set_option maxRecDepth 100000 in
theorem containsM_c {w0 : World} {p : Option Addr} {cap g : Nat} {cp : Array Value} {l : List Mt} {f : Mt → Bool} (h : MetasAt w0 (.slice p l.length cap) l) (hl : l.length ≤ 1000) (hent : entered Tryz.prog g = true)
  (hg : ∀ x ∈ l, ∀ w, New w0 w → Ret Tryz.prog g (#[] ++ [.agg #[strV x.1, .bool x.2.1, .int .i64 x.2.2]].toArray ++ cp) w fun r w' => r = .bool (f x) ∧ New w w') : Ret Tryz.prog 36 #[.slice p l.length cap, .func (.func g) #[] cp] w0 fun r w' => r = .bool (l.any f) ∧ New w0 w' := by
 have M : Sep w0 [] w0 := St.nil w0
 refine Ret.of_W Tryz.func36 rfl Tryz.ntmps36 rfl ?_
 refine W.seq ?_
 refine W.sub [(0, _), (1, _)] ⟨rfl, rfl, trivial⟩ ?_
 refine W.reg [(0, false)] (by kernel_rfl) ?_
 intro K hK
 refine x_assign rfl rfl rfl rfl ?_
 refine Ex.done (hK _ _ ?_)
 refine At.then_n ?_
 refine W.seq ?_
 refine W.sub [(0, _), (1, _)] ⟨rfl, rfl, trivial⟩ ?_
 refine W.reg [(0, false), (1, false), (2, true), (3, false), (4, false)] (by kernel_rfl) ?_
 intro K hK
 refine x_move rfl rfl rfl rfl ?_
 refine x_move rfl rfl rfl rfl ?_
 refine x_call rfl rfl rfl rfl rfl en59 (indexM_c h hl hent hg) ?_
 rintro r_ w1 ⟨rfl, hn1⟩
 have M := M.new hn1
 refine ⟨trivial, ?_⟩
 refine x_geq _ rfl rfl rfl rfl rfl rfl ?_
 refine x_assign rfl rfl rfl rfl ?_
 refine Ex.done (hK _ _ ?_)
 refine At.then_n ?_
 refine W.ret ?_
 refine At.ret1 (.tmp 4) rfl ⟨rfl, trivial⟩ ?_
 exact ⟨by rw [any_idx], M.frm⟩

set_option maxRecDepth 100000 in
theorem new1_c {w0 : World} {m : Mt}  : Ret Tryz.prog 37 #[.agg #[strV m.1, .bool m.2.1, .int .i64 m.2.2]] w0 fun r w' => r = .bool (decide (65536 < m.2.2)) ∧ New w0 w' := by
 have M : Sep w0 [] w0 := St.nil w0
 refine Ret.of_W Tryz.func37 rfl Tryz.ntmps37 rfl ?_
 refine W.seq ?_
 refine W.sub [(0, _)] ⟨rfl, trivial⟩ ?_
 refine W.reg [(0, true), (1, false)] (by kernel_rfl) ?_
 intro K hK
 refine x_box [_, _, _] rfl rfl rfl rfl rfl ?_
 intro bbx1 wbx1 hbbx1 hwbx1
 have M := M.acons hbbx1 hwbx1
 refine ⟨trivial, ?_⟩
 refine x_assign rfl rfl rfl rfl ?_
 refine Ex.done (hK _ _ ?_)
 refine At.then_n ?_
 refine W.seq ?_
 refine W.sub [(1, _)] ⟨rfl, trivial⟩ ?_
 refine W.reg [(0, false), (1, false), (2, false), (3, false)] (by kernel_rfl) ?_
 intro K hK
 refine x_fa rfl rfl rfl fo26_2 rfl ?_
 refine x_ld rfl rfl rfl Tryz.underlying3 rfl rfl (cell_of (by first | exact M.at_ 0 rfl | exact M.at_ 1 rfl | exact M.at_ 2 rfl | exact M.at_ 3 rfl | exact M.at_ 4 rfl | exact M.at_ 5 rfl | exact M.at_ 6 rfl | exact M.at_ 7 rfl) rfl) ?_
 refine x_gtr _ rfl rfl rfl rfl rfl rfl ?_
 refine x_assign rfl rfl rfl rfl ?_
 refine Ex.done (hK _ _ ?_)
 refine At.then_n ?_
 refine W.ret ?_
 refine At.ret1 (.tmp 2) rfl ⟨rfl, trivial⟩ ?_
 exact ⟨rfl, M.frm⟩
end Go.Proofs.YtigfbpbnohkokaaGreat

namespace Go.Proofs.YtigfbpbnohkokaaGreat
open Go Go.Fw Go.RowKit
set_option linter.unusedVariables false
set_option linter.unusedSimpArgs false

def bCs (ml : List Mt) : List Value := fCs (ml.map fun m => (mRaw m, .slice none 0 0))
theorem bCs_one (ml : List Mt) : ∀ u ∈ bCs ml, u.oneCell' = true := fCs_one fun f hf => by
 obtain ⟨m, _, rfl⟩ := List.mem_map.1 hf; rfl
theorem bCs_snoc (ml : List Mt) (m : Mt) : bCs (ml ++ [m]) = bCs ml ++ [strV m.1, .bool m.2.1, .slice none 0 0] := by
 unfold bCs fCs
 simp [mRaw]
theorem bare_at_mem {L : List (Nat × Obj)} {u : Value} {ml : List Mt} {w : World} (how : OwL L u 3 ml.length (bCs ml)) (hg : ∀ y ∈ L, w.heap[y.1]? = some y.2) : FilesAt w u (ml.map mRaw) :=
 ⟨ml.map fun m => (mRaw m, .slice none 0 0), by rw [List.map_map]; rfl, .inr (by rw [List.length_map]; exact (how.sl (by decide)).get hg), fun f hf => by
  obtain ⟨m, _, rfl⟩ := List.mem_map.1 hf
  exact ⟨.inr (.inl ⟨rfl, rfl, rfl⟩), rfl⟩⟩
section
variable {l : List Raw} {ml : List Mt} {j : Nat} {C : List Con} {x : Raw} {m : Mt}
theorem badM_no (h : badM m = false) : 0 ≤ m.2.2 ∧ (m.2.1 = true → m.2.2 = 0) := by
 unfold badM at h
 simp only [Bool.or_eq_false_iff, decide_eq_false_iff_not, Bool.and_eq_false_imp] at h
 exact ⟨by omega, fun hd => by have := h.2 hd; omega⟩
theorem mRaw_meta (l : List Raw) : (l.map metaR).map mRaw = bareL l := by unfold bareL; rw [List.map_map]; rfl
theorem big_any (l : List Raw) : (l.map metaR).any (fun m => decide (65536 < m.2.2)) = l.any fun x => decide (65536 < x.2.2.length) := by
 rw [List.any_map]
 congr 1
 funext x
 show decide ((65536 : Int) < (x.2.2.length : Int)) = _
 rw [decide_eq_decide]; omega
theorem okd_of (hb : (l.map metaR).any badM = false) (hg : l.any (fun x => decide (65536 < x.2.2.length)) = false) : OKd l := fun x hx => by
 have h1 := List.any_eq_false.1 hb (metaR x) (List.mem_map.2 ⟨x, hx, rfl⟩)
 have h2 := List.any_eq_false.1 hg x hx
 obtain ⟨g1, g2⟩ := badM_no (m := metaR x) (by simpa using h1)
 refine ⟨by simpa using h2, fun hd => List.length_eq_zero_iff.1 ?_⟩
 have := g2 hd
 have : (x.2.2.length : Int) = 0 := this
 omega
theorem newS_3 (h : l.any (fun x => decide (65536 < x.2.2.length)) = true) : newS l = ([], 3) := by unfold newS; rw [if_pos h]
theorem newS_of (h : l.any (fun x => decide (65536 < x.2.2.length)) = false) (h2 : (ofL (bareL l)).2 ≠ 0) : newS l = ([], (ofL (bareL l)).2) := by unfold newS; rw [if_neg (by rw [h]; simp), if_pos h2]
theorem newS_7 (h : l.any (fun x => decide (65536 < x.2.2.length)) = false) (h2 : (ofL (bareL l)).2 = 0) (h3 : 262144 < usedL l) : newS l = ([], 7) := by unfold newS; rw [if_neg (by rw [h]; simp), if_neg (fun e => e h2), if_pos h3]
theorem newS_0 (h : l.any (fun x => decide (65536 < x.2.2.length)) = false) (h2 : (ofL (bareL l)).2 = 0) (h3 : ¬ 262144 < usedL l) : newS l = ((ofL l).1, 0) := by unfold newS; rw [if_neg (by rw [h]; simp), if_neg (fun e => e h2), if_neg h3]
structure MkI (l : List Raw) (j : Nat) (C : List Con) : Prop where
 rows : (C.map fun c => ((c.k, false, c.d) : Raw)) = (l.take j).filter fun x => !x.2.1
 con : ∀ c ∈ C, c.own = false ∧ c.D = [] ∧ c.v = .slice none 0 0 ∧ c.nm = c.k ∧ c.sz = c.d.length
theorem MkI.nil : MkI l 0 [] := ⟨by simp, by simp⟩
theorem MkI.skip (h : MkI l j C) (hx : l[j]? = some x) (hd : x.2.1 = true) : MkI l (j + 1) C := ⟨by rw [take_snoc hx, List.filter_append, ← h.rows]; simp [hd], h.con⟩
theorem MkI.step (h : MkI l j C) (hx : l[j]? = some x) (hd : x.2.1 = false) (b : Nat) : MkI l (j + 1) (C ++ [⟨x.1, b, false, .slice none 0 0, [], x.1, x.2.2.length, x.2.2⟩]) := by
 refine ⟨?_, fun c hc => ?_⟩
 ·rw [take_snoc hx, List.filter_append, ← h.rows, List.map_append]
  obtain ⟨a, b', d⟩ := x
  simp only at hd
  subst hd
  simp
 ·rcases List.mem_append.1 hc with hc | hc
  ·exact h.con c hc
  ·rw [List.mem_singleton.1 hc]; exact ⟨rfl, rfl, rfl, rfl, rfl⟩
theorem MkI.keys (h : MkI l j C) : C.map (·.k) = ((l.take j).filter fun x => !x.2.1).map (·.1) := by
 rw [← h.rows, List.map_map]; rfl
theorem MkI.new (h : MkI l j C) (hn : (l.map (·.1)).Nodup) (hx : l[j]? = some x) : ∀ c ∈ C, c.k ≠ x.1 := fun c hc e => by
 have h1 : c.k ∈ (l.take j).map (·.1) := by
  have : c.k ∈ C.map (·.k) := List.mem_map.2 ⟨c, hc, rfl⟩
  rw [h.keys] at this
  obtain ⟨y, hy, hy1⟩ := List.mem_map.1 this
  exact List.mem_map.2 ⟨y, (List.mem_filter.1 hy).1, hy1⟩
 rw [split_at hx, List.map_append, List.nodup_append] at hn
 exact hn.2.2 c.k h1 x.1 (by simp) e
theorem cmap_snoc {c : Con} (hno : ∀ x ∈ C, x.k ≠ c.k) : cmap (C ++ [c]) = setF (cmap C) c.k (some (ptr c.b)) := by
 funext q
 unfold cmap cget setF
 rw [List.find?_append]
 by_cases e : q = c.k
 ·subst e
  have : C.find? (fun x => decide (x.k = c.k)) = none := List.find?_eq_none.2 fun x hx => by simpa using hno x hx
  rw [this, if_pos rfl]; simp
 ·rw [if_neg e]
  show ((C.find? (fun c => decide (c.k = q))).or _).map _ = (C.find? (fun c => decide (c.k = q))).map _
  cases C.find? (fun c => decide (c.k = q)) with
  | some x => rfl
  | none =>
   have : ¬ c.k = q := fun h => e h.symm
   simp [this]
def hs0 : List Hd := List.replicate 128 ([], false)
/-- What is made is as it should be. -/
theorem made_fr {base : BaseF} {bt bm : Nat} {om : Obj} {E : List Ent} (hd : OKd l) (h0 : (ofL (bareL l)).2 = 0) (hu : usedL l ≤ 262144) (hT : TR E (ofL (bareL l)).1) (hI : MkI l l.length C) (hm : MapF strV om (cmap C)) (hba : ∀ x ∈ l, x.2.1 = false → base x.1 = some x.2.2) :
  FR base ⟨bt, bm, om, E, C, hs0⟩ (ofL l).1 (fun _ _ => none) ∧ usedL (ofL l).1 = usedL l := by
 have hof := bare_of hd
 have h0' : (ofL l).2 = 0 := by rw [hof] at h0; exact h0
 obtain ⟨hn, hus, hmem, hdd⟩ := of_facts h0' hd
 have hrows := hI.rows
 rw [List.take_length] at hrows
 have hC : ∀ c ∈ C, (c.k, false, c.d) ∈ l := fun c hc => by
  have : (c.k, false, c.d) ∈ C.map (fun c => ((c.k, false, c.d) : Raw)) := List.mem_map.2 ⟨c, hc, rfl⟩
  rw [hrows] at this
  exact (List.mem_filter.1 this).1
 refine ⟨⟨?_, hm, ?_, ?_, ?_, hdd, by rw [hus]; exact hu, by simp [hs0], ?_, ?_⟩, hus⟩
 ·rw [hof] at hT; exact hT
 ·have := hI.keys
  rw [List.take_length] at this
  show (C.map (·.k)).Nodup
  rw [this]
  exact ((List.filter_sublist).map _).nodup hn
 ·intro c hc
  obtain ⟨g1, g2, g3, g4, g5⟩ := hI.con c hc
  exact ⟨(hd _ (hC c hc)).1, (fun h => by rw [g1] at h; cases h), fun _ => ⟨g2, g3, g5, by rw [g4]; exact hba _ (hC c hc) rfl⟩⟩
 ·intro p d
  rw [hmem]
  constructor
  ·intro h
   have : (p, false, d) ∈ l.filter (fun x => !x.2.1) := List.mem_filter.2 ⟨h, rfl⟩
   rw [← hrows] at this
   obtain ⟨c, hc, e⟩ := List.mem_map.1 this
   simp only [Prod.mk.injEq, true_and] at e
   exact ⟨c, hc, e.1, e.2⟩
  ·rintro ⟨c, hc, rfl, rfl⟩
   exact hC c hc
 ·funext who n
  unfold hAt
  split
  ·have : ∀ i : Nat, (match hs0[i]? with | some h => if h.1 = [] then none else some h | none => none) = (none : Option Hd) := by
    intro i
    unfold hs0
    rw [List.getElem?_replicate]
    by_cases hi : i < 128
    ·rw [if_pos hi]; simp
    ·rw [if_neg hi]
   exact (this _).symm
  ·rfl
 ·intro h hh h1
  rw [List.eq_of_mem_replicate hh] at h1
  exact absurd rfl h1
end
end Go.Proofs.YtigfbpbnohkokaaGreat

namespace Go.Proofs.YtigfbpbnohkokaaGreat
open Go Go.Fw Go.RowKit Go.Proofs
set_option linter.unusedVariables false
set_option linter.unusedSimpArgs false
set_option maxRecDepth 100000 in
theorem used_take {l : List Raw} (h : OKd l) : ∀ j, usedL (l.take j) ≤ j * 65536
 | 0 => by simp [usedL]
 | j + 1 => by
  have ih := used_take h j
  by_cases hj : j < l.length
  ·obtain ⟨x, hx⟩ := get_lt (l := l) (q := j) hj
   rw [take_snoc hx, usedL_app, usedL_cons]
   have h1 := (h x (List.mem_of_getElem? hx)).1
   rw [show usedL ([] : List Raw) = 0 from rfl, Nat.add_zero, Nat.succ_mul]
   exact Nat.add_le_add ih h1
  ·rw [List.take_of_length_le (by omega)]
   rw [List.take_of_length_le (by omega)] at ih
   exact Nat.le_trans ih (Nat.mul_le_mul_right _ (Nat.le_succ j))
set_option maxRecDepth 100000 in
theorem onew_c {w0 : World} {v bv : Value} {ml : List Mt} {l : List Raw} {base : BaseF} (h : MetasAt w0 v ml) (hl : ml.length ≤ 1000) (hbv : nilI bv = some false) (hml : ml.any badM = false → ml = l.map metaR) (hba : (newS l).2 = 0 → ∀ x ∈ l, x.2.1 = false → base x.1 = some x.2.2) : Ret Tryz.prog 13 #[v, bv] w0 fun r w' => (ml.any badM = true ∧ r = .tuple #[.pointer none, .int .i64 2] ∧ New w0 w') ∨ (ml.any badM = false ∧ (newS l).2 ≠ 0 ∧ r = .tuple #[.pointer none, .int .i64 (newS l).2] ∧ New w0 w') ∨ (ml.any badM = false ∧ (newS l).2 = 0 ∧ ∃ bf S, r = .tuple #[ptr bf, .int .i64 0] ∧ FR base S (newS l).1 (fun _ _ => none) ∧ Sep w0 (fsB bf bv (usedL (newS l).1) S) w') := by
 have M : Sep w0 [] w0 := St.nil w0
 obtain ⟨pv, cv, rfl⟩ := Sg.shape h
 obtain ⟨Ty, rv, rfl⟩ : ∃ Ty rv, bv = .iface Ty rv := by cases bv <;> simp [nilI] at hbv; exact ⟨_, _, rfl⟩
 have hul0 : usedL (l.take 0) = 0 := rfl
 refine Ret.of_W Tryz.func13 rfl Tryz.ntmps13 rfl ?_
 refine W.seq ?_
 refine W.sub [(0, _), (1, _)] ⟨rfl, rfl, trivial⟩ ?_
 refine W.reg [(0, false), (1, false)] (by kernel_rfl) ?_
 intro K hK
 refine x_assign rfl rfl rfl rfl ?_
 refine x_assign rfl rfl rfl rfl ?_
 refine Ex.done (hK _ _ ?_)
 refine At.then_n ?_
 refine W.seq ?_
 refine W.seq ?_
 refine W.sub [(0, _), (1, _)] ⟨rfl, rfl, trivial⟩ ?_
 refine W.reg [(0, false), (1, false)] (by kernel_rfl) ?_
 intro K hK
 refine x_move rfl rfl rfl rfl ?_
 refine x_eqif false rfl rfl rfl Tryz.underlying82 rfl rfl hbv ?_
 refine Ex.done (hK _ _ ?_)
 refine At.then_n ?_
 refine W.condF rfl ?_
 refine W.skip ?_
 refine At.then_n ?_
 refine W.seq ?_
 refine W.sub [(0, _), (1, _)] ⟨rfl, rfl, trivial⟩ ?_
 refine W.reg [(0, false)] (by kernel_rfl) ?_
 intro K hK
 refine x_assign rfl rfl rfl rfl ?_
 refine Ex.done (hK _ _ ?_)
 refine At.then_n ?_
 refine W.seq ?_
 refine W.seq ?_
 refine W.sub [(0, _), (1, _), (6, _)] ⟨rfl, rfl, rfl, trivial⟩ ?_
 refine W.reg [(0, false), (1, false), (2, false)] (by kernel_rfl) ?_
 intro K hK
 refine x_move rfl rfl rfl rfl ?_
 refine x_len rfl rfl rfl rfl Tryz.underlying22 rfl ?_
 refine x_move rfl rfl rfl rfl ?_
 refine Ex.done (hK _ _ ?_)
 refine At.then_n ?_
 refine W.block ?_
 refine W.loop (σ := Nat × Value × List (Nat × Obj)) (fun q => [(0, _), (1, _), (6, q.2.1), (16, _), (17, _), (18, .int .i64 ((q.1 : Nat) : Int))]) (fun q w => q.1 ≤ ml.length ∧ (∀ m ∈ ml.take q.1, badM m = false) ∧ OwL q.2.2 q.2.1 3 q.1 (bCs (ml.take q.1)) ∧ Sep w0 q.2.2 w) (fun q => ml.length - q.1) (0, .slice none 0 0, []) ⟨rfl, rfl, rfl, rfl, rfl, rfl, trivial⟩ ⟨Nat.zero_le _, by simp, OwL.nil, M⟩ ?_
 rintro ⟨j, u, Lo⟩ w ⟨hj, hok, how, M⟩
 simp only at hj hok how M
 obtain ⟨pu, cu, rfl⟩ := how.shape
 refine W.seq ?_
 refine W.sub [(0, _), (1, _), (6, _), (16, _), (17, _), (18, _)] ⟨rfl, rfl, rfl, rfl, rfl, rfl, trivial⟩ ?_
 refine W.reg [(0, false)] (by kernel_rfl) ?_
 intro K hK
 refine x_lss _ rfl rfl rfl rfl rfl rfl ?_
 refine Ex.done (hK _ _ ?_)
 refine At.then_n ?_
 refine W.seq ?_
 refine W.cond rfl (fun hco2 => ?_) (fun hco2 => ?_)
 ·try simp only [sA, sB, sC, sD, sE, sF, ne_eq, Bool.not_eq_eq_eq_not, Bool.not_true, Bool.not_false, sK, sL, Bool.not_not, gt_iff_lt, ge_iff_le] at hco2
  obtain ⟨m, hx⟩ := get_lt (l := ml) (q := j) (by omega)
  obtain ⟨bb, off, rfl, _⟩ := (h.new M.frm).blk (j := j) (by omega)
  have hrow := (h.new M.frm).row hx
  refine W.skip ?_
  refine At.then_n ?_
  refine W.seq ?_
  refine W.block ?_
  refine W.seq ?_
  refine W.sub [(0, _), (1, _), (6, _), (16, _), (17, _), (18, _)] ⟨rfl, rfl, rfl, rfl, rfl, rfl, trivial⟩ ?_
  refine W.reg [(0, false), (1, false), (2, true), (3, true)] (by kernel_rfl) ?_
  intro K hK
  refine x_ia j rfl rfl rfl Tryz.underlying22 sz26 rfl rfl rfl (by omega) ?_
  refine x_ldA [_, _, _] rfl rfl rfl Tryz.underlying26 rfl sz26 rfl rfl hrow ?_
  refine x_alloc [_, _, _] rfl rfl rfl ze26 rfl ?_
  intro bal1 wal1 hbal1 hwal1
  have M := M.acons hbal1 hwal1
  refine ⟨trivial, ?_⟩
  refine x_st [_, _, _] _ rfl rfl rfl sz26 rfl rfl rfl rfl (by first | exact M.at_ 0 rfl | exact M.at_ 1 rfl | exact M.at_ 2 rfl | exact M.at_ 3 rfl | exact M.at_ 4 rfl | exact M.at_ 5 rfl | exact M.at_ 6 rfl | exact M.at_ 7 rfl) rfl rfl rfl ?_
  intro wst1 hwst1
  have M := by first | exact M.put 0 rfl hwst1 | exact M.put 1 rfl hwst1 | exact M.put 2 rfl hwst1 | exact M.put 3 rfl hwst1 | exact M.put 4 rfl hwst1 | exact M.put 5 rfl hwst1 | exact M.put 6 rfl hwst1 | exact M.put 7 rfl hwst1
  refine ⟨trivial, ?_⟩
  refine Ex.done (hK _ _ ?_)
  refine At.then_n ?_
  refine W.seq ?_
  refine W.seq ?_
  refine W.sub [(0, _), (1, _), (6, _), (8, _), (16, _), (17, _), (18, _)] ⟨rfl, rfl, rfl, rfl, rfl, rfl, rfl, trivial⟩ ?_
  refine W.reg [(0, false), (1, false), (2, false), (3, false), (4, false), (5, false), (6, false), (7, false), (8, false), (9, false), (10, false), (11, false)] (by kernel_rfl) ?_
  intro K hK
  refine x_fa rfl rfl rfl fo26_2 rfl ?_
  refine x_ld rfl rfl rfl Tryz.underlying3 rfl rfl (cell_of (by first | exact M.at_ 0 rfl | exact M.at_ 1 rfl | exact M.at_ 2 rfl | exact M.at_ 3 rfl | exact M.at_ 4 rfl | exact M.at_ 5 rfl | exact M.at_ 6 rfl | exact M.at_ 7 rfl) rfl) ?_
  refine x_lss _ rfl rfl rfl rfl rfl rfl ?_
  refine x_move rfl rfl rfl rfl ?_
  refine Ex.split 25 rfl (fun hsp1 => ?_) (fun hsp1 => ?_)
  ·
   try simp only [sA, sB, sC, sD, sE, sF, ne_eq, Bool.not_eq_eq_eq_not, Bool.not_true, Bool.not_false, sK, sL, Bool.not_not, gt_iff_lt, ge_iff_le] at hsp1
   refine Ex.skip_ rfl rfl rfl ?_
   refine Ex.skip_ rfl rfl rfl ?_
   refine Ex.skip_ rfl rfl rfl ?_
   refine Ex.skip_ rfl rfl rfl ?_
   refine Ex.skip_ rfl rfl rfl ?_
   refine Ex.skip_ rfl rfl rfl ?_
   refine Ex.skip_ rfl rfl rfl ?_
   refine x_pickT rfl rfl rfl rfl rfl ?_
   refine Ex.done (hK _ _ ?_)
   refine At.then_n ?_
   refine W.condT rfl ?_
   refine W.seq ?_
   refine W.sub [] trivial ?_
   refine W.reg [(0, false), (1, false)] (by kernel_rfl) ?_
   intro K hK
   refine x_assign rfl rfl rfl rfl ?_
   refine x_assign rfl rfl rfl rfl ?_
   refine Ex.done (hK _ _ ?_)
   refine At.then_n ?_
   refine W.ret ?_
   refine At.then_r ?_
   refine At.blk_r ?_
   refine At.then_r ?_
   refine At.loop_r ?_
   refine At.blk_r ?_
   refine At.then_r ?_
   refine At.ret2 (.tmp 4) (.tmp 5) rfl ⟨rfl, rfl, trivial⟩ ?_
   exact .inl ⟨List.any_eq_true.2 ⟨m, List.mem_of_getElem? hx, by unfold badM; simp [hsp1]⟩, rfl, M.frm⟩
  ·
   try simp only [sA, sB, sC, sD, sE, sF, ne_eq, Bool.not_eq_eq_eq_not, Bool.not_true, Bool.not_false, sK, sL, Bool.not_not, gt_iff_lt, ge_iff_le] at hsp1
   refine x_fa rfl rfl rfl fo26_1 rfl ?_
   refine x_ld rfl rfl rfl Tryz.underlying4 rfl rfl (cell_of (by first | exact M.at_ 0 rfl | exact M.at_ 1 rfl | exact M.at_ 2 rfl | exact M.at_ 3 rfl | exact M.at_ 4 rfl | exact M.at_ 5 rfl | exact M.at_ 6 rfl | exact M.at_ 7 rfl) rfl) ?_
   refine x_move rfl rfl rfl rfl ?_
   refine Ex.split 28 rfl (fun hsp2 => ?_) (fun hsp2 => ?_)
   ·
    try simp only [sA, sB, sC, sD, sE, sF, ne_eq, Bool.not_eq_eq_eq_not, Bool.not_true, Bool.not_false, sK, sL, Bool.not_not, gt_iff_lt, ge_iff_le] at hsp2
    refine x_fa rfl rfl rfl fo26_2 rfl ?_
    refine x_ld rfl rfl rfl Tryz.underlying3 rfl rfl (cell_of (by first | exact M.at_ 0 rfl | exact M.at_ 1 rfl | exact M.at_ 2 rfl | exact M.at_ 3 rfl | exact M.at_ 4 rfl | exact M.at_ 5 rfl | exact M.at_ 6 rfl | exact M.at_ 7 rfl) rfl) ?_
    refine x_nei _ rfl rfl rfl rfl rfl rfl ?_
    refine x_pickT rfl rfl rfl rfl rfl ?_
    refine x_pickF rfl rfl rfl rfl rfl ?_
    refine Ex.done (hK _ _ ?_)
    refine At.then_n ?_
    refine W.cond rfl (fun hco4 => ?_) (fun hco4 => ?_)
    ·try simp only [sA, sB, sC, sD, sE, sF, ne_eq, Bool.not_eq_eq_eq_not, Bool.not_true, Bool.not_false, sK, sL, Bool.not_not, gt_iff_lt, ge_iff_le] at hco4
     refine W.seq ?_
     refine W.sub [] trivial ?_
     refine W.reg [(0, false), (1, false)] (by kernel_rfl) ?_
     intro K hK
     refine x_assign rfl rfl rfl rfl ?_
     refine x_assign rfl rfl rfl rfl ?_
     refine Ex.done (hK _ _ ?_)
     refine At.then_n ?_
     refine W.ret ?_
     refine At.then_r ?_
     refine At.blk_r ?_
     refine At.then_r ?_
     refine At.loop_r ?_
     refine At.blk_r ?_
     refine At.then_r ?_
     refine At.ret2 (.tmp 4) (.tmp 5) rfl ⟨rfl, rfl, trivial⟩ ?_
     exact .inl ⟨List.any_eq_true.2 ⟨m, List.mem_of_getElem? hx, by unfold badM; simp [hsp2, hco4]⟩, rfl, M.frm⟩
    ·try simp only [sA, sB, sC, sD, sE, sF, ne_eq, Bool.not_eq_eq_eq_not, Bool.not_true, Bool.not_false, sK, sL, Bool.not_not, gt_iff_lt, ge_iff_le] at hco4
     have hbm : badM m = false := by unfold badM; simp [hco4]; try omega
     refine W.skip ?_
     refine At.then_n ?_
     refine W.sub [(0, _), (1, _), (6, _), (8, _), (16, _), (17, _), (18, _)] ⟨rfl, rfl, rfl, rfl, rfl, rfl, rfl, trivial⟩ ?_
     refine W.reg [(0, false), (1, false), (2, false), (3, false), (4, false), (5, false), (6, true), (7, true), (8, false)] (by kernel_rfl) ?_
     intro K hK
     refine x_move rfl rfl rfl rfl ?_
     refine x_fa rfl rfl rfl fo26_0 rfl ?_
     refine x_ld rfl rfl rfl Tryz.underlying9 rfl rfl (cell_of (by first | exact M.at_ 0 rfl | exact M.at_ 1 rfl | exact M.at_ 2 rfl | exact M.at_ 3 rfl | exact M.at_ 4 rfl | exact M.at_ 5 rfl | exact M.at_ 6 rfl | exact M.at_ 7 rfl) rfl) ?_
     refine x_fa rfl rfl rfl fo26_1 rfl ?_
     refine x_ld rfl rfl rfl Tryz.underlying4 rfl rfl (cell_of (by first | exact M.at_ 0 rfl | exact M.at_ 1 rfl | exact M.at_ 2 rfl | exact M.at_ 3 rfl | exact M.at_ 4 rfl | exact M.at_ 5 rfl | exact M.at_ 6 rfl | exact M.at_ 7 rfl) rfl) ?_
     refine x_build [_, _, _] rfl rfl rfl pl29 ze29 rfl rfl rfl ?_
     refine x_bs1 (cs := [strV m.1, .bool m.2.1, .slice none 0 0]) rfl rfl rfl Tryz.underlying24 sz29 ze29 (Z := [_, _, _]) rfl rfl (by decide) (by decide) rfl rfl rfl ?_
     intro bbs1 wbs1 hbbs1 hwbs1
     have M0 := M.acons hbbs1 hwbs1
     have hslbs1 : Sl wbs1 (.slice (some ⟨bbs1, 0, none⟩) 1 1) 3 1 [strV m.1, .bool m.2.1, .slice none 0 0] := .inr ⟨bbs1, 0, 1, _, _, _, rfl, by omega, M0.at_ 0 rfl, rfl, rfl⟩
     have M := M0.tail
     refine ⟨trivial, ?_⟩
     have M : Sep w0 (Lo ++ []) wbs1 := by rw [List.append_nil]; exact M.tail
     refine x_apL rfl rfl rfl rfl Tryz.underlying24 sz29 ze29 rfl by29 rfl rfl how M (bCs_one _) (hslbs1.src Tryz.underlying24 (by intro u hu; simp at hu; rcases hu with rfl | rfl | rfl <;> rfl)) (by omega) (by decide) (by omega) ?_
     intro Lo2 v6 w6 how M
     rw [← bCs_snoc, ← take_snoc hx] at how
     refine ⟨trivial, ?_⟩
     refine x_assign rfl rfl rfl rfl ?_
     refine Ex.done (hK _ _ ?_)
     refine At.blk_n ?_
     refine At.then_n ?_
     refine W.sub [(0, _), (1, _), (6, _), (16, _), (17, _), (18, _)] ⟨rfl, rfl, rfl, rfl, rfl, rfl, trivial⟩ ?_
     refine W.reg [(0, false), (1, false)] (by kernel_rfl) ?_
     intro K hK
     refine x_add _ rfl rfl rfl rfl rfl (wadd (by omega) (by omega)) ?_
     refine x_move rfl rfl rfl rfl ?_
     refine Ex.done (hK _ _ ?_)
     exact At.back ((j + 1, v6, Lo2)) ⟨rfl, rfl, rfl, rfl, rfl, rfl, trivial⟩ ⟨by simp only; omega, mem_take_snoc hx hok hbm, how, by simpa using M⟩ (by first | omega | (simp only; omega) | (simp; done) | (simp; omega))
   ·
    try simp only [sA, sB, sC, sD, sE, sF, ne_eq, Bool.not_eq_eq_eq_not, Bool.not_true, Bool.not_false, sK, sL, Bool.not_not, gt_iff_lt, ge_iff_le] at hsp2
    have hbm : badM m = false := by unfold badM; simp [hsp2]; try omega
    refine Ex.skip_ rfl rfl rfl ?_
    refine Ex.skip_ rfl rfl rfl ?_
    refine Ex.skip_ rfl rfl rfl ?_
    refine x_pickF rfl rfl rfl rfl rfl ?_
    refine x_pickF rfl rfl rfl rfl rfl ?_
    refine Ex.done (hK _ _ ?_)
    refine At.then_n ?_
    refine W.condF rfl ?_
    refine W.skip ?_
    refine At.then_n ?_
    refine W.sub [(0, _), (1, _), (6, _), (8, _), (16, _), (17, _), (18, _)] ⟨rfl, rfl, rfl, rfl, rfl, rfl, rfl, trivial⟩ ?_
    refine W.reg [(0, false), (1, false), (2, false), (3, false), (4, false), (5, false), (6, true), (7, true), (8, false)] (by kernel_rfl) ?_
    intro K hK
    refine x_move rfl rfl rfl rfl ?_
    refine x_fa rfl rfl rfl fo26_0 rfl ?_
    refine x_ld rfl rfl rfl Tryz.underlying9 rfl rfl (cell_of (by first | exact M.at_ 0 rfl | exact M.at_ 1 rfl | exact M.at_ 2 rfl | exact M.at_ 3 rfl | exact M.at_ 4 rfl | exact M.at_ 5 rfl | exact M.at_ 6 rfl | exact M.at_ 7 rfl) rfl) ?_
    refine x_fa rfl rfl rfl fo26_1 rfl ?_
    refine x_ld rfl rfl rfl Tryz.underlying4 rfl rfl (cell_of (by first | exact M.at_ 0 rfl | exact M.at_ 1 rfl | exact M.at_ 2 rfl | exact M.at_ 3 rfl | exact M.at_ 4 rfl | exact M.at_ 5 rfl | exact M.at_ 6 rfl | exact M.at_ 7 rfl) rfl) ?_
    refine x_build [_, _, _] rfl rfl rfl pl29 ze29 rfl rfl rfl ?_
    refine x_bs1 (cs := [strV m.1, .bool m.2.1, .slice none 0 0]) rfl rfl rfl Tryz.underlying24 sz29 ze29 (Z := [_, _, _]) rfl rfl (by decide) (by decide) rfl rfl rfl ?_
    intro bbs2 wbs2 hbbs2 hwbs2
    have M0 := M.acons hbbs2 hwbs2
    have hslbs2 : Sl wbs2 (.slice (some ⟨bbs2, 0, none⟩) 1 1) 3 1 [strV m.1, .bool m.2.1, .slice none 0 0] := .inr ⟨bbs2, 0, 1, _, _, _, rfl, by omega, M0.at_ 0 rfl, rfl, rfl⟩
    have M := M0.tail
    refine ⟨trivial, ?_⟩
    have M : Sep w0 (Lo ++ []) wbs2 := by rw [List.append_nil]; exact M.tail
    refine x_apL rfl rfl rfl rfl Tryz.underlying24 sz29 ze29 rfl by29 rfl rfl how M (bCs_one _) (hslbs2.src Tryz.underlying24 (by intro u hu; simp at hu; rcases hu with rfl | rfl | rfl <;> rfl)) (by omega) (by decide) (by omega) ?_
    intro Lo2 v6 w6 how M
    rw [← bCs_snoc, ← take_snoc hx] at how
    refine ⟨trivial, ?_⟩
    refine x_assign rfl rfl rfl rfl ?_
    refine Ex.done (hK _ _ ?_)
    refine At.blk_n ?_
    refine At.then_n ?_
    refine W.sub [(0, _), (1, _), (6, _), (16, _), (17, _), (18, _)] ⟨rfl, rfl, rfl, rfl, rfl, rfl, trivial⟩ ?_
    refine W.reg [(0, false), (1, false)] (by kernel_rfl) ?_
    intro K hK
    refine x_add _ rfl rfl rfl rfl rfl (wadd (by omega) (by omega)) ?_
    refine x_move rfl rfl rfl rfl ?_
    refine Ex.done (hK _ _ ?_)
    exact At.back ((j + 1, v6, Lo2)) ⟨rfl, rfl, rfl, rfl, rfl, rfl, trivial⟩ ⟨by simp only; omega, mem_take_snoc hx hok hbm, how, by simpa using M⟩ (by first | omega | (simp only; omega) | (simp; done) | (simp; omega))
 ·try simp only [sA, sB, sC, sD, sE, sF, ne_eq, Bool.not_eq_eq_eq_not, Bool.not_true, Bool.not_false, sK, sL, Bool.not_not, gt_iff_lt, ge_iff_le] at hco2
  have hj2 : j = ml.length := by omega
  subst hj2
  rw [List.take_length] at hok how
  have hany : ml.any badM = false := List.any_eq_false.2 fun x hx => by rw [hok x hx]; simp
  have hme := hml hany
  have hll : l.length = ml.length := by rw [hme]; simp
  have hany2 := hany
  rw [hme] at hany2
  refine W.exit ?_
  refine At.then_x ?_
  refine At.loop_x ?_
  refine At.blk_x ?_
  refine At.then_n ?_
  refine W.seq ?_
  refine W.seq ?_
  refine W.sub [(0, _), (1, _), (6, _)] ⟨rfl, rfl, rfl, trivial⟩ ?_
  refine W.reg [(0, false), (1, true)] (by kernel_rfl) ?_
  intro K hK
  refine x_move rfl rfl rfl rfl ?_
  refine x_call rfl rfl rfl rfl rfl en36 (containsM_c (g := 37) (cp := #[]) (f := fun m => decide (65536 < m.2.2)) (h.new M.frm) (by omega) en37 (fun x _ w2 hn2 => new1_c)) ?_
  rintro r_ w1 ⟨rfl, hn1⟩
  have M := M.new hn1
  rw [show (ml.any fun m => decide (65536 < m.2.2)) = l.any fun x => decide (65536 < x.2.2.length) by rw [hme]; exact big_any l]
  refine ⟨trivial, ?_⟩
  refine Ex.done (hK _ _ ?_)
  refine At.then_n ?_
  refine W.cond rfl (fun hco6 => ?_) (fun hco6 => ?_)
  ·try simp only [sA, sB, sC, sD, sE, sF, ne_eq, Bool.not_eq_eq_eq_not, Bool.not_true, Bool.not_false, sK, sL, Bool.not_not, gt_iff_lt, ge_iff_le] at hco6
   refine W.seq ?_
   refine W.sub [] trivial ?_
   refine W.reg [(0, false), (1, false)] (by kernel_rfl) ?_
   intro K hK
   refine x_assign rfl rfl rfl rfl ?_
   refine x_assign rfl rfl rfl rfl ?_
   refine Ex.done (hK _ _ ?_)
   refine At.then_n ?_
   refine W.ret ?_
   refine At.then_r ?_
   refine At.ret2 (.tmp 4) (.tmp 5) rfl ⟨rfl, rfl, trivial⟩ ?_
   exact .inr (.inl ⟨hany, by rw [newS_3 hco6]; decide, by rw [newS_3 hco6], M.frm⟩)
  ·try simp only [sA, sB, sC, sD, sE, sF, ne_eq, Bool.not_eq_eq_eq_not, Bool.not_true, Bool.not_false, sK, sL, Bool.not_not, gt_iff_lt, ge_iff_le] at hco6
   have hokd := okd_of hany2 hco6
   refine W.skip ?_
   refine At.then_n ?_
   refine W.seq ?_
   refine W.sub [(0, _), (1, _), (6, _)] ⟨rfl, rfl, rfl, trivial⟩ ?_
   refine W.reg [(0, false), (1, true), (2, false), (3, false), (4, false), (5, false), (6, false)] (by kernel_rfl) ?_
   intro K hK
   refine x_move rfl rfl rfl rfl ?_
   refine x_call rfl rfl rfl rfl rfl en38 (of_r2 (l := bareL l) (by rw [show bareL l = ml.map mRaw by rw [hme, mRaw_meta]]; exact bare_at_mem how (fun y hy => M.get hy)) (by rw [bare_len]; omega)) ?_
   rintro r_ w2 ⟨po, TB, rfl, M2, hpo, hofk⟩
   have M := M.grow' M2
   refine ⟨trivial, ?_⟩
   refine x_move rfl rfl rfl rfl ?_
   refine x_ext rfl rfl rfl rfl rfl ?_
   refine x_ext rfl rfl rfl rfl rfl ?_
   refine x_assign rfl rfl rfl rfl ?_
   refine x_assign rfl rfl rfl rfl ?_
   refine Ex.done (hK _ _ ?_)
   refine At.then_n ?_
   refine W.seq ?_
   refine W.seq ?_
   refine W.sub [(0, _), (1, _), (9, _), (10, _)] ⟨rfl, rfl, rfl, rfl, trivial⟩ ?_
   refine W.reg [(0, false), (1, false)] (by kernel_rfl) ?_
   intro K hK
   refine x_move rfl rfl rfl rfl ?_
   refine x_nei _ rfl rfl rfl rfl rfl rfl ?_
   refine Ex.done (hK _ _ ?_)
   refine At.then_n ?_
   refine W.cond rfl (fun hco7 => ?_) (fun hco7 => ?_)
   ·try simp only [sA, sB, sC, sD, sE, sF, ne_eq, Bool.not_eq_eq_eq_not, Bool.not_true, Bool.not_false, sK, sL, Bool.not_not, gt_iff_lt, ge_iff_le] at hco7
    refine W.seq ?_
    refine W.sub [(10, _)] ⟨rfl, trivial⟩ ?_
    refine W.reg [(0, false), (1, false), (2, false)] (by kernel_rfl) ?_
    intro K hK
    refine x_move rfl rfl rfl rfl ?_
    refine x_assign rfl rfl rfl rfl ?_
    refine x_assign rfl rfl rfl rfl ?_
    refine Ex.done (hK _ _ ?_)
    refine At.then_n ?_
    refine W.ret ?_
    refine At.then_r ?_
    refine At.ret2 (.tmp 4) (.tmp 5) rfl ⟨rfl, rfl, trivial⟩ ?_
    exact .inr (.inl ⟨hany, by rw [newS_of hco6 hco7]; exact hco7, by rw [newS_of hco6 hco7]; rfl, M.frm⟩)
   ·try simp only [sA, sB, sC, sD, sE, sF, ne_eq, Bool.not_eq_eq_eq_not, Bool.not_true, Bool.not_false, sK, sL, Bool.not_not, gt_iff_lt, ge_iff_le] at hco7
    obtain ⟨E2, bt, rfl, rfl, hT2⟩ := hofk hco7
    refine W.skip ?_
    refine At.then_n ?_
    refine W.seq ?_
    refine W.sub [(0, _), (1, _), (9, _)] ⟨rfl, rfl, rfl, trivial⟩ ?_
    refine W.reg [(0, false), (1, false), (2, true), (3, false), (4, true), (5, false)] (by kernel_rfl) ?_
    intro K hK
    refine x_move rfl rfl rfl rfl ?_
    refine x_move rfl rfl rfl rfl ?_
    refine x_mkmap rfl rfl rfl ?_
    intro bmm1 wmm1 hbmm1 hwmm1
    have M := M.acons hbmm1 hwmm1
    refine ⟨trivial, ?_⟩
    refine x_build (fsC (.iface Ty rv) 0 ⟨bt, bmm1, .map #[] 0, E2, [], hs0⟩) rfl rfl rfl pl90 ze90 rfl rfl (by kernel_rfl) ?_
    refine x_box (fsC (.iface Ty rv) 0 ⟨bt, bmm1, .map #[] 0, E2, [], hs0⟩) rfl rfl rfl rfl rfl ?_
    intro bbx1 wbx1 hbbx1 hwbx1
    have M := M.acons hbbx1 hwbx1
    have M : Sep w0 ((bbx1, .cells (fsC (.iface Ty rv) 0 ⟨bt, bmm1, .map #[] 0, E2, [], hs0⟩).toArray 90 (0, 0)) :: (bmm1, .map #[] 0) :: (tb bt E2 ++ Lo)) wbx1 := M
    have M : Sep w0 (fsB bbx1 (.iface Ty rv) (usedL (l.take 0)) ⟨bt, bmm1, .map #[] 0, E2, [], hs0⟩ ++ Lo) wbx1 := by
     have e : fsB bbx1 (.iface Ty rv) (usedL (l.take 0)) ⟨bt, bmm1, .map #[] 0, E2, [], hs0⟩ = (bbx1, .cells (fsC (.iface Ty rv) 0 ⟨bt, bmm1, .map #[] 0, E2, [], hs0⟩).toArray 90 (0, 0)) :: (bmm1, .map #[] 0) :: (tb bt E2 ++ []) := rfl
     rw [e, List.append_nil]; exact M
    refine ⟨trivial, ?_⟩
    refine x_assign rfl rfl rfl rfl ?_
    refine Ex.done (hK _ _ ?_)
    refine At.then_n ?_
    refine W.seq ?_
    refine W.seq ?_
    refine W.sub [(0, _), (11, _)] ⟨rfl, rfl, trivial⟩ ?_
    refine W.reg [(0, false), (1, false), (2, false)] (by kernel_rfl) ?_
    intro K hK
    refine x_move rfl rfl rfl rfl ?_
    refine x_len rfl rfl rfl rfl Tryz.underlying22 rfl ?_
    refine x_move rfl rfl rfl rfl ?_
    refine Ex.done (hK _ _ ?_)
    refine At.then_n ?_
    refine W.block ?_
    refine W.loop (σ := Nat × Obj × List Con) (fun q => [(11, _), (58, _), (59, _), (60, .int .i64 ((q.1 : Nat) : Int))]) (fun q w => q.1 ≤ ml.length ∧ MkI l q.1 q.2.2 ∧ MapF strV q.2.1 (cmap q.2.2) ∧ Sep w0 (fsB bbx1 (.iface Ty rv) (usedL (l.take q.1)) ⟨bt, bmm1, q.2.1, E2, q.2.2, hs0⟩ ++ Lo) w) (fun q => ml.length - q.1) (0, .map #[] 0, []) ⟨rfl, rfl, rfl, rfl, trivial⟩ ⟨Nat.zero_le _, MkI.nil, MapF.made, M⟩ ?_
    rintro ⟨j, om, C⟩ w ⟨hj, hI, hmp, M⟩
    simp only at hj hI hmp M
    refine W.seq ?_
    refine W.sub [(11, _), (58, _), (59, _), (60, _)] ⟨rfl, rfl, rfl, rfl, trivial⟩ ?_
    refine W.reg [(0, false)] (by kernel_rfl) ?_
    intro K hK
    refine x_lss _ rfl rfl rfl rfl rfl rfl ?_
    refine Ex.done (hK _ _ ?_)
    refine At.then_n ?_
    refine W.seq ?_
    refine W.cond rfl (fun hco8 => ?_) (fun hco8 => ?_)
    ·try simp only [sA, sB, sC, sD, sE, sF, ne_eq, Bool.not_eq_eq_eq_not, Bool.not_true, Bool.not_false, sK, sL, Bool.not_not, gt_iff_lt, ge_iff_le] at hco8
     obtain ⟨m, hx⟩ := get_lt (l := ml) (q := j) (by omega)
     obtain ⟨bb, off, rfl, _⟩ := (h.new M.frm).blk (j := j) (by omega)
     have hrow := (h.new M.frm).row hx
     obtain ⟨x, hlx⟩ := get_lt (l := l) (q := j) (by omega)
     have hmx : m = metaR x := by rw [hme, List.getElem?_map, hlx] at hx; exact (Option.some.inj hx).symm
     subst hmx
     have hxl := List.mem_of_getElem? hlx
     have hxd := (hokd x hxl).1
     have hul : usedL (l.take j) ≤ j * 65536 := used_take hokd j
     have hus : usedL (l.take (j + 1)) = usedL (l.take j) + x.2.2.length := by rw [take_snoc hlx, usedL_app, usedL_cons]; simp [usedL]
     have h0f : (ofL l).2 = 0 := by have := hco7; rw [bare_of hokd] at this; exact this
     have hnd := (of_facts h0f hokd).1
     refine W.skip ?_
     refine At.then_n ?_
     refine W.seq ?_
     refine W.block ?_
     refine W.seq ?_
     refine W.sub [(11, _), (58, _), (59, _), (60, _)] ⟨rfl, rfl, rfl, rfl, trivial⟩ ?_
     refine W.reg [(0, false), (1, false), (2, true), (3, true)] (by kernel_rfl) ?_
     intro K hK
     refine x_ia j rfl rfl rfl Tryz.underlying22 sz26 rfl rfl rfl (by omega) ?_
     refine x_ldA [_, _, _] rfl rfl rfl Tryz.underlying26 rfl sz26 rfl rfl hrow ?_
     refine x_alloc [_, _, _] rfl rfl rfl ze26 rfl ?_
     intro bal2 wal2 hbal2 hwal2
     have M := M.acons hbal2 hwal2
     refine ⟨trivial, ?_⟩
     refine x_st [_, _, _] _ rfl rfl rfl sz26 rfl rfl rfl rfl (by first | exact M.at_ 0 rfl | exact M.at_ 1 rfl | exact M.at_ 2 rfl | exact M.at_ 3 rfl | exact M.at_ 4 rfl | exact M.at_ 5 rfl | exact M.at_ 6 rfl | exact M.at_ 7 rfl) rfl rfl rfl ?_
     intro wst2 hwst2
     have M : Sep w0 ((bal2, .cells [strV x.1, .bool x.2.1, .int .i64 (x.2.2.length : Int)].toArray 26 (0, 0)) :: (fsB bbx1 (.iface Ty rv) (usedL (l.take j)) ⟨bt, bmm1, om, E2, C, hs0⟩ ++ Lo)) wst2 := M.put 0 rfl hwst2
     refine ⟨trivial, ?_⟩
     refine Ex.done (hK _ _ ?_)
     refine At.then_n ?_
     refine W.seq ?_
     refine W.sub [(11, _), (13, _), (58, _), (59, _), (60, _)] ⟨rfl, rfl, rfl, rfl, rfl, trivial⟩ ?_
     refine W.reg [(0, false), (1, false), (2, false)] (by kernel_rfl) ?_
     intro K hK
     refine x_fa rfl rfl rfl fo26_1 rfl ?_
     refine x_ld rfl rfl rfl Tryz.underlying4 rfl rfl (cell_of (by first | exact M.at_ 0 rfl | exact M.at_ 1 rfl | exact M.at_ 2 rfl | exact M.at_ 3 rfl | exact M.at_ 4 rfl | exact M.at_ 5 rfl | exact M.at_ 6 rfl | exact M.at_ 7 rfl) rfl) ?_
     refine x_not (!x.2.1) rfl rfl rfl rfl rfl ?_
     refine Ex.done (hK _ _ ?_)
     refine At.then_n ?_
     refine W.cond rfl (fun hco9 => ?_) (fun hco9 => ?_)
     ·try simp only [sA, sB, sC, sD, sE, sF, ne_eq, Bool.not_eq_eq_eq_not, Bool.not_true, Bool.not_false, sK, sL, Bool.not_not, gt_iff_lt, ge_iff_le] at hco9
      have hd : x.2.1 = false := by simpa using hco9
      have hnew := hI.new hnd hlx
      refine W.seq ?_
      refine W.sub [(11, _), (13, _), (58, _), (59, _), (60, _)] ⟨rfl, rfl, rfl, rfl, rfl, trivial⟩ ?_
      refine W.regD (by kernel_rfl) #[0, 1, 3, 7, 0, 16, 0, 64, 0, 256, 960, 1984, 4095] [(0, false), (1, false), (2, false), (3, false), (4, false), (5, false), (6, false), (7, false), (8, false), (9, false), (10, false), (11, true), (12, true)] (by kernel_rfl) ?_
      intro K wD1 hK hwD1
      have M : Sep w0 ((bal2, .cells [strV x.1, .bool x.2.1, .int .i64 (x.2.2.length : Int)].toArray 26 (0, 0)) :: (fsB bbx1 (.iface Ty rv) (usedL (l.take j)) ⟨bt, bmm1, om, E2, C, hs0⟩ ++ Lo)) wD1 := M.drew hwD1
      refine x_move rfl rfl rfl rfl ?_
      refine x_nil rfl rfl rfl rfl rfl ?_
      refine x_fa rfl rfl rfl fo90_2 rfl ?_
      refine x_ld rfl rfl rfl Tryz.underlying84 rfl rfl (cell_of (fs_at (X := (bal2, .cells [strV x.1, .bool x.2.1, .int .i64 (x.2.2.length : Int)].toArray 26 (0, 0)) :: (fsB bbx1 (.iface Ty rv) (usedL (l.take j)) ⟨bt, bmm1, om, E2, C, hs0⟩ ++ Lo)) M (fun y (hy : y ∈ fsB bbx1 (.iface Ty rv) (usedL (l.take j)) ⟨bt, bmm1, om, E2, C, hs0⟩) => by simp [hy])) rfl) ?_
      refine x_fa rfl rfl rfl fo26_0 rfl ?_
      refine x_ld rfl rfl rfl Tryz.underlying9 rfl rfl (cell_of (by first | exact M.at_ 0 rfl | exact M.at_ 1 rfl | exact M.at_ 2 rfl | exact M.at_ 3 rfl | exact M.at_ 4 rfl | exact M.at_ 5 rfl | exact M.at_ 6 rfl | exact M.at_ 7 rfl) rfl) ?_
      refine x_fa rfl rfl rfl fo26_0 rfl ?_
      refine x_ld rfl rfl rfl Tryz.underlying9 rfl rfl (cell_of (by first | exact M.at_ 0 rfl | exact M.at_ 1 rfl | exact M.at_ 2 rfl | exact M.at_ 3 rfl | exact M.at_ 4 rfl | exact M.at_ 5 rfl | exact M.at_ 6 rfl | exact M.at_ 7 rfl) rfl) ?_
      refine x_fa rfl rfl rfl fo26_2 rfl ?_
      refine x_ld rfl rfl rfl Tryz.underlying3 rfl rfl (cell_of (by first | exact M.at_ 0 rfl | exact M.at_ 1 rfl | exact M.at_ 2 rfl | exact M.at_ 3 rfl | exact M.at_ 4 rfl | exact M.at_ 5 rfl | exact M.at_ 6 rfl | exact M.at_ 7 rfl) rfl) ?_
      refine x_build [_, _, _, _] rfl rfl rfl pl104 ze104 rfl rfl rfl ?_
      refine x_box [_, _, _, _] rfl rfl rfl rfl rfl ?_
      intro bbx2 wbx2 hbbx2 hwbx2
      have M := M.acons hbbx2 hwbx2
      refine ⟨⟨.inl (by kernel_rfl), .inl (by kernel_rfl), .inr (cell_of (by first | exact M.at_ 0 rfl | exact M.at_ 1 rfl | exact M.at_ 2 rfl | exact M.at_ 3 rfl | exact M.at_ 4 rfl | exact M.at_ 5 rfl | exact M.at_ 6 rfl | exact M.at_ 7 rfl) rfl), (by first | exact .inr (cell_of (by first | exact M.at_ 0 rfl | exact M.at_ 1 rfl | exact M.at_ 2 rfl | exact M.at_ 3 rfl | exact M.at_ 4 rfl | exact M.at_ 5 rfl | exact M.at_ 6 rfl | exact M.at_ 7 rfl) rfl) | exact .inr (cell_of (fs_at (X := (bal2, .cells [strV x.1, .bool x.2.1, .int .i64 (x.2.2.length : Int)].toArray 26 (0, 0)) :: (fsB bbx1 (.iface Ty rv) (usedL (l.take j)) ⟨bt, bmm1, om, E2, C, hs0⟩ ++ Lo)) M (fun y (hy : y ∈ fsB bbx1 (.iface Ty rv) (usedL (l.take j)) ⟨bt, bmm1, om, E2, C, hs0⟩) => by simp [hy])) rfl)), trivial⟩, ?_⟩
      refine x_mup (enc := strV) x.1 rfl rfl rfl (strKey Tryz.underlying9) Tryz.underlying84 rfl rfl rfl (M.get (by simp [fsB])) hmp ?_
      intro omu1 wmu1 hmmu1 hwmu1
      have M : Sep w0 ((⟨x.1, bbx2, false, .slice none 0 0, [], x.1, x.2.2.length, x.2.2⟩ : Con).hd :: (bal2, .cells [strV x.1, .bool x.2.1, .int .i64 (x.2.2.length : Int)].toArray 26 (0, 0)) :: (fsB bbx1 (.iface Ty rv) (usedL (l.take j)) ⟨bt, bmm1, omu1, E2, C, hs0⟩ ++ Lo)) wmu1 := M.put 3 rfl hwmu1
      have M : Sep w0 ((bal2, .cells [strV x.1, .bool x.2.1, .int .i64 (x.2.2.length : Int)].toArray 26 (0, 0)) :: (fsB bbx1 (.iface Ty rv) (usedL (l.take j)) ⟨bt, bmm1, omu1, E2, (C ++ [(⟨x.1, bbx2, false, .slice none 0 0, [], x.1, x.2.2.length, x.2.2⟩ : Con)]), hs0⟩ ++ Lo)) wmu1 := M.perm (perm_c fun p => by
       unfold fsB
       have e : fsC (.iface Ty rv) (usedL (l.take j)) ⟨bt, bmm1, omu1, E2, (C ++ [(⟨x.1, bbx2, false, .slice none 0 0, [], x.1, x.2.2.length, x.2.2⟩ : Con)]), hs0⟩ = fsC (.iface Ty rv) (usedL (l.take j)) ⟨bt, bmm1, omu1, E2, C, hs0⟩ := rfl
       simp only [e, cblks_app, cblks_cons, Con.blks, List.countP_append, List.countP_cons, List.countP_nil]
       simp only [cblks, List.flatMap_nil, List.countP_nil]
       omega)
      rw [← cmap_snoc (c := (⟨x.1, bbx2, false, .slice none 0 0, [], x.1, x.2.2.length, x.2.2⟩ : Con)) hnew] at hmmu1
      refine ⟨⟨.inl (by kernel_rfl), .inl (by kernel_rfl), .inl (by kernel_rfl), .inl (by kernel_rfl), trivial⟩, ?_⟩
      refine Ex.done (hK _ _ ?_)
      refine At.then_n ?_
      refine W.sub [(11, _), (13, _), (58, _), (59, _), (60, _)] ⟨rfl, rfl, rfl, rfl, rfl, trivial⟩ ?_
      refine W.regD (by kernel_rfl) #[0, 1, 3, 7, 0, 16, 63, 127, 255, 511] [(0, false), (1, false), (2, false), (3, false), (4, false), (5, false), (6, false), (7, false), (8, false), (9, true)] (by kernel_rfl) ?_
      intro K wD2 hK hwD2
      have M : Sep w0 ((bal2, .cells [strV x.1, .bool x.2.1, .int .i64 (x.2.2.length : Int)].toArray 26 (0, 0)) :: (fsB bbx1 (.iface Ty rv) (usedL (l.take j)) ⟨bt, bmm1, omu1, E2, (C ++ [(⟨x.1, bbx2, false, .slice none 0 0, [], x.1, x.2.2.length, x.2.2⟩ : Con)]), hs0⟩ ++ Lo)) wD2 := M.drew hwD2
      refine x_move rfl rfl rfl rfl ?_
      refine x_nil rfl rfl rfl rfl rfl ?_
      refine x_fa rfl rfl rfl fo90_4 rfl ?_
      refine x_ld rfl rfl rfl Tryz.underlying3 rfl rfl (cell_of (fs_at M (fun y (hy : y ∈ fsB bbx1 (.iface Ty rv) (usedL (l.take j)) ⟨bt, bmm1, omu1, E2, (C ++ [(⟨x.1, bbx2, false, .slice none 0 0, [], x.1, x.2.2.length, x.2.2⟩ : Con)]), hs0⟩) => by simp [hy])) (fsC_used rfl)) ?_
      refine x_fa rfl rfl rfl fo26_2 rfl ?_
      refine x_ld rfl rfl rfl Tryz.underlying3 rfl rfl (cell_of (by first | exact M.at_ 0 rfl | exact M.at_ 1 rfl | exact M.at_ 2 rfl | exact M.at_ 3 rfl | exact M.at_ 4 rfl | exact M.at_ 5 rfl | exact M.at_ 6 rfl | exact M.at_ 7 rfl) rfl) ?_
      refine x_add ((usedL (l.take (j + 1)) : Nat) : Int) rfl rfl rfl rfl rfl (by rw [wadd (by omega) (by omega), hus]; omega) ?_
      refine x_nil rfl rfl rfl rfl rfl ?_
      refine x_fa rfl rfl rfl fo90_4 rfl ?_
      refine x_st [_] (fsC (.iface Ty rv) (usedL (l.take (j + 1))) ⟨bt, bmm1, omu1, E2, (C ++ [(⟨x.1, bbx2, false, .slice none 0 0, [], x.1, x.2.2.length, x.2.2⟩ : Con)]), hs0⟩) rfl rfl rfl sz3 rfl rfl rfl rfl (fs_at M (fun y (hy : y ∈ fsB bbx1 (.iface Ty rv) (usedL (l.take j)) ⟨bt, bmm1, omu1, E2, (C ++ [(⟨x.1, bbx2, false, .slice none 0 0, [], x.1, x.2.2.length, x.2.2⟩ : Con)]), hs0⟩) => by simp [hy])) rfl (by rw [fsC_len (S := ⟨bt, bmm1, omu1, E2, (C ++ [(⟨x.1, bbx2, false, .slice none 0 0, [], x.1, x.2.2.length, x.2.2⟩ : Con)]), hs0⟩) rfl]; rfl) (fsC_use (S := ⟨bt, bmm1, omu1, E2, (C ++ [(⟨x.1, bbx2, false, .slice none 0 0, [], x.1, x.2.2.length, x.2.2⟩ : Con)]), hs0⟩) rfl) ?_
      intro wst3 hwst3
      have M : Sep w0 ((bal2, .cells [strV x.1, .bool x.2.1, .int .i64 (x.2.2.length : Int)].toArray 26 (0, 0)) :: (fsB bbx1 (.iface Ty rv) (usedL (l.take (j + 1))) ⟨bt, bmm1, omu1, E2, (C ++ [(⟨x.1, bbx2, false, .slice none 0 0, [], x.1, x.2.2.length, x.2.2⟩ : Con)]), hs0⟩ ++ Lo)) wst3 := M.put 1 rfl hwst3
      refine ⟨⟨.inl (by kernel_rfl), .inl (by kernel_rfl), trivial⟩, ?_⟩
      refine Ex.done (hK _ _ ?_)
      refine At.blk_n ?_
      refine At.then_n ?_
      refine W.sub [(11, _), (58, _), (59, _), (60, _)] ⟨rfl, rfl, rfl, rfl, trivial⟩ ?_
      refine W.reg [(0, false), (1, false)] (by kernel_rfl) ?_
      intro K hK
      refine x_add _ rfl rfl rfl rfl rfl (wadd (by omega) (by omega)) ?_
      refine x_move rfl rfl rfl rfl ?_
      refine Ex.done (hK _ _ ?_)
      exact At.back ((j + 1, omu1, C ++ [(⟨x.1, bbx2, false, .slice none 0 0, [], x.1, x.2.2.length, x.2.2⟩ : Con)])) ⟨rfl, rfl, rfl, rfl, trivial⟩ ⟨by simp only; omega, hI.step hlx hd bbx2, hmmu1, M.tail⟩ (by first | omega | (simp only; omega) | (simp; done) | (simp; omega))
     ·try simp only [sA, sB, sC, sD, sE, sF, ne_eq, Bool.not_eq_eq_eq_not, Bool.not_true, Bool.not_false, sK, sL, Bool.not_not, gt_iff_lt, ge_iff_le] at hco9
      have hd : x.2.1 = true := by simpa using hco9
      have hx0 : x.2.2 = [] := (hokd x hxl).2 hd
      refine W.skip ?_
      refine At.blk_n ?_
      refine At.then_n ?_
      refine W.sub [(11, _), (58, _), (59, _), (60, _)] ⟨rfl, rfl, rfl, rfl, trivial⟩ ?_
      refine W.reg [(0, false), (1, false)] (by kernel_rfl) ?_
      intro K hK
      refine x_add _ rfl rfl rfl rfl rfl (wadd (by omega) (by omega)) ?_
      refine x_move rfl rfl rfl rfl ?_
      refine Ex.done (hK _ _ ?_)
      exact At.back ((j + 1, om, C)) ⟨rfl, rfl, rfl, rfl, trivial⟩ ⟨by simp only; omega, hI.skip hlx hd, hmp, by simp only; rw [hus, hx0]; exact M.tail⟩ (by first | omega | (simp only; omega) | (simp; done) | (simp; omega))
    ·try simp only [sA, sB, sC, sD, sE, sF, ne_eq, Bool.not_eq_eq_eq_not, Bool.not_true, Bool.not_false, sK, sL, Bool.not_not, gt_iff_lt, ge_iff_le] at hco8
     have hj2 : j = l.length := by omega
     subst hj2
     rw [List.take_length] at M
     refine W.exit ?_
     refine At.then_x ?_
     refine At.loop_x ?_
     refine At.blk_x ?_
     refine At.then_n ?_
     refine W.seq ?_
     refine W.seq ?_
     refine W.sub [(11, _)] ⟨rfl, trivial⟩ ?_
     refine W.reg [(0, false), (1, false), (2, false), (3, false), (4, false)] (by kernel_rfl) ?_
     intro K hK
     refine x_move rfl rfl rfl rfl ?_
     refine x_nil rfl rfl rfl rfl rfl ?_
     refine x_fa rfl rfl rfl fo90_4 rfl ?_
     refine x_ld rfl rfl rfl Tryz.underlying3 rfl rfl (cell_of (fs_at M (fun y (hy : y ∈ fsB bbx1 (.iface Ty rv) (usedL l) ⟨bt, bmm1, om, E2, C, hs0⟩) => by simp [hy])) (fsC_used rfl)) ?_
     refine x_gtr _ rfl rfl rfl rfl rfl rfl ?_
     refine Ex.done (hK _ _ ?_)
     refine At.then_n ?_
     refine W.cond rfl (fun hco10 => ?_) (fun hco10 => ?_)
     ·try simp only [sA, sB, sC, sD, sE, sF, ne_eq, Bool.not_eq_eq_eq_not, Bool.not_true, Bool.not_false, sK, sL, Bool.not_not, gt_iff_lt, ge_iff_le] at hco10
      refine W.seq ?_
      refine W.sub [] trivial ?_
      refine W.reg [(0, false), (1, false)] (by kernel_rfl) ?_
      intro K hK
      refine x_assign rfl rfl rfl rfl ?_
      refine x_assign rfl rfl rfl rfl ?_
      refine Ex.done (hK _ _ ?_)
      refine At.then_n ?_
      refine W.ret ?_
      refine At.then_r ?_
      refine At.ret2 (.tmp 4) (.tmp 5) rfl ⟨rfl, rfl, trivial⟩ ?_
      exact .inr (.inl ⟨hany, by rw [newS_7 hco6 hco7 (by omega)]; decide, by rw [newS_7 hco6 hco7 (by omega)], M.frm⟩)
     ·try simp only [sA, sB, sC, sD, sE, sF, ne_eq, Bool.not_eq_eq_eq_not, Bool.not_true, Bool.not_false, sK, sL, Bool.not_not, gt_iff_lt, ge_iff_le] at hco10
      refine W.skip ?_
      refine At.then_n ?_
      refine W.seq ?_
      refine W.sub [(11, _)] ⟨rfl, trivial⟩ ?_
      refine W.reg [(0, false), (1, false), (2, false)] (by kernel_rfl) ?_
      intro K hK
      refine x_move rfl rfl rfl rfl ?_
      refine x_assign rfl rfl rfl rfl ?_
      refine x_assign rfl rfl rfl rfl ?_
      refine Ex.done (hK _ _ ?_)
      refine At.then_n ?_
      refine W.ret ?_
      refine At.ret2 (.tmp 4) (.tmp 5) rfl ⟨rfl, rfl, trivial⟩ ?_
      have hN := newS_0 hco6 hco7 (by omega)
      obtain ⟨hF, hU⟩ := made_fr (base := base) (bt := bt) (bm := bmm1) hokd hco7 (by omega) hT2 hI hmp (hba (by rw [hN]))
      refine .inr (.inr ⟨hany, by rw [hN], bbx1, _, rfl, by rw [hN]; exact hF, ?_⟩)
      rw [hN]
      simp only
      rw [hU]
      exact M.dropR
end Go.Proofs.YtigfbpbnohkokaaGreat

namespace Go.Proofs.YtigfbpbnohkokaaGreat
open Go Go.Fw Go.RowKit Go.Proofs
set_option linter.unusedVariables false
set_option linter.unusedSimpArgs false

end Go.Proofs.YtigfbpbnohkokaaGreat

namespace Go.Proofs.YtigfbpbnohkokaaGreat
open Go Go.Fw Go.RowKit Go.Proofs
set_option linter.unusedVariables false
set_option linter.unusedSimpArgs false

end Go.Proofs.YtigfbpbnohkokaaGreat

namespace Go.Proofs.YtigfbpbnohkokaaGreat
open Go Go.Fw Go.RowKit
set_option linter.unusedVariables false
set_option linter.unusedSimpArgs false

abbrev MetasO (L : List (Nat × Obj)) (v : Value) (ml : List Mt) : Prop := OwL L v 3 ml.length (mCs ml)
theorem metasO_at {L : List (Nat × Obj)} {v : Value} {ml : List Mt} {w : World} (h : MetasO L v ml) (hg : ∀ y ∈ L, w.heap[y.1]? = some y.2) : MetasAt w v ml := .inr ((h.sl (by decide)).get hg)
theorem mCs_snoc (ml : List Mt) (m : Mt) : mCs (ml ++ [m]) = mCs ml ++ [strV m.1, .bool m.2.1, .int .i64 m.2.2] := by simp [mCs]
/-- The base that files make. -/
def baseL (l : List Raw) : BaseF := fun p => (l.find? fun x => decide (x.1 = p) && !x.2.1).map (·.2.2)
theorem baseL_of {l : List Raw} (hn : (l.map (·.1)).Nodup) {x : Raw} (hx : x ∈ l) (hd : x.2.1 = false) : baseL l x.1 = some x.2.2 := by
 unfold baseL
 have : l.find? (fun y => decide (y.1 = x.1) && !y.2.1) = some x := by
  obtain ⟨j, hj, rfl⟩ := List.getElem_of_mem hx
  rw [List.find?_eq_some_iff_getElem]
  refine ⟨by simp [hd], j, hj, rfl, fun i hi => ?_⟩
  have : l[i].1 ≠ l[j].1 := fun e => by
   have e : (l.map (·.1))[i]'(by simp; omega) = (l.map (·.1))[j]'(by simpa using hj) := by simpa using e
   have := (List.getElem_inj hn).1 e
   omega
  simp [this]
 rw [this]; rfl
theorem baseL_at {l : List Raw} {p b : List UInt8} {j : Nat} {x : Raw} (hb : baseL l p = some b) (hx : l[j]? = some x) (hno : ∀ y ∈ l.take j, ¬ (y.1 = p ∧ y.2.1 = false)) (h1 : x.1 = p) (h2 : x.2.1 = false) : x.2.2 = b := by
 unfold baseL at hb
 have : l.find? (fun y => decide (y.1 = p) && !y.2.1) = some x := by
  obtain ⟨hj, rfl⟩ := List.getElem?_eq_some_iff.1 hx
  rw [List.find?_eq_some_iff_getElem]
  refine ⟨by simp [h1, h2], j, hj, rfl, fun i hi => ?_⟩
  have := hno l[i] (List.mem_take_iff_getElem.2 ⟨i, by omega, rfl⟩)
  by_cases e1 : l[i].1 = p
  ·cases e2 : l[i].2.1 with
   | true => simp
   | false => exact absurd ⟨e1, e2⟩ this
  ·simp [e1]
 rw [this] at hb
 exact Option.some.inj hb
theorem baseL_some {l : List Raw} {p b : List UInt8} (hb : baseL l p = some b) (hno : ∀ y ∈ l, ¬ (y.1 = p ∧ y.2.1 = false)) : False := by
 unfold baseL at hb
 have : l.find? (fun y => decide (y.1 = p) && !y.2.1) = none := List.find?_eq_none.2 fun y hy => by
  have := hno y hy
  by_cases e1 : y.1 = p
  ·cases e2 : y.2.1 with
   | true => simp
   | false => exact absurd ⟨e1, e2⟩ this
  ·simp [e1]
 rw [this] at hb; cases hb
end Go.Proofs.YtigfbpbnohkokaaGreat

namespace Go.Proofs.YtigfbpbnohkokaaGreat
open Go Go.Fw Go.RowKit Go.Proofs
set_option linter.unusedVariables false
set_option linter.unusedSimpArgs false

set_option maxRecDepth 100000 in
theorem metas_c {w0 : World} {v : Value} {l : List Raw} (h : FilesAt w0 v l) (hl : l.length ≤ 1000) : Ret Tryz.prog 39 #[v] w0 fun r w' => ∃ Lr, MetasO Lr r (l.map metaR) ∧ Sep w0 Lr w' := by
 have M : Sep w0 [] w0 := St.nil w0
 obtain ⟨pv, cv, rfl⟩ := h.shape
 refine Ret.of_W Tryz.func39 rfl Tryz.ntmps39 rfl ?_
 refine W.seq ?_
 refine W.sub [(0, _)] ⟨rfl, trivial⟩ ?_
 refine W.reg [(0, false)] (by kernel_rfl) ?_
 intro K hK
 refine x_assign rfl rfl rfl rfl ?_
 refine Ex.done (hK _ _ ?_)
 refine At.then_n ?_
 refine W.seq ?_
 refine W.sub [(0, _)] ⟨rfl, trivial⟩ ?_
 refine W.reg [(0, false)] (by kernel_rfl) ?_
 intro K hK
 refine x_assign rfl rfl rfl rfl ?_
 refine Ex.done (hK _ _ ?_)
 refine At.then_n ?_
 refine W.seq ?_
 refine W.seq ?_
 refine W.sub [(0, _), (3, _)] ⟨rfl, rfl, trivial⟩ ?_
 refine W.reg [(0, false)] (by kernel_rfl) ?_
 intro K hK
 refine x_assign rfl rfl rfl rfl ?_
 refine Ex.done (hK _ _ ?_)
 refine At.then_n ?_
 refine W.block ?_
 refine W.loop (σ := Nat × Value × List (Nat × Obj)) (fun q => [(0, _), (3, q.2.1), (4, .int .i64 ((q.1 : Nat) : Int))]) (fun q w => q.1 ≤ l.length ∧ OwL q.2.2 q.2.1 3 q.1 (mCs ((l.take q.1).map metaR)) ∧ Sep w0 q.2.2 w) (fun q => l.length - q.1) (0, .slice none 0 0, []) ⟨rfl, rfl, rfl, trivial⟩ ⟨Nat.zero_le _, OwL.nil, M⟩ ?_
 rintro ⟨j, u, Lo⟩ w ⟨hj, how, M⟩
 simp only at hj how M
 obtain ⟨pu, cu, rfl⟩ := how.shape
 refine W.seq ?_
 refine W.seq ?_
 refine W.sub [(0, _), (3, _), (4, _)] ⟨rfl, rfl, rfl, trivial⟩ ?_
 refine W.reg [(0, false), (1, false), (2, false), (3, false)] (by kernel_rfl) ?_
 intro K hK
 refine x_move rfl rfl rfl rfl ?_
 refine x_move rfl rfl rfl rfl ?_
 refine x_len rfl rfl rfl rfl Tryz.underlying24 rfl ?_
 refine x_lss _ rfl rfl rfl rfl rfl rfl ?_
 refine Ex.done (hK _ _ ?_)
 refine At.then_n ?_
 refine W.cond rfl (fun hco1 => ?_) (fun hco1 => ?_)
 ·try simp only [sA, sB, sC, sD, sE, sF, ne_eq, Bool.not_eq_eq_eq_not, Bool.not_true, Bool.not_false, sK, sL, Bool.not_not, gt_iff_lt, ge_iff_le] at hco1
  obtain ⟨x, hx⟩ := get_lt (l := l) (q := j) (by omega)
  obtain ⟨bb, off, rfl, _⟩ := (h.new M.frm).blk (j := j) (by omega)
  refine W.skip ?_
  refine At.then_n ?_
  refine W.seq ?_
  refine W.block ?_
  refine W.sub [(0, _), (3, _), (4, _)] ⟨rfl, rfl, rfl, trivial⟩ ?_
  refine W.regD (by kernel_rfl) #[0, 0, 0, 6, 14, 30, 0, 0, 192, 448, 960, 0, 0, 6144, 14336, 30720, 63488, 131070, 262142, 524287, 1048575] [(0, false), (1, false), (2, false), (3, false), (4, false), (5, false), (6, false), (7, false), (8, false), (9, false), (10, false), (11, false), (12, false), (13, false), (14, false), (15, false), (16, false), (17, false), (18, true), (19, true), (20, false)] (by kernel_rfl) ?_
  intro K wD1 hK hwD1
  have M := M.drew hwD1
  obtain ⟨pd, cd, hrow, hbx⟩ := (h.new M.frm).row hx
  refine x_move rfl rfl rfl rfl ?_
  refine x_move rfl rfl rfl rfl ?_
  refine x_move rfl rfl rfl rfl ?_
  refine x_ia j rfl rfl rfl Tryz.underlying24 sz29 rfl rfl rfl (by omega) ?_
  refine x_fa rfl rfl rfl fo29_0 rfl ?_
  refine x_ld rfl rfl rfl Tryz.underlying9 rfl rfl (RowAt.cell hrow (j := 0) rfl) ?_
  refine x_move rfl rfl rfl rfl ?_
  refine x_move rfl rfl rfl rfl ?_
  refine x_ia j rfl rfl rfl Tryz.underlying24 sz29 rfl rfl rfl (by omega) ?_
  refine x_fa rfl rfl rfl fo29_1 rfl ?_
  refine x_ld rfl rfl rfl Tryz.underlying4 rfl rfl (RowAt.cell hrow (j := 1) rfl) ?_
  refine x_move rfl rfl rfl rfl ?_
  refine x_move rfl rfl rfl rfl ?_
  refine x_ia j rfl rfl rfl Tryz.underlying24 sz29 rfl rfl rfl (by omega) ?_
  refine x_fa rfl rfl rfl fo29_2 rfl ?_
  refine x_ld rfl rfl rfl Tryz.underlying27 rfl rfl (RowAt.cell hrow (j := 2) rfl) ?_
  refine x_len rfl rfl rfl rfl Tryz.underlying27 rfl ?_
  refine x_build [_, _, _] rfl rfl rfl pl26 ze26 rfl rfl rfl ?_
  refine x_bs1 (cs := [strV x.1, .bool x.2.1, .int .i64 (x.2.2.length : Int)]) rfl rfl rfl Tryz.underlying22 sz26 ze26 (Z := [_, _, _]) rfl rfl (by decide) (by decide) rfl rfl rfl ?_
  intro bbs1 wbs1 hbbs1 hwbs1
  have M0 := M.acons hbbs1 hwbs1
  have hslbs1 : Sl wbs1 (.slice (some ⟨bbs1, 0, none⟩) 1 1) 3 1 [strV x.1, .bool x.2.1, .int .i64 (x.2.2.length : Int)] := .inr ⟨bbs1, 0, 1, _, _, _, rfl, by omega, M0.at_ 0 rfl, rfl, rfl⟩
  have M := M0.tail
  refine ⟨⟨.inl (by kernel_rfl), .inl (by kernel_rfl), .inl (by kernel_rfl), trivial⟩, ?_⟩
  have M : Sep w0 (Lo ++ []) wbs1 := by rw [List.append_nil]; exact M
  refine x_apL rfl rfl rfl rfl Tryz.underlying22 sz26 ze26 rfl by26 rfl rfl how M (mCs_one _) (hslbs1.src Tryz.underlying22 (by intro u hu; simp at hu; rcases hu with rfl | rfl | rfl <;> rfl)) (by omega) (by decide) (by omega) ?_
  intro Lo2 v6 w6 how M
  rw [show [strV x.1, .bool x.2.1, .int .i64 (x.2.2.length : Int)] = [strV (metaR x).1, .bool (metaR x).2.1, .int .i64 (metaR x).2.2] from rfl, ← mCs_snoc, show (l.take j).map metaR ++ [metaR x] = (l.take (j + 1)).map metaR by rw [take_snoc hx, List.map_append]; rfl] at how
  refine ⟨⟨.inl (by kernel_rfl), .inl (by kernel_rfl), .inl (by kernel_rfl), trivial⟩, ?_⟩
  refine x_assign rfl rfl rfl rfl ?_
  refine Ex.done (hK _ _ ?_)
  refine At.blk_n ?_
  refine At.then_n ?_
  refine W.sub [(0, _), (3, _), (4, _)] ⟨rfl, rfl, rfl, trivial⟩ ?_
  refine W.reg [(0, false), (1, false), (2, false)] (by kernel_rfl) ?_
  intro K hK
  refine x_move rfl rfl rfl rfl ?_
  refine x_add _ rfl rfl rfl rfl rfl (wadd (by omega) (by omega)) ?_
  refine x_assign rfl rfl rfl rfl ?_
  refine Ex.done (hK _ _ ?_)
  exact At.back ((j + 1, v6, Lo2)) ⟨rfl, rfl, rfl, trivial⟩ ⟨by simp only; omega, how, by simpa using M⟩ (by first | omega | (simp only; omega) | (simp; done) | (simp; omega))
 ·try simp only [sA, sB, sC, sD, sE, sF, ne_eq, Bool.not_eq_eq_eq_not, Bool.not_true, Bool.not_false, sK, sL, Bool.not_not, gt_iff_lt, ge_iff_le] at hco1
  refine W.exit ?_
  refine At.then_x ?_
  refine At.loop_x ?_
  refine At.blk_x ?_
  refine At.then_n ?_
  refine W.seq ?_
  refine W.sub [(3, _)] ⟨rfl, trivial⟩ ?_
  refine W.reg [(0, false), (1, false)] (by kernel_rfl) ?_
  intro K hK
  refine x_move rfl rfl rfl rfl ?_
  refine x_assign rfl rfl rfl rfl ?_
  refine Ex.done (hK _ _ ?_)
  refine At.then_n ?_
  refine W.ret ?_
  refine At.ret1 (.tmp 2) rfl ⟨rfl, trivial⟩ ?_
  have hj2 : j = l.length := by omega
  subst hj2
  rw [List.take_length] at how
  exact ⟨Lo, by show OwL Lo _ 3 (l.map metaR).length _; rw [List.length_map]; exact how, M⟩
end Go.Proofs.YtigfbpbnohkokaaGreat

namespace Go.Proofs.YtigfbpbnohkokaaGreat
open Go Go.Fw Go.RowKit Go.Proofs
set_option linter.unusedVariables false
set_option linter.unusedSimpArgs false
theorem _root_.Go.Fw.Sg.capb {w : World} {a : Option Addr} {n cap m : Nat} {cs : List Value} (h : Sg w (.slice a n cap) m n cs) : n ≤ cap ∨ n = 0 := by
 rcases h with ⟨h1, _⟩ | ⟨h1, h2, _⟩ | ⟨b, off, cap', all, T, fr, h1, h2, _⟩
 ·exact .inr h1
 ·exact .inr h2
 ·cases h1; exact .inl h2

set_option maxRecDepth 100000 in
theorem block_c {w00 w0 : World} {bs i : Nat} {v : Value} {l : List Raw} {Lf X : List (Nat × Obj)} {nm b : List UInt8} (M : Sep w00 ((bs, .cells [v, .bool false].toArray 79 (0, 0)) :: (Lf ++ X)) w0) (h : FilesK w00 Lf v l) (hl : l.length ≤ 1000) (hd : ∀ x ∈ l, x.2.2.length ≤ 65536) (hb : baseL l nm = some b) (hi : 4096 * i < b.length) : Ret Tryz.prog 191 #[ptr bs, .agg #[strV nm, .int .i64 (i : Int)]] w0 fun r w' => ∃ Lr, BytesO Lr r ((b.drop (4096 * i)).take 4096) ∧ Sep w00 ((bs, .cells [v, .bool false].toArray 79 (0, 0)) :: (Lf ++ (X ++ Lr))) w' := by
 obtain ⟨pv, cv, rfl⟩ := (h.at_ M (fun y hy => by simp [hy])).shape
 refine Ret.of_W Tryz.func191 rfl Tryz.ntmps191 rfl ?_
 refine W.seq ?_
 refine W.sub [(0, _), (1, _)] ⟨rfl, rfl, trivial⟩ ?_
 refine W.reg [(0, true), (1, false)] (by kernel_rfl) ?_
 intro K hK
 refine x_box [_, _] rfl rfl rfl rfl rfl ?_
 intro bbx1 wbx1 hbbx1 hwbx1
 have M := M.acons hbbx1 hwbx1
 refine ⟨trivial, ?_⟩
 refine x_assign rfl rfl rfl rfl ?_
 refine Ex.done (hK _ _ ?_)
 refine At.then_n ?_
 refine W.seq ?_
 refine W.seq ?_
 refine W.sub [(0, _), (3, _)] ⟨rfl, rfl, trivial⟩ ?_
 refine W.reg [(0, false)] (by kernel_rfl) ?_
 intro K hK
 refine x_assign rfl rfl rfl rfl ?_
 refine Ex.done (hK _ _ ?_)
 refine At.then_n ?_
 refine W.block ?_
 refine W.loop (σ := Nat) (fun j => [(0, _), (3, _), (5, .int .i64 ((j : Nat) : Int))]) (fun j w => j ≤ l.length ∧ (∀ y ∈ l.take j, ¬ (y.1 = nm ∧ y.2.1 = false)) ∧ Sep w00 ((bbx1, .cells [strV nm, .int .i64 (i : Int)].toArray 187 (0, 0)) :: (bs, .cells [.slice pv l.length cv, .bool false].toArray 79 (0, 0)) :: (Lf ++ X)) w) (fun j => l.length - j) 0 ⟨rfl, rfl, rfl, trivial⟩ ⟨Nat.zero_le _, by simp, M⟩ ?_
 rintro j w ⟨hj, hno, M⟩
 refine W.seq ?_
 refine W.seq ?_
 refine W.sub [(0, _), (3, _), (5, _)] ⟨rfl, rfl, rfl, trivial⟩ ?_
 refine W.reg [(0, false), (1, false), (2, false), (3, false), (4, false), (5, false), (6, false)] (by kernel_rfl) ?_
 intro K hK
 refine x_move rfl rfl rfl rfl ?_
 refine x_move rfl rfl rfl rfl ?_
 refine x_nil rfl rfl rfl rfl rfl ?_
 refine x_fa rfl rfl rfl fo79_0 rfl ?_
 refine x_ld rfl rfl rfl Tryz.underlying24 rfl rfl (cell_of (by first | exact M.at_ 0 rfl | exact M.at_ 1 rfl | exact M.at_ 2 rfl | exact M.at_ 3 rfl | exact M.at_ 4 rfl | exact M.at_ 5 rfl | exact M.at_ 6 rfl | exact M.at_ 7 rfl) rfl) ?_
 refine x_len rfl rfl rfl rfl Tryz.underlying24 rfl ?_
 refine x_lss _ rfl rfl rfl rfl rfl rfl ?_
 refine Ex.done (hK _ _ ?_)
 refine At.then_n ?_
 refine W.cond rfl (fun hco1 => ?_) (fun hco1 => ?_)
 ·try simp only [sA, sB, sC, sD, sE, sF, ne_eq, Bool.not_eq_eq_eq_not, Bool.not_true, Bool.not_false, sK, sL, Bool.not_not, gt_iff_lt, ge_iff_le] at hco1
  obtain ⟨x, hx⟩ := get_lt (l := l) (q := j) (by omega)
  have hxl := List.mem_of_getElem? hx
  have hfa := h.at_ M (fun y hy => List.mem_cons_of_mem _ (List.mem_cons_of_mem _ (List.mem_append_left _ hy)))
  obtain ⟨bb, off, rfl, _⟩ := hfa.blk (j := j) (by omega)
  obtain ⟨pd, cd, hrow, hbx⟩ := hfa.row hx
  have hxd := hd x hxl
  refine W.skip ?_
  refine At.then_n ?_
  refine W.seq ?_
  refine W.block ?_
  refine W.seq ?_
  refine W.sub [(0, _), (3, _), (5, _)] ⟨rfl, rfl, rfl, trivial⟩ ?_
  refine W.reg [(0, false), (1, false), (2, false), (3, false), (4, false), (5, false), (6, false), (7, false), (8, false)] (by kernel_rfl) ?_
  intro K hK
  refine x_move rfl rfl rfl rfl ?_
  refine x_nil rfl rfl rfl rfl rfl ?_
  refine x_fa rfl rfl rfl fo79_0 rfl ?_
  refine x_ld rfl rfl rfl Tryz.underlying24 rfl rfl (cell_of (by first | exact M.at_ 0 rfl | exact M.at_ 1 rfl | exact M.at_ 2 rfl | exact M.at_ 3 rfl | exact M.at_ 4 rfl | exact M.at_ 5 rfl | exact M.at_ 6 rfl | exact M.at_ 7 rfl) rfl) ?_
  refine x_move rfl rfl rfl rfl ?_
  refine x_ia j rfl rfl rfl Tryz.underlying24 sz29 rfl rfl rfl (by omega) ?_
  refine x_fa rfl rfl rfl fo29_2 rfl ?_
  refine x_ld rfl rfl rfl Tryz.underlying27 rfl rfl (RowAt.cell hrow (j := 2) rfl) ?_
  refine x_assign rfl rfl rfl rfl ?_
  refine Ex.done (hK _ _ ?_)
  refine At.then_n ?_
  refine W.seq ?_
  refine W.sub [(0, _), (3, _), (5, _), (6, _)] ⟨rfl, rfl, rfl, rfl, trivial⟩ ?_
  refine W.regD (by kernel_rfl) #[0, 1, 3, 7, 0, 31, 63, 127, 0, 256, 1023, 2047, 4095, 8191, 16383, 32767, 4095, 131071, 262143, 524287, 1048575, 2097151, 4194303, 8388607, 16777215, 33554431, 67108863, 134217727, 268435455, 536870911, 268435455, 1342177279, 3489660927, 7784628223, 17179869183, 34359738367] [(0, false), (1, false), (2, false), (3, false), (4, false), (5, false), (6, false), (7, false), (8, false), (9, false), (10, false), (11, false), (12, false), (13, false), (14, false), (15, false), (16, false), (17, false), (18, false), (19, false), (20, false), (21, false), (22, false), (23, false), (24, false), (25, false), (26, false), (27, false), (28, false), (29, false), (30, false), (31, false), (32, false), (33, false), (34, false), (35, false)] (by kernel_rfl) ?_
  intro K wD1 hK hwD1
  have M := M.drew hwD1
  have hrow := RowAt.new hrow ((Frm.refl _ _).drew hwD1)
  have hbx := hbx.new ((Frm.refl None' _).drew hwD1)
  refine x_move rfl rfl rfl rfl ?_
  refine x_nil rfl rfl rfl rfl rfl ?_
  refine x_fa rfl rfl rfl fo79_0 rfl ?_
  refine x_ld rfl rfl rfl Tryz.underlying24 rfl rfl (cell_of (by first | exact M.at_ 0 rfl | exact M.at_ 1 rfl | exact M.at_ 2 rfl | exact M.at_ 3 rfl | exact M.at_ 4 rfl | exact M.at_ 5 rfl | exact M.at_ 6 rfl | exact M.at_ 7 rfl) rfl) ?_
  refine x_move rfl rfl rfl rfl ?_
  refine x_ia j rfl rfl rfl Tryz.underlying24 sz29 rfl rfl rfl (by omega) ?_
  refine x_fa rfl rfl rfl fo29_0 rfl ?_
  refine x_ld rfl rfl rfl Tryz.underlying9 rfl rfl (RowAt.cell hrow (j := 0) rfl) ?_
  refine x_fa rfl rfl rfl fo187_0 rfl ?_
  refine x_ld rfl rfl rfl Tryz.underlying9 rfl rfl (cell_of (by first | exact M.at_ 0 rfl | exact M.at_ 1 rfl | exact M.at_ 2 rfl | exact M.at_ 3 rfl | exact M.at_ 4 rfl | exact M.at_ 5 rfl | exact M.at_ 6 rfl | exact M.at_ 7 rfl) rfl) ?_
  refine x_eqS _ rfl rfl rfl rfl rfl rfl ?_
  refine x_move rfl rfl rfl rfl ?_
  refine Ex.split 35 rfl (fun hsp1 => ?_) (fun hsp1 => ?_)
  ·
   try simp only [sA, sB, sC, sD, sE, sF, ne_eq, Bool.not_eq_eq_eq_not, Bool.not_true, Bool.not_false, sK, sL, Bool.not_not, gt_iff_lt, ge_iff_le] at hsp1
   refine x_move rfl rfl rfl rfl ?_
   refine x_nil rfl rfl rfl rfl rfl ?_
   refine x_fa rfl rfl rfl fo79_0 rfl ?_
   refine x_ld rfl rfl rfl Tryz.underlying24 rfl rfl (cell_of (by first | exact M.at_ 0 rfl | exact M.at_ 1 rfl | exact M.at_ 2 rfl | exact M.at_ 3 rfl | exact M.at_ 4 rfl | exact M.at_ 5 rfl | exact M.at_ 6 rfl | exact M.at_ 7 rfl) rfl) ?_
   refine x_move rfl rfl rfl rfl ?_
   refine x_ia j rfl rfl rfl Tryz.underlying24 sz29 rfl rfl rfl (by omega) ?_
   refine x_fa rfl rfl rfl fo29_1 rfl ?_
   refine x_ld rfl rfl rfl Tryz.underlying4 rfl rfl (RowAt.cell hrow (j := 1) rfl) ?_
   refine x_not (!x.2.1) rfl rfl rfl rfl rfl ?_
   refine x_pickT rfl rfl rfl rfl rfl ?_
   refine x_move rfl rfl rfl rfl ?_
   refine Ex.split 46 rfl (fun hsp2 => ?_) (fun hsp2 => ?_)
   ·
    try simp only [sA, sB, sC, sD, sE, sF, ne_eq, Bool.not_eq_eq_eq_not, Bool.not_true, Bool.not_false, sK, sL, Bool.not_not, gt_iff_lt, ge_iff_le] at hsp2
    have hd0 : x.2.1 = false := by simpa using hsp2
    have hxb := baseL_at hb hx hno hsp1 hd0
    rw [← hxb] at hi
    have hq4 : (((x.2.2.length + 4095) / 4096 : Nat) : Int) > (i : Int) := by omega
    refine x_fa rfl rfl rfl fo187_1 rfl ?_
    refine x_ld rfl rfl rfl Tryz.underlying3 rfl rfl (cell_of (by first | exact M.at_ 0 rfl | exact M.at_ 1 rfl | exact M.at_ 2 rfl | exact M.at_ 3 rfl | exact M.at_ 4 rfl | exact M.at_ 5 rfl | exact M.at_ 6 rfl | exact M.at_ 7 rfl) rfl) ?_
    refine x_geq true rfl rfl rfl rfl rfl (decide_eq_true (by omega)) ?_
    refine x_pickT rfl rfl rfl rfl rfl ?_
    refine x_move rfl rfl rfl rfl ?_
    refine x_fa rfl rfl rfl fo187_1 rfl ?_
    refine x_ld rfl rfl rfl Tryz.underlying3 rfl rfl (cell_of (by first | exact M.at_ 0 rfl | exact M.at_ 1 rfl | exact M.at_ 2 rfl | exact M.at_ 3 rfl | exact M.at_ 4 rfl | exact M.at_ 5 rfl | exact M.at_ 6 rfl | exact M.at_ 7 rfl) rfl) ?_
    refine x_move rfl rfl rfl rfl ?_
    refine x_len rfl rfl rfl rfl Tryz.underlying27 rfl ?_
    refine x_add ((x.2.2.length + 4095 : Nat) : Int) rfl rfl rfl rfl rfl (by rw [wadd (by omega) (by omega)]; omega) ?_
    refine x_quo (((x.2.2.length + 4095) / 4096 : Nat) : Int) rfl rfl rfl rfl rfl (by decide) (quo4k (by omega)) ?_
    refine x_lss true rfl rfl rfl rfl rfl (decide_eq_true (by omega)) ?_
    refine x_pickT rfl rfl rfl rfl rfl ?_
    refine Ex.done (hK _ _ ?_)
    refine At.then_n ?_
    refine W.condT rfl ?_
    refine W.seq ?_
    refine W.sub [(3, _), (6, _)] ⟨rfl, rfl, trivial⟩ ?_
    refine W.reg [(0, true), (1, false), (2, false), (3, false), (4, false), (5, false), (6, false), (7, false), (8, false), (9, false), (10, false), (11, false), (12, false), (13, true), (14, false)] (by kernel_rfl) ?_
    intro K hK
    refine x_bs0 rfl rfl rfl Tryz.underlying27 sz5 ?_
    intro bb0 wb hbb hwb
    have M := M.acons hbb hwb
    have hbx := hbx.new ((Frm.refl None' _).alloc rfl hwb).frm
    refine ⟨trivial, ?_⟩
    refine x_move rfl rfl rfl rfl ?_
    refine x_fa rfl rfl rfl fo187_1 rfl ?_
    refine x_ld rfl rfl rfl Tryz.underlying3 rfl rfl (cell_of (by first | exact M.at_ 0 rfl | exact M.at_ 1 rfl | exact M.at_ 2 rfl | exact M.at_ 3 rfl | exact M.at_ 4 rfl | exact M.at_ 5 rfl | exact M.at_ 6 rfl | exact M.at_ 7 rfl) rfl) ?_
    refine x_mul ((4096 * i : Nat) : Int) rfl rfl rfl rfl rfl (by rw [wmul (by omega) (by omega)]; omega) ?_
    refine x_move rfl rfl rfl rfl ?_
    refine x_len rfl rfl rfl rfl Tryz.underlying27 rfl ?_
    refine x_fa rfl rfl rfl fo187_1 rfl ?_
    refine x_ld rfl rfl rfl Tryz.underlying3 rfl rfl (cell_of (by first | exact M.at_ 0 rfl | exact M.at_ 1 rfl | exact M.at_ 2 rfl | exact M.at_ 3 rfl | exact M.at_ 4 rfl | exact M.at_ 5 rfl | exact M.at_ 6 rfl | exact M.at_ 7 rfl) rfl) ?_
    refine x_mul ((4096 * i : Nat) : Int) rfl rfl rfl rfl rfl (by rw [wmul (by omega) (by omega)]; omega) ?_
    refine x_add ((4096 * i + 4096 : Nat) : Int) rfl rfl rfl rfl rfl (by rw [wadd (by omega) (by omega)]; omega) ?_
    refine x_min ((min x.2.2.length (4096 * i + 4096) : Nat) : Int) rfl rfl rfl rfl rfl (by split <;> omega) ?_
    refine x_sllh (4096 * i) (min x.2.2.length (4096 * i + 4096)) rfl rfl rfl Tryz.underlying27 sz5 rfl rfl rfl rfl rfl (by omega) (by have := hbx.capb; omega) ?_
    have hsb := bytes_sub hbx (lo := 4096 * i) (hi := min x.2.2.length (4096 * i + 4096)) (by omega) (by omega)
    have hsl : ((x.2.2.drop (4096 * i)).take (min x.2.2.length (4096 * i + 4096) - 4096 * i)).length ≤ 4096 := by rw [List.length_take]; omega
    refine x_apL (L := [_]) (cs := []) (nn := 0) rfl rfl rfl rfl Tryz.underlying27 sz5 ze5 rfl by5 rfl rfl (.inr ⟨bb0, 0, [], _, rfl, rfl, rfl, rfl⟩) M (by simp) (hsb.src Tryz.underlying27 (byteCs_one _)) (by omega) (by decide) (by omega) ?_
    intro Lo v6 w6 how M
    rw [Nat.zero_add, List.nil_append] at how
    refine ⟨trivial, ?_⟩
    refine x_assign rfl rfl rfl rfl ?_
    refine Ex.done (hK _ _ ?_)
    refine At.then_n ?_
    refine W.ret ?_
    refine At.blk_r ?_
    refine At.then_r ?_
    refine At.loop_r ?_
    refine At.blk_r ?_
    refine At.then_r ?_
    refine At.ret1 (.tmp 4) rfl ⟨rfl, trivial⟩ ?_
    have e : (x.2.2.drop (4096 * i)).take (min x.2.2.length (4096 * i + 4096) - 4096 * i) = (x.2.2.drop (4096 * i)).take 4096 := by
     rcases Nat.le_total x.2.2.length (4096 * i + 4096) with h | h
     ·rw [Nat.min_eq_left h, List.take_of_length_le (by rw [List.length_drop]; omega), List.take_of_length_le (by rw [List.length_drop]; omega)]
     ·rw [Nat.min_eq_right h]; congr 1; omega
    rw [e] at how
    rw [← hxb]
    exact ⟨Lo, how, (M.perm (L' := (bbx1, .cells [strV nm, .int .i64 (i : Int)].toArray 187 (0, 0)) :: ((bs, .cells [.slice (some ⟨bb, off, none⟩) l.length cv, .bool false].toArray 79 (0, 0)) :: (Lf ++ (X ++ Lo)))) (perm_c fun p => by simp only [List.countP_append, List.countP_cons, List.countP_nil]; omega)).tail⟩
   ·
    try simp only [sA, sB, sC, sD, sE, sF, ne_eq, Bool.not_eq_eq_eq_not, Bool.not_true, Bool.not_false, sK, sL, Bool.not_not, gt_iff_lt, ge_iff_le] at hsp2
    refine Ex.skip_ rfl rfl rfl ?_
    refine Ex.skip_ rfl rfl rfl ?_
    refine Ex.skip_ rfl rfl rfl ?_
    refine x_pickF rfl rfl rfl rfl rfl ?_
    refine x_move rfl rfl rfl rfl ?_
    refine Ex.skip_ rfl rfl rfl ?_
    refine Ex.skip_ rfl rfl rfl ?_
    refine Ex.skip_ rfl rfl rfl ?_
    refine Ex.skip_ rfl rfl rfl ?_
    refine Ex.skip_ rfl rfl rfl ?_
    refine Ex.skip_ rfl rfl rfl ?_
    refine Ex.skip_ rfl rfl rfl ?_
    refine x_pickF rfl rfl rfl rfl rfl ?_
    refine Ex.done (hK _ _ ?_)
    refine At.then_n ?_
    refine W.condF rfl ?_
    refine W.skip ?_
    refine At.blk_n ?_
    refine At.then_n ?_
    refine W.sub [(0, _), (3, _), (5, _)] ⟨rfl, rfl, rfl, trivial⟩ ?_
    refine W.reg [(0, false), (1, false), (2, false)] (by kernel_rfl) ?_
    intro K hK
    refine x_move rfl rfl rfl rfl ?_
    refine x_add _ rfl rfl rfl rfl rfl (wadd (by omega) (by omega)) ?_
    refine x_assign rfl rfl rfl rfl ?_
    refine Ex.done (hK _ _ ?_)
    exact At.back (j + 1) ⟨rfl, rfl, rfl, trivial⟩ ⟨by omega, mem_take_snoc hx hno (fun e => by rw [e.2] at hsp2; cases hsp2), M⟩ (by first | omega | (simp only; omega) | (simp; done) | (simp; omega))
  ·
   try simp only [sA, sB, sC, sD, sE, sF, ne_eq, Bool.not_eq_eq_eq_not, Bool.not_true, Bool.not_false, sK, sL, Bool.not_not, gt_iff_lt, ge_iff_le] at hsp1
   refine Ex.skip_ rfl rfl rfl ?_
   refine Ex.skip_ rfl rfl rfl ?_
   refine Ex.skip_ rfl rfl rfl ?_
   refine Ex.skip_ rfl rfl rfl ?_
   refine Ex.skip_ rfl rfl rfl ?_
   refine Ex.skip_ rfl rfl rfl ?_
   refine Ex.skip_ rfl rfl rfl ?_
   refine Ex.skip_ rfl rfl rfl ?_
   refine Ex.skip_ rfl rfl rfl ?_
   refine x_pickF rfl rfl rfl rfl rfl ?_
   refine x_move rfl rfl rfl rfl ?_
   refine Ex.skip_ rfl rfl rfl ?_
   refine Ex.skip_ rfl rfl rfl ?_
   refine Ex.skip_ rfl rfl rfl ?_
   refine x_pickF rfl rfl rfl rfl rfl ?_
   refine x_move rfl rfl rfl rfl ?_
   refine Ex.skip_ rfl rfl rfl ?_
   refine Ex.skip_ rfl rfl rfl ?_
   refine Ex.skip_ rfl rfl rfl ?_
   refine Ex.skip_ rfl rfl rfl ?_
   refine Ex.skip_ rfl rfl rfl ?_
   refine Ex.skip_ rfl rfl rfl ?_
   refine Ex.skip_ rfl rfl rfl ?_
   refine x_pickF rfl rfl rfl rfl rfl ?_
   refine Ex.done (hK _ _ ?_)
   refine At.then_n ?_
   refine W.condF rfl ?_
   refine W.skip ?_
   refine At.blk_n ?_
   refine At.then_n ?_
   refine W.sub [(0, _), (3, _), (5, _)] ⟨rfl, rfl, rfl, trivial⟩ ?_
   refine W.reg [(0, false), (1, false), (2, false)] (by kernel_rfl) ?_
   intro K hK
   refine x_move rfl rfl rfl rfl ?_
   refine x_add _ rfl rfl rfl rfl rfl (wadd (by omega) (by omega)) ?_
   refine x_assign rfl rfl rfl rfl ?_
   refine Ex.done (hK _ _ ?_)
   exact At.back (j + 1) ⟨rfl, rfl, rfl, trivial⟩ ⟨by omega, mem_take_snoc hx hno (fun e => hsp1 e.1), M⟩ (by first | omega | (simp only; omega) | (simp; done) | (simp; omega))
 ·try simp only [sA, sB, sC, sD, sE, sF, ne_eq, Bool.not_eq_eq_eq_not, Bool.not_true, Bool.not_false, sK, sL, Bool.not_not, gt_iff_lt, ge_iff_le] at hco1
  have hj2 : j = l.length := by omega
  subst hj2
  rw [List.take_length] at hno
  refine W.exit ?_
  refine At.then_x ?_
  refine At.loop_x ?_
  refine At.blk_x ?_
  refine At.then_n ?_
  refine W.seq ?_
  refine W.sub [(0, _)] ⟨rfl, trivial⟩ ?_
  refine W.reg [(0, false), (1, false), (2, false), (3, true)] (by kernel_rfl) ?_
  intro K hK
  refine x_move rfl rfl rfl rfl ?_
  refine x_nil rfl rfl rfl rfl rfl ?_
  refine x_fa rfl rfl rfl fo79_1 rfl ?_
  refine x_st [_] _ rfl rfl rfl sz4 rfl rfl rfl rfl (by first | exact M.at_ 0 rfl | exact M.at_ 1 rfl | exact M.at_ 2 rfl | exact M.at_ 3 rfl | exact M.at_ 4 rfl | exact M.at_ 5 rfl | exact M.at_ 6 rfl | exact M.at_ 7 rfl) rfl rfl rfl ?_
  intro wst1 hwst1
  have M := by first | exact M.put 0 rfl hwst1 | exact M.put 1 rfl hwst1 | exact M.put 2 rfl hwst1 | exact M.put 3 rfl hwst1 | exact M.put 4 rfl hwst1 | exact M.put 5 rfl hwst1 | exact M.put 6 rfl hwst1 | exact M.put 7 rfl hwst1
  refine ⟨trivial, ?_⟩
  refine Ex.done (hK _ _ ?_)
  refine At.then_n ?_
  refine W.seq ?_
  refine W.sub [] trivial ?_
  refine W.reg [(0, false)] (by kernel_rfl) ?_
  intro K hK
  refine x_assign rfl rfl rfl rfl ?_
  refine Ex.done (hK _ _ ?_)
  refine At.then_n ?_
  refine W.ret ?_
  refine At.ret1 (.tmp 4) rfl ⟨rfl, trivial⟩ ?_
  exact (baseL_some hb hno).elim
end Go.Proofs.YtigfbpbnohkokaaGreat

namespace Go.Proofs.YtigfbpbnohkokaaGreat
open Go Go.Fw Go.RowKit Go.Proofs
set_option linter.unusedVariables false
set_option linter.unusedSimpArgs false
noncomputable def madeE (l : List Raw) : Int := if (l.map metaR).any badM = true then 2 else (newS l).2
theorem names_of {l : List Raw} (h0 : (newS l).2 = 0) : (l.map (·.1)).Nodup := by
 have hb : OKd (bareL l) := fun x hx => by
  obtain ⟨y, _, rfl⟩ := List.mem_map.1 hx
  exact ⟨by simp [bareR], fun _ => rfl⟩
 have h2 : (ofL (bareL l)).2 = 0 := by
  unfold newS at h0
  split at h0
  ·cases h0
  ·split at h0
   ·rename_i h; exact absurd h0 h
   ·rename_i h; exact Classical.not_not.1 h
 have := (of_facts h2 hb).1
 rwa [bare_names'] at this
theorem made_ok {l : List Raw} (h : madeE l = 0) : OKd l ∧ (newS l).2 = 0 := by
 unfold madeE at h
 split at h
 ·cases h
 ·rename_i hb
  refine ⟨okd_of (by simpa using hb) ?_, h⟩
  cases hg : l.any (fun x => decide (65536 < x.2.2.length)) with
  | false => rfl
  | true => rw [newS_3 hg] at h; cases h
theorem made_post {l : List Raw} {base : BaseF} {bv r : Value} {w w' : World} (h : ((l.map metaR).any badM = true ∧ r = .tuple #[.pointer none, .int .i64 2] ∧ New w w') ∨ ((l.map metaR).any badM = false ∧ (newS l).2 ≠ 0 ∧ r = .tuple #[.pointer none, .int .i64 (newS l).2] ∧ New w w') ∨ ((l.map metaR).any badM = false ∧ (newS l).2 = 0 ∧ ∃ bf S, r = .tuple #[ptr bf, .int .i64 0] ∧ FR base S (newS l).1 (fun _ _ => none) ∧ Sep w (fsB bf bv (usedL (newS l).1) S) w')) :
  ∃ po, r = .tuple #[.pointer po, .int .i64 (madeE l)] ∧ (madeE l ≠ 0 → po = none ∧ New w w') ∧ (madeE l = 0 → ∃ bf S, po = some ⟨bf, 0, none⟩ ∧ FR base S (newS l).1 (fun _ _ => none) ∧ Sep w (fsB bf bv (usedL (newS l).1) S) w') := by
 rcases h with ⟨h1, rfl, hn⟩ | ⟨h1, h2, rfl, hn⟩ | ⟨h1, h2, bf, S, rfl, hF, M⟩
 ·have e : madeE l = 2 := by unfold madeE; rw [if_pos h1]
  exact ⟨none, by rw [e], fun _ => ⟨rfl, hn⟩, fun h => by rw [e] at h; cases h⟩
 ·have e : madeE l = (newS l).2 := by unfold madeE; rw [if_neg (by rw [h1]; simp)]
  exact ⟨none, by rw [e], fun _ => ⟨rfl, hn⟩, fun h => absurd (e ▸ h) h2⟩
 ·have e : madeE l = 0 := by unfold madeE; rw [if_neg (by rw [h1]; simp), h2]
  exact ⟨some ⟨bf, 0, none⟩, by rw [e], fun h => absurd e h, fun _ => ⟨bf, S, rfl, hF, M⟩⟩

set_option maxRecDepth 100000 in
theorem made19_c {w00 w0 : World} {v : Value} {l : List Raw} {Lf L : List (Nat × Obj)} (M : Sep w00 (Lf ++ L) w0) (h : FilesK w00 Lf v l) (hl : l.length ≤ 1000) : Ret Tryz.prog 15 #[v] w0 fun r w' => ∃ po bs, r = .tuple #[.pointer po, ptr bs, .int .i64 (madeE l)] ∧ (madeE l ≠ 0 → po = none ∧ Sep w00 ((bs, .cells [v, .bool false].toArray 79 (0, 0)) :: (Lf ++ L)) w') ∧
  (madeE l = 0 → ∃ bf bv S, po = some ⟨bf, 0, none⟩ ∧ FR (baseL l) S (newS l).1 (fun _ _ => none) ∧ BaseC w00 ((bs, .cells [v, .bool false].toArray 79 (0, 0)) :: Lf) bv (baseL l) ∧ Sep w00 (fsB bf bv (usedL (newS l).1) S ++ (((bs, .cells [v, .bool false].toArray 79 (0, 0)) :: Lf) ++ L)) w') := by
 obtain ⟨pv, cv, rfl⟩ := (h.at_ M (fun y hy => by simp [hy])).shape
 refine Ret.of_W Tryz.func15 rfl Tryz.ntmps15 rfl ?_
 refine W.seq ?_
 refine W.sub [(0, _)] ⟨rfl, trivial⟩ ?_
 refine W.reg [(0, false), (1, false), (2, false)] (by kernel_rfl) ?_
 intro K hK
 refine x_assign rfl rfl rfl rfl ?_
 refine x_assign rfl rfl rfl rfl ?_
 refine x_assign rfl rfl rfl rfl ?_
 refine Ex.done (hK _ _ ?_)
 refine At.then_n ?_
 refine W.seq ?_
 refine W.sub [(0, _)] ⟨rfl, trivial⟩ ?_
 refine W.reg [(0, false), (1, false), (2, true), (3, false)] (by kernel_rfl) ?_
 intro K hK
 refine x_move rfl rfl rfl rfl ?_
 refine x_build [_, _] rfl rfl rfl pl79 ze79 rfl rfl rfl ?_
 refine x_box [_, _] rfl rfl rfl rfl rfl ?_
 intro bbx1 wbx1 hbbx1 hwbx1
 have M := M.acons hbbx1 hwbx1
 refine ⟨trivial, ?_⟩
 refine x_assign rfl rfl rfl rfl ?_
 refine Ex.done (hK _ _ ?_)
 refine At.then_n ?_
 refine W.seq ?_
 refine W.sub [(0, _), (5, _)] ⟨rfl, rfl, trivial⟩ ?_
 refine W.reg [(0, false), (1, true), (2, false), (3, false), (4, true), (5, false), (6, false), (7, false), (8, false), (9, false)] (by kernel_rfl) ?_
 intro K hK
 refine x_move rfl rfl rfl rfl ?_
 refine x_call rfl rfl rfl rfl rfl en39 (metas_c (h.at_ M (fun y hy => List.mem_cons_of_mem _ (List.mem_append_left _ hy))) hl) ?_
 rintro r_ w1 ⟨L1, hm1, M1⟩
 have M := M.grow M1
 obtain ⟨p1, c1, rfl⟩ := hm1.shape
 refine ⟨trivial, ?_⟩
 refine x_move rfl rfl rfl rfl ?_
 refine x_mkif rfl rfl rfl rfl Tryz.underlying44 (by intro ms e; cases e) ?_
 refine x_call rfl rfl rfl rfl rfl en13 (onew_c (l := l) (base := baseL l) (metasO_at hm1 (fun y hy => M.get (List.mem_append_right _ hy))) (by simpa using hl) rfl (fun _ => rfl) (fun h0 x hx hd => baseL_of (names_of h0) hx hd)) ?_
 rintro r_ w2 hpost
 obtain ⟨po, rfl, hp1, hp2⟩ := made_post hpost
 refine ⟨trivial, ?_⟩
 refine x_move rfl rfl rfl rfl ?_
 refine x_ext rfl rfl rfl rfl rfl ?_
 refine x_ext rfl rfl rfl rfl rfl ?_
 refine x_assign rfl rfl rfl rfl ?_
 refine x_assign rfl rfl rfl rfl ?_
 refine Ex.done (hK _ _ ?_)
 refine At.then_n ?_
 refine W.seq ?_
 refine W.sub [(5, _), (6, _), (7, _)] ⟨rfl, rfl, rfl, trivial⟩ ?_
 refine W.reg [(0, false), (1, false), (2, false), (3, false), (4, false), (5, false)] (by kernel_rfl) ?_
 intro K hK
 refine x_move rfl rfl rfl rfl ?_
 refine x_move rfl rfl rfl rfl ?_
 refine x_move rfl rfl rfl rfl ?_
 refine x_assign rfl rfl rfl rfl ?_
 refine x_assign rfl rfl rfl rfl ?_
 refine x_assign rfl rfl rfl rfl ?_
 refine Ex.done (hK _ _ ?_)
 refine At.then_n ?_
 refine W.ret ?_
 refine At.ret3 (.tmp 2) (.tmp 3) (.tmp 4) rfl ⟨rfl, rfl, rfl, trivial⟩ ?_
 refine ⟨po, bbx1, rfl, fun hne => ?_, fun h0 => ?_⟩
 ·obtain ⟨h1, hn⟩ := hp1 hne
  exact ⟨h1, (M.new hn).dropR⟩
 ·obtain ⟨bf, S, h1, hF, M2⟩ := hp2 h0
  obtain ⟨hokd, hn0⟩ := made_ok h0
  refine ⟨bf, .iface 44 (ptr bbx1), S, h1, hF, ⟨_, ptr bbx1, _, rfl, (by kernel_rfl : methOK Tryz.prog 44 "Block" 191 = true), en191, fun nm b i X w hb hi MX => ?_⟩, ?_⟩
  ·exact block_c MX h hl (fun x hx => (hokd x hx).1) hb hi
  ·have M : Sep w00 (((bbx1, .cells [.slice pv l.length cv, .bool false].toArray 79 (0, 0)) :: (Lf ++ L)) ++ L1) w1 := M
   have M2 : Sep w1 (fsB bf (.iface 44 (ptr bbx1)) (usedL (newS l).1) S) w2 := M2
   exact St.dropL (L' := L1) ((M.grow' M2).perm (perm_c fun p => by simp only [List.countP_append, List.countP_cons]; omega))
end Go.Proofs.YtigfbpbnohkokaaGreat

namespace Go.Proofs.YtigfbpbnohkokaaGreat
open Go Go.Fw Go.RowKit
set_option linter.unusedVariables false
set_option linter.unusedSimpArgs false

/-- Who asks for what. -/
structure Ask where
 who : Int
 o : OpS
def askC (a : Ask × Value) : List Value := .int .i64 a.1.who :: opC a.1.o a.2
def AsksAt (w : World) (v : Value) (l : List Ask) : Prop := ∃ ac : List (Ask × Value), ac.map (·.1) = l ∧ Sg w v 10 ac.length (ac.flatMap askC) ∧ ∀ f ∈ ac, BytesAt w f.2 f.1.o.d
section
variable {w w1 : World} {p : Option Addr} {v : Value} {l : List Ask} {a : Ask} {b off len cap j : Nat}
theorem AsksAt.new (h : AsksAt w v l) (hn : New w w1) : AsksAt w1 v l := let ⟨ac, h1, h2, h3⟩ := h; ⟨ac, h1, h2.new hn, fun f hf => (h3 f hf).new hn⟩
theorem AsksAt.shape (h : AsksAt w v l) : ∃ p cap, v = .slice p l.length cap := by
 obtain ⟨ac, h1, h2, _⟩ := h
 have : ac.length = l.length := by rw [← h1]; simp
 rw [← this]; exact h2.shape
theorem AsksAt.blk (h : AsksAt w (.slice p len cap) l) (hj : j < l.length) : ∃ b off, p = some ⟨b, off, none⟩ ∧ len = l.length := by
 obtain ⟨ac, h1, h2, _⟩ := h
 have : ac.length = l.length := by rw [← h1]; simp
 rw [← this]; exact h2.blk (j := j) (by omega)
theorem AsksAt.row (h : AsksAt w (.slice (some ⟨b, off, none⟩) len cap) l) (hx : l[j]? = some a) : ∃ p c, RowAt w b (off + j * 10) (.int .i64 a.who :: opC a.o (.slice p a.o.d.length c)) ∧ BytesAt w (.slice p a.o.d.length c) a.o.d := by
 obtain ⟨ac, h1, h2, h3⟩ := h
 have hj : j < l.length := (List.getElem?_eq_some_iff.1 hx).1
 have hlen : ac.length = l.length := by rw [← h1]; simp
 obtain ⟨f, hf⟩ := get_lt (l := ac) (q := j) (by omega)
 have hfx : f.1 = a := by
  rw [← h1, List.getElem?_map, hf] at hx
  simpa using hx
 subst hfx
 have h4 := h3 f (List.mem_of_getElem? hf)
 obtain ⟨p, c, h5⟩ := h4.shape
 have hsl := h2.sl (by omega)
 obtain ⟨b', off', h6, h7⟩ := h2.blk (j := j) (by omega)
 cases h6; subst h7
 refine ⟨p, c, ?_, h5 ▸ h4⟩
 rw [← h5]
 have hfd : ((ac.flatMap askC).drop (j * 10)).take (askC f).length = askC f := flat_drop (m := 10) (by decide) (fun _ _ => rfl) hf
 exact hsl.row (j := j) (l := askC f) rfl hfd (by simp [askC])
end
end Go.Proofs.YtigfbpbnohkokaaGreat

namespace Go.Proofs.YtigfbpbnohkokaaGreat
open Go Go.Fw Go.RowKit Go.Proofs
set_option linter.unusedVariables false
set_option linter.unusedSimpArgs false

end Go.Proofs.YtigfbpbnohkokaaGreat

namespace Go.Proofs.YtigfbpbnohkokaaGreat
open Go Go.Fw Go.RowKit
set_option linter.unusedVariables false
set_option linter.unusedSimpArgs false

end Go.Proofs.YtigfbpbnohkokaaGreat

namespace Go.Proofs.YtigfbpbnohkokaaGreat
open Go Go.Fw Go.RowKit Go.Proofs
set_option linter.unusedVariables false
set_option linter.unusedSimpArgs false

end Go.Proofs.YtigfbpbnohkokaaGreat

namespace Go.Proofs.YtigfbpbnohkokaaGreat
open Go Go.Fw Go.RowKit Go.Proofs
set_option linter.unusedVariables false
set_option linter.unusedSimpArgs false

end Go.Proofs.YtigfbpbnohkokaaGreat

namespace Go.Proofs.YtigfbpbnohkokaaGreat
open Go Go.Fw Go.RowKit
set_option linter.unusedVariables false
set_option linter.unusedSimpArgs false

def lz : List Raw := [([122], false, [98, 97, 115, 101])]
def lo1 : OpS := ⟨1, [97], [], 0, 0, 0, true, true, []⟩
def lo2 : OpS := ⟨3, [], [], 1, 2, 0, false, false, [120, 121]⟩
def lo3 : OpS := ⟨8, [47, 97], [98], 0, 0, 0, false, false, []⟩
def lo4 : OpS := ⟨2, [], [], 1, 0, 9, false, false, []⟩
def lo5 : OpS := ⟨7, [98], [], 0, 0, 0, false, false, []⟩
def lo6 : OpS := ⟨5, [], [], 1, 0, 0, false, false, []⟩
def lv1 : St3 := doS lz (fun _ _ => none) 0 lo1
def lv2 : St3 := doS lv1.2.1 lv1.2.2 0 lo2
def lv3 : St3 := doS lv2.2.1 lv2.2.2 0 lo3
def lv4 : St3 := doS lv3.2.1 lv3.2.2 0 lo4
def lv5 : St3 := doS lv4.2.1 lv4.2.2 0 lo5
def lv6 : St3 := doS lv5.2.1 lv5.2.2 0 lo6
def lv7 : St3 := doS lv6.2.1 lv6.2.2 0 lo5
theorem lv_says : lv1.1.h = 1 ∧ lv2.1.n = 2 ∧ lv3.1.e = 0 ∧ lv4.1.d = [0, 0, 120, 121] ∧ lv5.1.e = 18 ∧ lv6.1.e = 0 ∧ lv7.1.e = 0 ∧ lv7.2.1 = lz := by decide +kernel
theorem of_lz : ofL (bareL lz) = (bareL lz, 0) := (ofL_ok (firstR_zero.1 (by decide +kernel)) (together_one _)).trans (by decide +kernel)
theorem of_lz2 : ofL lz = (lz, 0) := (ofL_ok (firstR_zero.1 (by decide +kernel)) (together_one _)).trans (by decide +kernel)
theorem new_lz : newS lz = (lz, 0) := by rw [newS_0 (by decide +kernel) (by rw [of_lz]) (by decide +kernel), of_lz2]
end Go.Proofs.YtigfbpbnohkokaaGreat

namespace Go.Proofs.YtigfbpbnohkokaaGreat
open Go Go.Fw Go.RowKit Go.Proofs
set_option linter.unusedVariables false
set_option linter.unusedSimpArgs false


theorem do_x {w00 w0 : World} {bf : Nat} {bv dv : Value} {S : FSt} {base : BaseF} {X Lb L : List (Nat × Obj)} {l : List Raw} {hf : HF} {who : Int} {o : OpS} (M : Sep w00 (X ++ (fsB bf bv (usedL l) S ++ (Lb ++ L))) w0) (hR : FR base S l hf) (hB : BaseC w00 Lb bv base) (hdv : ∀ w Y, Sep w00 Y w → (∀ y ∈ X, y ∈ Y) → (∀ y ∈ L, y ∈ Y) → BytesAt w dv o.d) :
  Ret Tryz.prog 16 #[ptr bf, .int .i64 who, .agg (opC o dv).toArray] w0 fun r w' => ∃ S' p1 c1 p2 c2 n2 L1 L2, r = rsV (doS l hf who o).1 (.slice p1 (doS l hf who o).1.d.length c1) (.slice p2 n2 c2) ∧ BytesO L1 (.slice p1 (doS l hf who o).1.d.length c1) (doS l hf who o).1.d ∧ StrsO L2 (.slice p2 n2 c2) (doS l hf who o).1.l ∧ FR base S' (doS l hf who o).2.1 (doS l hf who o).2.2 ∧ Sep w00 (X ++ (fsB bf bv (usedL (doS l hf who o).2.1) S' ++ (Lb ++ (L ++ (L1 ++ L2))))) w' :=
 (do_c (St.fsi M) hR hB (fun w Y hY hs => hdv w Y hY (fun y hy => hs y (List.mem_append_left _ hy)) (fun y hy => hs y (List.mem_append_right _ hy)))).mono fun r w' ⟨S', Lr, ⟨dv', lv', L1, L2, h1, h2, h3, h4⟩, hR', M⟩ => by
  subst h2
  obtain ⟨p1, c1, rfl⟩ := h3.shape
  obtain ⟨p2, c2, rfl, _⟩ := h4.shape2 (by decide)
  exact ⟨S', p1, c1, p2, c2, _, L1, L2, h1, h3, h4, hR', St.fso M⟩



theorem files_x {w00 w0 : World} {bf : Nat} {bv : Value} {S : FSt} {base : BaseF} {X Lb L : List (Nat × Obj)} {l : List Raw} {hf : HF} (M : Sep w00 (X ++ (fsB bf bv (usedL l) S ++ (Lb ++ L))) w0) (hR : FR base S l hf) (hB : BaseC w00 Lb bv base) :
  Ret Tryz.prog 17 #[ptr bf] w0 fun r w' => ∃ p c Lr, r = .slice p l.length c ∧ FilesO Lr (.slice p l.length c) l ∧ Sep w00 (X ++ (fsB bf bv (usedL l) S ++ (Lb ++ (L ++ Lr)))) w' :=
 (files19_c (St.fsi M) hR hB).mono fun r w' ⟨Lr, h1, M⟩ => by
  obtain ⟨p, c, rfl⟩ := (filesO_get h1 (fun y hy => M.get (by simp [hy]))).shape
  exact ⟨p, c, Lr, rfl, h1, St.fso M⟩

end Go.Proofs.YtigfbpbnohkokaaGreat

namespace Go.Proofs.YtigfbpbnohkokaaGreat
open Go Go.Fw Go.RowKit Go.Proofs
set_option linter.unusedVariables false
set_option linter.unusedSimpArgs false

set_option maxRecDepth 100000 in
theorem lives19_c {w0 : World}   : Ret Tryz.prog 11 #[] w0 fun r w' => r = .bool true ∧ New w0 w' := by
 have M : Sep w0 [] w0 := St.nil w0
 refine Ret.of_W Tryz.func11 rfl Tryz.ntmps11 rfl ?_
 refine W.seq ?_
 refine W.sub [] trivial ?_
 refine W.reg [(0, false)] (by kernel_rfl) ?_
 intro K hK
 refine x_assign rfl rfl rfl rfl ?_
 refine Ex.done (hK _ _ ?_)
 refine At.then_n ?_
 refine W.seq ?_
 refine W.sub [] trivial ?_
 refine W.reg [(0, true), (1, true), (2, false), (3, true), (4, true), (5, false), (6, false), (7, false), (8, false), (9, false), (10, false), (11, false)] (by kernel_rfl) ?_
 intro K hK
 refine x_bsN (byteCs [98, 97, 115, 101]) rfl rfl rfl Tryz.underlying27 sz5 ze5 (Z := [_]) rfl rfl (by decide) (by decide) rfl (by kernel_rfl) ?_
 intro bz wz hbz hwz
 have M := M.acons hbz hwz
 refine ⟨trivial, ?_⟩
 refine x_cvsl rfl rfl rfl rfl Tryz.underlying27 Tryz.underlying5 rfl (M.at_ 0 rfl) ?_
 intro wcv1 hwcv1
 have M := M.put 0 rfl hwcv1
 refine ⟨trivial, ?_⟩
 refine x_build [_, _, _] rfl rfl rfl pl29 ze29 rfl rfl rfl ?_
 refine x_bs1 (cs := [strV [122], .bool false, .slice (some ⟨bz, 0, none⟩) 4 4]) rfl rfl rfl Tryz.underlying24 sz29 ze29 (Z := [_, _, _]) rfl rfl (by decide) (by decide) rfl rfl rfl ?_
 intro bf0 wbs2 hbf0 hwbs2
 have M := M.acons hbf0 hwbs2
 have M : Sep w0 [(bf0, .cells [strV [122], .bool false, .slice (some ⟨bz, 0, none⟩) 4 4].toArray 29 (0, 0)), (bz, .cells (byteCs [98, 97, 115, 101]).toArray 5 (4, 5))] wbs2 := M
 have hFz : FilesK w0 [(bf0, .cells [strV [122], .bool false, .slice (some ⟨bz, 0, none⟩) 4 4].toArray 29 (0, 0)), (bz, .cells (byteCs [98, 97, 115, 101]).toArray 5 (4, 5))] (.slice (some ⟨bf0, 0, none⟩) 1 1) lz := ⟨[(([122], false, [98, 97, 115, 101]), .slice (some ⟨bz, 0, none⟩) 4 4)], rfl, SgK.slL (.inr ⟨bf0, 0, 1, _, _, _, rfl, Nat.le_refl _, List.mem_cons_self, rfl, rfl⟩) (fun _ h => h), fun f hf => by rw [List.mem_singleton.1 hf]; exact ⟨SgK.lit (List.mem_cons_of_mem _ List.mem_cons_self) rfl, rfl⟩⟩
 refine ⟨trivial, ?_⟩
 refine x_call rfl rfl rfl rfl rfl en15 (made19_c (w00 := w0) (L := []) (Lf := [_, _]) (l := lz) (by rw [List.append_nil]; exact M) hFz (by decide)) ?_
 rintro r_ w1 ⟨po, bs, rfl, hbad, hgood⟩
 have hz0 : madeE lz = 0 := by unfold madeE; rw [if_neg (by decide), new_lz]
 obtain ⟨bf, bv, S0, rfl, hR0, hB, M⟩ := hgood hz0
 rw [new_lz] at hR0 M
 rw [hz0]
 have hR0 : FR (baseL lz) S0 lz (fun _ _ => none) := hR0
 obtain ⟨Lb, hLb⟩ : ∃ Lb : List (Nat × Obj), Lb = ((bs, .cells [.slice (some ⟨bf0, 0, none⟩) 1 1, .bool false].toArray 79 (0, 0)) :: [(bf0, .cells [strV [122], .bool false, .slice (some ⟨bz, 0, none⟩) 4 4].toArray 29 (0, 0)), (bz, .cells (byteCs [98, 97, 115, 101]).toArray 5 (4, 5))]) := ⟨_, rfl⟩
 have hsh : ((bs, .cells [.slice (some ⟨bf0, 0, none⟩) 1 1, .bool false].toArray 79 (0, 0)) : Nat × Obj) ∈ Lb := by rw [hLb]; exact List.mem_cons_self
 have hB : BaseC w0 Lb bv (baseL lz) := by rw [hLb]; exact hB
 have M : Sep w0 ([] ++ (fsB bf bv (usedL lz) S0 ++ (Lb ++ []))) w1 := by rw [hLb]; exact M
 refine ⟨trivial, ?_⟩
 refine x_move rfl rfl rfl rfl ?_
 refine x_ext rfl rfl rfl rfl rfl ?_
 refine x_ext rfl rfl rfl rfl rfl ?_
 refine x_ext rfl rfl rfl rfl rfl ?_
 refine x_assign rfl rfl rfl rfl ?_
 refine x_assign rfl rfl rfl rfl ?_
 refine x_assign rfl rfl rfl rfl ?_
 refine Ex.done (hK _ _ ?_)
 refine At.then_n ?_
 refine W.seq ?_
 refine W.seq ?_
 refine W.sub [(1, _), (2, _), (3, _)] ⟨rfl, rfl, rfl, trivial⟩ ?_
 refine W.reg [(0, false), (1, false), (2, false), (3, false), (4, false), (5, false)] (by kernel_rfl) ?_
 intro K hK
 refine x_move rfl rfl rfl rfl ?_
 refine x_eqpn false rfl rfl rfl Tryz.underlying34 rfl rfl rfl ?_
 refine x_move rfl rfl rfl rfl ?_
 refine x_move rfl rfl rfl rfl ?_
 refine x_nei false rfl rfl rfl rfl rfl rfl ?_
 refine x_pickF rfl rfl rfl rfl rfl ?_
 refine Ex.done (hK _ _ ?_)
 refine At.then_n ?_
 refine W.condF rfl ?_
 refine W.skip ?_
 refine At.then_n ?_
 refine W.seq ?_
 refine W.sub [(1, _), (2, _)] ⟨rfl, rfl, trivial⟩ ?_
 refine W.reg [(0, false), (1, false), (2, true), (3, true), (4, true)] (by kernel_rfl) ?_
 intro K hK
 refine x_move rfl rfl rfl rfl ?_
 refine x_build [_, _, _, _, _, _, _, _, _] rfl rfl rfl pl52 ze52 rfl rfl rfl ?_
 refine x_call rfl rfl rfl rfl rfl en16 (do_x (X := []) (l := lz) (hf := fun _ _ => none) (who := 0) (o := lo1) (dv := (.slice none 0 0)) M hR0 hB (fun _ _ _ _ _ => .inr (.inl ⟨rfl, rfl, rfl⟩))) ?_
 rintro r_ wr1 ⟨S1, p1, c1, q1, d1, n1, La1, Lb1, rfl, hb1, hs1, hR1, M⟩
 have hR1 : FR (baseL lz) S1 lv1.2.1 lv1.2.2 := hR1
 refine ⟨trivial, ?_⟩
 refine x_alloc [_, _, _, _, _] rfl rfl rfl ze49 rfl ?_
 intro bal1 wal1 hbal1 hwal1
 have M := M.acons hbal1 hwal1
 refine ⟨trivial, ?_⟩
 refine x_st [_, _, _, _, _] _ rfl rfl rfl sz49 rfl rfl rfl rfl (by first | exact M.at_ 0 rfl | exact M.at_ 1 rfl | exact M.at_ 2 rfl | exact M.at_ 3 rfl | exact M.at_ 4 rfl | exact M.at_ 5 rfl | exact M.at_ 6 rfl | exact M.at_ 7 rfl | exact M.at_ 8 rfl | exact M.at_ 9 rfl | exact M.at_ 10 rfl | exact M.at_ 11 rfl | exact M.at_ 12 rfl | exact M.at_ 13 rfl) rfl rfl rfl ?_
 intro wst1 hwst1
 have M := by first | exact M.put 0 rfl hwst1 | exact M.put 1 rfl hwst1 | exact M.put 2 rfl hwst1 | exact M.put 3 rfl hwst1 | exact M.put 4 rfl hwst1 | exact M.put 5 rfl hwst1 | exact M.put 6 rfl hwst1 | exact M.put 7 rfl hwst1 | exact M.put 8 rfl hwst1 | exact M.put 9 rfl hwst1 | exact M.put 10 rfl hwst1 | exact M.put 11 rfl hwst1 | exact M.put 12 rfl hwst1 | exact M.put 13 rfl hwst1
 refine ⟨trivial, ?_⟩
 refine Ex.done (hK _ _ ?_)
 refine At.then_n ?_
 refine W.seq ?_
 refine W.sub [(1, _), (2, _), (4, _)] ⟨rfl, rfl, rfl, trivial⟩ ?_
 refine W.reg [(0, false), (1, true), (2, true), (3, false), (4, true), (5, true), (6, true)] (by kernel_rfl) ?_
 intro K hK
 refine x_move rfl rfl rfl rfl ?_
 refine x_bsN (byteCs [120, 121]) rfl rfl rfl Tryz.underlying27 sz5 ze5 (Z := [_]) rfl rfl (by decide) (by decide) rfl (by kernel_rfl) ?_
 intro bxy wxy hbxy hwxy
 have M := M.acons hbxy hwxy
 refine ⟨trivial, ?_⟩
 refine x_cvsl rfl rfl rfl rfl Tryz.underlying27 Tryz.underlying5 rfl (M.at_ 0 rfl) ?_
 intro wcv2 hwcv2
 have M := M.put 0 rfl hwcv2
 refine ⟨trivial, ?_⟩
 refine x_build [_, _, _, _, _, _, _, _, _] rfl rfl rfl pl52 ze52 rfl rfl rfl ?_
 refine x_call rfl rfl rfl rfl rfl en16 (do_x (X := [_, _]) (l := lv1.2.1) (hf := lv1.2.2) (who := 0) (o := lo2) (dv := (.slice (some ⟨bxy, 0, none⟩) 2 2)) M hR1 hB (fun w Y hY hX _ => SgK.lit (w00 := w0) (L := [(bxy, .cells (byteCs [120, 121]).toArray 5 (2, 3))]) List.mem_cons_self rfl w Y hY (fun y hy => by rw [List.mem_singleton.1 hy]; exact hX _ List.mem_cons_self))) ?_
 rintro r_ wr2 ⟨S2, p2, c2, q2, d2, n2, La2, Lb2, rfl, hb2, hs2, hR2, M⟩
 have hR2 : FR (baseL lz) S2 lv2.2.1 lv2.2.2 := hR2
 refine ⟨trivial, ?_⟩
 refine x_alloc [_, _, _, _, _] rfl rfl rfl ze49 rfl ?_
 intro bal2 wal2 hbal2 hwal2
 have M := M.acons hbal2 hwal2
 refine ⟨trivial, ?_⟩
 refine x_st [_, _, _, _, _] _ rfl rfl rfl sz49 rfl rfl rfl rfl (by first | exact M.at_ 0 rfl | exact M.at_ 1 rfl | exact M.at_ 2 rfl | exact M.at_ 3 rfl | exact M.at_ 4 rfl | exact M.at_ 5 rfl | exact M.at_ 6 rfl | exact M.at_ 7 rfl | exact M.at_ 8 rfl | exact M.at_ 9 rfl | exact M.at_ 10 rfl | exact M.at_ 11 rfl | exact M.at_ 12 rfl | exact M.at_ 13 rfl) rfl rfl rfl ?_
 intro wst2 hwst2
 have M := by first | exact M.put 0 rfl hwst2 | exact M.put 1 rfl hwst2 | exact M.put 2 rfl hwst2 | exact M.put 3 rfl hwst2 | exact M.put 4 rfl hwst2 | exact M.put 5 rfl hwst2 | exact M.put 6 rfl hwst2 | exact M.put 7 rfl hwst2 | exact M.put 8 rfl hwst2 | exact M.put 9 rfl hwst2 | exact M.put 10 rfl hwst2 | exact M.put 11 rfl hwst2 | exact M.put 12 rfl hwst2 | exact M.put 13 rfl hwst2
 refine ⟨trivial, ?_⟩
 refine Ex.done (hK _ _ ?_)
 refine At.then_n ?_
 refine W.seq ?_
 refine W.sub [(1, _), (2, _), (4, _), (5, _)] ⟨rfl, rfl, rfl, rfl, trivial⟩ ?_
 refine W.reg [(0, false), (1, false), (2, true), (3, true), (4, true)] (by kernel_rfl) ?_
 intro K hK
 refine x_move rfl rfl rfl rfl ?_
 refine x_build [_, _, _, _, _, _, _, _, _] rfl rfl rfl pl52 ze52 rfl rfl rfl ?_
 refine x_call rfl rfl rfl rfl rfl en16 (do_x (X := [_, _, _]) (l := lv2.2.1) (hf := lv2.2.2) (who := 0) (o := lo3) (dv := (.slice none 0 0)) M hR2 hB (fun _ _ _ _ _ => .inr (.inl ⟨rfl, rfl, rfl⟩))) ?_
 rintro r_ wr3 ⟨S3, p3, c3, q3, d3, n3, La3, Lb3, rfl, hb3, hs3, hR3, M⟩
 have hR3 : FR (baseL lz) S3 lv3.2.1 lv3.2.2 := hR3
 refine ⟨trivial, ?_⟩
 refine x_alloc [_, _, _, _, _] rfl rfl rfl ze49 rfl ?_
 intro bal3 wal3 hbal3 hwal3
 have M := M.acons hbal3 hwal3
 refine ⟨trivial, ?_⟩
 refine x_st [_, _, _, _, _] _ rfl rfl rfl sz49 rfl rfl rfl rfl (by first | exact M.at_ 0 rfl | exact M.at_ 1 rfl | exact M.at_ 2 rfl | exact M.at_ 3 rfl | exact M.at_ 4 rfl | exact M.at_ 5 rfl | exact M.at_ 6 rfl | exact M.at_ 7 rfl | exact M.at_ 8 rfl | exact M.at_ 9 rfl | exact M.at_ 10 rfl | exact M.at_ 11 rfl | exact M.at_ 12 rfl | exact M.at_ 13 rfl) rfl rfl rfl ?_
 intro wst3 hwst3
 have M := by first | exact M.put 0 rfl hwst3 | exact M.put 1 rfl hwst3 | exact M.put 2 rfl hwst3 | exact M.put 3 rfl hwst3 | exact M.put 4 rfl hwst3 | exact M.put 5 rfl hwst3 | exact M.put 6 rfl hwst3 | exact M.put 7 rfl hwst3 | exact M.put 8 rfl hwst3 | exact M.put 9 rfl hwst3 | exact M.put 10 rfl hwst3 | exact M.put 11 rfl hwst3 | exact M.put 12 rfl hwst3 | exact M.put 13 rfl hwst3
 refine ⟨trivial, ?_⟩
 refine Ex.done (hK _ _ ?_)
 refine At.then_n ?_
 refine W.seq ?_
 refine W.sub [(1, _), (2, _), (4, _), (5, _), (6, _)] ⟨rfl, rfl, rfl, rfl, rfl, trivial⟩ ?_
 refine W.reg [(0, false), (1, false), (2, true), (3, true), (4, true)] (by kernel_rfl) ?_
 intro K hK
 refine x_move rfl rfl rfl rfl ?_
 refine x_build [_, _, _, _, _, _, _, _, _] rfl rfl rfl pl52 ze52 rfl rfl rfl ?_
 refine x_call rfl rfl rfl rfl rfl en16 (do_x (X := [_, _, _, _]) (l := lv3.2.1) (hf := lv3.2.2) (who := 0) (o := lo4) (dv := (.slice none 0 0)) M hR3 hB (fun _ _ _ _ _ => .inr (.inl ⟨rfl, rfl, rfl⟩))) ?_
 rintro r_ wr4 ⟨S4, p4, c4, q4, d4, n4, La4, Lb4, rfl, hb4, hs4, hR4, M⟩
 have hR4 : FR (baseL lz) S4 lv4.2.1 lv4.2.2 := hR4
 refine ⟨trivial, ?_⟩
 refine x_alloc [_, _, _, _, _] rfl rfl rfl ze49 rfl ?_
 intro bal4 wal4 hbal4 hwal4
 have M := M.acons hbal4 hwal4
 refine ⟨trivial, ?_⟩
 refine x_st [_, _, _, _, _] _ rfl rfl rfl sz49 rfl rfl rfl rfl (by first | exact M.at_ 0 rfl | exact M.at_ 1 rfl | exact M.at_ 2 rfl | exact M.at_ 3 rfl | exact M.at_ 4 rfl | exact M.at_ 5 rfl | exact M.at_ 6 rfl | exact M.at_ 7 rfl | exact M.at_ 8 rfl | exact M.at_ 9 rfl | exact M.at_ 10 rfl | exact M.at_ 11 rfl | exact M.at_ 12 rfl | exact M.at_ 13 rfl) rfl rfl rfl ?_
 intro wst4 hwst4
 have M := by first | exact M.put 0 rfl hwst4 | exact M.put 1 rfl hwst4 | exact M.put 2 rfl hwst4 | exact M.put 3 rfl hwst4 | exact M.put 4 rfl hwst4 | exact M.put 5 rfl hwst4 | exact M.put 6 rfl hwst4 | exact M.put 7 rfl hwst4 | exact M.put 8 rfl hwst4 | exact M.put 9 rfl hwst4 | exact M.put 10 rfl hwst4 | exact M.put 11 rfl hwst4 | exact M.put 12 rfl hwst4 | exact M.put 13 rfl hwst4
 refine ⟨trivial, ?_⟩
 refine Ex.done (hK _ _ ?_)
 refine At.then_n ?_
 refine W.seq ?_
 refine W.sub [(1, _), (2, _), (4, _), (5, _), (6, _), (7, _)] ⟨rfl, rfl, rfl, rfl, rfl, rfl, trivial⟩ ?_
 refine W.reg [(0, false), (1, false), (2, true), (3, true), (4, true)] (by kernel_rfl) ?_
 intro K hK
 refine x_move rfl rfl rfl rfl ?_
 refine x_build [_, _, _, _, _, _, _, _, _] rfl rfl rfl pl52 ze52 rfl rfl rfl ?_
 refine x_call rfl rfl rfl rfl rfl en16 (do_x (X := [_, _, _, _, _]) (l := lv4.2.1) (hf := lv4.2.2) (who := 0) (o := lo5) (dv := (.slice none 0 0)) M hR4 hB (fun _ _ _ _ _ => .inr (.inl ⟨rfl, rfl, rfl⟩))) ?_
 rintro r_ wr5 ⟨S5, p5, c5, q5, d5, n5, La5, Lb5, rfl, hb5, hs5, hR5, M⟩
 have hR5 : FR (baseL lz) S5 lv5.2.1 lv5.2.2 := hR5
 refine ⟨trivial, ?_⟩
 refine x_alloc [_, _, _, _, _] rfl rfl rfl ze49 rfl ?_
 intro bal5 wal5 hbal5 hwal5
 have M := M.acons hbal5 hwal5
 refine ⟨trivial, ?_⟩
 refine x_st [_, _, _, _, _] _ rfl rfl rfl sz49 rfl rfl rfl rfl (by first | exact M.at_ 0 rfl | exact M.at_ 1 rfl | exact M.at_ 2 rfl | exact M.at_ 3 rfl | exact M.at_ 4 rfl | exact M.at_ 5 rfl | exact M.at_ 6 rfl | exact M.at_ 7 rfl | exact M.at_ 8 rfl | exact M.at_ 9 rfl | exact M.at_ 10 rfl | exact M.at_ 11 rfl | exact M.at_ 12 rfl | exact M.at_ 13 rfl) rfl rfl rfl ?_
 intro wst5 hwst5
 have M := by first | exact M.put 0 rfl hwst5 | exact M.put 1 rfl hwst5 | exact M.put 2 rfl hwst5 | exact M.put 3 rfl hwst5 | exact M.put 4 rfl hwst5 | exact M.put 5 rfl hwst5 | exact M.put 6 rfl hwst5 | exact M.put 7 rfl hwst5 | exact M.put 8 rfl hwst5 | exact M.put 9 rfl hwst5 | exact M.put 10 rfl hwst5 | exact M.put 11 rfl hwst5 | exact M.put 12 rfl hwst5 | exact M.put 13 rfl hwst5
 refine ⟨trivial, ?_⟩
 refine Ex.done (hK _ _ ?_)
 refine At.then_n ?_
 refine W.seq ?_
 refine W.sub [(1, _), (2, _), (4, _), (5, _), (6, _), (7, _), (8, _)] ⟨rfl, rfl, rfl, rfl, rfl, rfl, rfl, trivial⟩ ?_
 refine W.reg [(0, false), (1, false), (2, true), (3, true), (4, true)] (by kernel_rfl) ?_
 intro K hK
 refine x_move rfl rfl rfl rfl ?_
 refine x_build [_, _, _, _, _, _, _, _, _] rfl rfl rfl pl52 ze52 rfl rfl rfl ?_
 refine x_call rfl rfl rfl rfl rfl en16 (do_x (X := [_, _, _, _, _, _]) (l := lv5.2.1) (hf := lv5.2.2) (who := 0) (o := lo6) (dv := (.slice none 0 0)) M hR5 hB (fun _ _ _ _ _ => .inr (.inl ⟨rfl, rfl, rfl⟩))) ?_
 rintro r_ wr6 ⟨S6, p6, c6, q6, d6, n6, La6, Lb6, rfl, hb6, hs6, hR6, M⟩
 have hR6 : FR (baseL lz) S6 lv6.2.1 lv6.2.2 := hR6
 refine ⟨trivial, ?_⟩
 refine x_alloc [_, _, _, _, _] rfl rfl rfl ze49 rfl ?_
 intro bal6 wal6 hbal6 hwal6
 have M := M.acons hbal6 hwal6
 refine ⟨trivial, ?_⟩
 refine x_st [_, _, _, _, _] _ rfl rfl rfl sz49 rfl rfl rfl rfl (by first | exact M.at_ 0 rfl | exact M.at_ 1 rfl | exact M.at_ 2 rfl | exact M.at_ 3 rfl | exact M.at_ 4 rfl | exact M.at_ 5 rfl | exact M.at_ 6 rfl | exact M.at_ 7 rfl | exact M.at_ 8 rfl | exact M.at_ 9 rfl | exact M.at_ 10 rfl | exact M.at_ 11 rfl | exact M.at_ 12 rfl | exact M.at_ 13 rfl) rfl rfl rfl ?_
 intro wst6 hwst6
 have M := by first | exact M.put 0 rfl hwst6 | exact M.put 1 rfl hwst6 | exact M.put 2 rfl hwst6 | exact M.put 3 rfl hwst6 | exact M.put 4 rfl hwst6 | exact M.put 5 rfl hwst6 | exact M.put 6 rfl hwst6 | exact M.put 7 rfl hwst6 | exact M.put 8 rfl hwst6 | exact M.put 9 rfl hwst6 | exact M.put 10 rfl hwst6 | exact M.put 11 rfl hwst6 | exact M.put 12 rfl hwst6 | exact M.put 13 rfl hwst6
 refine ⟨trivial, ?_⟩
 refine Ex.done (hK _ _ ?_)
 refine At.then_n ?_
 refine W.seq ?_
 refine W.sub [(1, _), (2, _), (4, _), (5, _), (6, _), (7, _), (8, _), (9, _)] ⟨rfl, rfl, rfl, rfl, rfl, rfl, rfl, rfl, trivial⟩ ?_
 refine W.reg [(0, false), (1, false), (2, true), (3, true), (4, true)] (by kernel_rfl) ?_
 intro K hK
 refine x_move rfl rfl rfl rfl ?_
 refine x_build [_, _, _, _, _, _, _, _, _] rfl rfl rfl pl52 ze52 rfl rfl rfl ?_
 refine x_call rfl rfl rfl rfl rfl en16 (do_x (X := [_, _, _, _, _, _, _]) (l := lv6.2.1) (hf := lv6.2.2) (who := 0) (o := lo5) (dv := (.slice none 0 0)) M hR6 hB (fun _ _ _ _ _ => .inr (.inl ⟨rfl, rfl, rfl⟩))) ?_
 rintro r_ wr7 ⟨S7, p7, c7, q7, d7, n7, La7, Lb7, rfl, hb7, hs7, hR7, M⟩
 have hR7 : FR (baseL lz) S7 lv7.2.1 lv7.2.2 := hR7
 refine ⟨trivial, ?_⟩
 refine x_alloc [_, _, _, _, _] rfl rfl rfl ze49 rfl ?_
 intro bal7 wal7 hbal7 hwal7
 have M := M.acons hbal7 hwal7
 refine ⟨trivial, ?_⟩
 refine x_st [_, _, _, _, _] _ rfl rfl rfl sz49 rfl rfl rfl rfl (by first | exact M.at_ 0 rfl | exact M.at_ 1 rfl | exact M.at_ 2 rfl | exact M.at_ 3 rfl | exact M.at_ 4 rfl | exact M.at_ 5 rfl | exact M.at_ 6 rfl | exact M.at_ 7 rfl | exact M.at_ 8 rfl | exact M.at_ 9 rfl | exact M.at_ 10 rfl | exact M.at_ 11 rfl | exact M.at_ 12 rfl | exact M.at_ 13 rfl) rfl rfl rfl ?_
 intro wst7 hwst7
 have M := by first | exact M.put 0 rfl hwst7 | exact M.put 1 rfl hwst7 | exact M.put 2 rfl hwst7 | exact M.put 3 rfl hwst7 | exact M.put 4 rfl hwst7 | exact M.put 5 rfl hwst7 | exact M.put 6 rfl hwst7 | exact M.put 7 rfl hwst7 | exact M.put 8 rfl hwst7 | exact M.put 9 rfl hwst7 | exact M.put 10 rfl hwst7 | exact M.put 11 rfl hwst7 | exact M.put 12 rfl hwst7 | exact M.put 13 rfl hwst7
 refine ⟨trivial, ?_⟩
 refine Ex.done (hK _ _ ?_)
 refine At.then_n ?_
 refine W.seq ?_
 refine W.sub [(1, _), (2, _), (4, _), (5, _), (6, _), (7, _), (8, _), (9, _), (10, _)] ⟨rfl, rfl, rfl, rfl, rfl, rfl, rfl, rfl, rfl, trivial⟩ ?_
 refine W.reg [(0, false), (1, true), (2, false)] (by kernel_rfl) ?_
 intro K hK
 refine x_move rfl rfl rfl rfl ?_
 refine x_call rfl rfl rfl rfl rfl en17 (files_x (X := [_, _, _, _, _, _, _, _]) (l := lv7.2.1) (hf := lv7.2.2) M hR7 hB) ?_
 rintro r_ w9 ⟨p9, c9, L9, rfl, hl9, M⟩
 obtain ⟨e1, e2, e3, e4, e5, e6, e7, e8⟩ := lv_says
 have hl9 : FilesO L9 (.slice p9 lv7.2.1.length c9) lv7.2.1 := hl9
 rw [e8] at hl9
 rw [show lv7.2.1.length = 1 by rw [e8]; rfl]
 have hl9 : FilesO L9 (.slice p9 1 c9) lz := hl9
 have hs9 : w9.heap[bs]? = some ((bs, .cells [.slice (some ⟨bf0, 0, none⟩) 1 1, .bool false].toArray 79 (0, 0)) : Nat × Obj).2 := M.get (List.mem_append_right _ (List.mem_append_right _ (List.mem_append_left _ hsh)))
 have hd4 := bytesO_get hb4 (fun y hy => M.get (by simp [hy]))
 have hfa := filesO_get hl9 (fun y hy => M.get (by simp [hy]))
 obtain ⟨b9, o9, rfl, _⟩ := hfa.blk (j := 0) (by decide)
 obtain ⟨p90, c90, hr9, hb90⟩ := hfa.row (j := 0) rfl
 refine ⟨trivial, ?_⟩
 refine x_assign rfl rfl rfl rfl ?_
 refine Ex.done (hK _ _ ?_)
 refine At.then_n ?_
 refine W.seq ?_
 refine W.sub [(2, _), (4, _), (5, _), (6, _), (7, _), (8, _), (9, _), (10, _), (11, _)] ⟨rfl, rfl, rfl, rfl, rfl, rfl, rfl, rfl, rfl, trivial⟩ ?_
 refine W.reg [(0, false), (1, false), (2, false), (3, false), (4, false), (5, false), (6, false), (7, false), (8, false), (9, false), (10, false), (11, false), (12, false), (13, false), (14, false), (15, false), (16, false), (17, false), (18, false), (19, false), (20, false), (21, false), (22, false), (23, false), (24, false), (25, false), (26, false), (27, false), (28, false), (29, false), (30, false), (31, false), (32, false), (33, false), (34, false), (35, false), (36, false), (37, false), (38, false), (39, false), (40, false), (41, false), (42, false), (43, false), (44, false), (45, false), (46, false), (47, false), (48, false), (49, false), (50, false), (51, false), (52, false), (53, false), (54, false), (55, false), (56, false), (57, false), (58, false)] (by kernel_rfl) ?_
 intro K hK
 refine x_fa rfl rfl rfl fo49_1 rfl ?_
 refine x_ld rfl rfl rfl Tryz.underlying3 rfl rfl (cell_of (by first | exact M.at_ 0 rfl | exact M.at_ 1 rfl | exact M.at_ 2 rfl | exact M.at_ 3 rfl | exact M.at_ 4 rfl | exact M.at_ 5 rfl | exact M.at_ 6 rfl | exact M.at_ 7 rfl | exact M.at_ 8 rfl | exact M.at_ 9 rfl | exact M.at_ 10 rfl | exact M.at_ 11 rfl | exact M.at_ 12 rfl | exact M.at_ 13 rfl) rfl) ?_
 refine x_eqi true rfl rfl rfl rfl rfl (by rw [beq_iff_eq]; exact e1) ?_
 refine x_move rfl rfl rfl rfl ?_
 refine x_fa rfl rfl rfl fo49_2 rfl ?_
 refine x_ld rfl rfl rfl Tryz.underlying3 rfl rfl (cell_of (by first | exact M.at_ 0 rfl | exact M.at_ 1 rfl | exact M.at_ 2 rfl | exact M.at_ 3 rfl | exact M.at_ 4 rfl | exact M.at_ 5 rfl | exact M.at_ 6 rfl | exact M.at_ 7 rfl | exact M.at_ 8 rfl | exact M.at_ 9 rfl | exact M.at_ 10 rfl | exact M.at_ 11 rfl | exact M.at_ 12 rfl | exact M.at_ 13 rfl) rfl) ?_
 refine x_eqi true rfl rfl rfl rfl rfl (by rw [beq_iff_eq]; exact e2) ?_
 refine x_pickT rfl rfl rfl rfl rfl ?_
 refine x_move rfl rfl rfl rfl ?_
 refine x_fa rfl rfl rfl fo49_0 rfl ?_
 refine x_ld rfl rfl rfl Tryz.underlying35 rfl rfl (cell_of (by first | exact M.at_ 0 rfl | exact M.at_ 1 rfl | exact M.at_ 2 rfl | exact M.at_ 3 rfl | exact M.at_ 4 rfl | exact M.at_ 5 rfl | exact M.at_ 6 rfl | exact M.at_ 7 rfl | exact M.at_ 8 rfl | exact M.at_ 9 rfl | exact M.at_ 10 rfl | exact M.at_ 11 rfl | exact M.at_ 12 rfl | exact M.at_ 13 rfl) rfl) ?_
 refine x_eqi true rfl rfl rfl rfl rfl (by rw [beq_iff_eq]; exact e3) ?_
 refine x_pickT rfl rfl rfl rfl rfl ?_
 refine x_move rfl rfl rfl rfl ?_
 refine x_fa rfl rfl rfl fo49_3 rfl ?_
 refine x_ld rfl rfl rfl Tryz.underlying27 rfl rfl (cell_of (by first | exact M.at_ 0 rfl | exact M.at_ 1 rfl | exact M.at_ 2 rfl | exact M.at_ 3 rfl | exact M.at_ 4 rfl | exact M.at_ 5 rfl | exact M.at_ 6 rfl | exact M.at_ 7 rfl | exact M.at_ 8 rfl | exact M.at_ 9 rfl | exact M.at_ 10 rfl | exact M.at_ 11 rfl | exact M.at_ 12 rfl | exact M.at_ 13 rfl) rfl) ?_
 refine x_cvbs _ rfl rfl rfl Tryz.underlying27 Tryz.underlying5 Tryz.underlying9 rfl (strOf_bytes hd4) ?_
 refine x_eqS true rfl rfl rfl rfl rfl (decide_eq_true e4) ?_
 refine x_pickT rfl rfl rfl rfl rfl ?_
 refine x_move rfl rfl rfl rfl ?_
 refine x_fa rfl rfl rfl fo49_0 rfl ?_
 refine x_ld rfl rfl rfl Tryz.underlying35 rfl rfl (cell_of (by first | exact M.at_ 0 rfl | exact M.at_ 1 rfl | exact M.at_ 2 rfl | exact M.at_ 3 rfl | exact M.at_ 4 rfl | exact M.at_ 5 rfl | exact M.at_ 6 rfl | exact M.at_ 7 rfl | exact M.at_ 8 rfl | exact M.at_ 9 rfl | exact M.at_ 10 rfl | exact M.at_ 11 rfl | exact M.at_ 12 rfl | exact M.at_ 13 rfl) rfl) ?_
 refine x_eqi true rfl rfl rfl rfl rfl (by rw [beq_iff_eq]; exact e5) ?_
 refine x_pickT rfl rfl rfl rfl rfl ?_
 refine x_move rfl rfl rfl rfl ?_
 refine x_fa rfl rfl rfl fo49_0 rfl ?_
 refine x_ld rfl rfl rfl Tryz.underlying35 rfl rfl (cell_of (by first | exact M.at_ 0 rfl | exact M.at_ 1 rfl | exact M.at_ 2 rfl | exact M.at_ 3 rfl | exact M.at_ 4 rfl | exact M.at_ 5 rfl | exact M.at_ 6 rfl | exact M.at_ 7 rfl | exact M.at_ 8 rfl | exact M.at_ 9 rfl | exact M.at_ 10 rfl | exact M.at_ 11 rfl | exact M.at_ 12 rfl | exact M.at_ 13 rfl) rfl) ?_
 refine x_eqi true rfl rfl rfl rfl rfl (by rw [beq_iff_eq]; exact e6) ?_
 refine x_pickT rfl rfl rfl rfl rfl ?_
 refine x_move rfl rfl rfl rfl ?_
 refine x_fa rfl rfl rfl fo49_0 rfl ?_
 refine x_ld rfl rfl rfl Tryz.underlying35 rfl rfl (cell_of (by first | exact M.at_ 0 rfl | exact M.at_ 1 rfl | exact M.at_ 2 rfl | exact M.at_ 3 rfl | exact M.at_ 4 rfl | exact M.at_ 5 rfl | exact M.at_ 6 rfl | exact M.at_ 7 rfl | exact M.at_ 8 rfl | exact M.at_ 9 rfl | exact M.at_ 10 rfl | exact M.at_ 11 rfl | exact M.at_ 12 rfl | exact M.at_ 13 rfl) rfl) ?_
 refine x_eqi true rfl rfl rfl rfl rfl (by rw [beq_iff_eq]; exact e7) ?_
 refine x_pickT rfl rfl rfl rfl rfl ?_
 refine x_move rfl rfl rfl rfl ?_
 refine x_move rfl rfl rfl rfl ?_
 refine x_len rfl rfl rfl rfl Tryz.underlying24 rfl ?_
 refine x_eqi true rfl rfl rfl rfl rfl rfl ?_
 refine x_pickT rfl rfl rfl rfl rfl ?_
 refine x_move rfl rfl rfl rfl ?_
 refine x_move rfl rfl rfl rfl ?_
 refine x_ia 0 rfl rfl rfl Tryz.underlying24 sz29 rfl rfl rfl (by decide) ?_
 refine x_fa rfl rfl rfl fo29_2 rfl ?_
 refine x_ld rfl rfl rfl Tryz.underlying27 rfl rfl (RowAt.cell hr9 (j := 2) rfl) ?_
 refine x_cvbs _ rfl rfl rfl Tryz.underlying27 Tryz.underlying5 Tryz.underlying9 rfl (strOf_bytes hb90) ?_
 refine x_eqS true rfl rfl rfl rfl rfl (by decide) ?_
 refine x_pickT rfl rfl rfl rfl rfl ?_
 refine x_move rfl rfl rfl rfl ?_
 refine x_move rfl rfl rfl rfl ?_
 refine x_nil rfl rfl rfl rfl rfl ?_
 refine x_fa rfl rfl rfl fo79_1 rfl ?_
 refine x_ld rfl rfl rfl Tryz.underlying4 rfl rfl (cell_of hs9 rfl) ?_
 refine x_not true rfl rfl rfl rfl rfl ?_
 refine x_pickT rfl rfl rfl rfl rfl ?_
 refine x_move rfl rfl rfl rfl ?_
 refine x_pickT rfl rfl rfl rfl rfl ?_
 refine x_move rfl rfl rfl rfl ?_
 refine x_pickT rfl rfl rfl rfl rfl ?_
 refine x_assign rfl rfl rfl rfl ?_
 refine Ex.done (hK _ _ ?_)
 refine At.then_n ?_
 refine W.ret ?_
 refine At.ret1 (.tmp 0) rfl ⟨rfl, trivial⟩ ?_
 exact ⟨rfl, M.frm⟩
end Go.Proofs.YtigfbpbnohkokaaGreat

namespace Go.Proofs.YtigfbpbnohkokaaGreat
open Go Go.Fw Go.RowKit
set_option linter.unusedVariables false
set_option linter.unusedSimpArgs false

/-- What stays of files over a base: where they are, their base. -/
structure OvI where
 bf : Nat
 bv : Value
 Lb : List (Nat × Obj)
 base : BaseF
/-- Blocks of one's own beside files over a base that are l, with these handles. -/
def OvW (w00 : World) (X : List (Nat × Obj)) (I : OvI) (l : List Raw) (hf : HF) (w : World) : Prop :=
 ∃ S L, FR I.base S l hf ∧ BaseC w00 I.Lb I.bv I.base ∧ Sep w00 (X ++ (fsB I.bf I.bv (usedL l) S ++ (I.Lb ++ L))) w
section
variable {w00 w0 w w1 : World} {X Y : List (Nat × Obj)} {I : OvI} {l : List Raw} {hf : HF}
theorem OvW.frm (h : OvW w00 X I l hf w) : New w00 w := let ⟨_, _, _, _, M⟩ := h; M.frm
theorem OvW.at_ (h : OvW w00 X I l hf w) (k : Nat) {b : Nat} {o : Obj} (hk : X[k]? = some (b, o)) : w.heap[b]? = some o :=
 let ⟨_, _, _, _, M⟩ := h; M.get (List.mem_append_left _ (List.mem_of_getElem? hk))
theorem OvW.get (h : OvW w00 X I l hf w) {x : Nat × Obj} (hk : x ∈ X) : w.heap[x.1]? = some x.2 :=
 let ⟨_, _, _, _, M⟩ := h; M.get (List.mem_append_left _ hk)
theorem OvW.base (h : OvW w00 X I l hf w) {x : Nat × Obj} (hk : x ∈ I.Lb) : w.heap[x.1]? = some x.2 :=
 let ⟨_, _, _, _, M⟩ := h; M.get (List.mem_append_right _ (List.mem_append_right _ (List.mem_append_left _ hk)))
theorem OvW.acons (h : OvW w00 X I l hf w) {o : Obj} {b : Nat} (hb : b = w.heap.size) (hw : w1 = w.alloc o) : OvW w00 ((b, o) :: X) I l hf w1 :=
 let ⟨S, L, h1, h2, M⟩ := h; ⟨S, L, h1, h2, M.acons hb hw⟩
theorem OvW.put (h : OvW w00 X I l hf w) (k : Nat) {b : Nat} {o0 o : Obj} (hk : X[k]? = some (b, o0)) (hw : w1 = w.putObj b o) : OvW w00 (X.set k (b, o)) I l hf w1 := by
 obtain ⟨S, L, h1, h2, M⟩ := h
 have hl : k < X.length := (List.getElem?_eq_some_iff.1 hk).1
 have := M.put k (by rw [List.getElem?_append_left hl]; exact hk) hw (o := o)
 rw [List.set_append_left _ _ hl] at this
 exact ⟨S, L, h1, h2, this⟩
theorem OvW.new (h : OvW w00 X I l hf w) (hn : New w w1) : OvW w00 X I l hf w1 := let ⟨S, L, h1, h2, M⟩ := h; ⟨S, L, h1, h2, M.new hn⟩
theorem OvW.drew (h : OvW w00 X I l hf w) (hw : w1 = w.drew) : OvW w00 X I l hf w1 := let ⟨S, L, h1, h2, M⟩ := h; ⟨S, L, h1, h2, M.drew hw⟩
theorem OvW.grow (h : OvW w00 X I l hf w) (hc : Sep w Y w1) : OvW w00 (Y ++ X) I l hf w1 := by
 obtain ⟨S, L, h1, h2, M⟩ := h
 exact ⟨S, L, h1, h2, by simpa only [List.append_assoc] using M.grow' hc⟩
theorem OvW.sub (h : OvW w00 X I l hf w) (hs : Y.Sublist X) : OvW w00 Y I l hf w := let ⟨S, L, h1, h2, M⟩ := h; ⟨S, L, h1, h2, M.sub (List.Sublist.append hs (List.Sublist.refl _))⟩
theorem OvW.tail {x : Nat × Obj} (h : OvW w00 (x :: X) I l hf w) : OvW w00 X I l hf w := h.sub (List.sublist_cons_self _ _)
theorem OvW.dropL (h : OvW w00 (Y ++ X) I l hf w) : OvW w00 X I l hf w := h.sub (List.sublist_append_right _ _)
theorem OvW.perm (h : OvW w00 X I l hf w) (hs : X.Perm Y) : OvW w00 Y I l hf w := let ⟨S, L, h1, h2, M⟩ := h; ⟨S, L, h1, h2, M.perm (hs.append_right _)⟩
theorem OvW.sep (h : OvW w00 X I l hf w) : Sep w00 X w := let ⟨_, _, _, _, M⟩ := h; M.dropR
theorem OvW.names (h : OvW w00 X I l hf w) : (l.map (·.1)).Nodup := let ⟨_, _, h1, _, _⟩ := h; h1.names
theorem OvW.le (h : OvW w00 X I l hf w) : l.length ≤ 128 := by
 obtain ⟨_, _, h1, _, _⟩ := h
 have := h1.tr.le
 rwa [bare_len] at this

end
/-- Calls, one behind the other. -/
def runS (l : List Raw) (hf : HF) : List Ask → List Raw × HF
 | [] => (l, hf)
 | a :: r => runS (doS l hf a.who a.o).2.1 (doS l hf a.who a.o).2.2 r
section
variable {l : List Raw} {hf : HF} {who : Int} {o : OpS}
end
end Go.Proofs.YtigfbpbnohkokaaGreat

namespace Go.Proofs.YtigfbpbnohkokaaGreat
open Go Go.Fw Go.RowKit Go.Proofs
set_option linter.unusedVariables false
set_option linter.unusedSimpArgs false



end Go.Proofs.YtigfbpbnohkokaaGreat

namespace Go.Proofs.YtigfbpbnohkokaaGreat
open Go Go.Fw Go.RowKit
set_option linter.unusedVariables false
set_option linter.unusedSimpArgs false

section
variable {l : List Raw} {hf hf' : HF} {who : Int} {o : OpS}
end
end Go.Proofs.YtigfbpbnohkokaaGreat

namespace Go.Proofs.YtigfbpbnohkokaaGreat
open Go Go.Fw Go.RowKit Go.Proofs
set_option linter.unusedVariables false
set_option linter.unusedSimpArgs false

end Go.Proofs.YtigfbpbnohkokaaGreat

namespace Go.Proofs.YtigfbpbnohkokaaGreat
open Go Go.Fw Go.RowKit
set_option linter.unusedVariables false
set_option linter.unusedSimpArgs false

section
variable {w00 w : World} {X : List (Nat × Obj)} {I : OvI} {l : List Raw} {hf : HF} {p q d b : List UInt8}
theorem OvW.file (M : OvW w00 X I l hf w) (h : (p, false, d) ∈ l) : fileB l p = d := let ⟨_, _, h1, _, _⟩ := M; h1.bytes h
theorem OvW.len (M : OvW w00 X I l hf w) (h : (p, false, d) ∈ l) : d.length ≤ 65536 ∧ d.length ≤ usedL l := let ⟨_, _, h1, _, _⟩ := M; h1.le h
theorem OvW.found (M : OvW w00 X I l hf w) {z : Raw} (h : z ∈ l) : findL l z.1 = (z, 0) := let ⟨_, _, h1, _, _⟩ := M; h1.found h

end
section
variable {w00 w0 : World} {X : List (Nat × Obj)} {I : OvI} {l l' : List Raw} {hf hf' : HF}
end
end Go.Proofs.YtigfbpbnohkokaaGreat

namespace Go.Proofs.YtigfbpbnohkokaaGreat
open Go Go.Fw Go.RowKit Go.Proofs
set_option linter.unusedVariables false
set_option linter.unusedSimpArgs false

end Go.Proofs.YtigfbpbnohkokaaGreat

namespace Go.Proofs.YtigfbpbnohkokaaGreat
open Go Go.Fw Go.RowKit
set_option linter.unusedVariables false
set_option linter.unusedSimpArgs false

section
variable {b d : List UInt8} {o : OpS} {a : Nat}

end
end Go.Proofs.YtigfbpbnohkokaaGreat

namespace Go.Proofs.YtigfbpbnohkokaaGreat
open Go Go.Fw Go.RowKit Go.Proofs
set_option linter.unusedVariables false
set_option linter.unusedSimpArgs false
end Go.Proofs.YtigfbpbnohkokaaGreat

namespace Go.Proofs.YtigfbpbnohkokaaGreat
open Go Go.Fw Go.RowKit
set_option linter.unusedVariables false
set_option linter.unusedSimpArgs false

section
variable {h : Nat → Nat} {n i : Nat}
def eQ (sum : Nat) (s : Int) : Int := if s < 0 then 2 else if 65536 < s then 3 else if 262144 < (sum : Int) + s then 7 else 0
def hQ (sum : Nat) (s : Int) : Nat := if eQ sum s = 0 then s.toNat else 0
end
/-- The sizes, in memory. -/
def hC (h : Nat → Nat) : List Value := (List.range 12).map fun k => .int .i64 ((h k : Nat) : Int)
/-- Whole numbers that are given. -/
def zCs (l : List Int) : List Value := l.map fun z => .int .i64 z
abbrev ZsAt (w : World) (v : Value) (l : List Int) : Prop := Sg w v 1 l.length (zCs l)
theorem ZsAt.cell {w : World} {b off n cap j : Nat} {l : List Int} {z : Int} (h : ZsAt w (.slice (some ⟨b, off, none⟩) n cap) l) (hz : l[j]? = some z) : w.cell? ⟨b, off + j * 1, none⟩ = some (.int .i64 z) := by
 have hj : j < l.length := (List.getElem?_eq_some_iff.1 hz).1
 have h1 := Sg.sl h (by omega)
 obtain ⟨b', off', h6, h7⟩ := Sl.blk h1 hj
 cases h6; subst h7
 exact Sl.cell1 h1 (by unfold zCs; rw [List.getElem?_map, hz]; rfl)
end Go.Proofs.YtigfbpbnohkokaaGreat

namespace Go.Proofs.YtigfbpbnohkokaaGreat
open Go Go.Fw Go.RowKit Go.Proofs
set_option linter.unusedVariables false
set_option linter.unusedSimpArgs false

end Go.Proofs.YtigfbpbnohkokaaGreat

namespace Go.Proofs.YtigfbpbnohkokaaGreat
open Go Go.Fw Go.RowKit
set_option linter.unusedVariables false
set_option linter.unusedSimpArgs false

theorem rs_no {a b : RsS} (h : a.e ≠ b.e ∨ a.h ≠ b.h ∨ a.n ≠ b.n ∨ a.d ≠ b.d) : decide (a = b) = false := by
 apply decide_eq_false
 rintro rfl
 rcases h with h | h | h | h <;> exact h rfl
theorem rs_yes {a b : RsS} (h1 : a.e = b.e) (h2 : a.h = b.h) (h3 : a.n = b.n) (h4 : a.d = b.d) : decide (a = b) = decide (a.l = b.l) := by
 obtain ⟨e, h, n, d, l⟩ := a
 obtain ⟨e', h', n', d', l'⟩ := b
 simp only at h1 h2 h3 h4
 subst h1 h2 h3 h4
 simp

def zH : List Hd := List.replicate 128 ([], false)
def zF : List Value := .nilIface :: .pointer none :: .map none :: (hCs zH ++ [.int .i64 0])
section
variable {j off : Nat} {h : Hd}
theorem zF_tail (ho : 3 ≤ off) (bv : Value) (S : FSt) (hS : S.hs = zH) : zF[off]? = (fsC bv 0 S)[off]? := by
 obtain ⟨k, rfl⟩ : ∃ k, off = k + 3 := ⟨off - 3, by omega⟩
 unfold zF fsC
 rw [hS]
 rfl
theorem zF_drop (ho : 3 ≤ off) (bv : Value) (S : FSt) (hS : S.hs = zH) : zF.drop off = (fsC bv 0 S).drop off := by
 obtain ⟨k, rfl⟩ : ∃ k, off = k + 3 := ⟨off - 3, by omega⟩
 unfold zF fsC
 rw [hS]
 rfl
def zS : FSt := ⟨0, 0, .cells #[] 0 (0, 0), [], [], zH⟩
theorem zF_h0 (hj : j < 128) (ho : off = 3 + 2 * j) : zF[off]? = some (strV []) := by
 rw [zF_tail (by omega) (.nilIface) zS rfl]
 exact fsC_h0 (S := zS) (h := ([], false)) (j := j) (by show zH[j]? = _; unfold zH; rw [List.getElem?_replicate, if_pos hj]) ho
theorem z_row {w : World} {bf who : Nat} {fr : Nat × Nat} {T : TypeId} (hw : who < 8) (hb : w.heap[bf]? = some (.cells zF.toArray T fr)) (ho : off = 3 + 32 * who) : Sl w (.slice (some ⟨bf, off, none⟩) 16 16) 2 16 (hCs ((zH.drop (16 * who)).take 16)) := by
 have hl : zS.hs.length = 128 := by show zH.length = 128; unfold zH; simp
 obtain ⟨w', hw'⟩ : ∃ w' : World, w'.heap[0]? = some (.cells (fsC .nilIface 0 zS).toArray T fr) := ⟨{ w with heap := #[.cells (fsC .nilIface 0 zS).toArray T fr] }, rfl⟩
 have h1 := row_sl (S := zS) (bv := .nilIface) (u := 0) (off := off) hl hw hw' ho
 rcases h1 with ⟨h1, _⟩ | ⟨b, o, cap, all, T', fr', h1, h2, h3, h4, h5⟩
 ·cases h1
 ·cases h1
  rw [hw'] at h3
  cases h3
  refine .inr ⟨bf, off, 16, _, T, fr, rfl, Nat.le_refl _, hb, ?_, h5⟩
  show (zF.drop off).take _ = _
  rw [zF_drop (by omega) .nilIface zS rfl]
  exact h4
theorem zH_row {a i : Nat} (ha : a < 8) (hi : i < 16) : ((zH.drop (16 * a)).take 16)[i]? = some ([], false) := by
 rw [List.getElem?_take, if_pos hi, List.getElem?_drop]
 unfold zH
 rw [List.getElem?_replicate, if_pos (by omega)]
end
end Go.Proofs.YtigfbpbnohkokaaGreat

namespace Go.Proofs.YtigfbpbnohkokaaGreat
open Go Go.Fw Go.RowKit Go.Proofs
set_option linter.unusedVariables false
set_option linter.unusedSimpArgs false

set_option maxRecDepth 100000 in
theorem rsame_c {w0 : World} {dv lv dv2 lv2 : Value} {a b : RsS} (hd : BytesAt w0 dv a.d) (hs : StrsAt w0 lv a.l) (hd2 : BytesAt w0 dv2 b.d) (hs2 : StrsAt w0 lv2 b.l) (hla : a.l.length ≤ 1099511627776) : Ret Tryz.prog 26 #[rsV a dv lv, rsV b dv2 lv2] w0 fun r w' => r = .bool (decide (a = b)) ∧ New w0 w' := by
 have M : Sep w0 [] w0 := St.nil w0
 obtain ⟨p1, c1, rfl⟩ := hd.shape
 obtain ⟨p2, c2, rfl⟩ := Sg.shape hs
 obtain ⟨p3, c3, rfl⟩ := hd2.shape
 obtain ⟨p4, c4, rfl⟩ := Sg.shape hs2
 refine Ret.of_W Tryz.func26 rfl Tryz.ntmps26 rfl ?_
 refine W.seq ?_
 refine W.sub [(0, _), (1, _)] ⟨rfl, rfl, trivial⟩ ?_
 refine W.reg [(0, true), (1, true), (2, false)] (by kernel_rfl) ?_
 intro K hK
 refine x_box [_, _, _, _, _] rfl rfl rfl rfl rfl ?_
 intro bbx1 wbx1 hbbx1 hwbx1
 have M := M.acons hbbx1 hwbx1
 refine ⟨trivial, ?_⟩
 refine x_box [_, _, _, _, _] rfl rfl rfl rfl rfl ?_
 intro bbx2 wbx2 hbbx2 hwbx2
 have M := M.acons hbbx2 hwbx2
 refine ⟨trivial, ?_⟩
 refine x_assign rfl rfl rfl rfl ?_
 refine Ex.done (hK _ _ ?_)
 refine At.then_n ?_
 refine W.seq ?_
 refine W.sub [(2, _), (3, _)] ⟨rfl, rfl, trivial⟩ ?_
 refine W.reg [(0, false), (1, false), (2, false), (3, false), (4, false), (5, false), (6, false), (7, false), (8, false), (9, false), (10, false), (11, false), (12, false), (13, false), (14, false), (15, false), (16, false), (17, false), (18, false), (19, false), (20, false), (21, false), (22, false), (23, false), (24, false), (25, false), (26, false), (27, false), (28, false), (29, false), (30, false), (31, false), (32, false), (33, true), (34, false), (35, false)] (by kernel_rfl) ?_
 intro K hK
 refine x_fa rfl rfl rfl fo49_0 rfl ?_
 refine x_ld rfl rfl rfl Tryz.underlying35 rfl rfl (cell_of (by first | exact M.at_ 0 rfl | exact M.at_ 1 rfl | exact M.at_ 2 rfl | exact M.at_ 3 rfl | exact M.at_ 4 rfl | exact M.at_ 5 rfl | exact M.at_ 6 rfl | exact M.at_ 7 rfl) rfl) ?_
 refine x_fa rfl rfl rfl fo49_0 rfl ?_
 refine x_ld rfl rfl rfl Tryz.underlying35 rfl rfl (cell_of (by first | exact M.at_ 0 rfl | exact M.at_ 1 rfl | exact M.at_ 2 rfl | exact M.at_ 3 rfl | exact M.at_ 4 rfl | exact M.at_ 5 rfl | exact M.at_ 6 rfl | exact M.at_ 7 rfl) rfl) ?_
 refine x_eqi _ rfl rfl rfl rfl rfl rfl ?_
 refine x_move rfl rfl rfl rfl ?_
 refine Ex.split 10 rfl (fun hsp1 => ?_) (fun hsp1 => ?_)
 ·
  try simp only [sA, sB, sC, sD, sE, sF, ne_eq, Bool.not_eq_eq_eq_not, Bool.not_true, Bool.not_false, sK, sL, Bool.not_not, gt_iff_lt, ge_iff_le] at hsp1
  refine x_fa rfl rfl rfl fo49_1 rfl ?_
  refine x_ld rfl rfl rfl Tryz.underlying3 rfl rfl (cell_of (by first | exact M.at_ 0 rfl | exact M.at_ 1 rfl | exact M.at_ 2 rfl | exact M.at_ 3 rfl | exact M.at_ 4 rfl | exact M.at_ 5 rfl | exact M.at_ 6 rfl | exact M.at_ 7 rfl) rfl) ?_
  refine x_fa rfl rfl rfl fo49_1 rfl ?_
  refine x_ld rfl rfl rfl Tryz.underlying3 rfl rfl (cell_of (by first | exact M.at_ 0 rfl | exact M.at_ 1 rfl | exact M.at_ 2 rfl | exact M.at_ 3 rfl | exact M.at_ 4 rfl | exact M.at_ 5 rfl | exact M.at_ 6 rfl | exact M.at_ 7 rfl) rfl) ?_
  refine x_eqi _ rfl rfl rfl rfl rfl rfl ?_
  refine x_pickT rfl rfl rfl rfl rfl ?_
  refine x_move rfl rfl rfl rfl ?_
  refine Ex.split 17 rfl (fun hsp2 => ?_) (fun hsp2 => ?_)
  ·
   try simp only [sA, sB, sC, sD, sE, sF, ne_eq, Bool.not_eq_eq_eq_not, Bool.not_true, Bool.not_false, sK, sL, Bool.not_not, gt_iff_lt, ge_iff_le] at hsp2
   refine x_fa rfl rfl rfl fo49_2 rfl ?_
   refine x_ld rfl rfl rfl Tryz.underlying3 rfl rfl (cell_of (by first | exact M.at_ 0 rfl | exact M.at_ 1 rfl | exact M.at_ 2 rfl | exact M.at_ 3 rfl | exact M.at_ 4 rfl | exact M.at_ 5 rfl | exact M.at_ 6 rfl | exact M.at_ 7 rfl) rfl) ?_
   refine x_fa rfl rfl rfl fo49_2 rfl ?_
   refine x_ld rfl rfl rfl Tryz.underlying3 rfl rfl (cell_of (by first | exact M.at_ 0 rfl | exact M.at_ 1 rfl | exact M.at_ 2 rfl | exact M.at_ 3 rfl | exact M.at_ 4 rfl | exact M.at_ 5 rfl | exact M.at_ 6 rfl | exact M.at_ 7 rfl) rfl) ?_
   refine x_eqi _ rfl rfl rfl rfl rfl rfl ?_
   refine x_pickT rfl rfl rfl rfl rfl ?_
   refine x_move rfl rfl rfl rfl ?_
   refine Ex.split 24 rfl (fun hsp3 => ?_) (fun hsp3 => ?_)
   ·
    try simp only [sA, sB, sC, sD, sE, sF, ne_eq, Bool.not_eq_eq_eq_not, Bool.not_true, Bool.not_false, sK, sL, Bool.not_not, gt_iff_lt, ge_iff_le] at hsp3
    refine x_fa rfl rfl rfl fo49_3 rfl ?_
    refine x_ld rfl rfl rfl Tryz.underlying27 rfl rfl (cell_of (by first | exact M.at_ 0 rfl | exact M.at_ 1 rfl | exact M.at_ 2 rfl | exact M.at_ 3 rfl | exact M.at_ 4 rfl | exact M.at_ 5 rfl | exact M.at_ 6 rfl | exact M.at_ 7 rfl) rfl) ?_
    refine x_cvbs _ rfl rfl rfl Tryz.underlying27 Tryz.underlying5 Tryz.underlying9 rfl (strOf_bytes (hd.new M.frm)) ?_
    refine x_fa rfl rfl rfl fo49_3 rfl ?_
    refine x_ld rfl rfl rfl Tryz.underlying27 rfl rfl (cell_of (by first | exact M.at_ 0 rfl | exact M.at_ 1 rfl | exact M.at_ 2 rfl | exact M.at_ 3 rfl | exact M.at_ 4 rfl | exact M.at_ 5 rfl | exact M.at_ 6 rfl | exact M.at_ 7 rfl) rfl) ?_
    refine x_cvbs _ rfl rfl rfl Tryz.underlying27 Tryz.underlying5 Tryz.underlying9 rfl (strOf_bytes (hd2.new M.frm)) ?_
    refine x_eqS _ rfl rfl rfl rfl rfl rfl ?_
    refine x_pickT rfl rfl rfl rfl rfl ?_
    refine x_move rfl rfl rfl rfl ?_
    refine Ex.split 33 rfl (fun hsp4 => ?_) (fun hsp4 => ?_)
    ·
     try simp only [sA, sB, sC, sD, sE, sF, ne_eq, Bool.not_eq_eq_eq_not, Bool.not_true, Bool.not_false, sK, sL, Bool.not_not, gt_iff_lt, ge_iff_le] at hsp4
     refine x_fa rfl rfl rfl fo49_4 rfl ?_
     refine x_ld rfl rfl rfl Tryz.underlying47 rfl rfl (cell_of (by first | exact M.at_ 0 rfl | exact M.at_ 1 rfl | exact M.at_ 2 rfl | exact M.at_ 3 rfl | exact M.at_ 4 rfl | exact M.at_ 5 rfl | exact M.at_ 6 rfl | exact M.at_ 7 rfl) rfl) ?_
     refine x_fa rfl rfl rfl fo49_4 rfl ?_
     refine x_ld rfl rfl rfl Tryz.underlying47 rfl rfl (cell_of (by first | exact M.at_ 0 rfl | exact M.at_ 1 rfl | exact M.at_ 2 rfl | exact M.at_ 3 rfl | exact M.at_ 4 rfl | exact M.at_ 5 rfl | exact M.at_ 6 rfl | exact M.at_ 7 rfl) rfl) ?_
     refine x_call rfl rfl rfl rfl rfl en54 (same_c (hs.new M.frm) (hs2.new M.frm) hla) ?_
     rintro r_ w1 ⟨rfl, hn1⟩
     have M := M.new hn1
     refine ⟨trivial, ?_⟩
     refine x_pickT rfl rfl rfl rfl rfl ?_
     refine x_assign rfl rfl rfl rfl ?_
     refine Ex.done (hK _ _ ?_)
     refine At.then_n ?_
     refine W.ret ?_
     refine At.ret1 (.tmp 4) rfl ⟨rfl, trivial⟩ ?_
     exact ⟨by rw [rs_yes hsp1 hsp2 hsp3 hsp4], M.frm⟩
    ·
     try simp only [sA, sB, sC, sD, sE, sF, ne_eq, Bool.not_eq_eq_eq_not, Bool.not_true, Bool.not_false, sK, sL, Bool.not_not, gt_iff_lt, ge_iff_le] at hsp4
     refine Ex.skip_ rfl rfl rfl ?_
     refine Ex.skip_ rfl rfl rfl ?_
     refine Ex.skip_ rfl rfl rfl ?_
     refine Ex.skip_ rfl rfl rfl ?_
     refine Ex.skipm_ rfl rfl rfl ?_
     refine x_pickF rfl rfl rfl rfl rfl ?_
     refine x_assign rfl rfl rfl rfl ?_
     refine Ex.done (hK _ _ ?_)
     refine At.then_n ?_
     refine W.ret ?_
     refine At.ret1 (.tmp 4) rfl ⟨rfl, trivial⟩ ?_
     exact ⟨by rw [rs_no (.inr (.inr (.inr hsp4)))], M.frm⟩
   ·
    try simp only [sA, sB, sC, sD, sE, sF, ne_eq, Bool.not_eq_eq_eq_not, Bool.not_true, Bool.not_false, sK, sL, Bool.not_not, gt_iff_lt, ge_iff_le] at hsp3
    refine Ex.skip_ rfl rfl rfl ?_
    refine Ex.skip_ rfl rfl rfl ?_
    refine Ex.skip_ rfl rfl rfl ?_
    refine Ex.skip_ rfl rfl rfl ?_
    refine Ex.skip_ rfl rfl rfl ?_
    refine Ex.skip_ rfl rfl rfl ?_
    refine Ex.skip_ rfl rfl rfl ?_
    refine x_pickF rfl rfl rfl rfl rfl ?_
    refine x_move rfl rfl rfl rfl ?_
    refine Ex.skip_ rfl rfl rfl ?_
    refine Ex.skip_ rfl rfl rfl ?_
    refine Ex.skip_ rfl rfl rfl ?_
    refine Ex.skip_ rfl rfl rfl ?_
    refine Ex.skipm_ rfl rfl rfl ?_
    refine x_pickF rfl rfl rfl rfl rfl ?_
    refine x_assign rfl rfl rfl rfl ?_
    refine Ex.done (hK _ _ ?_)
    refine At.then_n ?_
    refine W.ret ?_
    refine At.ret1 (.tmp 4) rfl ⟨rfl, trivial⟩ ?_
    exact ⟨by rw [rs_no (.inr (.inr (.inl hsp3)))], M.frm⟩
  ·
   try simp only [sA, sB, sC, sD, sE, sF, ne_eq, Bool.not_eq_eq_eq_not, Bool.not_true, Bool.not_false, sK, sL, Bool.not_not, gt_iff_lt, ge_iff_le] at hsp2
   refine Ex.skip_ rfl rfl rfl ?_
   refine Ex.skip_ rfl rfl rfl ?_
   refine Ex.skip_ rfl rfl rfl ?_
   refine Ex.skip_ rfl rfl rfl ?_
   refine Ex.skip_ rfl rfl rfl ?_
   refine x_pickF rfl rfl rfl rfl rfl ?_
   refine x_move rfl rfl rfl rfl ?_
   refine Ex.skip_ rfl rfl rfl ?_
   refine Ex.skip_ rfl rfl rfl ?_
   refine Ex.skip_ rfl rfl rfl ?_
   refine Ex.skip_ rfl rfl rfl ?_
   refine Ex.skip_ rfl rfl rfl ?_
   refine Ex.skip_ rfl rfl rfl ?_
   refine Ex.skip_ rfl rfl rfl ?_
   refine x_pickF rfl rfl rfl rfl rfl ?_
   refine x_move rfl rfl rfl rfl ?_
   refine Ex.skip_ rfl rfl rfl ?_
   refine Ex.skip_ rfl rfl rfl ?_
   refine Ex.skip_ rfl rfl rfl ?_
   refine Ex.skip_ rfl rfl rfl ?_
   refine Ex.skipm_ rfl rfl rfl ?_
   refine x_pickF rfl rfl rfl rfl rfl ?_
   refine x_assign rfl rfl rfl rfl ?_
   refine Ex.done (hK _ _ ?_)
   refine At.then_n ?_
   refine W.ret ?_
   refine At.ret1 (.tmp 4) rfl ⟨rfl, trivial⟩ ?_
   exact ⟨by rw [rs_no (.inr (.inl hsp2))], M.frm⟩
 ·
  try simp only [sA, sB, sC, sD, sE, sF, ne_eq, Bool.not_eq_eq_eq_not, Bool.not_true, Bool.not_false, sK, sL, Bool.not_not, gt_iff_lt, ge_iff_le] at hsp1
  refine Ex.skip_ rfl rfl rfl ?_
  refine Ex.skip_ rfl rfl rfl ?_
  refine Ex.skip_ rfl rfl rfl ?_
  refine Ex.skip_ rfl rfl rfl ?_
  refine Ex.skip_ rfl rfl rfl ?_
  refine x_pickF rfl rfl rfl rfl rfl ?_
  refine x_move rfl rfl rfl rfl ?_
  refine Ex.skip_ rfl rfl rfl ?_
  refine Ex.skip_ rfl rfl rfl ?_
  refine Ex.skip_ rfl rfl rfl ?_
  refine Ex.skip_ rfl rfl rfl ?_
  refine Ex.skip_ rfl rfl rfl ?_
  refine x_pickF rfl rfl rfl rfl rfl ?_
  refine x_move rfl rfl rfl rfl ?_
  refine Ex.skip_ rfl rfl rfl ?_
  refine Ex.skip_ rfl rfl rfl ?_
  refine Ex.skip_ rfl rfl rfl ?_
  refine Ex.skip_ rfl rfl rfl ?_
  refine Ex.skip_ rfl rfl rfl ?_
  refine Ex.skip_ rfl rfl rfl ?_
  refine Ex.skip_ rfl rfl rfl ?_
  refine x_pickF rfl rfl rfl rfl rfl ?_
  refine x_move rfl rfl rfl rfl ?_
  refine Ex.skip_ rfl rfl rfl ?_
  refine Ex.skip_ rfl rfl rfl ?_
  refine Ex.skip_ rfl rfl rfl ?_
  refine Ex.skip_ rfl rfl rfl ?_
  refine Ex.skipm_ rfl rfl rfl ?_
  refine x_pickF rfl rfl rfl rfl rfl ?_
  refine x_assign rfl rfl rfl rfl ?_
  refine Ex.done (hK _ _ ?_)
  refine At.then_n ?_
  refine W.ret ?_
  refine At.ret1 (.tmp 4) rfl ⟨rfl, trivial⟩ ?_
  exact ⟨by rw [rs_no (.inl hsp1)], M.frm⟩
end Go.Proofs.YtigfbpbnohkokaaGreat
