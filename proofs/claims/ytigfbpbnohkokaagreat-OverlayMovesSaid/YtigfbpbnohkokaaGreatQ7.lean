/-
  Texts that belong together, laid into one file: O25, FwT, R19.
-/
import Derived.Test.YtigfbpbnohkokaaGreatQ6
namespace Go.Proofs.YtigfbpbnohkokaaGreat
open Go Go.Fw Go.RowKit Go.Proofs
set_option linter.unusedVariables false
set_option linter.unusedSimpArgs false

set_option maxRecDepth 100000 in
theorem overlayMoves_c {w0 : World} {v u : Value} {da mo nm : List UInt8} {b : Bool} (h : BytesAt w0 v da) (g : BytesAt w0 u mo) : Ret Tryz.prog 7 #[v, u, strV nm, .bool b] w0 fun r w' => r = .bool true ∧ New w0 w' := by
 have M : Sep w0 [] w0 := St.nil w0
 obtain ⟨pv, cv, rfl⟩ := h.shape
 obtain ⟨pu, cu, rfl⟩ := g.shape
 refine Ret.of_W Tryz.func7 rfl Tryz.ntmps7 rfl ?_
 refine W.seq ?_
 refine W.sub [(0, _), (1, _), (2, _), (3, _)] ⟨rfl, rfl, rfl, rfl, trivial⟩ ?_
 refine W.reg [(0, false)] (by kernel_rfl) ?_
 intro K hK
 refine x_assign rfl rfl rfl rfl ?_
 refine Ex.done (hK _ _ ?_)
 refine At.then_n ?_
 refine W.seq ?_
 refine W.seq ?_
 refine W.sub [(0, _), (1, _), (2, _), (3, _)] ⟨rfl, rfl, rfl, rfl, trivial⟩ ?_
 refine W.reg [(0, false), (1, false), (2, false), (3, false), (4, false), (5, false), (6, false), (7, false), (8, false), (9, false), (10, false), (11, false), (12, false)] (by kernel_rfl) ?_
 intro K hK
 refine x_move rfl rfl rfl rfl ?_
 refine x_len rfl rfl rfl rfl Tryz.underlying27 rfl ?_
 refine x_gtr _ rfl rfl rfl rfl rfl rfl ?_
 refine x_move rfl rfl rfl rfl ?_
 refine Ex.split 22 rfl (fun hsp1 => ?_) (fun hsp1 => ?_)
 ·
  try simp only [sA, sB, sC, sD, sE, sF, ne_eq, Bool.not_eq_eq_eq_not, Bool.not_true, Bool.not_false, sK, sL, Bool.not_not, gt_iff_lt, ge_iff_le] at hsp1
  refine Ex.skip_ rfl rfl rfl ?_
  refine Ex.skip_ rfl rfl rfl ?_
  refine Ex.skip_ rfl rfl rfl ?_
  refine x_pickT rfl rfl rfl rfl rfl ?_
  refine x_move rfl rfl rfl rfl ?_
  refine Ex.skip_ rfl rfl rfl ?_
  refine Ex.skip_ rfl rfl rfl ?_
  refine Ex.skip_ rfl rfl rfl ?_
  refine x_pickT rfl rfl rfl rfl rfl ?_
  refine Ex.done (hK _ _ ?_)
  refine At.then_n ?_
  refine W.condT rfl ?_
  refine W.seq ?_
  refine W.sub [] trivial ?_
  refine W.reg [(0, true), (1, false)] (by kernel_rfl) ?_
  intro K hK
  refine x_call rfl rfl rfl rfl rfl en11 (lives19_c) ?_
  rintro r_ wcall1 ⟨rfl, hncall1⟩
  have M := M.new hncall1
  refine ⟨trivial, ?_⟩
  refine x_assign rfl rfl rfl rfl ?_
  refine Ex.done (hK _ _ ?_)
  refine At.then_n ?_
  refine W.ret ?_
  refine At.then_r ?_
  refine At.ret1 (.tmp 8) rfl ⟨rfl, trivial⟩ ?_
  exact ⟨rfl, M.frm⟩
 ·
  try simp only [sA, sB, sC, sD, sE, sF, ne_eq, Bool.not_eq_eq_eq_not, Bool.not_true, Bool.not_false, sK, sL, Bool.not_not, gt_iff_lt, ge_iff_le] at hsp1
  refine x_move rfl rfl rfl rfl ?_
  refine x_len rfl rfl rfl rfl Tryz.underlying27 rfl ?_
  refine x_gtr _ rfl rfl rfl rfl rfl rfl ?_
  refine x_pickF rfl rfl rfl rfl rfl ?_
  refine x_move rfl rfl rfl rfl ?_
  refine Ex.split 27 rfl (fun hsp2 => ?_) (fun hsp2 => ?_)
  ·
   try simp only [sA, sB, sC, sD, sE, sF, ne_eq, Bool.not_eq_eq_eq_not, Bool.not_true, Bool.not_false, sK, sL, Bool.not_not, gt_iff_lt, ge_iff_le] at hsp2
   refine Ex.skip_ rfl rfl rfl ?_
   refine Ex.skip_ rfl rfl rfl ?_
   refine Ex.skip_ rfl rfl rfl ?_
   refine x_pickT rfl rfl rfl rfl rfl ?_
   refine Ex.done (hK _ _ ?_)
   refine At.then_n ?_
   refine W.condT rfl ?_
   refine W.seq ?_
   refine W.sub [] trivial ?_
   refine W.reg [(0, true), (1, false)] (by kernel_rfl) ?_
   intro K hK
   refine x_call rfl rfl rfl rfl rfl en11 (lives19_c) ?_
   rintro r_ wcall2 ⟨rfl, hncall2⟩
   have M := M.new hncall2
   refine ⟨trivial, ?_⟩
   refine x_assign rfl rfl rfl rfl ?_
   refine Ex.done (hK _ _ ?_)
   refine At.then_n ?_
   refine W.ret ?_
   refine At.then_r ?_
   refine At.ret1 (.tmp 8) rfl ⟨rfl, trivial⟩ ?_
   exact ⟨rfl, M.frm⟩
  ·
   try simp only [sA, sB, sC, sD, sE, sF, ne_eq, Bool.not_eq_eq_eq_not, Bool.not_true, Bool.not_false, sK, sL, Bool.not_not, gt_iff_lt, ge_iff_le] at hsp2
   refine x_move rfl rfl rfl rfl ?_
   refine x_lenS rfl rfl rfl rfl Tryz.underlying9 rfl ?_
   refine x_gtr _ rfl rfl rfl rfl rfl rfl ?_
   refine x_pickF rfl rfl rfl rfl rfl ?_
   refine Ex.done (hK _ _ ?_)
   refine At.then_n ?_
   refine W.cond rfl (fun hco3 => ?_) (fun hco3 => ?_)
   ·try simp only [sA, sB, sC, sD, sE, sF, ne_eq, Bool.not_eq_eq_eq_not, Bool.not_true, Bool.not_false, sK, sL, Bool.not_not, gt_iff_lt, ge_iff_le] at hco3
    refine W.seq ?_
    refine W.sub [] trivial ?_
    refine W.reg [(0, true), (1, false)] (by kernel_rfl) ?_
    intro K hK
    refine x_call rfl rfl rfl rfl rfl en11 (lives19_c) ?_
    rintro r_ wcall3 ⟨rfl, hncall3⟩
    have M := M.new hncall3
    refine ⟨trivial, ?_⟩
    refine x_assign rfl rfl rfl rfl ?_
    refine Ex.done (hK _ _ ?_)
    refine At.then_n ?_
    refine W.ret ?_
    refine At.then_r ?_
    refine At.ret1 (.tmp 8) rfl ⟨rfl, trivial⟩ ?_
    exact ⟨rfl, M.frm⟩
   ·try simp only [sA, sB, sC, sD, sE, sF, ne_eq, Bool.not_eq_eq_eq_not, Bool.not_true, Bool.not_false, sK, sL, Bool.not_not, gt_iff_lt, ge_iff_le] at hco3
    refine W.skip ?_
    refine At.then_n ?_
    refine W.seq ?_
    refine W.sub [(0, _), (1, _), (2, _), (3, _)] ⟨rfl, rfl, rfl, rfl, trivial⟩ ?_
    refine W.reg [(0, false), (1, false), (2, true), (3, true), (4, false), (5, false), (6, false), (7, false), (8, false), (9, false), (10, false)] (by kernel_rfl) ?_
    intro K hK
    refine x_move rfl rfl rfl rfl ?_
    refine x_build [_, _, _] rfl rfl rfl pl29 ze29 rfl rfl rfl ?_
    refine x_bs1 (cs := [strV [100, 47, 97], .bool false, .slice pv da.length cv]) rfl rfl rfl Tryz.underlying24 sz29 ze29 (Z := [_, _, _]) rfl rfl (by decide) (by decide) rfl rfl rfl ?_
    intro bbs1 wbs1 hbbs1 hwbs1
    have M : Sep w0 ([(bbs1, .cells [strV [100, 47, 97], .bool false, .slice pv da.length cv].toArray 29 (0, 0))] ++ []) wbs1 := M.acons hbbs1 hwbs1
    have hFz : FilesK w0 [(bbs1, .cells [strV [100, 47, 97], .bool false, .slice pv da.length cv].toArray 29 (0, 0))] (.slice (some ⟨bbs1, 0, none⟩) 1 1) [([100, 47, 97], false, da)] := ⟨[(([100, 47, 97], false, da), .slice pv da.length cv)], rfl, SgK.slL (.inr ⟨bbs1, 0, 1, _, _, _, rfl, Nat.le_refl _, List.mem_cons_self, rfl, rfl⟩) (fun _ h => h), fun f hf => by rw [List.mem_singleton.1 hf]; exact ⟨SgK.old h, rfl⟩⟩
    refine ⟨trivial, ?_⟩
    refine x_call rfl rfl rfl rfl rfl en15 (made_o M hFz (by show 1 ≤ 1000; decide)) ?_
    rintro r_ w4 ⟨po, bs, rfl, hbad, hgood⟩
    have hz0 := made_d (d := da) (by omega)
    obtain ⟨I, rfl, hIb, hIs, M⟩ := hgood hz0
    rw [new_d (by omega)] at M
    rw [hz0]
    have M : OvW w0 [] I (l0m da) (fun _ _ => none) w4 := M
    refine ⟨trivial, ?_⟩
    refine x_move rfl rfl rfl rfl ?_
    refine x_ext rfl rfl rfl rfl rfl ?_
    refine x_ext rfl rfl rfl rfl rfl ?_
    refine x_ext rfl rfl rfl rfl rfl ?_
    refine x_assign rfl rfl rfl rfl ?_
    refine x_assign rfl rfl rfl rfl ?_
    refine x_assign rfl rfl rfl rfl ?_
    refine Ex.done (hK _ _ ?_)
    refine At.then_n ?_
    refine W.seq ?_
    refine W.seq ?_
    refine W.sub [(0, _), (1, _), (2, _), (3, _), (9, _), (11, _)] ⟨rfl, rfl, rfl, rfl, rfl, rfl, trivial⟩ ?_
    refine W.reg [(0, false), (1, false), (2, false), (3, false), (4, false), (5, false), (6, false), (7, false), (8, false), (9, true), (10, false), (11, false), (12, false)] (by kernel_rfl) ?_
    intro K hK
    refine x_move rfl rfl rfl rfl ?_
    refine x_nei false rfl rfl rfl rfl rfl rfl ?_
    refine x_move rfl rfl rfl rfl ?_
    refine x_move rfl rfl rfl rfl ?_
    refine x_eqpn false rfl rfl rfl Tryz.underlying34 rfl rfl rfl ?_
    refine x_pickF rfl rfl rfl rfl rfl ?_
    refine x_move rfl rfl rfl rfl ?_
    refine x_move rfl rfl rfl rfl ?_
    refine x_build [_, _, _, _, _, _, _, _, _] rfl rfl rfl pl52 ze52 rfl rfl rfl ?_
    refine x_call rfl rfl rfl rfl rfl en16 (do_e (who := 0) (o := mo1) (dv := .slice none 0 0) M (fun _ _ _ _ => .inr (.inl ⟨rfl, rfl, rfl⟩)) (open_d da)) ?_
    rintro r_ wcall5 ⟨pcall5, ccall5, qcall5, dcall5, ncall5, Lacall5, Lbcall5, rfl, hbcall5, hscall5, M⟩
    refine ⟨trivial, ?_⟩
    refine x_fd (k := 1) rfl rfl rfl (by kernel_rfl) rfl rfl ?_
    refine x_nei false rfl rfl rfl rfl rfl rfl ?_
    refine x_pickF rfl rfl rfl rfl rfl ?_
    refine Ex.done (hK _ _ ?_)
    refine At.then_n ?_
    refine W.condF rfl ?_
    refine W.skip ?_
    refine At.then_n ?_
    refine W.seq ?_
    refine W.sub [(0, _), (1, _), (2, _), (3, _), (9, _)] ⟨rfl, rfl, rfl, rfl, rfl, trivial⟩ ?_
    refine W.reg [(0, false), (1, false)] (by kernel_rfl) ?_
    intro K hK
    refine x_assign rfl rfl rfl rfl ?_
    refine x_assign rfl rfl rfl rfl ?_
    refine Ex.done (hK _ _ ?_)
    refine At.then_n ?_
    refine W.sub [(0, _), (1, _), (2, _), (3, _), (9, _), (12, _), (13, _)] ⟨rfl, rfl, rfl, rfl, rfl, rfl, rfl, trivial⟩ ?_
    refine W.seqC (fun F' w' => F' = [(0, .slice pv da.length cv), (1, .slice pu mo.length cu), (2, strV nm), (9, ptr I.bf), (12, strV (fromM b)), (13, strV (behM b))] ∧ OvW w0 [] I (l0m da) hf1m w') ?_ ?_
    ·refine W.seq ?_
     refine W.sub [(0, _), (1, _), (2, _), (3, _), (9, _), (12, _), (13, _)] ⟨rfl, rfl, rfl, rfl, rfl, rfl, rfl, trivial⟩ ?_
     refine W.reg [(0, false)] (by kernel_rfl) ?_
     intro K hK
     refine x_move rfl rfl rfl rfl ?_
     refine Ex.done (hK _ _ ?_)
     refine At.then_n ?_
     refine W.cond rfl (fun hco5 => ?_) (fun hco5 => ?_)
     ·try simp only [sA, sB, sC, sD, sE, sF, ne_eq, Bool.not_eq_eq_eq_not, Bool.not_true, Bool.not_false, sK, sL, Bool.not_not, gt_iff_lt, ge_iff_le] at hco5
      refine W.sub [(0, _), (1, _), (2, _), (9, _)] ⟨rfl, rfl, rfl, rfl, trivial⟩ ?_
      refine W.reg [(0, false), (1, false)] (by kernel_rfl) ?_
      intro K hK
      refine x_assign rfl rfl rfl rfl ?_
      refine x_assign rfl rfl rfl rfl ?_
      refine Ex.done (hK _ _ ?_)
      refine At.sub [(0, _), (1, _), (2, _), (9, _), (12, _), (13, _)] ⟨rfl, rfl, rfl, rfl, rfl, rfl, trivial⟩ ?_
      refine At.cut_n ?_
      exact ⟨by rw [hco5]; rfl, M.sub (List.nil_sublist _)⟩
     ·try simp only [sA, sB, sC, sD, sE, sF, ne_eq, Bool.not_eq_eq_eq_not, Bool.not_true, Bool.not_false, sK, sL, Bool.not_not, gt_iff_lt, ge_iff_le] at hco5
      refine W.skip ?_
      refine At.sub [(0, _), (1, _), (2, _), (9, _), (12, _), (13, _)] ⟨rfl, rfl, rfl, rfl, rfl, rfl, trivial⟩ ?_
      refine At.cut_n ?_
      exact ⟨by rw [hco5]; rfl, M.sub (List.nil_sublist _)⟩
    rintro F1 wc ⟨rfl, M⟩
    refine W.seq ?_
    refine W.seq ?_
    refine W.sub [(0, _), (1, _), (2, _), (9, _), (12, _), (13, _)] ⟨rfl, rfl, rfl, rfl, rfl, rfl, trivial⟩ ?_
    refine W.reg [(0, false), (1, false), (2, false), (3, false), (4, true), (5, false), (6, false)] (by kernel_rfl) ?_
    intro K hK
    refine x_move rfl rfl rfl rfl ?_
    refine x_move rfl rfl rfl rfl ?_
    refine x_move rfl rfl rfl rfl ?_
    refine x_build [_, _, _, _, _, _, _, _, _] rfl rfl rfl pl52 ze52 rfl rfl rfl ?_
    refine x_call rfl rfl rfl rfl rfl en16 (do_o (who := 1) (o := mo2 b nm) (dv := .slice none 0 0) M (fun _ _ _ _ => .inr (.inl ⟨rfl, rfl, rfl⟩))) ?_
    rintro r_ wcall6 ⟨pcall6, ccall6, qcall6, dcall6, ncall6, Lacall6, Lbcall6, rfl, hbcall6, hscall6, M⟩
    have hrd := ren_d da nm b
    generalize hR : doS (l0m da) hf1m 1 (mo2 b nm) = R at *
    refine ⟨trivial, ?_⟩
    refine x_fd (k := 0) rfl rfl rfl (by kernel_rfl) rfl rfl ?_
    refine x_nei _ rfl rfl rfl rfl rfl rfl ?_
    refine Ex.done (hK _ _ ?_)
    refine At.then_n ?_
    refine W.cond rfl (fun hco6 => ?_) (fun hco6 => ?_)
    ·try simp only [sA, sB, sC, sD, sE, sF, ne_eq, Bool.not_eq_eq_eq_not, Bool.not_true, Bool.not_false, sK, sL, Bool.not_not, gt_iff_lt, ge_iff_le] at hco6
     rcases hrd with ⟨_, hE⟩ | ⟨h1, _⟩
     rotate_left
     ·exact absurd h1 hco6
     rw [hE] at M
     refine W.seq ?_
     refine W.sub [(9, _)] ⟨rfl, trivial⟩ ?_
     refine W.reg [(0, false), (1, true), (2, false), (3, false), (4, true), (5, false), (6, false)] (by kernel_rfl) ?_
     intro K hK
     refine x_move rfl rfl rfl rfl ?_
     refine x_call rfl rfl rfl rfl rfl en21 (ffile_o M) ?_
     rintro r_ wcall7 ⟨rfl, rfl⟩
     refine ⟨trivial, ?_⟩
     refine x_eqS true rfl rfl rfl rfl rfl (decide_eq_true rfl) ?_
     refine x_move rfl rfl rfl rfl ?_
     refine x_call rfl rfl rfl rfl rfl en11 (lives19_c) ?_
     rintro r_ wcall8 ⟨rfl, hncall8⟩
     have M := M.new hncall8
     refine ⟨trivial, ?_⟩
     refine x_pickT rfl rfl rfl rfl rfl ?_
     refine x_assign rfl rfl rfl rfl ?_
     refine Ex.done (hK _ _ ?_)
     refine At.then_n ?_
     refine W.ret ?_
     refine At.then_r ?_
     refine At.ret1 (.tmp 8) rfl ⟨rfl, trivial⟩ ?_
     exact ⟨rfl, M.frm⟩
    ·try simp only [sA, sB, sC, sD, sE, sF, ne_eq, Bool.not_eq_eq_eq_not, Bool.not_true, Bool.not_false, sK, sL, Bool.not_not, gt_iff_lt, ge_iff_le] at hco6
     rcases hrd with ⟨h1, _⟩ | ⟨_, t, h1, h2, h3, h4⟩
     ·exact absurd hco6 h1
     have e9 := M.reads (who := 0) (o := mo3) (wr := true) (by omega) h1 rfl h3 (by decide) (by decide)
     rw [show (da.drop mo3.a.toNat).take mo3.n.toNat = da by show (da.drop 0).take 65536 = da; rw [List.drop_zero, List.take_of_length_le (by omega)]] at e9
     refine W.skip ?_
     refine At.then_n ?_
     refine W.seq ?_
     refine W.sub [(0, _), (1, _), (9, _), (13, _)] ⟨rfl, rfl, rfl, rfl, trivial⟩ ?_
     refine W.reg [(0, false), (1, false), (2, true), (3, true), (4, true)] (by kernel_rfl) ?_
     intro K hK
     refine x_move rfl rfl rfl rfl ?_
     refine x_build [_, _, _, _, _, _, _, _, _] rfl rfl rfl pl52 ze52 rfl rfl rfl ?_
     refine x_call rfl rfl rfl rfl rfl en16 (do_e (who := 0) (o := mo3) (dv := .slice none 0 0) M (fun _ _ _ _ => .inr (.inl ⟨rfl, rfl, rfl⟩)) e9) ?_
     rintro r_ wcall9 ⟨pcall9, ccall9, qcall9, dcall9, ncall9, Lacall9, Lbcall9, rfl, hbcall9, hscall9, M⟩
     refine ⟨trivial, ?_⟩
     refine x_alloc [_, _, _, _, _] rfl rfl rfl ze49 rfl ?_
     intro bal1 wal1 hbal1 hwal1
     have M := M.acons hbal1 hwal1
     refine ⟨trivial, ?_⟩
     refine x_st [_, _, _, _, _] _ rfl rfl rfl sz49 rfl rfl rfl rfl (by first | exact M.at_ 0 rfl | exact M.at_ 1 rfl | exact M.at_ 2 rfl | exact M.at_ 3 rfl | exact M.at_ 4 rfl | exact M.at_ 5 rfl | exact M.at_ 6 rfl | exact M.at_ 7 rfl) rfl rfl rfl ?_
     intro wst1 hwst1
     have M := M.put 0 rfl hwst1
     have hwr := M.writes (who := 0) (o := mo4 mo) (by omega) h1 rfl h3 (Int.le_refl 0) (by show (0 : Int) + (mo.length : Int) ≤ 65536; omega) (by rw [h4]; show da.length + max da.length (0 + mo.length) ≤ 262144 + da.length; omega)
     refine ⟨trivial, ?_⟩
     refine Ex.done (hK _ _ ?_)
     refine At.then_n ?_
     refine W.seq ?_
     refine W.sub [(0, _), (1, _), (9, _), (13, _), (14, _)] ⟨rfl, rfl, rfl, rfl, rfl, trivial⟩ ?_
     refine W.reg [(0, false), (1, false), (2, false), (3, true), (4, true), (5, true)] (by kernel_rfl) ?_
     intro K hK
     refine x_move rfl rfl rfl rfl ?_
     refine x_move rfl rfl rfl rfl ?_
     refine x_build [_, _, _, _, _, _, _, _, _] rfl rfl rfl pl52 ze52 rfl rfl rfl ?_
     refine x_call rfl rfl rfl rfl rfl en16 (do_o (who := 0) (o := mo4 mo) (dv := .slice pu mo.length cu) M (fun w Y hY _ => g.new hY.frm)) ?_
     rintro r_ wcall10 ⟨pcall10, ccall10, qcall10, dcall10, ncall10, Lacall10, Lbcall10, rfl, hbcall10, hscall10, M⟩
     generalize hR2 : doS R.2.1 R.2.2 0 (mo4 mo) = R2 at *
     obtain ⟨g1, g2, g3, g4⟩ := hwr
     rw [g3] at M
     refine ⟨trivial, ?_⟩
     refine x_alloc [_, _, _, _, _] rfl rfl rfl ze49 rfl ?_
     intro bal2 wal2 hbal2 hwal2
     have M := M.acons hbal2 hwal2
     refine ⟨trivial, ?_⟩
     refine x_st [_, _, _, _, _] _ rfl rfl rfl sz49 rfl rfl rfl rfl (by first | exact M.at_ 0 rfl | exact M.at_ 1 rfl | exact M.at_ 2 rfl | exact M.at_ 3 rfl | exact M.at_ 4 rfl | exact M.at_ 5 rfl | exact M.at_ 6 rfl | exact M.at_ 7 rfl) rfl rfl rfl ?_
     intro wst2 hwst2
     have M := by first | exact M.put 0 rfl hwst2 | exact M.put 1 rfl hwst2 | exact M.put 2 rfl hwst2 | exact M.put 3 rfl hwst2 | exact M.put 4 rfl hwst2 | exact M.put 5 rfl hwst2 | exact M.put 6 rfl hwst2 | exact M.put 7 rfl hwst2
     refine ⟨trivial, ?_⟩
     refine Ex.done (hK _ _ ?_)
     refine At.then_n ?_
     refine W.seq ?_
     refine W.sub [(0, _), (1, _), (9, _), (13, _), (14, _), (15, _)] ⟨rfl, rfl, rfl, rfl, rfl, rfl, trivial⟩ ?_
     refine W.reg [(0, false), (1, true), (2, false)] (by kernel_rfl) ?_
     intro K hK
     refine x_move rfl rfl rfl rfl ?_
     refine x_call rfl rfl rfl rfl rfl en21 (ffile_o M) ?_
     rintro r_ wcall11 ⟨rfl, rfl⟩
     rw [show fileH R.2.2 0 1 = t ++ behM b by unfold fileH; rw [h1]]
     have e12 := M.opens (who := 2) (o := mo5 (t ++ behM b)) (by omega) rfl g4 rfl (lowH_none h2)
     refine ⟨trivial, ?_⟩
     refine x_assign rfl rfl rfl rfl ?_
     refine Ex.done (hK _ _ ?_)
     refine At.then_n ?_
     refine W.seq ?_
     refine W.sub [(0, _), (1, _), (9, _), (13, _), (14, _), (15, _), (16, _)] ⟨rfl, rfl, rfl, rfl, rfl, rfl, rfl, trivial⟩ ?_
     refine W.reg [(0, false), (1, false), (2, false), (3, true), (4, true), (5, true)] (by kernel_rfl) ?_
     intro K hK
     refine x_move rfl rfl rfl rfl ?_
     refine x_move rfl rfl rfl rfl ?_
     refine x_build [_, _, _, _, _, _, _, _, _] rfl rfl rfl pl52 ze52 rfl rfl rfl ?_
     refine x_call rfl rfl rfl rfl rfl en16 (do_e (who := 2) (o := mo5 (t ++ behM b)) (dv := .slice none 0 0) M (fun _ _ _ _ => .inr (.inl ⟨rfl, rfl, rfl⟩)) e12) ?_
     rintro r_ wcall12 ⟨pcall12, ccall12, qcall12, dcall12, ncall12, Lacall12, Lbcall12, rfl, hbcall12, hscall12, M⟩
     have e13 := M.reads (who := 2) (o := mo6 mo.length) (wr := false) (by omega) (by unfold setH; rw [if_pos ⟨rfl, rfl⟩]; rfl) rfl g4 (Int.le_refl 0) (by show (0 : Int) ≤ (mo.length : Int); omega)
     rw [show ∀ dd : List UInt8, (dd.drop (mo6 mo.length).a.toNat).take (mo6 mo.length).n.toNat = (dd.drop 0).take mo.length from fun dd => by show (dd.drop 0).take ((mo.length : Nat) : Int).toNat = _; rw [Int.toNat_natCast]] at e13
     rw [show ((if (mo4 mo).d = [] then da else writeB da (mo4 mo).d (mo4 mo).a.toNat).drop 0).take mo.length = mo from writeB_self] at e13
     refine ⟨trivial, ?_⟩
     refine x_alloc [_, _, _, _, _] rfl rfl rfl ze49 rfl ?_
     intro bal3 wal3 hbal3 hwal3
     have M := M.acons hbal3 hwal3
     refine ⟨trivial, ?_⟩
     refine x_st [_, _, _, _, _] _ rfl rfl rfl sz49 rfl rfl rfl rfl (by first | exact M.at_ 0 rfl | exact M.at_ 1 rfl | exact M.at_ 2 rfl | exact M.at_ 3 rfl | exact M.at_ 4 rfl | exact M.at_ 5 rfl | exact M.at_ 6 rfl | exact M.at_ 7 rfl) rfl rfl rfl ?_
     intro wst3 hwst3
     have M := by first | exact M.put 0 rfl hwst3 | exact M.put 1 rfl hwst3 | exact M.put 2 rfl hwst3 | exact M.put 3 rfl hwst3 | exact M.put 4 rfl hwst3 | exact M.put 5 rfl hwst3 | exact M.put 6 rfl hwst3 | exact M.put 7 rfl hwst3
     refine ⟨trivial, ?_⟩
     refine Ex.done (hK _ _ ?_)
     refine At.then_n ?_
     refine W.seq ?_
     refine W.sub [(0, _), (1, _), (9, _), (13, _), (14, _), (15, _), (16, _), (17, _)] ⟨rfl, rfl, rfl, rfl, rfl, rfl, rfl, rfl, trivial⟩ ?_
     refine W.reg [(0, false), (1, false), (2, false), (3, false), (4, false), (5, false), (6, true), (7, true), (8, true)] (by kernel_rfl) ?_
     intro K hK
     refine x_move rfl rfl rfl rfl ?_
     refine x_fa rfl rfl rfl fo49_1 rfl ?_
     refine x_ld rfl rfl rfl Tryz.underlying3 rfl rfl (cell_of (by first | exact M.at_ 0 rfl | exact M.at_ 1 rfl | exact M.at_ 2 rfl | exact M.at_ 3 rfl | exact M.at_ 4 rfl | exact M.at_ 5 rfl | exact M.at_ 6 rfl | exact M.at_ 7 rfl) rfl) ?_
     refine x_move rfl rfl rfl rfl ?_
     refine x_len rfl rfl rfl rfl Tryz.underlying27 rfl ?_
     refine x_build [_, _, _, _, _, _, _, _, _] rfl rfl rfl pl52 ze52 rfl rfl rfl ?_
     refine x_call rfl rfl rfl rfl rfl en16 (do_e (who := 2) (o := mo6 mo.length) (dv := .slice none 0 0) M (fun _ _ _ _ => .inr (.inl ⟨rfl, rfl, rfl⟩)) e13) ?_
     rintro r_ wcall13 ⟨pcall13, ccall13, qcall13, dcall13, ncall13, Lacall13, Lbcall13, rfl, hbcall13, hscall13, M⟩
     have hpl := M.nlen g4
     simp only [List.length_append] at hpl
     refine ⟨trivial, ?_⟩
     refine x_alloc [_, _, _, _, _] rfl rfl rfl ze49 rfl ?_
     intro bal4 wal4 hbal4 hwal4
     have M := M.acons hbal4 hwal4
     refine ⟨trivial, ?_⟩
     refine x_st [_, _, _, _, _] _ rfl rfl rfl sz49 rfl rfl rfl rfl (by first | exact M.at_ 0 rfl | exact M.at_ 1 rfl | exact M.at_ 2 rfl | exact M.at_ 3 rfl | exact M.at_ 4 rfl | exact M.at_ 5 rfl | exact M.at_ 6 rfl | exact M.at_ 7 rfl) rfl rfl rfl ?_
     intro wst4 hwst4
     have M := by first | exact M.put 0 rfl hwst4 | exact M.put 1 rfl hwst4 | exact M.put 2 rfl hwst4 | exact M.put 3 rfl hwst4 | exact M.put 4 rfl hwst4 | exact M.put 5 rfl hwst4 | exact M.put 6 rfl hwst4 | exact M.put 7 rfl hwst4
     refine ⟨trivial, ?_⟩
     refine Ex.done (hK _ _ ?_)
     refine At.then_n ?_
     refine W.seq ?_
     refine W.sub [(0, _), (1, _), (13, _), (14, _), (15, _), (16, _), (18, _)] ⟨rfl, rfl, rfl, rfl, rfl, rfl, rfl, trivial⟩ ?_
     refine W.reg [(0, false), (1, false), (2, false), (3, false), (4, false), (5, false), (6, false), (7, false), (8, false), (9, false), (10, false), (11, false), (12, false), (13, false), (14, false), (15, false), (16, false), (17, false), (18, false), (19, false), (20, false), (21, false), (22, false), (23, false), (24, false), (25, false), (26, false), (27, false), (28, false), (29, false), (30, false), (31, false), (32, false), (33, false), (34, false), (35, false), (36, false), (37, false), (38, false), (39, false), (40, false), (41, false), (42, false), (43, false), (44, false), (45, true), (46, false), (47, false)] (by kernel_rfl) ?_
     intro K hK
     refine x_fa rfl rfl rfl fo49_3 rfl ?_
     refine x_ld rfl rfl rfl Tryz.underlying27 rfl rfl (cell_of (M.get (x := (bal1, .cells [.int .i64 0, .int .i64 0, .int .i64 0, .slice pcall9 da.length ccall9, .slice qcall9 ncall9 dcall9].toArray 49 (0, 0))) (by simp)) rfl) ?_
     refine x_cvbs _ rfl rfl rfl Tryz.underlying27 Tryz.underlying5 Tryz.underlying9 rfl (strOf_bytes (bytesO_get hbcall9 (fun y hy => M.get (by simp [hy])))) ?_
     refine x_move rfl rfl rfl rfl ?_
     refine x_cvbs _ rfl rfl rfl Tryz.underlying27 Tryz.underlying5 Tryz.underlying9 rfl (strOf_bytes (h.new M.frm)) ?_
     refine x_eqS true rfl rfl rfl rfl rfl (decide_eq_true rfl) ?_
     refine x_move rfl rfl rfl rfl ?_
     refine x_fa rfl rfl rfl fo49_0 rfl ?_
     refine x_ld rfl rfl rfl Tryz.underlying35 rfl rfl (cell_of (M.get (x := (bal2, .cells [.int .i64 R2.1.e, .int .i64 R2.1.h, .int .i64 R2.1.n, .slice pcall10 R2.1.d.length ccall10, .slice qcall10 ncall10 dcall10].toArray 49 (0, 0))) (by simp)) rfl) ?_
     refine x_eqi true rfl rfl rfl rfl rfl (by rw [g1]; rfl) ?_
     refine x_pickT rfl rfl rfl rfl rfl ?_
     refine x_move rfl rfl rfl rfl ?_
     refine x_fa rfl rfl rfl fo49_2 rfl ?_
     refine x_ld rfl rfl rfl Tryz.underlying3 rfl rfl (cell_of (M.get (x := (bal2, .cells [.int .i64 R2.1.e, .int .i64 R2.1.h, .int .i64 R2.1.n, .slice pcall10 R2.1.d.length ccall10, .slice qcall10 ncall10 dcall10].toArray 49 (0, 0))) (by simp)) rfl) ?_
     refine x_move rfl rfl rfl rfl ?_
     refine x_len rfl rfl rfl rfl Tryz.underlying27 rfl ?_
     refine x_eqi true rfl rfl rfl rfl rfl (by rw [g2]; simp [mo4]) ?_
     refine x_pickT rfl rfl rfl rfl rfl ?_
     refine x_move rfl rfl rfl rfl ?_
     refine x_fa rfl rfl rfl fo49_3 rfl ?_
     refine x_ld rfl rfl rfl Tryz.underlying27 rfl rfl (cell_of (M.get (x := (bal4, .cells [.int .i64 0, .int .i64 0, .int .i64 0, .slice pcall13 mo.length ccall13, .slice qcall13 ncall13 dcall13].toArray 49 (0, 0))) (by simp)) rfl) ?_
     refine x_cvbs _ rfl rfl rfl Tryz.underlying27 Tryz.underlying5 Tryz.underlying9 rfl (strOf_bytes (bytesO_get hbcall13 (fun y hy => M.get (by simp [hy])))) ?_
     refine x_move rfl rfl rfl rfl ?_
     refine x_cvbs _ rfl rfl rfl Tryz.underlying27 Tryz.underlying5 Tryz.underlying9 rfl (strOf_bytes (g.new M.frm)) ?_
     refine x_eqS true rfl rfl rfl rfl rfl (decide_eq_true rfl) ?_
     refine x_pickT rfl rfl rfl rfl rfl ?_
     refine x_move rfl rfl rfl rfl ?_
     refine x_move rfl rfl rfl rfl ?_
     refine x_lenS rfl rfl rfl rfl Tryz.underlying9 rfl ?_
     refine x_move rfl rfl rfl rfl ?_
     refine x_lenS rfl rfl rfl rfl Tryz.underlying9 rfl ?_
     refine x_geq true rfl rfl rfl rfl rfl (by simp; omega) ?_
     refine x_pickT rfl rfl rfl rfl rfl ?_
     refine x_move rfl rfl rfl rfl ?_
     refine x_move rfl rfl rfl rfl ?_
     refine x_move rfl rfl rfl rfl ?_
     refine x_lenS rfl rfl rfl rfl Tryz.underlying9 rfl ?_
     refine x_move rfl rfl rfl rfl ?_
     refine x_lenS rfl rfl rfl rfl Tryz.underlying9 rfl ?_
     refine x_sub ((t.length : Nat) : Int) rfl rfl rfl rfl rfl (by rw [List.length_append, wsub (by omega) (by omega)]; omega) ?_
     refine x_sslS t.length rfl rfl rfl Tryz.underlying9 rfl rfl rfl (by simp) ?_
     refine x_move rfl rfl rfl rfl ?_
     refine x_eqS true rfl rfl rfl rfl rfl (decide_eq_true (by simp)) ?_
     refine x_pickT rfl rfl rfl rfl rfl ?_
     refine x_move rfl rfl rfl rfl ?_
     refine x_call rfl rfl rfl rfl rfl en11 (lives19_c) ?_
     rintro r_ wcall14 ⟨rfl, hncall14⟩
     have M := M.new hncall14
     refine ⟨trivial, ?_⟩
     refine x_pickT rfl rfl rfl rfl rfl ?_
     refine x_assign rfl rfl rfl rfl ?_
     refine Ex.done (hK _ _ ?_)
     refine At.then_n ?_
     refine W.ret ?_
     refine At.ret1 (.tmp 8) rfl ⟨rfl, trivial⟩ ?_
     exact ⟨rfl, M.frm⟩
end Go.Proofs.YtigfbpbnohkokaaGreat

namespace Go.Fw
open Go Go.ChangeShapes Go.WideShapes Go.ChangeAt Go.RowKit
set_option linter.unusedVariables false
set_option linter.unusedSimpArgs false
section
variable {H : Type} {enc : TypeId × Value → H} {P : Program} {W : World} {sp : Nat → Bool}
end
end Go.Fw

namespace Go.Proofs.YtigfbpbnohkokaaGreat
open Go Go.Fw Go.ChangeShapes Go.WideShapes Go.ChangeAt Go.RowKit
set_option linter.unusedVariables false
set_option linter.unusedSimpArgs false

theorem cByte : Tryz.prog.cellsOf 5 = 1 := by kernel_rfl
section
variable {H : Type} {enc : TypeId × Value → H} {W : World} {sp : Nat → Bool}
def BytesR (W : World) (a : Value × List UInt8) (d : DataW H) : Prop := BytesAt W a.1 a.2
theorem Rd.weak {P : Program} {t : TypeId} {α : Type} {e1 : α → List Value} {R R' : α → DataW H → Prop} (h : Rd enc P W sp t e1 R) (hR : ∀ a d, R a d → R' a d) : Rd enc P W sp t e1 R' := fun fuel cs x hx =>
 let ⟨a, h1, h2⟩ := h fuel cs x hx; ⟨a, h1, hR a _ h2⟩
theorem rd_byt : Rd enc Tryz.prog W sp 27 (fun a : Value × List UInt8 => [a.1]) (BytesR W) := Rd.weak (rd_bytes Tryz.underlying27 Tryz.underlying5 cByte) fun _ _ h => h.1
end
end Go.Proofs.YtigfbpbnohkokaaGreat
