/-
  Texts that belong together, laid into one file: O1, U5, O2, O3, U6, FwO, O4, U7, O5, O6, U8, U9, O7, U10, O8.
-/
import Derived.Test.YtigfbpbnohkokaaGreatQ4
namespace Go.Proofs.YtigfbpbnohkokaaGreat
open Go Go.Fw Go.RowKit Go.Proofs
set_option linter.unusedVariables false
set_option linter.unusedSimpArgs false

set_option maxRecDepth 100000 in
theorem fail_c {w0 : World} {e : Int}  : Ret Tryz.prog 40 #[.int .i64 e] w0 fun r w' => r = rsV (badS e) (.slice none 0 0) (.slice none 0 0) ∧ New w0 w' := by
 have M : Sep w0 [] w0 := St.nil w0
 refine Ret.of_W Tryz.func40 rfl Tryz.ntmps40 rfl ?_
 refine W.seq ?_
 refine W.sub [(0, _)] ⟨rfl, trivial⟩ ?_
 refine W.reg [(0, true)] (by kernel_rfl) ?_
 intro K hK
 refine x_alloc [_, _, _, _, _] rfl rfl rfl ze49 rfl ?_
 intro bal1 wal1 hbal1 hwal1
 have M := M.acons hbal1 hwal1
 refine ⟨trivial, ?_⟩
 refine Ex.done (hK _ _ ?_)
 refine At.then_n ?_
 refine W.seq ?_
 refine W.sub [(0, _), (2, _)] ⟨rfl, rfl, trivial⟩ ?_
 refine W.reg [(0, false), (1, false), (2, true)] (by kernel_rfl) ?_
 intro K hK
 refine x_move rfl rfl rfl rfl ?_
 refine x_build [_, _, _, _, _] rfl rfl rfl pl49 ze49 rfl rfl rfl ?_
 refine x_st [_, _, _, _, _] _ rfl rfl rfl sz49 rfl rfl rfl rfl (M.at_ 0 rfl) rfl rfl rfl ?_
 intro wst1 hwst1
 have M := M.put 0 rfl hwst1
 refine ⟨trivial, ?_⟩
 refine Ex.done (hK _ _ ?_)
 refine At.then_n ?_
 refine W.ret ?_
 refine At.ret1 (.cell 2 49) rfl ⟨⟨_, rfl, run_loadVarA (l := [_, _, _, _, _]) Tryz.underlying49 rfl sz49 ⟨_, _, _, (M.at_ 0 rfl), rfl⟩ (Nat.zero_lt_succ _)⟩, trivial⟩ ?_
 exact ⟨rfl, M.frm⟩

set_option maxRecDepth 100000 in
theorem length_c {w0 : World} {c : Con} {base : BaseF} (hb : w0.heap[c.b]? = some c.hd.2) (hOK : c.OK base) : Ret Tryz.prog 48 #[ptr c.b] w0 fun r w' => r = .int .i64 (c.d.length : Int) ∧ w0 = w' := by
 have hcs : w0.heap[c.b]? = some (.cells c.cs.toArray 104 (0, 0)) := hb
 refine Ret.of_W Tryz.func48 rfl Tryz.ntmps48 rfl ?_
 refine W.seq ?_
 refine W.sub [(0, _)] ⟨rfl, trivial⟩ ?_
 refine W.reg [(0, false)] (by kernel_rfl) ?_
 intro K hK
 refine x_assign rfl rfl rfl rfl ?_
 refine Ex.done (hK _ _ ?_)
 refine At.then_n ?_
 refine W.seq ?_
 refine W.seq ?_
 refine W.sub [(0, _)] ⟨rfl, trivial⟩ ?_
 refine W.reg [(0, false), (1, false), (2, false), (3, false)] (by kernel_rfl) ?_
 intro K hK
 refine x_move rfl rfl rfl rfl ?_
 refine x_nil rfl rfl rfl rfl rfl ?_
 refine x_fa rfl rfl rfl fo104_0 rfl ?_
 refine x_ld rfl rfl rfl Tryz.underlying4 rfl rfl (cell_of hcs rfl) ?_
 refine Ex.done (hK _ _ ?_)
 refine At.then_n ?_
 refine W.cond rfl (fun hco1 => ?_) (fun hco1 => ?_)
 ·try simp only [sA, sB, sC, sD, sE, sF, sG, sH, sI, sJ, sK, sL, sM, sN, sO] at hco1
  obtain ⟨p, cap, hv⟩ := (hOK.own hco1).shape
  have hcv : w0.cell? ⟨c.b, 0 + 1, none⟩ = some (.slice p c.d.length cap) := by rw [← hv]; exact cell_of hcs rfl
  refine W.seq ?_
  refine W.sub [(0, _)] ⟨rfl, trivial⟩ ?_
  refine W.reg [(0, false), (1, false), (2, false), (3, false), (4, false), (5, false)] (by kernel_rfl) ?_
  intro K hK
  refine x_move rfl rfl rfl rfl ?_
  refine x_nil rfl rfl rfl rfl rfl ?_
  refine x_fa rfl rfl rfl fo104_1 rfl ?_
  refine x_ld rfl rfl rfl Tryz.underlying27 rfl rfl hcv ?_
  refine x_len rfl rfl rfl rfl Tryz.underlying27 rfl ?_
  refine x_assign rfl rfl rfl rfl ?_
  refine Ex.done (hK _ _ ?_)
  refine At.then_n ?_
  refine W.ret ?_
  refine At.then_r ?_
  refine At.ret1 (.tmp 2) rfl ⟨rfl, trivial⟩ ?_
  exact ⟨rfl, rfl⟩
 ·try simp only [sA, sB, sC, sD, sE, sF, sG, sH, sI, sJ, sK, sL, sM, sN, sO] at hco1
  refine W.skip ?_
  refine At.then_n ?_
  refine W.seq ?_
  refine W.sub [(0, _)] ⟨rfl, trivial⟩ ?_
  refine W.reg [(0, false), (1, false), (2, false), (3, false), (4, false)] (by kernel_rfl) ?_
  intro K hK
  refine x_move rfl rfl rfl rfl ?_
  refine x_nil rfl rfl rfl rfl rfl ?_
  refine x_fa rfl rfl rfl fo104_3 rfl ?_
  refine x_ld rfl rfl rfl Tryz.underlying3 rfl rfl (cell_of hcs rfl) ?_
  refine x_assign rfl rfl rfl rfl ?_
  refine Ex.done (hK _ _ ?_)
  refine At.then_n ?_
  refine W.ret ?_
  refine At.ret1 (.tmp 2) rfl ⟨rfl, trivial⟩ ?_
  exact ⟨by rw [(hOK.bas hco1).2.2.1], rfl⟩

set_option maxRecDepth 100000 in
theorem handles_c {w0 : World} {bf who : Nat} (hw : who < 8) : Ret Tryz.prog 49 #[ptr bf, .int .i64 (who : Int)] w0 fun r w' => r = .slice (some ⟨bf, 0 + 3 + who * 32, none⟩) 16 16 ∧ w0 = w' := by
 refine Ret.of_W Tryz.func49 rfl Tryz.ntmps49 rfl ?_
 refine W.seq ?_
 refine W.sub [(0, _), (1, _)] ⟨rfl, rfl, trivial⟩ ?_
 refine W.reg [(0, false)] (by kernel_rfl) ?_
 intro K hK
 refine x_assign rfl rfl rfl rfl ?_
 refine Ex.done (hK _ _ ?_)
 refine At.then_n ?_
 refine W.seq ?_
 refine W.sub [(0, _), (1, _)] ⟨rfl, rfl, trivial⟩ ?_
 refine W.reg [(0, false), (1, false), (2, false), (3, false), (4, false), (5, false), (6, false)] (by kernel_rfl) ?_
 intro K hK
 refine x_move rfl rfl rfl rfl ?_
 refine x_move rfl rfl rfl rfl ?_
 refine x_nil rfl rfl rfl rfl rfl ?_
 refine x_fa rfl rfl rfl fo90_3 rfl ?_
 refine x_iaA who rfl rfl rfl Tryz.underlying88 sz87 rfl rfl rfl (by omega) ?_
 refine x_slArr rfl rfl rfl Tryz.underlying87 sz86 rfl ?_
 refine x_assign rfl rfl rfl rfl ?_
 refine Ex.done (hK _ _ ?_)
 refine At.then_n ?_
 refine W.ret ?_
 refine At.ret1 (.tmp 4) rfl ⟨rfl, trivial⟩ ?_
 exact ⟨rfl, rfl⟩

set_option maxRecDepth 100000 in
theorem handle_c {w0 : World} {bf u : Nat} {bv : Value} {S : FSt} {who n : Int} (hb : w0.heap[bf]? = some (.cells (fsC bv u S).toArray 90 (0, 0))) (hl : S.hs.length = 128) : Ret Tryz.prog 43 #[ptr bf, .int .i64 who, .int .i64 n] w0 fun r w' => (∃ po, r = .pointer po ∧ hnd bf S who n po) ∧ w0 = w' := by
 refine Ret.of_W Tryz.func43 rfl Tryz.ntmps43 rfl ?_
 refine W.seq ?_
 refine W.sub [(0, _), (1, _), (2, _)] ⟨rfl, rfl, rfl, trivial⟩ ?_
 refine W.reg [(0, false)] (by kernel_rfl) ?_
 intro K hK
 refine x_assign rfl rfl rfl rfl ?_
 refine Ex.done (hK _ _ ?_)
 refine At.then_n ?_
 refine W.seq ?_
 refine W.seq ?_
 refine W.sub [(0, _), (1, _), (2, _)] ⟨rfl, rfl, rfl, trivial⟩ ?_
 refine W.reg [(0, false), (1, false), (2, false), (3, false), (4, false), (5, false), (6, false), (7, false), (8, false), (9, false), (10, false), (11, false), (12, false), (13, false), (14, false), (15, false), (16, false), (17, false), (18, false), (19, false), (20, false), (21, false), (22, false), (23, false), (24, false), (25, false), (26, false)] (by kernel_rfl) ?_
 intro K hK
 refine x_move rfl rfl rfl rfl ?_
 refine x_lss _ rfl rfl rfl rfl rfl rfl ?_
 refine x_move rfl rfl rfl rfl ?_
 refine Ex.split 9 rfl (fun hsp1 => ?_) (fun hsp1 => ?_)
 ·
  try simp only [sA, sB, sC, sD, sE, sF, sG, sH, sI, sJ, sK, sL, sM, sN, sO] at hsp1
  refine Ex.skip_ rfl rfl rfl ?_
  refine Ex.skip_ rfl rfl rfl ?_
  refine x_pickT rfl rfl rfl rfl rfl ?_
  refine x_move rfl rfl rfl rfl ?_
  refine Ex.skip_ rfl rfl rfl ?_
  refine Ex.skip_ rfl rfl rfl ?_
  refine x_pickT rfl rfl rfl rfl rfl ?_
  refine x_move rfl rfl rfl rfl ?_
  refine Ex.skip_ rfl rfl rfl ?_
  refine Ex.skip_ rfl rfl rfl ?_
  refine x_pickT rfl rfl rfl rfl rfl ?_
  refine x_move rfl rfl rfl rfl ?_
  refine Ex.skip_ rfl rfl rfl ?_
  refine Ex.skip_ rfl rfl rfl ?_
  refine Ex.skip_ rfl rfl rfl ?_
  refine Ex.skip_ rfl rfl rfl ?_
  refine Ex.skip_ rfl rfl rfl ?_
  refine Ex.skip_ rfl rfl rfl ?_
  refine Ex.skip_ rfl rfl rfl ?_
  refine Ex.skip_ rfl rfl rfl ?_
  refine Ex.skip_ rfl rfl rfl ?_
  refine Ex.skip_ rfl rfl rfl ?_
  refine Ex.skip_ rfl rfl rfl ?_
  refine x_pickT rfl rfl rfl rfl rfl ?_
  refine Ex.done (hK _ _ ?_)
  refine At.then_n ?_
  refine W.condT rfl ?_
  refine W.seq ?_
  refine W.sub [] trivial ?_
  refine W.reg [(0, false)] (by kernel_rfl) ?_
  intro K hK
  refine x_assign rfl rfl rfl rfl ?_
  refine Ex.done (hK _ _ ?_)
  refine At.then_n ?_
  refine W.ret ?_
  refine At.then_r ?_
  refine At.ret1 (.tmp 6) rfl ⟨rfl, trivial⟩ ?_
  exact ⟨⟨none, rfl, .inl ⟨hAt_out (by omega), rfl⟩⟩, rfl⟩
 ·
  try simp only [sA, sB, sC, sD, sE, sF, sG, sH, sI, sJ, sK, sL, sM, sN, sO] at hsp1
  refine x_move rfl rfl rfl rfl ?_
  refine x_geq _ rfl rfl rfl rfl rfl rfl ?_
  refine x_pickF rfl rfl rfl rfl rfl ?_
  refine x_move rfl rfl rfl rfl ?_
  refine Ex.split 13 rfl (fun hsp2 => ?_) (fun hsp2 => ?_)
  ·
   try simp only [sA, sB, sC, sD, sE, sF, sG, sH, sI, sJ, sK, sL, sM, sN, sO] at hsp2
   refine Ex.skip_ rfl rfl rfl ?_
   refine Ex.skip_ rfl rfl rfl ?_
   refine x_pickT rfl rfl rfl rfl rfl ?_
   refine x_move rfl rfl rfl rfl ?_
   refine Ex.skip_ rfl rfl rfl ?_
   refine Ex.skip_ rfl rfl rfl ?_
   refine x_pickT rfl rfl rfl rfl rfl ?_
   refine x_move rfl rfl rfl rfl ?_
   refine Ex.skip_ rfl rfl rfl ?_
   refine Ex.skip_ rfl rfl rfl ?_
   refine Ex.skip_ rfl rfl rfl ?_
   refine Ex.skip_ rfl rfl rfl ?_
   refine Ex.skip_ rfl rfl rfl ?_
   refine Ex.skip_ rfl rfl rfl ?_
   refine Ex.skip_ rfl rfl rfl ?_
   refine Ex.skip_ rfl rfl rfl ?_
   refine Ex.skip_ rfl rfl rfl ?_
   refine Ex.skip_ rfl rfl rfl ?_
   refine Ex.skip_ rfl rfl rfl ?_
   refine x_pickT rfl rfl rfl rfl rfl ?_
   refine Ex.done (hK _ _ ?_)
   refine At.then_n ?_
   refine W.condT rfl ?_
   refine W.seq ?_
   refine W.sub [] trivial ?_
   refine W.reg [(0, false)] (by kernel_rfl) ?_
   intro K hK
   refine x_assign rfl rfl rfl rfl ?_
   refine Ex.done (hK _ _ ?_)
   refine At.then_n ?_
   refine W.ret ?_
   refine At.then_r ?_
   refine At.ret1 (.tmp 6) rfl ⟨rfl, trivial⟩ ?_
   exact ⟨⟨none, rfl, .inl ⟨hAt_out (by omega), rfl⟩⟩, rfl⟩
  ·
   try simp only [sA, sB, sC, sD, sE, sF, sG, sH, sI, sJ, sK, sL, sM, sN, sO] at hsp2
   refine x_move rfl rfl rfl rfl ?_
   refine x_lss _ rfl rfl rfl rfl rfl rfl ?_
   refine x_pickF rfl rfl rfl rfl rfl ?_
   refine x_move rfl rfl rfl rfl ?_
   refine Ex.split 17 rfl (fun hsp3 => ?_) (fun hsp3 => ?_)
   ·
    try simp only [sA, sB, sC, sD, sE, sF, sG, sH, sI, sJ, sK, sL, sM, sN, sO] at hsp3
    refine Ex.skip_ rfl rfl rfl ?_
    refine Ex.skip_ rfl rfl rfl ?_
    refine x_pickT rfl rfl rfl rfl rfl ?_
    refine x_move rfl rfl rfl rfl ?_
    refine Ex.skip_ rfl rfl rfl ?_
    refine Ex.skip_ rfl rfl rfl ?_
    refine Ex.skip_ rfl rfl rfl ?_
    refine Ex.skip_ rfl rfl rfl ?_
    refine Ex.skip_ rfl rfl rfl ?_
    refine Ex.skip_ rfl rfl rfl ?_
    refine Ex.skip_ rfl rfl rfl ?_
    refine Ex.skip_ rfl rfl rfl ?_
    refine Ex.skip_ rfl rfl rfl ?_
    refine Ex.skip_ rfl rfl rfl ?_
    refine Ex.skip_ rfl rfl rfl ?_
    refine x_pickT rfl rfl rfl rfl rfl ?_
    refine Ex.done (hK _ _ ?_)
    refine At.then_n ?_
    refine W.condT rfl ?_
    refine W.seq ?_
    refine W.sub [] trivial ?_
    refine W.reg [(0, false)] (by kernel_rfl) ?_
    intro K hK
    refine x_assign rfl rfl rfl rfl ?_
    refine Ex.done (hK _ _ ?_)
    refine At.then_n ?_
    refine W.ret ?_
    refine At.then_r ?_
    refine At.ret1 (.tmp 6) rfl ⟨rfl, trivial⟩ ?_
    exact ⟨⟨none, rfl, .inl ⟨hAt_out (by omega), rfl⟩⟩, rfl⟩
   ·
    try simp only [sA, sB, sC, sD, sE, sF, sG, sH, sI, sJ, sK, sL, sM, sN, sO] at hsp3
    refine x_move rfl rfl rfl rfl ?_
    refine x_gtr _ rfl rfl rfl rfl rfl rfl ?_
    refine x_pickF rfl rfl rfl rfl rfl ?_
    refine x_move rfl rfl rfl rfl ?_
    refine Ex.split 21 rfl (fun hsp4 => ?_) (fun hsp4 => ?_)
    ·
     try simp only [sA, sB, sC, sD, sE, sF, sG, sH, sI, sJ, sK, sL, sM, sN, sO] at hsp4
     refine Ex.skip_ rfl rfl rfl ?_
     refine Ex.skip_ rfl rfl rfl ?_
     refine Ex.skip_ rfl rfl rfl ?_
     refine Ex.skip_ rfl rfl rfl ?_
     refine Ex.skip_ rfl rfl rfl ?_
     refine Ex.skip_ rfl rfl rfl ?_
     refine Ex.skip_ rfl rfl rfl ?_
     refine Ex.skip_ rfl rfl rfl ?_
     refine Ex.skip_ rfl rfl rfl ?_
     refine Ex.skip_ rfl rfl rfl ?_
     refine Ex.skip_ rfl rfl rfl ?_
     refine x_pickT rfl rfl rfl rfl rfl ?_
     refine Ex.done (hK _ _ ?_)
     refine At.then_n ?_
     refine W.condT rfl ?_
     refine W.seq ?_
     refine W.sub [] trivial ?_
     refine W.reg [(0, false)] (by kernel_rfl) ?_
     intro K hK
     refine x_assign rfl rfl rfl rfl ?_
     refine Ex.done (hK _ _ ?_)
     refine At.then_n ?_
     refine W.ret ?_
     refine At.then_r ?_
     refine At.ret1 (.tmp 6) rfl ⟨rfl, trivial⟩ ?_
     exact ⟨⟨none, rfl, .inl ⟨hAt_out (by omega), rfl⟩⟩, rfl⟩
    ·
     try simp only [sA, sB, sC, sD, sE, sF, sG, sH, sI, sJ, sK, sL, sM, sN, sO] at hsp4
     obtain ⟨a, rfl⟩ : ∃ a : Nat, who = a := ⟨who.toNat, by omega⟩
     obtain ⟨i, rfl⟩ : ∃ i : Nat, n = (i : Int) + 1 := ⟨(n - 1).toNat, by omega⟩
     obtain ⟨hh, hq⟩ := get_lt (l := S.hs) (q := 16 * a + i) (by omega)
     refine x_move rfl rfl rfl rfl ?_
     refine x_move rfl rfl rfl rfl ?_
     refine x_move rfl rfl rfl rfl ?_
     refine x_sub (i : Int) rfl rfl rfl rfl rfl (by rw [wsub (by omega) (by omega)]; omega) ?_
     refine x_nil rfl rfl rfl rfl rfl ?_
     refine x_fa rfl rfl rfl fo90_3 rfl ?_
     refine x_iaA a rfl rfl rfl Tryz.underlying88 sz87 rfl rfl rfl (by omega) ?_
     refine x_iaA i rfl rfl rfl Tryz.underlying87 sz86 rfl rfl rfl (by omega) ?_
     refine x_fa rfl rfl rfl fo86_0 rfl ?_
     refine x_ld rfl rfl rfl Tryz.underlying9 rfl rfl (cell_of hb (fsC_h0 hq (by omega))) ?_
     refine x_eqS _ rfl rfl rfl rfl rfl rfl ?_
     refine x_pickF rfl rfl rfl rfl rfl ?_
     refine Ex.done (hK _ _ ?_)
     refine At.then_n ?_
     refine W.cond rfl (fun hco5 => ?_) (fun hco5 => ?_)
     ·try simp only [sA, sB, sC, sD, sE, sF, sG, sH, sI, sJ, sK, sL, sM, sN, sO] at hco5
      refine W.seq ?_
      refine W.sub [] trivial ?_
      refine W.reg [(0, false)] (by kernel_rfl) ?_
      intro K hK
      refine x_assign rfl rfl rfl rfl ?_
      refine Ex.done (hK _ _ ?_)
      refine At.then_n ?_
      refine W.ret ?_
      refine At.then_r ?_
      refine At.ret1 (.tmp 6) rfl ⟨rfl, trivial⟩ ?_
      exact ⟨⟨none, rfl, .inl ⟨hAt_nil (by omega) (by omega) hq hco5, rfl⟩⟩, rfl⟩
     ·try simp only [sA, sB, sC, sD, sE, sF, sG, sH, sI, sJ, sK, sL, sM, sN, sO] at hco5
      refine W.skip ?_
      refine At.then_n ?_
      refine W.seq ?_
      refine W.sub [(0, _), (1, _), (2, _)] ⟨rfl, rfl, rfl, trivial⟩ ?_
      refine W.reg [(0, false), (1, false), (2, false), (3, false), (4, false), (5, false), (6, false), (7, false), (8, false)] (by kernel_rfl) ?_
      intro K hK
      refine x_move rfl rfl rfl rfl ?_
      refine x_move rfl rfl rfl rfl ?_
      refine x_move rfl rfl rfl rfl ?_
      refine x_sub (i : Int) rfl rfl rfl rfl rfl (by rw [wsub (by omega) (by omega)]; omega) ?_
      refine x_nil rfl rfl rfl rfl rfl ?_
      refine x_fa rfl rfl rfl fo90_3 rfl ?_
      refine x_iaA a rfl rfl rfl Tryz.underlying88 sz87 rfl rfl rfl (by omega) ?_
      refine x_iaA i rfl rfl rfl Tryz.underlying87 sz86 rfl rfl rfl (by omega) ?_
      refine x_assign rfl rfl rfl rfl ?_
      refine Ex.done (hK _ _ ?_)
      refine At.then_n ?_
      refine W.ret ?_
      refine At.ret1 (.tmp 6) rfl ⟨rfl, trivial⟩ ?_
      exact ⟨⟨_, rfl, .inr ⟨a, i, hh, rfl, rfl, by omega, by omega, hq, hco5, by congr 2; omega⟩⟩, rfl⟩

set_option maxRecDepth 100000 in
theorem byHandle_c {w0 : World} {bf : Nat} {k : Int}  : Ret Tryz.prog 42 #[ptr bf, .int .i64 k] w0 fun r w' => r = byH bf k ∧ w0 = w' := by
 refine Ret.of_W Tryz.func42 rfl Tryz.ntmps42 rfl ?_
 refine W.seq ?_
 refine W.sub [(0, _), (1, _)] ⟨rfl, rfl, trivial⟩ ?_
 refine W.reg [(0, false)] (by kernel_rfl) ?_
 intro K hK
 refine x_assign rfl rfl rfl rfl ?_
 refine Ex.done (hK _ _ ?_)
 refine At.then_n ?_
 refine W.seq ?_
 refine W.seq ?_
 refine W.sub [(0, _), (1, _)] ⟨rfl, rfl, trivial⟩ ?_
 refine W.reg [(0, false)] (by kernel_rfl) ?_
 intro K hK
 refine x_move rfl rfl rfl rfl ?_
 refine Ex.done (hK _ _ ?_)
 refine At.then_n ?_
 refine W.block ?_
 refine W.seq ?_
 refine W.sub [(0, _), (5, _)] ⟨rfl, rfl, trivial⟩ ?_
 refine W.reg [(0, false), (1, false)] (by kernel_rfl) ?_
 intro K hK
 refine x_eqi _ rfl rfl rfl rfl rfl rfl ?_
 refine x_assign rfl rfl rfl rfl ?_
 refine Ex.done (hK _ _ ?_)
 refine At.then_n ?_
 refine W.cond rfl (fun hco1 => ?_) (fun hco1 => ?_)
 ·try simp only [sA, sB, sC, sD, sE, sF, sG, sH, sI, sJ, sK, sL, sM, sN, sO] at hco1
  refine W.seq ?_
  refine W.sub [(0, _)] ⟨rfl, trivial⟩ ?_
  refine W.reg [(0, false), (1, false), (2, false)] (by kernel_rfl) ?_
  intro K hK
  refine x_move rfl rfl rfl rfl ?_
  refine x_mkfn rfl rfl rfl rfl rfl ?_
  refine x_assign rfl rfl rfl rfl ?_
  refine Ex.done (hK _ _ ?_)
  refine At.then_n ?_
  refine W.ret ?_
  refine At.blk_r ?_
  refine At.then_r ?_
  refine At.ret1 (.tmp 4) rfl ⟨rfl, trivial⟩ ?_
  exact ⟨by unfold byH; simp only [if_pos hco1], rfl⟩
 ·try simp only [sA, sB, sC, sD, sE, sF, sG, sH, sI, sJ, sK, sL, sM, sN, sO] at hco1
  refine W.seq ?_
  refine W.sub [(0, _), (5, _)] ⟨rfl, rfl, trivial⟩ ?_
  refine W.reg [(0, false), (1, false)] (by kernel_rfl) ?_
  intro K hK
  refine x_eqi _ rfl rfl rfl rfl rfl rfl ?_
  refine x_assign rfl rfl rfl rfl ?_
  refine Ex.done (hK _ _ ?_)
  refine At.then_n ?_
  refine W.cond rfl (fun hco2 => ?_) (fun hco2 => ?_)
  ·try simp only [sA, sB, sC, sD, sE, sF, sG, sH, sI, sJ, sK, sL, sM, sN, sO] at hco2
   refine W.seq ?_
   refine W.sub [(0, _)] ⟨rfl, trivial⟩ ?_
   refine W.reg [(0, false), (1, false), (2, false)] (by kernel_rfl) ?_
   intro K hK
   refine x_move rfl rfl rfl rfl ?_
   refine x_mkfn rfl rfl rfl rfl rfl ?_
   refine x_assign rfl rfl rfl rfl ?_
   refine Ex.done (hK _ _ ?_)
   refine At.then_n ?_
   refine W.ret ?_
   refine At.blk_r ?_
   refine At.then_r ?_
   refine At.ret1 (.tmp 4) rfl ⟨rfl, trivial⟩ ?_
   exact ⟨by unfold byH; simp only [if_neg hco1, if_pos hco2], rfl⟩
  ·try simp only [sA, sB, sC, sD, sE, sF, sG, sH, sI, sJ, sK, sL, sM, sN, sO] at hco2
   refine W.seq ?_
   refine W.sub [(0, _), (5, _)] ⟨rfl, rfl, trivial⟩ ?_
   refine W.reg [(0, false), (1, false)] (by kernel_rfl) ?_
   intro K hK
   refine x_eqi _ rfl rfl rfl rfl rfl rfl ?_
   refine x_assign rfl rfl rfl rfl ?_
   refine Ex.done (hK _ _ ?_)
   refine At.then_n ?_
   refine W.cond rfl (fun hco3 => ?_) (fun hco3 => ?_)
   ·try simp only [sA, sB, sC, sD, sE, sF, sG, sH, sI, sJ, sK, sL, sM, sN, sO] at hco3
    refine W.seq ?_
    refine W.sub [(0, _)] ⟨rfl, trivial⟩ ?_
    refine W.reg [(0, false), (1, false), (2, false)] (by kernel_rfl) ?_
    intro K hK
    refine x_move rfl rfl rfl rfl ?_
    refine x_mkfn rfl rfl rfl rfl rfl ?_
    refine x_assign rfl rfl rfl rfl ?_
    refine Ex.done (hK _ _ ?_)
    refine At.then_n ?_
    refine W.ret ?_
    refine At.blk_r ?_
    refine At.then_r ?_
    refine At.ret1 (.tmp 4) rfl ⟨rfl, trivial⟩ ?_
    exact ⟨by unfold byH; simp only [if_neg hco1, if_neg hco2, if_pos hco3], rfl⟩
   ·try simp only [sA, sB, sC, sD, sE, sF, sG, sH, sI, sJ, sK, sL, sM, sN, sO] at hco3
    refine W.seq ?_
    refine W.sub [(0, _), (5, _)] ⟨rfl, rfl, trivial⟩ ?_
    refine W.reg [(0, false), (1, false)] (by kernel_rfl) ?_
    intro K hK
    refine x_eqi _ rfl rfl rfl rfl rfl rfl ?_
    refine x_assign rfl rfl rfl rfl ?_
    refine Ex.done (hK _ _ ?_)
    refine At.then_n ?_
    refine W.cond rfl (fun hco4 => ?_) (fun hco4 => ?_)
    ·try simp only [sA, sB, sC, sD, sE, sF, sG, sH, sI, sJ, sK, sL, sM, sN, sO] at hco4
     refine W.seq ?_
     refine W.sub [(0, _)] ⟨rfl, trivial⟩ ?_
     refine W.reg [(0, false), (1, false), (2, false)] (by kernel_rfl) ?_
     intro K hK
     refine x_move rfl rfl rfl rfl ?_
     refine x_mkfn rfl rfl rfl rfl rfl ?_
     refine x_assign rfl rfl rfl rfl ?_
     refine Ex.done (hK _ _ ?_)
     refine At.then_n ?_
     refine W.ret ?_
     refine At.blk_r ?_
     refine At.then_r ?_
     refine At.ret1 (.tmp 4) rfl ⟨rfl, trivial⟩ ?_
     exact ⟨by unfold byH; simp only [if_neg hco1, if_neg hco2, if_neg hco3, if_pos hco4], rfl⟩
    ·try simp only [sA, sB, sC, sD, sE, sF, sG, sH, sI, sJ, sK, sL, sM, sN, sO] at hco4
     refine W.skip ?_
     refine At.blk_n ?_
     refine At.then_n ?_
     refine W.seq ?_
     refine W.sub [] trivial ?_
     refine W.reg [(0, false)] (by kernel_rfl) ?_
     intro K hK
     refine x_assign rfl rfl rfl rfl ?_
     refine Ex.done (hK _ _ ?_)
     refine At.then_n ?_
     refine W.ret ?_
     refine At.ret1 (.tmp 4) rfl ⟨rfl, trivial⟩ ?_
     exact ⟨by unfold byH; simp only [if_neg hco1, if_neg hco2, if_neg hco3, if_neg hco4], rfl⟩

set_option maxRecDepth 100000 in
theorem byPath_c {w0 : World} {bf : Nat} {k : Int}  : Ret Tryz.prog 44 #[ptr bf, .int .i64 k] w0 fun r w' => r = byP bf k ∧ w0 = w' := by
 refine Ret.of_W Tryz.func44 rfl Tryz.ntmps44 rfl ?_
 refine W.seq ?_
 refine W.sub [(0, _), (1, _)] ⟨rfl, rfl, trivial⟩ ?_
 refine W.reg [(0, false)] (by kernel_rfl) ?_
 intro K hK
 refine x_assign rfl rfl rfl rfl ?_
 refine Ex.done (hK _ _ ?_)
 refine At.then_n ?_
 refine W.seq ?_
 refine W.seq ?_
 refine W.sub [(0, _), (1, _)] ⟨rfl, rfl, trivial⟩ ?_
 refine W.reg [(0, false)] (by kernel_rfl) ?_
 intro K hK
 refine x_move rfl rfl rfl rfl ?_
 refine Ex.done (hK _ _ ?_)
 refine At.then_n ?_
 refine W.block ?_
 refine W.seq ?_
 refine W.sub [(0, _), (5, _)] ⟨rfl, rfl, trivial⟩ ?_
 refine W.reg [(0, false), (1, false)] (by kernel_rfl) ?_
 intro K hK
 refine x_eqi _ rfl rfl rfl rfl rfl rfl ?_
 refine x_assign rfl rfl rfl rfl ?_
 refine Ex.done (hK _ _ ?_)
 refine At.then_n ?_
 refine W.cond rfl (fun hco1 => ?_) (fun hco1 => ?_)
 ·try simp only [sA, sB, sC, sD, sE, sF, sG, sH, sI, sJ, sK, sL, sM, sN, sO] at hco1
  refine W.seq ?_
  refine W.sub [(0, _)] ⟨rfl, trivial⟩ ?_
  refine W.reg [(0, false), (1, false), (2, false)] (by kernel_rfl) ?_
  intro K hK
  refine x_move rfl rfl rfl rfl ?_
  refine x_mkfn rfl rfl rfl rfl rfl ?_
  refine x_assign rfl rfl rfl rfl ?_
  refine Ex.done (hK _ _ ?_)
  refine At.then_n ?_
  refine W.ret ?_
  refine At.blk_r ?_
  refine At.then_r ?_
  refine At.ret1 (.tmp 4) rfl ⟨rfl, trivial⟩ ?_
  exact ⟨by unfold byP; simp only [if_pos hco1], rfl⟩
 ·try simp only [sA, sB, sC, sD, sE, sF, sG, sH, sI, sJ, sK, sL, sM, sN, sO] at hco1
  refine W.seq ?_
  refine W.sub [(0, _), (5, _)] ⟨rfl, rfl, trivial⟩ ?_
  refine W.reg [(0, false), (1, false)] (by kernel_rfl) ?_
  intro K hK
  refine x_eqi _ rfl rfl rfl rfl rfl rfl ?_
  refine x_assign rfl rfl rfl rfl ?_
  refine Ex.done (hK _ _ ?_)
  refine At.then_n ?_
  refine W.cond rfl (fun hco2 => ?_) (fun hco2 => ?_)
  ·try simp only [sA, sB, sC, sD, sE, sF, sG, sH, sI, sJ, sK, sL, sM, sN, sO] at hco2
   refine W.seq ?_
   refine W.sub [(0, _)] ⟨rfl, trivial⟩ ?_
   refine W.reg [(0, false), (1, false), (2, false)] (by kernel_rfl) ?_
   intro K hK
   refine x_move rfl rfl rfl rfl ?_
   refine x_mkfn rfl rfl rfl rfl rfl ?_
   refine x_assign rfl rfl rfl rfl ?_
   refine Ex.done (hK _ _ ?_)
   refine At.then_n ?_
   refine W.ret ?_
   refine At.blk_r ?_
   refine At.then_r ?_
   refine At.ret1 (.tmp 4) rfl ⟨rfl, trivial⟩ ?_
   exact ⟨by unfold byP; simp only [if_neg hco1, if_pos hco2], rfl⟩
  ·try simp only [sA, sB, sC, sD, sE, sF, sG, sH, sI, sJ, sK, sL, sM, sN, sO] at hco2
   refine W.seq ?_
   refine W.sub [(0, _), (5, _)] ⟨rfl, rfl, trivial⟩ ?_
   refine W.reg [(0, false), (1, false)] (by kernel_rfl) ?_
   intro K hK
   refine x_eqi _ rfl rfl rfl rfl rfl rfl ?_
   refine x_assign rfl rfl rfl rfl ?_
   refine Ex.done (hK _ _ ?_)
   refine At.then_n ?_
   refine W.cond rfl (fun hco3 => ?_) (fun hco3 => ?_)
   ·try simp only [sA, sB, sC, sD, sE, sF, sG, sH, sI, sJ, sK, sL, sM, sN, sO] at hco3
    refine W.seq ?_
    refine W.sub [(0, _)] ⟨rfl, trivial⟩ ?_
    refine W.reg [(0, false), (1, false), (2, false)] (by kernel_rfl) ?_
    intro K hK
    refine x_move rfl rfl rfl rfl ?_
    refine x_mkfn rfl rfl rfl rfl rfl ?_
    refine x_assign rfl rfl rfl rfl ?_
    refine Ex.done (hK _ _ ?_)
    refine At.then_n ?_
    refine W.ret ?_
    refine At.blk_r ?_
    refine At.then_r ?_
    refine At.ret1 (.tmp 4) rfl ⟨rfl, trivial⟩ ?_
    exact ⟨by unfold byP; simp only [if_neg hco1, if_neg hco2, if_pos hco3], rfl⟩
   ·try simp only [sA, sB, sC, sD, sE, sF, sG, sH, sI, sJ, sK, sL, sM, sN, sO] at hco3
    refine W.seq ?_
    refine W.sub [(0, _), (5, _)] ⟨rfl, rfl, trivial⟩ ?_
    refine W.reg [(0, false), (1, false)] (by kernel_rfl) ?_
    intro K hK
    refine x_eqi _ rfl rfl rfl rfl rfl rfl ?_
    refine x_assign rfl rfl rfl rfl ?_
    refine Ex.done (hK _ _ ?_)
    refine At.then_n ?_
    refine W.cond rfl (fun hco4 => ?_) (fun hco4 => ?_)
    ·try simp only [sA, sB, sC, sD, sE, sF, sG, sH, sI, sJ, sK, sL, sM, sN, sO] at hco4
     refine W.seq ?_
     refine W.sub [(0, _)] ⟨rfl, trivial⟩ ?_
     refine W.reg [(0, false), (1, false), (2, false)] (by kernel_rfl) ?_
     intro K hK
     refine x_move rfl rfl rfl rfl ?_
     refine x_mkfn rfl rfl rfl rfl rfl ?_
     refine x_assign rfl rfl rfl rfl ?_
     refine Ex.done (hK _ _ ?_)
     refine At.then_n ?_
     refine W.ret ?_
     refine At.blk_r ?_
     refine At.then_r ?_
     refine At.ret1 (.tmp 4) rfl ⟨rfl, trivial⟩ ?_
     exact ⟨by unfold byP; simp only [if_neg hco1, if_neg hco2, if_neg hco3, if_pos hco4], rfl⟩
    ·try simp only [sA, sB, sC, sD, sE, sF, sG, sH, sI, sJ, sK, sL, sM, sN, sO] at hco4
     refine W.skip ?_
     refine At.blk_n ?_
     refine At.then_n ?_
     refine W.seq ?_
     refine W.sub [] trivial ?_
     refine W.reg [(0, false)] (by kernel_rfl) ?_
     intro K hK
     refine x_assign rfl rfl rfl rfl ?_
     refine Ex.done (hK _ _ ?_)
     refine At.then_n ?_
     refine W.ret ?_
     refine At.ret1 (.tmp 4) rfl ⟨rfl, trivial⟩ ?_
     exact ⟨by unfold byP; simp only [if_neg hco1, if_neg hco2, if_neg hco3, if_neg hco4], rfl⟩

set_option maxRecDepth 100000 in
theorem open1_c {w0 : World} {h : Hd}  : Ret Tryz.prog 65 #[.agg #[strV h.1, .bool h.2]] w0 fun r w' => r = .bool (decide (h.1 = [])) ∧ New w0 w' := by
 have M : Sep w0 [] w0 := St.nil w0
 refine Ret.of_W Tryz.func65 rfl Tryz.ntmps65 rfl ?_
 refine W.seq ?_
 refine W.sub [(0, _)] ⟨rfl, trivial⟩ ?_
 refine W.reg [(0, true), (1, false)] (by kernel_rfl) ?_
 intro K hK
 refine x_box [_, _] rfl rfl rfl rfl rfl ?_
 intro bbx1 wbx1 hbbx1 hwbx1
 have M := M.acons hbbx1 hwbx1
 refine ⟨trivial, ?_⟩
 refine x_assign rfl rfl rfl rfl ?_
 refine Ex.done (hK _ _ ?_)
 refine At.then_n ?_
 refine W.seq ?_
 refine W.sub [(1, _)] ⟨rfl, trivial⟩ ?_
 refine W.reg [(0, false), (1, false), (2, false), (3, false)] (by kernel_rfl) ?_
 intro K hK
 refine x_fa rfl rfl rfl fo86_0 rfl ?_
 refine x_ld rfl rfl rfl Tryz.underlying9 rfl rfl (cell_of (M.at_ 0 rfl) rfl) ?_
 refine x_eqS _ rfl rfl rfl rfl rfl rfl ?_
 refine x_assign rfl rfl rfl rfl ?_
 refine Ex.done (hK _ _ ?_)
 refine At.then_n ?_
 refine W.ret ?_
 refine At.ret1 (.tmp 2) rfl ⟨rfl, trivial⟩ ?_
 exact ⟨rfl, M.frm⟩

set_option maxRecDepth 100000 in
theorem busy1_c {w0 : World} {h : Hd} {bp : Nat} {p : List UInt8} (hp : w0.heap[bp]? = some (.cells [strV p].toArray 9 (0, 0))) : Ret Tryz.prog 127 #[.agg #[strV h.1, .bool h.2], ptr bp] w0 fun r w' => r = .bool (decide (h.1 = p)) ∧ New w0 w' := by
 have M : Sep w0 [] w0 := St.nil w0
 refine Ret.of_W Tryz.func127 rfl Tryz.ntmps127 rfl ?_
 refine W.seq ?_
 refine W.sub [(0, _), (1, _)] ⟨rfl, rfl, trivial⟩ ?_
 refine W.reg [(0, true), (1, false)] (by kernel_rfl) ?_
 intro K hK
 refine x_box [_, _] rfl rfl rfl rfl rfl ?_
 intro bbx1 wbx1 hbbx1 hwbx1
 have M := M.acons hbbx1 hwbx1
 refine ⟨trivial, ?_⟩
 refine x_assign rfl rfl rfl rfl ?_
 refine Ex.done (hK _ _ ?_)
 refine At.then_n ?_
 refine W.seq ?_
 refine W.sub [(1, _), (2, _)] ⟨rfl, rfl, trivial⟩ ?_
 refine W.reg [(0, false), (1, false), (2, false), (3, false), (4, false)] (by kernel_rfl) ?_
 intro K hK
 refine x_fa rfl rfl rfl fo86_0 rfl ?_
 refine x_ld rfl rfl rfl Tryz.underlying9 rfl rfl (cell_of (M.at_ 0 rfl) rfl) ?_
 refine x_ld rfl rfl rfl Tryz.underlying9 rfl rfl (cell_of (New.keep M.frm hp) rfl) ?_
 refine x_eqS _ rfl rfl rfl rfl rfl rfl ?_
 refine x_assign rfl rfl rfl rfl ?_
 refine Ex.done (hK _ _ ?_)
 refine At.then_n ?_
 refine W.ret ?_
 refine At.ret1 (.tmp 3) rfl ⟨rfl, trivial⟩ ?_
 exact ⟨rfl, M.frm⟩

set_option maxRecDepth 100000 in
theorem indexH_c {w0 : World} {p : Option Addr} {cap g : Nat} {cp : Array Value} {l : List Hd} {f : Hd → Bool} (h : Sl w0 (.slice p l.length cap) 2 l.length (hCs l)) (hl : l.length ≤ 1000) (hent : entered Tryz.prog g = true)
  (hg : ∀ x ∈ l, ∀ w, New w0 w → Ret Tryz.prog g (#[] ++ [.agg #[strV x.1, .bool x.2]].toArray ++ cp) w fun r w' => r = .bool (f x) ∧ New w w') : Ret Tryz.prog 64 #[.slice p l.length cap, .func (.func g) #[] cp] w0 fun r w' => r = .int .i64 (idxI l f) ∧ New w0 w' := by
 have M : Sep w0 [] w0 := St.nil w0
 refine Ret.of_W Tryz.func64 rfl Tryz.ntmps64 rfl ?_
 refine W.seq ?_
 refine W.sub [(0, _), (1, _)] ⟨rfl, rfl, trivial⟩ ?_
 refine W.reg [(0, false)] (by kernel_rfl) ?_
 intro K hK
 refine x_assign rfl rfl rfl rfl ?_
 refine Ex.done (hK _ _ ?_)
 refine At.then_n ?_
 refine W.seq ?_
 refine W.seq ?_
 refine W.sub [(0, _), (1, _)] ⟨rfl, rfl, trivial⟩ ?_
 refine W.reg [(0, false), (1, false), (2, false)] (by kernel_rfl) ?_
 intro K hK
 refine x_move rfl rfl rfl rfl ?_
 refine x_len rfl rfl rfl rfl Tryz.underlying116 rfl ?_
 refine x_move rfl rfl rfl rfl ?_
 refine Ex.done (hK _ _ ?_)
 refine At.then_n ?_
 refine W.block ?_
 refine W.loop (σ := Nat) (fun j => [(0, _), (1, _), (7, _), (8, .int .i64 ((j : Nat) : Int))]) (fun j w => j ≤ l.length ∧ (∀ x ∈ l.take j, f x = false) ∧ Sep w0 [] w) (fun j => l.length - j) 0 ⟨rfl, rfl, rfl, rfl, trivial⟩ ⟨Nat.zero_le _, by simp, M⟩ ?_
 rintro j w ⟨hj, hno, M⟩
 refine W.seq ?_
 refine W.sub [(0, _), (1, _), (7, _), (8, _)] ⟨rfl, rfl, rfl, rfl, trivial⟩ ?_
 refine W.reg [(0, false)] (by kernel_rfl) ?_
 intro K hK
 refine x_lss _ rfl rfl rfl rfl rfl rfl ?_
 refine Ex.done (hK _ _ ?_)
 refine At.then_n ?_
 refine W.seq ?_
 refine W.cond rfl (fun hco1 => ?_) (fun hco1 => ?_)
 ·try simp only [sA, sB, sC, sD, sE, sF, sG, sH, sI, sJ, sK, sL, sM, sN, sO] at hco1
  obtain ⟨x, hx⟩ := get_lt (l := l) (q := j) (by omega)
  have hs := Sl.same h (fun b hb => M.old b (h.lt b hb) id)
  obtain ⟨b, off, rfl⟩ := sl_blk hs (by omega)
  have hrow := hs.row (j := j) (l := [strV x.1, .bool x.2]) rfl (flat_drop (m := 2) (e1 := fun h : Hd => [strV h.1, .bool h.2]) (by decide) (fun _ _ => rfl) hx) (by simp)
  refine W.skip ?_
  refine At.then_n ?_
  refine W.seq ?_
  refine W.block ?_
  refine W.seq ?_
  refine W.sub [(0, _), (1, _), (7, _), (8, _)] ⟨rfl, rfl, rfl, rfl, trivial⟩ ?_
  refine W.reg [(0, false), (1, false)] (by kernel_rfl) ?_
  intro K hK
  refine x_move rfl rfl rfl rfl ?_
  refine x_assign rfl rfl rfl rfl ?_
  refine Ex.done (hK _ _ ?_)
  refine At.then_n ?_
  refine W.seq ?_
  refine W.sub [(0, _), (1, _), (5, _), (7, _), (8, _)] ⟨rfl, rfl, rfl, rfl, rfl, trivial⟩ ?_
  refine W.reg [(0, false), (1, false), (2, false), (3, false), (4, false), (5, true)] (by kernel_rfl) ?_
  intro K hK
  refine x_move rfl rfl rfl rfl ?_
  refine x_move rfl rfl rfl rfl ?_
  refine x_move rfl rfl rfl rfl ?_
  refine x_ia j rfl rfl rfl Tryz.underlying116 sz86 rfl rfl rfl (by omega) ?_
  refine x_ldA [_, _] rfl rfl rfl Tryz.underlying86 rfl sz86 rfl rfl hrow ?_
  refine x_call rfl rfl rfl rfl rfl hent (hg x (List.mem_of_getElem? hx) _ M.frm) ?_
  rintro v w1 ⟨rfl, hn1⟩
  have M := M.new hn1
  refine ⟨trivial, ?_⟩
  refine Ex.done (hK _ _ ?_)
  refine At.then_n ?_
  refine W.cond rfl (fun hco2 => ?_) (fun hco2 => ?_)
  ·try simp only [sA, sB, sC, sD, sE, sF, sG, sH, sI, sJ, sK, sL, sM, sN, sO] at hco2
   refine W.seq ?_
   refine W.sub [(5, _)] ⟨rfl, trivial⟩ ?_
   refine W.reg [(0, false), (1, false)] (by kernel_rfl) ?_
   intro K hK
   refine x_move rfl rfl rfl rfl ?_
   refine x_assign rfl rfl rfl rfl ?_
   refine Ex.done (hK _ _ ?_)
   refine At.then_n ?_
   refine W.ret ?_
   refine At.blk_r ?_
   refine At.then_r ?_
   refine At.loop_r ?_
   refine At.blk_r ?_
   refine At.then_r ?_
   refine At.ret1 (.tmp 4) rfl ⟨rfl, trivial⟩ ?_
   exact ⟨by rw [idxI_at hx hno hco2], M.frm⟩
  ·try simp only [sA, sB, sC, sD, sE, sF, sG, sH, sI, sJ, sK, sL, sM, sN, sO] at hco2
   refine W.skip ?_
   refine At.blk_n ?_
   refine At.then_n ?_
   refine W.sub [(0, _), (1, _), (7, _), (8, _)] ⟨rfl, rfl, rfl, rfl, trivial⟩ ?_
   refine W.reg [(0, false), (1, false)] (by kernel_rfl) ?_
   intro K hK
   refine x_add _ rfl rfl rfl rfl rfl (wadd (by omega) (by omega)) ?_
   refine x_move rfl rfl rfl rfl ?_
   refine Ex.done (hK _ _ ?_)
   exact At.back (j + 1) ⟨rfl, rfl, rfl, rfl, trivial⟩ ⟨by omega, mem_take_snoc hx hno hco2, M⟩ (by first | omega | (simp only; omega) | (simp; done) | (simp; omega))
 ·try simp only [sA, sB, sC, sD, sE, sF, sG, sH, sI, sJ, sK, sL, sM, sN, sO] at hco1
  refine W.exit ?_
  refine At.then_x ?_
  refine At.loop_x ?_
  refine At.blk_x ?_
  refine At.then_n ?_
  refine W.seq ?_
  refine W.sub [] trivial ?_
  refine W.reg [(0, false)] (by kernel_rfl) ?_
  intro K hK
  refine x_assign rfl rfl rfl rfl ?_
  refine Ex.done (hK _ _ ?_)
  refine At.then_n ?_
  refine W.ret ?_
  refine At.ret1 (.tmp 4) rfl ⟨rfl, trivial⟩ ?_
  have hj2 : j = l.length := by omega
  subst hj2
  rw [List.take_length] at hno
  exact ⟨by rw [idxI_no hno], M.frm⟩

set_option maxRecDepth 100000 in
theorem containsH_c {w0 : World} {p : Option Addr} {cap g : Nat} {cp : Array Value} {l : List Hd} {f : Hd → Bool} (h : Sl w0 (.slice p l.length cap) 2 l.length (hCs l)) (hl : l.length ≤ 1000) (hent : entered Tryz.prog g = true)
  (hg : ∀ x ∈ l, ∀ w, New w0 w → Ret Tryz.prog g (#[] ++ [.agg #[strV x.1, .bool x.2]].toArray ++ cp) w fun r w' => r = .bool (f x) ∧ New w w') : Ret Tryz.prog 126 #[.slice p l.length cap, .func (.func g) #[] cp] w0 fun r w' => r = .bool (l.any f) ∧ New w0 w' := by
 have M : Sep w0 [] w0 := St.nil w0
 refine Ret.of_W Tryz.func126 rfl Tryz.ntmps126 rfl ?_
 refine W.seq ?_
 refine W.sub [(0, _), (1, _)] ⟨rfl, rfl, trivial⟩ ?_
 refine W.reg [(0, false)] (by kernel_rfl) ?_
 intro K hK
 refine x_assign rfl rfl rfl rfl ?_
 refine Ex.done (hK _ _ ?_)
 refine At.then_n ?_
 refine W.seq ?_
 refine W.sub [(0, _), (1, _)] ⟨rfl, rfl, trivial⟩ ?_
 refine W.reg [(0, false), (1, false), (2, true), (3, false), (4, false)] (by kernel_rfl) ?_
 intro K hK
 refine x_move rfl rfl rfl rfl ?_
 refine x_move rfl rfl rfl rfl ?_
 refine x_call rfl rfl rfl rfl rfl en64 (indexH_c h hl hent hg) ?_
 rintro r_ w1 ⟨rfl, hn1⟩
 have M := M.new hn1
 refine ⟨trivial, ?_⟩
 refine x_geq _ rfl rfl rfl rfl rfl rfl ?_
 refine x_assign rfl rfl rfl rfl ?_
 refine Ex.done (hK _ _ ?_)
 refine At.then_n ?_
 refine W.ret ?_
 refine At.ret1 (.tmp 4) rfl ⟨rfl, trivial⟩ ?_
 exact ⟨by rw [any_idx], M.frm⟩
end Go.Proofs.YtigfbpbnohkokaaGreat

namespace Go.Proofs.YtigfbpbnohkokaaGreat
open Go Go.Fw Go.RowKit
set_option linter.unusedVariables false
set_option linter.unusedSimpArgs false

/-- What the first blocks tell of some bytes. -/
def pieceB (d : List UInt8) (a n j : Nat) : List UInt8 := (d.drop a).take (min (4096 * j) (a + n) - a)
def blkB (d : List UInt8) (j : Nat) : List UInt8 := (d.drop (4096 * j)).take 4096
section
variable {d : List UInt8} {a n j : Nat}
theorem piece_len (h : a + n ≤ d.length) : (pieceB d a n j).length = min (4096 * j) (a + n) - a := by
 unfold pieceB; rw [List.length_take, List.length_drop]; omega
theorem blk_len : (blkB d j).length = min 4096 (d.length - 4096 * j) := by unfold blkB; rw [List.length_take, List.length_drop]
theorem piece_zero : pieceB d a n (a / 4096) = [] := by
 unfold pieceB
 rw [show min (4096 * (a / 4096)) (a + n) - a = 0 by omega]; rfl
theorem piece_end (h : a + n ≤ 4096 * j) : pieceB d a n j = (d.drop a).take n := by
 unfold pieceB
 rw [show min (4096 * j) (a + n) - a = n by omega]
theorem piece_step (h1 : a / 4096 ≤ j) (h2 : 4096 * j < a + n) (h3 : a + n ≤ d.length) :
  pieceB d a n j ++ ((blkB d j).drop (a - 4096 * j)).take (min (blkB d j).length (a + n - 4096 * j) - (a - 4096 * j)) = pieceB d a n (j + 1) := by
 rw [blk_len]
 unfold pieceB blkB
 apply List.ext_getElem?
 intro k
 rw [List.getElem?_append]
 simp only [List.length_take, List.length_drop, List.getElem?_take, List.getElem?_drop]
 by_cases hk : k < min (4096 * j) (a + n) - a
 ·rw [if_pos (by omega), if_pos (by omega), if_pos (by omega)]
 ·rw [if_neg (by omega)]
  by_cases hk2 : k < min (4096 * (j + 1)) (a + n) - a
  ·rw [if_pos hk2, if_pos (by omega), if_pos (by omega)]
   congr 1
   omega
  ·rw [if_neg hk2]
   by_cases hk3 : k - min (min (4096 * j) (a + n) - a) (d.length - a) < min (min 4096 (d.length - 4096 * j)) (a + n - 4096 * j) - (a - 4096 * j)
   ·omega
   ·rw [if_neg hk3]
end
section
variable {w00 w : World} {X : List (Nat × Obj)} {bf u : Nat} {bv : Value} {S : FSt} {c : Con}
theorem fs_at (M : Sep w00 X w) (hs : ∀ y ∈ fsB bf bv u S, y ∈ X) : w.heap[bf]? = some (.cells (fsC bv u S).toArray 90 (0, 0)) := M.get (hs _ List.mem_cons_self)
theorem con_at (M : Sep w00 X w) (hs : ∀ y ∈ fsB bf bv u S, y ∈ X) (hc : c ∈ S.C) : w.heap[c.b]? = some c.hd.2 :=
 M.get (hs (c.b, c.hd.2) (List.mem_cons_of_mem _ (List.mem_cons_of_mem _ (List.mem_append_right _ (mem_chd hc)))))
theorem con_bytes {base : BaseF} (M : Sep w00 X w) (hs : ∀ y ∈ fsB bf bv u S, y ∈ X) (hc : c ∈ S.C) (hK : c.OK base) (ho : c.own = true) : BytesAt w c.v c.d :=
 bytesO_get (hK.own ho) (fun x hx => M.get (hs x (List.mem_cons_of_mem _ (List.mem_cons_of_mem _ (List.mem_append_right _ (mem_cD hc hx))))))
theorem con_cs (M : Sep w00 X w) (hs : ∀ y ∈ fsB bf bv u S, y ∈ X) (hc : c ∈ S.C) : w.heap[c.b]? = some (.cells c.cs.toArray 104 (0, 0)) := con_at M hs hc
theorem bytesO_app {L : List (Nat × Obj)} {v : Value} {x y z : List UInt8} (h : OwL L v 1 (x.length + y.length) (byteCs x ++ byteCs y)) (e : x ++ y = z) : BytesO L v z := by
 subst e
 unfold BytesO
 rw [List.length_append, show byteCs (x ++ y) = byteCs x ++ byteCs y by simp [byteCs]]
 exact h
end
end Go.Proofs.YtigfbpbnohkokaaGreat

namespace Go.Proofs.YtigfbpbnohkokaaGreat
open Go Go.Fw Go.RowKit Go.Proofs
set_option linter.unusedVariables false
set_option linter.unusedSimpArgs false

theorem quo4k {a : Nat} (h : a ≤ 9223372036854775807) : IntKind.i64.wrap (((a : Int)).tdiv 4096) = ((a / 4096 : Nat) : Int) := by
 rw [Int.tdiv_eq_ediv_of_nonneg (by omega), w64 (by omega) (by omega)]; omega

set_option maxRecDepth 100000 in
theorem blocks_c {w0 : World} {bf a n : Nat} {c : Con}  : Ret Tryz.prog 83 #[ptr bf, ptr c.b, .int .i64 (a : Int), .int .i64 (n : Int)] w0 fun r w' => ∃ ba bn bg bc, r = .func (.func 114) #[] #[ptr ba, ptr bn, ptr bg, ptr bc] ∧ Sep w0 [(bn, .cells [.int .i64 (n : Int)].toArray 3 (0, 0)), (ba, .cells [.int .i64 (a : Int)].toArray 3 (0, 0)), (bc, .cells [ptr c.b].toArray 102 (0, 0)), (bg, .cells [ptr bf].toArray 34 (0, 0))] w' := by
 have M : Sep w0 [] w0 := St.nil w0
 refine Ret.of_W Tryz.func83 rfl Tryz.ntmps83 rfl ?_
 refine W.seq ?_
 refine W.sub [(0, _), (1, _), (2, _), (3, _)] ⟨rfl, rfl, rfl, rfl, trivial⟩ ?_
 refine W.reg [(0, true), (1, true), (2, true), (3, true), (4, false)] (by kernel_rfl) ?_
 intro K hK
 refine x_box [_] rfl rfl rfl rfl rfl ?_
 intro bbx1 wbx1 hbbx1 hwbx1
 have M := M.acons hbbx1 hwbx1
 refine ⟨trivial, ?_⟩
 refine x_box [_] rfl rfl rfl rfl rfl ?_
 intro bbx2 wbx2 hbbx2 hwbx2
 have M := M.acons hbbx2 hwbx2
 refine ⟨trivial, ?_⟩
 refine x_box [_] rfl rfl rfl rfl rfl ?_
 intro bbx3 wbx3 hbbx3 hwbx3
 have M := M.acons hbbx3 hwbx3
 refine ⟨trivial, ?_⟩
 refine x_box [_] rfl rfl rfl rfl rfl ?_
 intro bbx4 wbx4 hbbx4 hwbx4
 have M := M.acons hbbx4 hwbx4
 refine ⟨trivial, ?_⟩
 refine x_assign rfl rfl rfl rfl ?_
 refine Ex.done (hK _ _ ?_)
 refine At.then_n ?_
 refine W.seq ?_
 refine W.sub [(4, _), (5, _), (6, _), (7, _)] ⟨rfl, rfl, rfl, rfl, trivial⟩ ?_
 refine W.reg [(0, false), (1, false)] (by kernel_rfl) ?_
 intro K hK
 refine x_mkfn rfl rfl rfl rfl rfl ?_
 refine x_assign rfl rfl rfl rfl ?_
 refine Ex.done (hK _ _ ?_)
 refine At.then_n ?_
 refine W.ret ?_
 refine At.ret1 (.tmp 8) rfl ⟨rfl, trivial⟩ ?_
 exact ⟨_, _, _, _, rfl, M⟩

set_option maxRecDepth 100000 in
theorem blocks_it {w0 : World} {l0 bf u a n ba bn bg bc fB : Nat} {bv rv : Value} {Ty : TypeId} {S : FSt} {c : Con} {I : Nat → List (Nat × Obj) → World → Prop} (hv : bv = .iface Ty rv) (hm : methOK Tryz.prog Ty "Block" fB = true) (hent : entered Tryz.prog fB = true) (hle : a + n ≤ 65536)
  (hb : ∀ j Lx w, I j Lx w → (w.heap[ba]? = some (.cells [.int .i64 (a : Int)].toArray 3 (0, 0)) ∧ w.heap[bn]? = some (.cells [.int .i64 (n : Int)].toArray 3 (0, 0)) ∧ w.heap[bg]? = some (.cells [ptr bf].toArray 34 (0, 0)) ∧ w.heap[bc]? = some (.cells [ptr c.b].toArray 102 (0, 0))) ∧ w.heap[bf]? = some (.cells (fsC bv u S).toArray 90 (0, 0)) ∧ w.heap[c.b]? = some c.hd.2)
  (hgrow : ∀ j Lx Lr w w', I j Lx w → Sep w Lr w' → I j (Lx ++ Lr) w')
  (hB : ∀ j Lx w, I j Lx w → 4096 * j < a + n → Ret Tryz.prog fB #[rv, .agg #[strV c.nm, .int .i64 (j : Int)]] w fun r w' => ∃ Lr, BytesO Lr r (blkB c.d j) ∧ I j (Lx ++ Lr) w')
  (hY : ∀ j Lx w v, I j Lx w → 4096 * j < a + n → (∃ Lr, BytesO Lr v (blkB c.d j) ∧ ∀ y ∈ Lr, y ∈ Lx) → Yld Tryz.prog l0 [.int .i64 ((4096 * j : Nat) : Int), v] w fun v w' => v = .bool true ∧ I (j + 1) Lx w')
  (h0 : I (a / 4096) [] w0) : Ret Tryz.prog 114 #[.func (.yield l0) #[] #[], ptr ba, ptr bn, ptr bg, ptr bc] w0 fun r w' => r = .tuple #[] ∧ ∃ j Lx, a + n ≤ 4096 * j ∧ I j Lx w' := by
 have hI := h0
 obtain ⟨⟨ha_, hn_, hg_, hc_⟩, hf_, hk_⟩ := hb _ _ _ hI
 refine Ret.of_W Tryz.func114 rfl Tryz.ntmps114 rfl ?_
 refine W.seq ?_
 refine W.sub [(0, _), (1, _), (2, _), (3, _), (4, _)] ⟨rfl, rfl, rfl, rfl, rfl, trivial⟩ ?_
 refine W.reg [(0, false), (1, false), (2, false)] (by kernel_rfl) ?_
 intro K hK
 refine x_ld rfl rfl rfl Tryz.underlying3 rfl rfl (cell_of ha_ rfl) ?_
 refine x_quo ((a / 4096 : Nat) : Int) rfl rfl rfl rfl rfl (by decide) (quo4k (by omega)) ?_
 refine x_assign rfl rfl rfl rfl ?_
 refine Ex.done (hK _ _ ?_)
 refine At.then_n ?_
 refine W.block ?_
 refine W.loop (σ := Nat × List (Nat × Obj)) (fun j => [(0, _), (1, _), (2, _), (3, _), (4, _), (6, .int .i64 ((j.1 : Nat) : Int))]) (fun j w => a / 4096 ≤ j.1 ∧ j.1 ≤ 17 ∧ I j.1 j.2 w) (fun j => 17 - j.1) (a / 4096, []) ⟨rfl, rfl, rfl, rfl, rfl, rfl, trivial⟩ ⟨Nat.le_refl _, by simp only; omega, hI⟩ ?_
 rintro ⟨j, Lx⟩ w ⟨hj0, hj, hJ⟩
 simp only at hj0 hj hJ
 obtain ⟨⟨ha_, hn_, hg_, hc_⟩, hf_, hk_⟩ := hb _ _ _ hJ
 have hcs : w.heap[c.b]? = some (.cells c.cs.toArray 104 (0, 0)) := hk_
 refine W.seq ?_
 refine W.seq ?_
 refine W.sub [(0, _), (1, _), (2, _), (3, _), (4, _), (6, _)] ⟨rfl, rfl, rfl, rfl, rfl, rfl, trivial⟩ ?_
 refine W.reg [(0, false), (1, false), (2, false), (3, false), (4, false), (5, false)] (by kernel_rfl) ?_
 intro K hK
 refine x_move rfl rfl rfl rfl ?_
 refine x_mul ((4096 * j : Nat) : Int) rfl rfl rfl rfl rfl (by rw [wmul (by omega) (by omega)]; omega) ?_
 refine x_ld rfl rfl rfl Tryz.underlying3 rfl rfl (cell_of ha_ rfl) ?_
 refine x_ld rfl rfl rfl Tryz.underlying3 rfl rfl (cell_of hn_ rfl) ?_
 refine x_add _ rfl rfl rfl rfl rfl (wadd (by omega) (by omega)) ?_
 refine x_lss _ rfl rfl rfl rfl rfl rfl ?_
 refine Ex.done (hK _ _ ?_)
 refine At.then_n ?_
 refine W.cond rfl (fun hco1 => ?_) (fun hco1 => ?_)
 ·try simp only [sA, sB, sC, sD, sE, sF, sG, sH, sI, sJ, sK, sL, sM, sN, sO] at hco1
  refine W.skip ?_
  refine At.then_n ?_
  refine W.seq ?_
  refine W.block ?_
  refine W.seq ?_
  refine W.sub [(0, _), (1, _), (2, _), (3, _), (4, _), (6, _)] ⟨rfl, rfl, rfl, rfl, rfl, rfl, trivial⟩ ?_
  refine W.regD (by kernel_rfl) #[0, 0, 2, 0, 8, 24, 56, 0, 128, 384, 896, 0, 3968, 120, 8312, 32760, 65535, 131071] [(0, false), (1, false), (2, false), (3, false), (4, false), (5, false), (6, false), (7, false), (8, false), (9, false), (10, false), (11, false), (12, false), (13, false), (14, false), (15, true), (16, true), (17, false)] (by kernel_rfl) ?_
  intro K wD1 hK hwD1
  have hJ : I j Lx wD1 := by have := hgrow _ _ [] _ _ hJ ((St.nil _).drew hwD1); rwa [List.append_nil] at this
  obtain ⟨⟨ha_, hn_, hg_, hc_⟩, hf_, hk_⟩ := hb _ _ _ hJ
  have hcs : wD1.heap[c.b]? = some (.cells c.cs.toArray 104 (0, 0)) := hk_
  refine x_move rfl rfl rfl rfl ?_
  refine x_move rfl rfl rfl rfl ?_
  refine x_mul ((4096 * j : Nat) : Int) rfl rfl rfl rfl rfl (by rw [wmul (by omega) (by omega)]; omega) ?_
  refine x_ld rfl rfl rfl Tryz.underlying34 rfl rfl (cell_of hg_ rfl) ?_
  refine x_nil rfl rfl rfl rfl rfl ?_
  refine x_fa rfl rfl rfl fo90_0 rfl ?_
  refine x_ld rfl rfl rfl Tryz.underlying82 rfl rfl (by have h5 : wD1.cell? ⟨bf, 0, none⟩ = some bv := cell_of hf_ rfl; rw [hv] at h5; exact h5) ?_
  refine x_ld rfl rfl rfl Tryz.underlying102 rfl rfl (cell_of hc_ rfl) ?_
  refine x_nil rfl rfl rfl rfl rfl ?_
  refine x_fa rfl rfl rfl fo104_2 rfl ?_
  refine x_ld rfl rfl rfl Tryz.underlying9 rfl rfl (cell_of hcs rfl) ?_
  refine x_move rfl rfl rfl rfl ?_
  refine x_build [_, _] rfl rfl rfl pl187 ze187 rfl rfl rfl ?_
  refine x_nil rfl rfl rfl rfl rfl ?_
  refine x_move rfl rfl rfl rfl ?_
  refine x_inv rfl rfl rfl rfl rfl hm hent (hB _ _ _ hJ (by omega)) ?_
  rintro v1 w1 ⟨Lr, hbr, hJ⟩
  obtain ⟨pv, cv, rfl⟩ := hbr.shape
  refine ⟨⟨.inl (by kernel_rfl), .inl (by kernel_rfl), .inl (by kernel_rfl), .inl (by kernel_rfl), trivial⟩, ?_⟩
  refine x_yld rfl rfl rfl rfl rfl (hY _ _ _ _ hJ (by omega) ⟨Lr, hbr, fun y hy => List.mem_append_right _ hy⟩) ?_
  rintro v2 w2 ⟨rfl, hJ⟩
  refine ⟨⟨.inl (by kernel_rfl), .inl (by kernel_rfl), .inl (by kernel_rfl), .inl (by kernel_rfl), trivial⟩, ?_⟩
  refine x_not false rfl rfl rfl rfl rfl ?_
  refine Ex.done (hK _ _ ?_)
  refine At.then_n ?_
  refine W.condF rfl ?_
  refine W.skip ?_
  refine At.blk_n ?_
  refine At.then_n ?_
  refine W.sub [(0, _), (1, _), (2, _), (3, _), (4, _), (6, _)] ⟨rfl, rfl, rfl, rfl, rfl, rfl, trivial⟩ ?_
  refine W.reg [(0, false), (1, false), (2, false)] (by kernel_rfl) ?_
  intro K hK
  refine x_move rfl rfl rfl rfl ?_
  refine x_add _ rfl rfl rfl rfl rfl (wadd (by omega) (by omega)) ?_
  refine x_assign rfl rfl rfl rfl ?_
  refine Ex.done (hK _ _ ?_)
  exact At.back ((j + 1, _)) ⟨rfl, rfl, rfl, rfl, rfl, rfl, trivial⟩ ⟨by simp only; omega, by simp only; omega, hJ⟩ (by first | omega | (simp only; omega) | (simp; done) | (simp; omega))
 ·try simp only [sA, sB, sC, sD, sE, sF, sG, sH, sI, sJ, sK, sL, sM, sN, sO] at hco1
  refine W.exit ?_
  refine At.then_x ?_
  refine At.loop_x ?_
  refine At.blk_x ?_
  refine At.fall ?_
  refine At.ret0 rfl ?_
  exact ⟨rfl, j, Lx, by omega, hJ⟩
end Go.Proofs.YtigfbpbnohkokaaGreat

namespace Go.Proofs.YtigfbpbnohkokaaGreat
open Go Go.Fw Go.RowKit Go.Proofs
set_option linter.unusedVariables false
set_option linter.unusedSimpArgs false

set_option maxRecDepth 100000 in
theorem bytes_c {w00 w0 : World} {bf u a n : Nat} {bv : Value} {S : FSt} {c : Con} {base : BaseF} {Lb L : List (Nat × Obj)} (M : Sep w00 (fsB bf bv u S ++ (Lb ++ L)) w0) (hc : c ∈ S.C) (hOK : c.OK base) (hB : BaseC w00 Lb bv base) (hle : a + n ≤ c.d.length) : Ret Tryz.prog 47 #[ptr bf, ptr c.b, .int .i64 (a : Int), .int .i64 (n : Int)] w0 fun r w' => ∃ Lr, BytesO Lr r ((c.d.drop a).take n) ∧ Sep w00 (fsB bf bv u S ++ (Lb ++ (L ++ Lr))) w' := by
 obtain ⟨Ty, rv, fB, hbv, hmeth, hentB, htell⟩ := hB.tells
 have hcl := hOK.le
 refine Ret.of_W Tryz.func47 rfl Tryz.ntmps47 rfl ?_
 refine W.seq ?_
 refine W.sub [(0, _), (1, _), (2, _), (3, _)] ⟨rfl, rfl, rfl, rfl, trivial⟩ ?_
 refine W.reg [(0, true), (1, true), (2, false)] (by kernel_rfl) ?_
 intro K hK
 refine x_box [_] rfl rfl rfl rfl rfl ?_
 intro bbx1 wbx1 hbbx1 hwbx1
 have M := M.acons hbbx1 hwbx1
 refine ⟨trivial, ?_⟩
 refine x_box [_] rfl rfl rfl rfl rfl ?_
 intro bbx2 wbx2 hbbx2 hwbx2
 have M := M.acons hbbx2 hwbx2
 refine ⟨trivial, ?_⟩
 refine x_assign rfl rfl rfl rfl ?_
 refine Ex.done (hK _ _ ?_)
 refine At.then_n ?_
 refine W.seq ?_
 refine W.seq ?_
 refine W.sub [(0, _), (1, _), (6, _), (7, _)] ⟨rfl, rfl, rfl, rfl, trivial⟩ ?_
 refine W.reg [(0, false), (1, false), (2, false), (3, false)] (by kernel_rfl) ?_
 intro K hK
 refine x_move rfl rfl rfl rfl ?_
 refine x_nil rfl rfl rfl rfl rfl ?_
 refine x_fa rfl rfl rfl fo104_0 rfl ?_
 refine x_ld rfl rfl rfl Tryz.underlying4 rfl rfl (cell_of (con_cs M (fun y (hy : y ∈ fsB bf bv u S) => by simp [hy]) hc) rfl) ?_
 refine Ex.done (hK _ _ ?_)
 refine At.then_n ?_
 refine W.cond rfl (fun hco1 => ?_) (fun hco1 => ?_)
 ·try simp only [sA, sB, sC, sD, sE, sF, sG, sH, sI, sJ, sK, sL, sM, sN, sO] at hco1
  refine W.seq ?_
  refine W.sub [(1, _), (6, _), (7, _)] ⟨rfl, rfl, rfl, trivial⟩ ?_
  refine W.regD (by kernel_rfl) #[0, 1, 3, 7, 0, 0, 0, 96, 255, 511, 1023] [(0, false), (1, false), (2, false), (3, false), (4, false), (5, false), (6, false), (7, false), (8, false), (9, true), (10, false)] (by kernel_rfl) ?_
  intro K wD1 hK hwD1
  have M := M.drew hwD1
  obtain ⟨p, cap, hv, hcap⟩ := (hOK.own hco1).shape2 (by decide)
  have hcb := con_bytes M (fun y (hy : y ∈ fsB bf bv u S) => by simp [hy]) hc hOK hco1
  have hcv : wD1.cell? ⟨c.b, 0 + 1, none⟩ = some (.slice p c.d.length cap) := by rw [← hv]; exact cell_of (con_cs M (fun y (hy : y ∈ fsB bf bv u S) => by simp [hy]) hc) rfl
  rw [hv] at hcb
  refine x_move rfl rfl rfl rfl ?_
  refine x_nil rfl rfl rfl rfl rfl ?_
  refine x_fa rfl rfl rfl fo104_1 rfl ?_
  refine x_ld rfl rfl rfl Tryz.underlying27 rfl rfl hcv ?_
  refine x_ld rfl rfl rfl Tryz.underlying3 rfl rfl (cell_of (M.at_ 1 rfl) rfl) ?_
  refine x_ld rfl rfl rfl Tryz.underlying3 rfl rfl (cell_of (M.at_ 1 rfl) rfl) ?_
  refine x_ld rfl rfl rfl Tryz.underlying3 rfl rfl (cell_of (M.at_ 0 rfl) rfl) ?_
  refine x_add ((a + n : Nat) : Int) rfl rfl rfl rfl rfl (by rw [wadd (by omega) (by omega)]; omega) ?_
  refine x_sllh a (a + n) rfl rfl rfl Tryz.underlying27 sz5 rfl rfl rfl rfl rfl (by omega) (by omega) ?_
  refine x_call rfl rfl rfl rfl rfl en82 (clone_c (bytes_sub hcb (lo := a) (hi := a + n) (by omega) hle) (by rw [List.length_take, List.length_drop]; omega)) ?_
  rintro r_ w1 ⟨Lr, M1, hb1⟩
  have M := M.grow M1
  rw [show a + n - a = n by omega] at hb1
  obtain ⟨p1, c1, rfl⟩ := hb1.shape
  refine ⟨⟨.inl (by kernel_rfl), .inl (by kernel_rfl), .inl (by kernel_rfl), .inl (by kernel_rfl), trivial⟩, ?_⟩
  refine x_assign rfl rfl rfl rfl ?_
  refine Ex.done (hK _ _ ?_)
  refine At.then_n ?_
  refine W.ret ?_
  refine At.then_r ?_
  refine At.ret1 (.tmp 8) rfl ⟨rfl, trivial⟩ ?_
  simp only [List.cons_append, List.append_assoc] at M
  exact ⟨Lr, hb1, M.tail.tail⟩
 ·try simp only [sA, sB, sC, sD, sE, sF, sG, sH, sI, sJ, sK, sL, sM, sN, sO] at hco1
  refine W.skip ?_
  refine At.then_n ?_
  refine W.seq ?_
  refine W.sub [(0, _), (1, _), (6, _), (7, _)] ⟨rfl, rfl, rfl, rfl, trivial⟩ ?_
  refine W.reg [(0, false), (1, true), (2, true), (3, true)] (by kernel_rfl) ?_
  intro K hK
  refine x_ld rfl rfl rfl Tryz.underlying3 rfl rfl (cell_of (M.at_ 0 rfl) rfl) ?_
  refine x_ms 0 n rfl rfl rfl Tryz.underlying27 sz5 ze5 rfl by5 rfl rfl (by omega) (by show 1 * n ≤ 281474976710656; omega) (by omega) ?_
  intro bms wms hbms hwms
  have M := M.acons hbms hwms
  refine ⟨trivial, ?_⟩
  refine x_alloc [_] rfl rfl rfl ze27 rfl ?_
  intro bal1 wal1 hbal1 hwal1
  have M := M.acons hbal1 hwal1
  refine ⟨trivial, ?_⟩
  refine x_st [_] _ rfl rfl rfl sz27 rfl rfl rfl rfl (M.at_ 0 rfl) rfl rfl rfl ?_
  intro wst1 hwst1
  have M : Sep w00 ((bal1, .cells [.slice (some ⟨bms, 0, none⟩) 0 n].toArray 27 (0, 0)) :: (bms, .cells (List.replicate n (.int .u8 0)).toArray 5 (0, 0)) :: (bbx2, .cells [.int .i64 (n : Int)].toArray 3 (0, 0)) :: (bbx1, .cells [.int .i64 (a : Int)].toArray 3 (0, 0)) :: (fsB bf bv u S ++ (Lb ++ L))) wst1 := M.put 0 rfl hwst1
  refine ⟨trivial, ?_⟩
  refine Ex.done (hK _ _ ?_)
  refine At.then_n ?_
  refine W.seq ?_
  refine W.seq ?_
  refine W.sub [(0, _), (1, _), (6, _), (7, _), (9, _)] ⟨rfl, rfl, rfl, rfl, rfl, trivial⟩ ?_
  refine W.reg [(0, false), (1, false)] (by kernel_rfl) ?_
  intro K hK
  refine x_ld rfl rfl rfl Tryz.underlying3 rfl rfl (cell_of (M.at_ 2 rfl) rfl) ?_
  refine x_eqi _ rfl rfl rfl rfl rfl rfl ?_
  refine Ex.done (hK _ _ ?_)
  refine At.then_n ?_
  refine W.cond rfl (fun hco2 => ?_) (fun hco2 => ?_)
  ·try simp only [sA, sB, sC, sD, sE, sF, sG, sH, sI, sJ, sK, sL, sM, sN, sO] at hco2
   have hn0 : n = 0 := by omega
   refine W.seq ?_
   refine W.sub [(9, _)] ⟨rfl, trivial⟩ ?_
   refine W.reg [(0, false), (1, false)] (by kernel_rfl) ?_
   intro K hK
   refine x_ld rfl rfl rfl Tryz.underlying27 rfl rfl (cell_of (M.at_ 0 rfl) rfl) ?_
   refine x_assign rfl rfl rfl rfl ?_
   refine Ex.done (hK _ _ ?_)
   refine At.then_n ?_
   refine W.ret ?_
   refine At.then_r ?_
   refine At.ret1 (.tmp 8) rfl ⟨rfl, trivial⟩ ?_
   have M : Sep w00 ([(bal1, .cells [.slice (some ⟨bms, 0, none⟩) 0 n].toArray 27 (0, 0)), (bbx2, .cells [.int .i64 (n : Int)].toArray 3 (0, 0)), (bbx1, .cells [.int .i64 (a : Int)].toArray 3 (0, 0))] ++ (fsB bf bv u S ++ (Lb ++ (L ++ [(bms, .cells (List.replicate n (.int .u8 0)).toArray 5 (0, 0))])))) _ := M.perm (perm_c fun p => by simp only [List.countP_append, List.countP_cons, List.countP_nil]; omega)
   refine ⟨[(bms, .cells (List.replicate n (.int .u8 0)).toArray 5 (0, 0))], ?_, St.dropL (L' := [_, _, _]) M⟩
   subst hn0
   exact .inr ⟨bms, 0, [], _, rfl, rfl, rfl, rfl⟩
  ·try simp only [sA, sB, sC, sD, sE, sF, sG, sH, sI, sJ, sK, sL, sM, sN, sO] at hco2
   refine W.skip ?_
   refine At.then_n ?_
   refine W.seq ?_
   refine W.seq ?_
   refine W.sub [(0, _), (1, _), (6, _), (7, _), (9, _)] ⟨rfl, rfl, rfl, rfl, rfl, trivial⟩ ?_
   refine W.reg [(0, false), (1, false), (2, false), (3, false), (4, true)] (by kernel_rfl) ?_
   intro K hK
   refine x_move rfl rfl rfl rfl ?_
   refine x_move rfl rfl rfl rfl ?_
   refine x_ld rfl rfl rfl Tryz.underlying3 rfl rfl (cell_of (M.at_ 3 rfl) rfl) ?_
   refine x_ld rfl rfl rfl Tryz.underlying3 rfl rfl (cell_of (M.at_ 2 rfl) rfl) ?_
   refine x_call rfl rfl rfl rfl rfl en83 (blocks_c) ?_
   rintro r_ wcall2 ⟨ba, bn, bg, bc, rfl, M2⟩
   have M := M.grow M2
   refine ⟨trivial, ?_⟩
   refine Ex.done (hK _ _ ?_)
   refine At.then_n ?_
   refine W.block ?_
   refine W.sub [(6, _), (7, _), (9, _), (35, _)] ⟨rfl, rfl, rfl, rfl, trivial⟩ ?_
   refine W.range rfl en114 (fun rr hkt hps has hbdrng1 w2 hw2 => ?_)
   have M := M.range hw2
   have M : Sep w00 ([(wcall2.heap.size + 1, .loop { rr with state := .ready, pending := none }), (wcall2.heap.size, .deferred (some [])), (bal1, .cells [.slice (some ⟨bms, 0, none⟩) 0 n].toArray 27 (0, 0)), (bbx2, .cells [.int .i64 (n : Int)].toArray 3 (0, 0)), (bbx1, .cells [.int .i64 (a : Int)].toArray 3 (0, 0)), (bn, .cells [.int .i64 (n : Int)].toArray 3 (0, 0)), (ba, .cells [.int .i64 (a : Int)].toArray 3 (0, 0)), (bc, .cells [ptr c.b].toArray 102 (0, 0)), (bg, .cells [ptr bf].toArray 34 (0, 0))] ++ ([(bms, .cells (List.replicate n (.int .u8 0)).toArray 5 (0, 0))] ++ (fsB bf bv u S ++ (Lb ++ (L ++ []))))) w2 := M.perm (perm_c fun p => by simp only [List.countP_append, List.countP_cons, List.countP_nil]; omega)
   obtain ⟨_, _, _, hbase⟩ := hOK.bas hco1
   refine (blocks_it (c := c) (S := S) (u := u) (a := a) (n := n) (bf := bf) (I := fun j Lx w' => ∃ ov Lo, a / 4096 ≤ j ∧ BytesO Lo ov (pieceB c.d a n j) ∧ Sep w00 ([(wcall2.heap.size + 1, .loop { rr with state := .ready, pending := none }), (wcall2.heap.size, .deferred (some [])), (bal1, .cells [ov].toArray 27 (0, 0)), (bbx2, .cells [.int .i64 (n : Int)].toArray 3 (0, 0)), (bbx1, .cells [.int .i64 (a : Int)].toArray 3 (0, 0)), (bn, .cells [.int .i64 (n : Int)].toArray 3 (0, 0)), (ba, .cells [.int .i64 (a : Int)].toArray 3 (0, 0)), (bc, .cells [ptr c.b].toArray 102 (0, 0)), (bg, .cells [ptr bf].toArray 34 (0, 0))] ++ (Lo ++ (fsB bf bv u S ++ (Lb ++ (L ++ Lx))))) w') hbv hmeth hentB (by omega) ?_ ?_ ?_ ?_ ⟨_, [(bms, .cells (List.replicate n (.int .u8 0)).toArray 5 (0, 0))], Nat.le_refl _, ?_, M⟩).mono ?_
   ·rintro j Lx w' ⟨ov, Lo, hj, ho, M⟩
    exact ⟨⟨M.at_ 6 rfl, M.at_ 5 rfl, M.at_ 8 rfl, M.at_ 7 rfl⟩, fs_at M (fun y (hy : y ∈ fsB bf bv u S) => by simp [hy]), con_at M (fun y (hy : y ∈ fsB bf bv u S) => by simp [hy]) hc⟩
   ·rintro j Lx Lr w' w1 ⟨ov, Lo, hj, ho, M⟩ M1
    exact ⟨ov, Lo, hj, ho, by simpa only [List.append_assoc] using M.grow M1⟩
   ·rintro j Lx w' ⟨ov, Lo, hj, ho, M⟩ hlt
    have M : Sep w00 (Lb ++ ([(wcall2.heap.size + 1, .loop { rr with state := .ready, pending := none }), (wcall2.heap.size, .deferred (some [])), (bal1, .cells [ov].toArray 27 (0, 0)), (bbx2, .cells [.int .i64 (n : Int)].toArray 3 (0, 0)), (bbx1, .cells [.int .i64 (a : Int)].toArray 3 (0, 0)), (bn, .cells [.int .i64 (n : Int)].toArray 3 (0, 0)), (ba, .cells [.int .i64 (a : Int)].toArray 3 (0, 0)), (bc, .cells [ptr c.b].toArray 102 (0, 0)), (bg, .cells [ptr bf].toArray 34 (0, 0))] ++ (Lo ++ (fsB bf bv u S ++ (L ++ Lx))))) w' := M.perm (perm_c fun p => by simp only [List.countP_append, List.countP_cons, List.countP_nil]; omega)
    refine (htell c.nm c.d j _ _ hbase (by omega) M).mono ?_
    rintro r_ w1 ⟨Lr, hbr, M⟩
    exact ⟨Lr, hbr, ov, Lo, hj, ho, M.perm (perm_c fun p => by simp only [List.countP_append, List.countP_cons, List.countP_nil]; omega)⟩
   ·rintro j Lx w' v ⟨ov, Lo, hj, ho, M⟩ hlt ⟨Lr, hbr, hsub⟩
    obtain ⟨pv, cv, rfl, hcv⟩ := hbr.shape2 (by decide)
    have hbl := blk_len (d := c.d) (j := j)
    have hpl := piece_len (j := j) hle
    obtain ⟨po, co, rfl⟩ := ho.shape
    refine Yld.two (M.at_ 0 rfl) hkt hps rfl rfl has ?_
    refine W.seq ?_
    refine W.sub [(6, _), (7, _), (9, _), (36, _), (37, _)] ⟨rfl, rfl, rfl, rfl, rfl, trivial⟩ ?_
    refine W.reg [(0, false)] (by kernel_rfl) ?_
    intro K hK
    refine x_assign rfl rfl rfl rfl ?_
    refine Ex.done (hK _ _ ?_)
    refine At.then_n ?_
    refine W.sub [(6, _), (7, _), (9, _), (10, _), (37, _)] ⟨rfl, rfl, rfl, rfl, rfl, trivial⟩ ?_
    refine W.reg [(0, false)] (by kernel_rfl) ?_
    intro K hK
    refine x_assign rfl rfl rfl rfl ?_
    refine Ex.done (hK _ _ ?_)
    refine At.asg hbdrng1 (M.at_ 0 rfl) ?_
    generalize hwb : World.putObj _ _ _ = wb
    have M : Sep w00 ([(wcall2.heap.size + 1, .loop { rr with state := .busy, pending := none }), (wcall2.heap.size, .deferred (some [])), (bal1, .cells [.slice po (pieceB c.d a n j).length co].toArray 27 (0, 0)), (bbx2, .cells [.int .i64 (n : Int)].toArray 3 (0, 0)), (bbx1, .cells [.int .i64 (a : Int)].toArray 3 (0, 0)), (bn, .cells [.int .i64 (n : Int)].toArray 3 (0, 0)), (ba, .cells [.int .i64 (a : Int)].toArray 3 (0, 0)), (bc, .cells [ptr c.b].toArray 102 (0, 0)), (bg, .cells [ptr bf].toArray 34 (0, 0))] ++ (Lo ++ (fsB bf bv u S ++ (Lb ++ (L ++ Lx))))) wb := M.put 0 rfl hwb.symm
    refine W.block ?_
    refine W.sub [(6, _), (7, _), (9, _), (10, _), (11, _)] ⟨rfl, rfl, rfl, rfl, rfl, trivial⟩ ?_
    refine W.regD (by kernel_rfl) #[0, 0, 0, 0, 12, 28, 0, 64, 0, 0, 768, 0, 3840, 8128, 16382, 32767, 65535] [(0, false), (1, false), (2, false), (3, false), (4, false), (5, false), (6, false), (7, false), (8, false), (9, false), (10, false), (11, false), (12, false), (13, false), (14, false), (15, true), (16, true)] (by kernel_rfl) ?_
    intro K wD2 hK hwD2
    have M := M.drew hwD2
    refine x_ld rfl rfl rfl Tryz.underlying27 rfl rfl (cell_of (M.at_ 2 rfl) rfl) ?_
    refine x_move rfl rfl rfl rfl ?_
    refine x_ld rfl rfl rfl Tryz.underlying3 rfl rfl (cell_of (M.at_ 4 rfl) rfl) ?_
    refine x_move rfl rfl rfl rfl ?_
    refine x_sub _ rfl rfl rfl rfl rfl (wsub (by omega) (by omega)) ?_
    refine x_max ((a - 4096 * j : Nat) : Int) rfl rfl rfl rfl rfl (by split <;> omega) ?_
    refine x_move rfl rfl rfl rfl ?_
    refine x_len rfl rfl rfl rfl Tryz.underlying27 rfl ?_
    refine x_ld rfl rfl rfl Tryz.underlying3 rfl rfl (cell_of (M.at_ 4 rfl) rfl) ?_
    refine x_ld rfl rfl rfl Tryz.underlying3 rfl rfl (cell_of (M.at_ 3 rfl) rfl) ?_
    refine x_add ((a + n : Nat) : Int) rfl rfl rfl rfl rfl (by rw [wadd (by omega) (by omega)]; omega) ?_
    refine x_move rfl rfl rfl rfl ?_
    refine x_sub ((a + n - 4096 * j : Nat) : Int) rfl rfl rfl rfl rfl (by rw [wsub (by omega) (by omega)]; omega) ?_
    refine x_min ((min (blkB c.d j).length (a + n - 4096 * j) : Nat) : Int) rfl rfl rfl rfl rfl (by split <;> omega) ?_
    refine x_sllh (a - 4096 * j) (min (blkB c.d j).length (a + n - 4096 * j)) rfl rfl rfl Tryz.underlying27 sz5 rfl rfl rfl rfl rfl (by omega) (by omega) ?_
    have hba : BytesAt wD2 (.slice pv (blkB c.d j).length cv) (blkB c.d j) := bytesO_get hbr (fun y hy => M.get (by simp [hsub y hy]))
    have hsb := bytes_sub hba (lo := a - 4096 * j) (hi := min (blkB c.d j).length (a + n - 4096 * j)) (by omega) (by omega)
    have hsl := congrArg List.length (piece_step hj hlt hle)
    rw [List.length_append, piece_len hle, piece_len hle] at hsl
    have M : Sep w00 (Lo ++ ([(wcall2.heap.size + 1, .loop { rr with state := .busy, pending := none }), (wcall2.heap.size, .deferred (some [])), (bal1, .cells [.slice po (pieceB c.d a n j).length co].toArray 27 (0, 0)), (bbx2, .cells [.int .i64 (n : Int)].toArray 3 (0, 0)), (bbx1, .cells [.int .i64 (a : Int)].toArray 3 (0, 0)), (bn, .cells [.int .i64 (n : Int)].toArray 3 (0, 0)), (ba, .cells [.int .i64 (a : Int)].toArray 3 (0, 0)), (bc, .cells [ptr c.b].toArray 102 (0, 0)), (bg, .cells [ptr bf].toArray 34 (0, 0))] ++ (fsB bf bv u S ++ (Lb ++ (L ++ Lx))))) wD2 := M.perm (perm_c fun p => by simp only [List.countP_append, List.countP_cons, List.countP_nil]; omega)
    refine x_apL rfl rfl rfl rfl Tryz.underlying27 sz5 ze5 rfl by5 rfl rfl ho M (byteCs_one _) (hsb.src Tryz.underlying27 (byteCs_one _)) (by omega) (by decide) (by omega) ?_
    intro Lo2 v6 w6 how M
    have how := bytesO_app how (piece_step hj hlt hle)
    obtain ⟨p6, c6, rfl⟩ := how.shape
    have M : Sep w00 ([(wcall2.heap.size + 1, .loop { rr with state := .busy, pending := none }), (wcall2.heap.size, .deferred (some [])), (bal1, .cells [.slice po (pieceB c.d a n j).length co].toArray 27 (0, 0)), (bbx2, .cells [.int .i64 (n : Int)].toArray 3 (0, 0)), (bbx1, .cells [.int .i64 (a : Int)].toArray 3 (0, 0)), (bn, .cells [.int .i64 (n : Int)].toArray 3 (0, 0)), (ba, .cells [.int .i64 (a : Int)].toArray 3 (0, 0)), (bc, .cells [ptr c.b].toArray 102 (0, 0)), (bg, .cells [ptr bf].toArray 34 (0, 0))] ++ (Lo2 ++ (fsB bf bv u S ++ (Lb ++ (L ++ Lx))))) w6 := M.perm (perm_c fun p => by simp only [List.countP_append, List.countP_cons, List.countP_nil]; omega)
    refine ⟨⟨.inl (by kernel_rfl), .inl (by kernel_rfl), .inl (by kernel_rfl), .inl (by kernel_rfl), trivial⟩, ?_⟩
    refine x_st [_] _ rfl rfl rfl sz27 rfl rfl rfl rfl (M.at_ 2 rfl) rfl rfl rfl ?_
    intro wst2 hwst2
    have M : Sep w00 ([(wcall2.heap.size + 1, .loop { rr with state := .busy, pending := none }), (wcall2.heap.size, .deferred (some [])), (bal1, .cells [.slice p6 (pieceB c.d a n (j + 1)).length c6].toArray 27 (0, 0)), (bbx2, .cells [.int .i64 (n : Int)].toArray 3 (0, 0)), (bbx1, .cells [.int .i64 (a : Int)].toArray 3 (0, 0)), (bn, .cells [.int .i64 (n : Int)].toArray 3 (0, 0)), (ba, .cells [.int .i64 (a : Int)].toArray 3 (0, 0)), (bc, .cells [ptr c.b].toArray 102 (0, 0)), (bg, .cells [ptr bf].toArray 34 (0, 0))] ++ (Lo2 ++ (fsB bf bv u S ++ (Lb ++ (L ++ Lx))))) wst2 := M.put 2 rfl hwst2
    refine ⟨⟨.inl (by kernel_rfl), .inl (by kernel_rfl), .inl (by kernel_rfl), .inl (by kernel_rfl), trivial⟩, ?_⟩
    refine Ex.done (hK _ _ ?_)
    refine At.blk_n ?_
    refine At.rnd_n (M.at_ 0 rfl) ?_
    generalize hwy : World.putObj _ _ _ = wy
    have M : Sep w00 ([(wcall2.heap.size + 1, .loop { rr with state := .ready, pending := none }), (wcall2.heap.size, .deferred (some [])), (bal1, .cells [.slice p6 (pieceB c.d a n (j + 1)).length c6].toArray 27 (0, 0)), (bbx2, .cells [.int .i64 (n : Int)].toArray 3 (0, 0)), (bbx1, .cells [.int .i64 (a : Int)].toArray 3 (0, 0)), (bn, .cells [.int .i64 (n : Int)].toArray 3 (0, 0)), (ba, .cells [.int .i64 (a : Int)].toArray 3 (0, 0)), (bc, .cells [ptr c.b].toArray 102 (0, 0)), (bg, .cells [ptr bf].toArray 34 (0, 0))] ++ (Lo2 ++ (fsB bf bv u S ++ (Lb ++ (L ++ Lx))))) wy := M.put 0 rfl hwy.symm
    exact ⟨rfl, _, Lo2, by omega, how, M⟩
   ·rw [piece_zero]
    exact .inr ⟨bms, n, List.replicate n (.int .u8 0), _, rfl, rfl, rfl, by simp [byteCs]⟩
   ·rintro v w3 ⟨rfl, j, Lx, hjn, ov, Lo, hj, ho, M⟩
    refine .inl ⟨.ready, by simp, M.at_ 0 rfl, ?_⟩
    generalize hwx : World.putObj _ _ _ = w4
    have M : Sep w00 ([(wcall2.heap.size + 1, .loop { rr with state := .exhausted, pending := none }), (wcall2.heap.size, .deferred (some [])), (bal1, .cells [ov].toArray 27 (0, 0)), (bbx2, .cells [.int .i64 (n : Int)].toArray 3 (0, 0)), (bbx1, .cells [.int .i64 (a : Int)].toArray 3 (0, 0)), (bn, .cells [.int .i64 (n : Int)].toArray 3 (0, 0)), (ba, .cells [.int .i64 (a : Int)].toArray 3 (0, 0)), (bc, .cells [ptr c.b].toArray 102 (0, 0)), (bg, .cells [ptr bf].toArray 34 (0, 0))] ++ (Lo ++ (fsB bf bv u S ++ (Lb ++ (L ++ Lx))))) w4 := M.put 0 rfl hwx.symm
    rw [piece_end hjn] at ho
    obtain ⟨po, co, rfl⟩ := ho.shape
    refine At.blk_n ?_
    refine At.then_n ?_
    refine W.seq ?_
    refine W.sub [(9, _)] ⟨rfl, trivial⟩ ?_
    refine W.reg [(0, false), (1, false)] (by kernel_rfl) ?_
    intro K hK
    refine x_ld rfl rfl rfl Tryz.underlying27 rfl rfl (cell_of (M.at_ 2 rfl) rfl) ?_
    refine x_assign rfl rfl rfl rfl ?_
    refine Ex.done (hK _ _ ?_)
    refine At.then_n ?_
    refine W.ret ?_
    refine At.mark (M.at_ 1 rfl) ?_
    generalize hwy : World.putObj _ _ _ = w5
    have M := M.put 1 rfl hwy.symm
    refine At.ret1 (.tmp 8) rfl ⟨rfl, trivial⟩ ?_
    have M9 : Sep w00 (Lo ++ (fsB bf bv u S ++ (Lb ++ (L ++ Lx)))) _ := M.tail.tail.tail.tail.tail.tail.tail.tail.tail
    have M10 : Sep w00 (Lx ++ (fsB bf bv u S ++ (Lb ++ (L ++ Lo)))) _ := M9.perm (perm_c fun p => by simp only [List.countP_append, List.countP_cons, List.countP_nil]; omega)
    exact ⟨Lo, ho, M10.dropL⟩
   
end Go.Proofs.YtigfbpbnohkokaaGreat

namespace Go.Proofs.YtigfbpbnohkokaaGreat
open Go Go.Fw Go.RowKit
set_option linter.unusedVariables false
set_option linter.unusedSimpArgs false

theorem bare_names' (l : List Raw) : (bareL l).map (·.1) = l.map (·.1) := by unfold bareL; rw [List.map_map]; rfl
theorem find_nd : ∀ {l : List Raw} {z : Raw}, (l.map (·.1)).Nodup → z ∈ l → l.find? (fun x => decide (x.1 = z.1)) = some z
 | x :: l, z, hn, hz => by
  rw [List.find?_cons]
  simp only [List.map_cons, List.nodup_cons] at hn
  rcases List.mem_cons.1 hz with rfl | hz
  ·simp
  ·have : x.1 ≠ z.1 := fun e => hn.1 (e ▸ List.mem_map.2 ⟨z, hz, rfl⟩)
   simp only [this, decide_false]
   exact find_nd hn.2 hz
theorem names_inj {l : List Raw} {x y : Raw} (hn : (l.map (·.1)).Nodup) (hx : x ∈ l) (hy : y ∈ l) (h : x.1 = y.1) : x = y := by
 have h1 := find_nd hn hx
 have h2 := find_nd hn hy
 rw [h] at h1
 exact Option.some.inj (h1.symm.trans h2)
theorem usedL_app (a b : List Raw) : usedL (a ++ b) = usedL a + usedL b := by simp [usedL]
theorem usedL_cons (x : Raw) (b : List Raw) : usedL (x :: b) = x.2.2.length + usedL b := by simp [usedL]
theorem usedL_mem {l : List Raw} {x : Raw} (h : x ∈ l) : x.2.2.length ≤ usedL l := by
 obtain ⟨A, B, rfl⟩ := List.append_of_mem h
 rw [usedL_app, usedL_cons]; omega
theorem usedL_perm {a b : List Raw} (h : a.Perm b) : usedL a = usedL b := (h.map _).sum_nat
theorem fileD_of {l : List Raw} {p d : List UInt8} (hn : (l.map (·.1)).Nodup) (hm : (p, false, d) ∈ l) : fileD l p = some d := by
 unfold fileD
 rw [find_nd (z := (p, false, d)) hn hm]; rfl
theorem setD_split {l : List Raw} {p b d : List UInt8} (hn : (l.map (·.1)).Nodup) (hm : (p, false, d) ∈ l) : ∃ A B, l = A ++ (p, false, d) :: B ∧ setD l p b = A ++ (p, false, b) :: B := by
 obtain ⟨A, B, rfl⟩ := List.append_of_mem hm
 refine ⟨A, B, rfl, ?_⟩
 rw [List.map_append, List.map_cons, List.nodup_append] at hn
 obtain ⟨_, h2, h3⟩ := hn
 have id1 : ∀ {X : List Raw}, (∀ x ∈ X, x.1 ≠ p) → X.map (fun x => if x.1 = p then (x.1, x.2.1, b) else x) = X := by
  intro X hX
  conv => rhs; rw [← List.map_id X]
  apply List.map_congr_left
  intro x hx
  rw [if_neg (hX x hx)]; rfl
 unfold setD
 rw [List.map_append, List.map_cons, id1 (fun x hx e => h3 x.1 (List.mem_map.2 ⟨x, hx, rfl⟩) p (by simp) e), id1 (fun x hx e => (List.nodup_cons.1 h2).1 (List.mem_map.2 ⟨x, hx, e⟩)), if_pos rfl]
theorem mem_setD {l : List Raw} {p b : List UInt8} {z : Raw} : z ∈ setD l p b ↔ (z ∈ l ∧ z.1 ≠ p) ∨ (z.1 = p ∧ z.2.2 = b ∧ ∃ y ∈ l, y.1 = p ∧ y.2.1 = z.2.1) := by
 unfold setD
 rw [List.mem_map]
 constructor
 ·rintro ⟨x, hx, rfl⟩
  by_cases h : x.1 = p
  ·rw [if_pos h]; exact .inr ⟨h, rfl, x, hx, h, rfl⟩
  ·rw [if_neg h]; exact .inl ⟨hx, h⟩
 ·rintro (⟨h1, h2⟩ | ⟨h1, h2, y, h3, h4, h5⟩)
  ·exact ⟨z, h1, if_neg h2⟩
  ·refine ⟨y, h3, ?_⟩
   rw [if_pos h4, h4, h5, ← h1, ← h2]

/-- The bytes of a path are others. -/
def updC (C : List Con) (p : List UInt8) (c' : Con) : List Con := C.map fun c => if c.k = p then c' else c
theorem updC_split {C : List Con} {c : Con} (hn : (C.map (·.k)).Nodup) (hc : c ∈ C) : ∃ A B, C = A ++ c :: B ∧ ∀ c', updC C c.k c' = A ++ c' :: B := by
 obtain ⟨A, B, rfl⟩ := List.append_of_mem hc
 refine ⟨A, B, rfl, fun c' => ?_⟩
 rw [List.map_append, List.map_cons, List.nodup_append] at hn
 obtain ⟨_, h2, h3⟩ := hn
 have id1 : ∀ {X : List Con}, (∀ x ∈ X, x.k ≠ c.k) → X.map (fun x => if x.k = c.k then c' else x) = X := by
  intro X hX
  conv => rhs; rw [← List.map_id X]
  apply List.map_congr_left
  intro x hx
  rw [if_neg (hX x hx)]; rfl
 unfold updC
 rw [List.map_append, List.map_cons, id1 (fun x hx e => h3 x.k (List.mem_map.2 ⟨x, hx, rfl⟩) c.k (by simp) e), id1 (fun x hx e => (List.nodup_cons.1 h2).1 (List.mem_map.2 ⟨x, hx, e⟩)), if_pos rfl]
theorem cblks_app (A B : List Con) : cblks (A ++ B) = cblks A ++ cblks B := List.flatMap_append
theorem cblks_cons (c : Con) (B : List Con) : cblks (c :: B) = c.blks ++ cblks B := rfl

section
variable {base : BaseF} {S : FSt} {l : List Raw} {hf : HF} {c c' : Con} {p d b : List UInt8}
theorem FR.names (h : FR base S l hf) : (l.map (·.1)).Nodup := by have := srt_names h.tr.rel.srt; rwa [bare_names'] at this
theorem FR.con (h : FR base S l hf) (hm : (p, false, d) ∈ l) : ∃ c ∈ S.C, c.k = p ∧ c.d = d ∧ cget S.C p = some c := by
 obtain ⟨c, hc, h1, h2⟩ := (h.cl p d).1 hm
 exact ⟨c, hc, h1, h2, h1 ▸ cget_of h.cn hc⟩
theorem FR.row (h : FR base S l hf) (hc : c ∈ S.C) : (c.k, false, c.d) ∈ l := (h.cl _ _).2 ⟨c, hc, rfl, rfl⟩
theorem FR.bytes (h : FR base S l hf) (hm : (p, false, d) ∈ l) : fileB l p = d := by unfold fileB; rw [fileD_of h.names hm]; rfl
theorem FR.le (h : FR base S l hf) (hm : (p, false, d) ∈ l) : d.length ≤ 65536 ∧ d.length ≤ usedL l := by
 obtain ⟨c, hc, _, rfl, _⟩ := h.con hm
 exact ⟨(h.ok c hc).le, usedL_mem hm⟩
theorem FR.get (h : FR base S l hf) (p : List UInt8) : cget S.C p = none ∨ ∃ c ∈ S.C, c.k = p ∧ cget S.C p = some c := by
 cases hg : cget S.C p with
 | none => exact .inl rfl
 | some c => exact .inr ⟨c, (cget_mem hg).1, (cget_mem hg).2, rfl⟩
theorem FR.no (h : FR base S l hf) (hg : cget S.C p = none) : ∀ d, (p, false, d) ∉ l := fun d hm => by
 obtain ⟨c, _, _, _, h1⟩ := h.con hm
 rw [hg] at h1; cases h1
/-- Other bytes. -/
theorem FR.set (h : FR base S l hf) (hc : c ∈ S.C) (hk : c'.k = c.k) (hb : c'.b = c.b) (hOK : c'.OK base) (hu : usedL l + c'.d.length ≤ 262144 + c.d.length) :
  FR base { S with C := updC S.C c.k c' } (setD l c.k c'.d) hf ∧ usedL (setD l c.k c'.d) + c.d.length = usedL l + c'.d.length := by
 have hm := h.row hc
 obtain ⟨A, B, e1, e2⟩ := setD_split (b := c'.d) h.names hm
 obtain ⟨CA, CB, f1, f2⟩ := updC_split h.cn hc
 have hus : usedL (setD l c.k c'.d) + c.d.length = usedL l + c'.d.length := by
  rw [e2]
  conv => rhs; rw [e1]
  simp only [usedL_app, usedL_cons]
  omega
 have hmem : ∀ x, x ∈ updC S.C c.k c' ↔ (x ∈ S.C ∧ x.k ≠ c.k) ∨ x = c' := by
  intro x
  unfold updC
  rw [List.mem_map]
  constructor
  ·rintro ⟨y, hy, rfl⟩
   by_cases e : y.k = c.k
   ·rw [if_pos e]; exact .inr rfl
   ·rw [if_neg e]; exact .inl ⟨hy, e⟩
  ·rintro (⟨h1, h2⟩ | rfl)
   ·exact ⟨x, h1, if_neg h2⟩
   ·exact ⟨c, hc, if_pos rfl⟩
 refine ⟨⟨by rw [bare_set]; exact h.tr, ?_, ?_, ?_, ?_, ?_, by omega, h.hl, h.hh, ?_⟩, hus⟩
 ·have : cmap (updC S.C c.k c') = cmap S.C := by
   funext q
   unfold cmap cget
   rw [f2, f1, List.find?_append, List.find?_append, List.find?_cons, List.find?_cons, hk]
   cases CA.find? (fun c => decide (c.k = q)) with
   | some x => rfl
   | none =>
    simp only [Option.none_or]
    by_cases e : c.k = q
    ·simp [e, hb]
    ·simp [e]
  show MapF strV S.om (cmap (updC S.C c.k c'))
  rw [this]; exact h.mp
 ·have := h.cn
  rw [f1] at this
  show ((updC S.C c.k c').map (·.k)).Nodup
  rw [f2]
  simpa [hk] using this
 ·intro x hx
  rcases (hmem x).1 hx with ⟨h1, _⟩ | rfl
  ·exact h.ok x h1
  ·exact hOK
 ·intro q d
  rw [mem_setD]
  constructor
  ·rintro (⟨h1, h2⟩ | ⟨h1, h2, y, h3, h4, h5⟩)
   ·obtain ⟨x, hx, g1, g2⟩ := (h.cl q d).1 h1
    exact ⟨x, (hmem x).2 (.inl ⟨hx, fun e => h2 (g1.symm.trans e)⟩), g1, g2⟩
   ·simp only at h1 h2
    exact ⟨c', (hmem c').2 (.inr rfl), hk.trans h1.symm, h2.symm⟩
  ·rintro ⟨x, hx, rfl, rfl⟩
   rcases (hmem x).1 hx with ⟨h1, h2⟩ | rfl
   ·exact .inl ⟨h.row h1, h2⟩
   ·exact .inr ⟨hk, rfl, _, hm, rfl, rfl⟩
 ·intro z hz hd
  rcases mem_setD.1 hz with ⟨h1, _⟩ | ⟨h1, _, y, h3, h4, h5⟩
  ·exact h.dd z h1 hd
  ·have := names_inj h.names h3 hm h4
   rw [this] at h5
   rw [← h5] at hd; cases hd
 ·intro x hx h0
  obtain ⟨d, hd⟩ := h.ho x hx h0
  by_cases e : x.1 = c.k
  ·exact ⟨c'.d, mem_setD.2 (.inr ⟨e, rfl, _, hm, rfl, rfl⟩)⟩
  ·exact ⟨d, mem_setD.2 (.inl ⟨hd, e⟩)⟩
theorem hAt_set {hs : List Hd} {a i : Nat} {h' : Hd} (hl : hs.length = 128) (ha : a < 8) (hi : i < 16) : hAt (hs.set (16 * a + i) h') = setH (hAt hs) (a : Int) ((i : Int) + 1) (if h'.1 = [] then none else some h') := by
 funext who n
 unfold setH
 by_cases e : who = (a : Int) ∧ n = (i : Int) + 1
 ·obtain ⟨rfl, rfl⟩ := e
  rw [if_pos ⟨rfl, rfl⟩, hAt_at ha hi, List.getElem?_set_self (by omega)]
 ·rw [if_neg e]
  unfold hAt
  by_cases e2 : 0 ≤ who ∧ who < 8 ∧ 1 ≤ n ∧ n ≤ 16
  ·rw [if_pos e2, if_pos e2, List.getElem?_set_ne (fun h => e (by omega))]
  ·rw [if_neg e2, if_neg e2]
/-- A handle turns. -/
theorem FR.hset {a i : Nat} {h' : Hd} (h : FR base S l hf) (ha : a < 8) (hi : i < 16) (hm : h'.1 ≠ [] → ∃ d, (h'.1, false, d) ∈ l) : FR base { S with hs := S.hs.set (16 * a + i) h' } l (setH hf (a : Int) ((i : Int) + 1) (if h'.1 = [] then none else some h')) :=
 { h with
  hl := by simpa using h.hl
  hh := by rw [h.hh]; exact (hAt_set h.hl ha hi).symm
  ho := fun x hx h0 => by
   rcases List.mem_or_eq_of_mem_set hx with h1 | rfl
   ·exact h.ho x h1 h0
   ·exact hm h0 }
theorem FR.at_ {a i : Nat} {x : Hd} (h : FR base S l hf) (ha : a < 8) (hi : i < 16) (hq : S.hs[16 * a + i]? = some x) (h0 : x.1 ≠ []) : hf (a : Int) ((i : Int) + 1) = some x := by rw [h.hh]; exact hAt_some ha hi hq h0
/-- Nothing but the tree turned: what has no bytes came or went. -/
theorem FR.tree {E' : List Ent} {l' : List Raw} (h : FR base S l hf) (ht : TR E' (bareL l')) (hf' : ∀ p d, (p, false, d) ∈ l' ↔ (p, false, d) ∈ l) (hd : ∀ z ∈ l', z.2.1 = true → z.2.2 = []) (hu : usedL l' ≤ 262144) : FR base { S with E := E' } l' hf :=
 { h with
  tr := ht
  cl := fun p d => by rw [hf']; exact h.cl p d
  dd := hd
  us := hu
  ho := fun x hx h0 => let ⟨d, hm⟩ := h.ho x hx h0; ⟨d, (hf' _ _).2 hm⟩ }
/-- A file's blocks, apart from all others. -/
theorem con_out {bf u : Nat} {bv : Value} (hn : (S.C.map (·.k)).Nodup) (hc : c ∈ S.C) : ∃ R : List (Nat × Obj), (fsB bf bv u S).Perm (c.hd :: (c.D ++ R)) ∧ ∀ c' : Con, (c'.hd :: (c'.D ++ R)).Perm (fsB bf bv u { S with C := updC S.C c.k c' }) := by
 obtain ⟨A, B, h1, h2⟩ := updC_split hn hc
 refine ⟨(bf, .cells (fsC bv u S).toArray 90 (0, 0)) :: (S.bm, S.om) :: (tb S.bt S.E ++ (cblks A ++ cblks B)), ?_, fun c' => ?_⟩
 ·unfold fsB
  rw [h1, cblks_app, cblks_cons, Con.blks]
  exact perm_c fun p => by simp only [List.countP_append, List.countP_cons, List.countP_nil]; omega
 ·unfold fsB
  simp only [h2, cblks_app, cblks_cons, Con.blks]
  have e : fsC bv u { S with C := A ++ c' :: B } = fsC bv u S := rfl
  rw [e]
  exact perm_c fun p => by simp only [List.countP_append, List.countP_cons, List.countP_nil]; omega
def ownC (c : Con) (v : Value) (D : List (Nat × Obj)) (d : List UInt8) : Con := ⟨c.k, c.b, true, v, D, [], 0, d⟩
theorem sized_app {L : List (Nat × Obj)} {v : Value} {n : Nat} (h : OwL L v 1 ((d.take (min n d.length)).length + (n - min n d.length)) (byteCs (d.take (min n d.length)) ++ List.replicate (n - min n d.length) (.int .u8 0))) : BytesO L v (sizedB d n) := by
 have e1 : d.take (min n d.length) = d.take n := by
  rcases Nat.le_total n d.length with h | h
  ·rw [Nat.min_eq_left h]
  ·rw [Nat.min_eq_right h, List.take_of_length_le (Nat.le_refl _), List.take_of_length_le h]
 have e2 : n - min n d.length = n - d.length := by omega
 rw [e1, e2] at h
 unfold BytesO sizedB
 have e3 : byteCs (d.take n ++ List.replicate (n - d.length) 0) = byteCs (d.take n) ++ List.replicate (n - d.length) (.int .u8 0) := by
  simp [byteCs, byteV]
 rw [List.length_append, List.length_replicate, e3]
 exact h
theorem sizedB_len {n : Nat} : (sizedB d n).length = n := by unfold sizedB; rw [List.length_append, List.length_take, List.length_replicate]; omega
end
end Go.Proofs.YtigfbpbnohkokaaGreat

namespace Go.Fw
open Go Go.RowKit
set_option linter.unusedVariables false
set_option linter.unusedSimpArgs false

section
variable {P : Program} {w : World} {v : Value} {m n : Nat} {cs : List Value}
theorem run_append_z {t tx ty e bts k : Nat} {z zc : Value} {news : List Value} (ht : P.underlying t = some (.slice e)) (hm : szOf P e = some m) (hz : zeroOf P e = some z) (hzc : z.cells = #[zc]) (hm1 : m = 1) (hz1 : zc.oneCell' = true) (hnews : news = List.replicate k zc) (hk64 : P.underlying tx = some (.int .i64)) (hby : bytesOf' P e = some bts)
  (hv : OwS w v m n cs) (hcs : ∀ u ∈ cs, u.oneCell' = true) (hfit : (n + k) * bts ≤ 70368744177664) (hb : bts ≤ 1048576) (h63 : n + k ≤ 9223372036854775807) :
  ∃ v' w', (Builtin.append_ #[t, tx] ty #[v, .int .i64 (k : Int)]).run P w = .ok v' w' ∧ OwS w' v' m (n + k) (cs ++ news) ∧ (v = .slice none 0 0 ∧ k = 0 ∧ v' = v ∧ w' = w ∨ ApTo w v v' w') := by
 obtain ⟨i, hi, hi1, hi2, hi3⟩ : ∃ i, P.info? e = some i ∧ i.size = m ∧ i.zero = some z ∧ i.bytes = bts := by
  unfold szOf at hm; unfold zeroOf at hz; unfold bytesOf' at hby
  cases h : P.info? e with
  | none => simp [h] at hm
  | some i => simp [h] at hm hz hby; exact ⟨i, rfl, hm, hz, hby⟩
 subst hi1 hi3
 have hzm : z.cells.size = i.size := by rw [hzc, hm1]; rfl
 have hnl0 : news.length = k * i.size := by rw [hnews, hm1]; simp
 have hone : ∀ u ∈ news, u.oneCell' = true := by
  intro u hu
  rw [hnews] at hu
  rw [List.eq_of_mem_replicate hu]; exact hz1
 have hw : IntKind.i64.wrap (k : Int) = (k : Int) := by
  simp only [IntKind.wrap, IntKind.bits, IntKind.signed]
  have : (k : Int) ≤ 9223372036854775807 := by omega
  first | (simp; omega) | simp
 have hkb : ¬ (281474976710656 < (k : Int) * (i.bytes : Int)) := by
  have h1 : k * i.bytes ≤ (n + k) * i.bytes := Nat.mul_le_mul_right _ (by omega)
  have h2 : ((k * i.bytes : Nat) : Int) = (k : Int) * (i.bytes : Int) := by simp
  omega
 have hk0 : ¬ ((k : Int) < 0) := by omega
 have hzk : Builtin.zeroCells z.cells k = news.toArray := by
  rw [hzc, hnews]
  unfold Builtin.zeroCells
  apply Array.ext
  ·simp
  ·intro j h1 h2
   simp [Nat.mod_one]
 have grow : ∀ (base : Option Addr) (sCap : Nat), v = .slice base n sCap → sCap < n + k → (Builtin.firstCells i.size n (.slice base n sCap)).run P w.drew = .ok cs.toArray w.drew →
   ∃ v' w', (Builtin.append_ #[t, tx] ty #[v, .int .i64 (k : Int)]).run P w = .ok v' w' ∧ OwS w' v' i.size (n + k) (cs ++ news) ∧ (v = .slice none 0 0 ∧ k = 0 ∧ v' = v ∧ w' = w ∨ ApTo w v v' w') := by
  intro base sCap hve hlt hold
  have hfit' : Builtin.nextslicecap (n + k) sCap * i.bytes ≤ 281474976710656 := by
   have h1 := nextslicecap_le hlt
   have h2 : Builtin.nextslicecap (n + k) sCap * i.bytes ≤ (2 * (n + k) + 1024) * i.bytes := Nat.mul_le_mul_right _ h1
   have h3 : (2 * (n + k) + 1024) * i.bytes = 2 * ((n + k) * i.bytes) + 1024 * i.bytes := by rw [Nat.add_mul, Nat.mul_assoc]
   omega
  have hn : ¬ (n + k ≤ sCap) := by omega
  have h63' : ¬ (9223372036854775807 < ((n : Int) + (k : Int))) := by omega
  have h48' : ¬ (281474976710656 < Builtin.nextslicecap (n + k) sCap * i.bytes) := by omega
  have : (Builtin.append_ #[t, tx] ty #[.slice base n sCap, .int .i64 (k : Int)]).run P w =
    .ok (.slice (some ⟨w.heap.size, 0, none⟩) (n + k) (grownCap w (n + k) sCap e)) (w.drew.alloc (.cells ((cs ++ news).toArray ++ Builtin.zeroCells z.cells (grownCap w (n + k) sCap e - (n + k))) e)) := by
   have hsz : (sizeOf e).run P w = .ok i.size w := by simp [sizeOf, typeInfo, hi]
   unfold Builtin.append_
   by_cases h0 : k * i.size = 0
   ·have hn0 : news = [] := List.length_eq_zero_iff.1 (by rw [hnl0]; exact h0)
    simp [h0, hk0, hn0, run_underlying ht, run_underlying hk64, sizeOf, typeInfo, zeroValue, asInt, asIntOf, hi, hi2, hw, hkb, hn, h63', h48', Question.forced, hold, newRow, grownCap]
   ·simp [h0, hk0, hzk, run_underlying ht, run_underlying hk64, sizeOf, typeInfo, zeroValue, asInt, asIntOf, hi, hi2, hw, hkb, hn, h63', h48', Question.forced, hold, newRow, grownCap]
    congr 2
    apply Array.ext'
    simp [List.append_assoc]
  rw [hve, this]
  refine ⟨_, _, rfl, .inr ⟨w.heap.size, grownCap w (n + k) sCap e, (Builtin.zeroCells z.cells (grownCap w (n + k) sCap e - (n + k))).toList, e, rfl, ?_, ?_, ?_⟩, .inr (.inr ⟨rfl, _, rfl⟩)⟩
  ·show (w.heap.push _)[w.heap.size]? = _
   rw [Array.getElem?_push_size]
   congr 2
   apply Array.ext'
   simp
  ·have h1 : cs.length = n * i.size := by
    rcases hv with ⟨_, rfl, rfl⟩ | ⟨_, _, _, _, _, _, h, _⟩
    ·simp
    ·exact h
   rw [List.length_append, h1, hnl0, Nat.add_mul]
  ·have h1 : cs.length = n * i.size := by
    rcases hv with ⟨_, rfl, rfl⟩ | ⟨_, _, _, _, _, _, h, _⟩
    ·simp
    ·exact h
   have hcap : n + k ≤ grownCap w (n + k) sCap e := by simp [grownCap, Question.cut]
   simp only [List.length_append, h1, hnl0, Builtin.zeroCells, Array.length_toList, Array.size_map, Array.size_range, hzm]
   rw [← Nat.add_mul, ← Nat.add_mul]
   congr 1
   omega
 rcases hv with ⟨rfl, rfl, rfl⟩ | ⟨b, cap, rest, T, rfl, hbk, h1, h2⟩
 ·by_cases hk : k = 0
  ·subst hk
   have hn0 : news = [] := by have := hnl0; simpa using this
   subst hn0
   refine ⟨.slice none 0 0, w, ?_, .inl ⟨rfl, rfl, rfl⟩, .inl ⟨rfl, rfl, rfl, rfl⟩⟩
   have hw0 : IntKind.i64.wrap 0 = 0 := by decide
   simp [Builtin.append_, run_underlying ht, run_underlying hk64, sizeOf, typeInfo, hi, asInt, asIntOf, hw0]
  ·exact grow none 0 rfl (by omega) (by simp [Builtin.firstCells])
 ·by_cases hroom : n + k ≤ cap
  ·have hlen : (cs ++ rest).length = cs.length + rest.length := List.length_append
   have hnl := hnl0
   have hle : n * i.size + k * i.size ≤ cap * i.size := by rw [← Nat.add_mul]; exact Nat.mul_le_mul_right _ hroom
   have hst := run_storeCells (P := P) (b := b) (T := T) (fr := (0, 0)) (0 + n * i.size) news 0 (cs ++ rest) w hbk (by simp only [Nat.add_zero, Nat.zero_add]; omega) hone (by simp)
   simp only [Nat.add_zero, Nat.zero_add] at hst
   refine ⟨.slice (some ⟨b, 0, none⟩) (n + k) cap, w.putObj b (.cells ((cs ++ rest).take (n * i.size) ++ news ++ (cs ++ rest).drop (n * i.size + news.length)).toArray T (0, 0)), ?_, .inr ⟨b, cap, (cs ++ rest).drop (n * i.size + news.length), T, rfl, ?_, ?_, ?_⟩, .inr (.inl ⟨b, _, rfl, rfl, rfl⟩)⟩
   ·unfold Builtin.append_
    by_cases h0 : k * i.size = 0
    ·have hn0 : news = [] := List.length_eq_zero_iff.1 (by rw [hnl0]; exact h0)
     rw [hn0] at hst ⊢
     simp [h0, hk0, run_underlying ht, run_underlying hk64, sizeOf, typeInfo, zeroValue, hi, hi2, asInt, asIntOf, hw, hkb, hroom, Addr.add_lit]
     rw [hst]
     simp
    ·simp [h0, hk0, hzk, run_underlying ht, run_underlying hk64, sizeOf, typeInfo, zeroValue, hi, hi2, asInt, asIntOf, hw, hkb, hroom, Addr.add_lit, hst]
   ·have hlt : b < w.heap.size := (Array.getElem?_eq_some_iff.1 hbk).1
    rw [World.putObj_heap_same hlt]
    rw [← h1, List.take_left' rfl]
   ·rw [List.length_append, h1, hnl, Nat.add_mul]
   ·simp only [List.length_append, List.length_drop, h1, hnl] at h2 ⊢
    omega
  ·refine grow (some ⟨b, 0, none⟩) cap rfl (by omega) ?_
   refine run_firstCells_some w.drew i.size n ⟨b, 0, none⟩ n cap cs h1 (fun j u hu => ?_)
   have ea : (⟨b, 0, none⟩ : Addr).add j = ⟨b, 0 + j, none⟩ := by
    unfold Addr.add; split
    ·rename_i hj; subst hj; rfl
    ·rfl
   rw [ea]
   exact cell_of (w := w.drew) hbk (by rw [List.getElem?_append_left (by simpa using (List.getElem?_eq_some_iff.1 hu).1)]; simpa using hu)
end
theorem x_apZ {P : Program} {n : Nat} {ops : Array Oper} {B : Array Nat} {dr : Bool} {K : KT} {s : List (Nat × Bool)} {F : Env} {ds : List Deferred} {T : List (Nat × (World → Prop))} {w : World} {i : Nat}
  {d : Option Tmp} {ty : TypeId} {ps : String} {af : Array Edge} {gd : Option (Nat × Bool)} {x y : Operand} {t tx e bts k nn : Nat} {z0 zc sv : Value} {cs : List Value} {at0 : Array TypeId} {S : Nat → Prop} {w0 : World} {L L0 : List (Nat × Obj)} (ho : ops[i]? = some ⟨d, .call ⟨.builtin .append, #[x, y], at0⟩, ty, ps, af, gd⟩) (hg : guardV ops F gd = some true) (hd : dstOK n d = true)
  (hat : at0 = #[t, tx]) (ht : P.underlying t = some (.slice e)) (hm : szOf P e = some 1) (hz : zeroOf P e = some z0) (hzc : z0.cells = #[zc]) (hz1 : zc.oneCell' = true) (hk64 : P.underlying tx = some (.int .i64)) (hby : bytesOf' P e = some bts)
  (hx : ev? F x = some sv) (hy : ev? F y = some (.int .i64 (k : Int))) (hv : OwL L sv 1 nn cs) (M : St S w0 (L ++ L0) w) (hcs : ∀ u ∈ cs, u.oneCell' = true) (hfit : (nn + k) * bts ≤ 70368744177664) (hb : bts ≤ 1048576) (h63 : nn + k ≤ 9223372036854775807)
  (h : ∀ L' v' w1, OwL L' v' 1 (nn + k) (cs ++ List.replicate k zc) → St S w0 (L' ++ L0) w1 → pend B i T w1 ∧ Ex P n ops B dr K s (putE F d v') ds T w1) : Ex P n ops B dr K ((i, true) :: s) F ds T w := by
 obtain ⟨v', w1, hrun, h1, h2⟩ := run_append_z (ty := ty) ht hm hz hzc rfl hz1 rfl hk64 hby (hv.ows M (fun x hx => List.mem_append_left _ hx)) hcs hfit hb h63
 have fin : pend B i T w1 ∧ Ex P n ops B dr K s (putE F d v') ds T w1 → Ex P n ops B dr K ((i, true) :: s) F ds T w := fun ⟨g1, g2⟩ => by
  refine x_mv ho hg hd (v := v') (w1 := w1) (fun at_ hk => ?_) g1 g2
  subst hat
  simp only [execOp, resolve, List.map_toArray, List.map_cons, List.map_nil, hk.eval hx, hk.eval hy, Sem.run_bind, Sem.run_pure, Result.andThen_ok, invoke, builtin, hrun]
 have hnl : (List.replicate k zc).length = k * 1 := by simp
 generalize List.replicate k zc = news at h h1 h2 hnl
 refine fin ?_
 have key : ∀ b, blkOf v' = some b → ∃ cap rest T, v' = .slice (some ⟨b, 0, none⟩) (nn + k) cap ∧ w1.heap[b]? = some (.cells ((cs ++ news) ++ rest).toArray T (0, 0)) ∧ (cs ++ news).length = (nn + k) * 1 ∧ ((cs ++ news) ++ rest).length = cap * 1 := by
  intro b hb
  rcases h1 with ⟨rfl, _⟩ | ⟨b', cap, rest, T, rfl, g1, g2, g3⟩
  ·cases hb
  ·cases hb; exact ⟨cap, rest, T, rfl, g1, g2, g3⟩
 rcases h2 with ⟨rfl, rfl, rfl, rfl⟩ | ⟨b, o, g1, g2, rfl⟩ | ⟨g1, o, rfl⟩
 ·rcases hv with ⟨_, rfl, rfl, rfl⟩ | ⟨b, cap, rest, T, g, _⟩
  ·have h0 : news = [] := by have := hnl; simpa using this
   subst h0
   exact h [] _ _ OwL.nil M
  ·cases g
 ·obtain ⟨cap, rest, T, rfl, g3, g4, g5⟩ := key b g2
  rcases hv with ⟨rfl, _⟩ | ⟨b', cap', rest', T', rfl, rfl, g6, g7⟩
  ·cases g1
  ·cases g1
   have M1 := M.put 0 (b := b') (o0 := .cells (cs ++ rest').toArray T' (0, 0)) (o := o) rfl rfl
   have M1 : St S w0 ([(b', o)] ++ L0) (w.putObj b' o) := M1
   have g8 := M1.at_ 0 (b := b') (o := o) rfl
   rw [g3] at g8; cases g8
   exact h [(b', _)] _ _ (.inr ⟨b', cap, rest, T, rfl, rfl, g4, g5⟩) M1
 ·obtain ⟨cap, rest, T, rfl, g3, g4, g5⟩ := key _ g1
  have M1 := (M.drew rfl).acons (b := w.heap.size) rfl (o := o) rfl
  have g8 := M1.at_ 0 (b := w.heap.size) (o := o) rfl
  rw [g3] at g8; cases g8
  refine h [(w.heap.size, _)] _ _ (.inr ⟨_, cap, rest, T, rfl, rfl, g4, g5⟩) (M1.sub ?_)
  exact List.Sublist.cons_cons _ (List.sublist_append_right _ _)

end Go.Fw

namespace Go.Proofs.YtigfbpbnohkokaaGreat
open Go Go.Fw Go.RowKit Go.Proofs
set_option linter.unusedVariables false
set_option linter.unusedSimpArgs false

set_option maxRecDepth 100000 in
theorem resize_c {w00 w0 : World} {bf u n : Nat} {bv : Value} {S : FSt} {c : Con} {base : BaseF} {Lb L : List (Nat × Obj)} (M : Sep w00 (fsB bf bv u S ++ (Lb ++ L)) w0) (hc : c ∈ S.C) (hOK : c.OK base) (hB : BaseC w00 Lb bv base) (hn : (S.C.map (·.k)).Nodup) (hl : S.hs.length = 128) (hu : u ≤ 262144) (hcu : c.d.length ≤ u) (hle : n ≤ 65536) : Ret Tryz.prog 101 #[ptr bf, ptr c.b, .int .i64 (n : Int)] w0 fun r w' => r = .bool (decide (u + n ≤ 262144 + c.d.length)) ∧ (¬ u + n ≤ 262144 + c.d.length → Sep w00 (fsB bf bv u S ++ (Lb ++ L)) w') ∧ (u + n ≤ 262144 + c.d.length → ∃ v D, BytesO D v (sizedB c.d n) ∧ Sep w00 (fsB bf bv (u + n - c.d.length) { S with C := updC S.C c.k (ownC c v D (sizedB c.d n)) } ++ (Lb ++ L)) w') := by
 have hcl := hOK.le
 refine Ret.of_W Tryz.func101 rfl Tryz.ntmps101 rfl ?_
 refine W.seq ?_
 refine W.sub [(0, _), (1, _), (2, _)] ⟨rfl, rfl, rfl, trivial⟩ ?_
 refine W.reg [(0, false)] (by kernel_rfl) ?_
 intro K hK
 refine x_assign rfl rfl rfl rfl ?_
 refine Ex.done (hK _ _ ?_)
 refine At.then_n ?_
 refine W.seq ?_
 refine W.seq ?_
 refine W.sub [(0, _), (1, _), (2, _)] ⟨rfl, rfl, rfl, trivial⟩ ?_
 refine W.regD (by kernel_rfl) #[0, 1, 3, 7, 0, 31, 0, 64, 255, 511] [(0, false), (1, false), (2, false), (3, false), (4, false), (5, false), (6, false), (7, true), (8, false), (9, false)] (by kernel_rfl) ?_
 intro K wD1 hK hwD1
 have M := M.drew hwD1
 refine x_move rfl rfl rfl rfl ?_
 refine x_nil rfl rfl rfl rfl rfl ?_
 refine x_fa rfl rfl rfl fo90_4 rfl ?_
 refine x_ld rfl rfl rfl Tryz.underlying3 rfl rfl (cell_of (fs_at M (fun y (hy : y ∈ fsB bf bv u S) => by simp [hy])) (fsC_used hl)) ?_
 refine x_move rfl rfl rfl rfl ?_
 refine x_add ((u + n : Nat) : Int) rfl rfl rfl rfl rfl (by rw [wadd (by omega) (by omega)]; omega) ?_
 refine x_move rfl rfl rfl rfl ?_
 refine x_call rfl rfl rfl rfl rfl en48 (length_c (con_at M (fun y (hy : y ∈ fsB bf bv u S) => by simp [hy]) hc) hOK) ?_
 rintro r_ w_ ⟨rfl, rfl⟩
 refine ⟨⟨(by first | exact .inr (cell_of (M.at_ 0 rfl) rfl) | exact .inr (cell_of (fs_at M (fun y (hy : y ∈ fsB bf bv u S) => by simp [hy])) (fsC_used hl))), trivial⟩, ?_⟩
 refine x_sub _ rfl rfl rfl rfl rfl (wsub (by omega) (by omega)) ?_
 refine x_gtr _ rfl rfl rfl rfl rfl rfl ?_
 refine Ex.done (hK _ _ ?_)
 refine At.then_n ?_
 refine W.cond rfl (fun hco1 => ?_) (fun hco1 => ?_)
 ·try simp only [sA, sB, sC, sD, sE, sF, sG, sH, sI, sJ, sK, sL, sM, sN, sO] at hco1
  refine W.seq ?_
  refine W.sub [] trivial ?_
  refine W.reg [(0, false)] (by kernel_rfl) ?_
  intro K hK
  refine x_assign rfl rfl rfl rfl ?_
  refine Ex.done (hK _ _ ?_)
  refine At.then_n ?_
  refine W.ret ?_
  refine At.then_r ?_
  refine At.ret1 (.tmp 6) rfl ⟨rfl, trivial⟩ ?_
  exact ⟨by rw [decide_eq_false (by omega)], fun _ => M, fun h => absurd h (by omega)⟩
 ·try simp only [sA, sB, sC, sD, sE, sF, sG, sH, sI, sJ, sK, sL, sM, sN, sO] at hco1
  refine W.skip ?_
  refine At.then_n ?_
  refine W.seq ?_
  refine W.sub [(0, _), (1, _), (2, _)] ⟨rfl, rfl, rfl, trivial⟩ ?_
  refine W.regD (by kernel_rfl) #[0, 1, 3, 7, 0, 0, 32, 112, 255, 511, 1023, 2047] [(0, false), (1, false), (2, false), (3, false), (4, false), (5, false), (6, true), (7, false), (8, false), (9, false), (10, false), (11, true)] (by kernel_rfl) ?_
  intro K wD2 hK hwD2
  have M := M.drew hwD2
  refine x_move rfl rfl rfl rfl ?_
  refine x_nil rfl rfl rfl rfl rfl ?_
  refine x_fa rfl rfl rfl fo90_4 rfl ?_
  refine x_ld rfl rfl rfl Tryz.underlying3 rfl rfl (cell_of (fs_at M (fun y (hy : y ∈ fsB bf bv u S) => by simp [hy])) (fsC_used hl)) ?_
  refine x_move rfl rfl rfl rfl ?_
  refine x_move rfl rfl rfl rfl ?_
  refine x_call rfl rfl rfl rfl rfl en48 (length_c (con_at M (fun y (hy : y ∈ fsB bf bv u S) => by simp [hy]) hc) hOK) ?_
  rintro r_ w_ ⟨rfl, rfl⟩
  refine ⟨⟨(by first | exact .inr (cell_of (M.at_ 0 rfl) rfl) | exact .inr (cell_of (fs_at M (fun y (hy : y ∈ fsB bf bv u S) => by simp [hy])) (fsC_used hl))), trivial⟩, ?_⟩
  refine x_sub _ rfl rfl rfl rfl rfl (wsub (by omega) (by omega)) ?_
  refine x_add (((u + n - c.d.length) : Nat) : Int) rfl rfl rfl rfl rfl (by rw [wadd (by omega) (by omega)]; omega) ?_
  refine x_nil rfl rfl rfl rfl rfl ?_
  refine x_fa rfl rfl rfl fo90_4 rfl ?_
  refine x_st [_] (fsC bv (u + n - c.d.length) S) rfl rfl rfl sz3 rfl rfl rfl rfl (fs_at M (fun y (hy : y ∈ fsB bf bv u S) => by simp [hy])) rfl (by rw [fsC_len hl]; rfl) (fsC_use hl) ?_
  intro wst1 hwst1
  have M : Sep w00 (fsB bf bv (u + n - c.d.length) S ++ (Lb ++ L)) wst1 := M.put 0 rfl hwst1
  refine ⟨⟨.inl (by kernel_rfl), trivial⟩, ?_⟩
  refine Ex.done (hK _ _ ?_)
  refine At.then_n ?_
  refine W.seq ?_
  refine W.sub [(0, _), (1, _), (2, _)] ⟨rfl, rfl, rfl, trivial⟩ ?_
  refine W.reg [(0, false), (1, false), (2, false), (3, false), (4, true), (5, false), (6, true), (7, false)] (by kernel_rfl) ?_
  intro K hK
  refine x_move rfl rfl rfl rfl ?_
  refine x_move rfl rfl rfl rfl ?_
  refine x_move rfl rfl rfl rfl ?_
  refine x_move rfl rfl rfl rfl ?_
  refine x_call rfl rfl rfl rfl rfl en48 (length_c (con_at M (fun y (hy : y ∈ fsB bf bv (u + n - c.d.length) S) => by simp [hy]) hc) hOK) ?_
  rintro r_ w_ ⟨rfl, rfl⟩
  refine ⟨trivial, ?_⟩
  refine x_min ((min n c.d.length : Nat) : Int) rfl rfl rfl rfl rfl (by split <;> omega) ?_
  refine x_call rfl rfl rfl rfl rfl en47 (bytes_c (a := 0) M hc hOK hB (by omega)) ?_
  rintro v4 w4 ⟨L4, hb4, M⟩
  rw [List.drop_zero] at hb4
  have hlen0 : (c.d.take (min n c.d.length)).length = min n c.d.length := by rw [List.length_take]; omega
  obtain ⟨p4, c4, rfl⟩ := hb4.shape
  refine ⟨trivial, ?_⟩
  refine x_assign rfl rfl rfl rfl ?_
  refine Ex.done (hK _ _ ?_)
  refine At.then_n ?_
  refine W.seq ?_
  refine W.sub [(1, _), (2, _), (7, _)] ⟨rfl, rfl, rfl, trivial⟩ ?_
  refine W.reg [(0, false), (1, false), (2, false), (3, false), (4, false), (5, false), (6, true), (7, false), (8, false), (9, true)] (by kernel_rfl) ?_
  intro K hK
  refine x_move rfl rfl rfl rfl ?_
  refine x_move rfl rfl rfl rfl ?_
  refine x_move rfl rfl rfl rfl ?_
  refine x_move rfl rfl rfl rfl ?_
  refine x_len rfl rfl rfl rfl Tryz.underlying27 rfl ?_
  refine x_sub ((n - min n c.d.length : Nat) : Int) rfl rfl rfl rfl rfl (by rw [wsub (by omega) (by omega)]; omega) ?_
  have M : Sep w00 (L4 ++ (fsB bf bv (u + n - c.d.length) S ++ (Lb ++ L))) w4 := M.perm (perm_c fun p => by simp only [List.countP_append, List.countP_cons, List.countP_nil]; omega)
  refine x_apZ rfl rfl rfl rfl Tryz.underlying27 sz5 ze5 rfl rfl Tryz.underlying3 by5 rfl rfl hb4 M (byteCs_one _) (by omega) (by decide) (by omega) ?_
  intro L5 v5 w5 how M
  have how := sized_app how
  obtain ⟨p5, c5, rfl⟩ := how.shape
  obtain ⟨R, hR1, hR2⟩ := con_out (bf := bf) (bv := bv) (u := (u + n - c.d.length)) hn hc
  have M : Sep w00 (c.hd :: (c.D ++ (L5 ++ (R ++ (Lb ++ L))))) w5 := (M.perm (List.perm_append_comm.trans ((hR1.append_right _).append_right _))).perm (perm_c fun p => by simp only [List.countP_append, List.countP_cons, List.countP_nil]; omega)
  have M : Sep w00 ((c.b, .cells c.cs.toArray 104 (0, 0)) :: (c.D ++ (L5 ++ (R ++ (Lb ++ L))))) w5 := M
  refine ⟨trivial, ?_⟩
  refine x_build [_, _, _, _] rfl rfl rfl pl104 ze104 rfl rfl rfl ?_
  refine x_nil rfl rfl rfl rfl rfl ?_
  refine x_st [_, _, _, _] _ rfl rfl rfl sz104 rfl rfl rfl rfl (M.at_ 0 rfl) rfl rfl rfl ?_
  intro wst2 hwst2
  have M : Sep w00 ((ownC c (.slice p5 (sizedB c.d n).length c5) L5 (sizedB c.d n)).hd :: (c.D ++ (L5 ++ (R ++ (Lb ++ L))))) wst2 := M.put 0 rfl hwst2
  have M : Sep w00 (((ownC c (.slice p5 (sizedB c.d n).length c5) L5 (sizedB c.d n)).hd :: (L5 ++ R)) ++ (Lb ++ L)) wst2 := (St.dropL (L' := c.D) (M.perm (perm_c fun p => by simp only [List.countP_append, List.countP_cons, List.countP_nil]; omega)))
  refine ⟨trivial, ?_⟩
  refine Ex.done (hK _ _ ?_)
  refine At.then_n ?_
  refine W.seq ?_
  refine W.sub [] trivial ?_
  refine W.reg [(0, false)] (by kernel_rfl) ?_
  intro K hK
  refine x_assign rfl rfl rfl rfl ?_
  refine Ex.done (hK _ _ ?_)
  refine At.then_n ?_
  refine W.ret ?_
  refine At.ret1 (.tmp 6) rfl ⟨rfl, trivial⟩ ?_
  exact ⟨by rw [decide_eq_true (by omega)], fun h => absurd (by omega) h, fun _ => ⟨_, L5, how, M.perm ((hR2 (ownC c _ L5 _)).append_right _)⟩⟩
end Go.Proofs.YtigfbpbnohkokaaGreat

namespace Go.Proofs.YtigfbpbnohkokaaGreat
open Go Go.Fw Go.RowKit
set_option linter.unusedVariables false
set_option linter.unusedSimpArgs false

section
variable {S0 : Nat → Prop} {w0 w : World} {X F B L R : List (Nat × Obj)}
theorem St.fsi (h : St S0 w0 (X ++ (F ++ (B ++ L))) w) : St S0 w0 (F ++ (B ++ (X ++ L))) w := h.perm (perm_c fun p => by simp only [List.countP_append]; omega)
theorem St.fso0 (h : St S0 w0 (F ++ (B ++ (X ++ L))) w) : St S0 w0 (X ++ (F ++ (B ++ L))) w := h.perm (perm_c fun p => by simp only [List.countP_append]; omega)
theorem St.fso (h : St S0 w0 (F ++ (B ++ ((X ++ L) ++ R))) w) : St S0 w0 (X ++ (F ++ (B ++ (L ++ R)))) w := h.perm (perm_c fun p => by simp only [List.countP_append]; omega)
end
/-- What an answer is, and how all is behind it. -/
def PostS (base : BaseF) (bf : Nat) (bv : Value) (w00 : World) (Lb L : List (Nat × Obj)) (st : St3) (r : Value) (w' : World) : Prop :=
 ∃ S' Lr, RsO Lr r st.1 ∧ FR base S' st.2.1 st.2.2 ∧ Sep w00 (fsB bf bv (usedL st.2.1) S' ++ (Lb ++ (L ++ Lr))) w'
section
variable {base : BaseF} {bf : Nat} {bv : Value} {w00 w' : World} {Lb L : List (Nat × Obj)} {S : FSt} {l : List Raw} {hf : HF} {e : Int} {st : St3}
theorem post_bad (h : FR base S l hf) (M : Sep w00 (fsB bf bv (usedL l) S ++ (Lb ++ L)) w') (hs : st = (badS e, l, hf)) : PostS base bf bv w00 Lb L st (rsV (badS e) (.slice none 0 0) (.slice none 0 0)) w' := by
 subst hs
 exact ⟨S, [], RsO.bad, h, by simpa only [List.append_nil] using M⟩
theorem post_same {rs : RsS} (h : FR base S l hf) (M : Sep w00 (fsB bf bv (usedL l) S ++ (Lb ++ L)) w') (hs : st = (rs, l, hf)) (hd : rs.d = []) (hl : rs.l = []) : PostS base bf bv w00 Lb L st (rsV rs (.slice none 0 0) (.slice none 0 0)) w' := by
 subst hs
 exact ⟨S, [], ⟨_, _, [], [], rfl, rfl, by rw [hd]; exact OwL.nil, by rw [hl]; exact OwL.nil⟩, h, by simpa only [List.append_nil] using M⟩
end
theorem rd_eq {d : List UInt8} {a n : Nat} : (d.drop (min a d.length)).take (min n (d.length - min a d.length)) = (d.drop a).take n := by
 apply List.ext_getElem?
 intro k
 rw [List.getElem?_take, List.getElem?_drop, List.getElem?_take, List.getElem?_drop]
 by_cases h1 : k < n
 ·rw [if_pos h1]
  by_cases h2 : a + k < d.length
  ·rw [if_pos (by omega), Nat.min_eq_left (by omega)]
  ·rw [List.getElem?_eq_none (by omega : d.length ≤ a + k)]
   split
   ·rw [List.getElem?_eq_none (by omega)]
   ·rfl
 ·rw [if_neg h1, if_neg (by omega)]
theorem overB_len {b d : List UInt8} {a : Nat} (h : a + d.length ≤ b.length) : (overB b d a).length = b.length := by
 unfold overB
 rw [List.length_append, List.length_append, List.length_take, List.length_drop]; omega
theorem writeB_len {b d : List UInt8} {a : Nat} : (writeB b d a).length = max b.length (a + d.length) := by
 unfold writeB
 rw [overB_len (by rw [sizedB_len]; omega), sizedB_len]
theorem over_cells {s d : List UInt8} {rest : List Value} {a : Nat} (h : a + d.length ≤ s.length) : (byteCs s ++ rest).take a ++ byteCs d ++ (byteCs s ++ rest).drop (a + d.length) = byteCs (overB s d a) ++ rest := by
 have hl : (byteCs s).length = s.length := byteCs_len s
 rw [List.take_append_of_le_length (by omega), List.drop_append_of_le_length (by omega)]
 unfold overB byteCs
 simp [List.map_take, List.map_drop]
theorem mem_updC {C : List Con} {c c' : Con} (hc : c ∈ C) : c' ∈ updC C c.k c' := List.mem_map.2 ⟨c, hc, if_pos rfl⟩
theorem updC_updC {C : List Con} {p : List UInt8} {a b : Con} (ha : a.k = p) : updC (updC C p a) p b = updC C p b := by
 unfold updC
 rw [List.map_map]
 apply List.map_congr_left
 intro x _
 simp only [Function.comp]
 by_cases h : x.k = p
 ·rw [if_pos h, if_pos h, if_pos ha]
 ·simp only [if_neg h]
theorem updC_nd {C : List Con} {c c' : Con} (hn : (C.map (·.k)).Nodup) (hc : c ∈ C) (hk : c'.k = c.k) : ((updC C c.k c').map (·.k)).Nodup := by
 obtain ⟨A, B, h1, h2⟩ := updC_split hn hc
 rw [h2]
 rw [h1] at hn
 simpa [hk] using hn
theorem add_some {b j : Nat} : (some (⟨b, 0, none⟩ : Addr)).map (·.add (j * 1)) = some ⟨b, j, none⟩ := by
 simp only [Option.map_some, Addr.add, Nat.mul_one]
 split
 ·rename_i h; rw [h]
 ·simp
/-- A file's bytes are written over. -/
theorem con_put {S0 : Nat → Prop} {w00 w w1 : World} {X T : List (Nat × Obj)} {bf u b : Nat} {bv : Value} {S : FSt} {c : Con} {o0 o : Obj} (M : St S0 w00 (X ++ (fsB bf bv u S ++ T)) w) (hn : (S.C.map (·.k)).Nodup) (hc : c ∈ S.C) (hD : c.D = [(b, o0)]) (hw : w1 = w.putObj b o) (c' : Con) (h1 : c'.hd = c.hd) (h2 : c'.D = [(b, o)]) :
  St S0 w00 (X ++ (fsB bf bv u { S with C := updC S.C c.k c' } ++ T)) w1 := by
 obtain ⟨R, hR1, hR2⟩ := con_out (bf := bf) (bv := bv) (u := u) hn hc
 have hR2 := hR2 c'
 rw [hD] at hR1
 rw [h1, h2] at hR2
 have M : St S0 w00 ((b, o0) :: (c.hd :: (R ++ (X ++ T)))) w := M.perm (perm_c fun p => by
  have := hR1.countP_eq p
  simp only [List.countP_append, List.countP_cons, List.countP_nil] at this ⊢
  omega)
 have M : St S0 w00 ((b, o) :: (c.hd :: (R ++ (X ++ T)))) w1 := M.put 0 rfl hw
 exact M.perm (perm_c fun p => by
  have := hR2.countP_eq p
  simp only [List.countP_append, List.countP_cons, List.countP_nil] at this ⊢
  omega)
end Go.Proofs.YtigfbpbnohkokaaGreat

namespace Go.Proofs.YtigfbpbnohkokaaGreat
open Go Go.Fw Go.RowKit Go.Proofs
set_option linter.unusedVariables false
set_option linter.unusedSimpArgs false

set_option maxRecDepth 100000 in
theorem read_c {w00 w0 : World} {bf a i : Nat} {bv dv : Value} {S : FSt} {base : BaseF} {Lb L : List (Nat × Obj)} {l : List Raw} {hf : HF} {h : Hd} {o : OpS} (M : Sep w00 (fsB bf bv (usedL l) S ++ (Lb ++ L)) w0) (hR : FR base S l hf) (hB : BaseC w00 Lb bv base) (ha : a < 8) (hi : i < 16) (hq : S.hs[16 * a + i]? = some h) (h0 : h.1 ≠ [])
  (hdv : ∀ w X, Sep w00 X w → (∀ y ∈ L, y ∈ X) → BytesAt w dv o.d) : Ret Tryz.prog 68 #[ptr bf, .pointer (some ⟨bf, 3 + 2 * (16 * a + i), none⟩), .agg (opC o dv).toArray] w0 (PostS base bf bv w00 Lb L (readS l h.1 o, l, hf)) := by
 obtain ⟨d, hm⟩ := hR.ho h (List.mem_of_getElem? hq) h0
 obtain ⟨c, hc, hck, hcd, hget⟩ := hR.con hm
 have hOKc := hR.ok c hc
 have hcl := hOKc.le
 have hus := hR.us
 have hcu : c.d.length ≤ usedL l := by rw [hcd]; exact (hR.le hm).2
 have hfb : fileB l h.1 = c.d := by rw [hR.bytes hm, hcd]
 have hcm : cmap S.C h.1 = some (ptr c.b) := by unfold cmap; rw [hget]; rfl
 obtain ⟨pd, cd, rfl⟩ := (hdv _ _ M (fun y hy => by simp [hy])).shape
 refine Ret.of_W Tryz.func68 rfl Tryz.ntmps68 rfl ?_
 refine W.seq ?_
 refine W.sub [(0, _), (1, _), (2, _)] ⟨rfl, rfl, rfl, trivial⟩ ?_
 refine W.reg [(0, true), (1, true)] (by kernel_rfl) ?_
 intro K hK
 refine x_box [_, _, _, _, _, _, _, _, _] rfl rfl rfl rfl rfl ?_
 intro bbx1 wbx1 hbbx1 hwbx1
 have M := M.acons hbbx1 hwbx1
 refine ⟨trivial, ?_⟩
 refine x_alloc [_, _, _, _, _] rfl rfl rfl ze49 rfl ?_
 intro bal1 wal1 hbal1 hwal1
 have M := M.acons hbal1 hwal1
 refine ⟨trivial, ?_⟩
 refine Ex.done (hK _ _ ?_)
 refine At.then_n ?_
 refine W.seq ?_
 refine W.seq ?_
 refine W.sub [(0, _), (1, _), (5, _), (6, _)] ⟨rfl, rfl, rfl, rfl, trivial⟩ ?_
 refine W.reg [(0, false), (1, false), (2, false), (3, false), (4, false), (5, false), (6, false), (7, false)] (by kernel_rfl) ?_
 intro K hK
 refine x_fa rfl rfl rfl fo52_4 rfl ?_
 refine x_ld rfl rfl rfl Tryz.underlying3 rfl rfl (cell_of (M.at_ 1 rfl) rfl) ?_
 refine x_lss _ rfl rfl rfl rfl rfl rfl ?_
 refine x_move rfl rfl rfl rfl ?_
 refine Ex.split 12 rfl (fun hsp1 => ?_) (fun hsp1 => ?_)
 ·
  try simp only [sA, sB, sC, sD, sE, sF, sG, sH, sI, sJ, sK, sL, sM, sN, sO] at hsp1
  refine Ex.skip_ rfl rfl rfl ?_
  refine Ex.skip_ rfl rfl rfl ?_
  refine Ex.skip_ rfl rfl rfl ?_
  refine x_pickT rfl rfl rfl rfl rfl ?_
  refine Ex.done (hK _ _ ?_)
  refine At.then_n ?_
  refine W.condT rfl ?_
  refine W.seq ?_
  refine W.sub [(6, _)] ⟨rfl, trivial⟩ ?_
  refine W.reg [(0, true), (1, true)] (by kernel_rfl) ?_
  intro K hK
  refine x_call rfl rfl rfl rfl rfl en40 (fail_c) ?_
  rintro r_ wcall1 ⟨rfl, hncall1⟩
  have M := M.new hncall1
  refine ⟨trivial, ?_⟩
  refine x_st [_, _, _, _, _] _ rfl rfl rfl sz49 rfl rfl rfl rfl (M.at_ 0 rfl) rfl rfl rfl ?_
  intro wst1 hwst1
  have M := M.put 0 rfl hwst1
  refine ⟨trivial, ?_⟩
  refine Ex.done (hK _ _ ?_)
  refine At.then_n ?_
  refine W.ret ?_
  refine At.then_r ?_
  refine At.ret1 (.cell 6 49) rfl ⟨⟨_, rfl, run_loadVarA (l := [_, _, _, _, _]) Tryz.underlying49 rfl sz49 ⟨_, _, _, (M.at_ 0 rfl), rfl⟩ (Nat.zero_lt_succ _)⟩, trivial⟩ ?_
  exact post_bad hR M.tail.tail (by unfold readS; rw [if_pos (.inl hsp1)])
 ·
  try simp only [sA, sB, sC, sD, sE, sF, sG, sH, sI, sJ, sK, sL, sM, sN, sO] at hsp1
  refine x_fa rfl rfl rfl fo52_5 rfl ?_
  refine x_ld rfl rfl rfl Tryz.underlying3 rfl rfl (cell_of (M.at_ 1 rfl) rfl) ?_
  refine x_lss _ rfl rfl rfl rfl rfl rfl ?_
  refine x_pickF rfl rfl rfl rfl rfl ?_
  refine Ex.done (hK _ _ ?_)
  refine At.then_n ?_
  refine W.cond rfl (fun hco2 => ?_) (fun hco2 => ?_)
  ·try simp only [sA, sB, sC, sD, sE, sF, sG, sH, sI, sJ, sK, sL, sM, sN, sO] at hco2
   refine W.seq ?_
   refine W.sub [(6, _)] ⟨rfl, trivial⟩ ?_
   refine W.reg [(0, true), (1, true)] (by kernel_rfl) ?_
   intro K hK
   refine x_call rfl rfl rfl rfl rfl en40 (fail_c) ?_
   rintro r_ wcall2 ⟨rfl, hncall2⟩
   have M := M.new hncall2
   refine ⟨trivial, ?_⟩
   refine x_st [_, _, _, _, _] _ rfl rfl rfl sz49 rfl rfl rfl rfl (M.at_ 0 rfl) rfl rfl rfl ?_
   intro wst2 hwst2
   have M := M.put 0 rfl hwst2
   refine ⟨trivial, ?_⟩
   refine Ex.done (hK _ _ ?_)
   refine At.then_n ?_
   refine W.ret ?_
   refine At.then_r ?_
   refine At.ret1 (.cell 6 49) rfl ⟨⟨_, rfl, run_loadVarA (l := [_, _, _, _, _]) Tryz.underlying49 rfl sz49 ⟨_, _, _, (M.at_ 0 rfl), rfl⟩ (Nat.zero_lt_succ _)⟩, trivial⟩ ?_
   exact post_bad hR M.tail.tail (by unfold readS; rw [if_pos (.inr hco2)])
  ·try simp only [sA, sB, sC, sD, sE, sF, sG, sH, sI, sJ, sK, sL, sM, sN, sO] at hco2
   refine W.skip ?_
   refine At.then_n ?_
   refine W.seq ?_
   refine W.sub [(0, _), (1, _), (5, _), (6, _)] ⟨rfl, rfl, rfl, rfl, trivial⟩ ?_
   refine W.regD (by kernel_rfl) #[0, 1, 3, 7, 0, 16, 48, 112, 255, 511] [(0, false), (1, false), (2, false), (3, false), (4, false), (5, false), (6, false), (7, false), (8, false), (9, false)] (by kernel_rfl) ?_
   intro K wD1 hK hwD1
   have M := M.drew hwD1
   refine x_move rfl rfl rfl rfl ?_
   refine x_nil rfl rfl rfl rfl rfl ?_
   refine x_fa rfl rfl rfl fo90_2 rfl ?_
   refine x_ld rfl rfl rfl Tryz.underlying84 rfl rfl (cell_of (fs_at M (fun y (hy : y ∈ fsB bf bv (usedL l) S) => by simp [hy])) rfl) ?_
   refine x_move rfl rfl rfl rfl ?_
   refine x_nil rfl rfl rfl rfl rfl ?_
   refine x_fa rfl rfl rfl fo86_0 rfl ?_
   refine x_ld rfl rfl rfl Tryz.underlying9 rfl rfl (cell_of (fs_at M (fun y (hy : y ∈ fsB bf bv (usedL l) S) => by simp [hy])) (fsC_h0 hq (by omega))) ?_
   refine x_lk1 (enc := strV) h.1 rfl rfl rfl (strKey Tryz.underlying9) Tryz.underlying84 ze102 rfl rfl ⟨S.om, cmap S.C, M.get (by simp [fsB]), hR.mp, rfl⟩ ?_
   rw [hcm, Option.getD_some]
   refine x_assign rfl rfl rfl rfl ?_
   refine Ex.done (hK _ _ ?_)
   refine At.then_n ?_
   refine W.seq ?_
   refine W.sub [(0, _), (5, _), (6, _), (7, _)] ⟨rfl, rfl, rfl, rfl, trivial⟩ ?_
   refine W.regD (by kernel_rfl) #[0, 1, 0, 4, 15, 31] [(0, false), (1, false), (2, false), (3, true), (4, false), (5, false)] (by kernel_rfl) ?_
   intro K wD2 hK hwD2
   have M := M.drew hwD2
   refine x_fa rfl rfl rfl fo52_4 rfl ?_
   refine x_ld rfl rfl rfl Tryz.underlying3 rfl rfl (cell_of (M.at_ 1 rfl) rfl) ?_
   refine x_move rfl rfl rfl rfl ?_
   refine x_call rfl rfl rfl rfl rfl en48 (length_c (con_at M (fun y (hy : y ∈ fsB bf bv (usedL l) S) => by simp [hy]) hc) hOKc) ?_
   rintro r_ w_ ⟨rfl, rfl⟩
   refine ⟨⟨.inr (cell_of (M.at_ 1 rfl) rfl), trivial⟩, ?_⟩
   refine x_min ((min o.a.toNat c.d.length : Nat) : Int) rfl rfl rfl rfl rfl (by split <;> omega) ?_
   refine x_assign rfl rfl rfl rfl ?_
   refine Ex.done (hK _ _ ?_)
   refine At.then_n ?_
   refine W.seq ?_
   refine W.sub [(0, _), (5, _), (6, _), (7, _), (8, _)] ⟨rfl, rfl, rfl, rfl, rfl, trivial⟩ ?_
   refine W.regD (by kernel_rfl) #[0, 0, 0, 0, 8, 0, 32, 0, 224, 504, 1023, 2047, 4095] [(0, false), (1, false), (2, false), (3, false), (4, false), (5, false), (7, false), (6, true), (8, false), (9, false), (10, true), (11, false), (12, true)] (by kernel_rfl) ?_
   intro K wD3 hK hwD3
   have M := M.drew hwD3
   refine x_move rfl rfl rfl rfl ?_
   refine x_move rfl rfl rfl rfl ?_
   refine x_move rfl rfl rfl rfl ?_
   refine x_fa rfl rfl rfl fo52_5 rfl ?_
   refine x_ld rfl rfl rfl Tryz.underlying3 rfl rfl (cell_of (M.at_ 1 rfl) rfl) ?_
   refine x_move rfl rfl rfl rfl ?_
   refine x_move rfl rfl rfl rfl ?_
   refine x_call rfl rfl rfl rfl rfl en48 (length_c (con_at M (fun y (hy : y ∈ fsB bf bv (usedL l) S) => by simp [hy]) hc) hOKc) ?_
   rintro r_ w_ ⟨rfl, rfl⟩
   refine ⟨⟨.inr (cell_of (M.at_ 1 rfl) rfl), trivial⟩, ?_⟩
   refine x_sub ((c.d.length - min o.a.toNat c.d.length : Nat) : Int) rfl rfl rfl rfl rfl (by rw [wsub (by omega) (by omega)]; omega) ?_
   refine x_min ((min o.n.toNat (c.d.length - min o.a.toNat c.d.length) : Nat) : Int) rfl rfl rfl rfl rfl (by split <;> omega) ?_
   refine x_call rfl rfl rfl rfl rfl en47 (bytes_c (St.fsi (X := [_, _]) M) hc hOKc hB (by omega)) ?_
   rintro v5 w5 ⟨L5, hb5, M⟩
   have M := St.fso (X := [_, _]) M
   rw [rd_eq] at hb5
   obtain ⟨p5, c5, rfl⟩ := hb5.shape
   refine ⟨⟨.inl (by kernel_rfl), trivial⟩, ?_⟩
   refine x_build [_, _, _, _, _] rfl rfl rfl pl49 ze49 rfl rfl rfl ?_
   refine x_st [_, _, _, _, _] _ rfl rfl rfl sz49 rfl rfl rfl rfl (M.at_ 0 rfl) rfl rfl rfl ?_
   intro wst3 hwst3
   have M := M.put 0 rfl hwst3
   refine ⟨⟨.inl (by kernel_rfl), trivial⟩, ?_⟩
   refine Ex.done (hK _ _ ?_)
   refine At.then_n ?_
   refine W.ret ?_
   refine At.ret1 (.cell 6 49) rfl ⟨⟨_, rfl, run_loadVarA (l := [_, _, _, _, _]) Tryz.underlying49 rfl sz49 ⟨_, _, _, (M.at_ 0 rfl), rfl⟩ (Nat.zero_lt_succ _)⟩, trivial⟩ ?_
   refine ⟨S, L5, ?_, hR, M.tail.tail⟩
   unfold readS
   rw [if_neg (by omega), hfb]
   exact ⟨_, _, L5, [], rfl, (List.append_nil _).symm, hb5, OwL.nil⟩

set_option maxRecDepth 100000 in
theorem shut_c {w00 w0 : World} {bf a i : Nat} {bv dv : Value} {S : FSt} {base : BaseF} {Lb L : List (Nat × Obj)} {l : List Raw} {hf : HF} {h : Hd} {o : OpS} (M : Sep w00 (fsB bf bv (usedL l) S ++ (Lb ++ L)) w0) (hR : FR base S l hf) (hB : BaseC w00 Lb bv base) (ha : a < 8) (hi : i < 16) (hq : S.hs[16 * a + i]? = some h) (h0 : h.1 ≠ [])
  (hdv : ∀ w X, Sep w00 X w → (∀ y ∈ L, y ∈ X) → BytesAt w dv o.d) : Ret Tryz.prog 71 #[ptr bf, .pointer (some ⟨bf, 3 + 2 * (16 * a + i), none⟩), .agg (opC o dv).toArray] w0 (PostS base bf bv w00 Lb L (badS 0, l, setH hf (a : Int) ((i : Int) + 1) none)) := by
 refine Ret.of_W Tryz.func71 rfl Tryz.ntmps71 rfl ?_
 refine W.seq ?_
 refine W.sub [(1, _), (2, _)] ⟨rfl, rfl, trivial⟩ ?_
 refine W.reg [(0, true), (1, true)] (by kernel_rfl) ?_
 intro K hK
 refine x_box [_, _, _, _, _, _, _, _, _] rfl rfl rfl rfl rfl ?_
 intro bbx1 wbx1 hbbx1 hwbx1
 have M := M.acons hbbx1 hwbx1
 refine ⟨trivial, ?_⟩
 refine x_alloc [_, _, _, _, _] rfl rfl rfl ze49 rfl ?_
 intro bal1 wal1 hbal1 hwal1
 have M := M.acons hbal1 hwal1
 refine ⟨trivial, ?_⟩
 refine Ex.done (hK _ _ ?_)
 refine At.then_n ?_
 refine W.seq ?_
 refine W.sub [(1, _), (6, _)] ⟨rfl, rfl, trivial⟩ ?_
 refine W.reg [(0, false), (1, false), (2, false), (3, true)] (by kernel_rfl) ?_
 intro K hK
 refine x_move rfl rfl rfl rfl ?_
 refine x_build [_, _] rfl rfl rfl pl86 ze86 rfl rfl rfl ?_
 refine x_nil rfl rfl rfl rfl rfl ?_
 refine x_st [_, _] (fsC bv (usedL l) { S with hs := S.hs.set (16 * a + i) ([], false) }) rfl rfl rfl sz86 rfl rfl rfl rfl (fs_at M (fun y (hy : y ∈ fsB bf bv (usedL l) S) => by simp [hy])) rfl (by rw [fsC_len hR.hl]; exact Nat.ble_eq_true_of_le (by simp only [List.length_cons, List.length_nil]; omega)) (fsC_put (h' := ([], false)) hq rfl) ?_
 intro wst1 hwst1
 have M : Sep w00 ((bal1, _) :: (bbx1, _) :: (fsB bf bv (usedL l) { S with hs := S.hs.set (16 * a + i) ([], false) } ++ (Lb ++ L))) wst1 := M.put 2 rfl hwst1
 refine ⟨trivial, ?_⟩
 refine Ex.done (hK _ _ ?_)
 refine At.then_n ?_
 refine W.seq ?_
 refine W.sub [(6, _)] ⟨rfl, trivial⟩ ?_
 refine W.reg [(0, false), (1, true)] (by kernel_rfl) ?_
 intro K hK
 refine x_build [_, _, _, _, _] rfl rfl rfl pl49 ze49 rfl rfl rfl ?_
 refine x_st [_, _, _, _, _] _ rfl rfl rfl sz49 rfl rfl rfl rfl (M.at_ 0 rfl) rfl rfl rfl ?_
 intro wst2 hwst2
 have M := M.put 0 rfl hwst2
 refine ⟨trivial, ?_⟩
 refine Ex.done (hK _ _ ?_)
 refine At.then_n ?_
 refine W.ret ?_
 refine At.ret1 (.cell 6 49) rfl ⟨⟨_, rfl, run_loadVarA (l := [_, _, _, _, _]) Tryz.underlying49 rfl sz49 ⟨_, _, _, (M.at_ 0 rfl), rfl⟩ (Nat.zero_lt_succ _)⟩, trivial⟩ ?_
 have hR2 := hR.hset (h' := ([], false)) ha hi (fun h => absurd rfl h)
 rw [if_pos rfl] at hR2
 exact post_bad hR2 M.tail.tail rfl
end Go.Proofs.YtigfbpbnohkokaaGreat

namespace Go.Proofs.YtigfbpbnohkokaaGreat
open Go Go.Fw Go.RowKit Go.Proofs
set_option linter.unusedVariables false
set_option linter.unusedSimpArgs false

set_option maxRecDepth 100000 in
theorem truncate_c {w00 w0 : World} {bf a i : Nat} {bv dv : Value} {S : FSt} {base : BaseF} {Lb L : List (Nat × Obj)} {l : List Raw} {hf : HF} {h : Hd} {o : OpS} (M : Sep w00 (fsB bf bv (usedL l) S ++ (Lb ++ L)) w0) (hR : FR base S l hf) (hB : BaseC w00 Lb bv base) (ha : a < 8) (hi : i < 16) (hq : S.hs[16 * a + i]? = some h) (h0 : h.1 ≠ [])
  (hdv : ∀ w X, Sep w00 X w → (∀ y ∈ L, y ∈ X) → BytesAt w dv o.d) : Ret Tryz.prog 70 #[ptr bf, .pointer (some ⟨bf, 3 + 2 * (16 * a + i), none⟩), .agg (opC o dv).toArray] w0 (PostS base bf bv w00 Lb L ((truncS l h.1 h.2 o).1, (truncS l h.1 h.2 o).2, hf)) := by
 obtain ⟨d, hm⟩ := hR.ho h (List.mem_of_getElem? hq) h0
 obtain ⟨c, hc, hck, hcd, hget⟩ := hR.con hm
 have hOKc := hR.ok c hc
 have hcl := hOKc.le
 have hus := hR.us
 have hcu : c.d.length ≤ usedL l := by rw [hcd]; exact (hR.le hm).2
 have hfb : fileB l h.1 = c.d := by rw [hR.bytes hm, hcd]
 have hcm : cmap S.C h.1 = some (ptr c.b) := by unfold cmap; rw [hget]; rfl
 obtain ⟨pd, cd, rfl⟩ := (hdv _ _ M (fun y hy => by simp [hy])).shape
 refine Ret.of_W Tryz.func70 rfl Tryz.ntmps70 rfl ?_
 refine W.seq ?_
 refine W.sub [(0, _), (1, _), (2, _)] ⟨rfl, rfl, rfl, trivial⟩ ?_
 refine W.reg [(0, true), (1, true)] (by kernel_rfl) ?_
 intro K hK
 refine x_box [_, _, _, _, _, _, _, _, _] rfl rfl rfl rfl rfl ?_
 intro bbx1 wbx1 hbbx1 hwbx1
 have M := M.acons hbbx1 hwbx1
 refine ⟨trivial, ?_⟩
 refine x_alloc [_, _, _, _, _] rfl rfl rfl ze49 rfl ?_
 intro bal1 wal1 hbal1 hwal1
 have M := M.acons hbal1 hwal1
 refine ⟨trivial, ?_⟩
 refine Ex.done (hK _ _ ?_)
 refine At.then_n ?_
 refine W.seq ?_
 refine W.block ?_
 refine W.seq ?_
 refine W.sub [(0, _), (1, _), (5, _), (6, _)] ⟨rfl, rfl, rfl, rfl, trivial⟩ ?_
 refine W.reg [(0, false), (1, false), (2, false), (3, false), (4, false), (5, false), (6, false), (7, false), (8, false), (9, false), (10, false)] (by kernel_rfl) ?_
 intro K hK
 refine x_move rfl rfl rfl rfl ?_
 refine x_nil rfl rfl rfl rfl rfl ?_
 refine x_fa rfl rfl rfl fo86_1 rfl ?_
 refine x_ld rfl rfl rfl Tryz.underlying4 rfl rfl (cell_of (fs_at M (fun y (hy : y ∈ fsB bf bv (usedL l) S) => by simp [hy])) (fsC_h1 hq (by omega))) ?_
 refine x_not _ rfl rfl rfl rfl rfl ?_
 refine x_move rfl rfl rfl rfl ?_
 refine Ex.split 13 rfl (fun hsp1 => ?_) (fun hsp1 => ?_)
 ·
  try simp only [sA, sB, sC, sD, sE, sF, sG, sH, sI, sJ, sK, sL, sM, sN, sO] at hsp1
  refine Ex.skip_ rfl rfl rfl ?_
  refine Ex.skip_ rfl rfl rfl ?_
  refine Ex.skip_ rfl rfl rfl ?_
  refine x_pickT rfl rfl rfl rfl rfl ?_
  refine x_assign rfl rfl rfl rfl ?_
  refine Ex.done (hK _ _ ?_)
  refine At.then_n ?_
  refine W.condT rfl ?_
  refine W.seq ?_
  refine W.sub [(6, _)] ⟨rfl, trivial⟩ ?_
  refine W.reg [(0, true), (1, true)] (by kernel_rfl) ?_
  intro K hK
  refine x_call rfl rfl rfl rfl rfl en40 (fail_c) ?_
  rintro r_ wcall1 ⟨rfl, hncall1⟩
  have M := M.new hncall1
  refine ⟨trivial, ?_⟩
  refine x_st [_, _, _, _, _] _ rfl rfl rfl sz49 rfl rfl rfl rfl (M.at_ 0 rfl) rfl rfl rfl ?_
  intro wst1 hwst1
  have M := M.put 0 rfl hwst1
  refine ⟨trivial, ?_⟩
  refine Ex.done (hK _ _ ?_)
  refine At.then_n ?_
  refine W.ret ?_
  refine At.blk_r ?_
  refine At.then_r ?_
  refine At.ret1 (.cell 6 49) rfl ⟨⟨_, rfl, run_loadVarA (l := [_, _, _, _, _]) Tryz.underlying49 rfl sz49 ⟨_, _, _, (M.at_ 0 rfl), rfl⟩ (Nat.zero_lt_succ _)⟩, trivial⟩ ?_
  exact post_bad hR M.tail.tail (by unfold truncS sizeS; rw [if_pos (.inl (by simpa using hsp1))]; try rfl)
 ·
  try simp only [sA, sB, sC, sD, sE, sF, sG, sH, sI, sJ, sK, sL, sM, sN, sO] at hsp1
  refine x_fa rfl rfl rfl fo52_5 rfl ?_
  refine x_ld rfl rfl rfl Tryz.underlying3 rfl rfl (cell_of (M.at_ 1 rfl) rfl) ?_
  refine x_lss _ rfl rfl rfl rfl rfl rfl ?_
  refine x_pickF rfl rfl rfl rfl rfl ?_
  refine x_assign rfl rfl rfl rfl ?_
  refine Ex.done (hK _ _ ?_)
  refine At.then_n ?_
  refine W.cond rfl (fun hco2 => ?_) (fun hco2 => ?_)
  ·try simp only [sA, sB, sC, sD, sE, sF, sG, sH, sI, sJ, sK, sL, sM, sN, sO] at hco2
   refine W.seq ?_
   refine W.sub [(6, _)] ⟨rfl, trivial⟩ ?_
   refine W.reg [(0, true), (1, true)] (by kernel_rfl) ?_
   intro K hK
   refine x_call rfl rfl rfl rfl rfl en40 (fail_c) ?_
   rintro r_ wcall2 ⟨rfl, hncall2⟩
   have M := M.new hncall2
   refine ⟨trivial, ?_⟩
   refine x_st [_, _, _, _, _] _ rfl rfl rfl sz49 rfl rfl rfl rfl (M.at_ 0 rfl) rfl rfl rfl ?_
   intro wst2 hwst2
   have M := M.put 0 rfl hwst2
   refine ⟨trivial, ?_⟩
   refine Ex.done (hK _ _ ?_)
   refine At.then_n ?_
   refine W.ret ?_
   refine At.blk_r ?_
   refine At.then_r ?_
   refine At.ret1 (.cell 6 49) rfl ⟨⟨_, rfl, run_loadVarA (l := [_, _, _, _, _]) Tryz.underlying49 rfl sz49 ⟨_, _, _, (M.at_ 0 rfl), rfl⟩ (Nat.zero_lt_succ _)⟩, trivial⟩ ?_
   exact post_bad hR M.tail.tail (by unfold truncS sizeS; rw [if_pos (.inr hco2)]; try rfl)
  ·try simp only [sA, sB, sC, sD, sE, sF, sG, sH, sI, sJ, sK, sL, sM, sN, sO] at hco2
   have hw2 : h.2 = true := by simpa using hsp1
   have hN0 : ¬ (h.2 = false ∨ o.n < 0) := fun e => e.elim (fun e => by rw [hw2] at e; cases e) (fun e => by omega)
   refine W.seq ?_
   refine W.sub [(0, _), (1, _), (5, _), (6, _)] ⟨rfl, rfl, rfl, rfl, trivial⟩ ?_
   refine W.reg [(0, false), (1, false), (2, false), (3, false)] (by kernel_rfl) ?_
   intro K hK
   refine x_fa rfl rfl rfl fo52_5 rfl ?_
   refine x_ld rfl rfl rfl Tryz.underlying3 rfl rfl (cell_of (M.at_ 1 rfl) rfl) ?_
   refine x_gtr _ rfl rfl rfl rfl rfl rfl ?_
   refine x_assign rfl rfl rfl rfl ?_
   refine Ex.done (hK _ _ ?_)
   refine At.then_n ?_
   refine W.cond rfl (fun hco3 => ?_) (fun hco3 => ?_)
   ·try simp only [sA, sB, sC, sD, sE, sF, sG, sH, sI, sJ, sK, sL, sM, sN, sO] at hco3
    refine W.seq ?_
    refine W.sub [(6, _)] ⟨rfl, trivial⟩ ?_
    refine W.reg [(0, true), (1, true)] (by kernel_rfl) ?_
    intro K hK
    refine x_call rfl rfl rfl rfl rfl en40 (fail_c) ?_
    rintro r_ wcall3 ⟨rfl, hncall3⟩
    have M := M.new hncall3
    refine ⟨trivial, ?_⟩
    refine x_st [_, _, _, _, _] _ rfl rfl rfl sz49 rfl rfl rfl rfl (M.at_ 0 rfl) rfl rfl rfl ?_
    intro wst3 hwst3
    have M := M.put 0 rfl hwst3
    refine ⟨trivial, ?_⟩
    refine Ex.done (hK _ _ ?_)
    refine At.then_n ?_
    refine W.ret ?_
    refine At.blk_r ?_
    refine At.then_r ?_
    refine At.ret1 (.cell 6 49) rfl ⟨⟨_, rfl, run_loadVarA (l := [_, _, _, _, _]) Tryz.underlying49 rfl sz49 ⟨_, _, _, (M.at_ 0 rfl), rfl⟩ (Nat.zero_lt_succ _)⟩, trivial⟩ ?_
    exact post_bad hR M.tail.tail (by unfold truncS sizeS; rw [if_neg hN0, if_pos (by omega)]; try rfl)
   ·try simp only [sA, sB, sC, sD, sE, sF, sG, sH, sI, sJ, sK, sL, sM, sN, sO] at hco3
    refine W.seq ?_
    refine W.sub [(0, _), (1, _), (5, _), (6, _)] ⟨rfl, rfl, rfl, rfl, trivial⟩ ?_
    refine W.regD (by kernel_rfl) #[0, 0, 2, 6, 14, 0, 32, 96, 224, 510, 0, 1024, 4095, 8191, 16383] [(0, false), (1, false), (2, false), (3, false), (4, false), (5, false), (6, false), (7, false), (8, false), (9, false), (10, false), (11, false), (12, true), (13, false), (14, false)] (by kernel_rfl) ?_
    intro K wD1 hK hwD1
    have M := M.drew hwD1
    refine x_move rfl rfl rfl rfl ?_
    refine x_move rfl rfl rfl rfl ?_
    refine x_nil rfl rfl rfl rfl rfl ?_
    refine x_fa rfl rfl rfl fo90_2 rfl ?_
    refine x_ld rfl rfl rfl Tryz.underlying84 rfl rfl (cell_of (fs_at M (fun y (hy : y ∈ fsB bf bv (usedL l) S) => by simp [hy])) rfl) ?_
    refine x_move rfl rfl rfl rfl ?_
    refine x_nil rfl rfl rfl rfl rfl ?_
    refine x_fa rfl rfl rfl fo86_0 rfl ?_
    refine x_ld rfl rfl rfl Tryz.underlying9 rfl rfl (cell_of (fs_at M (fun y (hy : y ∈ fsB bf bv (usedL l) S) => by simp [hy])) (fsC_h0 hq (by omega))) ?_
    refine x_lk1 (enc := strV) h.1 rfl rfl rfl (strKey Tryz.underlying9) Tryz.underlying84 ze102 rfl rfl ⟨S.om, cmap S.C, M.get (by simp [fsB]), hR.mp, rfl⟩ ?_
    rw [hcm, Option.getD_some]
    refine x_fa rfl rfl rfl fo52_5 rfl ?_
    refine x_ld rfl rfl rfl Tryz.underlying3 rfl rfl (cell_of (M.at_ 1 rfl) rfl) ?_
    refine x_call rfl rfl rfl rfl rfl en101 (by have hc_ := resize_c (n := o.n.toNat) (St.fsi (X := [_, _]) M) hc hOKc hB hR.cn hR.hl hus hcu (by omega); rw [Int.toNat_of_nonneg (by omega)] at hc_; exact hc_) ?_
    rintro r_ w4 ⟨rfl, hno, hyes⟩
    refine ⟨⟨.inl (by kernel_rfl), .inl (by kernel_rfl), .inl (by kernel_rfl), .inl (by kernel_rfl), trivial⟩, ?_⟩
    refine x_not _ rfl rfl rfl rfl rfl ?_
    refine x_assign rfl rfl rfl rfl ?_
    refine Ex.done (hK _ _ ?_)
    refine At.then_n ?_
    refine W.cond rfl (fun hco4 => ?_) (fun hco4 => ?_)
    ·try simp only [sA, sB, sC, sD, sE, sF, sG, sH, sI, sJ, sK, sL, sM, sN, sO] at hco4
     have hN : ¬ usedL l + o.n.toNat ≤ 262144 + c.d.length := by simpa using hco4
     have M := St.fso0 (X := [_, _]) (hno hN)
     refine W.seq ?_
     refine W.sub [(6, _)] ⟨rfl, trivial⟩ ?_
     refine W.reg [(0, true), (1, true)] (by kernel_rfl) ?_
     intro K hK
     refine x_call rfl rfl rfl rfl rfl en40 (fail_c) ?_
     rintro r_ wcall5 ⟨rfl, hncall5⟩
     have M := M.new hncall5
     refine ⟨trivial, ?_⟩
     refine x_st [_, _, _, _, _] _ rfl rfl rfl sz49 rfl rfl rfl rfl (M.at_ 0 rfl) rfl rfl rfl ?_
     intro wst4 hwst4
     have M := M.put 0 rfl hwst4
     refine ⟨trivial, ?_⟩
     refine Ex.done (hK _ _ ?_)
     refine At.then_n ?_
     refine W.ret ?_
     refine At.blk_r ?_
     refine At.then_r ?_
     refine At.ret1 (.cell 6 49) rfl ⟨⟨_, rfl, run_loadVarA (l := [_, _, _, _, _]) Tryz.underlying49 rfl sz49 ⟨_, _, _, (M.at_ 0 rfl), rfl⟩ (Nat.zero_lt_succ _)⟩, trivial⟩ ?_
     exact post_bad hR M.tail.tail (by unfold truncS sizeS; rw [if_neg hN0, if_neg (by omega), if_pos (by rw [hfb, sizedB_len]; omega)]; try rfl)
    ·try simp only [sA, sB, sC, sD, sE, sF, sG, sH, sI, sJ, sK, sL, sM, sN, sO] at hco4
     have hN : usedL l + o.n.toNat ≤ 262144 + c.d.length := by simpa using hco4
     obtain ⟨v6, D6, hb6, M⟩ := hyes hN
     have M := St.fso0 (X := [_, _]) M
     obtain ⟨hR6, hU6⟩ := hR.set (c' := ownC c v6 D6 (sizedB c.d o.n.toNat)) hc rfl rfl ⟨by show (sizedB c.d o.n.toNat).length ≤ 65536; rw [sizedB_len]; omega, fun _ => hb6, fun h => by cases h⟩ (by show usedL l + (sizedB c.d o.n.toNat).length ≤ _; rw [sizedB_len]; omega)
     have hU6 : usedL (setD l c.k (sizedB c.d o.n.toNat)) + c.d.length = usedL l + (sizedB c.d o.n.toNat).length := hU6
     rw [sizedB_len] at hU6
     have hu6 : usedL l + o.n.toNat - c.d.length = usedL (setD l c.k (sizedB c.d o.n.toNat)) := by omega
     rw [hu6] at M
     refine W.skip ?_
     refine At.blk_n ?_
     refine At.then_n ?_
     refine W.seq ?_
     refine W.sub [(6, _)] ⟨rfl, trivial⟩ ?_
     refine W.reg [(0, false), (1, true)] (by kernel_rfl) ?_
     intro K hK
     refine x_build [_, _, _, _, _] rfl rfl rfl pl49 ze49 rfl rfl rfl ?_
     refine x_st [_, _, _, _, _] _ rfl rfl rfl sz49 rfl rfl rfl rfl (M.at_ 0 rfl) rfl rfl rfl ?_
     intro wst5 hwst5
     have M := M.put 0 rfl hwst5
     refine ⟨trivial, ?_⟩
     refine Ex.done (hK _ _ ?_)
     refine At.then_n ?_
     refine W.ret ?_
     refine At.ret1 (.cell 6 49) rfl ⟨⟨_, rfl, run_loadVarA (l := [_, _, _, _, _]) Tryz.underlying49 rfl sz49 ⟨_, _, _, (M.at_ 0 rfl), rfl⟩ (Nat.zero_lt_succ _)⟩, trivial⟩ ?_
     have hst : ((truncS l h.1 h.2 o).1, (truncS l h.1 h.2 o).2, hf) = (badS 0, setD l c.k (sizedB c.d o.n.toNat), hf) := by unfold truncS sizeS; rw [if_neg hN0, if_neg (by omega), if_neg (by rw [hfb, sizedB_len]; omega), hfb, hck]
     rw [hst]
     exact post_bad hR6 M.tail.tail rfl

set_option maxRecDepth 100000 in
theorem write_c {w00 w0 : World} {bf a i : Nat} {bv dv : Value} {S : FSt} {base : BaseF} {Lb L : List (Nat × Obj)} {l : List Raw} {hf : HF} {h : Hd} {o : OpS} (M : Sep w00 (fsB bf bv (usedL l) S ++ (Lb ++ L)) w0) (hR : FR base S l hf) (hB : BaseC w00 Lb bv base) (ha : a < 8) (hi : i < 16) (hq : S.hs[16 * a + i]? = some h) (h0 : h.1 ≠ [])
  (hdv : ∀ w X, Sep w00 X w → (∀ y ∈ L, y ∈ X) → BytesAt w dv o.d) : Ret Tryz.prog 69 #[ptr bf, .pointer (some ⟨bf, 3 + 2 * (16 * a + i), none⟩), .agg (opC o dv).toArray] w0 (PostS base bf bv w00 Lb L ((writeS l h.1 h.2 o).1, (writeS l h.1 h.2 o).2, hf)) := by
 obtain ⟨d, hm⟩ := hR.ho h (List.mem_of_getElem? hq) h0
 obtain ⟨c, hc, hck, hcd, hget⟩ := hR.con hm
 have hOKc := hR.ok c hc
 have hcl := hOKc.le
 have hus := hR.us
 have hcu : c.d.length ≤ usedL l := by rw [hcd]; exact (hR.le hm).2
 have hfb : fileB l h.1 = c.d := by rw [hR.bytes hm, hcd]
 have hcm : cmap S.C h.1 = some (ptr c.b) := by unfold cmap; rw [hget]; rfl
 obtain ⟨pd, cd, rfl⟩ := (hdv _ _ M (fun y hy => by simp [hy])).shape
 refine Ret.of_W Tryz.func69 rfl Tryz.ntmps69 rfl ?_
 refine W.seq ?_
 refine W.sub [(0, _), (1, _), (2, _)] ⟨rfl, rfl, rfl, trivial⟩ ?_
 refine W.reg [(0, true), (1, true)] (by kernel_rfl) ?_
 intro K hK
 refine x_box [_, _, _, _, _, _, _, _, _] rfl rfl rfl rfl rfl ?_
 intro bbx1 wbx1 hbbx1 hwbx1
 have M := M.acons hbbx1 hwbx1
 refine ⟨trivial, ?_⟩
 refine x_alloc [_, _, _, _, _] rfl rfl rfl ze49 rfl ?_
 intro bal1 wal1 hbal1 hwal1
 have M := M.acons hbal1 hwal1
 refine ⟨trivial, ?_⟩
 refine Ex.done (hK _ _ ?_)
 refine At.then_n ?_
 refine W.seq ?_
 refine W.sub [(0, _), (1, _), (5, _), (6, _)] ⟨rfl, rfl, rfl, rfl, trivial⟩ ?_
 refine W.reg [(0, false), (1, false), (2, false), (3, false)] (by kernel_rfl) ?_
 intro K hK
 refine x_fa rfl rfl rfl fo52_8 rfl ?_
 refine x_ld rfl rfl rfl Tryz.underlying27 rfl rfl (cell_of (M.at_ 1 rfl) rfl) ?_
 refine x_len rfl rfl rfl rfl Tryz.underlying27 rfl ?_
 refine x_assign rfl rfl rfl rfl ?_
 refine Ex.done (hK _ _ ?_)
 refine At.then_n ?_
 refine W.seq ?_
 refine W.block ?_
 refine W.seq ?_
 refine W.sub [(0, _), (1, _), (5, _), (6, _), (7, _)] ⟨rfl, rfl, rfl, rfl, rfl, trivial⟩ ?_
 refine W.reg [(0, false), (1, false), (2, false), (3, false), (4, false), (5, false), (6, false), (7, false), (8, false), (9, false), (10, false)] (by kernel_rfl) ?_
 intro K hK
 refine x_move rfl rfl rfl rfl ?_
 refine x_nil rfl rfl rfl rfl rfl ?_
 refine x_fa rfl rfl rfl fo86_1 rfl ?_
 refine x_ld rfl rfl rfl Tryz.underlying4 rfl rfl (cell_of (fs_at M (fun y (hy : y ∈ fsB bf bv (usedL l) S) => by simp [hy])) (fsC_h1 hq (by omega))) ?_
 refine x_not _ rfl rfl rfl rfl rfl ?_
 refine x_move rfl rfl rfl rfl ?_
 refine Ex.split 18 rfl (fun hsp1 => ?_) (fun hsp1 => ?_)
 ·
  try simp only [sA, sB, sC, sD, sE, sF, sG, sH, sI, sJ, sK, sL, sM, sN, sO] at hsp1
  refine Ex.skip_ rfl rfl rfl ?_
  refine Ex.skip_ rfl rfl rfl ?_
  refine Ex.skip_ rfl rfl rfl ?_
  refine x_pickT rfl rfl rfl rfl rfl ?_
  refine x_assign rfl rfl rfl rfl ?_
  refine Ex.done (hK _ _ ?_)
  refine At.then_n ?_
  refine W.condT rfl ?_
  refine W.seq ?_
  refine W.sub [(6, _)] ⟨rfl, trivial⟩ ?_
  refine W.reg [(0, true), (1, true)] (by kernel_rfl) ?_
  intro K hK
  refine x_call rfl rfl rfl rfl rfl en40 (fail_c) ?_
  rintro r_ wcall1 ⟨rfl, hncall1⟩
  have M := M.new hncall1
  refine ⟨trivial, ?_⟩
  refine x_st [_, _, _, _, _] _ rfl rfl rfl sz49 rfl rfl rfl rfl (M.at_ 0 rfl) rfl rfl rfl ?_
  intro wst1 hwst1
  have M := M.put 0 rfl hwst1
  refine ⟨trivial, ?_⟩
  refine Ex.done (hK _ _ ?_)
  refine At.then_n ?_
  refine W.ret ?_
  refine At.blk_r ?_
  refine At.then_r ?_
  refine At.ret1 (.cell 6 49) rfl ⟨⟨_, rfl, run_loadVarA (l := [_, _, _, _, _]) Tryz.underlying49 rfl sz49 ⟨_, _, _, (M.at_ 0 rfl), rfl⟩ (Nat.zero_lt_succ _)⟩, trivial⟩ ?_
  exact post_bad hR M.tail.tail (by unfold writeS sizeS; rw [if_pos (.inl (by simpa using hsp1))]; try rfl)
 ·
  try simp only [sA, sB, sC, sD, sE, sF, sG, sH, sI, sJ, sK, sL, sM, sN, sO] at hsp1
  refine x_fa rfl rfl rfl fo52_4 rfl ?_
  refine x_ld rfl rfl rfl Tryz.underlying3 rfl rfl (cell_of (M.at_ 1 rfl) rfl) ?_
  refine x_lss _ rfl rfl rfl rfl rfl rfl ?_
  refine x_pickF rfl rfl rfl rfl rfl ?_
  refine x_assign rfl rfl rfl rfl ?_
  refine Ex.done (hK _ _ ?_)
  refine At.then_n ?_
  refine W.cond rfl (fun hco2 => ?_) (fun hco2 => ?_)
  ·try simp only [sA, sB, sC, sD, sE, sF, sG, sH, sI, sJ, sK, sL, sM, sN, sO] at hco2
   refine W.seq ?_
   refine W.sub [(6, _)] ⟨rfl, trivial⟩ ?_
   refine W.reg [(0, true), (1, true)] (by kernel_rfl) ?_
   intro K hK
   refine x_call rfl rfl rfl rfl rfl en40 (fail_c) ?_
   rintro r_ wcall2 ⟨rfl, hncall2⟩
   have M := M.new hncall2
   refine ⟨trivial, ?_⟩
   refine x_st [_, _, _, _, _] _ rfl rfl rfl sz49 rfl rfl rfl rfl (M.at_ 0 rfl) rfl rfl rfl ?_
   intro wst2 hwst2
   have M := M.put 0 rfl hwst2
   refine ⟨trivial, ?_⟩
   refine Ex.done (hK _ _ ?_)
   refine At.then_n ?_
   refine W.ret ?_
   refine At.blk_r ?_
   refine At.then_r ?_
   refine At.ret1 (.cell 6 49) rfl ⟨⟨_, rfl, run_loadVarA (l := [_, _, _, _, _]) Tryz.underlying49 rfl sz49 ⟨_, _, _, (M.at_ 0 rfl), rfl⟩ (Nat.zero_lt_succ _)⟩, trivial⟩ ?_
   exact post_bad hR M.tail.tail (by unfold writeS sizeS; rw [if_pos (.inr hco2)]; try rfl)
  ·try simp only [sA, sB, sC, sD, sE, sF, sG, sH, sI, sJ, sK, sL, sM, sN, sO] at hco2
   have hw2 : h.2 = true := by simpa using hsp1
   have hN0 : ¬ (h.2 = false ∨ o.a < 0) := fun e => e.elim (fun e => by rw [hw2] at e; cases e) (fun e => by omega)
   refine W.seq ?_
   refine W.sub [(0, _), (1, _), (5, _), (6, _), (7, _)] ⟨rfl, rfl, rfl, rfl, rfl, trivial⟩ ?_
   refine W.reg [(0, false), (1, false), (2, false)] (by kernel_rfl) ?_
   intro K hK
   refine x_move rfl rfl rfl rfl ?_
   refine x_eqi _ rfl rfl rfl rfl rfl rfl ?_
   refine x_assign rfl rfl rfl rfl ?_
   refine Ex.done (hK _ _ ?_)
   refine At.then_n ?_
   refine W.cond rfl (fun hco3 => ?_) (fun hco3 => ?_)
   ·try simp only [sA, sB, sC, sD, sE, sF, sG, sH, sI, sJ, sK, sL, sM, sN, sO] at hco3
    refine W.seq ?_
    refine W.sub [(6, _)] ⟨rfl, trivial⟩ ?_
    refine W.reg [(0, false), (1, true)] (by kernel_rfl) ?_
    intro K hK
    refine x_build [_, _, _, _, _] rfl rfl rfl pl49 ze49 rfl rfl rfl ?_
    refine x_st [_, _, _, _, _] _ rfl rfl rfl sz49 rfl rfl rfl rfl (M.at_ 0 rfl) rfl rfl rfl ?_
    intro wst3 hwst3
    have M := M.put 0 rfl hwst3
    refine ⟨trivial, ?_⟩
    refine Ex.done (hK _ _ ?_)
    refine At.then_n ?_
    refine W.ret ?_
    refine At.blk_r ?_
    refine At.then_r ?_
    refine At.ret1 (.cell 6 49) rfl ⟨⟨_, rfl, run_loadVarA (l := [_, _, _, _, _]) Tryz.underlying49 rfl sz49 ⟨_, _, _, (M.at_ 0 rfl), rfl⟩ (Nat.zero_lt_succ _)⟩, trivial⟩ ?_
    exact post_bad hR M.tail.tail (by unfold writeS sizeS; rw [if_neg hN0, if_pos (List.length_eq_zero_iff.1 (by omega))]; try rfl)
   ·try simp only [sA, sB, sC, sD, sE, sF, sG, sH, sI, sJ, sK, sL, sM, sN, sO] at hco3
    have hd0 : ¬ o.d = [] := fun e => hco3 (by rw [e]; try rfl)
    refine W.seq ?_
    refine W.sub [(0, _), (1, _), (5, _), (6, _), (7, _)] ⟨rfl, rfl, rfl, rfl, rfl, trivial⟩ ?_
    refine W.reg [(0, false), (1, false), (2, false), (3, false), (4, false), (5, false), (6, false), (7, false), (8, false), (9, false)] (by kernel_rfl) ?_
    intro K hK
    refine x_move rfl rfl rfl rfl ?_
    refine x_gtr _ rfl rfl rfl rfl rfl rfl ?_
    refine x_move rfl rfl rfl rfl ?_
    refine Ex.split 31 rfl (fun hsp2 => ?_) (fun hsp2 => ?_)
    ·
     try simp only [sA, sB, sC, sD, sE, sF, sG, sH, sI, sJ, sK, sL, sM, sN, sO] at hsp2
     refine Ex.skip_ rfl rfl rfl ?_
     refine Ex.skip_ rfl rfl rfl ?_
     refine Ex.skip_ rfl rfl rfl ?_
     refine Ex.skip_ rfl rfl rfl ?_
     refine Ex.skip_ rfl rfl rfl ?_
     refine x_pickT rfl rfl rfl rfl rfl ?_
     refine x_assign rfl rfl rfl rfl ?_
     refine Ex.done (hK _ _ ?_)
     refine At.then_n ?_
     refine W.condT rfl ?_
     refine W.seq ?_
     refine W.sub [(6, _)] ⟨rfl, trivial⟩ ?_
     refine W.reg [(0, true), (1, true)] (by kernel_rfl) ?_
     intro K hK
     refine x_call rfl rfl rfl rfl rfl en40 (fail_c) ?_
     rintro r_ wcall3 ⟨rfl, hncall3⟩
     have M := M.new hncall3
     refine ⟨trivial, ?_⟩
     refine x_st [_, _, _, _, _] _ rfl rfl rfl sz49 rfl rfl rfl rfl (M.at_ 0 rfl) rfl rfl rfl ?_
     intro wst4 hwst4
     have M := M.put 0 rfl hwst4
     refine ⟨trivial, ?_⟩
     refine Ex.done (hK _ _ ?_)
     refine At.then_n ?_
     refine W.ret ?_
     refine At.blk_r ?_
     refine At.then_r ?_
     refine At.ret1 (.cell 6 49) rfl ⟨⟨_, rfl, run_loadVarA (l := [_, _, _, _, _]) Tryz.underlying49 rfl sz49 ⟨_, _, _, (M.at_ 0 rfl), rfl⟩ (Nat.zero_lt_succ _)⟩, trivial⟩ ?_
     exact post_bad hR M.tail.tail (by unfold writeS sizeS; rw [if_neg hN0, if_neg hd0, if_pos (.inl (by omega))]; try rfl)
    ·
     try simp only [sA, sB, sC, sD, sE, sF, sG, sH, sI, sJ, sK, sL, sM, sN, sO] at hsp2
     refine x_fa rfl rfl rfl fo52_4 rfl ?_
     refine x_ld rfl rfl rfl Tryz.underlying3 rfl rfl (cell_of (M.at_ 1 rfl) rfl) ?_
     refine x_move rfl rfl rfl rfl ?_
     refine x_sub _ rfl rfl rfl rfl rfl (wsub (by omega) (by omega)) ?_
     refine x_gtr _ rfl rfl rfl rfl rfl rfl ?_
     refine x_pickF rfl rfl rfl rfl rfl ?_
     refine x_assign rfl rfl rfl rfl ?_
     refine Ex.done (hK _ _ ?_)
     refine At.then_n ?_
     refine W.cond rfl (fun hco5 => ?_) (fun hco5 => ?_)
     ·try simp only [sA, sB, sC, sD, sE, sF, sG, sH, sI, sJ, sK, sL, sM, sN, sO] at hco5
      refine W.seq ?_
      refine W.sub [(6, _)] ⟨rfl, trivial⟩ ?_
      refine W.reg [(0, true), (1, true)] (by kernel_rfl) ?_
      intro K hK
      refine x_call rfl rfl rfl rfl rfl en40 (fail_c) ?_
      rintro r_ wcall4 ⟨rfl, hncall4⟩
      have M := M.new hncall4
      refine ⟨trivial, ?_⟩
      refine x_st [_, _, _, _, _] _ rfl rfl rfl sz49 rfl rfl rfl rfl (M.at_ 0 rfl) rfl rfl rfl ?_
      intro wst5 hwst5
      have M := M.put 0 rfl hwst5
      refine ⟨trivial, ?_⟩
      refine Ex.done (hK _ _ ?_)
      refine At.then_n ?_
      refine W.ret ?_
      refine At.blk_r ?_
      refine At.then_r ?_
      refine At.ret1 (.cell 6 49) rfl ⟨⟨_, rfl, run_loadVarA (l := [_, _, _, _, _]) Tryz.underlying49 rfl sz49 ⟨_, _, _, (M.at_ 0 rfl), rfl⟩ (Nat.zero_lt_succ _)⟩, trivial⟩ ?_
      exact post_bad hR M.tail.tail (by unfold writeS sizeS; rw [if_neg hN0, if_neg hd0, if_pos (.inr (by omega))]; try rfl)
     ·try simp only [sA, sB, sC, sD, sE, sF, sG, sH, sI, sJ, sK, sL, sM, sN, sO] at hco5
      have hN1 : ¬ (65536 < o.d.length ∨ 65536 - (o.d.length : Int) < o.a) := by omega
      have hd1 : 0 < o.d.length := List.length_pos_iff.2 hd0
      refine W.skip ?_
      refine At.blk_n ?_
      refine At.then_n ?_
      refine W.seq ?_
      refine W.sub [(0, _), (1, _), (5, _), (6, _), (7, _)] ⟨rfl, rfl, rfl, rfl, rfl, trivial⟩ ?_
      refine W.regD (by kernel_rfl) #[0, 1, 3, 7, 0, 16, 48, 112, 255, 511] [(0, false), (1, false), (2, false), (3, false), (4, false), (5, false), (6, false), (7, false), (8, false), (9, false)] (by kernel_rfl) ?_
      intro K wD1 hK hwD1
      have M := M.drew hwD1
      refine x_move rfl rfl rfl rfl ?_
      refine x_nil rfl rfl rfl rfl rfl ?_
      refine x_fa rfl rfl rfl fo90_2 rfl ?_
      refine x_ld rfl rfl rfl Tryz.underlying84 rfl rfl (cell_of (fs_at M (fun y (hy : y ∈ fsB bf bv (usedL l) S) => by simp [hy])) rfl) ?_
      refine x_move rfl rfl rfl rfl ?_
      refine x_nil rfl rfl rfl rfl rfl ?_
      refine x_fa rfl rfl rfl fo86_0 rfl ?_
      refine x_ld rfl rfl rfl Tryz.underlying9 rfl rfl (cell_of (fs_at M (fun y (hy : y ∈ fsB bf bv (usedL l) S) => by simp [hy])) (fsC_h0 hq (by omega))) ?_
      refine x_lk1 (enc := strV) h.1 rfl rfl rfl (strKey Tryz.underlying9) Tryz.underlying84 ze102 rfl rfl ⟨S.om, cmap S.C, M.get (by simp [fsB]), hR.mp, rfl⟩ ?_
      rw [hcm, Option.getD_some]
      refine x_assign rfl rfl rfl rfl ?_
      refine Ex.done (hK _ _ ?_)
      refine At.then_n ?_
      refine W.seq ?_
      refine W.seq ?_
      refine W.sub [(0, _), (5, _), (6, _), (7, _), (8, _)] ⟨rfl, rfl, rfl, rfl, rfl, trivial⟩ ?_
      refine W.regD (by kernel_rfl) #[0, 0, 0, 4, 0, 16, 0, 112, 252, 511, 1023] [(0, false), (1, false), (2, false), (4, false), (5, false), (6, false), (7, false), (3, true), (8, false), (9, true), (10, false)] (by kernel_rfl) ?_
      intro K wD2 hK hwD2
      have M := M.drew hwD2
      refine x_move rfl rfl rfl rfl ?_
      refine x_move rfl rfl rfl rfl ?_
      refine x_move rfl rfl rfl rfl ?_
      refine x_fa rfl rfl rfl fo52_4 rfl ?_
      refine x_ld rfl rfl rfl Tryz.underlying3 rfl rfl (cell_of (M.at_ 1 rfl) rfl) ?_
      refine x_move rfl rfl rfl rfl ?_
      refine x_add ((o.a.toNat + o.d.length : Nat) : Int) rfl rfl rfl rfl rfl (by rw [wadd (by omega) (by omega)]; omega) ?_
      refine x_call rfl rfl rfl rfl rfl en48 (length_c (con_at M (fun y (hy : y ∈ fsB bf bv (usedL l) S) => by simp [hy]) hc) hOKc) ?_
      rintro r_ w_ ⟨rfl, rfl⟩
      refine ⟨⟨.inr (cell_of (M.at_ 1 rfl) rfl), trivial⟩, ?_⟩
      refine x_max (((max c.d.length (o.a.toNat + o.d.length)) : Nat) : Int) rfl rfl rfl rfl rfl (by split <;> omega) ?_
      refine x_call rfl rfl rfl rfl rfl en101 (resize_c (n := (max c.d.length (o.a.toNat + o.d.length))) (St.fsi (X := [_, _]) M) hc hOKc hB hR.cn hR.hl hus hcu (by omega)) ?_
      rintro r_ w6 ⟨rfl, hno, hyes⟩
      refine ⟨⟨.inl (by kernel_rfl), trivial⟩, ?_⟩
      refine x_not _ rfl rfl rfl rfl rfl ?_
      refine Ex.done (hK _ _ ?_)
      refine At.then_n ?_
      refine W.cond rfl (fun hco6 => ?_) (fun hco6 => ?_)
      ·try simp only [sA, sB, sC, sD, sE, sF, sG, sH, sI, sJ, sK, sL, sM, sN, sO] at hco6
       have hN : ¬ usedL l + (max c.d.length (o.a.toNat + o.d.length)) ≤ 262144 + c.d.length := by simpa using hco6
       have M := St.fso0 (X := [_, _]) (hno hN)
       refine W.seq ?_
       refine W.sub [(6, _)] ⟨rfl, trivial⟩ ?_
       refine W.reg [(0, true), (1, true)] (by kernel_rfl) ?_
       intro K hK
       refine x_call rfl rfl rfl rfl rfl en40 (fail_c) ?_
       rintro r_ wcall7 ⟨rfl, hncall7⟩
       have M := M.new hncall7
       refine ⟨trivial, ?_⟩
       refine x_st [_, _, _, _, _] _ rfl rfl rfl sz49 rfl rfl rfl rfl (M.at_ 0 rfl) rfl rfl rfl ?_
       intro wst6 hwst6
       have M := M.put 0 rfl hwst6
       refine ⟨trivial, ?_⟩
       refine Ex.done (hK _ _ ?_)
       refine At.then_n ?_
       refine W.ret ?_
       refine At.then_r ?_
       refine At.ret1 (.cell 6 49) rfl ⟨⟨_, rfl, run_loadVarA (l := [_, _, _, _, _]) Tryz.underlying49 rfl sz49 ⟨_, _, _, (M.at_ 0 rfl), rfl⟩ (Nat.zero_lt_succ _)⟩, trivial⟩ ?_
       exact post_bad hR M.tail.tail (by unfold writeS sizeS; rw [if_neg hN0, if_neg hd0, if_neg hN1, if_pos (by rw [hfb, writeB_len]; omega)]; try rfl)
      ·try simp only [sA, sB, sC, sD, sE, sF, sG, sH, sI, sJ, sK, sL, sM, sN, sO] at hco6
       have hN : usedL l + (max c.d.length (o.a.toNat + o.d.length)) ≤ 262144 + c.d.length := by simpa using hco6
       obtain ⟨v6, D6, hb6, M⟩ := hyes hN
       have M := St.fso0 (X := [_, _]) M
       have hsl := sizedB_len (d := c.d) (n := (max c.d.length (o.a.toNat + o.d.length)))
       rcases hb6 with ⟨_, hx, _⟩ | ⟨b6, cap6, rest6, T6, rfl, rfl, hlen6, hcap6⟩
       ·omega
       have hcp6 : (max c.d.length (o.a.toNat + o.d.length)) ≤ cap6 := by rw [List.length_append, byteCs_len, hsl] at hcap6; omega
       rw [hsl] at M
       refine W.skip ?_
       refine At.then_n ?_
       refine W.seq ?_
       refine W.sub [(5, _), (6, _), (7, _), (8, _)] ⟨rfl, rfl, rfl, rfl, trivial⟩ ?_
       refine W.regD (by kernel_rfl) #[0, 1, 3, 7, 0, 16, 63, 0, 128, 511] [(0, false), (1, false), (2, false), (3, false), (4, false), (5, false), (6, false), (7, false), (8, false), (9, true)] (by kernel_rfl) ?_
       intro K wD3 hK hwD3
       have M := M.drew hwD3
       refine x_move rfl rfl rfl rfl ?_
       refine x_nil rfl rfl rfl rfl rfl ?_
       refine x_fa rfl rfl rfl fo104_1 rfl ?_
       refine x_ld rfl rfl rfl Tryz.underlying27 rfl rfl (cell_of (con_cs (c := (ownC c (.slice (some ⟨b6, 0, none⟩) (max c.d.length (o.a.toNat + o.d.length)) cap6) [(b6, .cells (byteCs (sizedB c.d (max c.d.length (o.a.toNat + o.d.length))) ++ rest6).toArray T6 (0, 0))] (sizedB c.d (max c.d.length (o.a.toNat + o.d.length))))) M (fun y (hy : y ∈ fsB bf bv (usedL l + (max c.d.length (o.a.toNat + o.d.length)) - c.d.length) { S with C := updC S.C c.k (ownC c (.slice (some ⟨b6, 0, none⟩) (max c.d.length (o.a.toNat + o.d.length)) cap6) [(b6, .cells (byteCs (sizedB c.d (max c.d.length (o.a.toNat + o.d.length))) ++ rest6).toArray T6 (0, 0))] (sizedB c.d (max c.d.length (o.a.toNat + o.d.length)))) }) => by simp [hy]) (mem_updC hc)) rfl) ?_
       refine x_fa rfl rfl rfl fo52_4 rfl ?_
       refine x_ld rfl rfl rfl Tryz.underlying3 rfl rfl (cell_of (M.at_ 1 rfl) rfl) ?_
       refine x_sll o.a.toNat rfl rfl rfl Tryz.underlying27 sz5 rfl rfl (by omega) (by omega) ?_
       refine x_fa rfl rfl rfl fo52_8 rfl ?_
       refine x_ld rfl rfl rfl Tryz.underlying27 rfl rfl (cell_of (M.at_ 1 rfl) rfl) ?_
       have hcj : ¬ cap6 = o.a.toNat := by omega
       rw [if_neg hcj, add_some]
       have hdv3 := hdv _ _ M (fun y hy => by simp [hy])
       have hmem6 : (b6, Obj.cells (byteCs (sizedB c.d (max c.d.length (o.a.toNat + o.d.length))) ++ rest6).toArray T6 (0, 0)) ∈ fsB bf bv (usedL l + (max c.d.length (o.a.toNat + o.d.length)) - c.d.length) { S with C := updC S.C c.k (ownC c (.slice (some ⟨b6, 0, none⟩) (max c.d.length (o.a.toNat + o.d.length)) cap6) [(b6, .cells (byteCs (sizedB c.d (max c.d.length (o.a.toNat + o.d.length))) ++ rest6).toArray T6 (0, 0))] (sizedB c.d (max c.d.length (o.a.toNat + o.d.length)))) } := (List.mem_cons_of_mem _ (List.mem_cons_of_mem _ (List.mem_append_right _ (mem_cD (c := (ownC c (.slice (some ⟨b6, 0, none⟩) (max c.d.length (o.a.toNat + o.d.length)) cap6) [(b6, .cells (byteCs (sizedB c.d (max c.d.length (o.a.toNat + o.d.length))) ++ rest6).toArray T6 (0, 0))] (sizedB c.d (max c.d.length (o.a.toNat + o.d.length))))) (mem_updC hc) (List.mem_singleton.2 rfl)))))
       have hget6 := M.get (List.mem_append_right _ (List.mem_append_left _ hmem6))
       refine x_cpy rfl rfl rfl rfl Tryz.underlying27 sz5 rfl rfl hget6 hdv3 (byteCs_one _) hd1 (by omega) (by rw [List.length_append, byteCs_len, hsl]; omega) ?_
       intro wcp hwcp
       rw [over_cells (by rw [hsl]; omega)] at hwcp
       have hb7 : BytesO [(b6, .cells (byteCs (writeB c.d o.d o.a.toNat) ++ rest6).toArray T6 (0, 0))] (.slice (some ⟨b6, 0, none⟩) (max c.d.length (o.a.toNat + o.d.length)) cap6) (writeB c.d o.d o.a.toNat) := by
        refine .inr ⟨b6, cap6, rest6, T6, by rw [writeB_len], rfl, by rw [byteCs_len, Nat.mul_one], ?_⟩
        rw [List.length_append, byteCs_len, writeB_len]
        rw [List.length_append, byteCs_len, hsl] at hcap6
        exact hcap6
       have M := con_put (X := [_, _]) M (updC_nd hR.cn hc rfl) (mem_updC hc) rfl hwcp (ownC c (.slice (some ⟨b6, 0, none⟩) (max c.d.length (o.a.toNat + o.d.length)) cap6) [(b6, .cells (byteCs (writeB c.d o.d o.a.toNat) ++ rest6).toArray T6 (0, 0))] (writeB c.d o.d o.a.toNat)) rfl rfl
       rw [show updC (updC S.C c.k (ownC c (.slice (some ⟨b6, 0, none⟩) (max c.d.length (o.a.toNat + o.d.length)) cap6) [(b6, .cells (byteCs (sizedB c.d (max c.d.length (o.a.toNat + o.d.length))) ++ rest6).toArray T6 (0, 0))] (sizedB c.d (max c.d.length (o.a.toNat + o.d.length))))) (ownC c (.slice (some ⟨b6, 0, none⟩) (max c.d.length (o.a.toNat + o.d.length)) cap6) [(b6, .cells (byteCs (sizedB c.d (max c.d.length (o.a.toNat + o.d.length))) ++ rest6).toArray T6 (0, 0))] (sizedB c.d (max c.d.length (o.a.toNat + o.d.length)))).k (ownC c (.slice (some ⟨b6, 0, none⟩) (max c.d.length (o.a.toNat + o.d.length)) cap6) [(b6, .cells (byteCs (writeB c.d o.d o.a.toNat) ++ rest6).toArray T6 (0, 0))] (writeB c.d o.d o.a.toNat)) = updC S.C c.k (ownC c (.slice (some ⟨b6, 0, none⟩) (max c.d.length (o.a.toNat + o.d.length)) cap6) [(b6, .cells (byteCs (writeB c.d o.d o.a.toNat) ++ rest6).toArray T6 (0, 0))] (writeB c.d o.d o.a.toNat)) from updC_updC rfl] at M
       obtain ⟨hR7, hU7⟩ := hR.set (c' := (ownC c (.slice (some ⟨b6, 0, none⟩) (max c.d.length (o.a.toNat + o.d.length)) cap6) [(b6, .cells (byteCs (writeB c.d o.d o.a.toNat) ++ rest6).toArray T6 (0, 0))] (writeB c.d o.d o.a.toNat))) hc rfl rfl ⟨by show (writeB c.d o.d o.a.toNat).length ≤ 65536; rw [writeB_len]; omega, fun _ => hb7, fun h => by cases h⟩ (by show usedL l + (writeB c.d o.d o.a.toNat).length ≤ _; rw [writeB_len]; omega)
       have hU7 : usedL (setD l c.k (writeB c.d o.d o.a.toNat)) + c.d.length = usedL l + (writeB c.d o.d o.a.toNat).length := hU7
       rw [writeB_len] at hU7
       have hu7 : (usedL l + (max c.d.length (o.a.toNat + o.d.length)) - c.d.length) = usedL (setD l c.k (writeB c.d o.d o.a.toNat)) := by omega
       rw [hu7] at M
       refine ⟨⟨.inl (by kernel_rfl), .inl (by kernel_rfl), .inl (by kernel_rfl), trivial⟩, ?_⟩
       refine Ex.done (hK _ _ ?_)
       refine At.then_n ?_
       refine W.seq ?_
       refine W.sub [(6, _), (7, _)] ⟨rfl, rfl, trivial⟩ ?_
       refine W.reg [(0, false), (1, false), (2, true)] (by kernel_rfl) ?_
       intro K hK
       refine x_move rfl rfl rfl rfl ?_
       refine x_build [_, _, _, _, _] rfl rfl rfl pl49 ze49 rfl rfl rfl ?_
       refine x_st [_, _, _, _, _] _ rfl rfl rfl sz49 rfl rfl rfl rfl (M.at_ 0 rfl) rfl rfl rfl ?_
       intro wst7 hwst7
       have M := M.put 0 rfl hwst7
       refine ⟨trivial, ?_⟩
       refine Ex.done (hK _ _ ?_)
       refine At.then_n ?_
       refine W.ret ?_
       refine At.ret1 (.cell 6 49) rfl ⟨⟨_, rfl, run_loadVarA (l := [_, _, _, _, _]) Tryz.underlying49 rfl sz49 ⟨_, _, _, (M.at_ 0 rfl), rfl⟩ (Nat.zero_lt_succ _)⟩, trivial⟩ ?_
       have hst : ((writeS l h.1 h.2 o).1, (writeS l h.1 h.2 o).2, hf) = (⟨0, 0, o.d.length, [], []⟩, setD l c.k (writeB c.d o.d o.a.toNat), hf) := by unfold writeS sizeS; rw [if_neg hN0, if_neg hd0, if_neg hN1, if_neg (by rw [hfb, writeB_len]; omega), hfb, hck]
       rw [hst]
       exact post_same hR7 M.tail.tail rfl rfl rfl
end Go.Proofs.YtigfbpbnohkokaaGreat

namespace Go.Proofs.YtigfbpbnohkokaaGreat
open Go Go.Fw Go.RowKit
set_option linter.unusedVariables false
set_option linter.unusedSimpArgs false

def fsR (bf : Nat) (bv : Value) (u : Nat) (S : FSt) : List (Nat × Obj) := (bf, .cells (fsC bv u S).toArray 90 (0, 0)) :: (S.bm, S.om) :: cblks S.C
section
variable {S0 : Nat → Prop} {w0 w : World} {X T B L R : List (Nat × Obj)} {bf u : Nat} {bv : Value} {S : FSt} {E' : List Ent}
theorem St.tri (h : St S0 w0 (X ++ (fsB bf bv u S ++ T)) w) : St S0 w0 (tb S.bt S.E ++ (X ++ (fsR bf bv u S ++ T))) w := h.perm (perm_c fun p => by unfold fsB fsR; simp only [List.countP_append, List.countP_cons]; omega)
theorem St.tro (h : St S0 w0 (tb S.bt E' ++ (X ++ (fsR bf bv u S ++ T))) w) : St S0 w0 (X ++ (fsB bf bv u { S with E := E' } ++ T)) w := h.perm (perm_c fun p => by
 unfold fsB fsR
 have e : fsC bv u { S with E := E' } = fsC bv u S := rfl
 simp only [e, List.countP_append, List.countP_cons]
 omega)
theorem St.tro2 (h : St S0 w0 (tb S.bt S.E ++ ((X ++ (fsR bf bv u S ++ (B ++ L))) ++ R)) w) : St S0 w0 (X ++ (fsB bf bv u S ++ (B ++ (L ++ R)))) w := h.perm (perm_c fun p => by
 unfold fsB fsR
 simp only [List.countP_append, List.countP_cons]
 omega)
end
theorem withR_perm (l : List Raw) (x : Raw) : (withR l x).Perm (x :: l) := by
 unfold withR
 have e := List.takeWhile_append_dropWhile (p := fun y : Raw => decide (compareP y.1 x.1 < 0)) (l := l)
 conv => rhs; rw [← e]
 exact List.perm_middle
theorem usedL_with (l : List Raw) (x : Raw) : usedL (withR l x) = x.2.2.length + usedL l := by rw [usedL_perm (withR_perm l x), usedL_cons]
section
variable {base : BaseF} {S : FSt} {l : List Raw} {hf : HF} {c c' : Con} {p q d b : List UInt8} {E' : List Ent} {om' : Obj}
theorem FR.mkdir (h : FR base S l hf) (ht : TR E' (bareL (mkdirL l p).1)) : FR base { S with E := E' } (mkdirL l p).1 hf ∧ usedL (mkdirL l p).1 = usedL l := by
 by_cases h0 : (mkdirL l p).2 = 0
 ·have hl' : (mkdirL l p).1 = withR l (p, true, []) := by
   unfold mkdirL at h0 ⊢
   split
   ·rename_i h1
    rw [if_pos h1] at h0
    split
    ·rename_i h2; rw [if_pos h2] at h0; cases h0
    ·rename_i h2
     rw [if_neg h2] at h0
     split
     ·rename_i h3; rw [if_pos h3] at h0; cases h0
     ·rfl
   ·rename_i h1; rw [if_neg h1] at h0; exact absurd h0 h1
  rw [hl'] at ht ⊢
  have hu : usedL (withR l (p, true, [])) = usedL l := by rw [usedL_with]; simp
  refine ⟨h.tree ht (fun q d => ?_) (fun z hz hd => ?_) (by rw [hu]; exact h.us), hu⟩
  ·rw [withR_mem]
   exact ⟨fun h => h.elim (fun e => by cases e) id, .inr⟩
  ·rcases withR_mem.1 hz with rfl | hz
   ·rfl
   ·exact h.dd z hz hd
 ·rw [mkdirL_bad h0] at ht ⊢
  exact ⟨h.tree ht (fun _ _ => Iff.rfl) h.dd h.us, rfl⟩
/-- A file that is there may be taken away. -/
theorem FR.gone (h : FR base S l hf) (hm : (p, false, d) ∈ l) : (removeL l p).2 = 0 := by
 have hm' : (p, false, ([] : List UInt8)) ∈ bareL l := List.mem_map.2 ⟨_, hm, rfl⟩
 have hf := h.tr.find_row hm'
 obtain ⟨r1, r2, r3, r4⟩ := h.tr.row hm'
 have hb : busyL (bareL l) p = false := by
  cases hb : busyL (bareL l) p with
  | false => rfl
  | true =>
   have := (busy_iff h.tr.ti.gi h.tr.rel r1).1 hb
   exfalso
   apply this
   intro t
   simp only at r3 ⊢
   cases hg : absE S.E (splitN p ++ [t]) with
   | none => rfl
   | some v =>
    obtain ⟨b, n, h1, _⟩ := h.tr.ti.gi.pre hg (by simp)
    rw [r3] at h1; cases h1
 have h2 : (removeL (bareL l) p).2 = 0 := by
  unfold removeL
  rw [if_pos (by rw [hf]), if_neg r4, if_neg (by rw [hb]; simp)]
 rw [bare_remove] at h2
 exact h2
theorem remove_row (h0 : (removeL l p).2 = 0) : p ≠ [] ∧ (findL l p).2 = 0 ∧ (removeL l p).1 = l.eraseIdx (atR l p).toNat := by
 unfold removeL at h0 ⊢
 split
 ·rename_i h1
  rw [if_pos h1] at h0
  split
  ·rename_i h2; rw [if_pos h2] at h0; cases h0
  ·rename_i h2
   rw [if_neg h2] at h0
   split
   ·rename_i h3; rw [if_pos h3] at h0; cases h0
   ·exact ⟨h2, h1, rfl⟩
 ·rename_i h1; rw [if_neg h1] at h0; exact absurd h0 h1
theorem erase_perm {j : Nat} {x : Raw} (hx : l[j]? = some x) : (x :: l.eraseIdx j).Perm l := by
 conv => rhs; rw [split_at hx]
 rw [List.eraseIdx_eq_take_drop_succ]
 exact List.perm_middle.symm
theorem mem_erase {j : Nat} {x y : Raw} (hn : (l.map (·.1)).Nodup) (hx : l[j]? = some x) : y ∈ l.eraseIdx j ↔ y ∈ l ∧ y.1 ≠ x.1 := by
 have hp := erase_perm hx
 have hn2 : ((x :: l.eraseIdx j).map (·.1)).Nodup := ((hp.map (·.1)).nodup_iff).2 hn
 simp only [List.map_cons, List.nodup_cons] at hn2
 rw [← hp.mem_iff, List.mem_cons]
 constructor
 ·intro hy
  exact ⟨.inr hy, fun e => hn2.1 (e ▸ List.mem_map.2 ⟨y, hy, rfl⟩)⟩
 ·rintro ⟨rfl | hy, hne⟩
  ·exact absurd rfl hne
  ·exact hy
theorem row_of {x : Raw} (hx : x ∈ l) (hn : (l.map (·.1)).Nodup) : ∃ j : Nat, l[j]? = some x ∧ atR l x.1 = (j : Int) := by
 obtain ⟨j, hj, rfl⟩ := List.getElem_of_mem hx
 refine ⟨j, List.getElem?_eq_getElem hj, atR_some (List.getElem?_eq_getElem hj) rfl fun y hy e => ?_⟩
 obtain ⟨i, hi, rfl⟩ := List.mem_take_iff_getElem.1 hy
 have hi2 : i < j := by omega
 have : (l.map (·.1))[i]'(by simp; omega) = (l.map (·.1))[j]'(by simpa using hj) := by simpa using e
 have := (List.getElem_inj hn).1 this
 omega
theorem cmap_filter (hn : (S.C.map (·.k)).Nodup) : cmap (S.C.filter fun c => decide (c.k ≠ p)) = setF (cmap S.C) p none := by
 funext q
 unfold setF
 by_cases e : q = p
 ·subst e
  rw [if_pos rfl]
  have : cget (S.C.filter fun c => decide (c.k ≠ q)) q = none := by
   unfold cget
   rw [List.find?_eq_none]
   intro x hx
   have := (List.mem_filter.1 hx).2
   simpa using this
  unfold cmap; rw [this]; rfl
 ·rw [if_neg e]
  have : cget (S.C.filter fun c => decide (c.k ≠ p)) q = cget S.C q := by
   unfold cget
   rw [List.find?_filter]
   congr 1
   funext x
   by_cases h : x.k = q
   ·subst h; simp [e]
   ·simp [h]
  unfold cmap; rw [this]
/-- What is taken away. -/
theorem FR.remove (h : FR base S l hf) (h0 : (removeL l p).2 = 0) (ht : TR E' (bareL (removeL l p).1)) (hop : ∀ x ∈ S.hs, x.1 ≠ p) (hm : MapF strV om' (setF (cmap S.C) p none)) :
  FR base { S with E := E', om := om', C := S.C.filter fun c => decide (c.k ≠ p) } (removeL l p).1 hf ∧ usedL (removeL l p).1 + (fileB l p).length = usedL l := by
 obtain ⟨hp0, hf0, hl'⟩ := remove_row h0
 obtain ⟨x, hx, rfl⟩ := findL_mem hf0 hp0
 obtain ⟨j, hj, hat⟩ := row_of hx h.names
 rw [hl', hat, Int.toNat_natCast] at ht ⊢
 have hmem : ∀ y, y ∈ l.eraseIdx j ↔ y ∈ l ∧ y.1 ≠ x.1 := fun y => mem_erase h.names hj
 have hus : usedL (l.eraseIdx j) + (fileB l x.1).length = usedL l := by
  have h1 := usedL_perm (erase_perm hj)
  rw [usedL_cons] at h1
  have h2 : (fileB l x.1).length = x.2.2.length := by
   unfold fileB fileD
   rw [find_nd h.names hx]
   simp only
   split
   ·rename_i hd; rw [h.dd _ hx hd]; rfl
   ·rfl
  omega
 refine ⟨⟨ht, ?_, ?_, ?_, ?_, ?_, by have := h.us; omega, h.hl, h.hh, ?_⟩, hus⟩
 ·show MapF strV om' (cmap (S.C.filter fun c => decide (c.k ≠ x.1)))
  rw [cmap_filter h.cn]; exact hm
 ·exact ((List.filter_sublist).map _).nodup h.cn
 ·intro c hc; exact h.ok c (List.mem_filter.1 hc).1
 ·intro q d
  rw [hmem, h.cl]
  constructor
  ·rintro ⟨⟨c, hc, h1, h2⟩, hne⟩
   exact ⟨c, List.mem_filter.2 ⟨hc, by simpa [h1] using hne⟩, h1, h2⟩
  ·rintro ⟨c, hc, h1, h2⟩
   obtain ⟨g1, g2⟩ := List.mem_filter.1 hc
   exact ⟨⟨c, g1, h1, h2⟩, by rw [← h1]; simpa using g2⟩
 ·intro z hz hd; exact h.dd z ((hmem z).1 hz).1 hd
 ·intro y hy hy0
  obtain ⟨d, hd⟩ := h.ho y hy hy0
  exact ⟨d, (hmem _).2 ⟨hd, hop y hy⟩⟩
/-- A new file. -/
theorem FR.put (h : FR base S l hf) (hnone : ∀ y ∈ l, y.1 ≠ p) (hb : c.k = p) (hd : c.d = []) (hOK : c.OK base) (ht : TR E' (bareL (withR l (p, false, [])))) (hm : MapF strV om' (setF (cmap S.C) p (some (ptr c.b)))) :
  FR base { S with E := E', om := om', C := S.C ++ [c] } (withR l (p, false, [])) hf ∧ usedL (withR l (p, false, [])) = usedL l := by
 have hus : usedL (withR l (p, false, [])) = usedL l := by rw [usedL_with]; simp
 have hno : ∀ x ∈ S.C, x.k ≠ p := fun x hx e => hnone _ (h.row hx) e
 refine ⟨⟨ht, ?_, ?_, ?_, ?_, ?_, by rw [hus]; exact h.us, h.hl, h.hh, ?_⟩, hus⟩
 ·have : cmap (S.C ++ [c]) = setF (cmap S.C) p (some (ptr c.b)) := by
   funext q
   unfold cmap cget setF
   rw [List.find?_append]
   by_cases e : q = p
   ·subst e
    have : S.C.find? (fun c => decide (c.k = q)) = none := List.find?_eq_none.2 fun x hx => by simpa using hno x hx
    rw [this, if_pos rfl]; simp [hb]
   ·rw [if_neg e]
    show ((S.C.find? (fun c => decide (c.k = q))).or _).map _ = (S.C.find? (fun c => decide (c.k = q))).map _
    cases S.C.find? (fun c => decide (c.k = q)) with
    | some x => rfl
    | none =>
     have : ¬ c.k = q := fun h => e (h.symm.trans hb)
     simp [this]
  show MapF strV om' (cmap (S.C ++ [c]))
  rw [this]; exact hm
 ·show ((S.C ++ [c]).map (·.k)).Nodup
  rw [List.map_append, List.nodup_append]
  refine ⟨h.cn, by simp, ?_⟩
  intro a ha b hb' e
  obtain ⟨x, hx, rfl⟩ := List.mem_map.1 ha
  simp only [List.map_cons, List.map_nil, List.mem_singleton] at hb'
  exact hno x hx (e.trans (hb'.trans hb))
 ·intro x hx
  rcases List.mem_append.1 hx with hx | hx
  ·exact h.ok x hx
  ·rw [List.mem_singleton.1 hx]; exact hOK
 ·intro q d
  rw [withR_mem, h.cl]
  constructor
  ·rintro (e | ⟨x, hx, h1, h2⟩)
   ·simp only [Prod.mk.injEq, true_and] at e
    exact ⟨c, by simp, hb.trans e.1.symm, hd.trans e.2.symm⟩
   ·exact ⟨x, List.mem_append_left _ hx, h1, h2⟩
  ·rintro ⟨x, hx, h1, h2⟩
   rcases List.mem_append.1 hx with hx | hx
   ·exact .inr ⟨x, hx, h1, h2⟩
   ·rw [List.mem_singleton.1 hx, hb] at h1
    rw [List.mem_singleton.1 hx, hd] at h2
    exact .inl (by rw [← h1, ← h2])
 ·intro z hz hd'
  rcases withR_mem.1 hz with rfl | hz
  ·rfl
  ·exact h.dd z hz hd'
 ·intro y hy hy0
  obtain ⟨d, hd⟩ := h.ho y hy hy0
  exact ⟨d, withR_mem.2 (.inr hd)⟩
/-- Has anybody this file open? -/
def rowsB (hs : List Hd) (p : List UInt8) : Bool := (List.range 8).any fun a => ((hs.drop (16 * a)).take 16).any fun h => decide (h.1 = p)
theorem rowsB_iff {hs : List Hd} (hl : hs.length = 128) : rowsB hs p = true ↔ ∃ h ∈ hs, h.1 = p := by
 unfold rowsB
 simp only [List.any_eq_true, List.mem_range, decide_eq_true_eq]
 constructor
 ·rintro ⟨a, _, h, hm, h1⟩
  exact ⟨h, List.mem_of_mem_drop (List.mem_of_mem_take hm), h1⟩
 ·rintro ⟨h, hm, h1⟩
  obtain ⟨j, hj, rfl⟩ := List.getElem_of_mem hm
  refine ⟨j / 16, by omega, hs[j], ?_, h1⟩
  refine List.mem_of_getElem? (i := j % 16) ?_
  rw [List.getElem?_take, if_pos (by omega), List.getElem?_drop, show 16 * (j / 16) + j % 16 = j by omega, List.getElem?_eq_getElem hj]
theorem openB_iff {hs : List Hd} (hl : hs.length = 128) (hp : p ≠ []) : openB (hAt hs) p = true ↔ ∃ h ∈ hs, h.1 = p := by
 unfold openB
 simp only [List.any_eq_true, List.mem_range]
 constructor
 ·rintro ⟨a, ha, i, hi, h⟩
  rw [hAt_at ha hi] at h
  cases hq : hs[16 * a + i]? with
  | none => rw [hq] at h; cases h
  | some x =>
   rw [hq] at h
   by_cases e : x.1 = []
   ·simp [e] at h
   ·simp only [e, if_false, decide_eq_true_eq] at h
    exact ⟨x, List.mem_of_getElem? hq, h⟩
 ·rintro ⟨h, hm, h1⟩
  obtain ⟨j, hj, rfl⟩ := List.getElem_of_mem hm
  refine ⟨j / 16, by omega, j % 16, by omega, ?_⟩
  have hq : hs[16 * (j / 16) + j % 16]? = some hs[j] := by rw [show 16 * (j / 16) + j % 16 = j by omega, List.getElem?_eq_getElem hj]
  rw [hAt_some (by omega) (by omega) hq (by rw [h1]; exact hp)]
  simpa using h1
theorem open_rows {hs : List Hd} (hl : hs.length = 128) (hp : p ≠ []) : rowsB hs p = openB (hAt hs) p := by
 rw [Bool.eq_iff_iff, rowsB_iff hl, openB_iff hl hp]
end
end Go.Proofs.YtigfbpbnohkokaaGreat

namespace Go.Proofs.YtigfbpbnohkokaaGreat
open Go Go.Fw Go.RowKit
set_option linter.unusedVariables false
set_option linter.unusedSimpArgs false

def removeS (l : List Raw) (hf : HF) (p : List UInt8) : St3 := if (removeL l p).2 = 0 then (if openB hf p = true then (badS 18, l, hf) else (badS 0, (removeL l p).1, hf)) else (badS (removeL l p).2, l, hf)
def renameS (l : List Raw) (hf : HF) (p q : List UInt8) : St3 := if (cleanP q).2 = 0 then (if (renameL l p (cleanP q).1).2 = 0 then (badS 0, (renameL l p (cleanP q).1).1, movH hf p (cleanP q).1) else (badS (renameL l p (cleanP q).1).2, l, hf)) else (badS (cleanP q).2, l, hf)
def cptr (C : List Con) (p : List UInt8) : Option Addr := (cget C p).map fun c => ⟨c.b, 0, none⟩
theorem cmap_getD (C : List Con) (p : List UInt8) : (cmap C p).getD (.pointer none) = .pointer (cptr C p) := by unfold cmap cptr; cases cget C p <;> rfl
theorem rem_root (l : List Raw) : (removeL l []).2 = 18 := by
 unfold removeL
 rw [findL_root, if_pos rfl, if_pos rfl]
section
variable {base : BaseF} {S : FSt} {l : List Raw} {hf : HF} {c : Con} {p : List UInt8} {E' : List Ent} {bf u : Nat} {bv : Value}
theorem filter_none (h : FR base S l hf) (hg : cget S.C p = none) : S.C.filter (fun c => decide (c.k ≠ p)) = S.C := by
 rw [List.filter_eq_self]
 intro x hx
 have : x.k ≠ p := fun e => by
  have := cget_of h.cn hx
  rw [e, hg] at this; cases this
 simpa using this
theorem FR.removeN (h : FR base S l hf) (h0 : (removeL l p).2 = 0) (ht : TR E' (bareL (removeL l p).1)) (hop : ∀ x ∈ S.hs, x.1 ≠ p) (hg : cget S.C p = none) :
  FR base { S with E := E' } (removeL l p).1 hf ∧ usedL (removeL l p).1 = usedL l := by
 have e1 : setF (cmap S.C) p none = cmap S.C := by
  funext q
  unfold setF
  split
  ·rename_i e; subst e; unfold cmap; rw [hg]; rfl
  ·rfl
 obtain ⟨h1, h2⟩ := h.remove (om' := S.om) h0 ht hop (by rw [e1]; exact h.mp)
 rw [filter_none h hg] at h1
 have h3 : fileB l p = [] := by
  unfold fileB fileD
  cases hx : l.find? (fun x => decide (x.1 = p)) with
  | none => rfl
  | some x =>
   simp only
   split
   ·rfl
   ·rename_i hd
    exfalso
    have hp := List.find?_some hx
    have hm := List.mem_of_find?_eq_some hx
    obtain ⟨a, b, d⟩ := x
    simp at hp hd
    subst hp
    rw [hd] at hm
    exact h.no hg d hm
 rw [h3] at h2
 exact ⟨h1, h2⟩
theorem cblks_sub (f : Con → Bool) : ∀ C : List Con, (cblks (C.filter f)).Sublist (cblks C)
 | [] => List.Sublist.refl _
 | c :: C => by
  rw [List.filter_cons]
  split
  ·exact List.Sublist.append (List.Sublist.refl _) (cblks_sub f C)
  ·exact (cblks_sub f C).trans (List.sublist_append_right _ _)
theorem fs_sub (f : Con → Bool) : (fsB bf bv u { S with C := S.C.filter f }).Sublist (fsB bf bv u S) :=
 List.Sublist.cons_cons _ (List.Sublist.cons_cons _ (List.Sublist.append (List.Sublist.refl _) (cblks_sub f S.C)))
theorem no_open (h : FR base S l hf) (hp : p ≠ []) (ho : openB hf p = false) : ∀ x ∈ S.hs, x.1 ≠ p := fun x hx e => by
 rw [h.hh] at ho
 have := (openB_iff h.hl hp).2 ⟨x, hx, e⟩
 rw [ho] at this; cases this
theorem yes_open (h : FR base S l hf) (hp : p ≠ []) (ho : openB hf p = true) : ∃ d, (p, false, d) ∈ l := by
 rw [h.hh] at ho
 obtain ⟨x, hx, rfl⟩ := (openB_iff h.hl hp).1 ho
 exact h.ho x hx hp
theorem low_idx {hs : List Hd} {a : Nat} (hl : hs.length = 128) (ha : a < 8) : idxI ((hs.drop (16 * a)).take 16) (fun h => decide (h.1 = [])) = match lowH (hAt hs) (a : Int) with | some i => (i : Int) | none => -1 := by
 have hrl : ((hs.drop (16 * a)).take 16).length = 16 := by rw [List.length_take, List.length_drop]; omega
 have hat : ∀ i, i < 16 → ∃ x, ((hs.drop (16 * a)).take 16)[i]? = some x ∧ hs[16 * a + i]? = some x ∧ ((hAt hs (a : Int) ((i : Int) + 1)).isNone = decide (x.1 = [])) := by
  intro i hi
  obtain ⟨x, hx⟩ := get_lt (l := (hs.drop (16 * a)).take 16) (q := i) (by omega)
  have hx2 : hs[16 * a + i]? = some x := by rw [List.getElem?_take, if_pos hi, List.getElem?_drop] at hx; exact hx
  refine ⟨x, hx, hx2, ?_⟩
  rw [hAt_at ha hi, hx2]
  by_cases e : x.1 = [] <;> simp [e]
 unfold lowH
 cases hf : (List.range 16).find? (fun i : Nat => (hAt hs (a : Int) ((i : Int) + 1)).isNone) with
 | none =>
  show idxI _ _ = -1
  refine idxI_no fun y hy => ?_
  obtain ⟨i, hi, rfl⟩ := List.getElem_of_mem hy
  obtain ⟨x, h1, _, h3⟩ := hat i (by omega)
  have := List.find?_eq_none.1 hf i (by simp; omega)
  rw [List.getElem?_eq_getElem hi] at h1
  cases h1
  rw [h3] at this
  simpa using this
 | some i =>
  show idxI _ _ = (i : Int)
  have h0 := List.find?_some hf
  have hlo := (List.find?_range_eq_some.1 hf).2.2
  obtain ⟨x, h1, _, h3⟩ := hat i (List.mem_range.1 (List.mem_of_find?_eq_some hf))
  refine idxI_at h1 (fun y hy => ?_) (by rw [← h3]; exact h0)
  obtain ⟨j, hj, rfl⟩ := List.mem_take_iff_getElem.1 hy
  obtain ⟨x2, g1, _, g3⟩ := hat j (by omega)
  rw [List.getElem?_eq_getElem (by omega)] at g1
  cases g1
  rw [← g3]
  have := hlo j (by omega)
  simpa using this
end
end Go.Proofs.YtigfbpbnohkokaaGreat

namespace Go.Proofs.YtigfbpbnohkokaaGreat
open Go Go.Fw Go.RowKit Go.Proofs
set_option linter.unusedVariables false
set_option linter.unusedSimpArgs false

set_option maxRecDepth 100000 in
theorem mkdirH_c {w00 w0 : World} {bf : Nat} {bv dv : Value} {S : FSt} {base : BaseF} {Lb L : List (Nat × Obj)} {l : List Raw} {hf : HF} {o : OpS} {p : List UInt8} (M : Sep w00 (fsB bf bv (usedL l) S ++ (Lb ++ L)) w0) (hR : FR base S l hf)  (hdv : ∃ pd cd, dv = .slice pd o.d.length cd) : Ret Tryz.prog 72 #[ptr bf, strV p, .agg (opC o dv).toArray] w0 (PostS base bf bv w00 Lb L (badS (mkdirL l p).2, (mkdirL l p).1, hf)) := by
 obtain ⟨pd, cd, rfl⟩ := hdv
 refine Ret.of_W Tryz.func72 rfl Tryz.ntmps72 rfl ?_
 refine W.seq ?_
 refine W.sub [(0, _), (1, _), (2, _)] ⟨rfl, rfl, rfl, trivial⟩ ?_
 refine W.reg [(0, true), (1, true)] (by kernel_rfl) ?_
 intro K hK
 refine x_box [_, _, _, _, _, _, _, _, _] rfl rfl rfl rfl rfl ?_
 intro bbx1 wbx1 hbbx1 hwbx1
 have M := M.acons hbbx1 hwbx1
 refine ⟨trivial, ?_⟩
 refine x_alloc [_, _, _, _, _] rfl rfl rfl ze49 rfl ?_
 intro bal1 wal1 hbal1 hwal1
 have M := M.acons hbal1 hwal1
 refine ⟨trivial, ?_⟩
 refine Ex.done (hK _ _ ?_)
 refine At.then_n ?_
 refine W.seq ?_
 refine W.sub [(0, _), (1, _), (6, _)] ⟨rfl, rfl, rfl, trivial⟩ ?_
 refine W.reg [(0, false), (1, false), (2, false), (3, false), (4, false), (5, true), (6, true), (7, true)] (by kernel_rfl) ?_
 intro K hK
 refine x_move rfl rfl rfl rfl ?_
 refine x_nil rfl rfl rfl rfl rfl ?_
 refine x_fa rfl rfl rfl fo90_1 rfl ?_
 refine x_ld rfl rfl rfl Tryz.underlying83 rfl rfl (cell_of (fs_at M (fun y (hy : y ∈ fsB bf bv (usedL l) S) => by simp [hy])) rfl) ?_
 refine x_move rfl rfl rfl rfl ?_
 refine x_call rfl rfl rfl rfl rfl en102 (mkdir_r (St.tri (X := [_, _]) M) hR.tr) ?_
 rintro r_ w1 ⟨E1, rfl, hT1, M⟩
 rw [bare_mkdir] at hT1 ⊢
 obtain ⟨hR1, hU1⟩ := hR.mkdir hT1
 have M := St.tro (X := [_, _]) M
 rw [← hU1] at M
 refine ⟨trivial, ?_⟩
 refine x_call rfl rfl rfl rfl rfl en40 (fail_c) ?_
 rintro r_ wcall2 ⟨rfl, hncall2⟩
 have M := M.new hncall2
 refine ⟨trivial, ?_⟩
 refine x_st [_, _, _, _, _] _ rfl rfl rfl sz49 rfl rfl rfl rfl (M.at_ 0 rfl) rfl rfl rfl ?_
 intro wst1 hwst1
 have M := M.put 0 rfl hwst1
 refine ⟨trivial, ?_⟩
 refine Ex.done (hK _ _ ?_)
 refine At.then_n ?_
 refine W.ret ?_
 refine At.ret1 (.cell 6 49) rfl ⟨⟨_, rfl, run_loadVarA (l := [_, _, _, _, _]) Tryz.underlying49 rfl sz49 ⟨_, _, _, (M.at_ 0 rfl), rfl⟩ (Nat.zero_lt_succ _)⟩, trivial⟩ ?_
 exact post_bad hR1 M.tail.tail rfl

set_option maxRecDepth 100000 in
theorem listH_c {w00 w0 : World} {bf : Nat} {bv dv : Value} {S : FSt} {base : BaseF} {Lb L : List (Nat × Obj)} {l : List Raw} {hf : HF} {o : OpS} {p : List UInt8} (M : Sep w00 (fsB bf bv (usedL l) S ++ (Lb ++ L)) w0) (hR : FR base S l hf)  (hdv : ∃ pd cd, dv = .slice pd o.d.length cd) : Ret Tryz.prog 75 #[ptr bf, strV p, .agg (opC o dv).toArray] w0 (PostS base bf bv w00 Lb L (⟨(listL l p).2, 0, 0, [], (listL l p).1⟩, l, hf)) := by
 obtain ⟨pd, cd, rfl⟩ := hdv
 refine Ret.of_W Tryz.func75 rfl Tryz.ntmps75 rfl ?_
 refine W.seq ?_
 refine W.sub [(0, _), (1, _), (2, _)] ⟨rfl, rfl, rfl, trivial⟩ ?_
 refine W.reg [(0, true), (1, true)] (by kernel_rfl) ?_
 intro K hK
 refine x_box [_, _, _, _, _, _, _, _, _] rfl rfl rfl rfl rfl ?_
 intro bbx1 wbx1 hbbx1 hwbx1
 have M := M.acons hbbx1 hwbx1
 refine ⟨trivial, ?_⟩
 refine x_alloc [_, _, _, _, _] rfl rfl rfl ze49 rfl ?_
 intro bal1 wal1 hbal1 hwal1
 have M := M.acons hbal1 hwal1
 refine ⟨trivial, ?_⟩
 refine Ex.done (hK _ _ ?_)
 refine At.then_n ?_
 refine W.seq ?_
 refine W.sub [(0, _), (1, _), (6, _)] ⟨rfl, rfl, rfl, trivial⟩ ?_
 refine W.reg [(0, false), (1, false), (2, false), (3, false), (4, false), (5, true), (6, false), (7, false), (8, false), (9, false), (10, false)] (by kernel_rfl) ?_
 intro K hK
 refine x_move rfl rfl rfl rfl ?_
 refine x_nil rfl rfl rfl rfl rfl ?_
 refine x_fa rfl rfl rfl fo90_1 rfl ?_
 refine x_ld rfl rfl rfl Tryz.underlying83 rfl rfl (cell_of (fs_at M (fun y (hy : y ∈ fsB bf bv (usedL l) S) => by simp [hy])) rfl) ?_
 refine x_move rfl rfl rfl rfl ?_
 refine x_call rfl rfl rfl rfl rfl en107 (list_r (St.tri (X := [_, _]) M) hR.tr) ?_
 rintro r_ w1 ⟨v1, L1, rfl, hs1, M⟩
 rw [bare_list] at hs1 ⊢
 have M := St.tro2 (X := [_, _]) M
 obtain ⟨p1, c1, rfl, _⟩ := hs1.shape2 (by decide)
 refine ⟨trivial, ?_⟩
 refine x_move rfl rfl rfl rfl ?_
 refine x_ext rfl rfl rfl rfl rfl ?_
 refine x_ext rfl rfl rfl rfl rfl ?_
 refine x_assign rfl rfl rfl rfl ?_
 refine x_assign rfl rfl rfl rfl ?_
 refine Ex.done (hK _ _ ?_)
 refine At.then_n ?_
 refine W.seq ?_
 refine W.sub [(6, _), (7, _), (8, _)] ⟨rfl, rfl, rfl, trivial⟩ ?_
 refine W.reg [(0, false), (1, false), (2, false), (3, true)] (by kernel_rfl) ?_
 intro K hK
 refine x_move rfl rfl rfl rfl ?_
 refine x_move rfl rfl rfl rfl ?_
 refine x_build [_, _, _, _, _] rfl rfl rfl pl49 ze49 rfl rfl rfl ?_
 refine x_st [_, _, _, _, _] _ rfl rfl rfl sz49 rfl rfl rfl rfl (M.at_ 0 rfl) rfl rfl rfl ?_
 intro wst1 hwst1
 have M := M.put 0 rfl hwst1
 refine ⟨trivial, ?_⟩
 refine Ex.done (hK _ _ ?_)
 refine At.then_n ?_
 refine W.ret ?_
 refine At.ret1 (.cell 6 49) rfl ⟨⟨_, rfl, run_loadVarA (l := [_, _, _, _, _]) Tryz.underlying49 rfl sz49 ⟨_, _, _, (M.at_ 0 rfl), rfl⟩ (Nat.zero_lt_succ _)⟩, trivial⟩ ?_
 exact ⟨S, L1, ⟨_, _, [], L1, rfl, rfl, OwL.nil, hs1⟩, hR, M.tail.tail⟩

set_option maxRecDepth 100000 in
theorem busy_c {w0 : World} {bf u : Nat} {bv : Value} {S : FSt} {p : List UInt8} (hb : w0.heap[bf]? = some (.cells (fsC bv u S).toArray 90 (0, 0))) (hl : S.hs.length = 128) : Ret Tryz.prog 103 #[ptr bf, strV p] w0 fun r w' => r = .bool (rowsB S.hs p) ∧ New w0 w' := by
 have M : Sep w0 [] w0 := St.nil w0
 refine Ret.of_W Tryz.func103 rfl Tryz.ntmps103 rfl ?_
 refine W.seq ?_
 refine W.sub [(0, _), (1, _)] ⟨rfl, rfl, trivial⟩ ?_
 refine W.reg [(0, true), (1, false)] (by kernel_rfl) ?_
 intro K hK
 refine x_box [_] rfl rfl rfl rfl rfl ?_
 intro bbx1 wbx1 hbbx1 hwbx1
 have M := M.acons hbbx1 hwbx1
 refine ⟨trivial, ?_⟩
 refine x_assign rfl rfl rfl rfl ?_
 refine Ex.done (hK _ _ ?_)
 refine At.then_n ?_
 refine W.seq ?_
 refine W.seq ?_
 refine W.sub [(0, _), (3, _)] ⟨rfl, rfl, trivial⟩ ?_
 refine W.reg [(0, false)] (by kernel_rfl) ?_
 intro K hK
 refine x_move rfl rfl rfl rfl ?_
 refine Ex.done (hK _ _ ?_)
 refine At.then_n ?_
 refine W.block ?_
 refine W.loop (σ := Nat) (fun q => [(0, _), (3, _), (6, .int .i64 ((q : Nat) : Int))]) (fun q w => q ≤ 8 ∧ (∀ a < q, (((S.hs.drop (16 * a)).take 16).any fun h => decide (h.1 = p)) = false) ∧ Sep w0 [(bbx1, .cells [strV p].toArray 9 (0, 0))] w) (fun q => 8 - q) 0 ⟨rfl, rfl, rfl, trivial⟩ ⟨by omega, fun a ha => by omega, M⟩ ?_
 rintro q w ⟨hq8, hno, M⟩
 refine W.seq ?_
 refine W.sub [(0, _), (3, _), (6, _)] ⟨rfl, rfl, rfl, trivial⟩ ?_
 refine W.reg [(0, false)] (by kernel_rfl) ?_
 intro K hK
 refine x_lss _ rfl rfl rfl rfl rfl rfl ?_
 refine Ex.done (hK _ _ ?_)
 refine At.then_n ?_
 refine W.seq ?_
 refine W.cond rfl (fun hco1 => ?_) (fun hco1 => ?_)
 ·try simp only [sA, sB, sC, sD, sE, sF, sG, sH, sI, sJ, sK, sL, sM, sN, sO] at hco1
  refine W.skip ?_
  refine At.then_n ?_
  refine W.seq ?_
  refine W.block ?_
  refine W.seq ?_
  refine W.sub [(0, _), (3, _), (6, _)] ⟨rfl, rfl, rfl, trivial⟩ ?_
  refine W.reg [(0, false), (1, false)] (by kernel_rfl) ?_
  intro K hK
  refine x_move rfl rfl rfl rfl ?_
  refine x_assign rfl rfl rfl rfl ?_
  refine Ex.done (hK _ _ ?_)
  refine At.then_n ?_
  refine W.seq ?_
  refine W.sub [(0, _), (3, _), (5, _), (6, _)] ⟨rfl, rfl, rfl, rfl, trivial⟩ ?_
  refine W.reg [(0, false), (1, false), (2, true), (3, false), (4, true)] (by kernel_rfl) ?_
  intro K hK
  refine x_move rfl rfl rfl rfl ?_
  refine x_move rfl rfl rfl rfl ?_
  refine x_call rfl rfl rfl rfl rfl en49 (handles_c (by omega)) ?_
  rintro r_ w_ ⟨rfl, rfl⟩
  have hrl : ((S.hs.drop (16 * q)).take 16).length = 16 := by rw [List.length_take, List.length_drop]; omega
  have hsl := row_sl (off := 0 + 3 + q * 32) hl (by omega : q < 8) (New.keep M.frm hb) (by omega)
  have hcc := containsH_c (l := ((S.hs.drop (16 * q)).take 16)) (g := 127) (cp := #[ptr bbx1]) (f := fun h => decide (h.1 = p)) (by rw [hrl]; exact hsl) (by omega) en127 (fun x _ w2 hn2 => busy1_c (New.keep hn2 (M.at_ 0 rfl)))
  rw [hrl] at hcc
  refine ⟨trivial, ?_⟩
  refine x_mkfn rfl rfl rfl rfl rfl ?_
  refine x_call rfl rfl rfl rfl rfl en126 hcc ?_
  rintro r_ w2 ⟨rfl, hn2⟩
  have M := M.new hn2
  refine ⟨trivial, ?_⟩
  refine Ex.done (hK _ _ ?_)
  refine At.then_n ?_
  refine W.cond rfl (fun hco2 => ?_) (fun hco2 => ?_)
  ·try simp only [sA, sB, sC, sD, sE, sF, sG, sH, sI, sJ, sK, sL, sM, sN, sO] at hco2
   refine W.seq ?_
   refine W.sub [] trivial ?_
   refine W.reg [(0, false)] (by kernel_rfl) ?_
   intro K hK
   refine x_assign rfl rfl rfl rfl ?_
   refine Ex.done (hK _ _ ?_)
   refine At.then_n ?_
   refine W.ret ?_
   refine At.blk_r ?_
   refine At.then_r ?_
   refine At.loop_r ?_
   refine At.blk_r ?_
   refine At.then_r ?_
   refine At.ret1 (.tmp 4) rfl ⟨rfl, trivial⟩ ?_
   exact ⟨by rw [show rowsB S.hs p = true from List.any_eq_true.2 ⟨q, List.mem_range.2 (by omega), hco2⟩], M.frm⟩
  ·try simp only [sA, sB, sC, sD, sE, sF, sG, sH, sI, sJ, sK, sL, sM, sN, sO] at hco2
   refine W.skip ?_
   refine At.blk_n ?_
   refine At.then_n ?_
   refine W.sub [(0, _), (3, _), (6, _)] ⟨rfl, rfl, rfl, trivial⟩ ?_
   refine W.reg [(0, false), (1, false)] (by kernel_rfl) ?_
   intro K hK
   refine x_add _ rfl rfl rfl rfl rfl (wadd (by omega) (by omega)) ?_
   refine x_move rfl rfl rfl rfl ?_
   refine Ex.done (hK _ _ ?_)
   exact At.back (q + 1) ⟨rfl, rfl, rfl, trivial⟩ ⟨by omega, fun a ha => by rcases Nat.lt_succ_iff_lt_or_eq.1 ha with h | h; exact hno a h; rw [h]; exact hco2, M⟩ (by first | omega | (simp only; omega) | (simp; done) | (simp; omega))
 ·try simp only [sA, sB, sC, sD, sE, sF, sG, sH, sI, sJ, sK, sL, sM, sN, sO] at hco1
  refine W.exit ?_
  refine At.then_x ?_
  refine At.loop_x ?_
  refine At.blk_x ?_
  refine At.then_n ?_
  refine W.seq ?_
  refine W.sub [] trivial ?_
  refine W.reg [(0, false)] (by kernel_rfl) ?_
  intro K hK
  refine x_assign rfl rfl rfl rfl ?_
  refine Ex.done (hK _ _ ?_)
  refine At.then_n ?_
  refine W.ret ?_
  refine At.ret1 (.tmp 4) rfl ⟨rfl, trivial⟩ ?_
  exact ⟨by rw [show rowsB S.hs p = false from List.any_eq_false.2 fun a ha => by rw [hno a (by have := List.mem_range.1 ha; omega)]; simp], M.frm⟩

set_option maxRecDepth 100000 in
theorem removeH_c {w00 w0 : World} {bf : Nat} {bv dv : Value} {S : FSt} {base : BaseF} {Lb L : List (Nat × Obj)} {l : List Raw} {hf : HF} {o : OpS} {p : List UInt8} (M : Sep w00 (fsB bf bv (usedL l) S ++ (Lb ++ L)) w0) (hR : FR base S l hf)  (hdv : ∃ pd cd, dv = .slice pd o.d.length cd) : Ret Tryz.prog 73 #[ptr bf, strV p, .agg (opC o dv).toArray] w0 (PostS base bf bv w00 Lb L (removeS l hf p)) := by
 obtain ⟨pd, cd, rfl⟩ := hdv
 refine Ret.of_W Tryz.func73 rfl Tryz.ntmps73 rfl ?_
 refine W.seq ?_
 refine W.sub [(0, _), (1, _), (2, _)] ⟨rfl, rfl, rfl, trivial⟩ ?_
 refine W.reg [(0, true), (1, true)] (by kernel_rfl) ?_
 intro K hK
 refine x_box [_, _, _, _, _, _, _, _, _] rfl rfl rfl rfl rfl ?_
 intro bbx1 wbx1 hbbx1 hwbx1
 have M := M.acons hbbx1 hwbx1
 refine ⟨trivial, ?_⟩
 refine x_alloc [_, _, _, _, _] rfl rfl rfl ze49 rfl ?_
 intro bal1 wal1 hbal1 hwal1
 have M := M.acons hbal1 hwal1
 refine ⟨trivial, ?_⟩
 refine Ex.done (hK _ _ ?_)
 refine At.then_n ?_
 refine W.seq ?_
 refine W.seq ?_
 refine W.sub [(0, _), (1, _), (6, _)] ⟨rfl, rfl, rfl, trivial⟩ ?_
 refine W.reg [(0, false), (1, false), (2, false), (3, false), (4, false), (5, true), (6, false)] (by kernel_rfl) ?_
 intro K hK
 refine x_move rfl rfl rfl rfl ?_
 refine x_neS _ rfl rfl rfl rfl rfl rfl ?_
 refine x_move rfl rfl rfl rfl ?_
 refine Ex.split 11 rfl (fun hsp1 => ?_) (fun hsp1 => ?_)
 ·
  try simp only [sA, sB, sC, sD, sE, sF, sG, sH, sI, sJ, sK, sL, sM, sN, sO] at hsp1
  refine x_move rfl rfl rfl rfl ?_
  refine x_move rfl rfl rfl rfl ?_
  refine x_call rfl rfl rfl rfl rfl en103 (busy_c (fs_at M (fun y (hy : y ∈ fsB bf bv (usedL l) S) => by simp [hy])) hR.hl) ?_
  rintro r_ w1 ⟨rfl, hn1⟩
  have M := M.new hn1
  rw [open_rows hR.hl hsp1, ← hR.hh]
  refine ⟨trivial, ?_⟩
  refine x_pickT rfl rfl rfl rfl rfl ?_
  refine Ex.done (hK _ _ ?_)
  refine At.then_n ?_
  refine W.cond rfl (fun hco1 => ?_) (fun hco1 => ?_)
  ·try simp only [sA, sB, sC, sD, sE, sF, sG, sH, sI, sJ, sK, sL, sM, sN, sO] at hco1
   refine W.seq ?_
   refine W.sub [(6, _)] ⟨rfl, trivial⟩ ?_
   refine W.reg [(0, true), (1, true)] (by kernel_rfl) ?_
   intro K hK
   refine x_call rfl rfl rfl rfl rfl en40 (fail_c) ?_
   rintro r_ wcall2 ⟨rfl, hncall2⟩
   have M := M.new hncall2
   refine ⟨trivial, ?_⟩
   refine x_st [_, _, _, _, _] _ rfl rfl rfl sz49 rfl rfl rfl rfl (M.at_ 0 rfl) rfl rfl rfl ?_
   intro wst1 hwst1
   have M := M.put 0 rfl hwst1
   refine ⟨trivial, ?_⟩
   refine Ex.done (hK _ _ ?_)
   refine At.then_n ?_
   refine W.ret ?_
   refine At.then_r ?_
   refine At.ret1 (.cell 6 49) rfl ⟨⟨_, rfl, run_loadVarA (l := [_, _, _, _, _]) Tryz.underlying49 rfl sz49 ⟨_, _, _, (M.at_ 0 rfl), rfl⟩ (Nat.zero_lt_succ _)⟩, trivial⟩ ?_
   obtain ⟨d, hm⟩ := yes_open hR hsp1 hco1
   exact post_bad hR M.tail.tail (by unfold removeS; rw [if_pos (hR.gone hm), if_pos hco1])
  ·try simp only [sA, sB, sC, sD, sE, sF, sG, sH, sI, sJ, sK, sL, sM, sN, sO] at hco1
   have hno := no_open hR hsp1 hco1
   refine W.skip ?_
   refine At.then_n ?_
   refine W.seq ?_
   refine W.sub [(0, _), (1, _), (6, _)] ⟨rfl, rfl, rfl, trivial⟩ ?_
   refine W.reg [(0, false), (1, false), (2, false), (3, false), (4, false), (5, true), (6, false)] (by kernel_rfl) ?_
   intro K hK
   refine x_move rfl rfl rfl rfl ?_
   refine x_nil rfl rfl rfl rfl rfl ?_
   refine x_fa rfl rfl rfl fo90_1 rfl ?_
   refine x_ld rfl rfl rfl Tryz.underlying83 rfl rfl (cell_of (fs_at M (fun y (hy : y ∈ fsB bf bv (usedL l) S) => by simp [hy])) rfl) ?_
   refine x_move rfl rfl rfl rfl ?_
   refine x_call rfl rfl rfl rfl rfl en104 (remove_r (St.tri (X := [_, _]) M) hR.tr) ?_
   rintro r_ w3 ⟨E3, rfl, hT3, M⟩
   rw [bare_remove] at hT3 ⊢
   have M := St.tro (X := [_, _]) M
   refine ⟨trivial, ?_⟩
   refine x_assign rfl rfl rfl rfl ?_
   refine Ex.done (hK _ _ ?_)
   refine At.then_n ?_
   refine W.seq ?_
   refine W.seq ?_
   refine W.sub [(0, _), (1, _), (6, _), (7, _)] ⟨rfl, rfl, rfl, rfl, trivial⟩ ?_
   refine W.reg [(0, false), (1, false), (2, false), (3, false), (4, false), (5, false), (6, false)] (by kernel_rfl) ?_
   intro K hK
   refine x_move rfl rfl rfl rfl ?_
   refine x_nil rfl rfl rfl rfl rfl ?_
   refine x_fa rfl rfl rfl fo90_2 rfl ?_
   refine x_ld rfl rfl rfl Tryz.underlying84 rfl rfl (cell_of (fs_at M (fun y (hy : y ∈ fsB bf bv (usedL l) { S with E := E3 }) => by simp [hy])) rfl) ?_
   refine x_move rfl rfl rfl rfl ?_
   refine x_lk1 (enc := strV) p rfl rfl rfl (strKey Tryz.underlying9) Tryz.underlying84 ze102 rfl rfl ⟨S.om, cmap S.C, M.get (by simp [fsB]), hR.mp, rfl⟩ ?_
   rw [cmap_getD]
   refine x_assign rfl rfl rfl rfl ?_
   refine Ex.done (hK _ _ ?_)
   refine At.then_n ?_
   refine W.seq ?_
   refine W.sub [(0, _), (1, _), (6, _), (7, _), (8, _)] ⟨rfl, rfl, rfl, rfl, rfl, trivial⟩ ?_
   refine W.reg [(0, false), (1, false), (2, false), (3, false), (4, false), (5, false)] (by kernel_rfl) ?_
   intro K hK
   refine x_move rfl rfl rfl rfl ?_
   refine x_eqi _ rfl rfl rfl rfl rfl rfl ?_
   refine x_move rfl rfl rfl rfl ?_
   refine Ex.split 31 rfl (fun hsp2 => ?_) (fun hsp2 => ?_)
   ·
    try simp only [sA, sB, sC, sD, sE, sF, sG, sH, sI, sJ, sK, sL, sM, sN, sO] at hsp2
    refine x_move rfl rfl rfl rfl ?_
    refine x_nepn _ rfl rfl rfl Tryz.underlying102 rfl rfl rfl ?_
    refine x_pickT rfl rfl rfl rfl rfl ?_
    refine Ex.done (hK _ _ ?_)
    refine At.then_n ?_
    refine W.cond rfl (fun hco2 => ?_) (fun hco2 => ?_)
    ·try simp only [sA, sB, sC, sD, sE, sF, sG, sH, sI, sJ, sK, sL, sM, sN, sO] at hco2
     obtain ⟨c, hg⟩ : ∃ c, cget S.C p = some c := by
      cases hg : cget S.C p with
      | none => unfold cptr at hco2; rw [hg] at hco2; simp at hco2
      | some c => exact ⟨c, rfl⟩
     obtain ⟨hc, hck⟩ := cget_mem hg
     have hOKc := hR.ok c hc
     have hus := hR.us
     have hrow := hR.row hc
     have hcu := (hR.le hrow).2
     have hcl := hOKc.le
     rw [hck] at hrow
     have hfb := hR.bytes hrow
     have hcp : cptr S.C p = some ⟨c.b, 0, none⟩ := by unfold cptr; rw [hg]; rfl
     rw [hcp]
     refine W.seq ?_
     refine W.sub [(0, _), (1, _), (6, _), (7, _), (8, _)] ⟨rfl, rfl, rfl, rfl, rfl, trivial⟩ ?_
     refine W.regD (by kernel_rfl) #[0, 1, 3, 7, 0, 16, 63, 127, 255, 511] [(0, false), (1, false), (2, false), (3, false), (4, false), (5, true), (6, false), (7, false), (8, false), (9, true)] (by kernel_rfl) ?_
     intro K wD1 hK hwD1
     have M := M.drew hwD1
     refine x_move rfl rfl rfl rfl ?_
     refine x_nil rfl rfl rfl rfl rfl ?_
     refine x_fa rfl rfl rfl fo90_4 rfl ?_
     refine x_ld rfl rfl rfl Tryz.underlying3 rfl rfl (cell_of (fs_at M (fun y (hy : y ∈ fsB bf bv (usedL l) { S with E := E3 }) => by simp [hy])) (fsC_used hR.hl)) ?_
     refine x_move rfl rfl rfl rfl ?_
     refine x_call rfl rfl rfl rfl rfl en48 (length_c (con_at (S := { S with E := E3 }) M (fun y (hy : y ∈ fsB bf bv (usedL l) { S with E := E3 }) => by simp [hy]) hc) hOKc) ?_
     rintro r_ w_ ⟨rfl, rfl⟩
     refine ⟨⟨(by first | exact .inr (cell_of (M.at_ 2 rfl) rfl) | exact .inr (cell_of (fs_at M (fun y (hy : y ∈ fsB bf bv (usedL l) { S with E := E3 }) => by simp [hy])) (fsC_used hR.hl))), trivial⟩, ?_⟩
     refine x_sub (((usedL l - c.d.length) : Nat) : Int) rfl rfl rfl rfl rfl (by rw [wsub (by omega) (by omega)]; omega) ?_
     refine x_nil rfl rfl rfl rfl rfl ?_
     refine x_fa rfl rfl rfl fo90_4 rfl ?_
     refine x_st [_] (fsC bv (usedL l - c.d.length) { S with E := E3 }) rfl rfl rfl sz3 rfl rfl rfl rfl (fs_at M (fun y (hy : y ∈ fsB bf bv (usedL l) { S with E := E3 }) => by simp [hy])) rfl (by rw [fsC_len (S := { S with E := E3 }) hR.hl]; rfl) (fsC_use (S := { S with E := E3 }) hR.hl) ?_
     intro wst2 hwst2
     have M : Sep w00 ((bal1, _) :: (bbx1, _) :: (fsB bf bv (usedL l - c.d.length) { S with E := E3 } ++ (Lb ++ L))) wst2 := M.put 2 rfl hwst2
     refine ⟨⟨.inl (by kernel_rfl), trivial⟩, ?_⟩
     refine Ex.done (hK _ _ ?_)
     refine At.then_n ?_
     refine W.sub [(0, _), (1, _), (6, _), (7, _)] ⟨rfl, rfl, rfl, rfl, trivial⟩ ?_
     refine W.reg [(0, false), (1, false), (2, false), (3, false), (4, false), (5, true)] (by kernel_rfl) ?_
     intro K hK
     refine x_move rfl rfl rfl rfl ?_
     refine x_nil rfl rfl rfl rfl rfl ?_
     refine x_fa rfl rfl rfl fo90_2 rfl ?_
     refine x_ld rfl rfl rfl Tryz.underlying84 rfl rfl (cell_of (fs_at M (fun y (hy : y ∈ fsB bf bv (usedL l - c.d.length) { S with E := E3 }) => by simp [hy])) rfl) ?_
     refine x_move rfl rfl rfl rfl ?_
     refine x_del (enc := strV) p rfl rfl rfl (strKey Tryz.underlying9) Tryz.underlying84 rfl rfl rfl (M.get (by simp [fsB])) hR.mp ?_
     intro ode1 wde1 hmde1 hwde1
     have M : Sep w00 ((bal1, _) :: (bbx1, _) :: (fsB bf bv (usedL l - c.d.length) { S with E := E3, om := ode1 } ++ (Lb ++ L))) wde1 := M.put 3 rfl hwde1
     obtain ⟨hR4, hU4⟩ := hR.remove hsp2 hT3 hno hmde1
     rw [hfb] at hU4
     have hu4 : (usedL l - c.d.length) = usedL (removeL l p).1 := by omega
     rw [hu4] at M
     refine ⟨trivial, ?_⟩
     refine Ex.done (hK _ _ ?_)
     refine At.then_n ?_
     refine W.seq ?_
     refine W.sub [(6, _), (7, _)] ⟨rfl, rfl, trivial⟩ ?_
     refine W.reg [(0, false), (1, true), (2, true)] (by kernel_rfl) ?_
     intro K hK
     refine x_move rfl rfl rfl rfl ?_
     refine x_call rfl rfl rfl rfl rfl en40 (fail_c) ?_
     rintro r_ wcall5 ⟨rfl, hncall5⟩
     have M := M.new hncall5
     refine ⟨trivial, ?_⟩
     refine x_st [_, _, _, _, _] _ rfl rfl rfl sz49 rfl rfl rfl rfl (M.at_ 0 rfl) rfl rfl rfl ?_
     intro wst3 hwst3
     have M := M.put 0 rfl hwst3
     refine ⟨trivial, ?_⟩
     refine Ex.done (hK _ _ ?_)
     refine At.then_n ?_
     refine W.ret ?_
     refine At.ret1 (.cell 6 49) rfl ⟨⟨_, rfl, run_loadVarA (l := [_, _, _, _, _]) Tryz.underlying49 rfl sz49 ⟨_, _, _, (M.at_ 0 rfl), rfl⟩ (Nat.zero_lt_succ _)⟩, trivial⟩ ?_
     exact post_bad hR4 (M.tail.tail.sub (List.Sublist.append (fs_sub (S := { S with E := E3, om := ode1 }) _) (List.Sublist.refl _))) (by unfold removeS; rw [if_pos hsp2, if_neg (by rw [hco1]; simp), hsp2])
    ·try simp only [sA, sB, sC, sD, sE, sF, sG, sH, sI, sJ, sK, sL, sM, sN, sO] at hco2
     have hg : cget S.C p = none := by
      cases hg : cget S.C p with
      | none => rfl
      | some c => unfold cptr at hco2; rw [hg] at hco2; simp at hco2
     obtain ⟨hR4, hU4⟩ := hR.removeN hsp2 hT3 hno hg
     rw [← hU4] at M
     refine W.skip ?_
     refine At.then_n ?_
     refine W.seq ?_
     refine W.sub [(6, _), (7, _)] ⟨rfl, rfl, trivial⟩ ?_
     refine W.reg [(0, false), (1, true), (2, true)] (by kernel_rfl) ?_
     intro K hK
     refine x_move rfl rfl rfl rfl ?_
     refine x_call rfl rfl rfl rfl rfl en40 (fail_c) ?_
     rintro r_ wcall6 ⟨rfl, hncall6⟩
     have M := M.new hncall6
     refine ⟨trivial, ?_⟩
     refine x_st [_, _, _, _, _] _ rfl rfl rfl sz49 rfl rfl rfl rfl (M.at_ 0 rfl) rfl rfl rfl ?_
     intro wst4 hwst4
     have M := M.put 0 rfl hwst4
     refine ⟨trivial, ?_⟩
     refine Ex.done (hK _ _ ?_)
     refine At.then_n ?_
     refine W.ret ?_
     refine At.ret1 (.cell 6 49) rfl ⟨⟨_, rfl, run_loadVarA (l := [_, _, _, _, _]) Tryz.underlying49 rfl sz49 ⟨_, _, _, (M.at_ 0 rfl), rfl⟩ (Nat.zero_lt_succ _)⟩, trivial⟩ ?_
     exact post_bad hR4 M.tail.tail (by unfold removeS; rw [if_pos hsp2, if_neg (by rw [hco1]; simp), hsp2])
   ·
    try simp only [sA, sB, sC, sD, sE, sF, sG, sH, sI, sJ, sK, sL, sM, sN, sO] at hsp2
    have hR4 : FR base { S with E := E3 } l hf := hR.tree (by rw [removeL_bad hsp2] at hT3; exact hT3) (fun _ _ => Iff.rfl) hR.dd hR.us
    refine Ex.skip_ rfl rfl rfl ?_
    refine Ex.skip_ rfl rfl rfl ?_
    refine x_pickF rfl rfl rfl rfl rfl ?_
    refine Ex.done (hK _ _ ?_)
    refine At.then_n ?_
    refine W.condF rfl ?_
    refine W.skip ?_
    refine At.then_n ?_
    refine W.seq ?_
    refine W.sub [(6, _), (7, _)] ⟨rfl, rfl, trivial⟩ ?_
    refine W.reg [(0, false), (1, true), (2, true)] (by kernel_rfl) ?_
    intro K hK
    refine x_move rfl rfl rfl rfl ?_
    refine x_call rfl rfl rfl rfl rfl en40 (fail_c) ?_
    rintro r_ wcall7 ⟨rfl, hncall7⟩
    have M := M.new hncall7
    refine ⟨trivial, ?_⟩
    refine x_st [_, _, _, _, _] _ rfl rfl rfl sz49 rfl rfl rfl rfl (M.at_ 0 rfl) rfl rfl rfl ?_
    intro wst5 hwst5
    have M := M.put 0 rfl hwst5
    refine ⟨trivial, ?_⟩
    refine Ex.done (hK _ _ ?_)
    refine At.then_n ?_
    refine W.ret ?_
    refine At.ret1 (.cell 6 49) rfl ⟨⟨_, rfl, run_loadVarA (l := [_, _, _, _, _]) Tryz.underlying49 rfl sz49 ⟨_, _, _, (M.at_ 0 rfl), rfl⟩ (Nat.zero_lt_succ _)⟩, trivial⟩ ?_
    exact post_bad hR4 M.tail.tail (by unfold removeS; rw [if_neg hsp2])
 ·
  try simp only [sA, sB, sC, sD, sE, sF, sG, sH, sI, sJ, sK, sL, sM, sN, sO] at hsp1
  have hn0 : ¬ (removeL l p).2 = 0 := by rw [hsp1, rem_root]; decide
  refine Ex.skip_ rfl rfl rfl ?_
  refine Ex.skip_ rfl rfl rfl ?_
  refine Ex.skipm_ rfl rfl rfl ?_
  refine x_pickF rfl rfl rfl rfl rfl ?_
  refine Ex.done (hK _ _ ?_)
  refine At.then_n ?_
  refine W.condF rfl ?_
  refine W.skip ?_
  refine At.then_n ?_
  refine W.seq ?_
  refine W.sub [(0, _), (1, _), (6, _)] ⟨rfl, rfl, rfl, trivial⟩ ?_
  refine W.reg [(0, false), (1, false), (2, false), (3, false), (4, false), (5, true), (6, false)] (by kernel_rfl) ?_
  intro K hK
  refine x_move rfl rfl rfl rfl ?_
  refine x_nil rfl rfl rfl rfl rfl ?_
  refine x_fa rfl rfl rfl fo90_1 rfl ?_
  refine x_ld rfl rfl rfl Tryz.underlying83 rfl rfl (cell_of (fs_at M (fun y (hy : y ∈ fsB bf bv (usedL l) S) => by simp [hy])) rfl) ?_
  refine x_move rfl rfl rfl rfl ?_
  refine x_call rfl rfl rfl rfl rfl en104 (remove_r (St.tri (X := [_, _]) M) hR.tr) ?_
  rintro r_ w3 ⟨E3, rfl, hT3, M⟩
  rw [bare_remove] at hT3 ⊢
  have M := St.tro (X := [_, _]) M
  have hR4 : FR base { S with E := E3 } l hf := hR.tree (by rw [removeL_bad hn0] at hT3; exact hT3) (fun _ _ => Iff.rfl) hR.dd hR.us
  refine ⟨trivial, ?_⟩
  refine x_assign rfl rfl rfl rfl ?_
  refine Ex.done (hK _ _ ?_)
  refine At.then_n ?_
  refine W.seq ?_
  refine W.seq ?_
  refine W.sub [(0, _), (1, _), (6, _), (7, _)] ⟨rfl, rfl, rfl, rfl, trivial⟩ ?_
  refine W.reg [(0, false), (1, false), (2, false), (3, false), (4, false), (5, false), (6, false)] (by kernel_rfl) ?_
  intro K hK
  refine x_move rfl rfl rfl rfl ?_
  refine x_nil rfl rfl rfl rfl rfl ?_
  refine x_fa rfl rfl rfl fo90_2 rfl ?_
  refine x_ld rfl rfl rfl Tryz.underlying84 rfl rfl (cell_of (fs_at M (fun y (hy : y ∈ fsB bf bv (usedL l) { S with E := E3 }) => by simp [hy])) rfl) ?_
  refine x_move rfl rfl rfl rfl ?_
  refine x_lk1 (enc := strV) p rfl rfl rfl (strKey Tryz.underlying9) Tryz.underlying84 ze102 rfl rfl ⟨S.om, cmap S.C, M.get (by simp [fsB]), hR.mp, rfl⟩ ?_
  rw [cmap_getD]
  refine x_assign rfl rfl rfl rfl ?_
  refine Ex.done (hK _ _ ?_)
  refine At.then_n ?_
  refine W.seq ?_
  refine W.sub [(0, _), (1, _), (6, _), (7, _), (8, _)] ⟨rfl, rfl, rfl, rfl, rfl, trivial⟩ ?_
  refine W.reg [(0, false), (1, false), (2, false), (3, false), (4, false), (5, false)] (by kernel_rfl) ?_
  intro K hK
  refine x_move rfl rfl rfl rfl ?_
  refine x_eqi false rfl rfl rfl rfl rfl (beq_eq_false_iff_ne.2 hn0) ?_
  refine x_move rfl rfl rfl rfl ?_
  refine Ex.skip_ rfl rfl rfl ?_
  refine Ex.skip_ rfl rfl rfl ?_
  refine x_pickF rfl rfl rfl rfl rfl ?_
  refine Ex.done (hK _ _ ?_)
  refine At.then_n ?_
  refine W.condF rfl ?_
  refine W.skip ?_
  refine At.then_n ?_
  refine W.seq ?_
  refine W.sub [(6, _), (7, _)] ⟨rfl, rfl, trivial⟩ ?_
  refine W.reg [(0, false), (1, true), (2, true)] (by kernel_rfl) ?_
  intro K hK
  refine x_move rfl rfl rfl rfl ?_
  refine x_call rfl rfl rfl rfl rfl en40 (fail_c) ?_
  rintro r_ wcall9 ⟨rfl, hncall9⟩
  have M := M.new hncall9
  refine ⟨trivial, ?_⟩
  refine x_st [_, _, _, _, _] _ rfl rfl rfl sz49 rfl rfl rfl rfl (M.at_ 0 rfl) rfl rfl rfl ?_
  intro wst6 hwst6
  have M := M.put 0 rfl hwst6
  refine ⟨trivial, ?_⟩
  refine Ex.done (hK _ _ ?_)
  refine At.then_n ?_
  refine W.ret ?_
  refine At.ret1 (.cell 6 49) rfl ⟨⟨_, rfl, run_loadVarA (l := [_, _, _, _, _]) Tryz.underlying49 rfl sz49 ⟨_, _, _, (M.at_ 0 rfl), rfl⟩ (Nat.zero_lt_succ _)⟩, trivial⟩ ?_
  exact post_bad hR4 M.tail.tail (by unfold removeS; rw [if_neg hn0])
end Go.Proofs.YtigfbpbnohkokaaGreat

namespace Go.Proofs.YtigfbpbnohkokaaGreat
open Go Go.Fw Go.RowKit
set_option linter.unusedVariables false
set_option linter.unusedSimpArgs false

def lowI (hf : HF) (who : Int) : Int := match lowH hf who with | some i => (i : Int) | none => -1
theorem low_idx' {hs : List Hd} {a : Nat} (hl : hs.length = 128) (ha : a < 8) : idxI ((hs.drop (16 * a)).take 16) (fun h => decide (h.1 = [])) = lowI (hAt hs) (a : Int) := by rw [low_idx hl ha]; rfl
theorem low_no {hf : HF} {who : Int} (h : lowI hf who < 0) : lowH hf who = none := by
 unfold lowI at h
 cases e : lowH hf who with
 | none => rfl
 | some i => rw [e] at h; simp only at h; omega
theorem low_yes {hf : HF} {who : Int} (h : ¬ lowI hf who < 0) : ∃ i : Nat, i < 16 ∧ lowH hf who = some i ∧ lowI hf who = (i : Int) := by
 unfold lowI at h ⊢
 cases e : lowH hf who with
 | none => rw [e] at h; exact absurd (by decide) h
 | some i =>
  unfold lowH at e
  exact ⟨i, List.mem_range.1 (List.mem_of_find?_eq_some e), rfl, rfl⟩
theorem findF_bad {l : List Raw} : ∀ (r pre : NP) (f : Raw), (findF l pre r f).2 ≠ 0 → (findF l pre r f).1 = fileZ
 | [], _, _, h => absurd rfl h
 | n :: r, pre, f, h => by
  unfold findF at h ⊢
  split
  ·rename_i hd
   rw [if_pos hd] at h
   cases hx : l.find? (fun x => decide (x.1 = joinS (pre ++ [n]))) with
   | none => rfl
   | some x =>
    rw [hx] at h
    exact findF_bad r _ x h
  ·rfl
theorem findL_bad {l : List Raw} {p : List UInt8} (h : (findL l p).2 ≠ 0) : (findL l p).1 = fileZ := by
 unfold findL at h ⊢
 split
 ·rename_i h1; rw [if_pos h1] at h; exact findF_bad _ _ _ h
 ·rfl
section
variable {base : BaseF} {S : FSt} {l : List Raw} {hf : HF} {c : Con} {p : List UInt8}
theorem FR.found (h : FR base S l hf) {z : Raw} (hz : z ∈ l) : findL l z.1 = (z, 0) := by
 have h1 := h.tr.find_row (z := bareR z) (List.mem_map.2 ⟨z, hz, rfl⟩)
 have h2 : (findL l z.1).2 = 0 := by
  have := congrArg (fun x => x.2) h1
  rw [show (bareR z).1 = z.1 from rfl, bare_findL] at this
  exact this
 by_cases h0 : z.1 = []
 ·have := (h.tr.row (z := bareR z) (List.mem_map.2 ⟨z, hz, rfl⟩)).2.2.2
  exact absurd h0 this
 ·have h3 : (bareR (findL l z.1).1).1 = z.1 := by
   have := congrArg (fun x => x.1.1) h1
   rw [show (bareR z).1 = z.1 from rfl, bare_findL] at this
   exact this
  obtain ⟨w, hw⟩ : ∃ w, (findL l z.1).1 = w := ⟨_, rfl⟩
  have hmem : (findL l z.1).1 ∈ l := by
   unfold findL at h2 ⊢
   split
   ·rename_i hs
    rw [if_pos hs] at h2
    obtain ⟨n, r, hnr⟩ : ∃ n r, splitN z.1 = n :: r := by
     cases hs' : splitN z.1 with
     | nil => exact absurd ((sN_nil hs).1 hs') h0
     | cons n r => exact ⟨n, r, rfl⟩
    rw [hnr] at h2 ⊢
    have key : ∀ (r : NP) (n : List UInt8) (pre : NP) (f : Raw), (findF l pre (n :: r) f).2 = 0 → (findF l pre (n :: r) f).1 ∈ l := by
     intro r
     induction r with
     | nil =>
      intro n pre f h
      unfold findF at h ⊢
      split
      ·rename_i hd
       rw [if_pos hd] at h
       cases hx : l.find? (fun x => decide (x.1 = joinS (pre ++ [n]))) with
       | none => rw [hx] at h; cases h
       | some x => exact List.mem_of_find?_eq_some hx
      ·rename_i hd; rw [if_neg hd] at h; cases h
     | cons m r ih =>
      intro n pre f h
      unfold findF at h ⊢
      split
      ·rename_i hd
       rw [if_pos hd] at h
       cases hx : l.find? (fun x => decide (x.1 = joinS (pre ++ [n]))) with
       | none => rw [hx] at h; cases h
       | some x => rw [hx] at h; exact ih m _ x h
      ·rename_i hd; rw [if_neg hd] at h; cases h
    exact key r n [] _ h2
   ·rename_i hs; rw [if_neg hs] at h2; cases h2
  have := names_inj h.names hmem hz h3
  exact Prod.ext this h2
theorem FR.absent (h : FR base S l hf) (h9 : (findL l p).2 = 9) : ∀ y ∈ l, y.1 ≠ p := fun y hy e => by
 rw [← e, h.found hy] at h9; cases h9
theorem put_new {b : List UInt8} (hn : ∀ y ∈ l, y.1 ≠ p) (h0 : (putL l p b).2 = 0) : (putL l p b).1 = withR l (p, false, b) := by
 have hf : l.find? (fun x => decide (x.1 = p)) = none := List.find?_eq_none.2 fun y hy => by simpa using hn y hy
 unfold putL at h0 ⊢
 rw [hf] at h0 ⊢
 split
 ·rename_i h1
  rw [if_pos h1] at h0
  simp only at h0 ⊢
  split
  ·rename_i h2; rw [if_pos h2] at h0; cases h0
  ·rename_i h2
   rw [if_neg h2] at h0
   split
   ·rename_i h3; rw [if_pos h3] at h0; cases h0
   ·rfl
 ·rename_i h1; rw [if_neg h1] at h0; exact absurd h0 h1
theorem FR.isfile (h : FR base S l hf) (h0 : (findL l p).2 = 0) (hd : (findL l p).1.2.1 = false) : ∃ d, (p, false, d) ∈ l ∧ p ≠ [] := by
 have hp : p ≠ [] := fun e => by rw [e, findL_root] at hd; cases hd
 obtain ⟨x, hx, rfl⟩ := findL_mem h0 hp
 rw [h.found hx] at hd
 obtain ⟨a, b, d⟩ := x
 simp only at hd
 subst hd
 exact ⟨d, hx, hp⟩
end
section
variable {S0 : Nat → Prop} {w0 w : World} {x y z : Nat × Obj} {F B L L6 : List (Nat × Obj)} {bf u b : Nat} {bv : Value} {S : FSt} {c : Con} {o : Obj}
theorem St.drop3 (h : St S0 w0 (x :: y :: z :: (F ++ (B ++ (L ++ L6)))) w) : St S0 w0 (F ++ (B ++ L)) w := by
 have h := h.tail.tail.tail
 exact h.sub (List.Sublist.append (List.Sublist.refl _) (List.Sublist.append (List.Sublist.refl _) (List.sublist_append_left _ _)))
theorem open_blk (h : St S0 w0 ((b, o) :: x :: y :: z :: (fsB bf bv u S ++ (B ++ (L ++ L6)))) w) (hc : c.hd = (b, o)) (hD : c.D = []) : St S0 w0 (fsB bf bv u { S with C := S.C ++ [c] } ++ (B ++ L)) w := by
 have h : St S0 w0 (x :: y :: z :: (fsB bf bv u { S with C := S.C ++ [c] } ++ (B ++ (L ++ L6)))) w := h.perm (perm_c fun p => by
  unfold fsB
  have e : fsC bv u { S with C := S.C ++ [c] } = fsC bv u S := rfl
  simp only [e, cblks_app, cblks_cons, Con.blks, hc, hD, List.countP_append, List.countP_cons, List.countP_nil]
  simp only [cblks, List.flatMap_nil, List.countP_nil]
  omega)
 exact St.drop3 h
end
end Go.Proofs.YtigfbpbnohkokaaGreat

namespace Go.Proofs.YtigfbpbnohkokaaGreat
open Go Go.Fw Go.RowKit Go.Proofs
set_option linter.unusedVariables false
set_option linter.unusedSimpArgs false

set_option maxRecDepth 100000 in
theorem open_c {w00 w0 : World} {bf : Nat} {bv dv : Value} {S : FSt} {base : BaseF} {Lb L : List (Nat × Obj)} {l : List Raw} {hf : HF} {o : OpS} {a : Nat} (M : Sep w00 (fsB bf bv (usedL l) S ++ (Lb ++ L)) w0) (hR : FR base S l hf) (ha : a < 8) (hdv : ∃ pd cd, dv = .slice pd o.d.length cd) : Ret Tryz.prog 41 #[ptr bf, .int .i64 (a : Int), .agg (opC o dv).toArray] w0 (PostS base bf bv w00 Lb L (openS l hf (a : Int) o)) := by
 obtain ⟨pd, cd, rfl⟩ := hdv
 refine Ret.of_W Tryz.func41 rfl Tryz.ntmps41 rfl ?_
 refine W.seq ?_
 refine W.sub [(0, _), (1, _), (2, _)] ⟨rfl, rfl, rfl, trivial⟩ ?_
 refine W.reg [(0, true), (1, true)] (by kernel_rfl) ?_
 intro K hK
 refine x_box [_, _, _, _, _, _, _, _, _] rfl rfl rfl rfl rfl ?_
 intro bbx1 wbx1 hbbx1 hwbx1
 have M := M.acons hbbx1 hwbx1
 refine ⟨trivial, ?_⟩
 refine x_alloc [_, _, _, _, _] rfl rfl rfl ze49 rfl ?_
 intro bal1 wal1 hbal1 hwal1
 have M := M.acons hbal1 hwal1
 refine ⟨trivial, ?_⟩
 refine Ex.done (hK _ _ ?_)
 refine At.then_n ?_
 refine W.seq ?_
 refine W.sub [(0, _), (1, _), (5, _), (6, _)] ⟨rfl, rfl, rfl, rfl, trivial⟩ ?_
 refine W.reg [(0, false), (1, false), (2, true), (3, false)] (by kernel_rfl) ?_
 intro K hK
 refine x_move rfl rfl rfl rfl ?_
 refine x_move rfl rfl rfl rfl ?_
 refine x_call rfl rfl rfl rfl rfl en49 (handles_c ha) ?_
 rintro r_ w_ ⟨rfl, rfl⟩
 have hrl : ((S.hs.drop (16 * a)).take 16).length = 16 := by rw [List.length_take, List.length_drop, hR.hl]; omega
 have hsl := row_sl (off := 0 + 3 + a * 32) hR.hl ha (fs_at M (fun y (hy : y ∈ fsB bf bv (usedL l) S) => by simp [hy])) (by omega)
 have hcc := indexH_c (l := ((S.hs.drop (16 * a)).take 16)) (g := 65) (cp := #[]) (f := fun h => decide (h.1 = [])) (by rw [hrl]; exact hsl) (by omega) en65 (fun x _ w2 hn2 => open1_c)
 rw [hrl, low_idx' hR.hl ha, ← hR.hh] at hcc
 refine ⟨trivial, ?_⟩
 refine x_assign rfl rfl rfl rfl ?_
 refine Ex.done (hK _ _ ?_)
 refine At.then_n ?_
 refine W.seq ?_
 refine W.sub [(0, _), (5, _), (6, _), (7, _)] ⟨rfl, rfl, rfl, rfl, trivial⟩ ?_
 refine W.reg [(0, false), (1, true), (2, false)] (by kernel_rfl) ?_
 intro K hK
 refine x_move rfl rfl rfl rfl ?_
 refine x_call rfl rfl rfl rfl rfl en64 hcc ?_
 rintro r_ w2 ⟨rfl, hn2⟩
 have M := M.new hn2
 refine ⟨trivial, ?_⟩
 refine x_assign rfl rfl rfl rfl ?_
 refine Ex.done (hK _ _ ?_)
 refine At.then_n ?_
 refine W.seq ?_
 refine W.seq ?_
 refine W.sub [(0, _), (5, _), (6, _), (7, _), (8, _)] ⟨rfl, rfl, rfl, rfl, rfl, trivial⟩ ?_
 refine W.reg [(0, false), (1, false)] (by kernel_rfl) ?_
 intro K hK
 refine x_move rfl rfl rfl rfl ?_
 refine x_lss _ rfl rfl rfl rfl rfl rfl ?_
 refine Ex.done (hK _ _ ?_)
 refine At.then_n ?_
 refine W.cond rfl (fun hco1 => ?_) (fun hco1 => ?_)
 ·try simp only [sA, sB, sC, sD, sE, sF, sG, sH, sI, sJ, sK, sL, sM, sN, sO] at hco1
  have hlow := low_no hco1
  refine W.seq ?_
  refine W.sub [(6, _)] ⟨rfl, trivial⟩ ?_
  refine W.reg [(0, true), (1, true)] (by kernel_rfl) ?_
  intro K hK
  refine x_call rfl rfl rfl rfl rfl en40 (fail_c) ?_
  rintro r_ wcall3 ⟨rfl, hncall3⟩
  have M := M.new hncall3
  refine ⟨trivial, ?_⟩
  refine x_st [_, _, _, _, _] _ rfl rfl rfl sz49 rfl rfl rfl rfl (M.at_ 0 rfl) rfl rfl rfl ?_
  intro wst1 hwst1
  have M := M.put 0 rfl hwst1
  refine ⟨trivial, ?_⟩
  refine Ex.done (hK _ _ ?_)
  refine At.then_n ?_
  refine W.ret ?_
  refine At.then_r ?_
  refine At.ret1 (.cell 6 49) rfl ⟨⟨_, rfl, run_loadVarA (l := [_, _, _, _, _]) Tryz.underlying49 rfl sz49 ⟨_, _, _, (M.at_ 0 rfl), rfl⟩ (Nat.zero_lt_succ _)⟩, trivial⟩ ?_
  exact post_bad hR M.tail.tail (by unfold openS; rw [hlow])
 ·try simp only [sA, sB, sC, sD, sE, sF, sG, sH, sI, sJ, sK, sL, sM, sN, sO] at hco1
  obtain ⟨i, hi, hlow, hli⟩ := low_yes hco1
  rw [hli]
  obtain ⟨hx, hq⟩ := get_lt (l := S.hs) (q := 16 * a + i) (by rw [hR.hl]; omega)
  refine W.skip ?_
  refine At.then_n ?_
  refine W.seq ?_
  refine W.sub [(0, _), (5, _), (6, _), (7, _), (8, _)] ⟨rfl, rfl, rfl, rfl, rfl, trivial⟩ ?_
  refine W.reg [(0, false), (1, false), (2, true), (3, false), (4, false), (5, false), (6, false), (7, false)] (by kernel_rfl) ?_
  intro K hK
  refine x_fa rfl rfl rfl fo52_1 rfl ?_
  refine x_ld rfl rfl rfl Tryz.underlying9 rfl rfl (cell_of (M.at_ 1 rfl) rfl) ?_
  refine x_call rfl rfl rfl rfl rfl en45 (clean_c) ?_
  rintro r wcall4 ⟨rfl, hncall4⟩
  have M := M.new hncall4
  refine ⟨trivial, ?_⟩
  refine x_move rfl rfl rfl rfl ?_
  refine x_ext rfl rfl rfl rfl rfl ?_
  refine x_ext rfl rfl rfl rfl rfl ?_
  refine x_assign rfl rfl rfl rfl ?_
  refine x_assign rfl rfl rfl rfl ?_
  refine Ex.done (hK _ _ ?_)
  refine At.then_n ?_
  refine W.seq ?_
  refine W.seq ?_
  refine W.sub [(0, _), (5, _), (6, _), (7, _), (8, _), (9, _), (10, _)] ⟨rfl, rfl, rfl, rfl, rfl, rfl, rfl, trivial⟩ ?_
  refine W.reg [(0, false), (1, false)] (by kernel_rfl) ?_
  intro K hK
  refine x_move rfl rfl rfl rfl ?_
  refine x_nei _ rfl rfl rfl rfl rfl rfl ?_
  refine Ex.done (hK _ _ ?_)
  refine At.then_n ?_
  refine W.cond rfl (fun hco2 => ?_) (fun hco2 => ?_)
  ·try simp only [sA, sB, sC, sD, sE, sF, sG, sH, sI, sJ, sK, sL, sM, sN, sO] at hco2
   refine W.seq ?_
   refine W.sub [(6, _), (10, _)] ⟨rfl, rfl, trivial⟩ ?_
   refine W.reg [(0, false), (1, true), (2, true)] (by kernel_rfl) ?_
   intro K hK
   refine x_move rfl rfl rfl rfl ?_
   refine x_call rfl rfl rfl rfl rfl en40 (fail_c) ?_
   rintro r_ wcall5 ⟨rfl, hncall5⟩
   have M := M.new hncall5
   refine ⟨trivial, ?_⟩
   refine x_st [_, _, _, _, _] _ rfl rfl rfl sz49 rfl rfl rfl rfl (M.at_ 0 rfl) rfl rfl rfl ?_
   intro wst2 hwst2
   have M := M.put 0 rfl hwst2
   refine ⟨trivial, ?_⟩
   refine Ex.done (hK _ _ ?_)
   refine At.then_n ?_
   refine W.ret ?_
   refine At.then_r ?_
   refine At.ret1 (.cell 6 49) rfl ⟨⟨_, rfl, run_loadVarA (l := [_, _, _, _, _]) Tryz.underlying49 rfl sz49 ⟨_, _, _, (M.at_ 0 rfl), rfl⟩ (Nat.zero_lt_succ _)⟩, trivial⟩ ?_
   exact post_bad hR M.tail.tail (by unfold openS; rw [hlow]; simp only; rw [if_neg hco2])
  ·try simp only [sA, sB, sC, sD, sE, sF, sG, sH, sI, sJ, sK, sL, sM, sN, sO] at hco2
   refine W.skip ?_
   refine At.then_n ?_
   refine W.seq ?_
   refine W.sub [(0, _), (5, _), (6, _), (7, _), (8, _), (9, _)] ⟨rfl, rfl, rfl, rfl, rfl, rfl, trivial⟩ ?_
   refine W.reg [(0, false), (1, false), (2, false), (3, false), (4, false), (5, true), (6, false), (7, false), (8, false), (9, true), (10, true), (11, false)] (by kernel_rfl) ?_
   intro K hK
   refine x_move rfl rfl rfl rfl ?_
   refine x_nil rfl rfl rfl rfl rfl ?_
   refine x_fa rfl rfl rfl fo90_1 rfl ?_
   refine x_ld rfl rfl rfl Tryz.underlying83 rfl rfl (cell_of (fs_at M (fun y (hy : y ∈ fsB bf bv (usedL l) S) => by simp [hy])) rfl) ?_
   refine x_move rfl rfl rfl rfl ?_
   refine x_call rfl rfl rfl rfl rfl en66 (find_r (p := (cleanP o.p).1) (St.tri (X := [_, _]) M) hR.tr) ?_
   rintro r_ w6 ⟨dv6, L6, rfl, hb6, M⟩
   rw [bare_findL] at hb6 ⊢
   have M := St.tro2 (X := [_, _]) M
   obtain ⟨p6, c6, rfl⟩ := hb6.shape
   refine ⟨trivial, ?_⟩
   refine x_move rfl rfl rfl rfl ?_
   refine x_ext rfl rfl rfl rfl rfl ?_
   refine x_ext rfl rfl rfl rfl rfl ?_
   refine x_alloc [_, _, _] rfl rfl rfl ze29 rfl ?_
   intro bal2 wal2 hbal2 hwal2
   have M := M.acons hbal2 hwal2
   refine ⟨trivial, ?_⟩
   refine x_st [_, _, _] _ rfl rfl rfl sz29 rfl rfl rfl rfl (M.at_ 0 rfl) rfl rfl rfl ?_
   intro wst3 hwst3
   have M := M.put 0 rfl hwst3
   refine ⟨trivial, ?_⟩
   refine x_assign rfl rfl rfl rfl ?_
   refine Ex.done (hK _ _ ?_)
   refine At.then_n ?_
   refine W.seq ?_
   refine W.seq ?_
   refine W.sub [(0, _), (5, _), (6, _), (7, _), (8, _), (9, _), (10, _), (11, _)] ⟨rfl, rfl, rfl, rfl, rfl, rfl, rfl, rfl, trivial⟩ ?_
   refine W.reg [(0, false), (1, false), (2, false), (3, false), (4, false), (5, false)] (by kernel_rfl) ?_
   intro K hK
   refine x_move rfl rfl rfl rfl ?_
   refine x_eqi _ rfl rfl rfl rfl rfl rfl ?_
   refine x_move rfl rfl rfl rfl ?_
   refine Ex.split 41 rfl (fun hsp1 => ?_) (fun hsp1 => ?_)
   ·
    try simp only [sA, sB, sC, sD, sE, sF, sG, sH, sI, sJ, sK, sL, sM, sN, sO] at hsp1
    refine x_fa rfl rfl rfl fo52_7 rfl ?_
    refine x_ld rfl rfl rfl Tryz.underlying4 rfl rfl (cell_of (M.at_ 2 rfl) rfl) ?_
    refine x_pickT rfl rfl rfl rfl rfl ?_
    refine Ex.done (hK _ _ ?_)
    refine At.then_n ?_
    refine W.cond rfl (fun hco3 => ?_) (fun hco3 => ?_)
    ·try simp only [sA, sB, sC, sD, sE, sF, sG, sH, sI, sJ, sK, sL, sM, sN, sO] at hco3
     refine W.seq ?_
     refine W.sub [(0, _), (5, _), (6, _), (7, _), (8, _), (9, _), (11, _)] ⟨rfl, rfl, rfl, rfl, rfl, rfl, rfl, trivial⟩ ?_
     refine W.reg [(0, false), (1, false), (2, false), (3, false), (4, false), (5, true), (6, false)] (by kernel_rfl) ?_
     intro K hK
     refine x_move rfl rfl rfl rfl ?_
     refine x_nil rfl rfl rfl rfl rfl ?_
     refine x_fa rfl rfl rfl fo90_1 rfl ?_
     refine x_ld rfl rfl rfl Tryz.underlying83 rfl rfl (cell_of (fs_at M (fun y (hy : y ∈ fsB bf bv (usedL l) S) => by simp [hy])) rfl) ?_
     refine x_move rfl rfl rfl rfl ?_
     refine x_call rfl rfl rfl rfl rfl en67 (put_r (p := (cleanP o.p).1) (b := []) (St.tri (X := [_, _, _]) M) hR.tr (fun _ _ _ _ => .inr (.inl ⟨rfl, rfl, rfl⟩))) ?_
     rintro r_ w7 ⟨E7, rfl, hT7, M⟩
     rw [bare_put l _ [] (by simp)] at hT7 ⊢
     have M := St.tro (X := [_, _, _]) M
     refine ⟨trivial, ?_⟩
     refine x_assign rfl rfl rfl rfl ?_
     refine Ex.done (hK _ _ ?_)
     refine At.then_n ?_
     refine W.seq ?_
     refine W.sub [(0, _), (5, _), (6, _), (7, _), (8, _), (9, _), (10, _), (11, _)] ⟨rfl, rfl, rfl, rfl, rfl, rfl, rfl, rfl, trivial⟩ ?_
     refine W.reg [(0, false), (1, false)] (by kernel_rfl) ?_
     intro K hK
     refine x_move rfl rfl rfl rfl ?_
     refine x_eqi _ rfl rfl rfl rfl rfl rfl ?_
     refine Ex.done (hK _ _ ?_)
     refine At.then_n ?_
     refine W.cond rfl (fun hco4 => ?_) (fun hco4 => ?_)
     ·try simp only [sA, sB, sC, sD, sE, sF, sG, sH, sI, sJ, sK, sL, sM, sN, sO] at hco4
      have habs := hR.absent hsp1
      rw [put_new habs hco4] at hT7
      refine W.sub [(0, _), (5, _), (6, _), (7, _), (8, _), (9, _), (10, _), (11, _)] ⟨rfl, rfl, rfl, rfl, rfl, rfl, rfl, rfl, trivial⟩ ?_
      refine W.reg [(0, false), (1, false), (2, false), (3, false), (4, false), (5, false), (6, true), (7, true)] (by kernel_rfl) ?_
      intro K hK
      refine x_move rfl rfl rfl rfl ?_
      refine x_nil rfl rfl rfl rfl rfl ?_
      refine x_fa rfl rfl rfl fo90_2 rfl ?_
      refine x_ld rfl rfl rfl Tryz.underlying84 rfl rfl (cell_of (fs_at M (fun y (hy : y ∈ fsB bf bv (usedL l) { S with E := E7 }) => by simp [hy])) rfl) ?_
      refine x_move rfl rfl rfl rfl ?_
      refine x_build [_, _, _, _] rfl rfl rfl pl104 ze104 rfl rfl rfl ?_
      refine x_box [_, _, _, _] rfl rfl rfl rfl rfl ?_
      intro bbx2 wbx2 hbbx2 hwbx2
      have M := M.acons hbbx2 hwbx2
      refine ⟨trivial, ?_⟩
      refine x_mup (enc := strV) (cleanP o.p).1 rfl rfl rfl (strKey Tryz.underlying9) Tryz.underlying84 rfl rfl rfl (M.get (by simp [fsB])) hR.mp ?_
      intro omu1 wmu1 hmmu1 hwmu1
      have M : Sep w00 ((bbx2, _) :: (bal2, _) :: (bal1, _) :: (bbx1, _) :: (fsB bf bv (usedL l) { S with E := E7, om := omu1 } ++ (Lb ++ (L ++ L6)))) wmu1 := M.put 5 rfl hwmu1
      obtain ⟨hR7, hU7⟩ := hR.put (c := (⟨(cleanP o.p).1, bbx2, true, .slice none 0 0, [], [], 0, []⟩ : Con)) (p := (cleanP o.p).1) habs rfl rfl ⟨by simp, fun _ => OwL.nil, fun h => by cases h⟩ hT7 hmmu1
      refine ⟨trivial, ?_⟩
      refine Ex.done (hK _ _ ?_)
      refine At.then_n ?_
      refine W.seq ?_
      refine W.block ?_
      refine W.seq ?_
      refine W.sub [(5, _), (6, _), (7, _), (8, _), (9, _), (10, _), (11, _)] ⟨rfl, rfl, rfl, rfl, rfl, rfl, rfl, trivial⟩ ?_
      refine W.reg [(0, false), (1, false), (2, false)] (by kernel_rfl) ?_
      intro K hK
      refine x_move rfl rfl rfl rfl ?_
      refine x_nei false rfl rfl rfl rfl rfl (bne_eq_false_iff_eq.2 hco4) ?_
      refine x_assign rfl rfl rfl rfl ?_
      refine Ex.done (hK _ _ ?_)
      refine At.then_n ?_
      refine W.condF rfl ?_
      refine W.seq ?_
      refine W.sub [(5, _), (6, _), (7, _), (8, _), (9, _), (11, _)] ⟨rfl, rfl, rfl, rfl, rfl, rfl, trivial⟩ ?_
      refine W.reg [(0, false), (1, false), (2, false)] (by kernel_rfl) ?_
      intro K hK
      refine x_fa rfl rfl rfl fo29_1 rfl ?_
      refine x_ld rfl rfl rfl Tryz.underlying4 rfl rfl (cell_of (M.at_ 1 rfl) rfl) ?_
      refine x_assign rfl rfl rfl rfl ?_
      refine Ex.done (hK _ _ ?_)
      refine At.then_n ?_
      refine W.cond rfl (fun hco6 => ?_) (fun hco6 => ?_)
      ·try simp only [sA, sB, sC, sD, sE, sF, sG, sH, sI, sJ, sK, sL, sM, sN, sO] at hco6
       refine W.seq ?_
       refine W.sub [(6, _)] ⟨rfl, trivial⟩ ?_
       refine W.reg [(0, true), (1, true)] (by kernel_rfl) ?_
       intro K hK
       refine x_call rfl rfl rfl rfl rfl en40 (fail_c) ?_
       rintro r_ wcall8 ⟨rfl, hncall8⟩
       have M := M.new hncall8
       refine ⟨trivial, ?_⟩
       refine x_st [_, _, _, _, _] _ rfl rfl rfl sz49 rfl rfl rfl rfl (M.at_ 2 rfl) rfl rfl rfl ?_
       intro wst4 hwst4
       have M := M.put 2 rfl hwst4
       refine ⟨trivial, ?_⟩
       refine Ex.done (hK _ _ ?_)
       refine At.then_n ?_
       refine W.ret ?_
       refine At.blk_r ?_
       refine At.then_r ?_
       refine At.ret1 (.cell 6 49) rfl ⟨⟨_, rfl, run_loadVarA (l := [_, _, _, _, _]) Tryz.underlying49 rfl sz49 ⟨_, _, _, (M.at_ 2 rfl), rfl⟩ (Nat.zero_lt_succ _)⟩, trivial⟩ ?_
       exfalso
       have hz : (findL l (cleanP o.p).1).1.2.1 = true := hco6
       rw [findL_bad (by rw [hsp1]; decide)] at hz
       cases hz
      ·try simp only [sA, sB, sC, sD, sE, sF, sG, sH, sI, sJ, sK, sL, sM, sN, sO] at hco6
       refine W.skip ?_
       refine At.blk_n ?_
       refine At.then_n ?_
       refine W.seq ?_
       refine W.sub [(5, _), (6, _), (7, _), (8, _), (9, _)] ⟨rfl, rfl, rfl, rfl, rfl, trivial⟩ ?_
       refine W.reg [(0, false), (1, false), (2, false), (3, false), (4, false), (5, false), (6, false), (7, true)] (by kernel_rfl) ?_
       intro K hK
       refine x_move rfl rfl rfl rfl ?_
       refine x_move rfl rfl rfl rfl ?_
       refine x_move rfl rfl rfl rfl ?_
       refine x_fa rfl rfl rfl fo52_6 rfl ?_
       refine x_ld rfl rfl rfl Tryz.underlying4 rfl rfl (cell_of (M.at_ 3 rfl) rfl) ?_
       refine x_build [_, _] rfl rfl rfl pl86 ze86 rfl rfl rfl ?_
       refine x_ia i rfl rfl rfl Tryz.underlying116 sz86 rfl rfl rfl (by omega) ?_
       refine x_st [_, _] (fsC bv (usedL l) { S with E := E7, om := omu1, hs := S.hs.set (16 * a + i) ((cleanP o.p).1, o.w) }) rfl rfl rfl sz86 rfl rfl rfl rfl (fs_at M (fun y (hy : y ∈ fsB bf bv (usedL l) { S with E := E7, om := omu1 }) => by simp [hy])) rfl (by rw [fsC_len (S := { S with E := E7, om := omu1 }) hR.hl]; exact Nat.ble_eq_true_of_le (by simp only [List.length_cons, List.length_nil]; omega)) (fsC_put (S := { S with E := E7, om := omu1 }) (h' := ((cleanP o.p).1, o.w)) hq (by omega)) ?_
       intro wst5 hwst5
       have M : Sep w00 ((bbx2, _) :: (bal2, _) :: (bal1, _) :: (bbx1, _) :: (fsB bf bv (usedL l) { S with E := E7, om := omu1, hs := S.hs.set (16 * a + i) ((cleanP o.p).1, o.w) } ++ (Lb ++ (L ++ L6)))) wst5 := M.put 4 rfl hwst5
       refine ⟨trivial, ?_⟩
       refine Ex.done (hK _ _ ?_)
       refine At.then_n ?_
       refine W.seq ?_
       refine W.sub [(6, _), (8, _)] ⟨rfl, rfl, trivial⟩ ?_
       refine W.reg [(0, false), (1, false), (2, false), (3, true)] (by kernel_rfl) ?_
       intro K hK
       refine x_move rfl rfl rfl rfl ?_
       refine x_add ((i : Int) + 1) rfl rfl rfl rfl rfl (wadd (by omega) (by omega)) ?_
       refine x_build [_, _, _, _, _] rfl rfl rfl pl49 ze49 rfl rfl rfl ?_
       refine x_st [_, _, _, _, _] _ rfl rfl rfl sz49 rfl rfl rfl rfl (M.at_ 2 rfl) rfl rfl rfl ?_
       intro wst6 hwst6
       have M := M.put 2 rfl hwst6
       refine ⟨trivial, ?_⟩
       refine Ex.done (hK _ _ ?_)
       refine At.then_n ?_
       refine W.ret ?_
       refine At.ret1 (.cell 6 49) rfl ⟨⟨_, rfl, run_loadVarA (l := [_, _, _, _, _]) Tryz.underlying49 rfl sz49 ⟨_, _, _, (M.at_ 2 rfl), rfl⟩ (Nat.zero_lt_succ _)⟩, trivial⟩ ?_
       have hP0 : (cleanP o.p).1 ≠ [] := fun e => by rw [e, findL_root] at hsp1; cases hsp1
       have hR8 := hR7.hset (a := a) (i := i) (h' := ((cleanP o.p).1, o.w)) ha hi (fun _ => ⟨[], withR_mem.2 (.inl rfl)⟩)
       rw [if_neg hP0] at hR8
       have hst : openS l hf (a : Int) o = (⟨0, (i : Int) + 1, 0, [], []⟩, withR l ((cleanP o.p).1, false, []), setH hf (a : Int) ((i : Int) + 1) (some ((cleanP o.p).1, o.w))) := by unfold openS; rw [hlow]; simp only; rw [if_pos hco2, if_pos ⟨hsp1, hco3⟩, if_pos hco4, put_new habs hco4]
       rw [hst]
       have M := open_blk (c := (⟨(cleanP o.p).1, bbx2, true, .slice none 0 0, [], [], 0, []⟩ : Con)) M rfl rfl
       rw [← hU7] at M
       exact post_same hR8 M rfl rfl rfl
     ·try simp only [sA, sB, sC, sD, sE, sF, sG, sH, sI, sJ, sK, sL, sM, sN, sO] at hco4
      refine W.skip ?_
      refine At.then_n ?_
      refine W.seq ?_
      refine W.block ?_
      refine W.seq ?_
      refine W.sub [(5, _), (6, _), (7, _), (8, _), (9, _), (10, _), (11, _)] ⟨rfl, rfl, rfl, rfl, rfl, rfl, rfl, trivial⟩ ?_
      refine W.reg [(0, false), (1, false), (2, false)] (by kernel_rfl) ?_
      intro K hK
      refine x_move rfl rfl rfl rfl ?_
      refine x_nei true rfl rfl rfl rfl rfl (bne_iff_ne.2 hco4) ?_
      refine x_assign rfl rfl rfl rfl ?_
      refine Ex.done (hK _ _ ?_)
      refine At.then_n ?_
      refine W.condT rfl ?_
      refine W.seq ?_
      refine W.sub [(6, _), (10, _)] ⟨rfl, rfl, trivial⟩ ?_
      refine W.reg [(0, false), (1, true), (2, true)] (by kernel_rfl) ?_
      intro K hK
      refine x_move rfl rfl rfl rfl ?_
      refine x_call rfl rfl rfl rfl rfl en40 (fail_c) ?_
      rintro r_ wcall9 ⟨rfl, hncall9⟩
      have M := M.new hncall9
      refine ⟨trivial, ?_⟩
      refine x_st [_, _, _, _, _] _ rfl rfl rfl sz49 rfl rfl rfl rfl (M.at_ 1 rfl) rfl rfl rfl ?_
      intro wst7 hwst7
      have M := M.put 1 rfl hwst7
      refine ⟨trivial, ?_⟩
      refine Ex.done (hK _ _ ?_)
      refine At.then_n ?_
      refine W.ret ?_
      refine At.blk_r ?_
      refine At.then_r ?_
      refine At.ret1 (.cell 6 49) rfl ⟨⟨_, rfl, run_loadVarA (l := [_, _, _, _, _]) Tryz.underlying49 rfl sz49 ⟨_, _, _, (M.at_ 1 rfl), rfl⟩ (Nat.zero_lt_succ _)⟩, trivial⟩ ?_
      exact post_bad (hR.tree (by rw [putL_bad hco4] at hT7; exact hT7) (fun _ _ => Iff.rfl) hR.dd hR.us) (St.drop3 M) (by unfold openS; rw [hlow]; simp only; rw [if_pos hco2, if_pos ⟨hsp1, hco3⟩, if_neg hco4])
    ·try simp only [sA, sB, sC, sD, sE, sF, sG, sH, sI, sJ, sK, sL, sM, sN, sO] at hco3
     refine W.skip ?_
     refine At.then_n ?_
     refine W.seq ?_
     refine W.block ?_
     refine W.seq ?_
     refine W.sub [(5, _), (6, _), (7, _), (8, _), (9, _), (10, _), (11, _)] ⟨rfl, rfl, rfl, rfl, rfl, rfl, rfl, trivial⟩ ?_
     refine W.reg [(0, false), (1, false), (2, false)] (by kernel_rfl) ?_
     intro K hK
     refine x_move rfl rfl rfl rfl ?_
     refine x_nei true rfl rfl rfl rfl rfl (bne_iff_ne.2 (by rw [hsp1]; decide)) ?_
     refine x_assign rfl rfl rfl rfl ?_
     refine Ex.done (hK _ _ ?_)
     refine At.then_n ?_
     refine W.condT rfl ?_
     refine W.seq ?_
     refine W.sub [(6, _), (10, _)] ⟨rfl, rfl, trivial⟩ ?_
     refine W.reg [(0, false), (1, true), (2, true)] (by kernel_rfl) ?_
     intro K hK
     refine x_move rfl rfl rfl rfl ?_
     refine x_call rfl rfl rfl rfl rfl en40 (fail_c) ?_
     rintro r_ wcall10 ⟨rfl, hncall10⟩
     have M := M.new hncall10
     refine ⟨trivial, ?_⟩
     refine x_st [_, _, _, _, _] _ rfl rfl rfl sz49 rfl rfl rfl rfl (M.at_ 1 rfl) rfl rfl rfl ?_
     intro wst8 hwst8
     have M := M.put 1 rfl hwst8
     refine ⟨trivial, ?_⟩
     refine Ex.done (hK _ _ ?_)
     refine At.then_n ?_
     refine W.ret ?_
     refine At.blk_r ?_
     refine At.then_r ?_
     refine At.ret1 (.cell 6 49) rfl ⟨⟨_, rfl, run_loadVarA (l := [_, _, _, _, _]) Tryz.underlying49 rfl sz49 ⟨_, _, _, (M.at_ 1 rfl), rfl⟩ (Nat.zero_lt_succ _)⟩, trivial⟩ ?_
     exact post_bad hR (St.drop3 M) (by unfold openS; rw [hlow]; simp only; rw [if_pos hco2, if_neg (fun h => by rw [h.2] at hco3; cases hco3), if_neg (by rw [hsp1]; decide), hsp1])
   ·
    try simp only [sA, sB, sC, sD, sE, sF, sG, sH, sI, sJ, sK, sL, sM, sN, sO] at hsp1
    refine Ex.skip_ rfl rfl rfl ?_
    refine Ex.skip_ rfl rfl rfl ?_
    refine x_pickF rfl rfl rfl rfl rfl ?_
    refine Ex.done (hK _ _ ?_)
    refine At.then_n ?_
    refine W.condF rfl ?_
    refine W.skip ?_
    refine At.then_n ?_
    refine W.seq ?_
    refine W.block ?_
    refine W.seq ?_
    refine W.sub [(5, _), (6, _), (7, _), (8, _), (9, _), (10, _), (11, _)] ⟨rfl, rfl, rfl, rfl, rfl, rfl, rfl, trivial⟩ ?_
    refine W.reg [(0, false), (1, false), (2, false)] (by kernel_rfl) ?_
    intro K hK
    refine x_move rfl rfl rfl rfl ?_
    refine x_nei _ rfl rfl rfl rfl rfl rfl ?_
    refine x_assign rfl rfl rfl rfl ?_
    refine Ex.done (hK _ _ ?_)
    refine At.then_n ?_
    refine W.cond rfl (fun hco10 => ?_) (fun hco10 => ?_)
    ·try simp only [sA, sB, sC, sD, sE, sF, sG, sH, sI, sJ, sK, sL, sM, sN, sO] at hco10
     refine W.seq ?_
     refine W.sub [(6, _), (10, _)] ⟨rfl, rfl, trivial⟩ ?_
     refine W.reg [(0, false), (1, true), (2, true)] (by kernel_rfl) ?_
     intro K hK
     refine x_move rfl rfl rfl rfl ?_
     refine x_call rfl rfl rfl rfl rfl en40 (fail_c) ?_
     rintro r_ wcall11 ⟨rfl, hncall11⟩
     have M := M.new hncall11
     refine ⟨trivial, ?_⟩
     refine x_st [_, _, _, _, _] _ rfl rfl rfl sz49 rfl rfl rfl rfl (M.at_ 1 rfl) rfl rfl rfl ?_
     intro wst9 hwst9
     have M := M.put 1 rfl hwst9
     refine ⟨trivial, ?_⟩
     refine Ex.done (hK _ _ ?_)
     refine At.then_n ?_
     refine W.ret ?_
     refine At.blk_r ?_
     refine At.then_r ?_
     refine At.ret1 (.cell 6 49) rfl ⟨⟨_, rfl, run_loadVarA (l := [_, _, _, _, _]) Tryz.underlying49 rfl sz49 ⟨_, _, _, (M.at_ 1 rfl), rfl⟩ (Nat.zero_lt_succ _)⟩, trivial⟩ ?_
     exact post_bad hR (St.drop3 M) (by unfold openS; rw [hlow]; simp only; rw [if_pos hco2, if_neg (fun h => hsp1 h.1), if_neg hco10])
    ·try simp only [sA, sB, sC, sD, sE, sF, sG, sH, sI, sJ, sK, sL, sM, sN, sO] at hco10
     refine W.seq ?_
     refine W.sub [(5, _), (6, _), (7, _), (8, _), (9, _), (11, _)] ⟨rfl, rfl, rfl, rfl, rfl, rfl, trivial⟩ ?_
     refine W.reg [(0, false), (1, false), (2, false)] (by kernel_rfl) ?_
     intro K hK
     refine x_fa rfl rfl rfl fo29_1 rfl ?_
     refine x_ld rfl rfl rfl Tryz.underlying4 rfl rfl (cell_of (M.at_ 0 rfl) rfl) ?_
     refine x_assign rfl rfl rfl rfl ?_
     refine Ex.done (hK _ _ ?_)
     refine At.then_n ?_
     refine W.cond rfl (fun hco11 => ?_) (fun hco11 => ?_)
     ·try simp only [sA, sB, sC, sD, sE, sF, sG, sH, sI, sJ, sK, sL, sM, sN, sO] at hco11
      have hco11 : (findL l (cleanP o.p).1).1.2.1 = true := hco11
      refine W.seq ?_
      refine W.sub [(6, _)] ⟨rfl, trivial⟩ ?_
      refine W.reg [(0, true), (1, true)] (by kernel_rfl) ?_
      intro K hK
      refine x_call rfl rfl rfl rfl rfl en40 (fail_c) ?_
      rintro r_ wcall12 ⟨rfl, hncall12⟩
      have M := M.new hncall12
      refine ⟨trivial, ?_⟩
      refine x_st [_, _, _, _, _] _ rfl rfl rfl sz49 rfl rfl rfl rfl (M.at_ 1 rfl) rfl rfl rfl ?_
      intro wst10 hwst10
      have M := M.put 1 rfl hwst10
      refine ⟨trivial, ?_⟩
      refine Ex.done (hK _ _ ?_)
      refine At.then_n ?_
      refine W.ret ?_
      refine At.blk_r ?_
      refine At.then_r ?_
      refine At.ret1 (.cell 6 49) rfl ⟨⟨_, rfl, run_loadVarA (l := [_, _, _, _, _]) Tryz.underlying49 rfl sz49 ⟨_, _, _, (M.at_ 1 rfl), rfl⟩ (Nat.zero_lt_succ _)⟩, trivial⟩ ?_
      exact post_bad hR (St.drop3 M) (by unfold openS; rw [hlow]; simp only; rw [if_pos hco2, if_neg (fun h => hsp1 h.1), if_pos hco10, if_pos hco11])
     ·try simp only [sA, sB, sC, sD, sE, sF, sG, sH, sI, sJ, sK, sL, sM, sN, sO] at hco11
      have hco11 : (findL l (cleanP o.p).1).1.2.1 = false := hco11
      obtain ⟨d, hm, hP0⟩ := hR.isfile hco10 hco11
      refine W.skip ?_
      refine At.blk_n ?_
      refine At.then_n ?_
      refine W.seq ?_
      refine W.sub [(5, _), (6, _), (7, _), (8, _), (9, _)] ⟨rfl, rfl, rfl, rfl, rfl, trivial⟩ ?_
      refine W.reg [(0, false), (1, false), (2, false), (3, false), (4, false), (5, false), (6, false), (7, true)] (by kernel_rfl) ?_
      intro K hK
      refine x_move rfl rfl rfl rfl ?_
      refine x_move rfl rfl rfl rfl ?_
      refine x_move rfl rfl rfl rfl ?_
      refine x_fa rfl rfl rfl fo52_6 rfl ?_
      refine x_ld rfl rfl rfl Tryz.underlying4 rfl rfl (cell_of (M.at_ 2 rfl) rfl) ?_
      refine x_build [_, _] rfl rfl rfl pl86 ze86 rfl rfl rfl ?_
      refine x_ia i rfl rfl rfl Tryz.underlying116 sz86 rfl rfl rfl (by omega) ?_
      refine x_st [_, _] (fsC bv (usedL l) { S with hs := S.hs.set (16 * a + i) ((cleanP o.p).1, o.w) }) rfl rfl rfl sz86 rfl rfl rfl rfl (fs_at M (fun y (hy : y ∈ fsB bf bv (usedL l) S) => by simp [hy])) rfl (by rw [fsC_len hR.hl]; exact Nat.ble_eq_true_of_le (by simp only [List.length_cons, List.length_nil]; omega)) (fsC_put (h' := ((cleanP o.p).1, o.w)) hq (by omega)) ?_
      intro wst11 hwst11
      have M : Sep w00 ((bal2, _) :: (bal1, _) :: (bbx1, _) :: (fsB bf bv (usedL l) { S with hs := S.hs.set (16 * a + i) ((cleanP o.p).1, o.w) } ++ (Lb ++ (L ++ L6)))) wst11 := M.put 3 rfl hwst11
      refine ⟨trivial, ?_⟩
      refine Ex.done (hK _ _ ?_)
      refine At.then_n ?_
      refine W.seq ?_
      refine W.sub [(6, _), (8, _)] ⟨rfl, rfl, trivial⟩ ?_
      refine W.reg [(0, false), (1, false), (2, false), (3, true)] (by kernel_rfl) ?_
      intro K hK
      refine x_move rfl rfl rfl rfl ?_
      refine x_add ((i : Int) + 1) rfl rfl rfl rfl rfl (wadd (by omega) (by omega)) ?_
      refine x_build [_, _, _, _, _] rfl rfl rfl pl49 ze49 rfl rfl rfl ?_
      refine x_st [_, _, _, _, _] _ rfl rfl rfl sz49 rfl rfl rfl rfl (M.at_ 1 rfl) rfl rfl rfl ?_
      intro wst12 hwst12
      have M := M.put 1 rfl hwst12
      refine ⟨trivial, ?_⟩
      refine Ex.done (hK _ _ ?_)
      refine At.then_n ?_
      refine W.ret ?_
      refine At.ret1 (.cell 6 49) rfl ⟨⟨_, rfl, run_loadVarA (l := [_, _, _, _, _]) Tryz.underlying49 rfl sz49 ⟨_, _, _, (M.at_ 1 rfl), rfl⟩ (Nat.zero_lt_succ _)⟩, trivial⟩ ?_
      have hR8 := hR.hset (a := a) (i := i) (h' := ((cleanP o.p).1, o.w)) ha hi (fun _ => ⟨d, hm⟩)
      rw [if_neg hP0] at hR8
      have hst : openS l hf (a : Int) o = (⟨0, (i : Int) + 1, 0, [], []⟩, l, setH hf (a : Int) ((i : Int) + 1) (some ((cleanP o.p).1, o.w))) := by unfold openS; rw [hlow]; simp only; rw [if_pos hco2, if_neg (fun h => hsp1 h.1), if_pos hco10, if_neg (by rw [hco11]; simp)]
      rw [hst]
      exact post_same hR8 (St.drop3 M) rfl rfl rfl
end Go.Proofs.YtigfbpbnohkokaaGreat
