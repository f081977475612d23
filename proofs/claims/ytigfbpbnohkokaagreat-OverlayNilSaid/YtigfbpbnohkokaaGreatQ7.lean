/-
  Texts that belong together, laid into one file: O29, O30, FwT, R19.
-/
import Derived.Test.YtigfbpbnohkokaaGreatQ6
namespace Go.Proofs.YtigfbpbnohkokaaGreat
open Go Go.Fw Go.RowKit Go.Proofs
set_option linter.unusedVariables false
set_option linter.unusedSimpArgs false

set_option maxRecDepth 100000 in
theorem doN_c {w0 : World} {dv : Value} {who : Int} {o : OpS}  : Ret Tryz.prog 16 #[.pointer none, .int .i64 who, .agg (opC o dv).toArray] w0 fun r w' => r = rsV (badS 1) (.slice none 0 0) (.slice none 0 0) ∧ New w0 w' := by
 have M : Sep w0 [] w0 := St.nil w0
 refine Ret.of_W Tryz.func16 rfl Tryz.ntmps16 rfl ?_
 refine W.seq ?_
 refine W.sub [(0, _), (1, _), (2, _)] ⟨rfl, rfl, rfl, trivial⟩ ?_
 refine W.reg [(0, true), (1, true)] (by kernel_rfl) ?_
 intro K hK
 refine x_box [_, _, _, _, _, _, _, _, _] rfl rfl rfl rfl rfl ?_
 intro bbx1 wbx1 hbbx1 hwbx1
 have M := M.acons hbbx1 hwbx1
 refine ⟨trivial, ?_⟩
 refine x_alloc [_, _, _, _, _] rfl rfl rfl ze49 rfl ?_
 intro bal1 wal1 hbal1 hwal1
 have M := M.acons hbal1 hwal1
 refine ⟨trivial, ?_⟩
 refine Ex.done (hK _ _ ?_)
 refine At.then_n ?_
 refine W.seq ?_
 refine W.block ?_
 refine W.seq ?_
 refine W.sub [(0, _), (1, _), (5, _), (6, _)] ⟨rfl, rfl, rfl, rfl, trivial⟩ ?_
 refine W.reg [(0, false), (1, false), (2, false), (3, false), (4, false), (5, false), (6, false), (7, false), (8, false), (9, false)] (by kernel_rfl) ?_
 intro K hK
 refine x_move rfl rfl rfl rfl ?_
 refine x_eqpn true rfl rfl rfl Tryz.underlying34 rfl rfl rfl ?_
 refine x_move rfl rfl rfl rfl ?_
 refine Ex.skip_ rfl rfl rfl ?_
 refine Ex.skip_ rfl rfl rfl ?_
 refine Ex.skip_ rfl rfl rfl ?_
 refine Ex.skip_ rfl rfl rfl ?_
 refine Ex.skip_ rfl rfl rfl ?_
 refine x_pickT rfl rfl rfl rfl rfl ?_
 refine x_assign rfl rfl rfl rfl ?_
 refine Ex.done (hK _ _ ?_)
 refine At.then_n ?_
 refine W.condT rfl ?_
 refine W.seq ?_
 refine W.sub [(6, _)] ⟨rfl, trivial⟩ ?_
 refine W.reg [(0, true), (1, true)] (by kernel_rfl) ?_
 intro K hK
 refine x_call rfl rfl rfl rfl rfl en40 (fail_c) ?_
 rintro r_ wcall1 ⟨rfl, hncall1⟩
 have M := M.new hncall1
 refine ⟨trivial, ?_⟩
 refine x_st [_, _, _, _, _] _ rfl rfl rfl sz49 rfl rfl rfl rfl (by first | exact M.at_ 0 rfl | exact M.at_ 1 rfl | exact M.at_ 2 rfl | exact M.at_ 3 rfl | exact M.at_ 4 rfl | exact M.at_ 5 rfl | exact M.at_ 6 rfl | exact M.at_ 7 rfl) rfl rfl rfl ?_
 intro wst1 hwst1
 have M := by first | exact M.put 0 rfl hwst1 | exact M.put 1 rfl hwst1 | exact M.put 2 rfl hwst1 | exact M.put 3 rfl hwst1 | exact M.put 4 rfl hwst1 | exact M.put 5 rfl hwst1 | exact M.put 6 rfl hwst1 | exact M.put 7 rfl hwst1
 refine ⟨trivial, ?_⟩
 refine Ex.done (hK _ _ ?_)
 refine At.then_n ?_
 refine W.ret ?_
 refine At.blk_r ?_
 refine At.then_r ?_
 refine At.ret1 (.cell 6 49) rfl ⟨⟨_, rfl, run_loadVarA (l := [_, _, _, _, _]) Tryz.underlying49 rfl sz49 ⟨_, _, _, (by first | exact M.at_ 0 rfl | exact M.at_ 1 rfl | exact M.at_ 2 rfl | exact M.at_ 3 rfl | exact M.at_ 4 rfl | exact M.at_ 5 rfl | exact M.at_ 6 rfl | exact M.at_ 7 rfl), rfl⟩ (Nat.zero_lt_succ _)⟩, trivial⟩ ?_
 exact ⟨rfl, M.frm⟩

set_option maxRecDepth 100000 in
theorem doZ_c {w0 : World} {bf : Nat} {dv : Value} {who : Int} {o : OpS} (hb : w0.heap[bf]? = some (.cells zF.toArray 90 (0, 0))) : Ret Tryz.prog 16 #[ptr bf, .int .i64 who, .agg (opC o dv).toArray] w0 fun r w' => r = rsV (badS 1) (.slice none 0 0) (.slice none 0 0) ∧ New w0 w' := by
 have M : Sep w0 [] w0 := St.nil w0
 refine Ret.of_W Tryz.func16 rfl Tryz.ntmps16 rfl ?_
 refine W.seq ?_
 refine W.sub [(0, _), (1, _), (2, _)] ⟨rfl, rfl, rfl, trivial⟩ ?_
 refine W.reg [(0, true), (1, true)] (by kernel_rfl) ?_
 intro K hK
 refine x_box [_, _, _, _, _, _, _, _, _] rfl rfl rfl rfl rfl ?_
 intro bbx1 wbx1 hbbx1 hwbx1
 have M := M.acons hbbx1 hwbx1
 refine ⟨trivial, ?_⟩
 refine x_alloc [_, _, _, _, _] rfl rfl rfl ze49 rfl ?_
 intro bal1 wal1 hbal1 hwal1
 have M := M.acons hbal1 hwal1
 refine ⟨trivial, ?_⟩
 refine Ex.done (hK _ _ ?_)
 refine At.then_n ?_
 refine W.seq ?_
 refine W.block ?_
 refine W.seq ?_
 refine W.sub [(0, _), (1, _), (5, _), (6, _)] ⟨rfl, rfl, rfl, rfl, trivial⟩ ?_
 refine W.reg [(0, false), (1, false), (2, false), (3, false), (4, false), (5, false), (6, false), (7, false), (8, false), (9, false)] (by kernel_rfl) ?_
 intro K hK
 refine x_move rfl rfl rfl rfl ?_
 refine x_eqpn false rfl rfl rfl Tryz.underlying34 rfl rfl rfl ?_
 refine x_move rfl rfl rfl rfl ?_
 refine x_move rfl rfl rfl rfl ?_
 refine x_nil rfl rfl rfl rfl rfl ?_
 refine x_fa rfl rfl rfl fo90_1 rfl ?_
 refine x_ld rfl rfl rfl Tryz.underlying83 rfl rfl (cell_of (New.keep M.frm hb) rfl) ?_
 refine x_eqpn true rfl rfl rfl Tryz.underlying83 rfl rfl rfl ?_
 refine x_pickF rfl rfl rfl rfl rfl ?_
 refine x_assign rfl rfl rfl rfl ?_
 refine Ex.done (hK _ _ ?_)
 refine At.then_n ?_
 refine W.condT rfl ?_
 refine W.seq ?_
 refine W.sub [(6, _)] ⟨rfl, trivial⟩ ?_
 refine W.reg [(0, true), (1, true)] (by kernel_rfl) ?_
 intro K hK
 refine x_call rfl rfl rfl rfl rfl en40 (fail_c) ?_
 rintro r_ wcall1 ⟨rfl, hncall1⟩
 have M := M.new hncall1
 refine ⟨trivial, ?_⟩
 refine x_st [_, _, _, _, _] _ rfl rfl rfl sz49 rfl rfl rfl rfl (by first | exact M.at_ 0 rfl | exact M.at_ 1 rfl | exact M.at_ 2 rfl | exact M.at_ 3 rfl | exact M.at_ 4 rfl | exact M.at_ 5 rfl | exact M.at_ 6 rfl | exact M.at_ 7 rfl) rfl rfl rfl ?_
 intro wst1 hwst1
 have M := by first | exact M.put 0 rfl hwst1 | exact M.put 1 rfl hwst1 | exact M.put 2 rfl hwst1 | exact M.put 3 rfl hwst1 | exact M.put 4 rfl hwst1 | exact M.put 5 rfl hwst1 | exact M.put 6 rfl hwst1 | exact M.put 7 rfl hwst1
 refine ⟨trivial, ?_⟩
 refine Ex.done (hK _ _ ?_)
 refine At.then_n ?_
 refine W.ret ?_
 refine At.blk_r ?_
 refine At.then_r ?_
 refine At.ret1 (.cell 6 49) rfl ⟨⟨_, rfl, run_loadVarA (l := [_, _, _, _, _]) Tryz.underlying49 rfl sz49 ⟨_, _, _, (by first | exact M.at_ 0 rfl | exact M.at_ 1 rfl | exact M.at_ 2 rfl | exact M.at_ 3 rfl | exact M.at_ 4 rfl | exact M.at_ 5 rfl | exact M.at_ 6 rfl | exact M.at_ 7 rfl), rfl⟩ (Nat.zero_lt_succ _)⟩, trivial⟩ ?_
 exact ⟨rfl, M.frm⟩

set_option maxRecDepth 100000 in
theorem filesN_c {w0 : World}   : Ret Tryz.prog 17 #[.pointer none] w0 fun r w' => r = .slice none 0 0 ∧ w0 = w' := by
 refine Ret.of_W Tryz.func17 rfl Tryz.ntmps17 rfl ?_
 refine W.seq ?_
 refine W.sub [(0, _)] ⟨rfl, trivial⟩ ?_
 refine W.reg [(0, false)] (by kernel_rfl) ?_
 intro K hK
 refine x_assign rfl rfl rfl rfl ?_
 refine Ex.done (hK _ _ ?_)
 refine At.then_n ?_
 refine W.seq ?_
 refine W.seq ?_
 refine W.sub [(0, _)] ⟨rfl, trivial⟩ ?_
 refine W.reg [(0, false), (1, false), (2, false), (3, false), (4, false), (5, false), (6, false), (7, false), (8, false)] (by kernel_rfl) ?_
 intro K hK
 refine x_move rfl rfl rfl rfl ?_
 refine x_eqpn true rfl rfl rfl Tryz.underlying34 rfl rfl rfl ?_
 refine x_move rfl rfl rfl rfl ?_
 refine Ex.skip_ rfl rfl rfl ?_
 refine Ex.skip_ rfl rfl rfl ?_
 refine Ex.skip_ rfl rfl rfl ?_
 refine Ex.skip_ rfl rfl rfl ?_
 refine Ex.skip_ rfl rfl rfl ?_
 refine x_pickT rfl rfl rfl rfl rfl ?_
 refine Ex.done (hK _ _ ?_)
 refine At.then_n ?_
 refine W.condT rfl ?_
 refine W.seq ?_
 refine W.sub [] trivial ?_
 refine W.reg [(0, false)] (by kernel_rfl) ?_
 intro K hK
 refine x_assign rfl rfl rfl rfl ?_
 refine Ex.done (hK _ _ ?_)
 refine At.then_n ?_
 refine W.ret ?_
 refine At.then_r ?_
 refine At.ret1 (.tmp 2) rfl ⟨rfl, trivial⟩ ?_
 exact ⟨rfl, rfl⟩

set_option maxRecDepth 100000 in
theorem filesZ_c {w0 : World} {bf : Nat} (hb : w0.heap[bf]? = some (.cells zF.toArray 90 (0, 0))) : Ret Tryz.prog 17 #[ptr bf] w0 fun r w' => r = .slice none 0 0 ∧ w0 = w' := by
 refine Ret.of_W Tryz.func17 rfl Tryz.ntmps17 rfl ?_
 refine W.seq ?_
 refine W.sub [(0, _)] ⟨rfl, trivial⟩ ?_
 refine W.reg [(0, false)] (by kernel_rfl) ?_
 intro K hK
 refine x_assign rfl rfl rfl rfl ?_
 refine Ex.done (hK _ _ ?_)
 refine At.then_n ?_
 refine W.seq ?_
 refine W.seq ?_
 refine W.sub [(0, _)] ⟨rfl, trivial⟩ ?_
 refine W.reg [(0, false), (1, false), (2, false), (3, false), (4, false), (5, false), (6, false), (7, false), (8, false)] (by kernel_rfl) ?_
 intro K hK
 refine x_move rfl rfl rfl rfl ?_
 refine x_eqpn false rfl rfl rfl Tryz.underlying34 rfl rfl rfl ?_
 refine x_move rfl rfl rfl rfl ?_
 refine x_move rfl rfl rfl rfl ?_
 refine x_nil rfl rfl rfl rfl rfl ?_
 refine x_fa rfl rfl rfl fo90_1 rfl ?_
 refine x_ld rfl rfl rfl Tryz.underlying83 rfl rfl (cell_of hb rfl) ?_
 refine x_eqpn true rfl rfl rfl Tryz.underlying83 rfl rfl rfl ?_
 refine x_pickF rfl rfl rfl rfl rfl ?_
 refine Ex.done (hK _ _ ?_)
 refine At.then_n ?_
 refine W.condT rfl ?_
 refine W.seq ?_
 refine W.sub [] trivial ?_
 refine W.reg [(0, false)] (by kernel_rfl) ?_
 intro K hK
 refine x_assign rfl rfl rfl rfl ?_
 refine Ex.done (hK _ _ ?_)
 refine At.then_n ?_
 refine W.ret ?_
 refine At.then_r ?_
 refine At.ret1 (.tmp 2) rfl ⟨rfl, trivial⟩ ?_
 exact ⟨rfl, rfl⟩

set_option maxRecDepth 100000 in
theorem usedN_c {w0 : World}   : Ret Tryz.prog 18 #[.pointer none] w0 fun r w' => r = .int .i64 0 ∧ w0 = w' := by
 refine Ret.of_W Tryz.func18 rfl Tryz.ntmps18 rfl ?_
 refine W.seq ?_
 refine W.sub [(0, _)] ⟨rfl, trivial⟩ ?_
 refine W.reg [(0, false)] (by kernel_rfl) ?_
 intro K hK
 refine x_assign rfl rfl rfl rfl ?_
 refine Ex.done (hK _ _ ?_)
 refine At.then_n ?_
 refine W.seq ?_
 refine W.seq ?_
 refine W.sub [(0, _)] ⟨rfl, trivial⟩ ?_
 refine W.reg [(0, false), (1, false)] (by kernel_rfl) ?_
 intro K hK
 refine x_move rfl rfl rfl rfl ?_
 refine x_eqpn true rfl rfl rfl Tryz.underlying34 rfl rfl rfl ?_
 refine Ex.done (hK _ _ ?_)
 refine At.then_n ?_
 refine W.condT rfl ?_
 refine W.seq ?_
 refine W.sub [] trivial ?_
 refine W.reg [(0, false)] (by kernel_rfl) ?_
 intro K hK
 refine x_assign rfl rfl rfl rfl ?_
 refine Ex.done (hK _ _ ?_)
 refine At.then_n ?_
 refine W.ret ?_
 refine At.then_r ?_
 refine At.ret1 (.tmp 2) rfl ⟨rfl, trivial⟩ ?_
 exact ⟨rfl, rfl⟩

set_option maxRecDepth 100000 in
theorem usedZ_c {w0 : World} {bf : Nat} (hb : w0.heap[bf]? = some (.cells zF.toArray 90 (0, 0))) : Ret Tryz.prog 18 #[ptr bf] w0 fun r w' => r = .int .i64 0 ∧ w0 = w' := by
 refine Ret.of_W Tryz.func18 rfl Tryz.ntmps18 rfl ?_
 refine W.seq ?_
 refine W.sub [(0, _)] ⟨rfl, trivial⟩ ?_
 refine W.reg [(0, false)] (by kernel_rfl) ?_
 intro K hK
 refine x_assign rfl rfl rfl rfl ?_
 refine Ex.done (hK _ _ ?_)
 refine At.then_n ?_
 refine W.seq ?_
 refine W.seq ?_
 refine W.sub [(0, _)] ⟨rfl, trivial⟩ ?_
 refine W.reg [(0, false), (1, false)] (by kernel_rfl) ?_
 intro K hK
 refine x_move rfl rfl rfl rfl ?_
 refine x_eqpn false rfl rfl rfl Tryz.underlying34 rfl rfl rfl ?_
 refine Ex.done (hK _ _ ?_)
 refine At.then_n ?_
 refine W.condF rfl ?_
 refine W.skip ?_
 refine At.then_n ?_
 refine W.seq ?_
 refine W.sub [(0, _)] ⟨rfl, trivial⟩ ?_
 refine W.reg [(0, false), (1, false), (2, false), (3, false), (4, false)] (by kernel_rfl) ?_
 intro K hK
 refine x_move rfl rfl rfl rfl ?_
 refine x_nil rfl rfl rfl rfl rfl ?_
 refine x_fa rfl rfl rfl fo90_4 rfl ?_
 refine x_ld rfl rfl rfl Tryz.underlying3 rfl rfl (cell_of hb rfl) ?_
 refine x_assign rfl rfl rfl rfl ?_
 refine Ex.done (hK _ _ ?_)
 refine At.then_n ?_
 refine W.ret ?_
 refine At.ret1 (.tmp 2) rfl ⟨rfl, trivial⟩ ?_
 exact ⟨rfl, rfl⟩

set_option maxRecDepth 100000 in
theorem hdlsN_c {w0 : World} {who : Int}  : Ret Tryz.prog 22 #[.pointer none, .int .i64 who] w0 fun r w' => r = .slice none 0 0 ∧ w0 = w' := by
 refine Ret.of_W Tryz.func22 rfl Tryz.ntmps22 rfl ?_
 refine W.seq ?_
 refine W.sub [(0, _), (1, _)] ⟨rfl, rfl, trivial⟩ ?_
 refine W.reg [(0, false)] (by kernel_rfl) ?_
 intro K hK
 refine x_assign rfl rfl rfl rfl ?_
 refine Ex.done (hK _ _ ?_)
 refine At.then_n ?_
 refine W.seq ?_
 refine W.seq ?_
 refine W.sub [(0, _), (1, _)] ⟨rfl, rfl, trivial⟩ ?_
 refine W.reg [(0, false), (1, false), (2, false), (3, false), (4, false), (5, false), (6, false), (7, false), (8, false), (9, false)] (by kernel_rfl) ?_
 intro K hK
 refine x_move rfl rfl rfl rfl ?_
 refine x_eqpn true rfl rfl rfl Tryz.underlying34 rfl rfl rfl ?_
 refine x_move rfl rfl rfl rfl ?_
 refine Ex.skip_ rfl rfl rfl ?_
 refine Ex.skip_ rfl rfl rfl ?_
 refine x_pickT rfl rfl rfl rfl rfl ?_
 refine x_move rfl rfl rfl rfl ?_
 refine Ex.skip_ rfl rfl rfl ?_
 refine Ex.skip_ rfl rfl rfl ?_
 refine x_pickT rfl rfl rfl rfl rfl ?_
 refine Ex.done (hK _ _ ?_)
 refine At.then_n ?_
 refine W.condT rfl ?_
 refine W.seq ?_
 refine W.sub [] trivial ?_
 refine W.reg [(0, false)] (by kernel_rfl) ?_
 intro K hK
 refine x_assign rfl rfl rfl rfl ?_
 refine Ex.done (hK _ _ ?_)
 refine At.then_n ?_
 refine W.ret ?_
 refine At.then_r ?_
 refine At.ret1 (.tmp 4) rfl ⟨rfl, trivial⟩ ?_
 exact ⟨rfl, rfl⟩

set_option maxRecDepth 100000 in
theorem hdlsZ_c {w0 : World} {bf : Nat} {who : Int} (hb : w0.heap[bf]? = some (.cells zF.toArray 90 (0, 0))) : Ret Tryz.prog 22 #[ptr bf, .int .i64 who] w0 fun r w' => r = .slice none 0 0 ∧ New w0 w' := by
 have M : Sep w0 [] w0 := St.nil w0
 refine Ret.of_W Tryz.func22 rfl Tryz.ntmps22 rfl ?_
 refine W.seq ?_
 refine W.sub [(0, _), (1, _)] ⟨rfl, rfl, trivial⟩ ?_
 refine W.reg [(0, false)] (by kernel_rfl) ?_
 intro K hK
 refine x_assign rfl rfl rfl rfl ?_
 refine Ex.done (hK _ _ ?_)
 refine At.then_n ?_
 refine W.seq ?_
 refine W.seq ?_
 refine W.sub [(0, _), (1, _)] ⟨rfl, rfl, trivial⟩ ?_
 refine W.reg [(0, false), (1, false), (2, false), (3, false), (4, false), (5, false), (6, false), (7, false), (8, false), (9, false)] (by kernel_rfl) ?_
 intro K hK
 refine x_move rfl rfl rfl rfl ?_
 refine x_eqpn false rfl rfl rfl Tryz.underlying34 rfl rfl rfl ?_
 refine x_move rfl rfl rfl rfl ?_
 refine x_move rfl rfl rfl rfl ?_
 refine x_lss _ rfl rfl rfl rfl rfl rfl ?_
 refine x_pickF rfl rfl rfl rfl rfl ?_
 refine x_move rfl rfl rfl rfl ?_
 refine Ex.split 14 rfl (fun hsp1 => ?_) (fun hsp1 => ?_)
 ·
  try simp only [sA, sB, sC, sD, sE, sF, ne_eq, Bool.not_eq_eq_eq_not, Bool.not_true, Bool.not_false, sK, sL, Bool.not_not, gt_iff_lt, ge_iff_le] at hsp1
  refine Ex.skip_ rfl rfl rfl ?_
  refine Ex.skip_ rfl rfl rfl ?_
  refine x_pickT rfl rfl rfl rfl rfl ?_
  refine Ex.done (hK _ _ ?_)
  refine At.then_n ?_
  refine W.condT rfl ?_
  refine W.seq ?_
  refine W.sub [] trivial ?_
  refine W.reg [(0, false)] (by kernel_rfl) ?_
  intro K hK
  refine x_assign rfl rfl rfl rfl ?_
  refine Ex.done (hK _ _ ?_)
  refine At.then_n ?_
  refine W.ret ?_
  refine At.then_r ?_
  refine At.ret1 (.tmp 4) rfl ⟨rfl, trivial⟩ ?_
  exact ⟨rfl, M.frm⟩
 ·
  try simp only [sA, sB, sC, sD, sE, sF, ne_eq, Bool.not_eq_eq_eq_not, Bool.not_true, Bool.not_false, sK, sL, Bool.not_not, gt_iff_lt, ge_iff_le] at hsp1
  refine x_move rfl rfl rfl rfl ?_
  refine x_geq _ rfl rfl rfl rfl rfl rfl ?_
  refine x_pickF rfl rfl rfl rfl rfl ?_
  refine Ex.done (hK _ _ ?_)
  refine At.then_n ?_
  refine W.cond rfl (fun hco2 => ?_) (fun hco2 => ?_)
  ·try simp only [sA, sB, sC, sD, sE, sF, ne_eq, Bool.not_eq_eq_eq_not, Bool.not_true, Bool.not_false, sK, sL, Bool.not_not, gt_iff_lt, ge_iff_le] at hco2
   refine W.seq ?_
   refine W.sub [] trivial ?_
   refine W.reg [(0, false)] (by kernel_rfl) ?_
   intro K hK
   refine x_assign rfl rfl rfl rfl ?_
   refine Ex.done (hK _ _ ?_)
   refine At.then_n ?_
   refine W.ret ?_
   refine At.then_r ?_
   refine At.ret1 (.tmp 4) rfl ⟨rfl, trivial⟩ ?_
   exact ⟨rfl, M.frm⟩
  ·try simp only [sA, sB, sC, sD, sE, sF, ne_eq, Bool.not_eq_eq_eq_not, Bool.not_true, Bool.not_false, sK, sL, Bool.not_not, gt_iff_lt, ge_iff_le] at hco2
   obtain ⟨a, hwa⟩ : ∃ a : Nat, who = (a : Int) := ⟨who.toNat, by omega⟩
   have ha : a < 8 := by omega
   refine W.skip ?_
   refine At.then_n ?_
   refine W.seq ?_
   refine W.sub [(0, _), (1, _)] ⟨rfl, rfl, trivial⟩ ?_
   refine W.reg [(0, false)] (by kernel_rfl) ?_
   intro K hK
   refine x_assign rfl rfl rfl rfl ?_
   refine Ex.done (hK _ _ ?_)
   refine At.then_n ?_
   refine W.seq ?_
   refine W.seq ?_
   refine W.sub [(0, _), (1, _), (5, _)] ⟨rfl, rfl, rfl, trivial⟩ ?_
   refine W.reg [(0, false), (1, false), (2, true), (3, false), (4, false)] (by kernel_rfl) ?_
   intro K hK
   refine x_move rfl rfl rfl rfl ?_
   refine x_move rfl rfl rfl rfl ?_
   refine x_call rfl rfl rfl rfl rfl en49 (by have hc_ := handles_c (w0 := w0) (bf := bf) (who := a) (by omega); rw [← hwa] at hc_; exact hc_) ?_
   rintro r_ w_ ⟨rfl, rfl⟩
   refine ⟨trivial, ?_⟩
   refine x_len rfl rfl rfl rfl Tryz.underlying116 rfl ?_
   refine x_move rfl rfl rfl rfl ?_
   refine Ex.done (hK _ _ ?_)
   refine At.then_n ?_
   refine W.block ?_
   refine W.loop (σ := Nat) (fun i => [(5, .slice none 0 0), (20, _), (21, _), (22, .int .i64 ((i : Nat) : Int))]) (fun i w => i ≤ 16 ∧ Sep w0 [] w) (fun i => 16 - i) 0 ⟨rfl, rfl, rfl, rfl, trivial⟩ ⟨by omega, M⟩ ?_
   rintro i w ⟨hi16, M⟩
   refine W.seq ?_
   refine W.sub [(5, _), (20, _), (21, _), (22, _)] ⟨rfl, rfl, rfl, rfl, trivial⟩ ?_
   refine W.reg [(0, false)] (by kernel_rfl) ?_
   intro K hK
   refine x_lss _ rfl rfl rfl rfl rfl rfl ?_
   refine Ex.done (hK _ _ ?_)
   refine At.then_n ?_
   refine W.seq ?_
   refine W.cond rfl (fun hco3 => ?_) (fun hco3 => ?_)
   ·try simp only [sA, sB, sC, sD, sE, sF, ne_eq, Bool.not_eq_eq_eq_not, Bool.not_true, Bool.not_false, sK, sL, Bool.not_not, gt_iff_lt, ge_iff_le] at hco3
    have hrow := (z_row (off := 0 + 3 + a * 32) ha (New.keep M.frm hb) (by omega)).row (j := i) (l := [strV [], .bool false]) rfl (flat_drop (m := 2) (e1 := fun h : Hd => [strV h.1, .bool h.2]) (by decide) (fun _ _ => rfl) (zH_row ha (by omega))) (by simp)
    refine W.skip ?_
    refine At.then_n ?_
    refine W.seq ?_
    refine W.block ?_
    refine W.seq ?_
    refine W.sub [(5, _), (20, _), (21, _), (22, _)] ⟨rfl, rfl, rfl, rfl, trivial⟩ ?_
    refine W.reg [(0, false), (1, false), (2, false), (3, true), (4, false), (5, true)] (by kernel_rfl) ?_
    intro K hK
    refine x_move rfl rfl rfl rfl ?_
    refine x_ia i rfl rfl rfl Tryz.underlying116 sz86 rfl rfl rfl (by omega) ?_
    refine x_ldA [_, _] rfl rfl rfl Tryz.underlying86 rfl sz86 rfl rfl hrow ?_
    refine x_alloc [_, _] rfl rfl rfl ze86 rfl ?_
    intro bal1 wal1 hbal1 hwal1
    have M := M.acons hbal1 hwal1
    refine ⟨trivial, ?_⟩
    refine x_assign rfl rfl rfl rfl ?_
    refine x_st [_, _] _ rfl rfl rfl sz86 rfl rfl rfl rfl (by first | exact M.at_ 0 rfl | exact M.at_ 1 rfl | exact M.at_ 2 rfl | exact M.at_ 3 rfl | exact M.at_ 4 rfl | exact M.at_ 5 rfl | exact M.at_ 6 rfl | exact M.at_ 7 rfl) rfl rfl rfl ?_
    intro wst1 hwst1
    have M := by first | exact M.put 0 rfl hwst1 | exact M.put 1 rfl hwst1 | exact M.put 2 rfl hwst1 | exact M.put 3 rfl hwst1 | exact M.put 4 rfl hwst1 | exact M.put 5 rfl hwst1 | exact M.put 6 rfl hwst1 | exact M.put 7 rfl hwst1
    refine ⟨trivial, ?_⟩
    refine Ex.done (hK _ _ ?_)
    refine At.then_n ?_
    refine W.seq ?_
    refine W.sub [(5, _), (6, _), (7, _), (20, _), (21, _), (22, _)] ⟨rfl, rfl, rfl, rfl, rfl, rfl, trivial⟩ ?_
    refine W.reg [(0, false), (1, false), (2, false)] (by kernel_rfl) ?_
    intro K hK
    refine x_fa rfl rfl rfl fo86_0 rfl ?_
    refine x_ld rfl rfl rfl Tryz.underlying9 rfl rfl (cell_of (by first | exact M.at_ 0 rfl | exact M.at_ 1 rfl | exact M.at_ 2 rfl | exact M.at_ 3 rfl | exact M.at_ 4 rfl | exact M.at_ 5 rfl | exact M.at_ 6 rfl | exact M.at_ 7 rfl) rfl) ?_
    refine x_neS false rfl rfl rfl rfl rfl rfl ?_
    refine Ex.done (hK _ _ ?_)
    refine At.then_n ?_
    refine W.condF rfl ?_
    refine W.skip ?_
    refine At.blk_n ?_
    refine At.then_n ?_
    refine W.sub [(5, _), (20, _), (21, _), (22, _)] ⟨rfl, rfl, rfl, rfl, trivial⟩ ?_
    refine W.reg [(0, false), (1, false)] (by kernel_rfl) ?_
    intro K hK
    refine x_add _ rfl rfl rfl rfl rfl (wadd (by omega) (by omega)) ?_
    refine x_move rfl rfl rfl rfl ?_
    refine Ex.done (hK _ _ ?_)
    exact At.back (i + 1) ⟨rfl, rfl, rfl, rfl, trivial⟩ ⟨by omega, M.tail⟩ (by first | omega | (simp only; omega) | (simp; done) | (simp; omega))
   ·try simp only [sA, sB, sC, sD, sE, sF, ne_eq, Bool.not_eq_eq_eq_not, Bool.not_true, Bool.not_false, sK, sL, Bool.not_not, gt_iff_lt, ge_iff_le] at hco3
    refine W.exit ?_
    refine At.then_x ?_
    refine At.loop_x ?_
    refine At.blk_x ?_
    refine At.then_n ?_
    refine W.seq ?_
    refine W.sub [(5, _)] ⟨rfl, trivial⟩ ?_
    refine W.reg [(0, false), (1, false)] (by kernel_rfl) ?_
    intro K hK
    refine x_move rfl rfl rfl rfl ?_
    refine x_assign rfl rfl rfl rfl ?_
    refine Ex.done (hK _ _ ?_)
    refine At.then_n ?_
    refine W.ret ?_
    refine At.ret1 (.tmp 4) rfl ⟨rfl, trivial⟩ ?_
    exact ⟨rfl, M.frm⟩

set_option maxRecDepth 100000 in
theorem handleZ_c {w0 : World} {bf : Nat} {who n : Int} (hb : w0.heap[bf]? = some (.cells zF.toArray 90 (0, 0))) : Ret Tryz.prog 43 #[ptr bf, .int .i64 who, .int .i64 n] w0 fun r w' => r = .pointer none ∧ w0 = w' := by
 refine Ret.of_W Tryz.func43 rfl Tryz.ntmps43 rfl ?_
 refine W.seq ?_
 refine W.sub [(0, _), (1, _), (2, _)] ⟨rfl, rfl, rfl, trivial⟩ ?_
 refine W.reg [(0, false)] (by kernel_rfl) ?_
 intro K hK
 refine x_assign rfl rfl rfl rfl ?_
 refine Ex.done (hK _ _ ?_)
 refine At.then_n ?_
 refine W.seq ?_
 refine W.seq ?_
 refine W.sub [(0, _), (1, _), (2, _)] ⟨rfl, rfl, rfl, trivial⟩ ?_
 refine W.reg [(0, false), (1, false), (2, false), (3, false), (4, false), (5, false), (6, false), (7, false), (8, false), (9, false), (10, false), (11, false), (12, false), (13, false), (14, false), (15, false), (16, false), (17, false), (18, false), (19, false), (20, false), (21, false), (22, false), (23, false), (24, false), (25, false), (26, false)] (by kernel_rfl) ?_
 intro K hK
 refine x_move rfl rfl rfl rfl ?_
 refine x_lss _ rfl rfl rfl rfl rfl rfl ?_
 refine x_move rfl rfl rfl rfl ?_
 refine Ex.split 9 rfl (fun hsp1 => ?_) (fun hsp1 => ?_)
 ·
  try simp only [sA, sB, sC, sD, sE, sF, ne_eq, Bool.not_eq_eq_eq_not, Bool.not_true, Bool.not_false, sK, sL, Bool.not_not, gt_iff_lt, ge_iff_le] at hsp1
  refine Ex.skip_ rfl rfl rfl ?_
  refine Ex.skip_ rfl rfl rfl ?_
  refine x_pickT rfl rfl rfl rfl rfl ?_
  refine x_move rfl rfl rfl rfl ?_
  refine Ex.skip_ rfl rfl rfl ?_
  refine Ex.skip_ rfl rfl rfl ?_
  refine x_pickT rfl rfl rfl rfl rfl ?_
  refine x_move rfl rfl rfl rfl ?_
  refine Ex.skip_ rfl rfl rfl ?_
  refine Ex.skip_ rfl rfl rfl ?_
  refine x_pickT rfl rfl rfl rfl rfl ?_
  refine x_move rfl rfl rfl rfl ?_
  refine Ex.skip_ rfl rfl rfl ?_
  refine Ex.skip_ rfl rfl rfl ?_
  refine Ex.skip_ rfl rfl rfl ?_
  refine Ex.skip_ rfl rfl rfl ?_
  refine Ex.skip_ rfl rfl rfl ?_
  refine Ex.skip_ rfl rfl rfl ?_
  refine Ex.skip_ rfl rfl rfl ?_
  refine Ex.skip_ rfl rfl rfl ?_
  refine Ex.skip_ rfl rfl rfl ?_
  refine Ex.skip_ rfl rfl rfl ?_
  refine Ex.skip_ rfl rfl rfl ?_
  refine x_pickT rfl rfl rfl rfl rfl ?_
  refine Ex.done (hK _ _ ?_)
  refine At.then_n ?_
  refine W.condT rfl ?_
  refine W.seq ?_
  refine W.sub [] trivial ?_
  refine W.reg [(0, false)] (by kernel_rfl) ?_
  intro K hK
  refine x_assign rfl rfl rfl rfl ?_
  refine Ex.done (hK _ _ ?_)
  refine At.then_n ?_
  refine W.ret ?_
  refine At.then_r ?_
  refine At.ret1 (.tmp 6) rfl ⟨rfl, trivial⟩ ?_
  exact ⟨rfl, rfl⟩
 ·
  try simp only [sA, sB, sC, sD, sE, sF, ne_eq, Bool.not_eq_eq_eq_not, Bool.not_true, Bool.not_false, sK, sL, Bool.not_not, gt_iff_lt, ge_iff_le] at hsp1
  refine x_move rfl rfl rfl rfl ?_
  refine x_geq _ rfl rfl rfl rfl rfl rfl ?_
  refine x_pickF rfl rfl rfl rfl rfl ?_
  refine x_move rfl rfl rfl rfl ?_
  refine Ex.split 13 rfl (fun hsp2 => ?_) (fun hsp2 => ?_)
  ·
   try simp only [sA, sB, sC, sD, sE, sF, ne_eq, Bool.not_eq_eq_eq_not, Bool.not_true, Bool.not_false, sK, sL, Bool.not_not, gt_iff_lt, ge_iff_le] at hsp2
   refine Ex.skip_ rfl rfl rfl ?_
   refine Ex.skip_ rfl rfl rfl ?_
   refine x_pickT rfl rfl rfl rfl rfl ?_
   refine x_move rfl rfl rfl rfl ?_
   refine Ex.skip_ rfl rfl rfl ?_
   refine Ex.skip_ rfl rfl rfl ?_
   refine x_pickT rfl rfl rfl rfl rfl ?_
   refine x_move rfl rfl rfl rfl ?_
   refine Ex.skip_ rfl rfl rfl ?_
   refine Ex.skip_ rfl rfl rfl ?_
   refine Ex.skip_ rfl rfl rfl ?_
   refine Ex.skip_ rfl rfl rfl ?_
   refine Ex.skip_ rfl rfl rfl ?_
   refine Ex.skip_ rfl rfl rfl ?_
   refine Ex.skip_ rfl rfl rfl ?_
   refine Ex.skip_ rfl rfl rfl ?_
   refine Ex.skip_ rfl rfl rfl ?_
   refine Ex.skip_ rfl rfl rfl ?_
   refine Ex.skip_ rfl rfl rfl ?_
   refine x_pickT rfl rfl rfl rfl rfl ?_
   refine Ex.done (hK _ _ ?_)
   refine At.then_n ?_
   refine W.condT rfl ?_
   refine W.seq ?_
   refine W.sub [] trivial ?_
   refine W.reg [(0, false)] (by kernel_rfl) ?_
   intro K hK
   refine x_assign rfl rfl rfl rfl ?_
   refine Ex.done (hK _ _ ?_)
   refine At.then_n ?_
   refine W.ret ?_
   refine At.then_r ?_
   refine At.ret1 (.tmp 6) rfl ⟨rfl, trivial⟩ ?_
   exact ⟨rfl, rfl⟩
  ·
   try simp only [sA, sB, sC, sD, sE, sF, ne_eq, Bool.not_eq_eq_eq_not, Bool.not_true, Bool.not_false, sK, sL, Bool.not_not, gt_iff_lt, ge_iff_le] at hsp2
   refine x_move rfl rfl rfl rfl ?_
   refine x_lss _ rfl rfl rfl rfl rfl rfl ?_
   refine x_pickF rfl rfl rfl rfl rfl ?_
   refine x_move rfl rfl rfl rfl ?_
   refine Ex.split 17 rfl (fun hsp3 => ?_) (fun hsp3 => ?_)
   ·
    try simp only [sA, sB, sC, sD, sE, sF, ne_eq, Bool.not_eq_eq_eq_not, Bool.not_true, Bool.not_false, sK, sL, Bool.not_not, gt_iff_lt, ge_iff_le] at hsp3
    refine Ex.skip_ rfl rfl rfl ?_
    refine Ex.skip_ rfl rfl rfl ?_
    refine x_pickT rfl rfl rfl rfl rfl ?_
    refine x_move rfl rfl rfl rfl ?_
    refine Ex.skip_ rfl rfl rfl ?_
    refine Ex.skip_ rfl rfl rfl ?_
    refine Ex.skip_ rfl rfl rfl ?_
    refine Ex.skip_ rfl rfl rfl ?_
    refine Ex.skip_ rfl rfl rfl ?_
    refine Ex.skip_ rfl rfl rfl ?_
    refine Ex.skip_ rfl rfl rfl ?_
    refine Ex.skip_ rfl rfl rfl ?_
    refine Ex.skip_ rfl rfl rfl ?_
    refine Ex.skip_ rfl rfl rfl ?_
    refine Ex.skip_ rfl rfl rfl ?_
    refine x_pickT rfl rfl rfl rfl rfl ?_
    refine Ex.done (hK _ _ ?_)
    refine At.then_n ?_
    refine W.condT rfl ?_
    refine W.seq ?_
    refine W.sub [] trivial ?_
    refine W.reg [(0, false)] (by kernel_rfl) ?_
    intro K hK
    refine x_assign rfl rfl rfl rfl ?_
    refine Ex.done (hK _ _ ?_)
    refine At.then_n ?_
    refine W.ret ?_
    refine At.then_r ?_
    refine At.ret1 (.tmp 6) rfl ⟨rfl, trivial⟩ ?_
    exact ⟨rfl, rfl⟩
   ·
    try simp only [sA, sB, sC, sD, sE, sF, ne_eq, Bool.not_eq_eq_eq_not, Bool.not_true, Bool.not_false, sK, sL, Bool.not_not, gt_iff_lt, ge_iff_le] at hsp3
    refine x_move rfl rfl rfl rfl ?_
    refine x_gtr _ rfl rfl rfl rfl rfl rfl ?_
    refine x_pickF rfl rfl rfl rfl rfl ?_
    refine x_move rfl rfl rfl rfl ?_
    refine Ex.split 21 rfl (fun hsp4 => ?_) (fun hsp4 => ?_)
    ·
     try simp only [sA, sB, sC, sD, sE, sF, ne_eq, Bool.not_eq_eq_eq_not, Bool.not_true, Bool.not_false, sK, sL, Bool.not_not, gt_iff_lt, ge_iff_le] at hsp4
     refine Ex.skip_ rfl rfl rfl ?_
     refine Ex.skip_ rfl rfl rfl ?_
     refine Ex.skip_ rfl rfl rfl ?_
     refine Ex.skip_ rfl rfl rfl ?_
     refine Ex.skip_ rfl rfl rfl ?_
     refine Ex.skip_ rfl rfl rfl ?_
     refine Ex.skip_ rfl rfl rfl ?_
     refine Ex.skip_ rfl rfl rfl ?_
     refine Ex.skip_ rfl rfl rfl ?_
     refine Ex.skip_ rfl rfl rfl ?_
     refine Ex.skip_ rfl rfl rfl ?_
     refine x_pickT rfl rfl rfl rfl rfl ?_
     refine Ex.done (hK _ _ ?_)
     refine At.then_n ?_
     refine W.condT rfl ?_
     refine W.seq ?_
     refine W.sub [] trivial ?_
     refine W.reg [(0, false)] (by kernel_rfl) ?_
     intro K hK
     refine x_assign rfl rfl rfl rfl ?_
     refine Ex.done (hK _ _ ?_)
     refine At.then_n ?_
     refine W.ret ?_
     refine At.then_r ?_
     refine At.ret1 (.tmp 6) rfl ⟨rfl, trivial⟩ ?_
     exact ⟨rfl, rfl⟩
    ·
     try simp only [sA, sB, sC, sD, sE, sF, ne_eq, Bool.not_eq_eq_eq_not, Bool.not_true, Bool.not_false, sK, sL, Bool.not_not, gt_iff_lt, ge_iff_le] at hsp4
     obtain ⟨a, rfl⟩ : ∃ a : Nat, who = a := ⟨who.toNat, by omega⟩
     obtain ⟨i, rfl⟩ : ∃ i : Nat, n = (i : Int) + 1 := ⟨(n - 1).toNat, by omega⟩
     refine x_move rfl rfl rfl rfl ?_
     refine x_move rfl rfl rfl rfl ?_
     refine x_move rfl rfl rfl rfl ?_
     refine x_sub (i : Int) rfl rfl rfl rfl rfl (by rw [wsub (by omega) (by omega)]; omega) ?_
     refine x_nil rfl rfl rfl rfl rfl ?_
     refine x_fa rfl rfl rfl fo90_3 rfl ?_
     refine x_iaA a rfl rfl rfl Tryz.underlying88 sz87 rfl rfl rfl (by omega) ?_
     refine x_iaA i rfl rfl rfl Tryz.underlying87 sz86 rfl rfl rfl (by omega) ?_
     refine x_fa rfl rfl rfl fo86_0 rfl ?_
     refine x_ld rfl rfl rfl Tryz.underlying9 rfl rfl (cell_of hb (zF_h0 (j := 16 * a + i) (by omega) (by omega))) ?_
     refine x_eqS true rfl rfl rfl rfl rfl rfl ?_
     refine x_pickF rfl rfl rfl rfl rfl ?_
     refine Ex.done (hK _ _ ?_)
     refine At.then_n ?_
     refine W.condT rfl ?_
     refine W.seq ?_
     refine W.sub [] trivial ?_
     refine W.reg [(0, false)] (by kernel_rfl) ?_
     intro K hK
     refine x_assign rfl rfl rfl rfl ?_
     refine Ex.done (hK _ _ ?_)
     refine At.then_n ?_
     refine W.ret ?_
     refine At.then_r ?_
     refine At.ret1 (.tmp 6) rfl ⟨rfl, trivial⟩ ?_
     exact ⟨rfl, rfl⟩

set_option maxRecDepth 100000 in
theorem ffileN_c {w0 : World} {who n : Int}  : Ret Tryz.prog 21 #[.pointer none, .int .i64 who, .int .i64 n] w0 fun r w' => r = strV [] ∧ w0 = w' := by
 refine Ret.of_W Tryz.func21 rfl Tryz.ntmps21 rfl ?_
 refine W.seq ?_
 refine W.sub [(0, _), (1, _), (2, _)] ⟨rfl, rfl, rfl, trivial⟩ ?_
 refine W.reg [(0, false)] (by kernel_rfl) ?_
 intro K hK
 refine x_assign rfl rfl rfl rfl ?_
 refine Ex.done (hK _ _ ?_)
 refine At.then_n ?_
 refine W.seq ?_
 refine W.seq ?_
 refine W.sub [(0, _), (1, _), (2, _)] ⟨rfl, rfl, rfl, trivial⟩ ?_
 refine W.reg [(0, false), (1, false)] (by kernel_rfl) ?_
 intro K hK
 refine x_move rfl rfl rfl rfl ?_
 refine x_eqpn true rfl rfl rfl Tryz.underlying34 rfl rfl rfl ?_
 refine Ex.done (hK _ _ ?_)
 refine At.then_n ?_
 refine W.condT rfl ?_
 refine W.seq ?_
 refine W.sub [] trivial ?_
 refine W.reg [(0, false)] (by kernel_rfl) ?_
 intro K hK
 refine x_assign rfl rfl rfl rfl ?_
 refine Ex.done (hK _ _ ?_)
 refine At.then_n ?_
 refine W.ret ?_
 refine At.then_r ?_
 refine At.ret1 (.tmp 6) rfl ⟨rfl, trivial⟩ ?_
 exact ⟨rfl, rfl⟩

set_option maxRecDepth 100000 in
theorem ffileZ_c {w0 : World} {bf : Nat} {who n : Int} (hb : w0.heap[bf]? = some (.cells zF.toArray 90 (0, 0))) : Ret Tryz.prog 21 #[ptr bf, .int .i64 who, .int .i64 n] w0 fun r w' => r = strV [] ∧ w0 = w' := by
 refine Ret.of_W Tryz.func21 rfl Tryz.ntmps21 rfl ?_
 refine W.seq ?_
 refine W.sub [(0, _), (1, _), (2, _)] ⟨rfl, rfl, rfl, trivial⟩ ?_
 refine W.reg [(0, false)] (by kernel_rfl) ?_
 intro K hK
 refine x_assign rfl rfl rfl rfl ?_
 refine Ex.done (hK _ _ ?_)
 refine At.then_n ?_
 refine W.seq ?_
 refine W.seq ?_
 refine W.sub [(0, _), (1, _), (2, _)] ⟨rfl, rfl, rfl, trivial⟩ ?_
 refine W.reg [(0, false), (1, false)] (by kernel_rfl) ?_
 intro K hK
 refine x_move rfl rfl rfl rfl ?_
 refine x_eqpn false rfl rfl rfl Tryz.underlying34 rfl rfl rfl ?_
 refine Ex.done (hK _ _ ?_)
 refine At.then_n ?_
 refine W.condF rfl ?_
 refine W.skip ?_
 refine At.then_n ?_
 refine W.seq ?_
 refine W.seq ?_
 refine W.sub [(0, _), (1, _), (2, _)] ⟨rfl, rfl, rfl, trivial⟩ ?_
 refine W.reg [(0, false), (1, false), (2, false), (3, true), (4, false)] (by kernel_rfl) ?_
 intro K hK
 refine x_move rfl rfl rfl rfl ?_
 refine x_move rfl rfl rfl rfl ?_
 refine x_move rfl rfl rfl rfl ?_
 refine x_call rfl rfl rfl rfl rfl en43 (handleZ_c hb) ?_
 rintro r_ w_ ⟨rfl, rfl⟩
 refine ⟨trivial, ?_⟩
 refine x_assign rfl rfl rfl rfl ?_
 refine Ex.done (hK _ _ ?_)
 refine At.then_n ?_
 refine W.seq ?_
 refine W.sub [(7, _)] ⟨rfl, trivial⟩ ?_
 refine W.reg [(0, false), (1, false)] (by kernel_rfl) ?_
 intro K hK
 refine x_move rfl rfl rfl rfl ?_
 refine x_nepn false rfl rfl rfl Tryz.underlying109 rfl rfl rfl ?_
 refine Ex.done (hK _ _ ?_)
 refine At.then_n ?_
 refine W.condF rfl ?_
 refine W.skip ?_
 refine At.then_n ?_
 refine W.seq ?_
 refine W.sub [] trivial ?_
 refine W.reg [(0, false)] (by kernel_rfl) ?_
 intro K hK
 refine x_assign rfl rfl rfl rfl ?_
 refine Ex.done (hK _ _ ?_)
 refine At.then_n ?_
 refine W.ret ?_
 refine At.ret1 (.tmp 6) rfl ⟨rfl, trivial⟩ ?_
 exact ⟨rfl, rfl⟩

set_option maxRecDepth 100000 in
theorem newN_c {w0 : World}   : Ret Tryz.prog 13 #[.slice none 0 0, .nilIface] w0 fun r w' => r = .tuple #[.pointer none, .int .i64 1] ∧ w0 = w' := by
 refine Ret.of_W Tryz.func13 rfl Tryz.ntmps13 rfl ?_
 refine W.seq ?_
 refine W.sub [(0, _), (1, _)] ⟨rfl, rfl, trivial⟩ ?_
 refine W.reg [(0, false), (1, false)] (by kernel_rfl) ?_
 intro K hK
 refine x_assign rfl rfl rfl rfl ?_
 refine x_assign rfl rfl rfl rfl ?_
 refine Ex.done (hK _ _ ?_)
 refine At.then_n ?_
 refine W.seq ?_
 refine W.seq ?_
 refine W.sub [(0, _), (1, _)] ⟨rfl, rfl, trivial⟩ ?_
 refine W.reg [(0, false), (1, false)] (by kernel_rfl) ?_
 intro K hK
 refine x_move rfl rfl rfl rfl ?_
 refine x_eqif true rfl rfl rfl Tryz.underlying82 rfl rfl rfl ?_
 refine Ex.done (hK _ _ ?_)
 refine At.then_n ?_
 refine W.condT rfl ?_
 refine W.seq ?_
 refine W.sub [] trivial ?_
 refine W.reg [(0, false), (1, false)] (by kernel_rfl) ?_
 intro K hK
 refine x_assign rfl rfl rfl rfl ?_
 refine x_assign rfl rfl rfl rfl ?_
 refine Ex.done (hK _ _ ?_)
 refine At.then_n ?_
 refine W.ret ?_
 refine At.then_r ?_
 refine At.ret2 (.tmp 4) (.tmp 5) rfl ⟨rfl, rfl, trivial⟩ ?_
 exact ⟨rfl, rfl⟩
end Go.Proofs.YtigfbpbnohkokaaGreat

namespace Go.Proofs.YtigfbpbnohkokaaGreat
open Go Go.Fw Go.RowKit Go.Proofs
set_option linter.unusedVariables false
set_option linter.unusedSimpArgs false

set_option maxRecDepth 100000 in
theorem overlayNil_c {w0 : World} {dv : Value} {who : Int} {o : OpS} {b : Bool} (hd : BytesAt w0 dv o.d) : Ret Tryz.prog 10 #[.int .i64 who, .agg (opC o dv).toArray, .bool b] w0 fun r w' => r = .bool true ∧ New w0 w' := by
 have M : Sep w0 [] w0 := St.nil w0
 refine Ret.of_W Tryz.func10 rfl Tryz.ntmps10 rfl ?_
 refine W.seq ?_
 refine W.sub [(0, _), (1, _), (2, _)] ⟨rfl, rfl, rfl, trivial⟩ ?_
 refine W.reg [(0, true), (1, false)] (by kernel_rfl) ?_
 intro K hK
 refine x_box [_, _, _, _, _, _, _, _, _] rfl rfl rfl rfl rfl ?_
 intro bbx1 wbx1 hbbx1 hwbx1
 have M := M.acons hbbx1 hwbx1
 refine ⟨trivial, ?_⟩
 refine x_assign rfl rfl rfl rfl ?_
 refine Ex.done (hK _ _ ?_)
 refine At.then_n ?_
 refine W.seq ?_
 refine W.sub [(0, _), (2, _), (4, _)] ⟨rfl, rfl, rfl, trivial⟩ ?_
 refine W.reg [(0, false)] (by kernel_rfl) ?_
 intro K hK
 refine x_assign rfl rfl rfl rfl ?_
 refine Ex.done (hK _ _ ?_)
 refine At.then_n ?_
 refine W.seq ?_
 refine W.sub [(0, _), (2, _), (4, _), (7, _)] ⟨rfl, rfl, rfl, rfl, trivial⟩ ?_
 refine W.reg [(0, false), (1, true), (2, false), (3, false), (4, false), (5, false), (6, false)] (by kernel_rfl) ?_
 intro K hK
 refine x_move rfl rfl rfl rfl ?_
 refine x_call rfl rfl rfl rfl rfl en13 (newN_c) ?_
 rintro r_ w1 ⟨rfl, rfl⟩
 refine ⟨trivial, ?_⟩
 refine x_move rfl rfl rfl rfl ?_
 refine x_ext rfl rfl rfl rfl rfl ?_
 refine x_ext rfl rfl rfl rfl rfl ?_
 refine x_assign rfl rfl rfl rfl ?_
 refine x_assign rfl rfl rfl rfl ?_
 refine Ex.done (hK _ _ ?_)
 refine At.then_n ?_
 refine W.seq ?_
 refine W.sub [(0, _), (2, _), (4, _), (8, _), (9, _)] ⟨rfl, rfl, rfl, rfl, rfl, trivial⟩ ?_
 refine W.reg [(0, false)] (by kernel_rfl) ?_
 intro K hK
 refine x_assign rfl rfl rfl rfl ?_
 refine Ex.done (hK _ _ ?_)
 refine At.then_n ?_
 refine W.seq ?_
 refine W.seq ?_
 refine W.sub [(0, _), (2, _), (4, _), (8, _), (9, _), (10, _)] ⟨rfl, rfl, rfl, rfl, rfl, rfl, trivial⟩ ?_
 refine W.reg [(0, false)] (by kernel_rfl) ?_
 intro K hK
 refine x_move rfl rfl rfl rfl ?_
 refine Ex.done (hK _ _ ?_)
 refine At.then_n ?_
 refine W.cond rfl (fun hco1 => ?_) (fun hco1 => ?_)
 ·try simp only [sA, sB, sC, sD, sE, sF, ne_eq, Bool.not_eq_eq_eq_not, Bool.not_true, Bool.not_false, sK, sL, Bool.not_not, gt_iff_lt, ge_iff_le] at hco1
  refine W.sub [(0, _), (4, _), (8, _), (9, _)] ⟨rfl, rfl, rfl, rfl, trivial⟩ ?_
  refine W.reg [(0, false), (1, true), (2, false)] (by kernel_rfl) ?_
  intro K hK
  refine x_build zF rfl rfl rfl pl90 ze90 rfl rfl rfl ?_
  refine x_box zF rfl rfl rfl rfl rfl ?_
  intro bbx2 wbx2 hbbx2 hwbx2
  have M := M.acons hbbx2 hwbx2
  refine ⟨trivial, ?_⟩
  refine x_assign rfl rfl rfl rfl ?_
  refine Ex.done (hK _ _ ?_)
  refine At.then_n ?_
  refine W.seq ?_
  refine W.sub [(0, _), (4, _), (8, _), (9, _), (10, _)] ⟨rfl, rfl, rfl, rfl, rfl, trivial⟩ ?_
  refine W.reg [(0, false), (1, false), (2, false), (3, true), (4, true), (5, true)] (by kernel_rfl) ?_
  intro K hK
  refine x_move rfl rfl rfl rfl ?_
  refine x_move rfl rfl rfl rfl ?_
  refine x_ldA [_, _, _, _, _, _, _, _, _] rfl rfl rfl Tryz.underlying52 rfl sz52 rfl rfl ⟨_, _, _, (by first | exact M.at_ 0 rfl | exact M.at_ 1 rfl | exact M.at_ 2 rfl | exact M.at_ 3 rfl | exact M.at_ 4 rfl | exact M.at_ 5 rfl | exact M.at_ 6 rfl | exact M.at_ 7 rfl), rfl⟩ ?_
  refine x_call rfl rfl rfl rfl rfl en16 (doZ_c (o := o) (by first | exact M.at_ 0 rfl | exact M.at_ 1 rfl | exact M.at_ 2 rfl)) ?_
  rintro r_ w2 ⟨rfl, hn2⟩
  have M := M.new hn2
  refine ⟨trivial, ?_⟩
  refine x_alloc [_, _, _, _, _] rfl rfl rfl ze49 rfl ?_
  intro bal1 wal1 hbal1 hwal1
  have M := M.acons hbal1 hwal1
  refine ⟨trivial, ?_⟩
  refine x_st [_, _, _, _, _] _ rfl rfl rfl sz49 rfl rfl rfl rfl (by first | exact M.at_ 0 rfl | exact M.at_ 1 rfl | exact M.at_ 2 rfl | exact M.at_ 3 rfl | exact M.at_ 4 rfl | exact M.at_ 5 rfl | exact M.at_ 6 rfl | exact M.at_ 7 rfl) rfl rfl rfl ?_
  intro wst1 hwst1
  have M := by first | exact M.put 0 rfl hwst1 | exact M.put 1 rfl hwst1 | exact M.put 2 rfl hwst1 | exact M.put 3 rfl hwst1 | exact M.put 4 rfl hwst1 | exact M.put 5 rfl hwst1 | exact M.put 6 rfl hwst1 | exact M.put 7 rfl hwst1
  refine ⟨trivial, ?_⟩
  refine Ex.done (hK _ _ ?_)
  refine At.then_n ?_
  refine W.seq ?_
  refine W.sub [(0, _), (4, _), (8, _), (9, _), (10, _), (11, _)] ⟨rfl, rfl, rfl, rfl, rfl, rfl, trivial⟩ ?_
  refine W.reg [(0, false), (1, false), (2, false), (3, false), (4, false), (5, false), (6, false), (7, false), (8, false), (9, true), (10, false), (11, false), (12, false), (13, true), (14, false), (15, false), (16, false), (17, false), (18, false), (19, true), (20, false), (21, false), (22, false), (23, false), (24, false), (25, true), (26, false), (27, false), (28, false), (29, false), (30, false), (31, false), (32, false), (33, false), (34, true), (35, false), (36, false), (37, false), (38, true), (39, false), (40, false)] (by kernel_rfl) ?_
  intro K hK
  refine x_move rfl rfl rfl rfl ?_
  refine x_eqpn true rfl rfl rfl Tryz.underlying34 rfl rfl rfl ?_
  refine x_move rfl rfl rfl rfl ?_
  refine x_move rfl rfl rfl rfl ?_
  refine x_eqi true rfl rfl rfl rfl rfl rfl ?_
  refine x_pickT rfl rfl rfl rfl rfl ?_
  refine x_move rfl rfl rfl rfl ?_
  refine x_ldA [_, _, _, _, _] rfl rfl rfl Tryz.underlying49 rfl sz49 rfl rfl ⟨_, _, _, (by first | exact M.at_ 0 rfl | exact M.at_ 1 rfl | exact M.at_ 2 rfl | exact M.at_ 3 rfl | exact M.at_ 4 rfl | exact M.at_ 5 rfl | exact M.at_ 6 rfl | exact M.at_ 7 rfl), rfl⟩ ?_
  refine x_build [_, _, _, _, _] rfl rfl rfl pl49 ze49 rfl rfl rfl ?_
  refine x_call rfl rfl rfl rfl rfl en26 (rsame_c (a := badS 1) (b := badS 1) (.inr (.inl ⟨rfl, rfl, rfl⟩)) (.inr (.inl ⟨rfl, rfl, rfl⟩)) (.inr (.inl ⟨rfl, rfl, rfl⟩)) (.inr (.inl ⟨rfl, rfl, rfl⟩)) (by decide)) ?_
  rintro r_ w3 ⟨rfl, hn3⟩
  have M := M.new hn3
  rw [decide_eq_true rfl]
  refine ⟨trivial, ?_⟩
  refine x_pickT rfl rfl rfl rfl rfl ?_
  refine x_move rfl rfl rfl rfl ?_
  refine x_move rfl rfl rfl rfl ?_
  refine x_call rfl rfl rfl rfl rfl en17 (filesZ_c (by first | exact M.at_ 0 rfl | exact M.at_ 1 rfl | exact M.at_ 2 rfl)) ?_
  rintro r_ w_ ⟨rfl, rfl⟩
  refine ⟨trivial, ?_⟩
  refine x_len rfl rfl rfl rfl Tryz.underlying24 rfl ?_
  refine x_eqi true rfl rfl rfl rfl rfl rfl ?_
  refine x_pickT rfl rfl rfl rfl rfl ?_
  refine x_move rfl rfl rfl rfl ?_
  refine x_move rfl rfl rfl rfl ?_
  refine x_call rfl rfl rfl rfl rfl en18 (usedZ_c (by first | exact M.at_ 0 rfl | exact M.at_ 1 rfl | exact M.at_ 2 rfl)) ?_
  rintro r_ w_ ⟨rfl, rfl⟩
  refine ⟨trivial, ?_⟩
  refine x_eqi true rfl rfl rfl rfl rfl rfl ?_
  refine x_pickT rfl rfl rfl rfl rfl ?_
  refine x_move rfl rfl rfl rfl ?_
  refine x_move rfl rfl rfl rfl ?_
  refine x_move rfl rfl rfl rfl ?_
  refine x_call rfl rfl rfl rfl rfl en22 (hdlsZ_c (by first | exact M.at_ 0 rfl | exact M.at_ 1 rfl | exact M.at_ 2 rfl)) ?_
  rintro r_ w_ ⟨rfl, hnh⟩
  have M := M.new hnh
  refine ⟨trivial, ?_⟩
  refine x_len rfl rfl rfl rfl Tryz.underlying61 rfl ?_
  refine x_eqi true rfl rfl rfl rfl rfl rfl ?_
  refine x_pickT rfl rfl rfl rfl rfl ?_
  refine x_move rfl rfl rfl rfl ?_
  refine x_move rfl rfl rfl rfl ?_
  refine x_move rfl rfl rfl rfl ?_
  refine x_fa rfl rfl rfl fo52_3 rfl ?_
  refine x_ld rfl rfl rfl Tryz.underlying3 rfl rfl (cell_of (by first | exact M.at_ 0 rfl | exact M.at_ 1 rfl | exact M.at_ 2 rfl | exact M.at_ 3 rfl | exact M.at_ 4 rfl | exact M.at_ 5 rfl | exact M.at_ 6 rfl | exact M.at_ 7 rfl) rfl) ?_
  refine x_call rfl rfl rfl rfl rfl en21 (ffileZ_c (by first | exact M.at_ 0 rfl | exact M.at_ 1 rfl | exact M.at_ 2 rfl)) ?_
  rintro r_ w_ ⟨rfl, rfl⟩
  refine ⟨trivial, ?_⟩
  refine x_eqS true rfl rfl rfl rfl rfl (decide_eq_true rfl) ?_
  refine x_pickT rfl rfl rfl rfl rfl ?_
  refine x_move rfl rfl rfl rfl ?_
  refine x_call rfl rfl rfl rfl rfl en11 (lives19_c) ?_
  rintro r_ wcall8 ⟨rfl, hncall8⟩
  have M := M.new hncall8
  refine ⟨trivial, ?_⟩
  refine x_pickT rfl rfl rfl rfl rfl ?_
  refine x_assign rfl rfl rfl rfl ?_
  refine Ex.done (hK _ _ ?_)
  refine At.then_n ?_
  refine W.ret ?_
  refine At.ret1 (.tmp 6) rfl ⟨rfl, trivial⟩ ?_
  exact ⟨rfl, M.frm⟩
 ·try simp only [sA, sB, sC, sD, sE, sF, ne_eq, Bool.not_eq_eq_eq_not, Bool.not_true, Bool.not_false, sK, sL, Bool.not_not, gt_iff_lt, ge_iff_le] at hco1
  refine W.skip ?_
  refine At.then_n ?_
  refine W.seq ?_
  refine W.sub [(0, _), (4, _), (8, _), (9, _), (10, _)] ⟨rfl, rfl, rfl, rfl, rfl, trivial⟩ ?_
  refine W.reg [(0, false), (1, false), (2, false), (3, true), (4, true), (5, true)] (by kernel_rfl) ?_
  intro K hK
  refine x_move rfl rfl rfl rfl ?_
  refine x_move rfl rfl rfl rfl ?_
  refine x_ldA [_, _, _, _, _, _, _, _, _] rfl rfl rfl Tryz.underlying52 rfl sz52 rfl rfl ⟨_, _, _, (by first | exact M.at_ 0 rfl | exact M.at_ 1 rfl | exact M.at_ 2 rfl | exact M.at_ 3 rfl | exact M.at_ 4 rfl | exact M.at_ 5 rfl | exact M.at_ 6 rfl | exact M.at_ 7 rfl), rfl⟩ ?_
  refine x_call rfl rfl rfl rfl rfl en16 (doN_c (o := o) ) ?_
  rintro r_ w9 ⟨rfl, hn9⟩
  have M := M.new hn9
  refine ⟨trivial, ?_⟩
  refine x_alloc [_, _, _, _, _] rfl rfl rfl ze49 rfl ?_
  intro bal2 wal2 hbal2 hwal2
  have M := M.acons hbal2 hwal2
  refine ⟨trivial, ?_⟩
  refine x_st [_, _, _, _, _] _ rfl rfl rfl sz49 rfl rfl rfl rfl (by first | exact M.at_ 0 rfl | exact M.at_ 1 rfl | exact M.at_ 2 rfl | exact M.at_ 3 rfl | exact M.at_ 4 rfl | exact M.at_ 5 rfl | exact M.at_ 6 rfl | exact M.at_ 7 rfl) rfl rfl rfl ?_
  intro wst2 hwst2
  have M := by first | exact M.put 0 rfl hwst2 | exact M.put 1 rfl hwst2 | exact M.put 2 rfl hwst2 | exact M.put 3 rfl hwst2 | exact M.put 4 rfl hwst2 | exact M.put 5 rfl hwst2 | exact M.put 6 rfl hwst2 | exact M.put 7 rfl hwst2
  refine ⟨trivial, ?_⟩
  refine Ex.done (hK _ _ ?_)
  refine At.then_n ?_
  refine W.seq ?_
  refine W.sub [(0, _), (4, _), (8, _), (9, _), (10, _), (11, _)] ⟨rfl, rfl, rfl, rfl, rfl, rfl, trivial⟩ ?_
  refine W.reg [(0, false), (1, false), (2, false), (3, false), (4, false), (5, false), (6, false), (7, false), (8, false), (9, true), (10, false), (11, false), (12, false), (13, true), (14, false), (15, false), (16, false), (17, false), (18, false), (19, true), (20, false), (21, false), (22, false), (23, false), (24, false), (25, true), (26, false), (27, false), (28, false), (29, false), (30, false), (31, false), (32, false), (33, false), (34, true), (35, false), (36, false), (37, false), (38, true), (39, false), (40, false)] (by kernel_rfl) ?_
  intro K hK
  refine x_move rfl rfl rfl rfl ?_
  refine x_eqpn true rfl rfl rfl Tryz.underlying34 rfl rfl rfl ?_
  refine x_move rfl rfl rfl rfl ?_
  refine x_move rfl rfl rfl rfl ?_
  refine x_eqi true rfl rfl rfl rfl rfl rfl ?_
  refine x_pickT rfl rfl rfl rfl rfl ?_
  refine x_move rfl rfl rfl rfl ?_
  refine x_ldA [_, _, _, _, _] rfl rfl rfl Tryz.underlying49 rfl sz49 rfl rfl ⟨_, _, _, (by first | exact M.at_ 0 rfl | exact M.at_ 1 rfl | exact M.at_ 2 rfl | exact M.at_ 3 rfl | exact M.at_ 4 rfl | exact M.at_ 5 rfl | exact M.at_ 6 rfl | exact M.at_ 7 rfl), rfl⟩ ?_
  refine x_build [_, _, _, _, _] rfl rfl rfl pl49 ze49 rfl rfl rfl ?_
  refine x_call rfl rfl rfl rfl rfl en26 (rsame_c (a := badS 1) (b := badS 1) (.inr (.inl ⟨rfl, rfl, rfl⟩)) (.inr (.inl ⟨rfl, rfl, rfl⟩)) (.inr (.inl ⟨rfl, rfl, rfl⟩)) (.inr (.inl ⟨rfl, rfl, rfl⟩)) (by decide)) ?_
  rintro r_ w10 ⟨rfl, hn10⟩
  have M := M.new hn10
  rw [decide_eq_true rfl]
  refine ⟨trivial, ?_⟩
  refine x_pickT rfl rfl rfl rfl rfl ?_
  refine x_move rfl rfl rfl rfl ?_
  refine x_move rfl rfl rfl rfl ?_
  refine x_call rfl rfl rfl rfl rfl en17 (filesN_c ) ?_
  rintro r_ w_ ⟨rfl, rfl⟩
  refine ⟨trivial, ?_⟩
  refine x_len rfl rfl rfl rfl Tryz.underlying24 rfl ?_
  refine x_eqi true rfl rfl rfl rfl rfl rfl ?_
  refine x_pickT rfl rfl rfl rfl rfl ?_
  refine x_move rfl rfl rfl rfl ?_
  refine x_move rfl rfl rfl rfl ?_
  refine x_call rfl rfl rfl rfl rfl en18 (usedN_c ) ?_
  rintro r_ w_ ⟨rfl, rfl⟩
  refine ⟨trivial, ?_⟩
  refine x_eqi true rfl rfl rfl rfl rfl rfl ?_
  refine x_pickT rfl rfl rfl rfl rfl ?_
  refine x_move rfl rfl rfl rfl ?_
  refine x_move rfl rfl rfl rfl ?_
  refine x_move rfl rfl rfl rfl ?_
  refine x_call rfl rfl rfl rfl rfl en22 (hdlsN_c ) ?_
  rintro r_ w_ ⟨rfl, rfl⟩
  refine ⟨trivial, ?_⟩
  refine x_len rfl rfl rfl rfl Tryz.underlying61 rfl ?_
  refine x_eqi true rfl rfl rfl rfl rfl rfl ?_
  refine x_pickT rfl rfl rfl rfl rfl ?_
  refine x_move rfl rfl rfl rfl ?_
  refine x_move rfl rfl rfl rfl ?_
  refine x_move rfl rfl rfl rfl ?_
  refine x_fa rfl rfl rfl fo52_3 rfl ?_
  refine x_ld rfl rfl rfl Tryz.underlying3 rfl rfl (cell_of (by first | exact M.at_ 0 rfl | exact M.at_ 1 rfl | exact M.at_ 2 rfl | exact M.at_ 3 rfl | exact M.at_ 4 rfl | exact M.at_ 5 rfl | exact M.at_ 6 rfl | exact M.at_ 7 rfl) rfl) ?_
  refine x_call rfl rfl rfl rfl rfl en21 (ffileN_c ) ?_
  rintro r_ w_ ⟨rfl, rfl⟩
  refine ⟨trivial, ?_⟩
  refine x_eqS true rfl rfl rfl rfl rfl (decide_eq_true rfl) ?_
  refine x_pickT rfl rfl rfl rfl rfl ?_
  refine x_move rfl rfl rfl rfl ?_
  refine x_call rfl rfl rfl rfl rfl en11 (lives19_c) ?_
  rintro r_ wcall15 ⟨rfl, hncall15⟩
  have M := M.new hncall15
  refine ⟨trivial, ?_⟩
  refine x_pickT rfl rfl rfl rfl rfl ?_
  refine x_assign rfl rfl rfl rfl ?_
  refine Ex.done (hK _ _ ?_)
  refine At.then_n ?_
  refine W.ret ?_
  refine At.ret1 (.tmp 6) rfl ⟨rfl, trivial⟩ ?_
  exact ⟨rfl, M.frm⟩
end Go.Proofs.YtigfbpbnohkokaaGreat

namespace Go.Fw
open Go Go.ChangeShapes Go.WideShapes Go.ChangeAt Go.RowKit
set_option linter.unusedVariables false
set_option linter.unusedSimpArgs false
section
variable {H : Type} {enc : TypeId × Value → H} {P : Program} {W : World} {sp : Nat → Bool}
theorem rd_struct9 {t : TypeId} {f0 f1 f2 f3 f4 f5 f6 f7 f8 : Field} {α0 α1 α2 α3 α4 α5 α6 α7 α8 : Type} {c0 : α0 → Value} {c1 : α1 → Value} {c2 : α2 → Value} {c3 : α3 → Value} {c4 : α4 → Value} {c5 : α5 → Value} {c6 : α6 → Value} {c7 : α7 → Value} {c8 : α8 → Value} {R0 : α0 → DataW H → Prop} {R1 : α1 → DataW H → Prop} {R2 : α2 → DataW H → Prop} {R3 : α3 → DataW H → Prop} {R4 : α4 → DataW H → Prop} {R5 : α5 → DataW H → Prop} {R6 : α6 → DataW H → Prop} {R7 : α7 → DataW H → Prop} {R8 : α8 → DataW H → Prop} (ht : P.underlying t = some (.struct #[f0, f1, f2, f3, f4, f5, f6, f7, f8])) (hc : P.cellsOf t = 9)
  (h0 : f0.offset = 0 ∧ P.cellsOf f0.type = 1) (h1 : f1.offset = 1 ∧ P.cellsOf f1.type = 1) (h2 : f2.offset = 2 ∧ P.cellsOf f2.type = 1) (h3 : f3.offset = 3 ∧ P.cellsOf f3.type = 1) (h4 : f4.offset = 4 ∧ P.cellsOf f4.type = 1) (h5 : f5.offset = 5 ∧ P.cellsOf f5.type = 1) (h6 : f6.offset = 6 ∧ P.cellsOf f6.type = 1) (h7 : f7.offset = 7 ∧ P.cellsOf f7.type = 1) (h8 : f8.offset = 8 ∧ P.cellsOf f8.type = 1) (r0 : Rd enc P W sp f0.type (fun a => [c0 a]) R0) (r1 : Rd enc P W sp f1.type (fun a => [c1 a]) R1) (r2 : Rd enc P W sp f2.type (fun a => [c2 a]) R2) (r3 : Rd enc P W sp f3.type (fun a => [c3 a]) R3) (r4 : Rd enc P W sp f4.type (fun a => [c4 a]) R4) (r5 : Rd enc P W sp f5.type (fun a => [c5 a]) R5) (r6 : Rd enc P W sp f6.type (fun a => [c6 a]) R6) (r7 : Rd enc P W sp f7.type (fun a => [c7 a]) R7) (r8 : Rd enc P W sp f8.type (fun a => [c8 a]) R8) :
  Rd enc P W sp t (fun a : α0 × α1 × α2 × α3 × α4 × α5 × α6 × α7 × α8 => [c0 (a.1), c1 (a.2.1), c2 (a.2.2.1), c3 (a.2.2.2.1), c4 (a.2.2.2.2.1), c5 (a.2.2.2.2.2.1), c6 (a.2.2.2.2.2.2.1), c7 (a.2.2.2.2.2.2.2.1), c8 (a.2.2.2.2.2.2.2.2)]) (fun a d => ∃ d0 d1 d2 d3 d4 d5 d6 d7 d8, d = .agg [d0, d1, d2, d3, d4, d5, d6, d7, d8] ∧ R0 (a.1) d0 ∧ R1 (a.2.1) d1 ∧ R2 (a.2.2.1) d2 ∧ R3 (a.2.2.2.1) d3 ∧ R4 (a.2.2.2.2.1) d4 ∧ R5 (a.2.2.2.2.2.1) d5 ∧ R6 (a.2.2.2.2.2.2.1) d6 ∧ R7 (a.2.2.2.2.2.2.2.1) d7 ∧ R8 (a.2.2.2.2.2.2.2.2) d8) := fun fuel cs x h => by
 obtain ⟨xs, n, _, rfl, hl, hlen, hf⟩ := DataW.trod_struct ht h
 rw [hc] at hl
 match xs, hlen, cs, hl with
 | [y0, y1, y2, y3, y4, y5, y6, y7, y8], _, [u0, u1, u2, u3, u4, u5, u6, u7, u8], _ =>
  have g0 := hf 0 f0 rfl
  rw [h0.1, h0.2] at g0
  obtain ⟨a0, e0, q0⟩ := r0 n [u0] y0 g0
  have g1 := hf 1 f1 rfl
  rw [h1.1, h1.2] at g1
  obtain ⟨a1, e1, q1⟩ := r1 n [u1] y1 g1
  have g2 := hf 2 f2 rfl
  rw [h2.1, h2.2] at g2
  obtain ⟨a2, e2, q2⟩ := r2 n [u2] y2 g2
  have g3 := hf 3 f3 rfl
  rw [h3.1, h3.2] at g3
  obtain ⟨a3, e3, q3⟩ := r3 n [u3] y3 g3
  have g4 := hf 4 f4 rfl
  rw [h4.1, h4.2] at g4
  obtain ⟨a4, e4, q4⟩ := r4 n [u4] y4 g4
  have g5 := hf 5 f5 rfl
  rw [h5.1, h5.2] at g5
  obtain ⟨a5, e5, q5⟩ := r5 n [u5] y5 g5
  have g6 := hf 6 f6 rfl
  rw [h6.1, h6.2] at g6
  obtain ⟨a6, e6, q6⟩ := r6 n [u6] y6 g6
  have g7 := hf 7 f7 rfl
  rw [h7.1, h7.2] at g7
  obtain ⟨a7, e7, q7⟩ := r7 n [u7] y7 g7
  have g8 := hf 8 f8 rfl
  rw [h8.1, h8.2] at g8
  obtain ⟨a8, e8, q8⟩ := r8 n [u8] y8 g8
  simp only [List.cons.injEq, and_true] at e0 e1 e2 e3 e4 e5 e6 e7 e8
  subst e0 e1 e2 e3 e4 e5 e6 e7 e8
  exact ⟨(a0, a1, a2, a3, a4, a5, a6, a7, a8), rfl, y0.1, y1.1, y2.1, y3.1, y4.1, y5.1, y6.1, y7.1, y8.1, rfl, q0, q1, q2, q3, q4, q5, q6, q7, q8⟩
end
end Go.Fw

namespace Go.Proofs.YtigfbpbnohkokaaGreat
open Go Go.Fw Go.ChangeShapes Go.WideShapes Go.ChangeAt Go.RowKit
set_option linter.unusedVariables false
set_option linter.unusedSimpArgs false

theorem cInt : Tryz.prog.cellsOf 3 = 1 := by kernel_rfl
theorem cBool : Tryz.prog.cellsOf 4 = 1 := by kernel_rfl
theorem cBytes : Tryz.prog.cellsOf 27 = 1 := by kernel_rfl
theorem cByte : Tryz.prog.cellsOf 5 = 1 := by kernel_rfl
theorem cOp : Tryz.prog.cellsOf 52 = 9 := by kernel_rfl
section
variable {H : Type} {enc : TypeId × Value → H} {W : World} {sp : Nat → Bool}
abbrev OpV := Int × List UInt8 × List UInt8 × Int × Int × Int × Bool × Bool × (Value × List UInt8)
def toOp (a : OpV) : OpS := ⟨a.1, a.2.1, a.2.2.1, a.2.2.2.1, a.2.2.2.2.1, a.2.2.2.2.2.1, a.2.2.2.2.2.2.1, a.2.2.2.2.2.2.2.1, a.2.2.2.2.2.2.2.2.2⟩
def opE (a : OpV) : List Value := [.int .i64 a.1, strV a.2.1, strV a.2.2.1, .int .i64 a.2.2.2.1, .int .i64 a.2.2.2.2.1, .int .i64 a.2.2.2.2.2.1, .bool a.2.2.2.2.2.2.1, .bool a.2.2.2.2.2.2.2.1, a.2.2.2.2.2.2.2.2.1]
def BytesR (W : World) (a : Value × List UInt8) (d : DataW H) : Prop := BytesAt W a.1 a.2
theorem Rd.weak {P : Program} {t : TypeId} {α : Type} {e1 : α → List Value} {R R' : α → DataW H → Prop} (h : Rd enc P W sp t e1 R) (hR : ∀ a d, R a d → R' a d) : Rd enc P W sp t e1 R' := fun fuel cs x hx =>
 let ⟨a, h1, h2⟩ := h fuel cs x hx; ⟨a, h1, hR a _ h2⟩
theorem rd_byt : Rd enc Tryz.prog W sp 27 (fun a : Value × List UInt8 => [a.1]) (BytesR W) := Rd.weak (rd_bytes Tryz.underlying27 Tryz.underlying5 cByte) fun _ _ h => h.1
theorem rd_op : Rd enc Tryz.prog W sp 52 opE (fun a _ => BytesAt W a.2.2.2.2.2.2.2.2.1 a.2.2.2.2.2.2.2.2.2) := fun fuel cs x h => by
 obtain ⟨a, h1, d0, d1, d2, d3, d4, d5, d6, d7, d8, _, _, _, _, _, _, _, _, _, h2⟩ := rd_struct9 (R0 := _) (R1 := _) (R2 := _) (R3 := _) (R4 := _) (R5 := _) (R6 := _) (R7 := _) (R8 := _) Tryz.underlying52 cOp ⟨rfl, cInt⟩ ⟨rfl, cStr⟩ ⟨rfl, cStr⟩ ⟨rfl, cInt⟩ ⟨rfl, cInt⟩ ⟨rfl, cInt⟩ ⟨rfl, cBool⟩ ⟨rfl, cBool⟩ ⟨rfl, cBytes⟩ (rd_int Tryz.underlying3) (rd_string Tryz.underlying9) (rd_string Tryz.underlying9) (rd_int Tryz.underlying3) (rd_int Tryz.underlying3) (rd_int Tryz.underlying3) (rd_bool Tryz.underlying4) (rd_bool Tryz.underlying4) rd_byt fuel cs x h
 exact ⟨a, h1, h2⟩
end
end Go.Proofs.YtigfbpbnohkokaaGreat
