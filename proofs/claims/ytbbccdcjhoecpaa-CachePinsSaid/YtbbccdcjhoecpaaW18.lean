/-
  The walk of functions of the cache, by program: pins_bad, pins_out, pins_full, pins_fit.
-/
import Derived.Test.YtbbccdcjhoecpaaTab
import Derived.Test.YtbbccdcjhoecpaaW15
import Derived.Test.YtbbccdcjhoecpaaA3
namespace Go.Proofs.Ytbbccdcjhoecpaa
open Go Go.Fw Go.RowKit Go.Proofs

-- valise/valiselaw17.CachePins
set_option maxRecDepth 100000 in
theorem pins_bad {w0 : World} {k : Key} {sv : Value} {b : List UInt8} {v2 : Value} {A : List Ac} {bud : Int} (hA : ActsIn w0 v2 A) (hB : BytesIn w0 sv b) (h : bud < 0 ∨ 1048576 < bud) : Ret Try.prog 6 #[encK k, sv, v2, .int .i64 bud] w0 fun v w' => v = .bool true ∧ New w0 w' := by
  have M : St None' w0 [] w0 := Frm.refl _ _
  have hA0 := hA
  obtain ⟨pb, capb, rfl⟩ := hB.shape
  obtain ⟨p, cap, rfl, hAl, hA⟩ := hA
  refine Ret.of_W Try.func6 rfl Try.ntmps6 rfl ?_
  refine W.seq ?_
  refine W.sub [(0, _), (1, _), (2, _), (3, _)] ⟨rfl, rfl, rfl, rfl, trivial⟩ ?_
  refine W.reg [(0, true), (1, false)] (by kernel_rfl) ?_ -- region 0
  intro K hK
  refine x_box [_, _] rfl rfl rfl rfl rfl ?_ -- bx1 outright.go:79
  intro bbx1 wbx1 hbbx1 hwbx1
  have M := M.alloc hbbx1 hwbx1
  refine ⟨trivial, ?_⟩
  refine x_assign rfl rfl rfl rfl ?_
  refine Ex.done (hK _ _ ?_)
  refine At.then_n ?_
  refine W.seq ?_
  refine W.sub [(1, _), (2, _), (3, _), (4, _)] ⟨rfl, rfl, rfl, rfl, trivial⟩ ?_
  refine W.reg [(0, false), (1, true), (2, false), (3, false), (4, false), (5, false), (6, false)] (by kernel_rfl) ?_ -- region 1
  intro K hK
  refine x_move rfl rfl rfl rfl ?_
  -- call1: valise/cache.New outright.go:80
  refine x_call rfl rfl rfl rfl rfl en9 (new_no h) ?_
  rintro v w1 ⟨rfl, rfl⟩
  refine ⟨trivial, ?_⟩
  refine x_move rfl rfl rfl rfl ?_
  refine x_ext rfl rfl rfl rfl rfl ?_ -- ex1
  refine x_ext rfl rfl rfl rfl rfl ?_ -- ex2
  refine x_assign rfl rfl rfl rfl ?_
  refine x_assign rfl rfl rfl rfl ?_
  refine Ex.done (hK _ _ ?_)
  refine At.then_n ?_
  refine W.seq ?_
  refine W.seq ?_
  refine W.sub [(1, _), (2, _), (3, _), (4, _), (9, _), (10, _)] ⟨rfl, rfl, rfl, rfl, rfl, rfl, trivial⟩ ?_
  refine W.reg [(0, false), (1, false), (2, false), (3, false), (4, false), (5, false), (6, false), (7, false), (8, true), (9, false), (10, false), (11, false), (12, false), (13, false), (14, false), (15, false), (16, false), (17, false), (18, false), (19, false), (20, false), (21, false)] (by kernel_rfl) ?_ -- region 2
  intro K hK
  refine x_move rfl rfl rfl rfl ?_
  refine x_nei true rfl rfl rfl rfl rfl rfl ?_ -- eq1 outright.go:81
  refine x_move rfl rfl rfl rfl ?_
  refine Ex.skip_ rfl rfl rfl ?_
  refine Ex.skip_ rfl rfl rfl ?_
  refine x_pickT rfl rfl rfl rfl rfl ?_
  refine x_move rfl rfl rfl rfl ?_
  refine Ex.skip_ rfl rfl rfl ?_
  refine Ex.skipm_ rfl rfl rfl ?_
  refine Ex.skip_ rfl rfl rfl ?_
  refine x_pickT rfl rfl rfl rfl rfl ?_
  refine x_move rfl rfl rfl rfl ?_
  refine Ex.skip_ rfl rfl rfl ?_
  refine Ex.skip_ rfl rfl rfl ?_
  refine Ex.skip_ rfl rfl rfl ?_
  refine x_pickT rfl rfl rfl rfl rfl ?_
  refine x_move rfl rfl rfl rfl ?_
  refine Ex.skip_ rfl rfl rfl ?_
  refine Ex.skip_ rfl rfl rfl ?_
  refine Ex.skip_ rfl rfl rfl ?_
  refine Ex.skip_ rfl rfl rfl ?_
  refine x_pickT rfl rfl rfl rfl rfl ?_
  refine Ex.done (hK _ _ ?_)
  refine At.then_n ?_
  refine W.condT rfl ?_ -- co1
  refine W.seq ?_
  refine W.sub [(9, _), (10, _)] ⟨rfl, rfl, trivial⟩ ?_
  refine W.reg [(0, false), (1, false), (2, false), (3, false), (4, false), (5, false), (6, true), (7, false), (8, false)] (by kernel_rfl) ?_ -- region 3
  intro K hK
  refine x_move rfl rfl rfl rfl ?_
  refine x_eqi false rfl rfl rfl rfl rfl rfl ?_ -- eq2 outright.go:82
  refine x_move rfl rfl rfl rfl ?_
  refine x_nepn false rfl rfl rfl Try.underlying23 rfl rfl rfl ?_ -- eq3 outright.go:82
  refine x_eqb true rfl rfl rfl Try.underlying4 rfl rfl rfl ?_ -- eq4 outright.go:82
  refine x_move rfl rfl rfl rfl ?_
  -- call2: valise/valiselaw17.lives outright.go:82
  refine x_call rfl rfl rfl rfl rfl en8 (lives_c) ?_
  rintro v w1 ⟨rfl, hn⟩
  have M := M.new hn
  refine ⟨trivial, ?_⟩
  refine x_pickT rfl rfl rfl rfl rfl ?_
  refine x_assign rfl rfl rfl rfl ?_
  refine Ex.done (hK _ _ ?_)
  refine At.then_n ?_
  refine W.ret ?_
  refine At.then_r ?_
  refine At.ret1 (.tmp 8) rfl ⟨rfl, trivial⟩ ?_ -- ret1
  exact ⟨rfl, M.frm⟩

-- valise/valiselaw17.CachePins
set_option maxRecDepth 100000 in
theorem pins_out {w0 : World} {k : Key} {sv : Value} {b : List UInt8} {v2 : Value} {A : List Ac} {bud : Int} (hA : ActsIn w0 v2 A) (hB : BytesIn w0 sv b) (h : 0 ≤ bud ∧ bud ≤ 1048576) (hno : ¬ (fewA A ∧ b.length ≤ 4096 ∧ k.1.size ≤ 100)) : Ret Try.prog 6 #[encK k, sv, v2, .int .i64 bud] w0 fun v w' => v = .bool true ∧ New w0 w' := by
  have M : St None' w0 [] w0 := Frm.refl _ _
  have hA0 := hA
  obtain ⟨pb, capb, rfl⟩ := hB.shape
  obtain ⟨p, cap, rfl, hAl, hA⟩ := hA
  refine Ret.of_W Try.func6 rfl Try.ntmps6 rfl ?_
  refine W.seq ?_
  refine W.sub [(0, _), (1, _), (2, _), (3, _)] ⟨rfl, rfl, rfl, rfl, trivial⟩ ?_
  refine W.reg [(0, true), (1, false)] (by kernel_rfl) ?_ -- region 0
  intro K hK
  refine x_box [_, _] rfl rfl rfl rfl rfl ?_ -- bx1 outright.go:79
  intro bbx1 wbx1 hbbx1 hwbx1
  have M := M.alloc hbbx1 hwbx1
  refine ⟨trivial, ?_⟩
  refine x_assign rfl rfl rfl rfl ?_
  refine Ex.done (hK _ _ ?_)
  refine At.then_n ?_
  refine W.seq ?_
  refine W.sub [(1, _), (2, _), (3, _), (4, _)] ⟨rfl, rfl, rfl, rfl, trivial⟩ ?_
  refine W.reg [(0, false), (1, true), (2, false), (3, false), (4, false), (5, false), (6, false)] (by kernel_rfl) ?_ -- region 1
  intro K hK
  refine x_move rfl rfl rfl rfl ?_
  -- call1: valise/cache.New outright.go:80
  refine x_call rfl rfl rfl rfl rfl en9 (opNew M h) ?_
  rintro v w1 ⟨c, rfl, M⟩
  refine ⟨trivial, ?_⟩
  refine x_move rfl rfl rfl rfl ?_
  refine x_ext rfl rfl rfl rfl rfl ?_ -- ex1
  refine x_ext rfl rfl rfl rfl rfl ?_ -- ex2
  refine x_assign rfl rfl rfl rfl ?_
  refine x_assign rfl rfl rfl rfl ?_
  refine Ex.done (hK _ _ ?_)
  refine At.then_n ?_
  refine W.seq ?_
  refine W.seq ?_
  refine W.sub [(1, _), (2, _), (3, _), (4, _), (9, _), (10, _)] ⟨rfl, rfl, rfl, rfl, rfl, rfl, trivial⟩ ?_
  refine W.reg [(0, false), (1, false), (2, false), (3, false), (4, false), (5, false), (6, false), (7, false), (8, true), (9, false), (10, false), (11, false), (12, false), (13, false), (14, false), (15, false), (16, false), (17, false), (18, false), (19, false), (20, false), (21, false)] (by kernel_rfl) ?_ -- region 2
  intro K hK
  refine x_move rfl rfl rfl rfl ?_
  refine x_nei false rfl rfl rfl rfl rfl rfl ?_ -- eq1 outright.go:81
  refine x_move rfl rfl rfl rfl ?_
  refine x_move rfl rfl rfl rfl ?_
  refine x_eqpn false rfl rfl rfl Try.underlying23 rfl rfl rfl ?_ -- eq2 outright.go:81
  refine x_pickF rfl rfl rfl rfl rfl ?_
  refine x_move rfl rfl rfl rfl ?_
  refine x_move rfl rfl rfl rfl ?_
  -- call2: valise/valiselaw17.few outright.go:81
  refine x_call rfl rfl rfl rfl rfl en13 (few_c (hA0.new M.frm)) ?_
  rintro v w2 ⟨rfl, rfl⟩
  refine ⟨trivial, ?_⟩
  refine x_not _ rfl rfl rfl rfl rfl ?_ -- un1 outright.go:81
  refine x_pickF rfl rfl rfl rfl rfl ?_
  refine x_move rfl rfl rfl rfl ?_
  refine Ex.split 33 rfl (fun hsp1 => ?_) (fun hsp1 => ?_)
  · -- sp1 True
    refine Ex.skip_ rfl rfl rfl ?_
    refine Ex.skip_ rfl rfl rfl ?_
    refine Ex.skip_ rfl rfl rfl ?_
    refine x_pickT rfl rfl rfl rfl rfl ?_
    refine x_move rfl rfl rfl rfl ?_
    refine Ex.skip_ rfl rfl rfl ?_
    refine Ex.skip_ rfl rfl rfl ?_
    refine Ex.skip_ rfl rfl rfl ?_
    refine Ex.skip_ rfl rfl rfl ?_
    refine x_pickT rfl rfl rfl rfl rfl ?_
    refine Ex.done (hK _ _ ?_)
    refine At.then_n ?_
    refine W.condT rfl ?_ -- co1
    refine W.seq ?_
    refine W.sub [(9, _), (10, _)] ⟨rfl, rfl, trivial⟩ ?_
    refine W.reg [(0, false), (1, false), (2, false), (3, false), (4, false), (5, false), (6, true), (7, false), (8, false)] (by kernel_rfl) ?_ -- region 3
    intro K hK
    refine x_move rfl rfl rfl rfl ?_
    refine x_eqi true rfl rfl rfl rfl rfl rfl ?_ -- eq3 outright.go:82
    refine x_move rfl rfl rfl rfl ?_
    refine x_nepn true rfl rfl rfl Try.underlying23 rfl rfl rfl ?_ -- eq4 outright.go:82
    refine x_eqb true rfl rfl rfl Try.underlying4 rfl rfl rfl ?_ -- eq5 outright.go:82
    refine x_move rfl rfl rfl rfl ?_
    -- call3: valise/valiselaw17.lives outright.go:82
    refine x_call rfl rfl rfl rfl rfl en8 (lives_c) ?_
    rintro v w9 ⟨rfl, hn⟩
    have M := M.new hn
    refine ⟨trivial, ?_⟩
    refine x_pickT rfl rfl rfl rfl rfl ?_
    refine x_assign rfl rfl rfl rfl ?_
    refine Ex.done (hK _ _ ?_)
    refine At.then_n ?_
    refine W.ret ?_
    refine At.then_r ?_
    refine At.ret1 (.tmp 8) rfl ⟨rfl, trivial⟩ ?_ -- ret1
    exact ⟨rfl, M.frm⟩
  · -- sp1 False
    refine x_move rfl rfl rfl rfl ?_
    refine x_len rfl rfl rfl rfl Try.underlying31 rfl ?_
    refine x_gtr _ rfl rfl rfl rfl rfl rfl ?_ -- cm1 outright.go:81
    refine x_pickF rfl rfl rfl rfl rfl ?_
    refine x_move rfl rfl rfl rfl ?_
    refine Ex.split 38 rfl (fun hsp2 => ?_) (fun hsp2 => ?_)
    · -- sp2 True
      refine Ex.skip_ rfl rfl rfl ?_
      refine Ex.skip_ rfl rfl rfl ?_
      refine Ex.skip_ rfl rfl rfl ?_
      refine Ex.skip_ rfl rfl rfl ?_
      refine x_pickT rfl rfl rfl rfl rfl ?_
      refine Ex.done (hK _ _ ?_)
      refine At.then_n ?_
      refine W.condT rfl ?_ -- co2
      refine W.seq ?_
      refine W.sub [(9, _), (10, _)] ⟨rfl, rfl, trivial⟩ ?_
      refine W.reg [(0, false), (1, false), (2, false), (3, false), (4, false), (5, false), (6, true), (7, false), (8, false)] (by kernel_rfl) ?_ -- region 3
      intro K hK
      refine x_move rfl rfl rfl rfl ?_
      refine x_eqi true rfl rfl rfl rfl rfl rfl ?_ -- eq6 outright.go:82
      refine x_move rfl rfl rfl rfl ?_
      refine x_nepn true rfl rfl rfl Try.underlying23 rfl rfl rfl ?_ -- eq7 outright.go:82
      refine x_eqb true rfl rfl rfl Try.underlying4 rfl rfl rfl ?_ -- eq8 outright.go:82
      refine x_move rfl rfl rfl rfl ?_
      -- call4: valise/valiselaw17.lives outright.go:82
      refine x_call rfl rfl rfl rfl rfl en8 (lives_c) ?_
      rintro v w9 ⟨rfl, hn⟩
      have M := M.new hn
      refine ⟨trivial, ?_⟩
      refine x_pickT rfl rfl rfl rfl rfl ?_
      refine x_assign rfl rfl rfl rfl ?_
      refine Ex.done (hK _ _ ?_)
      refine At.then_n ?_
      refine W.ret ?_
      refine At.then_r ?_
      refine At.ret1 (.tmp 8) rfl ⟨rfl, trivial⟩ ?_ -- ret2
      exact ⟨rfl, M.frm⟩
    · -- sp2 False
      refine x_fa rfl rfl rfl fo29_0 rfl ?_
      refine x_ld rfl rfl rfl Try.underlying9 rfl rfl (cell_of (by first | exact M.at_ 0 rfl | exact M.at_ 1 rfl | exact M.at_ 2 rfl | exact M.at_ 3 rfl | exact M.at_ 4 rfl | exact M.at_ 5 rfl) rfl) ?_ -- ld1 outright.go:81
      refine x_lens rfl rfl rfl rfl Try.underlying9 rfl ?_
      refine x_gtr _ rfl rfl rfl rfl rfl rfl ?_ -- cm2 outright.go:81
      refine x_pickF rfl rfl rfl rfl rfl ?_
      refine Ex.done (hK _ _ ?_)
      refine At.then_n ?_
      refine W.cond rfl (fun hco3 => ?_) (fun hco3 => ?_) -- co3
      · refine W.seq ?_
        refine W.sub [(9, _), (10, _)] ⟨rfl, rfl, trivial⟩ ?_
        refine W.reg [(0, false), (1, false), (2, false), (3, false), (4, false), (5, false), (6, true), (7, false), (8, false)] (by kernel_rfl) ?_ -- region 3
        intro K hK
        refine x_move rfl rfl rfl rfl ?_
        refine x_eqi true rfl rfl rfl rfl rfl rfl ?_ -- eq9 outright.go:82
        refine x_move rfl rfl rfl rfl ?_
        refine x_nepn true rfl rfl rfl Try.underlying23 rfl rfl rfl ?_ -- eq10 outright.go:82
        refine x_eqb true rfl rfl rfl Try.underlying4 rfl rfl rfl ?_ -- eq11 outright.go:82
        refine x_move rfl rfl rfl rfl ?_
        -- call5: valise/valiselaw17.lives outright.go:82
        refine x_call rfl rfl rfl rfl rfl en8 (lives_c) ?_
        rintro v w9 ⟨rfl, hn⟩
        have M := M.new hn
        refine ⟨trivial, ?_⟩
        refine x_pickT rfl rfl rfl rfl rfl ?_
        refine x_assign rfl rfl rfl rfl ?_
        refine Ex.done (hK _ _ ?_)
        refine At.then_n ?_
        refine W.ret ?_
        refine At.then_r ?_
        refine At.ret1 (.tmp 8) rfl ⟨rfl, trivial⟩ ?_ -- ret3
        exact ⟨rfl, M.frm⟩
      · exact absurd ⟨by simpa using hsp1, by have := of_decide_eq_false hsp2; omega, by have := of_decide_eq_false hco3; omega⟩ hno

-- valise/valiselaw17.CachePins
set_option maxRecDepth 100000 in
theorem pins_full {w0 : World} {k : Key} {sv : Value} {b : List UInt8} {v2 : Value} {A : List Ac} {bud : Int} (hA : ActsIn w0 v2 A) (hB : BytesIn w0 sv b) (h : 0 ≤ bud ∧ bud ≤ 1048576) (hfew : fewA A) (hb : b.length ≤ 4096 ∧ k.1.size ≤ 100) (hfull : bud < b.length) : Ret Try.prog 6 #[encK k, sv, v2, .int .i64 bud] w0 fun v w' => v = .bool true ∧ New w0 w' := by
  have M : St None' w0 [] w0 := Frm.refl _ _
  have hA0 := hA
  obtain ⟨pb, capb, rfl⟩ := hB.shape
  obtain ⟨p, cap, rfl, hAl, hA⟩ := hA
  refine Ret.of_W Try.func6 rfl Try.ntmps6 rfl ?_
  refine W.seq ?_
  refine W.sub [(0, _), (1, _), (2, _), (3, _)] ⟨rfl, rfl, rfl, rfl, trivial⟩ ?_
  refine W.reg [(0, true), (1, false)] (by kernel_rfl) ?_ -- region 0
  intro K hK
  refine x_box [_, _] rfl rfl rfl rfl rfl ?_ -- bx1 outright.go:79
  intro bbx1 wbx1 hbbx1 hwbx1
  have M := M.alloc hbbx1 hwbx1
  refine ⟨trivial, ?_⟩
  refine x_assign rfl rfl rfl rfl ?_
  refine Ex.done (hK _ _ ?_)
  refine At.then_n ?_
  refine W.seq ?_
  refine W.sub [(1, _), (2, _), (3, _), (4, _)] ⟨rfl, rfl, rfl, rfl, trivial⟩ ?_
  refine W.reg [(0, false), (1, true), (2, false), (3, false), (4, false), (5, false), (6, false)] (by kernel_rfl) ?_ -- region 1
  intro K hK
  refine x_move rfl rfl rfl rfl ?_
  -- call1: valise/cache.New outright.go:80
  refine x_call rfl rfl rfl rfl rfl en9 (opNew M h) ?_
  rintro v w1 ⟨c, rfl, M⟩
  refine ⟨trivial, ?_⟩
  refine x_move rfl rfl rfl rfl ?_
  refine x_ext rfl rfl rfl rfl rfl ?_ -- ex1
  refine x_ext rfl rfl rfl rfl rfl ?_ -- ex2
  refine x_assign rfl rfl rfl rfl ?_
  refine x_assign rfl rfl rfl rfl ?_
  refine Ex.done (hK _ _ ?_)
  refine At.then_n ?_
  refine W.seq ?_
  refine W.seq ?_
  refine W.sub [(1, _), (2, _), (3, _), (4, _), (9, _), (10, _)] ⟨rfl, rfl, rfl, rfl, rfl, rfl, trivial⟩ ?_
  refine W.reg [(0, false), (1, false), (2, false), (3, false), (4, false), (5, false), (6, false), (7, false), (8, true), (9, false), (10, false), (11, false), (12, false), (13, false), (14, false), (15, false), (16, false), (17, false), (18, false), (19, false), (20, false), (21, false)] (by kernel_rfl) ?_ -- region 2
  intro K hK
  refine x_move rfl rfl rfl rfl ?_
  refine x_nei false rfl rfl rfl rfl rfl rfl ?_ -- eq1 outright.go:81
  refine x_move rfl rfl rfl rfl ?_
  refine x_move rfl rfl rfl rfl ?_
  refine x_eqpn false rfl rfl rfl Try.underlying23 rfl rfl rfl ?_ -- eq2 outright.go:81
  refine x_pickF rfl rfl rfl rfl rfl ?_
  refine x_move rfl rfl rfl rfl ?_
  refine x_move rfl rfl rfl rfl ?_
  -- call2: valise/valiselaw17.few outright.go:81
  refine x_call rfl rfl rfl rfl rfl en13 (few_c (hA0.new M.frm)) ?_
  rintro v w2 ⟨rfl, rfl⟩
  refine ⟨trivial, ?_⟩
  refine x_not false rfl rfl rfl rfl (by simp [hfew]) ?_ -- un1 outright.go:81
  refine x_pickF rfl rfl rfl rfl rfl ?_
  refine x_move rfl rfl rfl rfl ?_
  refine x_move rfl rfl rfl rfl ?_
  refine x_len rfl rfl rfl rfl Try.underlying31 rfl ?_
  refine x_gtr false rfl rfl rfl rfl rfl (decide_eq_false (by omega)) ?_ -- cm1 outright.go:81
  refine x_pickF rfl rfl rfl rfl rfl ?_
  refine x_move rfl rfl rfl rfl ?_
  refine x_fa rfl rfl rfl fo29_0 rfl ?_
  refine x_ld rfl rfl rfl Try.underlying9 rfl rfl (cell_of (by first | exact M.at_ 0 rfl | exact M.at_ 1 rfl | exact M.at_ 2 rfl | exact M.at_ 3 rfl | exact M.at_ 4 rfl | exact M.at_ 5 rfl) rfl) ?_ -- ld1 outright.go:81
  refine x_lens rfl rfl rfl rfl Try.underlying9 rfl ?_
  refine x_gtr false rfl rfl rfl rfl rfl (decide_eq_false (by omega)) ?_ -- cm2 outright.go:81
  refine x_pickF rfl rfl rfl rfl rfl ?_
  refine Ex.done (hK _ _ ?_)
  refine At.then_n ?_
  refine W.condF rfl ?_ -- co1
  refine W.skip ?_
  refine At.then_n ?_
  refine W.seq ?_
  refine W.seq ?_
  refine W.sub [(1, _), (2, _), (3, _), (4, _), (9, _)] ⟨rfl, rfl, rfl, rfl, rfl, trivial⟩ ?_
  refine W.reg [(0, false), (1, false), (2, false), (3, true), (4, false)] (by kernel_rfl) ?_ -- region 4
  intro K hK
  refine x_move rfl rfl rfl rfl ?_
  refine x_ldA [_, _] rfl rfl rfl Try.underlying29 rfl sz29 rfl rfl ⟨_, _, _, (by first | exact M.at_ 0 rfl | exact M.at_ 1 rfl | exact M.at_ 2 rfl | exact M.at_ 3 rfl | exact M.at_ 4 rfl | exact M.at_ 5 rfl), rfl⟩ ?_ -- ld2 outright.go:84
  refine x_move rfl rfl rfl rfl ?_
  -- call3: (*valise/cache.Cache).Put outright.go:84
  refine x_call rfl rfl rfl rfl rfl en10 (M.opPut' (k := k) (by rw [put_nil hb.1, if_neg (by omega)]) (hB.new M.frm) (fun hne g hg => .inl (hB.lt hne hg)) (by omega)) ?_
  rintro v w3 ⟨rfl, M⟩
  refine ⟨trivial, ?_⟩
  refine x_nei true rfl rfl rfl rfl rfl rfl ?_ -- eq3 outright.go:84
  refine Ex.done (hK _ _ ?_)
  refine At.then_n ?_
  refine W.condT rfl ?_ -- co2
  refine W.seq ?_
  refine W.sub [(1, _), (3, _), (4, _), (9, _)] ⟨rfl, rfl, rfl, rfl, trivial⟩ ?_
  refine W.reg [(0, false), (1, false), (2, false), (3, false), (4, false), (5, false), (6, false), (7, true), (8, false), (9, false), (10, false), (11, true), (12, false), (13, false)] (by kernel_rfl) ?_ -- region 5
  intro K hK
  refine x_move rfl rfl rfl rfl ?_
  refine x_len rfl rfl rfl rfl Try.underlying31 rfl ?_
  refine x_move rfl rfl rfl rfl ?_
  refine x_gtr true rfl rfl rfl rfl rfl (decide_eq_true (by omega)) ?_ -- cm3 outright.go:85
  refine x_move rfl rfl rfl rfl ?_
  refine x_move rfl rfl rfl rfl ?_
  refine x_ldA [_, _] rfl rfl rfl Try.underlying29 rfl sz29 rfl rfl ⟨_, _, _, (by first | exact M.at_ 0 rfl | exact M.at_ 1 rfl | exact M.at_ 2 rfl | exact M.at_ 3 rfl | exact M.at_ 4 rfl | exact M.at_ 5 rfl), rfl⟩ ?_ -- ld3 outright.go:85
  -- call4: (*valise/cache.Cache).Pin outright.go:85
  refine x_call rfl rfl rfl rfl rfl en20 (M.opPin' (k := k) (M' := []) (q := 9) rfl (by simp)) ?_
  rintro v w4 ⟨rfl, M⟩
  refine ⟨trivial, ?_⟩
  refine x_eqi true rfl rfl rfl rfl rfl rfl ?_ -- eq4 outright.go:85
  refine x_pickT rfl rfl rfl rfl rfl ?_
  refine x_move rfl rfl rfl rfl ?_
  -- call5: valise/valiselaw17.lives outright.go:85
  refine x_call rfl rfl rfl rfl rfl en8 (lives_c) ?_
  rintro v w9 ⟨rfl, hn⟩
  have M := M.new hn
  refine ⟨trivial, ?_⟩
  refine x_pickT rfl rfl rfl rfl rfl ?_
  refine x_assign rfl rfl rfl rfl ?_
  refine Ex.done (hK _ _ ?_)
  refine At.then_n ?_
  refine W.ret ?_
  refine At.then_r ?_
  refine At.ret1 (.tmp 8) rfl ⟨rfl, trivial⟩ ?_ -- ret1
  exact ⟨rfl, M.frm⟩

-- valise/valiselaw17.CachePins
set_option maxRecDepth 100000 in
theorem pins_fit {w0 : World} {k : Key} {sv : Value} {b : List UInt8} {v2 : Value} {A : List Ac} {bud : Int} (hA : ActsIn w0 v2 A) (hB : BytesIn w0 sv b) (h : 0 ≤ bud ∧ bud ≤ 1048576) (hfew : fewA A) (hb : b.length ≤ 4096 ∧ k.1.size ≤ 100) (hfit : (b.length : Int) ≤ bud) : Ret Try.prog 6 #[encK k, sv, v2, .int .i64 bud] w0 fun v w' => v = .bool true ∧ New w0 w' := by
  have M : St None' w0 [] w0 := Frm.refl _ _
  have hA0 := hA
  obtain ⟨pb, capb, rfl⟩ := hB.shape
  obtain ⟨p, cap, rfl, hAl, hA⟩ := hA
  refine Ret.of_W Try.func6 rfl Try.ntmps6 rfl ?_
  refine W.seq ?_
  refine W.sub [(0, _), (1, _), (2, _), (3, _)] ⟨rfl, rfl, rfl, rfl, trivial⟩ ?_
  refine W.reg [(0, true), (1, false)] (by kernel_rfl) ?_ -- region 0
  intro K hK
  refine x_box [_, _] rfl rfl rfl rfl rfl ?_ -- bx1 outright.go:79
  intro bbx1 wbx1 hbbx1 hwbx1
  have M := M.alloc hbbx1 hwbx1
  refine ⟨trivial, ?_⟩
  refine x_assign rfl rfl rfl rfl ?_
  refine Ex.done (hK _ _ ?_)
  refine At.then_n ?_
  refine W.seq ?_
  refine W.sub [(1, _), (2, _), (3, _), (4, _)] ⟨rfl, rfl, rfl, rfl, trivial⟩ ?_
  refine W.reg [(0, false), (1, true), (2, false), (3, false), (4, false), (5, false), (6, false)] (by kernel_rfl) ?_ -- region 1
  intro K hK
  refine x_move rfl rfl rfl rfl ?_
  -- call1: valise/cache.New outright.go:80
  refine x_call rfl rfl rfl rfl rfl en9 (opNew M h) ?_
  rintro v w1 ⟨c, rfl, M⟩
  refine ⟨trivial, ?_⟩
  refine x_move rfl rfl rfl rfl ?_
  refine x_ext rfl rfl rfl rfl rfl ?_ -- ex1
  refine x_ext rfl rfl rfl rfl rfl ?_ -- ex2
  refine x_assign rfl rfl rfl rfl ?_
  refine x_assign rfl rfl rfl rfl ?_
  refine Ex.done (hK _ _ ?_)
  refine At.then_n ?_
  refine W.seq ?_
  refine W.seq ?_
  refine W.sub [(1, _), (2, _), (3, _), (4, _), (9, _), (10, _)] ⟨rfl, rfl, rfl, rfl, rfl, rfl, trivial⟩ ?_
  refine W.reg [(0, false), (1, false), (2, false), (3, false), (4, false), (5, false), (6, false), (7, false), (8, true), (9, false), (10, false), (11, false), (12, false), (13, false), (14, false), (15, false), (16, false), (17, false), (18, false), (19, false), (20, false), (21, false)] (by kernel_rfl) ?_ -- region 2
  intro K hK
  refine x_move rfl rfl rfl rfl ?_
  refine x_nei false rfl rfl rfl rfl rfl rfl ?_ -- eq1 outright.go:81
  refine x_move rfl rfl rfl rfl ?_
  refine x_move rfl rfl rfl rfl ?_
  refine x_eqpn false rfl rfl rfl Try.underlying23 rfl rfl rfl ?_ -- eq2 outright.go:81
  refine x_pickF rfl rfl rfl rfl rfl ?_
  refine x_move rfl rfl rfl rfl ?_
  refine x_move rfl rfl rfl rfl ?_
  -- call2: valise/valiselaw17.few outright.go:81
  refine x_call rfl rfl rfl rfl rfl en13 (few_c (hA0.new M.frm)) ?_
  rintro v w2 ⟨rfl, rfl⟩
  refine ⟨trivial, ?_⟩
  refine x_not false rfl rfl rfl rfl (by simp [hfew]) ?_ -- un1 outright.go:81
  refine x_pickF rfl rfl rfl rfl rfl ?_
  refine x_move rfl rfl rfl rfl ?_
  refine x_move rfl rfl rfl rfl ?_
  refine x_len rfl rfl rfl rfl Try.underlying31 rfl ?_
  refine x_gtr false rfl rfl rfl rfl rfl (decide_eq_false (by omega)) ?_ -- cm1 outright.go:81
  refine x_pickF rfl rfl rfl rfl rfl ?_
  refine x_move rfl rfl rfl rfl ?_
  refine x_fa rfl rfl rfl fo29_0 rfl ?_
  refine x_ld rfl rfl rfl Try.underlying9 rfl rfl (cell_of (by first | exact M.at_ 0 rfl | exact M.at_ 1 rfl | exact M.at_ 2 rfl | exact M.at_ 3 rfl | exact M.at_ 4 rfl | exact M.at_ 5 rfl) rfl) ?_ -- ld1 outright.go:81
  refine x_lens rfl rfl rfl rfl Try.underlying9 rfl ?_
  refine x_gtr false rfl rfl rfl rfl rfl (decide_eq_false (by omega)) ?_ -- cm2 outright.go:81
  refine x_pickF rfl rfl rfl rfl rfl ?_
  refine Ex.done (hK _ _ ?_)
  refine At.then_n ?_
  refine W.condF rfl ?_ -- co1
  refine W.skip ?_
  refine At.then_n ?_
  refine W.seq ?_
  refine W.seq ?_
  refine W.sub [(1, _), (2, _), (3, _), (4, _), (9, _)] ⟨rfl, rfl, rfl, rfl, rfl, trivial⟩ ?_
  refine W.reg [(0, false), (1, false), (2, false), (3, true), (4, false)] (by kernel_rfl) ?_ -- region 4
  intro K hK
  refine x_move rfl rfl rfl rfl ?_
  refine x_ldA [_, _] rfl rfl rfl Try.underlying29 rfl sz29 rfl rfl ⟨_, _, _, (by first | exact M.at_ 0 rfl | exact M.at_ 1 rfl | exact M.at_ 2 rfl | exact M.at_ 3 rfl | exact M.at_ 4 rfl | exact M.at_ 5 rfl), rfl⟩ ?_ -- ld2 outright.go:84
  refine x_move rfl rfl rfl rfl ?_
  -- call3: (*valise/cache.Cache).Put outright.go:84
  refine x_call rfl rfl rfl rfl rfl en10 (M.opPut' (k := k) (by rw [put_nil hb.1, if_pos hfit]) (hB.new M.frm) (fun hne g hg => .inl (hB.lt hne hg)) (by omega)) ?_
  rintro v w3 ⟨rfl, M⟩
  refine ⟨trivial, ?_⟩
  refine x_nei false rfl rfl rfl rfl rfl rfl ?_ -- eq3 outright.go:84
  refine Ex.done (hK _ _ ?_)
  refine At.then_n ?_
  refine W.condF rfl ?_ -- co2
  refine W.skip ?_
  refine At.then_n ?_
  refine W.seq ?_
  refine W.seq ?_
  refine W.sub [(1, _), (2, _), (4, _), (9, _)] ⟨rfl, rfl, rfl, rfl, trivial⟩ ?_
  refine W.reg [(0, false), (1, false), (2, true), (3, false), (4, false), (5, false), (6, false), (7, true), (8, false), (9, false), (10, false), (11, false), (12, false), (13, true), (14, false), (15, false), (16, false), (17, false), (18, false), (19, true), (20, false), (21, false)] (by kernel_rfl) ?_ -- region 6
  intro K hK
  refine x_move rfl rfl rfl rfl ?_
  refine x_ldA [_, _] rfl rfl rfl Try.underlying29 rfl sz29 rfl rfl ⟨_, _, _, (by first | exact M.at_ 0 rfl | exact M.at_ 1 rfl | exact M.at_ 2 rfl | exact M.at_ 3 rfl | exact M.at_ 4 rfl | exact M.at_ 5 rfl), rfl⟩ ?_ -- ld3 outright.go:87
  -- call4: (*valise/cache.Cache).Pin outright.go:87
  refine x_call rfl rfl rfl rfl rfl en20 (M.opPin' (k := k) (M' := [(k, b, 1)]) (q := 0) (by simp [pinM]) (by simp)) ?_
  rintro v w4 ⟨rfl, M⟩
  refine ⟨trivial, ?_⟩
  refine x_nei false rfl rfl rfl rfl rfl rfl ?_ -- eq4 outright.go:87
  refine x_move rfl rfl rfl rfl ?_
  refine x_move rfl rfl rfl rfl ?_
  refine x_ldA [_, _] rfl rfl rfl Try.underlying29 rfl sz29 rfl rfl ⟨_, _, _, (by first | exact M.at_ 0 rfl | exact M.at_ 1 rfl | exact M.at_ 2 rfl | exact M.at_ 3 rfl | exact M.at_ 4 rfl | exact M.at_ 5 rfl), rfl⟩ ?_ -- ld4 outright.go:87
  -- call5: (*valise/cache.Cache).Pin outright.go:87
  refine x_call rfl rfl rfl rfl rfl en20 (M.opPin' (k := k) (M' := [(k, b, 2)]) (q := 0) (by simp [pinM]) (by simp)) ?_
  rintro v w5 ⟨rfl, M⟩
  refine ⟨trivial, ?_⟩
  refine x_nei false rfl rfl rfl rfl rfl rfl ?_ -- eq5 outright.go:87
  refine x_pickF rfl rfl rfl rfl rfl ?_
  refine x_move rfl rfl rfl rfl ?_
  refine x_move rfl rfl rfl rfl ?_
  refine x_ldA [_, _] rfl rfl rfl Try.underlying29 rfl sz29 rfl rfl ⟨_, _, _, (by first | exact M.at_ 0 rfl | exact M.at_ 1 rfl | exact M.at_ 2 rfl | exact M.at_ 3 rfl | exact M.at_ 4 rfl | exact M.at_ 5 rfl), rfl⟩ ?_ -- ld5 outright.go:87
  -- call6: (*valise/cache.Cache).Unpin outright.go:87
  refine x_call rfl rfl rfl rfl rfl en21 (M.opUnpin' (k := k) (M' := [(k, b, 1)]) (q := 0) (by simp [pinM]) (by simp)) ?_
  rintro v w6 ⟨rfl, M⟩
  refine ⟨trivial, ?_⟩
  refine x_nei false rfl rfl rfl rfl rfl rfl ?_ -- eq6 outright.go:87
  refine x_pickF rfl rfl rfl rfl rfl ?_
  refine x_move rfl rfl rfl rfl ?_
  refine x_move rfl rfl rfl rfl ?_
  refine x_ldA [_, _] rfl rfl rfl Try.underlying29 rfl sz29 rfl rfl ⟨_, _, _, (by first | exact M.at_ 0 rfl | exact M.at_ 1 rfl | exact M.at_ 2 rfl | exact M.at_ 3 rfl | exact M.at_ 4 rfl | exact M.at_ 5 rfl), rfl⟩ ?_ -- ld6 outright.go:87
  -- call7: (*valise/cache.Cache).Pins outright.go:87
  refine x_call rfl rfl rfl rfl rfl en22 (M.opPins' (k := k) (q := 1) (by simp [pinsM])) ?_
  rintro v w7 ⟨rfl, M⟩
  refine ⟨trivial, ?_⟩
  refine x_nei false rfl rfl rfl rfl rfl rfl ?_ -- eq7 outright.go:87
  refine x_pickF rfl rfl rfl rfl rfl ?_
  refine Ex.done (hK _ _ ?_)
  refine At.then_n ?_
  refine W.condF rfl ?_ -- co3
  refine W.skip ?_
  refine At.then_n ?_
  refine W.seq ?_
  refine W.seq ?_
  refine W.sub [(1, _), (2, _), (4, _), (9, _)] ⟨rfl, rfl, rfl, rfl, trivial⟩ ?_
  refine W.reg [(0, false)] (by kernel_rfl) ?_ -- region 8
  intro K hK
  refine x_assign rfl rfl rfl rfl ?_
  refine Ex.done (hK _ _ ?_)
  refine At.then_n ?_
  refine W.block ?_
  refine W.loop (σ := Nat) (fun s => [(1, _), (2, _), (4, _), (9, _), (11, .int .i64 ((s : Nat) : Int))]) (fun s w => s ≤ A.length ∧ ∃ M0, BdM (s + 3) M0 ∧ (k, b, (1 : Int)) ∈ M0 ∧ CS w0 [(bbx1, .cells [.string k.1, .int .i64 k.2].toArray 29 (0, 0))] c bud M0 w) (fun s => A.length - s) 0 ⟨rfl, rfl, rfl, rfl, rfl, trivial⟩ ⟨Nat.zero_le _, _, ⟨by simp, by simp⟩, by simp, M⟩ ?_ -- loop1
  rintro s w ⟨hsl, M0, hbd, hin, M⟩
  refine W.seq ?_
  refine W.seq ?_
  refine W.sub [(1, _), (2, _), (4, _), (9, _), (11, _)] ⟨rfl, rfl, rfl, rfl, rfl, trivial⟩ ?_
  refine W.reg [(0, false), (1, false), (2, false), (3, false)] (by kernel_rfl) ?_ -- region 9
  intro K hK
  refine x_move rfl rfl rfl rfl ?_
  refine x_move rfl rfl rfl rfl ?_
  refine x_len rfl rfl rfl rfl Try.underlying35 rfl ?_
  refine x_lss _ rfl rfl rfl rfl rfl rfl ?_ -- cm3 outright.go:90
  refine Ex.done (hK _ _ ?_)
  refine At.then_n ?_
  refine W.cond rfl (fun hco4 => ?_) (fun hco4 => ?_) -- co4
  · have hlt : s < A.length := by have := of_decide_eq_true hco4; omega
    obtain ⟨a, ha⟩ : ∃ a, A[s]? = some a := ⟨A[s], List.getElem?_eq_getElem hlt⟩
    obtain ⟨bk, off, rfl, hbl, hrow, hby⟩ := hA s a ha
    have ham : a ∈ A := List.mem_of_getElem? ha
    refine W.skip ?_
    refine At.then_n ?_
    refine W.seq ?_
    refine W.block ?_
    refine W.seq ?_
    refine W.sub [(1, _), (2, _), (4, _), (9, _), (11, _)] ⟨rfl, rfl, rfl, rfl, rfl, trivial⟩ ?_
    refine W.seqC (fun F' w' => ∃ bb : Bool, (bb = true ↔ skipA a k) ∧ F' = [(1, .slice pb b.length capb), (2, .slice (some ⟨bk, off, none⟩) A.length cap), (4, ptr bbx1), (9, ptr c), (11, .int .i64 ((s : Nat) : Int)), (139, .bool bb)] ∧ CS w0 [(bbx1, .cells [.string k.1, .int .i64 k.2].toArray 29 (0, 0))] c bud M0 w') ?_ ?_ -- cut 11
    · refine W.sub [(1, _), (2, _), (4, _), (9, _), (11, _)] ⟨rfl, rfl, rfl, rfl, rfl, trivial⟩ ?_
      refine W.regD (by kernel_rfl) #[0, 0, 3, 7, 15, 0, 63, 127, 255, 255, 1023, 2047, 4095, 8191, 16383, 32767, 65535, 65535, 262143, 524287, 1048575, 2097151, 4194303, 8388607, 16777215, 16777215, 67108863, 134217727, 268435455, 536870911, 1073741823, 2147483647, 2147483647, 8589934591, 17179869183, 34359738367, 68719476735, 2147483647, 139586437119, 549755813887, 1099511627775, 2199023255551] [(0, false), (1, false), (2, false), (3, false), (4, false), (5, false), (6, false), (7, false), (8, false), (9, false), (10, false), (11, false), (12, false), (13, false), (14, false), (15, false), (16, false), (17, false), (18, false), (19, false), (20, false), (21, false), (22, false), (23, false), (24, false), (25, false), (26, false), (27, false), (28, false), (29, false), (30, false), (31, false), (32, false), (33, false), (34, false), (35, false), (36, false), (37, false), (38, false), (39, false), (40, false), (41, false)] (by kernel_rfl) ?_ -- region 11
      intro K wD1 hK hwD1
      have M := M.drew hwD1
      have hr := rowAt_keep hrow (M.frm.old bk hbl id)
      refine x_move rfl rfl rfl rfl ?_
      refine x_move rfl rfl rfl rfl ?_
      refine x_ia s rfl rfl rfl Try.underlying35 sz39 rfl rfl rfl hlt ?_ -- ia1 outright.go:91
      refine x_fa rfl rfl rfl fo39_1 rfl ?_
      refine x_ldA [_, _] rfl rfl rfl Try.underlying29 rfl sz29 rfl rfl (row_key hr) ?_ -- ld7 outright.go:91
      refine x_ldA [_, _] rfl rfl rfl Try.underlying29 rfl sz29 rfl rfl ⟨_, _, _, (by first | exact M.at_ 0 rfl | exact M.at_ 1 rfl | exact M.at_ 2 rfl | exact M.at_ 3 rfl | exact M.at_ 4 rfl | exact M.at_ 5 rfl), rfl⟩ ?_ -- ld8 outright.go:91
      refine x_bin (v := .bool (decide (a.k = k))) rfl rfl rfl rfl rfl (fun w' => run_eq_key a.k k _ _ w') ?_ -- eq8 outright.go:91
      refine x_move rfl rfl rfl rfl ?_
      refine Ex.split 105 rfl (fun hsp1 => ?_) (fun hsp1 => ?_)
      · -- sp1 True
        refine x_move rfl rfl rfl rfl ?_
        refine x_move rfl rfl rfl rfl ?_
        refine x_ia s rfl rfl rfl Try.underlying35 sz39 rfl rfl rfl hlt ?_ -- ia2 outright.go:91
        refine x_fa rfl rfl rfl fo39_0 rfl ?_
        refine x_ld rfl rfl rfl Try.underlying3 rfl rfl (row_cell (j := 0) hr rfl) ?_ -- ld9 outright.go:91
        refine x_geq _ rfl rfl rfl rfl rfl rfl ?_ -- cm4 outright.go:91
        refine x_pickT rfl rfl rfl rfl rfl ?_
        refine x_move rfl rfl rfl rfl ?_
        refine Ex.split 113 rfl (fun hsp2 => ?_) (fun hsp2 => ?_)
        · -- sp2 True
          refine x_move rfl rfl rfl rfl ?_
          refine x_move rfl rfl rfl rfl ?_
          refine x_ia s rfl rfl rfl Try.underlying35 sz39 rfl rfl rfl hlt ?_ -- ia3 outright.go:91
          refine x_fa rfl rfl rfl fo39_0 rfl ?_
          refine x_ld rfl rfl rfl Try.underlying3 rfl rfl (row_cell (j := 0) hr rfl) ?_ -- ld10 outright.go:91
          refine x_leq _ rfl rfl rfl rfl rfl rfl ?_ -- cm5 outright.go:91
          refine x_pickT rfl rfl rfl rfl rfl ?_
          refine x_move rfl rfl rfl rfl ?_
          refine Ex.split 121 rfl (fun hsp3 => ?_) (fun hsp3 => ?_)
          · -- sp3 True
            refine Ex.skip_ rfl rfl rfl ?_
            refine Ex.skip_ rfl rfl rfl ?_
            refine Ex.skip_ rfl rfl rfl ?_
            refine Ex.skip_ rfl rfl rfl ?_
            refine Ex.skip_ rfl rfl rfl ?_
            refine Ex.skip_ rfl rfl rfl ?_
            refine Ex.skip_ rfl rfl rfl ?_
            refine Ex.skip_ rfl rfl rfl ?_
            refine Ex.skip_ rfl rfl rfl ?_
            refine Ex.skip_ rfl rfl rfl ?_
            refine Ex.skip_ rfl rfl rfl ?_
            refine Ex.skip_ rfl rfl rfl ?_
            refine Ex.skip_ rfl rfl rfl ?_
            refine Ex.skip_ rfl rfl rfl ?_
            refine Ex.skip_ rfl rfl rfl ?_
            refine Ex.skip_ rfl rfl rfl ?_
            refine Ex.skip_ rfl rfl rfl ?_
            refine x_pickT rfl rfl rfl rfl rfl ?_
            refine Ex.done (hK _ _ ?_)
            refine At.sub [(1, _), (2, _), (4, _), (9, _), (11, _), (139, _)] ⟨rfl, rfl, rfl, rfl, rfl, rfl, trivial⟩ ?_
            refine At.cut_n ?_ -- ac1
            exact ⟨true, iff_of_true rfl (.inl ⟨of_decide_eq_true hsp1, of_decide_eq_true hsp2, of_decide_eq_true hsp3⟩), rfl, M⟩
          · -- sp3 False
            refine x_move rfl rfl rfl rfl ?_
            refine x_move rfl rfl rfl rfl ?_
            refine x_ia s rfl rfl rfl Try.underlying35 sz39 rfl rfl rfl hlt ?_ -- ia4 outright.go:91
            refine x_fa rfl rfl rfl fo39_0 rfl ?_
            refine x_ld rfl rfl rfl Try.underlying3 rfl rfl (row_cell (j := 0) hr rfl) ?_ -- ld11 outright.go:91
            refine x_eqi _ rfl rfl rfl rfl rfl rfl ?_ -- eq9 outright.go:91
            refine x_move rfl rfl rfl rfl ?_
            refine Ex.split 128 rfl (fun hsp4 => ?_) (fun hsp4 => ?_)
            · -- sp4 True
              refine x_move rfl rfl rfl rfl ?_
              refine x_move rfl rfl rfl rfl ?_
              refine x_ia s rfl rfl rfl Try.underlying35 sz39 rfl rfl rfl hlt ?_ -- ia5 outright.go:91
              refine x_fa rfl rfl rfl fo39_1 rfl ?_
              refine x_fa rfl rfl rfl fo29_0 rfl ?_
              refine x_ld rfl rfl rfl Try.underlying9 rfl rfl (row_cell (j := 1) hr rfl) ?_ -- ld12 outright.go:91
              refine x_fa rfl rfl rfl fo29_0 rfl ?_
              refine x_ld rfl rfl rfl Try.underlying9 rfl rfl (cell_of (by first | exact M.at_ 0 rfl | exact M.at_ 1 rfl | exact M.at_ 2 rfl | exact M.at_ 3 rfl | exact M.at_ 4 rfl | exact M.at_ 5 rfl) rfl) ?_ -- ld13 outright.go:91
              refine x_eqs _ rfl rfl rfl rfl rfl rfl ?_ -- eq10 outright.go:91
              refine x_pickT rfl rfl rfl rfl rfl ?_
              refine x_pickF rfl rfl rfl rfl rfl ?_
              refine Ex.done (hK _ _ ?_)
              refine At.sub [(1, _), (2, _), (4, _), (9, _), (11, _), (139, _)] ⟨rfl, rfl, rfl, rfl, rfl, rfl, trivial⟩ ?_
              refine At.cut_n ?_ -- ac2
              exact ⟨_, skip_iff4 (by simpa using hsp4), rfl, M⟩
            · -- sp4 False
              refine Ex.skip_ rfl rfl rfl ?_
              refine Ex.skip_ rfl rfl rfl ?_
              refine Ex.skip_ rfl rfl rfl ?_
              refine Ex.skip_ rfl rfl rfl ?_
              refine Ex.skip_ rfl rfl rfl ?_
              refine Ex.skip_ rfl rfl rfl ?_
              refine Ex.skip_ rfl rfl rfl ?_
              refine Ex.skip_ rfl rfl rfl ?_
              refine Ex.skip_ rfl rfl rfl ?_
              refine x_pickF rfl rfl rfl rfl rfl ?_
              refine x_pickF rfl rfl rfl rfl rfl ?_
              refine Ex.done (hK _ _ ?_)
              refine At.sub [(1, _), (2, _), (4, _), (9, _), (11, _), (139, _)] ⟨rfl, rfl, rfl, rfl, rfl, rfl, trivial⟩ ?_
              refine At.cut_n ?_ -- ac3
              exact ⟨false, iff_of_false (by simp) (skip_no (fun h => of_decide_eq_false hsp3 h.2.2) (by simpa using hsp4)), rfl, M⟩
        · -- sp2 False
          refine Ex.skip_ rfl rfl rfl ?_
          refine Ex.skip_ rfl rfl rfl ?_
          refine Ex.skip_ rfl rfl rfl ?_
          refine Ex.skip_ rfl rfl rfl ?_
          refine Ex.skip_ rfl rfl rfl ?_
          refine Ex.skip_ rfl rfl rfl ?_
          refine x_pickF rfl rfl rfl rfl rfl ?_
          refine x_move rfl rfl rfl rfl ?_
          refine x_move rfl rfl rfl rfl ?_
          refine x_move rfl rfl rfl rfl ?_
          refine x_ia s rfl rfl rfl Try.underlying35 sz39 rfl rfl rfl hlt ?_ -- ia6 outright.go:91
          refine x_fa rfl rfl rfl fo39_0 rfl ?_
          refine x_ld rfl rfl rfl Try.underlying3 rfl rfl (row_cell (j := 0) hr rfl) ?_ -- ld14 outright.go:91
          refine x_eqi _ rfl rfl rfl rfl rfl rfl ?_ -- eq11 outright.go:91
          refine x_move rfl rfl rfl rfl ?_
          refine Ex.split 128 rfl (fun hsp5 => ?_) (fun hsp5 => ?_)
          · -- sp5 True
            refine x_move rfl rfl rfl rfl ?_
            refine x_move rfl rfl rfl rfl ?_
            refine x_ia s rfl rfl rfl Try.underlying35 sz39 rfl rfl rfl hlt ?_ -- ia7 outright.go:91
            refine x_fa rfl rfl rfl fo39_1 rfl ?_
            refine x_fa rfl rfl rfl fo29_0 rfl ?_
            refine x_ld rfl rfl rfl Try.underlying9 rfl rfl (row_cell (j := 1) hr rfl) ?_ -- ld15 outright.go:91
            refine x_fa rfl rfl rfl fo29_0 rfl ?_
            refine x_ld rfl rfl rfl Try.underlying9 rfl rfl (cell_of (by first | exact M.at_ 0 rfl | exact M.at_ 1 rfl | exact M.at_ 2 rfl | exact M.at_ 3 rfl | exact M.at_ 4 rfl | exact M.at_ 5 rfl) rfl) ?_ -- ld16 outright.go:91
            refine x_eqs _ rfl rfl rfl rfl rfl rfl ?_ -- eq12 outright.go:91
            refine x_pickT rfl rfl rfl rfl rfl ?_
            refine x_pickF rfl rfl rfl rfl rfl ?_
            refine Ex.done (hK _ _ ?_)
            refine At.sub [(1, _), (2, _), (4, _), (9, _), (11, _), (139, _)] ⟨rfl, rfl, rfl, rfl, rfl, rfl, trivial⟩ ?_
            refine At.cut_n ?_ -- ac4
            exact ⟨_, skip_iff4 (by simpa using hsp5), rfl, M⟩
          · -- sp5 False
            refine Ex.skip_ rfl rfl rfl ?_
            refine Ex.skip_ rfl rfl rfl ?_
            refine Ex.skip_ rfl rfl rfl ?_
            refine Ex.skip_ rfl rfl rfl ?_
            refine Ex.skip_ rfl rfl rfl ?_
            refine Ex.skip_ rfl rfl rfl ?_
            refine Ex.skip_ rfl rfl rfl ?_
            refine Ex.skip_ rfl rfl rfl ?_
            refine Ex.skip_ rfl rfl rfl ?_
            refine x_pickF rfl rfl rfl rfl rfl ?_
            refine x_pickF rfl rfl rfl rfl rfl ?_
            refine Ex.done (hK _ _ ?_)
            refine At.sub [(1, _), (2, _), (4, _), (9, _), (11, _), (139, _)] ⟨rfl, rfl, rfl, rfl, rfl, rfl, trivial⟩ ?_
            refine At.cut_n ?_ -- ac5
            exact ⟨false, iff_of_false (by simp) (skip_no (fun h => of_decide_eq_false hsp2 h.2.1) (by simpa using hsp5)), rfl, M⟩
      · -- sp1 False
        refine Ex.skip_ rfl rfl rfl ?_
        refine Ex.skip_ rfl rfl rfl ?_
        refine Ex.skip_ rfl rfl rfl ?_
        refine Ex.skip_ rfl rfl rfl ?_
        refine Ex.skip_ rfl rfl rfl ?_
        refine Ex.skip_ rfl rfl rfl ?_
        refine x_pickF rfl rfl rfl rfl rfl ?_
        refine x_move rfl rfl rfl rfl ?_
        refine Ex.skip_ rfl rfl rfl ?_
        refine Ex.skip_ rfl rfl rfl ?_
        refine Ex.skip_ rfl rfl rfl ?_
        refine Ex.skip_ rfl rfl rfl ?_
        refine Ex.skip_ rfl rfl rfl ?_
        refine Ex.skip_ rfl rfl rfl ?_
        refine x_pickF rfl rfl rfl rfl rfl ?_
        refine x_move rfl rfl rfl rfl ?_
        refine x_move rfl rfl rfl rfl ?_
        refine x_move rfl rfl rfl rfl ?_
        refine x_ia s rfl rfl rfl Try.underlying35 sz39 rfl rfl rfl hlt ?_ -- ia8 outright.go:91
        refine x_fa rfl rfl rfl fo39_0 rfl ?_
        refine x_ld rfl rfl rfl Try.underlying3 rfl rfl (row_cell (j := 0) hr rfl) ?_ -- ld17 outright.go:91
        refine x_eqi _ rfl rfl rfl rfl rfl rfl ?_ -- eq13 outright.go:91
        refine x_move rfl rfl rfl rfl ?_
        refine Ex.split 128 rfl (fun hsp6 => ?_) (fun hsp6 => ?_)
        · -- sp6 True
          refine x_move rfl rfl rfl rfl ?_
          refine x_move rfl rfl rfl rfl ?_
          refine x_ia s rfl rfl rfl Try.underlying35 sz39 rfl rfl rfl hlt ?_ -- ia9 outright.go:91
          refine x_fa rfl rfl rfl fo39_1 rfl ?_
          refine x_fa rfl rfl rfl fo29_0 rfl ?_
          refine x_ld rfl rfl rfl Try.underlying9 rfl rfl (row_cell (j := 1) hr rfl) ?_ -- ld18 outright.go:91
          refine x_fa rfl rfl rfl fo29_0 rfl ?_
          refine x_ld rfl rfl rfl Try.underlying9 rfl rfl (cell_of (by first | exact M.at_ 0 rfl | exact M.at_ 1 rfl | exact M.at_ 2 rfl | exact M.at_ 3 rfl | exact M.at_ 4 rfl | exact M.at_ 5 rfl) rfl) ?_ -- ld19 outright.go:91
          refine x_eqs _ rfl rfl rfl rfl rfl rfl ?_ -- eq14 outright.go:91
          refine x_pickT rfl rfl rfl rfl rfl ?_
          refine x_pickF rfl rfl rfl rfl rfl ?_
          refine Ex.done (hK _ _ ?_)
          refine At.sub [(1, _), (2, _), (4, _), (9, _), (11, _), (139, _)] ⟨rfl, rfl, rfl, rfl, rfl, rfl, trivial⟩ ?_
          refine At.cut_n ?_ -- ac6
          exact ⟨_, skip_iff4 (by simpa using hsp6), rfl, M⟩
        · -- sp6 False
          refine Ex.skip_ rfl rfl rfl ?_
          refine Ex.skip_ rfl rfl rfl ?_
          refine Ex.skip_ rfl rfl rfl ?_
          refine Ex.skip_ rfl rfl rfl ?_
          refine Ex.skip_ rfl rfl rfl ?_
          refine Ex.skip_ rfl rfl rfl ?_
          refine Ex.skip_ rfl rfl rfl ?_
          refine Ex.skip_ rfl rfl rfl ?_
          refine Ex.skip_ rfl rfl rfl ?_
          refine x_pickF rfl rfl rfl rfl rfl ?_
          refine x_pickF rfl rfl rfl rfl rfl ?_
          refine Ex.done (hK _ _ ?_)
          refine At.sub [(1, _), (2, _), (4, _), (9, _), (11, _), (139, _)] ⟨rfl, rfl, rfl, rfl, rfl, rfl, trivial⟩ ?_
          refine At.cut_n ?_ -- ac7
          exact ⟨false, iff_of_false (by simp) (skip_no (fun h => of_decide_eq_false hsp1 h.1) (by simpa using hsp6)), rfl, M⟩
    rintro F1 w5 ⟨bb, hbb, rfl, M⟩
    refine W.cond rfl (fun hco5 => ?_) (fun hco5 => ?_) -- co5
    · refine W.exit ?_
      refine At.then_x ?_
      refine At.blk_x ?_
      refine At.then_n ?_
      refine W.sub [(1, _), (2, _), (4, _), (9, _), (11, _)] ⟨rfl, rfl, rfl, rfl, rfl, trivial⟩ ?_
      refine W.reg [(0, false), (1, false), (2, false)] (by kernel_rfl) ?_ -- region 10
      intro K hK
      refine x_move rfl rfl rfl rfl ?_
      refine x_add ((s + 1 : Nat) : Int) rfl rfl rfl rfl rfl (by rw [wrap64_id (by omega) (by omega)]; omega) ?_ -- ar1 outright.go:90
      refine x_assign rfl rfl rfl rfl ?_
      refine Ex.done (hK _ _ ?_)
      -- bk1: back to loop1
      exact At.back (s + 1) ⟨rfl, rfl, rfl, rfl, rfl, trivial⟩ ⟨by omega, M0, ⟨Nat.le_trans hbd.1 (by omega), fun m hm => Int.le_trans (hbd.2 m hm) (by omega)⟩, hin, M⟩ (by omega)
    · have hsk : ¬ skipA a k := fun h => by have := hbb.2 h; rw [hco5] at this; cases this
      have hks := M.keys
      have hin := keepM (bud := bud) hks hin hsk
      refine W.skip ?_
      refine At.then_n ?_
      refine W.seq ?_
      refine W.sub [(1, _), (2, _), (4, _), (9, _), (11, _)] ⟨rfl, rfl, rfl, rfl, rfl, trivial⟩ ?_
      refine W.reg [(0, false), (1, false), (2, false), (3, false), (4, false), (5, true)] (by kernel_rfl) ?_ -- region 12
      intro K hK
      refine x_move rfl rfl rfl rfl ?_
      refine x_move rfl rfl rfl rfl ?_
      refine x_move rfl rfl rfl rfl ?_
      refine x_ia s rfl rfl rfl Try.underlying35 sz39 rfl rfl rfl hlt ?_ -- ia10 outright.go:94
      refine x_ldA [_, _, _, _] rfl rfl rfl Try.underlying39 rfl sz39 rfl rfl (rowAt_keep hrow (M.frm.old bk hbl id)) ?_ -- ld20 outright.go:94
      -- call8: valise/valiselaw17.do outright.go:94
      refine x_call rfl rfl rfl rfl rfl en14 (do_c M hby (by have := (hfew.2 a ham).1; omega) (fun m hm => by have := hbd.2 m hm; have := hfew.1; omega) (by have := hbd.1; have := hfew.1; omega)) ?_
      rintro v w3 ⟨rfl, M⟩
      have hbd := hbd.step bud a
      have hgh := getM_has (m := (k, b, (1 : Int))) M.keys hin
      refine ⟨trivial, ?_⟩
      refine Ex.done (hK _ _ ?_)
      refine At.then_n ?_
      refine W.seq ?_
      refine W.sub [(1, _), (2, _), (4, _), (9, _), (11, _)] ⟨rfl, rfl, rfl, rfl, rfl, trivial⟩ ?_
      refine W.reg [(0, false), (1, false), (2, true), (3, false), (4, false), (5, false), (6, false), (7, false)] (by kernel_rfl) ?_ -- region 13
      intro K hK
      refine x_move rfl rfl rfl rfl ?_
      refine x_ldA [_, _] rfl rfl rfl Try.underlying29 rfl sz29 rfl rfl ⟨_, _, _, (by first | exact M.at_ 0 rfl | exact M.at_ 1 rfl | exact M.at_ 2 rfl | exact M.at_ 3 rfl | exact M.at_ 4 rfl | exact M.at_ 5 rfl), rfl⟩ ?_ -- ld21 outright.go:95
      -- call9: (*valise/cache.Cache).Get outright.go:95
      refine x_call rfl rfl rfl rfl rfl en16 (M.opGetS hgh.1) ?_
      rintro v w4 ⟨M, sv, rfl, hsv, _, _⟩
      obtain ⟨p7, cap7, rfl⟩ := hsv.shape
      refine ⟨trivial, ?_⟩
      refine x_move rfl rfl rfl rfl ?_
      refine x_ext rfl rfl rfl rfl rfl ?_ -- ex3
      refine x_ext rfl rfl rfl rfl rfl ?_ -- ex4
      refine x_assign rfl rfl rfl rfl ?_
      refine x_assign rfl rfl rfl rfl ?_
      refine Ex.done (hK _ _ ?_)
      refine At.then_n ?_
      refine W.seq ?_
      refine W.sub [(1, _), (2, _), (4, _), (9, _), (11, _), (12, _), (13, _)] ⟨rfl, rfl, rfl, rfl, rfl, rfl, rfl, trivial⟩ ?_
      refine W.reg [(0, false), (1, false), (2, false), (3, false), (4, false), (5, false), (6, false), (7, false), (8, false), (9, false), (10, false), (11, false), (12, true), (13, false), (14, false)] (by kernel_rfl) ?_ -- region 14
      intro K hK
      refine x_move rfl rfl rfl rfl ?_
      refine x_not false rfl rfl rfl rfl rfl ?_ -- un2 outright.go:96
      refine x_move rfl rfl rfl rfl ?_
      refine x_move rfl rfl rfl rfl ?_
      refine x_cvbs b rfl rfl rfl Try.underlying31 Try.underlying5 Try.underlying9 rfl hsv.strOf ?_ -- cv1 outright.go:96
      refine x_move rfl rfl rfl rfl ?_
      refine x_cvbs b rfl rfl rfl Try.underlying31 Try.underlying5 Try.underlying9 rfl (hB.new M.frm).strOf ?_ -- cv2 outright.go:96
      refine x_nes false rfl rfl rfl rfl rfl (by simp) ?_ -- eq15 outright.go:96
      refine x_pickF rfl rfl rfl rfl rfl ?_
      refine x_move rfl rfl rfl rfl ?_
      refine x_move rfl rfl rfl rfl ?_
      refine x_ldA [_, _] rfl rfl rfl Try.underlying29 rfl sz29 rfl rfl ⟨_, _, _, (by first | exact M.at_ 0 rfl | exact M.at_ 1 rfl | exact M.at_ 2 rfl | exact M.at_ 3 rfl | exact M.at_ 4 rfl | exact M.at_ 5 rfl), rfl⟩ ?_ -- ld22 outright.go:96
      -- call10: (*valise/cache.Cache).Pins outright.go:96
      refine x_call rfl rfl rfl rfl rfl en22 (M.opPins' (pins_has (m := (k, b, (1 : Int))) M.keys (by simp))) ?_
      rintro v w8 ⟨rfl, M⟩
      refine ⟨trivial, ?_⟩
      refine x_nei false rfl rfl rfl rfl rfl rfl ?_ -- eq16 outright.go:96
      refine x_pickF rfl rfl rfl rfl rfl ?_
      refine Ex.done (hK _ _ ?_)
      refine At.then_n ?_
      refine W.condF rfl ?_ -- co6
      refine W.skip ?_
      refine At.blk_n ?_
      refine At.then_n ?_
      refine W.sub [(1, _), (2, _), (4, _), (9, _), (11, _)] ⟨rfl, rfl, rfl, rfl, rfl, trivial⟩ ?_
      refine W.reg [(0, false), (1, false), (2, false)] (by kernel_rfl) ?_ -- region 10
      intro K hK
      refine x_move rfl rfl rfl rfl ?_
      refine x_add ((s + 1 : Nat) : Int) rfl rfl rfl rfl rfl (by rw [wrap64_id (by omega) (by omega)]; omega) ?_ -- ar2 outright.go:90
      refine x_assign rfl rfl rfl rfl ?_
      refine Ex.done (hK _ _ ?_)
      -- bk2: back to loop1
      exact At.back (s + 1) ⟨rfl, rfl, rfl, rfl, rfl, trivial⟩ ⟨by omega, _, (by have := hbd.perm hgh.2; rwa [show s + 1 + 3 = s + 3 + 1 from by omega]), by simp, M⟩ (by omega)
  · have hin0 : (k, b, (0 : Int)) ∈ M0.map (fun x => if x.1 = k then (x.1, x.2.1, x.2.2 + (-1)) else x) := List.mem_map.2 ⟨_, hin, by simp⟩
    have hs60 := hfew.1
    refine W.exit ?_
    refine At.then_x ?_
    refine At.loop_x ?_
    refine At.blk_x ?_
    refine At.then_n ?_
    refine W.seq ?_
    refine W.seq ?_
    refine W.sub [(4, _), (9, _)] ⟨rfl, rfl, trivial⟩ ?_
    refine W.reg [(0, false), (1, false), (2, true), (3, false), (4, false), (5, false), (6, false), (7, true), (8, false), (9, false)] (by kernel_rfl) ?_ -- region 16
    intro K hK
    refine x_move rfl rfl rfl rfl ?_
    refine x_ldA [_, _] rfl rfl rfl Try.underlying29 rfl sz29 rfl rfl ⟨_, _, _, (by first | exact M.at_ 0 rfl | exact M.at_ 1 rfl | exact M.at_ 2 rfl | exact M.at_ 3 rfl | exact M.at_ 4 rfl | exact M.at_ 5 rfl), rfl⟩ ?_ -- ld23 outright.go:100
    -- call11: (*valise/cache.Cache).Unpin outright.go:100
    refine x_call rfl rfl rfl rfl rfl en21 (M.opUnpin' (pin_has (m := (k, b, (1 : Int))) (q := -1) M.keys hin (by simp)) (fun m hm => by have := hbd.2 m hm; omega)) ?_
    rintro v w9 ⟨rfl, M⟩
    refine ⟨trivial, ?_⟩
    refine x_nei false rfl rfl rfl rfl rfl rfl ?_ -- eq17 outright.go:100
    refine x_move rfl rfl rfl rfl ?_
    refine x_move rfl rfl rfl rfl ?_
    refine x_ldA [_, _] rfl rfl rfl Try.underlying29 rfl sz29 rfl rfl ⟨_, _, _, (by first | exact M.at_ 0 rfl | exact M.at_ 1 rfl | exact M.at_ 2 rfl | exact M.at_ 3 rfl | exact M.at_ 4 rfl | exact M.at_ 5 rfl), rfl⟩ ?_ -- ld24 outright.go:100
    -- call12: (*valise/cache.Cache).Unpin outright.go:100
    refine x_call rfl rfl rfl rfl rfl en21 (M.opUnpin' (pin_low (m := (k, b, (0 : Int))) M.keys hin0 (by simp)) (fun m hm => by obtain ⟨x, hx, rfl⟩ := List.mem_map.1 hm; have := hbd.2 x hx; split <;> (first | omega | (simp only; omega)))) ?_
    rintro v w10 ⟨rfl, M⟩
    refine ⟨trivial, ?_⟩
    refine x_nei false rfl rfl rfl rfl rfl rfl ?_ -- eq18 outright.go:100
    refine x_pickF rfl rfl rfl rfl rfl ?_
    refine Ex.done (hK _ _ ?_)
    refine At.then_n ?_
    refine W.condF rfl ?_ -- co7
    refine W.skip ?_
    refine At.then_n ?_
    refine W.seq ?_
    refine W.sub [(4, _), (9, _)] ⟨rfl, rfl, trivial⟩ ?_
    refine W.reg [(0, false), (1, false), (2, false), (3, true), (4, false)] (by kernel_rfl) ?_ -- region 18
    intro K hK
    refine x_move rfl rfl rfl rfl ?_
    refine x_fa rfl rfl rfl fo29_0 rfl ?_
    refine x_ld rfl rfl rfl Try.underlying9 rfl rfl (cell_of (by first | exact M.at_ 0 rfl | exact M.at_ 1 rfl | exact M.at_ 2 rfl | exact M.at_ 3 rfl | exact M.at_ 4 rfl | exact M.at_ 5 rfl) rfl) ?_ -- ld25 outright.go:103
    -- call13: (*valise/cache.Cache).Drop outright.go:103
    refine x_call rfl rfl rfl rfl rfl en23 (M.opDrop k.1 (by have := hbd.1; simp; omega)) ?_
    rintro v w11 ⟨rfl, M⟩
    have hdl := drop_less hin0
    refine ⟨trivial, ?_⟩
    refine x_assign rfl rfl rfl rfl ?_
    refine Ex.done (hK _ _ ?_)
    refine At.then_n ?_
    refine W.seq ?_
    refine W.sub [(4, _), (9, _), (14, _)] ⟨rfl, rfl, rfl, trivial⟩ ?_
    refine W.reg [(0, false), (1, false), (2, true), (3, false), (4, false), (5, false), (6, false), (7, false)] (by kernel_rfl) ?_ -- region 19
    intro K hK
    refine x_move rfl rfl rfl rfl ?_
    refine x_ldA [_, _] rfl rfl rfl Try.underlying29 rfl sz29 rfl rfl ⟨_, _, _, (by first | exact M.at_ 0 rfl | exact M.at_ 1 rfl | exact M.at_ 2 rfl | exact M.at_ 3 rfl | exact M.at_ 4 rfl | exact M.at_ 5 rfl), rfl⟩ ?_ -- ld26 outright.go:104
    -- call14: (*valise/cache.Cache).Get outright.go:104
    refine x_call rfl rfl rfl rfl rfl en16 (M.opGetN (drop_none (k := k))) ?_
    rintro v w12 ⟨M, rfl⟩
    refine ⟨trivial, ?_⟩
    refine x_move rfl rfl rfl rfl ?_
    refine x_ext rfl rfl rfl rfl rfl ?_ -- ex5
    refine x_ext rfl rfl rfl rfl rfl ?_ -- ex6
    refine x_assign rfl rfl rfl rfl ?_
    refine x_assign rfl rfl rfl rfl ?_
    refine Ex.done (hK _ _ ?_)
    refine At.then_n ?_
    refine W.seq ?_
    refine W.sub [(14, _), (16, _)] ⟨rfl, rfl, trivial⟩ ?_
    refine W.reg [(0, false), (1, false), (2, false), (3, false), (4, false), (5, false), (6, false), (7, true), (8, false), (9, false)] (by kernel_rfl) ?_ -- region 20
    intro K hK
    refine x_move rfl rfl rfl rfl ?_
    refine x_geq true rfl rfl rfl rfl rfl (decide_eq_true (by simp only at hdl ⊢; omega)) ?_ -- cm6 outright.go:105
    refine x_move rfl rfl rfl rfl ?_
    refine x_move rfl rfl rfl rfl ?_
    refine x_not true rfl rfl rfl rfl rfl ?_ -- un3 outright.go:105
    refine x_pickT rfl rfl rfl rfl rfl ?_
    refine x_move rfl rfl rfl rfl ?_
    -- call15: valise/valiselaw17.lives outright.go:105
    refine x_call rfl rfl rfl rfl rfl en8 (lives_c) ?_
    rintro v w13 ⟨rfl, hn⟩
    have M := M.new hn
    refine ⟨trivial, ?_⟩
    refine x_pickT rfl rfl rfl rfl rfl ?_
    refine x_assign rfl rfl rfl rfl ?_
    refine Ex.done (hK _ _ ?_)
    refine At.then_n ?_
    refine W.ret ?_
    refine At.ret1 (.tmp 8) rfl ⟨rfl, trivial⟩ ?_ -- ret1
    exact ⟨rfl, M.frm⟩
end Go.Proofs.Ytbbccdcjhoecpaa
