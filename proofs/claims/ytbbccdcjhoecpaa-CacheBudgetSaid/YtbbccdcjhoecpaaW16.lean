/-
  The walk of functions of the cache, by program: budget_bad, budget_ok.
-/
import Derived.Test.YtbbccdcjhoecpaaTab
import Derived.Test.YtbbccdcjhoecpaaW15
import Derived.Test.YtbbccdcjhoecpaaA2
namespace Go.Proofs.Ytbbccdcjhoecpaa
open Go Go.Fw Go.RowKit Go.Proofs

-- valise/valiselaw17.CacheBudget
set_option maxRecDepth 100000 in
theorem budget_bad {w0 : World} {bud : Int} {v0 : Value} (h : bud < 0 ∨ 1048576 < bud) : Ret Try.prog 4 #[.int .i64 bud, v0] w0 fun v w' => v = .bool true ∧ New w0 w' := by
  have M : St None' w0 [] w0 := Frm.refl _ _
  refine Ret.of_W Try.func4 rfl Try.ntmps4 rfl ?_
  refine W.seq ?_
  refine W.sub [(0, _), (1, _)] ⟨rfl, rfl, trivial⟩ ?_
  refine W.reg [(0, false)] (by kernel_rfl) ?_ -- region 0
  intro K hK
  refine x_assign rfl rfl rfl rfl ?_
  refine Ex.done (hK _ _ ?_)
  refine At.then_n ?_
  refine W.seq ?_
  refine W.sub [(0, _), (1, _)] ⟨rfl, rfl, trivial⟩ ?_
  refine W.reg [(0, false), (1, true), (2, false), (3, false), (4, false), (5, false), (6, false)] (by kernel_rfl) ?_ -- region 1
  intro K hK
  refine x_move rfl rfl rfl rfl ?_
  -- call1: valise/cache.New outright.go:26
  refine x_call rfl rfl rfl rfl rfl en9 (new_no h) ?_
  rintro v w1 ⟨rfl, rfl⟩
  refine ⟨trivial, ?_⟩
  refine x_move rfl rfl rfl rfl ?_
  refine x_ext rfl rfl rfl rfl rfl ?_ -- ex1
  refine x_ext rfl rfl rfl rfl rfl ?_ -- ex2
  refine x_assign rfl rfl rfl rfl ?_
  refine x_assign rfl rfl rfl rfl ?_
  refine Ex.done (hK _ _ ?_)
  refine At.then_n ?_
  refine W.seq ?_
  refine W.seq ?_
  refine W.sub [(0, _), (1, _), (5, _), (6, _)] ⟨rfl, rfl, rfl, rfl, trivial⟩ ?_
  refine W.reg [(0, false), (1, false), (2, false), (3, false), (4, false), (5, false), (6, false), (7, false), (8, true), (9, false), (10, false)] (by kernel_rfl) ?_ -- region 2
  intro K hK
  refine x_move rfl rfl rfl rfl ?_
  refine x_nei true rfl rfl rfl rfl rfl rfl ?_ -- eq1 outright.go:27
  refine x_move rfl rfl rfl rfl ?_
  refine Ex.skip_ rfl rfl rfl ?_
  refine Ex.skip_ rfl rfl rfl ?_
  refine x_pickT rfl rfl rfl rfl rfl ?_
  refine x_move rfl rfl rfl rfl ?_
  refine Ex.skip_ rfl rfl rfl ?_
  refine Ex.skipm_ rfl rfl rfl ?_
  refine Ex.skip_ rfl rfl rfl ?_
  refine x_pickT rfl rfl rfl rfl rfl ?_
  refine Ex.done (hK _ _ ?_)
  refine At.then_n ?_
  refine W.condT rfl ?_ -- co1
  refine W.seq ?_
  refine W.sub [(5, _), (6, _)] ⟨rfl, rfl, trivial⟩ ?_
  refine W.reg [(0, false), (1, false), (2, false), (3, false), (4, false), (5, false), (6, true), (7, false), (8, false)] (by kernel_rfl) ?_ -- region 3
  intro K hK
  refine x_move rfl rfl rfl rfl ?_
  refine x_eqi false rfl rfl rfl rfl rfl rfl ?_ -- eq2 outright.go:28
  refine x_move rfl rfl rfl rfl ?_
  refine x_nepn false rfl rfl rfl Try.underlying23 rfl rfl rfl ?_ -- eq3 outright.go:28
  refine x_eqb true rfl rfl rfl Try.underlying4 rfl rfl rfl ?_ -- eq4 outright.go:28
  refine x_move rfl rfl rfl rfl ?_
  -- call2: valise/valiselaw17.lives outright.go:28
  refine x_call rfl rfl rfl rfl rfl en8 (lives_c) ?_
  rintro v w1 ⟨rfl, hn⟩
  have M := M.new hn
  refine ⟨trivial, ?_⟩
  refine x_pickT rfl rfl rfl rfl rfl ?_
  refine x_assign rfl rfl rfl rfl ?_
  refine Ex.done (hK _ _ ?_)
  refine At.then_n ?_
  refine W.ret ?_
  refine At.then_r ?_
  refine At.ret1 (.tmp 4) rfl ⟨rfl, trivial⟩ ?_ -- ret1
  exact ⟨rfl, M.frm⟩

-- valise/valiselaw17.CacheBudget
set_option maxRecDepth 100000 in
theorem budget_ok {w0 : World} {bud : Int} {v0 : Value} {A : List Ac} (h : 0 ≤ bud ∧ bud ≤ 1048576) (hA : ActsIn w0 v0 A) : Ret Try.prog 4 #[.int .i64 bud, v0] w0 fun v w' => v = .bool true ∧ New w0 w' := by
  have M : St None' w0 [] w0 := Frm.refl _ _
  have hA0 := hA
  obtain ⟨p, cap, rfl, hAl, hA⟩ := hA
  refine Ret.of_W Try.func4 rfl Try.ntmps4 rfl ?_
  refine W.seq ?_
  refine W.sub [(0, _), (1, _)] ⟨rfl, rfl, trivial⟩ ?_
  refine W.reg [(0, false)] (by kernel_rfl) ?_ -- region 0
  intro K hK
  refine x_assign rfl rfl rfl rfl ?_
  refine Ex.done (hK _ _ ?_)
  refine At.then_n ?_
  refine W.seq ?_
  refine W.sub [(0, _), (1, _)] ⟨rfl, rfl, trivial⟩ ?_
  refine W.reg [(0, false), (1, true), (2, false), (3, false), (4, false), (5, false), (6, false)] (by kernel_rfl) ?_ -- region 1
  intro K hK
  refine x_move rfl rfl rfl rfl ?_
  -- call1: valise/cache.New outright.go:26
  refine x_call rfl rfl rfl rfl rfl en9 (opNew M h) ?_
  rintro v w1 ⟨c, rfl, M⟩
  refine ⟨trivial, ?_⟩
  refine x_move rfl rfl rfl rfl ?_
  refine x_ext rfl rfl rfl rfl rfl ?_ -- ex1
  refine x_ext rfl rfl rfl rfl rfl ?_ -- ex2
  refine x_assign rfl rfl rfl rfl ?_
  refine x_assign rfl rfl rfl rfl ?_
  refine Ex.done (hK _ _ ?_)
  refine At.then_n ?_
  refine W.seq ?_
  refine W.seq ?_
  refine W.sub [(0, _), (1, _), (5, _), (6, _)] ⟨rfl, rfl, rfl, rfl, trivial⟩ ?_
  refine W.reg [(0, false), (1, false), (2, false), (3, false), (4, false), (5, false), (6, false), (7, false), (8, true), (9, false), (10, false)] (by kernel_rfl) ?_ -- region 2
  intro K hK
  refine x_move rfl rfl rfl rfl ?_
  refine x_nei false rfl rfl rfl rfl rfl rfl ?_ -- eq1 outright.go:27
  refine x_move rfl rfl rfl rfl ?_
  refine x_move rfl rfl rfl rfl ?_
  refine x_eqpn false rfl rfl rfl Try.underlying23 rfl rfl rfl ?_ -- eq2 outright.go:27
  refine x_pickF rfl rfl rfl rfl rfl ?_
  refine x_move rfl rfl rfl rfl ?_
  refine x_move rfl rfl rfl rfl ?_
  -- call2: valise/valiselaw17.few outright.go:27
  refine x_call rfl rfl rfl rfl rfl en13 (few_c (hA0.new M.frm)) ?_
  rintro v w2 ⟨rfl, rfl⟩
  refine ⟨trivial, ?_⟩
  refine x_not _ rfl rfl rfl rfl rfl ?_ -- un1 outright.go:27
  refine x_pickF rfl rfl rfl rfl rfl ?_
  refine Ex.done (hK _ _ ?_)
  refine At.then_n ?_
  refine W.cond rfl (fun hco1 => ?_) (fun hco1 => ?_) -- co1
  · refine W.seq ?_
    refine W.sub [(5, _), (6, _)] ⟨rfl, rfl, trivial⟩ ?_
    refine W.reg [(0, false), (1, false), (2, false), (3, false), (4, false), (5, false), (6, true), (7, false), (8, false)] (by kernel_rfl) ?_ -- region 3
    intro K hK
    refine x_move rfl rfl rfl rfl ?_
    refine x_eqi true rfl rfl rfl rfl rfl rfl ?_ -- eq3 outright.go:28
    refine x_move rfl rfl rfl rfl ?_
    refine x_nepn true rfl rfl rfl Try.underlying23 rfl rfl rfl ?_ -- eq4 outright.go:28
    refine x_eqb true rfl rfl rfl Try.underlying4 rfl rfl rfl ?_ -- eq5 outright.go:28
    refine x_move rfl rfl rfl rfl ?_
    -- call3: valise/valiselaw17.lives outright.go:28
    refine x_call rfl rfl rfl rfl rfl en8 (lives_c) ?_
    rintro v w9 ⟨rfl, hn⟩
    have M := M.new hn
    refine ⟨trivial, ?_⟩
    refine x_pickT rfl rfl rfl rfl rfl ?_
    refine x_assign rfl rfl rfl rfl ?_
    refine Ex.done (hK _ _ ?_)
    refine At.then_n ?_
    refine W.ret ?_
    refine At.then_r ?_
    refine At.ret1 (.tmp 4) rfl ⟨rfl, trivial⟩ ?_ -- ret1
    exact ⟨rfl, M.frm⟩
  · have hfew : fewA A := by simpa using hco1
    refine W.skip ?_
    refine At.then_n ?_
    refine W.seq ?_
    refine W.seq ?_
    refine W.sub [(0, _), (1, _), (5, _)] ⟨rfl, rfl, rfl, trivial⟩ ?_
    refine W.reg [(0, false)] (by kernel_rfl) ?_ -- region 4
    intro K hK
    refine x_assign rfl rfl rfl rfl ?_
    refine Ex.done (hK _ _ ?_)
    refine At.then_n ?_
    refine W.block ?_
    refine W.loop (σ := Nat) (fun s => [(0, _), (1, _), (5, _), (7, .int .i64 ((s : Nat) : Int))]) (fun s w => s ≤ A.length ∧ ∃ M0, BdM s M0 ∧ CS w0 [] c bud M0 w) (fun s => A.length - s) 0 ⟨rfl, rfl, rfl, rfl, trivial⟩ ⟨Nat.zero_le _, [], ⟨by simp, by simp⟩, M⟩ ?_ -- loop1
    rintro s w ⟨hsl, M0, hbd, M⟩
    refine W.seq ?_
    refine W.seq ?_
    refine W.sub [(0, _), (1, _), (5, _), (7, _)] ⟨rfl, rfl, rfl, rfl, trivial⟩ ?_
    refine W.reg [(0, false), (1, false), (2, false), (3, false)] (by kernel_rfl) ?_ -- region 5
    intro K hK
    refine x_move rfl rfl rfl rfl ?_
    refine x_move rfl rfl rfl rfl ?_
    refine x_len rfl rfl rfl rfl Try.underlying35 rfl ?_
    refine x_lss _ rfl rfl rfl rfl rfl rfl ?_ -- cm1 outright.go:30
    refine Ex.done (hK _ _ ?_)
    refine At.then_n ?_
    refine W.cond rfl (fun hco2 => ?_) (fun hco2 => ?_) -- co2
    · have hlt : s < A.length := by have := of_decide_eq_true hco2; omega
      obtain ⟨a, ha⟩ : ∃ a, A[s]? = some a := ⟨A[s], List.getElem?_eq_getElem hlt⟩
      obtain ⟨b, off, rfl, hbl, hrow, hby⟩ := hA s a ha
      have ham : a ∈ A := List.mem_of_getElem? ha
      refine W.skip ?_
      refine At.then_n ?_
      refine W.seq ?_
      refine W.block ?_
      refine W.seq ?_
      refine W.sub [(0, _), (1, _), (5, _), (7, _)] ⟨rfl, rfl, rfl, rfl, trivial⟩ ?_
      refine W.reg [(0, false), (1, false), (2, false), (3, false), (4, false), (5, true)] (by kernel_rfl) ?_ -- region 7
      intro K hK
      refine x_move rfl rfl rfl rfl ?_
      refine x_move rfl rfl rfl rfl ?_
      refine x_move rfl rfl rfl rfl ?_
      refine x_ia s rfl rfl rfl Try.underlying35 sz39 rfl rfl rfl hlt ?_ -- ia1 outright.go:31
      refine x_ldA [_, _, _, _] rfl rfl rfl Try.underlying39 rfl sz39 rfl rfl (rowAt_keep hrow (M.frm.old b hbl id)) ?_ -- ld1 outright.go:31
      -- call4: valise/valiselaw17.do outright.go:31
      refine x_call rfl rfl rfl rfl rfl en14 (do_c M hby (by have := (hfew.2 a ham).1; omega) (fun m hm => by have := hbd.2 m hm; have := hfew.1; omega) (by have := hbd.1; have := hfew.1; omega)) ?_
      rintro v w3 ⟨rfl, M⟩
      have hbd := hbd.step bud a
      refine ⟨trivial, ?_⟩
      refine Ex.done (hK _ _ ?_)
      refine At.then_n ?_
      refine W.seq ?_
      refine W.sub [(0, _), (1, _), (5, _), (7, _)] ⟨rfl, rfl, rfl, rfl, trivial⟩ ?_
      refine W.reg [(0, false), (1, true), (2, false), (3, false)] (by kernel_rfl) ?_ -- region 8
      intro K hK
      refine x_move rfl rfl rfl rfl ?_
      -- call5: (*valise/cache.Cache).Size outright.go:32
      refine x_call rfl rfl rfl rfl rfl en15 (M.opSize) ?_
      rintro v w4 ⟨rfl, rfl⟩
      refine ⟨trivial, ?_⟩
      refine x_move rfl rfl rfl rfl ?_
      refine x_gtr false rfl rfl rfl rfl rfl (decide_eq_false (by have := M.le; omega)) ?_ -- cm2 outright.go:32
      refine Ex.done (hK _ _ ?_)
      refine At.then_n ?_
      refine W.condF rfl ?_ -- co3
      refine W.skip ?_
      refine At.blk_n ?_
      refine At.then_n ?_
      refine W.sub [(0, _), (1, _), (5, _), (7, _)] ⟨rfl, rfl, rfl, rfl, trivial⟩ ?_
      refine W.reg [(0, false), (1, false), (2, false)] (by kernel_rfl) ?_ -- region 6
      intro K hK
      refine x_move rfl rfl rfl rfl ?_
      refine x_add ((s + 1 : Nat) : Int) rfl rfl rfl rfl rfl (by rw [wrap64_id (by omega) (by omega)]; omega) ?_ -- ar1 outright.go:30
      refine x_assign rfl rfl rfl rfl ?_
      refine Ex.done (hK _ _ ?_)
      -- bk1: back to loop1
      exact At.back (s + 1) ⟨rfl, rfl, rfl, rfl, trivial⟩ ⟨by omega, _, hbd, M⟩ (by omega)
    · refine W.exit ?_
      refine At.then_x ?_
      refine At.loop_x ?_
      refine At.blk_x ?_
      refine At.then_n ?_
      refine W.seq ?_
      refine W.sub [(5, _)] ⟨rfl, trivial⟩ ?_
      refine W.reg [(0, false), (1, true), (2, false), (3, false)] (by kernel_rfl) ?_ -- region 10
      intro K hK
      refine x_move rfl rfl rfl rfl ?_
      -- call6: (*valise/cache.Cache).Keys outright.go:36
      refine x_call rfl rfl rfl rfl rfl en12 (M.opKeysL (by have := hbd.1; have := hfew.1; omega)) ?_
      rintro v w5 ⟨p6, cap6, L6, rfl, M, _, hrows⟩
      have hm60 : M0.length ≤ 60 := by have := hbd.1; have := hfew.1; omega
      have hkn := M.keys
      refine ⟨trivial, ?_⟩
      refine x_assign rfl rfl rfl rfl ?_
      refine x_assign rfl rfl rfl rfl ?_
      refine Ex.done (hK _ _ ?_)
      refine At.then_n ?_
      refine W.seq ?_
      refine W.seq ?_
      refine W.sub [(5, _), (8, _), (9, _)] ⟨rfl, rfl, rfl, trivial⟩ ?_
      refine W.reg [(0, false)] (by kernel_rfl) ?_ -- region 11
      intro K hK
      refine x_assign rfl rfl rfl rfl ?_
      refine Ex.done (hK _ _ ?_)
      refine At.then_n ?_
      refine W.block ?_
      refine W.loop (σ := Nat) (fun j => [(5, _), (8, .int .i64 (totM (M0.take j))), (9, _), (10, .int .i64 ((j : Nat) : Int))]) (fun j w => j ≤ M0.length ∧ ∃ Mj, Mj.Perm M0 ∧ CS w0 L6 c bud Mj w) (fun j => M0.length - j) 0 ⟨rfl, rfl, rfl, rfl, trivial⟩ ⟨Nat.zero_le _, M0, List.Perm.refl _, M⟩ ?_ -- loop2
      rintro j w ⟨hjn, Mj, hpm, M⟩
      refine W.seq ?_
      refine W.seq ?_
      refine W.sub [(5, _), (8, _), (9, _), (10, _)] ⟨rfl, rfl, rfl, rfl, trivial⟩ ?_
      refine W.reg [(0, false), (1, false), (2, false), (3, false)] (by kernel_rfl) ?_ -- region 12
      intro K hK
      refine x_move rfl rfl rfl rfl ?_
      refine x_move rfl rfl rfl rfl ?_
      refine x_len rfl rfl rfl rfl Try.underlying32 rfl ?_
      refine x_lss _ rfl rfl rfl rfl rfl rfl ?_ -- cm3 outright.go:37
      refine Ex.done (hK _ _ ?_)
      refine At.then_n ?_
      refine W.cond rfl (fun hco4 => ?_) (fun hco4 => ?_) -- co4
      · have hjl : j < M0.length := by have := of_decide_eq_true hco4; omega
        obtain ⟨m, hm⟩ : ∃ m, M0[j]? = some m := ⟨M0[j], List.getElem?_eq_getElem hjl⟩
        have hrj := hrows _ _ M j m hm
        obtain ⟨b6, rfl, hrow6⟩ := hrj
        have hgh := getM_has (m := m) M.keys (hpm.mem_iff.2 (List.mem_of_getElem? hm))
        refine W.skip ?_
        refine At.then_n ?_
        refine W.seq ?_
        refine W.block ?_
        refine W.seq ?_
        refine W.sub [(5, _), (8, _), (9, _), (10, _)] ⟨rfl, rfl, rfl, rfl, trivial⟩ ?_
        refine W.reg [(0, false), (1, false), (2, false), (3, false), (4, false), (5, true), (6, false), (7, false), (8, false), (9, false), (10, false)] (by kernel_rfl) ?_ -- region 14
        intro K hK
        refine x_move rfl rfl rfl rfl ?_
        refine x_move rfl rfl rfl rfl ?_
        refine x_move rfl rfl rfl rfl ?_
        refine x_ia j rfl rfl rfl Try.underlying32 sz29 rfl rfl rfl hjl ?_ -- ia2 outright.go:38
        refine x_ldA [_, _] rfl rfl rfl Try.underlying29 rfl sz29 rfl rfl hrow6 ?_ -- ld2 outright.go:38
        -- call7: (*valise/cache.Cache).Get outright.go:38
        refine x_call rfl rfl rfl rfl rfl en16 (M.opGetS hgh.1) ?_
        rintro v w6 ⟨M, sv, rfl, hsv, hsl4, _⟩
        obtain ⟨p7, cap7, rfl⟩ := hsv.shape
        have hpm := hgh.2.trans hpm
        refine ⟨trivial, ?_⟩
        refine x_move rfl rfl rfl rfl ?_
        refine x_ext rfl rfl rfl rfl rfl ?_ -- ex3
        refine x_ext rfl rfl rfl rfl rfl ?_ -- ex4
        refine x_assign rfl rfl rfl rfl ?_
        refine x_assign rfl rfl rfl rfl ?_
        refine Ex.done (hK _ _ ?_)
        refine At.then_n ?_
        refine W.seq ?_
        refine W.seq ?_
        refine W.sub [(5, _), (8, _), (9, _), (10, _), (11, _), (12, _)] ⟨rfl, rfl, rfl, rfl, rfl, rfl, trivial⟩ ?_
        refine W.reg [(0, false), (1, false)] (by kernel_rfl) ?_ -- region 15
        intro K hK
        refine x_move rfl rfl rfl rfl ?_
        refine x_not false rfl rfl rfl rfl rfl ?_ -- un2 outright.go:39
        refine Ex.done (hK _ _ ?_)
        refine At.then_n ?_
        refine W.condF rfl ?_ -- co5
        refine W.skip ?_
        refine At.then_n ?_
        refine W.seq ?_
        refine W.sub [(5, _), (8, _), (9, _), (10, _), (11, _)] ⟨rfl, rfl, rfl, rfl, rfl, trivial⟩ ?_
        refine W.reg [(0, false), (1, false), (2, false), (3, false), (4, false)] (by kernel_rfl) ?_ -- region 17
        intro K hK
        refine x_move rfl rfl rfl rfl ?_
        refine x_move rfl rfl rfl rfl ?_
        refine x_len rfl rfl rfl rfl Try.underlying31 rfl ?_
        refine x_add (totM (M0.take (j + 1))) rfl rfl rfl rfl rfl (by rw [totM_take hm]; refine wrap64_id ?_ ?_ <;> (have := totM_nn (M0.take j); have := totM_take_le (M := M0) j; have := M.le; rw [totM_perm hpm] at this; omega)) ?_ -- ar2 outright.go:42
        refine x_assign rfl rfl rfl rfl ?_
        refine Ex.done (hK _ _ ?_)
        refine At.then_n ?_
        refine W.seq ?_
        refine W.sub [(5, _), (8, _), (9, _), (10, _)] ⟨rfl, rfl, rfl, rfl, trivial⟩ ?_
        refine W.reg [(0, false)] (by kernel_rfl) ?_ -- region 18
        intro K hK
        refine x_assign rfl rfl rfl rfl ?_
        refine Ex.done (hK _ _ ?_)
        refine At.then_n ?_
        refine W.block ?_
        refine W.loop (σ := Nat) (fun i => [(5, _), (8, _), (9, _), (10, _), (13, .int .i64 ((i : Nat) : Int))]) (fun i w => i ≤ j ∧ CS w0 L6 c bud (m :: woM Mj m.1) w) (fun i => j - i) 0 ⟨rfl, rfl, rfl, rfl, rfl, trivial⟩ ⟨Nat.zero_le _, M⟩ ?_ -- loop3
        rintro i w ⟨hij, M⟩
        refine W.seq ?_
        refine W.seq ?_
        refine W.sub [(5, _), (8, _), (9, _), (10, _), (13, _)] ⟨rfl, rfl, rfl, rfl, rfl, trivial⟩ ?_
        refine W.reg [(0, false), (1, false), (2, false)] (by kernel_rfl) ?_ -- region 19
        intro K hK
        refine x_move rfl rfl rfl rfl ?_
        refine x_move rfl rfl rfl rfl ?_
        refine x_lss _ rfl rfl rfl rfl rfl rfl ?_ -- cm4 outright.go:43
        refine Ex.done (hK _ _ ?_)
        refine At.then_n ?_
        refine W.cond rfl (fun hco6 => ?_) (fun hco6 => ?_) -- co6
        · have hil : i < j := by have := of_decide_eq_true hco6; omega
          obtain ⟨m', hm'⟩ : ∃ m', M0[i]? = some m' := ⟨M0[i]'(by omega), List.getElem?_eq_getElem (by omega)⟩
          have hneq : m'.1 ≠ m.1 := nodup_idx hkn (i := i) (j := j) (by simp [hm']) (by simp [hm]) (by omega)
          refine W.skip ?_
          refine At.then_n ?_
          refine W.seq ?_
          refine W.block ?_
          refine W.seq ?_
          refine W.sub [(5, _), (8, _), (9, _), (10, _), (13, _)] ⟨rfl, rfl, rfl, rfl, rfl, trivial⟩ ?_
          refine W.regD (by kernel_rfl) #[0, 0, 3, 7, 0, 0, 48, 112, 255] [(0, false), (1, false), (2, false), (3, false), (4, false), (5, false), (6, false), (7, false), (8, false)] (by kernel_rfl) ?_ -- region 21
          intro K wD1 hK hwD1
          have M := M.drew hwD1
          obtain ⟨b7, hb7, hrow7⟩ := hrows _ _ M i m' hm'
          cases hb7
          obtain ⟨b8, hb8, hrow8⟩ := hrows _ _ M j m hm
          cases hb8
          refine x_move rfl rfl rfl rfl ?_
          refine x_move rfl rfl rfl rfl ?_
          refine x_ia i rfl rfl rfl Try.underlying32 sz29 rfl rfl rfl (show i < M0.length by omega) ?_ -- ia3 outright.go:44
          refine x_ldA [_, _] rfl rfl rfl Try.underlying29 rfl sz29 rfl rfl hrow7 ?_ -- ld3 outright.go:44
          refine x_move rfl rfl rfl rfl ?_
          refine x_move rfl rfl rfl rfl ?_
          refine x_ia j rfl rfl rfl Try.underlying32 sz29 rfl rfl rfl hjl ?_ -- ia4 outright.go:44
          refine x_ldA [_, _] rfl rfl rfl Try.underlying29 rfl sz29 rfl rfl hrow8 ?_ -- ld4 outright.go:44
          refine x_bin (v := .bool false) rfl rfl rfl rfl rfl (fun w' => (run_eq_key m'.1 m.1 _ _ w').trans (by simp [hneq])) ?_ -- eq6 outright.go:44
          refine Ex.done (hK _ _ ?_)
          refine At.then_n ?_
          refine W.condF rfl ?_ -- co7
          refine W.skip ?_
          refine At.blk_n ?_
          refine At.then_n ?_
          refine W.sub [(5, _), (8, _), (9, _), (10, _), (13, _)] ⟨rfl, rfl, rfl, rfl, rfl, trivial⟩ ?_
          refine W.reg [(0, false), (1, false), (2, false)] (by kernel_rfl) ?_ -- region 20
          intro K hK
          refine x_move rfl rfl rfl rfl ?_
          refine x_add ((i + 1 : Nat) : Int) rfl rfl rfl rfl rfl (by rw [wrap64_id (by omega) (by omega)]; omega) ?_ -- ar3 outright.go:43
          refine x_assign rfl rfl rfl rfl ?_
          refine Ex.done (hK _ _ ?_)
          -- bk2: back to loop3
          exact At.back (i + 1) ⟨rfl, rfl, rfl, rfl, rfl, trivial⟩ ⟨by omega, M⟩ (by omega)
        · refine W.exit ?_
          refine At.then_x ?_
          refine At.loop_x ?_
          refine At.blk_x ?_
          refine At.blk_n ?_
          refine At.then_n ?_
          refine W.sub [(5, _), (8, _), (9, _), (10, _)] ⟨rfl, rfl, rfl, rfl, trivial⟩ ?_
          refine W.reg [(0, false), (1, false), (2, false)] (by kernel_rfl) ?_ -- region 13
          intro K hK
          refine x_move rfl rfl rfl rfl ?_
          refine x_add ((j + 1 : Nat) : Int) rfl rfl rfl rfl rfl (by rw [wrap64_id (by omega) (by omega)]; omega) ?_ -- ar4 outright.go:37
          refine x_assign rfl rfl rfl rfl ?_
          refine Ex.done (hK _ _ ?_)
          -- bk3: back to loop2
          exact At.back (j + 1) ⟨rfl, rfl, rfl, rfl, trivial⟩ ⟨by omega, _, hpm, M⟩ (by omega)
      · have hj : j = M0.length := by have := of_decide_eq_false hco4; omega
        subst hj
        refine W.exit ?_
        refine At.then_x ?_
        refine At.loop_x ?_
        refine At.blk_x ?_
        refine At.then_n ?_
        refine W.seq ?_
        refine W.sub [(5, _), (8, _)] ⟨rfl, rfl, trivial⟩ ?_
        refine W.reg [(0, false), (1, false), (2, true), (3, false), (4, false), (5, true), (6, false), (7, false)] (by kernel_rfl) ?_ -- region 23
        intro K hK
        refine x_move rfl rfl rfl rfl ?_
        refine x_move rfl rfl rfl rfl ?_
        -- call8: (*valise/cache.Cache).Size outright.go:49
        refine x_call rfl rfl rfl rfl rfl en15 (M.opSize' (totM_perm hpm)) ?_
        rintro v w7 ⟨rfl, rfl⟩
        refine ⟨trivial, ?_⟩
        refine x_eqi true rfl rfl rfl rfl rfl (by simp) ?_ -- eq7 outright.go:49
        refine x_move rfl rfl rfl rfl ?_
        -- call9: valise/valiselaw17.lives outright.go:49
        refine x_call rfl rfl rfl rfl rfl en8 (lives_c) ?_
        rintro v w9 ⟨rfl, hn⟩
        have M := M.new hn
        refine ⟨trivial, ?_⟩
        refine x_pickT rfl rfl rfl rfl rfl ?_
        refine x_assign rfl rfl rfl rfl ?_
        refine Ex.done (hK _ _ ?_)
        refine At.then_n ?_
        refine W.ret ?_
        refine At.ret1 (.tmp 4) rfl ⟨rfl, trivial⟩ ?_ -- ret2
        exact ⟨rfl, M.frm⟩
end Go.Proofs.Ytbbccdcjhoecpaa
