/-
  The walk of functions of the cache, by program: cacheLast.
-/
import Derived.Test.YtbbccdcjhoecpaaTab
import Derived.Test.YtbbccdcjhoecpaaW12
import Derived.Test.YtbbccdcjhoecpaaL2
namespace Go.Proofs.Ytbbccdcjhoecpaa
open Go Go.Fw Go.RowKit Go.Proofs

-- valise/valiselaw17.CacheLast
set_option maxRecDepth 100000 in
theorem cacheLast_c {w0 : World} {size n bud : Int} : Ret Try.prog 3 #[.int .i64 size, .int .i64 n, .int .i64 bud] w0 fun v w' => v = .bool true ∧ New w0 w' := by
  have M : St None' w0 [] w0 := Frm.refl _ _
  refine Ret.of_W Try.func3 rfl Try.ntmps3 rfl ?_
  refine W.seq ?_
  refine W.sub [(0, _), (1, _), (2, _)] ⟨rfl, rfl, rfl, trivial⟩ ?_
  refine W.reg [(0, false)] (by kernel_rfl) ?_ -- region 0
  intro K hK
  refine x_assign rfl rfl rfl rfl ?_
  refine Ex.done (hK _ _ ?_)
  refine At.then_n ?_
  refine W.seq ?_
  refine W.seq ?_
  refine W.sub [(0, _), (1, _), (2, _)] ⟨rfl, rfl, rfl, trivial⟩ ?_
  refine W.reg [(0, false), (1, false), (2, false), (3, false), (4, false), (5, false), (6, false), (7, false), (8, false), (9, false), (10, false), (11, false), (12, false), (13, false), (14, false), (15, false), (16, false), (17, false), (18, false), (19, false), (20, false), (21, false)] (by kernel_rfl) ?_ -- region 1
  intro K hK
  refine x_move rfl rfl rfl rfl ?_
  refine x_lss _ rfl rfl rfl rfl rfl rfl ?_ -- cm1 outright.go:54
  refine x_move rfl rfl rfl rfl ?_
  refine Ex.split 15 rfl (fun hsp1 => ?_) (fun hsp1 => ?_)
  · -- sp1 True
    refine Ex.skip_ rfl rfl rfl ?_
    refine Ex.skip_ rfl rfl rfl ?_
    refine x_pickT rfl rfl rfl rfl rfl ?_
    refine x_move rfl rfl rfl rfl ?_
    refine Ex.skip_ rfl rfl rfl ?_
    refine Ex.skip_ rfl rfl rfl ?_
    refine x_pickT rfl rfl rfl rfl rfl ?_
    refine x_move rfl rfl rfl rfl ?_
    refine Ex.skip_ rfl rfl rfl ?_
    refine Ex.skip_ rfl rfl rfl ?_
    refine x_pickT rfl rfl rfl rfl rfl ?_
    refine x_move rfl rfl rfl rfl ?_
    refine Ex.skip_ rfl rfl rfl ?_
    refine Ex.skip_ rfl rfl rfl ?_
    refine x_pickT rfl rfl rfl rfl rfl ?_
    refine x_move rfl rfl rfl rfl ?_
    refine Ex.skip_ rfl rfl rfl ?_
    refine Ex.skip_ rfl rfl rfl ?_
    refine x_pickT rfl rfl rfl rfl rfl ?_
    refine Ex.done (hK _ _ ?_)
    refine At.then_n ?_
    refine W.condT rfl ?_ -- co1
    refine W.seq ?_
    refine W.sub [] trivial ?_
    refine W.reg [(0, true), (1, false)] (by kernel_rfl) ?_ -- region 2
    intro K hK
    -- call1: valise/valiselaw17.lives outright.go:55
    refine x_call rfl rfl rfl rfl rfl en8 (lives_c) ?_
    rintro v w1 ⟨rfl, hn⟩
    have M := M.new hn
    refine ⟨trivial, ?_⟩
    refine x_assign rfl rfl rfl rfl ?_
    refine Ex.done (hK _ _ ?_)
    refine At.then_n ?_
    refine W.ret ?_
    refine At.then_r ?_
    refine At.ret1 (.tmp 6) rfl ⟨rfl, trivial⟩ ?_ -- ret1
    exact ⟨rfl, M.frm⟩
  · -- sp1 False
    refine x_move rfl rfl rfl rfl ?_
    refine x_gtr _ rfl rfl rfl rfl rfl rfl ?_ -- cm2 outright.go:54
    refine x_pickF rfl rfl rfl rfl rfl ?_
    refine x_move rfl rfl rfl rfl ?_
    refine Ex.split 19 rfl (fun hsp2 => ?_) (fun hsp2 => ?_)
    · -- sp2 True
      refine Ex.skip_ rfl rfl rfl ?_
      refine Ex.skip_ rfl rfl rfl ?_
      refine x_pickT rfl rfl rfl rfl rfl ?_
      refine x_move rfl rfl rfl rfl ?_
      refine Ex.skip_ rfl rfl rfl ?_
      refine Ex.skip_ rfl rfl rfl ?_
      refine x_pickT rfl rfl rfl rfl rfl ?_
      refine x_move rfl rfl rfl rfl ?_
      refine Ex.skip_ rfl rfl rfl ?_
      refine Ex.skip_ rfl rfl rfl ?_
      refine x_pickT rfl rfl rfl rfl rfl ?_
      refine x_move rfl rfl rfl rfl ?_
      refine Ex.skip_ rfl rfl rfl ?_
      refine Ex.skip_ rfl rfl rfl ?_
      refine x_pickT rfl rfl rfl rfl rfl ?_
      refine Ex.done (hK _ _ ?_)
      refine At.then_n ?_
      refine W.condT rfl ?_ -- co2
      refine W.seq ?_
      refine W.sub [] trivial ?_
      refine W.reg [(0, true), (1, false)] (by kernel_rfl) ?_ -- region 2
      intro K hK
      -- call2: valise/valiselaw17.lives outright.go:55
      refine x_call rfl rfl rfl rfl rfl en8 (lives_c) ?_
      rintro v w1 ⟨rfl, hn⟩
      have M := M.new hn
      refine ⟨trivial, ?_⟩
      refine x_assign rfl rfl rfl rfl ?_
      refine Ex.done (hK _ _ ?_)
      refine At.then_n ?_
      refine W.ret ?_
      refine At.then_r ?_
      refine At.ret1 (.tmp 6) rfl ⟨rfl, trivial⟩ ?_ -- ret2
      exact ⟨rfl, M.frm⟩
    · -- sp2 False
      refine x_move rfl rfl rfl rfl ?_
      refine x_lss _ rfl rfl rfl rfl rfl rfl ?_ -- cm3 outright.go:54
      refine x_pickF rfl rfl rfl rfl rfl ?_
      refine x_move rfl rfl rfl rfl ?_
      refine Ex.split 23 rfl (fun hsp3 => ?_) (fun hsp3 => ?_)
      · -- sp3 True
        refine Ex.skip_ rfl rfl rfl ?_
        refine Ex.skip_ rfl rfl rfl ?_
        refine x_pickT rfl rfl rfl rfl rfl ?_
        refine x_move rfl rfl rfl rfl ?_
        refine Ex.skip_ rfl rfl rfl ?_
        refine Ex.skip_ rfl rfl rfl ?_
        refine x_pickT rfl rfl rfl rfl rfl ?_
        refine x_move rfl rfl rfl rfl ?_
        refine Ex.skip_ rfl rfl rfl ?_
        refine Ex.skip_ rfl rfl rfl ?_
        refine x_pickT rfl rfl rfl rfl rfl ?_
        refine Ex.done (hK _ _ ?_)
        refine At.then_n ?_
        refine W.condT rfl ?_ -- co3
        refine W.seq ?_
        refine W.sub [] trivial ?_
        refine W.reg [(0, true), (1, false)] (by kernel_rfl) ?_ -- region 2
        intro K hK
        -- call3: valise/valiselaw17.lives outright.go:55
        refine x_call rfl rfl rfl rfl rfl en8 (lives_c) ?_
        rintro v w1 ⟨rfl, hn⟩
        have M := M.new hn
        refine ⟨trivial, ?_⟩
        refine x_assign rfl rfl rfl rfl ?_
        refine Ex.done (hK _ _ ?_)
        refine At.then_n ?_
        refine W.ret ?_
        refine At.then_r ?_
        refine At.ret1 (.tmp 6) rfl ⟨rfl, trivial⟩ ?_ -- ret3
        exact ⟨rfl, M.frm⟩
      · -- sp3 False
        refine x_move rfl rfl rfl rfl ?_
        refine x_gtr _ rfl rfl rfl rfl rfl rfl ?_ -- cm4 outright.go:54
        refine x_pickF rfl rfl rfl rfl rfl ?_
        refine x_move rfl rfl rfl rfl ?_
        refine Ex.split 27 rfl (fun hsp4 => ?_) (fun hsp4 => ?_)
        · -- sp4 True
          refine Ex.skip_ rfl rfl rfl ?_
          refine Ex.skip_ rfl rfl rfl ?_
          refine x_pickT rfl rfl rfl rfl rfl ?_
          refine x_move rfl rfl rfl rfl ?_
          refine Ex.skip_ rfl rfl rfl ?_
          refine Ex.skip_ rfl rfl rfl ?_
          refine x_pickT rfl rfl rfl rfl rfl ?_
          refine Ex.done (hK _ _ ?_)
          refine At.then_n ?_
          refine W.condT rfl ?_ -- co4
          refine W.seq ?_
          refine W.sub [] trivial ?_
          refine W.reg [(0, true), (1, false)] (by kernel_rfl) ?_ -- region 2
          intro K hK
          -- call4: valise/valiselaw17.lives outright.go:55
          refine x_call rfl rfl rfl rfl rfl en8 (lives_c) ?_
          rintro v w1 ⟨rfl, hn⟩
          have M := M.new hn
          refine ⟨trivial, ?_⟩
          refine x_assign rfl rfl rfl rfl ?_
          refine Ex.done (hK _ _ ?_)
          refine At.then_n ?_
          refine W.ret ?_
          refine At.then_r ?_
          refine At.ret1 (.tmp 6) rfl ⟨rfl, trivial⟩ ?_ -- ret4
          exact ⟨rfl, M.frm⟩
        · -- sp4 False
          refine x_move rfl rfl rfl rfl ?_
          refine x_lss _ rfl rfl rfl rfl rfl rfl ?_ -- cm5 outright.go:54
          refine x_pickF rfl rfl rfl rfl rfl ?_
          refine x_move rfl rfl rfl rfl ?_
          refine Ex.split 31 rfl (fun hsp5 => ?_) (fun hsp5 => ?_)
          · -- sp5 True
            refine Ex.skip_ rfl rfl rfl ?_
            refine Ex.skip_ rfl rfl rfl ?_
            refine x_pickT rfl rfl rfl rfl rfl ?_
            refine Ex.done (hK _ _ ?_)
            refine At.then_n ?_
            refine W.condT rfl ?_ -- co5
            refine W.seq ?_
            refine W.sub [] trivial ?_
            refine W.reg [(0, true), (1, false)] (by kernel_rfl) ?_ -- region 2
            intro K hK
            -- call5: valise/valiselaw17.lives outright.go:55
            refine x_call rfl rfl rfl rfl rfl en8 (lives_c) ?_
            rintro v w1 ⟨rfl, hn⟩
            have M := M.new hn
            refine ⟨trivial, ?_⟩
            refine x_assign rfl rfl rfl rfl ?_
            refine Ex.done (hK _ _ ?_)
            refine At.then_n ?_
            refine W.ret ?_
            refine At.then_r ?_
            refine At.ret1 (.tmp 6) rfl ⟨rfl, trivial⟩ ?_ -- ret5
            exact ⟨rfl, M.frm⟩
          · -- sp5 False
            refine x_move rfl rfl rfl rfl ?_
            refine x_gtr _ rfl rfl rfl rfl rfl rfl ?_ -- cm6 outright.go:54
            refine x_pickF rfl rfl rfl rfl rfl ?_
            refine Ex.done (hK _ _ ?_)
            refine At.then_n ?_
            refine W.cond rfl (fun hco6 => ?_) (fun hco6 => ?_) -- co6
            · refine W.seq ?_
              refine W.sub [] trivial ?_
              refine W.reg [(0, true), (1, false)] (by kernel_rfl) ?_ -- region 2
              intro K hK
              -- call6: valise/valiselaw17.lives outright.go:55
              refine x_call rfl rfl rfl rfl rfl en8 (lives_c) ?_
              rintro v w1 ⟨rfl, hn⟩
              have M := M.new hn
              refine ⟨trivial, ?_⟩
              refine x_assign rfl rfl rfl rfl ?_
              refine Ex.done (hK _ _ ?_)
              refine At.then_n ?_
              refine W.ret ?_
              refine At.then_r ?_
              refine At.ret1 (.tmp 6) rfl ⟨rfl, trivial⟩ ?_ -- ret6
              exact ⟨rfl, M.frm⟩
            · refine W.skip ?_
              refine At.then_n ?_
              refine W.seq ?_
              refine W.sub [(0, _), (1, _), (2, _)] ⟨rfl, rfl, rfl, trivial⟩ ?_
              refine W.reg [(0, false), (1, true), (2, false), (3, false), (4, false), (5, false), (6, false)] (by kernel_rfl) ?_ -- region 3
              intro K hK
              refine x_move rfl rfl rfl rfl ?_
              -- call7: valise/cache.New outright.go:57
              refine x_call rfl rfl rfl rfl rfl en9 (opNew M (by simp at *; omega)) ?_
              rintro v w1 ⟨c, rfl, M⟩
              obtain ⟨sz, rfl⟩ := Int.eq_ofNat_of_zero_le (show 0 ≤ size by simp at *; omega)
              obtain ⟨nn, rfl⟩ := Int.eq_ofNat_of_zero_le (show 0 ≤ n by simp at *; omega)
              obtain ⟨bd, rfl⟩ := Int.eq_ofNat_of_zero_le (show 0 ≤ bud by simp at *; omega)
              have hsz : 1 ≤ sz ∧ sz ≤ 4096 ∧ nn ≤ 60 ∧ bd ≤ 1048576 := by simp at *; omega
              have hdm : sz * (bd / sz) + bd % sz = bd := Nat.div_add_mod bd sz
              have hml : bd % sz < sz := Nat.mod_lt _ (by omega)
              have hqb : bd / sz ≤ bd := Nat.div_le_self _ _
              generalize hq : bd / sz = q at hdm hqb
              have hq1 : ((q * sz : Nat) : Int) ≤ (bd : Int) := by rw [Nat.mul_comm]; omega
              have hq2 : (bd : Int) < (((q + 1) * sz : Nat) : Int) := by rw [Nat.succ_mul, Nat.mul_comm]; omega
              refine ⟨trivial, ?_⟩
              refine x_move rfl rfl rfl rfl ?_
              refine x_ext rfl rfl rfl rfl rfl ?_ -- ex1
              refine x_ext rfl rfl rfl rfl rfl ?_ -- ex2
              refine x_assign rfl rfl rfl rfl ?_
              refine x_assign rfl rfl rfl rfl ?_
              refine Ex.done (hK _ _ ?_)
              refine At.then_n ?_
              refine W.seq ?_
              refine W.seq ?_
              refine W.sub [(0, _), (1, _), (2, _), (7, _), (8, _)] ⟨rfl, rfl, rfl, rfl, rfl, trivial⟩ ?_
              refine W.reg [(0, false), (1, false), (2, false), (3, false), (4, false), (5, false)] (by kernel_rfl) ?_ -- region 4
              intro K hK
              refine x_move rfl rfl rfl rfl ?_
              refine x_nei false rfl rfl rfl rfl rfl rfl ?_ -- eq1 outright.go:58
              refine x_move rfl rfl rfl rfl ?_
              refine x_move rfl rfl rfl rfl ?_
              refine x_eqpn false rfl rfl rfl Try.underlying23 rfl rfl rfl ?_ -- eq2 outright.go:58
              refine x_pickF rfl rfl rfl rfl rfl ?_
              refine Ex.done (hK _ _ ?_)
              refine At.then_n ?_
              refine W.condF rfl ?_ -- co7
              refine W.skip ?_
              refine At.then_n ?_
              refine W.seq ?_
              refine W.seq ?_
              refine W.sub [(0, _), (1, _), (2, _), (7, _)] ⟨rfl, rfl, rfl, rfl, trivial⟩ ?_
              refine W.reg [(0, false)] (by kernel_rfl) ?_ -- region 6
              intro K hK
              refine x_assign rfl rfl rfl rfl ?_
              refine Ex.done (hK _ _ ?_)
              refine At.then_n ?_
              refine W.block ?_
              refine W.loop (σ := Nat) (fun s => [(0, _), (1, _), (2, _), (7, _), (9, .int .i64 ((s : Nat) : Int))]) (fun s w => s ≤ nn ∧ CS w0 [] c (bd : Int) (seqM sz q s) w) (fun s => nn - s) 0 ⟨rfl, rfl, rfl, rfl, rfl, trivial⟩ ⟨Nat.zero_le _, M⟩ ?_ -- loop1
              rintro s w ⟨hsn, M⟩
              refine W.seq ?_
              refine W.seq ?_
              refine W.sub [(0, _), (1, _), (2, _), (7, _), (9, _)] ⟨rfl, rfl, rfl, rfl, rfl, trivial⟩ ?_
              refine W.reg [(0, false), (1, false), (2, false)] (by kernel_rfl) ?_ -- region 7
              intro K hK
              refine x_move rfl rfl rfl rfl ?_
              refine x_move rfl rfl rfl rfl ?_
              refine x_lss _ rfl rfl rfl rfl rfl rfl ?_ -- cm7 outright.go:61
              refine Ex.done (hK _ _ ?_)
              refine At.then_n ?_
              refine W.cond rfl (fun hco8 => ?_) (fun hco8 => ?_) -- co8
              · have hlt : s < nn := by have := of_decide_eq_true hco8; omega
                refine W.skip ?_
                refine At.then_n ?_
                refine W.seq ?_
                refine W.block ?_
                refine W.seq ?_
                refine W.sub [(0, _), (1, _), (2, _), (7, _), (9, _)] ⟨rfl, rfl, rfl, rfl, rfl, trivial⟩ ?_
                refine W.regT (by kernel_rfl) #[0, 0, 2, 0, 8, 31, 63] (.two [(0, false), (1, false), (3, false)] 2 [(4, true)] 4 [(2, true)] (.leaf [(5, true), (6, false)])) (by kernel_rfl) ?_ -- region 9
                intro K wD1 hK hwD1
                have M := M.drew hwD1
                refine ExT.two ?_
                refine x_move rfl rfl rfl rfl ?_
                refine x_move rfl rfl rfl rfl ?_
                refine x_move rfl rfl rfl rfl ?_
                refine Ex.fork ?_
                refine Ex.join (fun F' T' w' => ∃ b, T' = [] ∧ F' = [(0, .int .i64 ((sz : Nat) : Int)), (1, .int .i64 ((nn : Nat) : Int)), (2, .int .i64 ((bd : Nat) : Int)), (7, ptr c), (9, .int .i64 ((s : Nat) : Int)), (52, ptr c), (54, encK (kA (s : Int))), (56, .slice (some ⟨b, 0, none⟩) sz sz)] ∧ CS w0 [(b, .cells (List.replicate sz (.int .u8 0)).toArray 5 (0, 0))] c (bd : Int) (seqM sz q s) w') ?_ ?_ ?_ -- fo1
                · -- call8: valise/valiselaw17.key outright.go:62
                  refine x_call rfl rfl rfl rfl rfl en11 (key_c) ?_
                  rintro v w2 ⟨rfl, hn⟩
                  have M := M.new hn
                  refine ⟨trivial, ?_⟩
                  -- ms1: outright.go:62
                  refine x_ms sz sz rfl rfl rfl Try.underlying31 sz5 ze5 rfl by5 rfl rfl (Nat.le_refl _) (by show 1 * sz ≤ _; omega) (by omega) ?_
                  intro b3 w3 hb3 hw3
                  have M := M.alloc hb3 hw3
                  refine ⟨trivial, ?_⟩
                  refine Ex.forkS [(0, _), (1, _), (2, _), (7, _), (9, _), (52, _), (54, _), (56, _)] ⟨rfl, rfl, rfl, rfl, rfl, rfl, rfl, rfl, trivial⟩ ?_
                  exact ⟨b3, rfl, rfl, M⟩
                · -- ms2: outright.go:62
                  refine x_ms sz sz rfl rfl rfl Try.underlying31 sz5 ze5 rfl by5 rfl rfl (Nat.le_refl _) (by show 1 * sz ≤ _; omega) (by omega) ?_
                  intro b3 w3 hb3 hw3
                  have M := M.alloc hb3 hw3
                  refine ⟨trivial, ?_⟩
                  -- call9: valise/valiselaw17.key outright.go:62
                  refine x_call rfl rfl rfl rfl rfl en11 (key_c) ?_
                  rintro v w2 ⟨rfl, hn⟩
                  have M := M.new hn
                  refine ⟨trivial, ?_⟩
                  refine Ex.forkS [(0, _), (1, _), (2, _), (7, _), (9, _), (52, _), (54, _), (56, _)] ⟨rfl, rfl, rfl, rfl, rfl, rfl, rfl, rfl, trivial⟩ ?_
                  exact ⟨b3, rfl, rfl, M⟩
                rintro F1 T1 w4 ⟨b4, rfl, rfl, M⟩
                refine ExT.leaf ?_
                -- call10: (*valise/cache.Cache).Put outright.go:62
                refine x_call rfl rfl rfl rfl rfl en10 (M.opPut' (put_seq ⟨hsz.1, hsz.2.1⟩ hq1 hq2 s) (bytes_made (M.at_ 0 rfl)) (fun g hg => .inr (by cases hg; simp)) (by simp; omega)) ?_
                rintro v w5 ⟨rfl, M⟩
                have M := M.sub (L' := []) (by simp)
                refine ⟨trivial, ?_⟩
                refine x_assign rfl rfl rfl rfl ?_
                refine Ex.done (hK _ _ ?_)
                refine At.then_n ?_
                refine W.seq ?_
                refine W.sub [(0, _), (1, _), (2, _), (7, _), (9, _), (10, _)] ⟨rfl, rfl, rfl, rfl, rfl, rfl, trivial⟩ ?_
                refine W.reg [(0, false), (1, false), (2, false), (3, false), (4, false), (5, false), (6, false), (7, false), (8, false), (9, false), (10, false), (11, false), (12, false), (13, false)] (by kernel_rfl) ?_ -- region 10
                intro K hK
                refine x_move rfl rfl rfl rfl ?_
                refine x_eqi _ rfl rfl rfl rfl rfl rfl ?_ -- eq3 outright.go:62
                refine x_move rfl rfl rfl rfl ?_
                refine x_move rfl rfl rfl rfl ?_
                refine x_leq _ rfl rfl rfl rfl rfl rfl ?_ -- cm8 outright.go:62
                refine x_neb false rfl rfl rfl Try.underlying4 rfl rfl (by by_cases hf : (sz : Int) ≤ bd <;> simp [hf]) ?_ -- eq4 outright.go:62
                refine x_move rfl rfl rfl rfl ?_
                refine x_move rfl rfl rfl rfl ?_
                refine x_nei _ rfl rfl rfl rfl rfl rfl ?_ -- eq5 outright.go:62
                refine x_move rfl rfl rfl rfl ?_
                refine Ex.split 67 rfl (fun hsp6 => ?_) (fun hsp6 => ?_)
                · -- sp6 True
                  refine x_move rfl rfl rfl rfl ?_
                  refine x_nei false rfl rfl rfl rfl rfl (by by_cases hf : (sz : Int) ≤ bd <;> simp [hf] at hsp6 ⊢) ?_ -- eq6 outright.go:62
                  refine x_pickT rfl rfl rfl rfl rfl ?_
                  refine x_pickF rfl rfl rfl rfl rfl ?_
                  refine Ex.done (hK _ _ ?_)
                  refine At.then_n ?_
                  refine W.condF rfl ?_ -- co9
                  refine W.skip ?_
                  refine At.blk_n ?_
                  refine At.then_n ?_
                  refine W.sub [(0, _), (1, _), (2, _), (7, _), (9, _)] ⟨rfl, rfl, rfl, rfl, rfl, trivial⟩ ?_
                  refine W.reg [(0, false), (1, false), (2, false)] (by kernel_rfl) ?_ -- region 8
                  intro K hK
                  refine x_move rfl rfl rfl rfl ?_
                  refine x_add ((s + 1 : Nat) : Int) rfl rfl rfl rfl rfl (by rw [wrap64_id (by omega) (by omega)]; omega) ?_ -- ar1 outright.go:61
                  refine x_assign rfl rfl rfl rfl ?_
                  refine Ex.done (hK _ _ ?_)
                  -- bk1: back to loop1
                  exact At.back (s + 1) ⟨rfl, rfl, rfl, rfl, rfl, trivial⟩ ⟨by omega, M⟩ (by omega)
                · -- sp6 False
                  refine Ex.skip_ rfl rfl rfl ?_
                  refine Ex.skip_ rfl rfl rfl ?_
                  refine x_pickF rfl rfl rfl rfl rfl ?_
                  refine x_pickF rfl rfl rfl rfl rfl ?_
                  refine Ex.done (hK _ _ ?_)
                  refine At.then_n ?_
                  refine W.condF rfl ?_ -- co10
                  refine W.skip ?_
                  refine At.blk_n ?_
                  refine At.then_n ?_
                  refine W.sub [(0, _), (1, _), (2, _), (7, _), (9, _)] ⟨rfl, rfl, rfl, rfl, rfl, trivial⟩ ?_
                  refine W.reg [(0, false), (1, false), (2, false)] (by kernel_rfl) ?_ -- region 8
                  intro K hK
                  refine x_move rfl rfl rfl rfl ?_
                  refine x_add ((s + 1 : Nat) : Int) rfl rfl rfl rfl rfl (by rw [wrap64_id (by omega) (by omega)]; omega) ?_ -- ar2 outright.go:61
                  refine x_assign rfl rfl rfl rfl ?_
                  refine Ex.done (hK _ _ ?_)
                  -- bk2: back to loop1
                  exact At.back (s + 1) ⟨rfl, rfl, rfl, rfl, rfl, trivial⟩ ⟨by omega, M⟩ (by omega)
              · have hs : s = nn := by have := of_decide_eq_false hco8; omega
                subst hs
                refine W.exit ?_
                refine At.then_x ?_
                refine At.loop_x ?_
                refine At.blk_x ?_
                refine At.then_n ?_
                refine W.seq ?_
                refine W.sub [(0, _), (1, _), (2, _), (7, _)] ⟨rfl, rfl, rfl, rfl, trivial⟩ ?_
                refine W.reg [(0, false), (1, true), (2, false)] (by kernel_rfl) ?_ -- region 12
                intro K hK
                refine x_move rfl rfl rfl rfl ?_
                -- call11: (*valise/cache.Cache).Keys outright.go:66
                refine x_call rfl rfl rfl rfl rfl en12 (M.opKeys (by rw [seqM_len]; omega)) ?_
                rintro v w6 ⟨how, _, M, _⟩
                obtain ⟨p6, cap6, rfl, hown⟩ : ∃ p cap, v = .slice p (seqM sz q s).length cap ∧ ((p = none ∧ (seqM sz q s).length = 0) ∨ ∃ b rest T, p = some ⟨b, 0, none⟩ ∧ w6.heap[b]? = some (.cells (keyM (seqM sz q s) ++ rest).toArray T (0, 0))) := by
                  rcases how with ⟨h1, h2, _⟩ | ⟨b, cap, rest, T, h1, h2, _, _⟩
                  · exact ⟨none, 0, by rw [h1, h2], .inl ⟨rfl, h2⟩⟩
                  · exact ⟨_, _, h1, .inr ⟨b, rest, T, rfl, h2⟩⟩
                refine ⟨trivial, ?_⟩
                refine x_assign rfl rfl rfl rfl ?_
                refine Ex.done (hK _ _ ?_)
                refine At.then_n ?_
                refine W.seq ?_
                refine W.seq ?_
                refine W.sub [(0, _), (1, _), (2, _), (11, _)] ⟨rfl, rfl, rfl, rfl, trivial⟩ ?_
                refine W.reg [(0, false), (1, false), (2, false), (3, false), (4, false), (5, false), (6, false), (7, false)] (by kernel_rfl) ?_ -- region 13
                intro K hK
                refine x_move rfl rfl rfl rfl ?_
                refine x_len rfl rfl rfl rfl Try.underlying32 rfl ?_
                refine x_move rfl rfl rfl rfl ?_
                refine x_move rfl rfl rfl rfl ?_
                refine x_move rfl rfl rfl rfl ?_
                refine x_quo ((q : Nat) : Int) rfl rfl rfl rfl rfl (by omega) (by rw [← Int.ofNat_tdiv, hq]; exact wrap64_id (by omega) (by omega)) ?_ -- ar3 outright.go:67
                refine x_min ((min s q : Nat) : Int) rfl rfl rfl rfl rfl (by split <;> omega) ?_ -- mi1 outright.go:67
                refine x_nei false rfl rfl rfl rfl rfl (by simp [seqM_len]) ?_ -- eq7 outright.go:67
                refine Ex.done (hK _ _ ?_)
                refine At.then_n ?_
                refine W.condF rfl ?_ -- co11
                refine W.skip ?_
                refine At.then_n ?_
                refine W.seq ?_
                refine W.seq ?_
                refine W.sub [(1, _), (11, _)] ⟨rfl, rfl, trivial⟩ ?_
                refine W.reg [(0, false)] (by kernel_rfl) ?_ -- region 15
                intro K hK
                refine x_assign rfl rfl rfl rfl ?_
                refine Ex.done (hK _ _ ?_)
                refine At.then_n ?_
                refine W.block ?_
                refine W.loop (σ := Nat) (fun j => [(1, _), (11, _), (12, .int .i64 ((j : Nat) : Int))]) (fun j w => j ≤ min s q ∧ New w6 w) (fun j => min s q - j) 0 ⟨rfl, rfl, rfl, trivial⟩ ⟨Nat.zero_le _, Frm.refl _ _⟩ ?_ -- loop2
                rintro j w ⟨hjn, hN⟩
                refine W.seq ?_
                refine W.seq ?_
                refine W.sub [(1, _), (11, _), (12, _)] ⟨rfl, rfl, rfl, trivial⟩ ?_
                refine W.reg [(0, false), (1, false), (2, false), (3, false)] (by kernel_rfl) ?_ -- region 16
                intro K hK
                refine x_move rfl rfl rfl rfl ?_
                refine x_move rfl rfl rfl rfl ?_
                refine x_len rfl rfl rfl rfl Try.underlying32 rfl ?_
                refine x_lss _ rfl rfl rfl rfl rfl rfl ?_ -- cm9 outright.go:70
                refine Ex.done (hK _ _ ?_)
                refine At.then_n ?_
                refine W.cond rfl (fun hco12 => ?_) (fun hco12 => ?_) -- co12
                · have hjl : j < min s q := by have := of_decide_eq_true hco12; rw [seqM_len] at this; omega
                  obtain ⟨b6, rest6, T6, rfl, hb6⟩ : ∃ b rest T, p6 = some ⟨b, 0, none⟩ ∧ w6.heap[b]? = some (.cells (keyM (seqM sz q s) ++ rest).toArray T (0, 0)) := by
                    rcases hown with ⟨_, h2⟩ | h
                    · rw [seqM_len] at h2; omega
                    · exact h
                  refine W.skip ?_
                  refine At.then_n ?_
                  refine W.seq ?_
                  refine W.block ?_
                  refine W.seq ?_
                  refine W.sub [(1, _), (11, _), (12, _)] ⟨rfl, rfl, rfl, trivial⟩ ?_
                  refine W.regD (by kernel_rfl) #[0, 0, 3, 7, 0, 16, 0, 112, 240, 511] [(0, false), (1, false), (2, false), (3, false), (4, false), (5, false), (6, false), (7, false), (8, true), (9, false)] (by kernel_rfl) ?_ -- region 18
                  intro K wD2 hK hwD2
                  have hN := hN.trans' (Frm.drw hwD2)
                  refine x_move rfl rfl rfl rfl ?_
                  refine x_move rfl rfl rfl rfl ?_
                  refine x_ia j rfl rfl rfl Try.underlying32 sz29 rfl rfl rfl (by rw [seqM_len]; exact hjl) ?_ -- ia1 outright.go:71
                  refine x_ldA [_, _] rfl rfl rfl Try.underlying29 rfl sz29 rfl rfl (keyM_row (New.keep hN hb6) (seqM_get sz q s j hjl)) ?_ -- ld1 outright.go:71
                  refine x_move rfl rfl rfl rfl ?_
                  refine x_sub ((s : Int) - 1) rfl rfl rfl rfl rfl (wrap64_id (by omega) (by omega)) ?_ -- ar4 outright.go:71
                  refine x_move rfl rfl rfl rfl ?_
                  refine x_sub ((s - 1 - j : Nat) : Int) rfl rfl rfl rfl rfl (by rw [wrap64_id (by omega) (by omega)]; omega) ?_ -- ar5 outright.go:71
                  -- call12: valise/valiselaw17.key outright.go:71
                  refine x_call rfl rfl rfl rfl rfl en11 (key_c) ?_
                  rintro v w7 ⟨rfl, hn⟩
                  have hN := hN.trans' hn
                  refine ⟨⟨.inr (keyM_row (New.keep hN hb6) (seqM_get sz q s j hjl)), trivial⟩, ?_⟩
                  refine x_bin (v := .bool false) rfl rfl rfl rfl rfl (fun w' => (run_ne_key (kA ((s - 1 - j : Nat) : Int)) (kA ((s - 1 - j : Nat) : Int)) _ _ w').trans (by simp)) ?_ -- eq8 outright.go:71
                  refine Ex.done (hK _ _ ?_)
                  refine At.then_n ?_
                  refine W.condF rfl ?_ -- co13
                  refine W.skip ?_
                  refine At.blk_n ?_
                  refine At.then_n ?_
                  refine W.sub [(1, _), (11, _), (12, _)] ⟨rfl, rfl, rfl, trivial⟩ ?_
                  refine W.reg [(0, false), (1, false), (2, false)] (by kernel_rfl) ?_ -- region 17
                  intro K hK
                  refine x_move rfl rfl rfl rfl ?_
                  refine x_add ((j + 1 : Nat) : Int) rfl rfl rfl rfl rfl (by rw [wrap64_id (by omega) (by omega)]; omega) ?_ -- ar6 outright.go:70
                  refine x_assign rfl rfl rfl rfl ?_
                  refine Ex.done (hK _ _ ?_)
                  -- bk3: back to loop2
                  exact At.back (j + 1) ⟨rfl, rfl, rfl, trivial⟩ ⟨by omega, hN⟩ (by omega)
                · refine W.exit ?_
                  refine At.then_x ?_
                  refine At.loop_x ?_
                  refine At.blk_x ?_
                  refine At.then_n ?_
                  refine W.seq ?_
                  refine W.sub [] trivial ?_
                  refine W.reg [(0, true), (1, false)] (by kernel_rfl) ?_ -- region 20
                  intro K hK
                  -- call13: valise/valiselaw17.lives outright.go:75
                  refine x_call rfl rfl rfl rfl rfl en8 (lives_c) ?_
                  rintro v w8 ⟨rfl, hn⟩
                  have hN := hN.trans' hn
                  refine ⟨trivial, ?_⟩
                  refine x_assign rfl rfl rfl rfl ?_
                  refine Ex.done (hK _ _ ?_)
                  refine At.then_n ?_
                  refine W.ret ?_
                  refine At.ret1 (.tmp 6) rfl ⟨rfl, trivial⟩ ?_ -- ret7
                  exact ⟨rfl, Frm.trans' M.frm hN⟩
end Go.Proofs.Ytbbccdcjhoecpaa
