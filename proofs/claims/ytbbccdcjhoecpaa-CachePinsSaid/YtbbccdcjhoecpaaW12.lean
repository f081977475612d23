/-
  The walk of functions of the cache, by program: lives.
-/
import Derived.Test.YtbbccdcjhoecpaaTab
import Derived.Test.YtbbccdcjhoecpaaL1
namespace Go.Proofs.Ytbbccdcjhoecpaa
open Go Go.Fw Go.RowKit Go.Proofs

-- valise/valiselaw17.lives
set_option maxRecDepth 100000 in
theorem lives_c {w : World} : Ret Try.prog 8 #[] w fun v w' => v = .bool true ∧ New w w' := by
  have M : St None' w [] w := Frm.refl _ _
  refine Ret.of_W Try.func8 rfl Try.ntmps8 rfl ?_
  refine W.seq ?_
  refine W.sub [] trivial ?_
  refine W.reg [(0, false)] (by kernel_rfl) ?_ -- region 0
  intro K hK
  refine x_assign rfl rfl rfl rfl ?_
  refine Ex.done (hK _ _ ?_)
  refine At.then_n ?_
  refine W.seq ?_
  refine W.sub [(0, _)] ⟨rfl, trivial⟩ ?_
  refine W.reg [(0, true), (1, false), (2, false), (3, false), (4, false), (5, false)] (by kernel_rfl) ?_ -- region 1
  intro K hK
  -- call1: valise/cache.New law.go:22
  refine x_call rfl rfl rfl rfl rfl en9 (opNew M (by decide)) ?_
  rintro v w1 ⟨c, rfl, M⟩
  refine ⟨trivial, ?_⟩
  refine x_move rfl rfl rfl rfl ?_
  refine x_ext rfl rfl rfl rfl rfl ?_ -- ex1
  refine x_ext rfl rfl rfl rfl rfl ?_ -- ex2
  refine x_assign rfl rfl rfl rfl ?_
  refine x_assign rfl rfl rfl rfl ?_
  refine Ex.done (hK _ _ ?_)
  refine At.then_n ?_
  refine W.seq ?_
  refine W.seq ?_
  refine W.sub [(0, _), (1, _), (2, _)] ⟨rfl, rfl, rfl, trivial⟩ ?_
  refine W.regT (by kernel_rfl) #[0, 1, 3, 7, 15, 31, 63, 127, 127, 127, 1023, 2047, 4095, 8191, 16383, 16383, 16383, 131071, 262143, 524287] (.two [(0, false), (1, false), (2, false), (3, false), (4, false), (5, false), (6, false), (7, false)] 8 [(9, true)] 9 [(8, true)] (.two [(10, true), (11, false), (12, false), (13, false), (14, false)] 15 [(16, true)] 16 [(15, true)] (.leaf [(17, true), (18, false), (19, false)]))) (by kernel_rfl) ?_ -- region 2
  intro K wD1 hK hwD1
  have M := M.drew hwD1
  refine ExT.two ?_
  refine x_move rfl rfl rfl rfl ?_
  refine x_eqpn false rfl rfl rfl Try.underlying23 rfl rfl rfl ?_ -- eq1 law.go:23
  refine x_move rfl rfl rfl rfl ?_
  refine x_move rfl rfl rfl rfl ?_
  refine x_nei false rfl rfl rfl rfl rfl rfl ?_ -- eq2 law.go:23
  refine x_pickF rfl rfl rfl rfl rfl ?_
  refine x_move rfl rfl rfl rfl ?_
  refine x_move rfl rfl rfl rfl ?_
  refine Ex.fork ?_
  refine Ex.join (fun F' T' w' => ∃ b, T' = [] ∧ F' = [(0, .bool false), (1, ptr c), (22, .bool false), (23, ptr c), (24, encK (kA 0)), (25, .slice (some ⟨b, 0, none⟩) 4 4)] ∧ CS w [(b, .cells (List.replicate 4 (.int .u8 0)).toArray 5 (0, 0))] c 10 [] w') ?_ ?_ ?_ -- fo1
  · -- call2: valise/valiselaw17.key law.go:23
    refine x_call rfl rfl rfl rfl rfl en11 (key_c) ?_
    rintro v w2 ⟨rfl, hn⟩
    have M := M.new hn
    refine ⟨trivial, ?_⟩
    -- ms1: law.go:23
    refine x_ms 4 4 rfl rfl rfl Try.underlying31 sz5 ze5 rfl by5 rfl rfl (by decide) (by decide) (by decide) ?_
    intro b3 w3 hb3 hw3
    have M := M.alloc hb3 hw3
    refine ⟨trivial, ?_⟩
    refine Ex.forkS [(0, _), (1, _), (22, _), (23, _), (24, _), (25, _)] ⟨rfl, rfl, rfl, rfl, rfl, rfl, trivial⟩ ?_
    exact ⟨b3, rfl, rfl, M⟩
  · -- ms2: law.go:23
    refine x_ms 4 4 rfl rfl rfl Try.underlying31 sz5 ze5 rfl by5 rfl rfl (by decide) (by decide) (by decide) ?_
    intro b3 w3 hb3 hw3
    have M := M.alloc hb3 hw3
    refine ⟨trivial, ?_⟩
    -- call3: valise/valiselaw17.key law.go:23
    refine x_call rfl rfl rfl rfl rfl en11 (key_c) ?_
    rintro v w2 ⟨rfl, hn⟩
    have M := M.new hn
    refine ⟨trivial, ?_⟩
    refine Ex.forkS [(0, _), (1, _), (22, _), (23, _), (24, _), (25, _)] ⟨rfl, rfl, rfl, rfl, rfl, rfl, trivial⟩ ?_
    exact ⟨b3, rfl, rfl, M⟩
  rintro F1 T1 w4 ⟨b4, rfl, rfl, M⟩
  refine ExT.two ?_
  -- call4: (*valise/cache.Cache).Put law.go:23
  refine x_call rfl rfl rfl rfl rfl en10 (M.opPut' lp1 (bytes_made (M.at_ 0 rfl)).in_ (fun _ g hg => .inr (by cases hg; simp)) (by decide)) ?_
  rintro v w5 ⟨rfl, M⟩
  refine ⟨trivial, ?_⟩
  refine x_nei false rfl rfl rfl rfl rfl rfl ?_ -- eq3 law.go:23
  refine x_pickF rfl rfl rfl rfl rfl ?_
  refine x_move rfl rfl rfl rfl ?_
  refine x_move rfl rfl rfl rfl ?_
  refine Ex.fork ?_
  refine Ex.join (fun F' T' w' => ∃ b, T' = [] ∧ F' = [(0, .bool false), (1, ptr c), (29, .bool false), (30, ptr c), (31, encK (kA 1)), (32, .slice (some ⟨b, 0, none⟩) 4 4)] ∧ CS w [(b4, .cells (List.replicate 4 (.int .u8 0)).toArray 5 (0, 0)), (b, .cells (List.replicate 4 (.int .u8 0)).toArray 5 (0, 0))] c 10 [(kA 0, zs 4, 0)] w') ?_ ?_ ?_ -- fo2
  · -- call5: valise/valiselaw17.key law.go:23
    refine x_call rfl rfl rfl rfl rfl en11 (key_c) ?_
    rintro v w2 ⟨rfl, hn⟩
    have M := M.new hn
    refine ⟨trivial, ?_⟩
    -- ms3: law.go:23
    refine x_ms 4 4 rfl rfl rfl Try.underlying31 sz5 ze5 rfl by5 rfl rfl (by decide) (by decide) (by decide) ?_
    intro b3 w3 hb3 hw3
    have M := M.alloc hb3 hw3
    refine ⟨trivial, ?_⟩
    refine Ex.forkS [(0, _), (1, _), (29, _), (30, _), (31, _), (32, _)] ⟨rfl, rfl, rfl, rfl, rfl, rfl, trivial⟩ ?_
    exact ⟨b3, rfl, rfl, M⟩
  · -- ms4: law.go:23
    refine x_ms 4 4 rfl rfl rfl Try.underlying31 sz5 ze5 rfl by5 rfl rfl (by decide) (by decide) (by decide) ?_
    intro b3 w3 hb3 hw3
    have M := M.alloc hb3 hw3
    refine ⟨trivial, ?_⟩
    -- call6: valise/valiselaw17.key law.go:23
    refine x_call rfl rfl rfl rfl rfl en11 (key_c) ?_
    rintro v w2 ⟨rfl, hn⟩
    have M := M.new hn
    refine ⟨trivial, ?_⟩
    refine Ex.forkS [(0, _), (1, _), (29, _), (30, _), (31, _), (32, _)] ⟨rfl, rfl, rfl, rfl, rfl, rfl, trivial⟩ ?_
    exact ⟨b3, rfl, rfl, M⟩
  rintro F1 T1 w6 ⟨b6, rfl, rfl, M⟩
  refine ExT.leaf ?_
  -- call7: (*valise/cache.Cache).Put law.go:23
  refine x_call rfl rfl rfl rfl rfl en10 (M.opPut' lp2 (bytes_made (M.at_ 1 rfl)).in_ (fun _ g hg => .inr (by cases hg; simp)) (by decide)) ?_
  rintro v w7 ⟨rfl, M⟩
  refine ⟨trivial, ?_⟩
  refine x_nei false rfl rfl rfl rfl rfl rfl ?_ -- eq4 law.go:23
  refine x_pickF rfl rfl rfl rfl rfl ?_
  refine Ex.done (hK _ _ ?_)
  refine At.then_n ?_
  refine W.condF rfl ?_ -- co1
  refine W.skip ?_
  refine At.then_n ?_
  refine W.seq ?_
  refine W.sub [(0, _), (1, _)] ⟨rfl, rfl, trivial⟩ ?_
  refine W.reg [(0, false), (1, true), (2, true), (3, false), (4, false), (5, false), (6, false), (7, false)] (by kernel_rfl) ?_ -- region 4
  intro K hK
  refine x_move rfl rfl rfl rfl ?_
  -- call8: valise/valiselaw17.key law.go:26
  refine x_call rfl rfl rfl rfl rfl en11 (key_c) ?_
  rintro v w2 ⟨rfl, hn⟩
  have M := M.new hn
  refine ⟨trivial, ?_⟩
  -- call9: (*valise/cache.Cache).Get law.go:26
  refine x_call rfl rfl rfl rfl rfl en16 (M.opGetS (k := kA 0) lg1) ?_
  rintro v w8 ⟨M, sv, rfl, hsv, _, _⟩
  obtain ⟨p8, cap8, rfl⟩ := hsv.shape
  refine ⟨trivial, ?_⟩
  refine x_move rfl rfl rfl rfl ?_
  refine x_ext rfl rfl rfl rfl rfl ?_ -- ex3
  refine x_ext rfl rfl rfl rfl rfl ?_ -- ex4
  refine x_assign rfl rfl rfl rfl ?_
  refine x_assign rfl rfl rfl rfl ?_
  refine Ex.done (hK _ _ ?_)
  refine At.then_n ?_
  refine W.seq ?_
  refine W.sub [(0, _), (1, _), (3, _), (4, _)] ⟨rfl, rfl, rfl, rfl, trivial⟩ ?_
  refine W.reg [(0, false), (1, false), (2, true), (3, true), (4, false)] (by kernel_rfl) ?_ -- region 5
  intro K hK
  refine x_move rfl rfl rfl rfl ?_
  refine x_build [_, _] rfl rfl rfl pl29 ze29 rfl rfl rfl ?_ -- bu1 law.go:27
  -- ms5: law.go:27
  refine x_ms 4 4 rfl rfl rfl Try.underlying31 sz5 ze5 rfl by5 rfl rfl (by decide) (by decide) (by decide) ?_
  intro b3 w3 hb3 hw3
  have M := M.alloc hb3 hw3
  refine ⟨trivial, ?_⟩
  -- call10: (*valise/cache.Cache).Put law.go:27
  refine x_call rfl rfl rfl rfl rfl en10 (M.opPut' (k := kB) lp3 (bytes_made (M.at_ 2 rfl)).in_ (fun _ g hg => .inr (by cases hg; simp)) (by decide)) ?_
  rintro v w9 ⟨rfl, M⟩
  refine ⟨trivial, ?_⟩
  refine x_assign rfl rfl rfl rfl ?_
  refine Ex.done (hK _ _ ?_)
  refine At.then_n ?_
  refine W.seq ?_
  refine W.sub [(0, _), (1, _), (3, _), (4, _), (5, _)] ⟨rfl, rfl, rfl, rfl, rfl, trivial⟩ ?_
  refine W.reg [(0, false), (1, true), (2, true), (3, false), (4, false), (5, false), (6, false), (7, false)] (by kernel_rfl) ?_ -- region 6
  intro K hK
  refine x_move rfl rfl rfl rfl ?_
  -- call11: valise/valiselaw17.key law.go:28
  refine x_call rfl rfl rfl rfl rfl en11 (key_c) ?_
  rintro v w2 ⟨rfl, hn⟩
  have M := M.new hn
  refine ⟨trivial, ?_⟩
  -- call12: (*valise/cache.Cache).Get law.go:28
  refine x_call rfl rfl rfl rfl rfl en16 (M.opGetN (k := kA 1) lg2) ?_
  rintro v w10 ⟨M, rfl⟩
  refine ⟨trivial, ?_⟩
  refine x_move rfl rfl rfl rfl ?_
  refine x_ext rfl rfl rfl rfl rfl ?_ -- ex5
  refine x_ext rfl rfl rfl rfl rfl ?_ -- ex6
  refine x_assign rfl rfl rfl rfl ?_
  refine x_assign rfl rfl rfl rfl ?_
  refine Ex.done (hK _ _ ?_)
  refine At.then_n ?_
  refine W.seq ?_
  refine W.sub [(0, _), (1, _), (3, _), (4, _), (5, _), (7, _)] ⟨rfl, rfl, rfl, rfl, rfl, rfl, trivial⟩ ?_
  refine W.reg [(0, false), (1, true), (2, false)] (by kernel_rfl) ?_ -- region 7
  intro K hK
  refine x_move rfl rfl rfl rfl ?_
  -- call13: (*valise/cache.Cache).Keys law.go:29
  refine x_call rfl rfl rfl rfl rfl en12 (M.opKeys (by decide)) ?_
  rintro v w11 ⟨how, _, M, hbk⟩
  obtain ⟨b11, cap11, rest11, T11, rfl, hb11, _, _⟩ : ∃ b cap rest T, v = .slice (some ⟨b, 0, none⟩) 2 cap ∧ w11.heap[b]? = some (.cells ([.string kB.1, .int .i64 kB.2, .string (kA 0).1, .int .i64 (kA 0).2] ++ rest).toArray T (0, 0)) ∧ True ∧ True := by
    rcases how with ⟨_, h1, _⟩ | ⟨b, cap, rest, T, h1, h2, _, _⟩
    · cases h1
    · exact ⟨b, cap, rest, T, h1, h2, trivial, trivial⟩
  have M := (hbk b11 rfl).2 _ hb11
  refine ⟨trivial, ?_⟩
  refine x_assign rfl rfl rfl rfl ?_
  refine Ex.done (hK _ _ ?_)
  refine At.then_n ?_
  refine W.seq ?_
  refine W.sub [(0, _), (1, _), (3, _), (4, _), (5, _), (7, _), (8, _)] ⟨rfl, rfl, rfl, rfl, rfl, rfl, rfl, trivial⟩ ?_
  refine W.reg [(0, false), (1, true), (2, true), (3, false)] (by kernel_rfl) ?_ -- region 8
  intro K hK
  refine x_move rfl rfl rfl rfl ?_
  -- call14: valise/valiselaw17.key law.go:30
  refine x_call rfl rfl rfl rfl rfl en11 (key_c) ?_
  rintro v w2 ⟨rfl, hn⟩
  have M := M.new hn
  refine ⟨trivial, ?_⟩
  -- call15: (*valise/cache.Cache).Pin law.go:30
  refine x_call rfl rfl rfl rfl rfl en20 (M.opPin' (k := kA 0) ln1 (by decide)) ?_
  rintro v w12 ⟨rfl, M⟩
  refine ⟨trivial, ?_⟩
  refine x_assign rfl rfl rfl rfl ?_
  refine Ex.done (hK _ _ ?_)
  refine At.then_n ?_
  refine W.seq ?_
  refine W.sub [(0, _), (1, _), (3, _), (4, _), (5, _), (7, _), (8, _), (9, _)] ⟨rfl, rfl, rfl, rfl, rfl, rfl, rfl, rfl, trivial⟩ ?_
  refine W.reg [(0, false), (1, false), (2, true), (3, true), (4, false)] (by kernel_rfl) ?_ -- region 9
  intro K hK
  refine x_move rfl rfl rfl rfl ?_
  refine x_build [_, _] rfl rfl rfl pl29 ze29 rfl rfl rfl ?_ -- bu2 law.go:31
  -- ms6: law.go:31
  refine x_ms 7 7 rfl rfl rfl Try.underlying31 sz5 ze5 rfl by5 rfl rfl (by decide) (by decide) (by decide) ?_
  intro b3 w3 hb3 hw3
  have M := M.alloc hb3 hw3
  refine ⟨trivial, ?_⟩
  -- call16: (*valise/cache.Cache).Put law.go:31
  refine x_call rfl rfl rfl rfl rfl en10 (M.opPut' (k := kC) lp4 (bytes_made (M.at_ 4 rfl)).in_ (fun _ g hg => .inr (by cases hg; simp)) (by decide)) ?_
  rintro v w13 ⟨rfl, M⟩
  refine ⟨trivial, ?_⟩
  refine x_assign rfl rfl rfl rfl ?_
  refine Ex.done (hK _ _ ?_)
  refine At.then_n ?_
  refine W.seq ?_
  refine W.sub [(0, _), (1, _), (3, _), (4, _), (5, _), (7, _), (8, _), (9, _), (10, _)] ⟨rfl, rfl, rfl, rfl, rfl, rfl, rfl, rfl, rfl, trivial⟩ ?_
  refine W.reg [(0, false), (1, false), (2, true), (3, true), (4, false)] (by kernel_rfl) ?_ -- region 10
  intro K hK
  refine x_move rfl rfl rfl rfl ?_
  refine x_build [_, _] rfl rfl rfl pl29 ze29 rfl rfl rfl ?_ -- bu3 law.go:32
  -- ms7: law.go:32
  refine x_ms 6 6 rfl rfl rfl Try.underlying31 sz5 ze5 rfl by5 rfl rfl (by decide) (by decide) (by decide) ?_
  intro b3 w3 hb3 hw3
  have M := M.alloc hb3 hw3
  refine ⟨trivial, ?_⟩
  -- call17: (*valise/cache.Cache).Put law.go:32
  refine x_call rfl rfl rfl rfl rfl en10 (M.opPut' (k := kC) lp5 (bytes_made (M.at_ 5 rfl)).in_ (fun _ g hg => .inr (by cases hg; simp)) (by decide)) ?_
  rintro v w14 ⟨rfl, M⟩
  refine ⟨trivial, ?_⟩
  refine x_assign rfl rfl rfl rfl ?_
  refine Ex.done (hK _ _ ?_)
  refine At.then_n ?_
  refine W.seq ?_
  refine W.sub [(0, _), (1, _), (3, _), (4, _), (5, _), (7, _), (8, _), (9, _), (10, _), (11, _)] ⟨rfl, rfl, rfl, rfl, rfl, rfl, rfl, rfl, rfl, rfl, trivial⟩ ?_
  refine W.regD (by kernel_rfl) #[0, 1, 3, 7, 15, 31, 63, 127, 255, 511, 1023, 2047, 4095, 8191, 16383, 32767, 65535, 131071, 262143, 524287, 1048575, 2097151, 4194303, 1048575, 16777215, 33554431, 67108863, 134217727, 268435455, 536870911, 1073741823, 2147483647, 4294967295, 8589934591, 17179869183, 34359738367, 68719476735, 137438953471, 274877906943, 549755813887, 1099511627775, 2199023255551, 4398046511103, 8796093022207, 17592186044415, 35184372088831, 70368744177663, 140737488355327] [(0, false), (1, false), (2, false), (3, false), (4, false), (5, false), (6, false), (7, false), (8, false), (9, false), (10, false), (11, false), (12, false), (13, false), (14, false), (15, false), (16, false), (17, false), (18, false), (19, false), (20, false), (21, false), (22, false), (23, true), (24, false), (25, false), (26, false), (27, false), (28, false), (29, false), (30, false), (31, false), (32, false), (33, false), (34, false), (35, false), (36, false), (37, false), (38, false), (39, false), (40, true), (41, false), (42, false), (43, false), (44, false), (45, false), (46, false), (47, false)] (by kernel_rfl) ?_ -- region 11
  intro K wD2 hK hwD2
  have M := M.drew hwD2
  refine x_move rfl rfl rfl rfl ?_
  refine x_len rfl rfl rfl rfl Try.underlying31 rfl ?_
  refine x_eqi true rfl rfl rfl rfl rfl rfl ?_ -- eq5 law.go:33
  refine x_move rfl rfl rfl rfl ?_
  refine x_move rfl rfl rfl rfl ?_
  refine x_pickT rfl rfl rfl rfl rfl ?_
  refine x_move rfl rfl rfl rfl ?_
  refine x_move rfl rfl rfl rfl ?_
  refine x_eqi true rfl rfl rfl rfl rfl rfl ?_ -- eq6 law.go:33
  refine x_pickT rfl rfl rfl rfl rfl ?_
  refine x_move rfl rfl rfl rfl ?_
  refine x_move rfl rfl rfl rfl ?_
  refine x_not true rfl rfl rfl rfl rfl ?_ -- un1 law.go:33
  refine x_pickT rfl rfl rfl rfl rfl ?_
  refine x_move rfl rfl rfl rfl ?_
  refine x_move rfl rfl rfl rfl ?_
  refine x_len rfl rfl rfl rfl Try.underlying32 rfl ?_
  refine x_eqi true rfl rfl rfl rfl rfl rfl ?_ -- eq7 law.go:33
  refine x_pickT rfl rfl rfl rfl rfl ?_
  refine x_move rfl rfl rfl rfl ?_
  refine x_move rfl rfl rfl rfl ?_
  refine x_ia 1 rfl rfl rfl Try.underlying32 sz29 rfl rfl rfl (by decide) ?_ -- ia1 law.go:33
  refine x_ldA [_, _] rfl rfl rfl Try.underlying29 rfl sz29 rfl rfl ⟨_, _, _, (by first | exact M.at_ 0 rfl | exact M.at_ 1 rfl | exact M.at_ 2 rfl | exact M.at_ 3 rfl | exact M.at_ 4 rfl | exact M.at_ 5 rfl), rfl⟩ ?_ -- ld1 law.go:33
  -- call18: valise/valiselaw17.key law.go:33
  refine x_call rfl rfl rfl rfl rfl en11 (key_c) ?_
  rintro v w2 ⟨rfl, hn⟩
  have M := M.new hn
  refine ⟨⟨.inr ⟨_, _, _, (by first | exact M.at_ 0 rfl | exact M.at_ 1 rfl | exact M.at_ 2 rfl | exact M.at_ 3 rfl | exact M.at_ 4 rfl | exact M.at_ 5 rfl), rfl⟩, trivial⟩, ?_⟩
  refine x_bin (v := .bool true) rfl rfl rfl rfl rfl (fun w' => (run_eq_key (kA 0) (kA 0) _ _ w').trans (by simp)) ?_ -- eq8 law.go:33
  refine x_pickT rfl rfl rfl rfl rfl ?_
  refine x_move rfl rfl rfl rfl ?_
  refine x_move rfl rfl rfl rfl ?_
  refine x_eqi true rfl rfl rfl rfl rfl rfl ?_ -- eq9 law.go:33
  refine x_pickT rfl rfl rfl rfl rfl ?_
  refine x_move rfl rfl rfl rfl ?_
  refine x_move rfl rfl rfl rfl ?_
  refine x_eqi true rfl rfl rfl rfl rfl rfl ?_ -- eq10 law.go:33
  refine x_pickT rfl rfl rfl rfl rfl ?_
  refine x_move rfl rfl rfl rfl ?_
  refine x_move rfl rfl rfl rfl ?_
  refine x_eqi true rfl rfl rfl rfl rfl rfl ?_ -- eq11 law.go:33
  refine x_pickT rfl rfl rfl rfl rfl ?_
  refine x_move rfl rfl rfl rfl ?_
  refine x_move rfl rfl rfl rfl ?_
  -- call19: (*valise/cache.Cache).Size law.go:33
  refine x_call rfl rfl rfl rfl rfl en15 (M.opSize' ls1) ?_
  rintro v w1 ⟨rfl, rfl⟩
  refine ⟨⟨.inl (by kernel_rfl), trivial⟩, ?_⟩
  refine x_eqi true rfl rfl rfl rfl rfl rfl ?_ -- eq12 law.go:33
  refine x_pickT rfl rfl rfl rfl rfl ?_
  refine x_move rfl rfl rfl rfl ?_
  refine x_pickT rfl rfl rfl rfl rfl ?_
  refine x_move rfl rfl rfl rfl ?_
  refine x_pickT rfl rfl rfl rfl rfl ?_
  refine x_assign rfl rfl rfl rfl ?_
  refine Ex.done (hK _ _ ?_)
  refine At.then_n ?_
  refine W.ret ?_
  refine At.ret1 (.tmp 0) rfl ⟨rfl, trivial⟩ ?_ -- ret1
  exact ⟨rfl, M.frm⟩
end Go.Proofs.Ytbbccdcjhoecpaa
