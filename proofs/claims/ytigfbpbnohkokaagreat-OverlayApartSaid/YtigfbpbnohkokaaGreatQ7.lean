/-
  Texts that belong together, laid into one file: O22, U20, O23, U21, O24, FwT, R19.
-/
import Derived.Test.YtigfbpbnohkokaaGreatQ6
namespace Go.Proofs.YtigfbpbnohkokaaGreat
open Go Go.Fw Go.RowKit Go.Proofs
set_option linter.unusedVariables false
set_option linter.unusedSimpArgs false

set_option maxRecDepth 100000 in
theorem lives19_c {w0 : World}   : Ret Tryz.prog 11 #[] w0 fun r w' => r = .bool true ∧ New w0 w' := by
 have M : Sep w0 [] w0 := St.nil w0
 refine Ret.of_W Tryz.func11 rfl Tryz.ntmps11 rfl ?_
 refine W.seq ?_
 refine W.sub [] trivial ?_
 refine W.reg [(0, false)] (by kernel_rfl) ?_
 intro K hK
 refine x_assign rfl rfl rfl rfl ?_
 refine Ex.done (hK _ _ ?_)
 refine At.then_n ?_
 refine W.seq ?_
 refine W.sub [] trivial ?_
 refine W.reg [(0, true), (1, true), (2, false), (3, true), (4, true), (5, false), (6, false), (7, false), (8, false), (9, false), (10, false), (11, false)] (by kernel_rfl) ?_
 intro K hK
 refine x_bsN (byteCs [98, 97, 115, 101]) rfl rfl rfl Tryz.underlying27 sz5 ze5 (Z := [_]) rfl rfl (by decide) (by decide) rfl (by kernel_rfl) ?_
 intro bz wz hbz hwz
 have M := M.acons hbz hwz
 refine ⟨trivial, ?_⟩
 refine x_cvsl rfl rfl rfl rfl Tryz.underlying27 Tryz.underlying5 rfl (M.at_ 0 rfl) ?_
 intro wcv1 hwcv1
 have M := M.put 0 rfl hwcv1
 refine ⟨trivial, ?_⟩
 refine x_build [_, _, _] rfl rfl rfl pl29 ze29 rfl rfl rfl ?_
 refine x_bs1 (cs := [strV [122], .bool false, .slice (some ⟨bz, 0, none⟩) 4 4]) rfl rfl rfl Tryz.underlying24 sz29 ze29 (Z := [_, _, _]) rfl rfl (by decide) (by decide) rfl rfl rfl ?_
 intro bf0 wbs2 hbf0 hwbs2
 have M := M.acons hbf0 hwbs2
 have M : Sep w0 [(bf0, .cells [strV [122], .bool false, .slice (some ⟨bz, 0, none⟩) 4 4].toArray 29 (0, 0)), (bz, .cells (byteCs [98, 97, 115, 101]).toArray 5 (4, 5))] wbs2 := M
 have hFz : FilesK w0 [(bf0, .cells [strV [122], .bool false, .slice (some ⟨bz, 0, none⟩) 4 4].toArray 29 (0, 0)), (bz, .cells (byteCs [98, 97, 115, 101]).toArray 5 (4, 5))] (.slice (some ⟨bf0, 0, none⟩) 1 1) lz := ⟨[(([122], false, [98, 97, 115, 101]), .slice (some ⟨bz, 0, none⟩) 4 4)], rfl, SgK.slL (.inr ⟨bf0, 0, 1, _, _, _, rfl, Nat.le_refl _, List.mem_cons_self, rfl, rfl⟩) (fun _ h => h), fun f hf => by rw [List.mem_singleton.1 hf]; exact ⟨SgK.lit (List.mem_cons_of_mem _ List.mem_cons_self) rfl, rfl⟩⟩
 refine ⟨trivial, ?_⟩
 refine x_call rfl rfl rfl rfl rfl en15 (made19_c (w00 := w0) (L := []) (Lf := [_, _]) (l := lz) (by rw [List.append_nil]; exact M) hFz (by decide)) ?_
 rintro r_ w1 ⟨po, bs, rfl, hbad, hgood⟩
 have hz0 : madeE lz = 0 := by unfold madeE; rw [if_neg (by decide), new_lz]
 obtain ⟨bf, bv, S0, rfl, hR0, hB, M⟩ := hgood hz0
 rw [new_lz] at hR0 M
 rw [hz0]
 have hR0 : FR (baseL lz) S0 lz (fun _ _ => none) := hR0
 obtain ⟨Lb, hLb⟩ : ∃ Lb : List (Nat × Obj), Lb = ((bs, .cells [.slice (some ⟨bf0, 0, none⟩) 1 1, .bool false].toArray 79 (0, 0)) :: [(bf0, .cells [strV [122], .bool false, .slice (some ⟨bz, 0, none⟩) 4 4].toArray 29 (0, 0)), (bz, .cells (byteCs [98, 97, 115, 101]).toArray 5 (4, 5))]) := ⟨_, rfl⟩
 have hsh : ((bs, .cells [.slice (some ⟨bf0, 0, none⟩) 1 1, .bool false].toArray 79 (0, 0)) : Nat × Obj) ∈ Lb := by rw [hLb]; exact List.mem_cons_self
 have hB : BaseC w0 Lb bv (baseL lz) := by rw [hLb]; exact hB
 have M : Sep w0 ([] ++ (fsB bf bv (usedL lz) S0 ++ (Lb ++ []))) w1 := by rw [hLb]; exact M
 refine ⟨trivial, ?_⟩
 refine x_move rfl rfl rfl rfl ?_
 refine x_ext rfl rfl rfl rfl rfl ?_
 refine x_ext rfl rfl rfl rfl rfl ?_
 refine x_ext rfl rfl rfl rfl rfl ?_
 refine x_assign rfl rfl rfl rfl ?_
 refine x_assign rfl rfl rfl rfl ?_
 refine x_assign rfl rfl rfl rfl ?_
 refine Ex.done (hK _ _ ?_)
 refine At.then_n ?_
 refine W.seq ?_
 refine W.seq ?_
 refine W.sub [(1, _), (2, _), (3, _)] ⟨rfl, rfl, rfl, trivial⟩ ?_
 refine W.reg [(0, false), (1, false), (2, false), (3, false), (4, false), (5, false)] (by kernel_rfl) ?_
 intro K hK
 refine x_move rfl rfl rfl rfl ?_
 refine x_eqpn false rfl rfl rfl Tryz.underlying34 rfl rfl rfl ?_
 refine x_move rfl rfl rfl rfl ?_
 refine x_move rfl rfl rfl rfl ?_
 refine x_nei false rfl rfl rfl rfl rfl rfl ?_
 refine x_pickF rfl rfl rfl rfl rfl ?_
 refine Ex.done (hK _ _ ?_)
 refine At.then_n ?_
 refine W.condF rfl ?_
 refine W.skip ?_
 refine At.then_n ?_
 refine W.seq ?_
 refine W.sub [(1, _), (2, _)] ⟨rfl, rfl, trivial⟩ ?_
 refine W.reg [(0, false), (1, false), (2, true), (3, true), (4, true)] (by kernel_rfl) ?_
 intro K hK
 refine x_move rfl rfl rfl rfl ?_
 refine x_build [_, _, _, _, _, _, _, _, _] rfl rfl rfl pl52 ze52 rfl rfl rfl ?_
 refine x_call rfl rfl rfl rfl rfl en16 (do_x (X := []) (l := lz) (hf := fun _ _ => none) (who := 0) (o := lo1) (dv := (.slice none 0 0)) M hR0 hB (fun _ _ _ _ _ => .inr (.inl ⟨rfl, rfl, rfl⟩))) ?_
 rintro r_ wr1 ⟨S1, p1, c1, q1, d1, n1, La1, Lb1, rfl, hb1, hs1, hR1, M⟩
 have hR1 : FR (baseL lz) S1 lv1.2.1 lv1.2.2 := hR1
 refine ⟨trivial, ?_⟩
 refine x_alloc [_, _, _, _, _] rfl rfl rfl ze49 rfl ?_
 intro bal1 wal1 hbal1 hwal1
 have M := M.acons hbal1 hwal1
 refine ⟨trivial, ?_⟩
 refine x_st [_, _, _, _, _] _ rfl rfl rfl sz49 rfl rfl rfl rfl (by first | exact M.at_ 0 rfl | exact M.at_ 1 rfl | exact M.at_ 2 rfl | exact M.at_ 3 rfl | exact M.at_ 4 rfl | exact M.at_ 5 rfl | exact M.at_ 6 rfl | exact M.at_ 7 rfl | exact M.at_ 8 rfl | exact M.at_ 9 rfl | exact M.at_ 10 rfl | exact M.at_ 11 rfl | exact M.at_ 12 rfl | exact M.at_ 13 rfl) rfl rfl rfl ?_
 intro wst1 hwst1
 have M := by first | exact M.put 0 rfl hwst1 | exact M.put 1 rfl hwst1 | exact M.put 2 rfl hwst1 | exact M.put 3 rfl hwst1 | exact M.put 4 rfl hwst1 | exact M.put 5 rfl hwst1 | exact M.put 6 rfl hwst1 | exact M.put 7 rfl hwst1 | exact M.put 8 rfl hwst1 | exact M.put 9 rfl hwst1 | exact M.put 10 rfl hwst1 | exact M.put 11 rfl hwst1 | exact M.put 12 rfl hwst1 | exact M.put 13 rfl hwst1
 refine ⟨trivial, ?_⟩
 refine Ex.done (hK _ _ ?_)
 refine At.then_n ?_
 refine W.seq ?_
 refine W.sub [(1, _), (2, _), (4, _)] ⟨rfl, rfl, rfl, trivial⟩ ?_
 refine W.reg [(0, false), (1, true), (2, true), (3, false), (4, true), (5, true), (6, true)] (by kernel_rfl) ?_
 intro K hK
 refine x_move rfl rfl rfl rfl ?_
 refine x_bsN (byteCs [120, 121]) rfl rfl rfl Tryz.underlying27 sz5 ze5 (Z := [_]) rfl rfl (by decide) (by decide) rfl (by kernel_rfl) ?_
 intro bxy wxy hbxy hwxy
 have M := M.acons hbxy hwxy
 refine ⟨trivial, ?_⟩
 refine x_cvsl rfl rfl rfl rfl Tryz.underlying27 Tryz.underlying5 rfl (M.at_ 0 rfl) ?_
 intro wcv2 hwcv2
 have M := M.put 0 rfl hwcv2
 refine ⟨trivial, ?_⟩
 refine x_build [_, _, _, _, _, _, _, _, _] rfl rfl rfl pl52 ze52 rfl rfl rfl ?_
 refine x_call rfl rfl rfl rfl rfl en16 (do_x (X := [_, _]) (l := lv1.2.1) (hf := lv1.2.2) (who := 0) (o := lo2) (dv := (.slice (some ⟨bxy, 0, none⟩) 2 2)) M hR1 hB (fun w Y hY hX _ => SgK.lit (w00 := w0) (L := [(bxy, .cells (byteCs [120, 121]).toArray 5 (2, 3))]) List.mem_cons_self rfl w Y hY (fun y hy => by rw [List.mem_singleton.1 hy]; exact hX _ List.mem_cons_self))) ?_
 rintro r_ wr2 ⟨S2, p2, c2, q2, d2, n2, La2, Lb2, rfl, hb2, hs2, hR2, M⟩
 have hR2 : FR (baseL lz) S2 lv2.2.1 lv2.2.2 := hR2
 refine ⟨trivial, ?_⟩
 refine x_alloc [_, _, _, _, _] rfl rfl rfl ze49 rfl ?_
 intro bal2 wal2 hbal2 hwal2
 have M := M.acons hbal2 hwal2
 refine ⟨trivial, ?_⟩
 refine x_st [_, _, _, _, _] _ rfl rfl rfl sz49 rfl rfl rfl rfl (by first | exact M.at_ 0 rfl | exact M.at_ 1 rfl | exact M.at_ 2 rfl | exact M.at_ 3 rfl | exact M.at_ 4 rfl | exact M.at_ 5 rfl | exact M.at_ 6 rfl | exact M.at_ 7 rfl | exact M.at_ 8 rfl | exact M.at_ 9 rfl | exact M.at_ 10 rfl | exact M.at_ 11 rfl | exact M.at_ 12 rfl | exact M.at_ 13 rfl) rfl rfl rfl ?_
 intro wst2 hwst2
 have M := by first | exact M.put 0 rfl hwst2 | exact M.put 1 rfl hwst2 | exact M.put 2 rfl hwst2 | exact M.put 3 rfl hwst2 | exact M.put 4 rfl hwst2 | exact M.put 5 rfl hwst2 | exact M.put 6 rfl hwst2 | exact M.put 7 rfl hwst2 | exact M.put 8 rfl hwst2 | exact M.put 9 rfl hwst2 | exact M.put 10 rfl hwst2 | exact M.put 11 rfl hwst2 | exact M.put 12 rfl hwst2 | exact M.put 13 rfl hwst2
 refine ⟨trivial, ?_⟩
 refine Ex.done (hK _ _ ?_)
 refine At.then_n ?_
 refine W.seq ?_
 refine W.sub [(1, _), (2, _), (4, _), (5, _)] ⟨rfl, rfl, rfl, rfl, trivial⟩ ?_
 refine W.reg [(0, false), (1, false), (2, true), (3, true), (4, true)] (by kernel_rfl) ?_
 intro K hK
 refine x_move rfl rfl rfl rfl ?_
 refine x_build [_, _, _, _, _, _, _, _, _] rfl rfl rfl pl52 ze52 rfl rfl rfl ?_
 refine x_call rfl rfl rfl rfl rfl en16 (do_x (X := [_, _, _]) (l := lv2.2.1) (hf := lv2.2.2) (who := 0) (o := lo3) (dv := (.slice none 0 0)) M hR2 hB (fun _ _ _ _ _ => .inr (.inl ⟨rfl, rfl, rfl⟩))) ?_
 rintro r_ wr3 ⟨S3, p3, c3, q3, d3, n3, La3, Lb3, rfl, hb3, hs3, hR3, M⟩
 have hR3 : FR (baseL lz) S3 lv3.2.1 lv3.2.2 := hR3
 refine ⟨trivial, ?_⟩
 refine x_alloc [_, _, _, _, _] rfl rfl rfl ze49 rfl ?_
 intro bal3 wal3 hbal3 hwal3
 have M := M.acons hbal3 hwal3
 refine ⟨trivial, ?_⟩
 refine x_st [_, _, _, _, _] _ rfl rfl rfl sz49 rfl rfl rfl rfl (by first | exact M.at_ 0 rfl | exact M.at_ 1 rfl | exact M.at_ 2 rfl | exact M.at_ 3 rfl | exact M.at_ 4 rfl | exact M.at_ 5 rfl | exact M.at_ 6 rfl | exact M.at_ 7 rfl | exact M.at_ 8 rfl | exact M.at_ 9 rfl | exact M.at_ 10 rfl | exact M.at_ 11 rfl | exact M.at_ 12 rfl | exact M.at_ 13 rfl) rfl rfl rfl ?_
 intro wst3 hwst3
 have M := by first | exact M.put 0 rfl hwst3 | exact M.put 1 rfl hwst3 | exact M.put 2 rfl hwst3 | exact M.put 3 rfl hwst3 | exact M.put 4 rfl hwst3 | exact M.put 5 rfl hwst3 | exact M.put 6 rfl hwst3 | exact M.put 7 rfl hwst3 | exact M.put 8 rfl hwst3 | exact M.put 9 rfl hwst3 | exact M.put 10 rfl hwst3 | exact M.put 11 rfl hwst3 | exact M.put 12 rfl hwst3 | exact M.put 13 rfl hwst3
 refine ⟨trivial, ?_⟩
 refine Ex.done (hK _ _ ?_)
 refine At.then_n ?_
 refine W.seq ?_
 refine W.sub [(1, _), (2, _), (4, _), (5, _), (6, _)] ⟨rfl, rfl, rfl, rfl, rfl, trivial⟩ ?_
 refine W.reg [(0, false), (1, false), (2, true), (3, true), (4, true)] (by kernel_rfl) ?_
 intro K hK
 refine x_move rfl rfl rfl rfl ?_
 refine x_build [_, _, _, _, _, _, _, _, _] rfl rfl rfl pl52 ze52 rfl rfl rfl ?_
 refine x_call rfl rfl rfl rfl rfl en16 (do_x (X := [_, _, _, _]) (l := lv3.2.1) (hf := lv3.2.2) (who := 0) (o := lo4) (dv := (.slice none 0 0)) M hR3 hB (fun _ _ _ _ _ => .inr (.inl ⟨rfl, rfl, rfl⟩))) ?_
 rintro r_ wr4 ⟨S4, p4, c4, q4, d4, n4, La4, Lb4, rfl, hb4, hs4, hR4, M⟩
 have hR4 : FR (baseL lz) S4 lv4.2.1 lv4.2.2 := hR4
 refine ⟨trivial, ?_⟩
 refine x_alloc [_, _, _, _, _] rfl rfl rfl ze49 rfl ?_
 intro bal4 wal4 hbal4 hwal4
 have M := M.acons hbal4 hwal4
 refine ⟨trivial, ?_⟩
 refine x_st [_, _, _, _, _] _ rfl rfl rfl sz49 rfl rfl rfl rfl (by first | exact M.at_ 0 rfl | exact M.at_ 1 rfl | exact M.at_ 2 rfl | exact M.at_ 3 rfl | exact M.at_ 4 rfl | exact M.at_ 5 rfl | exact M.at_ 6 rfl | exact M.at_ 7 rfl | exact M.at_ 8 rfl | exact M.at_ 9 rfl | exact M.at_ 10 rfl | exact M.at_ 11 rfl | exact M.at_ 12 rfl | exact M.at_ 13 rfl) rfl rfl rfl ?_
 intro wst4 hwst4
 have M := by first | exact M.put 0 rfl hwst4 | exact M.put 1 rfl hwst4 | exact M.put 2 rfl hwst4 | exact M.put 3 rfl hwst4 | exact M.put 4 rfl hwst4 | exact M.put 5 rfl hwst4 | exact M.put 6 rfl hwst4 | exact M.put 7 rfl hwst4 | exact M.put 8 rfl hwst4 | exact M.put 9 rfl hwst4 | exact M.put 10 rfl hwst4 | exact M.put 11 rfl hwst4 | exact M.put 12 rfl hwst4 | exact M.put 13 rfl hwst4
 refine ⟨trivial, ?_⟩
 refine Ex.done (hK _ _ ?_)
 refine At.then_n ?_
 refine W.seq ?_
 refine W.sub [(1, _), (2, _), (4, _), (5, _), (6, _), (7, _)] ⟨rfl, rfl, rfl, rfl, rfl, rfl, trivial⟩ ?_
 refine W.reg [(0, false), (1, false), (2, true), (3, true), (4, true)] (by kernel_rfl) ?_
 intro K hK
 refine x_move rfl rfl rfl rfl ?_
 refine x_build [_, _, _, _, _, _, _, _, _] rfl rfl rfl pl52 ze52 rfl rfl rfl ?_
 refine x_call rfl rfl rfl rfl rfl en16 (do_x (X := [_, _, _, _, _]) (l := lv4.2.1) (hf := lv4.2.2) (who := 0) (o := lo5) (dv := (.slice none 0 0)) M hR4 hB (fun _ _ _ _ _ => .inr (.inl ⟨rfl, rfl, rfl⟩))) ?_
 rintro r_ wr5 ⟨S5, p5, c5, q5, d5, n5, La5, Lb5, rfl, hb5, hs5, hR5, M⟩
 have hR5 : FR (baseL lz) S5 lv5.2.1 lv5.2.2 := hR5
 refine ⟨trivial, ?_⟩
 refine x_alloc [_, _, _, _, _] rfl rfl rfl ze49 rfl ?_
 intro bal5 wal5 hbal5 hwal5
 have M := M.acons hbal5 hwal5
 refine ⟨trivial, ?_⟩
 refine x_st [_, _, _, _, _] _ rfl rfl rfl sz49 rfl rfl rfl rfl (by first | exact M.at_ 0 rfl | exact M.at_ 1 rfl | exact M.at_ 2 rfl | exact M.at_ 3 rfl | exact M.at_ 4 rfl | exact M.at_ 5 rfl | exact M.at_ 6 rfl | exact M.at_ 7 rfl | exact M.at_ 8 rfl | exact M.at_ 9 rfl | exact M.at_ 10 rfl | exact M.at_ 11 rfl | exact M.at_ 12 rfl | exact M.at_ 13 rfl) rfl rfl rfl ?_
 intro wst5 hwst5
 have M := by first | exact M.put 0 rfl hwst5 | exact M.put 1 rfl hwst5 | exact M.put 2 rfl hwst5 | exact M.put 3 rfl hwst5 | exact M.put 4 rfl hwst5 | exact M.put 5 rfl hwst5 | exact M.put 6 rfl hwst5 | exact M.put 7 rfl hwst5 | exact M.put 8 rfl hwst5 | exact M.put 9 rfl hwst5 | exact M.put 10 rfl hwst5 | exact M.put 11 rfl hwst5 | exact M.put 12 rfl hwst5 | exact M.put 13 rfl hwst5
 refine ⟨trivial, ?_⟩
 refine Ex.done (hK _ _ ?_)
 refine At.then_n ?_
 refine W.seq ?_
 refine W.sub [(1, _), (2, _), (4, _), (5, _), (6, _), (7, _), (8, _)] ⟨rfl, rfl, rfl, rfl, rfl, rfl, rfl, trivial⟩ ?_
 refine W.reg [(0, false), (1, false), (2, true), (3, true), (4, true)] (by kernel_rfl) ?_
 intro K hK
 refine x_move rfl rfl rfl rfl ?_
 refine x_build [_, _, _, _, _, _, _, _, _] rfl rfl rfl pl52 ze52 rfl rfl rfl ?_
 refine x_call rfl rfl rfl rfl rfl en16 (do_x (X := [_, _, _, _, _, _]) (l := lv5.2.1) (hf := lv5.2.2) (who := 0) (o := lo6) (dv := (.slice none 0 0)) M hR5 hB (fun _ _ _ _ _ => .inr (.inl ⟨rfl, rfl, rfl⟩))) ?_
 rintro r_ wr6 ⟨S6, p6, c6, q6, d6, n6, La6, Lb6, rfl, hb6, hs6, hR6, M⟩
 have hR6 : FR (baseL lz) S6 lv6.2.1 lv6.2.2 := hR6
 refine ⟨trivial, ?_⟩
 refine x_alloc [_, _, _, _, _] rfl rfl rfl ze49 rfl ?_
 intro bal6 wal6 hbal6 hwal6
 have M := M.acons hbal6 hwal6
 refine ⟨trivial, ?_⟩
 refine x_st [_, _, _, _, _] _ rfl rfl rfl sz49 rfl rfl rfl rfl (by first | exact M.at_ 0 rfl | exact M.at_ 1 rfl | exact M.at_ 2 rfl | exact M.at_ 3 rfl | exact M.at_ 4 rfl | exact M.at_ 5 rfl | exact M.at_ 6 rfl | exact M.at_ 7 rfl | exact M.at_ 8 rfl | exact M.at_ 9 rfl | exact M.at_ 10 rfl | exact M.at_ 11 rfl | exact M.at_ 12 rfl | exact M.at_ 13 rfl) rfl rfl rfl ?_
 intro wst6 hwst6
 have M := by first | exact M.put 0 rfl hwst6 | exact M.put 1 rfl hwst6 | exact M.put 2 rfl hwst6 | exact M.put 3 rfl hwst6 | exact M.put 4 rfl hwst6 | exact M.put 5 rfl hwst6 | exact M.put 6 rfl hwst6 | exact M.put 7 rfl hwst6 | exact M.put 8 rfl hwst6 | exact M.put 9 rfl hwst6 | exact M.put 10 rfl hwst6 | exact M.put 11 rfl hwst6 | exact M.put 12 rfl hwst6 | exact M.put 13 rfl hwst6
 refine ⟨trivial, ?_⟩
 refine Ex.done (hK _ _ ?_)
 refine At.then_n ?_
 refine W.seq ?_
 refine W.sub [(1, _), (2, _), (4, _), (5, _), (6, _), (7, _), (8, _), (9, _)] ⟨rfl, rfl, rfl, rfl, rfl, rfl, rfl, rfl, trivial⟩ ?_
 refine W.reg [(0, false), (1, false), (2, true), (3, true), (4, true)] (by kernel_rfl) ?_
 intro K hK
 refine x_move rfl rfl rfl rfl ?_
 refine x_build [_, _, _, _, _, _, _, _, _] rfl rfl rfl pl52 ze52 rfl rfl rfl ?_
 refine x_call rfl rfl rfl rfl rfl en16 (do_x (X := [_, _, _, _, _, _, _]) (l := lv6.2.1) (hf := lv6.2.2) (who := 0) (o := lo5) (dv := (.slice none 0 0)) M hR6 hB (fun _ _ _ _ _ => .inr (.inl ⟨rfl, rfl, rfl⟩))) ?_
 rintro r_ wr7 ⟨S7, p7, c7, q7, d7, n7, La7, Lb7, rfl, hb7, hs7, hR7, M⟩
 have hR7 : FR (baseL lz) S7 lv7.2.1 lv7.2.2 := hR7
 refine ⟨trivial, ?_⟩
 refine x_alloc [_, _, _, _, _] rfl rfl rfl ze49 rfl ?_
 intro bal7 wal7 hbal7 hwal7
 have M := M.acons hbal7 hwal7
 refine ⟨trivial, ?_⟩
 refine x_st [_, _, _, _, _] _ rfl rfl rfl sz49 rfl rfl rfl rfl (by first | exact M.at_ 0 rfl | exact M.at_ 1 rfl | exact M.at_ 2 rfl | exact M.at_ 3 rfl | exact M.at_ 4 rfl | exact M.at_ 5 rfl | exact M.at_ 6 rfl | exact M.at_ 7 rfl | exact M.at_ 8 rfl | exact M.at_ 9 rfl | exact M.at_ 10 rfl | exact M.at_ 11 rfl | exact M.at_ 12 rfl | exact M.at_ 13 rfl) rfl rfl rfl ?_
 intro wst7 hwst7
 have M := by first | exact M.put 0 rfl hwst7 | exact M.put 1 rfl hwst7 | exact M.put 2 rfl hwst7 | exact M.put 3 rfl hwst7 | exact M.put 4 rfl hwst7 | exact M.put 5 rfl hwst7 | exact M.put 6 rfl hwst7 | exact M.put 7 rfl hwst7 | exact M.put 8 rfl hwst7 | exact M.put 9 rfl hwst7 | exact M.put 10 rfl hwst7 | exact M.put 11 rfl hwst7 | exact M.put 12 rfl hwst7 | exact M.put 13 rfl hwst7
 refine ⟨trivial, ?_⟩
 refine Ex.done (hK _ _ ?_)
 refine At.then_n ?_
 refine W.seq ?_
 refine W.sub [(1, _), (2, _), (4, _), (5, _), (6, _), (7, _), (8, _), (9, _), (10, _)] ⟨rfl, rfl, rfl, rfl, rfl, rfl, rfl, rfl, rfl, trivial⟩ ?_
 refine W.reg [(0, false), (1, true), (2, false)] (by kernel_rfl) ?_
 intro K hK
 refine x_move rfl rfl rfl rfl ?_
 refine x_call rfl rfl rfl rfl rfl en17 (files_x (X := [_, _, _, _, _, _, _, _]) (l := lv7.2.1) (hf := lv7.2.2) M hR7 hB) ?_
 rintro r_ w9 ⟨p9, c9, L9, rfl, hl9, M⟩
 obtain ⟨e1, e2, e3, e4, e5, e6, e7, e8⟩ := lv_says
 have hl9 : FilesO L9 (.slice p9 lv7.2.1.length c9) lv7.2.1 := hl9
 rw [e8] at hl9
 rw [show lv7.2.1.length = 1 by rw [e8]; rfl]
 have hl9 : FilesO L9 (.slice p9 1 c9) lz := hl9
 have hs9 : w9.heap[bs]? = some ((bs, .cells [.slice (some ⟨bf0, 0, none⟩) 1 1, .bool false].toArray 79 (0, 0)) : Nat × Obj).2 := M.get (List.mem_append_right _ (List.mem_append_right _ (List.mem_append_left _ hsh)))
 have hd4 := bytesO_get hb4 (fun y hy => M.get (by simp [hy]))
 have hfa := filesO_get hl9 (fun y hy => M.get (by simp [hy]))
 obtain ⟨b9, o9, rfl, _⟩ := hfa.blk (j := 0) (by decide)
 obtain ⟨p90, c90, hr9, hb90⟩ := hfa.row (j := 0) rfl
 refine ⟨trivial, ?_⟩
 refine x_assign rfl rfl rfl rfl ?_
 refine Ex.done (hK _ _ ?_)
 refine At.then_n ?_
 refine W.seq ?_
 refine W.sub [(2, _), (4, _), (5, _), (6, _), (7, _), (8, _), (9, _), (10, _), (11, _)] ⟨rfl, rfl, rfl, rfl, rfl, rfl, rfl, rfl, rfl, trivial⟩ ?_
 refine W.reg [(0, false), (1, false), (2, false), (3, false), (4, false), (5, false), (6, false), (7, false), (8, false), (9, false), (10, false), (11, false), (12, false), (13, false), (14, false), (15, false), (16, false), (17, false), (18, false), (19, false), (20, false), (21, false), (22, false), (23, false), (24, false), (25, false), (26, false), (27, false), (28, false), (29, false), (30, false), (31, false), (32, false), (33, false), (34, false), (35, false), (36, false), (37, false), (38, false), (39, false), (40, false), (41, false), (42, false), (43, false), (44, false), (45, false), (46, false), (47, false), (48, false), (49, false), (50, false), (51, false), (52, false), (53, false), (54, false), (55, false), (56, false), (57, false), (58, false)] (by kernel_rfl) ?_
 intro K hK
 refine x_fa rfl rfl rfl fo49_1 rfl ?_
 refine x_ld rfl rfl rfl Tryz.underlying3 rfl rfl (cell_of (by first | exact M.at_ 0 rfl | exact M.at_ 1 rfl | exact M.at_ 2 rfl | exact M.at_ 3 rfl | exact M.at_ 4 rfl | exact M.at_ 5 rfl | exact M.at_ 6 rfl | exact M.at_ 7 rfl | exact M.at_ 8 rfl | exact M.at_ 9 rfl | exact M.at_ 10 rfl | exact M.at_ 11 rfl | exact M.at_ 12 rfl | exact M.at_ 13 rfl) rfl) ?_
 refine x_eqi true rfl rfl rfl rfl rfl (by rw [beq_iff_eq]; exact e1) ?_
 refine x_move rfl rfl rfl rfl ?_
 refine x_fa rfl rfl rfl fo49_2 rfl ?_
 refine x_ld rfl rfl rfl Tryz.underlying3 rfl rfl (cell_of (by first | exact M.at_ 0 rfl | exact M.at_ 1 rfl | exact M.at_ 2 rfl | exact M.at_ 3 rfl | exact M.at_ 4 rfl | exact M.at_ 5 rfl | exact M.at_ 6 rfl | exact M.at_ 7 rfl | exact M.at_ 8 rfl | exact M.at_ 9 rfl | exact M.at_ 10 rfl | exact M.at_ 11 rfl | exact M.at_ 12 rfl | exact M.at_ 13 rfl) rfl) ?_
 refine x_eqi true rfl rfl rfl rfl rfl (by rw [beq_iff_eq]; exact e2) ?_
 refine x_pickT rfl rfl rfl rfl rfl ?_
 refine x_move rfl rfl rfl rfl ?_
 refine x_fa rfl rfl rfl fo49_0 rfl ?_
 refine x_ld rfl rfl rfl Tryz.underlying35 rfl rfl (cell_of (by first | exact M.at_ 0 rfl | exact M.at_ 1 rfl | exact M.at_ 2 rfl | exact M.at_ 3 rfl | exact M.at_ 4 rfl | exact M.at_ 5 rfl | exact M.at_ 6 rfl | exact M.at_ 7 rfl | exact M.at_ 8 rfl | exact M.at_ 9 rfl | exact M.at_ 10 rfl | exact M.at_ 11 rfl | exact M.at_ 12 rfl | exact M.at_ 13 rfl) rfl) ?_
 refine x_eqi true rfl rfl rfl rfl rfl (by rw [beq_iff_eq]; exact e3) ?_
 refine x_pickT rfl rfl rfl rfl rfl ?_
 refine x_move rfl rfl rfl rfl ?_
 refine x_fa rfl rfl rfl fo49_3 rfl ?_
 refine x_ld rfl rfl rfl Tryz.underlying27 rfl rfl (cell_of (by first | exact M.at_ 0 rfl | exact M.at_ 1 rfl | exact M.at_ 2 rfl | exact M.at_ 3 rfl | exact M.at_ 4 rfl | exact M.at_ 5 rfl | exact M.at_ 6 rfl | exact M.at_ 7 rfl | exact M.at_ 8 rfl | exact M.at_ 9 rfl | exact M.at_ 10 rfl | exact M.at_ 11 rfl | exact M.at_ 12 rfl | exact M.at_ 13 rfl) rfl) ?_
 refine x_cvbs _ rfl rfl rfl Tryz.underlying27 Tryz.underlying5 Tryz.underlying9 rfl (strOf_bytes hd4) ?_
 refine x_eqS true rfl rfl rfl rfl rfl (decide_eq_true e4) ?_
 refine x_pickT rfl rfl rfl rfl rfl ?_
 refine x_move rfl rfl rfl rfl ?_
 refine x_fa rfl rfl rfl fo49_0 rfl ?_
 refine x_ld rfl rfl rfl Tryz.underlying35 rfl rfl (cell_of (by first | exact M.at_ 0 rfl | exact M.at_ 1 rfl | exact M.at_ 2 rfl | exact M.at_ 3 rfl | exact M.at_ 4 rfl | exact M.at_ 5 rfl | exact M.at_ 6 rfl | exact M.at_ 7 rfl | exact M.at_ 8 rfl | exact M.at_ 9 rfl | exact M.at_ 10 rfl | exact M.at_ 11 rfl | exact M.at_ 12 rfl | exact M.at_ 13 rfl) rfl) ?_
 refine x_eqi true rfl rfl rfl rfl rfl (by rw [beq_iff_eq]; exact e5) ?_
 refine x_pickT rfl rfl rfl rfl rfl ?_
 refine x_move rfl rfl rfl rfl ?_
 refine x_fa rfl rfl rfl fo49_0 rfl ?_
 refine x_ld rfl rfl rfl Tryz.underlying35 rfl rfl (cell_of (by first | exact M.at_ 0 rfl | exact M.at_ 1 rfl | exact M.at_ 2 rfl | exact M.at_ 3 rfl | exact M.at_ 4 rfl | exact M.at_ 5 rfl | exact M.at_ 6 rfl | exact M.at_ 7 rfl | exact M.at_ 8 rfl | exact M.at_ 9 rfl | exact M.at_ 10 rfl | exact M.at_ 11 rfl | exact M.at_ 12 rfl | exact M.at_ 13 rfl) rfl) ?_
 refine x_eqi true rfl rfl rfl rfl rfl (by rw [beq_iff_eq]; exact e6) ?_
 refine x_pickT rfl rfl rfl rfl rfl ?_
 refine x_move rfl rfl rfl rfl ?_
 refine x_fa rfl rfl rfl fo49_0 rfl ?_
 refine x_ld rfl rfl rfl Tryz.underlying35 rfl rfl (cell_of (by first | exact M.at_ 0 rfl | exact M.at_ 1 rfl | exact M.at_ 2 rfl | exact M.at_ 3 rfl | exact M.at_ 4 rfl | exact M.at_ 5 rfl | exact M.at_ 6 rfl | exact M.at_ 7 rfl | exact M.at_ 8 rfl | exact M.at_ 9 rfl | exact M.at_ 10 rfl | exact M.at_ 11 rfl | exact M.at_ 12 rfl | exact M.at_ 13 rfl) rfl) ?_
 refine x_eqi true rfl rfl rfl rfl rfl (by rw [beq_iff_eq]; exact e7) ?_
 refine x_pickT rfl rfl rfl rfl rfl ?_
 refine x_move rfl rfl rfl rfl ?_
 refine x_move rfl rfl rfl rfl ?_
 refine x_len rfl rfl rfl rfl Tryz.underlying24 rfl ?_
 refine x_eqi true rfl rfl rfl rfl rfl rfl ?_
 refine x_pickT rfl rfl rfl rfl rfl ?_
 refine x_move rfl rfl rfl rfl ?_
 refine x_move rfl rfl rfl rfl ?_
 refine x_ia 0 rfl rfl rfl Tryz.underlying24 sz29 rfl rfl rfl (by decide) ?_
 refine x_fa rfl rfl rfl fo29_2 rfl ?_
 refine x_ld rfl rfl rfl Tryz.underlying27 rfl rfl (RowAt.cell hr9 (j := 2) rfl) ?_
 refine x_cvbs _ rfl rfl rfl Tryz.underlying27 Tryz.underlying5 Tryz.underlying9 rfl (strOf_bytes hb90) ?_
 refine x_eqS true rfl rfl rfl rfl rfl (by decide) ?_
 refine x_pickT rfl rfl rfl rfl rfl ?_
 refine x_move rfl rfl rfl rfl ?_
 refine x_move rfl rfl rfl rfl ?_
 refine x_nil rfl rfl rfl rfl rfl ?_
 refine x_fa rfl rfl rfl fo79_1 rfl ?_
 refine x_ld rfl rfl rfl Tryz.underlying4 rfl rfl (cell_of hs9 rfl) ?_
 refine x_not true rfl rfl rfl rfl rfl ?_
 refine x_pickT rfl rfl rfl rfl rfl ?_
 refine x_move rfl rfl rfl rfl ?_
 refine x_pickT rfl rfl rfl rfl rfl ?_
 refine x_move rfl rfl rfl rfl ?_
 refine x_pickT rfl rfl rfl rfl rfl ?_
 refine x_assign rfl rfl rfl rfl ?_
 refine Ex.done (hK _ _ ?_)
 refine At.then_n ?_
 refine W.ret ?_
 refine At.ret1 (.tmp 0) rfl ⟨rfl, trivial⟩ ?_
 exact ⟨rfl, M.frm⟩
end Go.Proofs.YtigfbpbnohkokaaGreat

namespace Go.Proofs.YtigfbpbnohkokaaGreat
open Go Go.Fw Go.RowKit
set_option linter.unusedVariables false
set_option linter.unusedSimpArgs false

/-- What stays of files over a base: where they are, their base. -/
structure OvI where
 bf : Nat
 bv : Value
 Lb : List (Nat × Obj)
 base : BaseF
/-- Blocks of one's own beside files over a base that are l, with these handles. -/
def OvW (w00 : World) (X : List (Nat × Obj)) (I : OvI) (l : List Raw) (hf : HF) (w : World) : Prop :=
 ∃ S L, FR I.base S l hf ∧ BaseC w00 I.Lb I.bv I.base ∧ Sep w00 (X ++ (fsB I.bf I.bv (usedL l) S ++ (I.Lb ++ L))) w
section
variable {w00 w0 w w1 : World} {X Y : List (Nat × Obj)} {I : OvI} {l : List Raw} {hf : HF}
theorem OvW.frm (h : OvW w00 X I l hf w) : New w00 w := let ⟨_, _, _, _, M⟩ := h; M.frm
theorem OvW.at_ (h : OvW w00 X I l hf w) (k : Nat) {b : Nat} {o : Obj} (hk : X[k]? = some (b, o)) : w.heap[b]? = some o :=
 let ⟨_, _, _, _, M⟩ := h; M.get (List.mem_append_left _ (List.mem_of_getElem? hk))
theorem OvW.get (h : OvW w00 X I l hf w) {x : Nat × Obj} (hk : x ∈ X) : w.heap[x.1]? = some x.2 :=
 let ⟨_, _, _, _, M⟩ := h; M.get (List.mem_append_left _ hk)
theorem OvW.base (h : OvW w00 X I l hf w) {x : Nat × Obj} (hk : x ∈ I.Lb) : w.heap[x.1]? = some x.2 :=
 let ⟨_, _, _, _, M⟩ := h; M.get (List.mem_append_right _ (List.mem_append_right _ (List.mem_append_left _ hk)))
theorem OvW.acons (h : OvW w00 X I l hf w) {o : Obj} {b : Nat} (hb : b = w.heap.size) (hw : w1 = w.alloc o) : OvW w00 ((b, o) :: X) I l hf w1 :=
 let ⟨S, L, h1, h2, M⟩ := h; ⟨S, L, h1, h2, M.acons hb hw⟩
theorem OvW.put (h : OvW w00 X I l hf w) (k : Nat) {b : Nat} {o0 o : Obj} (hk : X[k]? = some (b, o0)) (hw : w1 = w.putObj b o) : OvW w00 (X.set k (b, o)) I l hf w1 := by
 obtain ⟨S, L, h1, h2, M⟩ := h
 have hl : k < X.length := (List.getElem?_eq_some_iff.1 hk).1
 have := M.put k (by rw [List.getElem?_append_left hl]; exact hk) hw (o := o)
 rw [List.set_append_left _ _ hl] at this
 exact ⟨S, L, h1, h2, this⟩
theorem OvW.new (h : OvW w00 X I l hf w) (hn : New w w1) : OvW w00 X I l hf w1 := let ⟨S, L, h1, h2, M⟩ := h; ⟨S, L, h1, h2, M.new hn⟩
theorem OvW.drew (h : OvW w00 X I l hf w) (hw : w1 = w.drew) : OvW w00 X I l hf w1 := let ⟨S, L, h1, h2, M⟩ := h; ⟨S, L, h1, h2, M.drew hw⟩
theorem OvW.grow (h : OvW w00 X I l hf w) (hc : Sep w Y w1) : OvW w00 (Y ++ X) I l hf w1 := by
 obtain ⟨S, L, h1, h2, M⟩ := h
 exact ⟨S, L, h1, h2, by simpa only [List.append_assoc] using M.grow' hc⟩
theorem OvW.sub (h : OvW w00 X I l hf w) (hs : Y.Sublist X) : OvW w00 Y I l hf w := let ⟨S, L, h1, h2, M⟩ := h; ⟨S, L, h1, h2, M.sub (List.Sublist.append hs (List.Sublist.refl _))⟩
theorem OvW.tail {x : Nat × Obj} (h : OvW w00 (x :: X) I l hf w) : OvW w00 X I l hf w := h.sub (List.sublist_cons_self _ _)
theorem OvW.dropL (h : OvW w00 (Y ++ X) I l hf w) : OvW w00 X I l hf w := h.sub (List.sublist_append_right _ _)
theorem OvW.perm (h : OvW w00 X I l hf w) (hs : X.Perm Y) : OvW w00 Y I l hf w := let ⟨S, L, h1, h2, M⟩ := h; ⟨S, L, h1, h2, M.perm (hs.append_right _)⟩
theorem OvW.sep (h : OvW w00 X I l hf w) : Sep w00 X w := let ⟨_, _, _, _, M⟩ := h; M.dropR
theorem OvW.names (h : OvW w00 X I l hf w) : (l.map (·.1)).Nodup := let ⟨_, _, h1, _, _⟩ := h; h1.names
theorem OvW.le (h : OvW w00 X I l hf w) : l.length ≤ 128 := by
 obtain ⟨_, _, h1, _, _⟩ := h
 have := h1.tr.le
 rwa [bare_len] at this

theorem do_o {who : Int} {o : OpS} {dv : Value} (M : OvW w00 X I l hf w0) (hdv : ∀ w Y, Sep w00 Y w → (∀ y ∈ X, y ∈ Y) → BytesAt w dv o.d) :
  Ret Tryz.prog 16 #[ptr I.bf, .int .i64 who, .agg (opC o dv).toArray] w0 fun r w' => ∃ p1 c1 p2 c2 n2 L1 L2, r = rsV (doS l hf who o).1 (.slice p1 (doS l hf who o).1.d.length c1) (.slice p2 n2 c2) ∧ BytesO L1 (.slice p1 (doS l hf who o).1.d.length c1) (doS l hf who o).1.d ∧ StrsO L2 (.slice p2 n2 c2) (doS l hf who o).1.l ∧ OvW w00 (L1 ++ (L2 ++ X)) I (doS l hf who o).2.1 (doS l hf who o).2.2 w' := by
 obtain ⟨S, L, h1, h2, M⟩ := M
 refine (do_x (L := L) M h1 h2 (fun w Y hY hs _ => hdv w Y hY hs)).mono ?_
 rintro r w' ⟨S', p1, c1, p2, c2, n2, L1, L2, e, hb, hs, hR, M⟩
 exact ⟨p1, c1, p2, c2, n2, L1, L2, e, hb, hs, S', L, hR, h2, M.perm (perm_c fun p => by simp only [List.countP_append]; omega)⟩
theorem hdls_o {who : Int} (M : OvW w00 X I l hf w0) : Ret Tryz.prog 22 #[ptr I.bf, .int .i64 who] w0 fun r w' => ∃ p c Lr, r = .slice p (openL hf who).length c ∧ IntsO Lr (.slice p (openL hf who).length c) (openL hf who) ∧ OvW w00 (Lr ++ X) I l hf w' := by
 have M0 := M
 obtain ⟨S, L, h1, h2, M⟩ := M
 refine (hdls_c (who := who) (M.get (List.mem_append_right _ List.mem_cons_self)) h1.hl).mono ?_
 rintro r w' ⟨Lr, hi, M1⟩
 rw [← h1.hh] at hi
 obtain ⟨p, c, rfl⟩ := hi.shape
 exact ⟨p, c, Lr, rfl, hi, M0.grow M1⟩
def shB (bs : Nat) (v : Value) (b : Bool) : Nat × Obj := (bs, .cells [v, .bool b].toArray 79 (0, 0))
theorem made_o {v : Value} {Lf : List (Nat × Obj)} (M : Sep w00 (Lf ++ X) w0) (h : FilesK w00 Lf v l) (hl : l.length ≤ 1000) :
  Ret Tryz.prog 15 #[v] w0 fun r w' => ∃ po bs, r = .tuple #[.pointer po, ptr bs, .int .i64 (madeE l)] ∧ (madeE l ≠ 0 → po = none ∧ Sep w00 X w') ∧
   (madeE l = 0 → ∃ I : OvI, po = some ⟨I.bf, 0, none⟩ ∧ I.base = baseL l ∧ shB bs v false ∈ I.Lb ∧ OvW w00 X I (newS l).1 (fun _ _ => none) w') := by
 refine (made19_c M h hl).mono ?_
 rintro r w' ⟨po, bs, e, h1, h2⟩
 refine ⟨po, bs, e, fun h => ⟨(h1 h).1, (h1 h).2.tail.dropL⟩, fun h => ?_⟩
 obtain ⟨bf, bv, S, e2, hR, hB, M⟩ := h2 h
 exact ⟨⟨bf, bv, _, baseL l⟩, e2, rfl, List.mem_cons_self, S, [], hR, hB, (show Sep w00 (X ++ (fsB bf bv (usedL (newS l).1) S ++ ((shB bs v false :: Lf) ++ []))) w' from M.perm (perm_c fun p => by simp only [shB, List.countP_append, List.countP_cons, List.countP_nil]; omega))⟩
end
/-- Calls, one behind the other. -/
def runS (l : List Raw) (hf : HF) : List Ask → List Raw × HF
 | [] => (l, hf)
 | a :: r => runS (doS l hf a.who a.o).2.1 (doS l hf a.who a.o).2.2 r
section
variable {l : List Raw} {hf : HF} {who : Int} {o : OpS}
end
end Go.Proofs.YtigfbpbnohkokaaGreat

namespace Go.Proofs.YtigfbpbnohkokaaGreat
open Go Go.Fw Go.RowKit Go.Proofs
set_option linter.unusedVariables false
set_option linter.unusedSimpArgs false

theorem RowAt.tl {w : World} {b off : Nat} {x : Value} {l : List Value} (h : RowAt w b off (x :: l)) : RowAt w b (off + 1) l := by
 obtain ⟨cs, T, fr, hb, he⟩ := h
 refine ⟨cs, T, fr, hb, ?_⟩
 have := congrArg List.tail he
 rw [← List.drop_drop]
 cases hd : cs.toList.drop off with
 | nil => rw [hd] at he; simp at he
 | cons y r => rw [hd] at he; simp only [List.length_cons, List.take_succ_cons, List.cons.injEq] at he; simpa using he.2


end Go.Proofs.YtigfbpbnohkokaaGreat

namespace Go.Proofs.YtigfbpbnohkokaaGreat
open Go Go.Fw Go.RowKit
set_option linter.unusedVariables false
set_option linter.unusedSimpArgs false

section
variable {l : List Raw} {hf hf' : HF} {who : Int} {o : OpS}
theorem openN_congr (h : ∀ n, (hf who n).isSome = (hf' who n).isSome) (n : Nat) : openN hf who n = openN hf' who n := by
 unfold openN
 congr 1
 apply List.filter_congr
 intro i _
 exact h _
theorem openL_congr (h : ∀ n, (hf who n).isSome = (hf' who n).isSome) : openL hf who = openL hf' who := openN_congr h 16
theorem setH_other {a n : Int} {v : Option (List UInt8 × Bool)} (h : a ≠ who) (k : Int) : (setH hf a n v) who k = hf who k := by
 unfold setH
 rw [if_neg (fun e => h e.1.symm)]
theorem movH_some {x y : List UInt8} (a b : Int) : (movH hf x y a b).isSome = (hf a b).isSome := by unfold movH; rw [Option.isSome_map]
/-- A client's handles are changed by its own opening and closing alone. -/
theorem doS_hands (h : o.k ≠ 1 ∧ o.k ≠ 5) (n : Int) : ((doS l hf who o).2.2 who n).isSome = (hf who n).isSome ∧ ∀ a, ((doS l hf who o).2.2 a n).isSome = (hf a n).isSome := by
 have key : ∀ a, ((doS l hf who o).2.2 a n).isSome = (hf a n).isSome := by
  intro a
  unfold doS
  split
  ·rfl
  ·rw [if_neg h.1]
   split
   ·rename_i h5
    unfold handleS
    split
    ·rfl
    ·split
     ·rfl
     ·split
      ·rfl
      ·split
       ·rfl
       ·rename_i h1 _ _ _ _ _
        exfalso
        omega
   ·split
    ·unfold namedS
     split
     ·rfl
     ·split
      ·split
       ·split <;> rfl
       ·rfl
      ·split
       ·split
        ·split
         ·exact movH_some _ _
         ·rfl
        ·rfl
       ·rfl
    ·rfl
 exact ⟨key who, key⟩
theorem doS_other {b : Int} (h : who ≠ b) (n : Int) : ((doS l hf who o).2.2 b n).isSome = (hf b n).isSome := by
 by_cases h1 : o.k = 1
 ·unfold doS
  split
  ·rfl
  ·try rw [if_pos h1]
   unfold openS
   split
   ·rfl
   ·split
    ·split
     ·split
      ·simp only; rw [setH_other h]
      ·rfl
     ·split
      ·split
       ·rfl
       ·simp only; rw [setH_other h]
      ·rfl
    ·rfl
 ·by_cases h5 : o.k = 5
  ·unfold doS
   split
   ·rfl
   ·try rw [if_neg h1]
    rw [if_pos (by omega)]
    unfold handleS
    split
    ·rfl
    ·rw [if_neg (by omega), if_neg (by omega), if_neg (by omega)]
     simp only; rw [setH_other h]
  ·exact (doS_hands ⟨h1, h5⟩ n).2 b
/-- Who opens has one handle more: the lowest that was not open. -/
theorem doS_opens (hk : o.k = 1 ∨ o.k = 5) (he : (doS l hf who o).1.e = 0) (hh : 0 < (doS l hf who o).1.h) : ∃ i, lowH hf who = some i ∧ (doS l hf who o).1.h = (i : Int) + 1 ∧ ∃ v, (doS l hf who o).2.2 = setH hf who ((i : Int) + 1) (some v) := by
 unfold doS at he hh ⊢
 split
 ·rename_i h0; rw [if_pos h0] at he; cases he
 ·rename_i h0
  rw [if_neg h0] at he hh
  rcases hk with hk | hk
  ·rw [if_pos hk] at he hh ⊢
   unfold openS at he hh ⊢
   split
   ·rename_i hl; rw [hl] at he; cases he
   ·rename_i i hl
    rw [hl] at he hh
    simp only at he hh ⊢
    refine ⟨i, hl, ?_⟩
    split
    ·rename_i h1
     rw [if_pos h1] at he hh
     split
     ·rename_i h2
      rw [if_pos h2] at he hh
      split
      ·exact ⟨rfl, _, rfl⟩
      ·rename_i h3
       rw [if_neg h3] at he
       exact absurd he h3
     ·rename_i h2
      rw [if_neg h2] at he hh
      split
      ·rename_i h3
       rw [if_pos h3] at he hh
       split
       ·rename_i h4; rw [if_pos h4] at he; cases he
       ·exact ⟨rfl, _, rfl⟩
      ·rename_i h3
       rw [if_neg h3] at he
       exact absurd he h3
    ·rename_i h1
     rw [if_neg h1] at he
     exact absurd he h1
  ·rw [if_neg (by omega), if_pos (by omega)] at he hh
   unfold handleS at he hh
   exfalso
   split at he
   ·cases he
   ·rename_i v hv
    rw [hv] at hh
    simp only at hh
    rw [if_neg (by omega), if_neg (by omega), if_neg (by omega)] at hh
    exact absurd hh (Int.lt_irrefl 0)
/-- The lowest number that is none of these. -/
def lowN (l : List Nat) : Nat := l.foldl (fun a x => if x = a then a + 1 else a) 1
theorem lowN_snoc (l : List Nat) (x : Nat) : lowN (l ++ [x]) = if x = lowN l then lowN l + 1 else lowN l := by unfold lowN; rw [List.foldl_append]; rfl
theorem low_spec {i : Nat} (h : lowH hf who = some i) : i < 16 ∧ hf who ((i : Int) + 1) = none ∧ ∀ k < i, (hf who ((k : Int) + 1)).isSome = true := by
 unfold lowH at h
 rw [List.find?_eq_some_iff_getElem] at h
 obtain ⟨h1, k, hk, e, h2⟩ := h
 simp only [List.getElem_range] at e
 subst e
 refine ⟨by simpa using hk, by simpa using h1, fun j hj => ?_⟩
 have := h2 j hj
 simp only [List.getElem_range, Bool.not_eq_true', Option.isNone_eq_false_iff] at this
 simpa using this
theorem low_openN {i : Nat} (h : lowH hf who = some i) : ∀ n, lowN (openN hf who n) = min n i + 1
 | 0 => by simp [openN, lowN]
 | n + 1 => by
  obtain ⟨h1, h2, h3⟩ := low_spec h
  have ih := low_openN h n
  cases hs : (hf who ((n : Int) + 1)).isSome with
  | true =>
   rw [openN_yes hs, lowN_snoc, ih]
   have hne : n ≠ i := by rintro rfl; rw [h2] at hs; cases hs
   split <;> omega
  | false =>
   rw [openN_no hs, ih]
   have hge : i ≤ n := by
    rcases Nat.lt_or_ge n i with hlt | hge
    ·have := h3 n hlt; rw [hs] at this; cases this
    ·exact hge
   omega
theorem openN_set {i : Nat} {v : List UInt8 × Bool} (h2 : hf who ((i : Int) + 1) = none) : ∀ n, (openN (setH hf who ((i : Int) + 1) (some v)) who n).length = (openN hf who n).length + if i < n then 1 else 0
 | 0 => by simp [openN]
 | n + 1 => by
  have ih := openN_set (v := v) h2 n
  by_cases hn : n = i
  ·subst hn
   have hs : (setH hf who ((n : Int) + 1) (some v) who ((n : Int) + 1)).isSome = true := by unfold setH; rw [if_pos ⟨rfl, rfl⟩]; rfl
   rw [openN_yes hs, openN_no (by rw [h2]; rfl), List.length_append, ih, if_neg (by omega), if_pos (by omega)]
   rfl
  ·have hs : setH hf who ((i : Int) + 1) (some v) who ((n : Int) + 1) = hf who ((n : Int) + 1) := by unfold setH; rw [if_neg (fun e => hn (by omega))]
   cases hq : (hf who ((n : Int) + 1)).isSome with
   | true =>
    rw [openN_yes (by rw [hs]; exact hq), openN_yes hq, List.length_append, List.length_append, ih]
    simp only [List.length_cons, List.length_nil]
    split <;> split <;> omega
   | false =>
    rw [openN_no (by rw [hs]; exact hq), openN_no hq, ih]
    split <;> split <;> omega
theorem apart_low (hk : o.k = 1 ∨ o.k = 5) (he : (doS l hf who o).1.e = 0) (hh : 0 < (doS l hf who o).1.h) : (doS l hf who o).1.h = (lowN (openL hf who) : Int) ∧ (openL (doS l hf who o).2.2 who).length = (openL hf who).length + 1 := by
 obtain ⟨i, h1, h2, v, h3⟩ := doS_opens hk he hh
 obtain ⟨g1, g2, g3⟩ := low_spec h1
 have e1 : lowN (openL hf who) = min 16 i + 1 := low_openN h1 16
 have e2 := openN_set (v := v) g2 16
 refine ⟨by rw [h2, e1]; omega, ?_⟩
 rw [h3]
 show (openN _ who 16).length = (openN hf who 16).length + 1
 rw [e2, if_pos g1]
theorem apart_same {a : Ask} {b : Int} (h : a.who ≠ b ∨ (a.o.k ≠ 1 ∧ a.o.k ≠ 5)) : openL (doS l hf a.who a.o).2.2 b = openL hf b := by
 refine openL_congr fun n => ?_
 rcases h with h | h
 ·exact doS_other h n
 ·exact (doS_hands h n).2 b
end
theorem lowN_le (l : List Nat) : lowN l ≤ l.length + 1 := by
 have : ∀ (l : List Nat) (a : Nat), l.foldl (fun a x => if x = a then a + 1 else a) a ≤ a + l.length := by
  intro l
  induction l with
  | nil => intro a; simp
  | cons x l ih =>
   intro a
   rw [List.foldl_cons, List.length_cons]
   have := ih (if x = a then a + 1 else a)
   split at this <;> split <;> omega
 have := this l 1
 unfold lowN
 omega
theorem lowN_take {l : List Nat} {j x : Nat} (hx : l[j]? = some x) : lowN (l.take (j + 1)) = if x = lowN (l.take j) then lowN (l.take j) + 1 else lowN (l.take j) := by rw [take_snoc hx, lowN_snoc]
def otherB (a : Ask) (who : Int) : Bool := decide (a.who ≠ who) || (decide (a.o.k ≠ 1) && decide (a.o.k ≠ 5))
theorem other_yes {a : Ask} {who : Int} (h : otherB a who = true) : a.who ≠ who ∨ (a.o.k ≠ 1 ∧ a.o.k ≠ 5) := by
 unfold otherB at h
 simpa only [Bool.or_eq_true, Bool.and_eq_true, decide_eq_true_eq] using h
theorem other_no {a : Ask} {who : Int} (h : ¬ otherB a who = true) : who = a.who ∧ (a.o.k = 1 ∨ a.o.k = 5) := by
 unfold otherB at h
 simp only [Bool.or_eq_true, Bool.and_eq_true, decide_eq_true_eq, not_or, not_and] at h
 exact ⟨by omega, by omega⟩
theorem intsO_at {w : World} {L : List (Nat × Obj)} {v : Value} {A : List Nat} (h : IntsO L v A) (hg : ∀ x ∈ L, w.heap[x.1]? = some x.2) : Sl w v 1 A.length (intCs A) := (OwL.sl h (by decide)).get hg
theorem intCs_get {l : List Nat} {j x : Nat} (h : l[j]? = some x) : (intCs l)[j]? = some (.int .i64 (x : Int)) := by simp [intCs, h]
end Go.Proofs.YtigfbpbnohkokaaGreat

namespace Go.Proofs.YtigfbpbnohkokaaGreat
open Go Go.Fw Go.RowKit Go.Proofs
set_option linter.unusedVariables false
set_option linter.unusedSimpArgs false

set_option maxRecDepth 100000 in
theorem overlayApart_c {w0 : World} {v u : Value} {l : List Raw} {al : List Ask} {who : Int} (h : FilesAt w0 v l) (hl : l.length ≤ 9223372036854775807) (g : AsksAt w0 u al) (gl : al.length ≤ 9223372036854775807) : Ret Tryz.prog 8 #[v, u, .int .i64 who] w0 fun r w' => r = .bool true ∧ New w0 w' := by
 have M : Sep w0 [] w0 := St.nil w0
 obtain ⟨pv, cv, rfl⟩ := h.shape
 obtain ⟨pu, cu, rfl⟩ := g.shape
 refine Ret.of_W Tryz.func8 rfl Tryz.ntmps8 rfl ?_
 refine W.seq ?_
 refine W.sub [(0, _), (1, _), (2, _)] ⟨rfl, rfl, rfl, trivial⟩ ?_
 refine W.reg [(0, false)] (by kernel_rfl) ?_
 intro K hK
 refine x_assign rfl rfl rfl rfl ?_
 refine Ex.done (hK _ _ ?_)
 refine At.then_n ?_
 refine W.seq ?_
 refine W.seq ?_
 refine W.sub [(0, _), (1, _), (2, _)] ⟨rfl, rfl, rfl, trivial⟩ ?_
 refine W.reg [(0, false), (1, true), (2, false), (3, false), (4, false), (5, true), (6, false), (7, false), (8, false), (9, false), (10, false), (11, false), (12, false), (13, false), (14, false), (15, false)] (by kernel_rfl) ?_
 intro K hK
 refine x_move rfl rfl rfl rfl ?_
 refine x_call rfl rfl rfl rfl rfl en19 (light_c (h.new M.frm) hl) ?_
 rintro r_ wcall1 ⟨rfl, hncall1⟩
 have M := M.new hncall1
 refine ⟨trivial, ?_⟩
 refine x_not _ rfl rfl rfl rfl rfl ?_
 refine x_move rfl rfl rfl rfl ?_
 refine Ex.split 20 rfl (fun hsp1 => ?_) (fun hsp1 => ?_)
 ·
  try simp only [sA, sB, sC, sD, sE, sF, ne_eq, Bool.not_eq_eq_eq_not, Bool.not_true, Bool.not_false, sK, sL, Bool.not_not, gt_iff_lt, ge_iff_le] at hsp1
  refine Ex.skip_ rfl rfl rfl ?_
  refine Ex.skipm_ rfl rfl rfl ?_
  refine Ex.skip_ rfl rfl rfl ?_
  refine x_pickT rfl rfl rfl rfl rfl ?_
  refine x_move rfl rfl rfl rfl ?_
  refine Ex.skip_ rfl rfl rfl ?_
  refine Ex.skip_ rfl rfl rfl ?_
  refine x_pickT rfl rfl rfl rfl rfl ?_
  refine x_move rfl rfl rfl rfl ?_
  refine Ex.skip_ rfl rfl rfl ?_
  refine Ex.skip_ rfl rfl rfl ?_
  refine x_pickT rfl rfl rfl rfl rfl ?_
  refine Ex.done (hK _ _ ?_)
  refine At.then_n ?_
  refine W.condT rfl ?_
  refine W.seq ?_
  refine W.sub [] trivial ?_
  refine W.reg [(0, true), (1, false)] (by kernel_rfl) ?_
  intro K hK
  refine x_call rfl rfl rfl rfl rfl en11 (lives19_c) ?_
  rintro r_ wcall2 ⟨rfl, hncall2⟩
  have M := M.new hncall2
  refine ⟨trivial, ?_⟩
  refine x_assign rfl rfl rfl rfl ?_
  refine Ex.done (hK _ _ ?_)
  refine At.then_n ?_
  refine W.ret ?_
  refine At.then_r ?_
  refine At.ret1 (.tmp 6) rfl ⟨rfl, trivial⟩ ?_
  exact ⟨rfl, M.frm⟩
 ·
  try simp only [sA, sB, sC, sD, sE, sF, ne_eq, Bool.not_eq_eq_eq_not, Bool.not_true, Bool.not_false, sK, sL, Bool.not_not, gt_iff_lt, ge_iff_le] at hsp1
  have hli : l.length ≤ 130 := by unfold lightL at hsp1; simp at hsp1; omega
  refine x_move rfl rfl rfl rfl ?_
  refine x_call rfl rfl rfl rfl rfl en14 (few19_c (g.new M.frm) gl) ?_
  rintro r_ wcall3 ⟨rfl, hncall3⟩
  have M := M.new hncall3
  refine ⟨trivial, ?_⟩
  refine x_not _ rfl rfl rfl rfl rfl ?_
  refine x_pickF rfl rfl rfl rfl rfl ?_
  refine x_move rfl rfl rfl rfl ?_
  refine Ex.split 25 rfl (fun hsp2 => ?_) (fun hsp2 => ?_)
  ·
   try simp only [sA, sB, sC, sD, sE, sF, ne_eq, Bool.not_eq_eq_eq_not, Bool.not_true, Bool.not_false, sK, sL, Bool.not_not, gt_iff_lt, ge_iff_le] at hsp2
   refine Ex.skip_ rfl rfl rfl ?_
   refine Ex.skip_ rfl rfl rfl ?_
   refine x_pickT rfl rfl rfl rfl rfl ?_
   refine x_move rfl rfl rfl rfl ?_
   refine Ex.skip_ rfl rfl rfl ?_
   refine Ex.skip_ rfl rfl rfl ?_
   refine x_pickT rfl rfl rfl rfl rfl ?_
   refine Ex.done (hK _ _ ?_)
   refine At.then_n ?_
   refine W.condT rfl ?_
   refine W.seq ?_
   refine W.sub [] trivial ?_
   refine W.reg [(0, true), (1, false)] (by kernel_rfl) ?_
   intro K hK
   refine x_call rfl rfl rfl rfl rfl en11 (lives19_c) ?_
   rintro r_ wcall4 ⟨rfl, hncall4⟩
   have M := M.new hncall4
   refine ⟨trivial, ?_⟩
   refine x_assign rfl rfl rfl rfl ?_
   refine Ex.done (hK _ _ ?_)
   refine At.then_n ?_
   refine W.ret ?_
   refine At.then_r ?_
   refine At.ret1 (.tmp 6) rfl ⟨rfl, trivial⟩ ?_
   exact ⟨rfl, M.frm⟩
  ·
   try simp only [sA, sB, sC, sD, sE, sF, ne_eq, Bool.not_eq_eq_eq_not, Bool.not_true, Bool.not_false, sK, sL, Bool.not_not, gt_iff_lt, ge_iff_le] at hsp2
   refine x_move rfl rfl rfl rfl ?_
   refine x_lss _ rfl rfl rfl rfl rfl rfl ?_
   refine x_pickF rfl rfl rfl rfl rfl ?_
   refine x_move rfl rfl rfl rfl ?_
   refine Ex.split 29 rfl (fun hsp3 => ?_) (fun hsp3 => ?_)
   ·
    try simp only [sA, sB, sC, sD, sE, sF, ne_eq, Bool.not_eq_eq_eq_not, Bool.not_true, Bool.not_false, sK, sL, Bool.not_not, gt_iff_lt, ge_iff_le] at hsp3
    refine Ex.skip_ rfl rfl rfl ?_
    refine Ex.skip_ rfl rfl rfl ?_
    refine x_pickT rfl rfl rfl rfl rfl ?_
    refine Ex.done (hK _ _ ?_)
    refine At.then_n ?_
    refine W.condT rfl ?_
    refine W.seq ?_
    refine W.sub [] trivial ?_
    refine W.reg [(0, true), (1, false)] (by kernel_rfl) ?_
    intro K hK
    refine x_call rfl rfl rfl rfl rfl en11 (lives19_c) ?_
    rintro r_ wcall5 ⟨rfl, hncall5⟩
    have M := M.new hncall5
    refine ⟨trivial, ?_⟩
    refine x_assign rfl rfl rfl rfl ?_
    refine Ex.done (hK _ _ ?_)
    refine At.then_n ?_
    refine W.ret ?_
    refine At.then_r ?_
    refine At.ret1 (.tmp 6) rfl ⟨rfl, trivial⟩ ?_
    exact ⟨rfl, M.frm⟩
   ·
    try simp only [sA, sB, sC, sD, sE, sF, ne_eq, Bool.not_eq_eq_eq_not, Bool.not_true, Bool.not_false, sK, sL, Bool.not_not, gt_iff_lt, ge_iff_le] at hsp3
    refine x_move rfl rfl rfl rfl ?_
    refine x_gtr _ rfl rfl rfl rfl rfl rfl ?_
    refine x_pickF rfl rfl rfl rfl rfl ?_
    refine Ex.done (hK _ _ ?_)
    refine At.then_n ?_
    refine W.cond rfl (fun hco4 => ?_) (fun hco4 => ?_)
    ·try simp only [sA, sB, sC, sD, sE, sF, ne_eq, Bool.not_eq_eq_eq_not, Bool.not_true, Bool.not_false, sK, sL, Bool.not_not, gt_iff_lt, ge_iff_le] at hco4
     refine W.seq ?_
     refine W.sub [] trivial ?_
     refine W.reg [(0, true), (1, false)] (by kernel_rfl) ?_
     intro K hK
     refine x_call rfl rfl rfl rfl rfl en11 (lives19_c) ?_
     rintro r_ wcall6 ⟨rfl, hncall6⟩
     have M := M.new hncall6
     refine ⟨trivial, ?_⟩
     refine x_assign rfl rfl rfl rfl ?_
     refine Ex.done (hK _ _ ?_)
     refine At.then_n ?_
     refine W.ret ?_
     refine At.then_r ?_
     refine At.ret1 (.tmp 6) rfl ⟨rfl, trivial⟩ ?_
     exact ⟨rfl, M.frm⟩
    ·try simp only [sA, sB, sC, sD, sE, sF, ne_eq, Bool.not_eq_eq_eq_not, Bool.not_true, Bool.not_false, sK, sL, Bool.not_not, gt_iff_lt, ge_iff_le] at hco4
     refine W.skip ?_
     refine At.then_n ?_
     refine W.seq ?_
     refine W.sub [(0, _), (1, _), (2, _)] ⟨rfl, rfl, rfl, trivial⟩ ?_
     refine W.reg [(0, false), (1, true), (2, false), (3, false), (4, false), (5, false), (6, false), (7, false), (8, false)] (by kernel_rfl) ?_
     intro K hK
     refine x_move rfl rfl rfl rfl ?_
     refine x_call rfl rfl rfl rfl rfl en15 (made_o (Lf := []) M (FilesK.old h) (by omega)) ?_
     rintro r_ w7 ⟨po, bs, rfl, hbad, hgood⟩
     refine ⟨trivial, ?_⟩
     refine x_move rfl rfl rfl rfl ?_
     refine x_ext rfl rfl rfl rfl rfl ?_
     refine x_ext rfl rfl rfl rfl rfl ?_
     refine x_ext rfl rfl rfl rfl rfl ?_
     refine x_assign rfl rfl rfl rfl ?_
     refine x_assign rfl rfl rfl rfl ?_
     refine x_assign rfl rfl rfl rfl ?_
     refine Ex.done (hK _ _ ?_)
     refine At.then_n ?_
     refine W.seq ?_
     refine W.seq ?_
     refine W.sub [(1, _), (2, _), (7, _), (9, _)] ⟨rfl, rfl, rfl, rfl, trivial⟩ ?_
     refine W.reg [(0, false), (1, false), (2, false), (3, false), (4, false), (5, false)] (by kernel_rfl) ?_
     intro K hK
     refine x_move rfl rfl rfl rfl ?_
     refine x_nei _ rfl rfl rfl rfl rfl rfl ?_
     refine x_move rfl rfl rfl rfl ?_
     refine Ex.split 42 rfl (fun hsp4 => ?_) (fun hsp4 => ?_)
     ·
      try simp only [sA, sB, sC, sD, sE, sF, ne_eq, Bool.not_eq_eq_eq_not, Bool.not_true, Bool.not_false, sK, sL, Bool.not_not, gt_iff_lt, ge_iff_le] at hsp4
      obtain ⟨rfl, M⟩ := hbad hsp4
      refine Ex.skip_ rfl rfl rfl ?_
      refine Ex.skip_ rfl rfl rfl ?_
      refine x_pickT rfl rfl rfl rfl rfl ?_
      refine Ex.done (hK _ _ ?_)
      refine At.then_n ?_
      refine W.condT rfl ?_
      refine W.seq ?_
      refine W.sub [(7, _), (9, _)] ⟨rfl, rfl, trivial⟩ ?_
      refine W.reg [(0, false), (1, false), (2, false), (3, false), (4, false), (5, false), (6, true), (7, false), (8, false)] (by kernel_rfl) ?_
      intro K hK
      refine x_move rfl rfl rfl rfl ?_
      refine x_eqpn true rfl rfl rfl Tryz.underlying34 rfl rfl rfl ?_
      refine x_move rfl rfl rfl rfl ?_
      refine x_nei true rfl rfl rfl rfl rfl (by simp [hsp4]) ?_
      refine x_eqb true rfl rfl rfl Tryz.underlying4 rfl rfl rfl ?_
      refine x_move rfl rfl rfl rfl ?_
      refine x_call rfl rfl rfl rfl rfl en11 (lives19_c) ?_
      rintro r_ wcall8 ⟨rfl, hncall8⟩
      have M := M.new hncall8
      refine ⟨trivial, ?_⟩
      refine x_pickT rfl rfl rfl rfl rfl ?_
      refine x_assign rfl rfl rfl rfl ?_
      refine Ex.done (hK _ _ ?_)
      refine At.then_n ?_
      refine W.ret ?_
      refine At.then_r ?_
      refine At.ret1 (.tmp 6) rfl ⟨rfl, trivial⟩ ?_
      exact ⟨rfl, M.frm⟩
     ·
      try simp only [sA, sB, sC, sD, sE, sF, ne_eq, Bool.not_eq_eq_eq_not, Bool.not_true, Bool.not_false, sK, sL, Bool.not_not, gt_iff_lt, ge_iff_le] at hsp4
      obtain ⟨I, rfl, hIb, hIs, M⟩ := hgood hsp4
      refine x_move rfl rfl rfl rfl ?_
      refine x_eqpn false rfl rfl rfl Tryz.underlying34 rfl rfl rfl ?_
      refine x_pickF rfl rfl rfl rfl rfl ?_
      refine Ex.done (hK _ _ ?_)
      refine At.then_n ?_
      refine W.condF rfl ?_
      refine W.skip ?_
      refine At.then_n ?_
      refine W.seq ?_
      refine W.seq ?_
      refine W.sub [(1, _), (2, _), (7, _)] ⟨rfl, rfl, rfl, trivial⟩ ?_
      refine W.reg [(0, false)] (by kernel_rfl) ?_
      intro K hK
      refine x_assign rfl rfl rfl rfl ?_
      refine Ex.done (hK _ _ ?_)
      refine At.then_n ?_
      refine W.block ?_
      obtain ⟨k, hf, M⟩ : ∃ k hf, OvW w0 [] I k hf _ := ⟨_, _, M⟩
      clear hgood hbad
      refine W.loop (σ := Nat × List Raw × HF) (fun q => [(1, _), (2, _), (7, _), (10, .int .i64 ((q.1 : Nat) : Int))]) (fun q w => q.1 ≤ al.length ∧ OvW w0 [] I q.2.1 q.2.2 w) (fun q => al.length - q.1) (0, k, hf) ⟨rfl, rfl, rfl, rfl, trivial⟩ ⟨Nat.zero_le _, M⟩ ?_
      rintro ⟨j, k, hf⟩ w ⟨hj, M⟩
      simp only at hj M
      refine W.seq ?_
      refine W.seq ?_
      refine W.sub [(1, _), (2, _), (7, _), (10, _)] ⟨rfl, rfl, rfl, rfl, trivial⟩ ?_
      refine W.reg [(0, false), (1, false), (2, false), (3, false)] (by kernel_rfl) ?_
      intro K hK
      refine x_move rfl rfl rfl rfl ?_
      refine x_move rfl rfl rfl rfl ?_
      refine x_len rfl rfl rfl rfl Tryz.underlying42 rfl ?_
      refine x_lss _ rfl rfl rfl rfl rfl rfl ?_
      refine Ex.done (hK _ _ ?_)
      refine At.then_n ?_
      refine W.cond rfl (fun hco7 => ?_) (fun hco7 => ?_)
      ·try simp only [sA, sB, sC, sD, sE, sF, ne_eq, Bool.not_eq_eq_eq_not, Bool.not_true, Bool.not_false, sK, sL, Bool.not_not, gt_iff_lt, ge_iff_le] at hco7
       obtain ⟨x, hx⟩ := get_lt (l := al) (q := j) (by omega)
       obtain ⟨bb, off, rfl, _⟩ := g.blk (j := j) (by omega)
       obtain ⟨pd, cd, hrow0, hbx⟩ := g.row hx
       refine W.skip ?_
       refine At.then_n ?_
       refine W.seq ?_
       refine W.block ?_
       refine W.seq ?_
       refine W.sub [(1, _), (2, _), (7, _), (10, _)] ⟨rfl, rfl, rfl, rfl, trivial⟩ ?_
       refine W.reg [(0, false), (1, false), (2, true), (3, false)] (by kernel_rfl) ?_
       intro K hK
       refine x_move rfl rfl rfl rfl ?_
       refine x_move rfl rfl rfl rfl ?_
       refine x_call rfl rfl rfl rfl rfl en22 (hdls_o M) ?_
       rintro r_ wcall9 ⟨pcall9, ccall9, Lcall9, rfl, hicall9, M⟩
       refine ⟨trivial, ?_⟩
       refine x_assign rfl rfl rfl rfl ?_
       refine Ex.done (hK _ _ ?_)
       refine At.then_n ?_
       refine W.seq ?_
       refine W.sub [(1, _), (2, _), (7, _), (10, _), (11, _)] ⟨rfl, rfl, rfl, rfl, rfl, trivial⟩ ?_
       refine W.regT (by kernel_rfl) #[0, 0, 0, 6, 14, 30, 0, 0, 192, 448, 960, 2047, 0, 8191] (.two [(0, false), (1, false), (2, false), (3, false), (4, false), (5, false), (6, false), (7, false), (8, false), (9, false), (10, false)] 11 [(12, true)] 12 [(11, true)] (.leaf [(13, true)])) (by kernel_rfl) ?_
       intro K wD1 hK hwD1
       have M := M.drew hwD1
       have hrow := RowAt.new hrow0 M.frm
       refine ExT.two ?_
       refine x_move rfl rfl rfl rfl ?_
       refine x_move rfl rfl rfl rfl ?_
       refine x_move rfl rfl rfl rfl ?_
       refine x_ia j rfl rfl rfl Tryz.underlying42 sz54 rfl rfl rfl (by omega) ?_
       refine x_fa rfl rfl rfl fo54_0 rfl ?_
       refine x_ld rfl rfl rfl Tryz.underlying3 rfl rfl (RowAt.cell hrow (j := 0) rfl) ?_
       refine x_move rfl rfl rfl rfl ?_
       refine x_move rfl rfl rfl rfl ?_
       refine x_ia j rfl rfl rfl Tryz.underlying42 sz54 rfl rfl rfl (by omega) ?_
       refine x_fa rfl rfl rfl fo54_1 rfl ?_
       refine x_ldA [_, _, _, _, _, _, _, _, _] rfl rfl rfl Tryz.underlying52 rfl sz52 rfl rfl (RowAt.tl hrow) ?_
       refine Ex.fork ?_
       refine Ex.join (fun F' T' w' => ∃ bx p1 c1 q1 d1 n1 Y R1 R2, T' = [(10, R2), (5, R1)] ∧ F' = [(1, .slice (some ⟨bb, off, none⟩) al.length cu), (2, .int .i64 who), (7, ptr I.bf), (10, .int .i64 ((j : Nat) : Int)), (11, .slice pcall9 (openL hf who).length ccall9), (12, ptr bx), (74, rsV (doS k hf x.who x.o).1 (.slice p1 (doS k hf x.who x.o).1.d.length c1) (.slice q1 n1 d1))] ∧ OvW w0 ((bx, .cells [.int .i64 0, .int .i64 0, .int .i64 0, .slice none 0 0, .slice none 0 0].toArray 49 (0, 0)) :: (Y ++ (Lcall9 ++ []))) I (doS k hf x.who x.o).2.1 (doS k hf x.who x.o).2.2 w') ?_ ?_ ?_
       ·
        refine x_call rfl rfl rfl rfl rfl en16 (do_o (o := x.o) M (fun w Y hY _ => hbx.new hY.frm)) ?_
        rintro r_ wcall10 ⟨pcall10, ccall10, qcall10, dcall10, ncall10, Lacall10, Lbcall10, rfl, hbcall10, hscall10, M⟩
        refine ⟨⟨.inl (by kernel_rfl), .inl (by kernel_rfl), trivial⟩, ?_⟩
        refine x_alloc [_, _, _, _, _] rfl rfl rfl ze49 rfl ?_
        intro bal1 wal1 hbal1 hwal1
        have M := M.acons hbal1 hwal1
        refine ⟨⟨.inr (RowAt.tl (RowAt.new hrow0 M.frm)), .inr (RowAt.cell (RowAt.new hrow0 M.frm) (j := 0) rfl), trivial⟩, ?_⟩
        refine Ex.forkS [(1, _), (2, _), (7, _), (10, _), (11, _), (12, _), (74, _)] ⟨rfl, rfl, rfl, rfl, rfl, rfl, rfl, trivial⟩ ?_
        exact ⟨_, _, _, _, _, _, Lacall10 ++ Lbcall10, _, _, rfl, rfl, by simpa only [List.append_assoc] using M⟩
       ·refine x_alloc [_, _, _, _, _] rfl rfl rfl ze49 rfl ?_
        intro bal2 wal2 hbal2 hwal2
        have M := M.acons hbal2 hwal2
        refine ⟨⟨.inr (RowAt.tl (RowAt.new hrow0 M.frm)), .inr (RowAt.cell (RowAt.new hrow0 M.frm) (j := 0) rfl), trivial⟩, ?_⟩
        refine x_call rfl rfl rfl rfl rfl en16 (do_o (o := x.o) M (fun w Y hY _ => hbx.new hY.frm)) ?_
        rintro r_ wcall11 ⟨pcall11, ccall11, qcall11, dcall11, ncall11, Lacall11, Lbcall11, rfl, hbcall11, hscall11, M⟩
        refine ⟨⟨.inl (by kernel_rfl), .inl (by kernel_rfl), trivial⟩, ?_⟩
        refine Ex.forkS [(1, _), (2, _), (7, _), (10, _), (11, _), (12, _), (74, _)] ⟨rfl, rfl, rfl, rfl, rfl, rfl, rfl, trivial⟩ ?_
        exact ⟨_, _, _, _, _, _, Lacall11 ++ Lbcall11, _, _, rfl, rfl, M.perm (perm_c fun p => by simp only [List.countP_append, List.countP_cons]; omega)⟩
       rintro F1 T1 wf ⟨bx, p1, c1, q1, d1, n1, Y, R1, R2, rfl, rfl, M⟩
       refine ExT.leaf ?_
       refine x_st [_, _, _, _, _] _ rfl rfl rfl sz49 rfl rfl rfl rfl (by first | exact M.at_ 0 rfl | exact M.at_ 1 rfl | exact M.at_ 2 rfl | exact M.at_ 3 rfl | exact M.at_ 4 rfl | exact M.at_ 5 rfl | exact M.at_ 6 rfl | exact M.at_ 7 rfl) rfl rfl rfl ?_
       intro wst1 hwst1
       have M := M.put 0 rfl hwst1
       refine ⟨⟨.inl (by kernel_rfl), .inl (by kernel_rfl), trivial⟩, ?_⟩
       refine Ex.done (hK _ _ ?_)
       refine At.then_n ?_
       refine W.seq ?_
       refine W.sub [(1, _), (2, _), (7, _), (10, _), (11, _), (12, _)] ⟨rfl, rfl, rfl, rfl, rfl, rfl, trivial⟩ ?_
       refine W.reg [(0, false), (1, false), (2, true), (3, false)] (by kernel_rfl) ?_
       intro K hK
       refine x_move rfl rfl rfl rfl ?_
       refine x_move rfl rfl rfl rfl ?_
       refine x_call rfl rfl rfl rfl rfl en22 (hdls_o M) ?_
       rintro r_ wcall12 ⟨pcall12, ccall12, Lcall12, rfl, hicall12, M⟩
       refine ⟨trivial, ?_⟩
       refine x_assign rfl rfl rfl rfl ?_
       refine Ex.done (hK _ _ ?_)
       refine At.then_n ?_
       refine W.seq ?_
       refine W.sub [(1, _), (2, _), (7, _), (10, _), (11, _), (12, _), (13, _)] ⟨rfl, rfl, rfl, rfl, rfl, rfl, rfl, trivial⟩ ?_
       refine W.seqC (fun F' w' => F' = [(1, .slice (some ⟨bb, off, none⟩) al.length cu), (2, .int .i64 who), (7, ptr I.bf), (10, .int .i64 ((j : Nat) : Int)), (11, .slice pcall9 (openL hf who).length ccall9), (12, ptr bx), (13, .slice pcall12 (openL (doS k hf x.who x.o).2.2 who).length ccall12), (102, .bool (otherB x who))] ∧ OvW w0 (Lcall12 ++ ((bx, .cells [.int .i64 (doS k hf x.who x.o).1.e, .int .i64 (doS k hf x.who x.o).1.h, .int .i64 (doS k hf x.who x.o).1.n, .slice p1 (doS k hf x.who x.o).1.d.length c1, .slice q1 n1 d1].toArray 49 (0, 0)) :: (Y ++ (Lcall9 ++ [])))) I (doS k hf x.who x.o).2.1 (doS k hf x.who x.o).2.2 w') ?_ ?_
       ·refine W.sub [(1, _), (2, _), (7, _), (10, _), (11, _), (12, _), (13, _)] ⟨rfl, rfl, rfl, rfl, rfl, rfl, rfl, trivial⟩ ?_
        refine W.reg [(0, false), (1, false), (2, false), (3, false), (4, false), (5, false), (6, false), (7, false), (8, false), (9, false), (10, false), (11, false), (12, false), (13, false), (14, false), (15, false), (16, false), (17, false), (18, false), (19, false), (20, false), (21, false), (22, false), (23, false), (24, false)] (by kernel_rfl) ?_
        intro K hK
        refine x_move rfl rfl rfl rfl ?_
        refine x_move rfl rfl rfl rfl ?_
        refine x_ia j rfl rfl rfl Tryz.underlying42 sz54 rfl rfl rfl (by omega) ?_
        refine x_fa rfl rfl rfl fo54_0 rfl ?_
        refine x_ld rfl rfl rfl Tryz.underlying3 rfl rfl (RowAt.cell (RowAt.new hrow0 M.frm) (j := 0) rfl) ?_
        refine x_move rfl rfl rfl rfl ?_
        refine x_nei _ rfl rfl rfl rfl rfl rfl ?_
        refine x_move rfl rfl rfl rfl ?_
        refine Ex.split 85 rfl (fun hsp5 => ?_) (fun hsp5 => ?_)
        ·
         try simp only [sA, sB, sC, sD, sE, sF, ne_eq, Bool.not_eq_eq_eq_not, Bool.not_true, Bool.not_false, sK, sL, Bool.not_not, gt_iff_lt, ge_iff_le] at hsp5
         refine Ex.skip_ rfl rfl rfl ?_
         refine Ex.skip_ rfl rfl rfl ?_
         refine Ex.skip_ rfl rfl rfl ?_
         refine Ex.skip_ rfl rfl rfl ?_
         refine Ex.skip_ rfl rfl rfl ?_
         refine Ex.skip_ rfl rfl rfl ?_
         refine Ex.skip_ rfl rfl rfl ?_
         refine Ex.skip_ rfl rfl rfl ?_
         refine Ex.skip_ rfl rfl rfl ?_
         refine Ex.skip_ rfl rfl rfl ?_
         refine Ex.skip_ rfl rfl rfl ?_
         refine Ex.skip_ rfl rfl rfl ?_
         refine Ex.skip_ rfl rfl rfl ?_
         refine Ex.skip_ rfl rfl rfl ?_
         refine Ex.skip_ rfl rfl rfl ?_
         refine Ex.skip_ rfl rfl rfl ?_
         refine x_pickT rfl rfl rfl rfl rfl ?_
         refine Ex.done (hK _ _ ?_)
         refine At.sub [(1, _), (2, _), (7, _), (10, _), (11, _), (12, _), (13, _), (102, _)] ⟨rfl, rfl, rfl, rfl, rfl, rfl, rfl, rfl, trivial⟩ ?_
         refine At.cut_n ?_
         exact ⟨by rw [show otherB x who = true by unfold otherB; simp [hsp5]], M⟩
        ·
         try simp only [sA, sB, sC, sD, sE, sF, ne_eq, Bool.not_eq_eq_eq_not, Bool.not_true, Bool.not_false, sK, sL, Bool.not_not, gt_iff_lt, ge_iff_le] at hsp5
         refine x_move rfl rfl rfl rfl ?_
         refine x_move rfl rfl rfl rfl ?_
         refine x_ia j rfl rfl rfl Tryz.underlying42 sz54 rfl rfl rfl (by omega) ?_
         refine x_fa rfl rfl rfl fo54_1 rfl ?_
         refine x_fa rfl rfl rfl fo52_0 rfl ?_
         refine x_ld rfl rfl rfl Tryz.underlying3 rfl rfl (RowAt.cell (RowAt.tl (RowAt.new hrow0 M.frm)) (j := 0) rfl) ?_
         refine x_nei _ rfl rfl rfl rfl rfl rfl ?_
         refine x_move rfl rfl rfl rfl ?_
         refine Ex.split 93 rfl (fun hsp6 => ?_) (fun hsp6 => ?_)
         ·
          try simp only [sA, sB, sC, sD, sE, sF, ne_eq, Bool.not_eq_eq_eq_not, Bool.not_true, Bool.not_false, sK, sL, Bool.not_not, gt_iff_lt, ge_iff_le] at hsp6
          refine x_move rfl rfl rfl rfl ?_
          refine x_move rfl rfl rfl rfl ?_
          refine x_ia j rfl rfl rfl Tryz.underlying42 sz54 rfl rfl rfl (by omega) ?_
          refine x_fa rfl rfl rfl fo54_1 rfl ?_
          refine x_fa rfl rfl rfl fo52_0 rfl ?_
          refine x_ld rfl rfl rfl Tryz.underlying3 rfl rfl (RowAt.cell (RowAt.tl (RowAt.new hrow0 M.frm)) (j := 0) rfl) ?_
          refine x_nei _ rfl rfl rfl rfl rfl rfl ?_
          refine x_pickT rfl rfl rfl rfl rfl ?_
          refine x_pickF rfl rfl rfl rfl rfl ?_
          refine Ex.done (hK _ _ ?_)
          refine At.sub [(1, _), (2, _), (7, _), (10, _), (11, _), (12, _), (13, _), (102, _)] ⟨rfl, rfl, rfl, rfl, rfl, rfl, rfl, rfl, trivial⟩ ?_
          refine At.cut_n ?_
          exact ⟨by rw [show otherB x who = (x.o.k != 5) by unfold otherB; rw [Bool.eq_iff_iff]; simp [hsp5, hsp6]], M⟩
         ·
          try simp only [sA, sB, sC, sD, sE, sF, ne_eq, Bool.not_eq_eq_eq_not, Bool.not_true, Bool.not_false, sK, sL, Bool.not_not, gt_iff_lt, ge_iff_le] at hsp6
          refine Ex.skip_ rfl rfl rfl ?_
          refine Ex.skip_ rfl rfl rfl ?_
          refine Ex.skip_ rfl rfl rfl ?_
          refine Ex.skip_ rfl rfl rfl ?_
          refine Ex.skip_ rfl rfl rfl ?_
          refine Ex.skip_ rfl rfl rfl ?_
          refine Ex.skip_ rfl rfl rfl ?_
          refine x_pickF rfl rfl rfl rfl rfl ?_
          refine x_pickF rfl rfl rfl rfl rfl ?_
          refine Ex.done (hK _ _ ?_)
          refine At.sub [(1, _), (2, _), (7, _), (10, _), (11, _), (12, _), (13, _), (102, _)] ⟨rfl, rfl, rfl, rfl, rfl, rfl, rfl, rfl, trivial⟩ ?_
          refine At.cut_n ?_
          exact ⟨by rw [show otherB x who = false by unfold otherB; simp [hsp5, hsp6]], M⟩
       rintro F1 wc ⟨rfl, M⟩
       refine W.cond rfl (fun hco8 => ?_) (fun hco8 => ?_)
       ·try simp only [sA, sB, sC, sD, sE, sF, ne_eq, Bool.not_eq_eq_eq_not, Bool.not_true, Bool.not_false, sK, sL, Bool.not_not, gt_iff_lt, ge_iff_le] at hco8
        have hsame := apart_same (l := k) (hf := hf) (a := x) (b := who) (other_yes hco8)
        rw [hsame] at hicall12
        rw [hsame]
        refine W.seq ?_
        refine W.seq ?_
        refine W.sub [(1, _), (2, _), (7, _), (10, _), (11, _), (13, _)] ⟨rfl, rfl, rfl, rfl, rfl, rfl, trivial⟩ ?_
        refine W.reg [(0, false), (1, false), (2, false), (3, false), (4, false)] (by kernel_rfl) ?_
        intro K hK
        refine x_move rfl rfl rfl rfl ?_
        refine x_len rfl rfl rfl rfl Tryz.underlying61 rfl ?_
        refine x_move rfl rfl rfl rfl ?_
        refine x_len rfl rfl rfl rfl Tryz.underlying61 rfl ?_
        refine x_nei false rfl rfl rfl rfl rfl (by simp) ?_
        refine Ex.done (hK _ _ ?_)
        refine At.then_n ?_
        refine W.condF rfl ?_
        refine W.skip ?_
        refine At.then_n ?_
        refine W.seq ?_
        refine W.seq ?_
        refine W.sub [(1, _), (2, _), (7, _), (10, _), (11, _), (13, _)] ⟨rfl, rfl, rfl, rfl, rfl, rfl, trivial⟩ ?_
        refine W.reg [(0, false)] (by kernel_rfl) ?_
        intro K hK
        refine x_assign rfl rfl rfl rfl ?_
        refine Ex.done (hK _ _ ?_)
        refine At.then_n ?_
        refine W.block ?_
        refine W.loop (σ := Nat) (fun i => [(1, _), (2, _), (7, _), (10, _), (11, _), (13, _), (14, .int .i64 ((i : Nat) : Int))]) (fun i w => i ≤ (openL hf who).length ∧ OvW w0 (Lcall12 ++ ((bx, .cells [.int .i64 (doS k hf x.who x.o).1.e, .int .i64 (doS k hf x.who x.o).1.h, .int .i64 (doS k hf x.who x.o).1.n, .slice p1 (doS k hf x.who x.o).1.d.length c1, .slice q1 n1 d1].toArray 49 (0, 0)) :: (Y ++ (Lcall9 ++ [])))) I (doS k hf x.who x.o).2.1 (doS k hf x.who x.o).2.2 w) (fun i => (openL hf who).length - i) 0 ⟨rfl, rfl, rfl, rfl, rfl, rfl, rfl, trivial⟩ ⟨Nat.zero_le _, M⟩ ?_
        rintro i w ⟨hi, M⟩
        have hol : (openL hf who).length ≤ 16 := openN_len hf who 16
        refine W.seq ?_
        refine W.seq ?_
        refine W.sub [(1, _), (2, _), (7, _), (10, _), (11, _), (13, _), (14, _)] ⟨rfl, rfl, rfl, rfl, rfl, rfl, rfl, trivial⟩ ?_
        refine W.reg [(0, false), (1, false), (2, false), (3, false)] (by kernel_rfl) ?_
        intro K hK
        refine x_move rfl rfl rfl rfl ?_
        refine x_move rfl rfl rfl rfl ?_
        refine x_len rfl rfl rfl rfl Tryz.underlying61 rfl ?_
        refine x_lss _ rfl rfl rfl rfl rfl rfl ?_
        refine Ex.done (hK _ _ ?_)
        refine At.then_n ?_
        refine W.cond rfl (fun hco10 => ?_) (fun hco10 => ?_)
        ·try simp only [sA, sB, sC, sD, sE, sF, ne_eq, Bool.not_eq_eq_eq_not, Bool.not_true, Bool.not_false, sK, sL, Bool.not_not, gt_iff_lt, ge_iff_le] at hco10
         obtain ⟨z, hz⟩ := get_lt (l := openL hf who) (q := i) (by omega)
         obtain ⟨b12, o12, rfl, _⟩ := (intsO_at hicall12 (fun y hy => M.get (by simp [hy]))).blk (j := i) (by omega)
         obtain ⟨b9, o9, rfl, _⟩ := (intsO_at hicall9 (fun y hy => M.get (by simp [hy]))).blk (j := i) (by omega)
         refine W.skip ?_
         refine At.then_n ?_
         refine W.seq ?_
         refine W.block ?_
         refine W.seq ?_
         refine W.sub [(1, _), (2, _), (7, _), (10, _), (11, _), (13, _), (14, _)] ⟨rfl, rfl, rfl, rfl, rfl, rfl, rfl, trivial⟩ ?_
         refine W.regD (by kernel_rfl) #[0, 0, 3, 7, 0, 0, 48, 112, 255] [(0, false), (1, false), (2, false), (3, false), (4, false), (5, false), (6, false), (7, false), (8, false)] (by kernel_rfl) ?_
         intro K wD2 hK hwD2
         have M := M.drew hwD2
         refine x_move rfl rfl rfl rfl ?_
         refine x_move rfl rfl rfl rfl ?_
         refine x_ia i rfl rfl rfl Tryz.underlying61 sz3 rfl rfl rfl (by omega) ?_
         refine x_ld rfl rfl rfl Tryz.underlying3 rfl rfl (Sl.cell1 (intsO_at hicall12 (fun y hy => M.get (by simp [hy]))) (intCs_get hz)) ?_
         refine x_move rfl rfl rfl rfl ?_
         refine x_move rfl rfl rfl rfl ?_
         refine x_ia i rfl rfl rfl Tryz.underlying61 sz3 rfl rfl rfl (by omega) ?_
         refine x_ld rfl rfl rfl Tryz.underlying3 rfl rfl (Sl.cell1 (intsO_at hicall9 (fun y hy => M.get (by simp [hy]))) (intCs_get hz)) ?_
         refine x_nei false rfl rfl rfl rfl rfl (by simp) ?_
         refine Ex.done (hK _ _ ?_)
         refine At.then_n ?_
         refine W.condF rfl ?_
         refine W.skip ?_
         refine At.blk_n ?_
         refine At.then_n ?_
         refine W.sub [(1, _), (2, _), (7, _), (10, _), (11, _), (13, _), (14, _)] ⟨rfl, rfl, rfl, rfl, rfl, rfl, rfl, trivial⟩ ?_
         refine W.reg [(0, false), (1, false), (2, false)] (by kernel_rfl) ?_
         intro K hK
         refine x_move rfl rfl rfl rfl ?_
         refine x_add _ rfl rfl rfl rfl rfl (wadd (by omega) (by omega)) ?_
         refine x_assign rfl rfl rfl rfl ?_
         refine Ex.done (hK _ _ ?_)
         exact At.back (i + 1) ⟨rfl, rfl, rfl, rfl, rfl, rfl, rfl, trivial⟩ ⟨by omega, M⟩ (by first | omega | (simp only; omega) | (simp; done) | (simp; omega))
        ·try simp only [sA, sB, sC, sD, sE, sF, ne_eq, Bool.not_eq_eq_eq_not, Bool.not_true, Bool.not_false, sK, sL, Bool.not_not, gt_iff_lt, ge_iff_le] at hco10
         refine W.exit ?_
         refine At.then_x ?_
         refine At.loop_x ?_
         refine At.blk_x ?_
         refine At.then_n ?_
         refine W.exit ?_
         refine At.then_x ?_
         refine At.blk_x ?_
         refine At.then_n ?_
         refine W.sub [(1, _), (2, _), (7, _), (10, _)] ⟨rfl, rfl, rfl, rfl, trivial⟩ ?_
         refine W.reg [(0, false), (1, false), (2, false)] (by kernel_rfl) ?_
         intro K hK
         refine x_move rfl rfl rfl rfl ?_
         refine x_add _ rfl rfl rfl rfl rfl (wadd (by omega) (by omega)) ?_
         refine x_assign rfl rfl rfl rfl ?_
         refine Ex.done (hK _ _ ?_)
         exact At.back ((j + 1, _, _)) ⟨rfl, rfl, rfl, rfl, trivial⟩ ⟨by omega, M.sub (List.nil_sublist _)⟩ (by first | omega | (simp only; omega) | (simp; done) | (simp; omega))
       ·try simp only [sA, sB, sC, sD, sE, sF, ne_eq, Bool.not_eq_eq_eq_not, Bool.not_true, Bool.not_false, sK, sL, Bool.not_not, gt_iff_lt, ge_iff_le] at hco8
        obtain ⟨rfl, hk15⟩ := other_no (by rw [hco8]; simp)
        refine W.skip ?_
        refine At.then_n ?_
        refine W.seq ?_
        refine W.sub [(1, _), (2, _), (7, _), (10, _), (11, _), (12, _), (13, _)] ⟨rfl, rfl, rfl, rfl, rfl, rfl, rfl, trivial⟩ ?_
        refine W.reg [(0, false), (1, false), (2, false), (3, false), (4, false), (5, false), (6, false), (7, false)] (by kernel_rfl) ?_
        intro K hK
        refine x_fa rfl rfl rfl fo49_0 rfl ?_
        refine x_ld rfl rfl rfl Tryz.underlying35 rfl rfl (cell_of (M.get (x := (bx, .cells [.int .i64 (doS k hf x.who x.o).1.e, .int .i64 (doS k hf x.who x.o).1.h, .int .i64 (doS k hf x.who x.o).1.n, .slice p1 (doS k hf x.who x.o).1.d.length c1, .slice q1 n1 d1].toArray 49 (0, 0))) (by simp)) rfl) ?_
        refine x_eqi _ rfl rfl rfl rfl rfl rfl ?_
        refine x_move rfl rfl rfl rfl ?_
        refine Ex.split 126 rfl (fun hsp7 => ?_) (fun hsp7 => ?_)
        ·
         try simp only [sA, sB, sC, sD, sE, sF, ne_eq, Bool.not_eq_eq_eq_not, Bool.not_true, Bool.not_false, sK, sL, Bool.not_not, gt_iff_lt, ge_iff_le] at hsp7
         refine x_fa rfl rfl rfl fo49_1 rfl ?_
         refine x_ld rfl rfl rfl Tryz.underlying3 rfl rfl (cell_of (M.get (x := (bx, .cells [.int .i64 (doS k hf x.who x.o).1.e, .int .i64 (doS k hf x.who x.o).1.h, .int .i64 (doS k hf x.who x.o).1.n, .slice p1 (doS k hf x.who x.o).1.d.length c1, .slice q1 n1 d1].toArray 49 (0, 0))) (by simp)) rfl) ?_
         refine x_gtr _ rfl rfl rfl rfl rfl rfl ?_
         refine x_pickT rfl rfl rfl rfl rfl ?_
         refine Ex.done (hK _ _ ?_)
         refine At.then_n ?_
         refine W.cond rfl (fun hco12 => ?_) (fun hco12 => ?_)
         ·try simp only [sA, sB, sC, sD, sE, sF, ne_eq, Bool.not_eq_eq_eq_not, Bool.not_true, Bool.not_false, sK, sL, Bool.not_not, gt_iff_lt, ge_iff_le] at hco12
          obtain ⟨hlow, hlen⟩ := apart_low (l := k) (hf := hf) hk15 hsp7 hco12
          have hol := openN_len hf x.who 16
          have hol : (openL hf x.who).length ≤ 16 := hol
          refine W.seq ?_
          refine W.sub [(1, _), (2, _), (7, _), (10, _), (11, _), (12, _), (13, _)] ⟨rfl, rfl, rfl, rfl, rfl, rfl, rfl, trivial⟩ ?_
          refine W.reg [(0, false)] (by kernel_rfl) ?_
          intro K hK
          refine x_assign rfl rfl rfl rfl ?_
          refine Ex.done (hK _ _ ?_)
          refine At.then_n ?_
          refine W.seq ?_
          refine W.seq ?_
          refine W.sub [(1, _), (2, _), (7, _), (10, _), (11, _), (12, _), (13, _), (15, _)] ⟨rfl, rfl, rfl, rfl, rfl, rfl, rfl, rfl, trivial⟩ ?_
          refine W.reg [(0, false)] (by kernel_rfl) ?_
          intro K hK
          refine x_assign rfl rfl rfl rfl ?_
          refine Ex.done (hK _ _ ?_)
          refine At.then_n ?_
          refine W.block ?_
          refine W.loop (σ := Nat) (fun q => [(1, _), (2, _), (7, _), (10, _), (11, _), (12, _), (13, _), (15, .int .i64 ((lowN ((openL hf x.who).take q) : Nat) : Int)), (16, .int .i64 ((q : Nat) : Int))]) (fun q w => q ≤ (openL hf x.who).length ∧ OvW w0 (Lcall12 ++ ((bx, .cells [.int .i64 (doS k hf x.who x.o).1.e, .int .i64 (doS k hf x.who x.o).1.h, .int .i64 (doS k hf x.who x.o).1.n, .slice p1 (doS k hf x.who x.o).1.d.length c1, .slice q1 n1 d1].toArray 49 (0, 0)) :: (Y ++ (Lcall9 ++ [])))) I (doS k hf x.who x.o).2.1 (doS k hf x.who x.o).2.2 w) (fun q => (openL hf x.who).length - q) 0 ⟨rfl, rfl, rfl, rfl, rfl, rfl, rfl, rfl, rfl, trivial⟩ ⟨Nat.zero_le _, M⟩ ?_
          rintro q w ⟨hq, M⟩
          have hlo := lowN_le ((openL hf x.who).take q)
          rw [List.length_take] at hlo
          refine W.seq ?_
          refine W.seq ?_
          refine W.sub [(1, _), (2, _), (7, _), (10, _), (11, _), (12, _), (13, _), (15, _), (16, _)] ⟨rfl, rfl, rfl, rfl, rfl, rfl, rfl, rfl, rfl, trivial⟩ ?_
          refine W.reg [(0, false), (1, false), (2, false), (3, false)] (by kernel_rfl) ?_
          intro K hK
          refine x_move rfl rfl rfl rfl ?_
          refine x_move rfl rfl rfl rfl ?_
          refine x_len rfl rfl rfl rfl Tryz.underlying61 rfl ?_
          refine x_lss _ rfl rfl rfl rfl rfl rfl ?_
          refine Ex.done (hK _ _ ?_)
          refine At.then_n ?_
          refine W.cond rfl (fun hco13 => ?_) (fun hco13 => ?_)
          ·try simp only [sA, sB, sC, sD, sE, sF, ne_eq, Bool.not_eq_eq_eq_not, Bool.not_true, Bool.not_false, sK, sL, Bool.not_not, gt_iff_lt, ge_iff_le] at hco13
           obtain ⟨z, hz⟩ := get_lt (l := openL hf x.who) (q := q) (by omega)
           obtain ⟨b9, o9, rfl, _⟩ := (intsO_at hicall9 (fun y hy => M.get (by simp [hy]))).blk (j := q) (by omega)
           have hlt := lowN_take hz
           refine W.skip ?_
           refine At.then_n ?_
           refine W.seq ?_
           refine W.block ?_
           refine W.seq ?_
           refine W.sub [(1, _), (2, _), (7, _), (10, _), (11, _), (12, _), (13, _), (15, _), (16, _)] ⟨rfl, rfl, rfl, rfl, rfl, rfl, rfl, rfl, rfl, trivial⟩ ?_
           refine W.reg [(0, false), (1, false), (2, false), (3, false), (4, false), (5, false)] (by kernel_rfl) ?_
           intro K hK
           refine x_move rfl rfl rfl rfl ?_
           refine x_move rfl rfl rfl rfl ?_
           refine x_ia q rfl rfl rfl Tryz.underlying61 sz3 rfl rfl rfl (by omega) ?_
           refine x_ld rfl rfl rfl Tryz.underlying3 rfl rfl (Sl.cell1 (intsO_at hicall9 (fun y hy => M.get (by simp [hy]))) (intCs_get hz)) ?_
           refine x_move rfl rfl rfl rfl ?_
           refine x_eqi _ rfl rfl rfl rfl rfl rfl ?_
           refine Ex.done (hK _ _ ?_)
           refine At.then_n ?_
           refine W.cond rfl (fun hco14 => ?_) (fun hco14 => ?_)
           ·try simp only [sA, sB, sC, sD, sE, sF, ne_eq, Bool.not_eq_eq_eq_not, Bool.not_true, Bool.not_false, sK, sL, Bool.not_not, gt_iff_lt, ge_iff_le] at hco14
            refine W.sub [(1, _), (2, _), (7, _), (10, _), (11, _), (12, _), (13, _), (15, _), (16, _)] ⟨rfl, rfl, rfl, rfl, rfl, rfl, rfl, rfl, rfl, trivial⟩ ?_
            refine W.reg [(0, false), (1, false), (2, false)] (by kernel_rfl) ?_
            intro K hK
            refine x_move rfl rfl rfl rfl ?_
            refine x_add ((lowN ((openL hf x.who).take (q + 1)) : Nat) : Int) rfl rfl rfl rfl rfl (by rw [wadd (by omega) (by omega), hlt, if_pos (by omega)]; rfl) ?_
            refine x_assign rfl rfl rfl rfl ?_
            refine Ex.done (hK _ _ ?_)
            refine At.blk_n ?_
            refine At.then_n ?_
            refine W.sub [(1, _), (2, _), (7, _), (10, _), (11, _), (12, _), (13, _), (15, _), (16, _)] ⟨rfl, rfl, rfl, rfl, rfl, rfl, rfl, rfl, rfl, trivial⟩ ?_
            refine W.reg [(0, false), (1, false), (2, false)] (by kernel_rfl) ?_
            intro K hK
            refine x_move rfl rfl rfl rfl ?_
            refine x_add _ rfl rfl rfl rfl rfl (wadd (by omega) (by omega)) ?_
            refine x_assign rfl rfl rfl rfl ?_
            refine Ex.done (hK _ _ ?_)
            exact At.back (q + 1) ⟨rfl, rfl, rfl, rfl, rfl, rfl, rfl, rfl, rfl, trivial⟩ ⟨by omega, M⟩ (by first | omega | (simp only; omega) | (simp; done) | (simp; omega))
           ·try simp only [sA, sB, sC, sD, sE, sF, ne_eq, Bool.not_eq_eq_eq_not, Bool.not_true, Bool.not_false, sK, sL, Bool.not_not, gt_iff_lt, ge_iff_le] at hco14
            refine W.skip ?_
            refine At.blk_n ?_
            refine At.then_n ?_
            refine W.sub [(1, _), (2, _), (7, _), (10, _), (11, _), (12, _), (13, _), (15, _), (16, _)] ⟨rfl, rfl, rfl, rfl, rfl, rfl, rfl, rfl, rfl, trivial⟩ ?_
            refine W.reg [(0, false), (1, false), (2, false)] (by kernel_rfl) ?_
            intro K hK
            refine x_move rfl rfl rfl rfl ?_
            refine x_add _ rfl rfl rfl rfl rfl (wadd (by omega) (by omega)) ?_
            refine x_assign rfl rfl rfl rfl ?_
            refine Ex.done (hK _ _ ?_)
            exact At.back (q + 1) ⟨rfl, rfl, rfl, rfl, rfl, rfl, rfl, (by show _ = some (Value.int .i64 ((lowN ((openL hf x.who).take (q + 1)) : Nat) : Int)); rw [hlt, if_neg (by omega)]; rfl), rfl, trivial⟩ ⟨by omega, M⟩ (by first | omega | (simp only; omega) | (simp; done) | (simp; omega))
          ·try simp only [sA, sB, sC, sD, sE, sF, ne_eq, Bool.not_eq_eq_eq_not, Bool.not_true, Bool.not_false, sK, sL, Bool.not_not, gt_iff_lt, ge_iff_le] at hco13
           have hq2 : q = (openL hf x.who).length := by omega
           rw [hq2, List.take_length]
           refine W.exit ?_
           refine At.then_x ?_
           refine At.loop_x ?_
           refine At.blk_x ?_
           refine At.then_n ?_
           refine W.seq ?_
           refine W.sub [(1, _), (2, _), (7, _), (10, _), (11, _), (12, _), (13, _), (15, _)] ⟨rfl, rfl, rfl, rfl, rfl, rfl, rfl, rfl, trivial⟩ ?_
           refine W.reg [(0, false), (1, false), (2, false), (3, false), (4, false), (5, false), (6, false), (7, false), (8, false), (9, false), (10, false), (11, false)] (by kernel_rfl) ?_
           intro K hK
           refine x_fa rfl rfl rfl fo49_1 rfl ?_
           refine x_ld rfl rfl rfl Tryz.underlying3 rfl rfl (cell_of (M.get (x := (bx, .cells [.int .i64 (doS k hf x.who x.o).1.e, .int .i64 (doS k hf x.who x.o).1.h, .int .i64 (doS k hf x.who x.o).1.n, .slice p1 (doS k hf x.who x.o).1.d.length c1, .slice q1 n1 d1].toArray 49 (0, 0))) (by simp)) rfl) ?_
           refine x_move rfl rfl rfl rfl ?_
           refine x_nei false rfl rfl rfl rfl rfl (by rw [hlow]; simp) ?_
           refine x_move rfl rfl rfl rfl ?_
           refine x_move rfl rfl rfl rfl ?_
           refine x_len rfl rfl rfl rfl Tryz.underlying61 rfl ?_
           refine x_move rfl rfl rfl rfl ?_
           refine x_len rfl rfl rfl rfl Tryz.underlying61 rfl ?_
           refine x_add _ rfl rfl rfl rfl rfl (wadd (by omega) (by omega)) ?_
           refine x_nei false rfl rfl rfl rfl rfl (by rw [hlen]; simp) ?_
           refine x_pickF rfl rfl rfl rfl rfl ?_
           refine Ex.done (hK _ _ ?_)
           refine At.then_n ?_
           refine W.condF rfl ?_
           refine W.skip ?_
           refine At.blk_n ?_
           refine At.then_n ?_
           refine W.sub [(1, _), (2, _), (7, _), (10, _)] ⟨rfl, rfl, rfl, rfl, trivial⟩ ?_
           refine W.reg [(0, false), (1, false), (2, false)] (by kernel_rfl) ?_
           intro K hK
           refine x_move rfl rfl rfl rfl ?_
           refine x_add _ rfl rfl rfl rfl rfl (wadd (by omega) (by omega)) ?_
           refine x_assign rfl rfl rfl rfl ?_
           refine Ex.done (hK _ _ ?_)
           exact At.back ((j + 1, _, _)) ⟨rfl, rfl, rfl, rfl, trivial⟩ ⟨by omega, M.sub (List.nil_sublist _)⟩ (by first | omega | (simp only; omega) | (simp; done) | (simp; omega))
         ·try simp only [sA, sB, sC, sD, sE, sF, ne_eq, Bool.not_eq_eq_eq_not, Bool.not_true, Bool.not_false, sK, sL, Bool.not_not, gt_iff_lt, ge_iff_le] at hco12
          refine W.skip ?_
          refine At.blk_n ?_
          refine At.then_n ?_
          refine W.sub [(1, _), (2, _), (7, _), (10, _)] ⟨rfl, rfl, rfl, rfl, trivial⟩ ?_
          refine W.reg [(0, false), (1, false), (2, false)] (by kernel_rfl) ?_
          intro K hK
          refine x_move rfl rfl rfl rfl ?_
          refine x_add _ rfl rfl rfl rfl rfl (wadd (by omega) (by omega)) ?_
          refine x_assign rfl rfl rfl rfl ?_
          refine Ex.done (hK _ _ ?_)
          exact At.back ((j + 1, _, _)) ⟨rfl, rfl, rfl, rfl, trivial⟩ ⟨by omega, M.sub (List.nil_sublist _)⟩ (by first | omega | (simp only; omega) | (simp; done) | (simp; omega))
        ·
         try simp only [sA, sB, sC, sD, sE, sF, ne_eq, Bool.not_eq_eq_eq_not, Bool.not_true, Bool.not_false, sK, sL, Bool.not_not, gt_iff_lt, ge_iff_le] at hsp7
         refine Ex.skip_ rfl rfl rfl ?_
         refine Ex.skip_ rfl rfl rfl ?_
         refine Ex.skip_ rfl rfl rfl ?_
         refine x_pickF rfl rfl rfl rfl rfl ?_
         refine Ex.done (hK _ _ ?_)
         refine At.then_n ?_
         refine W.condF rfl ?_
         refine W.skip ?_
         refine At.blk_n ?_
         refine At.then_n ?_
         refine W.sub [(1, _), (2, _), (7, _), (10, _)] ⟨rfl, rfl, rfl, rfl, trivial⟩ ?_
         refine W.reg [(0, false), (1, false), (2, false)] (by kernel_rfl) ?_
         intro K hK
         refine x_move rfl rfl rfl rfl ?_
         refine x_add _ rfl rfl rfl rfl rfl (wadd (by omega) (by omega)) ?_
         refine x_assign rfl rfl rfl rfl ?_
         refine Ex.done (hK _ _ ?_)
         exact At.back ((j + 1, _, _)) ⟨rfl, rfl, rfl, rfl, trivial⟩ ⟨by omega, M.sub (List.nil_sublist _)⟩ (by first | omega | (simp only; omega) | (simp; done) | (simp; omega))
      ·try simp only [sA, sB, sC, sD, sE, sF, ne_eq, Bool.not_eq_eq_eq_not, Bool.not_true, Bool.not_false, sK, sL, Bool.not_not, gt_iff_lt, ge_iff_le] at hco7
       refine W.exit ?_
       refine At.then_x ?_
       refine At.loop_x ?_
       refine At.blk_x ?_
       refine At.then_n ?_
       refine W.seq ?_
       refine W.sub [] trivial ?_
       refine W.reg [(0, true), (1, false)] (by kernel_rfl) ?_
       intro K hK
       refine x_call rfl rfl rfl rfl rfl en11 (lives19_c) ?_
       rintro r_ wcall13 ⟨rfl, hncall13⟩
       have M := M.new hncall13
       refine ⟨trivial, ?_⟩
       refine x_assign rfl rfl rfl rfl ?_
       refine Ex.done (hK _ _ ?_)
       refine At.then_n ?_
       refine W.ret ?_
       refine At.ret1 (.tmp 6) rfl ⟨rfl, trivial⟩ ?_
       exact ⟨rfl, M.frm⟩
end Go.Proofs.YtigfbpbnohkokaaGreat

namespace Go.Fw
open Go Go.ChangeShapes Go.WideShapes Go.ChangeAt Go.RowKit
set_option linter.unusedVariables false
set_option linter.unusedSimpArgs false
section
variable {H : Type} {enc : TypeId × Value → H} {P : Program} {W : World} {sp : Nat → Bool}
theorem rd_struct9 {t : TypeId} {f0 f1 f2 f3 f4 f5 f6 f7 f8 : Field} {α0 α1 α2 α3 α4 α5 α6 α7 α8 : Type} {c0 : α0 → Value} {c1 : α1 → Value} {c2 : α2 → Value} {c3 : α3 → Value} {c4 : α4 → Value} {c5 : α5 → Value} {c6 : α6 → Value} {c7 : α7 → Value} {c8 : α8 → Value} {R0 : α0 → DataW H → Prop} {R1 : α1 → DataW H → Prop} {R2 : α2 → DataW H → Prop} {R3 : α3 → DataW H → Prop} {R4 : α4 → DataW H → Prop} {R5 : α5 → DataW H → Prop} {R6 : α6 → DataW H → Prop} {R7 : α7 → DataW H → Prop} {R8 : α8 → DataW H → Prop} (ht : P.underlying t = some (.struct #[f0, f1, f2, f3, f4, f5, f6, f7, f8])) (hc : P.cellsOf t = 9)
  (h0 : f0.offset = 0 ∧ P.cellsOf f0.type = 1) (h1 : f1.offset = 1 ∧ P.cellsOf f1.type = 1) (h2 : f2.offset = 2 ∧ P.cellsOf f2.type = 1) (h3 : f3.offset = 3 ∧ P.cellsOf f3.type = 1) (h4 : f4.offset = 4 ∧ P.cellsOf f4.type = 1) (h5 : f5.offset = 5 ∧ P.cellsOf f5.type = 1) (h6 : f6.offset = 6 ∧ P.cellsOf f6.type = 1) (h7 : f7.offset = 7 ∧ P.cellsOf f7.type = 1) (h8 : f8.offset = 8 ∧ P.cellsOf f8.type = 1) (r0 : Rd enc P W sp f0.type (fun a => [c0 a]) R0) (r1 : Rd enc P W sp f1.type (fun a => [c1 a]) R1) (r2 : Rd enc P W sp f2.type (fun a => [c2 a]) R2) (r3 : Rd enc P W sp f3.type (fun a => [c3 a]) R3) (r4 : Rd enc P W sp f4.type (fun a => [c4 a]) R4) (r5 : Rd enc P W sp f5.type (fun a => [c5 a]) R5) (r6 : Rd enc P W sp f6.type (fun a => [c6 a]) R6) (r7 : Rd enc P W sp f7.type (fun a => [c7 a]) R7) (r8 : Rd enc P W sp f8.type (fun a => [c8 a]) R8) :
  Rd enc P W sp t (fun a : α0 × α1 × α2 × α3 × α4 × α5 × α6 × α7 × α8 => [c0 (a.1), c1 (a.2.1), c2 (a.2.2.1), c3 (a.2.2.2.1), c4 (a.2.2.2.2.1), c5 (a.2.2.2.2.2.1), c6 (a.2.2.2.2.2.2.1), c7 (a.2.2.2.2.2.2.2.1), c8 (a.2.2.2.2.2.2.2.2)]) (fun a d => ∃ d0 d1 d2 d3 d4 d5 d6 d7 d8, d = .agg [d0, d1, d2, d3, d4, d5, d6, d7, d8] ∧ R0 (a.1) d0 ∧ R1 (a.2.1) d1 ∧ R2 (a.2.2.1) d2 ∧ R3 (a.2.2.2.1) d3 ∧ R4 (a.2.2.2.2.1) d4 ∧ R5 (a.2.2.2.2.2.1) d5 ∧ R6 (a.2.2.2.2.2.2.1) d6 ∧ R7 (a.2.2.2.2.2.2.2.1) d7 ∧ R8 (a.2.2.2.2.2.2.2.2) d8) := fun fuel cs x h => by
 obtain ⟨xs, n, _, rfl, hl, hlen, hf⟩ := DataW.trod_struct ht h
 rw [hc] at hl
 match xs, hlen, cs, hl with
 | [y0, y1, y2, y3, y4, y5, y6, y7, y8], _, [u0, u1, u2, u3, u4, u5, u6, u7, u8], _ =>
  have g0 := hf 0 f0 rfl
  rw [h0.1, h0.2] at g0
  obtain ⟨a0, e0, q0⟩ := r0 n [u0] y0 g0
  have g1 := hf 1 f1 rfl
  rw [h1.1, h1.2] at g1
  obtain ⟨a1, e1, q1⟩ := r1 n [u1] y1 g1
  have g2 := hf 2 f2 rfl
  rw [h2.1, h2.2] at g2
  obtain ⟨a2, e2, q2⟩ := r2 n [u2] y2 g2
  have g3 := hf 3 f3 rfl
  rw [h3.1, h3.2] at g3
  obtain ⟨a3, e3, q3⟩ := r3 n [u3] y3 g3
  have g4 := hf 4 f4 rfl
  rw [h4.1, h4.2] at g4
  obtain ⟨a4, e4, q4⟩ := r4 n [u4] y4 g4
  have g5 := hf 5 f5 rfl
  rw [h5.1, h5.2] at g5
  obtain ⟨a5, e5, q5⟩ := r5 n [u5] y5 g5
  have g6 := hf 6 f6 rfl
  rw [h6.1, h6.2] at g6
  obtain ⟨a6, e6, q6⟩ := r6 n [u6] y6 g6
  have g7 := hf 7 f7 rfl
  rw [h7.1, h7.2] at g7
  obtain ⟨a7, e7, q7⟩ := r7 n [u7] y7 g7
  have g8 := hf 8 f8 rfl
  rw [h8.1, h8.2] at g8
  obtain ⟨a8, e8, q8⟩ := r8 n [u8] y8 g8
  simp only [List.cons.injEq, and_true] at e0 e1 e2 e3 e4 e5 e6 e7 e8
  subst e0 e1 e2 e3 e4 e5 e6 e7 e8
  exact ⟨(a0, a1, a2, a3, a4, a5, a6, a7, a8), rfl, y0.1, y1.1, y2.1, y3.1, y4.1, y5.1, y6.1, y7.1, y8.1, rfl, q0, q1, q2, q3, q4, q5, q6, q7, q8⟩
/-- A field of one cell, and one behind it that has more. -/
theorem rd_cons {t : TypeId} {f0 f1 : Field} {m : Nat} {α0 α1 : Type} {c0 : α0 → Value} {e1 : α1 → List Value} {R0 : α0 → DataW H → Prop} {R1 : α1 → DataW H → Prop} (ht : P.underlying t = some (.struct #[f0, f1])) (hc : P.cellsOf t = m + 1)
  (h0 : f0.offset = 0 ∧ P.cellsOf f0.type = 1) (h1 : f1.offset = 1 ∧ P.cellsOf f1.type = m) (r0 : Rd enc P W sp f0.type (fun a => [c0 a]) R0) (r1 : Rd enc P W sp f1.type e1 R1) :
  Rd enc P W sp t (fun a : α0 × α1 => c0 a.1 :: e1 a.2) (fun a d => ∃ d0 d1, d = .agg [d0, d1] ∧ R0 a.1 d0 ∧ R1 a.2 d1) := fun fuel cs x h => by
 obtain ⟨xs, n, _, rfl, hl, hlen, hf⟩ := DataW.trod_struct ht h
 rw [hc] at hl
 match xs, hlen, cs, hl with
 | [y0, y1], _, u0 :: us, hl =>
  have g0 := hf 0 f0 rfl
  rw [h0.1, h0.2] at g0
  obtain ⟨a0, e0, q0⟩ := r0 n [u0] y0 g0
  have g1 := hf 1 f1 rfl
  rw [h1.1, h1.2] at g1
  have hu : ((u0 :: us).drop 1).take m = us := by
   simp only [List.length_cons] at hl
   simp only [List.drop_succ_cons, List.drop_zero]
   exact List.take_of_length_le (by omega)
  rw [hu] at g1
  obtain ⟨a1, e1', q1⟩ := r1 n us y1 g1
  simp only [List.cons.injEq, and_true] at e0
  subst e0
  exact ⟨(a0, a1), by rw [e1'], y0.1, y1.1, rfl, q0, q1⟩
end
end Go.Fw

namespace Go.Proofs.YtigfbpbnohkokaaGreat
open Go Go.Fw Go.ChangeShapes Go.WideShapes Go.ChangeAt Go.RowKit
set_option linter.unusedVariables false
set_option linter.unusedSimpArgs false

theorem cInt : Tryz.prog.cellsOf 3 = 1 := by kernel_rfl
theorem cBool : Tryz.prog.cellsOf 4 = 1 := by kernel_rfl
theorem cBytes : Tryz.prog.cellsOf 27 = 1 := by kernel_rfl
theorem cByte : Tryz.prog.cellsOf 5 = 1 := by kernel_rfl
theorem cOp : Tryz.prog.cellsOf 52 = 9 := by kernel_rfl
theorem cFile : Tryz.prog.cellsOf 29 = 3 := by kernel_rfl
section
variable {H : Type} {enc : TypeId × Value → H} {W : World} {sp : Nat → Bool}
abbrev OpV := Int × List UInt8 × List UInt8 × Int × Int × Int × Bool × Bool × (Value × List UInt8)
abbrev FileV := List UInt8 × Bool × (Value × List UInt8)
def toOp (a : OpV) : OpS := ⟨a.1, a.2.1, a.2.2.1, a.2.2.2.1, a.2.2.2.2.1, a.2.2.2.2.2.1, a.2.2.2.2.2.2.1, a.2.2.2.2.2.2.2.1, a.2.2.2.2.2.2.2.2.2⟩
def opE (a : OpV) : List Value := [.int .i64 a.1, strV a.2.1, strV a.2.2.1, .int .i64 a.2.2.2.1, .int .i64 a.2.2.2.2.1, .int .i64 a.2.2.2.2.2.1, .bool a.2.2.2.2.2.2.1, .bool a.2.2.2.2.2.2.2.1, a.2.2.2.2.2.2.2.2.1]
def fileE (a : FileV) : List Value := [strV a.1, .bool a.2.1, a.2.2.1]
def toRaw (a : FileV) : Raw := (a.1, a.2.1, a.2.2.2)
abbrev ActV := Int × OpV
def actE (a : ActV) : List Value := .int .i64 a.1 :: opE a.2
def toAsk (a : ActV) : Ask := ⟨a.1, toOp a.2⟩
def BytesR (W : World) (a : Value × List UInt8) (d : DataW H) : Prop := BytesAt W a.1 a.2
theorem Rd.weak {P : Program} {t : TypeId} {α : Type} {e1 : α → List Value} {R R' : α → DataW H → Prop} (h : Rd enc P W sp t e1 R) (hR : ∀ a d, R a d → R' a d) : Rd enc P W sp t e1 R' := fun fuel cs x hx =>
 let ⟨a, h1, h2⟩ := h fuel cs x hx; ⟨a, h1, hR a _ h2⟩
theorem rd_byt : Rd enc Tryz.prog W sp 27 (fun a : Value × List UInt8 => [a.1]) (BytesR W) := Rd.weak (rd_bytes Tryz.underlying27 Tryz.underlying5 cByte) fun _ _ h => h.1
theorem rd_op : Rd enc Tryz.prog W sp 52 opE (fun a _ => BytesAt W a.2.2.2.2.2.2.2.2.1 a.2.2.2.2.2.2.2.2.2) := fun fuel cs x h => by
 obtain ⟨a, h1, d0, d1, d2, d3, d4, d5, d6, d7, d8, _, _, _, _, _, _, _, _, _, h2⟩ := rd_struct9 (R0 := _) (R1 := _) (R2 := _) (R3 := _) (R4 := _) (R5 := _) (R6 := _) (R7 := _) (R8 := _) Tryz.underlying52 cOp ⟨rfl, cInt⟩ ⟨rfl, cStr⟩ ⟨rfl, cStr⟩ ⟨rfl, cInt⟩ ⟨rfl, cInt⟩ ⟨rfl, cInt⟩ ⟨rfl, cBool⟩ ⟨rfl, cBool⟩ ⟨rfl, cBytes⟩ (rd_int Tryz.underlying3) (rd_string Tryz.underlying9) (rd_string Tryz.underlying9) (rd_int Tryz.underlying3) (rd_int Tryz.underlying3) (rd_int Tryz.underlying3) (rd_bool Tryz.underlying4) (rd_bool Tryz.underlying4) rd_byt fuel cs x h
 exact ⟨a, h1, h2⟩
theorem rd_file : Rd enc Tryz.prog W sp 29 fileE (fun a _ => BytesAt W a.2.2.1 a.2.2.2) := fun fuel cs x h => by
 obtain ⟨a, h1, d0, d1, d2, hd, _, _, h2⟩ := rd_struct3 (R0 := _) (R1 := _) (R2 := _) Tryz.underlying29 cFile ⟨rfl, cStr⟩ ⟨rfl, cBool⟩ ⟨rfl, cBytes⟩ (rd_string Tryz.underlying9) (rd_bool Tryz.underlying4) rd_byt fuel cs x h
 exact ⟨a, h1, h2⟩
theorem cAct : Tryz.prog.cellsOf 54 = 9 + 1 := by kernel_rfl
theorem rd_act : Rd enc Tryz.prog W sp 54 actE (fun a _ => BytesAt W a.2.2.2.2.2.2.2.2.2.1 a.2.2.2.2.2.2.2.2.2.2) := fun fuel cs x h => by
 obtain ⟨a, h1, d0, d1, _, _, h2⟩ := rd_cons (R0 := _) (R1 := _) Tryz.underlying54 cAct ⟨rfl, cInt⟩ ⟨rfl, cOp⟩ (rd_int Tryz.underlying3) rd_op fuel cs x h
 exact ⟨a, h1, h2⟩
theorem asks_of {R : ActV → DataW H → Prop} (hR : ∀ a d, R a d → BytesAt W a.2.2.2.2.2.2.2.2.2.1 a.2.2.2.2.2.2.2.2.2.2) {v : Value} {l : List ActV} {d : DataW H} (h : SlR W 10 actE R (v, l) d) : AsksAt W v (l.map toAsk) := by
 obtain ⟨h1, _, h3, _⟩ := h
 refine ⟨l.map fun a => (toAsk a, a.2.2.2.2.2.2.2.2.2.1), by rw [List.map_map]; rfl, ?_, fun f hf => ?_⟩
 ·have e : (l.map fun a => (toAsk a, a.2.2.2.2.2.2.2.2.2.1)).flatMap askC = l.flatMap actE := by rw [List.flatMap_map]; rfl
  rw [e, List.length_map]; exact h1
 ·obtain ⟨a, ha, rfl⟩ := List.mem_map.1 hf
  obtain ⟨_, d', hd⟩ := h3 a ha
  exact hR a d' hd
theorem files_of {R : FileV → DataW H → Prop} (hR : ∀ a d, R a d → BytesAt W a.2.2.1 a.2.2.2) {v : Value} {l : List FileV} {d : DataW H} (h : SlR W 3 fileE R (v, l) d) : FilesAt W v (l.map toRaw) := by
 obtain ⟨h1, _, h3, _⟩ := h
 refine ⟨l.map fun a => (toRaw a, a.2.2.1), by rw [List.map_map]; rfl, ?_, fun f hf => ?_⟩
 ·have e : fCs (l.map fun a => (toRaw a, a.2.2.1)) = l.flatMap fileE := by unfold fCs; rw [List.flatMap_map]; rfl
  rw [e, List.length_map]; exact h1
 ·obtain ⟨a, ha, rfl⟩ := List.mem_map.1 hf
  obtain ⟨_, d', hd⟩ := h3 a ha
  have hb := hR a d' hd
  obtain ⟨p, c, hs⟩ := hb.shape
  exact ⟨hb, by simp only; rw [hs]; rfl⟩
theorem max_len {α : Type} {l : List α} (h : l.length ≤ maxLen) : l.length ≤ 9223372036854775807 := by unfold maxLen at h; omega
end
end Go.Proofs.YtigfbpbnohkokaaGreat
