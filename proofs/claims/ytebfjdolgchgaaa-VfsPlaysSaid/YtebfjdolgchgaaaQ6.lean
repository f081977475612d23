/-
  Texts that belong together, laid into one file: E8, K4, E9, K5, E10, K6, E11, K7, E12, K8, E13, K9, E14, KA, E15, U35, L11, KB, L12, G1, G2, E16, KC, G13, KD, F5, F6, F7, KE.
-/
import Derived.Test.YtebfjdolgchgaaaQ5
namespace Go.Proofs.Ytebfjdolgchgaaa
open Go Go.Fw Go.RowKit Go.Proofs
set_option linter.unusedVariables false
set_option linter.unusedSimpArgs false
set_option maxRecDepth 100000
set_option maxHeartbeats 4000000

-- (*valise/vfs.Sys).ask
theorem vask_c {w00 w0 : World} {X : List (Nat × Obj)} {I : VfI} {S : VS} {i b : Nat} {c : Cl} {o : OpS} {r : List OpS} (M : VfW w00 X I S w0) (hc : S.c[i]? = some c) (hl : c.l = o :: r) (hcb : I.cb[i]? = some b) (hst : c.st = 1) : Ret Try.prog 45 #[ptr I.bs, ptr b] w0 fun rr w' => rr = .tuple #[] ∧ VfW w00 X I { askS S i c o with s := S.s } w' := by
 obtain ⟨m, L, hR, M⟩ := M
 obtain ⟨x, R, hx, hxb, hops, hperm, hback⟩ := hR.out hc
 rw [hcb] at hxb
 simp only [Option.some.injEq] at hxb
 subst hxb
 rw [hl] at hops
 have hi8 : (i : Int) < 8 := by have := hR.vi.le; have := (List.getElem?_eq_some_iff.1 hc).1; omega
 have M : Sep w00 ((x.b, .cells [.int .i64 (i : Int), x.v, .int .i64 (c.n : Int), .func (.func (nextF c.st)) #[ptr I.bs] #[], .int .i64 (c.bg : Int), .int .i64 (c.dd : Int), strV c.key, .bool c.w].toArray 83 (0, 0)) :: (I.bs, .cells [.iface 30 (ptr m.bp), ptr m.lk.bl, m.cv, m.ov, .int .i64 (S.s : Int)].toArray 77 (0, 0)) :: (m.bp, .cells [m.u, m.hv].toArray 39 (0, 0)) :: (lkB m.lk ++ (m.oD ++ (R ++ (L ++ X))))) w0 := M.perm (List.Perm.trans (List.perm_append_comm.trans ((hperm.append_right L).append_right X)) (by simp only [cBk, cCs, sysB, plnB, List.append_assoc, List.cons_append]; exact List.Perm.refl _))
 obtain ⟨hls, hhs, hO, hI⟩ := hR.hs
 have hp120 := hI.pathLen (who := (i : Int)) (n := o.h)
 refine Ret.of_W Try.func45 rfl Try.ntmps45 rfl ?_
 refine go 2 ?_
 intro _ M
 refine go 0 ?_
 refine x_st [_] _ rfl rfl rfl sz81 rfl rfl rfl rfl atM rfl rfl rfl ?_
 intro wst2 hwst2
 have M : Sep w00 ((x.b, .cells [.int .i64 (i : Int), x.v, .int .i64 (c.n : Int), .func (.func (68)) #[ptr I.bs] #[], .int .i64 (c.bg : Int), .int .i64 (c.dd : Int), strV ([] : List UInt8), .bool c.w].toArray 83 (0, 0)) :: (I.bs, .cells [.iface 30 (ptr m.bp), ptr m.lk.bl, m.cv, m.ov, .int .i64 (S.s : Int)].toArray 77 (0, 0)) :: (m.bp, .cells [m.u, m.hv].toArray 39 (0, 0)) :: (lkB m.lk ++ (m.oD ++ (R ++ (L ++ X))))) wst2 := M.put 0 rfl hwst2
 refine ⟨trivial, ?_⟩
 refine go 0 ?_
 refine x_call rfl rfl rfl rfl rfl en44 (cop_c (L := L) (v := x.v) M (fun y hy => by simp [hy]) (M.at_ 0 rfl) rfl hops) ?_
 rintro r_ wcall1 ⟨dv, rfl, hdv, hn1⟩
 have M := M.new hn1
 obtain ⟨pdv, cdv, rfl⟩ := (hdv _ _ M (fun y hy => by simp [hy])).shape
 refine ⟨trivial, ?_⟩
 refine go 1 ?_
 intro bal1 _ M
 refine x_st [_, _, _, _, _, _, _, _, _] _ rfl rfl rfl sz66 rfl rfl rfl rfl atM rfl rfl rfl ?_
 intro wst3 hwst3
 have M : Sep w00 ((bal1, .cells (opC o (.slice pdv o.d.length cdv)).toArray 66 (0, 0)) :: (x.b, .cells [.int .i64 (i : Int), x.v, .int .i64 (c.n : Int), .func (.func (68)) #[ptr I.bs] #[], .int .i64 (c.bg : Int), .int .i64 (c.dd : Int), strV ([] : List UInt8), .bool c.w].toArray 83 (0, 0)) :: (I.bs, .cells [.iface 30 (ptr m.bp), ptr m.lk.bl, m.cv, m.ov, .int .i64 (S.s : Int)].toArray 77 (0, 0)) :: (m.bp, .cells [m.u, m.hv].toArray 39 (0, 0)) :: (lkB m.lk ++ (m.oD ++ (R ++ (L ++ X))))) wst3 := M.put 0 rfl hwst3
 refine ⟨trivial, ?_⟩
 refine cnd 2 ?_ ?_
 ·intro hco1
  rw [show (o.k == 2) = true by rw [hco1]; rfl]
  refine go 0 ?_
  refine W.regD (by kernel_rfl) #[0, 0, 2, 6, 14, 0, 32, 96, 224, 0, 512, 30, 2078, 8190, 16382, 32767, 65535, 131071] [(0, false), (1, false), (2, false), (3, false), (4, false), (5, false), (6, false), (7, false), (8, false), (9, false), (10, false), (11, false), (12, false), (13, true), (14, false), (15, false), (16, false), (17, true)] (by kernel_rfl) ?_
  intro K wD1 hK hwD1
  have M := M.drew hwD1
  refine go 3 ?_
  refine x_inv rfl rfl rfl rfl rfl (by kernel_rfl : methOK Try.prog 30 "File" 113 = true) en113 (pfile_c (M.at_ 3 rfl) (hO _ _ M (fun y hy => by simp [hy])) (by have := hI.hlen; omega)) ?_
  rintro r_ wcall2 ⟨rfl, hnf⟩
  have M := M.new hnf
  have h47 : ([47] : List UInt8).length + (fileP (hfL hls) i o.h).length ≤ 9223372036854775807 := by simp only [List.length_cons, List.length_nil]; omega
  refine pnd ?_
  refine x_catS rfl rfl rfl rfl rfl (by assumption) ?_
  refine go 0 ?_
  refine x_st [_] _ rfl rfl rfl sz9 rfl rfl rfl rfl atM rfl rfl rfl ?_
  intro wst4 hwst4
  have M : Sep w00 ((bal1, .cells (opC o (.slice pdv o.d.length cdv)).toArray 66 (0, 0)) :: (x.b, .cells [.int .i64 (i : Int), x.v, .int .i64 (c.n : Int), .func (.func (68)) #[ptr I.bs] #[], .int .i64 (c.bg : Int), .int .i64 (c.dd : Int), strV (47 :: (fileP (hfL hls) i o.h) : List UInt8), .bool c.w].toArray 83 (0, 0)) :: (I.bs, .cells [.iface 30 (ptr m.bp), ptr m.lk.bl, m.cv, m.ov, .int .i64 (S.s : Int)].toArray 77 (0, 0)) :: (m.bp, .cells [m.u, m.hv].toArray 39 (0, 0)) :: (lkB m.lk ++ (m.oD ++ (R ++ (L ++ X))))) wst4 := M.put 1 rfl hwst4
  refine pnd ?_
  refine go 0 ?_
  refine W.regD (by kernel_rfl) #[0, 1, 3, 7, 0, 16, 48, 112, 0, 256, 768, 1792, 0, 4096, 12288, 32767, 65535, 131071, 131071, 262143, 1048575] [(0, false), (1, false), (2, false), (3, false), (4, false), (5, false), (6, false), (7, false), (8, false), (9, false), (10, false), (11, false), (12, false), (13, false), (14, false), (15, true), (16, false), (17, false), (18, false), (19, false), (20, false)] (by kernel_rfl) ?_
  intro K wD2 hK hwD2
  have M := M.drew hwD2
  refine go 4 ?_
  refine x_nei (!decide (o.k = 2)) rfl rfl rfl rfl rfl rfl ?_
  refine x_call rfl rfl rfl rfl rfl en42 (lask_c (key := 47 :: (fileP (hfL hls) i o.h)) (M.perm (show List.Perm _ (lkB m.lk ++ ((bal1, .cells (opC o (.slice pdv o.d.length cdv)).toArray 66 (0, 0)) :: (x.b, .cells [.int .i64 (i : Int), x.v, .int .i64 (c.n : Int), .func (.func (68)) #[ptr I.bs] #[], .int .i64 (c.bg : Int), .int .i64 (c.dd : Int), strV (47 :: (fileP (hfL hls) i o.h) : List UInt8), .bool c.w].toArray 83 (0, 0)) :: (I.bs, .cells [.iface 30 (ptr m.bp), ptr m.lk.bl, m.cv, m.ov, .int .i64 (S.s : Int)].toArray 77 (0, 0)) :: (m.bp, .cells [m.u, m.hv].toArray 39 (0, 0)) :: (m.oD ++ (R ++ (L ++ X))))) from (perm_c fun p => by simp only [List.countP_append, List.countP_cons, List.countP_nil]; omega))) hR.lk (hR.vi.qi _) (hR.vi.qlen _).1 (hR.vi.qlen _).2 (by omega) hi8) ?_
  rintro r_ w3_ ⟨lk', e_, rfl, hbl, hLR, M⟩
  have M : Sep w00 ((bal1, .cells (opC o (.slice pdv o.d.length cdv)).toArray 66 (0, 0)) :: (x.b, .cells [.int .i64 (i : Int), x.v, .int .i64 (c.n : Int), .func (.func (68)) #[ptr I.bs] #[], .int .i64 (c.bg : Int), .int .i64 (c.dd : Int), strV (47 :: (fileP (hfL hls) i o.h) : List UInt8), .bool c.w].toArray 83 (0, 0)) :: (I.bs, .cells [.iface 30 (ptr m.bp), ptr m.lk.bl, m.cv, m.ov, .int .i64 (S.s : Int)].toArray 77 (0, 0)) :: (m.bp, .cells [m.u, m.hv].toArray 39 (0, 0)) :: (lkB lk' ++ (m.oD ++ (R ++ (L ++ X))))) _ := M.perm (perm_c fun p => by simp only [List.countP_append, List.countP_cons, List.countP_nil]; omega)
  refine pnd ?_
  refine go 2 ?_
  intro wst5 M
  refine go 1 ?_
  have hlk : lockO o = true := by unfold lockO; simp [hco1]
  have hvi := hR.vi.askS (o := o) hc hst
  rw [askS_lock hlk (P := (fileP (hfL hls) i o.h)) (by rw [hhs])] at hvi ⊢
  have hM : VMR w00 L I { S with q := setQ S.q (47 :: (fileP (hfL hls) i o.h)) (askQ (S.q (47 :: (fileP (hfL hls) i o.h))) i (!decide (o.k = 2))).1, c := S.c.set i { c with key := 47 :: (fileP (hfL hls) i o.h), w := !(askQ (S.q (47 :: (fileP (hfL hls) i o.h))) i (!decide (o.k = 2))).2.1, st := 2 } } { m with lk := lk' } := hR.upd (i := i) (x := x) (x' := x) (c' := { c with key := 47 :: (fileP (hfL hls) i o.h), w := !(askQ (S.q (47 :: (fileP (hfL hls) i o.h))) i (!decide (o.k = 2))).2.1, st := 2 }) hx rfl (set_same hx) rfl rfl rfl (fun y hy => hy) hLR (by show OpsK w00 L x.v c.l; rw [hl]; exact hops) hR.oo hR.os hR.od hR.fs hR.hs hvi
  have M2 : Sep w00 (cBk I.bs i { c with key := 47 :: (fileP (hfL hls) i o.h), w := !(askQ (S.q (47 :: (fileP (hfL hls) i o.h))) i (!decide (o.k = 2))).2.1, st := 2 } x :: sysB I { m with lk := lk' } S.s :: plnB m :: (lkB lk' ++ (m.oD ++ (R ++ (L ++ X))))) wst5 := by unfold sysB; simp only [hbl]; exact M.tail
  exact ⟨rfl, VfW.shut hM (hback _ { m with lk := lk' } { c with key := 47 :: (fileP (hfL hls) i o.h), w := !(askQ (S.q (47 :: (fileP (hfL hls) i o.h))) i (!decide (o.k = 2))).2.1, st := 2 } x rfl (set_same hx) rfl) M2⟩
 ·intro hco1
  refine cnd 1 ?_ ?_
  ·intro hco3
   rw [show (o.k == 3) = true by rw [hco3]; rfl]
   refine go 0 ?_
   refine W.regD (by kernel_rfl) #[0, 0, 2, 6, 14, 0, 32, 96, 224, 0, 512, 30, 2078, 8190, 16382, 32767, 65535, 131071] [(0, false), (1, false), (2, false), (3, false), (4, false), (5, false), (6, false), (7, false), (8, false), (9, false), (10, false), (11, false), (12, false), (13, true), (14, false), (15, false), (16, false), (17, true)] (by kernel_rfl) ?_
   intro K wD3 hK hwD3
   have M := M.drew hwD3
   refine go 3 ?_
   refine x_inv rfl rfl rfl rfl rfl (by kernel_rfl : methOK Try.prog 30 "File" 113 = true) en113 (pfile_c (M.at_ 3 rfl) (hO _ _ M (fun y hy => by simp [hy])) (by have := hI.hlen; omega)) ?_
   rintro r_ wcall4 ⟨rfl, hnf⟩
   have M := M.new hnf
   have h47 : ([47] : List UInt8).length + (fileP (hfL hls) i o.h).length ≤ 9223372036854775807 := by simp only [List.length_cons, List.length_nil]; omega
   refine pnd ?_
   refine x_catS rfl rfl rfl rfl rfl (by assumption) ?_
   refine go 0 ?_
   refine x_st [_] _ rfl rfl rfl sz9 rfl rfl rfl rfl atM rfl rfl rfl ?_
   intro wst6 hwst6
   have M : Sep w00 ((bal1, .cells (opC o (.slice pdv o.d.length cdv)).toArray 66 (0, 0)) :: (x.b, .cells [.int .i64 (i : Int), x.v, .int .i64 (c.n : Int), .func (.func (68)) #[ptr I.bs] #[], .int .i64 (c.bg : Int), .int .i64 (c.dd : Int), strV (47 :: (fileP (hfL hls) i o.h) : List UInt8), .bool c.w].toArray 83 (0, 0)) :: (I.bs, .cells [.iface 30 (ptr m.bp), ptr m.lk.bl, m.cv, m.ov, .int .i64 (S.s : Int)].toArray 77 (0, 0)) :: (m.bp, .cells [m.u, m.hv].toArray 39 (0, 0)) :: (lkB m.lk ++ (m.oD ++ (R ++ (L ++ X))))) wst6 := M.put 1 rfl hwst6
   refine pnd ?_
   refine go 0 ?_
   refine W.regD (by kernel_rfl) #[0, 1, 3, 7, 0, 16, 48, 112, 0, 256, 768, 1792, 0, 4096, 12288, 32767, 65535, 131071, 131071, 262143, 1048575] [(0, false), (1, false), (2, false), (3, false), (4, false), (5, false), (6, false), (7, false), (8, false), (9, false), (10, false), (11, false), (12, false), (13, false), (14, false), (15, true), (16, false), (17, false), (18, false), (19, false), (20, false)] (by kernel_rfl) ?_
   intro K wD4 hK hwD4
   have M := M.drew hwD4
   refine go 4 ?_
   refine x_nei (!decide (o.k = 2)) rfl rfl rfl rfl rfl rfl ?_
   refine x_call rfl rfl rfl rfl rfl en42 (lask_c (key := 47 :: (fileP (hfL hls) i o.h)) (M.perm (show List.Perm _ (lkB m.lk ++ ((bal1, .cells (opC o (.slice pdv o.d.length cdv)).toArray 66 (0, 0)) :: (x.b, .cells [.int .i64 (i : Int), x.v, .int .i64 (c.n : Int), .func (.func (68)) #[ptr I.bs] #[], .int .i64 (c.bg : Int), .int .i64 (c.dd : Int), strV (47 :: (fileP (hfL hls) i o.h) : List UInt8), .bool c.w].toArray 83 (0, 0)) :: (I.bs, .cells [.iface 30 (ptr m.bp), ptr m.lk.bl, m.cv, m.ov, .int .i64 (S.s : Int)].toArray 77 (0, 0)) :: (m.bp, .cells [m.u, m.hv].toArray 39 (0, 0)) :: (m.oD ++ (R ++ (L ++ X))))) from (perm_c fun p => by simp only [List.countP_append, List.countP_cons, List.countP_nil]; omega))) hR.lk (hR.vi.qi _) (hR.vi.qlen _).1 (hR.vi.qlen _).2 (by omega) hi8) ?_
   rintro r_ w5_ ⟨lk', e_, rfl, hbl, hLR, M⟩
   have M : Sep w00 ((bal1, .cells (opC o (.slice pdv o.d.length cdv)).toArray 66 (0, 0)) :: (x.b, .cells [.int .i64 (i : Int), x.v, .int .i64 (c.n : Int), .func (.func (68)) #[ptr I.bs] #[], .int .i64 (c.bg : Int), .int .i64 (c.dd : Int), strV (47 :: (fileP (hfL hls) i o.h) : List UInt8), .bool c.w].toArray 83 (0, 0)) :: (I.bs, .cells [.iface 30 (ptr m.bp), ptr m.lk.bl, m.cv, m.ov, .int .i64 (S.s : Int)].toArray 77 (0, 0)) :: (m.bp, .cells [m.u, m.hv].toArray 39 (0, 0)) :: (lkB lk' ++ (m.oD ++ (R ++ (L ++ X))))) _ := M.perm (perm_c fun p => by simp only [List.countP_append, List.countP_cons, List.countP_nil]; omega)
   refine pnd ?_
   refine go 2 ?_
   intro wst7 M
   refine go 1 ?_
   have hlk : lockO o = true := by unfold lockO; simp [hco3]
   have hvi := hR.vi.askS (o := o) hc hst
   rw [askS_lock hlk (P := (fileP (hfL hls) i o.h)) (by rw [hhs])] at hvi ⊢
   have hM : VMR w00 L I { S with q := setQ S.q (47 :: (fileP (hfL hls) i o.h)) (askQ (S.q (47 :: (fileP (hfL hls) i o.h))) i (!decide (o.k = 2))).1, c := S.c.set i { c with key := 47 :: (fileP (hfL hls) i o.h), w := !(askQ (S.q (47 :: (fileP (hfL hls) i o.h))) i (!decide (o.k = 2))).2.1, st := 2 } } { m with lk := lk' } := hR.upd (i := i) (x := x) (x' := x) (c' := { c with key := 47 :: (fileP (hfL hls) i o.h), w := !(askQ (S.q (47 :: (fileP (hfL hls) i o.h))) i (!decide (o.k = 2))).2.1, st := 2 }) hx rfl (set_same hx) rfl rfl rfl (fun y hy => hy) hLR (by show OpsK w00 L x.v c.l; rw [hl]; exact hops) hR.oo hR.os hR.od hR.fs hR.hs hvi
   have M2 : Sep w00 (cBk I.bs i { c with key := 47 :: (fileP (hfL hls) i o.h), w := !(askQ (S.q (47 :: (fileP (hfL hls) i o.h))) i (!decide (o.k = 2))).2.1, st := 2 } x :: sysB I { m with lk := lk' } S.s :: plnB m :: (lkB lk' ++ (m.oD ++ (R ++ (L ++ X))))) wst7 := by unfold sysB; simp only [hbl]; exact M.tail
   exact ⟨rfl, VfW.shut hM (hback _ { m with lk := lk' } { c with key := 47 :: (fileP (hfL hls) i o.h), w := !(askQ (S.q (47 :: (fileP (hfL hls) i o.h))) i (!decide (o.k = 2))).2.1, st := 2 } x rfl (set_same hx) rfl) M2⟩
  ·intro hco3
   refine cnd 1 ?_ ?_
   ·intro hco5
    rw [show (o.k == 4) = true by rw [hco5]; rfl]
    refine go 0 ?_
    refine W.regD (by kernel_rfl) #[0, 0, 2, 6, 14, 0, 32, 96, 224, 0, 512, 30, 2078, 8190, 16382, 32767, 65535, 131071] [(0, false), (1, false), (2, false), (3, false), (4, false), (5, false), (6, false), (7, false), (8, false), (9, false), (10, false), (11, false), (12, false), (13, true), (14, false), (15, false), (16, false), (17, true)] (by kernel_rfl) ?_
    intro K wD5 hK hwD5
    have M := M.drew hwD5
    refine go 3 ?_
    refine x_inv rfl rfl rfl rfl rfl (by kernel_rfl : methOK Try.prog 30 "File" 113 = true) en113 (pfile_c (M.at_ 3 rfl) (hO _ _ M (fun y hy => by simp [hy])) (by have := hI.hlen; omega)) ?_
    rintro r_ wcall6 ⟨rfl, hnf⟩
    have M := M.new hnf
    have h47 : ([47] : List UInt8).length + (fileP (hfL hls) i o.h).length ≤ 9223372036854775807 := by simp only [List.length_cons, List.length_nil]; omega
    refine pnd ?_
    refine x_catS rfl rfl rfl rfl rfl (by assumption) ?_
    refine go 0 ?_
    refine x_st [_] _ rfl rfl rfl sz9 rfl rfl rfl rfl atM rfl rfl rfl ?_
    intro wst8 hwst8
    have M : Sep w00 ((bal1, .cells (opC o (.slice pdv o.d.length cdv)).toArray 66 (0, 0)) :: (x.b, .cells [.int .i64 (i : Int), x.v, .int .i64 (c.n : Int), .func (.func (68)) #[ptr I.bs] #[], .int .i64 (c.bg : Int), .int .i64 (c.dd : Int), strV (47 :: (fileP (hfL hls) i o.h) : List UInt8), .bool c.w].toArray 83 (0, 0)) :: (I.bs, .cells [.iface 30 (ptr m.bp), ptr m.lk.bl, m.cv, m.ov, .int .i64 (S.s : Int)].toArray 77 (0, 0)) :: (m.bp, .cells [m.u, m.hv].toArray 39 (0, 0)) :: (lkB m.lk ++ (m.oD ++ (R ++ (L ++ X))))) wst8 := M.put 1 rfl hwst8
    refine pnd ?_
    refine go 0 ?_
    refine W.regD (by kernel_rfl) #[0, 1, 3, 7, 0, 16, 48, 112, 0, 256, 768, 1792, 0, 4096, 12288, 32767, 65535, 131071, 131071, 262143, 1048575] [(0, false), (1, false), (2, false), (3, false), (4, false), (5, false), (6, false), (7, false), (8, false), (9, false), (10, false), (11, false), (12, false), (13, false), (14, false), (15, true), (16, false), (17, false), (18, false), (19, false), (20, false)] (by kernel_rfl) ?_
    intro K wD6 hK hwD6
    have M := M.drew hwD6
    refine go 4 ?_
    refine x_nei (!decide (o.k = 2)) rfl rfl rfl rfl rfl rfl ?_
    refine x_call rfl rfl rfl rfl rfl en42 (lask_c (key := 47 :: (fileP (hfL hls) i o.h)) (M.perm (show List.Perm _ (lkB m.lk ++ ((bal1, .cells (opC o (.slice pdv o.d.length cdv)).toArray 66 (0, 0)) :: (x.b, .cells [.int .i64 (i : Int), x.v, .int .i64 (c.n : Int), .func (.func (68)) #[ptr I.bs] #[], .int .i64 (c.bg : Int), .int .i64 (c.dd : Int), strV (47 :: (fileP (hfL hls) i o.h) : List UInt8), .bool c.w].toArray 83 (0, 0)) :: (I.bs, .cells [.iface 30 (ptr m.bp), ptr m.lk.bl, m.cv, m.ov, .int .i64 (S.s : Int)].toArray 77 (0, 0)) :: (m.bp, .cells [m.u, m.hv].toArray 39 (0, 0)) :: (m.oD ++ (R ++ (L ++ X))))) from (perm_c fun p => by simp only [List.countP_append, List.countP_cons, List.countP_nil]; omega))) hR.lk (hR.vi.qi _) (hR.vi.qlen _).1 (hR.vi.qlen _).2 (by omega) hi8) ?_
    rintro r_ w7_ ⟨lk', e_, rfl, hbl, hLR, M⟩
    have M : Sep w00 ((bal1, .cells (opC o (.slice pdv o.d.length cdv)).toArray 66 (0, 0)) :: (x.b, .cells [.int .i64 (i : Int), x.v, .int .i64 (c.n : Int), .func (.func (68)) #[ptr I.bs] #[], .int .i64 (c.bg : Int), .int .i64 (c.dd : Int), strV (47 :: (fileP (hfL hls) i o.h) : List UInt8), .bool c.w].toArray 83 (0, 0)) :: (I.bs, .cells [.iface 30 (ptr m.bp), ptr m.lk.bl, m.cv, m.ov, .int .i64 (S.s : Int)].toArray 77 (0, 0)) :: (m.bp, .cells [m.u, m.hv].toArray 39 (0, 0)) :: (lkB lk' ++ (m.oD ++ (R ++ (L ++ X))))) _ := M.perm (perm_c fun p => by simp only [List.countP_append, List.countP_cons, List.countP_nil]; omega)
    refine pnd ?_
    refine go 2 ?_
    intro wst9 M
    refine go 1 ?_
    have hlk : lockO o = true := by unfold lockO; simp [hco5]
    have hvi := hR.vi.askS (o := o) hc hst
    rw [askS_lock hlk (P := (fileP (hfL hls) i o.h)) (by rw [hhs])] at hvi ⊢
    have hM : VMR w00 L I { S with q := setQ S.q (47 :: (fileP (hfL hls) i o.h)) (askQ (S.q (47 :: (fileP (hfL hls) i o.h))) i (!decide (o.k = 2))).1, c := S.c.set i { c with key := 47 :: (fileP (hfL hls) i o.h), w := !(askQ (S.q (47 :: (fileP (hfL hls) i o.h))) i (!decide (o.k = 2))).2.1, st := 2 } } { m with lk := lk' } := hR.upd (i := i) (x := x) (x' := x) (c' := { c with key := 47 :: (fileP (hfL hls) i o.h), w := !(askQ (S.q (47 :: (fileP (hfL hls) i o.h))) i (!decide (o.k = 2))).2.1, st := 2 }) hx rfl (set_same hx) rfl rfl rfl (fun y hy => hy) hLR (by show OpsK w00 L x.v c.l; rw [hl]; exact hops) hR.oo hR.os hR.od hR.fs hR.hs hvi
    have M2 : Sep w00 (cBk I.bs i { c with key := 47 :: (fileP (hfL hls) i o.h), w := !(askQ (S.q (47 :: (fileP (hfL hls) i o.h))) i (!decide (o.k = 2))).2.1, st := 2 } x :: sysB I { m with lk := lk' } S.s :: plnB m :: (lkB lk' ++ (m.oD ++ (R ++ (L ++ X))))) wst9 := by unfold sysB; simp only [hbl]; exact M.tail
    exact ⟨rfl, VfW.shut hM (hback _ { m with lk := lk' } { c with key := 47 :: (fileP (hfL hls) i o.h), w := !(askQ (S.q (47 :: (fileP (hfL hls) i o.h))) i (!decide (o.k = 2))).2.1, st := 2 } x rfl (set_same hx) rfl) M2⟩
   ·intro hco5
    refine go 1 ?_
    have hlk : lockO o = false := by unfold lockO; simp [hco1, hco3, hco5]
    have hvi := hR.vi.askS (o := o) hc hst
    rw [askS_no hlk] at hvi ⊢
    have hM : VMR w00 L I { S with c := S.c.set i { c with key := [], st := 2 } } m := hR.upd (i := i) (x := x) (x' := x) (c' := { c with key := [], st := 2 }) hx rfl (set_same hx) rfl rfl rfl (fun y hy => hy) hR.lk (by show OpsK w00 L x.v c.l; rw [hl]; exact hops) hR.oo hR.os hR.od hR.fs hR.hs hvi
    exact ⟨rfl, VfW.shut hM (hback _ m { c with key := [], st := 2 } x rfl (set_same hx) rfl) M.tail⟩

end Go.Proofs.Ytebfjdolgchgaaa

namespace Go.Proofs.Ytebfjdolgchgaaa
open Go Go.Fw Go.RowKit
set_option linter.unusedVariables false
set_option linter.unusedSimpArgs false

theorem fill_did {a b c d e1 e2 e3 : Int} {e4 e5 : Value} :
  Instr.fill (fun i => ([(0, 1), (1, 1), (2, 1), (3, 1), (4, 5)] : List (Nat × Nat))[i]?) (List.toArray [.int .i64 0, .int .i64 0, .int .i64 0, .int .i64 0, .int .i64 0, .int .i64 0, .int .i64 0, .slice none 0 0, .slice none 0 0]) [(0, .int .i64 a), (1, .int .i64 b), (2, .int .i64 c), (3, .int .i64 d), (4, .agg #[.int .i64 e1, .int .i64 e2, .int .i64 e3, e4, e5])] = some (List.toArray [.int .i64 a, .int .i64 b, .int .i64 c, .int .i64 d, .int .i64 e1, .int .i64 e2, .int .i64 e3, e4, e5]) := by
 first | (simp [Instr.fill, Value.cells]; done) | kernel_rfl
end Go.Proofs.Ytebfjdolgchgaaa

namespace Go.Proofs.Ytebfjdolgchgaaa
open Go Go.Fw Go.RowKit Go.Proofs
set_option linter.unusedVariables false
set_option linter.unusedSimpArgs false
set_option maxRecDepth 100000
set_option maxHeartbeats 4000000

-- (*valise/vfs.Sys).commit
theorem vcommit_c {w00 w0 : World} {X : List (Nat × Obj)} {I : VfI} {S : VS} {i b : Nat} {c : Cl} {o : OpS} {r : List OpS} (M : VfW w00 X I S w0) (hc : S.c[i]? = some c) (hl : c.l = o :: r) (hcb : I.cb[i]? = some b) (hst : c.st = 2) (hod : o.d.length ≤ 131072) (ho : S.o.length ≤ 100000) : Ret Try.prog 68 #[ptr I.bs, ptr b] w0 fun rr w' => rr = .tuple #[] ∧ VfW w00 X I { commitS S i c o with s := S.s } w' := by
 obtain ⟨m, L, hR, M⟩ := M
 obtain ⟨x, R, hx, hxb, hops, hperm, hback⟩ := hR.out hc
 rw [hcb] at hxb
 simp only [Option.some.injEq] at hxb
 subst hxb
 rw [hl] at hops
 have hi8 : (i : Int) < 8 := by have := hR.vi.le; have := (List.getElem?_eq_some_iff.1 hc).1; omega
 have M : Sep w00 ((x.b, .cells [.int .i64 (i : Int), x.v, .int .i64 (c.n : Int), .func (.func (nextF c.st)) #[ptr I.bs] #[], .int .i64 (c.bg : Int), .int .i64 (c.dd : Int), strV c.key, .bool c.w].toArray 83 (0, 0)) :: (I.bs, .cells [.iface 30 (ptr m.bp), ptr m.lk.bl, m.cv, m.ov, .int .i64 (S.s : Int)].toArray 77 (0, 0)) :: (m.bp, .cells [m.u, m.hv].toArray 39 (0, 0)) :: (lkB m.lk ++ (m.oD ++ (R ++ (L ++ X))))) w0 := M.perm (List.Perm.trans (List.perm_append_comm.trans ((hperm.append_right L).append_right X)) (by simp only [cBk, cCs, sysB, plnB, List.append_assoc, List.cons_append]; exact List.Perm.refl _))
 obtain ⟨hls, hhs, hO, hI⟩ := hR.hs
 have hol : m.oR.length = S.o.length := by rw [← hR.oo, List.length_map]
 have hos := hR.os
 rw [hol] at hos
 obtain ⟨po, co, hov⟩ := hos.shape
 rw [hov] at M hos
 refine Ret.of_W Try.func68 rfl Try.ntmps68 rfl ?_
 refine go 2 ?_
 refine x_st [_] _ rfl rfl rfl sz3 rfl rfl rfl rfl atM rfl rfl rfl ?_
 intro wst1 hwst1
 have M : Sep w00 ((x.b, .cells [.int .i64 (i : Int), x.v, .int .i64 (c.n : Int), .func (.func (nextF c.st)) #[ptr I.bs] #[], .int .i64 (c.bg : Int), .int .i64 (S.o.length : Int), strV c.key, .bool c.w].toArray 83 (0, 0)) :: (I.bs, .cells [.iface 30 (ptr m.bp), ptr m.lk.bl, m.cv, .slice po S.o.length co, .int .i64 (S.s : Int)].toArray 77 (0, 0)) :: (m.bp, .cells [m.u, m.hv].toArray 39 (0, 0)) :: (lkB m.lk ++ (m.oD ++ (R ++ (L ++ X))))) wst1 := M.put 0 rfl hwst1
 refine ⟨trivial, ?_⟩
 refine go 0 ?_
 refine W.regD (by kernel_rfl) #[0, 0, 2, 6, 14, 0, 32, 96, 224, 0, 512, 1536, 3584, 0, 8192, 24576, 57344, 0, 131072, 393216, 917504, 0, 2097152, 6291456, 14680064, 0, 33554432, 1966080, 136183808, 536739840, 1073741792, 2147483616, 4294967294, 8589934591, 17179869183, 34359738367] [(0, false), (1, false), (2, false), (3, false), (4, false), (5, false), (6, false), (7, false), (8, false), (9, false), (10, false), (11, false), (12, false), (13, false), (14, false), (15, false), (16, false), (17, false), (18, false), (19, false), (20, false), (21, false), (22, false), (23, false), (24, false), (25, false), (27, false), (28, false), (26, true), (29, true), (30, false), (31, true), (32, true), (33, false), (34, false), (35, true)] (by kernel_rfl) ?_
 intro K wD1 hK hwD1
 have M := M.drew hwD1
 refine go 6 ?_
 refine x_call rfl rfl rfl rfl rfl en44 (cop_c (L := L) (v := x.v) M (fun y hy => by simp [hy]) (M.at_ 0 rfl) rfl hops) ?_
 rintro r_ wcall1 ⟨dv, rfl, hdv, hn1⟩
 have M := M.new hn1
 refine pnd ?_
 refine x_inv rfl rfl rfl rfl rfl (by kernel_rfl : methOK Try.prog 30 "Do" 112 = true) en112 (pdo_c (X := (x.b, .cells [.int .i64 (i : Int), x.v, .int .i64 (c.n : Int), .func (.func (nextF c.st)) #[ptr I.bs] #[], .int .i64 (c.bg : Int), .int .i64 (S.o.length : Int), strV c.key, .bool c.w].toArray 83 (0, 0)) :: (I.bs, .cells [.iface 30 (ptr m.bp), ptr m.lk.bl, m.cv, .slice po S.o.length co, .int .i64 (S.s : Int)].toArray 77 (0, 0)) :: (lkB m.lk ++ (m.oD ++ (R ++ X)))) (M.perm (perm_c fun p => by simp only [List.countP_append, List.countP_cons, List.countP_nil]; omega)) hR.fs hO hI (by have := hI.hlen; omega) hdv hod) ?_
 rintro r_ w2_ ⟨u1, hv1, hl1, L1, hrs, hF1, hO1, hI1, hh1, M⟩
 rw [hhs] at hrs hF1 hI1 hh1
 generalize hRS : (doS S.f S.h (i : Int) o).1 = rs at hrs
 obtain ⟨q1, k1, q2, k2, rfl, hr4, hr5⟩ := hrs
 have M : Sep w00 ((x.b, .cells [.int .i64 (i : Int), x.v, .int .i64 (c.n : Int), .func (.func (nextF c.st)) #[ptr I.bs] #[], .int .i64 (c.bg : Int), .int .i64 (S.o.length : Int), strV c.key, .bool c.w].toArray 83 (0, 0)) :: (I.bs, .cells [.iface 30 (ptr m.bp), ptr m.lk.bl, m.cv, .slice po S.o.length co, .int .i64 (S.s : Int)].toArray 77 (0, 0)) :: (m.bp, .cells [u1, hv1].toArray 39 (0, 0)) :: (lkB m.lk ++ (m.oD ++ (R ++ ((L ++ L1) ++ X))))) _ := M.perm (perm_c fun p => by simp only [List.countP_append, List.countP_cons, List.countP_nil]; omega)
 refine pnd ?_
 refine x_build [.int .i64 (i : Int), .int .i64 (c.n : Int), .int .i64 (c.bg : Int), .int .i64 (-1), .int .i64 rs.e, .int .i64 rs.h, .int .i64 rs.n, .slice q1 rs.d.length k1, .slice q2 rs.l.length k2] rfl rfl rfl pl61 ze61 rfl rfl fill_did ?_
 refine x_bs1 (cs := [.int .i64 (i : Int), .int .i64 (c.n : Int), .int .i64 (c.bg : Int), .int .i64 (-1), .int .i64 rs.e, .int .i64 rs.h, .int .i64 rs.n, .slice q1 rs.d.length k1, .slice q2 rs.l.length k2]) rfl rfl rfl Try.underlying44 sz61 ze61 (Z := [_, _, _, _, _, _, _, _, _]) rfl rfl (by decide) (by decide) rfl rfl rfl ?_
 intro bbs1 wbs1 hbbs1 hwbs1
 have M0 := M.acons hbbs1 hwbs1
 have hslbs1 : Sl wbs1 (.slice (some ⟨bbs1, 0, none⟩) 1 1) 9 1 [.int .i64 (i : Int), .int .i64 (c.n : Int), .int .i64 (c.bg : Int), .int .i64 (-1), .int .i64 rs.e, .int .i64 rs.h, .int .i64 rs.n, .slice q1 rs.d.length k1, .slice q2 rs.l.length k2] := .inr ⟨bbs1, 0, 1, _, _, _, rfl, by omega, M0.at_ 0 rfl, rfl, rfl⟩
 have M := M0.tail
 refine pnd ?_
 have M : Sep w00 (m.oD ++ ((x.b, .cells [.int .i64 (i : Int), x.v, .int .i64 (c.n : Int), .func (.func (nextF c.st)) #[ptr I.bs] #[], .int .i64 (c.bg : Int), .int .i64 (S.o.length : Int), strV c.key, .bool c.w].toArray 83 (0, 0)) :: (I.bs, .cells [.iface 30 (ptr m.bp), ptr m.lk.bl, m.cv, .slice po S.o.length co, .int .i64 (S.s : Int)].toArray 77 (0, 0)) :: (m.bp, .cells [u1, hv1].toArray 39 (0, 0)) :: (lkB m.lk ++ (R ++ ((L ++ L1) ++ X))))) _ := M.perm (perm_c fun p => by simp only [List.countP_append, List.countP_cons, List.countP_nil]; omega)
 refine x_apL rfl rfl rfl rfl Try.underlying44 sz61 ze61 rfl by61 rfl rfl hos M (ddCs_one hR.od) (hslbs1.src Try.underlying44 (by intro u hu; simp only [List.mem_cons, List.not_mem_nil, or_false] at hu; rcases hu with rfl | rfl | rfl | rfl | rfl | rfl | rfl | rfl | rfl <;> rfl)) (by omega) (by decide) (by omega) ?_
 intro Lo v6 wap1 how M
 have M : Sep w00 ((x.b, .cells [.int .i64 (i : Int), x.v, .int .i64 (c.n : Int), .func (.func (nextF c.st)) #[ptr I.bs] #[], .int .i64 (c.bg : Int), .int .i64 (S.o.length : Int), strV c.key, .bool c.w].toArray 83 (0, 0)) :: (I.bs, .cells [.iface 30 (ptr m.bp), ptr m.lk.bl, m.cv, .slice po S.o.length co, .int .i64 (S.s : Int)].toArray 77 (0, 0)) :: (m.bp, .cells [u1, hv1].toArray 39 (0, 0)) :: (lkB m.lk ++ (Lo ++ (R ++ ((L ++ L1) ++ X))))) _ := M.perm (perm_c fun p => by simp only [List.countP_append, List.countP_cons, List.countP_nil]; omega)
 obtain ⟨p6, c6, rfl⟩ := how.shape
 refine pnd ?_
 refine go 0 ?_
 refine x_st [_] _ rfl rfl rfl sz44 rfl rfl rfl rfl atM rfl rfl rfl ?_
 intro wst2 hwst2
 have M : Sep w00 ((x.b, .cells [.int .i64 (i : Int), x.v, .int .i64 (c.n : Int), .func (.func (nextF c.st)) #[ptr I.bs] #[], .int .i64 (c.bg : Int), .int .i64 (S.o.length : Int), strV c.key, .bool c.w].toArray 83 (0, 0)) :: (I.bs, .cells [.iface 30 (ptr m.bp), ptr m.lk.bl, m.cv, .slice p6 (S.o.length + 1) c6, .int .i64 (S.s : Int)].toArray 77 (0, 0)) :: (m.bp, .cells [u1, hv1].toArray 39 (0, 0)) :: (lkB m.lk ++ (Lo ++ (R ++ ((L ++ L1) ++ X))))) wst2 := M.put 1 rfl hwst2
 refine pnd ?_
 refine go 1 ?_
 refine x_st [_] _ rfl rfl rfl sz81 rfl rfl rfl rfl atM rfl rfl rfl ?_
 intro wst3 hwst3
 have M : Sep w00 ((x.b, .cells [.int .i64 (i : Int), x.v, .int .i64 (c.n : Int), .func (.func (86)) #[ptr I.bs] #[], .int .i64 (c.bg : Int), .int .i64 (S.o.length : Int), strV c.key, .bool c.w].toArray 83 (0, 0)) :: (I.bs, .cells [.iface 30 (ptr m.bp), ptr m.lk.bl, m.cv, .slice p6 (S.o.length + 1) c6, .int .i64 (S.s : Int)].toArray 77 (0, 0)) :: (m.bp, .cells [u1, hv1].toArray 39 (0, 0)) :: (lkB m.lk ++ (Lo ++ (R ++ ((L ++ L1) ++ X))))) wst3 := M.put 0 rfl hwst3
 refine ⟨trivial, ?_⟩
 refine go 1 ?_
 have hvi := hR.vi.commitS (o := o) hc hst
 have hM : VMR w00 (L ++ L1) I { commitS S i c o with s := S.s } { m with ov := .slice p6 (S.o.length + 1) c6, oD := Lo, oR := m.oR ++ [((⟨(i : Int), c.n, c.bg, -1, rs⟩, .slice q1 rs.d.length k1, .slice q2 rs.l.length k2) : DdV)], u := u1, hv := hv1 } := hR.upd (i := i) (x := x) (x' := x) (c' := { c with dd := S.o.length, st := 3 }) hx rfl (set_same hx) rfl rfl rfl (fun y hy => List.mem_append_left _ hy) hR.lk (by show OpsK w00 (L ++ L1) x.v c.l; rw [hl]; exact hops.mono fun y hy => List.mem_append_left _ hy)
  (by show (m.oR ++ [_]).map _ = S.o ++ [⟨(i : Int), c.n, c.bg, -1, (doS S.f S.h (i : Int) o).1⟩]; rw [List.map_append, hR.oo, hRS]; rfl) (by show OwL Lo _ 9 (m.oR ++ [_]).length (ddCs (m.oR ++ [_])); rw [List.length_append, hol, ddCs_app]; exact how)
  (fun y hy => by
   rcases List.mem_append.1 hy with h | h
   ·exact (hR.od y h).mono fun z hz => List.mem_append_left _ hz
   ·obtain rfl := List.mem_singleton.1 h
    exact ⟨q1, k1, q2, k2, rfl, hr4, hr5⟩) hF1 ⟨hl1, hh1, hO1, hI1⟩ hvi
 have M2 : Sep w00 (cBk I.bs i { c with dd := S.o.length, st := 3 } x :: sysB I { m with ov := .slice p6 (S.o.length + 1) c6, oD := Lo, oR := m.oR ++ [((⟨(i : Int), c.n, c.bg, -1, rs⟩, .slice q1 rs.d.length k1, .slice q2 rs.l.length k2) : DdV)], u := u1, hv := hv1 } S.s :: plnB { m with ov := .slice p6 (S.o.length + 1) c6, oD := Lo, oR := m.oR ++ [((⟨(i : Int), c.n, c.bg, -1, rs⟩, .slice q1 rs.d.length k1, .slice q2 rs.l.length k2) : DdV)], u := u1, hv := hv1 } :: (lkB m.lk ++ (Lo ++ (R ++ ((L ++ L1) ++ X))))) wst3 := M
 exact ⟨rfl, VfW.shut hM (hback _ { m with ov := .slice p6 (S.o.length + 1) c6, oD := Lo, oR := m.oR ++ [((⟨(i : Int), c.n, c.bg, -1, rs⟩, .slice q1 rs.d.length k1, .slice q2 rs.l.length k2) : DdV)], u := u1, hv := hv1 } { c with dd := S.o.length, st := 3 } x rfl (set_same hx) rfl) M2⟩

end Go.Proofs.Ytebfjdolgchgaaa

namespace Go.Proofs.Ytebfjdolgchgaaa
open Go Go.Fw Go.RowKit
set_option linter.unusedVariables false
set_option linter.unusedSimpArgs false

def freeJ (S : VS) (i : Nat) (key : List UInt8) (j : Nat) : VS := { S with q := setQ S.q key (freeQ (S.q key) i).1, c := wakeC S.c ((freeQ (S.q key) i).2.1.take j) }
section
variable {S : VS} {i j k : Nat} {c : Cl} {key : List UInt8} {z : Int} {cs : List Cl} {nw : List Int}
theorem freeJ_all : freeJ S i key (freeQ (S.q key) i).2.1.length = freeV S i key := by unfold freeJ freeV; rw [List.take_length]
theorem modify_set {α : Type} {l : List α} {f : α → α} {a : α} (h : l[k]? = some a) : l.modify k f = l.set k (f a) := by
 apply List.ext_getElem?
 intro n
 rw [List.getElem?_modify, List.getElem?_set]
 by_cases e : k = n
 ·subst e
  obtain ⟨h1, h2⟩ := List.getElem?_eq_some_iff.1 h
  simp [h1, h2]
 ·simp [e]
theorem wakeC_snoc {z : Int} : wakeC cs (nw ++ [z]) = (wakeC cs nw).modify z.toNat fun c => { c with w := false } := by unfold wakeC; rw [List.foldl_append]; rfl
theorem wake_set (hz : nw[j]? = some (k : Int)) (hc : (wakeC cs (nw.take j))[k]? = some c) : wakeC cs (nw.take (j + 1)) = (wakeC cs (nw.take j)).set k { c with w := false } := by
 rw [List.take_add_one, hz, Option.toList_some, wakeC_snoc, Int.toNat_natCast, modify_set hc]
theorem VI.freeJ (hI : VI S) : VI (freeJ S i key j) := by
 obtain ⟨h1, h2⟩ := hI.setq (key := key) (hI.qi key).free (fun a ha => hI.wh key a (free_mem (who := i) ha))
 refine ⟨h1, fun k a ha => ?_, fun c hc hs => ?_, fun c hc => ?_, ?_⟩
 ·simp only [Go.Proofs.Ytebfjdolgchgaaa.freeJ, wakeC_len]; exact h2 k a ha
 ·obtain ⟨d, hd, h | h⟩ := wakeC_mem hc
  ·subst h; exact hI.dd c hd hs
  ·subst h; exact hI.dd d hd hs
 ·obtain ⟨d, hd, h | h⟩ := wakeC_mem hc
  ·subst h; exact hI.st c hd
  ·subst h; exact hI.st d hd
 ·simp only [Go.Proofs.Ytebfjdolgchgaaa.freeJ, wakeC_len]; exact hI.le
theorem VI.nowK (hI : VI S) (h : z ∈ (freeQ (S.q key) i).2.1) : ∃ k : Nat, z = (k : Int) ∧ k < S.c.length := by
 obtain ⟨a, ha, rfl⟩ := free_now h
 obtain ⟨h1, h2⟩ := hI.wh key a (List.mem_append_right _ ha)
 exact ⟨a.1.toNat, (Int.toNat_of_nonneg h1).symm, by omega⟩
theorem VI.nowLen (hI : VI S) : (freeQ (S.q key) i).2.1.length ≤ 1000 := by
 refine Nat.le_trans ?_ (hI.qlen key).2
 unfold freeQ
 split
 ·obtain ⟨m, _, _, h3⟩ := grant_all (w := (S.q key).2) (h := dropQ (S.q key).1 i) (now := [])
  simp only [h3, List.nil_append, List.length_map, List.length_take]
  omega
 ·exact Nat.zero_le _
theorem freeJ_len : (freeJ S i key j).c.length = S.c.length := by unfold freeJ; exact wakeC_len _ _
theorem wakeC_at (h : cs[k]? = some c) : ∃ b, (wakeC cs nw)[k]? = some { c with w := b } := by
 unfold wakeC
 induction nw generalizing cs c with
 | nil => exact ⟨c.w, h⟩
 | cons z nw ih =>
  rw [List.foldl_cons]
  by_cases e : z.toNat = k
  ·obtain ⟨b, hb⟩ := ih (cs := cs.modify z.toNat fun c => { c with w := false }) (c := { c with w := false }) (by rw [List.getElem?_modify, e, h]; simp)
   exact ⟨b, hb⟩
  ·exact ih (cs := cs.modify z.toNat fun c => { c with w := false }) (by rw [List.getElem?_modify, h]; simp [e])
end
end Go.Proofs.Ytebfjdolgchgaaa

namespace Go.Proofs.Ytebfjdolgchgaaa
open Go Go.Fw Go.RowKit Go.Proofs
set_option linter.unusedVariables false
set_option linter.unusedSimpArgs false
set_option maxRecDepth 100000
set_option maxHeartbeats 4000000

-- (*valise/vfs.Sys).free
theorem vfree_c {w00 w0 : World} {X : List (Nat × Obj)} {I : VfI} {S : VS} {i b : Nat} {c : Cl} {key : List UInt8} (M : VfW w00 X I S w0) (hc : S.c[i]? = some c) (hcb : I.cb[i]? = some b) : Ret Try.prog 90 #[ptr I.bs, ptr b, strV key] w0 fun rr w' => rr = .tuple #[] ∧ VfW w00 X I (freeV S i key) w' := by
 obtain ⟨m, L, hR, M⟩ := M
 obtain ⟨x, R, hx, hxb, hops, hperm, hback⟩ := hR.out hc
 rw [hcb] at hxb
 simp only [Option.some.injEq] at hxb
 subst hxb
 have hi8 : (i : Int) < 8 := by have := hR.vi.le; have := (List.getElem?_eq_some_iff.1 hc).1; omega
 have M : Sep w00 ((x.b, .cells [.int .i64 (i : Int), x.v, .int .i64 (c.n : Int), .func (.func (nextF c.st)) #[ptr I.bs] #[], .int .i64 (c.bg : Int), .int .i64 (c.dd : Int), strV c.key, .bool c.w].toArray 83 (0, 0)) :: (I.bs, .cells [.iface 30 (ptr m.bp), ptr m.lk.bl, m.cv, m.ov, .int .i64 (S.s : Int)].toArray 77 (0, 0)) :: (m.bp, .cells [m.u, m.hv].toArray 39 (0, 0)) :: (lkB m.lk ++ (m.oD ++ (R ++ (L ++ X))))) w0 := M.perm (List.Perm.trans (List.perm_append_comm.trans ((hperm.append_right L).append_right X)) (by simp only [cBk, cCs, sysB, plnB, List.append_assoc, List.cons_append]; exact List.Perm.refl _))
 have hvi := hR.vi
 have hnl := hvi.nowLen (i := i) (key := key)
 refine Ret.of_W Try.func90 rfl Try.ntmps90 rfl ?_
 refine go 0 ?_
 refine W.regD (by kernel_rfl) #[0, 1, 3, 7, 0, 16, 48, 112, 0, 511, 1023, 2047, 2047, 4095, 16383] [(0, false), (1, false), (2, false), (3, false), (4, false), (5, false), (6, false), (7, false), (8, false), (9, true), (10, false), (11, false), (12, false), (13, false), (14, false)] (by kernel_rfl) ?_
 intro K wD1 hK hwD1
 have M := M.drew hwD1
 refine go 2 ?_
 refine x_call rfl rfl rfl rfl rfl en93 (lfree_c (key := key) (M.perm (show List.Perm _ (lkB m.lk ++ ((x.b, .cells [.int .i64 (i : Int), x.v, .int .i64 (c.n : Int), .func (.func (nextF c.st)) #[ptr I.bs] #[], .int .i64 (c.bg : Int), .int .i64 (c.dd : Int), strV c.key, .bool c.w].toArray 83 (0, 0)) :: (I.bs, .cells [.iface 30 (ptr m.bp), ptr m.lk.bl, m.cv, m.ov, .int .i64 (S.s : Int)].toArray 77 (0, 0)) :: (m.bp, .cells [m.u, m.hv].toArray 39 (0, 0)) :: (m.oD ++ (R ++ (L ++ X))))) from (perm_c fun p => by simp only [List.countP_append, List.countP_cons, List.countP_nil]; omega))) hR.lk (hR.vi.qi _) (hR.vi.qlen _).1 (hR.vi.qlen _).2 (by omega) hi8) ?_
 rintro r_ wcall1 ⟨lk', e_, nv, Lv, rfl, hnv, hbl, hLR, M⟩
 obtain ⟨pn, cn, rfl⟩ := hnv.shape
 have hM : VMR w00 L I (freeJ S i key 0) { m with lk := lk' } := hR.upd (i := i) (x := x) (x' := x) (c' := c) hx (by unfold freeJ; rw [List.take_zero]; exact set_same hc) (set_same hx) rfl rfl rfl (fun y hy => hy) hLR hops hR.oo hR.os hR.od hR.fs hR.hs hvi.freeJ
 have M2 : Sep w00 (cBk I.bs i c x :: sysB I { m with lk := lk' } S.s :: plnB m :: (lkB lk' ++ (m.oD ++ (R ++ (L ++ (Lv ++ X)))))) wcall1 := by
  have M3 : Sep w00 ((x.b, .cells [.int .i64 (i : Int), x.v, .int .i64 (c.n : Int), .func (.func (nextF c.st)) #[ptr I.bs] #[], .int .i64 (c.bg : Int), .int .i64 (c.dd : Int), strV c.key, .bool c.w].toArray 83 (0, 0)) :: (I.bs, .cells [.iface 30 (ptr m.bp), ptr m.lk.bl, m.cv, m.ov, .int .i64 (S.s : Int)].toArray 77 (0, 0)) :: (m.bp, .cells [m.u, m.hv].toArray 39 (0, 0)) :: (lkB lk' ++ (m.oD ++ (R ++ (L ++ (Lv ++ X)))))) wcall1 := M.perm (perm_c fun p => by simp only [List.countP_append, List.countP_cons, List.countP_nil]; omega)
  unfold sysB; simp only [hbl]; exact M3
 have hV : VfW w00 (Lv ++ X) I (freeJ S i key 0) wcall1 := VfW.shut hM (hback _ { m with lk := lk' } c x (by unfold freeJ; rw [List.take_zero]; exact set_same hc) (set_same hx) rfl) M2
 clear M M2 hM
 refine pnd ?_
 refine go 1 ?_
 refine W.loop (σ := Nat) (fun j => [(0, _), (23, _), (24, _), (25, .int .i64 ((j : Nat) : Int))]) (fun j w => j ≤ (freeQ (S.q key) i).2.1.length ∧ VfW w00 (Lv ++ X) I (freeJ S i key j) w) (fun j => (freeQ (S.q key) i).2.1.length - j) 0 ⟨rfl, rfl, rfl, rfl, trivial⟩ ⟨Nat.zero_le _, hV⟩ ?_
 rintro j w ⟨hj, hV⟩
 refine cnd 1 ?_ ?_
 ·intro hco1
  obtain ⟨z, hz⟩ := get_lt (l := (freeQ (S.q key) i).2.1) (q := j) (by omega)
  obtain ⟨k, rfl, hk⟩ := hvi.nowK (List.mem_of_getElem? hz)
  have hslv := (hnv.sl (by decide)).at_ hV.sep (fun y hy => List.mem_append_left _ hy)
  obtain ⟨bb, off, cap2, e2⟩ := Sl.blk' hslv (by omega)
  cases e2
  have hcell := Sl.cell1 hslv (show (zInts (freeQ (S.q key) i).2.1)[j]? = some (.int .i64 (k : Int)) by unfold zInts; rw [List.getElem?_map, hz]; rfl)
  obtain ⟨ck, hck⟩ := get_lt (l := (freeJ S i key j).c) (q := k) (by rw [freeJ_len]; exact hk)
  obtain ⟨m, L, hR, M⟩ := hV
  obtain ⟨x, R, hx, hxb, hops, hperm, hback⟩ := hR.out hck
  have hsc := (hR.cs.sl (by decide)).at_ M (fun y hy => by simp [vmB, hy])
  obtain ⟨b5, off5, cap5, hcv⟩ := Sl.blk' hsc (by rw [freeJ_len]; omega)
  rw [hcv] at hsc
  have hcell2 := Sl.cell1 hsc (show (I.cb.map ptr)[k]? = some (ptr x.b) by rw [List.getElem?_map, hxb]; rfl)
  have hlen8 : (freeJ S i key j).c.length ≤ 8 := by rw [freeJ_len]; exact hvi.le
  have hkl : k < (freeJ S i key j).c.length := by rw [freeJ_len]; exact hk
  have M : Sep w00 ((x.b, .cells [.int .i64 (k : Int), x.v, .int .i64 (ck.n : Int), .func (.func (nextF ck.st)) #[ptr I.bs] #[], .int .i64 (ck.bg : Int), .int .i64 (ck.dd : Int), strV ck.key, .bool ck.w].toArray 83 (0, 0)) :: (I.bs, .cells [.iface 30 (ptr m.bp), ptr m.lk.bl, .slice (some ⟨b5, off5, none⟩) (freeJ S i key j).c.length cap5, m.ov, .int .i64 (S.s : Int)].toArray 77 (0, 0)) :: (m.bp, .cells [m.u, m.hv].toArray 39 (0, 0)) :: (lkB m.lk ++ (m.oD ++ (R ++ (L ++ (Lv ++ X)))))) w := by
   have e : sysB I m (freeJ S i key j).s = (I.bs, .cells [.iface 30 (ptr m.bp), ptr m.lk.bl, .slice (some ⟨b5, off5, none⟩) (freeJ S i key j).c.length cap5, m.ov, .int .i64 (S.s : Int)].toArray 77 (0, 0)) := by unfold sysB; rw [hcv]; rfl
   rw [← e]
   exact M.perm (List.Perm.trans (List.perm_append_comm.trans ((hperm.append_right L).append_right (Lv ++ X))) (by simp only [cBk, cCs, plnB, List.append_assoc, List.cons_append]; exact List.Perm.refl _))
  refine go 0 ?_
  refine x_ia j rfl rfl rfl Try.underlying23 sz3 rfl rfl rfl (by omega) ?_
  refine x_ld rfl rfl rfl Try.underlying3 rfl rfl hcell ?_
  refine go 1 ?_
  refine x_ia k rfl rfl rfl Try.underlying75 sz80 rfl rfl rfl (by omega) ?_
  refine x_ld rfl rfl rfl Try.underlying80 rfl rfl hcell2 ?_
  refine go 0 ?_
  refine x_st [_] _ rfl rfl rfl sz4 rfl rfl rfl rfl atM rfl rfl rfl ?_
  intro wst1 hwst1
  have M : Sep w00 ((x.b, .cells [.int .i64 (k : Int), x.v, .int .i64 (ck.n : Int), .func (.func (nextF ck.st)) #[ptr I.bs] #[], .int .i64 (ck.bg : Int), .int .i64 (ck.dd : Int), strV ck.key, .bool false].toArray 83 (0, 0)) :: (I.bs, .cells [.iface 30 (ptr m.bp), ptr m.lk.bl, .slice (some ⟨b5, off5, none⟩) (freeJ S i key j).c.length cap5, m.ov, .int .i64 (S.s : Int)].toArray 77 (0, 0)) :: (m.bp, .cells [m.u, m.hv].toArray 39 (0, 0)) :: (lkB m.lk ++ (m.oD ++ (R ++ (L ++ (Lv ++ X)))))) wst1 := M.put 0 rfl hwst1
  have hcS : (freeJ S i key (j + 1)).c = (freeJ S i key j).c.set k { ck with w := false } := wake_set hz hck
  have hM : VMR w00 L I (freeJ S i key (j + 1)) m := hR.upd (i := k) (x := x) (x' := x) (c' := { ck with w := false }) hx hcS (set_same hx) rfl rfl rfl (fun y hy => hy) hR.lk hops hR.oo hR.os hR.od hR.fs hR.hs hvi.freeJ
  have hV : VfW w00 (Lv ++ X) I (freeJ S i key (j + 1)) wst1 := VfW.shut hM (hback _ m { ck with w := false } x hcS (set_same hx) rfl) (by unfold sysB; rw [hcv]; exact M)
  refine ⟨trivial, ?_⟩
  refine go 0 ?_
  refine x_add _ rfl rfl rfl rfl rfl (wadd (by omega) (by omega)) ?_
  refine go 0 ?_
  exact At.back (j + 1) ⟨rfl, rfl, rfl, rfl, trivial⟩ ⟨by omega, hV⟩ (by first | omega | (simp only; omega) | (simp; done) | (simp; omega))
 ·intro hco1
  refine go 1 ?_
  have hj2 : j = (freeQ (S.q key) i).2.1.length := by omega
  subst hj2
  rw [freeJ_all] at hV
  exact ⟨rfl, hV.dropL⟩

end Go.Proofs.Ytebfjdolgchgaaa

namespace Go.Proofs.Ytebfjdolgchgaaa
open Go Go.Fw Go.RowKit
set_option linter.unusedVariables false
set_option linter.unusedSimpArgs false
section
variable {w00 w0 w : World} {X Y L L' : List (Nat × Obj)} {I : VfI} {S : VS} {m : VM} {i j b : Nat} {c c' : Cl}
theorem VfW.cl (M : VfW w00 X I S w) (hc : S.c[i]? = some c) (hcb : I.cb[i]? = some b) : ∃ v p cap, v = .slice p c.l.length cap ∧ w.heap[b]? = some (.cells (cCs I.bs i c v).toArray 83 (0, 0)) := by
 obtain ⟨m, L, hR, M⟩ := M
 obtain ⟨x, R, hx, hxb, hops, hperm, hback⟩ := hR.out hc
 rw [hcb] at hxb
 simp only [Option.some.injEq] at hxb
 subst hxb
 obtain ⟨RR, h1, h2, h3⟩ := hops
 obtain ⟨p, cap, h4⟩ := (h2 _ _ M (fun y hy => by simp [hy])).shape
 exact ⟨x.v, p, cap, h4, M.get (b := x.b) (o := .cells (cCs I.bs i c x.v).toArray 83 (0, 0)) (List.mem_append_right _ (List.mem_append_left _ (hperm.mem_iff.2 List.mem_cons_self)))⟩
theorem VfW.keyC (M : VfW w00 X I S w) (hc : S.c[i]? = some c) (hcb : I.cb[i]? = some b) : w.cell? ⟨b, 6, none⟩ = some (strV c.key) := by
 obtain ⟨v, _, _, _, h⟩ := M.cl hc hcb
 exact cell_of h rfl
section
variable {w : World} {p : Option Addr} {cap m n j : Nat} {cs : List Value}
theorem Sg.dropp (h : Sg w (.slice p n cap) m n cs) (hj : j ≤ n) : Sg w (.slice (if cap = j then p else p.map (·.add (j * m))) (n - j) (cap - j)) m (n - j) (cs.drop (j * m)) := by
 rcases h with ⟨h1, h2, _⟩ | h
 ·have : j = 0 := by omega
  subst this; exact .inl ⟨by omega, by rw [h2]; simp, _, _, by rw [show n - 0 = 0 by omega]⟩
 ·exact .inr (Sl.drop h hj)
theorem Sg.capp (h : Sg w (.slice p n cap) m n cs) : n ≤ cap := by
 rcases h with ⟨h1, _⟩ | ⟨h1, _⟩ | ⟨b, off, cap', all, T, fr, h1, h2, _⟩
 ·omega
 ·cases h1; omega
 ·cases h1; exact h2
end
theorem OpsK.tail {v : Value} {o : OpS} {r : List OpS} (h : OpsK w00 L v (o :: r)) (M : Sep w00 X w) (hs : ∀ x ∈ L, x ∈ X) :
  ∃ p cap, v = .slice p (r.length + 1) cap ∧ r.length + 1 ≤ cap ∧ OpsK w00 L (.slice (if cap = 1 then p else p.map fun x => x.add (1 * 9)) r.length (cap - 1)) r := by
 obtain ⟨R, h1, h2, h3⟩ := h
 cases R with
 | nil => cases h1
 | cons y R =>
 simp only [List.map_cons, List.cons.injEq] at h1
 obtain ⟨rfl, rfl⟩ := h1
 have h5 := h2 _ _ M hs
 obtain ⟨p, cap, rfl⟩ := h5.shape
 simp only [List.length_cons, List.length_map] at h2 h5 ⊢
 refine ⟨p, cap, rfl, Sg.capp h5, R, rfl, fun w2 M2 hM2 hs2 => ?_, fun x hx => h3 x (List.mem_cons_of_mem _ hx)⟩
 have h6 := Sg.dropp (h2 _ _ hM2 hs2) (j := 1) (by omega)
 simp only [Nat.add_sub_cancel] at h6
 rw [List.length_map]
 have e : ((y :: R).flatMap fun x => opC x.1 x.2).drop (1 * 9) = R.flatMap fun x => opC x.1 x.2 := by
  rw [List.flatMap_cons]
  exact List.drop_left' rfl
 rw [e] at h6
 exact h6
def endD (s : Nat) (d : Dd) : Dd := { d with en := (s : Int) }
def endDV (s : Nat) (x : DdV) : DdV := (endD s x.1, x.2)
theorem ddCs_en {R : List DdV} {k s : Nat} {x : DdV} {rest : List Value} (h : R[k]? = some x) : (ddCs R ++ rest).take (0 + k * 9 + 3) ++ [.int .i64 (s : Int)] ++ (ddCs R ++ rest).drop (0 + k * 9 + 3 + 1) = ddCs (R.modify k (endDV s)) ++ rest := by
 rw [modify_set h]
 obtain ⟨hk, hx⟩ := List.getElem?_eq_some_iff.1 h
 have e : R = R.take k ++ x :: R.drop (k + 1) := by rw [← hx, ← List.drop_eq_getElem_cons hk, List.take_append_drop]
 have e2 : R.set k (endDV s x) = R.take k ++ endDV s x :: R.drop (k + 1) := List.set_eq_take_append_cons_drop ▸ (by rw [if_pos hk])
 have hl : (ddCs (R.take k)).length = k * 9 := by rw [ddCs_len, List.length_take]; omega
 have e3 : ddCs R = ddCs (R.take k) ++ (ddV x ++ ddCs (R.drop (k + 1))) := by
  conv => lhs; rw [e]
  rw [ddCs_app]; rfl
 have e4 : ddCs (R.set k (endDV s x)) = ddCs (R.take k) ++ (ddV (endDV s x) ++ ddCs (R.drop (k + 1))) := by rw [e2, ddCs_app]; rfl
 rw [e3, e4]
 simp only [List.append_assoc]
 rw [show 0 + k * 9 + 3 = (ddCs (R.take k)).length + 3 by omega, List.take_length_add_append, show (ddCs (R.take k)).length + 3 + 1 = (ddCs (R.take k)).length + 4 by omega, List.drop_length_add_append]
 obtain ⟨d, a, bb⟩ := x
 simp [ddV, ddR, endDV, endD]
theorem VI.endS {o : OpS} (h : VI S) (hc : S.c[i]? = some c) (hst : c.st = 3) : VI { endS S i c with s := S.s } := by
 have := (h.step (o := o) hc).s S.s
 unfold stepS at this
 rw [if_neg (by omega), if_neg (by omega), if_neg (by omega)] at this
 exact this
end
end Go.Proofs.Ytebfjdolgchgaaa

namespace Go.Proofs.Ytebfjdolgchgaaa
open Go Go.Fw Go.RowKit Go.Proofs
set_option linter.unusedVariables false
set_option linter.unusedSimpArgs false
set_option maxRecDepth 100000
set_option maxHeartbeats 4000000

-- (*valise/vfs.Sys).end
theorem vend_c {w00 w0 : World} {X : List (Nat × Obj)} {I : VfI} {S : VS} {i b : Nat} {c : Cl} {o : OpS} {r : List OpS} (M : VfW w00 X I S w0) (hc : S.c[i]? = some c) (hl : c.l = o :: r) (hcb : I.cb[i]? = some b) (hst : c.st = 3) (hn : c.n ≤ 100000) (ho : S.o.length ≤ 100000) : Ret Try.prog 86 #[ptr I.bs, ptr b] w0 fun rr w' => rr = .tuple #[] ∧ VfW w00 X I { endS S i c with s := S.s } w' := by
 have hvi0 := M.vi
 have hddi := hvi0.dd c (List.mem_of_getElem? hc) hst
 have hvE := hvi0.endS (o := o) hc hst
 refine Ret.of_W Try.func86 rfl Try.ntmps86 rfl ?_
 refine go 0 ?_
 refine x_ld rfl rfl rfl Try.underlying9 rfl rfl (M.keyC hc hcb) ?_
 refine cnd 1 ?_ ?_
 ·intro hco1
  refine go 0 ?_
  refine x_ld rfl rfl rfl Try.underlying9 rfl rfl (M.keyC hc hcb) ?_
  refine x_call rfl rfl rfl rfl rfl en90 (vfree_c M hc hcb) ?_
  rintro r_ wcall1 ⟨rfl, M⟩
  obtain ⟨w1_, hc1⟩ : ∃ w1_, (freeV S i c.key).c[i]? = some { c with w := w1_ } := wakeC_at hc
  refine ⟨trivial, ?_⟩
  refine go 0 ?_
  refine x_call rfl rfl rfl rfl rfl en90 (vfree_c M hc1 hcb) ?_
  rintro r_ wcall2 ⟨rfl, M⟩
  obtain ⟨w2_, hc2⟩ : ∃ w2_, (freeV (freeV S i c.key) i []).c[i]? = some { c with w := w2_ } := (by obtain ⟨b_, h_⟩ := wakeC_at (nw := (freeQ ((freeV S i c.key).q []) i).2.1) hc1; exact ⟨b_, h_⟩)
  rw [show freeV (freeV S i c.key) i [] = endV S i c by unfold endV; rw [if_neg hco1]] at M hc2
  obtain ⟨hEo, hEs, hEf, hEh⟩ := endV_o (S := S) (i := i) (c := c)
  obtain ⟨m, L, hR, M⟩ := M
  obtain ⟨x, R, hx, hxb, hops, hperm, hback⟩ := hR.out hc2
  rw [hcb] at hxb
  simp only [Option.some.injEq] at hxb
  subst hxb
  rw [show ({ c with w := w2_ } : Cl).l = o :: r from hl] at hops
  have hol : m.oR.length = S.o.length := by rw [← hEo, ← hR.oo, List.length_map]
  obtain ⟨y, hy⟩ := get_lt (l := m.oR) (q := c.dd) (by omega)
  have hos := hR.os
  obtain ⟨bo, co, ro, To, hov, hoD, hol2, hol3⟩ := hos.resolve_left (fun h => by have := h.2.1; omega)
  rw [hol] at hov
  obtain ⟨pl, cl, hlv, hcl, htl⟩ := hops.tail M (fun y hy => by simp [hy])
  have hddl : (ddCs m.oR ++ ro).length ≥ S.o.length * 9 := by rw [List.length_append, hol2, hol]; omega
  have M : Sep w00 ((x.b, .cells [.int .i64 (i : Int), .slice pl (r.length + 1) cl, .int .i64 (c.n : Int), .func (.func (nextF c.st)) #[ptr I.bs] #[], .int .i64 (c.bg : Int), .int .i64 (c.dd : Int), strV c.key, .bool w2_].toArray 83 (0, 0)) :: (I.bs, .cells [.iface 30 (ptr m.bp), ptr m.lk.bl, m.cv, .slice (some ⟨bo, 0, none⟩) S.o.length co, .int .i64 (S.s : Int)].toArray 77 (0, 0)) :: (m.bp, .cells [m.u, m.hv].toArray 39 (0, 0)) :: (bo, .cells (ddCs m.oR ++ ro).toArray To (0, 0)) :: (lkB m.lk ++ (R ++ (L ++ X)))) wcall2 := by
   have M3 : Sep w00 ((x.b, .cells [.int .i64 (i : Int), x.v, .int .i64 (c.n : Int), .func (.func (nextF c.st)) #[ptr I.bs] #[], .int .i64 (c.bg : Int), .int .i64 (c.dd : Int), strV c.key, .bool w2_].toArray 83 (0, 0)) :: (I.bs, .cells [.iface 30 (ptr m.bp), ptr m.lk.bl, m.cv, m.ov, .int .i64 (S.s : Int)].toArray 77 (0, 0)) :: (m.bp, .cells [m.u, m.hv].toArray 39 (0, 0)) :: (lkB m.lk ++ (m.oD ++ (R ++ (L ++ X))))) wcall2 := by
    have e : sysB I m (endV S i c).s = (I.bs, .cells [.iface 30 (ptr m.bp), ptr m.lk.bl, m.cv, m.ov, .int .i64 (S.s : Int)].toArray 77 (0, 0)) := by unfold sysB; rw [hEs]
    rw [← e]
    exact M.perm (List.Perm.trans (List.perm_append_comm.trans ((hperm.append_right L).append_right X)) (by simp only [cBk, cCs, plnB, List.append_assoc, List.cons_append]; exact List.Perm.refl _))
   rw [hoD, hov, hlv] at M3
   exact M3.perm (perm_c fun p => by simp only [List.countP_append, List.countP_cons, List.countP_nil]; omega)
  refine ⟨trivial, ?_⟩
  refine go 0 ?_
  refine W.regD (by kernel_rfl) #[0, 1, 3, 7, 0, 16, 48, 112, 0, 256, 768, 1792, 4095, 8191, 16383] [(0, false), (1, false), (2, false), (3, false), (4, false), (5, false), (6, false), (7, false), (8, false), (9, false), (10, false), (11, false), (12, false), (13, false), (14, true)] (by kernel_rfl) ?_
  intro K wD1 hK hwD1
  have M := M.drew hwD1
  refine go 3 ?_
  refine x_ia c.dd rfl rfl rfl Try.underlying44 sz61 rfl rfl rfl (by omega) ?_
  refine go 0 ?_
  refine x_st [_] (ddCs (m.oR.modify c.dd (endDV S.s)) ++ ro) rfl rfl rfl sz3 rfl rfl rfl rfl (M.at_ 3 rfl) rfl (Nat.ble_eq_true_of_le (by simp only [List.length_cons, List.length_nil]; omega)) (ddCs_en hy) ?_
  intro wst1 hwst1
  have M : Sep w00 ((x.b, .cells [.int .i64 (i : Int), .slice pl (r.length + 1) cl, .int .i64 (c.n : Int), .func (.func (nextF c.st)) #[ptr I.bs] #[], .int .i64 (c.bg : Int), .int .i64 (c.dd : Int), strV c.key, .bool w2_].toArray 83 (0, 0)) :: (I.bs, .cells [.iface 30 (ptr m.bp), ptr m.lk.bl, m.cv, .slice (some ⟨bo, 0, none⟩) S.o.length co, .int .i64 (S.s : Int)].toArray 77 (0, 0)) :: (m.bp, .cells [m.u, m.hv].toArray 39 (0, 0)) :: (bo, .cells (ddCs (m.oR.modify c.dd (endDV S.s)) ++ ro).toArray To (0, 0)) :: (lkB m.lk ++ (R ++ (L ++ X)))) wst1 := M.put 3 rfl hwst1
  refine pnd ?_
  refine go 0 ?_
  refine W.regD (by kernel_rfl) #[0, 0, 0, 0, 8, 24, 56, 120, 0, 256, 768, 1792, 3840, 0, 8192, 4089, 36857, 102393, 237563, 499707, 1023995, 2097151, 4194303, 8388607] [(0, false), (1, false), (2, false), (3, false), (4, false), (5, false), (6, false), (7, false), (8, false), (9, false), (10, false), (11, false), (12, false), (13, false), (14, false), (15, false), (16, false), (17, true), (18, false), (19, false), (20, true), (21, false), (22, false), (23, true)] (by kernel_rfl) ?_
  intro K wD2 hK hwD2
  have M := M.drew hwD2
  refine go 1 ?_
  refine x_sll 1 rfl rfl rfl Try.underlying62 sz66 rfl rfl rfl (by omega) ?_
  refine go 1 ?_
  refine x_add ((c.n + 1 : Nat) : Int) rfl rfl rfl rfl rfl (by rw [wadd (by omega) (by omega)]; simp) ?_
  refine go 1 ?_
  refine x_st [_] _ rfl rfl rfl sz62 rfl rfl rfl rfl atM rfl rfl rfl ?_
  intro wst2 hwst2
  have M := by first | exact M.put 0 rfl hwst2 | exact M.put 1 rfl hwst2 | exact M.put 2 rfl hwst2 | exact M.put 3 rfl hwst2 | exact M.put 4 rfl hwst2 | exact M.put 5 rfl hwst2 | exact M.put 6 rfl hwst2 | exact M.put 7 rfl hwst2
  refine pnd ?_
  refine go 0 ?_
  refine x_st [_] _ rfl rfl rfl sz3 rfl rfl rfl rfl atM rfl rfl rfl ?_
  intro wst3 hwst3
  have M := by first | exact M.put 0 rfl hwst3 | exact M.put 1 rfl hwst3 | exact M.put 2 rfl hwst3 | exact M.put 3 rfl hwst3 | exact M.put 4 rfl hwst3 | exact M.put 5 rfl hwst3 | exact M.put 6 rfl hwst3 | exact M.put 7 rfl hwst3
  refine pnd ?_
  refine go 0 ?_
  refine x_st [_] _ rfl rfl rfl sz81 rfl rfl rfl rfl atM rfl rfl rfl ?_
  intro wst4 hwst4
  have M := by first | exact M.put 0 rfl hwst4 | exact M.put 1 rfl hwst4 | exact M.put 2 rfl hwst4 | exact M.put 3 rfl hwst4 | exact M.put 4 rfl hwst4 | exact M.put 5 rfl hwst4 | exact M.put 6 rfl hwst4 | exact M.put 7 rfl hwst4
  refine pnd ?_
  refine go 1 ?_
  have M : Sep w00 ((x.b, .cells [.int .i64 (i : Int), .slice (if cl = 1 then pl else pl.map fun x => x.add (1 * 9)) r.length (cl - 1), .int .i64 ((c.n + 1 : Nat) : Int), .func (.func (28)) #[ptr I.bs] #[], .int .i64 (c.bg : Int), .int .i64 (c.dd : Int), strV c.key, .bool w2_].toArray 83 (0, 0)) :: (I.bs, .cells [.iface 30 (ptr m.bp), ptr m.lk.bl, m.cv, .slice (some ⟨bo, 0, none⟩) S.o.length co, .int .i64 (S.s : Int)].toArray 77 (0, 0)) :: (m.bp, .cells [m.u, m.hv].toArray 39 (0, 0)) :: (bo, .cells (ddCs (m.oR.modify c.dd (endDV S.s)) ++ ro).toArray To (0, 0)) :: (lkB m.lk ++ (R ++ (L ++ X)))) _ := M
  generalize hnl : Value.slice (if cl = 1 then pl else pl.map fun x => x.add (1 * 9)) r.length (cl - 1) = nl at M htl
  have hcS : (endS S i c).c = (endV S i c).c.set i { { c with w := w2_ } with l := r, n := c.n + 1, st := 0 } := by unfold endS; simp only; rw [modify_set hc2, hl]; rfl
  have hM : VMR w00 L I { endS S i c with s := S.s } { m with ov := .slice (some ⟨bo, 0, none⟩) S.o.length co, oD := [(bo, .cells (ddCs (m.oR.modify c.dd (endDV S.s)) ++ ro).toArray To (0, 0))], oR := m.oR.modify c.dd (endDV S.s), cm := m.cm.set i ⟨x.b, nl⟩ } := hR.upd (i := i) (x := x) (x' := ⟨x.b, nl⟩) (c' := { { c with w := w2_ } with l := r, n := c.n + 1, st := 0 }) hx hcS rfl rfl rfl rfl (fun y hy => hy) hR.lk htl
   (by show (m.oR.modify c.dd (endDV S.s)).map (·.1) = S.o.modify c.dd (fun d => { d with en := (S.s : Int) }); rw [modify_set hy, List.map_set, hR.oo, hEo, modify_set (by rw [← hEo, ← hR.oo, List.getElem?_map, hy]; rfl : S.o[c.dd]? = some y.1)]; rfl)
   (by show OwL [_] _ 9 (m.oR.modify c.dd (endDV S.s)).length _; rw [List.length_modify, hol]; exact .inr ⟨bo, co, ro, To, rfl, rfl, by rw [ddCs_len, List.length_modify, hol], by rw [← hol3, List.length_append, List.length_append, ddCs_len, ddCs_len, List.length_modify]⟩)
   (fun z hz => by
    rcases modify_mem hz with h | ⟨d, h, rfl⟩
    ·exact hR.od z h
    ·exact hR.od d h) (by show FilesK w00 L m.u (endV S i c).f; exact hR.fs) (by show ∃ hl, hfL hl = (endV S i c).h ∧ OpnK w00 L m.hv hl ∧ RI (endV S i c).f hl; exact hR.hs) hvE
  have M2 : Sep w00 (cBk I.bs i { { c with w := w2_ } with l := r, n := c.n + 1, st := 0 } ⟨x.b, nl⟩ :: sysB I { m with ov := .slice (some ⟨bo, 0, none⟩) S.o.length co, oD := [(bo, .cells (ddCs (m.oR.modify c.dd (endDV S.s)) ++ ro).toArray To (0, 0))], oR := m.oR.modify c.dd (endDV S.s), cm := m.cm.set i ⟨x.b, nl⟩ } S.s :: plnB { m with ov := .slice (some ⟨bo, 0, none⟩) S.o.length co, oD := [(bo, .cells (ddCs (m.oR.modify c.dd (endDV S.s)) ++ ro).toArray To (0, 0))], oR := m.oR.modify c.dd (endDV S.s), cm := m.cm.set i ⟨x.b, nl⟩ } :: (lkB m.lk ++ ([(bo, .cells (ddCs (m.oR.modify c.dd (endDV S.s)) ++ ro).toArray To (0, 0))] ++ (R ++ (L ++ X))))) wst4 := (show Sep w00 ((x.b, .cells [.int .i64 (i : Int), nl, .int .i64 ((c.n + 1 : Nat) : Int), .func (.func (28)) #[ptr I.bs] #[], .int .i64 (c.bg : Int), .int .i64 (c.dd : Int), strV c.key, .bool w2_].toArray 83 (0, 0)) :: (I.bs, .cells [.iface 30 (ptr m.bp), ptr m.lk.bl, m.cv, .slice (some ⟨bo, 0, none⟩) S.o.length co, .int .i64 (S.s : Int)].toArray 77 (0, 0)) :: (m.bp, .cells [m.u, m.hv].toArray 39 (0, 0)) :: (lkB m.lk ++ ([(bo, .cells (ddCs (m.oR.modify c.dd (endDV S.s)) ++ ro).toArray To (0, 0))] ++ (R ++ (L ++ X))))) wst4 from M.perm (perm_c fun p => by simp only [List.countP_append, List.countP_cons, List.countP_nil]; omega))
  exact ⟨rfl, VfW.shut hM (hback _ { m with ov := .slice (some ⟨bo, 0, none⟩) S.o.length co, oD := [(bo, .cells (ddCs (m.oR.modify c.dd (endDV S.s)) ++ ro).toArray To (0, 0))], oR := m.oR.modify c.dd (endDV S.s), cm := m.cm.set i ⟨x.b, nl⟩ } { { c with w := w2_ } with l := r, n := c.n + 1, st := 0 } ⟨x.b, nl⟩ hcS rfl rfl) M2⟩
 ·intro hco1
  refine go 0 ?_
  refine x_call rfl rfl rfl rfl rfl en90 (vfree_c M hc hcb) ?_
  rintro r_ wcall3 ⟨rfl, M⟩
  obtain ⟨w2_, hc2⟩ : ∃ w2_, (freeV S i []).c[i]? = some { c with w := w2_ } := wakeC_at hc
  rw [show freeV S i [] = endV S i c by unfold endV; rw [if_pos hco1]] at M hc2
  obtain ⟨hEo, hEs, hEf, hEh⟩ := endV_o (S := S) (i := i) (c := c)
  obtain ⟨m, L, hR, M⟩ := M
  obtain ⟨x, R, hx, hxb, hops, hperm, hback⟩ := hR.out hc2
  rw [hcb] at hxb
  simp only [Option.some.injEq] at hxb
  subst hxb
  rw [show ({ c with w := w2_ } : Cl).l = o :: r from hl] at hops
  have hol : m.oR.length = S.o.length := by rw [← hEo, ← hR.oo, List.length_map]
  obtain ⟨y, hy⟩ := get_lt (l := m.oR) (q := c.dd) (by omega)
  have hos := hR.os
  obtain ⟨bo, co, ro, To, hov, hoD, hol2, hol3⟩ := hos.resolve_left (fun h => by have := h.2.1; omega)
  rw [hol] at hov
  obtain ⟨pl, cl, hlv, hcl, htl⟩ := hops.tail M (fun y hy => by simp [hy])
  have hddl : (ddCs m.oR ++ ro).length ≥ S.o.length * 9 := by rw [List.length_append, hol2, hol]; omega
  have M : Sep w00 ((x.b, .cells [.int .i64 (i : Int), .slice pl (r.length + 1) cl, .int .i64 (c.n : Int), .func (.func (nextF c.st)) #[ptr I.bs] #[], .int .i64 (c.bg : Int), .int .i64 (c.dd : Int), strV c.key, .bool w2_].toArray 83 (0, 0)) :: (I.bs, .cells [.iface 30 (ptr m.bp), ptr m.lk.bl, m.cv, .slice (some ⟨bo, 0, none⟩) S.o.length co, .int .i64 (S.s : Int)].toArray 77 (0, 0)) :: (m.bp, .cells [m.u, m.hv].toArray 39 (0, 0)) :: (bo, .cells (ddCs m.oR ++ ro).toArray To (0, 0)) :: (lkB m.lk ++ (R ++ (L ++ X)))) wcall3 := by
   have M3 : Sep w00 ((x.b, .cells [.int .i64 (i : Int), x.v, .int .i64 (c.n : Int), .func (.func (nextF c.st)) #[ptr I.bs] #[], .int .i64 (c.bg : Int), .int .i64 (c.dd : Int), strV c.key, .bool w2_].toArray 83 (0, 0)) :: (I.bs, .cells [.iface 30 (ptr m.bp), ptr m.lk.bl, m.cv, m.ov, .int .i64 (S.s : Int)].toArray 77 (0, 0)) :: (m.bp, .cells [m.u, m.hv].toArray 39 (0, 0)) :: (lkB m.lk ++ (m.oD ++ (R ++ (L ++ X))))) wcall3 := by
    have e : sysB I m (endV S i c).s = (I.bs, .cells [.iface 30 (ptr m.bp), ptr m.lk.bl, m.cv, m.ov, .int .i64 (S.s : Int)].toArray 77 (0, 0)) := by unfold sysB; rw [hEs]
    rw [← e]
    exact M.perm (List.Perm.trans (List.perm_append_comm.trans ((hperm.append_right L).append_right X)) (by simp only [cBk, cCs, plnB, List.append_assoc, List.cons_append]; exact List.Perm.refl _))
   rw [hoD, hov, hlv] at M3
   exact M3.perm (perm_c fun p => by simp only [List.countP_append, List.countP_cons, List.countP_nil]; omega)
  refine ⟨trivial, ?_⟩
  refine go 0 ?_
  refine W.regD (by kernel_rfl) #[0, 1, 3, 7, 0, 16, 48, 112, 0, 256, 768, 1792, 4095, 8191, 16383] [(0, false), (1, false), (2, false), (3, false), (4, false), (5, false), (6, false), (7, false), (8, false), (9, false), (10, false), (11, false), (12, false), (13, false), (14, true)] (by kernel_rfl) ?_
  intro K wD3 hK hwD3
  have M := M.drew hwD3
  refine go 3 ?_
  refine x_ia c.dd rfl rfl rfl Try.underlying44 sz61 rfl rfl rfl (by omega) ?_
  refine go 0 ?_
  refine x_st [_] (ddCs (m.oR.modify c.dd (endDV S.s)) ++ ro) rfl rfl rfl sz3 rfl rfl rfl rfl (M.at_ 3 rfl) rfl (Nat.ble_eq_true_of_le (by simp only [List.length_cons, List.length_nil]; omega)) (ddCs_en hy) ?_
  intro wst5 hwst5
  have M : Sep w00 ((x.b, .cells [.int .i64 (i : Int), .slice pl (r.length + 1) cl, .int .i64 (c.n : Int), .func (.func (nextF c.st)) #[ptr I.bs] #[], .int .i64 (c.bg : Int), .int .i64 (c.dd : Int), strV c.key, .bool w2_].toArray 83 (0, 0)) :: (I.bs, .cells [.iface 30 (ptr m.bp), ptr m.lk.bl, m.cv, .slice (some ⟨bo, 0, none⟩) S.o.length co, .int .i64 (S.s : Int)].toArray 77 (0, 0)) :: (m.bp, .cells [m.u, m.hv].toArray 39 (0, 0)) :: (bo, .cells (ddCs (m.oR.modify c.dd (endDV S.s)) ++ ro).toArray To (0, 0)) :: (lkB m.lk ++ (R ++ (L ++ X)))) wst5 := M.put 3 rfl hwst5
  refine pnd ?_
  refine go 0 ?_
  refine W.regD (by kernel_rfl) #[0, 0, 0, 0, 8, 24, 56, 120, 0, 256, 768, 1792, 3840, 0, 8192, 4089, 36857, 102393, 237563, 499707, 1023995, 2097151, 4194303, 8388607] [(0, false), (1, false), (2, false), (3, false), (4, false), (5, false), (6, false), (7, false), (8, false), (9, false), (10, false), (11, false), (12, false), (13, false), (14, false), (15, false), (16, false), (17, true), (18, false), (19, false), (20, true), (21, false), (22, false), (23, true)] (by kernel_rfl) ?_
  intro K wD4 hK hwD4
  have M := M.drew hwD4
  refine go 1 ?_
  refine x_sll 1 rfl rfl rfl Try.underlying62 sz66 rfl rfl rfl (by omega) ?_
  refine go 1 ?_
  refine x_add ((c.n + 1 : Nat) : Int) rfl rfl rfl rfl rfl (by rw [wadd (by omega) (by omega)]; simp) ?_
  refine go 1 ?_
  refine x_st [_] _ rfl rfl rfl sz62 rfl rfl rfl rfl atM rfl rfl rfl ?_
  intro wst6 hwst6
  have M := by first | exact M.put 0 rfl hwst6 | exact M.put 1 rfl hwst6 | exact M.put 2 rfl hwst6 | exact M.put 3 rfl hwst6 | exact M.put 4 rfl hwst6 | exact M.put 5 rfl hwst6 | exact M.put 6 rfl hwst6 | exact M.put 7 rfl hwst6
  refine pnd ?_
  refine go 0 ?_
  refine x_st [_] _ rfl rfl rfl sz3 rfl rfl rfl rfl atM rfl rfl rfl ?_
  intro wst7 hwst7
  have M := by first | exact M.put 0 rfl hwst7 | exact M.put 1 rfl hwst7 | exact M.put 2 rfl hwst7 | exact M.put 3 rfl hwst7 | exact M.put 4 rfl hwst7 | exact M.put 5 rfl hwst7 | exact M.put 6 rfl hwst7 | exact M.put 7 rfl hwst7
  refine pnd ?_
  refine go 0 ?_
  refine x_st [_] _ rfl rfl rfl sz81 rfl rfl rfl rfl atM rfl rfl rfl ?_
  intro wst8 hwst8
  have M := by first | exact M.put 0 rfl hwst8 | exact M.put 1 rfl hwst8 | exact M.put 2 rfl hwst8 | exact M.put 3 rfl hwst8 | exact M.put 4 rfl hwst8 | exact M.put 5 rfl hwst8 | exact M.put 6 rfl hwst8 | exact M.put 7 rfl hwst8
  refine pnd ?_
  refine go 1 ?_
  have M : Sep w00 ((x.b, .cells [.int .i64 (i : Int), .slice (if cl = 1 then pl else pl.map fun x => x.add (1 * 9)) r.length (cl - 1), .int .i64 ((c.n + 1 : Nat) : Int), .func (.func (28)) #[ptr I.bs] #[], .int .i64 (c.bg : Int), .int .i64 (c.dd : Int), strV c.key, .bool w2_].toArray 83 (0, 0)) :: (I.bs, .cells [.iface 30 (ptr m.bp), ptr m.lk.bl, m.cv, .slice (some ⟨bo, 0, none⟩) S.o.length co, .int .i64 (S.s : Int)].toArray 77 (0, 0)) :: (m.bp, .cells [m.u, m.hv].toArray 39 (0, 0)) :: (bo, .cells (ddCs (m.oR.modify c.dd (endDV S.s)) ++ ro).toArray To (0, 0)) :: (lkB m.lk ++ (R ++ (L ++ X)))) _ := M
  generalize hnl : Value.slice (if cl = 1 then pl else pl.map fun x => x.add (1 * 9)) r.length (cl - 1) = nl at M htl
  have hcS : (endS S i c).c = (endV S i c).c.set i { { c with w := w2_ } with l := r, n := c.n + 1, st := 0 } := by unfold endS; simp only; rw [modify_set hc2, hl]; rfl
  have hM : VMR w00 L I { endS S i c with s := S.s } { m with ov := .slice (some ⟨bo, 0, none⟩) S.o.length co, oD := [(bo, .cells (ddCs (m.oR.modify c.dd (endDV S.s)) ++ ro).toArray To (0, 0))], oR := m.oR.modify c.dd (endDV S.s), cm := m.cm.set i ⟨x.b, nl⟩ } := hR.upd (i := i) (x := x) (x' := ⟨x.b, nl⟩) (c' := { { c with w := w2_ } with l := r, n := c.n + 1, st := 0 }) hx hcS rfl rfl rfl rfl (fun y hy => hy) hR.lk htl
   (by show (m.oR.modify c.dd (endDV S.s)).map (·.1) = S.o.modify c.dd (fun d => { d with en := (S.s : Int) }); rw [modify_set hy, List.map_set, hR.oo, hEo, modify_set (by rw [← hEo, ← hR.oo, List.getElem?_map, hy]; rfl : S.o[c.dd]? = some y.1)]; rfl)
   (by show OwL [_] _ 9 (m.oR.modify c.dd (endDV S.s)).length _; rw [List.length_modify, hol]; exact .inr ⟨bo, co, ro, To, rfl, rfl, by rw [ddCs_len, List.length_modify, hol], by rw [← hol3, List.length_append, List.length_append, ddCs_len, ddCs_len, List.length_modify]⟩)
   (fun z hz => by
    rcases modify_mem hz with h | ⟨d, h, rfl⟩
    ·exact hR.od z h
    ·exact hR.od d h) (by show FilesK w00 L m.u (endV S i c).f; exact hR.fs) (by show ∃ hl, hfL hl = (endV S i c).h ∧ OpnK w00 L m.hv hl ∧ RI (endV S i c).f hl; exact hR.hs) hvE
  have M2 : Sep w00 (cBk I.bs i { { c with w := w2_ } with l := r, n := c.n + 1, st := 0 } ⟨x.b, nl⟩ :: sysB I { m with ov := .slice (some ⟨bo, 0, none⟩) S.o.length co, oD := [(bo, .cells (ddCs (m.oR.modify c.dd (endDV S.s)) ++ ro).toArray To (0, 0))], oR := m.oR.modify c.dd (endDV S.s), cm := m.cm.set i ⟨x.b, nl⟩ } S.s :: plnB { m with ov := .slice (some ⟨bo, 0, none⟩) S.o.length co, oD := [(bo, .cells (ddCs (m.oR.modify c.dd (endDV S.s)) ++ ro).toArray To (0, 0))], oR := m.oR.modify c.dd (endDV S.s), cm := m.cm.set i ⟨x.b, nl⟩ } :: (lkB m.lk ++ ([(bo, .cells (ddCs (m.oR.modify c.dd (endDV S.s)) ++ ro).toArray To (0, 0))] ++ (R ++ (L ++ X))))) wst8 := (show Sep w00 ((x.b, .cells [.int .i64 (i : Int), nl, .int .i64 ((c.n + 1 : Nat) : Int), .func (.func (28)) #[ptr I.bs] #[], .int .i64 (c.bg : Int), .int .i64 (c.dd : Int), strV c.key, .bool w2_].toArray 83 (0, 0)) :: (I.bs, .cells [.iface 30 (ptr m.bp), ptr m.lk.bl, m.cv, .slice (some ⟨bo, 0, none⟩) S.o.length co, .int .i64 (S.s : Int)].toArray 77 (0, 0)) :: (m.bp, .cells [m.u, m.hv].toArray 39 (0, 0)) :: (lkB m.lk ++ ([(bo, .cells (ddCs (m.oR.modify c.dd (endDV S.s)) ++ ro).toArray To (0, 0))] ++ (R ++ (L ++ X))))) wst8 from M.perm (perm_c fun p => by simp only [List.countP_append, List.countP_cons, List.countP_nil]; omega))
  exact ⟨rfl, VfW.shut hM (hback _ { m with ov := .slice (some ⟨bo, 0, none⟩) S.o.length co, oD := [(bo, .cells (ddCs (m.oR.modify c.dd (endDV S.s)) ++ ro).toArray To (0, 0))], oR := m.oR.modify c.dd (endDV S.s), cm := m.cm.set i ⟨x.b, nl⟩ } { { c with w := w2_ } with l := r, n := c.n + 1, st := 0 } ⟨x.b, nl⟩ hcS rfl rfl) M2⟩

end Go.Proofs.Ytebfjdolgchgaaa

namespace Go.Proofs.Ytebfjdolgchgaaa
open Go Go.Fw Go.RowKit
set_option linter.unusedVariables false
set_option linter.unusedSimpArgs false
section
variable {w00 w0 w : World} {X Y L L' : List (Nat × Obj)} {I : VfI} {S : VS} {m : VM} {i j b : Nat} {c c' : Cl}
def cliP (I : VfI) (who : Int) : Option Nat := if 0 ≤ who then I.cb[who.toNat]? else none
def optP (o : Option Nat) : Value := .pointer (o.map fun b => ⟨b, 0, none⟩)
theorem VfW.cbLen (M : VfW w00 X I S w) : I.cb.length = S.c.length := by
 obtain ⟨m, L, hR, M⟩ := M
 rw [← hR.cb, List.length_map]; exact hR.cl
theorem VfW.sys (M : VfW w00 X I S w) : ∃ bp bl cv ov, Sl w cv 1 I.cb.length (I.cb.map ptr) ∧ w.heap[I.bs]? = some (.cells [.iface 30 (ptr bp), ptr bl, cv, ov, .int .i64 (S.s : Int)].toArray 77 (0, 0)) := by
 have hl := M.cbLen
 obtain ⟨m, L, hR, M⟩ := M
 exact ⟨m.bp, m.lk.bl, m.cv, m.ov, by rw [hl]; exact (hR.cs.sl (by decide)).at_ M (fun y hy => by simp [vmB, hy]), M.get (b := I.bs) (by simp [vmB, sysB])⟩
theorem VfW.who (M : VfW w00 X I S w) (hcb : I.cb[i]? = some b) : w.cell? ⟨b, 0, none⟩ = some (.int .i64 (i : Int)) := by
 have hl := M.cbLen
 obtain ⟨c, hc⟩ := get_lt (l := S.c) (q := i) (by have := (List.getElem?_eq_some_iff.1 hcb).1; omega)
 obtain ⟨v, _, _, _, h⟩ := M.cl hc hcb
 exact cell_of h rfl
theorem cliP_at (h : I.cb[i]? = some b) : cliP I (i : Int) = some b := by unfold cliP; rw [if_pos (by omega)]; exact h
theorem cliP_none {who : Int} (h : ∀ i : Nat, i < I.cb.length → (i : Int) ≠ who) : cliP I who = none := by
 unfold cliP
 split
 ·rw [List.getElem?_eq_none_iff]
  refine Nat.le_of_not_lt fun e => h _ e (by omega)
 ·rfl
theorem VfW.cliS (M : VfW w00 X I S w) (who : Int) : (cliP I who = none ∧ cliS S who = none) ∨ ∃ (i : Nat) (b : Nat) (c : Cl), who = (i : Int) ∧ cliP I who = some b ∧ cliS S who = some c ∧ I.cb[i]? = some b ∧ S.c[i]? = some c := by
 have hl := M.cbLen
 unfold cliP Go.Proofs.Ytebfjdolgchgaaa.cliS
 by_cases h : 0 ≤ who
 ·rw [if_pos h, if_pos h]
  by_cases h2 : who.toNat < I.cb.length
  ·obtain ⟨b, hb⟩ := get_lt h2
   obtain ⟨c, hc⟩ := get_lt (l := S.c) (q := who.toNat) (by omega)
   exact .inr ⟨who.toNat, b, c, by omega, hb, hc, hb, hc⟩
  ·exact .inl ⟨List.getElem?_eq_none_iff.2 (by omega), List.getElem?_eq_none_iff.2 (by omega)⟩
 ·rw [if_neg h, if_neg h]; exact .inl ⟨rfl, rfl⟩
end
end Go.Proofs.Ytebfjdolgchgaaa

namespace Go.Proofs.Ytebfjdolgchgaaa
open Go Go.Fw Go.RowKit Go.Proofs
set_option linter.unusedVariables false
set_option linter.unusedSimpArgs false
set_option maxRecDepth 100000
set_option maxHeartbeats 4000000

-- (*valise/vfs.Sys).all
theorem vall_c {w0 : World} {bs : Nat} : Ret Try.prog 52 #[ptr bs] w0 fun r w' => ∃ bb, r = .func (.func 74) #[] #[ptr bb] ∧ Sep w0 [(bb, .cells [ptr bs].toArray 26 (0, 0))] w' := by
 have M : Sep w0 [] w0 := St.nil w0
 refine Ret.of_W Try.func52 rfl Try.ntmps52 rfl ?_
 refine go 1 ?_
 intro bbx1 _ M
 refine go 2 ?_
 exact ⟨bbx1, rfl, M⟩

-- (*valise/vfs.Sys).all$1
theorem vall_it {w0 : World} {bb l0 bs : Nat} {v : Value} {q : List Nat} {I : List Nat → World → Prop} {X : World → Prop} (hlen : q.length ≤ 1000)
  (hb : ∀ rest w, I rest w → w.cell? ⟨bb, 0, none⟩ = some (ptr bs) ∧ w.cell? ⟨bs, 2, none⟩ = some v ∧ Sl w v 1 q.length (q.map ptr))
  (hY : ∀ a rest w, I (a :: rest) w → Yld Try.prog l0 [ptr a] w fun v w' => ∃ b : Bool, v = .bool b ∧ (b = true → I rest w') ∧ (b = false → X w'))
  (h0 : I q w0) : Ret Try.prog 74 #[.func (.yield l0) #[] #[], ptr bb] w0 fun r w' => r = .tuple #[] ∧ (I [] w' ∨ X w') := by
 obtain ⟨p, cap, rfl⟩ := (hb _ _ h0).2.2.shape
 have hI := h0
 refine Ret.of_W Try.func74 rfl Try.ntmps74 rfl ?_
 refine go 0 ?_
 refine x_ld rfl rfl rfl Try.underlying26 rfl rfl (hb _ _ hI).1 ?_
 refine go 0 ?_
 refine x_ld rfl rfl rfl Try.underlying75 rfl rfl (hb _ _ hI).2.1 ?_
 refine go 1 ?_
 refine W.loop (σ := Nat) (fun j => [(0, _), (8, _), (9, _), (10, .int .i64 ((j : Nat) : Int))]) (fun j w => j ≤ q.length ∧ I (q.drop j) w) (fun j => q.length - j) 0 ⟨rfl, rfl, rfl, rfl, trivial⟩ ⟨Nat.zero_le _, hI⟩ ?_
 rintro j w ⟨hj, hJ⟩
 refine cnd 1 ?_ ?_
 ·intro hco1
  obtain ⟨a, ha⟩ := get_lt (l := q) (q := j) (by omega)
  obtain ⟨b, off, cap2, e2⟩ := Sl.blk' (hb _ _ hJ).2.2 (by omega)
  cases e2
  have hdr : q.drop j = a :: q.drop (j + 1) := by
   obtain ⟨h1, rfl⟩ := List.getElem?_eq_some_iff.1 ha
   exact List.drop_eq_getElem_cons h1
  rw [hdr] at hJ
  have hcell := Sl.cell1 (hb _ _ hJ).2.2 (show (q.map ptr)[j]? = some (ptr a) by rw [List.getElem?_map, ha]; rfl)
  refine go 0 ?_
  refine x_ia j rfl rfl rfl Try.underlying75 sz80 rfl rfl rfl (by omega) ?_
  refine x_ld rfl rfl rfl Try.underlying80 rfl rfl hcell ?_
  refine go 0 ?_
  refine x_yld rfl rfl rfl rfl rfl (hY _ _ _ hJ) ?_
  rintro v w3 ⟨bb2, rfl, hb1, hb2⟩
  refine ⟨trivial, ?_⟩
  refine cnd 1 ?_ ?_
  ·intro hco2
   refine go 1 ?_
   exact ⟨rfl, .inr (hb2 hco2)⟩
  ·intro hco2
   refine go 0 ?_
   refine x_add _ rfl rfl rfl rfl rfl (wadd (by omega) (by omega)) ?_
   refine go 0 ?_
   exact At.back (j + 1) ⟨rfl, rfl, rfl, rfl, trivial⟩ ⟨by omega, hb1 hco2⟩ (by first | omega | (simp only; omega) | (simp; done) | (simp; omega))
 ·intro hco1
  refine go 1 ?_
  have hj2 : q.drop j = [] := List.drop_eq_nil_of_le (by omega)
  rw [hj2] at hJ
  exact ⟨rfl, .inl hJ⟩

-- (*valise/vfs.Sys).client
theorem vclient_c {w00 w0 : World} {X : List (Nat × Obj)} {I : VfI} {S : VS} {who : Int} (V : VfW w00 X I S w0) : Ret Try.prog 34 #[ptr I.bs, .int .i64 who] w0 fun r w' => r = optP (cliP I who) ∧ New w0 w' := by
 have M : Sep w0 [] w0 := St.nil w0
 have hcb8 : I.cb.length ≤ 8 := by rw [V.cbLen]; exact V.vi.le
 obtain ⟨bp_, bl_, cv, ov_, hsl, hsys⟩ := V.sys
 refine Ret.of_W Try.func34 rfl Try.ntmps34 rfl ?_
 refine go 1 ?_
 intro bbx1 _ M
 refine go 1 ?_
 intro bal1 _ M
 refine go 1 ?_
 refine x_call rfl rfl rfl rfl rfl en52 (vall_c) ?_
 rintro r_ wcall1 ⟨bcall1, rfl, M1⟩
 have M := M.grow M1
 refine ⟨trivial, ?_⟩
 refine go 0 ?_
 refine W.range rfl en74 (fun rr hkt hps has hbdrng1 w2 hw2 => ?_)
 have M := M.range hw2
 refine (vall_it (bs := I.bs) (v := cv) (q := I.cb) (I := fun rest w' => ∃ A, I.cb = A ++ rest ∧ (∀ i : Nat, i < A.length → (i : Int) ≠ who) ∧ Sep w0 ([(bal1, .cells [.pointer none].toArray 80 (0, 0)), (bbx1, .cells [.int .i64 who].toArray 3 (0, 0)), (bcall1, .cells [ptr I.bs].toArray 26 (0, 0)), (wcall1.heap.size, .deferred (some [])), (wcall1.heap.size + 1, .loop { rr with state := .ready, pending := none })]) w') (X := fun w' => ∃ b, cliP I who = some b ∧ Sep w0 ([(bal1, .cells [ptr b].toArray 80 (0, 0)), (bbx1, .cells [.int .i64 who].toArray 3 (0, 0)), (bcall1, .cells [ptr I.bs].toArray 26 (0, 0)), (wcall1.heap.size, .deferred (some [])), (wcall1.heap.size + 1, .loop { rr with state := .done, pending := some .ret })]) w') (by omega) ?_ ?_ ⟨[], rfl, fun i hi => absurd hi (Nat.not_lt_zero i), M⟩).mono ?_
 ·rintro rest w' ⟨A, hA, hno, M⟩
  exact ⟨cell_of (M.at_ 2 rfl) rfl, cell_of (New.keep M.frm hsys) rfl, hsl.new M.frm⟩
 ·rintro a rest w' ⟨A, hA, hno, M⟩
  have ha : I.cb[A.length]? = some a := by rw [hA]; simp
  refine Yld.one (M.at_ 4 rfl) hkt hps rfl has ?_
  refine go 0 ?_
  refine At.asg hbdrng1 (M.at_ 4 rfl) ?_
  generalize hwb : World.putObj _ _ _ = wb
  have M := M.put 4 rfl hwb.symm
  refine go 0 ?_
  refine W.regD (by kernel_rfl) #[0, 1, 3, 7, 0, 31] [(0, false), (1, false), (2, false), (3, false), (4, false), (5, false)] (by kernel_rfl) ?_
  intro K wD1 hK hwD1
  have M := M.drew hwD1
  refine go 0 ?_
  refine x_ld rfl rfl rfl Try.underlying3 rfl rfl ((V.new M.frm).who ha) ?_
  refine cnd 2 ?_ ?_
  ·intro hco2
   refine go 1 ?_
   intro _ M
   refine go 0 ?_
   refine At.rnd_r atM ?_
   generalize hwz : World.putObj _ _ _ = wz
   have M := M.put 4 rfl hwz.symm
   exact ⟨false, rfl, fun h => (by cases h), fun _ => ⟨a, by rw [← hco2]; exact cliP_at ha, M⟩⟩
  ·intro hco2
   refine go 0 ?_
   refine At.rnd_n atM ?_
   generalize hwz : World.putObj _ _ _ = wz
   have M := M.put 4 rfl hwz.symm
   exact ⟨true, rfl, fun _ => ⟨A ++ [a], by rw [hA]; simp, (fun i hi => by
    by_cases e : i < A.length
    ·exact hno i e
    ·rw [List.length_append, List.length_singleton] at hi
     obtain rfl : i = A.length := by omega
     exact hco2), M⟩, fun h => (by cases h)⟩
 ·rintro v3 w3 ⟨rfl, ⟨A, hA, hno, M⟩ | ⟨b, hany, M⟩⟩
  ·refine .inl ⟨.ready, by simp, M.at_ 4 rfl, ?_⟩
   generalize hwx : World.putObj _ _ _ = w4
   have M := M.put 4 rfl hwx.symm
   rw [List.append_nil] at hA
   refine go 1 ?_
   intro _ M
   refine go 0 ?_
   refine At.mark (M.at_ 3 rfl) ?_
   generalize hwy : World.putObj _ _ _ = w6
   have M := M.put 3 rfl hwy.symm
   refine go 1 ?_
   exact ⟨by rw [cliP_none (by rw [hA]; exact hno)]; rfl, M.frm⟩
  ·refine .inr ⟨.done, _, by simp, M.at_ 4 rfl, ?_⟩
   generalize hwx : World.putObj _ _ _ = w4
   have M := M.put 4 rfl hwx.symm
   refine go 0 ?_
   refine At.mark (M.at_ 3 rfl) ?_
   generalize hwy : World.putObj _ _ _ = w6
   have M := M.put 3 rfl hwy.symm
   refine go 1 ?_
   exact ⟨by rw [hany]; rfl, M.frm⟩

end Go.Proofs.Ytebfjdolgchgaaa

namespace Go.Proofs.Ytebfjdolgchgaaa
open Go Go.Fw Go.RowKit
set_option linter.unusedVariables false
set_option linter.unusedSimpArgs false
section
variable {w00 w0 w : World} {X Y L L' : List (Nat × Obj)} {I : VfI} {S : VS} {m : VM} {i j b : Nat} {c c' : Cl} {o : OpS}
theorem stepS_s : (stepS S i c o).s = S.s + 1 := by
 unfold stepS
 split
 ·rfl
 ·split
  ·unfold askS; split <;> rfl
  ·split <;> rfl
theorem VMR.s (h : VMR w00 L I S m) (k : Nat) : VMR w00 L I { S with s := k } m := ⟨h.lk, h.cb, h.cl, h.cs, h.ls, h.oo, h.os, h.od, h.fs, h.hs, h.vi.s k⟩
theorem VfW.outS (M : VfW w00 X I S w) : ∃ m L, VMR w00 L I S m ∧ Sep w00 (sysB I m S.s :: (X ++ ((vmB I S m).drop 1 ++ L))) w ∧ ∀ k w1, Sep w00 (sysB I m k :: (X ++ ((vmB I S m).drop 1 ++ L))) w1 → VfW w00 X I { S with s := k } w1 := by
 obtain ⟨m, L, hR, M⟩ := M
 have e : ∀ k, (X ++ (vmB I { S with s := k } m ++ L)).Perm (sysB I m k :: (X ++ ((vmB I S m).drop 1 ++ L))) := fun k => by
  unfold vmB
  simp only [List.drop_succ_cons, List.drop_zero]
  exact perm_c fun p => by simp only [List.countP_append, List.countP_cons]; omega
 exact ⟨m, L, hR, M.perm (e S.s), fun k w1 h => ⟨m, L, hR.s k, h.perm (e k).symm⟩⟩
theorem stepV_none {who : Int} (h : cliS S who = none) : stepV S who = (S, false) := by unfold stepV; rw [h]
theorem stepV_nil {who : Int} (h : cliS S who = some c) (hl : c.l = []) : stepV S who = (S, false) := by unfold stepV; rw [h]; simp only [hl]
theorem stepV_w {who : Int} (h : cliS S who = some c) (hw : c.w = true) : stepV S who = (S, false) := by
 unfold stepV; rw [h]; simp only
 cases c.l with
 | nil => rfl
 | cons o r => simp only [hw, if_true]
theorem stepV_step {r : List OpS} (h : cliS S i = some c) (hl : c.l = o :: r) (hw : c.w = false) : stepV S i = (stepS S i c o, true) := by
 unfold stepV; rw [h]; simp only [hl, hw]; simp
end
end Go.Proofs.Ytebfjdolgchgaaa

namespace Go.Proofs.Ytebfjdolgchgaaa
open Go Go.Fw Go.RowKit Go.Proofs
set_option linter.unusedVariables false
set_option linter.unusedSimpArgs false
set_option maxRecDepth 100000
set_option maxHeartbeats 4000000

-- (*valise/vfs.Sys).Step
theorem nextF_en {c : Cl} : entered Try.prog (nextF c.st) = true := by
 unfold nextF
 split
 ·exact en28
 ·split
  ·exact en45
  ·split
   ·exact en68
   ·exact en86
theorem vnext_c {w00 w0 : World} {X : List (Nat × Obj)} {I : VfI} {S : VS} {i b : Nat} {c : Cl} {o : OpS} {r : List OpS} (M : VfW w00 X I S w0) (hc : S.c[i]? = some c) (hl : c.l = o :: r) (hcb : I.cb[i]? = some b) (hod : o.d.length ≤ 131072) (hn : c.n ≤ 100000) (ho : S.o.length ≤ 100000) : Ret Try.prog (nextF c.st) #[ptr I.bs, ptr b] w0 fun rr w' => rr = .tuple #[] ∧ VfW w00 X I { stepS S i c o with s := S.s } w' := by
 have h3 := M.vi.st c (List.mem_of_getElem? hc)
 unfold nextF stepS
 by_cases h0 : c.st = 0
 ·rw [if_pos h0, if_pos h0]; exact vbegin_c M hc hl hcb h0
 ·rw [if_neg h0, if_neg h0]
  by_cases h1 : c.st = 1
  ·rw [if_pos h1, if_pos h1]; exact vask_c M hc hl hcb h1
  ·rw [if_neg h1, if_neg h1]
   by_cases h2 : c.st = 2
   ·rw [if_pos h2, if_pos h2]; exact vcommit_c M hc hl hcb h2 hod ho
   ·rw [if_neg h2, if_neg h2]; exact vend_c M hc hl hcb (by omega) hn ho
theorem vstep_c {w00 w0 : World} {X : List (Nat × Obj)} {I : VfI} {S : VS} {who : Int} (M : VfW w00 X I S w0) (hod : ∀ c ∈ S.c, ∀ o ∈ c.l, o.d.length ≤ 131072) (hn : ∀ c ∈ S.c, c.n ≤ 100000) (ho : S.o.length ≤ 100000) (hs : S.s ≤ 100000) : Ret Try.prog 16 #[ptr I.bs, .int .i64 who] w0 fun r w' => r = .bool (stepV S who).2 ∧ VfW w00 X I (stepV S who).1 w' := by
 have V := M.cliS who
 refine Ret.of_W Try.func16 rfl Try.ntmps16 rfl ?_
 refine go 0 ?_
 refine x_call rfl rfl rfl rfl rfl en34 (vclient_c M) ?_
 rintro r_ wcall1 ⟨rfl, hn1⟩
 have M := M.new hn1
 refine ⟨trivial, ?_⟩
 refine spl 1 11 ?_ ?_
 ·intro hsp1
  have hE : stepV S who = (S, false) := by
   rcases V with ⟨_, h⟩ | ⟨i, b, c, rfl, hp, _⟩
   ·exact stepV_none h
   ·rw [hp] at hsp1; simp at hsp1
  refine go 1 ?_
  exact ⟨by rw [hE], by rw [hE]; exact M⟩
 ·intro hsp1
  rcases V with ⟨hp, _⟩ | ⟨i, b, c, rfl, hp, hcs, hcb, hc⟩
  ·rw [hp] at hsp1; simp at hsp1
  rw [hp]
  clear hsp1
  obtain ⟨lv, pl, cl, rfl, hcell⟩ := M.cl hc hcb
  refine go 0 ?_
  refine x_ld rfl rfl rfl Try.underlying62 rfl rfl (cell_of hcell rfl) ?_
  refine spl 2 19 ?_ ?_
  ·intro hsp2
   have hE : stepV S i = (S, false) := stepV_nil hcs (List.length_eq_zero_iff.1 (by omega))
   refine go 1 ?_
   exact ⟨by rw [hE], by rw [hE]; exact M⟩
  ·intro hsp2
   refine go 0 ?_
   refine x_ld rfl rfl rfl Try.underlying4 rfl rfl (cell_of hcell rfl) ?_
   refine cnd 0 ?_ ?_
   ·intro hco3
    have hE : stepV S i = (S, false) := stepV_w hcs hco3
    refine go 1 ?_
    exact ⟨by rw [hE], by rw [hE]; exact M⟩
   ·intro hco3
    obtain ⟨o, r, hl⟩ : ∃ o r, c.l = o :: r := by
     cases e : c.l with
     | nil => rw [e] at hsp2; simp at hsp2
     | cons o r => exact ⟨o, r, rfl⟩
    have hE : stepV S i = (stepS S i c o, true) := stepV_step hcs hl hco3
    have hcm := List.mem_of_getElem? hc
    refine go 0 ?_
    refine x_ld rfl rfl rfl Try.underlying81 rfl rfl (cell_of hcell rfl) ?_
    refine go 0 ?_
    refine x_call rfl rfl rfl rfl rfl nextF_en (vnext_c M hc hl hcb (hod c hcm o (by rw [hl]; exact List.mem_cons_self)) (hn c hcm) ho) ?_
    rintro r_ wcall2 ⟨rfl, M⟩
    obtain ⟨m, L, hR, M, hS⟩ := M.outS
    have M : Sep w00 ((I.bs, .cells [.iface 30 (ptr m.bp), ptr m.lk.bl, m.cv, m.ov, .int .i64 (S.s : Int)].toArray 77 (0, 0)) :: _) wcall2 := M
    refine ⟨trivial, ?_⟩
    refine go 1 ?_
    refine x_add ((S.s + 1 : Nat) : Int) rfl rfl rfl rfl rfl (by rw [wadd (by omega) (by omega)]; simp) ?_
    refine go 1 ?_
    intro _ M
    refine go 1 ?_
    have V := hS (S.s + 1) _ M
    rw [← stepS_s (S := S) (i := i) (c := c) (o := o)] at V
    exact ⟨by rw [hE], by rw [hE]; exact V⟩

-- (*valise/vfs.Sys).Steps
theorem vsteps_c {w00 w0 : World} {X : List (Nat × Obj)} {I : VfI} {S : VS} (V : VfW w00 X I S w0) : Ret Try.prog 17 #[ptr I.bs] w0 fun r w' => r = .int .i64 (S.s : Int) ∧ New w0 w' := by
 have M : Sep w0 [] w0 := St.nil w0
 obtain ⟨bp_, bl_, cv, ov_, hsl, hsys⟩ := V.sys
 refine Ret.of_W Try.func17 rfl Try.ntmps17 rfl ?_
 refine go 1 ?_
 refine x_ld rfl rfl rfl Try.underlying3 rfl rfl (cell_of (New.keep M.frm hsys) rfl) ?_
 refine go 1 ?_
 exact ⟨rfl, M.frm⟩

-- (*valise/vfs.Sys).Left
theorem vleft_c {w00 w0 : World} {X : List (Nat × Obj)} {I : VfI} {S : VS} {who : Int} (V : VfW w00 X I S w0) : Ret Try.prog 18 #[ptr I.bs, .int .i64 who] w0 fun r w' => r = .int .i64 (leftV S who) ∧ New w0 w' := by
 have M : Sep w0 [] w0 := St.nil w0
 refine Ret.of_W Try.func18 rfl Try.ntmps18 rfl ?_
 refine go 0 ?_
 refine x_call rfl rfl rfl rfl rfl en34 (vclient_c V) ?_
 rintro r_ wcall1 ⟨rfl, hn1⟩
 have M := M.new hn1
 refine ⟨trivial, ?_⟩
 refine cnd 1 ?_ ?_
 ·intro hco1
  rcases V.cliS who with ⟨hp, _⟩ | ⟨i, b, c, rfl, hp, hcs, hcb, hc⟩
  ·rw [hp] at hco1; cases hco1
  rw [hp]
  obtain ⟨lv, pl, cl, rfl, hcell⟩ := (V.new M.frm).cl hc hcb
  refine go 0 ?_
  refine x_ld rfl rfl rfl Try.underlying62 rfl rfl (cell_of hcell rfl) ?_
  refine go 2 ?_
  exact ⟨by unfold leftV; rw [hcs], M.frm⟩
 ·intro hco1
  refine go 1 ?_
  rcases V.cliS who with ⟨hp, hcs⟩ | ⟨i, b, c, rfl, hp, hcs, hcb, hc⟩
  ·exact ⟨by unfold leftV; rw [hcs], M.frm⟩
  ·rw [hp] at hco1; cases hco1

-- (*valise/vfs.Sys).Blocked
theorem vblocked_c {w00 w0 : World} {X : List (Nat × Obj)} {I : VfI} {S : VS} {who : Int} (V : VfW w00 X I S w0) : Ret Try.prog 20 #[ptr I.bs, .int .i64 who] w0 fun r w' => r = .bool (blockV S who) ∧ New w0 w' := by
 have M : Sep w0 [] w0 := St.nil w0
 refine Ret.of_W Try.func20 rfl Try.ntmps20 rfl ?_
 refine go 0 ?_
 refine x_call rfl rfl rfl rfl rfl en34 (vclient_c V) ?_
 rintro r_ wcall1 ⟨rfl, hn1⟩
 have M := M.new hn1
 refine ⟨trivial, ?_⟩
 refine spl 1 11 ?_ ?_
 ·intro hsp1
  rcases V.cliS who with ⟨hp, _⟩ | ⟨i, b, c, rfl, hp, hcs, hcb, hc⟩
  ·rw [hp] at hsp1; cases hsp1
  rw [hp]
  obtain ⟨lv, pl, cl, rfl, hcell⟩ := (V.new M.frm).cl hc hcb
  refine go 0 ?_
  refine x_ld rfl rfl rfl Try.underlying4 rfl rfl (cell_of hcell rfl) ?_
  refine go 1 ?_
  exact ⟨by unfold blockV; rw [hcs], M.frm⟩
 ·intro hsp1
  refine go 1 ?_
  rcases V.cliS who with ⟨hp, hcs⟩ | ⟨i, b, c, rfl, hp, hcs, hcb, hc⟩
  ·exact ⟨by unfold blockV; rw [hcs], M.frm⟩
  ·rw [hp] at hsp1; cases hsp1

end Go.Proofs.Ytebfjdolgchgaaa

namespace Go.Proofs.Ytebfjdolgchgaaa
open Go Go.Fw Go.RowKit
set_option linter.unusedVariables false
set_option linter.unusedSimpArgs false
theorem ddCs_put {R : List DdV} {k q n' : Nat} {x x' : DdV} {u : Value} {rest : List Value} (h : R[k]? = some x) (hq : q < 9) (hn : n' = k * 9 + q) (hx' : ddV x' = (ddV x).set q u) : (ddCs R ++ rest).take n' ++ [u] ++ (ddCs R ++ rest).drop (n' + 1) = ddCs (R.set k x') ++ rest := by
 subst hn
 obtain ⟨hk, hx⟩ := List.getElem?_eq_some_iff.1 h
 have e : R = R.take k ++ x :: R.drop (k + 1) := by rw [← hx, ← List.drop_eq_getElem_cons hk, List.take_append_drop]
 have e2 : R.set k x' = R.take k ++ x' :: R.drop (k + 1) := List.set_eq_take_append_cons_drop ▸ (by rw [if_pos hk])
 have hl : (ddCs (R.take k)).length = k * 9 := by rw [ddCs_len, List.length_take]; omega
 have e3 : ddCs R = ddCs (R.take k) ++ (ddV x ++ ddCs (R.drop (k + 1))) := by
  conv => lhs; rw [e]
  rw [ddCs_app]; rfl
 have e4 : ddCs (R.set k x') = ddCs (R.take k) ++ (ddV x' ++ ddCs (R.drop (k + 1))) := by rw [e2, ddCs_app]; rfl
 have h9 : (ddV x).length = 9 := rfl
 rw [e3, e4, hx']
 simp only [List.append_assoc]
 rw [← hl, List.take_length_add_append, show (ddCs (R.take k)).length + q + 1 = (ddCs (R.take k)).length + (q + 1) by omega, List.drop_length_add_append, List.append_assoc, List.take_append_of_le_length (by omega), List.drop_append_of_le_length (by omega), List.set_eq_take_append_cons_drop, if_pos (by omega)]
 simp
theorem ddCs_get {R : List DdV} {k q n' : Nat} {x : DdV} {u : Value} {rest : List Value} (h : R[k]? = some x) (hq : q < 9) (hn : n' = k * 9 + q) (hu : (ddV x)[q]? = some u) : (ddCs R ++ rest)[n']? = some u := by
 subst hn
 obtain ⟨hk, hx⟩ := List.getElem?_eq_some_iff.1 h
 have e : R = R.take k ++ x :: R.drop (k + 1) := by rw [← hx, ← List.drop_eq_getElem_cons hk, List.take_append_drop]
 have hl : (ddCs (R.take k)).length = k * 9 := by rw [ddCs_len, List.length_take]; omega
 have e3 : ddCs R = ddCs (R.take k) ++ (ddV x ++ ddCs (R.drop (k + 1))) := by
  conv => lhs; rw [e]
  rw [ddCs_app]; rfl
 have h9 : (ddV x).length = 9 := rfl
 rw [e3, ← hl, List.append_assoc, List.getElem?_append_right (by omega), Nat.add_sub_cancel_left, List.append_assoc, List.getElem?_append_left (by omega)]
 exact hu
theorem DdK.shape {w00 : World} {L : List (Nat × Obj)} {x : DdV} (h : DdK w00 L x) : ∃ p1 c1 p2 c2, x.2 = (.slice p1 x.1.r.d.length c1, .slice p2 x.1.r.l.length c2) ∧ BytesK w00 L (.slice p1 x.1.r.d.length c1) x.1.r.d ∧ SgK w00 L (.slice p2 x.1.r.l.length c2) 1 x.1.r.l.length (strCs x.1.r.l) := by
 obtain ⟨p1, c1, p2, c2, e, h1, h2⟩ := h
 obtain ⟨d, a, b⟩ := x
 simp only [rsV, Value.agg.injEq, Array.mk.injEq, List.cons.injEq, true_and, and_true] at e
 obtain ⟨rfl, rfl⟩ := e
 exact ⟨p1, c1, p2, c2, rfl, h1, h2⟩
theorem DdK.mk {w00 : World} {L L1 L2 : List (Nat × Obj)} {d : Dd} {v1 v2 : Value} (h1 : OwL L1 v1 1 d.r.d.length (byteCs d.r.d)) (h2 : OwL L2 v2 1 d.r.l.length (strCs d.r.l)) (s1 : ∀ y ∈ L1, y ∈ L) (s2 : ∀ y ∈ L2, y ∈ L) : DdK w00 L (d, v1, v2) := by
 obtain ⟨p1, c1, rfl⟩ := h1.shape
 obtain ⟨p2, c2, rfl⟩ := h2.shape
 exact ⟨p1, c1, p2, c2, rfl, SgK.own h1 (by decide) s1, SgK.own h2 (by decide) s2⟩
def DidK (w00 : World) (L : List (Nat × Obj)) (v : Value) (o : List Dd) : Prop := ∃ R : List DdV, R.map (·.1) = o ∧ SgK w00 L v 9 o.length (ddCs R) ∧ ∀ x ∈ R, DdK w00 L x
theorem VfW.grow2 {w00 w w1 : World} {X : List (Nat × Obj)} {I : VfI} {S : VS} {m : VM} {L LN : List (Nat × Obj)} (hR : VMR w00 L I S m) (M0 : Sep w00 (X ++ (vmB I S m ++ L)) w) (M : Sep w LN w1) : VfW w00 (LN ++ X) I S w1 := VfW.grow ⟨m, L, hR, M0⟩ M
end Go.Proofs.Ytebfjdolgchgaaa

namespace Go.Proofs.Ytebfjdolgchgaaa
open Go Go.Fw Go.RowKit Go.Proofs
set_option linter.unusedVariables false
set_option linter.unusedSimpArgs false
set_option maxRecDepth 100000
set_option maxHeartbeats 4000000

-- slices.Clone[[]byte,byte]
theorem clone_c {w0 : World} {v : Value} {b : List UInt8} (h : BytesAt w0 v b) (hl : b.length ≤ 1099511627776) : Ret Try.prog 29 #[v] w0 fun r w' => ∃ Lr, Sep w0 Lr w' ∧ BytesO Lr r b := by
 have M : Sep w0 [] w0 := St.nil w0
 obtain ⟨p, cap, rfl⟩ := h.shape
 refine Ret.of_W Try.func29 rfl Try.ntmps29 rfl ?_
 refine cnd 1 ?_ ?_
 ·intro hco1
  have hp : p = none := by simpa using hco1
  subst hp
  have hb : b = [] := by
   rcases h with ⟨h, _⟩ | ⟨_, h, _⟩ | ⟨_, _, _, _, _, _, h, _⟩
   ·exact List.length_eq_zero_iff.1 h
   ·exact List.length_eq_zero_iff.1 h
   ·cases h
  subst hb
  refine go 1 ?_
  exact ⟨[], M, OwL.nil⟩
 ·intro hco1
  refine go 0 ?_
  refine x_bs0 rfl rfl rfl Try.underlying56 sz5 ?_
  intro bb wb hbb hwb
  have M := M.acons hbb hwb
  refine ⟨trivial, ?_⟩
  refine go 0 ?_
  refine x_apL (L := [_]) (L0 := []) (cs := []) (nn := 0) rfl rfl rfl rfl Try.underlying56 sz5 ze5 rfl by5 rfl rfl (.inr ⟨bb, 0, [], _, rfl, rfl, rfl, rfl⟩) M (by simp) ((h.new M.frm).src Try.underlying56 (byteCs_one _)) (by omega) (by decide) (by omega) ?_
  intro Lo v6 w6 how M
  rw [Nat.zero_add, List.nil_append] at how
  refine ⟨trivial, ?_⟩
  refine go 1 ?_
  exact ⟨Lo, by simpa using M, how⟩

-- slices.Clone[[]valise/api.Did,valise/api.Did]
theorem clonedid_c {w0 : World} {v : Value} {n : Nat} {cs : List Value} (h : Sg w0 v 9 n cs) (h1 : ∀ u ∈ cs, u.oneCell' = true) (hl : n ≤ 100000) : Ret Try.prog 35 #[v] w0 fun r w' => ∃ Lr, Sep w0 Lr w' ∧ OwL Lr r 9 n cs := by
 have M : Sep w0 [] w0 := St.nil w0
 obtain ⟨p, cap, rfl⟩ := h.shape
 refine Ret.of_W Try.func35 rfl Try.ntmps35 rfl ?_
 refine cnd 1 ?_ ?_
 ·intro hco1
  have hp : p = none := by simpa using hco1
  subst hp
  obtain ⟨rfl, rfl⟩ : n = 0 ∧ cs = [] := by
   rcases h with ⟨h, h2, _⟩ | ⟨_, h, h2⟩ | ⟨_, _, _, _, _, _, h, _⟩
   ·exact ⟨h, h2⟩
   ·exact ⟨h, h2⟩
   ·cases h
  refine go 1 ?_
  exact ⟨[], M, OwL.nil⟩
 ·intro hco1
  refine go 0 ?_
  refine x_bs0 rfl rfl rfl Try.underlying44 sz61 ?_
  intro bb wb hbb hwb
  have M := M.acons hbb hwb
  refine ⟨trivial, ?_⟩
  refine go 0 ?_
  refine x_apL (L := [_]) (L0 := []) (cs := []) (nn := 0) rfl rfl rfl rfl Try.underlying44 sz61 ze61 rfl by61 rfl rfl (.inr ⟨bb, 0, [], _, rfl, rfl, rfl, rfl⟩) M (by simp) ((h.new M.frm).src Try.underlying44 h1) (by omega) (by decide) (by omega) ?_
  intro Lo v6 w6 how M
  rw [Nat.zero_add, List.nil_append] at how
  refine ⟨trivial, ?_⟩
  refine go 1 ?_
  exact ⟨Lo, by simpa using M, how⟩

-- slices.Clone[[]string,string]
theorem clonestr_c {w0 : World} {v : Value} {n : Nat} {cs : List Value} (h : Sg w0 v 1 n cs) (h1 : ∀ u ∈ cs, u.oneCell' = true) (hl : n ≤ 100000) : Ret Try.prog 36 #[v] w0 fun r w' => ∃ Lr, Sep w0 Lr w' ∧ OwL Lr r 1 n cs := by
 have M : Sep w0 [] w0 := St.nil w0
 obtain ⟨p, cap, rfl⟩ := h.shape
 refine Ret.of_W Try.func36 rfl Try.ntmps36 rfl ?_
 refine cnd 1 ?_ ?_
 ·intro hco1
  have hp : p = none := by simpa using hco1
  subst hp
  obtain ⟨rfl, rfl⟩ : n = 0 ∧ cs = [] := by
   rcases h with ⟨h, h2, _⟩ | ⟨_, h, h2⟩ | ⟨_, _, _, _, _, _, h, _⟩
   ·exact ⟨h, h2⟩
   ·exact ⟨h, h2⟩
   ·cases h
  refine go 1 ?_
  exact ⟨[], M, OwL.nil⟩
 ·intro hco1
  refine go 0 ?_
  refine x_bs0 rfl rfl rfl Try.underlying57 sz9 ?_
  intro bb wb hbb hwb
  have M := M.acons hbb hwb
  refine ⟨trivial, ?_⟩
  refine go 0 ?_
  refine x_apL (L := [_]) (L0 := []) (cs := []) (nn := 0) rfl rfl rfl rfl Try.underlying57 sz9 ze9 rfl by9 rfl rfl (.inr ⟨bb, 0, [], _, rfl, rfl, rfl, rfl⟩) M (by simp) ((h.new M.frm).src Try.underlying57 h1) (by omega) (by decide) (by omega) ?_
  intro Lo v6 w6 how M
  rw [Nat.zero_add, List.nil_append] at how
  refine ⟨trivial, ?_⟩
  refine go 1 ?_
  exact ⟨Lo, by simpa using M, how⟩

-- (*valise/vfs.Sys).Order
theorem vorder_c {w00 w0 : World} {X : List (Nat × Obj)} {I : VfI} {S : VS} (M0 : VfW w00 X I S w0) (ho : S.o.length ≤ 100000) (hd : ∀ x ∈ S.o, x.r.d.length ≤ 1099511627776 ∧ x.r.l.length ≤ 100000) : Ret Try.prog 23 #[ptr I.bs] w0 fun r w' => ∃ LN, DidK w00 LN r S.o ∧ VfW w00 (LN ++ X) I S w' := by
 obtain ⟨m, L, hR, M0⟩ := M0
 have M : Sep w0 [] w0 := St.nil w0
 have hLL : ∀ y ∈ L, y ∈ X ++ (vmB I S m ++ L) := fun y hy => by simp [hy]
 have hol : m.oR.length = S.o.length := by rw [← hR.oo, List.length_map]
 have hsys : w0.heap[I.bs]? = some (.cells [.iface 30 (ptr m.bp), ptr m.lk.bl, m.cv, m.ov, .int .i64 (S.s : Int)].toArray 77 (0, 0)) := M0.get (by simp [vmB, sysB])
 have hsl : Sl w0 m.ov 9 m.oR.length (ddCs m.oR) := (hR.os.sl (by decide)).at_ M0 (fun y hy => by simp [vmB, hy])
 obtain ⟨po, co, hov⟩ := hR.os.shape
 rw [hov] at hsl hsys
 refine Ret.of_W Try.func23 rfl Try.ntmps23 rfl ?_
 refine go 1 ?_
 refine x_ld rfl rfl rfl Try.underlying44 rfl rfl (cell_of hsys rfl) ?_
 refine x_call rfl rfl rfl rfl rfl en35 (clonedid_c (Or.inr hsl) (ddCs_one hR.od) (by omega)) ?_
 rintro r_ wcall1 ⟨Lo, M1, how⟩
 have M := M.grow' M1
 rw [List.append_nil] at M
 obtain ⟨pr, cr, rfl⟩ := how.shape
 have hO0 : ∃ ro To bo, (m.oR.length = 0 ∨ pr = some ⟨bo, 0, none⟩ ∧ Lo = [(bo, .cells (ddCs m.oR ++ ro).toArray To (0, 0))]) ∧ ∀ R : List DdV, R.length = m.oR.length → ∃ L1, OwL L1 (.slice pr m.oR.length cr) 9 m.oR.length (ddCs R) ∧ (m.oR.length = 0 → L1 = Lo) ∧ (m.oR.length ≠ 0 → L1 = [(bo, .cells (ddCs R ++ ro).toArray To (0, 0))]) := by
  rcases how with ⟨e1, e2, e3, e4⟩ | ⟨b, cap, rest, T, e1, e2, e3, e4⟩
  ·refine ⟨[], 0, 0, .inl e2, fun R hRl => ⟨[], .inl ⟨e1, e2, List.length_eq_zero_iff.1 (by rw [ddCs_len]; omega), rfl⟩, fun _ => e4.symm, fun h => absurd e2 h⟩⟩
  ·cases e1
   refine ⟨rest, T, b, .inr ⟨rfl, e2⟩, fun R hRl => ?_⟩
   by_cases e : m.oR.length = 0
   ·have e5 : ddCs R = ddCs m.oR := by rw [List.length_eq_zero_iff.1 e, List.length_eq_zero_iff.1 (by omega : R.length = 0)]
    rw [e5]
    exact ⟨Lo, .inr ⟨b, cr, rest, T, rfl, e2, e3, e4⟩, fun _ => rfl, fun _ => e2⟩
   ·exact ⟨_, .inr ⟨b, cr, rest, T, rfl, rfl, by rw [ddCs_len, hRl], by rw [← e4, List.length_append, List.length_append, ddCs_len, ddCs_len, hRl]⟩, fun h => absurd h e, fun _ => rfl⟩
 obtain ⟨ro, To, bo, hcase, hown⟩ := hO0
 have hLo : ∃ L1, OwL L1 (.slice pr m.oR.length cr) 9 m.oR.length (ddCs m.oR) ∧ (m.oR.length = 0 → L1 = Lo) ∧ (m.oR.length ≠ 0 → L1 = [(bo, .cells (ddCs m.oR ++ ro).toArray To (0, 0))]) := hown _ rfl
 refine ⟨trivial, ?_⟩
 refine go 1 ?_
 refine W.loop (σ := Nat × List DdV) (fun s => [(3, _), (14, _), (15, .int .i64 ((s.1 : Nat) : Int))]) (fun s w => s.1 ≤ m.oR.length ∧ s.2.length = m.oR.length ∧ s.2.map (·.1) = S.o ∧ s.2.drop s.1 = m.oR.drop s.1 ∧ ∃ L1 Lc, (m.oR.length = 0 → L1 = Lo) ∧ (m.oR.length ≠ 0 → L1 = [(bo, .cells (ddCs s.2 ++ ro).toArray To (0, 0))]) ∧ (∀ x ∈ s.2.take s.1, DdK w00 Lc x) ∧ Sep w0 (L1 ++ Lc) w) (fun s => m.oR.length - s.1) (0, m.oR) ⟨rfl, rfl, rfl, trivial⟩ ⟨Nat.zero_le _, rfl, hR.oo, rfl, Lo, [], fun _ => rfl, fun h => (hcase.resolve_left h).2, fun x hx => (by cases hx), by rw [List.append_nil]; exact M⟩ ?_
 rintro ⟨j, R⟩ w ⟨hj, hRl, hRo, hRd, L1, Lc, hz, hnz, hDk, M⟩
 simp only at hj hRl hRo hRd hz hnz hDk M ⊢
 refine cnd 1 ?_ ?_
 ·intro hco2
  have hne : m.oR.length ≠ 0 := by omega
  obtain ⟨rfl, hLo1⟩ := hcase.resolve_left hne
  obtain rfl := hnz hne
  obtain ⟨x, hx⟩ := get_lt (l := m.oR) (q := j) (by omega)
  have hxR : R[j]? = some x := by
   have := congrArg (·[0]?) hRd
   simpa [hx] using this
  have hxo : x.1 ∈ S.o := by rw [← hRo]; exact List.mem_map_of_mem (List.mem_of_getElem? hxR)
  obtain ⟨hd1, hd2⟩ := hd _ hxo
  have hxk := hR.od x (List.mem_of_getElem? hx)
  obtain ⟨p1, c1, p2, c2, hxv, hxb, hxs⟩ := hxk.shape
  obtain ⟨d, dv⟩ := x
  simp only at hxv hxb hxs hd1 hd2
  subst hxv
  have hcl : (ddCs R ++ ro).length ≥ m.oR.length * 9 := by rw [List.length_append, ddCs_len, hRl]; omega
  refine go 0 ?_
  refine x_ia j rfl rfl rfl Try.underlying44 sz61 rfl rfl rfl (by omega) ?_
  refine go 0 ?_
  refine W.regD (by kernel_rfl) #[0, 0, 0, 4, 12, 28, 60, 0, 128, 384, 896, 2044, 4093, 8189, 16381, 32767, 65535, 131071] [(0, false), (1, false), (2, false), (3, false), (4, false), (5, false), (7, false), (8, false), (9, false), (10, false), (6, true), (11, true), (12, false), (13, false), (14, true), (15, false), (16, false), (17, true)] (by kernel_rfl) ?_
  intro K wD1 hK hwD1
  have M := M.drew hwD1
  refine go 0 ?_
  refine x_ld rfl rfl rfl Try.underlying56 rfl rfl (cell_of (M.at_ 0 rfl) (ddCs_get (q := 7) hxR (by decide) (by omega) rfl)) ?_
  refine go 0 ?_
  refine x_ld rfl rfl rfl Try.underlying57 rfl rfl (cell_of (M.at_ 0 rfl) (ddCs_get (q := 8) hxR (by decide) (by omega) rfl)) ?_
  refine x_call rfl rfl rfl rfl rfl en29 (clone_c (hxb _ _ (M0.grow' M) (fun y hy => List.mem_append_right _ (hLL y hy))) hd1) ?_
  rintro vcall2 wcall2 ⟨L2, M2, hb2⟩
  have M := M.grow M2
  obtain ⟨q1, k1, rfl⟩ := OwL.shape hb2
  refine ⟨⟨.inr (cell_of (M.at_ 0 rfl) (ddCs_get (n' := 0 + j * 9 + 4 + 4) (q := 8) hxR (by decide) (by omega) rfl)), .inl (by kernel_rfl), trivial⟩, ?_⟩
  refine x_call rfl rfl rfl rfl rfl en36 (clonestr_c (hxs _ _ (M0.grow' M) (fun y hy => List.mem_append_right _ (hLL y hy))) (strCs_one _) hd2) ?_
  rintro vcall3 wcall3 ⟨L3, M3, hb3⟩
  have M := M.grow M3
  obtain ⟨q2, k2, rfl⟩ := hb3.shape
  refine pnd ?_
  refine go 0 ?_
  refine x_st [_] (ddCs (R.set j (d, .slice q1 d.r.d.length k1, .slice p2 d.r.l.length c2)) ++ ro) rfl rfl rfl sz56 rfl rfl rfl rfl (M.at_ 0 rfl) rfl (Nat.ble_eq_true_of_le (by simp only [List.length_cons, List.length_nil]; omega)) (ddCs_put (q := 7) hxR (by decide) (by omega) rfl) ?_
  intro wst1 hwst1
  have M := M.put 0 rfl hwst1
  have hxR2 : (R.set j (d, .slice q1 d.r.d.length k1, .slice p2 d.r.l.length c2))[j]? = some (d, .slice q1 d.r.d.length k1, .slice p2 d.r.l.length c2) := by rw [List.getElem?_set, if_pos rfl, if_pos (by omega)]
  refine pnd ?_
  refine go 0 ?_
  refine x_st [_] (ddCs (R.set j (d, .slice q1 d.r.d.length k1, .slice q2 d.r.l.length k2)) ++ ro) rfl rfl rfl sz57 rfl rfl rfl rfl (M.at_ 0 rfl) rfl (Nat.ble_eq_true_of_le (by simp only [List.length_cons, List.length_nil, List.length_append, ddCs_len, List.length_set] at hcl ⊢; omega)) ((ddCs_put (q := 8) (x' := (d, .slice q1 d.r.d.length k1, .slice q2 d.r.l.length k2)) hxR2 (by decide) (by omega) rfl).trans (by rw [List.set_set])) ?_
  intro wst2 hwst2
  have M := M.put 0 rfl hwst2
  refine pnd ?_
  refine go 0 ?_
  refine x_add _ rfl rfl rfl rfl rfl (wadd (by omega) (by omega)) ?_
  refine go 0 ?_
  exact At.back ((j + 1, R.set j (d, .slice q1 d.r.d.length k1, .slice q2 d.r.l.length k2))) ⟨rfl, rfl, rfl, trivial⟩ ⟨by simp only; omega, by simp only [List.length_set]; exact hRl, by
   simp only [List.map_set]
   rw [hRo]
   exact (set_same (by rw [← hRo, List.getElem?_map, hxR]; rfl)).symm, by
   simp only
   rw [List.drop_set_of_lt (by omega)]
   have := congrArg (List.drop 1) hRd
   simpa using this, _, Lc ++ L2 ++ L3, fun h => absurd h hne, fun _ => rfl, fun y hy => by
   simp only at hy
   rw [take_snoc (x := (d, .slice q1 d.r.d.length k1, .slice q2 d.r.l.length k2)) (by rw [List.getElem?_set, if_pos rfl, if_pos (by omega)]), List.take_set_of_le (Nat.le_refl _)] at hy
   rcases List.mem_append.1 hy with h | h
   ·exact (hDk y h).mono (fun z hz => by simp [hz])
   ·obtain rfl := List.mem_singleton.1 h
    exact DdK.mk hb2 hb3 (fun z hz => by simp [hz]) (fun z hz => by simp [hz]), by simpa only [List.append_assoc, List.cons_append, List.nil_append, List.set_cons_zero] using M⟩ (by first | omega | (simp only; omega) | (simp; done) | (simp; omega))
 ·intro hco2
  refine go 1 ?_
  have hj2 : j = m.oR.length := by omega
  subst hj2
  rw [← hRl, List.take_length] at hDk
  obtain ⟨L4, hL4, hz4, hnz4⟩ := hown R hRl
  obtain rfl : L4 = L1 := by
   by_cases e : m.oR.length = 0
   ·rw [hz e, hz4 e]
   ·rw [hnz e, hnz4 e]
  exact ⟨L4 ++ Lc, ⟨R, hRo, by rw [← hol]; exact SgK.own hL4 (by decide) (fun y hy => List.mem_append_left _ hy), fun x hx => (hDk x hx).mono (fun y hy => List.mem_append_right _ hy)⟩, VfW.grow2 hR M0 M⟩

end Go.Proofs.Ytebfjdolgchgaaa

namespace Go.Proofs.Ytebfjdolgchgaaa
open Go Go.Fw Go.RowKit
set_option linter.unusedVariables false
set_option linter.unusedSimpArgs false
def LsK (w00 : World) (L : List (Nat × Obj)) (v : Value) (ls : List (List OpS)) : Prop := ∃ vs : List Value, vs.length = ls.length ∧ SgK w00 L v 1 ls.length vs ∧ ∀ (i : Nat) (u : Value) (l : List OpS), vs[i]? = some u → ls[i]? = some l → OpsK w00 L u l
def newC (l : List OpS) : Cl := ⟨l, 0, 0, 0, 0, [], false⟩
abbrev OpVv := OpS × Value
def opCs (R : List OpVv) : List Value := R.flatMap fun x => opC x.1 x.2
theorem opCs_app (a b : List OpVv) : opCs (a ++ b) = opCs a ++ opCs b := List.flatMap_append
theorem opCs_one {R : List OpVv} (h : ∀ x ∈ R, x.2.oneCell' = true) : ∀ u ∈ opCs R, u.oneCell' = true := by
 intro u hu
 obtain ⟨x, hx, hu⟩ := List.mem_flatMap.1 hu
 have := h x hx
 simp only [opC, List.mem_cons, List.not_mem_nil, or_false] at hu
 rcases hu with rfl | rfl | rfl | rfl | rfl | rfl | rfl | rfl | rfl <;> first | rfl | exact this
theorem opRow {w : World} {b off cap n k : Nat} {R : List OpVv} {x : OpVv} (h : Sl w (.slice (some ⟨b, off, none⟩) n cap) 9 n (opCs R)) (hj : R[k]? = some x) : RowAt w b (off + k * 9) (opC x.1 x.2) :=
 h.row (j := k) (l := opC x.1 x.2) rfl (flat_drop (m := 9) (e1 := fun x : OpVv => opC x.1 x.2) (by decide) (fun _ _ => rfl) hj) (by simp [opC])
theorem cliB_snoc {bs : Nat} {c : Cl} {x : CM} : ∀ {cs : List Cl} {ms : List CM} {k : Nat}, ms.length = cs.length → cliB bs k (cs ++ [c]) (ms ++ [x]) = cliB bs k cs ms ++ [cBk bs (k + cs.length) c x]
 | [], [], k, _ => rfl
 | a :: cs, [], k, h => by simp at h
 | [], y :: ms, k, h => by simp at h
 | a :: cs, y :: ms, k, h => by
  show cBk bs k a y :: cliB bs (k + 1) (cs ++ [c]) (ms ++ [x]) = cBk bs k a y :: (cliB bs (k + 1) cs ms ++ [cBk bs (k + (cs.length + 1)) c x])
  rw [cliB_snoc (by simpa using h), show k + 1 + cs.length = k + (cs.length + 1) by omega]
theorem OpsK.own {w00 : World} {L lD LR : List (Nat × Obj)} {lv : Value} {R : List OpVv} {l : List OpS} {k : Nat} (hR : R.map (·.1) = l) (hk : k = l.length) (h : OwL lD lv 9 k (opCs R)) (hb : ∀ x ∈ R, BytesK w00 LR x.2 x.1.d) (h1 : ∀ y ∈ lD, y ∈ L) (h2 : ∀ y ∈ LR, y ∈ L) : OpsK w00 L lv l := by
 subst hk
 exact ⟨R, hR, SgK.own h (by decide) h1, fun x hx => (hb x hx).mono h2⟩
end Go.Proofs.Ytebfjdolgchgaaa

namespace Go.Proofs.Ytebfjdolgchgaaa
open Go Go.Fw Go.RowKit Go.Proofs
set_option linter.unusedVariables false
set_option linter.unusedSimpArgs false
set_option maxRecDepth 100000
set_option maxHeartbeats 4000000

-- valise/vfs.New
theorem vnew_c {w00 w0 : World} {X L : List (Nat × Obj)} {v u hv : Value} {ls : List (List OpS)} {f : List Raw} {hl : List Opn} {bp : Nat} (M : Sep w00 ((bp, .cells [u, hv].toArray 39 (0, 0)) :: (X ++ L)) w0) (h : LsK w00 L v ls) (hF : FilesK w00 L u f) (hO : OpnK w00 L hv hl) (hI : RI f hl) (h1 : 1 ≤ ls.length) (h8 : ls.length ≤ 8) (hll : ∀ l ∈ ls, l.length ≤ 1000) (hdl : ∀ l ∈ ls, ∀ o ∈ l, o.d.length ≤ 131072) : Ret Try.prog 12 #[.iface 30 (ptr bp), v] w0 fun r w' => ∃ I : VfI, r = .tuple #[ptr I.bs, .int .i64 0] ∧ VfW w00 X I (newV f (hfL hl) ls) w' := by
 obtain ⟨vs, hvl, hvs, hop⟩ := h
 obtain ⟨pv, cv0, rfl⟩ := (hvs _ _ M (fun y hy => by simp [hy])).shape
 refine Ret.of_W Try.func12 rfl Try.ntmps12 rfl ?_
 refine go 0 ?_
 refine x_eqif false rfl rfl rfl Try.underlying73 rfl rfl rfl ?_
 refine go 1 ?_
 refine x_lss false rfl rfl rfl rfl rfl (decide_eq_false (by omega)) ?_
 refine go 1 ?_
 refine x_gtr false rfl rfl rfl rfl rfl (decide_eq_false (by omega)) ?_
 refine go 0 ?_
 refine x_call rfl rfl rfl rfl rfl en27 (lnew_c) ?_
 rintro r_ wcall1 ⟨s1, rfl, hR1, M1⟩
 have M := M.grow' M1
 refine ⟨trivial, ?_⟩
 refine go 2 ?_
 intro bbx1 wbx1 M
 refine go 1 ?_
 refine W.loop (σ := Nat) (fun j => [(6, _), (28, _), (29, _), (30, .int .i64 ((j : Nat) : Int))]) (fun j w => j ≤ ls.length ∧ ∃ cm cD cv Lc, cm.length = j ∧ OwL cD cv 1 j (cm.map fun x => ptr x.b) ∧ (∀ (i : Nat) (x : CM) (l : List OpS), cm[i]? = some x → ls[i]? = some l → OpsK w00 Lc x.v l) ∧ Sep w00 ((bbx1, .cells [.iface 30 (ptr bp), ptr s1.bl, cv, .slice none 0 0, .int .i64 0].toArray 77 (0, 0)) :: ((bp, .cells [u, hv].toArray 39 (0, 0)) :: (lkB s1 ++ ((cliB bbx1 0 ((ls.take j).map newC) cm) ++ (cD ++ (Lc ++ (X ++ L))))))) w) (fun j => ls.length - j) 0 ⟨rfl, rfl, rfl, rfl, trivial⟩ ⟨Nat.zero_le _, [], [], _, [], rfl, OwL.nil, fun i x l h => (by simp at h), (show Sep w00 ((bbx1, .cells [.iface 30 (ptr bp), ptr s1.bl, .slice none 0 0, .slice none 0 0, .int .i64 0].toArray 77 (0, 0)) :: ((bp, .cells [u, hv].toArray 39 (0, 0)) :: (lkB s1 ++ ([] ++ ([] ++ ([] ++ (X ++ L))))))) wbx1 from (show Sep w00 ((bbx1, .cells [.iface 30 (ptr bp), ptr s1.bl, .slice none 0 0, .slice none 0 0, .int .i64 0].toArray 77 (0, 0)) :: (lkB s1 ++ ((bp, .cells [u, hv].toArray 39 (0, 0)) :: (X ++ L)))) wbx1 from M).perm (perm_c fun p => by simp only [List.countP_append, List.countP_cons, List.countP_nil]; omega))⟩ ?_
 rintro j w ⟨hj, cm, cD, cv, Lc, hcm, hcv, hops, M⟩
 obtain ⟨pc, cc, rfl⟩ := hcv.shape
 refine cnd 1 ?_ ?_
 ·intro hco3
  obtain ⟨l, hl⟩ := get_lt (l := ls) (q := j) (by omega)
  obtain ⟨uv, huv⟩ := get_lt (l := vs) (q := j) (by omega)
  have hlm := List.mem_of_getElem? hl
  have hopk := hop j uv l huv hl
  have hsv := hvs _ _ M (fun y hy => by simp [hy])
  obtain ⟨b5, off5, rfl, _⟩ := Sg.blk (j := j) hsv (by omega)
  have hcell := Sl.cell1 (Sg.sl hsv (by omega)) huv
  obtain ⟨R0, hR0, hsg0, hb0⟩ := hopk
  obtain ⟨pu, cu, rfl⟩ := (hsg0 _ _ M (fun y hy => by simp [hy])).shape
  have hll1 := hll l hlm
  refine go 0 ?_
  refine x_ia j rfl rfl rfl Try.underlying22 sz62 rfl rfl rfl (by omega) ?_
  refine x_ld rfl rfl rfl Try.underlying62 rfl rfl hcell ?_
  refine go 3 ?_
  intro bbx2 _ M
  refine go 1 ?_
  refine W.loop (σ := Nat) (fun k => [(6, _), (9, _), (28, _), (29, _), (30, _), (40, _), (41, _), (42, .int .i64 ((k : Nat) : Int))]) (fun k w => k ≤ l.length ∧ ∃ lv lD R LR, R.map (·.1) = l.take k ∧ OwL lD lv 9 k (opCs R) ∧ (∀ x ∈ R, BytesK w00 LR x.2 x.1.d) ∧ (∀ x ∈ R, x.2.oneCell' = true) ∧ Sep w00 ((bbx2, .cells [.int .i64 ((j : Nat) : Int), lv, .int .i64 0, .func (.func 28) #[ptr bbx1] #[], .int .i64 0, .int .i64 0, strV [], .bool false].toArray 83 (0, 0)) :: (bbx1, .cells [.iface 30 (ptr bp), ptr s1.bl, .slice pc j cc, .slice none 0 0, .int .i64 0].toArray 77 (0, 0)) :: (lD ++ (LR ++ ((bp, .cells [u, hv].toArray 39 (0, 0)) :: (lkB s1 ++ ((cliB bbx1 0 ((ls.take j).map newC) cm) ++ (cD ++ (Lc ++ (X ++ L))))))))) w) (fun k => l.length - k) 0 ⟨rfl, rfl, rfl, rfl, rfl, rfl, rfl, rfl, trivial⟩ ⟨Nat.zero_le _, _, [], [], [], rfl, OwL.nil, fun x hx => (by cases hx), fun x hx => (by cases hx), M⟩ ?_
  rintro k w ⟨hk, lv, lD, R, LR, hR, hlv, hRb, hR1, M⟩
  obtain ⟨pl, cl, rfl⟩ := hlv.shape
  refine cnd 1 ?_ ?_
  ·intro hco4
   obtain ⟨x, hx⟩ := get_lt (l := R0) (q := k) (by rw [← List.length_map (f := (·.1)), hR0]; omega)
   obtain ⟨o, dv⟩ := x
   have hxo : l[k]? = some o := by rw [← hR0, List.getElem?_map, hx]; rfl
   have hod := hdl l hlm o (List.mem_of_getElem? hxo)
   have hs0 := hsg0 _ _ M (fun y hy => by simp [hy])
   obtain ⟨b6, off6, rfl, _⟩ := Sg.blk (j := k) hs0 (by omega)
   have hrow := opRow (Sg.sl hs0 (by omega)) hx
   have hbd := hb0 _ (List.mem_of_getElem? hx)
   obtain ⟨pd, cd, hdv⟩ := Sg.shape (hbd _ _ M (fun y hy => by simp [hy]))
   simp only at hdv
   subst hdv
   refine go 0 ?_
   refine x_ia k rfl rfl rfl Try.underlying62 sz66 rfl rfl rfl (by omega) ?_
   refine x_ldA [_, _, _, _, _, _, _, _, _] rfl rfl rfl Try.underlying66 rfl sz66 rfl rfl hrow ?_
   refine go 1 ?_
   intro bal1 _ M
   refine x_st [_, _, _, _, _, _, _, _, _] _ rfl rfl rfl sz66 rfl rfl rfl rfl atM rfl rfl rfl ?_
   intro wst1 hwst1
   have M : Sep w00 ((bal1, .cells (opC o (.slice pd o.d.length cd)).toArray 66 (0, 0)) :: (bbx2, .cells [.int .i64 ((j : Nat) : Int), .slice pl k cl, .int .i64 0, .func (.func 28) #[ptr bbx1] #[], .int .i64 0, .int .i64 0, strV [], .bool false].toArray 83 (0, 0)) :: (bbx1, .cells [.iface 30 (ptr bp), ptr s1.bl, .slice pc j cc, .slice none 0 0, .int .i64 0].toArray 77 (0, 0)) :: (lD ++ (LR ++ ((bp, .cells [u, hv].toArray 39 (0, 0)) :: (lkB s1 ++ ((cliB bbx1 0 ((ls.take j).map newC) cm) ++ (cD ++ (Lc ++ (X ++ L))))))))) wst1 := M.put 0 rfl hwst1
   refine ⟨trivial, ?_⟩
   refine go 1 ?_
   refine x_call rfl rfl rfl rfl rfl en29 (clone_c (hbd _ _ M (fun y hy => by simp [hy])) (by simp only; omega)) ?_
   rintro vcall2 wcall2 ⟨L2, M2, hb2⟩
   have M := M.grow M2
   obtain ⟨q2, k2, rfl⟩ := OwL.shape hb2
   simp only at hb2
   have M : Sep w00 ((bal1, .cells (opC o (.slice pd o.d.length cd)).toArray 66 (0, 0)) :: (bbx2, .cells [.int .i64 ((j : Nat) : Int), .slice pl k cl, .int .i64 0, .func (.func 28) #[ptr bbx1] #[], .int .i64 0, .int .i64 0, strV [], .bool false].toArray 83 (0, 0)) :: (bbx1, .cells [.iface 30 (ptr bp), ptr s1.bl, .slice pc j cc, .slice none 0 0, .int .i64 0].toArray 77 (0, 0)) :: (lD ++ ((LR ++ L2) ++ ((bp, .cells [u, hv].toArray 39 (0, 0)) :: (lkB s1 ++ ((cliB bbx1 0 ((ls.take j).map newC) cm) ++ (cD ++ (Lc ++ (X ++ L))))))))) wcall2 := M.perm (perm_c fun p => by simp only [List.countP_append, List.countP_cons, List.countP_nil]; omega)
   refine ⟨trivial, ?_⟩
   refine go 0 ?_
   refine x_st [_] _ rfl rfl rfl sz56 rfl rfl rfl rfl atM rfl rfl rfl ?_
   intro wst2 hwst2
   have M : Sep w00 ((bal1, .cells (opC o (.slice q2 o.d.length k2)).toArray 66 (0, 0)) :: (bbx2, .cells [.int .i64 ((j : Nat) : Int), .slice pl k cl, .int .i64 0, .func (.func 28) #[ptr bbx1] #[], .int .i64 0, .int .i64 0, strV [], .bool false].toArray 83 (0, 0)) :: (bbx1, .cells [.iface 30 (ptr bp), ptr s1.bl, .slice pc j cc, .slice none 0 0, .int .i64 0].toArray 77 (0, 0)) :: (lD ++ ((LR ++ L2) ++ ((bp, .cells [u, hv].toArray 39 (0, 0)) :: (lkB s1 ++ ((cliB bbx1 0 ((ls.take j).map newC) cm) ++ (cD ++ (Lc ++ (X ++ L))))))))) wst2 := M.put 0 rfl hwst2
   refine ⟨trivial, ?_⟩
   refine go 0 ?_
   refine W.regD (by kernel_rfl) #[0, 0, 2, 6, 14, 0, 32, 126, 255, 511, 1023] [(0, false), (1, false), (2, false), (3, false), (4, false), (5, false), (6, true), (7, true), (8, false), (9, false), (10, true)] (by kernel_rfl) ?_
   intro K wD1 hK hwD1
   have M := M.drew hwD1
   refine go 2 ?_
   refine x_bs1 (cs := (opC o (.slice q2 o.d.length k2))) rfl rfl rfl Try.underlying62 sz66 ze66 (Z := [_, _, _, _, _, _, _, _, _]) rfl rfl (by decide) (by decide) rfl rfl rfl ?_
   intro bbs1 wbs1 hbbs1 hwbs1
   have M0 := M.acons hbbs1 hwbs1
   have hslbs1 : Sl wbs1 (.slice (some ⟨bbs1, 0, none⟩) 1 1) 9 1 (opC o (.slice q2 o.d.length k2)) := .inr ⟨bbs1, 0, 1, _, _, _, rfl, by omega, M0.at_ 0 rfl, rfl, rfl⟩
   have M := M0.tail
   refine pnd ?_
   have M : Sep w00 (lD ++ ((bal1, .cells (opC o (.slice q2 o.d.length k2)).toArray 66 (0, 0)) :: (bbx2, .cells [.int .i64 ((j : Nat) : Int), .slice pl k cl, .int .i64 0, .func (.func 28) #[ptr bbx1] #[], .int .i64 0, .int .i64 0, strV [], .bool false].toArray 83 (0, 0)) :: (bbx1, .cells [.iface 30 (ptr bp), ptr s1.bl, .slice pc j cc, .slice none 0 0, .int .i64 0].toArray 77 (0, 0)) :: ((LR ++ L2) ++ ((bp, .cells [u, hv].toArray 39 (0, 0)) :: (lkB s1 ++ ((cliB bbx1 0 ((ls.take j).map newC) cm) ++ (cD ++ (Lc ++ (X ++ L))))))))) _ := M.perm (perm_c fun p => by simp only [List.countP_append, List.countP_cons, List.countP_nil]; omega)
   refine x_apL rfl rfl rfl rfl Try.underlying62 sz66 ze66 rfl by66 rfl rfl hlv M (opCs_one hR1) (hslbs1.src Try.underlying62 (by intro u hu; simp only [opC, List.mem_cons, List.not_mem_nil, or_false] at hu; rcases hu with rfl | rfl | rfl | rfl | rfl | rfl | rfl | rfl | rfl <;> rfl)) (by omega) (by decide) (by omega) ?_
   intro Lo v6 wap1 how M
   have M : Sep w00 ((bal1, .cells (opC o (.slice q2 o.d.length k2)).toArray 66 (0, 0)) :: (bbx2, .cells [.int .i64 ((j : Nat) : Int), .slice pl k cl, .int .i64 0, .func (.func 28) #[ptr bbx1] #[], .int .i64 0, .int .i64 0, strV [], .bool false].toArray 83 (0, 0)) :: (bbx1, .cells [.iface 30 (ptr bp), ptr s1.bl, .slice pc j cc, .slice none 0 0, .int .i64 0].toArray 77 (0, 0)) :: (Lo ++ ((LR ++ L2) ++ ((bp, .cells [u, hv].toArray 39 (0, 0)) :: (lkB s1 ++ ((cliB bbx1 0 ((ls.take j).map newC) cm) ++ (cD ++ (Lc ++ (X ++ L))))))))) _ := M.perm (perm_c fun p => by simp only [List.countP_append, List.countP_cons, List.countP_nil]; omega)
   obtain ⟨p6, c6, rfl⟩ := how.shape
   refine pnd ?_
   refine go 0 ?_
   refine x_st [_] _ rfl rfl rfl sz62 rfl rfl rfl rfl atM rfl rfl rfl ?_
   intro wst3 hwst3
   have M : Sep w00 ((bal1, .cells (opC o (.slice q2 o.d.length k2)).toArray 66 (0, 0)) :: (bbx2, .cells [.int .i64 ((j : Nat) : Int), .slice p6 (k + 1) c6, .int .i64 0, .func (.func 28) #[ptr bbx1] #[], .int .i64 0, .int .i64 0, strV [], .bool false].toArray 83 (0, 0)) :: (bbx1, .cells [.iface 30 (ptr bp), ptr s1.bl, .slice pc j cc, .slice none 0 0, .int .i64 0].toArray 77 (0, 0)) :: (Lo ++ ((LR ++ L2) ++ ((bp, .cells [u, hv].toArray 39 (0, 0)) :: (lkB s1 ++ ((cliB bbx1 0 ((ls.take j).map newC) cm) ++ (cD ++ (Lc ++ (X ++ L))))))))) wst3 := M.put 1 rfl hwst3
   refine pnd ?_
   refine go 0 ?_
   refine x_add _ rfl rfl rfl rfl rfl (wadd (by omega) (by omega)) ?_
   refine go 0 ?_
   exact At.back (k + 1) ⟨rfl, rfl, rfl, rfl, rfl, rfl, rfl, rfl, trivial⟩ ⟨by omega, _, Lo, R ++ [(o, .slice q2 o.d.length k2)], LR ++ L2, by rw [List.map_append, hR, take_snoc hxo]; rfl, by rw [opCs_app]; exact how, fun y hy => by
    rcases List.mem_append.1 hy with h | h
    ·exact (hRb y h).mono (fun z hz => List.mem_append_left _ hz)
    ·obtain rfl := List.mem_singleton.1 h
     exact SgK.own hb2 (by decide) (fun z hz => List.mem_append_right _ hz), fun y hy => by
    rcases List.mem_append.1 hy with h | h
    ·exact hR1 y h
    ·obtain rfl := List.mem_singleton.1 h
     rfl, M.tail⟩ (by first | omega | (simp only; omega) | (simp; done) | (simp; omega))
  ·intro hco4
   obtain rfl : k = l.length := by omega
   rw [List.take_length] at hR
   have hcm1 : ∀ u ∈ cm.map (fun x => ptr x.b), u.oneCell' = true := by
    intro u hu
    obtain ⟨x, _, rfl⟩ := List.mem_map.1 hu
    rfl
   have hok : OpsK w00 (lD ++ LR) (.slice pl l.length cl) l := OpsK.own hR rfl hlv hRb (fun y hy => List.mem_append_left _ hy) (fun y hy => List.mem_append_right _ hy)
   refine go 1 ?_
   refine x_bs1 (cs := [ptr bbx2]) rfl rfl rfl Try.underlying75 sz80 ze80 (Z := [_]) rfl rfl (by decide) (by decide) rfl rfl rfl ?_
   intro bbs2 wbs2 hbbs2 hwbs2
   have M0 := M.acons hbbs2 hwbs2
   have hslbs2 : Sl wbs2 (.slice (some ⟨bbs2, 0, none⟩) 1 1) 1 1 [ptr bbx2] := .inr ⟨bbs2, 0, 1, _, _, _, rfl, by omega, M0.at_ 0 rfl, rfl, rfl⟩
   have M := M0.tail
   refine ⟨trivial, ?_⟩
   have M : Sep w00 (cD ++ ((bbx2, .cells [.int .i64 ((j : Nat) : Int), .slice pl l.length cl, .int .i64 0, .func (.func 28) #[ptr bbx1] #[], .int .i64 0, .int .i64 0, strV [], .bool false].toArray 83 (0, 0)) :: (bbx1, .cells [.iface 30 (ptr bp), ptr s1.bl, .slice pc j cc, .slice none 0 0, .int .i64 0].toArray 77 (0, 0)) :: (lD ++ (LR ++ ((bp, .cells [u, hv].toArray 39 (0, 0)) :: (lkB s1 ++ ((cliB bbx1 0 ((ls.take j).map newC) cm) ++ (Lc ++ (X ++ L))))))))) _ := M.perm (perm_c fun p => by simp only [List.countP_append, List.countP_cons, List.countP_nil]; omega)
   refine x_apL rfl rfl rfl rfl Try.underlying75 sz80 ze80 rfl by80 rfl rfl hcv M hcm1 (hslbs2.src Try.underlying75 (by intro u hu; simp at hu; rcases hu with rfl; rfl)) (by omega) (by decide) (by omega) ?_
   intro Lo v6 wap2 how M
   have M : Sep w00 ((bbx2, .cells [.int .i64 ((j : Nat) : Int), .slice pl l.length cl, .int .i64 0, .func (.func 28) #[ptr bbx1] #[], .int .i64 0, .int .i64 0, strV [], .bool false].toArray 83 (0, 0)) :: (bbx1, .cells [.iface 30 (ptr bp), ptr s1.bl, .slice pc j cc, .slice none 0 0, .int .i64 0].toArray 77 (0, 0)) :: (lD ++ (LR ++ (Lo ++ ((bp, .cells [u, hv].toArray 39 (0, 0)) :: (lkB s1 ++ ((cliB bbx1 0 ((ls.take j).map newC) cm) ++ (Lc ++ (X ++ L))))))))) _ := M.perm (perm_c fun p => by simp only [List.countP_append, List.countP_cons, List.countP_nil]; omega)
   obtain ⟨p6, c6, rfl⟩ := how.shape
   refine ⟨trivial, ?_⟩
   refine go 0 ?_
   refine x_st [_] _ rfl rfl rfl sz75 rfl rfl rfl rfl atM rfl rfl rfl ?_
   intro wst4 hwst4
   have M : Sep w00 ((bbx2, .cells [.int .i64 ((j : Nat) : Int), .slice pl l.length cl, .int .i64 0, .func (.func 28) #[ptr bbx1] #[], .int .i64 0, .int .i64 0, strV [], .bool false].toArray 83 (0, 0)) :: (bbx1, .cells [.iface 30 (ptr bp), ptr s1.bl, .slice p6 (j + 1) c6, .slice none 0 0, .int .i64 0].toArray 77 (0, 0)) :: (lD ++ (LR ++ (Lo ++ ((bp, .cells [u, hv].toArray 39 (0, 0)) :: (lkB s1 ++ ((cliB bbx1 0 ((ls.take j).map newC) cm) ++ (Lc ++ (X ++ L))))))))) wst4 := M.put 1 rfl hwst4
   refine ⟨trivial, ?_⟩
   refine go 0 ?_
   refine x_add _ rfl rfl rfl rfl rfl (wadd (by omega) (by omega)) ?_
   refine go 0 ?_
   exact At.back (j + 1) ⟨rfl, rfl, rfl, rfl, trivial⟩ ⟨by omega, cm ++ [⟨bbx2, .slice pl l.length cl⟩], Lo, _, Lc ++ (lD ++ LR), by rw [List.length_append, hcm]; rfl, by rw [List.map_append]; exact how, fun i x l' hx hl' => by
    by_cases e : i < cm.length
    ·rw [List.getElem?_append_left e] at hx
     exact (hops i x l' hx hl').mono (fun y hy => List.mem_append_left _ hy)
    ·have : i < (cm ++ [(⟨bbx2, .slice pl l.length cl⟩ : CM)]).length := (List.getElem?_eq_some_iff.1 hx).1
     rw [List.length_append, List.length_singleton] at this
     obtain rfl : i = cm.length := by omega
     rw [List.getElem?_append_right (Nat.le_refl _), Nat.sub_self] at hx
     simp only [List.getElem?_cons_zero, Option.some.injEq] at hx
     subst hx
     rw [hcm, hl] at hl'
     simp only [Option.some.injEq] at hl'
     subst hl'
     exact hok.mono (fun y hy => List.mem_append_right _ hy), by
    rw [take_snoc hl, List.map_append, List.map_singleton, cliB_snoc (by rw [hcm, List.length_map, List.length_take]; omega), Nat.zero_add, List.length_map, List.length_take, Nat.min_eq_left (by omega)]
    exact (show Sep w00 ((bbx1, .cells [.iface 30 (ptr bp), ptr s1.bl, .slice p6 (j + 1) c6, .slice none 0 0, .int .i64 0].toArray 77 (0, 0)) :: ((bp, .cells [u, hv].toArray 39 (0, 0)) :: (lkB s1 ++ (((cliB bbx1 0 ((ls.take j).map newC) cm) ++ [(bbx2, .cells [.int .i64 ((j : Nat) : Int), .slice pl l.length cl, .int .i64 0, .func (.func 28) #[ptr bbx1] #[], .int .i64 0, .int .i64 0, strV [], .bool false].toArray 83 (0, 0))]) ++ (Lo ++ ((Lc ++ (lD ++ LR)) ++ (X ++ L))))))) wst4 from M.perm (perm_c fun p => by simp only [List.countP_append, List.countP_cons, List.countP_nil]; omega))⟩ (by first | omega | (simp only; omega) | (simp; done) | (simp; omega))
 ·intro hco3
  refine go 1 ?_
  obtain rfl : j = ls.length := by omega
  rw [List.take_length] at M
  have hM : VMR w00 (Lc ++ L) ⟨bbx1, cm.map (·.b)⟩ (newV f (hfL hl) ls) ⟨bp, s1, .slice pc ls.length cc, cD, .slice none 0 0, [], [], cm, u, hv⟩ := by
   refine ⟨hR1, rfl, by show cm.length = (ls.map newC).length; rw [List.length_map, hcm], ?_, fun i c x hc hx => ?_, rfl, OwL.nil, fun x hx => (by cases hx), hF.mono (fun y hy => List.mem_append_right _ hy), ⟨hl, rfl, hO.mono (fun y hy => List.mem_append_right _ hy), hI⟩, VI.new h8⟩
   ·show OwL cD _ 1 (ls.map newC).length ((cm.map (·.b)).map ptr)
    rw [List.length_map, List.map_map]
    exact hcv
   ·have hc : (ls.map newC)[i]? = some c := hc
    rw [List.getElem?_map] at hc
    cases e : ls[i]? with
    | none => rw [e] at hc; cases hc
    | some l =>
     rw [e] at hc
     simp only [Option.map_some, Option.some.injEq] at hc
     subst hc
     exact (hops i x l hx e).mono (fun y hy => List.mem_append_left _ hy)
  refine ⟨⟨bbx1, cm.map (·.b)⟩, rfl, _, _, hM, ?_⟩
  exact (show Sep w00 (X ++ ((((bbx1, .cells [.iface 30 (ptr bp), ptr s1.bl, .slice pc ls.length cc, .slice none 0 0, .int .i64 0].toArray 77 (0, 0)) :: (bp, .cells [u, hv].toArray 39 (0, 0)) :: (lkB s1 ++ (cliB bbx1 0 (ls.map newC) cm ++ (cD ++ []))))) ++ (Lc ++ L))) w from M.perm (perm_c fun p => by simp only [List.countP_append, List.countP_cons, List.countP_nil]; omega))

end Go.Proofs.Ytebfjdolgchgaaa

namespace Go.Proofs.Ytebfjdolgchgaaa
open Go Go.Fw Go.RowKit
set_option linter.unusedVariables false
set_option linter.unusedSimpArgs false

section
variable {w00 w0 w : World} {X Lr : List (Nat × Obj)} {I : OvI} {l k : List Raw} {hf : HF} {u hv dv v : Value} {hl : List Opn} {who : Int} {o : OpS}
end
theorem doS_list {l : List Raw} {hf : HF} {who : Int} {o : OpS} : (doS l hf who o).1.l.length ≤ l.length := by
 have hs : ∀ (p b : List UInt8) (r : RsS), r.l = [] → (sizeS l p b r).1.l = [] := fun p b r hr => by
  unfold sizeS
  split
  ·rfl
  ·exact hr
 have hw : ∀ p w, (writeS l p w o).1.l = [] := fun p w => by
  unfold writeS
  repeat' split
  all_goals first | rfl | exact hs _ _ _ rfl
 have ht : ∀ p w, (truncS l p w o).1.l = [] := fun p w => by
  unfold truncS
  repeat' split
  all_goals first | rfl | exact hs _ _ _ rfl
 unfold doS
 split
 ·exact Nat.zero_le _
 split
 ·unfold openS
  repeat' split
  all_goals exact Nat.zero_le _
 split
 ·unfold handleS
  split
  ·exact Nat.zero_le _
  split
  ·unfold readS
   split <;> exact Nat.zero_le _
  split
  ·simp only; rw [hw]; exact Nat.zero_le _
  split
  ·simp only; rw [ht]; exact Nat.zero_le _
  ·exact Nat.zero_le _
 split
 ·unfold namedS
  repeat' split
  all_goals first | exact Nat.zero_le _ | exact listL_len _ _
 ·exact Nat.zero_le _
theorem doS_data {l : List Raw} {hf : HF} {who : Int} {o : OpS} : (doS l hf who o).1.d.length ≤ usedL l := by
 have hs : ∀ (p b : List UInt8) (r : RsS), r.d = [] → (sizeS l p b r).1.d = [] := fun p b r hr => by
  unfold sizeS
  split
  ·rfl
  ·exact hr
 have hw : ∀ p w, (writeS l p w o).1.d = [] := fun p w => by
  unfold writeS
  repeat' split
  all_goals first | rfl | exact hs _ _ _ rfl
 have ht : ∀ p w, (truncS l p w o).1.d = [] := fun p w => by
  unfold truncS
  repeat' split
  all_goals first | rfl | exact hs _ _ _ rfl
 have hb : ∀ p, (fileB l p).length ≤ usedL l := fun p => by
  unfold fileB fileD
  split
  ·rename_i x hx
   split
   ·exact Nat.zero_le _
   ·exact usedL_mem (List.mem_of_find?_eq_some hx)
  ·exact Nat.zero_le _
 unfold doS
 split
 ·exact Nat.zero_le _
 split
 ·unfold openS
  repeat' split
  all_goals exact Nat.zero_le _
 split
 ·unfold handleS
  split
  ·exact Nat.zero_le _
  split
  ·rename_i v _ _
   unfold readS
   split
   ·exact Nat.zero_le _
   ·have := hb v.1
    simp only [List.length_take, List.length_drop]
    omega
  split
  ·simp only; rw [hw]; exact Nat.zero_le _
  split
  ·simp only; rw [ht]; exact Nat.zero_le _
  ·exact Nat.zero_le _
 split
 ·unfold namedS
  repeat' split
  all_goals exact Nat.zero_le _
 ·exact Nat.zero_le _
end Go.Proofs.Ytebfjdolgchgaaa

namespace Go.Proofs.Ytebfjdolgchgaaa
open Go Go.Fw Go.RowKit
set_option linter.unusedVariables false
set_option linter.unusedSimpArgs false
def okO (o : OpS) : Bool := decide (o.d.length ≤ 5000) && (decide (o.p.length ≤ 300) && decide (o.q.length ≤ 300))
def fewL (ls : List (List OpS)) : Bool := decide (ls.length ≤ 8) && (decide (allL ls ≤ 24) && ls.all fun l => l.all okO)
theorem allL_take {ls : List (List OpS)} {i : Nat} {l : List OpS} (h : ls[i]? = some l) : allL (ls.take (i + 1)) = allL (ls.take i) + l.length := by
 unfold allL
 rw [List.take_add_one, h, Option.toList_some, List.map_append, List.sum_append]
 simp
theorem sum_take (a : List Nat) : ∀ i, (a.take i).sum ≤ a.sum := by
 induction a with
 | nil => intro i; simp
 | cons x a ih =>
  intro i
  cases i with
  | zero => simp
  | succ i => rw [List.take_succ_cons, List.sum_cons, List.sum_cons]; have := ih i; omega
theorem allL_le {ls : List (List OpS)} {i : Nat} : allL (ls.take i) ≤ allL ls := by
 unfold allL
 rw [List.map_take]
 exact sum_take _ _
theorem few_iff {ls : List (List OpS)} : fewL ls = true ↔ ls.length ≤ 8 ∧ allL ls ≤ 24 ∧ ∀ l ∈ ls, ∀ o ∈ l, okO o = true := by
 unfold fewL
 simp only [Bool.and_eq_true, decide_eq_true_eq, List.all_eq_true]
theorem few_long {ls : List (List OpS)} (h : 8 < ls.length) : fewL ls = false := by
 rw [← Bool.not_eq_true, few_iff]; omega
theorem few_bad {ls : List (List OpS)} {i k : Nat} {l : List OpS} {o : OpS} (h : ls[i]? = some l) (hk : l[k]? = some o) (hb : okO o = false) : fewL ls = false := by
 rw [← Bool.not_eq_true, few_iff]
 intro hh
 rw [hh.2.2 l (List.mem_of_getElem? h) o (List.mem_of_getElem? hk)] at hb
 cases hb
theorem few_many {ls : List (List OpS)} {i k : Nat} {l : List OpS} (h : ls[i]? = some l) (hk : k < l.length) (hb : 24 < allL (ls.take i) + k + 1) : fewL ls = false := by
 rw [← Bool.not_eq_true, few_iff]
 intro hh
 have := allL_le (ls := ls) (i := i + 1)
 rw [allL_take h] at this
 omega
theorem okO_iff {o : OpS} : okO o = true ↔ o.d.length ≤ 5000 ∧ o.p.length ≤ 300 ∧ o.q.length ≤ 300 := by
 unfold okO
 simp only [Bool.and_eq_true, decide_eq_true_eq]
theorem okO_no {o : OpS} (h : ¬ (o.d.length ≤ 5000 ∧ o.p.length ≤ 300 ∧ o.q.length ≤ 300)) : okO o = false := by rw [← Bool.not_eq_true, okO_iff]; exact h
theorem len_all {ls : List (List OpS)} {l : List OpS} (h : l ∈ ls) : l.length ≤ allL ls := by
 obtain ⟨i, hi⟩ := List.getElem?_of_mem h
 have := allL_le (ls := ls) (i := i + 1)
 rw [allL_take hi] at this
 omega
def DB (S : VS) : Prop := ∀ x ∈ S.o, x.r.d.length ≤ 262144 ∧ x.r.l.length ≤ 128
theorem DB.new {f : List Raw} {h : HF} {ls : List (List OpS)} : DB (newV f h ls) := fun x hx => by cases hx
theorem DB.step {S : VS} {who : Int} (h : DB S) (hu : usedL S.f ≤ 262144) (hl : S.f.length ≤ 128) : DB (stepV S who).1 := by
 intro x hx
 unfold stepV at hx
 cases e : cliS S who with
 | none => rw [e] at hx; exact h x hx
 | some c =>
  rw [e] at hx
  simp only at hx
  cases hc : c.l with
  | nil => rw [hc] at hx; exact h x hx
  | cons o r =>
   rw [hc] at hx
   simp only at hx
   split at hx
   ·exact h x hx
   ·unfold stepS at hx
    simp only at hx
    split at hx
    ·exact h x hx
    ·split at hx
     ·unfold askS at hx
      split at hx <;> exact h x hx
     ·split at hx
      ·simp only [commitS] at hx
       rcases List.mem_append.1 hx with g | g
       ·exact h x g
       ·obtain rfl := List.mem_singleton.1 g
        exact ⟨Nat.le_trans doS_data hu, Nat.le_trans doS_list hl⟩
      ·simp only [endS] at hx
       rcases modify_mem hx with g | ⟨d, g, rfl⟩
       ·exact h x g
       ·exact h d g
end Go.Proofs.Ytebfjdolgchgaaa

namespace Go.Proofs.Ytebfjdolgchgaaa
open Go Go.Fw Go.RowKit
set_option linter.unusedVariables false
set_option linter.unusedSimpArgs false
def SmL (ls : List (List OpS)) : Prop := allL ls ≤ 100 ∧ ∀ l ∈ ls, ∀ o ∈ l, o.d.length ≤ 131072
structure VA (w00 : World) (X : List (Nat × Obj)) (ls : List (List OpS)) (f0 : List Raw) (h0 : HF) (I : VfI) (S : VS) (w : World) : Prop where
 v : VfW w00 X I S w
 a : AI ls f0 h0 S
 d : DB S
 m : SmL ls
section
variable {w00 w0 w w1 : World} {X Y : List (Nat × Obj)} {ls : List (List OpS)} {f0 : List Raw} {h0 : HF} {I : VfI} {S : VS} {who : Int}
theorem VA.frm (h : VA w00 X ls f0 h0 I S w) : New w00 w := h.v.frm
theorem VA.at_ (h : VA w00 X ls f0 h0 I S w) (k : Nat) {b : Nat} {o : Obj} (hk : X[k]? = some (b, o)) : w.heap[b]? = some o := h.v.at_ k hk
theorem VA.acons (h : VA w00 X ls f0 h0 I S w) {o : Obj} {b : Nat} (hb : b = w.heap.size) (hw : w1 = w.alloc o) : VA w00 ((b, o) :: X) ls f0 h0 I S w1 := ⟨h.v.acons hb hw, h.a, h.d, h.m⟩
theorem VA.put (h : VA w00 X ls f0 h0 I S w) (k : Nat) {b : Nat} {o0 o : Obj} (hk : X[k]? = some (b, o0)) (hw : w1 = w.putObj b o) : VA w00 (X.set k (b, o)) ls f0 h0 I S w1 := ⟨h.v.put k hk hw, h.a, h.d, h.m⟩
theorem VA.new (h : VA w00 X ls f0 h0 I S w) (hn : New w w1) : VA w00 X ls f0 h0 I S w1 := ⟨h.v.new hn, h.a, h.d, h.m⟩
theorem VA.drew (h : VA w00 X ls f0 h0 I S w) (hw : w1 = w.drew) : VA w00 X ls f0 h0 I S w1 := ⟨h.v.drew hw, h.a, h.d, h.m⟩
theorem VA.grow (h : VA w00 X ls f0 h0 I S w) (hc : Sep w Y w1) : VA w00 (Y ++ X) ls f0 h0 I S w1 := ⟨h.v.grow hc, h.a, h.d, h.m⟩
theorem VA.sub (h : VA w00 X ls f0 h0 I S w) (hs : Y.Sublist X) : VA w00 Y ls f0 h0 I S w := ⟨h.v.sub hs, h.a, h.d, h.m⟩
theorem VA.tail {x : Nat × Obj} (h : VA w00 (x :: X) ls f0 h0 I S w) : VA w00 X ls f0 h0 I S w := ⟨h.v.tail, h.a, h.d, h.m⟩
theorem VA.dropL (h : VA w00 (Y ++ X) ls f0 h0 I S w) : VA w00 X ls f0 h0 I S w := ⟨h.v.dropL, h.a, h.d, h.m⟩
theorem VA.perm (h : VA w00 X ls f0 h0 I S w) (hs : X.Perm Y) : VA w00 Y ls f0 h0 I S w := ⟨h.v.perm hs, h.a, h.d, h.m⟩
theorem VA.sep (h : VA w00 X ls f0 h0 I S w) : Sep w00 X w := h.v.sep
theorem AI.oLen (h : AI ls f0 h0 S) : S.o.length ≤ allL ls := by
 rw [h.oi.ol]
 refine (sum_le (g := cnC) (k := List.length) (l := S.c) (m := ls) h.oi.len fun j c l hc hl => ?_).1
 obtain ⟨l0, g1, g2, g3⟩ := h.oi.lst j c hc
 rw [hl] at g1; cases g1
 have hC := h.si.ci c (List.mem_of_getElem? hc)
 unfold cnC
 split
 ·rename_i hs
  have h5 := hC.l0 (by omega)
  have h4 : c.l.length = l.length - c.n := by rw [g2, List.length_drop]
  have : c.l.length ≠ 0 := fun e => h5 (List.length_eq_zero_iff.1 e)
  omega
 ·omega
theorem AI.cN (h : AI ls f0 h0 S) {c : Cl} (hc : c ∈ S.c) : c.n ≤ allL ls ∧ ∀ o ∈ c.l, ∃ l ∈ ls, o ∈ l := by
 obtain ⟨j, hj⟩ := List.getElem?_of_mem hc
 obtain ⟨l0, g1, g2, g3⟩ := h.oi.lst j c hj
 have hm := List.mem_of_getElem? g1
 refine ⟨Nat.le_trans g3 (len_all hm), fun o ho => ⟨l0, hm, ?_⟩⟩
 rw [g2] at ho
 exact List.mem_of_mem_drop ho
theorem VfW.ri (h : VfW w00 X I S w) : usedL S.f ≤ 262144 ∧ S.f.length ≤ 128 := by
 obtain ⟨m, L, hR, _⟩ := h
 obtain ⟨hl, _, _, hI⟩ := hR.hs
 exact ⟨hI.us, hI.le⟩
theorem VA.step_c (M : VA w00 X ls f0 h0 I S w0) : Ret Try.prog 16 #[ptr I.bs, .int .i64 who] w0 fun r w' => r = .bool (stepV S who).2 ∧ VA w00 X ls f0 h0 I (stepV S who).1 w' := by
 have h1 := M.a.oLen
 have h2 := M.a.sum.1
 have h3 := M.m.1
 refine (vstep_c M.v (fun c hc o ho => ?_) (fun c hc => ?_) (by omega) (by omega)).mono fun r w' ⟨h4, h5⟩ => ⟨h4, h5, M.a.step, M.d.step M.v.ri.1 M.v.ri.2, M.m⟩
 ·obtain ⟨l, hl, ho⟩ := (M.a.cN hc).2 o ho
  exact M.m.2 l hl o ho
 ·have := (M.a.cN hc).1; omega
theorem VA.order_c (M : VA w00 X ls f0 h0 I S w0) : Ret Try.prog 23 #[ptr I.bs] w0 fun r w' => ∃ LN, DidK w00 LN r S.o ∧ VA w00 (LN ++ X) ls f0 h0 I S w' := by
 have h1 := M.a.oLen
 have h3 := M.m.1
 exact (vorder_c M.v (by omega) (fun x hx => by have := M.d x hx; omega)).mono fun r w' ⟨LN, h4, h5⟩ => ⟨LN, h4, h5, M.a, M.d, M.m⟩
theorem VA.left_c (M : VA w00 X ls f0 h0 I S w0) : Ret Try.prog 18 #[ptr I.bs, .int .i64 who] w0 fun r w' => r = .int .i64 (leftV S who) ∧ New w0 w' := vleft_c M.v
theorem VA.blocked_c (M : VA w00 X ls f0 h0 I S w0) : Ret Try.prog 20 #[ptr I.bs, .int .i64 who] w0 fun r w' => r = .bool (blockV S who) ∧ New w0 w' := vblocked_c M.v
theorem VA.steps_c (M : VA w00 X ls f0 h0 I S w0) : Ret Try.prog 17 #[ptr I.bs] w0 fun r w' => r = .int .i64 (S.s : Int) ∧ New w0 w' := vsteps_c M.v
theorem VA.new_c {L : List (Nat × Obj)} {v u hv : Value} {f : List Raw} {bp : Nat} (M : Sep w00 ((bp, .cells [u, hv].toArray 39 (0, 0)) :: (X ++ L)) w0) (h : LsK w00 L v ls) (hF : FilesK w00 L u f) (hO : OpnK w00 L hv []) (hI : RI f []) (h1 : 1 ≤ ls.length) (h8 : ls.length ≤ 8) (hm : SmL ls) :
  Ret Try.prog 12 #[.iface 30 (ptr bp), v] w0 fun r w' => ∃ I : VfI, r = .tuple #[ptr I.bs, .int .i64 0] ∧ VA w00 X ls f (hfL []) I (newV f (hfL []) ls) w' :=
 (vnew_c M h hF hO hI h1 h8 (fun l hl => Nat.le_trans (len_all hl) (Nat.le_trans hm.1 (by decide))) hm.2).mono fun r w' ⟨I, h2, h3⟩ => ⟨I, h2, h3, AI.new h8, DB.new, hm⟩
theorem DidK.row {LN : List (Nat × Obj)} {r : Value} {o : List Dd} {M : List (Nat × Obj)} (h : DidK w00 LN r o) (hM : Sep w00 M w) (hs : ∀ y ∈ LN, y ∈ M) {k : Nat} {d : Dd} (hk : o[k]? = some d) :
  ∃ b off cap dv lv, r = .slice (some ⟨b, off, none⟩) o.length cap ∧ RowAt w b (off + k * 9) (ddR d dv lv) ∧ RsK w00 LN (rsV d.r dv lv) d.r := by
 obtain ⟨R, h1, h2, h3⟩ := h
 have hkl := (List.getElem?_eq_some_iff.1 hk).1
 have h4 := h2 _ _ hM hs
 obtain ⟨p, cap, rfl⟩ := h4.shape
 obtain ⟨b, off, rfl, _⟩ := Sg.blk (j := k) h4 hkl
 obtain ⟨x, hx⟩ := get_lt (l := R) (q := k) (by rw [← List.length_map (f := (·.1)), h1]; exact hkl)
 have hxd : x.1 = d := by
  have : (R.map (·.1))[k]? = some x.1 := by rw [List.getElem?_map, hx]; rfl
  rw [h1, hk] at this
  exact (Option.some.inj this).symm
 refine ⟨b, off, cap, x.2.1, x.2.2, rfl, ?_, ?_⟩
 ·have := (Sg.sl h4 (by omega)).row (j := k) (l := ddV x) rfl (flat_drop (m := 9) (e1 := ddV) (by decide) (fun _ _ => rfl) hx) (by simp [ddV, ddR])
  rw [← hxd]; exact this
 ·have := h3 x (List.mem_of_getElem? hx)
  rw [← hxd]; exact this
theorem DidK.shape {LN : List (Nat × Obj)} {r : Value} {o : List Dd} {M : List (Nat × Obj)} (h : DidK w00 LN r o) (hM : Sep w00 M w) (hs : ∀ y ∈ LN, y ∈ M) : ∃ p cap, r = .slice p o.length cap := by
 obtain ⟨R, h1, h2, h3⟩ := h
 exact (h2 _ _ hM hs).shape
theorem SgK.litM {L : List (Nat × Obj)} {b m : Nat} {cs : List Value} {T : TypeId} {fr : Nat × Nat} (hm : (b, Obj.cells cs.toArray T fr) ∈ L) (hn : cs.length = m) : SgK w00 L (.slice (some ⟨b, 0, none⟩) 1 1) m 1 cs :=
 SgK.slL (.inr ⟨b, 0, 1, _, T, fr, rfl, Nat.le_refl _, hm, by simp [← hn], by omega⟩) (fun _ h => h)
end
end Go.Proofs.Ytebfjdolgchgaaa

namespace Go.Proofs.Ytebfjdolgchgaaa
open Go Go.Fw Go.RowKit
set_option linter.unusedVariables false
set_option linter.unusedSimpArgs false
def dirO : OpS := ⟨6, [97], [], 0, 0, 0, false, false, []⟩
def vlL : List (List OpS) := [[dirO], [dirO]]
def vl0 : VS := newV [] (hfL []) vlL
def vl1 : VS := (stepV vl0 0).1
def vl2 : VS := (stepV vl1 1).1
def vl3 : VS := (stepV vl2 1).1
def vl4 : VS := (stepV vl3 0).1
def vl5 : VS := (stepV vl4 0).1
def vl6 : VS := (stepV vl5 0).1
def vl7 : VS := (stepV vl6 1).1
def vl8 : VS := (stepV vl7 1).1
def vl9 : VS := (stepV vl8 1).1
theorem vlA : (stepV vl0 0).2 = true := by decide +kernel
theorem vlB : (stepV vl1 1).2 = true := by decide +kernel
theorem vlC : (stepV vl2 1).2 = false := by decide +kernel
theorem vlD : blockV vl3 1 = true := by decide +kernel
theorem vlE : (stepV vl6 1).2 = true := by decide +kernel
theorem vlF : (stepV vl7 1).2 = true := by decide +kernel
theorem vlG : (stepV vl8 1).2 = true := by decide +kernel
theorem vlO : vl9.o.map (fun d => (d.bg, d.en, d.r.e)) = [(0, 4, 0), (1, 7, 10)] := by decide +kernel
theorem vlS : vl9.s = 8 := by decide +kernel
theorem vlZ : leftV vl9 1 = 0 := by decide +kernel
theorem vlO2 : ∃ d0 d1, vl9.o = [d0, d1] ∧ d0.r.e = 0 ∧ d0.en = 4 ∧ d1.bg = 1 ∧ d1.en = 7 ∧ d1.r.e = 10 := by
 have h := vlO
 cases e : vl9.o with
 | nil => rw [e] at h; simp at h
 | cons d0 l =>
  cases e2 : l with
  | nil => rw [e, e2] at h; simp at h
  | cons d1 l2 =>
   cases e3 : l2 with
   | nil =>
    rw [e, e2, e3] at h
    simp only [List.map_cons, List.map_nil, List.cons.injEq, Prod.mk.injEq, and_true] at h
    exact ⟨d0, d1, rfl, h.1.2.2, h.1.2.1, h.2.1, h.2.2.1, h.2.2.2⟩
   | cons _ _ => rw [e, e2, e3] at h; simp at h
end Go.Proofs.Ytebfjdolgchgaaa

namespace Go.Proofs.Ytebfjdolgchgaaa
open Go Go.Fw Go.RowKit Go.Proofs
set_option linter.unusedVariables false
set_option linter.unusedSimpArgs false
set_option maxRecDepth 100000
set_option maxHeartbeats 4000000

-- valise/valiselaw20.few
theorem vfew_c {w0 : World} {v : Value} {ls : List (List OpS)} (h : LsK w0 [] v ls) : Ret Try.prog 10 #[v] w0 fun r w' => r = .bool (fewL ls) ∧ New w0 w' := by
 have M : Sep w0 [] w0 := St.nil w0
 obtain ⟨vs, hvl, hvs, hop⟩ := h
 obtain ⟨pv, cv, rfl⟩ := (hvs _ _ M (by simp)).shape
 refine Ret.of_W Try.func10 rfl Try.ntmps10 rfl ?_
 refine go 0 ?_
 refine W.loop (σ := Nat) (fun i => [(0, _), (3, .int .i64 ((allL (ls.take i) : Nat) : Int)), (4, .int .i64 ((i : Nat) : Int))]) (fun i w => i ≤ ls.length ∧ i ≤ 8 ∧ allL (ls.take i) ≤ 24 ∧ (∀ l ∈ ls.take i, ∀ o ∈ l, okO o = true) ∧ Sep w0 [] w) (fun i => ls.length - i) 0 ⟨rfl, rfl, rfl, trivial⟩ ⟨Nat.zero_le _, Nat.zero_le _, (show (0 : Nat) ≤ 24 from Nat.zero_le 24), by simp, M⟩ ?_
 rintro i w ⟨hi, hi8, hn, hok, M⟩
 refine cnd 2 ?_ ?_
 ·intro hco1
  obtain ⟨l, hl⟩ := get_lt (l := ls) (q := i) (by omega)
  obtain ⟨uv, huv⟩ := get_lt (l := vs) (q := i) (by omega)
  refine cnd 1 ?_ ?_
  ·intro hco2
   refine go 1 ?_
   exact ⟨by rw [few_long (by omega)], M.frm⟩
  ·intro hco2
   obtain ⟨R0, hR0, hsg0, hb0⟩ := hop i uv l huv hl
   obtain ⟨pu, cu, rfl⟩ := (hsg0 _ _ M (by simp)).shape
   obtain ⟨b5, off5, rfl, _⟩ := Sg.blk (j := i) (hvs _ _ M (by simp)) (by omega)
   refine go 0 ?_
   refine W.loop (σ := Nat) (fun k => [(0, _), (3, .int .i64 ((allL (ls.take i) + k : Nat) : Int)), (4, _), (5, .int .i64 ((k : Nat) : Int))]) (fun k w => k ≤ l.length ∧ allL (ls.take i) + k ≤ 24 ∧ (∀ o ∈ l.take k, okO o = true) ∧ Sep w0 [] w) (fun k => l.length - k) 0 ⟨rfl, rfl, rfl, rfl, trivial⟩ ⟨Nat.zero_le _, hn, by simp, M⟩ ?_
   rintro k w ⟨hk, hnk, hokk, M⟩
   have hcell := Sl.cell1 (Sg.sl (hvs _ _ M (by simp)) (by omega)) huv
   refine go 0 ?_
   refine x_ia i rfl rfl rfl Try.underlying22 sz62 rfl rfl rfl (by omega) ?_
   refine x_ld rfl rfl rfl Try.underlying62 rfl rfl hcell ?_
   refine cnd 2 ?_ ?_
   ·intro hco3
    obtain ⟨x, hx⟩ := get_lt (l := R0) (q := k) (by rw [← List.length_map (f := (·.1)), hR0]; omega)
    obtain ⟨o, dv⟩ := x
    have hxo : l[k]? = some o := by rw [← hR0, List.getElem?_map, hx]; rfl
    have hs0 := hsg0 _ _ M (by simp)
    obtain ⟨b6, off6, rfl, _⟩ := Sg.blk (j := k) hs0 (by omega)
    have hrow := opRow (Sg.sl hs0 (by omega)) hx
    obtain ⟨pd, cd, hdv⟩ := Sg.shape (hb0 _ (List.mem_of_getElem? hx) _ _ M (by simp))
    simp only at hdv
    subst hdv
    refine go 0 ?_
    refine x_add ((allL (ls.take i) + k + 1 : Nat) : Int) rfl rfl rfl rfl rfl (by rw [wadd (by omega) (by omega)]; simp) ?_
    refine go 0 ?_
    refine x_ia i rfl rfl rfl Try.underlying22 sz62 rfl rfl rfl (by omega) ?_
    refine x_ld rfl rfl rfl Try.underlying62 rfl rfl hcell ?_
    refine go 0 ?_
    refine x_ia k rfl rfl rfl Try.underlying62 sz66 rfl rfl rfl (by omega) ?_
    refine x_ldA [_, _, _, _, _, _, _, _, _] rfl rfl rfl Try.underlying66 rfl sz66 rfl rfl hrow ?_
    refine go 1 ?_
    intro bal1 _ M
    refine x_st [_, _, _, _, _, _, _, _, _] _ rfl rfl rfl sz66 rfl rfl rfl rfl atM rfl rfl rfl ?_
    intro wst1 hwst1
    have M : Sep w0 [(bal1, .cells (opC o (.slice pd o.d.length cd)).toArray 66 (0, 0))] wst1 := M.put 0 rfl hwst1
    refine ⟨trivial, ?_⟩
    refine spl 1 35 ?_ ?_
    ·intro hsp1
     refine go 1 ?_
     exact ⟨by rw [few_many (k := k) hl (by omega) (by omega)], M.frm⟩
    ·intro hsp1
     refine spl 3 41 ?_ ?_
     ·intro hsp2
      refine go 1 ?_
      exact ⟨by rw [few_bad hl hxo (okO_no (by omega))], M.frm⟩
     ·intro hsp2
      refine spl 3 47 ?_ ?_
      ·intro hsp3
       refine go 1 ?_
       exact ⟨by rw [few_bad hl hxo (okO_no (by omega))], M.frm⟩
      ·intro hsp3
       refine cnd 3 ?_ ?_
       ·intro hco7
        refine go 1 ?_
        exact ⟨by rw [few_bad hl hxo (okO_no (by omega))], M.frm⟩
       ·intro hco7
        refine go 0 ?_
        refine x_add _ rfl rfl rfl rfl rfl (wadd (by omega) (by omega)) ?_
        refine go 0 ?_
        exact At.back (k + 1) ⟨rfl, rfl, rfl, rfl, trivial⟩ ⟨by omega, by omega, fun y hy => by
         rw [take_snoc hxo] at hy
         rcases List.mem_append.1 hy with g | g
         ·exact hokk y g
         ·obtain rfl := List.mem_singleton.1 g
          exact okO_iff.2 (by omega), M.tail⟩ (by first | omega | (simp only; omega) | (simp; done) | (simp; omega))
   ·intro hco3
    refine go 0 ?_
    refine x_add _ rfl rfl rfl rfl rfl (wadd (by omega) (by omega)) ?_
    refine go 0 ?_
    exact At.back (i + 1) ⟨rfl, (by rw [allL_take hl, show k = l.length by omega]; rfl), rfl, trivial⟩ ⟨by omega, by omega, by rw [allL_take hl]; omega, fun y hy => by
     rw [take_snoc hl] at hy
     rcases List.mem_append.1 hy with g | g
     ·exact hok y g
     ·obtain rfl := List.mem_singleton.1 g
      rw [show k = y.length by omega, List.take_length] at hokk
      exact hokk, M⟩ (by first | omega | (simp only; omega) | (simp; done) | (simp; omega))
 ·intro hco1
  refine go 1 ?_
  obtain rfl : i = ls.length := by omega
  rw [List.take_length] at hok hn
  exact ⟨by rw [few_iff.2 ⟨hi8, hn, hok⟩], M.frm⟩

end Go.Proofs.Ytebfjdolgchgaaa

namespace Go.Proofs.Ytebfjdolgchgaaa
open Go Go.Fw Go.RowKit Go.Proofs
set_option linter.unusedVariables false
set_option linter.unusedSimpArgs false
set_option maxRecDepth 100000
set_option maxHeartbeats 4000000

-- valise/valiselaw20.lives
theorem vlives_c {w0 : World}   : Ret Try.prog 11 #[] w0 fun r w' => r = .bool true ∧ New w0 w' := by
 have M : Sep w0 [] w0 := St.nil w0
 refine Ret.of_W Try.func11 rfl Try.ntmps11 rfl ?_
 refine go 2 ?_
 intro bal1 _ M
 refine x_st [_, _, _, _, _, _, _, _, _] _ rfl rfl rfl sz66 rfl rfl rfl rfl atM rfl rfl rfl ?_
 intro wst1 hwst1
 have M : Sep w0 [(bal1, .cells (opC dirO (.slice none 0 0)).toArray 66 (0, 0))] wst1 := M.put 0 rfl hwst1
 refine ⟨trivial, ?_⟩
 refine go 2 ?_
 intro bbx1 _ M
 refine go 2 ?_
 refine x_bs1 (cs := (opC dirO (.slice none 0 0))) rfl rfl rfl Try.underlying62 sz66 ze66 (Z := [_, _, _, _, _, _, _, _, _]) rfl rfl (by decide) (by decide) rfl rfl rfl ?_
 intro bbs1 wbs1 hbbs1 hwbs1
 have M := M.acons hbbs1 hwbs1
 have M : Sep w0 [(bbs1, .cells (opC dirO (.slice none 0 0)).toArray 66 (0, 0)), (bbx1, .cells [.slice none 0 0, .slice none 0 0].toArray 39 (0, 0)), (bal1, .cells (opC dirO (.slice none 0 0)).toArray 66 (0, 0))] wbs1 := M
 refine ⟨trivial, ?_⟩
 refine go 1 ?_
 refine x_bs1 (cs := (opC dirO (.slice none 0 0))) rfl rfl rfl Try.underlying62 sz66 ze66 (Z := [_, _, _, _, _, _, _, _, _]) rfl rfl (by decide) (by decide) rfl rfl rfl ?_
 intro bbs2 wbs2 hbbs2 hwbs2
 have M := M.acons hbbs2 hwbs2
 have M : Sep w0 [(bbs2, .cells (opC dirO (.slice none 0 0)).toArray 66 (0, 0)), (bbs1, .cells (opC dirO (.slice none 0 0)).toArray 66 (0, 0)), (bbx1, .cells [.slice none 0 0, .slice none 0 0].toArray 39 (0, 0)), (bal1, .cells (opC dirO (.slice none 0 0)).toArray 66 (0, 0))] wbs2 := M
 refine ⟨trivial, ?_⟩
 refine x_bsN [.slice (some ⟨bbs1, 0, none⟩) 1 1, .slice (some ⟨bbs2, 0, none⟩) 1 1] rfl rfl rfl Try.underlying22 sz62 ze62 (Z := [_]) rfl rfl (by decide) (by decide) rfl (by first | rfl | kernel_rfl) ?_
 intro bbs3 wbs3 hbbs3 hwbs3
 have M := M.acons hbbs3 hwbs3
 have hop : ∀ b, b = bbs1 ∨ b = bbs2 → OpsK w0 [(bbs3, .cells [.slice (some ⟨bbs1, 0, none⟩) 1 1, .slice (some ⟨bbs2, 0, none⟩) 1 1].toArray 62 (0, 0)), (bbs2, .cells (opC dirO (.slice none 0 0)).toArray 66 (0, 0)), (bbs1, .cells (opC dirO (.slice none 0 0)).toArray 66 (0, 0))] (.slice (some ⟨b, 0, none⟩) 1 1) [dirO] := fun b hb => ⟨[(dirO, .slice none 0 0)], rfl, SgK.litM (T := 66) (fr := (0, 0)) (by rcases hb with rfl | rfl <;> simp [opC]) rfl, fun x hx => by rw [List.mem_singleton.1 hx]; exact nilS (by decide)⟩
 have hLs : LsK w0 [(bbs3, .cells [.slice (some ⟨bbs1, 0, none⟩) 1 1, .slice (some ⟨bbs2, 0, none⟩) 1 1].toArray 62 (0, 0)), (bbs2, .cells (opC dirO (.slice none 0 0)).toArray 66 (0, 0)), (bbs1, .cells (opC dirO (.slice none 0 0)).toArray 66 (0, 0))] (.slice (some ⟨bbs3, 0, none⟩) 2 2) vlL := ⟨_, rfl, SgK.litB List.mem_cons_self rfl, fun i u l hu hl => by
  have hi := (List.getElem?_eq_some_iff.1 hl).1
  simp only [vlL, List.length_cons, List.length_nil] at hi
  have h2 : i = 0 ∨ i = 1 := by omega
  rcases h2 with rfl | rfl
  ·simp only [List.getElem?_cons_zero, vlL, Option.some.injEq] at hu hl
   subst hu; subst hl; exact hop _ (.inl rfl)
  ·simp only [List.getElem?_cons_zero, List.getElem?_cons_succ, vlL, Option.some.injEq] at hu hl
   subst hu; subst hl; exact hop _ (.inr rfl)⟩
 have M : Sep w0 ((bbx1, .cells [.slice none 0 0, .slice none 0 0].toArray 39 (0, 0)) :: ([(bal1, .cells (opC dirO (.slice none 0 0)).toArray 66 (0, 0))] ++ [(bbs3, .cells [.slice (some ⟨bbs1, 0, none⟩) 1 1, .slice (some ⟨bbs2, 0, none⟩) 1 1].toArray 62 (0, 0)), (bbs2, .cells (opC dirO (.slice none 0 0)).toArray 66 (0, 0)), (bbs1, .cells (opC dirO (.slice none 0 0)).toArray 66 (0, 0))])) wbs3 := M.perm (perm_c fun p => by simp only [List.countP_append, List.countP_cons, List.countP_nil]; omega)
 refine ⟨trivial, ?_⟩
 refine x_call rfl rfl rfl rfl rfl en12 (VA.new_c M hLs (nilK.mono (by simp)) (nilS (by decide)) RI.nil (by decide) (by decide) ⟨by decide, by intro l hl o ho; simp only [vlL, List.mem_cons, List.not_mem_nil, or_false, or_self] at hl; subst hl; obtain rfl := List.mem_singleton.1 ho; decide⟩) ?_
 rintro r_ wcall1 ⟨I, rfl, M⟩
 have M : VA w0 [(bal1, .cells (opC dirO (.slice none 0 0)).toArray 66 (0, 0))] vlL [] (hfL []) I vl0 wcall1 := M
 refine ⟨trivial, ?_⟩
 refine go 1 ?_
 refine x_nei false rfl rfl rfl rfl rfl rfl ?_
 refine go 0 ?_
 refine x_call rfl rfl rfl rfl rfl en16 (M.step_c) ?_
 rintro r_ w2_ ⟨rfl, M⟩
 rw [vlA]
 have M : VA w0 [(bal1, .cells (opC dirO (.slice none 0 0)).toArray 66 (0, 0))] vlL [] (hfL []) I vl1 w2_ := M
 refine ⟨trivial, ?_⟩
 refine go 0 ?_
 refine x_call rfl rfl rfl rfl rfl en16 (M.step_c) ?_
 rintro r_ w3_ ⟨rfl, M⟩
 rw [vlB]
 have M : VA w0 [(bal1, .cells (opC dirO (.slice none 0 0)).toArray 66 (0, 0))] vlL [] (hfL []) I vl2 w3_ := M
 refine ⟨trivial, ?_⟩
 refine go 0 ?_
 refine x_call rfl rfl rfl rfl rfl en16 (M.step_c) ?_
 rintro r_ w4_ ⟨rfl, M⟩
 rw [vlC]
 have M : VA w0 [(bal1, .cells (opC dirO (.slice none 0 0)).toArray 66 (0, 0))] vlL [] (hfL []) I vl3 w4_ := M
 refine ⟨trivial, ?_⟩
 refine go 0 ?_
 refine x_call rfl rfl rfl rfl rfl en20 (M.blocked_c) ?_
 rintro r_ w5_ ⟨rfl, hn5⟩
 rw [vlD]
 have M := M.new hn5
 refine ⟨trivial, ?_⟩
 refine go 0 ?_
 refine x_call rfl rfl rfl rfl rfl en16 (M.step_c) ?_
 rintro r_ w6_ ⟨rfl, M⟩
 have M : VA w0 [(bal1, .cells (opC dirO (.slice none 0 0)).toArray 66 (0, 0))] vlL [] (hfL []) I vl4 w6_ := M
 refine ⟨trivial, ?_⟩
 refine go 0 ?_
 refine x_call rfl rfl rfl rfl rfl en16 (M.step_c) ?_
 rintro r_ w7_ ⟨rfl, M⟩
 have M : VA w0 [(bal1, .cells (opC dirO (.slice none 0 0)).toArray 66 (0, 0))] vlL [] (hfL []) I vl5 w7_ := M
 refine ⟨trivial, ?_⟩
 refine go 0 ?_
 refine x_call rfl rfl rfl rfl rfl en16 (M.step_c) ?_
 rintro r_ w8_ ⟨rfl, M⟩
 have M : VA w0 [(bal1, .cells (opC dirO (.slice none 0 0)).toArray 66 (0, 0))] vlL [] (hfL []) I vl6 w8_ := M
 refine ⟨trivial, ?_⟩
 refine go 0 ?_
 refine x_call rfl rfl rfl rfl rfl en16 (M.step_c) ?_
 rintro r_ w9_ ⟨rfl, M⟩
 rw [vlE]
 have M : VA w0 [(bal1, .cells (opC dirO (.slice none 0 0)).toArray 66 (0, 0))] vlL [] (hfL []) I vl7 w9_ := M
 refine ⟨trivial, ?_⟩
 refine go 0 ?_
 refine x_call rfl rfl rfl rfl rfl en16 (M.step_c) ?_
 rintro r_ w10_ ⟨rfl, M⟩
 rw [vlF]
 have M : VA w0 [(bal1, .cells (opC dirO (.slice none 0 0)).toArray 66 (0, 0))] vlL [] (hfL []) I vl8 w10_ := M
 refine ⟨trivial, ?_⟩
 refine go 0 ?_
 refine x_call rfl rfl rfl rfl rfl en16 (M.step_c) ?_
 rintro r_ w11_ ⟨rfl, M⟩
 rw [vlG]
 have M : VA w0 [(bal1, .cells (opC dirO (.slice none 0 0)).toArray 66 (0, 0))] vlL [] (hfL []) I vl9 w11_ := M
 refine ⟨trivial, ?_⟩
 refine go 0 ?_
 refine x_call rfl rfl rfl rfl rfl en23 (M.order_c) ?_
 rintro r_ w12_ ⟨LN, hDK, M⟩
 obtain ⟨d0, d1, hO, e0, e1, e2, e3, e4⟩ := vlO2
 rw [hO] at hDK
 have hsL : ∀ y ∈ LN, y ∈ LN ++ [(bal1, .cells (opC dirO (.slice none 0 0)).toArray 66 (0, 0))] := fun y hy => List.mem_append_left _ hy
 obtain ⟨b, off, cap, dv0, lw0, rfl, hr0, _⟩ := hDK.row M.sep hsL (k := 0) rfl
 obtain ⟨b', off', cap', dv1, lw1, hbb, hr1, _⟩ := hDK.row M.sep hsL (k := 1) rfl
 cases hbb
 refine ⟨trivial, ?_⟩
 refine go 2 ?_
 refine x_eqi true rfl rfl rfl rfl rfl rfl ?_
 refine go 0 ?_
 refine x_ia 0 rfl rfl rfl Try.underlying44 sz61 rfl rfl rfl (by simp) ?_
 refine go 0 ?_
 refine x_ld rfl rfl rfl Try.underlying27 rfl rfl (RowAt.cell hr0 (j := 4) (u := .int .i64 0) (by show some (Value.int IntKind.i64 d0.r.e) = _; rw [e0]; first | done | rfl)) ?_
 refine x_eqi true rfl rfl rfl rfl rfl rfl ?_
 refine go 0 ?_
 refine x_ia 1 rfl rfl rfl Try.underlying44 sz61 rfl rfl rfl (by simp) ?_
 refine go 0 ?_
 refine x_ld rfl rfl rfl Try.underlying27 rfl rfl (RowAt.cell hr1 (j := 4) (u := .int .i64 10) (by show some (Value.int IntKind.i64 d1.r.e) = _; rw [e4]; first | done | rfl)) ?_
 refine x_eqi true rfl rfl rfl rfl rfl rfl ?_
 refine go 0 ?_
 refine x_ia 0 rfl rfl rfl Try.underlying44 sz61 rfl rfl rfl (by simp) ?_
 refine go 0 ?_
 refine x_ld rfl rfl rfl Try.underlying3 rfl rfl (RowAt.cell hr0 (j := 3) (u := .int .i64 4) (by show some (Value.int IntKind.i64 d0.en) = _; rw [e1]; first | done | rfl)) ?_
 refine x_eqi true rfl rfl rfl rfl rfl rfl ?_
 refine go 0 ?_
 refine x_ia 1 rfl rfl rfl Try.underlying44 sz61 rfl rfl rfl (by simp) ?_
 refine go 0 ?_
 refine x_ld rfl rfl rfl Try.underlying3 rfl rfl (RowAt.cell hr1 (j := 2) (u := .int .i64 1) (by show some (Value.int IntKind.i64 ((d1.bg : Nat) : Int)) = _; rw [e2]; first | done | rfl)) ?_
 refine x_eqi true rfl rfl rfl rfl rfl rfl ?_
 refine go 0 ?_
 refine x_ia 1 rfl rfl rfl Try.underlying44 sz61 rfl rfl rfl (by simp) ?_
 refine go 0 ?_
 refine x_ld rfl rfl rfl Try.underlying3 rfl rfl (RowAt.cell hr1 (j := 3) (u := .int .i64 7) (by show some (Value.int IntKind.i64 d1.en) = _; rw [e3]; first | done | rfl)) ?_
 refine x_eqi true rfl rfl rfl rfl rfl rfl ?_
 refine go 0 ?_
 refine x_call rfl rfl rfl rfl rfl en17 (M.steps_c) ?_
 rintro r_ w13_ ⟨rfl, hn13⟩
 rw [vlS]
 have M := M.new hn13
 refine ⟨trivial, ?_⟩
 refine x_eqi true rfl rfl rfl rfl rfl rfl ?_
 refine go 0 ?_
 refine x_call rfl rfl rfl rfl rfl en18 (M.left_c) ?_
 rintro r_ w14_ ⟨rfl, hn14⟩
 rw [vlZ]
 have M := M.new hn14
 refine ⟨trivial, ?_⟩
 refine x_eqi true rfl rfl rfl rfl rfl rfl ?_
 refine go 1 ?_
 exact ⟨rfl, M.frm⟩

end Go.Proofs.Ytebfjdolgchgaaa

namespace Go.Proofs.Ytebfjdolgchgaaa
open Go Go.Fw Go.RowKit Go.Proofs
set_option linter.unusedVariables false
set_option linter.unusedSimpArgs false
set_option maxRecDepth 100000
set_option maxHeartbeats 4000000


-- valise/vfs.New
theorem vnew0_c {w0 : World} {bp n cap : Nat} {p : Option Addr} (h : n < 1 ∨ 8 < n) : Ret Try.prog 12 #[.iface 30 (ptr bp), .slice p n cap] w0 fun r w' => r = .tuple #[.pointer none, .int .i64 2] ∧ w0 = w' := by
 refine Ret.of_W Try.func12 rfl Try.ntmps12 rfl ?_
 refine go 0 ?_
 refine x_eqif false rfl rfl rfl Try.underlying73 rfl rfl rfl ?_
 refine spl 2 19 ?_ ?_
 ·intro hsp1
  refine go 1 ?_
  exact ⟨rfl, rfl⟩
 ·intro hsp1
  refine go 1 ?_
  refine x_gtr true rfl rfl rfl rfl rfl (decide_eq_true (by omega)) ?_
  refine go 1 ?_
  exact ⟨rfl, rfl⟩

end Go.Proofs.Ytebfjdolgchgaaa

namespace Go.Proofs.Ytebfjdolgchgaaa
open Go Go.Fw Go.RowKit
set_option linter.unusedVariables false
set_option linter.unusedSimpArgs false
section
variable {w00 w0 w w1 : World} {X Y L L' : List (Nat × Obj)} {v : Value} {ls : List (List OpS)}
theorem LsK.mono (h : LsK w00 L v ls) (hs : ∀ y ∈ L, y ∈ L') : LsK w00 L' v ls :=
 let ⟨vs, h1, h2, h3⟩ := h; ⟨vs, h1, h2.mono hs, fun i u l hu hl => (h3 i u l hu hl).mono hs⟩
theorem few_sm (h : fewL ls = true) : SmL ls ∧ ls.length ≤ 8 ∧ allL ls ≤ 24 := by
 obtain ⟨h8, h24, hok⟩ := few_iff.1 h
 exact ⟨⟨by omega, fun l hl o ho => by have := okO_iff.1 (hok l hl o ho); omega⟩, h8, h24⟩
theorem LsK.at_ {p : Option Addr} {n cap : Nat} (h : LsK w00 L (.slice p n cap) ls) (hM : Sep w00 X w) (hs : ∀ y ∈ L, y ∈ X) {i : Nat} {l : List OpS} (hl : ls[i]? = some l) :
  ∃ b off pu cu, p = some ⟨b, off, none⟩ ∧ n = ls.length ∧ w.cell? ⟨b, off + i * 1, none⟩ = some (.slice pu l.length cu) ∧ OpsK w00 L (.slice pu l.length cu) l := by
 obtain ⟨vs, h1, h2, h3⟩ := h
 have hi := (List.getElem?_eq_some_iff.1 hl).1
 obtain ⟨u, hu⟩ := get_lt (l := vs) (q := i) (by omega)
 have h4 := h2 _ _ hM hs
 obtain ⟨b, off, rfl, rfl⟩ := Sg.blk (j := i) h4 hi
 have h5 := Sl.cell1 (Sg.sl h4 (by omega)) hu
 have h6 := h3 i u l hu hl
 obtain ⟨R0, hR0, hsg0, hb0⟩ := id h6
 obtain ⟨pu, cu, rfl⟩ := (hsg0 _ _ hM hs).shape
 exact ⟨b, off, pu, cu, rfl, rfl, h5, h6⟩
theorem LsK.at0 {p : Option Addr} {n cap : Nat} (h : LsK w00 [] (.slice p n cap) ls) (hn : New w00 w) {i : Nat} {l : List OpS} (hl : ls[i]? = some l) :
  ∃ b off pu cu, p = some ⟨b, off, none⟩ ∧ n = ls.length ∧ (∀ {w1 : World}, New w00 w1 → w1.cell? ⟨b, off + i * 1, none⟩ = some (.slice pu l.length cu)) ∧ OpsK w00 [] (.slice pu l.length cu) l := by
 obtain ⟨vs, h1, h2, h3⟩ := h
 have hi := (List.getElem?_eq_some_iff.1 hl).1
 obtain ⟨u, hu⟩ := get_lt (l := vs) (q := i) (by omega)
 have h4 := h2 w [] hn (by simp)
 obtain ⟨b, off, rfl, rfl⟩ := Sg.blk (j := i) h4 hi
 have h6 := h3 i u l hu hl
 obtain ⟨R0, hR0, hsg0, hb0⟩ := id h6
 obtain ⟨pu, cu, rfl⟩ := (hsg0 w [] hn (by simp)).shape
 exact ⟨b, off, pu, cu, rfl, rfl, fun {w1} hn1 => Sl.cell1 (Sg.sl (h2 w1 [] hn1 (by simp)) (by omega)) hu, h6⟩
theorem OpsK.at_ {p : Option Addr} {n cap : Nat} {l : List OpS} (h : OpsK w00 L (.slice p n cap) l) (hM : Sep w00 X w) (hs : ∀ y ∈ L, y ∈ X) {k : Nat} {o : OpS} (ho : l[k]? = some o) :
  ∃ b off pd cd, p = some ⟨b, off, none⟩ ∧ n = l.length ∧ RowAt w b (off + k * 9) (opC o (.slice pd o.d.length cd)) ∧ BytesK w00 L (.slice pd o.d.length cd) o.d := by
 obtain ⟨R0, hR0, hsg0, hb0⟩ := h
 have hk := (List.getElem?_eq_some_iff.1 ho).1
 obtain ⟨x, hx⟩ := get_lt (l := R0) (q := k) (by rw [← List.length_map (f := (·.1)), hR0]; omega)
 have hxo : x.1 = o := by
  have : (R0.map (·.1))[k]? = some x.1 := by rw [List.getElem?_map, hx]; rfl
  rw [hR0, ho] at this
  exact (Option.some.inj this).symm
 have h4 := hsg0 _ _ hM hs
 obtain ⟨b, off, rfl, rfl⟩ := Sg.blk (j := k) h4 hk
 have hrow := opRow (Sg.sl h4 (by omega)) hx
 have hbd := hb0 _ (List.mem_of_getElem? hx)
 obtain ⟨pd, cd, hdv⟩ := Sg.shape (hbd _ _ hM hs)
 obtain ⟨o', dv⟩ := x
 simp only at hxo hdv hrow hbd
 subst hxo; subst hdv
 exact ⟨b, off, pd, cd, rfl, rfl, hrow, hbd⟩
theorem OpsK.at0 {p : Option Addr} {n cap : Nat} {l : List OpS} (h : OpsK w00 [] (.slice p n cap) l) (hn : New w00 w) {k : Nat} {o : OpS} (ho : l[k]? = some o) :
  ∃ b off pd cd, p = some ⟨b, off, none⟩ ∧ n = l.length ∧ (∀ {w1 : World}, New w00 w1 → RowAt w1 b (off + k * 9) (opC o (.slice pd o.d.length cd))) ∧ BytesK w00 [] (.slice pd o.d.length cd) o.d := by
 obtain ⟨R0, hR0, hsg0, hb0⟩ := h
 have hk := (List.getElem?_eq_some_iff.1 ho).1
 obtain ⟨x, hx⟩ := get_lt (l := R0) (q := k) (by rw [← List.length_map (f := (·.1)), hR0]; omega)
 have hxo : x.1 = o := by
  have : (R0.map (·.1))[k]? = some x.1 := by rw [List.getElem?_map, hx]; rfl
  rw [hR0, ho] at this
  exact (Option.some.inj this).symm
 have h4 := hsg0 w [] hn (by simp)
 obtain ⟨b, off, rfl, rfl⟩ := Sg.blk (j := k) h4 hk
 have hbd := hb0 _ (List.mem_of_getElem? hx)
 obtain ⟨pd, cd, hdv⟩ := Sg.shape (hbd w [] hn (by simp))
 obtain ⟨o', dv⟩ := x
 simp only at hxo hdv hbd
 subst hxo; subst hdv
 exact ⟨b, off, pd, cd, rfl, rfl, fun {w1} hn1 => opRow (Sg.sl (hsg0 w1 [] hn1 (by simp)) (by omega)) hx, hbd⟩
theorem DidK.rowF {LN : List (Nat × Obj)} {b off cap n : Nat} {o : List Dd} (h : DidK w00 LN (.slice (some ⟨b, off, none⟩) n cap) o) {M : List (Nat × Obj)} (hM : Sep w00 M w) (hs : ∀ y ∈ LN, y ∈ M) {k : Nat} {d : Dd} (hk : o[k]? = some d) :
  ∃ p1 c1 p2 c2, BytesK w00 LN (.slice p1 d.r.d.length c1) d.r.d ∧ SgK w00 LN (.slice p2 d.r.l.length c2) 1 d.r.l.length (strCs d.r.l) ∧ ∀ {w1 : World} {M : List (Nat × Obj)}, Sep w00 M w1 → (∀ y ∈ LN, y ∈ M) → RowAt w1 b (off + k * 9) (ddR d (.slice p1 d.r.d.length c1) (.slice p2 d.r.l.length c2)) := by
 obtain ⟨R, h1, h2, h3⟩ := h
 have hkl := (List.getElem?_eq_some_iff.1 hk).1
 obtain ⟨x, hx⟩ := get_lt (l := R) (q := k) (by rw [← List.length_map (f := (·.1)), h1]; exact hkl)
 have hxd : x.1 = d := by
  have : (R.map (·.1))[k]? = some x.1 := by rw [List.getElem?_map, hx]; rfl
  rw [h1, hk] at this
  exact (Option.some.inj this).symm
 obtain ⟨p1, c1, p2, c2, e, g1, g2⟩ := (h3 x (List.mem_of_getElem? hx)).shape
 obtain ⟨x1, x2⟩ := x
 simp only at hxd e g1 g2
 subst hxd; subst e
 refine ⟨p1, c1, p2, c2, g1, g2, fun {w1} {M} hM hs => ?_⟩
 have h4 := h2 _ _ hM hs
 obtain ⟨_, _, e⟩ := h4.shape
 cases e
 exact (Sg.sl h4 (by omega)).row (j := k) (l := ddV (x1, .slice p1 x1.r.d.length c1, .slice p2 x1.r.l.length c2)) rfl (flat_drop (m := 9) (e1 := ddV) (by decide) (fun _ _ => rfl) hx) (by simp [ddV, ddR])
theorem RowAt.after {b off : Nat} {a l : List Value} (h : RowAt w b off (a ++ l)) : RowAt w b (off + a.length) l := by
 obtain ⟨cs, T, fr, h1, h2⟩ := h
 refine ⟨cs, T, fr, h1, ?_⟩
 have := congrArg (List.drop a.length) h2
 rw [List.drop_left, List.length_append, List.drop_take, Nat.add_sub_cancel_left, List.drop_drop] at this
 exact this
theorem VA.files_c {f0 : List Raw} {h0 : HF} {I : VfI} {S : VS} (M : VA w00 X ls f0 h0 I S w0) : Ret Try.prog 13 #[] w0 fun r w' => ∃ pu cu Lr, r = .agg #[.slice pu fN.length cu, .slice none 0 0] ∧ FilesK w00 Lr (.slice pu fN.length cu) fN ∧ VA w00 (X ++ Lr) ls f0 h0 I S w' := by
 obtain ⟨⟨m, L, hR, M⟩, hA, hD, hm⟩ := M
 refine (vfiles_c M).mono fun r w' ⟨pu, cu, Lr, h1, h2, M⟩ => ⟨pu, cu, Lr, h1, h2, ⟨m, L, hR, M.perm ?_⟩, hA, hD, hm⟩
 exact perm_c fun p => by simp only [List.countP_append]; omega
theorem doD_c {u hv dv : Value} {l : List Raw} {hl : List Opn} {who : Int} {o : OpS} {rs : RsS} {P1 : List Raw × HF} {hf : HF} (M : Sep w00 (X ++ L) w0) (hF : FilesK w00 L u l) (hO : OpnK w00 L hv hl) (hI : RI l hl) (hh : hfL hl = hf) (hdv : BytesK w00 L dv o.d) (hod : o.d.length ≤ 131072) (hr : rs = (doS l hf who o).1) (hn : P1 = (doS l hf who o).2) :
  Ret Try.prog 24 #[.agg #[u, hv], .int .i64 who, .agg (opC o dv).toArray] w0 fun r w' => ∃ pu1 cu1 ph1 ch1 hl1 L1 q1 k1 q2 k2, r = .tuple #[.agg #[.slice pu1 P1.1.length cu1, .slice ph1 (hl1 : List Opn).length ch1], rsV rs (.slice q1 rs.d.length k1) (.slice q2 rs.l.length k2)] ∧ BytesK w00 (L ++ L1) (.slice q1 rs.d.length k1) rs.d ∧ SgK w00 (L ++ L1) (.slice q2 rs.l.length k2) 1 rs.l.length (strCs rs.l) ∧ FilesK w00 (L ++ L1) (.slice pu1 P1.1.length cu1) P1.1 ∧ OpnK w00 (L ++ L1) (.slice ph1 hl1.length ch1) hl1 ∧ RI P1.1 hl1 ∧ hfL hl1 = P1.2 ∧ Sep w00 (X ++ (L ++ L1)) w' := by
 subst hr hn hh
 exact (fdo_c M hF hO hI (by have := hI.hlen; omega) hdv hod).mono fun r w' ⟨pu', cu', ph', ch', hl', L', rv, h1, ⟨q1, k1, q2, k2, h2, h4, h5⟩, hF', hO', hI', hh', _, M⟩ => ⟨pu', cu', ph', ch', hl', L', q1, k1, q2, k2, by rw [h1, h2], h4, h5, hF', hO', hI', hh', M⟩
theorem pick_at {p : Option Addr} {n cap : Nat} {ps : List Int} (h : Sg w00 (.slice p n cap) 1 ps.length (zInts ps)) (hn : New w00 w) {k : Nat} {z : Int} (hz : ps[k]? = some z) :
  ∃ b off, p = some ⟨b, off, none⟩ ∧ n = ps.length ∧ ∀ {w1 : World}, New w00 w1 → w1.cell? ⟨b, off + k * 1, none⟩ = some (.int .i64 z) := by
 have hk := (List.getElem?_eq_some_iff.1 hz).1
 obtain ⟨b, off, rfl, rfl⟩ := Sg.blk (j := k) h hk
 exact ⟨b, off, rfl, rfl, fun hn => Sl.cell1 (Sg.sl (h.new hn) (by omega)) (by unfold zInts; rw [List.getElem?_map, hz]; rfl)⟩
end
end Go.Proofs.Ytebfjdolgchgaaa

namespace Go.Proofs.Ytebfjdolgchgaaa
open Go Go.Fw Go.RowKit Go.Proofs
set_option linter.unusedVariables false
set_option linter.unusedSimpArgs false
set_option maxRecDepth 100000
set_option maxHeartbeats 4000000

-- valise/valiselaw20.VfsPlays
theorem playsZ_c {w0 : World} {v pv : Value} {ls : List (List OpS)} {ps : List Int} (hz0 : ls.length = 0) (h : LsK w0 [] v ls) (hp : Sg w0 pv 1 ps.length (zInts ps)) (hpl : ps.length ≤ 9223372036854775807) : Ret Try.prog 3 #[v, pv] w0 fun r w' => r = .bool true ∧ New w0 w' := by
 have M : Sep w0 [] w0 := St.nil w0
 obtain ⟨vs, hvl, hvs, hop⟩ := id h
 obtain ⟨plv, clv, rfl⟩ := (hvs _ _ M (by simp)).shape
 obtain ⟨pp, cp, rfl⟩ := hp.shape
 refine Ret.of_W Try.func3 rfl Try.ntmps3 rfl ?_
 refine go 0 ?_
 refine x_call rfl rfl rfl rfl rfl en10 (vfew_c h) ?_
 rintro r_ wcall1 ⟨rfl, hn1⟩
 have M := M.new hn1
 refine ⟨trivial, ?_⟩
 refine spl 1 14 ?_ ?_
 ·intro hsp1
  refine go 0 ?_
  refine x_call rfl rfl rfl rfl rfl en11 (vlives_c) ?_
  rintro r_ w2 ⟨rfl, hn2⟩
  have M := M.new hn2
  refine ⟨trivial, ?_⟩
  refine go 1 ?_
  exact ⟨rfl, M.frm⟩
 ·intro hsp1
  refine cnd 2 ?_ ?_
  ·intro hco2
   refine go 0 ?_
   refine x_call rfl rfl rfl rfl rfl en11 (vlives_c) ?_
   rintro r_ w3 ⟨rfl, hn3⟩
   have M := M.new hn3
   refine ⟨trivial, ?_⟩
   refine go 1 ?_
   exact ⟨rfl, M.frm⟩
  ·intro hco2
   refine go 0 ?_
   refine x_call rfl rfl rfl rfl rfl en13 (vfiles_c (X := []) M) ?_
   rintro r_ wfl ⟨pu, cu, Lr, rfl, hF0, M⟩
   refine ⟨trivial, ?_⟩
   refine go 2 ?_
   intro _ _ M
   refine go 1 ?_
   refine x_call rfl rfl rfl rfl rfl en12 (vnew0_c (by omega)) ?_
   rintro r_ wnw ⟨rfl, rfl⟩
   refine ⟨trivial, ?_⟩
   refine go 1 ?_
   refine x_eqi true rfl rfl rfl rfl rfl (by rw [beq_iff_eq]; omega) ?_
   refine go 1 ?_
   refine x_eqi true rfl rfl rfl rfl rfl rfl ?_
   refine go 0 ?_
   refine x_call rfl rfl rfl rfl rfl en11 (vlives_c) ?_
   rintro r_ w6 ⟨rfl, hn6⟩
   have M := M.new hn6
   refine ⟨trivial, ?_⟩
   refine go 1 ?_
   exact ⟨rfl, M.frm⟩

end Go.Proofs.Ytebfjdolgchgaaa

namespace Go.Proofs.Ytebfjdolgchgaaa
open Go Go.Fw Go.RowKit
set_option linter.unusedVariables false
set_option linter.unusedSimpArgs false
def aR (a : AskR) : List Value := [.int .i64 a.1, strV a.2.1, .bool a.2.2.1, .bool a.2.2.2]
def aCs (k : List AskR) : List Value := k.flatMap aR
theorem aCs_len (k : List AskR) : (aCs k).length = k.length * 4 := flat_len (e1 := aR) (fun _ _ => rfl)
theorem aCs_app (a b : List AskR) : aCs (a ++ b) = aCs a ++ aCs b := List.flatMap_append
theorem aCs_one (k : List AskR) : ∀ u ∈ aCs k, u.oneCell' = true := by
 intro u hu
 obtain ⟨x, hx, hu⟩ := List.mem_flatMap.1 hu
 simp only [aR, List.mem_cons, List.not_mem_nil, or_false] at hu
 rcases hu with rfl | rfl | rfl | rfl <;> rfl
theorem aRow {w : World} {b off cap n j : Nat} {k : List AskR} {a : AskR} (h : Sl w (.slice (some ⟨b, off, none⟩) n cap) 4 n (aCs k)) (hj : k[j]? = some a) : RowAt w b (off + j * 4) (aR a) :=
 h.row (j := j) (l := aR a) rfl (flat_drop (m := 4) (e1 := aR) (by decide) (fun _ _ => rfl) hj) (by simp [aR])
abbrev AskAt (w : World) (v : Value) (k : List AskR) : Prop := Sg w v 4 k.length (aCs k)
abbrev AskK (w00 : World) (L : List (Nat × Obj)) (v : Value) (k : List AskR) : Prop := SgK w00 L v 4 k.length (aCs k)
theorem AskAt.rowF {w0 : World} {p : Option Addr} {n cap j : Nat} {k : List AskR} {a : AskR} (h : Sg w0 (.slice p n cap) 4 k.length (aCs k)) (hj : k[j]? = some a) :
  ∃ b off, p = some ⟨b, off, none⟩ ∧ n = k.length ∧ ∀ {w1 : World}, New w0 w1 → RowAt w1 b (off + j * 4) (aR a) := by
 have hk := (List.getElem?_eq_some_iff.1 hj).1
 obtain ⟨b, off, rfl, rfl⟩ := Sg.blk (j := j) h hk
 exact ⟨b, off, rfl, rfl, fun hn => aRow (Sg.sl (h.new hn) (by omega)) hj⟩
def firstI (k : List AskR) (key : List UInt8) : Int := match firstR' k key with | some i => (i : Int) | none => -1
theorem AskK.rowG {w00 : World} {L : List (Nat × Obj)} {b off cap j : Nat} {k : List AskR} {a : AskR} (h : SgK w00 L (.slice (some ⟨b, off, none⟩) k.length cap) 4 k.length (aCs k)) (ha : k[j]? = some a) {w : World} {M : List (Nat × Obj)} (hM : Sep w00 M w) (hs : ∀ y ∈ L, y ∈ M) : RowAt w b (off + j * 4) (aR a) :=
 aRow (Sg.sl (h _ _ hM hs) (by have := (List.getElem?_eq_some_iff.1 ha).1; omega)) ha
theorem fidx_at {α : Type} {l : List α} {f : α → Bool} {j : Nat} {x : α} (hx : l[j]? = some x) (hno : ∀ y ∈ l.take j, f y = false) (hf : f x = true) : l.findIdx? f = some j := by
 rw [List.findIdx?_eq_some_iff_getElem]
 obtain ⟨hj, rfl⟩ := List.getElem?_eq_some_iff.1 hx
 refine ⟨hj, hf, fun i hi => ?_⟩
 rw [hno l[i] (List.mem_take_iff_getElem.2 ⟨i, by omega, rfl⟩)]
 simp
theorem fidx_no {α : Type} {l : List α} {f : α → Bool} (hno : ∀ y ∈ l, f y = false) : l.findIdx? f = none := by
 rw [List.findIdx?_eq_none_iff]; exact hno
theorem fil_snoc {α : Type} {l : List α} {f : α → Bool} {j : Nat} {x : α} (hx : l[j]? = some x) : (l.take (j + 1)).filter f = (l.take j).filter f ++ (if f x = true then [x] else []) := by
 rw [take_snoc hx, List.filter_append]
 congr 1
 by_cases e : f x = true
 ·rw [if_pos e]; simp [e]
 ·rw [if_neg e]; simp [e]
theorem aCs_put {R : List AskR} {k n' : Nat} {x x' : AskR} {u : Value} {rest : List Value} (h : R[k]? = some x) (hn : n' = k * 4 + 3) (hx' : aR x' = (aR x).set 3 u) : (aCs R ++ rest).take n' ++ [u] ++ (aCs R ++ rest).drop (n' + 1) = aCs (R.set k x') ++ rest := by
 subst hn
 obtain ⟨hk, hx⟩ := List.getElem?_eq_some_iff.1 h
 have e : R = R.take k ++ x :: R.drop (k + 1) := by rw [← hx, ← List.drop_eq_getElem_cons hk, List.take_append_drop]
 have e2 : R.set k x' = R.take k ++ x' :: R.drop (k + 1) := List.set_eq_take_append_cons_drop ▸ (by rw [if_pos hk])
 have hl : (aCs (R.take k)).length = k * 4 := by rw [aCs_len, List.length_take]; omega
 have e3 : aCs R = aCs (R.take k) ++ (aR x ++ aCs (R.drop (k + 1))) := by
  conv => lhs; rw [e]
  rw [aCs_app]; rfl
 have e4 : aCs (R.set k x') = aCs (R.take k) ++ (aR x' ++ aCs (R.drop (k + 1))) := by rw [e2, aCs_app]; rfl
 have h9 : (aR x).length = 4 := rfl
 rw [e3, e4, hx']
 simp only [List.append_assoc]
 rw [← hl, List.take_length_add_append, show (aCs (R.take k)).length + 3 + 1 = (aCs (R.take k)).length + (3 + 1) by omega, List.drop_length_add_append, List.append_assoc, List.take_append_of_le_length (by omega), List.drop_append_of_le_length (by omega), List.set_eq_take_append_cons_drop, if_pos (by omega)]
 simp
def waitsR (k : List AskR) : Nat := k.countP fun a => !a.2.2.2
theorem first_wait {k : List AskR} {key : List UInt8} {i : Nat} (h : firstR' k key = some i) : ∃ a, k[i]? = some a ∧ a.2.2.2 = false ∧ 1 ≤ waitsR k ∧ waitsR (k.set i (a.1, a.2.1, a.2.2.1, true)) + 1 = waitsR k := by
 unfold firstR' at h
 rw [List.findIdx?_eq_some_iff_getElem] at h
 obtain ⟨hi, hf, _⟩ := h
 have hb : k[i].2.2.2 = false := by unfold ofR at hf; simp at hf; exact hf.2
 have hw : waitsR k = waitsR (k.take i) + (1 + waitsR (k.drop (i + 1))) := by
  have e : k = k.take i ++ k[i] :: k.drop (i + 1) := by rw [← List.drop_eq_getElem_cons hi, List.take_append_drop]
  conv => lhs; rw [e]
  unfold waitsR
  rw [List.countP_append, List.countP_cons, hb]
  simp; omega
 refine ⟨k[i], List.getElem?_eq_getElem hi, hb, by omega, ?_⟩
 have e2 : k.set i (k[i].1, k[i].2.1, k[i].2.2.1, true) = k.take i ++ (k[i].1, k[i].2.1, k[i].2.2.1, true) :: k.drop (i + 1) := List.set_eq_take_append_cons_drop ▸ (by rw [if_pos hi])
 rw [e2, hw]
 unfold waitsR
 rw [List.countP_append, List.countP_cons]
 simp; omega
theorem waitsR_le (k : List AskR) : waitsR k ≤ k.length := List.countP_le_length
theorem grantR_none {key : List UInt8} {k : List AskR} {now : List Int} (h : firstR' k key = none) : ∀ f, grantR key f k now = (k, now)
 | 0 => rfl
 | f + 1 => by unfold grantR; rw [h]
theorem grantR_stop {key : List UInt8} {k : List AskR} {now : List Int} {i : Nat} {a : AskR} (h : firstR' k key = some i) (ha : k[i]? = some a) (hm : mayR k key a.2.2.1 = false) : ∀ f, grantR key f k now = (k, now)
 | 0 => rfl
 | f + 1 => by unfold grantR; rw [h]; simp only [ha]; rw [if_neg (by rw [hm]; simp)]
theorem grantR_go {key : List UInt8} {k : List AskR} {now : List Int} {i f : Nat} {a : AskR} (h : firstR' k key = some i) (ha : k[i]? = some a) (hm : mayR k key a.2.2.1 = true) : grantR key (f + 1) k now = grantR key f (k.set i (a.1, a.2.1, a.2.2.1, true)) (now ++ [a.1]) := by
 conv => lhs; unfold grantR
 rw [h]; simp only [ha]; rw [if_pos hm]
theorem firstI_neg {k : List AskR} {key : List UInt8} (h : firstI k key < 0) : firstR' k key = none := by
 unfold firstI at h
 cases e : firstR' k key with
 | none => rfl
 | some i => rw [e] at h; simp only at h; omega
theorem firstI_pos {k : List AskR} {key : List UInt8} (h : ¬ firstI k key < 0) : ∃ i : Nat, firstR' k key = some i ∧ firstI k key = (i : Int) := by
 unfold firstI at h ⊢
 cases e : firstR' k key with
 | none => rw [e] at h; simp at h
 | some i => exact ⟨i, rfl, rfl⟩
end Go.Proofs.Ytebfjdolgchgaaa

namespace Go.Proofs.Ytebfjdolgchgaaa
open Go Go.Fw Go.RowKit Go.Proofs
set_option linter.unusedVariables false
set_option linter.unusedSimpArgs false
set_option maxRecDepth 100000
set_option maxHeartbeats 4000000

-- (valise/valiseref18.Locks).Of
theorem of18_c {w0 : World} {kv : Value} {k : List AskR} {key : List UInt8} {hb : Bool} (h : AskAt w0 kv k) (hl : k.length ≤ 1000) : Ret Try.prog 48 #[.agg #[kv], strV key, .bool hb] w0 fun r w' => ∃ p cap, r = .tuple #[.slice p (k.filter (ofR key hb)).length cap, .bool ((k.filter (ofR key hb)).any fun a => a.2.2.1)] ∧ New w0 w' := by
 have M : Sep w0 [] w0 := St.nil w0
 obtain ⟨pk, ck, rfl⟩ := Sg.shape h
 refine Ret.of_W Try.func48 rfl Try.ntmps48 rfl ?_
 refine go 0 ?_
 refine x_box [_] rfl rfl rfl rfl rfl ?_
 intro bbx1 wbx1 hbbx1 hwbx1
 have M : Sep w0 [(bbx1, .cells [.slice pk k.length ck].toArray 42 (0, 0))] wbx1 := M.acons hbbx1 hwbx1
 refine ⟨trivial, ?_⟩
 refine go 0 ?_
 refine W.loop (σ := Nat × Value × Bool) (fun s => [(1, _), (2, _), (3, _), (8, s.2.1), (9, .bool s.2.2), (10, .int .i64 ((s.1 : Nat) : Int))]) (fun s w => s.1 ≤ k.length ∧ s.2.2 = (((k.take s.1).filter (ofR key hb)).any fun a => a.2.2.1) ∧ ∃ Lo, OwL Lo s.2.1 1 ((k.take s.1).filter (ofR key hb)).length (zInts (((k.take s.1).filter (ofR key hb)).map (·.1))) ∧ Sep w0 ((bbx1, .cells [.slice pk k.length ck].toArray 42 (0, 0)) :: Lo) w) (fun s => k.length - s.1) (0, .slice none 0 0, false) ⟨rfl, rfl, rfl, rfl, rfl, rfl, trivial⟩ ⟨Nat.zero_le _, rfl, [], OwL.nil, M⟩ ?_
 rintro ⟨i, ov, wb⟩ w ⟨hi, hwb, Lo, how, M⟩
 simp only at hi hwb how M ⊢
 obtain ⟨po, co, rfl⟩ := how.shape
 have hfl : ((k.take i).filter (ofR key hb)).length ≤ 1000 := by have := List.length_filter_le (ofR key hb) (k.take i); rw [List.length_take] at this; omega
 refine cnd 3 ?_ ?_
 ·intro hco1
  obtain ⟨a, ha⟩ := get_lt (l := k) (q := i) (by omega)
  obtain ⟨b5, off5, rfl, _, hrowF⟩ := AskAt.rowF h ha
  have hfs := fil_snoc (f := ofR key hb) ha
  refine go 1 ?_
  refine x_ia i rfl rfl rfl Try.underlying40 sz98 rfl rfl rfl (by omega) ?_
  refine go 0 ?_
  refine x_ld rfl rfl rfl Try.underlying9 rfl rfl (RowAt.cell (hrowF M.frm) (j := 1) rfl) ?_
  refine spl 1 26 ?_ ?_
  ·intro hsp1
   refine go 1 ?_
   refine x_ia i rfl rfl rfl Try.underlying40 sz98 rfl rfl rfl (by omega) ?_
   refine go 0 ?_
   refine x_ld rfl rfl rfl Try.underlying4 rfl rfl (RowAt.cell (hrowF M.frm) (j := 3) rfl) ?_
   refine cnd 1 ?_ ?_
   ·intro hco2
    have hf : ofR key hb a = true := by unfold ofR; rw [hsp1, hco2]; simp
    rw [if_pos hf] at hfs
    refine go 1 ?_
    refine x_ia i rfl rfl rfl Try.underlying40 sz98 rfl rfl rfl (by omega) ?_
    refine go 0 ?_
    refine x_ld rfl rfl rfl Try.underlying3 rfl rfl (RowAt.cell (hrowF M.frm) (j := 0) rfl) ?_
    refine x_bs1 (cs := [.int .i64 a.1]) rfl rfl rfl Try.underlying23 sz3 ze3 (Z := [_]) rfl rfl (by decide) (by decide) rfl rfl rfl ?_
    intro bbs1 wbs1 hbbs1 hwbs1
    have M0 := M.acons hbbs1 hwbs1
    have hslbs1 : Sl wbs1 (.slice (some ⟨bbs1, 0, none⟩) 1 1) 1 1 [.int .i64 a.1] := .inr ⟨bbs1, 0, 1, _, _, _, rfl, by omega, M0.at_ 0 rfl, rfl, rfl⟩
    have M := M0.tail
    refine ⟨trivial, ?_⟩
    have M := M.perm (List.perm_append_comm (l₁ := [_]) (l₂ := Lo))
    refine x_apL rfl rfl rfl rfl Try.underlying23 sz3 ze3 rfl by3 rfl rfl how M (zInts_one _) (hslbs1.src Try.underlying23 (by intro u hu; obtain rfl := List.mem_singleton.1 hu; rfl)) (by omega) (by decide) (by omega) ?_
    intro Lo2 v6 wap1 how2 M
    have M := M.perm (List.perm_append_comm (l₁ := Lo2) (l₂ := [_]))
    have how2 : OwL Lo2 v6 1 (((k.take i).filter (ofR key hb)).length + 1) (zInts ((((k.take i).filter (ofR key hb)) ++ [a]).map (·.1))) := by simp only [zInts, List.map_append] at how2 ⊢; exact how2
    refine ⟨trivial, ?_⟩
    refine spl 0 46 ?_ ?_
    ·intro hsp2
     refine go 0 ?_
     refine x_add _ rfl rfl rfl rfl rfl (wadd (by omega) (by omega)) ?_
     refine go 0 ?_
     exact At.back ((i + 1, v6, true)) ⟨rfl, rfl, rfl, rfl, rfl, rfl, trivial⟩ ⟨by simp only; omega, by simp only; rw [hfs, List.any_append, ← hwb, hsp2]; rfl, Lo2, by simp only; rw [hfs, List.length_append]; exact how2, M⟩ (by first | omega | (simp only; omega) | (simp; done) | (simp; omega))
    ·intro hsp2
     refine go 1 ?_
     refine x_ia i rfl rfl rfl Try.underlying40 sz98 rfl rfl rfl (by omega) ?_
     refine go 0 ?_
     refine x_ld rfl rfl rfl Try.underlying4 rfl rfl (RowAt.cell (hrowF M.frm) (j := 2) rfl) ?_
     refine go 0 ?_
     refine x_add _ rfl rfl rfl rfl rfl (wadd (by omega) (by omega)) ?_
     refine go 0 ?_
     exact At.back ((i + 1, v6, a.2.2.1)) ⟨rfl, rfl, rfl, rfl, rfl, rfl, trivial⟩ ⟨by simp only; omega, by simp only; rw [hfs, List.any_append, ← hwb, hsp2]; simp, Lo2, by simp only; rw [hfs, List.length_append]; exact how2, M⟩ (by first | omega | (simp only; omega) | (simp; done) | (simp; omega))
   ·intro hco2
    have hf : ¬ ofR key hb a = true := by unfold ofR; simp [hsp1, hco2]
    rw [if_neg hf, List.append_nil] at hfs
    refine go 0 ?_
    refine x_add _ rfl rfl rfl rfl rfl (wadd (by omega) (by omega)) ?_
    refine go 0 ?_
    exact At.back ((i + 1, .slice po ((k.take i).filter (ofR key hb)).length co, wb)) ⟨rfl, rfl, rfl, rfl, rfl, rfl, trivial⟩ ⟨by simp only; omega, by simp only; rw [hfs]; exact hwb, Lo, by simp only; rw [hfs]; exact how, M⟩ (by first | omega | (simp only; omega) | (simp; done) | (simp; omega))
  ·intro hsp1
   have hf : ¬ ofR key hb a = true := by unfold ofR; simp [hsp1]
   rw [if_neg hf, List.append_nil] at hfs
   refine go 0 ?_
   refine x_add _ rfl rfl rfl rfl rfl (wadd (by omega) (by omega)) ?_
   refine go 0 ?_
   exact At.back ((i + 1, .slice po ((k.take i).filter (ofR key hb)).length co, wb)) ⟨rfl, rfl, rfl, rfl, rfl, rfl, trivial⟩ ⟨by simp only; omega, by simp only; rw [hfs]; exact hwb, Lo, by simp only; rw [hfs]; exact how, M⟩ (by first | omega | (simp only; omega) | (simp; done) | (simp; omega))
 ·intro hco1
  refine go 1 ?_
  obtain rfl : i = k.length := by omega
  rw [List.take_length] at hwb ⊢
  exact ⟨po, co, by rw [hwb], M.frm⟩

-- (valise/valiseref18.Locks).may
theorem may18_c {w0 : World} {kv : Value} {k : List AskR} {key : List UInt8} {wr : Bool} (h : AskAt w0 kv k) (hl : k.length ≤ 1000) : Ret Try.prog 49 #[.agg #[kv], strV key, .bool wr] w0 fun r w' => r = .bool (mayR k key wr) ∧ New w0 w' := by
 have M : Sep w0 [] w0 := St.nil w0
 obtain ⟨pk, ck, rfl⟩ := Sg.shape h
 refine Ret.of_W Try.func49 rfl Try.ntmps49 rfl ?_
 refine go 0 ?_
 refine x_box [_] rfl rfl rfl rfl rfl ?_
 intro bbx1 wbx1 hbbx1 hwbx1
 have M : Sep w0 [(bbx1, .cells [.slice pk k.length ck].toArray 42 (0, 0))] wbx1 := M.acons hbbx1 hwbx1
 refine ⟨trivial, ?_⟩
 refine go 1 ?_
 refine x_call rfl rfl rfl rfl rfl en48 (of18_c (h.new M.frm) hl) ?_
 rintro r_ wcall1 ⟨p1, c1, rfl, hn1⟩
 have M := M.new hn1
 refine ⟨trivial, ?_⟩
 refine spl 2 18 ?_ ?_
 ·intro hsp1
  refine go 1 ?_
  exact ⟨by unfold mayR; rw [List.length_eq_zero_iff.1 (by omega : (k.filter (ofR key true)).length = 0)]; rfl, M.frm⟩
 ·intro hsp1
  have he : (k.filter (ofR key true)).isEmpty = false := by
   cases e : k.filter (ofR key true) with
   | nil => rw [e] at hsp1; simp at hsp1
   | cons _ _ => rfl
  refine spl 1 21 ?_ ?_
  ·intro hsp2
   refine go 2 ?_
   exact ⟨by unfold mayR; rw [he, hsp2]; rfl, M.frm⟩
  ·intro hsp2
   refine go 1 ?_
   exact ⟨by unfold mayR; rw [he, hsp2]; rfl, M.frm⟩

-- (valise/valiseref18.Locks).first
theorem first18_c {w0 : World} {kv : Value} {k : List AskR} {key : List UInt8} (h : AskAt w0 kv k) (hl : k.length ≤ 1000) : Ret Try.prog 51 #[.agg #[kv], strV key] w0 fun r w' => r = .int .i64 (firstI k key) ∧ New w0 w' := by
 have M : Sep w0 [] w0 := St.nil w0
 obtain ⟨pk, ck, rfl⟩ := Sg.shape h
 refine Ret.of_W Try.func51 rfl Try.ntmps51 rfl ?_
 refine go 0 ?_
 refine x_box [_] rfl rfl rfl rfl rfl ?_
 intro bbx1 wbx1 hbbx1 hwbx1
 have M : Sep w0 [(bbx1, .cells [.slice pk k.length ck].toArray 42 (0, 0))] wbx1 := M.acons hbbx1 hwbx1
 refine ⟨trivial, ?_⟩
 refine go 0 ?_
 refine W.loop (σ := Nat) (fun i => [(1, _), (2, _), (5, .int .i64 ((i : Nat) : Int))]) (fun i w => i ≤ k.length ∧ (∀ y ∈ k.take i, ofR key false y = false) ∧ Sep w0 [(bbx1, .cells [.slice pk k.length ck].toArray 42 (0, 0))] w) (fun i => k.length - i) 0 ⟨rfl, rfl, rfl, trivial⟩ ⟨Nat.zero_le _, by simp, M⟩ ?_
 rintro i w ⟨hi, hno, M⟩
 refine cnd 3 ?_ ?_
 ·intro hco1
  obtain ⟨a, ha⟩ := get_lt (l := k) (q := i) (by omega)
  obtain ⟨b5, off5, rfl, _, hrowF⟩ := AskAt.rowF h ha
  have hst : ofR key false a = false → ∀ y ∈ k.take (i + 1), ofR key false y = false := fun hf y hy => by
   rw [take_snoc ha] at hy
   rcases List.mem_append.1 hy with g | g
   ·exact hno y g
   ·obtain rfl := List.mem_singleton.1 g; exact hf
  refine go 1 ?_
  refine x_ia i rfl rfl rfl Try.underlying40 sz98 rfl rfl rfl (by omega) ?_
  refine go 0 ?_
  refine x_ld rfl rfl rfl Try.underlying9 rfl rfl (RowAt.cell (hrowF M.frm) (j := 1) rfl) ?_
  refine spl 1 21 ?_ ?_
  ·intro hsp1
   refine go 1 ?_
   refine x_ia i rfl rfl rfl Try.underlying40 sz98 rfl rfl rfl (by omega) ?_
   refine go 0 ?_
   refine x_ld rfl rfl rfl Try.underlying4 rfl rfl (RowAt.cell (hrowF M.frm) (j := 3) rfl) ?_
   refine cnd 1 ?_ ?_
   ·intro hco2
    refine go 1 ?_
    exact ⟨by unfold firstI; rw [show firstR' k key = some i from fidx_at ha hno (by unfold ofR; simp [hsp1, hco2])], M.frm⟩
   ·intro hco2
    refine go 0 ?_
    refine x_add _ rfl rfl rfl rfl rfl (wadd (by omega) (by omega)) ?_
    refine go 0 ?_
    exact At.back (i + 1) ⟨rfl, rfl, rfl, trivial⟩ ⟨by omega, hst (by unfold ofR; simp [hco2]), M⟩ (by first | omega | (simp only; omega) | (simp; done) | (simp; omega))
  ·intro hsp1
   refine go 0 ?_
   refine x_add _ rfl rfl rfl rfl rfl (wadd (by omega) (by omega)) ?_
   refine go 0 ?_
   exact At.back (i + 1) ⟨rfl, rfl, rfl, trivial⟩ ⟨by omega, hst (by unfold ofR; simp [hsp1]), M⟩ (by first | omega | (simp only; omega) | (simp; done) | (simp; omega))
 ·intro hco1
  refine go 1 ?_
  obtain rfl : i = k.length := by omega
  rw [List.take_length] at hno
  exact ⟨by unfold firstI; rw [show firstR' k key = none from fidx_no hno], M.frm⟩

end Go.Proofs.Ytebfjdolgchgaaa

namespace Go.Proofs.Ytebfjdolgchgaaa
open Go Go.Fw Go.RowKit Go.Proofs
set_option linter.unusedVariables false
set_option linter.unusedSimpArgs false
set_option maxRecDepth 100000
set_option maxHeartbeats 4000000

-- (valise/valiseref18.Locks).Ask
theorem ask18_c {w00 w0 : World} {X L : List (Nat × Obj)} {kv : Value} {k : List AskR} {who : Int} {key : List UInt8} {wr : Bool} (M : Sep w00 (X ++ L) w0) (h : AskK w00 L kv k) (hl : k.length ≤ 500) (h0 : 0 ≤ who) (h8 : who < 8) : Ret Try.prog 31 #[.agg #[kv], .int .i64 who, strV key, .bool wr] w0 fun r w' => ∃ p' cap' L' b e, r = .tuple #[.agg #[.slice p' (askR k who key wr).1.length cap'], .bool b, .int .i64 e] ∧ AskK w00 (L ++ L') (.slice p' (askR k who key wr).1.length cap') (askR k who key wr).1 ∧ Sep w00 (X ++ (L ++ L')) w' := by
 obtain ⟨pk, ck, rfl⟩ := Sg.shape (h _ _ M (fun y hy => by simp [hy]))
 refine Ret.of_W Try.func31 rfl Try.ntmps31 rfl ?_
 refine go 1 ?_
 intro bbx1 _ M
 refine x_alloc [_] rfl rfl rfl ze42 rfl ?_
 intro bal1 wal1 hbal1 hwal1
 have M : Sep w00 ((bal1, .cells [.slice none 0 0].toArray 42 (0, 0)) :: (bbx1, .cells [.slice pk k.length ck].toArray 42 (0, 0)) :: (X ++ L)) wal1 := M.acons hbal1 hwal1
 refine ⟨trivial, ?_⟩
 refine go 0 ?_
 refine x_lss false rfl rfl rfl rfl rfl (decide_eq_false (by omega)) ?_
 refine go 0 ?_
 refine x_geq false rfl rfl rfl rfl rfl (decide_eq_false (by omega)) ?_
 refine go 0 ?_
 refine W.loop (σ := Nat) (fun i => [(1, _), (2, _), (3, _), (4, _), (8, _), (11, .int .i64 ((i : Nat) : Int))]) (fun i w => i ≤ k.length ∧ (∀ y ∈ k.take i, isR who key y = false) ∧ Sep w00 ((bal1, .cells [.slice none 0 0].toArray 42 (0, 0)) :: (bbx1, .cells [.slice pk k.length ck].toArray 42 (0, 0)) :: (X ++ L)) w) (fun i => k.length - i) 0 ⟨rfl, rfl, rfl, rfl, rfl, rfl, trivial⟩ ⟨Nat.zero_le _, by simp, M⟩ ?_
 rintro i w ⟨hi, hno, M⟩
 refine go 0 ?_
 refine x_ld rfl rfl rfl Try.underlying40 rfl rfl (cell_of (M.at_ 1 rfl) rfl) ?_
 refine cnd 2 ?_ ?_
 ·intro hco2
  obtain ⟨a, ha⟩ := get_lt (l := k) (q := i) (by omega)
  obtain ⟨b5, off5, rfl, _, hrowF⟩ := AskAt.rowF (h _ _ M (fun y hy => by simp [hy])) ha
  have hrow := hrowF (St.nil _)
  have hst : isR who key a = false → ∀ y ∈ k.take (i + 1), isR who key y = false := fun hf y hy => by
   rw [take_snoc ha] at hy
   rcases List.mem_append.1 hy with g | g
   ·exact hno y g
   ·obtain rfl := List.mem_singleton.1 g; exact hf
  refine go 0 ?_
  refine x_ld rfl rfl rfl Try.underlying40 rfl rfl (cell_of (M.at_ 1 rfl) rfl) ?_
  refine go 0 ?_
  refine x_ia i rfl rfl rfl Try.underlying40 sz98 rfl rfl rfl (by omega) ?_
  refine go 0 ?_
  refine x_ld rfl rfl rfl Try.underlying3 rfl rfl (RowAt.cell hrow (j := 0) rfl) ?_
  refine spl 1 37 ?_ ?_
  ·intro hsp1
   refine go 0 ?_
   refine x_ld rfl rfl rfl Try.underlying40 rfl rfl (cell_of (M.at_ 1 rfl) rfl) ?_
   refine go 0 ?_
   refine x_ia i rfl rfl rfl Try.underlying40 sz98 rfl rfl rfl (by omega) ?_
   refine go 0 ?_
   refine x_ld rfl rfl rfl Try.underlying9 rfl rfl (RowAt.cell hrow (j := 1) rfl) ?_
   refine cnd 1 ?_ ?_
   ·intro hco3
    have hA : askR k who key wr = (k, false, 18) := by unfold askR; rw [if_neg (by omega), if_pos (List.any_eq_true.2 ⟨a, List.mem_of_getElem? ha, by unfold isR; simp [hsp1, hco3]⟩)]
    refine go 0 ?_
    refine x_ldA [_] rfl rfl rfl Try.underlying42 rfl sz42 rfl rfl ⟨_, _, _, M.at_ 1 rfl, rfl⟩ ?_
    refine go 1 ?_
    intro _ M
    refine go 1 ?_
    exact ⟨_, ck, [], _, _, by rw [hA], by rw [hA, List.append_nil]; exact h, by rw [List.append_nil]; exact M.tail.tail⟩
   ·intro hco3
    refine go 0 ?_
    refine x_add _ rfl rfl rfl rfl rfl (wadd (by omega) (by omega)) ?_
    refine go 0 ?_
    exact At.back (i + 1) ⟨rfl, rfl, rfl, rfl, rfl, rfl, trivial⟩ ⟨by omega, hst (by unfold isR; simp [hco3]), M⟩ (by first | omega | (simp only; omega) | (simp; done) | (simp; omega))
  ·intro hsp1
   refine go 0 ?_
   refine x_add _ rfl rfl rfl rfl rfl (wadd (by omega) (by omega)) ?_
   refine go 0 ?_
   exact At.back (i + 1) ⟨rfl, rfl, rfl, rfl, rfl, rfl, trivial⟩ ⟨by omega, hst (by unfold isR; simp [hsp1]), M⟩ (by first | omega | (simp only; omega) | (simp; done) | (simp; omega))
 ·intro hco2
  obtain rfl : i = k.length := by omega
  rw [List.take_length] at hno
  have hany : k.any (isR who key) = false := by rw [List.any_eq_false]; exact fun y hy => by rw [hno y hy]; simp
  refine go 0 ?_
  refine x_ldA [_] rfl rfl rfl Try.underlying42 rfl sz42 rfl rfl ⟨_, _, _, M.at_ 1 rfl, rfl⟩ ?_
  refine go 0 ?_
  refine x_call rfl rfl rfl rfl rfl en48 (of18_c (h _ _ M (fun y hy => by simp [hy])) (by omega)) ?_
  rintro r_ wcall1 ⟨p1, c1, rfl, hn1⟩
  have M := M.new hn1
  refine ⟨trivial, ?_⟩
  refine spl 2 57 ?_ ?_
  ·intro hsp2
   have hem : (k.filter (ofR key false)).isEmpty = true := by rw [List.length_eq_zero_iff.1 (by omega : (k.filter (ofR key false)).length = 0)]; rfl
   have hA : askR k who key wr = (k ++ [(who, key, wr, mayR k key wr)], mayR k key wr, 0) := by unfold askR; rw [if_neg (by omega), if_neg (by rw [hany]; simp), hem]; rfl
   refine x_ldA [_] rfl rfl rfl Try.underlying42 rfl sz42 rfl rfl ⟨_, _, _, M.at_ 1 rfl, rfl⟩ ?_
   refine go 0 ?_
   refine x_call rfl rfl rfl rfl rfl en49 (may18_c (h _ _ M (fun y hy => by simp [hy])) (by omega)) ?_
   rintro r_ wcall2 ⟨rfl, hn2⟩
   have M := M.new hn2
   refine ⟨trivial, ?_⟩
   refine go 0 ?_
   refine x_bs0 rfl rfl rfl Try.underlying40 sz98 ?_
   intro bb wb hbb hwb
   have M := M.acons hbb hwb
   refine ⟨trivial, ?_⟩
   refine go 0 ?_
   refine x_ld rfl rfl rfl Try.underlying40 rfl rfl (cell_of (M.at_ 2 rfl) rfl) ?_
   refine x_apL (L := [_]) (L0 := (bal1, .cells [.slice none 0 0].toArray 42 (0, 0)) :: (bbx1, .cells [.slice pk k.length ck].toArray 42 (0, 0)) :: (X ++ L)) (cs := []) (nn := 0) rfl rfl rfl rfl Try.underlying40 sz98 ze98 rfl by98 rfl rfl (.inr ⟨bb, 0, [], _, rfl, rfl, rfl, rfl⟩) M (by simp) ((h _ _ M (fun y hy => by simp [hy])).src Try.underlying40 (aCs_one _)) (by omega) (by decide) (by omega) ?_
   intro Lo v6 w6 how M
   rw [Nat.zero_add, List.nil_append] at how
   obtain ⟨p6, c6, rfl⟩ := how.shape
   refine ⟨trivial, ?_⟩
   refine go 1 ?_
   refine x_bs1 (cs := (aR (who, key, wr, (mayR k key wr)))) rfl rfl rfl Try.underlying40 sz98 ze98 (Z := [_, _, _, _]) rfl rfl (by decide) (by decide) rfl rfl rfl ?_
   intro bbs2 wbs2 hbbs2 hwbs2
   have M0 := M.acons hbbs2 hwbs2
   have hslbs2 : Sl wbs2 (.slice (some ⟨bbs2, 0, none⟩) 1 1) 4 1 (aR (who, key, wr, (mayR k key wr))) := .inr ⟨bbs2, 0, 1, _, _, _, rfl, by omega, M0.at_ 0 rfl, rfl, rfl⟩
   have M := M0.tail
   refine ⟨trivial, ?_⟩
   refine x_apL rfl rfl rfl rfl Try.underlying40 sz98 ze98 rfl by98 rfl rfl how M (aCs_one _) (hslbs2.src Try.underlying40 (by intro u hu; simp only [aR, List.mem_cons, List.not_mem_nil, or_false] at hu; rcases hu with rfl | rfl | rfl | rfl <;> rfl)) (by omega) (by decide) (by omega) ?_
   intro Lo2 v7 w7 how2 M
   obtain ⟨p7, c7, rfl⟩ := how2.shape
   have M : Sep w00 ((bal1, .cells [.slice none 0 0].toArray 42 (0, 0)) :: (bbx1, .cells [.slice pk k.length ck].toArray 42 (0, 0)) :: (X ++ (L ++ Lo2))) w7 := M.perm (perm_c fun p => by simp only [List.countP_append, List.countP_cons, List.countP_nil]; omega)
   refine ⟨trivial, ?_⟩
   refine go 2 ?_
   intro _ M
   refine go 1 ?_
   exact ⟨p7, c7, Lo2, _, _, by rw [hA, List.length_append]; rfl, by rw [hA]; exact SgK.own (by simp only [List.length_append, aCs_app]; exact how2) (by decide) (fun y hy => List.mem_append_right _ hy), M.tail.tail⟩
  ·intro hsp2
   have hem : (k.filter (ofR key false)).isEmpty = false := by
    cases e : k.filter (ofR key false) with
    | nil => rw [e] at hsp2; simp at hsp2
    | cons _ _ => rfl
   have hA : askR k who key wr = (k ++ [(who, key, wr, false)], false, 0) := by unfold askR; rw [if_neg (by omega), if_neg (by rw [hany]; simp), hem]; rfl
   refine go 0 ?_
   refine x_bs0 rfl rfl rfl Try.underlying40 sz98 ?_
   intro bb wb hbb hwb
   have M := M.acons hbb hwb
   refine ⟨trivial, ?_⟩
   refine go 0 ?_
   refine x_ld rfl rfl rfl Try.underlying40 rfl rfl (cell_of (M.at_ 2 rfl) rfl) ?_
   refine x_apL (L := [_]) (L0 := (bal1, .cells [.slice none 0 0].toArray 42 (0, 0)) :: (bbx1, .cells [.slice pk k.length ck].toArray 42 (0, 0)) :: (X ++ L)) (cs := []) (nn := 0) rfl rfl rfl rfl Try.underlying40 sz98 ze98 rfl by98 rfl rfl (.inr ⟨bb, 0, [], _, rfl, rfl, rfl, rfl⟩) M (by simp) ((h _ _ M (fun y hy => by simp [hy])).src Try.underlying40 (aCs_one _)) (by omega) (by decide) (by omega) ?_
   intro Lo v6 w6 how M
   rw [Nat.zero_add, List.nil_append] at how
   obtain ⟨p6, c6, rfl⟩ := how.shape
   refine ⟨trivial, ?_⟩
   refine go 1 ?_
   refine x_bs1 (cs := (aR (who, key, wr, false))) rfl rfl rfl Try.underlying40 sz98 ze98 (Z := [_, _, _, _]) rfl rfl (by decide) (by decide) rfl rfl rfl ?_
   intro bbs4 wbs4 hbbs4 hwbs4
   have M0 := M.acons hbbs4 hwbs4
   have hslbs4 : Sl wbs4 (.slice (some ⟨bbs4, 0, none⟩) 1 1) 4 1 (aR (who, key, wr, false)) := .inr ⟨bbs4, 0, 1, _, _, _, rfl, by omega, M0.at_ 0 rfl, rfl, rfl⟩
   have M := M0.tail
   refine ⟨trivial, ?_⟩
   refine x_apL rfl rfl rfl rfl Try.underlying40 sz98 ze98 rfl by98 rfl rfl how M (aCs_one _) (hslbs4.src Try.underlying40 (by intro u hu; simp only [aR, List.mem_cons, List.not_mem_nil, or_false] at hu; rcases hu with rfl | rfl | rfl | rfl <;> rfl)) (by omega) (by decide) (by omega) ?_
   intro Lo2 v7 w7 how2 M
   obtain ⟨p7, c7, rfl⟩ := how2.shape
   have M : Sep w00 ((bal1, .cells [.slice none 0 0].toArray 42 (0, 0)) :: (bbx1, .cells [.slice pk k.length ck].toArray 42 (0, 0)) :: (X ++ (L ++ Lo2))) w7 := M.perm (perm_c fun p => by simp only [List.countP_append, List.countP_cons, List.countP_nil]; omega)
   refine ⟨trivial, ?_⟩
   refine go 2 ?_
   intro _ M
   refine go 1 ?_
   exact ⟨p7, c7, Lo2, _, _, by rw [hA, List.length_append]; rfl, by rw [hA]; exact SgK.own (by simp only [List.length_append, aCs_app]; exact how2) (by decide) (fun y hy => List.mem_append_right _ hy), M.tail.tail⟩

end Go.Proofs.Ytebfjdolgchgaaa

namespace Go.Proofs.Ytebfjdolgchgaaa
open Go Go.Fw Go.RowKit Go.Proofs
set_option linter.unusedVariables false
set_option linter.unusedSimpArgs false
set_option maxRecDepth 100000
set_option maxHeartbeats 4000000

-- (valise/valiseref18.Locks).Free
theorem free18_c {w00 w0 : World} {X L : List (Nat × Obj)} {kv : Value} {k : List AskR} {who : Int} {key : List UInt8} (M : Sep w00 (X ++ L) w0) (h : AskK w00 L kv k) (hl : k.length ≤ 500) (h0 : 0 ≤ who) (h8 : who < 8) : Ret Try.prog 33 #[.agg #[kv], .int .i64 who, strV key] w0 fun r w' => ∃ p' cap' L' v e, r = .tuple #[.agg #[.slice p' (freeR k who key).1.length cap'], v, .int .i64 e] ∧ AskK w00 (L ++ L') (.slice p' (freeR k who key).1.length cap') (freeR k who key).1 ∧ Sep w00 (X ++ (L ++ L')) w' := by
 obtain ⟨pk, ck, rfl⟩ := Sg.shape (h _ _ M (fun y hy => by simp [hy]))
 refine Ret.of_W Try.func33 rfl Try.ntmps33 rfl ?_
 refine go 1 ?_
 intro bbx1 _ M
 refine x_alloc [_] rfl rfl rfl ze42 rfl ?_
 intro bal1 wal1 hbal1 hwal1
 have M : Sep w00 ((bal1, .cells [.slice none 0 0].toArray 42 (0, 0)) :: (bbx1, .cells [.slice pk k.length ck].toArray 42 (0, 0)) :: (X ++ L)) wal1 := M.acons hbal1 hwal1
 refine ⟨trivial, ?_⟩
 refine go 0 ?_
 refine x_lss false rfl rfl rfl rfl rfl (decide_eq_false (by omega)) ?_
 refine go 0 ?_
 refine x_geq false rfl rfl rfl rfl rfl (decide_eq_false (by omega)) ?_
 refine go 2 ?_
 intro bal2 _ M
 refine x_st [_] _ rfl rfl rfl sz42 rfl rfl rfl rfl atM rfl rfl rfl ?_
 intro wst1 hwst1
 have M : Sep w00 ((bal2, .cells [.slice none 0 0].toArray 42 (0, 0)) :: (bal1, .cells [.slice none 0 0].toArray 42 (0, 0)) :: (bbx1, .cells [.slice pk k.length ck].toArray 42 (0, 0)) :: (([] : List (Nat × Obj)) ++ (X ++ L))) wst1 := M.put 0 rfl hwst1
 refine ⟨trivial, ?_⟩
 refine go 0 ?_
 refine W.loop (σ := Nat) (fun i => [(1, _), (2, _), (3, _), (6, _), (9, _), (10, .int .i64 ((i : Nat) : Int))]) (fun i w => i ≤ k.length ∧ ∃ ov Lo, OwL Lo ov 4 (takeR (k.take i) who key).length (aCs (takeR (k.take i) who key)) ∧ Sep w00 ((bal2, .cells [ov].toArray 42 (0, 0)) :: (bal1, .cells [.slice none 0 0].toArray 42 (0, 0)) :: (bbx1, .cells [.slice pk k.length ck].toArray 42 (0, 0)) :: (Lo ++ (X ++ L))) w) (fun i => k.length - i) 0 ⟨rfl, rfl, rfl, rfl, rfl, rfl, trivial⟩ ⟨Nat.zero_le _, _, [], OwL.nil, M⟩ ?_
 rintro i w ⟨hi, ov, Lo, how, M⟩
 obtain ⟨po, co, rfl⟩ := how.shape
 have htl : (takeR (k.take i) who key).length ≤ 500 := by have := List.length_filter_le (fun a => !(isR who key a && a.2.2.2)) (k.take i); rw [List.length_take] at this; unfold takeR; omega
 refine go 0 ?_
 refine x_ld rfl rfl rfl Try.underlying40 rfl rfl (cell_of (M.at_ 2 rfl) rfl) ?_
 refine cnd 2 ?_ ?_
 ·intro hco2
  obtain ⟨a, ha⟩ := get_lt (l := k) (q := i) (by omega)
  obtain ⟨b5, off5, rfl, _, hrowF⟩ := AskAt.rowF (h _ _ M (fun y hy => by simp [hy])) ha
  have hrow := hrowF (St.nil _)
  have hfs : takeR (k.take (i + 1)) who key = (takeR (k.take i) who key) ++ (if (!(isR who key a && a.2.2.2)) = true then [a] else []) := fil_snoc ha
  refine go 0 ?_
  refine x_ld rfl rfl rfl Try.underlying40 rfl rfl (cell_of (M.at_ 2 rfl) rfl) ?_
  refine go 0 ?_
  refine x_ia i rfl rfl rfl Try.underlying40 sz98 rfl rfl rfl (by omega) ?_
  refine go 0 ?_
  refine x_ld rfl rfl rfl Try.underlying3 rfl rfl (RowAt.cell hrow (j := 0) rfl) ?_
  refine spl 1 36 ?_ ?_
  ·intro hsp1
   refine go 0 ?_
   refine W.regD (by kernel_rfl) #[0, 1, 0, 4, 0, 28, 60, 124, 255, 511, 1023] [(0, false), (1, false), (2, false), (3, false), (4, false), (5, false), (6, false), (7, true), (8, true), (9, false), (10, true)] (by kernel_rfl) ?_
   intro K wD1 hK hwD1
   have M := M.drew hwD1
   refine go 0 ?_
   refine x_ld rfl rfl rfl Try.underlying40 rfl rfl (cell_of (M.at_ 0 rfl) rfl) ?_
   refine go 0 ?_
   refine x_ld rfl rfl rfl Try.underlying40 rfl rfl (cell_of (M.at_ 2 rfl) rfl) ?_
   refine go 0 ?_
   refine x_ia i rfl rfl rfl Try.underlying40 sz98 rfl rfl rfl (by omega) ?_
   refine x_ldA [_, _, _, _] rfl rfl rfl Try.underlying98 rfl sz98 rfl rfl (AskK.rowG h ha M (fun y hy => by simp [hy])) ?_
   refine x_bs1 (cs := (aR a)) rfl rfl rfl Try.underlying40 sz98 ze98 (Z := [_, _, _, _]) rfl rfl (by decide) (by decide) rfl rfl rfl ?_
   intro bbs1 wbs1 hbbs1 hwbs1
   have M0 := M.acons hbbs1 hwbs1
   have hslbs1 : Sl wbs1 (.slice (some ⟨bbs1, 0, none⟩) 1 1) 4 1 (aR a) := .inr ⟨bbs1, 0, 1, _, _, _, rfl, by omega, M0.at_ 0 rfl, rfl, rfl⟩
   have M := M0.tail
   refine ⟨⟨.inl (by kernel_rfl), .inl (by kernel_rfl), (by first | exact .inr (cell_of atM rfl) | exact .inr (cell_of (M.at_ 0 rfl) rfl)), trivial⟩, ?_⟩
   have M : Sep w00 (Lo ++ ((bal2, .cells [.slice po (takeR (k.take i) who key).length co].toArray 42 (0, 0)) :: (bal1, .cells [.slice none 0 0].toArray 42 (0, 0)) :: (bbx1, .cells [.slice (some ⟨b5, off5, none⟩) k.length ck].toArray 42 (0, 0)) :: (X ++ L))) _ := M.perm (perm_c fun p => by simp only [List.countP_append, List.countP_cons, List.countP_nil]; omega)
   refine x_apL rfl rfl rfl rfl Try.underlying40 sz98 ze98 rfl by98 rfl rfl how M (aCs_one _) (hslbs1.src Try.underlying40 (by intro u hu; simp only [aR, List.mem_cons, List.not_mem_nil, or_false] at hu; rcases hu with rfl | rfl | rfl | rfl <;> rfl)) (by omega) (by decide) (by omega) ?_
   intro Lo2 v7 w7 how2 M
   have M : Sep w00 ((bal2, .cells [.slice po (takeR (k.take i) who key).length co].toArray 42 (0, 0)) :: (bal1, .cells [.slice none 0 0].toArray 42 (0, 0)) :: (bbx1, .cells [.slice (some ⟨b5, off5, none⟩) k.length ck].toArray 42 (0, 0)) :: (Lo2 ++ (X ++ L))) w7 := M.perm (perm_c fun p => by simp only [List.countP_append, List.countP_cons, List.countP_nil]; omega)
   obtain ⟨p7, c7, rfl⟩ := how2.shape
   refine pnd ?_
   refine go 0 ?_
   refine x_st [_] _ rfl rfl rfl sz40 rfl rfl rfl rfl atM rfl rfl rfl ?_
   intro wst2 hwst2
   have M : Sep w00 ((bal2, .cells [.slice p7 ((takeR (k.take i) who key).length + 1) c7].toArray 42 (0, 0)) :: (bal1, .cells [.slice none 0 0].toArray 42 (0, 0)) :: (bbx1, .cells [.slice (some ⟨b5, off5, none⟩) k.length ck].toArray 42 (0, 0)) :: (Lo2 ++ (X ++ L))) wst2 := M.put 0 rfl hwst2
   refine pnd ?_
   refine go 0 ?_
   refine x_add _ rfl rfl rfl rfl rfl (wadd (by omega) (by omega)) ?_
   refine go 0 ?_
   exact At.back (i + 1) ⟨rfl, rfl, rfl, rfl, rfl, rfl, trivial⟩ ⟨by omega, _, Lo2, by rw [hfs, if_pos (by unfold isR; simp [hsp1]), List.length_append, aCs_app]; exact how2, M⟩ (by first | omega | (simp only; omega) | (simp; done) | (simp; omega))
  ·intro hsp1
   refine go 0 ?_
   refine x_ld rfl rfl rfl Try.underlying40 rfl rfl (cell_of (M.at_ 2 rfl) rfl) ?_
   refine go 0 ?_
   refine x_ia i rfl rfl rfl Try.underlying40 sz98 rfl rfl rfl (by omega) ?_
   refine go 0 ?_
   refine x_ld rfl rfl rfl Try.underlying9 rfl rfl (RowAt.cell hrow (j := 1) rfl) ?_
   refine spl 1 46 ?_ ?_
   ·intro hsp2
    refine go 0 ?_
    refine W.regD (by kernel_rfl) #[0, 1, 0, 4, 0, 28, 60, 124, 255, 511, 1023] [(0, false), (1, false), (2, false), (3, false), (4, false), (5, false), (6, false), (7, true), (8, true), (9, false), (10, true)] (by kernel_rfl) ?_
    intro K wD2 hK hwD2
    have M := M.drew hwD2
    refine go 0 ?_
    refine x_ld rfl rfl rfl Try.underlying40 rfl rfl (cell_of (M.at_ 0 rfl) rfl) ?_
    refine go 0 ?_
    refine x_ld rfl rfl rfl Try.underlying40 rfl rfl (cell_of (M.at_ 2 rfl) rfl) ?_
    refine go 0 ?_
    refine x_ia i rfl rfl rfl Try.underlying40 sz98 rfl rfl rfl (by omega) ?_
    refine x_ldA [_, _, _, _] rfl rfl rfl Try.underlying98 rfl sz98 rfl rfl (AskK.rowG h ha M (fun y hy => by simp [hy])) ?_
    refine x_bs1 (cs := (aR a)) rfl rfl rfl Try.underlying40 sz98 ze98 (Z := [_, _, _, _]) rfl rfl (by decide) (by decide) rfl rfl rfl ?_
    intro bbs2 wbs2 hbbs2 hwbs2
    have M0 := M.acons hbbs2 hwbs2
    have hslbs2 : Sl wbs2 (.slice (some ⟨bbs2, 0, none⟩) 1 1) 4 1 (aR a) := .inr ⟨bbs2, 0, 1, _, _, _, rfl, by omega, M0.at_ 0 rfl, rfl, rfl⟩
    have M := M0.tail
    refine ⟨⟨.inl (by kernel_rfl), .inl (by kernel_rfl), (by first | exact .inr (cell_of atM rfl) | exact .inr (cell_of (M.at_ 0 rfl) rfl)), trivial⟩, ?_⟩
    have M : Sep w00 (Lo ++ ((bal2, .cells [.slice po (takeR (k.take i) who key).length co].toArray 42 (0, 0)) :: (bal1, .cells [.slice none 0 0].toArray 42 (0, 0)) :: (bbx1, .cells [.slice (some ⟨b5, off5, none⟩) k.length ck].toArray 42 (0, 0)) :: (X ++ L))) _ := M.perm (perm_c fun p => by simp only [List.countP_append, List.countP_cons, List.countP_nil]; omega)
    refine x_apL rfl rfl rfl rfl Try.underlying40 sz98 ze98 rfl by98 rfl rfl how M (aCs_one _) (hslbs2.src Try.underlying40 (by intro u hu; simp only [aR, List.mem_cons, List.not_mem_nil, or_false] at hu; rcases hu with rfl | rfl | rfl | rfl <;> rfl)) (by omega) (by decide) (by omega) ?_
    intro Lo2 v7 w7 how2 M
    have M : Sep w00 ((bal2, .cells [.slice po (takeR (k.take i) who key).length co].toArray 42 (0, 0)) :: (bal1, .cells [.slice none 0 0].toArray 42 (0, 0)) :: (bbx1, .cells [.slice (some ⟨b5, off5, none⟩) k.length ck].toArray 42 (0, 0)) :: (Lo2 ++ (X ++ L))) w7 := M.perm (perm_c fun p => by simp only [List.countP_append, List.countP_cons, List.countP_nil]; omega)
    obtain ⟨p7, c7, rfl⟩ := how2.shape
    refine pnd ?_
    refine go 0 ?_
    refine x_st [_] _ rfl rfl rfl sz40 rfl rfl rfl rfl atM rfl rfl rfl ?_
    intro wst3 hwst3
    have M : Sep w00 ((bal2, .cells [.slice p7 ((takeR (k.take i) who key).length + 1) c7].toArray 42 (0, 0)) :: (bal1, .cells [.slice none 0 0].toArray 42 (0, 0)) :: (bbx1, .cells [.slice (some ⟨b5, off5, none⟩) k.length ck].toArray 42 (0, 0)) :: (Lo2 ++ (X ++ L))) wst3 := M.put 0 rfl hwst3
    refine pnd ?_
    refine go 0 ?_
    refine x_add _ rfl rfl rfl rfl rfl (wadd (by omega) (by omega)) ?_
    refine go 0 ?_
    exact At.back (i + 1) ⟨rfl, rfl, rfl, rfl, rfl, rfl, trivial⟩ ⟨by omega, _, Lo2, by rw [hfs, if_pos (by unfold isR; simp [hsp1, hsp2]), List.length_append, aCs_app]; exact how2, M⟩ (by first | omega | (simp only; omega) | (simp; done) | (simp; omega))
   ·intro hsp2
    refine go 0 ?_
    refine x_ld rfl rfl rfl Try.underlying40 rfl rfl (cell_of (M.at_ 2 rfl) rfl) ?_
    refine go 0 ?_
    refine x_ia i rfl rfl rfl Try.underlying40 sz98 rfl rfl rfl (by omega) ?_
    refine go 0 ?_
    refine x_ld rfl rfl rfl Try.underlying4 rfl rfl (RowAt.cell hrow (j := 3) rfl) ?_
    refine cnd 1 ?_ ?_
    ·intro hco5
     refine go 0 ?_
     refine W.regD (by kernel_rfl) #[0, 1, 0, 4, 0, 28, 60, 124, 255, 511, 1023] [(0, false), (1, false), (2, false), (3, false), (4, false), (5, false), (6, false), (7, true), (8, true), (9, false), (10, true)] (by kernel_rfl) ?_
     intro K wD3 hK hwD3
     have M := M.drew hwD3
     refine go 0 ?_
     refine x_ld rfl rfl rfl Try.underlying40 rfl rfl (cell_of (M.at_ 0 rfl) rfl) ?_
     refine go 0 ?_
     refine x_ld rfl rfl rfl Try.underlying40 rfl rfl (cell_of (M.at_ 2 rfl) rfl) ?_
     refine go 0 ?_
     refine x_ia i rfl rfl rfl Try.underlying40 sz98 rfl rfl rfl (by omega) ?_
     refine x_ldA [_, _, _, _] rfl rfl rfl Try.underlying98 rfl sz98 rfl rfl (AskK.rowG h ha M (fun y hy => by simp [hy])) ?_
     refine x_bs1 (cs := (aR a)) rfl rfl rfl Try.underlying40 sz98 ze98 (Z := [_, _, _, _]) rfl rfl (by decide) (by decide) rfl rfl rfl ?_
     intro bbs3 wbs3 hbbs3 hwbs3
     have M0 := M.acons hbbs3 hwbs3
     have hslbs3 : Sl wbs3 (.slice (some ⟨bbs3, 0, none⟩) 1 1) 4 1 (aR a) := .inr ⟨bbs3, 0, 1, _, _, _, rfl, by omega, M0.at_ 0 rfl, rfl, rfl⟩
     have M := M0.tail
     refine ⟨⟨.inl (by kernel_rfl), .inl (by kernel_rfl), (by first | exact .inr (cell_of atM rfl) | exact .inr (cell_of (M.at_ 0 rfl) rfl)), trivial⟩, ?_⟩
     have M : Sep w00 (Lo ++ ((bal2, .cells [.slice po (takeR (k.take i) who key).length co].toArray 42 (0, 0)) :: (bal1, .cells [.slice none 0 0].toArray 42 (0, 0)) :: (bbx1, .cells [.slice (some ⟨b5, off5, none⟩) k.length ck].toArray 42 (0, 0)) :: (X ++ L))) _ := M.perm (perm_c fun p => by simp only [List.countP_append, List.countP_cons, List.countP_nil]; omega)
     refine x_apL rfl rfl rfl rfl Try.underlying40 sz98 ze98 rfl by98 rfl rfl how M (aCs_one _) (hslbs3.src Try.underlying40 (by intro u hu; simp only [aR, List.mem_cons, List.not_mem_nil, or_false] at hu; rcases hu with rfl | rfl | rfl | rfl <;> rfl)) (by omega) (by decide) (by omega) ?_
     intro Lo2 v7 w7 how2 M
     have M : Sep w00 ((bal2, .cells [.slice po (takeR (k.take i) who key).length co].toArray 42 (0, 0)) :: (bal1, .cells [.slice none 0 0].toArray 42 (0, 0)) :: (bbx1, .cells [.slice (some ⟨b5, off5, none⟩) k.length ck].toArray 42 (0, 0)) :: (Lo2 ++ (X ++ L))) w7 := M.perm (perm_c fun p => by simp only [List.countP_append, List.countP_cons, List.countP_nil]; omega)
     obtain ⟨p7, c7, rfl⟩ := how2.shape
     refine pnd ?_
     refine go 0 ?_
     refine x_st [_] _ rfl rfl rfl sz40 rfl rfl rfl rfl atM rfl rfl rfl ?_
     intro wst4 hwst4
     have M : Sep w00 ((bal2, .cells [.slice p7 ((takeR (k.take i) who key).length + 1) c7].toArray 42 (0, 0)) :: (bal1, .cells [.slice none 0 0].toArray 42 (0, 0)) :: (bbx1, .cells [.slice (some ⟨b5, off5, none⟩) k.length ck].toArray 42 (0, 0)) :: (Lo2 ++ (X ++ L))) wst4 := M.put 0 rfl hwst4
     refine pnd ?_
     refine go 0 ?_
     refine x_add _ rfl rfl rfl rfl rfl (wadd (by omega) (by omega)) ?_
     refine go 0 ?_
     exact At.back (i + 1) ⟨rfl, rfl, rfl, rfl, rfl, rfl, trivial⟩ ⟨by omega, _, Lo2, by rw [hfs, if_pos (by unfold isR; simp [hco5]), List.length_append, aCs_app]; exact how2, M⟩ (by first | omega | (simp only; omega) | (simp; done) | (simp; omega))
    ·intro hco5
     rw [if_neg (by unfold isR; simp [hsp1, hsp2, hco5])] at hfs
     rw [List.append_nil] at hfs
     refine go 0 ?_
     refine x_add _ rfl rfl rfl rfl rfl (wadd (by omega) (by omega)) ?_
     refine go 0 ?_
     exact At.back (i + 1) ⟨rfl, rfl, rfl, rfl, rfl, rfl, trivial⟩ ⟨by omega, _, Lo, by rw [hfs]; exact how, M⟩ (by first | omega | (simp only; omega) | (simp; done) | (simp; omega))
 ·intro hco2
  obtain rfl : i = k.length := by omega
  rw [List.take_length] at how htl M
  refine go 0 ?_
  refine x_ld rfl rfl rfl Try.underlying40 rfl rfl (cell_of (M.at_ 0 rfl) rfl) ?_
  refine go 1 ?_
  refine x_ld rfl rfl rfl Try.underlying40 rfl rfl (cell_of (M.at_ 2 rfl) rfl) ?_
  refine cnd 2 ?_ ?_
  ·intro hco6
   have hA : freeR k who key = (k, [], 9) := by unfold freeR; rw [if_neg (by omega), if_pos (by omega)]
   refine go 0 ?_
   refine x_ldA [_] rfl rfl rfl Try.underlying42 rfl sz42 rfl rfl ⟨_, _, _, M.at_ 2 rfl, rfl⟩ ?_
   refine go 1 ?_
   intro _ M
   refine go 1 ?_
   exact ⟨_, ck, [], _, _, by rw [hA], by rw [hA, List.append_nil]; exact h, by rw [List.append_nil]; exact M.tail.tail.tail.dropL⟩
  ·intro hco6
   have hA : freeR k who key = ((grantR key k.length (takeR k who key) []).1, (grantR key k.length (takeR k who key) []).2, 0) := by unfold freeR; rw [if_neg (by omega), if_neg (by omega)]
   have hwl := waitsR_le (takeR k who key)
   have htl2 : (takeR k who key).length ≤ k.length := List.length_filter_le _ _
   refine go 0 ?_
   refine W.loop (σ := Nat × List AskR × List Int × Value) (fun s => [(2, _), (6, _), (9, _), (11, s.2.2.2)]) (fun s w => grantR key k.length (takeR k who key) [] = grantR key s.1 s.2.1 s.2.2.1 ∧ waitsR s.2.1 ≤ s.1 ∧ s.2.1.length ≤ 500 ∧ s.2.2.1.length + s.1 ≤ 500 ∧ ∃ ov Lo Ln, OwL Lo ov 4 s.2.1.length (aCs s.2.1) ∧ OwL Ln s.2.2.2 1 s.2.2.1.length (zInts s.2.2.1) ∧ Sep w00 ((bal2, .cells [ov].toArray 42 (0, 0)) :: (bal1, .cells [.slice none 0 0].toArray 42 (0, 0)) :: (bbx1, .cells [.slice pk k.length ck].toArray 42 (0, 0)) :: (Lo ++ (Ln ++ (X ++ L)))) w) (fun s => s.1) (k.length, (takeR k who key), [], .slice none 0 0) ⟨rfl, rfl, rfl, rfl, trivial⟩ ⟨rfl, by simp only; omega, by simp only; omega, by simp only [List.length_nil]; omega, _, Lo, [], how, OwL.nil, M⟩ ?_
   rintro ⟨f, kk, now, nv⟩ w ⟨hG, hwf, hkl, hnl, ov, Lo, Ln, how, hon, M⟩
   simp only at hG hwf hkl hnl how hon M ⊢
   obtain ⟨po, co, rfl⟩ := how.shape
   obtain ⟨pn, cn, rfl⟩ := hon.shape
   have hat : AskAt w (.slice po kk.length co) kk := .inr ((how.sl (by decide)).at_ M (fun y hy => by simp [hy]))
   refine go 0 ?_
   refine x_ldA [_] rfl rfl rfl Try.underlying42 rfl sz42 rfl rfl ⟨_, _, _, M.at_ 0 rfl, rfl⟩ ?_
   refine go 0 ?_
   refine x_call rfl rfl rfl rfl rfl en51 (first18_c hat (by omega)) ?_
   rintro r_ wcall1 ⟨rfl, hn1⟩
   have M := M.new hn1
   have hat := Sg.new hat hn1
   refine ⟨trivial, ?_⟩
   refine go 0 ?_
   refine W.regD (by kernel_rfl) #[0, 1, 3, 7, 7, 7, 39, 7, 231, 487, 999, 2047, 4095, 8191] [(0, false), (1, false), (2, false), (3, false), (4, false), (5, false), (6, false), (7, false), (8, false), (9, false), (10, false), (11, true), (12, false), (13, false)] (by kernel_rfl) ?_
   intro K wD4 hK hwD4
   have M := M.drew hwD4
   refine spl 1 78 ?_ ?_
   ·intro hsp3
    have hE := grantR_none (now := now) (firstI_neg hsp3) f
    refine go 0 ?_
    refine x_ldA [_] rfl rfl rfl Try.underlying42 rfl sz42 rfl rfl ⟨_, _, _, M.at_ 0 rfl, rfl⟩ ?_
    refine go 1 ?_
    intro _ M
    refine go 1 ?_
    exact ⟨_, co, Lo, _, _, by rw [hA, hG, hE], by rw [hA, hG, hE]; exact SgK.own how (by decide) (fun y hy => List.mem_append_right _ hy), (M.tail.tail.tail.perm (perm_c fun p => by simp only [List.countP_append]; omega) : Sep w00 (Ln ++ (X ++ (L ++ Lo))) _).dropL⟩
   ·intro hsp3
    obtain ⟨j, hfj, hfi⟩ := firstI_pos hsp3
    rw [hfi]
    obtain ⟨a, ha, hah, hw1, hw2⟩ := first_wait hfj
    have hjk := (List.getElem?_eq_some_iff.1 ha).1
    obtain ⟨bo, co', ro, To, e1, e2, hl2, hl3⟩ := how.resolve_left (fun h => by have := h.2.1; omega)
    cases e1
    subst e2
    refine x_ldA [_] rfl rfl rfl Try.underlying42 rfl sz42 rfl rfl ⟨_, _, _, M.at_ 0 rfl, rfl⟩ ?_
    refine go 0 ?_
    refine x_ld rfl rfl rfl Try.underlying40 rfl rfl (cell_of (M.at_ 0 rfl) rfl) ?_
    refine go 0 ?_
    refine x_ia j rfl rfl rfl Try.underlying40 sz98 rfl rfl rfl (by omega) ?_
    refine go 0 ?_
    refine x_ld rfl rfl rfl Try.underlying4 rfl rfl (RowAt.cell (aRow ((Sg.sl (.inr (((OwL.sl (.inr ⟨bo, co, ro, To, rfl, rfl, hl2, hl3⟩) (by decide)).at_ M (fun y hy => by simp at hy; simp [hy])))) (by omega))) ha) (j := 2) rfl) ?_
    refine x_call rfl rfl rfl rfl rfl en49 (may18_c (.inr ((OwL.sl (.inr ⟨bo, co, ro, To, rfl, rfl, hl2, hl3⟩) (by decide)).at_ M (fun y hy => by simp at hy; simp [hy]))) (by omega)) ?_
    rintro r_ wcall2 ⟨rfl, hn2⟩
    have M := M.new hn2
    refine pnd ?_
    refine cnd 1 ?_ ?_
    ·intro hco8
     have hE := grantR_stop (now := now) hfj ha (by simpa using hco8) f
     refine go 0 ?_
     refine x_ldA [_] rfl rfl rfl Try.underlying42 rfl sz42 rfl rfl ⟨_, _, _, M.at_ 0 rfl, rfl⟩ ?_
     refine go 1 ?_
     intro _ M
     refine go 1 ?_
     exact ⟨_, co, [(bo, .cells (aCs kk ++ ro).toArray To (0, 0))], _, _, by rw [hA, hG, hE], by rw [hA, hG, hE]; exact SgK.own (.inr ⟨bo, co, ro, To, rfl, rfl, hl2, hl3⟩) (by decide) (fun y hy => List.mem_append_right _ hy), (M.tail.tail.tail.perm (perm_c fun p => by simp only [List.countP_append]; omega) : Sep w00 (Ln ++ (X ++ (L ++ [(bo, .cells (aCs kk ++ ro).toArray To (0, 0))]))) _).dropL⟩
    ·intro hco8
     obtain ⟨f, rfl⟩ : ∃ f2, f = f2 + 1 := ⟨f - 1, by omega⟩
     have hE := grantR_go (now := now) (f := f) hfj ha (by simpa using hco8)
     rw [hE] at hG
     have hal : (aCs kk ++ ro).length ≥ kk.length * 4 := by rw [List.length_append, aCs_len]; omega
     refine go 0 ?_
     refine x_ld rfl rfl rfl Try.underlying40 rfl rfl (cell_of (M.at_ 0 rfl) rfl) ?_
     refine go 0 ?_
     refine x_ia j rfl rfl rfl Try.underlying40 sz98 rfl rfl rfl (by omega) ?_
     refine go 0 ?_
     refine x_st [_] (aCs (kk.set j (a.1, a.2.1, a.2.2.1, true)) ++ ro) rfl rfl rfl sz4 rfl rfl rfl rfl (M.at_ 3 rfl) rfl (Nat.ble_eq_true_of_le (by simp only [List.length_cons, List.length_nil]; omega)) (aCs_put ha (by omega) rfl) ?_
     intro wst8 hwst8
     have M : Sep w00 ((bal2, .cells [.slice (some ⟨bo, 0, none⟩) kk.length co].toArray 42 (0, 0)) :: (bal1, .cells [.slice none 0 0].toArray 42 (0, 0)) :: (bbx1, .cells [.slice pk k.length ck].toArray 42 (0, 0)) :: ([(bo, .cells (aCs (kk.set j (a.1, a.2.1, a.2.2.1, true)) ++ ro).toArray To (0, 0))] ++ (Ln ++ (X ++ L)))) wst8 := M.put 3 rfl hwst8
     have how2 : OwL [(bo, .cells (aCs (kk.set j (a.1, a.2.1, a.2.2.1, true)) ++ ro).toArray To (0, 0))] (.slice (some ⟨bo, 0, none⟩) kk.length co) 4 (kk.set j (a.1, a.2.1, a.2.2.1, true)).length (aCs (kk.set j (a.1, a.2.1, a.2.2.1, true))) := .inr ⟨bo, co, ro, To, by rw [List.length_set], rfl, aCs_len _, by rw [← hl3, List.length_append, List.length_append, aCs_len, aCs_len, List.length_set]⟩
     have hsl2 : Sl wst8 (.slice (some ⟨bo, 0, none⟩) (kk.set j (a.1, a.2.1, a.2.2.1, true)).length co) 4 (kk.set j (a.1, a.2.1, a.2.2.1, true)).length (aCs (kk.set j (a.1, a.2.1, a.2.2.1, true))) := by have := (how2.sl (by decide)).at_ M (fun y hy => by simp at hy; simp [hy]); simpa only [List.length_set] using this
     have hrow2 := aRow hsl2 (show (kk.set j (a.1, a.2.1, a.2.2.1, true))[j]? = some (a.1, a.2.1, a.2.2.1, true) by rw [List.getElem?_set, if_pos rfl, if_pos hjk])
     refine ⟨trivial, ?_⟩
     refine go 0 ?_
     refine x_ld rfl rfl rfl Try.underlying40 rfl rfl (cell_of (M.at_ 0 rfl) rfl) ?_
     refine go 0 ?_
     refine x_ia j rfl rfl rfl Try.underlying40 sz98 rfl rfl rfl (by omega) ?_
     refine go 0 ?_
     refine x_ld rfl rfl rfl Try.underlying3 rfl rfl (RowAt.cell hrow2 (j := 0) rfl) ?_
     refine x_bs1 (cs := [.int .i64 a.1]) rfl rfl rfl Try.underlying23 sz3 ze3 (Z := [_]) rfl rfl (by decide) (by decide) rfl rfl rfl ?_
     intro bbs4 wbs4 hbbs4 hwbs4
     have M0 := M.acons hbbs4 hwbs4
     have hslbs4 : Sl wbs4 (.slice (some ⟨bbs4, 0, none⟩) 1 1) 1 1 [.int .i64 a.1] := .inr ⟨bbs4, 0, 1, _, _, _, rfl, by omega, M0.at_ 0 rfl, rfl, rfl⟩
     have M := M0.tail
     refine ⟨trivial, ?_⟩
     have M : Sep w00 (Ln ++ ((bal2, .cells [.slice (some ⟨bo, 0, none⟩) kk.length co].toArray 42 (0, 0)) :: (bal1, .cells [.slice none 0 0].toArray 42 (0, 0)) :: (bbx1, .cells [.slice pk k.length ck].toArray 42 (0, 0)) :: ([(bo, .cells (aCs (kk.set j (a.1, a.2.1, a.2.2.1, true)) ++ ro).toArray To (0, 0))] ++ (X ++ L)))) _ := M.perm (perm_c fun p => by simp only [List.countP_append, List.countP_cons, List.countP_nil]; omega)
     refine x_apL rfl rfl rfl rfl Try.underlying23 sz3 ze3 rfl by3 rfl rfl hon M (zInts_one _) (hslbs4.src Try.underlying23 (by intro u hu; obtain rfl := List.mem_singleton.1 hu; rfl)) (by omega) (by decide) (by omega) ?_
     intro Ln2 v7 w7 how3 M
     have M : Sep w00 ((bal2, .cells [.slice (some ⟨bo, 0, none⟩) kk.length co].toArray 42 (0, 0)) :: (bal1, .cells [.slice none 0 0].toArray 42 (0, 0)) :: (bbx1, .cells [.slice pk k.length ck].toArray 42 (0, 0)) :: ([(bo, .cells (aCs (kk.set j (a.1, a.2.1, a.2.2.1, true)) ++ ro).toArray To (0, 0))] ++ (Ln2 ++ (X ++ L)))) w7 := M.perm (perm_c fun p => by simp only [List.countP_append, List.countP_cons, List.countP_nil]; omega)
     refine ⟨trivial, ?_⟩
     refine go 0 ?_
     exact At.back ((f, kk.set j (a.1, a.2.1, a.2.2.1, true), now ++ [a.1], v7)) ⟨rfl, rfl, rfl, rfl, trivial⟩ ⟨hG, by simp only; omega, by simp only [List.length_set]; exact hkl, by simp only [List.length_append, List.length_singleton]; omega, _, _, Ln2, how2, by simp only [List.length_append, zInts, List.map_append] at how3 ⊢; exact how3, M⟩ (by first | omega | (simp only; omega) | (simp; done) | (simp; omega))

end Go.Proofs.Ytebfjdolgchgaaa

namespace Go.Proofs.Ytebfjdolgchgaaa
open Go Go.Fw Go.RowKit
set_option linter.unusedVariables false
set_option linter.unusedSimpArgs false
abbrev RcV := RC × Value
def cR (x : RcV) : List Value := [x.2, .int .i64 (x.1.st : Int), .int .i64 (x.1.n : Int), .int .i64 (x.1.bg : Int), strV x.1.key]
def cRs (R : List RcV) : List Value := R.flatMap cR
theorem cRs_len (R : List RcV) : (cRs R).length = R.length * 5 := flat_len (e1 := cR) (fun _ _ => rfl)
theorem cRs_app (a b : List RcV) : cRs (a ++ b) = cRs a ++ cRs b := List.flatMap_append
theorem cRs_one {R : List RcV} (h : ∀ x ∈ R, x.2.oneCell' = true) : ∀ u ∈ cRs R, u.oneCell' = true := by
 intro u hu
 obtain ⟨x, hx, hu⟩ := List.mem_flatMap.1 hu
 have := h x hx
 simp only [cR, List.mem_cons, List.not_mem_nil, or_false] at hu
 rcases hu with rfl | rfl | rfl | rfl | rfl <;> first | rfl | exact this
theorem cRow {w : World} {b off cap n j : Nat} {R : List RcV} {x : RcV} (h : Sl w (.slice (some ⟨b, off, none⟩) n cap) 5 n (cRs R)) (hj : R[j]? = some x) : RowAt w b (off + j * 5) (cR x) :=
 h.row (j := j) (l := cR x) rfl (flat_drop (m := 5) (e1 := cR) (by decide) (fun _ _ => rfl) hj) (by simp [cR])
theorem cRs_put {R : List RcV} {k : Nat} {x' : RcV} {rest : List Value} (hk : k < R.length) : (cRs R ++ rest).take (0 + k * 5) ++ cR x' ++ (cRs R ++ rest).drop (0 + k * 5 + (cR x').length) = cRs (R.set k x') ++ rest := by
 have e : R = R.take k ++ R[k] :: R.drop (k + 1) := by rw [← List.drop_eq_getElem_cons hk, List.take_append_drop]
 have e2 : R.set k x' = R.take k ++ x' :: R.drop (k + 1) := List.set_eq_take_append_cons_drop ▸ (by rw [if_pos hk])
 have hl : (cRs (R.take k)).length = k * 5 := by rw [cRs_len, List.length_take]; omega
 have e3 : cRs R = cRs (R.take k) ++ (cR R[k] ++ cRs (R.drop (k + 1))) := by
  conv => lhs; rw [e]
  rw [cRs_app]; rfl
 have e4 : cRs (R.set k x') = cRs (R.take k) ++ (cR x' ++ cRs (R.drop (k + 1))) := by rw [e2, cRs_app]; rfl
 have h5 : (cR R[k]).length = 5 := rfl
 have h6 : (cR x').length = 5 := rfl
 rw [e3, e4, Nat.zero_add]
 simp only [List.append_assoc]
 rw [← hl, List.take_left, List.drop_length_add_append, h6, ← h5, List.drop_left]
def RcOK (w00 : World) (L : List (Nat × Obj)) (R : List RcV) : Prop := ∀ x ∈ R, OpsK w00 L x.2 x.1.l ∧ ∃ p c, x.2 = .slice p x.1.l.length c
def RCK (w00 : World) (L : List (Nat × Obj)) (v : Value) (cs : List RC) : Prop := ∃ R : List RcV, R.map (·.1) = cs ∧ SgK w00 L v 5 cs.length (cRs R) ∧ RcOK w00 L R
theorem RcOK.one {w00 : World} {L : List (Nat × Obj)} {R : List RcV} (h : RcOK w00 L R) : ∀ x ∈ R, x.2.oneCell' = true := fun x hx => by
 obtain ⟨p, c, e⟩ := (h x hx).2; rw [e]; rfl
theorem RcOK.mono {w00 : World} {L L' : List (Nat × Obj)} {R : List RcV} (h : RcOK w00 L R) (hs : ∀ y ∈ L, y ∈ L') : RcOK w00 L' R := fun x hx => ⟨(h x hx).1.mono hs, (h x hx).2⟩
theorem RCK.mono {w00 : World} {L L' : List (Nat × Obj)} {v : Value} {cs : List RC} (h : RCK w00 L v cs) (hs : ∀ y ∈ L, y ∈ L') : RCK w00 L' v cs := let ⟨R, h1, h2, h3⟩ := h; ⟨R, h1, h2.mono hs, h3.mono hs⟩
theorem DidK.mono {w00 : World} {L L' : List (Nat × Obj)} {v : Value} {o : List Dd} (h : DidK w00 L v o) (hs : ∀ y ∈ L, y ∈ L') : DidK w00 L' v o := let ⟨R, h1, h2, h3⟩ := h; ⟨R, h1, h2.mono hs, fun x hx => (h3 x hx).mono hs⟩
structure SyK (w00 : World) (L : List (Nat × Obj)) (u hv kv cv dv : Value) (R : RSy) : Prop where
 f : FilesK w00 L u R.f
 hs : ∃ hl, hfL hl = R.h ∧ OpnK w00 L hv hl ∧ RI R.f hl
 k : AskK w00 L kv R.k
 c : RCK w00 L cv R.c
 o : DidK w00 L dv R.o
theorem SyK.mono {w00 : World} {L L' : List (Nat × Obj)} {u hv kv cv dv : Value} {R : RSy} (h : SyK w00 L u hv kv cv dv R) (hs : ∀ y ∈ L, y ∈ L') : SyK w00 L' u hv kv cv dv R :=
 ⟨h.f.mono hs, let ⟨hl, h1, h2, h3⟩ := h.hs; ⟨hl, h1, h2.mono hs, h3⟩, SgK.mono h.k hs, h.c.mono hs, h.o.mono hs⟩
theorem SyK.shapes {w00 w : World} {L M : List (Nat × Obj)} {u hv kv cv dv : Value} {R : RSy} (h : SyK w00 L u hv kv cv dv R) (hM : Sep w00 M w) (hs : ∀ y ∈ L, y ∈ M) :
  (∃ p c, u = .slice p R.f.length c) ∧ (∃ p n c, hv = .slice p n c) ∧ (∃ p c, kv = .slice p R.k.length c) ∧ (∃ p c, cv = .slice p R.c.length c) ∧ ∃ p c, dv = .slice p R.o.length c := by
 obtain ⟨hl, _, h2, _⟩ := h.hs
 obtain ⟨R1, _, h3, _⟩ := h.c
 refine ⟨(h.f.at_ hM hs).shape, ?_, Sg.shape (h.k _ _ hM hs), (h3 _ _ hM hs).shape, h.o.shape hM hs⟩
 obtain ⟨p, c, e⟩ := Sg.shape (h2 _ _ hM hs)
 exact ⟨p, _, c, e⟩
def leftC (cs : List RC) (who : Int) : Int := match (if 0 ≤ who then cs[who.toNat]? else none) with | none => 0 | some c => c.l.length
theorem leftC_R (R : RSy) (who : Int) : leftC R.c who = leftR R who := rfl
theorem leftC_out {cs : List RC} {who : Int} (h : who < 0 ∨ (cs.length : Int) ≤ who) : leftC cs who = 0 := by
 unfold leftC
 rcases h with h | h
 ·rw [if_neg (by omega)]
 ·rw [if_pos (by omega), List.getElem?_eq_none (by omega)]
theorem leftC_at {cs : List RC} {j : Nat} {c : RC} (h : cs[j]? = some c) : leftC cs (j : Int) = c.l.length := by
 unfold leftC
 rw [if_pos (by omega), Int.toNat_natCast, h]
def newRC (l : List OpS) : RC := ⟨l, 0, 0, 0, []⟩
theorem askR_len {k : List AskR} {who : Int} {key : List UInt8} {w : Bool} : (askR k who key w).1.length ≤ k.length + 1 := by
 unfold askR
 split
 ·exact Nat.le_succ _
 ·split
  ·exact Nat.le_succ _
  ·simp
theorem grantR_len (key : List UInt8) : ∀ (f : Nat) (k : List AskR) (now : List Int), (grantR key f k now).1.length = k.length
 | 0, k, now => rfl
 | f + 1, k, now => by
  unfold grantR
  split
  ·rfl
  ·split
   ·rfl
   ·split
    ·rw [grantR_len key f]; simp
    ·rfl
theorem freeR_len {k : List AskR} {who : Int} {key : List UInt8} : (freeR k who key).1.length ≤ k.length := by
 unfold freeR
 split
 ·exact Nat.le_refl _
 ·split
  ·exact Nat.le_refl _
  ·simp only [grantR_len]; exact List.length_filter_le _ _
theorem stepR_k {R : RSy} {who : Int} (h : R.k.length ≤ R.s) : (stepR R who).1.k.length ≤ (stepR R who).1.s := by
 unfold stepR
 split
 ·exact h
 ·rename_i c _
  split
  ·exact h
  ·rename_i o r _
   split
   ·exact h
   ·unfold stepR'
    split
    ·have := askR_len (k := R.k) (who := (who.toNat : Int)) (key := []) (w := chgO o); simp only; omega
    ·split
     ·split
      ·have := askR_len (k := R.k) (who := (who.toNat : Int)) (key := 47 :: fileP R.h who.toNat o.h) (w := !decide (o.k = 2)); simp only; omega
      ·simp only; omega
     ·split
      ·simp only; omega
      ·simp only
       have h1 := freeR_len (k := if c.key = [] then R.k else (freeR R.k who.toNat c.key).1) (who := (who.toNat : Int)) (key := [])
       have h2 : (if c.key = [] then R.k else (freeR R.k who.toNat c.key).1).length ≤ R.k.length := by split; exact Nat.le_refl _; exact freeR_len
       omega
structure SyF (w00 : World) (L : List (Nat × Obj)) (u hv kv dv : Value) (f0 : List Raw) (h0 : HF) (k0 : List AskR) (o0 : List Dd) : Prop where
 f : FilesK w00 L u f0
 hs : ∃ hl, hfL hl = h0 ∧ OpnK w00 L hv hl ∧ RI f0 hl
 k : AskK w00 L kv k0
 o : DidK w00 L dv o0
theorem SyK.toF {w00 : World} {L L' : List (Nat × Obj)} {u hv kv cv dv : Value} {R : RSy} (h : SyK w00 L u hv kv cv dv R) (hs : ∀ y ∈ L, y ∈ L') : SyF w00 L' u hv kv dv R.f R.h R.k R.o := ⟨(h.mono hs).f, (h.mono hs).hs, (h.mono hs).k, (h.mono hs).o⟩
theorem SyF.setK {w00 : World} {L L' : List (Nat × Obj)} {u hv kv kv' dv : Value} {f : List Raw} {h : HF} {k k' : List AskR} {o : List Dd} (hF : SyF w00 L u hv kv dv f h k o) (hs : ∀ y ∈ L, y ∈ L') (hk : AskK w00 L' kv' k') : SyF w00 L' u hv kv' dv f h k' o :=
 ⟨hF.f.mono hs, let ⟨hl, h1, h2, h3⟩ := hF.hs; ⟨hl, h1, h2.mono hs, h3⟩, hk, hF.o.mono hs⟩
theorem stepR_left0 {R : RSy} {who : Int} (h : leftR R who = 0) : stepR R who = (R, false) := by
 unfold stepR
 unfold leftR at h
 cases e : rcl R who with
 | none => rfl
 | some c =>
  rw [e] at h
  simp only at h ⊢
  cases hl : c.l with
  | nil => rfl
  | cons o r => rw [hl] at h; simp at h; omega
theorem stepR_left {R : RSy} {who : Int} (h : leftR R who ≠ 0) : ∃ (j : Nat) (c : RC) (o : OpS) (r : List OpS), who = (j : Int) ∧ R.c[j]? = some c ∧ c.l = o :: r := by
 unfold leftR at h
 cases e : rcl R who with
 | none => rw [e] at h; exact absurd rfl h
 | some c =>
  rw [e] at h
  simp only at h
  unfold rcl at e
  split at e
  ·rename_i h0
   cases hl : c.l with
   | nil => rw [hl] at h; exact absurd rfl h
   | cons o r => exact ⟨who.toNat, c, o, r, by omega, e, hl⟩
  ·cases e
theorem stepR_blk {R : RSy} {j : Nat} {c : RC} {o : OpS} {r : List OpS} (hc : R.c[j]? = some c) (hl : c.l = o :: r) (h : blockR R j = true) : stepR R j = (R, false) := by
 unfold stepR rcl
 rw [if_pos (by omega), Int.toNat_natCast, hc]
 simp only [hl]
 rw [if_pos h]
theorem stepR_go {R : RSy} {j : Nat} {c : RC} {o : OpS} {r : List OpS} (hc : R.c[j]? = some c) (hl : c.l = o :: r) (h : blockR R j = false) : stepR R j = (stepR' R j c o, true) := by
 unfold stepR rcl
 rw [if_pos (by omega), Int.toNat_natCast, hc]
 simp only [hl]
 rw [if_neg (by rw [h]; simp)]
theorem endO_snoc {o : List Dd} {i n s : Nat} {who : Int} {d : Dd} (hd : o[i]? = some d) : endO (o.take (i + 1)) who n s = endO (o.take i) who n s ++ [if d.who = who ∧ d.n = n then { d with en := (s : Int) } else d] := by
 unfold endO; rw [take_snoc hd, List.map_append]; rfl
theorem OwL.rows {Lo : List (Nat × Obj)} {p : Option Addr} {n cap : Nat} {R0 : List DdV} (how : OwL Lo (.slice p n cap) 9 n (ddCs R0)) (hl : R0.length = n) :
  ∃ bo ro To, (n ≠ 0 → p = some ⟨bo, 0, none⟩ ∧ Lo = [(bo, .cells (ddCs R0 ++ ro).toArray To (0, 0))]) ∧ ∀ R : List DdV, R.length = n → ∃ L1, OwL L1 (.slice p n cap) 9 n (ddCs R) ∧ (n = 0 → L1 = Lo) ∧ (n ≠ 0 → L1 = [(bo, .cells (ddCs R ++ ro).toArray To (0, 0))]) := by
 rcases how with ⟨e1, e2, e3, e4⟩ | ⟨b, cap', rest, T, e1, e2, e3, e4⟩
 ·refine ⟨0, [], 0, fun h => absurd e2 h, fun R hRl => ⟨[], .inl ⟨e1, e2, List.length_eq_zero_iff.1 (by rw [ddCs_len]; omega), rfl⟩, fun _ => e4.symm, fun h => absurd e2 h⟩⟩
 ·cases e1
  refine ⟨b, rest, T, fun _ => ⟨rfl, e2⟩, fun R hRl => ?_⟩
  by_cases e : n = 0
  ·have e5 : ddCs R = ddCs R0 := by rw [List.length_eq_zero_iff.1 (by omega : R0.length = 0), List.length_eq_zero_iff.1 (by omega : R.length = 0)]
   rw [e5]
   exact ⟨Lo, .inr ⟨b, cap, rest, T, rfl, e2, e3, e4⟩, fun _ => rfl, fun _ => e2⟩
  ·exact ⟨_, .inr ⟨b, cap, rest, T, rfl, rfl, by rw [ddCs_len, hRl], by rw [← e4, List.length_append, List.length_append, ddCs_len, ddCs_len, hRl, hl]⟩, fun h => absurd h e, fun _ => rfl⟩
end Go.Proofs.Ytebfjdolgchgaaa
