/-
  Texts that belong together, laid into one file: E13, K9, E14, KA, E15, U35, L11, KB, L12, G1, G2, KC, L13, G9, G10, G12, FwT, R20.
-/
import Derived.IntWalk
import Derived.Test.YtebfjdolgchgaaaQ5
namespace Go.Proofs.Ytebfjdolgchgaaa
open Go Go.Fw Go.RowKit Go.Proofs
set_option linter.unusedVariables false
set_option linter.unusedSimpArgs false
set_option maxRecDepth 100000
set_option maxHeartbeats 4000000

-- (*valise/vfs.Sys).Step
theorem nextF_en {c : Cl} : entered Try.prog (nextF c.st) = true := by
 unfold nextF
 split
 ·exact en28
 ·split
  ·exact en45
  ·split
   ·exact en68
   ·exact en86
theorem vnext_c {w00 w0 : World} {X : List (Nat × Obj)} {I : VfI} {S : VS} {i b : Nat} {c : Cl} {o : OpS} {r : List OpS} (M : VfW w00 X I S w0) (hc : S.c[i]? = some c) (hl : c.l = o :: r) (hcb : I.cb[i]? = some b) (hod : o.d.length ≤ 131072) (hn : c.n ≤ 100000) (ho : S.o.length ≤ 100000) : Ret Try.prog (nextF c.st) #[ptr I.bs, ptr b] w0 fun rr w' => rr = .tuple #[] ∧ VfW w00 X I { stepS S i c o with s := S.s } w' := by
 have h3 := M.vi.st c (List.mem_of_getElem? hc)
 unfold nextF stepS
 by_cases h0 : c.st = 0
 ·rw [if_pos h0, if_pos h0]; exact vbegin_c M hc hl hcb h0
 ·rw [if_neg h0, if_neg h0]
  by_cases h1 : c.st = 1
  ·rw [if_pos h1, if_pos h1]; exact vask_c M hc hl hcb h1
  ·rw [if_neg h1, if_neg h1]
   by_cases h2 : c.st = 2
   ·rw [if_pos h2, if_pos h2]; exact vcommit_c M hc hl hcb h2 hod ho
   ·rw [if_neg h2, if_neg h2]; exact vend_c M hc hl hcb (by omega) hn ho
theorem vstep_c {w00 w0 : World} {X : List (Nat × Obj)} {I : VfI} {S : VS} {who : Int} (M : VfW w00 X I S w0) (hod : ∀ c ∈ S.c, ∀ o ∈ c.l, o.d.length ≤ 131072) (hn : ∀ c ∈ S.c, c.n ≤ 100000) (ho : S.o.length ≤ 100000) (hs : S.s ≤ 100000) : Ret Try.prog 16 #[ptr I.bs, .int .i64 who] w0 fun r w' => r = .bool (stepV S who).2 ∧ VfW w00 X I (stepV S who).1 w' := by
 have V := M.cliS who
 refine Ret.of_W Try.func16 rfl Try.ntmps16 rfl ?_
 refine go 0 ?_
 refine x_call rfl rfl rfl rfl rfl en34 (vclient_c M) ?_
 rintro r_ wcall1 ⟨rfl, hn1⟩
 have M := M.new hn1
 refine ⟨trivial, ?_⟩
 refine spl 1 11 ?_ ?_
 ·intro hsp1
  have hE : stepV S who = (S, false) := by
   rcases V with ⟨_, h⟩ | ⟨i, b, c, rfl, hp, _⟩
   ·exact stepV_none h
   ·rw [hp] at hsp1; simp at hsp1
  refine go 1 ?_
  exact ⟨by rw [hE], by rw [hE]; exact M⟩
 ·intro hsp1
  rcases V with ⟨hp, _⟩ | ⟨i, b, c, rfl, hp, hcs, hcb, hc⟩
  ·rw [hp] at hsp1; simp at hsp1
  rw [hp]
  clear hsp1
  obtain ⟨lv, pl, cl, rfl, hcell⟩ := M.cl hc hcb
  refine go 0 ?_
  refine x_ld rfl rfl rfl Try.underlying62 rfl rfl (cell_of hcell rfl) ?_
  refine spl 2 19 ?_ ?_
  ·intro hsp2
   have hE : stepV S i = (S, false) := stepV_nil hcs (List.length_eq_zero_iff.1 (by omega))
   refine go 1 ?_
   exact ⟨by rw [hE], by rw [hE]; exact M⟩
  ·intro hsp2
   refine go 0 ?_
   refine x_ld rfl rfl rfl Try.underlying4 rfl rfl (cell_of hcell rfl) ?_
   refine cnd 0 ?_ ?_
   ·intro hco3
    have hE : stepV S i = (S, false) := stepV_w hcs hco3
    refine go 1 ?_
    exact ⟨by rw [hE], by rw [hE]; exact M⟩
   ·intro hco3
    obtain ⟨o, r, hl⟩ : ∃ o r, c.l = o :: r := by
     cases e : c.l with
     | nil => rw [e] at hsp2; simp at hsp2
     | cons o r => exact ⟨o, r, rfl⟩
    have hE : stepV S i = (stepS S i c o, true) := stepV_step hcs hl hco3
    have hcm := List.mem_of_getElem? hc
    refine go 0 ?_
    refine x_ld rfl rfl rfl Try.underlying81 rfl rfl (cell_of hcell rfl) ?_
    refine go 0 ?_
    refine x_call rfl rfl rfl rfl rfl nextF_en (vnext_c M hc hl hcb (hod c hcm o (by rw [hl]; exact List.mem_cons_self)) (hn c hcm) ho) ?_
    rintro r_ wcall2 ⟨rfl, M⟩
    obtain ⟨m, L, hR, M, hS⟩ := M.outS
    have M : Sep w00 ((I.bs, .cells [.iface 30 (ptr m.bp), ptr m.lk.bl, m.cv, m.ov, .int .i64 (S.s : Int)].toArray 77 (0, 0)) :: _) wcall2 := M
    refine ⟨trivial, ?_⟩
    refine go 1 ?_
    refine x_add ((S.s + 1 : Nat) : Int) rfl rfl rfl rfl rfl (by rw [wadd (by omega) (by omega)]; simp) ?_
    refine go 1 ?_
    intro _ M
    refine go 1 ?_
    have V := hS (S.s + 1) _ M
    rw [← stepS_s (S := S) (i := i) (c := c) (o := o)] at V
    exact ⟨by rw [hE], by rw [hE]; exact V⟩

-- (*valise/vfs.Sys).Steps
theorem vsteps_c {w00 w0 : World} {X : List (Nat × Obj)} {I : VfI} {S : VS} (V : VfW w00 X I S w0) : Ret Try.prog 17 #[ptr I.bs] w0 fun r w' => r = .int .i64 (S.s : Int) ∧ New w0 w' := by
 have M : Sep w0 [] w0 := St.nil w0
 obtain ⟨bp_, bl_, cv, ov_, hsl, hsys⟩ := V.sys
 refine Ret.of_W Try.func17 rfl Try.ntmps17 rfl ?_
 refine go 1 ?_
 refine x_ld rfl rfl rfl Try.underlying3 rfl rfl (cell_of (New.keep M.frm hsys) rfl) ?_
 refine go 1 ?_
 exact ⟨rfl, M.frm⟩

-- (*valise/vfs.Sys).Left
theorem vleft_c {w00 w0 : World} {X : List (Nat × Obj)} {I : VfI} {S : VS} {who : Int} (V : VfW w00 X I S w0) : Ret Try.prog 18 #[ptr I.bs, .int .i64 who] w0 fun r w' => r = .int .i64 (leftV S who) ∧ New w0 w' := by
 have M : Sep w0 [] w0 := St.nil w0
 refine Ret.of_W Try.func18 rfl Try.ntmps18 rfl ?_
 refine go 0 ?_
 refine x_call rfl rfl rfl rfl rfl en34 (vclient_c V) ?_
 rintro r_ wcall1 ⟨rfl, hn1⟩
 have M := M.new hn1
 refine ⟨trivial, ?_⟩
 refine cnd 1 ?_ ?_
 ·intro hco1
  rcases V.cliS who with ⟨hp, _⟩ | ⟨i, b, c, rfl, hp, hcs, hcb, hc⟩
  ·rw [hp] at hco1; cases hco1
  rw [hp]
  obtain ⟨lv, pl, cl, rfl, hcell⟩ := (V.new M.frm).cl hc hcb
  refine go 0 ?_
  refine x_ld rfl rfl rfl Try.underlying62 rfl rfl (cell_of hcell rfl) ?_
  refine go 2 ?_
  exact ⟨by unfold leftV; rw [hcs], M.frm⟩
 ·intro hco1
  refine go 1 ?_
  rcases V.cliS who with ⟨hp, hcs⟩ | ⟨i, b, c, rfl, hp, hcs, hcb, hc⟩
  ·exact ⟨by unfold leftV; rw [hcs], M.frm⟩
  ·rw [hp] at hco1; cases hco1

-- (*valise/vfs.Sys).Blocked
theorem vblocked_c {w00 w0 : World} {X : List (Nat × Obj)} {I : VfI} {S : VS} {who : Int} (V : VfW w00 X I S w0) : Ret Try.prog 20 #[ptr I.bs, .int .i64 who] w0 fun r w' => r = .bool (blockV S who) ∧ New w0 w' := by
 have M : Sep w0 [] w0 := St.nil w0
 refine Ret.of_W Try.func20 rfl Try.ntmps20 rfl ?_
 refine go 0 ?_
 refine x_call rfl rfl rfl rfl rfl en34 (vclient_c V) ?_
 rintro r_ wcall1 ⟨rfl, hn1⟩
 have M := M.new hn1
 refine ⟨trivial, ?_⟩
 refine spl 1 11 ?_ ?_
 ·intro hsp1
  rcases V.cliS who with ⟨hp, _⟩ | ⟨i, b, c, rfl, hp, hcs, hcb, hc⟩
  ·rw [hp] at hsp1; cases hsp1
  rw [hp]
  obtain ⟨lv, pl, cl, rfl, hcell⟩ := (V.new M.frm).cl hc hcb
  refine go 0 ?_
  refine x_ld rfl rfl rfl Try.underlying4 rfl rfl (cell_of hcell rfl) ?_
  refine go 1 ?_
  exact ⟨by unfold blockV; rw [hcs], M.frm⟩
 ·intro hsp1
  refine go 1 ?_
  rcases V.cliS who with ⟨hp, hcs⟩ | ⟨i, b, c, rfl, hp, hcs, hcb, hc⟩
  ·exact ⟨by unfold blockV; rw [hcs], M.frm⟩
  ·rw [hp] at hsp1; cases hsp1

end Go.Proofs.Ytebfjdolgchgaaa

namespace Go.Proofs.Ytebfjdolgchgaaa
open Go Go.Fw Go.RowKit
set_option linter.unusedVariables false
set_option linter.unusedSimpArgs false
theorem ddCs_put {R : List DdV} {k q n' : Nat} {x x' : DdV} {u : Value} {rest : List Value} (h : R[k]? = some x) (hq : q < 9) (hn : n' = k * 9 + q) (hx' : ddV x' = (ddV x).set q u) : (ddCs R ++ rest).take n' ++ [u] ++ (ddCs R ++ rest).drop (n' + 1) = ddCs (R.set k x') ++ rest := by
 subst hn
 obtain ⟨hk, hx⟩ := List.getElem?_eq_some_iff.1 h
 have e : R = R.take k ++ x :: R.drop (k + 1) := by rw [← hx, ← List.drop_eq_getElem_cons hk, List.take_append_drop]
 have e2 : R.set k x' = R.take k ++ x' :: R.drop (k + 1) := List.set_eq_take_append_cons_drop ▸ (by rw [if_pos hk])
 have hl : (ddCs (R.take k)).length = k * 9 := by rw [ddCs_len, List.length_take]; omega
 have e3 : ddCs R = ddCs (R.take k) ++ (ddV x ++ ddCs (R.drop (k + 1))) := by
  conv => lhs; rw [e]
  rw [ddCs_app]; rfl
 have e4 : ddCs (R.set k x') = ddCs (R.take k) ++ (ddV x' ++ ddCs (R.drop (k + 1))) := by rw [e2, ddCs_app]; rfl
 have h9 : (ddV x).length = 9 := rfl
 rw [e3, e4, hx']
 simp only [List.append_assoc]
 rw [← hl, List.take_length_add_append, show (ddCs (R.take k)).length + q + 1 = (ddCs (R.take k)).length + (q + 1) by omega, List.drop_length_add_append, List.append_assoc, List.take_append_of_le_length (by omega), List.drop_append_of_le_length (by omega), List.set_eq_take_append_cons_drop, if_pos (by omega)]
 simp
theorem ddCs_get {R : List DdV} {k q n' : Nat} {x : DdV} {u : Value} {rest : List Value} (h : R[k]? = some x) (hq : q < 9) (hn : n' = k * 9 + q) (hu : (ddV x)[q]? = some u) : (ddCs R ++ rest)[n']? = some u := by
 subst hn
 obtain ⟨hk, hx⟩ := List.getElem?_eq_some_iff.1 h
 have e : R = R.take k ++ x :: R.drop (k + 1) := by rw [← hx, ← List.drop_eq_getElem_cons hk, List.take_append_drop]
 have hl : (ddCs (R.take k)).length = k * 9 := by rw [ddCs_len, List.length_take]; omega
 have e3 : ddCs R = ddCs (R.take k) ++ (ddV x ++ ddCs (R.drop (k + 1))) := by
  conv => lhs; rw [e]
  rw [ddCs_app]; rfl
 have h9 : (ddV x).length = 9 := rfl
 rw [e3, ← hl, List.append_assoc, List.getElem?_append_right (by omega), Nat.add_sub_cancel_left, List.append_assoc, List.getElem?_append_left (by omega)]
 exact hu
/-- A row, its bytes and its names. -/
theorem DdK.shape {w00 : World} {L : List (Nat × Obj)} {x : DdV} (h : DdK w00 L x) : ∃ p1 c1 p2 c2, x.2 = (.slice p1 x.1.r.d.length c1, .slice p2 x.1.r.l.length c2) ∧ BytesK w00 L (.slice p1 x.1.r.d.length c1) x.1.r.d ∧ SgK w00 L (.slice p2 x.1.r.l.length c2) 1 x.1.r.l.length (strCs x.1.r.l) := by
 obtain ⟨p1, c1, p2, c2, e, h1, h2⟩ := h
 obtain ⟨d, a, b⟩ := x
 simp only [rsV, Value.agg.injEq, Array.mk.injEq, List.cons.injEq, true_and, and_true] at e
 obtain ⟨rfl, rfl⟩ := e
 exact ⟨p1, c1, p2, c2, rfl, h1, h2⟩
theorem DdK.mk {w00 : World} {L L1 L2 : List (Nat × Obj)} {d : Dd} {v1 v2 : Value} (h1 : OwL L1 v1 1 d.r.d.length (byteCs d.r.d)) (h2 : OwL L2 v2 1 d.r.l.length (strCs d.r.l)) (s1 : ∀ y ∈ L1, y ∈ L) (s2 : ∀ y ∈ L2, y ∈ L) : DdK w00 L (d, v1, v2) := by
 obtain ⟨p1, c1, rfl⟩ := h1.shape
 obtain ⟨p2, c2, rfl⟩ := h2.shape
 exact ⟨p1, c1, p2, c2, rfl, SgK.own h1 (by decide) s1, SgK.own h2 (by decide) s2⟩
/-- What was done, told by blocks. -/
def DidK (w00 : World) (L : List (Nat × Obj)) (v : Value) (o : List Dd) : Prop := ∃ R : List DdV, R.map (·.1) = o ∧ SgK w00 L v 9 o.length (ddCs R) ∧ ∀ x ∈ R, DdK w00 L x
theorem VfW.grow2 {w00 w w1 : World} {X : List (Nat × Obj)} {I : VfI} {S : VS} {m : VM} {L LN : List (Nat × Obj)} (hR : VMR w00 L I S m) (M0 : Sep w00 (X ++ (vmB I S m ++ L)) w) (M : Sep w LN w1) : VfW w00 (LN ++ X) I S w1 := VfW.grow ⟨m, L, hR, M0⟩ M
end Go.Proofs.Ytebfjdolgchgaaa

namespace Go.Proofs.Ytebfjdolgchgaaa
open Go Go.Fw Go.RowKit Go.Proofs
set_option linter.unusedVariables false
set_option linter.unusedSimpArgs false
set_option maxRecDepth 100000
set_option maxHeartbeats 4000000

-- slices.Clone[[]byte,byte]
theorem clone_c {w0 : World} {v : Value} {b : List UInt8} (h : BytesAt w0 v b) (hl : b.length ≤ 1099511627776) : Ret Try.prog 29 #[v] w0 fun r w' => ∃ Lr, Sep w0 Lr w' ∧ BytesO Lr r b := by
 have M : Sep w0 [] w0 := St.nil w0
 obtain ⟨p, cap, rfl⟩ := h.shape
 refine Ret.of_W Try.func29 rfl Try.ntmps29 rfl ?_
 refine cnd 1 ?_ ?_
 ·intro hco1
  have hp : p = none := by simpa using hco1
  subst hp
  have hb : b = [] := by
   rcases h with ⟨h, _⟩ | ⟨_, h, _⟩ | ⟨_, _, _, _, _, _, h, _⟩
   ·exact List.length_eq_zero_iff.1 h
   ·exact List.length_eq_zero_iff.1 h
   ·cases h
  subst hb
  refine go 1 ?_
  exact ⟨[], M, OwL.nil⟩
 ·intro hco1
  refine go 0 ?_
  refine x_bs0 rfl rfl rfl Try.underlying56 sz5 ?_
  intro bb wb hbb hwb
  have M := M.acons hbb hwb
  refine ⟨trivial, ?_⟩
  refine go 0 ?_
  refine x_apL (L := [_]) (L0 := []) (cs := []) (nn := 0) rfl rfl rfl rfl Try.underlying56 sz5 ze5 rfl by5 rfl rfl (.inr ⟨bb, 0, [], _, rfl, rfl, rfl, rfl⟩) M (by simp) ((h.new M.frm).src Try.underlying56 (byteCs_one _)) (by omega) (by decide) (by omega) ?_
  intro Lo v6 w6 how M
  rw [Nat.zero_add, List.nil_append] at how
  refine ⟨trivial, ?_⟩
  refine go 1 ?_
  exact ⟨Lo, by simpa using M, how⟩

-- slices.Clone[[]valise/api.Did,valise/api.Did]
theorem clonedid_c {w0 : World} {v : Value} {n : Nat} {cs : List Value} (h : Sg w0 v 9 n cs) (h1 : ∀ u ∈ cs, u.oneCell' = true) (hl : n ≤ 100000) : Ret Try.prog 35 #[v] w0 fun r w' => ∃ Lr, Sep w0 Lr w' ∧ OwL Lr r 9 n cs := by
 have M : Sep w0 [] w0 := St.nil w0
 obtain ⟨p, cap, rfl⟩ := h.shape
 refine Ret.of_W Try.func35 rfl Try.ntmps35 rfl ?_
 refine cnd 1 ?_ ?_
 ·intro hco1
  have hp : p = none := by simpa using hco1
  subst hp
  obtain ⟨rfl, rfl⟩ : n = 0 ∧ cs = [] := by
   rcases h with ⟨h, h2, _⟩ | ⟨_, h, h2⟩ | ⟨_, _, _, _, _, _, h, _⟩
   ·exact ⟨h, h2⟩
   ·exact ⟨h, h2⟩
   ·cases h
  refine go 1 ?_
  exact ⟨[], M, OwL.nil⟩
 ·intro hco1
  refine go 0 ?_
  refine x_bs0 rfl rfl rfl Try.underlying44 sz61 ?_
  intro bb wb hbb hwb
  have M := M.acons hbb hwb
  refine ⟨trivial, ?_⟩
  refine go 0 ?_
  refine x_apL (L := [_]) (L0 := []) (cs := []) (nn := 0) rfl rfl rfl rfl Try.underlying44 sz61 ze61 rfl by61 rfl rfl (.inr ⟨bb, 0, [], _, rfl, rfl, rfl, rfl⟩) M (by simp) ((h.new M.frm).src Try.underlying44 h1) (by omega) (by decide) (by omega) ?_
  intro Lo v6 w6 how M
  rw [Nat.zero_add, List.nil_append] at how
  refine ⟨trivial, ?_⟩
  refine go 1 ?_
  exact ⟨Lo, by simpa using M, how⟩

-- slices.Clone[[]string,string]
theorem clonestr_c {w0 : World} {v : Value} {n : Nat} {cs : List Value} (h : Sg w0 v 1 n cs) (h1 : ∀ u ∈ cs, u.oneCell' = true) (hl : n ≤ 100000) : Ret Try.prog 36 #[v] w0 fun r w' => ∃ Lr, Sep w0 Lr w' ∧ OwL Lr r 1 n cs := by
 have M : Sep w0 [] w0 := St.nil w0
 obtain ⟨p, cap, rfl⟩ := h.shape
 refine Ret.of_W Try.func36 rfl Try.ntmps36 rfl ?_
 refine cnd 1 ?_ ?_
 ·intro hco1
  have hp : p = none := by simpa using hco1
  subst hp
  obtain ⟨rfl, rfl⟩ : n = 0 ∧ cs = [] := by
   rcases h with ⟨h, h2, _⟩ | ⟨_, h, h2⟩ | ⟨_, _, _, _, _, _, h, _⟩
   ·exact ⟨h, h2⟩
   ·exact ⟨h, h2⟩
   ·cases h
  refine go 1 ?_
  exact ⟨[], M, OwL.nil⟩
 ·intro hco1
  refine go 0 ?_
  refine x_bs0 rfl rfl rfl Try.underlying57 sz9 ?_
  intro bb wb hbb hwb
  have M := M.acons hbb hwb
  refine ⟨trivial, ?_⟩
  refine go 0 ?_
  refine x_apL (L := [_]) (L0 := []) (cs := []) (nn := 0) rfl rfl rfl rfl Try.underlying57 sz9 ze9 rfl by9 rfl rfl (.inr ⟨bb, 0, [], _, rfl, rfl, rfl, rfl⟩) M (by simp) ((h.new M.frm).src Try.underlying57 h1) (by omega) (by decide) (by omega) ?_
  intro Lo v6 w6 how M
  rw [Nat.zero_add, List.nil_append] at how
  refine ⟨trivial, ?_⟩
  refine go 1 ?_
  exact ⟨Lo, by simpa using M, how⟩

-- (*valise/vfs.Sys).Order
theorem vorder_c {w00 w0 : World} {X : List (Nat × Obj)} {I : VfI} {S : VS} (M0 : VfW w00 X I S w0) (ho : S.o.length ≤ 100000) (hd : ∀ x ∈ S.o, x.r.d.length ≤ 1099511627776 ∧ x.r.l.length ≤ 100000) : Ret Try.prog 23 #[ptr I.bs] w0 fun r w' => ∃ LN, DidK w00 LN r S.o ∧ VfW w00 (LN ++ X) I S w' := by
 obtain ⟨m, L, hR, M0⟩ := M0
 have M : Sep w0 [] w0 := St.nil w0
 have hLL : ∀ y ∈ L, y ∈ X ++ (vmB I S m ++ L) := fun y hy => by simp [hy]
 have hol : m.oR.length = S.o.length := by rw [← hR.oo, List.length_map]
 have hsys : w0.heap[I.bs]? = some (.cells [.iface 30 (ptr m.bp), ptr m.lk.bl, m.cv, m.ov, .int .i64 (S.s : Int)].toArray 77 (0, 0)) := M0.get (by simp [vmB, sysB])
 have hsl : Sl w0 m.ov 9 m.oR.length (ddCs m.oR) := (hR.os.sl (by decide)).at_ M0 (fun y hy => by simp [vmB, hy])
 obtain ⟨po, co, hov⟩ := hR.os.shape
 rw [hov] at hsl hsys
 refine Ret.of_W Try.func23 rfl Try.ntmps23 rfl ?_
 refine go 1 ?_
 refine x_ld rfl rfl rfl Try.underlying44 rfl rfl (cell_of hsys rfl) ?_
 refine x_call rfl rfl rfl rfl rfl en35 (clonedid_c (Or.inr hsl) (ddCs_one hR.od) (by omega)) ?_
 rintro r_ wcall1 ⟨Lo, M1, how⟩
 have M := M.grow' M1
 rw [List.append_nil] at M
 obtain ⟨pr, cr, rfl⟩ := how.shape
 have hO0 : ∃ ro To bo, (m.oR.length = 0 ∨ pr = some ⟨bo, 0, none⟩ ∧ Lo = [(bo, .cells (ddCs m.oR ++ ro).toArray To (0, 0))]) ∧ ∀ R : List DdV, R.length = m.oR.length → ∃ L1, OwL L1 (.slice pr m.oR.length cr) 9 m.oR.length (ddCs R) ∧ (m.oR.length = 0 → L1 = Lo) ∧ (m.oR.length ≠ 0 → L1 = [(bo, .cells (ddCs R ++ ro).toArray To (0, 0))]) := by
  rcases how with ⟨e1, e2, e3, e4⟩ | ⟨b, cap, rest, T, e1, e2, e3, e4⟩
  ·refine ⟨[], 0, 0, .inl e2, fun R hRl => ⟨[], .inl ⟨e1, e2, List.length_eq_zero_iff.1 (by rw [ddCs_len]; omega), rfl⟩, fun _ => e4.symm, fun h => absurd e2 h⟩⟩
  ·cases e1
   refine ⟨rest, T, b, .inr ⟨rfl, e2⟩, fun R hRl => ?_⟩
   by_cases e : m.oR.length = 0
   ·have e5 : ddCs R = ddCs m.oR := by rw [List.length_eq_zero_iff.1 e, List.length_eq_zero_iff.1 (by omega : R.length = 0)]
    rw [e5]
    exact ⟨Lo, .inr ⟨b, cr, rest, T, rfl, e2, e3, e4⟩, fun _ => rfl, fun _ => e2⟩
   ·exact ⟨_, .inr ⟨b, cr, rest, T, rfl, rfl, by rw [ddCs_len, hRl], by rw [← e4, List.length_append, List.length_append, ddCs_len, ddCs_len, hRl]⟩, fun h => absurd h e, fun _ => rfl⟩
 obtain ⟨ro, To, bo, hcase, hown⟩ := hO0
 have hLo : ∃ L1, OwL L1 (.slice pr m.oR.length cr) 9 m.oR.length (ddCs m.oR) ∧ (m.oR.length = 0 → L1 = Lo) ∧ (m.oR.length ≠ 0 → L1 = [(bo, .cells (ddCs m.oR ++ ro).toArray To (0, 0))]) := hown _ rfl
 refine ⟨trivial, ?_⟩
 refine go 1 ?_
 refine W.loop (σ := Nat × List DdV) (fun s => [(3, _), (14, _), (15, .int .i64 ((s.1 : Nat) : Int))]) (fun s w => s.1 ≤ m.oR.length ∧ s.2.length = m.oR.length ∧ s.2.map (·.1) = S.o ∧ s.2.drop s.1 = m.oR.drop s.1 ∧ ∃ L1 Lc, (m.oR.length = 0 → L1 = Lo) ∧ (m.oR.length ≠ 0 → L1 = [(bo, .cells (ddCs s.2 ++ ro).toArray To (0, 0))]) ∧ (∀ x ∈ s.2.take s.1, DdK w00 Lc x) ∧ Sep w0 (L1 ++ Lc) w) (fun s => m.oR.length - s.1) (0, m.oR) ⟨rfl, rfl, rfl, trivial⟩ ⟨Nat.zero_le _, rfl, hR.oo, rfl, Lo, [], fun _ => rfl, fun h => (hcase.resolve_left h).2, fun x hx => (by cases hx), by rw [List.append_nil]; exact M⟩ ?_
 rintro ⟨j, R⟩ w ⟨hj, hRl, hRo, hRd, L1, Lc, hz, hnz, hDk, M⟩
 simp only at hj hRl hRo hRd hz hnz hDk M ⊢
 refine cnd 1 ?_ ?_
 ·intro hco2
  have hne : m.oR.length ≠ 0 := by omega
  obtain ⟨rfl, hLo1⟩ := hcase.resolve_left hne
  obtain rfl := hnz hne
  obtain ⟨x, hx⟩ := get_lt (l := m.oR) (q := j) (by omega)
  have hxR : R[j]? = some x := by
   have := congrArg (·[0]?) hRd
   simpa [hx] using this
  have hxo : x.1 ∈ S.o := by rw [← hRo]; exact List.mem_map_of_mem (List.mem_of_getElem? hxR)
  obtain ⟨hd1, hd2⟩ := hd _ hxo
  have hxk := hR.od x (List.mem_of_getElem? hx)
  obtain ⟨p1, c1, p2, c2, hxv, hxb, hxs⟩ := hxk.shape
  obtain ⟨d, dv⟩ := x
  simp only at hxv hxb hxs hd1 hd2
  subst hxv
  have hcl : (ddCs R ++ ro).length ≥ m.oR.length * 9 := by rw [List.length_append, ddCs_len, hRl]; omega
  refine go 0 ?_
  refine x_ia j rfl rfl rfl Try.underlying44 sz61 rfl rfl rfl (by omega) ?_
  refine go 0 ?_
  refine W.regD (by kernel_rfl) #[0, 0, 0, 4, 12, 28, 60, 0, 128, 384, 896, 2044, 4093, 8189, 16381, 32767, 65535, 131071] [(0, false), (1, false), (2, false), (3, false), (4, false), (5, false), (7, false), (8, false), (9, false), (10, false), (6, true), (11, true), (12, false), (13, false), (14, true), (15, false), (16, false), (17, true)] (by kernel_rfl) ?_
  intro K wD1 hK hwD1
  have M := M.drew hwD1
  refine go 0 ?_
  refine x_ld rfl rfl rfl Try.underlying56 rfl rfl (cell_of (M.at_ 0 rfl) (ddCs_get (q := 7) hxR (by decide) (by omega) rfl)) ?_
  refine go 0 ?_
  refine x_ld rfl rfl rfl Try.underlying57 rfl rfl (cell_of (M.at_ 0 rfl) (ddCs_get (q := 8) hxR (by decide) (by omega) rfl)) ?_
  refine x_call rfl rfl rfl rfl rfl en29 (clone_c (hxb _ _ (M0.grow' M) (fun y hy => List.mem_append_right _ (hLL y hy))) hd1) ?_
  rintro vcall2 wcall2 ⟨L2, M2, hb2⟩
  have M := M.grow M2
  obtain ⟨q1, k1, rfl⟩ := OwL.shape hb2
  refine ⟨⟨.inr (cell_of (M.at_ 0 rfl) (ddCs_get (n' := 0 + j * 9 + 4 + 4) (q := 8) hxR (by decide) (by omega) rfl)), .inl (by kernel_rfl), trivial⟩, ?_⟩
  refine x_call rfl rfl rfl rfl rfl en36 (clonestr_c (hxs _ _ (M0.grow' M) (fun y hy => List.mem_append_right _ (hLL y hy))) (strCs_one _) hd2) ?_
  rintro vcall3 wcall3 ⟨L3, M3, hb3⟩
  have M := M.grow M3
  obtain ⟨q2, k2, rfl⟩ := hb3.shape
  refine pnd ?_
  refine go 0 ?_
  refine x_st [_] (ddCs (R.set j (d, .slice q1 d.r.d.length k1, .slice p2 d.r.l.length c2)) ++ ro) rfl rfl rfl sz56 rfl rfl rfl rfl (M.at_ 0 rfl) rfl (Nat.ble_eq_true_of_le (by simp only [List.length_cons, List.length_nil]; omega)) (ddCs_put (q := 7) hxR (by decide) (by omega) rfl) ?_
  intro wst1 hwst1
  have M := M.put 0 rfl hwst1
  have hxR2 : (R.set j (d, .slice q1 d.r.d.length k1, .slice p2 d.r.l.length c2))[j]? = some (d, .slice q1 d.r.d.length k1, .slice p2 d.r.l.length c2) := by rw [List.getElem?_set, if_pos rfl, if_pos (by omega)]
  refine pnd ?_
  refine go 0 ?_
  refine x_st [_] (ddCs (R.set j (d, .slice q1 d.r.d.length k1, .slice q2 d.r.l.length k2)) ++ ro) rfl rfl rfl sz57 rfl rfl rfl rfl (M.at_ 0 rfl) rfl (Nat.ble_eq_true_of_le (by simp only [List.length_cons, List.length_nil, List.length_append, ddCs_len, List.length_set] at hcl ⊢; omega)) ((ddCs_put (q := 8) (x' := (d, .slice q1 d.r.d.length k1, .slice q2 d.r.l.length k2)) hxR2 (by decide) (by omega) rfl).trans (by rw [List.set_set])) ?_
  intro wst2 hwst2
  have M := M.put 0 rfl hwst2
  refine pnd ?_
  refine go 0 ?_
  refine x_add _ rfl rfl rfl rfl rfl (wadd (by omega) (by omega)) ?_
  refine go 0 ?_
  exact At.back ((j + 1, R.set j (d, .slice q1 d.r.d.length k1, .slice q2 d.r.l.length k2))) ⟨rfl, rfl, rfl, trivial⟩ ⟨by simp only; omega, by simp only [List.length_set]; exact hRl, by
   simp only [List.map_set]
   rw [hRo]
   exact (set_same (by rw [← hRo, List.getElem?_map, hxR]; rfl)).symm, by
   simp only
   rw [List.drop_set_of_lt (by omega)]
   have := congrArg (List.drop 1) hRd
   simpa using this, _, Lc ++ L2 ++ L3, fun h => absurd h hne, fun _ => rfl, fun y hy => by
   simp only at hy
   rw [take_snoc (x := (d, .slice q1 d.r.d.length k1, .slice q2 d.r.l.length k2)) (by rw [List.getElem?_set, if_pos rfl, if_pos (by omega)]), List.take_set_of_le (Nat.le_refl _)] at hy
   rcases List.mem_append.1 hy with h | h
   ·exact (hDk y h).mono (fun z hz => by simp [hz])
   ·obtain rfl := List.mem_singleton.1 h
    exact DdK.mk hb2 hb3 (fun z hz => by simp [hz]) (fun z hz => by simp [hz]), by simpa only [List.append_assoc, List.cons_append, List.nil_append, List.set_cons_zero] using M⟩ (by first | omega | (simp only; omega) | (simp; done) | (simp; omega))
 ·intro hco2
  refine go 1 ?_
  have hj2 : j = m.oR.length := by omega
  subst hj2
  rw [← hRl, List.take_length] at hDk
  obtain ⟨L4, hL4, hz4, hnz4⟩ := hown R hRl
  obtain rfl : L4 = L1 := by
   by_cases e : m.oR.length = 0
   ·rw [hz e, hz4 e]
   ·rw [hnz e, hnz4 e]
  exact ⟨L4 ++ Lc, ⟨R, hRo, by rw [← hol]; exact SgK.own hL4 (by decide) (fun y hy => List.mem_append_left _ hy), fun x hx => (hDk x hx).mono (fun y hy => List.mem_append_right _ hy)⟩, VfW.grow2 hR M0 M⟩

end Go.Proofs.Ytebfjdolgchgaaa

namespace Go.Proofs.Ytebfjdolgchgaaa
open Go Go.Fw Go.RowKit
set_option linter.unusedVariables false
set_option linter.unusedSimpArgs false
/-- Lists of what is asked for, told by blocks that stay. -/
def LsK (w00 : World) (L : List (Nat × Obj)) (v : Value) (ls : List (List OpS)) : Prop := ∃ vs : List Value, vs.length = ls.length ∧ SgK w00 L v 1 ls.length vs ∧ ∀ (i : Nat) (u : Value) (l : List OpS), vs[i]? = some u → ls[i]? = some l → OpsK w00 L u l
def newC (l : List OpS) : Cl := ⟨l, 0, 0, 0, 0, [], false⟩
abbrev OpVv := OpS × Value
def opCs (R : List OpVv) : List Value := R.flatMap fun x => opC x.1 x.2
theorem opCs_app (a b : List OpVv) : opCs (a ++ b) = opCs a ++ opCs b := List.flatMap_append
theorem opCs_one {R : List OpVv} (h : ∀ x ∈ R, x.2.oneCell' = true) : ∀ u ∈ opCs R, u.oneCell' = true := by
 intro u hu
 obtain ⟨x, hx, hu⟩ := List.mem_flatMap.1 hu
 have := h x hx
 simp only [opC, List.mem_cons, List.not_mem_nil, or_false] at hu
 rcases hu with rfl | rfl | rfl | rfl | rfl | rfl | rfl | rfl | rfl <;> first | rfl | exact this
theorem opRow {w : World} {b off cap n k : Nat} {R : List OpVv} {x : OpVv} (h : Sl w (.slice (some ⟨b, off, none⟩) n cap) 9 n (opCs R)) (hj : R[k]? = some x) : RowAt w b (off + k * 9) (opC x.1 x.2) :=
 h.row (j := k) (l := opC x.1 x.2) rfl (flat_drop (m := 9) (e1 := fun x : OpVv => opC x.1 x.2) (by decide) (fun _ _ => rfl) hj) (by simp [opC])
theorem cliB_snoc {bs : Nat} {c : Cl} {x : CM} : ∀ {cs : List Cl} {ms : List CM} {k : Nat}, ms.length = cs.length → cliB bs k (cs ++ [c]) (ms ++ [x]) = cliB bs k cs ms ++ [cBk bs (k + cs.length) c x]
 | [], [], k, _ => rfl
 | a :: cs, [], k, h => by simp at h
 | [], y :: ms, k, h => by simp at h
 | a :: cs, y :: ms, k, h => by
  show cBk bs k a y :: cliB bs (k + 1) (cs ++ [c]) (ms ++ [x]) = cBk bs k a y :: (cliB bs (k + 1) cs ms ++ [cBk bs (k + (cs.length + 1)) c x])
  rw [cliB_snoc (by simpa using h), show k + 1 + cs.length = k + (cs.length + 1) by omega]
theorem OpsK.own {w00 : World} {L lD LR : List (Nat × Obj)} {lv : Value} {R : List OpVv} {l : List OpS} {k : Nat} (hR : R.map (·.1) = l) (hk : k = l.length) (h : OwL lD lv 9 k (opCs R)) (hb : ∀ x ∈ R, BytesK w00 LR x.2 x.1.d) (h1 : ∀ y ∈ lD, y ∈ L) (h2 : ∀ y ∈ LR, y ∈ L) : OpsK w00 L lv l := by
 subst hk
 exact ⟨R, hR, SgK.own h (by decide) h1, fun x hx => (hb x hx).mono h2⟩
end Go.Proofs.Ytebfjdolgchgaaa

namespace Go.Proofs.Ytebfjdolgchgaaa
open Go Go.Fw Go.RowKit Go.Proofs
set_option linter.unusedVariables false
set_option linter.unusedSimpArgs false
set_option maxRecDepth 100000
set_option maxHeartbeats 4000000

-- valise/vfs.New
theorem vnew_c {w00 w0 : World} {X L : List (Nat × Obj)} {v u hv : Value} {ls : List (List OpS)} {f : List Raw} {hl : List Opn} {bp : Nat} (M : Sep w00 ((bp, .cells [u, hv].toArray 39 (0, 0)) :: (X ++ L)) w0) (h : LsK w00 L v ls) (hF : FilesK w00 L u f) (hO : OpnK w00 L hv hl) (hI : RI f hl) (h1 : 1 ≤ ls.length) (h8 : ls.length ≤ 8) (hll : ∀ l ∈ ls, l.length ≤ 1000) (hdl : ∀ l ∈ ls, ∀ o ∈ l, o.d.length ≤ 131072) : Ret Try.prog 12 #[.iface 30 (ptr bp), v] w0 fun r w' => ∃ I : VfI, r = .tuple #[ptr I.bs, .int .i64 0] ∧ VfW w00 X I (newV f (hfL hl) ls) w' := by
 obtain ⟨vs, hvl, hvs, hop⟩ := h
 obtain ⟨pv, cv0, rfl⟩ := (hvs _ _ M (fun y hy => by simp [hy])).shape
 refine Ret.of_W Try.func12 rfl Try.ntmps12 rfl ?_
 refine go 0 ?_
 refine x_eqif false rfl rfl rfl Try.underlying73 rfl rfl rfl ?_
 refine go 1 ?_
 refine x_lss false rfl rfl rfl rfl rfl (decide_eq_false (by omega)) ?_
 refine go 1 ?_
 refine x_gtr false rfl rfl rfl rfl rfl (decide_eq_false (by omega)) ?_
 refine go 0 ?_
 refine x_call rfl rfl rfl rfl rfl en27 (lnew_c) ?_
 rintro r_ wcall1 ⟨s1, rfl, hR1, M1⟩
 have M := M.grow' M1
 refine ⟨trivial, ?_⟩
 refine go 2 ?_
 intro bbx1 wbx1 M
 refine go 1 ?_
 refine W.loop (σ := Nat) (fun j => [(6, _), (28, _), (29, _), (30, .int .i64 ((j : Nat) : Int))]) (fun j w => j ≤ ls.length ∧ ∃ cm cD cv Lc, cm.length = j ∧ OwL cD cv 1 j (cm.map fun x => ptr x.b) ∧ (∀ (i : Nat) (x : CM) (l : List OpS), cm[i]? = some x → ls[i]? = some l → OpsK w00 Lc x.v l) ∧ Sep w00 ((bbx1, .cells [.iface 30 (ptr bp), ptr s1.bl, cv, .slice none 0 0, .int .i64 0].toArray 77 (0, 0)) :: ((bp, .cells [u, hv].toArray 39 (0, 0)) :: (lkB s1 ++ ((cliB bbx1 0 ((ls.take j).map newC) cm) ++ (cD ++ (Lc ++ (X ++ L))))))) w) (fun j => ls.length - j) 0 ⟨rfl, rfl, rfl, rfl, trivial⟩ ⟨Nat.zero_le _, [], [], _, [], rfl, OwL.nil, fun i x l h => (by simp at h), (show Sep w00 ((bbx1, .cells [.iface 30 (ptr bp), ptr s1.bl, .slice none 0 0, .slice none 0 0, .int .i64 0].toArray 77 (0, 0)) :: ((bp, .cells [u, hv].toArray 39 (0, 0)) :: (lkB s1 ++ ([] ++ ([] ++ ([] ++ (X ++ L))))))) wbx1 from (show Sep w00 ((bbx1, .cells [.iface 30 (ptr bp), ptr s1.bl, .slice none 0 0, .slice none 0 0, .int .i64 0].toArray 77 (0, 0)) :: (lkB s1 ++ ((bp, .cells [u, hv].toArray 39 (0, 0)) :: (X ++ L)))) wbx1 from M).perm (perm_c fun p => by simp only [List.countP_append, List.countP_cons, List.countP_nil]; omega))⟩ ?_
 rintro j w ⟨hj, cm, cD, cv, Lc, hcm, hcv, hops, M⟩
 obtain ⟨pc, cc, rfl⟩ := hcv.shape
 refine cnd 1 ?_ ?_
 ·intro hco3
  obtain ⟨l, hl⟩ := get_lt (l := ls) (q := j) (by omega)
  obtain ⟨uv, huv⟩ := get_lt (l := vs) (q := j) (by omega)
  have hlm := List.mem_of_getElem? hl
  have hopk := hop j uv l huv hl
  have hsv := hvs _ _ M (fun y hy => by simp [hy])
  obtain ⟨b5, off5, rfl, _⟩ := Sg.blk (j := j) hsv (by omega)
  have hcell := Sl.cell1 (Sg.sl hsv (by omega)) huv
  obtain ⟨R0, hR0, hsg0, hb0⟩ := hopk
  obtain ⟨pu, cu, rfl⟩ := (hsg0 _ _ M (fun y hy => by simp [hy])).shape
  have hll1 := hll l hlm
  refine go 0 ?_
  refine x_ia j rfl rfl rfl Try.underlying22 sz62 rfl rfl rfl (by omega) ?_
  refine x_ld rfl rfl rfl Try.underlying62 rfl rfl hcell ?_
  refine go 3 ?_
  intro bbx2 _ M
  refine go 1 ?_
  refine W.loop (σ := Nat) (fun k => [(6, _), (9, _), (28, _), (29, _), (30, _), (40, _), (41, _), (42, .int .i64 ((k : Nat) : Int))]) (fun k w => k ≤ l.length ∧ ∃ lv lD R LR, R.map (·.1) = l.take k ∧ OwL lD lv 9 k (opCs R) ∧ (∀ x ∈ R, BytesK w00 LR x.2 x.1.d) ∧ (∀ x ∈ R, x.2.oneCell' = true) ∧ Sep w00 ((bbx2, .cells [.int .i64 ((j : Nat) : Int), lv, .int .i64 0, .func (.func 28) #[ptr bbx1] #[], .int .i64 0, .int .i64 0, strV [], .bool false].toArray 83 (0, 0)) :: (bbx1, .cells [.iface 30 (ptr bp), ptr s1.bl, .slice pc j cc, .slice none 0 0, .int .i64 0].toArray 77 (0, 0)) :: (lD ++ (LR ++ ((bp, .cells [u, hv].toArray 39 (0, 0)) :: (lkB s1 ++ ((cliB bbx1 0 ((ls.take j).map newC) cm) ++ (cD ++ (Lc ++ (X ++ L))))))))) w) (fun k => l.length - k) 0 ⟨rfl, rfl, rfl, rfl, rfl, rfl, rfl, rfl, trivial⟩ ⟨Nat.zero_le _, _, [], [], [], rfl, OwL.nil, fun x hx => (by cases hx), fun x hx => (by cases hx), M⟩ ?_
  rintro k w ⟨hk, lv, lD, R, LR, hR, hlv, hRb, hR1, M⟩
  obtain ⟨pl, cl, rfl⟩ := hlv.shape
  refine cnd 1 ?_ ?_
  ·intro hco4
   obtain ⟨x, hx⟩ := get_lt (l := R0) (q := k) (by rw [← List.length_map (f := (·.1)), hR0]; omega)
   obtain ⟨o, dv⟩ := x
   have hxo : l[k]? = some o := by rw [← hR0, List.getElem?_map, hx]; rfl
   have hod := hdl l hlm o (List.mem_of_getElem? hxo)
   have hs0 := hsg0 _ _ M (fun y hy => by simp [hy])
   obtain ⟨b6, off6, rfl, _⟩ := Sg.blk (j := k) hs0 (by omega)
   have hrow := opRow (Sg.sl hs0 (by omega)) hx
   have hbd := hb0 _ (List.mem_of_getElem? hx)
   obtain ⟨pd, cd, hdv⟩ := Sg.shape (hbd _ _ M (fun y hy => by simp [hy]))
   simp only at hdv
   subst hdv
   refine go 0 ?_
   refine x_ia k rfl rfl rfl Try.underlying62 sz66 rfl rfl rfl (by omega) ?_
   refine x_ldA [_, _, _, _, _, _, _, _, _] rfl rfl rfl Try.underlying66 rfl sz66 rfl rfl hrow ?_
   refine go 1 ?_
   intro bal1 _ M
   refine x_st [_, _, _, _, _, _, _, _, _] _ rfl rfl rfl sz66 rfl rfl rfl rfl (by first | exact M.at_ 0 rfl | exact M.at_ 1 rfl | exact M.at_ 2 rfl | exact M.at_ 3 rfl | exact M.at_ 4 rfl | exact M.at_ 5 rfl | exact M.at_ 6 rfl | exact M.at_ 7 rfl) rfl rfl rfl ?_
   intro wst1 hwst1
   have M : Sep w00 ((bal1, .cells (opC o (.slice pd o.d.length cd)).toArray 66 (0, 0)) :: (bbx2, .cells [.int .i64 ((j : Nat) : Int), .slice pl k cl, .int .i64 0, .func (.func 28) #[ptr bbx1] #[], .int .i64 0, .int .i64 0, strV [], .bool false].toArray 83 (0, 0)) :: (bbx1, .cells [.iface 30 (ptr bp), ptr s1.bl, .slice pc j cc, .slice none 0 0, .int .i64 0].toArray 77 (0, 0)) :: (lD ++ (LR ++ ((bp, .cells [u, hv].toArray 39 (0, 0)) :: (lkB s1 ++ ((cliB bbx1 0 ((ls.take j).map newC) cm) ++ (cD ++ (Lc ++ (X ++ L))))))))) wst1 := M.put 0 rfl hwst1
   refine ⟨trivial, ?_⟩
   refine go 1 ?_
   refine x_call rfl rfl rfl rfl rfl en29 (clone_c (hbd _ _ M (fun y hy => by simp [hy])) (by simp only; omega)) ?_
   rintro vcall2 wcall2 ⟨L2, M2, hb2⟩
   have M := M.grow M2
   obtain ⟨q2, k2, rfl⟩ := OwL.shape hb2
   simp only at hb2
   have M : Sep w00 ((bal1, .cells (opC o (.slice pd o.d.length cd)).toArray 66 (0, 0)) :: (bbx2, .cells [.int .i64 ((j : Nat) : Int), .slice pl k cl, .int .i64 0, .func (.func 28) #[ptr bbx1] #[], .int .i64 0, .int .i64 0, strV [], .bool false].toArray 83 (0, 0)) :: (bbx1, .cells [.iface 30 (ptr bp), ptr s1.bl, .slice pc j cc, .slice none 0 0, .int .i64 0].toArray 77 (0, 0)) :: (lD ++ ((LR ++ L2) ++ ((bp, .cells [u, hv].toArray 39 (0, 0)) :: (lkB s1 ++ ((cliB bbx1 0 ((ls.take j).map newC) cm) ++ (cD ++ (Lc ++ (X ++ L))))))))) wcall2 := M.perm (perm_c fun p => by simp only [List.countP_append, List.countP_cons, List.countP_nil]; omega)
   refine ⟨trivial, ?_⟩
   refine go 0 ?_
   refine x_st [_] _ rfl rfl rfl sz56 rfl rfl rfl rfl (by first | exact M.at_ 0 rfl | exact M.at_ 1 rfl | exact M.at_ 2 rfl | exact M.at_ 3 rfl | exact M.at_ 4 rfl | exact M.at_ 5 rfl | exact M.at_ 6 rfl | exact M.at_ 7 rfl) rfl rfl rfl ?_
   intro wst2 hwst2
   have M : Sep w00 ((bal1, .cells (opC o (.slice q2 o.d.length k2)).toArray 66 (0, 0)) :: (bbx2, .cells [.int .i64 ((j : Nat) : Int), .slice pl k cl, .int .i64 0, .func (.func 28) #[ptr bbx1] #[], .int .i64 0, .int .i64 0, strV [], .bool false].toArray 83 (0, 0)) :: (bbx1, .cells [.iface 30 (ptr bp), ptr s1.bl, .slice pc j cc, .slice none 0 0, .int .i64 0].toArray 77 (0, 0)) :: (lD ++ ((LR ++ L2) ++ ((bp, .cells [u, hv].toArray 39 (0, 0)) :: (lkB s1 ++ ((cliB bbx1 0 ((ls.take j).map newC) cm) ++ (cD ++ (Lc ++ (X ++ L))))))))) wst2 := M.put 0 rfl hwst2
   refine ⟨trivial, ?_⟩
   refine go 0 ?_
   refine W.regD (by kernel_rfl) #[0, 0, 2, 6, 14, 0, 32, 126, 255, 511, 1023] [(0, false), (1, false), (2, false), (3, false), (4, false), (5, false), (6, true), (7, true), (8, false), (9, false), (10, true)] (by kernel_rfl) ?_
   intro K wD1 hK hwD1
   have M := M.drew hwD1
   refine go 2 ?_
   refine x_bs1 (cs := (opC o (.slice q2 o.d.length k2))) rfl rfl rfl Try.underlying62 sz66 ze66 (Z := [_, _, _, _, _, _, _, _, _]) rfl rfl (by decide) (by decide) rfl rfl rfl ?_
   intro bbs1 wbs1 hbbs1 hwbs1
   have M0 := M.acons hbbs1 hwbs1
   have hslbs1 : Sl wbs1 (.slice (some ⟨bbs1, 0, none⟩) 1 1) 9 1 (opC o (.slice q2 o.d.length k2)) := .inr ⟨bbs1, 0, 1, _, _, _, rfl, by omega, M0.at_ 0 rfl, rfl, rfl⟩
   have M := M0.tail
   refine pnd ?_
   have M : Sep w00 (lD ++ ((bal1, .cells (opC o (.slice q2 o.d.length k2)).toArray 66 (0, 0)) :: (bbx2, .cells [.int .i64 ((j : Nat) : Int), .slice pl k cl, .int .i64 0, .func (.func 28) #[ptr bbx1] #[], .int .i64 0, .int .i64 0, strV [], .bool false].toArray 83 (0, 0)) :: (bbx1, .cells [.iface 30 (ptr bp), ptr s1.bl, .slice pc j cc, .slice none 0 0, .int .i64 0].toArray 77 (0, 0)) :: ((LR ++ L2) ++ ((bp, .cells [u, hv].toArray 39 (0, 0)) :: (lkB s1 ++ ((cliB bbx1 0 ((ls.take j).map newC) cm) ++ (cD ++ (Lc ++ (X ++ L))))))))) _ := M.perm (perm_c fun p => by simp only [List.countP_append, List.countP_cons, List.countP_nil]; omega)
   refine x_apL rfl rfl rfl rfl Try.underlying62 sz66 ze66 rfl by66 rfl rfl hlv M (opCs_one hR1) (hslbs1.src Try.underlying62 (by intro u hu; simp only [opC, List.mem_cons, List.not_mem_nil, or_false] at hu; rcases hu with rfl | rfl | rfl | rfl | rfl | rfl | rfl | rfl | rfl <;> rfl)) (by omega) (by decide) (by omega) ?_
   intro Lo v6 wap1 how M
   have M : Sep w00 ((bal1, .cells (opC o (.slice q2 o.d.length k2)).toArray 66 (0, 0)) :: (bbx2, .cells [.int .i64 ((j : Nat) : Int), .slice pl k cl, .int .i64 0, .func (.func 28) #[ptr bbx1] #[], .int .i64 0, .int .i64 0, strV [], .bool false].toArray 83 (0, 0)) :: (bbx1, .cells [.iface 30 (ptr bp), ptr s1.bl, .slice pc j cc, .slice none 0 0, .int .i64 0].toArray 77 (0, 0)) :: (Lo ++ ((LR ++ L2) ++ ((bp, .cells [u, hv].toArray 39 (0, 0)) :: (lkB s1 ++ ((cliB bbx1 0 ((ls.take j).map newC) cm) ++ (cD ++ (Lc ++ (X ++ L))))))))) _ := M.perm (perm_c fun p => by simp only [List.countP_append, List.countP_cons, List.countP_nil]; omega)
   obtain ⟨p6, c6, rfl⟩ := how.shape
   refine pnd ?_
   refine go 0 ?_
   refine x_st [_] _ rfl rfl rfl sz62 rfl rfl rfl rfl (by first | exact M.at_ 0 rfl | exact M.at_ 1 rfl | exact M.at_ 2 rfl | exact M.at_ 3 rfl | exact M.at_ 4 rfl | exact M.at_ 5 rfl | exact M.at_ 6 rfl | exact M.at_ 7 rfl) rfl rfl rfl ?_
   intro wst3 hwst3
   have M : Sep w00 ((bal1, .cells (opC o (.slice q2 o.d.length k2)).toArray 66 (0, 0)) :: (bbx2, .cells [.int .i64 ((j : Nat) : Int), .slice p6 (k + 1) c6, .int .i64 0, .func (.func 28) #[ptr bbx1] #[], .int .i64 0, .int .i64 0, strV [], .bool false].toArray 83 (0, 0)) :: (bbx1, .cells [.iface 30 (ptr bp), ptr s1.bl, .slice pc j cc, .slice none 0 0, .int .i64 0].toArray 77 (0, 0)) :: (Lo ++ ((LR ++ L2) ++ ((bp, .cells [u, hv].toArray 39 (0, 0)) :: (lkB s1 ++ ((cliB bbx1 0 ((ls.take j).map newC) cm) ++ (cD ++ (Lc ++ (X ++ L))))))))) wst3 := M.put 1 rfl hwst3
   refine pnd ?_
   refine go 0 ?_
   refine x_add _ rfl rfl rfl rfl rfl (wadd (by omega) (by omega)) ?_
   refine go 0 ?_
   exact At.back (k + 1) ⟨rfl, rfl, rfl, rfl, rfl, rfl, rfl, rfl, trivial⟩ ⟨by omega, _, Lo, R ++ [(o, .slice q2 o.d.length k2)], LR ++ L2, by rw [List.map_append, hR, take_snoc hxo]; rfl, by rw [opCs_app]; exact how, fun y hy => by
    rcases List.mem_append.1 hy with h | h
    ·exact (hRb y h).mono (fun z hz => List.mem_append_left _ hz)
    ·obtain rfl := List.mem_singleton.1 h
     exact SgK.own hb2 (by decide) (fun z hz => List.mem_append_right _ hz), fun y hy => by
    rcases List.mem_append.1 hy with h | h
    ·exact hR1 y h
    ·obtain rfl := List.mem_singleton.1 h
     rfl, M.tail⟩ (by first | omega | (simp only; omega) | (simp; done) | (simp; omega))
  ·intro hco4
   obtain rfl : k = l.length := by omega
   rw [List.take_length] at hR
   have hcm1 : ∀ u ∈ cm.map (fun x => ptr x.b), u.oneCell' = true := by
    intro u hu
    obtain ⟨x, _, rfl⟩ := List.mem_map.1 hu
    rfl
   have hok : OpsK w00 (lD ++ LR) (.slice pl l.length cl) l := OpsK.own hR rfl hlv hRb (fun y hy => List.mem_append_left _ hy) (fun y hy => List.mem_append_right _ hy)
   refine go 1 ?_
   refine x_bs1 (cs := [ptr bbx2]) rfl rfl rfl Try.underlying75 sz80 ze80 (Z := [_]) rfl rfl (by decide) (by decide) rfl rfl rfl ?_
   intro bbs2 wbs2 hbbs2 hwbs2
   have M0 := M.acons hbbs2 hwbs2
   have hslbs2 : Sl wbs2 (.slice (some ⟨bbs2, 0, none⟩) 1 1) 1 1 [ptr bbx2] := .inr ⟨bbs2, 0, 1, _, _, _, rfl, by omega, M0.at_ 0 rfl, rfl, rfl⟩
   have M := M0.tail
   refine ⟨trivial, ?_⟩
   have M : Sep w00 (cD ++ ((bbx2, .cells [.int .i64 ((j : Nat) : Int), .slice pl l.length cl, .int .i64 0, .func (.func 28) #[ptr bbx1] #[], .int .i64 0, .int .i64 0, strV [], .bool false].toArray 83 (0, 0)) :: (bbx1, .cells [.iface 30 (ptr bp), ptr s1.bl, .slice pc j cc, .slice none 0 0, .int .i64 0].toArray 77 (0, 0)) :: (lD ++ (LR ++ ((bp, .cells [u, hv].toArray 39 (0, 0)) :: (lkB s1 ++ ((cliB bbx1 0 ((ls.take j).map newC) cm) ++ (Lc ++ (X ++ L))))))))) _ := M.perm (perm_c fun p => by simp only [List.countP_append, List.countP_cons, List.countP_nil]; omega)
   refine x_apL rfl rfl rfl rfl Try.underlying75 sz80 ze80 rfl by80 rfl rfl hcv M hcm1 (hslbs2.src Try.underlying75 (by intro u hu; simp at hu; rcases hu with rfl; rfl)) (by omega) (by decide) (by omega) ?_
   intro Lo v6 wap2 how M
   have M : Sep w00 ((bbx2, .cells [.int .i64 ((j : Nat) : Int), .slice pl l.length cl, .int .i64 0, .func (.func 28) #[ptr bbx1] #[], .int .i64 0, .int .i64 0, strV [], .bool false].toArray 83 (0, 0)) :: (bbx1, .cells [.iface 30 (ptr bp), ptr s1.bl, .slice pc j cc, .slice none 0 0, .int .i64 0].toArray 77 (0, 0)) :: (lD ++ (LR ++ (Lo ++ ((bp, .cells [u, hv].toArray 39 (0, 0)) :: (lkB s1 ++ ((cliB bbx1 0 ((ls.take j).map newC) cm) ++ (Lc ++ (X ++ L))))))))) _ := M.perm (perm_c fun p => by simp only [List.countP_append, List.countP_cons, List.countP_nil]; omega)
   obtain ⟨p6, c6, rfl⟩ := how.shape
   refine ⟨trivial, ?_⟩
   refine go 0 ?_
   refine x_st [_] _ rfl rfl rfl sz75 rfl rfl rfl rfl (by first | exact M.at_ 0 rfl | exact M.at_ 1 rfl | exact M.at_ 2 rfl | exact M.at_ 3 rfl | exact M.at_ 4 rfl | exact M.at_ 5 rfl | exact M.at_ 6 rfl | exact M.at_ 7 rfl) rfl rfl rfl ?_
   intro wst4 hwst4
   have M : Sep w00 ((bbx2, .cells [.int .i64 ((j : Nat) : Int), .slice pl l.length cl, .int .i64 0, .func (.func 28) #[ptr bbx1] #[], .int .i64 0, .int .i64 0, strV [], .bool false].toArray 83 (0, 0)) :: (bbx1, .cells [.iface 30 (ptr bp), ptr s1.bl, .slice p6 (j + 1) c6, .slice none 0 0, .int .i64 0].toArray 77 (0, 0)) :: (lD ++ (LR ++ (Lo ++ ((bp, .cells [u, hv].toArray 39 (0, 0)) :: (lkB s1 ++ ((cliB bbx1 0 ((ls.take j).map newC) cm) ++ (Lc ++ (X ++ L))))))))) wst4 := M.put 1 rfl hwst4
   refine ⟨trivial, ?_⟩
   refine go 0 ?_
   refine x_add _ rfl rfl rfl rfl rfl (wadd (by omega) (by omega)) ?_
   refine go 0 ?_
   exact At.back (j + 1) ⟨rfl, rfl, rfl, rfl, trivial⟩ ⟨by omega, cm ++ [⟨bbx2, .slice pl l.length cl⟩], Lo, _, Lc ++ (lD ++ LR), by rw [List.length_append, hcm]; rfl, by rw [List.map_append]; exact how, fun i x l' hx hl' => by
    by_cases e : i < cm.length
    ·rw [List.getElem?_append_left e] at hx
     exact (hops i x l' hx hl').mono (fun y hy => List.mem_append_left _ hy)
    ·have : i < (cm ++ [(⟨bbx2, .slice pl l.length cl⟩ : CM)]).length := (List.getElem?_eq_some_iff.1 hx).1
     rw [List.length_append, List.length_singleton] at this
     obtain rfl : i = cm.length := by omega
     rw [List.getElem?_append_right (Nat.le_refl _), Nat.sub_self] at hx
     simp only [List.getElem?_cons_zero, Option.some.injEq] at hx
     subst hx
     rw [hcm, hl] at hl'
     simp only [Option.some.injEq] at hl'
     subst hl'
     exact hok.mono (fun y hy => List.mem_append_right _ hy), by
    rw [take_snoc hl, List.map_append, List.map_singleton, cliB_snoc (by rw [hcm, List.length_map, List.length_take]; omega), Nat.zero_add, List.length_map, List.length_take, Nat.min_eq_left (by omega)]
    exact (show Sep w00 ((bbx1, .cells [.iface 30 (ptr bp), ptr s1.bl, .slice p6 (j + 1) c6, .slice none 0 0, .int .i64 0].toArray 77 (0, 0)) :: ((bp, .cells [u, hv].toArray 39 (0, 0)) :: (lkB s1 ++ (((cliB bbx1 0 ((ls.take j).map newC) cm) ++ [(bbx2, .cells [.int .i64 ((j : Nat) : Int), .slice pl l.length cl, .int .i64 0, .func (.func 28) #[ptr bbx1] #[], .int .i64 0, .int .i64 0, strV [], .bool false].toArray 83 (0, 0))]) ++ (Lo ++ ((Lc ++ (lD ++ LR)) ++ (X ++ L))))))) wst4 from M.perm (perm_c fun p => by simp only [List.countP_append, List.countP_cons, List.countP_nil]; omega))⟩ (by first | omega | (simp only; omega) | (simp; done) | (simp; omega))
 ·intro hco3
  refine go 1 ?_
  obtain rfl : j = ls.length := by omega
  rw [List.take_length] at M
  have hM : VMR w00 (Lc ++ L) ⟨bbx1, cm.map (·.b)⟩ (newV f (hfL hl) ls) ⟨bp, s1, .slice pc ls.length cc, cD, .slice none 0 0, [], [], cm, u, hv⟩ := by
   refine ⟨hR1, rfl, by show cm.length = (ls.map newC).length; rw [List.length_map, hcm], ?_, fun i c x hc hx => ?_, rfl, OwL.nil, fun x hx => (by cases hx), hF.mono (fun y hy => List.mem_append_right _ hy), ⟨hl, rfl, hO.mono (fun y hy => List.mem_append_right _ hy), hI⟩, VI.new h8⟩
   ·show OwL cD _ 1 (ls.map newC).length ((cm.map (·.b)).map ptr)
    rw [List.length_map, List.map_map]
    exact hcv
   ·have hc : (ls.map newC)[i]? = some c := hc
    rw [List.getElem?_map] at hc
    cases e : ls[i]? with
    | none => rw [e] at hc; cases hc
    | some l =>
     rw [e] at hc
     simp only [Option.map_some, Option.some.injEq] at hc
     subst hc
     exact (hops i x l hx e).mono (fun y hy => List.mem_append_left _ hy)
  refine ⟨⟨bbx1, cm.map (·.b)⟩, rfl, _, _, hM, ?_⟩
  exact (show Sep w00 (X ++ ((((bbx1, .cells [.iface 30 (ptr bp), ptr s1.bl, .slice pc ls.length cc, .slice none 0 0, .int .i64 0].toArray 77 (0, 0)) :: (bp, .cells [u, hv].toArray 39 (0, 0)) :: (lkB s1 ++ (cliB bbx1 0 (ls.map newC) cm ++ (cD ++ []))))) ++ (Lc ++ L))) w from M.perm (perm_c fun p => by simp only [List.countP_append, List.countP_cons, List.countP_nil]; omega))

end Go.Proofs.Ytebfjdolgchgaaa

namespace Go.Proofs.Ytebfjdolgchgaaa
open Go Go.Fw Go.RowKit
set_option linter.unusedVariables false
set_option linter.unusedSimpArgs false

section
variable {w00 w0 w : World} {X Lr : List (Nat × Obj)} {I : OvI} {l k : List Raw} {hf : HF} {u hv dv v : Value} {hl : List Opn} {who : Int} {o : OpS}
end
theorem doS_list {l : List Raw} {hf : HF} {who : Int} {o : OpS} : (doS l hf who o).1.l.length ≤ l.length := by
 have hs : ∀ (p b : List UInt8) (r : RsS), r.l = [] → (sizeS l p b r).1.l = [] := fun p b r hr => by
  unfold sizeS
  split
  ·rfl
  ·exact hr
 have hw : ∀ p w, (writeS l p w o).1.l = [] := fun p w => by
  unfold writeS
  repeat' split
  all_goals first | rfl | exact hs _ _ _ rfl
 have ht : ∀ p w, (truncS l p w o).1.l = [] := fun p w => by
  unfold truncS
  repeat' split
  all_goals first | rfl | exact hs _ _ _ rfl
 unfold doS
 split
 ·exact Nat.zero_le _
 split
 ·unfold openS
  repeat' split
  all_goals exact Nat.zero_le _
 split
 ·unfold handleS
  split
  ·exact Nat.zero_le _
  split
  ·unfold readS
   split <;> exact Nat.zero_le _
  split
  ·simp only; rw [hw]; exact Nat.zero_le _
  split
  ·simp only; rw [ht]; exact Nat.zero_le _
  ·exact Nat.zero_le _
 split
 ·unfold namedS
  repeat' split
  all_goals first | exact Nat.zero_le _ | exact listL_len _ _
 ·exact Nat.zero_le _
theorem doS_data {l : List Raw} {hf : HF} {who : Int} {o : OpS} : (doS l hf who o).1.d.length ≤ usedL l := by
 have hs : ∀ (p b : List UInt8) (r : RsS), r.d = [] → (sizeS l p b r).1.d = [] := fun p b r hr => by
  unfold sizeS
  split
  ·rfl
  ·exact hr
 have hw : ∀ p w, (writeS l p w o).1.d = [] := fun p w => by
  unfold writeS
  repeat' split
  all_goals first | rfl | exact hs _ _ _ rfl
 have ht : ∀ p w, (truncS l p w o).1.d = [] := fun p w => by
  unfold truncS
  repeat' split
  all_goals first | rfl | exact hs _ _ _ rfl
 have hb : ∀ p, (fileB l p).length ≤ usedL l := fun p => by
  unfold fileB fileD
  split
  ·rename_i x hx
   split
   ·exact Nat.zero_le _
   ·exact usedL_mem (List.mem_of_find?_eq_some hx)
  ·exact Nat.zero_le _
 unfold doS
 split
 ·exact Nat.zero_le _
 split
 ·unfold openS
  repeat' split
  all_goals exact Nat.zero_le _
 split
 ·unfold handleS
  split
  ·exact Nat.zero_le _
  split
  ·rename_i v _ _
   unfold readS
   split
   ·exact Nat.zero_le _
   ·have := hb v.1
    simp only [List.length_take, List.length_drop]
    omega
  split
  ·simp only; rw [hw]; exact Nat.zero_le _
  split
  ·simp only; rw [ht]; exact Nat.zero_le _
  ·exact Nat.zero_le _
 split
 ·unfold namedS
  repeat' split
  all_goals exact Nat.zero_le _
 ·exact Nat.zero_le _
end Go.Proofs.Ytebfjdolgchgaaa

namespace Go.Proofs.Ytebfjdolgchgaaa
open Go Go.Fw Go.RowKit
set_option linter.unusedVariables false
set_option linter.unusedSimpArgs false
/-- Behind the first i lists, and k things of the next one: so many, all of them small. -/
theorem allL_take {ls : List (List OpS)} {i : Nat} {l : List OpS} (h : ls[i]? = some l) : allL (ls.take (i + 1)) = allL (ls.take i) + l.length := by
 unfold allL
 rw [List.take_add_one, h, Option.toList_some, List.map_append, List.sum_append]
 simp
theorem sum_take (a : List Nat) : ∀ i, (a.take i).sum ≤ a.sum := by
 induction a with
 | nil => intro i; simp
 | cons x a ih =>
  intro i
  cases i with
  | zero => simp
  | succ i => rw [List.take_succ_cons, List.sum_cons, List.sum_cons]; have := ih i; omega
theorem allL_le {ls : List (List OpS)} {i : Nat} : allL (ls.take i) ≤ allL ls := by
 unfold allL
 rw [List.map_take]
 exact sum_take _ _
theorem len_all {ls : List (List OpS)} {l : List OpS} (h : l ∈ ls) : l.length ≤ allL ls := by
 obtain ⟨i, hi⟩ := List.getElem?_of_mem h
 have := allL_le (ls := ls) (i := i + 1)
 rw [allL_take hi] at this
 omega
/-- What was answered is not long. -/
def DB (S : VS) : Prop := ∀ x ∈ S.o, x.r.d.length ≤ 262144 ∧ x.r.l.length ≤ 128
theorem DB.new {f : List Raw} {h : HF} {ls : List (List OpS)} : DB (newV f h ls) := fun x hx => by cases hx
theorem DB.step {S : VS} {who : Int} (h : DB S) (hu : usedL S.f ≤ 262144) (hl : S.f.length ≤ 128) : DB (stepV S who).1 := by
 intro x hx
 unfold stepV at hx
 cases e : cliS S who with
 | none => rw [e] at hx; exact h x hx
 | some c =>
  rw [e] at hx
  simp only at hx
  cases hc : c.l with
  | nil => rw [hc] at hx; exact h x hx
  | cons o r =>
   rw [hc] at hx
   simp only at hx
   split at hx
   ·exact h x hx
   ·unfold stepS at hx
    simp only at hx
    split at hx
    ·exact h x hx
    ·split at hx
     ·unfold askS at hx
      split at hx <;> exact h x hx
     ·split at hx
      ·simp only [commitS] at hx
       rcases List.mem_append.1 hx with g | g
       ·exact h x g
       ·obtain rfl := List.mem_singleton.1 g
        exact ⟨Nat.le_trans doS_data hu, Nat.le_trans doS_list hl⟩
      ·simp only [endS] at hx
       rcases modify_mem hx with g | ⟨d, g, rfl⟩
       ·exact h x g
       ·exact h d g
end Go.Proofs.Ytebfjdolgchgaaa

namespace Go.Proofs.Ytebfjdolgchgaaa
open Go Go.Fw Go.RowKit
set_option linter.unusedVariables false
set_option linter.unusedSimpArgs false
/-- Few lists that are small. -/
def SmL (ls : List (List OpS)) : Prop := allL ls ≤ 100 ∧ ∀ l ∈ ls, ∀ o ∈ l, o.d.length ≤ 131072
structure VA (w00 : World) (X : List (Nat × Obj)) (ls : List (List OpS)) (f0 : List Raw) (h0 : HF) (I : VfI) (S : VS) (w : World) : Prop where
 v : VfW w00 X I S w
 a : AI ls f0 h0 S
 d : DB S
 m : SmL ls
section
variable {w00 w0 w w1 : World} {X Y : List (Nat × Obj)} {ls : List (List OpS)} {f0 : List Raw} {h0 : HF} {I : VfI} {S : VS} {who : Int}
theorem VA.frm (h : VA w00 X ls f0 h0 I S w) : New w00 w := h.v.frm
theorem VA.at_ (h : VA w00 X ls f0 h0 I S w) (k : Nat) {b : Nat} {o : Obj} (hk : X[k]? = some (b, o)) : w.heap[b]? = some o := h.v.at_ k hk
theorem VA.acons (h : VA w00 X ls f0 h0 I S w) {o : Obj} {b : Nat} (hb : b = w.heap.size) (hw : w1 = w.alloc o) : VA w00 ((b, o) :: X) ls f0 h0 I S w1 := ⟨h.v.acons hb hw, h.a, h.d, h.m⟩
theorem VA.put (h : VA w00 X ls f0 h0 I S w) (k : Nat) {b : Nat} {o0 o : Obj} (hk : X[k]? = some (b, o0)) (hw : w1 = w.putObj b o) : VA w00 (X.set k (b, o)) ls f0 h0 I S w1 := ⟨h.v.put k hk hw, h.a, h.d, h.m⟩
theorem VA.new (h : VA w00 X ls f0 h0 I S w) (hn : New w w1) : VA w00 X ls f0 h0 I S w1 := ⟨h.v.new hn, h.a, h.d, h.m⟩
theorem VA.drew (h : VA w00 X ls f0 h0 I S w) (hw : w1 = w.drew) : VA w00 X ls f0 h0 I S w1 := ⟨h.v.drew hw, h.a, h.d, h.m⟩
theorem VA.grow (h : VA w00 X ls f0 h0 I S w) (hc : Sep w Y w1) : VA w00 (Y ++ X) ls f0 h0 I S w1 := ⟨h.v.grow hc, h.a, h.d, h.m⟩
theorem VA.sub (h : VA w00 X ls f0 h0 I S w) (hs : Y.Sublist X) : VA w00 Y ls f0 h0 I S w := ⟨h.v.sub hs, h.a, h.d, h.m⟩
theorem VA.tail {x : Nat × Obj} (h : VA w00 (x :: X) ls f0 h0 I S w) : VA w00 X ls f0 h0 I S w := ⟨h.v.tail, h.a, h.d, h.m⟩
theorem VA.dropL (h : VA w00 (Y ++ X) ls f0 h0 I S w) : VA w00 X ls f0 h0 I S w := ⟨h.v.dropL, h.a, h.d, h.m⟩
theorem VA.perm (h : VA w00 X ls f0 h0 I S w) (hs : X.Perm Y) : VA w00 Y ls f0 h0 I S w := ⟨h.v.perm hs, h.a, h.d, h.m⟩
theorem VA.sep (h : VA w00 X ls f0 h0 I S w) : Sep w00 X w := h.v.sep
theorem AI.oLen (h : AI ls f0 h0 S) : S.o.length ≤ allL ls := by
 rw [h.oi.ol]
 refine (sum_le (g := cnC) (k := List.length) (l := S.c) (m := ls) h.oi.len fun j c l hc hl => ?_).1
 obtain ⟨l0, g1, g2, g3⟩ := h.oi.lst j c hc
 rw [hl] at g1; cases g1
 have hC := h.si.ci c (List.mem_of_getElem? hc)
 unfold cnC
 split
 ·rename_i hs
  have h5 := hC.l0 (by omega)
  have h4 : c.l.length = l.length - c.n := by rw [g2, List.length_drop]
  have : c.l.length ≠ 0 := fun e => h5 (List.length_eq_zero_iff.1 e)
  omega
 ·omega
theorem AI.cN (h : AI ls f0 h0 S) {c : Cl} (hc : c ∈ S.c) : c.n ≤ allL ls ∧ ∀ o ∈ c.l, ∃ l ∈ ls, o ∈ l := by
 obtain ⟨j, hj⟩ := List.getElem?_of_mem hc
 obtain ⟨l0, g1, g2, g3⟩ := h.oi.lst j c hj
 have hm := List.mem_of_getElem? g1
 refine ⟨Nat.le_trans g3 (len_all hm), fun o ho => ⟨l0, hm, ?_⟩⟩
 rw [g2] at ho
 exact List.mem_of_mem_drop ho
theorem VfW.ri (h : VfW w00 X I S w) : usedL S.f ≤ 262144 ∧ S.f.length ≤ 128 := by
 obtain ⟨m, L, hR, _⟩ := h
 obtain ⟨hl, _, _, hI⟩ := hR.hs
 exact ⟨hI.us, hI.le⟩
theorem VA.step_c (M : VA w00 X ls f0 h0 I S w0) : Ret Try.prog 16 #[ptr I.bs, .int .i64 who] w0 fun r w' => r = .bool (stepV S who).2 ∧ VA w00 X ls f0 h0 I (stepV S who).1 w' := by
 have h1 := M.a.oLen
 have h2 := M.a.sum.1
 have h3 := M.m.1
 refine (vstep_c M.v (fun c hc o ho => ?_) (fun c hc => ?_) (by omega) (by omega)).mono fun r w' ⟨h4, h5⟩ => ⟨h4, h5, M.a.step, M.d.step M.v.ri.1 M.v.ri.2, M.m⟩
 ·obtain ⟨l, hl, ho⟩ := (M.a.cN hc).2 o ho
  exact M.m.2 l hl o ho
 ·have := (M.a.cN hc).1; omega
theorem VA.order_c (M : VA w00 X ls f0 h0 I S w0) : Ret Try.prog 23 #[ptr I.bs] w0 fun r w' => ∃ LN, DidK w00 LN r S.o ∧ VA w00 (LN ++ X) ls f0 h0 I S w' := by
 have h1 := M.a.oLen
 have h3 := M.m.1
 exact (vorder_c M.v (by omega) (fun x hx => by have := M.d x hx; omega)).mono fun r w' ⟨LN, h4, h5⟩ => ⟨LN, h4, h5, M.a, M.d, M.m⟩
theorem VA.left_c (M : VA w00 X ls f0 h0 I S w0) : Ret Try.prog 18 #[ptr I.bs, .int .i64 who] w0 fun r w' => r = .int .i64 (leftV S who) ∧ New w0 w' := vleft_c M.v
theorem VA.blocked_c (M : VA w00 X ls f0 h0 I S w0) : Ret Try.prog 20 #[ptr I.bs, .int .i64 who] w0 fun r w' => r = .bool (blockV S who) ∧ New w0 w' := vblocked_c M.v
theorem VA.steps_c (M : VA w00 X ls f0 h0 I S w0) : Ret Try.prog 17 #[ptr I.bs] w0 fun r w' => r = .int .i64 (S.s : Int) ∧ New w0 w' := vsteps_c M.v
theorem VA.new_c {L : List (Nat × Obj)} {v u hv : Value} {f : List Raw} {bp : Nat} (M : Sep w00 ((bp, .cells [u, hv].toArray 39 (0, 0)) :: (X ++ L)) w0) (h : LsK w00 L v ls) (hF : FilesK w00 L u f) (hO : OpnK w00 L hv []) (hI : RI f []) (h1 : 1 ≤ ls.length) (h8 : ls.length ≤ 8) (hm : SmL ls) :
  Ret Try.prog 12 #[.iface 30 (ptr bp), v] w0 fun r w' => ∃ I : VfI, r = .tuple #[ptr I.bs, .int .i64 0] ∧ VA w00 X ls f (hfL []) I (newV f (hfL []) ls) w' :=
 (vnew_c M h hF hO hI h1 h8 (fun l hl => Nat.le_trans (len_all hl) (Nat.le_trans hm.1 (by decide))) hm.2).mono fun r w' ⟨I, h2, h3⟩ => ⟨I, h2, h3, AI.new h8, DB.new, hm⟩
/-- What is told of one thing done. -/
theorem DidK.row {LN : List (Nat × Obj)} {r : Value} {o : List Dd} {M : List (Nat × Obj)} (h : DidK w00 LN r o) (hM : Sep w00 M w) (hs : ∀ y ∈ LN, y ∈ M) {k : Nat} {d : Dd} (hk : o[k]? = some d) :
  ∃ b off cap dv lv, r = .slice (some ⟨b, off, none⟩) o.length cap ∧ RowAt w b (off + k * 9) (ddR d dv lv) ∧ RsK w00 LN (rsV d.r dv lv) d.r := by
 obtain ⟨R, h1, h2, h3⟩ := h
 have hkl := (List.getElem?_eq_some_iff.1 hk).1
 have h4 := h2 _ _ hM hs
 obtain ⟨p, cap, rfl⟩ := h4.shape
 obtain ⟨b, off, rfl, _⟩ := Sg.blk (j := k) h4 hkl
 obtain ⟨x, hx⟩ := get_lt (l := R) (q := k) (by rw [← List.length_map (f := (·.1)), h1]; exact hkl)
 have hxd : x.1 = d := by
  have : (R.map (·.1))[k]? = some x.1 := by rw [List.getElem?_map, hx]; rfl
  rw [h1, hk] at this
  exact (Option.some.inj this).symm
 refine ⟨b, off, cap, x.2.1, x.2.2, rfl, ?_, ?_⟩
 ·have := (Sg.sl h4 (by omega)).row (j := k) (l := ddV x) rfl (flat_drop (m := 9) (e1 := ddV) (by decide) (fun _ _ => rfl) hx) (by simp [ddV, ddR])
  rw [← hxd]; exact this
 ·have := h3 x (List.mem_of_getElem? hx)
  rw [← hxd]; exact this
theorem DidK.shape {LN : List (Nat × Obj)} {r : Value} {o : List Dd} {M : List (Nat × Obj)} (h : DidK w00 LN r o) (hM : Sep w00 M w) (hs : ∀ y ∈ LN, y ∈ M) : ∃ p cap, r = .slice p o.length cap := by
 obtain ⟨R, h1, h2, h3⟩ := h
 exact (h2 _ _ hM hs).shape
theorem SgK.litM {L : List (Nat × Obj)} {b m : Nat} {cs : List Value} {T : TypeId} {fr : Nat × Nat} (hm : (b, Obj.cells cs.toArray T fr) ∈ L) (hn : cs.length = m) : SgK w00 L (.slice (some ⟨b, 0, none⟩) 1 1) m 1 cs :=
 SgK.slL (.inr ⟨b, 0, 1, _, T, fr, rfl, Nat.le_refl _, hm, by simp [← hn], by omega⟩) (fun _ h => h)
end
end Go.Proofs.Ytebfjdolgchgaaa

namespace Go.Proofs.Ytebfjdolgchgaaa
open Go Go.Fw Go.RowKit
set_option linter.unusedVariables false
set_option linter.unusedSimpArgs false
def dirO : OpS := ⟨6, [97], [], 0, 0, 0, false, false, []⟩
def vlL : List (List OpS) := [[dirO], [dirO]]
def vl0 : VS := newV [] (hfL []) vlL
def vl1 : VS := (stepV vl0 0).1
def vl2 : VS := (stepV vl1 1).1
def vl3 : VS := (stepV vl2 1).1
def vl4 : VS := (stepV vl3 0).1
def vl5 : VS := (stepV vl4 0).1
def vl6 : VS := (stepV vl5 0).1
def vl7 : VS := (stepV vl6 1).1
def vl8 : VS := (stepV vl7 1).1
def vl9 : VS := (stepV vl8 1).1
theorem vlA : (stepV vl0 0).2 = true := by decide +kernel
theorem vlB : (stepV vl1 1).2 = true := by decide +kernel
theorem vlC : (stepV vl2 1).2 = false := by decide +kernel
theorem vlD : blockV vl3 1 = true := by decide +kernel
theorem vlE : (stepV vl6 1).2 = true := by decide +kernel
theorem vlF : (stepV vl7 1).2 = true := by decide +kernel
theorem vlG : (stepV vl8 1).2 = true := by decide +kernel
theorem vlO : vl9.o.map (fun d => (d.bg, d.en, d.r.e)) = [(0, 4, 0), (1, 7, 10)] := by decide +kernel
theorem vlS : vl9.s = 8 := by decide +kernel
theorem vlZ : leftV vl9 1 = 0 := by decide +kernel
theorem vlO2 : ∃ d0 d1, vl9.o = [d0, d1] ∧ d0.r.e = 0 ∧ d0.en = 4 ∧ d1.bg = 1 ∧ d1.en = 7 ∧ d1.r.e = 10 := by
 have h := vlO
 cases e : vl9.o with
 | nil => rw [e] at h; simp at h
 | cons d0 l =>
  cases e2 : l with
  | nil => rw [e, e2] at h; simp at h
  | cons d1 l2 =>
   cases e3 : l2 with
   | nil =>
    rw [e, e2, e3] at h
    simp only [List.map_cons, List.map_nil, List.cons.injEq, Prod.mk.injEq, and_true] at h
    exact ⟨d0, d1, rfl, h.1.2.2, h.1.2.1, h.2.1, h.2.2.1, h.2.2.2⟩
   | cons _ _ => rw [e, e2, e3] at h; simp at h
end Go.Proofs.Ytebfjdolgchgaaa

namespace Go.Proofs.Ytebfjdolgchgaaa
open Go Go.Fw Go.RowKit Go.Proofs
set_option linter.unusedVariables false
set_option linter.unusedSimpArgs false
set_option maxRecDepth 100000
set_option maxHeartbeats 4000000


end Go.Proofs.Ytebfjdolgchgaaa

namespace Go.Proofs.Ytebfjdolgchgaaa
open Go Go.Fw Go.RowKit Go.Proofs
set_option linter.unusedVariables false
set_option linter.unusedSimpArgs false
set_option maxRecDepth 100000
set_option maxHeartbeats 4000000

-- valise/valiselaw20.lives
theorem vlives_c {w0 : World}   : Ret Try.prog 11 #[] w0 fun r w' => r = .bool true ∧ New w0 w' := by
 have M : Sep w0 [] w0 := St.nil w0
 refine Ret.of_W Try.func11 rfl Try.ntmps11 rfl ?_
 refine go 2 ?_
 intro bal1 _ M
 refine x_st [_, _, _, _, _, _, _, _, _] _ rfl rfl rfl sz66 rfl rfl rfl rfl (by first | exact M.at_ 0 rfl | exact M.at_ 1 rfl | exact M.at_ 2 rfl | exact M.at_ 3 rfl | exact M.at_ 4 rfl | exact M.at_ 5 rfl | exact M.at_ 6 rfl | exact M.at_ 7 rfl) rfl rfl rfl ?_
 intro wst1 hwst1
 have M : Sep w0 [(bal1, .cells (opC dirO (.slice none 0 0)).toArray 66 (0, 0))] wst1 := M.put 0 rfl hwst1
 refine ⟨trivial, ?_⟩
 refine go 2 ?_
 intro bbx1 _ M
 refine go 2 ?_
 refine x_bs1 (cs := (opC dirO (.slice none 0 0))) rfl rfl rfl Try.underlying62 sz66 ze66 (Z := [_, _, _, _, _, _, _, _, _]) rfl rfl (by decide) (by decide) rfl rfl rfl ?_
 intro bbs1 wbs1 hbbs1 hwbs1
 have M := M.acons hbbs1 hwbs1
 have M : Sep w0 [(bbs1, .cells (opC dirO (.slice none 0 0)).toArray 66 (0, 0)), (bbx1, .cells [.slice none 0 0, .slice none 0 0].toArray 39 (0, 0)), (bal1, .cells (opC dirO (.slice none 0 0)).toArray 66 (0, 0))] wbs1 := M
 refine ⟨trivial, ?_⟩
 refine go 1 ?_
 refine x_bs1 (cs := (opC dirO (.slice none 0 0))) rfl rfl rfl Try.underlying62 sz66 ze66 (Z := [_, _, _, _, _, _, _, _, _]) rfl rfl (by decide) (by decide) rfl rfl rfl ?_
 intro bbs2 wbs2 hbbs2 hwbs2
 have M := M.acons hbbs2 hwbs2
 have M : Sep w0 [(bbs2, .cells (opC dirO (.slice none 0 0)).toArray 66 (0, 0)), (bbs1, .cells (opC dirO (.slice none 0 0)).toArray 66 (0, 0)), (bbx1, .cells [.slice none 0 0, .slice none 0 0].toArray 39 (0, 0)), (bal1, .cells (opC dirO (.slice none 0 0)).toArray 66 (0, 0))] wbs2 := M
 refine ⟨trivial, ?_⟩
 refine x_bsN [.slice (some ⟨bbs1, 0, none⟩) 1 1, .slice (some ⟨bbs2, 0, none⟩) 1 1] rfl rfl rfl Try.underlying22 sz62 ze62 (Z := [_]) rfl rfl (by decide) (by decide) rfl (by first | rfl | kernel_rfl) ?_
 intro bbs3 wbs3 hbbs3 hwbs3
 have M := M.acons hbbs3 hwbs3
 have hop : ∀ b, b = bbs1 ∨ b = bbs2 → OpsK w0 [(bbs3, .cells [.slice (some ⟨bbs1, 0, none⟩) 1 1, .slice (some ⟨bbs2, 0, none⟩) 1 1].toArray 62 (0, 0)), (bbs2, .cells (opC dirO (.slice none 0 0)).toArray 66 (0, 0)), (bbs1, .cells (opC dirO (.slice none 0 0)).toArray 66 (0, 0))] (.slice (some ⟨b, 0, none⟩) 1 1) [dirO] := fun b hb => ⟨[(dirO, .slice none 0 0)], rfl, SgK.litM (T := 66) (fr := (0, 0)) (by rcases hb with rfl | rfl <;> simp [opC]) rfl, fun x hx => by rw [List.mem_singleton.1 hx]; exact nilS (by decide)⟩
 have hLs : LsK w0 [(bbs3, .cells [.slice (some ⟨bbs1, 0, none⟩) 1 1, .slice (some ⟨bbs2, 0, none⟩) 1 1].toArray 62 (0, 0)), (bbs2, .cells (opC dirO (.slice none 0 0)).toArray 66 (0, 0)), (bbs1, .cells (opC dirO (.slice none 0 0)).toArray 66 (0, 0))] (.slice (some ⟨bbs3, 0, none⟩) 2 2) vlL := ⟨_, rfl, SgK.litB List.mem_cons_self rfl, fun i u l hu hl => by
  have hi := (List.getElem?_eq_some_iff.1 hl).1
  simp only [vlL, List.length_cons, List.length_nil] at hi
  have h2 : i = 0 ∨ i = 1 := by omega
  rcases h2 with rfl | rfl
  ·simp only [List.getElem?_cons_zero, vlL, Option.some.injEq] at hu hl
   subst hu; subst hl; exact hop _ (.inl rfl)
  ·simp only [List.getElem?_cons_zero, List.getElem?_cons_succ, vlL, Option.some.injEq] at hu hl
   subst hu; subst hl; exact hop _ (.inr rfl)⟩
 have M : Sep w0 ((bbx1, .cells [.slice none 0 0, .slice none 0 0].toArray 39 (0, 0)) :: ([(bal1, .cells (opC dirO (.slice none 0 0)).toArray 66 (0, 0))] ++ [(bbs3, .cells [.slice (some ⟨bbs1, 0, none⟩) 1 1, .slice (some ⟨bbs2, 0, none⟩) 1 1].toArray 62 (0, 0)), (bbs2, .cells (opC dirO (.slice none 0 0)).toArray 66 (0, 0)), (bbs1, .cells (opC dirO (.slice none 0 0)).toArray 66 (0, 0))])) wbs3 := M.perm (perm_c fun p => by simp only [List.countP_append, List.countP_cons, List.countP_nil]; omega)
 refine ⟨trivial, ?_⟩
 refine x_call rfl rfl rfl rfl rfl en12 (VA.new_c M hLs (nilK.mono (by simp)) (nilS (by decide)) RI.nil (by decide) (by decide) ⟨by decide, by intro l hl o ho; simp only [vlL, List.mem_cons, List.not_mem_nil, or_false, or_self] at hl; subst hl; obtain rfl := List.mem_singleton.1 ho; decide⟩) ?_
 rintro r_ wcall1 ⟨I, rfl, M⟩
 have M : VA w0 [(bal1, .cells (opC dirO (.slice none 0 0)).toArray 66 (0, 0))] vlL [] (hfL []) I vl0 wcall1 := M
 refine ⟨trivial, ?_⟩
 refine go 1 ?_
 refine x_nei false rfl rfl rfl rfl rfl rfl ?_
 refine go 0 ?_
 refine x_call rfl rfl rfl rfl rfl en16 (M.step_c) ?_
 rintro r_ w2_ ⟨rfl, M⟩
 rw [vlA]
 have M : VA w0 [(bal1, .cells (opC dirO (.slice none 0 0)).toArray 66 (0, 0))] vlL [] (hfL []) I vl1 w2_ := M
 refine ⟨trivial, ?_⟩
 refine go 0 ?_
 refine x_call rfl rfl rfl rfl rfl en16 (M.step_c) ?_
 rintro r_ w3_ ⟨rfl, M⟩
 rw [vlB]
 have M : VA w0 [(bal1, .cells (opC dirO (.slice none 0 0)).toArray 66 (0, 0))] vlL [] (hfL []) I vl2 w3_ := M
 refine ⟨trivial, ?_⟩
 refine go 0 ?_
 refine x_call rfl rfl rfl rfl rfl en16 (M.step_c) ?_
 rintro r_ w4_ ⟨rfl, M⟩
 rw [vlC]
 have M : VA w0 [(bal1, .cells (opC dirO (.slice none 0 0)).toArray 66 (0, 0))] vlL [] (hfL []) I vl3 w4_ := M
 refine ⟨trivial, ?_⟩
 refine go 0 ?_
 refine x_call rfl rfl rfl rfl rfl en20 (M.blocked_c) ?_
 rintro r_ w5_ ⟨rfl, hn5⟩
 rw [vlD]
 have M := M.new hn5
 refine ⟨trivial, ?_⟩
 refine go 0 ?_
 refine x_call rfl rfl rfl rfl rfl en16 (M.step_c) ?_
 rintro r_ w6_ ⟨rfl, M⟩
 have M : VA w0 [(bal1, .cells (opC dirO (.slice none 0 0)).toArray 66 (0, 0))] vlL [] (hfL []) I vl4 w6_ := M
 refine ⟨trivial, ?_⟩
 refine go 0 ?_
 refine x_call rfl rfl rfl rfl rfl en16 (M.step_c) ?_
 rintro r_ w7_ ⟨rfl, M⟩
 have M : VA w0 [(bal1, .cells (opC dirO (.slice none 0 0)).toArray 66 (0, 0))] vlL [] (hfL []) I vl5 w7_ := M
 refine ⟨trivial, ?_⟩
 refine go 0 ?_
 refine x_call rfl rfl rfl rfl rfl en16 (M.step_c) ?_
 rintro r_ w8_ ⟨rfl, M⟩
 have M : VA w0 [(bal1, .cells (opC dirO (.slice none 0 0)).toArray 66 (0, 0))] vlL [] (hfL []) I vl6 w8_ := M
 refine ⟨trivial, ?_⟩
 refine go 0 ?_
 refine x_call rfl rfl rfl rfl rfl en16 (M.step_c) ?_
 rintro r_ w9_ ⟨rfl, M⟩
 rw [vlE]
 have M : VA w0 [(bal1, .cells (opC dirO (.slice none 0 0)).toArray 66 (0, 0))] vlL [] (hfL []) I vl7 w9_ := M
 refine ⟨trivial, ?_⟩
 refine go 0 ?_
 refine x_call rfl rfl rfl rfl rfl en16 (M.step_c) ?_
 rintro r_ w10_ ⟨rfl, M⟩
 rw [vlF]
 have M : VA w0 [(bal1, .cells (opC dirO (.slice none 0 0)).toArray 66 (0, 0))] vlL [] (hfL []) I vl8 w10_ := M
 refine ⟨trivial, ?_⟩
 refine go 0 ?_
 refine x_call rfl rfl rfl rfl rfl en16 (M.step_c) ?_
 rintro r_ w11_ ⟨rfl, M⟩
 rw [vlG]
 have M : VA w0 [(bal1, .cells (opC dirO (.slice none 0 0)).toArray 66 (0, 0))] vlL [] (hfL []) I vl9 w11_ := M
 refine ⟨trivial, ?_⟩
 refine go 0 ?_
 refine x_call rfl rfl rfl rfl rfl en23 (M.order_c) ?_
 rintro r_ w12_ ⟨LN, hDK, M⟩
 obtain ⟨d0, d1, hO, e0, e1, e2, e3, e4⟩ := vlO2
 rw [hO] at hDK
 have hsL : ∀ y ∈ LN, y ∈ LN ++ [(bal1, .cells (opC dirO (.slice none 0 0)).toArray 66 (0, 0))] := fun y hy => List.mem_append_left _ hy
 obtain ⟨b, off, cap, dv0, lw0, rfl, hr0, _⟩ := hDK.row M.sep hsL (k := 0) rfl
 obtain ⟨b', off', cap', dv1, lw1, hbb, hr1, _⟩ := hDK.row M.sep hsL (k := 1) rfl
 cases hbb
 refine ⟨trivial, ?_⟩
 refine go 2 ?_
 refine x_eqi true rfl rfl rfl rfl rfl rfl ?_
 refine go 0 ?_
 refine x_ia 0 rfl rfl rfl Try.underlying44 sz61 rfl rfl rfl (by simp) ?_
 refine go 0 ?_
 refine x_ld rfl rfl rfl Try.underlying27 rfl rfl (RowAt.cell hr0 (j := 4) (u := .int .i64 0) (by show some (Value.int IntKind.i64 d0.r.e) = _; rw [e0]; first | done | rfl)) ?_
 refine x_eqi true rfl rfl rfl rfl rfl rfl ?_
 refine go 0 ?_
 refine x_ia 1 rfl rfl rfl Try.underlying44 sz61 rfl rfl rfl (by simp) ?_
 refine go 0 ?_
 refine x_ld rfl rfl rfl Try.underlying27 rfl rfl (RowAt.cell hr1 (j := 4) (u := .int .i64 10) (by show some (Value.int IntKind.i64 d1.r.e) = _; rw [e4]; first | done | rfl)) ?_
 refine x_eqi true rfl rfl rfl rfl rfl rfl ?_
 refine go 0 ?_
 refine x_ia 0 rfl rfl rfl Try.underlying44 sz61 rfl rfl rfl (by simp) ?_
 refine go 0 ?_
 refine x_ld rfl rfl rfl Try.underlying3 rfl rfl (RowAt.cell hr0 (j := 3) (u := .int .i64 4) (by show some (Value.int IntKind.i64 d0.en) = _; rw [e1]; first | done | rfl)) ?_
 refine x_eqi true rfl rfl rfl rfl rfl rfl ?_
 refine go 0 ?_
 refine x_ia 1 rfl rfl rfl Try.underlying44 sz61 rfl rfl rfl (by simp) ?_
 refine go 0 ?_
 refine x_ld rfl rfl rfl Try.underlying3 rfl rfl (RowAt.cell hr1 (j := 2) (u := .int .i64 1) (by show some (Value.int IntKind.i64 ((d1.bg : Nat) : Int)) = _; rw [e2]; first | done | rfl)) ?_
 refine x_eqi true rfl rfl rfl rfl rfl rfl ?_
 refine go 0 ?_
 refine x_ia 1 rfl rfl rfl Try.underlying44 sz61 rfl rfl rfl (by simp) ?_
 refine go 0 ?_
 refine x_ld rfl rfl rfl Try.underlying3 rfl rfl (RowAt.cell hr1 (j := 3) (u := .int .i64 7) (by show some (Value.int IntKind.i64 d1.en) = _; rw [e3]; first | done | rfl)) ?_
 refine x_eqi true rfl rfl rfl rfl rfl rfl ?_
 refine go 0 ?_
 refine x_call rfl rfl rfl rfl rfl en17 (M.steps_c) ?_
 rintro r_ w13_ ⟨rfl, hn13⟩
 rw [vlS]
 have M := M.new hn13
 refine ⟨trivial, ?_⟩
 refine x_eqi true rfl rfl rfl rfl rfl rfl ?_
 refine go 0 ?_
 refine x_call rfl rfl rfl rfl rfl en18 (M.left_c) ?_
 rintro r_ w14_ ⟨rfl, hn14⟩
 rw [vlZ]
 have M := M.new hn14
 refine ⟨trivial, ?_⟩
 refine x_eqi true rfl rfl rfl rfl rfl rfl ?_
 refine go 1 ?_
 exact ⟨rfl, M.frm⟩

end Go.Proofs.Ytebfjdolgchgaaa

namespace Go.Proofs.Ytebfjdolgchgaaa
open Go Go.Fw Go.RowKit
set_option linter.unusedVariables false
set_option linter.unusedSimpArgs false
section
variable {w00 w0 w w1 : World} {X Y L L' : List (Nat × Obj)} {v : Value} {ls : List (List OpS)}
theorem LsK.mono (h : LsK w00 L v ls) (hs : ∀ y ∈ L, y ∈ L') : LsK w00 L' v ls :=
 let ⟨vs, h1, h2, h3⟩ := h; ⟨vs, h1, h2.mono hs, fun i u l hu hl => (h3 i u l hu hl).mono hs⟩
/-- One of the lists, where it stands. -/
theorem LsK.at_ {p : Option Addr} {n cap : Nat} (h : LsK w00 L (.slice p n cap) ls) (hM : Sep w00 X w) (hs : ∀ y ∈ L, y ∈ X) {i : Nat} {l : List OpS} (hl : ls[i]? = some l) :
  ∃ b off pu cu, p = some ⟨b, off, none⟩ ∧ n = ls.length ∧ w.cell? ⟨b, off + i * 1, none⟩ = some (.slice pu l.length cu) ∧ OpsK w00 L (.slice pu l.length cu) l := by
 obtain ⟨vs, h1, h2, h3⟩ := h
 have hi := (List.getElem?_eq_some_iff.1 hl).1
 obtain ⟨u, hu⟩ := get_lt (l := vs) (q := i) (by omega)
 have h4 := h2 _ _ hM hs
 obtain ⟨b, off, rfl, rfl⟩ := Sg.blk (j := i) h4 hi
 have h5 := Sl.cell1 (Sg.sl h4 (by omega)) hu
 have h6 := h3 i u l hu hl
 obtain ⟨R0, hR0, hsg0, hb0⟩ := id h6
 obtain ⟨pu, cu, rfl⟩ := (hsg0 _ _ hM hs).shape
 exact ⟨b, off, pu, cu, rfl, rfl, h5, h6⟩
theorem LsK.at0 {p : Option Addr} {n cap : Nat} (h : LsK w00 [] (.slice p n cap) ls) (hn : New w00 w) {i : Nat} {l : List OpS} (hl : ls[i]? = some l) :
  ∃ b off pu cu, p = some ⟨b, off, none⟩ ∧ n = ls.length ∧ (∀ {w1 : World}, New w00 w1 → w1.cell? ⟨b, off + i * 1, none⟩ = some (.slice pu l.length cu)) ∧ OpsK w00 [] (.slice pu l.length cu) l := by
 obtain ⟨vs, h1, h2, h3⟩ := h
 have hi := (List.getElem?_eq_some_iff.1 hl).1
 obtain ⟨u, hu⟩ := get_lt (l := vs) (q := i) (by omega)
 have h4 := h2 w [] hn (by simp)
 obtain ⟨b, off, rfl, rfl⟩ := Sg.blk (j := i) h4 hi
 have h6 := h3 i u l hu hl
 obtain ⟨R0, hR0, hsg0, hb0⟩ := id h6
 obtain ⟨pu, cu, rfl⟩ := (hsg0 w [] hn (by simp)).shape
 exact ⟨b, off, pu, cu, rfl, rfl, fun {w1} hn1 => Sl.cell1 (Sg.sl (h2 w1 [] hn1 (by simp)) (by omega)) hu, h6⟩
/-- One of the things of a list. -/
theorem OpsK.at_ {p : Option Addr} {n cap : Nat} {l : List OpS} (h : OpsK w00 L (.slice p n cap) l) (hM : Sep w00 X w) (hs : ∀ y ∈ L, y ∈ X) {k : Nat} {o : OpS} (ho : l[k]? = some o) :
  ∃ b off pd cd, p = some ⟨b, off, none⟩ ∧ n = l.length ∧ RowAt w b (off + k * 9) (opC o (.slice pd o.d.length cd)) ∧ BytesK w00 L (.slice pd o.d.length cd) o.d := by
 obtain ⟨R0, hR0, hsg0, hb0⟩ := h
 have hk := (List.getElem?_eq_some_iff.1 ho).1
 obtain ⟨x, hx⟩ := get_lt (l := R0) (q := k) (by rw [← List.length_map (f := (·.1)), hR0]; omega)
 have hxo : x.1 = o := by
  have : (R0.map (·.1))[k]? = some x.1 := by rw [List.getElem?_map, hx]; rfl
  rw [hR0, ho] at this
  exact (Option.some.inj this).symm
 have h4 := hsg0 _ _ hM hs
 obtain ⟨b, off, rfl, rfl⟩ := Sg.blk (j := k) h4 hk
 have hrow := opRow (Sg.sl h4 (by omega)) hx
 have hbd := hb0 _ (List.mem_of_getElem? hx)
 obtain ⟨pd, cd, hdv⟩ := Sg.shape (hbd _ _ hM hs)
 obtain ⟨o', dv⟩ := x
 simp only at hxo hdv hrow hbd
 subst hxo; subst hdv
 exact ⟨b, off, pd, cd, rfl, rfl, hrow, hbd⟩
theorem OpsK.at0 {p : Option Addr} {n cap : Nat} {l : List OpS} (h : OpsK w00 [] (.slice p n cap) l) (hn : New w00 w) {k : Nat} {o : OpS} (ho : l[k]? = some o) :
  ∃ b off pd cd, p = some ⟨b, off, none⟩ ∧ n = l.length ∧ (∀ {w1 : World}, New w00 w1 → RowAt w1 b (off + k * 9) (opC o (.slice pd o.d.length cd))) ∧ BytesK w00 [] (.slice pd o.d.length cd) o.d := by
 obtain ⟨R0, hR0, hsg0, hb0⟩ := h
 have hk := (List.getElem?_eq_some_iff.1 ho).1
 obtain ⟨x, hx⟩ := get_lt (l := R0) (q := k) (by rw [← List.length_map (f := (·.1)), hR0]; omega)
 have hxo : x.1 = o := by
  have : (R0.map (·.1))[k]? = some x.1 := by rw [List.getElem?_map, hx]; rfl
  rw [hR0, ho] at this
  exact (Option.some.inj this).symm
 have h4 := hsg0 w [] hn (by simp)
 obtain ⟨b, off, rfl, rfl⟩ := Sg.blk (j := k) h4 hk
 have hbd := hb0 _ (List.mem_of_getElem? hx)
 obtain ⟨pd, cd, hdv⟩ := Sg.shape (hbd w [] hn (by simp))
 obtain ⟨o', dv⟩ := x
 simp only at hxo hdv hbd
 subst hxo; subst hdv
 exact ⟨b, off, pd, cd, rfl, rfl, fun {w1} hn1 => opRow (Sg.sl (hsg0 w1 [] hn1 (by simp)) (by omega)) hx, hbd⟩
theorem RowAt.after {b off : Nat} {a l : List Value} (h : RowAt w b off (a ++ l)) : RowAt w b (off + a.length) l := by
 obtain ⟨cs, T, fr, h1, h2⟩ := h
 refine ⟨cs, T, fr, h1, ?_⟩
 have := congrArg (List.drop a.length) h2
 rw [List.drop_left, List.length_append, List.drop_take, Nat.add_sub_cancel_left, List.drop_drop] at this
 exact this
/-- A whole number among the picks. -/
theorem pick_at {p : Option Addr} {n cap : Nat} {ps : List Int} (h : Sg w00 (.slice p n cap) 1 ps.length (zInts ps)) (hn : New w00 w) {k : Nat} {z : Int} (hz : ps[k]? = some z) :
  ∃ b off, p = some ⟨b, off, none⟩ ∧ n = ps.length ∧ ∀ {w1 : World}, New w00 w1 → w1.cell? ⟨b, off + k * 1, none⟩ = some (.int .i64 z) := by
 have hk := (List.getElem?_eq_some_iff.1 hz).1
 obtain ⟨b, off, rfl, rfl⟩ := Sg.blk (j := k) h hk
 exact ⟨b, off, rfl, rfl, fun hn => Sl.cell1 (Sg.sl (h.new hn) (by omega)) (by unfold zInts; rw [List.getElem?_map, hz]; rfl)⟩
end
end Go.Proofs.Ytebfjdolgchgaaa

namespace Go.Proofs.Ytebfjdolgchgaaa
open Go Go.Fw Go.RowKit
set_option linter.unusedVariables false
set_option linter.unusedSimpArgs false
def byP (i : Nat) : UInt8 := UInt8.ofNat (112 + i)
def opF (i : Nat) : OpS := ⟨6, [byP i], [], 0, 0, 0, false, false, []⟩
def lsF (m : Nat) : List (List OpS) := (List.range m).map fun j => [opF j]
theorem byP_wrap {i : Nat} (hi : i < 8) : IntKind.u8.wrap (112 + (i : Int)) = ((byP i).toNat : Int) := by
 rw [IntWalk.u8_in _ (by omega)]
 have : i = 0 ∨ i = 1 ∨ i = 2 ∨ i = 3 ∨ i = 4 ∨ i = 5 ∨ i = 6 ∨ i = 7 := by omega
 rcases this with rfl | rfl | rfl | rfl | rfl | rfl | rfl | rfl <;> rfl
theorem u64_pos (z : Int) : 0 ≤ IntKind.u64.wrap z := by rw [IntKind.wrap_u64]; omega
theorem remK {A : Int} {m : Nat} (hA : 0 ≤ A) : A.tmod (m : Int) = ((A.toNat % m : Nat) : Int) := by
 rw [Int.tmod_eq_emod_of_nonneg hA]
 conv => lhs; rw [← Int.toNat_of_nonneg hA]
 exact (Int.natCast_emod _ _).symm
theorem lsF_at {m j : Nat} (hj : j < m) : (lsF m)[j]? = some [opF j] := by
 unfold lsF; rw [List.getElem?_map, List.getElem?_range hj]; rfl
theorem lsF_len {m : Nat} : (lsF m).length = m := by simp [lsF]
theorem lsF_mem {m : Nat} {l : List OpS} (h : l ∈ lsF m) : ∃ j, j < m ∧ l = [opF j] := by
 obtain ⟨j, hj, rfl⟩ := List.mem_map.1 h
 exact ⟨j, List.mem_range.1 hj, rfl⟩
theorem lsF_all (m : Nat) : allL (lsF m) = m := by
 unfold allL lsF
 rw [List.map_map, show (List.length ∘ fun j => [opF j]) = fun _ : Nat => 1 from rfl, List.map_const', List.sum_replicate_nat]
 simp
theorem opF_chg (j : Nat) : chgO (opF j) = true ∧ lockO (opF j) = false := ⟨rfl, rfl⟩
theorem lsF_fi (m : Nat) : FI (newV [] (hfL []) (lsF m)) [] := FI.new (fun l hl => by
 obtain ⟨j, _, rfl⟩ := lsF_mem hl
 exact ⟨by simp, fun o ho => by obtain rfl := List.mem_singleton.1 ho; exact opF_chg j⟩)
/-- Who has come, one by one. -/
def bgR (m : Nat) (came : List Int) : List Value := (List.range m).map fun j : Nat => Value.bool (decide ((j : Int) ∈ came))
theorem bgR_nil (m : Nat) : bgR m [] = List.replicate m (.bool false) := by
 unfold bgR
 apply List.ext_getElem?
 intro j
 rw [List.getElem?_map, List.getElem?_replicate]
 by_cases h : j < m
 ·rw [List.getElem?_range h, if_pos h]; simp
 ·rw [if_neg h, List.getElem?_eq_none (by simp; omega)]; rfl
theorem bgR_len (m : Nat) (came : List Int) : (bgR m came).length = m := by simp [bgR]
theorem bgR_at {m j : Nat} {came : List Int} (h : j < m) : (bgR m came)[j]? = some (.bool (decide ((j : Int) ∈ came))) := by
 unfold bgR; rw [List.getElem?_map, List.getElem?_range h]; rfl
theorem bgR_set {m k : Nat} {came : List Int} (h : k < m) : (bgR m came).take (0 + k * 1) ++ [Value.bool true] ++ (bgR m came).drop (0 + k * 1 + 1) = bgR m (came ++ [(k : Int)]) := by
 have e : (bgR m came).take (0 + k * 1) ++ [Value.bool true] ++ (bgR m came).drop (0 + k * 1 + 1) = (bgR m came).set k (.bool true) := by
  rw [List.set_eq_take_append_cons_drop, if_pos (by rw [bgR_len]; exact h), Nat.zero_add, Nat.mul_one]
  simp
 rw [e]
 apply List.ext_getElem?
 intro j
 rw [List.getElem?_set]
 by_cases hj : j < m
 ·rw [bgR_at hj, bgR_at hj, bgR_len]
  by_cases e2 : k = j
  ·subst e2; rw [if_pos rfl, if_pos hj]; simp
  ·rw [if_neg e2]
   have : (j : Int) ∈ came ++ [(k : Int)] ↔ (j : Int) ∈ came := by
    rw [List.mem_append, List.mem_singleton]
    constructor
    ·rintro (g | g)
     ·exact g
     ·omega
    ·exact .inl
   simp only [this]
 ·rw [List.getElem?_eq_none (by rw [bgR_len]; omega), List.getElem?_eq_none (by rw [bgR_len]; omega)]
  split
  ·rw [bgR_len, if_neg (by omega)]
  ·rfl
end Go.Proofs.Ytebfjdolgchgaaa

namespace Go.Proofs.Ytebfjdolgchgaaa
open Go Go.Fw Go.RowKit Go.Proofs
set_option linter.unusedVariables false
set_option linter.unusedSimpArgs false
set_option maxRecDepth 100000
set_option maxHeartbeats 4000000

-- valise/valiselaw20.VfsFirst
theorem firstA_c {w0 : World} {n : Int} {pv : Value} {ps : List Int} (hp : Sg w0 pv 1 ps.length (zInts ps)) (h : n < 1) : Ret Try.prog 8 #[.int .i64 n, pv] w0 fun r w' => r = .bool true ∧ New w0 w' := by
 have M : Sep w0 [] w0 := St.nil w0
 obtain ⟨pp, cp, rfl⟩ := hp.shape
 refine Ret.of_W Try.func8 rfl Try.ntmps8 rfl ?_
 refine go 0 ?_
 refine x_lss true rfl rfl rfl rfl rfl (decide_eq_true h) ?_
 refine go 0 ?_
 refine x_call rfl rfl rfl rfl rfl en11 (vlives_c) ?_
 rintro r_ w1 ⟨rfl, hn1⟩
 have M := M.new hn1
 refine ⟨trivial, ?_⟩
 refine go 1 ?_
 exact ⟨rfl, M.frm⟩

-- valise/valiselaw20.VfsFirst
theorem firstB_c {w0 : World} {n : Int} {pv : Value} {ps : List Int} (hp : Sg w0 pv 1 ps.length (zInts ps)) (h : 8 < n) : Ret Try.prog 8 #[.int .i64 n, pv] w0 fun r w' => r = .bool true ∧ New w0 w' := by
 have M : Sep w0 [] w0 := St.nil w0
 obtain ⟨pp, cp, rfl⟩ := hp.shape
 refine Ret.of_W Try.func8 rfl Try.ntmps8 rfl ?_
 refine go 0 ?_
 refine x_lss false rfl rfl rfl rfl rfl (decide_eq_false (by omega)) ?_
 refine go 0 ?_
 refine x_gtr true rfl rfl rfl rfl rfl (decide_eq_true (by omega)) ?_
 refine go 0 ?_
 refine x_call rfl rfl rfl rfl rfl en11 (vlives_c) ?_
 rintro r_ w1 ⟨rfl, hn1⟩
 have M := M.new hn1
 refine ⟨trivial, ?_⟩
 refine go 1 ?_
 exact ⟨rfl, M.frm⟩

-- valise/valiselaw20.VfsFirst
theorem firstC_c {w0 : World} {n : Int} {pv : Value} {ps : List Int} (hp : Sg w0 pv 1 ps.length (zInts ps)) (h1 : 1 ≤ n) (h8 : n ≤ 8) (h : 150 < ps.length) : Ret Try.prog 8 #[.int .i64 n, pv] w0 fun r w' => r = .bool true ∧ New w0 w' := by
 have M : Sep w0 [] w0 := St.nil w0
 obtain ⟨pp, cp, rfl⟩ := hp.shape
 refine Ret.of_W Try.func8 rfl Try.ntmps8 rfl ?_
 refine go 0 ?_
 refine x_lss false rfl rfl rfl rfl rfl (decide_eq_false (by omega)) ?_
 refine go 0 ?_
 refine x_gtr false rfl rfl rfl rfl rfl (decide_eq_false (by omega)) ?_
 refine go 1 ?_
 refine x_gtr true rfl rfl rfl rfl rfl (decide_eq_true (by omega)) ?_
 refine go 0 ?_
 refine x_call rfl rfl rfl rfl rfl en11 (vlives_c) ?_
 rintro r_ w1 ⟨rfl, hn1⟩
 have M := M.new hn1
 refine ⟨trivial, ?_⟩
 refine go 1 ?_
 exact ⟨rfl, M.frm⟩

end Go.Proofs.Ytebfjdolgchgaaa

namespace Go.Proofs.Ytebfjdolgchgaaa
open Go Go.Fw Go.RowKit Go.Proofs
set_option linter.unusedVariables false
set_option linter.unusedSimpArgs false
set_option maxRecDepth 100000
set_option maxHeartbeats 4000000

-- valise/valiselaw20.VfsFirst
theorem first_c {w0 : World} {m : Nat} {pv : Value} {ps : List Int} (h1 : 1 ≤ m) (h8 : m ≤ 8) (hp : Sg w0 pv 1 ps.length (zInts ps)) (hpl : ps.length ≤ 150) : Ret Try.prog 8 #[.int .i64 (m : Int), pv] w0 fun r w' => r = .bool true ∧ New w0 w' := by
 have M : Sep w0 [] w0 := St.nil w0
 obtain ⟨pp, cp, rfl⟩ := hp.shape
 refine Ret.of_W Try.func8 rfl Try.ntmps8 rfl ?_
 refine go 0 ?_
 refine x_lss false rfl rfl rfl rfl rfl (decide_eq_false (by omega)) ?_
 refine go 0 ?_
 refine x_gtr false rfl rfl rfl rfl rfl (decide_eq_false (by omega)) ?_
 refine go 1 ?_
 refine x_gtr false rfl rfl rfl rfl rfl (decide_eq_false (by omega)) ?_
 refine go 0 ?_
 refine W.loop (σ := Nat × Value) (fun s => [(0, _), (1, _), (5, s.2), (6, .int .i64 ((s.1 : Nat) : Int))]) (fun s w => s.1 ≤ m ∧ ∃ vs Lo LR, vs.length = s.1 ∧ OwL Lo s.2 1 s.1 vs ∧ (∀ u ∈ vs, u.oneCell' = true) ∧ (∀ (j : Nat) (u : Value), vs[j]? = some u → OpsK w0 LR u [opF j]) ∧ Sep w0 (Lo ++ LR) w) (fun s => m - s.1) (0, .slice none 0 0) ⟨rfl, rfl, rfl, rfl, trivial⟩ ⟨Nat.zero_le _, [], [], [], rfl, OwL.nil, by simp, by simp, M⟩ ?_
 rintro ⟨i, v5⟩ w ⟨hi, vs, Lo, LR, hvl, how, hv1, hop, M⟩
 simp only at hi hvl how M ⊢
 obtain ⟨p5, c5, rfl⟩ := how.shape
 refine cnd 1 ?_ ?_
 ·intro hco2
  have hi8 : i < 8 := by omega
  refine go 0 ?_
  refine W.reg [(0, false), (1, false), (2, false), (3, false), (4, true), (5, false), (6, false), (7, true), (8, true), (9, true), (10, false)] (by kernel_rfl) ?_
  intro K hK
  refine go 0 ?_
  refine x_cvi ((i : Nat) : Int) rfl rfl rfl Try.underlying3 Try.underlying5 rfl (IntWalk.u8_in _ (by omega)) ?_
  refine x_add (((byP i).toNat : Nat) : Int) rfl rfl rfl rfl rfl (byP_wrap hi8) ?_
  refine x_bs1 (cs := (byteCs [byP i])) rfl rfl rfl Try.underlying56 sz5 ze5 (Z := [_]) rfl rfl (by decide) (by decide) rfl rfl rfl ?_
  intro bbs1 wbs1 hbbs1 hwbs1
  have M0 := M.acons hbbs1 hwbs1
  have hslbs1 : Sl wbs1 (.slice (some ⟨bbs1, 0, none⟩) 1 1) 1 1 (byteCs [byP i]) := .inr ⟨bbs1, 0, 1, _, _, _, rfl, by omega, M0.at_ 0 rfl, rfl, rfl⟩
  have M := M0.tail
  refine ⟨trivial, ?_⟩
  refine x_cvbs [byP i] rfl rfl rfl Try.underlying56 Try.underlying5 Try.underlying9 rfl (strOf_bytes (.inr hslbs1)) ?_
  refine go 1 ?_
  refine x_bs1 (cs := (opC (opF i) (.slice none 0 0))) rfl rfl rfl Try.underlying62 sz66 ze66 (Z := [_, _, _, _, _, _, _, _, _]) rfl rfl (by decide) (by decide) rfl rfl rfl ?_
  intro bbs2 wbs2 hbbs2 hwbs2
  have M := M.acons hbbs2 hwbs2
  have M : Sep w0 ((bbs2, .cells (opC (opF i) (.slice none 0 0)).toArray 66 (0, 0)) :: (Lo ++ LR)) wbs2 := M
  refine ⟨trivial, ?_⟩
  refine x_bs1 (cs := [.slice (some ⟨bbs2, 0, none⟩) 1 1]) rfl rfl rfl Try.underlying22 sz62 ze62 (Z := [_]) rfl rfl (by decide) (by decide) rfl rfl rfl ?_
  intro bbs3 wbs3 hbbs3 hwbs3
  have M0 := M.acons hbbs3 hwbs3
  have hslbs3 : Sl wbs3 (.slice (some ⟨bbs3, 0, none⟩) 1 1) 1 1 [.slice (some ⟨bbs2, 0, none⟩) 1 1] := .inr ⟨bbs3, 0, 1, _, _, _, rfl, by omega, M0.at_ 0 rfl, rfl, rfl⟩
  have M := M0.tail
  refine ⟨trivial, ?_⟩
  have M : Sep w0 (Lo ++ ((bbs2, .cells (opC (opF i) (.slice none 0 0)).toArray 66 (0, 0)) :: LR)) _ := M.perm (perm_c fun p => by simp only [List.countP_append, List.countP_cons, List.countP_nil]; omega)
  refine x_apL rfl rfl rfl rfl Try.underlying22 sz62 ze62 rfl by62 rfl rfl how M hv1 (hslbs3.src Try.underlying22 (by intro u hu; obtain rfl := List.mem_singleton.1 hu; rfl)) (by omega) (by decide) (by omega) ?_
  intro Lo2 v6 wap1 how2 M
  refine ⟨trivial, ?_⟩
  refine go 0 ?_
  refine x_add _ rfl rfl rfl rfl rfl (wadd (by omega) (by omega)) ?_
  refine go 0 ?_
  exact At.back ((i + 1, v6)) ⟨rfl, rfl, rfl, rfl, trivial⟩ ⟨by simp only; omega, vs ++ [.slice (some ⟨bbs2, 0, none⟩) 1 1], Lo2, (bbs2, .cells (opC (opF i) (.slice none 0 0)).toArray 66 (0, 0)) :: LR, by simp [hvl], how2, fun u hu => by
   rcases List.mem_append.1 hu with g | g
   ·exact hv1 u g
   ·obtain rfl := List.mem_singleton.1 g; rfl, fun j u hu => by
   by_cases e : j < vs.length
   ·rw [List.getElem?_append_left e] at hu
    exact (hop j u hu).mono (fun y hy => List.mem_cons_of_mem _ hy)
   ·have h2 := (List.getElem?_eq_some_iff.1 hu).1
    rw [List.length_append, List.length_singleton] at h2
    obtain rfl : j = vs.length := by omega
    rw [List.getElem?_append_right (Nat.le_refl _), Nat.sub_self] at hu
    simp only [List.getElem?_cons_zero, Option.some.injEq] at hu
    subst hu
    rw [hvl]
    exact ⟨[(opF i, .slice none 0 0)], rfl, SgK.litM (T := 66) (fr := (0, 0)) List.mem_cons_self rfl, fun x hx => by rw [List.mem_singleton.1 hx]; exact nilS (by decide)⟩, M⟩ (by first | omega | (simp only; omega) | (simp; done) | (simp; omega))
 ·intro hco2
  obtain rfl : m = i := by omega
  have hLs : LsK w0 (Lo ++ LR) (.slice p5 m c5) (lsF m) := ⟨vs, by rw [lsF_len]; exact hvl, by rw [lsF_len]; exact SgK.own how (by decide) (fun y hy => List.mem_append_left _ hy), fun j u l hu hl => by
   have hj := (List.getElem?_eq_some_iff.1 hl).1
   rw [lsF_len] at hj
   rw [lsF_at hj] at hl
   simp only [Option.some.injEq] at hl
   subst hl
   exact (hop j u hu).mono (fun y hy => List.mem_append_right _ hy)⟩
  have hfi := lsF_fi m
  refine go 1 ?_
  refine x_box [_, _] rfl rfl rfl rfl rfl ?_
  intro bbx1 wbx1 hbbx1 hwbx1
  have M : Sep w0 ((bbx1, .cells [.slice none 0 0, .slice none 0 0].toArray 39 (0, 0)) :: ([] ++ (Lo ++ LR))) wbx1 := M.acons hbbx1 hwbx1
  refine ⟨trivial, ?_⟩
  refine go 1 ?_
  refine x_call rfl rfl rfl rfl rfl en12 (VA.new_c (X := []) M hLs (nilK.mono (by simp)) (nilS (by decide)) RI.nil (by rw [lsF_len]; exact h1) (by rw [lsF_len]; exact h8) ⟨by rw [lsF_all]; omega, fun l hl o ho => by obtain ⟨j, _, rfl⟩ := lsF_mem hl; obtain rfl := List.mem_singleton.1 ho; exact Nat.zero_le _⟩) ?_
  rintro r_ wnw ⟨I, rfl, M⟩
  obtain ⟨S0, hS0⟩ : ∃ S0, S0 = newV [] (hfL []) (lsF m) := ⟨_, rfl⟩
  rw [← hS0] at M hfi
  refine ⟨trivial, ?_⟩
  refine go 1 ?_
  refine x_nei false rfl rfl rfl rfl rfl rfl ?_
  refine go 0 ?_
  refine x_ms m m rfl rfl rfl Try.underlying69 sz4 ze4 rfl by4 rfl rfl (Nat.le_refl _) (by show 1 * m ≤ 281474976710656; omega) (by omega) ?_
  intro bms wms hbms hwms
  have M := M.acons hbms hwms
  have M : VA w0 [(bms, .cells (bgR m []).toArray 4 (0, 0))] (lsF m) [] (hfL []) I S0 wms := by rw [bgR_nil]; exact M
  refine ⟨trivial, ?_⟩
  refine go 0 ?_
  refine W.loop (σ := Nat × Value × List Int) (fun s => [(0, _), (1, _), (7, _), (9, s.2.1), (10, _), (11, .int .i64 ((s.1 : Nat) : Int))]) (fun s w => s.1 ≤ ps.length ∧ s.2.2.length ≤ s.1 ∧ ∃ S Lc, OwL Lc s.2.1 1 s.2.2.length (zInts s.2.2) ∧ FI S s.2.2 ∧ VA w0 ((bms, .cells (bgR m s.2.2).toArray 4 (0, 0)) :: Lc) (lsF m) [] (hfL []) I S w) (fun s => ps.length - s.1) (0, .slice none 0 0, []) ⟨rfl, rfl, rfl, rfl, rfl, rfl, trivial⟩ ⟨Nat.zero_le _, Nat.zero_le _, S0, [], OwL.nil, hfi, M⟩ ?_
  rintro ⟨q, v9, came⟩ w ⟨hq, hcl, S, Lc, hoc, hfi, M⟩
  simp only at hq hcl hoc hfi M ⊢
  obtain ⟨p9, c9, rfl⟩ := hoc.shape
  refine cnd 2 ?_ ?_
  ·intro hco4
   obtain ⟨z, hz⟩ := get_lt (l := ps) (q := q) (by omega)
   obtain ⟨b6, off6, rfl, _, hpk⟩ := pick_at hp M.frm hz
   have hk : (IntKind.u64.wrap z).toNat % m < m := Nat.mod_lt _ (by omega)
   generalize hkk : (IntKind.u64.wrap z).toNat % m = k at hk
   refine go 0 ?_
   refine W.reg [(0, false), (1, false), (2, false), (3, false), (4, false), (5, false), (6, false), (7, false), (8, false), (9, false)] (by kernel_rfl) ?_
   intro K hK
   refine go 0 ?_
   refine x_ia q rfl rfl rfl Try.underlying23 sz3 rfl rfl rfl (by omega) ?_
   refine x_ld rfl rfl rfl Try.underlying3 rfl rfl (hpk M.frm) ?_
   refine x_cvi (IntKind.u64.wrap z) rfl rfl rfl Try.underlying3 Try.underlying70 rfl rfl ?_
   refine go 0 ?_
   refine x_cvi ((m : Nat) : Int) rfl rfl rfl Try.underlying3 Try.underlying70 rfl (IntWalk.u64_in _ (by omega)) ?_
   refine x_rem ((k : Nat) : Int) rfl rfl rfl rfl rfl (by omega) (by rw [remK (u64_pos z), hkk]) ?_
   refine x_cvi ((k : Nat) : Int) rfl rfl rfl Try.underlying70 Try.underlying3 rfl (w64 (by omega) (by omega)) ?_
   refine go 0 ?_
   refine x_call rfl rfl rfl rfl rfl en16 (M.step_c) ?_
   have hA9 := M.a
   rintro r_ w2_ ⟨rfl, M⟩
   refine ⟨trivial, ?_⟩
   refine spl 0 76 ?_ ?_
   ·intro hsp1
    have hfs := hfi.step hA9 hsp1
    refine go 0 ?_
    refine x_ia k rfl rfl rfl Try.underlying69 sz4 rfl rfl rfl (by omega) ?_
    refine x_ld rfl rfl rfl Try.underlying4 rfl rfl (cell_of (M.at_ 0 rfl) (by rw [Nat.zero_add, Nat.mul_one]; exact bgR_at hk)) ?_
    refine cnd 1 ?_ ?_
    ·intro hco5
     have hnin : ¬ (k : Int) ∈ came := by simpa using hco5
     rw [if_neg hnin] at hfs
     refine go 0 ?_
     refine x_ia k rfl rfl rfl Try.underlying69 sz4 rfl rfl rfl (by omega) ?_
     refine x_st [_] (bgR m (came ++ [(k : Int)])) rfl rfl rfl sz4 rfl rfl rfl rfl (M.at_ 0 rfl) rfl (Nat.ble_eq_true_of_le (by simp only [List.length_cons, List.length_nil, bgR_len]; omega)) (bgR_set hk) ?_
     intro wst1 hwst1
     have M : VA w0 ((bms, .cells (bgR m (came ++ [(k : Int)])).toArray 4 (0, 0)) :: Lc) (lsF m) [] (hfL []) I (stepV S (k : Int)).1 wst1 := M.put 0 rfl hwst1
     refine ⟨trivial, ?_⟩
     refine go 0 ?_
     refine x_bs1 (cs := [.int .i64 (k : Int)]) rfl rfl rfl Try.underlying23 sz3 ze3 (Z := [_]) rfl rfl (by decide) (by decide) rfl rfl rfl ?_
     intro bbs4 wbs4 hbbs4 hwbs4
     have M0 := M.acons hbbs4 hwbs4
     have hslbs4 : Sl wbs4 (.slice (some ⟨bbs4, 0, none⟩) 1 1) 1 1 [.int .i64 (k : Int)] := .inr ⟨bbs4, 0, 1, _, _, _, rfl, by omega, M0.at_ 0 rfl, rfl, rfl⟩
     have M := M0.tail
     refine ⟨trivial, ?_⟩
     obtain ⟨⟨mv, Lv, hRv, M⟩, hAv, hDv, hmv⟩ := M
     have M : Sep w0 (Lc ++ ((bms, .cells (bgR m (came ++ [(k : Int)])).toArray 4 (0, 0)) :: (vmB I (stepV S (k : Int)).1 mv ++ Lv))) _ := M.perm (perm_c fun p => by simp only [List.countP_append, List.countP_cons, List.countP_nil]; omega)
     refine x_apL rfl rfl rfl rfl Try.underlying23 sz3 ze3 rfl by3 rfl rfl hoc M (zInts_one _) (hslbs4.src Try.underlying23 (by intro u hu; obtain rfl := List.mem_singleton.1 hu; rfl)) (by omega) (by decide) (by omega) ?_
     intro Lo2 v6 wap2 how2 M
     have M : VA w0 ((bms, .cells (bgR m (came ++ [(k : Int)])).toArray 4 (0, 0)) :: Lo2) (lsF m) [] (hfL []) I (stepV S (k : Int)).1 wap2 := ⟨⟨mv, Lv, hRv, M.perm (perm_c fun p => by simp only [List.countP_append, List.countP_cons, List.countP_nil]; omega)⟩, hAv, hDv, hmv⟩
     refine ⟨trivial, ?_⟩
     refine go 0 ?_
     refine x_add _ rfl rfl rfl rfl rfl (wadd (by omega) (by omega)) ?_
     refine go 0 ?_
     exact At.back ((q + 1, v6, came ++ [(k : Int)])) ⟨rfl, rfl, rfl, rfl, rfl, rfl, trivial⟩ ⟨by simp only; omega, by simp only [List.length_append, List.length_singleton]; omega, _, Lo2, by simp only [List.length_append, zInts, List.map_append] at how2 ⊢; exact how2, hfs, M⟩ (by first | omega | (simp only; omega) | (simp; done) | (simp; omega))
    ·intro hco5
     have hin : (k : Int) ∈ came := by simpa using hco5
     rw [if_pos hin] at hfs
     refine go 0 ?_
     refine x_add _ rfl rfl rfl rfl rfl (wadd (by omega) (by omega)) ?_
     refine go 0 ?_
     exact At.back ((q + 1, .slice p9 came.length c9, came)) ⟨rfl, rfl, rfl, rfl, rfl, rfl, trivial⟩ ⟨by simp only; omega, by simp only; omega, _, Lc, hoc, hfs, M⟩ (by first | omega | (simp only; omega) | (simp; done) | (simp; omega))
   ·intro hsp1
    rw [stepV_no hsp1] at M
    refine go 0 ?_
    refine x_add _ rfl rfl rfl rfl rfl (wadd (by omega) (by omega)) ?_
    refine go 0 ?_
    exact At.back ((q + 1, .slice p9 came.length c9, came)) ⟨rfl, rfl, rfl, rfl, rfl, rfl, trivial⟩ ⟨by simp only; omega, by simp only; omega, S, Lc, hoc, hfi, M⟩ (by first | omega | (simp only; omega) | (simp; done) | (simp; omega))
  ·intro hco4
   refine go 0 ?_
   refine x_call rfl rfl rfl rfl rfl en23 (M.order_c) ?_
   rintro r_ w3_ ⟨LN3, hDK3, M⟩
   obtain ⟨po3, co3, rfl⟩ := hDK3.shape M.sep (fun y hy => List.mem_append_left _ hy)
   have hoS := M.a.oLen
   rw [lsF_all] at hoS
   refine ⟨trivial, ?_⟩
   refine go 0 ?_
   refine W.loop (σ := Nat) (fun i => [(9, _), (13, _), (14, .int .i64 ((i : Nat) : Int))]) (fun i w => i ≤ S.o.length ∧ VA w0 (LN3 ++ ((bms, .cells (bgR m came).toArray 4 (0, 0)) :: Lc)) (lsF m) [] (hfL []) I S w) (fun i => S.o.length - i) 0 ⟨rfl, rfl, rfl, trivial⟩ ⟨Nat.zero_le _, M⟩ ?_
   rintro i w ⟨hi, M⟩
   refine cnd 2 ?_ ?_
   ·intro hco7
    refine go 0 ?_
    refine W.regD (by kernel_rfl) #[0, 0, 2, 7, 15, 31, 31, 127, 255, 511, 31, 31, 3103, 7199, 16383, 32767] [(0, false), (1, false), (2, false), (3, false), (4, false), (5, false), (6, false), (7, false), (8, false), (9, false), (10, false), (11, false), (12, false), (13, false), (14, false), (15, false)] (by kernel_rfl) ?_
    intro K wD1 hK hwD1
    have M := M.drew hwD1
    obtain ⟨d, hdd⟩ := get_lt (l := S.o) (q := i) (by omega)
    obtain ⟨bo, offo, capo, dv, lv, e_, hrowd, _⟩ := hDK3.row M.sep (fun y hy => List.mem_append_left _ hy) hdd
    cases e_
    have hsaid := hfi.said i d hdd
    have hil := (List.getElem?_eq_some_iff.1 hsaid).1
    refine spl 2 102 ?_ ?_
    ·intro hsp2
     refine go 1 ?_
     omega
    ·intro hsp2
     have hslc := (hoc.sl (by decide)).at_ M.sep (fun y hy => by simp [hy])
     obtain ⟨b9, off9, cap9, e9⟩ := Sl.blk' hslc (by omega)
     cases e9
     have hc9 := Sl.cell1 hslc (show (zInts came)[i]? = some (.int .i64 d.who) by unfold zInts; rw [List.getElem?_map, hsaid]; rfl)
     refine go 0 ?_
     refine x_ia i rfl rfl rfl Try.underlying44 sz61 rfl rfl rfl (by omega) ?_
     refine go 0 ?_
     refine x_ld rfl rfl rfl Try.underlying3 rfl rfl (RowAt.cell hrowd (j := 0) rfl) ?_
     refine go 0 ?_
     refine x_ia i rfl rfl rfl Try.underlying23 sz3 rfl rfl rfl (by omega) ?_
     refine x_ld rfl rfl rfl Try.underlying3 rfl rfl hc9 ?_
     refine x_nei false rfl rfl rfl rfl rfl (by simp) ?_
     refine go 0 ?_
     refine x_add _ rfl rfl rfl rfl rfl (wadd (by omega) (by omega)) ?_
     refine go 0 ?_
     exact At.back (i + 1) ⟨rfl, rfl, rfl, trivial⟩ ⟨by omega, M⟩ (by first | omega | (simp only; omega) | (simp; done) | (simp; omega))
   ·intro hco7
    refine go 0 ?_
    refine x_call rfl rfl rfl rfl rfl en11 (vlives_c) ?_
    rintro r_ w4 ⟨rfl, hn4⟩
    have M := M.new hn4
    refine ⟨trivial, ?_⟩
    refine go 1 ?_
    exact ⟨rfl, M.frm⟩

end Go.Proofs.Ytebfjdolgchgaaa

namespace Go.Proofs.Ytebfjdolgchgaaa
open Go Go.Fw Go.RowKit
theorem vfsFirst_c {w0 : World} {n : Int} {pv : Value} {ps : List Int} (hp : Sg w0 pv 1 ps.length (zInts ps)) (hpl : ps.length ≤ 9223372036854775807) : Ret Try.prog 8 #[.int .i64 n, pv] w0 fun r w' => r = .bool true ∧ New w0 w' := by
 by_cases h : n < 1
 ·exact firstA_c hp h
 by_cases h8 : 8 < n
 ·exact firstB_c hp h8
 by_cases h2 : 150 < ps.length
 ·exact firstC_c hp (by omega) (by omega) h2
 have e : n = ((n.toNat : Nat) : Int) := by omega
 rw [e]
 exact first_c (by omega) (by omega) hp (by omega)
end Go.Proofs.Ytebfjdolgchgaaa

namespace Go.Fw
open Go Go.ChangeShapes Go.WideShapes Go.ChangeAt Go.RowKit
set_option linter.unusedVariables false
set_option linter.unusedSimpArgs false
section
variable {H : Type} {enc : TypeId × Value → H} {P : Program} {W : World} {sp : Nat → Bool}
end
end Go.Fw

namespace Go.Proofs.Ytebfjdolgchgaaa
open Go Go.Fw Go.ChangeShapes Go.WideShapes Go.ChangeAt Go.RowKit
set_option linter.unusedVariables false
set_option linter.unusedSimpArgs false

theorem cInt : Try.prog.cellsOf 3 = 1 := by kernel_rfl
theorem flat_one {α : Type} (f : α → Value) : ∀ l : List α, (l.flatMap fun a => [f a]) = l.map f
 | [] => rfl
 | a :: l => by rw [List.flatMap_cons, flat_one f l]; rfl
section
variable {H : Type} {enc : TypeId × Value → H} {W : World} {sp : Nat → Bool}
abbrev OpR := Int × List UInt8 × List UInt8 × Int × Int × Int × Bool × Bool × (Value × List UInt8)
theorem max_lenR {α : Type} {l : List α} (h : l.length ≤ maxLen) : l.length ≤ 9223372036854775807 := by unfold maxLen at h; omega
theorem ints_of {R : Int → DataW H → Prop} {v : Value} {l : List Int} {d : DataW H} (h : SlR W 1 (fun z : Int => [Value.int .i64 z]) R (v, l) d) : Sg W v 1 l.length (zInts l) := by
 have := h.1
 simp only [flat_one] at this
 exact this
end
end Go.Proofs.Ytebfjdolgchgaaa
