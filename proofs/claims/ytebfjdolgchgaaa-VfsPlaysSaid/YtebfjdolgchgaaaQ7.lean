/-
  Texts that belong together, laid into one file: F8, F1, F9, F10, KF, G14, G15, FwT, R20.
-/
import Derived.Test.YtebfjdolgchgaaaQ6
namespace Go.Proofs.Ytebfjdolgchgaaa
open Go Go.Fw Go.RowKit Go.Proofs
set_option linter.unusedVariables false
set_option linter.unusedSimpArgs false
set_option maxRecDepth 100000
set_option maxHeartbeats 4000000

-- (valise/valiseref20.Sys).Left
theorem rleft_c {w0 : World} {pu ph pk pc pd : Option Addr} {nu cu nh ch nk ck nc cc nd cd : Nat} {sv : Int} {R0 : List RcV} {cs : List RC} {who : Int} (hR : R0.map (·.1) = cs) (h : Sg w0 (.slice pc nc cc) 5 cs.length (cRs R0)) (hv : ∀ x ∈ R0, ∃ p c, x.2 = .slice p x.1.l.length c) : Ret Try.prog 19 #[.agg [.slice pu nu cu, .slice ph nh ch, .slice pk nk ck, .slice pc nc cc, .slice pd nd cd, .int .i64 sv].toArray, .int .i64 who] w0 fun r w' => r = .int .i64 (leftC cs who) ∧ New w0 w' := by
 have M : Sep w0 [] w0 := St.nil w0
 obtain rfl : nc = cs.length := by obtain ⟨_, _, e⟩ := h.shape; cases e; rfl
 have hRl : R0.length = cs.length := by rw [← hR, List.length_map]
 refine Ret.of_W Try.func19 rfl Try.ntmps19 rfl ?_
 refine go 0 ?_
 refine x_box [_, _, _, _, _, _] rfl rfl rfl rfl rfl ?_
 intro bbx1 wbx1 hbbx1 hwbx1
 have M : Sep w0 [(bbx1, .cells [.slice pu nu cu, .slice ph nh ch, .slice pk nk ck, .slice pc cs.length cc, .slice pd nd cd, .int .i64 sv].toArray 46 (0, 0))] wbx1 := M.acons hbbx1 hwbx1
 refine ⟨trivial, ?_⟩
 refine spl 1 7 ?_ ?_
 ·intro hsp1
  refine go 1 ?_
  exact ⟨by rw [leftC_out (.inl (by omega))], M.frm⟩
 ·intro hsp1
  refine cnd 3 ?_ ?_
  ·intro hco2
   refine go 1 ?_
   exact ⟨by rw [leftC_out (.inr (by omega))], M.frm⟩
  ·intro hco2
   obtain ⟨j, rfl⟩ : ∃ j : Nat, who = (j : Int) := ⟨who.toNat, by omega⟩
   obtain ⟨x, hx⟩ := get_lt (l := R0) (q := j) (by omega)
   obtain ⟨b5, off5, rfl, _⟩ := Sg.blk (j := j) h (by omega)
   have hrow := cRow (Sg.sl (h.new M.frm) (by omega)) hx
   obtain ⟨px, cx, hxv⟩ := hv x (List.mem_of_getElem? hx)
   obtain ⟨x1, x2⟩ := x
   simp only at hxv
   subst hxv
   refine go 1 ?_
   refine x_ia j rfl rfl rfl Try.underlying43 sz90 rfl rfl rfl (by omega) ?_
   refine go 0 ?_
   refine x_ld rfl rfl rfl Try.underlying62 rfl rfl (RowAt.cell hrow (j := 0) rfl) ?_
   refine go 2 ?_
   exact ⟨by rw [leftC_at (show cs[j]? = some x1 by rw [← hR, List.getElem?_map, hx]; rfl)], M.frm⟩

-- (valise/valiseref20.Sys).Blocked
theorem rblocked_c {w0 : World} {pu ph pk pc pd : Option Addr} {nu cu nh ch nk ck nc cc nd cd : Nat} {sv : Int} {k : List AskR} {who : Int} (h : AskAt w0 (.slice pk nk ck) k) (hl : k.length ≤ 1000) : Ret Try.prog 21 #[.agg [.slice pu nu cu, .slice ph nh ch, .slice pk nk ck, .slice pc nc cc, .slice pd nd cd, .int .i64 sv].toArray, .int .i64 who] w0 fun r w' => r = .bool (k.any fun a => decide (a.1 = who) && !a.2.2.2) ∧ New w0 w' := by
 have M : Sep w0 [] w0 := St.nil w0
 obtain rfl : nk = k.length := by obtain ⟨_, _, e⟩ := Sg.shape h; cases e; rfl
 refine Ret.of_W Try.func21 rfl Try.ntmps21 rfl ?_
 refine go 0 ?_
 refine x_box [_, _, _, _, _, _] rfl rfl rfl rfl rfl ?_
 intro bbx1 wbx1 hbbx1 hwbx1
 have M : Sep w0 [(bbx1, .cells [.slice pu nu cu, .slice ph nh ch, .slice pk k.length ck, .slice pc nc cc, .slice pd nd cd, .int .i64 sv].toArray 46 (0, 0))] wbx1 := M.acons hbbx1 hwbx1
 refine ⟨trivial, ?_⟩
 refine go 0 ?_
 refine W.loop (σ := Nat) (fun i => [(1, _), (2, _), (5, .int .i64 ((i : Nat) : Int))]) (fun i w => i ≤ k.length ∧ (∀ y ∈ k.take i, (decide (y.1 = who) && !y.2.2.2) = false) ∧ Sep w0 [(bbx1, .cells [.slice pu nu cu, .slice ph nh ch, .slice pk k.length ck, .slice pc nc cc, .slice pd nd cd, .int .i64 sv].toArray 46 (0, 0))] w) (fun i => k.length - i) 0 ⟨rfl, rfl, rfl, trivial⟩ ⟨Nat.zero_le _, by simp, M⟩ ?_
 rintro i w ⟨hi, hno, M⟩
 refine cnd 3 ?_ ?_
 ·intro hco1
  obtain ⟨a, ha⟩ := get_lt (l := k) (q := i) (by omega)
  obtain ⟨b5, off5, rfl, _, hrowF⟩ := AskAt.rowF h ha
  have hst : (decide (a.1 = who) && !a.2.2.2) = false → ∀ y ∈ k.take (i + 1), (decide (y.1 = who) && !y.2.2.2) = false := fun hf y hy => by
   rw [take_snoc ha] at hy
   rcases List.mem_append.1 hy with g | g
   ·exact hno y g
   ·obtain rfl := List.mem_singleton.1 g; exact hf
  refine go 1 ?_
  refine x_ia i rfl rfl rfl Try.underlying40 sz98 rfl rfl rfl (by omega) ?_
  refine go 0 ?_
  refine x_ld rfl rfl rfl Try.underlying3 rfl rfl (RowAt.cell (hrowF M.frm) (j := 0) rfl) ?_
  refine spl 1 23 ?_ ?_
  ·intro hsp1
   refine go 1 ?_
   refine x_ia i rfl rfl rfl Try.underlying40 sz98 rfl rfl rfl (by omega) ?_
   refine go 0 ?_
   refine x_ld rfl rfl rfl Try.underlying4 rfl rfl (RowAt.cell (hrowF M.frm) (j := 3) rfl) ?_
   refine cnd 1 ?_ ?_
   ·intro hco2
    refine go 1 ?_
    exact ⟨by rw [List.any_eq_true.2 ⟨a, List.mem_of_getElem? ha, by simp [hsp1, hco2]⟩], M.frm⟩
   ·intro hco2
    refine go 0 ?_
    refine x_add _ rfl rfl rfl rfl rfl (wadd (by omega) (by omega)) ?_
    refine go 0 ?_
    exact At.back (i + 1) ⟨rfl, rfl, rfl, trivial⟩ ⟨by omega, hst (by simp [hco2]), M⟩ (by first | omega | (simp only; omega) | (simp; done) | (simp; omega))
  ·intro hsp1
   refine go 0 ?_
   refine x_add _ rfl rfl rfl rfl rfl (wadd (by omega) (by omega)) ?_
   refine go 0 ?_
   exact At.back (i + 1) ⟨rfl, rfl, rfl, trivial⟩ ⟨by omega, hst (by simp [hsp1]), M⟩ (by first | omega | (simp only; omega) | (simp; done) | (simp; omega))
 ·intro hco1
  refine go 1 ?_
  obtain rfl : i = k.length := by omega
  rw [List.take_length] at hno
  exact ⟨by rw [List.any_eq_false.2 (fun y hy => by rw [hno y hy]; simp)], M.frm⟩

-- valise/valiseref20.Same
theorem rsame20_c {w00 w0 : World} {X L1 L2 : List (Nat × Obj)} {v1 v2 : Value} {o : List Dd} (M0 : Sep w00 X w0) (h1 : DidK w00 L1 v1 o) (h2 : DidK w00 L2 v2 o) (s1 : ∀ y ∈ L1, y ∈ X) (s2 : ∀ y ∈ L2, y ∈ X) (hol : o.length ≤ 1000) (hla : ∀ d ∈ o, d.r.l.length ≤ 1099511627776) : Ret Try.prog 22 #[v1, v2] w0 fun r w' => r = .bool true ∧ New w0 w' := by
 have M := M0
 obtain ⟨q1, k1, rfl⟩ := h1.shape M s1
 obtain ⟨q2, k2, rfl⟩ := h2.shape M s2
 refine Ret.of_W Try.func22 rfl Try.ntmps22 rfl ?_
 refine go 2 ?_
 refine x_nei false rfl rfl rfl rfl rfl (by simp) ?_
 refine go 0 ?_
 refine W.loop (σ := Nat) (fun i => [(0, _), (1, _), (5, .int .i64 ((i : Nat) : Int))]) (fun i w => i ≤ o.length ∧ New w0 w ∧ Sep w00 X w) (fun i => o.length - i) 0 ⟨rfl, rfl, rfl, trivial⟩ ⟨Nat.zero_le _, St.nil _, M⟩ ?_
 rintro i w ⟨hi, hn, M⟩
 refine cnd 2 ?_ ?_
 ·intro hco2
  obtain ⟨d, hdd⟩ := get_lt (l := o) (q := i) (by omega)
  obtain ⟨b1, of1, c1, _, _, e1, _, _⟩ := h1.row M s1 hdd
  cases e1
  obtain ⟨b2, of2, c2, _, _, e2, _, _⟩ := h2.row M s2 hdd
  cases e2
  obtain ⟨p11, c11, p12, c12, hbd1, hsd1, hrF1⟩ := h1.rowF M s1 hdd
  obtain ⟨p21, c21, p22, c22, hbd2, hsd2, hrF2⟩ := h2.rowF M s2 hdd
  have hn0 := hn
  refine go 0 ?_
  refine W.regD (by kernel_rfl) #[0, 0, 3, 7, 15, 0, 0, 96, 224, 480, 1023, 2047, 4095, 4095, 16383, 32767, 65535, 4095, 4095, 397311, 921599, 1970175, 4194303, 8388607, 16777215, 33554431, 33554431, 134217727, 268435455, 536870911, 33554431, 33554431, 3254779903, 7549747199, 16139681791, 34359738367, 68719476735, 137438953471, 274877906943, 274877906943, 1099511627775, 2199023255551, 4398046511103, 274877906943, 274877906943, 26663156973567, 61847529062399, 132216273240063, 281474976710655, 562949953421311, 1125899906842623, 2251799813685247, 2251799813685247, 9007199254740991, 18014398509481983, 36028797018963967, 2251799813685247, 2251799813685247, 218424581927469055, 506654958079180799, 1083115710382604287, 2305843009213693951, 4611686018427387903, 9223372036854775807] [(0, false), (1, false), (2, false), (3, false), (4, false), (5, false), (6, false), (7, false), (8, false), (9, false), (10, false), (11, false), (12, false), (13, false), (14, false), (15, false), (16, false), (17, false), (18, false), (19, false), (20, false), (21, false), (22, false), (23, false), (24, false), (25, false), (26, false), (27, false), (28, false), (29, false), (30, false), (31, false), (32, false), (33, false), (34, false), (35, false), (36, false), (37, false), (38, false), (39, false), (40, false), (41, false), (42, false), (43, false), (44, false), (45, false), (46, false), (47, false), (48, false), (49, false), (50, false), (51, false), (52, false), (53, false), (54, false), (55, false), (56, false), (57, false), (58, false), (59, false), (60, false), (61, true), (62, false), (63, false)] (by kernel_rfl) ?_
  intro K wD1 hK hwD1
  have hn := St.drew hn hwD1
  have M := M.drew hwD1
  refine go 0 ?_
  refine x_ia i rfl rfl rfl Try.underlying44 sz61 rfl rfl rfl (by omega) ?_
  refine go 0 ?_
  refine x_ld rfl rfl rfl Try.underlying3 rfl rfl (RowAt.cell (hrF1 M s1) (j := 0) rfl) ?_
  refine go 0 ?_
  refine x_ia i rfl rfl rfl Try.underlying44 sz61 rfl rfl rfl (by omega) ?_
  refine go 0 ?_
  refine x_ld rfl rfl rfl Try.underlying3 rfl rfl (RowAt.cell (hrF2 M s2) (j := 0) rfl) ?_
  refine x_nei false rfl rfl rfl rfl rfl (by simp) ?_
  refine go 0 ?_
  refine x_ia i rfl rfl rfl Try.underlying44 sz61 rfl rfl rfl (by omega) ?_
  refine go 0 ?_
  refine x_ld rfl rfl rfl Try.underlying3 rfl rfl (RowAt.cell (hrF1 M s1) (j := 1) rfl) ?_
  refine go 0 ?_
  refine x_ia i rfl rfl rfl Try.underlying44 sz61 rfl rfl rfl (by omega) ?_
  refine go 0 ?_
  refine x_ld rfl rfl rfl Try.underlying3 rfl rfl (RowAt.cell (hrF2 M s2) (j := 1) rfl) ?_
  refine x_nei false rfl rfl rfl rfl rfl (by simp) ?_
  refine go 0 ?_
  refine x_ia i rfl rfl rfl Try.underlying44 sz61 rfl rfl rfl (by omega) ?_
  refine go 0 ?_
  refine x_ld rfl rfl rfl Try.underlying3 rfl rfl (RowAt.cell (hrF1 M s1) (j := 2) rfl) ?_
  refine go 0 ?_
  refine x_ia i rfl rfl rfl Try.underlying44 sz61 rfl rfl rfl (by omega) ?_
  refine go 0 ?_
  refine x_ld rfl rfl rfl Try.underlying3 rfl rfl (RowAt.cell (hrF2 M s2) (j := 2) rfl) ?_
  refine x_nei false rfl rfl rfl rfl rfl (by simp) ?_
  refine go 0 ?_
  refine x_ia i rfl rfl rfl Try.underlying44 sz61 rfl rfl rfl (by omega) ?_
  refine go 0 ?_
  refine x_ld rfl rfl rfl Try.underlying3 rfl rfl (RowAt.cell (hrF1 M s1) (j := 3) rfl) ?_
  refine go 0 ?_
  refine x_ia i rfl rfl rfl Try.underlying44 sz61 rfl rfl rfl (by omega) ?_
  refine go 0 ?_
  refine x_ld rfl rfl rfl Try.underlying3 rfl rfl (RowAt.cell (hrF2 M s2) (j := 3) rfl) ?_
  refine x_nei false rfl rfl rfl rfl rfl (by simp) ?_
  refine go 0 ?_
  refine x_ia i rfl rfl rfl Try.underlying44 sz61 rfl rfl rfl (by omega) ?_
  refine go 0 ?_
  refine x_ldA [_, _, _, _, _] rfl rfl rfl Try.underlying59 rfl sz59 rfl rfl (RowAt.after (a := [.int .i64 d.who, .int .i64 (d.n : Int), .int .i64 (d.bg : Int), .int .i64 d.en]) (l := [.int .i64 d.r.e, .int .i64 d.r.h, .int .i64 d.r.n, .slice p11 d.r.d.length c11, .slice p12 d.r.l.length c12]) (hrF1 M s1)) ?_
  refine go 0 ?_
  refine x_ia i rfl rfl rfl Try.underlying44 sz61 rfl rfl rfl (by omega) ?_
  refine go 0 ?_
  refine x_ldA [_, _, _, _, _] rfl rfl rfl Try.underlying59 rfl sz59 rfl rfl (RowAt.after (a := [.int .i64 d.who, .int .i64 (d.n : Int), .int .i64 (d.bg : Int), .int .i64 d.en]) (l := [.int .i64 d.r.e, .int .i64 d.r.h, .int .i64 d.r.n, .slice p21 d.r.d.length c21, .slice p22 d.r.l.length c22]) (hrF2 M s2)) ?_
  refine x_call rfl rfl rfl rfl rfl en25 (rsame_c (a := d.r) (b := d.r) (hbd1 _ _ M s1) (hsd1 _ _ M s1) (hbd2 _ _ M s2) (hsd2 _ _ M s2) (hla d (List.mem_of_getElem? hdd))) ?_
  rintro r_ wcall1 ⟨rfl, hn1⟩
  rw [decide_eq_true rfl]
  have hn := St.new hn hn1
  have M := M.new hn1
  refine pnd ?_
  refine go 1 ?_
  refine x_add _ rfl rfl rfl rfl rfl (wadd (by omega) (by omega)) ?_
  refine go 0 ?_
  exact At.back (i + 1) ⟨rfl, rfl, rfl, trivial⟩ ⟨by omega, hn, M⟩ (by first | omega | (simp only; omega) | (simp; done) | (simp; omega))
 ·intro hco2
  refine go 1 ?_
  exact ⟨rfl, hn⟩

end Go.Proofs.Ytebfjdolgchgaaa

namespace Go.Proofs.Ytebfjdolgchgaaa
open Go Go.Fw Go.RowKit Go.Proofs
set_option linter.unusedVariables false
set_option linter.unusedSimpArgs false
set_option maxRecDepth 100000
set_option maxHeartbeats 4000000

-- valise/valiseref20.Changes
theorem rchg_c {w0 : World} {o : OpS} {dv : Value} (hdv : dv.oneCell' = true) : Ret Try.prog 26 #[.agg (opC o dv).toArray] w0 fun r w' => r = .bool (chgO o) ∧ New w0 w' := by
 have M : Sep w0 [] w0 := St.nil w0
 refine Ret.of_W Try.func26 rfl Try.ntmps26 rfl ?_
 refine go 1 ?_
 intro _ _ M
 refine spl 2 6 ?_ ?_
 ·intro hsp1
  refine go 1 ?_
  exact ⟨by unfold chgO; simp [hsp1], M.frm⟩
 ·intro hsp1
  refine spl 2 11 ?_ ?_
  ·intro hsp2
   refine go 1 ?_
   exact ⟨by unfold chgO; simp [hsp2], M.frm⟩
  ·intro hsp2
   refine spl 2 16 ?_ ?_
   ·intro hsp3
    refine go 1 ?_
    exact ⟨by unfold chgO; simp [hsp3], M.frm⟩
   ·intro hsp3
    refine spl 2 21 ?_ ?_
    ·intro hsp4
     refine go 1 ?_
     exact ⟨by unfold chgO; simp [hsp4], M.frm⟩
    ·intro hsp4
     refine spl 2 25 ?_ ?_
     ·intro hsp5
      refine go 2 ?_
      exact ⟨by unfold chgO; simp [hsp5], M.frm⟩
     ·intro hsp5
      refine go 1 ?_
      exact ⟨by unfold chgO; simp [hsp1, hsp2, hsp3, hsp4, hsp5], M.frm⟩

end Go.Proofs.Ytebfjdolgchgaaa

namespace Go.Proofs.Ytebfjdolgchgaaa
open Go Go.Fw Go.RowKit Go.Proofs
set_option linter.unusedVariables false
set_option linter.unusedSimpArgs false
set_option maxRecDepth 100000
set_option maxHeartbeats 4000000

-- (valise/valiseref20.Sys).Step
theorem rstep_c {w00 w0 : World} {X L : List (Nat × Obj)} {u hv kv cv dv : Value} {R : RSy} {who : Int} (M : Sep w00 (X ++ L) w0) (h : SyK w00 L u hv kv cv dv R) (hkl : R.k.length ≤ 400) (hcl : R.c.length ≤ 8) (hsl : R.s ≤ 1000) (hol : R.o.length ≤ 1000) (hcc : ∀ c ∈ R.c, c.st ≤ 3 ∧ c.n ≤ 1000 ∧ ∀ o ∈ c.l, o.d.length ≤ 131072) : Ret Try.prog 15 #[.agg #[u, hv, kv, cv, dv, .int .i64 (R.s : Int)], .int .i64 who] w0 fun r w' => ∃ u' hv' kv' cv' dv' L', r = .tuple #[.agg #[u', hv', kv', cv', dv', .int .i64 ((stepR R who).1.s : Int)], .bool (stepR R who).2] ∧ SyK w00 (L ++ L') u' hv' kv' cv' dv' (stepR R who).1 ∧ Sep w00 (X ++ (L ++ L')) w' := by
 obtain ⟨⟨pu, cu, rfl⟩, ⟨ph, nh, ch, rfl⟩, ⟨pk, ck, rfl⟩, ⟨pc, cc, rfl⟩, ⟨pd, cd, rfl⟩⟩ := h.shapes M (fun y hy => by simp [hy])
 obtain ⟨R0, hR0, hsg, hok⟩ := h.c
 have hRl : R0.length = R.c.length := by rw [← hR0, List.length_map]
 refine Ret.of_W Try.func15 rfl Try.ntmps15 rfl ?_
 refine go 1 ?_
 intro bbx1 _ M
 refine x_alloc [_, _, _, _, _, _] rfl rfl rfl ze46 rfl ?_
 intro bal1 wal1 hbal1 hwal1
 have M : Sep w00 ((bal1, .cells [.slice none 0 0, .slice none 0 0, .slice none 0 0, .slice none 0 0, .slice none 0 0, .int .i64 0].toArray 46 (0, 0)) :: (bbx1, .cells [(.slice pu R.f.length cu), (.slice ph nh ch), (.slice pk R.k.length ck), (.slice pc R.c.length cc), (.slice pd R.o.length cd), .int .i64 (R.s : Int)].toArray 46 (0, 0)) :: (X ++ L)) wal1 := M.acons hbal1 hwal1
 refine ⟨trivial, ?_⟩
 refine go 1 ?_
 refine x_call rfl rfl rfl rfl rfl en19 (rleft_c hR0 (hsg _ _ M (fun y hy => by simp [hy])) (fun x hx => (hok x hx).2)) ?_
 rintro r_ wcall1 ⟨rfl, hn1⟩
 rw [leftC_R]
 have M := M.new hn1
 refine ⟨trivial, ?_⟩
 refine spl 1 15 ?_ ?_
 ·intro hsp1
  have hE := stepR_left0 hsp1
  refine go 2 ?_
  intro _ M
  refine go 1 ?_
  exact ⟨_, _, _, _, _, [], by rw [hE], by rw [hE, List.append_nil]; exact h, by rw [List.append_nil]; exact M.tail.tail⟩
 ·intro hsp1
  obtain ⟨j, c, o, r, rfl, hc, hlc⟩ := stepR_left hsp1
  have hjl := (List.getElem?_eq_some_iff.1 hc).1
  have hcm := List.mem_of_getElem? hc
  obtain ⟨hst3, hn1000, hodl⟩ := hcc c hcm
  have hod := hodl o (by rw [hlc]; exact List.mem_cons_self)
  refine go 1 ?_
  refine x_call rfl rfl rfl rfl rfl en21 (rblocked_c (h.k _ _ M (fun y hy => by simp [hy])) (by omega)) ?_
  rintro r_ wcall2 ⟨rfl, hn2⟩
  have M := M.new hn2
  refine ⟨trivial, ?_⟩
  refine cnd 0 ?_ ?_
  ·intro hco2
   have hE : stepR R (j : Int) = (R, false) := stepR_blk hc hlc hco2
   refine go 2 ?_
   intro _ M
   refine go 1 ?_
   exact ⟨_, _, _, _, _, [], by rw [hE], by rw [hE, List.append_nil]; exact h, by rw [List.append_nil]; exact M.tail.tail⟩
  ·intro hco2
   have hE : stepR R (j : Int) = (stepR' R j c o, true) := stepR_go hc hlc hco2
   refine go 0 ?_
   refine x_bs0 rfl rfl rfl Try.underlying43 sz90 ?_
   intro bb wb hbb hwb
   have M := M.acons hbb hwb
   refine ⟨trivial, ?_⟩
   refine go 0 ?_
   refine x_ld rfl rfl rfl Try.underlying43 rfl rfl (cell_of (M.at_ 2 rfl) rfl) ?_
   refine x_apL (L := [_]) (L0 := (bal1, .cells [.slice none 0 0, .slice none 0 0, .slice none 0 0, .slice none 0 0, .slice none 0 0, .int .i64 0].toArray 46 (0, 0)) :: (bbx1, .cells [(.slice pu R.f.length cu), (.slice ph nh ch), (.slice pk R.k.length ck), (.slice pc R.c.length cc), (.slice pd R.o.length cd), .int .i64 (R.s : Int)].toArray 46 (0, 0)) :: (X ++ L)) (cs := []) (nn := 0) rfl rfl rfl rfl Try.underlying43 sz90 ze90 rfl by90 rfl rfl (.inr ⟨bb, 0, [], _, rfl, rfl, rfl, rfl⟩) M (by simp) ((hsg _ _ M (fun y hy => by simp [hy])).src Try.underlying43 (cRs_one hok.one)) (by omega) (by decide) (by omega) ?_
   intro Lo v6 w6 how M
   rw [Nat.zero_add, List.nil_append] at how
   obtain ⟨p6, c6, rfl⟩ := how.shape
   obtain ⟨bc, c6', rc, Tc, e1, e2, hl2, hl3⟩ := how.resolve_left (fun h => by have := h.2.1; omega)
   cases e1
   subst e2
   have M : Sep w00 ((bal1, .cells [.slice none 0 0, .slice none 0 0, .slice none 0 0, .slice none 0 0, .slice none 0 0, .int .i64 0].toArray 46 (0, 0)) :: (bbx1, .cells [(.slice pu R.f.length cu), (.slice ph nh ch), (.slice pk R.k.length ck), (.slice pc R.c.length cc), (.slice pd R.o.length cd), .int .i64 (R.s : Int)].toArray 46 (0, 0)) :: (bc, .cells (cRs R0 ++ rc).toArray Tc (0, 0)) :: (X ++ L)) w6 := M.perm (perm_c fun p => by simp only [List.countP_append, List.countP_cons, List.countP_nil]; omega)
   refine ⟨trivial, ?_⟩
   refine go 0 ?_
   refine x_st [_] _ rfl rfl rfl sz43 rfl rfl rfl rfl atM rfl rfl rfl ?_
   intro wst3 hwst3
   have M : Sep w00 ((bal1, .cells [.slice none 0 0, .slice none 0 0, .slice none 0 0, .slice none 0 0, .slice none 0 0, .int .i64 0].toArray 46 (0, 0)) :: (bbx1, .cells [(.slice pu R.f.length cu), (.slice ph nh ch), (.slice pk R.k.length ck), (.slice (some ⟨bc, 0, none⟩) R.c.length c6), (.slice pd R.o.length cd), .int .i64 (R.s : Int)].toArray 46 (0, 0)) :: (bc, .cells (cRs R0 ++ rc).toArray Tc (0, 0)) :: (X ++ L)) wst3 := M.put 1 rfl hwst3
   obtain ⟨x, hx⟩ := get_lt (l := R0) (q := j) (by omega)
   obtain ⟨hxo, pl, cl, hxv⟩ := hok x (List.mem_of_getElem? hx)
   have hxc : x.1 = c := by
    have : (R0.map (·.1))[j]? = some x.1 := by rw [List.getElem?_map, hx]; rfl
    rw [hR0, hc] at this
    exact (Option.some.inj this).symm
   obtain ⟨x1, x2⟩ := x
   simp only at hxc hxv hxo
   obtain rfl : c = x1 := hxc.symm
   subst hxv
   have hrowc := cRow (R := R0) (n := R.c.length) (cap := c6) (.inr ⟨bc, 0, c6, _, Tc, (0, 0), rfl, by rw [List.length_append] at hl3; omega, M.at_ 2 rfl, by simp [← hl2], hl2⟩) hx
   refine ⟨trivial, ?_⟩
   refine go 1 ?_
   refine x_ia j rfl rfl rfl Try.underlying43 sz90 rfl rfl rfl (by omega) ?_
   refine x_ldA [_, _, _, _, _] rfl rfl rfl Try.underlying90 rfl sz90 rfl rfl hrowc ?_
   refine go 1 ?_
   intro bal2 _ M
   refine x_st [_, _, _, _, _] _ rfl rfl rfl sz90 rfl rfl rfl rfl atM rfl rfl rfl ?_
   intro wst4 hwst4
   have M : Sep w00 ((bal2, .cells [(.slice pl c.l.length cl), .int .i64 ((c.st : Nat) : Int), .int .i64 ((c.n : Nat) : Int), .int .i64 ((c.bg : Nat) : Int), strV c.key].toArray 90 (0, 0)) :: (bal1, .cells [.slice none 0 0, .slice none 0 0, .slice none 0 0, .slice none 0 0, .slice none 0 0, .int .i64 0].toArray 46 (0, 0)) :: (bbx1, .cells [(.slice pu R.f.length cu), (.slice ph nh ch), (.slice pk R.k.length ck), (.slice (some ⟨bc, 0, none⟩) R.c.length c6), (.slice pd R.o.length cd), .int .i64 (R.s : Int)].toArray 46 (0, 0)) :: (bc, .cells (cRs R0 ++ rc).toArray Tc (0, 0)) :: (X ++ L)) wst4 := M.put 0 rfl hwst4
   obtain ⟨b7, off7, pd3, cd3, e7, _, hrowo, hbo⟩ := hxo.at_ M (fun y hy => by simp [hy]) (show c.l[0]? = some o by rw [hlc]; rfl)
   cases e7
   refine ⟨trivial, ?_⟩
   refine go 1 ?_
   refine x_ia 0 rfl rfl rfl Try.underlying62 sz66 rfl rfl rfl (by rw [hlc]; simp) ?_
   refine x_ldA [_, _, _, _, _, _, _, _, _] rfl rfl rfl Try.underlying66 rfl sz66 rfl rfl hrowo ?_
   refine go 1 ?_
   intro bal3 _ M
   refine x_st [_, _, _, _, _, _, _, _, _] _ rfl rfl rfl sz66 rfl rfl rfl rfl atM rfl rfl rfl ?_
   intro wst5 hwst5
   have M : Sep w00 ((bal3, .cells (opC o (.slice pd3 o.d.length cd3)).toArray 66 (0, 0)) :: (bal2, .cells [(.slice (some ⟨b7, off7, none⟩) c.l.length cl), .int .i64 ((c.st : Nat) : Int), .int .i64 ((c.n : Nat) : Int), .int .i64 ((c.bg : Nat) : Int), strV c.key].toArray 90 (0, 0)) :: (bal1, .cells [.slice none 0 0, .slice none 0 0, .slice none 0 0, .slice none 0 0, .slice none 0 0, .int .i64 0].toArray 46 (0, 0)) :: (bbx1, .cells [(.slice pu R.f.length cu), (.slice ph nh ch), (.slice pk R.k.length ck), (.slice (some ⟨bc, 0, none⟩) R.c.length c6), (.slice pd R.o.length cd), .int .i64 (R.s : Int)].toArray 46 (0, 0)) :: (bc, .cells (cRs R0 ++ rc).toArray Tc (0, 0)) :: (X ++ L)) wst5 := M.put 0 rfl hwst5
   have M : Sep w00 ((bal3, .cells (opC o (.slice pd3 o.d.length cd3)).toArray 66 (0, 0)) :: (bal2, .cells [(.slice (some ⟨b7, off7, none⟩) c.l.length cl), .int .i64 ((c.st : Nat) : Int), .int .i64 ((c.n : Nat) : Int), .int .i64 ((c.bg : Nat) : Int), strV c.key].toArray 90 (0, 0)) :: (bbx1, .cells [(.slice pu R.f.length cu), (.slice ph nh ch), (.slice pk R.k.length ck), (.slice (some ⟨bc, 0, none⟩) R.c.length c6), (.slice pd R.o.length cd), .int .i64 (R.s : Int)].toArray 46 (0, 0)) :: (bal1, .cells [.slice none 0 0, .slice none 0 0, .slice none 0 0, .slice none 0 0, .slice none 0 0, .int .i64 0].toArray 46 (0, 0)) :: (bc, .cells (cRs R0 ++ rc).toArray Tc (0, 0)) :: (X ++ L)) wst5 := M.perm (perm_c fun p => by simp only [List.countP_append, List.countP_cons, List.countP_nil]; omega)
   have hF0 := h.toF (L' := L) (fun y hy => hy)
   refine ⟨trivial, ?_⟩
   refine gs 0 0 ?_
   refine W.seqC (fun F' w' => ∃ pu1 nu1 cu1 ph1 nh1 ch1 pk1 nk1 ck1 pd1 nd1 cd1 pl1 cl1 z1 c1 L1 Rn, F' = [(1, .int .i64 ((j : Nat) : Int)), (2, ptr bbx1), (4, ptr bal1), (6, ptr bal2)] ∧ stepR' R j c o = Rn ∧ SyF w00 (L ++ L1) (.slice pu1 nu1 cu1) (.slice ph1 nh1 ch1) (.slice pk1 nk1 ck1) (.slice pd1 nd1 cd1) Rn.f Rn.h Rn.k Rn.o ∧ OpsK w00 (L ++ L1) (.slice pl1 (c1 : RC).l.length cl1) c1.l ∧ Rn.c = R.c.set j c1 ∧ Rn.s = R.s + 1 ∧ ((c1.st : Nat) : Int) = z1 + 1 ∧ c1.st ≤ 3 ∧ Sep w00 ((bal2, .cells [(.slice pl1 c1.l.length cl1), .int .i64 z1, .int .i64 ((c1.n : Nat) : Int), .int .i64 ((c1.bg : Nat) : Int), strV c1.key].toArray 90 (0, 0)) :: (bbx1, .cells [(.slice pu1 nu1 cu1), (.slice ph1 nh1 ch1), (.slice pk1 nk1 ck1), (.slice (some ⟨bc, 0, none⟩) R.c.length c6), (.slice pd1 nd1 cd1), .int .i64 (R.s : Int)].toArray 46 (0, 0)) :: (bal1, .cells [.slice none 0 0, .slice none 0 0, .slice none 0 0, .slice none 0 0, .slice none 0 0, .int .i64 0].toArray 46 (0, 0)) :: (bc, .cells (cRs R0 ++ rc).toArray Tc (0, 0)) :: (X ++ (L ++ L1))) w') ?_ ?_
   ·refine cnd 2 ?_ ?_
    ·intro hco3
     have hst0 : c.st = 0 := by omega
     have hRn : stepR' R j c o = { R with k := (askR R.k j [] (chgO o)).1, c := R.c.set j { c with bg := R.s, st := 1 }, s := R.s + 1 } := by unfold stepR'; rw [if_pos hst0]
     refine go 0 ?_
     refine W.regD (by kernel_rfl) #[0, 1, 0, 0, 8, 31, 63, 127, 127, 127, 255, 1279] [(0, false), (1, false), (2, false), (3, false), (4, true), (5, true), (6, false), (7, false), (8, false), (9, false), (10, false), (11, true)] (by kernel_rfl) ?_
     intro K wD1 hK hwD1
     have M := M.drew hwD1
     refine go 0 ?_
     refine x_ldA [_] rfl rfl rfl Try.underlying42 rfl sz42 rfl rfl ⟨_, _, _, M.at_ 2 rfl, rfl⟩ ?_
     refine go 0 ?_
     refine x_ldA [_, _, _, _, _, _, _, _, _] rfl rfl rfl Try.underlying66 rfl sz66 rfl rfl ⟨_, _, _, M.at_ 0 rfl, rfl⟩ ?_
     refine x_call rfl rfl rfl rfl rfl en26 (rchg_c rfl) ?_
     rintro r_ w3_ ⟨rfl, hn3⟩
     have M := M.new hn3
     refine ⟨⟨.inl (by kernel_rfl), (by first | exact .inr ⟨_, _, _, atM, rfl⟩ | exact .inr ⟨_, _, _, M.at_ 2 rfl, rfl⟩), trivial⟩, ?_⟩
     refine x_call rfl rfl rfl rfl rfl en31 (ask18_c (X := _ :: _ :: _ :: _ :: _ :: X) M h.k (by omega) (by omega) (by omega)) ?_
     rintro r_ w4_ ⟨pk1, ck1, L1, b1, e1, rfl, hk1, M⟩
     have M : Sep w00 ((bal3, .cells (opC o (.slice pd3 o.d.length cd3)).toArray 66 (0, 0)) :: (bal2, .cells [(.slice (some ⟨b7, off7, none⟩) c.l.length cl), .int .i64 ((c.st : Nat) : Int), .int .i64 ((c.n : Nat) : Int), .int .i64 ((c.bg : Nat) : Int), strV c.key].toArray 90 (0, 0)) :: (bbx1, .cells [(.slice pu R.f.length cu), (.slice ph nh ch), (.slice pk R.k.length ck), (.slice (some ⟨bc, 0, none⟩) R.c.length c6), (.slice pd R.o.length cd), .int .i64 (R.s : Int)].toArray 46 (0, 0)) :: (bal1, .cells [.slice none 0 0, .slice none 0 0, .slice none 0 0, .slice none 0 0, .slice none 0 0, .int .i64 0].toArray 46 (0, 0)) :: (bc, .cells (cRs R0 ++ rc).toArray Tc (0, 0)) :: (X ++ (L ++ L1))) w4_ := M
     refine pnd ?_
     refine go 0 ?_
     refine x_st [_] _ rfl rfl rfl sz42 rfl rfl rfl rfl atM rfl rfl rfl ?_
     intro wst6 hwst6
     have M : Sep w00 ((bal3, .cells (opC o (.slice pd3 o.d.length cd3)).toArray 66 (0, 0)) :: (bal2, .cells [(.slice (some ⟨b7, off7, none⟩) c.l.length cl), .int .i64 ((c.st : Nat) : Int), .int .i64 ((c.n : Nat) : Int), .int .i64 ((c.bg : Nat) : Int), strV c.key].toArray 90 (0, 0)) :: (bbx1, .cells [(.slice pu R.f.length cu), (.slice ph nh ch), (.slice pk1 (askR R.k (j : Int) [] (chgO o)).1.length ck1), (.slice (some ⟨bc, 0, none⟩) R.c.length c6), (.slice pd R.o.length cd), .int .i64 (R.s : Int)].toArray 46 (0, 0)) :: (bal1, .cells [.slice none 0 0, .slice none 0 0, .slice none 0 0, .slice none 0 0, .slice none 0 0, .int .i64 0].toArray 46 (0, 0)) :: (bc, .cells (cRs R0 ++ rc).toArray Tc (0, 0)) :: (X ++ (L ++ L1))) wst6 := M.put 2 rfl hwst6
     refine pnd ?_
     refine go 1 ?_
     refine x_st [_] _ rfl rfl rfl sz3 rfl rfl rfl rfl atM rfl rfl rfl ?_
     intro wst7 hwst7
     have M : Sep w00 ((bal3, .cells (opC o (.slice pd3 o.d.length cd3)).toArray 66 (0, 0)) :: (bal2, .cells [(.slice (some ⟨b7, off7, none⟩) c.l.length cl), .int .i64 ((c.st : Nat) : Int), .int .i64 ((c.n : Nat) : Int), .int .i64 ((R.s : Nat) : Int), strV c.key].toArray 90 (0, 0)) :: (bbx1, .cells [(.slice pu R.f.length cu), (.slice ph nh ch), (.slice pk1 (askR R.k (j : Int) [] (chgO o)).1.length ck1), (.slice (some ⟨bc, 0, none⟩) R.c.length c6), (.slice pd R.o.length cd), .int .i64 (R.s : Int)].toArray 46 (0, 0)) :: (bal1, .cells [.slice none 0 0, .slice none 0 0, .slice none 0 0, .slice none 0 0, .slice none 0 0, .int .i64 0].toArray 46 (0, 0)) :: (bc, .cells (cRs R0 ++ rc).toArray Tc (0, 0)) :: (X ++ (L ++ L1))) wst7 := M.put 1 rfl hwst7
     refine ⟨trivial, ?_⟩
     refine go 0 ?_
     refine At.sub [(1, _), (2, _), (4, _), (6, _)] ⟨rfl, rfl, rfl, rfl, trivial⟩ ?_
     refine At.cut_n ?_
     exact ⟨_, _, _, _, _, _, _, _, _, _, _, _, (some ⟨b7, off7, none⟩), cl, ((c.st : Nat) : Int), { c with bg := R.s, st := 1 }, L1, _, rfl, hRn, (hF0.setK (fun y hy => List.mem_append_left _ hy) hk1), (hxo.mono (fun y hy => List.mem_append_left _ hy)), rfl, rfl, by simp only; omega, by simp only; omega, M.tail⟩
    ·intro hco3
     refine cnd 1 ?_ ?_
     ·intro hco4
      have hst1 : c.st = 1 := by omega
      obtain ⟨hz, hhz, hOz, hIz⟩ := h.hs
      have hp120 := hIz.pathLen (who := (j : Int)) (n := o.h)
      rw [hhz] at hp120
      refine go 0 ?_
      refine x_st [_] _ rfl rfl rfl sz9 rfl rfl rfl rfl atM rfl rfl rfl ?_
      intro wst8 hwst8
      have M : Sep w00 ((bal3, .cells (opC o (.slice pd3 o.d.length cd3)).toArray 66 (0, 0)) :: (bal2, .cells [(.slice (some ⟨b7, off7, none⟩) c.l.length cl), .int .i64 ((c.st : Nat) : Int), .int .i64 ((c.n : Nat) : Int), .int .i64 ((c.bg : Nat) : Int), strV ([] : List UInt8)].toArray 90 (0, 0)) :: (bbx1, .cells [(.slice pu R.f.length cu), (.slice ph nh ch), (.slice pk R.k.length ck), (.slice (some ⟨bc, 0, none⟩) R.c.length c6), (.slice pd R.o.length cd), .int .i64 (R.s : Int)].toArray 46 (0, 0)) :: (bal1, .cells [.slice none 0 0, .slice none 0 0, .slice none 0 0, .slice none 0 0, .slice none 0 0, .int .i64 0].toArray 46 (0, 0)) :: (bc, .cells (cRs R0 ++ rc).toArray Tc (0, 0)) :: (X ++ L)) wst8 := M.put 1 rfl hwst8
      refine ⟨trivial, ?_⟩
      refine go 0 ?_
      refine x_ld rfl rfl rfl Try.underlying3 rfl rfl (cell_of (M.at_ 0 rfl) rfl) ?_
      refine spl 1 128 ?_ ?_
      ·intro hsp2
       have hlk : lockO o = true := by unfold lockO; simp [hsp2]
       have hRn : stepR' R j c o = { R with k := (askR R.k (j : Int) (47 :: fileP R.h (j : Int) o.h) (!decide (o.k = 2))).1, c := R.c.set j { c with key := 47 :: (fileP R.h (j : Int) o.h), st := 2 }, s := R.s + 1 } := by unfold stepR'; rw [if_neg (by omega), if_pos hst1, if_pos hlk]
       refine go 0 ?_
       refine x_ldA [_, _] rfl rfl rfl Try.underlying36 rfl sz36 rfl rfl ⟨_, _, _, M.at_ 2 rfl, rfl⟩ ?_
       refine go 0 ?_
       refine x_ld rfl rfl rfl Try.underlying3 rfl rfl (cell_of (M.at_ 0 rfl) rfl) ?_
       refine x_call rfl rfl rfl rfl rfl en32 (fsfile_c (hOz _ _ M (fun y hy => by simp [hy])) (by have := hIz.hlen; omega)) ?_
       rintro r_ w5_ ⟨rfl, hnf⟩
       rw [hhz]
       have M := M.new hnf
       have h47 : ([47] : List UInt8).length + (fileP R.h (j : Int) o.h).length ≤ 9223372036854775807 := by simp only [List.length_cons, List.length_nil]; omega
       refine ⟨trivial, ?_⟩
       refine x_catS rfl rfl rfl rfl rfl (by assumption) ?_
       refine go 0 ?_
       refine x_st [_] _ rfl rfl rfl sz9 rfl rfl rfl rfl atM rfl rfl rfl ?_
       intro wst9 hwst9
       have M : Sep w00 ((bal3, .cells (opC o (.slice pd3 o.d.length cd3)).toArray 66 (0, 0)) :: (bal2, .cells [(.slice (some ⟨b7, off7, none⟩) c.l.length cl), .int .i64 ((c.st : Nat) : Int), .int .i64 ((c.n : Nat) : Int), .int .i64 ((c.bg : Nat) : Int), strV (47 :: (fileP R.h (j : Int) o.h) : List UInt8)].toArray 90 (0, 0)) :: (bbx1, .cells [(.slice pu R.f.length cu), (.slice ph nh ch), (.slice pk R.k.length ck), (.slice (some ⟨bc, 0, none⟩) R.c.length c6), (.slice pd R.o.length cd), .int .i64 (R.s : Int)].toArray 46 (0, 0)) :: (bal1, .cells [.slice none 0 0, .slice none 0 0, .slice none 0 0, .slice none 0 0, .slice none 0 0, .int .i64 0].toArray 46 (0, 0)) :: (bc, .cells (cRs R0 ++ rc).toArray Tc (0, 0)) :: (X ++ L)) wst9 := M.put 1 rfl hwst9
       refine ⟨trivial, ?_⟩
       refine go 0 ?_
       refine x_ldA [_] rfl rfl rfl Try.underlying42 rfl sz42 rfl rfl ⟨_, _, _, M.at_ 2 rfl, rfl⟩ ?_
       refine go 0 ?_
       refine x_ld rfl rfl rfl Try.underlying9 rfl rfl (cell_of (M.at_ 1 rfl) rfl) ?_
       refine go 0 ?_
       refine x_ld rfl rfl rfl Try.underlying3 rfl rfl (cell_of (M.at_ 0 rfl) rfl) ?_
       refine x_nei (!decide (o.k = 2)) rfl rfl rfl rfl rfl rfl ?_
       refine x_call rfl rfl rfl rfl rfl en31 (ask18_c (key := 47 :: (fileP R.h (j : Int) o.h)) (X := _ :: _ :: _ :: _ :: _ :: X) M h.k (by omega) (by omega) (by omega)) ?_
       rintro r_ w6_ ⟨pk1, ck1, L1, b1, e1, rfl, hk1, M⟩
       have M : Sep w00 ((bal3, .cells (opC o (.slice pd3 o.d.length cd3)).toArray 66 (0, 0)) :: (bal2, .cells [(.slice (some ⟨b7, off7, none⟩) c.l.length cl), .int .i64 ((c.st : Nat) : Int), .int .i64 ((c.n : Nat) : Int), .int .i64 ((c.bg : Nat) : Int), strV (47 :: (fileP R.h (j : Int) o.h) : List UInt8)].toArray 90 (0, 0)) :: (bbx1, .cells [(.slice pu R.f.length cu), (.slice ph nh ch), (.slice pk R.k.length ck), (.slice (some ⟨bc, 0, none⟩) R.c.length c6), (.slice pd R.o.length cd), .int .i64 (R.s : Int)].toArray 46 (0, 0)) :: (bal1, .cells [.slice none 0 0, .slice none 0 0, .slice none 0 0, .slice none 0 0, .slice none 0 0, .int .i64 0].toArray 46 (0, 0)) :: (bc, .cells (cRs R0 ++ rc).toArray Tc (0, 0)) :: (X ++ (L ++ L1))) w6_ := M
       refine ⟨trivial, ?_⟩
       refine go 0 ?_
       refine x_st [_] _ rfl rfl rfl sz42 rfl rfl rfl rfl atM rfl rfl rfl ?_
       intro wst10 hwst10
       have M : Sep w00 ((bal3, .cells (opC o (.slice pd3 o.d.length cd3)).toArray 66 (0, 0)) :: (bal2, .cells [(.slice (some ⟨b7, off7, none⟩) c.l.length cl), .int .i64 ((c.st : Nat) : Int), .int .i64 ((c.n : Nat) : Int), .int .i64 ((c.bg : Nat) : Int), strV (47 :: (fileP R.h (j : Int) o.h) : List UInt8)].toArray 90 (0, 0)) :: (bbx1, .cells [(.slice pu R.f.length cu), (.slice ph nh ch), (.slice pk1 (askR R.k (j : Int) (47 :: fileP R.h (j : Int) o.h) (!decide (o.k = 2))).1.length ck1), (.slice (some ⟨bc, 0, none⟩) R.c.length c6), (.slice pd R.o.length cd), .int .i64 (R.s : Int)].toArray 46 (0, 0)) :: (bal1, .cells [.slice none 0 0, .slice none 0 0, .slice none 0 0, .slice none 0 0, .slice none 0 0, .int .i64 0].toArray 46 (0, 0)) :: (bc, .cells (cRs R0 ++ rc).toArray Tc (0, 0)) :: (X ++ (L ++ L1))) wst10 := M.put 2 rfl hwst10
       refine ⟨trivial, ?_⟩
       refine go 0 ?_
       refine At.sub [(1, _), (2, _), (4, _), (6, _)] ⟨rfl, rfl, rfl, rfl, trivial⟩ ?_
       refine At.cut_n ?_
       exact ⟨_, _, _, _, _, _, _, _, _, _, _, _, (some ⟨b7, off7, none⟩), cl, ((c.st : Nat) : Int), { c with key := 47 :: (fileP R.h (j : Int) o.h), st := 2 }, L1, _, rfl, hRn, (hF0.setK (fun y hy => List.mem_append_left _ hy) hk1), (hxo.mono (fun y hy => List.mem_append_left _ hy)), rfl, rfl, by simp only; omega, by simp only; omega, M.tail⟩
      ·intro hsp2
       refine go 0 ?_
       refine x_ld rfl rfl rfl Try.underlying3 rfl rfl (cell_of (M.at_ 0 rfl) rfl) ?_
       refine spl 1 133 ?_ ?_
       ·intro hsp3
        have hlk : lockO o = true := by unfold lockO; simp [hsp3]
        have hRn : stepR' R j c o = { R with k := (askR R.k (j : Int) (47 :: fileP R.h (j : Int) o.h) (!decide (o.k = 2))).1, c := R.c.set j { c with key := 47 :: (fileP R.h (j : Int) o.h), st := 2 }, s := R.s + 1 } := by unfold stepR'; rw [if_neg (by omega), if_pos hst1, if_pos hlk]
        refine go 0 ?_
        refine x_ldA [_, _] rfl rfl rfl Try.underlying36 rfl sz36 rfl rfl ⟨_, _, _, M.at_ 2 rfl, rfl⟩ ?_
        refine go 0 ?_
        refine x_ld rfl rfl rfl Try.underlying3 rfl rfl (cell_of (M.at_ 0 rfl) rfl) ?_
        refine x_call rfl rfl rfl rfl rfl en32 (fsfile_c (hOz _ _ M (fun y hy => by simp [hy])) (by have := hIz.hlen; omega)) ?_
        rintro r_ w7_ ⟨rfl, hnf⟩
        rw [hhz]
        have M := M.new hnf
        have h47 : ([47] : List UInt8).length + (fileP R.h (j : Int) o.h).length ≤ 9223372036854775807 := by simp only [List.length_cons, List.length_nil]; omega
        refine ⟨trivial, ?_⟩
        refine x_catS rfl rfl rfl rfl rfl (by assumption) ?_
        refine go 0 ?_
        refine x_st [_] _ rfl rfl rfl sz9 rfl rfl rfl rfl atM rfl rfl rfl ?_
        intro wst11 hwst11
        have M : Sep w00 ((bal3, .cells (opC o (.slice pd3 o.d.length cd3)).toArray 66 (0, 0)) :: (bal2, .cells [(.slice (some ⟨b7, off7, none⟩) c.l.length cl), .int .i64 ((c.st : Nat) : Int), .int .i64 ((c.n : Nat) : Int), .int .i64 ((c.bg : Nat) : Int), strV (47 :: (fileP R.h (j : Int) o.h) : List UInt8)].toArray 90 (0, 0)) :: (bbx1, .cells [(.slice pu R.f.length cu), (.slice ph nh ch), (.slice pk R.k.length ck), (.slice (some ⟨bc, 0, none⟩) R.c.length c6), (.slice pd R.o.length cd), .int .i64 (R.s : Int)].toArray 46 (0, 0)) :: (bal1, .cells [.slice none 0 0, .slice none 0 0, .slice none 0 0, .slice none 0 0, .slice none 0 0, .int .i64 0].toArray 46 (0, 0)) :: (bc, .cells (cRs R0 ++ rc).toArray Tc (0, 0)) :: (X ++ L)) wst11 := M.put 1 rfl hwst11
        refine ⟨trivial, ?_⟩
        refine go 0 ?_
        refine x_ldA [_] rfl rfl rfl Try.underlying42 rfl sz42 rfl rfl ⟨_, _, _, M.at_ 2 rfl, rfl⟩ ?_
        refine go 0 ?_
        refine x_ld rfl rfl rfl Try.underlying9 rfl rfl (cell_of (M.at_ 1 rfl) rfl) ?_
        refine go 0 ?_
        refine x_ld rfl rfl rfl Try.underlying3 rfl rfl (cell_of (M.at_ 0 rfl) rfl) ?_
        refine x_nei (!decide (o.k = 2)) rfl rfl rfl rfl rfl rfl ?_
        refine x_call rfl rfl rfl rfl rfl en31 (ask18_c (key := 47 :: (fileP R.h (j : Int) o.h)) (X := _ :: _ :: _ :: _ :: _ :: X) M h.k (by omega) (by omega) (by omega)) ?_
        rintro r_ w8_ ⟨pk1, ck1, L1, b1, e1, rfl, hk1, M⟩
        have M : Sep w00 ((bal3, .cells (opC o (.slice pd3 o.d.length cd3)).toArray 66 (0, 0)) :: (bal2, .cells [(.slice (some ⟨b7, off7, none⟩) c.l.length cl), .int .i64 ((c.st : Nat) : Int), .int .i64 ((c.n : Nat) : Int), .int .i64 ((c.bg : Nat) : Int), strV (47 :: (fileP R.h (j : Int) o.h) : List UInt8)].toArray 90 (0, 0)) :: (bbx1, .cells [(.slice pu R.f.length cu), (.slice ph nh ch), (.slice pk R.k.length ck), (.slice (some ⟨bc, 0, none⟩) R.c.length c6), (.slice pd R.o.length cd), .int .i64 (R.s : Int)].toArray 46 (0, 0)) :: (bal1, .cells [.slice none 0 0, .slice none 0 0, .slice none 0 0, .slice none 0 0, .slice none 0 0, .int .i64 0].toArray 46 (0, 0)) :: (bc, .cells (cRs R0 ++ rc).toArray Tc (0, 0)) :: (X ++ (L ++ L1))) w8_ := M
        refine ⟨trivial, ?_⟩
        refine go 0 ?_
        refine x_st [_] _ rfl rfl rfl sz42 rfl rfl rfl rfl atM rfl rfl rfl ?_
        intro wst12 hwst12
        have M : Sep w00 ((bal3, .cells (opC o (.slice pd3 o.d.length cd3)).toArray 66 (0, 0)) :: (bal2, .cells [(.slice (some ⟨b7, off7, none⟩) c.l.length cl), .int .i64 ((c.st : Nat) : Int), .int .i64 ((c.n : Nat) : Int), .int .i64 ((c.bg : Nat) : Int), strV (47 :: (fileP R.h (j : Int) o.h) : List UInt8)].toArray 90 (0, 0)) :: (bbx1, .cells [(.slice pu R.f.length cu), (.slice ph nh ch), (.slice pk1 (askR R.k (j : Int) (47 :: fileP R.h (j : Int) o.h) (!decide (o.k = 2))).1.length ck1), (.slice (some ⟨bc, 0, none⟩) R.c.length c6), (.slice pd R.o.length cd), .int .i64 (R.s : Int)].toArray 46 (0, 0)) :: (bal1, .cells [.slice none 0 0, .slice none 0 0, .slice none 0 0, .slice none 0 0, .slice none 0 0, .int .i64 0].toArray 46 (0, 0)) :: (bc, .cells (cRs R0 ++ rc).toArray Tc (0, 0)) :: (X ++ (L ++ L1))) wst12 := M.put 2 rfl hwst12
        refine ⟨trivial, ?_⟩
        refine go 0 ?_
        refine At.sub [(1, _), (2, _), (4, _), (6, _)] ⟨rfl, rfl, rfl, rfl, trivial⟩ ?_
        refine At.cut_n ?_
        exact ⟨_, _, _, _, _, _, _, _, _, _, _, _, (some ⟨b7, off7, none⟩), cl, ((c.st : Nat) : Int), { c with key := 47 :: (fileP R.h (j : Int) o.h), st := 2 }, L1, _, rfl, hRn, (hF0.setK (fun y hy => List.mem_append_left _ hy) hk1), (hxo.mono (fun y hy => List.mem_append_left _ hy)), rfl, rfl, by simp only; omega, by simp only; omega, M.tail⟩
       ·intro hsp3
        refine go 0 ?_
        refine x_ld rfl rfl rfl Try.underlying3 rfl rfl (cell_of (M.at_ 0 rfl) rfl) ?_
        refine cnd 1 ?_ ?_
        ·intro hco7
         have hlk : lockO o = true := by unfold lockO; simp [hco7]
         have hRn : stepR' R j c o = { R with k := (askR R.k (j : Int) (47 :: fileP R.h (j : Int) o.h) (!decide (o.k = 2))).1, c := R.c.set j { c with key := 47 :: (fileP R.h (j : Int) o.h), st := 2 }, s := R.s + 1 } := by unfold stepR'; rw [if_neg (by omega), if_pos hst1, if_pos hlk]
         refine go 0 ?_
         refine x_ldA [_, _] rfl rfl rfl Try.underlying36 rfl sz36 rfl rfl ⟨_, _, _, M.at_ 2 rfl, rfl⟩ ?_
         refine go 0 ?_
         refine x_ld rfl rfl rfl Try.underlying3 rfl rfl (cell_of (M.at_ 0 rfl) rfl) ?_
         refine x_call rfl rfl rfl rfl rfl en32 (fsfile_c (hOz _ _ M (fun y hy => by simp [hy])) (by have := hIz.hlen; omega)) ?_
         rintro r_ w9_ ⟨rfl, hnf⟩
         rw [hhz]
         have M := M.new hnf
         have h47 : ([47] : List UInt8).length + (fileP R.h (j : Int) o.h).length ≤ 9223372036854775807 := by simp only [List.length_cons, List.length_nil]; omega
         refine ⟨trivial, ?_⟩
         refine x_catS rfl rfl rfl rfl rfl (by assumption) ?_
         refine go 0 ?_
         refine x_st [_] _ rfl rfl rfl sz9 rfl rfl rfl rfl atM rfl rfl rfl ?_
         intro wst13 hwst13
         have M : Sep w00 ((bal3, .cells (opC o (.slice pd3 o.d.length cd3)).toArray 66 (0, 0)) :: (bal2, .cells [(.slice (some ⟨b7, off7, none⟩) c.l.length cl), .int .i64 ((c.st : Nat) : Int), .int .i64 ((c.n : Nat) : Int), .int .i64 ((c.bg : Nat) : Int), strV (47 :: (fileP R.h (j : Int) o.h) : List UInt8)].toArray 90 (0, 0)) :: (bbx1, .cells [(.slice pu R.f.length cu), (.slice ph nh ch), (.slice pk R.k.length ck), (.slice (some ⟨bc, 0, none⟩) R.c.length c6), (.slice pd R.o.length cd), .int .i64 (R.s : Int)].toArray 46 (0, 0)) :: (bal1, .cells [.slice none 0 0, .slice none 0 0, .slice none 0 0, .slice none 0 0, .slice none 0 0, .int .i64 0].toArray 46 (0, 0)) :: (bc, .cells (cRs R0 ++ rc).toArray Tc (0, 0)) :: (X ++ L)) wst13 := M.put 1 rfl hwst13
         refine ⟨trivial, ?_⟩
         refine go 0 ?_
         refine x_ldA [_] rfl rfl rfl Try.underlying42 rfl sz42 rfl rfl ⟨_, _, _, M.at_ 2 rfl, rfl⟩ ?_
         refine go 0 ?_
         refine x_ld rfl rfl rfl Try.underlying9 rfl rfl (cell_of (M.at_ 1 rfl) rfl) ?_
         refine go 0 ?_
         refine x_ld rfl rfl rfl Try.underlying3 rfl rfl (cell_of (M.at_ 0 rfl) rfl) ?_
         refine x_nei (!decide (o.k = 2)) rfl rfl rfl rfl rfl rfl ?_
         refine x_call rfl rfl rfl rfl rfl en31 (ask18_c (key := 47 :: (fileP R.h (j : Int) o.h)) (X := _ :: _ :: _ :: _ :: _ :: X) M h.k (by omega) (by omega) (by omega)) ?_
         rintro r_ w10_ ⟨pk1, ck1, L1, b1, e1, rfl, hk1, M⟩
         have M : Sep w00 ((bal3, .cells (opC o (.slice pd3 o.d.length cd3)).toArray 66 (0, 0)) :: (bal2, .cells [(.slice (some ⟨b7, off7, none⟩) c.l.length cl), .int .i64 ((c.st : Nat) : Int), .int .i64 ((c.n : Nat) : Int), .int .i64 ((c.bg : Nat) : Int), strV (47 :: (fileP R.h (j : Int) o.h) : List UInt8)].toArray 90 (0, 0)) :: (bbx1, .cells [(.slice pu R.f.length cu), (.slice ph nh ch), (.slice pk R.k.length ck), (.slice (some ⟨bc, 0, none⟩) R.c.length c6), (.slice pd R.o.length cd), .int .i64 (R.s : Int)].toArray 46 (0, 0)) :: (bal1, .cells [.slice none 0 0, .slice none 0 0, .slice none 0 0, .slice none 0 0, .slice none 0 0, .int .i64 0].toArray 46 (0, 0)) :: (bc, .cells (cRs R0 ++ rc).toArray Tc (0, 0)) :: (X ++ (L ++ L1))) w10_ := M
         refine ⟨trivial, ?_⟩
         refine go 0 ?_
         refine x_st [_] _ rfl rfl rfl sz42 rfl rfl rfl rfl atM rfl rfl rfl ?_
         intro wst14 hwst14
         have M : Sep w00 ((bal3, .cells (opC o (.slice pd3 o.d.length cd3)).toArray 66 (0, 0)) :: (bal2, .cells [(.slice (some ⟨b7, off7, none⟩) c.l.length cl), .int .i64 ((c.st : Nat) : Int), .int .i64 ((c.n : Nat) : Int), .int .i64 ((c.bg : Nat) : Int), strV (47 :: (fileP R.h (j : Int) o.h) : List UInt8)].toArray 90 (0, 0)) :: (bbx1, .cells [(.slice pu R.f.length cu), (.slice ph nh ch), (.slice pk1 (askR R.k (j : Int) (47 :: fileP R.h (j : Int) o.h) (!decide (o.k = 2))).1.length ck1), (.slice (some ⟨bc, 0, none⟩) R.c.length c6), (.slice pd R.o.length cd), .int .i64 (R.s : Int)].toArray 46 (0, 0)) :: (bal1, .cells [.slice none 0 0, .slice none 0 0, .slice none 0 0, .slice none 0 0, .slice none 0 0, .int .i64 0].toArray 46 (0, 0)) :: (bc, .cells (cRs R0 ++ rc).toArray Tc (0, 0)) :: (X ++ (L ++ L1))) wst14 := M.put 2 rfl hwst14
         refine ⟨trivial, ?_⟩
         refine go 0 ?_
         refine At.sub [(1, _), (2, _), (4, _), (6, _)] ⟨rfl, rfl, rfl, rfl, trivial⟩ ?_
         refine At.cut_n ?_
         exact ⟨_, _, _, _, _, _, _, _, _, _, _, _, (some ⟨b7, off7, none⟩), cl, ((c.st : Nat) : Int), { c with key := 47 :: (fileP R.h (j : Int) o.h), st := 2 }, L1, _, rfl, hRn, (hF0.setK (fun y hy => List.mem_append_left _ hy) hk1), (hxo.mono (fun y hy => List.mem_append_left _ hy)), rfl, rfl, by simp only; omega, by simp only; omega, M.tail⟩
        ·intro hco7
         have hlk : lockO o = false := by unfold lockO; simp [hsp2, hsp3, hco7]
         have hRn : stepR' R j c o = { R with c := R.c.set j { c with key := [], st := 2 }, s := R.s + 1 } := by unfold stepR'; rw [if_neg (by omega), if_pos hst1, if_neg (by rw [hlk]; simp)]
         refine go 0 ?_
         refine At.sub [(1, _), (2, _), (4, _), (6, _)] ⟨rfl, rfl, rfl, rfl, trivial⟩ ?_
         refine At.cut_n ?_
         have M : Sep w00 ((bal3, .cells (opC o (.slice pd3 o.d.length cd3)).toArray 66 (0, 0)) :: (bal2, .cells [(.slice (some ⟨b7, off7, none⟩) c.l.length cl), .int .i64 ((c.st : Nat) : Int), .int .i64 ((c.n : Nat) : Int), .int .i64 ((c.bg : Nat) : Int), strV ([] : List UInt8)].toArray 90 (0, 0)) :: (bbx1, .cells [(.slice pu R.f.length cu), (.slice ph nh ch), (.slice pk R.k.length ck), (.slice (some ⟨bc, 0, none⟩) R.c.length c6), (.slice pd R.o.length cd), .int .i64 (R.s : Int)].toArray 46 (0, 0)) :: (bal1, .cells [.slice none 0 0, .slice none 0 0, .slice none 0 0, .slice none 0 0, .slice none 0 0, .int .i64 0].toArray 46 (0, 0)) :: (bc, .cells (cRs R0 ++ rc).toArray Tc (0, 0)) :: (X ++ (L ++ []))) _ := M.perm (by rw [List.append_nil])
         exact ⟨_, _, _, _, _, _, _, _, _, _, _, _, (some ⟨b7, off7, none⟩), cl, ((c.st : Nat) : Int), { c with key := [], st := 2 }, [], _, rfl, hRn, h.toF (fun y hy => List.mem_append_left _ hy), (hxo.mono (fun y hy => List.mem_append_left _ hy)), rfl, rfl, by simp only; omega, by simp only; omega, M.tail⟩
     ·intro hco4
      refine cnd 1 ?_ ?_
      ·intro hco8
       have hst2 : c.st = 2 := by omega
       obtain ⟨hz, hhz, hOz, hIz⟩ := h.hs
       have hRn : stepR' R j c o = { R with f := (doS R.f R.h (j : Int) o).2.1, h := (doS R.f R.h (j : Int) o).2.2, o := R.o ++ [(⟨(j : Int), c.n, c.bg, -1, (doS R.f R.h (j : Int) o).1⟩ : Dd)], c := R.c.set j { c with st := 3 }, s := R.s + 1 } := by unfold stepR'; rw [if_neg (by omega), if_neg (by omega), if_pos hst2]
       refine go 0 ?_
       refine x_ldA [_, _] rfl rfl rfl Try.underlying36 rfl sz36 rfl rfl ⟨_, _, _, M.at_ 2 rfl, rfl⟩ ?_
       refine go 0 ?_
       refine x_ldA [_, _, _, _, _, _, _, _, _] rfl rfl rfl Try.underlying66 rfl sz66 rfl rfl ⟨_, _, _, M.at_ 0 rfl, rfl⟩ ?_
       refine x_call rfl rfl rfl rfl rfl en24 (doD_c (X := _ :: _ :: _ :: _ :: _ :: X) (P1 := (doS R.f R.h (j : Int) o).2) M h.f hOz hIz hhz hbo hod rfl rfl) ?_
       rintro r_ w11_ ⟨pu1, cu1, ph1, ch1, hl1, L1, q1, k1, q2, k2, rfl, hbr, hsr, hF1, hO1, hI1, hh1, M⟩
       have M : Sep w00 ((bal3, .cells (opC o (.slice pd3 o.d.length cd3)).toArray 66 (0, 0)) :: (bal2, .cells [(.slice (some ⟨b7, off7, none⟩) c.l.length cl), .int .i64 ((c.st : Nat) : Int), .int .i64 ((c.n : Nat) : Int), .int .i64 ((c.bg : Nat) : Int), strV c.key].toArray 90 (0, 0)) :: (bbx1, .cells [(.slice pu R.f.length cu), (.slice ph nh ch), (.slice pk R.k.length ck), (.slice (some ⟨bc, 0, none⟩) R.c.length c6), (.slice pd R.o.length cd), .int .i64 (R.s : Int)].toArray 46 (0, 0)) :: (bal1, .cells [.slice none 0 0, .slice none 0 0, .slice none 0 0, .slice none 0 0, .slice none 0 0, .int .i64 0].toArray 46 (0, 0)) :: (bc, .cells (cRs R0 ++ rc).toArray Tc (0, 0)) :: (X ++ (L ++ L1))) w11_ := M
       refine ⟨trivial, ?_⟩
       refine go 1 ?_
       intro bal4 _ M
       refine go 1 ?_
       intro bal5 _ M
       refine go 1 ?_
       intro _ M
       refine x_st [_, _, _, _, _] _ rfl rfl rfl sz59 rfl rfl rfl rfl atM rfl rfl rfl ?_
       intro wst16 hwst16
       have M : Sep w00 ((bal5, .cells [.int .i64 (doS R.f R.h (j : Int) o).1.e, .int .i64 (doS R.f R.h (j : Int) o).1.h, .int .i64 (doS R.f R.h (j : Int) o).1.n, .slice q1 (doS R.f R.h (j : Int) o).1.d.length k1, .slice q2 (doS R.f R.h (j : Int) o).1.l.length k2].toArray 59 (0, 0)) :: (bal4, .cells [.slice pu1 (doS R.f R.h (j : Int) o).2.1.length cu1, .slice ph1 hl1.length ch1].toArray 36 (0, 0)) :: (bal3, .cells (opC o (.slice pd3 o.d.length cd3)).toArray 66 (0, 0)) :: (bal2, .cells [(.slice (some ⟨b7, off7, none⟩) c.l.length cl), .int .i64 ((c.st : Nat) : Int), .int .i64 ((c.n : Nat) : Int), .int .i64 ((c.bg : Nat) : Int), strV c.key].toArray 90 (0, 0)) :: (bbx1, .cells [(.slice pu R.f.length cu), (.slice ph nh ch), (.slice pk R.k.length ck), (.slice (some ⟨bc, 0, none⟩) R.c.length c6), (.slice pd R.o.length cd), .int .i64 (R.s : Int)].toArray 46 (0, 0)) :: (bal1, .cells [.slice none 0 0, .slice none 0 0, .slice none 0 0, .slice none 0 0, .slice none 0 0, .int .i64 0].toArray 46 (0, 0)) :: (bc, .cells (cRs R0 ++ rc).toArray Tc (0, 0)) :: (X ++ (L ++ L1))) wst16 := M.put 0 rfl hwst16
       refine ⟨trivial, ?_⟩
       refine go 1 ?_
       refine x_st [_, _] _ rfl rfl rfl sz36 rfl rfl rfl rfl atM rfl rfl rfl ?_
       intro wst17 hwst17
       have M : Sep w00 ((bal5, .cells [.int .i64 (doS R.f R.h (j : Int) o).1.e, .int .i64 (doS R.f R.h (j : Int) o).1.h, .int .i64 (doS R.f R.h (j : Int) o).1.n, .slice q1 (doS R.f R.h (j : Int) o).1.d.length k1, .slice q2 (doS R.f R.h (j : Int) o).1.l.length k2].toArray 59 (0, 0)) :: (bal4, .cells [.slice pu1 (doS R.f R.h (j : Int) o).2.1.length cu1, .slice ph1 hl1.length ch1].toArray 36 (0, 0)) :: (bal3, .cells (opC o (.slice pd3 o.d.length cd3)).toArray 66 (0, 0)) :: (bal2, .cells [(.slice (some ⟨b7, off7, none⟩) c.l.length cl), .int .i64 ((c.st : Nat) : Int), .int .i64 ((c.n : Nat) : Int), .int .i64 ((c.bg : Nat) : Int), strV c.key].toArray 90 (0, 0)) :: (bbx1, .cells [(.slice pu1 (doS R.f R.h (j : Int) o).2.1.length cu1), (.slice ph1 hl1.length ch1), (.slice pk R.k.length ck), (.slice (some ⟨bc, 0, none⟩) R.c.length c6), (.slice pd R.o.length cd), .int .i64 (R.s : Int)].toArray 46 (0, 0)) :: (bal1, .cells [.slice none 0 0, .slice none 0 0, .slice none 0 0, .slice none 0 0, .slice none 0 0, .int .i64 0].toArray 46 (0, 0)) :: (bc, .cells (cRs R0 ++ rc).toArray Tc (0, 0)) :: (X ++ (L ++ L1))) wst17 := M.put 4 rfl hwst17
       obtain ⟨Rd, hRd, hsgd, hdk⟩ := h.o
       have hsrcd : ∀ {w' : World} {Y : List (Nat × Obj)}, Sep w00 Y w' → (∀ y ∈ L, y ∈ Y) → Sg w' (.slice pd R.o.length cd) 9 R.o.length (ddCs Rd) := fun hM hs => hsgd _ _ hM hs
       refine ⟨trivial, ?_⟩
       refine go 0 ?_
       refine W.regT (by kernel_rfl) #[0, 0, 2, 7, 0, 0, 32, 0, 128, 0, 1008, 2032, 4095, 8191, 16383] (.par [(1, false), (2, false), (4, false), (5, false), (6, false), (7, false), (8, false), (9, false), (10, false)] 0 (.two [] 3 [(11, true)] 11 [(3, true)] (.leaf [(12, true), (13, false), (14, true)])) 11 (.leaf [(0, true), (3, true), (12, true), (13, false), (14, true)])) (by kernel_rfl) ?_
       intro K wD2 hK hwD2
       have M := M.drew hwD2
       refine ExT.par ?_
       refine go 4 ?_
       refine x_build [.int .i64 (j : Int), .int .i64 (c.n : Int), .int .i64 (c.bg : Int), .int .i64 (-1), .int .i64 (doS R.f R.h (j : Int) o).1.e, .int .i64 (doS R.f R.h (j : Int) o).1.h, .int .i64 (doS R.f R.h (j : Int) o).1.n, .slice q1 (doS R.f R.h (j : Int) o).1.d.length k1, .slice q2 (doS R.f R.h (j : Int) o).1.l.length k2] rfl rfl rfl pl61 ze61 rfl rfl fill_did ?_
       refine Ex.fork ?_
       refine ⟨?_, ?_⟩
       ·refine x_bs0 rfl rfl rfl Try.underlying44 sz61 ?_
        intro bb wb hbb hwb
        have M := M.acons hbb hwb
        refine pnd ?_
        refine Ex.fork ?_
        refine ExT.two ?_
        refine Ex.fork ?_
        refine Ex.join (fun F' T' w' => ∃ Lo p6 c6d bB A1 A2 A3 A4, T' = [(9, A4), (8, A3), (6, A2), (2, A1)] ∧ F' = [(1, .int .i64 ((j : Nat) : Int)), (2, ptr bbx1), (4, ptr bal1), (6, ptr bal2), (175, .slice p6 R.o.length c6d), (183, .slice (some ⟨bB, 0, none⟩) 1 1)] ∧ OwL Lo (.slice p6 R.o.length c6d) 9 R.o.length (ddCs Rd) ∧ Sep w00 ((bal5, .cells [.int .i64 (doS R.f R.h (j : Int) o).1.e, .int .i64 (doS R.f R.h (j : Int) o).1.h, .int .i64 (doS R.f R.h (j : Int) o).1.n, .slice q1 (doS R.f R.h (j : Int) o).1.d.length k1, .slice q2 (doS R.f R.h (j : Int) o).1.l.length k2].toArray 59 (0, 0)) :: (bal4, .cells [.slice pu1 (doS R.f R.h (j : Int) o).2.1.length cu1, .slice ph1 hl1.length ch1].toArray 36 (0, 0)) :: (bal3, .cells (opC o (.slice pd3 o.d.length cd3)).toArray 66 (0, 0)) :: (bal2, .cells [(.slice (some ⟨b7, off7, none⟩) c.l.length cl), .int .i64 ((c.st : Nat) : Int), .int .i64 ((c.n : Nat) : Int), .int .i64 ((c.bg : Nat) : Int), strV c.key].toArray 90 (0, 0)) :: (bbx1, .cells [(.slice pu1 (doS R.f R.h (j : Int) o).2.1.length cu1), (.slice ph1 hl1.length ch1), (.slice pk R.k.length ck), (.slice (some ⟨bc, 0, none⟩) R.c.length c6), (.slice pd R.o.length cd), .int .i64 (R.s : Int)].toArray 46 (0, 0)) :: (bal1, .cells [.slice none 0 0, .slice none 0 0, .slice none 0 0, .slice none 0 0, .slice none 0 0, .int .i64 0].toArray 46 (0, 0)) :: (bc, .cells (cRs R0 ++ rc).toArray Tc (0, 0)) :: ((bB, .cells ([.int .i64 (j : Int), .int .i64 (c.n : Int), .int .i64 (c.bg : Int), .int .i64 (-1), .int .i64 (doS R.f R.h (j : Int) o).1.e, .int .i64 (doS R.f R.h (j : Int) o).1.h, .int .i64 (doS R.f R.h (j : Int) o).1.n, .slice q1 (doS R.f R.h (j : Int) o).1.d.length k1, .slice q2 (doS R.f R.h (j : Int) o).1.l.length k2]).toArray 61 (0, 0)) :: (Lo ++ (X ++ (L ++ L1))))) w') ?_ ?_ ?_
        ·refine x_apL (L := [_]) (L0 := (bal5, .cells [.int .i64 (doS R.f R.h (j : Int) o).1.e, .int .i64 (doS R.f R.h (j : Int) o).1.h, .int .i64 (doS R.f R.h (j : Int) o).1.n, .slice q1 (doS R.f R.h (j : Int) o).1.d.length k1, .slice q2 (doS R.f R.h (j : Int) o).1.l.length k2].toArray 59 (0, 0)) :: (bal4, .cells [.slice pu1 (doS R.f R.h (j : Int) o).2.1.length cu1, .slice ph1 hl1.length ch1].toArray 36 (0, 0)) :: (bal3, .cells (opC o (.slice pd3 o.d.length cd3)).toArray 66 (0, 0)) :: (bal2, .cells [(.slice (some ⟨b7, off7, none⟩) c.l.length cl), .int .i64 ((c.st : Nat) : Int), .int .i64 ((c.n : Nat) : Int), .int .i64 ((c.bg : Nat) : Int), strV c.key].toArray 90 (0, 0)) :: (bbx1, .cells [(.slice pu1 (doS R.f R.h (j : Int) o).2.1.length cu1), (.slice ph1 hl1.length ch1), (.slice pk R.k.length ck), (.slice (some ⟨bc, 0, none⟩) R.c.length c6), (.slice pd R.o.length cd), .int .i64 (R.s : Int)].toArray 46 (0, 0)) :: (bal1, .cells [.slice none 0 0, .slice none 0 0, .slice none 0 0, .slice none 0 0, .slice none 0 0, .int .i64 0].toArray 46 (0, 0)) :: (bc, .cells (cRs R0 ++ rc).toArray Tc (0, 0)) :: (X ++ (L ++ L1))) (cs := []) (nn := 0) rfl rfl rfl rfl Try.underlying44 sz61 ze61 rfl by61 rfl rfl (.inr ⟨bb, 0, [], _, rfl, rfl, rfl, rfl⟩) M (by simp) ((hsrcd M (fun y hy => by simp [hy])).src Try.underlying44 (ddCs_one hdk)) (by omega) (by decide) (by omega) ?_
         intro Lo v6 w6 how M
         rw [Nat.zero_add, List.nil_append] at how
         obtain ⟨p6, c6d, rfl⟩ := how.shape
         have M : Sep w00 ((bal5, .cells [.int .i64 (doS R.f R.h (j : Int) o).1.e, .int .i64 (doS R.f R.h (j : Int) o).1.h, .int .i64 (doS R.f R.h (j : Int) o).1.n, .slice q1 (doS R.f R.h (j : Int) o).1.d.length k1, .slice q2 (doS R.f R.h (j : Int) o).1.l.length k2].toArray 59 (0, 0)) :: (bal4, .cells [.slice pu1 (doS R.f R.h (j : Int) o).2.1.length cu1, .slice ph1 hl1.length ch1].toArray 36 (0, 0)) :: (bal3, .cells (opC o (.slice pd3 o.d.length cd3)).toArray 66 (0, 0)) :: (bal2, .cells [(.slice (some ⟨b7, off7, none⟩) c.l.length cl), .int .i64 ((c.st : Nat) : Int), .int .i64 ((c.n : Nat) : Int), .int .i64 ((c.bg : Nat) : Int), strV c.key].toArray 90 (0, 0)) :: (bbx1, .cells [(.slice pu1 (doS R.f R.h (j : Int) o).2.1.length cu1), (.slice ph1 hl1.length ch1), (.slice pk R.k.length ck), (.slice (some ⟨bc, 0, none⟩) R.c.length c6), (.slice pd R.o.length cd), .int .i64 (R.s : Int)].toArray 46 (0, 0)) :: (bal1, .cells [.slice none 0 0, .slice none 0 0, .slice none 0 0, .slice none 0 0, .slice none 0 0, .int .i64 0].toArray 46 (0, 0)) :: (bc, .cells (cRs R0 ++ rc).toArray Tc (0, 0)) :: (Lo ++ (X ++ (L ++ L1)))) _ := M.perm (perm_c fun p => by simp only [List.countP_append, List.countP_cons, List.countP_nil]; omega)
         refine pnd ?_
         refine x_bs1 (cs := ([.int .i64 (j : Int), .int .i64 (c.n : Int), .int .i64 (c.bg : Int), .int .i64 (-1), .int .i64 (doS R.f R.h (j : Int) o).1.e, .int .i64 (doS R.f R.h (j : Int) o).1.h, .int .i64 (doS R.f R.h (j : Int) o).1.n, .slice q1 (doS R.f R.h (j : Int) o).1.d.length k1, .slice q2 (doS R.f R.h (j : Int) o).1.l.length k2])) rfl rfl rfl Try.underlying44 sz61 ze61 (Z := [_, _, _, _, _, _, _, _, _]) rfl rfl (by decide) (by decide) rfl rfl rfl ?_
         intro bbs3 wbs3 hbbs3 hwbs3
         have M := M.acons hbbs3 hwbs3
         refine pnd ?_
         refine Ex.forkS [(1, _), (2, _), (4, _), (6, _), (175, _), (183, _)] ⟨rfl, rfl, rfl, rfl, rfl, rfl, trivial⟩ ?_
         exact ⟨Lo, p6, c6d, bbs3, _, _, _, _, rfl, rfl, how, M.perm (perm_c fun p => by simp only [List.countP_append, List.countP_cons, List.countP_nil]; omega)⟩
        ·refine x_bs1 (cs := ([.int .i64 (j : Int), .int .i64 (c.n : Int), .int .i64 (c.bg : Int), .int .i64 (-1), .int .i64 (doS R.f R.h (j : Int) o).1.e, .int .i64 (doS R.f R.h (j : Int) o).1.h, .int .i64 (doS R.f R.h (j : Int) o).1.n, .slice q1 (doS R.f R.h (j : Int) o).1.d.length k1, .slice q2 (doS R.f R.h (j : Int) o).1.l.length k2])) rfl rfl rfl Try.underlying44 sz61 ze61 (Z := [_, _, _, _, _, _, _, _, _]) rfl rfl (by decide) (by decide) rfl rfl rfl ?_
         intro bbs4 wbs4 hbbs4 hwbs4
         have M := M.acons hbbs4 hwbs4
         refine pnd ?_
         refine x_apL (L := [_]) (L0 := (bbs4, .cells ([.int .i64 (j : Int), .int .i64 (c.n : Int), .int .i64 (c.bg : Int), .int .i64 (-1), .int .i64 (doS R.f R.h (j : Int) o).1.e, .int .i64 (doS R.f R.h (j : Int) o).1.h, .int .i64 (doS R.f R.h (j : Int) o).1.n, .slice q1 (doS R.f R.h (j : Int) o).1.d.length k1, .slice q2 (doS R.f R.h (j : Int) o).1.l.length k2]).toArray 61 (0, 0)) :: (bal5, .cells [.int .i64 (doS R.f R.h (j : Int) o).1.e, .int .i64 (doS R.f R.h (j : Int) o).1.h, .int .i64 (doS R.f R.h (j : Int) o).1.n, .slice q1 (doS R.f R.h (j : Int) o).1.d.length k1, .slice q2 (doS R.f R.h (j : Int) o).1.l.length k2].toArray 59 (0, 0)) :: (bal4, .cells [.slice pu1 (doS R.f R.h (j : Int) o).2.1.length cu1, .slice ph1 hl1.length ch1].toArray 36 (0, 0)) :: (bal3, .cells (opC o (.slice pd3 o.d.length cd3)).toArray 66 (0, 0)) :: (bal2, .cells [(.slice (some ⟨b7, off7, none⟩) c.l.length cl), .int .i64 ((c.st : Nat) : Int), .int .i64 ((c.n : Nat) : Int), .int .i64 ((c.bg : Nat) : Int), strV c.key].toArray 90 (0, 0)) :: (bbx1, .cells [(.slice pu1 (doS R.f R.h (j : Int) o).2.1.length cu1), (.slice ph1 hl1.length ch1), (.slice pk R.k.length ck), (.slice (some ⟨bc, 0, none⟩) R.c.length c6), (.slice pd R.o.length cd), .int .i64 (R.s : Int)].toArray 46 (0, 0)) :: (bal1, .cells [.slice none 0 0, .slice none 0 0, .slice none 0 0, .slice none 0 0, .slice none 0 0, .int .i64 0].toArray 46 (0, 0)) :: (bc, .cells (cRs R0 ++ rc).toArray Tc (0, 0)) :: (X ++ (L ++ L1))) (cs := []) (nn := 0) rfl rfl rfl rfl Try.underlying44 sz61 ze61 rfl by61 rfl rfl (.inr ⟨bb, 0, [], _, rfl, rfl, rfl, rfl⟩) (M.perm (List.Perm.swap _ _ _)) (by simp) ((hsrcd M (fun y hy => by simp [hy])).src Try.underlying44 (ddCs_one hdk)) (by omega) (by decide) (by omega) ?_
         intro Lo v6 w6 how M
         rw [Nat.zero_add, List.nil_append] at how
         obtain ⟨p6, c6d, rfl⟩ := how.shape
         have M : Sep w00 ((bal5, .cells [.int .i64 (doS R.f R.h (j : Int) o).1.e, .int .i64 (doS R.f R.h (j : Int) o).1.h, .int .i64 (doS R.f R.h (j : Int) o).1.n, .slice q1 (doS R.f R.h (j : Int) o).1.d.length k1, .slice q2 (doS R.f R.h (j : Int) o).1.l.length k2].toArray 59 (0, 0)) :: (bal4, .cells [.slice pu1 (doS R.f R.h (j : Int) o).2.1.length cu1, .slice ph1 hl1.length ch1].toArray 36 (0, 0)) :: (bal3, .cells (opC o (.slice pd3 o.d.length cd3)).toArray 66 (0, 0)) :: (bal2, .cells [(.slice (some ⟨b7, off7, none⟩) c.l.length cl), .int .i64 ((c.st : Nat) : Int), .int .i64 ((c.n : Nat) : Int), .int .i64 ((c.bg : Nat) : Int), strV c.key].toArray 90 (0, 0)) :: (bbx1, .cells [(.slice pu1 (doS R.f R.h (j : Int) o).2.1.length cu1), (.slice ph1 hl1.length ch1), (.slice pk R.k.length ck), (.slice (some ⟨bc, 0, none⟩) R.c.length c6), (.slice pd R.o.length cd), .int .i64 (R.s : Int)].toArray 46 (0, 0)) :: (bal1, .cells [.slice none 0 0, .slice none 0 0, .slice none 0 0, .slice none 0 0, .slice none 0 0, .int .i64 0].toArray 46 (0, 0)) :: (bc, .cells (cRs R0 ++ rc).toArray Tc (0, 0)) :: ((bbs4, .cells ([.int .i64 (j : Int), .int .i64 (c.n : Int), .int .i64 (c.bg : Int), .int .i64 (-1), .int .i64 (doS R.f R.h (j : Int) o).1.e, .int .i64 (doS R.f R.h (j : Int) o).1.h, .int .i64 (doS R.f R.h (j : Int) o).1.n, .slice q1 (doS R.f R.h (j : Int) o).1.d.length k1, .slice q2 (doS R.f R.h (j : Int) o).1.l.length k2]).toArray 61 (0, 0)) :: (Lo ++ (X ++ (L ++ L1))))) _ := M.perm (perm_c fun p => by simp only [List.countP_append, List.countP_cons, List.countP_nil]; omega)
         refine pnd ?_
         refine Ex.forkS [(1, _), (2, _), (4, _), (6, _), (175, _), (183, _)] ⟨rfl, rfl, rfl, rfl, rfl, rfl, trivial⟩ ?_
         exact ⟨Lo, p6, c6d, bbs4, _, _, _, _, rfl, rfl, how, M⟩
        rintro F1 T1 wf ⟨Lo, p6, c6d, bB, A1, A2, A3, A4, rfl, rfl, how, M⟩
        refine ExT.leaf ?_
        have hsB : Sl _ (.slice (some ⟨bB, 0, none⟩) 1 1) 9 1 ([.int .i64 (j : Int), .int .i64 (c.n : Int), .int .i64 (c.bg : Int), .int .i64 (-1), .int .i64 (doS R.f R.h (j : Int) o).1.e, .int .i64 (doS R.f R.h (j : Int) o).1.h, .int .i64 (doS R.f R.h (j : Int) o).1.n, .slice q1 (doS R.f R.h (j : Int) o).1.d.length k1, .slice q2 (doS R.f R.h (j : Int) o).1.l.length k2]) := .inr ⟨bB, 0, 1, _, 61, (0, 0), rfl, Nat.le_refl _, M.get (b := bB) (o := .cells ([.int .i64 (j : Int), .int .i64 (c.n : Int), .int .i64 (c.bg : Int), .int .i64 (-1), .int .i64 (doS R.f R.h (j : Int) o).1.e, .int .i64 (doS R.f R.h (j : Int) o).1.h, .int .i64 (doS R.f R.h (j : Int) o).1.n, .slice q1 (doS R.f R.h (j : Int) o).1.d.length k1, .slice q2 (doS R.f R.h (j : Int) o).1.l.length k2]).toArray 61 (0, 0)) (by simp), rfl, rfl⟩
        have M : Sep w00 (Lo ++ ((bB, .cells ([.int .i64 (j : Int), .int .i64 (c.n : Int), .int .i64 (c.bg : Int), .int .i64 (-1), .int .i64 (doS R.f R.h (j : Int) o).1.e, .int .i64 (doS R.f R.h (j : Int) o).1.h, .int .i64 (doS R.f R.h (j : Int) o).1.n, .slice q1 (doS R.f R.h (j : Int) o).1.d.length k1, .slice q2 (doS R.f R.h (j : Int) o).1.l.length k2]).toArray 61 (0, 0)) :: (bal5, .cells [.int .i64 (doS R.f R.h (j : Int) o).1.e, .int .i64 (doS R.f R.h (j : Int) o).1.h, .int .i64 (doS R.f R.h (j : Int) o).1.n, .slice q1 (doS R.f R.h (j : Int) o).1.d.length k1, .slice q2 (doS R.f R.h (j : Int) o).1.l.length k2].toArray 59 (0, 0)) :: (bal4, .cells [.slice pu1 (doS R.f R.h (j : Int) o).2.1.length cu1, .slice ph1 hl1.length ch1].toArray 36 (0, 0)) :: (bal3, .cells (opC o (.slice pd3 o.d.length cd3)).toArray 66 (0, 0)) :: (bal2, .cells [(.slice (some ⟨b7, off7, none⟩) c.l.length cl), .int .i64 ((c.st : Nat) : Int), .int .i64 ((c.n : Nat) : Int), .int .i64 ((c.bg : Nat) : Int), strV c.key].toArray 90 (0, 0)) :: (bbx1, .cells [(.slice pu1 (doS R.f R.h (j : Int) o).2.1.length cu1), (.slice ph1 hl1.length ch1), (.slice pk R.k.length ck), (.slice (some ⟨bc, 0, none⟩) R.c.length c6), (.slice pd R.o.length cd), .int .i64 (R.s : Int)].toArray 46 (0, 0)) :: (bal1, .cells [.slice none 0 0, .slice none 0 0, .slice none 0 0, .slice none 0 0, .slice none 0 0, .int .i64 0].toArray 46 (0, 0)) :: (bc, .cells (cRs R0 ++ rc).toArray Tc (0, 0)) :: (X ++ (L ++ L1)))) _ := M.perm (perm_c fun p => by simp only [List.countP_append, List.countP_cons, List.countP_nil]; omega)
        refine x_apL rfl rfl rfl rfl Try.underlying44 sz61 ze61 rfl by61 rfl rfl how M (ddCs_one hdk) (hsB.src Try.underlying44 (by intro u hu; simp only [List.mem_cons, List.not_mem_nil, or_false] at hu; rcases hu with rfl | rfl | rfl | rfl | rfl | rfl | rfl | rfl | rfl <;> rfl)) (by omega) (by decide) (by omega) ?_
        intro Lo2 v7 w7 how2 M
        obtain ⟨p7, c7, rfl⟩ := how2.shape
        have M : Sep w00 ((bB, .cells ([.int .i64 (j : Int), .int .i64 (c.n : Int), .int .i64 (c.bg : Int), .int .i64 (-1), .int .i64 (doS R.f R.h (j : Int) o).1.e, .int .i64 (doS R.f R.h (j : Int) o).1.h, .int .i64 (doS R.f R.h (j : Int) o).1.n, .slice q1 (doS R.f R.h (j : Int) o).1.d.length k1, .slice q2 (doS R.f R.h (j : Int) o).1.l.length k2]).toArray 61 (0, 0)) :: (bal5, .cells [.int .i64 (doS R.f R.h (j : Int) o).1.e, .int .i64 (doS R.f R.h (j : Int) o).1.h, .int .i64 (doS R.f R.h (j : Int) o).1.n, .slice q1 (doS R.f R.h (j : Int) o).1.d.length k1, .slice q2 (doS R.f R.h (j : Int) o).1.l.length k2].toArray 59 (0, 0)) :: (bal4, .cells [.slice pu1 (doS R.f R.h (j : Int) o).2.1.length cu1, .slice ph1 hl1.length ch1].toArray 36 (0, 0)) :: (bal3, .cells (opC o (.slice pd3 o.d.length cd3)).toArray 66 (0, 0)) :: (bal2, .cells [(.slice (some ⟨b7, off7, none⟩) c.l.length cl), .int .i64 ((c.st : Nat) : Int), .int .i64 ((c.n : Nat) : Int), .int .i64 ((c.bg : Nat) : Int), strV c.key].toArray 90 (0, 0)) :: (bbx1, .cells [(.slice pu1 (doS R.f R.h (j : Int) o).2.1.length cu1), (.slice ph1 hl1.length ch1), (.slice pk R.k.length ck), (.slice (some ⟨bc, 0, none⟩) R.c.length c6), (.slice pd R.o.length cd), .int .i64 (R.s : Int)].toArray 46 (0, 0)) :: (bal1, .cells [.slice none 0 0, .slice none 0 0, .slice none 0 0, .slice none 0 0, .slice none 0 0, .int .i64 0].toArray 46 (0, 0)) :: (bc, .cells (cRs R0 ++ rc).toArray Tc (0, 0)) :: (X ++ (L ++ (L1 ++ Lo2)))) w7 := M.perm (perm_c fun p => by simp only [List.countP_append, List.countP_cons, List.countP_nil]; omega)
        have M : Sep w00 ((bal5, .cells [.int .i64 (doS R.f R.h (j : Int) o).1.e, .int .i64 (doS R.f R.h (j : Int) o).1.h, .int .i64 (doS R.f R.h (j : Int) o).1.n, .slice q1 (doS R.f R.h (j : Int) o).1.d.length k1, .slice q2 (doS R.f R.h (j : Int) o).1.l.length k2].toArray 59 (0, 0)) :: (bal4, .cells [.slice pu1 (doS R.f R.h (j : Int) o).2.1.length cu1, .slice ph1 hl1.length ch1].toArray 36 (0, 0)) :: (bal3, .cells (opC o (.slice pd3 o.d.length cd3)).toArray 66 (0, 0)) :: (bal2, .cells [(.slice (some ⟨b7, off7, none⟩) c.l.length cl), .int .i64 ((c.st : Nat) : Int), .int .i64 ((c.n : Nat) : Int), .int .i64 ((c.bg : Nat) : Int), strV c.key].toArray 90 (0, 0)) :: (bbx1, .cells [(.slice pu1 (doS R.f R.h (j : Int) o).2.1.length cu1), (.slice ph1 hl1.length ch1), (.slice pk R.k.length ck), (.slice (some ⟨bc, 0, none⟩) R.c.length c6), (.slice pd R.o.length cd), .int .i64 (R.s : Int)].toArray 46 (0, 0)) :: (bal1, .cells [.slice none 0 0, .slice none 0 0, .slice none 0 0, .slice none 0 0, .slice none 0 0, .int .i64 0].toArray 46 (0, 0)) :: (bc, .cells (cRs R0 ++ rc).toArray Tc (0, 0)) :: (X ++ (L ++ (L1 ++ Lo2)))) w7 := M.tail
        have how3 : OwL Lo2 (.slice p7 (R.o.length + 1) c7) 9 (R.o.length + 1) (ddCs (Rd ++ [(((⟨(j : Int), c.n, c.bg, -1, (doS R.f R.h (j : Int) o).1⟩ : Dd), .slice q1 (doS R.f R.h (j : Int) o).1.d.length k1, .slice q2 (doS R.f R.h (j : Int) o).1.l.length k2) : DdV)])) := by rw [ddCs_app]; exact how2
        refine pnd ?_
        refine go 0 ?_
        refine x_st [_] _ rfl rfl rfl sz44 rfl rfl rfl rfl atM rfl rfl rfl ?_
        intro wst18 hwst18
        have M : Sep w00 ((bal5, .cells [.int .i64 (doS R.f R.h (j : Int) o).1.e, .int .i64 (doS R.f R.h (j : Int) o).1.h, .int .i64 (doS R.f R.h (j : Int) o).1.n, .slice q1 (doS R.f R.h (j : Int) o).1.d.length k1, .slice q2 (doS R.f R.h (j : Int) o).1.l.length k2].toArray 59 (0, 0)) :: (bal4, .cells [.slice pu1 (doS R.f R.h (j : Int) o).2.1.length cu1, .slice ph1 hl1.length ch1].toArray 36 (0, 0)) :: (bal3, .cells (opC o (.slice pd3 o.d.length cd3)).toArray 66 (0, 0)) :: (bal2, .cells [(.slice (some ⟨b7, off7, none⟩) c.l.length cl), .int .i64 ((c.st : Nat) : Int), .int .i64 ((c.n : Nat) : Int), .int .i64 ((c.bg : Nat) : Int), strV c.key].toArray 90 (0, 0)) :: (bbx1, .cells [(.slice pu1 (doS R.f R.h (j : Int) o).2.1.length cu1), (.slice ph1 hl1.length ch1), (.slice pk R.k.length ck), (.slice (some ⟨bc, 0, none⟩) R.c.length c6), (.slice p7 (R.o.length + 1) c7), .int .i64 (R.s : Int)].toArray 46 (0, 0)) :: (bal1, .cells [.slice none 0 0, .slice none 0 0, .slice none 0 0, .slice none 0 0, .slice none 0 0, .int .i64 0].toArray 46 (0, 0)) :: (bc, .cells (cRs R0 ++ rc).toArray Tc (0, 0)) :: (X ++ (L ++ (L1 ++ Lo2)))) wst18 := M.put 4 rfl hwst18
        refine pnd ?_
        refine go 0 ?_
        refine At.sub [(1, _), (2, _), (4, _), (6, _)] ⟨rfl, rfl, rfl, rfl, trivial⟩ ?_
        refine At.cut_n ?_
        have hFn : SyF w00 (L ++ (L1 ++ Lo2)) (.slice pu1 (doS R.f R.h (j : Int) o).2.1.length cu1) (.slice ph1 hl1.length ch1) (.slice pk R.k.length ck) (.slice p7 (R.o.length + 1) c7) (doS R.f R.h (j : Int) o).2.1 (doS R.f R.h (j : Int) o).2.2 R.k (R.o ++ [(⟨(j : Int), c.n, c.bg, -1, (doS R.f R.h (j : Int) o).1⟩ : Dd)]) := ⟨hF1.mono (fun y hy => by simp only [List.mem_append] at hy ⊢; rcases hy with g | g <;> simp [g]), ⟨hl1, hh1, hO1.mono (fun y hy => by simp only [List.mem_append] at hy ⊢; rcases hy with g | g <;> simp [g]), hI1⟩, SgK.mono h.k (fun y hy => List.mem_append_left _ hy), Rd ++ [(((⟨(j : Int), c.n, c.bg, -1, (doS R.f R.h (j : Int) o).1⟩ : Dd), .slice q1 (doS R.f R.h (j : Int) o).1.d.length k1, .slice q2 (doS R.f R.h (j : Int) o).1.l.length k2) : DdV)], by rw [List.map_append, hRd]; rfl, by rw [List.length_append]; exact SgK.own how3 (by decide) (fun y hy => by simp [hy]), fun x hx => by
         rcases List.mem_append.1 hx with g | g
         ·exact (hdk x g).mono (fun y hy => List.mem_append_left _ hy)
         ·obtain rfl := List.mem_singleton.1 g
          exact ⟨q1, k1, q2, k2, rfl, hbr.mono (fun y hy => by simp only [List.mem_append] at hy ⊢; rcases hy with g | g <;> simp [g]), SgK.mono hsr (fun y hy => by simp only [List.mem_append] at hy ⊢; rcases hy with g | g <;> simp [g])⟩⟩
        exact ⟨_, _, _, _, _, _, _, _, _, _, _, _, (some ⟨b7, off7, none⟩), cl, ((c.st : Nat) : Int), { c with st := 3 }, L1 ++ Lo2, _, rfl, hRn, hFn, (hxo.mono (fun y hy => List.mem_append_left _ hy)), rfl, rfl, by simp only; omega, by simp only; omega, M.tail.tail.tail⟩
       ·refine x_bs1 (cs := ([.int .i64 (j : Int), .int .i64 (c.n : Int), .int .i64 (c.bg : Int), .int .i64 (-1), .int .i64 (doS R.f R.h (j : Int) o).1.e, .int .i64 (doS R.f R.h (j : Int) o).1.h, .int .i64 (doS R.f R.h (j : Int) o).1.n, .slice q1 (doS R.f R.h (j : Int) o).1.d.length k1, .slice q2 (doS R.f R.h (j : Int) o).1.l.length k2])) rfl rfl rfl Try.underlying44 sz61 ze61 (Z := [_, _, _, _, _, _, _, _, _]) rfl rfl (by decide) (by decide) rfl rfl rfl ?_
        intro bbs5 wbs5 hbbs5 hwbs5
        have M := M.acons hbbs5 hwbs5
        refine pnd ?_
        refine Ex.fork ?_
        refine ExT.leaf ?_
        refine x_bs0 rfl rfl rfl Try.underlying44 sz61 ?_
        intro bb wb hbb hwb
        have M := M.acons hbb hwb
        refine pnd ?_
        refine x_apL (L := [_]) (L0 := (bbs5, .cells ([.int .i64 (j : Int), .int .i64 (c.n : Int), .int .i64 (c.bg : Int), .int .i64 (-1), .int .i64 (doS R.f R.h (j : Int) o).1.e, .int .i64 (doS R.f R.h (j : Int) o).1.h, .int .i64 (doS R.f R.h (j : Int) o).1.n, .slice q1 (doS R.f R.h (j : Int) o).1.d.length k1, .slice q2 (doS R.f R.h (j : Int) o).1.l.length k2]).toArray 61 (0, 0)) :: (bal5, .cells [.int .i64 (doS R.f R.h (j : Int) o).1.e, .int .i64 (doS R.f R.h (j : Int) o).1.h, .int .i64 (doS R.f R.h (j : Int) o).1.n, .slice q1 (doS R.f R.h (j : Int) o).1.d.length k1, .slice q2 (doS R.f R.h (j : Int) o).1.l.length k2].toArray 59 (0, 0)) :: (bal4, .cells [.slice pu1 (doS R.f R.h (j : Int) o).2.1.length cu1, .slice ph1 hl1.length ch1].toArray 36 (0, 0)) :: (bal3, .cells (opC o (.slice pd3 o.d.length cd3)).toArray 66 (0, 0)) :: (bal2, .cells [(.slice (some ⟨b7, off7, none⟩) c.l.length cl), .int .i64 ((c.st : Nat) : Int), .int .i64 ((c.n : Nat) : Int), .int .i64 ((c.bg : Nat) : Int), strV c.key].toArray 90 (0, 0)) :: (bbx1, .cells [(.slice pu1 (doS R.f R.h (j : Int) o).2.1.length cu1), (.slice ph1 hl1.length ch1), (.slice pk R.k.length ck), (.slice (some ⟨bc, 0, none⟩) R.c.length c6), (.slice pd R.o.length cd), .int .i64 (R.s : Int)].toArray 46 (0, 0)) :: (bal1, .cells [.slice none 0 0, .slice none 0 0, .slice none 0 0, .slice none 0 0, .slice none 0 0, .int .i64 0].toArray 46 (0, 0)) :: (bc, .cells (cRs R0 ++ rc).toArray Tc (0, 0)) :: (X ++ (L ++ L1))) (cs := []) (nn := 0) rfl rfl rfl rfl Try.underlying44 sz61 ze61 rfl by61 rfl rfl (.inr ⟨bb, 0, [], _, rfl, rfl, rfl, rfl⟩) M (by simp) ((hsrcd M (fun y hy => by simp [hy])).src Try.underlying44 (ddCs_one hdk)) (by omega) (by decide) (by omega) ?_
        intro Lo v6 w6 how M
        rw [Nat.zero_add, List.nil_append] at how
        obtain ⟨p6, c6d, rfl⟩ := how.shape
        have M : Sep w00 ((bal5, .cells [.int .i64 (doS R.f R.h (j : Int) o).1.e, .int .i64 (doS R.f R.h (j : Int) o).1.h, .int .i64 (doS R.f R.h (j : Int) o).1.n, .slice q1 (doS R.f R.h (j : Int) o).1.d.length k1, .slice q2 (doS R.f R.h (j : Int) o).1.l.length k2].toArray 59 (0, 0)) :: (bal4, .cells [.slice pu1 (doS R.f R.h (j : Int) o).2.1.length cu1, .slice ph1 hl1.length ch1].toArray 36 (0, 0)) :: (bal3, .cells (opC o (.slice pd3 o.d.length cd3)).toArray 66 (0, 0)) :: (bal2, .cells [(.slice (some ⟨b7, off7, none⟩) c.l.length cl), .int .i64 ((c.st : Nat) : Int), .int .i64 ((c.n : Nat) : Int), .int .i64 ((c.bg : Nat) : Int), strV c.key].toArray 90 (0, 0)) :: (bbx1, .cells [(.slice pu1 (doS R.f R.h (j : Int) o).2.1.length cu1), (.slice ph1 hl1.length ch1), (.slice pk R.k.length ck), (.slice (some ⟨bc, 0, none⟩) R.c.length c6), (.slice pd R.o.length cd), .int .i64 (R.s : Int)].toArray 46 (0, 0)) :: (bal1, .cells [.slice none 0 0, .slice none 0 0, .slice none 0 0, .slice none 0 0, .slice none 0 0, .int .i64 0].toArray 46 (0, 0)) :: (bc, .cells (cRs R0 ++ rc).toArray Tc (0, 0)) :: ((bbs5, .cells ([.int .i64 (j : Int), .int .i64 (c.n : Int), .int .i64 (c.bg : Int), .int .i64 (-1), .int .i64 (doS R.f R.h (j : Int) o).1.e, .int .i64 (doS R.f R.h (j : Int) o).1.h, .int .i64 (doS R.f R.h (j : Int) o).1.n, .slice q1 (doS R.f R.h (j : Int) o).1.d.length k1, .slice q2 (doS R.f R.h (j : Int) o).1.l.length k2]).toArray 61 (0, 0)) :: (Lo ++ (X ++ (L ++ L1))))) _ := M.perm (perm_c fun p => by simp only [List.countP_append, List.countP_cons, List.countP_nil]; omega)
        refine pnd ?_
        have hsB : Sl _ (.slice (some ⟨bbs5, 0, none⟩) 1 1) 9 1 ([.int .i64 (j : Int), .int .i64 (c.n : Int), .int .i64 (c.bg : Int), .int .i64 (-1), .int .i64 (doS R.f R.h (j : Int) o).1.e, .int .i64 (doS R.f R.h (j : Int) o).1.h, .int .i64 (doS R.f R.h (j : Int) o).1.n, .slice q1 (doS R.f R.h (j : Int) o).1.d.length k1, .slice q2 (doS R.f R.h (j : Int) o).1.l.length k2]) := .inr ⟨bbs5, 0, 1, _, 61, (0, 0), rfl, Nat.le_refl _, M.get (b := bbs5) (o := .cells ([.int .i64 (j : Int), .int .i64 (c.n : Int), .int .i64 (c.bg : Int), .int .i64 (-1), .int .i64 (doS R.f R.h (j : Int) o).1.e, .int .i64 (doS R.f R.h (j : Int) o).1.h, .int .i64 (doS R.f R.h (j : Int) o).1.n, .slice q1 (doS R.f R.h (j : Int) o).1.d.length k1, .slice q2 (doS R.f R.h (j : Int) o).1.l.length k2]).toArray 61 (0, 0)) (by simp), rfl, rfl⟩
        have M : Sep w00 (Lo ++ ((bbs5, .cells ([.int .i64 (j : Int), .int .i64 (c.n : Int), .int .i64 (c.bg : Int), .int .i64 (-1), .int .i64 (doS R.f R.h (j : Int) o).1.e, .int .i64 (doS R.f R.h (j : Int) o).1.h, .int .i64 (doS R.f R.h (j : Int) o).1.n, .slice q1 (doS R.f R.h (j : Int) o).1.d.length k1, .slice q2 (doS R.f R.h (j : Int) o).1.l.length k2]).toArray 61 (0, 0)) :: (bal5, .cells [.int .i64 (doS R.f R.h (j : Int) o).1.e, .int .i64 (doS R.f R.h (j : Int) o).1.h, .int .i64 (doS R.f R.h (j : Int) o).1.n, .slice q1 (doS R.f R.h (j : Int) o).1.d.length k1, .slice q2 (doS R.f R.h (j : Int) o).1.l.length k2].toArray 59 (0, 0)) :: (bal4, .cells [.slice pu1 (doS R.f R.h (j : Int) o).2.1.length cu1, .slice ph1 hl1.length ch1].toArray 36 (0, 0)) :: (bal3, .cells (opC o (.slice pd3 o.d.length cd3)).toArray 66 (0, 0)) :: (bal2, .cells [(.slice (some ⟨b7, off7, none⟩) c.l.length cl), .int .i64 ((c.st : Nat) : Int), .int .i64 ((c.n : Nat) : Int), .int .i64 ((c.bg : Nat) : Int), strV c.key].toArray 90 (0, 0)) :: (bbx1, .cells [(.slice pu1 (doS R.f R.h (j : Int) o).2.1.length cu1), (.slice ph1 hl1.length ch1), (.slice pk R.k.length ck), (.slice (some ⟨bc, 0, none⟩) R.c.length c6), (.slice pd R.o.length cd), .int .i64 (R.s : Int)].toArray 46 (0, 0)) :: (bal1, .cells [.slice none 0 0, .slice none 0 0, .slice none 0 0, .slice none 0 0, .slice none 0 0, .int .i64 0].toArray 46 (0, 0)) :: (bc, .cells (cRs R0 ++ rc).toArray Tc (0, 0)) :: (X ++ (L ++ L1)))) _ := M.perm (perm_c fun p => by simp only [List.countP_append, List.countP_cons, List.countP_nil]; omega)
        refine x_apL rfl rfl rfl rfl Try.underlying44 sz61 ze61 rfl by61 rfl rfl how M (ddCs_one hdk) (hsB.src Try.underlying44 (by intro u hu; simp only [List.mem_cons, List.not_mem_nil, or_false] at hu; rcases hu with rfl | rfl | rfl | rfl | rfl | rfl | rfl | rfl | rfl <;> rfl)) (by omega) (by decide) (by omega) ?_
        intro Lo2 v7 w7 how2 M
        obtain ⟨p7, c7, rfl⟩ := how2.shape
        have M : Sep w00 ((bbs5, .cells ([.int .i64 (j : Int), .int .i64 (c.n : Int), .int .i64 (c.bg : Int), .int .i64 (-1), .int .i64 (doS R.f R.h (j : Int) o).1.e, .int .i64 (doS R.f R.h (j : Int) o).1.h, .int .i64 (doS R.f R.h (j : Int) o).1.n, .slice q1 (doS R.f R.h (j : Int) o).1.d.length k1, .slice q2 (doS R.f R.h (j : Int) o).1.l.length k2]).toArray 61 (0, 0)) :: (bal5, .cells [.int .i64 (doS R.f R.h (j : Int) o).1.e, .int .i64 (doS R.f R.h (j : Int) o).1.h, .int .i64 (doS R.f R.h (j : Int) o).1.n, .slice q1 (doS R.f R.h (j : Int) o).1.d.length k1, .slice q2 (doS R.f R.h (j : Int) o).1.l.length k2].toArray 59 (0, 0)) :: (bal4, .cells [.slice pu1 (doS R.f R.h (j : Int) o).2.1.length cu1, .slice ph1 hl1.length ch1].toArray 36 (0, 0)) :: (bal3, .cells (opC o (.slice pd3 o.d.length cd3)).toArray 66 (0, 0)) :: (bal2, .cells [(.slice (some ⟨b7, off7, none⟩) c.l.length cl), .int .i64 ((c.st : Nat) : Int), .int .i64 ((c.n : Nat) : Int), .int .i64 ((c.bg : Nat) : Int), strV c.key].toArray 90 (0, 0)) :: (bbx1, .cells [(.slice pu1 (doS R.f R.h (j : Int) o).2.1.length cu1), (.slice ph1 hl1.length ch1), (.slice pk R.k.length ck), (.slice (some ⟨bc, 0, none⟩) R.c.length c6), (.slice pd R.o.length cd), .int .i64 (R.s : Int)].toArray 46 (0, 0)) :: (bal1, .cells [.slice none 0 0, .slice none 0 0, .slice none 0 0, .slice none 0 0, .slice none 0 0, .int .i64 0].toArray 46 (0, 0)) :: (bc, .cells (cRs R0 ++ rc).toArray Tc (0, 0)) :: (X ++ (L ++ (L1 ++ Lo2)))) w7 := M.perm (perm_c fun p => by simp only [List.countP_append, List.countP_cons, List.countP_nil]; omega)
        have M : Sep w00 ((bal5, .cells [.int .i64 (doS R.f R.h (j : Int) o).1.e, .int .i64 (doS R.f R.h (j : Int) o).1.h, .int .i64 (doS R.f R.h (j : Int) o).1.n, .slice q1 (doS R.f R.h (j : Int) o).1.d.length k1, .slice q2 (doS R.f R.h (j : Int) o).1.l.length k2].toArray 59 (0, 0)) :: (bal4, .cells [.slice pu1 (doS R.f R.h (j : Int) o).2.1.length cu1, .slice ph1 hl1.length ch1].toArray 36 (0, 0)) :: (bal3, .cells (opC o (.slice pd3 o.d.length cd3)).toArray 66 (0, 0)) :: (bal2, .cells [(.slice (some ⟨b7, off7, none⟩) c.l.length cl), .int .i64 ((c.st : Nat) : Int), .int .i64 ((c.n : Nat) : Int), .int .i64 ((c.bg : Nat) : Int), strV c.key].toArray 90 (0, 0)) :: (bbx1, .cells [(.slice pu1 (doS R.f R.h (j : Int) o).2.1.length cu1), (.slice ph1 hl1.length ch1), (.slice pk R.k.length ck), (.slice (some ⟨bc, 0, none⟩) R.c.length c6), (.slice pd R.o.length cd), .int .i64 (R.s : Int)].toArray 46 (0, 0)) :: (bal1, .cells [.slice none 0 0, .slice none 0 0, .slice none 0 0, .slice none 0 0, .slice none 0 0, .int .i64 0].toArray 46 (0, 0)) :: (bc, .cells (cRs R0 ++ rc).toArray Tc (0, 0)) :: (X ++ (L ++ (L1 ++ Lo2)))) w7 := M.tail
        have how3 : OwL Lo2 (.slice p7 (R.o.length + 1) c7) 9 (R.o.length + 1) (ddCs (Rd ++ [(((⟨(j : Int), c.n, c.bg, -1, (doS R.f R.h (j : Int) o).1⟩ : Dd), .slice q1 (doS R.f R.h (j : Int) o).1.d.length k1, .slice q2 (doS R.f R.h (j : Int) o).1.l.length k2) : DdV)])) := by rw [ddCs_app]; exact how2
        refine pnd ?_
        refine go 0 ?_
        refine x_st [_] _ rfl rfl rfl sz44 rfl rfl rfl rfl atM rfl rfl rfl ?_
        intro wst19 hwst19
        have M : Sep w00 ((bal5, .cells [.int .i64 (doS R.f R.h (j : Int) o).1.e, .int .i64 (doS R.f R.h (j : Int) o).1.h, .int .i64 (doS R.f R.h (j : Int) o).1.n, .slice q1 (doS R.f R.h (j : Int) o).1.d.length k1, .slice q2 (doS R.f R.h (j : Int) o).1.l.length k2].toArray 59 (0, 0)) :: (bal4, .cells [.slice pu1 (doS R.f R.h (j : Int) o).2.1.length cu1, .slice ph1 hl1.length ch1].toArray 36 (0, 0)) :: (bal3, .cells (opC o (.slice pd3 o.d.length cd3)).toArray 66 (0, 0)) :: (bal2, .cells [(.slice (some ⟨b7, off7, none⟩) c.l.length cl), .int .i64 ((c.st : Nat) : Int), .int .i64 ((c.n : Nat) : Int), .int .i64 ((c.bg : Nat) : Int), strV c.key].toArray 90 (0, 0)) :: (bbx1, .cells [(.slice pu1 (doS R.f R.h (j : Int) o).2.1.length cu1), (.slice ph1 hl1.length ch1), (.slice pk R.k.length ck), (.slice (some ⟨bc, 0, none⟩) R.c.length c6), (.slice p7 (R.o.length + 1) c7), .int .i64 (R.s : Int)].toArray 46 (0, 0)) :: (bal1, .cells [.slice none 0 0, .slice none 0 0, .slice none 0 0, .slice none 0 0, .slice none 0 0, .int .i64 0].toArray 46 (0, 0)) :: (bc, .cells (cRs R0 ++ rc).toArray Tc (0, 0)) :: (X ++ (L ++ (L1 ++ Lo2)))) wst19 := M.put 4 rfl hwst19
        refine pnd ?_
        refine go 0 ?_
        refine At.sub [(1, _), (2, _), (4, _), (6, _)] ⟨rfl, rfl, rfl, rfl, trivial⟩ ?_
        refine At.cut_n ?_
        have hFn : SyF w00 (L ++ (L1 ++ Lo2)) (.slice pu1 (doS R.f R.h (j : Int) o).2.1.length cu1) (.slice ph1 hl1.length ch1) (.slice pk R.k.length ck) (.slice p7 (R.o.length + 1) c7) (doS R.f R.h (j : Int) o).2.1 (doS R.f R.h (j : Int) o).2.2 R.k (R.o ++ [(⟨(j : Int), c.n, c.bg, -1, (doS R.f R.h (j : Int) o).1⟩ : Dd)]) := ⟨hF1.mono (fun y hy => by simp only [List.mem_append] at hy ⊢; rcases hy with g | g <;> simp [g]), ⟨hl1, hh1, hO1.mono (fun y hy => by simp only [List.mem_append] at hy ⊢; rcases hy with g | g <;> simp [g]), hI1⟩, SgK.mono h.k (fun y hy => List.mem_append_left _ hy), Rd ++ [(((⟨(j : Int), c.n, c.bg, -1, (doS R.f R.h (j : Int) o).1⟩ : Dd), .slice q1 (doS R.f R.h (j : Int) o).1.d.length k1, .slice q2 (doS R.f R.h (j : Int) o).1.l.length k2) : DdV)], by rw [List.map_append, hRd]; rfl, by rw [List.length_append]; exact SgK.own how3 (by decide) (fun y hy => by simp [hy]), fun x hx => by
         rcases List.mem_append.1 hx with g | g
         ·exact (hdk x g).mono (fun y hy => List.mem_append_left _ hy)
         ·obtain rfl := List.mem_singleton.1 g
          exact ⟨q1, k1, q2, k2, rfl, hbr.mono (fun y hy => by simp only [List.mem_append] at hy ⊢; rcases hy with g | g <;> simp [g]), SgK.mono hsr (fun y hy => by simp only [List.mem_append] at hy ⊢; rcases hy with g | g <;> simp [g])⟩⟩
        exact ⟨_, _, _, _, _, _, _, _, _, _, _, _, (some ⟨b7, off7, none⟩), cl, ((c.st : Nat) : Int), { c with st := 3 }, L1 ++ Lo2, _, rfl, hRn, hFn, (hxo.mono (fun y hy => List.mem_append_left _ hy)), rfl, rfl, by simp only; omega, by simp only; omega, M.tail.tail.tail⟩
      ·intro hco8
       have hst3b : c.st = 3 := by omega
       refine gs 0 0 ?_
       refine W.seqC (fun F' w' => ∃ pk1 ck1 L1, F' = [(1, .int .i64 ((j : Nat) : Int)), (2, ptr bbx1), (4, ptr bal1), (6, ptr bal2)] ∧ AskK w00 (L ++ L1) (.slice pk1 (if c.key = [] then R.k else (freeR R.k (j : Int) c.key).1).length ck1) (if c.key = [] then R.k else (freeR R.k (j : Int) c.key).1) ∧ Sep w00 ((bal3, .cells (opC o (.slice pd3 o.d.length cd3)).toArray 66 (0, 0)) :: (bal2, .cells [(.slice (some ⟨b7, off7, none⟩) c.l.length cl), .int .i64 ((c.st : Nat) : Int), .int .i64 ((c.n : Nat) : Int), .int .i64 ((c.bg : Nat) : Int), strV c.key].toArray 90 (0, 0)) :: (bbx1, .cells [(.slice pu R.f.length cu), (.slice ph nh ch), (.slice pk1 (if c.key = [] then R.k else (freeR R.k (j : Int) c.key).1).length ck1), (.slice (some ⟨bc, 0, none⟩) R.c.length c6), (.slice pd R.o.length cd), .int .i64 (R.s : Int)].toArray 46 (0, 0)) :: (bal1, .cells [.slice none 0 0, .slice none 0 0, .slice none 0 0, .slice none 0 0, .slice none 0 0, .int .i64 0].toArray 46 (0, 0)) :: (bc, .cells (cRs R0 ++ rc).toArray Tc (0, 0)) :: (X ++ (L ++ L1))) w') ?_ ?_
       ·refine go 0 ?_
        refine x_ld rfl rfl rfl Try.underlying9 rfl rfl (cell_of (M.at_ 1 rfl) rfl) ?_
        refine cnd 1 ?_ ?_
        ·intro hco9
         refine go 0 ?_
         refine x_ldA [_] rfl rfl rfl Try.underlying42 rfl sz42 rfl rfl ⟨_, _, _, M.at_ 2 rfl, rfl⟩ ?_
         refine go 0 ?_
         refine x_ld rfl rfl rfl Try.underlying9 rfl rfl (cell_of (M.at_ 1 rfl) rfl) ?_
         refine x_call rfl rfl rfl rfl rfl en33 (free18_c (X := _ :: _ :: _ :: _ :: _ :: X) M h.k (by omega) (by omega) (by omega)) ?_
         rintro r_ w12_ ⟨pk1, ck1, L1, v1, e1, rfl, hk1, M⟩
         have M : Sep w00 ((bal3, .cells (opC o (.slice pd3 o.d.length cd3)).toArray 66 (0, 0)) :: (bal2, .cells [(.slice (some ⟨b7, off7, none⟩) c.l.length cl), .int .i64 ((c.st : Nat) : Int), .int .i64 ((c.n : Nat) : Int), .int .i64 ((c.bg : Nat) : Int), strV c.key].toArray 90 (0, 0)) :: (bbx1, .cells [(.slice pu R.f.length cu), (.slice ph nh ch), (.slice pk R.k.length ck), (.slice (some ⟨bc, 0, none⟩) R.c.length c6), (.slice pd R.o.length cd), .int .i64 (R.s : Int)].toArray 46 (0, 0)) :: (bal1, .cells [.slice none 0 0, .slice none 0 0, .slice none 0 0, .slice none 0 0, .slice none 0 0, .int .i64 0].toArray 46 (0, 0)) :: (bc, .cells (cRs R0 ++ rc).toArray Tc (0, 0)) :: (X ++ (L ++ L1))) w12_ := M
         refine ⟨trivial, ?_⟩
         refine go 0 ?_
         refine x_st [_] _ rfl rfl rfl sz42 rfl rfl rfl rfl atM rfl rfl rfl ?_
         intro wst20 hwst20
         have M : Sep w00 ((bal3, .cells (opC o (.slice pd3 o.d.length cd3)).toArray 66 (0, 0)) :: (bal2, .cells [(.slice (some ⟨b7, off7, none⟩) c.l.length cl), .int .i64 ((c.st : Nat) : Int), .int .i64 ((c.n : Nat) : Int), .int .i64 ((c.bg : Nat) : Int), strV c.key].toArray 90 (0, 0)) :: (bbx1, .cells [(.slice pu R.f.length cu), (.slice ph nh ch), (.slice pk1 (freeR R.k (j : Int) c.key).1.length ck1), (.slice (some ⟨bc, 0, none⟩) R.c.length c6), (.slice pd R.o.length cd), .int .i64 (R.s : Int)].toArray 46 (0, 0)) :: (bal1, .cells [.slice none 0 0, .slice none 0 0, .slice none 0 0, .slice none 0 0, .slice none 0 0, .int .i64 0].toArray 46 (0, 0)) :: (bc, .cells (cRs R0 ++ rc).toArray Tc (0, 0)) :: (X ++ (L ++ L1))) wst20 := M.put 2 rfl hwst20
         refine ⟨trivial, ?_⟩
         refine go 0 ?_
         refine At.sub [(1, _), (2, _), (4, _), (6, _)] ⟨rfl, rfl, rfl, rfl, trivial⟩ ?_
         refine At.cut_n ?_
         exact ⟨pk1, ck1, L1, rfl, by rw [if_neg hco9]; exact hk1, by rw [if_neg hco9]; exact M⟩
        ·intro hco9
         refine go 0 ?_
         refine At.sub [(1, _), (2, _), (4, _), (6, _)] ⟨rfl, rfl, rfl, rfl, trivial⟩ ?_
         refine At.cut_n ?_
         exact ⟨pk, ck, [], rfl, by rw [if_pos hco9, List.append_nil]; exact h.k, by rw [if_pos hco9, List.append_nil]; exact M⟩
       rintro F1 wd ⟨pk1, ck1, L1, rfl, hk1, M⟩
       have hkq : (if c.key = [] then R.k else (freeR R.k (j : Int) c.key).1).length ≤ 400 := by
        have := freeR_len (k := R.k) (who := (j : Int)) (key := c.key)
        split <;> omega
       refine go 0 ?_
       refine x_ldA [_] rfl rfl rfl Try.underlying42 rfl sz42 rfl rfl ⟨_, _, _, M.at_ 2 rfl, rfl⟩ ?_
       refine go 0 ?_
       refine x_call rfl rfl rfl rfl rfl en33 (free18_c (key := []) (X := _ :: _ :: _ :: _ :: _ :: X) (L := L ++ L1) M hk1 (by omega) (by omega) (by omega)) ?_
       rintro r_ w13_ ⟨pk2, ck2, L2, v2, e2, rfl, hk2, M⟩
       have M : Sep w00 ((bal3, .cells (opC o (.slice pd3 o.d.length cd3)).toArray 66 (0, 0)) :: (bal2, .cells [(.slice (some ⟨b7, off7, none⟩) c.l.length cl), .int .i64 ((c.st : Nat) : Int), .int .i64 ((c.n : Nat) : Int), .int .i64 ((c.bg : Nat) : Int), strV c.key].toArray 90 (0, 0)) :: (bbx1, .cells [(.slice pu R.f.length cu), (.slice ph nh ch), (.slice pk1 (if c.key = [] then R.k else (freeR R.k (j : Int) c.key).1).length ck1), (.slice (some ⟨bc, 0, none⟩) R.c.length c6), (.slice pd R.o.length cd), .int .i64 (R.s : Int)].toArray 46 (0, 0)) :: (bal1, .cells [.slice none 0 0, .slice none 0 0, .slice none 0 0, .slice none 0 0, .slice none 0 0, .int .i64 0].toArray 46 (0, 0)) :: (bc, .cells (cRs R0 ++ rc).toArray Tc (0, 0)) :: (X ++ ((L ++ L1) ++ L2))) w13_ := M
       refine ⟨trivial, ?_⟩
       refine go 0 ?_
       refine x_st [_] _ rfl rfl rfl sz42 rfl rfl rfl rfl atM rfl rfl rfl ?_
       intro wst21 hwst21
       have M : Sep w00 ((bal3, .cells (opC o (.slice pd3 o.d.length cd3)).toArray 66 (0, 0)) :: (bal2, .cells [(.slice (some ⟨b7, off7, none⟩) c.l.length cl), .int .i64 ((c.st : Nat) : Int), .int .i64 ((c.n : Nat) : Int), .int .i64 ((c.bg : Nat) : Int), strV c.key].toArray 90 (0, 0)) :: (bbx1, .cells [(.slice pu R.f.length cu), (.slice ph nh ch), (.slice pk2 (freeR (if c.key = [] then R.k else (freeR R.k (j : Int) c.key).1) (j : Int) []).1.length ck2), (.slice (some ⟨bc, 0, none⟩) R.c.length c6), (.slice pd R.o.length cd), .int .i64 (R.s : Int)].toArray 46 (0, 0)) :: (bal1, .cells [.slice none 0 0, .slice none 0 0, .slice none 0 0, .slice none 0 0, .slice none 0 0, .int .i64 0].toArray 46 (0, 0)) :: (bc, .cells (cRs R0 ++ rc).toArray Tc (0, 0)) :: (X ++ ((L ++ L1) ++ L2))) wst21 := M.put 2 rfl hwst21
       obtain ⟨Rd, hRd, hsgd, hdk⟩ := h.o
       have hRdl : Rd.length = R.o.length := by rw [← hRd, List.length_map]
       refine ⟨trivial, ?_⟩
       refine go 0 ?_
       refine x_bs0 rfl rfl rfl Try.underlying44 sz61 ?_
       intro bb wb hbb hwb
       have M := M.acons hbb hwb
       refine ⟨trivial, ?_⟩
       refine go 0 ?_
       refine x_ld rfl rfl rfl Try.underlying44 rfl rfl (cell_of (M.at_ 3 rfl) rfl) ?_
       refine x_apL (L := [_]) (L0 := (bal3, .cells (opC o (.slice pd3 o.d.length cd3)).toArray 66 (0, 0)) :: (bal2, .cells [(.slice (some ⟨b7, off7, none⟩) c.l.length cl), .int .i64 ((c.st : Nat) : Int), .int .i64 ((c.n : Nat) : Int), .int .i64 ((c.bg : Nat) : Int), strV c.key].toArray 90 (0, 0)) :: (bbx1, .cells [(.slice pu R.f.length cu), (.slice ph nh ch), (.slice pk2 (freeR (if c.key = [] then R.k else (freeR R.k (j : Int) c.key).1) (j : Int) []).1.length ck2), (.slice (some ⟨bc, 0, none⟩) R.c.length c6), (.slice pd R.o.length cd), .int .i64 (R.s : Int)].toArray 46 (0, 0)) :: (bal1, .cells [.slice none 0 0, .slice none 0 0, .slice none 0 0, .slice none 0 0, .slice none 0 0, .int .i64 0].toArray 46 (0, 0)) :: (bc, .cells (cRs R0 ++ rc).toArray Tc (0, 0)) :: (X ++ ((L ++ L1) ++ L2))) (cs := []) (nn := 0) rfl rfl rfl rfl Try.underlying44 sz61 ze61 rfl by61 rfl rfl (.inr ⟨bb, 0, [], _, rfl, rfl, rfl, rfl⟩) M (by simp) ((hsgd _ _ M (fun y hy => by simp [hy])).src Try.underlying44 (ddCs_one hdk)) (by omega) (by decide) (by omega) ?_
       intro Lo v6 w6 how M
       rw [Nat.zero_add, List.nil_append] at how
       obtain ⟨p6, c6d, rfl⟩ := how.shape
       obtain ⟨bo, ro, To, hne0, hown⟩ := OwL.rows how hRdl
       have M : Sep w00 ((bal3, .cells (opC o (.slice pd3 o.d.length cd3)).toArray 66 (0, 0)) :: (bal2, .cells [(.slice (some ⟨b7, off7, none⟩) c.l.length cl), .int .i64 ((c.st : Nat) : Int), .int .i64 ((c.n : Nat) : Int), .int .i64 ((c.bg : Nat) : Int), strV c.key].toArray 90 (0, 0)) :: (bbx1, .cells [(.slice pu R.f.length cu), (.slice ph nh ch), (.slice pk2 (freeR (if c.key = [] then R.k else (freeR R.k (j : Int) c.key).1) (j : Int) []).1.length ck2), (.slice (some ⟨bc, 0, none⟩) R.c.length c6), (.slice pd R.o.length cd), .int .i64 (R.s : Int)].toArray 46 (0, 0)) :: (bal1, .cells [.slice none 0 0, .slice none 0 0, .slice none 0 0, .slice none 0 0, .slice none 0 0, .int .i64 0].toArray 46 (0, 0)) :: (bc, .cells (cRs R0 ++ rc).toArray Tc (0, 0)) :: (Lo ++ (X ++ ((L ++ L1) ++ L2)))) _ := M.perm (perm_c fun p => by simp only [List.countP_append, List.countP_cons, List.countP_nil]; omega)
       refine ⟨trivial, ?_⟩
       refine go 0 ?_
       refine x_st [_] _ rfl rfl rfl sz44 rfl rfl rfl rfl atM rfl rfl rfl ?_
       intro wst22 hwst22
       have M : Sep w00 ((bal3, .cells (opC o (.slice pd3 o.d.length cd3)).toArray 66 (0, 0)) :: (bal2, .cells [(.slice (some ⟨b7, off7, none⟩) c.l.length cl), .int .i64 ((c.st : Nat) : Int), .int .i64 ((c.n : Nat) : Int), .int .i64 ((c.bg : Nat) : Int), strV c.key].toArray 90 (0, 0)) :: (bbx1, .cells [(.slice pu R.f.length cu), (.slice ph nh ch), (.slice pk2 (freeR (if c.key = [] then R.k else (freeR R.k (j : Int) c.key).1) (j : Int) []).1.length ck2), (.slice (some ⟨bc, 0, none⟩) R.c.length c6), (.slice p6 R.o.length c6d), .int .i64 (R.s : Int)].toArray 46 (0, 0)) :: (bal1, .cells [.slice none 0 0, .slice none 0 0, .slice none 0 0, .slice none 0 0, .slice none 0 0, .int .i64 0].toArray 46 (0, 0)) :: (bc, .cells (cRs R0 ++ rc).toArray Tc (0, 0)) :: (Lo ++ (X ++ ((L ++ L1) ++ L2)))) wst22 := M.put 2 rfl hwst22
       refine ⟨trivial, ?_⟩
       refine go 0 ?_
       refine W.loop (σ := Nat) (fun i => [(1, _), (2, _), (4, _), (6, _), (10, .int .i64 ((i : Nat) : Int))]) (fun i w => i ≤ R.o.length ∧ ∃ Rc Lc, Rc.length = R.o.length ∧ Rc.map (·.1) = endO (R.o.take i) (j : Int) c.n R.s ++ R.o.drop i ∧ (∀ x ∈ Rc, DdK w00 L x) ∧ (R.o.length = 0 → Lc = Lo) ∧ (R.o.length ≠ 0 → Lc = [(bo, .cells (ddCs Rc ++ ro).toArray To (0, 0))]) ∧ Sep w00 ((bal3, .cells (opC o (.slice pd3 o.d.length cd3)).toArray 66 (0, 0)) :: (bal2, .cells [(.slice (some ⟨b7, off7, none⟩) c.l.length cl), .int .i64 ((c.st : Nat) : Int), .int .i64 ((c.n : Nat) : Int), .int .i64 ((c.bg : Nat) : Int), strV c.key].toArray 90 (0, 0)) :: (bbx1, .cells [(.slice pu R.f.length cu), (.slice ph nh ch), (.slice pk2 (freeR (if c.key = [] then R.k else (freeR R.k (j : Int) c.key).1) (j : Int) []).1.length ck2), (.slice (some ⟨bc, 0, none⟩) R.c.length c6), (.slice p6 R.o.length c6d), .int .i64 (R.s : Int)].toArray 46 (0, 0)) :: (bal1, .cells [.slice none 0 0, .slice none 0 0, .slice none 0 0, .slice none 0 0, .slice none 0 0, .int .i64 0].toArray 46 (0, 0)) :: (bc, .cells (cRs R0 ++ rc).toArray Tc (0, 0)) :: (Lc ++ (X ++ ((L ++ L1) ++ L2)))) w) (fun i => R.o.length - i) 0 ⟨rfl, rfl, rfl, rfl, rfl, trivial⟩ ⟨Nat.zero_le _, Rd, Lo, hRdl, hRd, hdk, fun _ => rfl, fun h => (hne0 h).2, M⟩ ?_
       rintro i w ⟨hi, Rc, Lc, hcl5, hcm5, hck, hz0, hnz0, M⟩
       refine go 0 ?_
       refine x_ld rfl rfl rfl Try.underlying44 rfl rfl (cell_of (M.at_ 2 rfl) rfl) ?_
       refine cnd 2 ?_ ?_
       ·intro hco10
        have hne : R.o.length ≠ 0 := by omega
        obtain ⟨rfl, _⟩ := hne0 hne
        obtain rfl := hnz0 hne
        obtain ⟨x, hx⟩ := get_lt (l := Rc) (q := i) (by omega)
        obtain ⟨d, hdd⟩ := get_lt (l := R.o) (q := i) (by omega)
        have hxd : x.1 = d := by
         have h1 : (Rc.map (·.1))[i]? = some x.1 := by rw [List.getElem?_map, hx]; rfl
         have hel : (endO (R.o.take i) (j : Int) c.n R.s).length = i := by unfold endO; rw [List.length_map, List.length_take]; omega
         rw [hcm5, List.getElem?_append_right (by omega), hel, Nat.sub_self, List.getElem?_drop, Nat.add_zero, hdd] at h1
         exact (Option.some.inj h1).symm
        have hdr : R.o.drop i = d :: R.o.drop (i + 1) := by
         obtain ⟨h1, rfl⟩ := List.getElem?_eq_some_iff.1 hdd
         exact List.drop_eq_getElem_cons h1
        have hes := endO_snoc (who := (j : Int)) (n := c.n) (s := R.s) hdd
        have hcl9 : (ddCs Rc ++ ro).length ≥ R.o.length * 9 := by rw [List.length_append, ddCs_len]; omega
        obtain ⟨x1, x2⟩ := x
        simp only at hxd
        subst hxd
        refine go 0 ?_
        refine W.regD (by kernel_rfl) #[0, 1, 0, 7, 15, 31, 0, 127, 255, 511, 1023, 511, 4095, 8191, 16383, 511, 33279, 131071, 262143] [(0, false), (1, false), (2, false), (3, false), (4, false), (5, false), (6, false), (7, false), (8, false), (9, false), (10, false), (11, false), (12, false), (13, false), (14, false), (15, false), (16, false), (17, false), (18, false)] (by kernel_rfl) ?_
        intro K wD3 hK hwD3
        have M := M.drew hwD3
        refine go 0 ?_
        refine x_ld rfl rfl rfl Try.underlying44 rfl rfl (cell_of (M.at_ 2 rfl) rfl) ?_
        refine go 0 ?_
        refine x_ia i rfl rfl rfl Try.underlying44 sz61 rfl rfl rfl (by omega) ?_
        refine go 0 ?_
        refine x_ld rfl rfl rfl Try.underlying3 rfl rfl (cell_of (M.at_ 5 rfl) (ddCs_get (q := 0) hx (by decide) (by omega) rfl)) ?_
        refine spl 1 80 ?_ ?_
        ·intro hsp4
         refine go 0 ?_
         refine x_ld rfl rfl rfl Try.underlying44 rfl rfl (cell_of (M.at_ 2 rfl) rfl) ?_
         refine go 0 ?_
         refine x_ia i rfl rfl rfl Try.underlying44 sz61 rfl rfl rfl (by omega) ?_
         refine go 0 ?_
         refine x_ld rfl rfl rfl Try.underlying3 rfl rfl (cell_of (M.at_ 5 rfl) (ddCs_get (q := 1) hx (by decide) (by omega) rfl)) ?_
         refine go 0 ?_
         refine x_ld rfl rfl rfl Try.underlying3 rfl rfl (cell_of (M.at_ 1 rfl) rfl) ?_
         refine cnd 1 ?_ ?_
         ·intro hco11
          refine go 0 ?_
          refine x_ld rfl rfl rfl Try.underlying44 rfl rfl (cell_of (M.at_ 2 rfl) rfl) ?_
          refine go 0 ?_
          refine x_ld rfl rfl rfl Try.underlying3 rfl rfl (cell_of (M.at_ 2 rfl) rfl) ?_
          refine x_ia i rfl rfl rfl Try.underlying44 sz61 rfl rfl rfl (by omega) ?_
          refine go 0 ?_
          refine x_st [_] (ddCs (Rc.set i (endDV R.s (x1, x2))) ++ ro) rfl rfl rfl sz3 rfl rfl rfl rfl (M.at_ 5 rfl) rfl (Nat.ble_eq_true_of_le (by simp only [List.length_cons, List.length_nil]; omega)) (ddCs_put (q := 3) hx (by decide) (by omega) rfl) ?_
          intro wst23 hwst23
          have M : Sep w00 ((bal3, .cells (opC o (.slice pd3 o.d.length cd3)).toArray 66 (0, 0)) :: (bal2, .cells [(.slice (some ⟨b7, off7, none⟩) c.l.length cl), .int .i64 ((c.st : Nat) : Int), .int .i64 ((c.n : Nat) : Int), .int .i64 ((c.bg : Nat) : Int), strV c.key].toArray 90 (0, 0)) :: (bbx1, .cells [(.slice pu R.f.length cu), (.slice ph nh ch), (.slice pk2 (freeR (if c.key = [] then R.k else (freeR R.k (j : Int) c.key).1) (j : Int) []).1.length ck2), (.slice (some ⟨bc, 0, none⟩) R.c.length c6), (.slice (some ⟨bo, 0, none⟩) R.o.length c6d), .int .i64 (R.s : Int)].toArray 46 (0, 0)) :: (bal1, .cells [.slice none 0 0, .slice none 0 0, .slice none 0 0, .slice none 0 0, .slice none 0 0, .int .i64 0].toArray 46 (0, 0)) :: (bc, .cells (cRs R0 ++ rc).toArray Tc (0, 0)) :: ([(bo, .cells (ddCs (Rc.set i (endDV R.s (x1, x2))) ++ ro).toArray To (0, 0))] ++ (X ++ ((L ++ L1) ++ L2)))) wst23 := M.put 5 rfl hwst23
          refine ⟨trivial, ?_⟩
          refine go 0 ?_
          refine x_add _ rfl rfl rfl rfl rfl (wadd (by omega) (by omega)) ?_
          refine go 0 ?_
          exact At.back (i + 1) ⟨rfl, rfl, rfl, rfl, rfl, trivial⟩ ⟨by omega, Rc.set i (endDV R.s (x1, x2)), _, by rw [List.length_set]; exact hcl5, by
           rw [hes, if_pos ⟨hsp4, by omega⟩, List.map_set, hcm5, hdr]
           have hel : (endO (R.o.take i) (j : Int) c.n R.s).length = i := by unfold endO; rw [List.length_map, List.length_take]; omega
           rw [List.set_append_right _ _ (by omega), hel, Nat.sub_self]
           simp [endDV, endD], fun y hy => by
           rcases List.mem_or_eq_of_mem_set hy with g | rfl
           ·exact hck y g
           ·exact hck (x1, x2) (List.mem_of_getElem? hx), fun h => absurd h hne, fun _ => rfl, M⟩ (by first | omega | (simp only; omega) | (simp; done) | (simp; omega))
         ·intro hco11
          refine go 0 ?_
          refine x_add _ rfl rfl rfl rfl rfl (wadd (by omega) (by omega)) ?_
          refine go 0 ?_
          exact At.back (i + 1) ⟨rfl, rfl, rfl, rfl, rfl, trivial⟩ ⟨by omega, Rc, _, hcl5, by rw [hes, if_neg (fun e => hco11 (by rw [e.2])), hcm5, hdr]; simp, hck, fun h => absurd h hne, fun _ => rfl, M⟩ (by first | omega | (simp only; omega) | (simp; done) | (simp; omega))
        ·intro hsp4
         refine go 0 ?_
         refine x_add _ rfl rfl rfl rfl rfl (wadd (by omega) (by omega)) ?_
         refine go 0 ?_
         exact At.back (i + 1) ⟨rfl, rfl, rfl, rfl, rfl, trivial⟩ ⟨by omega, Rc, _, hcl5, by rw [hes, if_neg (fun e => hsp4 e.1), hcm5, hdr]; simp, hck, fun h => absurd h hne, fun _ => rfl, M⟩ (by first | omega | (simp only; omega) | (simp; done) | (simp; omega))
       ·intro hco10
        obtain rfl : i = R.o.length := by omega
        rw [List.take_length, List.drop_length, List.append_nil] at hcm5
        obtain ⟨L4, hL4, hz4, hnz4⟩ := hown Rc hcl5
        obtain rfl : L4 = Lc := by
         by_cases e : R.o.length = 0
         ·rw [hz0 e, hz4 e]
         ·rw [hnz0 e, hnz4 e]
        have hll : c.l.length = r.length + 1 := by rw [hlc]; rfl
        rw [hlc] at hxo
        obtain ⟨pz, cz, ez, hcz, htl⟩ := hxo.tail M (fun y hy => by simp [hy])
        obtain ⟨ez1, ez2⟩ : pz = some ⟨b7, off7, none⟩ ∧ cz = cl := by
         simp only [List.length_cons, Value.slice.injEq] at ez
         exact ⟨ez.1.symm, ez.2.2.symm⟩
        subst ez1
        subst ez2
        rw [hll] at M
        refine go 0 ?_
        refine W.regD (by kernel_rfl) #[0, 1, 3, 0, 8, 24, 63, 127] [(0, false), (1, false), (2, false), (3, false), (4, false), (5, false), (6, false), (7, true)] (by kernel_rfl) ?_
        intro K wD4 hK hwD4
        have M := M.drew hwD4
        refine go 0 ?_
        refine x_ld rfl rfl rfl Try.underlying62 rfl rfl (cell_of (M.at_ 1 rfl) rfl) ?_
        refine x_sll 1 rfl rfl rfl Try.underlying62 sz66 rfl rfl rfl (by omega) ?_
        refine go 0 ?_
        refine x_ld rfl rfl rfl Try.underlying3 rfl rfl (cell_of (M.at_ 1 rfl) rfl) ?_
        refine x_add ((c.n + 1 : Nat) : Int) rfl rfl rfl rfl rfl (by rw [wadd (by omega) (by omega)]; simp) ?_
        refine go 1 ?_
        refine x_st [_, _, _, _, _] _ rfl rfl rfl sz90 rfl rfl rfl rfl atM rfl rfl rfl ?_
        intro wst24 hwst24
        have M : Sep w00 ((bal3, .cells (opC o (.slice pd3 o.d.length cd3)).toArray 66 (0, 0)) :: (bal2, .cells [(.slice (if cz = 1 then some ⟨b7, off7, none⟩ else (some (⟨b7, off7, none⟩ : Addr)).map fun x => x.add (1 * 9)) r.length (cz - 1)), .int .i64 0, .int .i64 ((c.n + 1 : Nat) : Int), .int .i64 0, strV ([] : List UInt8)].toArray 90 (0, 0)) :: (bbx1, .cells [(.slice pu R.f.length cu), (.slice ph nh ch), (.slice pk2 (freeR (if c.key = [] then R.k else (freeR R.k (j : Int) c.key).1) (j : Int) []).1.length ck2), (.slice (some ⟨bc, 0, none⟩) R.c.length c6), (.slice p6 R.o.length c6d), .int .i64 (R.s : Int)].toArray 46 (0, 0)) :: (bal1, .cells [.slice none 0 0, .slice none 0 0, .slice none 0 0, .slice none 0 0, .slice none 0 0, .int .i64 0].toArray 46 (0, 0)) :: (bc, .cells (cRs R0 ++ rc).toArray Tc (0, 0)) :: (L4 ++ (X ++ ((L ++ L1) ++ L2)))) wst24 := M.put 1 rfl hwst24
        refine pnd ?_
        refine go 0 ?_
        refine x_st [_] _ rfl rfl rfl sz3 rfl rfl rfl rfl atM rfl rfl rfl ?_
        intro wst25 hwst25
        have M : Sep w00 ((bal3, .cells (opC o (.slice pd3 o.d.length cd3)).toArray 66 (0, 0)) :: (bal2, .cells [(.slice (if cz = 1 then some ⟨b7, off7, none⟩ else (some (⟨b7, off7, none⟩ : Addr)).map fun x => x.add (1 * 9)) r.length (cz - 1)), .int .i64 (-1), .int .i64 ((c.n + 1 : Nat) : Int), .int .i64 0, strV ([] : List UInt8)].toArray 90 (0, 0)) :: (bbx1, .cells [(.slice pu R.f.length cu), (.slice ph nh ch), (.slice pk2 (freeR (if c.key = [] then R.k else (freeR R.k (j : Int) c.key).1) (j : Int) []).1.length ck2), (.slice (some ⟨bc, 0, none⟩) R.c.length c6), (.slice p6 R.o.length c6d), .int .i64 (R.s : Int)].toArray 46 (0, 0)) :: (bal1, .cells [.slice none 0 0, .slice none 0 0, .slice none 0 0, .slice none 0 0, .slice none 0 0, .int .i64 0].toArray 46 (0, 0)) :: (bc, .cells (cRs R0 ++ rc).toArray Tc (0, 0)) :: (L4 ++ (X ++ ((L ++ L1) ++ L2)))) wst25 := M.put 1 rfl hwst25
        refine ⟨trivial, ?_⟩
        refine go 0 ?_
        refine At.sub [(1, _), (2, _), (4, _), (6, _)] ⟨rfl, rfl, rfl, rfl, trivial⟩ ?_
        refine At.cut_n ?_
        have hRn : stepR' R j c o = { R with k := (freeR (if c.key = [] then R.k else (freeR R.k (j : Int) c.key).1) (j : Int) []).1, o := endO R.o (j : Int) c.n R.s, c := R.c.set j (⟨r, 0, c.n + 1, 0, []⟩ : RC), s := R.s + 1 } := by unfold stepR'; rw [if_neg (by omega), if_neg (by omega), if_neg (by omega), hlc]; rfl
        have hml : ∀ y ∈ L, y ∈ L ++ (L1 ++ (L2 ++ L4)) := fun y hy => List.mem_append_left _ hy
        have hFn : SyF w00 (L ++ (L1 ++ (L2 ++ L4))) (.slice pu R.f.length cu) (.slice ph nh ch) (.slice pk2 (freeR (if c.key = [] then R.k else (freeR R.k (j : Int) c.key).1) (j : Int) []).1.length ck2) (.slice p6 R.o.length c6d) R.f R.h (freeR (if c.key = [] then R.k else (freeR R.k (j : Int) c.key).1) (j : Int) []).1 (endO R.o (j : Int) c.n R.s) := ⟨hF0.f.mono hml, let ⟨hl, h1, h2, h3⟩ := hF0.hs; ⟨hl, h1, h2.mono hml, h3⟩, SgK.mono hk2 (fun y hy => by simp only [List.mem_append] at hy ⊢; rcases hy with (g | g) | g <;> simp [g]), Rc, hcm5, by
         have e : (endO R.o (j : Int) c.n R.s).length = R.o.length := by unfold endO; rw [List.length_map]
         rw [e]
         exact SgK.own hL4 (by decide) (fun y hy => by simp [hy]), fun x hx => (hck x hx).mono hml⟩
        have M9 : Sep w00 ((bal2, .cells [(.slice (if cz = 1 then some ⟨b7, off7, none⟩ else (some (⟨b7, off7, none⟩ : Addr)).map fun x => x.add (1 * 9)) r.length (cz - 1)), .int .i64 (-1), .int .i64 ((c.n + 1 : Nat) : Int), .int .i64 0, strV ([] : List UInt8)].toArray 90 (0, 0)) :: (bbx1, .cells [(.slice pu R.f.length cu), (.slice ph nh ch), (.slice pk2 (freeR (if c.key = [] then R.k else (freeR R.k (j : Int) c.key).1) (j : Int) []).1.length ck2), (.slice (some ⟨bc, 0, none⟩) R.c.length c6), (.slice p6 R.o.length c6d), .int .i64 (R.s : Int)].toArray 46 (0, 0)) :: (bal1, .cells [.slice none 0 0, .slice none 0 0, .slice none 0 0, .slice none 0 0, .slice none 0 0, .int .i64 0].toArray 46 (0, 0)) :: (bc, .cells (cRs R0 ++ rc).toArray Tc (0, 0)) :: (X ++ (L ++ (L1 ++ (L2 ++ L4))))) _ := (show Sep w00 ((bal2, .cells [(.slice (if cz = 1 then some ⟨b7, off7, none⟩ else (some (⟨b7, off7, none⟩ : Addr)).map fun x => x.add (1 * 9)) r.length (cz - 1)), .int .i64 (-1), .int .i64 ((c.n + 1 : Nat) : Int), .int .i64 0, strV ([] : List UInt8)].toArray 90 (0, 0)) :: (bbx1, .cells [(.slice pu R.f.length cu), (.slice ph nh ch), (.slice pk2 (freeR (if c.key = [] then R.k else (freeR R.k (j : Int) c.key).1) (j : Int) []).1.length ck2), (.slice (some ⟨bc, 0, none⟩) R.c.length c6), (.slice p6 R.o.length c6d), .int .i64 (R.s : Int)].toArray 46 (0, 0)) :: (bal1, .cells [.slice none 0 0, .slice none 0 0, .slice none 0 0, .slice none 0 0, .slice none 0 0, .int .i64 0].toArray 46 (0, 0)) :: (bc, .cells (cRs R0 ++ rc).toArray Tc (0, 0)) :: (L4 ++ (X ++ ((L ++ L1) ++ L2)))) _ from M.tail).perm (perm_c fun p => by simp only [List.countP_append, List.countP_cons, List.countP_nil]; omega)
        exact ⟨_, _, _, _, _, _, _, _, _, _, _, _, (if cz = 1 then some ⟨b7, off7, none⟩ else (some (⟨b7, off7, none⟩ : Addr)).map fun x => x.add (1 * 9)), cz - 1, -1, (⟨r, 0, c.n + 1, 0, []⟩ : RC), L1 ++ (L2 ++ L4), _, rfl, hRn, hFn, htl.mono hml, rfl, rfl, by simp, by simp, M9⟩
   rintro F1 wc ⟨pu1, nu1, cu1, ph1, nh1, ch1, pk1, nk1, ck1, pd1, nd1, cd1, pl1, cl1, z1, c1, L1, Rn, rfl, hRn, hF1, hops1, hRc, hRs, hz1, hz3, M⟩
   refine go 1 ?_
   refine x_add ((c1.st : Nat) : Int) rfl rfl rfl rfl rfl (by rw [wadd (by omega) (by omega)]; omega) ?_
   refine go 0 ?_
   refine x_st [_] _ rfl rfl rfl sz3 rfl rfl rfl rfl atM rfl rfl rfl ?_
   intro wst26 hwst26
   have M : Sep w00 ((bal2, .cells [(.slice pl1 c1.l.length cl1), .int .i64 ((c1.st : Nat) : Int), .int .i64 ((c1.n : Nat) : Int), .int .i64 ((c1.bg : Nat) : Int), strV c1.key].toArray 90 (0, 0)) :: (bbx1, .cells [(.slice pu1 nu1 cu1), (.slice ph1 nh1 ch1), (.slice pk1 nk1 ck1), (.slice (some ⟨bc, 0, none⟩) R.c.length c6), (.slice pd1 nd1 cd1), .int .i64 (R.s : Int)].toArray 46 (0, 0)) :: (bal1, .cells [.slice none 0 0, .slice none 0 0, .slice none 0 0, .slice none 0 0, .slice none 0 0, .int .i64 0].toArray 46 (0, 0)) :: (bc, .cells (cRs R0 ++ rc).toArray Tc (0, 0)) :: (X ++ (L ++ L1))) wst26 := M.put 0 rfl hwst26
   have hcl7 : (cRs R0 ++ rc).length ≥ R.c.length * 5 := by rw [List.length_append, hl2]; omega
   refine ⟨trivial, ?_⟩
   refine go 2 ?_
   refine x_ia j rfl rfl rfl Try.underlying43 sz90 rfl rfl rfl (by omega) ?_
   refine x_st [_, _, _, _, _] (cRs (R0.set j (c1, .slice pl1 c1.l.length cl1)) ++ rc) rfl rfl rfl sz90 rfl rfl rfl rfl (M.at_ 3 rfl) rfl (Nat.ble_eq_true_of_le (by simp only [List.length_cons, List.length_nil]; omega)) (cRs_put (R := R0) (k := j) (x' := (c1, .slice pl1 c1.l.length cl1)) (by omega)) ?_
   intro wst27 hwst27
   have M : Sep w00 ((bal2, .cells [(.slice pl1 c1.l.length cl1), .int .i64 ((c1.st : Nat) : Int), .int .i64 ((c1.n : Nat) : Int), .int .i64 ((c1.bg : Nat) : Int), strV c1.key].toArray 90 (0, 0)) :: (bbx1, .cells [(.slice pu1 nu1 cu1), (.slice ph1 nh1 ch1), (.slice pk1 nk1 ck1), (.slice (some ⟨bc, 0, none⟩) R.c.length c6), (.slice pd1 nd1 cd1), .int .i64 (R.s : Int)].toArray 46 (0, 0)) :: (bal1, .cells [.slice none 0 0, .slice none 0 0, .slice none 0 0, .slice none 0 0, .slice none 0 0, .int .i64 0].toArray 46 (0, 0)) :: (bc, .cells (cRs (R0.set j (c1, .slice pl1 c1.l.length cl1)) ++ rc).toArray Tc (0, 0)) :: (X ++ (L ++ L1))) wst27 := M.put 3 rfl hwst27
   refine ⟨trivial, ?_⟩
   refine go 1 ?_
   refine x_add ((R.s + 1 : Nat) : Int) rfl rfl rfl rfl rfl (by rw [wadd (by omega) (by omega)]; simp) ?_
   refine go 0 ?_
   refine x_st [_] _ rfl rfl rfl sz3 rfl rfl rfl rfl atM rfl rfl rfl ?_
   intro wst28 hwst28
   have M : Sep w00 ((bal2, .cells [(.slice pl1 c1.l.length cl1), .int .i64 ((c1.st : Nat) : Int), .int .i64 ((c1.n : Nat) : Int), .int .i64 ((c1.bg : Nat) : Int), strV c1.key].toArray 90 (0, 0)) :: (bbx1, .cells [(.slice pu1 nu1 cu1), (.slice ph1 nh1 ch1), (.slice pk1 nk1 ck1), (.slice (some ⟨bc, 0, none⟩) R.c.length c6), (.slice pd1 nd1 cd1), .int .i64 ((R.s + 1 : Nat) : Int)].toArray 46 (0, 0)) :: (bal1, .cells [.slice none 0 0, .slice none 0 0, .slice none 0 0, .slice none 0 0, .slice none 0 0, .int .i64 0].toArray 46 (0, 0)) :: (bc, .cells (cRs (R0.set j (c1, .slice pl1 c1.l.length cl1)) ++ rc).toArray Tc (0, 0)) :: (X ++ (L ++ L1))) wst28 := M.put 1 rfl hwst28
   refine ⟨trivial, ?_⟩
   refine go 2 ?_
   intro _ M
   refine go 1 ?_
   have hsl : ∀ y ∈ L ++ L1, y ∈ L ++ (L1 ++ [(bc, .cells (cRs (R0.set j (c1, .slice pl1 c1.l.length cl1)) ++ rc).toArray Tc (0, 0))]) := fun y hy => by simp only [List.mem_append] at hy ⊢; rcases hy with g | g <;> simp [g]
   have hcn : Rn.c.length = R.c.length := by rw [hRc, List.length_set]
   refine ⟨_, _, _, _, _, L1 ++ [(bc, .cells (cRs (R0.set j (c1, .slice pl1 c1.l.length cl1)) ++ rc).toArray Tc (0, 0))], by rw [hE]; simp only [hRn, hRs]; rfl, ?_, ?_⟩
   ·rw [hE]
    simp only
    rw [hRn]
    refine ⟨hF1.f.mono hsl, (let ⟨hl, h1, h2, h3⟩ := hF1.hs; ⟨hl, h1, h2.mono hsl, h3⟩), SgK.mono hF1.k hsl, ⟨(R0.set j (c1, .slice pl1 c1.l.length cl1)), by rw [List.map_set, hR0, hRc], ?_, fun x hx => ?_⟩, hF1.o.mono hsl⟩
    ·rw [hcn]
     exact SgK.own (L' := [(bc, .cells (cRs (R0.set j (c1, .slice pl1 c1.l.length cl1)) ++ rc).toArray Tc (0, 0))]) (.inr ⟨bc, c6, rc, Tc, rfl, rfl, by rw [cRs_len, List.length_set, hRl], by rw [← hl3, List.length_append, List.length_append, cRs_len, cRs_len, List.length_set]⟩) (by decide) (fun y hy => by simp at hy; simp [hy])
    ·rcases List.mem_or_eq_of_mem_set hx with g | rfl
     ·exact ⟨(hok x g).1.mono (fun y hy => List.mem_append_left _ hy), (hok x g).2⟩
     ·exact ⟨hops1.mono hsl, pl1, cl1, rfl⟩
   ·exact ((M.tail.tail).tail : Sep w00 ((bc, .cells (cRs (R0.set j (c1, .slice pl1 c1.l.length cl1)) ++ rc).toArray Tc (0, 0)) :: (X ++ (L ++ L1))) _).perm (perm_c fun p => by simp only [List.countP_append, List.countP_cons, List.countP_nil]; omega)

end Go.Proofs.Ytebfjdolgchgaaa

namespace Go.Proofs.Ytebfjdolgchgaaa
open Go Go.Fw Go.RowKit Go.Proofs
set_option linter.unusedVariables false
set_option linter.unusedSimpArgs false
set_option maxRecDepth 100000
set_option maxHeartbeats 4000000

-- valise/valiseref20.New
theorem rnew20_c {w00 w0 : World} {X L : List (Nat × Obj)} {u v : Value} {ls : List (List OpS)} {f : List Raw} (M : Sep w00 (X ++ L) w0) (h : LsK w00 L v ls) (hF : FilesK w00 L u f) (hI : RI f []) (hll : ls.length ≤ 8) : Ret Try.prog 14 #[.agg #[u, .slice none 0 0], v] w0 fun r w' => ∃ u' cv' L', r = .agg #[u', .slice none 0 0, .slice none 0 0, cv', .slice none 0 0, .int .i64 0] ∧ SyK w00 (L ++ L') u' (.slice none 0 0) (.slice none 0 0) cv' (.slice none 0 0) (newR f (hfL []) ls) ∧ Sep w00 (X ++ (L ++ L')) w' := by
 obtain ⟨pu, cu, rfl⟩ := (hF.at_ M (fun y hy => by simp [hy])).shape
 obtain ⟨vs, hvl, hvs, hop⟩ := id h
 obtain ⟨plv, clv, rfl⟩ := (hvs _ _ M (fun y hy => by simp [hy])).shape
 refine Ret.of_W Try.func14 rfl Try.ntmps14 rfl ?_
 refine go 1 ?_
 intro bbx1 _ M
 refine x_alloc [_, _, _, _, _, _] rfl rfl rfl ze46 rfl ?_
 intro bal1 wal1 hbal1 hwal1
 have M : Sep w00 ((bal1, .cells [.slice none 0 0, .slice none 0 0, .slice none 0 0, .slice none 0 0, .slice none 0 0, .int .i64 0].toArray 46 (0, 0)) :: (bbx1, .cells [.slice pu f.length cu, .slice none 0 0].toArray 36 (0, 0)) :: (X ++ L)) wal1 := M.acons hbal1 hwal1
 refine ⟨trivial, ?_⟩
 refine go 3 ?_
 intro bal2 _ M
 refine x_st [_, _, _, _, _, _] _ rfl rfl rfl sz46 rfl rfl rfl rfl atM rfl rfl rfl ?_
 intro wst1 hwst1
 have M : Sep w00 ((bal2, .cells [.slice pu f.length cu, .slice none 0 0, .slice none 0 0, .slice none 0 0, .slice none 0 0, .int .i64 0].toArray 46 (0, 0)) :: (bal1, .cells [.slice none 0 0, .slice none 0 0, .slice none 0 0, .slice none 0 0, .slice none 0 0, .int .i64 0].toArray 46 (0, 0)) :: (bbx1, .cells [.slice pu f.length cu, .slice none 0 0].toArray 36 (0, 0)) :: ([] ++ (X ++ L))) wst1 := M.put 0 rfl hwst1
 refine ⟨trivial, ?_⟩
 refine go 0 ?_
 refine W.loop (σ := Nat) (fun i => [(1, _), (4, _), (5, _), (6, .int .i64 ((i : Nat) : Int))]) (fun i w => i ≤ ls.length ∧ ∃ cv Lo R0, (R0 : List RcV).map (·.1) = (ls.take i).map newRC ∧ OwL Lo cv 5 i (cRs R0) ∧ RcOK w00 L R0 ∧ Sep w00 ((bal2, .cells [.slice pu f.length cu, .slice none 0 0, .slice none 0 0, cv, .slice none 0 0, .int .i64 0].toArray 46 (0, 0)) :: (bal1, .cells [.slice none 0 0, .slice none 0 0, .slice none 0 0, .slice none 0 0, .slice none 0 0, .int .i64 0].toArray 46 (0, 0)) :: (bbx1, .cells [.slice pu f.length cu, .slice none 0 0].toArray 36 (0, 0)) :: (Lo ++ (X ++ L))) w) (fun i => ls.length - i) 0 ⟨rfl, rfl, rfl, rfl, trivial⟩ ⟨Nat.zero_le _, _, [], [], rfl, OwL.nil, fun x hx => (by cases hx), M⟩ ?_
 rintro i w ⟨hi, cv, Lo, R0, hR0, how, hok, M⟩
 obtain ⟨po, co, rfl⟩ := how.shape
 refine cnd 2 ?_ ?_
 ·intro hco1
  obtain ⟨l, hl⟩ := get_lt (l := ls) (q := i) (by omega)
  refine go 0 ?_
  refine W.regD (by kernel_rfl) #[0, 1, 0, 0, 12, 28, 60, 124, 255, 511, 1023] [(0, false), (1, false), (2, false), (3, false), (4, false), (5, false), (6, false), (7, true), (8, true), (9, false), (10, true)] (by kernel_rfl) ?_
  intro K wD1 hK hwD1
  have M := M.drew hwD1
  obtain ⟨b5, off5, pu5, cu5, e5, _, hcell, hopk⟩ := h.at_ M (fun y hy => by simp [hy]) hl
  cases e5
  refine go 1 ?_
  refine x_ia i rfl rfl rfl Try.underlying22 sz62 rfl rfl rfl (by omega) ?_
  refine x_ld rfl rfl rfl Try.underlying62 rfl rfl hcell ?_
  refine go 1 ?_
  refine x_bs1 (cs := (cR (newRC l, .slice pu5 l.length cu5))) rfl rfl rfl Try.underlying43 sz90 ze90 (Z := [_, _, _, _, _]) rfl rfl (by decide) (by decide) rfl rfl rfl ?_
  intro bbs1 wbs1 hbbs1 hwbs1
  have M0 := M.acons hbbs1 hwbs1
  have hslbs1 : Sl wbs1 (.slice (some ⟨bbs1, 0, none⟩) 1 1) 5 1 (cR (newRC l, .slice pu5 l.length cu5)) := .inr ⟨bbs1, 0, 1, _, _, _, rfl, by omega, M0.at_ 0 rfl, rfl, rfl⟩
  have M := M0.tail
  refine pnd ?_
  have M : Sep w00 (Lo ++ ((bal2, .cells [.slice pu f.length cu, .slice none 0 0, .slice none 0 0, .slice po i co, .slice none 0 0, .int .i64 0].toArray 46 (0, 0)) :: (bal1, .cells [.slice none 0 0, .slice none 0 0, .slice none 0 0, .slice none 0 0, .slice none 0 0, .int .i64 0].toArray 46 (0, 0)) :: (bbx1, .cells [.slice pu f.length cu, .slice none 0 0].toArray 36 (0, 0)) :: (X ++ L))) _ := M.perm (perm_c fun p => by simp only [List.countP_append, List.countP_cons, List.countP_nil]; omega)
  refine x_apL rfl rfl rfl rfl Try.underlying43 sz90 ze90 rfl by90 rfl rfl how M (cRs_one hok.one) (hslbs1.src Try.underlying43 (by intro u hu; simp only [cR, List.mem_cons, List.not_mem_nil, or_false] at hu; rcases hu with rfl | rfl | rfl | rfl | rfl <;> rfl)) (by omega) (by decide) (by omega) ?_
  intro Lo2 v6 w6 how2 M
  have M : Sep w00 ((bal2, .cells [.slice pu f.length cu, .slice none 0 0, .slice none 0 0, .slice po i co, .slice none 0 0, .int .i64 0].toArray 46 (0, 0)) :: (bal1, .cells [.slice none 0 0, .slice none 0 0, .slice none 0 0, .slice none 0 0, .slice none 0 0, .int .i64 0].toArray 46 (0, 0)) :: (bbx1, .cells [.slice pu f.length cu, .slice none 0 0].toArray 36 (0, 0)) :: (Lo2 ++ (X ++ L))) _ := M.perm (perm_c fun p => by simp only [List.countP_append, List.countP_cons, List.countP_nil]; omega)
  obtain ⟨p6, c6, rfl⟩ := how2.shape
  refine pnd ?_
  refine go 0 ?_
  refine x_st [_] _ rfl rfl rfl sz43 rfl rfl rfl rfl atM rfl rfl rfl ?_
  intro wst2 hwst2
  have M : Sep w00 ((bal2, .cells [.slice pu f.length cu, .slice none 0 0, .slice none 0 0, .slice p6 (i + 1) c6, .slice none 0 0, .int .i64 0].toArray 46 (0, 0)) :: (bal1, .cells [.slice none 0 0, .slice none 0 0, .slice none 0 0, .slice none 0 0, .slice none 0 0, .int .i64 0].toArray 46 (0, 0)) :: (bbx1, .cells [.slice pu f.length cu, .slice none 0 0].toArray 36 (0, 0)) :: (Lo2 ++ (X ++ L))) wst2 := M.put 0 rfl hwst2
  refine pnd ?_
  refine go 0 ?_
  refine x_add _ rfl rfl rfl rfl rfl (wadd (by omega) (by omega)) ?_
  refine go 0 ?_
  exact At.back (i + 1) ⟨rfl, rfl, rfl, rfl, trivial⟩ ⟨by omega, _, Lo2, R0 ++ [(newRC l, .slice pu5 l.length cu5)], by rw [take_snoc hl, List.map_append, List.map_append, hR0]; rfl, by rw [cRs_app]; exact how2, fun x hx => by
   rcases List.mem_append.1 hx with g | g
   ·exact hok x g
   ·obtain rfl := List.mem_singleton.1 g
    exact ⟨hopk, pu5, cu5, rfl⟩, M⟩ (by first | omega | (simp only; omega) | (simp; done) | (simp; omega))
 ·intro hco1
  refine go 2 ?_
  intro _ M
  refine go 1 ?_
  obtain rfl : i = ls.length := by omega
  rw [List.take_length] at hR0
  have hml : ∀ y ∈ L, y ∈ L ++ Lo := fun y hy => List.mem_append_left _ hy
  exact ⟨_, _, Lo, rfl, ⟨hF.mono hml, ⟨[], rfl, nilS (by decide), hI⟩, nilS (by decide), ⟨R0, hR0, by show SgK w00 (L ++ Lo) _ 5 (ls.map newRC).length _; rw [List.length_map]; exact SgK.own how (by decide) (fun y hy => List.mem_append_right _ hy), hok.mono hml⟩, ⟨[], rfl, nilS (by decide), fun x hx => (by cases hx)⟩⟩, M.tail.tail.tail.perm (perm_c fun p => by simp only [List.countP_append, List.countP_cons, List.countP_nil]; omega)⟩

end Go.Proofs.Ytebfjdolgchgaaa

namespace Go.Proofs.Ytebfjdolgchgaaa
open Go Go.Fw Go.RowKit
set_option linter.unusedVariables false
set_option linter.unusedSimpArgs false
section
variable {w00 w0 w : World} {X LR : List (Nat × Obj)} {ls : List (List OpS)} {f0 : List Raw} {h0 : HF} {I : VfI} {S : VS} {R : RSy} {u hv kv cv dv v : Value} {who : Int} {f : List Raw}
theorem RR.bounds (hR : RR S R) (hA : AI ls f0 h0 S) (hm : SmL ls) : R.c.length ≤ 8 ∧ R.s ≤ 1000 ∧ R.o.length ≤ 1000 ∧ ∀ c ∈ R.c, c.st ≤ 3 ∧ c.n ≤ 1000 ∧ ∀ o ∈ c.l, o.d.length ≤ 131072 := by
 have h1 := hA.oLen
 have h2 := hA.sum.1
 have h3 := hm.1
 refine ⟨by rw [hR.len]; exact hA.vi.le, by rw [hR.s]; omega, by rw [hR.o]; omega, fun d hd => ?_⟩
 obtain ⟨j, hj⟩ := List.getElem?_of_mem hd
 obtain ⟨c, hc⟩ := get_lt (l := S.c) (q := j) (by rw [← hR.len]; exact (List.getElem?_eq_some_iff.1 hj).1)
 have hcm := List.mem_of_getElem? hc
 have hrc := hR.cl j c d hc hj
 obtain ⟨g1, g2⟩ := hA.cN hcm
 refine ⟨by rw [hrc.st]; exact hA.vi.st c hcm, by rw [hrc.n]; omega, fun o ho => ?_⟩
 rw [hrc.l] at ho
 obtain ⟨l, hl, hol⟩ := g2 o ho
 exact hm.2 l hl o hol
theorem VA.rstep_c (M : VA w00 (X ++ LR) ls f0 h0 I S w0) (hR : RR S R) (hk : R.k.length ≤ R.s) (h : SyK w00 LR u hv kv cv dv R) :
  Ret Try.prog 15 #[.agg #[u, hv, kv, cv, dv, .int .i64 (R.s : Int)], .int .i64 who] w0 fun r w' => ∃ u' hv' kv' cv' dv' L', r = .tuple #[.agg #[u', hv', kv', cv', dv', .int .i64 ((stepR R who).1.s : Int)], .bool (stepR R who).2] ∧ SyK w00 (LR ++ L') u' hv' kv' cv' dv' (stepR R who).1 ∧ VA w00 (X ++ (LR ++ L')) ls f0 h0 I S w' := by
 obtain ⟨⟨m, L, hV, M⟩, hA, hD, hm⟩ := M
 obtain ⟨g1, g2, g3, g4⟩ := hR.bounds hA hm
 have h2 := hA.sum.1
 have h3 := hm.1
 have h5 := hR.s
 have M : Sep w00 ((X ++ (vmB I S m ++ L)) ++ LR) w0 := M.perm (perm_c fun p => by simp only [List.countP_append]; omega)
 refine (Go.Proofs.Ytebfjdolgchgaaa.rstep_c M h (by omega) g1 g2 g3 g4).mono fun r w' ⟨u', hv', kv', cv', dv', L', e, hS, M⟩ => ⟨u', hv', kv', cv', dv', L', e, hS, ⟨m, L, hV, M.perm (perm_c fun p => by simp only [List.countP_append]; omega)⟩, hA, hD, hm⟩
theorem VA.rnew_c (M : VA w00 (X ++ LR) ls f0 h0 I S w0) (h : LsK w00 [] v ls) (hF : FilesK w00 LR u f) (hI : RI f []) (hll : ls.length ≤ 8) :
  Ret Try.prog 14 #[.agg #[u, .slice none 0 0], v] w0 fun r w' => ∃ u' cv' L', r = .agg #[u', .slice none 0 0, .slice none 0 0, cv', .slice none 0 0, .int .i64 0] ∧ SyK w00 (LR ++ L') u' (.slice none 0 0) (.slice none 0 0) cv' (.slice none 0 0) (newR f (hfL []) ls) ∧ VA w00 (X ++ (LR ++ L')) ls f0 h0 I S w' := by
 obtain ⟨⟨m, L, hV, M⟩, hA, hD, hm⟩ := M
 have M : Sep w00 ((X ++ (vmB I S m ++ L)) ++ LR) w0 := M.perm (perm_c fun p => by simp only [List.countP_append]; omega)
 exact (rnew20_c M (h.mono (by simp)) hF hI hll).mono fun r w' ⟨u', cv', L', e, hS, M⟩ => ⟨u', cv', L', e, hS, ⟨m, L, hV, M.perm (perm_c fun p => by simp only [List.countP_append]; omega)⟩, hA, hD, hm⟩
end
end Go.Proofs.Ytebfjdolgchgaaa

namespace Go.Proofs.Ytebfjdolgchgaaa
open Go Go.Fw Go.RowKit Go.Proofs
set_option linter.unusedVariables false
set_option linter.unusedSimpArgs false
set_option maxRecDepth 100000
set_option maxHeartbeats 4000000

-- valise/valiselaw20.VfsPlays
theorem plays_c {w0 : World} {v pv : Value} {ls : List (List OpS)} {ps : List Int} (h1_ : 1 ≤ ls.length) (h : LsK w0 [] v ls) (hp : Sg w0 pv 1 ps.length (zInts ps)) (hpl : ps.length ≤ 9223372036854775807) : Ret Try.prog 3 #[v, pv] w0 fun r w' => r = .bool true ∧ New w0 w' := by
 have M : Sep w0 [] w0 := St.nil w0
 obtain ⟨vs, hvl, hvs, hop⟩ := id h
 obtain ⟨plv, clv, rfl⟩ := (hvs _ _ M (by simp)).shape
 obtain ⟨pp, cp, rfl⟩ := hp.shape
 refine Ret.of_W Try.func3 rfl Try.ntmps3 rfl ?_
 refine go 0 ?_
 refine x_call rfl rfl rfl rfl rfl en10 (vfew_c h) ?_
 rintro r_ wcall1 ⟨rfl, hn1⟩
 have M := M.new hn1
 refine ⟨trivial, ?_⟩
 refine spl 1 14 ?_ ?_
 ·intro hsp1
  refine go 0 ?_
  refine x_call rfl rfl rfl rfl rfl en11 (vlives_c) ?_
  rintro r_ w2 ⟨rfl, hn2⟩
  have M := M.new hn2
  refine ⟨trivial, ?_⟩
  refine go 1 ?_
  exact ⟨rfl, M.frm⟩
 ·intro hsp1
  refine cnd 2 ?_ ?_
  ·intro hco2
   refine go 0 ?_
   refine x_call rfl rfl rfl rfl rfl en11 (vlives_c) ?_
   rintro r_ w3 ⟨rfl, hn3⟩
   have M := M.new hn3
   refine ⟨trivial, ?_⟩
   refine go 1 ?_
   exact ⟨rfl, M.frm⟩
  ·intro hco2
   have hfew : fewL ls = true := by simpa using hsp1
   obtain ⟨hsm, h8_, h24_⟩ := few_sm hfew
   refine go 0 ?_
   refine x_call rfl rfl rfl rfl rfl en13 (vfiles_c (X := []) M) ?_
   rintro r_ wfl ⟨pu, cu, Lr, rfl, hF0, M⟩
   refine ⟨trivial, ?_⟩
   refine go 1 ?_
   refine x_box [_, _] rfl rfl rfl rfl rfl ?_
   intro bbx1 wbx1 hbbx1 hwbx1
   have M : Sep w0 ((bbx1, .cells [.slice pu fN.length cu, .slice none 0 0].toArray 39 (0, 0)) :: ([] ++ Lr)) wbx1 := M.acons hbbx1 hwbx1
   refine ⟨trivial, ?_⟩
   refine go 1 ?_
   refine x_call rfl rfl rfl rfl rfl en12 (VA.new_c (X := []) M (h.mono (by simp)) hF0 (nilS (by decide)) fN_ri h1_ h8_ hsm) ?_
   rintro r_ wnw ⟨I, rfl, M⟩
   obtain ⟨S0, hS0⟩ : ∃ S0, S0 = (newV fN (hfL []) ls) := ⟨_, rfl⟩
   rw [← hS0] at M
   refine ⟨trivial, ?_⟩
   refine go 1 ?_
   refine x_eqi false rfl rfl rfl rfl rfl (by rw [beq_eq_false_iff_ne]; omega) ?_
   refine go 1 ?_
   refine x_nei false rfl rfl rfl rfl rfl rfl ?_
   refine go 0 ?_
   refine x_call rfl rfl rfl rfl rfl en13 (M.files_c) ?_
   rintro r_ w6_ ⟨pu8, cu8, Lr8, rfl, hF8, M⟩
   refine ⟨trivial, ?_⟩
   refine go 0 ?_
   refine x_call rfl rfl rfl rfl rfl en14 (VA.rnew_c (X := []) M h hF8 fN_ri h8_) ?_
   rintro r_ w7_ ⟨u7, cv7, L7, rfl, hSy, M⟩
   obtain ⟨R1, hR1⟩ : ∃ R1, R1 = newR fN (hfL []) ls := ⟨_, rfl⟩
   rw [← hR1] at hSy
   have hRR : RR S0 R1 := by rw [hS0, hR1]; exact RR.new
   have hk0 : R1.k.length ≤ R1.s := by rw [hR1]; exact Nat.le_refl _
   have hs0 : R1.s = 0 := by rw [hR1]; rfl
   obtain ⟨⟨p7u, c7u, rfl⟩, _, _, ⟨p7c, c7c, rfl⟩, _⟩ := hSy.shapes M.sep (fun y hy => hy)
   refine ⟨trivial, ?_⟩
   refine go 1 ?_
   intro bal1 _ M
   refine x_st [_, _, _, _, _, _] _ rfl rfl rfl sz46 rfl rfl rfl rfl atM rfl rfl rfl ?_
   intro wst1 hwst1
   have M : VA w0 ((bal1, .cells [(.slice p7u R1.f.length c7u), (.slice none 0 0), (.slice none 0 0), (.slice p7c R1.c.length c7c), (.slice none 0 0), .int .i64 (0 : Int)].toArray 46 (0, 0)) :: (Lr8 ++ L7)) ls fN (hfL []) I S0 wst1 := M.put 0 rfl hwst1
   refine ⟨trivial, ?_⟩
   refine go 0 ?_
   refine W.loop (σ := Nat) (fun k => [(1, _), (5, _), (7, _), (8, .int .i64 ((k : Nat) : Int))]) (fun k w => k ≤ ps.length ∧ ∃ S R LR u hv kv cv dv, RR S R ∧ R.k.length ≤ R.s ∧ SyK w0 LR u hv kv cv dv R ∧ VA w0 ((bal1, .cells [u, hv, kv, cv, dv, .int .i64 (R.s : Int)].toArray 46 (0, 0)) :: LR) ls fN (hfL []) I S w) (fun k => ps.length - k) 0 ⟨rfl, rfl, rfl, rfl, trivial⟩ ⟨Nat.zero_le _, S0, R1, Lr8 ++ L7, _, _, _, _, _, hRR, hk0, hSy, by rw [hs0]; exact M⟩ ?_
   rintro k w ⟨hk, S, R, LR, u, hv, kv, cv, dv, hRR, hkl, hSy, M⟩
   obtain ⟨⟨pu, cu, rfl⟩, ⟨ph, nh, ch, rfl⟩, ⟨pk, ck, rfl⟩, ⟨pc, cc, rfl⟩, ⟨pd, cd, rfl⟩⟩ := hSy.shapes M.sep (fun y hy => List.mem_cons_of_mem _ hy)
   refine cnd 2 ?_ ?_
   ·intro hco5
    obtain ⟨z, hz⟩ := get_lt (l := ps) (q := k) (by omega)
    obtain ⟨b6, off6, rfl, _, hpk⟩ := pick_at hp M.frm hz
    have hst := hRR.step (who := z) M.a
    refine go 0 ?_
    refine W.regT (by kernel_rfl) #[0, 0, 0, 6, 14, 31, 63, 127, 127, 0, 767, 2047] (.two [(0, false), (1, false), (2, false), (3, false), (4, false)] 5 [(6, false), (7, false), (8, false), (9, true)] 9 [(5, true), (6, false), (7, false), (8, false)] (.leaf [(10, true), (11, false)])) (by kernel_rfl) ?_
    intro K wD1 hK hwD1
    have M := M.drew hwD1
    refine ExT.two ?_
    refine go 1 ?_
    refine x_ia k rfl rfl rfl Try.underlying23 sz3 rfl rfl rfl (by omega) ?_
    refine x_ld rfl rfl rfl Try.underlying3 rfl rfl (hpk M.frm) ?_
    refine Ex.fork ?_
    refine Ex.join (fun F' T' w' => ∃ bN A1 A2 u1 hv1 kv1 cv1 dv1 L1, T' = [(4, A2), (0, A1)] ∧ F' = [(1, .slice (some ⟨b6, off6, none⟩) ps.length cp), (5, ptr I.bs), (7, ptr bal1), (8, .int .i64 ((k : Nat) : Int)), (9, ptr bN), (63, .agg #[u1, hv1, kv1, cv1, dv1, .int .i64 ((stepR R z).1.s : Int)]), (64, .bool (stepR R z).2)] ∧ SyK w0 (LR ++ L1) u1 hv1 kv1 cv1 dv1 (stepR R z).1 ∧ VA w0 ((bN, .cells [(.slice none 0 0), (.slice none 0 0), (.slice none 0 0), (.slice none 0 0), (.slice none 0 0), .int .i64 (0 : Int)].toArray 46 (0, 0)) :: (bal1, .cells [(.slice pu R.f.length cu), (.slice ph nh ch), (.slice pk R.k.length ck), (.slice pc R.c.length cc), (.slice pd R.o.length cd), .int .i64 (R.s : Int)].toArray 46 (0, 0)) :: (LR ++ L1)) ls fN (hfL []) I S w') ?_ ?_ ?_
    ·refine x_call rfl rfl rfl rfl rfl en15 (VA.rstep_c (X := [_]) M hRR hkl hSy) ?_
     rintro r_ w8_ ⟨u1, hv1, kv1, cv1, dv1, L1, rfl, hS1, M⟩
     have M : VA w0 ((bal1, .cells [(.slice pu R.f.length cu), (.slice ph nh ch), (.slice pk R.k.length ck), (.slice pc R.c.length cc), (.slice pd R.o.length cd), .int .i64 (R.s : Int)].toArray 46 (0, 0)) :: (LR ++ L1)) ls fN (hfL []) I S w8_ := M
     refine pnd ?_
     refine go 0 ?_
     refine x_alloc [_, _, _, _, _, _] rfl rfl rfl ze46 rfl ?_
     intro bal2 wal2 hbal2 hwal2
     have M := M.acons hbal2 hwal2
     refine ⟨⟨.inr (hpk M.frm), .inr ⟨_, _, _, atM, rfl⟩, trivial⟩, ?_⟩
     refine Ex.forkS [(1, _), (5, _), (7, _), (8, _), (9, _), (63, _), (64, _)] ⟨rfl, rfl, rfl, rfl, rfl, rfl, rfl, trivial⟩ ?_
     exact ⟨bal2, _, _, u1, hv1, kv1, cv1, dv1, L1, rfl, rfl, hS1, M⟩
    ·refine x_alloc [_, _, _, _, _, _] rfl rfl rfl ze46 rfl ?_
     intro bal3 wal3 hbal3 hwal3
     have M := M.acons hbal3 hwal3
     refine ⟨⟨.inr (hpk M.frm), .inr ⟨_, _, _, atM, rfl⟩, trivial⟩, ?_⟩
     refine x_call rfl rfl rfl rfl rfl en15 (VA.rstep_c (X := [_, _]) M hRR hkl hSy) ?_
     rintro r_ w9_ ⟨u1, hv1, kv1, cv1, dv1, L1, rfl, hS1, M⟩
     have M : VA w0 ((bal3, .cells [(.slice none 0 0), (.slice none 0 0), (.slice none 0 0), (.slice none 0 0), (.slice none 0 0), .int .i64 (0 : Int)].toArray 46 (0, 0)) :: (bal1, .cells [(.slice pu R.f.length cu), (.slice ph nh ch), (.slice pk R.k.length ck), (.slice pc R.c.length cc), (.slice pd R.o.length cd), .int .i64 (R.s : Int)].toArray 46 (0, 0)) :: (LR ++ L1)) ls fN (hfL []) I S w9_ := M
     refine pnd ?_
     refine go 0 ?_
     refine Ex.forkS [(1, _), (5, _), (7, _), (8, _), (9, _), (63, _), (64, _)] ⟨rfl, rfl, rfl, rfl, rfl, rfl, rfl, trivial⟩ ?_
     exact ⟨bal3, _, _, u1, hv1, kv1, cv1, dv1, L1, rfl, rfl, hS1, M⟩
    rintro F1 T1 wf ⟨bN, A1, A2, u1, hv1, kv1, cv1, dv1, L1, rfl, rfl, hS1, M⟩
    obtain ⟨⟨pu1, cu1, rfl⟩, ⟨ph1, nh1, ch1, rfl⟩, ⟨pk1, ck1, rfl⟩, ⟨pc1, cc1, rfl⟩, ⟨pd1, cd1, rfl⟩⟩ := hS1.shapes M.sep (fun y hy => List.mem_cons_of_mem _ (List.mem_cons_of_mem _ hy))
    obtain ⟨R0, hR0, hsg0, hok0⟩ := hS1.c
    have hkl1 := stepR_k (who := z) hkl
    have hs4 := M.a.sum.1
    have hs5 := hst.2.s
    have hs6 := stepV_s (S := S) (who := z)
    have hs7 : (stepV S z).2.toNat ≤ 1 := by cases (stepV S z).2 <;> decide
    have hmm := M.m.1
    refine ExT.leaf ?_
    refine x_st [_, _, _, _, _, _] _ rfl rfl rfl sz46 rfl rfl rfl rfl atM rfl rfl rfl ?_
    intro wst2 hwst2
    have M : VA w0 ((bN, .cells [(.slice pu1 (stepR R z).1.f.length cu1), (.slice ph1 nh1 ch1), (.slice pk1 (stepR R z).1.k.length ck1), (.slice pc1 (stepR R z).1.c.length cc1), (.slice pd1 (stepR R z).1.o.length cd1), .int .i64 ((stepR R z).1.s : Int)].toArray 46 (0, 0)) :: (bal1, .cells [(.slice pu R.f.length cu), (.slice ph nh ch), (.slice pk R.k.length ck), (.slice pc R.c.length cc), (.slice pd R.o.length cd), .int .i64 (R.s : Int)].toArray 46 (0, 0)) :: (LR ++ L1)) ls fN (hfL []) I S wst2 := M.put 0 rfl hwst2
    refine pnd ?_
    refine go 1 ?_
    refine x_st [_, _, _, _, _, _] _ rfl rfl rfl sz46 rfl rfl rfl rfl atM rfl rfl rfl ?_
    intro wst3 hwst3
    have M : VA w0 ((bN, .cells [(.slice pu1 (stepR R z).1.f.length cu1), (.slice ph1 nh1 ch1), (.slice pk1 (stepR R z).1.k.length ck1), (.slice pc1 (stepR R z).1.c.length cc1), (.slice pd1 (stepR R z).1.o.length cd1), .int .i64 ((stepR R z).1.s : Int)].toArray 46 (0, 0)) :: (bal1, .cells [(.slice pu1 (stepR R z).1.f.length cu1), (.slice ph1 nh1 ch1), (.slice pk1 (stepR R z).1.k.length ck1), (.slice pc1 (stepR R z).1.c.length cc1), (.slice pd1 (stepR R z).1.o.length cd1), .int .i64 ((stepR R z).1.s : Int)].toArray 46 (0, 0)) :: (LR ++ L1)) ls fN (hfL []) I S wst3 := M.put 1 rfl hwst3
    have M : VA w0 ((bal1, .cells [(.slice pu1 (stepR R z).1.f.length cu1), (.slice ph1 nh1 ch1), (.slice pk1 (stepR R z).1.k.length ck1), (.slice pc1 (stepR R z).1.c.length cc1), (.slice pd1 (stepR R z).1.o.length cd1), .int .i64 ((stepR R z).1.s : Int)].toArray 46 (0, 0)) :: (LR ++ L1)) ls fN (hfL []) I S wst3 := M.tail
    refine ⟨trivial, ?_⟩
    refine go 0 ?_
    refine W.regD (by kernel_rfl) #[0, 0, 0, 6, 14, 31, 0, 127, 255, 511, 1023, 511, 2559, 8191, 16383, 32767, 65535, 65535, 65535, 458751, 983039, 2097151, 65535, 65535, 65535, 25231359, 58785791, 134217727, 268435455, 536870911, 1073741823, 2147483647, 2147483647, 2147483647, 15032385535, 32212254719, 68719476735, 2147483647, 2147483647, 2147483647, 826781204479, 1926292832255, 4398046511103, 8796093022207, 17592186044415] [(0, false), (1, false), (2, false), (3, false), (4, false), (6, false), (5, true), (7, false), (8, false), (9, false), (11, false), (12, false), (10, true), (13, false), (14, false), (15, false), (16, false), (17, false), (18, false), (19, false), (20, false), (22, false), (23, false), (24, false), (25, false), (26, false), (21, true), (27, true), (28, false), (29, false), (30, false), (31, false), (32, false), (33, false), (34, false), (35, false), (37, false), (38, false), (39, false), (40, false), (41, false), (36, true), (42, true), (43, false), (44, false)] (by kernel_rfl) ?_
    intro K wD2 hK hwD2
    have M := M.drew hwD2
    refine go 0 ?_
    refine x_ia k rfl rfl rfl Try.underlying23 sz3 rfl rfl rfl (by omega) ?_
    refine x_ld rfl rfl rfl Try.underlying3 rfl rfl (hpk M.frm) ?_
    refine go 0 ?_
    refine x_call rfl rfl rfl rfl rfl en16 (M.step_c) ?_
    rintro r_ w10_ ⟨rfl, M⟩
    refine pnd ?_
    refine x_neb false rfl rfl rfl Try.underlying4 rfl rfl (by rw [hst.1]; simp) ?_
    refine go 1 ?_
    refine x_call rfl rfl rfl rfl rfl en17 (M.steps_c) ?_
    rintro r_ w11_ ⟨rfl, hn11⟩
    have M := M.new hn11
    refine pnd ?_
    refine x_nei false rfl rfl rfl rfl rfl (by rw [hst.2.s]; simp) ?_
    refine go 0 ?_
    refine x_ia k rfl rfl rfl Try.underlying23 sz3 rfl rfl rfl (by omega) ?_
    refine x_ld rfl rfl rfl Try.underlying3 rfl rfl (hpk M.frm) ?_
    refine go 1 ?_
    refine x_ia k rfl rfl rfl Try.underlying23 sz3 rfl rfl rfl (by omega) ?_
    refine x_ld rfl rfl rfl Try.underlying3 rfl rfl (hpk M.frm) ?_
    refine x_call rfl rfl rfl rfl rfl en18 (M.left_c) ?_
    rintro r_ w12_ ⟨rfl, hn12⟩
    have M := M.new hn12
    refine ⟨⟨.inr (hpk M.frm), .inr ⟨_, _, _, atM, rfl⟩, .inl (by kernel_rfl), .inl (by kernel_rfl), .inl (by kernel_rfl), trivial⟩, ?_⟩
    refine x_call rfl rfl rfl rfl rfl en19 (rleft_c hR0 (hsg0 _ _ M.sep (fun y hy => List.mem_cons_of_mem _ hy)) (fun x hx => (hok0 x hx).2)) ?_
    rintro r_ w13_ ⟨rfl, hn13⟩
    rw [leftC_R]
    have M := M.new hn13
    refine pnd ?_
    refine x_nei false rfl rfl rfl rfl rfl (by rw [hst.2.left]; simp) ?_
    refine go 0 ?_
    refine x_ia k rfl rfl rfl Try.underlying23 sz3 rfl rfl rfl (by omega) ?_
    refine x_ld rfl rfl rfl Try.underlying3 rfl rfl (hpk M.frm) ?_
    refine go 1 ?_
    refine x_ia k rfl rfl rfl Try.underlying23 sz3 rfl rfl rfl (by omega) ?_
    refine x_ld rfl rfl rfl Try.underlying3 rfl rfl (hpk M.frm) ?_
    refine x_call rfl rfl rfl rfl rfl en20 (M.blocked_c) ?_
    rintro r_ w14_ ⟨rfl, hn14⟩
    have M := M.new hn14
    refine ⟨⟨.inr (hpk M.frm), .inr ⟨_, _, _, atM, rfl⟩, .inl (by kernel_rfl), .inl (by kernel_rfl), .inl (by kernel_rfl), .inl (by kernel_rfl), .inl (by kernel_rfl), .inl (by kernel_rfl), trivial⟩, ?_⟩
    refine x_call rfl rfl rfl rfl rfl en21 (rblocked_c (hS1.k _ _ M.sep (fun y hy => List.mem_cons_of_mem _ hy)) (by omega)) ?_
    rintro r_ w15_ ⟨rfl, hn15⟩
    rw [show ((stepR R z).1.k.any fun a => decide (a.1 = z) && !a.2.2.2) = blockV (stepV S z).1 z from RR.block M.a hst.2]
    have M := M.new hn15
    refine pnd ?_
    refine x_neb false rfl rfl rfl Try.underlying4 rfl rfl (by simp) ?_
    refine go 0 ?_
    refine x_add _ rfl rfl rfl rfl rfl (wadd (by omega) (by omega)) ?_
    refine go 0 ?_
    exact At.back (k + 1) ⟨rfl, rfl, rfl, rfl, trivial⟩ ⟨by omega, _, _, LR ++ L1, _, _, _, _, _, hst.2, hkl1, hS1, M⟩ (by first | omega | (simp only; omega) | (simp; done) | (simp; omega))
   ·intro hco5
    refine go 0 ?_
    refine W.regD (by kernel_rfl) #[0, 1, 0, 4, 15, 31, 63, 127, 255] [(0, false), (2, false), (3, false), (1, true), (4, true), (5, false), (6, true), (7, false), (8, false)] (by kernel_rfl) ?_
    intro K wD3 hK hwD3
    have M := M.drew hwD3
    refine go 1 ?_
    refine x_call rfl rfl rfl rfl rfl en23 (M.order_c) ?_
    have hoS := M.a.oLen
    have hmm := M.m.1
    rintro r_ w16_ ⟨LN, hDK, M⟩
    have hDo : DidK w0 LR (.slice pd R.o.length cd) S.o := by have := hSy.o; rw [hRR.o] at this ⊢; exact this
    refine ⟨⟨.inr (cell_of (M.v.get (x := (bal1, .cells [(.slice pu R.f.length cu), (.slice ph nh ch), (.slice pk R.k.length ck), (.slice pc R.c.length cc), (.slice pd R.o.length cd), .int .i64 (R.s : Int)].toArray 46 (0, 0))) (by simp)) rfl), trivial⟩, ?_⟩
    refine x_call rfl rfl rfl rfl rfl en22 (rsame20_c M.sep hDK hDo (fun y hy => List.mem_append_left _ hy) (fun y hy => by simp [hy]) (by omega) (fun d hd => by have := M.d d hd; omega)) ?_
    rintro r_ w17_ ⟨rfl, hn17⟩
    have M := M.new hn17
    refine pnd ?_
    refine go 0 ?_
    refine x_call rfl rfl rfl rfl rfl en11 (vlives_c) ?_
    rintro r_ w18 ⟨rfl, hn18⟩
    have M := M.new hn18
    refine pnd ?_
    refine go 1 ?_
    exact ⟨rfl, M.frm⟩

end Go.Proofs.Ytebfjdolgchgaaa

namespace Go.Proofs.Ytebfjdolgchgaaa
open Go Go.Fw Go.RowKit
theorem vfsPlays_c {w0 : World} {v pv : Value} {ls : List (List OpS)} {ps : List Int} (h : LsK w0 [] v ls) (hp : Sg w0 pv 1 ps.length (zInts ps)) (hpl : ps.length ≤ 9223372036854775807) : Ret Try.prog 3 #[v, pv] w0 fun r w' => r = .bool true ∧ New w0 w' := by
 by_cases h0 : ls.length = 0
 ·exact playsZ_c h0 h hp hpl
 ·exact plays_c (by omega) h hp hpl
end Go.Proofs.Ytebfjdolgchgaaa

namespace Go.Fw
open Go Go.ChangeShapes Go.WideShapes Go.ChangeAt Go.RowKit
set_option linter.unusedVariables false
set_option linter.unusedSimpArgs false
section
variable {H : Type} {enc : TypeId × Value → H} {P : Program} {W : World} {sp : Nat → Bool}
theorem rd_struct9 {t : TypeId} {f0 f1 f2 f3 f4 f5 f6 f7 f8 : Field} {α0 α1 α2 α3 α4 α5 α6 α7 α8 : Type} {c0 : α0 → Value} {c1 : α1 → Value} {c2 : α2 → Value} {c3 : α3 → Value} {c4 : α4 → Value} {c5 : α5 → Value} {c6 : α6 → Value} {c7 : α7 → Value} {c8 : α8 → Value} {R0 : α0 → DataW H → Prop} {R1 : α1 → DataW H → Prop} {R2 : α2 → DataW H → Prop} {R3 : α3 → DataW H → Prop} {R4 : α4 → DataW H → Prop} {R5 : α5 → DataW H → Prop} {R6 : α6 → DataW H → Prop} {R7 : α7 → DataW H → Prop} {R8 : α8 → DataW H → Prop} (ht : P.underlying t = some (.struct #[f0, f1, f2, f3, f4, f5, f6, f7, f8])) (hc : P.cellsOf t = 9)
  (h0 : f0.offset = 0 ∧ P.cellsOf f0.type = 1) (h1 : f1.offset = 1 ∧ P.cellsOf f1.type = 1) (h2 : f2.offset = 2 ∧ P.cellsOf f2.type = 1) (h3 : f3.offset = 3 ∧ P.cellsOf f3.type = 1) (h4 : f4.offset = 4 ∧ P.cellsOf f4.type = 1) (h5 : f5.offset = 5 ∧ P.cellsOf f5.type = 1) (h6 : f6.offset = 6 ∧ P.cellsOf f6.type = 1) (h7 : f7.offset = 7 ∧ P.cellsOf f7.type = 1) (h8 : f8.offset = 8 ∧ P.cellsOf f8.type = 1) (r0 : Rd enc P W sp f0.type (fun a => [c0 a]) R0) (r1 : Rd enc P W sp f1.type (fun a => [c1 a]) R1) (r2 : Rd enc P W sp f2.type (fun a => [c2 a]) R2) (r3 : Rd enc P W sp f3.type (fun a => [c3 a]) R3) (r4 : Rd enc P W sp f4.type (fun a => [c4 a]) R4) (r5 : Rd enc P W sp f5.type (fun a => [c5 a]) R5) (r6 : Rd enc P W sp f6.type (fun a => [c6 a]) R6) (r7 : Rd enc P W sp f7.type (fun a => [c7 a]) R7) (r8 : Rd enc P W sp f8.type (fun a => [c8 a]) R8) :
  Rd enc P W sp t (fun a : α0 × α1 × α2 × α3 × α4 × α5 × α6 × α7 × α8 => [c0 (a.1), c1 (a.2.1), c2 (a.2.2.1), c3 (a.2.2.2.1), c4 (a.2.2.2.2.1), c5 (a.2.2.2.2.2.1), c6 (a.2.2.2.2.2.2.1), c7 (a.2.2.2.2.2.2.2.1), c8 (a.2.2.2.2.2.2.2.2)]) (fun a d => ∃ d0 d1 d2 d3 d4 d5 d6 d7 d8, d = .agg [d0, d1, d2, d3, d4, d5, d6, d7, d8] ∧ R0 (a.1) d0 ∧ R1 (a.2.1) d1 ∧ R2 (a.2.2.1) d2 ∧ R3 (a.2.2.2.1) d3 ∧ R4 (a.2.2.2.2.1) d4 ∧ R5 (a.2.2.2.2.2.1) d5 ∧ R6 (a.2.2.2.2.2.2.1) d6 ∧ R7 (a.2.2.2.2.2.2.2.1) d7 ∧ R8 (a.2.2.2.2.2.2.2.2) d8) := fun fuel cs x h => by
 obtain ⟨xs, n, _, rfl, hl, hlen, hf⟩ := DataW.trod_struct ht h
 rw [hc] at hl
 match xs, hlen, cs, hl with
 | [y0, y1, y2, y3, y4, y5, y6, y7, y8], _, [u0, u1, u2, u3, u4, u5, u6, u7, u8], _ =>
  have g0 := hf 0 f0 rfl
  rw [h0.1, h0.2] at g0
  obtain ⟨a0, e0, q0⟩ := r0 n [u0] y0 g0
  have g1 := hf 1 f1 rfl
  rw [h1.1, h1.2] at g1
  obtain ⟨a1, e1, q1⟩ := r1 n [u1] y1 g1
  have g2 := hf 2 f2 rfl
  rw [h2.1, h2.2] at g2
  obtain ⟨a2, e2, q2⟩ := r2 n [u2] y2 g2
  have g3 := hf 3 f3 rfl
  rw [h3.1, h3.2] at g3
  obtain ⟨a3, e3, q3⟩ := r3 n [u3] y3 g3
  have g4 := hf 4 f4 rfl
  rw [h4.1, h4.2] at g4
  obtain ⟨a4, e4, q4⟩ := r4 n [u4] y4 g4
  have g5 := hf 5 f5 rfl
  rw [h5.1, h5.2] at g5
  obtain ⟨a5, e5, q5⟩ := r5 n [u5] y5 g5
  have g6 := hf 6 f6 rfl
  rw [h6.1, h6.2] at g6
  obtain ⟨a6, e6, q6⟩ := r6 n [u6] y6 g6
  have g7 := hf 7 f7 rfl
  rw [h7.1, h7.2] at g7
  obtain ⟨a7, e7, q7⟩ := r7 n [u7] y7 g7
  have g8 := hf 8 f8 rfl
  rw [h8.1, h8.2] at g8
  obtain ⟨a8, e8, q8⟩ := r8 n [u8] y8 g8
  simp only [List.cons.injEq, and_true] at e0 e1 e2 e3 e4 e5 e6 e7 e8
  subst e0 e1 e2 e3 e4 e5 e6 e7 e8
  exact ⟨(a0, a1, a2, a3, a4, a5, a6, a7, a8), rfl, y0.1, y1.1, y2.1, y3.1, y4.1, y5.1, y6.1, y7.1, y8.1, rfl, q0, q1, q2, q3, q4, q5, q6, q7, q8⟩
end
end Go.Fw

namespace Go.Proofs.Ytebfjdolgchgaaa
open Go Go.Fw Go.ChangeShapes Go.WideShapes Go.ChangeAt Go.RowKit
set_option linter.unusedVariables false
set_option linter.unusedSimpArgs false

theorem cInt : Try.prog.cellsOf 3 = 1 := by kernel_rfl
theorem cBool : Try.prog.cellsOf 4 = 1 := by kernel_rfl
theorem cBytes : Try.prog.cellsOf 56 = 1 := by kernel_rfl
theorem cByte : Try.prog.cellsOf 5 = 1 := by kernel_rfl
theorem cOp : Try.prog.cellsOf 66 = 9 := by kernel_rfl
theorem cOps : Try.prog.cellsOf 62 = 1 := by kernel_rfl
theorem flat_one {α : Type} (f : α → Value) : ∀ l : List α, (l.flatMap fun a => [f a]) = l.map f
 | [] => rfl
 | a :: l => by rw [List.flatMap_cons, flat_one f l]; rfl
section
variable {H : Type} {enc : TypeId × Value → H} {W : World} {sp : Nat → Bool}
abbrev OpR := Int × List UInt8 × List UInt8 × Int × Int × Int × Bool × Bool × (Value × List UInt8)
def toOpR (a : OpR) : OpS := ⟨a.1, a.2.1, a.2.2.1, a.2.2.2.1, a.2.2.2.2.1, a.2.2.2.2.2.1, a.2.2.2.2.2.2.1, a.2.2.2.2.2.2.2.1, a.2.2.2.2.2.2.2.2.2⟩
def opRE (a : OpR) : List Value := [.int .i64 a.1, strV a.2.1, strV a.2.2.1, .int .i64 a.2.2.2.1, .int .i64 a.2.2.2.2.1, .int .i64 a.2.2.2.2.2.1, .bool a.2.2.2.2.2.2.1, .bool a.2.2.2.2.2.2.2.1, a.2.2.2.2.2.2.2.2.1]
theorem Rd.weakR {P : Program} {t : TypeId} {α : Type} {e1 : α → List Value} {R R' : α → DataW H → Prop} (h : Rd enc P W sp t e1 R) (hR : ∀ a d, R a d → R' a d) : Rd enc P W sp t e1 R' := fun fuel cs x hx =>
 let ⟨a, h1, h2⟩ := h fuel cs x hx; ⟨a, h1, hR a _ h2⟩
def BytesRd (W : World) (a : Value × List UInt8) (d : DataW H) : Prop := BytesAt W a.1 a.2
theorem rd_bytR : Rd enc Try.prog W sp 56 (fun a : Value × List UInt8 => [a.1]) (BytesRd W) := Rd.weakR (rd_bytes Try.underlying56 Try.underlying5 cByte) fun _ _ h => h.1
def OpRR (W : World) (a : OpR) (d : DataW H) : Prop := BytesAt W a.2.2.2.2.2.2.2.2.1 a.2.2.2.2.2.2.2.2.2
theorem rd_opR : Rd enc Try.prog W sp 66 opRE (OpRR W) := fun fuel cs x h => by
 obtain ⟨a, h1, d0, d1, d2, d3, d4, d5, d6, d7, d8, _, _, _, _, _, _, _, _, _, h2⟩ := rd_struct9 (R0 := _) (R1 := _) (R2 := _) (R3 := _) (R4 := _) (R5 := _) (R6 := _) (R7 := _) (R8 := _) Try.underlying66 cOp ⟨rfl, cInt⟩ ⟨rfl, cStr⟩ ⟨rfl, cStr⟩ ⟨rfl, cInt⟩ ⟨rfl, cInt⟩ ⟨rfl, cInt⟩ ⟨rfl, cBool⟩ ⟨rfl, cBool⟩ ⟨rfl, cBytes⟩ (rd_int Try.underlying3) (rd_string Try.underlying9) (rd_string Try.underlying9) (rd_int Try.underlying3) (rd_int Try.underlying3) (rd_int Try.underlying3) (rd_bool Try.underlying4) (rd_bool Try.underlying4) rd_bytR fuel cs x h
 exact ⟨a, h1, h2⟩
abbrev OpsR := Value × List OpR
theorem rd_opsR : Rd enc Try.prog W sp 62 (fun a : OpsR => [a.1]) (SlR W 9 opRE (OpRR W)) := rd_slice Try.underlying62 cOp (by decide) rd_opR
theorem ops_of {v : Value} {l : List OpR} {d : DataW H} (h : SlR W 9 opRE (OpRR W) (v, l) d) : OpsK W [] v (l.map toOpR) := by
 obtain ⟨h1, _, h3, _⟩ := h
 refine ⟨l.map fun a => (toOpR a, a.2.2.2.2.2.2.2.2.1), by rw [List.map_map]; rfl, ?_, fun x hx => ?_⟩
 ·have e : (l.map fun a => (toOpR a, a.2.2.2.2.2.2.2.2.1)).flatMap (fun x => opC x.1 x.2) = l.flatMap opRE := by rw [List.flatMap_map]; rfl
  rw [e, List.length_map]
  exact SgK.old h1
 ·obtain ⟨a, ha, rfl⟩ := List.mem_map.1 hx
  obtain ⟨_, d', hd⟩ := h3 a ha
  exact SgK.old hd
theorem lists_of {v : Value} {l : List OpsR} {d : DataW H} (h : SlR W 1 (fun a : OpsR => [a.1]) (SlR W 9 opRE (OpRR W)) (v, l) d) : LsK W [] v (l.map fun a => a.2.map toOpR) := by
 obtain ⟨h1, _, h3, _⟩ := h
 refine ⟨l.map (·.1), by simp, ?_, fun i u l' hu hl => ?_⟩
 ·simp only [flat_one] at h1
  rw [List.length_map]
  exact SgK.old h1
 ·rw [List.getElem?_map] at hu hl
  cases e : l[i]? with
  | none => rw [e] at hu; cases hu
  | some a =>
   rw [e] at hu hl
   simp only [Option.map_some, Option.some.injEq] at hu hl
   subst hu; subst hl
   obtain ⟨_, d', hd⟩ := h3 a (List.mem_of_getElem? e)
   exact ops_of (v := a.1) (l := a.2) hd
theorem max_lenR {α : Type} {l : List α} (h : l.length ≤ maxLen) : l.length ≤ 9223372036854775807 := by unfold maxLen at h; omega
theorem ints_of {R : Int → DataW H → Prop} {v : Value} {l : List Int} {d : DataW H} (h : SlR W 1 (fun z : Int => [Value.int .i64 z]) R (v, l) d) : Sg W v 1 l.length (zInts l) := by
 have := h.1
 simp only [flat_one] at this
 exact this
end
end Go.Proofs.Ytebfjdolgchgaaa
