/-
  Texts that belong together, laid into one file: O16, O17, U17, O18, U18, O19, O20, U19, O21, O22, U20, O23, U21, O24, U22, O25, U23, O26, U24, O27, U25, O28, O29, O30, U26, O31, FwT, R19, R19c.
-/
import Derived.Test.YtigfbpbnohkokaaGreatQ6
namespace Go.Proofs.YtigfbpbnohkokaaGreat
open Go Go.Fw Go.RowKit Go.Proofs
set_option linter.unusedVariables false
set_option linter.unusedSimpArgs false
theorem _root_.Go.Fw.Sg.capb {w : World} {a : Option Addr} {n cap m : Nat} {cs : List Value} (h : Sg w (.slice a n cap) m n cs) : n ≤ cap ∨ n = 0 := by
 rcases h with ⟨h1, _⟩ | ⟨h1, h2, _⟩ | ⟨b, off, cap', all, T, fr, h1, h2, _⟩
 ·exact .inr h1
 ·exact .inr h2
 ·cases h1; exact .inl h2

set_option maxRecDepth 100000 in
theorem block_c {w00 w0 : World} {bs i : Nat} {v : Value} {l : List Raw} {Lf X : List (Nat × Obj)} {nm b : List UInt8} (M : Sep w00 ((bs, .cells [v, .bool false].toArray 79 (0, 0)) :: (Lf ++ X)) w0) (h : FilesK w00 Lf v l) (hl : l.length ≤ 1000) (hd : ∀ x ∈ l, x.2.2.length ≤ 65536) (hb : baseL l nm = some b) (hi : 4096 * i < b.length) : Ret Tryz.prog 191 #[ptr bs, .agg #[strV nm, .int .i64 (i : Int)]] w0 fun r w' => ∃ Lr, BytesO Lr r ((b.drop (4096 * i)).take 4096) ∧ Sep w00 ((bs, .cells [v, .bool false].toArray 79 (0, 0)) :: (Lf ++ (X ++ Lr))) w' := by
 obtain ⟨pv, cv, rfl⟩ := (h.at_ M (fun y hy => by simp [hy])).shape
 refine Ret.of_W Tryz.func191 rfl Tryz.ntmps191 rfl ?_
 refine W.seq ?_
 refine W.sub [(0, _), (1, _)] ⟨rfl, rfl, trivial⟩ ?_
 refine W.reg [(0, true), (1, false)] (by kernel_rfl) ?_
 intro K hK
 refine x_box [_, _] rfl rfl rfl rfl rfl ?_
 intro bbx1 wbx1 hbbx1 hwbx1
 have M := M.acons hbbx1 hwbx1
 refine ⟨trivial, ?_⟩
 refine x_assign rfl rfl rfl rfl ?_
 refine Ex.done (hK _ _ ?_)
 refine At.then_n ?_
 refine W.seq ?_
 refine W.seq ?_
 refine W.sub [(0, _), (3, _)] ⟨rfl, rfl, trivial⟩ ?_
 refine W.reg [(0, false)] (by kernel_rfl) ?_
 intro K hK
 refine x_assign rfl rfl rfl rfl ?_
 refine Ex.done (hK _ _ ?_)
 refine At.then_n ?_
 refine W.block ?_
 refine W.loop (σ := Nat) (fun j => [(0, _), (3, _), (5, .int .i64 ((j : Nat) : Int))]) (fun j w => j ≤ l.length ∧ (∀ y ∈ l.take j, ¬ (y.1 = nm ∧ y.2.1 = false)) ∧ Sep w00 ((bbx1, .cells [strV nm, .int .i64 (i : Int)].toArray 187 (0, 0)) :: (bs, .cells [.slice pv l.length cv, .bool false].toArray 79 (0, 0)) :: (Lf ++ X)) w) (fun j => l.length - j) 0 ⟨rfl, rfl, rfl, trivial⟩ ⟨Nat.zero_le _, by simp, M⟩ ?_
 rintro j w ⟨hj, hno, M⟩
 refine W.seq ?_
 refine W.seq ?_
 refine W.sub [(0, _), (3, _), (5, _)] ⟨rfl, rfl, rfl, trivial⟩ ?_
 refine W.reg [(0, false), (1, false), (2, false), (3, false), (4, false), (5, false), (6, false)] (by kernel_rfl) ?_
 intro K hK
 refine x_move rfl rfl rfl rfl ?_
 refine x_move rfl rfl rfl rfl ?_
 refine x_nil rfl rfl rfl rfl rfl ?_
 refine x_fa rfl rfl rfl fo79_0 rfl ?_
 refine x_ld rfl rfl rfl Tryz.underlying24 rfl rfl (cell_of (M.at_ 1 rfl) rfl) ?_
 refine x_len rfl rfl rfl rfl Tryz.underlying24 rfl ?_
 refine x_lss _ rfl rfl rfl rfl rfl rfl ?_
 refine Ex.done (hK _ _ ?_)
 refine At.then_n ?_
 refine W.cond rfl (fun hco1 => ?_) (fun hco1 => ?_)
 ·try simp only [sA, sB, sC, sD, sE, sF, sG, sH, sI, sJ, sK, sL, sM, sN, sO] at hco1
  obtain ⟨x, hx⟩ := get_lt (l := l) (q := j) (by omega)
  have hxl := List.mem_of_getElem? hx
  have hfa := h.at_ M (fun y hy => List.mem_cons_of_mem _ (List.mem_cons_of_mem _ (List.mem_append_left _ hy)))
  obtain ⟨bb, off, rfl, _⟩ := hfa.blk (j := j) (by omega)
  obtain ⟨pd, cd, hrow, hbx⟩ := hfa.row hx
  have hxd := hd x hxl
  refine W.skip ?_
  refine At.then_n ?_
  refine W.seq ?_
  refine W.block ?_
  refine W.seq ?_
  refine W.sub [(0, _), (3, _), (5, _)] ⟨rfl, rfl, rfl, trivial⟩ ?_
  refine W.reg [(0, false), (1, false), (2, false), (3, false), (4, false), (5, false), (6, false), (7, false), (8, false)] (by kernel_rfl) ?_
  intro K hK
  refine x_move rfl rfl rfl rfl ?_
  refine x_nil rfl rfl rfl rfl rfl ?_
  refine x_fa rfl rfl rfl fo79_0 rfl ?_
  refine x_ld rfl rfl rfl Tryz.underlying24 rfl rfl (cell_of (M.at_ 1 rfl) rfl) ?_
  refine x_move rfl rfl rfl rfl ?_
  refine x_ia j rfl rfl rfl Tryz.underlying24 sz29 rfl rfl rfl (by omega) ?_
  refine x_fa rfl rfl rfl fo29_2 rfl ?_
  refine x_ld rfl rfl rfl Tryz.underlying27 rfl rfl (RowAt.cell hrow (j := 2) rfl) ?_
  refine x_assign rfl rfl rfl rfl ?_
  refine Ex.done (hK _ _ ?_)
  refine At.then_n ?_
  refine W.seq ?_
  refine W.sub [(0, _), (3, _), (5, _), (6, _)] ⟨rfl, rfl, rfl, rfl, trivial⟩ ?_
  refine W.regD (by kernel_rfl) #[0, 1, 3, 7, 0, 31, 63, 127, 0, 256, 1023, 2047, 4095, 8191, 16383, 32767, 4095, 131071, 262143, 524287, 1048575, 2097151, 4194303, 8388607, 16777215, 33554431, 67108863, 134217727, 268435455, 536870911, 268435455, 1342177279, 3489660927, 7784628223, 17179869183, 34359738367] [(0, false), (1, false), (2, false), (3, false), (4, false), (5, false), (6, false), (7, false), (8, false), (9, false), (10, false), (11, false), (12, false), (13, false), (14, false), (15, false), (16, false), (17, false), (18, false), (19, false), (20, false), (21, false), (22, false), (23, false), (24, false), (25, false), (26, false), (27, false), (28, false), (29, false), (30, false), (31, false), (32, false), (33, false), (34, false), (35, false)] (by kernel_rfl) ?_
  intro K wD1 hK hwD1
  have M := M.drew hwD1
  have hrow := RowAt.new hrow ((Frm.refl _ _).drew hwD1)
  have hbx := hbx.new ((Frm.refl None' _).drew hwD1)
  refine x_move rfl rfl rfl rfl ?_
  refine x_nil rfl rfl rfl rfl rfl ?_
  refine x_fa rfl rfl rfl fo79_0 rfl ?_
  refine x_ld rfl rfl rfl Tryz.underlying24 rfl rfl (cell_of (M.at_ 1 rfl) rfl) ?_
  refine x_move rfl rfl rfl rfl ?_
  refine x_ia j rfl rfl rfl Tryz.underlying24 sz29 rfl rfl rfl (by omega) ?_
  refine x_fa rfl rfl rfl fo29_0 rfl ?_
  refine x_ld rfl rfl rfl Tryz.underlying9 rfl rfl (RowAt.cell hrow (j := 0) rfl) ?_
  refine x_fa rfl rfl rfl fo187_0 rfl ?_
  refine x_ld rfl rfl rfl Tryz.underlying9 rfl rfl (cell_of (M.at_ 0 rfl) rfl) ?_
  refine x_eqS _ rfl rfl rfl rfl rfl rfl ?_
  refine x_move rfl rfl rfl rfl ?_
  refine Ex.split 35 rfl (fun hsp1 => ?_) (fun hsp1 => ?_)
  ·
   try simp only [sA, sB, sC, sD, sE, sF, sG, sH, sI, sJ, sK, sL, sM, sN, sO] at hsp1
   refine x_move rfl rfl rfl rfl ?_
   refine x_nil rfl rfl rfl rfl rfl ?_
   refine x_fa rfl rfl rfl fo79_0 rfl ?_
   refine x_ld rfl rfl rfl Tryz.underlying24 rfl rfl (cell_of (M.at_ 1 rfl) rfl) ?_
   refine x_move rfl rfl rfl rfl ?_
   refine x_ia j rfl rfl rfl Tryz.underlying24 sz29 rfl rfl rfl (by omega) ?_
   refine x_fa rfl rfl rfl fo29_1 rfl ?_
   refine x_ld rfl rfl rfl Tryz.underlying4 rfl rfl (RowAt.cell hrow (j := 1) rfl) ?_
   refine x_not (!x.2.1) rfl rfl rfl rfl rfl ?_
   refine x_pickT rfl rfl rfl rfl rfl ?_
   refine x_move rfl rfl rfl rfl ?_
   refine Ex.split 46 rfl (fun hsp2 => ?_) (fun hsp2 => ?_)
   ·
    try simp only [sA, sB, sC, sD, sE, sF, sG, sH, sI, sJ, sK, sL, sM, sN, sO] at hsp2
    have hd0 : x.2.1 = false := by simpa using hsp2
    have hxb := baseL_at hb hx hno hsp1 hd0
    rw [← hxb] at hi
    have hq4 : (((x.2.2.length + 4095) / 4096 : Nat) : Int) > (i : Int) := by omega
    refine x_fa rfl rfl rfl fo187_1 rfl ?_
    refine x_ld rfl rfl rfl Tryz.underlying3 rfl rfl (cell_of (M.at_ 0 rfl) rfl) ?_
    refine x_geq true rfl rfl rfl rfl rfl (decide_eq_true (by omega)) ?_
    refine x_pickT rfl rfl rfl rfl rfl ?_
    refine x_move rfl rfl rfl rfl ?_
    refine x_fa rfl rfl rfl fo187_1 rfl ?_
    refine x_ld rfl rfl rfl Tryz.underlying3 rfl rfl (cell_of (M.at_ 0 rfl) rfl) ?_
    refine x_move rfl rfl rfl rfl ?_
    refine x_len rfl rfl rfl rfl Tryz.underlying27 rfl ?_
    refine x_add ((x.2.2.length + 4095 : Nat) : Int) rfl rfl rfl rfl rfl (by rw [wadd (by omega) (by omega)]; omega) ?_
    refine x_quo (((x.2.2.length + 4095) / 4096 : Nat) : Int) rfl rfl rfl rfl rfl (by decide) (quo4k (by omega)) ?_
    refine x_lss true rfl rfl rfl rfl rfl (decide_eq_true (by omega)) ?_
    refine x_pickT rfl rfl rfl rfl rfl ?_
    refine Ex.done (hK _ _ ?_)
    refine At.then_n ?_
    refine W.condT rfl ?_
    refine W.seq ?_
    refine W.sub [(3, _), (6, _)] ⟨rfl, rfl, trivial⟩ ?_
    refine W.reg [(0, true), (1, false), (2, false), (3, false), (4, false), (5, false), (6, false), (7, false), (8, false), (9, false), (10, false), (11, false), (12, false), (13, true), (14, false)] (by kernel_rfl) ?_
    intro K hK
    refine x_bs0 rfl rfl rfl Tryz.underlying27 sz5 ?_
    intro bb0 wb hbb hwb
    have M := M.acons hbb hwb
    have hbx := hbx.new ((Frm.refl None' _).alloc rfl hwb).frm
    refine ⟨trivial, ?_⟩
    refine x_move rfl rfl rfl rfl ?_
    refine x_fa rfl rfl rfl fo187_1 rfl ?_
    refine x_ld rfl rfl rfl Tryz.underlying3 rfl rfl (cell_of (M.at_ 1 rfl) rfl) ?_
    refine x_mul ((4096 * i : Nat) : Int) rfl rfl rfl rfl rfl (by rw [wmul (by omega) (by omega)]; omega) ?_
    refine x_move rfl rfl rfl rfl ?_
    refine x_len rfl rfl rfl rfl Tryz.underlying27 rfl ?_
    refine x_fa rfl rfl rfl fo187_1 rfl ?_
    refine x_ld rfl rfl rfl Tryz.underlying3 rfl rfl (cell_of (M.at_ 1 rfl) rfl) ?_
    refine x_mul ((4096 * i : Nat) : Int) rfl rfl rfl rfl rfl (by rw [wmul (by omega) (by omega)]; omega) ?_
    refine x_add ((4096 * i + 4096 : Nat) : Int) rfl rfl rfl rfl rfl (by rw [wadd (by omega) (by omega)]; omega) ?_
    refine x_min ((min x.2.2.length (4096 * i + 4096) : Nat) : Int) rfl rfl rfl rfl rfl (by split <;> omega) ?_
    refine x_sllh (4096 * i) (min x.2.2.length (4096 * i + 4096)) rfl rfl rfl Tryz.underlying27 sz5 rfl rfl rfl rfl rfl (by omega) (by have := hbx.capb; omega) ?_
    have hsb := bytes_sub hbx (lo := 4096 * i) (hi := min x.2.2.length (4096 * i + 4096)) (by omega) (by omega)
    have hsl : ((x.2.2.drop (4096 * i)).take (min x.2.2.length (4096 * i + 4096) - 4096 * i)).length ≤ 4096 := by rw [List.length_take]; omega
    refine x_apL (L := [_]) (cs := []) (nn := 0) rfl rfl rfl rfl Tryz.underlying27 sz5 ze5 rfl by5 rfl rfl (.inr ⟨bb0, 0, [], _, rfl, rfl, rfl, rfl⟩) M (by simp) (hsb.src Tryz.underlying27 (byteCs_one _)) (by omega) (by decide) (by omega) ?_
    intro Lo v6 w6 how M
    rw [Nat.zero_add, List.nil_append] at how
    refine ⟨trivial, ?_⟩
    refine x_assign rfl rfl rfl rfl ?_
    refine Ex.done (hK _ _ ?_)
    refine At.then_n ?_
    refine W.ret ?_
    refine At.blk_r ?_
    refine At.then_r ?_
    refine At.loop_r ?_
    refine At.blk_r ?_
    refine At.then_r ?_
    refine At.ret1 (.tmp 4) rfl ⟨rfl, trivial⟩ ?_
    have e : (x.2.2.drop (4096 * i)).take (min x.2.2.length (4096 * i + 4096) - 4096 * i) = (x.2.2.drop (4096 * i)).take 4096 := by
     rcases Nat.le_total x.2.2.length (4096 * i + 4096) with h | h
     ·rw [Nat.min_eq_left h, List.take_of_length_le (by rw [List.length_drop]; omega), List.take_of_length_le (by rw [List.length_drop]; omega)]
     ·rw [Nat.min_eq_right h]; congr 1; omega
    rw [e] at how
    rw [← hxb]
    exact ⟨Lo, how, (M.perm (L' := (bbx1, .cells [strV nm, .int .i64 (i : Int)].toArray 187 (0, 0)) :: ((bs, .cells [.slice (some ⟨bb, off, none⟩) l.length cv, .bool false].toArray 79 (0, 0)) :: (Lf ++ (X ++ Lo)))) (perm_c fun p => by simp only [List.countP_append, List.countP_cons, List.countP_nil]; omega)).tail⟩
   ·
    try simp only [sA, sB, sC, sD, sE, sF, sG, sH, sI, sJ, sK, sL, sM, sN, sO] at hsp2
    refine Ex.skip_ rfl rfl rfl ?_
    refine Ex.skip_ rfl rfl rfl ?_
    refine Ex.skip_ rfl rfl rfl ?_
    refine x_pickF rfl rfl rfl rfl rfl ?_
    refine x_move rfl rfl rfl rfl ?_
    refine Ex.skip_ rfl rfl rfl ?_
    refine Ex.skip_ rfl rfl rfl ?_
    refine Ex.skip_ rfl rfl rfl ?_
    refine Ex.skip_ rfl rfl rfl ?_
    refine Ex.skip_ rfl rfl rfl ?_
    refine Ex.skip_ rfl rfl rfl ?_
    refine Ex.skip_ rfl rfl rfl ?_
    refine x_pickF rfl rfl rfl rfl rfl ?_
    refine Ex.done (hK _ _ ?_)
    refine At.then_n ?_
    refine W.condF rfl ?_
    refine W.skip ?_
    refine At.blk_n ?_
    refine At.then_n ?_
    refine W.sub [(0, _), (3, _), (5, _)] ⟨rfl, rfl, rfl, trivial⟩ ?_
    refine W.reg [(0, false), (1, false), (2, false)] (by kernel_rfl) ?_
    intro K hK
    refine x_move rfl rfl rfl rfl ?_
    refine x_add _ rfl rfl rfl rfl rfl (wadd (by omega) (by omega)) ?_
    refine x_assign rfl rfl rfl rfl ?_
    refine Ex.done (hK _ _ ?_)
    exact At.back (j + 1) ⟨rfl, rfl, rfl, trivial⟩ ⟨by omega, mem_take_snoc hx hno (fun e => by rw [e.2] at hsp2; cases hsp2), M⟩ (by first | omega | (simp only; omega) | (simp; done) | (simp; omega))
  ·
   try simp only [sA, sB, sC, sD, sE, sF, sG, sH, sI, sJ, sK, sL, sM, sN, sO] at hsp1
   refine Ex.skip_ rfl rfl rfl ?_
   refine Ex.skip_ rfl rfl rfl ?_
   refine Ex.skip_ rfl rfl rfl ?_
   refine Ex.skip_ rfl rfl rfl ?_
   refine Ex.skip_ rfl rfl rfl ?_
   refine Ex.skip_ rfl rfl rfl ?_
   refine Ex.skip_ rfl rfl rfl ?_
   refine Ex.skip_ rfl rfl rfl ?_
   refine Ex.skip_ rfl rfl rfl ?_
   refine x_pickF rfl rfl rfl rfl rfl ?_
   refine x_move rfl rfl rfl rfl ?_
   refine Ex.skip_ rfl rfl rfl ?_
   refine Ex.skip_ rfl rfl rfl ?_
   refine Ex.skip_ rfl rfl rfl ?_
   refine x_pickF rfl rfl rfl rfl rfl ?_
   refine x_move rfl rfl rfl rfl ?_
   refine Ex.skip_ rfl rfl rfl ?_
   refine Ex.skip_ rfl rfl rfl ?_
   refine Ex.skip_ rfl rfl rfl ?_
   refine Ex.skip_ rfl rfl rfl ?_
   refine Ex.skip_ rfl rfl rfl ?_
   refine Ex.skip_ rfl rfl rfl ?_
   refine Ex.skip_ rfl rfl rfl ?_
   refine x_pickF rfl rfl rfl rfl rfl ?_
   refine Ex.done (hK _ _ ?_)
   refine At.then_n ?_
   refine W.condF rfl ?_
   refine W.skip ?_
   refine At.blk_n ?_
   refine At.then_n ?_
   refine W.sub [(0, _), (3, _), (5, _)] ⟨rfl, rfl, rfl, trivial⟩ ?_
   refine W.reg [(0, false), (1, false), (2, false)] (by kernel_rfl) ?_
   intro K hK
   refine x_move rfl rfl rfl rfl ?_
   refine x_add _ rfl rfl rfl rfl rfl (wadd (by omega) (by omega)) ?_
   refine x_assign rfl rfl rfl rfl ?_
   refine Ex.done (hK _ _ ?_)
   exact At.back (j + 1) ⟨rfl, rfl, rfl, trivial⟩ ⟨by omega, mem_take_snoc hx hno (fun e => hsp1 e.1), M⟩ (by first | omega | (simp only; omega) | (simp; done) | (simp; omega))
 ·try simp only [sA, sB, sC, sD, sE, sF, sG, sH, sI, sJ, sK, sL, sM, sN, sO] at hco1
  have hj2 : j = l.length := by omega
  subst hj2
  rw [List.take_length] at hno
  refine W.exit ?_
  refine At.then_x ?_
  refine At.loop_x ?_
  refine At.blk_x ?_
  refine At.then_n ?_
  refine W.seq ?_
  refine W.sub [(0, _)] ⟨rfl, trivial⟩ ?_
  refine W.reg [(0, false), (1, false), (2, false), (3, true)] (by kernel_rfl) ?_
  intro K hK
  refine x_move rfl rfl rfl rfl ?_
  refine x_nil rfl rfl rfl rfl rfl ?_
  refine x_fa rfl rfl rfl fo79_1 rfl ?_
  refine x_st [_] _ rfl rfl rfl sz4 rfl rfl rfl rfl (M.at_ 1 rfl) rfl rfl rfl ?_
  intro wst1 hwst1
  have M := M.put 1 rfl hwst1
  refine ⟨trivial, ?_⟩
  refine Ex.done (hK _ _ ?_)
  refine At.then_n ?_
  refine W.seq ?_
  refine W.sub [] trivial ?_
  refine W.reg [(0, false)] (by kernel_rfl) ?_
  intro K hK
  refine x_assign rfl rfl rfl rfl ?_
  refine Ex.done (hK _ _ ?_)
  refine At.then_n ?_
  refine W.ret ?_
  refine At.ret1 (.tmp 4) rfl ⟨rfl, trivial⟩ ?_
  exact (baseL_some hb hno).elim
end Go.Proofs.YtigfbpbnohkokaaGreat

namespace Go.Proofs.YtigfbpbnohkokaaGreat
open Go Go.Fw Go.RowKit Go.Proofs
set_option linter.unusedVariables false
set_option linter.unusedSimpArgs false
noncomputable def madeE (l : List Raw) : Int := if (l.map metaR).any badM = true then 2 else (newS l).2
theorem names_of {l : List Raw} (h0 : (newS l).2 = 0) : (l.map (·.1)).Nodup := by
 have hb : OKd (bareL l) := fun x hx => by
  obtain ⟨y, _, rfl⟩ := List.mem_map.1 hx
  exact ⟨by simp [bareR], fun _ => rfl⟩
 have h2 : (ofL (bareL l)).2 = 0 := by
  unfold newS at h0
  split at h0
  ·cases h0
  ·split at h0
   ·rename_i h; exact absurd h0 h
   ·rename_i h; exact Classical.not_not.1 h
 have := (of_facts h2 hb).1
 rwa [bare_names'] at this
theorem made_ok {l : List Raw} (h : madeE l = 0) : OKd l ∧ (newS l).2 = 0 := by
 unfold madeE at h
 split at h
 ·cases h
 ·rename_i hb
  refine ⟨okd_of (by simpa using hb) ?_, h⟩
  cases hg : l.any (fun x => decide (65536 < x.2.2.length)) with
  | false => rfl
  | true => rw [newS_3 hg] at h; cases h
theorem made_post {l : List Raw} {base : BaseF} {bv r : Value} {w w' : World} (h : ((l.map metaR).any badM = true ∧ r = .tuple #[.pointer none, .int .i64 2] ∧ New w w') ∨ ((l.map metaR).any badM = false ∧ (newS l).2 ≠ 0 ∧ r = .tuple #[.pointer none, .int .i64 (newS l).2] ∧ New w w') ∨ ((l.map metaR).any badM = false ∧ (newS l).2 = 0 ∧ ∃ bf S, r = .tuple #[ptr bf, .int .i64 0] ∧ FR base S (newS l).1 (fun _ _ => none) ∧ Sep w (fsB bf bv (usedL (newS l).1) S) w')) :
  ∃ po, r = .tuple #[.pointer po, .int .i64 (madeE l)] ∧ (madeE l ≠ 0 → po = none ∧ New w w') ∧ (madeE l = 0 → ∃ bf S, po = some ⟨bf, 0, none⟩ ∧ FR base S (newS l).1 (fun _ _ => none) ∧ Sep w (fsB bf bv (usedL (newS l).1) S) w') := by
 rcases h with ⟨h1, rfl, hn⟩ | ⟨h1, h2, rfl, hn⟩ | ⟨h1, h2, bf, S, rfl, hF, M⟩
 ·have e : madeE l = 2 := by unfold madeE; rw [if_pos h1]
  exact ⟨none, by rw [e], fun _ => ⟨rfl, hn⟩, fun h => by rw [e] at h; cases h⟩
 ·have e : madeE l = (newS l).2 := by unfold madeE; rw [if_neg (by rw [h1]; simp)]
  exact ⟨none, by rw [e], fun _ => ⟨rfl, hn⟩, fun h => absurd (e ▸ h) h2⟩
 ·have e : madeE l = 0 := by unfold madeE; rw [if_neg (by rw [h1]; simp), h2]
  exact ⟨some ⟨bf, 0, none⟩, by rw [e], fun h => absurd e h, fun _ => ⟨bf, S, rfl, hF, M⟩⟩

set_option maxRecDepth 100000 in
theorem made19_c {w00 w0 : World} {v : Value} {l : List Raw} {Lf L : List (Nat × Obj)} (M : Sep w00 (Lf ++ L) w0) (h : FilesK w00 Lf v l) (hl : l.length ≤ 1000) : Ret Tryz.prog 15 #[v] w0 fun r w' => ∃ po bs, r = .tuple #[.pointer po, ptr bs, .int .i64 (madeE l)] ∧ (madeE l ≠ 0 → po = none ∧ Sep w00 ((bs, .cells [v, .bool false].toArray 79 (0, 0)) :: (Lf ++ L)) w') ∧
  (madeE l = 0 → ∃ bf bv S, po = some ⟨bf, 0, none⟩ ∧ FR (baseL l) S (newS l).1 (fun _ _ => none) ∧ BaseC w00 ((bs, .cells [v, .bool false].toArray 79 (0, 0)) :: Lf) bv (baseL l) ∧ Sep w00 (fsB bf bv (usedL (newS l).1) S ++ (((bs, .cells [v, .bool false].toArray 79 (0, 0)) :: Lf) ++ L)) w') := by
 obtain ⟨pv, cv, rfl⟩ := (h.at_ M (fun y hy => by simp [hy])).shape
 refine Ret.of_W Tryz.func15 rfl Tryz.ntmps15 rfl ?_
 refine W.seq ?_
 refine W.sub [(0, _)] ⟨rfl, trivial⟩ ?_
 refine W.reg [(0, false), (1, false), (2, false)] (by kernel_rfl) ?_
 intro K hK
 refine x_assign rfl rfl rfl rfl ?_
 refine x_assign rfl rfl rfl rfl ?_
 refine x_assign rfl rfl rfl rfl ?_
 refine Ex.done (hK _ _ ?_)
 refine At.then_n ?_
 refine W.seq ?_
 refine W.sub [(0, _)] ⟨rfl, trivial⟩ ?_
 refine W.reg [(0, false), (1, false), (2, true), (3, false)] (by kernel_rfl) ?_
 intro K hK
 refine x_move rfl rfl rfl rfl ?_
 refine x_build [_, _] rfl rfl rfl pl79 ze79 rfl rfl rfl ?_
 refine x_box [_, _] rfl rfl rfl rfl rfl ?_
 intro bbx1 wbx1 hbbx1 hwbx1
 have M := M.acons hbbx1 hwbx1
 refine ⟨trivial, ?_⟩
 refine x_assign rfl rfl rfl rfl ?_
 refine Ex.done (hK _ _ ?_)
 refine At.then_n ?_
 refine W.seq ?_
 refine W.sub [(0, _), (5, _)] ⟨rfl, rfl, trivial⟩ ?_
 refine W.reg [(0, false), (1, true), (2, false), (3, false), (4, true), (5, false), (6, false), (7, false), (8, false), (9, false)] (by kernel_rfl) ?_
 intro K hK
 refine x_move rfl rfl rfl rfl ?_
 refine x_call rfl rfl rfl rfl rfl en39 (metas_c (h.at_ M (fun y hy => List.mem_cons_of_mem _ (List.mem_append_left _ hy))) hl) ?_
 rintro r_ w1 ⟨L1, hm1, M1⟩
 have M := M.grow M1
 obtain ⟨p1, c1, rfl⟩ := hm1.shape
 refine ⟨trivial, ?_⟩
 refine x_move rfl rfl rfl rfl ?_
 refine x_mkif rfl rfl rfl rfl Tryz.underlying44 (by intro ms e; cases e) ?_
 refine x_call rfl rfl rfl rfl rfl en13 (onew_c (l := l) (base := baseL l) (metasO_at hm1 (fun y hy => M.get (List.mem_append_right _ hy))) (by simpa using hl) rfl (fun _ => rfl) (fun h0 x hx hd => baseL_of (names_of h0) hx hd)) ?_
 rintro r_ w2 hpost
 obtain ⟨po, rfl, hp1, hp2⟩ := made_post hpost
 refine ⟨trivial, ?_⟩
 refine x_move rfl rfl rfl rfl ?_
 refine x_ext rfl rfl rfl rfl rfl ?_
 refine x_ext rfl rfl rfl rfl rfl ?_
 refine x_assign rfl rfl rfl rfl ?_
 refine x_assign rfl rfl rfl rfl ?_
 refine Ex.done (hK _ _ ?_)
 refine At.then_n ?_
 refine W.seq ?_
 refine W.sub [(5, _), (6, _), (7, _)] ⟨rfl, rfl, rfl, trivial⟩ ?_
 refine W.reg [(0, false), (1, false), (2, false), (3, false), (4, false), (5, false)] (by kernel_rfl) ?_
 intro K hK
 refine x_move rfl rfl rfl rfl ?_
 refine x_move rfl rfl rfl rfl ?_
 refine x_move rfl rfl rfl rfl ?_
 refine x_assign rfl rfl rfl rfl ?_
 refine x_assign rfl rfl rfl rfl ?_
 refine x_assign rfl rfl rfl rfl ?_
 refine Ex.done (hK _ _ ?_)
 refine At.then_n ?_
 refine W.ret ?_
 refine At.ret3 (.tmp 2) (.tmp 3) (.tmp 4) rfl ⟨rfl, rfl, rfl, trivial⟩ ?_
 refine ⟨po, bbx1, rfl, fun hne => ?_, fun h0 => ?_⟩
 ·obtain ⟨h1, hn⟩ := hp1 hne
  exact ⟨h1, (M.new hn).dropR⟩
 ·obtain ⟨bf, S, h1, hF, M2⟩ := hp2 h0
  obtain ⟨hokd, hn0⟩ := made_ok h0
  refine ⟨bf, .iface 44 (ptr bbx1), S, h1, hF, ⟨_, ptr bbx1, _, rfl, (by kernel_rfl : methOK Tryz.prog 44 "Block" 191 = true), en191, fun nm b i X w hb hi MX => ?_⟩, ?_⟩
  ·exact block_c MX h hl (fun x hx => (hokd x hx).1) hb hi
  ·have M : Sep w00 (((bbx1, .cells [.slice pv l.length cv, .bool false].toArray 79 (0, 0)) :: (Lf ++ L)) ++ L1) w1 := M
   have M2 : Sep w1 (fsB bf (.iface 44 (ptr bbx1)) (usedL (newS l).1) S) w2 := M2
   exact St.dropL (L' := L1) ((M.grow' M2).perm (perm_c fun p => by simp only [List.countP_append, List.countP_cons]; omega))
end Go.Proofs.YtigfbpbnohkokaaGreat

namespace Go.Proofs.YtigfbpbnohkokaaGreat
open Go Go.Fw Go.RowKit
set_option linter.unusedVariables false
set_option linter.unusedSimpArgs false

/-- Who asks for what. -/
structure Ask where
 who : Int
 o : OpS
def askC (a : Ask × Value) : List Value := .int .i64 a.1.who :: opC a.1.o a.2
def AsksAt (w : World) (v : Value) (l : List Ask) : Prop := ∃ ac : List (Ask × Value), ac.map (·.1) = l ∧ Sg w v 10 ac.length (ac.flatMap askC) ∧ ∀ f ∈ ac, BytesAt w f.2 f.1.o.d
section
variable {w w1 : World} {p : Option Addr} {v : Value} {l : List Ask} {a : Ask} {b off len cap j : Nat}
theorem AsksAt.new (h : AsksAt w v l) (hn : New w w1) : AsksAt w1 v l := let ⟨ac, h1, h2, h3⟩ := h; ⟨ac, h1, h2.new hn, fun f hf => (h3 f hf).new hn⟩
theorem AsksAt.shape (h : AsksAt w v l) : ∃ p cap, v = .slice p l.length cap := by
 obtain ⟨ac, h1, h2, _⟩ := h
 have : ac.length = l.length := by rw [← h1]; simp
 rw [← this]; exact h2.shape
theorem AsksAt.blk (h : AsksAt w (.slice p len cap) l) (hj : j < l.length) : ∃ b off, p = some ⟨b, off, none⟩ ∧ len = l.length := by
 obtain ⟨ac, h1, h2, _⟩ := h
 have : ac.length = l.length := by rw [← h1]; simp
 rw [← this]; exact h2.blk (j := j) (by omega)
theorem AsksAt.row (h : AsksAt w (.slice (some ⟨b, off, none⟩) len cap) l) (hx : l[j]? = some a) : ∃ p c, RowAt w b (off + j * 10) (.int .i64 a.who :: opC a.o (.slice p a.o.d.length c)) ∧ BytesAt w (.slice p a.o.d.length c) a.o.d := by
 obtain ⟨ac, h1, h2, h3⟩ := h
 have hj : j < l.length := (List.getElem?_eq_some_iff.1 hx).1
 have hlen : ac.length = l.length := by rw [← h1]; simp
 obtain ⟨f, hf⟩ := get_lt (l := ac) (q := j) (by omega)
 have hfx : f.1 = a := by
  rw [← h1, List.getElem?_map, hf] at hx
  simpa using hx
 subst hfx
 have h4 := h3 f (List.mem_of_getElem? hf)
 obtain ⟨p, c, h5⟩ := h4.shape
 have hsl := h2.sl (by omega)
 obtain ⟨b', off', h6, h7⟩ := h2.blk (j := j) (by omega)
 cases h6; subst h7
 refine ⟨p, c, ?_, h5 ▸ h4⟩
 rw [← h5]
 have hfd : ((ac.flatMap askC).drop (j * 10)).take (askC f).length = askC f := flat_drop (m := 10) (by decide) (fun _ _ => rfl) hf
 exact hsl.row (j := j) (l := askC f) rfl hfd (by simp [askC])
end
end Go.Proofs.YtigfbpbnohkokaaGreat

namespace Go.Proofs.YtigfbpbnohkokaaGreat
open Go Go.Fw Go.RowKit Go.Proofs
set_option linter.unusedVariables false
set_option linter.unusedSimpArgs false

end Go.Proofs.YtigfbpbnohkokaaGreat

namespace Go.Proofs.YtigfbpbnohkokaaGreat
open Go Go.Fw Go.RowKit
set_option linter.unusedVariables false
set_option linter.unusedSimpArgs false

end Go.Proofs.YtigfbpbnohkokaaGreat

namespace Go.Proofs.YtigfbpbnohkokaaGreat
open Go Go.Fw Go.RowKit Go.Proofs
set_option linter.unusedVariables false
set_option linter.unusedSimpArgs false

end Go.Proofs.YtigfbpbnohkokaaGreat

namespace Go.Proofs.YtigfbpbnohkokaaGreat
open Go Go.Fw Go.RowKit Go.Proofs
set_option linter.unusedVariables false
set_option linter.unusedSimpArgs false

end Go.Proofs.YtigfbpbnohkokaaGreat

namespace Go.Proofs.YtigfbpbnohkokaaGreat
open Go Go.Fw Go.RowKit
set_option linter.unusedVariables false
set_option linter.unusedSimpArgs false

def lz : List Raw := [([122], false, [98, 97, 115, 101])]
def lo1 : OpS := ⟨1, [97], [], 0, 0, 0, true, true, []⟩
def lo2 : OpS := ⟨3, [], [], 1, 2, 0, false, false, [120, 121]⟩
def lo3 : OpS := ⟨8, [47, 97], [98], 0, 0, 0, false, false, []⟩
def lo4 : OpS := ⟨2, [], [], 1, 0, 9, false, false, []⟩
def lo5 : OpS := ⟨7, [98], [], 0, 0, 0, false, false, []⟩
def lo6 : OpS := ⟨5, [], [], 1, 0, 0, false, false, []⟩
def lv1 : St3 := doS lz (fun _ _ => none) 0 lo1
def lv2 : St3 := doS lv1.2.1 lv1.2.2 0 lo2
def lv3 : St3 := doS lv2.2.1 lv2.2.2 0 lo3
def lv4 : St3 := doS lv3.2.1 lv3.2.2 0 lo4
def lv5 : St3 := doS lv4.2.1 lv4.2.2 0 lo5
def lv6 : St3 := doS lv5.2.1 lv5.2.2 0 lo6
def lv7 : St3 := doS lv6.2.1 lv6.2.2 0 lo5
theorem lv_says : lv1.1.h = 1 ∧ lv2.1.n = 2 ∧ lv3.1.e = 0 ∧ lv4.1.d = [0, 0, 120, 121] ∧ lv5.1.e = 18 ∧ lv6.1.e = 0 ∧ lv7.1.e = 0 ∧ lv7.2.1 = lz := by decide +kernel
theorem of_lz : ofL (bareL lz) = (bareL lz, 0) := (ofL_ok (firstR_zero.1 (by decide +kernel)) (together_one _)).trans (by decide +kernel)
theorem of_lz2 : ofL lz = (lz, 0) := (ofL_ok (firstR_zero.1 (by decide +kernel)) (together_one _)).trans (by decide +kernel)
theorem new_lz : newS lz = (lz, 0) := by rw [newS_0 (by decide +kernel) (by rw [of_lz]) (by decide +kernel), of_lz2]
end Go.Proofs.YtigfbpbnohkokaaGreat

namespace Go.Proofs.YtigfbpbnohkokaaGreat
open Go Go.Fw Go.RowKit Go.Proofs
set_option linter.unusedVariables false
set_option linter.unusedSimpArgs false


theorem do_x {w00 w0 : World} {bf : Nat} {bv dv : Value} {S : FSt} {base : BaseF} {X Lb L : List (Nat × Obj)} {l : List Raw} {hf : HF} {who : Int} {o : OpS} (M : Sep w00 (X ++ (fsB bf bv (usedL l) S ++ (Lb ++ L))) w0) (hR : FR base S l hf) (hB : BaseC w00 Lb bv base) (hdv : ∀ w Y, Sep w00 Y w → (∀ y ∈ X, y ∈ Y) → (∀ y ∈ L, y ∈ Y) → BytesAt w dv o.d) :
  Ret Tryz.prog 16 #[ptr bf, .int .i64 who, .agg (opC o dv).toArray] w0 fun r w' => ∃ S' p1 c1 p2 c2 n2 L1 L2, r = rsV (doS l hf who o).1 (.slice p1 (doS l hf who o).1.d.length c1) (.slice p2 n2 c2) ∧ BytesO L1 (.slice p1 (doS l hf who o).1.d.length c1) (doS l hf who o).1.d ∧ StrsO L2 (.slice p2 n2 c2) (doS l hf who o).1.l ∧ FR base S' (doS l hf who o).2.1 (doS l hf who o).2.2 ∧ Sep w00 (X ++ (fsB bf bv (usedL (doS l hf who o).2.1) S' ++ (Lb ++ (L ++ (L1 ++ L2))))) w' :=
 (do_c (St.fsi M) hR hB (fun w Y hY hs => hdv w Y hY (fun y hy => hs y (List.mem_append_left _ hy)) (fun y hy => hs y (List.mem_append_right _ hy)))).mono fun r w' ⟨S', Lr, ⟨dv', lv', L1, L2, h1, h2, h3, h4⟩, hR', M⟩ => by
  subst h2
  obtain ⟨p1, c1, rfl⟩ := h3.shape
  obtain ⟨p2, c2, rfl, _⟩ := h4.shape2 (by decide)
  exact ⟨S', p1, c1, p2, c2, _, L1, L2, h1, h3, h4, hR', St.fso M⟩



theorem files_x {w00 w0 : World} {bf : Nat} {bv : Value} {S : FSt} {base : BaseF} {X Lb L : List (Nat × Obj)} {l : List Raw} {hf : HF} (M : Sep w00 (X ++ (fsB bf bv (usedL l) S ++ (Lb ++ L))) w0) (hR : FR base S l hf) (hB : BaseC w00 Lb bv base) :
  Ret Tryz.prog 17 #[ptr bf] w0 fun r w' => ∃ p c Lr, r = .slice p l.length c ∧ FilesO Lr (.slice p l.length c) l ∧ Sep w00 (X ++ (fsB bf bv (usedL l) S ++ (Lb ++ (L ++ Lr)))) w' :=
 (files19_c (St.fsi M) hR hB).mono fun r w' ⟨Lr, h1, M⟩ => by
  obtain ⟨p, c, rfl⟩ := (filesO_get h1 (fun y hy => M.get (by simp [hy]))).shape
  exact ⟨p, c, Lr, rfl, h1, St.fso M⟩

end Go.Proofs.YtigfbpbnohkokaaGreat

namespace Go.Proofs.YtigfbpbnohkokaaGreat
open Go Go.Fw Go.RowKit Go.Proofs
set_option linter.unusedVariables false
set_option linter.unusedSimpArgs false

set_option maxRecDepth 100000 in
theorem lives19_c {w0 : World}   : Ret Tryz.prog 11 #[] w0 fun r w' => r = .bool true ∧ New w0 w' := by
 have M : Sep w0 [] w0 := St.nil w0
 refine Ret.of_W Tryz.func11 rfl Tryz.ntmps11 rfl ?_
 refine W.seq ?_
 refine W.sub [] trivial ?_
 refine W.reg [(0, false)] (by kernel_rfl) ?_
 intro K hK
 refine x_assign rfl rfl rfl rfl ?_
 refine Ex.done (hK _ _ ?_)
 refine At.then_n ?_
 refine W.seq ?_
 refine W.sub [] trivial ?_
 refine W.reg [(0, true), (1, true), (2, false), (3, true), (4, true), (5, false), (6, false), (7, false), (8, false), (9, false), (10, false), (11, false)] (by kernel_rfl) ?_
 intro K hK
 refine x_bsN (byteCs [98, 97, 115, 101]) rfl rfl rfl Tryz.underlying27 sz5 ze5 (Z := [_]) rfl rfl (by decide) (by decide) rfl (by kernel_rfl) ?_
 intro bz wz hbz hwz
 have M := M.acons hbz hwz
 refine ⟨trivial, ?_⟩
 refine x_cvsl rfl rfl rfl rfl Tryz.underlying27 Tryz.underlying5 rfl (M.at_ 0 rfl) ?_
 intro wcv1 hwcv1
 have M := M.put 0 rfl hwcv1
 refine ⟨trivial, ?_⟩
 refine x_build [_, _, _] rfl rfl rfl pl29 ze29 rfl rfl rfl ?_
 refine x_bs1 (cs := [strV [122], .bool false, .slice (some ⟨bz, 0, none⟩) 4 4]) rfl rfl rfl Tryz.underlying24 sz29 ze29 (Z := [_, _, _]) rfl rfl (by decide) (by decide) rfl rfl rfl ?_
 intro bf0 wbs2 hbf0 hwbs2
 have M := M.acons hbf0 hwbs2
 have M : Sep w0 [(bf0, .cells [strV [122], .bool false, .slice (some ⟨bz, 0, none⟩) 4 4].toArray 29 (0, 0)), (bz, .cells (byteCs [98, 97, 115, 101]).toArray 5 (4, 5))] wbs2 := M
 have hFz : FilesK w0 [(bf0, .cells [strV [122], .bool false, .slice (some ⟨bz, 0, none⟩) 4 4].toArray 29 (0, 0)), (bz, .cells (byteCs [98, 97, 115, 101]).toArray 5 (4, 5))] (.slice (some ⟨bf0, 0, none⟩) 1 1) lz := ⟨[(([122], false, [98, 97, 115, 101]), .slice (some ⟨bz, 0, none⟩) 4 4)], rfl, SgK.slL (.inr ⟨bf0, 0, 1, _, _, _, rfl, Nat.le_refl _, List.mem_cons_self, rfl, rfl⟩) (fun _ h => h), fun f hf => by rw [List.mem_singleton.1 hf]; exact ⟨SgK.lit (List.mem_cons_of_mem _ List.mem_cons_self) rfl, rfl⟩⟩
 refine ⟨trivial, ?_⟩
 refine x_call rfl rfl rfl rfl rfl en15 (made19_c (w00 := w0) (L := []) (Lf := [_, _]) (l := lz) (by rw [List.append_nil]; exact M) hFz (by decide)) ?_
 rintro r_ w1 ⟨po, bs, rfl, hbad, hgood⟩
 have hz0 : madeE lz = 0 := by unfold madeE; rw [if_neg (by decide), new_lz]
 obtain ⟨bf, bv, S0, rfl, hR0, hB, M⟩ := hgood hz0
 rw [new_lz] at hR0 M
 rw [hz0]
 have hR0 : FR (baseL lz) S0 lz (fun _ _ => none) := hR0
 obtain ⟨Lb, hLb⟩ : ∃ Lb : List (Nat × Obj), Lb = ((bs, .cells [.slice (some ⟨bf0, 0, none⟩) 1 1, .bool false].toArray 79 (0, 0)) :: [(bf0, .cells [strV [122], .bool false, .slice (some ⟨bz, 0, none⟩) 4 4].toArray 29 (0, 0)), (bz, .cells (byteCs [98, 97, 115, 101]).toArray 5 (4, 5))]) := ⟨_, rfl⟩
 have hsh : ((bs, .cells [.slice (some ⟨bf0, 0, none⟩) 1 1, .bool false].toArray 79 (0, 0)) : Nat × Obj) ∈ Lb := by rw [hLb]; exact List.mem_cons_self
 have hB : BaseC w0 Lb bv (baseL lz) := by rw [hLb]; exact hB
 have M : Sep w0 ([] ++ (fsB bf bv (usedL lz) S0 ++ (Lb ++ []))) w1 := by rw [hLb]; exact M
 refine ⟨trivial, ?_⟩
 refine x_move rfl rfl rfl rfl ?_
 refine x_ext rfl rfl rfl rfl rfl ?_
 refine x_ext rfl rfl rfl rfl rfl ?_
 refine x_ext rfl rfl rfl rfl rfl ?_
 refine x_assign rfl rfl rfl rfl ?_
 refine x_assign rfl rfl rfl rfl ?_
 refine x_assign rfl rfl rfl rfl ?_
 refine Ex.done (hK _ _ ?_)
 refine At.then_n ?_
 refine W.seq ?_
 refine W.seq ?_
 refine W.sub [(1, _), (2, _), (3, _)] ⟨rfl, rfl, rfl, trivial⟩ ?_
 refine W.reg [(0, false), (1, false), (2, false), (3, false), (4, false), (5, false)] (by kernel_rfl) ?_
 intro K hK
 refine x_move rfl rfl rfl rfl ?_
 refine x_eqpn false rfl rfl rfl Tryz.underlying34 rfl rfl rfl ?_
 refine x_move rfl rfl rfl rfl ?_
 refine x_move rfl rfl rfl rfl ?_
 refine x_nei false rfl rfl rfl rfl rfl rfl ?_
 refine x_pickF rfl rfl rfl rfl rfl ?_
 refine Ex.done (hK _ _ ?_)
 refine At.then_n ?_
 refine W.condF rfl ?_
 refine W.skip ?_
 refine At.then_n ?_
 refine W.seq ?_
 refine W.sub [(1, _), (2, _)] ⟨rfl, rfl, trivial⟩ ?_
 refine W.reg [(0, false), (1, false), (2, true), (3, true), (4, true)] (by kernel_rfl) ?_
 intro K hK
 refine x_move rfl rfl rfl rfl ?_
 refine x_build [_, _, _, _, _, _, _, _, _] rfl rfl rfl pl52 ze52 rfl rfl rfl ?_
 refine x_call rfl rfl rfl rfl rfl en16 (do_x (X := []) (l := lz) (hf := fun _ _ => none) (who := 0) (o := lo1) (dv := (.slice none 0 0)) M hR0 hB (fun _ _ _ _ _ => .inr (.inl ⟨rfl, rfl, rfl⟩))) ?_
 rintro r_ wr1 ⟨S1, p1, c1, q1, d1, n1, La1, Lb1, rfl, hb1, hs1, hR1, M⟩
 have hR1 : FR (baseL lz) S1 lv1.2.1 lv1.2.2 := hR1
 refine ⟨trivial, ?_⟩
 refine x_alloc [_, _, _, _, _] rfl rfl rfl ze49 rfl ?_
 intro bal1 wal1 hbal1 hwal1
 have M := M.acons hbal1 hwal1
 refine ⟨trivial, ?_⟩
 refine x_st [_, _, _, _, _] _ rfl rfl rfl sz49 rfl rfl rfl rfl (M.at_ 0 rfl) rfl rfl rfl ?_
 intro wst1 hwst1
 have M := M.put 0 rfl hwst1
 refine ⟨trivial, ?_⟩
 refine Ex.done (hK _ _ ?_)
 refine At.then_n ?_
 refine W.seq ?_
 refine W.sub [(1, _), (2, _), (4, _)] ⟨rfl, rfl, rfl, trivial⟩ ?_
 refine W.reg [(0, false), (1, true), (2, true), (3, false), (4, true), (5, true), (6, true)] (by kernel_rfl) ?_
 intro K hK
 refine x_move rfl rfl rfl rfl ?_
 refine x_bsN (byteCs [120, 121]) rfl rfl rfl Tryz.underlying27 sz5 ze5 (Z := [_]) rfl rfl (by decide) (by decide) rfl (by kernel_rfl) ?_
 intro bxy wxy hbxy hwxy
 have M := M.acons hbxy hwxy
 refine ⟨trivial, ?_⟩
 refine x_cvsl rfl rfl rfl rfl Tryz.underlying27 Tryz.underlying5 rfl (M.at_ 0 rfl) ?_
 intro wcv2 hwcv2
 have M := M.put 0 rfl hwcv2
 refine ⟨trivial, ?_⟩
 refine x_build [_, _, _, _, _, _, _, _, _] rfl rfl rfl pl52 ze52 rfl rfl rfl ?_
 refine x_call rfl rfl rfl rfl rfl en16 (do_x (X := [_, _]) (l := lv1.2.1) (hf := lv1.2.2) (who := 0) (o := lo2) (dv := (.slice (some ⟨bxy, 0, none⟩) 2 2)) M hR1 hB (fun w Y hY hX _ => SgK.lit (w00 := w0) (L := [(bxy, .cells (byteCs [120, 121]).toArray 5 (2, 3))]) List.mem_cons_self rfl w Y hY (fun y hy => by rw [List.mem_singleton.1 hy]; exact hX _ List.mem_cons_self))) ?_
 rintro r_ wr2 ⟨S2, p2, c2, q2, d2, n2, La2, Lb2, rfl, hb2, hs2, hR2, M⟩
 have hR2 : FR (baseL lz) S2 lv2.2.1 lv2.2.2 := hR2
 refine ⟨trivial, ?_⟩
 refine x_alloc [_, _, _, _, _] rfl rfl rfl ze49 rfl ?_
 intro bal2 wal2 hbal2 hwal2
 have M := M.acons hbal2 hwal2
 refine ⟨trivial, ?_⟩
 refine x_st [_, _, _, _, _] _ rfl rfl rfl sz49 rfl rfl rfl rfl (M.at_ 0 rfl) rfl rfl rfl ?_
 intro wst2 hwst2
 have M := M.put 0 rfl hwst2
 refine ⟨trivial, ?_⟩
 refine Ex.done (hK _ _ ?_)
 refine At.then_n ?_
 refine W.seq ?_
 refine W.sub [(1, _), (2, _), (4, _), (5, _)] ⟨rfl, rfl, rfl, rfl, trivial⟩ ?_
 refine W.reg [(0, false), (1, false), (2, true), (3, true), (4, true)] (by kernel_rfl) ?_
 intro K hK
 refine x_move rfl rfl rfl rfl ?_
 refine x_build [_, _, _, _, _, _, _, _, _] rfl rfl rfl pl52 ze52 rfl rfl rfl ?_
 refine x_call rfl rfl rfl rfl rfl en16 (do_x (X := [_, _, _]) (l := lv2.2.1) (hf := lv2.2.2) (who := 0) (o := lo3) (dv := (.slice none 0 0)) M hR2 hB (fun _ _ _ _ _ => .inr (.inl ⟨rfl, rfl, rfl⟩))) ?_
 rintro r_ wr3 ⟨S3, p3, c3, q3, d3, n3, La3, Lb3, rfl, hb3, hs3, hR3, M⟩
 have hR3 : FR (baseL lz) S3 lv3.2.1 lv3.2.2 := hR3
 refine ⟨trivial, ?_⟩
 refine x_alloc [_, _, _, _, _] rfl rfl rfl ze49 rfl ?_
 intro bal3 wal3 hbal3 hwal3
 have M := M.acons hbal3 hwal3
 refine ⟨trivial, ?_⟩
 refine x_st [_, _, _, _, _] _ rfl rfl rfl sz49 rfl rfl rfl rfl (M.at_ 0 rfl) rfl rfl rfl ?_
 intro wst3 hwst3
 have M := M.put 0 rfl hwst3
 refine ⟨trivial, ?_⟩
 refine Ex.done (hK _ _ ?_)
 refine At.then_n ?_
 refine W.seq ?_
 refine W.sub [(1, _), (2, _), (4, _), (5, _), (6, _)] ⟨rfl, rfl, rfl, rfl, rfl, trivial⟩ ?_
 refine W.reg [(0, false), (1, false), (2, true), (3, true), (4, true)] (by kernel_rfl) ?_
 intro K hK
 refine x_move rfl rfl rfl rfl ?_
 refine x_build [_, _, _, _, _, _, _, _, _] rfl rfl rfl pl52 ze52 rfl rfl rfl ?_
 refine x_call rfl rfl rfl rfl rfl en16 (do_x (X := [_, _, _, _]) (l := lv3.2.1) (hf := lv3.2.2) (who := 0) (o := lo4) (dv := (.slice none 0 0)) M hR3 hB (fun _ _ _ _ _ => .inr (.inl ⟨rfl, rfl, rfl⟩))) ?_
 rintro r_ wr4 ⟨S4, p4, c4, q4, d4, n4, La4, Lb4, rfl, hb4, hs4, hR4, M⟩
 have hR4 : FR (baseL lz) S4 lv4.2.1 lv4.2.2 := hR4
 refine ⟨trivial, ?_⟩
 refine x_alloc [_, _, _, _, _] rfl rfl rfl ze49 rfl ?_
 intro bal4 wal4 hbal4 hwal4
 have M := M.acons hbal4 hwal4
 refine ⟨trivial, ?_⟩
 refine x_st [_, _, _, _, _] _ rfl rfl rfl sz49 rfl rfl rfl rfl (M.at_ 0 rfl) rfl rfl rfl ?_
 intro wst4 hwst4
 have M := M.put 0 rfl hwst4
 refine ⟨trivial, ?_⟩
 refine Ex.done (hK _ _ ?_)
 refine At.then_n ?_
 refine W.seq ?_
 refine W.sub [(1, _), (2, _), (4, _), (5, _), (6, _), (7, _)] ⟨rfl, rfl, rfl, rfl, rfl, rfl, trivial⟩ ?_
 refine W.reg [(0, false), (1, false), (2, true), (3, true), (4, true)] (by kernel_rfl) ?_
 intro K hK
 refine x_move rfl rfl rfl rfl ?_
 refine x_build [_, _, _, _, _, _, _, _, _] rfl rfl rfl pl52 ze52 rfl rfl rfl ?_
 refine x_call rfl rfl rfl rfl rfl en16 (do_x (X := [_, _, _, _, _]) (l := lv4.2.1) (hf := lv4.2.2) (who := 0) (o := lo5) (dv := (.slice none 0 0)) M hR4 hB (fun _ _ _ _ _ => .inr (.inl ⟨rfl, rfl, rfl⟩))) ?_
 rintro r_ wr5 ⟨S5, p5, c5, q5, d5, n5, La5, Lb5, rfl, hb5, hs5, hR5, M⟩
 have hR5 : FR (baseL lz) S5 lv5.2.1 lv5.2.2 := hR5
 refine ⟨trivial, ?_⟩
 refine x_alloc [_, _, _, _, _] rfl rfl rfl ze49 rfl ?_
 intro bal5 wal5 hbal5 hwal5
 have M := M.acons hbal5 hwal5
 refine ⟨trivial, ?_⟩
 refine x_st [_, _, _, _, _] _ rfl rfl rfl sz49 rfl rfl rfl rfl (M.at_ 0 rfl) rfl rfl rfl ?_
 intro wst5 hwst5
 have M := M.put 0 rfl hwst5
 refine ⟨trivial, ?_⟩
 refine Ex.done (hK _ _ ?_)
 refine At.then_n ?_
 refine W.seq ?_
 refine W.sub [(1, _), (2, _), (4, _), (5, _), (6, _), (7, _), (8, _)] ⟨rfl, rfl, rfl, rfl, rfl, rfl, rfl, trivial⟩ ?_
 refine W.reg [(0, false), (1, false), (2, true), (3, true), (4, true)] (by kernel_rfl) ?_
 intro K hK
 refine x_move rfl rfl rfl rfl ?_
 refine x_build [_, _, _, _, _, _, _, _, _] rfl rfl rfl pl52 ze52 rfl rfl rfl ?_
 refine x_call rfl rfl rfl rfl rfl en16 (do_x (X := [_, _, _, _, _, _]) (l := lv5.2.1) (hf := lv5.2.2) (who := 0) (o := lo6) (dv := (.slice none 0 0)) M hR5 hB (fun _ _ _ _ _ => .inr (.inl ⟨rfl, rfl, rfl⟩))) ?_
 rintro r_ wr6 ⟨S6, p6, c6, q6, d6, n6, La6, Lb6, rfl, hb6, hs6, hR6, M⟩
 have hR6 : FR (baseL lz) S6 lv6.2.1 lv6.2.2 := hR6
 refine ⟨trivial, ?_⟩
 refine x_alloc [_, _, _, _, _] rfl rfl rfl ze49 rfl ?_
 intro bal6 wal6 hbal6 hwal6
 have M := M.acons hbal6 hwal6
 refine ⟨trivial, ?_⟩
 refine x_st [_, _, _, _, _] _ rfl rfl rfl sz49 rfl rfl rfl rfl (M.at_ 0 rfl) rfl rfl rfl ?_
 intro wst6 hwst6
 have M := M.put 0 rfl hwst6
 refine ⟨trivial, ?_⟩
 refine Ex.done (hK _ _ ?_)
 refine At.then_n ?_
 refine W.seq ?_
 refine W.sub [(1, _), (2, _), (4, _), (5, _), (6, _), (7, _), (8, _), (9, _)] ⟨rfl, rfl, rfl, rfl, rfl, rfl, rfl, rfl, trivial⟩ ?_
 refine W.reg [(0, false), (1, false), (2, true), (3, true), (4, true)] (by kernel_rfl) ?_
 intro K hK
 refine x_move rfl rfl rfl rfl ?_
 refine x_build [_, _, _, _, _, _, _, _, _] rfl rfl rfl pl52 ze52 rfl rfl rfl ?_
 refine x_call rfl rfl rfl rfl rfl en16 (do_x (X := [_, _, _, _, _, _, _]) (l := lv6.2.1) (hf := lv6.2.2) (who := 0) (o := lo5) (dv := (.slice none 0 0)) M hR6 hB (fun _ _ _ _ _ => .inr (.inl ⟨rfl, rfl, rfl⟩))) ?_
 rintro r_ wr7 ⟨S7, p7, c7, q7, d7, n7, La7, Lb7, rfl, hb7, hs7, hR7, M⟩
 have hR7 : FR (baseL lz) S7 lv7.2.1 lv7.2.2 := hR7
 refine ⟨trivial, ?_⟩
 refine x_alloc [_, _, _, _, _] rfl rfl rfl ze49 rfl ?_
 intro bal7 wal7 hbal7 hwal7
 have M := M.acons hbal7 hwal7
 refine ⟨trivial, ?_⟩
 refine x_st [_, _, _, _, _] _ rfl rfl rfl sz49 rfl rfl rfl rfl (M.at_ 0 rfl) rfl rfl rfl ?_
 intro wst7 hwst7
 have M := M.put 0 rfl hwst7
 refine ⟨trivial, ?_⟩
 refine Ex.done (hK _ _ ?_)
 refine At.then_n ?_
 refine W.seq ?_
 refine W.sub [(1, _), (2, _), (4, _), (5, _), (6, _), (7, _), (8, _), (9, _), (10, _)] ⟨rfl, rfl, rfl, rfl, rfl, rfl, rfl, rfl, rfl, trivial⟩ ?_
 refine W.reg [(0, false), (1, true), (2, false)] (by kernel_rfl) ?_
 intro K hK
 refine x_move rfl rfl rfl rfl ?_
 refine x_call rfl rfl rfl rfl rfl en17 (files_x (X := [_, _, _, _, _, _, _, _]) (l := lv7.2.1) (hf := lv7.2.2) M hR7 hB) ?_
 rintro r_ w9 ⟨p9, c9, L9, rfl, hl9, M⟩
 obtain ⟨e1, e2, e3, e4, e5, e6, e7, e8⟩ := lv_says
 have hl9 : FilesO L9 (.slice p9 lv7.2.1.length c9) lv7.2.1 := hl9
 rw [e8] at hl9
 rw [show lv7.2.1.length = 1 by rw [e8]; rfl]
 have hl9 : FilesO L9 (.slice p9 1 c9) lz := hl9
 have hs9 : w9.heap[bs]? = some ((bs, .cells [.slice (some ⟨bf0, 0, none⟩) 1 1, .bool false].toArray 79 (0, 0)) : Nat × Obj).2 := M.get (List.mem_append_right _ (List.mem_append_right _ (List.mem_append_left _ hsh)))
 have hd4 := bytesO_get hb4 (fun y hy => M.get (by simp [hy]))
 have hfa := filesO_get hl9 (fun y hy => M.get (by simp [hy]))
 obtain ⟨b9, o9, rfl, _⟩ := hfa.blk (j := 0) (by decide)
 obtain ⟨p90, c90, hr9, hb90⟩ := hfa.row (j := 0) rfl
 refine ⟨trivial, ?_⟩
 refine x_assign rfl rfl rfl rfl ?_
 refine Ex.done (hK _ _ ?_)
 refine At.then_n ?_
 refine W.seq ?_
 refine W.sub [(2, _), (4, _), (5, _), (6, _), (7, _), (8, _), (9, _), (10, _), (11, _)] ⟨rfl, rfl, rfl, rfl, rfl, rfl, rfl, rfl, rfl, trivial⟩ ?_
 refine W.reg [(0, false), (1, false), (2, false), (3, false), (4, false), (5, false), (6, false), (7, false), (8, false), (9, false), (10, false), (11, false), (12, false), (13, false), (14, false), (15, false), (16, false), (17, false), (18, false), (19, false), (20, false), (21, false), (22, false), (23, false), (24, false), (25, false), (26, false), (27, false), (28, false), (29, false), (30, false), (31, false), (32, false), (33, false), (34, false), (35, false), (36, false), (37, false), (38, false), (39, false), (40, false), (41, false), (42, false), (43, false), (44, false), (45, false), (46, false), (47, false), (48, false), (49, false), (50, false), (51, false), (52, false), (53, false), (54, false), (55, false), (56, false), (57, false), (58, false)] (by kernel_rfl) ?_
 intro K hK
 refine x_fa rfl rfl rfl fo49_1 rfl ?_
 refine x_ld rfl rfl rfl Tryz.underlying3 rfl rfl (cell_of (M.at_ 7 rfl) rfl) ?_
 refine x_eqi true rfl rfl rfl rfl rfl (by rw [beq_iff_eq]; exact e1) ?_
 refine x_move rfl rfl rfl rfl ?_
 refine x_fa rfl rfl rfl fo49_2 rfl ?_
 refine x_ld rfl rfl rfl Tryz.underlying3 rfl rfl (cell_of (M.at_ 5 rfl) rfl) ?_
 refine x_eqi true rfl rfl rfl rfl rfl (by rw [beq_iff_eq]; exact e2) ?_
 refine x_pickT rfl rfl rfl rfl rfl ?_
 refine x_move rfl rfl rfl rfl ?_
 refine x_fa rfl rfl rfl fo49_0 rfl ?_
 refine x_ld rfl rfl rfl Tryz.underlying35 rfl rfl (cell_of (M.at_ 4 rfl) rfl) ?_
 refine x_eqi true rfl rfl rfl rfl rfl (by rw [beq_iff_eq]; exact e3) ?_
 refine x_pickT rfl rfl rfl rfl rfl ?_
 refine x_move rfl rfl rfl rfl ?_
 refine x_fa rfl rfl rfl fo49_3 rfl ?_
 refine x_ld rfl rfl rfl Tryz.underlying27 rfl rfl (cell_of (M.at_ 3 rfl) rfl) ?_
 refine x_cvbs _ rfl rfl rfl Tryz.underlying27 Tryz.underlying5 Tryz.underlying9 rfl (strOf_bytes hd4) ?_
 refine x_eqS true rfl rfl rfl rfl rfl (decide_eq_true e4) ?_
 refine x_pickT rfl rfl rfl rfl rfl ?_
 refine x_move rfl rfl rfl rfl ?_
 refine x_fa rfl rfl rfl fo49_0 rfl ?_
 refine x_ld rfl rfl rfl Tryz.underlying35 rfl rfl (cell_of (M.at_ 2 rfl) rfl) ?_
 refine x_eqi true rfl rfl rfl rfl rfl (by rw [beq_iff_eq]; exact e5) ?_
 refine x_pickT rfl rfl rfl rfl rfl ?_
 refine x_move rfl rfl rfl rfl ?_
 refine x_fa rfl rfl rfl fo49_0 rfl ?_
 refine x_ld rfl rfl rfl Tryz.underlying35 rfl rfl (cell_of (M.at_ 1 rfl) rfl) ?_
 refine x_eqi true rfl rfl rfl rfl rfl (by rw [beq_iff_eq]; exact e6) ?_
 refine x_pickT rfl rfl rfl rfl rfl ?_
 refine x_move rfl rfl rfl rfl ?_
 refine x_fa rfl rfl rfl fo49_0 rfl ?_
 refine x_ld rfl rfl rfl Tryz.underlying35 rfl rfl (cell_of (M.at_ 0 rfl) rfl) ?_
 refine x_eqi true rfl rfl rfl rfl rfl (by rw [beq_iff_eq]; exact e7) ?_
 refine x_pickT rfl rfl rfl rfl rfl ?_
 refine x_move rfl rfl rfl rfl ?_
 refine x_move rfl rfl rfl rfl ?_
 refine x_len rfl rfl rfl rfl Tryz.underlying24 rfl ?_
 refine x_eqi true rfl rfl rfl rfl rfl rfl ?_
 refine x_pickT rfl rfl rfl rfl rfl ?_
 refine x_move rfl rfl rfl rfl ?_
 refine x_move rfl rfl rfl rfl ?_
 refine x_ia 0 rfl rfl rfl Tryz.underlying24 sz29 rfl rfl rfl (by decide) ?_
 refine x_fa rfl rfl rfl fo29_2 rfl ?_
 refine x_ld rfl rfl rfl Tryz.underlying27 rfl rfl (RowAt.cell hr9 (j := 2) rfl) ?_
 refine x_cvbs _ rfl rfl rfl Tryz.underlying27 Tryz.underlying5 Tryz.underlying9 rfl (strOf_bytes hb90) ?_
 refine x_eqS true rfl rfl rfl rfl rfl (by decide) ?_
 refine x_pickT rfl rfl rfl rfl rfl ?_
 refine x_move rfl rfl rfl rfl ?_
 refine x_move rfl rfl rfl rfl ?_
 refine x_nil rfl rfl rfl rfl rfl ?_
 refine x_fa rfl rfl rfl fo79_1 rfl ?_
 refine x_ld rfl rfl rfl Tryz.underlying4 rfl rfl (cell_of hs9 rfl) ?_
 refine x_not true rfl rfl rfl rfl rfl ?_
 refine x_pickT rfl rfl rfl rfl rfl ?_
 refine x_move rfl rfl rfl rfl ?_
 refine x_pickT rfl rfl rfl rfl rfl ?_
 refine x_move rfl rfl rfl rfl ?_
 refine x_pickT rfl rfl rfl rfl rfl ?_
 refine x_assign rfl rfl rfl rfl ?_
 refine Ex.done (hK _ _ ?_)
 refine At.then_n ?_
 refine W.ret ?_
 refine At.ret1 (.tmp 0) rfl ⟨rfl, trivial⟩ ?_
 exact ⟨rfl, M.frm⟩
end Go.Proofs.YtigfbpbnohkokaaGreat

namespace Go.Proofs.YtigfbpbnohkokaaGreat
open Go Go.Fw Go.RowKit
set_option linter.unusedVariables false
set_option linter.unusedSimpArgs false

/-- What stays of files over a base: where they are, their base. -/
structure OvI where
 bf : Nat
 bv : Value
 Lb : List (Nat × Obj)
 base : BaseF
/-- Blocks of one's own beside files over a base that are l, with these handles. -/
def OvW (w00 : World) (X : List (Nat × Obj)) (I : OvI) (l : List Raw) (hf : HF) (w : World) : Prop :=
 ∃ S L, FR I.base S l hf ∧ BaseC w00 I.Lb I.bv I.base ∧ Sep w00 (X ++ (fsB I.bf I.bv (usedL l) S ++ (I.Lb ++ L))) w
section
variable {w00 w0 w w1 : World} {X Y : List (Nat × Obj)} {I : OvI} {l : List Raw} {hf : HF}
theorem OvW.frm (h : OvW w00 X I l hf w) : New w00 w := let ⟨_, _, _, _, M⟩ := h; M.frm
theorem OvW.at_ (h : OvW w00 X I l hf w) (k : Nat) {b : Nat} {o : Obj} (hk : X[k]? = some (b, o)) : w.heap[b]? = some o :=
 let ⟨_, _, _, _, M⟩ := h; M.get (List.mem_append_left _ (List.mem_of_getElem? hk))
theorem OvW.get (h : OvW w00 X I l hf w) {x : Nat × Obj} (hk : x ∈ X) : w.heap[x.1]? = some x.2 :=
 let ⟨_, _, _, _, M⟩ := h; M.get (List.mem_append_left _ hk)
theorem OvW.base (h : OvW w00 X I l hf w) {x : Nat × Obj} (hk : x ∈ I.Lb) : w.heap[x.1]? = some x.2 :=
 let ⟨_, _, _, _, M⟩ := h; M.get (List.mem_append_right _ (List.mem_append_right _ (List.mem_append_left _ hk)))
theorem OvW.acons (h : OvW w00 X I l hf w) {o : Obj} {b : Nat} (hb : b = w.heap.size) (hw : w1 = w.alloc o) : OvW w00 ((b, o) :: X) I l hf w1 :=
 let ⟨S, L, h1, h2, M⟩ := h; ⟨S, L, h1, h2, M.acons hb hw⟩
theorem OvW.put (h : OvW w00 X I l hf w) (k : Nat) {b : Nat} {o0 o : Obj} (hk : X[k]? = some (b, o0)) (hw : w1 = w.putObj b o) : OvW w00 (X.set k (b, o)) I l hf w1 := by
 obtain ⟨S, L, h1, h2, M⟩ := h
 have hl : k < X.length := (List.getElem?_eq_some_iff.1 hk).1
 have := M.put k (by rw [List.getElem?_append_left hl]; exact hk) hw (o := o)
 rw [List.set_append_left _ _ hl] at this
 exact ⟨S, L, h1, h2, this⟩
theorem OvW.new (h : OvW w00 X I l hf w) (hn : New w w1) : OvW w00 X I l hf w1 := let ⟨S, L, h1, h2, M⟩ := h; ⟨S, L, h1, h2, M.new hn⟩
theorem OvW.drew (h : OvW w00 X I l hf w) (hw : w1 = w.drew) : OvW w00 X I l hf w1 := let ⟨S, L, h1, h2, M⟩ := h; ⟨S, L, h1, h2, M.drew hw⟩
theorem OvW.grow (h : OvW w00 X I l hf w) (hc : Sep w Y w1) : OvW w00 (Y ++ X) I l hf w1 := by
 obtain ⟨S, L, h1, h2, M⟩ := h
 exact ⟨S, L, h1, h2, by simpa only [List.append_assoc] using M.grow' hc⟩
theorem OvW.sub (h : OvW w00 X I l hf w) (hs : Y.Sublist X) : OvW w00 Y I l hf w := let ⟨S, L, h1, h2, M⟩ := h; ⟨S, L, h1, h2, M.sub (List.Sublist.append hs (List.Sublist.refl _))⟩
theorem OvW.tail {x : Nat × Obj} (h : OvW w00 (x :: X) I l hf w) : OvW w00 X I l hf w := h.sub (List.sublist_cons_self _ _)
theorem OvW.dropL (h : OvW w00 (Y ++ X) I l hf w) : OvW w00 X I l hf w := h.sub (List.sublist_append_right _ _)
theorem OvW.perm (h : OvW w00 X I l hf w) (hs : X.Perm Y) : OvW w00 Y I l hf w := let ⟨S, L, h1, h2, M⟩ := h; ⟨S, L, h1, h2, M.perm (hs.append_right _)⟩
theorem OvW.sep (h : OvW w00 X I l hf w) : Sep w00 X w := let ⟨_, _, _, _, M⟩ := h; M.dropR
theorem OvW.names (h : OvW w00 X I l hf w) : (l.map (·.1)).Nodup := let ⟨_, _, h1, _, _⟩ := h; h1.names
theorem OvW.le (h : OvW w00 X I l hf w) : l.length ≤ 128 := by
 obtain ⟨_, _, h1, _, _⟩ := h
 have := h1.tr.le
 rwa [bare_len] at this

end
/-- Calls, one behind the other. -/
def runS (l : List Raw) (hf : HF) : List Ask → List Raw × HF
 | [] => (l, hf)
 | a :: r => runS (doS l hf a.who a.o).2.1 (doS l hf a.who a.o).2.2 r
section
variable {l : List Raw} {hf : HF} {who : Int} {o : OpS}
end
end Go.Proofs.YtigfbpbnohkokaaGreat

namespace Go.Proofs.YtigfbpbnohkokaaGreat
open Go Go.Fw Go.RowKit Go.Proofs
set_option linter.unusedVariables false
set_option linter.unusedSimpArgs false



end Go.Proofs.YtigfbpbnohkokaaGreat

namespace Go.Proofs.YtigfbpbnohkokaaGreat
open Go Go.Fw Go.RowKit
set_option linter.unusedVariables false
set_option linter.unusedSimpArgs false

section
variable {l : List Raw} {hf hf' : HF} {who : Int} {o : OpS}
end
end Go.Proofs.YtigfbpbnohkokaaGreat

namespace Go.Proofs.YtigfbpbnohkokaaGreat
open Go Go.Fw Go.RowKit Go.Proofs
set_option linter.unusedVariables false
set_option linter.unusedSimpArgs false

end Go.Proofs.YtigfbpbnohkokaaGreat

namespace Go.Proofs.YtigfbpbnohkokaaGreat
open Go Go.Fw Go.RowKit
set_option linter.unusedVariables false
set_option linter.unusedSimpArgs false

section
variable {w00 w : World} {X : List (Nat × Obj)} {I : OvI} {l : List Raw} {hf : HF} {p q d b : List UInt8}
theorem OvW.file (M : OvW w00 X I l hf w) (h : (p, false, d) ∈ l) : fileB l p = d := let ⟨_, _, h1, _, _⟩ := M; h1.bytes h
theorem OvW.len (M : OvW w00 X I l hf w) (h : (p, false, d) ∈ l) : d.length ≤ 65536 ∧ d.length ≤ usedL l := let ⟨_, _, h1, _, _⟩ := M; h1.le h
theorem OvW.found (M : OvW w00 X I l hf w) {z : Raw} (h : z ∈ l) : findL l z.1 = (z, 0) := let ⟨_, _, h1, _, _⟩ := M; h1.found h

end
section
variable {w00 w0 : World} {X : List (Nat × Obj)} {I : OvI} {l l' : List Raw} {hf hf' : HF}
end
end Go.Proofs.YtigfbpbnohkokaaGreat

namespace Go.Proofs.YtigfbpbnohkokaaGreat
open Go Go.Fw Go.RowKit Go.Proofs
set_option linter.unusedVariables false
set_option linter.unusedSimpArgs false

end Go.Proofs.YtigfbpbnohkokaaGreat

namespace Go.Proofs.YtigfbpbnohkokaaGreat
open Go Go.Fw Go.RowKit
set_option linter.unusedVariables false
set_option linter.unusedSimpArgs false

section
variable {b d : List UInt8} {o : OpS} {a : Nat}

end
end Go.Proofs.YtigfbpbnohkokaaGreat

namespace Go.Proofs.YtigfbpbnohkokaaGreat
open Go Go.Fw Go.RowKit Go.Proofs
set_option linter.unusedVariables false
set_option linter.unusedSimpArgs false
end Go.Proofs.YtigfbpbnohkokaaGreat

namespace Go.Proofs.YtigfbpbnohkokaaGreat
open Go Go.Fw Go.RowKit
set_option linter.unusedVariables false
set_option linter.unusedSimpArgs false

section
variable {h : Nat → Nat} {n i : Nat}
def eQ (sum : Nat) (s : Int) : Int := if s < 0 then 2 else if 65536 < s then 3 else if 262144 < (sum : Int) + s then 7 else 0
def hQ (sum : Nat) (s : Int) : Nat := if eQ sum s = 0 then s.toNat else 0
end
/-- The sizes, in memory. -/
def hC (h : Nat → Nat) : List Value := (List.range 12).map fun k => .int .i64 ((h k : Nat) : Int)
/-- Whole numbers that are given. -/
def zCs (l : List Int) : List Value := l.map fun z => .int .i64 z
abbrev ZsAt (w : World) (v : Value) (l : List Int) : Prop := Sg w v 1 l.length (zCs l)
theorem ZsAt.cell {w : World} {b off n cap j : Nat} {l : List Int} {z : Int} (h : ZsAt w (.slice (some ⟨b, off, none⟩) n cap) l) (hz : l[j]? = some z) : w.cell? ⟨b, off + j * 1, none⟩ = some (.int .i64 z) := by
 have hj : j < l.length := (List.getElem?_eq_some_iff.1 hz).1
 have h1 := Sg.sl h (by omega)
 obtain ⟨b', off', h6, h7⟩ := Sl.blk h1 hj
 cases h6; subst h7
 exact Sl.cell1 h1 (by unfold zCs; rw [List.getElem?_map, hz]; rfl)
end Go.Proofs.YtigfbpbnohkokaaGreat

namespace Go.Proofs.YtigfbpbnohkokaaGreat
open Go Go.Fw Go.RowKit Go.Proofs
set_option linter.unusedVariables false
set_option linter.unusedSimpArgs false

end Go.Proofs.YtigfbpbnohkokaaGreat

namespace Go.Proofs.YtigfbpbnohkokaaGreat
open Go Go.Fw Go.RowKit
set_option linter.unusedVariables false
set_option linter.unusedSimpArgs false


section
variable {j off : Nat} {h : Hd}
end
end Go.Proofs.YtigfbpbnohkokaaGreat

namespace Go.Proofs.YtigfbpbnohkokaaGreat
open Go Go.Fw Go.RowKit Go.Proofs
set_option linter.unusedVariables false
set_option linter.unusedSimpArgs false

end Go.Proofs.YtigfbpbnohkokaaGreat

namespace Go.Proofs.YtigfbpbnohkokaaGreat
open Go Go.Fw Go.RowKit Go.Proofs
set_option linter.unusedVariables false
set_option linter.unusedSimpArgs false












end Go.Proofs.YtigfbpbnohkokaaGreat

namespace Go.Proofs.YtigfbpbnohkokaaGreat
open Go Go.Fw Go.RowKit Go.Proofs
set_option linter.unusedVariables false
set_option linter.unusedSimpArgs false

end Go.Proofs.YtigfbpbnohkokaaGreat

namespace Go.Proofs.YtigfbpbnohkokaaGreat
open Go Go.Fw Go.RowKit
set_option linter.unusedVariables false
set_option linter.unusedSimpArgs false

def bigM (m : Mt) : Bool := decide (65536 < m.2.2)
def want1 (ml : List Mt) : Int := if ml.any badM = true then 2 else 0
def want2 (ml : List Mt) : Int := if ml.any badM = true then 2 else if ml.any bigM = true then 3 else 0
noncomputable def want3 (ml : List Mt) : Int := if want2 ml = 0 then (ofL (ml.map mRaw)).2 else want2 ml
def sumI (ml : List Mt) : Int := (ml.map fun m => min m.2.2 65536).sum
noncomputable def want4 (ml : List Mt) : Int := if want3 ml = 0 ∧ 262144 < sumI ml then 7 else want3 ml
def zRow (m : Mt) : Raw × Value := (mRaw m, .slice none 0 0)
def zRaw (m : Mt) : Raw := (m.1, m.2.1, List.replicate m.2.2.toNat 0)
section
variable {ml : List Mt} {m : Mt} {j : Nat}
theorem want1_bad (hx : ml[j]? = some m) (h : badM m = true) : ml.any badM = true := List.any_eq_true.2 ⟨m, List.mem_of_getElem? hx, h⟩
theorem want2_big (h0 : want1 ml = 0) (hx : ml[j]? = some m) (h : bigM m = true) : want2 ml = 3 := by
 unfold want1 at h0
 unfold want2
 rw [if_pos (List.any_eq_true.2 ⟨m, List.mem_of_getElem? hx, h⟩)]
 split
 ·rename_i h1; rw [if_pos h1] at h0; cases h0
 ·rfl
theorem want2_ok (h0 : want1 ml = 0) (h : ∀ m ∈ ml, bigM m = false) : want2 ml = 0 := by
 unfold want1 at h0
 unfold want2
 rw [if_neg (by intro e; rw [if_pos e] at h0; cases h0), if_neg]
 rw [List.any_eq_true]
 rintro ⟨m, hm, hb⟩
 rw [h m hm] at hb; cases hb
theorem want2_one (h0 : want1 ml ≠ 0) : want2 ml = want1 ml := by
 unfold want1 at h0 ⊢
 unfold want2
 split
 ·rfl
 ·rename_i h; rw [if_neg h] at h0; exact absurd rfl h0
theorem want1_all (h : ∀ m ∈ ml, badM m = false) : want1 ml = 0 := by
 unfold want1
 rw [if_neg]
 rw [List.any_eq_true]
 rintro ⟨m, hm, hb⟩
 rw [h m hm] at hb; cases hb
theorem good_of (h0 : want1 ml = 0) (hm : m ∈ ml) : 0 ≤ m.2.2 ∧ (m.2.1 = true → m.2.2 = 0) := by
 unfold want1 at h0
 have : badM m = false := by
  cases hb : badM m with
  | false => rfl
  | true => rw [if_pos (List.any_eq_true.2 ⟨m, hm, hb⟩)] at h0; cases h0
 unfold badM at this
 simp only [Bool.or_eq_false_iff, Bool.and_eq_false_iff, decide_eq_false_iff_not] at this
 refine ⟨by omega, fun hd => ?_⟩
 rcases this.2 with h | h
 ·rw [hd] at h; cases h
 ·omega
theorem sumI_step (hx : ml[j]? = some m) : sumI (ml.take (j + 1)) = sumI (ml.take j) + min m.2.2 65536 := by
 unfold sumI; rw [take_snoc hx, List.map_append, List.sum_append]; simp
theorem sumI_bd (h : ∀ m ∈ ml, 0 ≤ m.2.2) : ∀ j, 0 ≤ sumI (ml.take j) ∧ sumI (ml.take j) ≤ 65536 * j
 | 0 => by simp [sumI]
 | j + 1 => by
  have ih := sumI_bd h j
  rcases Nat.lt_or_ge j ml.length with hj | hj
  ·obtain ⟨m, hm⟩ := get_lt (l := ml) (q := j) hj
   have := h m (List.mem_of_getElem? hm)
   rw [sumI_step hm]
   omega
  ·rw [List.take_of_length_le (by omega)]
   rw [List.take_of_length_le hj] at ih
   omega
theorem fCs_snoc (hx : ml[j]? = some m) : fCs ((ml.take (j + 1)).map zRow) = fCs ((ml.take j).map zRow) ++ [strV m.1, .bool m.2.1, .slice none 0 0] := by
 rw [take_snoc hx, List.map_append, fCs_app]; rfl
theorem bare_at_ {w : World} {v : Value} (h : Sl w v 3 ml.length (fCs (ml.map zRow))) : FilesAt w v (ml.map mRaw) :=
 ⟨ml.map zRow, by rw [List.map_map]; rfl, by rw [List.length_map]; exact .inr h, fun f hf => by
  obtain ⟨m, _, rfl⟩ := List.mem_map.1 hf
  exact ⟨.inr (.inl ⟨rfl, rfl, rfl⟩), rfl⟩⟩
theorem bare_z : bareL (ml.map zRaw) = ml.map mRaw := by unfold bareL; rw [List.map_map]; rfl
theorem meta_z (h0 : want1 ml = 0) : ml = (ml.map zRaw).map metaR := by
 rw [List.map_map]
 have : ∀ m ∈ ml, (metaR ∘ zRaw) m = m := fun m hm => by
  have := (good_of h0 hm).1
  obtain ⟨a, b, c⟩ := m
  simp only at this
  show (a, b, ((List.replicate c.toNat (0 : UInt8)).length : Int)) = _
  rw [List.length_replicate, Int.toNat_of_nonneg this]
 rw [List.map_congr_left this, List.map_id']
theorem sum_z : ∀ {ml : List Mt}, (∀ m ∈ ml, 0 ≤ m.2.2 ∧ m.2.2 ≤ 65536) → (usedL (ml.map zRaw) : Int) = sumI ml
 | [], _ => rfl
 | m :: ml, h => by
  have ih := sum_z (ml := ml) fun x hx => h x (List.mem_cons_of_mem _ hx)
  have hm := h m List.mem_cons_self
  rw [List.map_cons, usedL_cons]
  have e : sumI (m :: ml) = min m.2.2 65536 + sumI ml := by simp [sumI]
  rw [e, ← ih]
  show (((List.replicate m.2.2.toNat (0 : UInt8)).length + usedL (ml.map zRaw) : Nat) : Int) = _
  rw [List.length_replicate]
  omega
theorem news_z (h0 : want1 ml = 0) : (newS (ml.map zRaw)).2 = want4 ml := by
 have hg := fun m hm => good_of (ml := ml) (m := m) h0 hm
 cases hb : ml.any bigM with
 | true =>
  have e2 : want2 ml = 3 := by
   obtain ⟨m, hm, hb2⟩ := List.any_eq_true.1 hb
   obtain ⟨j, hj⟩ := List.getElem?_of_mem hm
   exact want2_big h0 hj hb2
  have e : (ml.map zRaw).any (fun x => decide (65536 < x.2.2.length)) = true := by
   rw [List.any_map, List.any_eq_true]
   obtain ⟨m, hm, hb2⟩ := List.any_eq_true.1 hb
   refine ⟨m, hm, ?_⟩
   have := (hg m hm).1
   unfold bigM at hb2
   simp only [decide_eq_true_eq] at hb2
   show decide (65536 < (List.replicate m.2.2.toNat (0 : UInt8)).length) = true
   rw [List.length_replicate]
   exact decide_eq_true (by omega)
  have e3 : want3 ml = 3 := by unfold want3; rw [e2]; rfl
  rw [newS_3 e]
  unfold want4
  rw [e3]; rfl
 | false =>
  have hsm : ∀ m ∈ ml, 0 ≤ m.2.2 ∧ m.2.2 ≤ 65536 := fun m hm => by
   refine ⟨(hg m hm).1, ?_⟩
   have := List.any_eq_false.1 hb m hm
   unfold bigM at this
   simp only [decide_eq_true_eq] at this
   omega
  have e2 : want2 ml = 0 := want2_ok h0 fun m hm => by have := List.any_eq_false.1 hb m hm; simpa using this
  have e3 : want3 ml = (ofL (ml.map mRaw)).2 := by unfold want3; rw [if_pos e2]
  have e : (ml.map zRaw).any (fun x => decide (65536 < x.2.2.length)) = false := by
   rw [List.any_map, List.any_eq_false]
   intro m hm
   have := hsm m hm
   show ¬ decide (65536 < (List.replicate m.2.2.toNat (0 : UInt8)).length) = true
   rw [List.length_replicate, decide_eq_true_eq]
   omega
  by_cases h1 : (ofL (bareL (ml.map zRaw))).2 = 0
  ·have h1' := h1
   rw [bare_z] at h1'
   have hs := sum_z hsm
   by_cases h2 : 262144 < usedL (ml.map zRaw)
   ·rw [newS_7 e h1 h2]
    unfold want4
    rw [e3, if_pos ⟨h1', by omega⟩]
   ·rw [newS_0 e h1 h2]
    unfold want4
    rw [e3, if_neg (fun h => by have := h.2; omega), h1']
  ·rw [newS_of e h1]
   rw [bare_z] at h1 ⊢
   unfold want4
   rw [e3, if_neg (fun h => h1 h.1)]
theorem news_post {l : List Raw} {base : BaseF} {bv r : Value} {w w' : World} (hl : l = ml.map zRaw) (h : (ml.any badM = true ∧ r = .tuple #[.pointer none, .int .i64 2] ∧ New w w') ∨ (ml.any badM = false ∧ (newS l).2 ≠ 0 ∧ r = .tuple #[.pointer none, .int .i64 (newS l).2] ∧ New w w') ∨ (ml.any badM = false ∧ (newS l).2 = 0 ∧ ∃ bf S, r = .tuple #[ptr bf, .int .i64 0] ∧ FR base S (newS l).1 (fun _ _ => none) ∧ Sep w (fsB bf bv (usedL (newS l).1) S) w')) :
  ∃ po, r = .tuple #[.pointer po, .int .i64 (want4 ml)] ∧ (!Option.isNone po) = (want4 ml == 0) ∧ New w w' := by
 subst hl
 rcases h with ⟨h1, rfl, hn⟩ | ⟨h1, h2, rfl, hn⟩ | ⟨h1, h2, bf, S, rfl, hF, M⟩
 ·have e2 : want2 ml = 2 := by unfold want2; rw [if_pos h1]
  have e3 : want3 ml = 2 := by unfold want3; rw [e2]; rfl
  have e4 : want4 ml = 2 := by unfold want4; rw [e3]; rfl
  exact ⟨none, by rw [e4], by rw [e4]; rfl, hn⟩
 ·have h0 : want1 ml = 0 := by unfold want1; rw [h1]; rfl
  rw [news_z h0] at h2 ⊢
  exact ⟨none, rfl, by simp [h2], hn⟩
 ·have h0 : want1 ml = 0 := by unfold want1; rw [h1]; rfl
  rw [news_z h0] at h2
  exact ⟨some ⟨bf, 0, none⟩, by rw [h2], by rw [h2]; rfl, M.frm⟩
end
end Go.Proofs.YtigfbpbnohkokaaGreat

namespace Go.Proofs.YtigfbpbnohkokaaGreat
open Go Go.Fw Go.RowKit Go.Proofs
set_option linter.unusedVariables false
set_option linter.unusedSimpArgs false

set_option maxRecDepth 100000 in
theorem overlayNews_c {w0 : World} {v : Value} {ml : List Mt} (h : MetasAt w0 v ml) : Ret Tryz.prog 3 #[v] w0 fun r w' => r = .bool true ∧ New w0 w' := by
 have M : Sep w0 [] w0 := St.nil w0
 obtain ⟨pv, cv, rfl⟩ := Sg.shape h
 refine Ret.of_W Tryz.func3 rfl Tryz.ntmps3 rfl ?_
 refine W.seq ?_
 refine W.sub [(0, _)] ⟨rfl, trivial⟩ ?_
 refine W.reg [(0, false)] (by kernel_rfl) ?_
 intro K hK
 refine x_assign rfl rfl rfl rfl ?_
 refine Ex.done (hK _ _ ?_)
 refine At.then_n ?_
 refine W.seq ?_
 refine W.seq ?_
 refine W.sub [(0, _)] ⟨rfl, trivial⟩ ?_
 refine W.reg [(0, false), (1, false), (2, false)] (by kernel_rfl) ?_
 intro K hK
 refine x_move rfl rfl rfl rfl ?_
 refine x_len rfl rfl rfl rfl Tryz.underlying22 rfl ?_
 refine x_gtr _ rfl rfl rfl rfl rfl rfl ?_
 refine Ex.done (hK _ _ ?_)
 refine At.then_n ?_
 refine W.cond rfl (fun hco1 => ?_) (fun hco1 => ?_)
 ·try simp only [sA, sB, sC, sD, sE, sF, sG, sH, sI, sJ, sK, sL, sM, sN, sO] at hco1
  refine W.seq ?_
  refine W.sub [] trivial ?_
  refine W.reg [(0, true), (1, false)] (by kernel_rfl) ?_
  intro K hK
  refine x_call rfl rfl rfl rfl rfl en11 (lives19_c) ?_
  rintro r_ wcall1 ⟨rfl, hncall1⟩
  have M := M.new hncall1
  refine ⟨trivial, ?_⟩
  refine x_assign rfl rfl rfl rfl ?_
  refine Ex.done (hK _ _ ?_)
  refine At.then_n ?_
  refine W.ret ?_
  refine At.then_r ?_
  refine At.ret1 (.tmp 2) rfl ⟨rfl, trivial⟩ ?_
  exact ⟨rfl, M.frm⟩
 ·try simp only [sA, sB, sC, sD, sE, sF, sG, sH, sI, sJ, sK, sL, sM, sN, sO] at hco1
  refine W.skip ?_
  refine At.then_n ?_
  refine W.seq ?_
  refine W.sub [(0, _)] ⟨rfl, trivial⟩ ?_
  refine W.reg [(0, false)] (by kernel_rfl) ?_
  intro K hK
  refine x_assign rfl rfl rfl rfl ?_
  refine Ex.done (hK _ _ ?_)
  refine At.then_n ?_
  refine W.seq ?_
  refine W.sub [(0, _), (3, _)] ⟨rfl, rfl, trivial⟩ ?_
  refine W.reg [(0, false)] (by kernel_rfl) ?_
  intro K hK
  refine x_assign rfl rfl rfl rfl ?_
  refine Ex.done (hK _ _ ?_)
  refine At.then_n ?_
  refine W.seq ?_
  refine W.sub [(0, _), (3, _), (4, _)] ⟨rfl, rfl, rfl, trivial⟩ ?_
  refine W.reg [(0, false)] (by kernel_rfl) ?_
  intro K hK
  refine x_assign rfl rfl rfl rfl ?_
  refine Ex.done (hK _ _ ?_)
  refine At.then_n ?_
  refine W.sub [(0, _), (3, _), (4, _), (5, _)] ⟨rfl, rfl, rfl, rfl, trivial⟩ ?_
  refine W.seqC (fun F' w' => F' = [(0, .slice pv ml.length cv), (3, .int .i64 (want1 ml)), (4, .slice none 0 0), (5, .int .i64 0)] ∧ Sep w0 [] w') ?_ ?_
  ·refine W.seq ?_
   refine W.sub [(0, _), (3, _), (4, _), (5, _)] ⟨rfl, rfl, rfl, rfl, trivial⟩ ?_
   refine W.reg [(0, false)] (by kernel_rfl) ?_
   intro K hK
   refine x_assign rfl rfl rfl rfl ?_
   refine Ex.done (hK _ _ ?_)
   refine At.then_n ?_
   refine W.block ?_
   refine W.loop (σ := Nat × Int) (fun q => [(0, _), (3, .int .i64 q.2), (4, _), (5, _), (6, .int .i64 ((q.1 : Nat) : Int))]) (fun q w => q.1 ≤ ml.length ∧ ((q.2 = 0 ∧ ∀ m ∈ ml.take q.1, badM m = false) ∨ (q.2 = 2 ∧ ml.any badM = true)) ∧ Sep w0 [] w) (fun q => ml.length - q.1) (0, 0) ⟨rfl, rfl, rfl, rfl, rfl, trivial⟩ ⟨Nat.zero_le _, .inl ⟨rfl, by simp⟩, M⟩ ?_
   rintro ⟨j, wt⟩ w ⟨hj, hwt, M⟩
   simp only at hj hwt M
   refine W.seq ?_
   refine W.seq ?_
   refine W.sub [(0, _), (3, _), (4, _), (5, _), (6, _)] ⟨rfl, rfl, rfl, rfl, rfl, trivial⟩ ?_
   refine W.reg [(0, false), (1, false), (2, false), (3, false), (4, false), (5, false), (6, false), (7, false)] (by kernel_rfl) ?_
   intro K hK
   refine x_move rfl rfl rfl rfl ?_
   refine x_move rfl rfl rfl rfl ?_
   refine x_len rfl rfl rfl rfl Tryz.underlying22 rfl ?_
   refine x_lss _ rfl rfl rfl rfl rfl rfl ?_
   refine x_move rfl rfl rfl rfl ?_
   refine Ex.split 19 rfl (fun hsp1 => ?_) (fun hsp1 => ?_)
   ·
    try simp only [sA, sB, sC, sD, sE, sF, sG, sH, sI, sJ, sK, sL, sM, sN, sO] at hsp1
    refine x_move rfl rfl rfl rfl ?_
    refine x_eqi _ rfl rfl rfl rfl rfl rfl ?_
    refine x_pickT rfl rfl rfl rfl rfl ?_
    refine Ex.done (hK _ _ ?_)
    refine At.then_n ?_
    refine W.cond rfl (fun hco2 => ?_) (fun hco2 => ?_)
    ·try simp only [sA, sB, sC, sD, sE, sF, sG, sH, sI, sJ, sK, sL, sM, sN, sO] at hco2
     rcases hwt with ⟨rfl, hall⟩ | ⟨rfl, _⟩
     rotate_left
     ·exact absurd hco2 (by decide)
     obtain ⟨x, hx⟩ := get_lt (l := ml) (q := j) (by omega)
     obtain ⟨bb, off, hpv, _⟩ := h.blk (j := j) (by omega)
     subst hpv
     have hrow0 := h.row hx
     have hrow := RowAt.new hrow0 M.frm
     refine W.skip ?_
     refine At.then_n ?_
     refine W.seq ?_
     refine W.block ?_
     refine W.seq ?_
     refine W.sub [(0, _), (3, _), (4, _), (5, _), (6, _)] ⟨rfl, rfl, rfl, rfl, rfl, trivial⟩ ?_
     refine W.reg [(0, false), (1, false), (2, false), (3, false), (4, false), (5, false), (6, false), (7, false), (8, false), (9, false), (10, false), (11, false), (12, false), (13, false), (14, false), (15, false), (16, false), (17, false), (18, false), (19, false), (20, false)] (by kernel_rfl) ?_
     intro K hK
     refine x_move rfl rfl rfl rfl ?_
     refine x_move rfl rfl rfl rfl ?_
     refine x_ia j rfl rfl rfl Tryz.underlying22 sz26 rfl rfl rfl (by omega) ?_
     refine x_fa rfl rfl rfl fo26_2 rfl ?_
     refine x_ld rfl rfl rfl Tryz.underlying3 rfl rfl (RowAt.cell hrow (j := 2) rfl) ?_
     refine x_lss _ rfl rfl rfl rfl rfl rfl ?_
     refine x_move rfl rfl rfl rfl ?_
     refine Ex.split 31 rfl (fun hsp2 => ?_) (fun hsp2 => ?_)
     ·
      try simp only [sA, sB, sC, sD, sE, sF, sG, sH, sI, sJ, sK, sL, sM, sN, sO] at hsp2
      refine Ex.skip_ rfl rfl rfl ?_
      refine Ex.skip_ rfl rfl rfl ?_
      refine Ex.skip_ rfl rfl rfl ?_
      refine Ex.skip_ rfl rfl rfl ?_
      refine Ex.skip_ rfl rfl rfl ?_
      refine Ex.skip_ rfl rfl rfl ?_
      refine Ex.skip_ rfl rfl rfl ?_
      refine Ex.skip_ rfl rfl rfl ?_
      refine Ex.skip_ rfl rfl rfl ?_
      refine Ex.skip_ rfl rfl rfl ?_
      refine Ex.skip_ rfl rfl rfl ?_
      refine Ex.skip_ rfl rfl rfl ?_
      refine Ex.skip_ rfl rfl rfl ?_
      refine x_pickT rfl rfl rfl rfl rfl ?_
      refine Ex.done (hK _ _ ?_)
      refine At.then_n ?_
      refine W.condT rfl ?_
      refine W.sub [(0, _), (4, _), (5, _), (6, _)] ⟨rfl, rfl, rfl, rfl, trivial⟩ ?_
      refine W.reg [(0, false)] (by kernel_rfl) ?_
      intro K hK
      refine x_assign rfl rfl rfl rfl ?_
      refine Ex.done (hK _ _ ?_)
      refine At.blk_n ?_
      refine At.then_n ?_
      refine W.sub [(0, _), (3, _), (4, _), (5, _), (6, _)] ⟨rfl, rfl, rfl, rfl, rfl, trivial⟩ ?_
      refine W.reg [(0, false), (1, false), (2, false)] (by kernel_rfl) ?_
      intro K hK
      refine x_move rfl rfl rfl rfl ?_
      refine x_add _ rfl rfl rfl rfl rfl (wadd (by omega) (by omega)) ?_
      refine x_assign rfl rfl rfl rfl ?_
      refine Ex.done (hK _ _ ?_)
      exact At.back ((j + 1, 2)) ⟨rfl, rfl, rfl, rfl, rfl, trivial⟩ ⟨by simp only; omega, .inr ⟨rfl, want1_bad hx (by unfold badM; rw [decide_eq_true hsp2]; rfl)⟩, M⟩ (by first | omega | (simp only; omega) | (simp; done) | (simp; omega))
     ·
      try simp only [sA, sB, sC, sD, sE, sF, sG, sH, sI, sJ, sK, sL, sM, sN, sO] at hsp2
      refine x_move rfl rfl rfl rfl ?_
      refine x_move rfl rfl rfl rfl ?_
      refine x_ia j rfl rfl rfl Tryz.underlying22 sz26 rfl rfl rfl (by omega) ?_
      refine x_fa rfl rfl rfl fo26_1 rfl ?_
      refine x_ld rfl rfl rfl Tryz.underlying4 rfl rfl (RowAt.cell hrow (j := 1) rfl) ?_
      refine x_move rfl rfl rfl rfl ?_
      refine Ex.split 37 rfl (fun hsp3 => ?_) (fun hsp3 => ?_)
      ·
       try simp only [sA, sB, sC, sD, sE, sF, sG, sH, sI, sJ, sK, sL, sM, sN, sO] at hsp3
       refine x_move rfl rfl rfl rfl ?_
       refine x_move rfl rfl rfl rfl ?_
       refine x_ia j rfl rfl rfl Tryz.underlying22 sz26 rfl rfl rfl (by omega) ?_
       refine x_fa rfl rfl rfl fo26_2 rfl ?_
       refine x_ld rfl rfl rfl Tryz.underlying3 rfl rfl (RowAt.cell hrow (j := 2) rfl) ?_
       refine x_nei _ rfl rfl rfl rfl rfl rfl ?_
       refine x_pickT rfl rfl rfl rfl rfl ?_
       refine x_pickF rfl rfl rfl rfl rfl ?_
       refine Ex.done (hK _ _ ?_)
       refine At.then_n ?_
       refine W.cond rfl (fun hco4 => ?_) (fun hco4 => ?_)
       ·try simp only [sA, sB, sC, sD, sE, sF, sG, sH, sI, sJ, sK, sL, sM, sN, sO] at hco4
        refine W.sub [(0, _), (4, _), (5, _), (6, _)] ⟨rfl, rfl, rfl, rfl, trivial⟩ ?_
        refine W.reg [(0, false)] (by kernel_rfl) ?_
        intro K hK
        refine x_assign rfl rfl rfl rfl ?_
        refine Ex.done (hK _ _ ?_)
        refine At.blk_n ?_
        refine At.then_n ?_
        refine W.sub [(0, _), (3, _), (4, _), (5, _), (6, _)] ⟨rfl, rfl, rfl, rfl, rfl, trivial⟩ ?_
        refine W.reg [(0, false), (1, false), (2, false)] (by kernel_rfl) ?_
        intro K hK
        refine x_move rfl rfl rfl rfl ?_
        refine x_add _ rfl rfl rfl rfl rfl (wadd (by omega) (by omega)) ?_
        refine x_assign rfl rfl rfl rfl ?_
        refine Ex.done (hK _ _ ?_)
        exact At.back ((j + 1, 2)) ⟨rfl, rfl, rfl, rfl, rfl, trivial⟩ ⟨by simp only; omega, .inr ⟨rfl, want1_bad hx (by unfold badM; rw [hsp3, decide_eq_true hco4]; simp)⟩, M⟩ (by first | omega | (simp only; omega) | (simp; done) | (simp; omega))
       ·try simp only [sA, sB, sC, sD, sE, sF, sG, sH, sI, sJ, sK, sL, sM, sN, sO] at hco4
        refine W.skip ?_
        refine At.blk_n ?_
        refine At.then_n ?_
        refine W.sub [(0, _), (3, _), (4, _), (5, _), (6, _)] ⟨rfl, rfl, rfl, rfl, rfl, trivial⟩ ?_
        refine W.reg [(0, false), (1, false), (2, false)] (by kernel_rfl) ?_
        intro K hK
        refine x_move rfl rfl rfl rfl ?_
        refine x_add _ rfl rfl rfl rfl rfl (wadd (by omega) (by omega)) ?_
        refine x_assign rfl rfl rfl rfl ?_
        refine Ex.done (hK _ _ ?_)
        exact At.back ((j + 1, 0)) ⟨rfl, rfl, rfl, rfl, rfl, trivial⟩ ⟨by simp only; omega, .inl ⟨rfl, mem_take_snoc hx hall (by unfold badM; rw [decide_eq_false (by omega), decide_eq_false (by omega)]; simp)⟩, M⟩ (by first | omega | (simp only; omega) | (simp; done) | (simp; omega))
      ·
       try simp only [sA, sB, sC, sD, sE, sF, sG, sH, sI, sJ, sK, sL, sM, sN, sO] at hsp3
       refine Ex.skip_ rfl rfl rfl ?_
       refine Ex.skip_ rfl rfl rfl ?_
       refine Ex.skip_ rfl rfl rfl ?_
       refine Ex.skip_ rfl rfl rfl ?_
       refine Ex.skip_ rfl rfl rfl ?_
       refine Ex.skip_ rfl rfl rfl ?_
       refine x_pickF rfl rfl rfl rfl rfl ?_
       refine x_pickF rfl rfl rfl rfl rfl ?_
       refine Ex.done (hK _ _ ?_)
       refine At.then_n ?_
       refine W.condF rfl ?_
       refine W.skip ?_
       refine At.blk_n ?_
       refine At.then_n ?_
       refine W.sub [(0, _), (3, _), (4, _), (5, _), (6, _)] ⟨rfl, rfl, rfl, rfl, rfl, trivial⟩ ?_
       refine W.reg [(0, false), (1, false), (2, false)] (by kernel_rfl) ?_
       intro K hK
       refine x_move rfl rfl rfl rfl ?_
       refine x_add _ rfl rfl rfl rfl rfl (wadd (by omega) (by omega)) ?_
       refine x_assign rfl rfl rfl rfl ?_
       refine Ex.done (hK _ _ ?_)
       exact At.back ((j + 1, 0)) ⟨rfl, rfl, rfl, rfl, rfl, trivial⟩ ⟨by simp only; omega, .inl ⟨rfl, mem_take_snoc hx hall (by unfold badM; rw [decide_eq_false (by omega), hsp3]; simp)⟩, M⟩ (by first | omega | (simp only; omega) | (simp; done) | (simp; omega))
    ·try simp only [sA, sB, sC, sD, sE, sF, sG, sH, sI, sJ, sK, sL, sM, sN, sO] at hco2
     refine W.exit ?_
     refine At.then_x ?_
     refine At.loop_x ?_
     refine At.blk_x ?_
     refine At.sub [(0, _), (3, _), (4, _), (5, _)] ⟨rfl, rfl, rfl, rfl, trivial⟩ ?_
     refine At.cut_n ?_
     rcases hwt with ⟨h1, _⟩ | ⟨rfl, h2⟩
     ·exact absurd h1 hco2
     exact ⟨by unfold want1; rw [if_pos h2], M⟩
   ·
    try simp only [sA, sB, sC, sD, sE, sF, sG, sH, sI, sJ, sK, sL, sM, sN, sO] at hsp1
    refine Ex.skip_ rfl rfl rfl ?_
    refine Ex.skip_ rfl rfl rfl ?_
    refine x_pickF rfl rfl rfl rfl rfl ?_
    refine Ex.done (hK _ _ ?_)
    refine At.then_n ?_
    refine W.condF rfl ?_
    refine W.exit ?_
    refine At.then_x ?_
    refine At.loop_x ?_
    refine At.blk_x ?_
    refine At.sub [(0, _), (3, _), (4, _), (5, _)] ⟨rfl, rfl, rfl, rfl, trivial⟩ ?_
    refine At.cut_n ?_
    have hj2 : j = ml.length := by omega
    subst hj2
    rw [List.take_length] at hwt
    rcases hwt with ⟨rfl, hall⟩ | ⟨rfl, h2⟩
    ·exact ⟨by rw [want1_all hall], M⟩
    ·exact ⟨by unfold want1; rw [if_pos h2], M⟩
  rintro F1 wc ⟨rfl, M⟩
  refine W.sub [(0, _), (3, _), (4, _), (5, _)] ⟨rfl, rfl, rfl, rfl, trivial⟩ ?_
  refine W.seqC (fun F' w' => ∃ s : Int, F' = [(0, .slice pv ml.length cv), (3, .int .i64 (want2 ml)), (4, .slice none 0 0), (5, .int .i64 s)] ∧ (want2 ml = 0 → s = sumI ml) ∧ Sep w0 [] w') ?_ ?_
  ·refine W.seq ?_
   refine W.sub [(0, _), (3, _), (4, _), (5, _)] ⟨rfl, rfl, rfl, rfl, trivial⟩ ?_
   refine W.reg [(0, false)] (by kernel_rfl) ?_
   intro K hK
   refine x_assign rfl rfl rfl rfl ?_
   refine Ex.done (hK _ _ ?_)
   refine At.then_n ?_
   refine W.block ?_
   refine W.loop (σ := Nat × Int × Int) (fun q => [(0, _), (3, .int .i64 q.2.1), (4, _), (5, .int .i64 q.2.2), (7, .int .i64 ((q.1 : Nat) : Int))]) (fun q w => q.1 ≤ ml.length ∧ ((q.2.1 = 0 ∧ want1 ml = 0 ∧ (∀ m ∈ ml.take q.1, bigM m = false) ∧ q.2.2 = sumI (ml.take q.1)) ∨ (q.2.1 = want2 ml ∧ want2 ml ≠ 0)) ∧ Sep w0 [] w) (fun q => ml.length - q.1) (0, want1 ml, 0) ⟨rfl, rfl, rfl, rfl, rfl, trivial⟩ ⟨Nat.zero_le _, by
 by_cases h0 : want1 ml = 0
 ·exact .inl ⟨h0, h0, by simp, rfl⟩
 ·exact .inr ⟨(want2_one h0).symm, by rw [want2_one h0]; exact h0⟩, M⟩ ?_
   rintro ⟨j, wt, s⟩ w ⟨hj, hwt, M⟩
   simp only at hj hwt M
   refine W.seq ?_
   refine W.seq ?_
   refine W.sub [(0, _), (3, _), (4, _), (5, _), (7, _)] ⟨rfl, rfl, rfl, rfl, rfl, trivial⟩ ?_
   refine W.reg [(0, false), (1, false), (2, false), (3, false), (4, false), (5, false), (6, false), (7, false)] (by kernel_rfl) ?_
   intro K hK
   refine x_move rfl rfl rfl rfl ?_
   refine x_move rfl rfl rfl rfl ?_
   refine x_len rfl rfl rfl rfl Tryz.underlying22 rfl ?_
   refine x_lss _ rfl rfl rfl rfl rfl rfl ?_
   refine x_move rfl rfl rfl rfl ?_
   refine Ex.split 50 rfl (fun hsp4 => ?_) (fun hsp4 => ?_)
   ·
    try simp only [sA, sB, sC, sD, sE, sF, sG, sH, sI, sJ, sK, sL, sM, sN, sO] at hsp4
    refine x_move rfl rfl rfl rfl ?_
    refine x_eqi _ rfl rfl rfl rfl rfl rfl ?_
    refine x_pickT rfl rfl rfl rfl rfl ?_
    refine Ex.done (hK _ _ ?_)
    refine At.then_n ?_
    refine W.cond rfl (fun hco7 => ?_) (fun hco7 => ?_)
    ·try simp only [sA, sB, sC, sD, sE, sF, sG, sH, sI, sJ, sK, sL, sM, sN, sO] at hco7
     rcases hwt with ⟨rfl, h0, hall, rfl⟩ | ⟨h1, h2⟩
     rotate_left
     ·exact absurd (h1.symm.trans hco7) h2
     obtain ⟨x, hx⟩ := get_lt (l := ml) (q := j) (by omega)
     obtain ⟨bb, off, hpv, _⟩ := h.blk (j := j) (by omega)
     subst hpv
     have hrow0 := h.row hx
     have hrow := RowAt.new hrow0 M.frm
     have hsb := sumI_bd (fun m hm => (good_of h0 hm).1) j
     have hx0 := (good_of h0 (List.mem_of_getElem? hx)).1
     have hst := sumI_step hx
     refine W.skip ?_
     refine At.then_n ?_
     refine W.seq ?_
     refine W.block ?_
     refine W.seq ?_
     refine W.seq ?_
     refine W.sub [(0, _), (3, _), (4, _), (5, _), (7, _)] ⟨rfl, rfl, rfl, rfl, rfl, trivial⟩ ?_
     refine W.reg [(0, false), (1, false), (2, false), (3, false), (4, false), (5, false)] (by kernel_rfl) ?_
     intro K hK
     refine x_move rfl rfl rfl rfl ?_
     refine x_move rfl rfl rfl rfl ?_
     refine x_ia j rfl rfl rfl Tryz.underlying22 sz26 rfl rfl rfl (by omega) ?_
     refine x_fa rfl rfl rfl fo26_2 rfl ?_
     refine x_ld rfl rfl rfl Tryz.underlying3 rfl rfl (RowAt.cell hrow (j := 2) rfl) ?_
     refine x_gtr _ rfl rfl rfl rfl rfl rfl ?_
     refine Ex.done (hK _ _ ?_)
     refine At.then_n ?_
     refine W.cond rfl (fun hco8 => ?_) (fun hco8 => ?_)
     ·try simp only [sA, sB, sC, sD, sE, sF, sG, sH, sI, sJ, sK, sL, sM, sN, sO] at hco8
      refine W.sub [(0, _), (4, _), (5, _), (7, _)] ⟨rfl, rfl, rfl, rfl, trivial⟩ ?_
      refine W.reg [(0, false)] (by kernel_rfl) ?_
      intro K hK
      refine x_assign rfl rfl rfl rfl ?_
      refine Ex.done (hK _ _ ?_)
      refine At.then_n ?_
      refine W.sub [(0, _), (3, _), (4, _), (5, _), (7, _)] ⟨rfl, rfl, rfl, rfl, rfl, trivial⟩ ?_
      refine W.reg [(0, false), (1, false), (2, false), (3, false), (4, false), (5, false), (6, false), (7, false), (8, false)] (by kernel_rfl) ?_
      intro K hK
      refine x_move rfl rfl rfl rfl ?_
      refine x_move rfl rfl rfl rfl ?_
      refine x_move rfl rfl rfl rfl ?_
      refine x_ia j rfl rfl rfl Tryz.underlying22 sz26 rfl rfl rfl (by omega) ?_
      refine x_fa rfl rfl rfl fo26_2 rfl ?_
      refine x_ld rfl rfl rfl Tryz.underlying3 rfl rfl (RowAt.cell hrow (j := 2) rfl) ?_
      refine x_min 65536 rfl rfl rfl rfl rfl (by split <;> omega) ?_
      refine x_add _ rfl rfl rfl rfl rfl (by simp only; exact wadd (by omega) (by omega)) ?_
      refine x_assign rfl rfl rfl rfl ?_
      refine Ex.done (hK _ _ ?_)
      refine At.blk_n ?_
      refine At.then_n ?_
      refine W.sub [(0, _), (3, _), (4, _), (5, _), (7, _)] ⟨rfl, rfl, rfl, rfl, rfl, trivial⟩ ?_
      refine W.reg [(0, false), (1, false), (2, false)] (by kernel_rfl) ?_
      intro K hK
      refine x_move rfl rfl rfl rfl ?_
      refine x_add _ rfl rfl rfl rfl rfl (wadd (by omega) (by omega)) ?_
      refine x_assign rfl rfl rfl rfl ?_
      refine Ex.done (hK _ _ ?_)
      exact At.back ((j + 1, 3, _)) ⟨rfl, rfl, rfl, rfl, rfl, trivial⟩ ⟨by simp only; omega, .inr ⟨(want2_big h0 hx (by unfold bigM; exact decide_eq_true (by omega))).symm, by rw [want2_big h0 hx (by unfold bigM; exact decide_eq_true (by omega))]; decide⟩, M⟩ (by first | omega | (simp only; omega) | (simp; done) | (simp; omega))
     ·try simp only [sA, sB, sC, sD, sE, sF, sG, sH, sI, sJ, sK, sL, sM, sN, sO] at hco8
      refine W.skip ?_
      refine At.then_n ?_
      refine W.sub [(0, _), (3, _), (4, _), (5, _), (7, _)] ⟨rfl, rfl, rfl, rfl, rfl, trivial⟩ ?_
      refine W.reg [(0, false), (1, false), (2, false), (3, false), (4, false), (5, false), (6, false), (7, false), (8, false)] (by kernel_rfl) ?_
      intro K hK
      refine x_move rfl rfl rfl rfl ?_
      refine x_move rfl rfl rfl rfl ?_
      refine x_move rfl rfl rfl rfl ?_
      refine x_ia j rfl rfl rfl Tryz.underlying22 sz26 rfl rfl rfl (by omega) ?_
      refine x_fa rfl rfl rfl fo26_2 rfl ?_
      refine x_ld rfl rfl rfl Tryz.underlying3 rfl rfl (RowAt.cell hrow (j := 2) rfl) ?_
      refine x_min x.2.2 rfl rfl rfl rfl rfl (by split <;> omega) ?_
      refine x_add _ rfl rfl rfl rfl rfl (by simp only; exact wadd (by omega) (by omega)) ?_
      refine x_assign rfl rfl rfl rfl ?_
      refine Ex.done (hK _ _ ?_)
      refine At.blk_n ?_
      refine At.then_n ?_
      refine W.sub [(0, _), (3, _), (4, _), (5, _), (7, _)] ⟨rfl, rfl, rfl, rfl, rfl, trivial⟩ ?_
      refine W.reg [(0, false), (1, false), (2, false)] (by kernel_rfl) ?_
      intro K hK
      refine x_move rfl rfl rfl rfl ?_
      refine x_add _ rfl rfl rfl rfl rfl (wadd (by omega) (by omega)) ?_
      refine x_assign rfl rfl rfl rfl ?_
      refine Ex.done (hK _ _ ?_)
      exact At.back ((j + 1, 0, sumI (ml.take (j + 1)))) ⟨rfl, rfl, rfl, (by show _ = some (Value.int .i64 (sumI (ml.take (j + 1)))); rw [hst, show min x.2.2 65536 = x.2.2 by omega]; rfl), rfl, trivial⟩ ⟨by simp only; omega, .inl ⟨rfl, h0, mem_take_snoc hx hall (by unfold bigM; exact decide_eq_false (by omega)), rfl⟩, M⟩ (by first | omega | (simp only; omega) | (simp; done) | (simp; omega))
    ·try simp only [sA, sB, sC, sD, sE, sF, sG, sH, sI, sJ, sK, sL, sM, sN, sO] at hco7
     refine W.exit ?_
     refine At.then_x ?_
     refine At.loop_x ?_
     refine At.blk_x ?_
     refine At.sub [(0, _), (3, _), (4, _), (5, _)] ⟨rfl, rfl, rfl, rfl, trivial⟩ ?_
     refine At.cut_n ?_
     rcases hwt with ⟨h1, _⟩ | ⟨h1, h2⟩
     ·exact absurd h1 hco7
     exact ⟨s, by rw [h1], fun h => absurd h h2, M⟩
   ·
    try simp only [sA, sB, sC, sD, sE, sF, sG, sH, sI, sJ, sK, sL, sM, sN, sO] at hsp4
    refine Ex.skip_ rfl rfl rfl ?_
    refine Ex.skip_ rfl rfl rfl ?_
    refine x_pickF rfl rfl rfl rfl rfl ?_
    refine Ex.done (hK _ _ ?_)
    refine At.then_n ?_
    refine W.condF rfl ?_
    refine W.exit ?_
    refine At.then_x ?_
    refine At.loop_x ?_
    refine At.blk_x ?_
    refine At.sub [(0, _), (3, _), (4, _), (5, _)] ⟨rfl, rfl, rfl, rfl, trivial⟩ ?_
    refine At.cut_n ?_
    have hj2 : j = ml.length := by omega
    subst hj2
    rw [List.take_length] at hwt
    rcases hwt with ⟨rfl, h0, hall, h3⟩ | ⟨h1, h2⟩
    ·exact ⟨s, by rw [want2_ok h0 hall], fun _ => h3, M⟩
    ·exact ⟨s, by rw [h1], fun h => absurd h h2, M⟩
  rintro F1 wc ⟨s, rfl, hs, M⟩
  refine W.seq ?_
  refine W.seq ?_
  refine W.sub [(0, _), (3, _), (4, _), (5, _)] ⟨rfl, rfl, rfl, rfl, trivial⟩ ?_
  refine W.reg [(0, false)] (by kernel_rfl) ?_
  intro K hK
  refine x_assign rfl rfl rfl rfl ?_
  refine Ex.done (hK _ _ ?_)
  refine At.then_n ?_
  refine W.block ?_
  refine W.loop (σ := Nat × Value × List (Nat × Obj)) (fun q => [(0, _), (3, _), (4, q.2.1), (5, _), (8, .int .i64 ((q.1 : Nat) : Int))]) (fun q w => q.1 ≤ ml.length ∧ OwL q.2.2 q.2.1 3 q.1 (fCs ((ml.take q.1).map zRow)) ∧ Sep w0 q.2.2 w) (fun q => ml.length - q.1) (0, .slice none 0 0, []) ⟨rfl, rfl, rfl, rfl, rfl, trivial⟩ ⟨Nat.zero_le _, OwL.nil, M⟩ ?_
  rintro ⟨j, v4, Lo⟩ w ⟨hj, ho, M⟩
  simp only at hj ho M
  obtain ⟨p4, c4, rfl⟩ := ho.shape
  refine W.seq ?_
  refine W.seq ?_
  refine W.sub [(0, _), (3, _), (4, _), (5, _), (8, _)] ⟨rfl, rfl, rfl, rfl, rfl, trivial⟩ ?_
  refine W.reg [(0, false), (1, false), (2, false), (3, false)] (by kernel_rfl) ?_
  intro K hK
  refine x_move rfl rfl rfl rfl ?_
  refine x_move rfl rfl rfl rfl ?_
  refine x_len rfl rfl rfl rfl Tryz.underlying22 rfl ?_
  refine x_lss _ rfl rfl rfl rfl rfl rfl ?_
  refine Ex.done (hK _ _ ?_)
  refine At.then_n ?_
  refine W.cond rfl (fun hco10 => ?_) (fun hco10 => ?_)
  ·try simp only [sA, sB, sC, sD, sE, sF, sG, sH, sI, sJ, sK, sL, sM, sN, sO] at hco10
   obtain ⟨x, hx⟩ := get_lt (l := ml) (q := j) (by omega)
   obtain ⟨bb, off, hpv, _⟩ := h.blk (j := j) (by omega)
   subst hpv
   have hrow0 := h.row hx
   have hrow := RowAt.new hrow0 M.frm
   refine W.skip ?_
   refine At.then_n ?_
   refine W.seq ?_
   refine W.block ?_
   refine W.sub [(0, _), (3, _), (4, _), (5, _), (8, _)] ⟨rfl, rfl, rfl, rfl, rfl, trivial⟩ ?_
   refine W.regD (by kernel_rfl) #[0, 0, 0, 6, 14, 30, 0, 0, 192, 448, 960, 2046, 4094, 8191, 16383] [(0, false), (1, false), (2, false), (3, false), (4, false), (5, false), (6, false), (7, false), (8, false), (9, false), (10, false), (11, false), (12, true), (13, true), (14, false)] (by kernel_rfl) ?_
   intro K wD1 hK hwD1
   have M := M.drew hwD1
   have hrow := RowAt.new hrow0 M.frm
   refine x_move rfl rfl rfl rfl ?_
   refine x_move rfl rfl rfl rfl ?_
   refine x_move rfl rfl rfl rfl ?_
   refine x_ia j rfl rfl rfl Tryz.underlying22 sz26 rfl rfl rfl (by omega) ?_
   refine x_fa rfl rfl rfl fo26_0 rfl ?_
   refine x_ld rfl rfl rfl Tryz.underlying9 rfl rfl (RowAt.cell hrow (j := 0) rfl) ?_
   refine x_move rfl rfl rfl rfl ?_
   refine x_move rfl rfl rfl rfl ?_
   refine x_ia j rfl rfl rfl Tryz.underlying22 sz26 rfl rfl rfl (by omega) ?_
   refine x_fa rfl rfl rfl fo26_1 rfl ?_
   refine x_ld rfl rfl rfl Tryz.underlying4 rfl rfl (RowAt.cell hrow (j := 1) rfl) ?_
   refine x_build [_, _, _] rfl rfl rfl pl29 ze29 rfl rfl rfl ?_
   refine x_bs1 (cs := [strV x.1, .bool x.2.1, .slice none 0 0]) rfl rfl rfl Tryz.underlying24 sz29 ze29 (Z := [_, _, _]) rfl rfl (by decide) (by decide) rfl rfl rfl ?_
   intro bbs1 wbs1 hbbs1 hwbs1
   have M := M.acons hbbs1 hwbs1
   have hslbs1 : Sl wbs1 (.slice (some ⟨bbs1, 0, none⟩) 1 1) 3 1 [strV x.1, .bool x.2.1, .slice none 0 0] := .inr ⟨bbs1, 0, 1, _, _, _, rfl, Nat.le_refl _, M.at_ 0 rfl, rfl, rfl⟩
   have M := M.tail
   refine ⟨⟨.inl (by kernel_rfl), .inl (by kernel_rfl), trivial⟩, ?_⟩
   have M : Sep w0 (Lo ++ []) wbs1 := by rw [List.append_nil]; exact M
   refine x_apL (L := Lo) (cs := fCs ((ml.take j).map zRow)) rfl rfl rfl rfl Tryz.underlying24 sz29 ze29 rfl by29 rfl rfl ho M (fCs_one (fun f hf => by obtain ⟨y, _, rfl⟩ := List.mem_map.1 hf; rfl)) (hslbs1.src Tryz.underlying24 (by intro u hu; simp only [List.mem_cons, List.not_mem_nil, or_false] at hu; rcases hu with rfl | rfl | rfl <;> rfl)) (by omega) (by decide) (by omega) ?_
   intro L3 v3 w3 ho3 M
   rw [← fCs_snoc hx] at ho3
   rw [List.append_nil] at M
   refine ⟨⟨.inl (by kernel_rfl), .inl (by kernel_rfl), trivial⟩, ?_⟩
   refine x_assign rfl rfl rfl rfl ?_
   refine Ex.done (hK _ _ ?_)
   refine At.blk_n ?_
   refine At.then_n ?_
   refine W.sub [(0, _), (3, _), (4, _), (5, _), (8, _)] ⟨rfl, rfl, rfl, rfl, rfl, trivial⟩ ?_
   refine W.reg [(0, false), (1, false), (2, false)] (by kernel_rfl) ?_
   intro K hK
   refine x_move rfl rfl rfl rfl ?_
   refine x_add _ rfl rfl rfl rfl rfl (wadd (by omega) (by omega)) ?_
   refine x_assign rfl rfl rfl rfl ?_
   refine Ex.done (hK _ _ ?_)
   exact At.back ((j + 1, v3, L3)) ⟨rfl, rfl, rfl, rfl, rfl, trivial⟩ ⟨by simp only; omega, ho3, M⟩ (by first | omega | (simp only; omega) | (simp; done) | (simp; omega))
  ·try simp only [sA, sB, sC, sD, sE, sF, sG, sH, sI, sJ, sK, sL, sM, sN, sO] at hco10
   have hj2 : j = ml.length := by omega
   subst hj2
   rw [List.take_length] at ho
   have hbare := bare_at_ ((OwL.sl ho (by decide)).get (fun y hy => M.get hy))
   have M : Sep w0 [] _ := M.sub (List.nil_sublist _)
   refine W.exit ?_
   refine At.then_x ?_
   refine At.loop_x ?_
   refine At.blk_x ?_
   refine At.then_n ?_
   refine W.sub [(0, _), (3, _), (4, _), (5, _)] ⟨rfl, rfl, rfl, rfl, trivial⟩ ?_
   refine W.seqC (fun F' w' => F' = [(0, .slice pv ml.length cv), (3, .int .i64 (want3 ml)), (5, .int .i64 s)] ∧ Sep w0 [] w') ?_ ?_
   ·refine W.seq ?_
    refine W.sub [(0, _), (3, _), (4, _), (5, _)] ⟨rfl, rfl, rfl, rfl, trivial⟩ ?_
    refine W.reg [(0, false), (1, false)] (by kernel_rfl) ?_
    intro K hK
    refine x_move rfl rfl rfl rfl ?_
    refine x_eqi _ rfl rfl rfl rfl rfl rfl ?_
    refine Ex.done (hK _ _ ?_)
    refine At.then_n ?_
    refine W.cond rfl (fun hco11 => ?_) (fun hco11 => ?_)
    ·try simp only [sA, sB, sC, sD, sE, sF, sG, sH, sI, sJ, sK, sL, sM, sN, sO] at hco11
     refine W.sub [(0, _), (4, _), (5, _)] ⟨rfl, rfl, rfl, trivial⟩ ?_
     refine W.reg [(0, false), (1, true), (2, false), (3, false), (4, false), (5, false)] (by kernel_rfl) ?_
     intro K hK
     refine x_move rfl rfl rfl rfl ?_
     refine x_call rfl rfl rfl rfl rfl en12 (rof_c (St.nil _) hbare (by rw [List.length_map]; omega)) ?_
     rintro r_ w2 ⟨u2, L2, rfl, _, M2⟩
     rw [List.append_nil] at M2
     have M := (M.grow' M2).sub (List.nil_sublist _)
     refine ⟨trivial, ?_⟩
     refine x_move rfl rfl rfl rfl ?_
     refine x_ext rfl rfl rfl rfl rfl ?_
     refine x_ext rfl rfl rfl rfl rfl ?_
     refine x_assign rfl rfl rfl rfl ?_
     refine Ex.done (hK _ _ ?_)
     refine At.sub [(0, _), (3, _), (5, _)] ⟨rfl, rfl, rfl, trivial⟩ ?_
     refine At.cut_n ?_
     exact ⟨by unfold want3; rw [if_pos hco11]; rfl, M⟩
    ·try simp only [sA, sB, sC, sD, sE, sF, sG, sH, sI, sJ, sK, sL, sM, sN, sO] at hco11
     refine W.skip ?_
     refine At.sub [(0, _), (3, _), (5, _)] ⟨rfl, rfl, rfl, trivial⟩ ?_
     refine At.cut_n ?_
     exact ⟨by unfold want3; rw [if_neg hco11], M⟩
   rintro F1 wc ⟨rfl, M⟩
   refine W.sub [(0, _), (3, _), (5, _)] ⟨rfl, rfl, rfl, trivial⟩ ?_
   refine W.seqC (fun F' w' => F' = [(0, .slice pv ml.length cv), (3, .int .i64 (want4 ml))] ∧ Sep w0 [] w') ?_ ?_
   ·refine W.seq ?_
    refine W.sub [(0, _), (3, _), (5, _)] ⟨rfl, rfl, rfl, trivial⟩ ?_
    refine W.reg [(0, false), (1, false), (2, false), (3, false), (4, false), (5, false)] (by kernel_rfl) ?_
    intro K hK
    refine x_move rfl rfl rfl rfl ?_
    refine x_eqi _ rfl rfl rfl rfl rfl rfl ?_
    refine x_move rfl rfl rfl rfl ?_
    refine Ex.split 99 rfl (fun hsp5 => ?_) (fun hsp5 => ?_)
    ·
     try simp only [sA, sB, sC, sD, sE, sF, sG, sH, sI, sJ, sK, sL, sM, sN, sO] at hsp5
     refine x_move rfl rfl rfl rfl ?_
     refine x_gtr _ rfl rfl rfl rfl rfl rfl ?_
     refine x_pickT rfl rfl rfl rfl rfl ?_
     refine Ex.done (hK _ _ ?_)
     refine At.then_n ?_
     refine W.cond rfl (fun hco12 => ?_) (fun hco12 => ?_)
     ·try simp only [sA, sB, sC, sD, sE, sF, sG, sH, sI, sJ, sK, sL, sM, sN, sO] at hco12
      refine W.sub [(0, _)] ⟨rfl, trivial⟩ ?_
      refine W.reg [(0, false)] (by kernel_rfl) ?_
      intro K hK
      refine x_assign rfl rfl rfl rfl ?_
      refine Ex.done (hK _ _ ?_)
      refine At.sub [(0, _), (3, _)] ⟨rfl, rfl, trivial⟩ ?_
      refine At.cut_n ?_
      have h20 : want2 ml = 0 := by
       by_cases e : want2 ml = 0
       ·exact e
       ·have e3 : want3 ml = want2 ml := by unfold want3; rw [if_neg e]
        exact absurd (e3.symm.trans hsp5) e
      have hss := hs h20
      exact ⟨by unfold want4; rw [if_pos ⟨hsp5, by omega⟩], M⟩
     ·try simp only [sA, sB, sC, sD, sE, sF, sG, sH, sI, sJ, sK, sL, sM, sN, sO] at hco12
      refine W.skip ?_
      refine At.sub [(0, _), (3, _)] ⟨rfl, rfl, trivial⟩ ?_
      refine At.cut_n ?_
      have h20 : want2 ml = 0 := by
       by_cases e : want2 ml = 0
       ·exact e
       ·have e3 : want3 ml = want2 ml := by unfold want3; rw [if_neg e]
        exact absurd (e3.symm.trans hsp5) e
      have hss := hs h20
      exact ⟨by unfold want4; rw [if_neg (fun h => by have := h.2; omega)], M⟩
    ·
     try simp only [sA, sB, sC, sD, sE, sF, sG, sH, sI, sJ, sK, sL, sM, sN, sO] at hsp5
     refine Ex.skip_ rfl rfl rfl ?_
     refine Ex.skip_ rfl rfl rfl ?_
     refine x_pickF rfl rfl rfl rfl rfl ?_
     refine Ex.done (hK _ _ ?_)
     refine At.then_n ?_
     refine W.condF rfl ?_
     refine W.skip ?_
     refine At.sub [(0, _), (3, _)] ⟨rfl, rfl, trivial⟩ ?_
     refine At.cut_n ?_
     exact ⟨by unfold want4; rw [if_neg (fun h => hsp5 h.1)], M⟩
   rintro F1 wc ⟨rfl, M⟩
   refine W.seq ?_
   refine W.sub [(0, _), (3, _)] ⟨rfl, rfl, trivial⟩ ?_
   refine W.reg [(0, false), (1, false), (2, false), (3, true), (4, false), (5, true), (6, false), (7, false), (8, false), (9, false), (10, false)] (by kernel_rfl) ?_
   intro K hK
   refine x_move rfl rfl rfl rfl ?_
   refine x_move rfl rfl rfl rfl ?_
   refine x_build [_] rfl rfl rfl pl40 ze40 rfl rfl rfl ?_
   refine x_box [_] rfl rfl rfl rfl rfl ?_
   intro bbx1 wbx1 hbbx1 hwbx1
   have M := M.acons hbbx1 hwbx1
   refine ⟨trivial, ?_⟩
   refine x_mkif rfl rfl rfl rfl Tryz.underlying38 (by intro ms e; cases e) ?_
   refine x_call rfl rfl rfl rfl rfl en13 (onew_c (l := ml.map zRaw) (base := baseL (ml.map zRaw)) (h.new M.frm) (by omega) rfl (fun hb => meta_z (by unfold want1; rw [hb]; rfl)) (fun h0 x hx hd => baseL_of (names_of h0) hx hd)) ?_
   rintro r_ w3 hpost
   obtain ⟨po, rfl, hpo, hn3⟩ := news_post rfl hpost
   have M := M.new hn3
   refine ⟨trivial, ?_⟩
   refine x_move rfl rfl rfl rfl ?_
   refine x_ext rfl rfl rfl rfl rfl ?_
   refine x_ext rfl rfl rfl rfl rfl ?_
   refine x_assign rfl rfl rfl rfl ?_
   refine x_assign rfl rfl rfl rfl ?_
   refine Ex.done (hK _ _ ?_)
   refine At.then_n ?_
   refine W.seq ?_
   refine W.sub [(3, _), (9, _), (10, _)] ⟨rfl, rfl, rfl, trivial⟩ ?_
   refine W.reg [(0, false), (1, false), (2, false), (3, false), (4, false), (5, false), (6, false), (7, false), (8, false), (9, false), (10, false), (11, true), (12, false), (13, false)] (by kernel_rfl) ?_
   intro K hK
   refine x_move rfl rfl rfl rfl ?_
   refine x_move rfl rfl rfl rfl ?_
   refine x_eqi true rfl rfl rfl rfl rfl (by simp) ?_
   refine x_move rfl rfl rfl rfl ?_
   refine x_move rfl rfl rfl rfl ?_
   refine x_nepn _ rfl rfl rfl Tryz.underlying34 rfl rfl rfl ?_
   refine x_move rfl rfl rfl rfl ?_
   refine x_eqi _ rfl rfl rfl rfl rfl rfl ?_
   refine x_eqb true rfl rfl rfl Tryz.underlying4 rfl rfl (by rw [hpo]; simp) ?_
   refine x_pickT rfl rfl rfl rfl rfl ?_
   refine x_move rfl rfl rfl rfl ?_
   refine x_call rfl rfl rfl rfl rfl en11 (lives19_c) ?_
   rintro r_ wcall4 ⟨rfl, hncall4⟩
   have M := M.new hncall4
   refine ⟨trivial, ?_⟩
   refine x_pickT rfl rfl rfl rfl rfl ?_
   refine x_assign rfl rfl rfl rfl ?_
   refine Ex.done (hK _ _ ?_)
   refine At.then_n ?_
   refine W.ret ?_
   refine At.ret1 (.tmp 2) rfl ⟨rfl, trivial⟩ ?_
   exact ⟨rfl, M.frm⟩
end Go.Proofs.YtigfbpbnohkokaaGreat

namespace Go.Fw
open Go Go.ChangeShapes Go.WideShapes Go.ChangeAt Go.RowKit
set_option linter.unusedVariables false
set_option linter.unusedSimpArgs false
section
variable {H : Type} {enc : TypeId × Value → H} {P : Program} {W : World} {sp : Nat → Bool}
end
end Go.Fw

namespace Go.Proofs.YtigfbpbnohkokaaGreat
open Go Go.Fw Go.ChangeShapes Go.WideShapes Go.ChangeAt Go.RowKit
set_option linter.unusedVariables false
set_option linter.unusedSimpArgs false

theorem cInt : Tryz.prog.cellsOf 3 = 1 := by kernel_rfl
theorem cBool : Tryz.prog.cellsOf 4 = 1 := by kernel_rfl
section
variable {H : Type} {enc : TypeId × Value → H} {W : World} {sp : Nat → Bool}
end
end Go.Proofs.YtigfbpbnohkokaaGreat

namespace Go.Proofs.YtigfbpbnohkokaaGreat
open Go Go.Fw Go.ChangeShapes Go.WideShapes Go.ChangeAt Go.RowKit
set_option linter.unusedVariables false
theorem cMeta : Tryz.prog.cellsOf 26 = 3 := by kernel_rfl
section
variable {H : Type} {enc : TypeId × Value → H} {W : World} {sp : Nat → Bool}
def metaE (a : Mt) : List Value := [strV a.1, .bool a.2.1, .int .i64 a.2.2]
theorem rd_meta : Rd enc Tryz.prog W sp 26 metaE (fun _ _ => True) := fun fuel cs x h => by
 obtain ⟨a, h1, _⟩ := rd_struct3 (R0 := _) (R1 := _) (R2 := _) Tryz.underlying26 cMeta ⟨rfl, cStr⟩ ⟨rfl, cBool⟩ ⟨rfl, cInt⟩ (rd_string Tryz.underlying9) (rd_bool Tryz.underlying4) (rd_int Tryz.underlying3) fuel cs x h
 exact ⟨a, h1, trivial⟩
theorem metas_of {R : Mt → DataW H → Prop} {v : Value} {l : List Mt} {d : DataW H} (h : SlR W 3 metaE R (v, l) d) : MetasAt W v l := h.1
end
end Go.Proofs.YtigfbpbnohkokaaGreat
