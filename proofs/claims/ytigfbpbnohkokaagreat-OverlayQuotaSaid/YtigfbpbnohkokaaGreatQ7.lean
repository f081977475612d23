/-
  Texts that belong together, laid into one file: U24, O27, FwT, R19, R19b.
-/
import Derived.Test.YtigfbpbnohkokaaGreatQ6
namespace Go.Proofs.YtigfbpbnohkokaaGreat
open Go Go.Fw Go.RowKit
set_option linter.unusedVariables false
set_option linter.unusedSimpArgs false

def cB (i : Nat) : UInt8 := UInt8.ofNat (97 + i)
def cN (i : Nat) : List UInt8 := [cB i]
def rowsH (h : Nat → Nat) (n : Nat) : List Raw := (List.range n).map fun k => (cN k, false, List.replicate (h k) 0)
def hfQ (n : Nat) : HF := fun a m => if a = 0 ∧ 1 ≤ m ∧ m ≤ (n : Int) then some (cN (m - 1).toNat, true) else none
def updH (h : Nat → Nat) (i s : Nat) : Nat → Nat := fun k => if k = i then s else h k
def sumN (h : Nat → Nat) (n : Nat) : Nat := ((List.range n).map h).sum
def qo1 (i : Nat) : OpS := ⟨1, cN i, [], 0, 0, 0, true, true, []⟩
def qo2 (i : Nat) (s : Int) : OpS := ⟨4, [], [], (i : Int) + 1, 0, s, false, false, []⟩
theorem cB_nat {i : Nat} (h : i < 12) : (cB i).toNat = 97 + i := by unfold cB; rw [UInt8.toNat_ofNat']; exact Nat.mod_eq_of_lt (by omega)
theorem cN_inj {i k : Nat} (hi : i < 12) (hk : k < 12) (h : cN k = cN i) : k = i := by
 unfold cN at h
 have := congrArg UInt8.toNat (List.cons.inj h).1
 rw [cB_nat hi, cB_nat hk] at this; omega
theorem cN_facts : ∀ i : Fin 12, cleanP (cN i) = (cN i, 0) ∧ splitE (cN i) = 0 ∧ splitN (cN i) = [cN i] ∧ joinS [cN i] = cN i := by decide +kernel
theorem cN_cmp : ∀ i k : Fin 12, k < i → compareP (cN k) (cN i) < 0 := by decide +kernel
theorem sumN_succ (h : Nat → Nat) (n : Nat) : sumN h (n + 1) = sumN h n + h n := by unfold sumN; rw [List.range_succ, List.map_append, List.sum_append]; simp
theorem sumN_ext {h g : Nat → Nat} : ∀ {n : Nat}, (∀ k < n, h k = g k) → sumN h n = sumN g n
 | 0, _ => rfl
 | n + 1, e => by rw [sumN_succ, sumN_succ, sumN_ext (fun k hk => e k (by omega)), e n (by omega)]
theorem sumN_upd {h : Nat → Nat} {i s : Nat} : ∀ {n : Nat}, i < n → sumN (updH h i s) n + h i = sumN h n + s
 | 0, e => by omega
 | n + 1, e => by
  rw [sumN_succ, sumN_succ]
  by_cases hn : i = n
  ·subst hn
   rw [sumN_ext (h := updH h i s) (g := h) (fun k hk => by unfold updH; rw [if_neg (by omega)]), show updH h i s i = s from if_pos rfl]
   omega
  ·have := sumN_upd (h := h) (s := s) (show i < n by omega)
   rw [show updH h i s n = h n from if_neg (fun e => hn e.symm)]
   omega
theorem sumN_zero {h : Nat → Nat} : ∀ {n : Nat}, (∀ k < n, h k = 0) → sumN h n = 0
 | 0, _ => rfl
 | n + 1, e => by rw [sumN_succ, sumN_zero (fun k hk => e k (by omega)), e n (by omega)]
section
variable {h : Nat → Nat} {n i : Nat}
theorem used_q (h : Nat → Nat) (n : Nat) : usedL (rowsH h n) = sumN h n := by
 unfold usedL rowsH sumN
 rw [List.map_map]
 congr 1
 apply List.map_congr_left
 intro k _
 simp
theorem rows_succ (h : Nat → Nat) (n : Nat) : rowsH h (n + 1) = rowsH h n ++ [(cN n, false, List.replicate (h n) 0)] := by unfold rowsH; rw [List.range_succ, List.map_append]; rfl
theorem rows_mem {x : Raw} (hx : x ∈ rowsH h n) : ∃ k < n, x = (cN k, false, List.replicate (h k) 0) := by
 obtain ⟨k, hk, rfl⟩ := List.mem_map.1 hx
 exact ⟨k, List.mem_range.1 hk, rfl⟩
theorem find_no (hn : n < 12) : (rowsH h n).find? (fun x => decide (x.1 = cN n)) = none := by
 rw [List.find?_eq_none]
 intro x hx
 obtain ⟨k, hk, rfl⟩ := rows_mem hx
 have : cN k ≠ cN n := fun e => by have := cN_inj hn (by omega) e; omega
 simpa using this
theorem findL_no (hn : n < 12) : findL (rowsH h n) (cN n) = (fileZ, 9) := by
 obtain ⟨_, h1, h2, h3⟩ := cN_facts ⟨n, hn⟩
 simp only at h1 h2 h3
 unfold findL
 rw [if_pos h1, h2]
 unfold findF
 rw [if_pos rfl, List.nil_append, h3, find_no hn]
theorem with_end (hn : n < 12) (b : List UInt8) : withR (rowsH h n) (cN n, false, b) = rowsH h n ++ [(cN n, false, b)] := by
 have := withR_at (l := rowsH h n) (x := (cN n, false, b)) (j := (rowsH h n).length) (Nat.le_refl _) (fun y hy => by
  rw [List.take_length] at hy
  obtain ⟨k, hk, rfl⟩ := rows_mem hy
  exact cN_cmp ⟨n, hn⟩ ⟨k, by omega⟩ hk) (fun y hy => by rw [List.getElem?_eq_none (Nat.le_refl _)] at hy; cases hy)
 rw [this, List.take_length, List.drop_length]
theorem put_q (hn : n < 12) : putL (rowsH h n) (cN n) [] = (rowsH h n ++ [(cN n, false, [])], 0) := by
 obtain ⟨_, h1, h2, h3⟩ := cN_facts ⟨n, hn⟩
 simp only at h1 h2 h3
 have hh : homeL (rowsH h n) (cN n) 16 = 0 := by
  unfold homeL
  rw [if_pos h1, h2, if_neg (by simp)]
  show (if (findL (rowsH h n) []).2 = 0 then _ else _) = _
  rw [findL_root]
  rfl
 unfold putL
 rw [if_pos hh, find_no hn]
 simp only
 rw [if_neg (by simp), if_neg (by unfold rowsH; rw [List.length_map, List.length_range]; omega), with_end hn]
theorem low_q (hn : n < 12) : lowH (hfQ n) 0 = some n := by
 unfold lowH
 rw [List.find?_eq_some_iff_getElem]
 refine ⟨?_, n, by simp; omega, by simp, fun j hj => ?_⟩
 ·unfold hfQ
  rw [if_neg (by omega)]; rfl
 ·simp only [List.getElem_range]
  unfold hfQ
  rw [if_pos (by omega)]; rfl
theorem hfQ_set (n : Nat) : setH (hfQ n) 0 ((n : Int) + 1) (some (cN n, true)) = hfQ (n + 1) := by
 funext a m
 unfold setH hfQ
 by_cases h1 : a = 0 ∧ m = (n : Int) + 1
 ·rw [if_pos h1, if_pos (by omega), show (m - 1).toNat = n by omega]
 ·rw [if_neg h1]
  by_cases h2 : a = 0 ∧ 1 ≤ m ∧ m ≤ (n : Int)
  ·rw [if_pos h2, if_pos (by omega)]
  ·rw [if_neg h2, if_neg (by omega)]
theorem open_q (hn : n < 12) (hz : h n = 0) : doS (rowsH h n) (hfQ n) 0 (qo1 n) = (⟨0, (n : Int) + 1, 0, [], []⟩, rowsH h (n + 1), hfQ (n + 1)) := by
 obtain ⟨h0, h1, h2, h3⟩ := cN_facts ⟨n, hn⟩
 simp only at h0 h1 h2 h3
 unfold doS
 rw [if_neg (by simp [qo1]), if_pos (by simp [qo1])]
 unfold openS
 rw [low_q hn]
 simp only
 rw [show (qo1 n).p = cN n from rfl, h0, if_pos rfl]
 simp only
 rw [findL_no hn, if_pos ⟨rfl, rfl⟩, put_q hn, if_pos rfl, show (qo1 n).w = true from rfl, hfQ_set, rows_succ, hz]
 rfl
theorem setD_q (hi : i < n) (hn : n ≤ 12) (s : Nat) : setD (rowsH h n) (cN i) (List.replicate s 0) = rowsH (updH h i s) n := by
 unfold setD rowsH
 rw [List.map_map]
 apply List.map_congr_left
 intro k hk
 have hk := List.mem_range.1 hk
 show (if cN k = cN i then _ else _) = _
 by_cases e : k = i
 ·subst e; rw [if_pos rfl, show updH h k s k = s from if_pos rfl]
 ·rw [if_neg (fun e2 => e (cN_inj (by omega) (by omega) e2)), show updH h i s k = h k from if_neg e]
theorem file_q (hi : i < n) (hn : n ≤ 12) : fileB (rowsH h n) (cN i) = List.replicate (h i) 0 := by
 have hnd : ((rowsH h n).map (·.1)).Nodup := by
  unfold rowsH
  rw [List.map_map]
  show List.Pairwise (· ≠ ·) _
  rw [List.pairwise_map]
  refine List.Pairwise.imp_of_mem ?_ (List.pairwise_lt_range (n := n))
  intro a b ha hb hlt e
  have ha := List.mem_range.1 ha
  have hb := List.mem_range.1 hb
  have := cN_inj (i := b) (k := a) (by omega) (by omega) e
  omega
 unfold fileB
 rw [fileD_of (d := List.replicate (h i) 0) hnd (List.mem_map.2 ⟨i, List.mem_range.2 hi, rfl⟩)]; rfl
def eQ (sum : Nat) (s : Int) : Int := if s < 0 then 2 else if 65536 < s then 3 else if 262144 < (sum : Int) + s then 7 else 0
def hQ (sum : Nat) (s : Int) : Nat := if eQ sum s = 0 then s.toNat else 0
/-- A file of a letter is given its size. -/
theorem trunc_q (hi : i < n) (hn : n ≤ 12) (h0 : h i = 0) (s : Int) : doS (rowsH h n) (hfQ n) 0 (qo2 i s) = (badS (eQ (sumN h n) s), rowsH (updH h i (hQ (sumN h n) s)) n, hfQ n) := by
 have e : doS (rowsH h n) (hfQ n) 0 (qo2 i s) = ((truncS (rowsH h n) (cN i) true (qo2 i s)).1, (truncS (rowsH h n) (cN i) true (qo2 i s)).2, hfQ n) := by
  unfold doS
  rw [if_neg (by simp [qo2]), if_neg (by simp [qo2]), if_pos (by simp [qo2])]
  unfold handleS
  have : hfQ n 0 (qo2 i s).h = some (cN i, true) := by
   show hfQ n 0 ((i : Int) + 1) = _
   unfold hfQ
   rw [if_pos (by omega), show ((i : Int) + 1 - 1).toNat = i by omega]
  rw [this]
  simp only
  rw [if_neg (by simp [qo2]), if_neg (by simp [qo2]), if_pos (by simp [qo2])]
 rw [e]
 have hu0 : updH h i 0 = h := by
  funext k
  unfold updH
  by_cases hk : k = i
  ·rw [if_pos hk, hk, h0]
  ·rw [if_neg hk]
 unfold eQ hQ truncS
 show ((if true = false ∨ s < 0 then _ else if 65536 < s then _ else _ : RsS × List Raw).1, (if true = false ∨ s < 0 then _ else if 65536 < s then _ else _ : RsS × List Raw).2, _) = _
 unfold eQ
 by_cases h1 : s < 0
 ·rw [if_pos (.inr h1), if_pos h1, if_neg (by decide), hu0]
 ·rw [if_neg (by rintro (h | h); cases h; exact h1 h), if_neg h1]
  by_cases h2 : 65536 < s
  ·rw [if_pos h2, if_pos h2, if_neg (by decide), hu0]
  ·rw [if_neg h2, if_neg h2]
   show ((sizeS _ _ (sizedB (fileB (rowsH h n) (cN i)) s.toNat) _).1, (sizeS _ _ (sizedB (fileB (rowsH h n) (cN i)) s.toNat) _).2, _) = _
   rw [file_q hi hn, h0]
   have hsz : sizedB (List.replicate 0 (0 : UInt8)) s.toNat = List.replicate s.toNat 0 := by simp [sizedB]
   rw [hsz]
   unfold sizeS
   rw [file_q hi hn, h0, used_q]
   simp only [List.length_replicate, Nat.add_zero]
   by_cases h3 : 262144 < (sumN h n : Int) + s
   ·rw [if_pos (by omega), if_pos h3, if_neg (by decide), hu0]
   ·rw [if_neg (by omega), if_neg h3, if_pos rfl, setD_q hi hn]
/-- A file of a letter is cut. -/
theorem cut_q (hi : i < n) (hn : n ≤ 12) (hu : sumN h n ≤ 262144) : doS (rowsH h n) (hfQ n) 0 (qo2 i 0) = (badS 0, rowsH (updH h i 0) n, hfQ n) := by
 have e : doS (rowsH h n) (hfQ n) 0 (qo2 i 0) = ((truncS (rowsH h n) (cN i) true (qo2 i 0)).1, (truncS (rowsH h n) (cN i) true (qo2 i 0)).2, hfQ n) := by
  unfold doS
  rw [if_neg (by simp [qo2]), if_neg (by simp [qo2]), if_pos (by simp [qo2])]
  unfold handleS
  have : hfQ n 0 (qo2 i 0).h = some (cN i, true) := by
   show hfQ n 0 ((i : Int) + 1) = _
   unfold hfQ
   rw [if_pos (by omega), show ((i : Int) + 1 - 1).toNat = i by omega]
  rw [this]
  simp only
  rw [if_neg (by simp [qo2]), if_neg (by simp [qo2]), if_pos (by simp [qo2])]
 rw [e]
 have e2 : truncS (rowsH h n) (cN i) true (qo2 i 0) = (badS 0, rowsH (updH h i 0) n) := by
  unfold truncS
  rw [if_neg (by simp [qo2]), if_neg (by simp [qo2])]
  unfold sizeS
  rw [show sizedB (fileB (rowsH h n) (cN i)) (qo2 i 0).n.toNat = List.replicate 0 0 by simp [sizedB, qo2], used_q, if_neg (by simp; omega), setD_q hi hn]
 rw [e2]
end
/-- The sizes, in memory. -/
def hC (h : Nat → Nat) : List Value := (List.range 12).map fun k => .int .i64 ((h k : Nat) : Int)
theorem hC_get (h : Nat → Nat) {i : Nat} (hi : i < 12) : (hC h)[i]? = some (.int .i64 ((h i : Nat) : Int)) := by unfold hC; rw [List.getElem?_map, List.getElem?_range hi]; rfl
theorem hC_set (h : Nat → Nat) {i s : Nat} (hi : i < 12) : (hC h).take i ++ [.int .i64 ((s : Nat) : Int)] ++ (hC h).drop (i + 1) = hC (updH h i s) := by
 have hl : i < (hC h).length := by unfold hC; rw [List.length_map, List.length_range]; exact hi
 have e : (hC h).set i (.int .i64 ((s : Nat) : Int)) = hC (updH h i s) := by
  apply List.ext_getElem?
  intro k
  rw [List.getElem?_set]
  by_cases hk : i = k
  ·subst hk; rw [if_pos rfl, if_pos hl, hC_get _ hi]; simp [updH]
  ·rw [if_neg hk]
   unfold hC
   rw [List.getElem?_map, List.getElem?_map]
   rcases Nat.lt_or_ge k 12 with hk2 | hk2
   ·rw [List.getElem?_range hk2]
    show some (Value.int .i64 ((h k : Nat) : Int)) = some (Value.int .i64 ((updH h i s k : Nat) : Int))
    rw [show updH h i s k = h k from if_neg (fun e => hk e.symm)]
   ·rw [List.getElem?_eq_none (by rw [List.length_range]; exact hk2)]; rfl
 rw [← e, List.set_eq_take_append_cons_drop, if_pos hl]
 simp
/-- Whole numbers that are given. -/
def zCs (l : List Int) : List Value := l.map fun z => .int .i64 z
abbrev ZsAt (w : World) (v : Value) (l : List Int) : Prop := Sg w v 1 l.length (zCs l)
theorem ZsAt.cell {w : World} {b off n cap j : Nat} {l : List Int} {z : Int} (h : ZsAt w (.slice (some ⟨b, off, none⟩) n cap) l) (hz : l[j]? = some z) : w.cell? ⟨b, off + j * 1, none⟩ = some (.int .i64 z) := by
 have hj : j < l.length := (List.getElem?_eq_some_iff.1 hz).1
 have h1 := Sg.sl h (by omega)
 obtain ⟨b', off', h6, h7⟩ := Sl.blk h1 hj
 cases h6; subst h7
 exact Sl.cell1 h1 (by unfold zCs; rw [List.getElem?_map, hz]; rfl)
theorem together_nil : togetherR [] = 0 := by
 unfold togetherR
 rw [if_pos (by simp), if_neg]
 rintro ⟨y, hy, _⟩
 cases hy
theorem new_nil : newS [] = ([], 0) := by
 rw [newS_0 (by rfl) ?_ (by decide)]
 ·rw [ofL_ok (firstR_zero.1 rfl) together_nil]; rfl
 ·show (ofL []).2 = 0
  rw [ofL_ok (firstR_zero.1 rfl) together_nil]; rfl
theorem made_nil : madeE [] = 0 := by
 unfold madeE
 rw [new_nil]; rfl
theorem eQ_ok {sum : Nat} {s : Int} (h1 : ¬ s < 0) (h2 : ¬ 65536 < s) (h3 : ¬ 262144 < (sum : Int) + s) : eQ sum s = 0 := by unfold eQ; rw [if_neg h1, if_neg h2, if_neg h3]
theorem hQ_no {sum : Nat} {s : Int} (h : eQ sum s ≠ 0) : hQ sum s = 0 := by unfold hQ; rw [if_neg h]
theorem hQ_ok {sum : Nat} {s : Int} (h : eQ sum s = 0) : hQ sum s = s.toNat := by unfold hQ; rw [if_pos h]
end Go.Proofs.YtigfbpbnohkokaaGreat

namespace Go.Proofs.YtigfbpbnohkokaaGreat
open Go Go.Fw Go.RowKit Go.Proofs
set_option linter.unusedVariables false
set_option linter.unusedSimpArgs false

set_option maxRecDepth 100000 in
theorem overlayQuota_c {w0 : World} {v : Value} {sz : List Int} (h : ZsAt w0 v sz) : Ret Tryz.prog 6 #[v] w0 fun r w' => r = .bool true ∧ New w0 w' := by
 have M : Sep w0 [] w0 := St.nil w0
 obtain ⟨pv, cv, rfl⟩ := Sg.shape h
 refine Ret.of_W Tryz.func6 rfl Tryz.ntmps6 rfl ?_
 refine W.seq ?_
 refine W.sub [(0, _)] ⟨rfl, trivial⟩ ?_
 refine W.reg [(0, false)] (by kernel_rfl) ?_
 intro K hK
 refine x_assign rfl rfl rfl rfl ?_
 refine Ex.done (hK _ _ ?_)
 refine At.then_n ?_
 refine W.seq ?_
 refine W.seq ?_
 refine W.sub [(0, _)] ⟨rfl, trivial⟩ ?_
 refine W.reg [(0, false), (1, false), (2, false)] (by kernel_rfl) ?_
 intro K hK
 refine x_move rfl rfl rfl rfl ?_
 refine x_len rfl rfl rfl rfl Tryz.underlying61 rfl ?_
 refine x_gtr _ rfl rfl rfl rfl rfl rfl ?_
 refine Ex.done (hK _ _ ?_)
 refine At.then_n ?_
 refine W.cond rfl (fun hco1 => ?_) (fun hco1 => ?_)
 ·try simp only [sA, sB, sC, sD, sE, sF, ne_eq, Bool.not_eq_eq_eq_not, Bool.not_true, Bool.not_false, sK, sL, Bool.not_not, gt_iff_lt, ge_iff_le] at hco1
  refine W.seq ?_
  refine W.sub [] trivial ?_
  refine W.reg [(0, true), (1, false)] (by kernel_rfl) ?_
  intro K hK
  refine x_call rfl rfl rfl rfl rfl en11 (lives19_c) ?_
  rintro r_ wcall1 ⟨rfl, hncall1⟩
  have M := M.new hncall1
  refine ⟨trivial, ?_⟩
  refine x_assign rfl rfl rfl rfl ?_
  refine Ex.done (hK _ _ ?_)
  refine At.then_n ?_
  refine W.ret ?_
  refine At.then_r ?_
  refine At.ret1 (.tmp 2) rfl ⟨rfl, trivial⟩ ?_
  exact ⟨rfl, M.frm⟩
 ·try simp only [sA, sB, sC, sD, sE, sF, ne_eq, Bool.not_eq_eq_eq_not, Bool.not_true, Bool.not_false, sK, sL, Bool.not_not, gt_iff_lt, ge_iff_le] at hco1
  refine W.skip ?_
  refine At.then_n ?_
  refine W.seq ?_
  refine W.sub [(0, _)] ⟨rfl, trivial⟩ ?_
  refine W.reg [(0, true), (1, false), (2, false), (3, false), (4, false), (5, false), (6, false), (7, false)] (by kernel_rfl) ?_
  intro K hK
  refine x_call rfl rfl rfl rfl rfl en15 (made_o (v := .slice none 0 0) (l := []) (X := []) (Lf := []) M (FilesK.old ⟨[], rfl, .inr (.inl ⟨rfl, rfl, rfl⟩), by simp⟩) (by decide)) ?_
  rintro r_ w2 ⟨po, bs, rfl, hbad, hgood⟩
  obtain ⟨I, rfl, hIb, hIs, M⟩ := hgood made_nil
  rw [new_nil] at M
  rw [made_nil]
  have M : OvW w0 [] I (rowsH (fun _ => 0) 0) (hfQ 0) w2 := by
   have e : hfQ 0 = fun _ _ => none := by funext a m; unfold hfQ; rw [if_neg (by omega)]
   rw [e]; exact M
  refine ⟨trivial, ?_⟩
  refine x_move rfl rfl rfl rfl ?_
  refine x_ext rfl rfl rfl rfl rfl ?_
  refine x_ext rfl rfl rfl rfl rfl ?_
  refine x_ext rfl rfl rfl rfl rfl ?_
  refine x_assign rfl rfl rfl rfl ?_
  refine x_assign rfl rfl rfl rfl ?_
  refine x_assign rfl rfl rfl rfl ?_
  refine Ex.done (hK _ _ ?_)
  refine At.then_n ?_
  refine W.seq ?_
  refine W.seq ?_
  refine W.sub [(0, _), (3, _), (5, _)] ⟨rfl, rfl, rfl, trivial⟩ ?_
  refine W.reg [(0, false), (1, false), (2, false), (3, false), (4, false), (5, false)] (by kernel_rfl) ?_
  intro K hK
  refine x_move rfl rfl rfl rfl ?_
  refine x_nei false rfl rfl rfl rfl rfl rfl ?_
  refine x_move rfl rfl rfl rfl ?_
  refine x_move rfl rfl rfl rfl ?_
  refine x_eqpn false rfl rfl rfl Tryz.underlying34 rfl rfl rfl ?_
  refine x_pickF rfl rfl rfl rfl rfl ?_
  refine Ex.done (hK _ _ ?_)
  refine At.then_n ?_
  refine W.condF rfl ?_
  refine W.skip ?_
  refine At.then_n ?_
  refine W.seq ?_
  refine W.sub [(0, _), (3, _)] ⟨rfl, rfl, trivial⟩ ?_
  refine W.reg [(0, false)] (by kernel_rfl) ?_
  intro K hK
  refine x_assign rfl rfl rfl rfl ?_
  refine Ex.done (hK _ _ ?_)
  refine At.then_n ?_
  refine W.seq ?_
  refine W.sub [(0, _), (3, _), (6, _)] ⟨rfl, rfl, rfl, trivial⟩ ?_
  refine W.reg [(0, true)] (by kernel_rfl) ?_
  intro K hK
  refine x_alloc [_, _, _, _, _, _, _, _, _, _, _, _] rfl rfl rfl ze62 rfl ?_
  intro bal1 wal1 hbal1 hwal1
  have M : OvW w0 ([] ++ [(bal1, .cells (hC (fun _ => 0)).toArray 62 (0, 0))]) I (rowsH (fun _ => 0) 0) (hfQ 0) wal1 := M.acons hbal1 hwal1
  refine ⟨trivial, ?_⟩
  refine Ex.done (hK _ _ ?_)
  refine At.then_n ?_
  refine W.seq ?_
  refine W.seq ?_
  refine W.sub [(0, _), (3, _), (6, _), (7, _)] ⟨rfl, rfl, rfl, rfl, trivial⟩ ?_
  refine W.reg [(0, false)] (by kernel_rfl) ?_
  intro K hK
  refine x_assign rfl rfl rfl rfl ?_
  refine Ex.done (hK _ _ ?_)
  refine At.then_n ?_
  refine W.block ?_
  refine W.loop (σ := Nat × (Nat → Nat) × List (Nat × Obj)) (fun q => [(0, _), (3, _), (6, .int .i64 ((sumN q.2.1 q.1 : Nat) : Int)), (7, _), (8, .int .i64 ((q.1 : Nat) : Int))]) (fun q w => q.1 ≤ sz.length ∧ (∀ k, q.1 ≤ k → q.2.1 k = 0) ∧ OvW w0 (q.2.2 ++ [(bal1, .cells (hC q.2.1).toArray 62 (0, 0))]) I (rowsH q.2.1 q.1) (hfQ q.1) w) (fun q => sz.length - q.1) (0, fun _ => 0, []) ⟨rfl, rfl, rfl, rfl, rfl, trivial⟩ ⟨Nat.zero_le _, fun _ _ => rfl, M⟩ ?_
  rintro ⟨i, f, X⟩ w ⟨hi, hz, M⟩
  simp only at hi hz M
  have hus := M.used
  rw [used_q] at hus
  refine W.seq ?_
  refine W.seq ?_
  refine W.sub [(0, _), (3, _), (6, _), (7, _), (8, _)] ⟨rfl, rfl, rfl, rfl, rfl, trivial⟩ ?_
  refine W.reg [(0, false), (1, false), (2, false), (3, false)] (by kernel_rfl) ?_
  intro K hK
  refine x_move rfl rfl rfl rfl ?_
  refine x_move rfl rfl rfl rfl ?_
  refine x_len rfl rfl rfl rfl Tryz.underlying61 rfl ?_
  refine x_lss _ rfl rfl rfl rfl rfl rfl ?_
  refine Ex.done (hK _ _ ?_)
  refine At.then_n ?_
  refine W.cond rfl (fun hco3 => ?_) (fun hco3 => ?_)
  ·try simp only [sA, sB, sC, sD, sE, sF, ne_eq, Bool.not_eq_eq_eq_not, Bool.not_true, Bool.not_false, sK, sL, Bool.not_not, gt_iff_lt, ge_iff_le] at hco3
   obtain ⟨z, hzz⟩ := get_lt (l := sz) (q := i) (by omega)
   have hi12 : i < 12 := by have := (List.getElem?_eq_some_iff.1 hzz).1; omega
   obtain ⟨bb, off, hpv, _⟩ := Sg.blk h (j := i) (by omega)
   subst hpv
   refine W.skip ?_
   refine At.then_n ?_
   refine W.seq ?_
   refine W.block ?_
   refine W.seq ?_
   refine W.sub [(0, _), (3, _), (6, _), (7, _), (8, _)] ⟨rfl, rfl, rfl, rfl, rfl, trivial⟩ ?_
   refine W.reg [(0, false), (1, false), (2, false), (3, true), (4, false), (5, false)] (by kernel_rfl) ?_
   intro K hK
   refine x_move rfl rfl rfl rfl ?_
   refine x_cvi _ rfl rfl rfl Tryz.underlying3 Tryz.underlying5 rfl rfl ?_
   refine x_add ((cB i).toNat : Int) rfl rfl rfl rfl rfl (byte_at hi12) ?_
   refine x_bs1 (cs := [byteV (cB i)]) rfl rfl rfl Tryz.underlying27 sz5 ze5 (Z := [_]) rfl rfl (by decide) (by decide) rfl rfl rfl ?_
   intro bbs1 wbs1 hbbs1 hwbs1
   have M := M.acons hbbs1 hwbs1
   have hcn : BytesAt wbs1 (.slice (some ⟨bbs1, 0, none⟩) 1 1) (cN i) := .inr (.inr ⟨bbs1, 0, 1, _, _, _, rfl, Nat.le_refl _, M.at_ 0 rfl, rfl, rfl⟩)
   have M := M.tail
   refine ⟨trivial, ?_⟩
   refine x_cvbs _ rfl rfl rfl Tryz.underlying27 Tryz.underlying5 Tryz.underlying9 rfl (strOf_bytes hcn) ?_
   refine x_assign rfl rfl rfl rfl ?_
   refine Ex.done (hK _ _ ?_)
   refine At.then_n ?_
   refine W.seq ?_
   refine W.sub [(0, _), (3, _), (6, _), (7, _), (8, _), (9, _)] ⟨rfl, rfl, rfl, rfl, rfl, rfl, trivial⟩ ?_
   refine W.reg [(0, false), (1, false), (2, false), (3, true), (4, false), (5, false)] (by kernel_rfl) ?_
   intro K hK
   refine x_move rfl rfl rfl rfl ?_
   refine x_move rfl rfl rfl rfl ?_
   refine x_build [_, _, _, _, _, _, _, _, _] rfl rfl rfl pl52 ze52 rfl rfl rfl ?_
   refine x_call rfl rfl rfl rfl rfl en16 (do_e (who := 0) (o := qo1 i) (dv := .slice none 0 0) M (fun _ _ _ _ => .inr (.inl ⟨rfl, rfl, rfl⟩)) (open_q hi12 (hz i (Nat.le_refl _)))) ?_
   rintro r_ wcall3 ⟨pcall3, ccall3, qcall3, dcall3, ncall3, Lacall3, Lbcall3, rfl, hbcall3, hscall3, M⟩
   refine ⟨trivial, ?_⟩
   refine x_fd (k := 1) rfl rfl rfl (by kernel_rfl) rfl rfl ?_
   refine x_assign rfl rfl rfl rfl ?_
   refine Ex.done (hK _ _ ?_)
   refine At.then_n ?_
   refine W.seq ?_
   refine W.sub [(0, _), (3, _), (6, _), (7, _), (8, _), (10, _)] ⟨rfl, rfl, rfl, rfl, rfl, rfl, trivial⟩ ?_
   refine W.reg [(0, false), (1, false), (2, false), (3, false), (4, false), (5, false), (6, false), (7, true), (8, true), (9, true)] (by kernel_rfl) ?_
   intro K hK
   refine x_move rfl rfl rfl rfl ?_
   refine x_move rfl rfl rfl rfl ?_
   refine x_move rfl rfl rfl rfl ?_
   refine x_move rfl rfl rfl rfl ?_
   refine x_ia i rfl rfl rfl Tryz.underlying61 sz3 rfl rfl rfl (by omega) ?_
   refine x_ld rfl rfl rfl Tryz.underlying3 rfl rfl (ZsAt.cell (h.new M.frm) hzz) ?_
   refine x_build [_, _, _, _, _, _, _, _, _] rfl rfl rfl pl52 ze52 rfl rfl rfl ?_
   refine x_call rfl rfl rfl rfl rfl en16 (do_e (who := 0) (o := qo2 i z) (dv := .slice none 0 0) M (fun _ _ _ _ => .inr (.inl ⟨rfl, rfl, rfl⟩)) (trunc_q (i := i) (n := i + 1) (by omega) (by omega) (hz i (Nat.le_refl _)) z)) ?_
   rintro r_ wcall4 ⟨pcall4, ccall4, qcall4, dcall4, ncall4, Lacall4, Lbcall4, rfl, hbcall4, hscall4, M⟩
   have hsum : sumN f (i + 1) = sumN f i := by rw [sumN_succ, hz i (Nat.le_refl _), Nat.add_zero]
   rw [hsum] at M
   rw [hsum]
   refine ⟨trivial, ?_⟩
   refine x_alloc [_, _, _, _, _] rfl rfl rfl ze49 rfl ?_
   intro bal2 wal2 hbal2 hwal2
   have M := M.acons hbal2 hwal2
   refine ⟨trivial, ?_⟩
   refine x_st [_, _, _, _, _] _ rfl rfl rfl sz49 rfl rfl rfl rfl (by first | exact M.at_ 0 rfl | exact M.at_ 1 rfl | exact M.at_ 2 rfl | exact M.at_ 3 rfl | exact M.at_ 4 rfl | exact M.at_ 5 rfl | exact M.at_ 6 rfl | exact M.at_ 7 rfl) rfl rfl rfl ?_
   intro wst1 hwst1
   have M := by first | exact M.put 0 rfl hwst1 | exact M.put 1 rfl hwst1 | exact M.put 2 rfl hwst1 | exact M.put 3 rfl hwst1 | exact M.put 4 rfl hwst1 | exact M.put 5 rfl hwst1 | exact M.put 6 rfl hwst1 | exact M.put 7 rfl hwst1
   refine ⟨trivial, ?_⟩
   refine Ex.done (hK _ _ ?_)
   refine At.then_n ?_
   refine W.seq ?_
   refine W.block ?_
   refine W.seq ?_
   refine W.sub [(0, _), (3, _), (6, _), (7, _), (8, _), (11, _)] ⟨rfl, rfl, rfl, rfl, rfl, rfl, trivial⟩ ?_
   refine W.reg [(0, false), (1, false), (2, false), (3, false), (4, false), (5, false)] (by kernel_rfl) ?_
   intro K hK
   refine x_move rfl rfl rfl rfl ?_
   refine x_move rfl rfl rfl rfl ?_
   refine x_ia i rfl rfl rfl Tryz.underlying61 sz3 rfl rfl rfl (by omega) ?_
   refine x_ld rfl rfl rfl Tryz.underlying3 rfl rfl (ZsAt.cell (h.new M.frm) hzz) ?_
   refine x_lss _ rfl rfl rfl rfl rfl rfl ?_
   refine x_assign rfl rfl rfl rfl ?_
   refine Ex.done (hK _ _ ?_)
   refine At.then_n ?_
   refine W.cond rfl (fun hco4 => ?_) (fun hco4 => ?_)
   ·try simp only [sA, sB, sC, sD, sE, sF, ne_eq, Bool.not_eq_eq_eq_not, Bool.not_true, Bool.not_false, sK, sL, Bool.not_not, gt_iff_lt, ge_iff_le] at hco4
    have he : eQ (sumN f i) z = 2 := by unfold eQ; rw [if_pos hco4]
    have hgf : updH f i (hQ (sumN f i) z) = f := by
     funext k
     unfold updH
     by_cases hk : k = i
     ·rw [if_pos hk, hQ_no (by rw [he]; decide), hk, hz i (Nat.le_refl _)]
     ·rw [if_neg hk]
    rw [hgf] at M
    refine W.seq ?_
    refine W.sub [(0, _), (3, _), (6, _), (7, _), (8, _), (11, _)] ⟨rfl, rfl, rfl, rfl, rfl, rfl, trivial⟩ ?_
    refine W.reg [(0, false), (1, false), (2, false)] (by kernel_rfl) ?_
    intro K hK
    refine x_fa rfl rfl rfl fo49_0 rfl ?_
    refine x_ld rfl rfl rfl Tryz.underlying35 rfl rfl (cell_of (by first | exact M.at_ 0 rfl | exact M.at_ 1 rfl | exact M.at_ 2 rfl | exact M.at_ 3 rfl | exact M.at_ 4 rfl | exact M.at_ 5 rfl | exact M.at_ 6 rfl | exact M.at_ 7 rfl) rfl) ?_
    refine x_nei false rfl rfl rfl rfl rfl (by rw [he]; rfl) ?_
    refine Ex.done (hK _ _ ?_)
    refine At.then_n ?_
    refine W.condF rfl ?_
    refine W.skip ?_
    refine At.blk_n ?_
    refine At.then_n ?_
    refine W.seq ?_
    refine W.sub [(0, _), (3, _), (6, _), (7, _), (8, _)] ⟨rfl, rfl, rfl, rfl, rfl, trivial⟩ ?_
    refine W.reg [(0, false), (1, true), (2, false), (3, false)] (by kernel_rfl) ?_
    intro K hK
    refine x_move rfl rfl rfl rfl ?_
    refine x_call rfl rfl rfl rfl rfl en18 (used_o M) ?_
    rintro r_ wcall5 ⟨rfl, rfl⟩
    refine ⟨trivial, ?_⟩
    refine x_move rfl rfl rfl rfl ?_
    refine x_nei false rfl rfl rfl rfl rfl (by rw [used_q, hsum]; simp) ?_
    refine Ex.done (hK _ _ ?_)
    refine At.then_n ?_
    refine W.condF rfl ?_
    refine W.skip ?_
    refine At.blk_n ?_
    refine At.then_n ?_
    refine W.sub [(0, _), (3, _), (6, _), (7, _), (8, _)] ⟨rfl, rfl, rfl, rfl, rfl, trivial⟩ ?_
    refine W.reg [(0, false), (1, false), (2, false)] (by kernel_rfl) ?_
    intro K hK
    refine x_move rfl rfl rfl rfl ?_
    refine x_add _ rfl rfl rfl rfl rfl (wadd (by omega) (by omega)) ?_
    refine x_assign rfl rfl rfl rfl ?_
    refine Ex.done (hK _ _ ?_)
    exact At.back ((i + 1, f, _)) ⟨rfl, rfl, (by show _ = some (Value.int .i64 ((sumN f (i + 1) : Nat) : Int)); rw [hsum]; rfl), rfl, rfl, trivial⟩ ⟨by simp only; omega, fun k hk => hz k (by simp only at hk; omega), M.tail.dropL.dropL.dropL.dropL⟩ (by first | omega | (simp only; omega) | (simp; done) | (simp; omega))
   ·try simp only [sA, sB, sC, sD, sE, sF, ne_eq, Bool.not_eq_eq_eq_not, Bool.not_true, Bool.not_false, sK, sL, Bool.not_not, gt_iff_lt, ge_iff_le] at hco4
    refine W.seq ?_
    refine W.sub [(0, _), (3, _), (6, _), (7, _), (8, _), (11, _)] ⟨rfl, rfl, rfl, rfl, rfl, rfl, trivial⟩ ?_
    refine W.reg [(0, false), (1, false), (2, false), (3, false), (4, false), (5, false)] (by kernel_rfl) ?_
    intro K hK
    refine x_move rfl rfl rfl rfl ?_
    refine x_move rfl rfl rfl rfl ?_
    refine x_ia i rfl rfl rfl Tryz.underlying61 sz3 rfl rfl rfl (by omega) ?_
    refine x_ld rfl rfl rfl Tryz.underlying3 rfl rfl (ZsAt.cell (h.new M.frm) hzz) ?_
    refine x_gtr _ rfl rfl rfl rfl rfl rfl ?_
    refine x_assign rfl rfl rfl rfl ?_
    refine Ex.done (hK _ _ ?_)
    refine At.then_n ?_
    refine W.cond rfl (fun hco7 => ?_) (fun hco7 => ?_)
    ·try simp only [sA, sB, sC, sD, sE, sF, ne_eq, Bool.not_eq_eq_eq_not, Bool.not_true, Bool.not_false, sK, sL, Bool.not_not, gt_iff_lt, ge_iff_le] at hco7
     have he : eQ (sumN f i) z = 3 := by unfold eQ; rw [if_neg hco4, if_pos hco7]
     have hgf : updH f i (hQ (sumN f i) z) = f := by
      funext k
      unfold updH
      by_cases hk : k = i
      ·rw [if_pos hk, hQ_no (by rw [he]; decide), hk, hz i (Nat.le_refl _)]
      ·rw [if_neg hk]
     rw [hgf] at M
     refine W.seq ?_
     refine W.sub [(0, _), (3, _), (6, _), (7, _), (8, _), (11, _)] ⟨rfl, rfl, rfl, rfl, rfl, rfl, trivial⟩ ?_
     refine W.reg [(0, false), (1, false), (2, false)] (by kernel_rfl) ?_
     intro K hK
     refine x_fa rfl rfl rfl fo49_0 rfl ?_
     refine x_ld rfl rfl rfl Tryz.underlying35 rfl rfl (cell_of (by first | exact M.at_ 0 rfl | exact M.at_ 1 rfl | exact M.at_ 2 rfl | exact M.at_ 3 rfl | exact M.at_ 4 rfl | exact M.at_ 5 rfl | exact M.at_ 6 rfl | exact M.at_ 7 rfl) rfl) ?_
     refine x_nei false rfl rfl rfl rfl rfl (by rw [he]; rfl) ?_
     refine Ex.done (hK _ _ ?_)
     refine At.then_n ?_
     refine W.condF rfl ?_
     refine W.skip ?_
     refine At.blk_n ?_
     refine At.then_n ?_
     refine W.seq ?_
     refine W.sub [(0, _), (3, _), (6, _), (7, _), (8, _)] ⟨rfl, rfl, rfl, rfl, rfl, trivial⟩ ?_
     refine W.reg [(0, false), (1, true), (2, false), (3, false)] (by kernel_rfl) ?_
     intro K hK
     refine x_move rfl rfl rfl rfl ?_
     refine x_call rfl rfl rfl rfl rfl en18 (used_o M) ?_
     rintro r_ wcall6 ⟨rfl, rfl⟩
     refine ⟨trivial, ?_⟩
     refine x_move rfl rfl rfl rfl ?_
     refine x_nei false rfl rfl rfl rfl rfl (by rw [used_q, hsum]; simp) ?_
     refine Ex.done (hK _ _ ?_)
     refine At.then_n ?_
     refine W.condF rfl ?_
     refine W.skip ?_
     refine At.blk_n ?_
     refine At.then_n ?_
     refine W.sub [(0, _), (3, _), (6, _), (7, _), (8, _)] ⟨rfl, rfl, rfl, rfl, rfl, trivial⟩ ?_
     refine W.reg [(0, false), (1, false), (2, false)] (by kernel_rfl) ?_
     intro K hK
     refine x_move rfl rfl rfl rfl ?_
     refine x_add _ rfl rfl rfl rfl rfl (wadd (by omega) (by omega)) ?_
     refine x_assign rfl rfl rfl rfl ?_
     refine Ex.done (hK _ _ ?_)
     exact At.back ((i + 1, f, _)) ⟨rfl, rfl, (by show _ = some (Value.int .i64 ((sumN f (i + 1) : Nat) : Int)); rw [hsum]; rfl), rfl, rfl, trivial⟩ ⟨by simp only; omega, fun k hk => hz k (by simp only at hk; omega), M.tail.dropL.dropL.dropL.dropL⟩ (by first | omega | (simp only; omega) | (simp; done) | (simp; omega))
    ·try simp only [sA, sB, sC, sD, sE, sF, ne_eq, Bool.not_eq_eq_eq_not, Bool.not_true, Bool.not_false, sK, sL, Bool.not_not, gt_iff_lt, ge_iff_le] at hco7
     refine W.seq ?_
     refine W.sub [(0, _), (3, _), (6, _), (7, _), (8, _), (11, _)] ⟨rfl, rfl, rfl, rfl, rfl, rfl, trivial⟩ ?_
     refine W.reg [(0, false), (1, false), (2, false), (3, false), (4, false), (5, false), (6, false), (7, false)] (by kernel_rfl) ?_
     intro K hK
     refine x_move rfl rfl rfl rfl ?_
     refine x_move rfl rfl rfl rfl ?_
     refine x_move rfl rfl rfl rfl ?_
     refine x_ia i rfl rfl rfl Tryz.underlying61 sz3 rfl rfl rfl (by omega) ?_
     refine x_ld rfl rfl rfl Tryz.underlying3 rfl rfl (ZsAt.cell (h.new M.frm) hzz) ?_
     refine x_add _ rfl rfl rfl rfl rfl (by simp only; exact wadd (by omega) (by omega)) ?_
     refine x_gtr _ rfl rfl rfl rfl rfl rfl ?_
     refine x_assign rfl rfl rfl rfl ?_
     refine Ex.done (hK _ _ ?_)
     refine At.then_n ?_
     refine W.cond rfl (fun hco10 => ?_) (fun hco10 => ?_)
     ·try simp only [sA, sB, sC, sD, sE, sF, ne_eq, Bool.not_eq_eq_eq_not, Bool.not_true, Bool.not_false, sK, sL, Bool.not_not, gt_iff_lt, ge_iff_le] at hco10
      have he : eQ (sumN f i) z = 7 := by unfold eQ; rw [if_neg hco4, if_neg hco7, if_pos hco10]
      have hgf : updH f i (hQ (sumN f i) z) = f := by
       funext k
       unfold updH
       by_cases hk : k = i
       ·rw [if_pos hk, hQ_no (by rw [he]; decide), hk, hz i (Nat.le_refl _)]
       ·rw [if_neg hk]
      rw [hgf] at M
      refine W.seq ?_
      refine W.sub [(0, _), (3, _), (6, _), (7, _), (8, _), (11, _)] ⟨rfl, rfl, rfl, rfl, rfl, rfl, trivial⟩ ?_
      refine W.reg [(0, false), (1, false), (2, false)] (by kernel_rfl) ?_
      intro K hK
      refine x_fa rfl rfl rfl fo49_0 rfl ?_
      refine x_ld rfl rfl rfl Tryz.underlying35 rfl rfl (cell_of (by first | exact M.at_ 0 rfl | exact M.at_ 1 rfl | exact M.at_ 2 rfl | exact M.at_ 3 rfl | exact M.at_ 4 rfl | exact M.at_ 5 rfl | exact M.at_ 6 rfl | exact M.at_ 7 rfl) rfl) ?_
      refine x_nei false rfl rfl rfl rfl rfl (by rw [he]; rfl) ?_
      refine Ex.done (hK _ _ ?_)
      refine At.then_n ?_
      refine W.condF rfl ?_
      refine W.skip ?_
      refine At.blk_n ?_
      refine At.then_n ?_
      refine W.seq ?_
      refine W.sub [(0, _), (3, _), (6, _), (7, _), (8, _)] ⟨rfl, rfl, rfl, rfl, rfl, trivial⟩ ?_
      refine W.reg [(0, false), (1, true), (2, false), (3, false)] (by kernel_rfl) ?_
      intro K hK
      refine x_move rfl rfl rfl rfl ?_
      refine x_call rfl rfl rfl rfl rfl en18 (used_o M) ?_
      rintro r_ wcall7 ⟨rfl, rfl⟩
      refine ⟨trivial, ?_⟩
      refine x_move rfl rfl rfl rfl ?_
      refine x_nei false rfl rfl rfl rfl rfl (by rw [used_q, hsum]; simp) ?_
      refine Ex.done (hK _ _ ?_)
      refine At.then_n ?_
      refine W.condF rfl ?_
      refine W.skip ?_
      refine At.blk_n ?_
      refine At.then_n ?_
      refine W.sub [(0, _), (3, _), (6, _), (7, _), (8, _)] ⟨rfl, rfl, rfl, rfl, rfl, trivial⟩ ?_
      refine W.reg [(0, false), (1, false), (2, false)] (by kernel_rfl) ?_
      intro K hK
      refine x_move rfl rfl rfl rfl ?_
      refine x_add _ rfl rfl rfl rfl rfl (wadd (by omega) (by omega)) ?_
      refine x_assign rfl rfl rfl rfl ?_
      refine Ex.done (hK _ _ ?_)
      exact At.back ((i + 1, f, _)) ⟨rfl, rfl, (by show _ = some (Value.int .i64 ((sumN f (i + 1) : Nat) : Int)); rw [hsum]; rfl), rfl, rfl, trivial⟩ ⟨by simp only; omega, fun k hk => hz k (by simp only at hk; omega), M.tail.dropL.dropL.dropL.dropL⟩ (by first | omega | (simp only; omega) | (simp; done) | (simp; omega))
     ·try simp only [sA, sB, sC, sD, sE, sF, ne_eq, Bool.not_eq_eq_eq_not, Bool.not_true, Bool.not_false, sK, sL, Bool.not_not, gt_iff_lt, ge_iff_le] at hco10
      obtain ⟨zn, rfl⟩ : ∃ m : Nat, z = (m : Int) := ⟨z.toNat, by omega⟩
      have he := eQ_ok hco4 hco7 hco10
      rw [hQ_ok he, Int.toNat_natCast] at M
      have hgs : sumN (updH f i zn) (i + 1) = sumN f i + zn := by
       have := sumN_upd (h := f) (i := i) (s := zn) (n := i + 1) (by omega)
       rw [hsum, hz i (Nat.le_refl _)] at this; omega
      refine W.seq ?_
      refine W.seq ?_
      refine W.sub [(0, _), (3, _), (6, _), (7, _), (8, _), (11, _)] ⟨rfl, rfl, rfl, rfl, rfl, rfl, trivial⟩ ?_
      refine W.reg [(0, false), (1, false), (2, false)] (by kernel_rfl) ?_
      intro K hK
      refine x_fa rfl rfl rfl fo49_0 rfl ?_
      refine x_ld rfl rfl rfl Tryz.underlying35 rfl rfl (cell_of (by first | exact M.at_ 0 rfl | exact M.at_ 1 rfl | exact M.at_ 2 rfl | exact M.at_ 3 rfl | exact M.at_ 4 rfl | exact M.at_ 5 rfl | exact M.at_ 6 rfl | exact M.at_ 7 rfl) rfl) ?_
      refine x_nei false rfl rfl rfl rfl rfl (by rw [he]; rfl) ?_
      refine Ex.done (hK _ _ ?_)
      refine At.then_n ?_
      refine W.condF rfl ?_
      refine W.skip ?_
      refine At.then_n ?_
      refine W.seq ?_
      refine W.sub [(0, _), (3, _), (6, _), (7, _), (8, _)] ⟨rfl, rfl, rfl, rfl, rfl, trivial⟩ ?_
      refine W.reg [(0, false), (1, false), (2, false), (3, false), (4, false), (5, false), (6, true)] (by kernel_rfl) ?_
      intro K hK
      refine x_move rfl rfl rfl rfl ?_
      refine x_move rfl rfl rfl rfl ?_
      refine x_move rfl rfl rfl rfl ?_
      refine x_ia i rfl rfl rfl Tryz.underlying61 sz3 rfl rfl rfl (by omega) ?_
      refine x_ld rfl rfl rfl Tryz.underlying3 rfl rfl (ZsAt.cell (h.new M.frm) hzz) ?_
      refine x_iaA i rfl rfl rfl Tryz.underlying62 sz3 rfl rfl rfl (by omega) ?_
      refine x_st [_] _ rfl rfl rfl sz3 rfl rfl rfl rfl (M.get (x := (bal1, .cells (hC f).toArray 62 (0, 0))) (by simp)) rfl (Nat.ble_eq_true_of_le (by show 0 + i * 1 + 1 ≤ 12; omega)) rfl ?_
      intro wst2 hwst2
      have M : OvW w0 ((bal1, .cells (hC f).toArray 62 (0, 0)) :: X) I (rowsH (updH f i zn) (i + 1)) (hfQ (i + 1)) _ := M.tail.dropL.dropL.dropL.dropL.perm (perm_c fun p => by simp only [List.countP_append, List.countP_cons, List.countP_nil]; omega)
      have M : OvW w0 ((bal1, .cells (((hC f).take (0 + i * 1) ++ [Value.int .i64 ((zn : Nat) : Int)] ++ (hC f).drop (0 + i * 1 + 1))).toArray 62 (0, 0)) :: X) I (rowsH (updH f i zn) (i + 1)) (hfQ (i + 1)) wst2 := M.put 0 rfl hwst2
      rw [Nat.zero_add, Nat.mul_one, hC_set f hi12] at M
      have M : OvW w0 (X ++ [(bal1, .cells (hC (updH f i zn)).toArray 62 (0, 0))]) I (rowsH (updH f i zn) (i + 1)) (hfQ (i + 1)) wst2 := M.perm (perm_c fun p => by simp only [List.countP_append, List.countP_cons, List.countP_nil]; omega)
      refine ⟨trivial, ?_⟩
      refine Ex.done (hK _ _ ?_)
      refine At.then_n ?_
      refine W.sub [(0, _), (3, _), (6, _), (7, _), (8, _)] ⟨rfl, rfl, rfl, rfl, rfl, trivial⟩ ?_
      refine W.reg [(0, false), (1, false), (2, false), (3, false), (4, false), (5, false), (6, false)] (by kernel_rfl) ?_
      intro K hK
      refine x_move rfl rfl rfl rfl ?_
      refine x_move rfl rfl rfl rfl ?_
      refine x_move rfl rfl rfl rfl ?_
      refine x_ia i rfl rfl rfl Tryz.underlying61 sz3 rfl rfl rfl (by omega) ?_
      refine x_ld rfl rfl rfl Tryz.underlying3 rfl rfl (ZsAt.cell (h.new M.frm) hzz) ?_
      refine x_add ((sumN f i + zn : Nat) : Int) rfl rfl rfl rfl rfl (by simp only; rw [wadd (by omega) (by omega)]; omega) ?_
      refine x_assign rfl rfl rfl rfl ?_
      refine Ex.done (hK _ _ ?_)
      refine At.blk_n ?_
      refine At.then_n ?_
      refine W.seq ?_
      refine W.sub [(0, _), (3, _), (6, _), (7, _), (8, _)] ⟨rfl, rfl, rfl, rfl, rfl, trivial⟩ ?_
      refine W.reg [(0, false), (1, true), (2, false), (3, false)] (by kernel_rfl) ?_
      intro K hK
      refine x_move rfl rfl rfl rfl ?_
      refine x_call rfl rfl rfl rfl rfl en18 (used_o M) ?_
      rintro r_ wcall8 ⟨rfl, rfl⟩
      refine ⟨trivial, ?_⟩
      refine x_move rfl rfl rfl rfl ?_
      refine x_nei false rfl rfl rfl rfl rfl (by rw [used_q, hgs]; simp) ?_
      refine Ex.done (hK _ _ ?_)
      refine At.then_n ?_
      refine W.condF rfl ?_
      refine W.skip ?_
      refine At.blk_n ?_
      refine At.then_n ?_
      refine W.sub [(0, _), (3, _), (6, _), (7, _), (8, _)] ⟨rfl, rfl, rfl, rfl, rfl, trivial⟩ ?_
      refine W.reg [(0, false), (1, false), (2, false)] (by kernel_rfl) ?_
      intro K hK
      refine x_move rfl rfl rfl rfl ?_
      refine x_add _ rfl rfl rfl rfl rfl (wadd (by omega) (by omega)) ?_
      refine x_assign rfl rfl rfl rfl ?_
      refine Ex.done (hK _ _ ?_)
      exact At.back ((i + 1, updH f i zn, X)) ⟨rfl, rfl, (by show _ = some (Value.int .i64 ((sumN (updH f i zn) (i + 1) : Nat) : Int)); rw [hgs]; rfl), rfl, rfl, trivial⟩ ⟨by simp only; omega, fun k hk => by simp only at hk ⊢; unfold updH; rw [if_neg (by omega)]; exact hz k (by omega), M⟩ (by first | omega | (simp only; omega) | (simp; done) | (simp; omega))
  ·try simp only [sA, sB, sC, sD, sE, sF, ne_eq, Bool.not_eq_eq_eq_not, Bool.not_true, Bool.not_false, sK, sL, Bool.not_not, gt_iff_lt, ge_iff_le] at hco3
   have hin : i = sz.length := by omega
   subst hin
   refine W.exit ?_
   refine At.then_x ?_
   refine At.loop_x ?_
   refine At.blk_x ?_
   refine At.then_n ?_
   refine W.seq ?_
   refine W.seq ?_
   refine W.sub [(0, _), (3, _), (6, _), (7, _)] ⟨rfl, rfl, rfl, rfl, trivial⟩ ?_
   refine W.reg [(0, false)] (by kernel_rfl) ?_
   intro K hK
   refine x_assign rfl rfl rfl rfl ?_
   refine Ex.done (hK _ _ ?_)
   refine At.then_n ?_
   refine W.block ?_
   refine W.loop (σ := Nat × (Nat → Nat) × List (Nat × Obj)) (fun q => [(0, _), (3, _), (6, .int .i64 ((sumN q.2.1 sz.length : Nat) : Int)), (7, _), (12, .int .i64 ((q.1 : Nat) : Int))]) (fun q w => q.1 ≤ sz.length ∧ (∀ k, k < q.1 → q.2.1 k = 0) ∧ (∀ k, q.1 ≤ k → q.2.1 k = f k) ∧ OvW w0 (q.2.2 ++ [(bal1, .cells (hC f).toArray 62 (0, 0))]) I (rowsH q.2.1 sz.length) (hfQ sz.length) w) (fun q => sz.length - q.1) (0, f, X) ⟨rfl, rfl, rfl, rfl, rfl, trivial⟩ ⟨Nat.zero_le _, by simp, fun _ _ => rfl, M⟩ ?_
   rintro ⟨i, g, X⟩ w ⟨hi, hz1, hz2, M⟩
   simp only at hi hz1 hz2 M
   have hus := M.used
   rw [used_q] at hus
   refine W.seq ?_
   refine W.seq ?_
   refine W.sub [(0, _), (3, _), (6, _), (7, _), (12, _)] ⟨rfl, rfl, rfl, rfl, rfl, trivial⟩ ?_
   refine W.reg [(0, false), (1, false), (2, false), (3, false)] (by kernel_rfl) ?_
   intro K hK
   refine x_move rfl rfl rfl rfl ?_
   refine x_move rfl rfl rfl rfl ?_
   refine x_len rfl rfl rfl rfl Tryz.underlying61 rfl ?_
   refine x_lss _ rfl rfl rfl rfl rfl rfl ?_
   refine Ex.done (hK _ _ ?_)
   refine At.then_n ?_
   refine W.cond rfl (fun hco15 => ?_) (fun hco15 => ?_)
   ·try simp only [sA, sB, sC, sD, sE, sF, ne_eq, Bool.not_eq_eq_eq_not, Bool.not_true, Bool.not_false, sK, sL, Bool.not_not, gt_iff_lt, ge_iff_le] at hco15
    have hcut := cut_q (h := g) (i := i) (n := sz.length) (by omega) (by omega) hus
    have hgu : sumN (updH g i 0) sz.length + f i = sumN g sz.length := by
     have := sumN_upd (h := g) (i := i) (s := 0) (n := sz.length) (by omega)
     rw [hz2 i (Nat.le_refl _)] at this; omega
    refine W.skip ?_
    refine At.then_n ?_
    refine W.seq ?_
    refine W.block ?_
    refine W.seq ?_
    refine W.sub [(0, _), (3, _), (6, _), (7, _), (12, _)] ⟨rfl, rfl, rfl, rfl, rfl, trivial⟩ ?_
    refine W.reg [(0, false), (1, false), (2, false), (3, false), (4, true)] (by kernel_rfl) ?_
    intro K hK
    refine x_move rfl rfl rfl rfl ?_
    refine x_move rfl rfl rfl rfl ?_
    refine x_add _ rfl rfl rfl rfl rfl (wadd (by omega) (by omega)) ?_
    refine x_build [_, _, _, _, _, _, _, _, _] rfl rfl rfl pl52 ze52 rfl rfl rfl ?_
    refine x_call rfl rfl rfl rfl rfl en16 (do_e (who := 0) (o := qo2 i 0) (dv := .slice none 0 0) M (fun _ _ _ _ => .inr (.inl ⟨rfl, rfl, rfl⟩)) hcut) ?_
    rintro r_ wcall9 ⟨pcall9, ccall9, qcall9, dcall9, ncall9, Lacall9, Lbcall9, rfl, hbcall9, hscall9, M⟩
    refine ⟨trivial, ?_⟩
    refine Ex.done (hK _ _ ?_)
    refine At.then_n ?_
    refine W.seq ?_
    refine W.sub [(0, _), (3, _), (6, _), (7, _), (12, _)] ⟨rfl, rfl, rfl, rfl, rfl, trivial⟩ ?_
    refine W.reg [(0, false), (1, false), (2, false), (3, false), (4, false), (5, false)] (by kernel_rfl) ?_
    intro K hK
    refine x_move rfl rfl rfl rfl ?_
    refine x_move rfl rfl rfl rfl ?_
    refine x_iaA i rfl rfl rfl Tryz.underlying62 sz3 rfl rfl rfl (by omega) ?_
    refine x_ld rfl rfl rfl Tryz.underlying3 rfl rfl (cell_of (M.get (x := (bal1, .cells (hC f).toArray 62 (0, 0))) (by simp)) (by rw [Nat.zero_add, Nat.mul_one]; exact hC_get f (by omega))) ?_
    refine x_sub ((sumN (updH g i 0) sz.length : Nat) : Int) rfl rfl rfl rfl rfl (by simp only; rw [wsub (by omega) (by omega)]; omega) ?_
    refine x_assign rfl rfl rfl rfl ?_
    refine Ex.done (hK _ _ ?_)
    refine At.then_n ?_
    refine W.seq ?_
    refine W.sub [(0, _), (3, _), (6, _), (7, _), (12, _)] ⟨rfl, rfl, rfl, rfl, rfl, trivial⟩ ?_
    refine W.reg [(0, false), (1, true), (2, false), (3, false)] (by kernel_rfl) ?_
    intro K hK
    refine x_move rfl rfl rfl rfl ?_
    refine x_call rfl rfl rfl rfl rfl en18 (used_o M) ?_
    rintro r_ wcall10 ⟨rfl, rfl⟩
    refine ⟨trivial, ?_⟩
    refine x_move rfl rfl rfl rfl ?_
    refine x_nei false rfl rfl rfl rfl rfl (by rw [used_q]; simp) ?_
    refine Ex.done (hK _ _ ?_)
    refine At.then_n ?_
    refine W.condF rfl ?_
    refine W.skip ?_
    refine At.blk_n ?_
    refine At.then_n ?_
    refine W.sub [(0, _), (3, _), (6, _), (7, _), (12, _)] ⟨rfl, rfl, rfl, rfl, rfl, trivial⟩ ?_
    refine W.reg [(0, false), (1, false), (2, false)] (by kernel_rfl) ?_
    intro K hK
    refine x_move rfl rfl rfl rfl ?_
    refine x_add _ rfl rfl rfl rfl rfl (wadd (by omega) (by omega)) ?_
    refine x_assign rfl rfl rfl rfl ?_
    refine Ex.done (hK _ _ ?_)
    exact At.back ((i + 1, updH g i 0, X)) ⟨rfl, rfl, rfl, rfl, rfl, trivial⟩ ⟨by simp only; omega, fun k hk => by simp only at hk ⊢; unfold updH; by_cases e : k = i; rw [if_pos e]; rw [if_neg e]; exact hz1 k (by omega), fun k hk => by simp only at hk ⊢; unfold updH; rw [if_neg (by omega)]; exact hz2 k (by omega), M.dropL.dropL⟩ (by first | omega | (simp only; omega) | (simp; done) | (simp; omega))
   ·try simp only [sA, sB, sC, sD, sE, sF, ne_eq, Bool.not_eq_eq_eq_not, Bool.not_true, Bool.not_false, sK, sL, Bool.not_not, gt_iff_lt, ge_iff_le] at hco15
    have hin : i = sz.length := by omega
    subst hin
    rw [sumN_zero hz1]
    refine W.exit ?_
    refine At.then_x ?_
    refine At.loop_x ?_
    refine At.blk_x ?_
    refine At.then_n ?_
    refine W.seq ?_
    refine W.sub [(6, _)] ⟨rfl, trivial⟩ ?_
    refine W.reg [(0, false), (1, false), (2, false), (3, true), (4, false), (5, false)] (by kernel_rfl) ?_
    intro K hK
    refine x_move rfl rfl rfl rfl ?_
    refine x_eqi true rfl rfl rfl rfl rfl rfl ?_
    refine x_move rfl rfl rfl rfl ?_
    refine x_call rfl rfl rfl rfl rfl en11 (lives19_c) ?_
    rintro r_ wcall11 ⟨rfl, hncall11⟩
    have M := M.new hncall11
    refine ⟨trivial, ?_⟩
    refine x_pickT rfl rfl rfl rfl rfl ?_
    refine x_assign rfl rfl rfl rfl ?_
    refine Ex.done (hK _ _ ?_)
    refine At.then_n ?_
    refine W.ret ?_
    refine At.ret1 (.tmp 2) rfl ⟨rfl, trivial⟩ ?_
    exact ⟨rfl, M.frm⟩
end Go.Proofs.YtigfbpbnohkokaaGreat

namespace Go.Fw
open Go Go.ChangeShapes Go.WideShapes Go.ChangeAt Go.RowKit
set_option linter.unusedVariables false
set_option linter.unusedSimpArgs false
section
variable {H : Type} {enc : TypeId × Value → H} {P : Program} {W : World} {sp : Nat → Bool}
end
end Go.Fw

namespace Go.Proofs.YtigfbpbnohkokaaGreat
open Go Go.Fw Go.ChangeShapes Go.WideShapes Go.ChangeAt Go.RowKit
set_option linter.unusedVariables false
set_option linter.unusedSimpArgs false

theorem cInt : Tryz.prog.cellsOf 3 = 1 := by kernel_rfl
section
variable {H : Type} {enc : TypeId × Value → H} {W : World} {sp : Nat → Bool}
end
end Go.Proofs.YtigfbpbnohkokaaGreat

namespace Go.Proofs.YtigfbpbnohkokaaGreat
open Go Go.Fw Go.ChangeShapes Go.WideShapes Go.ChangeAt Go.RowKit
theorem zs_flat : ∀ l : List Int, (l.flatMap fun z => [Value.int .i64 z]) = zCs l
 | [] => rfl
 | x :: l => by rw [List.flatMap_cons, zs_flat l]; rfl
theorem zs_of {H : Type} {W : World} {R : Int → DataW H → Prop} {v : Value} {l : List Int} {d : DataW H} (h : SlR W 1 (fun z : Int => [Value.int .i64 z]) R (v, l) d) : ZsAt W v l := by
 have := h.1
 rw [zs_flat] at this
 exact this
end Go.Proofs.YtigfbpbnohkokaaGreat
