/-
  Texts that belong together, laid into one file: U22, O25, U23, O26, FwT, R19.
-/
import Derived.Test.YtigfbpbnohkokaaGreatQ6
namespace Go.Proofs.YtigfbpbnohkokaaGreat
open Go Go.Fw Go.RowKit
set_option linter.unusedVariables false
set_option linter.unusedSimpArgs false

section
variable {w00 w : World} {X : List (Nat × Obj)} {I : OvI} {l : List Raw} {hf : HF} {p q d b : List UInt8}
theorem OvW.file (M : OvW w00 X I l hf w) (h : (p, false, d) ∈ l) : fileB l p = d := let ⟨_, _, h1, _, _⟩ := M; h1.bytes h
theorem OvW.len (M : OvW w00 X I l hf w) (h : (p, false, d) ∈ l) : d.length ≤ 65536 ∧ d.length ≤ usedL l := let ⟨_, _, h1, _, _⟩ := M; h1.le h
theorem OvW.found (M : OvW w00 X I l hf w) {z : Raw} (h : z ∈ l) : findL l z.1 = (z, 0) := let ⟨_, _, h1, _, _⟩ := M; h1.found h

end
section
variable {w00 w0 : World} {X : List (Nat × Obj)} {I : OvI} {l l' : List Raw} {hf hf' : HF}
/-- A call whose answer is known. -/
theorem do_e {who : Int} {o : OpS} {dv : Value} {rs : RsS} (M : OvW w00 X I l hf w0) (hdv : ∀ w Y, Sep w00 Y w → (∀ y ∈ X, y ∈ Y) → BytesAt w dv o.d) (he : doS l hf who o = (rs, l', hf')) :
  Ret Tryz.prog 16 #[ptr I.bf, .int .i64 who, .agg (opC o dv).toArray] w0 fun r w' => ∃ p1 c1 p2 c2 n2 L1 L2, r = rsV rs (.slice p1 rs.d.length c1) (.slice p2 n2 c2) ∧ BytesO L1 (.slice p1 rs.d.length c1) rs.d ∧ StrsO L2 (.slice p2 n2 c2) rs.l ∧ OvW w00 (L1 ++ (L2 ++ X)) I l' hf' w' := by
 have := do_o (who := who) (o := o) M hdv
 rw [he] at this
 exact this
end
end Go.Proofs.YtigfbpbnohkokaaGreat

namespace Go.Proofs.YtigfbpbnohkokaaGreat
open Go Go.Fw Go.RowKit Go.Proofs
set_option linter.unusedVariables false
set_option linter.unusedSimpArgs false

end Go.Proofs.YtigfbpbnohkokaaGreat

namespace Go.Proofs.YtigfbpbnohkokaaGreat
open Go Go.Fw Go.RowKit
set_option linter.unusedVariables false
set_option linter.unusedSimpArgs false

def laB (b : List UInt8) : List Raw := [([97], false, b)]
def hf3b : HF := setH (fun _ _ => none) 3 1 (some ([97], true))
def bo1 : OpS := ⟨1, [97], [], 0, 0, 0, true, false, []⟩
def bo6 (a n : Int) : OpS := ⟨2, [], [], 1, a, n, false, false, []⟩
def opH (o : OpS) : OpS := ⟨o.k, o.p, o.q, 1, o.a, o.n, o.w, o.c, o.d⟩
theorem fill_b (b : List UInt8) : fillL [([97], false, b)] (([([97], false, b)] : List Raw).foldl withR []) = laB b := by kernel_rfl
theorem of_b {b : List UInt8} (h : b.length ≤ 65536) : ofL [([97], false, b)] = (laB b, 0) := by
 rw [ofL_ok (firstR_zero.1 ?_) (together_one _), fill_b, if_neg (by show ¬ 128 < 1; decide)]
 rw [firstR_zero]
 intro x hx
 rw [List.mem_singleton.1 hx]
 unfold singleR
 rw [if_pos (show splitE [97] = 0 ∧ splitN [97] ≠ [] by decide +kernel), if_neg (by simp), if_neg (show ¬ 65536 < b.length by omega)]
theorem new_b {b : List UInt8} (h : b.length ≤ 65536) : newS [([97], false, b)] = (laB b, 0) := by
 rw [newS_0 (by simp; omega) ?_ (by simp [usedL]; omega), of_b (by omega)]
 show (ofL [([97], false, [])]).2 = 0
 rw [of_b (by simp)]
theorem made_b {b : List UInt8} (h : b.length ≤ 65536) : madeE [([97], false, b)] = 0 := by
 unfold madeE
 rw [new_b h, if_neg]
 simp [metaR, badM]
theorem open_b (b : List UInt8) : doS (laB b) (fun _ _ => none) 3 bo1 = (⟨0, 1, 0, [], []⟩, laB b, hf3b) := by kernel_rfl
theorem used_b (b : List UInt8) : usedL (laB b) = b.length := by simp [usedL, laB]
def finB (b d : List UInt8) (a : Nat) : List UInt8 := if d = [] then b else writeB b d a
def preB (b d : List UInt8) (a : Nat) : List UInt8 := if d = [] then b else sizedB b (max b.length (a + d.length))
def rdB (b : List UInt8) (a n : Int) : RsS := if a < 0 ∨ n < 0 then badS 2 else ⟨0, 0, 0, (b.drop a.toNat).take n.toNat, []⟩
section
variable {b d : List UInt8} {o : OpS} {a : Nat}
theorem finB_len (h : d = [] ∨ a + d.length ≤ 65536) (hb : b.length ≤ 65536) : (finB b d a).length ≤ 65536 := by
 unfold finB
 split
 ·exact hb
 ·rename_i h0
  rw [writeB_len]
  have := h.resolve_left h0
  omega
theorem handle_b (k : Int) (h1 : 2 ≤ k) (h5 : k ≤ 5) (hk : o.k = k) : doS (laB b) hf3b 3 (opH o) = handleS (laB b) hf3b 3 (opH o) := by
 unfold doS
 rw [if_neg (by show ¬ ((3 : Int) < 0 ∨ 8 ≤ (3 : Int) ∨ o.k < 1 ∨ 9 < o.k); omega), if_neg (by show ¬ o.k = 1; omega), if_pos (by show o.k ≤ 5; omega)]
theorem wr_b (hb : b.length ≤ 65536) (hk : o.k = 3) : ((doS (laB b) hf3b 3 (opH o)).1.e ≠ 0 ∧ (doS (laB b) hf3b 3 (opH o)).2 = (laB b, hf3b)) ∨
  ((doS (laB b) hf3b 3 (opH o)).1.e = 0 ∧ (doS (laB b) hf3b 3 (opH o)).1.n = (o.d.length : Int) ∧ (o.d = [] ∨ (0 ≤ o.a ∧ o.a.toNat + o.d.length ≤ 65536)) ∧ (doS (laB b) hf3b 3 (opH o)).2 = (laB (finB b o.d o.a.toNat), hf3b)) := by
 rw [handle_b 3 (by decide) (by decide) hk]
 have e : handleS (laB b) hf3b 3 (opH o) = ((writeS (laB b) [97] true (opH o)).1, (writeS (laB b) [97] true (opH o)).2, hf3b) := by
  unfold handleS
  show (if o.k = 2 then _ else if o.k = 3 then _ else _) = _
  rw [if_neg (by omega), if_pos hk]
 rw [e]
 by_cases h1 : o.a < 0
 ·left
  have e2 : writeS (laB b) [97] true (opH o) = (badS 2, laB b) := by
   unfold writeS
   exact if_pos (.inr h1)
  rw [e2]
  exact ⟨by simp [badS], rfl⟩
 ·have n1 : ¬ (true = false ∨ (opH o).a < 0) := by rintro (h | h); cases h; exact h1 h
  by_cases h2 : o.d = []
  ·right
   have e2 : writeS (laB b) [97] true (opH o) = (badS 0, laB b) := by
    unfold writeS
    rw [if_neg n1]
    exact if_pos h2
   rw [e2]
   exact ⟨rfl, by rw [h2]; rfl, .inl h2, by unfold finB; rw [if_pos h2]⟩
  ·have h2' : ¬ (opH o).d = [] := h2
   by_cases h3 : 65536 < o.d.length ∨ 65536 - (o.d.length : Int) < o.a
   ·left
    have e2 : writeS (laB b) [97] true (opH o) = (badS 3, laB b) := by
     unfold writeS
     rw [if_neg n1, if_neg h2']
     exact if_pos h3
    rw [e2]
    exact ⟨by simp [badS], rfl⟩
   ·right
    have e2 : writeS (laB b) [97] true (opH o) = (⟨0, 0, o.d.length, [], []⟩, laB (writeB b o.d o.a.toNat)) := by
     unfold writeS
     rw [if_neg n1, if_neg h2']
     refine (if_neg h3).trans ?_
     unfold sizeS
     rw [show fileB (laB b) [97] = b from rfl, used_b, writeB_len]
     refine (if_neg (show ¬ 262144 + b.length < b.length + max b.length (o.a.toNat + o.d.length) by omega)).trans ?_
     rfl
    rw [e2]
    exact ⟨rfl, rfl, .inr ⟨by omega, by omega⟩, by unfold finB; rw [if_neg h2]⟩
theorem tr_b (hb : b.length ≤ 65536) (hk : o.k = 4) : ((doS (laB b) hf3b 3 (opH o)).1.e ≠ 0 ∧ (doS (laB b) hf3b 3 (opH o)).2 = (laB b, hf3b)) ∨
  ((doS (laB b) hf3b 3 (opH o)).1.e = 0 ∧ 0 ≤ o.n ∧ o.n ≤ 65536 ∧ (doS (laB b) hf3b 3 (opH o)).2 = (laB (sizedB b o.n.toNat), hf3b)) := by
 rw [handle_b 4 (by decide) (by decide) hk]
 have e : handleS (laB b) hf3b 3 (opH o) = ((truncS (laB b) [97] true (opH o)).1, (truncS (laB b) [97] true (opH o)).2, hf3b) := by
  unfold handleS
  show (if o.k = 2 then _ else if o.k = 3 then _ else if o.k = 4 then _ else _) = _
  rw [if_neg (by omega), if_neg (by omega), if_pos hk]
 rw [e]
 by_cases h1 : o.n < 0
 ·left
  have e2 : truncS (laB b) [97] true (opH o) = (badS 2, laB b) := by
   unfold truncS
   exact if_pos (.inr h1)
  rw [e2]
  exact ⟨by simp [badS], rfl⟩
 ·by_cases h2 : 65536 < o.n
  ·left
   have e2 : truncS (laB b) [97] true (opH o) = (badS 3, laB b) := by
    unfold truncS
    rw [if_neg (by rintro (h | h); cases h; exact h1 h)]
    exact if_pos h2
   rw [e2]
   exact ⟨by simp [badS], rfl⟩
  ·right
   have e2 : truncS (laB b) [97] true (opH o) = (badS 0, laB (sizedB b o.n.toNat)) := by
    unfold truncS
    rw [if_neg (by rintro (h | h); cases h; exact h1 h)]
    refine (if_neg h2).trans ?_
    unfold sizeS
    rw [show fileB (laB b) [97] = b from rfl, used_b, sizedB_len, show (opH o).n = o.n from rfl]
    refine (if_neg (show ¬ 262144 + b.length < b.length + o.n.toNat by omega)).trans ?_
    rfl
   rw [e2]
   exact ⟨rfl, by omega, by omega, rfl⟩
theorem rd_b (a n : Int) : doS (laB b) hf3b 3 (bo6 a n) = (rdB b a n, laB b, hf3b) := by
 rw [show doS (laB b) hf3b 3 (bo6 a n) = handleS (laB b) hf3b 3 (bo6 a n) from rfl]
 show (readS (laB b) [97] (bo6 a n), laB b, hf3b) = _
 congr 1
theorem rdB_bad {a n : Int} (h : a < 0 ∨ n < 0) : rdB b a n = badS 2 := by unfold rdB; rw [if_pos h]
theorem rdB_ok {a n : Int} (h : ¬ (a < 0 ∨ n < 0)) : rdB b a n = ⟨0, 0, 0, (b.drop a.toNat).take n.toNat, []⟩ := by unfold rdB; rw [if_neg h]

theorem pre_done {k : Nat} (hk : k = 0 ∨ (d ≠ [] ∧ b.length + k ≤ a + d.length)) (h : d = [] ∨ a + d.length ≤ b.length + k) : b ++ List.replicate k 0 = preB b d a := by
 unfold preB
 split
 ·rename_i h0
  rcases hk with rfl | h1
  ·simp
  ·exact absurd h0 h1.1
 ·rename_i h0
  have h2 := h.resolve_left h0
  unfold sizedB
  rw [List.take_of_length_le (by omega)]
  congr 2
  rcases hk with rfl | h1 <;> omega
theorem size_done {k n : Nat} (hk : k = 0 ∨ b.length + k ≤ n) (h : n ≤ b.length + k) : (b ++ List.replicate k 0).take n = sizedB b n := by
 unfold sizedB
 rw [List.take_append]
 congr 1
 rw [List.take_replicate]
 congr 1
 omega
theorem fin_over : overB (preB b d a) d a = finB b d a := by
 unfold preB finB
 split
 ·rename_i h0
  subst h0
  unfold overB
  simp
 ·rfl
theorem over_zero (s : List UInt8) : overB s (d.take 0) a = s := by unfold overB; simp
theorem over_step {s : List UInt8} {q : Nat} {c : UInt8} (hq : d[q]? = some c) (h : a + d.length ≤ s.length) : overB s (d.take (q + 1)) a = (overB s (d.take q) a).set (a + q) c := by
 have hl : q < d.length := (List.getElem?_eq_some_iff.1 hq).1
 unfold overB
 rw [take_snoc hq]
 have e1 : (d.take q).length = q := by rw [List.length_take]; omega
 have e2 : (s.take a).length = a := by rw [List.length_take]; omega
 rw [List.length_append, e1]
 rw [List.set_append_right _ _ (by rw [List.length_append, e1, e2]; exact Nat.le_refl _), List.length_append, e1, e2, Nat.sub_self]
 have e3 : s.drop (a + q) = s[a + q]'(by omega) :: s.drop (a + q + 1) := List.drop_eq_getElem_cons (by omega)
 rw [e3]
 simp [List.append_assoc, Nat.add_assoc]
theorem pre_len (h : d ≠ []) : a + d.length ≤ (preB b d a).length := by unfold preB; rw [if_neg h, sizedB_len]; omega
theorem pre_len2 (h : d = [] ∨ a + d.length ≤ 65536) (hb : b.length ≤ 65536) : (preB b d a).length ≤ 65536 := by
 unfold preB
 split
 ·exact hb
 ·rename_i h0
  rw [sizedB_len]
  have := h.resolve_left h0
  omega
end
theorem bytes_cut {L : List (Nat × Obj)} {p : Option Addr} {c len k n : Nat} {b : List UInt8} (h : BytesO L (.slice p len c) (b ++ List.replicate k 0)) (hn : n ≤ b.length + k) (hk : k = 0 ∨ b.length + k ≤ n) : BytesO L (.slice p n c) (sizedB b n) := by
 have h1 := OwL.take h (j := n) (by simp; omega)
 have e : (byteCs (b ++ List.replicate k 0)).take (n * 1) = byteCs (sizedB b n) := by
  rw [← size_done hk hn, Nat.mul_one]; unfold byteCs; rw [List.map_take]
 rw [e] at h1
 unfold BytesO
 rw [sizedB_len]
 exact h1
theorem fin_len {b d : List UInt8} {a : Nat} (h : d = [] ∨ a + d.length ≤ 65536) : (finB b d a).length = (preB b d a).length := by
 unfold finB preB
 split
 ·rfl
 ·rw [writeB_len, sizedB_len]
theorem bytes_sub2 {w : World} {v : Value} {b : List UInt8} {j k : Nat} (h : Sg w v 1 k (((byteCs b).drop (j * 1)).take (k * 1))) : BytesAt w v ((b.drop j).take k) := by
 have hl := h.len
 have e : ((byteCs b).drop (j * 1)).take (k * 1) = byteCs ((b.drop j).take k) := by rw [Nat.mul_one, Nat.mul_one]; unfold byteCs; rw [List.map_take, List.map_drop]
 rw [e] at h hl
 rw [byteCs_len] at hl
 unfold BytesAt
 rw [hl, Nat.mul_one]
 exact h
/-- A byte of bytes of one's own is another one. -/
theorem bytes_set {L : List (Nat × Obj)} {v : Value} {n : Nat} {s : List UInt8} {j : Nat} {c : UInt8} (h : OwL L v 1 n (byteCs s)) (hj : j < s.length) : ∃ blk cap rest T, v = .slice (some ⟨blk, 0, none⟩) n cap ∧ L = [(blk, .cells (byteCs s ++ rest).toArray T (0, 0))] ∧
  OwL [(blk, .cells ((byteCs s ++ rest).take (0 + j * 1) ++ [byteV c] ++ (byteCs s ++ rest).drop (0 + j * 1 + 1)).toArray T (0, 0))] v 1 n (byteCs (s.set j c)) := by
 rcases h with ⟨_, rfl, h2, _⟩ | ⟨blk, cap, rest, T, rfl, rfl, h3, h4⟩
 ·have := congrArg List.length h2
  rw [byteCs_len] at this
  simp only [List.length_nil] at this
  omega
 ·refine ⟨blk, cap, rest, T, rfl, rfl, .inr ⟨blk, cap, rest, T, rfl, ?_, by rw [byteCs_len, List.length_set, ← byteCs_len]; exact h3, by rw [List.length_append, byteCs_len, List.length_set, ← byteCs_len, ← List.length_append]; exact h4⟩⟩
  have hl : j < (byteCs s).length := by rw [byteCs_len]; exact hj
  rw [Nat.zero_add, Nat.mul_one, List.take_append_of_le_length (by omega), List.drop_append_of_le_length (by omega)]
  congr 4
  have e : byteCs (s.set j c) = (byteCs s).set j (byteV c) := by unfold byteCs; rw [List.map_set]
  rw [e, List.set_eq_take_append_cons_drop, if_pos hl]
  simp
end Go.Proofs.YtigfbpbnohkokaaGreat

namespace Go.Proofs.YtigfbpbnohkokaaGreat
open Go Go.Fw Go.RowKit Go.Proofs
set_option linter.unusedVariables false
set_option linter.unusedSimpArgs false
theorem Sg_of_sl {w : World} {v : Value} {m n : Nat} {cs : List Value} (h : Sl w v m n cs) : Sg w v m n cs := .inr h
set_option maxRecDepth 100000 in
theorem overlayBytes_c {w0 : World} {v u : Value} {ba : List UInt8} {al : List Ask} {at_ n : Int} (h : BytesAt w0 v ba) (g : AsksAt w0 u al) (gl : al.length ≤ 9223372036854775807) : Ret Tryz.prog 4 #[v, u, .int .i64 at_, .int .i64 n] w0 fun r w' => r = .bool true ∧ New w0 w' := by
 have M : Sep w0 [] w0 := St.nil w0
 obtain ⟨pv, cv, rfl⟩ := h.shape
 obtain ⟨pu, cu, rfl⟩ := g.shape
 refine Ret.of_W Tryz.func4 rfl Tryz.ntmps4 rfl ?_
 refine W.seq ?_
 refine W.sub [(0, _), (1, _), (2, _), (3, _)] ⟨rfl, rfl, rfl, rfl, trivial⟩ ?_
 refine W.reg [(0, false)] (by kernel_rfl) ?_
 intro K hK
 refine x_assign rfl rfl rfl rfl ?_
 refine Ex.done (hK _ _ ?_)
 refine At.then_n ?_
 refine W.seq ?_
 refine W.seq ?_
 refine W.sub [(0, _), (1, _), (2, _), (3, _)] ⟨rfl, rfl, rfl, rfl, trivial⟩ ?_
 refine W.reg [(0, false), (1, false), (2, false), (3, false), (4, false), (5, true), (6, false), (7, false)] (by kernel_rfl) ?_
 intro K hK
 refine x_move rfl rfl rfl rfl ?_
 refine x_len rfl rfl rfl rfl Tryz.underlying27 rfl ?_
 refine x_gtr _ rfl rfl rfl rfl rfl rfl ?_
 refine x_move rfl rfl rfl rfl ?_
 refine Ex.split 23 rfl (fun hsp1 => ?_) (fun hsp1 => ?_)
 ·
  try simp only [sA, sB, sC, sD, sE, sF, ne_eq, Bool.not_eq_eq_eq_not, Bool.not_true, Bool.not_false, sK, sL, Bool.not_not, gt_iff_lt, ge_iff_le] at hsp1
  refine Ex.skip_ rfl rfl rfl ?_
  refine Ex.skipm_ rfl rfl rfl ?_
  refine Ex.skip_ rfl rfl rfl ?_
  refine x_pickT rfl rfl rfl rfl rfl ?_
  refine Ex.done (hK _ _ ?_)
  refine At.then_n ?_
  refine W.condT rfl ?_
  refine W.seq ?_
  refine W.sub [] trivial ?_
  refine W.reg [(0, true), (1, false)] (by kernel_rfl) ?_
  intro K hK
  refine x_call rfl rfl rfl rfl rfl en11 (lives19_c) ?_
  rintro r_ wcall1 ⟨rfl, hncall1⟩
  have M := M.new hncall1
  refine ⟨trivial, ?_⟩
  refine x_assign rfl rfl rfl rfl ?_
  refine Ex.done (hK _ _ ?_)
  refine At.then_n ?_
  refine W.ret ?_
  refine At.then_r ?_
  refine At.ret1 (.tmp 8) rfl ⟨rfl, trivial⟩ ?_
  exact ⟨rfl, M.frm⟩
 ·
  try simp only [sA, sB, sC, sD, sE, sF, ne_eq, Bool.not_eq_eq_eq_not, Bool.not_true, Bool.not_false, sK, sL, Bool.not_not, gt_iff_lt, ge_iff_le] at hsp1
  refine x_move rfl rfl rfl rfl ?_
  refine x_call rfl rfl rfl rfl rfl en14 (few19_c (g.new M.frm) gl) ?_
  rintro r_ w2 ⟨rfl, hn2⟩
  have M := M.new hn2
  refine ⟨trivial, ?_⟩
  refine x_not _ rfl rfl rfl rfl rfl ?_
  refine x_pickF rfl rfl rfl rfl rfl ?_
  refine Ex.done (hK _ _ ?_)
  refine At.then_n ?_
  refine W.cond rfl (fun hco2 => ?_) (fun hco2 => ?_)
  ·try simp only [sA, sB, sC, sD, sE, sF, ne_eq, Bool.not_eq_eq_eq_not, Bool.not_true, Bool.not_false, sK, sL, Bool.not_not, gt_iff_lt, ge_iff_le] at hco2
   refine W.seq ?_
   refine W.sub [] trivial ?_
   refine W.reg [(0, true), (1, false)] (by kernel_rfl) ?_
   intro K hK
   refine x_call rfl rfl rfl rfl rfl en11 (lives19_c) ?_
   rintro r_ wcall3 ⟨rfl, hncall3⟩
   have M := M.new hncall3
   refine ⟨trivial, ?_⟩
   refine x_assign rfl rfl rfl rfl ?_
   refine Ex.done (hK _ _ ?_)
   refine At.then_n ?_
   refine W.ret ?_
   refine At.then_r ?_
   refine At.ret1 (.tmp 8) rfl ⟨rfl, trivial⟩ ?_
   exact ⟨rfl, M.frm⟩
  ·try simp only [sA, sB, sC, sD, sE, sF, ne_eq, Bool.not_eq_eq_eq_not, Bool.not_true, Bool.not_false, sK, sL, Bool.not_not, gt_iff_lt, ge_iff_le] at hco2
   refine W.skip ?_
   refine At.then_n ?_
   refine W.seq ?_
   refine W.sub [(0, _), (1, _), (2, _), (3, _)] ⟨rfl, rfl, rfl, rfl, trivial⟩ ?_
   refine W.reg [(0, false), (1, false), (2, true), (3, true), (4, false), (5, false), (6, false), (7, false), (8, false), (9, false), (10, false)] (by kernel_rfl) ?_
   intro K hK
   refine x_move rfl rfl rfl rfl ?_
   refine x_build [_, _, _] rfl rfl rfl pl29 ze29 rfl rfl rfl ?_
   refine x_bs1 (cs := [strV [97], .bool false, .slice pv ba.length cv]) rfl rfl rfl Tryz.underlying24 sz29 ze29 (Z := [_, _, _]) rfl rfl (by decide) (by decide) rfl rfl rfl ?_
   intro bbs1 wbs1 hbbs1 hwbs1
   have M : Sep w0 ([(bbs1, .cells [strV [97], .bool false, .slice pv ba.length cv].toArray 29 (0, 0))] ++ []) wbs1 := M.acons hbbs1 hwbs1
   have hFz : FilesK w0 [(bbs1, .cells [strV [97], .bool false, .slice pv ba.length cv].toArray 29 (0, 0))] (.slice (some ⟨bbs1, 0, none⟩) 1 1) [([97], false, ba)] := ⟨[(([97], false, ba), .slice pv ba.length cv)], rfl, SgK.slL (.inr ⟨bbs1, 0, 1, _, _, _, rfl, Nat.le_refl _, List.mem_cons_self, rfl, rfl⟩) (fun _ h => h), fun f hf => by rw [List.mem_singleton.1 hf]; exact ⟨SgK.old h, rfl⟩⟩
   refine ⟨trivial, ?_⟩
   refine x_call rfl rfl rfl rfl rfl en15 (made_o M hFz (by show 1 ≤ 1000; decide)) ?_
   rintro r_ w4 ⟨po, bs, rfl, hbad, hgood⟩
   have hz0 := made_b (b := ba) (by omega)
   obtain ⟨I, rfl, hIb, hIs, M⟩ := hgood hz0
   rw [new_b (by omega)] at M
   rw [hz0]
   have M : OvW w0 [] I (laB ba) (fun _ _ => none) w4 := M
   refine ⟨trivial, ?_⟩
   refine x_move rfl rfl rfl rfl ?_
   refine x_ext rfl rfl rfl rfl rfl ?_
   refine x_ext rfl rfl rfl rfl rfl ?_
   refine x_ext rfl rfl rfl rfl rfl ?_
   refine x_assign rfl rfl rfl rfl ?_
   refine x_assign rfl rfl rfl rfl ?_
   refine x_assign rfl rfl rfl rfl ?_
   refine Ex.done (hK _ _ ?_)
   refine At.then_n ?_
   refine W.seq ?_
   refine W.seq ?_
   refine W.sub [(0, _), (1, _), (2, _), (3, _), (9, _), (11, _)] ⟨rfl, rfl, rfl, rfl, rfl, rfl, trivial⟩ ?_
   refine W.reg [(0, false), (1, false), (2, false), (3, false), (4, false), (5, false), (6, false), (7, false), (8, false), (9, true), (10, false), (11, false), (12, false)] (by kernel_rfl) ?_
   intro K hK
   refine x_move rfl rfl rfl rfl ?_
   refine x_nei false rfl rfl rfl rfl rfl rfl ?_
   refine x_move rfl rfl rfl rfl ?_
   refine x_move rfl rfl rfl rfl ?_
   refine x_eqpn false rfl rfl rfl Tryz.underlying34 rfl rfl rfl ?_
   refine x_pickF rfl rfl rfl rfl rfl ?_
   refine x_move rfl rfl rfl rfl ?_
   refine x_move rfl rfl rfl rfl ?_
   refine x_build [_, _, _, _, _, _, _, _, _] rfl rfl rfl pl52 ze52 rfl rfl rfl ?_
   refine x_call rfl rfl rfl rfl rfl en16 (do_e (who := 3) (o := bo1) (dv := .slice none 0 0) M (fun _ _ _ _ => .inr (.inl ⟨rfl, rfl, rfl⟩)) (open_b ba)) ?_
   rintro r_ wcall5 ⟨pcall5, ccall5, qcall5, dcall5, ncall5, Lacall5, Lbcall5, rfl, hbcall5, hscall5, M⟩
   have M := M.sub (List.nil_sublist _)
   refine ⟨trivial, ?_⟩
   refine x_fd (k := 1) rfl rfl rfl (by kernel_rfl) rfl rfl ?_
   refine x_nei false rfl rfl rfl rfl rfl rfl ?_
   refine x_pickF rfl rfl rfl rfl rfl ?_
   refine Ex.done (hK _ _ ?_)
   refine At.then_n ?_
   refine W.condF rfl ?_
   refine W.skip ?_
   refine At.then_n ?_
   refine W.seq ?_
   refine W.sub [(0, _), (1, _), (2, _), (3, _), (9, _)] ⟨rfl, rfl, rfl, rfl, rfl, trivial⟩ ?_
   refine W.reg [(0, true), (1, false), (2, true), (3, false)] (by kernel_rfl) ?_
   intro K hK
   refine x_bs0 rfl rfl rfl Tryz.underlying27 sz5 ?_
   intro bb wb hbb hwb
   have M := M.acons hbb hwb
   refine ⟨trivial, ?_⟩
   refine x_move rfl rfl rfl rfl ?_
   obtain ⟨S_, L_, hF_, hB_, M⟩ := M
   refine x_apL (L := [_]) (cs := []) (nn := 0) rfl rfl rfl rfl Tryz.underlying27 sz5 ze5 rfl by5 rfl rfl (.inr ⟨bb, 0, [], _, rfl, rfl, rfl, rfl⟩) M (by simp) ((h.new M.frm).src Tryz.underlying27 (byteCs_one _)) (by omega) (by decide) (by omega) ?_
   intro Lo vo wo ho M
   rw [Nat.zero_add, List.nil_append] at ho
   obtain ⟨p6, c6, rfl⟩ := ho.shape
   have M : OvW w0 (Lo ++ []) I (laB ba) hf3b wo := ⟨S_, L_, hF_, hB_, by simpa only [List.append_nil, List.nil_append] using M⟩
   refine ⟨trivial, ?_⟩
   refine x_assign rfl rfl rfl rfl ?_
   refine Ex.done (hK _ _ ?_)
   refine At.then_n ?_
   refine W.seq ?_
   refine W.seq ?_
   refine W.sub [(1, _), (2, _), (3, _), (9, _), (12, _)] ⟨rfl, rfl, rfl, rfl, rfl, trivial⟩ ?_
   refine W.reg [(0, false)] (by kernel_rfl) ?_
   intro K hK
   refine x_assign rfl rfl rfl rfl ?_
   refine Ex.done (hK _ _ ?_)
   refine At.then_n ?_
   refine W.block ?_
   refine W.loop (σ := Nat × List UInt8 × Value × List (Nat × Obj) × List (Nat × Obj)) (fun q => [(1, _), (2, _), (3, _), (9, _), (12, q.2.2.1), (13, .int .i64 ((q.1 : Nat) : Int))]) (fun q w => q.1 ≤ al.length ∧ q.2.1.length ≤ 65536 ∧ BytesO q.2.2.2.1 q.2.2.1 q.2.1 ∧ OvW w0 (q.2.2.2.1 ++ q.2.2.2.2) I (laB q.2.1) hf3b w) (fun q => al.length - q.1) (0, ba, _, Lo, []) ⟨rfl, rfl, rfl, rfl, rfl, rfl, trivial⟩ ⟨Nat.zero_le _, by simp only; omega, ho, M⟩ ?_
   rintro ⟨j, b, vo, Lo, Y⟩ w ⟨hj, hbl, ho, M⟩
   simp only at hj hbl ho M
   obtain ⟨po, co, rfl⟩ := ho.shape
   refine W.seq ?_
   refine W.seq ?_
   refine W.sub [(1, _), (2, _), (3, _), (9, _), (12, _), (13, _)] ⟨rfl, rfl, rfl, rfl, rfl, rfl, trivial⟩ ?_
   refine W.reg [(0, false), (1, false), (2, false), (3, false)] (by kernel_rfl) ?_
   intro K hK
   refine x_move rfl rfl rfl rfl ?_
   refine x_move rfl rfl rfl rfl ?_
   refine x_len rfl rfl rfl rfl Tryz.underlying42 rfl ?_
   refine x_lss _ rfl rfl rfl rfl rfl rfl ?_
   refine Ex.done (hK _ _ ?_)
   refine At.then_n ?_
   refine W.cond rfl (fun hco4 => ?_) (fun hco4 => ?_)
   ·try simp only [sA, sB, sC, sD, sE, sF, ne_eq, Bool.not_eq_eq_eq_not, Bool.not_true, Bool.not_false, sK, sL, Bool.not_not, gt_iff_lt, ge_iff_le] at hco4
    obtain ⟨x, hx⟩ := get_lt (l := al) (q := j) (by omega)
    obtain ⟨bb, off, rfl, _⟩ := g.blk (j := j) (by omega)
    obtain ⟨pd, cd, hrow0, hbx⟩ := g.row hx
    have hrow := RowAt.new hrow0 M.frm
    refine W.skip ?_
    refine At.then_n ?_
    refine W.seq ?_
    refine W.block ?_
    refine W.seq ?_
    refine W.sub [(1, _), (2, _), (3, _), (9, _), (12, _), (13, _)] ⟨rfl, rfl, rfl, rfl, rfl, rfl, trivial⟩ ?_
    refine W.reg [(0, false), (1, false), (2, false), (3, false), (4, false), (5, true), (6, true)] (by kernel_rfl) ?_
    intro K hK
    refine x_move rfl rfl rfl rfl ?_
    refine x_move rfl rfl rfl rfl ?_
    refine x_ia j rfl rfl rfl Tryz.underlying42 sz54 rfl rfl rfl (by omega) ?_
    refine x_fa rfl rfl rfl fo54_1 rfl ?_
    refine x_ldA [_, _, _, _, _, _, _, _, _] rfl rfl rfl Tryz.underlying52 rfl sz52 rfl rfl (RowAt.tl hrow) ?_
    refine x_alloc [_, _, _, _, _, _, _, _, _] rfl rfl rfl ze52 rfl ?_
    intro bal1 wal1 hbal1 hwal1
    have M := M.acons hbal1 hwal1
    refine ⟨trivial, ?_⟩
    refine x_st [_, _, _, _, _, _, _, _, _] _ rfl rfl rfl sz52 rfl rfl rfl rfl (by first | exact M.at_ 0 rfl | exact M.at_ 1 rfl | exact M.at_ 2 rfl | exact M.at_ 3 rfl | exact M.at_ 4 rfl | exact M.at_ 5 rfl | exact M.at_ 6 rfl | exact M.at_ 7 rfl) rfl rfl rfl ?_
    intro wst1 hwst1
    have M := M.put 0 rfl hwst1
    refine ⟨trivial, ?_⟩
    refine Ex.done (hK _ _ ?_)
    refine At.then_n ?_
    refine W.seq ?_
    refine W.sub [(1, _), (2, _), (3, _), (9, _), (12, _), (13, _), (14, _)] ⟨rfl, rfl, rfl, rfl, rfl, rfl, rfl, trivial⟩ ?_
    refine W.reg [(0, false), (1, true)] (by kernel_rfl) ?_
    intro K hK
    refine x_fa rfl rfl rfl fo52_3 rfl ?_
    refine x_st [_] _ rfl rfl rfl sz3 rfl rfl rfl rfl (by first | exact M.at_ 0 rfl | exact M.at_ 1 rfl | exact M.at_ 2 rfl | exact M.at_ 3 rfl | exact M.at_ 4 rfl | exact M.at_ 5 rfl | exact M.at_ 6 rfl | exact M.at_ 7 rfl) rfl rfl rfl ?_
    intro wst2 hwst2
    have M : OvW w0 ((bal1, .cells (opC (opH x.o) (.slice pd x.o.d.length cd)).toArray 52 (0, 0)) :: (Lo ++ Y)) I (laB (b)) hf3b wst2 := M.put 0 rfl hwst2
    refine ⟨trivial, ?_⟩
    refine Ex.done (hK _ _ ?_)
    refine At.then_n ?_
    refine W.seq ?_
    refine W.sub [(1, _), (2, _), (3, _), (9, _), (12, _), (13, _), (14, _)] ⟨rfl, rfl, rfl, rfl, rfl, rfl, rfl, trivial⟩ ?_
    refine W.reg [(0, false), (1, false)] (by kernel_rfl) ?_
    intro K hK
    refine x_fa rfl rfl rfl fo52_0 rfl ?_
    refine x_ld rfl rfl rfl Tryz.underlying3 rfl rfl (cell_of (M.at_ 0 rfl) rfl) ?_
    refine Ex.done (hK _ _ ?_)
    refine At.then_n ?_
    refine W.block ?_
    refine W.seq ?_
    refine W.sub [(1, _), (2, _), (3, _), (9, _), (12, _), (13, _), (14, _), (66, _)] ⟨rfl, rfl, rfl, rfl, rfl, rfl, rfl, rfl, trivial⟩ ?_
    refine W.reg [(0, false), (1, false)] (by kernel_rfl) ?_
    intro K hK
    refine x_eqi _ rfl rfl rfl rfl rfl rfl ?_
    refine x_assign rfl rfl rfl rfl ?_
    refine Ex.done (hK _ _ ?_)
    refine At.then_n ?_
    refine W.cond rfl (fun hco5 => ?_) (fun hco5 => ?_)
    ·try simp only [sA, sB, sC, sD, sE, sF, ne_eq, Bool.not_eq_eq_eq_not, Bool.not_true, Bool.not_false, sK, sL, Bool.not_not, gt_iff_lt, ge_iff_le] at hco5
     refine W.seq ?_
     refine W.sub [(1, _), (2, _), (3, _), (9, _), (12, _), (13, _), (14, _)] ⟨rfl, rfl, rfl, rfl, rfl, rfl, rfl, trivial⟩ ?_
     refine W.reg [(0, false), (1, false), (2, true), (3, true), (4, true)] (by kernel_rfl) ?_
     intro K hK
     refine x_move rfl rfl rfl rfl ?_
     refine x_ldA [_, _, _, _, _, _, _, _, _] rfl rfl rfl Tryz.underlying52 rfl sz52 rfl rfl ⟨_, _, _, M.at_ 0 rfl, rfl⟩ ?_
     refine x_call rfl rfl rfl rfl rfl en16 (do_o (o := opH x.o) (who := 3) (dv := .slice pd x.o.d.length cd) M (fun w Y hY _ => hbx.new hY.frm)) ?_
     rintro r_ wcall6 ⟨pcall6, ccall6, qcall6, dcall6, ncall6, Lacall6, Lbcall6, rfl, hbcall6, hscall6, M⟩
     have hwr := wr_b (o := x.o) hbl hco5
     generalize hR : doS (laB b) hf3b 3 (opH x.o) = R at *
     refine ⟨trivial, ?_⟩
     refine x_alloc [_, _, _, _, _] rfl rfl rfl ze49 rfl ?_
     intro bal2 wal2 hbal2 hwal2
     have M := M.acons hbal2 hwal2
     refine ⟨trivial, ?_⟩
     refine x_st [_, _, _, _, _] _ rfl rfl rfl sz49 rfl rfl rfl rfl (by first | exact M.at_ 0 rfl | exact M.at_ 1 rfl | exact M.at_ 2 rfl | exact M.at_ 3 rfl | exact M.at_ 4 rfl | exact M.at_ 5 rfl | exact M.at_ 6 rfl | exact M.at_ 7 rfl) rfl rfl rfl ?_
     intro wst3 hwst3
     have M := by first | exact M.put 0 rfl hwst3 | exact M.put 1 rfl hwst3 | exact M.put 2 rfl hwst3 | exact M.put 3 rfl hwst3 | exact M.put 4 rfl hwst3 | exact M.put 5 rfl hwst3 | exact M.put 6 rfl hwst3 | exact M.put 7 rfl hwst3
     refine ⟨trivial, ?_⟩
     refine Ex.done (hK _ _ ?_)
     refine At.then_n ?_
     refine W.seq ?_
     refine W.seq ?_
     refine W.sub [(1, _), (2, _), (3, _), (9, _), (12, _), (13, _), (14, _), (15, _)] ⟨rfl, rfl, rfl, rfl, rfl, rfl, rfl, rfl, trivial⟩ ?_
     refine W.reg [(0, false), (1, false), (2, false)] (by kernel_rfl) ?_
     intro K hK
     refine x_fa rfl rfl rfl fo49_0 rfl ?_
     refine x_ld rfl rfl rfl Tryz.underlying35 rfl rfl (cell_of (by first | exact M.at_ 0 rfl | exact M.at_ 1 rfl | exact M.at_ 2 rfl | exact M.at_ 3 rfl | exact M.at_ 4 rfl | exact M.at_ 5 rfl | exact M.at_ 6 rfl | exact M.at_ 7 rfl) rfl) ?_
     refine x_nei _ rfl rfl rfl rfl rfl rfl ?_
     refine Ex.done (hK _ _ ?_)
     refine At.then_n ?_
     refine W.cond rfl (fun hco6 => ?_) (fun hco6 => ?_)
     ·try simp only [sA, sB, sC, sD, sE, sF, ne_eq, Bool.not_eq_eq_eq_not, Bool.not_true, Bool.not_false, sK, sL, Bool.not_not, gt_iff_lt, ge_iff_le] at hco6
      rcases hwr with ⟨_, hE⟩ | ⟨h1, _⟩
      rotate_left
      ·exact absurd h1 hco6
      rw [hE] at M
      refine W.exit ?_
      refine At.then_x ?_
      refine At.blk_y rfl ?_
      refine At.blk_x ?_
      refine At.then_n ?_
      refine W.sub [(1, _), (2, _), (3, _), (9, _), (12, _), (13, _)] ⟨rfl, rfl, rfl, rfl, rfl, rfl, trivial⟩ ?_
      refine W.reg [(0, false), (1, false), (2, false)] (by kernel_rfl) ?_
      intro K hK
      refine x_move rfl rfl rfl rfl ?_
      refine x_add _ rfl rfl rfl rfl rfl (wadd (by omega) (by omega)) ?_
      refine x_assign rfl rfl rfl rfl ?_
      refine Ex.done (hK _ _ ?_)
      exact At.back ((j + 1, b, _, Lo, Y)) ⟨rfl, rfl, rfl, rfl, rfl, rfl, trivial⟩ ⟨by omega, hbl, ho, M.tail.dropL.dropL.tail⟩ (by first | omega | (simp only; omega) | (simp; done) | (simp; omega))
     ·try simp only [sA, sB, sC, sD, sE, sF, ne_eq, Bool.not_eq_eq_eq_not, Bool.not_true, Bool.not_false, sK, sL, Bool.not_not, gt_iff_lt, ge_iff_le] at hco6
      rcases hwr with ⟨h1, _⟩ | ⟨h1, hn, hda, hE⟩
      ·exact absurd hco6 h1
      rw [hE] at M
      refine W.skip ?_
      refine At.then_n ?_
      refine W.seq ?_
      refine W.seq ?_
      refine W.sub [(1, _), (2, _), (3, _), (9, _), (12, _), (13, _), (14, _), (15, _)] ⟨rfl, rfl, rfl, rfl, rfl, rfl, rfl, rfl, trivial⟩ ?_
      refine W.reg [(0, false), (1, false), (2, false), (3, false), (4, false), (5, false)] (by kernel_rfl) ?_
      intro K hK
      refine x_fa rfl rfl rfl fo49_2 rfl ?_
      refine x_ld rfl rfl rfl Tryz.underlying3 rfl rfl (cell_of (by first | exact M.at_ 0 rfl | exact M.at_ 1 rfl | exact M.at_ 2 rfl | exact M.at_ 3 rfl | exact M.at_ 4 rfl | exact M.at_ 5 rfl | exact M.at_ 6 rfl | exact M.at_ 7 rfl) rfl) ?_
      refine x_fa rfl rfl rfl fo52_8 rfl ?_
      refine x_ld rfl rfl rfl Tryz.underlying27 rfl rfl (cell_of (M.get (x := (bal1, .cells (opC (opH x.o) (.slice pd x.o.d.length cd)).toArray 52 (0, 0))) (by simp)) rfl) ?_
      refine x_len rfl rfl rfl rfl Tryz.underlying27 rfl ?_
      refine x_nei false rfl rfl rfl rfl rfl (by rw [hn]; simp [opH]) ?_
      refine Ex.done (hK _ _ ?_)
      refine At.then_n ?_
      refine W.condF rfl ?_
      refine W.skip ?_
      refine At.then_n ?_
      refine W.sub [(1, _), (2, _), (3, _), (9, _), (12, _), (13, _), (14, _)] ⟨rfl, rfl, rfl, rfl, rfl, rfl, rfl, trivial⟩ ?_
      refine W.seqC (fun F' w' => ∃ v2 L2, F' = [(1, .slice (some ⟨bb, off, none⟩) al.length cu), (2, .int .i64 at_), (3, .int .i64 n), (9, ptr I.bf), (12, v2), (13, .int .i64 ((j : Nat) : Int)), (14, ptr bal1)] ∧ BytesO L2 v2 (preB b x.o.d x.o.a.toNat) ∧ OvW w0 (L2 ++ ((bal1, .cells (opC (opH x.o) (.slice pd x.o.d.length cd)).toArray 52 (0, 0)) :: Y)) I (laB (finB b x.o.d x.o.a.toNat)) hf3b w') ?_ ?_
      ·refine W.block ?_
       have M : OvW w0 (Lo ++ ((bal1, .cells (opC (opH x.o) (.slice pd x.o.d.length cd)).toArray 52 (0, 0)) :: Y)) I (laB (finB b x.o.d x.o.a.toNat)) hf3b _ := M.tail.dropL.dropL.perm (perm_c fun p => by simp only [List.countP_append, List.countP_cons]; omega)
       refine W.loop (σ := Nat × Value × List (Nat × Obj)) (fun q => [(1, _), (2, _), (3, _), (9, _), (12, q.2.1), (13, _), (14, _)]) (fun q w => BytesO q.2.2 q.2.1 (b ++ List.replicate q.1 0) ∧ (q.1 = 0 ∨ (x.o.d ≠ [] ∧ b.length + q.1 ≤ x.o.a.toNat + x.o.d.length)) ∧ OvW w0 (q.2.2 ++ ((bal1, .cells (opC (opH x.o) (.slice pd x.o.d.length cd)).toArray 52 (0, 0)) :: Y)) I (laB (finB b x.o.d x.o.a.toNat)) hf3b w) (fun q => x.o.a.toNat + x.o.d.length - (b.length + q.1)) (0, _, Lo) ⟨rfl, rfl, rfl, rfl, rfl, rfl, rfl, trivial⟩ ⟨by simpa using ho, .inl rfl, M⟩ ?_
       rintro ⟨k, v2, L2⟩ w ⟨ho, hk, M⟩
       simp only at ho hk M
       obtain ⟨p2, c2, rfl⟩ := ho.shape
       have hbk : (b ++ List.replicate k 0).length = b.length + k := by simp
       refine W.seq ?_
       refine W.seq ?_
       refine W.sub [(1, _), (2, _), (3, _), (9, _), (12, _), (13, _), (14, _)] ⟨rfl, rfl, rfl, rfl, rfl, rfl, rfl, trivial⟩ ?_
       refine W.reg [(0, false), (1, false), (2, false), (3, false), (4, false), (5, false), (6, false), (7, false), (8, false), (9, false), (10, false), (11, false), (12, false), (13, false), (14, false)] (by kernel_rfl) ?_
       intro K hK
       refine x_fa rfl rfl rfl fo52_8 rfl ?_
       refine x_ld rfl rfl rfl Tryz.underlying27 rfl rfl (cell_of (M.get (x := (bal1, .cells (opC (opH x.o) (.slice pd x.o.d.length cd)).toArray 52 (0, 0))) (by simp)) rfl) ?_
       refine x_len rfl rfl rfl rfl Tryz.underlying27 rfl ?_
       refine x_gtr (decide (0 < (x.o.d.length : Int))) rfl rfl rfl rfl rfl rfl ?_
       refine x_move rfl rfl rfl rfl ?_
       refine Ex.split 85 rfl (fun hsp2 => ?_) (fun hsp2 => ?_)
       ·
        try simp only [sA, sB, sC, sD, sE, sF, ne_eq, Bool.not_eq_eq_eq_not, Bool.not_true, Bool.not_false, sK, sL, Bool.not_not, gt_iff_lt, ge_iff_le] at hsp2
        have hne : x.o.d ≠ [] := by intro e; rw [e] at hsp2; simp at hsp2
        have hda2 := hda.resolve_left hne
        refine x_move rfl rfl rfl rfl ?_
        refine x_len rfl rfl rfl rfl Tryz.underlying27 rfl ?_
        refine x_fa rfl rfl rfl fo52_4 rfl ?_
        refine x_ld rfl rfl rfl Tryz.underlying3 rfl rfl (cell_of (M.get (x := (bal1, .cells (opC (opH x.o) (.slice pd x.o.d.length cd)).toArray 52 (0, 0))) (by simp)) rfl) ?_
        refine x_fa rfl rfl rfl fo52_8 rfl ?_
        refine x_ld rfl rfl rfl Tryz.underlying27 rfl rfl (cell_of (M.get (x := (bal1, .cells (opC (opH x.o) (.slice pd x.o.d.length cd)).toArray 52 (0, 0))) (by simp)) rfl) ?_
        refine x_len rfl rfl rfl rfl Tryz.underlying27 rfl ?_
        refine x_add ((x.o.a.toNat + x.o.d.length : Nat) : Int) rfl rfl rfl rfl rfl (by simp only [opH]; rw [wadd (by omega) (by omega)]; omega) ?_
        refine x_lss _ rfl rfl rfl rfl rfl rfl ?_
        refine x_pickT rfl rfl rfl rfl rfl ?_
        refine Ex.done (hK _ _ ?_)
        refine At.then_n ?_
        refine W.cond rfl (fun hco8 => ?_) (fun hco8 => ?_)
        ·try simp only [sA, sB, sC, sD, sE, sF, ne_eq, Bool.not_eq_eq_eq_not, Bool.not_true, Bool.not_false, sK, sL, Bool.not_not, gt_iff_lt, ge_iff_le] at hco8
         refine W.skip ?_
         refine At.then_n ?_
         refine W.block ?_
         refine W.sub [(1, _), (2, _), (3, _), (9, _), (12, _), (13, _), (14, _)] ⟨rfl, rfl, rfl, rfl, rfl, rfl, rfl, trivial⟩ ?_
         refine W.reg [(0, false), (1, true), (2, true), (3, false)] (by kernel_rfl) ?_
         intro K hK
         refine x_move rfl rfl rfl rfl ?_
         refine x_bs1 (cs := [.int .u8 0]) rfl rfl rfl Tryz.underlying27 sz5 ze5 (Z := [_]) rfl rfl (by decide) (by decide) rfl rfl rfl ?_
         intro bbs3 wbs3 hbbs3 hwbs3
         have M := M.acons hbbs3 hwbs3
         have hslbs3 : Sl wbs3 (.slice (some ⟨bbs3, 0, none⟩) 1 1) 1 1 [.int .u8 0] := .inr ⟨bbs3, 0, 1, _, _, _, rfl, Nat.le_refl _, M.at_ 0 rfl, rfl, rfl⟩
         have M := M.tail
         refine ⟨trivial, ?_⟩
         obtain ⟨S_, L_, hF_, hB_, M⟩ := M
         rw [List.append_assoc] at M
         refine x_apL (L := L2) (cs := byteCs (b ++ List.replicate k 0)) rfl rfl rfl rfl Tryz.underlying27 sz5 ze5 rfl by5 rfl rfl ho M (byteCs_one _) ((Sg_of_sl hslbs3).src Tryz.underlying27 (by intro u hu; rw [List.mem_singleton.1 hu]; rfl)) (by omega) (by decide) (by omega) ?_
         intro L3 v3 w3 ho3 M
         have ho3 : BytesO L3 v3 ((b ++ List.replicate k 0) ++ [0]) := bytesO_app (y := [0]) ho3 rfl
         rw [← List.append_assoc] at M
         rw [List.append_assoc, ← List.replicate_succ'] at ho3
         have M : OvW w0 (L3 ++ ((bal1, .cells (opC (opH x.o) (.slice pd x.o.d.length cd)).toArray 52 (0, 0)) :: Y)) I (laB (finB b x.o.d x.o.a.toNat)) hf3b w3 := ⟨S_, L_, hF_, hB_, M⟩
         refine ⟨trivial, ?_⟩
         refine x_assign rfl rfl rfl rfl ?_
         refine Ex.done (hK _ _ ?_)
         refine At.blk_n ?_
         exact At.back ((k + 1, _, _)) ⟨rfl, rfl, rfl, rfl, rfl, rfl, rfl, trivial⟩ ⟨ho3, .inr ⟨hne, by simp only; omega⟩, M⟩ (by first | omega | (simp only; omega) | (simp; done) | (simp; omega))
        ·try simp only [sA, sB, sC, sD, sE, sF, ne_eq, Bool.not_eq_eq_eq_not, Bool.not_true, Bool.not_false, sK, sL, Bool.not_not, gt_iff_lt, ge_iff_le] at hco8
         refine W.exit ?_
         refine At.then_x ?_
         refine At.loop_x ?_
         refine At.blk_x ?_
         refine At.sub [(1, _), (2, _), (3, _), (9, _), (12, _), (13, _), (14, _)] ⟨rfl, rfl, rfl, rfl, rfl, rfl, rfl, trivial⟩ ?_
         refine At.cut_n ?_
         exact ⟨_, _, rfl, by rw [← pre_done hk (.inr (by omega))]; exact ho, M⟩
       ·
        try simp only [sA, sB, sC, sD, sE, sF, ne_eq, Bool.not_eq_eq_eq_not, Bool.not_true, Bool.not_false, sK, sL, Bool.not_not, gt_iff_lt, ge_iff_le] at hsp2
        refine Ex.skip_ rfl rfl rfl ?_
        refine Ex.skip_ rfl rfl rfl ?_
        refine Ex.skip_ rfl rfl rfl ?_
        refine Ex.skip_ rfl rfl rfl ?_
        refine Ex.skip_ rfl rfl rfl ?_
        refine Ex.skip_ rfl rfl rfl ?_
        refine Ex.skip_ rfl rfl rfl ?_
        refine Ex.skip_ rfl rfl rfl ?_
        refine Ex.skip_ rfl rfl rfl ?_
        refine x_pickF rfl rfl rfl rfl rfl ?_
        refine Ex.done (hK _ _ ?_)
        refine At.then_n ?_
        refine W.condF rfl ?_
        refine W.exit ?_
        refine At.then_x ?_
        refine At.loop_x ?_
        refine At.blk_x ?_
        refine At.sub [(1, _), (2, _), (3, _), (9, _), (12, _), (13, _), (14, _)] ⟨rfl, rfl, rfl, rfl, rfl, rfl, rfl, trivial⟩ ?_
        refine At.cut_n ?_
        exact ⟨_, _, rfl, by rw [← pre_done hk (.inl (List.length_eq_zero_iff.1 (by omega)))]; exact ho, M⟩
      rintro F1 wc ⟨v2, L2, rfl, ho, M⟩
      obtain ⟨p2, c2, rfl⟩ := ho.shape
      refine W.seq ?_
      refine W.sub [(1, _), (2, _), (3, _), (9, _), (12, _), (13, _), (14, _)] ⟨rfl, rfl, rfl, rfl, rfl, rfl, rfl, trivial⟩ ?_
      refine W.reg [(0, false)] (by kernel_rfl) ?_
      intro K hK
      refine x_assign rfl rfl rfl rfl ?_
      refine Ex.done (hK _ _ ?_)
      refine At.then_n ?_
      refine W.block ?_
      have hpl2 : (preB b x.o.d x.o.a.toNat).length ≤ 65536 := pre_len2 (hda.imp id fun h => h.2) hbl
      refine W.loop (σ := Nat × List (Nat × Obj)) (fun q => [(1, _), (2, _), (3, _), (9, _), (12, _), (13, _), (14, _), (16, .int .i64 ((q.1 : Nat) : Int))]) (fun q w => q.1 ≤ x.o.d.length ∧ OwL q.2 (.slice p2 (preB b x.o.d x.o.a.toNat).length c2) 1 (preB b x.o.d x.o.a.toNat).length (byteCs (overB (preB b x.o.d x.o.a.toNat) (x.o.d.take q.1) x.o.a.toNat)) ∧ OvW w0 (q.2 ++ ((bal1, .cells (opC (opH x.o) (.slice pd x.o.d.length cd)).toArray 52 (0, 0)) :: Y)) I (laB ((finB b x.o.d x.o.a.toNat))) hf3b w) (fun q => x.o.d.length - q.1) (0, L2) ⟨rfl, rfl, rfl, rfl, rfl, rfl, rfl, rfl, trivial⟩ ⟨Nat.zero_le _, by simp only; rw [over_zero]; exact ho, M⟩ ?_
      rintro ⟨q, L3⟩ w ⟨hq, ho, M⟩
      simp only at hq ho M
      refine W.seq ?_
      refine W.seq ?_
      refine W.sub [(1, _), (2, _), (3, _), (9, _), (12, _), (13, _), (14, _), (16, _)] ⟨rfl, rfl, rfl, rfl, rfl, rfl, rfl, rfl, trivial⟩ ?_
      refine W.reg [(0, false), (1, false), (2, false), (3, false), (4, false)] (by kernel_rfl) ?_
      intro K hK
      refine x_move rfl rfl rfl rfl ?_
      refine x_fa rfl rfl rfl fo52_8 rfl ?_
      refine x_ld rfl rfl rfl Tryz.underlying27 rfl rfl (cell_of (M.get (x := (bal1, .cells (opC (opH x.o) (.slice pd x.o.d.length cd)).toArray 52 (0, 0))) (by simp)) rfl) ?_
      refine x_len rfl rfl rfl rfl Tryz.underlying27 rfl ?_
      refine x_lss _ rfl rfl rfl rfl rfl rfl ?_
      refine Ex.done (hK _ _ ?_)
      refine At.then_n ?_
      refine W.cond rfl (fun hco10 => ?_) (fun hco10 => ?_)
      ·try simp only [sA, sB, sC, sD, sE, sF, ne_eq, Bool.not_eq_eq_eq_not, Bool.not_true, Bool.not_false, sK, sL, Bool.not_not, gt_iff_lt, ge_iff_le] at hco10
       obtain ⟨c, hc⟩ := get_lt (l := x.o.d) (q := q) (by (try simp only [opH] at hco10); omega)
       have hql : q < x.o.d.length := (List.getElem?_eq_some_iff.1 hc).1
       have hne : x.o.d ≠ [] := by intro e; rw [e] at hql; simp at hql
       have hda2 := hda.resolve_left hne
       have hpl := pre_len (b := b) (a := x.o.a.toNat) hne
       obtain ⟨blk, cap, rest, T, hv, rfl, hset⟩ := bytes_set (j := x.o.a.toNat + q) (c := c) ho (by rw [overB_len (by rw [List.length_take]; omega)]; omega)
       cases hv
       obtain ⟨bd, od, rfl, _⟩ := hbx.blk (j := q) hql
       refine W.skip ?_
       refine At.then_n ?_
       refine W.seq ?_
       refine W.block ?_
       refine W.sub [(1, _), (2, _), (3, _), (9, _), (12, _), (13, _), (14, _), (16, _)] ⟨rfl, rfl, rfl, rfl, rfl, rfl, rfl, rfl, trivial⟩ ?_
       refine W.regD (by kernel_rfl) #[0, 0, 2, 0, 14, 0, 32, 0, 224, 480, 1023, 2047] [(0, false), (1, false), (2, false), (3, false), (4, false), (5, false), (6, false), (7, false), (8, false), (9, false), (10, false), (11, true)] (by kernel_rfl) ?_
       intro K wD1 hK hwD1
       have M := M.drew hwD1
       refine x_move rfl rfl rfl rfl ?_
       refine x_fa rfl rfl rfl fo52_4 rfl ?_
       refine x_ld rfl rfl rfl Tryz.underlying3 rfl rfl (cell_of (M.get (x := (bal1, .cells (opC (opH x.o) (.slice (some ⟨bd, od, none⟩) x.o.d.length cd)).toArray 52 (0, 0))) (by simp)) rfl) ?_
       refine x_move rfl rfl rfl rfl ?_
       refine x_add ((x.o.a.toNat + q : Nat) : Int) rfl rfl rfl rfl rfl (by simp only [opH]; rw [wadd (by omega) (by omega)]; omega) ?_
       refine x_fa rfl rfl rfl fo52_8 rfl ?_
       refine x_ld rfl rfl rfl Tryz.underlying27 rfl rfl (cell_of (M.get (x := (bal1, .cells (opC (opH x.o) (.slice (some ⟨bd, od, none⟩) x.o.d.length cd)).toArray 52 (0, 0))) (by simp)) rfl) ?_
       refine x_move rfl rfl rfl rfl ?_
       refine x_ia q rfl rfl rfl Tryz.underlying27 sz5 rfl rfl rfl (by omega) ?_
       refine x_ld rfl rfl rfl Tryz.underlying5 rfl rfl (Sl.cell1 ((hbx.new M.frm).sl (by omega)) (byteCs_get hc)) ?_
       refine x_ia (x.o.a.toNat + q) rfl rfl rfl Tryz.underlying27 sz5 rfl rfl rfl (by omega) ?_
       refine x_st [_] _ rfl rfl rfl sz5 rfl rfl rfl rfl (M.at_ 0 rfl) rfl (Nat.ble_eq_true_of_le (by rw [List.length_append, byteCs_len, overB_len (by rw [List.length_take]; omega)]; simp only [List.length_cons, List.length_nil]; omega)) rfl ?_
       intro wst4 hwst4
       have M : OvW w0 (([(blk, _)] : List (Nat × Obj)) ++ ((bal1, .cells (opC (opH x.o) (.slice (some ⟨bd, od, none⟩) x.o.d.length cd)).toArray 52 (0, 0)) :: Y)) I (laB ((finB b x.o.d x.o.a.toNat))) hf3b wst4 := M.put 0 rfl hwst4
       refine ⟨⟨.inl (by kernel_rfl), .inl (by kernel_rfl), .inl (by kernel_rfl), trivial⟩, ?_⟩
       refine Ex.done (hK _ _ ?_)
       refine At.blk_n ?_
       refine At.then_n ?_
       refine W.sub [(1, _), (2, _), (3, _), (9, _), (12, _), (13, _), (14, _), (16, _)] ⟨rfl, rfl, rfl, rfl, rfl, rfl, rfl, rfl, trivial⟩ ?_
       refine W.reg [(0, false), (1, false), (2, false)] (by kernel_rfl) ?_
       intro K hK
       refine x_move rfl rfl rfl rfl ?_
       refine x_add _ rfl rfl rfl rfl rfl (wadd (by omega) (by omega)) ?_
       refine x_assign rfl rfl rfl rfl ?_
       refine Ex.done (hK _ _ ?_)
       exact At.back ((q + 1, _)) ⟨rfl, rfl, rfl, rfl, rfl, rfl, rfl, rfl, trivial⟩ ⟨by simp only; omega, by simp only; rw [over_step hc hpl]; exact hset, M⟩ (by first | omega | (simp only; omega) | (simp; done) | (simp; omega))
      ·try simp only [sA, sB, sC, sD, sE, sF, ne_eq, Bool.not_eq_eq_eq_not, Bool.not_true, Bool.not_false, sK, sL, Bool.not_not, gt_iff_lt, ge_iff_le] at hco10
       have hq2 : q = x.o.d.length := by (try simp only [opH] at hco10); omega
       rw [hq2, List.take_length, fin_over] at ho
       have hfl := finB_len (b := b) (hda.imp id fun h => h.2) hbl
       have hpf : (preB b x.o.d x.o.a.toNat).length = (finB b x.o.d x.o.a.toNat).length := (fin_len (hda.imp id fun h => h.2)).symm
       refine W.exit ?_
       refine At.then_x ?_
       refine At.loop_x ?_
       refine At.blk_x ?_
       refine At.blk_n ?_
       refine At.blk_n ?_
       refine At.then_n ?_
       refine W.sub [(1, _), (2, _), (3, _), (9, _), (12, _), (13, _)] ⟨rfl, rfl, rfl, rfl, rfl, rfl, trivial⟩ ?_
       refine W.reg [(0, false), (1, false), (2, false)] (by kernel_rfl) ?_
       intro K hK
       refine x_move rfl rfl rfl rfl ?_
       refine x_add _ rfl rfl rfl rfl rfl (wadd (by omega) (by omega)) ?_
       refine x_assign rfl rfl rfl rfl ?_
       refine Ex.done (hK _ _ ?_)
       exact At.back ((j + 1, (finB b x.o.d x.o.a.toNat), _, L3, _)) ⟨rfl, rfl, rfl, rfl, rfl, rfl, trivial⟩ ⟨by simp only; omega, hfl, by unfold BytesO; simp only; rw [← hpf]; exact ho, M⟩ (by first | omega | (simp only; omega) | (simp; done) | (simp; omega))
    ·try simp only [sA, sB, sC, sD, sE, sF, ne_eq, Bool.not_eq_eq_eq_not, Bool.not_true, Bool.not_false, sK, sL, Bool.not_not, gt_iff_lt, ge_iff_le] at hco5
     refine W.seq ?_
     refine W.sub [(1, _), (2, _), (3, _), (9, _), (12, _), (13, _), (14, _), (66, _)] ⟨rfl, rfl, rfl, rfl, rfl, rfl, rfl, rfl, trivial⟩ ?_
     refine W.reg [(0, false), (1, false)] (by kernel_rfl) ?_
     intro K hK
     refine x_eqi _ rfl rfl rfl rfl rfl rfl ?_
     refine x_assign rfl rfl rfl rfl ?_
     refine Ex.done (hK _ _ ?_)
     refine At.then_n ?_
     refine W.cond rfl (fun hco11 => ?_) (fun hco11 => ?_)
     ·try simp only [sA, sB, sC, sD, sE, sF, ne_eq, Bool.not_eq_eq_eq_not, Bool.not_true, Bool.not_false, sK, sL, Bool.not_not, gt_iff_lt, ge_iff_le] at hco11
      refine W.seq ?_
      refine W.seq ?_
      refine W.sub [(1, _), (2, _), (3, _), (9, _), (12, _), (13, _), (14, _)] ⟨rfl, rfl, rfl, rfl, rfl, rfl, rfl, trivial⟩ ?_
      refine W.reg [(0, false), (1, false), (2, true), (3, false), (4, false)] (by kernel_rfl) ?_
      intro K hK
      refine x_move rfl rfl rfl rfl ?_
      refine x_ldA [_, _, _, _, _, _, _, _, _] rfl rfl rfl Tryz.underlying52 rfl sz52 rfl rfl ⟨_, _, _, M.at_ 0 rfl, rfl⟩ ?_
      refine x_call rfl rfl rfl rfl rfl en16 (do_o (o := opH x.o) (who := 3) (dv := .slice pd x.o.d.length cd) M (fun w Y hY _ => hbx.new hY.frm)) ?_
      rintro r_ wcall7 ⟨pcall7, ccall7, qcall7, dcall7, ncall7, Lacall7, Lbcall7, rfl, hbcall7, hscall7, M⟩
      have hwr := tr_b (o := x.o) hbl hco11
      generalize hR : doS (laB b) hf3b 3 (opH x.o) = R at *
      refine ⟨trivial, ?_⟩
      refine x_fd (k := 0) rfl rfl rfl (by kernel_rfl) rfl rfl ?_
      refine x_nei _ rfl rfl rfl rfl rfl rfl ?_
      refine Ex.done (hK _ _ ?_)
      refine At.then_n ?_
      refine W.cond rfl (fun hco12 => ?_) (fun hco12 => ?_)
      ·try simp only [sA, sB, sC, sD, sE, sF, ne_eq, Bool.not_eq_eq_eq_not, Bool.not_true, Bool.not_false, sK, sL, Bool.not_not, gt_iff_lt, ge_iff_le] at hco12
       rcases hwr with ⟨_, hE⟩ | ⟨h1, _⟩
       rotate_left
       ·exact absurd h1 hco12
       rw [hE] at M
       refine W.exit ?_
       refine At.then_x ?_
       refine At.blk_y rfl ?_
       refine At.blk_x ?_
       refine At.then_n ?_
       refine W.sub [(1, _), (2, _), (3, _), (9, _), (12, _), (13, _)] ⟨rfl, rfl, rfl, rfl, rfl, rfl, trivial⟩ ?_
       refine W.reg [(0, false), (1, false), (2, false)] (by kernel_rfl) ?_
       intro K hK
       refine x_move rfl rfl rfl rfl ?_
       refine x_add _ rfl rfl rfl rfl rfl (wadd (by omega) (by omega)) ?_
       refine x_assign rfl rfl rfl rfl ?_
       refine Ex.done (hK _ _ ?_)
       exact At.back ((j + 1, b, _, Lo, Y)) ⟨rfl, rfl, rfl, rfl, rfl, rfl, trivial⟩ ⟨by simp only; omega, hbl, ho, M.dropL.dropL.tail⟩ (by first | omega | (simp only; omega) | (simp; done) | (simp; omega))
      ·try simp only [sA, sB, sC, sD, sE, sF, ne_eq, Bool.not_eq_eq_eq_not, Bool.not_true, Bool.not_false, sK, sL, Bool.not_not, gt_iff_lt, ge_iff_le] at hco12
       rcases hwr with ⟨h1, _⟩ | ⟨h1, hn0, hn1, hE⟩
       ·exact absurd hco12 h1
       rw [hE] at M
       refine W.skip ?_
       refine At.then_n ?_
       refine W.seq ?_
       refine W.block ?_
       have M : OvW w0 (Lo ++ ((bal1, .cells (opC (opH x.o) (.slice pd x.o.d.length cd)).toArray 52 (0, 0)) :: Y)) I (laB (sizedB b x.o.n.toNat)) hf3b _ := M.dropL.dropL.perm (perm_c fun p => by simp only [List.countP_append, List.countP_cons]; omega)
       refine W.loop (σ := Nat × Value × List (Nat × Obj)) (fun q => [(1, _), (2, _), (3, _), (9, _), (12, q.2.1), (13, _), (14, _)]) (fun q w => BytesO q.2.2 q.2.1 (b ++ List.replicate q.1 0) ∧ (q.1 = 0 ∨ b.length + q.1 ≤ x.o.n.toNat) ∧ OvW w0 (q.2.2 ++ ((bal1, .cells (opC (opH x.o) (.slice pd x.o.d.length cd)).toArray 52 (0, 0)) :: Y)) I (laB (sizedB b x.o.n.toNat)) hf3b w) (fun q => x.o.n.toNat - (b.length + q.1)) (0, _, Lo) ⟨rfl, rfl, rfl, rfl, rfl, rfl, rfl, trivial⟩ ⟨by simpa using ho, .inl rfl, M⟩ ?_
       rintro ⟨k, v2, L2⟩ w ⟨ho, hk, M⟩
       simp only at ho hk M
       obtain ⟨p2, c2, rfl, hc2⟩ := ho.shape2 (by decide)
       have hbk : (b ++ List.replicate k 0).length = b.length + k := by simp
       refine W.seq ?_
       refine W.seq ?_
       refine W.sub [(1, _), (2, _), (3, _), (9, _), (12, _), (13, _), (14, _)] ⟨rfl, rfl, rfl, rfl, rfl, rfl, rfl, trivial⟩ ?_
       refine W.reg [(0, false), (1, false), (2, false), (3, false), (4, false)] (by kernel_rfl) ?_
       intro K hK
       refine x_move rfl rfl rfl rfl ?_
       refine x_len rfl rfl rfl rfl Tryz.underlying27 rfl ?_
       refine x_fa rfl rfl rfl fo52_5 rfl ?_
       refine x_ld rfl rfl rfl Tryz.underlying3 rfl rfl (cell_of (M.get (x := (bal1, .cells (opC (opH x.o) (.slice pd x.o.d.length cd)).toArray 52 (0, 0))) (by simp)) rfl) ?_
       refine x_lss _ rfl rfl rfl rfl rfl rfl ?_
       refine Ex.done (hK _ _ ?_)
       refine At.then_n ?_
       refine W.cond rfl (fun hco13 => ?_) (fun hco13 => ?_)
       ·try simp only [sA, sB, sC, sD, sE, sF, ne_eq, Bool.not_eq_eq_eq_not, Bool.not_true, Bool.not_false, sK, sL, Bool.not_not, gt_iff_lt, ge_iff_le] at hco13
        have h13 : (((b ++ List.replicate k 0).length : Nat) : Int) < x.o.n := hco13
        rw [hbk] at h13
        refine W.skip ?_
        refine At.then_n ?_
        refine W.block ?_
        refine W.sub [(1, _), (2, _), (3, _), (9, _), (12, _), (13, _), (14, _)] ⟨rfl, rfl, rfl, rfl, rfl, rfl, rfl, trivial⟩ ?_
        refine W.reg [(0, false), (1, true), (2, true), (3, false)] (by kernel_rfl) ?_
        intro K hK
        refine x_move rfl rfl rfl rfl ?_
        refine x_bs1 (cs := [.int .u8 0]) rfl rfl rfl Tryz.underlying27 sz5 ze5 (Z := [_]) rfl rfl (by decide) (by decide) rfl rfl rfl ?_
        intro bbs4 wbs4 hbbs4 hwbs4
        have M := M.acons hbbs4 hwbs4
        have hslbs4 : Sl wbs4 (.slice (some ⟨bbs4, 0, none⟩) 1 1) 1 1 [.int .u8 0] := .inr ⟨bbs4, 0, 1, _, _, _, rfl, Nat.le_refl _, M.at_ 0 rfl, rfl, rfl⟩
        have M := M.tail
        refine ⟨trivial, ?_⟩
        obtain ⟨S_, L_, hF_, hB_, M⟩ := M
        rw [List.append_assoc] at M
        refine x_apL (L := L2) (cs := byteCs (b ++ List.replicate k 0)) rfl rfl rfl rfl Tryz.underlying27 sz5 ze5 rfl by5 rfl rfl ho M (byteCs_one _) ((Sg_of_sl hslbs4).src Tryz.underlying27 (by intro u hu; rw [List.mem_singleton.1 hu]; rfl)) (by omega) (by decide) (by omega) ?_
        intro L3 v3 w3 ho3 M
        have ho3 : BytesO L3 v3 ((b ++ List.replicate k 0) ++ [0]) := bytesO_app (y := [0]) ho3 rfl
        rw [← List.append_assoc] at M
        rw [List.append_assoc, ← List.replicate_succ'] at ho3
        have M : OvW w0 (L3 ++ ((bal1, .cells (opC (opH x.o) (.slice pd x.o.d.length cd)).toArray 52 (0, 0)) :: Y)) I (laB (sizedB b x.o.n.toNat)) hf3b w3 := ⟨S_, L_, hF_, hB_, M⟩
        refine ⟨trivial, ?_⟩
        refine x_assign rfl rfl rfl rfl ?_
        refine Ex.done (hK _ _ ?_)
        refine At.blk_n ?_
        exact At.back ((k + 1, _, _)) ⟨rfl, rfl, rfl, rfl, rfl, rfl, rfl, trivial⟩ ⟨ho3, .inr (by have h13 : (((b ++ List.replicate k 0).length : Nat) : Int) < x.o.n := hco13; rw [hbk] at h13; simp only; omega), M⟩ (by first | omega | (simp only; omega) | (simp; done) | (simp; omega))
       ·try simp only [sA, sB, sC, sD, sE, sF, ne_eq, Bool.not_eq_eq_eq_not, Bool.not_true, Bool.not_false, sK, sL, Bool.not_not, gt_iff_lt, ge_iff_le] at hco13
        refine W.exit ?_
        refine At.then_x ?_
        refine At.loop_x ?_
        refine At.blk_x ?_
        refine At.then_n ?_
        refine W.sub [(1, _), (2, _), (3, _), (9, _), (12, _), (13, _), (14, _)] ⟨rfl, rfl, rfl, rfl, rfl, rfl, rfl, trivial⟩ ?_
        refine W.reg [(0, false), (1, false), (2, false), (3, false), (4, false)] (by kernel_rfl) ?_
        intro K hK
        refine x_move rfl rfl rfl rfl ?_
        refine x_fa rfl rfl rfl fo52_5 rfl ?_
        refine x_ld rfl rfl rfl Tryz.underlying3 rfl rfl (cell_of (M.get (x := (bal1, .cells (opC (opH x.o) (.slice pd x.o.d.length cd)).toArray 52 (0, 0))) (by simp)) rfl) ?_
        refine x_slh x.o.n.toNat rfl rfl rfl Tryz.underlying27 sz5 rfl rfl (by simp only [opH]; omega) (by simp only [opH] at hco13; omega) ?_
        refine x_assign rfl rfl rfl rfl ?_
        refine Ex.done (hK _ _ ?_)
        refine At.blk_n ?_
        refine At.blk_n ?_
        refine At.then_n ?_
        refine W.sub [(1, _), (2, _), (3, _), (9, _), (12, _), (13, _)] ⟨rfl, rfl, rfl, rfl, rfl, rfl, trivial⟩ ?_
        refine W.reg [(0, false), (1, false), (2, false)] (by kernel_rfl) ?_
        intro K hK
        refine x_move rfl rfl rfl rfl ?_
        refine x_add _ rfl rfl rfl rfl rfl (wadd (by omega) (by omega)) ?_
        refine x_assign rfl rfl rfl rfl ?_
        refine Ex.done (hK _ _ ?_)
        exact At.back ((j + 1, sizedB b x.o.n.toNat, _, L2, _)) ⟨rfl, rfl, rfl, rfl, rfl, rfl, trivial⟩ ⟨by simp only; omega, by rw [sizedB_len]; omega, bytes_cut ho (by simp only [opH] at hco13; omega) hk, M⟩ (by first | omega | (simp only; omega) | (simp; done) | (simp; omega))
     ·try simp only [sA, sB, sC, sD, sE, sF, ne_eq, Bool.not_eq_eq_eq_not, Bool.not_true, Bool.not_false, sK, sL, Bool.not_not, gt_iff_lt, ge_iff_le] at hco11
      refine W.skip ?_
      refine At.blk_n ?_
      refine At.blk_n ?_
      refine At.then_n ?_
      refine W.sub [(1, _), (2, _), (3, _), (9, _), (12, _), (13, _)] ⟨rfl, rfl, rfl, rfl, rfl, rfl, trivial⟩ ?_
      refine W.reg [(0, false), (1, false), (2, false)] (by kernel_rfl) ?_
      intro K hK
      refine x_move rfl rfl rfl rfl ?_
      refine x_add _ rfl rfl rfl rfl rfl (wadd (by omega) (by omega)) ?_
      refine x_assign rfl rfl rfl rfl ?_
      refine Ex.done (hK _ _ ?_)
      exact At.back ((j + 1, b, _, Lo, _)) ⟨rfl, rfl, rfl, rfl, rfl, rfl, trivial⟩ ⟨by simp only; omega, hbl, ho, M.tail⟩ (by first | omega | (simp only; omega) | (simp; done) | (simp; omega))
   ·try simp only [sA, sB, sC, sD, sE, sF, ne_eq, Bool.not_eq_eq_eq_not, Bool.not_true, Bool.not_false, sK, sL, Bool.not_not, gt_iff_lt, ge_iff_le] at hco4
    have hj2 : j = al.length := by omega
    refine W.exit ?_
    refine At.then_x ?_
    refine At.loop_x ?_
    refine At.blk_x ?_
    refine At.then_n ?_
    refine W.seq ?_
    refine W.sub [(2, _), (3, _), (9, _), (12, _)] ⟨rfl, rfl, rfl, rfl, trivial⟩ ?_
    refine W.reg [(0, false), (1, false), (2, false), (3, false), (4, true), (5, true), (6, true)] (by kernel_rfl) ?_
    intro K hK
    refine x_move rfl rfl rfl rfl ?_
    refine x_move rfl rfl rfl rfl ?_
    refine x_move rfl rfl rfl rfl ?_
    refine x_build [_, _, _, _, _, _, _, _, _] rfl rfl rfl pl52 ze52 rfl rfl rfl ?_
    refine x_call rfl rfl rfl rfl rfl en16 (do_e (who := 3) (o := bo6 at_ n) (dv := .slice none 0 0) M (fun _ _ _ _ => .inr (.inl ⟨rfl, rfl, rfl⟩)) (rd_b (b := b) at_ n)) ?_
    rintro r_ wcall8 ⟨pcall8, ccall8, qcall8, dcall8, ncall8, Lacall8, Lbcall8, rfl, hbcall8, hscall8, M⟩
    refine ⟨trivial, ?_⟩
    refine x_alloc [_, _, _, _, _] rfl rfl rfl ze49 rfl ?_
    intro bal3 wal3 hbal3 hwal3
    have M := M.acons hbal3 hwal3
    refine ⟨trivial, ?_⟩
    refine x_st [_, _, _, _, _] _ rfl rfl rfl sz49 rfl rfl rfl rfl (by first | exact M.at_ 0 rfl | exact M.at_ 1 rfl | exact M.at_ 2 rfl | exact M.at_ 3 rfl | exact M.at_ 4 rfl | exact M.at_ 5 rfl | exact M.at_ 6 rfl | exact M.at_ 7 rfl) rfl rfl rfl ?_
    intro wst5 hwst5
    have M := by first | exact M.put 0 rfl hwst5 | exact M.put 1 rfl hwst5 | exact M.put 2 rfl hwst5 | exact M.put 3 rfl hwst5 | exact M.put 4 rfl hwst5 | exact M.put 5 rfl hwst5 | exact M.put 6 rfl hwst5 | exact M.put 7 rfl hwst5
    refine ⟨trivial, ?_⟩
    refine Ex.done (hK _ _ ?_)
    refine At.then_n ?_
    refine W.seq ?_
    refine W.seq ?_
    refine W.sub [(2, _), (3, _), (9, _), (12, _), (17, _)] ⟨rfl, rfl, rfl, rfl, rfl, trivial⟩ ?_
    refine W.reg [(0, false), (1, false), (2, false), (3, false), (4, false), (5, false)] (by kernel_rfl) ?_
    intro K hK
    refine x_move rfl rfl rfl rfl ?_
    refine x_lss _ rfl rfl rfl rfl rfl rfl ?_
    refine x_move rfl rfl rfl rfl ?_
    refine Ex.split 143 rfl (fun hsp3 => ?_) (fun hsp3 => ?_)
    ·
     try simp only [sA, sB, sC, sD, sE, sF, ne_eq, Bool.not_eq_eq_eq_not, Bool.not_true, Bool.not_false, sK, sL, Bool.not_not, gt_iff_lt, ge_iff_le] at hsp3
     have hrd : rdB b at_ n = badS 2 := rdB_bad (.inl hsp3)
     refine Ex.skip_ rfl rfl rfl ?_
     refine Ex.skip_ rfl rfl rfl ?_
     refine x_pickT rfl rfl rfl rfl rfl ?_
     refine Ex.done (hK _ _ ?_)
     refine At.then_n ?_
     refine W.condT rfl ?_
     refine W.seq ?_
     refine W.sub [(17, _)] ⟨rfl, trivial⟩ ?_
     refine W.reg [(0, false), (1, false), (2, false), (3, false), (4, false), (5, false), (6, false), (7, false), (8, false), (9, false), (10, true), (11, false), (12, false)] (by kernel_rfl) ?_
     intro K hK
     refine x_fa rfl rfl rfl fo49_0 rfl ?_
     refine x_ld rfl rfl rfl Tryz.underlying35 rfl rfl (cell_of (M.get (x := (bal3, .cells [.int .i64 (rdB b at_ n).e, .int .i64 (rdB b at_ n).h, .int .i64 (rdB b at_ n).n, .slice pcall8 (rdB b at_ n).d.length ccall8, .slice qcall8 ncall8 dcall8].toArray 49 (0, 0))) (by simp)) rfl) ?_
     refine x_eqi true rfl rfl rfl rfl rfl (by rw [hrd]; rfl) ?_
     refine x_move rfl rfl rfl rfl ?_
     refine x_fa rfl rfl rfl fo49_3 rfl ?_
     refine x_ld rfl rfl rfl Tryz.underlying27 rfl rfl (cell_of (M.get (x := (bal3, .cells [.int .i64 (rdB b at_ n).e, .int .i64 (rdB b at_ n).h, .int .i64 (rdB b at_ n).n, .slice pcall8 (rdB b at_ n).d.length ccall8, .slice qcall8 ncall8 dcall8].toArray 49 (0, 0))) (by simp)) rfl) ?_
     refine x_len rfl rfl rfl rfl Tryz.underlying27 rfl ?_
     refine x_eqi true rfl rfl rfl rfl rfl (by rw [hrd]; rfl) ?_
     refine x_pickT rfl rfl rfl rfl rfl ?_
     refine x_move rfl rfl rfl rfl ?_
     refine x_call rfl rfl rfl rfl rfl en11 (lives19_c) ?_
     rintro r_ wcall9 ⟨rfl, hncall9⟩
     have M := M.new hncall9
     refine ⟨trivial, ?_⟩
     refine x_pickT rfl rfl rfl rfl rfl ?_
     refine x_assign rfl rfl rfl rfl ?_
     refine Ex.done (hK _ _ ?_)
     refine At.then_n ?_
     refine W.ret ?_
     refine At.then_r ?_
     refine At.ret1 (.tmp 8) rfl ⟨rfl, trivial⟩ ?_
     exact ⟨rfl, M.frm⟩
    ·
     try simp only [sA, sB, sC, sD, sE, sF, ne_eq, Bool.not_eq_eq_eq_not, Bool.not_true, Bool.not_false, sK, sL, Bool.not_not, gt_iff_lt, ge_iff_le] at hsp3
     refine x_move rfl rfl rfl rfl ?_
     refine x_lss _ rfl rfl rfl rfl rfl rfl ?_
     refine x_pickF rfl rfl rfl rfl rfl ?_
     refine Ex.done (hK _ _ ?_)
     refine At.then_n ?_
     refine W.cond rfl (fun hco15 => ?_) (fun hco15 => ?_)
     ·try simp only [sA, sB, sC, sD, sE, sF, ne_eq, Bool.not_eq_eq_eq_not, Bool.not_true, Bool.not_false, sK, sL, Bool.not_not, gt_iff_lt, ge_iff_le] at hco15
      have hrd : rdB b at_ n = badS 2 := rdB_bad (.inr hco15)
      refine W.seq ?_
      refine W.sub [(17, _)] ⟨rfl, trivial⟩ ?_
      refine W.reg [(0, false), (1, false), (2, false), (3, false), (4, false), (5, false), (6, false), (7, false), (8, false), (9, false), (10, true), (11, false), (12, false)] (by kernel_rfl) ?_
      intro K hK
      refine x_fa rfl rfl rfl fo49_0 rfl ?_
      refine x_ld rfl rfl rfl Tryz.underlying35 rfl rfl (cell_of (M.get (x := (bal3, .cells [.int .i64 (rdB b at_ n).e, .int .i64 (rdB b at_ n).h, .int .i64 (rdB b at_ n).n, .slice pcall8 (rdB b at_ n).d.length ccall8, .slice qcall8 ncall8 dcall8].toArray 49 (0, 0))) (by simp)) rfl) ?_
      refine x_eqi true rfl rfl rfl rfl rfl (by rw [hrd]; rfl) ?_
      refine x_move rfl rfl rfl rfl ?_
      refine x_fa rfl rfl rfl fo49_3 rfl ?_
      refine x_ld rfl rfl rfl Tryz.underlying27 rfl rfl (cell_of (M.get (x := (bal3, .cells [.int .i64 (rdB b at_ n).e, .int .i64 (rdB b at_ n).h, .int .i64 (rdB b at_ n).n, .slice pcall8 (rdB b at_ n).d.length ccall8, .slice qcall8 ncall8 dcall8].toArray 49 (0, 0))) (by simp)) rfl) ?_
      refine x_len rfl rfl rfl rfl Tryz.underlying27 rfl ?_
      refine x_eqi true rfl rfl rfl rfl rfl (by rw [hrd]; rfl) ?_
      refine x_pickT rfl rfl rfl rfl rfl ?_
      refine x_move rfl rfl rfl rfl ?_
      refine x_call rfl rfl rfl rfl rfl en11 (lives19_c) ?_
      rintro r_ wcall10 ⟨rfl, hncall10⟩
      have M := M.new hncall10
      refine ⟨trivial, ?_⟩
      refine x_pickT rfl rfl rfl rfl rfl ?_
      refine x_assign rfl rfl rfl rfl ?_
      refine Ex.done (hK _ _ ?_)
      refine At.then_n ?_
      refine W.ret ?_
      refine At.then_r ?_
      refine At.ret1 (.tmp 8) rfl ⟨rfl, trivial⟩ ?_
      exact ⟨rfl, M.frm⟩
     ·try simp only [sA, sB, sC, sD, sE, sF, ne_eq, Bool.not_eq_eq_eq_not, Bool.not_true, Bool.not_false, sK, sL, Bool.not_not, gt_iff_lt, ge_iff_le] at hco15
      have hrd := rdB_ok (b := b) (a := at_) (n := n) (by omega)
      have hba : BytesAt _ (.slice po b.length co) b := .inr ((OwL.sl ho (by decide)).get (fun y hy => M.get (by simp [hy])))
      have hw1 := Sg.drop hba (j := (min at_.toNat b.length)) (by omega)
      refine W.skip ?_
      refine At.then_n ?_
      refine W.seq ?_
      refine W.sub [(2, _), (3, _), (9, _), (12, _), (17, _)] ⟨rfl, rfl, rfl, rfl, rfl, trivial⟩ ?_
      refine W.reg [(0, false), (1, false), (2, false), (3, false), (4, false), (5, false), (6, false)] (by kernel_rfl) ?_
      intro K hK
      refine x_move rfl rfl rfl rfl ?_
      refine x_move rfl rfl rfl rfl ?_
      refine x_move rfl rfl rfl rfl ?_
      refine x_len rfl rfl rfl rfl Tryz.underlying27 rfl ?_
      refine x_min (((min at_.toNat b.length) : Nat) : Int) rfl rfl rfl rfl rfl (by split <;> omega) ?_
      refine x_sll (min at_.toNat b.length) rfl rfl rfl Tryz.underlying27 sz5 rfl rfl rfl (by omega) ?_
      refine x_assign rfl rfl rfl rfl ?_
      refine Ex.done (hK _ _ ?_)
      refine At.then_n ?_
      refine W.seq ?_
      refine W.sub [(3, _), (9, _), (12, _), (17, _), (18, _)] ⟨rfl, rfl, rfl, rfl, rfl, trivial⟩ ?_
      refine W.reg [(0, false), (1, false), (2, false), (3, false), (4, false), (5, false), (6, false)] (by kernel_rfl) ?_
      intro K hK
      refine x_move rfl rfl rfl rfl ?_
      refine x_move rfl rfl rfl rfl ?_
      refine x_move rfl rfl rfl rfl ?_
      refine x_len rfl rfl rfl rfl Tryz.underlying27 rfl ?_
      refine x_min ((min n.toNat (b.length - (min at_.toNat b.length)) : Nat) : Int) rfl rfl rfl rfl rfl (by split <;> omega) ?_
      refine x_slh (min n.toNat (b.length - (min at_.toNat b.length))) rfl rfl rfl Tryz.underlying27 sz5 rfl rfl rfl (by have := Sg.capLe hba; omega) ?_
      refine x_assign rfl rfl rfl rfl ?_
      refine Ex.done (hK _ _ ?_)
      refine At.then_n ?_
      refine W.seq ?_
      refine W.sub [(9, _), (12, _), (17, _), (18, _)] ⟨rfl, rfl, rfl, rfl, trivial⟩ ?_
      refine W.reg [(0, false), (1, true), (2, false)] (by kernel_rfl) ?_
      intro K hK
      refine x_move rfl rfl rfl rfl ?_
      refine x_call rfl rfl rfl rfl rfl en17 (files_o M) ?_
      rintro r_ wcall11 ⟨pcall11, ccall11, Lcall11, rfl, hlcall11, M⟩
      refine ⟨trivial, ?_⟩
      refine x_assign rfl rfl rfl rfl ?_
      refine Ex.done (hK _ _ ?_)
      refine At.then_n ?_
      refine W.seq ?_
      refine W.sub [(9, _), (12, _), (17, _), (18, _), (19, _)] ⟨rfl, rfl, rfl, rfl, rfl, trivial⟩ ?_
      refine W.regD (by kernel_rfl) #[0, 1, 3, 7, 15, 31, 63, 15, 143, 511, 1023, 2047, 4095, 8191, 16383, 32767, 65535, 131071, 262143, 524287, 1048575, 2097151, 131071, 4325375, 16777215, 33554431, 67108863, 134217727, 268435455, 134217727, 671088639, 2147483647, 4294967295, 8589934591, 17179869183, 34359738367, 68719476735] [(0, false), (1, false), (2, false), (3, false), (4, false), (5, false), (6, false), (7, false), (8, false), (9, false), (10, false), (11, false), (12, false), (13, false), (14, false), (15, false), (16, false), (17, false), (18, false), (19, false), (20, false), (21, false), (22, false), (23, false), (24, false), (25, false), (26, false), (27, false), (29, false), (30, false), (28, true), (31, false), (32, false), (33, false), (34, true), (35, false), (36, false)] (by kernel_rfl) ?_
      intro K wD2 hK hwD2
      have M := M.drew hwD2
      have hba2 : BytesAt wD2 (.slice po b.length co) b := .inr ((OwL.sl ho (by decide)).get (fun y hy => M.get (by simp [hy])))
      have hwant := Sg.take (Sg.drop hba2 (j := (min at_.toNat b.length)) (by omega)) (j := (min n.toNat (b.length - (min at_.toNat b.length)))) (by omega)
      have hwant : BytesAt wD2 _ ((b.drop (min at_.toNat b.length)).take (min n.toNat (b.length - (min at_.toNat b.length)))) := bytes_sub2 hwant
      have hfa := filesO_get hlcall11 (fun y hy => M.get (by simp [hy]))
      obtain ⟨b9, o9, rfl, _⟩ := hfa.blk (j := 0) (show 0 < 1 by decide)
      obtain ⟨p90, c90, hr9, hb90⟩ := hfa.row (j := 0) (x := ([97], false, b)) rfl
      refine x_fa rfl rfl rfl fo49_0 rfl ?_
      refine x_ld rfl rfl rfl Tryz.underlying35 rfl rfl (cell_of (M.get (x := (bal3, .cells [.int .i64 (rdB b at_ n).e, .int .i64 (rdB b at_ n).h, .int .i64 (rdB b at_ n).n, .slice pcall8 (rdB b at_ n).d.length ccall8, .slice qcall8 ncall8 dcall8].toArray 49 (0, 0))) (by simp)) rfl) ?_
      refine x_eqi true rfl rfl rfl rfl rfl (by rw [hrd]; rfl) ?_
      refine x_move rfl rfl rfl rfl ?_
      refine x_fa rfl rfl rfl fo49_3 rfl ?_
      refine x_ld rfl rfl rfl Tryz.underlying27 rfl rfl (cell_of (M.get (x := (bal3, .cells [.int .i64 (rdB b at_ n).e, .int .i64 (rdB b at_ n).h, .int .i64 (rdB b at_ n).n, .slice pcall8 (rdB b at_ n).d.length ccall8, .slice qcall8 ncall8 dcall8].toArray 49 (0, 0))) (by simp)) rfl) ?_
      refine x_cvbs _ rfl rfl rfl Tryz.underlying27 Tryz.underlying5 Tryz.underlying9 rfl (strOf_bytes (bytesO_get hbcall8 (fun y hy => M.get (by simp [hy])))) ?_
      refine x_move rfl rfl rfl rfl ?_
      refine x_cvbs _ rfl rfl rfl Tryz.underlying27 Tryz.underlying5 Tryz.underlying9 rfl (strOf_bytes hwant) ?_
      refine x_eqS true rfl rfl rfl rfl rfl (by rw [hrd]; exact decide_eq_true rd_eq.symm) ?_
      refine x_pickT rfl rfl rfl rfl rfl ?_
      refine x_move rfl rfl rfl rfl ?_
      refine x_move rfl rfl rfl rfl ?_
      refine x_len rfl rfl rfl rfl Tryz.underlying24 rfl ?_
      refine x_eqi true rfl rfl rfl rfl rfl rfl ?_
      refine x_pickT rfl rfl rfl rfl rfl ?_
      refine x_move rfl rfl rfl rfl ?_
      refine x_move rfl rfl rfl rfl ?_
      refine x_ia 0 rfl rfl rfl Tryz.underlying24 sz29 rfl rfl rfl (by show 0 < 1; decide) ?_
      refine x_fa rfl rfl rfl fo29_2 rfl ?_
      refine x_ld rfl rfl rfl Tryz.underlying27 rfl rfl (RowAt.cell hr9 (j := 2) rfl) ?_
      refine x_cvbs _ rfl rfl rfl Tryz.underlying27 Tryz.underlying5 Tryz.underlying9 rfl (strOf_bytes hb90) ?_
      refine x_move rfl rfl rfl rfl ?_
      refine x_cvbs _ rfl rfl rfl Tryz.underlying27 Tryz.underlying5 Tryz.underlying9 rfl (strOf_bytes hba2) ?_
      refine x_eqS true rfl rfl rfl rfl rfl (decide_eq_true rfl) ?_
      refine x_pickT rfl rfl rfl rfl rfl ?_
      refine x_move rfl rfl rfl rfl ?_
      refine x_move rfl rfl rfl rfl ?_
      refine x_move rfl rfl rfl rfl ?_
      refine x_len rfl rfl rfl rfl Tryz.underlying27 rfl ?_
      refine x_call rfl rfl rfl rfl rfl en18 (used_o M) ?_
      rintro r_ wcall12 ⟨rfl, rfl⟩
      refine ⟨⟨.inl (by kernel_rfl), .inl (by kernel_rfl), .inl (by kernel_rfl), .inl (by kernel_rfl), .inl (by kernel_rfl), .inl (by kernel_rfl), .inl (by kernel_rfl), trivial⟩, ?_⟩
      refine x_eqi true rfl rfl rfl rfl rfl (by rw [used_b]; simp) ?_
      refine x_pickT rfl rfl rfl rfl rfl ?_
      refine x_move rfl rfl rfl rfl ?_
      refine x_call rfl rfl rfl rfl rfl en11 (lives19_c) ?_
      rintro r_ wcall13 ⟨rfl, hncall13⟩
      have M := M.new hncall13
      refine ⟨⟨.inl (by kernel_rfl), .inl (by kernel_rfl), .inl (by kernel_rfl), .inl (by kernel_rfl), .inl (by kernel_rfl), .inl (by kernel_rfl), .inl (by kernel_rfl), trivial⟩, ?_⟩
      refine x_pickT rfl rfl rfl rfl rfl ?_
      refine x_assign rfl rfl rfl rfl ?_
      refine Ex.done (hK _ _ ?_)
      refine At.then_n ?_
      refine W.ret ?_
      refine At.ret1 (.tmp 8) rfl ⟨rfl, trivial⟩ ?_
      exact ⟨rfl, M.frm⟩
end Go.Proofs.YtigfbpbnohkokaaGreat

namespace Go.Fw
open Go Go.ChangeShapes Go.WideShapes Go.ChangeAt Go.RowKit
set_option linter.unusedVariables false
set_option linter.unusedSimpArgs false
section
variable {H : Type} {enc : TypeId × Value → H} {P : Program} {W : World} {sp : Nat → Bool}
theorem rd_struct9 {t : TypeId} {f0 f1 f2 f3 f4 f5 f6 f7 f8 : Field} {α0 α1 α2 α3 α4 α5 α6 α7 α8 : Type} {c0 : α0 → Value} {c1 : α1 → Value} {c2 : α2 → Value} {c3 : α3 → Value} {c4 : α4 → Value} {c5 : α5 → Value} {c6 : α6 → Value} {c7 : α7 → Value} {c8 : α8 → Value} {R0 : α0 → DataW H → Prop} {R1 : α1 → DataW H → Prop} {R2 : α2 → DataW H → Prop} {R3 : α3 → DataW H → Prop} {R4 : α4 → DataW H → Prop} {R5 : α5 → DataW H → Prop} {R6 : α6 → DataW H → Prop} {R7 : α7 → DataW H → Prop} {R8 : α8 → DataW H → Prop} (ht : P.underlying t = some (.struct #[f0, f1, f2, f3, f4, f5, f6, f7, f8])) (hc : P.cellsOf t = 9)
  (h0 : f0.offset = 0 ∧ P.cellsOf f0.type = 1) (h1 : f1.offset = 1 ∧ P.cellsOf f1.type = 1) (h2 : f2.offset = 2 ∧ P.cellsOf f2.type = 1) (h3 : f3.offset = 3 ∧ P.cellsOf f3.type = 1) (h4 : f4.offset = 4 ∧ P.cellsOf f4.type = 1) (h5 : f5.offset = 5 ∧ P.cellsOf f5.type = 1) (h6 : f6.offset = 6 ∧ P.cellsOf f6.type = 1) (h7 : f7.offset = 7 ∧ P.cellsOf f7.type = 1) (h8 : f8.offset = 8 ∧ P.cellsOf f8.type = 1) (r0 : Rd enc P W sp f0.type (fun a => [c0 a]) R0) (r1 : Rd enc P W sp f1.type (fun a => [c1 a]) R1) (r2 : Rd enc P W sp f2.type (fun a => [c2 a]) R2) (r3 : Rd enc P W sp f3.type (fun a => [c3 a]) R3) (r4 : Rd enc P W sp f4.type (fun a => [c4 a]) R4) (r5 : Rd enc P W sp f5.type (fun a => [c5 a]) R5) (r6 : Rd enc P W sp f6.type (fun a => [c6 a]) R6) (r7 : Rd enc P W sp f7.type (fun a => [c7 a]) R7) (r8 : Rd enc P W sp f8.type (fun a => [c8 a]) R8) :
  Rd enc P W sp t (fun a : α0 × α1 × α2 × α3 × α4 × α5 × α6 × α7 × α8 => [c0 (a.1), c1 (a.2.1), c2 (a.2.2.1), c3 (a.2.2.2.1), c4 (a.2.2.2.2.1), c5 (a.2.2.2.2.2.1), c6 (a.2.2.2.2.2.2.1), c7 (a.2.2.2.2.2.2.2.1), c8 (a.2.2.2.2.2.2.2.2)]) (fun a d => ∃ d0 d1 d2 d3 d4 d5 d6 d7 d8, d = .agg [d0, d1, d2, d3, d4, d5, d6, d7, d8] ∧ R0 (a.1) d0 ∧ R1 (a.2.1) d1 ∧ R2 (a.2.2.1) d2 ∧ R3 (a.2.2.2.1) d3 ∧ R4 (a.2.2.2.2.1) d4 ∧ R5 (a.2.2.2.2.2.1) d5 ∧ R6 (a.2.2.2.2.2.2.1) d6 ∧ R7 (a.2.2.2.2.2.2.2.1) d7 ∧ R8 (a.2.2.2.2.2.2.2.2) d8) := fun fuel cs x h => by
 obtain ⟨xs, n, _, rfl, hl, hlen, hf⟩ := DataW.trod_struct ht h
 rw [hc] at hl
 match xs, hlen, cs, hl with
 | [y0, y1, y2, y3, y4, y5, y6, y7, y8], _, [u0, u1, u2, u3, u4, u5, u6, u7, u8], _ =>
  have g0 := hf 0 f0 rfl
  rw [h0.1, h0.2] at g0
  obtain ⟨a0, e0, q0⟩ := r0 n [u0] y0 g0
  have g1 := hf 1 f1 rfl
  rw [h1.1, h1.2] at g1
  obtain ⟨a1, e1, q1⟩ := r1 n [u1] y1 g1
  have g2 := hf 2 f2 rfl
  rw [h2.1, h2.2] at g2
  obtain ⟨a2, e2, q2⟩ := r2 n [u2] y2 g2
  have g3 := hf 3 f3 rfl
  rw [h3.1, h3.2] at g3
  obtain ⟨a3, e3, q3⟩ := r3 n [u3] y3 g3
  have g4 := hf 4 f4 rfl
  rw [h4.1, h4.2] at g4
  obtain ⟨a4, e4, q4⟩ := r4 n [u4] y4 g4
  have g5 := hf 5 f5 rfl
  rw [h5.1, h5.2] at g5
  obtain ⟨a5, e5, q5⟩ := r5 n [u5] y5 g5
  have g6 := hf 6 f6 rfl
  rw [h6.1, h6.2] at g6
  obtain ⟨a6, e6, q6⟩ := r6 n [u6] y6 g6
  have g7 := hf 7 f7 rfl
  rw [h7.1, h7.2] at g7
  obtain ⟨a7, e7, q7⟩ := r7 n [u7] y7 g7
  have g8 := hf 8 f8 rfl
  rw [h8.1, h8.2] at g8
  obtain ⟨a8, e8, q8⟩ := r8 n [u8] y8 g8
  simp only [List.cons.injEq, and_true] at e0 e1 e2 e3 e4 e5 e6 e7 e8
  subst e0 e1 e2 e3 e4 e5 e6 e7 e8
  exact ⟨(a0, a1, a2, a3, a4, a5, a6, a7, a8), rfl, y0.1, y1.1, y2.1, y3.1, y4.1, y5.1, y6.1, y7.1, y8.1, rfl, q0, q1, q2, q3, q4, q5, q6, q7, q8⟩
/-- A field of one cell, and one behind it that has more. -/
theorem rd_cons {t : TypeId} {f0 f1 : Field} {m : Nat} {α0 α1 : Type} {c0 : α0 → Value} {e1 : α1 → List Value} {R0 : α0 → DataW H → Prop} {R1 : α1 → DataW H → Prop} (ht : P.underlying t = some (.struct #[f0, f1])) (hc : P.cellsOf t = m + 1)
  (h0 : f0.offset = 0 ∧ P.cellsOf f0.type = 1) (h1 : f1.offset = 1 ∧ P.cellsOf f1.type = m) (r0 : Rd enc P W sp f0.type (fun a => [c0 a]) R0) (r1 : Rd enc P W sp f1.type e1 R1) :
  Rd enc P W sp t (fun a : α0 × α1 => c0 a.1 :: e1 a.2) (fun a d => ∃ d0 d1, d = .agg [d0, d1] ∧ R0 a.1 d0 ∧ R1 a.2 d1) := fun fuel cs x h => by
 obtain ⟨xs, n, _, rfl, hl, hlen, hf⟩ := DataW.trod_struct ht h
 rw [hc] at hl
 match xs, hlen, cs, hl with
 | [y0, y1], _, u0 :: us, hl =>
  have g0 := hf 0 f0 rfl
  rw [h0.1, h0.2] at g0
  obtain ⟨a0, e0, q0⟩ := r0 n [u0] y0 g0
  have g1 := hf 1 f1 rfl
  rw [h1.1, h1.2] at g1
  have hu : ((u0 :: us).drop 1).take m = us := by
   simp only [List.length_cons] at hl
   simp only [List.drop_succ_cons, List.drop_zero]
   exact List.take_of_length_le (by omega)
  rw [hu] at g1
  obtain ⟨a1, e1', q1⟩ := r1 n us y1 g1
  simp only [List.cons.injEq, and_true] at e0
  subst e0
  exact ⟨(a0, a1), by rw [e1'], y0.1, y1.1, rfl, q0, q1⟩
end
end Go.Fw

namespace Go.Proofs.YtigfbpbnohkokaaGreat
open Go Go.Fw Go.ChangeShapes Go.WideShapes Go.ChangeAt Go.RowKit
set_option linter.unusedVariables false
set_option linter.unusedSimpArgs false

theorem cInt : Tryz.prog.cellsOf 3 = 1 := by kernel_rfl
theorem cBool : Tryz.prog.cellsOf 4 = 1 := by kernel_rfl
theorem cBytes : Tryz.prog.cellsOf 27 = 1 := by kernel_rfl
theorem cByte : Tryz.prog.cellsOf 5 = 1 := by kernel_rfl
theorem cOp : Tryz.prog.cellsOf 52 = 9 := by kernel_rfl
section
variable {H : Type} {enc : TypeId × Value → H} {W : World} {sp : Nat → Bool}
abbrev OpV := Int × List UInt8 × List UInt8 × Int × Int × Int × Bool × Bool × (Value × List UInt8)
def toOp (a : OpV) : OpS := ⟨a.1, a.2.1, a.2.2.1, a.2.2.2.1, a.2.2.2.2.1, a.2.2.2.2.2.1, a.2.2.2.2.2.2.1, a.2.2.2.2.2.2.2.1, a.2.2.2.2.2.2.2.2.2⟩
def opE (a : OpV) : List Value := [.int .i64 a.1, strV a.2.1, strV a.2.2.1, .int .i64 a.2.2.2.1, .int .i64 a.2.2.2.2.1, .int .i64 a.2.2.2.2.2.1, .bool a.2.2.2.2.2.2.1, .bool a.2.2.2.2.2.2.2.1, a.2.2.2.2.2.2.2.2.1]
abbrev ActV := Int × OpV
def actE (a : ActV) : List Value := .int .i64 a.1 :: opE a.2
def toAsk (a : ActV) : Ask := ⟨a.1, toOp a.2⟩
def BytesR (W : World) (a : Value × List UInt8) (d : DataW H) : Prop := BytesAt W a.1 a.2
theorem Rd.weak {P : Program} {t : TypeId} {α : Type} {e1 : α → List Value} {R R' : α → DataW H → Prop} (h : Rd enc P W sp t e1 R) (hR : ∀ a d, R a d → R' a d) : Rd enc P W sp t e1 R' := fun fuel cs x hx =>
 let ⟨a, h1, h2⟩ := h fuel cs x hx; ⟨a, h1, hR a _ h2⟩
theorem rd_byt : Rd enc Tryz.prog W sp 27 (fun a : Value × List UInt8 => [a.1]) (BytesR W) := Rd.weak (rd_bytes Tryz.underlying27 Tryz.underlying5 cByte) fun _ _ h => h.1
theorem rd_op : Rd enc Tryz.prog W sp 52 opE (fun a _ => BytesAt W a.2.2.2.2.2.2.2.2.1 a.2.2.2.2.2.2.2.2.2) := fun fuel cs x h => by
 obtain ⟨a, h1, d0, d1, d2, d3, d4, d5, d6, d7, d8, _, _, _, _, _, _, _, _, _, h2⟩ := rd_struct9 (R0 := _) (R1 := _) (R2 := _) (R3 := _) (R4 := _) (R5 := _) (R6 := _) (R7 := _) (R8 := _) Tryz.underlying52 cOp ⟨rfl, cInt⟩ ⟨rfl, cStr⟩ ⟨rfl, cStr⟩ ⟨rfl, cInt⟩ ⟨rfl, cInt⟩ ⟨rfl, cInt⟩ ⟨rfl, cBool⟩ ⟨rfl, cBool⟩ ⟨rfl, cBytes⟩ (rd_int Tryz.underlying3) (rd_string Tryz.underlying9) (rd_string Tryz.underlying9) (rd_int Tryz.underlying3) (rd_int Tryz.underlying3) (rd_int Tryz.underlying3) (rd_bool Tryz.underlying4) (rd_bool Tryz.underlying4) rd_byt fuel cs x h
 exact ⟨a, h1, h2⟩
theorem cAct : Tryz.prog.cellsOf 54 = 9 + 1 := by kernel_rfl
theorem rd_act : Rd enc Tryz.prog W sp 54 actE (fun a _ => BytesAt W a.2.2.2.2.2.2.2.2.2.1 a.2.2.2.2.2.2.2.2.2.2) := fun fuel cs x h => by
 obtain ⟨a, h1, d0, d1, _, _, h2⟩ := rd_cons (R0 := _) (R1 := _) Tryz.underlying54 cAct ⟨rfl, cInt⟩ ⟨rfl, cOp⟩ (rd_int Tryz.underlying3) rd_op fuel cs x h
 exact ⟨a, h1, h2⟩
theorem asks_of {R : ActV → DataW H → Prop} (hR : ∀ a d, R a d → BytesAt W a.2.2.2.2.2.2.2.2.2.1 a.2.2.2.2.2.2.2.2.2.2) {v : Value} {l : List ActV} {d : DataW H} (h : SlR W 10 actE R (v, l) d) : AsksAt W v (l.map toAsk) := by
 obtain ⟨h1, _, h3, _⟩ := h
 refine ⟨l.map fun a => (toAsk a, a.2.2.2.2.2.2.2.2.2.1), by rw [List.map_map]; rfl, ?_, fun f hf => ?_⟩
 ·have e : (l.map fun a => (toAsk a, a.2.2.2.2.2.2.2.2.2.1)).flatMap askC = l.flatMap actE := by rw [List.flatMap_map]; rfl
  rw [e, List.length_map]; exact h1
 ·obtain ⟨a, ha, rfl⟩ := List.mem_map.1 hf
  obtain ⟨_, d', hd⟩ := h3 a ha
  exact hR a d' hd
theorem max_len {α : Type} {l : List α} (h : l.length ≤ maxLen) : l.length ≤ 9223372036854775807 := by unfold maxLen at h; omega
end
end Go.Proofs.YtigfbpbnohkokaaGreat
