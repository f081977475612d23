/-
  Texts that belong together, laid into one file: O37, O38, U30, O39, U31, O40, U32, O41, O42, U33, O43, O44, U34, F0, F2, O45, F3, L1, L2, L3, L4, L5, L6, L7.
-/
import Derived.Test.YtebfjdolgchgaaaQ3
namespace Go.Proofs.Ytebfjdolgchgaaa
open Go Go.Fw Go.RowKit Go.Proofs
set_option linter.unusedVariables false
set_option linter.unusedSimpArgs false
set_option maxRecDepth 100000
set_option maxHeartbeats 4000000

-- (valise/valiseref19.FS).write
theorem fwrite_c {w00 w0 : World} {X L : List (Nat × Obj)} {u : Value} {ph : Option Addr} {nh ch : Nat} {l : List Raw} {x : Opn} {o : OpS} {dv : Value} {d : List UInt8} (M : Sep w00 (X ++ L) w0) (hF : FilesK w00 L u l) (hl : l.length ≤ 128) (hT : TreeL l) (hus : usedL l ≤ 262144) (hp : (x.2.2.1, false, d) ∈ l) (hdv : BytesK w00 L dv o.d) (hod : o.d.length ≤ 131072) : Ret Try.prog 58 #[.agg #[u, .slice ph nh ch], .agg (oR x).toArray, .agg (opC o dv).toArray] w0 fun r w' => ∃ pu' cu' L' rv, r = .tuple #[.agg #[.slice pu' (writeS l x.2.2.1 x.2.2.2 o).2.length cu', .slice ph nh ch], rv] ∧ RsK w00 (L ++ L') rv (writeS l x.2.2.1 x.2.2.2 o).1 ∧ FilesK w00 (L ++ L') (.slice pu' (writeS l x.2.2.1 x.2.2.2 o).2.length cu') (writeS l x.2.2.1 x.2.2.2 o).2 ∧ Sep w00 (X ++ (L ++ L')) w' := by
 obtain ⟨pu, cu, rfl⟩ := (hF.at_ M (fun y hy => mR hy)).shape
 obtain ⟨pdv, cdv, rfl⟩ := (hdv _ _ M (fun y hy => mR hy)).shape
 have hdl := (hT.row hp).2.2.2.1
 simp only at hdl
 have hfo := file_of hT hp
 refine Ret.of_W Try.func58 rfl Try.ntmps58 rfl ?_
 refine go 1 ?_
 intro bbx1 _ M
 refine go 1 ?_
 intro bbx2 _ M
 refine go 1 ?_
 intro bbx3 _ M
 refine go 1 ?_
 intro bal1 _ M
 refine go 1 ?_
 intro bal2 _ M
 refine spl 2 16 ?_ ?_
 ·intro hsp1
  refine go 0 ?_
  refine W.regD (by kernel_rfl) #[0, 0, 3, 7] [(0, false), (1, true), (2, true), (3, true)] (by kernel_rfl) ?_
  intro K wD1 hK hwD1
  have M := M.drew hwD1
  refine go 1 ?_
  refine x_call rfl rfl rfl rfl rfl en37 (rbad_c) ?_
  rintro r_ wcall1 ⟨rfl, hncall1⟩
  have M := M.new hncall1
  refine pnd ?_
  refine x_st [_, _] _ rfl rfl rfl sz36 rfl rfl rfl rfl (by first | exact M.at_ 0 rfl | exact M.at_ 1 rfl | exact M.at_ 2 rfl | exact M.at_ 3 rfl | exact M.at_ 4 rfl | exact M.at_ 5 rfl | exact M.at_ 6 rfl | exact M.at_ 7 rfl) rfl rfl rfl ?_
  intro wst1 hwst1
  have M := by first | exact M.put 0 rfl hwst1 | exact M.put 1 rfl hwst1 | exact M.put 2 rfl hwst1 | exact M.put 3 rfl hwst1 | exact M.put 4 rfl hwst1 | exact M.put 5 rfl hwst1 | exact M.put 6 rfl hwst1 | exact M.put 7 rfl hwst1
  refine pnd ?_
  refine x_st [_, _, _, _, _] _ rfl rfl rfl sz59 rfl rfl rfl rfl (by first | exact M.at_ 0 rfl | exact M.at_ 1 rfl | exact M.at_ 2 rfl | exact M.at_ 3 rfl | exact M.at_ 4 rfl | exact M.at_ 5 rfl | exact M.at_ 6 rfl | exact M.at_ 7 rfl) rfl rfl rfl ?_
  intro wst2 hwst2
  have M := by first | exact M.put 0 rfl hwst2 | exact M.put 1 rfl hwst2 | exact M.put 2 rfl hwst2 | exact M.put 3 rfl hwst2 | exact M.put 4 rfl hwst2 | exact M.put 5 rfl hwst2 | exact M.put 6 rfl hwst2 | exact M.put 7 rfl hwst2
  refine pnd ?_
  refine go 1 ?_
  have hW : writeS l x.2.2.1 x.2.2.2 o = (badS 2, l) := by unfold writeS; rw [if_pos (.inl hsp1)]
  rw [hW]
  exact ⟨_, _, [], _, rfl, by rw [List.append_nil]; exact RsK.bad, by rw [List.append_nil]; exact hF, by rw [List.append_nil]; exact M.tail.tail.tail.tail.tail⟩
 ·intro hsp1
  refine cnd 2 ?_ ?_
  ·intro hco2
   refine go 0 ?_
   refine W.regD (by kernel_rfl) #[0, 0, 3, 7] [(0, false), (1, true), (2, true), (3, true)] (by kernel_rfl) ?_
   intro K wD2 hK hwD2
   have M := M.drew hwD2
   refine go 1 ?_
   refine x_call rfl rfl rfl rfl rfl en37 (rbad_c) ?_
   rintro r_ wcall2 ⟨rfl, hncall2⟩
   have M := M.new hncall2
   refine pnd ?_
   refine x_st [_, _] _ rfl rfl rfl sz36 rfl rfl rfl rfl (by first | exact M.at_ 0 rfl | exact M.at_ 1 rfl | exact M.at_ 2 rfl | exact M.at_ 3 rfl | exact M.at_ 4 rfl | exact M.at_ 5 rfl | exact M.at_ 6 rfl | exact M.at_ 7 rfl) rfl rfl rfl ?_
   intro wst3 hwst3
   have M := by first | exact M.put 0 rfl hwst3 | exact M.put 1 rfl hwst3 | exact M.put 2 rfl hwst3 | exact M.put 3 rfl hwst3 | exact M.put 4 rfl hwst3 | exact M.put 5 rfl hwst3 | exact M.put 6 rfl hwst3 | exact M.put 7 rfl hwst3
   refine pnd ?_
   refine x_st [_, _, _, _, _] _ rfl rfl rfl sz59 rfl rfl rfl rfl (by first | exact M.at_ 0 rfl | exact M.at_ 1 rfl | exact M.at_ 2 rfl | exact M.at_ 3 rfl | exact M.at_ 4 rfl | exact M.at_ 5 rfl | exact M.at_ 6 rfl | exact M.at_ 7 rfl) rfl rfl rfl ?_
   intro wst4 hwst4
   have M := by first | exact M.put 0 rfl hwst4 | exact M.put 1 rfl hwst4 | exact M.put 2 rfl hwst4 | exact M.put 3 rfl hwst4 | exact M.put 4 rfl hwst4 | exact M.put 5 rfl hwst4 | exact M.put 6 rfl hwst4 | exact M.put 7 rfl hwst4
   refine pnd ?_
   refine go 1 ?_
   have hW : writeS l x.2.2.1 x.2.2.2 o = (badS 2, l) := by unfold writeS; rw [if_pos (.inr hco2)]
   rw [hW]
   exact ⟨_, _, [], _, rfl, by rw [List.append_nil]; exact RsK.bad, by rw [List.append_nil]; exact hF, by rw [List.append_nil]; exact M.tail.tail.tail.tail.tail⟩
  ·intro hco2
   have hn1 : ¬ (x.2.2.2 = false ∨ o.a < 0) := by
    rintro (h | h)
    ·rw [hsp1] at h; cases h
    ·omega
   refine cnd 3 ?_ ?_
   ·intro hco3
    refine go 3 ?_
    intro _ M
    refine go 1 ?_
    intro _ M
    refine go 1 ?_
    have hW : writeS l x.2.2.1 x.2.2.2 o = (badS 0, l) := by unfold writeS; rw [if_neg hn1, if_pos (List.length_eq_zero_iff.1 (by omega))]
    rw [hW]
    exact ⟨_, _, [], _, rfl, by rw [List.append_nil]; exact RsK.bad, by rw [List.append_nil]; exact hF, by rw [List.append_nil]; exact M.tail.tail.tail.tail.tail⟩
   ·intro hco3
    have hn2 : ¬ o.d = [] := by intro e; rw [e] at hco3; exact hco3 rfl
    refine spl 3 33 ?_ ?_
    ·intro hsp2
     refine go 0 ?_
     refine W.regD (by kernel_rfl) #[0, 0, 3, 7] [(0, false), (1, true), (2, true), (3, true)] (by kernel_rfl) ?_
     intro K wD3 hK hwD3
     have M := M.drew hwD3
     refine go 1 ?_
     refine x_call rfl rfl rfl rfl rfl en37 (rbad_c) ?_
     rintro r_ wcall3 ⟨rfl, hncall3⟩
     have M := M.new hncall3
     refine pnd ?_
     refine x_st [_, _] _ rfl rfl rfl sz36 rfl rfl rfl rfl (by first | exact M.at_ 0 rfl | exact M.at_ 1 rfl | exact M.at_ 2 rfl | exact M.at_ 3 rfl | exact M.at_ 4 rfl | exact M.at_ 5 rfl | exact M.at_ 6 rfl | exact M.at_ 7 rfl) rfl rfl rfl ?_
     intro wst7 hwst7
     have M := by first | exact M.put 0 rfl hwst7 | exact M.put 1 rfl hwst7 | exact M.put 2 rfl hwst7 | exact M.put 3 rfl hwst7 | exact M.put 4 rfl hwst7 | exact M.put 5 rfl hwst7 | exact M.put 6 rfl hwst7 | exact M.put 7 rfl hwst7
     refine pnd ?_
     refine x_st [_, _, _, _, _] _ rfl rfl rfl sz59 rfl rfl rfl rfl (by first | exact M.at_ 0 rfl | exact M.at_ 1 rfl | exact M.at_ 2 rfl | exact M.at_ 3 rfl | exact M.at_ 4 rfl | exact M.at_ 5 rfl | exact M.at_ 6 rfl | exact M.at_ 7 rfl) rfl rfl rfl ?_
     intro wst8 hwst8
     have M := by first | exact M.put 0 rfl hwst8 | exact M.put 1 rfl hwst8 | exact M.put 2 rfl hwst8 | exact M.put 3 rfl hwst8 | exact M.put 4 rfl hwst8 | exact M.put 5 rfl hwst8 | exact M.put 6 rfl hwst8 | exact M.put 7 rfl hwst8
     refine pnd ?_
     refine go 1 ?_
     have hW : writeS l x.2.2.1 x.2.2.2 o = (badS 3, l) := by unfold writeS; rw [if_neg hn1, if_neg hn2, if_pos (.inl (by omega))]
     rw [hW]
     exact ⟨_, _, [], _, rfl, by rw [List.append_nil]; exact RsK.bad, by rw [List.append_nil]; exact hF, by rw [List.append_nil]; exact M.tail.tail.tail.tail.tail⟩
    ·intro hsp2
     refine go 3 ?_
     refine x_sub _ rfl rfl rfl rfl rfl (wsub (by omega) (by omega)) ?_
     refine cnd 1 ?_ ?_
     ·intro hco5
      refine go 0 ?_
      refine W.regD (by kernel_rfl) #[0, 0, 3, 7] [(0, false), (1, true), (2, true), (3, true)] (by kernel_rfl) ?_
      intro K wD4 hK hwD4
      have M := M.drew hwD4
      refine go 1 ?_
      refine x_call rfl rfl rfl rfl rfl en37 (rbad_c) ?_
      rintro r_ wcall4 ⟨rfl, hncall4⟩
      have M := M.new hncall4
      refine pnd ?_
      refine x_st [_, _] _ rfl rfl rfl sz36 rfl rfl rfl rfl (by first | exact M.at_ 0 rfl | exact M.at_ 1 rfl | exact M.at_ 2 rfl | exact M.at_ 3 rfl | exact M.at_ 4 rfl | exact M.at_ 5 rfl | exact M.at_ 6 rfl | exact M.at_ 7 rfl) rfl rfl rfl ?_
      intro wst9 hwst9
      have M := by first | exact M.put 0 rfl hwst9 | exact M.put 1 rfl hwst9 | exact M.put 2 rfl hwst9 | exact M.put 3 rfl hwst9 | exact M.put 4 rfl hwst9 | exact M.put 5 rfl hwst9 | exact M.put 6 rfl hwst9 | exact M.put 7 rfl hwst9
      refine pnd ?_
      refine x_st [_, _, _, _, _] _ rfl rfl rfl sz59 rfl rfl rfl rfl (by first | exact M.at_ 0 rfl | exact M.at_ 1 rfl | exact M.at_ 2 rfl | exact M.at_ 3 rfl | exact M.at_ 4 rfl | exact M.at_ 5 rfl | exact M.at_ 6 rfl | exact M.at_ 7 rfl) rfl rfl rfl ?_
      intro wst10 hwst10
      have M := by first | exact M.put 0 rfl hwst10 | exact M.put 1 rfl hwst10 | exact M.put 2 rfl hwst10 | exact M.put 3 rfl hwst10 | exact M.put 4 rfl hwst10 | exact M.put 5 rfl hwst10 | exact M.put 6 rfl hwst10 | exact M.put 7 rfl hwst10
      refine pnd ?_
      refine go 1 ?_
      have hW : writeS l x.2.2.1 x.2.2.2 o = (badS 3, l) := by unfold writeS; rw [if_neg hn1, if_neg hn2, if_pos (.inr (by omega))]
      rw [hW]
      exact ⟨_, _, [], _, rfl, by rw [List.append_nil]; exact RsK.bad, by rw [List.append_nil]; exact hF, by rw [List.append_nil]; exact M.tail.tail.tail.tail.tail⟩
     ·intro hco5
      have hn3 : ¬ (65536 < o.d.length ∨ 65536 - (o.d.length : Int) < o.a) := by omega
      have hW : writeS l x.2.2.1 x.2.2.2 o = sizeS l x.2.2.1 (writeB d o.d o.a.toNat) ⟨0, 0, o.d.length, [], []⟩ := by unfold writeS; rw [if_neg hn1, if_neg hn2, if_neg hn3, hfo]
      have hwl := writeB_len (b := d) (d := o.d) (a := o.a.toNat)
      refine go 2 ?_
      refine x_call rfl rfl rfl rfl rfl en79 (rdata_x (X := _ :: _ :: _ :: _ :: _ :: X) M hF (by omega) hT hp) ?_
      rintro r_ w5 ⟨pd, cd, rfl, hd5, hn5⟩
      have M := M.new hn5
      refine ⟨trivial, ?_⟩
      refine go 4 ?_
      refine x_add ((o.a.toNat + o.d.length : Nat) : Int) rfl rfl rfl rfl rfl (by rw [wadd (by omega) (by omega)]; omega) ?_
      refine x_max ((max d.length (o.a.toNat + o.d.length) : Nat) : Int) rfl rfl rfl rfl rfl (by split <;> omega) ?_
      refine x_call rfl rfl rfl rfl rfl en80 (rsized_c (hd5 _ _ M (fun y hy => by simp [hy])) (by omega) (by omega)) ?_
      rintro r_ w6 ⟨Lo, ho, M6⟩
      have M := M.grow' M6
      unfold BytesO at ho
      rw [sizedB_len] at ho
      obtain ⟨ps, cs, rfl⟩ := ho.shape
      refine ⟨trivial, ?_⟩
      refine go 0 ?_
      refine W.loop (σ := Nat × List (Nat × Obj)) (fun q => [(3, _), (4, _), (5, _), (6, _), (7, _), (9, _), (10, .int .i64 ((q.1 : Nat) : Int))]) (fun q w => q.1 ≤ o.d.length ∧ OwL q.2 (.slice ps (max d.length (o.a.toNat + o.d.length)) cs) 1 (max d.length (o.a.toNat + o.d.length)) (byteCs (overB (sizedB d (max d.length (o.a.toNat + o.d.length))) (o.d.take q.1) o.a.toNat)) ∧ Sep w00 (q.2 ++ ((bal2, .cells [.int .i64 0, .int .i64 0, .int .i64 0, .slice none 0 0, .slice none 0 0].toArray 59 (0, 0)) :: (bal1, .cells [.slice none 0 0, .slice none 0 0].toArray 36 (0, 0)) :: (bbx3, .cells (opC o (.slice pdv o.d.length cdv)).toArray 66 (0, 0)) :: (bbx2, .cells (oR x).toArray 118 (0, 0)) :: (bbx1, .cells [.slice pu l.length cu, .slice ph nh ch].toArray 36 (0, 0)) :: (X ++ L))) w) (fun q => o.d.length - q.1) (0, Lo) ⟨rfl, rfl, rfl, rfl, rfl, rfl, rfl, trivial⟩ ⟨Nat.zero_le _, by simp only; rw [over_zero]; exact ho, M⟩ ?_
      rintro ⟨q, Lo⟩ w ⟨hq, ho, M⟩
      simp only at hq ho M
      refine go 0 ?_
      refine x_ld rfl rfl rfl Try.underlying56 rfl rfl (cell_of (M.get (b := bbx3) (o := (bbx3, .cells (opC o (.slice pdv o.d.length cdv)).toArray 66 (0, 0)).2) (by simp)) rfl) ?_
      refine cnd 2 ?_ ?_
      ·intro hco6
       obtain ⟨c, hc⟩ := get_lt (l := o.d) (q := q) (by omega)
       obtain ⟨blk, cap, rest, T, hv, rfl, hset⟩ := bytes_set (j := o.a.toNat + q) (c := c) ho (by rw [overB_len (by rw [List.length_take, sizedB_len]; omega), sizedB_len]; omega)
       cases hv
       rw [← over_step hc (by rw [sizedB_len]; omega)] at hset
       have hdw := hdv _ _ M (fun y hy => by simp [hy])
       obtain ⟨bd, od, rfl, _⟩ := Sg.blk hdw (j := q) (by omega)
       refine go 0 ?_
       refine W.regD (by kernel_rfl) #[0, 0, 2, 0, 14, 0, 32, 0, 224, 480, 1023, 2047] [(0, false), (1, false), (2, false), (3, false), (4, false), (5, false), (6, false), (7, false), (8, false), (9, false), (10, false), (11, true)] (by kernel_rfl) ?_
       intro K wD5 hK hwD5
       have M := M.drew hwD5
       refine go 0 ?_
       refine x_ld rfl rfl rfl Try.underlying3 rfl rfl (cell_of (M.get (b := bbx3) (o := (bbx3, .cells (opC o (.slice (some ⟨bd, od, none⟩) o.d.length cdv)).toArray 66 (0, 0)).2) (by simp)) rfl) ?_
       refine go 0 ?_
       refine x_add ((o.a.toNat + q : Nat) : Int) rfl rfl rfl rfl rfl (by simp only; rw [wadd (by omega) (by omega)]; omega) ?_
       refine go 0 ?_
       refine x_ld rfl rfl rfl Try.underlying56 rfl rfl (cell_of (M.get (b := bbx3) (o := (bbx3, .cells (opC o (.slice (some ⟨bd, od, none⟩) o.d.length cdv)).toArray 66 (0, 0)).2) (by simp)) rfl) ?_
       refine go 0 ?_
       refine x_ia q rfl rfl rfl Try.underlying56 sz5 rfl rfl rfl (by omega) ?_
       refine x_ld rfl rfl rfl Try.underlying5 rfl rfl (Sl.cell1 ((hdv _ _ M (fun y hy => by simp [hy])).sl (by omega)) (byteCs_get hc)) ?_
       refine x_ia (o.a.toNat + q) rfl rfl rfl Try.underlying56 sz5 rfl rfl rfl (by omega) ?_
       refine x_st [_] _ rfl rfl rfl sz5 rfl rfl rfl rfl (M.at_ 0 rfl) rfl (Nat.ble_eq_true_of_le (by rw [List.length_append, byteCs_len, overB_len (by rw [List.length_take, sizedB_len]; omega), sizedB_len]; simp only [List.length_cons, List.length_nil]; omega)) rfl ?_
       intro wst11 hwst11
       have M := M.put 0 rfl hwst11
       refine pnd ?_
       refine go 0 ?_
       refine x_add _ rfl rfl rfl rfl rfl (wadd (by omega) (by omega)) ?_
       refine go 0 ?_
       exact At.back ((q + 1, _)) ⟨rfl, rfl, rfl, rfl, rfl, rfl, rfl, trivial⟩ ⟨by simp only; omega, hset, M⟩ (by first | omega | (simp only; omega) | (simp; done) | (simp; omega))
      ·intro hco6
       have hq2 : q = o.d.length := by omega
       rw [hq2, List.take_length] at ho
       have hoB : BytesO Lo (.slice ps (max d.length (o.a.toNat + o.d.length)) cs) (writeB d o.d o.a.toNat) := by unfold BytesO; rw [hwl]; exact ho
       have M : Sep w00 ((_ :: _ :: _ :: _ :: _ :: X) ++ (L ++ Lo)) _ := St.lay M
       have hF2 := hF.mono (L' := L ++ Lo) (fun y hy => mL hy)
       refine go 2 ?_
       refine x_call rfl rfl rfl rfl rfl en81 (fput_c (X := _ :: _ :: _ :: _ :: _ :: X) (L := L ++ Lo) M hF2 hl hT hus hp (SgK.own hoB (by decide) (fun y hy => mR hy)) (by omega)) ?_
       rintro r_ w7 ⟨pu', cu', L7, rfl, hF7, M⟩
       have hPS : putS l x.2.2.1 (writeB d o.d o.a.toNat) = if 262144 + d.length < usedL l + (writeB d o.d o.a.toNat).length then (l, 7) else (setD l x.2.2.1 (writeB d o.d o.a.toNat), 0) := by unfold putS; rw [hfo]
       unfold sizeS at hW
       rw [hfo] at hW
       refine ⟨trivial, ?_⟩
       refine go 1 ?_
       intro _ _ M
       refine go 1 ?_
       intro _ M
       refine cnd 1 ?_ ?_
       ·intro hco7
        have hq7 : 262144 + d.length < usedL l + (writeB d o.d o.a.toNat).length := by
         rw [hPS] at hco7
         split at hco7
         ·assumption
         ·exact absurd rfl hco7
        rw [if_pos hq7] at hPS hW
        rw [hPS]
        rw [hPS] at M hF7
        refine go 0 ?_
        refine W.regD (by kernel_rfl) #[0, 0, 2, 7, 15] [(0, false), (1, false), (2, true), (3, true), (4, true)] (by kernel_rfl) ?_
        intro K wD6 hK hwD6
        have M := M.drew hwD6
        refine go 1 ?_
        refine x_call rfl rfl rfl rfl rfl en37 (rbad_c) ?_
        rintro r_ wcall8 ⟨rfl, hncall8⟩
        have M := M.new hncall8
        refine pnd ?_
        refine x_st [_, _] _ rfl rfl rfl sz36 rfl rfl rfl rfl (by first | exact M.at_ 0 rfl | exact M.at_ 1 rfl | exact M.at_ 2 rfl | exact M.at_ 3 rfl | exact M.at_ 4 rfl | exact M.at_ 5 rfl | exact M.at_ 6 rfl | exact M.at_ 7 rfl) rfl rfl rfl ?_
        intro wst13 hwst13
        have M := by first | exact M.put 0 rfl hwst13 | exact M.put 1 rfl hwst13 | exact M.put 2 rfl hwst13 | exact M.put 3 rfl hwst13 | exact M.put 4 rfl hwst13 | exact M.put 5 rfl hwst13 | exact M.put 6 rfl hwst13 | exact M.put 7 rfl hwst13
        refine pnd ?_
        refine x_st [_, _, _, _, _] _ rfl rfl rfl sz59 rfl rfl rfl rfl (by first | exact M.at_ 0 rfl | exact M.at_ 1 rfl | exact M.at_ 2 rfl | exact M.at_ 3 rfl | exact M.at_ 4 rfl | exact M.at_ 5 rfl | exact M.at_ 6 rfl | exact M.at_ 7 rfl) rfl rfl rfl ?_
        intro wst14 hwst14
        have M := by first | exact M.put 0 rfl hwst14 | exact M.put 1 rfl hwst14 | exact M.put 2 rfl hwst14 | exact M.put 3 rfl hwst14 | exact M.put 4 rfl hwst14 | exact M.put 5 rfl hwst14 | exact M.put 6 rfl hwst14 | exact M.put 7 rfl hwst14
        refine pnd ?_
        refine go 1 ?_
        rw [hW]
        rw [List.append_assoc] at M
        exact ⟨_, _, Lo ++ L7, _, rfl, RsK.bad, hF.mono (fun y hy => mL hy), M.tail.tail.tail.tail.tail.tail⟩
       ·intro hco7
        have hq7 : ¬ 262144 + d.length < usedL l + (writeB d o.d o.a.toNat).length := by
         intro h
         rw [hPS, if_pos h] at hco7
         exact absurd hco7 (show ¬ (7 : Int) = 0 by decide)
        rw [if_neg hq7] at hPS hW
        rw [hPS]
        rw [hPS] at M hF7
        refine go 0 ?_
        refine W.regD (by kernel_rfl) #[0, 0, 2, 6, 14, 1, 63] [(0, false), (1, false), (2, false), (3, false), (4, false), (5, true), (6, true)] (by kernel_rfl) ?_
        intro K wD7 hK hwD7
        have M := M.drew hwD7
        refine go 4 ?_
        refine x_st [_, _] _ rfl rfl rfl sz36 rfl rfl rfl rfl (by first | exact M.at_ 0 rfl | exact M.at_ 1 rfl | exact M.at_ 2 rfl | exact M.at_ 3 rfl | exact M.at_ 4 rfl | exact M.at_ 5 rfl | exact M.at_ 6 rfl | exact M.at_ 7 rfl) rfl rfl rfl ?_
        intro wst15 hwst15
        have M := by first | exact M.put 0 rfl hwst15 | exact M.put 1 rfl hwst15 | exact M.put 2 rfl hwst15 | exact M.put 3 rfl hwst15 | exact M.put 4 rfl hwst15 | exact M.put 5 rfl hwst15 | exact M.put 6 rfl hwst15 | exact M.put 7 rfl hwst15
        refine pnd ?_
        refine x_st [_, _, _, _, _] _ rfl rfl rfl sz59 rfl rfl rfl rfl (by first | exact M.at_ 0 rfl | exact M.at_ 1 rfl | exact M.at_ 2 rfl | exact M.at_ 3 rfl | exact M.at_ 4 rfl | exact M.at_ 5 rfl | exact M.at_ 6 rfl | exact M.at_ 7 rfl) rfl rfl rfl ?_
        intro wst16 hwst16
        have M := by first | exact M.put 0 rfl hwst16 | exact M.put 1 rfl hwst16 | exact M.put 2 rfl hwst16 | exact M.put 3 rfl hwst16 | exact M.put 4 rfl hwst16 | exact M.put 5 rfl hwst16 | exact M.put 6 rfl hwst16 | exact M.put 7 rfl hwst16
        refine pnd ?_
        refine go 1 ?_
        rw [hW]
        rw [List.append_assoc] at M hF7
        exact ⟨_, _, Lo ++ L7, _, rfl, ⟨none, 0, none, 0, rfl, nilS (by decide), nilS (by decide)⟩, hF7, M.tail.tail.tail.tail.tail.tail⟩

end Go.Proofs.Ytebfjdolgchgaaa

namespace Go.Proofs.Ytebfjdolgchgaaa
open Go Go.Fw Go.RowKit Go.Proofs
set_option linter.unusedVariables false
set_option linter.unusedSimpArgs false
set_option maxRecDepth 100000
set_option maxHeartbeats 4000000

-- (valise/valiseref19.FS).truncate
theorem ftrunc_c {w00 w0 : World} {X L : List (Nat × Obj)} {u : Value} {ph : Option Addr} {nh ch : Nat} {l : List Raw} {x : Opn} {o : OpS} {dv : Value} {d : List UInt8} (M : Sep w00 (X ++ L) w0) (hF : FilesK w00 L u l) (hl : l.length ≤ 128) (hT : TreeL l) (hus : usedL l ≤ 262144) (hp : (x.2.2.1, false, d) ∈ l) (hdv : dv.oneCell' = true) : Ret Try.prog 59 #[.agg #[u, .slice ph nh ch], .agg (oR x).toArray, .agg (opC o dv).toArray] w0 fun r w' => ∃ pu' cu' L' rv, r = .tuple #[.agg #[.slice pu' (truncS l x.2.2.1 x.2.2.2 o).2.length cu', .slice ph nh ch], rv] ∧ RsK w00 (L ++ L') rv (truncS l x.2.2.1 x.2.2.2 o).1 ∧ FilesK w00 (L ++ L') (.slice pu' (truncS l x.2.2.1 x.2.2.2 o).2.length cu') (truncS l x.2.2.1 x.2.2.2 o).2 ∧ Sep w00 (X ++ (L ++ L')) w' := by
 obtain ⟨pu, cu, rfl⟩ := (hF.at_ M (fun y hy => mR hy)).shape
 have hdl := (hT.row hp).2.2.2.1
 simp only at hdl
 have hfo := file_of hT hp
 refine Ret.of_W Try.func59 rfl Try.ntmps59 rfl ?_
 refine go 1 ?_
 intro bbx1 _ M
 refine go 1 ?_
 intro bbx2 _ M
 refine go 1 ?_
 intro bbx3 _ M
 refine go 1 ?_
 intro bal1 _ M
 refine go 1 ?_
 intro bal2 _ M
 refine spl 2 13 ?_ ?_
 ·intro hsp1
  refine go 0 ?_
  refine W.regD (by kernel_rfl) #[0, 0, 3, 7] [(0, false), (1, true), (2, true), (3, true)] (by kernel_rfl) ?_
  intro K wD1 hK hwD1
  have M := M.drew hwD1
  refine go 1 ?_
  refine x_call rfl rfl rfl rfl rfl en37 (rbad_c) ?_
  rintro r_ wcall1 ⟨rfl, hncall1⟩
  have M := M.new hncall1
  refine pnd ?_
  refine x_st [_, _] _ rfl rfl rfl sz36 rfl rfl rfl rfl (by first | exact M.at_ 0 rfl | exact M.at_ 1 rfl | exact M.at_ 2 rfl | exact M.at_ 3 rfl | exact M.at_ 4 rfl | exact M.at_ 5 rfl | exact M.at_ 6 rfl | exact M.at_ 7 rfl) rfl rfl rfl ?_
  intro wst1 hwst1
  have M := by first | exact M.put 0 rfl hwst1 | exact M.put 1 rfl hwst1 | exact M.put 2 rfl hwst1 | exact M.put 3 rfl hwst1 | exact M.put 4 rfl hwst1 | exact M.put 5 rfl hwst1 | exact M.put 6 rfl hwst1 | exact M.put 7 rfl hwst1
  refine pnd ?_
  refine x_st [_, _, _, _, _] _ rfl rfl rfl sz59 rfl rfl rfl rfl (by first | exact M.at_ 0 rfl | exact M.at_ 1 rfl | exact M.at_ 2 rfl | exact M.at_ 3 rfl | exact M.at_ 4 rfl | exact M.at_ 5 rfl | exact M.at_ 6 rfl | exact M.at_ 7 rfl) rfl rfl rfl ?_
  intro wst2 hwst2
  have M := by first | exact M.put 0 rfl hwst2 | exact M.put 1 rfl hwst2 | exact M.put 2 rfl hwst2 | exact M.put 3 rfl hwst2 | exact M.put 4 rfl hwst2 | exact M.put 5 rfl hwst2 | exact M.put 6 rfl hwst2 | exact M.put 7 rfl hwst2
  refine pnd ?_
  refine go 1 ?_
  have hW : truncS l x.2.2.1 x.2.2.2 o = (badS 2, l) := by unfold truncS; rw [if_pos (.inl hsp1)]
  rw [hW]
  exact ⟨_, _, [], _, rfl, by rw [List.append_nil]; exact RsK.bad, by rw [List.append_nil]; exact hF, by rw [List.append_nil]; exact M.tail.tail.tail.tail.tail⟩
 ·intro hsp1
  refine cnd 2 ?_ ?_
  ·intro hco2
   refine go 0 ?_
   refine W.regD (by kernel_rfl) #[0, 0, 3, 7] [(0, false), (1, true), (2, true), (3, true)] (by kernel_rfl) ?_
   intro K wD2 hK hwD2
   have M := M.drew hwD2
   refine go 1 ?_
   refine x_call rfl rfl rfl rfl rfl en37 (rbad_c) ?_
   rintro r_ wcall2 ⟨rfl, hncall2⟩
   have M := M.new hncall2
   refine pnd ?_
   refine x_st [_, _] _ rfl rfl rfl sz36 rfl rfl rfl rfl (by first | exact M.at_ 0 rfl | exact M.at_ 1 rfl | exact M.at_ 2 rfl | exact M.at_ 3 rfl | exact M.at_ 4 rfl | exact M.at_ 5 rfl | exact M.at_ 6 rfl | exact M.at_ 7 rfl) rfl rfl rfl ?_
   intro wst3 hwst3
   have M := by first | exact M.put 0 rfl hwst3 | exact M.put 1 rfl hwst3 | exact M.put 2 rfl hwst3 | exact M.put 3 rfl hwst3 | exact M.put 4 rfl hwst3 | exact M.put 5 rfl hwst3 | exact M.put 6 rfl hwst3 | exact M.put 7 rfl hwst3
   refine pnd ?_
   refine x_st [_, _, _, _, _] _ rfl rfl rfl sz59 rfl rfl rfl rfl (by first | exact M.at_ 0 rfl | exact M.at_ 1 rfl | exact M.at_ 2 rfl | exact M.at_ 3 rfl | exact M.at_ 4 rfl | exact M.at_ 5 rfl | exact M.at_ 6 rfl | exact M.at_ 7 rfl) rfl rfl rfl ?_
   intro wst4 hwst4
   have M := by first | exact M.put 0 rfl hwst4 | exact M.put 1 rfl hwst4 | exact M.put 2 rfl hwst4 | exact M.put 3 rfl hwst4 | exact M.put 4 rfl hwst4 | exact M.put 5 rfl hwst4 | exact M.put 6 rfl hwst4 | exact M.put 7 rfl hwst4
   refine pnd ?_
   refine go 1 ?_
   have hW : truncS l x.2.2.1 x.2.2.2 o = (badS 2, l) := by unfold truncS; rw [if_pos (.inr hco2)]
   rw [hW]
   exact ⟨_, _, [], _, rfl, by rw [List.append_nil]; exact RsK.bad, by rw [List.append_nil]; exact hF, by rw [List.append_nil]; exact M.tail.tail.tail.tail.tail⟩
  ·intro hco2
   have hn1 : ¬ (x.2.2.2 = false ∨ o.n < 0) := by
    rintro (h | h)
    ·rw [hsp1] at h; cases h
    ·omega
   refine cnd 2 ?_ ?_
   ·intro hco3
    refine go 0 ?_
    refine W.regD (by kernel_rfl) #[0, 0, 3, 7] [(0, false), (1, true), (2, true), (3, true)] (by kernel_rfl) ?_
    intro K wD3 hK hwD3
    have M := M.drew hwD3
    refine go 1 ?_
    refine x_call rfl rfl rfl rfl rfl en37 (rbad_c) ?_
    rintro r_ wcall3 ⟨rfl, hncall3⟩
    have M := M.new hncall3
    refine pnd ?_
    refine x_st [_, _] _ rfl rfl rfl sz36 rfl rfl rfl rfl (by first | exact M.at_ 0 rfl | exact M.at_ 1 rfl | exact M.at_ 2 rfl | exact M.at_ 3 rfl | exact M.at_ 4 rfl | exact M.at_ 5 rfl | exact M.at_ 6 rfl | exact M.at_ 7 rfl) rfl rfl rfl ?_
    intro wst5 hwst5
    have M := by first | exact M.put 0 rfl hwst5 | exact M.put 1 rfl hwst5 | exact M.put 2 rfl hwst5 | exact M.put 3 rfl hwst5 | exact M.put 4 rfl hwst5 | exact M.put 5 rfl hwst5 | exact M.put 6 rfl hwst5 | exact M.put 7 rfl hwst5
    refine pnd ?_
    refine x_st [_, _, _, _, _] _ rfl rfl rfl sz59 rfl rfl rfl rfl (by first | exact M.at_ 0 rfl | exact M.at_ 1 rfl | exact M.at_ 2 rfl | exact M.at_ 3 rfl | exact M.at_ 4 rfl | exact M.at_ 5 rfl | exact M.at_ 6 rfl | exact M.at_ 7 rfl) rfl rfl rfl ?_
    intro wst6 hwst6
    have M := by first | exact M.put 0 rfl hwst6 | exact M.put 1 rfl hwst6 | exact M.put 2 rfl hwst6 | exact M.put 3 rfl hwst6 | exact M.put 4 rfl hwst6 | exact M.put 5 rfl hwst6 | exact M.put 6 rfl hwst6 | exact M.put 7 rfl hwst6
    refine pnd ?_
    refine go 1 ?_
    have hW : truncS l x.2.2.1 x.2.2.2 o = (badS 3, l) := by unfold truncS; rw [if_neg hn1, if_pos (by omega)]
    rw [hW]
    exact ⟨_, _, [], _, rfl, by rw [List.append_nil]; exact RsK.bad, by rw [List.append_nil]; exact hF, by rw [List.append_nil]; exact M.tail.tail.tail.tail.tail⟩
   ·intro hco3
    have hW : truncS l x.2.2.1 x.2.2.2 o = sizeS l x.2.2.1 (sizedB d o.n.toNat) (badS 0) := by unfold truncS; rw [if_neg hn1, if_neg (by omega), hfo]
    obtain ⟨nn, hnn⟩ : ∃ nn : Nat, o.n = (nn : Int) := ⟨o.n.toNat, by omega⟩
    refine gs 0 0 ?_
    refine W.seqC (fun F' w' => ∃ bx pu' cu' L', F' = [(6, ptr bal1), (7, ptr bal2), (8, ptr bx), (9, .int .i64 (putS l x.2.2.1 (sizedB d o.n.toNat)).2)] ∧ FilesK w00 (L ++ L') (.slice pu' (putS l x.2.2.1 (sizedB d o.n.toNat)).1.length cu') (putS l x.2.2.1 (sizedB d o.n.toNat)).1 ∧ Sep w00 (((bx, .cells [.slice pu' (putS l x.2.2.1 (sizedB d o.n.toNat)).1.length cu', .slice ph nh ch].toArray 36 (0, 0)) :: (bal2, .cells [.int .i64 0, .int .i64 0, .int .i64 0, .slice none 0 0, .slice none 0 0].toArray 59 (0, 0)) :: (bal1, .cells [.slice none 0 0, .slice none 0 0].toArray 36 (0, 0)) :: (bbx3, .cells (opC o dv).toArray 66 (0, 0)) :: (bbx2, .cells (oR x).toArray 118 (0, 0)) :: (bbx1, .cells [.slice pu l.length cu, .slice ph nh ch].toArray 36 (0, 0)) :: X) ++ (L ++ L')) w') ?_ ?_
    ·refine go 0 ?_
     refine W.regT (by kernel_rfl) #[0, 0, 2, 0, 0, 16, 56, 0, 128, 504, 1023, 2047, 4095, 4095, 0, 24575, 65535] (.par [(0, false), (1, false), (2, false), (3, false), (4, false), (5, false), (7, false), (8, false)] 6 (.par [] 9 (.two [] 10 [(11, false), (12, false), (13, false), (14, true)] 14 [(10, true), (11, false), (12, false), (13, false)] (.leaf [(15, true), (16, false)])) 14 (.leaf [(9, true), (10, true), (11, false), (12, false), (13, false), (15, true), (16, false)])) 14 (.leaf [(6, true), (9, true), (10, true), (11, false), (12, false), (13, false), (15, true), (16, false)])) (by kernel_rfl) ?_
     intro K wD4 hK hwD4
     have M := M.drew hwD4
     refine ExT.par ?_
     refine go 5 ?_
     refine Ex.fork ?_
     refine ⟨?_, ?_⟩
     ·refine x_call rfl rfl rfl rfl rfl en79 (rdata_x (X := _ :: _ :: _ :: _ :: _ :: X) M hF (by omega) hT hp) ?_
      rintro r_ w4 ⟨pd, cd, rfl, hd5, hn4⟩
      have M := M.new hn4
      refine pnd ?_
      refine Ex.fork ?_
      refine ExT.par ?_
      refine Ex.fork ?_
      refine ⟨?_, ?_⟩
      ·refine x_call rfl rfl rfl rfl rfl en80 (by have h_ := rsized_c (n := nn) (hd5 _ _ M (fun y hy => by simp [hy])) (by omega) (by omega); rw [← hnn] at h_; exact h_) ?_
       rintro r_ w5 ⟨Lo, hoB, M6⟩
       have M := M.grow' M6
       rw [show nn = o.n.toNat by omega] at hoB
       obtain ⟨ps, cs, rfl⟩ := hoB.shape
       have M : Sep w00 ((_ :: _ :: _ :: _ :: _ :: X) ++ (L ++ Lo)) _ := St.lay M
       have hF2 := hF.mono (L' := L ++ Lo) (fun y hy => mL hy)
       refine pnd ?_
       refine Ex.fork ?_
       refine ExT.two ?_
       refine Ex.fork ?_
       refine Ex.join (fun F' T' w' => ∃ bx pu' cu' L' R1 R2 R3 R4 R5, T' = [(8, R5), (5, R4), (3, R3), (2, R2), (0, R1)] ∧ F' = [(6, ptr bal1), (7, ptr bal2), (8, ptr bx), (37, .agg #[.slice pu' (putS l x.2.2.1 (sizedB d o.n.toNat)).1.length cu', .slice ph nh ch]), (38, .int .i64 (putS l x.2.2.1 (sizedB d o.n.toNat)).2)] ∧ FilesK w00 (L ++ L') (.slice pu' (putS l x.2.2.1 (sizedB d o.n.toNat)).1.length cu') (putS l x.2.2.1 (sizedB d o.n.toNat)).1 ∧ Sep w00 (((bx, .cells [.slice none 0 0, .slice none 0 0].toArray 36 (0, 0)) :: (bal2, .cells [.int .i64 0, .int .i64 0, .int .i64 0, .slice none 0 0, .slice none 0 0].toArray 59 (0, 0)) :: (bal1, .cells [.slice none 0 0, .slice none 0 0].toArray 36 (0, 0)) :: (bbx3, .cells (opC o dv).toArray 66 (0, 0)) :: (bbx2, .cells (oR x).toArray 118 (0, 0)) :: (bbx1, .cells [.slice pu l.length cu, .slice ph nh ch].toArray 36 (0, 0)) :: X) ++ (L ++ L')) w') ?_ ?_ ?_
       ·refine x_call rfl rfl rfl rfl rfl en81 (fput_c (X := _ :: _ :: _ :: _ :: _ :: X) (L := L ++ Lo) M hF2 hl hT hus hp (SgK.own hoB (by decide) (fun y hy => mR hy)) (by rw [sizedB_len]; omega)) ?_
        rintro r_ w7 ⟨pu', cu', L7, rfl, hF7, M⟩
        refine pnd ?_
        refine go 0 ?_
        refine x_alloc [_, _] rfl rfl rfl ze36 rfl ?_
        intro bal3 wal3 hbal3 hwal3
        have M := M.acons hbal3 hwal3
        refine pnd ?_
        refine Ex.forkS [(6, _), (7, _), (8, _), (37, _), (38, _)] ⟨rfl, rfl, rfl, rfl, rfl, trivial⟩ ?_
        rw [List.append_assoc] at M hF7
        exact ⟨_, pu', cu', Lo ++ L7, _, _, _, _, _, rfl, rfl, hF7, M⟩
       ·refine x_alloc [_, _] rfl rfl rfl ze36 rfl ?_
        intro bal4 wal4 hbal4 hwal4
        have M := M.acons hbal4 hwal4
        refine pnd ?_
        refine x_call rfl rfl rfl rfl rfl en81 (fput_c (X := _ :: _ :: _ :: _ :: _ :: _ :: X) (L := L ++ Lo) M hF2 hl hT hus hp (SgK.own hoB (by decide) (fun y hy => mR hy)) (by rw [sizedB_len]; omega)) ?_
        rintro r_ w7 ⟨pu', cu', L7, rfl, hF7, M⟩
        refine pnd ?_
        refine go 0 ?_
        refine Ex.forkS [(6, _), (7, _), (8, _), (37, _), (38, _)] ⟨rfl, rfl, rfl, rfl, rfl, trivial⟩ ?_
        rw [List.append_assoc] at M hF7
        exact ⟨_, pu', cu', Lo ++ L7, _, _, _, _, _, rfl, rfl, hF7, M⟩
       rintro F1 T1 wf ⟨bx, pu', cu', L', R1, R2, R3, R4, R5, rfl, rfl, hF', M⟩
       refine ExT.leaf ?_
       refine x_st [_, _] _ rfl rfl rfl sz36 rfl rfl rfl rfl (by first | exact M.at_ 0 rfl | exact M.at_ 1 rfl | exact M.at_ 2 rfl | exact M.at_ 3 rfl | exact M.at_ 4 rfl | exact M.at_ 5 rfl | exact M.at_ 6 rfl | exact M.at_ 7 rfl) rfl rfl rfl ?_
       intro wst7 hwst7
       have M := by first | exact M.put 0 rfl hwst7 | exact M.put 1 rfl hwst7 | exact M.put 2 rfl hwst7 | exact M.put 3 rfl hwst7 | exact M.put 4 rfl hwst7 | exact M.put 5 rfl hwst7 | exact M.put 6 rfl hwst7 | exact M.put 7 rfl hwst7
       refine pnd ?_
       refine go 0 ?_
       refine At.sub [(6, _), (7, _), (8, _), (9, _)] ⟨rfl, rfl, rfl, rfl, trivial⟩ ?_
       refine At.cut_n ?_
       exact ⟨bx, pu', cu', L', rfl, hF', M⟩
      ·refine x_alloc [_, _] rfl rfl rfl ze36 rfl ?_
       intro bal5 wal5 hbal5 hwal5
       have M := M.acons hbal5 hwal5
       refine pnd ?_
       refine Ex.fork ?_
       refine ExT.leaf ?_
       refine x_call rfl rfl rfl rfl rfl en80 (by have h_ := rsized_c (n := nn) (hd5 _ _ M (fun y hy => by simp [hy])) (by omega) (by omega); rw [← hnn] at h_; exact h_) ?_
       rintro r_ w8 ⟨Lo, hoB, M6⟩
       have M := M.grow' M6
       rw [show nn = o.n.toNat by omega] at hoB
       obtain ⟨ps, cs, rfl⟩ := hoB.shape
       have M : Sep w00 ((_ :: _ :: _ :: _ :: _ :: _ :: X) ++ (L ++ Lo)) _ := St.lay M
       have hF2 := hF.mono (L' := L ++ Lo) (fun y hy => mL hy)
       refine pnd ?_
       refine x_call rfl rfl rfl rfl rfl en81 (fput_c (X := _ :: _ :: _ :: _ :: _ :: _ :: X) (L := L ++ Lo) M hF2 hl hT hus hp (SgK.own hoB (by decide) (fun y hy => mR hy)) (by rw [sizedB_len]; omega)) ?_
       rintro r_ w7 ⟨pu', cu', L7, rfl, hF7, M⟩
       refine pnd ?_
       refine go 0 ?_
       refine x_st [_, _] _ rfl rfl rfl sz36 rfl rfl rfl rfl (by first | exact M.at_ 0 rfl | exact M.at_ 1 rfl | exact M.at_ 2 rfl | exact M.at_ 3 rfl | exact M.at_ 4 rfl | exact M.at_ 5 rfl | exact M.at_ 6 rfl | exact M.at_ 7 rfl) rfl rfl rfl ?_
       intro wst8 hwst8
       have M := by first | exact M.put 0 rfl hwst8 | exact M.put 1 rfl hwst8 | exact M.put 2 rfl hwst8 | exact M.put 3 rfl hwst8 | exact M.put 4 rfl hwst8 | exact M.put 5 rfl hwst8 | exact M.put 6 rfl hwst8 | exact M.put 7 rfl hwst8
       refine pnd ?_
       refine go 0 ?_
       refine At.sub [(6, _), (7, _), (8, _), (9, _)] ⟨rfl, rfl, rfl, rfl, trivial⟩ ?_
       refine At.cut_n ?_
       rw [List.append_assoc] at M hF7
       exact ⟨_, pu', cu', Lo ++ L7, rfl, hF7, M⟩
     ·refine x_alloc [_, _] rfl rfl rfl ze36 rfl ?_
      intro bal6 wal6 hbal6 hwal6
      have M := M.acons hbal6 hwal6
      refine pnd ?_
      refine Ex.fork ?_
      refine ExT.leaf ?_
      refine x_call rfl rfl rfl rfl rfl en79 (rdata_x (X := _ :: _ :: _ :: _ :: _ :: _ :: X) M hF (by omega) hT hp) ?_
      rintro r_ w10 ⟨pd, cd, rfl, hd5, hn10⟩
      have M := M.new hn10
      refine pnd ?_
      refine x_call rfl rfl rfl rfl rfl en80 (by have h_ := rsized_c (n := nn) (hd5 _ _ M (fun y hy => by simp [hy])) (by omega) (by omega); rw [← hnn] at h_; exact h_) ?_
      rintro r_ w11 ⟨Lo, hoB, M6⟩
      have M := M.grow' M6
      rw [show nn = o.n.toNat by omega] at hoB
      obtain ⟨ps, cs, rfl⟩ := hoB.shape
      have M : Sep w00 ((_ :: _ :: _ :: _ :: _ :: _ :: X) ++ (L ++ Lo)) _ := St.lay M
      have hF2 := hF.mono (L' := L ++ Lo) (fun y hy => mL hy)
      refine pnd ?_
      refine x_call rfl rfl rfl rfl rfl en81 (fput_c (X := _ :: _ :: _ :: _ :: _ :: _ :: X) (L := L ++ Lo) M hF2 hl hT hus hp (SgK.own hoB (by decide) (fun y hy => mR hy)) (by rw [sizedB_len]; omega)) ?_
      rintro r_ w7 ⟨pu', cu', L7, rfl, hF7, M⟩
      refine pnd ?_
      refine go 0 ?_
      refine x_st [_, _] _ rfl rfl rfl sz36 rfl rfl rfl rfl (by first | exact M.at_ 0 rfl | exact M.at_ 1 rfl | exact M.at_ 2 rfl | exact M.at_ 3 rfl | exact M.at_ 4 rfl | exact M.at_ 5 rfl | exact M.at_ 6 rfl | exact M.at_ 7 rfl) rfl rfl rfl ?_
      intro wst9 hwst9
      have M := by first | exact M.put 0 rfl hwst9 | exact M.put 1 rfl hwst9 | exact M.put 2 rfl hwst9 | exact M.put 3 rfl hwst9 | exact M.put 4 rfl hwst9 | exact M.put 5 rfl hwst9 | exact M.put 6 rfl hwst9 | exact M.put 7 rfl hwst9
      refine pnd ?_
      refine go 0 ?_
      refine At.sub [(6, _), (7, _), (8, _), (9, _)] ⟨rfl, rfl, rfl, rfl, trivial⟩ ?_
      refine At.cut_n ?_
      rw [List.append_assoc] at M hF7
      exact ⟨_, pu', cu', Lo ++ L7, rfl, hF7, M⟩
    rintro F1 wc ⟨bx, pu', cu', L', rfl, hF', M⟩
    refine go 0 ?_
    refine W.regD (by kernel_rfl) #[0, 0, 2, 7, 15] [(0, false), (1, false), (2, true), (3, true), (4, true)] (by kernel_rfl) ?_
    intro K wD5 hK hwD5
    have M := M.drew hwD5
    refine go 1 ?_
    refine x_call rfl rfl rfl rfl rfl en37 (rbad_c) ?_
    rintro r_ wcall13 ⟨rfl, hncall13⟩
    have M := M.new hncall13
    refine pnd ?_
    refine x_st [_, _] _ rfl rfl rfl sz36 rfl rfl rfl rfl (by first | exact M.at_ 0 rfl | exact M.at_ 1 rfl | exact M.at_ 2 rfl | exact M.at_ 3 rfl | exact M.at_ 4 rfl | exact M.at_ 5 rfl | exact M.at_ 6 rfl | exact M.at_ 7 rfl) rfl rfl rfl ?_
    intro wst10 hwst10
    have M := by first | exact M.put 0 rfl hwst10 | exact M.put 1 rfl hwst10 | exact M.put 2 rfl hwst10 | exact M.put 3 rfl hwst10 | exact M.put 4 rfl hwst10 | exact M.put 5 rfl hwst10 | exact M.put 6 rfl hwst10 | exact M.put 7 rfl hwst10
    refine pnd ?_
    refine x_st [_, _, _, _, _] _ rfl rfl rfl sz59 rfl rfl rfl rfl (by first | exact M.at_ 0 rfl | exact M.at_ 1 rfl | exact M.at_ 2 rfl | exact M.at_ 3 rfl | exact M.at_ 4 rfl | exact M.at_ 5 rfl | exact M.at_ 6 rfl | exact M.at_ 7 rfl) rfl rfl rfl ?_
    intro wst11 hwst11
    have M := by first | exact M.put 0 rfl hwst11 | exact M.put 1 rfl hwst11 | exact M.put 2 rfl hwst11 | exact M.put 3 rfl hwst11 | exact M.put 4 rfl hwst11 | exact M.put 5 rfl hwst11 | exact M.put 6 rfl hwst11 | exact M.put 7 rfl hwst11
    refine pnd ?_
    refine go 1 ?_
    have hPS : putS l x.2.2.1 (sizedB d o.n.toNat) = if 262144 + d.length < usedL l + (sizedB d o.n.toNat).length then (l, 7) else (setD l x.2.2.1 (sizedB d o.n.toNat), 0) := by unfold putS; rw [hfo]
    unfold sizeS at hW
    rw [hfo] at hW
    by_cases hq7 : 262144 + d.length < usedL l + (sizedB d o.n.toNat).length
    ·rw [if_pos hq7] at hPS hW
     rw [hW]
     rw [hPS] at M hF' ⊢
     exact ⟨_, _, L', _, rfl, RsK.bad, hF', M.tail.tail.tail.tail.tail.tail⟩
    ·rw [if_neg hq7] at hPS hW
     rw [hW]
     rw [hPS] at M hF' ⊢
     exact ⟨_, _, L', _, rfl, RsK.bad, hF', M.tail.tail.tail.tail.tail.tail⟩

end Go.Proofs.Ytebfjdolgchgaaa

namespace Go.Proofs.Ytebfjdolgchgaaa
open Go Go.Fw Go.RowKit
set_option linter.unusedVariables false
set_option linter.unusedSimpArgs false

structure RI (l : List Raw) (hl : List Opn) : Prop where
 tr : TreeL l
 le : l.length ≤ 128
 us : usedL l ≤ 262144
 ho : ∀ x ∈ hl, ∃ d, (x.2.2.1, false, d) ∈ l
 nd : (hl.map fun x => (x.1, x.2.1)).Nodup
 kr : ∀ x ∈ hl, 0 ≤ x.1 ∧ x.1 < 8 ∧ 1 ≤ x.2.1 ∧ x.2.1 ≤ 16
section
variable {l l' : List Raw} {hl : List Opn} {p b d x y : List UInt8} {who n : Int} {w : Bool} {z : Opn} {j : Nat}
theorem isO_iff : isO who n z = true ↔ z.1 = who ∧ z.2.1 = n := by unfold isO; rw [decide_eq_true_eq]
theorem RI.files (h : RI l hl) (ht : TreeL l') (hlen : l'.length ≤ 128) (hu : usedL l' ≤ 262144) (hf : ∀ x ∈ hl, ∀ d, (x.2.2.1, false, d) ∈ l → ∃ d', (x.2.2.1, false, d') ∈ l') : RI l' hl :=
 ⟨ht, hlen, hu, fun x hx => let ⟨d, hd⟩ := h.ho x hx; hf x hx d hd, h.nd, h.kr⟩
theorem RI.size (h : RI l hl) (hp : (p, false, d) ∈ l) (hb : b.length ≤ 65536) (hu : ¬ 262144 + d.length < usedL l + b.length) : RI (setD l p b) hl := by
 have hn := h.tr.names
 refine h.files ?_ (by unfold setD; rw [List.length_map]; exact h.le) (by have := usedL_set (b := b) hn hp; omega) (fun x hx e he => ?_)
 ·have := h.tr.put p b
  rw [h.tr.putD hp hb] at this
  exact this
 ·by_cases hq : x.2.2.1 = p
  ·exact ⟨b, mem_setD.2 (.inr ⟨hq, rfl, _, hp, rfl, rfl⟩)⟩
  ·exact ⟨e, mem_setD.2 (.inl ⟨he, hq⟩)⟩
theorem sizeS_RI (h : RI l hl) (hp : (p, false, d) ∈ l) (hb : b.length ≤ 65536) (r : RsS) : RI (sizeS l p b r).2 hl := by
 unfold sizeS
 rw [file_of h.tr hp]
 split
 ·exact h
 ·rename_i hu; exact h.size hp hb hu
theorem writeS_RI (h : RI l hl) (hp : (p, false, d) ∈ l) {o : OpS} : RI (writeS l p w o).2 hl := by
 unfold writeS
 split
 ·exact h
 ·split
  ·exact h
  ·split
   ·exact h
   ·refine sizeS_RI h hp ?_ _
    have := (h.tr.row hp).2.2.2.1
    simp only at this
    rw [writeB_len, file_of h.tr hp]; omega
theorem truncS_RI (h : RI l hl) (hp : (p, false, d) ∈ l) {o : OpS} : RI (truncS l p w o).2 hl := by
 unfold truncS
 split
 ·exact h
 ·split
  ·exact h
  ·exact sizeS_RI h hp (by rw [sizedB_len]; omega) _
theorem hfL_get (hn : (hl.map fun x => (x.1, x.2.1)).Nodup) (hz : z ∈ hl) (e1 : z.1 = who) (e2 : z.2.1 = n) : hfL hl who n = some (z.2.2.1, z.2.2.2) := by
 rcases atO_cases hl who n with ⟨j, x, hx, ho, _, _, h2⟩ | ⟨h1, _, _⟩
 ·rw [h2]
  obtain ⟨g1, g2⟩ := isO_iff.1 ho
  obtain ⟨k, hk⟩ := List.getElem?_of_mem hz
  have e : j = k := by
   have a1 : (hl.map fun x => (x.1, x.2.1))[j]? = some (who, n) := by rw [List.getElem?_map, hx]; simp [g1, g2]
   have a2 : (hl.map fun x => (x.1, x.2.1))[k]? = some (who, n) := by rw [List.getElem?_map, hk]; simp [e1, e2]
   obtain ⟨l1, b1⟩ := List.getElem?_eq_some_iff.1 a1
   obtain ⟨l2, b2⟩ := List.getElem?_eq_some_iff.1 a2
   exact (List.getElem_inj hn).1 (b1.trans b2.symm)
  subst e
  rw [hx] at hk
  cases hk; rfl
 ·have := h1 z hz
  rw [isO_iff.2 ⟨e1, e2⟩] at this; cases this
theorem hfL_none (h : ∀ y ∈ hl, isO who n y = false) : hfL hl who n = none := by
 unfold hfL
 rw [List.find?_eq_none.2 (fun y hy => by rw [h y hy]; simp)]; rfl
theorem hfL_open (h : hfL hl who n = none) : hfL (hl ++ [(who, n, p, w)]) = setH (hfL hl) who n (some (p, w)) := by
 have hno : ∀ y ∈ hl, isO who n y = false := by
  rcases atO_cases hl who n with ⟨j, x, _, _, _, _, h2⟩ | ⟨h1, _, _⟩
  ·rw [h2] at h; cases h
  ·exact h1
 funext a m
 unfold setH
 split
 ·rename_i e
  unfold hfL
  rw [e.1, e.2, List.find?_append, List.find?_eq_none.2 (fun y hy => by rw [hno y hy]; simp)]
  simp [isO]
 ·rename_i e
  unfold hfL
  rw [List.find?_append]
  have : ([(who, n, p, w)] : List Opn).find? (isO a m) = none := by
   rw [List.find?_eq_none]
   intro y hy
   rw [List.mem_singleton.1 hy]
   unfold isO
   rw [decide_eq_true_eq]
   exact fun e2 => e ⟨e2.1.symm, e2.2.symm⟩
  rw [this, Option.or_none]
theorem nd_open (hn : (hl.map fun x => (x.1, x.2.1)).Nodup) (h : hfL hl who n = none) : ((hl ++ [(who, n, p, w)]).map fun x => (x.1, x.2.1)).Nodup := by
 rw [List.map_append, List.nodup_append]
 refine ⟨hn, by simp, ?_⟩
 intro a ha c hc e
 subst e
 simp only [List.map_cons, List.map_nil, List.mem_singleton] at hc
 obtain ⟨z, hz, he⟩ := List.mem_map.1 ha
 rw [hc] at he
 have h1 : z.1 = who := congrArg Prod.fst he
 have h2 : z.2.1 = n := congrArg Prod.snd he
 rw [hfL_get hn hz h1 h2] at h; cases h
theorem hfL_close (hn : (hl.map fun x => (x.1, x.2.1)).Nodup) (hj : hl[j]? = some z) (h : isO who n z = true) : hfL (hl.eraseIdx j) = setH (hfL hl) who n none := by
 obtain ⟨g1, g2⟩ := isO_iff.1 h
 have hnd2 : ((hl.eraseIdx j).map fun x => (x.1, x.2.1)).Nodup := (hn.sublist ((List.eraseIdx_sublist hl j).map _))
 have hmem : ∀ y, y ∈ hl.eraseIdx j ↔ y ∈ hl ∧ ¬ (y.1 = who ∧ y.2.1 = n) := by
  intro y
  obtain ⟨hlt, hzj⟩ := List.getElem?_eq_some_iff.1 hj
  have e : hl = hl.take j ++ z :: hl.drop (j + 1) := split_at hj
  have e2 : hl.eraseIdx j = hl.take j ++ hl.drop (j + 1) := List.eraseIdx_eq_take_drop_succ hl j
  rw [e2]
  have hn2 := hn
  rw [e, List.map_append, List.map_cons, List.nodup_append] at hn2
  obtain ⟨_, h2, h3⟩ := hn2
  rw [List.nodup_cons] at h2
  constructor
  ·intro hy
   refine ⟨?_, fun ek => ?_⟩
   ·rw [e]
    rcases List.mem_append.1 hy with hy | hy
    ·exact List.mem_append_left _ hy
    ·exact List.mem_append_right _ (List.mem_cons_of_mem _ hy)
   ·have ek2 : (y.1, y.2.1) = (z.1, z.2.1) := by rw [ek.1, ek.2, g1, g2]
    rcases List.mem_append.1 hy with hy | hy
    ·exact h3 _ (List.mem_map.2 ⟨y, hy, rfl⟩) _ List.mem_cons_self ek2
    ·exact h2.1 (List.mem_map.2 ⟨y, hy, ek2⟩)
  ·rintro ⟨hy, hne⟩
   rw [e] at hy
   rcases List.mem_append.1 hy with hy | hy
   ·exact List.mem_append_left _ hy
   ·rcases List.mem_cons.1 hy with rfl | hy
    ·exact absurd ⟨g1, g2⟩ hne
    ·exact List.mem_append_right _ hy
 funext a m
 unfold setH
 split
 ·rename_i e
  refine hfL_none fun y hy => ?_
  cases hq : isO a m y with
  | false => rfl
  | true =>
   obtain ⟨q1, q2⟩ := isO_iff.1 hq
   exact absurd ⟨q1.trans e.1, q2.trans e.2⟩ ((hmem y).1 hy).2
 ·rename_i e
  rcases atO_cases hl a m with ⟨k, x, hx, ho, _, _, h2⟩ | ⟨h1, _, h2⟩
  ·obtain ⟨q1, q2⟩ := isO_iff.1 ho
   have hm : x ∈ hl.eraseIdx j := (hmem x).2 ⟨List.mem_of_getElem? hx, fun e2 => e ⟨q1.symm.trans e2.1, q2.symm.trans e2.2⟩⟩
   rw [h2, hfL_get hnd2 hm q1 q2]
  ·rw [h2, hfL_none (fun y hy => h1 y ((hmem y).1 hy).1)]
def movO (x y : List UInt8) (z : Opn) : Opn := (z.1, z.2.1, movP x y z.2.2.1, z.2.2.2)
theorem hfL_mov : hfL (hl.map (movO x y)) = movH (hfL hl) x y := by
 funext a m
 unfold movH hfL
 rw [List.find?_map, Option.map_map, Option.map_map]
 rfl
theorem nd_mov (hn : (hl.map fun x => (x.1, x.2.1)).Nodup) : ((hl.map (movO x y)).map fun x => (x.1, x.2.1)).Nodup := by rw [List.map_map]; exact hn
theorem openB_any (hp : ∀ x ∈ hl, 0 ≤ x.1 ∧ x.1 < 8 ∧ 1 ≤ x.2.1 ∧ x.2.1 ≤ 16) (hn : (hl.map fun x => (x.1, x.2.1)).Nodup) : openB (hfL hl) p = hl.any fun x => decide (x.2.2.1 = p) := by
 rw [Bool.eq_iff_iff]
 unfold openB
 simp only [List.any_eq_true, List.mem_range, decide_eq_true_eq]
 constructor
 ·rintro ⟨a, _, i, _, h⟩
  rcases atO_cases hl (a : Int) ((i : Int) + 1) with ⟨k, x, hx, ho, _, _, h2⟩ | ⟨_, _, h2⟩
  ·rw [h2] at h
   exact ⟨x, List.mem_of_getElem? hx, by simpa using h⟩
  ·rw [h2] at h; cases h
 ·rintro ⟨x, hx, he⟩
  obtain ⟨g1, g2, g3, g4⟩ := hp x hx
  refine ⟨x.1.toNat, by omega, (x.2.1 - 1).toNat, by omega, ?_⟩
  rw [hfL_get hn hx (by omega) (by omega)]
  exact decide_eq_true he
end
/-- What the document's files answer, and how they are then. -/
def RfP (w00 : World) (L X : List (Nat × Obj)) (hl : List Opn) (st : St3) (r : Value) (w' : World) : Prop := ∃ pu cu ph ch hl' L' rv, r = .tuple #[.agg #[.slice pu st.2.1.length cu, .slice ph hl'.length ch], rv] ∧ RsK w00 (L ++ L') rv st.1 ∧
 FilesK w00 (L ++ L') (.slice pu st.2.1.length cu) st.2.1 ∧ OpnK w00 (L ++ L') (.slice ph hl'.length ch) hl' ∧ RI st.2.1 hl' ∧ hfL hl' = st.2.2 ∧ hl'.length ≤ hl.length + 1 ∧ Sep w00 (X ++ (L ++ L')) w'
section
variable {w00 w' : World} {L L' X : List (Nat × Obj)} {l : List Raw} {hl : List Opn} {pu ph : Option Addr} {cu ch : Nat} {st : St3} {e : Int} {rs : RsS} {rv : Value}
theorem RfP.same (hs : st = (rs, l, hfL hl)) (hr : RsK w00 (L ++ L') rv rs) (hF : FilesK w00 L (.slice pu l.length cu) l) (hO : OpnK w00 L (.slice ph hl.length ch) hl) (hI : RI l hl) (M : Sep w00 (X ++ (L ++ L')) w') : RfP w00 L X hl st (.tuple #[.agg #[.slice pu l.length cu, .slice ph hl.length ch], rv]) w' := by
 subst hs
 exact ⟨pu, cu, ph, ch, hl, L', rv, rfl, hr, hF.mono (fun y hy => mL hy), hO.mono (fun y hy => mL hy), hI, rfl, by omega, M⟩
theorem RfP.bad (hs : st = (badS e, l, hfL hl)) (hF : FilesK w00 L (.slice pu l.length cu) l) (hO : OpnK w00 L (.slice ph hl.length ch) hl) (hI : RI l hl) (M : Sep w00 (X ++ L) w') : RfP w00 L X hl st (.tuple #[.agg #[.slice pu l.length cu, .slice ph hl.length ch], rsV (badS e) (.slice none 0 0) (.slice none 0 0)]) w' :=
 RfP.same (L' := []) hs RsK.bad hF hO hI (by rw [List.append_nil]; exact M)
theorem RfP.rows {l' : List Raw} (hs : st = (rs, l', hfL hl)) (hr : RsK w00 (L ++ L') rv rs) (hF : FilesK w00 (L ++ L') (.slice pu l'.length cu) l') (hO : OpnK w00 L (.slice ph hl.length ch) hl) (hI : RI l' hl) (M : Sep w00 (X ++ (L ++ L')) w') : RfP w00 L X hl st (.tuple #[.agg #[.slice pu l'.length cu, .slice ph hl.length ch], rv]) w' := by
 subst hs
 exact ⟨pu, cu, ph, ch, hl, L', rv, rfl, hr, hF, hO.mono (fun y hy => mL hy), hI, rfl, by omega, M⟩
end
theorem oCs_take {hl : List Opn} {j : Nat} (hj : j ≤ hl.length) : (oCs hl).take (j * 4) = oCs (hl.take j) := by
 conv => lhs; rw [← List.take_append_drop j hl, oCs_app]
 rw [List.take_left' (by rw [oCs_len, List.length_take]; congr 1; omega)]
theorem oCs_drop {hl : List Opn} {j : Nat} (hj : j ≤ hl.length) : (oCs hl).drop (j * 4) = oCs (hl.drop j) := by
 conv => lhs; rw [← List.take_append_drop j hl, oCs_app]
 rw [List.drop_left' (by rw [oCs_len, List.length_take]; congr 1; omega)]
end Go.Proofs.Ytebfjdolgchgaaa

namespace Go.Proofs.Ytebfjdolgchgaaa
open Go Go.Fw Go.RowKit Go.Proofs
set_option linter.unusedVariables false
set_option linter.unusedSimpArgs false
set_option maxRecDepth 100000
set_option maxHeartbeats 4000000

-- (valise/valiseref19.FS).handle
theorem fhandle_c {w00 w0 : World} {X L : List (Nat × Obj)} {u hv : Value} {l : List Raw} {hl : List Opn} {who : Int} {o : OpS} {dv : Value} (M : Sep w00 (X ++ L) w0) (hF : FilesK w00 L u l) (hO : OpnK w00 L hv hl) (hI : RI l hl) (hlen : hl.length ≤ 1000) (hdv : BytesK w00 L dv o.d) (hod : o.d.length ≤ 131072) : Ret Try.prog 39 #[.agg #[u, hv], .int .i64 who, .agg (opC o dv).toArray] w0 (RfP w00 L X hl (handleS l (hfL hl) who o)) := by
 obtain ⟨pu, cu, rfl⟩ := (hF.at_ M (fun y hy => mR hy)).shape
 obtain ⟨ph, chh, rfl⟩ := Sg.shape (hO _ _ M (fun y hy => mR hy))
 have hT := hI.tr
 have hll := hI.le
 have hus := hI.us
 obtain ⟨pdv, cdv, rfl⟩ := (hdv _ _ M (fun y hy => mR hy)).shape
 have hat := atO_cases hl who o.h
 refine Ret.of_W Try.func39 rfl Try.ntmps39 rfl ?_
 refine go 1 ?_
 intro bbx1 _ M
 refine go 1 ?_
 intro _ _ M
 refine go 1 ?_
 intro _ _ M
 refine go 1 ?_
 intro _ _ M
 refine go 2 ?_
 refine x_call rfl rfl rfl rfl rfl en50 (rat_c (hO _ _ M (fun y hy => by simp [hy])) (by omega)) ?_
 rintro r_ w1 ⟨rfl, hn1⟩
 have M := M.new hn1
 refine ⟨trivial, ?_⟩
 refine cnd 1 ?_ ?_
 ·intro hco1
  rcases hat with ⟨_, _, _, _, h1, _⟩ | ⟨_, _, hno⟩
  ·omega
  have hS : handleS l (hfL hl) who o = (badS 19, l, hfL hl) := by unfold handleS; rw [hno]
  refine go 0 ?_
  refine W.regD (by kernel_rfl) #[0, 0, 3, 7] [(0, false), (1, true), (2, true), (3, true)] (by kernel_rfl) ?_
  intro K wD1 hK hwD1
  have M := M.drew hwD1
  refine go 1 ?_
  refine x_call rfl rfl rfl rfl rfl en37 (rbad_c) ?_
  rintro r_ wcall2 ⟨rfl, hncall2⟩
  have M := M.new hncall2
  refine pnd ?_
  refine x_st [_, _] _ rfl rfl rfl sz36 rfl rfl rfl rfl (by first | exact M.at_ 0 rfl | exact M.at_ 1 rfl | exact M.at_ 2 rfl | exact M.at_ 3 rfl | exact M.at_ 4 rfl | exact M.at_ 5 rfl | exact M.at_ 6 rfl | exact M.at_ 7 rfl) rfl rfl rfl ?_
  intro wst1 hwst1
  have M := by first | exact M.put 0 rfl hwst1 | exact M.put 1 rfl hwst1 | exact M.put 2 rfl hwst1 | exact M.put 3 rfl hwst1 | exact M.put 4 rfl hwst1 | exact M.put 5 rfl hwst1 | exact M.put 6 rfl hwst1 | exact M.put 7 rfl hwst1
  refine pnd ?_
  refine x_st [_, _, _, _, _] _ rfl rfl rfl sz59 rfl rfl rfl rfl (by first | exact M.at_ 0 rfl | exact M.at_ 1 rfl | exact M.at_ 2 rfl | exact M.at_ 3 rfl | exact M.at_ 4 rfl | exact M.at_ 5 rfl | exact M.at_ 6 rfl | exact M.at_ 7 rfl) rfl rfl rfl ?_
  intro wst2 hwst2
  have M := by first | exact M.put 0 rfl hwst2 | exact M.put 1 rfl hwst2 | exact M.put 2 rfl hwst2 | exact M.put 3 rfl hwst2 | exact M.put 4 rfl hwst2 | exact M.put 5 rfl hwst2 | exact M.put 6 rfl hwst2 | exact M.put 7 rfl hwst2
  refine pnd ?_
  refine go 1 ?_
  exact RfP.bad hS hF hO hI M.tail.tail.tail.tail
 ·intro hco1
  rcases hat with ⟨j, x, hx, hxo, hatj, _, hsome⟩ | ⟨_, h1, _⟩
  rotate_left
  ·omega
  rw [hatj]
  have hj := (List.getElem?_eq_some_iff.1 hx).1
  have hOA := hO _ _ M (fun y hy => by simp [hy])
  obtain ⟨bb, off, rfl, _⟩ := OpnAt.blk hOA (j := j) (by omega)
  have hrow := OpnAt.row hOA hx
  obtain ⟨d, hp⟩ := hI.ho x (List.mem_of_getElem? hx)
  refine go 1 ?_
  refine x_ia j rfl rfl rfl Try.underlying34 sz118 rfl rfl rfl (by omega) ?_
  refine x_ldA [_, _, _, _] rfl rfl rfl Try.underlying118 rfl sz118 rfl rfl hrow ?_
  refine go 1 ?_
  intro _ _ M
  refine go 1 ?_
  intro _ M
  refine cnd 2 ?_ ?_
  ·intro hco2
   have hS : handleS l (hfL hl) who o = (readS l x.2.2.1 o, l, hfL hl) := by unfold handleS; rw [hsome]; simp only; rw [if_pos hco2]
   refine go 0 ?_
   refine W.regD (by kernel_rfl) #[0, 0, 0, 0, 14, 31, 63] [(0, false), (1, false), (2, false), (3, false), (4, true), (5, true), (6, true)] (by kernel_rfl) ?_
   intro K wD2 hK hwD2
   have M := M.drew hwD2
   refine go 4 ?_
   refine x_call rfl rfl rfl rfl rfl en57 (fread_c (X := _ :: _ :: _ :: _ :: _ :: X) M hF hll hT hus hp rfl) ?_
   rintro r_ w3 ⟨L3, hr3, M⟩
   obtain ⟨q1, k1, q2, k2, rfl, hr4, hr5⟩ := hr3
   have hr3 : RsK w00 (L ++ L3) _ (readS l x.2.2.1 o) := ⟨q1, k1, q2, k2, rfl, hr4, hr5⟩
   refine pnd ?_
   refine x_st [_, _] _ rfl rfl rfl sz36 rfl rfl rfl rfl (by first | exact M.at_ 0 rfl | exact M.at_ 1 rfl | exact M.at_ 2 rfl | exact M.at_ 3 rfl | exact M.at_ 4 rfl | exact M.at_ 5 rfl | exact M.at_ 6 rfl | exact M.at_ 7 rfl) rfl rfl rfl ?_
   intro wst4 hwst4
   have M := by first | exact M.put 0 rfl hwst4 | exact M.put 1 rfl hwst4 | exact M.put 2 rfl hwst4 | exact M.put 3 rfl hwst4 | exact M.put 4 rfl hwst4 | exact M.put 5 rfl hwst4 | exact M.put 6 rfl hwst4 | exact M.put 7 rfl hwst4
   refine pnd ?_
   refine x_st [_, _, _, _, _] _ rfl rfl rfl sz59 rfl rfl rfl rfl (by first | exact M.at_ 0 rfl | exact M.at_ 1 rfl | exact M.at_ 2 rfl | exact M.at_ 3 rfl | exact M.at_ 4 rfl | exact M.at_ 5 rfl | exact M.at_ 6 rfl | exact M.at_ 7 rfl) rfl rfl rfl ?_
   intro wst5 hwst5
   have M := by first | exact M.put 0 rfl hwst5 | exact M.put 1 rfl hwst5 | exact M.put 2 rfl hwst5 | exact M.put 3 rfl hwst5 | exact M.put 4 rfl hwst5 | exact M.put 5 rfl hwst5 | exact M.put 6 rfl hwst5 | exact M.put 7 rfl hwst5
   refine pnd ?_
   refine go 1 ?_
   exact RfP.same hS hr3 hF hO hI M.tail.tail.tail.tail.tail
  ·intro hco2
   refine cnd 1 ?_ ?_
   ·intro hco3
    have hS : handleS l (hfL hl) who o = ((writeS l x.2.2.1 x.2.2.2 o).1, (writeS l x.2.2.1 x.2.2.2 o).2, hfL hl) := by unfold handleS; rw [hsome]; simp only; rw [if_neg hco2, if_pos hco3]
    refine go 3 ?_
    refine x_call rfl rfl rfl rfl rfl en58 (fwrite_c (X := _ :: _ :: _ :: _ :: _ :: X) M hF hll hT hus hp hdv hod) ?_
    rintro r_ w4 ⟨pu', cu', L4, rv, rfl, hr3, hF4, M⟩
    obtain ⟨q1, k1, q2, k2, rfl, hr4, hr5⟩ := hr3
    have hr3 : RsK w00 (L ++ L4) _ (writeS l x.2.2.1 x.2.2.2 o).1 := ⟨q1, k1, q2, k2, rfl, hr4, hr5⟩
    refine ⟨trivial, ?_⟩
    refine go 1 ?_
    intro _ M
    refine go 1 ?_
    intro _ M
    refine go 1 ?_
    exact RfP.rows hS hr3 hF4 hO (writeS_RI hI hp) M.tail.tail.tail.tail.tail
   ·intro hco3
    refine cnd 1 ?_ ?_
    ·intro hco4
     have hS : handleS l (hfL hl) who o = ((truncS l x.2.2.1 x.2.2.2 o).1, (truncS l x.2.2.1 x.2.2.2 o).2, hfL hl) := by unfold handleS; rw [hsome]; simp only; rw [if_neg hco2, if_neg hco3, if_pos hco4]
     refine go 3 ?_
     refine x_call rfl rfl rfl rfl rfl en59 (ftrunc_c (X := _ :: _ :: _ :: _ :: _ :: X) M hF hll hT hus hp rfl) ?_
     rintro r_ w5 ⟨pu', cu', L5, rv, rfl, hr3, hF4, M⟩
     obtain ⟨q1, k1, q2, k2, rfl, hr4, hr5⟩ := hr3
     have hr3 : RsK w00 (L ++ L5) _ (truncS l x.2.2.1 x.2.2.2 o).1 := ⟨q1, k1, q2, k2, rfl, hr4, hr5⟩
     refine ⟨trivial, ?_⟩
     refine go 1 ?_
     intro _ M
     refine go 1 ?_
     intro _ M
     refine go 1 ?_
     exact RfP.rows hS hr3 hF4 hO (truncS_RI hI hp) M.tail.tail.tail.tail.tail
    ·intro hco4
     have hS : handleS l (hfL hl) who o = (badS 0, l, setH (hfL hl) who o.h none) := by unfold handleS; rw [hsome]; simp only; rw [if_neg hco2, if_neg hco3, if_neg hco4]
     refine go 0 ?_
     refine W.regD (by kernel_rfl) #[0, 1, 0, 0, 8, 0, 56, 124, 0, 256, 0, 1024, 3840, 8188, 16383, 0, 32767, 131071] [(0, false), (1, false), (3, false), (4, false), (5, false), (6, false), (8, false), (9, false), (10, false), (11, false), (12, false), (15, false), (2, true), (7, true), (13, true), (14, false), (16, true), (17, true)] (by kernel_rfl) ?_
     intro K wD3 hK hwD3
     have M := M.drew hwD3
     refine go 2 ?_
     refine x_slh j rfl rfl rfl Try.underlying34 sz118 rfl rfl rfl (by have := Sg.capLe hOA; omega) ?_
     refine go 1 ?_
     refine x_add ((j + 1 : Nat) : Int) rfl rfl rfl rfl rfl (by rw [wadd (by omega) (by omega)]; omega) ?_
     refine x_sll (j + 1) rfl rfl rfl Try.underlying34 sz118 rfl rfl rfl (by omega) ?_
     refine go 1 ?_
     refine x_bs0 rfl rfl rfl Try.underlying34 sz118 ?_
     intro bb0 wb hbb hwb
     have M := M.acons hbb hwb
     refine ⟨⟨.inr (cell_of (M.get (b := bbx1) (o := (bbx1, .cells [.slice pu l.length cu, .slice (some ⟨bb, off, none⟩) hl.length chh].toArray 36 (0, 0)).2) (by simp)) rfl), .inr (cell_of (M.get (b := bbx1) (o := (bbx1, .cells [.slice pu l.length cu, .slice (some ⟨bb, off, none⟩) hl.length chh].toArray 36 (0, 0)).2) (by simp)) rfl), .inr ⟨_, _, _, (M.get (b := bbx1) (o := (bbx1, .cells [.slice pu l.length cu, .slice (some ⟨bb, off, none⟩) hl.length chh].toArray 36 (0, 0)).2) (by simp)), rfl⟩, trivial⟩, ?_⟩
     have hOA := hO _ _ M (fun y hy => by simp [hy])
     have hs1 := Sg.take hOA (j := j) (by omega)
     rw [oCs_take (by omega)] at hs1
     refine x_apL (L := [_]) (cs := []) (nn := 0) rfl rfl rfl rfl Try.underlying34 sz118 ze118 rfl by118 rfl rfl (.inr ⟨bb0, 0, [], _, rfl, rfl, rfl, rfl⟩) M (by simp) (hs1.src Try.underlying34 (oCs_one _)) (by omega) (by decide) (by omega) ?_
     intro Lo v6 w6 how M
     rw [Nat.zero_add, List.nil_append] at how
     refine ⟨⟨.inr (cell_of (M.get (b := bbx1) (o := (bbx1, .cells [.slice pu l.length cu, .slice (some ⟨bb, off, none⟩) hl.length chh].toArray 36 (0, 0)).2) (by simp)) rfl), .inl (by kernel_rfl), .inr ⟨_, _, _, (M.get (b := bbx1) (o := (bbx1, .cells [.slice pu l.length cu, .slice (some ⟨bb, off, none⟩) hl.length chh].toArray 36 (0, 0)).2) (by simp)), rfl⟩, trivial⟩, ?_⟩
     have hOA := hO _ _ M (fun y hy => by simp [hy])
     have hs2 := Sg.drop hOA (j := j + 1) (by omega)
     rw [oCs_drop (by omega)] at hs2
     refine x_apL (L := Lo) (cs := oCs (hl.take j)) rfl rfl rfl rfl Try.underlying34 sz118 ze118 rfl by118 rfl rfl how M (oCs_one _) (hs2.src Try.underlying34 (oCs_one _)) (by omega) (by decide) (by omega) ?_
     intro Lo v7 w7 how M
     rw [← oCs_app, show hl.take j ++ hl.drop (j + 1) = hl.eraseIdx j from (List.eraseIdx_eq_take_drop_succ hl j).symm, show j + (hl.length - (j + 1)) = (hl.eraseIdx j).length by rw [List.length_eraseIdx, if_pos hj]; omega] at how
     obtain ⟨p7, c7, rfl⟩ := how.shape
     have M : Sep w00 ((_ :: _ :: _ :: _ :: _ :: X) ++ (L ++ Lo)) w7 := St.lay M
     refine ⟨⟨.inl (by kernel_rfl), .inl (by kernel_rfl), .inr ⟨_, _, _, (M.get (b := bbx1) (o := (bbx1, .cells [.slice pu l.length cu, .slice (some ⟨bb, off, none⟩) hl.length chh].toArray 36 (0, 0)).2) (by simp)), rfl⟩, trivial⟩, ?_⟩
     refine go 1 ?_
     refine x_st [_, _] _ rfl rfl rfl sz36 rfl rfl rfl rfl (by first | exact M.at_ 0 rfl | exact M.at_ 1 rfl | exact M.at_ 2 rfl | exact M.at_ 3 rfl | exact M.at_ 4 rfl | exact M.at_ 5 rfl | exact M.at_ 6 rfl | exact M.at_ 7 rfl) rfl rfl rfl ?_
     intro wst10 hwst10
     have M := by first | exact M.put 0 rfl hwst10 | exact M.put 1 rfl hwst10 | exact M.put 2 rfl hwst10 | exact M.put 3 rfl hwst10 | exact M.put 4 rfl hwst10 | exact M.put 5 rfl hwst10 | exact M.put 6 rfl hwst10 | exact M.put 7 rfl hwst10
     refine pnd ?_
     refine x_st [_, _, _, _, _] _ rfl rfl rfl sz59 rfl rfl rfl rfl (by first | exact M.at_ 0 rfl | exact M.at_ 1 rfl | exact M.at_ 2 rfl | exact M.at_ 3 rfl | exact M.at_ 4 rfl | exact M.at_ 5 rfl | exact M.at_ 6 rfl | exact M.at_ 7 rfl) rfl rfl rfl ?_
     intro wst11 hwst11
     have M := by first | exact M.put 0 rfl hwst11 | exact M.put 1 rfl hwst11 | exact M.put 2 rfl hwst11 | exact M.put 3 rfl hwst11 | exact M.put 4 rfl hwst11 | exact M.put 5 rfl hwst11 | exact M.put 6 rfl hwst11 | exact M.put 7 rfl hwst11
     refine pnd ?_
     refine go 1 ?_
     rw [hS]
     exact ⟨_, _, _, _, hl.eraseIdx j, Lo, _, rfl, RsK.bad, hF.mono (fun y hy => mL hy), SgK.own how (by decide) (fun y hy => mR hy), ⟨hI.tr, hI.le, hI.us, fun y hy => hI.ho y (List.mem_of_mem_eraseIdx hy), hI.nd.sublist ((List.eraseIdx_sublist hl j).map _), fun y hy => hI.kr y (List.mem_of_mem_eraseIdx hy)⟩, hfL_close hI.nd hx hxo, by rw [List.length_eraseIdx]; split <;> omega, M.tail.tail.tail.tail.tail⟩

end Go.Proofs.Ytebfjdolgchgaaa

namespace Go.Proofs.Ytebfjdolgchgaaa
open Go Go.Fw Go.RowKit
set_option linter.unusedVariables false
set_option linter.unusedSimpArgs false

section
variable {l : List Raw} {hl : List Opn} {p x y b d : List UInt8} {who n : Int} {w : Bool}
theorem RI.remove (h : RI l hl) (h0 : (removeL l p).2 = 0) (hno : ∀ z ∈ hl, z.2.2.1 ≠ p) : RI (removeL l p).1 hl := by
 obtain ⟨h1, h2, h3⟩ := remove_row h0
 obtain ⟨r, hr, hrp⟩ := findL_mem h2 h1
 obtain ⟨j, hj, hat⟩ := row_of hr h.tr.names
 have hn := h.tr.names
 have e : (removeL l p).1 = l.eraseIdx j := by rw [h3, ← hrp, hat, Int.toNat_natCast]
 have hmem := fun y => mem_erase (y := y) hn hj
 refine h.files (h.tr.remove p) ?_ ?_ (fun z hz e1 he => ?_)
 ·rw [e, List.length_eraseIdx]; have := h.le; split <;> omega
 ·rw [e]
  have hp := usedL_perm (erase_perm hj)
  rw [usedL_cons] at hp
  have := h.us
  omega
 ·exact ⟨e1, by rw [e]; exact (hmem _).2 ⟨he, by rw [hrp]; exact hno z hz⟩⟩
theorem RI.mkdir (h : RI l hl) (p : List UInt8) : RI (mkdirL l p).1 hl := by
 have ht := h.tr.mkdir p
 have hl := h.le
 have hu := h.us
 unfold mkdirL at ht ⊢
 split
 ·rename_i h1
  rw [if_pos h1] at ht
  split
  ·exact h
  ·rename_i h2
   rw [if_neg h2] at ht
   split
   ·exact h
   ·rename_i h3
    rw [if_neg h3] at ht
    exact h.files ht (by rw [withR_len]; omega) (by rw [usedL_with]; simpa using hu) (fun z hz e he => ⟨e, withR_mem.2 (.inr he)⟩)
 ·exact h
theorem rename_self (l : List Raw) (x : List UInt8) : (renameL l x x).1 = l := by
 unfold renameL
 split
 ·split
  ·rfl
  ·split
   ·rw [if_pos rfl]
   ·rfl
 ·rfl
theorem used_fold (x y : List UInt8) : ∀ l A : List Raw, usedL (l.foldl (fun a f => withR a (mvN x y f)) A) = usedL A + usedL l
 | [], A => by simp [usedL]
 | f :: l, A => by
  rw [List.foldl_cons, used_fold x y l, usedL_with, mvN_eq, usedL_cons]
  simp only
  omega
theorem RI.rename (h : RI l hl) (h0 : (renameL l x y).2 = 0) : RI (renameL l x y).1 (hl.map (movO x y)) := by
 have ht := h.tr.rename x y
 have hkr : ∀ z ∈ hl.map (movO x y), 0 ≤ z.1 ∧ z.1 < 8 ∧ 1 ≤ z.2.1 ∧ z.2.1 ≤ 16 := fun z hz => by
  obtain ⟨z0, hz0, rfl⟩ := List.mem_map.1 hz
  exact h.kr z0 hz0
 by_cases hxy : x = y
 ·subst hxy
  rw [rename_self] at ht ⊢
  refine ⟨ht, h.le, h.us, fun z hz => ?_, nd_mov h.nd, hkr⟩
  obtain ⟨z0, hz0, rfl⟩ := List.mem_map.1 hz
  show ∃ d, (movP x x z0.2.2.1, false, d) ∈ l
  rw [movP_self]
  exact h.ho z0 hz0
 ·obtain ⟨_, e⟩ := rename_mov h0 hxy
  rw [e] at ht ⊢
  refine ⟨ht, ?_, ?_, fun z hz => ?_, nd_mov h.nd, hkr⟩
  ·unfold movL; rw [foldW_len]; simpa using h.le
  ·have := used_fold x y l []
   unfold movL
   rw [this]
   simpa [usedL] using h.us
  ·obtain ⟨z0, hz0, rfl⟩ := List.mem_map.1 hz
   obtain ⟨d, hd⟩ := h.ho z0 hz0
   refine ⟨d, ?_⟩
   unfold movL
   rw [foldW_mem]
   exact .inr ⟨_, hd, by rw [mvN_eq]; rfl⟩
theorem RI.hand (h : RI l hl) (hf : hfL hl who n = none) (hp : (p, false, d) ∈ l) (hk : 0 ≤ who ∧ who < 8 ∧ 1 ≤ n ∧ n ≤ 16) : RI l (hl ++ [(who, n, p, w)]) := by
 refine ⟨h.tr, h.le, h.us, fun z hz => ?_, nd_open h.nd hf, fun z hz => ?_⟩
 ·rcases List.mem_append.1 hz with hz | hz
  ·exact h.ho z hz
  ·rw [List.mem_singleton.1 hz]; exact ⟨d, hp⟩
 ·rcases List.mem_append.1 hz with hz | hz
  ·exact h.kr z hz
  ·rw [List.mem_singleton.1 hz]; exact hk
theorem RI.put (h : RI l hl) (h0 : (putL l p []).2 = 0) (hn : ∀ y ∈ l, y.1 ≠ p) : RI (putL l p []).1 hl ∧ (p, false, []) ∈ (putL l p []).1 := by
 have ht := h.tr.put p []
 have e := put_new hn h0
 have h128 : l.length < 128 := by
  have hf : l.find? (fun x => decide (x.1 = p)) = none := List.find?_eq_none.2 fun y hy => by simpa using hn y hy
  unfold putL at h0
  rw [hf] at h0
  split at h0
  ·simp only at h0
   split at h0
   ·cases h0
   ·split at h0
    ·cases h0
    ·omega
  ·rename_i h1; exact absurd h0 h1
 rw [e] at ht ⊢
 refine ⟨h.files ht (by rw [withR_len]; omega) (by rw [usedL_with]; have := h.us; simpa using this) (fun z hz e he => ⟨e, withR_mem.2 (.inr he)⟩), withR_mem.2 (.inl rfl)⟩
end
end Go.Proofs.Ytebfjdolgchgaaa

namespace Go.Proofs.Ytebfjdolgchgaaa
open Go Go.Fw Go.RowKit Go.Proofs
set_option linter.unusedVariables false
set_option linter.unusedSimpArgs false
set_option maxRecDepth 100000
set_option maxHeartbeats 4000000
theorem mem_take_snoc2 {α : Type} {P : α → Prop} {l : List α} {j : Nat} {x : α} (hx : l[j]? = some x) (h : ∀ y ∈ l.take j, P y) (hp : P x) : ∀ y ∈ l.take (j + 1), P y := by
 intro y hy
 rw [take_snoc hx] at hy
 rcases List.mem_append.1 hy with hy | hy
 ·exact h y hy
 ·rw [List.mem_singleton.1 hy]; exact hp
-- (valise/valiseref19.FS).remove
theorem fremove_c {w00 w0 : World} {X L : List (Nat × Obj)} {u hv : Value} {l : List Raw} {hl : List Opn} {p : List UInt8} (M : Sep w00 (X ++ L) w0) (hF : FilesK w00 L u l) (hO : OpnK w00 L hv hl) (hI : RI l hl) (hlen : hl.length ≤ 1000) (hpl : p.length ≤ 2000) : Ret Try.prog 61 #[.agg #[u, hv], strV p] w0 (RfP w00 L X hl (removeS l (hfL hl) p)) := by
 obtain ⟨pu, cu, rfl⟩ := (hF.at_ M (fun y hy => mR hy)).shape
 obtain ⟨ph, chh, rfl⟩ := Sg.shape (hO _ _ M (fun y hy => mR hy))
 have hT := hI.tr
 have hll := hI.le
 have hus := hI.us
 have hob := openB_any (p := p) hI.kr hI.nd
 refine Ret.of_W Try.func61 rfl Try.ntmps61 rfl ?_
 refine go 1 ?_
 intro bbx1 _ M
 refine go 1 ?_
 intro bal1 _ M
 refine go 1 ?_
 intro bal2 _ M
 refine go 1 ?_
 refine x_call rfl rfl rfl rfl rfl en82 (rremove_x (p := p) (X := _ :: _ :: _ :: X) M hF (by omega)) ?_
 rintro r_ w1 ⟨u1, L1, rfl, hF1, M⟩
 obtain ⟨pu1, cu1, rfl⟩ := (hF1.at_ M (fun y hy => mR hy)).shape
 refine ⟨trivial, ?_⟩
 refine go 1 ?_
 intro bal3 _ M
 refine go 1 ?_
 intro _ M
 refine cnd 1 ?_ ?_
 ·intro hco1
  have hS : removeS l (hfL hl) p = (badS (removeL l p).2, l, hfL hl) := by unfold removeS; rw [if_neg hco1]
  refine go 0 ?_
  refine W.regD (by kernel_rfl) #[0, 0, 2, 7, 15] [(0, false), (1, false), (2, true), (3, true), (4, true)] (by kernel_rfl) ?_
  intro K wD1 hK hwD1
  have M := M.drew hwD1
  refine go 1 ?_
  refine x_call rfl rfl rfl rfl rfl en37 (rbad_c) ?_
  rintro r_ wcall2 ⟨rfl, hncall2⟩
  have M := M.new hncall2
  refine pnd ?_
  refine x_st [_, _] _ rfl rfl rfl sz36 rfl rfl rfl rfl (by first | exact M.at_ 0 rfl | exact M.at_ 1 rfl | exact M.at_ 2 rfl | exact M.at_ 3 rfl | exact M.at_ 4 rfl | exact M.at_ 5 rfl | exact M.at_ 6 rfl | exact M.at_ 7 rfl) rfl rfl rfl ?_
  intro wst2 hwst2
  have M := by first | exact M.put 0 rfl hwst2 | exact M.put 1 rfl hwst2 | exact M.put 2 rfl hwst2 | exact M.put 3 rfl hwst2 | exact M.put 4 rfl hwst2 | exact M.put 5 rfl hwst2 | exact M.put 6 rfl hwst2 | exact M.put 7 rfl hwst2
  refine pnd ?_
  refine x_st [_, _, _, _, _] _ rfl rfl rfl sz59 rfl rfl rfl rfl (by first | exact M.at_ 0 rfl | exact M.at_ 1 rfl | exact M.at_ 2 rfl | exact M.at_ 3 rfl | exact M.at_ 4 rfl | exact M.at_ 5 rfl | exact M.at_ 6 rfl | exact M.at_ 7 rfl) rfl rfl rfl ?_
  intro wst3 hwst3
  have M := by first | exact M.put 0 rfl hwst3 | exact M.put 1 rfl hwst3 | exact M.put 2 rfl hwst3 | exact M.put 3 rfl hwst3 | exact M.put 4 rfl hwst3 | exact M.put 5 rfl hwst3 | exact M.put 6 rfl hwst3 | exact M.put 7 rfl hwst3
  refine pnd ?_
  refine go 1 ?_
  exact RfP.same hS RsK.bad hF hO hI M.tail.tail.tail.tail
 ·intro hco1
  refine go 0 ?_
  refine W.loop (σ := Nat) (fun j => [(1, _), (2, _), (4, _), (5, _), (6, _), (8, .int .i64 ((j : Nat) : Int))]) (fun j w => j ≤ hl.length ∧ (∀ y ∈ hl.take j, y.2.2.1 ≠ p) ∧ Sep w00 (((bal3, .cells [.slice pu1 (removeL l p).1.length cu1].toArray 33 (0, 0)) :: (bal2, .cells [.int .i64 0, .int .i64 0, .int .i64 0, .slice none 0 0, .slice none 0 0].toArray 59 (0, 0)) :: (bal1, .cells [.slice none 0 0, .slice none 0 0].toArray 36 (0, 0)) :: (bbx1, .cells [.slice pu l.length cu, .slice ph hl.length chh].toArray 36 (0, 0)) :: X) ++ (L ++ L1)) w) (fun j => hl.length - j) 0 ⟨rfl, rfl, rfl, rfl, rfl, rfl, trivial⟩ ⟨Nat.zero_le _, by simp, M⟩ ?_
  rintro j w ⟨hj, hno, M⟩
  refine cnd 3 ?_ ?_
  ·intro hco2
   obtain ⟨x, hx⟩ := get_lt (l := hl) (q := j) (by omega)
   have hOA := hO _ _ M (fun y hy => by simp [hy])
   obtain ⟨bb, off, rfl, _⟩ := OpnAt.blk hOA (j := j) (by omega)
   have hrow := OpnAt.row hOA hx
   refine go 1 ?_
   refine x_ia j rfl rfl rfl Try.underlying34 sz118 rfl rfl rfl (by omega) ?_
   refine go 0 ?_
   refine x_ld rfl rfl rfl Try.underlying9 rfl rfl (RowAt.cell hrow (j := 2) rfl) ?_
   refine cnd 1 ?_ ?_
   ·intro hco3
    have hS : removeS l (hfL hl) p = (badS 18, l, hfL hl) := by unfold removeS; rw [if_pos hco1, hob, if_pos (List.any_eq_true.2 ⟨x, List.mem_of_getElem? hx, decide_eq_true hco3⟩)]
    refine go 0 ?_
    refine W.regD (by kernel_rfl) #[0, 0, 3, 7] [(0, false), (1, true), (2, true), (3, true)] (by kernel_rfl) ?_
    intro K wD2 hK hwD2
    have M := M.drew hwD2
    refine go 1 ?_
    refine x_call rfl rfl rfl rfl rfl en37 (rbad_c) ?_
    rintro r_ wcall3 ⟨rfl, hncall3⟩
    have M := M.new hncall3
    refine pnd ?_
    refine x_st [_, _] _ rfl rfl rfl sz36 rfl rfl rfl rfl (by first | exact M.at_ 0 rfl | exact M.at_ 1 rfl | exact M.at_ 2 rfl | exact M.at_ 3 rfl | exact M.at_ 4 rfl | exact M.at_ 5 rfl | exact M.at_ 6 rfl | exact M.at_ 7 rfl) rfl rfl rfl ?_
    intro wst4 hwst4
    have M := by first | exact M.put 0 rfl hwst4 | exact M.put 1 rfl hwst4 | exact M.put 2 rfl hwst4 | exact M.put 3 rfl hwst4 | exact M.put 4 rfl hwst4 | exact M.put 5 rfl hwst4 | exact M.put 6 rfl hwst4 | exact M.put 7 rfl hwst4
    refine pnd ?_
    refine x_st [_, _, _, _, _] _ rfl rfl rfl sz59 rfl rfl rfl rfl (by first | exact M.at_ 0 rfl | exact M.at_ 1 rfl | exact M.at_ 2 rfl | exact M.at_ 3 rfl | exact M.at_ 4 rfl | exact M.at_ 5 rfl | exact M.at_ 6 rfl | exact M.at_ 7 rfl) rfl rfl rfl ?_
    intro wst5 hwst5
    have M := by first | exact M.put 0 rfl hwst5 | exact M.put 1 rfl hwst5 | exact M.put 2 rfl hwst5 | exact M.put 3 rfl hwst5 | exact M.put 4 rfl hwst5 | exact M.put 5 rfl hwst5 | exact M.put 6 rfl hwst5 | exact M.put 7 rfl hwst5
    refine pnd ?_
    refine go 1 ?_
    exact RfP.same hS RsK.bad hF hO hI M.tail.tail.tail.tail
   ·intro hco3
    refine go 0 ?_
    refine x_add _ rfl rfl rfl rfl rfl (wadd (by omega) (by omega)) ?_
    refine go 0 ?_
    exact At.back (j + 1) ⟨rfl, rfl, rfl, rfl, rfl, rfl, trivial⟩ ⟨by omega, mem_take_snoc2 hx hno hco3, M⟩ (by first | omega | (simp only; omega) | (simp; done) | (simp; omega))
  ·intro hco2
   have hj2 : j = hl.length := by omega
   subst hj2
   rw [List.take_length] at hno
   have hS : removeS l (hfL hl) p = (badS 0, (removeL l p).1, hfL hl) := by
    unfold removeS
    rw [if_pos hco1, hob, if_neg]
    rw [List.any_eq_true]
    rintro ⟨z, hz, he⟩
    exact hno z hz (of_decide_eq_true he)
   refine go 5 ?_
   intro _ M
   refine go 1 ?_
   intro _ M
   refine go 1 ?_
   exact RfP.rows hS RsK.bad hF1 hO (hI.remove hco1 hno) M.tail.tail.tail.tail

end Go.Proofs.Ytebfjdolgchgaaa

namespace Go.Proofs.Ytebfjdolgchgaaa
open Go Go.Fw Go.RowKit
set_option linter.unusedVariables false
set_option linter.unusedSimpArgs false

def movsO (hl : List Opn) (x y : List UInt8) (j : Nat) : List Opn := (hl.take j).map (movO x y) ++ hl.drop j
section
variable {hl : List Opn} {x y q : List UInt8} {j : Nat} {z : Opn} {rest : List Value}
theorem movsO_len : (movsO hl x y j).length = hl.length := by unfold movsO; simp; omega
theorem movsO_zero : movsO hl x y 0 = hl := by simp [movsO]
theorem movsO_all (h : hl.length ≤ j) : movsO hl x y j = hl.map (movO x y) := by unfold movsO; rw [List.take_of_length_le h, List.drop_of_length_le h, List.append_nil]
theorem movsO_get (hz : hl[j]? = some z) : (movsO hl x y j)[j]? = some z := by
 have hl' := (List.getElem?_eq_some_iff.1 hz).1
 unfold movsO
 rw [List.getElem?_append_right (by rw [List.length_map, List.length_take]; omega), List.length_map, List.length_take, Nat.min_eq_left (by omega), Nat.sub_self, List.getElem?_drop]
 exact hz
theorem movsO_set (hz : hl[j]? = some z) : (movsO hl x y j).set j (movO x y z) = movsO hl x y (j + 1) := by
 have hl' := (List.getElem?_eq_some_iff.1 hz).1
 unfold movsO
 rw [List.set_append_right _ _ (by rw [List.length_map, List.length_take]; omega), List.length_map, List.length_take, Nat.min_eq_left (by omega), Nat.sub_self, take_snoc hz, List.map_append]
 have e : hl.drop j = z :: hl.drop (j + 1) := by
  obtain ⟨h1, h2⟩ := List.getElem?_eq_some_iff.1 hz
  rw [← h2]; exact List.drop_eq_getElem_cons h1
 rw [e, List.set_cons_zero]
 simp
theorem movsO_same (hz : hl[j]? = some z) (h : movO x y z = z) : movsO hl x y (j + 1) = movsO hl x y j := by
 rw [← movsO_set hz, h]
 have := movsO_get (x := x) (y := y) hz
 obtain ⟨h1, h2⟩ := List.getElem?_eq_some_iff.1 this
 rw [← h2]; exact List.set_getElem_self h1
theorem movO_no (h : ¬ underP z.2.2.1 x = true) : movO x y z = z := by unfold movO movP; rw [if_neg h]
theorem movO_yes (h : underP z.2.2.1 x = true) : movO x y z = (z.1, z.2.1, y ++ z.2.2.1.drop x.length, z.2.2.2) := by unfold movO movP; rw [if_pos h]
theorem oCs_set (hz : hl[j]? = some z) : (oCs hl ++ rest).take (j * 4 + 2) ++ [strV q] ++ (oCs hl ++ rest).drop (j * 4 + 2 + 1) = oCs (hl.set j (z.1, z.2.1, q, z.2.2.2)) ++ rest := by
 have hl' := (List.getElem?_eq_some_iff.1 hz).1
 have e1 : oCs hl = (oCs (hl.take j) ++ [.int .i64 z.1, .int .i64 z.2.1]) ++ (strV z.2.2.1 :: .bool z.2.2.2 :: oCs (hl.drop (j + 1))) := by
  conv => lhs; rw [split_at hz]
  simp [oCs, oR]
 have e2 : oCs (hl.set j (z.1, z.2.1, q, z.2.2.2)) = (oCs (hl.take j) ++ [.int .i64 z.1, .int .i64 z.2.1]) ++ (strV q :: .bool z.2.2.2 :: oCs (hl.drop (j + 1))) := by
  rw [set_at hz]
  simp [oCs, oR]
 have hA : (oCs (hl.take j) ++ [Value.int .i64 z.1, Value.int .i64 z.2.1]).length = j * 4 + 2 := by
  rw [List.length_append, oCs_len, List.length_take]
  simp only [List.length_cons, List.length_nil]; omega
 rw [e1, e2, List.append_assoc, List.append_assoc, tk_app hA, dr_app 1 hA]
 simp
theorem opn_set {L : List (Nat × Obj)} {v : Value} (h : OwL L v 4 hl.length (oCs hl)) (hz : hl[j]? = some z) : ∃ blk cap rest T, v = .slice (some ⟨blk, 0, none⟩) hl.length cap ∧ L = [(blk, .cells (oCs hl ++ rest).toArray T (0, 0))] ∧ (oCs hl ++ rest).length = cap * 4 ∧
  OwL [(blk, .cells ((oCs hl ++ rest).take (j * 4 + 2) ++ [strV q] ++ (oCs hl ++ rest).drop (j * 4 + 2 + 1)).toArray T (0, 0))] v 4 hl.length (oCs (hl.set j (z.1, z.2.1, q, z.2.2.2))) := by
 have hj := (List.getElem?_eq_some_iff.1 hz).1
 rcases h with ⟨_, h2, _⟩ | ⟨blk, cap, rest, T, rfl, rfl, h3, h4⟩
 ·omega
 ·refine ⟨blk, cap, rest, T, rfl, rfl, h4, .inr ⟨blk, cap, rest, T, rfl, by rw [oCs_set hz], by rw [oCs_len, List.length_set], ?_⟩⟩
  rw [List.length_append, oCs_len, List.length_set, ← oCs_len, ← List.length_append]; exact h4
end
end Go.Proofs.Ytebfjdolgchgaaa

namespace Go.Proofs.Ytebfjdolgchgaaa
open Go Go.Fw Go.RowKit Go.Proofs
set_option linter.unusedVariables false
set_option linter.unusedSimpArgs false
set_option maxRecDepth 100000
set_option maxHeartbeats 4000000

-- (valise/valiseref19.FS).rename
theorem frename_c {w00 w0 : World} {X L : List (Nat × Obj)} {u hv : Value} {l : List Raw} {hl : List Opn} {p q : List UInt8} (M : Sep w00 (X ++ L) w0) (hF : FilesK w00 L u l) (hO : OpnK w00 L hv hl) (hI : RI l hl) (hlen : hl.length ≤ 1000) : Ret Try.prog 62 #[.agg #[u, hv], strV p, strV q] w0 (RfP w00 L X hl (renameS l (hfL hl) p q)) := by
 obtain ⟨pu, cu, rfl⟩ := (hF.at_ M (fun y hy => mR hy)).shape
 obtain ⟨ph, chh, rfl⟩ := Sg.shape (hO _ _ M (fun y hy => mR hy))
 have hT := hI.tr
 have hll := hI.le
 have hus := hI.us
 refine Ret.of_W Try.func62 rfl Try.ntmps62 rfl ?_
 refine go 1 ?_
 intro bbx1 _ M
 refine go 1 ?_
 intro bal1 _ M
 refine go 1 ?_
 intro bal2 _ M
 refine go 0 ?_
 refine x_call rfl rfl rfl rfl rfl en54 (rclean_c) ?_
 rintro r_ w1 ⟨rfl, hn1⟩
 have M := M.new hn1
 refine ⟨trivial, ?_⟩
 refine cnd 1 ?_ ?_
 ·intro hco1
  have hS : renameS l (hfL hl) p q = (badS (cleanP q).2, l, hfL hl) := by unfold renameS; rw [if_neg hco1]
  refine go 0 ?_
  refine W.regD (by kernel_rfl) #[0, 0, 2, 7, 15] [(0, false), (1, false), (2, true), (3, true), (4, true)] (by kernel_rfl) ?_
  intro K wD1 hK hwD1
  have M := M.drew hwD1
  refine go 1 ?_
  refine x_call rfl rfl rfl rfl rfl en37 (rbad_c) ?_
  rintro r_ wcall2 ⟨rfl, hncall2⟩
  have M := M.new hncall2
  refine pnd ?_
  refine x_st [_, _] _ rfl rfl rfl sz36 rfl rfl rfl rfl (by first | exact M.at_ 0 rfl | exact M.at_ 1 rfl | exact M.at_ 2 rfl | exact M.at_ 3 rfl | exact M.at_ 4 rfl | exact M.at_ 5 rfl | exact M.at_ 6 rfl | exact M.at_ 7 rfl) rfl rfl rfl ?_
  intro wst1 hwst1
  have M := by first | exact M.put 0 rfl hwst1 | exact M.put 1 rfl hwst1 | exact M.put 2 rfl hwst1 | exact M.put 3 rfl hwst1 | exact M.put 4 rfl hwst1 | exact M.put 5 rfl hwst1 | exact M.put 6 rfl hwst1 | exact M.put 7 rfl hwst1
  refine pnd ?_
  refine x_st [_, _, _, _, _] _ rfl rfl rfl sz59 rfl rfl rfl rfl (by first | exact M.at_ 0 rfl | exact M.at_ 1 rfl | exact M.at_ 2 rfl | exact M.at_ 3 rfl | exact M.at_ 4 rfl | exact M.at_ 5 rfl | exact M.at_ 6 rfl | exact M.at_ 7 rfl) rfl rfl rfl ?_
  intro wst2 hwst2
  have M := by first | exact M.put 0 rfl hwst2 | exact M.put 1 rfl hwst2 | exact M.put 2 rfl hwst2 | exact M.put 3 rfl hwst2 | exact M.put 4 rfl hwst2 | exact M.put 5 rfl hwst2 | exact M.put 6 rfl hwst2 | exact M.put 7 rfl hwst2
  refine pnd ?_
  refine go 1 ?_
  exact RfP.bad hS hF hO hI M.tail.tail.tail
 ·intro hco1
  have htl : (cleanP q).1.length ≤ 120 := by
   obtain ⟨k_, _, _, h3, h4⟩ := clean_ok hco1
   rw [h4]; exact h3
  refine go 1 ?_
  refine x_call rfl rfl rfl rfl rfl en83 (rrename_x (p := p) (y := (cleanP q).1) (X := _ :: _ :: _ :: X) M hF (by omega) (fun y hy => by have := (hT.row hy).2.2.1; omega) (by omega)) ?_
  rintro r_ w3 ⟨u1, L1, rfl, hF1, M⟩
  obtain ⟨pu1, cu1, rfl⟩ := (hF1.at_ M (fun y hy => mR hy)).shape
  refine ⟨trivial, ?_⟩
  refine go 1 ?_
  intro bal3 _ M
  refine go 1 ?_
  intro _ M
  refine cnd 1 ?_ ?_
  ·intro hco2
   have hS : renameS l (hfL hl) p q = (badS (renameL l p (cleanP q).1).2, l, hfL hl) := by unfold renameS; rw [if_pos hco1, if_neg hco2]
   refine go 0 ?_
   refine W.regD (by kernel_rfl) #[0, 0, 2, 7, 15] [(0, false), (1, false), (2, true), (3, true), (4, true)] (by kernel_rfl) ?_
   intro K wD2 hK hwD2
   have M := M.drew hwD2
   refine go 1 ?_
   refine x_call rfl rfl rfl rfl rfl en37 (rbad_c) ?_
   rintro r_ wcall4 ⟨rfl, hncall4⟩
   have M := M.new hncall4
   refine pnd ?_
   refine x_st [_, _] _ rfl rfl rfl sz36 rfl rfl rfl rfl (by first | exact M.at_ 0 rfl | exact M.at_ 1 rfl | exact M.at_ 2 rfl | exact M.at_ 3 rfl | exact M.at_ 4 rfl | exact M.at_ 5 rfl | exact M.at_ 6 rfl | exact M.at_ 7 rfl) rfl rfl rfl ?_
   intro wst4 hwst4
   have M := by first | exact M.put 0 rfl hwst4 | exact M.put 1 rfl hwst4 | exact M.put 2 rfl hwst4 | exact M.put 3 rfl hwst4 | exact M.put 4 rfl hwst4 | exact M.put 5 rfl hwst4 | exact M.put 6 rfl hwst4 | exact M.put 7 rfl hwst4
   refine pnd ?_
   refine x_st [_, _, _, _, _] _ rfl rfl rfl sz59 rfl rfl rfl rfl (by first | exact M.at_ 0 rfl | exact M.at_ 1 rfl | exact M.at_ 2 rfl | exact M.at_ 3 rfl | exact M.at_ 4 rfl | exact M.at_ 5 rfl | exact M.at_ 6 rfl | exact M.at_ 7 rfl) rfl rfl rfl ?_
   intro wst5 hwst5
   have M := by first | exact M.put 0 rfl hwst5 | exact M.put 1 rfl hwst5 | exact M.put 2 rfl hwst5 | exact M.put 3 rfl hwst5 | exact M.put 4 rfl hwst5 | exact M.put 5 rfl hwst5 | exact M.put 6 rfl hwst5 | exact M.put 7 rfl hwst5
   refine pnd ?_
   refine go 1 ?_
   exact RfP.same hS RsK.bad hF hO hI M.tail.tail.tail.tail
  ·intro hco2
   have hS : renameS l (hfL hl) p q = (badS 0, (renameL l p (cleanP q).1).1, movH (hfL hl) p (cleanP q).1) := by unfold renameS; rw [if_pos hco1, if_pos hco2]
   refine go 0 ?_
   refine x_bs0 rfl rfl rfl Try.underlying34 sz118 ?_
   intro bb0 wb hbb hwb
   have M := M.acons hbb hwb
   refine ⟨trivial, ?_⟩
   refine go 1 ?_
   have hOA := hO _ _ M (fun y hy => by simp [hy])
   refine x_apL (L := [_]) (cs := []) (nn := 0) rfl rfl rfl rfl Try.underlying34 sz118 ze118 rfl by118 rfl rfl (.inr ⟨bb0, 0, [], _, rfl, rfl, rfl, rfl⟩) M (by simp) (hOA.src Try.underlying34 (oCs_one _)) (by omega) (by decide) (by omega) ?_
   intro Lo v6 w6 how M
   rw [Nat.zero_add, List.nil_append] at how
   obtain ⟨p6, c6, rfl⟩ := how.shape
   refine ⟨trivial, ?_⟩
   refine go 0 ?_
   refine W.loop (σ := Nat × List (Nat × Obj)) (fun q_ => [(1, _), (6, _), (7, _), (8, _), (10, _), (12, .slice p6 hl.length c6), (13, .int .i64 ((q_.1 : Nat) : Int))]) (fun q_ w => q_.1 ≤ hl.length ∧ OwL q_.2 (.slice p6 hl.length c6) 4 hl.length (oCs (movsO hl p (cleanP q).1 q_.1)) ∧ Sep w00 (q_.2 ++ (((bal3, .cells [.slice pu1 (renameL l p (cleanP q).1).1.length cu1].toArray 33 (0, 0)) :: (bal2, .cells [.int .i64 0, .int .i64 0, .int .i64 0, .slice none 0 0, .slice none 0 0].toArray 59 (0, 0)) :: (bal1, .cells [.slice none 0 0, .slice none 0 0].toArray 36 (0, 0)) :: (bbx1, .cells [.slice pu l.length cu, .slice ph hl.length chh].toArray 36 (0, 0)) :: X) ++ (L ++ L1))) w) (fun q_ => hl.length - q_.1) (0, Lo) ⟨rfl, rfl, rfl, rfl, rfl, rfl, rfl, trivial⟩ ⟨Nat.zero_le _, by simp only; rw [movsO_zero]; exact how, M⟩ ?_
   rintro ⟨j, Lo⟩ w ⟨hj, ho, M⟩
   simp only at hj ho M
   refine cnd 2 ?_ ?_
   ·intro hco3
    obtain ⟨z, hz⟩ := get_lt (l := hl) (q := j) (by omega)
    have hzm := movsO_get (x := p) (y := (cleanP q).1) hz
    have ho2 : OwL Lo (.slice p6 hl.length c6) 4 (movsO hl p (cleanP q).1 j).length (oCs (movsO hl p (cleanP q).1 j)) := by rw [movsO_len]; exact ho
    obtain ⟨blk, cap, rest, T, hv, rfl, hcap, hset⟩ := opn_set (q := (cleanP q).1 ++ z.2.2.1.drop p.length) ho2 hzm
    injection hv with hv1 hv2 hv3
    subst hv1 hv3
    rw [movsO_len] at hset
    have hOw : OpnAt w (.slice (some ⟨blk, 0, none⟩) hl.length c6) (movsO hl p (cleanP q).1 j) := by
     unfold OpnAt; rw [movsO_len]; exact .inr ((OwL.sl ho (by decide)).get (fun y hy => M.get (List.mem_append_left _ hy)))
    have hrow := OpnAt.row hOw hzm
    obtain ⟨dz, hdz⟩ := hI.ho z (List.mem_of_getElem? hz)
    have hzl := (hT.row hdz).2.2.1
    simp only at hzl
    refine go 0 ?_
    refine x_ia j rfl rfl rfl Try.underlying34 sz118 rfl rfl rfl (by omega) ?_
    refine go 0 ?_
    refine x_ld rfl rfl rfl Try.underlying9 rfl rfl (RowAt.cell hrow (j := 2) rfl) ?_
    refine go 0 ?_
    refine x_call rfl rfl rfl rfl rfl en72 (runder_c) ?_
    rintro r_ w5 ⟨rfl, hn5⟩
    have M := M.new hn5
    have hrow := RowAt.new hrow hn5
    refine ⟨trivial, ?_⟩
    refine cnd 0 ?_ ?_
    ·intro hco4
     have hul := under_len hco4
     refine go 0 ?_
     refine x_ia j rfl rfl rfl Try.underlying34 sz118 rfl rfl rfl (by omega) ?_
     refine go 0 ?_
     refine x_ld rfl rfl rfl Try.underlying9 rfl rfl (RowAt.cell hrow (j := 2) rfl) ?_
     refine go 1 ?_
     refine x_sslS p.length rfl rfl rfl Try.underlying9 rfl rfl rfl (by omega) ?_
     refine x_catS rfl rfl rfl rfl rfl (by rw [List.length_drop]; omega) ?_
     refine x_ia j rfl rfl rfl Try.underlying34 sz118 rfl rfl rfl (by omega) ?_
     refine go 0 ?_
     refine x_st [_] _ rfl rfl rfl sz9 rfl rfl rfl rfl (M.at_ 0 rfl) rfl (Nat.ble_eq_true_of_le (by rw [List.length_append, oCs_len, movsO_len]; simp only [List.length_cons, List.length_nil]; omega)) rfl ?_
     intro wst6 hwst6
     have M := M.put 0 rfl hwst6
     rw [Nat.zero_add] at M
     have M : Sep w00 ([(blk, .cells ((oCs (movsO hl p (cleanP q).1 j) ++ rest).take (j * 4 + 2) ++ [strV ((cleanP q).1 ++ z.2.2.1.drop p.length)] ++ (oCs (movsO hl p (cleanP q).1 j) ++ rest).drop (j * 4 + 2 + 1)).toArray T (0, 0))] ++ (((bal3, .cells [.slice pu1 (renameL l p (cleanP q).1).1.length cu1].toArray 33 (0, 0)) :: (bal2, .cells [.int .i64 0, .int .i64 0, .int .i64 0, .slice none 0 0, .slice none 0 0].toArray 59 (0, 0)) :: (bal1, .cells [.slice none 0 0, .slice none 0 0].toArray 36 (0, 0)) :: (bbx1, .cells [.slice pu l.length cu, .slice ph hl.length chh].toArray 36 (0, 0)) :: X) ++ (L ++ L1))) wst6 := M
     refine ⟨trivial, ?_⟩
     refine go 0 ?_
     refine x_add _ rfl rfl rfl rfl rfl (wadd (by omega) (by omega)) ?_
     refine go 0 ?_
     exact At.back ((j + 1, _)) ⟨rfl, rfl, rfl, rfl, rfl, rfl, rfl, trivial⟩ ⟨by simp only; omega, by simp only; rw [← movsO_set hz, movO_yes hco4]; exact hset, M⟩ (by first | omega | (simp only; omega) | (simp; done) | (simp; omega))
    ·intro hco4
     refine go 0 ?_
     refine x_add _ rfl rfl rfl rfl rfl (wadd (by omega) (by omega)) ?_
     refine go 0 ?_
     exact At.back ((j + 1, _)) ⟨rfl, rfl, rfl, rfl, rfl, rfl, rfl, trivial⟩ ⟨by simp only; omega, by simp only; rw [movsO_same hz (movO_no (by rw [hco4]; simp))]; exact ho, M⟩ (by first | omega | (simp only; omega) | (simp; done) | (simp; omega))
   ·intro hco3
    have hj2 : j = hl.length := by omega
    rw [hj2, movsO_all (Nat.le_refl _)] at ho
    have hlm : (hl.map (movO p (cleanP q).1)).length = hl.length := by simp
    rw [← hlm] at ho
    have M : Sep w00 ((_ :: _ :: _ :: _ :: X) ++ ((L ++ L1) ++ Lo)) _ := St.lay M
    refine go 4 ?_
    intro _ M
    refine go 1 ?_
    intro _ M
    refine go 1 ?_
    rw [hS]
    rw [List.append_assoc] at M
    rw [← hlm]
    exact ⟨_, _, _, _, hl.map (movO p (cleanP q).1), L1 ++ Lo, _, rfl, RsK.bad, hF1.mono (fun y hy => by simp only [List.mem_append] at hy ⊢; rcases hy with hy | hy <;> simp [hy]), SgK.own ho (by decide) (fun y hy => by simp [hy]), hI.rename hco2, hfL_mov, by omega, M.tail.tail.tail.tail⟩

end Go.Proofs.Ytebfjdolgchgaaa

namespace Go.Proofs.Ytebfjdolgchgaaa
open Go Go.Fw Go.RowKit Go.Proofs
set_option linter.unusedVariables false
set_option linter.unusedSimpArgs false
set_option maxRecDepth 100000
set_option maxHeartbeats 4000000

-- (valise/valiseref19.FS).named
theorem fnamed_c {w00 w0 : World} {X L : List (Nat × Obj)} {u hv : Value} {l : List Raw} {hl : List Opn} {o : OpS} {dv : Value} (M : Sep w00 (X ++ L) w0) (hF : FilesK w00 L u l) (hO : OpnK w00 L hv hl) (hI : RI l hl) (hlen : hl.length ≤ 1000) (hdv : dv.oneCell' = true) : Ret Try.prog 40 #[.agg #[u, hv], .agg (opC o dv).toArray] w0 (RfP w00 L X hl (if (cleanP o.p).2 = 0 then namedS l (hfL hl) (cleanP o.p).1 o else (badS (cleanP o.p).2, l, hfL hl))) := by
 obtain ⟨pu, cu, rfl⟩ := (hF.at_ M (fun y hy => mR hy)).shape
 obtain ⟨ph, chh, rfl⟩ := Sg.shape (hO _ _ M (fun y hy => mR hy))
 have hT := hI.tr
 have hll := hI.le
 have hus := hI.us
 refine Ret.of_W Try.func40 rfl Try.ntmps40 rfl ?_
 refine go 1 ?_
 intro _ _ M
 refine go 1 ?_
 intro _ _ M
 refine go 1 ?_
 intro _ _ M
 refine go 1 ?_
 intro _ _ M
 refine go 1 ?_
 refine x_call rfl rfl rfl rfl rfl en54 (rclean_c) ?_
 rintro r_ w1 ⟨rfl, hn1⟩
 have M := M.new hn1
 refine ⟨trivial, ?_⟩
 refine cnd 1 ?_ ?_
 ·intro hco1
  have hS : (if (cleanP o.p).2 = 0 then namedS l (hfL hl) (cleanP o.p).1 o else (badS (cleanP o.p).2, l, hfL hl)) = (badS (cleanP o.p).2, l, hfL hl) := by rw [if_neg hco1]
  refine go 0 ?_
  refine W.regD (by kernel_rfl) #[0, 0, 2, 7, 15] [(0, false), (1, false), (2, true), (3, true), (4, true)] (by kernel_rfl) ?_
  intro K wD1 hK hwD1
  have M := M.drew hwD1
  refine go 1 ?_
  refine x_call rfl rfl rfl rfl rfl en37 (rbad_c) ?_
  rintro r_ wcall2 ⟨rfl, hncall2⟩
  have M := M.new hncall2
  refine pnd ?_
  refine x_st [_, _] _ rfl rfl rfl sz36 rfl rfl rfl rfl (by first | exact M.at_ 0 rfl | exact M.at_ 1 rfl | exact M.at_ 2 rfl | exact M.at_ 3 rfl | exact M.at_ 4 rfl | exact M.at_ 5 rfl | exact M.at_ 6 rfl | exact M.at_ 7 rfl) rfl rfl rfl ?_
  intro wst1 hwst1
  have M := by first | exact M.put 0 rfl hwst1 | exact M.put 1 rfl hwst1 | exact M.put 2 rfl hwst1 | exact M.put 3 rfl hwst1 | exact M.put 4 rfl hwst1 | exact M.put 5 rfl hwst1 | exact M.put 6 rfl hwst1 | exact M.put 7 rfl hwst1
  refine pnd ?_
  refine x_st [_, _, _, _, _] _ rfl rfl rfl sz59 rfl rfl rfl rfl (by first | exact M.at_ 0 rfl | exact M.at_ 1 rfl | exact M.at_ 2 rfl | exact M.at_ 3 rfl | exact M.at_ 4 rfl | exact M.at_ 5 rfl | exact M.at_ 6 rfl | exact M.at_ 7 rfl) rfl rfl rfl ?_
  intro wst2 hwst2
  have M := by first | exact M.put 0 rfl hwst2 | exact M.put 1 rfl hwst2 | exact M.put 2 rfl hwst2 | exact M.put 3 rfl hwst2 | exact M.put 4 rfl hwst2 | exact M.put 5 rfl hwst2 | exact M.put 6 rfl hwst2 | exact M.put 7 rfl hwst2
  refine pnd ?_
  refine go 1 ?_
  exact RfP.bad hS hF hO hI M.tail.tail.tail.tail
 ·intro hco1
  have htl : (cleanP o.p).1.length ≤ 120 := by
   obtain ⟨k_, _, _, h3, h4⟩ := clean_ok hco1
   rw [h4]; exact h3
  refine cnd 2 ?_ ?_
  ·intro hco2
   have hS : (if (cleanP o.p).2 = 0 then namedS l (hfL hl) (cleanP o.p).1 o else (badS (cleanP o.p).2, l, hfL hl)) = (badS (mkdirL l (cleanP o.p).1).2, (mkdirL l (cleanP o.p).1).1, hfL hl) := by rw [if_pos hco1]; unfold namedS; rw [if_pos hco2]
   refine go 1 ?_
   refine x_call rfl rfl rfl rfl rfl en60 (rmkdir_x (p := (cleanP o.p).1) (X := _ :: _ :: _ :: _ :: X) M hF (by omega) (fun y hy => by have := (hT.row hy).2.2.1; omega) (by omega)) ?_
   rintro r_ w3 ⟨u1, L1, rfl, hF1, M⟩
   obtain ⟨pu1, cu1, rfl⟩ := (hF1.at_ M (fun y hy => mR hy)).shape
   refine ⟨trivial, ?_⟩
   refine go 1 ?_
   intro _ _ M
   refine go 1 ?_
   intro _ M
   refine go 0 ?_
   refine W.regD (by kernel_rfl) #[0, 0, 2, 7, 0, 16, 63, 127] [(0, false), (1, false), (2, false), (3, false), (4, false), (5, true), (6, true), (7, true)] (by kernel_rfl) ?_
   intro K wD2 hK hwD2
   have M := M.drew hwD2
   refine go 3 ?_
   refine x_call rfl rfl rfl rfl rfl en37 (rbad_c) ?_
   rintro r_ wcall4 ⟨rfl, hncall4⟩
   have M := M.new hncall4
   refine pnd ?_
   refine x_st [_, _] _ rfl rfl rfl sz36 rfl rfl rfl rfl (by first | exact M.at_ 0 rfl | exact M.at_ 1 rfl | exact M.at_ 2 rfl | exact M.at_ 3 rfl | exact M.at_ 4 rfl | exact M.at_ 5 rfl | exact M.at_ 6 rfl | exact M.at_ 7 rfl) rfl rfl rfl ?_
   intro wst4 hwst4
   have M := by first | exact M.put 0 rfl hwst4 | exact M.put 1 rfl hwst4 | exact M.put 2 rfl hwst4 | exact M.put 3 rfl hwst4 | exact M.put 4 rfl hwst4 | exact M.put 5 rfl hwst4 | exact M.put 6 rfl hwst4 | exact M.put 7 rfl hwst4
   refine pnd ?_
   refine x_st [_, _, _, _, _] _ rfl rfl rfl sz59 rfl rfl rfl rfl (by first | exact M.at_ 0 rfl | exact M.at_ 1 rfl | exact M.at_ 2 rfl | exact M.at_ 3 rfl | exact M.at_ 4 rfl | exact M.at_ 5 rfl | exact M.at_ 6 rfl | exact M.at_ 7 rfl) rfl rfl rfl ?_
   intro wst5 hwst5
   have M := by first | exact M.put 0 rfl hwst5 | exact M.put 1 rfl hwst5 | exact M.put 2 rfl hwst5 | exact M.put 3 rfl hwst5 | exact M.put 4 rfl hwst5 | exact M.put 5 rfl hwst5 | exact M.put 6 rfl hwst5 | exact M.put 7 rfl hwst5
   refine pnd ?_
   refine go 1 ?_
   exact RfP.rows hS RsK.bad hF1 hO (hI.mkdir (cleanP o.p).1) M.tail.tail.tail.tail.tail
  ·intro hco2
   refine cnd 1 ?_ ?_
   ·intro hco3
    have hS : (if (cleanP o.p).2 = 0 then namedS l (hfL hl) (cleanP o.p).1 o else (badS (cleanP o.p).2, l, hfL hl)) = removeS l (hfL hl) (cleanP o.p).1 := by rw [if_pos hco1]; unfold namedS; rw [if_neg hco2, if_pos hco3]; rfl
    refine go 1 ?_
    refine x_call rfl rfl rfl rfl rfl en61 (fremove_c (p := (cleanP o.p).1) (X := _ :: _ :: _ :: _ :: X) M hF hO hI hlen (by omega)) ?_
    rintro r_ w5 ⟨pu', cu', ph', ch', hl', L', rv, rfl, hr, hF', hO', hI', hh', hlen', M⟩
    obtain ⟨q1, k1, q2, k2, rfl, hr4, hr5⟩ := hr
    refine ⟨trivial, ?_⟩
    refine go 1 ?_
    intro _ M
    refine go 1 ?_
    intro _ M
    refine go 1 ?_
    rw [hS]
    exact ⟨_, _, _, _, hl', L', _, rfl, ⟨q1, k1, q2, k2, rfl, hr4, hr5⟩, hF', hO', hI', hh', hlen', M.tail.tail.tail.tail⟩
   ·intro hco3
    refine cnd 1 ?_ ?_
    ·intro hco4
     have hS : (if (cleanP o.p).2 = 0 then namedS l (hfL hl) (cleanP o.p).1 o else (badS (cleanP o.p).2, l, hfL hl)) = renameS l (hfL hl) (cleanP o.p).1 o.q := by rw [if_pos hco1]; unfold namedS; rw [if_neg hco2, if_neg hco3, if_pos hco4]; rfl
     refine go 2 ?_
     refine x_call rfl rfl rfl rfl rfl en62 (frename_c (p := (cleanP o.p).1) (q := o.q) (X := _ :: _ :: _ :: _ :: X) M hF hO hI hlen) ?_
     rintro r_ w6 ⟨pu', cu', ph', ch', hl', L', rv, rfl, hr, hF', hO', hI', hh', hlen', M⟩
     obtain ⟨q1, k1, q2, k2, rfl, hr4, hr5⟩ := hr
     refine ⟨trivial, ?_⟩
     refine go 1 ?_
     intro _ M
     refine go 1 ?_
     intro _ M
     refine go 1 ?_
     rw [hS]
     exact ⟨_, _, _, _, hl', L', _, rfl, ⟨q1, k1, q2, k2, rfl, hr4, hr5⟩, hF', hO', hI', hh', hlen', M.tail.tail.tail.tail⟩
    ·intro hco4
     have hS : (if (cleanP o.p).2 = 0 then namedS l (hfL hl) (cleanP o.p).1 o else (badS (cleanP o.p).2, l, hfL hl)) = (⟨(listL l (cleanP o.p).1).2, 0, 0, [], (listL l (cleanP o.p).1).1⟩, l, hfL hl) := by rw [if_pos hco1]; unfold namedS; rw [if_neg hco2, if_neg hco3, if_neg hco4]
     refine go 1 ?_
     refine x_call rfl rfl rfl rfl rfl en63 (rlist_x (p := (cleanP o.p).1) (X := _ :: _ :: _ :: _ :: X) M hF (by omega)) ?_
     rintro r_ w7 ⟨pl, cl, L7, rfl, hl7, M⟩
     refine ⟨trivial, ?_⟩
     refine go 3 ?_
     intro _ M
     refine go 1 ?_
     intro _ M
     refine go 1 ?_
     exact RfP.same hS ⟨none, 0, pl, cl, rfl, nilS (by decide), hl7⟩ hF hO hI M.tail.tail.tail.tail

end Go.Proofs.Ytebfjdolgchgaaa

namespace Go.Proofs.Ytebfjdolgchgaaa
open Go Go.Fw Go.RowKit
set_option linter.unusedVariables false
set_option linter.unusedSimpArgs false

section
variable {hf : HF} {who : Int} {l : List Raw} {hl : List Opn} {o : OpS} {i : Nat}
theorem low_full : (openL hf who).length = 16 ↔ lowH hf who = none := by
 unfold openL openN lowH
 rw [List.length_map, List.find?_eq_none]
 have h16 : (List.range 16).length = 16 := List.length_range
 constructor
 ·intro h i hi
  have := (List.length_filter_eq_length_iff (p := fun (i : Nat) => (hf who ((i : Int) + 1)).isSome) (l := List.range 16)).1 (by rw [h]; simp) i hi
  simp only [Option.isNone_iff_eq_none]
  intro e
  rw [e] at this
  cases this
 ·intro h
  have := (List.length_filter_eq_length_iff (p := fun (i : Nat) => (hf who ((i : Int) + 1)).isSome) (l := List.range 16)).2 (fun i hi => by
   have := h i hi
   cases hq : hf who ((i : Int) + 1) with
   | none => rw [hq] at this; exact absurd rfl this
   | some v => rfl)
  rw [this]; simp
theorem low_has (h : (openL hf who).length ≠ 16) : ∃ i, lowH hf who = some i := by
 cases hq : lowH hf who with
 | none => exact absurd (low_full.2 hq) h
 | some i => exact ⟨i, rfl⟩
/-- What opening finds, or makes. -/
def OpnC (l : List Raw) (o : OpS) (eO : Int) (lO : List Raw) (dO : Bool) : Prop :=
 ((findL l (cleanP o.p).1).2 = 9 ∧ o.c = true ∧ eO = (putL l (cleanP o.p).1 []).2 ∧ lO = (putL l (cleanP o.p).1 []).1 ∧ dO = false) ∨
 (¬ ((findL l (cleanP o.p).1).2 = 9 ∧ o.c = true) ∧ eO = (findL l (cleanP o.p).1).2 ∧ lO = l ∧ dO = (findL l (cleanP o.p).1).1.2.1)
theorem OpnC.bad {eO : Int} {lO : List Raw} {dO : Bool} (h : OpnC l o eO lO dO) (hl : lowH hf who = some i) (hc : (cleanP o.p).2 = 0) (he : eO ≠ 0) : openS l hf who o = (badS eO, l, hf) := by
 unfold openS
 rw [hl]
 simp only
 rw [if_pos hc]
 rcases h with ⟨h1, h2, rfl, rfl, rfl⟩ | ⟨h1, rfl, rfl, rfl⟩
 ·rw [if_pos ⟨h1, h2⟩, if_neg he]
 ·rw [if_neg h1, if_neg he]
theorem OpnC.dir {lO : List Raw} (h : OpnC l o 0 lO true) (hl : lowH hf who = some i) (hc : (cleanP o.p).2 = 0) : openS l hf who o = (badS 16, l, hf) := by
 unfold openS
 rw [hl]
 simp only
 rw [if_pos hc]
 rcases h with ⟨_, _, _, _, h5⟩ | ⟨h1, h2, rfl, h4⟩
 ·cases h5
 ·rw [if_neg h1, if_pos h2.symm, if_pos h4.symm]
theorem OpnC.ok {lO : List Raw} (h : OpnC l o 0 lO false) (hI : RI l hl) (hw : 0 ≤ who ∧ who < 8) (hlo : lowH (hfL hl) who = some i) (hc : (cleanP o.p).2 = 0) : openS l (hfL hl) who o = (⟨0, (i : Int) + 1, 0, [], []⟩, lO, setH (hfL hl) who ((i : Int) + 1) (some ((cleanP o.p).1, o.w))) ∧
  RI lO (hl ++ [(who, (i : Int) + 1, (cleanP o.p).1, o.w)]) ∧ hfL (hl ++ [(who, (i : Int) + 1, (cleanP o.p).1, o.w)]) = setH (hfL hl) who ((i : Int) + 1) (some ((cleanP o.p).1, o.w)) := by
 obtain ⟨g1, g2, g3⟩ := low_spec hlo
 have hk : 0 ≤ who ∧ who < 8 ∧ 1 ≤ (i : Int) + 1 ∧ (i : Int) + 1 ≤ 16 := ⟨hw.1, hw.2, by omega, by omega⟩
 refine ⟨?_, ?_, hfL_open g2⟩
 ·unfold openS
  rw [hlo]
  simp only
  rw [if_pos hc]
  rcases h with ⟨h1, h2, h3, rfl, _⟩ | ⟨h1, h2, rfl, h4⟩
  ·rw [if_pos ⟨h1, h2⟩, if_pos h3.symm]
  ·rw [if_neg h1, if_pos h2.symm, if_neg (by rw [← h4]; simp)]
 ·rcases h with ⟨h1, h2, h3, rfl, _⟩ | ⟨h1, h2, rfl, h4⟩
  ·obtain ⟨q1, q2⟩ := hI.put h3.symm (hI.tr.absent h1)
   exact q1.hand g2 q2 hk
  ·have hp0 : (cleanP o.p).1 ≠ [] := fun e => by rw [e, findL_root] at h4; cases h4
   obtain ⟨q1, q2⟩ := hI.tr.find h2.symm hp0
   obtain ⟨w, hw2⟩ : ∃ w, (findL lO (cleanP o.p).1).1 = w := ⟨_, rfl⟩
   rw [hw2] at q1 q2 h4
   obtain ⟨a, b, c⟩ := w
   simp only at q2 h4
   subst q2 h4
   exact hI.hand g2 q1 hk
end
end Go.Proofs.Ytebfjdolgchgaaa

namespace Go.Proofs.Ytebfjdolgchgaaa
open Go Go.Fw Go.RowKit Go.Proofs
set_option linter.unusedVariables false
set_option linter.unusedSimpArgs false
set_option maxRecDepth 100000
set_option maxHeartbeats 4000000

-- (valise/valiseref19.FS).open
theorem fopen_c {w00 w0 : World} {X L : List (Nat × Obj)} {u hv : Value} {l : List Raw} {hl : List Opn} {who : Int} {o : OpS} {dv : Value} (M : Sep w00 (X ++ L) w0) (hF : FilesK w00 L u l) (hO : OpnK w00 L hv hl) (hI : RI l hl) (hlen : hl.length ≤ 1000) (hdv : dv.oneCell' = true) (hw : 0 ≤ who ∧ who < 8) : Ret Try.prog 38 #[.agg #[u, hv], .int .i64 who, .agg (opC o dv).toArray] w0 (RfP w00 L X hl (openS l (hfL hl) who o)) := by
 obtain ⟨pu, cu, rfl⟩ := (hF.at_ M (fun y hy => mR hy)).shape
 obtain ⟨ph, chh, rfl⟩ := Sg.shape (hO _ _ M (fun y hy => mR hy))
 have hT := hI.tr
 have hll := hI.le
 have hus := hI.us
 refine Ret.of_W Try.func38 rfl Try.ntmps38 rfl ?_
 refine go 1 ?_
 intro bbx1 _ M
 refine go 1 ?_
 intro bbx2 _ M
 refine go 1 ?_
 intro bal1 _ M
 refine go 1 ?_
 intro bal2 _ M
 refine go 1 ?_
 refine x_call rfl rfl rfl rfl rfl en53 (rhdls_c (hO _ _ M (fun y hy => by simp [hy])) (by omega)) ?_
 rintro r_ w1 ⟨L1, hi1, M1⟩
 obtain ⟨p1, c1, rfl⟩ := hi1.shape
 have M := M.new M1.frm
 refine ⟨trivial, ?_⟩
 refine cnd 2 ?_ ?_
 ·intro hco1
  have hS : openS l (hfL hl) who o = (badS 7, l, hfL hl) := by unfold openS; rw [low_full.1 (by omega)]
  refine go 0 ?_
  refine W.regD (by kernel_rfl) #[0, 0, 3, 7] [(0, false), (1, true), (2, true), (3, true)] (by kernel_rfl) ?_
  intro K wD1 hK hwD1
  have M := M.drew hwD1
  refine go 1 ?_
  refine x_call rfl rfl rfl rfl rfl en37 (rbad_c) ?_
  rintro r_ wcall2 ⟨rfl, hncall2⟩
  have M := M.new hncall2
  refine pnd ?_
  refine x_st [_, _] _ rfl rfl rfl sz36 rfl rfl rfl rfl (by first | exact M.at_ 0 rfl | exact M.at_ 1 rfl | exact M.at_ 2 rfl | exact M.at_ 3 rfl | exact M.at_ 4 rfl | exact M.at_ 5 rfl | exact M.at_ 6 rfl | exact M.at_ 7 rfl) rfl rfl rfl ?_
  intro wst1 hwst1
  have M := by first | exact M.put 0 rfl hwst1 | exact M.put 1 rfl hwst1 | exact M.put 2 rfl hwst1 | exact M.put 3 rfl hwst1 | exact M.put 4 rfl hwst1 | exact M.put 5 rfl hwst1 | exact M.put 6 rfl hwst1 | exact M.put 7 rfl hwst1
  refine pnd ?_
  refine x_st [_, _, _, _, _] _ rfl rfl rfl sz59 rfl rfl rfl rfl (by first | exact M.at_ 0 rfl | exact M.at_ 1 rfl | exact M.at_ 2 rfl | exact M.at_ 3 rfl | exact M.at_ 4 rfl | exact M.at_ 5 rfl | exact M.at_ 6 rfl | exact M.at_ 7 rfl) rfl rfl rfl ?_
  intro wst2 hwst2
  have M := by first | exact M.put 0 rfl hwst2 | exact M.put 1 rfl hwst2 | exact M.put 2 rfl hwst2 | exact M.put 3 rfl hwst2 | exact M.put 4 rfl hwst2 | exact M.put 5 rfl hwst2 | exact M.put 6 rfl hwst2 | exact M.put 7 rfl hwst2
  refine pnd ?_
  refine go 1 ?_
  exact RfP.bad hS hF hO hI M.tail.tail.tail.tail
 ·intro hco1
  obtain ⟨i, hlow⟩ := low_has (hf := hfL hl) (who := who) (by omega)
  obtain ⟨hi16, hfi, hfk⟩ := low_spec hlow
  refine go 1 ?_
  refine x_call rfl rfl rfl rfl rfl en54 (rclean_c) ?_
  rintro r_ w3 ⟨rfl, hn3⟩
  have M := M.new hn3
  refine ⟨trivial, ?_⟩
  refine cnd 1 ?_ ?_
  ·intro hco2
   have hS : openS l (hfL hl) who o = (badS (cleanP o.p).2, l, hfL hl) := by unfold openS; rw [hlow]; simp only; rw [if_neg hco2]
   refine go 0 ?_
   refine W.regD (by kernel_rfl) #[0, 0, 2, 7, 15] [(0, false), (1, false), (2, true), (3, true), (4, true)] (by kernel_rfl) ?_
   intro K wD2 hK hwD2
   have M := M.drew hwD2
   refine go 1 ?_
   refine x_call rfl rfl rfl rfl rfl en37 (rbad_c) ?_
   rintro r_ wcall4 ⟨rfl, hncall4⟩
   have M := M.new hncall4
   refine pnd ?_
   refine x_st [_, _] _ rfl rfl rfl sz36 rfl rfl rfl rfl (by first | exact M.at_ 0 rfl | exact M.at_ 1 rfl | exact M.at_ 2 rfl | exact M.at_ 3 rfl | exact M.at_ 4 rfl | exact M.at_ 5 rfl | exact M.at_ 6 rfl | exact M.at_ 7 rfl) rfl rfl rfl ?_
   intro wst3 hwst3
   have M := by first | exact M.put 0 rfl hwst3 | exact M.put 1 rfl hwst3 | exact M.put 2 rfl hwst3 | exact M.put 3 rfl hwst3 | exact M.put 4 rfl hwst3 | exact M.put 5 rfl hwst3 | exact M.put 6 rfl hwst3 | exact M.put 7 rfl hwst3
   refine pnd ?_
   refine x_st [_, _, _, _, _] _ rfl rfl rfl sz59 rfl rfl rfl rfl (by first | exact M.at_ 0 rfl | exact M.at_ 1 rfl | exact M.at_ 2 rfl | exact M.at_ 3 rfl | exact M.at_ 4 rfl | exact M.at_ 5 rfl | exact M.at_ 6 rfl | exact M.at_ 7 rfl) rfl rfl rfl ?_
   intro wst4 hwst4
   have M := by first | exact M.put 0 rfl hwst4 | exact M.put 1 rfl hwst4 | exact M.put 2 rfl hwst4 | exact M.put 3 rfl hwst4 | exact M.put 4 rfl hwst4 | exact M.put 5 rfl hwst4 | exact M.put 6 rfl hwst4 | exact M.put 7 rfl hwst4
   refine pnd ?_
   refine go 1 ?_
   exact RfP.bad hS hF hO hI M.tail.tail.tail.tail
  ·intro hco2
   have htl : (cleanP o.p).1.length ≤ 120 := by
    obtain ⟨k_, _, _, h3, h4⟩ := clean_ok hco2
    rw [h4]; exact h3
   refine go 1 ?_
   refine x_call rfl rfl rfl rfl rfl en55 (rfind_x (p := (cleanP o.p).1) (X := _ :: _ :: _ :: _ :: X) M hF (by omega)) ?_
   rintro r_ w5 ⟨pf, cf, rfl, hbf, hn5⟩
   have M := M.new hn5
   refine ⟨trivial, ?_⟩
   refine go 1 ?_
   intro bal3 _ M
   refine go 1 ?_
   intro _ M
   refine go 2 ?_
   intro bal4 _ M
   refine go 1 ?_
   intro _ M
   refine gs 0 0 ?_
   refine W.seqC (fun F' w' => ∃ eO lO dO nmx dvx pu2 cu2 L2, F' = [(1, .int .i64 who), (3, ptr bbx1), (5, ptr bbx2), (6, ptr bal1), (7, ptr bal2), (8, strV (cleanP o.p).1), (9, .int .i64 eO), (10, ptr bal3), (11, ptr bal4)] ∧ OpnC l o eO lO dO ∧ FilesK w00 (L ++ L2) (.slice pu2 lO.length cu2) lO ∧ Sep w00 (((bal4, .cells [.slice pu2 lO.length cu2].toArray 33 (0, 0)) :: (bal3, .cells [strV nmx, .bool dO, dvx].toArray 88 (0, 0)) :: (bal2, .cells [.int .i64 0, .int .i64 0, .int .i64 0, .slice none 0 0, .slice none 0 0].toArray 59 (0, 0)) :: (bal1, .cells [.slice none 0 0, .slice none 0 0].toArray 36 (0, 0)) :: (bbx2, .cells (opC o dv).toArray 66 (0, 0)) :: (bbx1, .cells [.slice pu l.length cu, .slice ph hl.length chh].toArray 36 (0, 0)) :: X) ++ (L ++ L2)) w') ?_ ?_
   ·refine spl 1 42 ?_ ?_
    ·intro hsp1
     refine cnd 1 ?_ ?_
     ·intro hco3
      refine go 1 ?_
      refine x_call rfl rfl rfl rfl rfl en56 (rput_x (p := (cleanP o.p).1) (b := []) (X := _ :: _ :: _ :: _ :: _ :: _ :: X) M hF (by omega) (fun y hy => by have := (hT.row hy).2.2.1; omega) (by omega) (nilS (by decide))) ?_
      rintro r_ w6 ⟨u6, L6, rfl, hF6, M⟩
      obtain ⟨pu6, cu6, rfl⟩ := (hF6.at_ M (fun y hy => mR hy)).shape
      refine ⟨trivial, ?_⟩
      refine go 1 ?_
      intro _ M
      refine go 2 ?_
      intro _ M
      refine go 0 ?_
      refine At.sub [(1, _), (3, _), (5, _), (6, _), (7, _), (8, _), (9, _), (10, _), (11, _)] ⟨rfl, rfl, rfl, rfl, rfl, rfl, rfl, rfl, rfl, trivial⟩ ?_
      refine At.cut_n ?_
      exact ⟨_, _, false, [], _, pu6, cu6, L6, rfl, .inl ⟨hsp1, hco3, rfl, rfl, rfl⟩, hF6, M⟩
     ·intro hco3
      refine go 0 ?_
      refine At.sub [(1, _), (3, _), (5, _), (6, _), (7, _), (8, _), (9, _), (10, _), (11, _)] ⟨rfl, rfl, rfl, rfl, rfl, rfl, rfl, rfl, rfl, trivial⟩ ?_
      refine At.cut_n ?_
      exact ⟨_, l, _, _, _, pu, cu, [], rfl, .inr ⟨fun h => absurd (h.2.symm.trans hco3) (by decide), rfl, rfl, rfl⟩, by rw [List.append_nil]; exact hF, by rw [List.append_nil]; exact M⟩
    ·intro hsp1
     refine go 0 ?_
     refine At.sub [(1, _), (3, _), (5, _), (6, _), (7, _), (8, _), (9, _), (10, _), (11, _)] ⟨rfl, rfl, rfl, rfl, rfl, rfl, rfl, rfl, rfl, trivial⟩ ?_
     refine At.cut_n ?_
     exact ⟨_, l, _, _, _, pu, cu, [], rfl, .inr ⟨fun h => hsp1 h.1, rfl, rfl, rfl⟩, by rw [List.append_nil]; exact hF, by rw [List.append_nil]; exact M⟩
   rintro F1 wc ⟨eO, lO, dO, nmx, dvx, pu2, cu2, L2, rfl, hcas, hF2, M⟩
   refine cnd 1 ?_ ?_
   ·intro hco5
    refine go 0 ?_
    refine W.regD (by kernel_rfl) #[0, 0, 2, 7, 15] [(0, false), (1, false), (2, true), (3, true), (4, true)] (by kernel_rfl) ?_
    intro K wD3 hK hwD3
    have M := M.drew hwD3
    refine go 1 ?_
    refine x_call rfl rfl rfl rfl rfl en37 (rbad_c) ?_
    rintro r_ wcall7 ⟨rfl, hncall7⟩
    have M := M.new hncall7
    refine pnd ?_
    refine x_st [_, _] _ rfl rfl rfl sz36 rfl rfl rfl rfl (by first | exact M.at_ 0 rfl | exact M.at_ 1 rfl | exact M.at_ 2 rfl | exact M.at_ 3 rfl | exact M.at_ 4 rfl | exact M.at_ 5 rfl | exact M.at_ 6 rfl | exact M.at_ 7 rfl) rfl rfl rfl ?_
    intro wst9 hwst9
    have M := by first | exact M.put 0 rfl hwst9 | exact M.put 1 rfl hwst9 | exact M.put 2 rfl hwst9 | exact M.put 3 rfl hwst9 | exact M.put 4 rfl hwst9 | exact M.put 5 rfl hwst9 | exact M.put 6 rfl hwst9 | exact M.put 7 rfl hwst9
    refine pnd ?_
    refine x_st [_, _, _, _, _] _ rfl rfl rfl sz59 rfl rfl rfl rfl (by first | exact M.at_ 0 rfl | exact M.at_ 1 rfl | exact M.at_ 2 rfl | exact M.at_ 3 rfl | exact M.at_ 4 rfl | exact M.at_ 5 rfl | exact M.at_ 6 rfl | exact M.at_ 7 rfl) rfl rfl rfl ?_
    intro wst10 hwst10
    have M := by first | exact M.put 0 rfl hwst10 | exact M.put 1 rfl hwst10 | exact M.put 2 rfl hwst10 | exact M.put 3 rfl hwst10 | exact M.put 4 rfl hwst10 | exact M.put 5 rfl hwst10 | exact M.put 6 rfl hwst10 | exact M.put 7 rfl hwst10
    refine pnd ?_
    refine go 1 ?_
    exact RfP.same (hcas.bad hlow hco2 hco5) RsK.bad hF hO hI M.tail.tail.tail.tail.tail.tail
   ·intro hco5
    subst hco5
    refine cnd 1 ?_ ?_
    ·intro hco6
     subst hco6
     refine go 0 ?_
     refine W.regD (by kernel_rfl) #[0, 0, 3, 7] [(0, false), (1, true), (2, true), (3, true)] (by kernel_rfl) ?_
     intro K wD4 hK hwD4
     have M := M.drew hwD4
     refine go 1 ?_
     refine x_call rfl rfl rfl rfl rfl en37 (rbad_c) ?_
     rintro r_ wcall8 ⟨rfl, hncall8⟩
     have M := M.new hncall8
     refine pnd ?_
     refine x_st [_, _] _ rfl rfl rfl sz36 rfl rfl rfl rfl (by first | exact M.at_ 0 rfl | exact M.at_ 1 rfl | exact M.at_ 2 rfl | exact M.at_ 3 rfl | exact M.at_ 4 rfl | exact M.at_ 5 rfl | exact M.at_ 6 rfl | exact M.at_ 7 rfl) rfl rfl rfl ?_
     intro wst11 hwst11
     have M := by first | exact M.put 0 rfl hwst11 | exact M.put 1 rfl hwst11 | exact M.put 2 rfl hwst11 | exact M.put 3 rfl hwst11 | exact M.put 4 rfl hwst11 | exact M.put 5 rfl hwst11 | exact M.put 6 rfl hwst11 | exact M.put 7 rfl hwst11
     refine pnd ?_
     refine x_st [_, _, _, _, _] _ rfl rfl rfl sz59 rfl rfl rfl rfl (by first | exact M.at_ 0 rfl | exact M.at_ 1 rfl | exact M.at_ 2 rfl | exact M.at_ 3 rfl | exact M.at_ 4 rfl | exact M.at_ 5 rfl | exact M.at_ 6 rfl | exact M.at_ 7 rfl) rfl rfl rfl ?_
     intro wst12 hwst12
     have M := by first | exact M.put 0 rfl hwst12 | exact M.put 1 rfl hwst12 | exact M.put 2 rfl hwst12 | exact M.put 3 rfl hwst12 | exact M.put 4 rfl hwst12 | exact M.put 5 rfl hwst12 | exact M.put 6 rfl hwst12 | exact M.put 7 rfl hwst12
     refine pnd ?_
     refine go 1 ?_
     exact RfP.same (hcas.dir hlow hco2) RsK.bad hF hO hI M.tail.tail.tail.tail.tail.tail
    ·intro hco6
     subst hco6
     refine go 0 ?_
     refine W.loop (σ := Nat) (fun m => [(1, _), (3, _), (5, _), (6, _), (7, _), (8, _), (11, _), (12, .int .i64 ((m + 1 : Nat) : Int))]) (fun m w => m ≤ i ∧ Sep w00 (((bal4, .cells [.slice pu2 lO.length cu2].toArray 33 (0, 0)) :: (bal3, .cells [strV nmx, .bool false, dvx].toArray 88 (0, 0)) :: (bal2, .cells [.int .i64 0, .int .i64 0, .int .i64 0, .slice none 0 0, .slice none 0 0].toArray 59 (0, 0)) :: (bal1, .cells [.slice none 0 0, .slice none 0 0].toArray 36 (0, 0)) :: (bbx2, .cells (opC o dv).toArray 66 (0, 0)) :: (bbx1, .cells [.slice pu l.length cu, .slice ph hl.length chh].toArray 36 (0, 0)) :: X) ++ (L ++ L2)) w) (fun m => i - m) 0 ⟨rfl, rfl, rfl, rfl, rfl, rfl, rfl, rfl, trivial⟩ ⟨Nat.zero_le _, M⟩ ?_
     rintro m w ⟨hm, M⟩
     refine go 1 ?_
     refine x_call rfl rfl rfl rfl rfl en50 (rat_c (hO _ _ M (fun y hy => by simp [hy])) (by omega)) ?_
     rintro r_ w9 ⟨rfl, hn9⟩
     have M := M.new hn9
     have hat := atO_some (hl := hl) (who := who) (n := ((m + 1 : Nat) : Int))
     refine ⟨trivial, ?_⟩
     refine cnd 1 ?_ ?_
     ·intro hco7
      have hsm : (hfL hl who ((m : Int) + 1)).isSome = true := by have := hat.1 (by omega); simpa using this
      have hmi : m ≠ i := by rintro rfl; rw [hfi] at hsm; cases hsm
      refine go 0 ?_
      refine x_add ((m + 1 + 1 : Nat) : Int) rfl rfl rfl rfl rfl (by rw [wadd (by omega) (by omega)]; omega) ?_
      refine go 0 ?_
      exact At.back (m + 1) ⟨rfl, rfl, rfl, rfl, rfl, rfl, rfl, rfl, trivial⟩ ⟨by omega, M⟩ (by first | omega | (simp only; omega) | (simp; done) | (simp; omega))
     ·intro hco7
      have hmi : m = i := by
       rcases Nat.lt_or_ge m i with h | h
       ·have h2 := hfk m h
        have := hat.2 (by simpa using h2)
        omega
       ·omega
      refine gs 0 0 ?_
      refine W.seqC (fun F' w' => ∃ ph' ch' L', F' = [(6, ptr bal1), (7, ptr bal2)] ∧ OpnK w00 (L ++ L') (.slice ph' (hl ++ [(who, ((m + 1 : Nat) : Int), (cleanP o.p).1, o.w)]).length ch') (hl ++ [(who, ((m + 1 : Nat) : Int), (cleanP o.p).1, o.w)]) ∧ FilesK w00 (L ++ L') (.slice pu2 lO.length cu2) lO ∧ Sep w00 (((bal4, .cells [.slice pu2 lO.length cu2].toArray 33 (0, 0)) :: (bal3, .cells [strV nmx, .bool false, dvx].toArray 88 (0, 0)) :: (bal2, .cells [.int .i64 0, .int .i64 ((m + 1 : Nat) : Int), .int .i64 0, .slice none 0 0, .slice none 0 0].toArray 59 (0, 0)) :: (bal1, .cells [.slice pu2 lO.length cu2, .slice ph' (hl ++ [(who, ((m + 1 : Nat) : Int), (cleanP o.p).1, o.w)]).length ch'].toArray 36 (0, 0)) :: (bbx2, .cells (opC o dv).toArray 66 (0, 0)) :: (bbx1, .cells [.slice pu l.length cu, .slice ph hl.length chh].toArray 36 (0, 0)) :: X) ++ (L ++ L')) w') ?_ ?_
      ·refine go 0 ?_
       refine W.regT (by kernel_rfl) #[0, 0, 0, 4, 14, 0, 0, 0, 0, 256, 992, 2016, 4094, 8191, 0, 16384, 16383, 131071] (.par [(0, false), (2, false), (3, false), (5, false), (6, false), (7, false), (8, false), (9, false), (10, false), (14, false), (15, false)] 1 (.two [] 4 [(11, true)] 11 [(4, true)] (.leaf [(12, true), (13, false), (16, true), (17, true)])) 11 (.leaf [(1, true), (4, true), (12, true), (13, false), (16, true), (17, true)])) (by kernel_rfl) ?_
       intro K wD5 hK hwD5
       have M := M.drew hwD5
       refine ExT.par ?_
       refine go 5 ?_
       refine Ex.fork ?_
       refine ⟨?_, ?_⟩
       ·refine x_bs0 rfl rfl rfl Try.underlying34 sz118 ?_
        intro bb0 wbs1 hbbs1 hwbs1
        have M := M.acons hbbs1 hwbs1
        refine ⟨⟨.inr (cell_of (M.get (b := bbx2) (o := (bbx2, .cells (opC o dv).toArray 66 (0, 0)).2) (by simp)) rfl), .inr (cell_of (M.get (b := bbx1) (o := (bbx1, .cells [.slice pu l.length cu, .slice ph hl.length chh].toArray 36 (0, 0)).2) (by simp)) rfl), .inr ⟨_, _, _, (M.get (b := bal4) (o := (bal4, .cells [.slice pu2 lO.length cu2].toArray 33 (0, 0)).2) (by simp)), rfl⟩, trivial⟩, ?_⟩
        refine Ex.fork ?_
        refine ExT.two ?_
        refine Ex.fork ?_
        refine Ex.join (fun F' T' w' => ∃ Lo p6 c6 bB R2 R3, T' = [(9, R3), (3, R2), (0, fun w' => RowAt w' bal4 0 [.slice pu2 lO.length cu2])] ∧ F' = [(6, ptr bal1), (7, ptr bal2), (70, .agg #[.slice pu2 lO.length cu2]), (74, .slice p6 hl.length c6), (81, .slice (some ⟨bB, 0, none⟩) 1 1), (85, .agg #[.int .i64 0, .int .i64 ((m + 1 : Nat) : Int), .int .i64 0, .slice none 0 0, .slice none 0 0])] ∧ OwL Lo (.slice p6 hl.length c6) 4 hl.length (oCs hl) ∧ Sep w00 (Lo ++ ((bB, .cells (oR (who, ((m + 1 : Nat) : Int), (cleanP o.p).1, o.w)).toArray 118 (0, 0)) :: (((bal4, .cells [.slice pu2 lO.length cu2].toArray 33 (0, 0)) :: (bal3, .cells [strV nmx, .bool false, dvx].toArray 88 (0, 0)) :: (bal2, .cells [.int .i64 0, .int .i64 0, .int .i64 0, .slice none 0 0, .slice none 0 0].toArray 59 (0, 0)) :: (bal1, .cells [.slice none 0 0, .slice none 0 0].toArray 36 (0, 0)) :: (bbx2, .cells (opC o dv).toArray 66 (0, 0)) :: (bbx1, .cells [.slice pu l.length cu, .slice ph hl.length chh].toArray 36 (0, 0)) :: X) ++ (L ++ L2)))) w') ?_ ?_ ?_
        ·have hOA := hO _ _ M (fun y hy => by simp [hy])
         refine x_apL (L := [_]) (cs := []) (nn := 0) rfl rfl rfl rfl Try.underlying34 sz118 ze118 rfl by118 rfl rfl (.inr ⟨bb0, 0, [], _, rfl, rfl, rfl, rfl⟩) M (by simp) (hOA.src Try.underlying34 (oCs_one _)) (by omega) (by decide) (by omega) ?_
         intro Lo v6 w6 how M
         rw [Nat.zero_add, List.nil_append] at how
         obtain ⟨p6, c6, rfl⟩ := how.shape
         refine ⟨⟨.inr (cell_of (M.get (b := bbx2) (o := (bbx2, .cells (opC o dv).toArray 66 (0, 0)).2) (by simp)) rfl), .inl (by kernel_rfl), .inr ⟨_, _, _, (M.get (b := bal4) (o := (bal4, .cells [.slice pu2 lO.length cu2].toArray 33 (0, 0)).2) (by simp)), rfl⟩, trivial⟩, ?_⟩
         refine x_bs1 (cs := (oR (who, ((m + 1 : Nat) : Int), (cleanP o.p).1, o.w))) rfl rfl rfl Try.underlying34 sz118 ze118 (Z := [_, _, _, _]) rfl rfl (by decide) (by decide) rfl rfl rfl ?_
         intro bB wbs2 hbbs2 hwbs2
         have M := M.acons hbbs2 hwbs2
         refine ⟨⟨.inl (by kernel_rfl), .inr (cell_of (M.get (b := bbx1) (o := (bbx1, .cells [.slice pu l.length cu, .slice ph hl.length chh].toArray 36 (0, 0)).2) (by simp)) rfl), .inr ⟨_, _, _, (M.get (b := bal4) (o := (bal4, .cells [.slice pu2 lO.length cu2].toArray 33 (0, 0)).2) (by simp)), rfl⟩, trivial⟩, ?_⟩
         refine Ex.forkS [(6, _), (7, _), (70, _), (74, _), (81, _), (85, _)] ⟨rfl, rfl, rfl, rfl, rfl, rfl, trivial⟩ ?_
         have M : Sep w00 ((bB, .cells (oR (who, ((m + 1 : Nat) : Int), (cleanP o.p).1, o.w)).toArray 118 (0, 0)) :: (Lo ++ (((bal4, .cells [.slice pu2 lO.length cu2].toArray 33 (0, 0)) :: (bal3, .cells [strV nmx, .bool false, dvx].toArray 88 (0, 0)) :: (bal2, .cells [.int .i64 0, .int .i64 0, .int .i64 0, .slice none 0 0, .slice none 0 0].toArray 59 (0, 0)) :: (bal1, .cells [.slice none 0 0, .slice none 0 0].toArray 36 (0, 0)) :: (bbx2, .cells (opC o dv).toArray 66 (0, 0)) :: (bbx1, .cells [.slice pu l.length cu, .slice ph hl.length chh].toArray 36 (0, 0)) :: X) ++ (L ++ L2)))) _ := M
         exact ⟨Lo, p6, c6, bB, _, _, rfl, rfl, how, M.perm (perm_c fun p => by simp only [List.countP_append, List.countP_cons]; omega)⟩
        ·refine x_bs1 (cs := (oR (who, ((m + 1 : Nat) : Int), (cleanP o.p).1, o.w))) rfl rfl rfl Try.underlying34 sz118 ze118 (Z := [_, _, _, _]) rfl rfl (by decide) (by decide) rfl rfl rfl ?_
         intro bB wbs3 hbbs3 hwbs3
         have M := M.acons hbbs3 hwbs3
         refine ⟨⟨.inl (by kernel_rfl), .inr (cell_of (M.get (b := bbx1) (o := (bbx1, .cells [.slice pu l.length cu, .slice ph hl.length chh].toArray 36 (0, 0)).2) (by simp)) rfl), .inr ⟨_, _, _, (M.get (b := bal4) (o := (bal4, .cells [.slice pu2 lO.length cu2].toArray 33 (0, 0)).2) (by simp)), rfl⟩, trivial⟩, ?_⟩
         have M := M.perm (List.Perm.swap _ _ _)
         have hOA := hO _ _ M (fun y hy => by simp [hy])
         refine x_apL (L := [_]) (cs := []) (nn := 0) rfl rfl rfl rfl Try.underlying34 sz118 ze118 rfl by118 rfl rfl (.inr ⟨bb0, 0, [], _, rfl, rfl, rfl, rfl⟩) M (by simp) (hOA.src Try.underlying34 (oCs_one _)) (by omega) (by decide) (by omega) ?_
         intro Lo v6 w6 how M
         rw [Nat.zero_add, List.nil_append] at how
         obtain ⟨p6, c6, rfl⟩ := how.shape
         refine ⟨⟨.inr (cell_of (M.get (b := bbx2) (o := (bbx2, .cells (opC o dv).toArray 66 (0, 0)).2) (by simp)) rfl), .inl (by kernel_rfl), .inr ⟨_, _, _, (M.get (b := bal4) (o := (bal4, .cells [.slice pu2 lO.length cu2].toArray 33 (0, 0)).2) (by simp)), rfl⟩, trivial⟩, ?_⟩
         refine Ex.forkS [(6, _), (7, _), (70, _), (74, _), (81, _), (85, _)] ⟨rfl, rfl, rfl, rfl, rfl, rfl, trivial⟩ ?_
         exact ⟨Lo, p6, c6, bB, _, _, rfl, rfl, how, M⟩
        rintro F1 T1 wf ⟨Lo, p6, c6, bB, R2, R3, rfl, rfl, how, M⟩
        refine ExT.leaf ?_
        have hsB : Sl wf (.slice (some ⟨bB, 0, none⟩) 1 1) 4 1 (oR (who, ((m + 1 : Nat) : Int), (cleanP o.p).1, o.w)) := .inr ⟨bB, 0, 1, _, _, _, rfl, Nat.le_refl _, M.get (b := bB) (o := .cells (oR (who, ((m + 1 : Nat) : Int), (cleanP o.p).1, o.w)).toArray 118 (0, 0)) (by simp), rfl, rfl⟩
        refine x_apL (L := Lo) (cs := oCs hl) rfl rfl rfl rfl Try.underlying34 sz118 ze118 rfl by118 rfl rfl how M (oCs_one _) (hsB.src Try.underlying34 (by intro u_ hu_; exact oCs_one [(who, ((m + 1 : Nat) : Int), (cleanP o.p).1, o.w)] u_ (by simpa [oCs] using hu_))) (by omega) (by decide) (by omega) ?_
        intro L3 v3 w3 ho3 M
        have ho3 : OwL L3 v3 4 (hl ++ [(who, ((m + 1 : Nat) : Int), (cleanP o.p).1, o.w)]).length (oCs (hl ++ [(who, ((m + 1 : Nat) : Int), (cleanP o.p).1, o.w)])) := by
         rw [List.length_append, oCs_app]
         exact ho3
        obtain ⟨p3, c3, rfl⟩ := ho3.shape
        have M : Sep w00 (((bal4, .cells [.slice pu2 lO.length cu2].toArray 33 (0, 0)) :: (bal3, .cells [strV nmx, .bool false, dvx].toArray 88 (0, 0)) :: (bal2, .cells [.int .i64 0, .int .i64 0, .int .i64 0, .slice none 0 0, .slice none 0 0].toArray 59 (0, 0)) :: (bal1, .cells [.slice none 0 0, .slice none 0 0].toArray 36 (0, 0)) :: (bbx2, .cells (opC o dv).toArray 66 (0, 0)) :: (bbx1, .cells [.slice pu l.length cu, .slice ph hl.length chh].toArray 36 (0, 0)) :: X) ++ (L ++ (L2 ++ (L3 ++ [(bB, .cells (oR (who, ((m + 1 : Nat) : Int), (cleanP o.p).1, o.w)).toArray 118 (0, 0))])))) w3 := M.perm (perm_c fun p => by simp only [List.countP_append, List.countP_cons, List.countP_nil]; omega)
        have hF3 := hF2.mono (L' := L ++ (L2 ++ (L3 ++ [(bB, .cells (oR (who, ((m + 1 : Nat) : Int), (cleanP o.p).1, o.w)).toArray 118 (0, 0))]))) (fun y hy => by simp only [List.mem_append] at hy ⊢; rcases hy with hy | hy <;> simp [hy])
        have hO3 : OpnK w00 (L ++ (L2 ++ (L3 ++ [(bB, .cells (oR (who, ((m + 1 : Nat) : Int), (cleanP o.p).1, o.w)).toArray 118 (0, 0))]))) (.slice p3 (hl ++ [(who, ((m + 1 : Nat) : Int), (cleanP o.p).1, o.w)]).length c3) (hl ++ [(who, ((m + 1 : Nat) : Int), (cleanP o.p).1, o.w)]) := SgK.own ho3 (by decide) (fun y hy => by simp [hy])
        refine ⟨⟨.inl (by kernel_rfl), .inl (by kernel_rfl), .inr ⟨_, _, _, (M.get (b := bal4) (o := (bal4, .cells [.slice pu2 lO.length cu2].toArray 33 (0, 0)).2) (by simp)), rfl⟩, trivial⟩, ?_⟩
        refine go 1 ?_
        refine x_st [_, _] _ rfl rfl rfl sz36 rfl rfl rfl rfl (by first | exact M.at_ 0 rfl | exact M.at_ 1 rfl | exact M.at_ 2 rfl | exact M.at_ 3 rfl | exact M.at_ 4 rfl | exact M.at_ 5 rfl | exact M.at_ 6 rfl | exact M.at_ 7 rfl) rfl rfl rfl ?_
        intro wst13 hwst13
        have M := by first | exact M.put 0 rfl hwst13 | exact M.put 1 rfl hwst13 | exact M.put 2 rfl hwst13 | exact M.put 3 rfl hwst13 | exact M.put 4 rfl hwst13 | exact M.put 5 rfl hwst13 | exact M.put 6 rfl hwst13 | exact M.put 7 rfl hwst13
        refine pnd ?_
        refine x_st [_, _, _, _, _] _ rfl rfl rfl sz59 rfl rfl rfl rfl (by first | exact M.at_ 0 rfl | exact M.at_ 1 rfl | exact M.at_ 2 rfl | exact M.at_ 3 rfl | exact M.at_ 4 rfl | exact M.at_ 5 rfl | exact M.at_ 6 rfl | exact M.at_ 7 rfl) rfl rfl rfl ?_
        intro wst14 hwst14
        have M := by first | exact M.put 0 rfl hwst14 | exact M.put 1 rfl hwst14 | exact M.put 2 rfl hwst14 | exact M.put 3 rfl hwst14 | exact M.put 4 rfl hwst14 | exact M.put 5 rfl hwst14 | exact M.put 6 rfl hwst14 | exact M.put 7 rfl hwst14
        refine pnd ?_
        refine go 0 ?_
        refine At.sub [(6, _), (7, _)] ⟨rfl, rfl, trivial⟩ ?_
        refine At.cut_n ?_
        exact ⟨_, _, _, rfl, hO3, hF3, M⟩
       ·refine x_bs1 (cs := (oR (who, ((m + 1 : Nat) : Int), (cleanP o.p).1, o.w))) rfl rfl rfl Try.underlying34 sz118 ze118 (Z := [_, _, _, _]) rfl rfl (by decide) (by decide) rfl rfl rfl ?_
        intro bB wbs4 hbbs4 hwbs4
        have M := M.acons hbbs4 hwbs4
        refine ⟨⟨.inl (by kernel_rfl), .inr (cell_of (M.get (b := bbx1) (o := (bbx1, .cells [.slice pu l.length cu, .slice ph hl.length chh].toArray 36 (0, 0)).2) (by simp)) rfl), .inr ⟨_, _, _, (M.get (b := bal4) (o := (bal4, .cells [.slice pu2 lO.length cu2].toArray 33 (0, 0)).2) (by simp)), rfl⟩, trivial⟩, ?_⟩
        refine Ex.fork ?_
        refine ExT.leaf ?_
        refine x_bs0 rfl rfl rfl Try.underlying34 sz118 ?_
        intro bb0 wbs5 hbbs5 hwbs5
        have M := M.acons hbbs5 hwbs5
        refine ⟨⟨.inr (cell_of (M.get (b := bbx2) (o := (bbx2, .cells (opC o dv).toArray 66 (0, 0)).2) (by simp)) rfl), .inr (cell_of (M.get (b := bbx1) (o := (bbx1, .cells [.slice pu l.length cu, .slice ph hl.length chh].toArray 36 (0, 0)).2) (by simp)) rfl), .inr ⟨_, _, _, (M.get (b := bal4) (o := (bal4, .cells [.slice pu2 lO.length cu2].toArray 33 (0, 0)).2) (by simp)), rfl⟩, trivial⟩, ?_⟩
        have hOA := hO _ _ M (fun y hy => by simp [hy])
        refine x_apL (L := [_]) (cs := []) (nn := 0) rfl rfl rfl rfl Try.underlying34 sz118 ze118 rfl by118 rfl rfl (.inr ⟨bb0, 0, [], _, rfl, rfl, rfl, rfl⟩) M (by simp) (hOA.src Try.underlying34 (oCs_one _)) (by omega) (by decide) (by omega) ?_
        intro Lo v6 w6 how M
        rw [Nat.zero_add, List.nil_append] at how
        obtain ⟨p6, c6, rfl⟩ := how.shape
        refine ⟨⟨.inr (cell_of (M.get (b := bbx2) (o := (bbx2, .cells (opC o dv).toArray 66 (0, 0)).2) (by simp)) rfl), .inl (by kernel_rfl), .inr ⟨_, _, _, (M.get (b := bal4) (o := (bal4, .cells [.slice pu2 lO.length cu2].toArray 33 (0, 0)).2) (by simp)), rfl⟩, trivial⟩, ?_⟩
        have hsB : Sl w6 (.slice (some ⟨bB, 0, none⟩) 1 1) 4 1 (oR (who, ((m + 1 : Nat) : Int), (cleanP o.p).1, o.w)) := .inr ⟨bB, 0, 1, _, _, _, rfl, Nat.le_refl _, M.get (b := bB) (o := .cells (oR (who, ((m + 1 : Nat) : Int), (cleanP o.p).1, o.w)).toArray 118 (0, 0)) (by simp), rfl, rfl⟩
        refine x_apL (L := Lo) (cs := oCs hl) rfl rfl rfl rfl Try.underlying34 sz118 ze118 rfl by118 rfl rfl how M (oCs_one _) (hsB.src Try.underlying34 (by intro u_ hu_; exact oCs_one [(who, ((m + 1 : Nat) : Int), (cleanP o.p).1, o.w)] u_ (by simpa [oCs] using hu_))) (by omega) (by decide) (by omega) ?_
        intro L3 v3 w3 ho3 M
        have ho3 : OwL L3 v3 4 (hl ++ [(who, ((m + 1 : Nat) : Int), (cleanP o.p).1, o.w)]).length (oCs (hl ++ [(who, ((m + 1 : Nat) : Int), (cleanP o.p).1, o.w)])) := by
         rw [List.length_append, oCs_app]
         exact ho3
        obtain ⟨p3, c3, rfl⟩ := ho3.shape
        have M : Sep w00 (((bal4, .cells [.slice pu2 lO.length cu2].toArray 33 (0, 0)) :: (bal3, .cells [strV nmx, .bool false, dvx].toArray 88 (0, 0)) :: (bal2, .cells [.int .i64 0, .int .i64 0, .int .i64 0, .slice none 0 0, .slice none 0 0].toArray 59 (0, 0)) :: (bal1, .cells [.slice none 0 0, .slice none 0 0].toArray 36 (0, 0)) :: (bbx2, .cells (opC o dv).toArray 66 (0, 0)) :: (bbx1, .cells [.slice pu l.length cu, .slice ph hl.length chh].toArray 36 (0, 0)) :: X) ++ (L ++ (L2 ++ (L3 ++ [(bB, .cells (oR (who, ((m + 1 : Nat) : Int), (cleanP o.p).1, o.w)).toArray 118 (0, 0))])))) w3 := M.perm (perm_c fun p => by simp only [List.countP_append, List.countP_cons, List.countP_nil]; omega)
        have hF3 := hF2.mono (L' := L ++ (L2 ++ (L3 ++ [(bB, .cells (oR (who, ((m + 1 : Nat) : Int), (cleanP o.p).1, o.w)).toArray 118 (0, 0))]))) (fun y hy => by simp only [List.mem_append] at hy ⊢; rcases hy with hy | hy <;> simp [hy])
        have hO3 : OpnK w00 (L ++ (L2 ++ (L3 ++ [(bB, .cells (oR (who, ((m + 1 : Nat) : Int), (cleanP o.p).1, o.w)).toArray 118 (0, 0))]))) (.slice p3 (hl ++ [(who, ((m + 1 : Nat) : Int), (cleanP o.p).1, o.w)]).length c3) (hl ++ [(who, ((m + 1 : Nat) : Int), (cleanP o.p).1, o.w)]) := SgK.own ho3 (by decide) (fun y hy => by simp [hy])
        refine ⟨⟨.inl (by kernel_rfl), .inl (by kernel_rfl), .inr ⟨_, _, _, (M.get (b := bal4) (o := (bal4, .cells [.slice pu2 lO.length cu2].toArray 33 (0, 0)).2) (by simp)), rfl⟩, trivial⟩, ?_⟩
        refine go 1 ?_
        refine x_st [_, _] _ rfl rfl rfl sz36 rfl rfl rfl rfl (by first | exact M.at_ 0 rfl | exact M.at_ 1 rfl | exact M.at_ 2 rfl | exact M.at_ 3 rfl | exact M.at_ 4 rfl | exact M.at_ 5 rfl | exact M.at_ 6 rfl | exact M.at_ 7 rfl) rfl rfl rfl ?_
        intro wst15 hwst15
        have M := by first | exact M.put 0 rfl hwst15 | exact M.put 1 rfl hwst15 | exact M.put 2 rfl hwst15 | exact M.put 3 rfl hwst15 | exact M.put 4 rfl hwst15 | exact M.put 5 rfl hwst15 | exact M.put 6 rfl hwst15 | exact M.put 7 rfl hwst15
        refine pnd ?_
        refine x_st [_, _, _, _, _] _ rfl rfl rfl sz59 rfl rfl rfl rfl (by first | exact M.at_ 0 rfl | exact M.at_ 1 rfl | exact M.at_ 2 rfl | exact M.at_ 3 rfl | exact M.at_ 4 rfl | exact M.at_ 5 rfl | exact M.at_ 6 rfl | exact M.at_ 7 rfl) rfl rfl rfl ?_
        intro wst16 hwst16
        have M := by first | exact M.put 0 rfl hwst16 | exact M.put 1 rfl hwst16 | exact M.put 2 rfl hwst16 | exact M.put 3 rfl hwst16 | exact M.put 4 rfl hwst16 | exact M.put 5 rfl hwst16 | exact M.put 6 rfl hwst16 | exact M.put 7 rfl hwst16
        refine pnd ?_
        refine go 0 ?_
        refine At.sub [(6, _), (7, _)] ⟨rfl, rfl, trivial⟩ ?_
        refine At.cut_n ?_
        exact ⟨_, _, _, rfl, hO3, hF3, M⟩
      rintro F1 wd ⟨ph', ch', L', rfl, hO', hF', M⟩
      refine go 1 ?_
      subst hmi
      obtain ⟨g1, g2, g3⟩ := hcas.ok hI hw hlow hco2
      rw [g1]
      exact ⟨_, _, _, _, hl ++ [_], L', _, rfl, ⟨none, 0, none, 0, rfl, nilS (by decide), nilS (by decide)⟩, hF', hO', g2, g3, by rw [List.length_append]; exact Nat.le_refl _, M.tail.tail.tail.tail.tail.tail⟩

end Go.Proofs.Ytebfjdolgchgaaa

namespace Go.Proofs.Ytebfjdolgchgaaa
open Go Go.Fw Go.RowKit Go.Proofs
set_option linter.unusedVariables false
set_option linter.unusedSimpArgs false
set_option maxRecDepth 100000
set_option maxHeartbeats 4000000

-- (valise/valiseref19.FS).Do
theorem fdo_c {w00 w0 : World} {X L : List (Nat × Obj)} {u hv : Value} {l : List Raw} {hl : List Opn} {who : Int} {o : OpS} {dv : Value} (M : Sep w00 (X ++ L) w0) (hF : FilesK w00 L u l) (hO : OpnK w00 L hv hl) (hI : RI l hl) (hlen : hl.length ≤ 1000) (hdv : BytesK w00 L dv o.d) (hod : o.d.length ≤ 131072) : Ret Try.prog 24 #[.agg #[u, hv], .int .i64 who, .agg (opC o dv).toArray] w0 (RfP w00 L X hl (doS l (hfL hl) who o)) := by
 obtain ⟨pu, cu, rfl⟩ := (hF.at_ M (fun y hy => mR hy)).shape
 obtain ⟨ph, chh, rfl⟩ := Sg.shape (hO _ _ M (fun y hy => mR hy))
 have hT := hI.tr
 have hll := hI.le
 have hus := hI.us
 obtain ⟨pdv, cdv, rfl⟩ := (hdv _ _ M (fun y hy => mR hy)).shape
 refine Ret.of_W Try.func24 rfl Try.ntmps24 rfl ?_
 refine go 1 ?_
 intro _ _ M
 refine go 1 ?_
 intro _ _ M
 refine go 1 ?_
 intro _ _ M
 refine go 1 ?_
 intro _ _ M
 refine spl 1 10 ?_ ?_
 ·intro hsp1
  refine go 0 ?_
  refine W.regD (by kernel_rfl) #[0, 0, 3, 7] [(0, false), (1, true), (2, true), (3, true)] (by kernel_rfl) ?_
  intro K wD1 hK hwD1
  have M := M.drew hwD1
  refine go 1 ?_
  refine x_call rfl rfl rfl rfl rfl en37 (rbad_c) ?_
  rintro r_ wcall1 ⟨rfl, hncall1⟩
  have M := M.new hncall1
  refine pnd ?_
  refine x_st [_, _] _ rfl rfl rfl sz36 rfl rfl rfl rfl (by first | exact M.at_ 0 rfl | exact M.at_ 1 rfl | exact M.at_ 2 rfl | exact M.at_ 3 rfl | exact M.at_ 4 rfl | exact M.at_ 5 rfl | exact M.at_ 6 rfl | exact M.at_ 7 rfl) rfl rfl rfl ?_
  intro wst1 hwst1
  have M := by first | exact M.put 0 rfl hwst1 | exact M.put 1 rfl hwst1 | exact M.put 2 rfl hwst1 | exact M.put 3 rfl hwst1 | exact M.put 4 rfl hwst1 | exact M.put 5 rfl hwst1 | exact M.put 6 rfl hwst1 | exact M.put 7 rfl hwst1
  refine pnd ?_
  refine x_st [_, _, _, _, _] _ rfl rfl rfl sz59 rfl rfl rfl rfl (by first | exact M.at_ 0 rfl | exact M.at_ 1 rfl | exact M.at_ 2 rfl | exact M.at_ 3 rfl | exact M.at_ 4 rfl | exact M.at_ 5 rfl | exact M.at_ 6 rfl | exact M.at_ 7 rfl) rfl rfl rfl ?_
  intro wst2 hwst2
  have M := by first | exact M.put 0 rfl hwst2 | exact M.put 1 rfl hwst2 | exact M.put 2 rfl hwst2 | exact M.put 3 rfl hwst2 | exact M.put 4 rfl hwst2 | exact M.put 5 rfl hwst2 | exact M.put 6 rfl hwst2 | exact M.put 7 rfl hwst2
  refine pnd ?_
  refine go 1 ?_
  exact RfP.bad (show doS l (hfL hl) who o = (badS 2, l, hfL hl) by unfold doS; rw [if_pos (.inl hsp1)]) hF hO hI M.tail.tail.tail.tail
 ·intro hsp1
  refine spl 1 14 ?_ ?_
  ·intro hsp2
   refine go 0 ?_
   refine W.regD (by kernel_rfl) #[0, 0, 3, 7] [(0, false), (1, true), (2, true), (3, true)] (by kernel_rfl) ?_
   intro K wD2 hK hwD2
   have M := M.drew hwD2
   refine go 1 ?_
   refine x_call rfl rfl rfl rfl rfl en37 (rbad_c) ?_
   rintro r_ wcall2 ⟨rfl, hncall2⟩
   have M := M.new hncall2
   refine pnd ?_
   refine x_st [_, _] _ rfl rfl rfl sz36 rfl rfl rfl rfl (by first | exact M.at_ 0 rfl | exact M.at_ 1 rfl | exact M.at_ 2 rfl | exact M.at_ 3 rfl | exact M.at_ 4 rfl | exact M.at_ 5 rfl | exact M.at_ 6 rfl | exact M.at_ 7 rfl) rfl rfl rfl ?_
   intro wst3 hwst3
   have M := by first | exact M.put 0 rfl hwst3 | exact M.put 1 rfl hwst3 | exact M.put 2 rfl hwst3 | exact M.put 3 rfl hwst3 | exact M.put 4 rfl hwst3 | exact M.put 5 rfl hwst3 | exact M.put 6 rfl hwst3 | exact M.put 7 rfl hwst3
   refine pnd ?_
   refine x_st [_, _, _, _, _] _ rfl rfl rfl sz59 rfl rfl rfl rfl (by first | exact M.at_ 0 rfl | exact M.at_ 1 rfl | exact M.at_ 2 rfl | exact M.at_ 3 rfl | exact M.at_ 4 rfl | exact M.at_ 5 rfl | exact M.at_ 6 rfl | exact M.at_ 7 rfl) rfl rfl rfl ?_
   intro wst4 hwst4
   have M := by first | exact M.put 0 rfl hwst4 | exact M.put 1 rfl hwst4 | exact M.put 2 rfl hwst4 | exact M.put 3 rfl hwst4 | exact M.put 4 rfl hwst4 | exact M.put 5 rfl hwst4 | exact M.put 6 rfl hwst4 | exact M.put 7 rfl hwst4
   refine pnd ?_
   refine go 1 ?_
   exact RfP.bad (show doS l (hfL hl) who o = (badS 2, l, hfL hl) by unfold doS; rw [if_pos (.inr (.inl (by omega)))]) hF hO hI M.tail.tail.tail.tail
  ·intro hsp2
   refine spl 2 19 ?_ ?_
   ·intro hsp3
    refine go 0 ?_
    refine W.regD (by kernel_rfl) #[0, 0, 3, 7] [(0, false), (1, true), (2, true), (3, true)] (by kernel_rfl) ?_
    intro K wD3 hK hwD3
    have M := M.drew hwD3
    refine go 1 ?_
    refine x_call rfl rfl rfl rfl rfl en37 (rbad_c) ?_
    rintro r_ wcall3 ⟨rfl, hncall3⟩
    have M := M.new hncall3
    refine pnd ?_
    refine x_st [_, _] _ rfl rfl rfl sz36 rfl rfl rfl rfl (by first | exact M.at_ 0 rfl | exact M.at_ 1 rfl | exact M.at_ 2 rfl | exact M.at_ 3 rfl | exact M.at_ 4 rfl | exact M.at_ 5 rfl | exact M.at_ 6 rfl | exact M.at_ 7 rfl) rfl rfl rfl ?_
    intro wst5 hwst5
    have M := by first | exact M.put 0 rfl hwst5 | exact M.put 1 rfl hwst5 | exact M.put 2 rfl hwst5 | exact M.put 3 rfl hwst5 | exact M.put 4 rfl hwst5 | exact M.put 5 rfl hwst5 | exact M.put 6 rfl hwst5 | exact M.put 7 rfl hwst5
    refine pnd ?_
    refine x_st [_, _, _, _, _] _ rfl rfl rfl sz59 rfl rfl rfl rfl (by first | exact M.at_ 0 rfl | exact M.at_ 1 rfl | exact M.at_ 2 rfl | exact M.at_ 3 rfl | exact M.at_ 4 rfl | exact M.at_ 5 rfl | exact M.at_ 6 rfl | exact M.at_ 7 rfl) rfl rfl rfl ?_
    intro wst6 hwst6
    have M := by first | exact M.put 0 rfl hwst6 | exact M.put 1 rfl hwst6 | exact M.put 2 rfl hwst6 | exact M.put 3 rfl hwst6 | exact M.put 4 rfl hwst6 | exact M.put 5 rfl hwst6 | exact M.put 6 rfl hwst6 | exact M.put 7 rfl hwst6
    refine pnd ?_
    refine go 1 ?_
    exact RfP.bad (show doS l (hfL hl) who o = (badS 2, l, hfL hl) by unfold doS; rw [if_pos (.inr (.inr (.inl (by omega))))]) hF hO hI M.tail.tail.tail.tail
   ·intro hsp3
    refine cnd 2 ?_ ?_
    ·intro hco4
     refine go 0 ?_
     refine W.regD (by kernel_rfl) #[0, 0, 3, 7] [(0, false), (1, true), (2, true), (3, true)] (by kernel_rfl) ?_
     intro K wD4 hK hwD4
     have M := M.drew hwD4
     refine go 1 ?_
     refine x_call rfl rfl rfl rfl rfl en37 (rbad_c) ?_
     rintro r_ wcall4 ⟨rfl, hncall4⟩
     have M := M.new hncall4
     refine pnd ?_
     refine x_st [_, _] _ rfl rfl rfl sz36 rfl rfl rfl rfl (by first | exact M.at_ 0 rfl | exact M.at_ 1 rfl | exact M.at_ 2 rfl | exact M.at_ 3 rfl | exact M.at_ 4 rfl | exact M.at_ 5 rfl | exact M.at_ 6 rfl | exact M.at_ 7 rfl) rfl rfl rfl ?_
     intro wst7 hwst7
     have M := by first | exact M.put 0 rfl hwst7 | exact M.put 1 rfl hwst7 | exact M.put 2 rfl hwst7 | exact M.put 3 rfl hwst7 | exact M.put 4 rfl hwst7 | exact M.put 5 rfl hwst7 | exact M.put 6 rfl hwst7 | exact M.put 7 rfl hwst7
     refine pnd ?_
     refine x_st [_, _, _, _, _] _ rfl rfl rfl sz59 rfl rfl rfl rfl (by first | exact M.at_ 0 rfl | exact M.at_ 1 rfl | exact M.at_ 2 rfl | exact M.at_ 3 rfl | exact M.at_ 4 rfl | exact M.at_ 5 rfl | exact M.at_ 6 rfl | exact M.at_ 7 rfl) rfl rfl rfl ?_
     intro wst8 hwst8
     have M := by first | exact M.put 0 rfl hwst8 | exact M.put 1 rfl hwst8 | exact M.put 2 rfl hwst8 | exact M.put 3 rfl hwst8 | exact M.put 4 rfl hwst8 | exact M.put 5 rfl hwst8 | exact M.put 6 rfl hwst8 | exact M.put 7 rfl hwst8
     refine pnd ?_
     refine go 1 ?_
     exact RfP.bad (show doS l (hfL hl) who o = (badS 2, l, hfL hl) by unfold doS; rw [if_pos (.inr (.inr (.inr (by omega))))]) hF hO hI M.tail.tail.tail.tail
    ·intro hco4
     have hn : ¬ (who < 0 ∨ 8 ≤ who ∨ o.k < 1 ∨ 9 < o.k) := by omega
     refine cnd 2 ?_ ?_
     ·intro hco5
      have hS : doS l (hfL hl) who o = openS l (hfL hl) who o := by unfold doS; rw [if_neg hn, if_pos hco5]
      refine go 2 ?_
      refine x_call rfl rfl rfl rfl rfl en38 (fopen_c (X := _ :: _ :: _ :: _ :: X) M hF hO hI hlen rfl (by omega)) ?_
      rintro r_ w5 ⟨pu', cu', ph', ch', hl', L', rv, rfl, hr, hF', hO', hI', hh', hlen', M⟩
      obtain ⟨q1, k1, q2, k2, rfl, hr4, hr5⟩ := hr
      refine ⟨trivial, ?_⟩
      refine go 1 ?_
      intro _ M
      refine go 1 ?_
      intro _ M
      refine go 1 ?_
      rw [hS]
      exact ⟨_, _, _, _, hl', L', _, rfl, ⟨q1, k1, q2, k2, rfl, hr4, hr5⟩, hF', hO', hI', hh', hlen', M.tail.tail.tail.tail⟩
     ·intro hco5
      refine cnd 2 ?_ ?_
      ·intro hco6
       have hS : doS l (hfL hl) who o = handleS l (hfL hl) who o := by unfold doS; rw [if_neg hn, if_neg hco5, if_pos hco6]
       refine go 2 ?_
       refine x_call rfl rfl rfl rfl rfl en39 (fhandle_c (X := _ :: _ :: _ :: _ :: X) M hF hO hI hlen hdv hod) ?_
       rintro r_ w6 ⟨pu', cu', ph', ch', hl', L', rv, rfl, hr, hF', hO', hI', hh', hlen', M⟩
       obtain ⟨q1, k1, q2, k2, rfl, hr4, hr5⟩ := hr
       refine ⟨trivial, ?_⟩
       refine go 1 ?_
       intro _ M
       refine go 1 ?_
       intro _ M
       refine go 1 ?_
       rw [hS]
       exact ⟨_, _, _, _, hl', L', _, rfl, ⟨q1, k1, q2, k2, rfl, hr4, hr5⟩, hF', hO', hI', hh', hlen', M.tail.tail.tail.tail⟩
      ·intro hco6
       have hS : doS l (hfL hl) who o = (if (cleanP o.p).2 = 0 then namedS l (hfL hl) (cleanP o.p).1 o else (badS (cleanP o.p).2, l, hfL hl)) := by unfold doS; rw [if_neg hn, if_neg hco5, if_neg (by omega)]
       refine go 2 ?_
       refine x_call rfl rfl rfl rfl rfl en40 (fnamed_c (X := _ :: _ :: _ :: _ :: X) M hF hO hI hlen rfl) ?_
       rintro r_ w7 ⟨pu', cu', ph', ch', hl', L', rv, rfl, hr, hF', hO', hI', hh', hlen', M⟩
       obtain ⟨q1, k1, q2, k2, rfl, hr4, hr5⟩ := hr
       refine ⟨trivial, ?_⟩
       refine go 1 ?_
       intro _ M
       refine go 1 ?_
       intro _ M
       refine go 1 ?_
       rw [hS]
       exact ⟨_, _, _, _, hl', L', _, rfl, ⟨q1, k1, q2, k2, rfl, hr4, hr5⟩, hF', hO', hI', hh', hlen', M.tail.tail.tail.tail⟩

end Go.Proofs.Ytebfjdolgchgaaa

namespace Go.Proofs.Ytebfjdolgchgaaa
open Go Go.Fw Go.RowKit
set_option linter.unusedVariables false
set_option linter.unusedSimpArgs false

section
variable {l : List Raw}
theorem TreeL.of_bare (h : TreeL (bareL l)) (hd : ∀ x ∈ l, x.2.2.length ≤ 65536 ∧ (x.2.1 = true → x.2.2 = [])) : TreeL l := by
 have hn : (l.map (·.1)).Nodup := by have := h.names; rwa [bare_names'] at this
 obtain ⟨g, hG, hR⟩ := h
 let g' : Gf := fun q => match g q with | some (false, _) => some (false, (fileD l (joinS q)).getD []) | v => v
 have ht : ∀ q b, g q = some (true, b) → g' q = some (true, b) := fun q b h => by show (match g q with | some (false, _) => _ | v => v) = _; rw [h]
 have hf : ∀ q b, g q = some (false, b) → g' q = some (false, (fileD l (joinS q)).getD []) := fun q b h => by show (match g q with | some (false, _) => _ | v => v) = _; rw [h]
 have hz : ∀ q, g q = none → g' q = none := fun q h => by show (match g q with | some (false, _) => _ | v => v) = _; rw [h]
 have hfd : ∀ p, ((fileD l p).getD []).length ≤ 65536 := fun p => by
  cases hq : fileD l p with
  | none => simp
  | some d =>
   unfold fileD at hq
   cases hx : l.find? (fun x => decide (x.1 = p)) with
   | none => rw [hx] at hq; cases hq
   | some x =>
    rw [hx] at hq
    simp only at hq
    split at hq
    ·cases hq
    ·cases hq
     exact (hd x (List.mem_of_find?_eq_some hx)).1
 refine ⟨g', ⟨ht _ _ hG.root, fun q n v hv => ?_, fun q v hv => ?_⟩, ⟨?_, fun x => ⟨fun hx => ?_, ?_⟩⟩⟩
 ·cases hq : g (q ++ [n]) with
  | none => rw [hz _ hq] at hv; cases hv
  | some u =>
   obtain ⟨b, hb⟩ := hG.par q n u hq
   exact ⟨b, ht _ _ hb⟩
 ·cases hq : g q with
  | none => rw [hz _ hq] at hv; cases hv
  | some u =>
   obtain ⟨a, b⟩ := u
   obtain ⟨h1, h2, h3⟩ := hG.ok q _ hq
   cases a with
   | true => rw [ht _ _ hq] at hv; cases hv; exact ⟨h1, h2, h3⟩
   | false => rw [hf _ _ hq] at hv; cases hv; exact ⟨h1, hfd _, fun h => by cases h⟩
 ·have := hR.srt
  unfold bareL at this
  rw [List.pairwise_map] at this
  exact this
 ·obtain ⟨N, h1, h2, h3⟩ := (hR.mem (bareR x)).1 (List.mem_map.2 ⟨x, hx, rfl⟩)
  refine ⟨N, h1, h2, ?_⟩
  obtain ⟨a, b, d⟩ := x
  cases b with
  | true =>
   have : d = [] := (hd _ hx).2 rfl
   subst this
   exact ht _ _ h3
  | false =>
   rw [hf _ _ h3, ← show a = joinS N from h2, fileD_of hn hx]; rfl
 ·rintro ⟨N, h1, h2, h3⟩
  cases hq : g N with
  | none => rw [hz _ hq] at h3; cases h3
  | some u =>
   obtain ⟨a, b⟩ := u
   have hm : ((joinS N, a, b) : Raw) ∈ bareL l := (hR.mem _).2 ⟨N, h1, rfl, hq⟩
   obtain ⟨y, hy, hy2⟩ := List.mem_map.1 hm
   obtain ⟨y1, y2, y3⟩ := y
   simp only [bareR, Prod.mk.injEq] at hy2
   obtain ⟨rfl, rfl, rfl⟩ := hy2
   obtain ⟨x1, x2⟩ := x
   simp only at h2 h3
   subst h2
   cases y2 with
   | true =>
    rw [ht _ _ hq] at h3
    cases h3
    have : y3 = [] := (hd _ hy).2 rfl
    subst this
    exact hy
   | false =>
    rw [hf _ _ hq, fileD_of hn hy] at h3
    cases h3
    exact hy
theorem OvW.tree {w00 w : World} {X : List (Nat × Obj)} {I : OvI} {hf : HF} (M : OvW w00 X I l hf w) : TreeL l := by
 obtain ⟨S, _, h1, _, _⟩ := M
 refine TreeL.of_bare ⟨_, h1.tr.ti.gi, h1.tr.rel⟩ fun x hx => ⟨?_, h1.dd x hx⟩
 obtain ⟨a, b, d⟩ := x
 cases b with
 | true => rw [show d = [] from h1.dd _ hx rfl]; simp
 | false => exact (h1.le hx).1
end
section
variable {l : List Raw}
end
end Go.Proofs.Ytebfjdolgchgaaa

namespace Go.Proofs.Ytebfjdolgchgaaa
open Go Go.Fw Go.RowKit
set_option linter.unusedVariables false
set_option linter.unusedSimpArgs false
theorem SgK.litB {w00 : World} {L : List (Nat × Obj)} {b n : Nat} {cs : List Value} {T : TypeId} {fr : Nat × Nat} (hm : (b, Obj.cells cs.toArray T fr) ∈ L) (hn : cs.length = n) : SgK w00 L (.slice (some ⟨b, 0, none⟩) n n) 1 n cs :=
 SgK.slL (.inr ⟨b, 0, n, _, T, fr, rfl, Nat.le_refl _, hm, by simp [← hn], by omega⟩) (fun _ h => h)
end Go.Proofs.Ytebfjdolgchgaaa

namespace Go.Proofs.Ytebfjdolgchgaaa
open Go Go.Fw Go.RowKit Go.Proofs
set_option linter.unusedVariables false
set_option linter.unusedSimpArgs false
set_option maxRecDepth 100000
set_option maxHeartbeats 4000000


end Go.Proofs.Ytebfjdolgchgaaa

namespace Go.Proofs.Ytebfjdolgchgaaa
open Go Go.Fw Go.RowKit Go.Proofs
set_option linter.unusedVariables false
set_option linter.unusedSimpArgs false
set_option maxRecDepth 100000
set_option maxHeartbeats 4000000


end Go.Proofs.Ytebfjdolgchgaaa

namespace Go.Proofs.Ytebfjdolgchgaaa
open Go Go.Fw Go.RowKit Go.Proofs
set_option linter.unusedVariables false
set_option linter.unusedSimpArgs false
set_option maxRecDepth 100000
set_option maxHeartbeats 4000000


end Go.Proofs.Ytebfjdolgchgaaa

namespace Go.Proofs.Ytebfjdolgchgaaa
open Go Go.Fw Go.RowKit
set_option linter.unusedVariables false
set_option linter.unusedSimpArgs false

/-! ## A key's two queues: who holds it, who waits for it; to write? -/
abbrev Qa := Int × Bool
def mayQ (h : List Qa) (w : Bool) : Bool := h.isEmpty || (!w && !((h.head?.map (·.2)).getD false))
def hasQ (q : List Qa) (who : Int) : Bool := q.any fun a => decide (a.1 = who)
def grantQ (h : List Qa) : List Qa → List Int → List Qa × List Qa × List Int
 | [], now => (h, [], now)
 | a :: w, now => if mayQ h a.2 = true then grantQ (h ++ [a]) w (now ++ [a.1]) else (h, a :: w, now)
def askQ (q : List Qa × List Qa) (who : Int) (wr : Bool) : (List Qa × List Qa) × Bool × Int :=
 if (hasQ q.1 who || hasQ q.2 who) = true then (q, false, 18)
 else if (q.2.isEmpty && mayQ q.1 wr) = true then ((q.1 ++ [(who, wr)], q.2), true, 0) else ((q.1, q.2 ++ [(who, wr)]), false, 0)
def dropQ (h : List Qa) (who : Int) : List Qa := h.filter fun a => !decide (a.1 = who)
def freeQ (q : List Qa × List Qa) (who : Int) : (List Qa × List Qa) × List Int × Int :=
 if hasQ q.1 who = true then (((grantQ (dropQ q.1 who) q.2 []).1, (grantQ (dropQ q.1 who) q.2 []).2.1), (grantQ (dropQ q.1 who) q.2 []).2.2, 0) else (q, [], 9)
/-- All keys. -/
abbrev QM := List UInt8 → List Qa × List Qa
def setQ (Q : QM) (key : List UInt8) (q : List Qa × List Qa) : QM := fun x => if x = key then q else Q x
def noQ : QM := fun _ => ([], [])

/-- What always is so of a key. -/
structure QI (q : List Qa × List Qa) : Prop where
 one : ((q.1 ++ q.2).map (·.1)).Nodup
 excl : (∀ a ∈ q.1, a.2 = false) ∨ q.1.length ≤ 1
 stop : ∀ a r, q.2 = a :: r → mayQ q.1 a.2 = false
section
variable {q : List Qa × List Qa} {h w : List Qa} {a : Qa} {who : Int} {wr : Bool} {now : List Int}
theorem QI.nil : QI ([], []) := ⟨by simp, .inr (by simp), fun _ _ h => by cases h⟩
theorem hasQ_iff {q : List Qa} : hasQ q who = true ↔ ∃ a ∈ q, a.1 = who := by unfold hasQ; simp
theorem hasQ_no {q : List Qa} : hasQ q who = false ↔ ∀ a ∈ q, a.1 ≠ who := by unfold hasQ; simp
theorem mayQ_excl (he : (∀ a ∈ h, a.2 = false) ∨ h.length ≤ 1) (hm : mayQ h wr = true) : (∀ x ∈ h ++ [(who, wr)], x.2 = false) ∨ (h ++ [(who, wr)]).length ≤ 1 := by
 cases h with
 | nil => exact .inr (by simp)
 | cons x r =>
  left
  unfold mayQ at hm
  simp only [List.isEmpty_cons, Bool.false_or, List.head?_cons, Option.map_some, Option.getD_some, Bool.and_eq_true, Bool.not_eq_true'] at hm
  intro y hy
  rcases List.mem_append.1 hy with hy | hy
  ·rcases he with he | he
   ·exact he y hy
   ·have : r = [] := by cases r with | nil => rfl | cons _ _ => simp at he
    subst this
    rw [List.mem_singleton.1 hy]; exact hm.2
  ·rw [List.mem_singleton.1 hy]; exact hm.1
theorem QI.held (hq : QI q) (hw : q.2 ≠ []) : q.1 ≠ [] := by
 cases e : q.2 with
 | nil => exact absurd e hw
 | cons a r => intro e2; have := hq.stop a r e; rw [e2] at this; cases this
theorem QI.ask (hq : QI q) : QI (askQ q who wr).1 := by
 unfold askQ
 split
 ·exact hq
 ·rename_i hno
  simp only [Bool.or_eq_true, not_or, Bool.not_eq_true] at hno
  have h1 := hasQ_no.1 hno.1
  have h2 := hasQ_no.1 hno.2
  have hn : ∀ x ∈ q.1 ++ q.2, x.1 ≠ who := fun x hx => by rcases List.mem_append.1 hx with h | h; exact h1 x h; exact h2 x h
  have hnd : ((q.1 ++ q.2 ++ [(who, wr)]).map (·.1)).Nodup := by
   rw [List.map_append, List.nodup_append]
   refine ⟨hq.one, by simp, fun x hx y hy => ?_⟩
   obtain ⟨z, hz, rfl⟩ := List.mem_map.1 hx
   simp at hy; subst hy; exact hn z hz
  split
  ·rename_i hm
   simp only [Bool.and_eq_true, List.isEmpty_iff] at hm
   refine ⟨?_, mayQ_excl hq.excl hm.2, fun a r e => by simp only at e; rw [hm.1] at e; cases e⟩
   rw [hm.1] at hnd ⊢; simpa using hnd
  ·rename_i hm
   refine ⟨by simpa using hnd, hq.excl, fun a r e => ?_⟩
   simp only at e ⊢
   cases e2 : q.2 with
   | nil =>
    rw [e2] at e hm; simp only [List.nil_append, List.cons.injEq] at e
    rw [← e.1]; simpa using hm
   | cons b s =>
    rw [e2] at e; simp only [List.cons_append, List.cons.injEq] at e
    rw [← e.1]; exact hq.stop b s e2
theorem grant_QI : ∀ {w h : List Qa} {now : List Int}, ((h ++ w).map (·.1)).Nodup → ((∀ a ∈ h, a.2 = false) ∨ h.length ≤ 1) → QI ((grantQ h w now).1, (grantQ h w now).2.1)
 | [], h, now, h1, h2 => ⟨h1, h2, fun _ _ e => by cases e⟩
 | a :: w, h, now, h1, h2 => by
  unfold grantQ
  split
  ·rename_i hm; exact grant_QI (by simpa using h1) (mayQ_excl (who := a.1) h2 hm)
  ·rename_i hm; exact ⟨h1, h2, fun b r e => by simp only [List.cons.injEq] at e; rw [← e.1]; simpa using hm⟩
theorem QI.drop (hq : QI q) : ((dropQ q.1 who ++ q.2).map (·.1)).Nodup ∧ ((∀ a ∈ dropQ q.1 who, a.2 = false) ∨ (dropQ q.1 who).length ≤ 1) := by
 have hs : (dropQ q.1 who ++ q.2).Sublist (q.1 ++ q.2) := List.Sublist.append List.filter_sublist (List.Sublist.refl _)
 refine ⟨(hs.map _).nodup hq.one, ?_⟩
 rcases hq.excl with h | h
 ·exact .inl fun a ha => h a (List.mem_filter.1 ha).1
 ·exact .inr (Nat.le_trans (List.length_filter_le _ _) h)
theorem QI.free (hq : QI q) : QI (freeQ q who).1 := by
 unfold freeQ
 split
 ·exact grant_QI hq.drop.1 hq.drop.2
 ·exact hq
/-- Who comes to hold a key: the first of those who wait, in order. -/
theorem grant_all : ∀ {w h : List Qa} {now : List Int}, ∃ m, (grantQ h w now).1 = h ++ w.take m ∧ (grantQ h w now).2.1 = w.drop m ∧ (grantQ h w now).2.2 = now ++ (w.take m).map (·.1)
 | [], h, now => ⟨0, by simp [grantQ]⟩
 | a :: w, h, now => by
  unfold grantQ
  split
  ·obtain ⟨m, h1, h2, h3⟩ := grant_all (w := w) (h := h ++ [a]) (now := now ++ [a.1])
   exact ⟨m + 1, by rw [h1]; simp, by rw [h2]; simp, by rw [h3]; simp⟩
  ·exact ⟨0, by simp⟩
end
end Go.Proofs.Ytebfjdolgchgaaa

namespace Go.Proofs.Ytebfjdolgchgaaa
open Go Go.Fw Go.RowKit
set_option linter.unusedVariables false
set_option linter.unusedSimpArgs false

/-- A client: what is left to ask for, at which of its four steps, how many were ended, when it began, its place in the order, the file's lock, does it wait? -/
structure Cl where
 l : List OpS
 st : Nat
 n : Nat
 bg : Nat
 dd : Nat
 key : List UInt8
 w : Bool
/-- What was done. -/
structure Dd where
 who : Int
 n : Nat
 bg : Nat
 en : Int
 r : RsS
structure VS where
 f : List Raw
 h : HF
 q : QM
 c : List Cl
 o : List Dd
 s : Nat

def chgO (o : OpS) : Bool := decide (o.k = 6 ∨ o.k = 7 ∨ o.k = 8 ∨ o.k = 10) || (decide (o.k = 1) && o.c)
def lockO (o : OpS) : Bool := decide (o.k = 2 ∨ o.k = 3 ∨ o.k = 4)
def fileP (h : HF) (who n : Int) : List UInt8 := match h who n with | some v => v.1 | none => []
def wakeC (cs : List Cl) (now : List Int) : List Cl := now.foldl (fun cs w => cs.modify w.toNat fun c => { c with w := false }) cs
def freeV (S : VS) (i : Nat) (key : List UInt8) : VS := { S with q := setQ S.q key (freeQ (S.q key) i).1, c := wakeC S.c (freeQ (S.q key) i).2.1 }
def endV (S : VS) (i : Nat) (c : Cl) : VS := if c.key = [] then freeV S i [] else freeV (freeV S i c.key) i []
def beginS (S : VS) (i : Nat) (c : Cl) (o : OpS) : VS :=
 { S with q := setQ S.q [] (askQ (S.q []) i (chgO o)).1, c := S.c.set i { c with bg := S.s, w := !(askQ (S.q []) i (chgO o)).2.1, st := 1 }, s := S.s + 1 }
def askS (S : VS) (i : Nat) (c : Cl) (o : OpS) : VS :=
 if lockO o = true then
  { S with q := setQ S.q (47 :: fileP S.h i o.h) (askQ (S.q (47 :: fileP S.h i o.h)) i (!decide (o.k = 2))).1, c := S.c.set i { c with key := 47 :: fileP S.h i o.h, w := !(askQ (S.q (47 :: fileP S.h i o.h)) i (!decide (o.k = 2))).2.1, st := 2 }, s := S.s + 1 }
 else { S with c := S.c.set i { c with key := [], st := 2 }, s := S.s + 1 }
def commitS (S : VS) (i : Nat) (c : Cl) (o : OpS) : VS :=
 { S with f := (doS S.f S.h i o).2.1, h := (doS S.f S.h i o).2.2, o := S.o ++ [⟨i, c.n, c.bg, -1, (doS S.f S.h i o).1⟩], c := S.c.set i { c with dd := S.o.length, st := 3 }, s := S.s + 1 }
def endS (S : VS) (i : Nat) (c : Cl) : VS :=
 { endV S i c with o := S.o.modify c.dd (fun d => { d with en := S.s }), c := (endV S i c).c.modify i (fun d => { d with l := c.l.drop 1, n := c.n + 1, st := 0 }), s := S.s + 1 }
def stepS (S : VS) (i : Nat) (c : Cl) (o : OpS) : VS :=
 if c.st = 0 then beginS S i c o else if c.st = 1 then askS S i c o else if c.st = 2 then commitS S i c o else endS S i c
def cliS (S : VS) (who : Int) : Option Cl := if 0 ≤ who then S.c[who.toNat]? else none
def stepV (S : VS) (who : Int) : VS × Bool := match cliS S who with
 | none => (S, false)
 | some c => match c.l with
  | [] => (S, false)
  | o :: _ => if c.w = true then (S, false) else (stepS S who.toNat c o, true)
def leftV (S : VS) (who : Int) : Int := match cliS S who with | none => 0 | some c => c.l.length
def blockV (S : VS) (who : Int) : Bool := match cliS S who with | none => false | some c => c.w
def newV (f : List Raw) (h : HF) (ls : List (List OpS)) : VS := ⟨f, h, noQ, ls.map (fun l => ⟨l, 0, 0, 0, 0, [], false⟩), [], 0⟩

/-- What always is so, as far as memory asks for it. -/
structure VI (S : VS) : Prop where
 qi : ∀ key, QI (S.q key)
 wh : ∀ key, ∀ a ∈ (S.q key).1 ++ (S.q key).2, 0 ≤ a.1 ∧ a.1 < S.c.length
 dd : ∀ c ∈ S.c, c.st = 3 → c.dd < S.o.length
 st : ∀ c ∈ S.c, c.st ≤ 3
 le : S.c.length ≤ 8
section
variable {S : VS} {i : Nat} {c : Cl} {o : OpS} {key : List UInt8} {q : List Qa × List Qa} {who : Int}
theorem wakeC_len (cs : List Cl) : ∀ (now : List Int), (wakeC cs now).length = cs.length := by
 intro now
 unfold wakeC
 induction now generalizing cs with
 | nil => rfl
 | cons w now ih => rw [List.foldl_cons, ih, List.length_modify]
theorem setQ_same : setQ S.q key q key = q := by unfold setQ; rw [if_pos rfl]
theorem setQ_other {key' : List UInt8} (h : key' ≠ key) : setQ S.q key q key' = S.q key' := by unfold setQ; rw [if_neg h]
theorem ask_mem {wr : Bool} {a : Qa} (h : a ∈ (askQ q who wr).1.1 ++ (askQ q who wr).1.2) : a ∈ q.1 ++ q.2 ∨ a = (who, wr) := by
 unfold askQ at h
 split at h
 ·exact .inl h
 ·split at h <;> simp only [List.mem_append, List.mem_singleton] at h ⊢ <;> rcases h with h | h <;> first
   | (rcases h with h | h <;> first | exact .inl (.inl h) | exact .inl (.inr h) | exact .inr h)
   | exact .inl (.inl h) | exact .inl (.inr h) | exact .inr h
theorem free_mem {a : Qa} (h : a ∈ (freeQ q who).1.1 ++ (freeQ q who).1.2) : a ∈ q.1 ++ q.2 := by
 unfold freeQ at h
 split at h
 ·obtain ⟨m, h1, h2, _⟩ := grant_all (w := q.2) (h := dropQ q.1 who) (now := [])
  simp only [h1, h2, List.append_assoc, List.take_append_drop, List.mem_append] at h ⊢
  rcases h with h | h
  ·exact .inl (List.mem_filter.1 h).1
  ·exact .inr h
 ·exact h
theorem free_now {w : Int} (h : w ∈ (freeQ q who).2.1) : ∃ a ∈ q.2, a.1 = w := by
 unfold freeQ at h
 split at h
 ·obtain ⟨m, _, _, h3⟩ := grant_all (w := q.2) (h := dropQ q.1 who) (now := [])
  simp only [h3, List.nil_append] at h
  obtain ⟨a, ha, rfl⟩ := List.mem_map.1 h
  exact ⟨a, List.mem_of_mem_take ha, rfl⟩
 ·cases h
theorem VI.setq (hI : VI S) (hq : QI q) (hm : ∀ a ∈ q.1 ++ q.2, 0 ≤ a.1 ∧ a.1 < S.c.length) : (∀ k, QI (setQ S.q key q k)) ∧ ∀ k, ∀ a ∈ (setQ S.q key q k).1 ++ (setQ S.q key q k).2, 0 ≤ a.1 ∧ a.1 < S.c.length := by
 refine ⟨fun k => ?_, fun k a ha => ?_⟩
 ·by_cases e : k = key
  ·subst e; rw [setQ_same]; exact hq
  ·rw [setQ_other e]; exact hI.qi k
 ·by_cases e : k = key
  ·subst e; rw [setQ_same] at ha; exact hm a ha
  ·rw [setQ_other e] at ha; exact hI.wh k a ha
theorem wakeC_mem {cs : List Cl} {now : List Int} (h : c ∈ wakeC cs now) : ∃ d ∈ cs, c = d ∨ c = { d with w := false } := by
 unfold wakeC at h
 induction now generalizing cs with
 | nil => exact ⟨c, h, .inl rfl⟩
 | cons w now ih =>
  obtain ⟨d, hd, h2⟩ := ih h
  obtain ⟨j, hj⟩ := List.getElem?_of_mem hd
  rw [List.getElem?_modify] at hj
  cases e : cs[j]? with
  | none => rw [e] at hj; cases hj
  | some x =>
   rw [e] at hj
   simp only [Option.map_eq_map, Option.map_some, Option.some.injEq] at hj
   refine ⟨x, List.mem_of_getElem? e, ?_⟩
   split at hj
   ·subst hj; rcases h2 with rfl | rfl <;> exact .inr rfl
   ·subst hj; exact h2
theorem VI.free (hI : VI S) : VI (freeV S i key) := by
 obtain ⟨h1, h2⟩ := hI.setq (key := key) (hI.qi key).free (fun a ha => hI.wh key a (free_mem (who := i) ha))
 refine ⟨h1, fun k a ha => ?_, fun c hc hs => ?_, fun c hc => ?_, ?_⟩
 ·simp only [freeV, wakeC_len]; exact h2 k a ha
 ·obtain ⟨d, hd, h | h⟩ := wakeC_mem hc
  ·subst h; exact hI.dd c hd hs
  ·subst h; exact hI.dd d hd hs
 ·obtain ⟨d, hd, h | h⟩ := wakeC_mem hc
  ·subst h; exact hI.st c hd
  ·subst h; exact hI.st d hd
 ·simp only [freeV, wakeC_len]; exact hI.le
theorem VI.endV (hI : VI S) : VI (endV S i c) := by
 unfold Go.Proofs.Ytebfjdolgchgaaa.endV
 split
 ·exact hI.free
 ·exact hI.free.free
theorem endV_len : (endV S i c).c.length = S.c.length := by
 unfold endV; split <;> simp only [freeV, wakeC_len]
theorem endV_o : (endV S i c).o = S.o ∧ (endV S i c).s = S.s ∧ (endV S i c).f = S.f ∧ (endV S i c).h = S.h := by
 unfold endV; split <;> exact ⟨rfl, rfl, rfl, rfl⟩
theorem set_mem {cs : List Cl} {d x : Cl} (h : x ∈ cs.set i d) : x ∈ cs ∨ x = d := by
 obtain ⟨j, hj⟩ := List.getElem?_of_mem h
 rw [List.getElem?_set] at hj
 split at hj
 ·split at hj
  ·exact .inr (by simpa using hj.symm)
  ·cases hj
 ·exact .inl (List.mem_of_getElem? hj)
theorem modify_mem {α : Type} {cs : List α} {f : α → α} {x : α} (h : x ∈ cs.modify i f) : x ∈ cs ∨ ∃ d ∈ cs, x = f d := by
 obtain ⟨j, hj⟩ := List.getElem?_of_mem h
 rw [List.getElem?_modify] at hj
 cases e : cs[j]? with
 | none => rw [e] at hj; cases hj
 | some y =>
  rw [e] at hj
  simp only [Option.map_eq_map, Option.map_some, Option.some.injEq] at hj
  split at hj
  ·exact .inr ⟨y, List.mem_of_getElem? e, hj.symm⟩
  ·subst hj; exact .inl (List.mem_of_getElem? e)
theorem VI.step (hI : VI S) (hc : S.c[i]? = some c) : VI (stepS S i c o) := by
 have hlt : i < S.c.length := (List.getElem?_eq_some_iff.1 hc).1
 have hm := List.mem_of_getElem? hc
 unfold stepS
 split
 ·rename_i h0
  obtain ⟨h1, h2⟩ := hI.setq (key := []) (hI.qi []).ask (fun a ha => by
   rcases ask_mem (who := i) (wr := chgO o) ha with h | h
   ·exact hI.wh [] a h
   ·subst h; exact ⟨by simp, by simp; omega⟩)
  refine ⟨h1, fun k a ha => ?_, fun d hd hs => ?_, fun d hd => ?_, ?_⟩
  ·simp only [beginS, List.length_set]; exact h2 k a ha
  ·rcases set_mem hd with h | h
   ·exact hI.dd d h hs
   ·subst h; cases hs
  ·rcases set_mem hd with h | h
   ·exact hI.st d h
   ·subst h; simp
  ·simp only [beginS, List.length_set]; exact hI.le
 ·split
  ·unfold askS
   split
   ·obtain ⟨h1, h2⟩ := hI.setq (key := 47 :: fileP S.h i o.h) (hI.qi _).ask (fun a ha => by
     rcases ask_mem (who := i) (wr := !decide (o.k = 2)) ha with h | h
     ·exact hI.wh _ a h
     ·subst h; exact ⟨by simp, by simp; omega⟩)
    refine ⟨h1, fun k a ha => ?_, fun d hd hs => ?_, fun d hd => ?_, ?_⟩
    ·simp only [List.length_set]; exact h2 k a ha
    ·rcases set_mem hd with h | h
     ·exact hI.dd d h hs
     ·subst h; cases hs
    ·rcases set_mem hd with h | h
     ·exact hI.st d h
     ·subst h; simp
    ·simp only [List.length_set]; exact hI.le
   ·refine ⟨hI.qi, fun k a ha => ?_, fun d hd hs => ?_, fun d hd => ?_, ?_⟩
    ·simp only [List.length_set]; exact hI.wh k a ha
    ·rcases set_mem hd with h | h
     ·exact hI.dd d h hs
     ·subst h; cases hs
    ·rcases set_mem hd with h | h
     ·exact hI.st d h
     ·subst h; simp
    ·simp only [List.length_set]; exact hI.le
  ·split
   ·refine ⟨hI.qi, fun k a ha => ?_, fun d hd hs => ?_, fun d hd => ?_, ?_⟩
    ·simp only [commitS, List.length_set]; exact hI.wh k a ha
    ·simp only [commitS, List.length_append, List.length_singleton]
     rcases set_mem hd with h | h
     ·have := hI.dd d h hs; omega
     ·subst h; simp
    ·rcases set_mem hd with h | h
     ·exact hI.st d h
     ·subst h; simp
    ·simp only [commitS, List.length_set]; exact hI.le
   ·have hE := hI.endV (i := i) (c := c)
    refine ⟨hE.qi, fun k a ha => ?_, fun d hd hs => ?_, fun d hd => ?_, ?_⟩
    ·simp only [endS, List.length_modify]; exact hE.wh k a ha
    ·simp only [endS, List.length_modify]
     rcases modify_mem hd with h | ⟨x, hx, h⟩
     ·have := hE.dd d h hs; rwa [endV_o.1] at this
     ·subst h; cases hs
    ·rcases modify_mem hd with h | ⟨x, hx, h⟩
     ·exact hE.st d h
     ·subst h; simp
    ·simp only [endS, List.length_modify]; exact hE.le
theorem VI.new {f : List Raw} {h : HF} {ls : List (List OpS)} (hl : ls.length ≤ 8) : VI (newV f h ls) := by
 refine ⟨fun _ => QI.nil, fun _ a ha => ?_, fun c hc hs => ?_, fun c hc => ?_, ?_⟩
 ·cases ha
 ·obtain ⟨l, _, rfl⟩ := List.mem_map.1 hc; cases hs
 ·obtain ⟨l, _, rfl⟩ := List.mem_map.1 hc; exact Nat.zero_le _
 ·simp only [newV, List.length_map]; exact hl
end
end Go.Proofs.Ytebfjdolgchgaaa

namespace Go.Proofs.Ytebfjdolgchgaaa
open Go Go.Fw Go.RowKit
set_option linter.unusedVariables false
set_option linter.unusedSimpArgs false

def chgC (c : Cl) : Bool := match c.l with | o :: _ => chgO o | [] => false
def rwC (c : Cl) : Bool := match c.l with | o :: _ => !decide (o.k = 2) | [] => false
/-- What a client has of a key: to write? does it hold it? -/
def statC (c : Cl) (key : List UInt8) : Option (Bool × Bool) :=
 if key = [] then (if c.st = 0 then none else some (chgC c, !(decide (c.st = 1) && c.w)))
 else if 2 ≤ c.st ∧ c.key = key then some (rwC c, !(decide (c.st = 2) && c.w)) else none
/-- A key's queues are as a client's state says. -/
def MemC (q : List Qa × List Qa) (j : Nat) (s : Option (Bool × Bool)) : Prop := ∀ wr, (((j : Int), wr) ∈ q.1 ↔ s = some (wr, true)) ∧ (((j : Int), wr) ∈ q.2 ↔ s = some (wr, false))
structure CI (c : Cl) : Prop where
 le : c.st ≤ 3
 l0 : 1 ≤ c.st → c.l ≠ []
 w1 : c.w = true → c.st = 1 ∨ (c.st = 2 ∧ c.key ≠ [])
 kl : 2 ≤ c.st → c.key ≠ [] → chgC c = false
structure SI (S : VS) : Prop where
 ci : ∀ c ∈ S.c, CI c
 me : ∀ key j c, S.c[j]? = some c → MemC (S.q key) j (statC c key)
section
variable {S : VS} {i j : Nat} {c d : Cl} {o : OpS} {key key' : List UInt8} {q : List Qa × List Qa} {who : Int} {wr : Bool} {s : Option (Bool × Bool)}
theorem MemC.no (h : MemC q j none) : hasQ q.1 j = false ∧ hasQ q.2 j = false := by
 refine ⟨hasQ_no.2 fun a ha e => ?_, hasQ_no.2 fun a ha e => ?_⟩
 ·obtain ⟨x, y⟩ := a; simp only at e; subst e; have := (h y).1.1 ha; cases this
 ·obtain ⟨x, y⟩ := a; simp only at e; subst e; have := (h y).2.1 ha; cases this
theorem MemC.ask (h : MemC q j s) (hj : j ≠ i) : MemC (askQ q (i : Int) wr).1 j s := by
 have hne : ∀ wr', (((j : Int), wr') : Qa) ≠ ((i : Int), wr) := fun wr' e => hj (by have := congrArg Prod.fst e; simp only at this; omega)
 unfold askQ
 split
 ·exact h
 ·split
  ·intro wr'; simp only [List.mem_append, List.mem_singleton, hne wr', or_false]; exact h wr'
  ·intro wr'; simp only [List.mem_append, List.mem_singleton, hne wr', or_false]; exact h wr'
theorem MemC.asked (h : MemC q i none) : MemC (askQ q (i : Int) wr).1 i (some (wr, (askQ q (i : Int) wr).2.1)) := by
 obtain ⟨h1, h2⟩ := h.no
 have hn := hasQ_no.1 h1
 have hn2 := hasQ_no.1 h2
 unfold askQ
 rw [if_neg (by rw [h1, h2]; decide)]
 split
 ·intro wr'
  refine ⟨?_, ?_⟩
  ·simp only [List.mem_append, List.mem_singleton, Prod.mk.injEq, true_and, Option.some.injEq]
   refine ⟨fun h => ?_, fun h => .inr (by rw [h.1])⟩
   rcases h with h | h
   ·exact absurd rfl (hn _ h)
   ·exact ⟨h.symm, trivial⟩
  ·simp only [Option.some.injEq, Prod.mk.injEq]
   exact ⟨fun h => absurd rfl (hn2 _ h), fun h => by cases h.2⟩
 ·intro wr'
  refine ⟨?_, ?_⟩
  ·simp only [Option.some.injEq, Prod.mk.injEq]
   exact ⟨fun h => absurd rfl (hn _ h), fun h => by cases h.2⟩
  ·simp only [List.mem_append, List.mem_singleton, Prod.mk.injEq, true_and, Option.some.injEq]
   refine ⟨fun h => ?_, fun h => .inr (by rw [h.1])⟩
   rcases h with h | h
   ·exact absurd rfl (hn2 _ h)
   ·exact ⟨h.symm, trivial⟩
/-- A key is freed: who else holds it then, and who is told. -/
theorem free_me (hq : QI q) (h : MemC q j s) (hj : j ≠ i) : ((j : Int) ∈ (freeQ q (i : Int)).2.1 ∧ ∃ wr, s = some (wr, false) ∧ MemC (freeQ q (i : Int)).1 j (some (wr, true))) ∨ ((j : Int) ∉ (freeQ q (i : Int)).2.1 ∧ MemC (freeQ q (i : Int)).1 j s) := by
 unfold freeQ
 split
 ·obtain ⟨m, h1, h2, h3⟩ := grant_all (w := q.2) (h := dropQ q.1 i) (now := [])
  simp only [h1, h2, h3, List.nil_append]
  have hd : ∀ wr', (((j : Int), wr') ∈ dropQ q.1 (i : Int) ↔ ((j : Int), wr') ∈ q.1) := fun wr' => by
   unfold dropQ; rw [List.mem_filter]
   refine ⟨fun h => h.1, fun h => ⟨h, ?_⟩⟩
   have : ¬ (j : Int) = i := fun e => hj (by omega)
   simp [this]
  have hnd := hq.one
  rw [List.map_append, List.nodup_append] at hnd
  obtain ⟨n1, n2, n3⟩ := hnd
  by_cases hin : (j : Int) ∈ (q.2.take m).map (·.1)
  ·refine .inl ⟨hin, ?_⟩
   obtain ⟨a, ha, e⟩ := List.mem_map.1 hin
   obtain ⟨x, y⟩ := a
   simp only at e
   subst e
   have hin2 := List.mem_of_mem_take ha
   refine ⟨y, (h y).2.1 hin2, fun wr' => ⟨?_, ?_⟩⟩
   ·simp only [List.mem_append, hd, Option.some.injEq, Prod.mk.injEq, and_true]
    refine ⟨fun h' => ?_, fun h' => by subst h'; exact .inr ha⟩
    rcases h' with h' | h'
    ·exact absurd rfl (n3 _ (List.mem_map.2 ⟨_, h', rfl⟩) _ (List.mem_map.2 ⟨_, hin2, rfl⟩))
    ·have e1 := (h wr').2.1 (List.mem_of_mem_take h')
     rw [(h y).2.1 hin2] at e1
     cases e1; rfl
   ·simp only [Option.some.injEq, Prod.mk.injEq, Bool.true_eq_false, and_false, iff_false]
    intro h'
    have hs := List.take_append_drop m q.2
    rw [← hs, List.map_append, List.nodup_append] at n2
    exact absurd rfl (n2.2.2 _ hin _ (List.mem_map.2 ⟨_, h', rfl⟩))
  ·refine .inr ⟨hin, fun wr' => ⟨?_, ?_⟩⟩
   ·simp only [List.mem_append, hd]
    refine ⟨fun h' => ?_, fun h' => .inl ((h wr').1.2 h')⟩
    rcases h' with h' | h'
    ·exact (h wr').1.1 h'
    ·exact absurd (List.mem_map.2 ⟨_, h', rfl⟩) hin
   ·refine ⟨fun h' => (h wr').2.1 (List.mem_of_mem_drop h'), fun h' => ?_⟩
    have := (h wr').2.2 h'
    rw [← List.take_append_drop m q.2] at this
    rcases List.mem_append.1 this with h' | h'
    ·exact absurd (List.mem_map.2 ⟨_, h', rfl⟩) hin
    ·exact h'
 ·exact .inr ⟨by simp, h⟩
theorem free_i (hq : QI q) (h : ∃ wr, ((i : Int), wr) ∈ q.1) : MemC (freeQ q (i : Int)).1 i none := by
 obtain ⟨wr, h⟩ := h
 have hh : hasQ q.1 i = true := hasQ_iff.2 ⟨_, h, rfl⟩
 unfold freeQ
 rw [if_pos hh]
 obtain ⟨m, h1, h2, h3⟩ := grant_all (w := q.2) (h := dropQ q.1 i) (now := [])
 simp only [h1, h2]
 have hnd := hq.one
 rw [List.map_append, List.nodup_append] at hnd
 obtain ⟨n1, n2, n3⟩ := hnd
 have hno : ∀ wr', ((i : Int), wr') ∉ q.2 := fun wr' h' => absurd rfl (n3 _ (List.mem_map.2 ⟨_, h, rfl⟩) _ (List.mem_map.2 ⟨_, h', rfl⟩))
 intro wr'
 refine ⟨⟨fun h' => ?_, fun h' => by cases h'⟩, ⟨fun h' => ?_, fun h' => by cases h'⟩⟩
 ·rcases List.mem_append.1 h' with h' | h'
  ·unfold dropQ at h'; have := (List.mem_filter.1 h').2; simp at this
  ·exact absurd (List.mem_of_mem_take h') (hno wr')
 ·exact absurd (List.mem_of_mem_drop h') (hno wr')
theorem wakeC_get {now : List Int} (hn : ∀ w ∈ now, 0 ≤ w) : ∀ {cs : List Cl}, (wakeC cs now)[j]? = (cs[j]?).map fun c => if (j : Int) ∈ now then { c with w := false } else c := by
 induction now with
 | nil => intro cs; show cs[j]? = _; cases cs[j]? <;> rfl
 | cons w now ih =>
  intro cs
  show (wakeC (cs.modify w.toNat fun c => { c with w := false }) now)[j]? = _
  rw [ih (fun w h => hn w (by simp [h])), List.getElem?_modify]
  have h0 := hn w (by simp)
  cases cs[j]? with
  | none => rfl
  | some c =>
   simp only [Option.map_eq_map, Option.map_some, Option.some.injEq, List.mem_cons]
   by_cases e : w.toNat = j
   ·have e2 : (j : Int) = w := by omega
    simp only [e, e2, if_true, true_or]
    split <;> rfl
   ·have e2 : ¬ (j : Int) = w := by omega
    simp only [e, e2, if_false, false_or]
theorem stat_wake (hc : CI c) (hs : statC c key = some (wr, false)) : CI { c with w := false } ∧ statC { c with w := false } key = some (wr, true) ∧ ∀ k, k ≠ key → statC { c with w := false } k = statC c k := by
 refine ⟨⟨hc.le, hc.l0, fun h => (by cases h), hc.kl⟩, ?_, fun k hk => ?_⟩
 ·unfold statC at hs ⊢
  split at hs
  ·rename_i e
   rw [if_pos e]
   split at hs
   ·cases hs
   ·rename_i e2
    rw [if_neg e2]
    simp only [Option.some.injEq, Prod.mk.injEq] at hs
    simp only [Bool.and_false, Bool.not_false, Option.some.injEq, Prod.mk.injEq, and_true]
    exact hs.1
  ·rename_i e
   rw [if_neg e]
   split at hs
   ·rename_i e2
    rw [if_pos e2]
    simp only [Option.some.injEq, Prod.mk.injEq] at hs
    simp only [Bool.and_false, Bool.not_false, Option.some.injEq, Prod.mk.injEq, and_true]
    exact hs.1
   ·cases hs
 ·unfold statC at hs ⊢
  split at hs
  ·rename_i e
   subst e
   rw [if_neg hk, if_neg hk]
   split at hs
   ·cases hs
   ·simp only [Option.some.injEq, Prod.mk.injEq, Bool.not_eq_false', Bool.and_eq_true, decide_eq_true_eq] at hs
    rw [if_neg (by simp only [hs.2.1]; omega), if_neg (by simp only [hs.2.1]; omega)]
  ·rename_i e
   split at hs
   ·rename_i e2
    simp only [Option.some.injEq, Prod.mk.injEq, Bool.not_eq_false', Bool.and_eq_true, decide_eq_true_eq] at hs
    by_cases h0 : k = []
    ·subst h0
     simp only [if_true, hs.2.1, hs.2.2]
     simp [chgC]
    ·rw [if_neg h0, if_neg h0, if_neg (fun h => hk (h.2.symm.trans e2.2)), if_neg (fun h => hk (h.2.symm.trans e2.2))]
   ·cases hs
/-- A key is freed: the others' states are as the queues say. -/
theorem SI.freed (hV : VI S) (hci : ∀ c ∈ S.c, CI c) (hme : ∀ k j c, j ≠ i → S.c[j]? = some c → MemC (S.q k) j (statC c k)) :
  (∀ c ∈ (freeV S i key).c, CI c) ∧ (∀ k j c, j ≠ i → (freeV S i key).c[j]? = some c → MemC ((freeV S i key).q k) j (statC c k)) ∧ (∀ k, k ≠ key → (freeV S i key).q k = S.q k) := by
 have hnow : ∀ w ∈ (freeQ (S.q key) (i : Int)).2.1, 0 ≤ w := fun w hw => by
  obtain ⟨a, ha, rfl⟩ := free_now hw
  exact (hV.wh key a (List.mem_append_right _ ha)).1
 have hk : ∀ k, k ≠ key → (freeV S i key).q k = S.q k := fun k hk => setQ_other hk
 refine ⟨fun d hd => ?_, fun k j d hj hd => ?_, hk⟩
 ·obtain ⟨x, hx, h | h⟩ := wakeC_mem hd
  ·subst h; exact hci d hx
  ·subst h; have := hci x hx; exact ⟨this.le, this.l0, fun h => (by cases h), this.kl⟩
 ·simp only [freeV] at hd
  rw [wakeC_get hnow] at hd
  cases e : S.c[j]? with
  | none => rw [e] at hd; cases hd
  | some x =>
   rw [e] at hd
   simp only [Option.map_some, Option.some.injEq] at hd
   have hx := hme key j x hj e
   rcases free_me (hV.qi key) hx hj with ⟨h1, wr, h2, h3⟩ | ⟨h1, h2⟩
   ·rw [if_pos h1] at hd
    obtain ⟨_, g2, g3⟩ := stat_wake (hci x (List.mem_of_getElem? e)) h2
    subst hd
    by_cases ek : k = key
    ·subst ek; rw [g2]; simp only [freeV, setQ_same]; exact h3
    ·rw [hk k ek, g3 k ek]; exact hme k j x hj e
   ·rw [if_neg h1] at hd
    subst hd
    by_cases ek : k = key
    ·subst ek; simp only [freeV, setQ_same]; exact h2
    ·rw [hk k ek]; exact hme k j x hj e
theorem SI.new {f : List Raw} {h : HF} {ls : List (List OpS)} : SI (newV f h ls) := by
 refine ⟨fun c hc => ?_, fun key j c hc => ?_⟩
 ·obtain ⟨l, _, rfl⟩ := List.mem_map.1 hc
  exact ⟨Nat.zero_le _, fun h => (by cases h), fun h => (by cases h), fun h => absurd h (by simp)⟩
 ·obtain ⟨l, _, rfl⟩ := List.mem_map.1 (List.mem_of_getElem? hc)
  have : statC (⟨l, 0, 0, 0, 0, [], false⟩ : Cl) key = none := by unfold statC; simp
  rw [this]
  intro wr
  exact ⟨⟨fun h => (by cases h), fun h => (by cases h)⟩, ⟨fun h => (by cases h), fun h => (by cases h)⟩⟩
end
end Go.Proofs.Ytebfjdolgchgaaa

namespace Go.Proofs.Ytebfjdolgchgaaa
open Go Go.Fw Go.RowKit
set_option linter.unusedVariables false
set_option linter.unusedSimpArgs false

section
variable {S : VS} {i j : Nat} {c d : Cl} {o : OpS} {r : List OpS} {key key' : List UInt8}
theorem lock_chg (h : lockO o = true) : chgO o = false := by
 unfold lockO at h; rw [decide_eq_true_eq] at h
 unfold chgO
 rw [decide_eq_false (by omega), decide_eq_false (by omega)]; rfl
theorem get_set {cs : List Cl} (hi : i < cs.length) (h : (cs.set i d)[j]? = some c) : (j = i ∧ c = d) ∨ (j ≠ i ∧ cs[j]? = some c) := by
 rw [List.getElem?_set] at h
 by_cases e : i = j
 ·subst e
  simp only [if_true, hi, Option.some.injEq] at h
  exact .inl ⟨rfl, h.symm⟩
 ·rw [if_neg e] at h; exact .inr ⟨fun e2 => e e2.symm, h⟩
theorem freeV_get {k : Nat} {y : Cl} (hV : VI S) (h : (freeV S k key).c[j]? = some y) : ∃ x, S.c[j]? = some x ∧ (y = x ∨ y = { x with w := false }) := by
 have hnow : ∀ w ∈ (freeQ (S.q key) (k : Int)).2.1, 0 ≤ w := fun w hw => by
  obtain ⟨a, ha, rfl⟩ := free_now hw
  exact (hV.wh key a (List.mem_append_right _ ha)).1
 simp only [freeV] at h
 rw [wakeC_get hnow] at h
 cases e : S.c[j]? with
 | none => rw [e] at h; cases h
 | some x =>
  rw [e] at h
  simp only [Option.map_some, Option.some.injEq] at h
  refine ⟨x, rfl, ?_⟩
  split at h
  ·exact .inr h.symm
  ·exact .inl h.symm
theorem endV_get {k : Nat} {y : Cl} (hV : VI S) (h : (endV S k c).c[j]? = some y) : ∃ x, S.c[j]? = some x ∧ (y = x ∨ y = { x with w := false }) := by
 unfold endV at h
 split at h
 ·exact freeV_get hV h
 ·obtain ⟨x, h1, h2⟩ := freeV_get hV.free h
  obtain ⟨z, h3, h4⟩ := freeV_get hV h1
  refine ⟨z, h3, ?_⟩
  rcases h2 with rfl | rfl <;> rcases h4 with rfl | rfl <;> first | exact .inl rfl | exact .inr rfl
theorem SI.one (hS : SI S) (hi : i < S.c.length) {S' : VS} (hc' : S'.c = S.c.set i d) (hd : CI d) (hm : ∀ key, MemC (S'.q key) i (statC d key)) (ho : ∀ key j c, j ≠ i → S.c[j]? = some c → MemC (S'.q key) j (statC c key)) : SI S' := by
 refine ⟨fun x hx => ?_, fun key j x hx => ?_⟩
 ·rw [hc'] at hx
  rcases set_mem hx with h | h
  ·exact hS.ci x h
  ·subst h; exact hd
 ·rw [hc'] at hx
  rcases get_set hi hx with ⟨rfl, rfl⟩ | ⟨hj, h⟩
  ·exact hm key
  ·exact ho key j x hj h
theorem SI.step (hV : VI S) (hS : SI S) (hc : S.c[i]? = some c) (hl : c.l = o :: r) (hw : c.w = false) : SI (stepS S i c o) := by
 have hi : i < S.c.length := (List.getElem?_eq_some_iff.1 hc).1
 have hm := List.mem_of_getElem? hc
 have hC := hS.ci c hm
 have hle := hC.le
 have hchg : chgC c = chgO o := by unfold chgC; rw [hl]
 have hrw : rwC c = !decide (o.k = 2) := by unfold rwC; rw [hl]
 unfold stepS
 split
 ·rename_i h0
  have hno : ∀ k, statC c k = none := fun k => by unfold statC; simp [h0]
  have ha := MemC.asked (wr := chgO o) (by have := hS.me [] i c hc; rwa [hno] at this)
  refine hS.one hi rfl ⟨by simp, fun _ => by simp only; rw [hl]; simp, fun _ => .inl rfl, fun h => absurd h (by simp)⟩ (fun key => ?_) (fun key j x hj hx => ?_)
  ·by_cases e : key = []
   ·subst e
    have : statC { c with bg := S.s, w := !(askQ (S.q []) i (chgO o)).2.1, st := 1 } [] = some (chgO o, (askQ (S.q []) i (chgO o)).2.1) := by
     unfold statC; simp [chgC, hl]
    rw [this]
    simp only [beginS, setQ_same]
    exact ha
   ·have : statC { c with bg := S.s, w := !(askQ (S.q []) i (chgO o)).2.1, st := 1 } key = none := by unfold statC; simp [e]
    rw [this]
    simp only [beginS, setQ_other e]
    have := hS.me key i c hc
    rwa [hno] at this
  ·have h1 := hS.me key j x hx
   by_cases e : key = []
   ·subst e; simp only [beginS, setQ_same]; exact h1.ask hj
   ·simp only [beginS, setQ_other e]; exact h1
 ·rename_i h0
  have htree : statC c [] = some (chgO o, !(decide (c.st = 1) && c.w)) := by unfold statC; rw [if_pos rfl, if_neg h0, hchg]
  split
  ·rename_i h1
   have hno : ∀ k, k ≠ [] → statC c k = none := fun k hk => by unfold statC; rw [if_neg hk, if_neg (by omega)]
   rw [hw] at htree
   simp only [Bool.and_false, Bool.not_false] at htree
   unfold askS
   split
   ·rename_i hlk
    have hkey : (47 :: fileP S.h i o.h) ≠ [] := by simp
    generalize hK : 47 :: fileP S.h i o.h = K at hkey ⊢
    have ha := MemC.asked (wr := !decide (o.k = 2)) (by have := hS.me K i c hc; rwa [hno _ hkey] at this)
    refine hS.one hi rfl ⟨by simp, fun _ => by simp only; rw [hl]; simp, fun _ => .inr ⟨rfl, hkey⟩, fun _ _ => ?_⟩ (fun key => ?_) (fun key j x hj hx => ?_)
    ·unfold chgC; simp only; rw [hl]; exact lock_chg hlk
    ·by_cases e : key = K
     ·subst e
      have : statC { c with key := key, w := !(askQ (S.q key) i (!decide (o.k = 2))).2.1, st := 2 } key = some (!decide (o.k = 2), (askQ (S.q key) i (!decide (o.k = 2))).2.1) := by
       unfold statC; simp [rwC, hl, hkey]
      rw [this]
      simp only [setQ_same]
      exact ha
     ·by_cases e0 : key = []
      ·subst e0
       have : statC { c with key := K, w := !(askQ (S.q K) i (!decide (o.k = 2))).2.1, st := 2 } [] = some (chgO o, true) := by unfold statC; simp [chgC, hl]
       rw [this, ← htree]
       simp only [setQ_other e]
       exact hS.me [] i c hc
      ·have : statC { c with key := K, w := !(askQ (S.q K) i (!decide (o.k = 2))).2.1, st := 2 } key = none := by
        unfold statC; rw [if_neg e0, if_neg (fun h => e h.2.symm)]
       rw [this]
       simp only [setQ_other e]
       have := hS.me key i c hc
       rwa [hno _ e0] at this
    ·have h2 := hS.me key j x hx
     by_cases e : key = K
     ·subst e; simp only [setQ_same]; exact h2.ask hj
     ·simp only [setQ_other e]; exact h2
   ·refine hS.one hi rfl ⟨by simp, fun _ => by simp only; rw [hl]; simp, fun h => (by simp only at h; rw [hw] at h; cases h), fun _ h => absurd rfl h⟩ (fun key => ?_) (fun key j x hj hx => hS.me key j x hx)
    by_cases e0 : key = []
    ·subst e0
     have : statC { c with key := [], st := 2 } [] = some (chgO o, true) := by unfold statC; simp [chgC, hl]
     rw [this, ← htree]
     exact hS.me [] i c hc
    ·have : statC { c with key := [], st := 2 } key = none := by unfold statC; rw [if_neg e0, if_neg (fun h => e0 h.2.symm)]
     rw [this]
     have := hS.me key i c hc
     rwa [hno _ e0] at this
  ·rename_i h1
   split
   ·rename_i h2
    refine hS.one hi rfl ⟨by simp, fun _ => by simp only; rw [hl]; simp, fun h => (by simp only at h; rw [hw] at h; cases h), fun _ h => ?_⟩ (fun key => ?_) (fun key j x hj hx => hS.me key j x hx)
    ·exact hC.kl (by omega) h
    ·have : statC { c with dd := S.o.length, st := 3 } key = statC c key := by
      unfold statC
      simp [h2, chgC, rwC, hw]
     rw [this]
     exact hS.me key i c hc
   ·have h3 : c.st = 3 := by omega
    have hcur : ∀ S' : VS, (∀ k, k ≠ [] → k ≠ c.key → MemC (S'.q k) i none) → True := fun _ _ => trivial
    have hh0 : ∃ wr, ((i : Int), wr) ∈ (S.q []).1 := ⟨chgC c, ((hS.me [] i c hc) _).1.2 (by unfold statC; simp [h3])⟩
    have hother : ∀ k, k ≠ [] → k ≠ c.key → MemC (S.q k) i none := fun k e1 e2 => by
     have := hS.me k i c hc
     have e : statC c k = none := by unfold statC; rw [if_neg e1, if_neg (fun h => e2 h.2.symm)]
     rwa [e] at this
    have key1 : (∀ x ∈ (endV S i c).c, CI x) ∧ (∀ k j x, j ≠ i → (endV S i c).c[j]? = some x → MemC ((endV S i c).q k) j (statC x k)) ∧ ∀ k, MemC ((endV S i c).q k) i none := by
     unfold endV
     split
     ·rename_i e
      obtain ⟨g1, g2, g3⟩ := SI.freed (i := i) (key := []) hV hS.ci (fun k j x _ hx => hS.me k j x hx)
      refine ⟨g1, g2, fun k => ?_⟩
      by_cases e0 : k = []
      ·subst e0; simp only [freeV, setQ_same]; exact free_i (hV.qi []) hh0
      ·rw [g3 k e0]; exact hother k e0 (by rw [e]; exact e0)
     ·rename_i e
      obtain ⟨g1, g2, g3⟩ := SI.freed (i := i) (key := c.key) hV hS.ci (fun k j x _ hx => hS.me k j x hx)
      have hV2 : VI (freeV S i c.key) := hV.free
      obtain ⟨f1, f2, f3⟩ := SI.freed (i := i) (key := []) hV2 g1 g2
      refine ⟨f1, f2, fun k => ?_⟩
      have hk0 : (freeV S i c.key).q [] = S.q [] := g3 [] (fun h => e h.symm)
      by_cases e0 : k = []
      ·subst e0
       have : (freeV (freeV S i c.key) i []).q [] = (freeQ ((freeV S i c.key).q []) i).1 := by
        show setQ (freeV S i c.key).q [] (freeQ ((freeV S i c.key).q []) ↑i).1 [] = _
        exact setQ_same
       rw [this]
       exact free_i (hV2.qi []) (by rw [hk0]; exact hh0)
      ·rw [f3 k e0]
       by_cases e1 : k = c.key
       ·subst e1
        simp only [freeV, setQ_same]
        exact free_i (hV.qi _) ⟨rwC c, ((hS.me c.key i c hc) _).1.2 (by unfold statC; rw [if_neg e, if_pos ⟨by omega, rfl⟩]; simp [h3])⟩
       ·rw [g3 k e1]; exact hother k e0 e1
    obtain ⟨g1, g2, g3⟩ := key1
    refine ⟨fun x hx => ?_, fun k j x hx => ?_⟩
    ·obtain ⟨j, hj⟩ := List.getElem?_of_mem hx
     simp only [endS] at hj
     rw [List.getElem?_modify] at hj
     cases e : (endV S i c).c[j]? with
     | none => rw [e] at hj; cases hj
     | some y =>
      rw [e] at hj
      simp only [Option.map_eq_map, Option.map_some, Option.some.injEq] at hj
      by_cases ej : i = j
      ·subst ej
       rw [if_pos rfl] at hj
       subst hj
       obtain ⟨z, hz, h⟩ := endV_get hV e
       rw [hc] at hz
       cases hz
       refine ⟨Nat.zero_le _, fun h => (by cases h), fun h2 => ?_, fun h => absurd h (by simp)⟩
       rcases h with h | h <;> subst h <;> simp only at h2
       ·rw [hw] at h2; cases h2
       ·cases h2
      ·rw [if_neg ej] at hj
       subst hj
       exact g1 _ (List.mem_of_getElem? e)
    ·simp only [endS] at hx ⊢
     rw [List.getElem?_modify] at hx
     cases e : (endV S i c).c[j]? with
     | none => rw [e] at hx; cases hx
     | some y =>
      rw [e] at hx
      simp only [Option.map_eq_map, Option.map_some, Option.some.injEq] at hx
      by_cases ej : i = j
      ·subst ej
       rw [if_pos rfl] at hx
       subst hx
       have : statC { y with l := c.l.drop 1, n := c.n + 1, st := 0 } k = none := by unfold statC; simp
       rw [this]; exact g3 k
      ·rw [if_neg ej] at hx
       subst hx
       exact g2 k j y (fun e => ej e.symm) e
end
end Go.Proofs.Ytebfjdolgchgaaa

namespace Go.Proofs.Ytebfjdolgchgaaa
open Go Go.Fw Go.RowKit
set_option linter.unusedVariables false
set_option linter.unusedSimpArgs false

def isW (j : Nat) (d : Dd) : Bool := decide (d.who = (j : Int))
def cntO (o : List Dd) (j : Nat) : Nat := o.countP (isW j)
/-- What was done, done again one after the other. -/
def playO (ls : List (List OpS)) : List Raw → HF → List Dd → Prop × List Raw × HF
 | f, h, [] => (True, f, h)
 | f, h, d :: o => match (ls[d.who.toNat]?).bind (·[d.n]?) with
  | none => (False, f, h)
  | some p => (d.r = (doS f h d.who p).1 ∧ (playO ls (doS f h d.who p).2.1 (doS f h d.who p).2.2 o).1, (playO ls (doS f h d.who p).2.1 (doS f h d.who p).2.2 o).2)
def wtC (c : Cl) : Nat := 4 * c.n + c.st
def cnC (c : Cl) : Nat := c.n + (if c.st = 3 then 1 else 0)
def totS (cs : List Cl) : Nat := (cs.map wtC).sum

structure OI (ls : List (List OpS)) (f0 : List Raw) (h0 : HF) (S : VS) : Prop where
 len : S.c.length = ls.length
 lst : ∀ (j : Nat) (c : Cl), S.c[j]? = some c → ∃ l0, ls[j]? = some l0 ∧ c.l = l0.drop c.n ∧ c.n ≤ l0.length
 seq : ∀ (t : Nat) (d : Dd), S.o[t]? = some d → ∃ j l0, d.who = (j : Nat) ∧ ls[j]? = some l0 ∧ d.n = cntO (S.o.take t) j ∧ d.n < l0.length
 cnt : ∀ (j : Nat) (c : Cl), S.c[j]? = some c → cntO S.o j = c.n + (if c.st = 3 then 1 else 0)
 tim : ∀ d ∈ S.o, d.bg < S.s ∧ (d.en = -1 ∨ (d.bg : Int) < d.en)
 cbg : ∀ c ∈ S.c, 1 ≤ c.st → c.bg < S.s
 ord : ∀ (t t' : Nat) (d d' : Dd), t' < t → S.o[t]? = some d → S.o[t']? = some d' → d.en = -1 ∨ (d'.bg : Int) ≤ d.en
 dd : ∀ (j : Nat) (c : Cl), S.c[j]? = some c → c.st = 3 → ∃ d, S.o[c.dd]? = some d ∧ d.who = (j : Int) ∧ d.n = c.n ∧ d.en = -1
 en : ∀ (t : Nat) (d : Dd), S.o[t]? = some d → (d.en = -1 ∧ ∃ (j : Nat) (c : Cl), d.who = (j : Int) ∧ S.c[j]? = some c ∧ c.st = 3 ∧ c.dd = t) ∨ 0 ≤ d.en
 pl : (playO ls f0 h0 S.o).1 ∧ (playO ls f0 h0 S.o).2 = (S.f, S.h)
 sum : S.s = totS S.c
 ol : S.o.length = (S.c.map cnC).sum

section
variable {S : VS} {i j t : Nat} {c d : Cl} {x : Dd} {o : List Dd} {p : OpS} {r : List OpS} {ls : List (List OpS)} {f0 : List Raw} {h0 : HF}
theorem cntO_snoc : cntO (o ++ [x]) j = cntO o j + (if x.who = (j : Int) then 1 else 0) := by
 unfold cntO isW; rw [List.countP_append]; simp [List.countP_cons]
theorem isW_mod {f : Dd → Dd} (hf : ∀ d, (f d).who = d.who) : ∀ {o : List Dd} {t : Nat}, cntO (o.modify t f) j = cntO o j
 | [], t => by simp [cntO]
 | a :: o, 0 => by simp [cntO, isW, List.countP_cons, hf]
 | a :: o, t + 1 => by
  have := isW_mod hf (o := o) (t := t)
  unfold cntO at this ⊢
  rw [List.modify_succ_cons, List.countP_cons, List.countP_cons, this]
theorem take_mod {f : Dd → Dd} : ∀ {o : List Dd} {t n : Nat}, (o.modify t f).take n = (o.take n).modify t f
 | [], t, n => by simp
 | a :: o, 0, 0 => by simp
 | a :: o, 0, n + 1 => by simp
 | a :: o, t + 1, 0 => by simp
 | a :: o, t + 1, n + 1 => by simp only [List.modify_succ_cons, List.take_succ_cons]; rw [take_mod]
theorem play_snoc : ∀ {o : List Dd} {f : List Raw} {h : HF}, (playO ls f h o).1 → (ls[x.who.toNat]?).bind (·[x.n]?) = some p → x.r = (doS (playO ls f h o).2.1 (playO ls f h o).2.2 x.who p).1 →
  (playO ls f h (o ++ [x])).1 ∧ (playO ls f h (o ++ [x])).2 = (doS (playO ls f h o).2.1 (playO ls f h o).2.2 x.who p).2
 | [], f, h, h1, h2, h3 => by
  simp only [List.nil_append, playO] at h3 ⊢
  rw [h2]
  exact ⟨⟨h3, trivial⟩, rfl⟩
 | a :: o, f, h, h1, h2, h3 => by
  simp only [List.cons_append, playO] at h1 h3 ⊢
  cases e : (ls[a.who.toNat]?).bind (·[a.n]?) with
  | none => rw [e] at h1; exact h1.elim
  | some q =>
   rw [e] at h1 h3
   simp only at h1 h3 ⊢
   obtain ⟨g1, g2⟩ := play_snoc (o := o) h1.2 h2 h3
   exact ⟨⟨h1.1, g1⟩, g2⟩
theorem play_mod {g : Dd → Dd} (hw : ∀ d, (g d).who = d.who) (hn : ∀ d, (g d).n = d.n) (hr : ∀ d, (g d).r = d.r) : ∀ {o : List Dd} {f : List Raw} {h : HF} {t : Nat}, playO ls f h (o.modify t g) = playO ls f h o
 | [], f, h, t => by simp
 | a :: o, f, h, 0 => by simp only [List.modify_zero_cons, playO, hw, hn, hr]
 | a :: o, f, h, t + 1 => by
  simp only [List.modify_succ_cons, playO]
  cases (ls[a.who.toNat]?).bind (·[a.n]?) with
  | none => rfl
  | some q => simp only; rw [play_mod hw hn hr]
theorem map_mod {α β : Type} {g : α → β} {f : α → α} (h : ∀ a, g (f a) = g a) : ∀ {l : List α} {t : Nat}, (l.modify t f).map g = l.map g
 | [], t => by simp
 | a :: l, 0 => by simp [h]
 | a :: l, t + 1 => by simp only [List.modify_succ_cons, List.map_cons]; rw [map_mod h]
theorem wake_map {β : Type} {g : Cl → β} (h : ∀ a : Cl, g { a with w := false } = g a) : ∀ {now : List Int} {cs : List Cl}, (wakeC cs now).map g = cs.map g
 | [], cs => rfl
 | w :: now, cs => by
  show (wakeC (cs.modify w.toNat fun c => { c with w := false }) now).map g = _
  rw [wake_map h, map_mod h]
theorem endV_map {β : Type} {g : Cl → β} (h : ∀ a : Cl, g { a with w := false } = g a) : (endV S i c).c.map g = S.c.map g := by
 unfold endV
 split <;> simp only [freeV, wake_map h]
theorem sumg_set {g : Cl → Nat} {cs : List Cl} : ∀ {i : Nat}, cs[i]? = some c → ((cs.set i d).map g).sum + g c = (cs.map g).sum + g d := by
 induction cs with
 | nil => intro i h; simp at h
 | cons a cs ih =>
  intro i h
  cases i with
  | zero => simp at h; subst h; simp; omega
  | succ i =>
   have := ih (i := i) (by simpa using h)
   simp only [List.set_cons_succ, List.map_cons, List.sum_cons] at this ⊢
   omega
theorem sum_set {cs : List Cl} {i : Nat} (h : cs[i]? = some c) : totS (cs.set i d) + wtC c = totS cs + wtC d := sumg_set h
theorem sumg_mod {g : Cl → Nat} {cs : List Cl} {f : Cl → Cl} {i : Nat} (h : cs[i]? = some c) : ((cs.modify i f).map g).sum + g c = (cs.map g).sum + g (f c) := by
 have e : cs.modify i f = cs.set i (f c) := by
  apply List.ext_getElem?
  intro j
  rw [List.getElem?_modify, List.getElem?_set]
  by_cases e : i = j
  ·subst e
   have hlt := (List.getElem?_eq_some_iff.1 h).1
   rw [h]; simp [hlt]
  ·simp only [e, if_false]; cases cs[j]? <;> rfl
 rw [e]; exact sumg_set h
theorem sum_mod {cs : List Cl} {f : Cl → Cl} {i : Nat} (h : cs[i]? = some c) : totS (cs.modify i f) + wtC c = totS cs + wtC (f c) := sumg_mod h
/-- A step that does nothing. -/
theorem OI.idle {S' : VS} (hO : OI ls f0 h0 S) (hc : S.c[i]? = some c) (ho : S'.o = S.o) (hs : S'.s = S.s + 1) (hf : (S'.f, S'.h) = (S.f, S.h)) (hc' : S'.c = S.c.set i d) (h1 : d.l = c.l) (h2 : d.n = c.n) (h3 : c.st ≠ 3) (h4 : d.st ≠ 3) (h5 : wtC d = wtC c + 1) (h6 : d.bg < S.s + 1) : OI ls f0 h0 S' := by
 have hi : i < S.c.length := (List.getElem?_eq_some_iff.1 hc).1
 have hg : ∀ (j : Nat) (y : Cl), S'.c[j]? = some y → (j = i ∧ y = d) ∨ (j ≠ i ∧ S.c[j]? = some y) := fun j y h => by rw [hc'] at h; exact get_set hi h
 refine ⟨by rw [hc', List.length_set]; exact hO.len, fun j y hy => ?_, by rw [ho]; exact hO.seq, fun j y hy => ?_, fun x hx => ?_, fun y hy hst => ?_, by rw [ho]; exact hO.ord, fun j y hy hst => ?_, fun t x hx => ?_, by rw [ho, hf]; exact hO.pl, ?_, ?_⟩
 ·rcases hg j y hy with ⟨rfl, rfl⟩ | ⟨_, h⟩
  ·rw [h1, h2]; exact hO.lst _ c hc
  ·exact hO.lst j y h
 ·rw [ho]
  rcases hg j y hy with ⟨rfl, rfl⟩ | ⟨_, h⟩
  ·have := hO.cnt _ c hc
   rw [if_neg h3] at this
   rw [if_neg h4, h2]; exact this
  ·exact hO.cnt j y h
 ·rw [ho] at hx; rw [hs]
  have := hO.tim x hx
  exact ⟨by omega, this.2⟩
 ·rw [hs]
  obtain ⟨j, hj⟩ := List.getElem?_of_mem hy
  rcases hg j y hj with ⟨rfl, rfl⟩ | ⟨_, h⟩
  ·exact h6
  ·have := hO.cbg y (List.mem_of_getElem? h) hst; omega
 ·rw [ho]
  rcases hg j y hy with ⟨rfl, rfl⟩ | ⟨_, h⟩
  ·exact absurd hst h4
  ·exact hO.dd j y h hst
 ·rw [ho] at hx
  rcases hO.en t x hx with ⟨e1, j, y, e2, e3, e4, e5⟩ | h
  ·refine .inl ⟨e1, j, y, e2, ?_, e4, e5⟩
   have hj : i ≠ j := fun e => by subst e; rw [hc] at e3; cases e3; exact h3 e4
   rw [hc', List.getElem?_set, if_neg hj]; exact e3
  ·exact .inr h
 ·rw [hs, hc', hO.sum]
  have := sum_set (d := d) hc
  omega
 ·rw [ho, hc', hO.ol]
  have := sumg_set (g := cnC) (d := d) hc
  have e1 : cnC c = c.n := by unfold cnC; rw [if_neg h3]; rfl
  have e2 : cnC d = c.n := by unfold cnC; rw [if_neg h4, h2]; rfl
  omega
theorem OI.step (hV : VI S) (hO : OI ls f0 h0 S) (hc : S.c[i]? = some c) (hl : c.l = p :: r) : OI ls f0 h0 (stepS S i c p) := by
 have hi : i < S.c.length := (List.getElem?_eq_some_iff.1 hc).1
 have hm := List.mem_of_getElem? hc
 have hst := hV.st c hm
 unfold stepS
 split
 ·rename_i e0
  exact hO.idle (d := { c with bg := S.s, w := !(askQ (S.q []) i (chgO p)).2.1, st := 1 }) hc rfl rfl rfl rfl rfl rfl (by omega) (by simp) (by simp only [wtC]; omega) (by simp only; omega)
 ·rename_i e0
  have hbg := hO.cbg c hm (by omega)
  split
  ·rename_i e1
   unfold askS
   split
   ·exact hO.idle (d := { c with key := 47 :: fileP S.h i p.h, w := !(askQ (S.q (47 :: fileP S.h i p.h)) i (!decide (p.k = 2))).2.1, st := 2 }) hc rfl rfl rfl rfl rfl rfl (by omega) (by simp) (by simp only [wtC]; omega) (by simp only; omega)
   ·exact hO.idle (d := { c with key := [], st := 2 }) hc rfl rfl rfl rfl rfl rfl (by omega) (by simp) (by simp only [wtC]; omega) (by simp only; omega)
  ·rename_i e1
   obtain ⟨l0, hl0, hl1, hl2⟩ := hO.lst i c hc
   have hp : l0[c.n]? = some p := by
    have := congrArg (·[0]?) (hl1.symm.trans hl)
    simpa using this
   have hlt := (List.getElem?_eq_some_iff.1 hp).1
   have hcn := hO.cnt i c hc
   split
   ·rename_i e2
    have hn3 : ¬ c.st = 3 := by omega
    rw [if_neg hn3] at hcn
    have hg : ∀ (j : Nat) (y : Cl), (commitS S i c p).c[j]? = some y → (j = i ∧ y = { c with dd := S.o.length, st := 3 }) ∨ (j ≠ i ∧ S.c[j]? = some y) := fun j y h => get_set hi h
    have hog : ∀ (t : Nat) (x : Dd), (commitS S i c p).o[t]? = some x → S.o[t]? = some x ∨ (t = S.o.length ∧ x = ⟨i, c.n, c.bg, -1, (doS S.f S.h i p).1⟩) := fun t x h => by
     simp only [commitS] at h
     rw [List.getElem?_append] at h
     split at h
     ·exact .inl h
     ·have : t - S.o.length = 0 := by
       rcases Nat.eq_zero_or_pos (t - S.o.length) with h0 | h0
       ·exact h0
       ·rw [List.getElem?_eq_none (by simp; omega)] at h; cases h
      rw [this] at h
      simp only [List.getElem?_cons_zero, Option.some.injEq] at h
      exact .inr ⟨by omega, h.symm⟩
    refine ⟨by simp only [commitS, List.length_set]; exact hO.len, fun j y hy => ?_, fun t x hx => ?_, fun j y hy => ?_, fun x hx => ?_, fun y hy hst => ?_, fun t t' x x' htt hx hx' => ?_, fun j y hy hst => ?_, fun t x hx => ?_, ?_, ?_, ?_⟩
    ·rcases hg j y hy with ⟨rfl, rfl⟩ | ⟨_, h⟩
     ·exact ⟨l0, hl0, hl1, hl2⟩
     ·exact hO.lst j y h
    ·rcases hog t x hx with h | ⟨rfl, rfl⟩
     ·obtain ⟨j, l, g1, g2, g3, g4⟩ := hO.seq t x h
      refine ⟨j, l, g1, g2, ?_, g4⟩
      simp only [commitS]
      rw [List.take_append_of_le_length (Nat.le_of_lt (List.getElem?_eq_some_iff.1 h).1)]
      exact g3
     ·refine ⟨i, l0, rfl, hl0, ?_, hlt⟩
      simp only [commitS]
      rw [List.take_append_of_le_length (Nat.le_refl _), List.take_length, hcn]; simp
    ·simp only [commitS]
     rw [cntO_snoc]
     rcases hg j y hy with ⟨rfl, rfl⟩ | ⟨hj, h⟩
     ·simp [hcn]
     ·rw [hO.cnt j y h]
      have : ¬ ((i : Nat) : Int) = (j : Nat) := by omega
      rw [if_neg this]; rfl
    ·simp only [commitS] at hx ⊢
     rcases List.mem_append.1 hx with h | h
     ·have := hO.tim x h
      exact ⟨by omega, this.2⟩
     ·rw [List.mem_singleton.1 h]; exact ⟨by simp only; omega, .inl rfl⟩
    ·simp only [commitS]
     obtain ⟨j, hj⟩ := List.getElem?_of_mem hy
     rcases hg j y hj with ⟨rfl, rfl⟩ | ⟨_, h⟩
     ·simp only; omega
     ·have := hO.cbg y (List.mem_of_getElem? h) hst; omega
    ·rcases hog t x hx with h | ⟨rfl, rfl⟩
     ·rcases hog t' x' hx' with h' | ⟨rfl, rfl⟩
      ·exact hO.ord t t' x x' htt h h'
      ·have := (List.getElem?_eq_some_iff.1 h).1; omega
     ·exact .inl rfl
    ·rcases hg j y hy with ⟨rfl, rfl⟩ | ⟨_, h⟩
     ·exact ⟨_, by simp only [commitS]; rw [List.getElem?_append_right (Nat.le_refl _), Nat.sub_self]; rfl, rfl, rfl, rfl⟩
     ·obtain ⟨x, g1, g2⟩ := hO.dd j y h hst
      exact ⟨x, by simp only [commitS]; rw [List.getElem?_append_left (List.getElem?_eq_some_iff.1 g1).1]; exact g1, g2⟩
    ·rcases hog t x hx with h | ⟨rfl, rfl⟩
     ·rcases hO.en t x h with ⟨g1, j, y, g2, g3, g4, g5⟩ | h
      ·refine .inl ⟨g1, j, y, g2, ?_, g4, g5⟩
       have hj : i ≠ j := fun e => by subst e; rw [hc] at g3; cases g3; exact hn3 g4
       simp only [commitS]
       rw [List.getElem?_set, if_neg hj]; exact g3
      ·exact .inr h
     ·refine .inl ⟨rfl, i, { c with dd := S.o.length, st := 3 }, rfl, ?_, rfl, rfl⟩
      simp only [commitS]
      rw [List.getElem?_set, if_pos rfl, if_pos hi]
    ·simp only [commitS]
     obtain ⟨g1, g2⟩ := hO.pl
     have e1 := congrArg Prod.fst g2
     have e2 := congrArg Prod.snd g2
     simp only at e1 e2
     have := play_snoc (ls := ls) (x := ⟨i, c.n, c.bg, -1, (doS S.f S.h i p).1⟩) (p := p) g1 (by simp [hl0, hp]) (by rw [e1, e2])
     rw [e1, e2] at this
     exact this
    ·simp only [commitS]
     have := sum_set (d := { c with dd := S.o.length, st := 3 }) hc
     rw [hO.sum]
     simp only [wtC] at this
     omega
    ·simp only [commitS]
     have := sumg_set (g := cnC) (d := { c with dd := S.o.length, st := 3 }) hc
     have e1 : cnC c = c.n := by unfold cnC; rw [if_neg hn3]; rfl
     have e2 : cnC { c with dd := S.o.length, st := 3 } = c.n + 1 := by unfold cnC; rw [if_pos rfl]
     have e3 := hO.ol
     rw [List.length_append, List.length_singleton]
     omega
   ·rename_i e2
    have h3 : c.st = 3 := by omega
    obtain ⟨x0, hx0, hw0, hn0, he0⟩ := hO.dd i c hc h3
    have hdl := (List.getElem?_eq_some_iff.1 hx0).1
    rw [if_pos h3] at hcn
    have hg : ∀ (j : Nat) (y : Cl), (endS S i c).c[j]? = some y → (j = i ∧ y.l = c.l.drop 1 ∧ y.n = c.n + 1 ∧ y.st = 0) ∨ (j ≠ i ∧ ∃ z, S.c[j]? = some z ∧ (y = z ∨ y = { z with w := false })) := fun j y h => by
     simp only [endS] at h
     rw [List.getElem?_modify] at h
     cases e : (endV S i c).c[j]? with
     | none => rw [e] at h; cases h
     | some z =>
      rw [e] at h
      simp only [Option.map_eq_map, Option.map_some, Option.some.injEq] at h
      by_cases ej : i = j
      ·subst ej; rw [if_pos rfl] at h; subst h; exact .inl ⟨rfl, rfl, rfl, rfl⟩
      ·rw [if_neg ej] at h; subst h; exact .inr ⟨fun e => ej e.symm, endV_get hV e⟩
    have hback : ∀ (j : Nat) (z : Cl), j ≠ i → S.c[j]? = some z → ∃ y, (endS S i c).c[j]? = some y ∧ y.st = z.st ∧ y.dd = z.dd := fun j z hj hz => by
     have hjl := (List.getElem?_eq_some_iff.1 hz).1
     have hE : j < (endV S i c).c.length := by rw [endV_len]; exact hjl
     obtain ⟨z', g1, g2⟩ := endV_get hV (List.getElem?_eq_getElem hE)
     rw [hz] at g1; cases g1
     refine ⟨(endV S i c).c[j], ?_, ?_⟩
     ·simp only [endS]
      rw [List.getElem?_modify, List.getElem?_eq_getElem hE]
      simp only [Option.map_eq_map, Option.map_some, if_neg (fun e : i = j => hj e.symm)]
     ·rcases g2 with g2 | g2 <;> rw [g2] <;> exact ⟨rfl, rfl⟩
    have hog : ∀ (t : Nat) (x : Dd), (endS S i c).o[t]? = some x → (t = c.dd ∧ x = { x0 with en := S.s }) ∨ (t ≠ c.dd ∧ S.o[t]? = some x) := fun t x h => by
     simp only [endS] at h
     rw [List.getElem?_modify] at h
     by_cases e : c.dd = t
     ·subst e
      rw [hx0] at h
      simp only [if_true, Option.map_eq_map, Option.map_some, Option.some.injEq] at h
      exact .inl ⟨rfl, h.symm⟩
     ·refine .inr ⟨fun e2 => e e2.symm, ?_⟩
      simp only [e, if_false] at h
      cases e3 : S.o[t]? with
      | none => rw [e3] at h; cases h
      | some y => rw [e3] at h; exact h
    have h0t := hO.tim x0 (List.mem_of_getElem? hx0)
    refine ⟨by simp only [endS, List.length_modify, endV_len]; exact hO.len, fun j y hy => ?_, fun t x hx => ?_, fun j y hy => ?_, fun x hx => ?_, fun y hy hst => ?_, fun t t' x x' htt hx hx' => ?_, fun j y hy hst => ?_, fun t x hx => ?_, ?_, ?_, ?_⟩
    ·rcases hg j y hy with ⟨rfl, g1, g2, g3⟩ | ⟨_, z, hz, h⟩
     ·exact ⟨l0, hl0, by rw [g1, g2, hl1, List.drop_drop], by rw [g2]; omega⟩
     ·have := hO.lst j z hz
      rcases h with rfl | rfl <;> exact this
    ·have hcm : ∀ k, cntO ((endS S i c).o.take t) k = cntO (S.o.take t) k := fun k => by
      simp only [endS]; rw [take_mod, isW_mod (f := fun d : Dd => { d with en := (S.s : Int) }) (fun _ => rfl)]
     rcases hog t x hx with ⟨rfl, rfl⟩ | ⟨_, h⟩
     ·obtain ⟨j, l, g1, g2, g3, g4⟩ := hO.seq _ x0 hx0
      exact ⟨j, l, g1, g2, by rw [hcm]; exact g3, g4⟩
     ·obtain ⟨j, l, g1, g2, g3, g4⟩ := hO.seq t x h
      exact ⟨j, l, g1, g2, by rw [hcm]; exact g3, g4⟩
    ·simp only [endS]
     rw [isW_mod (f := fun d : Dd => { d with en := (S.s : Int) }) (fun _ => rfl)]
     rcases hg j y hy with ⟨rfl, g1, g2, g3⟩ | ⟨_, z, hz, h⟩
     ·rw [g2, g3, hcn]; simp
     ·have := hO.cnt j z hz
      rcases h with rfl | rfl <;> exact this
    ·obtain ⟨t, ht⟩ := List.getElem?_of_mem hx
     simp only [endS]
     rcases hog t x ht with ⟨rfl, rfl⟩ | ⟨_, h⟩
     ·exact ⟨by simp only; omega, .inr (by simp only; omega)⟩
     ·have := hO.tim x (List.mem_of_getElem? h)
      exact ⟨by omega, this.2⟩
    ·obtain ⟨j, hj⟩ := List.getElem?_of_mem hy
     simp only [endS]
     rcases hg j y hj with ⟨rfl, g1, g2, g3⟩ | ⟨_, z, hz, h⟩
     ·omega
     ·have hz2 := List.mem_of_getElem? hz
      rcases h with rfl | rfl
      ·have := hO.cbg y hz2 hst; omega
      ·have := hO.cbg z hz2 hst; simp only; omega
    ·have hb : ∀ (t : Nat) (x : Dd), (endS S i c).o[t]? = some x → ∃ y, S.o[t]? = some y ∧ x.bg = y.bg := fun t x h => by
      rcases hog t x h with ⟨rfl, rfl⟩ | ⟨_, h⟩
      ·exact ⟨x0, hx0, rfl⟩
      ·exact ⟨x, h, rfl⟩
     obtain ⟨y', g1, g2⟩ := hb t' x' hx'
     rw [g2]
     rcases hog t x hx with ⟨rfl, rfl⟩ | ⟨_, h⟩
     ·have := (hO.tim y' (List.mem_of_getElem? g1)).1
      right; simp only; omega
     ·exact hO.ord t t' x y' htt h g1
    ·rcases hg j y hy with ⟨rfl, g1, g2, g3⟩ | ⟨hj, z, hz, h⟩
     ·omega
     ·have hzs : z.st = 3 ∧ z.dd = y.dd ∧ z.n = y.n := by rcases h with rfl | rfl <;> exact ⟨hst, rfl, rfl⟩
      obtain ⟨x, g1, g2, g3, g4⟩ := hO.dd j z hz hzs.1
      refine ⟨x, ?_, g2, by rw [g3]; exact hzs.2.2, g4⟩
      have hne : c.dd ≠ y.dd := fun e => by
       rw [hzs.2.1, ← e, hx0] at g1
       cases g1
       rw [hw0] at g2
       omega
      simp only [endS]
      rw [List.getElem?_modify, ← hzs.2.1, g1]
      simp only [hzs.2.1, hne, if_false, Option.map_eq_map, Option.map_some]
    ·rcases hog t x hx with ⟨rfl, rfl⟩ | ⟨ht, h⟩
     ·right; simp only; omega
     ·rcases hO.en t x h with ⟨g1, j, z, g2, g3, g4, g5⟩ | h
      ·have hj : j ≠ i := fun e => by subst e; rw [hc] at g3; cases g3; exact ht g5.symm
       obtain ⟨y, f1, f2, f3⟩ := hback j z hj g3
       exact .inl ⟨g1, j, y, g2, f1, by rw [f2]; exact g4, by rw [f3]; exact g5⟩
      ·exact .inr h
    ·simp only [endS]
     rw [play_mod (g := fun d : Dd => { d with en := (S.s : Int) }) (fun _ => rfl) (fun _ => rfl) (fun _ => rfl), endV_o.2.2.1, endV_o.2.2.2]
     exact hO.pl
    ·simp only [endS]
     have hE : i < (endV S i c).c.length := by rw [endV_len]; exact hi
     obtain ⟨z, g1, g2⟩ := endV_get hV (List.getElem?_eq_getElem hE)
     rw [hc] at g1; cases g1
     have hwt : wtC (endV S i c).c[i] = wtC c := by rcases g2 with g2 | g2 <;> rw [g2] <;> rfl
     have := sum_mod (f := fun d => { d with l := c.l.drop 1, n := c.n + 1, st := 0 }) (List.getElem?_eq_getElem hE)
     rw [hwt] at this
     have e : totS (endV S i c).c = totS S.c := by unfold totS; rw [endV_map (fun _ => rfl)]
     rw [e] at this
     rw [hO.sum]
     simp only [wtC] at this
     omega
    ·simp only [endS]
     have hE : i < (endV S i c).c.length := by rw [endV_len]; exact hi
     obtain ⟨z, g1, g2⟩ := endV_get hV (List.getElem?_eq_getElem hE)
     rw [hc] at g1; cases g1
     have hwt : cnC (endV S i c).c[i] = c.n + 1 := by unfold cnC; rcases g2 with g2 | g2 <;> rw [g2] <;> simp only [h3, if_true]
     have := sumg_mod (g := cnC) (f := fun d => { d with l := c.l.drop 1, n := c.n + 1, st := 0 }) (List.getElem?_eq_getElem hE)
     rw [hwt, endV_map (g := cnC) (fun _ => rfl)] at this
     have e2 : ∀ z : Cl, cnC { z with l := c.l.drop 1, n := c.n + 1, st := 0 } = c.n + 1 := fun z => rfl
     rw [e2] at this
     rw [List.length_modify, hO.ol]
     omega
theorem OI.new (f : List Raw) (h : HF) (ls : List (List OpS)) : OI ls f h (newV f h ls) := by
 have hg : ∀ (j : Nat) (y : Cl), (newV f h ls).c[j]? = some y → ∃ l, ls[j]? = some l ∧ y = ⟨l, 0, 0, 0, 0, [], false⟩ := fun j y hy => by
  simp only [newV, List.getElem?_map] at hy
  cases e : ls[j]? with
  | none => rw [e] at hy; cases hy
  | some l => rw [e] at hy; simp only [Option.map_some, Option.some.injEq] at hy; exact ⟨l, rfl, hy.symm⟩
 refine ⟨by simp [newV], fun j y hy => ?_, fun t x hx => by simp [newV] at hx, fun j y hy => ?_, fun x hx => by simp [newV] at hx, fun y hy hst => ?_, fun t t' x x' _ hx => by simp [newV] at hx, fun j y hy hst => ?_, fun t x hx => by simp [newV] at hx, ⟨trivial, rfl⟩, ?_, ?_⟩
 ·obtain ⟨l, h1, rfl⟩ := hg j y hy; exact ⟨l, h1, by simp, by simp⟩
 ·obtain ⟨l, h1, rfl⟩ := hg j y hy; simp [newV, cntO]
 ·obtain ⟨j, hj⟩ := List.getElem?_of_mem hy
  obtain ⟨l, h1, rfl⟩ := hg j y hj; simp at hst
 ·obtain ⟨l, h1, rfl⟩ := hg j y hy; cases hst
 ·simp only [newV, totS, List.map_map]
  have : ∀ l : List (List OpS), (l.map (wtC ∘ fun l => (⟨l, 0, 0, 0, 0, [], false⟩ : Cl))).sum = 0 := fun l => by
   induction l with
   | nil => rfl
   | cons a l ih => simp only [List.map_cons, List.sum_cons, ih]; rfl
  exact (this ls).symm
 ·simp only [newV, List.map_map]
  have : ∀ l : List (List OpS), (l.map (cnC ∘ fun l => (⟨l, 0, 0, 0, 0, [], false⟩ : Cl))).sum = 0 := fun l => by
   induction l with
   | nil => rfl
   | cons a l ih => simp only [List.map_cons, List.sum_cons, ih]; rfl
  exact (this ls).symm
end
end Go.Proofs.Ytebfjdolgchgaaa

namespace Go.Proofs.Ytebfjdolgchgaaa
open Go Go.Fw Go.RowKit
set_option linter.unusedVariables false
set_option linter.unusedSimpArgs false

structure AI (ls : List (List OpS)) (f0 : List Raw) (h0 : HF) (S : VS) : Prop where
 vi : VI S
 si : SI S
 oi : OI ls f0 h0 S
section
variable {S : VS} {ls : List (List OpS)} {f0 : List Raw} {h0 : HF} {who : Int} {c : Cl} {i : Nat}
theorem AI.new (hl : ls.length ≤ 8) : AI ls f0 h0 (newV f0 h0 ls) := ⟨VI.new hl, SI.new, OI.new _ _ _⟩
theorem cliS_some (h : cliS S who = some c) : 0 ≤ who ∧ S.c[who.toNat]? = some c := by
 unfold cliS at h
 split at h
 ·rename_i h0; exact ⟨h0, h⟩
 ·cases h
theorem cliS_at (h : S.c[i]? = some c) : cliS S (i : Int) = some c := by
 unfold cliS
 rw [if_pos (by omega), Int.toNat_natCast, h]
theorem AI.step (hA : AI ls f0 h0 S) : AI ls f0 h0 (stepV S who).1 := by
 unfold stepV
 cases h : cliS S who with
 | none => exact hA
 | some c =>
  simp only
  cases hl : c.l with
  | nil => exact hA
  | cons o r =>
   simp only
   split
   ·exact hA
   ·rename_i hw
    simp only [Bool.not_eq_true] at hw
    have hc := (cliS_some h).2
    exact ⟨hA.vi.step hc, hA.si.step hA.vi hc hl hw, hA.oi.step hA.vi hc hl⟩
def runV (S : VS) (ps : List Int) : VS := ps.foldl (fun S p => (stepV S p).1) S
theorem AI.run : ∀ {ps : List Int} {S : VS}, AI ls f0 h0 S → AI ls f0 h0 (runV S ps)
 | [], S, h => h
 | p :: ps, S, h => AI.run (ps := ps) h.step

/-! ## How many steps there are -/
def allL (ls : List (List OpS)) : Nat := (ls.map List.length).sum
theorem sum_le {α β : Type} {g : α → Nat} {k : β → Nat} : ∀ {l : List α} {m : List β}, l.length = m.length → (∀ (i : Nat) (a : α) (b : β), l[i]? = some a → m[i]? = some b → g a ≤ k b) → (l.map g).sum ≤ (m.map k).sum ∧ ((l.map g).sum = (m.map k).sum → ∀ (i : Nat) (a : α) (b : β), l[i]? = some a → m[i]? = some b → g a = k b)
 | [], [], _, _ => ⟨Nat.le_refl _, fun _ i a b h => by simp at h⟩
 | a :: l, b :: m, hl, h => by
  obtain ⟨h1, h2⟩ := sum_le (l := l) (m := m) (by simpa using hl) (fun i x y hx hy => h (i + 1) x y (by simpa using hx) (by simpa using hy))
  have h0 := h 0 a b rfl rfl
  simp only [List.map_cons, List.sum_cons]
  refine ⟨by omega, fun e i x y hx hy => ?_⟩
  cases i with
  | zero => simp at hx hy; subst hx; subst hy; omega
  | succ i => exact h2 (by omega) i x y (by simpa using hx) (by simpa using hy)
theorem mul_sum (ls : List (List OpS)) : (ls.map fun l => 4 * l.length).sum = 4 * allL ls := by
 unfold allL
 induction ls with
 | nil => rfl
 | cons l ls ih => simp only [List.map_cons, List.sum_cons, ih]; omega
theorem AI.wt (hA : AI ls f0 h0 S) (j : Nat) (c : Cl) (l : List OpS) (hc : S.c[j]? = some c) (hl : ls[j]? = some l) : wtC c ≤ 4 * l.length ∧ (wtC c = 4 * l.length → c.l = [] ∧ c.st = 0 ∧ c.n = l.length) := by
 obtain ⟨l0, h1, h2, h3⟩ := hA.oi.lst j c hc
 rw [hl] at h1; cases h1
 have hC := hA.si.ci c (List.mem_of_getElem? hc)
 have hle := hC.le
 have hlen : c.l.length = l.length - c.n := by rw [h2, List.length_drop]
 unfold wtC
 by_cases h0 : c.st = 0
 ·refine ⟨by omega, fun h => ⟨?_, h0, by omega⟩⟩
  have : c.l.length = 0 := by omega
  exact List.length_eq_zero_iff.1 this
 ·have := hC.l0 (by omega)
  have : c.l.length ≠ 0 := fun e => this (List.length_eq_zero_iff.1 e)
  exact ⟨by omega, fun h => by omega⟩
theorem AI.sum (hA : AI ls f0 h0 S) : S.s ≤ 4 * allL ls ∧ (S.s = 4 * allL ls → ∀ (j : Nat) (c : Cl), S.c[j]? = some c → c.l = [] ∧ c.st = 0) := by
 have h := sum_le (g := wtC) (k := fun l : List OpS => 4 * l.length) (l := S.c) (m := ls) hA.oi.len (fun j c l hc hl => (hA.wt j c l hc hl).1)
 rw [mul_sum] at h
 have e := hA.oi.sum
 unfold totS at e
 refine ⟨by omega, fun he j c hc => ?_⟩
 obtain ⟨l0, h1, _, _⟩ := hA.oi.lst j c hc
 have := h.2 (by omega) j c l0 hc h1
 have := (hA.wt j c l0 hc h1).2 this
 exact ⟨this.1, this.2.1⟩
theorem AI.left (hA : AI ls f0 h0 S) (h : S.s < 4 * allL ls) : ∃ c ∈ S.c, c.l ≠ [] := by
 refine Classical.byContradiction fun hno => ?_
 have hall : ∀ c ∈ S.c, c.l = [] := fun c hc => Classical.byContradiction fun e => hno ⟨c, hc, e⟩
 have key : ∀ (j : Nat) (c : Cl) (l : List OpS), S.c[j]? = some c → ls[j]? = some l → 4 * l.length ≤ wtC c := fun j c l hc hl => by
  obtain ⟨l0, h1, h2, h3⟩ := hA.oi.lst j c hc
  rw [hl] at h1; cases h1
  have h4 : c.l.length = l.length - c.n := by rw [h2, List.length_drop]
  rw [hall c (List.mem_of_getElem? hc)] at h4
  simp only [List.length_nil] at h4
  unfold wtC; omega
 have := (sum_le (g := fun l : List OpS => 4 * l.length) (k := wtC) (l := ls) (m := S.c) hA.oi.len.symm (fun j l c hl hc => key j c l hc hl)).1
 rw [mul_sum] at this
 have e := hA.oi.sum
 unfold totS at e
 omega
theorem stepV_no (h : (stepV S who).2 = false) : (stepV S who).1 = S := by
 unfold stepV at h ⊢
 cases e : cliS S who with
 | none => rfl
 | some c =>
  rw [e] at h
  simp only at h ⊢
  cases hl : c.l with
  | nil => rfl
  | cons o r =>
   rw [hl] at h
   simp only at h ⊢
   split
   ·rfl
   ·rename_i hw; rw [if_neg hw] at h; cases h
/-- When all is done. -/
theorem AI.done (hA : AI ls f0 h0 S) (h : ¬ S.s < 4 * allL ls) : (∀ w, leftV S w = 0) ∧ (∀ w, blockV S w = false) ∧ (∀ w, (stepV S w).2 = false) ∧ (∀ d ∈ S.o, 0 ≤ d.en) ∧ S.o.length = allL ls := by
 obtain ⟨h1, h2⟩ := hA.sum
 have h2 := h2 (by omega)
 have hl : ∀ w c, cliS S w = some c → c.l = [] := fun w c hc => (h2 _ c (cliS_some hc).2).1
 refine ⟨fun w => ?_, fun w => ?_, fun w => ?_, fun d hd => ?_, ?_⟩
 ·unfold leftV
  cases e : cliS S w with
  | none => rfl
  | some c => simp only; rw [hl w c e]; rfl
 ·unfold blockV
  cases e : cliS S w with
  | none => rfl
  | some c =>
   simp only
   have hc := (cliS_some e).2
   have := (h2 _ c hc).2
   cases hw : c.w with
   | false => rfl
   | true => rcases (hA.si.ci c (List.mem_of_getElem? hc)).w1 hw with h | h <;> omega
 ·unfold stepV
  cases e : cliS S w with
  | none => rfl
  | some c => simp only; rw [hl w c e]
 ·obtain ⟨t, ht⟩ := List.getElem?_of_mem hd
  rcases hA.oi.en t d ht with ⟨_, j, c, _, g2, g3, _⟩ | h
  ·have := (h2 j c g2).2; omega
  ·exact h
 ·have e1 : (S.c.map cnC).sum = (ls.map List.length).sum := by
   refine Nat.le_antisymm ?_ ?_
   ·refine (sum_le (g := cnC) (k := List.length) (l := S.c) (m := ls) hA.oi.len fun j c l hc hl => ?_).1
    obtain ⟨l0, g1, g2, g3⟩ := hA.oi.lst j c hc
    rw [hl] at g1; cases g1
    have := (h2 j c hc).2
    unfold cnC; rw [if_neg (by omega)]; omega
   ·refine (sum_le (g := List.length) (k := cnC) (l := ls) (m := S.c) hA.oi.len.symm fun j l c hl hc => ?_).1
    obtain ⟨l0, g1, g2, g3⟩ := hA.oi.lst j c hc
    rw [hl] at g1; cases g1
    have g4 : c.l.length = l.length - c.n := by rw [g2, List.length_drop]
    rw [(h2 j c hc).1] at g4
    simp only [List.length_nil] at g4
    unfold cnC; omega
  rw [hA.oi.ol, e1]; rfl
end
end Go.Proofs.Ytebfjdolgchgaaa

namespace Go.Proofs.Ytebfjdolgchgaaa
open Go Go.Fw Go.RowKit
set_option linter.unusedVariables false
set_option linter.unusedSimpArgs false

section
variable {S : VS} {ls : List (List OpS)} {f0 : List Raw} {h0 : HF} {who : Int} {c : Cl} {i : Nat} {o : OpS} {r : List OpS}
theorem stepV_at (hc : S.c[i]? = some c) (hl : c.l = o :: r) (hw : c.w = false) : stepV S (i : Int) = (stepS S i c o, true) := by
 unfold stepV
 rw [cliS_at hc]
 simp only [hl]
 rw [if_neg (by rw [hw]; decide), Int.toNat_natCast]
theorem stepV_yes (h : (stepV S who).2 = true) : ∃ (i : Nat) (c : Cl) (o : OpS) (r : List OpS), who = (i : Int) ∧ S.c[i]? = some c ∧ c.l = o :: r ∧ c.w = false ∧ stepV S who = (stepS S i c o, true) := by
 cases e : cliS S who with
 | none => unfold stepV at h; rw [e] at h; cases h
 | some c =>
  obtain ⟨h1, h2⟩ := cliS_some e
  have hw0 : who = (who.toNat : Int) := by omega
  cases hl : c.l with
  | nil => unfold stepV at h; rw [e] at h; simp only [hl] at h; cases h
  | cons o r =>
   cases hw : c.w with
   | true => unfold stepV at h; rw [e] at h; simp only [hl, hw, if_true] at h; cases h
   | false => exact ⟨who.toNat, c, o, r, hw0, h2, hl, hw, by rw [hw0]; exact stepV_at h2 hl hw⟩

theorem mayQ_w {h : List Qa} (hh : ∀ a ∈ h, a.2 = true) : mayQ h true = h.isEmpty := by unfold mayQ; simp
/-! ## Who asks first does so first -/
structure FI (S : VS) (came : List Int) : Prop where
 op : ∀ c ∈ S.c, ∀ o ∈ c.l, chgO o = true ∧ lockO o = false
 one : ∀ c ∈ S.c, c.l.length + c.n ≤ 1
 wr : ∀ a ∈ (S.q []).1 ++ (S.q []).2, a.2 = true
 ky : ∀ c ∈ S.c, 2 ≤ c.st → c.key = []
 bg : ∀ (j : Nat) (c : Cl), S.c[j]? = some c → ((j : Int) ∈ came ↔ 1 ≤ c.st ∨ 1 ≤ c.n)
 ord : ∃ E : List Int, came = E ++ ((S.q []).1 ++ (S.q []).2).map (·.1) ∧
  ((S.o.map (·.who) = E ∧ ∀ c ∈ S.c, c.st ≠ 3) ∨ (∃ (i : Nat) (c : Cl), (S.q []).1 = [((i : Int), true)] ∧ S.c[i]? = some c ∧ c.st = 3 ∧ S.o.map (·.who) = E ++ [(i : Int)]))
theorem FI.said {came : List Int} (h : FI S came) : ∀ (t : Nat) (d : Dd), S.o[t]? = some d → came[t]? = some d.who := by
 obtain ⟨E, h1, h2⟩ := h.ord
 intro t d ht
 have hw : (S.o.map (·.who))[t]? = some d.who := by rw [List.getElem?_map, ht]; rfl
 rcases h2 with ⟨h3, _⟩ | ⟨i, c, h3, _, _, h4⟩
 ·rw [h1, ← h3, List.getElem?_append_left (List.getElem?_eq_some_iff.1 hw).1]; exact hw
 ·rw [h3] at h1
  simp only [List.cons_append, List.nil_append, List.map_cons] at h1
  rw [h1, show E ++ (i : Int) :: ((S.q []).2.map (·.1)) = (E ++ [(i : Int)]) ++ (S.q []).2.map (·.1) by simp, ← h4, List.getElem?_append_left (List.getElem?_eq_some_iff.1 hw).1]
  exact hw
theorem FI.head (hA : AI ls f0 h0 S) {came : List Int} (h : FI S came) (hc : S.c[i]? = some c) (hl : c.l = o :: r) (hs : 2 ≤ c.st) : (S.q []).1 = [((i : Int), true)] := by
 have hch : chgC c = true := by unfold chgC; rw [hl]; exact (h.op c (List.mem_of_getElem? hc) o (by rw [hl]; simp)).1
 have hm : ((i : Int), true) ∈ (S.q []).1 := ((hA.si.me [] i c hc) true).1.2 (by unfold statC; rw [if_pos rfl, if_neg (by omega), hch, decide_eq_false (by omega)]; rfl)
 have hle : (S.q []).1.length ≤ 1 := by
  rcases (hA.vi.qi []).excl with h | h
  ·have := h _ hm; cases this
  ·exact h
 cases e : (S.q []).1 with
 | nil => rw [e] at hm; cases hm
 | cons x s =>
  have : s = [] := by
   rw [e] at hle
   cases s with
   | nil => rfl
   | cons _ _ => simp at hle
  subst this
  rw [e] at hm
  rw [List.mem_singleton.1 hm]
theorem FI.step {came : List Int} (hA : AI ls f0 h0 S) (h : FI S came) (hs : (stepV S (i : Int)).2 = true) : FI (stepV S (i : Int)).1 (if (i : Int) ∈ came then came else came ++ [(i : Int)]) := by
 obtain ⟨j, c, o, r, hj, hc, hl, hw, he⟩ := stepV_yes hs
 have : j = i := by omega
 subst this
 rw [he]
 simp only
 have hi : j < S.c.length := (List.getElem?_eq_some_iff.1 hc).1
 have hm := List.mem_of_getElem? hc
 have hop := h.op c hm o (by rw [hl]; simp)
 have hone := h.one c hm
 have hn0 : c.n = 0 := by rw [hl] at hone; simp at hone; omega
 have hbg := h.bg j c hc
 obtain ⟨E, ho1, ho2⟩ := h.ord
 have hle := (hA.si.ci c hm).le
 by_cases h0 : c.st = 0
 ·have hnot : (j : Int) ∉ came := fun e => by have := hbg.1 e; omega
  rw [if_neg hnot]
  have hst : stepS S j c o = beginS S j c o := by unfold stepS; rw [if_pos h0]
  rw [hst]
  have hme := hA.si.me [] j c hc
  rw [show statC c [] = none by unfold statC; simp [h0]] at hme
  have hno : hasQ (S.q []).1 j = false ∧ hasQ (S.q []).2 j = false := MemC.no hme
  have hask : (askQ (S.q []) (j : Int) (chgO o)).1.1 ++ (askQ (S.q []) (j : Int) (chgO o)).1.2 = ((S.q []).1 ++ (S.q []).2) ++ [((j : Int), true)] ∧ ((S.q []).1 ≠ [] → (askQ (S.q []) (j : Int) (chgO o)).1.1 = (S.q []).1) := by
   unfold askQ
   rw [if_neg (by rw [hno.1, hno.2]; decide), hop.1]
   split
   ·rename_i hm
    simp only [Bool.and_eq_true, List.isEmpty_iff] at hm
    refine ⟨by simp [hm.1], fun hne => ?_⟩
    have := hm.2
    rw [mayQ_w (fun a ha => h.wr a (List.mem_append_left _ ha)), List.isEmpty_iff] at this
    exact absurd this hne
   ·exact ⟨by simp, fun _ => rfl⟩
  have hg : ∀ (k : Nat) (y : Cl), (beginS S j c o).c[k]? = some y → (k = j ∧ y.l = c.l ∧ y.n = c.n ∧ y.st = 1) ∨ (k ≠ j ∧ S.c[k]? = some y) := fun k y hy => by
   rcases get_set hi hy with ⟨rfl, rfl⟩ | h
   ·exact .inl ⟨rfl, rfl, rfl, rfl⟩
   ·exact .inr h
  have hgm : ∀ y ∈ (beginS S j c o).c, (y.l = c.l ∧ y.n = c.n ∧ y.st = 1) ∨ y ∈ S.c := fun y hy => by
   obtain ⟨k, hk⟩ := List.getElem?_of_mem hy
   rcases hg k y hk with ⟨_, g⟩ | ⟨_, g⟩
   ·exact .inl g
   ·exact .inr (List.mem_of_getElem? g)
  have hq : (beginS S j c o).q [] = (askQ (S.q []) (j : Int) (chgO o)).1 := by simp only [beginS, setQ_same]
  refine ⟨fun y hy => ?_, fun y hy => ?_, fun a ha => ?_, fun y hy hs => ?_, fun k y hy => ?_, E, ?_, ?_⟩
  ·rcases hgm y hy with g | g
   ·rw [g.1]; exact h.op c hm
   ·exact h.op y g
  ·rcases hgm y hy with g | g
   ·rw [g.1, g.2.1]; exact hone
   ·exact h.one y g
  ·rw [hq, hask.1] at ha
   rcases List.mem_append.1 ha with g | g
   ·exact h.wr a g
   ·rw [List.mem_singleton.1 g]
  ·rcases hgm y hy with g | g
   ·omega
   ·exact h.ky y g hs
  ·rw [List.mem_append, List.mem_singleton]
   rcases hg k y hy with ⟨rfl, g⟩ | ⟨hk, g⟩
   ·exact ⟨fun _ => .inl (by omega), fun _ => .inr rfl⟩
   ·rw [h.bg k y g]
    exact ⟨fun e => by rcases e with e | e; exact e; omega, .inl⟩
  ·rw [hq, hask.1, ho1]; simp
  ·rcases ho2 with ⟨g1, g2⟩ | ⟨k, x, g1, g2, g3, g4⟩
   ·refine .inl ⟨g1, fun y hy => ?_⟩
    rcases hgm y hy with g | g
    ·omega
    ·exact g2 y g
   ·have hkj : j ≠ k := fun e => by subst e; rw [hc] at g2; cases g2; omega
    refine .inr ⟨k, x, ?_, ?_, g3, g4⟩
    ·rw [hq, hask.2 (by rw [g1]; simp), g1]
    ·simp only [beginS]; rw [List.getElem?_set, if_neg hkj]; exact g2
 ·have hin : (j : Int) ∈ came := hbg.2 (.inl (by omega))
  rw [if_pos hin]
  by_cases h1 : c.st = 1
  ·have hst : stepS S j c o = { S with c := S.c.set j { c with key := [], st := 2 }, s := S.s + 1 } := by
    unfold stepS askS; rw [if_neg h0, if_pos h1, if_neg (by rw [hop.2]; decide)]
   rw [hst]
   have hgm : ∀ y ∈ S.c.set j { c with key := [], st := 2 }, (y.l = c.l ∧ y.n = c.n ∧ y.st = 2 ∧ y.key = []) ∨ y ∈ S.c := fun y hy => by
    rcases set_mem hy with g | g
    ·exact .inr g
    ·subst g; exact .inl ⟨rfl, rfl, rfl, rfl⟩
   refine ⟨fun y hy => ?_, fun y hy => ?_, h.wr, fun y hy hs => ?_, fun k y hy => ?_, E, ho1, ?_⟩
   ·rcases hgm y hy with g | g
    ·rw [g.1]; exact h.op c hm
    ·exact h.op y g
   ·rcases hgm y hy with g | g
    ·rw [g.1, g.2.1]; exact hone
    ·exact h.one y g
   ·rcases hgm y hy with g | g
    ·exact g.2.2.2
    ·exact h.ky y g hs
   ·rcases get_set hi hy with ⟨rfl, rfl⟩ | ⟨_, g⟩
    ·exact ⟨fun _ => .inl (by simp), fun _ => hin⟩
    ·exact h.bg k y g
   ·rcases ho2 with ⟨g1, g2⟩ | ⟨k, x, g1, g2, g3, g4⟩
    ·refine .inl ⟨g1, fun y hy => ?_⟩
     rcases hgm y hy with g | g
     ·omega
     ·exact g2 y g
    ·have hkj : j ≠ k := fun e => by subst e; rw [hc] at g2; cases g2; omega
     refine .inr ⟨k, x, g1, ?_, g3, g4⟩
     simp only; rw [List.getElem?_set, if_neg hkj]; exact g2
  ·have hhead := FI.head hA h hc hl (by omega)
   by_cases h2 : c.st = 2
   ·have hst : stepS S j c o = commitS S j c o := by unfold stepS; rw [if_neg h0, if_neg h1, if_pos h2]
    rw [hst]
    have hgm : ∀ y ∈ (commitS S j c o).c, (y.l = c.l ∧ y.n = c.n ∧ y.st = 3 ∧ y.key = c.key) ∨ y ∈ S.c := fun y hy => by
     rcases set_mem hy with g | g
     ·exact .inr g
     ·subst g; exact .inl ⟨rfl, rfl, rfl, rfl⟩
    refine ⟨fun y hy => ?_, fun y hy => ?_, h.wr, fun y hy hs => ?_, fun k y hy => ?_, E, ho1, ?_⟩
    ·rcases hgm y hy with g | g
     ·rw [g.1]; exact h.op c hm
     ·exact h.op y g
    ·rcases hgm y hy with g | g
     ·rw [g.1, g.2.1]; exact hone
     ·exact h.one y g
    ·rcases hgm y hy with g | g
     ·rw [g.2.2.2]; exact h.ky c hm (by omega)
     ·exact h.ky y g hs
    ·rcases get_set hi hy with ⟨rfl, rfl⟩ | ⟨_, g⟩
     ·exact ⟨fun _ => .inl (by simp), fun _ => hin⟩
     ·exact h.bg k y g
    ·rcases ho2 with ⟨g1, g2⟩ | ⟨k, x, g1, g2, g3, g4⟩
     ·refine .inr ⟨j, { c with dd := S.o.length, st := 3 }, hhead, ?_, rfl, ?_⟩
      ·simp only [commitS]; rw [List.getElem?_set, if_pos rfl, if_pos hi]
      ·simp only [commitS, List.map_append, g1]; rfl
     ·rw [hhead] at g1
      simp only [List.cons.injEq, Prod.mk.injEq, and_true] at g1
      have : j = k := by omega
      subst this; rw [hc] at g2; cases g2; omega
   ·have h3 : c.st = 3 := by omega
    have hk0 := h.ky c hm (by omega)
    have hend : endV S j c = freeV S j [] := by unfold endV; rw [if_pos hk0]
    have hst : stepS S j c o = endS S j c := by unfold stepS; rw [if_neg h0, if_neg h1, if_neg h2]
    rw [hst]
    have hq : (endS S j c).q [] = (freeQ (S.q []) (j : Int)).1 := by simp only [endS]; rw [hend]; simp only [freeV, setQ_same]
    have hw2 : ∀ a ∈ (S.q []).2, a.2 = true := fun a ha => h.wr a (List.mem_append_right _ ha)
    have hfree : (freeQ (S.q []) (j : Int)).1.1 ++ (freeQ (S.q []) (j : Int)).1.2 = (S.q []).2 := by
     unfold freeQ
     rw [if_pos (hasQ_iff.2 ⟨((j : Int), true), by rw [hhead]; simp, rfl⟩)]
     obtain ⟨m, g1, g2, _⟩ := grant_all (w := (S.q []).2) (h := dropQ (S.q []).1 j) (now := [])
     simp only [g1, g2]
     rw [List.append_assoc, List.take_append_drop, hhead]
     simp [dropQ]
    have hg : ∀ (k : Nat) (y : Cl), (endS S j c).c[k]? = some y → (k = j ∧ y.l = c.l.drop 1 ∧ y.n = c.n + 1 ∧ y.st = 0) ∨ (k ≠ j ∧ ∃ z, S.c[k]? = some z ∧ (y = z ∨ y = { z with w := false })) := fun k y hy => by
     simp only [endS] at hy
     rw [List.getElem?_modify] at hy
     cases e : (endV S j c).c[k]? with
     | none => rw [e] at hy; cases hy
     | some z =>
      rw [e] at hy
      simp only [Option.map_eq_map, Option.map_some, Option.some.injEq] at hy
      by_cases ej : j = k
      ·subst ej; rw [if_pos rfl] at hy; subst hy; exact .inl ⟨rfl, rfl, rfl, rfl⟩
      ·rw [if_neg ej] at hy; subst hy; exact .inr ⟨fun e => ej e.symm, endV_get hA.vi e⟩
    have hgm : ∀ y ∈ (endS S j c).c, (y.l = c.l.drop 1 ∧ y.n = c.n + 1 ∧ y.st = 0) ∨ ∃ (k : Nat) (z : Cl), k ≠ j ∧ S.c[k]? = some z ∧ y.l = z.l ∧ y.n = z.n ∧ y.st = z.st ∧ y.key = z.key := fun y hy => by
     obtain ⟨k, hk⟩ := List.getElem?_of_mem hy
     rcases hg k y hk with ⟨_, g⟩ | ⟨hk, z, g1, g2⟩
     ·exact .inl g
     ·exact .inr ⟨k, z, hk, g1, by rcases g2 with rfl | rfl <;> exact ⟨rfl, rfl, rfl, rfl⟩⟩
    refine ⟨fun y hy => ?_, fun y hy => ?_, fun a ha => ?_, fun y hy hs => ?_, fun k y hy => ?_, E ++ [(j : Int)], ?_, ?_⟩
    ·rcases hgm y hy with g | ⟨k, z, _, g1, g2, _⟩
     ·rw [g.1]; exact fun x hx => h.op c hm x (List.mem_of_mem_drop hx)
     ·rw [g2]; exact h.op z (List.mem_of_getElem? g1)
    ·rcases hgm y hy with g | ⟨k, z, _, g1, g2, g3, _⟩
     ·rw [g.1, g.2.1, List.length_drop]; omega
     ·rw [g2, g3]; exact h.one z (List.mem_of_getElem? g1)
    ·rw [hq, hfree] at ha; exact hw2 a ha
    ·rcases hgm y hy with g | ⟨k, z, _, g1, _, _, g2, g3⟩
     ·omega
     ·rw [g3]; exact h.ky z (List.mem_of_getElem? g1) (by omega)
    ·rcases hg k y hy with ⟨rfl, g⟩ | ⟨_, z, g1, g2⟩
     ·exact ⟨fun _ => .inr (by omega), fun _ => hin⟩
     ·have := h.bg k z g1
      rcases g2 with rfl | rfl <;> exact this
    ·rw [hq, hfree, ho1, hhead]; simp
    ·rcases ho2 with ⟨g1, g2⟩ | ⟨k, x, g1, g2, g3, g4⟩
     ·exact absurd h3 (g2 c hm)
     ·rw [hhead] at g1
      simp only [List.cons.injEq, Prod.mk.injEq, and_true] at g1
      have : j = k := by omega
      subst this
      refine .inl ⟨?_, fun y hy h3y => ?_⟩
      ·simp only [endS]
       rw [map_mod (g := fun d : Dd => d.who) (f := fun d : Dd => { d with en := (S.s : Int) }) (fun _ => rfl)]
       exact g4
      ·rcases hgm y hy with g | ⟨k, z, hk, g5, _, _, g6, _⟩
       ·omega
       ·have hz3 : z.st = 3 := by omega
        have hzl := (hA.si.ci z (List.mem_of_getElem? g5)).l0 (by omega)
        cases e : z.l with
        | nil => exact hzl e
        | cons o' r' =>
         have := FI.head hA h g5 e (by omega)
         rw [hhead] at this
         simp only [List.cons.injEq, Prod.mk.injEq, and_true] at this
         omega
theorem FI.new (hop : ∀ l ∈ ls, l.length ≤ 1 ∧ ∀ o ∈ l, chgO o = true ∧ lockO o = false) : FI (newV f0 h0 ls) [] := by
 have hg : ∀ c ∈ (newV f0 h0 ls).c, ∃ l ∈ ls, c = ⟨l, 0, 0, 0, 0, [], false⟩ := fun c hc => by
  obtain ⟨l, hl, rfl⟩ := List.mem_map.1 hc; exact ⟨l, hl, rfl⟩
 refine ⟨fun c hc => ?_, fun c hc => ?_, fun a ha => (by cases ha), fun c hc hs => ?_, fun j c hc => ?_, [], rfl, .inl ⟨rfl, fun c hc => ?_⟩⟩
 ·obtain ⟨l, hl, rfl⟩ := hg c hc; exact (hop l hl).2
 ·obtain ⟨l, hl, rfl⟩ := hg c hc; exact (hop l hl).1
 ·obtain ⟨l, hl, rfl⟩ := hg c hc; rfl
 ·obtain ⟨l, hl, rfl⟩ := hg c (List.mem_of_getElem? hc); simp
 ·obtain ⟨l, hl, rfl⟩ := hg c hc; simp
end
end Go.Proofs.Ytebfjdolgchgaaa
